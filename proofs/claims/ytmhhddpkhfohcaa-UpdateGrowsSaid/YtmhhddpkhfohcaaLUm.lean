import Derived.Test.YtmhhddpkhfohcaaLUi
/- Own work. Chapter 12: two lists that grow: the plain law. -/
set_option linter.unusedSimpArgs false
set_option linter.unusedVariables false
namespace Go.Esc.M
open Go Go.Esc

def thereF (u : UpdM) (t : Bool) (b : UpdM) : Bool := if b.kind = 1 ∧ b.id = u.id then decide (u.kind = 3) || decide (sha u.hash = b.hash) else t
def thereU (u : UpdM) (B : List UpdM) : Bool := B.foldl (thereF u) false
def SoundU (A B : List UpdM) : Prop := ∀ i u, A[i]? = some u → if u.kind = 1 then u.id = ((addsU (A.take i) : Nat) : Int) else thereU u B = true ∧ ∀ k v, k < i → A[k]? = some v → v.kind ≠ 1 → v.id ≠ u.id

theorem thereU_snoc (u b : UpdM) (B : List UpdM) : thereU u (B ++ [b]) = thereF u (thereU u B) b := by
  unfold thereU
  rw [List.foldl_append]
  rfl
theorem there_skip {u : UpdM} : ∀ {B : List UpdM} {t : Bool}, (∀ b ∈ B, ¬ (b.kind = 1 ∧ b.id = u.id)) → B.foldl (thereF u) t = t
  | [], t, _ => rfl
  | b :: B, t, h => by
    rw [List.foldl_cons, thereF, if_neg (h b (by simp))]
    exact there_skip fun x hx => h x (by simp [hx])
theorem there_none {u : UpdM} {B : List UpdM} (h : thereU u B = true) : ∃ b ∈ B, b.kind = 1 ∧ b.id = u.id := by
  refine Classical.byContradiction fun hn => ?_
  have : thereU u B = false := there_skip fun b hb hh => hn ⟨b, hb, hh⟩
  rw [this] at h
  cases h

theorem addsU_mono {l : List UpdM} {i j : Nat} (h : i ≤ j) : addsU (l.take i) ≤ addsU (l.take j) := by
  unfold addsU
  have e : l.take i = (l.take j).take i := by rw [List.take_take, Nat.min_eq_left h]
  rw [e]
  exact (List.Sublist.filter _ (List.take_sublist _ _)).length_le
theorem addsU_step {l : List UpdM} {i j : Nat} {u : UpdM} (h : l[i]? = some u) (hk : u.kind = 1) (hij : i < j) : addsU (l.take i) < addsU (l.take j) := by
  have h1 := addsU_take h
  rw [if_pos hk] at h1
  have := addsU_mono (l := l) (show i + 1 ≤ j by omega)
  omega
theorem addsU_all {l : List UpdM} {i : Nat} {u : UpdM} (h : l[i]? = some u) (hk : u.kind = 1) : addsU (l.take i) < addsU l := by
  have hl := (List.getElem?_eq_some_iff.1 h).1
  have := addsU_step h hk hl
  rwa [List.take_length] at this

theorem sound_add {A B : List UpdM} (h : SoundU A B) {i : Nat} {u : UpdM} (hi : A[i]? = some u) (hk : u.kind = 1) : u.id = (addsU (A.take i) : Nat) := by
  have := h i u hi
  rwa [if_pos hk] at this
theorem sound_unique {A B : List UpdM} (h : SoundU A B) {i j : Nat} {u v : UpdM} (hi : A[i]? = some u) (hj : A[j]? = some v) (hu : u.kind = 1) (hv : v.kind = 1) (he : u.id = v.id) : i = j := by
  have h1 := sound_add h hi hu
  have h2 := sound_add h hj hv
  rcases Nat.lt_trichotomy i j with hlt | rfl | hgt
  · have := addsU_step hi hu hlt; omega
  · rfl
  · have := addsU_step hj hv hgt; omega
theorem there_of {A B : List UpdM} (h : SoundU A B) {i : Nat} {a u : UpdM} (hi : A[i]? = some a) (hk : a.kind = 1) (hid : a.id = u.id) : thereU u A = (decide (u.kind = 3) || decide (sha u.hash = a.hash)) := by
  have hl := (List.getElem?_eq_some_iff.1 hi).1
  have he : A = A.take i ++ a :: A.drop (i + 1) := by
    have := (List.getElem?_eq_some_iff.1 hi).2
    rw [← this, ← List.drop_eq_getElem_cons hl, List.take_append_drop]
  unfold thereU
  conv => lhs; rw [he]
  rw [List.foldl_append, List.foldl_cons, there_skip, thereF, if_pos ⟨hk, hid⟩]
  intro b hb hh
  obtain ⟨j, hj⟩ := List.getElem?_of_mem hb
  rw [List.getElem?_drop] at hj
  have := sound_unique h hi hj hk hh.1 (by rw [hid, hh.2])
  omega

theorem kinds_valid {u : UpdM} (h : validU u = true) : u.kind = 1 ∨ u.kind = 2 ∨ u.kind = 3 := by
  obtain ⟨_, _, hk⟩ := valid_spec h
  omega
theorem first_none {A : List UpdM} {id : Int} (hv : ∀ a ∈ A, validU a = true) (h : (firstU true id A).isSome = false) : ∀ a ∈ A, a.kind ≠ 1 → a.id ≠ id := by
  intro a ha hk e
  unfold firstU at h
  rw [Option.isSome_eq_false_iff, Option.isNone_iff_eq_none, List.find?_eq_none] at h
  refine h a ha ?_
  unfold hits
  rw [decide_eq_true e]
  rcases kinds_valid (hv a ha) with h1 | h1 | h1
  · exact absurd h1 hk
  · simp [h1]
  · simp [h1]
theorem first_some {B : List UpdM} {id : Int} (h : (firstU false id B).isSome = true) : ∃ b, firstU false id B = some b ∧ b ∈ B ∧ b.kind = 1 ∧ b.id = id := by
  obtain ⟨b, hb⟩ := Option.isSome_iff_exists.1 h
  refine ⟨b, hb, List.mem_of_find?_eq_some hb, ?_⟩
  have := List.find?_some hb
  unfold hits at this
  simp only [cond_false, Bool.and_eq_true, decide_eq_true_eq] at this
  exact ⟨this.2, this.1⟩

theorem nextU_zero {A O : List UpdM} {u : UpdM} (h : nextU A O u = 0) : validU u = true ∧ (u.kind = 1 → u.id = (addsU A : Nat)) ∧ (u.kind ≠ 1 → (firstU false u.id O).isSome = true ∧ (firstU true u.id A).isSome = false ∧ ¬ (u.kind = 2 ∧ sha u.hash ≠ ((firstU false u.id O).getD UpdM.zero).hash)) := by
  unfold nextU at h
  split at h
  · cases h
  split at h
  · cases h
  rename_i hv
  have hv : validU u = true := by simpa using hv
  split at h
  · rename_i hk
    split at h
    · rename_i hid
      exact ⟨hv, fun _ => hid, fun hn => absurd hk hn⟩
    · cases h
  rename_i hk
  split at h
  · cases h
  rename_i h1
  split at h
  · cases h
  rename_i h2
  split at h
  · cases h
  rename_i h3
  exact ⟨hv, fun hn => absurd hn hk, fun _ => ⟨(Bool.not_eq_false _).mp h1, (Bool.not_eq_true _).mp h2, h3⟩⟩

theorem sound_grow {A B : List UpdM} {n : Nat} {u : UpdM} (hA : SoundU A B) (hB : SoundU B A) (hv : ∀ a ∈ A, validU a = true) (hn : nextU A (B.take n) u = 0) : SoundU (A ++ [u]) B ∧ SoundU B (A ++ [u]) := by
  obtain ⟨hu, h1, h2⟩ := nextU_zero hn
  constructor
  · intro i x hx
    by_cases hi : i < A.length
    · rw [List.getElem?_append_left hi] at hx
      have := hA i x hx
      rw [List.take_append_of_le_length (by omega)]
      split
      · rename_i hk
        rwa [if_pos hk] at this
      · rename_i hk
        rw [if_neg hk] at this
        refine ⟨this.1, fun k v hk' hv' => this.2 k v hk' ?_⟩
        rwa [List.getElem?_append_left (by omega)] at hv'
    · have hlt := (List.getElem?_eq_some_iff.1 hx).1
      rw [List.length_append, List.length_singleton] at hlt
      have hi' : i = A.length := by omega
      subst hi'
      rw [List.getElem?_append_right (Nat.le_refl _), Nat.sub_self] at hx
      simp only [List.getElem?_cons_zero, Option.some.injEq] at hx
      subst hx
      rw [List.take_append_of_le_length (Nat.le_refl _), List.take_length]
      split
      · rename_i hk
        exact h1 hk
      · rename_i hk
        obtain ⟨k1, k2, k3⟩ := h2 hk
        obtain ⟨b, hb, hbm, hbk, hbi⟩ := first_some k1
        obtain ⟨j, hj⟩ := List.getElem?_of_mem (List.mem_of_mem_take hbm)
        refine ⟨?_, fun k v hkl hkv hvk => ?_⟩
        · rw [there_of hB hj hbk hbi, Bool.or_eq_true, decide_eq_true_eq, decide_eq_true_eq]
          rw [hb] at k3
          rcases kinds_valid hu with h | h | h
          · exact absurd h hk
          · right
            exact Classical.byContradiction fun hne => k3 ⟨h, hne⟩
          · exact .inl h
        · rw [List.getElem?_append_left hkl] at hkv
          exact first_none hv k2 v (List.mem_of_getElem? hkv) hvk
  · intro i x hx
    have := hB i x hx
    split
    · rename_i hk
      rwa [if_pos hk] at this
    · rename_i hk
      rw [if_neg hk] at this
      refine ⟨?_, this.2⟩
      rw [thereU_snoc, thereF, if_neg, this.1]
      rintro ⟨hk1, he⟩
      obtain ⟨a, ha, hak, hai⟩ := there_none this.1
      obtain ⟨j, hj⟩ := List.getElem?_of_mem ha
      have e1 := h1 hk1
      have e2 := sound_add hA hj hak
      have := addsU_all hj hak
      omega

theorem SoundU.nil (B : List UpdM) : SoundU [] B := fun i u h => by simp at h

theorem nextU_small {A O : List UpdM} {u : UpdM} (h : A.length < 2048) : nextU A O u = 0 ∨ nextU A O u = 120 := by
  unfold nextU
  rw [if_neg (by omega)]
  split
  · exact .inr rfl
  split
  · split
    · exact .inl rfl
    · exact .inr rfl
  split
  · exact .inr rfl
  split
  · exact .inr rfl
  split
  · exact .inr rfl
  · exact .inl rfl

def goneU (A : List UpdM) (id : Int) : Bool := A.any fun a => !decide (a.kind = 1) && decide (a.id = id)
theorem gone_first {A : List UpdM} {id : Int} (hv : ∀ a ∈ A, validU a = true) : goneU A id = (firstU true id A).isSome := by
  cases h : (firstU true id A).isSome with
  | false =>
    refine List.any_eq_false.2 fun a ha => ?_
    have := first_none hv h a ha
    by_cases hk : a.kind = 1
    · simp [hk]
    · simp [hk, this hk]
  | true =>
    obtain ⟨b, hb⟩ := Option.isSome_iff_exists.1 h
    refine List.any_eq_true.2 ⟨b, List.mem_of_find?_eq_some hb, ?_⟩
    have := List.find?_some hb
    unfold hits at this
    simp only [cond_true, Bool.and_eq_true, Bool.or_eq_true, decide_eq_true_eq] at this
    have hk : b.kind ≠ 1 := by omega
    simp [hk, this.1]

end Go.Esc.M

/- Own work. Chapter 12: two lists that grow: what the law's own functions do. -/
set_option linter.unusedSimpArgs false
set_option linter.unusedVariables false
namespace Go.Esc.M
open Go Go.Esc

section
variable {F0 : List AId} {G0 G : Heap} {ps : List LP} {Q : AVal → Heap → Prop}

theorem escrowlaw12_sum.use {h : List UInt8} (hl : h.length = 32) (hQ : ∀ G', Ch [] G [] G' → Q (.agg ((sha h).map u8v)) G') : ACalls P escrowlaw12_sum.n [.agg (h.map u8v)] G Q := by
  refine escrowlaw12_sum.sound ?_
  unfold escrowlaw12_sum.S
  rw [z_hash]
  intro i1 f1
  have s1 := (Sp.nil G).row f1 (.agg (h.map u8v))
  intro i3 f3
  have s3 := s1.row f3 (.agg ((List.replicate 32 (0 : UInt8)).map u8v))
  refine wv_of vslice_hash ?_
  refine wv_of (conv_bytes T_sl_uint8 rfl T_uint8 rfl T_string rfl (row_is (RowL.own (i := 1) s3 rfl) hl)) ?_
  refine one_str s3 fun v7 G8 s8 => ?_
  refine hash_Sum.use (xs := [h]) (OwnL.own (i := 0) s8 rfl).cap (by simp) (by simp; omega) fun G10 c10 => ?_
  have s10 := s8.tmp c10
  have e1 : [h].flatten = h := by simp
  rw [e1]
  refine wg_of (store_hash (hs' := sha h) (by simp) (length_sha' _) (RowL.own (i := 1) s10 rfl)) ?_
  have s11 := Sp.setRow (j := 1) s10 rfl (.agg ((sha h).map u8v))
  refine wv_of (load_hash (length_sha' _) (RowL.own (i := 1) s11 rfl)) ?_
  exact hQ _ s11.ch

theorem u8_any (n : Int) : ∃ b : UInt8, AVal.int .u8 (IntKind.u8.wrap n) = u8v b := by
  refine ⟨UInt8.ofNat (n % 256).toNat, ?_⟩
  rw [u8v_ofNat, wrapU8]
  congr 1
  omega

theorem escrowlaw12_preimage.use {b : Bool} {n : Int} (hQ : ∀ (h : List UInt8) G', h.length = 32 → Ch [] G [] G' → Q (.agg (h.map u8v)) G') : ACalls P escrowlaw12_preimage.n [.bool b, .int .i64 n] G Q := by
  refine escrowlaw12_preimage.sound ?_
  unfold escrowlaw12_preimage.S
  rw [z_hash]
  intro i1 f1
  have s1 := (Sp.nil G).row f1 (.agg ((List.replicate 32 (0 : UInt8)).map u8v))
  rw [vconv_int T_int64 T_uint8 rfl, wv_some]
  refine wv_of (vbin_shr _ _ _ _ _ _ (by decide)) ?_
  rw [vconv_int T_int64 T_uint8 rfl, wv_some]
  obtain ⟨x, hx⟩ := u8_any n
  obtain ⟨y, hy⟩ := u8_any (n.fdiv (2 ^ min (8 : Int).toNat IntKind.i64.bits))
  rw [hx, hy]
  obtain ⟨p, hp⟩ : ∃ p : List UInt8, p = 112 :: x :: y :: List.replicate 29 0 := ⟨_, rfl⟩
  have hpl : p.length = 32 := by rw [hp]; rfl
  refine wv_of (v := .agg (p.map u8v)) (by rw [hp]; rfl) ?_
  refine newVal s1 T_api_Hash (fits_hash hpl) (by rw [hp]; rfl) (by simp [okv, okvs_u8]) fun i7 G9 s9 => ?_
  cases b with
  | true =>
    rw [brB_true]
    have ad3 : viaddr T t_api_Hash (.ptr i7 [] 0) (.int .i64 3) = some (.ptr i7 [3] (3 * 1)) := addr_hash (j := 3) (by decide)
    refine wv_of ad3 ?_
    refine wg_of (store_byte (hs := p) (j := 3) (b := 1) (by omega) (RowL.own (i := 0) s9 rfl)) ?_
    have s11 := Sp.setRow (j := 0) s9 rfl (.agg ((p.set 3 1).map u8v))
    have hl2 : (p.set 3 1).length = 32 := by simp [hpl]
    refine wv_of (load_hash hl2 (RowL.own (i := 0) s11 rfl)) ?_
    refine wg_of (store_hash (hs' := p.set 3 1) (by simp) hl2 (RowL.own (i := 1) s11 rfl)) ?_
    have s17 := Sp.setRow (j := 1) s11 rfl (.agg ((p.set 3 1).map u8v))
    refine wv_of (load_hash hl2 (RowL.own (i := 1) s17 rfl)) ?_
    exact hQ _ _ hl2 s17.ch
  | false =>
    rw [brB_false]
    refine wv_of (load_hash hpl (RowL.own (i := 0) s9 rfl)) ?_
    refine wg_of (store_hash (hs' := p) (by simp) hpl (RowL.own (i := 1) s9 rfl)) ?_
    have s17 := Sp.setRow (j := 1) s9 rfl (.agg (p.map u8v))
    refine wv_of (load_hash hpl (RowL.own (i := 1) s17 rfl)) ?_
    exact hQ _ _ hpl s17.ch

/-- A field of a list's update, at any later time. -/
theorem fldI {v : AVal} {l : List UpdM} {j : Nat} {p : UpdM} (h : IsSl 36 G v (l.map UpdM.av)) (hj : l[j]? = some p) :
    ∃ a b, viaddr T t_sl_api_Update v (.int .i64 (j : Int)) = some a ∧ vfaddr T t_api_Update a 1 = some b ∧ vload T G t_int64 b = some (.int .i64 p.id) :=
  upd_fldA h hj (f := 1) rfl T_int64 (by decide) rfl rfl rfl
theorem fldK {v : AVal} {l : List UpdM} {j : Nat} {p : UpdM} (h : IsSl 36 G v (l.map UpdM.av)) (hj : l[j]? = some p) :
    ∃ a b, viaddr T t_sl_api_Update v (.int .i64 (j : Int)) = some a ∧ vfaddr T t_api_Update a 0 = some b ∧ vload T G t_int b = some (.int .i64 p.kind) :=
  upd_fldA h hj (f := 0) rfl T_int (by decide) rfl rfl rfl
theorem fldH {v : AVal} {l : List UpdM} {j : Nat} {p : UpdM} (hp : p.ok) (h : IsSl 36 G v (l.map UpdM.av)) (hj : l[j]? = some p) :
    ∃ a b, viaddr T t_sl_api_Update v (.int .i64 (j : Int)) = some a ∧ vfaddr T t_api_Update a 3 = some b ∧ vload T G t_api_Hash b = some (.agg (p.hash.map u8v)) :=
  upd_fldA h hj (f := 3) rfl T_api_Hash (by decide) rfl rfl (fits_hash hp.hash)

set_option maxHeartbeats 2000000 in
theorem escrowlaw12_sound.use {v w : AVal} {A B : List UpdM} (hl : IsSl 36 G v (A.map UpdM.av)) (ho : IsSl 36 G w (B.map UpdM.av)) (hok : ∀ u ∈ A, u.ok) (hok2 : ∀ u ∈ B, u.ok) (hlen : A.length ≤ 1000000) (hlen2 : B.length ≤ 1000000) (hs : SoundU A B)
    (hQ : ∀ G', Ch [] G [] G' → Q (.bool true) G') : ACalls P escrowlaw12_sound.n [v, w] G Q := by
  refine escrowlaw12_sound.sound ?_
  unfold escrowlaw12_sound.S
  rw [zUpd]
  intro R hR
  have loop : ∀ (n i : Nat) G', A.length - i = n → i ≤ A.length → Ch [] G [] G' → R [v, w, .int .i64 (addsU (A.take i) : Nat), .int .i64 (i : Int)] G' := by
    intro n
    induction n with
    | zero =>
      intro i G' hn hi c
      refine hR _ _ _ _ _ ?_
      refine wv_of (upd_len (hl.ch' c)) ?_
      rw [vbin_lss, wv_some, decide_eq_false (by omega), brB_false]
      exact hQ _ c
    | succ n ih =>
      intro i G' hn hi c
      have hiA : i < A.length := by omega
      obtain ⟨u, hu⟩ : ∃ u, A[i]? = some u := ⟨_, List.getElem?_eq_getElem hiA⟩
      have huo := hok u (List.mem_of_getElem? hu)
      have hsu := hs i u hu
      have hat := addsU_take hu
      have hle := addsU_le (A.take i)
      rw [List.length_take] at hle
      refine hR _ _ _ _ _ ?_
      refine wv_of (upd_len (hl.ch' c)) ?_
      rw [vbin_lss, wv_some, decide_eq_true (by omega), brB_true]
      obtain ⟨a, ha1, ha2⟩ := upd_at (hl.ch' c) hu
      refine wv_of ha1 ?_
      refine wv_of ha2 ?_
      have s0 : Sp [] G [] G' := (Sp.nil G).tmp c
      refine newU s0 huo fun i11 G13 s13 => ?_
      refine wv_of (upd_load (i := 0) s13 rfl huo).1 ?_
      rw [vbin_eql, wv_some, brB_dec]
      refine ⟨fun hk => ?_, fun hk => ?_⟩
      · rw [if_pos hk] at hsu hat
        refine wv_of (upd_load (i := 0) s13 rfl huo).2.1 ?_
        rw [hsu, nz0, wv_some, brB_false, vbin_add, wv_some, i64_in (by omega) (by omega), vbin_add, wv_some, i64_in (by omega) (by omega)]
        have e : ((addsU (A.take i) : Nat) : Int) + 1 = ((addsU (A.take (i + 1)) : Nat) : Int) := by omega
        rw [e]
        exact ih (i + 1) _ (by omega) (by omega) s13.ch
      · rw [if_neg hk] at hsu hat
        obtain ⟨hth, hno⟩ := hsu
        intro R2 hR2
        have loop2 : ∀ (m k : Nat) G9, B.length - k = m → k ≤ B.length → Sp [] G [RowL i11 u.av] G9 → R2 [v, w, .int .i64 (addsU (A.take i) : Nat), .int .i64 (i : Int), .ptr i11 [] 0, .bool (thereU u (B.take k)), .int .i64 (k : Int)] G9 := by
          intro m
          induction m with
          | zero =>
            intro k G9 hm hk' s9
            refine hR2 _ _ _ _ _ _ _ _ ?_
            refine wv_of (upd_len (ho.ch' s9.ch)) ?_
            rw [vbin_lss, wv_some, decide_eq_false (by omega), brB_false]
            have hkB : k = B.length := by omega
            subst hkB
            rw [List.take_length, hth]
            intro R3 hR3
            have loop3 : ∀ (m3 q : Nat) G9, i - q = m3 → q ≤ i → Sp [] G [RowL i11 u.av] G9 → R3 [v, w, .int .i64 (addsU (A.take i) : Nat), .int .i64 (i : Int), .ptr i11 [] 0, .bool true, .int .i64 (q : Int)] G9 := by
              intro m3
              induction m3 with
              | zero =>
                intro q G9 hm3 hq s9
                refine hR3 _ _ _ _ _ _ _ _ ?_
                rw [vbin_lss, wv_some, decide_eq_false (by omega), brB_false, vun_not, wv_some, Bool.not_true, brB_false, vbin_add, wv_some, i64_in (by omega) (by omega)]
                have e : addsU (A.take i) = addsU (A.take (i + 1)) := by omega
                rw [e]
                exact ih (i + 1) _ (by omega) (by omega) s9.ch
              | succ m3 ih3 =>
                intro q G9 hm3 hq s9
                obtain ⟨x, hx⟩ : ∃ u, A[q]? = some u := ⟨_, List.getElem?_eq_getElem (by omega)⟩
                have next : R3 [v, w, .int .i64 (addsU (A.take i) : Nat), .int .i64 (i : Int), .ptr i11 [] 0, .bool true, .int .i64 ((q + 1 : Nat) : Int)] G9 := ih3 (q + 1) _ (by omega) (by omega) s9
                refine hR3 _ _ _ _ _ _ _ _ ?_
                rw [vbin_lss, wv_some, decide_eq_true (by omega), brB_true]
                obtain ⟨a1, b1, e1, e2, e3⟩ := fldK (hl.ch' s9.ch) hx
                obtain ⟨a2, b2, e4, e5, e6⟩ := fldI (hl.ch' s9.ch) hx
                refine wv_of e1 ?_
                refine wv_of e2 ?_
                refine wv_of e3 ?_
                rw [vbin_neq, wv_some, brB_ndec]
                refine ⟨fun hxk => ?_, fun hxk => ?_⟩
                · refine wv_of e4 ?_
                  refine wv_of e5 ?_
                  refine wv_of e6 ?_
                  refine wv_of (v := .ptr i11 [1] 1) rfl ?_
                  refine wv_of (upd_load (i := 0) s9 rfl huo).2.1 ?_
                  rw [vbin_eql, wv_some, decide_eq_false (hno q x (by omega) hx hxk), brB_false, vbin_add, wv_some, i64_in (by omega) (by omega)]
                  exact next
                · rw [vbin_add, wv_some, i64_in (by omega) (by omega)]
                  exact next
            exact loop3 i 0 G9 rfl (by omega) s9
          | succ m ih2 =>
            intro k G9 hm hk' s9
            obtain ⟨b, hb⟩ : ∃ u, B[k]? = some u := ⟨_, List.getElem?_eq_getElem (by omega)⟩
            have hbo := hok2 b (List.mem_of_getElem? hb)
            have hstep : thereU u (B.take (k + 1)) = thereF u (thereU u (B.take k)) b := by
              rw [List.take_add_one, hb]
              exact thereU_snoc _ _ _
            refine hR2 _ _ _ _ _ _ _ _ ?_
            refine wv_of (upd_len (ho.ch' s9.ch)) ?_
            rw [vbin_lss, wv_some, decide_eq_true (by omega), brB_true]
            intro J57
            have next : ∀ t G10, t = thereU u (B.take (k + 1)) → Sp [] G [RowL i11 u.av] G10 → R2 [v, w, .int .i64 (addsU (A.take i) : Nat), .int .i64 (i : Int), .ptr i11 [] 0, .bool t, .int .i64 ((k + 1 : Nat) : Int)] G10 := by
              intro t G10 ht s10
              rw [ht]
              exact ih2 (k + 1) _ (by omega) (by omega) s10
            have no : ¬ (b.kind = 1 ∧ b.id = u.id) → J57 (.bool false) G9 := by
              intro hno
              simp -zeta only [J57, brB_false]
              rw [vbin_add, wv_some, i64_in (by omega) (by omega)]
              refine next _ _ ?_ s9
              rw [hstep, thereF, if_neg hno]
            have yes : b.kind = 1 ∧ b.id = u.id → J57 (.bool true) G9 := by
              intro hyes
              rw [thereF, if_pos hyes] at hstep
              simp -zeta only [J57, brB_true]
              refine wv_of (v := .ptr i11 [0] 0) rfl ?_
              refine wv_of (upd_load (i := 0) s9 rfl huo).1 ?_
              rw [vbin_eql, wv_some, brB_dec]
              refine ⟨fun h3 => ?_, fun h3 => ?_⟩
              · rw [vbin_add, wv_some, i64_in (by omega) (by omega)]
                refine next _ _ ?_ s9
                rw [hstep, decide_eq_true h3, Bool.true_or]
              · refine wv_of (v := .ptr i11 [3] 3) rfl ?_
                refine wv_of (upd_load (i := 0) s9 rfl huo).2.2.2.1 ?_
                obtain ⟨a1, b1, e1, e2, e3⟩ := fldH hbo (ho.ch' s9.ch) hb
                refine wv_of e1 ?_
                refine wv_of e2 ?_
                refine wv_of e3 ?_
                refine escrowlaw12_sum.use huo.hash fun G51 c51 => ?_
                have s51 := s9.tmp c51
                obtain ⟨a1', b1', e1', e2', e3'⟩ := fldH hbo (ho.ch' s51.ch) hb
                rw [e1] at e1'
                injection e1' with e1'
                subst e1'
                rw [e2] at e2'
                injection e2' with e2'
                subst e2'
                refine ⟨⟨e3', trivial⟩, ?_⟩
                rw [hash_eql (length_sha' _) hbo.hash, wv_some, vbin_add, wv_some, i64_in (by omega) (by omega)]
                refine next _ _ ?_ s51
                rw [hstep, decide_eq_false h3, Bool.false_or]
            obtain ⟨a1, b1, e1, e2, e3⟩ := fldK (ho.ch' s9.ch) hb
            obtain ⟨a2, b2, e4, e5, e6⟩ := fldI (ho.ch' s9.ch) hb
            refine wv_of e1 ?_
            refine wv_of e2 ?_
            refine wv_of e3 ?_
            rw [vbin_eql, wv_some, brB_dec]
            refine ⟨fun hk1 => ?_, fun hk1 => no fun h => hk1 h.1⟩
            refine wv_of e4 ?_
            refine wv_of e5 ?_
            refine wv_of e6 ?_
            refine wv_of (v := .ptr i11 [1] 1) rfl ?_
            refine wv_of (upd_load (i := 0) s9 rfl huo).2.1 ?_
            rw [vbin_eql, wv_some]
            by_cases hid : b.id = u.id
            · rw [decide_eq_true hid]
              exact yes ⟨hk1, hid⟩
            · rw [decide_eq_false hid]
              exact no fun h => hid h.2
        exact loop2 B.length 0 G13 rfl (by omega) s13
  exact loop A.length 0 G rfl (by omega) (Ch.refl _ _)

end
end Go.Esc.M
