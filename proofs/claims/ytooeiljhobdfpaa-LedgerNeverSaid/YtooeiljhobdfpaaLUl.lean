import Derived.Test.YtooeiljhobdfpaaLUe
import Derived.Test.YtooeiljhobdfpaaLDd
import Derived.Test.YtooeiljhobdfpaaLCw
import Derived.Test.YtooeiljhobdfpaaLHe
/- Own work. Chapter 12: the document's examples; UpdateBytes. -/
set_option linter.unusedSimpArgs false
set_option linter.unusedVariables false
namespace Go.Esc.M
open Go Go.Esc

theorem eqF_upd {p p' : UpdM} (h : p.ok) (h' : p'.ok) : eqF T (veqD T 8) [(t_int, 0), (t_int64, 1), (t_int64, 2), (t_api_Hash, 3), (t_string, 35)] p.cs p'.cs 0 = some (decide (p = p')) := by
  have z1 := fits_hash h.hash
  have z2 := fits_hash h'.hash
  have q2 : ∀ m n : Int, veqD T 8 t_int64 (.int .i64 m) (.int .i64 n) = some (decide (m = n)) := fun m n => by
    rw [veqD]; simp only [T_int64]; rfl
  have q1 : ∀ m n : Int, veqD T 8 t_int (.int .i64 m) (.int .i64 n) = some (decide (m = n)) := fun m n => by
    rw [veqD]; simp only [T_int]; rfl
  have q4 : ∀ m n : List UInt8, veqD T 8 t_string (.str m) (.str n) = some (decide (m = n)) := fun m n => by
    rw [veqD]; simp only [T_string]; rfl
  have v1 : ∀ m : Int, vfits ti_int (.int .i64 m) = true := fun m => rfl
  have v2 : ∀ m : Int, vfits ti_int64 (.int .i64 m) = true := fun m => rfl
  have v4 : ∀ m : List UInt8, vfits ti_string (.str m) = true := fun m => rfl
  have s1 : ti_int.size = 1 := rfl
  have s2 : ti_int64.size = 1 := rfl
  have s3 : ti_api_Hash.size = 32 := rfl
  have q3 := veq_hash h.hash h'.hash
  obtain ⟨a, b, c, d, e⟩ := p
  obtain ⟨a', b', c', d', e'⟩ := p'
  dsimp only at z1 z2 q3
  simp only [UpdM.cs, eqF, T_int, T_int64, T_api_Hash, T_string, v1, v2, v4, z1, z2, s1, s2, s3, Nat.zero_add, q1, q2, q3, q4, beq_self_eq_true, Bool.and_self, Nat.reduceAdd, if_true]
  by_cases h1 : a = a'
  · subst h1
    by_cases h2 : b = b'
    · subst h2
      by_cases h3 : c = c'
      · subst h3
        by_cases h4 : d = d'
        · subst h4
          by_cases h5 : e = e'
          · subst h5; simp
          · simp [h5]
        · simp [h4]
      · simp [h3]
    · simp [h2]
  · simp [h1]

theorem veq_upd {p p' : UpdM} (h : p.ok) (h' : p'.ok) : veqD T 9 t_api_Update p.av p'.av = some (decide (p = p')) := by
  rw [← eqF_upd h h', veqD]
  have e1 : ti_api_Update.desc = .struct [(t_int, 0), (t_int64, 1), (t_int64, 2), (t_api_Hash, 3), (t_string, 35)] := rfl
  simp only [T_api_Update, e1]
  rfl
theorem vbin_ueql {p p' : UpdM} (h : p.ok) (h' : p'.ok) : vbin T .eql t_api_Update p.av p'.av = some (.bool (decide (p = p'))) := by
  have := veq_upd h h'
  unfold UpdM.av at this ⊢
  simp only [vbin, this]
theorem vbin_uneq {p p' : UpdM} (h : p.ok) (h' : p'.ok) : vbin T .neq t_api_Update p.av p'.av = some (.bool (!decide (p = p'))) := by
  have := veq_upd h h'
  unfold UpdM.av at this ⊢
  simp only [vbin, this]

theorem readU_ok {b : List UInt8} (hb : b.length ≤ 9223372036854775807) : (readU b).1.ok := by
  have hz := UpdM.zero_ok
  have ho : ∀ u n, u.ok → (okU u n).1.ok := fun u n h => by
    unfold okU
    cases validU u
    · exact hz
    · exact h
  have hid : I64 (idU b) := i64_small (by unfold idU; omega) (by have := num2_lt (b := b) (a := 1); unfold idU; omega)
  unfold readU
  split
  · exact hz
  split
  · split
    · exact hz
    · exact ho _ _ (mkok ⟨by decide, by decide⟩ hid (hw64 _) (length_slice (by omega)) (by decide : (0 : Nat) ≤ 9223372036854775807))
  split
  · split
    · exact hz
    · exact ho _ _ (mkok ⟨by decide, by decide⟩ hid i64_0 (length_slice (by omega)) (by decide : (0 : Nat) ≤ 9223372036854775807))
  split
  · split
    · exact hz
    split
    · exact hz
    split
    · exact hz
    · exact ho _ _ (mkok ⟨by decide, by decide⟩ hid i64_0 rfl (by rw [length_slice (by omega)]; omega))
  · exact hz

def uA : UpdM := ⟨3, 5, 0, h0, [110, 111]⟩
def uB : UpdM := ⟨1, 0, 7, h0, []⟩
theorem uA_ok : uA.ok := ⟨⟨by decide, by decide⟩, ⟨by decide, by decide⟩, ⟨by decide, by decide⟩, rfl, by decide⟩
theorem uB_ok : uB.ok := ⟨⟨by decide, by decide⟩, ⟨by decide, by decide⟩, ⟨by decide, by decide⟩, rfl, by decide⟩
theorem tup0 (x : UpdM × Int × Int) : vextract (tupU x) 0 = some x.1.av := rfl
theorem tup1 (x : UpdM × Int × Int) : vextract (tupU x) 1 = some (.int .i64 x.2.1) := rfl
theorem tup2 (x : UpdM × Int × Int) : vextract (tupU x) 2 = some (.int .i64 x.2.2) := rfl

section
variable {F0 : List AId} {G0 G : Heap} {ps : List LP} {Q : AVal → Heap → Prop}


end

end Go.Esc.M

/- Own work. Chapter 12: the document's finds; Next. -/
set_option linter.unusedSimpArgs false
set_option linter.unusedVariables false
namespace Go.Esc.M
open Go Go.Esc

section
variable {F0 : List AId} {G0 G : Heap} {ps : List LP} {Q : AVal → Heap → Prop}

theorem upd_fldA {v : AVal} {l : List UpdM} {j f o : Nat} {p : UpdM} {tf : TypeId} {fi : TI} {c : AVal} (h : IsSl 36 G v (l.map UpdM.av)) (hj : l[j]? = some p) (hf : [(t_int, 0), (t_int64, 1), (t_int64, 2), (t_api_Hash, 3), (t_string, 35)][f]? = some (tf, o)) (hft : T tf = some fi) (hz : fi.size ≠ 0)
    (hs : szs (p.cs.take f) = o) (hc : p.cs[f]? = some c) (hfit : vfits fi c = true) :
    ∃ a b, viaddr T t_sl_api_Update v (.int .i64 (j : Int)) = some a ∧ vfaddr T t_api_Update a f = some b ∧ vload T G tf b = some c :=
  IsSl.fld (k := .i64) (i := ti_sl_api_Update) (ie := ti_api_Update) T_sl_api_Update rfl T_api_Update rfl hf hft hz h (by rw [List.getElem?_map, hj]; rfl) hs hc hfit

/-- May an update stand behind a list? -/
def nextU (mine others : List UpdM) (u : UpdM) : Int :=
  if 2048 ≤ mine.length then 6 else if validU u = false then 120
  else if u.kind = 1 then (if u.id = (addsU mine : Nat) then 0 else 120)
  else if (firstU false u.id others).isSome = false then 120
  else if (firstU true u.id mine).isSome then 120
  else if u.kind = 2 ∧ sha u.hash ≠ ((firstU false u.id others).getD UpdM.zero).hash then 120 else 0

theorem length_sha' (s : List UInt8) : (sha s).length = 32 := length_sha s

end
end Go.Esc.M

/- Own work. Chapter 12: UpdateNexts. -/
set_option linter.unusedSimpArgs false
set_option linter.unusedVariables false
namespace Go.Esc.M
open Go Go.Esc

section
variable {F0 : List AId} {G0 G : Heap} {ps : List LP} {Q : AVal → Heap → Prop}

def uM : UpdM := ⟨77, 0, 0, h0, []⟩
def uN : UpdM := ⟨0, 0, 0, h0, [109, 97, 114, 107]⟩
theorem uM_ok : uM.ok := ⟨⟨by decide, by decide⟩, ⟨by decide, by decide⟩, ⟨by decide, by decide⟩, rfl, by decide⟩
theorem uN_ok : uN.ok := ⟨⟨by decide, by decide⟩, ⟨by decide, by decide⟩, ⟨by decide, by decide⟩, rfl, by decide⟩
theorem upds_uni {l : List UpdM} (h : ∀ p ∈ l, p.ok) : Esc.uni 36 (l.map UpdM.av) = true ∧ okvs (l.map UpdM.av) = true := by
  refine ⟨by simp only [Esc.uni, List.all_map, List.all_eq_true]; intro p hp; simp [UpdM.sz (h p hp)], ?_⟩
  induction l with
  | nil => rfl
  | cons p l ih => simp [okvs, UpdM.okv, ih (fun p hp => h p (by simp [hp]))]

theorem own_take {v : AVal} {vs : List AVal} {m : Nat} (h : Own 36 G v vs) (hm : m ≤ vs.length) : ∃ w, vslice T t_sl_api_Update v none (some (.int .i64 ((m : Nat) : Int))) none = some w ∧ ∀ {G' : Heap}, Own 36 G' v vs → Own 36 G' w (vs.take m) := by
  have e1 : T t_sl_api_Update = some ti_sl_api_Update := T_sl_api_Update
  have e2 : ti_sl_api_Update.desc = .slice t_api_Update := rfl
  rcases h with ⟨rfl, rfl⟩ | ⟨id, len, cap, cs, rfl, hg, hc, hl, hu, he⟩
  · simp at hm
    subst hm
    exact ⟨.nilSlice, by simp [vslice, e1, e2, T_api_Update, sbounds, sbound], fun _ => .inl ⟨rfl, rfl⟩⟩
  · have hvl : vs.length = len := by rw [he, List.length_take]; omega
    refine ⟨.slice id [] 0 0 m cap, ?_, fun {G'} h' => ?_⟩
    · simp only [vslice, e1, e2, T_api_Update]
      rw [sbounds_high (by omega)]
      simp
    · rcases h' with ⟨h, _⟩ | ⟨id', len', cap', cs', h1, hg', hc', hl', hu', he'⟩
      · cases h
      · injection h1 with i1 i2 i3 i4 i5 i6
        subst i1 i5 i6
        refine .inr ⟨id, m, cap, cs', rfl, hg', hc', by omega, hu', ?_⟩
        rw [he', List.take_take, Nat.min_eq_left (by omega)]

end
end Go.Esc.M

/- Own work. Chapter 12: two lists that grow: the plain law. -/
set_option linter.unusedSimpArgs false
set_option linter.unusedVariables false
namespace Go.Esc.M
open Go Go.Esc

def thereF (u : UpdM) (t : Bool) (b : UpdM) : Bool := if b.kind = 1 ∧ b.id = u.id then decide (u.kind = 3) || decide (sha u.hash = b.hash) else t
def thereU (u : UpdM) (B : List UpdM) : Bool := B.foldl (thereF u) false
def SoundU (A B : List UpdM) : Prop := ∀ i u, A[i]? = some u → if u.kind = 1 then u.id = ((addsU (A.take i) : Nat) : Int) else thereU u B = true ∧ ∀ k v, k < i → A[k]? = some v → v.kind ≠ 1 → v.id ≠ u.id

theorem thereU_snoc (u b : UpdM) (B : List UpdM) : thereU u (B ++ [b]) = thereF u (thereU u B) b := by
  unfold thereU
  rw [List.foldl_append]
  rfl
theorem there_skip {u : UpdM} : ∀ {B : List UpdM} {t : Bool}, (∀ b ∈ B, ¬ (b.kind = 1 ∧ b.id = u.id)) → B.foldl (thereF u) t = t
  | [], t, _ => rfl
  | b :: B, t, h => by
    rw [List.foldl_cons, thereF, if_neg (h b (by simp))]
    exact there_skip fun x hx => h x (by simp [hx])
theorem there_none {u : UpdM} {B : List UpdM} (h : thereU u B = true) : ∃ b ∈ B, b.kind = 1 ∧ b.id = u.id := by
  refine Classical.byContradiction fun hn => ?_
  have : thereU u B = false := there_skip fun b hb hh => hn ⟨b, hb, hh⟩
  rw [this] at h
  cases h

theorem addsU_mono {l : List UpdM} {i j : Nat} (h : i ≤ j) : addsU (l.take i) ≤ addsU (l.take j) := by
  unfold addsU
  have e : l.take i = (l.take j).take i := by rw [List.take_take, Nat.min_eq_left h]
  rw [e]
  exact (List.Sublist.filter _ (List.take_sublist _ _)).length_le
theorem addsU_step {l : List UpdM} {i j : Nat} {u : UpdM} (h : l[i]? = some u) (hk : u.kind = 1) (hij : i < j) : addsU (l.take i) < addsU (l.take j) := by
  have h1 := addsU_take h
  rw [if_pos hk] at h1
  have := addsU_mono (l := l) (show i + 1 ≤ j by omega)
  omega
theorem addsU_all {l : List UpdM} {i : Nat} {u : UpdM} (h : l[i]? = some u) (hk : u.kind = 1) : addsU (l.take i) < addsU l := by
  have hl := (List.getElem?_eq_some_iff.1 h).1
  have := addsU_step h hk hl
  rwa [List.take_length] at this

theorem sound_add {A B : List UpdM} (h : SoundU A B) {i : Nat} {u : UpdM} (hi : A[i]? = some u) (hk : u.kind = 1) : u.id = (addsU (A.take i) : Nat) := by
  have := h i u hi
  rwa [if_pos hk] at this
theorem sound_unique {A B : List UpdM} (h : SoundU A B) {i j : Nat} {u v : UpdM} (hi : A[i]? = some u) (hj : A[j]? = some v) (hu : u.kind = 1) (hv : v.kind = 1) (he : u.id = v.id) : i = j := by
  have h1 := sound_add h hi hu
  have h2 := sound_add h hj hv
  rcases Nat.lt_trichotomy i j with hlt | rfl | hgt
  · have := addsU_step hi hu hlt; omega
  · rfl
  · have := addsU_step hj hv hgt; omega
theorem there_of {A B : List UpdM} (h : SoundU A B) {i : Nat} {a u : UpdM} (hi : A[i]? = some a) (hk : a.kind = 1) (hid : a.id = u.id) : thereU u A = (decide (u.kind = 3) || decide (sha u.hash = a.hash)) := by
  have hl := (List.getElem?_eq_some_iff.1 hi).1
  have he : A = A.take i ++ a :: A.drop (i + 1) := by
    have := (List.getElem?_eq_some_iff.1 hi).2
    rw [← this, ← List.drop_eq_getElem_cons hl, List.take_append_drop]
  unfold thereU
  conv => lhs; rw [he]
  rw [List.foldl_append, List.foldl_cons, there_skip, thereF, if_pos ⟨hk, hid⟩]
  intro b hb hh
  obtain ⟨j, hj⟩ := List.getElem?_of_mem hb
  rw [List.getElem?_drop] at hj
  have := sound_unique h hi hj hk hh.1 (by rw [hid, hh.2])
  omega

theorem kinds_valid {u : UpdM} (h : validU u = true) : u.kind = 1 ∨ u.kind = 2 ∨ u.kind = 3 := by
  obtain ⟨_, _, hk⟩ := valid_spec h
  omega
theorem first_none {A : List UpdM} {id : Int} (hv : ∀ a ∈ A, validU a = true) (h : (firstU true id A).isSome = false) : ∀ a ∈ A, a.kind ≠ 1 → a.id ≠ id := by
  intro a ha hk e
  unfold firstU at h
  rw [Option.isSome_eq_false_iff, Option.isNone_iff_eq_none, List.find?_eq_none] at h
  refine h a ha ?_
  unfold hits
  rw [decide_eq_true e]
  rcases kinds_valid (hv a ha) with h1 | h1 | h1
  · exact absurd h1 hk
  · simp [h1]
  · simp [h1]
theorem first_some {B : List UpdM} {id : Int} (h : (firstU false id B).isSome = true) : ∃ b, firstU false id B = some b ∧ b ∈ B ∧ b.kind = 1 ∧ b.id = id := by
  obtain ⟨b, hb⟩ := Option.isSome_iff_exists.1 h
  refine ⟨b, hb, List.mem_of_find?_eq_some hb, ?_⟩
  have := List.find?_some hb
  unfold hits at this
  simp only [cond_false, Bool.and_eq_true, decide_eq_true_eq] at this
  exact ⟨this.2, this.1⟩

theorem nextU_zero {A O : List UpdM} {u : UpdM} (h : nextU A O u = 0) : validU u = true ∧ (u.kind = 1 → u.id = (addsU A : Nat)) ∧ (u.kind ≠ 1 → (firstU false u.id O).isSome = true ∧ (firstU true u.id A).isSome = false ∧ ¬ (u.kind = 2 ∧ sha u.hash ≠ ((firstU false u.id O).getD UpdM.zero).hash)) := by
  unfold nextU at h
  split at h
  · cases h
  split at h
  · cases h
  rename_i hv
  have hv : validU u = true := by simpa using hv
  split at h
  · rename_i hk
    split at h
    · rename_i hid
      exact ⟨hv, fun _ => hid, fun hn => absurd hk hn⟩
    · cases h
  rename_i hk
  split at h
  · cases h
  rename_i h1
  split at h
  · cases h
  rename_i h2
  split at h
  · cases h
  rename_i h3
  exact ⟨hv, fun hn => absurd hn hk, fun _ => ⟨(Bool.not_eq_false _).mp h1, (Bool.not_eq_true _).mp h2, h3⟩⟩

theorem sound_grow {A B : List UpdM} {n : Nat} {u : UpdM} (hA : SoundU A B) (hB : SoundU B A) (hv : ∀ a ∈ A, validU a = true) (hn : nextU A (B.take n) u = 0) : SoundU (A ++ [u]) B ∧ SoundU B (A ++ [u]) := by
  obtain ⟨hu, h1, h2⟩ := nextU_zero hn
  constructor
  · intro i x hx
    by_cases hi : i < A.length
    · rw [List.getElem?_append_left hi] at hx
      have := hA i x hx
      rw [List.take_append_of_le_length (by omega)]
      split
      · rename_i hk
        rwa [if_pos hk] at this
      · rename_i hk
        rw [if_neg hk] at this
        refine ⟨this.1, fun k v hk' hv' => this.2 k v hk' ?_⟩
        rwa [List.getElem?_append_left (by omega)] at hv'
    · have hlt := (List.getElem?_eq_some_iff.1 hx).1
      rw [List.length_append, List.length_singleton] at hlt
      have hi' : i = A.length := by omega
      subst hi'
      rw [List.getElem?_append_right (Nat.le_refl _), Nat.sub_self] at hx
      simp only [List.getElem?_cons_zero, Option.some.injEq] at hx
      subst hx
      rw [List.take_append_of_le_length (Nat.le_refl _), List.take_length]
      split
      · rename_i hk
        exact h1 hk
      · rename_i hk
        obtain ⟨k1, k2, k3⟩ := h2 hk
        obtain ⟨b, hb, hbm, hbk, hbi⟩ := first_some k1
        obtain ⟨j, hj⟩ := List.getElem?_of_mem (List.mem_of_mem_take hbm)
        refine ⟨?_, fun k v hkl hkv hvk => ?_⟩
        · rw [there_of hB hj hbk hbi, Bool.or_eq_true, decide_eq_true_eq, decide_eq_true_eq]
          rw [hb] at k3
          rcases kinds_valid hu with h | h | h
          · exact absurd h hk
          · right
            exact Classical.byContradiction fun hne => k3 ⟨h, hne⟩
          · exact .inl h
        · rw [List.getElem?_append_left hkl] at hkv
          exact first_none hv k2 v (List.mem_of_getElem? hkv) hvk
  · intro i x hx
    have := hB i x hx
    split
    · rename_i hk
      rwa [if_pos hk] at this
    · rename_i hk
      rw [if_neg hk] at this
      refine ⟨?_, this.2⟩
      rw [thereU_snoc, thereF, if_neg, this.1]
      rintro ⟨hk1, he⟩
      obtain ⟨a, ha, hak, hai⟩ := there_none this.1
      obtain ⟨j, hj⟩ := List.getElem?_of_mem ha
      have e1 := h1 hk1
      have e2 := sound_add hA hj hak
      have := addsU_all hj hak
      omega

theorem SoundU.nil (B : List UpdM) : SoundU [] B := fun i u h => by simp at h

theorem nextU_small {A O : List UpdM} {u : UpdM} (h : A.length < 2048) : nextU A O u = 0 ∨ nextU A O u = 120 := by
  unfold nextU
  rw [if_neg (by omega)]
  split
  · exact .inr rfl
  split
  · split
    · exact .inl rfl
    · exact .inr rfl
  split
  · exact .inr rfl
  split
  · exact .inr rfl
  split
  · exact .inr rfl
  · exact .inl rfl

def goneU (A : List UpdM) (id : Int) : Bool := A.any fun a => !decide (a.kind = 1) && decide (a.id = id)
theorem gone_first {A : List UpdM} {id : Int} (hv : ∀ a ∈ A, validU a = true) : goneU A id = (firstU true id A).isSome := by
  cases h : (firstU true id A).isSome with
  | false =>
    refine List.any_eq_false.2 fun a ha => ?_
    have := first_none hv h a ha
    by_cases hk : a.kind = 1
    · simp [hk]
    · simp [hk, this hk]
  | true =>
    obtain ⟨b, hb⟩ := Option.isSome_iff_exists.1 h
    refine List.any_eq_true.2 ⟨b, List.mem_of_find?_eq_some hb, ?_⟩
    have := List.find?_some hb
    unfold hits at this
    simp only [cond_true, Bool.and_eq_true, Bool.or_eq_true, decide_eq_true_eq] at this
    have hk : b.kind ≠ 1 := by omega
    simp [hk, this.1]

end Go.Esc.M
