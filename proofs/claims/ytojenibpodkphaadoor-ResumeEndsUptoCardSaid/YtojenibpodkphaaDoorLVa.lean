import Derived.Test.YtojenibpodkphaaDoorLSb
/- Own work. Chapter 9: secrets, in the document. -/
set_option linter.unusedSimpArgs false
set_option linter.unusedVariables false
set_option maxRecDepth 20000
namespace Go.Esc.M
open Go Go.Esc

def plA (p : Nat) : List AVal := (List.range 48).map fun i => .int .i64 ((bitN p i : Nat) : Int)
theorem length_plA (p : Nat) : (plA p).length = 48 := by simp [plA]
theorem plA_get (p : Nat) {i : Nat} (hi : i < 48) : (plA p)[i]? = some (.int .i64 ((bitN p i : Nat) : Int)) := by
  rw [plA, List.getElem?_map, List.getElem?_range hi]
  rfl
theorem uni_plA (p : Nat) : uni 1 (plA p) = true := by simp [plA, uni, sz]
theorem okvs_ints : ∀ l : List Int, okvs (l.map (AVal.int .i64)) = true
  | [] => rfl
  | b :: l => by simp [okvs, okv, okvs_ints l]
theorem okv_plA (p : Nat) : okv (.agg (plA p)) = true := by
  have : plA p = ((List.range 48).map fun i => ((bitN p i : Nat) : Int)).map (AVal.int .i64) := by simp [plA]
  rw [this, okv]
  exact okvs_ints _
theorem fits_plA (p : Nat) : vfits ti_ar48_int (.agg (plA p)) = true := by
  have h1 : szs (plA p) = 48 := by rw [szs_uni (uni_plA p), length_plA]
  simp [vfits, sz, h1, ti_ar48_int, AVal.isAgg, ADesc.isAgg]
theorem sz_plA (p : Nat) : sz (.agg (plA p)) = 48 := by rw [sz, szs_uni (uni_plA p), length_plA]

section
variable {F0 : List AId} {G0 G : Heap} {ps : List LP} {Q : AVal → Heap → Prop}

theorem escrowref09_good.use {n : Int} (hQ : Q (.bool (okN n)) G) : ACalls P escrowref09_good.n [.int .i64 n] G Q := by
  refine escrowref09_good.sound ?_
  unfold escrowref09_good.S
  unfold okN at hQ
  rw [vbin_geq, wv_some, brB_dec]
  refine ⟨fun h => ?_, fun h => by rwa [decide_eq_false h, Bool.false_and] at hQ⟩
  rw [decide_eq_true h, Bool.true_and] at hQ
  rw [vbin_leq, wv_some]
  exact hQ

theorem escrowref09_Place.use {n : Int} (hn : okN n = true) (hQ : ∀ G', Ch [] G [] G' → Q (.agg (plA (pl n))) G') : ACalls P escrowref09_Place.n [.int .i64 n] G Q := by
  refine escrowref09_Place.sound ?_
  unfold escrowref09_Place.S
  obtain ⟨hp1, hp2⟩ := pl_eq hn
  obtain ⟨p, hp⟩ : ∃ p, p = pl n := ⟨_, rfl⟩
  rw [← hp] at hp1 hp2 hQ
  obtain ⟨Z, hZ⟩ : ∃ Z, Z = List.replicate 48 (AVal.int .i64 0) := ⟨_, rfl⟩
  have hz : z_ar48_int = .agg Z := by rw [hZ]; rfl
  have hZl : Z.length = 48 := by rw [hZ]; simp
  have hDZ : (plA p).length = Z.length := by rw [length_plA, hZl]
  have huZ : uni 1 Z = true := by rw [hZ]; exact uni_replicate rfl
  rw [hz]
  intro i1 f1
  have s1 := (Sp.nil G).row f1 (.agg Z)
  intro i3 f3
  have s3 := s1.row f3 (.agg Z)
  rw [vbin_sub, hp1, wv_some]
  have e48 : (2 : Nat) ^ 48 = 281474976710656 := by decide
  rw [i64_in (by omega) (by omega)]
  have hum : ∀ j, uni 1 (mix (plA p) Z j) = true := fun j => uni_append (uni_take (uni_plA p) _) (uni_drop huZ _)
  intro R hR
  have loop : ∀ (m j : Nat) (G' : Heap), 48 - j = m → j ≤ 48 → Sp [] G [RowL i3 (.agg (mix (plA p) Z j)), RowL i1 (.agg Z)] G' → R [.ptr i1 [] 0, .ptr i3 [] 0, .int .i64 ((p / 2 ^ j : Nat) : Int), .int .i64 (j : Int)] G' := by
    intro m
    induction m with
    | zero =>
      intro j G' hm hj s
      have h48 : j = Z.length := by omega
      rw [h48, mix_full hDZ] at s
      refine hR _ _ _ _ _ ?_
      rw [vbin_lss, wv_some, decide_eq_false (by omega), brB_false]
      refine wv_of (whole_load T_ar48_int (RowL.own (i := 0) s rfl) (fits_plA p)) ?_
      refine wg_of (whole_store T_ar48_int (RowL.own (i := 1) s rfl) (fits_plA p) (by rw [sz_plA, sz, szs_uni huZ, hZl]) (okv_plA p)) ?_
      have s' := Sp.setRow (j := 1) s rfl (.agg (plA p))
      refine wv_of (whole_load T_ar48_int (RowL.own (i := 1) s' rfl) (fits_plA p)) ?_
      exact hQ _ s'.ch
    | succ m ih =>
      intro j G' hm hj s
      have hjZ : j < Z.length := by omega
      have hle : p / 2 ^ j ≤ p := Nat.div_le_self _ _
      refine hR _ _ _ _ _ ?_
      rw [vbin_lss, wv_some, decide_eq_true (by omega), brB_true]
      refine wv_of (remN (p / 2 ^ j) 2 (by decide) rfl) ?_
      refine wv_of (arrN_addr (j := j) T_ar48_int rfl T_int rfl (by omega)) ?_
      have hold : (mix (plA p) Z j)[j]? = some (.int .i64 0) := by
        rw [mix_get hDZ hjZ]
        congr 1
        simp only [hZ, List.getElem_replicate]
      refine wg_of (arrN_set (s := 1) (c := .int .i64 ((p / 2 ^ j % 2 : Nat) : Int)) T_int (RowL.own (i := 0) s rfl) (hum j) hold rfl rfl rfl) ?_
      have hset : (mix (plA p) Z j).set j (.int .i64 ((p / 2 ^ j % 2 : Nat) : Int)) = mix (plA p) Z (j + 1) := by
        have := mix_set hDZ hjZ
        have e : (plA p)[j]'(by rw [length_plA]; omega) = .int .i64 ((p / 2 ^ j % 2 : Nat) : Int) := by
          have := plA_get p (i := j) (by omega)
          rw [List.getElem?_eq_getElem (by rw [length_plA]; omega)] at this
          injection this
        rwa [e] at this
      rw [hset]
      have s' := Sp.setRow (j := 0) s rfl (.agg (mix (plA p) Z (j + 1)))
      have hq : vbin T .quo t_int64 (.int .i64 ((p / 2 ^ j : Nat) : Int)) (.int .i64 2) = some (.int .i64 ((p / 2 ^ (j + 1) : Nat) : Int)) := by
        rw [vbin_quo _ _ _ _ _ (by decide)]
        have h2 : (((p / 2 ^ j : Nat) : Int).tdiv 2) = ((p / 2 ^ j / 2 : Nat) : Int) := tdiv_nat _ 2
        have h3 : p / 2 ^ (j + 1) = p / 2 ^ j / 2 := by rw [Nat.pow_succ, Nat.div_div_eq_div_mul]
        obtain ⟨q, hq⟩ : ∃ q, q = p / 2 ^ j := ⟨_, rfl⟩
        rw [h2, h3]
        rw [← hq] at hle ⊢
        rw [i64_in (by omega) (by omega)]
      refine wv_of hq ?_
      rw [vbin_add, wv_some, i64_in (by omega) (by omega)]
      exact ih (j + 1) _ (by omega) (by omega) s'
  have := loop 48 0 _ rfl (by omega) (by rw [mix_zero]; exact s3)
  simpa using this

theorem escrowref09_Point.use {h : List UInt8} (hl : h.length = 32) (hQ : ∀ G', Ch [] G [] G' → Q (.agg ((sha h).map u8v)) G') : ACalls P escrowref09_Point.n [.agg (h.map u8v)] G Q := by
  refine escrowref09_Point.sound ?_
  unfold escrowref09_Point.S
  rw [z_hash]
  intro i1 f1
  have s1 := (Sp.nil G).row f1 (.agg (h.map u8v))
  intro i3 f3
  have s3 := s1.row f3 (.agg ((List.replicate 32 (0 : UInt8)).map u8v))
  refine wv_of vslice_hash ?_
  refine wv_of (conv_bytes T_sl_uint8 rfl T_uint8 rfl T_string rfl (row_is (RowL.own (i := 1) s3 rfl) hl)) ?_
  refine buildL (T := T) (ts := t_sl_string) (e := t_string) (si := ti_sl_string) (ie := ti_string) (l := [h].map .str) T_sl_string rfl T_string rfl rfl rfl rfl (by simp [sz, ti_string]) (by decide) s3 fun v7 G8 s8 => ?_
  refine escrowref02_Sum.use (xs := [h]) (OwnL.own (i := 0) s8 rfl).is (by simp) (by simp; omega) fun G10 c10 => ?_
  have s10 := s8.tmp c10
  have e1 : [h].flatten = h := by simp
  rw [e1]
  refine wg_of (store_hash (hs' := sha h) (by simp) (length_sha _) (RowL.own (i := 1) s10 rfl)) ?_
  have s11 := Sp.setRow (j := 1) s10 rfl (.agg ((sha h).map u8v))
  refine wv_of (load_hash (length_sha _) (RowL.own (i := 1) s11 rfl)) ?_
  exact hQ _ s11.ch

set_option maxHeartbeats 1000000 in
theorem escrowref09_down.use {h : List UInt8} {p k : Nat} (hl : h.length = 32) (hk : k ≤ 48) (hQ : ∀ G', Ch [] G [] G' → Q (.agg ((downS p k h).map u8v)) G') : ACalls P escrowref09_down.n [.agg (h.map u8v), .agg (plA p), .int .i64 (k : Int)] G Q := by
  refine escrowref09_down.sound ?_
  unfold escrowref09_down.S
  rw [z_hash]
  intro i1 f1
  have s1 := (Sp.nil G).row f1 (.agg (h.map u8v))
  intro i3 f3
  have s3 := s1.row f3 (.agg (plA p))
  intro i5 f5
  have s5 := s3.row f5 (.agg ((List.replicate 32 (0 : UInt8)).map u8v))
  rw [vbin_sub, i64_in (by omega) (by omega), wv_some]
  intro R hR
  have hD := length_down (pl := p) k hl
  have loop : ∀ (r : Nat) (c : List UInt8) (G' : Heap), r ≤ k → c.length = 32 → downS p r c = downS p k h → Sp [] G [RowL i5 (.agg ((List.replicate 32 (0 : UInt8)).map u8v)), RowL i3 (.agg (plA p)), RowL i1 (.agg (c.map u8v))] G' → R [.ptr i1 [] 0, .ptr i3 [] 0, .ptr i5 [] 0, .int .i64 ((r : Int) - 1)] G' := by
    intro r
    induction r with
    | zero =>
      intro c G' hr hc hd s
      have hcD : c = downS p k h := hd
      subst hcD
      refine hR _ _ _ _ _ ?_
      rw [vbin_geq, wv_some, decide_eq_false (by omega), brB_false]
      refine wv_of (load_hash hD (RowL.own (i := 2) s rfl)) ?_
      refine wg_of (store_hash (hs' := downS p k h) (by simp) hD (RowL.own (i := 0) s rfl)) ?_
      have s' := Sp.setRow (j := 0) s rfl (.agg ((downS p k h).map u8v))
      refine wv_of (load_hash hD (RowL.own (i := 0) s' rfl)) ?_
      exact hQ _ s'.ch
    | succ r ih =>
      intro c G' hr hc hd s
      refine hR _ _ _ _ _ ?_
      have er : ((r + 1 : Nat) : Int) - 1 = (r : Int) := by omega
      rw [er, vbin_geq, wv_some, decide_eq_true (by omega), brB_true]
      refine wv_of (arrN_addr (j := r) T_ar48_int rfl T_int rfl (by omega)) ?_
      refine wv_of (arrN_get (s := 1) T_int (RowL.own (i := 1) s rfl) (uni_plA p) (plA_get p (by omega)) rfl) ?_
      rw [vbin_eql, wv_some, brB_dec]
      refine ⟨fun h1 => ?_, fun h1 => ?_⟩
      · have hb1 : bitN p r = 1 := by omega
        have hstep : stepD p r c = sha (flipB c r) := by unfold stepD; rw [if_pos hb1]
        refine wv_of (quoN r 8 (by decide) (by omega) rfl) ?_
        refine wv_of (quoN r 8 (by decide) (by omega) rfl) ?_
        refine wv_of (addr_hash (j := r / 8) (by omega)) ?_
        refine wv_of (load_byte (hs := c) (j := r / 8) (by omega) (RowL.own (i := 2) s rfl)) ?_
        refine wv_of (remN r 8 (by decide) rfl) ?_
        refine wv_of (v := .int .u64 ((r % 8 : Nat) : Int)) (by rw [vconv_int T_int T_uint rfl, u64_in (by omega) (by omega)]) ?_
        refine wv_of (shl1 (by omega)) ?_
        refine wv_of (u8_xor _ _) ?_
        refine wv_of (addr_hash (j := r / 8) (by omega)) ?_
        refine wg_of (store_byte (hs := c) (j := r / 8) (by omega) (RowL.own (i := 2) s rfl)) ?_
        rw [flip_at hc (by omega)]
        have s' := Sp.setRow (j := 2) s rfl (.agg ((flipB c r).map u8v))
        have hfl := length_flip hc r
        refine wv_of (load_hash hfl (RowL.own (i := 2) s' rfl)) ?_
        refine escrowref09_Point.use hfl fun G29 c29 => ?_
        have s29 := s'.tmp c29
        refine wg_of (store_hash (hs' := sha (flipB c r)) hfl (length_sha _) (RowL.own (i := 2) s29 rfl)) ?_
        have s30 := Sp.setRow (j := 2) s29 rfl (.agg ((sha (flipB c r)).map u8v))
        rw [vbin_sub, wv_some, i64_in (by omega) (by omega)]
        refine ih _ _ (by omega) (length_sha _) ?_ s30
        rw [← hstep]
        exact hd
      · have hb0 : ¬ bitN p r = 1 := by omega
        have hstep : stepD p r c = c := by unfold stepD; rw [if_neg hb0]
        rw [vbin_sub, wv_some, i64_in (by omega) (by omega)]
        refine ih _ _ (by omega) hc ?_ s
        have hd' : downS p r (stepD p r c) = downS p k h := hd
        rwa [hstep] at hd'
  exact loop k h _ (Nat.le_refl _) hl rfl s5

theorem escrowref09_Secret.use {s : List UInt8} {n : Int} (hl : s.length = 32) (hQ : ∀ G', Ch [] G [] G' → Q (tupHI (secretS s n)) G') : ACalls P escrowref09_Secret.n [.agg (s.map u8v), .int .i64 n] G Q := by
  refine escrowref09_Secret.sound ?_
  unfold escrowref09_Secret.S
  rw [z_hash]
  intro i1 f1
  have s1 := (Sp.nil G).row f1 (.agg (s.map u8v))
  intro i3 f3
  have s3 := s1.row f3 (.agg (zero32.map u8v))
  refine escrowref09_good.use ?_
  unfold secretS at hQ
  rw [vun_not, wv_some]
  cases hn : okN n with
  | false =>
    rw [hn] at hQ
    rw [Bool.not_false, brB_true]
    refine wv_of zero_hash2 ?_
    refine wg_of (store_hash (hs' := zero32) rfl rfl (RowL.own (i := 0) s3 rfl)) ?_
    have s9 := Sp.setRow (j := 0) s3 rfl (.agg (zero32.map u8v))
    refine wv_of (load_hash rfl (RowL.own (i := 0) s9 rfl)) ?_
    exact hQ _ s9.ch
  | true =>
    rw [hn] at hQ
    rw [Bool.not_true, brB_false]
    refine wv_of (load_hash hl (RowL.own (i := 1) s3 rfl)) ?_
    refine escrowref09_Place.use hn fun G13 c13 => ?_
    have s13 := s3.tmp c13
    refine ⟨⟨load_hash hl (RowL.own (i := 1) s13 rfl), trivial⟩, ?_⟩
    refine escrowref09_down.use (k := 48) hl (by omega) fun G15 c15 => ?_
    have s15 := s13.tmp c15
    have hD := length_down (pl := pl n) 48 hl
    refine wg_of (store_hash (hs' := downS (pl n) 48 s) rfl hD (RowL.own (i := 0) s15 rfl)) ?_
    have s16 := Sp.setRow (j := 0) s15 rfl (.agg ((downS (pl n) 48 s).map u8v))
    refine wv_of (load_hash hD (RowL.own (i := 0) s16 rfl)) ?_
    exact hQ _ s16.ch

end
end Go.Esc.M

/- Own work. Chapter 9: the document's examples. -/
set_option linter.unusedSimpArgs false
set_option linter.unusedVariables false
set_option maxRecDepth 20000
namespace Go.Esc.M
open Go Go.Esc

theorem ex_zero : (downS (2 ^ 48 - 1) 48 zero32).take 4 = [2, 164, 12, 133] := by decide +kernel
end Go.Esc.M

/- Own work. Chapter 9: the head; SeedSecrets, SeedDerives. -/
set_option linter.unusedSimpArgs false
set_option linter.unusedVariables false
set_option maxRecDepth 20000
namespace Go.Esc.M
open Go Go.Esc

theorem len_derive {s : List UInt8} (h : s.length = 32) (a b : Int) : (deriveS s a b).1.length = 32 := by
  unfold deriveS
  cases okN a && okN b
  · rfl
  · rw [cond_true]
    split
    · exact length_down _ h
    · rfl

section
variable {F0 : List AId} {G0 G : Heap} {ps : List LP} {Q : AVal → Heap → Prop}

theorem newH {h : List UInt8} {K : AId → Heap → Prop} (s : Sp F0 G0 ps G) (hl : h.length = 32) (hK : ∀ i G', Sp F0 G0 (RowL i (.agg (h.map u8v)) :: ps) G' → K i G') :
    aNew G (.own z_api_Hash) fun i G2 => wg (vstore T G2 t_api_Hash (.ptr i [] 0) (.agg (h.map u8v))) fun G3 => K i G3 := newVal s T_api_Hash (fits32 hl) (sz32 hl) (okv32 h) hK

end

end Go.Esc.M

/- Own work. Chapter 9: SeedTree, SeedSteps, SeedEdges. -/
set_option linter.unusedSimpArgs false
set_option linter.unusedVariables false
set_option maxRecDepth 20000
namespace Go.Esc.M
open Go Go.Esc

section
variable {F0 : List AId} {G0 G : Heap} {ps : List LP} {Q : AVal → Heap → Prop}

end

end Go.Esc.M

/- Own work. Chapter 10: slots; what a shelf is asked. -/
set_option linter.unusedSimpArgs false
set_option linter.unusedVariables false
set_option maxRecDepth 20000
namespace Go.Esc
open Go Go.RowKit
section
variable {T : Tbl} {t e : TypeId} {i ie : TI} (ht : T t = some i) (hd : i.desc = .slice e) (he : T e = some ie)
end

end Go.Esc
namespace Go.Esc.M
open Go Go.Esc

structure SlotM where
  index : Int
  secret : List UInt8
  full : Bool
  deriving DecidableEq
def SlotM.cs (s : SlotM) : List AVal := [.int .i64 s.index, .agg (s.secret.map u8v), .bool s.full]
def SlotM.av (s : SlotM) : AVal := .agg s.cs
def SlotM.ok (s : SlotM) : Prop := s.secret.length = 32
theorem SlotM.sz {s : SlotM} (h : s.ok) : Esc.sz s.av = 34 := by
  have h1 : szs (s.secret.map u8v) = 32 := by rw [szs_uni (n := 1) (uni_u8 _)]; simp [show s.secret.length = 32 from h]
  simp [SlotM.av, SlotM.cs, Esc.sz, szs, h1]
theorem SlotM.fits {s : SlotM} (h : s.ok) : vfits ti_api_Slot s.av = true := by
  have h1 := SlotM.sz h
  have h2 : s.av.isAgg = true := rfl
  simp [vfits, h1, h2, ti_api_Slot, ADesc.isAgg]
theorem SlotM.okv (s : SlotM) : Esc.okv s.av = true := by simp [SlotM.av, SlotM.cs, Esc.okv, okvs, okvs_u8]
theorem uni_slots {l : List SlotM} (h : ∀ s ∈ l, s.ok) : Esc.uni 34 (l.map SlotM.av) = true := by
  simp only [Esc.uni, List.all_map, List.all_eq_true]
  intro s hs
  simp [SlotM.sz (h s hs)]
theorem okvs_slots : ∀ l : List SlotM, okvs (l.map SlotM.av) = true
  | [] => rfl
  | s :: l => by simp [okvs, SlotM.okv, okvs_slots l]
theorem map_slots (l : List SlotM) {j : Nat} {s : SlotM} (h : l[j]? = some s) : (l.map SlotM.av)[j]? = some s.av := by rw [List.getElem?_map, h]; rfl

theorem wt_Slot {G : Heap} {R d : Nat} {v : AVal} {m : Nat} (h : wt T G R (d + 3) t_api_Slot v m) : ∃ s : SlotM, v = s.av ∧ s.ok := by
  obtain ⟨cs, ms, rfl, hf, rfl⟩ := wt_struct T_api_Slot rfl h
  obtain ⟨c1, cs, m1, ms, rfl, rfl, h1, hf⟩ := wfs_cons hf
  obtain ⟨c2, cs, m2, ms, rfl, rfl, h2, hf⟩ := wfs_cons hf
  obtain ⟨c3, cs, m3, ms, rfl, rfl, h3, hf⟩ := wfs_cons hf
  obtain ⟨rfl, rfl⟩ := wfs_nil hf
  obtain ⟨a, rfl, _, _⟩ := wt_int T_int64 rfl h1
  obtain ⟨e, rfl, w, _⟩ := wt_hash T_api_Hash rfl T_uint8 rfl h2
  obtain ⟨b, rfl, _⟩ := wt_bool T_bool rfl h3
  exact ⟨⟨a, e, b⟩, rfl, w⟩
theorem veq_slot {a b : SlotM} (ha : a.ok) (hb : b.ok) : veqD T 9 t_api_Slot a.av b.av = some (decide (a = b)) := by
  obtain ⟨ai, ash, af⟩ := a
  obtain ⟨bi, bsh, bf⟩ := b
  have ha : ash.length = 32 := ha
  have hb : bsh.length = 32 := hb
  have h1 : veqD T 8 t_int64 (.int .i64 ai) (.int .i64 bi) = some (decide (ai = bi)) := by
    rw [veqD]
    simp only [T_int64]
    show (if IntKind.i64 = IntKind.i64 then some (decide (ai = bi)) else none) = _
    rw [if_pos rfl]
  have h2 : veqD T 8 t_api_Hash (.agg (ash.map u8v)) (.agg (bsh.map u8v)) = some (decide (ash = bsh)) := by
    rw [veqD_arr T_api_Hash rfl T_uint8]
    exact eqA_u8 T_uint8 rfl rfl 6 32 _ _ ha hb
  have h3 : veqD T 8 t_bool (.bool af) (.bool bf) = some (af == bf) := by
    rw [veqD]
    simp only [T_bool]
    rfl
  have f1 : ∀ n, vfits ti_int64 (.int .i64 n) = true := fun _ => rfl
  have f2 : ∀ n, vfits ti_bool (.bool n) = true := fun _ => rfl
  rw [veqD]
  simp only [T_api_Slot]
  show eqF T (veqD T 8) [(t_int64, 0), (t_api_Hash, 1), (t_bool, 33)] [.int .i64 ai, .agg (ash.map u8v), .bool af] [.int .i64 bi, .agg (bsh.map u8v), .bool bf] 0 = _
  have o1 : ti_int64.size = 1 := rfl
  have o2 : ti_api_Hash.size = 32 := rfl
  simp only [eqF, T_int64, T_api_Hash, T_bool, h1, h2, h3, f1, f2, fits32 ha, fits32 hb, o1, o2]
  by_cases e1 : ai = bi
  · by_cases e2 : ash = bsh
    · by_cases e3 : af = bf
      · subst e1 e2 e3; simp
      · subst e1 e2
        have : (af == bf) = false := by simp [e3]
        simp [this, e3]
    · simp [e1, e2]
  · simp [e1]
theorem slot_neq {a b : SlotM} (ha : a.ok) (hb : b.ok) : vbin T .neq t_api_Slot a.av b.av = some (.bool (!decide (a = b))) := by
  have := veq_slot ha hb
  unfold SlotM.av at this ⊢
  simp only [vbin, this]

section
variable {F0 : List AId} {G0 G : Heap} {ps : List LP} {v : AVal} {l : List SlotM} {j : Nat} {s : SlotM} {x : Int}
theorem slot_at (h : IsSl 34 G v (l.map SlotM.av)) (hx : x = (j : Int)) (hj : l[j]? = some s) : ∃ a, viaddr T t_sl_api_Slot v (.int .i64 x) = some a ∧ vload T G t_api_Slot a = some s.av := by
  subst hx
  exact h.at_ (k := .i64) T_sl_api_Slot rfl T_api_Slot (map_slots l hj) rfl
theorem slot_full (h : IsSl 34 G v (l.map SlotM.av)) (hx : x = (j : Int)) (hj : l[j]? = some s) (ho : s.ok) : ∃ a b, viaddr T t_sl_api_Slot v (.int .i64 x) = some a ∧ vfaddr T t_api_Slot a 2 = some b ∧ vload T G t_bool b = some (.bool s.full) := by
  subst hx
  have h1 : szs (s.secret.map u8v) = 32 := by rw [szs_uni (n := 1) (uni_u8 _)]; simp [show s.secret.length = 32 from ho]
  exact IsSl.fld (k := .i64) (cs := s.cs) T_sl_api_Slot rfl T_api_Slot (fs := [(t_int64, 0), (t_api_Hash, 1), (t_bool, 33)]) (f := 2) (o := 33) rfl rfl T_bool (by decide) h (map_slots l hj) (by simp [SlotM.cs, szs, Esc.sz, h1]) rfl rfl
theorem slot_index (h : IsSl 34 G v (l.map SlotM.av)) (hx : x = (j : Int)) (hj : l[j]? = some s) : ∃ a b, viaddr T t_sl_api_Slot v (.int .i64 x) = some a ∧ vfaddr T t_api_Slot a 0 = some b ∧ vload T G t_int64 b = some (.int .i64 s.index) := by
  subst hx
  exact IsSl.fld (k := .i64) (cs := s.cs) T_sl_api_Slot rfl T_api_Slot (fs := [(t_int64, 0), (t_api_Hash, 1), (t_bool, 33)]) (f := 0) (o := 0) rfl rfl T_int64 (by decide) h (map_slots l hj) rfl rfl rfl
theorem slot_secret (h : IsSl 34 G v (l.map SlotM.av)) (hx : x = (j : Int)) (hj : l[j]? = some s) (ho : s.ok) : ∃ a b, viaddr T t_sl_api_Slot v (.int .i64 x) = some a ∧ vfaddr T t_api_Slot a 1 = some b ∧ vload T G t_api_Hash b = some (.agg (s.secret.map u8v)) := by
  subst hx
  exact IsSl.fld (k := .i64) (cs := s.cs) T_sl_api_Slot rfl T_api_Slot (fs := [(t_int64, 0), (t_api_Hash, 1), (t_bool, 33)]) (f := 1) (o := 1) rfl rfl T_api_Hash (by decide) h (map_slots l hj) (by simp [SlotM.cs, szs, Esc.sz]) rfl (fits32 ho)
theorem slots_len (h : IsSl 34 G v (l.map SlotM.av)) : vlen T G t_sl_api_Slot v = some (.int .i64 (l.length : Nat)) := by
  rw [h.len (i := ti_sl_api_Slot) T_sl_api_Slot rfl, List.length_map]
end
/-! ### What is asked -/
def getL (n : Int) : List SlotM → List UInt8 × Int
  | [] => (zero32, 5)
  | s :: l => if s.full = true ∧ (deriveS s.secret s.index n).2 = 0 then ((deriveS s.secret s.index n).1, 0) else getL n l
def getS (l : List SlotM) (n : Int) : List UInt8 × Int := if 49 < l.length then (zero32, 1) else if okN n = true then getL n l else (zero32, 90)

theorem getL_len {n : Int} : ∀ {l : List SlotM}, (∀ s ∈ l, s.ok) → (getL n l).1.length = 32
  | [], _ => rfl
  | s :: l, h => by
    unfold getL
    split
    · exact len_derive (h s (by simp)) _ _
    · exact getL_len fun x hx => h x (by simp [hx])
theorem getS_len {n : Int} {l : List SlotM} (h : ∀ s ∈ l, s.ok) : (getS l n).1.length = 32 := by
  unfold getS
  split
  · rfl
  · split
    · exact getL_len h
    · rfl

end Go.Esc.M
