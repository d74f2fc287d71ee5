import Derived.Test.YtmhhddpkhfohcaaLCq
import Derived.Test.YtmhhddpkhfohcaaLDd
import Derived.Test.YtmhhddpkhfohcaaLCw
/- Own work. Chapter 12: updates; which are valid. -/
set_option linter.unusedSimpArgs false
set_option linter.unusedVariables false
namespace Go.Esc.M
open Go Go.Esc

structure UpdM where
  kind : Int
  id : Int
  amount : Int
  hash : List UInt8
  note : List UInt8
  deriving DecidableEq

def h0 : List UInt8 := List.replicate 32 0
theorem h0_len : h0.length = 32 := rfl
def UpdM.cs (u : UpdM) : List AVal := [.int .i64 u.kind, .int .i64 u.id, .int .i64 u.amount, .agg (u.hash.map u8v), .str u.note]
def UpdM.av (u : UpdM) : AVal := .agg u.cs
def UpdM.zero : UpdM := ⟨0, 0, 0, h0, []⟩
structure UpdM.ok (u : UpdM) : Prop where
  kind : I64 u.kind
  id : I64 u.id
  amount : I64 u.amount
  hash : u.hash.length = 32
  note : u.note.length ≤ 9223372036854775807
theorem UpdM.zero_ok : UpdM.zero.ok := ⟨⟨by decide, by decide⟩, ⟨by decide, by decide⟩, ⟨by decide, by decide⟩, rfl, by decide⟩

theorem szh {h : List UInt8} (hl : h.length = 32) : szs (h.map u8v) = 32 := by rw [szs_uni (n := 1) (uni_u8 h)]; simp [hl]
theorem UpdM.sz {u : UpdM} (h : u.ok) : Esc.sz u.av = 36 := by simp [UpdM.av, UpdM.cs, Esc.sz, szs, szh h.hash]
theorem UpdM.fits {u : UpdM} (h : u.ok) : vfits ti_api_Update u.av = true := by
  have h1 := UpdM.sz h
  have h2 : u.av.isAgg = true := rfl
  simp [vfits, h1, h2, ti_api_Update, ADesc.isAgg]
theorem UpdM.okv (u : UpdM) : Esc.okv u.av = true := by simp [UpdM.av, UpdM.cs, Esc.okv, okvs, okvs_u8]
theorem fits_hash {h : List UInt8} (hl : h.length = 32) : vfits ti_api_Hash (.agg (h.map u8v)) = true := by simp [vfits, Esc.sz, szh hl, ti_api_Hash, AVal.isAgg, ADesc.isAgg]

section
variable {F0 : List AId} {G0 G : Heap} {ps : List LP} {i : Nat} {id : AId} {u : UpdM}

theorem upd_load (hs : Sp F0 G0 ps G) (hi : ps[i]? = some (RowL id u.av)) (h : u.ok) :
    vload T G t_int (.ptr id [0] 0) = some (.int .i64 u.kind) ∧ vload T G t_int64 (.ptr id [1] 1) = some (.int .i64 u.id) ∧ vload T G t_int64 (.ptr id [2] 2) = some (.int .i64 u.amount) ∧ vload T G t_api_Hash (.ptr id [3] 3) = some (.agg (u.hash.map u8v)) ∧ vload T G t_string (.ptr id [4] 35) = some (.str u.note) ∧ vload T G t_api_Update (.ptr id [] 0) = some u.av := by
  have hg := RowL.own hs hi
  refine ⟨vload_fld (c := .int .i64 u.kind) hg rfl rfl rfl T_int rfl, vload_fld (c := .int .i64 u.id) hg rfl rfl rfl T_int64 rfl, vload_fld (c := .int .i64 u.amount) hg rfl rfl rfl T_int64 rfl, vload_fld (c := .agg (u.hash.map u8v)) hg rfl rfl rfl T_api_Hash (fits_hash h.hash), vload_fld (c := .str u.note) hg rfl ?_ rfl T_string rfl, whole_load T_api_Update hg (UpdM.fits h)⟩
  simp [UpdM.cs, szs, Esc.sz, szh h.hash]
theorem upd_store {u' : UpdM} (hs : Sp F0 G0 ps G) (hi : ps[i]? = some (RowL id u.av)) (h : u.ok) (h' : u'.ok) {K : Heap → Prop} (hK : ∀ G', Sp F0 G0 (ps.set i (RowL id u'.av)) G' → K G') : wg (vstore T G t_api_Update (.ptr id [] 0) u'.av) K := by
  refine wg_of (whole_store T_api_Update (RowL.own hs hi) (UpdM.fits h') (by rw [UpdM.sz h, UpdM.sz h']) (UpdM.okv _)) ?_
  exact hK _ (Sp.setRow hs hi _)
theorem upd_id (n : Int) (hs : Sp F0 G0 ps G) (hi : ps[i]? = some (RowL id u.av)) {K : Heap → Prop} (hK : ∀ G', Sp F0 G0 (ps.set i (RowL id ({ u with id := n } : UpdM).av)) G' → K G') : wg (vstore T G t_int64 (.ptr id [1] 1) (.int .i64 n)) K := by
  refine wg_of (vstore_fld (c := .int .i64 n) (u := .int .i64 u.id) (RowL.own hs hi) rfl rfl T_int64 rfl rfl rfl) ?_
  exact hK _ (Sp.setRow hs hi _)
theorem upd_amount (n : Int) (hs : Sp F0 G0 ps G) (hi : ps[i]? = some (RowL id u.av)) {K : Heap → Prop} (hK : ∀ G', Sp F0 G0 (ps.set i (RowL id ({ u with amount := n } : UpdM).av)) G' → K G') : wg (vstore T G t_int64 (.ptr id [2] 2) (.int .i64 n)) K := by
  refine wg_of (vstore_fld (c := .int .i64 n) (u := .int .i64 u.amount) (RowL.own hs hi) rfl rfl T_int64 rfl rfl rfl) ?_
  exact hK _ (Sp.setRow hs hi _)
theorem upd_hash {n : List UInt8} (hn : n.length = 32) (h : u.ok) (hs : Sp F0 G0 ps G) (hi : ps[i]? = some (RowL id u.av)) {K : Heap → Prop} (hK : ∀ G', Sp F0 G0 (ps.set i (RowL id ({ u with hash := n } : UpdM).av)) G' → K G') : wg (vstore T G t_api_Hash (.ptr id [3] 3) (.agg (n.map u8v))) K := by
  refine wg_of (vstore_fld (c := .agg (n.map u8v)) (u := .agg (u.hash.map u8v)) (RowL.own hs hi) rfl rfl T_api_Hash (fits_hash hn) (by simp [Esc.sz, szh hn, szh h.hash]) (by simp [Esc.okv, okvs_u8])) ?_
  exact hK _ (Sp.setRow hs hi _)
theorem upd_note (n : List UInt8) (h : u.ok) (hs : Sp F0 G0 ps G) (hi : ps[i]? = some (RowL id u.av)) {K : Heap → Prop} (hK : ∀ G', Sp F0 G0 (ps.set i (RowL id ({ u with note := n } : UpdM).av)) G' → K G') : wg (vstore T G t_string (.ptr id [4] 35) (.str n)) K := by
  refine wg_of (vstore_fld (c := .str n) (u := .str u.note) (RowL.own hs hi) (by simp [UpdM.cs, szs, Esc.sz, szh h.hash]) rfl T_string rfl rfl rfl) ?_
  exact hK _ (Sp.setRow hs hi _)

end

theorem wt_Upd {G : Heap} {R d : Nat} {v : AVal} {m : Nat} (h : wt T G R (d + 3) t_api_Update v m) : ∃ u : UpdM, v = u.av ∧ u.ok ∧ u.note.length ≤ m ∧ u.note.length ≤ R := by
  obtain ⟨cs, ms, rfl, hf, rfl⟩ := wt_struct T_api_Update rfl h
  obtain ⟨c1, cs, m1, ms, rfl, rfl, h1, hf⟩ := wfs_cons hf
  obtain ⟨c2, cs, m2, ms, rfl, rfl, h2, hf⟩ := wfs_cons hf
  obtain ⟨c3, cs, m3, ms, rfl, rfl, h3, hf⟩ := wfs_cons hf
  obtain ⟨c4, cs, m4, ms, rfl, rfl, h4, hf⟩ := wfs_cons hf
  obtain ⟨c5, cs, m5, ms, rfl, rfl, h5, hf⟩ := wfs_cons hf
  obtain ⟨rfl, rfl⟩ := wfs_nil hf
  obtain ⟨a, rfl, w1, _⟩ := wt_int T_int rfl h1
  obtain ⟨b, rfl, w2, _⟩ := wt_int T_int64 rfl h2
  obtain ⟨c, rfl, w3, _⟩ := wt_int T_int64 rfl h3
  obtain ⟨e, rfl, w4, _⟩ := wt_hash T_api_Hash rfl T_uint8 rfl h4
  obtain ⟨n, rfl, hR, hn, hm⟩ := wt_str T_string rfl h5
  exact ⟨⟨a, b, c, e, n⟩, rfl, ⟨i64_wf.1 w1, i64_wf.1 w2, i64_wf.1 w3, w4, hn⟩, by simp; omega, hR⟩

def maxAm : Int := 1152921504606846976
def validU (u : UpdM) : Bool :=
  decide (0 ≤ u.id) && (decide (u.id < 2048) && (if u.kind = 1 then decide (1 ≤ u.amount) && (decide (u.amount ≤ maxAm) && decide (u.note = []))
    else if u.kind = 2 then decide (u.amount = 0) && decide (u.note = [])
    else if u.kind = 3 then decide (u.amount = 0) && (decide (u.hash = h0) && decide (u.note.length ≤ 64)) else false))

section
variable {G : Heap} {Q : AVal → Heap → Prop}

theorem build_h0 : vbuild T t_api_Hash [] = some (.agg (h0.map u8v)) := rfl
theorem hash_eql {a b : List UInt8} (ha : a.length = 32) (hb : b.length = 32) : vbin T .eql t_api_Hash (.agg (a.map u8v)) (.agg (b.map u8v)) = some (.bool (decide (a = b))) :=
  vbin_heql (i := ti_api_Hash) (ie := ti_uint8) (n := 32) T_api_Hash rfl T_uint8 rfl rfl ha hb
theorem hash_neq {a b : List UInt8} (ha : a.length = 32) (hb : b.length = 32) : vbin T .neq t_api_Hash (.agg (a.map u8v)) (.agg (b.map u8v)) = some (.bool (!decide (a = b))) :=
  vbin_hneq (i := ti_api_Hash) (ie := ti_uint8) (n := 32) T_api_Hash rfl T_uint8 rfl rfl ha hb

set_option maxHeartbeats 1000000 in
theorem update_Valid.use {u : UpdM} (h : u.ok) (hQ : ∀ G', Ch [] G [] G' → Q (.bool (validU u)) G') : ACalls P update_Valid.n [u.av] G Q := by
  refine update_Valid.sound ?_
  unfold update_Valid.S
  obtain ⟨mA, hmA⟩ : ∃ m, m = (1152921504606846976 : Int) := ⟨_, rfl⟩
  rw [← hmA]
  have hmax : maxAm = mA := by rw [hmA]; rfl
  unfold validU at hQ
  rw [hmax] at hQ
  clear hmax hmA
  intro i1 f1
  have s1 := (Sp.nil G).row f1 u.av
  obtain ⟨l0, l1, l2, l3, l4, _⟩ := upd_load (i := 0) s1 rfl h
  have hQ := hQ _ s1.ch
  revert hQ l0 l1 l2 l3 l4
  generalize G.upd i1 (.own u.av) = G2
  intro l0 l1 l2 l3 l4 hQ J37
  have bad : (decide (0 ≤ u.id) && decide (u.id < 2048)) = false → J37 (.bool true) G2 := by
    intro hb
    simp -zeta only [J37, brB_true]
    rw [← Bool.and_assoc, hb, Bool.false_and] at hQ
    exact hQ
  have good : 0 ≤ u.id → u.id < 2048 → J37 (.bool false) G2 := by
    intro h0 h1
    rw [decide_eq_true h0, decide_eq_true h1, Bool.true_and, Bool.true_and] at hQ
    simp -zeta only [J37, brB_false]
    rw [l0, wv_some, vbin_eql, wv_some, brB_dec]
    refine ⟨fun hk => ?_, fun hk1 => ?_⟩
    · rw [if_pos hk] at hQ
      rw [l2, wv_some, vbin_geq, wv_some, brB_dec]
      refine ⟨fun ha => ?_, fun ha => by rwa [decide_eq_false ha, Bool.false_and] at hQ⟩
      rw [decide_eq_true ha, Bool.true_and] at hQ
      rw [wv_some, vbin_leq, wv_some, brB_dec]
      refine ⟨fun hb => ?_, fun hb => by rwa [decide_eq_false hb, Bool.false_and] at hQ⟩
      rw [decide_eq_true hb, Bool.true_and] at hQ
      rw [l4, wv_some, vbin_seql, wv_some]
      exact hQ
    rw [if_neg hk1] at hQ
    rw [vbin_eql, wv_some, brB_dec]
    refine ⟨fun hk => ?_, fun hk2 => ?_⟩
    · rw [if_pos hk] at hQ
      rw [l2, wv_some, vbin_eql, wv_some, brB_dec]
      refine ⟨fun ha => ?_, fun ha => by rwa [decide_eq_false ha, Bool.false_and] at hQ⟩
      rw [decide_eq_true ha, Bool.true_and] at hQ
      rw [l4, wv_some, vbin_seql, wv_some]
      exact hQ
    rw [if_neg hk2] at hQ
    rw [vbin_eql, wv_some, brB_dec]
    refine ⟨fun hk => ?_, fun hk3 => ?_⟩
    · rw [if_pos hk] at hQ
      rw [l2, wv_some, vbin_eql, wv_some, brB_dec]
      refine ⟨fun ha => ?_, fun ha => by rwa [decide_eq_false ha, Bool.false_and] at hQ⟩
      rw [decide_eq_true ha, Bool.true_and] at hQ
      rw [l3, wv_some, build_h0, wv_some, hash_eql h.hash h0_len, wv_some, brB_dec]
      refine ⟨fun hb => ?_, fun hb => by rwa [decide_eq_false hb, Bool.false_and] at hQ⟩
      rw [decide_eq_true hb, Bool.true_and] at hQ
      rw [l4, wv_some]
      show wv (some (.int .i64 (u.note.length : Nat))) _
      rw [wv_some, vbin_leq, wv_some]
      have : decide (((u.note.length : Nat) : Int) ≤ 64) = decide (u.note.length ≤ 64) := by rw [decide_eq_decide]; omega
      rw [this]
      exact hQ
    · rwa [if_neg hk3] at hQ
  rw [l1, wv_some, vbin_lss, wv_some, brB_dec]
  refine ⟨fun hb => bad (by rw [decide_eq_false (by omega), Bool.false_and]), fun h0 => ?_⟩
  rw [wv_some, vbin_geq, wv_some]
  by_cases h1 : (2048 : Int) ≤ u.id
  · rw [decide_eq_true h1]
    exact bad (by rw [decide_eq_false (show ¬ u.id < 2048 by omega), Bool.and_false])
  · rw [decide_eq_false h1]
    exact good (by omega) (by omega)

set_option maxHeartbeats 1000000 in
theorem escrowref12_Valid.use {u : UpdM} (h : u.ok) (hQ : ∀ G', Ch [] G [] G' → Q (.bool (validU u)) G') : ACalls P escrowref12_Valid.n [u.av] G Q := by
  refine escrowref12_Valid.sound ?_
  unfold escrowref12_Valid.S
  obtain ⟨mA, hmA⟩ : ∃ m, m = (1152921504606846976 : Int) := ⟨_, rfl⟩
  rw [← hmA]
  have hmax : maxAm = mA := by rw [hmA]; rfl
  unfold validU at hQ
  rw [hmax] at hQ
  clear hmax hmA
  rw [z_hash]
  intro i1 f1
  have s1 := (Sp.nil G).row f1 u.av
  refine wv_of build_h0 ?_
  intro i4 f4
  have s4 := s1.row f4 (.agg ((List.replicate 32 (0 : UInt8)).map u8v))
  refine hash_store (i := 0) (h' := h0) s4 rfl zh_len h0_len fun G2 s6 => ?_
  obtain ⟨l0, l1, l2, l3, l4, _⟩ := upd_load (i := 1) s6 rfl h
  have l5 := load_hash h0_len (RowL.own (i := 0) s6 rfl)
  have hQ := hQ _ s6.ch
  revert l0 l1 l2 l3 l4 l5 hQ
  intro l0 l1 l2 l3 l4 l5 hQ J41
  have bad : (decide (0 ≤ u.id) && decide (u.id < 2048)) = false → J41 (.bool true) G2 := by
    intro hb
    simp -zeta only [J41, brB_true]
    rw [← Bool.and_assoc, hb, Bool.false_and] at hQ
    exact hQ
  have good : 0 ≤ u.id → u.id < 2048 → J41 (.bool false) G2 := by
    intro h0 h1
    rw [decide_eq_true h0, decide_eq_true h1, Bool.true_and, Bool.true_and] at hQ
    simp -zeta only [J41, brB_false]
    rw [l0, wv_some, vbin_eql, wv_some, brB_dec]
    refine ⟨fun hk => ?_, fun hk1 => ?_⟩
    · rw [if_pos hk] at hQ
      rw [l2, wv_some, vbin_geq, wv_some, brB_dec]
      refine ⟨fun ha => ?_, fun ha => by rwa [decide_eq_false ha, Bool.false_and] at hQ⟩
      rw [decide_eq_true ha, Bool.true_and] at hQ
      rw [wv_some, vbin_leq, wv_some, brB_dec]
      refine ⟨fun hb => ?_, fun hb => by rwa [decide_eq_false hb, Bool.false_and] at hQ⟩
      rw [decide_eq_true hb, Bool.true_and] at hQ
      rw [l4, wv_some, vbin_seql, wv_some]
      exact hQ
    rw [if_neg hk1] at hQ
    rw [vbin_eql, wv_some, brB_dec]
    refine ⟨fun hk => ?_, fun hk2 => ?_⟩
    · rw [if_pos hk] at hQ
      rw [l2, wv_some, vbin_eql, wv_some, brB_dec]
      refine ⟨fun ha => ?_, fun ha => by rwa [decide_eq_false ha, Bool.false_and] at hQ⟩
      rw [decide_eq_true ha, Bool.true_and] at hQ
      rw [l4, wv_some, vbin_seql, wv_some]
      exact hQ
    rw [if_neg hk2] at hQ
    rw [vbin_eql, wv_some, brB_dec]
    refine ⟨fun hk => ?_, fun hk3 => ?_⟩
    · rw [if_pos hk] at hQ
      rw [l2, wv_some, vbin_eql, wv_some, brB_dec]
      refine ⟨fun ha => ?_, fun ha => by rwa [decide_eq_false ha, Bool.false_and] at hQ⟩
      rw [decide_eq_true ha, Bool.true_and] at hQ
      rw [l3, wv_some, l5, wv_some, hash_eql h.hash h0_len, wv_some, brB_dec]
      refine ⟨fun hb => ?_, fun hb => by rwa [decide_eq_false hb, Bool.false_and] at hQ⟩
      rw [decide_eq_true hb, Bool.true_and] at hQ
      rw [l4, wv_some]
      show wv (some (.int .i64 (u.note.length : Nat))) _
      rw [wv_some, vbin_leq, wv_some]
      have : decide (((u.note.length : Nat) : Int) ≤ 64) = decide (u.note.length ≤ 64) := by rw [decide_eq_decide]; omega
      rw [this]
      exact hQ
    · rwa [if_neg hk3] at hQ
  rw [l1, wv_some, vbin_lss, wv_some, brB_dec]
  refine ⟨fun hb => bad (by rw [decide_eq_false (by omega), Bool.false_and]), fun h0 => ?_⟩
  rw [wv_some, vbin_geq, wv_some]
  by_cases h1 : (2048 : Int) ≤ u.id
  · rw [decide_eq_true h1]
    exact bad (by rw [decide_eq_false (show ¬ u.id < 2048 by omega), Bool.and_false])
  · rw [decide_eq_false h1]
    exact good (by omega) (by omega)

end
end Go.Esc.M

/- Own work. Chapter 12: updates written. -/
set_option linter.unusedSimpArgs false
set_option linter.unusedVariables false
namespace Go.Esc.M
open Go Go.Esc

def tailU (u : UpdM) : List UInt8 := if u.kind = 1 then be 8 (bits64 u.amount) ++ u.hash else if u.kind = 2 then u.hash else be 2 u.note.length ++ u.note
def bytesU (u : UpdM) : List UInt8 := be 1 u.kind.toNat ++ (be 2 u.id.toNat ++ tailU u)
def writeR (u : UpdM) : List UInt8 × Int := bif validU u then (bytesU u, 0) else ([], 120)

theorem valid_spec {u : UpdM} (h : validU u = true) : 0 ≤ u.id ∧ u.id < 2048 ∧ ((u.kind = 1 ∧ 1 ≤ u.amount ∧ u.amount ≤ 1152921504606846976 ∧ u.note = []) ∨ (u.kind = 2 ∧ u.amount = 0 ∧ u.note = []) ∨ (u.kind = 3 ∧ u.amount = 0 ∧ u.hash = h0 ∧ u.note.length ≤ 64)) := by
  unfold validU maxAm at h
  simp only [Bool.and_eq_true, decide_eq_true_eq] at h
  obtain ⟨h1, h2, h3⟩ := h
  refine ⟨h1, h2, ?_⟩
  split at h3
  · simp only [Bool.and_eq_true, decide_eq_true_eq] at h3
    rename_i hk
    exact .inl ⟨hk, h3.1, h3.2.1, h3.2.2⟩
  split at h3
  · simp only [Bool.and_eq_true, decide_eq_true_eq] at h3
    rename_i hk
    exact .inr (.inl ⟨hk, h3.1, h3.2⟩)
  split at h3
  · simp only [Bool.and_eq_true, decide_eq_true_eq] at h3
    rename_i hk
    exact .inr (.inr ⟨hk, h3.1, h3.2.1, h3.2.2⟩)
  · cases h3

theorem laidText_ok {bs s : List UInt8} (h : s.length ≤ 65535) : laidText (bs, 0) s = laid (bs, 0) (be 2 s.length ++ s) := by
  unfold laidText laid
  simp [h]

section
variable {F0 : List AId} {G0 G : Heap} {ps : List LP} {Q : AVal → Heap → Prop}

theorem u16_conv (n : Int) (h0 : 0 ≤ n) (h1 : n ≤ 65535) : vconv T G t_int64 t_uint16 (.int .i64 n) = some (.int .u16 (n.toNat : Nat)) := by
  rw [vconv_int T_int64 T_uint16 rfl, u16_in h0 h1]
  congr 2
  omega

theorem slice_upd {i : AId} {u : UpdM} (h : u.ok) (hg : G i = some (.own u.av)) : ∃ x, vslice T t_api_Hash (.ptr i [3] 3) none none none = some x ∧ IsSl 1 G x (u.hash.map u8v) := by
  have e1 : T t_api_Hash = some ti_api_Hash := T_api_Hash
  have e2 : ti_api_Hash.desc = .array 32 t_uint8 := rfl
  refine ⟨.slice i [3] 0 3 32 32, by simp [vslice, e1, e2, T_uint8, sbounds, sbound, ti_uint8], .inl ⟨_, _, _, _, _, _, rfl, ?_⟩⟩
  have hh := h.hash
  have ha : arrAt G 1 i [3] 0 3 = some (u.hash.map u8v) := by
    simp [arrAt, vsub, hg, treeOf, UpdM.av, UpdM.cs, sub, szs, Esc.sz, uni_u8]
  rw [selems, ha]
  simp [hh, List.take_of_length_le]

set_option maxHeartbeats 1000000 in
theorem update_Write.use {u : UpdM} (h : u.ok) (hQ : ∀ G', Ch [] G [] G' → Q (.tuple [.str (writeR u).1, .int .i64 (writeR u).2]) G') : ACalls P update_Write.n [u.av] G Q := by
  refine update_Write.sound ?_
  unfold update_Write.S
  intro i1 f1
  have s1 := (Sp.nil G).row f1 u.av
  refine wv_of (upd_load (i := 0) s1 rfl h).2.2.2.2.2 ?_
  refine update_Valid.use h fun G5 c5 => ?_
  have s5 := s1.tmp c5
  rw [vun_not, wv_some]
  unfold writeR at hQ
  cases hv : validU u with
  | false =>
    rw [hv] at hQ
    exact hQ _ s5.ch
  | true =>
    rw [hv] at hQ
    simp only [cond_true] at hQ
    rw [Bool.not_true, brB_false]
    obtain ⟨hi0, hi1, hk⟩ := valid_spec hv
    have hkr : 1 ≤ u.kind ∧ u.kind ≤ 3 := by omega
    refine cursor_New.use fun iw G8 w8 c8 => ?_
    have s8 := s5.new (p := WrL iw [] 0) w8 c8
    refine wv_of (upd_load (i := 1) s8 rfl h).1 ?_
    refine wv_of (u8_conv u.kind (by omega) (by omega)) ?_
    refine wr (i := 0) s8 rfl (fun h k => cursor_Writer_U8.use (by omega) h (by simp) k) fun G12 s12 => ?_
    refine wv_of (upd_load (i := 1) s12 rfl h).2.1 ?_
    refine wv_of (u16_conv u.id (by omega) (by omega)) ?_
    refine wr (i := 0) s12 rfl (fun h k => cursor_Writer_U16.use (by omega) h (by simp [length_be]) k) fun G16 s16 => ?_
    refine wv_of (upd_load (i := 1) s16 rfl h).1 ?_
    intro J41
    have out : ∀ G' bs, Sp [] G [WrL iw bs 0, RowL i1 u.av] G' → bs = bytesU u → J41 G' := by
      intro G' bs hs hb
      simp -zeta only [J41]
      obtain ⟨F, hw⟩ := hs.get (i := 0) rfl
      refine cursor_Writer_Out.use (st := (bs, 0)) hw ?_
      rw [vext0, wv_some, vext1, wv_some, if_pos rfl, hb]
      exact hQ _ hs.ch
    have s16 : Sp [] G [WrL iw ([] ++ be 1 u.kind.toNat ++ be 2 u.id.toNat) 0, RowL i1 u.av] G16 := s16
    rw [vbin_eql, wv_some, brB_dec]
    refine ⟨fun hk1 => ?_, fun hk1 => ?_⟩
    · refine wv_of (upd_load (i := 1) s16 rfl h).2.2.1 ?_
      refine wr (i := 0) s16 rfl (fun h k => cursor_Writer_I64.use h (by simp [length_be]) k) fun G21 s21 => ?_
      refine wv_of (upd_load (i := 1) s21 rfl h).2.2.2.1 ?_
      refine wr (i := 0) s21 rfl (fun hh k => cursor_Writer_Hash.use h.hash hh (by simp [length_be]) k) fun G24 s24 => ?_
      exact out _ _ s24 (by simp [bytesU, tailU, hk1])
    rw [vbin_eql, wv_some, brB_dec]
    refine ⟨fun hk2 => ?_, fun hk2 => ?_⟩
    · refine wv_of (upd_load (i := 1) s16 rfl h).2.2.2.1 ?_
      refine wr (i := 0) s16 rfl (fun hh k => cursor_Writer_Hash.use h.hash hh (by simp [length_be]) k) fun G24 s24 => ?_
      exact out _ _ s24 (by simp [bytesU, tailU, hk2])
    rw [vbin_eql, wv_some, brB_dec]
    refine ⟨fun hk3 => ?_, fun hk3 => absurd (by omega) hk3⟩
    have hn : u.note.length ≤ 64 := by
      rcases hk with hk | hk | hk
      · omega
      · omega
      · exact hk.2.2.2
    refine wv_of (upd_load (i := 1) s16 rfl h).2.2.2.2.1 ?_
    refine wr (i := 0) (xs := be 2 u.note.length ++ u.note) s16 rfl (fun hh k => cursor_Writer_Text.use hh (by simp [length_be]; omega) (by rw [laidText_ok (by omega)]; exact k)) fun G32 s32 => ?_
    exact out _ _ s32 (by simp [bytesU, tailU, hk1, hk2])

theorem bits64_nat {n : Int} (h0 : 0 ≤ n) (h1 : n ≤ 9223372036854775807) : bits64 n = n.toNat := by
  unfold bits64; omega

set_option maxHeartbeats 1000000 in
theorem escrowref12_Write.use {u : UpdM} (h : u.ok) (hQ : ∀ G', Ch [] G [] G' → Q (.tuple [.str (writeR u).1, .int .i64 (writeR u).2]) G') : ACalls P escrowref12_Write.n [u.av] G Q := by
  refine escrowref12_Write.sound ?_
  unfold escrowref12_Write.S
  intro i1 f1
  have s1 := (Sp.nil G).row f1 u.av
  refine wv_of (upd_load (i := 0) s1 rfl h).2.2.2.2.2 ?_
  refine escrowref12_Valid.use h fun G5 c5 => ?_
  have s5 := s1.tmp c5
  rw [vun_not, wv_some]
  unfold writeR at hQ
  cases hv : validU u with
  | false =>
    rw [hv] at hQ
    exact hQ _ s5.ch
  | true =>
    rw [hv] at hQ
    simp only [cond_true] at hQ
    rw [Bool.not_true, brB_false]
    obtain ⟨hi0, hi1, hk⟩ := valid_spec hv
    have hkr : 1 ≤ u.kind ∧ u.kind ≤ 3 := by omega
    have hh := h.hash
    refine wv_of (upd_load (i := 0) s5 rfl h).1 ?_
    rw [vconv_int T_int T_uint64 rfl, wrap_bits64, wv_some]
    refine wv_of (upd_load (i := 0) s5 rfl h).2.1 ?_
    rw [vconv_int T_int64 T_uint64 rfl, wrap_bits64, wv_some]
    refine escrowref03_Bytes.use (k := 1) (by omega) fun G12 c12 => ?_
    have s12 := s5.tmp c12
    refine ⟨⟨(upd_load (i := 0) s12 rfl h).2.1, trivial⟩, ?_⟩
    refine escrowref03_Bytes.use (k := 2) (by omega) fun G14 c14 => ?_
    have s14 := s12.tmp c14
    rw [bits64_nat (n := u.kind) (by omega) (by omega), bits64_nat (n := u.id) (by omega) (by omega), vbin_sadd _ _ (by simp [length_be]), wv_some]
    refine wv_of (upd_load (i := 0) s14 rfl h).1 ?_
    rw [vbin_eql, wv_some, brB_dec]
    obtain ⟨x, hx, hxs⟩ := slice_upd h (RowL.own (i := 0) s14 rfl)
    have hcv : ∀ {G' : Heap}, IsSl 1 G' x (u.hash.map u8v) → vconv T G' t_sl_uint8 t_string x = some (.str u.hash) := fun hh => conv_bytes (si := ti_sl_uint8) (ie := ti_uint8) (di := ti_string) T_sl_uint8 rfl T_uint8 rfl T_string rfl hh
    refine ⟨fun hk1 => ?_, fun hk1 => ?_⟩
    · refine wv_of (upd_load (i := 0) s14 rfl h).2.2.1 ?_
      rw [vconv_int T_int64 T_uint64 rfl, wrap_bits64, wv_some]
      refine wv_of hx ?_
      refine wv_of (hcv hxs) ?_
      refine escrowref03_Bytes.use (k := 8) (by omega) fun G23 c23 => ?_
      have s23 := s14.tmp c23
      refine ⟨⟨hcv (hxs.ch' c23), trivial⟩, ?_⟩
      rw [vbin_sadd _ _ (by simp [length_be]), wv_some, vbin_sadd _ _ (by simp [length_be, hh]), wv_some]
      have e : be 1 u.kind.toNat ++ be 2 u.id.toNat ++ be 8 (bits64 u.amount) ++ u.hash = bytesU u := by simp [bytesU, tailU, hk1]
      rw [e]
      exact hQ _ s23.ch
    rw [vbin_eql, wv_some, brB_dec]
    refine ⟨fun hk2 => ?_, fun hk2 => ?_⟩
    · refine wv_of hx ?_
      refine wv_of (hcv hxs) ?_
      rw [vbin_sadd _ _ (by simp [length_be, hh]), wv_some]
      have e : be 1 u.kind.toNat ++ be 2 u.id.toNat ++ u.hash = bytesU u := by simp [bytesU, tailU, hk2]
      rw [e]
      exact hQ _ s14.ch
    have hn : u.note.length ≤ 64 := by
      rcases hk with hk | hk | hk
      · omega
      · omega
      · exact hk.2.2.2
    refine wv_of (upd_load (i := 0) s14 rfl h).2.2.2.2.1 ?_
    show wv (some (.int .i64 (u.note.length : Nat))) _
    rw [wv_some, vconv_int T_int T_uint64 rfl, wrap_bits64, wv_some]
    refine wv_of (upd_load (i := 0) s14 rfl h).2.2.2.2.1 ?_
    refine escrowref03_Bytes.use (k := 2) (by omega) fun G35 c35 => ?_
    have s35 := s14.tmp c35
    refine ⟨⟨(upd_load (i := 0) s35 rfl h).2.2.2.2.1, trivial⟩, ?_⟩
    rw [bits64_nat (by omega) (by omega), Int.toNat_natCast, vbin_sadd _ _ (by simp [length_be]), wv_some, vbin_sadd _ _ (by simp [length_be]; omega), wv_some]
    have e : be 1 u.kind.toNat ++ be 2 u.id.toNat ++ be 2 u.note.length ++ u.note = bytesU u := by simp [bytesU, tailU, hk1, hk2]
    rw [e]
    exact hQ _ s35.ch

end
end Go.Esc.M
