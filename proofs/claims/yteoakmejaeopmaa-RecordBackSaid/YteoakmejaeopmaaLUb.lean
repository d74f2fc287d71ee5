import Derived.Test.YteoakmejaeopmaaLDj
import Derived.Test.YteoakmejaeopmaaLCq
import Derived.Test.YteoakmejaeopmaaLDc
import Derived.Test.YteoakmejaeopmaaLSh
import Derived.Test.YteoakmejaeopmaaLBe
/- Own work. Chapter 14: CommitTurns. -/
set_option linter.unusedSimpArgs false
set_option linter.unusedVariables false
set_option maxRecDepth 20000
namespace Go.Esc.M
open Go Go.Esc

def m1 : PenM := ⟨false, -1, 0, z32⟩
def m2 : PenM := ⟨false, -2, 0, z32⟩
section
variable {F0 : List AId} {G0 G : Heap} {ps : List LP} {Q : AVal → Heap → Prop}

end

end Go.Esc.M

/- Own work. Chapter 12: updates; which are valid. -/
set_option linter.unusedSimpArgs false
set_option linter.unusedVariables false
set_option maxRecDepth 20000
namespace Go.Esc.M
open Go Go.Esc

structure UpdM where
  kind : Int
  id : Int
  amount : Int
  hash : List UInt8
  note : List UInt8
  deriving DecidableEq

def h0 : List UInt8 := List.replicate 32 0
theorem h0_len : h0.length = 32 := rfl
def UpdM.cs (u : UpdM) : List AVal := [.int .i64 u.kind, .int .i64 u.id, .int .i64 u.amount, .agg (u.hash.map u8v), .str u.note]
def UpdM.av (u : UpdM) : AVal := .agg u.cs
def UpdM.zero : UpdM := ⟨0, 0, 0, h0, []⟩
structure UpdM.ok (u : UpdM) : Prop where
  kind : I64 u.kind
  id : I64 u.id
  amount : I64 u.amount
  hash : u.hash.length = 32
  note : u.note.length ≤ 9223372036854775807
theorem UpdM.zero_ok : UpdM.zero.ok := ⟨⟨by decide, by decide⟩, ⟨by decide, by decide⟩, ⟨by decide, by decide⟩, rfl, by decide⟩

theorem szh {h : List UInt8} (hl : h.length = 32) : szs (h.map u8v) = 32 := by rw [szs_uni (n := 1) (uni_u8 h)]; simp [hl]
theorem UpdM.sz {u : UpdM} (h : u.ok) : Esc.sz u.av = 36 := by simp [UpdM.av, UpdM.cs, Esc.sz, szs, szh h.hash]
theorem UpdM.fits {u : UpdM} (h : u.ok) : vfits ti_api_Update u.av = true := by
  have h1 := UpdM.sz h
  have h2 : u.av.isAgg = true := rfl
  simp [vfits, h1, h2, ti_api_Update, ADesc.isAgg]
theorem UpdM.okv (u : UpdM) : Esc.okv u.av = true := by simp [UpdM.av, UpdM.cs, Esc.okv, okvs, okvs_u8]
theorem fits_hash {h : List UInt8} (hl : h.length = 32) : vfits ti_api_Hash (.agg (h.map u8v)) = true := by simp [vfits, Esc.sz, szh hl, ti_api_Hash, AVal.isAgg, ADesc.isAgg]

section
variable {F0 : List AId} {G0 G : Heap} {ps : List LP} {i : Nat} {id : AId} {u : UpdM}

theorem upd_load (hs : Sp F0 G0 ps G) (hi : ps[i]? = some (RowL id u.av)) (h : u.ok) :
    vload T G t_int (.ptr id [0] 0) = some (.int .i64 u.kind) ∧ vload T G t_int64 (.ptr id [1] 1) = some (.int .i64 u.id) ∧ vload T G t_int64 (.ptr id [2] 2) = some (.int .i64 u.amount) ∧ vload T G t_api_Hash (.ptr id [3] 3) = some (.agg (u.hash.map u8v)) ∧ vload T G t_string (.ptr id [4] 35) = some (.str u.note) ∧ vload T G t_api_Update (.ptr id [] 0) = some u.av := by
  have hg := RowL.own hs hi
  refine ⟨vload_fld (c := .int .i64 u.kind) hg rfl rfl rfl T_int rfl, vload_fld (c := .int .i64 u.id) hg rfl rfl rfl T_int64 rfl, vload_fld (c := .int .i64 u.amount) hg rfl rfl rfl T_int64 rfl, vload_fld (c := .agg (u.hash.map u8v)) hg rfl rfl rfl T_api_Hash (fits_hash h.hash), vload_fld (c := .str u.note) hg rfl ?_ rfl T_string rfl, whole_load T_api_Update hg (UpdM.fits h)⟩
  simp [UpdM.cs, szs, Esc.sz, szh h.hash]
theorem upd_store {u' : UpdM} (hs : Sp F0 G0 ps G) (hi : ps[i]? = some (RowL id u.av)) (h : u.ok) (h' : u'.ok) {K : Heap → Prop} (hK : ∀ G', Sp F0 G0 (ps.set i (RowL id u'.av)) G' → K G') : wg (vstore T G t_api_Update (.ptr id [] 0) u'.av) K := by
  refine wg_of (whole_store T_api_Update (RowL.own hs hi) (UpdM.fits h') (by rw [UpdM.sz h, UpdM.sz h']) (UpdM.okv _)) ?_
  exact hK _ (Sp.setRow hs hi _)
theorem upd_id (n : Int) (hs : Sp F0 G0 ps G) (hi : ps[i]? = some (RowL id u.av)) {K : Heap → Prop} (hK : ∀ G', Sp F0 G0 (ps.set i (RowL id ({ u with id := n } : UpdM).av)) G' → K G') : wg (vstore T G t_int64 (.ptr id [1] 1) (.int .i64 n)) K := by
  refine wg_of (vstore_fld (c := .int .i64 n) (u := .int .i64 u.id) (RowL.own hs hi) rfl rfl T_int64 rfl rfl rfl) ?_
  exact hK _ (Sp.setRow hs hi _)
theorem upd_amount (n : Int) (hs : Sp F0 G0 ps G) (hi : ps[i]? = some (RowL id u.av)) {K : Heap → Prop} (hK : ∀ G', Sp F0 G0 (ps.set i (RowL id ({ u with amount := n } : UpdM).av)) G' → K G') : wg (vstore T G t_int64 (.ptr id [2] 2) (.int .i64 n)) K := by
  refine wg_of (vstore_fld (c := .int .i64 n) (u := .int .i64 u.amount) (RowL.own hs hi) rfl rfl T_int64 rfl rfl rfl) ?_
  exact hK _ (Sp.setRow hs hi _)
theorem upd_hash {n : List UInt8} (hn : n.length = 32) (h : u.ok) (hs : Sp F0 G0 ps G) (hi : ps[i]? = some (RowL id u.av)) {K : Heap → Prop} (hK : ∀ G', Sp F0 G0 (ps.set i (RowL id ({ u with hash := n } : UpdM).av)) G' → K G') : wg (vstore T G t_api_Hash (.ptr id [3] 3) (.agg (n.map u8v))) K := by
  refine wg_of (vstore_fld (c := .agg (n.map u8v)) (u := .agg (u.hash.map u8v)) (RowL.own hs hi) rfl rfl T_api_Hash (fits_hash hn) (by simp [Esc.sz, szh hn, szh h.hash]) (by simp [Esc.okv, okvs_u8])) ?_
  exact hK _ (Sp.setRow hs hi _)
theorem upd_note (n : List UInt8) (h : u.ok) (hs : Sp F0 G0 ps G) (hi : ps[i]? = some (RowL id u.av)) {K : Heap → Prop} (hK : ∀ G', Sp F0 G0 (ps.set i (RowL id ({ u with note := n } : UpdM).av)) G' → K G') : wg (vstore T G t_string (.ptr id [4] 35) (.str n)) K := by
  refine wg_of (vstore_fld (c := .str n) (u := .str u.note) (RowL.own hs hi) (by simp [UpdM.cs, szs, Esc.sz, szh h.hash]) rfl T_string rfl rfl rfl) ?_
  exact hK _ (Sp.setRow hs hi _)

end

theorem wt_Upd {G : Heap} {R d : Nat} {v : AVal} {m : Nat} (h : wt T G R (d + 3) t_api_Update v m) : ∃ u : UpdM, v = u.av ∧ u.ok ∧ u.note.length ≤ m ∧ u.note.length ≤ R := by
  obtain ⟨cs, ms, rfl, hf, rfl⟩ := wt_struct T_api_Update rfl h
  obtain ⟨c1, cs, m1, ms, rfl, rfl, h1, hf⟩ := wfs_cons hf
  obtain ⟨c2, cs, m2, ms, rfl, rfl, h2, hf⟩ := wfs_cons hf
  obtain ⟨c3, cs, m3, ms, rfl, rfl, h3, hf⟩ := wfs_cons hf
  obtain ⟨c4, cs, m4, ms, rfl, rfl, h4, hf⟩ := wfs_cons hf
  obtain ⟨c5, cs, m5, ms, rfl, rfl, h5, hf⟩ := wfs_cons hf
  obtain ⟨rfl, rfl⟩ := wfs_nil hf
  obtain ⟨a, rfl, w1, _⟩ := wt_int T_int rfl h1
  obtain ⟨b, rfl, w2, _⟩ := wt_int T_int64 rfl h2
  obtain ⟨c, rfl, w3, _⟩ := wt_int T_int64 rfl h3
  obtain ⟨e, rfl, w4, _⟩ := wt_hash T_api_Hash rfl T_uint8 rfl h4
  obtain ⟨n, rfl, hR, hn, hm⟩ := wt_str T_string rfl h5
  exact ⟨⟨a, b, c, e, n⟩, rfl, ⟨i64_wf.1 w1, i64_wf.1 w2, i64_wf.1 w3, w4, hn⟩, by simp; omega, hR⟩

def maxAm : Int := 1152921504606846976
def validU (u : UpdM) : Bool :=
  decide (0 ≤ u.id) && (decide (u.id < 2048) && (if u.kind = 1 then decide (1 ≤ u.amount) && (decide (u.amount ≤ maxAm) && decide (u.note = []))
    else if u.kind = 2 then decide (u.amount = 0) && decide (u.note = [])
    else if u.kind = 3 then decide (u.amount = 0) && (decide (u.hash = h0) && decide (u.note.length ≤ 64)) else false))

section
variable {G : Heap} {Q : AVal → Heap → Prop}

theorem build_h0 : vbuild T t_api_Hash [] = some (.agg (h0.map u8v)) := rfl
theorem hash_eql {a b : List UInt8} (ha : a.length = 32) (hb : b.length = 32) : vbin T .eql t_api_Hash (.agg (a.map u8v)) (.agg (b.map u8v)) = some (.bool (decide (a = b))) :=
  vbin_heql (i := ti_api_Hash) (ie := ti_uint8) (n := 32) T_api_Hash rfl T_uint8 rfl rfl ha hb
theorem hash_neq {a b : List UInt8} (ha : a.length = 32) (hb : b.length = 32) : vbin T .neq t_api_Hash (.agg (a.map u8v)) (.agg (b.map u8v)) = some (.bool (!decide (a = b))) :=
  vbin_hneq (i := ti_api_Hash) (ie := ti_uint8) (n := 32) T_api_Hash rfl T_uint8 rfl rfl ha hb

set_option maxHeartbeats 1000000 in
theorem update_Valid.use {u : UpdM} (h : u.ok) (hQ : ∀ G', Ch [] G [] G' → Q (.bool (validU u)) G') : ACalls P update_Valid.n [u.av] G Q := by
  refine update_Valid.sound ?_
  unfold update_Valid.S
  obtain ⟨mA, hmA⟩ : ∃ m, m = (1152921504606846976 : Int) := ⟨_, rfl⟩
  rw [← hmA]
  have hmax : maxAm = mA := by rw [hmA]; rfl
  unfold validU at hQ
  rw [hmax] at hQ
  clear hmax hmA
  intro i1 f1
  have s1 := (Sp.nil G).row f1 u.av
  obtain ⟨l0, l1, l2, l3, l4, _⟩ := upd_load (i := 0) s1 rfl h
  have hQ := hQ _ s1.ch
  revert hQ l0 l1 l2 l3 l4
  generalize G.upd i1 (.own u.av) = G2
  intro l0 l1 l2 l3 l4 hQ J37
  have bad : (decide (0 ≤ u.id) && decide (u.id < 2048)) = false → J37 (.bool true) G2 := by
    intro hb
    simp -zeta only [J37, brB_true]
    rw [← Bool.and_assoc, hb, Bool.false_and] at hQ
    exact hQ
  have good : 0 ≤ u.id → u.id < 2048 → J37 (.bool false) G2 := by
    intro h0 h1
    rw [decide_eq_true h0, decide_eq_true h1, Bool.true_and, Bool.true_and] at hQ
    simp -zeta only [J37, brB_false]
    rw [l0, wv_some, vbin_eql, wv_some, brB_dec]
    refine ⟨fun hk => ?_, fun hk1 => ?_⟩
    · rw [if_pos hk] at hQ
      rw [l2, wv_some, vbin_geq, wv_some, brB_dec]
      refine ⟨fun ha => ?_, fun ha => by rwa [decide_eq_false ha, Bool.false_and] at hQ⟩
      rw [decide_eq_true ha, Bool.true_and] at hQ
      rw [wv_some, vbin_leq, wv_some, brB_dec]
      refine ⟨fun hb => ?_, fun hb => by rwa [decide_eq_false hb, Bool.false_and] at hQ⟩
      rw [decide_eq_true hb, Bool.true_and] at hQ
      rw [l4, wv_some, vbin_seql, wv_some]
      exact hQ
    rw [if_neg hk1] at hQ
    rw [vbin_eql, wv_some, brB_dec]
    refine ⟨fun hk => ?_, fun hk2 => ?_⟩
    · rw [if_pos hk] at hQ
      rw [l2, wv_some, vbin_eql, wv_some, brB_dec]
      refine ⟨fun ha => ?_, fun ha => by rwa [decide_eq_false ha, Bool.false_and] at hQ⟩
      rw [decide_eq_true ha, Bool.true_and] at hQ
      rw [l4, wv_some, vbin_seql, wv_some]
      exact hQ
    rw [if_neg hk2] at hQ
    rw [vbin_eql, wv_some, brB_dec]
    refine ⟨fun hk => ?_, fun hk3 => ?_⟩
    · rw [if_pos hk] at hQ
      rw [l2, wv_some, vbin_eql, wv_some, brB_dec]
      refine ⟨fun ha => ?_, fun ha => by rwa [decide_eq_false ha, Bool.false_and] at hQ⟩
      rw [decide_eq_true ha, Bool.true_and] at hQ
      rw [l3, wv_some, build_h0, wv_some, hash_eql h.hash h0_len, wv_some, brB_dec]
      refine ⟨fun hb => ?_, fun hb => by rwa [decide_eq_false hb, Bool.false_and] at hQ⟩
      rw [decide_eq_true hb, Bool.true_and] at hQ
      rw [l4, wv_some]
      show wv (some (.int .i64 (u.note.length : Nat))) _
      rw [wv_some, vbin_leq, wv_some]
      have : decide (((u.note.length : Nat) : Int) ≤ 64) = decide (u.note.length ≤ 64) := by rw [decide_eq_decide]; omega
      rw [this]
      exact hQ
    · rwa [if_neg hk3] at hQ
  rw [l1, wv_some, vbin_lss, wv_some, brB_dec]
  refine ⟨fun hb => bad (by rw [decide_eq_false (by omega), Bool.false_and]), fun h0 => ?_⟩
  rw [wv_some, vbin_geq, wv_some]
  by_cases h1 : (2048 : Int) ≤ u.id
  · rw [decide_eq_true h1]
    exact bad (by rw [decide_eq_false (show ¬ u.id < 2048 by omega), Bool.and_false])
  · rw [decide_eq_false h1]
    exact good (by omega) (by omega)

end
end Go.Esc.M

/- Own work. Structs in rows: fields read and written, also fields of fields. -/
set_option linter.unusedSimpArgs false
set_option linter.unusedVariables false
set_option maxRecDepth 20000
namespace Go.Esc
open Go Go.RowKit

def pairW (a b : Int) : AVal := .agg [.int .i64 a, .int .i64 b]
def Leaf (v : AVal) : Prop := sz v = 1 ∧ v.isAgg = false ∧ okv v = true
theorem Leaf.nil : Leaf .nilSlice := ⟨rfl, rfl, rfl⟩
theorem szs_map : ∀ l : List AVal, szs l = (l.map sz).sum
  | [] => rfl
  | v :: l => by rw [szs_cons, szs_map l]; simp
theorem fits_leaf {v : AVal} {ti : TI} (h : Leaf v) (ht : (Nat.beq ti.size 1 && !ti.desc.isAgg) = true) : vfits ti v = true := by
  simp only [Bool.and_eq_true, Bool.not_eq_true'] at ht
  have := Nat.eq_of_beq_eq_true ht.1
  simp [vfits, h.1, h.2.1, this, ht.2]
section
variable {T : Tbl} {G : Heap} {id : AId} {cs ds : List AVal} {ss ss2 : List Nat} {k j o o2 oo : Nat} {c u : AVal} {t : TypeId} {ti : TI}
theorem szs_at (h : cs.map sz = ss) (ho : (ss.take k).sum = o) : szs (cs.take k) = o := by
  rw [szs_map, List.map_take, h, ho]
theorem ld1 (hg : G id = some (.own (.agg cs))) (hs : cs.map sz = ss) (ho : (ss.take k).sum = o) (hc : cs[k]? = some c) (ht : T t = some ti) (hf : vfits ti c = true) : vload T G t (.ptr id [k] o) = some c :=
  vload_fld hg rfl (szs_at hs ho) hc ht hf
theorem ld2 (hg : G id = some (.own (.agg cs))) (hs : cs.map sz = ss) (ho : (ss.take k).sum = o) (hc : cs[k]? = some (.agg ds)) (hs2 : ds.map sz = ss2) (ho2 : (ss2.take j).sum = o2) (hc2 : ds[j]? = some c) (hoo : o + o2 = oo) (ht : T t = some ti) (hf : vfits ti c = true) :
    vload T G t (.ptr id [k, j] oo) = some c := by
  subst hoo
  have e1 := szs_at hs ho
  have e2 := szs_at hs2 ho2
  simp [vload, vsub, hg, treeOf, sub, e1, e2, hc, hc2, ht, hf]
theorem st1 (hg : G id = some (.own (.agg cs))) (hs : cs.map sz = ss) (ho : (ss.take k).sum = o) (hc : cs[k]? = some u) (ht : T t = some ti) (hf : vfits ti c = true) (hsz : sz u = sz c) (hok : okv c = true) :
    vstore T G t (.ptr id [k] o) c = some (G.upd id (.own (.agg (cs.set k c)))) := vstore_fld hg (szs_at hs ho) hc ht hf hsz hok
theorem st2 (hg : G id = some (.own (.agg cs))) (hs : cs.map sz = ss) (ho : (ss.take k).sum = o) (hc : cs[k]? = some (.agg ds)) (hs2 : ds.map sz = ss2) (ho2 : (ss2.take j).sum = o2) (hc2 : ds[j]? = some u) (hoo : o + o2 = oo) (ht : T t = some ti) (hf : vfits ti c = true) (hsz : sz u = sz c) (hok : okv c = true) :
    vstore T G t (.ptr id [k, j] oo) c = some (G.upd id (.own (.agg (cs.set k (.agg (ds.set j c)))))) := by
  subst hoo
  have e1 := szs_at hs ho
  have e2 := szs_at hs2 ho2
  simp [vstore, hg, sub, e1, e2, hc, hc2, ht, hf, hsz, hok, putAt]
end
end Go.Esc
namespace Go.Esc.M
open Go Go.Esc
end Go.Esc.M

/- Printed by gen_struct.py (own work): the struct State in a row. -/
set_option linter.unusedSimpArgs false
set_option linter.unusedVariables false
set_option maxRecDepth 20000
namespace Go.Esc.M
open Go Go.Esc

/-! ### State -/
structure StM where
  side : Int
  cap : Int
  bo : Int
  bp : Int
  loc : Int
  rem : Int
  ack : Int
  atA : Int
  atB : Int
  sgnA : Int
  sgnB : Int
  heldA : Int
  heldB : Int
  behind : Bool
  ptsA : List UInt8
  ptsB : List UInt8
  sig : List UInt8
  failed : Int
  closed : Int
def StM.cs (s : StM) (v_ours v_peers v_shelf : AVal) : List AVal := [.int .i64 s.side, .int .i64 s.cap, .int .i64 s.bo, .int .i64 s.bp, v_ours, v_peers, .int .i64 s.loc, .int .i64 s.rem, .int .i64 s.ack, .agg [.int .i64 s.atA, .int .i64 s.atB], .agg [.int .i64 s.sgnA, .int .i64 s.sgnB], .agg [.int .i64 s.heldA, .int .i64 s.heldB], .bool s.behind, .agg [.agg (s.ptsA.map u8v), .agg (s.ptsB.map u8v)], .agg (s.sig.map u8v), v_shelf, .int .i64 s.failed, .int .i64 s.closed]
def StM.av (s : StM) (v_ours v_peers v_shelf : AVal) : AVal := .agg (s.cs v_ours v_peers v_shelf)
structure StM.ok (s : StM) : Prop where
  side : I64 s.side
  cap : I64 s.cap
  bo : I64 s.bo
  bp : I64 s.bp
  loc : I64 s.loc
  rem : I64 s.rem
  ack : I64 s.ack
  atA : I64 s.atA
  atB : I64 s.atB
  sgnA : I64 s.sgnA
  sgnB : I64 s.sgnB
  heldA : I64 s.heldA
  heldB : I64 s.heldB
  ptsA : s.ptsA.length = 32
  ptsB : s.ptsB.length = 32
  sig : s.sig.length = 32
  failed : I64 s.failed
  closed : I64 s.closed
theorem StM.szl {s : StM} {v_ours v_peers v_shelf : AVal} (h : s.ok) (l : Leaf v_ours ∧ Leaf v_peers ∧ Leaf v_shelf) : (s.cs v_ours v_peers v_shelf).map Esc.sz = [1, 1, 1, 1, 1, 1, 1, 1, 1, 2, 2, 2, 1, 64, 32, 1, 1, 1] := by
  simp [StM.cs, Esc.sz, szs, szh h.ptsA, szh h.ptsB, szh h.sig, l.1.1, l.2.1.1, l.2.2.1]
theorem StM.sz {s : StM} {v_ours v_peers v_shelf : AVal} (h : s.ok) (l : Leaf v_ours ∧ Leaf v_peers ∧ Leaf v_shelf) : Esc.sz (s.av v_ours v_peers v_shelf) = 115 := by
  have e := StM.szl h l
  rw [StM.av, Esc.sz, szs_map, e]; rfl
theorem StM.fits {s : StM} {v_ours v_peers v_shelf : AVal} (h : s.ok) (l : Leaf v_ours ∧ Leaf v_peers ∧ Leaf v_shelf) : vfits ti_api_State (s.av v_ours v_peers v_shelf) = true := by
  have h1 := StM.sz h l
  have h2 : (s.av v_ours v_peers v_shelf).isAgg = true := rfl
  simp [vfits, h1, h2, ti_api_State, ADesc.isAgg]
theorem StM.okv {s : StM} {v_ours v_peers v_shelf : AVal} (l : Leaf v_ours ∧ Leaf v_peers ∧ Leaf v_shelf) : Esc.okv (s.av v_ours v_peers v_shelf) = true := by
  simp [StM.av, StM.cs, Esc.okv, okvs, okvs_u8, l.1.2.2, l.2.1.2.2, l.2.2.2.2]
section
variable {F0 : List AId} {G0 G : Heap} {ps : List LP} {i : Nat} {id : AId} {s : StM} {K : Heap → Prop} {v_ours v_peers v_shelf : AVal} 
theorem St.ld_ours (hg : G id = some (.own (s.av v_ours v_peers v_shelf))) (h : s.ok) (l : Leaf v_ours ∧ Leaf v_peers ∧ Leaf v_shelf) : vload T G t_sl_api_Update (.ptr id [4] 4) = some (v_ours) := ld1 hg (StM.szl h l) rfl rfl T_sl_api_Update (fits_leaf l.1 rfl)
theorem St.ld_peers (hg : G id = some (.own (s.av v_ours v_peers v_shelf))) (h : s.ok) (l : Leaf v_ours ∧ Leaf v_peers ∧ Leaf v_shelf) : vload T G t_sl_api_Update (.ptr id [5] 5) = some (v_peers) := ld1 hg (StM.szl h l) rfl rfl T_sl_api_Update (fits_leaf l.2.1 rfl)
theorem St.ld_rem (hg : G id = some (.own (s.av v_ours v_peers v_shelf))) (h : s.ok) (l : Leaf v_ours ∧ Leaf v_peers ∧ Leaf v_shelf) : vload T G t_int64 (.ptr id [7] 7) = some (.int .i64 s.rem) := ld1 hg (StM.szl h l) rfl rfl T_int64 rfl
theorem St.ld_ack (hg : G id = some (.own (s.av v_ours v_peers v_shelf))) (h : s.ok) (l : Leaf v_ours ∧ Leaf v_peers ∧ Leaf v_shelf) : vload T G t_int64 (.ptr id [8] 8) = some (.int .i64 s.ack) := ld1 hg (StM.szl h l) rfl rfl T_int64 rfl
theorem St.ld_atB (hg : G id = some (.own (s.av v_ours v_peers v_shelf))) (h : s.ok) (l : Leaf v_ours ∧ Leaf v_peers ∧ Leaf v_shelf) : vload T G t_int (.ptr id [9, 1] 10) = some (.int .i64 s.atB) := ld2 hg (StM.szl h l) rfl rfl (ss2 := [1, 1]) rfl rfl rfl rfl T_int rfl
theorem St.ld_sgnA (hg : G id = some (.own (s.av v_ours v_peers v_shelf))) (h : s.ok) (l : Leaf v_ours ∧ Leaf v_peers ∧ Leaf v_shelf) : vload T G t_int (.ptr id [10, 0] 11) = some (.int .i64 s.sgnA) := ld2 hg (StM.szl h l) rfl rfl (ss2 := [1, 1]) rfl rfl rfl rfl T_int rfl
theorem St.ld_behind (hg : G id = some (.own (s.av v_ours v_peers v_shelf))) (h : s.ok) (l : Leaf v_ours ∧ Leaf v_peers ∧ Leaf v_shelf) : vload T G t_bool (.ptr id [12] 15) = some (.bool s.behind) := ld1 hg (StM.szl h l) rfl rfl T_bool rfl
theorem St.ld_sig (hg : G id = some (.own (s.av v_ours v_peers v_shelf))) (h : s.ok) (l : Leaf v_ours ∧ Leaf v_peers ∧ Leaf v_shelf) : vload T G t_api_Hash (.ptr id [14] 80) = some (.agg (s.sig.map u8v)) := ld1 hg (StM.szl h l) rfl rfl T_api_Hash (fits_hash h.sig)
theorem St.ld_shelf (hg : G id = some (.own (s.av v_ours v_peers v_shelf))) (h : s.ok) (l : Leaf v_ours ∧ Leaf v_peers ∧ Leaf v_shelf) : vload T G t_sl_api_Slot (.ptr id [15] 112) = some (v_shelf) := ld1 hg (StM.szl h l) rfl rfl T_sl_api_Slot (fits_leaf l.2.2 rfl)
theorem St.ld_failed (hg : G id = some (.own (s.av v_ours v_peers v_shelf))) (h : s.ok) (l : Leaf v_ours ∧ Leaf v_peers ∧ Leaf v_shelf) : vload T G t_int (.ptr id [16] 113) = some (.int .i64 s.failed) := ld1 hg (StM.szl h l) rfl rfl T_int rfl
theorem St.ld_closed (hg : G id = some (.own (s.av v_ours v_peers v_shelf))) (h : s.ok) (l : Leaf v_ours ∧ Leaf v_peers ∧ Leaf v_shelf) : vload T G t_int64 (.ptr id [17] 114) = some (.int .i64 s.closed) := ld1 hg (StM.szl h l) rfl rfl T_int64 rfl
theorem St.ld (hg : G id = some (.own (s.av v_ours v_peers v_shelf))) (h : s.ok) (l : Leaf v_ours ∧ Leaf v_peers ∧ Leaf v_shelf) : vload T G t_api_State (.ptr id [] 0) = some (s.av v_ours v_peers v_shelf) := whole_load T_api_State hg (StM.fits h l)
theorem St.st_ours (hs : Sp F0 G0 ps G) (hi : ps[i]? = some (RowL id (s.av v_ours v_peers v_shelf))) (h : s.ok) (l : Leaf v_ours ∧ Leaf v_peers ∧ Leaf v_shelf) {x : AVal} (hx : Leaf x) (hK : ∀ G', Sp F0 G0 (ps.set i (RowL id (s.av x v_peers v_shelf))) G' → K G') : wg (vstore T G t_sl_api_Update (.ptr id [4] 4) x) K :=
  wg_of (st1 (RowL.own hs hi) (StM.szl h l) rfl rfl T_sl_api_Update (fits_leaf hx rfl) (by rw [l.1.1, hx.1]) hx.2.2) (hK _ (Sp.setRow hs hi _))
theorem St.st_peers (hs : Sp F0 G0 ps G) (hi : ps[i]? = some (RowL id (s.av v_ours v_peers v_shelf))) (h : s.ok) (l : Leaf v_ours ∧ Leaf v_peers ∧ Leaf v_shelf) {x : AVal} (hx : Leaf x) (hK : ∀ G', Sp F0 G0 (ps.set i (RowL id (s.av v_ours x v_shelf))) G' → K G') : wg (vstore T G t_sl_api_Update (.ptr id [5] 5) x) K :=
  wg_of (st1 (RowL.own hs hi) (StM.szl h l) rfl rfl T_sl_api_Update (fits_leaf hx rfl) (by rw [l.2.1.1, hx.1]) hx.2.2) (hK _ (Sp.setRow hs hi _))
theorem St.st_rem (hs : Sp F0 G0 ps G) (hi : ps[i]? = some (RowL id (s.av v_ours v_peers v_shelf))) (h : s.ok) (l : Leaf v_ours ∧ Leaf v_peers ∧ Leaf v_shelf) (x : Int) (hK : ∀ G', Sp F0 G0 (ps.set i (RowL id (({ s with rem := x } : StM).av v_ours v_peers v_shelf))) G' → K G') : wg (vstore T G t_int64 (.ptr id [7] 7) (.int .i64 x)) K :=
  wg_of (st1 (RowL.own hs hi) (StM.szl h l) rfl rfl T_int64 rfl rfl rfl) (hK _ (Sp.setRow hs hi _))
theorem St.st_sgn (hs : Sp F0 G0 ps G) (hi : ps[i]? = some (RowL id (s.av v_ours v_peers v_shelf))) (h : s.ok) (l : Leaf v_ours ∧ Leaf v_peers ∧ Leaf v_shelf) (x y : Int) (hK : ∀ G', Sp F0 G0 (ps.set i (RowL id (({ s with sgnA := x, sgnB := y } : StM).av v_ours v_peers v_shelf))) G' → K G') : wg (vstore T G t_api_Counts (.ptr id [10] 11) (pairW x y)) K :=
  wg_of (st1 (RowL.own hs hi) (StM.szl h l) rfl rfl T_api_Counts rfl rfl rfl) (hK _ (Sp.setRow hs hi _))
theorem St.st_behind (hs : Sp F0 G0 ps G) (hi : ps[i]? = some (RowL id (s.av v_ours v_peers v_shelf))) (h : s.ok) (l : Leaf v_ours ∧ Leaf v_peers ∧ Leaf v_shelf) (x : Bool) (hK : ∀ G', Sp F0 G0 (ps.set i (RowL id (({ s with behind := x } : StM).av v_ours v_peers v_shelf))) G' → K G') : wg (vstore T G t_bool (.ptr id [12] 15) (.bool x)) K :=
  wg_of (st1 (RowL.own hs hi) (StM.szl h l) rfl rfl T_bool rfl rfl rfl) (hK _ (Sp.setRow hs hi _))
theorem St.st_sig (hs : Sp F0 G0 ps G) (hi : ps[i]? = some (RowL id (s.av v_ours v_peers v_shelf))) (h : s.ok) (l : Leaf v_ours ∧ Leaf v_peers ∧ Leaf v_shelf) {x : List UInt8} (hx : x.length = 32) (hK : ∀ G', Sp F0 G0 (ps.set i (RowL id (({ s with sig := x } : StM).av v_ours v_peers v_shelf))) G' → K G') : wg (vstore T G t_api_Hash (.ptr id [14] 80) (.agg (x.map u8v))) K :=
  wg_of (st1 (RowL.own hs hi) (StM.szl h l) rfl rfl T_api_Hash (fits_hash hx) (by simp [Esc.sz, szh hx, szh h.sig]) (by simp [Esc.okv, okvs_u8])) (hK _ (Sp.setRow hs hi _))
theorem St.st_shelf (hs : Sp F0 G0 ps G) (hi : ps[i]? = some (RowL id (s.av v_ours v_peers v_shelf))) (h : s.ok) (l : Leaf v_ours ∧ Leaf v_peers ∧ Leaf v_shelf) {x : AVal} (hx : Leaf x) (hK : ∀ G', Sp F0 G0 (ps.set i (RowL id (s.av v_ours v_peers x))) G' → K G') : wg (vstore T G t_sl_api_Slot (.ptr id [15] 112) x) K :=
  wg_of (st1 (RowL.own hs hi) (StM.szl h l) rfl rfl T_sl_api_Slot (fits_leaf hx rfl) (by rw [l.2.2.1, hx.1]) hx.2.2) (hK _ (Sp.setRow hs hi _))
theorem St.st_failed (hs : Sp F0 G0 ps G) (hi : ps[i]? = some (RowL id (s.av v_ours v_peers v_shelf))) (h : s.ok) (l : Leaf v_ours ∧ Leaf v_peers ∧ Leaf v_shelf) (x : Int) (hK : ∀ G', Sp F0 G0 (ps.set i (RowL id (({ s with failed := x } : StM).av v_ours v_peers v_shelf))) G' → K G') : wg (vstore T G t_int (.ptr id [16] 113) (.int .i64 x)) K :=
  wg_of (st1 (RowL.own hs hi) (StM.szl h l) rfl rfl T_int rfl rfl rfl) (hK _ (Sp.setRow hs hi _))
theorem St.st (hs : Sp F0 G0 ps G) (hi : ps[i]? = some (RowL id (s.av v_ours v_peers v_shelf))) (h : s.ok) (l : Leaf v_ours ∧ Leaf v_peers ∧ Leaf v_shelf) {s' : StM} {w_ours w_peers w_shelf : AVal} (h' : s'.ok) (m : Leaf w_ours ∧ Leaf w_peers ∧ Leaf w_shelf) (hK : ∀ G', Sp F0 G0 (ps.set i (RowL id (s'.av w_ours w_peers w_shelf))) G' → K G') : wg (vstore T G t_api_State (.ptr id [] 0) (s'.av w_ours w_peers w_shelf)) K :=
  wg_of (whole_store T_api_State (RowL.own hs hi) (StM.fits h' m) (by rw [StM.sz h l, StM.sz h' m]) (StM.okv m)) (hK _ (Sp.setRow hs hi _))
theorem St.nw {s' : StM} {w_ours w_peers w_shelf : AVal} (hs : Sp F0 G0 ps G) (h' : s'.ok) (m : Leaf w_ours ∧ Leaf w_peers ∧ Leaf w_shelf) {K : AId → Heap → Prop} (hK : ∀ i G', Sp F0 G0 (RowL i (s'.av w_ours w_peers w_shelf) :: ps) G' → K i G') : aNew G (.own z_api_State) fun i G2 => wg (vstore T G2 t_api_State (.ptr i [] 0) (s'.av w_ours w_peers w_shelf)) fun G3 => K i G3 :=
  newVal hs T_api_State (StM.fits h' m) (by rw [StM.sz h' m]; rfl) (StM.okv m) hK
end

end Go.Esc.M

/- Printed by gen_struct.py (own work): the struct Record in a row. -/
set_option linter.unusedSimpArgs false
set_option linter.unusedVariables false
set_option maxRecDepth 20000
namespace Go.Esc.M
open Go Go.Esc

/-! ### Record -/
structure RcM where
  kind : Int
  upd : UpdM
  index : Int
  cntA : Int
  cntB : Int
  sig : List UInt8
  secret : List UInt8
  point : List UInt8
  code : Int
  deriving DecidableEq
def RcM.cs (s : RcM) (v_upds : AVal) : List AVal := [.int .i64 s.kind, s.upd.av, v_upds, .int .i64 s.index, .agg [.int .i64 s.cntA, .int .i64 s.cntB], .agg (s.sig.map u8v), .agg (s.secret.map u8v), .agg (s.point.map u8v), .int .i64 s.code]
def RcM.av (s : RcM) (v_upds : AVal) : AVal := .agg (s.cs v_upds)
structure RcM.ok (s : RcM) : Prop where
  kind : I64 s.kind
  upd : s.upd.ok
  index : I64 s.index
  cntA : I64 s.cntA
  cntB : I64 s.cntB
  sig : s.sig.length = 32
  secret : s.secret.length = 32
  point : s.point.length = 32
  code : I64 s.code
theorem RcM.szl {s : RcM} {v_upds : AVal} (h : s.ok) (l : Leaf v_upds) : (s.cs v_upds).map Esc.sz = [1, 36, 1, 1, 2, 32, 32, 32, 1] := by
  simp [RcM.cs, Esc.sz, szs, UpdM.sz h.upd, szh h.sig, szh h.secret, szh h.point, l.1]
theorem RcM.sz {s : RcM} {v_upds : AVal} (h : s.ok) (l : Leaf v_upds) : Esc.sz (s.av v_upds) = 138 := by
  have e := RcM.szl h l
  rw [RcM.av, Esc.sz, szs_map, e]; rfl
theorem RcM.fits {s : RcM} {v_upds : AVal} (h : s.ok) (l : Leaf v_upds) : vfits ti_api_Record (s.av v_upds) = true := by
  have h1 := RcM.sz h l
  have h2 : (s.av v_upds).isAgg = true := rfl
  simp [vfits, h1, h2, ti_api_Record, ADesc.isAgg]
theorem RcM.okv {s : RcM} {v_upds : AVal} (l : Leaf v_upds) : Esc.okv (s.av v_upds) = true := by
  simp [RcM.av, RcM.cs, Esc.okv, okvs, okvs_u8, l.2.2, UpdM.okv _]
section
variable {F0 : List AId} {G0 G : Heap} {ps : List LP} {i : Nat} {id : AId} {s : RcM} {K : Heap → Prop} {v_upds : AVal} 
theorem Rc.ld_kind (hg : G id = some (.own (s.av v_upds))) (h : s.ok) (l : Leaf v_upds) : vload T G t_int (.ptr id [0] 0) = some (.int .i64 s.kind) := ld1 hg (RcM.szl h l) rfl rfl T_int rfl
theorem Rc.ld_upd (hg : G id = some (.own (s.av v_upds))) (h : s.ok) (l : Leaf v_upds) : vload T G t_api_Update (.ptr id [1] 1) = some (s.upd.av) := ld1 hg (RcM.szl h l) rfl rfl T_api_Update (UpdM.fits h.upd)
theorem Rc.ld_upds (hg : G id = some (.own (s.av v_upds))) (h : s.ok) (l : Leaf v_upds) : vload T G t_sl_api_Update (.ptr id [2] 37) = some (v_upds) := ld1 hg (RcM.szl h l) rfl rfl T_sl_api_Update (fits_leaf l rfl)
theorem Rc.ld_index (hg : G id = some (.own (s.av v_upds))) (h : s.ok) (l : Leaf v_upds) : vload T G t_int64 (.ptr id [3] 38) = some (.int .i64 s.index) := ld1 hg (RcM.szl h l) rfl rfl T_int64 rfl
theorem Rc.ld_cnt (hg : G id = some (.own (s.av v_upds))) (h : s.ok) (l : Leaf v_upds) : vload T G t_api_Counts (.ptr id [4] 39) = some (pairW s.cntA s.cntB) := ld1 hg (RcM.szl h l) rfl rfl T_api_Counts rfl
theorem Rc.ld_sig (hg : G id = some (.own (s.av v_upds))) (h : s.ok) (l : Leaf v_upds) : vload T G t_api_Hash (.ptr id [5] 41) = some (.agg (s.sig.map u8v)) := ld1 hg (RcM.szl h l) rfl rfl T_api_Hash (fits_hash h.sig)
theorem Rc.ld_secret (hg : G id = some (.own (s.av v_upds))) (h : s.ok) (l : Leaf v_upds) : vload T G t_api_Hash (.ptr id [6] 73) = some (.agg (s.secret.map u8v)) := ld1 hg (RcM.szl h l) rfl rfl T_api_Hash (fits_hash h.secret)
theorem Rc.ld_point (hg : G id = some (.own (s.av v_upds))) (h : s.ok) (l : Leaf v_upds) : vload T G t_api_Hash (.ptr id [7] 105) = some (.agg (s.point.map u8v)) := ld1 hg (RcM.szl h l) rfl rfl T_api_Hash (fits_hash h.point)
theorem Rc.ld_code (hg : G id = some (.own (s.av v_upds))) (h : s.ok) (l : Leaf v_upds) : vload T G t_int (.ptr id [8] 137) = some (.int .i64 s.code) := ld1 hg (RcM.szl h l) rfl rfl T_int rfl
theorem Rc.ld (hg : G id = some (.own (s.av v_upds))) (h : s.ok) (l : Leaf v_upds) : vload T G t_api_Record (.ptr id [] 0) = some (s.av v_upds) := whole_load T_api_Record hg (RcM.fits h l)
theorem Rc.st_upd (hs : Sp F0 G0 ps G) (hi : ps[i]? = some (RowL id (s.av v_upds))) (h : s.ok) (l : Leaf v_upds) {x : UpdM} (hx : x.ok) (hK : ∀ G', Sp F0 G0 (ps.set i (RowL id (({ s with upd := x } : RcM).av v_upds))) G' → K G') : wg (vstore T G t_api_Update (.ptr id [1] 1) x.av) K :=
  wg_of (st1 (RowL.own hs hi) (RcM.szl h l) rfl rfl T_api_Update (UpdM.fits hx) (by rw [UpdM.sz hx, UpdM.sz h.upd]) (UpdM.okv _)) (hK _ (Sp.setRow hs hi _))
theorem Rc.st_upds (hs : Sp F0 G0 ps G) (hi : ps[i]? = some (RowL id (s.av v_upds))) (h : s.ok) (l : Leaf v_upds) {x : AVal} (hx : Leaf x) (hK : ∀ G', Sp F0 G0 (ps.set i (RowL id (s.av x))) G' → K G') : wg (vstore T G t_sl_api_Update (.ptr id [2] 37) x) K :=
  wg_of (st1 (RowL.own hs hi) (RcM.szl h l) rfl rfl T_sl_api_Update (fits_leaf hx rfl) (by rw [l.1, hx.1]) hx.2.2) (hK _ (Sp.setRow hs hi _))
theorem Rc.st_index (hs : Sp F0 G0 ps G) (hi : ps[i]? = some (RowL id (s.av v_upds))) (h : s.ok) (l : Leaf v_upds) (x : Int) (hK : ∀ G', Sp F0 G0 (ps.set i (RowL id (({ s with index := x } : RcM).av v_upds))) G' → K G') : wg (vstore T G t_int64 (.ptr id [3] 38) (.int .i64 x)) K :=
  wg_of (st1 (RowL.own hs hi) (RcM.szl h l) rfl rfl T_int64 rfl rfl rfl) (hK _ (Sp.setRow hs hi _))
theorem Rc.st_cntA (hs : Sp F0 G0 ps G) (hi : ps[i]? = some (RowL id (s.av v_upds))) (h : s.ok) (l : Leaf v_upds) (x : Int) (hK : ∀ G', Sp F0 G0 (ps.set i (RowL id (({ s with cntA := x } : RcM).av v_upds))) G' → K G') : wg (vstore T G t_int (.ptr id [4, 0] 39) (.int .i64 x)) K :=
  wg_of (st2 (RowL.own hs hi) (RcM.szl h l) rfl rfl (ss2 := [1, 1]) rfl rfl rfl rfl T_int rfl rfl rfl) (hK _ (Sp.setRow hs hi _))
theorem Rc.st_cntB (hs : Sp F0 G0 ps G) (hi : ps[i]? = some (RowL id (s.av v_upds))) (h : s.ok) (l : Leaf v_upds) (x : Int) (hK : ∀ G', Sp F0 G0 (ps.set i (RowL id (({ s with cntB := x } : RcM).av v_upds))) G' → K G') : wg (vstore T G t_int (.ptr id [4, 1] 40) (.int .i64 x)) K :=
  wg_of (st2 (RowL.own hs hi) (RcM.szl h l) rfl rfl (ss2 := [1, 1]) rfl rfl rfl rfl T_int rfl rfl rfl) (hK _ (Sp.setRow hs hi _))
theorem Rc.st_sig (hs : Sp F0 G0 ps G) (hi : ps[i]? = some (RowL id (s.av v_upds))) (h : s.ok) (l : Leaf v_upds) {x : List UInt8} (hx : x.length = 32) (hK : ∀ G', Sp F0 G0 (ps.set i (RowL id (({ s with sig := x } : RcM).av v_upds))) G' → K G') : wg (vstore T G t_api_Hash (.ptr id [5] 41) (.agg (x.map u8v))) K :=
  wg_of (st1 (RowL.own hs hi) (RcM.szl h l) rfl rfl T_api_Hash (fits_hash hx) (by simp [Esc.sz, szh hx, szh h.sig]) (by simp [Esc.okv, okvs_u8])) (hK _ (Sp.setRow hs hi _))
theorem Rc.st_secret (hs : Sp F0 G0 ps G) (hi : ps[i]? = some (RowL id (s.av v_upds))) (h : s.ok) (l : Leaf v_upds) {x : List UInt8} (hx : x.length = 32) (hK : ∀ G', Sp F0 G0 (ps.set i (RowL id (({ s with secret := x } : RcM).av v_upds))) G' → K G') : wg (vstore T G t_api_Hash (.ptr id [6] 73) (.agg (x.map u8v))) K :=
  wg_of (st1 (RowL.own hs hi) (RcM.szl h l) rfl rfl T_api_Hash (fits_hash hx) (by simp [Esc.sz, szh hx, szh h.secret]) (by simp [Esc.okv, okvs_u8])) (hK _ (Sp.setRow hs hi _))
theorem Rc.st_point (hs : Sp F0 G0 ps G) (hi : ps[i]? = some (RowL id (s.av v_upds))) (h : s.ok) (l : Leaf v_upds) {x : List UInt8} (hx : x.length = 32) (hK : ∀ G', Sp F0 G0 (ps.set i (RowL id (({ s with point := x } : RcM).av v_upds))) G' → K G') : wg (vstore T G t_api_Hash (.ptr id [7] 105) (.agg (x.map u8v))) K :=
  wg_of (st1 (RowL.own hs hi) (RcM.szl h l) rfl rfl T_api_Hash (fits_hash hx) (by simp [Esc.sz, szh hx, szh h.point]) (by simp [Esc.okv, okvs_u8])) (hK _ (Sp.setRow hs hi _))
theorem Rc.st_code (hs : Sp F0 G0 ps G) (hi : ps[i]? = some (RowL id (s.av v_upds))) (h : s.ok) (l : Leaf v_upds) (x : Int) (hK : ∀ G', Sp F0 G0 (ps.set i (RowL id (({ s with code := x } : RcM).av v_upds))) G' → K G') : wg (vstore T G t_int (.ptr id [8] 137) (.int .i64 x)) K :=
  wg_of (st1 (RowL.own hs hi) (RcM.szl h l) rfl rfl T_int rfl rfl rfl) (hK _ (Sp.setRow hs hi _))
theorem Rc.st (hs : Sp F0 G0 ps G) (hi : ps[i]? = some (RowL id (s.av v_upds))) (h : s.ok) (l : Leaf v_upds) {s' : RcM} {w_upds : AVal} (h' : s'.ok) (m : Leaf w_upds) (hK : ∀ G', Sp F0 G0 (ps.set i (RowL id (s'.av w_upds))) G' → K G') : wg (vstore T G t_api_Record (.ptr id [] 0) (s'.av w_upds)) K :=
  wg_of (whole_store T_api_Record (RowL.own hs hi) (RcM.fits h' m) (by rw [RcM.sz h l, RcM.sz h' m]) (RcM.okv m)) (hK _ (Sp.setRow hs hi _))
theorem Rc.nw {s' : RcM} {w_upds : AVal} (hs : Sp F0 G0 ps G) (h' : s'.ok) (m : Leaf w_upds) {K : AId → Heap → Prop} (hK : ∀ i G', Sp F0 G0 (RowL i (s'.av w_upds) :: ps) G' → K i G') : aNew G (.own z_api_Record) fun i G2 => wg (vstore T G2 t_api_Record (.ptr i [] 0) (s'.av w_upds)) fun G3 => K i G3 :=
  newVal hs T_api_Record (RcM.fits h' m) (by rw [RcM.sz h' m]; rfl) (RcM.okv m) hK
end

end Go.Esc.M

/- Printed by gen_struct.py (own work): the struct Config in a row. -/
set_option linter.unusedSimpArgs false
set_option linter.unusedVariables false
set_option maxRecDepth 20000
namespace Go.Esc.M
open Go Go.Esc

/-! ### Config -/
structure CfM where
  side : Int
  cap : Int
  ours : Int
  seed : List UInt8
  key : List UInt8
  pkey : List UInt8
  ptsA : List UInt8
  ptsB : List UInt8
  seg : Int
def CfM.cs (s : CfM) : List AVal := [.int .i64 s.side, .int .i64 s.cap, .int .i64 s.ours, .agg (s.seed.map u8v), .agg (s.key.map u8v), .agg (s.pkey.map u8v), .agg [.agg (s.ptsA.map u8v), .agg (s.ptsB.map u8v)], .int .i64 s.seg]
def CfM.av (s : CfM) : AVal := .agg (s.cs )
structure CfM.ok (s : CfM) : Prop where
  side : I64 s.side
  cap : I64 s.cap
  ours : I64 s.ours
  seed : s.seed.length = 32
  key : s.key.length = 32
  pkey : s.pkey.length = 32
  ptsA : s.ptsA.length = 32
  ptsB : s.ptsB.length = 32
  seg : I64 s.seg
theorem CfM.szl {s : CfM} (h : s.ok) : (s.cs ).map Esc.sz = [1, 1, 1, 32, 32, 32, 64, 1] := by
  simp [CfM.cs, Esc.sz, szs, szh h.seed, szh h.key, szh h.pkey, szh h.ptsA, szh h.ptsB]
theorem CfM.sz {s : CfM} (h : s.ok) : Esc.sz (s.av ) = 164 := by
  have e := CfM.szl h 
  rw [CfM.av, Esc.sz, szs_map, e]; rfl
theorem CfM.okv {s : CfM} : Esc.okv (s.av ) = true := by
  simp [CfM.av, CfM.cs, Esc.okv, okvs, okvs_u8]
section
variable {F0 : List AId} {G0 G : Heap} {ps : List LP} {i : Nat} {id : AId} {s : CfM} {K : Heap → Prop} 
theorem Cf.ld_ours (hg : G id = some (.own (s.av ))) (h : s.ok) : vload T G t_int64 (.ptr id [2] 2) = some (.int .i64 s.ours) := ld1 hg (CfM.szl h ) rfl rfl T_int64 rfl
theorem Cf.st_ours (hs : Sp F0 G0 ps G) (hi : ps[i]? = some (RowL id (s.av ))) (h : s.ok) (x : Int) (hK : ∀ G', Sp F0 G0 (ps.set i (RowL id (({ s with ours := x } : CfM).av ))) G' → K G') : wg (vstore T G t_int64 (.ptr id [2] 2) (.int .i64 x)) K :=
  wg_of (st1 (RowL.own hs hi) (CfM.szl h ) rfl rfl T_int64 rfl rfl rfl) (hK _ (Sp.setRow hs hi _))
end

end Go.Esc.M

/- Own work. Chapter 12: updates written. -/
set_option linter.unusedSimpArgs false
set_option linter.unusedVariables false
set_option maxRecDepth 20000
namespace Go.Esc.M
open Go Go.Esc

def tailU (u : UpdM) : List UInt8 := if u.kind = 1 then be 8 (bits64 u.amount) ++ u.hash else if u.kind = 2 then u.hash else be 2 u.note.length ++ u.note
def bytesU (u : UpdM) : List UInt8 := be 1 u.kind.toNat ++ (be 2 u.id.toNat ++ tailU u)
def writeR (u : UpdM) : List UInt8 × Int := bif validU u then (bytesU u, 0) else ([], 120)

theorem valid_spec {u : UpdM} (h : validU u = true) : 0 ≤ u.id ∧ u.id < 2048 ∧ ((u.kind = 1 ∧ 1 ≤ u.amount ∧ u.amount ≤ 1152921504606846976 ∧ u.note = []) ∨ (u.kind = 2 ∧ u.amount = 0 ∧ u.note = []) ∨ (u.kind = 3 ∧ u.amount = 0 ∧ u.hash = h0 ∧ u.note.length ≤ 64)) := by
  unfold validU maxAm at h
  simp only [Bool.and_eq_true, decide_eq_true_eq] at h
  obtain ⟨h1, h2, h3⟩ := h
  refine ⟨h1, h2, ?_⟩
  split at h3
  · simp only [Bool.and_eq_true, decide_eq_true_eq] at h3
    rename_i hk
    exact .inl ⟨hk, h3.1, h3.2.1, h3.2.2⟩
  split at h3
  · simp only [Bool.and_eq_true, decide_eq_true_eq] at h3
    rename_i hk
    exact .inr (.inl ⟨hk, h3.1, h3.2⟩)
  split at h3
  · simp only [Bool.and_eq_true, decide_eq_true_eq] at h3
    rename_i hk
    exact .inr (.inr ⟨hk, h3.1, h3.2.1, h3.2.2⟩)
  · cases h3

theorem laidText_ok {bs s : List UInt8} (h : s.length ≤ 65535) : laidText (bs, 0) s = laid (bs, 0) (be 2 s.length ++ s) := by
  unfold laidText laid
  simp [h]

section
variable {F0 : List AId} {G0 G : Heap} {ps : List LP} {Q : AVal → Heap → Prop}

theorem u16_conv (n : Int) (h0 : 0 ≤ n) (h1 : n ≤ 65535) : vconv T G t_int64 t_uint16 (.int .i64 n) = some (.int .u16 (n.toNat : Nat)) := by
  rw [vconv_int T_int64 T_uint16 rfl, u16_in h0 h1]
  congr 2
  omega

theorem slice_upd {i : AId} {u : UpdM} (h : u.ok) (hg : G i = some (.own u.av)) : ∃ x, vslice T t_api_Hash (.ptr i [3] 3) none none none = some x ∧ IsSl 1 G x (u.hash.map u8v) := by
  have e1 : T t_api_Hash = some ti_api_Hash := T_api_Hash
  have e2 : ti_api_Hash.desc = .array 32 t_uint8 := rfl
  refine ⟨.slice i [3] 0 3 32 32, by simp [vslice, e1, e2, T_uint8, sbounds, sbound, ti_uint8], .inl ⟨_, _, _, _, _, _, rfl, ?_⟩⟩
  have hh := h.hash
  have ha : arrAt G 1 i [3] 0 3 = some (u.hash.map u8v) := by
    simp [arrAt, vsub, hg, treeOf, UpdM.av, UpdM.cs, sub, szs, Esc.sz, uni_u8]
  rw [selems, ha]
  simp [hh, List.take_of_length_le]

set_option maxHeartbeats 1000000 in
theorem update_Write.use {u : UpdM} (h : u.ok) (hQ : ∀ G', Ch [] G [] G' → Q (.tuple [.str (writeR u).1, .int .i64 (writeR u).2]) G') : ACalls P update_Write.n [u.av] G Q := by
  refine update_Write.sound ?_
  unfold update_Write.S
  intro i1 f1
  have s1 := (Sp.nil G).row f1 u.av
  refine wv_of (upd_load (i := 0) s1 rfl h).2.2.2.2.2 ?_
  refine update_Valid.use h fun G5 c5 => ?_
  have s5 := s1.tmp c5
  rw [vun_not, wv_some]
  unfold writeR at hQ
  cases hv : validU u with
  | false =>
    rw [hv] at hQ
    exact hQ _ s5.ch
  | true =>
    rw [hv] at hQ
    simp only [cond_true] at hQ
    rw [Bool.not_true, brB_false]
    obtain ⟨hi0, hi1, hk⟩ := valid_spec hv
    have hkr : 1 ≤ u.kind ∧ u.kind ≤ 3 := by omega
    refine cursor_New.use fun iw G8 w8 c8 => ?_
    have s8 := s5.new (p := WrL iw [] 0) w8 c8
    refine wv_of (upd_load (i := 1) s8 rfl h).1 ?_
    refine wv_of (u8_conv u.kind (by omega) (by omega)) ?_
    refine wr (i := 0) s8 rfl (fun h k => cursor_Writer_U8.use (by omega) h (by simp) k) fun G12 s12 => ?_
    refine wv_of (upd_load (i := 1) s12 rfl h).2.1 ?_
    refine wv_of (u16_conv u.id (by omega) (by omega)) ?_
    refine wr (i := 0) s12 rfl (fun h k => cursor_Writer_U16.use (by omega) h (by simp [length_be]) k) fun G16 s16 => ?_
    refine wv_of (upd_load (i := 1) s16 rfl h).1 ?_
    intro J41
    have out : ∀ G' bs, Sp [] G [WrL iw bs 0, RowL i1 u.av] G' → bs = bytesU u → J41 G' := by
      intro G' bs hs hb
      simp -zeta only [J41]
      obtain ⟨F, hw⟩ := hs.get (i := 0) rfl
      refine cursor_Writer_Out.use (st := (bs, 0)) hw ?_
      rw [vext0, wv_some, vext1, wv_some, if_pos rfl, hb]
      exact hQ _ hs.ch
    have s16 : Sp [] G [WrL iw ([] ++ be 1 u.kind.toNat ++ be 2 u.id.toNat) 0, RowL i1 u.av] G16 := s16
    rw [vbin_eql, wv_some, brB_dec]
    refine ⟨fun hk1 => ?_, fun hk1 => ?_⟩
    · refine wv_of (upd_load (i := 1) s16 rfl h).2.2.1 ?_
      refine wr (i := 0) s16 rfl (fun h k => cursor_Writer_I64.use h (by simp [length_be]) k) fun G21 s21 => ?_
      refine wv_of (upd_load (i := 1) s21 rfl h).2.2.2.1 ?_
      refine wr (i := 0) s21 rfl (fun hh k => cursor_Writer_Hash.use h.hash hh (by simp [length_be]) k) fun G24 s24 => ?_
      exact out _ _ s24 (by simp [bytesU, tailU, hk1])
    rw [vbin_eql, wv_some, brB_dec]
    refine ⟨fun hk2 => ?_, fun hk2 => ?_⟩
    · refine wv_of (upd_load (i := 1) s16 rfl h).2.2.2.1 ?_
      refine wr (i := 0) s16 rfl (fun hh k => cursor_Writer_Hash.use h.hash hh (by simp [length_be]) k) fun G24 s24 => ?_
      exact out _ _ s24 (by simp [bytesU, tailU, hk2])
    rw [vbin_eql, wv_some, brB_dec]
    refine ⟨fun hk3 => ?_, fun hk3 => absurd (by omega) hk3⟩
    have hn : u.note.length ≤ 64 := by
      rcases hk with hk | hk | hk
      · omega
      · omega
      · exact hk.2.2.2
    refine wv_of (upd_load (i := 1) s16 rfl h).2.2.2.2.1 ?_
    refine wr (i := 0) (xs := be 2 u.note.length ++ u.note) s16 rfl (fun hh k => cursor_Writer_Text.use hh (by simp [length_be]; omega) (by rw [laidText_ok (by omega)]; exact k)) fun G32 s32 => ?_
    exact out _ _ s32 (by simp [bytesU, tailU, hk1, hk2])

end
end Go.Esc.M
