import Derived.Test.YtbckpbdamfhehaaGreatDoorLDg
import Derived.Test.YtbckpbdamfhehaaGreatDoorLDa
import Derived.Test.YtbckpbdamfhehaaGreatDoorLSh
/- Own work. Chapter 14: sound ledgers made of any. -/
set_option linter.unusedSimpArgs false
set_option linter.unusedVariables false
set_option maxRecDepth 20000
namespace Go.Esc.M
open Go Go.Esc

def mk (n : Int) (p : PenM) : PenM := ⟨p.ours, n + 1 + p.id % 4, 1 + p.amount % 576460752303423488, p.hash⟩
section
variable {F0 : List AId} {G0 G : Heap} {ps : List LP} {Q : AVal → Heap → Prop}

end
end Go.Esc.M

/- Own work. Chapter 14: turned ledgers; sums. -/
set_option linter.unusedSimpArgs false
set_option linter.unusedVariables false
set_option maxRecDepth 20000
namespace Go.Esc.M
open Go Go.Esc

def side (b : Bool) (l : List PenM) : List PenM := l.map (fun p => { p with ours := b })
section
variable {F0 : List AId} {G0 G : Heap} {ps : List LP} {Q : AVal → Heap → Prop}

end
end Go.Esc.M

/- Own work. Chapter 14: CommitTurns. -/
set_option linter.unusedSimpArgs false
set_option linter.unusedVariables false
set_option maxRecDepth 20000
namespace Go.Esc.M
open Go Go.Esc

def m1 : PenM := ⟨false, -1, 0, z32⟩
def m2 : PenM := ⟨false, -2, 0, z32⟩
section
variable {F0 : List AId} {G0 G : Heap} {ps : List LP} {Q : AVal → Heap → Prop}

/-- A place of one's own list, written over. -/
theorem pen_set {i j : Nat} {v : AVal} {l : List PenM} {p : PenM} (hs : Sp F0 G0 ps G) (hi : ps[i]? = some (OwnL 35 v (l.map PenM.av))) (hj : j < l.length) (hp : p.ok) :
    ∃ a, viaddr T t_sl_api_Pending v (.int .i64 (j : Int)) = some a ∧ ∀ K : Heap → Prop, (∀ G', Sp F0 G0 (ps.set i (OwnL 35 v ((l.set j p).map PenM.av))) G' → K G') → wg (vstore T G t_api_Pending a p.av) K := by
  have ho := OwnL.own hs hi
  rcases ho with ⟨_, h⟩ | ⟨id, len, cap, cs, rfl, hg, hc, hl, hu, he⟩
  · rw [List.map_eq_nil_iff] at h
    rw [h] at hj
    simp at hj
  · have hlen : len = l.length := by
      have := congrArg List.length he
      simp only [List.length_map, List.length_take] at this
      omega
    obtain ⟨a, ha, hst⟩ := own_set (T := T) (t := t_sl_api_Pending) (e := t_api_Pending) (i := ti_sl_api_Pending) (ie := ti_api_Pending) (cap := cap) (k := .i64) (c := p.av) T_sl_api_Pending rfl T_api_Pending hg hu (show j < len by omega) (by omega) (PenM.sz hp) rfl (PenM.okv p)
    refine ⟨a, ha, fun K hK => wg_of hst (hK _ ?_)⟩
    refine hs.call hi (OwnL 35 (.slice id [] 0 0 len cap) ((l.set j p).map PenM.av)) fun F h k => ?_
    obtain ⟨_, rfl⟩ := h
    refine k _ _ ⟨.inr ⟨id, len, cap, cs.set j p.av, rfl, Heap.upd_self _ _ _, by rw [List.length_set]; exact hc, hl, uni_set hu (PenM.sz hp), ?_⟩, rfl⟩ (upd_ch hg (by simp))
    rw [List.map_set, he, List.take_set]

end

end Go.Esc.M

/- Own work. Chapter 12: updates; which are valid. -/
set_option linter.unusedSimpArgs false
set_option linter.unusedVariables false
set_option maxRecDepth 20000
namespace Go.Esc.M
open Go Go.Esc

structure UpdM where
  kind : Int
  id : Int
  amount : Int
  hash : List UInt8
  note : List UInt8
  deriving DecidableEq

def h0 : List UInt8 := List.replicate 32 0
theorem h0_len : h0.length = 32 := rfl
def UpdM.cs (u : UpdM) : List AVal := [.int .i64 u.kind, .int .i64 u.id, .int .i64 u.amount, .agg (u.hash.map u8v), .str u.note]
def UpdM.av (u : UpdM) : AVal := .agg u.cs
def UpdM.zero : UpdM := ⟨0, 0, 0, h0, []⟩
structure UpdM.ok (u : UpdM) : Prop where
  kind : I64 u.kind
  id : I64 u.id
  amount : I64 u.amount
  hash : u.hash.length = 32
  note : u.note.length ≤ 9223372036854775807
theorem UpdM.zero_ok : UpdM.zero.ok := ⟨⟨by decide, by decide⟩, ⟨by decide, by decide⟩, ⟨by decide, by decide⟩, rfl, by decide⟩

theorem szh {h : List UInt8} (hl : h.length = 32) : szs (h.map u8v) = 32 := by rw [szs_uni (n := 1) (uni_u8 h)]; simp [hl]
theorem UpdM.sz {u : UpdM} (h : u.ok) : Esc.sz u.av = 36 := by simp [UpdM.av, UpdM.cs, Esc.sz, szs, szh h.hash]
theorem UpdM.fits {u : UpdM} (h : u.ok) : vfits ti_api_Update u.av = true := by
  have h1 := UpdM.sz h
  have h2 : u.av.isAgg = true := rfl
  simp [vfits, h1, h2, ti_api_Update, ADesc.isAgg]
theorem UpdM.okv (u : UpdM) : Esc.okv u.av = true := by simp [UpdM.av, UpdM.cs, Esc.okv, okvs, okvs_u8]
theorem fits_hash {h : List UInt8} (hl : h.length = 32) : vfits ti_api_Hash (.agg (h.map u8v)) = true := by simp [vfits, Esc.sz, szh hl, ti_api_Hash, AVal.isAgg, ADesc.isAgg]

section
variable {F0 : List AId} {G0 G : Heap} {ps : List LP} {i : Nat} {id : AId} {u : UpdM}

theorem upd_load (hs : Sp F0 G0 ps G) (hi : ps[i]? = some (RowL id u.av)) (h : u.ok) :
    vload T G t_int (.ptr id [0] 0) = some (.int .i64 u.kind) ∧ vload T G t_int64 (.ptr id [1] 1) = some (.int .i64 u.id) ∧ vload T G t_int64 (.ptr id [2] 2) = some (.int .i64 u.amount) ∧ vload T G t_api_Hash (.ptr id [3] 3) = some (.agg (u.hash.map u8v)) ∧ vload T G t_string (.ptr id [4] 35) = some (.str u.note) ∧ vload T G t_api_Update (.ptr id [] 0) = some u.av := by
  have hg := RowL.own hs hi
  refine ⟨vload_fld (c := .int .i64 u.kind) hg rfl rfl rfl T_int rfl, vload_fld (c := .int .i64 u.id) hg rfl rfl rfl T_int64 rfl, vload_fld (c := .int .i64 u.amount) hg rfl rfl rfl T_int64 rfl, vload_fld (c := .agg (u.hash.map u8v)) hg rfl rfl rfl T_api_Hash (fits_hash h.hash), vload_fld (c := .str u.note) hg rfl ?_ rfl T_string rfl, whole_load T_api_Update hg (UpdM.fits h)⟩
  simp [UpdM.cs, szs, Esc.sz, szh h.hash]
theorem upd_store {u' : UpdM} (hs : Sp F0 G0 ps G) (hi : ps[i]? = some (RowL id u.av)) (h : u.ok) (h' : u'.ok) {K : Heap → Prop} (hK : ∀ G', Sp F0 G0 (ps.set i (RowL id u'.av)) G' → K G') : wg (vstore T G t_api_Update (.ptr id [] 0) u'.av) K := by
  refine wg_of (whole_store T_api_Update (RowL.own hs hi) (UpdM.fits h') (by rw [UpdM.sz h, UpdM.sz h']) (UpdM.okv _)) ?_
  exact hK _ (Sp.setRow hs hi _)
end

theorem wt_Upd {G : Heap} {R d : Nat} {v : AVal} {m : Nat} (h : wt T G R (d + 3) t_api_Update v m) : ∃ u : UpdM, v = u.av ∧ u.ok ∧ u.note.length ≤ m ∧ u.note.length ≤ R := by
  obtain ⟨cs, ms, rfl, hf, rfl⟩ := wt_struct T_api_Update rfl h
  obtain ⟨c1, cs, m1, ms, rfl, rfl, h1, hf⟩ := wfs_cons hf
  obtain ⟨c2, cs, m2, ms, rfl, rfl, h2, hf⟩ := wfs_cons hf
  obtain ⟨c3, cs, m3, ms, rfl, rfl, h3, hf⟩ := wfs_cons hf
  obtain ⟨c4, cs, m4, ms, rfl, rfl, h4, hf⟩ := wfs_cons hf
  obtain ⟨c5, cs, m5, ms, rfl, rfl, h5, hf⟩ := wfs_cons hf
  obtain ⟨rfl, rfl⟩ := wfs_nil hf
  obtain ⟨a, rfl, w1, _⟩ := wt_int T_int rfl h1
  obtain ⟨b, rfl, w2, _⟩ := wt_int T_int64 rfl h2
  obtain ⟨c, rfl, w3, _⟩ := wt_int T_int64 rfl h3
  obtain ⟨e, rfl, w4, _⟩ := wt_hash T_api_Hash rfl T_uint8 rfl h4
  obtain ⟨n, rfl, hR, hn, hm⟩ := wt_str T_string rfl h5
  exact ⟨⟨a, b, c, e, n⟩, rfl, ⟨i64_wf.1 w1, i64_wf.1 w2, i64_wf.1 w3, w4, hn⟩, by simp; omega, hR⟩

def maxAm : Int := 1152921504606846976
def validU (u : UpdM) : Bool :=
  decide (0 ≤ u.id) && (decide (u.id < 2048) && (if u.kind = 1 then decide (1 ≤ u.amount) && (decide (u.amount ≤ maxAm) && decide (u.note = []))
    else if u.kind = 2 then decide (u.amount = 0) && decide (u.note = [])
    else if u.kind = 3 then decide (u.amount = 0) && (decide (u.hash = h0) && decide (u.note.length ≤ 64)) else false))

section
variable {G : Heap} {Q : AVal → Heap → Prop}

theorem build_h0 : vbuild T t_api_Hash [] = some (.agg (h0.map u8v)) := rfl
theorem hash_eql {a b : List UInt8} (ha : a.length = 32) (hb : b.length = 32) : vbin T .eql t_api_Hash (.agg (a.map u8v)) (.agg (b.map u8v)) = some (.bool (decide (a = b))) :=
  vbin_heql (i := ti_api_Hash) (ie := ti_uint8) (n := 32) T_api_Hash rfl T_uint8 rfl rfl ha hb
theorem hash_neq {a b : List UInt8} (ha : a.length = 32) (hb : b.length = 32) : vbin T .neq t_api_Hash (.agg (a.map u8v)) (.agg (b.map u8v)) = some (.bool (!decide (a = b))) :=
  vbin_hneq (i := ti_api_Hash) (ie := ti_uint8) (n := 32) T_api_Hash rfl T_uint8 rfl rfl ha hb

set_option maxHeartbeats 1000000 in
theorem update_Valid.use {u : UpdM} (h : u.ok) (hQ : ∀ G', Ch [] G [] G' → Q (.bool (validU u)) G') : ACalls P update_Valid.n [u.av] G Q := by
  refine update_Valid.sound ?_
  unfold update_Valid.S
  obtain ⟨mA, hmA⟩ : ∃ m, m = (1152921504606846976 : Int) := ⟨_, rfl⟩
  rw [← hmA]
  have hmax : maxAm = mA := by rw [hmA]; rfl
  unfold validU at hQ
  rw [hmax] at hQ
  clear hmax hmA
  intro i1 f1
  have s1 := (Sp.nil G).row f1 u.av
  obtain ⟨l0, l1, l2, l3, l4, _⟩ := upd_load (i := 0) s1 rfl h
  have hQ := hQ _ s1.ch
  revert hQ l0 l1 l2 l3 l4
  generalize G.upd i1 (.own u.av) = G2
  intro l0 l1 l2 l3 l4 hQ J37
  have bad : (decide (0 ≤ u.id) && decide (u.id < 2048)) = false → J37 (.bool true) G2 := by
    intro hb
    simp -zeta only [J37, brB_true]
    rw [← Bool.and_assoc, hb, Bool.false_and] at hQ
    exact hQ
  have good : 0 ≤ u.id → u.id < 2048 → J37 (.bool false) G2 := by
    intro h0 h1
    rw [decide_eq_true h0, decide_eq_true h1, Bool.true_and, Bool.true_and] at hQ
    simp -zeta only [J37, brB_false]
    rw [l0, wv_some, vbin_eql, wv_some, brB_dec]
    refine ⟨fun hk => ?_, fun hk1 => ?_⟩
    · rw [if_pos hk] at hQ
      rw [l2, wv_some, vbin_geq, wv_some, brB_dec]
      refine ⟨fun ha => ?_, fun ha => by rwa [decide_eq_false ha, Bool.false_and] at hQ⟩
      rw [decide_eq_true ha, Bool.true_and] at hQ
      rw [wv_some, vbin_leq, wv_some, brB_dec]
      refine ⟨fun hb => ?_, fun hb => by rwa [decide_eq_false hb, Bool.false_and] at hQ⟩
      rw [decide_eq_true hb, Bool.true_and] at hQ
      rw [l4, wv_some, vbin_seql, wv_some]
      exact hQ
    rw [if_neg hk1] at hQ
    rw [vbin_eql, wv_some, brB_dec]
    refine ⟨fun hk => ?_, fun hk2 => ?_⟩
    · rw [if_pos hk] at hQ
      rw [l2, wv_some, vbin_eql, wv_some, brB_dec]
      refine ⟨fun ha => ?_, fun ha => by rwa [decide_eq_false ha, Bool.false_and] at hQ⟩
      rw [decide_eq_true ha, Bool.true_and] at hQ
      rw [l4, wv_some, vbin_seql, wv_some]
      exact hQ
    rw [if_neg hk2] at hQ
    rw [vbin_eql, wv_some, brB_dec]
    refine ⟨fun hk => ?_, fun hk3 => ?_⟩
    · rw [if_pos hk] at hQ
      rw [l2, wv_some, vbin_eql, wv_some, brB_dec]
      refine ⟨fun ha => ?_, fun ha => by rwa [decide_eq_false ha, Bool.false_and] at hQ⟩
      rw [decide_eq_true ha, Bool.true_and] at hQ
      rw [l3, wv_some, build_h0, wv_some, hash_eql h.hash h0_len, wv_some, brB_dec]
      refine ⟨fun hb => ?_, fun hb => by rwa [decide_eq_false hb, Bool.false_and] at hQ⟩
      rw [decide_eq_true hb, Bool.true_and] at hQ
      rw [l4, wv_some]
      show wv (some (.int .i64 (u.note.length : Nat))) _
      rw [wv_some, vbin_leq, wv_some]
      have : decide (((u.note.length : Nat) : Int) ≤ 64) = decide (u.note.length ≤ 64) := by rw [decide_eq_decide]; omega
      rw [this]
      exact hQ
    · rwa [if_neg hk3] at hQ
  rw [l1, wv_some, vbin_lss, wv_some, brB_dec]
  refine ⟨fun hb => bad (by rw [decide_eq_false (by omega), Bool.false_and]), fun h0 => ?_⟩
  rw [wv_some, vbin_geq, wv_some]
  by_cases h1 : (2048 : Int) ≤ u.id
  · rw [decide_eq_true h1]
    exact bad (by rw [decide_eq_false (show ¬ u.id < 2048 by omega), Bool.and_false])
  · rw [decide_eq_false h1]
    exact good (by omega) (by omega)

end
end Go.Esc.M

/- Own work. Structs in rows: fields read and written, also fields of fields. -/
set_option linter.unusedSimpArgs false
set_option linter.unusedVariables false
set_option maxRecDepth 20000
namespace Go.Esc
open Go Go.RowKit

def pairW (a b : Int) : AVal := .agg [.int .i64 a, .int .i64 b]
def Leaf (v : AVal) : Prop := sz v = 1 ∧ v.isAgg = false ∧ okv v = true
theorem Leaf.nil : Leaf .nilSlice := ⟨rfl, rfl, rfl⟩
theorem szs_map : ∀ l : List AVal, szs l = (l.map sz).sum
  | [] => rfl
  | v :: l => by rw [szs_cons, szs_map l]; simp
theorem fits_leaf {v : AVal} {ti : TI} (h : Leaf v) (ht : (Nat.beq ti.size 1 && !ti.desc.isAgg) = true) : vfits ti v = true := by
  simp only [Bool.and_eq_true, Bool.not_eq_true'] at ht
  have := Nat.eq_of_beq_eq_true ht.1
  simp [vfits, h.1, h.2.1, this, ht.2]
section
variable {T : Tbl} {G : Heap} {id : AId} {cs ds : List AVal} {ss ss2 : List Nat} {k j o o2 oo : Nat} {c u : AVal} {t : TypeId} {ti : TI}
theorem szs_at (h : cs.map sz = ss) (ho : (ss.take k).sum = o) : szs (cs.take k) = o := by
  rw [szs_map, List.map_take, h, ho]
theorem ld1 (hg : G id = some (.own (.agg cs))) (hs : cs.map sz = ss) (ho : (ss.take k).sum = o) (hc : cs[k]? = some c) (ht : T t = some ti) (hf : vfits ti c = true) : vload T G t (.ptr id [k] o) = some c :=
  vload_fld hg rfl (szs_at hs ho) hc ht hf
theorem ld2 (hg : G id = some (.own (.agg cs))) (hs : cs.map sz = ss) (ho : (ss.take k).sum = o) (hc : cs[k]? = some (.agg ds)) (hs2 : ds.map sz = ss2) (ho2 : (ss2.take j).sum = o2) (hc2 : ds[j]? = some c) (hoo : o + o2 = oo) (ht : T t = some ti) (hf : vfits ti c = true) :
    vload T G t (.ptr id [k, j] oo) = some c := by
  subst hoo
  have e1 := szs_at hs ho
  have e2 := szs_at hs2 ho2
  simp [vload, vsub, hg, treeOf, sub, e1, e2, hc, hc2, ht, hf]
theorem st1 (hg : G id = some (.own (.agg cs))) (hs : cs.map sz = ss) (ho : (ss.take k).sum = o) (hc : cs[k]? = some u) (ht : T t = some ti) (hf : vfits ti c = true) (hsz : sz u = sz c) (hok : okv c = true) :
    vstore T G t (.ptr id [k] o) c = some (G.upd id (.own (.agg (cs.set k c)))) := vstore_fld hg (szs_at hs ho) hc ht hf hsz hok
end
end Go.Esc
namespace Go.Esc.M
open Go Go.Esc
def hash2V (a b : List UInt8) : AVal := .agg [.agg (a.map u8v), .agg (b.map u8v)]
theorem fits_hash2 {a b : List UInt8} (ha : a.length = 32) (hb : b.length = 32) : vfits ti_ar2_api_Hash (hash2V a b) = true := by
  simp [vfits, hash2V, Esc.sz, szs, szh ha, szh hb, ti_ar2_api_Hash, AVal.isAgg, ADesc.isAgg]
end Go.Esc.M

/- Printed by gen_struct.py (own work): the struct State in a row. -/
set_option linter.unusedSimpArgs false
set_option linter.unusedVariables false
set_option maxRecDepth 20000
namespace Go.Esc.M
open Go Go.Esc

/-! ### State -/
structure StM where
  side : Int
  cap : Int
  bo : Int
  bp : Int
  loc : Int
  rem : Int
  ack : Int
  atA : Int
  atB : Int
  sgnA : Int
  sgnB : Int
  heldA : Int
  heldB : Int
  behind : Bool
  ptsA : List UInt8
  ptsB : List UInt8
  sig : List UInt8
  failed : Int
  closed : Int
def StM.cs (s : StM) (v_ours v_peers v_shelf : AVal) : List AVal := [.int .i64 s.side, .int .i64 s.cap, .int .i64 s.bo, .int .i64 s.bp, v_ours, v_peers, .int .i64 s.loc, .int .i64 s.rem, .int .i64 s.ack, .agg [.int .i64 s.atA, .int .i64 s.atB], .agg [.int .i64 s.sgnA, .int .i64 s.sgnB], .agg [.int .i64 s.heldA, .int .i64 s.heldB], .bool s.behind, .agg [.agg (s.ptsA.map u8v), .agg (s.ptsB.map u8v)], .agg (s.sig.map u8v), v_shelf, .int .i64 s.failed, .int .i64 s.closed]
def StM.av (s : StM) (v_ours v_peers v_shelf : AVal) : AVal := .agg (s.cs v_ours v_peers v_shelf)
structure StM.ok (s : StM) : Prop where
  side : I64 s.side
  cap : I64 s.cap
  bo : I64 s.bo
  bp : I64 s.bp
  loc : I64 s.loc
  rem : I64 s.rem
  ack : I64 s.ack
  atA : I64 s.atA
  atB : I64 s.atB
  sgnA : I64 s.sgnA
  sgnB : I64 s.sgnB
  heldA : I64 s.heldA
  heldB : I64 s.heldB
  ptsA : s.ptsA.length = 32
  ptsB : s.ptsB.length = 32
  sig : s.sig.length = 32
  failed : I64 s.failed
  closed : I64 s.closed
theorem StM.szl {s : StM} {v_ours v_peers v_shelf : AVal} (h : s.ok) (l : Leaf v_ours ∧ Leaf v_peers ∧ Leaf v_shelf) : (s.cs v_ours v_peers v_shelf).map Esc.sz = [1, 1, 1, 1, 1, 1, 1, 1, 1, 2, 2, 2, 1, 64, 32, 1, 1, 1] := by
  simp [StM.cs, Esc.sz, szs, szh h.ptsA, szh h.ptsB, szh h.sig, l.1.1, l.2.1.1, l.2.2.1]
theorem StM.sz {s : StM} {v_ours v_peers v_shelf : AVal} (h : s.ok) (l : Leaf v_ours ∧ Leaf v_peers ∧ Leaf v_shelf) : Esc.sz (s.av v_ours v_peers v_shelf) = 115 := by
  have e := StM.szl h l
  rw [StM.av, Esc.sz, szs_map, e]; rfl
theorem StM.fits {s : StM} {v_ours v_peers v_shelf : AVal} (h : s.ok) (l : Leaf v_ours ∧ Leaf v_peers ∧ Leaf v_shelf) : vfits ti_api_State (s.av v_ours v_peers v_shelf) = true := by
  have h1 := StM.sz h l
  have h2 : (s.av v_ours v_peers v_shelf).isAgg = true := rfl
  simp [vfits, h1, h2, ti_api_State, ADesc.isAgg]
theorem StM.okv {s : StM} {v_ours v_peers v_shelf : AVal} (l : Leaf v_ours ∧ Leaf v_peers ∧ Leaf v_shelf) : Esc.okv (s.av v_ours v_peers v_shelf) = true := by
  simp [StM.av, StM.cs, Esc.okv, okvs, okvs_u8, l.1.2.2, l.2.1.2.2, l.2.2.2.2]
section
variable {F0 : List AId} {G0 G : Heap} {ps : List LP} {i : Nat} {id : AId} {s : StM} {K : Heap → Prop} {v_ours v_peers v_shelf : AVal} 
theorem St.ld_side (hg : G id = some (.own (s.av v_ours v_peers v_shelf))) (h : s.ok) (l : Leaf v_ours ∧ Leaf v_peers ∧ Leaf v_shelf) : vload T G t_int (.ptr id [0] 0) = some (.int .i64 s.side) := ld1 hg (StM.szl h l) rfl rfl T_int rfl
theorem St.ld_cap (hg : G id = some (.own (s.av v_ours v_peers v_shelf))) (h : s.ok) (l : Leaf v_ours ∧ Leaf v_peers ∧ Leaf v_shelf) : vload T G t_int64 (.ptr id [1] 1) = some (.int .i64 s.cap) := ld1 hg (StM.szl h l) rfl rfl T_int64 rfl
theorem St.ld_bo (hg : G id = some (.own (s.av v_ours v_peers v_shelf))) (h : s.ok) (l : Leaf v_ours ∧ Leaf v_peers ∧ Leaf v_shelf) : vload T G t_int64 (.ptr id [2] 2) = some (.int .i64 s.bo) := ld1 hg (StM.szl h l) rfl rfl T_int64 rfl
theorem St.ld_bp (hg : G id = some (.own (s.av v_ours v_peers v_shelf))) (h : s.ok) (l : Leaf v_ours ∧ Leaf v_peers ∧ Leaf v_shelf) : vload T G t_int64 (.ptr id [3] 3) = some (.int .i64 s.bp) := ld1 hg (StM.szl h l) rfl rfl T_int64 rfl
theorem St.ld_ours (hg : G id = some (.own (s.av v_ours v_peers v_shelf))) (h : s.ok) (l : Leaf v_ours ∧ Leaf v_peers ∧ Leaf v_shelf) : vload T G t_sl_api_Update (.ptr id [4] 4) = some (v_ours) := ld1 hg (StM.szl h l) rfl rfl T_sl_api_Update (fits_leaf l.1 rfl)
theorem St.ld_peers (hg : G id = some (.own (s.av v_ours v_peers v_shelf))) (h : s.ok) (l : Leaf v_ours ∧ Leaf v_peers ∧ Leaf v_shelf) : vload T G t_sl_api_Update (.ptr id [5] 5) = some (v_peers) := ld1 hg (StM.szl h l) rfl rfl T_sl_api_Update (fits_leaf l.2.1 rfl)
theorem St.ld_loc (hg : G id = some (.own (s.av v_ours v_peers v_shelf))) (h : s.ok) (l : Leaf v_ours ∧ Leaf v_peers ∧ Leaf v_shelf) : vload T G t_int64 (.ptr id [6] 6) = some (.int .i64 s.loc) := ld1 hg (StM.szl h l) rfl rfl T_int64 rfl
theorem St.ld_rem (hg : G id = some (.own (s.av v_ours v_peers v_shelf))) (h : s.ok) (l : Leaf v_ours ∧ Leaf v_peers ∧ Leaf v_shelf) : vload T G t_int64 (.ptr id [7] 7) = some (.int .i64 s.rem) := ld1 hg (StM.szl h l) rfl rfl T_int64 rfl
theorem St.ld_ack (hg : G id = some (.own (s.av v_ours v_peers v_shelf))) (h : s.ok) (l : Leaf v_ours ∧ Leaf v_peers ∧ Leaf v_shelf) : vload T G t_int64 (.ptr id [8] 8) = some (.int .i64 s.ack) := ld1 hg (StM.szl h l) rfl rfl T_int64 rfl
theorem St.ld_at (hg : G id = some (.own (s.av v_ours v_peers v_shelf))) (h : s.ok) (l : Leaf v_ours ∧ Leaf v_peers ∧ Leaf v_shelf) : vload T G t_api_Counts (.ptr id [9] 9) = some (pairW s.atA s.atB) := ld1 hg (StM.szl h l) rfl rfl T_api_Counts rfl
theorem St.ld_atA (hg : G id = some (.own (s.av v_ours v_peers v_shelf))) (h : s.ok) (l : Leaf v_ours ∧ Leaf v_peers ∧ Leaf v_shelf) : vload T G t_int (.ptr id [9, 0] 9) = some (.int .i64 s.atA) := ld2 hg (StM.szl h l) rfl rfl (ss2 := [1, 1]) rfl rfl rfl rfl T_int rfl
theorem St.ld_atB (hg : G id = some (.own (s.av v_ours v_peers v_shelf))) (h : s.ok) (l : Leaf v_ours ∧ Leaf v_peers ∧ Leaf v_shelf) : vload T G t_int (.ptr id [9, 1] 10) = some (.int .i64 s.atB) := ld2 hg (StM.szl h l) rfl rfl (ss2 := [1, 1]) rfl rfl rfl rfl T_int rfl
theorem St.ld_sgn (hg : G id = some (.own (s.av v_ours v_peers v_shelf))) (h : s.ok) (l : Leaf v_ours ∧ Leaf v_peers ∧ Leaf v_shelf) : vload T G t_api_Counts (.ptr id [10] 11) = some (pairW s.sgnA s.sgnB) := ld1 hg (StM.szl h l) rfl rfl T_api_Counts rfl
theorem St.ld_heldA (hg : G id = some (.own (s.av v_ours v_peers v_shelf))) (h : s.ok) (l : Leaf v_ours ∧ Leaf v_peers ∧ Leaf v_shelf) : vload T G t_int (.ptr id [11, 0] 13) = some (.int .i64 s.heldA) := ld2 hg (StM.szl h l) rfl rfl (ss2 := [1, 1]) rfl rfl rfl rfl T_int rfl
theorem St.ld_heldB (hg : G id = some (.own (s.av v_ours v_peers v_shelf))) (h : s.ok) (l : Leaf v_ours ∧ Leaf v_peers ∧ Leaf v_shelf) : vload T G t_int (.ptr id [11, 1] 14) = some (.int .i64 s.heldB) := ld2 hg (StM.szl h l) rfl rfl (ss2 := [1, 1]) rfl rfl rfl rfl T_int rfl
theorem St.ld_pts (hg : G id = some (.own (s.av v_ours v_peers v_shelf))) (h : s.ok) (l : Leaf v_ours ∧ Leaf v_peers ∧ Leaf v_shelf) : vload T G t_ar2_api_Hash (.ptr id [13] 16) = some (hash2V s.ptsA s.ptsB) := ld1 hg (StM.szl h l) rfl rfl T_ar2_api_Hash (fits_hash2 h.ptsA h.ptsB)
theorem St.ld_ptsA (hg : G id = some (.own (s.av v_ours v_peers v_shelf))) (h : s.ok) (l : Leaf v_ours ∧ Leaf v_peers ∧ Leaf v_shelf) : vload T G t_api_Hash (.ptr id [13, 0] 16) = some (.agg (s.ptsA.map u8v)) := ld2 hg (StM.szl h l) rfl rfl (ss2 := [32, 32]) (by simp [Esc.sz, szh h.ptsA, szh h.ptsB]) rfl rfl rfl T_api_Hash (fits_hash h.ptsA)
theorem St.ld_ptsB (hg : G id = some (.own (s.av v_ours v_peers v_shelf))) (h : s.ok) (l : Leaf v_ours ∧ Leaf v_peers ∧ Leaf v_shelf) : vload T G t_api_Hash (.ptr id [13, 1] 48) = some (.agg (s.ptsB.map u8v)) := ld2 hg (StM.szl h l) rfl rfl (ss2 := [32, 32]) (by simp [Esc.sz, szh h.ptsA, szh h.ptsB]) rfl rfl rfl T_api_Hash (fits_hash h.ptsB)
theorem St.ld_shelf (hg : G id = some (.own (s.av v_ours v_peers v_shelf))) (h : s.ok) (l : Leaf v_ours ∧ Leaf v_peers ∧ Leaf v_shelf) : vload T G t_sl_api_Slot (.ptr id [15] 112) = some (v_shelf) := ld1 hg (StM.szl h l) rfl rfl T_sl_api_Slot (fits_leaf l.2.2 rfl)
theorem St.ld_failed (hg : G id = some (.own (s.av v_ours v_peers v_shelf))) (h : s.ok) (l : Leaf v_ours ∧ Leaf v_peers ∧ Leaf v_shelf) : vload T G t_int (.ptr id [16] 113) = some (.int .i64 s.failed) := ld1 hg (StM.szl h l) rfl rfl T_int rfl
theorem St.ld_closed (hg : G id = some (.own (s.av v_ours v_peers v_shelf))) (h : s.ok) (l : Leaf v_ours ∧ Leaf v_peers ∧ Leaf v_shelf) : vload T G t_int64 (.ptr id [17] 114) = some (.int .i64 s.closed) := ld1 hg (StM.szl h l) rfl rfl T_int64 rfl
theorem St.ld (hg : G id = some (.own (s.av v_ours v_peers v_shelf))) (h : s.ok) (l : Leaf v_ours ∧ Leaf v_peers ∧ Leaf v_shelf) : vload T G t_api_State (.ptr id [] 0) = some (s.av v_ours v_peers v_shelf) := whole_load T_api_State hg (StM.fits h l)
theorem St.st_ours (hs : Sp F0 G0 ps G) (hi : ps[i]? = some (RowL id (s.av v_ours v_peers v_shelf))) (h : s.ok) (l : Leaf v_ours ∧ Leaf v_peers ∧ Leaf v_shelf) {x : AVal} (hx : Leaf x) (hK : ∀ G', Sp F0 G0 (ps.set i (RowL id (s.av x v_peers v_shelf))) G' → K G') : wg (vstore T G t_sl_api_Update (.ptr id [4] 4) x) K :=
  wg_of (st1 (RowL.own hs hi) (StM.szl h l) rfl rfl T_sl_api_Update (fits_leaf hx rfl) (by rw [l.1.1, hx.1]) hx.2.2) (hK _ (Sp.setRow hs hi _))
theorem St.st_peers (hs : Sp F0 G0 ps G) (hi : ps[i]? = some (RowL id (s.av v_ours v_peers v_shelf))) (h : s.ok) (l : Leaf v_ours ∧ Leaf v_peers ∧ Leaf v_shelf) {x : AVal} (hx : Leaf x) (hK : ∀ G', Sp F0 G0 (ps.set i (RowL id (s.av v_ours x v_shelf))) G' → K G') : wg (vstore T G t_sl_api_Update (.ptr id [5] 5) x) K :=
  wg_of (st1 (RowL.own hs hi) (StM.szl h l) rfl rfl T_sl_api_Update (fits_leaf hx rfl) (by rw [l.2.1.1, hx.1]) hx.2.2) (hK _ (Sp.setRow hs hi _))
theorem St.st_shelf (hs : Sp F0 G0 ps G) (hi : ps[i]? = some (RowL id (s.av v_ours v_peers v_shelf))) (h : s.ok) (l : Leaf v_ours ∧ Leaf v_peers ∧ Leaf v_shelf) {x : AVal} (hx : Leaf x) (hK : ∀ G', Sp F0 G0 (ps.set i (RowL id (s.av v_ours v_peers x))) G' → K G') : wg (vstore T G t_sl_api_Slot (.ptr id [15] 112) x) K :=
  wg_of (st1 (RowL.own hs hi) (StM.szl h l) rfl rfl T_sl_api_Slot (fits_leaf hx rfl) (by rw [l.2.2.1, hx.1]) hx.2.2) (hK _ (Sp.setRow hs hi _))
theorem St.st (hs : Sp F0 G0 ps G) (hi : ps[i]? = some (RowL id (s.av v_ours v_peers v_shelf))) (h : s.ok) (l : Leaf v_ours ∧ Leaf v_peers ∧ Leaf v_shelf) {s' : StM} {w_ours w_peers w_shelf : AVal} (h' : s'.ok) (m : Leaf w_ours ∧ Leaf w_peers ∧ Leaf w_shelf) (hK : ∀ G', Sp F0 G0 (ps.set i (RowL id (s'.av w_ours w_peers w_shelf))) G' → K G') : wg (vstore T G t_api_State (.ptr id [] 0) (s'.av w_ours w_peers w_shelf)) K :=
  wg_of (whole_store T_api_State (RowL.own hs hi) (StM.fits h' m) (by rw [StM.sz h l, StM.sz h' m]) (StM.okv m)) (hK _ (Sp.setRow hs hi _))
theorem St.nw {s' : StM} {w_ours w_peers w_shelf : AVal} (hs : Sp F0 G0 ps G) (h' : s'.ok) (m : Leaf w_ours ∧ Leaf w_peers ∧ Leaf w_shelf) {K : AId → Heap → Prop} (hK : ∀ i G', Sp F0 G0 (RowL i (s'.av w_ours w_peers w_shelf) :: ps) G' → K i G') : aNew G (.own z_api_State) fun i G2 => wg (vstore T G2 t_api_State (.ptr i [] 0) (s'.av w_ours w_peers w_shelf)) fun G3 => K i G3 :=
  newVal hs T_api_State (StM.fits h' m) (by rw [StM.sz h' m]; rfl) (StM.okv m) hK
end

end Go.Esc.M
