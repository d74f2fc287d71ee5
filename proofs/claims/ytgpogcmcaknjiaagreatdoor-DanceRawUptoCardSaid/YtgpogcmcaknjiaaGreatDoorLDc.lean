import Derived.Test.YtgpogcmcaknjiaaGreatDoorLCq
import Derived.Test.YtgpogcmcaknjiaaGreatDoorLBe
/- Own work. Chapter 14: the document's texts, walked. -/
set_option linter.unusedSimpArgs false
set_option linter.unusedVariables false
set_option maxRecDepth 20000
namespace Go.Esc.M
open Go Go.Esc

section
variable {F0 : List AId} {G0 G : Heap} {ps : List LP} {Q : AVal → Heap → Prop}

end
end Go.Esc.M

/- Own work. Chapter 14: commitments read, in the program. -/
set_option linter.unusedSimpArgs false
set_option linter.unusedVariables false
set_option maxRecDepth 20000
namespace Go.Esc.M
open Go Go.Esc

structure Com where
  owner : Int
  index : Int
  point : List UInt8
  o : Int
  q : Int
  l : List PenM
def Com.text (c : Com) : List UInt8 := textB c.owner c.index c.point c.o c.q c.l
structure Com.Valid (c : Com) : Prop where
  arg : ¬ argBad c.owner c.index
  sound : soundP c.o c.q c.l = true
  point : c.point.length = 32
  ok : ∀ p ∈ c.l, p.ok

section
variable {F0 : List AId} {G0 G : Heap} {ps : List LP} {Q : AVal → Heap → Prop}

/-- A reader among other things. -/
theorem rd {id : AId} {st st' : List UInt8 × Int} {out : AVal} {n : FuncId} {args : List AVal} {i : Nat} {K : AVal → Heap → Prop} (hs : Sp F0 G0 ps G) (hi : ps[i]? = some (RdL id st))
    (huse : ∀ {G : Heap} {Q : AVal → Heap → Prop}, Rd id st G → (∀ G', Rd id st' G' → Ch [id] G [id] G' → Q out G') → ACalls P n args G Q)
    (hK : ∀ G', Sp F0 G0 (ps.set i (RdL id st')) G' → K out G') : ACalls P n args G K := by
  refine hs.call hi (RdL id st') fun F h k => ?_
  obtain ⟨h, rfl⟩ := h
  exact huse h fun G' r c => hK _ (k _ _ ⟨r, rfl⟩ c)

theorem RdL.rd {id : AId} {st : List UInt8 × Int} {i : Nat} (h : Sp F0 G0 ps G) (hi : ps[i]? = some (RdL id st)) : Rd id st G := by
  obtain ⟨F, h, _⟩ := h.get hi
  exact h

theorem led_set {i : Nat} {id : AId} {o q : Int} {v w : AVal} (hs : Sp F0 G0 ps G) (hi : ps[i]? = some (RowL id (ledV o q v))) (hv : sz v = 1) (hw : sz w = 1 ∧ w.isAgg = false ∧ okv w = true) {K : Heap → Prop} (hK : ∀ G', Sp F0 G0 (ps.set i (RowL id (ledV o q w))) G' → K G') :
    wg (vstore T G t_sl_api_Pending (.ptr id [2] 2) w) K := by
  refine wg_of (vstore_fld (c := w) (u := v) (RowL.own hs hi) rfl rfl T_sl_api_Pending (by simp [vfits, hw.1, hw.2.1, ti_sl_api_Pending, ADesc.isAgg]) (by rw [hv, hw.1]) hw.2.2) ?_
  exact hK _ (Sp.setRow hs hi _)

theorem led_whole {o q : Int} {w : AVal} (hw : sz w = 1 ∧ w.isAgg = false ∧ okv w = true) : vfits ti_api_Ledger (ledV o q w) = true ∧ sz (ledV o q w) = 3 ∧ okv (ledV o q w) = true := by
  refine ⟨?_, ?_, ?_⟩
  · simp [vfits, ledV, sz, szs, hw.1, ti_api_Ledger, AVal.isAgg, ADesc.isAgg]
  · simp [ledV, sz, szs, hw.1]
  · simp [ledV, okv, okvs, hw.2.2]
theorem led_store {i : Nat} {id : AId} {o q o' q' : Int} {v w : AVal} (hs : Sp F0 G0 ps G) (hi : ps[i]? = some (RowL id (ledV o q v))) (hv : sz v = 1) (hw : sz w = 1 ∧ w.isAgg = false ∧ okv w = true) {K : Heap → Prop} (hK : ∀ G', Sp F0 G0 (ps.set i (RowL id (ledV o' q' w))) G' → K G') :
    wg (vstore T G t_api_Ledger (.ptr id [] 0) (ledV o' q' w)) K := by
  obtain ⟨h1, h2, h3⟩ := led_whole (o := o') (q := q') hw
  refine wg_of (whole_store T_api_Ledger (RowL.own hs hi) h1 (by rw [h2]; simp [ledV, sz, szs, hv]) h3) ?_
  exact hK _ (Sp.setRow hs hi _)
theorem hash_store {i : Nat} {id : AId} {h h' : List UInt8} (hs : Sp F0 G0 ps G) (hi : ps[i]? = some (RowL id (.agg (h.map u8v)))) (hl : h.length = 32) (hl' : h'.length = 32) {K : Heap → Prop} (hK : ∀ G', Sp F0 G0 (ps.set i (RowL id (.agg (h'.map u8v)))) G' → K G') :
    wg (vstore T G t_api_Hash (.ptr id [] 0) (.agg (h'.map u8v))) K := by
  refine wg_of (store_hash hl hl' (RowL.own hs hi)) ?_
  exact hK _ (Sp.setRow hs hi _)
theorem led_load {i : Nat} {id : AId} {o q : Int} {v : AVal} (hs : Sp F0 G0 ps G) (hi : ps[i]? = some (RowL id (ledV o q v))) (hv : sz v = 1 ∧ v.isAgg = false ∧ okv v = true) :
    vload T G t_int64 (.ptr id [0] 0) = some (.int .i64 o) ∧ vload T G t_int64 (.ptr id [1] 1) = some (.int .i64 q) ∧ vload T G t_sl_api_Pending (.ptr id [2] 2) = some v ∧ vload T G t_api_Ledger (.ptr id [] 0) = some (ledV o q v) :=
  led_fld hv.1 hv.2.1 (RowL.own hs hi)

theorem fill4 {pl : Nat → Option (Nat × Nat)} (e0 : pl 0 = some (0, 1)) (e1 : pl 1 = some (1, 1)) (e2 : pl 2 = some (2, 1)) (e3 : pl 3 = some (3, 32)) {b : Bool} {m n : Int} {zh h : AVal} (hz : sz zh = 32) (hh : sz h = 32) :
    fillA pl [.bool false, .int .i64 0, .int .i64 0, zh] [(0, .bool b), (1, .int .i64 m), (2, .int .i64 n), (3, h)] = some [.bool b, .int .i64 m, .int .i64 n, h] := by
  simp [fillA, e0, e1, e2, e3, sz, szs, hh, hz]
theorem build_pen {p : PenM} (h : p.ok) : vbuild T t_api_Pending [(0, .bool p.ours), (1, .int .i64 p.id), (2, .int .i64 p.amount), (3, .agg (p.hash.map u8v))] = some p.av := by
  have h1 : sz (.agg (p.hash.map u8v)) = 32 := by rw [sz, szs_uni (n := 1) (uni_u8 p.hash)]; simp [h.hash]
  obtain ⟨zh, hz, hzh⟩ : ∃ zh, z_api_Pending = .agg [.bool false, .int .i64 0, .int .i64 0, zh] ∧ sz zh = 32 := ⟨_, rfl, rfl⟩
  have hf := fill4 (pl := places T [(t_bool, 0), (t_int64, 1), (t_int64, 2), (t_api_Hash, 3)]) rfl rfl rfl rfl (b := p.ours) (m := p.id) (n := p.amount) hzh h1
  have ha : [(t_bool, 0), (t_int64, 1), (t_int64, 2), (t_api_Hash, 3)].all (fun g => (T g.1).isSome) = true := rfl
  unfold vbuild
  have e1 : ti_api_Pending.desc = .struct [(t_bool, 0), (t_int64, 1), (t_int64, 2), (t_api_Hash, 3)] := rfl
  have e2 : ti_api_Pending.zero = .agg [.bool false, .int .i64 0, .int .i64 0, zh] := hz
  simp only [T_api_Pending, e1, e2, ha, if_true, hf]
  rfl
theorem zLed : z_api_Ledger = ledV 0 0 .nilSlice := rfl
theorem nil_leaf : sz .nilSlice = 1 ∧ AVal.nilSlice.isAgg = false ∧ okv .nilSlice = true := ⟨rfl, rfl, rfl⟩
end
end Go.Esc.M

/- Own work. Chapter 14: commitments read, in the document. -/
set_option linter.unusedSimpArgs false
set_option linter.unusedVariables false
set_option maxRecDepth 20000
namespace Go.Esc.M
open Go Go.Esc

def slice (b : List UInt8) (at_ n : Nat) : List UInt8 := (b.drop at_).take n
theorem hw64 (n : Int) : I64 (IntKind.i64.wrap n) := i64_wf.1 (wf_wrap .i64 n)
section
variable {F0 : List AId} {G0 G : Heap} {ps : List LP} {Q : AVal → Heap → Prop}

end
end Go.Esc.M
