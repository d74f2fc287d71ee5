import Derived.Test.YtooeiljhobdfpaaLCq
import Derived.Test.YtooeiljhobdfpaaLCx
/- Own work. Chapter 14: the document's texts, walked. -/
set_option linter.unusedSimpArgs false
set_option linter.unusedVariables false
namespace Go.Esc.M
open Go Go.Esc

theorem cnt_le (b : Bool) (l : List PenM) : cnt b l ≤ l.length := List.length_filter_le _ _
theorem cnt_take {b : Bool} {l : List PenM} {j : Nat} {p : PenM} (h : l[j]? = some p) : cnt b (l.take (j + 1)) = cnt b (l.take j) + (if p.ours = b then 1 else 0) := by
  rw [List.take_add_one, h]
  unfold cnt
  rw [List.filter_append, List.length_append]
  cases ho : p.ours <;> cases b <;> simp [ho]

section
variable {F0 : List AId} {G0 G : Heap} {ps : List LP} {Q : AVal → Heap → Prop}

theorem pen_fldA {v : AVal} {l : List PenM} {j f o : Nat} {p : PenM} {tf : TypeId} {fi : TI} {c : AVal} (h : IsSl 35 G v (l.map PenM.av)) (hj : l[j]? = some p) (hf : [(t_bool, 0), (t_int64, 1), (t_int64, 2), (t_api_Hash, 3)][f]? = some (tf, o)) (hft : T tf = some fi) (hz : fi.size ≠ 0)
    (hs : szs (([.bool p.ours, .int .i64 p.id, .int .i64 p.amount, .agg (p.hash.map u8v)] : List AVal).take f) = o) (hc : ([.bool p.ours, .int .i64 p.id, .int .i64 p.amount, .agg (p.hash.map u8v)] : List AVal)[f]? = some c) (hfit : vfits fi c = true) :
    ∃ a b, viaddr T t_sl_api_Pending v (.int .i64 (j : Int)) = some a ∧ vfaddr T t_api_Pending a f = some b ∧ vload T G tf b = some c :=
  IsSl.fld (k := .i64) (i := ti_sl_api_Pending) (ie := ti_api_Pending) T_sl_api_Pending rfl T_api_Pending rfl hf hft hz h (by rw [List.getElem?_map, hj]; rfl) hs hc hfit

theorem slice_pen {i : AId} {p : PenM} (h : p.ok) (hg : G i = some (.own p.av)) : ∃ x, vslice T t_api_Hash (.ptr i [3] 3) none none none = some x ∧ selems G 1 x = some (p.hash.map u8v) := by
  have e1 : T t_api_Hash = some ti_api_Hash := T_api_Hash
  have e2 : ti_api_Hash.desc = .array 32 t_uint8 := rfl
  refine ⟨.slice i [3] 0 3 32 32, by simp [vslice, e1, e2, T_uint8, sbounds, sbound, ti_uint8], ?_⟩
  have hh := h.hash
  have ha : arrAt G 1 i [3] 0 3 = some (p.hash.map u8v) := by
    simp [arrAt, vsub, hg, treeOf, PenM.av, sub, szs, Esc.sz, uni_u8]
  rw [selems, ha]
  simp [hh, List.take_of_length_le]
theorem slice_hash {i : AId} {hs : List UInt8} (hl : hs.length = 32) (hg : G i = some (.own (.agg (hs.map u8v)))) : selems G 1 (.slice i [] 0 0 32 32) = some (hs.map u8v) := (row_is hg hl).elems

end
end Go.Esc.M

/- Own work. Chapter 14: commitments read, in the program. -/
set_option linter.unusedSimpArgs false
set_option linter.unusedVariables false
namespace Go.Esc.M
open Go Go.Esc

structure Com where
  owner : Int
  index : Int
  point : List UInt8
  o : Int
  q : Int
  l : List PenM
def Com.text (c : Com) : List UInt8 := textB c.owner c.index c.point c.o c.q c.l
structure Com.Valid (c : Com) : Prop where
  arg : ¬ argBad c.owner c.index
  sound : soundP c.o c.q c.l = true
  point : c.point.length = 32
  ok : ∀ p ∈ c.l, p.ok

def penR (st : List UInt8 × Int) : PenM × (List UInt8 × Int) :=
  (⟨num (takes st 1).1 == 1, IntKind.i64.wrap (num (takes (takes st 1).2 8).1 : Nat), IntKind.i64.wrap (num (takes (takes (takes st 1).2 8).2 8).1 : Nat), fill 32 (takes (takes (takes (takes st 1).2 8).2 8).2 32).1⟩, (takes (takes (takes (takes st 1).2 8).2 8).2 32).2)
def pensR : Nat → List UInt8 × Int → List PenM → List PenM × (List UInt8 × Int)
  | 0, st, l => (l, st)
  | n + 1, st, l => if st.2 = 0 then pensR n (penR st).2 (l ++ [(penR st).1]) else (l, st)
def headR (b : List UInt8) : (Int × Int × List UInt8 × Int × Int × Nat) × (List UInt8 × Int) :=
  let a := takes (b, 0) 1
  let c := takes a.2 8
  let d := takes c.2 32
  let e := takes d.2 8
  let f := takes e.2 8
  let g := takes f.2 2
  ((num a.1, IntKind.i64.wrap (num c.1 : Nat), fill 32 d.1, IntKind.i64.wrap (num e.1 : Nat), IntKind.i64.wrap (num f.1 : Nat), num g.1), g.2)
def comR (b : List UInt8) : Com × (List UInt8 × Int) :=
  let h := headR b
  let p := pensR h.1.2.2.2.2.2 h.2 []
  (⟨h.1.1, h.1.2.1, h.1.2.2.1, h.1.2.2.2.1, h.1.2.2.2.2.1, p.1⟩, p.2)

theorem wrap_be {n : Int} (h : I64 n) : IntKind.i64.wrap (num (be 8 (bits64 n)) : Nat) = n := by
  rw [num_be_lt (bits64_lt n), wrap_bits64' h]

theorem penR_bytes {p : PenM} (h : p.ok) (r : List UInt8) : penR (p.bytes ++ r, 0) = (p, (r, 0)) := by
  have e1 : takes (p.bytes ++ r, 0) 1 = (be 1 (bif p.ours then 1 else 0), (be 8 (bits64 p.id) ++ (be 8 (bits64 p.amount) ++ (p.hash ++ r)), 0)) := by
    rw [PenM.bytes, List.append_assoc, List.append_assoc, List.append_assoc]
    exact takes_app (by rw [length_be]; rfl)
  have e2 : takes (be 8 (bits64 p.id) ++ (be 8 (bits64 p.amount) ++ (p.hash ++ r)), 0) 8 = (be 8 (bits64 p.id), (be 8 (bits64 p.amount) ++ (p.hash ++ r), 0)) := takes_app (by rw [length_be]; rfl)
  have e3 : takes (be 8 (bits64 p.amount) ++ (p.hash ++ r), 0) 8 = (be 8 (bits64 p.amount), (p.hash ++ r, 0)) := takes_app (by rw [length_be]; rfl)
  have e4 : takes (p.hash ++ r, 0) 32 = (p.hash, (r, 0)) := takes_app (by rw [h.hash]; rfl)
  have e0 : (num (be 1 (bif p.ours then 1 else 0)) == 1) = p.ours := by cases p.ours <;> rfl
  simp only [penR, e1, e2, e3, e4, wrap_be h.id, wrap_be h.amount, fill_full h.hash, e0]

theorem pensR_bytes : ∀ (l acc : List PenM) (r : List UInt8), (∀ p ∈ l, p.ok) → pensR l.length (l.flatMap PenM.bytes ++ r, 0) acc = (acc ++ l, (r, 0))
  | [], acc, r, _ => by simp [pensR]
  | p :: l, acc, r, h => by
    rw [List.length_cons, pensR, if_pos rfl, List.flatMap_cons, List.append_assoc, penR_bytes (h p (by simp)), pensR_bytes l _ r (fun q hq => h q (by simp [hq]))]
    simp

theorem comR_text {c : Com} (h : c.Valid) (r : List UInt8) : comR (c.text ++ r) = (c, (r, 0)) := by
  obtain ⟨ow, ix, pt, o, q, l⟩ := c
  have ha := h.arg
  have hp : pt.length = 32 := h.point
  have hl := soundP_length h.sound
  have hs := (soundP_iff _ _ _).1 h.sound
  have hoq : 0 ≤ o ∧ o ≤ 1152921504606846976 ∧ 0 ≤ q ∧ q ≤ 1152921504606846976 := ⟨hs.o0, hs.o1, hs.q0, hs.q1⟩
  have hi : 0 ≤ ow ∧ ow ≤ 1 ∧ 0 ≤ ix ∧ ix ≤ 281474976710655 := by
    unfold argBad maxIndex at ha
    dsimp only at ha
    omega
  simp only at hl
  have e1 : ∀ r, takes (be 1 ow.toNat ++ r, 0) 1 = (be 1 ow.toNat, (r, 0)) := fun r => takes_app (by rw [length_be]; rfl)
  have e2 : ∀ n r, takes (be 8 n ++ r, 0) 8 = (be 8 n, (r, 0)) := fun n r => takes_app (by rw [length_be]; rfl)
  have e3 : ∀ r, takes (pt ++ r, 0) 32 = (pt, (r, 0)) := fun r => takes_app (by rw [hp]; rfl)
  have e4 : ∀ n r, takes (be 2 n ++ r, 0) 2 = (be 2 n, (r, 0)) := fun n r => takes_app (by rw [length_be]; rfl)
  have e5 : ((num (be 1 ow.toNat) : Nat) : Int) = ow := by rw [num_be_lt (by omega)]; omega
  have e6 : num (be 2 l.length) = l.length := num_be2 (by omega)
  simp only [comR, headR, Com.text, textB, List.append_assoc, e1, e2, e3, e4, e5, e6, wrap_be (show I64 ix from ⟨by omega, by omega⟩), wrap_be (show I64 o from ⟨by omega, by omega⟩), wrap_be (show I64 q from ⟨by omega, by omega⟩), fill_full hp, pensR_bytes l [] r h.ok, List.nil_append]

theorem penR_ok (st : List UInt8 × Int) : (penR st).1.ok := by
  have hw : ∀ n : Int, I64 (IntKind.i64.wrap n) := fun n => by
    have := i64_wf.1 (show (Lit.int .i64 (IntKind.i64.wrap n)).wf = true from by exact wf_wrap .i64 n)
    exact this
  exact ⟨hw _, hw _, length_fill (length_takes _)⟩

section
variable {F0 : List AId} {G0 G : Heap} {ps : List LP} {Q : AVal → Heap → Prop}

/-- A reader among other things. -/
theorem rd {id : AId} {st st' : List UInt8 × Int} {out : AVal} {n : FuncId} {args : List AVal} {i : Nat} {K : AVal → Heap → Prop} (hs : Sp F0 G0 ps G) (hi : ps[i]? = some (RdL id st))
    (huse : ∀ {G : Heap} {Q : AVal → Heap → Prop}, Rd id st G → (∀ G', Rd id st' G' → Ch [id] G [id] G' → Q out G') → ACalls P n args G Q)
    (hK : ∀ G', Sp F0 G0 (ps.set i (RdL id st')) G' → K out G') : ACalls P n args G K := by
  refine hs.call hi (RdL id st') fun F h k => ?_
  obtain ⟨h, rfl⟩ := h
  exact huse h fun G' r c => hK _ (k _ _ ⟨r, rfl⟩ c)

theorem RdL.rd {id : AId} {st : List UInt8 × Int} {i : Nat} (h : Sp F0 G0 ps G) (hi : ps[i]? = some (RdL id st)) : Rd id st G := by
  obtain ⟨F, h, _⟩ := h.get hi
  exact h

theorem led_set {i : Nat} {id : AId} {o q : Int} {v w : AVal} (hs : Sp F0 G0 ps G) (hi : ps[i]? = some (RowL id (ledV o q v))) (hv : sz v = 1) (hw : sz w = 1 ∧ w.isAgg = false ∧ okv w = true) {K : Heap → Prop} (hK : ∀ G', Sp F0 G0 (ps.set i (RowL id (ledV o q w))) G' → K G') :
    wg (vstore T G t_sl_api_Pending (.ptr id [2] 2) w) K := by
  refine wg_of (vstore_fld (c := w) (u := v) (RowL.own hs hi) rfl rfl T_sl_api_Pending (by simp [vfits, hw.1, hw.2.1, ti_sl_api_Pending, ADesc.isAgg]) (by rw [hv, hw.1]) hw.2.2) ?_
  exact hK _ (Sp.setRow hs hi _)

theorem led_whole {o q : Int} {w : AVal} (hw : sz w = 1 ∧ w.isAgg = false ∧ okv w = true) : vfits ti_api_Ledger (ledV o q w) = true ∧ sz (ledV o q w) = 3 ∧ okv (ledV o q w) = true := by
  refine ⟨?_, ?_, ?_⟩
  · simp [vfits, ledV, sz, szs, hw.1, ti_api_Ledger, AVal.isAgg, ADesc.isAgg]
  · simp [ledV, sz, szs, hw.1]
  · simp [ledV, okv, okvs, hw.2.2]
theorem led_store {i : Nat} {id : AId} {o q o' q' : Int} {v w : AVal} (hs : Sp F0 G0 ps G) (hi : ps[i]? = some (RowL id (ledV o q v))) (hv : sz v = 1) (hw : sz w = 1 ∧ w.isAgg = false ∧ okv w = true) {K : Heap → Prop} (hK : ∀ G', Sp F0 G0 (ps.set i (RowL id (ledV o' q' w))) G' → K G') :
    wg (vstore T G t_api_Ledger (.ptr id [] 0) (ledV o' q' w)) K := by
  obtain ⟨h1, h2, h3⟩ := led_whole (o := o') (q := q') hw
  refine wg_of (whole_store T_api_Ledger (RowL.own hs hi) h1 (by rw [h2]; simp [ledV, sz, szs, hv]) h3) ?_
  exact hK _ (Sp.setRow hs hi _)
theorem hash_store {i : Nat} {id : AId} {h h' : List UInt8} (hs : Sp F0 G0 ps G) (hi : ps[i]? = some (RowL id (.agg (h.map u8v)))) (hl : h.length = 32) (hl' : h'.length = 32) {K : Heap → Prop} (hK : ∀ G', Sp F0 G0 (ps.set i (RowL id (.agg (h'.map u8v)))) G' → K G') :
    wg (vstore T G t_api_Hash (.ptr id [] 0) (.agg (h'.map u8v))) K := by
  refine wg_of (store_hash hl hl' (RowL.own hs hi)) ?_
  exact hK _ (Sp.setRow hs hi _)
theorem led_load {i : Nat} {id : AId} {o q : Int} {v : AVal} (hs : Sp F0 G0 ps G) (hi : ps[i]? = some (RowL id (ledV o q v))) (hv : sz v = 1 ∧ v.isAgg = false ∧ okv v = true) :
    vload T G t_int64 (.ptr id [0] 0) = some (.int .i64 o) ∧ vload T G t_int64 (.ptr id [1] 1) = some (.int .i64 q) ∧ vload T G t_sl_api_Pending (.ptr id [2] 2) = some v ∧ vload T G t_api_Ledger (.ptr id [] 0) = some (ledV o q v) :=
  led_fld hv.1 hv.2.1 (RowL.own hs hi)

theorem fill4 {pl : Nat → Option (Nat × Nat)} (e0 : pl 0 = some (0, 1)) (e1 : pl 1 = some (1, 1)) (e2 : pl 2 = some (2, 1)) (e3 : pl 3 = some (3, 32)) {b : Bool} {m n : Int} {zh h : AVal} (hz : sz zh = 32) (hh : sz h = 32) :
    fillA pl [.bool false, .int .i64 0, .int .i64 0, zh] [(0, .bool b), (1, .int .i64 m), (2, .int .i64 n), (3, h)] = some [.bool b, .int .i64 m, .int .i64 n, h] := by
  simp [fillA, e0, e1, e2, e3, sz, szs, hh, hz]
theorem build_pen {p : PenM} (h : p.ok) : vbuild T t_api_Pending [(0, .bool p.ours), (1, .int .i64 p.id), (2, .int .i64 p.amount), (3, .agg (p.hash.map u8v))] = some p.av := by
  have h1 : sz (.agg (p.hash.map u8v)) = 32 := by rw [sz, szs_uni (n := 1) (uni_u8 p.hash)]; simp [h.hash]
  obtain ⟨zh, hz, hzh⟩ : ∃ zh, z_api_Pending = .agg [.bool false, .int .i64 0, .int .i64 0, zh] ∧ sz zh = 32 := ⟨_, rfl, rfl⟩
  have hf := fill4 (pl := places T [(t_bool, 0), (t_int64, 1), (t_int64, 2), (t_api_Hash, 3)]) rfl rfl rfl rfl (b := p.ours) (m := p.id) (n := p.amount) hzh h1
  have ha : [(t_bool, 0), (t_int64, 1), (t_int64, 2), (t_api_Hash, 3)].all (fun g => (T g.1).isSome) = true := rfl
  unfold vbuild
  have e1 : ti_api_Pending.desc = .struct [(t_bool, 0), (t_int64, 1), (t_int64, 2), (t_api_Hash, 3)] := rfl
  have e2 : ti_api_Pending.zero = .agg [.bool false, .int .i64 0, .int .i64 0, zh] := hz
  simp only [T_api_Pending, e1, e2, ha, if_true, hf]
  rfl
theorem zLed : z_api_Ledger = ledV 0 0 .nilSlice := rfl
theorem nil_leaf : sz .nilSlice = 1 ∧ AVal.nilSlice.isAgg = false ∧ okv .nilSlice = true := ⟨rfl, rfl, rfl⟩
theorem zh_len : (List.replicate 32 (0 : UInt8)).length = 32 := rfl

end
end Go.Esc.M
