import Derived.Test.YtbckpbdamfhehaaGreatDoorLDa
import Derived.Test.YtbckpbdamfhehaaGreatDoorLCx
/- Own work. Chapter 14: commitments read, in the program. -/
set_option linter.unusedSimpArgs false
set_option linter.unusedVariables false
set_option maxRecDepth 20000
namespace Go.Esc.M
open Go Go.Esc

structure Com where
  owner : Int
  index : Int
  point : List UInt8
  o : Int
  q : Int
  l : List PenM
def Com.text (c : Com) : List UInt8 := textB c.owner c.index c.point c.o c.q c.l
structure Com.Valid (c : Com) : Prop where
  arg : ¬ argBad c.owner c.index
  sound : soundP c.o c.q c.l = true
  point : c.point.length = 32
  ok : ∀ p ∈ c.l, p.ok

section
variable {F0 : List AId} {G0 G : Heap} {ps : List LP} {Q : AVal → Heap → Prop}

/-- A reader among other things. -/
theorem rd {id : AId} {st st' : List UInt8 × Int} {out : AVal} {n : FuncId} {args : List AVal} {i : Nat} {K : AVal → Heap → Prop} (hs : Sp F0 G0 ps G) (hi : ps[i]? = some (RdL id st))
    (huse : ∀ {G : Heap} {Q : AVal → Heap → Prop}, Rd id st G → (∀ G', Rd id st' G' → Ch [id] G [id] G' → Q out G') → ACalls P n args G Q)
    (hK : ∀ G', Sp F0 G0 (ps.set i (RdL id st')) G' → K out G') : ACalls P n args G K := by
  refine hs.call hi (RdL id st') fun F h k => ?_
  obtain ⟨h, rfl⟩ := h
  exact huse h fun G' r c => hK _ (k _ _ ⟨r, rfl⟩ c)

theorem RdL.rd {id : AId} {st : List UInt8 × Int} {i : Nat} (h : Sp F0 G0 ps G) (hi : ps[i]? = some (RdL id st)) : Rd id st G := by
  obtain ⟨F, h, _⟩ := h.get hi
  exact h

theorem led_set {i : Nat} {id : AId} {o q : Int} {v w : AVal} (hs : Sp F0 G0 ps G) (hi : ps[i]? = some (RowL id (ledV o q v))) (hv : sz v = 1) (hw : sz w = 1 ∧ w.isAgg = false ∧ okv w = true) {K : Heap → Prop} (hK : ∀ G', Sp F0 G0 (ps.set i (RowL id (ledV o q w))) G' → K G') :
    wg (vstore T G t_sl_api_Pending (.ptr id [2] 2) w) K := by
  refine wg_of (vstore_fld (c := w) (u := v) (RowL.own hs hi) rfl rfl T_sl_api_Pending (by simp [vfits, hw.1, hw.2.1, ti_sl_api_Pending, ADesc.isAgg]) (by rw [hv, hw.1]) hw.2.2) ?_
  exact hK _ (Sp.setRow hs hi _)

theorem led_whole {o q : Int} {w : AVal} (hw : sz w = 1 ∧ w.isAgg = false ∧ okv w = true) : vfits ti_api_Ledger (ledV o q w) = true ∧ sz (ledV o q w) = 3 ∧ okv (ledV o q w) = true := by
  refine ⟨?_, ?_, ?_⟩
  · simp [vfits, ledV, sz, szs, hw.1, ti_api_Ledger, AVal.isAgg, ADesc.isAgg]
  · simp [ledV, sz, szs, hw.1]
  · simp [ledV, okv, okvs, hw.2.2]
theorem led_store {i : Nat} {id : AId} {o q o' q' : Int} {v w : AVal} (hs : Sp F0 G0 ps G) (hi : ps[i]? = some (RowL id (ledV o q v))) (hv : sz v = 1) (hw : sz w = 1 ∧ w.isAgg = false ∧ okv w = true) {K : Heap → Prop} (hK : ∀ G', Sp F0 G0 (ps.set i (RowL id (ledV o' q' w))) G' → K G') :
    wg (vstore T G t_api_Ledger (.ptr id [] 0) (ledV o' q' w)) K := by
  obtain ⟨h1, h2, h3⟩ := led_whole (o := o') (q := q') hw
  refine wg_of (whole_store T_api_Ledger (RowL.own hs hi) h1 (by rw [h2]; simp [ledV, sz, szs, hv]) h3) ?_
  exact hK _ (Sp.setRow hs hi _)
theorem hash_store {i : Nat} {id : AId} {h h' : List UInt8} (hs : Sp F0 G0 ps G) (hi : ps[i]? = some (RowL id (.agg (h.map u8v)))) (hl : h.length = 32) (hl' : h'.length = 32) {K : Heap → Prop} (hK : ∀ G', Sp F0 G0 (ps.set i (RowL id (.agg (h'.map u8v)))) G' → K G') :
    wg (vstore T G t_api_Hash (.ptr id [] 0) (.agg (h'.map u8v))) K := by
  refine wg_of (store_hash hl hl' (RowL.own hs hi)) ?_
  exact hK _ (Sp.setRow hs hi _)
theorem led_load {i : Nat} {id : AId} {o q : Int} {v : AVal} (hs : Sp F0 G0 ps G) (hi : ps[i]? = some (RowL id (ledV o q v))) (hv : sz v = 1 ∧ v.isAgg = false ∧ okv v = true) :
    vload T G t_int64 (.ptr id [0] 0) = some (.int .i64 o) ∧ vload T G t_int64 (.ptr id [1] 1) = some (.int .i64 q) ∧ vload T G t_sl_api_Pending (.ptr id [2] 2) = some v ∧ vload T G t_api_Ledger (.ptr id [] 0) = some (ledV o q v) :=
  led_fld hv.1 hv.2.1 (RowL.own hs hi)

theorem fill4 {pl : Nat → Option (Nat × Nat)} (e0 : pl 0 = some (0, 1)) (e1 : pl 1 = some (1, 1)) (e2 : pl 2 = some (2, 1)) (e3 : pl 3 = some (3, 32)) {b : Bool} {m n : Int} {zh h : AVal} (hz : sz zh = 32) (hh : sz h = 32) :
    fillA pl [.bool false, .int .i64 0, .int .i64 0, zh] [(0, .bool b), (1, .int .i64 m), (2, .int .i64 n), (3, h)] = some [.bool b, .int .i64 m, .int .i64 n, h] := by
  simp [fillA, e0, e1, e2, e3, sz, szs, hh, hz]
theorem build_pen {p : PenM} (h : p.ok) : vbuild T t_api_Pending [(0, .bool p.ours), (1, .int .i64 p.id), (2, .int .i64 p.amount), (3, .agg (p.hash.map u8v))] = some p.av := by
  have h1 : sz (.agg (p.hash.map u8v)) = 32 := by rw [sz, szs_uni (n := 1) (uni_u8 p.hash)]; simp [h.hash]
  obtain ⟨zh, hz, hzh⟩ : ∃ zh, z_api_Pending = .agg [.bool false, .int .i64 0, .int .i64 0, zh] ∧ sz zh = 32 := ⟨_, rfl, rfl⟩
  have hf := fill4 (pl := places T [(t_bool, 0), (t_int64, 1), (t_int64, 2), (t_api_Hash, 3)]) rfl rfl rfl rfl (b := p.ours) (m := p.id) (n := p.amount) hzh h1
  have ha : [(t_bool, 0), (t_int64, 1), (t_int64, 2), (t_api_Hash, 3)].all (fun g => (T g.1).isSome) = true := rfl
  unfold vbuild
  have e1 : ti_api_Pending.desc = .struct [(t_bool, 0), (t_int64, 1), (t_int64, 2), (t_api_Hash, 3)] := rfl
  have e2 : ti_api_Pending.zero = .agg [.bool false, .int .i64 0, .int .i64 0, zh] := hz
  simp only [T_api_Pending, e1, e2, ha, if_true, hf]
  rfl
theorem zLed : z_api_Ledger = ledV 0 0 .nilSlice := rfl
theorem nil_leaf : sz .nilSlice = 1 ∧ AVal.nilSlice.isAgg = false ∧ okv .nilSlice = true := ⟨rfl, rfl, rfl⟩
end
end Go.Esc.M

/- Own work. Chapter 14: commitments read, in the document. -/
set_option linter.unusedSimpArgs false
set_option linter.unusedVariables false
set_option maxRecDepth 20000
namespace Go.Esc.M
open Go Go.Esc

def slice (b : List UInt8) (at_ n : Nat) : List UInt8 := (b.drop at_).take n
theorem hw64 (n : Int) : I64 (IntKind.i64.wrap n) := i64_wf.1 (wf_wrap .i64 n)
section
variable {F0 : List AId} {G0 G : Heap} {ps : List LP} {Q : AVal → Heap → Prop}

end
end Go.Esc.M

/- Own work. Chapter 14: ledgers compared and turned. -/
set_option linter.unusedSimpArgs false
set_option linter.unusedVariables false
set_option maxRecDepth 20000
namespace Go.Esc
open Go Go.RowKit
section
variable {T : Tbl} {ts e : TypeId} {si ie : TI} (ht : T ts = some si) (hd : si.desc = .slice e) (he : T e = some ie) (hz : sz ie.zero = ie.size)
variable {F0 : List AId} {G0 G : Heap} {ps : List LP} {K : AVal → Heap → Prop}
include ht hd he hz in
theorem buildV2 {a b : AVal} (hs : Sp F0 G0 ps G) (ha : sz a = ie.size) (hb : sz b = ie.size) (hie : 2 * ie.size ≤ 16777216) (hK : ∀ s' G', Sp F0 G0 (OwnL ie.size s' [a, b] :: ps) G' → K s' G') : aBuildSlice T ts 2 [(0, a), (1, b)] G K := by
  unfold aBuildSlice
  have hf : fillA (fun k => some (k * ie.size, ie.size)) (List.replicate 2 ie.zero) [(0, a), (1, b)] = some [a, b] := by simp [fillA, hz, ha, hb, szs, List.replicate]
  simp only [ht, hd, he, hf]
  refine ⟨by omega, fun id hfr => hK _ _ (hs.new (p := OwnL ie.size _ [a, b]) ⟨.inr ⟨id, 2, 2, [a, b], rfl, Heap.upd_self _ _ _, rfl, Nat.le_refl _, by simp [Esc.uni, ha, hb], rfl⟩, rfl⟩ ?_)⟩
  simpa [rowOf] using Ch.new hfr
end
end Go.Esc
namespace Go.Esc.M
open Go Go.Esc

theorem veq_hash {a b : List UInt8} (ha : a.length = 32) (hb : b.length = 32) : veqD T 8 t_api_Hash (.agg (a.map u8v)) (.agg (b.map u8v)) = some (decide (a = b)) := by
  rw [veqD_arr (i := ti_api_Hash) T_api_Hash rfl T_uint8, eqA_u8 (ie := ti_uint8) T_uint8 rfl rfl 6 32 a b ha hb]

/-- A ledger's list, turned so that its entries of the other side stand on this. -/
def turnS (b : Bool) (l : List PenM) : List PenM := (l.filter (fun p => p.ours != b)).map (fun p => { p with ours := b })
def turnL (l : List PenM) : List PenM := turnS true l ++ turnS false l
theorem turnS_take {b : Bool} {l : List PenM} {j : Nat} {p : PenM} (h : l[j]? = some p) : turnS b (l.take (j + 1)) = turnS b (l.take j) ++ (if p.ours = b then [] else [{ p with ours := b }]) := by
  rw [List.take_add_one, h]
  unfold turnS
  rw [List.filter_append, List.map_append]
  congr 1
  cases ho : p.ours <;> cases b <;> simp [ho]
theorem length_turnS (b : Bool) (l : List PenM) : (turnS b l).length ≤ l.length := by
  rw [turnS, List.length_map]; exact List.length_filter_le _ _
theorem turnS_le (b : Bool) (l : List PenM) (j : Nat) : (turnS b (l.take j)).length ≤ (turnS b l).length := by
  rw [turnS, turnS, List.length_map, List.length_map]
  exact ((List.take_sublist j l).filter _).length_le
theorem PenM.ok.side {p : PenM} (h : p.ok) (b : Bool) : ({ p with ours := b } : PenM).ok := ⟨h.id, h.amount, h.hash⟩
theorem turnS_ok {b : Bool} {l : List PenM} (h : ∀ p ∈ l, p.ok) : ∀ p ∈ turnS b l, p.ok := by
  intro p hp
  rw [turnS] at hp
  obtain ⟨q, hq, rfl⟩ := List.mem_map.1 hp
  exact (h q (List.mem_filter.1 hq).1).side b
theorem turnL_ok {l : List PenM} (h : ∀ p ∈ l, p.ok) : ∀ p ∈ turnL l, p.ok := by
  intro p hp
  rcases List.mem_append.1 hp with hp | hp
  · exact turnS_ok h p hp
  · exact turnS_ok h p hp
theorem length_turnL (l : List PenM) : (turnL l).length = l.length := by
  induction l with
  | nil => rfl
  | cons p l ih =>
    have : ∀ b, (turnS b (p :: l)).length = (turnS b l).length + (if p.ours = b then 0 else 1) := by
      intro b
      unfold turnS
      cases ho : p.ours <;> cases b <;> simp [ho]
    rw [turnL, List.length_append] at ih ⊢
    rw [this, this, List.length_cons]
    cases ho : p.ours <;> simp [ho] <;> omega

section
variable {F0 : List AId} {G0 G : Heap} {ps : List LP} {Q : AVal → Heap → Prop}

theorem pen_side {i : Nat} {id : AId} {p : PenM} (hs : Sp F0 G0 ps G) (hi : ps[i]? = some (RowL id p.av)) (b : Bool) {K : Heap → Prop} (hK : ∀ G', Sp F0 G0 (ps.set i (RowL id ({ p with ours := b } : PenM).av)) G' → K G') : wg (vstore T G t_bool (.ptr id [0] 0) (.bool b)) K := by
  refine wg_of (vstore_fld (c := .bool b) (u := .bool p.ours) (RowL.own hs hi) rfl rfl T_bool rfl rfl rfl) ?_
  exact hK _ (Sp.setRow hs hi _)

set_option maxHeartbeats 2000000 in
theorem commit_Turn.use {o q : Int} {v : AVal} {l : List PenM} (hl : IsSl 35 G v (l.map PenM.av)) (hok : ∀ p ∈ l, p.ok) (hlen : l.length * 56 ≤ 220000000000000) (hQ : ∀ s G', Sp [] G [OwnL 35 s ((turnL l).map PenM.av)] G' → Q (ledV q o s) G') :
    ACalls P commit_Turn.n [ledV o q v] G Q := by
  have hv := sl_leaf hl
  refine commit_Turn.sound ?_
  unfold commit_Turn.S
  rw [zLed]
  intro i1 f1
  have s1 := (Sp.nil G).row f1 (ledV o q v)
  intro i3 f3
  have s3 := s1.row f3 (ledV 0 0 .nilSlice)
  refine wv_of (led_load (i := 1) s3 rfl hv).2.1 ?_
  refine wv_of (led_load (i := 1) s3 rfl hv).1 ?_
  refine wv_of (v := ledV q o .nilSlice) rfl ?_
  intro i8 f8
  have s8 := s3.row f8 (ledV 0 0 .nilSlice)
  refine led_store (i := 0) s8 rfl rfl nil_leaf fun G10 s10 => ?_
  refine buildV2 (T := T) (ts := t_sl_bool) (e := t_bool) (si := ti_sl_bool) (ie := ti_bool) T_sl_bool rfl T_bool rfl s10 rfl rfl (by decide) fun v11 G12 s12 => ?_
  have s12 : Sp [] G [OwnL 1 v11 [.bool true, .bool false], RowL i8 (ledV q o .nilSlice), RowL i3 (ledV 0 0 .nilSlice), RowL i1 (ledV o q v)] G12 := s12
  have bl : ∀ {G' : Heap}, Own 1 G' v11 [.bool true, .bool false] → vlen T G' t_sl_bool v11 = some (.int .i64 2) := fun h => h.is.len (i := ti_sl_bool) T_sl_bool rfl
  refine wv_of (bl (OwnL.own (i := 0) s12 rfl)) ?_
  have s12 := s12.nilL 35
  have ln : ∀ {G' : Heap}, Ch [] G [] G' → vlen T G' t_sl_api_Pending v = some (.int .i64 (l.length : Nat)) := fun c => by
    rw [(hl.ch' c).len (i := ti_sl_api_Pending) T_sl_api_Pending rfl, List.length_map]
  intro R14 hR14
  have inner : ∀ (side : Bool) (acc : List PenM) (y : Int) (G' : Heap) (s : AVal), acc.length + (turnS side l).length ≤ l.length →
      Sp [] G [OwnL 35 s (acc.map PenM.av), OwnL 1 v11 [.bool true, .bool false], RowL i8 (ledV q o s), RowL i3 (ledV 0 0 .nilSlice), RowL i1 (ledV o q v)] G' →
      (∀ (G' : Heap) (s : AVal), Sp [] G [OwnL 35 s ((acc ++ turnS side l).map PenM.av), OwnL 1 v11 [.bool true, .bool false], RowL i8 (ledV q o s), RowL i3 (ledV 0 0 .nilSlice), RowL i1 (ledV o q v)] G' → R14 [.ptr i1 [] 0, .ptr i3 [] 0, .ptr i8 [] 0, v11, .int .i64 2, .int .i64 (IntKind.i64.wrap (y + 1))] G') →
      wv (some (.bool side)) fun v24 => wv (vfaddr T t_api_Ledger (.ptr i1 [] 0) 2) fun v25 => wv (vload T G' t_sl_api_Pending v25) fun v26 => wv (vlen T G' t_sl_api_Pending v26) fun v27 => ∀ R28 : List AVal → Heap → Prop,
  (∀ (x30 x31 x32 x33 x34 x35 x36 x37 x38 x39 : AVal) (G29 : Heap), (wv (vbin T .lss t_int x39 x38) fun v40 => brB (some v40)
  (wv (viaddr T t_sl_api_Pending x37 x39) fun v41 => wv (vload T G29 t_api_Pending v41) fun v42 => aNew G29 (.own (z_api_Pending)) fun i43 G44 => wg (vstore T G44 t_api_Pending (.ptr i43 [] 0) v42) fun G45 => wv (vload T G45 t_bool (.ptr i43 [0] 0)) fun v46 => wv (vbin T .neq t_bool v46 x33) fun v47 => brB (some v47)
  (wg (vstore T G45 t_bool (.ptr i43 [0] 0) x33) fun G48 => wv (vfaddr T t_api_Ledger x32 2) fun v49 => wv (vload T G48 t_sl_api_Pending v49) fun v50 => wv (vload T G48 t_api_Pending (.ptr i43 [] 0)) fun v51 => aBuildSlice T t_sl_api_Pending 1 [(0, v51)] G48 fun v52 G53 => aAppend T G53 t_sl_api_Pending t_sl_api_Pending v50 v52 fun v54 G55 => wv (vfaddr T t_api_Ledger x32 2) fun v56 => wg (vstore T G55 t_sl_api_Pending v56 v54) fun G57 => wv (vbin T .add t_int x39 (.int .i64 1)) fun v61 => R28 [x30, x31, x32, x33, x34, x35, x36, x37, x38, v61] G57)
  (wv (vbin T .add t_int x39 (.int .i64 1)) fun v62 => R28 [x30, x31, x32, x33, x34, x35, x36, x37, x38, v62] G45))
  (wv (vbin T .add t_int x36 (.int .i64 1)) fun v63 => R14 [x30, x31, x32, x34, x35, v63] G29)) → R28 [x30, x31, x32, x33, x34, x35, x36, x37, x38, x39] G29) →
  R28 [.ptr i1 [] 0, .ptr i3 [] 0, .ptr i8 [] 0, v24, v11, .int .i64 2, .int .i64 y, v26, v27, .int .i64 0] G' := by
    intro side acc y G' s hacc hs hnext
    rw [wv_some]
    show wv (vload T G' t_sl_api_Pending (.ptr i1 [2] 2)) _
    refine wv_of (led_load (i := 4) hs rfl hv).2.2.1 ?_
    refine wv_of (ln hs.ch) ?_
    intro R28 hR28
    have lp : ∀ (n x : Nat) (s : AVal) (G' : Heap), l.length - x = n → x ≤ l.length → Sp [] G [OwnL 35 s ((acc ++ turnS side (l.take x)).map PenM.av), OwnL 1 v11 [.bool true, .bool false], RowL i8 (ledV q o s), RowL i3 (ledV 0 0 .nilSlice), RowL i1 (ledV o q v)] G' →
        R28 [.ptr i1 [] 0, .ptr i3 [] 0, .ptr i8 [] 0, .bool side, v11, .int .i64 2, .int .i64 y, v, .int .i64 (l.length : Nat), .int .i64 (x : Int)] G' := by
      intro n
      induction n with
      | zero =>
        intro x s G' hn hx hs
        have : x = l.length := by omega
        subst this
        rw [List.take_length] at hs
        refine hR28 _ _ _ _ _ _ _ _ _ _ _ ?_
        rw [vbin_lss, wv_some, brB_dec]
        refine ⟨fun h => absurd h (by omega), fun _ => ?_⟩
        rw [vbin_add, wv_some]
        exact hnext _ _ hs
      | succ n ih =>
        intro x s G' hn hx hs
        obtain ⟨p, hp⟩ : ∃ p, l[x]? = some p := ⟨_, List.getElem?_eq_getElem (by omega)⟩
        have hpo := hok p (List.mem_of_getElem? hp)
        obtain ⟨a, ha, hla⟩ := pen_at (hl.ch' hs.ch) hp
        have htt := turnS_take (b := side) hp
        refine hR28 _ _ _ _ _ _ _ _ _ _ _ ?_
        rw [vbin_lss, wv_some, brB_dec]
        refine ⟨fun _ => ?_, fun h => absurd (by omega) h⟩
        rw [ha, wv_some, hla, wv_some]
        refine newVal hs T_api_Pending (PenM.fits hpo) (by rw [PenM.sz hpo]; rfl) (PenM.okv p) fun i43 G45 s45 => ?_
        refine wv_of (PenM.fld hpo (RowL.own (i := 0) s45 rfl)).1 ?_
        rw [vbin_bneq T_bool rfl, wv_some, brB_bool]
        refine ⟨fun h => ?_, fun h => ?_⟩
        · have hne : p.ours ≠ side := by simpa using h
          rw [if_neg hne] at htt
          refine pen_side (i := 0) s45 rfl side fun G48 s48 => ?_
          have hpo2 := hpo.side side
          have ho0 := OwnL.own (i := 1) s48 rfl
          show wv (vload T G48 t_sl_api_Pending (.ptr i8 [2] 2)) _
          refine wv_of (led_load (i := 3) s48 rfl ho0.leaf).2.2.1 ?_
          refine wv_of (whole_load T_api_Pending (RowL.own (i := 0) s48 rfl) (PenM.fits hpo2)) ?_
          refine growV (T := T) (ts := t_sl_api_Pending) (e := t_api_Pending) (si := ti_sl_api_Pending) (ie := ti_api_Pending) (i := 1) T_sl_api_Pending rfl T_api_Pending rfl (by decide) s48 rfl (PenM.sz hpo2) (PenM.okv _) (by decide) ?_ fun s57 G58 s58 => ?_
          · have : ti_api_Pending.bytes = 56 := rfl
            have h2 := turnS_le side l (x + 1)
            rw [htt, List.length_append, List.length_singleton] at h2
            rw [List.length_map, this, List.length_append]
            omega
          show wg (vstore T G58 t_sl_api_Pending (.ptr i8 [2] 2) s57) _
          refine led_set (i := 3) s58 rfl ho0.leaf.1 (OwnL.own (i := 1) s58 rfl).leaf fun G60 s60 => ?_
          rw [vbin_add, wv_some, i64_in (by omega) (by omega)]
          refine ih (x + 1) s57 G60 (by omega) (by omega) ?_
          rw [htt, ← List.append_assoc, List.map_append]
          exact s60.erase 0
        · have hne : p.ours = side := by simpa using h
          rw [if_pos hne, List.append_nil] at htt
          rw [vbin_add, wv_some, i64_in (by omega) (by omega)]
          refine ih (x + 1) s G45 (by omega) (by omega) ?_
          rw [htt]
          exact s45.erase 0
    refine lp _ 0 s G' rfl (by omega) ?_
    simpa [turnS] using hs
  have at_ : ∀ {G' : Heap} {j : Nat} {b : Bool}, Own 1 G' v11 [.bool true, .bool false] → [AVal.bool true, .bool false][j]? = some (.bool b) → ∃ a, viaddr T t_sl_bool v11 (.int .i64 (j : Nat)) = some a ∧ vload T G' t_bool a = some (.bool b) := fun h hj =>
    h.is.at_ (k := .i64) (i := ti_sl_bool) (ie := ti_bool) (T := T) (t := t_sl_bool) (e := t_bool) T_sl_bool rfl T_bool hj rfl
  refine hR14 _ _ _ _ _ _ _ ?_
  rw [vbin_lss, wv_some, brB_dec]
  refine ⟨fun _ => ?_, fun h => absurd (by decide) h⟩
  obtain ⟨a, ha, hla⟩ := at_ (j := 0) (OwnL.own (i := 1) s12 rfl) rfl
  refine wv_of ha ?_
  rw [hla]
  refine inner true [] 0 G12 .nilSlice (by simpa using length_turnS true l) s12 fun G' s hs => ?_
  refine hR14 _ _ _ _ _ _ _ ?_
  rw [vbin_lss, wv_some, brB_dec]
  refine ⟨fun _ => ?_, fun h => absurd (by decide) h⟩
  obtain ⟨a, ha, hla⟩ := at_ (j := 1) (OwnL.own (i := 1) hs rfl) rfl
  refine wv_of ha ?_
  rw [hla]
  refine inner false ([] ++ turnS true l) (IntKind.i64.wrap (0 + 1)) G' s (by have := length_turnL l; rw [turnL, List.length_append] at this; simp; omega) hs fun G' s hs => ?_
  refine hR14 _ _ _ _ _ _ _ ?_
  rw [vbin_lss, wv_some, brB_dec]
  refine ⟨fun h => absurd h (by decide), fun _ => ?_⟩
  have ho0 := OwnL.own (i := 0) hs rfl
  refine wv_of (led_load (i := 2) hs rfl ho0.leaf).2.2.2 ?_
  refine led_store (i := 3) hs rfl rfl ho0.leaf fun G65 s65 => ?_
  refine wv_of (led_load (i := 3) s65 rfl ho0.leaf).2.2.2 ?_
  exact hQ s _ ((((s65.erase 1).erase 1).erase 1).erase 1)

end
end Go.Esc.M

/- Own work. Chapter 14: the document's example. -/
set_option linter.unusedSimpArgs false
set_option linter.unusedVariables false
set_option maxRecDepth 20000
namespace Go.Esc.M
open Go Go.Esc

def z32 : List UInt8 := List.replicate 32 0
def p1 : PenM := ⟨true, 3, 9, z32⟩
def h7 : List UInt8 := 7 :: List.replicate 31 0
def c1 : Com := ⟨1, 5, h7, 10, 20, [p1]⟩
theorem idx {l : List UInt8} {j : Nat} {b : UInt8} (h : l[j]? = some b) : vindex T t_string (.str l) (.int .i64 (j : Nat)) = some (.int .u8 (b.toNat : Nat)) := by
  obtain ⟨hj, rfl⟩ := List.getElem?_eq_some_iff.1 h
  exact vindex_str hj

theorem build_led {o q : Int} {v : AVal} (hv : sz v = 1) : vbuild T t_api_Ledger [(0, .int .i64 o), (1, .int .i64 q), (2, v)] = some (ledV o q v) := by
  have hf : ∀ pl : Nat → Option (Nat × Nat), pl 0 = some (0, 1) → pl 1 = some (1, 1) → pl 2 = some (2, 1) → fillA pl [.int .i64 0, .int .i64 0, .nilSlice] [(0, .int .i64 o), (1, .int .i64 q), (2, v)] = some [.int .i64 o, .int .i64 q, v] := by
    intro pl e0 e1 e2
    simp [fillA, e0, e1, e2, sz, szs, hv]
  have ha : [(t_int64, 0), (t_int64, 1), (t_sl_api_Pending, 2)].all (fun g => (T g.1).isSome) = true := rfl
  have hf := hf (places T [(t_int64, 0), (t_int64, 1), (t_sl_api_Pending, 2)]) rfl rfl rfl
  unfold vbuild
  have e1 : ti_api_Ledger.desc = .struct [(t_int64, 0), (t_int64, 1), (t_sl_api_Pending, 2)] := rfl
  have e2 : ti_api_Ledger.zero = .agg [.int .i64 0, .int .i64 0, .nilSlice] := rfl
  simp only [T_api_Ledger, e1, e2, ha, if_true, hf]
  rfl

section
variable {F0 : List AId} {G0 G : Heap} {ps : List LP} {Q : AVal → Heap → Prop}

end
end Go.Esc.M

/- Own work. Chapter 14: CommitTexts. -/
set_option linter.unusedSimpArgs false
set_option linter.unusedVariables false
set_option maxRecDepth 20000
namespace Go.Esc.M
open Go Go.Esc

def mark : PenM := ⟨false, -77, 0, z32⟩
/-- A list with a value behind it, in the spare room. -/
structure Lent (w v : AVal) (l : List PenM) : Prop where
  own : ∀ {G : Heap}, Own 35 G v ((l ++ [mark]).map PenM.av) → Own 35 G w (l.map PenM.av)
  back : vslice T t_sl_api_Pending w none (some (.int .i64 ((l.length + 1 : Nat) : Int))) none = some v

section
variable {F0 : List AId} {G0 G : Heap} {ps : List LP} {Q : AVal → Heap → Prop}

end

end Go.Esc.M
