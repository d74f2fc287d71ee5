/- Own work. Chapter 14: commitments read, in the program. -/
import Derived.Test.YtdbkngfdaeminaaLDa
import Derived.Test.YtdbkngfdaeminaaLCx
import Derived.Test.YtdbkngfdaeminaaLBe
import Derived.Test.YtdbkngfdaeminaaLBe
set_option linter.unusedSimpArgs false
set_option linter.unusedVariables false
set_option maxRecDepth 20000
namespace Go.Esc.M
open Go Go.Esc

structure Com where
  owner : Int
  index : Int
  point : List UInt8
  o : Int
  q : Int
  l : List PenM
def Com.text (c : Com) : List UInt8 := textB c.owner c.index c.point c.o c.q c.l
structure Com.Valid (c : Com) : Prop where
  arg : ¬ argBad c.owner c.index
  sound : soundP c.o c.q c.l = true
  point : c.point.length = 32
  ok : ∀ p ∈ c.l, p.ok

def penR (st : List UInt8 × Int) : PenM × (List UInt8 × Int) :=
  (⟨num (takes st 1).1 == 1, IntKind.i64.wrap (num (takes (takes st 1).2 8).1 : Nat), IntKind.i64.wrap (num (takes (takes (takes st 1).2 8).2 8).1 : Nat), fill 32 (takes (takes (takes (takes st 1).2 8).2 8).2 32).1⟩, (takes (takes (takes (takes st 1).2 8).2 8).2 32).2)
def pensR : Nat → List UInt8 × Int → List PenM → List PenM × (List UInt8 × Int)
  | 0, st, l => (l, st)
  | n + 1, st, l => if st.2 = 0 then pensR n (penR st).2 (l ++ [(penR st).1]) else (l, st)
def headR (b : List UInt8) : (Int × Int × List UInt8 × Int × Int × Nat) × (List UInt8 × Int) :=
  let a := takes (b, 0) 1
  let c := takes a.2 8
  let d := takes c.2 32
  let e := takes d.2 8
  let f := takes e.2 8
  let g := takes f.2 2
  ((num a.1, IntKind.i64.wrap (num c.1 : Nat), fill 32 d.1, IntKind.i64.wrap (num e.1 : Nat), IntKind.i64.wrap (num f.1 : Nat), num g.1), g.2)
def comR (b : List UInt8) : Com × (List UInt8 × Int) :=
  let h := headR b
  let p := pensR h.1.2.2.2.2.2 h.2 []
  (⟨h.1.1, h.1.2.1, h.1.2.2.1, h.1.2.2.2.1, h.1.2.2.2.2.1, p.1⟩, p.2)

theorem wrap_be {n : Int} (h : I64 n) : IntKind.i64.wrap (num (be 8 (bits64 n)) : Nat) = n := by
  rw [num_be_lt (bits64_lt n), wrap_bits64' h]

theorem penR_bytes {p : PenM} (h : p.ok) (r : List UInt8) : penR (p.bytes ++ r, 0) = (p, (r, 0)) := by
  have e1 : takes (p.bytes ++ r, 0) 1 = (be 1 (bif p.ours then 1 else 0), (be 8 (bits64 p.id) ++ (be 8 (bits64 p.amount) ++ (p.hash ++ r)), 0)) := by
    rw [PenM.bytes, List.append_assoc, List.append_assoc, List.append_assoc]
    exact takes_app (by rw [length_be]; rfl)
  have e2 : takes (be 8 (bits64 p.id) ++ (be 8 (bits64 p.amount) ++ (p.hash ++ r)), 0) 8 = (be 8 (bits64 p.id), (be 8 (bits64 p.amount) ++ (p.hash ++ r), 0)) := takes_app (by rw [length_be]; rfl)
  have e3 : takes (be 8 (bits64 p.amount) ++ (p.hash ++ r), 0) 8 = (be 8 (bits64 p.amount), (p.hash ++ r, 0)) := takes_app (by rw [length_be]; rfl)
  have e4 : takes (p.hash ++ r, 0) 32 = (p.hash, (r, 0)) := takes_app (by rw [h.hash]; rfl)
  have e0 : (num (be 1 (bif p.ours then 1 else 0)) == 1) = p.ours := by cases p.ours <;> rfl
  simp only [penR, e1, e2, e3, e4, wrap_be h.id, wrap_be h.amount, fill_full h.hash, e0]

theorem pensR_bytes : ∀ (l acc : List PenM) (r : List UInt8), (∀ p ∈ l, p.ok) → pensR l.length (l.flatMap PenM.bytes ++ r, 0) acc = (acc ++ l, (r, 0))
  | [], acc, r, _ => by simp [pensR]
  | p :: l, acc, r, h => by
    rw [List.length_cons, pensR, if_pos rfl, List.flatMap_cons, List.append_assoc, penR_bytes (h p (by simp)), pensR_bytes l _ r (fun q hq => h q (by simp [hq]))]
    simp

theorem comR_text {c : Com} (h : c.Valid) (r : List UInt8) : comR (c.text ++ r) = (c, (r, 0)) := by
  obtain ⟨ow, ix, pt, o, q, l⟩ := c
  have ha := h.arg
  have hp : pt.length = 32 := h.point
  have hl := soundP_length h.sound
  have hs := (soundP_iff _ _ _).1 h.sound
  have hoq : 0 ≤ o ∧ o ≤ 1152921504606846976 ∧ 0 ≤ q ∧ q ≤ 1152921504606846976 := ⟨hs.o0, hs.o1, hs.q0, hs.q1⟩
  have hi : 0 ≤ ow ∧ ow ≤ 1 ∧ 0 ≤ ix ∧ ix ≤ 281474976710655 := by
    unfold argBad maxIndex at ha
    dsimp only at ha
    omega
  simp only at hl
  have e1 : ∀ r, takes (be 1 ow.toNat ++ r, 0) 1 = (be 1 ow.toNat, (r, 0)) := fun r => takes_app (by rw [length_be]; rfl)
  have e2 : ∀ n r, takes (be 8 n ++ r, 0) 8 = (be 8 n, (r, 0)) := fun n r => takes_app (by rw [length_be]; rfl)
  have e3 : ∀ r, takes (pt ++ r, 0) 32 = (pt, (r, 0)) := fun r => takes_app (by rw [hp]; rfl)
  have e4 : ∀ n r, takes (be 2 n ++ r, 0) 2 = (be 2 n, (r, 0)) := fun n r => takes_app (by rw [length_be]; rfl)
  have e5 : ((num (be 1 ow.toNat) : Nat) : Int) = ow := by rw [num_be_lt (by omega)]; omega
  have e6 : num (be 2 l.length) = l.length := num_be2 (by omega)
  simp only [comR, headR, Com.text, textB, List.append_assoc, e1, e2, e3, e4, e5, e6, wrap_be (show I64 ix from ⟨by omega, by omega⟩), wrap_be (show I64 o from ⟨by omega, by omega⟩), wrap_be (show I64 q from ⟨by omega, by omega⟩), fill_full hp, pensR_bytes l [] r h.ok, List.nil_append]

theorem penR_ok (st : List UInt8 × Int) : (penR st).1.ok := by
  have hw : ∀ n : Int, I64 (IntKind.i64.wrap n) := fun n => by
    have := i64_wf.1 (show (Lit.int .i64 (IntKind.i64.wrap n)).wf = true from by exact wf_wrap .i64 n)
    exact this
  exact ⟨hw _, hw _, length_fill (length_takes _)⟩

section
variable {F0 : List AId} {G0 G : Heap} {ps : List LP} {Q : AVal → Heap → Prop}

/-- A reader among other things. -/
theorem rd {id : AId} {st st' : List UInt8 × Int} {out : AVal} {n : FuncId} {args : List AVal} {i : Nat} {K : AVal → Heap → Prop} (hs : Sp F0 G0 ps G) (hi : ps[i]? = some (RdL id st))
    (huse : ∀ {G : Heap} {Q : AVal → Heap → Prop}, Rd id st G → (∀ G', Rd id st' G' → Ch [id] G [id] G' → Q out G') → ACalls P n args G Q)
    (hK : ∀ G', Sp F0 G0 (ps.set i (RdL id st')) G' → K out G') : ACalls P n args G K := by
  refine hs.call hi (RdL id st') fun F h k => ?_
  obtain ⟨h, rfl⟩ := h
  exact huse h fun G' r c => hK _ (k _ _ ⟨r, rfl⟩ c)

theorem RdL.rd {id : AId} {st : List UInt8 × Int} {i : Nat} (h : Sp F0 G0 ps G) (hi : ps[i]? = some (RdL id st)) : Rd id st G := by
  obtain ⟨F, h, _⟩ := h.get hi
  exact h

theorem led_set {i : Nat} {id : AId} {o q : Int} {v w : AVal} (hs : Sp F0 G0 ps G) (hi : ps[i]? = some (RowL id (ledV o q v))) (hv : sz v = 1) (hw : sz w = 1 ∧ w.isAgg = false ∧ okv w = true) {K : Heap → Prop} (hK : ∀ G', Sp F0 G0 (ps.set i (RowL id (ledV o q w))) G' → K G') :
    wg (vstore T G t_sl_api_Pending (.ptr id [2] 2) w) K := by
  refine wg_of (vstore_fld (c := w) (u := v) (RowL.own hs hi) rfl rfl T_sl_api_Pending (by simp [vfits, hw.1, hw.2.1, ti_sl_api_Pending, ADesc.isAgg]) (by rw [hv, hw.1]) hw.2.2) ?_
  exact hK _ (Sp.setRow hs hi _)

theorem led_whole {o q : Int} {w : AVal} (hw : sz w = 1 ∧ w.isAgg = false ∧ okv w = true) : vfits ti_api_Ledger (ledV o q w) = true ∧ sz (ledV o q w) = 3 ∧ okv (ledV o q w) = true := by
  refine ⟨?_, ?_, ?_⟩
  · simp [vfits, ledV, sz, szs, hw.1, ti_api_Ledger, AVal.isAgg, ADesc.isAgg]
  · simp [ledV, sz, szs, hw.1]
  · simp [ledV, okv, okvs, hw.2.2]
theorem led_store {i : Nat} {id : AId} {o q o' q' : Int} {v w : AVal} (hs : Sp F0 G0 ps G) (hi : ps[i]? = some (RowL id (ledV o q v))) (hv : sz v = 1) (hw : sz w = 1 ∧ w.isAgg = false ∧ okv w = true) {K : Heap → Prop} (hK : ∀ G', Sp F0 G0 (ps.set i (RowL id (ledV o' q' w))) G' → K G') :
    wg (vstore T G t_api_Ledger (.ptr id [] 0) (ledV o' q' w)) K := by
  obtain ⟨h1, h2, h3⟩ := led_whole (o := o') (q := q') hw
  refine wg_of (whole_store T_api_Ledger (RowL.own hs hi) h1 (by rw [h2]; simp [ledV, sz, szs, hv]) h3) ?_
  exact hK _ (Sp.setRow hs hi _)
theorem hash_store {i : Nat} {id : AId} {h h' : List UInt8} (hs : Sp F0 G0 ps G) (hi : ps[i]? = some (RowL id (.agg (h.map u8v)))) (hl : h.length = 32) (hl' : h'.length = 32) {K : Heap → Prop} (hK : ∀ G', Sp F0 G0 (ps.set i (RowL id (.agg (h'.map u8v)))) G' → K G') :
    wg (vstore T G t_api_Hash (.ptr id [] 0) (.agg (h'.map u8v))) K := by
  refine wg_of (store_hash hl hl' (RowL.own hs hi)) ?_
  exact hK _ (Sp.setRow hs hi _)
theorem led_load {i : Nat} {id : AId} {o q : Int} {v : AVal} (hs : Sp F0 G0 ps G) (hi : ps[i]? = some (RowL id (ledV o q v))) (hv : sz v = 1 ∧ v.isAgg = false ∧ okv v = true) :
    vload T G t_int64 (.ptr id [0] 0) = some (.int .i64 o) ∧ vload T G t_int64 (.ptr id [1] 1) = some (.int .i64 q) ∧ vload T G t_sl_api_Pending (.ptr id [2] 2) = some v ∧ vload T G t_api_Ledger (.ptr id [] 0) = some (ledV o q v) :=
  led_fld hv.1 hv.2.1 (RowL.own hs hi)

theorem fill4 {pl : Nat → Option (Nat × Nat)} (e0 : pl 0 = some (0, 1)) (e1 : pl 1 = some (1, 1)) (e2 : pl 2 = some (2, 1)) (e3 : pl 3 = some (3, 32)) {b : Bool} {m n : Int} {zh h : AVal} (hz : sz zh = 32) (hh : sz h = 32) :
    fillA pl [.bool false, .int .i64 0, .int .i64 0, zh] [(0, .bool b), (1, .int .i64 m), (2, .int .i64 n), (3, h)] = some [.bool b, .int .i64 m, .int .i64 n, h] := by
  simp [fillA, e0, e1, e2, e3, sz, szs, hh, hz]
theorem build_pen {p : PenM} (h : p.ok) : vbuild T t_api_Pending [(0, .bool p.ours), (1, .int .i64 p.id), (2, .int .i64 p.amount), (3, .agg (p.hash.map u8v))] = some p.av := by
  have h1 : sz (.agg (p.hash.map u8v)) = 32 := by rw [sz, szs_uni (n := 1) (uni_u8 p.hash)]; simp [h.hash]
  obtain ⟨zh, hz, hzh⟩ : ∃ zh, z_api_Pending = .agg [.bool false, .int .i64 0, .int .i64 0, zh] ∧ sz zh = 32 := ⟨_, rfl, rfl⟩
  have hf := fill4 (pl := places T [(t_bool, 0), (t_int64, 1), (t_int64, 2), (t_api_Hash, 3)]) rfl rfl rfl rfl (b := p.ours) (m := p.id) (n := p.amount) hzh h1
  have ha : [(t_bool, 0), (t_int64, 1), (t_int64, 2), (t_api_Hash, 3)].all (fun g => (T g.1).isSome) = true := rfl
  unfold vbuild
  have e1 : ti_api_Pending.desc = .struct [(t_bool, 0), (t_int64, 1), (t_int64, 2), (t_api_Hash, 3)] := rfl
  have e2 : ti_api_Pending.zero = .agg [.bool false, .int .i64 0, .int .i64 0, zh] := hz
  simp only [T_api_Pending, e1, e2, ha, if_true, hf]
  rfl
theorem zLed : z_api_Ledger = ledV 0 0 .nilSlice := rfl
theorem nil_leaf : sz .nilSlice = 1 ∧ AVal.nilSlice.isAgg = false ∧ okv .nilSlice = true := ⟨rfl, rfl, rfl⟩
theorem zh_len : (List.replicate 32 (0 : UInt8)).length = 32 := rfl

set_option maxHeartbeats 2000000 in
theorem commit_Read.use {b : List UInt8}
    (hok : ∀ c : Com, c.Valid → b = c.text → ∀ v G', Sp [] G [OwnL 35 v (c.l.map PenM.av)] G' → Q (.tuple [.int .i64 c.owner, .int .i64 c.index, .agg (c.point.map u8v), ledV c.o c.q v, .int .i64 0]) G')
    (hno : (∀ c : Com, c.Valid → b ≠ c.text) → ∀ G', Ch [] G [] G' → Q (.tuple [.int .i64 0, .int .i64 0, .agg ((List.replicate 32 (0 : UInt8)).map u8v), ledV 0 0 .nilSlice, .int .i64 4]) G') :
    ACalls P commit_Read.n [.str b] G Q := by
  refine commit_Read.sound ?_
  unfold commit_Read.S
  rw [z_hash, zLed]
  intro i1 f1
  have s1 := (Sp.nil G).row f1 (.agg ((List.replicate 32 (0 : UInt8)).map u8v))
  intro i3 f3
  have s3 := s1.row f3 (ledV 0 0 .nilSlice)
  refine cursor_Open.use fun ir G6 r6 c6 => ?_
  have s6 := s3.new (p := RdL ir (b, 0)) ⟨r6, rfl⟩ c6
  obtain ⟨st1, hst1⟩ : ∃ s, s = (takes (b, 0) 1) := ⟨_, rfl⟩
  obtain ⟨st2, hst2⟩ : ∃ s, s = takes st1.2 8 := ⟨_, rfl⟩
  obtain ⟨st3, hst3⟩ : ∃ s, s = takes st2.2 32 := ⟨_, rfl⟩
  obtain ⟨st4, hst4⟩ : ∃ s, s = takes st3.2 8 := ⟨_, rfl⟩
  obtain ⟨st5, hst5⟩ : ∃ s, s = takes st4.2 8 := ⟨_, rfl⟩
  obtain ⟨st6, hst6⟩ : ∃ s, s = takes st5.2 2 := ⟨_, rfl⟩
  have hhead : headR b = ((((num st1.1 : Nat) : Int), IntKind.i64.wrap (num st2.1 : Nat), fill 32 st3.1, IntKind.i64.wrap (num st4.1 : Nat), IntKind.i64.wrap (num st5.1 : Nat), num st6.1), st6.2) := by
    subst hst6 hst5 hst4 hst3 hst2 hst1
    rfl
  have hn1 : num st1.1 < 256 := num_lt_of (k := 1) (by rw [hst1]; exact length_takes _)
  have hn6 : num st6.1 < 65536 := num_lt_of (k := 2) (by rw [hst6]; exact length_takes _)
  have hh3 : (fill 32 st3.1).length = 32 := length_fill (by rw [hst3]; exact length_takes _)
  refine rd (i := 0) s6 rfl (fun h k => cursor_Reader_U8.use h k) fun G8 s8 => ?_
  rw [← hst1] at s8 ⊢
  rw [vconv_int T_uint8 T_int rfl, wv_some, i64_in (by omega) (by omega)]
  refine rd (i := 0) s8 rfl (fun h k => cursor_Reader_I64.use h k) fun G11 s11 => ?_
  rw [← hst2] at s11 ⊢
  refine rd (i := 0) s11 rfl (fun h k => cursor_Reader_Hash.use h k) fun G13 s13 => ?_
  rw [← hst3] at s13 ⊢
  intro i14 f14
  have s14 := s13.row f14 (.agg ((List.replicate 32 (0 : UInt8)).map u8v))
  refine hash_store (i := 0) s14 rfl zh_len hh3 fun G16 s16 => ?_
  refine rd (i := 1) s16 rfl (fun h k => cursor_Reader_I64.use h k) fun G18 s18 => ?_
  rw [← hst4] at s18 ⊢
  refine rd (i := 1) s18 rfl (fun h k => cursor_Reader_I64.use h k) fun G20 s20 => ?_
  rw [← hst5] at s20 ⊢
  obtain ⟨owner, howner⟩ : ∃ x, x = ((num st1.1 : Nat) : Int) := ⟨_, rfl⟩
  obtain ⟨index, hindex⟩ : ∃ x, x = IntKind.i64.wrap (num st2.1 : Nat) := ⟨_, rfl⟩
  obtain ⟨point, hpoint⟩ : ∃ x, x = fill 32 st3.1 := ⟨_, rfl⟩
  obtain ⟨o, ho⟩ : ∃ x, x = IntKind.i64.wrap (num st4.1 : Nat) := ⟨_, rfl⟩
  obtain ⟨q, hq⟩ : ∃ x, x = IntKind.i64.wrap (num st5.1 : Nat) := ⟨_, rfl⟩
  rw [← howner, ← hindex, ← hpoint, ← ho, ← hq] at hhead
  rw [← hpoint] at s20 hh3
  rw [← howner, ← hindex, ← ho, ← hq]
  refine wv_of (v := ledV o q .nilSlice) rfl ?_
  intro i22 f22
  have s22 := s20.row f22 (ledV 0 0 .nilSlice)
  refine led_store (i := 0) s22 rfl rfl nil_leaf fun G24 s24 => ?_
  refine rd (i := 2) s24 rfl (fun h k => cursor_Reader_U16.use h k) fun G26 s26 => ?_
  rw [← hst6] at s26 ⊢
  have s26 : Sp [] G [RowL i22 (ledV o q .nilSlice), RowL i14 (.agg (point.map u8v)), RdL ir st6.2, RowL i3 (ledV 0 0 .nilSlice), RowL i1 (.agg ((List.replicate 32 (0 : UInt8)).map u8v))] G26 := s26
  have s26 := (s26.nilL 35)
  intro J97
  have h97 : ∀ (G' : Heap) (s : AVal) (l : List PenM) (st : List UInt8 × Int), Sp [] G [OwnL 35 s (l.map PenM.av), RowL i22 (ledV o q s), RowL i14 (.agg (point.map u8v)), RdL ir st, RowL i3 (ledV 0 0 .nilSlice), RowL i1 (.agg ((List.replicate 32 (0 : UInt8)).map u8v))] G' →
      (∀ p ∈ l, p.ok) → l.length ≤ 65535 → comR b = (⟨owner, index, point, o, q, l⟩, st) → J97 (.str b) (.ptr i1 [] 0) (.ptr i3 [] 0) (.ptr ir [] 0) (.int .i64 owner) (.int .i64 index) (.ptr i14 [] 0) (.ptr i22 [] 0) G' := by
    intro G' s l st hs hlok hl hcom
    simp -zeta only [J97]
    refine wv_of (load_hash hh3 (RowL.own (i := 2) hs rfl)) ?_
    have ho0 := OwnL.own (i := 0) hs rfl
    refine wv_of (led_load (i := 1) hs rfl ho0.leaf).2.2.2 ?_
    refine commit_Text.use hh3 ho0.is hlok (by omega) fun G74 c74 => ?_
    have s74 := hs.tmp c74
    rw [vext0, wv_some, vext1, wv_some]
    intro J96
    have good : (⟨owner, index, point, o, q, l⟩ : Com).Valid → b = textB owner index point o q l → J96 (.bool false) G74 := by
      intro hv hb
      simp -zeta only [J96, brB_false]
      refine wv_of (load_hash hh3 (RowL.own (i := 2) s74 rfl)) ?_
      have ho1 := OwnL.own (i := 0) s74 rfl
      refine wv_of (led_load (i := 1) s74 rfl ho1.leaf).2.2.2 ?_
      refine hash_store (i := 5) s74 rfl zh_len hh3 fun G92 s92 => ?_
      refine ⟨⟨(led_load (i := 1) s92 rfl ho1.leaf).2.2.2, trivial⟩, ?_⟩
      refine led_store (i := 4) s92 rfl rfl ho1.leaf fun G93 s93 => ?_
      refine wv_of (load_hash hh3 (RowL.own (i := 5) s93 rfl)) ?_
      refine wv_of (led_load (i := 4) s93 rfl ho1.leaf).2.2.2 ?_
      exact hok _ hv hb s _ (((((s93.erase 1).erase 1).erase 1).erase 1).erase 1)
    have bad : (∀ c : Com, c.Valid → b ≠ c.text) → J96 (.bool true) G74 := by
      intro hall
      simp -zeta only [J96, brB_true]
      refine wv_of (v := .agg ((List.replicate 32 (0 : UInt8)).map u8v)) rfl ?_
      refine wv_of (v := ledV 0 0 .nilSlice) rfl ?_
      refine hash_store (i := 5) s74 rfl zh_len zh_len fun G92 s92 => ?_
      refine led_store (i := 4) s92 rfl rfl nil_leaf fun G93 s93 => ?_
      refine wv_of (load_hash zh_len (RowL.own (i := 5) s93 rfl)) ?_
      refine wv_of (led_load (i := 4) s93 rfl nil_leaf).2.2.2 ?_
      exact hno hall _ s93.ch
    have hvalid : ∀ c : Com, c.Valid → b = c.text → c = ⟨owner, index, point, o, q, l⟩ ∧ st = ([], 0) := by
      intro c hc hb
      have := comR_text hc []
      rw [List.append_nil, ← hb, hcom] at this
      simp only [Prod.mk.injEq] at this
      exact ⟨this.1.symm, this.2⟩
    have hvR : ∀ c : Com, c.Valid → b = c.text → textR owner index point o q l = (b, 0) := by
      intro c hc hb
      obtain ⟨hcc, _⟩ := hvalid c hc hb
      have h1 := hc.arg
      have h2 := hc.sound
      rw [hb, Com.text]
      rw [hcc] at h1 h2 ⊢
      dsimp only at h1 h2 ⊢
      rw [textR, if_neg h1, h2, cond_true]
    obtain ⟨R, hR⟩ : ∃ R, R = textR owner index point o q l := ⟨_, rfl⟩
    rw [← hR] at hvR ⊢
    refine cursor_Reader_Done.use (RdL.rd (i := 3) s74 rfl) ?_
    rw [vbin_neq, wv_some, brB_ndec]
    refine ⟨fun h => bad fun c hc hb => ?_, fun h1 => ?_⟩
    · rw [(hvalid c hc hb).2] at h
      exact h rfl
    rw [vbin_neq, wv_some, brB_ndec]
    refine ⟨fun h => bad fun c hc hb => ?_, fun h2 => ?_⟩
    · rw [hvR c hc hb] at h
      exact h rfl
    rw [vbin_sneq, wv_some]
    by_cases h3 : R.1 = b
    · rw [decide_eq_true h3, Bool.not_true]
      have hR2 : textR owner index point o q l = (b, 0) := by rw [← hR, ← h3, ← h2]
      unfold textR at hR2
      split at hR2
      · cases hR2
      · rename_i harg
        cases hsd : soundP o q l with
        | false => rw [hsd] at hR2; cases hR2
        | true =>
          rw [hsd, cond_true] at hR2
          injection hR2 with hb
          exact good ⟨harg, hsd, hh3, hlok⟩ hb.symm
    · rw [decide_eq_false h3, Bool.not_false]
      exact bad fun c hc hb => by rw [hvR c hc hb] at h3; exact h3 rfl
  intro R27 hR27
  have loop : ∀ (n j : Nat) (s : AVal) (l : List PenM) (st : List UInt8 × Int) (G' : Heap), num st6.1 - j = n → j ≤ num st6.1 → l.length ≤ j → (∀ p ∈ l, p.ok) → pensR n st l = pensR (num st6.1) st6.2 [] →
      Sp [] G [OwnL 35 s (l.map PenM.av), RowL i22 (ledV o q s), RowL i14 (.agg (point.map u8v)), RdL ir st, RowL i3 (ledV 0 0 .nilSlice), RowL i1 (.agg ((List.replicate 32 (0 : UInt8)).map u8v))] G' →
      R27 [.str b, .ptr i1 [] 0, .ptr i3 [] 0, .ptr ir [] 0, .int .i64 owner, .int .i64 index, .ptr i14 [] 0, .ptr i22 [] 0, .int .u16 (num st6.1 : Nat), .int .u16 (j : Nat)] G' := by
    intro n
    induction n with
    | zero =>
      intro j s l st G' hn hj hl hlok hp hs
      refine hR27 _ _ _ _ _ _ _ _ _ _ _ ?_
      rw [vbin_lss, wv_some, brB_dec]
      refine ⟨fun h => absurd h (by omega), fun _ => ?_⟩
      refine h97 G' s l st hs hlok (by omega) ?_
      simp only [comR, hhead, ← hp, pensR]
    | succ n ih =>
      intro j s l st G' hn hj hl hlok hp hs
      refine hR27 _ _ _ _ _ _ _ _ _ _ _ ?_
      rw [vbin_lss, wv_some, brB_dec]
      refine ⟨fun _ => ?_, fun h => absurd (by omega) h⟩
      refine cursor_Reader_Err.use (RdL.rd (i := 3) hs rfl) ?_
      rw [vbin_neq, wv_some, brB_ndec]
      rw [pensR] at hp
      refine ⟨fun h => ?_, fun h => ?_⟩
      · rw [if_neg h] at hp
        refine h97 G' s l st hs hlok (by omega) ?_
        simp only [comR, hhead, ← hp]
      · rw [if_pos h] at hp
        have ho0 := OwnL.own (i := 0) hs rfl
        show wv (vload T G' t_sl_api_Pending (.ptr i22 [2] 2)) _
        refine wv_of (led_load (i := 1) hs rfl ho0.leaf).2.2.1 ?_
        refine rd (i := 3) hs rfl (fun h k => cursor_Reader_U8.use h k) fun G46 s46 => ?_
        refine ⟨⟨(led_load (i := 1) s46 rfl ho0.leaf).2.2.1, trivial⟩, ?_⟩
        rw [vbin_eql, wv_some]
        refine rd (i := 3) s46 rfl (fun h k => cursor_Reader_I64.use h k) fun G49 s49 => ?_
        refine ⟨⟨(led_load (i := 1) s49 rfl ho0.leaf).2.2.1, trivial⟩, ?_⟩
        refine rd (i := 3) s49 rfl (fun h k => cursor_Reader_I64.use h k) fun G51 s51 => ?_
        refine ⟨⟨(led_load (i := 1) s51 rfl ho0.leaf).2.2.1, trivial⟩, ?_⟩
        refine rd (i := 3) s51 rfl (fun h k => cursor_Reader_Hash.use h k) fun G53 s53 => ?_
        refine ⟨⟨(led_load (i := 1) s53 rfl ho0.leaf).2.2.1, trivial⟩, ?_⟩
        have hpo := penR_ok st
        have eav : AVal.agg [.bool (decide (((num (takes st 1).1 : Nat) : Int) = 1)), .int .i64 (IntKind.i64.wrap (num (takes (takes st 1).2 8).1 : Nat)), .int .i64 (IntKind.i64.wrap (num (takes (takes (takes st 1).2 8).2 8).1 : Nat)), .agg ((fill 32 (takes (takes (takes (takes st 1).2 8).2 8).2 32).1).map u8v)] = (penR st).1.av := by
          have : decide (((num (takes st 1).1 : Nat) : Int) = 1) = (num (takes st 1).1 == 1) := by
            rw [Bool.eq_iff_iff]
            simp only [decide_eq_true_eq, beq_iff_eq]
            omega
          rw [this]
          rfl
        refine wv_of (v := (penR st).1.av) ?_ ?_
        · rw [← build_pen hpo]
          simp only [PenM.av, AVal.agg.injEq, List.cons.injEq, AVal.bool.injEq] at eav
          rw [eav.1]
          rfl
        refine growV (T := T) (ts := t_sl_api_Pending) (e := t_api_Pending) (si := ti_sl_api_Pending) (ie := ti_api_Pending) (i := 0) T_sl_api_Pending rfl T_api_Pending rfl (by decide) s53 rfl (PenM.sz hpo) (PenM.okv _) (by decide) ?_ fun s57 G58 s58 => ?_
        · have : ti_api_Pending.bytes = 56 := rfl
          rw [List.length_map, this]
          omega
        have s58 : Sp [] G [OwnL 35 s57 ((l ++ [(penR st).1]).map PenM.av), RowL i22 (ledV o q s), RowL i14 (.agg (point.map u8v)), RdL ir (penR st).2, RowL i3 (ledV 0 0 .nilSlice), RowL i1 (.agg ((List.replicate 32 (0 : UInt8)).map u8v))] G58 := by
          rw [List.map_append]
          exact s58
        show wg (vstore T G58 t_sl_api_Pending (.ptr i22 [2] 2) s57) _
        refine led_set (i := 1) s58 rfl ho0.leaf.1 (OwnL.own (i := 0) s58 rfl).leaf fun G60 s60 => ?_
        rw [vbin_add, wv_some, u16_in (by omega) (by omega)]
        refine ih (j + 1) s57 _ _ G60 (by omega) (by omega) (by simp; omega) (fun p hp => ?_) hp s60
        rcases List.mem_append.1 hp with hp | hp
        · exact hlok p hp
        · rw [List.mem_singleton.1 hp]
          exact hpo
  exact loop _ 0 .nilSlice [] st6.2 G26 (Nat.sub_zero _) (by omega) (by simp) (by simp) rfl s26

end
end Go.Esc.M
