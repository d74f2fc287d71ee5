import Derived.Test.YtdoelihemgopcaaLTd
import Derived.Test.YtdoelihemgopcaaLSh
/- Own work. Chapter 17: what a record makes of a state, of every kind, whatever Go's table holds. -/
set_option linter.unusedSimpArgs false
set_option linter.unusedVariables false
set_option maxRecDepth 20000
namespace Go.Esc.M
open Go Go.Esc

def okC (o : List UpdM) : List UpdM → List UpdM → Bool
  | c, [] => true
  | c, u :: t => decide (nextU c o u = 0) && okC o (c ++ [u]) t
def cameB (f : StF) (r : RcM) : Prop := r.index ≠ IntKind.i64.wrap (f.s.loc + 1) ∨ f.s.atB < 0 ∨ (f.p.length : Nat) < f.s.atB
instance (f : StF) (r : RcM) : Decidable (cameB f r) := by unfold cameB; infer_instance
def heldP (f : StF) : List UpdM := f.p.take f.s.atB.toNat
def revB (f : StF) (r : RcM) : Prop := f.s.rem ≠ IntKind.i64.wrap (f.s.ack + 1) ∨ r.index ≠ f.s.ack
instance (f : StF) (r : RcM) : Decidable (revB f r) := by unfold revB; infer_instance
/-- What a record makes of a state; 'pt': what Put answers. -/
def applyG (f : StF) (r : RcM) (l : List UpdM) (pt : Option (List SlotM)) : StF × Bool :=
  if r.kind = 1 then (if nextU f.o f.p r.upd = 0 then (⟨f.s, f.o ++ [r.upd], f.p, f.h⟩, true) else (f, false))
  else if r.kind = 2 then (if signB f r then (f, false) else (⟨{ f.s with rem := r.index, sgnA := r.cntA, sgnB := r.cntB, behind := true }, f.o, f.p, f.h⟩, true))
  else if r.kind = 3 then (if cameB f r ∨ okC f.o (heldP f) l = false then (f, false) else (⟨{ f.s with loc := r.index, sig := r.sig, behind := false, atA := f.s.heldA, atB := ((heldP f ++ l).length : Nat) }, f.o, heldP f ++ l, f.h⟩, true))
  else if r.kind = 4 then (if revB f r then (f, false) else match pt with
    | none => (f, false)
    | some h => (⟨{ f.s with ack := IntKind.i64.wrap (f.s.ack + 1), heldA := f.s.sgnA, heldB := f.s.sgnB, ptsA := f.s.ptsB, ptsB := r.point }, f.o, f.p, h⟩, true))
  else if r.kind = 5 then ((if f.s.failed = 0 then ⟨{ f.s with failed := r.code }, f.o, f.p, f.h⟩ else f), true)
  else (if r.index ≠ f.s.loc then (f, false) else (⟨{ f.s with closed := r.index }, f.o, f.p, f.h⟩, true))

theorem nextU_small17 {A X : List UpdM} {u : UpdM} (h : nextU A X u = 0) : A.length < 2048 := by
  unfold nextU at h
  split at h
  · cases h
  · omega

section
variable {F0 : List AId} {G0 G : Heap} {ps : List LP} {Q : AVal → Heap → Prop}

theorem own_cut {i k : Nat} {w : AVal} {l : List UpdM} {x : Int} (hs : Sp F0 G0 ps G) (hi : ps[i]? = some (OwnL 36 w (l.map UpdM.av))) (hx : x = (k : Int)) (hk : k ≤ l.length) :
    ∃ w', vslice T t_sl_api_Update w none (some (.int .i64 x)) none = some w' ∧ Sp F0 G0 (ps.set i (OwnL 36 w' ((l.take k).map UpdM.av))) G := by
  have ho := OwnL.own hs hi
  rcases ho with ⟨rfl, h⟩ | ⟨id, len, cap, cs, rfl, hg, hcap, hl, hu, hv⟩
  · have hl : l = [] := by simpa using h
    subst hl
    have hk0 : k = 0 := by simpa using hk
    subst hk0
    subst hx
    refine ⟨.nilSlice, rfl, ?_⟩
    refine hs.call hi (OwnL 36 .nilSlice (([] : List UpdM).map UpdM.av)) fun F h k => ?_
    exact k F G h (Ch.refl _ _)
  · have hlen : l.length = len := by
      have := congrArg List.length hv
      rw [List.length_map, List.length_take] at this
      omega
    refine ⟨.slice id [] 0 0 k cap, slice_to (i := ti_sl_api_Update) (ie := ti_api_Update) T_sl_api_Update rfl T_api_Update hx (by omega), ?_⟩
    refine hs.call hi (OwnL 36 (.slice id [] 0 0 k cap) ((l.take k).map UpdM.av)) fun F h kk => ?_
    obtain ⟨_, rfl⟩ := h
    refine kk _ G ⟨.inr ⟨id, k, cap, cs, rfl, hg, hcap, by omega, hu, ?_⟩, rfl⟩ (Ch.refl _ _)
    rw [List.map_take, hv, List.take_take, Nat.min_eq_left (by omega)]
theorem build_h2e {p q : List UInt8} (hp : p.length = 32) (hq : q.length = 32) : vbuild T t_ar2_api_Hash [(0, .agg (p.map u8v)), (1, .agg (q.map u8v))] = some (hash2V p q) := by
  refine (build_array (zs := [.agg (h0.map u8v), .agg (h0.map u8v)]) T_ar2_api_Hash rfl T_api_Hash rfl ?_ fun r hr => ?_).trans rfl
  · simp [Esc.uni, Esc.sz, szh h0_len, ti_api_Hash]
  · simp only [List.mem_cons, List.not_mem_nil, or_false] at hr
    rcases hr with rfl | rfl
    · exact szHash hp
    · exact szHash hq

set_option maxHeartbeats 8000000 in
theorem chg_applyG {f : StF} {r : RcM} {l : List UpdM} {v wo wp wh : AVal} {i1 : AId} {L3 L4 : LP} (hT : TabAny G0) (hr : r.ok) (hv : Leaf v) (hl : IsSl 36 G0 v (l.map UpdM.av)) (hok : ∀ u ∈ l, u.ok) (hlen : l.length ≤ 1000) (hk : kindK r) (ho : f.s.ok) (oko : ∀ u ∈ f.o, u.ok) (okp : ∀ u ∈ f.p, u.ok) (okh : ∀ x ∈ f.h, x.ok)
    (lo : f.o.length * 72 ≤ 140737488351232) (lp : f.p.length * 72 ≤ 140737488351232) (lh : f.h.length * 48 ≤ 140737488351232)
    (hs : Sp [] G0 [OwnL 34 wh (f.h.map SlotM.av), OwnL 36 wp (f.p.map UpdM.av), OwnL 36 wo (f.o.map UpdM.av), L3, L4, RowL i1 (f.s.av wo wp wh)] G)
    (hno : ∀ pt, putOk f.h r.index pt → (applyG f r l pt).2 = false → ∀ wp' X G', Sp [] G0 [OwnL 34 wh (f.h.map SlotM.av), OwnL 36 wp' X, OwnL 36 wo (f.o.map UpdM.av), L3, L4, RowL i1 (f.s.av wo wp wh)] G' → Q (.bool false) G')
    (hQ : ∀ pt, putOk f.h r.index pt → (applyG f r l pt).2 = true → ∀ wo' wp' wh' G', Sp [] G0 [OwnL 34 wh' ((applyG f r l pt).1.h.map SlotM.av), OwnL 36 wp' ((applyG f r l pt).1.p.map UpdM.av), OwnL 36 wo' ((applyG f r l pt).1.o.map UpdM.av), L3, L4, RowL i1 ((applyG f r l pt).1.s.av wo' wp' wh')] G' → Q (.bool true) G') :
    aInvoke cx (chgV r v) "escrow/record.apply" [.ptr i1 [] 0] G Q := by
  have lfo := (OwnL.own (i := 2) hs rfl).leaf
  have lfp := (OwnL.own (i := 1) hs rfl).leaf
  have lfh := (OwnL.own (i := 0) hs rfl).leaf
  have lv : Leaf wo ∧ Leaf wp ∧ Leaf wh := ⟨lfo, lfp, lfh⟩
  have any := putOk_any f.h r.index
  unfold chgV
  rcases hk with h | h | h | h | h | h
  · have e : ∀ pt, applyG f r l pt = if nextU f.o f.p r.upd = 0 then (⟨f.s, f.o ++ [r.upd], f.p, f.h⟩, true) else (f, false) := fun pt => by unfold applyG; rw [if_pos h]
    replace hno := hno _ any
    replace hQ := hQ _ any
    rw [e] at hno hQ
    rw [if_pos h]
    refine inv_record_ours_apply ?_
    refine record_ours_apply.sound ?_
    unfold record_ours_apply.S
    intro i2 f2
    have s2 := hs.row f2 (.agg [r.upd.av])
    refine wv_of (v := .ptr i1 [] 0) rfl ?_
    refine wv_of (v := .ptr i1 [4] 4) rfl ?_
    refine wv_of (St.ld_ours (RowL.own (i := 6) s2 rfl) ho lv) ?_
    refine wv_of (v := .ptr i1 [] 0) rfl ?_
    refine wv_of (v := .ptr i1 [5] 5) rfl ?_
    refine wv_of (St.ld_peers (RowL.own (i := 6) s2 rfl) ho lv) ?_
    refine wv_of (ow_ld hr.upd (RowL.own (i := 0) s2 rfl)) ?_
    refine update_Next.use (OwnL.own (i := 3) s2 rfl).is (OwnL.own (i := 2) s2 rfl).is oko okp (by omega) (by omega) hr.upd fun G11 c11 => ?_
    have s11 := s2.tmp c11
    rw [vbin_neq, wv_some, brB_ndec]
    refine ⟨fun h1 => ?_, fun h1 => ?_⟩
    · rw [if_neg h1] at hno
      exact hno rfl wp _ _ (s11.erase 0)
    · rw [if_pos h1] at hQ
      refine wv_of (v := .ptr i1 [] 0) rfl ?_
      refine wv_of (v := .ptr i1 [4] 4) rfl ?_
      refine wv_of (St.ld_ours (RowL.own (i := 6) s11 rfl) ho lv) ?_
      refine wv_of (ow_ld hr.upd (RowL.own (i := 0) s11 rfl)) ?_
      refine growV (T := T) (ts := t_sl_api_Update) (e := t_api_Update) (si := ti_sl_api_Update) (ie := ti_api_Update) (i := 3) (vs := f.o.map UpdM.av) T_sl_api_Update rfl T_api_Update rfl (by decide) s11 rfl (UpdM.sz hr.upd) (UpdM.okv _) (by decide) (by rw [List.length_map]; simp only [ti_api_Update]; omega) fun w' G20 s20 => ?_
      have lw' := (OwnL.own (i := 3) s20 rfl).leaf
      refine wv_of (v := .ptr i1 [] 0) rfl ?_
      refine wv_of (v := .ptr i1 [4] 4) rfl ?_
      refine St.st_ours (i := 6) s20 rfl ho lv lw' fun G23 s23 => ?_
      refine hQ rfl w' wp wh _ ?_
      have := s23.erase 0
      rw [List.map_append]
      exact this
  · have e : ∀ pt, applyG f r l pt = if signB f r then (f, false) else (⟨{ f.s with rem := r.index, sgnA := r.cntA, sgnB := r.cntB, behind := true }, f.o, f.p, f.h⟩, true) := fun pt => by unfold applyG; rw [if_neg (by omega), if_pos h]
    replace hno := hno _ any
    replace hQ := hQ _ any
    rw [e] at hno hQ
    rw [if_neg (by omega), if_pos h]
    refine inv_record_signed_apply ?_
    refine record_signed_apply.sound ?_
    unfold record_signed_apply.S
    intro i2 f2
    have s2 := hs.row f2 (.agg [.int .i64 r.index, pairW r.cntA r.cntB])
    revert s2
    generalize Heap.upd _ i2 _ = G2
    intro s2
    have hg := RowL.own (i := 6) s2 rfl
    obtain ⟨l0, l1, l2, l3⟩ := sg_ld (RowL.own (i := 0) s2 rfl)
    intro J47
    have bad : signB f r → J47 (.bool true) G2 := by
      intro hb
      rw [if_pos hb] at hno
      simp -zeta only [J47, brB_true]
      exact hno rfl wp _ _ (s2.erase 0)
    have good : ¬ signB f r → J47 (.bool false) G2 := by
      intro hb
      rw [if_neg hb] at hQ
      simp -zeta only [J47, brB_false]
      refine wv_of l0 ?_
      refine wv_of l1 ?_
      refine wv_of (v := .ptr i1 [] 0) rfl ?_
      refine wv_of (v := .ptr i1 [7] 7) rfl ?_
      refine St.st_rem (i := 6) s2 rfl ho lv _ fun G40 s40 => ?_
      have o1 : ({ f.s with rem := r.index } : StM).ok := ⟨ho.side, ho.cap, ho.bo, ho.bp, ho.loc, hr.index, ho.ack, ho.atA, ho.atB, ho.sgnA, ho.sgnB, ho.heldA, ho.heldB, ho.ptsA, ho.ptsB, ho.sig, ho.failed, ho.closed⟩
      refine ⟨⟨(sg_ld (RowL.own (i := 0) s40 rfl)).2.1, trivial⟩, ?_⟩
      refine wv_of (v := .ptr i1 [] 0) rfl ?_
      refine wv_of (v := .ptr i1 [10] 11) rfl ?_
      refine St.st_sgn (s := { f.s with rem := r.index }) (i := 6) s40 rfl o1 lv _ _ fun G43 s43 => ?_
      have o2 : ({ f.s with rem := r.index, sgnA := r.cntA, sgnB := r.cntB } : StM).ok := ⟨ho.side, ho.cap, ho.bo, ho.bp, ho.loc, hr.index, ho.ack, ho.atA, ho.atB, hr.cntA, hr.cntB, ho.heldA, ho.heldB, ho.ptsA, ho.ptsB, ho.sig, ho.failed, ho.closed⟩
      refine wv_of (v := .ptr i1 [] 0) rfl ?_
      refine wv_of (v := .ptr i1 [12] 15) rfl ?_
      refine St.st_behind (s := { f.s with rem := r.index, sgnA := r.cntA, sgnB := r.cntB }) (i := 6) s43 rfl o2 lv _ fun G46 s46 => ?_
      exact hQ rfl wo wp wh _ (s46.erase 0)
    refine wv_of (v := .ptr i1 [] 0) rfl ?_
    refine wv_of (v := .ptr i1 [7] 7) rfl ?_
    refine wv_of (St.ld_rem hg ho lv) ?_
    refine wv_of (v := .ptr i1 [] 0) rfl ?_
    refine wv_of (v := .ptr i1 [8] 8) rfl ?_
    refine wv_of (St.ld_ack hg ho lv) ?_
    rw [vbin_neq, wv_some, brB_ndec]
    refine ⟨fun h1 => bad (.inl h1), fun h1 => ?_⟩
    refine wv_of l0 ?_
    refine wv_of (v := .ptr i1 [] 0) rfl ?_
    refine wv_of (v := .ptr i1 [7] 7) rfl ?_
    refine wv_of (St.ld_rem hg ho lv) ?_
    rw [vbin_add, wv_some, vbin_neq, wv_some, brB_ndec]
    refine ⟨fun h2 => bad (.inr (.inl h2)), fun h2 => ?_⟩
    refine wv_of l3 ?_
    refine wv_of (v := .ptr i1 [] 0) rfl ?_
    refine wv_of (v := .ptr i1 [9] 9) rfl ?_
    refine wv_of (v := .ptr i1 [9, 1] 10) rfl ?_
    refine wv_of (St.ld_atB hg ho lv) ?_
    rw [vbin_neq, wv_some, brB_ndec]
    refine ⟨fun h3 => bad (.inr (.inr (.inl h3))), fun h3 => ?_⟩
    refine wv_of l2 ?_
    refine wv_of (v := .ptr i1 [] 0) rfl ?_
    refine wv_of (v := .ptr i1 [10] 11) rfl ?_
    refine wv_of (v := .ptr i1 [10, 0] 11) rfl ?_
    refine wv_of (St.ld_sgnA hg ho lv) ?_
    rw [vbin_lss, wv_some, brB_dec]
    refine ⟨fun h4 => bad (.inr (.inr (.inr (.inl h4)))), fun h4 => ?_⟩
    refine wv_of l2 ?_
    refine wv_of (v := .ptr i1 [] 0) rfl ?_
    refine wv_of (v := .ptr i1 [4] 4) rfl ?_
    refine wv_of (St.ld_ours hg ho lv) ?_
    refine wv_of (upd_len (OwnL.own (i := 3) s2 rfl).is) ?_
    rw [vbin_gtr, wv_some]
    by_cases h5 : (f.o.length : Nat) < r.cntA
    · rw [decide_eq_true (by omega)]; exact bad (.inr (.inr (.inr (.inr h5))))
    · rw [decide_eq_false (by omega)]
      exact good (by rintro (x | x | x | x | x); exact x h1; exact x h2; exact x h3; exact h4 x; exact h5 x)
  · have e : ∀ pt, applyG f r l pt = if cameB f r ∨ okC f.o (heldP f) l = false then (f, false) else (⟨{ f.s with loc := r.index, sig := r.sig, behind := false, atA := f.s.heldA, atB := ((heldP f ++ l).length : Nat) }, f.o, heldP f ++ l, f.h⟩, true) := fun pt => by unfold applyG; rw [if_neg (by omega), if_neg (by omega), if_pos h]
    replace hno := hno _ any
    replace hQ := hQ _ any
    rw [e] at hno hQ
    rw [if_neg (by omega), if_neg (by omega), if_pos h]
    refine inv_record_came_apply ?_
    refine record_came_apply.sound ?_
    unfold record_came_apply.S
    intro i2 f2
    have s2 := hs.row f2 (.agg [.int .i64 r.index, v, .agg (r.sig.map u8v)])
    revert s2
    generalize Heap.upd _ i2 _ = G2
    intro s2
    have hg := RowL.own (i := 6) s2 rfl
    obtain ⟨l0, l1, l2⟩ := cm_ld hv hr.sig (RowL.own (i := 0) s2 rfl)
    intro J87
    have bad : cameB f r → J87 (.bool true) G2 := by
      intro hb
      rw [if_pos (.inl hb)] at hno
      simp -zeta only [J87, brB_true]
      exact hno rfl wp _ _ (s2.erase 0)
    have good : ¬ cameB f r → J87 (.bool false) G2 := by
      intro hb
      simp -zeta only [J87, brB_false]
      have hb2 : 0 ≤ f.s.atB ∧ f.s.atB ≤ (f.p.length : Nat) := by
        unfold cameB at hb
        omega
      refine wv_of (v := .ptr i1 [] 0) rfl ?_
      refine wv_of (v := .ptr i1 [5] 5) rfl ?_
      refine wv_of (St.ld_peers hg ho lv) ?_
      refine wv_of (v := .ptr i1 [] 0) rfl ?_
      refine wv_of (v := .ptr i1 [9] 9) rfl ?_
      refine wv_of (v := .ptr i1 [9, 1] 10) rfl ?_
      refine wv_of (St.ld_atB hg ho lv) ?_
      obtain ⟨w0, e0, s3⟩ := own_cut (i := 2) (k := f.s.atB.toNat) (l := f.p) (x := f.s.atB) s2 rfl (by omega) (by omega)
      refine wv_of e0 ?_
      refine wv_of l1 ?_
      refine wv_of (upd_len (hl.ch' s3.ch)) ?_
      have hHl : (heldP f).length ≤ f.p.length := by unfold heldP; rw [List.length_take]; omega
      have hHo : ∀ u ∈ heldP f, u.ok := fun u hu => okp u (List.mem_of_mem_take hu)
      intro R hR
      have loop : ∀ (n j : Nat) (c : List UpdM) (w : AVal) (G' : Heap), l.length - j = n → j ≤ l.length → c = heldP f ++ l.take j → okC f.o c (l.drop j) = okC f.o (heldP f) l →
          Sp [] G0 [RowL i2 (.agg [.int .i64 r.index, v, .agg (r.sig.map u8v)]), OwnL 34 wh (f.h.map SlotM.av), OwnL 36 w (c.map UpdM.av), OwnL 36 wo (f.o.map UpdM.av), L3, L4, RowL i1 (f.s.av wo wp wh)] G' →
          R [.ptr i1 [] 0, .ptr i2 [] 0, w, v, .int .i64 (l.length : Nat), .int .i64 (j : Int)] G' := by
        intro n
        induction n with
        | zero =>
          intro j c w G' hn hj hc hC s
          have hjl : j = l.length := by omega
          subst hjl
          rw [List.take_length] at hc
          rw [List.drop_length] at hC
          have hC : okC f.o (heldP f) l = true := hC.symm
          rw [if_neg (by rw [hC]; simp [hb])] at hQ
          refine hR _ _ _ _ _ _ _ ?_
          rw [vbin_lss, wv_some, decide_eq_false (by omega), brB_false]
          have hgs := RowL.own (i := 6) s rfl
          have lw := (OwnL.own (i := 2) s rfl).leaf
          refine wv_of (v := .ptr i2 [0] 0) rfl ?_
          refine wv_of (cm_ld hv hr.sig (RowL.own (i := 0) s rfl)).1 ?_
          refine wv_of (v := .ptr i2 [2] 2) rfl ?_
          refine wv_of (cm_ld hv hr.sig (RowL.own (i := 0) s rfl)).2.2 ?_
          refine wv_of (v := .ptr i1 [] 0) rfl ?_
          refine wv_of (v := .ptr i1 [5] 5) rfl ?_
          refine St.st_peers (i := 6) s rfl ho lv lw fun G68 s68 => ?_
          have lv2 : Leaf wo ∧ Leaf w ∧ Leaf wh := ⟨lfo, lw, lfh⟩
          refine ⟨⟨(cm_ld hv hr.sig (RowL.own (i := 0) s68 rfl)).2.2, (cm_ld hv hr.sig (RowL.own (i := 0) s68 rfl)).1, trivial⟩, ?_⟩
          refine wv_of (v := .ptr i1 [] 0) rfl ?_
          refine wv_of (v := .ptr i1 [6] 6) rfl ?_
          refine St.st_loc (i := 6) s68 rfl ho lv2 _ fun G71 s71 => ?_
          have o1 : ({ f.s with loc := r.index } : StM).ok := ⟨ho.side, ho.cap, ho.bo, ho.bp, hr.index, ho.rem, ho.ack, ho.atA, ho.atB, ho.sgnA, ho.sgnB, ho.heldA, ho.heldB, ho.ptsA, ho.ptsB, ho.sig, ho.failed, ho.closed⟩
          refine ⟨⟨(cm_ld hv hr.sig (RowL.own (i := 0) s71 rfl)).2.2, trivial⟩, ?_⟩
          refine wv_of (v := .ptr i1 [] 0) rfl ?_
          refine wv_of (v := .ptr i1 [14] 80) rfl ?_
          refine St.st_sig (s := { f.s with loc := r.index }) (i := 6) s71 rfl o1 lv2 hr.sig fun G74 s74 => ?_
          have o2 : ({ f.s with loc := r.index, sig := r.sig } : StM).ok := ⟨ho.side, ho.cap, ho.bo, ho.bp, hr.index, ho.rem, ho.ack, ho.atA, ho.atB, ho.sgnA, ho.sgnB, ho.heldA, ho.heldB, ho.ptsA, ho.ptsB, hr.sig, ho.failed, ho.closed⟩
          refine wv_of (v := .ptr i1 [] 0) rfl ?_
          refine wv_of (v := .ptr i1 [12] 15) rfl ?_
          refine St.st_behind (s := { f.s with loc := r.index, sig := r.sig }) (i := 6) s74 rfl o2 lv2 _ fun G77 s77 => ?_
          have o3 : ({ f.s with loc := r.index, sig := r.sig, behind := false } : StM).ok := ⟨ho.side, ho.cap, ho.bo, ho.bp, hr.index, ho.rem, ho.ack, ho.atA, ho.atB, ho.sgnA, ho.sgnB, ho.heldA, ho.heldB, ho.ptsA, ho.ptsB, hr.sig, ho.failed, ho.closed⟩
          refine wv_of (v := .ptr i1 [] 0) rfl ?_
          refine wv_of (v := .ptr i1 [11] 13) rfl ?_
          refine wv_of (v := .ptr i1 [11, 0] 13) rfl ?_
          refine wv_of (St.ld_heldA (s := { f.s with loc := r.index, sig := r.sig, behind := false }) (RowL.own (i := 6) s77 rfl) o3 lv2) ?_
          refine wv_of (upd_len (OwnL.own (i := 2) s77 rfl).is) ?_
          refine wv_of (v := pairW f.s.heldA ((c.length : Nat) : Int)) rfl ?_
          refine wv_of (v := .ptr i1 [] 0) rfl ?_
          refine wv_of (v := .ptr i1 [9] 9) rfl ?_
          refine St.st_at (s := { f.s with loc := r.index, sig := r.sig, behind := false }) (i := 6) s77 rfl o3 lv2 _ _ fun G86 s86 => ?_
          rw [hc] at s86
          exact hQ rfl wo w wh _ (s86.erase 0)
        | succ n ih =>
          intro j c w G' hn hj hc hC s
          obtain ⟨u, hu⟩ : ∃ u, l[j]? = some u := ⟨_, List.getElem?_eq_getElem (by omega)⟩
          have huo := hok u (List.mem_of_getElem? hu)
          have hd : l.drop j = u :: l.drop (j + 1) := by
            obtain ⟨hj', e⟩ := List.getElem?_eq_some_iff.1 hu
            rw [List.drop_eq_getElem_cons hj', e]
          have hco : ∀ x ∈ c, x.ok := fun x hx => by
            rw [hc] at hx
            rcases List.mem_append.1 hx with hx | hx
            · exact hHo x hx
            · exact hok x (List.mem_of_mem_take hx)
          have hcl : c.length ≤ f.p.length + 1000 := by
            rw [hc, List.length_append, List.length_take]
            omega
          rw [hd] at hC
          refine hR _ _ _ _ _ _ _ ?_
          rw [vbin_lss, wv_some, decide_eq_true (by omega), brB_true]
          obtain ⟨p, p1, p2⟩ := upd_at (hl.ch' s.ch) hu
          refine wv_of p1 ?_
          refine wv_of p2 ?_
          refine newU s huo fun i46 G48 s48 => ?_
          have hgs := RowL.own (i := 7) s48 rfl
          refine wv_of (v := .ptr i1 [] 0) rfl ?_
          refine wv_of (v := .ptr i1 [4] 4) rfl ?_
          refine wv_of (St.ld_ours hgs ho lv) ?_
          refine wv_of (whole_load T_api_Update (RowL.own (i := 0) s48 rfl) (UpdM.fits huo)) ?_
          refine update_Next.use (OwnL.own (i := 3) s48 rfl).is (OwnL.own (i := 4) s48 rfl).is hco oko (by omega) (by omega) huo fun G54 c54 => ?_
          have s54 := s48.tmp c54
          rw [vbin_neq, wv_some, brB_ndec]
          refine ⟨fun h1 => ?_, fun h1 => ?_⟩
          · have hf : okC f.o (heldP f) l = false := by
              rw [← hC, okC, decide_eq_false h1, Bool.false_and]
            rw [if_pos (.inr hf)] at hno
            exact hno rfl w _ _ ((s54.erase 0).erase 0)
          · have hcs := nextU_small17 h1
            refine wv_of (whole_load T_api_Update (RowL.own (i := 0) s54 rfl) (UpdM.fits huo)) ?_
            refine growV (T := T) (ts := t_sl_api_Update) (e := t_api_Update) (si := ti_sl_api_Update) (ie := ti_api_Update) (i := 3) (vs := c.map UpdM.av) T_sl_api_Update rfl T_api_Update rfl (by decide) s54 rfl (UpdM.sz huo) (UpdM.okv _) (by decide) (by rw [List.length_map]; simp only [ti_api_Update]; omega) fun w' G60 s60 => ?_
            rw [vbin_add, i64_in (by omega) (by omega), wv_some]
            rw [okC, decide_eq_true h1, Bool.true_and] at hC
            refine ih (j + 1) (c ++ [u]) w' G60 (by omega) (by omega) ?_ hC ?_
            · rw [hc, List.take_add_one, hu, List.append_assoc]; rfl
            · have := s60.erase 0
              rw [List.map_append]
              exact this
      exact loop l.length 0 (heldP f) w0 G2 rfl (by omega) (by simp) (by simp) s3
    refine wv_of l0 ?_
    refine wv_of (v := .ptr i1 [] 0) rfl ?_
    refine wv_of (v := .ptr i1 [6] 6) rfl ?_
    refine wv_of (St.ld_loc hg ho lv) ?_
    rw [vbin_add, wv_some, vbin_neq, wv_some, brB_ndec]
    refine ⟨fun h1 => bad (.inl h1), fun h1 => ?_⟩
    refine wv_of (v := .ptr i1 [] 0) rfl ?_
    refine wv_of (v := .ptr i1 [9] 9) rfl ?_
    refine wv_of (v := .ptr i1 [9, 1] 10) rfl ?_
    refine wv_of (St.ld_atB hg ho lv) ?_
    rw [vbin_lss, wv_some, brB_dec]
    refine ⟨fun h2 => bad (.inr (.inl h2)), fun h2 => ?_⟩
    refine wv_of (v := .ptr i1 [] 0) rfl ?_
    refine wv_of (v := .ptr i1 [9] 9) rfl ?_
    refine wv_of (v := .ptr i1 [9, 1] 10) rfl ?_
    refine wv_of (St.ld_atB hg ho lv) ?_
    refine wv_of (v := .ptr i1 [] 0) rfl ?_
    refine wv_of (v := .ptr i1 [5] 5) rfl ?_
    refine wv_of (St.ld_peers hg ho lv) ?_
    refine wv_of (upd_len (OwnL.own (i := 2) s2 rfl).is) ?_
    rw [vbin_gtr, wv_some]
    by_cases h5 : (f.p.length : Nat) < f.s.atB
    · rw [decide_eq_true (by omega)]; exact bad (.inr (.inr h5))
    · rw [decide_eq_false (by omega)]
      exact good (by rintro (x | x | x); exact x h1; exact h2 x; exact h5 x)
  · have e : ∀ pt, applyG f r l pt = if revB f r then (f, false) else match pt with
        | none => (f, false)
        | some h => (⟨{ f.s with ack := IntKind.i64.wrap (f.s.ack + 1), heldA := f.s.sgnA, heldB := f.s.sgnB, ptsA := f.s.ptsB, ptsB := r.point }, f.o, f.p, h⟩, true) := fun pt => by unfold applyG; rw [if_neg (by omega), if_neg (by omega), if_neg (by omega), if_pos h]
    rw [if_neg (by omega), if_neg (by omega), if_neg (by omega), if_pos h]
    refine inv_record_revoked_apply ?_
    refine record_revoked_apply.sound ?_
    unfold record_revoked_apply.S
    intro i2 f2
    have s2 := hs.row f2 (.agg [.int .i64 r.index, .agg (r.secret.map u8v), .agg (r.point.map u8v)])
    revert s2
    generalize Heap.upd _ i2 _ = G2
    intro s2
    have hg := RowL.own (i := 6) s2 rfl
    obtain ⟨l0, l1, l2⟩ := rv_ld hr.secret hr.point (RowL.own (i := 0) s2 rfl)
    intro J53
    have bad : revB f r → J53 (.bool true) G2 := by
      intro hb
      simp -zeta only [J53, brB_true]
      refine hno _ any ?_ wp _ _ (s2.erase 0)
      rw [e, if_pos hb]
    have good : ¬ revB f r → J53 (.bool false) G2 := by
      intro hb
      simp -zeta only [J53, brB_false]
      refine wv_of (v := .ptr i1 [] 0) rfl ?_
      refine wv_of (v := .ptr i1 [15] 112) rfl ?_
      refine wv_of (St.ld_shelf hg ho lv) ?_
      refine wv_of l0 ?_
      refine wv_of l1 ?_
      refine shelf_Put.useA (hT.mono s2.ro) (OwnL.own (i := 1) s2 rfl).is okh lh hr.secret (fun hp e' G24 he c24 => ?_) (fun h' w G24 hp t24 => ?_)
      · refine wv_of (vtup0 _ _) ?_
        refine wv_of (vtup1 _ _) ?_
        rw [vbin_neq, wv_some, brB_ndec]
        refine ⟨fun _ => ?_, fun h => absurd h he⟩
        refine hno none hp ?_ wp _ _ ((s2.tmp c24).erase 0)
        rw [e, if_neg hb]
      · refine wv_of (vtup0 _ _) ?_
        refine wv_of (vtup1 _ _) ?_
        refine wv_of nz0 ?_
        rw [brB_false]
        obtain ⟨F24, o24, c24⟩ := t24.out
        have s24 := s2.new o24 c24
        have lw := (OwnL.own (i := 0) s24 rfl).leaf
        have lv2 : Leaf wo ∧ Leaf wp ∧ Leaf w := ⟨lfo, lfp, lw⟩
        have hg := RowL.own (i := 7) s24 rfl
        refine wv_of (v := .ptr i1 [] 0) rfl ?_
        refine wv_of (v := .ptr i1 [8] 8) rfl ?_
        refine wv_of (St.ld_ack hg ho lv) ?_
        rw [vbin_add, wv_some]
        refine wv_of (v := .ptr i1 [] 0) rfl ?_
        refine wv_of (v := .ptr i1 [10] 11) rfl ?_
        refine wv_of (St.ld_sgn hg ho lv) ?_
        refine wv_of (v := .ptr i1 [] 0) rfl ?_
        refine wv_of (v := .ptr i1 [15] 112) rfl ?_
        refine St.st_shelf (i := 7) s24 rfl ho lv lw fun G37 s37 => ?_
        refine wv_of (v := .ptr i1 [] 0) rfl ?_
        refine wv_of (v := .ptr i1 [8] 8) rfl ?_
        refine St.st_ack (i := 7) s37 rfl ho lv2 _ fun G40 s40 => ?_
        have hw : I64 (IntKind.i64.wrap (f.s.ack + 1)) := hw64 _
        have o1 : ({ f.s with ack := IntKind.i64.wrap (f.s.ack + 1) } : StM).ok := ⟨ho.side, ho.cap, ho.bo, ho.bp, ho.loc, ho.rem, hw, ho.atA, ho.atB, ho.sgnA, ho.sgnB, ho.heldA, ho.heldB, ho.ptsA, ho.ptsB, ho.sig, ho.failed, ho.closed⟩
        refine wv_of (v := .ptr i1 [] 0) rfl ?_
        refine wv_of (v := .ptr i1 [11] 13) rfl ?_
        refine St.st_held (s := { f.s with ack := IntKind.i64.wrap (f.s.ack + 1) }) (i := 7) s40 rfl o1 lv2 _ _ fun G43 s43 => ?_
        have o2 : ({ f.s with ack := IntKind.i64.wrap (f.s.ack + 1), heldA := f.s.sgnA, heldB := f.s.sgnB } : StM).ok := ⟨ho.side, ho.cap, ho.bo, ho.bp, ho.loc, ho.rem, hw, ho.atA, ho.atB, ho.sgnA, ho.sgnB, ho.sgnA, ho.sgnB, ho.ptsA, ho.ptsB, ho.sig, ho.failed, ho.closed⟩
        refine wv_of (v := .ptr i1 [] 0) rfl ?_
        refine wv_of (v := .ptr i1 [13] 16) rfl ?_
        refine wv_of (arrN_addr (j := 1) T_ar2_api_Hash rfl T_api_Hash rfl (by decide)) ?_
        refine wv_of (St.ld_ptsB (s := { f.s with ack := IntKind.i64.wrap (f.s.ack + 1), heldA := f.s.sgnA, heldB := f.s.sgnB }) (RowL.own (i := 7) s43 rfl) o2 lv2) ?_
        refine wv_of (rv_ld hr.secret hr.point (RowL.own (i := 1) s43 rfl)).2.2 ?_
        refine wv_of (build_h2e ho.ptsB hr.point) ?_
        refine wv_of (v := .ptr i1 [] 0) rfl ?_
        refine wv_of (v := .ptr i1 [13] 16) rfl ?_
        refine St.st_pts (s := { f.s with ack := IntKind.i64.wrap (f.s.ack + 1), heldA := f.s.sgnA, heldB := f.s.sgnB }) (i := 7) s43 rfl o2 lv2 ho.ptsB hr.point fun G52 s52 => ?_
        have hQ' := hQ (some h') hp
        rw [e, if_neg hb] at hQ'
        exact hQ' rfl wo wp w _ ((s52.erase 1).erase 1)
    refine wv_of (v := .ptr i1 [] 0) rfl ?_
    refine wv_of (v := .ptr i1 [7] 7) rfl ?_
    refine wv_of (St.ld_rem hg ho lv) ?_
    refine wv_of (v := .ptr i1 [] 0) rfl ?_
    refine wv_of (v := .ptr i1 [8] 8) rfl ?_
    refine wv_of (St.ld_ack hg ho lv) ?_
    rw [vbin_add, wv_some, vbin_neq, wv_some, brB_ndec]
    refine ⟨fun h1 => bad (.inl h1), fun h1 => ?_⟩
    refine wv_of l0 ?_
    refine wv_of (v := .ptr i1 [] 0) rfl ?_
    refine wv_of (v := .ptr i1 [8] 8) rfl ?_
    refine wv_of (St.ld_ack hg ho lv) ?_
    rw [vbin_neq, wv_some]
    by_cases h5 : r.index = f.s.ack
    · rw [decide_eq_true h5]
      exact good (by rintro (x | x); exact x h1; exact x h5)
    · rw [decide_eq_false h5]
      exact bad (.inr h5)
  · have e : ∀ pt, applyG f r l pt = ((if f.s.failed = 0 then ⟨{ f.s with failed := r.code }, f.o, f.p, f.h⟩ else f), true) := fun pt => by unfold applyG; rw [if_neg (by omega), if_neg (by omega), if_neg (by omega), if_neg (by omega), if_pos h]
    replace hQ := hQ _ any
    rw [e] at hQ
    rw [if_neg (by omega), if_neg (by omega), if_neg (by omega), if_neg (by omega), if_pos h]
    refine inv_record_failed_apply ?_
    refine record_failed_apply.sound ?_
    unfold record_failed_apply.S
    intro i2 f2
    have s2 := hs.row f2 (.agg [.int .i64 r.code])
    refine wv_of (v := .ptr i1 [] 0) rfl ?_
    refine wv_of (v := .ptr i1 [16] 113) rfl ?_
    refine wv_of (St.ld_failed (RowL.own (i := 6) s2 rfl) ho lv) ?_
    rw [vbin_eql, wv_some, brB_dec]
    refine ⟨fun h1 => ?_, fun h1 => ?_⟩
    · rw [if_pos h1] at hQ
      refine wv_of (fl_ld (RowL.own (i := 0) s2 rfl)) ?_
      refine wv_of (v := .ptr i1 [] 0) rfl ?_
      refine wv_of (v := .ptr i1 [16] 113) rfl ?_
      refine St.st_failed (i := 6) s2 rfl ho lv _ fun G10 s10 => ?_
      exact hQ rfl wo wp wh _ (s10.erase 0)
    · rw [if_neg h1] at hQ
      exact hQ rfl wo wp wh _ (s2.erase 0)
  · have e : ∀ pt, applyG f r l pt = if r.index ≠ f.s.loc then (f, false) else (⟨{ f.s with closed := r.index }, f.o, f.p, f.h⟩, true) := fun pt => by unfold applyG; rw [if_neg (by omega), if_neg (by omega), if_neg (by omega), if_neg (by omega), if_neg (by omega)]
    replace hno := hno _ any
    replace hQ := hQ _ any
    rw [e] at hno hQ
    rw [if_neg (by omega), if_neg (by omega), if_neg (by omega), if_neg (by omega), if_neg (by omega), if_pos h]
    refine inv_record_closed_apply ?_
    refine record_closed_apply.sound ?_
    unfold record_closed_apply.S
    intro i2 f2
    have s2 := hs.row f2 (.agg [.int .i64 r.index])
    refine wv_of (cl_ld (RowL.own (i := 0) s2 rfl)) ?_
    refine wv_of (v := .ptr i1 [] 0) rfl ?_
    refine wv_of (v := .ptr i1 [6] 6) rfl ?_
    refine wv_of (St.ld_loc (RowL.own (i := 6) s2 rfl) ho lv) ?_
    rw [vbin_neq, wv_some, brB_ndec]
    refine ⟨fun h1 => ?_, fun h1 => ?_⟩
    · rw [if_pos h1] at hno
      exact hno rfl wp _ _ (s2.erase 0)
    · rw [if_neg (by simp [h1])] at hQ
      refine wv_of (cl_ld (RowL.own (i := 0) s2 rfl)) ?_
      refine wv_of (v := .ptr i1 [] 0) rfl ?_
      refine wv_of (v := .ptr i1 [17] 114) rfl ?_
      refine St.st_closed (i := 6) s2 rfl ho lv _ fun G11 s11 => ?_
      exact hQ rfl wo wp wh _ (s11.erase 0)

end
end Go.Esc.M

/- Own work. Chapter 17: Apply of every record, whatever Go's table holds. -/
set_option linter.unusedSimpArgs false
set_option linter.unusedVariables false
set_option maxRecDepth 20000
namespace Go.Esc.M
open Go Go.Esc

/-- A state handed in: lists of any length. -/
structure StJ (G : Heap) (f : StF) (vo vp vh : AVal) : Prop where
  ok : f.s.ok
  o : IsSl 36 G vo (f.o.map UpdM.av)
  p : IsSl 36 G vp (f.p.map UpdM.av)
  h : IsSl 34 G vh (f.h.map SlotM.av)
  lv : Leaf vo ∧ Leaf vp ∧ Leaf vh
  oko : ∀ u ∈ f.o, u.ok
  okp : ∀ u ∈ f.p, u.ok
  okh : ∀ x ∈ f.h, x.ok
  lo : f.o.length * 72 ≤ 140737488351232
  lp : f.p.length * 72 ≤ 140737488351232
  lh : f.h.length * 48 ≤ 140737488351232
theorem StJ.mv {G G' : Heap} {E : List AId} {f : StF} {vo vp vh : AVal} (h : StJ G f vo vp vh) (hc : Ch [] G E G') : StJ G' f vo vp vh :=
  ⟨h.ok, h.o.ch' hc, h.p.ch' hc, h.h.ch' hc, h.lv, h.oko, h.okp, h.okh, h.lo, h.lp, h.lh⟩
def apG (f : StF) (r : RcM) (l : List UpdM) (pt : Option (List SlotM)) : Bool := validR r l && (applyG f r l pt).2

theorem validR_len {r : RcM} {l : List UpdM} (h : validR r l = true) : l.length ≤ 512 := by
  obtain ⟨_, hv, _, hl⟩ := valR_spec h
  unfold listK at hl
  split at hl
  · rename_i h3
    unfold validK at hv
    rw [if_neg (by omega), if_neg (by omega), if_pos h3] at hv
    simp only [Bool.and_eq_true, decide_eq_true_eq] at hv
    exact hv.2.1
  · rw [← hl]; simp
theorem applyG_ok {f : StF} {r : RcM} {l : List UpdM} {pt : Option (List SlotM)} (ho : f.s.ok) (hr : r.ok) (hl : l.length ≤ 512) (lp : f.p.length * 72 ≤ 140737488351232) : (applyG f r l pt).1.s.ok := by
  have hw : I64 (IntKind.i64.wrap (f.s.ack + 1)) := hw64 _
  have hH : (heldP f).length ≤ f.p.length := by unfold heldP; rw [List.length_take]; omega
  have hn : I64 (((heldP f ++ l).length : Nat) : Int) := by
    rw [List.length_append]
    exact i64_n _ (by omega) (by omega)
  unfold applyG
  split
  · split <;> exact ho
  split
  · split
    · exact ho
    · exact ⟨ho.side, ho.cap, ho.bo, ho.bp, ho.loc, hr.index, ho.ack, ho.atA, ho.atB, hr.cntA, hr.cntB, ho.heldA, ho.heldB, ho.ptsA, ho.ptsB, ho.sig, ho.failed, ho.closed⟩
  split
  · split
    · exact ho
    · exact ⟨ho.side, ho.cap, ho.bo, ho.bp, hr.index, ho.rem, ho.ack, ho.heldA, hn, ho.sgnA, ho.sgnB, ho.heldA, ho.heldB, ho.ptsA, ho.ptsB, hr.sig, ho.failed, ho.closed⟩
  split
  · split
    · exact ho
    · cases pt with
      | none => exact ho
      | some h => exact ⟨ho.side, ho.cap, ho.bo, ho.bp, ho.loc, ho.rem, hw, ho.atA, ho.atB, ho.sgnA, ho.sgnB, ho.sgnA, ho.sgnB, ho.ptsB, hr.point, ho.sig, ho.failed, ho.closed⟩
  split
  · show (if f.s.failed = 0 then _ else f : StF).s.ok
    split
    · exact ⟨ho.side, ho.cap, ho.bo, ho.bp, ho.loc, ho.rem, ho.ack, ho.atA, ho.atB, ho.sgnA, ho.sgnB, ho.heldA, ho.heldB, ho.ptsA, ho.ptsB, ho.sig, hr.code, ho.closed⟩
    · exact ho
  · split
    · exact ho
    · exact ⟨ho.side, ho.cap, ho.bo, ho.bp, ho.loc, ho.rem, ho.ack, ho.atA, ho.atB, ho.sgnA, ho.sgnB, ho.heldA, ho.heldB, ho.ptsA, ho.ptsB, ho.sig, ho.failed, hr.index⟩

section
variable {F0 : List AId} {G0 G : Heap} {ps : List LP} {Q : AVal → Heap → Prop}

theorem clone_updB.use {v : AVal} {l : List UpdM} (hl : IsSl 36 G v (l.map UpdM.av)) (hok : ∀ u ∈ l, u.ok) (hlen : l.length * 72 ≤ 140737488351232) (hQ : ∀ w G', Sp [] G [OwnL 36 w (l.map UpdM.av)] G' → Q w G') : ACalls P slices_Clone_escrow_api_Update_escrow_api_Update.n [v] G Q := by
  refine slices_Clone_escrow_api_Update_escrow_api_Update.sound ?_
  unfold slices_Clone_escrow_api_Update_escrow_api_Update.S
  rcases nil_test T_sl_api_Update rfl hl with ⟨rfl, h2, h3⟩ | h3
  · refine wv_of h3 ?_
    rw [brB_true]
    have s := (Sp.nil G).nilL 36
    rw [← h2] at s
    exact hQ _ _ s
  · refine wv_of h3 ?_
    rw [brB_false]
    refine buildL (T := T) (ts := t_sl_api_Update) (e := t_api_Update) (si := ti_sl_api_Update) (ie := ti_api_Update) (n := 0) (l := []) T_sl_api_Update rfl T_api_Update rfl rfl rfl rfl (by simp) (by decide) (Sp.nil G) fun v2 G3 s3 => ?_
    refine growL (T := T) (ts := t_sl_api_Update) (e := t_api_Update) (si := ti_sl_api_Update) (ie := ti_api_Update) (tx := t_sl_api_Update) (xi := ti_sl_api_Update) (i := 0) (vs := []) (xs := l.map UpdM.av) T_sl_api_Update rfl T_api_Update rfl (by decide) T_sl_api_Update (.inr ⟨_, rfl⟩) s3 rfl (hl.ch' s3.ch).elems (upds_uni hok).1 (upds_uni hok).2 (by rw [show ti_api_Update.bytes = 72 from rfl, List.length_map]; simp; omega) fun w G5 s5 => ?_
    exact hQ _ _ s5

set_option maxHeartbeats 4000000 in
theorem record_Apply.useG {f : StF} {r : RcM} {l : List UpdM} {v vo vp vh : AVal} (hT : TabAny G) (hS : StJ G f vo vp vh) (hr : r.ok) (hv : Leaf v) (hl : IsSl 36 G v (l.map UpdM.av)) (hok : ∀ u ∈ l, u.ok) (hlen : l.length ≤ 140737488351232)
    (hno : ∀ pt, putOk f.h r.index pt → apG f r l pt = false → ∀ G', Ch [] G [] G' → Q (.tuple [StM.zero.av .nilSlice .nilSlice .nilSlice, .int .i64 170]) G')
    (hQ : ∀ pt, putOk f.h r.index pt → apG f r l pt = true → ∀ wo wp wh G', Sp [] G [OwnL 34 wh ((applyG f r l pt).1.h.map SlotM.av), OwnL 36 wp ((applyG f r l pt).1.p.map UpdM.av), OwnL 36 wo ((applyG f r l pt).1.o.map UpdM.av)] G' → Q (.tuple [(applyG f r l pt).1.s.av wo wp wh, .int .i64 0]) G') : ACalls P record_Apply.n [f.s.av vo vp vh, r.av v] G Q := by
  have ho := hS.ok
  have lv := hS.lv
  refine record_Apply.sound ?_
  unfold record_Apply.S
  rw [zSta]
  unfold apG at hno hQ
  intro i1 f1
  have s1 := (Sp.nil G).row f1 (f.s.av vo vp vh)
  intro i3 f3
  have s3 := s1.row f3 (r.av v)
  intro i5 f5
  have s5 := s3.row f5 (StM.zero.av .nilSlice .nilSlice .nilSlice)
  revert s5
  generalize Heap.upd _ i5 _ = G6
  intro s5
  refine wv_of (Rc.ld (RowL.own (i := 1) s5 rfl) hr hv) ?_
  refine record_changed.use hr hv (hl.ch' s5.ch) hok hlen fun G9 c9 => ?_
  have s9 := s5.tmp c9
  have s9 : Sp [] G [RowL i5 (StM.zero.av .nilSlice .nilSlice .nilSlice), RowL i3 (r.av v), RowL i1 (f.s.av vo vp vh)] G9 := s9
  cases hval : validR r l with
  | false =>
    rw [hval] at hno
    refine wv_of nil_nil ?_
    rw [brB_true]
    refine wv_of (v := StM.zero.av .nilSlice .nilSlice .nilSlice) rfl ?_
    refine St.st (i := 0) s9 rfl StM.zero_ok lv0 StM.zero_ok lv0 fun G12 s12 => ?_
    refine wv_of (St.ld (RowL.own (i := 0) s12 rfl) StM.zero_ok lv0) ?_
    exact hno _ (putOk_any _ _) rfl _ s12.ch
  | true =>
  rw [hval] at hno hQ
  have hl5 := validR_len hval
  refine wv_of (nil_chg (kind_of (valR_spec hval).1)) ?_
  rw [brB_false]
  have hg := RowL.own (i := 2) s9 rfl
  refine wv_of (St.ld_ours hg ho lv) ?_
  refine wv_of (St.ld_peers hg ho lv) ?_
  refine wv_of (St.ld_shelf hg ho lv) ?_
  refine clone_updB.use (hS.o.ch' s9.ch) hS.oko hS.lo fun wo G18 t18 => ?_
  obtain ⟨F18, o18, c18⟩ := t18.out
  have s18 := s9.new o18 c18
  have hg := RowL.own (i := 3) s18 rfl
  refine ⟨⟨St.ld_shelf hg ho lv, St.ld_peers hg ho lv, trivial⟩, ?_⟩
  refine clone_updB.use (hS.p.ch' s18.ch) hS.okp hS.lp fun wp G20 t20 => ?_
  obtain ⟨F20, o20, c20⟩ := t20.out
  have s20 := s18.new o20 c20
  have hg := RowL.own (i := 4) s20 rfl
  refine ⟨⟨St.ld_shelf hg ho lv, trivial⟩, ?_⟩
  refine clone_slot.use (hS.h.ch' s20.ch) hS.okh hS.lh fun wh G22 t22 => ?_
  obtain ⟨F22, o22, c22⟩ := t22.out
  have s22 := s20.new o22 c22
  have lo := (OwnL.own (i := 2) s22 rfl).leaf
  have lp := (OwnL.own (i := 1) s22 rfl).leaf
  have lh := (OwnL.own (i := 0) s22 rfl).leaf
  refine St.st_ours (i := 5) s22 rfl ho lv lo fun G23 s23 => ?_
  refine St.st_peers (i := 5) s23 rfl ho ⟨lo, lv.2.1, lv.2.2⟩ lp fun G24 s24 => ?_
  refine St.st_shelf (i := 5) s24 rfl ho ⟨lo, lp, lv.2.2⟩ lh fun G25 s25 => ?_
  have s25 : Sp [] G [OwnL 34 wh (f.h.map SlotM.av), OwnL 36 wp (f.p.map UpdM.av), OwnL 36 wo (f.o.map UpdM.av), RowL i5 (StM.zero.av .nilSlice .nilSlice .nilSlice), RowL i3 (r.av v), RowL i1 (f.s.av wo wp wh)] G25 := s25
  refine chg_applyG hT hr hv hl hok (by omega) (kind_of (valR_spec hval).1) ho hS.oko hS.okp hS.okh hS.lo hS.lp hS.lh s25 (fun pt hp hap wp' X G27 s27 => ?_) (fun pt hp hap wo' wp' wh' G27 s27 => ?_)
  · rw [vun_not, wv_some, Bool.not_false, brB_true]
    refine wv_of (v := StM.zero.av .nilSlice .nilSlice .nilSlice) rfl ?_
    refine St.st (i := 3) s27 rfl StM.zero_ok lv0 StM.zero_ok lv0 fun G30 s30 => ?_
    refine wv_of (St.ld (RowL.own (i := 3) s30 rfl) StM.zero_ok lv0) ?_
    exact hno pt hp (by rw [hap]; rfl) _ s30.ch
  · have lo' := (OwnL.own (i := 2) s27 rfl).leaf
    have lp' := (OwnL.own (i := 1) s27 rfl).leaf
    have lh' := (OwnL.own (i := 0) s27 rfl).leaf
    have hso := applyG_ok (pt := pt) ho hr hl5 hS.lp
    rw [vun_not, wv_some, Bool.not_true, brB_false]
    refine wv_of (St.ld (RowL.own (i := 5) s27 rfl) hso ⟨lo', lp', lh'⟩) ?_
    refine St.st (i := 3) s27 rfl StM.zero_ok lv0 hso ⟨lo', lp', lh'⟩ fun G33 s33 => ?_
    refine wv_of (St.ld (RowL.own (i := 3) s33 rfl) hso ⟨lo', lp', lh'⟩) ?_
    exact hQ pt hp (by rw [hap]; rfl) wo' wp' wh' _ (((s33.erase 3).erase 3).erase 3)

end
end Go.Esc.M

/- Own work. Chapter 17: RecordSteps: the right record of each kind, and the same with another index, whatever Go's table holds. -/
set_option linter.unusedSimpArgs false
set_option linter.unusedVariables false
set_option maxRecDepth 20000
namespace Go.Esc.M
open Go Go.Esc

theorem andG {T : Tbl} {t : TypeId} (a : Int) {m M : Int} (k : Nat) (hk : k ≤ 63) (hm : m = ((2 ^ k - 1 : Nat) : Int)) (hM : M = ((2 ^ k : Nat) : Int)) : vbin T .and t (.int .i64 a) (.int .i64 m) = some (.int .i64 (a % M)) := by
  subst hm hM
  rw [vbin_and, and_mask a k hk]
theorem addG {T : Tbl} {t : TypeId} {x k : Int} (h0 : -9223372036854775808 ≤ x + k) (h1 : x + k ≤ 9223372036854775807) : vbin T .add t (.int .i64 x) (.int .i64 k) = some (.int .i64 (x + k)) := by
  rw [vbin_add, i64_in h0 h1]
theorem pair_neqG (a b : Int) : vbin T .neq t_api_Counts (pairW a b) (pairW a b) = some (.bool false) := by
  have : veqD T 9 t_api_Counts (pairW a b) (pairW a b) = some true := by
    simp [pairW, veqD, eqF, T_api_Counts, ti_api_Counts, T_int, ti_int, vfits, sz, szs, AVal.isAgg, ADesc.isAgg]
  simp [vbin, pairW] at this ⊢
  rw [this]
  rfl
theorem h2_neqG {a b : List UInt8} (ha : a.length = 32) (hb : b.length = 32) : vbin T .neq t_ar2_api_Hash (hash2V a b) (hash2V a b) = some (.bool false) := by
  have e1 : ∀ {x : List UInt8}, x.length = 32 → veqD T 8 t_api_Hash (.agg (x.map u8v)) (.agg (x.map u8v)) = some true := fun {x} hx => by
    rw [veqD_arr T_api_Hash rfl T_uint8, eqA_u8 T_uint8 rfl rfl 6 32 x x hx hx]; simp
  have f1 : vfits ti_api_Hash (.agg (a.map u8v)) = true := fits_hash ha
  have f2 : vfits ti_api_Hash (.agg (b.map u8v)) = true := fits_hash hb
  simp only [vbin, hash2V, veqD_arr T_ar2_api_Hash rfl T_api_Hash, eqA, f1, f2, e1 ha, e1 hb, Bool.and_self, if_true]
  rfl
theorem bR3n {i : Int} {s : List UInt8} (hs : s.length = 32) : vbuild T t_api_Record [(0, .int .i64 3), (3, .int .i64 i), (5, .agg (s.map u8v))] = some (({ RcM.zero with kind := 3, index := i, sig := s } : RcM).av .nilSlice) :=
  build_rc (fun p hp => by
    simp only [List.mem_cons, List.not_mem_nil, or_false] at hp
    rcases hp with rfl | rfl | rfl
    · rfl
    · rfl
    · exact szHash0 hs) rfl

theorem kG2 {f : StF} {r : RcM} {l : List UpdM} {pt : Option (List SlotM)} (h : r.kind = 2) : applyG f r l pt = if signB f r then (f, false) else (⟨{ f.s with rem := r.index, sgnA := r.cntA, sgnB := r.cntB, behind := true }, f.o, f.p, f.h⟩, true) := by
  unfold applyG
  rw [if_neg (by omega), if_pos h]
theorem kG3 {f : StF} {r : RcM} {l : List UpdM} {pt : Option (List SlotM)} (h : r.kind = 3) : applyG f r l pt = if cameB f r ∨ okC f.o (heldP f) l = false then (f, false) else (⟨{ f.s with loc := r.index, sig := r.sig, behind := false, atA := f.s.heldA, atB := ((heldP f ++ l).length : Nat) }, f.o, heldP f ++ l, f.h⟩, true) := by
  unfold applyG
  rw [if_neg (by omega), if_neg (by omega), if_pos h]
theorem kG4 {f : StF} {r : RcM} {l : List UpdM} {pt : Option (List SlotM)} (h : r.kind = 4) : applyG f r l pt = if revB f r then (f, false) else match pt with
    | none => (f, false)
    | some h => (⟨{ f.s with ack := IntKind.i64.wrap (f.s.ack + 1), heldA := f.s.sgnA, heldB := f.s.sgnB, ptsA := f.s.ptsB, ptsB := r.point }, f.o, f.p, h⟩, true) := by
  unfold applyG
  rw [if_neg (by omega), if_neg (by omega), if_neg (by omega), if_pos h] <;> rfl
theorem kG5 {f : StF} {r : RcM} {l : List UpdM} {pt : Option (List SlotM)} (h : r.kind = 5) : applyG f r l pt = ((if f.s.failed = 0 then ⟨{ f.s with failed := r.code }, f.o, f.p, f.h⟩ else f), true) := by
  unfold applyG
  rw [if_neg (by omega), if_neg (by omega), if_neg (by omega), if_neg (by omega), if_pos h]
theorem kG6 {f : StF} {r : RcM} {l : List UpdM} {pt : Option (List SlotM)} (h : r.kind = 6) : applyG f r l pt = if r.index ≠ f.s.loc then (f, false) else (⟨{ f.s with closed := r.index }, f.o, f.p, f.h⟩, true) := by
  unfold applyG
  rw [if_neg (by omega), if_neg (by omega), if_neg (by omega), if_neg (by omega), if_neg (by omega)]

def s0G (a b : Int) : StM := { StM.zero with loc := a, rem := b, ack := b, closed := -1 }
theorem build_s0G {a b : Int} : vbuild T t_api_State [(6, .int .i64 a), (7, .int .i64 b), (8, .int .i64 b), (17, .int .i64 (-1))] = some ((s0G a b).av .nilSlice .nilSlice .nilSlice) := rfl
def r2G (x p q : Int) : RcM := { RcM.zero with kind := 2, index := x, cntA := p, cntB := q }
def r3G (x : Int) (h : List UInt8) : RcM := { RcM.zero with kind := 3, index := x, sig := h }
def r4G (x : Int) (h : List UInt8) : RcM := { RcM.zero with kind := 4, index := x, secret := h, point := h }
def r5G (x : Int) : RcM := { RcM.zero with kind := 5, code := x }
def r6G (x : Int) : RcM := { RcM.zero with kind := 6, index := x }
theorem bR2n {x : Int} : vbuild T t_api_Record [(0, .int .i64 2), (3, .int .i64 x)] = some ((r2G x 0 0).av .nilSlice) := rfl
theorem r2G_ok {x p q : Int} (h : I64 x) (hp : I64 p) (hq : I64 q) : (r2G x p q).ok := ⟨i64_n 2 (by decide) (by decide), UpdM.zero_ok, h, hp, hq, rfl, rfl, rfl, i64_0⟩
theorem r3G_ok {x : Int} {s : List UInt8} (h : I64 x) (hs : s.length = 32) : (r3G x s).ok := ⟨i64_n 3 (by decide) (by decide), UpdM.zero_ok, h, i64_0, i64_0, hs, rfl, rfl, i64_0⟩
theorem r4G_ok {x : Int} {s : List UInt8} (h : I64 x) (hs : s.length = 32) : (r4G x s).ok := ⟨i64_n 4 (by decide) (by decide), UpdM.zero_ok, h, i64_0, i64_0, rfl, hs, hs, i64_0⟩
theorem r5G_ok {x : Int} (h : I64 x) : (r5G x).ok := ⟨i64_n 5 (by decide) (by decide), UpdM.zero_ok, i64_0, i64_0, i64_0, rfl, rfl, rfl, h⟩
theorem r6G_ok {x : Int} (h : I64 x) : (r6G x).ok := ⟨i64_n 6 (by decide) (by decide), UpdM.zero_ok, h, i64_0, i64_0, rfl, rfl, rfl, i64_0⟩
theorem v2G {x : Int} (h0 : 0 ≤ x) (h1 : x ≤ 281474976710655) : validR (r2G x 0 0) [] = true := by
  simp [validR, validK, namedK, listK, r2G, isIdx, isCnt, h0, h1]
theorem v3G {x : Int} {s : List UInt8} (h0 : 0 ≤ x) (h1 : x ≤ 281474976710655) : validR (r3G x s) [] = true := by
  simp [validR, validK, namedK, listK, r3G, isIdx, isCnt, h0, h1]
theorem v4G {x : Int} {s : List UInt8} (h0 : 0 ≤ x) (h1 : x ≤ 281474976710655) : validR (r4G x s) [] = true := by
  simp [validR, validK, namedK, listK, r4G, isIdx, isCnt, h0, h1]
theorem v5G {x : Int} (h0 : 1 ≤ x) (h1 : x ≤ 65535) : validR (r5G x) [] = true := by
  simp [validR, validK, namedK, listK, r5G, isIdx, isCnt, h0, h1]
theorem v5Gn {x : Int} (h0 : x ≤ 0) : validR (r5G x) [] = false := by
  have : ¬ (1 ≤ x) := by omega
  simp [validR, validK, namedK, listK, r5G, isIdx, isCnt, this]
theorem v6G {x : Int} (h0 : 0 ≤ x) (h1 : x ≤ 281474976710655) : validR (r6G x) [] = true := by
  simp [validR, validK, namedK, listK, r6G, isIdx, isCnt, h0, h1]

section
variable {F0 : List AId} {G0 G : Heap} {ps : List LP} {Q : AVal → Heap → Prop}

theorem apNoG {f : StF} {r : RcM} {vo vp vh : AVal} (s : Sp [] G0 ps G) (hT : TabAny G) (hS : StJ G f vo vp vh) (hr : r.ok)
    (hn : ∀ pt, putOk f.h r.index pt → (applyG f r [] pt).2 = false)
    (k : ∀ G', Sp [] G0 ps G' → Q (.tuple [StM.zero.av .nilSlice .nilSlice .nilSlice, .int .i64 170]) G') : ACalls P record_Apply.n [f.s.av vo vp vh, r.av .nilSlice] G Q := by
  refine record_Apply.useG (l := []) hT hS hr Leaf.nil (.inr ⟨rfl, rfl⟩) (fun u hu => by cases hu) (by simp) (fun pt hp h G' c => k _ (s.tmp c)) (fun pt hp h => ?_)
  rw [apG, hn pt hp, Bool.and_false] at h
  cases h
theorem apYesG {f : StF} {r : RcM} {vo vp vh : AVal} (s : Sp [] G0 ps G) (hT : TabAny G) (hS : StJ G f vo vp vh) (hr : r.ok) (X : StF → Prop) (hv : validR r [] = true)
    (hn : ∀ pt, putOk f.h r.index pt → (applyG f r [] pt).2 = true ∧ X (applyG f r [] pt).1)
    (k : ∀ f' wo wp wh G', X f' → Leaf wo ∧ Leaf wp ∧ Leaf wh → Sp [] G0 (OwnL 34 wh (f'.h.map SlotM.av) :: OwnL 36 wp (f'.p.map UpdM.av) :: OwnL 36 wo (f'.o.map UpdM.av) :: ps) G' → Q (.tuple [f'.s.av wo wp wh, .int .i64 0]) G') : ACalls P record_Apply.n [f.s.av vo vp vh, r.av .nilSlice] G Q := by
  refine record_Apply.useG (l := []) hT hS hr Leaf.nil (.inr ⟨rfl, rfl⟩) (fun u hu => by cases hu) (by simp) (fun pt hp h => ?_) (fun pt hp h wo wp wh G' t => ?_)
  · rw [apG, hv, (hn pt hp).1] at h
    cases h
  · have s' := sp_app17 s t
    exact k _ wo wp wh _ (hn pt hp).2 ⟨(OwnL.own (i := 2) s' rfl).leaf, (OwnL.own (i := 1) s' rfl).leaf, (OwnL.own (i := 0) s' rfl).leaf⟩ s'

theorem stJ_nil {s : StM} (h : s.ok) (G : Heap) : StJ G ⟨s, [], [], []⟩ .nilSlice .nilSlice .nilSlice :=
  ⟨h, .inr ⟨rfl, rfl⟩, .inr ⟨rfl, rfl⟩, .inr ⟨rfl, rfl⟩, lv0, (fun u hu => by cases hu), (fun u hu => by cases hu), (fun u hu => by cases hu), by simp, by simp, by simp⟩
theorem stJ_own {s : StM} {wo wp wh : AVal} {i : Nat} (h : s.ok) (hs : Sp [] G0 ps G) (h0 : ps[i]? = some (OwnL 34 wh [])) (h1 : ps[i + 1]? = some (OwnL 36 wp [])) (h2 : ps[i + 2]? = some (OwnL 36 wo [])) : StJ G ⟨s, [], [], []⟩ wo wp wh :=
  ⟨h, (OwnL.own hs h2).is, (OwnL.own hs h1).is, (OwnL.own hs h0).is, ⟨(OwnL.own hs h2).leaf, (OwnL.own hs h1).leaf, (OwnL.own hs h0).leaf⟩, (fun u hu => by cases hu), (fun u hu => by cases hu), (fun u hu => by cases hu), by simp, by simp, by simp⟩

set_option maxHeartbeats 8000000 in
theorem law_RecordSteps {a0 a1 a2 a3 a4 : AVal} {m1 m2 m3 m4 m5 : Nat} (hT : TabAny G) (h1 : wt T G reachBytes 4 t_int64 a0 m1) (h2 : wt T G reachBytes 4 t_int64 a1 m2) (h3 : wt T G reachBytes 4 t_api_Counts a2 m3) (h4 : wt T G reachBytes 4 t_api_Hash a3 m4) (h5 : wt T G reachBytes 4 t_int a4 m5) :
    ACalls P escrowlaw17_RecordSteps.n [a0, a1, a2, a3, a4] G fun v _ => v = .bool true := by
  obtain ⟨la, rfl, _, _⟩ := wt_int T_int64 rfl h1
  obtain ⟨lb, rfl, _, _⟩ := wt_int T_int64 rfl h2
  obtain ⟨cO, cP, rfl, wO, wP⟩ := wt_PairB h3
  obtain ⟨h, rfl, hh, _⟩ := wt_hash T_api_Hash rfl T_uint8 rfl h4
  obtain ⟨code, rfl, _, _⟩ := wt_int T_int rfl h5
  refine escrowlaw17_RecordSteps.sound ?_
  unfold escrowlaw17_RecordSteps.S
  intro i1 f1
  have s1 := (Sp.nil G).row f1 (pairW cO cP)
  intro i3 f3
  have s3 := s1.row f3 (.agg (h.map u8v))
  revert s3
  generalize Heap.upd _ i3 _ = G4
  intro s3
  refine escrowlaw17_head.use fun G6 c6 => ?_
  have s6 := s3.tmp c6
  rw [vun_not, wv_some, Bool.not_true, brB_false]
  refine wv_of (andG la (M := 1099511627776) 40 (by decide) (by decide) (by decide)) ?_
  refine wv_of (andG lb (M := 1099511627776) 40 (by decide) (by decide) (by decide)) ?_
  obtain ⟨a, ha⟩ : ∃ a, a = la % 1099511627776 := ⟨_, rfl⟩
  obtain ⟨b, hb⟩ : ∃ b, b = lb % 1099511627776 := ⟨_, rfl⟩
  rw [← ha, ← hb]
  have ha0 : 0 ≤ a := by omega
  have ha1 : a ≤ 1099511627775 := by omega
  have hb0 : 0 ≤ b := by omega
  have hb1 : b ≤ 1099511627775 := by omega
  clear ha hb
  have ia : ∀ k : Int, 0 ≤ k → k ≤ 2 → I64 (a + k) := fun k _ _ => ⟨by omega, by omega⟩
  have ib : ∀ k : Int, 0 ≤ k → k ≤ 2 → I64 (b + k) := fun k _ _ => ⟨by omega, by omega⟩
  have Ia : I64 a := ⟨by omega, by omega⟩
  have Ib : I64 b := ⟨by omega, by omega⟩
  have i1' : I64 1 := i64_n 1 (by decide) (by decide)
  have im : I64 (-1) := i64_n (-1) (by decide) (by decide)
  refine wv_of build_s0G ?_
  have o0 : (s0G a b).ok := ⟨i64_0, i64_0, i64_0, i64_0, Ia, Ib, Ib, i64_0, i64_0, i64_0, i64_0, i64_0, i64_0, rfl, rfl, rfl, i64_0, im⟩
  refine St.nw s6 o0 lv0 fun i11 G13 s13 => ?_
  refine wv_of (count_load (RowL.own (i := 2) s13 rfl)).2.1 ?_
  refine St.st_sgnB (i := 0) s13 rfl o0 lv0 cP fun G15 s15 => ?_
  have o1 : ({ s0G a b with sgnB := cP } : StM).ok := ⟨i64_0, i64_0, i64_0, i64_0, Ia, Ib, Ib, i64_0, i64_0, i64_0, wP, i64_0, i64_0, rfl, rfl, rfl, i64_0, im⟩
  refine wv_of (count_load (RowL.own (i := 2) s15 rfl)).1 ?_
  refine St.st_heldB (s := { s0G a b with sgnB := cP }) (i := 0) s15 rfl o1 lv0 cO fun G17 s17 => ?_
  obtain ⟨S, hS⟩ : ∃ S : StM, S = { s0G a b with sgnB := cP, heldB := cO } := ⟨_, rfl⟩
  have s17 : Sp [] G [RowL i11 (S.av .nilSlice .nilSlice .nilSlice), RowL i3 (.agg (h.map u8v)), RowL i1 (pairW cO cP)] G17 := hS ▸ s17
  have oS : S.ok := by rw [hS]; exact ⟨i64_0, i64_0, i64_0, i64_0, Ia, Ib, Ib, i64_0, i64_0, i64_0, wP, i64_0, wO, rfl, rfl, rfl, i64_0, im⟩
  have tb : ∀ {ps : List LP} {G' : Heap}, Sp [] G ps G' → TabAny G' := fun s => hT.mono s.ro
  have zj : ∀ G', StJ G' ⟨S, [], [], []⟩ .nilSlice .nilSlice .nilSlice := stJ_nil oS
  obtain ⟨R, hR⟩ : ∃ R : StM, R = { S with rem := b + 1, sgnA := 0, sgnB := 0, behind := true } := ⟨_, rfl⟩
  have oR : R.ok := by rw [hR, hS]; exact ⟨i64_0, i64_0, i64_0, i64_0, Ia, ib 1 (by decide) (by decide), Ib, i64_0, i64_0, i64_0, i64_0, i64_0, wO, rfl, rfl, rfl, i64_0, im⟩
  refine wv_of (St.ld (RowL.own (i := 0) s17 rfl) oS lv0) ?_
  refine wv_of (addG (by omega) (by omega)) ?_
  refine wv_of bR2n ?_
  refine apYesG (f := ⟨S, [], [], []⟩) s17 (tb s17) (zj _) (r2G_ok (ib 1 (by decide) (by decide)) i64_0 i64_0) (fun f' => f' = ⟨R, [], [], []⟩) (v2G (by omega) (by omega)) (fun pt _ => ?_) fun f' wo wp wh G22 hf lw s22 => ?_
  · have e : ¬ signB ⟨S, [], [], []⟩ (r2G (b + 1) 0 0) := by
      simp only [signB, r2G, hS, s0G, StM.zero, RcM.zero, i64_in (show -9223372036854775808 ≤ b + 1 by omega) (by omega)]
      simp
    rw [kG2 rfl, if_neg e, hR]
    exact ⟨rfl, rfl⟩
  subst hf
  refine wv_of (tv0 _ _) ?_
  refine wv_of (tv1 _ _) ?_
  refine St.nw s22 oR lw fun i25 G27 s27 => ?_
  have no2 : ∀ (x p q : Int) (pt : Option (List SlotM)), x ≠ b + 1 ∨ q ≠ 0 ∨ 0 < p → (applyG ⟨S, [], [], []⟩ (r2G x p q) [] pt).2 = false := by
    intro x p q pt hx
    have e : signB ⟨S, [], [], []⟩ (r2G x p q) := by
      simp only [signB, r2G, hS, s0G, StM.zero, RcM.zero, i64_in (show -9223372036854775808 ≤ b + 1 by omega) (by omega)]
      rcases hx with hx | hx | hx
      · exact .inr (.inl hx)
      · exact .inr (.inr (.inl hx))
      · exact .inr (.inr (.inr (.inr hx)))
    rw [kG2 rfl, if_pos e]
  -- kind 2, another index
  refine wv_of (St.ld (RowL.own (i := 4) s27 rfl) oS lv0) ?_
  refine wv_of bR2n ?_
  refine apNoG (f := ⟨S, [], [], []⟩) s27 (tb s27) (zj _) (r2G_ok Ib i64_0 i64_0) (fun pt _ => no2 _ _ _ pt (.inl (by omega))) fun G31 s31 => ?_
  refine wv_of (tv0 _ _) ?_
  refine wv_of (tv1 _ _) ?_
  refine St.nw s31 StM.zero_ok lv0 fun i34 G36 s36 => ?_
  have s36 := s36.erase 0
  refine wv_of (St.ld (RowL.own (i := 4) s36 rfl) oS lv0) ?_
  refine wv_of (addG (by omega) (by omega)) ?_
  refine wv_of bR2n ?_
  refine apNoG (f := ⟨S, [], [], []⟩) s36 (tb s36) (zj _) (r2G_ok (ib 2 (by decide) (by decide)) i64_0 i64_0) (fun pt _ => no2 _ _ _ pt (.inl (by omega))) fun G41 s41 => ?_
  refine wv_of (tv0 _ _) ?_
  refine wv_of (tv1 _ _) ?_
  refine St.nw s41 StM.zero_ok lv0 fun i44 G46 s46 => ?_
  have s46 := s46.erase 0
  refine wv_of (St.ld (RowL.own (i := 4) s46 rfl) oS lv0) ?_
  refine wv_of (addG (by omega) (by omega)) ?_
  refine wv_of (v := pairW 1 0) rfl ?_
  refine wv_of bR2 ?_
  refine apNoG (f := ⟨S, [], [], []⟩) (r := r2G (b + 1) 1 0) s46 (tb s46) (zj _) (r2G_ok (ib 1 (by decide) (by decide)) i1' i64_0) (fun pt _ => no2 _ _ _ pt (.inr (.inr (by decide)))) fun G52 s52 => ?_
  refine wv_of (tv0 _ _) ?_
  refine wv_of (tv1 _ _) ?_
  refine St.nw s52 StM.zero_ok lv0 fun i55 G57 s57 => ?_
  have s57 := s57.erase 0
  refine wv_of (St.ld (RowL.own (i := 4) s57 rfl) oS lv0) ?_
  refine wv_of (addG (by omega) (by omega)) ?_
  refine wv_of (v := pairW 0 1) rfl ?_
  refine wv_of bR2 ?_
  refine apNoG (f := ⟨S, [], [], []⟩) (r := r2G (b + 1) 0 1) s57 (tb s57) (zj _) (r2G_ok (ib 1 (by decide) (by decide)) i64_0 i1') (fun pt _ => no2 _ _ _ pt (.inr (.inl (by decide)))) fun G63 s63 => ?_
  refine wv_of (tv0 _ _) ?_
  refine wv_of (tv1 _ _) ?_
  refine St.nw s63 StM.zero_ok lv0 fun i66 G68 s68 => ?_
  have s68 := s68.erase 0
  have s68 : Sp [] G [RowL i25 (R.av wo wp wh), OwnL 34 wh [], OwnL 36 wp [], OwnL 36 wo [], RowL i11 (S.av .nilSlice .nilSlice .nilSlice), RowL i3 (.agg (h.map u8v)), RowL i1 (pairW cO cP)] G68 := s68
  intro J231
  have z170 : ∀ {t : TypeId}, vbin T .neq t (.int .i64 170) (.int .i64 170) = some (.bool false) := nz0
  have gR := RowL.own (i := 0) s68 rfl
  have rR : R.rem = b + 1 := by rw [hR]
  have aR : R.ack = b := by rw [hR, hS]; rfl
  have lR : R.loc = a := by rw [hR, hS]; rfl
  have next1 : J231 (.bool false) G68 := by
    simp -zeta only [J231, brB_false]
    -- kind 4
    refine wv_of (St.ld gR oR lw) ?_
    refine wv_of (load_hash hh (RowL.own (i := 5) s68 rfl)) ?_
    refine wv_of (load_hash hh (RowL.own (i := 5) s68 rfl)) ?_
    refine wv_of (bR4 hh hh) ?_
    refine apYesG (f := ⟨R, [], [], []⟩) (r := r4G b h) s68 (tb s68) (stJ_own (i := 1) oR s68 rfl rfl rfl) (r4G_ok Ib hh) (fun f' => ∃ sh, sh.length = 49 ∧ f' = ⟨{ R with ack := b + 1, heldA := 0, heldB := 0, ptsA := h0, ptsB := h }, [], [], sh⟩) (v4G (by omega) (by omega)) (fun pt hp => ?_) fun f' xo xp xh G89 hf lx s89 => ?_
    · have e : ¬ revB ⟨R, [], [], []⟩ (r4G b h) := by
        simp only [revB, r4G, rR, aR, i64_in (show -9223372036854775808 ≤ b + 1 by omega) (by omega)]
        simp
      obtain ⟨sh, hsh⟩ : ∃ sh, pt = some sh := by
        have := hp.2 rfl (by rw [okN_iff]; exact ⟨hb0, by show b ≤ _; omega⟩)
        cases pt with
        | none => cases this
        | some sh => exact ⟨sh, rfl⟩
      have := hp.1 sh hsh
      rw [kG4 rfl, if_neg e, hsh]
      refine ⟨rfl, sh, this.1, ?_⟩
      simp only [aR, i64_in (show -9223372036854775808 ≤ b + 1 by omega) (show b + 1 ≤ 9223372036854775807 by omega)]
      rw [hR, hS]
      rfl
    obtain ⟨sh, hsh, rfl⟩ := hf
    obtain ⟨U, hU⟩ : ∃ U : StM, U = { R with ack := b + 1, heldA := 0, heldB := 0, ptsA := h0, ptsB := h } := ⟨_, rfl⟩
    have oU : U.ok := by rw [hU, hR, hS]; exact ⟨i64_0, i64_0, i64_0, i64_0, Ia, ib 1 (by decide) (by decide), ib 1 (by decide) (by decide), i64_0, i64_0, i64_0, i64_0, i64_0, i64_0, rfl, hh, rfl, i64_0, im⟩
    rw [← hU] at s89 ⊢
    refine wv_of (tv0 _ _) ?_
    refine wv_of (tv1 _ _) ?_
    refine St.nw s89 oU lx fun i92 G94 s94 => ?_
    have no4 : ∀ (f : StF) (x : Int) (pt : Option (List SlotM)), revB f (r4G x h) → (applyG f (r4G x h) [] pt).2 = false := by
      intro f x pt e
      rw [kG4 rfl, if_pos e]
    refine wv_of (St.ld (RowL.own (i := 4) s94 rfl) oR lw) ?_
    refine wv_of (addG (by omega) (by omega)) ?_
    refine wv_of (load_hash hh (RowL.own (i := 9) s94 rfl)) ?_
    refine wv_of (load_hash hh (RowL.own (i := 9) s94 rfl)) ?_
    refine wv_of (bR4 hh hh) ?_
    refine apNoG (f := ⟨R, [], [], []⟩) (r := r4G (b + 1) h) s94 (tb s94) (stJ_own (i := 5) oR s94 rfl rfl rfl) (r4G_ok (ib 1 (by decide) (by decide)) hh) (fun pt _ => no4 _ _ pt (.inr (by show b + 1 ≠ R.ack; rw [aR]; omega))) fun G101 s101 => ?_
    refine wv_of (tv0 _ _) ?_
    refine wv_of (tv1 _ _) ?_
    refine wv_of (St.ld (RowL.own (i := 8) s101 rfl) oS lv0) ?_
    refine wv_of (load_hash hh (RowL.own (i := 9) s101 rfl)) ?_
    refine wv_of (load_hash hh (RowL.own (i := 9) s101 rfl)) ?_
    refine wv_of (bR4 hh hh) ?_
    refine apNoG (f := ⟨S, [], [], []⟩) (r := r4G b h) s101 (tb s101) (zj _) (r4G_ok Ib hh) (fun pt _ => no4 _ _ pt (.inl (by
      simp only [hS, s0G, i64_in (show -9223372036854775808 ≤ b + 1 by omega) (show b + 1 ≤ 9223372036854775807 by omega)]
      omega))) fun G109 s109 => ?_
    refine wv_of (tv0 _ _) ?_
    refine wv_of (tv1 _ _) ?_
    intro J230
    have next2 : ∀ G', Sp [] G [RowL i25 (R.av wo wp wh), OwnL 34 wh [], OwnL 36 wp [], OwnL 36 wo [], RowL i11 (S.av .nilSlice .nilSlice .nilSlice), RowL i3 (.agg (h.map u8v)), RowL i1 (pairW cO cP)] G' → J230 (.bool false) G' := by
      intro G129 s129
      simp -zeta only [J230, brB_false]
      -- kind 3
      refine wv_of (St.ld (RowL.own (i := 0) s129 rfl) oR lw) ?_
      refine wv_of (addG (by omega) (by omega)) ?_
      refine wv_of (load_hash hh (RowL.own (i := 5) s129 rfl)) ?_
      refine wv_of (bR3n hh) ?_
      have atR : R.atB = 0 := by rw [hR, hS]; rfl
      have c3 : ∀ x : Int, ¬ cameB ⟨R, [], [], []⟩ (r3G x h) ↔ x = a + 1 := fun x => by
        simp only [cameB, r3G, lR, atR, i64_in (show -9223372036854775808 ≤ a + 1 by omega) (show a + 1 ≤ 9223372036854775807 by omega)]
        simp
      refine apYesG (f := ⟨R, [], [], []⟩) (r := r3G (a + 1) h) s129 (tb s129) (stJ_own (i := 1) oR s129 rfl rfl rfl) (r3G_ok (ia 1 (by decide) (by decide)) hh) (fun f' => f' = ⟨{ R with loc := a + 1, sig := h, behind := false, atA := R.heldA, atB := 0 }, [], [], []⟩) (v3G (by omega) (by omega)) (fun pt hp => ?_) fun f' yo yp yh G136 hf ly s136 => ?_
      · have e : ¬ (cameB ⟨R, [], [], []⟩ (r3G (a + 1) h) ∨ okC [] (heldP ⟨R, [], [], []⟩) [] = false) := by
          rintro (x | x)
          · exact (c3 _).2 rfl x
          · exact absurd x (by simp [okC])
        have hp0 : heldP ⟨R, [], [], []⟩ = [] := by simp [heldP]
        rw [kG3 rfl, if_neg e, hp0]
        exact ⟨rfl, rfl⟩
      subst hf
      obtain ⟨V, hV⟩ : ∃ V : StM, V = { R with loc := a + 1, sig := h, behind := false, atA := R.heldA, atB := 0 } := ⟨_, rfl⟩
      have oV : V.ok := by rw [hV, hR, hS]; exact ⟨i64_0, i64_0, i64_0, i64_0, ia 1 (by decide) (by decide), ib 1 (by decide) (by decide), Ib, i64_0, i64_0, i64_0, i64_0, i64_0, wO, rfl, rfl, hh, i64_0, im⟩
      rw [← hV] at s136 ⊢
      refine wv_of (tv0 _ _) ?_
      refine wv_of (tv1 _ _) ?_
      refine St.nw s136 oV ly fun i139 G141 s141 => ?_
      have no3 : ∀ (x : Int) (pt : Option (List SlotM)), x ≠ a + 1 → (applyG ⟨R, [], [], []⟩ (r3G x h) [] pt).2 = false := by
        intro x pt hx
        have : cameB ⟨R, [], [], []⟩ (r3G x h) := Decidable.not_not.1 fun e => hx ((c3 x).1 e)
        rw [kG3 rfl, if_pos (.inl this)]
      refine wv_of (St.ld (RowL.own (i := 4) s141 rfl) oR lw) ?_
      refine wv_of (load_hash hh (RowL.own (i := 9) s141 rfl)) ?_
      refine wv_of (bR3n hh) ?_
      refine apNoG (f := ⟨R, [], [], []⟩) (r := r3G a h) s141 (tb s141) (stJ_own (i := 5) oR s141 rfl rfl rfl) (r3G_ok Ia hh) (fun pt _ => no3 _ pt (by omega)) fun G146 s146 => ?_
      refine wv_of (tv0 _ _) ?_
      refine wv_of (tv1 _ _) ?_
      refine wv_of (St.ld (RowL.own (i := 4) s146 rfl) oR lw) ?_
      refine wv_of (addG (by omega) (by omega)) ?_
      refine wv_of (load_hash hh (RowL.own (i := 9) s146 rfl)) ?_
      refine wv_of (bR3n hh) ?_
      refine apNoG (f := ⟨R, [], [], []⟩) (r := r3G (a + 2) h) s146 (tb s146) (stJ_own (i := 5) oR s146 rfl rfl rfl) (r3G_ok (ia 2 (by decide) (by decide)) hh) (fun pt _ => no3 _ pt (by omega)) fun G154 s154 => ?_
      refine wv_of (tv0 _ _) ?_
      refine wv_of (tv1 _ _) ?_
      intro J229
      have next3 : J229 (.bool false) G154 := by
        simp -zeta only [J229, brB_false]
        have s167 := (((s154.erase 0).erase 0).erase 0).erase 0
        have s167 : Sp [] G [RowL i25 (R.av wo wp wh), OwnL 34 wh [], OwnL 36 wp [], OwnL 36 wo [], RowL i11 (S.av .nilSlice .nilSlice .nilSlice), RowL i3 (.agg (h.map u8v)), RowL i1 (pairW cO cP)] G154 := s167
        -- kind 6
        have lS : S.loc = a := by rw [hS]; rfl
        refine wv_of (St.ld (RowL.own (i := 4) s167 rfl) oS lv0) ?_
        refine wv_of bR6 ?_
        refine apYesG (f := ⟨S, [], [], []⟩) (r := r6G a) s167 (tb s167) (zj _) (r6G_ok Ia) (fun f' => f' = ⟨{ S with closed := a }, [], [], []⟩) (v6G (by omega) (by omega)) (fun pt hp => ?_) fun f' zo zp zh G172 hf lz s172 => ?_
        · have e : ¬ (r6G a).index ≠ S.loc := by rw [lS]; exact fun h => h rfl
          rw [kG6 rfl, if_neg e]
          exact ⟨rfl, rfl⟩
        subst hf
        have oW : ({ S with closed := a } : StM).ok := by rw [hS]; exact ⟨i64_0, i64_0, i64_0, i64_0, Ia, Ib, Ib, i64_0, i64_0, i64_0, wP, i64_0, wO, rfl, rfl, rfl, i64_0, Ia⟩
        refine wv_of (tv0 _ _) ?_
        refine wv_of (tv1 _ _) ?_
        refine St.nw s172 oW lz fun i175 G177 s177 => ?_
        refine wv_of (St.ld (RowL.own (i := 8) s177 rfl) oS lv0) ?_
        refine wv_of (addG (by omega) (by omega)) ?_
        refine wv_of bR6 ?_
        refine apNoG (f := ⟨S, [], [], []⟩) (r := r6G (a + 1)) s177 (tb s177) (zj _) (r6G_ok (ia 1 (by decide) (by decide))) (fun pt _ => by
          have e : (r6G (a + 1)).index ≠ S.loc := by rw [lS]; show a + 1 ≠ a; omega
          rw [kG6 rfl, if_pos e]) fun G182 s182 => ?_
        refine wv_of (tv0 _ _) ?_
        refine wv_of (tv1 _ _) ?_
        refine wv_of (andG code (M := 65536) 16 (by decide) (by decide) (by decide)) ?_
        obtain ⟨k, hk⟩ : ∃ k, k = code % 65536 := ⟨_, rfl⟩
        rw [← hk]
        have hk0 : 0 ≤ k := by omega
        have hk1 : k ≤ 65535 := by omega
        clear hk
        have Ik : I64 k := ⟨by omega, by omega⟩
        refine wv_of (St.ld (RowL.own (i := 8) s182 rfl) oS lv0) ?_
        refine wv_of bR5 ?_
        have ap5 : ∀ (f : StF) (x : Int) (pt : Option (List SlotM)), applyG f (r5G x) [] pt = ((if f.s.failed = 0 then ⟨{ f.s with failed := x }, f.o, f.p, f.h⟩ else f), true) := by
          intro f x pt
          rw [kG5 rfl]
          rfl
        have fS : S.failed = 0 := by rw [hS]; rfl
        have gW : ∀ {ps : List LP} {G' : Heap}, Sp [] G (ps ++ [RowL i175 (({ S with closed := a } : StM).av zo zp zh), OwnL 34 zh [], OwnL 36 zp [], OwnL 36 zo [], RowL i25 (R.av wo wp wh), OwnL 34 wh [], OwnL 36 wp [], OwnL 36 wo [], RowL i11 (S.av .nilSlice .nilSlice .nilSlice), RowL i3 (.agg (h.map u8v)), RowL i1 (pairW cO cP)]) G' → G' i175 = some (.own (({ S with closed := a } : StM).av zo zp zh)) := fun {ps} {G'} s =>
          RowL.own (i := ps.length) s (by rw [List.getElem?_append_right (Nat.le_refl _), Nat.sub_self]; rfl)
        by_cases hk2 : 1 ≤ k
        · refine apYesG (f := ⟨S, [], [], []⟩) (r := r5G k) s182 (tb s182) (zj _) (r5G_ok Ik) (fun f' => f' = ⟨{ S with failed := k }, [], [], []⟩) (v5G hk2 hk1) (fun pt hp => ?_) fun f' qo qp qh G189 hf lq s189 => ?_
          · rw [ap5]
            show true = true ∧ (if S.failed = 0 then (⟨{ S with failed := k }, [], [], []⟩ : StF) else _) = _
            rw [if_pos fS]
            exact ⟨rfl, rfl⟩
          subst hf
          have oX : ({ S with failed := k } : StM).ok := by rw [hS]; exact ⟨i64_0, i64_0, i64_0, i64_0, Ia, Ib, Ib, i64_0, i64_0, i64_0, wP, i64_0, wO, rfl, rfl, rfl, Ik, im⟩
          refine wv_of (tv0 _ _) ?_
          refine wv_of (tv1 _ _) ?_
          refine St.nw s189 oX lq fun i192 G194 s194 => ?_
          intro J228
          have next4 : J228 (.bool false) G194 := by
            simp -zeta only [J228, brB_false]
            refine wv_of (St.ld (RowL.own (i := 0) s194 rfl) oX lq) ?_
            refine wv_of bR5 ?_
            refine apYesG (f := ⟨{ S with failed := k }, [], [], []⟩) (r := r5G 7) s194 (tb s194) (stJ_own (i := 1) oX s194 rfl rfl rfl) (r5G_ok (i64_n 7 (by decide) (by decide))) (fun f' => f' = ⟨{ S with failed := k }, [], [], []⟩) (v5G (by decide) (by decide)) (fun pt hp => ?_) fun f' uo up uh G210 hf lu s210 => ?_
            · rw [ap5]
              show true = true ∧ (if k = 0 then _ else (⟨{ S with failed := k }, [], [], []⟩ : StF)) = _
              rw [if_neg (by omega)]
              exact ⟨rfl, rfl⟩
            subst hf
            refine wv_of (tv0 _ _) ?_
            refine wv_of (tv1 _ _) ?_
            refine St.nw s210 oX lu fun i213 G215 s215 => ?_
            refine wv_of (v := .bool true) ez0 ?_
            rw [brB_true]
            refine wv_of nz0 ?_
            rw [brB_false]
            refine wv_of (v := .bool true) ez0 ?_
            rw [brB_true]
            refine wv_of (St.ld_failed (RowL.own (i := 0) s215 rfl) oX lu) ?_
            refine wv_of (v := .bool true) ez0 ?_
            rfl
          refine wv_of nz0 ?_
          rw [brB_false]
          refine wv_of (St.ld_closed (gW (ps := [_, _, _, _]) s194) oW lz) ?_
          refine wv_of (v := .bool false) nz0 ?_
          rw [brB_false]
          refine wv_of z170 ?_
          rw [brB_false]
          refine wv_of (v := .bool true) ez0 ?_
          rw [vbin_gtr, wv_some, decide_eq_true (by omega)]
          refine wv_of (v := .bool false) rfl ?_
          rw [brB_false]
          refine wv_of (v := .bool true) ez0 ?_
          rw [brB_true]
          refine wv_of (St.ld_failed (RowL.own (i := 0) s194 rfl) oX lq) ?_
          refine wv_of (v := .bool false) nz0 ?_
          exact next4
        · have hk3 : k = 0 := by omega
          refine record_Apply.useG (f := ⟨S, [], [], []⟩) (r := r5G k) (l := []) (tb s182) (zj _) (r5G_ok Ik) Leaf.nil (.inr ⟨rfl, rfl⟩) (fun u hu => by cases hu) (by simp) (fun pt hp _ G189 c189 => ?_) (fun pt hp h => ?_)
          rotate_left
          · rw [apG, v5Gn (by omega), Bool.false_and] at h
            cases h
          have s189 := s182.tmp c189
          refine wv_of (tv0 _ _) ?_
          refine wv_of (tv1 _ _) ?_
          refine St.nw s189 StM.zero_ok lv0 fun i192 G194 s194 => ?_
          intro J228
          have next4 : J228 (.bool false) G194 := by
            simp -zeta only [J228, brB_false]
            refine wv_of (St.ld (RowL.own (i := 0) s194 rfl) StM.zero_ok lv0) ?_
            refine wv_of bR5 ?_
            have oY : ({ StM.zero with failed := 7 } : StM).ok := ⟨i64_0, i64_0, i64_0, i64_0, i64_0, i64_0, i64_0, i64_0, i64_0, i64_0, i64_0, i64_0, i64_0, rfl, rfl, rfl, i64_n 7 (by decide) (by decide), i64_0⟩
            refine apYesG (f := ⟨StM.zero, [], [], []⟩) (r := r5G 7) s194 (tb s194) (stJ_nil StM.zero_ok _) (r5G_ok (i64_n 7 (by decide) (by decide))) (fun f' => f' = ⟨{ StM.zero with failed := 7 }, [], [], []⟩) (v5G (by decide) (by decide)) (fun pt hp => ?_) fun f' uo up uh G210 hf lu s210 => ?_
            · rw [ap5]
              exact ⟨rfl, rfl⟩
            subst hf
            refine wv_of (tv0 _ _) ?_
            refine wv_of (tv1 _ _) ?_
            refine St.nw s210 oY lu fun i213 G215 s215 => ?_
            refine wv_of (v := .bool true) ez0 ?_
            rw [brB_true]
            refine wv_of (v := .bool true) rfl ?_
            rw [brB_true]
            refine wv_of (St.ld_failed (RowL.own (i := 0) s215 rfl) oY lu) ?_
            refine wv_of (v := .bool true) ez0 ?_
            rw [brB_true]
            trivial
          refine wv_of nz0 ?_
          rw [brB_false]
          refine wv_of (St.ld_closed (gW (ps := [_]) s194) oW lz) ?_
          refine wv_of (v := .bool false) nz0 ?_
          rw [brB_false]
          refine wv_of z170 ?_
          rw [brB_false]
          refine wv_of (v := .bool false) rfl ?_
          rw [vbin_gtr, wv_some, decide_eq_false (by omega)]
          refine wv_of (v := .bool false) rfl ?_
          rw [brB_false]
          refine wv_of (v := .bool false) rfl ?_
          rw [brB_false]
          exact next4
      refine wv_of nz0 ?_
      rw [brB_false]
      have g139 := RowL.own (i := 0) s154 rfl
      have lV : V.loc = a + 1 := by rw [hV]
      have gV : V.sig = h := by rw [hV]
      have bV : V.behind = false := by rw [hV]
      refine wv_of (St.ld_loc g139 oV ly) ?_
      rw [lV]
      refine wv_of (addG (by omega) (by omega)) ?_
      refine wv_of (v := .bool false) nz0 ?_
      rw [brB_false]
      refine wv_of (St.ld_sig g139 oV ly) ?_
      refine wv_of (load_hash hh (RowL.own (i := 9) s154 rfl)) ?_
      rw [gV]
      refine wv_of (hash_neq2 hh hh) ?_
      rw [decide_eq_true rfl, Bool.not_true, brB_false]
      refine wv_of (St.ld_behind g139 oV ly) ?_
      rw [bV, brB_false]
      refine wv_of z170 ?_
      rw [brB_false]
      refine wv_of z170 ?_
      exact next3
    have g92 := RowL.own (i := 0) s109 rfl
    have aU : U.ack = b + 1 := by rw [hU]
    have hA : U.heldA = 0 := by rw [hU]
    have hB : U.heldB = 0 := by rw [hU]
    have pA : U.ptsA = h0 := by rw [hU]
    have pB : U.ptsB = h := by rw [hU]
    refine wv_of nz0 ?_
    rw [brB_false]
    refine wv_of (St.ld_ack g92 oU lx) ?_
    rw [aU]
    refine wv_of (addG (by omega) (by omega)) ?_
    refine wv_of (v := .bool false) nz0 ?_
    rw [brB_false]
    refine wv_of (St.ld_held g92 oU lx) ?_
    refine wv_of (v := pairW 0 0) rfl ?_
    rw [hA, hB]
    refine wv_of (pair_neqG 0 0) ?_
    rw [brB_false]
    refine wv_of (St.ld_pts g92 oU lx) ?_
    refine wv_of build_h0 ?_
    refine wv_of (load_hash hh (RowL.own (i := 9) s109 rfl)) ?_
    refine wv_of (build_h2e h0_len hh) ?_
    rw [pA, pB]
    refine wv_of (h2_neqG h0_len hh) ?_
    rw [brB_false]
    refine wv_of (St.ld_shelf g92 oU lx) ?_
    refine wv_of (slots_len (l := sh) (OwnL.own (i := 1) s109 rfl).is) ?_
    rw [hsh]
    refine wv_of (v := .bool false) nz0 ?_
    rw [brB_false]
    refine wv_of z170 ?_
    rw [brB_false]
    refine wv_of z170 ?_
    exact next2 _ ((((s109.erase 0).erase 0).erase 0).erase 0)
  have bR : R.behind = true := by rw [hR]
  have sA : R.sgnA = 0 := by rw [hR]
  have sB : R.sgnB = 0 := by rw [hR]
  refine wv_of nz0 ?_
  rw [brB_false]
  refine wv_of (St.ld_rem gR oR lw) ?_
  rw [rR]
  refine wv_of (addG (by omega) (by omega)) ?_
  refine wv_of (v := .bool false) nz0 ?_
  rw [brB_false]
  refine wv_of (St.ld_sgn gR oR lw) ?_
  refine wv_of (v := pairW 0 0) rfl ?_
  rw [sA, sB]
  refine wv_of (pair_neqG 0 0) ?_
  rw [brB_false]
  refine wv_of (St.ld_behind gR oR lw) ?_
  rw [bR, vun_not, wv_some, Bool.not_true, brB_false]
  refine wv_of z170 ?_
  rw [brB_false]
  refine wv_of z170 ?_
  rw [brB_false]
  refine wv_of z170 ?_
  rw [brB_false]
  refine wv_of z170 ?_
  exact next1

end
end Go.Esc.M
