import Derived.Test.YtdoelihemgopcaaGreatLTd
import Derived.Test.YtdoelihemgopcaaGreatLSh
/- Own work. Chapter 17: what a record makes of a state, of every kind, whatever Go's table holds. -/
set_option linter.unusedSimpArgs false
set_option linter.unusedVariables false
set_option maxRecDepth 20000
namespace Go.Esc.M
open Go Go.Esc

def okC (o : List UpdM) : List UpdM → List UpdM → Bool
  | c, [] => true
  | c, u :: t => decide (nextU c o u = 0) && okC o (c ++ [u]) t
def cameB (f : StF) (r : RcM) : Prop := r.index ≠ IntKind.i64.wrap (f.s.loc + 1) ∨ f.s.atB < 0 ∨ (f.p.length : Nat) < f.s.atB
instance (f : StF) (r : RcM) : Decidable (cameB f r) := by unfold cameB; infer_instance
def heldP (f : StF) : List UpdM := f.p.take f.s.atB.toNat
def revB (f : StF) (r : RcM) : Prop := f.s.rem ≠ IntKind.i64.wrap (f.s.ack + 1) ∨ r.index ≠ f.s.ack
instance (f : StF) (r : RcM) : Decidable (revB f r) := by unfold revB; infer_instance
/-- What a record makes of a state; 'pt': what Put answers. -/
def applyG (f : StF) (r : RcM) (l : List UpdM) (pt : Option (List SlotM)) : StF × Bool :=
  if r.kind = 1 then (if nextU f.o f.p r.upd = 0 then (⟨f.s, f.o ++ [r.upd], f.p, f.h⟩, true) else (f, false))
  else if r.kind = 2 then (if signB f r then (f, false) else (⟨{ f.s with rem := r.index, sgnA := r.cntA, sgnB := r.cntB, behind := true }, f.o, f.p, f.h⟩, true))
  else if r.kind = 3 then (if cameB f r ∨ okC f.o (heldP f) l = false then (f, false) else (⟨{ f.s with loc := r.index, sig := r.sig, behind := false, atA := f.s.heldA, atB := ((heldP f ++ l).length : Nat) }, f.o, heldP f ++ l, f.h⟩, true))
  else if r.kind = 4 then (if revB f r then (f, false) else match pt with
    | none => (f, false)
    | some h => (⟨{ f.s with ack := IntKind.i64.wrap (f.s.ack + 1), heldA := f.s.sgnA, heldB := f.s.sgnB, ptsA := f.s.ptsB, ptsB := r.point }, f.o, f.p, h⟩, true))
  else if r.kind = 5 then ((if f.s.failed = 0 then ⟨{ f.s with failed := r.code }, f.o, f.p, f.h⟩ else f), true)
  else (if r.index ≠ f.s.loc then (f, false) else (⟨{ f.s with closed := r.index }, f.o, f.p, f.h⟩, true))

theorem nextU_small17 {A X : List UpdM} {u : UpdM} (h : nextU A X u = 0) : A.length < 2048 := by
  unfold nextU at h
  split at h
  · cases h
  · omega

section
variable {F0 : List AId} {G0 G : Heap} {ps : List LP} {Q : AVal → Heap → Prop}

theorem own_cut {i k : Nat} {w : AVal} {l : List UpdM} {x : Int} (hs : Sp F0 G0 ps G) (hi : ps[i]? = some (OwnL 36 w (l.map UpdM.av))) (hx : x = (k : Int)) (hk : k ≤ l.length) :
    ∃ w', vslice T t_sl_api_Update w none (some (.int .i64 x)) none = some w' ∧ Sp F0 G0 (ps.set i (OwnL 36 w' ((l.take k).map UpdM.av))) G := by
  have ho := OwnL.own hs hi
  rcases ho with ⟨rfl, h⟩ | ⟨id, len, cap, cs, rfl, hg, hcap, hl, hu, hv⟩
  · have hl : l = [] := by simpa using h
    subst hl
    have hk0 : k = 0 := by simpa using hk
    subst hk0
    subst hx
    refine ⟨.nilSlice, rfl, ?_⟩
    refine hs.call hi (OwnL 36 .nilSlice (([] : List UpdM).map UpdM.av)) fun F h k => ?_
    exact k F G h (Ch.refl _ _)
  · have hlen : l.length = len := by
      have := congrArg List.length hv
      rw [List.length_map, List.length_take] at this
      omega
    refine ⟨.slice id [] 0 0 k cap, slice_to (i := ti_sl_api_Update) (ie := ti_api_Update) T_sl_api_Update rfl T_api_Update hx (by omega), ?_⟩
    refine hs.call hi (OwnL 36 (.slice id [] 0 0 k cap) ((l.take k).map UpdM.av)) fun F h kk => ?_
    obtain ⟨_, rfl⟩ := h
    refine kk _ G ⟨.inr ⟨id, k, cap, cs, rfl, hg, hcap, by omega, hu, ?_⟩, rfl⟩ (Ch.refl _ _)
    rw [List.map_take, hv, List.take_take, Nat.min_eq_left (by omega)]
theorem build_h2e {p q : List UInt8} (hp : p.length = 32) (hq : q.length = 32) : vbuild T t_ar2_api_Hash [(0, .agg (p.map u8v)), (1, .agg (q.map u8v))] = some (hash2V p q) := by
  refine (build_array (zs := [.agg (h0.map u8v), .agg (h0.map u8v)]) T_ar2_api_Hash rfl T_api_Hash rfl ?_ fun r hr => ?_).trans rfl
  · simp [Esc.uni, Esc.sz, szh h0_len, ti_api_Hash]
  · simp only [List.mem_cons, List.not_mem_nil, or_false] at hr
    rcases hr with rfl | rfl
    · exact szHash hp
    · exact szHash hq

set_option maxHeartbeats 8000000 in
theorem chg_applyG {f : StF} {r : RcM} {l : List UpdM} {v wo wp wh : AVal} {i1 : AId} {L3 L4 : LP} (hT : TabAny G0) (hr : r.ok) (hv : Leaf v) (hl : IsSl 36 G0 v (l.map UpdM.av)) (hok : ∀ u ∈ l, u.ok) (hlen : l.length ≤ 1000) (hk : kindK r) (ho : f.s.ok) (oko : ∀ u ∈ f.o, u.ok) (okp : ∀ u ∈ f.p, u.ok) (okh : ∀ x ∈ f.h, x.ok)
    (lo : f.o.length * 72 ≤ 140737488351232) (lp : f.p.length * 72 ≤ 140737488351232) (lh : f.h.length * 48 ≤ 140737488351232)
    (hs : Sp [] G0 [OwnL 34 wh (f.h.map SlotM.av), OwnL 36 wp (f.p.map UpdM.av), OwnL 36 wo (f.o.map UpdM.av), L3, L4, RowL i1 (f.s.av wo wp wh)] G)
    (hno : ∀ pt, putOk f.h r.index pt → (applyG f r l pt).2 = false → ∀ wp' X G', Sp [] G0 [OwnL 34 wh (f.h.map SlotM.av), OwnL 36 wp' X, OwnL 36 wo (f.o.map UpdM.av), L3, L4, RowL i1 (f.s.av wo wp wh)] G' → Q (.bool false) G')
    (hQ : ∀ pt, putOk f.h r.index pt → (applyG f r l pt).2 = true → ∀ wo' wp' wh' G', Sp [] G0 [OwnL 34 wh' ((applyG f r l pt).1.h.map SlotM.av), OwnL 36 wp' ((applyG f r l pt).1.p.map UpdM.av), OwnL 36 wo' ((applyG f r l pt).1.o.map UpdM.av), L3, L4, RowL i1 ((applyG f r l pt).1.s.av wo' wp' wh')] G' → Q (.bool true) G') :
    aInvoke cx (chgV r v) "escrow/record.apply" [.ptr i1 [] 0] G Q := by
  have lfo := (OwnL.own (i := 2) hs rfl).leaf
  have lfp := (OwnL.own (i := 1) hs rfl).leaf
  have lfh := (OwnL.own (i := 0) hs rfl).leaf
  have lv : Leaf wo ∧ Leaf wp ∧ Leaf wh := ⟨lfo, lfp, lfh⟩
  have any := putOk_any f.h r.index
  unfold chgV
  rcases hk with h | h | h | h | h | h
  · have e : ∀ pt, applyG f r l pt = if nextU f.o f.p r.upd = 0 then (⟨f.s, f.o ++ [r.upd], f.p, f.h⟩, true) else (f, false) := fun pt => by unfold applyG; rw [if_pos h]
    replace hno := hno _ any
    replace hQ := hQ _ any
    rw [e] at hno hQ
    rw [if_pos h]
    refine inv_record_ours_apply ?_
    refine record_ours_apply.sound ?_
    unfold record_ours_apply.S
    intro i2 f2
    have s2 := hs.row f2 (.agg [r.upd.av])
    refine wv_of (v := .ptr i1 [] 0) rfl ?_
    refine wv_of (v := .ptr i1 [4] 4) rfl ?_
    refine wv_of (St.ld_ours (RowL.own (i := 6) s2 rfl) ho lv) ?_
    refine wv_of (v := .ptr i1 [] 0) rfl ?_
    refine wv_of (v := .ptr i1 [5] 5) rfl ?_
    refine wv_of (St.ld_peers (RowL.own (i := 6) s2 rfl) ho lv) ?_
    refine wv_of (ow_ld hr.upd (RowL.own (i := 0) s2 rfl)) ?_
    refine update_Next.use (OwnL.own (i := 3) s2 rfl).is (OwnL.own (i := 2) s2 rfl).is oko okp (by omega) (by omega) hr.upd fun G11 c11 => ?_
    have s11 := s2.tmp c11
    rw [vbin_neq, wv_some, brB_ndec]
    refine ⟨fun h1 => ?_, fun h1 => ?_⟩
    · rw [if_neg h1] at hno
      exact hno rfl wp _ _ (s11.erase 0)
    · rw [if_pos h1] at hQ
      refine wv_of (v := .ptr i1 [] 0) rfl ?_
      refine wv_of (v := .ptr i1 [4] 4) rfl ?_
      refine wv_of (St.ld_ours (RowL.own (i := 6) s11 rfl) ho lv) ?_
      refine wv_of (ow_ld hr.upd (RowL.own (i := 0) s11 rfl)) ?_
      refine growV (T := T) (ts := t_sl_api_Update) (e := t_api_Update) (si := ti_sl_api_Update) (ie := ti_api_Update) (i := 3) (vs := f.o.map UpdM.av) T_sl_api_Update rfl T_api_Update rfl (by decide) s11 rfl (UpdM.sz hr.upd) (UpdM.okv _) (by decide) (by rw [List.length_map]; simp only [ti_api_Update]; omega) fun w' G20 s20 => ?_
      have lw' := (OwnL.own (i := 3) s20 rfl).leaf
      refine wv_of (v := .ptr i1 [] 0) rfl ?_
      refine wv_of (v := .ptr i1 [4] 4) rfl ?_
      refine St.st_ours (i := 6) s20 rfl ho lv lw' fun G23 s23 => ?_
      refine hQ rfl w' wp wh _ ?_
      have := s23.erase 0
      rw [List.map_append]
      exact this
  · have e : ∀ pt, applyG f r l pt = if signB f r then (f, false) else (⟨{ f.s with rem := r.index, sgnA := r.cntA, sgnB := r.cntB, behind := true }, f.o, f.p, f.h⟩, true) := fun pt => by unfold applyG; rw [if_neg (by omega), if_pos h]
    replace hno := hno _ any
    replace hQ := hQ _ any
    rw [e] at hno hQ
    rw [if_neg (by omega), if_pos h]
    refine inv_record_signed_apply ?_
    refine record_signed_apply.sound ?_
    unfold record_signed_apply.S
    intro i2 f2
    have s2 := hs.row f2 (.agg [.int .i64 r.index, pairW r.cntA r.cntB])
    revert s2
    generalize Heap.upd _ i2 _ = G2
    intro s2
    have hg := RowL.own (i := 6) s2 rfl
    obtain ⟨l0, l1, l2, l3⟩ := sg_ld (RowL.own (i := 0) s2 rfl)
    intro J47
    have bad : signB f r → J47 (.bool true) G2 := by
      intro hb
      rw [if_pos hb] at hno
      simp -zeta only [J47, brB_true]
      exact hno rfl wp _ _ (s2.erase 0)
    have good : ¬ signB f r → J47 (.bool false) G2 := by
      intro hb
      rw [if_neg hb] at hQ
      simp -zeta only [J47, brB_false]
      refine wv_of l0 ?_
      refine wv_of l1 ?_
      refine wv_of (v := .ptr i1 [] 0) rfl ?_
      refine wv_of (v := .ptr i1 [7] 7) rfl ?_
      refine St.st_rem (i := 6) s2 rfl ho lv _ fun G40 s40 => ?_
      have o1 : ({ f.s with rem := r.index } : StM).ok := ⟨ho.side, ho.cap, ho.bo, ho.bp, ho.loc, hr.index, ho.ack, ho.atA, ho.atB, ho.sgnA, ho.sgnB, ho.heldA, ho.heldB, ho.ptsA, ho.ptsB, ho.sig, ho.failed, ho.closed⟩
      refine ⟨⟨(sg_ld (RowL.own (i := 0) s40 rfl)).2.1, trivial⟩, ?_⟩
      refine wv_of (v := .ptr i1 [] 0) rfl ?_
      refine wv_of (v := .ptr i1 [10] 11) rfl ?_
      refine St.st_sgn (s := { f.s with rem := r.index }) (i := 6) s40 rfl o1 lv _ _ fun G43 s43 => ?_
      have o2 : ({ f.s with rem := r.index, sgnA := r.cntA, sgnB := r.cntB } : StM).ok := ⟨ho.side, ho.cap, ho.bo, ho.bp, ho.loc, hr.index, ho.ack, ho.atA, ho.atB, hr.cntA, hr.cntB, ho.heldA, ho.heldB, ho.ptsA, ho.ptsB, ho.sig, ho.failed, ho.closed⟩
      refine wv_of (v := .ptr i1 [] 0) rfl ?_
      refine wv_of (v := .ptr i1 [12] 15) rfl ?_
      refine St.st_behind (s := { f.s with rem := r.index, sgnA := r.cntA, sgnB := r.cntB }) (i := 6) s43 rfl o2 lv _ fun G46 s46 => ?_
      exact hQ rfl wo wp wh _ (s46.erase 0)
    refine wv_of (v := .ptr i1 [] 0) rfl ?_
    refine wv_of (v := .ptr i1 [7] 7) rfl ?_
    refine wv_of (St.ld_rem hg ho lv) ?_
    refine wv_of (v := .ptr i1 [] 0) rfl ?_
    refine wv_of (v := .ptr i1 [8] 8) rfl ?_
    refine wv_of (St.ld_ack hg ho lv) ?_
    rw [vbin_neq, wv_some, brB_ndec]
    refine ⟨fun h1 => bad (.inl h1), fun h1 => ?_⟩
    refine wv_of l0 ?_
    refine wv_of (v := .ptr i1 [] 0) rfl ?_
    refine wv_of (v := .ptr i1 [7] 7) rfl ?_
    refine wv_of (St.ld_rem hg ho lv) ?_
    rw [vbin_add, wv_some, vbin_neq, wv_some, brB_ndec]
    refine ⟨fun h2 => bad (.inr (.inl h2)), fun h2 => ?_⟩
    refine wv_of l3 ?_
    refine wv_of (v := .ptr i1 [] 0) rfl ?_
    refine wv_of (v := .ptr i1 [9] 9) rfl ?_
    refine wv_of (v := .ptr i1 [9, 1] 10) rfl ?_
    refine wv_of (St.ld_atB hg ho lv) ?_
    rw [vbin_neq, wv_some, brB_ndec]
    refine ⟨fun h3 => bad (.inr (.inr (.inl h3))), fun h3 => ?_⟩
    refine wv_of l2 ?_
    refine wv_of (v := .ptr i1 [] 0) rfl ?_
    refine wv_of (v := .ptr i1 [10] 11) rfl ?_
    refine wv_of (v := .ptr i1 [10, 0] 11) rfl ?_
    refine wv_of (St.ld_sgnA hg ho lv) ?_
    rw [vbin_lss, wv_some, brB_dec]
    refine ⟨fun h4 => bad (.inr (.inr (.inr (.inl h4)))), fun h4 => ?_⟩
    refine wv_of l2 ?_
    refine wv_of (v := .ptr i1 [] 0) rfl ?_
    refine wv_of (v := .ptr i1 [4] 4) rfl ?_
    refine wv_of (St.ld_ours hg ho lv) ?_
    refine wv_of (upd_len (OwnL.own (i := 3) s2 rfl).is) ?_
    rw [vbin_gtr, wv_some]
    by_cases h5 : (f.o.length : Nat) < r.cntA
    · rw [decide_eq_true (by omega)]; exact bad (.inr (.inr (.inr (.inr h5))))
    · rw [decide_eq_false (by omega)]
      exact good (by rintro (x | x | x | x | x); exact x h1; exact x h2; exact x h3; exact h4 x; exact h5 x)
  · have e : ∀ pt, applyG f r l pt = if cameB f r ∨ okC f.o (heldP f) l = false then (f, false) else (⟨{ f.s with loc := r.index, sig := r.sig, behind := false, atA := f.s.heldA, atB := ((heldP f ++ l).length : Nat) }, f.o, heldP f ++ l, f.h⟩, true) := fun pt => by unfold applyG; rw [if_neg (by omega), if_neg (by omega), if_pos h]
    replace hno := hno _ any
    replace hQ := hQ _ any
    rw [e] at hno hQ
    rw [if_neg (by omega), if_neg (by omega), if_pos h]
    refine inv_record_came_apply ?_
    refine record_came_apply.sound ?_
    unfold record_came_apply.S
    intro i2 f2
    have s2 := hs.row f2 (.agg [.int .i64 r.index, v, .agg (r.sig.map u8v)])
    revert s2
    generalize Heap.upd _ i2 _ = G2
    intro s2
    have hg := RowL.own (i := 6) s2 rfl
    obtain ⟨l0, l1, l2⟩ := cm_ld hv hr.sig (RowL.own (i := 0) s2 rfl)
    intro J87
    have bad : cameB f r → J87 (.bool true) G2 := by
      intro hb
      rw [if_pos (.inl hb)] at hno
      simp -zeta only [J87, brB_true]
      exact hno rfl wp _ _ (s2.erase 0)
    have good : ¬ cameB f r → J87 (.bool false) G2 := by
      intro hb
      simp -zeta only [J87, brB_false]
      have hb2 : 0 ≤ f.s.atB ∧ f.s.atB ≤ (f.p.length : Nat) := by
        unfold cameB at hb
        omega
      refine wv_of (v := .ptr i1 [] 0) rfl ?_
      refine wv_of (v := .ptr i1 [5] 5) rfl ?_
      refine wv_of (St.ld_peers hg ho lv) ?_
      refine wv_of (v := .ptr i1 [] 0) rfl ?_
      refine wv_of (v := .ptr i1 [9] 9) rfl ?_
      refine wv_of (v := .ptr i1 [9, 1] 10) rfl ?_
      refine wv_of (St.ld_atB hg ho lv) ?_
      obtain ⟨w0, e0, s3⟩ := own_cut (i := 2) (k := f.s.atB.toNat) (l := f.p) (x := f.s.atB) s2 rfl (by omega) (by omega)
      refine wv_of e0 ?_
      refine wv_of l1 ?_
      refine wv_of (upd_len (hl.ch' s3.ch)) ?_
      have hHl : (heldP f).length ≤ f.p.length := by unfold heldP; rw [List.length_take]; omega
      have hHo : ∀ u ∈ heldP f, u.ok := fun u hu => okp u (List.mem_of_mem_take hu)
      intro R hR
      have loop : ∀ (n j : Nat) (c : List UpdM) (w : AVal) (G' : Heap), l.length - j = n → j ≤ l.length → c = heldP f ++ l.take j → okC f.o c (l.drop j) = okC f.o (heldP f) l →
          Sp [] G0 [RowL i2 (.agg [.int .i64 r.index, v, .agg (r.sig.map u8v)]), OwnL 34 wh (f.h.map SlotM.av), OwnL 36 w (c.map UpdM.av), OwnL 36 wo (f.o.map UpdM.av), L3, L4, RowL i1 (f.s.av wo wp wh)] G' →
          R [.ptr i1 [] 0, .ptr i2 [] 0, w, v, .int .i64 (l.length : Nat), .int .i64 (j : Int)] G' := by
        intro n
        induction n with
        | zero =>
          intro j c w G' hn hj hc hC s
          have hjl : j = l.length := by omega
          subst hjl
          rw [List.take_length] at hc
          rw [List.drop_length] at hC
          have hC : okC f.o (heldP f) l = true := hC.symm
          rw [if_neg (by rw [hC]; simp [hb])] at hQ
          refine hR _ _ _ _ _ _ _ ?_
          rw [vbin_lss, wv_some, decide_eq_false (by omega), brB_false]
          have hgs := RowL.own (i := 6) s rfl
          have lw := (OwnL.own (i := 2) s rfl).leaf
          refine wv_of (v := .ptr i2 [0] 0) rfl ?_
          refine wv_of (cm_ld hv hr.sig (RowL.own (i := 0) s rfl)).1 ?_
          refine wv_of (v := .ptr i2 [2] 2) rfl ?_
          refine wv_of (cm_ld hv hr.sig (RowL.own (i := 0) s rfl)).2.2 ?_
          refine wv_of (v := .ptr i1 [] 0) rfl ?_
          refine wv_of (v := .ptr i1 [5] 5) rfl ?_
          refine St.st_peers (i := 6) s rfl ho lv lw fun G68 s68 => ?_
          have lv2 : Leaf wo ∧ Leaf w ∧ Leaf wh := ⟨lfo, lw, lfh⟩
          refine ⟨⟨(cm_ld hv hr.sig (RowL.own (i := 0) s68 rfl)).2.2, (cm_ld hv hr.sig (RowL.own (i := 0) s68 rfl)).1, trivial⟩, ?_⟩
          refine wv_of (v := .ptr i1 [] 0) rfl ?_
          refine wv_of (v := .ptr i1 [6] 6) rfl ?_
          refine St.st_loc (i := 6) s68 rfl ho lv2 _ fun G71 s71 => ?_
          have o1 : ({ f.s with loc := r.index } : StM).ok := ⟨ho.side, ho.cap, ho.bo, ho.bp, hr.index, ho.rem, ho.ack, ho.atA, ho.atB, ho.sgnA, ho.sgnB, ho.heldA, ho.heldB, ho.ptsA, ho.ptsB, ho.sig, ho.failed, ho.closed⟩
          refine ⟨⟨(cm_ld hv hr.sig (RowL.own (i := 0) s71 rfl)).2.2, trivial⟩, ?_⟩
          refine wv_of (v := .ptr i1 [] 0) rfl ?_
          refine wv_of (v := .ptr i1 [14] 80) rfl ?_
          refine St.st_sig (s := { f.s with loc := r.index }) (i := 6) s71 rfl o1 lv2 hr.sig fun G74 s74 => ?_
          have o2 : ({ f.s with loc := r.index, sig := r.sig } : StM).ok := ⟨ho.side, ho.cap, ho.bo, ho.bp, hr.index, ho.rem, ho.ack, ho.atA, ho.atB, ho.sgnA, ho.sgnB, ho.heldA, ho.heldB, ho.ptsA, ho.ptsB, hr.sig, ho.failed, ho.closed⟩
          refine wv_of (v := .ptr i1 [] 0) rfl ?_
          refine wv_of (v := .ptr i1 [12] 15) rfl ?_
          refine St.st_behind (s := { f.s with loc := r.index, sig := r.sig }) (i := 6) s74 rfl o2 lv2 _ fun G77 s77 => ?_
          have o3 : ({ f.s with loc := r.index, sig := r.sig, behind := false } : StM).ok := ⟨ho.side, ho.cap, ho.bo, ho.bp, hr.index, ho.rem, ho.ack, ho.atA, ho.atB, ho.sgnA, ho.sgnB, ho.heldA, ho.heldB, ho.ptsA, ho.ptsB, hr.sig, ho.failed, ho.closed⟩
          refine wv_of (v := .ptr i1 [] 0) rfl ?_
          refine wv_of (v := .ptr i1 [11] 13) rfl ?_
          refine wv_of (v := .ptr i1 [11, 0] 13) rfl ?_
          refine wv_of (St.ld_heldA (s := { f.s with loc := r.index, sig := r.sig, behind := false }) (RowL.own (i := 6) s77 rfl) o3 lv2) ?_
          refine wv_of (upd_len (OwnL.own (i := 2) s77 rfl).is) ?_
          refine wv_of (v := pairW f.s.heldA ((c.length : Nat) : Int)) rfl ?_
          refine wv_of (v := .ptr i1 [] 0) rfl ?_
          refine wv_of (v := .ptr i1 [9] 9) rfl ?_
          refine St.st_at (s := { f.s with loc := r.index, sig := r.sig, behind := false }) (i := 6) s77 rfl o3 lv2 _ _ fun G86 s86 => ?_
          rw [hc] at s86
          exact hQ rfl wo w wh _ (s86.erase 0)
        | succ n ih =>
          intro j c w G' hn hj hc hC s
          obtain ⟨u, hu⟩ : ∃ u, l[j]? = some u := ⟨_, List.getElem?_eq_getElem (by omega)⟩
          have huo := hok u (List.mem_of_getElem? hu)
          have hd : l.drop j = u :: l.drop (j + 1) := by
            obtain ⟨hj', e⟩ := List.getElem?_eq_some_iff.1 hu
            rw [List.drop_eq_getElem_cons hj', e]
          have hco : ∀ x ∈ c, x.ok := fun x hx => by
            rw [hc] at hx
            rcases List.mem_append.1 hx with hx | hx
            · exact hHo x hx
            · exact hok x (List.mem_of_mem_take hx)
          have hcl : c.length ≤ f.p.length + 1000 := by
            rw [hc, List.length_append, List.length_take]
            omega
          rw [hd] at hC
          refine hR _ _ _ _ _ _ _ ?_
          rw [vbin_lss, wv_some, decide_eq_true (by omega), brB_true]
          obtain ⟨p, p1, p2⟩ := upd_at (hl.ch' s.ch) hu
          refine wv_of p1 ?_
          refine wv_of p2 ?_
          refine newU s huo fun i46 G48 s48 => ?_
          have hgs := RowL.own (i := 7) s48 rfl
          refine wv_of (v := .ptr i1 [] 0) rfl ?_
          refine wv_of (v := .ptr i1 [4] 4) rfl ?_
          refine wv_of (St.ld_ours hgs ho lv) ?_
          refine wv_of (whole_load T_api_Update (RowL.own (i := 0) s48 rfl) (UpdM.fits huo)) ?_
          refine update_Next.use (OwnL.own (i := 3) s48 rfl).is (OwnL.own (i := 4) s48 rfl).is hco oko (by omega) (by omega) huo fun G54 c54 => ?_
          have s54 := s48.tmp c54
          rw [vbin_neq, wv_some, brB_ndec]
          refine ⟨fun h1 => ?_, fun h1 => ?_⟩
          · have hf : okC f.o (heldP f) l = false := by
              rw [← hC, okC, decide_eq_false h1, Bool.false_and]
            rw [if_pos (.inr hf)] at hno
            exact hno rfl w _ _ ((s54.erase 0).erase 0)
          · have hcs := nextU_small17 h1
            refine wv_of (whole_load T_api_Update (RowL.own (i := 0) s54 rfl) (UpdM.fits huo)) ?_
            refine growV (T := T) (ts := t_sl_api_Update) (e := t_api_Update) (si := ti_sl_api_Update) (ie := ti_api_Update) (i := 3) (vs := c.map UpdM.av) T_sl_api_Update rfl T_api_Update rfl (by decide) s54 rfl (UpdM.sz huo) (UpdM.okv _) (by decide) (by rw [List.length_map]; simp only [ti_api_Update]; omega) fun w' G60 s60 => ?_
            rw [vbin_add, i64_in (by omega) (by omega), wv_some]
            rw [okC, decide_eq_true h1, Bool.true_and] at hC
            refine ih (j + 1) (c ++ [u]) w' G60 (by omega) (by omega) ?_ hC ?_
            · rw [hc, List.take_add_one, hu, List.append_assoc]; rfl
            · have := s60.erase 0
              rw [List.map_append]
              exact this
      exact loop l.length 0 (heldP f) w0 G2 rfl (by omega) (by simp) (by simp) s3
    refine wv_of l0 ?_
    refine wv_of (v := .ptr i1 [] 0) rfl ?_
    refine wv_of (v := .ptr i1 [6] 6) rfl ?_
    refine wv_of (St.ld_loc hg ho lv) ?_
    rw [vbin_add, wv_some, vbin_neq, wv_some, brB_ndec]
    refine ⟨fun h1 => bad (.inl h1), fun h1 => ?_⟩
    refine wv_of (v := .ptr i1 [] 0) rfl ?_
    refine wv_of (v := .ptr i1 [9] 9) rfl ?_
    refine wv_of (v := .ptr i1 [9, 1] 10) rfl ?_
    refine wv_of (St.ld_atB hg ho lv) ?_
    rw [vbin_lss, wv_some, brB_dec]
    refine ⟨fun h2 => bad (.inr (.inl h2)), fun h2 => ?_⟩
    refine wv_of (v := .ptr i1 [] 0) rfl ?_
    refine wv_of (v := .ptr i1 [9] 9) rfl ?_
    refine wv_of (v := .ptr i1 [9, 1] 10) rfl ?_
    refine wv_of (St.ld_atB hg ho lv) ?_
    refine wv_of (v := .ptr i1 [] 0) rfl ?_
    refine wv_of (v := .ptr i1 [5] 5) rfl ?_
    refine wv_of (St.ld_peers hg ho lv) ?_
    refine wv_of (upd_len (OwnL.own (i := 2) s2 rfl).is) ?_
    rw [vbin_gtr, wv_some]
    by_cases h5 : (f.p.length : Nat) < f.s.atB
    · rw [decide_eq_true (by omega)]; exact bad (.inr (.inr h5))
    · rw [decide_eq_false (by omega)]
      exact good (by rintro (x | x | x); exact x h1; exact h2 x; exact h5 x)
  · have e : ∀ pt, applyG f r l pt = if revB f r then (f, false) else match pt with
        | none => (f, false)
        | some h => (⟨{ f.s with ack := IntKind.i64.wrap (f.s.ack + 1), heldA := f.s.sgnA, heldB := f.s.sgnB, ptsA := f.s.ptsB, ptsB := r.point }, f.o, f.p, h⟩, true) := fun pt => by unfold applyG; rw [if_neg (by omega), if_neg (by omega), if_neg (by omega), if_pos h]
    rw [if_neg (by omega), if_neg (by omega), if_neg (by omega), if_pos h]
    refine inv_record_revoked_apply ?_
    refine record_revoked_apply.sound ?_
    unfold record_revoked_apply.S
    intro i2 f2
    have s2 := hs.row f2 (.agg [.int .i64 r.index, .agg (r.secret.map u8v), .agg (r.point.map u8v)])
    revert s2
    generalize Heap.upd _ i2 _ = G2
    intro s2
    have hg := RowL.own (i := 6) s2 rfl
    obtain ⟨l0, l1, l2⟩ := rv_ld hr.secret hr.point (RowL.own (i := 0) s2 rfl)
    intro J53
    have bad : revB f r → J53 (.bool true) G2 := by
      intro hb
      simp -zeta only [J53, brB_true]
      refine hno _ any ?_ wp _ _ (s2.erase 0)
      rw [e, if_pos hb]
    have good : ¬ revB f r → J53 (.bool false) G2 := by
      intro hb
      simp -zeta only [J53, brB_false]
      refine wv_of (v := .ptr i1 [] 0) rfl ?_
      refine wv_of (v := .ptr i1 [15] 112) rfl ?_
      refine wv_of (St.ld_shelf hg ho lv) ?_
      refine wv_of l0 ?_
      refine wv_of l1 ?_
      refine shelf_Put.useA (hT.mono s2.ro) (OwnL.own (i := 1) s2 rfl).is okh lh hr.secret (fun hp e' G24 he c24 => ?_) (fun h' w G24 hp t24 => ?_)
      · refine wv_of (vtup0 _ _) ?_
        refine wv_of (vtup1 _ _) ?_
        rw [vbin_neq, wv_some, brB_ndec]
        refine ⟨fun _ => ?_, fun h => absurd h he⟩
        refine hno none hp ?_ wp _ _ ((s2.tmp c24).erase 0)
        rw [e, if_neg hb]
      · refine wv_of (vtup0 _ _) ?_
        refine wv_of (vtup1 _ _) ?_
        refine wv_of nz0 ?_
        rw [brB_false]
        obtain ⟨F24, o24, c24⟩ := t24.out
        have s24 := s2.new o24 c24
        have lw := (OwnL.own (i := 0) s24 rfl).leaf
        have lv2 : Leaf wo ∧ Leaf wp ∧ Leaf w := ⟨lfo, lfp, lw⟩
        have hg := RowL.own (i := 7) s24 rfl
        refine wv_of (v := .ptr i1 [] 0) rfl ?_
        refine wv_of (v := .ptr i1 [8] 8) rfl ?_
        refine wv_of (St.ld_ack hg ho lv) ?_
        rw [vbin_add, wv_some]
        refine wv_of (v := .ptr i1 [] 0) rfl ?_
        refine wv_of (v := .ptr i1 [10] 11) rfl ?_
        refine wv_of (St.ld_sgn hg ho lv) ?_
        refine wv_of (v := .ptr i1 [] 0) rfl ?_
        refine wv_of (v := .ptr i1 [15] 112) rfl ?_
        refine St.st_shelf (i := 7) s24 rfl ho lv lw fun G37 s37 => ?_
        refine wv_of (v := .ptr i1 [] 0) rfl ?_
        refine wv_of (v := .ptr i1 [8] 8) rfl ?_
        refine St.st_ack (i := 7) s37 rfl ho lv2 _ fun G40 s40 => ?_
        have hw : I64 (IntKind.i64.wrap (f.s.ack + 1)) := hw64 _
        have o1 : ({ f.s with ack := IntKind.i64.wrap (f.s.ack + 1) } : StM).ok := ⟨ho.side, ho.cap, ho.bo, ho.bp, ho.loc, ho.rem, hw, ho.atA, ho.atB, ho.sgnA, ho.sgnB, ho.heldA, ho.heldB, ho.ptsA, ho.ptsB, ho.sig, ho.failed, ho.closed⟩
        refine wv_of (v := .ptr i1 [] 0) rfl ?_
        refine wv_of (v := .ptr i1 [11] 13) rfl ?_
        refine St.st_held (s := { f.s with ack := IntKind.i64.wrap (f.s.ack + 1) }) (i := 7) s40 rfl o1 lv2 _ _ fun G43 s43 => ?_
        have o2 : ({ f.s with ack := IntKind.i64.wrap (f.s.ack + 1), heldA := f.s.sgnA, heldB := f.s.sgnB } : StM).ok := ⟨ho.side, ho.cap, ho.bo, ho.bp, ho.loc, ho.rem, hw, ho.atA, ho.atB, ho.sgnA, ho.sgnB, ho.sgnA, ho.sgnB, ho.ptsA, ho.ptsB, ho.sig, ho.failed, ho.closed⟩
        refine wv_of (v := .ptr i1 [] 0) rfl ?_
        refine wv_of (v := .ptr i1 [13] 16) rfl ?_
        refine wv_of (arrN_addr (j := 1) T_ar2_api_Hash rfl T_api_Hash rfl (by decide)) ?_
        refine wv_of (St.ld_ptsB (s := { f.s with ack := IntKind.i64.wrap (f.s.ack + 1), heldA := f.s.sgnA, heldB := f.s.sgnB }) (RowL.own (i := 7) s43 rfl) o2 lv2) ?_
        refine wv_of (rv_ld hr.secret hr.point (RowL.own (i := 1) s43 rfl)).2.2 ?_
        refine wv_of (build_h2e ho.ptsB hr.point) ?_
        refine wv_of (v := .ptr i1 [] 0) rfl ?_
        refine wv_of (v := .ptr i1 [13] 16) rfl ?_
        refine St.st_pts (s := { f.s with ack := IntKind.i64.wrap (f.s.ack + 1), heldA := f.s.sgnA, heldB := f.s.sgnB }) (i := 7) s43 rfl o2 lv2 ho.ptsB hr.point fun G52 s52 => ?_
        have hQ' := hQ (some h') hp
        rw [e, if_neg hb] at hQ'
        exact hQ' rfl wo wp w _ ((s52.erase 1).erase 1)
    refine wv_of (v := .ptr i1 [] 0) rfl ?_
    refine wv_of (v := .ptr i1 [7] 7) rfl ?_
    refine wv_of (St.ld_rem hg ho lv) ?_
    refine wv_of (v := .ptr i1 [] 0) rfl ?_
    refine wv_of (v := .ptr i1 [8] 8) rfl ?_
    refine wv_of (St.ld_ack hg ho lv) ?_
    rw [vbin_add, wv_some, vbin_neq, wv_some, brB_ndec]
    refine ⟨fun h1 => bad (.inl h1), fun h1 => ?_⟩
    refine wv_of l0 ?_
    refine wv_of (v := .ptr i1 [] 0) rfl ?_
    refine wv_of (v := .ptr i1 [8] 8) rfl ?_
    refine wv_of (St.ld_ack hg ho lv) ?_
    rw [vbin_neq, wv_some]
    by_cases h5 : r.index = f.s.ack
    · rw [decide_eq_true h5]
      exact good (by rintro (x | x); exact x h1; exact x h5)
    · rw [decide_eq_false h5]
      exact bad (.inr h5)
  · have e : ∀ pt, applyG f r l pt = ((if f.s.failed = 0 then ⟨{ f.s with failed := r.code }, f.o, f.p, f.h⟩ else f), true) := fun pt => by unfold applyG; rw [if_neg (by omega), if_neg (by omega), if_neg (by omega), if_neg (by omega), if_pos h]
    replace hQ := hQ _ any
    rw [e] at hQ
    rw [if_neg (by omega), if_neg (by omega), if_neg (by omega), if_neg (by omega), if_pos h]
    refine inv_record_failed_apply ?_
    refine record_failed_apply.sound ?_
    unfold record_failed_apply.S
    intro i2 f2
    have s2 := hs.row f2 (.agg [.int .i64 r.code])
    refine wv_of (v := .ptr i1 [] 0) rfl ?_
    refine wv_of (v := .ptr i1 [16] 113) rfl ?_
    refine wv_of (St.ld_failed (RowL.own (i := 6) s2 rfl) ho lv) ?_
    rw [vbin_eql, wv_some, brB_dec]
    refine ⟨fun h1 => ?_, fun h1 => ?_⟩
    · rw [if_pos h1] at hQ
      refine wv_of (fl_ld (RowL.own (i := 0) s2 rfl)) ?_
      refine wv_of (v := .ptr i1 [] 0) rfl ?_
      refine wv_of (v := .ptr i1 [16] 113) rfl ?_
      refine St.st_failed (i := 6) s2 rfl ho lv _ fun G10 s10 => ?_
      exact hQ rfl wo wp wh _ (s10.erase 0)
    · rw [if_neg h1] at hQ
      exact hQ rfl wo wp wh _ (s2.erase 0)
  · have e : ∀ pt, applyG f r l pt = if r.index ≠ f.s.loc then (f, false) else (⟨{ f.s with closed := r.index }, f.o, f.p, f.h⟩, true) := fun pt => by unfold applyG; rw [if_neg (by omega), if_neg (by omega), if_neg (by omega), if_neg (by omega), if_neg (by omega)]
    replace hno := hno _ any
    replace hQ := hQ _ any
    rw [e] at hno hQ
    rw [if_neg (by omega), if_neg (by omega), if_neg (by omega), if_neg (by omega), if_neg (by omega), if_pos h]
    refine inv_record_closed_apply ?_
    refine record_closed_apply.sound ?_
    unfold record_closed_apply.S
    intro i2 f2
    have s2 := hs.row f2 (.agg [.int .i64 r.index])
    refine wv_of (cl_ld (RowL.own (i := 0) s2 rfl)) ?_
    refine wv_of (v := .ptr i1 [] 0) rfl ?_
    refine wv_of (v := .ptr i1 [6] 6) rfl ?_
    refine wv_of (St.ld_loc (RowL.own (i := 6) s2 rfl) ho lv) ?_
    rw [vbin_neq, wv_some, brB_ndec]
    refine ⟨fun h1 => ?_, fun h1 => ?_⟩
    · rw [if_pos h1] at hno
      exact hno rfl wp _ _ (s2.erase 0)
    · rw [if_neg (by simp [h1])] at hQ
      refine wv_of (cl_ld (RowL.own (i := 0) s2 rfl)) ?_
      refine wv_of (v := .ptr i1 [] 0) rfl ?_
      refine wv_of (v := .ptr i1 [17] 114) rfl ?_
      refine St.st_closed (i := 6) s2 rfl ho lv _ fun G11 s11 => ?_
      exact hQ rfl wo wp wh _ (s11.erase 0)

end
end Go.Esc.M

/- Own work. Chapter 17: Apply of every record, whatever Go's table holds. -/
set_option linter.unusedSimpArgs false
set_option linter.unusedVariables false
set_option maxRecDepth 20000
namespace Go.Esc.M
open Go Go.Esc

/-- A state handed in: lists of any length. -/
structure StJ (G : Heap) (f : StF) (vo vp vh : AVal) : Prop where
  ok : f.s.ok
  o : IsSl 36 G vo (f.o.map UpdM.av)
  p : IsSl 36 G vp (f.p.map UpdM.av)
  h : IsSl 34 G vh (f.h.map SlotM.av)
  lv : Leaf vo ∧ Leaf vp ∧ Leaf vh
  oko : ∀ u ∈ f.o, u.ok
  okp : ∀ u ∈ f.p, u.ok
  okh : ∀ x ∈ f.h, x.ok
  lo : f.o.length * 72 ≤ 140737488351232
  lp : f.p.length * 72 ≤ 140737488351232
  lh : f.h.length * 48 ≤ 140737488351232
theorem StJ.mv {G G' : Heap} {E : List AId} {f : StF} {vo vp vh : AVal} (h : StJ G f vo vp vh) (hc : Ch [] G E G') : StJ G' f vo vp vh :=
  ⟨h.ok, h.o.ch' hc, h.p.ch' hc, h.h.ch' hc, h.lv, h.oko, h.okp, h.okh, h.lo, h.lp, h.lh⟩
def apG (f : StF) (r : RcM) (l : List UpdM) (pt : Option (List SlotM)) : Bool := validR r l && (applyG f r l pt).2

theorem validR_len {r : RcM} {l : List UpdM} (h : validR r l = true) : l.length ≤ 512 := by
  obtain ⟨_, hv, _, hl⟩ := valR_spec h
  unfold listK at hl
  split at hl
  · rename_i h3
    unfold validK at hv
    rw [if_neg (by omega), if_neg (by omega), if_pos h3] at hv
    simp only [Bool.and_eq_true, decide_eq_true_eq] at hv
    exact hv.2.1
  · rw [← hl]; simp
theorem applyG_ok {f : StF} {r : RcM} {l : List UpdM} {pt : Option (List SlotM)} (ho : f.s.ok) (hr : r.ok) (hl : l.length ≤ 512) (lp : f.p.length * 72 ≤ 140737488351232) : (applyG f r l pt).1.s.ok := by
  have hw : I64 (IntKind.i64.wrap (f.s.ack + 1)) := hw64 _
  have hH : (heldP f).length ≤ f.p.length := by unfold heldP; rw [List.length_take]; omega
  have hn : I64 (((heldP f ++ l).length : Nat) : Int) := by
    rw [List.length_append]
    exact i64_n _ (by omega) (by omega)
  unfold applyG
  split
  · split <;> exact ho
  split
  · split
    · exact ho
    · exact ⟨ho.side, ho.cap, ho.bo, ho.bp, ho.loc, hr.index, ho.ack, ho.atA, ho.atB, hr.cntA, hr.cntB, ho.heldA, ho.heldB, ho.ptsA, ho.ptsB, ho.sig, ho.failed, ho.closed⟩
  split
  · split
    · exact ho
    · exact ⟨ho.side, ho.cap, ho.bo, ho.bp, hr.index, ho.rem, ho.ack, ho.heldA, hn, ho.sgnA, ho.sgnB, ho.heldA, ho.heldB, ho.ptsA, ho.ptsB, hr.sig, ho.failed, ho.closed⟩
  split
  · split
    · exact ho
    · cases pt with
      | none => exact ho
      | some h => exact ⟨ho.side, ho.cap, ho.bo, ho.bp, ho.loc, ho.rem, hw, ho.atA, ho.atB, ho.sgnA, ho.sgnB, ho.sgnA, ho.sgnB, ho.ptsB, hr.point, ho.sig, ho.failed, ho.closed⟩
  split
  · show (if f.s.failed = 0 then _ else f : StF).s.ok
    split
    · exact ⟨ho.side, ho.cap, ho.bo, ho.bp, ho.loc, ho.rem, ho.ack, ho.atA, ho.atB, ho.sgnA, ho.sgnB, ho.heldA, ho.heldB, ho.ptsA, ho.ptsB, ho.sig, hr.code, ho.closed⟩
    · exact ho
  · split
    · exact ho
    · exact ⟨ho.side, ho.cap, ho.bo, ho.bp, ho.loc, ho.rem, ho.ack, ho.atA, ho.atB, ho.sgnA, ho.sgnB, ho.heldA, ho.heldB, ho.ptsA, ho.ptsB, ho.sig, ho.failed, hr.index⟩

section
variable {F0 : List AId} {G0 G : Heap} {ps : List LP} {Q : AVal → Heap → Prop}

theorem clone_updB.use {v : AVal} {l : List UpdM} (hl : IsSl 36 G v (l.map UpdM.av)) (hok : ∀ u ∈ l, u.ok) (hlen : l.length * 72 ≤ 140737488351232) (hQ : ∀ w G', Sp [] G [OwnL 36 w (l.map UpdM.av)] G' → Q w G') : ACalls P slices_Clone_escrow_api_Update_escrow_api_Update.n [v] G Q := by
  refine slices_Clone_escrow_api_Update_escrow_api_Update.sound ?_
  unfold slices_Clone_escrow_api_Update_escrow_api_Update.S
  rcases nil_test T_sl_api_Update rfl hl with ⟨rfl, h2, h3⟩ | h3
  · refine wv_of h3 ?_
    rw [brB_true]
    have s := (Sp.nil G).nilL 36
    rw [← h2] at s
    exact hQ _ _ s
  · refine wv_of h3 ?_
    rw [brB_false]
    refine buildL (T := T) (ts := t_sl_api_Update) (e := t_api_Update) (si := ti_sl_api_Update) (ie := ti_api_Update) (n := 0) (l := []) T_sl_api_Update rfl T_api_Update rfl rfl rfl rfl (by simp) (by decide) (Sp.nil G) fun v2 G3 s3 => ?_
    refine growL (T := T) (ts := t_sl_api_Update) (e := t_api_Update) (si := ti_sl_api_Update) (ie := ti_api_Update) (tx := t_sl_api_Update) (xi := ti_sl_api_Update) (i := 0) (vs := []) (xs := l.map UpdM.av) T_sl_api_Update rfl T_api_Update rfl (by decide) T_sl_api_Update (.inr ⟨_, rfl⟩) s3 rfl (hl.ch' s3.ch).elems (upds_uni hok).1 (upds_uni hok).2 (by rw [show ti_api_Update.bytes = 72 from rfl, List.length_map]; simp; omega) fun w G5 s5 => ?_
    exact hQ _ _ s5

set_option maxHeartbeats 4000000 in
theorem record_Apply.useG {f : StF} {r : RcM} {l : List UpdM} {v vo vp vh : AVal} (hT : TabAny G) (hS : StJ G f vo vp vh) (hr : r.ok) (hv : Leaf v) (hl : IsSl 36 G v (l.map UpdM.av)) (hok : ∀ u ∈ l, u.ok) (hlen : l.length ≤ 140737488351232)
    (hno : ∀ pt, putOk f.h r.index pt → apG f r l pt = false → ∀ G', Ch [] G [] G' → Q (.tuple [StM.zero.av .nilSlice .nilSlice .nilSlice, .int .i64 170]) G')
    (hQ : ∀ pt, putOk f.h r.index pt → apG f r l pt = true → ∀ wo wp wh G', Sp [] G [OwnL 34 wh ((applyG f r l pt).1.h.map SlotM.av), OwnL 36 wp ((applyG f r l pt).1.p.map UpdM.av), OwnL 36 wo ((applyG f r l pt).1.o.map UpdM.av)] G' → Q (.tuple [(applyG f r l pt).1.s.av wo wp wh, .int .i64 0]) G') : ACalls P record_Apply.n [f.s.av vo vp vh, r.av v] G Q := by
  have ho := hS.ok
  have lv := hS.lv
  refine record_Apply.sound ?_
  unfold record_Apply.S
  rw [zSta]
  unfold apG at hno hQ
  intro i1 f1
  have s1 := (Sp.nil G).row f1 (f.s.av vo vp vh)
  intro i3 f3
  have s3 := s1.row f3 (r.av v)
  intro i5 f5
  have s5 := s3.row f5 (StM.zero.av .nilSlice .nilSlice .nilSlice)
  revert s5
  generalize Heap.upd _ i5 _ = G6
  intro s5
  refine wv_of (Rc.ld (RowL.own (i := 1) s5 rfl) hr hv) ?_
  refine record_changed.use hr hv (hl.ch' s5.ch) hok hlen fun G9 c9 => ?_
  have s9 := s5.tmp c9
  have s9 : Sp [] G [RowL i5 (StM.zero.av .nilSlice .nilSlice .nilSlice), RowL i3 (r.av v), RowL i1 (f.s.av vo vp vh)] G9 := s9
  cases hval : validR r l with
  | false =>
    rw [hval] at hno
    refine wv_of nil_nil ?_
    rw [brB_true]
    refine wv_of (v := StM.zero.av .nilSlice .nilSlice .nilSlice) rfl ?_
    refine St.st (i := 0) s9 rfl StM.zero_ok lv0 StM.zero_ok lv0 fun G12 s12 => ?_
    refine wv_of (St.ld (RowL.own (i := 0) s12 rfl) StM.zero_ok lv0) ?_
    exact hno _ (putOk_any _ _) rfl _ s12.ch
  | true =>
  rw [hval] at hno hQ
  have hl5 := validR_len hval
  refine wv_of (nil_chg (kind_of (valR_spec hval).1)) ?_
  rw [brB_false]
  have hg := RowL.own (i := 2) s9 rfl
  refine wv_of (St.ld_ours hg ho lv) ?_
  refine wv_of (St.ld_peers hg ho lv) ?_
  refine wv_of (St.ld_shelf hg ho lv) ?_
  refine clone_updB.use (hS.o.ch' s9.ch) hS.oko hS.lo fun wo G18 t18 => ?_
  obtain ⟨F18, o18, c18⟩ := t18.out
  have s18 := s9.new o18 c18
  have hg := RowL.own (i := 3) s18 rfl
  refine ⟨⟨St.ld_shelf hg ho lv, St.ld_peers hg ho lv, trivial⟩, ?_⟩
  refine clone_updB.use (hS.p.ch' s18.ch) hS.okp hS.lp fun wp G20 t20 => ?_
  obtain ⟨F20, o20, c20⟩ := t20.out
  have s20 := s18.new o20 c20
  have hg := RowL.own (i := 4) s20 rfl
  refine ⟨⟨St.ld_shelf hg ho lv, trivial⟩, ?_⟩
  refine clone_slot.use (hS.h.ch' s20.ch) hS.okh hS.lh fun wh G22 t22 => ?_
  obtain ⟨F22, o22, c22⟩ := t22.out
  have s22 := s20.new o22 c22
  have lo := (OwnL.own (i := 2) s22 rfl).leaf
  have lp := (OwnL.own (i := 1) s22 rfl).leaf
  have lh := (OwnL.own (i := 0) s22 rfl).leaf
  refine St.st_ours (i := 5) s22 rfl ho lv lo fun G23 s23 => ?_
  refine St.st_peers (i := 5) s23 rfl ho ⟨lo, lv.2.1, lv.2.2⟩ lp fun G24 s24 => ?_
  refine St.st_shelf (i := 5) s24 rfl ho ⟨lo, lp, lv.2.2⟩ lh fun G25 s25 => ?_
  have s25 : Sp [] G [OwnL 34 wh (f.h.map SlotM.av), OwnL 36 wp (f.p.map UpdM.av), OwnL 36 wo (f.o.map UpdM.av), RowL i5 (StM.zero.av .nilSlice .nilSlice .nilSlice), RowL i3 (r.av v), RowL i1 (f.s.av wo wp wh)] G25 := s25
  refine chg_applyG hT hr hv hl hok (by omega) (kind_of (valR_spec hval).1) ho hS.oko hS.okp hS.okh hS.lo hS.lp hS.lh s25 (fun pt hp hap wp' X G27 s27 => ?_) (fun pt hp hap wo' wp' wh' G27 s27 => ?_)
  · rw [vun_not, wv_some, Bool.not_false, brB_true]
    refine wv_of (v := StM.zero.av .nilSlice .nilSlice .nilSlice) rfl ?_
    refine St.st (i := 3) s27 rfl StM.zero_ok lv0 StM.zero_ok lv0 fun G30 s30 => ?_
    refine wv_of (St.ld (RowL.own (i := 3) s30 rfl) StM.zero_ok lv0) ?_
    exact hno pt hp (by rw [hap]; rfl) _ s30.ch
  · have lo' := (OwnL.own (i := 2) s27 rfl).leaf
    have lp' := (OwnL.own (i := 1) s27 rfl).leaf
    have lh' := (OwnL.own (i := 0) s27 rfl).leaf
    have hso := applyG_ok (pt := pt) ho hr hl5 hS.lp
    rw [vun_not, wv_some, Bool.not_true, brB_false]
    refine wv_of (St.ld (RowL.own (i := 5) s27 rfl) hso ⟨lo', lp', lh'⟩) ?_
    refine St.st (i := 3) s27 rfl StM.zero_ok lv0 hso ⟨lo', lp', lh'⟩ fun G33 s33 => ?_
    refine wv_of (St.ld (RowL.own (i := 3) s33 rfl) hso ⟨lo', lp', lh'⟩) ?_
    exact hQ pt hp (by rw [hap]; rfl) wo' wp' wh' _ (((s33.erase 3).erase 3).erase 3)

end
end Go.Esc.M

/- Own work. Chapter 17: what a fold keeps: sound states, what grows, what is fixed; the statement's own functions. -/
set_option linter.unusedSimpArgs false
set_option linter.unusedVariables false
set_option maxRecDepth 20000
namespace Go.Esc.M
open Go Go.Esc

/-- A state handed in: lists of any length, of which heads may be taken. -/
structure StK (G : Heap) (f : StF) (vo vp vh : AVal) : Prop where
  ok : f.s.ok
  o : CapSl 36 G vo (f.o.map UpdM.av)
  p : CapSl 36 G vp (f.p.map UpdM.av)
  h : IsSl 34 G vh (f.h.map SlotM.av)
  lv : Leaf vo ∧ Leaf vp ∧ Leaf vh
  oko : ∀ u ∈ f.o, u.ok
  okp : ∀ u ∈ f.p, u.ok
  okh : ∀ x ∈ f.h, x.ok
  lo : f.o.length * 72 ≤ 140737488351232
  lp : f.p.length * 72 ≤ 140737488351232
  lh : f.h.length * 48 ≤ 140737488351232
theorem StK.mv {G G' : Heap} {E : List AId} {f : StF} {vo vp vh : AVal} (h : StK G f vo vp vh) (hc : Ch [] G E G') : StK G' f vo vp vh :=
  ⟨h.ok, h.o.mv hc, h.p.mv hc, h.h.ch' hc, h.lv, h.oko, h.okp, h.okh, h.lo, h.lp, h.lh⟩
theorem StK.j {G : Heap} {f : StF} {vo vp vh : AVal} (h : StK G f vo vp vh) : StJ G f vo vp vh := ⟨h.ok, h.o.isSl, h.p.isSl, h.h, h.lv, h.oko, h.okp, h.okh, h.lo, h.lp, h.lh⟩

def sndT (f : StF) : Prop := 0 ≤ f.s.atB ∧ f.s.atB ≤ (f.p.length : Nat) ∧ 0 ≤ f.s.sgnA ∧ f.s.sgnA ≤ (f.o.length : Nat) ∧ 0 ≤ f.s.heldA ∧ f.s.heldA ≤ (f.o.length : Nat)
def sndS (f : StF) : Prop := (f.s.rem = f.s.ack ∨ f.s.rem = IntKind.i64.wrap (f.s.ack + 1)) ∧ sndT f
instance (f : StF) : Decidable (sndT f) := by unfold sndT; infer_instance
instance (f : StF) : Decidable (sndS f) := by unfold sndS; infer_instance
def risP (a b : Int) : Prop := b = a ∨ b = IntKind.i64.wrap (a + 1)
def groP (f g : StF) : Prop := f.o.length ≤ g.o.length ∧ g.o.take f.o.length = f.o ∧ f.s.atB ≤ g.s.atB ∧ f.s.atB ≤ (g.p.length : Nat) ∧ g.p.take f.s.atB.toNat = f.p.take f.s.atB.toNat ∧ (f.s.failed = 0 ∨ g.s.failed = f.s.failed)
structure FixP (f g : StF) (k : Int) : Prop where
  top : g.s.side = f.s.side ∧ g.s.cap = f.s.cap ∧ g.s.bo = f.s.bo ∧ g.s.bp = f.s.bp
  k1 : k ≠ 1 → g.o.length = f.o.length
  k2 : k ≠ 2 → g.s.rem = f.s.rem ∧ g.s.sgnA = f.s.sgnA ∧ g.s.sgnB = f.s.sgnB
  k23 : k ≠ 2 → k ≠ 3 → g.s.behind = f.s.behind
  k3 : k ≠ 3 → g.s.loc = f.s.loc ∧ g.s.atA = f.s.atA ∧ g.s.atB = f.s.atB ∧ g.s.sig = f.s.sig ∧ g.p = f.p
  k4 : k ≠ 4 → g.s.ack = f.s.ack ∧ g.s.heldA = f.s.heldA ∧ g.s.heldB = f.s.heldB ∧ g.s.ptsA = f.s.ptsA ∧ g.s.ptsB = f.s.ptsB
  k5 : k ≠ 5 → g.s.failed = f.s.failed
  k6 : k ≠ 6 → g.s.closed = f.s.closed

theorem okC_len {o l c : List UpdM} (h : okC o c l = true) (hl : l ≠ []) : c.length < 2048 := by
  cases l with
  | nil => exact absurd rfl hl
  | cons u t =>
    rw [okC, Bool.and_eq_true] at h
    exact nextU_small17 (of_decide_eq_true h.1)
/-- What a taken record makes: bounds of its lists. -/
theorem applyG_lists {f : StF} {r : RcM} {l : List UpdM} {pt : Option (List SlotM)} (hp : putOk f.h r.index pt) (oko : ∀ u ∈ f.o, u.ok) (okp : ∀ u ∈ f.p, u.ok) (okh : ∀ x ∈ f.h, x.ok) (lo : f.o.length * 72 ≤ 140737488351232) (lp : f.p.length * 72 ≤ 140737488351232) (lh : f.h.length * 48 ≤ 140737488351232)
    (hr : r.ok) (hl : ∀ u ∈ l, u.ok) (hn : l.length ≤ 512) (h : (applyG f r l pt).2 = true) :
    (∀ u ∈ (applyG f r l pt).1.o, u.ok) ∧ (∀ u ∈ (applyG f r l pt).1.p, u.ok) ∧ (∀ x ∈ (applyG f r l pt).1.h, x.ok) ∧ (applyG f r l pt).1.o.length * 72 ≤ 140737488351232 ∧ (applyG f r l pt).1.p.length * 72 ≤ 140737488351232 ∧ (applyG f r l pt).1.h.length * 48 ≤ 140737488351232 := by
  have base : (∀ u ∈ f.o, u.ok) ∧ (∀ u ∈ f.p, u.ok) ∧ (∀ x ∈ f.h, x.ok) ∧ f.o.length * 72 ≤ 140737488351232 ∧ f.p.length * 72 ≤ 140737488351232 ∧ f.h.length * 48 ≤ 140737488351232 := ⟨oko, okp, okh, lo, lp, lh⟩
  revert h
  unfold applyG
  split
  · split
    · rename_i hx
      intro _
      have := nextU_small17 hx
      refine ⟨fun u hu => ?_, okp, okh, by simp only [List.length_append, List.length_singleton]; omega, lp, lh⟩
      rcases List.mem_append.1 hu with hu | hu
      · exact oko u hu
      · rw [List.mem_singleton.1 hu]; exact hr.upd
    · intro h; cases h
  split
  · split
    · intro h; cases h
    · exact fun _ => base
  split
  · split
    · intro h; cases h
    · rename_i hx
      intro _
      have hH : (heldP f).length ≤ f.p.length := by unfold heldP; rw [List.length_take]; omega
      refine ⟨oko, fun u hu => ?_, okh, lo, ?_, lh⟩
      · rcases List.mem_append.1 hu with hu | hu
        · exact okp u (List.mem_of_mem_take hu)
        · exact hl u hu
      · show (heldP f ++ l).length * 72 ≤ _
        rw [List.length_append]
        by_cases hl0 : l = []
        · rw [hl0, List.length_nil]; omega
        · have : okC f.o (heldP f) l = true := by
            cases hC : okC f.o (heldP f) l with
            | true => rfl
            | false => exact absurd (.inr hC) hx
          have := okC_len this hl0
          omega
  split
  · split
    · intro h; cases h
    · cases pt with
      | none => intro h; cases h
      | some h =>
        intro _
        have := hp.1 h rfl
        exact ⟨oko, okp, this.2, lo, lp, by show h.length * 48 ≤ _; omega⟩
  split
  · intro _
    show (∀ u ∈ (if f.s.failed = 0 then _ else f : StF).o, u.ok) ∧ _
    split
    · exact base
    · exact base
  · split
    · intro h; cases h
    · exact fun _ => base

/-- What a taken record keeps. -/
theorem applyG_keeps {f : StF} {r : RcM} {l : List UpdM} {pt : Option (List SlotM)} (hv : validR r l = true) (h : (applyG f r l pt).2 = true) (hs : sndS f) :
    sndS (applyG f r l pt).1 ∧ risP f.s.loc (applyG f r l pt).1.s.loc ∧ risP f.s.rem (applyG f r l pt).1.s.rem ∧ risP f.s.ack (applyG f r l pt).1.s.ack ∧ groP f (applyG f r l pt).1 ∧ FixP f (applyG f r l pt).1 r.kind := by
  obtain ⟨hr, a0, a1, s0, s1, h0, h1⟩ := hs
  have gr : groP f f := ⟨Nat.le_refl _, List.take_length, Int.le_refl _, a1, rfl, .inr rfl⟩
  have top : ∀ {g : StF}, g.s = f.s → g.s.side = f.s.side ∧ g.s.cap = f.s.cap ∧ g.s.bo = f.s.bo ∧ g.s.bp = f.s.bp := fun e => by rw [e]; exact ⟨rfl, rfl, rfl, rfl⟩
  have k2 : r.kind = 2 → 0 ≤ r.cntA := by
    intro hk
    obtain ⟨_, hv, _, _⟩ := valR_spec hv
    unfold validK at hv
    rw [if_neg (by omega), if_pos hk] at hv
    simp only [Bool.and_eq_true, isCnt, decide_eq_true_eq] at hv
    exact hv.2.1.1
  revert h
  unfold applyG
  split
  · rename_i hk
    split
    · intro _
      have e : (f.o ++ [r.upd]).length = f.o.length + 1 := by simp
      refine ⟨⟨hr, a0, a1, s0, by show f.s.sgnA ≤ (((f.o ++ [r.upd]).length : Nat) : Int); omega, h0, by show f.s.heldA ≤ (((f.o ++ [r.upd]).length : Nat) : Int); omega⟩, .inl rfl, .inl rfl, .inl rfl, ⟨by show _ ≤ (f.o ++ [r.upd]).length; omega, by simp, Int.le_refl _, a1, rfl, .inr rfl⟩, ?_⟩
      exact ⟨⟨rfl, rfl, rfl, rfl⟩, fun h => absurd hk h, fun _ => ⟨rfl, rfl, rfl⟩, fun _ _ => rfl, fun _ => ⟨rfl, rfl, rfl, rfl, rfl⟩, fun _ => ⟨rfl, rfl, rfl, rfl, rfl⟩, fun _ => rfl, fun _ => rfl⟩
    · intro h; cases h
  split
  · rename_i hk1 hk
    split
    · intro h; cases h
    · rename_i hx
      intro _
      unfold signB at hx
      have e1 : f.s.rem = f.s.ack := Decidable.not_not.1 fun h => hx (.inl h)
      have e2 : r.index = IntKind.i64.wrap (f.s.rem + 1) := Decidable.not_not.1 fun h => hx (.inr (.inl h))
      have e5 : r.cntA ≤ (f.o.length : Nat) := Int.not_lt.1 fun h => hx (.inr (.inr (.inr (.inr h))))
      refine ⟨⟨.inr (by show r.index = _; rw [e2, e1]), a0, a1, k2 hk, e5, h0, h1⟩, .inl rfl, .inr e2, .inl rfl, gr, ?_⟩
      exact ⟨⟨rfl, rfl, rfl, rfl⟩, fun _ => rfl, fun h => absurd hk h, fun h _ => absurd hk h, fun _ => ⟨rfl, rfl, rfl, rfl, rfl⟩, fun _ => ⟨rfl, rfl, rfl, rfl, rfl⟩, fun _ => rfl, fun _ => rfl⟩
  split
  · rename_i hk1 hk2 hk
    split
    · intro h; cases h
    · rename_i hx
      intro _
      have hc : ¬ cameB f r := fun h => hx (.inl h)
      unfold cameB at hc
      have e1 : r.index = IntKind.i64.wrap (f.s.loc + 1) := Decidable.not_not.1 fun h => hc (.inl h)
      have eH : (heldP f).length = f.s.atB.toNat := by unfold heldP; rw [List.length_take]; omega
      have eL : (heldP f ++ l).length = f.s.atB.toNat + l.length := by rw [List.length_append, eH]
      refine ⟨⟨hr, by show (0 : Int) ≤ (((heldP f ++ l).length : Nat) : Int); omega, Int.le_refl _, s0, s1, h0, h1⟩, .inr e1, .inl rfl, .inl rfl, ⟨Nat.le_refl _, List.take_length, by show f.s.atB ≤ (((heldP f ++ l).length : Nat) : Int); omega, by show f.s.atB ≤ (((heldP f ++ l).length : Nat) : Int); omega, ?_, .inr rfl⟩, ?_⟩
      · show (heldP f ++ l).take f.s.atB.toNat = _
        rw [List.take_append_of_le_length (by omega), List.take_of_length_le (by omega)]
        rfl
      · exact ⟨⟨rfl, rfl, rfl, rfl⟩, fun _ => rfl, fun _ => ⟨rfl, rfl, rfl⟩, fun _ h => absurd hk h, fun h => absurd hk h, fun _ => ⟨rfl, rfl, rfl, rfl, rfl⟩, fun _ => rfl, fun _ => rfl⟩
  split
  · rename_i hk1 hk2 hk3 hk
    split
    · intro h; cases h
    · rename_i hx
      unfold revB at hx
      have e1 : f.s.rem = IntKind.i64.wrap (f.s.ack + 1) := Decidable.not_not.1 fun h => hx (.inl h)
      cases pt with
      | none => intro h; cases h
      | some h =>
        intro _
        refine ⟨⟨.inl e1, a0, a1, s0, s1, s0, s1⟩, .inl rfl, .inl rfl, .inr rfl, gr, ?_⟩
        exact ⟨⟨rfl, rfl, rfl, rfl⟩, fun _ => rfl, fun _ => ⟨rfl, rfl, rfl⟩, fun _ _ => rfl, fun _ => ⟨rfl, rfl, rfl, rfl, rfl⟩, fun h => absurd hk h, fun _ => rfl, fun _ => rfl⟩
  split
  · rename_i hk1 hk2 hk3 hk4 hk
    intro _
    by_cases hf : f.s.failed = 0
    · rw [if_pos hf]
      refine ⟨⟨hr, a0, a1, s0, s1, h0, h1⟩, .inl rfl, .inl rfl, .inl rfl, ⟨Nat.le_refl _, List.take_length, Int.le_refl _, a1, rfl, .inl hf⟩, ?_⟩
      exact ⟨⟨rfl, rfl, rfl, rfl⟩, fun _ => rfl, fun _ => ⟨rfl, rfl, rfl⟩, fun _ _ => rfl, fun _ => ⟨rfl, rfl, rfl, rfl, rfl⟩, fun _ => ⟨rfl, rfl, rfl, rfl, rfl⟩, fun h => absurd hk h, fun _ => rfl⟩
    · rw [if_neg hf]
      refine ⟨⟨hr, a0, a1, s0, s1, h0, h1⟩, .inl rfl, .inl rfl, .inl rfl, gr, ?_⟩
      exact ⟨⟨rfl, rfl, rfl, rfl⟩, fun _ => rfl, fun _ => ⟨rfl, rfl, rfl⟩, fun _ _ => rfl, fun _ => ⟨rfl, rfl, rfl, rfl, rfl⟩, fun _ => ⟨rfl, rfl, rfl, rfl, rfl⟩, fun _ => rfl, fun _ => rfl⟩
  · rename_i hk1 hk2 hk3 hk4 hk5
    have hk : r.kind = 6 := by
      have := (valR_spec hv).1
      omega
    split
    · intro h; cases h
    · intro _
      refine ⟨⟨hr, a0, a1, s0, s1, h0, h1⟩, .inl rfl, .inl rfl, .inl rfl, gr, ?_⟩
      exact ⟨⟨rfl, rfl, rfl, rfl⟩, fun _ => rfl, fun _ => ⟨rfl, rfl, rfl⟩, fun _ _ => rfl, fun _ => ⟨rfl, rfl, rfl, rfl, rfl⟩, fun _ => ⟨rfl, rfl, rfl, rfl, rfl⟩, fun _ => rfl, fun h => absurd hk h⟩

section
variable {F0 : List AId} {G0 G : Heap} {ps : List LP} {Q : AVal → Heap → Prop}

theorem pair_neqT (a b : Int) : vbin T .neq t_api_Counts (pairW a b) (pairW a b) = some (.bool false) := by
  have : veqD T 9 t_api_Counts (pairW a b) (pairW a b) = some true := by
    simp [pairW, veqD, eqF, T_api_Counts, ti_api_Counts, T_int, ti_int, vfits, sz, szs, AVal.isAgg, ADesc.isAgg]
  simp [vbin, pairW] at this ⊢
  rw [this]
  rfl
theorem h2_neqT {a b : List UInt8} (ha : a.length = 32) (hb : b.length = 32) : vbin T .neq t_ar2_api_Hash (hash2V a b) (hash2V a b) = some (.bool false) := by
  have e1 : ∀ {x : List UInt8}, x.length = 32 → veqD T 8 t_api_Hash (.agg (x.map u8v)) (.agg (x.map u8v)) = some true := fun {x} hx => by
    rw [veqD_arr T_api_Hash rfl T_uint8, eqA_u8 T_uint8 rfl rfl 6 32 x x hx hx]; simp
  have f1 : vfits ti_api_Hash (.agg (a.map u8v)) = true := fits_hash ha
  have f2 : vfits ti_api_Hash (.agg (b.map u8v)) = true := fits_hash hb
  simp only [vbin, hash2V, veqD_arr T_ar2_api_Hash rfl T_api_Hash, eqA, f1, f2, e1 ha, e1 hb, Bool.and_self, if_true]
  rfl

set_option maxHeartbeats 2000000 in
theorem escrowlaw17_sound.use {f : StF} {vo vp vh : AVal} (hS : StK G f vo vp vh) (hQ : ∀ G', Ch [] G [] G' → Q (.bool (decide (sndS f))) G') : ACalls P escrowlaw17_sound.n [f.s.av vo vp vh] G Q := by
  have ho := hS.ok
  have lv := hS.lv
  refine escrowlaw17_sound.sound ?_
  unfold escrowlaw17_sound.S
  intro i1 f1
  have s1 := (Sp.nil G).row f1 (f.s.av vo vp vh)
  have g := RowL.own (i := 0) s1 rfl
  have hK := hS.mv s1.ch
  have no : ¬ sndS f → Q (.bool false) (G.upd i1 (.own (f.s.av vo vp vh))) := fun h => by
    have := hQ _ s1.ch
    rwa [decide_eq_false h] at this
  refine wv_of (St.ld_rem g ho lv) ?_
  refine wv_of (St.ld_ack g ho lv) ?_
  refine wv_of (vbin_eql _ _ _ _ _) ?_
  rw [brB_dec]
  have tail : (f.s.rem = f.s.ack ∨ f.s.rem = IntKind.i64.wrap (f.s.ack + 1)) → (∀ v : AVal, v = .bool (decide (sndS f)) → Q v (G.upd i1 (.own (f.s.av vo vp vh)))) := fun _ v hv => by rw [hv]; exact hQ _ s1.ch
  refine ⟨fun h1 => ?_, fun h1 => ?_⟩
  rotate_left
  · refine wv_of (St.ld_rem g ho lv) ?_
    refine wv_of (St.ld_ack g ho lv) ?_
    refine wv_of (vbin_add _ _ _ _ _) ?_
    refine wv_of (vbin_eql _ _ _ _ _) ?_
    rw [brB_dec]
    refine ⟨fun h2 => ?_, fun h2 => no fun h => h.1.elim h1 h2⟩
    refine wv_of (St.ld_atB g ho lv) ?_
    refine wv_of (vbin_geq _ _ _ _ _) ?_
    rw [brB_dec]
    refine ⟨fun h3 => ?_, fun h3 => no fun h => by have := h.2.1; omega⟩
    refine wv_of (St.ld_atB g ho lv) ?_
    refine wv_of (St.ld_peers g ho lv) ?_
    refine wv_of (upd_len hK.p.isSl) ?_
    refine wv_of (vbin_leq _ _ _ _ _) ?_
    rw [brB_dec]
    refine ⟨fun h4 => ?_, fun h4 => no fun h => h4 h.2.2.1⟩
    refine wv_of (St.ld_sgnA g ho lv) ?_
    refine wv_of (vbin_geq _ _ _ _ _) ?_
    rw [brB_dec]
    refine ⟨fun h5 => ?_, fun h5 => no fun h => by have := h.2.2.2.1; omega⟩
    refine wv_of (St.ld_sgnA g ho lv) ?_
    refine wv_of (St.ld_ours g ho lv) ?_
    refine wv_of (upd_len hK.o.isSl) ?_
    refine wv_of (vbin_leq _ _ _ _ _) ?_
    rw [brB_dec]
    refine ⟨fun h6 => ?_, fun h6 => no fun h => h6 h.2.2.2.2.1⟩
    refine wv_of (St.ld_heldA g ho lv) ?_
    refine wv_of (vbin_geq _ _ _ _ _) ?_
    rw [brB_dec]
    refine ⟨fun h7 => ?_, fun h7 => no fun h => by have := h.2.2.2.2.2.1; omega⟩
    refine wv_of (St.ld_heldA g ho lv) ?_
    refine wv_of (St.ld_ours g ho lv) ?_
    refine wv_of (upd_len hK.o.isSl) ?_
    refine wv_of (vbin_leq _ _ _ _ _) ?_
    refine tail (.inr h2) _ ?_
    congr 1
    rw [decide_eq_decide]
    exact ⟨fun h => ⟨.inr h2, h3, h4, h5, h6, h7, h⟩, fun h => h.2.2.2.2.2.2⟩
  · refine wv_of (St.ld_atB g ho lv) ?_
    refine wv_of (vbin_geq _ _ _ _ _) ?_
    rw [brB_dec]
    refine ⟨fun h3 => ?_, fun h3 => no fun h => by have := h.2.1; omega⟩
    refine wv_of (St.ld_atB g ho lv) ?_
    refine wv_of (St.ld_peers g ho lv) ?_
    refine wv_of (upd_len hK.p.isSl) ?_
    refine wv_of (vbin_leq _ _ _ _ _) ?_
    rw [brB_dec]
    refine ⟨fun h4 => ?_, fun h4 => no fun h => h4 h.2.2.1⟩
    refine wv_of (St.ld_sgnA g ho lv) ?_
    refine wv_of (vbin_geq _ _ _ _ _) ?_
    rw [brB_dec]
    refine ⟨fun h5 => ?_, fun h5 => no fun h => by have := h.2.2.2.1; omega⟩
    refine wv_of (St.ld_sgnA g ho lv) ?_
    refine wv_of (St.ld_ours g ho lv) ?_
    refine wv_of (upd_len hK.o.isSl) ?_
    refine wv_of (vbin_leq _ _ _ _ _) ?_
    rw [brB_dec]
    refine ⟨fun h6 => ?_, fun h6 => no fun h => h6 h.2.2.2.2.1⟩
    refine wv_of (St.ld_heldA g ho lv) ?_
    refine wv_of (vbin_geq _ _ _ _ _) ?_
    rw [brB_dec]
    refine ⟨fun h7 => ?_, fun h7 => no fun h => by have := h.2.2.2.2.2.1; omega⟩
    refine wv_of (St.ld_heldA g ho lv) ?_
    refine wv_of (St.ld_ours g ho lv) ?_
    refine wv_of (upd_len hK.o.isSl) ?_
    refine wv_of (vbin_leq _ _ _ _ _) ?_
    refine tail (.inl h1) _ ?_
    congr 1
    rw [decide_eq_decide]
    exact ⟨fun h => ⟨.inl h1, h3, h4, h5, h6, h7, h⟩, fun h => h.2.2.2.2.2.2⟩

theorem escrowlaw17_rises.use {a b : Int} (h : risP a b) (hQ : Q (.bool true) G) : ACalls P escrowlaw17_rises.n [.int .i64 a, .int .i64 b] G Q := by
  refine escrowlaw17_rises.sound ?_
  unfold escrowlaw17_rises.S
  refine wv_of (vbin_eql _ _ _ _ _) ?_
  rw [brB_dec]
  refine ⟨fun _ => hQ, fun h1 => ?_⟩
  refine wv_of (vbin_add _ _ _ _ _) ?_
  refine wv_of (vbin_eql _ _ _ _ _) ?_
  rw [decide_eq_true (h.resolve_left h1)]
  exact hQ

theorem upd_cut {v : AVal} {l : List UpdM} {n : Nat} {x : Int} (hl : CapSl 36 G v (l.map UpdM.av)) (hx : x = (n : Int)) (hn : n ≤ l.length) : ∃ w, vslice T t_sl_api_Update v none (some (.int .i64 x)) none = some w ∧ IsSl 36 G w ((l.take n).map UpdM.av) := by
  obtain ⟨w, h1, h2⟩ := CapSl.take (i := ti_sl_api_Update) (ie := ti_api_Update) T_sl_api_Update rfl T_api_Update hl (k := .i64) hx (by rw [List.length_map]; exact hn)
  exact ⟨w, h1, by have := h2.isSl; rwa [← List.map_take] at this⟩

set_option maxHeartbeats 2000000 in
theorem escrowlaw17_grows.use {f g : StF} {vo vp vh wo wp wh : AVal} (hf : StK G f vo vp vh) (hg : StK G g wo wp wh) (h : groP f g) (h0 : 0 ≤ f.s.atB) (h1 : f.s.atB ≤ (f.p.length : Nat)) (hQ : ∀ G', Ch [] G [] G' → Q (.bool true) G') : ACalls P escrowlaw17_grows.n [f.s.av vo vp vh, g.s.av wo wp wh] G Q := by
  have fo := hf.ok
  have go := hg.ok
  have fl := hf.lv
  have gl := hg.lv
  have lo := hf.lo
  have lp := hf.lp
  obtain ⟨b1, b2, b3, b4, b5, b6⟩ := h
  refine escrowlaw17_grows.sound ?_
  unfold escrowlaw17_grows.S
  intro i1 f1
  have s1 := (Sp.nil G).row f1 (f.s.av vo vp vh)
  intro i3 f3
  have s3 := s1.row f3 (g.s.av wo wp wh)
  revert s3
  generalize Heap.upd _ i3 _ = G4
  intro s3
  have r1 := RowL.own (i := 1) s3 rfl
  have r3 := RowL.own (i := 0) s3 rfl
  have hF := hf.mv s3.ch
  have hG := hg.mv s3.ch
  refine wv_of (St.ld_atB r1 fo fl) ?_
  refine wv_of (St.ld_ours r3 go gl) ?_
  refine wv_of (upd_len hG.o.isSl) ?_
  refine wv_of (St.ld_ours r1 fo fl) ?_
  refine wv_of (upd_len hF.o.isSl) ?_
  refine wv_of (vbin_geq _ _ _ _ _) ?_
  rw [decide_eq_true (by omega), brB_true]
  refine wv_of (St.ld_ours r3 go gl) ?_
  refine wv_of (St.ld_ours r1 fo fl) ?_
  refine wv_of (upd_len hF.o.isSl) ?_
  obtain ⟨w, e1, e2⟩ := upd_cut hG.o rfl b1
  refine wv_of e1 ?_
  refine wv_of (St.ld_ours r1 fo fl) ?_
  rw [b2] at e2
  refine escrowlaw17_sameList.use e2 hF.o.isSl hf.oko hf.oko (by omega) (by omega) ?_
  rw [decide_eq_true rfl, brB_true]
  refine wv_of (St.ld_atB r3 go gl) ?_
  refine wv_of (vbin_geq _ _ _ _ _) ?_
  rw [decide_eq_true (by omega), brB_true]
  refine wv_of (St.ld_peers r3 go gl) ?_
  refine wv_of (upd_len hG.p.isSl) ?_
  refine wv_of (vbin_geq _ _ _ _ _) ?_
  rw [decide_eq_true (by omega), brB_true]
  refine wv_of (St.ld_peers r3 go gl) ?_
  obtain ⟨x, c1, c2⟩ := upd_cut (n := f.s.atB.toNat) (x := f.s.atB) hG.p (by omega) (by omega)
  refine wv_of c1 ?_
  refine wv_of (St.ld_peers r1 fo fl) ?_
  obtain ⟨y, d1, d2⟩ := upd_cut (n := f.s.atB.toNat) (x := f.s.atB) hF.p (by omega) (by omega)
  refine wv_of d1 ?_
  rw [b5] at c2
  have ok : ∀ u ∈ f.p.take f.s.atB.toNat, u.ok := fun u hu => hf.okp u (List.mem_of_mem_take hu)
  have ln : (f.p.take f.s.atB.toNat).length ≤ 140737488351232 := by rw [List.length_take]; omega
  refine escrowlaw17_sameList.use c2 d2 ok ok ln ln ?_
  rw [decide_eq_true rfl, brB_true]
  refine wv_of (St.ld_failed r1 fo fl) ?_
  refine wv_of (vbin_eql _ _ _ _ _) ?_
  rw [brB_dec]
  refine ⟨fun _ => hQ _ s3.ch, fun h6 => ?_⟩
  refine wv_of (St.ld_failed r3 go gl) ?_
  refine wv_of (St.ld_failed r1 fo fl) ?_
  refine wv_of (vbin_eql _ _ _ _ _) ?_
  rw [decide_eq_true (b6.resolve_left h6)]
  exact hQ _ s3.ch

set_option maxHeartbeats 2000000 in
theorem escrowlaw17_fixed.use {f g : StF} {k : Int} {vo vp vh wo wp wh : AVal} (hf : StK G f vo vp vh) (hg : StK G g wo wp wh) (h : FixP f g k) (hQ : ∀ G', Ch [] G [] G' → Q (.bool true) G') : ACalls P escrowlaw17_fixed.n [f.s.av vo vp vh, g.s.av wo wp wh, .int .i64 k] G Q := by
  have fo := hf.ok
  have go := hg.ok
  have fl := hf.lv
  have gl := hg.lv
  have lo := hf.lo
  have lp := hf.lp
  refine escrowlaw17_fixed.sound ?_
  unfold escrowlaw17_fixed.S
  intro i1 f1
  have s1 := (Sp.nil G).row f1 (f.s.av vo vp vh)
  intro i3 f3
  have s3 := s1.row f3 (g.s.av wo wp wh)
  revert s3
  generalize Heap.upd _ i3 _ = G4
  intro s3
  have r1 := RowL.own (i := 1) s3 rfl
  have r3 := RowL.own (i := 0) s3 rfl
  have hF := hf.mv s3.ch
  have hG := hg.mv s3.ch
  have eqI : ∀ {t : TypeId} {x y : Int}, x = y → vbin T .neq t (.int .i64 x) (.int .i64 y) = some (.bool false) := by
    rintro t x y rfl
    exact nz0
  have eqE : ∀ {t : TypeId} {x y : Int}, x = y → vbin T .eql t (.int .i64 x) (.int .i64 y) = some (.bool true) := by
    rintro t x y rfl
    exact ez0
  intro J107
  have n1 : J107 (.bool false) G4 := by
    simp -zeta only [J107, brB_false]
    intro J106
    have n2 : J106 (.bool false) G4 := by
      simp -zeta only [J106, brB_false]
      intro J105
      have n3 : J105 (.bool false) G4 := by
        simp -zeta only [J105, brB_false]
        intro J104
        have n4 : J104 (.bool false) G4 := by
          simp -zeta only [J104, brB_false]
          refine wv_of (vbin_eql _ _ _ _ _) ?_
          rw [brB_dec]
          refine ⟨fun h5 => ?_, fun h5 => ?_⟩
          · refine wv_of (vbin_eql _ _ _ _ _) ?_
            rw [brB_dec]
            refine ⟨fun _ => hQ _ s3.ch, fun h6 => ?_⟩
            refine wv_of (St.ld_closed r3 go gl) ?_
            refine wv_of (St.ld_closed r1 fo fl) ?_
            refine wv_of (eqE (h.k6 h6)) ?_
            exact hQ _ s3.ch
          · refine wv_of (St.ld_failed r3 go gl) ?_
            refine wv_of (St.ld_failed r1 fo fl) ?_
            refine wv_of (eqE (h.k5 h5)) ?_
            rw [brB_true]
            refine wv_of (vbin_eql _ _ _ _ _) ?_
            rw [brB_dec]
            refine ⟨fun _ => hQ _ s3.ch, fun h6 => ?_⟩
            refine wv_of (St.ld_closed r3 go gl) ?_
            refine wv_of (St.ld_closed r1 fo fl) ?_
            refine wv_of (eqE (h.k6 h6)) ?_
            exact hQ _ s3.ch
        refine wv_of (vbin_neq _ _ _ _ _) ?_
        rw [brB_ndec]
        refine ⟨fun h4 => ?_, fun _ => n4⟩
        obtain ⟨a1, a2, a3, a4, a5⟩ := h.k4 h4
        refine wv_of (St.ld_ack r3 go gl) ?_
        refine wv_of (St.ld_ack r1 fo fl) ?_
        refine wv_of (eqI a1) ?_
        rw [brB_false]
        refine wv_of (St.ld_held r3 go gl) ?_
        refine wv_of (St.ld_held r1 fo fl) ?_
        rw [a2, a3]
        refine wv_of (pair_neqT _ _) ?_
        rw [brB_false]
        refine wv_of (St.ld_pts r3 go gl) ?_
        refine wv_of (St.ld_pts r1 fo fl) ?_
        rw [a4, a5]
        refine wv_of (h2_neqT fo.ptsA fo.ptsB) ?_
        exact n4
      refine wv_of (vbin_neq _ _ _ _ _) ?_
      rw [brB_ndec]
      refine ⟨fun h3 => ?_, fun _ => n3⟩
      obtain ⟨a1, a2, a3, a4, a5⟩ := h.k3 h3
      refine wv_of (St.ld_loc r3 go gl) ?_
      refine wv_of (St.ld_loc r1 fo fl) ?_
      refine wv_of (eqI a1) ?_
      rw [brB_false]
      refine wv_of (St.ld_at r3 go gl) ?_
      refine wv_of (St.ld_at r1 fo fl) ?_
      rw [a2, a3]
      refine wv_of (pair_neqT _ _) ?_
      rw [brB_false]
      refine wv_of (St.ld_sig r3 go gl) ?_
      refine wv_of (St.ld_sig r1 fo fl) ?_
      rw [a4]
      refine wv_of (hash_neq2 fo.sig fo.sig) ?_
      rw [decide_eq_true rfl, Bool.not_true, brB_false]
      refine wv_of (St.ld_peers r3 go gl) ?_
      refine wv_of (St.ld_peers r1 fo fl) ?_
      have hp := hG.p.isSl
      rw [a5] at hp
      refine escrowlaw17_sameList.use hp hF.p.isSl hf.okp hf.okp (by omega) (by omega) ?_
      rw [decide_eq_true rfl, vun_not, wv_some, Bool.not_true]
      exact n3
    have tb : (wv (vbin T .neq t_int (.int .i64 k) (.int .i64 2)) fun v32 => brB (some v32) (wv (vbin T .neq t_int (.int .i64 k) (.int .i64 3)) fun v33 => brB (some v33) (wv (vload T G4 t_bool (.ptr i3 [12] 15)) fun v34 => wv (vload T G4 t_bool (.ptr i1 [12] 15)) fun v35 => wv (vbin T .neq t_bool v34 v35) fun v36 => J106 v36 G4) (J106 (.bool false) G4)) (J106 (.bool false) G4)) := by
      refine wv_of (vbin_neq _ _ _ _ _) ?_
      rw [brB_ndec]
      refine ⟨fun h2 => ?_, fun _ => n2⟩
      refine wv_of (vbin_neq _ _ _ _ _) ?_
      rw [brB_ndec]
      refine ⟨fun h3 => ?_, fun _ => n2⟩
      refine wv_of (St.ld_behind r3 go gl) ?_
      refine wv_of (St.ld_behind r1 fo fl) ?_
      rw [h.k23 h2 h3]
      refine wv_of (v := .bool false) (by cases f.s.behind <;> rfl) ?_
      exact n2
    refine wv_of (vbin_neq _ _ _ _ _) ?_
    rw [brB_ndec]
    refine ⟨fun h1 => ?_, fun h1 => ?_⟩
    · refine wv_of (St.ld_ours r3 go gl) ?_
      refine wv_of (upd_len hG.o.isSl) ?_
      refine wv_of (St.ld_ours r1 fo fl) ?_
      refine wv_of (upd_len hF.o.isSl) ?_
      refine wv_of (eqI (by rw [h.k1 h1])) ?_
      rw [brB_false]
      refine wv_of (vbin_neq _ _ _ _ _) ?_
      rw [brB_ndec]
      refine ⟨fun h2 => ?_, fun _ => tb⟩
      obtain ⟨a1, a2, a3⟩ := h.k2 h2
      refine wv_of (St.ld_rem r3 go gl) ?_
      refine wv_of (St.ld_rem r1 fo fl) ?_
      refine wv_of (eqI a1) ?_
      rw [brB_false]
      refine wv_of (St.ld_sgn r3 go gl) ?_
      refine wv_of (St.ld_sgn r1 fo fl) ?_
      rw [a2, a3]
      refine wv_of (pair_neqT _ _) ?_
      rw [brB_false]
      exact tb
    · refine wv_of (vbin_neq _ _ _ _ _) ?_
      rw [brB_ndec]
      refine ⟨fun h2 => ?_, fun _ => tb⟩
      obtain ⟨a1, a2, a3⟩ := h.k2 h2
      refine wv_of (St.ld_rem r3 go gl) ?_
      refine wv_of (St.ld_rem r1 fo fl) ?_
      refine wv_of (eqI a1) ?_
      rw [brB_false]
      refine wv_of (St.ld_sgn r3 go gl) ?_
      refine wv_of (St.ld_sgn r1 fo fl) ?_
      rw [a2, a3]
      refine wv_of (pair_neqT _ _) ?_
      rw [brB_false]
      exact tb
  obtain ⟨a1, a2, a3, a4⟩ := h.top
  refine wv_of (St.ld_side r3 go gl) ?_
  refine wv_of (St.ld_side r1 fo fl) ?_
  refine wv_of (eqI a1) ?_
  rw [brB_false]
  refine wv_of (St.ld_cap r3 go gl) ?_
  refine wv_of (St.ld_cap r1 fo fl) ?_
  refine wv_of (eqI a2) ?_
  rw [brB_false]
  refine wv_of (St.ld_bo r3 go gl) ?_
  refine wv_of (St.ld_bo r1 fo fl) ?_
  refine wv_of (eqI a3) ?_
  rw [brB_false]
  refine wv_of (St.ld_bp r3 go gl) ?_
  refine wv_of (St.ld_bp r1 fo fl) ?_
  refine wv_of (eqI a4) ?_
  exact n1

end
end Go.Esc.M

/- Own work. Chapter 17: RecordKeeps: what a fold keeps, whatever Go's table holds. -/
set_option linter.unusedSimpArgs false
set_option linter.unusedVariables false
set_option maxRecDepth 20000
namespace Go.Esc.M
open Go Go.Esc

theorem wt_hash2K {G : Heap} {R d : Nat} {v : AVal} {m : Nat} (h : wt T G R (d + 3) t_ar2_api_Hash v m) : ∃ a b : List UInt8, v = hash2V a b ∧ a.length = 32 ∧ b.length = 32 := by
  rw [wt] at h
  simp only [T_ar2_api_Hash, show ti_ar2_api_Hash.desc = .array 2 t_api_Hash from rfl] at h
  obtain ⟨cs, ms, rfl, hl, hw, _⟩ := h
  match cs, ms, hl, hw with
  | [a, b], [m1, m2], _, ⟨h1, h2, _⟩ =>
    obtain ⟨x, rfl, lx, _⟩ := wt_hash T_api_Hash rfl T_uint8 rfl h1
    obtain ⟨y, rfl, ly, _⟩ := wt_hash T_api_Hash rfl T_uint8 rfl h2
    exact ⟨x, y, rfl, lx, ly⟩
theorem wt_StateK {G : Heap} {d : Nat} {v : AVal} {m : Nat} (h : wt T G reachBytes (d + 5) t_api_State v m) : ∃ (f : StF) (vo vp vh : AVal), v = f.s.av vo vp vh ∧ StK G f vo vp vh := by
  obtain ⟨cs, ms, rfl, hf, rfl⟩ := wt_struct T_api_State rfl h
  obtain ⟨c1, cs, m1, ms, rfl, rfl, h1, hf⟩ := wfs_cons hf
  obtain ⟨c2, cs, m2, ms, rfl, rfl, h2, hf⟩ := wfs_cons hf
  obtain ⟨c3, cs, m3, ms, rfl, rfl, h3, hf⟩ := wfs_cons hf
  obtain ⟨c4, cs, m4, ms, rfl, rfl, h4, hf⟩ := wfs_cons hf
  obtain ⟨c5, cs, m5, ms, rfl, rfl, h5, hf⟩ := wfs_cons hf
  obtain ⟨c6, cs, m6, ms, rfl, rfl, h6, hf⟩ := wfs_cons hf
  obtain ⟨c7, cs, m7, ms, rfl, rfl, h7, hf⟩ := wfs_cons hf
  obtain ⟨c8, cs, m8, ms, rfl, rfl, h8, hf⟩ := wfs_cons hf
  obtain ⟨c9, cs, m9, ms, rfl, rfl, h9, hf⟩ := wfs_cons hf
  obtain ⟨c10, cs, m10, ms, rfl, rfl, h10, hf⟩ := wfs_cons hf
  obtain ⟨c11, cs, m11, ms, rfl, rfl, h11, hf⟩ := wfs_cons hf
  obtain ⟨c12, cs, m12, ms, rfl, rfl, h12, hf⟩ := wfs_cons hf
  obtain ⟨c13, cs, m13, ms, rfl, rfl, h13, hf⟩ := wfs_cons hf
  obtain ⟨c14, cs, m14, ms, rfl, rfl, h14, hf⟩ := wfs_cons hf
  obtain ⟨c15, cs, m15, ms, rfl, rfl, h15, hf⟩ := wfs_cons hf
  obtain ⟨c16, cs, m16, ms, rfl, rfl, h16, hf⟩ := wfs_cons hf
  obtain ⟨c17, cs, m17, ms, rfl, rfl, h17, hf⟩ := wfs_cons hf
  obtain ⟨c18, cs, m18, ms, rfl, rfl, h18, hf⟩ := wfs_cons hf
  obtain ⟨rfl, rfl⟩ := wfs_nil hf
  obtain ⟨a1, rfl, w1, _⟩ := wt_int T_int rfl h1
  obtain ⟨a2, rfl, w2, _⟩ := wt_int T_int64 rfl h2
  obtain ⟨a3, rfl, w3, _⟩ := wt_int T_int64 rfl h3
  obtain ⟨a4, rfl, w4, _⟩ := wt_int T_int64 rfl h4
  obtain ⟨o, ho, oko, lo⟩ := wt_Upds h5
  obtain ⟨p, hp, okp, lp⟩ := wt_Upds h6
  obtain ⟨a7, rfl, w7, _⟩ := wt_int T_int64 rfl h7
  obtain ⟨a8, rfl, w8, _⟩ := wt_int T_int64 rfl h8
  obtain ⟨a9, rfl, w9, _⟩ := wt_int T_int64 rfl h9
  obtain ⟨a10, b10, rfl, w10, w10'⟩ := wt_PairB h10
  obtain ⟨a11, b11, rfl, w11, w11'⟩ := wt_PairB h11
  obtain ⟨a12, b12, rfl, w12, w12'⟩ := wt_PairB h12
  obtain ⟨a13, rfl, _⟩ := wt_bool T_bool rfl h13
  obtain ⟨a14, b14, rfl, w14, w14'⟩ := wt_hash2K h14
  obtain ⟨a15, rfl, w15, _⟩ := wt_hash T_api_Hash rfl T_uint8 rfl h15
  obtain ⟨hs, hh, okh, lh⟩ := wt_Slots h16
  obtain ⟨a17, rfl, w17, _⟩ := wt_int T_int rfl h17
  obtain ⟨a18, rfl, w18, _⟩ := wt_int T_int64 rfl h18
  have lo : o.length * 72 ≤ 140737488351232 := lo
  have lp : p.length * 72 ≤ 140737488351232 := lp
  have lh : hs.length * 48 ≤ 140737488351232 := lh
  refine ⟨⟨⟨a1, a2, a3, a4, a7, a8, a9, a10, b10, a11, b11, a12, b12, a13, a14, b14, a15, a17, a18⟩, o, p, hs⟩, c5, c6, c16, rfl, ?_⟩
  exact ⟨⟨i64_wf.1 w1, i64_wf.1 w2, i64_wf.1 w3, i64_wf.1 w4, i64_wf.1 w7, i64_wf.1 w8, i64_wf.1 w9, w10, w10', w11, w11', w12, w12', w14, w14', w15, i64_wf.1 w17, i64_wf.1 w18⟩, ho.cap, hp.cap, hh.is, ⟨capLeaf ho.cap, capLeaf hp.cap, capLeaf hh.cap⟩, oko, okp, okh, lo, lp, lh⟩

theorem wt_RecordsK {G : Heap} {d : Nat} {v : AVal} {m : Nat} (h : wt T G reachBytes (d + 6) t_sl_api_Record v m) : ∃ l : List RwM, RoSl 138 G v (l.map RwM.av) ∧ (∀ x ∈ l, x.good G) ∧ l.length * 232 ≤ reachBytes := by
  obtain ⟨xs, ms, hro, hall, hms, hR, _⟩ := wt_ro RwM.av (fun x m => x.good G) T_sl_api_Record rfl T_api_Record (fun c m h => by
    obtain ⟨r, w, l, hc, hr, hl, hok, hn⟩ := wt_Record h
    have hn : l.length * 72 ≤ 140737488351232 := hn
    exact ⟨⟨r, w, l⟩, hc, ⟨hr, capLeaf hl.cap, hl.is, hok, by show l.length ≤ _; omega⟩⟩) h
  refine ⟨xs, hro, fun x hx => ?_, hR⟩
  obtain ⟨m, hm, _⟩ := hall.mem hx
  exact hm

section
variable {F0 : List AId} {G0 G : Heap} {ps : List LP} {Q : AVal → Heap → Prop}

theorem rec_kind {v : AVal} {l : List RwM} {j : Nat} {x : RwM} (h : IsSl 138 G v (l.map RwM.av)) (hj : l[j]? = some x) : ∃ a b, viaddr T t_sl_api_Record v (.int .i64 (j : Int)) = some a ∧ vfaddr T t_api_Record a 0 = some b ∧ vload T G t_int b = some (.int .i64 x.r.kind) :=
  IsSl.fld (k := .i64) (ie := ti_api_Record) (cs := x.r.cs x.w) T_sl_api_Record rfl T_api_Record (fs := [(t_int, 0), (t_api_Update, 1), (t_sl_api_Update, 37), (t_int64, 38), (t_api_Counts, 39), (t_api_Hash, 41), (t_api_Hash, 73), (t_api_Hash, 105), (t_int, 137)]) (f := 0) (o := 0) rfl rfl T_int (by decide) h (by rw [List.getElem?_map, hj]; rfl) rfl rfl rfl
theorem ownK {g : StF} {wo wp wh : AVal} {i : Nat} (hs : Sp F0 G0 ps G) (h0 : ps[i]? = some (OwnL 34 wh (g.h.map SlotM.av))) (h1 : ps[i + 1]? = some (OwnL 36 wp (g.p.map UpdM.av))) (h2 : ps[i + 2]? = some (OwnL 36 wo (g.o.map UpdM.av))) (ok : g.s.ok)
    (hb : (∀ u ∈ g.o, u.ok) ∧ (∀ u ∈ g.p, u.ok) ∧ (∀ x ∈ g.h, x.ok) ∧ g.o.length * 72 ≤ 140737488351232 ∧ g.p.length * 72 ≤ 140737488351232 ∧ g.h.length * 48 ≤ 140737488351232) : StK G g wo wp wh :=
  ⟨ok, Own.capSl (OwnL.own hs h2), Own.capSl (OwnL.own hs h1), (OwnL.own hs h0).is, ⟨(OwnL.own hs h2).leaf, (OwnL.own hs h1).leaf, (OwnL.own hs h0).leaf⟩, hb.1, hb.2.1, hb.2.2.1, hb.2.2.2.1, hb.2.2.2.2.1, hb.2.2.2.2.2⟩

set_option maxHeartbeats 8000000 in
theorem law_RecordKeeps {a b : AVal} {m1 m2 : Nat} (hT : TabAny G) (h1 : wt T G reachBytes 6 t_api_State a m1) (h2 : wt T G reachBytes 6 t_sl_api_Record b m2) :
    ACalls P escrowlaw17_RecordKeeps.n [a, b] G fun v _ => v = .bool true := by
  obtain ⟨f, vo, vp, vh, rfl, hS⟩ := wt_StateK h1
  obtain ⟨l, hro, hgood, hlen⟩ := wt_RecordsK h2
  have hlen : l.length * 232 ≤ 140737488351232 := hlen
  have hl := hro.is
  refine escrowlaw17_RecordKeeps.sound ?_
  unfold escrowlaw17_RecordKeeps.S
  intro i1 f1
  have s1 := (Sp.nil G).row f1 (f.s.av vo vp vh)
  revert s1
  generalize Heap.upd _ i1 _ = G2
  intro s1
  refine escrowlaw17_head.use fun G4 c4 => ?_
  have s4 := s1.tmp c4
  rw [vun_not, wv_some, Bool.not_true, brB_false]
  refine wv_of (St.ld (RowL.own (i := 0) s4 rfl) hS.ok hS.lv) ?_
  refine escrowlaw17_sound.use (hS.mv s4.ch) fun G8 c8 => ?_
  have s8 := s4.tmp c8
  rw [vun_not, wv_some, brB_ndec]
  refine ⟨fun _ => rfl, fun hs => ?_⟩
  intro R10 hR
  have loop : ∀ (n j : Nat) (f : StF) (vo vp vh : AVal) (ps : List LP) (i : Nat) (G11 : Heap), l.length - j = n → j ≤ l.length → sndS f → Sp [] G ps G11 → ps[i]? = some (RowL i1 (f.s.av vo vp vh)) → StK G11 f vo vp vh → R10 [b, .ptr i1 [] 0, .int .i64 (j : Int)] G11 := by
    intro n
    induction n with
    | zero =>
      intro j f vo vp vh ps i G11 hn hj hs sp hi hK
      refine hR _ _ _ _ ?_
      refine wv_of (rec_len (hl.ch' sp.ch)) ?_
      rw [vbin_lss, wv_some, decide_eq_false (by omega), brB_false]
    | succ n ih =>
      intro j f vo vp vh ps i G11 hn hj hs sp hi hK
      have hi0 := (List.getElem?_eq_some_iff.1 hi).1
      refine hR _ _ _ _ ?_
      refine wv_of (rec_len (hl.ch' sp.ch)) ?_
      rw [vbin_lss, wv_some, decide_eq_true (by omega), brB_true]
      refine wv_of (St.ld (RowL.own (i := i) sp hi) hK.ok hK.lv) ?_
      obtain ⟨x, hx⟩ : ∃ x, l[j]? = some x := ⟨_, List.getElem?_eq_getElem (by omega)⟩
      have gx := hgood x (List.mem_of_getElem? hx)
      obtain ⟨p, p1, p2⟩ := rec_at (hl.ch' sp.ch) hx
      refine wv_of p1 ?_
      refine wv_of p2 ?_
      have inc : vbin T .add t_int (.int .i64 (j : Int)) (.int .i64 1) = some (.int .i64 ((j + 1 : Nat) : Int)) := by
        rw [vbin_add, i64_in (by omega) (by omega)]; rfl
      refine record_Apply.useG (hT.mono sp.ro) hK.j gx.ok gx.lf (gx.is.ch' sp.ch) gx.us gx.len (fun pt hp hap G21 c21 => ?_) (fun pt hp hap wo wp wh G21 t21 => ?_)
      · have t21 := (Sp.nil G11).tmp c21
        refine wv_of (tv0 _ _) ?_
        refine wv_of (tv1 _ _) ?_
        refine St.nw t21 StM.zero_ok lv0 fun i24 G26 t26 => ?_
        have s26 := sp_app17 sp t26
        have g := RowL.own (i := 0) s26 rfl
        refine wv_of (v := .bool true) rfl ?_
        rw [brB_true]
        refine wv_of nz0 ?_
        rw [brB_false]
        refine wv_of (St.ld_ours g StM.zero_ok lv0) ?_
        refine wv_of (upd_len (l := []) (.inr ⟨rfl, rfl⟩)) ?_
        refine wv_of (St.ld_peers g StM.zero_ok lv0) ?_
        refine wv_of (upd_len (l := []) (.inr ⟨rfl, rfl⟩)) ?_
        refine wv_of (v := .int .i64 0) rfl ?_
        refine wv_of (St.ld_shelf g StM.zero_ok lv0) ?_
        refine wv_of (slots_len (l := []) (.inr ⟨rfl, rfl⟩)) ?_
        refine wv_of (v := .int .i64 0) rfl ?_
        refine wv_of nz0 ?_
        rw [brB_false]
        refine wv_of (St.ld_cap g StM.zero_ok lv0) ?_
        refine wv_of (v := .bool false) nz0 ?_
        rw [brB_false]
        refine wv_of (St.ld_closed g StM.zero_ok lv0) ?_
        refine wv_of (v := .bool false) nz0 ?_
        rw [brB_false]
        refine wv_of (St.ld_loc g StM.zero_ok lv0) ?_
        refine wv_of (v := .bool false) nz0 ?_
        rw [brB_false]
        refine wv_of inc ?_
        exact ih (j + 1) f vo vp vh _ (i + 1) G26 (by omega) (by omega) hs s26 hi (hK.mv t26.ch)
      · have hv : validR x.r x.l = true := by
          unfold apG at hap
          rw [Bool.and_eq_true] at hap
          exact hap.1
        have ha : (applyG f x.r x.l pt).2 = true := by
          unfold apG at hap
          rw [Bool.and_eq_true] at hap
          exact hap.2
        obtain ⟨k1, k2, k3, k4, k5, k6⟩ := applyG_keeps hv ha hs
        have hl5 := validR_len hv
        have gok := applyG_ok (pt := pt) hK.ok gx.ok hl5 hK.lp
        have hb := applyG_lists hp hK.oko hK.okp hK.okh hK.lo hK.lp hK.lh gx.ok gx.us hl5 ha
        obtain ⟨g, hg⟩ : ∃ g, g = (applyG f x.r x.l pt).1 := ⟨_, rfl⟩
        rw [← hg] at k1 k2 k3 k4 k5 k6 gok hb t21 ⊢
        have lg : Leaf wo ∧ Leaf wp ∧ Leaf wh := ⟨(OwnL.own (i := 2) t21 rfl).leaf, (OwnL.own (i := 1) t21 rfl).leaf, (OwnL.own (i := 0) t21 rfl).leaf⟩
        refine wv_of (tv0 _ _) ?_
        refine wv_of (tv1 _ _) ?_
        refine St.nw t21 gok lg fun i24 G26 t26 => ?_
        refine wv_of nz0 ?_
        rw [brB_false]
        intro J85
        have go : ∀ G', Sp [] G11 [RowL i24 (g.s.av wo wp wh), OwnL 34 wh (g.h.map SlotM.av), OwnL 36 wp (g.p.map UpdM.av), OwnL 36 wo (g.o.map UpdM.av)] G' → J85 (.bool false) G' := by
          intro G81 t81
          simp -zeta only [J85, brB_false]
          have s81 := sp_app17 sp t81
          refine wv_of (St.ld (RowL.own (i := 0) t81 rfl) gok lg) ?_
          refine St.st (i := i + 4) s81 hi hK.ok hK.lv gok lg fun G84 s84 => ?_
          refine wv_of inc ?_
          have s84 : Sp [] G (RowL i24 (g.s.av wo wp wh) :: OwnL 34 wh (g.h.map SlotM.av) :: OwnL 36 wp (g.p.map UpdM.av) :: OwnL 36 wo (g.o.map UpdM.av) :: ps.set i (RowL i1 (g.s.av wo wp wh))) G84 := s84
          exact ih (j + 1) g wo wp wh _ (i + 4) G84 (by omega) (by omega) k1 s84 (by
            show (ps.set i (RowL i1 (g.s.av wo wp wh)))[i]? = _
            rw [List.getElem?_set_self hi0]) (ownK (i := 1) s84 rfl rfl rfl gok hb)
        refine wv_of (St.ld (RowL.own (i := 0) t26 rfl) gok lg) ?_
        refine escrowlaw17_sound.use (ownK (i := 1) t26 rfl rfl rfl gok hb) fun G48 c48 => ?_
        have t48 := t26.tmp c48
        rw [decide_eq_true k1, vun_not, wv_some, Bool.not_true, brB_false]
        have r1 : ∀ {G'}, Sp [] G11 [RowL i24 (g.s.av wo wp wh), OwnL 34 wh (g.h.map SlotM.av), OwnL 36 wp (g.p.map UpdM.av), OwnL 36 wo (g.o.map UpdM.av)] G' → G' i1 = some (.own (f.s.av vo vp vh)) := fun t => RowL.own (i := i + 4) (sp_app17 sp t) hi
        have r24 := RowL.own (i := 0) t48 rfl
        refine wv_of (v := .ptr i1 [6] 6) rfl ?_
        refine wv_of (St.ld_loc (r1 t48) hK.ok hK.lv) ?_
        refine wv_of (St.ld_loc r24 gok lg) ?_
        refine escrowlaw17_rises.use k2 ?_
        rw [vun_not, wv_some, Bool.not_true, brB_false]
        refine wv_of (v := .ptr i1 [7] 7) rfl ?_
        refine wv_of (St.ld_rem (r1 t48) hK.ok hK.lv) ?_
        refine wv_of (St.ld_rem r24 gok lg) ?_
        refine escrowlaw17_rises.use k3 ?_
        rw [vun_not, wv_some, Bool.not_true, brB_false]
        refine wv_of (v := .ptr i1 [8] 8) rfl ?_
        refine wv_of (St.ld_ack (r1 t48) hK.ok hK.lv) ?_
        refine wv_of (St.ld_ack r24 gok lg) ?_
        refine escrowlaw17_rises.use k4 ?_
        rw [vun_not, wv_some, Bool.not_true, brB_false]
        refine wv_of (St.ld (r1 t48) hK.ok hK.lv) ?_
        refine wv_of (St.ld r24 gok lg) ?_
        refine escrowlaw17_grows.use (hK.mv t48.ch) (ownK (i := 1) t48 rfl rfl rfl gok hb) k5 hs.2.1 hs.2.2.1 fun G71 c71 => ?_
        have t71 := t48.tmp c71
        rw [vun_not, wv_some, Bool.not_true, brB_false]
        refine wv_of (St.ld (r1 t71) hK.ok hK.lv) ?_
        refine wv_of (St.ld (RowL.own (i := 0) t71 rfl) gok lg) ?_
        have s71 := sp_app17 sp t71
        obtain ⟨q1, q2, q3, q4, q5⟩ := rec_kind (hl.ch' s71.ch) hx
        refine wv_of q3 ?_
        refine wv_of q4 ?_
        refine wv_of q5 ?_
        refine escrowlaw17_fixed.use (hK.mv t71.ch) (ownK (i := 1) t71 rfl rfl rfl gok hb) k6 fun G79 c79 => ?_
        have t79 := t71.tmp c79
        rw [vun_not, wv_some, Bool.not_true]
        exact go _ t79
  exact loop l.length 0 f vo vp vh _ 0 G8 rfl (by omega) hs s8 rfl (hS.mv s8.ch)

end
end Go.Esc.M
