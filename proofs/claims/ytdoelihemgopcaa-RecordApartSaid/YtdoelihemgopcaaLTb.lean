import Derived.Test.YtdoelihemgopcaaLQi
import Derived.Test.YtdoelihemgopcaaLSh
import Derived.Test.YtdoelihemgopcaaLQd
import Derived.Test.YtdoelihemgopcaaLFa
import Derived.Test.YtdoelihemgopcaaLDg
import Derived.Test.YtdoelihemgopcaaLCx
/- Own work. Chapter 17: lent, stays. -/
set_option linter.unusedSimpArgs false
set_option linter.unusedVariables false
set_option maxRecDepth 20000
namespace Go.Esc.M
open Go Go.Esc

section
variable {F0 : List AId} {G0 G : Heap} {ps : List LP} {Q : AVal → Heap → Prop}

end
end Go.Esc.M

/- Own work. Chapter 17: Apply, of the kinds 1, 2 and 5. -/
set_option linter.unusedSimpArgs false
set_option linter.unusedVariables false
set_option maxRecDepth 20000
namespace Go.Esc.M
open Go Go.Esc

def signB (f : StF) (r : RcM) : Prop := f.s.rem ≠ f.s.ack ∨ r.index ≠ IntKind.i64.wrap (f.s.rem + 1) ∨ r.cntB ≠ f.s.atB ∨ r.cntA < f.s.sgnA ∨ (f.o.length : Nat) < r.cntA
instance (f : StF) (r : RcM) : Decidable (signB f r) := by unfold signB; infer_instance
def applyK (f : StF) (r : RcM) : StF × Bool :=
  if r.kind = 1 then (if nextU f.o f.p r.upd = 0 then (⟨f.s, f.o ++ [r.upd], f.p, f.h⟩, true) else (f, false))
  else if r.kind = 2 then (if signB f r then (f, false) else (⟨{ f.s with rem := r.index, sgnA := r.cntA, sgnB := r.cntB, behind := true }, f.o, f.p, f.h⟩, true))
  else ((if f.s.failed = 0 then ⟨{ f.s with failed := r.code }, f.o, f.p, f.h⟩ else f), true)
def apOk (f : StF) (r : RcM) (l : List UpdM) : Bool := validR r l && (applyK f r).2

section
variable {F0 : List AId} {G0 G : Heap} {ps : List LP} {Q : AVal → Heap → Prop}

set_option maxHeartbeats 4000000 in
theorem chg_apply {f : StF} {r : RcM} {v wo wp wh : AVal} {i1 : AId} {L0 L3 L4 : LP} (hr : r.ok) (hv : Leaf v) (hk : r.kind = 1 ∨ r.kind = 2 ∨ r.kind = 5) (ho : f.s.ok) (oko : ∀ u ∈ f.o, u.ok) (okp : ∀ u ∈ f.p, u.ok) (lo : f.o.length ≤ 1048576) (lp : f.p.length ≤ 1048576) (hh : Leaf wh)
    (hs : Sp [] G0 [L0, OwnL 36 wp (f.p.map UpdM.av), OwnL 36 wo (f.o.map UpdM.av), L3, L4, RowL i1 (f.s.av wo wp wh)] G)
    (hQ : ∀ wo' G', Sp [] G0 [L0, OwnL 36 wp ((applyK f r).1.p.map UpdM.av), OwnL 36 wo' ((applyK f r).1.o.map UpdM.av), L3, L4, RowL i1 ((applyK f r).1.s.av wo' wp wh)] G' → Q (.bool (applyK f r).2) G') : aInvoke cx (chgV r v) "escrow/record.apply" [.ptr i1 [] 0] G Q := by
  have lfo := (OwnL.own (i := 2) hs rfl).leaf
  have lfp := (OwnL.own (i := 1) hs rfl).leaf
  have lv : Leaf wo ∧ Leaf wp ∧ Leaf wh := ⟨lfo, lfp, hh⟩
  unfold applyK at hQ
  unfold chgV
  rcases hk with h | h | h
  · rw [if_pos h] at hQ ⊢
    refine inv_record_ours_apply ?_
    refine record_ours_apply.sound ?_
    unfold record_ours_apply.S
    intro i2 f2
    have s2 := hs.row f2 (.agg [r.upd.av])
    refine wv_of (v := .ptr i1 [] 0) rfl ?_
    refine wv_of (v := .ptr i1 [4] 4) rfl ?_
    refine wv_of (St.ld_ours (RowL.own (i := 6) s2 rfl) ho lv) ?_
    refine wv_of (v := .ptr i1 [] 0) rfl ?_
    refine wv_of (v := .ptr i1 [5] 5) rfl ?_
    refine wv_of (St.ld_peers (RowL.own (i := 6) s2 rfl) ho lv) ?_
    refine wv_of (ow_ld hr.upd (RowL.own (i := 0) s2 rfl)) ?_
    refine update_Next.use (OwnL.own (i := 3) s2 rfl).is (OwnL.own (i := 2) s2 rfl).is oko okp (by omega) (by omega) hr.upd fun G11 c11 => ?_
    have s11 := s2.tmp c11
    rw [vbin_neq, wv_some, brB_ndec]
    refine ⟨fun h1 => ?_, fun h1 => ?_⟩
    · rw [if_neg h1] at hQ
      exact hQ wo _ (s11.erase 0)
    · rw [if_pos h1] at hQ
      refine wv_of (v := .ptr i1 [] 0) rfl ?_
      refine wv_of (v := .ptr i1 [4] 4) rfl ?_
      refine wv_of (St.ld_ours (RowL.own (i := 6) s11 rfl) ho lv) ?_
      refine wv_of (ow_ld hr.upd (RowL.own (i := 0) s11 rfl)) ?_
      refine growV (T := T) (ts := t_sl_api_Update) (e := t_api_Update) (si := ti_sl_api_Update) (ie := ti_api_Update) (i := 3) (vs := f.o.map UpdM.av) T_sl_api_Update rfl T_api_Update rfl (by decide) s11 rfl (UpdM.sz hr.upd) (UpdM.okv _) (by decide) (by rw [List.length_map]; simp only [ti_api_Update]; omega) fun w' G20 s20 => ?_
      have lw' := (OwnL.own (i := 3) s20 rfl).leaf
      refine wv_of (v := .ptr i1 [] 0) rfl ?_
      refine wv_of (v := .ptr i1 [4] 4) rfl ?_
      refine St.st_ours (i := 6) s20 rfl ho lv lw' fun G23 s23 => ?_
      refine hQ w' _ ?_
      have := s23.erase 0
      rw [List.map_append]
      exact this
  · rw [if_neg (by omega), if_pos h] at hQ ⊢
    refine inv_record_signed_apply ?_
    refine record_signed_apply.sound ?_
    unfold record_signed_apply.S
    intro i2 f2
    have s2 := hs.row f2 (.agg [.int .i64 r.index, pairW r.cntA r.cntB])
    revert s2
    generalize Heap.upd _ i2 _ = G2
    intro s2
    have hg := RowL.own (i := 6) s2 rfl
    obtain ⟨l0, l1, l2, l3⟩ := sg_ld (RowL.own (i := 0) s2 rfl)
    intro J47
    have bad : signB f r → J47 (.bool true) G2 := by
      intro hb
      rw [if_pos hb] at hQ
      simp -zeta only [J47, brB_true]
      exact hQ wo _ (s2.erase 0)
    have good : ¬ signB f r → J47 (.bool false) G2 := by
      intro hb
      rw [if_neg hb] at hQ
      simp -zeta only [J47, brB_false]
      refine wv_of l0 ?_
      refine wv_of l1 ?_
      refine wv_of (v := .ptr i1 [] 0) rfl ?_
      refine wv_of (v := .ptr i1 [7] 7) rfl ?_
      refine St.st_rem (i := 6) s2 rfl ho lv _ fun G40 s40 => ?_
      have o1 : ({ f.s with rem := r.index } : StM).ok := ⟨ho.side, ho.cap, ho.bo, ho.bp, ho.loc, hr.index, ho.ack, ho.atA, ho.atB, ho.sgnA, ho.sgnB, ho.heldA, ho.heldB, ho.ptsA, ho.ptsB, ho.sig, ho.failed, ho.closed⟩
      refine ⟨⟨(sg_ld (RowL.own (i := 0) s40 rfl)).2.1, trivial⟩, ?_⟩
      refine wv_of (v := .ptr i1 [] 0) rfl ?_
      refine wv_of (v := .ptr i1 [10] 11) rfl ?_
      refine St.st_sgn (s := { f.s with rem := r.index }) (i := 6) s40 rfl o1 lv _ _ fun G43 s43 => ?_
      have o2 : ({ f.s with rem := r.index, sgnA := r.cntA, sgnB := r.cntB } : StM).ok := ⟨ho.side, ho.cap, ho.bo, ho.bp, ho.loc, hr.index, ho.ack, ho.atA, ho.atB, hr.cntA, hr.cntB, ho.heldA, ho.heldB, ho.ptsA, ho.ptsB, ho.sig, ho.failed, ho.closed⟩
      refine wv_of (v := .ptr i1 [] 0) rfl ?_
      refine wv_of (v := .ptr i1 [12] 15) rfl ?_
      refine St.st_behind (s := { f.s with rem := r.index, sgnA := r.cntA, sgnB := r.cntB }) (i := 6) s43 rfl o2 lv _ fun G46 s46 => ?_
      exact hQ wo _ (s46.erase 0)
    refine wv_of (v := .ptr i1 [] 0) rfl ?_
    refine wv_of (v := .ptr i1 [7] 7) rfl ?_
    refine wv_of (St.ld_rem hg ho lv) ?_
    refine wv_of (v := .ptr i1 [] 0) rfl ?_
    refine wv_of (v := .ptr i1 [8] 8) rfl ?_
    refine wv_of (St.ld_ack hg ho lv) ?_
    rw [vbin_neq, wv_some, brB_ndec]
    refine ⟨fun h1 => bad (.inl h1), fun h1 => ?_⟩
    refine wv_of l0 ?_
    refine wv_of (v := .ptr i1 [] 0) rfl ?_
    refine wv_of (v := .ptr i1 [7] 7) rfl ?_
    refine wv_of (St.ld_rem hg ho lv) ?_
    rw [vbin_add, wv_some, vbin_neq, wv_some, brB_ndec]
    refine ⟨fun h2 => bad (.inr (.inl h2)), fun h2 => ?_⟩
    refine wv_of l3 ?_
    refine wv_of (v := .ptr i1 [] 0) rfl ?_
    refine wv_of (v := .ptr i1 [9] 9) rfl ?_
    refine wv_of (v := .ptr i1 [9, 1] 10) rfl ?_
    refine wv_of (St.ld_atB hg ho lv) ?_
    rw [vbin_neq, wv_some, brB_ndec]
    refine ⟨fun h3 => bad (.inr (.inr (.inl h3))), fun h3 => ?_⟩
    refine wv_of l2 ?_
    refine wv_of (v := .ptr i1 [] 0) rfl ?_
    refine wv_of (v := .ptr i1 [10] 11) rfl ?_
    refine wv_of (v := .ptr i1 [10, 0] 11) rfl ?_
    refine wv_of (St.ld_sgnA hg ho lv) ?_
    rw [vbin_lss, wv_some, brB_dec]
    refine ⟨fun h4 => bad (.inr (.inr (.inr (.inl h4)))), fun h4 => ?_⟩
    refine wv_of l2 ?_
    refine wv_of (v := .ptr i1 [] 0) rfl ?_
    refine wv_of (v := .ptr i1 [4] 4) rfl ?_
    refine wv_of (St.ld_ours hg ho lv) ?_
    refine wv_of (upd_len (OwnL.own (i := 3) s2 rfl).is) ?_
    rw [vbin_gtr, wv_some]
    by_cases h5 : (f.o.length : Nat) < r.cntA
    · rw [decide_eq_true (by omega)]; exact bad (.inr (.inr (.inr (.inr h5))))
    · rw [decide_eq_false (by omega)]
      exact good (by rintro (x | x | x | x | x); exact x h1; exact x h2; exact x h3; exact h4 x; exact h5 x)
  · rw [if_neg (by omega), if_neg (by omega)] at hQ
    rw [if_neg (by omega), if_neg (by omega), if_neg (by omega), if_neg (by omega), if_pos h]
    refine inv_record_failed_apply ?_
    refine record_failed_apply.sound ?_
    unfold record_failed_apply.S
    intro i2 f2
    have s2 := hs.row f2 (.agg [.int .i64 r.code])
    refine wv_of (v := .ptr i1 [] 0) rfl ?_
    refine wv_of (v := .ptr i1 [16] 113) rfl ?_
    refine wv_of (St.ld_failed (RowL.own (i := 6) s2 rfl) ho lv) ?_
    rw [vbin_eql, wv_some, brB_dec]
    refine ⟨fun h1 => ?_, fun h1 => ?_⟩
    · rw [if_pos h1] at hQ
      refine wv_of (fl_ld (RowL.own (i := 0) s2 rfl)) ?_
      refine wv_of (v := .ptr i1 [] 0) rfl ?_
      refine wv_of (v := .ptr i1 [16] 113) rfl ?_
      refine St.st_failed (i := 6) s2 rfl ho lv _ fun G10 s10 => ?_
      exact hQ wo _ (s10.erase 0)
    · rw [if_neg h1] at hQ
      exact hQ wo _ (s2.erase 0)

set_option maxHeartbeats 4000000 in
theorem record_Apply.use {f : StF} {r : RcM} {l : List UpdM} {v vo vp vh : AVal} (hS : StIn G f vo vp vh) (hr : r.ok) (hv : Leaf v) (hl : IsSl 36 G v (l.map UpdM.av)) (hok : ∀ u ∈ l, u.ok) (hlen : l.length ≤ 140737488351232) (hk : r.kind = 1 ∨ r.kind = 2 ∨ r.kind = 5) (hso : (applyK f r).1.s.ok)
    (hno : apOk f r l = false → ∀ G', Ch [] G [] G' → Q (.tuple [StM.zero.av .nilSlice .nilSlice .nilSlice, .int .i64 170]) G')
    (hQ : apOk f r l = true → ∀ wo wp wh G', Sp [] G [OwnL 34 wh (f.h.map SlotM.av), OwnL 36 wp ((applyK f r).1.p.map UpdM.av), OwnL 36 wo ((applyK f r).1.o.map UpdM.av)] G' → Q (.tuple [(applyK f r).1.s.av wo wp wh, .int .i64 0]) G') : ACalls P record_Apply.n [f.s.av vo vp vh, r.av v] G Q := by
  have ho := hS.ok
  have lv := hS.lv
  have hlo := hS.lo
  have hlp := hS.lp
  refine record_Apply.sound ?_
  unfold record_Apply.S
  rw [zSta]
  unfold apOk at hno hQ
  intro i1 f1
  have s1 := (Sp.nil G).row f1 (f.s.av vo vp vh)
  intro i3 f3
  have s3 := s1.row f3 (r.av v)
  intro i5 f5
  have s5 := s3.row f5 (StM.zero.av .nilSlice .nilSlice .nilSlice)
  revert s5
  generalize Heap.upd _ i5 _ = G6
  intro s5
  refine wv_of (Rc.ld (RowL.own (i := 1) s5 rfl) hr hv) ?_
  refine record_changed.use hr hv (hl.ch' s5.ch) hok hlen fun G9 c9 => ?_
  have s9 := s5.tmp c9
  have s9 : Sp [] G [RowL i5 (StM.zero.av .nilSlice .nilSlice .nilSlice), RowL i3 (r.av v), RowL i1 (f.s.av vo vp vh)] G9 := s9
  cases hval : validR r l with
  | false =>
    rw [hval, Bool.false_and] at hno
    refine wv_of nil_nil ?_
    rw [brB_true]
    refine wv_of (v := StM.zero.av .nilSlice .nilSlice .nilSlice) rfl ?_
    refine St.st (i := 0) s9 rfl StM.zero_ok lv0 StM.zero_ok lv0 fun G12 s12 => ?_
    refine wv_of (St.ld (RowL.own (i := 0) s12 rfl) StM.zero_ok lv0) ?_
    exact hno rfl _ s12.ch
  | true =>
  rw [hval, Bool.true_and] at hno hQ
  refine wv_of (nil_chg (kind_of (valR_spec hval).1)) ?_
  rw [brB_false]
  have hg := RowL.own (i := 2) s9 rfl
  refine wv_of (St.ld_ours hg ho lv) ?_
  refine wv_of (St.ld_peers hg ho lv) ?_
  refine wv_of (St.ld_shelf hg ho lv) ?_
  refine clone_upd.use (hS.o.mv s9.ch).isSl hS.oko hS.lo fun wo G18 t18 => ?_
  obtain ⟨F18, o18, c18⟩ := t18.out
  have s18 := s9.new o18 c18
  have hg := RowL.own (i := 3) s18 rfl
  refine ⟨⟨St.ld_shelf hg ho lv, St.ld_peers hg ho lv, trivial⟩, ?_⟩
  refine clone_upd.use (hS.p.mv s18.ch).isSl hS.okp hS.lp fun wp G20 t20 => ?_
  obtain ⟨F20, o20, c20⟩ := t20.out
  have s20 := s18.new o20 c20
  have hg := RowL.own (i := 4) s20 rfl
  refine ⟨⟨St.ld_shelf hg ho lv, trivial⟩, ?_⟩
  refine clone_slot.use (hS.h.mv s20.ch).isSl hS.okh (by have := hS.lh; omega) fun wh G22 t22 => ?_
  obtain ⟨F22, o22, c22⟩ := t22.out
  have s22 := s20.new o22 c22
  have lo := (OwnL.own (i := 2) s22 rfl).leaf
  have lp := (OwnL.own (i := 1) s22 rfl).leaf
  have lh := (OwnL.own (i := 0) s22 rfl).leaf
  refine St.st_ours (i := 5) s22 rfl ho lv lo fun G23 s23 => ?_
  refine St.st_peers (i := 5) s23 rfl ho ⟨lo, lv.2.1, lv.2.2⟩ lp fun G24 s24 => ?_
  refine St.st_shelf (i := 5) s24 rfl ho ⟨lo, lp, lv.2.2⟩ lh fun G25 s25 => ?_
  have s25 : Sp [] G [OwnL 34 wh (f.h.map SlotM.av), OwnL 36 wp (f.p.map UpdM.av), OwnL 36 wo (f.o.map UpdM.av), RowL i5 (StM.zero.av .nilSlice .nilSlice .nilSlice), RowL i3 (r.av v), RowL i1 (f.s.av wo wp wh)] G25 := s25
  refine chg_apply hr hv hk ho hS.oko hS.okp hS.lo hS.lp lh s25 fun wo' G27 s27 => ?_
  have lo' := (OwnL.own (i := 2) s27 rfl).leaf
  have lp' := (OwnL.own (i := 1) s27 rfl).leaf
  rw [vun_not, wv_some]
  cases hap : (applyK f r).2 with
  | false =>
    rw [hap] at hno
    rw [Bool.not_false, brB_true]
    refine wv_of (v := StM.zero.av .nilSlice .nilSlice .nilSlice) rfl ?_
    refine St.st (i := 3) s27 rfl StM.zero_ok lv0 StM.zero_ok lv0 fun G30 s30 => ?_
    refine wv_of (St.ld (RowL.own (i := 3) s30 rfl) StM.zero_ok lv0) ?_
    exact hno rfl _ s30.ch
  | true =>
    rw [hap] at hQ
    rw [Bool.not_true, brB_false]
    refine wv_of (St.ld (RowL.own (i := 5) s27 rfl) hso ⟨lo', lp', lh⟩) ?_
    refine St.st (i := 3) s27 rfl StM.zero_ok lv0 hso ⟨lo', lp', lh⟩ fun G33 s33 => ?_
    refine wv_of (St.ld (RowL.own (i := 3) s33 rfl) hso ⟨lo', lp', lh⟩) ?_
    exact hQ rfl wo' wp wh _ (((s33.erase 3).erase 3).erase 3)

end
end Go.Esc.M

/- Own work. Chapter 17: the head; RecordBytes. -/
set_option linter.unusedSimpArgs false
set_option linter.unusedVariables false
set_option maxRecDepth 20000
namespace Go.Esc.M
open Go Go.Esc

def r258 : RcM := { RcM.zero with kind := 5, code := 258 }
theorem r258_ok : r258.ok := ⟨i64_n 5 (by decide) (by decide), UpdM.zero_ok, i64_0, i64_0, i64_0, rfl, rfl, rfl, i64_n 258 (by decide) (by decide)⟩
theorem wr_258 : wrR r258 [] = ([5, 1, 2], 0) := by decide +kernel
theorem rd_258 : (readR [5, 1, 2, 7]).x = r258 ∧ (readR [5, 1, 2, 7]).l = [] ∧ (readR [5, 1, 2, 7]).n = 3 ∧ (readR [5, 1, 2, 7]).e = 0 := by decide +kernel
theorem rd_7 : (readR [7]).x = RcM.zero ∧ (readR [7]).l = [] ∧ (readR [7]).n = 0 ∧ (readR [7]).e = 170 := by decide +kernel
def sA : StM := { StM.zero with closed := -1 }
theorem sA_ok : sA.ok := ⟨i64_0, i64_0, i64_0, i64_0, i64_0, i64_0, i64_0, i64_0, i64_0, i64_0, i64_0, i64_0, i64_0, rfl, rfl, rfl, i64_0, i64_n (-1) (by decide) (by decide)⟩
def sB : StM := { sA with rem := 1, sgnA := 1, sgnB := 0, behind := true }
theorem sB_ok : sB.ok := ⟨i64_0, i64_0, i64_0, i64_0, i64_0, i64_n 1 (by decide) (by decide), i64_0, i64_0, i64_0, i64_n 1 (by decide) (by decide), i64_0, i64_0, i64_0, rfl, rfl, rfl, i64_0, i64_n (-1) (by decide) (by decide)⟩
def u7A : UpdM := ⟨1, 0, 7, h0, []⟩
theorem u7A_ok : u7A.ok := ⟨i64_n 1 (by decide) (by decide), i64_0, i64_n 7 (by decide) (by decide), rfl, by decide⟩
def rA : RcM := { RcM.zero with kind := 1, upd := u7A }
theorem rA_ok : rA.ok := ⟨i64_n 1 (by decide) (by decide), u7A_ok, i64_0, i64_0, i64_0, rfl, rfl, rfl, i64_0⟩
def rB (i : Int) : RcM := { RcM.zero with kind := 2, index := i, cntA := 1 }
theorem rB_ok {i : Int} (h : I64 i) : (rB i).ok := ⟨i64_n 2 (by decide) (by decide), UpdM.zero_ok, h, i64_n 1 (by decide) (by decide), i64_0, rfl, rfl, rfl, i64_0⟩
theorem ap_A : applyK ⟨sA, [], [], []⟩ rA = (⟨sA, [u7A], [], []⟩, true) := rfl
theorem ok_A : apOk ⟨sA, [], [], []⟩ rA [] = true := by decide +kernel
theorem ap_B : applyK ⟨sA, [u7A], [], []⟩ (rB 1) = (⟨sB, [u7A], [], []⟩, true) := rfl
theorem ok_B : apOk ⟨sA, [u7A], [], []⟩ (rB 1) [] = true := by decide +kernel
theorem ap_C : applyK ⟨sB, [u7A], [], []⟩ (rB 2) = (⟨sB, [u7A], [], []⟩, false) := rfl
theorem ok_C : apOk ⟨sB, [u7A], [], []⟩ (rB 2) [] = false := by decide +kernel

section
variable {F0 : List AId} {G0 G : Heap} {ps : List LP} {Q : AVal → Heap → Prop}

theorem Sps.app17 {ps : List LP} {Fs : List (List AId)} {G : Heap} (h : Sps ps Fs G) : ∀ {qs : List LP} {Gs : List (List AId)}, Sps qs Gs G → (∀ j ∈ Gs.flatten, j ∉ Fs.flatten) → Sps (qs ++ ps) (Gs ++ Fs) G
  | [], [], _, _ => h
  | q :: qs, E :: Gs, ⟨h1, h2, h3⟩, hd => by
    refine ⟨h1, fun j hj hm => ?_, Sps.app17 h h3 fun j hj => hd j (by simp only [List.flatten_cons, List.mem_append]; exact .inr hj)⟩
    have hm : j ∈ (Gs ++ Fs).flatten := hm
    rw [List.flatten_append, List.mem_append] at hm
    rcases hm with hm | hm
    · exact h2 j hj hm
    · exact hd j (by simp only [List.flatten_cons, List.mem_append]; exact .inl hj) hm
  | [], _ :: _, h, _ => h.elim
  | _ :: _, [], h, _ => h.elim
theorem sp_app17 {G' : Heap} {qs : List LP} (h : Sp F0 G0 ps G) (t : Sp [] G qs G') : Sp F0 G0 (qs ++ ps) G' := by
  obtain ⟨Fs, h1, h2⟩ := h
  obtain ⟨Gs, t1, t2⟩ := t
  refine ⟨Gs ++ Fs, Sps.app17 (h1.same fun j hj => t2.same (E := Fs.flatten) h1.rows (by simp) j hj) t1 fun j hj hm => ?_, h2.trans ?_⟩
  · rcases t2.row j hj with h' | h'
    · simp at h'
    · have := h1.rows j hm
      rw [h'] at this; cases this
  · have := t2.more (E := Fs.flatten)
    simpa using this
theorem t30 {x y z : AVal} : vextract (.tuple [x, y, z]) 0 = some x := rfl
theorem t31 {x y z : AVal} : vextract (.tuple [x, y, z]) 1 = some y := rfl
theorem t32 {x y z : AVal} : vextract (.tuple [x, y, z]) 2 = some z := rfl
theorem lists_in {s : StM} {o : List UpdM} {wo wp wh : AVal} (hs : s.ok) (ho : ∀ u ∈ o, u.ok) (lo : o.length ≤ 1000) (t : Sp F0 G0 ps G) {i j k : Nat} (hi : ps[i]? = some (OwnL 36 wo (o.map UpdM.av))) (hj : ps[j]? = some (OwnL 36 wp (([] : List UpdM).map UpdM.av))) (hk : ps[k]? = some (OwnL 34 wh (([] : List SlotM).map SlotM.av))) : StIn G ⟨s, o, [], []⟩ wo wp wh :=
  ⟨hs, Own.capSl (OwnL.own t hi), Own.capSl (OwnL.own t hj), Own.capSl (OwnL.own t hk), ho, (fun u hu => by cases hu), (fun u hu => by cases hu), by show o.length ≤ _; omega, by simp, by simp⟩

set_option maxHeartbeats 8000000 in
theorem escrowlaw17_head.use (hQ : ∀ G', Ch [] G [] G' → Q (.bool true) G') : ACalls P escrowlaw17_head.n [] G Q := by
  refine escrowlaw17_head.sound ?_
  unfold escrowlaw17_head.S
  have hnl : ∀ u ∈ ([] : List UpdM), u.ok := fun u hu => by cases hu
  have hn0 : ([] : List UpdM).length ≤ 140737488351232 := by simp
  have hnil : ∀ G' : Heap, IsSl 36 G' .nilSlice (([] : List UpdM).map UpdM.av) := fun _ => .inr ⟨rfl, rfl⟩
  refine wv_of (v := r258.av .nilSlice) rfl ?_
  refine record_Write.use (l := []) r258_ok Leaf.nil (hnil _) hnl hn0 fun G3 c3 => ?_
  have s3 := (Sp.nil G).tmp c3
  rw [wr_258]
  refine wv_of (tv0 _ _) ?_
  refine wv_of (tv1 _ _) ?_
  refine record_Read.use (by simp) fun w G7 t7 => ?_
  obtain ⟨x1, x2, x3, x4⟩ := rd_258
  rw [x1, x3, x4]
  have lw := (OwnL.own (i := 0) t7 rfl).leaf
  have s7 := s3.tmp t7.ch
  refine wv_of t30 ?_
  refine wv_of t31 ?_
  refine wv_of t32 ?_
  refine Rc.nw s7 r258_ok lw fun i11 G13 s13 => ?_
  refine record_Read.use (by simp) fun w2 G15 t15 => ?_
  obtain ⟨y1, y2, y3, y4⟩ := rd_7
  rw [y1, y3, y4]
  have lw2 := (OwnL.own (i := 0) t15 rfl).leaf
  have s15 := s13.tmp t15.ch
  refine wv_of t30 ?_
  refine wv_of t31 ?_
  refine wv_of t32 ?_
  refine Rc.nw s15 RcM.zero_ok lw2 fun i19 G21 s21 => ?_
  intro J74
  have go : J74 (.bool false) G21 := by
    simp -zeta only [J74, brB_false]
    refine wv_of (v := sA.av .nilSlice .nilSlice .nilSlice) rfl ?_
    refine wv_of (v := u7A.av) rfl ?_
    refine wv_of (v := rA.av .nilSlice) (bR1 u7A_ok) ?_
    have hA : StIn G21 ⟨sA, [], [], []⟩ .nilSlice .nilSlice .nilSlice := ⟨sA_ok, CapSl.nil, CapSl.nil, CapSl.nil, hnl, hnl, (fun u hu => by cases hu), by simp, by simp, by simp⟩
    refine record_Apply.use (f := ⟨sA, [], [], []⟩) (l := []) hA rA_ok Leaf.nil (hnil _) hnl hn0 (.inl rfl) (by rw [ap_A]; exact sA_ok) (fun h => by rw [ok_A] at h; cases h) (fun _ wo wp wh G35 t35 => ?_)
    rw [ap_A] at t35 ⊢
    have s35 := sp_app17 s21 t35
    refine wv_of (tv0 _ _) ?_
    refine wv_of (tv1 _ _) ?_
    have lo := (OwnL.own (i := 2) s35 rfl).leaf
    have lp := (OwnL.own (i := 1) s35 rfl).leaf
    have lh := (OwnL.own (i := 0) s35 rfl).leaf
    refine St.nw s35 sA_ok ⟨lo, lp, lh⟩ fun i38 G40 s40 => ?_
    have okA : ∀ u ∈ [u7A], u.ok := fun u hu => by rw [List.mem_singleton.1 hu]; exact u7A_ok
    have hg := RowL.own (i := 0) s40 rfl
    intro J73
    have go2 : J73 (.bool false) G40 := by
      simp -zeta only [J73, brB_false]
      refine wv_of (St.ld hg sA_ok ⟨lo, lp, lh⟩) ?_
      refine wv_of (v := pairW 1 0) rfl ?_
      refine wv_of (v := (rB 1).av .nilSlice) bR2 ?_
      have hB : StIn G40 ⟨sA, [u7A], [], []⟩ wo wp wh := lists_in sA_ok okA (by simp) s40 (i := 3) (j := 2) (k := 1) rfl rfl rfl
      refine record_Apply.use (f := ⟨sA, [u7A], [], []⟩) (l := []) hB (rB_ok (i64_n 1 (by decide) (by decide))) Leaf.nil (hnil _) hnl hn0 (.inr (.inl rfl)) (by rw [ap_B]; exact sB_ok) (fun h => by rw [ok_B] at h; cases h) (fun _ xo xp xh G53 t53 => ?_)
      rw [ap_B] at t53 ⊢
      have s53 := sp_app17 s40 t53
      refine wv_of (tv0 _ _) ?_
      refine wv_of (tv1 _ _) ?_
      have mo := (OwnL.own (i := 2) s53 rfl).leaf
      have mp := (OwnL.own (i := 1) s53 rfl).leaf
      have mh := (OwnL.own (i := 0) s53 rfl).leaf
      refine St.nw s53 sB_ok ⟨mo, mp, mh⟩ fun i56 G58 s58 => ?_
      refine wv_of (St.ld (RowL.own (i := 0) s58 rfl) sB_ok ⟨mo, mp, mh⟩) ?_
      refine wv_of (v := pairW 1 0) rfl ?_
      refine wv_of (v := (rB 2).av .nilSlice) bR2 ?_
      have hC : StIn G58 ⟨sB, [u7A], [], []⟩ xo xp xh := lists_in sB_ok okA (by simp) s58 (i := 3) (j := 2) (k := 1) rfl rfl rfl
      refine record_Apply.use (f := ⟨sB, [u7A], [], []⟩) (l := []) hC (rB_ok (i64_n 2 (by decide) (by decide))) Leaf.nil (hnil _) hnl hn0 (.inr (.inl rfl)) (by rw [ap_C]; exact sB_ok) (fun _ G63 c63 => ?_) (fun h => by rw [ok_C] at h; cases h)
      have s63 := s58.tmp c63
      refine wv_of (tv0 _ _) ?_
      refine wv_of (tv1 _ _) ?_
      have hg := RowL.own (i := 0) s63 rfl
      have ez : ∀ {t : TypeId} (n : Int), vbin T .eql t (.int .i64 n) (.int .i64 n) = some (.bool true) := fun n => ez0
      refine wv_of (ez 0) ?_
      rw [brB_true]
      refine wv_of (St.ld_rem hg sB_ok ⟨mo, mp, mh⟩) ?_
      refine wv_of (ez 1) ?_
      rw [brB_true]
      refine wv_of (St.ld_behind hg sB_ok ⟨mo, mp, mh⟩) ?_
      show brB (some (.bool true)) _ _
      rw [brB_true]
      refine wv_of (ez 170) ?_
      exact hQ _ s63.ch
    refine wv_of nz0 ?_
    rw [brB_false]
    refine wv_of (St.ld_ours hg sA_ok ⟨lo, lp, lh⟩) ?_
    refine wv_of (upd_len (l := [u7A]) (OwnL.own (i := 3) s40 rfl).is) ?_
    refine wv_of (v := .bool false) nz0 ?_
    rw [brB_false]
    refine wv_of (St.ld_closed hg sA_ok ⟨lo, lp, lh⟩) ?_
    refine wv_of (v := .bool false) nz0 ?_
    exact go2
  rw [vbin_sneq, wv_some, decide_eq_true rfl, Bool.not_true, brB_false]
  refine wv_of nz0 ?_
  rw [brB_false]
  refine wv_of (Rc.ld_code (RowL.own (i := 1) s21 rfl) r258_ok lw) ?_
  refine wv_of (v := .bool false) nz0 ?_
  rw [brB_false]
  refine wv_of nz0 ?_
  rw [brB_false]
  refine wv_of nz0 ?_
  rw [brB_false]
  refine wv_of nz0 ?_
  exact go

end
end Go.Esc.M

/- Own work. Chapter 17: what is written is read. -/
set_option linter.unusedSimpArgs false
set_option linter.unusedVariables false
set_option maxRecDepth 20000
namespace Go.Esc.M
open Go Go.Esc

theorem readL_bytes : ∀ {l : List UpdM} {t : List UInt8}, (∀ u ∈ l, u.ok) → (∀ u ∈ l, validU u = true) → readL l.length (bytesL l ++ t) = some (l, t)
  | [], t, _, _ => by simp [readL, bytesL]
  | u :: l, t, ho, hv => by
    have e : bytesL (u :: l) ++ t = bytesU u ++ (bytesL l ++ t) := by simp [bytesL]
    rw [List.length_cons, readL, e, readU_bytes (ho u (by simp)) (hv u (by simp))]
    rw [if_pos rfl]
    simp only [Int.toNat_natCast, List.drop_left]
    rw [readL_bytes (fun x hx => ho x (by simp [hx])) (fun x hx => hv x (by simp [hx]))]
    rfl
theorem par_bytes {r : RcM} {l : List UpdM} {t : List UInt8} (hr : r.ok) (hok : ∀ u ∈ l, u.ok) (hv : validR r l = true) : parR (bytesR r l ++ t) = ⟨r, l, (t, 0), true⟩ := by
  obtain ⟨hk16, hvk, hnk, hlk⟩ := valR_spec hv
  have hk := kind_of hk16
  have e1 : takes (bytesR r l ++ t, 0) 1 = (be 1 r.kind.toNat, (bytesK r l ++ t, 0)) := by
    unfold bytesR
    rw [List.append_assoc]
    exact takes_app (by rw [length_be]; rfl)
  have ek : kOf (bytesR r l ++ t) = r.kind.toNat := by unfold kOf; rw [e1, num_be_lt (by omega)]
  have es : s1Of (bytesR r l ++ t) = (bytesK r l ++ t, 0) := by unfold s1Of; rw [e1]
  unfold parR
  rw [ek, es]
  have hx := hr.index
  have t8 : ∀ z : List UInt8, takes (be 8 (bits64 r.index) ++ z, 0) 8 = (be 8 (bits64 r.index), (z, 0)) := fun z => takes_app (by rw [length_be]; rfl)
  have t2 : ∀ (n : Nat) (z : List UInt8), takes (be 2 n ++ z, 0) 2 = (be 2 n, (z, 0)) := fun n z => takes_app (by rw [length_be]; rfl)
  have t32 : ∀ {h : List UInt8} (z : List UInt8), h.length = 32 → takes (h ++ z, 0) 32 = (h, (z, 0)) := fun z hh => takes_app (by rw [hh]; rfl)
  have ix : iOf (be 8 (bits64 r.index)) = r.index := wrap_be hx
  unfold namedK at hnk
  unfold listK at hlk
  unfold validK at hvk
  unfold bytesK
  rcases hk with h | h | h | h | h | h
  · rw [if_pos h] at hnk hvk
    rw [if_neg (by omega)] at hlk
    rw [if_pos (by omega), if_pos h]
    have := readL_bytes (l := [r.upd]) (t := t) (fun u hu => by rw [List.mem_singleton.1 hu]; exact hr.upd) (fun u hu => by rw [List.mem_singleton.1 hu]; exact hvk)
    have e2 : readL 1 (bytesU r.upd ++ t) = some ([r.upd], t) := by simpa [bytesL] using this
    unfold par1
    dsimp only
    rw [e2]
    show (⟨{ rk 1 with upd := r.upd }, [], (t, 0), true⟩ : ParM) = _
    rw [show ({ rk 1 with upd := r.upd } : RcM) = r from hnk, hlk]
  · rw [if_neg (by omega), if_pos h] at hnk hvk
    rw [if_neg (by omega)] at hlk
    simp only [Bool.and_eq_true, isCnt, decide_eq_true_eq] at hvk
    rw [if_neg (by omega), if_pos (by omega), if_neg (by omega), if_pos h]
    unfold par2
    rw [List.append_assoc, List.append_assoc, t8, t2, t2]
    show (⟨{ rk 2 with index := iOf (be 8 (bits64 r.index)), cntA := ((num (be 2 r.cntA.toNat) : Nat) : Int), cntB := ((num (be 2 r.cntB.toNat) : Nat) : Int) }, [], (t, 0), true⟩ : ParM) = _
    rw [ix, num_be2 (by omega), num_be2 (by omega), show ((r.cntA.toNat : Nat) : Int) = r.cntA by omega, show ((r.cntB.toNat : Nat) : Int) = r.cntB by omega]
    rw [show ({ rk 2 with index := r.index, cntA := r.cntA, cntB := r.cntB } : RcM) = r from hnk, hlk]
  · rw [if_neg (by omega), if_neg (by omega), if_pos h] at hnk hvk
    simp only [Bool.and_eq_true, decide_eq_true_eq, List.all_eq_true] at hvk
    obtain ⟨_, h5, ha⟩ := hvk
    rw [if_neg (by omega), if_neg (by omega), if_pos (by omega), if_neg (by omega), if_neg (by omega), if_pos h]
    unfold par3
    rw [List.append_assoc, List.append_assoc, List.append_assoc]
    dsimp only
    rw [t8, t2]
    dsimp only
    rw [num_be2 (by omega), if_pos ⟨rfl, h5⟩, readL_bytes hok ha]
    dsimp only
    rw [t32 _ hr.sig]
    show (⟨{ rk 3 with index := iOf (be 8 (bits64 r.index)), sig := fill 32 r.sig }, l, (t, 0), true⟩ : ParM) = _
    rw [ix, fill_full hr.sig, show ({ rk 3 with index := r.index, sig := r.sig } : RcM) = r from hnk]
  · rw [if_neg (by omega), if_neg (by omega), if_neg (by omega), if_pos h] at hnk
    rw [if_neg (by omega)] at hlk
    rw [if_neg (by omega), if_neg (by omega), if_neg (by omega), if_pos (by omega), if_neg (by omega), if_neg (by omega), if_neg (by omega), if_pos h]
    unfold par4
    rw [List.append_assoc, List.append_assoc, t8]
    dsimp only
    rw [t32 _ hr.secret]
    dsimp only
    rw [t32 _ hr.point]
    show (⟨{ rk 4 with index := iOf (be 8 (bits64 r.index)), secret := fill 32 r.secret, point := fill 32 r.point }, [], (t, 0), true⟩ : ParM) = _
    rw [ix, fill_full hr.secret, fill_full hr.point, show ({ rk 4 with index := r.index, secret := r.secret, point := r.point } : RcM) = r from hnk, hlk]
  · rw [if_neg (by omega), if_neg (by omega), if_neg (by omega), if_neg (by omega), if_pos h] at hnk
    rw [if_neg (by omega)] at hlk
    rw [if_neg (by omega), if_neg (by omega), if_neg (by omega), if_pos h] at hvk
    simp only [Bool.and_eq_true, decide_eq_true_eq] at hvk
    rw [if_neg (by omega), if_neg (by omega), if_neg (by omega), if_neg (by omega), if_pos (by omega), if_neg (by omega), if_neg (by omega), if_neg (by omega), if_neg (by omega), if_pos h]
    unfold par5
    rw [t2]
    show (⟨{ rk 5 with code := ((num (be 2 r.code.toNat) : Nat) : Int) }, [], (t, 0), true⟩ : ParM) = _
    rw [num_be2 (by omega), show ((r.code.toNat : Nat) : Int) = r.code by omega, show ({ rk 5 with code := r.code } : RcM) = r from hnk, hlk]
  · rw [if_neg (by omega), if_neg (by omega), if_neg (by omega), if_neg (by omega), if_neg (by omega)] at hnk
    rw [if_neg (by omega)] at hlk
    rw [if_neg (by omega), if_neg (by omega), if_neg (by omega), if_neg (by omega), if_neg (by omega), if_pos (by omega), if_neg (by omega), if_neg (by omega), if_neg (by omega), if_neg (by omega), if_neg (by omega)]
    unfold par6
    rw [t8]
    show (⟨{ rk 6 with index := iOf (be 8 (bits64 r.index)) }, [], (t, 0), true⟩ : ParM) = _
    rw [ix, show ({ rk 6 with index := r.index } : RcM) = r from hnk, hlk]
/-- What is written is read. -/
theorem read_bytes {r : RcM} {l : List UpdM} {t : List UInt8} (hr : r.ok) (hok : ∀ u ∈ l, u.ok) (hv : validR r l = true) : readR (bytesR r l ++ t) = ⟨r, l, (((bytesR r l).length : Nat) : Int), 0⟩ := by
  unfold readR
  rw [par_bytes hr hok hv]
  dsimp only
  rw [if_pos ⟨rfl, rfl, hv⟩, List.length_append, Nat.add_sub_cancel]

end Go.Esc.M

/- Own work. Chapter 17: readApart (for RecordApart). -/
set_option linter.unusedSimpArgs false
set_option linter.unusedVariables false
set_option maxRecDepth 20000
namespace Go.Esc.M
open Go Go.Esc

section
variable {F0 : List AId} {G0 G : Heap} {ps : List LP} {Q : AVal → Heap → Prop}

theorem escrowlaw17_sameList.use {v w : AVal} {a b : List UpdM} (ha : IsSl 36 G v (a.map UpdM.av)) (hb : IsSl 36 G w (b.map UpdM.av)) (oa : ∀ m ∈ a, m.ok) (ob : ∀ m ∈ b, m.ok) (la : a.length ≤ 140737488351232) (lb : b.length ≤ 140737488351232)
    (hQ : Q (.bool (decide (a = b))) G) : ACalls P escrowlaw17_sameList.n [v, w] G Q := by
  refine escrowlaw17_sameList.sound ?_
  unfold escrowlaw17_sameList.S
  refine wv_of (upd_len ha) ?_
  refine wv_of (upd_len hb) ?_
  rw [vbin_neq, wv_some, brB_ndec]
  refine ⟨fun h1 => ?_, fun h1 => ?_⟩
  · rw [decide_eq_false (fun h => h1 (by rw [h]))] at hQ
    exact hQ
  have hlen : a.length = b.length := by omega
  intro R hR
  have loop : ∀ (n j : Nat), a.length - j = n → j ≤ a.length → a.take j = b.take j → R [v, w, .int .i64 (j : Int)] G := by
    intro n
    induction n with
    | zero =>
      intro j hn hj he
      refine hR _ _ _ _ ?_
      refine wv_of (upd_len ha) ?_
      rw [vbin_lss, wv_some, brB_dec]
      refine ⟨fun h => absurd h (by omega), fun _ => ?_⟩
      have hjl : j = a.length := by omega
      rw [hjl, List.take_length, hlen, List.take_length] at he
      rw [decide_eq_true he] at hQ
      exact hQ
    | succ n ih =>
      intro j hn hj he
      obtain ⟨x, hx⟩ : ∃ x, a[j]? = some x := ⟨_, List.getElem?_eq_getElem (by omega)⟩
      obtain ⟨y, hy⟩ : ∃ y, b[j]? = some y := ⟨_, List.getElem?_eq_getElem (by omega)⟩
      refine hR _ _ _ _ ?_
      refine wv_of (upd_len ha) ?_
      rw [vbin_lss, wv_some, brB_dec]
      refine ⟨fun _ => ?_, fun h => absurd (by omega) h⟩
      obtain ⟨p, p1, p2⟩ := upd_at ha hx
      obtain ⟨q, q1, q2⟩ := upd_at hb hy
      refine wv_of p1 ?_
      refine wv_of p2 ?_
      refine wv_of q1 ?_
      refine wv_of q2 ?_
      rw [vbin_uneq (oa x (List.mem_of_getElem? hx)) (ob y (List.mem_of_getElem? hy)), wv_some, brB_ndec]
      refine ⟨fun h2 => ?_, fun h2 => ?_⟩
      · rw [decide_eq_false (fun h => h2 (by rw [h, hy] at hx; exact (Option.some.inj hx).symm))] at hQ
        exact hQ
      · rw [vbin_add, i64_in (by omega) (by omega), wv_some]
        refine ih (j + 1) (by omega) (by omega) ?_
        rw [List.take_add_one, List.take_add_one, he, hx, hy, h2]
  exact loop a.length 0 rfl (by omega) rfl

/-- The updates that readApart writes. -/
def adU (i : Nat) : UpdM := ⟨1, (i : Int), 1, h0, []⟩
def adL (m : Nat) : List UpdM := (List.range m).map adU
theorem adU_ok {i : Nat} (h : i ≤ 100) : (adU i).ok := ⟨i64_n 1 (by decide) (by decide), i64_n ((i : Nat) : Int) (by omega) (by omega), i64_n 1 (by decide) (by decide), rfl, by simp [adU]⟩
theorem adL_ok {m : Nat} (h : m ≤ 100) : ∀ u ∈ adL m, u.ok := by
  intro u hu
  obtain ⟨i, hi, rfl⟩ := List.mem_map.1 hu
  have := List.mem_range.1 hi
  exact adU_ok (by omega)
theorem adL_len (m : Nat) : (adL m).length = m := by simp [adL]
theorem adL_succ (m : Nat) : adL (m + 1) = adL m ++ [adU m] := by simp [adL, List.range_succ]
def r3A : RcM := { RcM.zero with kind := 3, index := 1 }
theorem r3A_ok : r3A.ok := ⟨i64_n 3 (by decide) (by decide), UpdM.zero_ok, i64_n 1 (by decide) (by decide), i64_0, i64_0, rfl, rfl, rfl, i64_0⟩
theorem adU_val {i : Nat} (h : i ≤ 100) : validU (adU i) = true := by
  unfold validU
  show (decide (0 ≤ (i : Int)) && (decide ((i : Int) < 2048) && (if (1 : Int) = 1 then decide ((1 : Int) ≤ 1) && (decide ((1 : Int) ≤ maxAm) && decide (([] : List UInt8) = [])) else _))) = true
  rw [decide_eq_true (by omega), decide_eq_true (by omega), if_pos rfl]
  decide
theorem r3A_val {m : Nat} (h : m ≤ 100) : validR r3A (adL m) = true := by
  unfold validR
  rw [decide_eq_true (show 1 ≤ r3A.kind ∧ r3A.kind ≤ 6 from by decide), Bool.true_and]
  have e1 : namedK r3A = r3A := by decide
  have e2 : listK r3A (adL m) = adL m := by unfold listK; rw [if_pos (show r3A.kind = 3 from rfl)]
  rw [decide_eq_true ⟨e1, e2⟩, Bool.and_true]
  unfold validK
  rw [if_neg (show ¬ r3A.kind = 1 from by decide), if_neg (show ¬ r3A.kind = 2 from by decide), if_pos (show r3A.kind = 3 from rfl), show isIdx r3A.index = true from by decide, Bool.true_and, adL_len, decide_eq_true (by omega), Bool.true_and, List.all_eq_true]
  intro u hu
  obtain ⟨i, hi, rfl⟩ := List.mem_map.1 hu
  have := List.mem_range.1 hi
  exact adU_val (by omega)

end
end Go.Esc.M

/- Own work. Chapter 17: what is read, twice; RecordApart. -/
set_option linter.unusedSimpArgs false
set_option linter.unusedVariables false
set_option maxRecDepth 20000
namespace Go.Esc.M
open Go Go.Esc

def mkU (k : Int) : UpdM := { UpdM.zero with kind := k }
def mkS (k : Int) : SlotM := ⟨k, zero32, false⟩
theorem mkU_ok {k : Int} (h : I64 k) : (mkU k).ok := ⟨h, i64_0, i64_0, rfl, by simp [mkU, UpdM.zero]⟩
theorem mkS_ok (k : Int) : (mkS k).ok := rfl
theorem build_mkU (k : Int) : vbuild T t_api_Update [(0, .int .i64 k)] = some (mkU k).av := rfl
theorem set_next {α : Type} {l : List α} {x : α} {j : Nat} (h : j < l.length) : (List.replicate j x ++ l.drop j).set j x = List.replicate (j + 1) x ++ l.drop (j + 1) := by
  rw [List.drop_eq_getElem_cons h, List.set_append_right _ _ (by simp)]
  simp only [List.length_replicate, Nat.sub_self, List.set_cons_zero, List.replicate_succ', List.append_assoc, List.singleton_append]
theorem over_len {α : Type} {l : List α} {x : α} {j : Nat} (h : j ≤ l.length) : (List.replicate j x ++ l.drop j).length = l.length := by
  rw [List.length_append, List.length_replicate, List.length_drop]; omega
theorem over_all {α : Type} {l : List α} {x : α} : List.replicate l.length x ++ l.drop l.length = List.replicate l.length x := by simp
theorem build_r3 {w : AVal} (hw : Leaf w) : vbuild T t_api_Record [(0, .int .i64 3), (3, .int .i64 1), (2, w)] = some (r3A.av w) := by
  refine build_rc (fun p hp => ?_) rfl
  simp only [List.mem_cons, List.not_mem_nil, or_false] at hp
  rcases hp with rfl | rfl | rfl
  · rfl
  · rfl
  · show some 1 = some (Esc.sz w)
    rw [hw.1]
def s0A : StM := { StM.zero with closed := -1 }
def sCA (c : Int) : StM := { StM.zero with failed := c, closed := -1 }
def r5A (c : Int) : RcM := { RcM.zero with kind := 5, code := c }
theorem s0A_ok : s0A.ok := ⟨i64_0, i64_0, i64_0, i64_0, i64_0, i64_0, i64_0, i64_0, i64_0, i64_0, i64_0, i64_0, i64_0, rfl, rfl, rfl, i64_0, i64_n (-1) (by decide) (by decide)⟩
theorem sCA_ok {c : Int} (h : I64 c) : (sCA c).ok := ⟨i64_0, i64_0, i64_0, i64_0, i64_0, i64_0, i64_0, i64_0, i64_0, i64_0, i64_0, i64_0, i64_0, rfl, rfl, rfl, h, i64_n (-1) (by decide) (by decide)⟩
theorem r5A_ok {c : Int} (h : I64 c) : (r5A c).ok := ⟨i64_n 5 (by decide) (by decide), UpdM.zero_ok, i64_0, i64_0, i64_0, rfl, rfl, rfl, h⟩
theorem build_s0 {a b c : AVal} (ha : Leaf a) (hb : Leaf b) (hc : Leaf c) : vbuild T t_api_State [(4, a), (5, b), (15, c), (17, .int .i64 (-1))] = some (s0A.av a b c) := by
  refine (build_struct (zs := StM.zero.cs .nilSlice .nilSlice .nilSlice) T_api_State rfl rfl rfl (plOk_of rfl) fun p hp => ?_).trans rfl
  simp only [List.mem_cons, List.not_mem_nil, or_false] at hp
  rcases hp with rfl | rfl | rfl | rfl
  · show some 1 = some (Esc.sz a)
    rw [ha.1]
  · show some 1 = some (Esc.sz b)
    rw [hb.1]
  · show some 1 = some (Esc.sz c)
    rw [hc.1]
  · rfl
theorem build_r5 (c : Int) : vbuild T t_api_Record [(0, .int .i64 5), (8, .int .i64 c)] = some ((r5A c).av .nilSlice) := by
  refine build_rc (fun p hp => ?_) rfl
  simp only [List.mem_cons, List.not_mem_nil, or_false] at hp
  rcases hp with rfl | rfl <;> rfl
theorem and15 (a : Int) {t : TypeId} {T : Tbl} : vbin T .and t (.int .i64 a) (.int .i64 32767) = some (.int .i64 (a % 32768)) := by
  have := and_mask a 15 (by decide)
  have e1 : ((2 ^ 15 - 1 : Nat) : Int) = 32767 := by decide
  have e2 : ((2 ^ 15 : Nat) : Int) = 32768 := by decide
  rw [e1, e2] at this
  rw [vbin_and, this]
theorem r5_val {c : Int} (h1 : 1 ≤ c) (h2 : c ≤ 65535) : validR (r5A c) [] = true := by
  unfold validR
  rw [decide_eq_true (show 1 ≤ (r5A c).kind ∧ (r5A c).kind ≤ 6 from ⟨by show (1 : Int) ≤ 5; decide, by show (5 : Int) ≤ 6; decide⟩), Bool.true_and]
  have e1 : namedK (r5A c) = r5A c := by
    unfold namedK
    rw [if_neg (show ¬ (r5A c).kind = 1 from (by decide : ¬ (5 : Int) = 1)), if_neg (show ¬ (r5A c).kind = 2 from (by decide : ¬ (5 : Int) = 2)), if_neg (show ¬ (r5A c).kind = 3 from (by decide : ¬ (5 : Int) = 3)), if_neg (show ¬ (r5A c).kind = 4 from (by decide : ¬ (5 : Int) = 4)), if_pos (show (r5A c).kind = 5 from rfl)]
    rfl
  have e2 : listK (r5A c) [] = [] := by unfold listK; split <;> rfl
  rw [decide_eq_true ⟨e1, e2⟩, Bool.and_true]
  unfold validK
  rw [if_neg (show ¬ (r5A c).kind = 1 from (by decide : ¬ (5 : Int) = 1)), if_neg (show ¬ (r5A c).kind = 2 from (by decide : ¬ (5 : Int) = 2)), if_neg (show ¬ (r5A c).kind = 3 from (by decide : ¬ (5 : Int) = 3)), if_pos (show (r5A c).kind = 5 from rfl)]
  rw [decide_eq_true (show 1 ≤ (r5A c).code from h1), decide_eq_true (show (r5A c).code ≤ 65535 from h2)]
  rfl
section
variable {F0 : List AId} {G0 G : Heap} {ps : List LP} {Q : AVal → Heap → Prop}

theorem upd_kindA {v : AVal} {l : List UpdM} {j : Nat} {p : UpdM} (h : IsSl 36 G v (l.map UpdM.av)) (hj : l[j]? = some p) :
    ∃ a b, viaddr T t_sl_api_Update v (.int .i64 (j : Int)) = some a ∧ vfaddr T t_api_Update a 0 = some b ∧ vload T G t_int b = some (.int .i64 p.kind) :=
  upd_fldA (f := 0) h hj rfl T_int (by decide) rfl rfl rfl
theorem nk {k : Int} {t : TypeId} : vbin T .eql t (.int .i64 k) (.int .i64 k) = some (.bool true) := ez0

set_option maxHeartbeats 4000000 in
theorem escrowlaw17_readApart.use {n : Nat} (hn : n ≤ 9000000000000000000) (hQ : ∀ G', Ch [] G [] G' → Q (.bool true) G') : ACalls P escrowlaw17_readApart.n [.int .i64 (n : Int)] G Q := by
  refine escrowlaw17_readApart.sound ?_
  unfold escrowlaw17_readApart.S
  obtain ⟨m, hm⟩ : ∃ m, m = n % 7 + 1 := ⟨_, rfl⟩
  have hm7 : m ≤ 7 := by omega
  have hm1 : 1 ≤ m := by omega
  have hAok := adL_ok (m := m) (by omega)
  have hAlen := adL_len m
  have hv := r3A_val (m := m) (by omega)
  obtain ⟨A, hA⟩ : ∃ A, A = adL m := ⟨_, rfl⟩
  rw [← hA] at hAok hAlen hv
  have k1 : I64 (-1) := i64_n (-1) (by decide) (by decide)
  have k2 : I64 (-2) := i64_n (-2) (by decide) (by decide)
  have k3 : I64 (-3) := i64_n (-3) (by decide) (by decide)
  intro J1 hJ1
  have fin : ∀ w G', Sp [] G [OwnL 36 w (A.map UpdM.av)] G' → J1 [w] G' := by
    intro w G2 s2
    refine hJ1 _ _ ?_
    have lw := (OwnL.own (i := 0) s2 rfl).leaf
    refine wv_of (build_r3 lw) ?_
    refine record_Write.use r3A_ok lw (OwnL.own (i := 0) s2 rfl).is hAok (by omega) fun G20 c20 => ?_
    have s20 := s2.tmp c20
    have e1 : wrR r3A A = (bytesR r3A A, 0) := by unfold wrR; rw [hv]; rfl
    rw [e1]
    refine wv_of (tv0 _ _) ?_
    refine wv_of (tv1 _ _) ?_
    obtain ⟨B, hB⟩ : ∃ B, B = bytesR r3A A := ⟨_, rfl⟩
    have hBl : B.length ≤ 140737488351232 := by
      have hav : ∀ u ∈ A, validU u = true := by
        intro u hu
        rw [hA] at hu
        obtain ⟨i, hi, rfl⟩ := List.mem_map.1 hu
        have := List.mem_range.1 hi
        exact adU_val (by omega)
      have := bytesL_len hav hAok
      rw [hB]
      unfold bytesR bytesK
      rw [if_neg (show ¬ r3A.kind = 1 from (by decide : ¬ (3 : Int) = 1)), if_neg (show ¬ r3A.kind = 2 from (by decide : ¬ (3 : Int) = 2)), if_pos (show r3A.kind = 3 from rfl)]
      have hs : r3A.sig.length = 32 := rfl
      simp only [List.length_append, length_be, hs]
      omega
    have hrd : readR B = ⟨r3A, A, ((B.length : Nat) : Int), 0⟩ := by
      have := read_bytes (t := []) r3A_ok hAok hv
      rw [List.append_nil, ← hB] at this
      exact this
    rw [← hB]
    have rd : ∀ {ps : List LP} {G1 : Heap} {K : AVal → Heap → Prop}, Sp [] G ps G1 → (∀ w G2, Sp [] G (OwnL 36 w (A.map UpdM.av) :: ps) G2 → Leaf w → K (.tuple [r3A.av w, .int .i64 (B.length : Nat), .int .i64 0]) G2) → ACalls P record_Read.n [.str B] G1 K := by
      intro ps G1 K s hK
      refine record_Read.use (Nat.le_trans hBl (by decide)) fun w G2 t => ?_
      rw [hrd] at t ⊢
      obtain ⟨F, o, c⟩ := t.out
      have s' := s.new o c
      exact hK w G2 s' (OwnL.own (i := 0) s' rfl).leaf
    refine rd s20 fun w1 G24 s24 l1 => ?_
    refine wv_of t30 ?_
    refine wv_of t31 ?_
    refine wv_of t32 ?_
    refine Rc.nw s24 r3A_ok l1 fun i28 G30 s30 => ?_
    refine rd s30 fun w2 G32 s32 l2 => ?_
    refine wv_of t30 ?_
    refine wv_of t31 ?_
    refine wv_of t32 ?_
    refine Rc.nw s32 r3A_ok l2 fun i36 G38 s38 => ?_
    have s38 : Sp [] G [RowL i36 (r3A.av w2), OwnL 36 w2 (A.map UpdM.av), RowL i28 (r3A.av w1), OwnL 36 w1 (A.map UpdM.av), OwnL 36 w (A.map UpdM.av)] G38 := s38
    intro J39 hJ39 J41 hJ41
    refine wv_of nz0 ?_
    rw [brB_false]
    refine wv_of nz0 ?_
    rw [brB_false]
    refine wv_of nz0 ?_
    rw [brB_false]
    refine wv_of (Rc.ld_upds (RowL.own (i := 2) s38 rfl) r3A_ok l1) ?_
    refine escrowlaw17_sameList.use (OwnL.own (i := 3) s38 rfl).is (OwnL.own (i := 4) s38 rfl).is hAok hAok (by omega) (by omega) ?_
    rw [decide_eq_true rfl, vun_not, wv_some, Bool.not_true, brB_false]
    refine wv_of (Rc.ld_upds (RowL.own (i := 0) s38 rfl) r3A_ok l2) ?_
    refine escrowlaw17_sameList.use (OwnL.own (i := 1) s38 rfl).is (OwnL.own (i := 4) s38 rfl).is hAok hAok (by omega) (by omega) ?_
    rw [decide_eq_true rfl, vun_not, wv_some, Bool.not_true]
    refine hJ41 _ _ _ _ _ _ ?_
    rw [brB_false]
    refine hJ39 _ _ _ _ _ ?_
    intro J65 hJ65 R67 hR67
    have last : ∀ G66, Sp [] G [RowL i36 (r3A.av w2), OwnL 36 w2 (A.map UpdM.av), RowL i28 (r3A.av w1), OwnL 36 w1 ((List.replicate m (mkU (-1))).map UpdM.av), OwnL 36 w (A.map UpdM.av)] G66 → J65 [w, .str B, .ptr i28 [] 0, .ptr i36 [] 0] G66 := by
      intro G66 s66
      refine hJ65 _ _ _ _ _ ?_
      refine wv_of (Rc.ld_upds (RowL.own (i := 2) s66 rfl) r3A_ok l1) ?_
      refine wv_of (build_mkU _) ?_
      refine growV (T := T) (ts := t_sl_api_Update) (e := t_api_Update) (si := ti_sl_api_Update) (ie := ti_api_Update) (i := 3) (vs := (List.replicate m (mkU (-1))).map UpdM.av) T_sl_api_Update rfl T_api_Update rfl (by decide) s66 rfl (UpdM.sz (mkU_ok k2)) (UpdM.okv _) (by decide) (by rw [List.length_map, List.length_replicate]; simp only [ti_api_Update]; omega) fun w1' G91 s91 => ?_
      have s91 : Sp [] G [RowL i36 (r3A.av w2), OwnL 36 w2 (A.map UpdM.av), RowL i28 (r3A.av w1), OwnL 36 w1' ((List.replicate m (mkU (-1))).map UpdM.av ++ [(mkU (-2)).av]), OwnL 36 w (A.map UpdM.av)] G91 := s91
      have l1' := (OwnL.own (i := 3) s91 rfl).leaf
      refine Rc.st_upds (i := 2) s91 rfl r3A_ok l1 l1' fun G92 s92 => ?_
      refine wv_of (Rc.ld_upds (RowL.own (i := 0) s92 rfl) r3A_ok l2) ?_
      refine wv_of (build_mkU _) ?_
      refine growV (T := T) (ts := t_sl_api_Update) (e := t_api_Update) (si := ti_sl_api_Update) (ie := ti_api_Update) (i := 1) (vs := A.map UpdM.av) T_sl_api_Update rfl T_api_Update rfl (by decide) s92 rfl (UpdM.sz (mkU_ok k3)) (UpdM.okv _) (by decide) (by rw [List.length_map]; simp only [ti_api_Update]; omega) fun w2' G98 s98 => ?_
      have s98 : Sp [] G [RowL i36 (r3A.av w2), OwnL 36 w2' (A.map UpdM.av ++ [(mkU (-3)).av]), RowL i28 (r3A.av w1'), OwnL 36 w1' ((List.replicate m (mkU (-1))).map UpdM.av ++ [(mkU (-2)).av]), OwnL 36 w (A.map UpdM.av)] G98 := s98
      have l2' := (OwnL.own (i := 1) s98 rfl).leaf
      refine Rc.st_upds (i := 0) s98 rfl r3A_ok l2 l2' fun G99 s99 => ?_
      refine rd s99 fun w3 G101 s101 l3 => ?_
      refine wv_of t30 ?_
      refine wv_of t31 ?_
      refine wv_of t32 ?_
      refine Rc.nw s101 r3A_ok l3 fun i105 G107 s107 => ?_
      have e2 : A.map UpdM.av ++ [(mkU (-3)).av] = (A ++ [mkU (-3)]).map UpdM.av := by rw [List.map_append]; rfl
      have e3 : (List.replicate m (mkU (-1))).map UpdM.av ++ [(mkU (-2)).av] = (List.replicate m (mkU (-1)) ++ [mkU (-2)]).map UpdM.av := by rw [List.map_append]; rfl
      have s107 : Sp [] G [RowL i105 (r3A.av w3), OwnL 36 w3 (A.map UpdM.av), RowL i36 (r3A.av w2'), OwnL 36 w2' ((A ++ [mkU (-3)]).map UpdM.av), RowL i28 (r3A.av w1'), OwnL 36 w1' ((List.replicate m (mkU (-1)) ++ [mkU (-2)]).map UpdM.av), OwnL 36 w (A.map UpdM.av)] G107 := by
        rw [← e2, ← e3]; exact s107
      intro J108 hJ108
      refine wv_of nk ?_
      rw [brB_true]
      refine wv_of (Rc.ld_upds (RowL.own (i := 0) s107 rfl) r3A_ok l3) ?_
      refine escrowlaw17_sameList.use (OwnL.own (i := 1) s107 rfl).is (OwnL.own (i := 6) s107 rfl).is hAok hAok (by omega) (by omega) ?_
      rw [decide_eq_true rfl, brB_true]
      refine wv_of (Rc.ld_upds (RowL.own (i := 2) s107 rfl) r3A_ok l2') ?_
      refine wv_of (upd_len (OwnL.own (i := 6) s107 rfl).is) ?_
      obtain ⟨u, u1, u2⟩ := CapSl.take (ie := ti_api_Update) (k := .i64) (m := A.length) T_sl_api_Update rfl T_api_Update (Own.capSl (OwnL.own (i := 3) s107 rfl)) rfl (by rw [List.length_map, List.length_append]; omega)
      refine wv_of u1 ?_
      rw [← List.map_take, List.take_left] at u2
      refine escrowlaw17_sameList.use u2.isSl (OwnL.own (i := 6) s107 rfl).is hAok hAok (by omega) (by omega) ?_
      rw [decide_eq_true rfl, brB_true]
      refine wv_of (Rc.ld_upds (RowL.own (i := 4) s107 rfl) r3A_ok l1') ?_
      refine wv_of (upd_len (OwnL.own (i := 6) s107 rfl).is) ?_
      obtain ⟨a, b, a1, a2, a3⟩ := upd_kindA (j := A.length) (p := mkU (-2)) (OwnL.own (i := 5) s107 rfl).is (by rw [List.getElem?_append_right (by simp [hAlen]), List.length_replicate, hAlen, Nat.sub_self]; rfl)
      refine wv_of a1 ?_
      refine wv_of a2 ?_
      refine wv_of a3 ?_
      refine wv_of nk ?_
      rw [brB_true]
      refine wv_of (Rc.ld_upds (RowL.own (i := 2) s107 rfl) r3A_ok l2') ?_
      refine wv_of (upd_len (OwnL.own (i := 6) s107 rfl).is) ?_
      obtain ⟨a, b, a1, a2, a3⟩ := upd_kindA (j := A.length) (p := mkU (-3)) (OwnL.own (i := 3) s107 rfl).is (by rw [List.getElem?_append_right (Nat.le_refl _), Nat.sub_self]; rfl)
      refine wv_of a1 ?_
      refine wv_of a2 ?_
      refine wv_of a3 ?_
      refine wv_of nk ?_
      rw [brB_true]
      refine wv_of (Rc.ld_upds (RowL.own (i := 4) s107 rfl) r3A_ok l1') ?_
      obtain ⟨a, b, a1, a2, a3⟩ := upd_kindA (j := 0) (p := mkU (-1)) (OwnL.own (i := 5) s107 rfl).is (by rw [List.getElem?_append_left (by rw [List.length_replicate]; omega), List.getElem?_replicate_of_lt (by omega)])
      refine wv_of a1 ?_
      refine wv_of a2 ?_
      refine wv_of a3 ?_
      refine wv_of nk ?_
      refine hJ108 _ _ ?_
      exact hQ _ s107.ch
    have loop : ∀ (k j : Nat) (G' : Heap), m - j = k → j ≤ m → Sp [] G [RowL i36 (r3A.av w2), OwnL 36 w2 (A.map UpdM.av), RowL i28 (r3A.av w1), OwnL 36 w1 ((List.replicate j (mkU (-1)) ++ A.drop j).map UpdM.av), OwnL 36 w (A.map UpdM.av)] G' →
        R67 [w, .str B, .ptr i28 [] 0, .ptr i36 [] 0, .int .i64 (j : Int)] G' := by
      intro k
      induction k with
      | zero =>
        intro j G' hk hj s
        have hjm : j = m := by omega
        refine hR67 _ _ _ _ _ _ ?_
        refine wv_of (Rc.ld_upds (RowL.own (i := 2) s rfl) r3A_ok l1) ?_
        refine wv_of (upd_len (OwnL.own (i := 3) s rfl).is) ?_
        rw [over_len (by omega), vbin_lss, wv_some, brB_dec]
        refine ⟨fun h => absurd h (by omega), fun _ => ?_⟩
        rw [hjm, List.drop_of_length_le (by omega), List.append_nil] at s
        exact last G' s
      | succ k ih =>
        intro j G' hk hj s
        refine hR67 _ _ _ _ _ _ ?_
        refine wv_of (Rc.ld_upds (RowL.own (i := 2) s rfl) r3A_ok l1) ?_
        refine wv_of (upd_len (OwnL.own (i := 3) s rfl).is) ?_
        rw [over_len (by omega), vbin_lss, wv_some, brB_dec]
        refine ⟨fun _ => ?_, fun h => absurd (show (j : Int) < (A.length : Nat) by omega) h⟩
        refine wv_of (Rc.ld_upds (RowL.own (i := 2) s rfl) r3A_ok l1) ?_
        refine wv_of (build_mkU _) ?_
        obtain ⟨a, a1, a2⟩ := Sp.setL (T := T) (t := t_sl_api_Update) (e := t_api_Update) (i := ti_sl_api_Update) (ie := ti_api_Update) (j := 3) (q := j) (k := .i64) (c := (mkU (-1)).av) (vs := (List.replicate j (mkU (-1)) ++ A.drop j).map UpdM.av) T_sl_api_Update rfl T_api_Update s rfl rfl (by rw [List.length_map, over_len (by omega)]; omega) (UpdM.sz (mkU_ok k1)) rfl (UpdM.okv _)
        refine wv_of a1 ?_
        refine a2 _ fun G80 s80 => ?_
        rw [vbin_add, i64_in (by omega) (by omega), wv_some]
        refine ih (j + 1) G80 (by omega) (by omega) ?_
        have e : ((List.replicate j (mkU (-1)) ++ A.drop j).map UpdM.av).set j (mkU (-1)).av = (List.replicate (j + 1) (mkU (-1)) ++ A.drop (j + 1)).map UpdM.av := by
          rw [← List.map_set, set_next (by omega)]
        rw [e] at s80
        exact s80
    exact loop m 0 G38 (by omega) (by omega) (by simpa using s38)
  intro R3 hR3
  have loop : ∀ (k j : Nat) (w : AVal) (G' : Heap), m - j = k → j ≤ m → Sp [] G [OwnL 36 w ((adL j).map UpdM.av)] G' → R3 [.int .i64 (n : Int), w, .int .i64 (j : Int)] G' := by
    intro k
    induction k with
    | zero =>
      intro j w G' hk hj s
      have hjm : j = m := by omega
      refine hR3 _ _ _ _ ?_
      rw [vbin_rem _ _ _ _ _ (by decide), wv_some, Int.tmod_eq_emod_of_nonneg (by omega), vbin_add, i64_in (by omega) (by omega), wv_some, vbin_lss, wv_some, brB_dec]
      refine ⟨fun h => absurd h (by omega), fun _ => ?_⟩
      rw [hjm, ← hA] at s
      exact fin w G' s
    | succ k ih =>
      intro j w G' hk hj s
      refine hR3 _ _ _ _ ?_
      rw [vbin_rem _ _ _ _ _ (by decide), wv_some, Int.tmod_eq_emod_of_nonneg (by omega), vbin_add, i64_in (by omega) (by omega), wv_some, vbin_lss, wv_some, brB_dec]
      refine ⟨fun _ => ?_, fun h => absurd (by omega) h⟩
      refine wv_of (v := (adU j).av) rfl ?_
      have hj100 : j ≤ 100 := by omega
      refine growV (T := T) (ts := t_sl_api_Update) (e := t_api_Update) (si := ti_sl_api_Update) (ie := ti_api_Update) (i := 0) (vs := (adL j).map UpdM.av) T_sl_api_Update rfl T_api_Update rfl (by decide) s rfl (UpdM.sz (adU_ok hj100)) (UpdM.okv _) (by decide) (by rw [List.length_map, adL_len]; simp only [ti_api_Update]; omega) fun w' G15 s15 => ?_
      rw [vbin_add, i64_in (by omega) (by omega), wv_some]
      refine ih (j + 1) w' G15 (by omega) (by omega) ?_
      rw [adL_succ, List.map_append]
      exact s15
  have s0 := (Sp.nil G).nilL 36
  exact loop m 0 .nilSlice G (by omega) (by omega) s0

end
end Go.Esc.M

/- Own work. Chapter 17: what is read is written as it was read; a cut record is none. -/
set_option linter.unusedSimpArgs false
set_option linter.unusedVariables false
set_option maxRecDepth 20000
namespace Go.Esc.M
open Go Go.Esc

end Go.Esc.M

/- Own work. Chapter 17: same; lists of records among the arguments. -/
set_option linter.unusedSimpArgs false
set_option linter.unusedVariables false
set_option maxRecDepth 20000
namespace Go.Esc.M
open Go Go.Esc

/-- A record with its list's value. -/
structure RwM where
  r : RcM
  w : AVal
  l : List UpdM
def RwM.av (x : RwM) : AVal := x.r.av x.w
structure RwM.good (G : Heap) (x : RwM) : Prop where
  ok : x.r.ok
  lf : Leaf x.w
  is : IsSl 36 G x.w (x.l.map UpdM.av)
  us : ∀ u ∈ x.l, u.ok
  len : x.l.length ≤ 140737488351232
section
variable {F0 : List AId} {G0 G : Heap} {ps : List LP} {Q : AVal → Heap → Prop}

theorem RwM.good.mv {G' : Heap} {x : RwM} {E : List AId} (h : x.good G) (hc : Ch [] G E G') : x.good G' := ⟨h.ok, h.lf, h.is.ch' hc, h.us, h.len⟩
end
end Go.Esc.M
