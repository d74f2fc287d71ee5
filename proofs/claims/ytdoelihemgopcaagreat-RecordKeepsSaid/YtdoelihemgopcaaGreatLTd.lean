import Derived.Test.YtdoelihemgopcaaGreatLQi
import Derived.Test.YtdoelihemgopcaaGreatLSh
import Derived.Test.YtdoelihemgopcaaGreatLQd
import Derived.Test.YtdoelihemgopcaaGreatLFa
import Derived.Test.YtdoelihemgopcaaGreatLDg
import Derived.Test.YtdoelihemgopcaaGreatLCx
import Derived.Test.YtdoelihemgopcaaGreatLSe
/- Own work. Chapter 17: lent, stays. -/
set_option linter.unusedSimpArgs false
set_option linter.unusedVariables false
set_option maxRecDepth 20000
namespace Go.Esc.M
open Go Go.Esc

section
variable {F0 : List AId} {G0 G : Heap} {ps : List LP} {Q : AVal → Heap → Prop}

end
end Go.Esc.M

/- Own work. Chapter 17: Apply, of the kinds 1, 2 and 5. -/
set_option linter.unusedSimpArgs false
set_option linter.unusedVariables false
set_option maxRecDepth 20000
namespace Go.Esc.M
open Go Go.Esc

def signB (f : StF) (r : RcM) : Prop := f.s.rem ≠ f.s.ack ∨ r.index ≠ IntKind.i64.wrap (f.s.rem + 1) ∨ r.cntB ≠ f.s.atB ∨ r.cntA < f.s.sgnA ∨ (f.o.length : Nat) < r.cntA
instance (f : StF) (r : RcM) : Decidable (signB f r) := by unfold signB; infer_instance
def applyK (f : StF) (r : RcM) : StF × Bool :=
  if r.kind = 1 then (if nextU f.o f.p r.upd = 0 then (⟨f.s, f.o ++ [r.upd], f.p, f.h⟩, true) else (f, false))
  else if r.kind = 2 then (if signB f r then (f, false) else (⟨{ f.s with rem := r.index, sgnA := r.cntA, sgnB := r.cntB, behind := true }, f.o, f.p, f.h⟩, true))
  else ((if f.s.failed = 0 then ⟨{ f.s with failed := r.code }, f.o, f.p, f.h⟩ else f), true)
def apOk (f : StF) (r : RcM) (l : List UpdM) : Bool := validR r l && (applyK f r).2

section
variable {F0 : List AId} {G0 G : Heap} {ps : List LP} {Q : AVal → Heap → Prop}

set_option maxHeartbeats 4000000 in
theorem chg_apply {f : StF} {r : RcM} {v wo wp wh : AVal} {i1 : AId} {L0 L3 L4 : LP} (hr : r.ok) (hv : Leaf v) (hk : r.kind = 1 ∨ r.kind = 2 ∨ r.kind = 5) (ho : f.s.ok) (oko : ∀ u ∈ f.o, u.ok) (okp : ∀ u ∈ f.p, u.ok) (lo : f.o.length ≤ 1048576) (lp : f.p.length ≤ 1048576) (hh : Leaf wh)
    (hs : Sp [] G0 [L0, OwnL 36 wp (f.p.map UpdM.av), OwnL 36 wo (f.o.map UpdM.av), L3, L4, RowL i1 (f.s.av wo wp wh)] G)
    (hQ : ∀ wo' G', Sp [] G0 [L0, OwnL 36 wp ((applyK f r).1.p.map UpdM.av), OwnL 36 wo' ((applyK f r).1.o.map UpdM.av), L3, L4, RowL i1 ((applyK f r).1.s.av wo' wp wh)] G' → Q (.bool (applyK f r).2) G') : aInvoke cx (chgV r v) "escrow/record.apply" [.ptr i1 [] 0] G Q := by
  have lfo := (OwnL.own (i := 2) hs rfl).leaf
  have lfp := (OwnL.own (i := 1) hs rfl).leaf
  have lv : Leaf wo ∧ Leaf wp ∧ Leaf wh := ⟨lfo, lfp, hh⟩
  unfold applyK at hQ
  unfold chgV
  rcases hk with h | h | h
  · rw [if_pos h] at hQ ⊢
    refine inv_record_ours_apply ?_
    refine record_ours_apply.sound ?_
    unfold record_ours_apply.S
    intro i2 f2
    have s2 := hs.row f2 (.agg [r.upd.av])
    refine wv_of (v := .ptr i1 [] 0) rfl ?_
    refine wv_of (v := .ptr i1 [4] 4) rfl ?_
    refine wv_of (St.ld_ours (RowL.own (i := 6) s2 rfl) ho lv) ?_
    refine wv_of (v := .ptr i1 [] 0) rfl ?_
    refine wv_of (v := .ptr i1 [5] 5) rfl ?_
    refine wv_of (St.ld_peers (RowL.own (i := 6) s2 rfl) ho lv) ?_
    refine wv_of (ow_ld hr.upd (RowL.own (i := 0) s2 rfl)) ?_
    refine update_Next.use (OwnL.own (i := 3) s2 rfl).is (OwnL.own (i := 2) s2 rfl).is oko okp (by omega) (by omega) hr.upd fun G11 c11 => ?_
    have s11 := s2.tmp c11
    rw [vbin_neq, wv_some, brB_ndec]
    refine ⟨fun h1 => ?_, fun h1 => ?_⟩
    · rw [if_neg h1] at hQ
      exact hQ wo _ (s11.erase 0)
    · rw [if_pos h1] at hQ
      refine wv_of (v := .ptr i1 [] 0) rfl ?_
      refine wv_of (v := .ptr i1 [4] 4) rfl ?_
      refine wv_of (St.ld_ours (RowL.own (i := 6) s11 rfl) ho lv) ?_
      refine wv_of (ow_ld hr.upd (RowL.own (i := 0) s11 rfl)) ?_
      refine growV (T := T) (ts := t_sl_api_Update) (e := t_api_Update) (si := ti_sl_api_Update) (ie := ti_api_Update) (i := 3) (vs := f.o.map UpdM.av) T_sl_api_Update rfl T_api_Update rfl (by decide) s11 rfl (UpdM.sz hr.upd) (UpdM.okv _) (by decide) (by rw [List.length_map]; simp only [ti_api_Update]; omega) fun w' G20 s20 => ?_
      have lw' := (OwnL.own (i := 3) s20 rfl).leaf
      refine wv_of (v := .ptr i1 [] 0) rfl ?_
      refine wv_of (v := .ptr i1 [4] 4) rfl ?_
      refine St.st_ours (i := 6) s20 rfl ho lv lw' fun G23 s23 => ?_
      refine hQ w' _ ?_
      have := s23.erase 0
      rw [List.map_append]
      exact this
  · rw [if_neg (by omega), if_pos h] at hQ ⊢
    refine inv_record_signed_apply ?_
    refine record_signed_apply.sound ?_
    unfold record_signed_apply.S
    intro i2 f2
    have s2 := hs.row f2 (.agg [.int .i64 r.index, pairW r.cntA r.cntB])
    revert s2
    generalize Heap.upd _ i2 _ = G2
    intro s2
    have hg := RowL.own (i := 6) s2 rfl
    obtain ⟨l0, l1, l2, l3⟩ := sg_ld (RowL.own (i := 0) s2 rfl)
    intro J47
    have bad : signB f r → J47 (.bool true) G2 := by
      intro hb
      rw [if_pos hb] at hQ
      simp -zeta only [J47, brB_true]
      exact hQ wo _ (s2.erase 0)
    have good : ¬ signB f r → J47 (.bool false) G2 := by
      intro hb
      rw [if_neg hb] at hQ
      simp -zeta only [J47, brB_false]
      refine wv_of l0 ?_
      refine wv_of l1 ?_
      refine wv_of (v := .ptr i1 [] 0) rfl ?_
      refine wv_of (v := .ptr i1 [7] 7) rfl ?_
      refine St.st_rem (i := 6) s2 rfl ho lv _ fun G40 s40 => ?_
      have o1 : ({ f.s with rem := r.index } : StM).ok := ⟨ho.side, ho.cap, ho.bo, ho.bp, ho.loc, hr.index, ho.ack, ho.atA, ho.atB, ho.sgnA, ho.sgnB, ho.heldA, ho.heldB, ho.ptsA, ho.ptsB, ho.sig, ho.failed, ho.closed⟩
      refine ⟨⟨(sg_ld (RowL.own (i := 0) s40 rfl)).2.1, trivial⟩, ?_⟩
      refine wv_of (v := .ptr i1 [] 0) rfl ?_
      refine wv_of (v := .ptr i1 [10] 11) rfl ?_
      refine St.st_sgn (s := { f.s with rem := r.index }) (i := 6) s40 rfl o1 lv _ _ fun G43 s43 => ?_
      have o2 : ({ f.s with rem := r.index, sgnA := r.cntA, sgnB := r.cntB } : StM).ok := ⟨ho.side, ho.cap, ho.bo, ho.bp, ho.loc, hr.index, ho.ack, ho.atA, ho.atB, hr.cntA, hr.cntB, ho.heldA, ho.heldB, ho.ptsA, ho.ptsB, ho.sig, ho.failed, ho.closed⟩
      refine wv_of (v := .ptr i1 [] 0) rfl ?_
      refine wv_of (v := .ptr i1 [12] 15) rfl ?_
      refine St.st_behind (s := { f.s with rem := r.index, sgnA := r.cntA, sgnB := r.cntB }) (i := 6) s43 rfl o2 lv _ fun G46 s46 => ?_
      exact hQ wo _ (s46.erase 0)
    refine wv_of (v := .ptr i1 [] 0) rfl ?_
    refine wv_of (v := .ptr i1 [7] 7) rfl ?_
    refine wv_of (St.ld_rem hg ho lv) ?_
    refine wv_of (v := .ptr i1 [] 0) rfl ?_
    refine wv_of (v := .ptr i1 [8] 8) rfl ?_
    refine wv_of (St.ld_ack hg ho lv) ?_
    rw [vbin_neq, wv_some, brB_ndec]
    refine ⟨fun h1 => bad (.inl h1), fun h1 => ?_⟩
    refine wv_of l0 ?_
    refine wv_of (v := .ptr i1 [] 0) rfl ?_
    refine wv_of (v := .ptr i1 [7] 7) rfl ?_
    refine wv_of (St.ld_rem hg ho lv) ?_
    rw [vbin_add, wv_some, vbin_neq, wv_some, brB_ndec]
    refine ⟨fun h2 => bad (.inr (.inl h2)), fun h2 => ?_⟩
    refine wv_of l3 ?_
    refine wv_of (v := .ptr i1 [] 0) rfl ?_
    refine wv_of (v := .ptr i1 [9] 9) rfl ?_
    refine wv_of (v := .ptr i1 [9, 1] 10) rfl ?_
    refine wv_of (St.ld_atB hg ho lv) ?_
    rw [vbin_neq, wv_some, brB_ndec]
    refine ⟨fun h3 => bad (.inr (.inr (.inl h3))), fun h3 => ?_⟩
    refine wv_of l2 ?_
    refine wv_of (v := .ptr i1 [] 0) rfl ?_
    refine wv_of (v := .ptr i1 [10] 11) rfl ?_
    refine wv_of (v := .ptr i1 [10, 0] 11) rfl ?_
    refine wv_of (St.ld_sgnA hg ho lv) ?_
    rw [vbin_lss, wv_some, brB_dec]
    refine ⟨fun h4 => bad (.inr (.inr (.inr (.inl h4)))), fun h4 => ?_⟩
    refine wv_of l2 ?_
    refine wv_of (v := .ptr i1 [] 0) rfl ?_
    refine wv_of (v := .ptr i1 [4] 4) rfl ?_
    refine wv_of (St.ld_ours hg ho lv) ?_
    refine wv_of (upd_len (OwnL.own (i := 3) s2 rfl).is) ?_
    rw [vbin_gtr, wv_some]
    by_cases h5 : (f.o.length : Nat) < r.cntA
    · rw [decide_eq_true (by omega)]; exact bad (.inr (.inr (.inr (.inr h5))))
    · rw [decide_eq_false (by omega)]
      exact good (by rintro (x | x | x | x | x); exact x h1; exact x h2; exact x h3; exact h4 x; exact h5 x)
  · rw [if_neg (by omega), if_neg (by omega)] at hQ
    rw [if_neg (by omega), if_neg (by omega), if_neg (by omega), if_neg (by omega), if_pos h]
    refine inv_record_failed_apply ?_
    refine record_failed_apply.sound ?_
    unfold record_failed_apply.S
    intro i2 f2
    have s2 := hs.row f2 (.agg [.int .i64 r.code])
    refine wv_of (v := .ptr i1 [] 0) rfl ?_
    refine wv_of (v := .ptr i1 [16] 113) rfl ?_
    refine wv_of (St.ld_failed (RowL.own (i := 6) s2 rfl) ho lv) ?_
    rw [vbin_eql, wv_some, brB_dec]
    refine ⟨fun h1 => ?_, fun h1 => ?_⟩
    · rw [if_pos h1] at hQ
      refine wv_of (fl_ld (RowL.own (i := 0) s2 rfl)) ?_
      refine wv_of (v := .ptr i1 [] 0) rfl ?_
      refine wv_of (v := .ptr i1 [16] 113) rfl ?_
      refine St.st_failed (i := 6) s2 rfl ho lv _ fun G10 s10 => ?_
      exact hQ wo _ (s10.erase 0)
    · rw [if_neg h1] at hQ
      exact hQ wo _ (s2.erase 0)

set_option maxHeartbeats 4000000 in
theorem record_Apply.use {f : StF} {r : RcM} {l : List UpdM} {v vo vp vh : AVal} (hS : StIn G f vo vp vh) (hr : r.ok) (hv : Leaf v) (hl : IsSl 36 G v (l.map UpdM.av)) (hok : ∀ u ∈ l, u.ok) (hlen : l.length ≤ 140737488351232) (hk : r.kind = 1 ∨ r.kind = 2 ∨ r.kind = 5) (hso : (applyK f r).1.s.ok)
    (hno : apOk f r l = false → ∀ G', Ch [] G [] G' → Q (.tuple [StM.zero.av .nilSlice .nilSlice .nilSlice, .int .i64 170]) G')
    (hQ : apOk f r l = true → ∀ wo wp wh G', Sp [] G [OwnL 34 wh (f.h.map SlotM.av), OwnL 36 wp ((applyK f r).1.p.map UpdM.av), OwnL 36 wo ((applyK f r).1.o.map UpdM.av)] G' → Q (.tuple [(applyK f r).1.s.av wo wp wh, .int .i64 0]) G') : ACalls P record_Apply.n [f.s.av vo vp vh, r.av v] G Q := by
  have ho := hS.ok
  have lv := hS.lv
  have hlo := hS.lo
  have hlp := hS.lp
  refine record_Apply.sound ?_
  unfold record_Apply.S
  rw [zSta]
  unfold apOk at hno hQ
  intro i1 f1
  have s1 := (Sp.nil G).row f1 (f.s.av vo vp vh)
  intro i3 f3
  have s3 := s1.row f3 (r.av v)
  intro i5 f5
  have s5 := s3.row f5 (StM.zero.av .nilSlice .nilSlice .nilSlice)
  revert s5
  generalize Heap.upd _ i5 _ = G6
  intro s5
  refine wv_of (Rc.ld (RowL.own (i := 1) s5 rfl) hr hv) ?_
  refine record_changed.use hr hv (hl.ch' s5.ch) hok hlen fun G9 c9 => ?_
  have s9 := s5.tmp c9
  have s9 : Sp [] G [RowL i5 (StM.zero.av .nilSlice .nilSlice .nilSlice), RowL i3 (r.av v), RowL i1 (f.s.av vo vp vh)] G9 := s9
  cases hval : validR r l with
  | false =>
    rw [hval, Bool.false_and] at hno
    refine wv_of nil_nil ?_
    rw [brB_true]
    refine wv_of (v := StM.zero.av .nilSlice .nilSlice .nilSlice) rfl ?_
    refine St.st (i := 0) s9 rfl StM.zero_ok lv0 StM.zero_ok lv0 fun G12 s12 => ?_
    refine wv_of (St.ld (RowL.own (i := 0) s12 rfl) StM.zero_ok lv0) ?_
    exact hno rfl _ s12.ch
  | true =>
  rw [hval, Bool.true_and] at hno hQ
  refine wv_of (nil_chg (kind_of (valR_spec hval).1)) ?_
  rw [brB_false]
  have hg := RowL.own (i := 2) s9 rfl
  refine wv_of (St.ld_ours hg ho lv) ?_
  refine wv_of (St.ld_peers hg ho lv) ?_
  refine wv_of (St.ld_shelf hg ho lv) ?_
  refine clone_upd.use (hS.o.mv s9.ch).isSl hS.oko hS.lo fun wo G18 t18 => ?_
  obtain ⟨F18, o18, c18⟩ := t18.out
  have s18 := s9.new o18 c18
  have hg := RowL.own (i := 3) s18 rfl
  refine ⟨⟨St.ld_shelf hg ho lv, St.ld_peers hg ho lv, trivial⟩, ?_⟩
  refine clone_upd.use (hS.p.mv s18.ch).isSl hS.okp hS.lp fun wp G20 t20 => ?_
  obtain ⟨F20, o20, c20⟩ := t20.out
  have s20 := s18.new o20 c20
  have hg := RowL.own (i := 4) s20 rfl
  refine ⟨⟨St.ld_shelf hg ho lv, trivial⟩, ?_⟩
  refine clone_slot.use (hS.h.mv s20.ch).isSl hS.okh (by have := hS.lh; omega) fun wh G22 t22 => ?_
  obtain ⟨F22, o22, c22⟩ := t22.out
  have s22 := s20.new o22 c22
  have lo := (OwnL.own (i := 2) s22 rfl).leaf
  have lp := (OwnL.own (i := 1) s22 rfl).leaf
  have lh := (OwnL.own (i := 0) s22 rfl).leaf
  refine St.st_ours (i := 5) s22 rfl ho lv lo fun G23 s23 => ?_
  refine St.st_peers (i := 5) s23 rfl ho ⟨lo, lv.2.1, lv.2.2⟩ lp fun G24 s24 => ?_
  refine St.st_shelf (i := 5) s24 rfl ho ⟨lo, lp, lv.2.2⟩ lh fun G25 s25 => ?_
  have s25 : Sp [] G [OwnL 34 wh (f.h.map SlotM.av), OwnL 36 wp (f.p.map UpdM.av), OwnL 36 wo (f.o.map UpdM.av), RowL i5 (StM.zero.av .nilSlice .nilSlice .nilSlice), RowL i3 (r.av v), RowL i1 (f.s.av wo wp wh)] G25 := s25
  refine chg_apply hr hv hk ho hS.oko hS.okp hS.lo hS.lp lh s25 fun wo' G27 s27 => ?_
  have lo' := (OwnL.own (i := 2) s27 rfl).leaf
  have lp' := (OwnL.own (i := 1) s27 rfl).leaf
  rw [vun_not, wv_some]
  cases hap : (applyK f r).2 with
  | false =>
    rw [hap] at hno
    rw [Bool.not_false, brB_true]
    refine wv_of (v := StM.zero.av .nilSlice .nilSlice .nilSlice) rfl ?_
    refine St.st (i := 3) s27 rfl StM.zero_ok lv0 StM.zero_ok lv0 fun G30 s30 => ?_
    refine wv_of (St.ld (RowL.own (i := 3) s30 rfl) StM.zero_ok lv0) ?_
    exact hno rfl _ s30.ch
  | true =>
    rw [hap] at hQ
    rw [Bool.not_true, brB_false]
    refine wv_of (St.ld (RowL.own (i := 5) s27 rfl) hso ⟨lo', lp', lh⟩) ?_
    refine St.st (i := 3) s27 rfl StM.zero_ok lv0 hso ⟨lo', lp', lh⟩ fun G33 s33 => ?_
    refine wv_of (St.ld (RowL.own (i := 3) s33 rfl) hso ⟨lo', lp', lh⟩) ?_
    exact hQ rfl wo' wp wh _ (((s33.erase 3).erase 3).erase 3)

end
end Go.Esc.M

/- Own work. Chapter 17: the head; RecordBytes. -/
set_option linter.unusedSimpArgs false
set_option linter.unusedVariables false
set_option maxRecDepth 20000
namespace Go.Esc.M
open Go Go.Esc

def r258 : RcM := { RcM.zero with kind := 5, code := 258 }
theorem r258_ok : r258.ok := ⟨i64_n 5 (by decide) (by decide), UpdM.zero_ok, i64_0, i64_0, i64_0, rfl, rfl, rfl, i64_n 258 (by decide) (by decide)⟩
theorem wr_258 : wrR r258 [] = ([5, 1, 2], 0) := by decide +kernel
theorem rd_258 : (readR [5, 1, 2, 7]).x = r258 ∧ (readR [5, 1, 2, 7]).l = [] ∧ (readR [5, 1, 2, 7]).n = 3 ∧ (readR [5, 1, 2, 7]).e = 0 := by decide +kernel
theorem rd_7 : (readR [7]).x = RcM.zero ∧ (readR [7]).l = [] ∧ (readR [7]).n = 0 ∧ (readR [7]).e = 170 := by decide +kernel
def sA : StM := { StM.zero with closed := -1 }
theorem sA_ok : sA.ok := ⟨i64_0, i64_0, i64_0, i64_0, i64_0, i64_0, i64_0, i64_0, i64_0, i64_0, i64_0, i64_0, i64_0, rfl, rfl, rfl, i64_0, i64_n (-1) (by decide) (by decide)⟩
def sB : StM := { sA with rem := 1, sgnA := 1, sgnB := 0, behind := true }
theorem sB_ok : sB.ok := ⟨i64_0, i64_0, i64_0, i64_0, i64_0, i64_n 1 (by decide) (by decide), i64_0, i64_0, i64_0, i64_n 1 (by decide) (by decide), i64_0, i64_0, i64_0, rfl, rfl, rfl, i64_0, i64_n (-1) (by decide) (by decide)⟩
def u7A : UpdM := ⟨1, 0, 7, h0, []⟩
theorem u7A_ok : u7A.ok := ⟨i64_n 1 (by decide) (by decide), i64_0, i64_n 7 (by decide) (by decide), rfl, by decide⟩
def rA : RcM := { RcM.zero with kind := 1, upd := u7A }
theorem rA_ok : rA.ok := ⟨i64_n 1 (by decide) (by decide), u7A_ok, i64_0, i64_0, i64_0, rfl, rfl, rfl, i64_0⟩
def rB (i : Int) : RcM := { RcM.zero with kind := 2, index := i, cntA := 1 }
theorem rB_ok {i : Int} (h : I64 i) : (rB i).ok := ⟨i64_n 2 (by decide) (by decide), UpdM.zero_ok, h, i64_n 1 (by decide) (by decide), i64_0, rfl, rfl, rfl, i64_0⟩
theorem ap_A : applyK ⟨sA, [], [], []⟩ rA = (⟨sA, [u7A], [], []⟩, true) := rfl
theorem ok_A : apOk ⟨sA, [], [], []⟩ rA [] = true := by decide +kernel
theorem ap_B : applyK ⟨sA, [u7A], [], []⟩ (rB 1) = (⟨sB, [u7A], [], []⟩, true) := rfl
theorem ok_B : apOk ⟨sA, [u7A], [], []⟩ (rB 1) [] = true := by decide +kernel
theorem ap_C : applyK ⟨sB, [u7A], [], []⟩ (rB 2) = (⟨sB, [u7A], [], []⟩, false) := rfl
theorem ok_C : apOk ⟨sB, [u7A], [], []⟩ (rB 2) [] = false := by decide +kernel

section
variable {F0 : List AId} {G0 G : Heap} {ps : List LP} {Q : AVal → Heap → Prop}

theorem Sps.app17 {ps : List LP} {Fs : List (List AId)} {G : Heap} (h : Sps ps Fs G) : ∀ {qs : List LP} {Gs : List (List AId)}, Sps qs Gs G → (∀ j ∈ Gs.flatten, j ∉ Fs.flatten) → Sps (qs ++ ps) (Gs ++ Fs) G
  | [], [], _, _ => h
  | q :: qs, E :: Gs, ⟨h1, h2, h3⟩, hd => by
    refine ⟨h1, fun j hj hm => ?_, Sps.app17 h h3 fun j hj => hd j (by simp only [List.flatten_cons, List.mem_append]; exact .inr hj)⟩
    have hm : j ∈ (Gs ++ Fs).flatten := hm
    rw [List.flatten_append, List.mem_append] at hm
    rcases hm with hm | hm
    · exact h2 j hj hm
    · exact hd j (by simp only [List.flatten_cons, List.mem_append]; exact .inl hj) hm
  | [], _ :: _, h, _ => h.elim
  | _ :: _, [], h, _ => h.elim
theorem sp_app17 {G' : Heap} {qs : List LP} (h : Sp F0 G0 ps G) (t : Sp [] G qs G') : Sp F0 G0 (qs ++ ps) G' := by
  obtain ⟨Fs, h1, h2⟩ := h
  obtain ⟨Gs, t1, t2⟩ := t
  refine ⟨Gs ++ Fs, Sps.app17 (h1.same fun j hj => t2.same (E := Fs.flatten) h1.rows (by simp) j hj) t1 fun j hj hm => ?_, h2.trans ?_⟩
  · rcases t2.row j hj with h' | h'
    · simp at h'
    · have := h1.rows j hm
      rw [h'] at this; cases this
  · have := t2.more (E := Fs.flatten)
    simpa using this
theorem t30 {x y z : AVal} : vextract (.tuple [x, y, z]) 0 = some x := rfl
theorem t31 {x y z : AVal} : vextract (.tuple [x, y, z]) 1 = some y := rfl
theorem t32 {x y z : AVal} : vextract (.tuple [x, y, z]) 2 = some z := rfl
theorem lists_in {s : StM} {o : List UpdM} {wo wp wh : AVal} (hs : s.ok) (ho : ∀ u ∈ o, u.ok) (lo : o.length ≤ 1000) (t : Sp F0 G0 ps G) {i j k : Nat} (hi : ps[i]? = some (OwnL 36 wo (o.map UpdM.av))) (hj : ps[j]? = some (OwnL 36 wp (([] : List UpdM).map UpdM.av))) (hk : ps[k]? = some (OwnL 34 wh (([] : List SlotM).map SlotM.av))) : StIn G ⟨s, o, [], []⟩ wo wp wh :=
  ⟨hs, Own.capSl (OwnL.own t hi), Own.capSl (OwnL.own t hj), Own.capSl (OwnL.own t hk), ho, (fun u hu => by cases hu), (fun u hu => by cases hu), by show o.length ≤ _; omega, by simp, by simp⟩

set_option maxHeartbeats 8000000 in
theorem escrowlaw17_head.use (hQ : ∀ G', Ch [] G [] G' → Q (.bool true) G') : ACalls P escrowlaw17_head.n [] G Q := by
  refine escrowlaw17_head.sound ?_
  unfold escrowlaw17_head.S
  have hnl : ∀ u ∈ ([] : List UpdM), u.ok := fun u hu => by cases hu
  have hn0 : ([] : List UpdM).length ≤ 140737488351232 := by simp
  have hnil : ∀ G' : Heap, IsSl 36 G' .nilSlice (([] : List UpdM).map UpdM.av) := fun _ => .inr ⟨rfl, rfl⟩
  refine wv_of (v := r258.av .nilSlice) rfl ?_
  refine record_Write.use (l := []) r258_ok Leaf.nil (hnil _) hnl hn0 fun G3 c3 => ?_
  have s3 := (Sp.nil G).tmp c3
  rw [wr_258]
  refine wv_of (tv0 _ _) ?_
  refine wv_of (tv1 _ _) ?_
  refine record_Read.use (by simp) fun w G7 t7 => ?_
  obtain ⟨x1, x2, x3, x4⟩ := rd_258
  rw [x1, x3, x4]
  have lw := (OwnL.own (i := 0) t7 rfl).leaf
  have s7 := s3.tmp t7.ch
  refine wv_of t30 ?_
  refine wv_of t31 ?_
  refine wv_of t32 ?_
  refine Rc.nw s7 r258_ok lw fun i11 G13 s13 => ?_
  refine record_Read.use (by simp) fun w2 G15 t15 => ?_
  obtain ⟨y1, y2, y3, y4⟩ := rd_7
  rw [y1, y3, y4]
  have lw2 := (OwnL.own (i := 0) t15 rfl).leaf
  have s15 := s13.tmp t15.ch
  refine wv_of t30 ?_
  refine wv_of t31 ?_
  refine wv_of t32 ?_
  refine Rc.nw s15 RcM.zero_ok lw2 fun i19 G21 s21 => ?_
  intro J74
  have go : J74 (.bool false) G21 := by
    simp -zeta only [J74, brB_false]
    refine wv_of (v := sA.av .nilSlice .nilSlice .nilSlice) rfl ?_
    refine wv_of (v := u7A.av) rfl ?_
    refine wv_of (v := rA.av .nilSlice) (bR1 u7A_ok) ?_
    have hA : StIn G21 ⟨sA, [], [], []⟩ .nilSlice .nilSlice .nilSlice := ⟨sA_ok, CapSl.nil, CapSl.nil, CapSl.nil, hnl, hnl, (fun u hu => by cases hu), by simp, by simp, by simp⟩
    refine record_Apply.use (f := ⟨sA, [], [], []⟩) (l := []) hA rA_ok Leaf.nil (hnil _) hnl hn0 (.inl rfl) (by rw [ap_A]; exact sA_ok) (fun h => by rw [ok_A] at h; cases h) (fun _ wo wp wh G35 t35 => ?_)
    rw [ap_A] at t35 ⊢
    have s35 := sp_app17 s21 t35
    refine wv_of (tv0 _ _) ?_
    refine wv_of (tv1 _ _) ?_
    have lo := (OwnL.own (i := 2) s35 rfl).leaf
    have lp := (OwnL.own (i := 1) s35 rfl).leaf
    have lh := (OwnL.own (i := 0) s35 rfl).leaf
    refine St.nw s35 sA_ok ⟨lo, lp, lh⟩ fun i38 G40 s40 => ?_
    have okA : ∀ u ∈ [u7A], u.ok := fun u hu => by rw [List.mem_singleton.1 hu]; exact u7A_ok
    have hg := RowL.own (i := 0) s40 rfl
    intro J73
    have go2 : J73 (.bool false) G40 := by
      simp -zeta only [J73, brB_false]
      refine wv_of (St.ld hg sA_ok ⟨lo, lp, lh⟩) ?_
      refine wv_of (v := pairW 1 0) rfl ?_
      refine wv_of (v := (rB 1).av .nilSlice) bR2 ?_
      have hB : StIn G40 ⟨sA, [u7A], [], []⟩ wo wp wh := lists_in sA_ok okA (by simp) s40 (i := 3) (j := 2) (k := 1) rfl rfl rfl
      refine record_Apply.use (f := ⟨sA, [u7A], [], []⟩) (l := []) hB (rB_ok (i64_n 1 (by decide) (by decide))) Leaf.nil (hnil _) hnl hn0 (.inr (.inl rfl)) (by rw [ap_B]; exact sB_ok) (fun h => by rw [ok_B] at h; cases h) (fun _ xo xp xh G53 t53 => ?_)
      rw [ap_B] at t53 ⊢
      have s53 := sp_app17 s40 t53
      refine wv_of (tv0 _ _) ?_
      refine wv_of (tv1 _ _) ?_
      have mo := (OwnL.own (i := 2) s53 rfl).leaf
      have mp := (OwnL.own (i := 1) s53 rfl).leaf
      have mh := (OwnL.own (i := 0) s53 rfl).leaf
      refine St.nw s53 sB_ok ⟨mo, mp, mh⟩ fun i56 G58 s58 => ?_
      refine wv_of (St.ld (RowL.own (i := 0) s58 rfl) sB_ok ⟨mo, mp, mh⟩) ?_
      refine wv_of (v := pairW 1 0) rfl ?_
      refine wv_of (v := (rB 2).av .nilSlice) bR2 ?_
      have hC : StIn G58 ⟨sB, [u7A], [], []⟩ xo xp xh := lists_in sB_ok okA (by simp) s58 (i := 3) (j := 2) (k := 1) rfl rfl rfl
      refine record_Apply.use (f := ⟨sB, [u7A], [], []⟩) (l := []) hC (rB_ok (i64_n 2 (by decide) (by decide))) Leaf.nil (hnil _) hnl hn0 (.inr (.inl rfl)) (by rw [ap_C]; exact sB_ok) (fun _ G63 c63 => ?_) (fun h => by rw [ok_C] at h; cases h)
      have s63 := s58.tmp c63
      refine wv_of (tv0 _ _) ?_
      refine wv_of (tv1 _ _) ?_
      have hg := RowL.own (i := 0) s63 rfl
      have ez : ∀ {t : TypeId} (n : Int), vbin T .eql t (.int .i64 n) (.int .i64 n) = some (.bool true) := fun n => ez0
      refine wv_of (ez 0) ?_
      rw [brB_true]
      refine wv_of (St.ld_rem hg sB_ok ⟨mo, mp, mh⟩) ?_
      refine wv_of (ez 1) ?_
      rw [brB_true]
      refine wv_of (St.ld_behind hg sB_ok ⟨mo, mp, mh⟩) ?_
      show brB (some (.bool true)) _ _
      rw [brB_true]
      refine wv_of (ez 170) ?_
      exact hQ _ s63.ch
    refine wv_of nz0 ?_
    rw [brB_false]
    refine wv_of (St.ld_ours hg sA_ok ⟨lo, lp, lh⟩) ?_
    refine wv_of (upd_len (l := [u7A]) (OwnL.own (i := 3) s40 rfl).is) ?_
    refine wv_of (v := .bool false) nz0 ?_
    rw [brB_false]
    refine wv_of (St.ld_closed hg sA_ok ⟨lo, lp, lh⟩) ?_
    refine wv_of (v := .bool false) nz0 ?_
    exact go2
  rw [vbin_sneq, wv_some, decide_eq_true rfl, Bool.not_true, brB_false]
  refine wv_of nz0 ?_
  rw [brB_false]
  refine wv_of (Rc.ld_code (RowL.own (i := 1) s21 rfl) r258_ok lw) ?_
  refine wv_of (v := .bool false) nz0 ?_
  rw [brB_false]
  refine wv_of nz0 ?_
  rw [brB_false]
  refine wv_of nz0 ?_
  rw [brB_false]
  refine wv_of nz0 ?_
  exact go

theorem wt_PairB {G : Heap} {R d : Nat} {v : AVal} {m : Nat} (h : wt T G R (d + 2) t_api_Counts v m) : ∃ a b : Int, v = pairW a b ∧ I64 a ∧ I64 b := by
  obtain ⟨cs, ms, rfl, hf, rfl⟩ := wt_struct T_api_Counts rfl h
  obtain ⟨c1, cs, m1, ms, rfl, rfl, h1, hf⟩ := wfs_cons hf
  obtain ⟨c2, cs, m2, ms, rfl, rfl, h2, hf⟩ := wfs_cons hf
  obtain ⟨rfl, rfl⟩ := wfs_nil hf
  obtain ⟨a, rfl, w1, _⟩ := wt_int T_int rfl h1
  obtain ⟨b, rfl, w2, _⟩ := wt_int T_int rfl h2
  exact ⟨a, b, rfl, i64_wf.1 w1, i64_wf.1 w2⟩
theorem wt_Record {G : Heap} {R d : Nat} {v : AVal} {m : Nat} (h : wt T G R (d + 5) t_api_Record v m) : ∃ (r : RcM) (w : AVal) (l : List UpdM), v = r.av w ∧ r.ok ∧ RoSl 36 G w (l.map UpdM.av) ∧ (∀ u ∈ l, u.ok) ∧ l.length * 72 ≤ R := by
  obtain ⟨cs, ms, rfl, hf, rfl⟩ := wt_struct T_api_Record rfl h
  obtain ⟨c1, cs, m1, ms, rfl, rfl, h1, hf⟩ := wfs_cons hf
  obtain ⟨c2, cs, m2, ms, rfl, rfl, h2, hf⟩ := wfs_cons hf
  obtain ⟨c3, cs, m3, ms, rfl, rfl, h3, hf⟩ := wfs_cons hf
  obtain ⟨c4, cs, m4, ms, rfl, rfl, h4, hf⟩ := wfs_cons hf
  obtain ⟨c5, cs, m5, ms, rfl, rfl, h5, hf⟩ := wfs_cons hf
  obtain ⟨c6, cs, m6, ms, rfl, rfl, h6, hf⟩ := wfs_cons hf
  obtain ⟨c7, cs, m7, ms, rfl, rfl, h7, hf⟩ := wfs_cons hf
  obtain ⟨c8, cs, m8, ms, rfl, rfl, h8, hf⟩ := wfs_cons hf
  obtain ⟨c9, cs, m9, ms, rfl, rfl, h9, hf⟩ := wfs_cons hf
  obtain ⟨rfl, rfl⟩ := wfs_nil hf
  obtain ⟨a1, rfl, w1, _⟩ := wt_int T_int rfl h1
  obtain ⟨u, rfl, hu, _⟩ := wt_Upd h2
  obtain ⟨l, hro, hok, hR⟩ := wt_Upds h3
  obtain ⟨a4, rfl, w4, _⟩ := wt_int T_int64 rfl h4
  obtain ⟨a5, b5, rfl, w5, w5'⟩ := wt_PairB h5
  obtain ⟨a6, rfl, w6, _⟩ := wt_hash T_api_Hash rfl T_uint8 rfl h6
  obtain ⟨a7, rfl, w7, _⟩ := wt_hash T_api_Hash rfl T_uint8 rfl h7
  obtain ⟨a8, rfl, w8, _⟩ := wt_hash T_api_Hash rfl T_uint8 rfl h8
  obtain ⟨a9, rfl, w9, _⟩ := wt_int T_int rfl h9
  exact ⟨⟨a1, u, a4, a5, b5, a6, a7, a8, a9⟩, c3, l, rfl, ⟨i64_wf.1 w1, hu, i64_wf.1 w4, w5, w5', w6, w7, w8, i64_wf.1 w9⟩, hro, hok, hR⟩

end
end Go.Esc.M

/- Own work. Chapter 17: what is written is read. -/
set_option linter.unusedSimpArgs false
set_option linter.unusedVariables false
set_option maxRecDepth 20000
namespace Go.Esc.M
open Go Go.Esc

end Go.Esc.M

/- Own work. Chapter 17: readApart (for RecordApart). -/
set_option linter.unusedSimpArgs false
set_option linter.unusedVariables false
set_option maxRecDepth 20000
namespace Go.Esc.M
open Go Go.Esc

section
variable {F0 : List AId} {G0 G : Heap} {ps : List LP} {Q : AVal → Heap → Prop}

theorem escrowlaw17_sameList.use {v w : AVal} {a b : List UpdM} (ha : IsSl 36 G v (a.map UpdM.av)) (hb : IsSl 36 G w (b.map UpdM.av)) (oa : ∀ m ∈ a, m.ok) (ob : ∀ m ∈ b, m.ok) (la : a.length ≤ 140737488351232) (lb : b.length ≤ 140737488351232)
    (hQ : Q (.bool (decide (a = b))) G) : ACalls P escrowlaw17_sameList.n [v, w] G Q := by
  refine escrowlaw17_sameList.sound ?_
  unfold escrowlaw17_sameList.S
  refine wv_of (upd_len ha) ?_
  refine wv_of (upd_len hb) ?_
  rw [vbin_neq, wv_some, brB_ndec]
  refine ⟨fun h1 => ?_, fun h1 => ?_⟩
  · rw [decide_eq_false (fun h => h1 (by rw [h]))] at hQ
    exact hQ
  have hlen : a.length = b.length := by omega
  intro R hR
  have loop : ∀ (n j : Nat), a.length - j = n → j ≤ a.length → a.take j = b.take j → R [v, w, .int .i64 (j : Int)] G := by
    intro n
    induction n with
    | zero =>
      intro j hn hj he
      refine hR _ _ _ _ ?_
      refine wv_of (upd_len ha) ?_
      rw [vbin_lss, wv_some, brB_dec]
      refine ⟨fun h => absurd h (by omega), fun _ => ?_⟩
      have hjl : j = a.length := by omega
      rw [hjl, List.take_length, hlen, List.take_length] at he
      rw [decide_eq_true he] at hQ
      exact hQ
    | succ n ih =>
      intro j hn hj he
      obtain ⟨x, hx⟩ : ∃ x, a[j]? = some x := ⟨_, List.getElem?_eq_getElem (by omega)⟩
      obtain ⟨y, hy⟩ : ∃ y, b[j]? = some y := ⟨_, List.getElem?_eq_getElem (by omega)⟩
      refine hR _ _ _ _ ?_
      refine wv_of (upd_len ha) ?_
      rw [vbin_lss, wv_some, brB_dec]
      refine ⟨fun _ => ?_, fun h => absurd (by omega) h⟩
      obtain ⟨p, p1, p2⟩ := upd_at ha hx
      obtain ⟨q, q1, q2⟩ := upd_at hb hy
      refine wv_of p1 ?_
      refine wv_of p2 ?_
      refine wv_of q1 ?_
      refine wv_of q2 ?_
      rw [vbin_uneq (oa x (List.mem_of_getElem? hx)) (ob y (List.mem_of_getElem? hy)), wv_some, brB_ndec]
      refine ⟨fun h2 => ?_, fun h2 => ?_⟩
      · rw [decide_eq_false (fun h => h2 (by rw [h, hy] at hx; exact (Option.some.inj hx).symm))] at hQ
        exact hQ
      · rw [vbin_add, i64_in (by omega) (by omega), wv_some]
        refine ih (j + 1) (by omega) (by omega) ?_
        rw [List.take_add_one, List.take_add_one, he, hx, hy, h2]
  exact loop a.length 0 rfl (by omega) rfl

end
end Go.Esc.M

/- Own work. Chapter 17: what is read is written as it was read; a cut record is none. -/
set_option linter.unusedSimpArgs false
set_option linter.unusedVariables false
set_option maxRecDepth 20000
namespace Go.Esc.M
open Go Go.Esc

end Go.Esc.M

/- Own work. Chapter 17: same; lists of records among the arguments. -/
set_option linter.unusedSimpArgs false
set_option linter.unusedVariables false
set_option maxRecDepth 20000
namespace Go.Esc.M
open Go Go.Esc

/-- A record with its list's value. -/
structure RwM where
  r : RcM
  w : AVal
  l : List UpdM
def RwM.av (x : RwM) : AVal := x.r.av x.w
structure RwM.good (G : Heap) (x : RwM) : Prop where
  ok : x.r.ok
  lf : Leaf x.w
  is : IsSl 36 G x.w (x.l.map UpdM.av)
  us : ∀ u ∈ x.l, u.ok
  len : x.l.length ≤ 140737488351232
section
variable {F0 : List AId} {G0 G : Heap} {ps : List LP} {Q : AVal → Heap → Prop}

theorem RwM.good.mv {G' : Heap} {x : RwM} {E : List AId} (h : x.good G) (hc : Ch [] G E G') : x.good G' := ⟨h.ok, h.lf, h.is.ch' hc, h.us, h.len⟩
theorem rec_at {v : AVal} {l : List RwM} {j : Nat} {x : RwM} (h : IsSl 138 G v (l.map RwM.av)) (hj : l[j]? = some x) : ∃ a, viaddr T t_sl_api_Record v (.int .i64 (j : Int)) = some a ∧ vload T G t_api_Record a = some (x.r.av x.w) :=
  h.at_ (k := .i64) (i := ti_sl_api_Record) (ie := ti_api_Record) (T := T) (t := t_sl_api_Record) (e := t_api_Record) T_sl_api_Record rfl T_api_Record (by rw [List.getElem?_map, hj]; rfl) rfl
theorem rec_len {v : AVal} {l : List RwM} (h : IsSl 138 G v (l.map RwM.av)) : vlen T G t_sl_api_Record v = some (.int .i64 (l.length : Nat)) := by
  rw [h.len (i := ti_sl_api_Record) T_sl_api_Record rfl, List.length_map]
end
end Go.Esc.M

/- Own work. Chapters 9 and 10 whatever Go's table holds: Level, Derive and Put end, and a shelf has 49 places. -/
set_option linter.unusedSimpArgs false
set_option linter.unusedVariables false
set_option maxRecDepth 20000
namespace Go.Esc.M
open Go Go.Esc

/-- A table of 64 bytes lies there. -/
def TabAny (G : Heap) : Prop := ∃ zs : List Int, zs.length = 64 ∧ (∀ z ∈ zs, 0 ≤ z ∧ z ≤ 255) ∧ G g_math_bits_deBruijn64tab = some (.ro (tabV zs))
theorem TabAny.mono {G G' : Heap} (h : TabAny G) (hle : RoLe G G') : TabAny G' := by
  obtain ⟨zs, h1, h2, h3⟩ := h
  exact ⟨zs, h1, h2, hle _ _ h3⟩

section
variable {F0 : List AId} {G0 G : Heap} {ps : List LP} {Q : AVal → Heap → Prop}

theorem bits_TrailingZeros64.useA {x : Nat} (hx : x < 2 ^ 48) (hT : TabAny G) (hQ : ∀ k : Nat, k ≤ 255 → Q (.int .i64 (k : Int)) G) : ACalls P bits_TrailingZeros64.n [.int .u64 (x : Int)] G Q := by
  obtain ⟨zs, hz1, hz2, hT⟩ := hT
  refine bits_TrailingZeros64.sound ?_
  unfold bits_TrailingZeros64.S
  rw [vbin_eql, wv_some, brB_dec]
  refine ⟨fun h0 => hQ 64 (by decide), fun h0 => ?_⟩
  have hx0 : x ≠ 0 := by omega
  obtain ⟨m, hm⟩ := level_form hx0 hx
  have hl := level_pos hx0 hx
  have hp48 : (2 : Nat) ^ 48 ≤ 2 ^ 64 := by decide
  have e64 : (2 : Nat) ^ 64 = 18446744073709551616 := by decide
  rw [vun_neg, wv_some, wrapU64]
  have hneg : (0 - (x : Int)) % 18446744073709551616 = ((2 ^ 64 - x : Nat) : Int) := by omega
  rw [hneg, u64_and (by omega) (by omega), wv_some]
  have hand : x &&& (2 ^ 64 - x) = 2 ^ level x := by
    have := and_neg (k := level x) (m := m) (by rw [← hm]; omega)
    rwa [← hm] at this
  rw [hand]
  obtain ⟨k, hk⟩ : ∃ k, k = level x := ⟨_, rfl⟩
  rw [← hk] at hl ⊢
  obtain ⟨idx, hidx⟩ : ∃ i, i = (2 ^ k * 0x03f79d71b4ca8b09 % 18446744073709551616) / 288230376151711744 := ⟨_, rfl⟩
  have hi64 : idx < 64 := by rw [hidx]; omega
  rw [vbin_mul, wv_some, wrapU64]
  have hmul : (((2 ^ k : Nat) : Int) * 285870213051353865) % 18446744073709551616 = ((2 ^ k * 0x03f79d71b4ca8b09 % 18446744073709551616 : Nat) : Int) := by omega
  rw [hmul]
  have hshr : vbin T .shr t_uint64 (.int .u64 ((2 ^ k * 0x03f79d71b4ca8b09 % 18446744073709551616 : Nat) : Int)) (.int .u64 58) = some (.int .u64 (idx : Int)) := by
    rw [vbin_shr _ _ _ _ _ _ (by decide)]
    have h1 : min (58 : Int).toNat IntKind.u64.bits = 58 := rfl
    have h2 : ((2 : Int) ^ 58) = ((288230376151711744 : Nat) : Int) := by decide
    rw [h1, h2, Int.fdiv_eq_ediv_of_nonneg _ (Int.natCast_nonneg _), hidx]
    congr 2
  refine wv_of hshr ?_
  refine wv_of (arrN_addr (j := idx) T_ar64_uint8 rfl T_uint8 rfl (by omega)) ?_
  obtain ⟨z, hzi⟩ : ∃ z, zs[idx]? = some z := ⟨_, List.getElem?_eq_getElem (by omega)⟩
  obtain ⟨z0, z1⟩ := hz2 z (List.mem_of_getElem? hzi)
  have hld : vload T G t_uint8 (.ptr g_math_bits_deBruijn64tab ([] ++ [idx]) (0 + idx * ti_uint8.size)) = some (.int .u8 z) := by
    have hz : (zs.map (AVal.int .u8))[idx]? = some (.int .u8 z) := by rw [List.getElem?_map, hzi]; rfl
    have hu : uni 1 (zs.map (AVal.int .u8)) = true := by simp [uni, sz]
    have hs : szs ((zs.map (AVal.int .u8)).take idx) = idx := by
      have := szs_takeN hu (j := idx) (by have := (List.getElem?_eq_some_iff.1 hz).1; omega)
      rw [this, Nat.mul_one]
    have hsub : vsub G (.ptr g_math_bits_deBruijn64tab [idx] idx) = some (.int .u8 z) := by
      simp only [vsub, hT, treeOf, tabV, sub, hs, Nat.le_refl, if_true, hz, Nat.sub_self]
    show vload T G t_uint8 (.ptr g_math_bits_deBruijn64tab [idx] (0 + idx * 1)) = _
    rw [Nat.zero_add, Nat.mul_one]
    simp only [vload, hsub, T_uint8]
    rfl
  refine wv_of hld ?_
  rw [vconv_int T_uint8 T_int rfl, i64_in (by omega) (by omega), wv_some]
  have := hQ z.toNat (by omega)
  rwa [show ((z.toNat : Nat) : Int) = z by omega] at this

theorem seed_Level.useA {n : Int} (hT : TabAny G) (hno : okN n = false → Q (tupII (0, 90)) G) (hQ : okN n = true → ∀ lv : Nat, lv ≤ 48 → Q (tupII ((lv : Int), 0)) G) : ACalls P seed_Level.n [.int .i64 n] G Q := by
  refine seed_Level.sound ?_
  unfold seed_Level.S
  refine seed_right.use ?_
  rw [vun_not, wv_some]
  cases hn : okN n with
  | false => exact hno hn
  | true =>
    rw [Bool.not_true, brB_false]
    obtain ⟨h1, h2⟩ := pl_eq hn
    have e48 : (2 : Nat) ^ 48 = 281474976710656 := by decide
    refine seed_place.use hn ?_
    rw [vconv_int T_int64 T_uint64 rfl, u64_in (by omega) (by omega), wv_some]
    refine bits_TrailingZeros64.useA h2 hT fun k hk => ?_
    have hmin : vmin2 (.int .i64 48) (.int .i64 (k : Int)) = some (.int .i64 ((min 48 k : Nat) : Int)) := by
      simp only [vmin2]
      congr 2
      split <;> omega
    refine wv_of hmin ?_
    exact hQ hn _ (by omega)

set_option maxHeartbeats 1000000 in
theorem seed_Derive.useA {s : List UInt8} {a b : Int} (hT : TabAny G) (hl : s.length = 32) (hQ : ∀ (h : List UInt8) (e : Int) G', h.length = 32 → Ch [] G [] G' → Q (tupHI (h, e)) G') : ACalls P seed_Derive.n [.agg (s.map u8v), .int .i64 a, .int .i64 b] G Q := by
  refine seed_Derive.sound ?_
  unfold seed_Derive.S
  rw [z_hash]
  intro i1 f1
  have s1 := (Sp.nil G).row f1 (.agg (s.map u8v))
  intro i3 f3
  have s3 := s1.row f3 (.agg ((List.replicate 32 (0 : UInt8)).map u8v))
  revert s3
  generalize Heap.upd _ i3 _ = G4
  intro s3
  have s3 : Sp [] G [RowL i3 (.agg (zero32.map u8v)), RowL i1 (.agg (s.map u8v))] G4 := s3
  have none : ∀ e : Int, (wv (vbuild T t_api_Hash []) fun v15 => wg (vstore T G4 t_api_Hash (.ptr i3 [] 0) v15) fun G16 => wv (vload T G16 t_api_Hash (.ptr i3 [] 0)) fun v17 => Q (.tuple [v17, .int .i64 e]) G16) := by
    intro e
    refine wv_of zero_hash2 ?_
    refine wg_of (store_hash (hs' := zero32) rfl rfl (RowL.own (i := 0) s3 rfl)) ?_
    have s9 := Sp.setRow (j := 0) s3 rfl (.agg (zero32.map u8v))
    refine wv_of (load_hash rfl (RowL.own (i := 0) s9 rfl)) ?_
    exact hQ zero32 e _ rfl s9.ch
  refine seed_Level.useA (hT.mono s3.ro) (fun ha => ?_) (fun ha lv hlv => ?_)
  · refine wv_of (ii0 _) ?_
    refine wv_of (ii1 _) ?_
    intro J28
    rw [vbin_neq, wv_some, decide_eq_false (by decide), Bool.not_false, brB_true]
    simp -zeta only [J28, brB_true]
    exact none 90
  · refine wv_of (ii0 _) ?_
    refine wv_of (ii1 _) ?_
    intro J28
    refine wv_of nz0 ?_
    rw [brB_false]
    refine seed_right.use ?_
    rw [vun_not, wv_some]
    cases hb : okN b with
    | false =>
      simp -zeta only [J28, Bool.not_false, brB_true]
      exact none 90
    | true =>
      simp -zeta only [J28, Bool.not_true, brB_false]
      refine seed_place.use ha ?_
      refine wv_of (shrN (by omega)) ?_
      refine seed_place.use hb ?_
      refine wv_of (shrN (by omega)) ?_
      rw [vbin_neq, wv_some, brB_ndec]
      refine ⟨fun hne => none 5, fun heq => ?_⟩
      refine wv_of (load_hash hl (RowL.own (i := 1) s3 rfl)) ?_
      refine seed_place.use hb ?_
      refine ⟨⟨load_hash hl (RowL.own (i := 1) s3 rfl), trivial⟩, ?_⟩
      refine seed_down.use hl (pl_eq hb).2 hlv fun G33 c33 => ?_
      have s33 := s3.tmp c33
      have hD := length_down (pl := pl b) lv hl
      refine wg_of (store_hash (hs' := downS (pl b) lv s) rfl hD (RowL.own (i := 0) s33 rfl)) ?_
      have s34 := Sp.setRow (j := 0) s33 rfl (.agg ((downS (pl b) lv s).map u8v))
      refine wv_of (load_hash hD (RowL.own (i := 0) s34 rfl)) ?_
      exact hQ _ 0 _ hD s34.ch

/-- What Put answers whatever the table holds. -/
def putOk (l : List SlotM) (n : Int) (w : Option (List SlotM)) : Prop :=
  (∀ h, w = some h → h.length = 49 ∧ ∀ x ∈ h, x.ok) ∧ (l = [] → okN n = true → w.isSome = true)
theorem putOk_any (l : List SlotM) (n : Int) : putOk l n (some (List.replicate 49 zeroS)) := by
  refine ⟨fun h e => ?_, fun _ _ => rfl⟩
  injection e with e
  subst e
  exact ⟨by simp, fun x hx => by rw [List.eq_of_mem_replicate hx]; exact zeroS_ok⟩

set_option maxHeartbeats 2000000 in
theorem shelf_Put.useA {v : AVal} {l : List SlotM} {n : Int} {secret : List UInt8} (hT : TabAny G) (hl : IsSl 34 G v (l.map SlotM.av)) (hok : ∀ s ∈ l, s.ok) (hlen : l.length * 48 ≤ 140737488351232) (hs : secret.length = 32)
    (hno : putOk l n none → ∀ e G', e ≠ 0 → Ch [] G [] G' → Q (.tuple [.nilSlice, .int .i64 e]) G')
    (hQ : ∀ h w G', putOk l n (some h) → Sp [] G [OwnL 34 w (h.map SlotM.av)] G' → Q (.tuple [w, .int .i64 0]) G') : ACalls P shelf_Put.n [v, .int .i64 n, .agg (secret.map u8v)] G Q := by
  refine shelf_Put.sound ?_
  unfold shelf_Put.S
  intro i1 f1
  have s1 := (Sp.nil G).row f1 (.agg (secret.map u8v))
  refine wv_of (slots_len (hl.ch' s1.ch)) ?_
  have pno : l ≠ [] ∨ okN n = false → putOk l n none := by
    intro h
    refine ⟨fun h e => (by cases e), fun h1 h2 => ?_⟩
    rcases h with h | h
    · exact absurd h1 h
    · rw [h] at h2; cases h2
  rw [vbin_gtr, wv_some, brB_dec]
  refine ⟨fun h => ?_, fun h => ?_⟩
  · exact hno (pno (.inl fun e => by rw [e] at h; simp at h)) 1 _ (by decide) s1.ch
  refine seed_Level.useA (hT.mono s1.ro) (fun hn => ?_) (fun hn lv hlv => ?_)
  · refine wv_of (ii0 _) ?_
    refine wv_of (ii1 _) ?_
    refine wv_of (v := .bool true) rfl ?_
    rw [brB_true]
    exact hno (pno (.inr hn)) 90 _ (by decide) s1.ch
  refine wv_of (ii0 _) ?_
  refine wv_of (ii1 _) ?_
  refine wv_of nz0 ?_
  rw [brB_false]
  refine mkOwn (n := 49) T_sl_api_Slot rfl T_api_Slot (SlotM.sz zeroS_ok) rfl rfl (by decide) (by decide) s1 fun w G11 s11 => ?_
  have s11 : Sp [] G [OwnL 34 w (List.replicate 49 zeroS.av), RowL i1 (.agg (secret.map u8v))] G11 := s11
  have e0 : List.replicate 49 zeroS.av = (List.replicate 49 zeroS).map SlotM.av := by rw [List.map_replicate]
  rw [e0] at s11
  refine wv_of (slots_len (hl.ch' s11.ch)) ?_
  intro R hR
  have loop : ∀ (m j : Nat) (h : List SlotM) (G' : Heap), l.length - j = m → j ≤ l.length → h.length = 49 → (∀ x ∈ h, x.ok) → Sp [] G [OwnL 34 w (h.map SlotM.av), RowL i1 (.agg (secret.map u8v))] G' →
      R [v, .int .i64 n, .ptr i1 [] 0, .int .i64 (lv : Int), w, .int .i64 (l.length : Int), .int .i64 (j : Int)] G' := by
    intro m
    induction m with
    | zero =>
      intro j h G' hm hj hh ho sp
      refine hR _ _ _ _ _ _ _ _ ?_
      rw [vbin_lss, wv_some, decide_eq_false (by omega), brB_false]
      refine wv_of (load_hash hs (RowL.own (i := 1) sp rfl)) ?_
      refine wv_of (build_slot hs true) ?_
      obtain ⟨a, e1, e2⟩ := slot_put (i := 0) (j := lv) (s := ⟨n, secret, true⟩) (x := (lv : Int)) rfl sp rfl (by omega) hs
      refine wv_of e1 ?_
      refine e2 _ fun G59 s59 => ?_
      refine hQ (h.set lv ⟨n, secret, true⟩) w _ ⟨fun h' e => ?_, fun _ _ => rfl⟩ (s59.erase 1)
      injection e with e
      subst e
      refine ⟨by rw [List.length_set, hh], fun x hx => ?_⟩
      rcases List.mem_or_eq_of_mem_set hx with hx | rfl
      · exact ho x hx
      · exact hs
    | succ m ih =>
      intro j h G' hm hj hh ho sp
      obtain ⟨s, hsj⟩ : ∃ s, l[j]? = some s := ⟨_, List.getElem?_eq_getElem (by omega)⟩
      have hso := hok s (List.mem_of_getElem? hsj)
      have hne : putOk l n none := pno (.inl fun e => by rw [e] at hsj; simp at hsj)
      refine hR _ _ _ _ _ _ _ _ ?_
      rw [vbin_lss, wv_some, decide_eq_true (by omega), brB_true]
      obtain ⟨a, b, e1, e2, e3⟩ := slot_full (hl.ch' sp.ch) rfl hsj hso
      refine wv_of e1 ?_
      refine wv_of e2 ?_
      refine wv_of e3 ?_
      rw [vun_not, wv_some]
      have ev : vbin T .add t_int (.int .i64 (j : Int)) (.int .i64 1) = some (.int .i64 ((j + 1 : Nat) : Int)) := by
        rw [vbin_add, i64_in (by omega) (by omega)]
        rfl
      cases hf : s.full with
      | false =>
        rw [Bool.not_false, brB_true]
        refine wv_of ev ?_
        exact ih (j + 1) h G' (by omega) (by omega) hh ho sp
      | true =>
        rw [Bool.not_true, brB_false]
        obtain ⟨a, e1, e2⟩ := slot_at (hl.ch' sp.ch) rfl hsj
        refine wv_of e1 ?_
        refine wv_of e2 ?_
        obtain ⟨a, e1, e2⟩ := slot_put (i := 0) (j := j) (s := s) (x := (j : Int)) rfl sp rfl (by omega) hso
        refine wv_of e1 ?_
        refine e2 _ fun G30 s30 => ?_
        have s30 : Sp [] G [OwnL 34 w ((h.set j s).map SlotM.av), RowL i1 (.agg (secret.map u8v))] G30 := s30
        have hh2 : (h.set j s).length = 49 := by rw [List.length_set, hh]
        have ho2 : ∀ x ∈ h.set j s, x.ok := fun x hx => by
          rcases List.mem_or_eq_of_mem_set hx with hx | rfl
          · exact ho x hx
          · exact hso
        rw [vbin_geq, wv_some, brB_dec]
        refine ⟨fun hge => ?_, fun hlt => ?_⟩
        · refine wv_of ev ?_
          exact ih (j + 1) _ G30 (by omega) (by omega) hh2 ho2 s30
        · refine wv_of (load_hash hs (RowL.own (i := 1) s30 rfl)) ?_
          obtain ⟨a, b, e1, e2, e3⟩ := slot_index (hl.ch' s30.ch) rfl hsj
          refine wv_of e1 ?_
          refine wv_of e2 ?_
          refine wv_of e3 ?_
          refine seed_Derive.useA (hT.mono s30.ro) hs fun d e G37 hdl c37 => ?_
          have s37 := s30.tmp c37
          refine wv_of (hi0 _) ?_
          refine wv_of (hi1 _) ?_
          refine newH s37 hdl fun i40 G42 s42 => ?_
          have fail : Q (.tuple [.nilSlice, .int .i64 100]) G42 := hno hne 100 _ (by decide) s42.ch
          rw [vbin_neq, wv_some, brB_ndec]
          refine ⟨fun _ => fail, fun _ => ?_⟩
          refine wv_of (load_hash hdl (RowL.own (i := 0) s42 rfl)) ?_
          obtain ⟨a, b, e1, e2, e3⟩ := slot_secret (hl.ch' s42.ch) rfl hsj hso
          refine wv_of e1 ?_
          refine wv_of e2 ?_
          refine wv_of e3 ?_
          refine wv_of (hash_neq2 hdl hso) ?_
          rw [brB_ndec]
          refine ⟨fun _ => fail, fun _ => ?_⟩
          refine wv_of ev ?_
          exact ih (j + 1) _ G42 (by omega) (by omega) hh2 ho2 (s42.erase 0)
  exact loop l.length 0 _ G11 rfl (by omega) (by simp) (fun x hx => by rw [List.eq_of_mem_replicate hx]; exact zeroS_ok) s11

end
end Go.Esc.M
