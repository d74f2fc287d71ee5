import Derived.Test.YteoakmejaeopmaaLQh
import Derived.Test.YteoakmejaeopmaaLSh
import Derived.Test.YteoakmejaeopmaaLQd
import Derived.Test.YteoakmejaeopmaaLFb
import Derived.Test.YteoakmejaeopmaaLDc
import Derived.Test.YteoakmejaeopmaaLBe
/- Own work. Chapter 17: Read, in the document: the walk. -/
set_option linter.unusedSimpArgs false
set_option linter.unusedVariables false
set_option maxRecDepth 20000
namespace Go.Esc.M
open Go Go.Esc

section
variable {F0 : List AId} {G0 G : Heap} {ps : List LP} {Q : AVal → Heap → Prop}

theorem RdRL.rd {id : AId} {st : List UInt8 × Int} {i : Nat} (h : Sp F0 G0 ps G) (hi : ps[i]? = some (RdRL id st)) : RdR id st G := by
  obtain ⟨F, h, _⟩ := h.get hi
  exact h
end
end Go.Esc.M

/- Own work. Chapter 17: lent, stays. -/
set_option linter.unusedSimpArgs false
set_option linter.unusedVariables false
set_option maxRecDepth 20000
namespace Go.Esc.M
open Go Go.Esc

section
variable {F0 : List AId} {G0 G : Heap} {ps : List LP} {Q : AVal → Heap → Prop}

end
end Go.Esc.M

/- Own work. Chapter 17: Apply, of the kinds 1, 2 and 5. -/
set_option linter.unusedSimpArgs false
set_option linter.unusedVariables false
set_option maxRecDepth 20000
namespace Go.Esc.M
open Go Go.Esc

def signB (f : StF) (r : RcM) : Prop := f.s.rem ≠ f.s.ack ∨ r.index ≠ IntKind.i64.wrap (f.s.rem + 1) ∨ r.cntB ≠ f.s.atB ∨ r.cntA < f.s.sgnA ∨ (f.o.length : Nat) < r.cntA
instance (f : StF) (r : RcM) : Decidable (signB f r) := by unfold signB; infer_instance
def applyK (f : StF) (r : RcM) : StF × Bool :=
  if r.kind = 1 then (if nextU f.o f.p r.upd = 0 then (⟨f.s, f.o ++ [r.upd], f.p, f.h⟩, true) else (f, false))
  else if r.kind = 2 then (if signB f r then (f, false) else (⟨{ f.s with rem := r.index, sgnA := r.cntA, sgnB := r.cntB, behind := true }, f.o, f.p, f.h⟩, true))
  else ((if f.s.failed = 0 then ⟨{ f.s with failed := r.code }, f.o, f.p, f.h⟩ else f), true)
def apOk (f : StF) (r : RcM) (l : List UpdM) : Bool := validR r l && (applyK f r).2

section
variable {F0 : List AId} {G0 G : Heap} {ps : List LP} {Q : AVal → Heap → Prop}

set_option maxHeartbeats 4000000 in
theorem chg_apply {f : StF} {r : RcM} {v wo wp wh : AVal} {i1 : AId} {L0 L3 L4 : LP} (hr : r.ok) (hv : Leaf v) (hk : r.kind = 1 ∨ r.kind = 2 ∨ r.kind = 5) (ho : f.s.ok) (oko : ∀ u ∈ f.o, u.ok) (okp : ∀ u ∈ f.p, u.ok) (lo : f.o.length ≤ 1048576) (lp : f.p.length ≤ 1048576) (hh : Leaf wh)
    (hs : Sp [] G0 [L0, OwnL 36 wp (f.p.map UpdM.av), OwnL 36 wo (f.o.map UpdM.av), L3, L4, RowL i1 (f.s.av wo wp wh)] G)
    (hQ : ∀ wo' G', Sp [] G0 [L0, OwnL 36 wp ((applyK f r).1.p.map UpdM.av), OwnL 36 wo' ((applyK f r).1.o.map UpdM.av), L3, L4, RowL i1 ((applyK f r).1.s.av wo' wp wh)] G' → Q (.bool (applyK f r).2) G') : aInvoke cx (chgV r v) "escrow/record.apply" [.ptr i1 [] 0] G Q := by
  have lfo := (OwnL.own (i := 2) hs rfl).leaf
  have lfp := (OwnL.own (i := 1) hs rfl).leaf
  have lv : Leaf wo ∧ Leaf wp ∧ Leaf wh := ⟨lfo, lfp, hh⟩
  unfold applyK at hQ
  unfold chgV
  rcases hk with h | h | h
  · rw [if_pos h] at hQ ⊢
    refine inv_record_ours_apply ?_
    refine record_ours_apply.sound ?_
    unfold record_ours_apply.S
    intro i2 f2
    have s2 := hs.row f2 (.agg [r.upd.av])
    refine wv_of (v := .ptr i1 [] 0) rfl ?_
    refine wv_of (v := .ptr i1 [4] 4) rfl ?_
    refine wv_of (St.ld_ours (RowL.own (i := 6) s2 rfl) ho lv) ?_
    refine wv_of (v := .ptr i1 [] 0) rfl ?_
    refine wv_of (v := .ptr i1 [5] 5) rfl ?_
    refine wv_of (St.ld_peers (RowL.own (i := 6) s2 rfl) ho lv) ?_
    refine wv_of (ow_ld hr.upd (RowL.own (i := 0) s2 rfl)) ?_
    refine update_Next.use (OwnL.own (i := 3) s2 rfl).is (OwnL.own (i := 2) s2 rfl).is oko okp (by omega) (by omega) hr.upd fun G11 c11 => ?_
    have s11 := s2.tmp c11
    rw [vbin_neq, wv_some, brB_ndec]
    refine ⟨fun h1 => ?_, fun h1 => ?_⟩
    · rw [if_neg h1] at hQ
      exact hQ wo _ (s11.erase 0)
    · rw [if_pos h1] at hQ
      refine wv_of (v := .ptr i1 [] 0) rfl ?_
      refine wv_of (v := .ptr i1 [4] 4) rfl ?_
      refine wv_of (St.ld_ours (RowL.own (i := 6) s11 rfl) ho lv) ?_
      refine wv_of (ow_ld hr.upd (RowL.own (i := 0) s11 rfl)) ?_
      refine growV (T := T) (ts := t_sl_api_Update) (e := t_api_Update) (si := ti_sl_api_Update) (ie := ti_api_Update) (i := 3) (vs := f.o.map UpdM.av) T_sl_api_Update rfl T_api_Update rfl (by decide) s11 rfl (UpdM.sz hr.upd) (UpdM.okv _) (by decide) (by rw [List.length_map]; simp only [ti_api_Update]; omega) fun w' G20 s20 => ?_
      have lw' := (OwnL.own (i := 3) s20 rfl).leaf
      refine wv_of (v := .ptr i1 [] 0) rfl ?_
      refine wv_of (v := .ptr i1 [4] 4) rfl ?_
      refine St.st_ours (i := 6) s20 rfl ho lv lw' fun G23 s23 => ?_
      refine hQ w' _ ?_
      have := s23.erase 0
      rw [List.map_append]
      exact this
  · rw [if_neg (by omega), if_pos h] at hQ ⊢
    refine inv_record_signed_apply ?_
    refine record_signed_apply.sound ?_
    unfold record_signed_apply.S
    intro i2 f2
    have s2 := hs.row f2 (.agg [.int .i64 r.index, pairW r.cntA r.cntB])
    revert s2
    generalize Heap.upd _ i2 _ = G2
    intro s2
    have hg := RowL.own (i := 6) s2 rfl
    obtain ⟨l0, l1, l2, l3⟩ := sg_ld (RowL.own (i := 0) s2 rfl)
    intro J47
    have bad : signB f r → J47 (.bool true) G2 := by
      intro hb
      rw [if_pos hb] at hQ
      simp -zeta only [J47, brB_true]
      exact hQ wo _ (s2.erase 0)
    have good : ¬ signB f r → J47 (.bool false) G2 := by
      intro hb
      rw [if_neg hb] at hQ
      simp -zeta only [J47, brB_false]
      refine wv_of l0 ?_
      refine wv_of l1 ?_
      refine wv_of (v := .ptr i1 [] 0) rfl ?_
      refine wv_of (v := .ptr i1 [7] 7) rfl ?_
      refine St.st_rem (i := 6) s2 rfl ho lv _ fun G40 s40 => ?_
      have o1 : ({ f.s with rem := r.index } : StM).ok := ⟨ho.side, ho.cap, ho.bo, ho.bp, ho.loc, hr.index, ho.ack, ho.atA, ho.atB, ho.sgnA, ho.sgnB, ho.heldA, ho.heldB, ho.ptsA, ho.ptsB, ho.sig, ho.failed, ho.closed⟩
      refine ⟨⟨(sg_ld (RowL.own (i := 0) s40 rfl)).2.1, trivial⟩, ?_⟩
      refine wv_of (v := .ptr i1 [] 0) rfl ?_
      refine wv_of (v := .ptr i1 [10] 11) rfl ?_
      refine St.st_sgn (s := { f.s with rem := r.index }) (i := 6) s40 rfl o1 lv _ _ fun G43 s43 => ?_
      have o2 : ({ f.s with rem := r.index, sgnA := r.cntA, sgnB := r.cntB } : StM).ok := ⟨ho.side, ho.cap, ho.bo, ho.bp, ho.loc, hr.index, ho.ack, ho.atA, ho.atB, hr.cntA, hr.cntB, ho.heldA, ho.heldB, ho.ptsA, ho.ptsB, ho.sig, ho.failed, ho.closed⟩
      refine wv_of (v := .ptr i1 [] 0) rfl ?_
      refine wv_of (v := .ptr i1 [12] 15) rfl ?_
      refine St.st_behind (s := { f.s with rem := r.index, sgnA := r.cntA, sgnB := r.cntB }) (i := 6) s43 rfl o2 lv _ fun G46 s46 => ?_
      exact hQ wo _ (s46.erase 0)
    refine wv_of (v := .ptr i1 [] 0) rfl ?_
    refine wv_of (v := .ptr i1 [7] 7) rfl ?_
    refine wv_of (St.ld_rem hg ho lv) ?_
    refine wv_of (v := .ptr i1 [] 0) rfl ?_
    refine wv_of (v := .ptr i1 [8] 8) rfl ?_
    refine wv_of (St.ld_ack hg ho lv) ?_
    rw [vbin_neq, wv_some, brB_ndec]
    refine ⟨fun h1 => bad (.inl h1), fun h1 => ?_⟩
    refine wv_of l0 ?_
    refine wv_of (v := .ptr i1 [] 0) rfl ?_
    refine wv_of (v := .ptr i1 [7] 7) rfl ?_
    refine wv_of (St.ld_rem hg ho lv) ?_
    rw [vbin_add, wv_some, vbin_neq, wv_some, brB_ndec]
    refine ⟨fun h2 => bad (.inr (.inl h2)), fun h2 => ?_⟩
    refine wv_of l3 ?_
    refine wv_of (v := .ptr i1 [] 0) rfl ?_
    refine wv_of (v := .ptr i1 [9] 9) rfl ?_
    refine wv_of (v := .ptr i1 [9, 1] 10) rfl ?_
    refine wv_of (St.ld_atB hg ho lv) ?_
    rw [vbin_neq, wv_some, brB_ndec]
    refine ⟨fun h3 => bad (.inr (.inr (.inl h3))), fun h3 => ?_⟩
    refine wv_of l2 ?_
    refine wv_of (v := .ptr i1 [] 0) rfl ?_
    refine wv_of (v := .ptr i1 [10] 11) rfl ?_
    refine wv_of (v := .ptr i1 [10, 0] 11) rfl ?_
    refine wv_of (St.ld_sgnA hg ho lv) ?_
    rw [vbin_lss, wv_some, brB_dec]
    refine ⟨fun h4 => bad (.inr (.inr (.inr (.inl h4)))), fun h4 => ?_⟩
    refine wv_of l2 ?_
    refine wv_of (v := .ptr i1 [] 0) rfl ?_
    refine wv_of (v := .ptr i1 [4] 4) rfl ?_
    refine wv_of (St.ld_ours hg ho lv) ?_
    refine wv_of (upd_len (OwnL.own (i := 3) s2 rfl).is) ?_
    rw [vbin_gtr, wv_some]
    by_cases h5 : (f.o.length : Nat) < r.cntA
    · rw [decide_eq_true (by omega)]; exact bad (.inr (.inr (.inr (.inr h5))))
    · rw [decide_eq_false (by omega)]
      exact good (by rintro (x | x | x | x | x); exact x h1; exact x h2; exact x h3; exact h4 x; exact h5 x)
  · rw [if_neg (by omega), if_neg (by omega)] at hQ
    rw [if_neg (by omega), if_neg (by omega), if_neg (by omega), if_neg (by omega), if_pos h]
    refine inv_record_failed_apply ?_
    refine record_failed_apply.sound ?_
    unfold record_failed_apply.S
    intro i2 f2
    have s2 := hs.row f2 (.agg [.int .i64 r.code])
    refine wv_of (v := .ptr i1 [] 0) rfl ?_
    refine wv_of (v := .ptr i1 [16] 113) rfl ?_
    refine wv_of (St.ld_failed (RowL.own (i := 6) s2 rfl) ho lv) ?_
    rw [vbin_eql, wv_some, brB_dec]
    refine ⟨fun h1 => ?_, fun h1 => ?_⟩
    · rw [if_pos h1] at hQ
      refine wv_of (fl_ld (RowL.own (i := 0) s2 rfl)) ?_
      refine wv_of (v := .ptr i1 [] 0) rfl ?_
      refine wv_of (v := .ptr i1 [16] 113) rfl ?_
      refine St.st_failed (i := 6) s2 rfl ho lv _ fun G10 s10 => ?_
      exact hQ wo _ (s10.erase 0)
    · rw [if_neg h1] at hQ
      exact hQ wo _ (s2.erase 0)

set_option maxHeartbeats 4000000 in
theorem record_Apply.use {f : StF} {r : RcM} {l : List UpdM} {v vo vp vh : AVal} (hS : StIn G f vo vp vh) (hr : r.ok) (hv : Leaf v) (hl : IsSl 36 G v (l.map UpdM.av)) (hok : ∀ u ∈ l, u.ok) (hlen : l.length ≤ 140737488351232) (hk : r.kind = 1 ∨ r.kind = 2 ∨ r.kind = 5) (hso : (applyK f r).1.s.ok)
    (hno : apOk f r l = false → ∀ G', Ch [] G [] G' → Q (.tuple [StM.zero.av .nilSlice .nilSlice .nilSlice, .int .i64 170]) G')
    (hQ : apOk f r l = true → ∀ wo wp wh G', Sp [] G [OwnL 34 wh (f.h.map SlotM.av), OwnL 36 wp ((applyK f r).1.p.map UpdM.av), OwnL 36 wo ((applyK f r).1.o.map UpdM.av)] G' → Q (.tuple [(applyK f r).1.s.av wo wp wh, .int .i64 0]) G') : ACalls P record_Apply.n [f.s.av vo vp vh, r.av v] G Q := by
  have ho := hS.ok
  have lv := hS.lv
  have hlo := hS.lo
  have hlp := hS.lp
  refine record_Apply.sound ?_
  unfold record_Apply.S
  rw [zSta]
  unfold apOk at hno hQ
  intro i1 f1
  have s1 := (Sp.nil G).row f1 (f.s.av vo vp vh)
  intro i3 f3
  have s3 := s1.row f3 (r.av v)
  intro i5 f5
  have s5 := s3.row f5 (StM.zero.av .nilSlice .nilSlice .nilSlice)
  revert s5
  generalize Heap.upd _ i5 _ = G6
  intro s5
  refine wv_of (Rc.ld (RowL.own (i := 1) s5 rfl) hr hv) ?_
  refine record_changed.use hr hv (hl.ch' s5.ch) hok hlen fun G9 c9 => ?_
  have s9 := s5.tmp c9
  have s9 : Sp [] G [RowL i5 (StM.zero.av .nilSlice .nilSlice .nilSlice), RowL i3 (r.av v), RowL i1 (f.s.av vo vp vh)] G9 := s9
  cases hval : validR r l with
  | false =>
    rw [hval, Bool.false_and] at hno
    refine wv_of nil_nil ?_
    rw [brB_true]
    refine wv_of (v := StM.zero.av .nilSlice .nilSlice .nilSlice) rfl ?_
    refine St.st (i := 0) s9 rfl StM.zero_ok lv0 StM.zero_ok lv0 fun G12 s12 => ?_
    refine wv_of (St.ld (RowL.own (i := 0) s12 rfl) StM.zero_ok lv0) ?_
    exact hno rfl _ s12.ch
  | true =>
  rw [hval, Bool.true_and] at hno hQ
  refine wv_of (nil_chg (kind_of (valR_spec hval).1)) ?_
  rw [brB_false]
  have hg := RowL.own (i := 2) s9 rfl
  refine wv_of (St.ld_ours hg ho lv) ?_
  refine wv_of (St.ld_peers hg ho lv) ?_
  refine wv_of (St.ld_shelf hg ho lv) ?_
  refine clone_upd.use (hS.o.mv s9.ch).isSl hS.oko hS.lo fun wo G18 t18 => ?_
  obtain ⟨F18, o18, c18⟩ := t18.out
  have s18 := s9.new o18 c18
  have hg := RowL.own (i := 3) s18 rfl
  refine ⟨⟨St.ld_shelf hg ho lv, St.ld_peers hg ho lv, trivial⟩, ?_⟩
  refine clone_upd.use (hS.p.mv s18.ch).isSl hS.okp hS.lp fun wp G20 t20 => ?_
  obtain ⟨F20, o20, c20⟩ := t20.out
  have s20 := s18.new o20 c20
  have hg := RowL.own (i := 4) s20 rfl
  refine ⟨⟨St.ld_shelf hg ho lv, trivial⟩, ?_⟩
  refine clone_slot.use (hS.h.mv s20.ch).isSl hS.okh (by have := hS.lh; omega) fun wh G22 t22 => ?_
  obtain ⟨F22, o22, c22⟩ := t22.out
  have s22 := s20.new o22 c22
  have lo := (OwnL.own (i := 2) s22 rfl).leaf
  have lp := (OwnL.own (i := 1) s22 rfl).leaf
  have lh := (OwnL.own (i := 0) s22 rfl).leaf
  refine St.st_ours (i := 5) s22 rfl ho lv lo fun G23 s23 => ?_
  refine St.st_peers (i := 5) s23 rfl ho ⟨lo, lv.2.1, lv.2.2⟩ lp fun G24 s24 => ?_
  refine St.st_shelf (i := 5) s24 rfl ho ⟨lo, lp, lv.2.2⟩ lh fun G25 s25 => ?_
  have s25 : Sp [] G [OwnL 34 wh (f.h.map SlotM.av), OwnL 36 wp (f.p.map UpdM.av), OwnL 36 wo (f.o.map UpdM.av), RowL i5 (StM.zero.av .nilSlice .nilSlice .nilSlice), RowL i3 (r.av v), RowL i1 (f.s.av wo wp wh)] G25 := s25
  refine chg_apply hr hv hk ho hS.oko hS.okp hS.lo hS.lp lh s25 fun wo' G27 s27 => ?_
  have lo' := (OwnL.own (i := 2) s27 rfl).leaf
  have lp' := (OwnL.own (i := 1) s27 rfl).leaf
  rw [vun_not, wv_some]
  cases hap : (applyK f r).2 with
  | false =>
    rw [hap] at hno
    rw [Bool.not_false, brB_true]
    refine wv_of (v := StM.zero.av .nilSlice .nilSlice .nilSlice) rfl ?_
    refine St.st (i := 3) s27 rfl StM.zero_ok lv0 StM.zero_ok lv0 fun G30 s30 => ?_
    refine wv_of (St.ld (RowL.own (i := 3) s30 rfl) StM.zero_ok lv0) ?_
    exact hno rfl _ s30.ch
  | true =>
    rw [hap] at hQ
    rw [Bool.not_true, brB_false]
    refine wv_of (St.ld (RowL.own (i := 5) s27 rfl) hso ⟨lo', lp', lh⟩) ?_
    refine St.st (i := 3) s27 rfl StM.zero_ok lv0 hso ⟨lo', lp', lh⟩ fun G33 s33 => ?_
    refine wv_of (St.ld (RowL.own (i := 3) s33 rfl) hso ⟨lo', lp', lh⟩) ?_
    exact hQ rfl wo' wp wh _ (((s33.erase 3).erase 3).erase 3)

end
end Go.Esc.M

/- Own work. Chapter 17: the head; RecordBytes. -/
set_option linter.unusedSimpArgs false
set_option linter.unusedVariables false
set_option maxRecDepth 20000
namespace Go.Esc.M
open Go Go.Esc

def r258 : RcM := { RcM.zero with kind := 5, code := 258 }
theorem r258_ok : r258.ok := ⟨i64_n 5 (by decide) (by decide), UpdM.zero_ok, i64_0, i64_0, i64_0, rfl, rfl, rfl, i64_n 258 (by decide) (by decide)⟩
theorem wr_258 : wrR r258 [] = ([5, 1, 2], 0) := by decide +kernel
theorem rd_258 : (readR [5, 1, 2, 7]).x = r258 ∧ (readR [5, 1, 2, 7]).l = [] ∧ (readR [5, 1, 2, 7]).n = 3 ∧ (readR [5, 1, 2, 7]).e = 0 := by decide +kernel
theorem rd_7 : (readR [7]).x = RcM.zero ∧ (readR [7]).l = [] ∧ (readR [7]).n = 0 ∧ (readR [7]).e = 170 := by decide +kernel
def sA : StM := { StM.zero with closed := -1 }
theorem sA_ok : sA.ok := ⟨i64_0, i64_0, i64_0, i64_0, i64_0, i64_0, i64_0, i64_0, i64_0, i64_0, i64_0, i64_0, i64_0, rfl, rfl, rfl, i64_0, i64_n (-1) (by decide) (by decide)⟩
def sB : StM := { sA with rem := 1, sgnA := 1, sgnB := 0, behind := true }
theorem sB_ok : sB.ok := ⟨i64_0, i64_0, i64_0, i64_0, i64_0, i64_n 1 (by decide) (by decide), i64_0, i64_0, i64_0, i64_n 1 (by decide) (by decide), i64_0, i64_0, i64_0, rfl, rfl, rfl, i64_0, i64_n (-1) (by decide) (by decide)⟩
def u7A : UpdM := ⟨1, 0, 7, h0, []⟩
theorem u7A_ok : u7A.ok := ⟨i64_n 1 (by decide) (by decide), i64_0, i64_n 7 (by decide) (by decide), rfl, by decide⟩
def rA : RcM := { RcM.zero with kind := 1, upd := u7A }
theorem rA_ok : rA.ok := ⟨i64_n 1 (by decide) (by decide), u7A_ok, i64_0, i64_0, i64_0, rfl, rfl, rfl, i64_0⟩
def rB (i : Int) : RcM := { RcM.zero with kind := 2, index := i, cntA := 1 }
theorem rB_ok {i : Int} (h : I64 i) : (rB i).ok := ⟨i64_n 2 (by decide) (by decide), UpdM.zero_ok, h, i64_n 1 (by decide) (by decide), i64_0, rfl, rfl, rfl, i64_0⟩
theorem ap_A : applyK ⟨sA, [], [], []⟩ rA = (⟨sA, [u7A], [], []⟩, true) := rfl
theorem ok_A : apOk ⟨sA, [], [], []⟩ rA [] = true := by decide +kernel
theorem ap_B : applyK ⟨sA, [u7A], [], []⟩ (rB 1) = (⟨sB, [u7A], [], []⟩, true) := rfl
theorem ok_B : apOk ⟨sA, [u7A], [], []⟩ (rB 1) [] = true := by decide +kernel
theorem ap_C : applyK ⟨sB, [u7A], [], []⟩ (rB 2) = (⟨sB, [u7A], [], []⟩, false) := rfl
theorem ok_C : apOk ⟨sB, [u7A], [], []⟩ (rB 2) [] = false := by decide +kernel

theorem readR_ok {b : List UInt8} (hb : b.length ≤ 9223372036854775807) : (readR b).x.ok ∧ (∀ u ∈ (readR b).l, u.ok) ∧ (readR b).l.length ≤ 140737488351232 := by
  have hz : ∀ k : Int, I64 k → (rk k).ok := fun k h => rk_ok h
  have i16 : ∀ n : Int, 0 ≤ n → n ≤ 255 → I64 n := fun n a b => i64_n n (by omega) (by omega)
  have hp : (parR b).x.ok ∧ (∀ u ∈ (parR b).l, u.ok) ∧ (parR b).l.length ≤ 140737488351232 := by
    have hs := s1_le b
    have hk := kOf_lt b
    have nl : ∀ u ∈ ([] : List UpdM), u.ok := fun u hu => by cases hu
    have n0 : ([] : List UpdM).length ≤ 140737488351232 := by simp
    unfold parR
    obtain ⟨S, hS⟩ : ∃ S, S = s1Of b := ⟨_, rfl⟩
    rw [← hS] at hs ⊢
    split
    · unfold par1
      split
      · rename_i u t hr
        have := readL_ok 1 (by omega) hr
        exact ⟨⟨i16 1 (by decide) (by decide), this u (by simp), i64_0, i64_0, i64_0, rfl, rfl, rfl, i64_0⟩, nl, n0⟩
      · exact ⟨hz 1 (i16 1 (by decide) (by decide)), nl, n0⟩
    split
    · exact ⟨⟨i16 2 (by decide) (by decide), UpdM.zero_ok, iOf_ok _, n2_i64 _, n2_i64 _, rfl, rfl, rfl, i64_0⟩, nl, n0⟩
    split
    · have l1 := takes_le S 8
      have l2 := takes_le (takes S 8).2 2
      have n1 := n2_lt (takes S 8).2
      unfold par3
      dsimp only
      split
      · split
        · rename_i l t hr
          obtain ⟨_, hll⟩ := readL_le _ hr
          exact ⟨⟨i16 3 (by decide) (by decide), UpdM.zero_ok, iOf_ok _, i64_0, i64_0, fill_tk _, rfl, rfl, i64_0⟩, readL_ok _ (by omega) hr, by show l.length ≤ _; omega⟩
        · exact ⟨⟨i16 3 (by decide) (by decide), UpdM.zero_ok, iOf_ok _, i64_0, i64_0, rfl, rfl, rfl, i64_0⟩, nl, n0⟩
      · exact ⟨⟨i16 3 (by decide) (by decide), UpdM.zero_ok, iOf_ok _, i64_0, i64_0, rfl, rfl, rfl, i64_0⟩, nl, n0⟩
    split
    · exact ⟨⟨i16 4 (by decide) (by decide), UpdM.zero_ok, iOf_ok _, i64_0, i64_0, rfl, fill_tk _, fill_tk _, i64_0⟩, nl, n0⟩
    split
    · exact ⟨⟨i16 5 (by decide) (by decide), UpdM.zero_ok, i64_0, i64_0, i64_0, rfl, rfl, rfl, n2_i64 _⟩, nl, n0⟩
    split
    · exact ⟨⟨i16 6 (by decide) (by decide), UpdM.zero_ok, iOf_ok _, i64_0, i64_0, rfl, rfl, rfl, i64_0⟩, nl, n0⟩
    · exact ⟨hz _ (i16 _ (by omega) (by omega)), nl, n0⟩
  unfold readR
  dsimp only
  split
  · exact hp
  · exact ⟨RcM.zero_ok, (show ∀ u ∈ ([] : List UpdM), u.ok from fun u hu => by cases hu), (show ([] : List UpdM).length ≤ 140737488351232 by simp)⟩

section
variable {F0 : List AId} {G0 G : Heap} {ps : List LP} {Q : AVal → Heap → Prop}

theorem Sps.app17 {ps : List LP} {Fs : List (List AId)} {G : Heap} (h : Sps ps Fs G) : ∀ {qs : List LP} {Gs : List (List AId)}, Sps qs Gs G → (∀ j ∈ Gs.flatten, j ∉ Fs.flatten) → Sps (qs ++ ps) (Gs ++ Fs) G
  | [], [], _, _ => h
  | q :: qs, E :: Gs, ⟨h1, h2, h3⟩, hd => by
    refine ⟨h1, fun j hj hm => ?_, Sps.app17 h h3 fun j hj => hd j (by simp only [List.flatten_cons, List.mem_append]; exact .inr hj)⟩
    have hm : j ∈ (Gs ++ Fs).flatten := hm
    rw [List.flatten_append, List.mem_append] at hm
    rcases hm with hm | hm
    · exact h2 j hj hm
    · exact hd j (by simp only [List.flatten_cons, List.mem_append]; exact .inl hj) hm
  | [], _ :: _, h, _ => h.elim
  | _ :: _, [], h, _ => h.elim
theorem sp_app17 {G' : Heap} {qs : List LP} (h : Sp F0 G0 ps G) (t : Sp [] G qs G') : Sp F0 G0 (qs ++ ps) G' := by
  obtain ⟨Fs, h1, h2⟩ := h
  obtain ⟨Gs, t1, t2⟩ := t
  refine ⟨Gs ++ Fs, Sps.app17 (h1.same fun j hj => t2.same (E := Fs.flatten) h1.rows (by simp) j hj) t1 fun j hj hm => ?_, h2.trans ?_⟩
  · rcases t2.row j hj with h' | h'
    · simp at h'
    · have := h1.rows j hm
      rw [h'] at this; cases this
  · have := t2.more (E := Fs.flatten)
    simpa using this
theorem t30 {x y z : AVal} : vextract (.tuple [x, y, z]) 0 = some x := rfl
theorem t31 {x y z : AVal} : vextract (.tuple [x, y, z]) 1 = some y := rfl
theorem t32 {x y z : AVal} : vextract (.tuple [x, y, z]) 2 = some z := rfl
theorem lists_in {s : StM} {o : List UpdM} {wo wp wh : AVal} (hs : s.ok) (ho : ∀ u ∈ o, u.ok) (lo : o.length ≤ 1000) (t : Sp F0 G0 ps G) {i j k : Nat} (hi : ps[i]? = some (OwnL 36 wo (o.map UpdM.av))) (hj : ps[j]? = some (OwnL 36 wp (([] : List UpdM).map UpdM.av))) (hk : ps[k]? = some (OwnL 34 wh (([] : List SlotM).map SlotM.av))) : StIn G ⟨s, o, [], []⟩ wo wp wh :=
  ⟨hs, Own.capSl (OwnL.own t hi), Own.capSl (OwnL.own t hj), Own.capSl (OwnL.own t hk), ho, (fun u hu => by cases hu), (fun u hu => by cases hu), by show o.length ≤ _; omega, by simp, by simp⟩

set_option maxHeartbeats 8000000 in
theorem escrowlaw17_head.use (hQ : ∀ G', Ch [] G [] G' → Q (.bool true) G') : ACalls P escrowlaw17_head.n [] G Q := by
  refine escrowlaw17_head.sound ?_
  unfold escrowlaw17_head.S
  have hnl : ∀ u ∈ ([] : List UpdM), u.ok := fun u hu => by cases hu
  have hn0 : ([] : List UpdM).length ≤ 140737488351232 := by simp
  have hnil : ∀ G' : Heap, IsSl 36 G' .nilSlice (([] : List UpdM).map UpdM.av) := fun _ => .inr ⟨rfl, rfl⟩
  refine wv_of (v := r258.av .nilSlice) rfl ?_
  refine record_Write.use (l := []) r258_ok Leaf.nil (hnil _) hnl hn0 fun G3 c3 => ?_
  have s3 := (Sp.nil G).tmp c3
  rw [wr_258]
  refine wv_of (tv0 _ _) ?_
  refine wv_of (tv1 _ _) ?_
  refine record_Read.use (by simp) fun w G7 t7 => ?_
  obtain ⟨x1, x2, x3, x4⟩ := rd_258
  rw [x1, x3, x4]
  have lw := (OwnL.own (i := 0) t7 rfl).leaf
  have s7 := s3.tmp t7.ch
  refine wv_of t30 ?_
  refine wv_of t31 ?_
  refine wv_of t32 ?_
  refine Rc.nw s7 r258_ok lw fun i11 G13 s13 => ?_
  refine record_Read.use (by simp) fun w2 G15 t15 => ?_
  obtain ⟨y1, y2, y3, y4⟩ := rd_7
  rw [y1, y3, y4]
  have lw2 := (OwnL.own (i := 0) t15 rfl).leaf
  have s15 := s13.tmp t15.ch
  refine wv_of t30 ?_
  refine wv_of t31 ?_
  refine wv_of t32 ?_
  refine Rc.nw s15 RcM.zero_ok lw2 fun i19 G21 s21 => ?_
  intro J74
  have go : J74 (.bool false) G21 := by
    simp -zeta only [J74, brB_false]
    refine wv_of (v := sA.av .nilSlice .nilSlice .nilSlice) rfl ?_
    refine wv_of (v := u7A.av) rfl ?_
    refine wv_of (v := rA.av .nilSlice) (bR1 u7A_ok) ?_
    have hA : StIn G21 ⟨sA, [], [], []⟩ .nilSlice .nilSlice .nilSlice := ⟨sA_ok, CapSl.nil, CapSl.nil, CapSl.nil, hnl, hnl, (fun u hu => by cases hu), by simp, by simp, by simp⟩
    refine record_Apply.use (f := ⟨sA, [], [], []⟩) (l := []) hA rA_ok Leaf.nil (hnil _) hnl hn0 (.inl rfl) (by rw [ap_A]; exact sA_ok) (fun h => by rw [ok_A] at h; cases h) (fun _ wo wp wh G35 t35 => ?_)
    rw [ap_A] at t35 ⊢
    have s35 := sp_app17 s21 t35
    refine wv_of (tv0 _ _) ?_
    refine wv_of (tv1 _ _) ?_
    have lo := (OwnL.own (i := 2) s35 rfl).leaf
    have lp := (OwnL.own (i := 1) s35 rfl).leaf
    have lh := (OwnL.own (i := 0) s35 rfl).leaf
    refine St.nw s35 sA_ok ⟨lo, lp, lh⟩ fun i38 G40 s40 => ?_
    have okA : ∀ u ∈ [u7A], u.ok := fun u hu => by rw [List.mem_singleton.1 hu]; exact u7A_ok
    have hg := RowL.own (i := 0) s40 rfl
    intro J73
    have go2 : J73 (.bool false) G40 := by
      simp -zeta only [J73, brB_false]
      refine wv_of (St.ld hg sA_ok ⟨lo, lp, lh⟩) ?_
      refine wv_of (v := pairW 1 0) rfl ?_
      refine wv_of (v := (rB 1).av .nilSlice) bR2 ?_
      have hB : StIn G40 ⟨sA, [u7A], [], []⟩ wo wp wh := lists_in sA_ok okA (by simp) s40 (i := 3) (j := 2) (k := 1) rfl rfl rfl
      refine record_Apply.use (f := ⟨sA, [u7A], [], []⟩) (l := []) hB (rB_ok (i64_n 1 (by decide) (by decide))) Leaf.nil (hnil _) hnl hn0 (.inr (.inl rfl)) (by rw [ap_B]; exact sB_ok) (fun h => by rw [ok_B] at h; cases h) (fun _ xo xp xh G53 t53 => ?_)
      rw [ap_B] at t53 ⊢
      have s53 := sp_app17 s40 t53
      refine wv_of (tv0 _ _) ?_
      refine wv_of (tv1 _ _) ?_
      have mo := (OwnL.own (i := 2) s53 rfl).leaf
      have mp := (OwnL.own (i := 1) s53 rfl).leaf
      have mh := (OwnL.own (i := 0) s53 rfl).leaf
      refine St.nw s53 sB_ok ⟨mo, mp, mh⟩ fun i56 G58 s58 => ?_
      refine wv_of (St.ld (RowL.own (i := 0) s58 rfl) sB_ok ⟨mo, mp, mh⟩) ?_
      refine wv_of (v := pairW 1 0) rfl ?_
      refine wv_of (v := (rB 2).av .nilSlice) bR2 ?_
      have hC : StIn G58 ⟨sB, [u7A], [], []⟩ xo xp xh := lists_in sB_ok okA (by simp) s58 (i := 3) (j := 2) (k := 1) rfl rfl rfl
      refine record_Apply.use (f := ⟨sB, [u7A], [], []⟩) (l := []) hC (rB_ok (i64_n 2 (by decide) (by decide))) Leaf.nil (hnil _) hnl hn0 (.inr (.inl rfl)) (by rw [ap_C]; exact sB_ok) (fun _ G63 c63 => ?_) (fun h => by rw [ok_C] at h; cases h)
      have s63 := s58.tmp c63
      refine wv_of (tv0 _ _) ?_
      refine wv_of (tv1 _ _) ?_
      have hg := RowL.own (i := 0) s63 rfl
      have ez : ∀ {t : TypeId} (n : Int), vbin T .eql t (.int .i64 n) (.int .i64 n) = some (.bool true) := fun n => ez0
      refine wv_of (ez 0) ?_
      rw [brB_true]
      refine wv_of (St.ld_rem hg sB_ok ⟨mo, mp, mh⟩) ?_
      refine wv_of (ez 1) ?_
      rw [brB_true]
      refine wv_of (St.ld_behind hg sB_ok ⟨mo, mp, mh⟩) ?_
      show brB (some (.bool true)) _ _
      rw [brB_true]
      refine wv_of (ez 170) ?_
      exact hQ _ s63.ch
    refine wv_of nz0 ?_
    rw [brB_false]
    refine wv_of (St.ld_ours hg sA_ok ⟨lo, lp, lh⟩) ?_
    refine wv_of (upd_len (l := [u7A]) (OwnL.own (i := 3) s40 rfl).is) ?_
    refine wv_of (v := .bool false) nz0 ?_
    rw [brB_false]
    refine wv_of (St.ld_closed hg sA_ok ⟨lo, lp, lh⟩) ?_
    refine wv_of (v := .bool false) nz0 ?_
    exact go2
  rw [vbin_sneq, wv_some, decide_eq_true rfl, Bool.not_true, brB_false]
  refine wv_of nz0 ?_
  rw [brB_false]
  refine wv_of (Rc.ld_code (RowL.own (i := 1) s21 rfl) r258_ok lw) ?_
  refine wv_of (v := .bool false) nz0 ?_
  rw [brB_false]
  refine wv_of nz0 ?_
  rw [brB_false]
  refine wv_of nz0 ?_
  rw [brB_false]
  refine wv_of nz0 ?_
  exact go

theorem wt_PairB {G : Heap} {R d : Nat} {v : AVal} {m : Nat} (h : wt T G R (d + 2) t_api_Counts v m) : ∃ a b : Int, v = pairW a b ∧ I64 a ∧ I64 b := by
  obtain ⟨cs, ms, rfl, hf, rfl⟩ := wt_struct T_api_Counts rfl h
  obtain ⟨c1, cs, m1, ms, rfl, rfl, h1, hf⟩ := wfs_cons hf
  obtain ⟨c2, cs, m2, ms, rfl, rfl, h2, hf⟩ := wfs_cons hf
  obtain ⟨rfl, rfl⟩ := wfs_nil hf
  obtain ⟨a, rfl, w1, _⟩ := wt_int T_int rfl h1
  obtain ⟨b, rfl, w2, _⟩ := wt_int T_int rfl h2
  exact ⟨a, b, rfl, i64_wf.1 w1, i64_wf.1 w2⟩
theorem wt_Record {G : Heap} {R d : Nat} {v : AVal} {m : Nat} (h : wt T G R (d + 5) t_api_Record v m) : ∃ (r : RcM) (w : AVal) (l : List UpdM), v = r.av w ∧ r.ok ∧ RoSl 36 G w (l.map UpdM.av) ∧ (∀ u ∈ l, u.ok) ∧ l.length * 72 ≤ R := by
  obtain ⟨cs, ms, rfl, hf, rfl⟩ := wt_struct T_api_Record rfl h
  obtain ⟨c1, cs, m1, ms, rfl, rfl, h1, hf⟩ := wfs_cons hf
  obtain ⟨c2, cs, m2, ms, rfl, rfl, h2, hf⟩ := wfs_cons hf
  obtain ⟨c3, cs, m3, ms, rfl, rfl, h3, hf⟩ := wfs_cons hf
  obtain ⟨c4, cs, m4, ms, rfl, rfl, h4, hf⟩ := wfs_cons hf
  obtain ⟨c5, cs, m5, ms, rfl, rfl, h5, hf⟩ := wfs_cons hf
  obtain ⟨c6, cs, m6, ms, rfl, rfl, h6, hf⟩ := wfs_cons hf
  obtain ⟨c7, cs, m7, ms, rfl, rfl, h7, hf⟩ := wfs_cons hf
  obtain ⟨c8, cs, m8, ms, rfl, rfl, h8, hf⟩ := wfs_cons hf
  obtain ⟨c9, cs, m9, ms, rfl, rfl, h9, hf⟩ := wfs_cons hf
  obtain ⟨rfl, rfl⟩ := wfs_nil hf
  obtain ⟨a1, rfl, w1, _⟩ := wt_int T_int rfl h1
  obtain ⟨u, rfl, hu, _⟩ := wt_Upd h2
  obtain ⟨l, hro, hok, hR⟩ := wt_Upds h3
  obtain ⟨a4, rfl, w4, _⟩ := wt_int T_int64 rfl h4
  obtain ⟨a5, b5, rfl, w5, w5'⟩ := wt_PairB h5
  obtain ⟨a6, rfl, w6, _⟩ := wt_hash T_api_Hash rfl T_uint8 rfl h6
  obtain ⟨a7, rfl, w7, _⟩ := wt_hash T_api_Hash rfl T_uint8 rfl h7
  obtain ⟨a8, rfl, w8, _⟩ := wt_hash T_api_Hash rfl T_uint8 rfl h8
  obtain ⟨a9, rfl, w9, _⟩ := wt_int T_int rfl h9
  exact ⟨⟨a1, u, a4, a5, b5, a6, a7, a8, a9⟩, c3, l, rfl, ⟨i64_wf.1 w1, hu, i64_wf.1 w4, w5, w5', w6, w7, w8, i64_wf.1 w9⟩, hro, hok, hR⟩

end
end Go.Esc.M

/- Own work. Chapter 17: what is written is read. -/
set_option linter.unusedSimpArgs false
set_option linter.unusedVariables false
set_option maxRecDepth 20000
namespace Go.Esc.M
open Go Go.Esc

theorem readL_bytes : ∀ {l : List UpdM} {t : List UInt8}, (∀ u ∈ l, u.ok) → (∀ u ∈ l, validU u = true) → readL l.length (bytesL l ++ t) = some (l, t)
  | [], t, _, _ => by simp [readL, bytesL]
  | u :: l, t, ho, hv => by
    have e : bytesL (u :: l) ++ t = bytesU u ++ (bytesL l ++ t) := by simp [bytesL]
    rw [List.length_cons, readL, e, readU_bytes (ho u (by simp)) (hv u (by simp))]
    rw [if_pos rfl]
    simp only [Int.toNat_natCast, List.drop_left]
    rw [readL_bytes (fun x hx => ho x (by simp [hx])) (fun x hx => hv x (by simp [hx]))]
    rfl
theorem par_bytes {r : RcM} {l : List UpdM} {t : List UInt8} (hr : r.ok) (hok : ∀ u ∈ l, u.ok) (hv : validR r l = true) : parR (bytesR r l ++ t) = ⟨r, l, (t, 0), true⟩ := by
  obtain ⟨hk16, hvk, hnk, hlk⟩ := valR_spec hv
  have hk := kind_of hk16
  have e1 : takes (bytesR r l ++ t, 0) 1 = (be 1 r.kind.toNat, (bytesK r l ++ t, 0)) := by
    unfold bytesR
    rw [List.append_assoc]
    exact takes_app (by rw [length_be]; rfl)
  have ek : kOf (bytesR r l ++ t) = r.kind.toNat := by unfold kOf; rw [e1, num_be_lt (by omega)]
  have es : s1Of (bytesR r l ++ t) = (bytesK r l ++ t, 0) := by unfold s1Of; rw [e1]
  unfold parR
  rw [ek, es]
  have hx := hr.index
  have t8 : ∀ z : List UInt8, takes (be 8 (bits64 r.index) ++ z, 0) 8 = (be 8 (bits64 r.index), (z, 0)) := fun z => takes_app (by rw [length_be]; rfl)
  have t2 : ∀ (n : Nat) (z : List UInt8), takes (be 2 n ++ z, 0) 2 = (be 2 n, (z, 0)) := fun n z => takes_app (by rw [length_be]; rfl)
  have t32 : ∀ {h : List UInt8} (z : List UInt8), h.length = 32 → takes (h ++ z, 0) 32 = (h, (z, 0)) := fun z hh => takes_app (by rw [hh]; rfl)
  have ix : iOf (be 8 (bits64 r.index)) = r.index := wrap_be hx
  unfold namedK at hnk
  unfold listK at hlk
  unfold validK at hvk
  unfold bytesK
  rcases hk with h | h | h | h | h | h
  · rw [if_pos h] at hnk hvk
    rw [if_neg (by omega)] at hlk
    rw [if_pos (by omega), if_pos h]
    have := readL_bytes (l := [r.upd]) (t := t) (fun u hu => by rw [List.mem_singleton.1 hu]; exact hr.upd) (fun u hu => by rw [List.mem_singleton.1 hu]; exact hvk)
    have e2 : readL 1 (bytesU r.upd ++ t) = some ([r.upd], t) := by simpa [bytesL] using this
    unfold par1
    dsimp only
    rw [e2]
    show (⟨{ rk 1 with upd := r.upd }, [], (t, 0), true⟩ : ParM) = _
    rw [show ({ rk 1 with upd := r.upd } : RcM) = r from hnk, hlk]
  · rw [if_neg (by omega), if_pos h] at hnk hvk
    rw [if_neg (by omega)] at hlk
    simp only [Bool.and_eq_true, isCnt, decide_eq_true_eq] at hvk
    rw [if_neg (by omega), if_pos (by omega), if_neg (by omega), if_pos h]
    unfold par2
    rw [List.append_assoc, List.append_assoc, t8, t2, t2]
    show (⟨{ rk 2 with index := iOf (be 8 (bits64 r.index)), cntA := ((num (be 2 r.cntA.toNat) : Nat) : Int), cntB := ((num (be 2 r.cntB.toNat) : Nat) : Int) }, [], (t, 0), true⟩ : ParM) = _
    rw [ix, num_be2 (by omega), num_be2 (by omega), show ((r.cntA.toNat : Nat) : Int) = r.cntA by omega, show ((r.cntB.toNat : Nat) : Int) = r.cntB by omega]
    rw [show ({ rk 2 with index := r.index, cntA := r.cntA, cntB := r.cntB } : RcM) = r from hnk, hlk]
  · rw [if_neg (by omega), if_neg (by omega), if_pos h] at hnk hvk
    simp only [Bool.and_eq_true, decide_eq_true_eq, List.all_eq_true] at hvk
    obtain ⟨_, h5, ha⟩ := hvk
    rw [if_neg (by omega), if_neg (by omega), if_pos (by omega), if_neg (by omega), if_neg (by omega), if_pos h]
    unfold par3
    rw [List.append_assoc, List.append_assoc, List.append_assoc]
    dsimp only
    rw [t8, t2]
    dsimp only
    rw [num_be2 (by omega), if_pos ⟨rfl, h5⟩, readL_bytes hok ha]
    dsimp only
    rw [t32 _ hr.sig]
    show (⟨{ rk 3 with index := iOf (be 8 (bits64 r.index)), sig := fill 32 r.sig }, l, (t, 0), true⟩ : ParM) = _
    rw [ix, fill_full hr.sig, show ({ rk 3 with index := r.index, sig := r.sig } : RcM) = r from hnk]
  · rw [if_neg (by omega), if_neg (by omega), if_neg (by omega), if_pos h] at hnk
    rw [if_neg (by omega)] at hlk
    rw [if_neg (by omega), if_neg (by omega), if_neg (by omega), if_pos (by omega), if_neg (by omega), if_neg (by omega), if_neg (by omega), if_pos h]
    unfold par4
    rw [List.append_assoc, List.append_assoc, t8]
    dsimp only
    rw [t32 _ hr.secret]
    dsimp only
    rw [t32 _ hr.point]
    show (⟨{ rk 4 with index := iOf (be 8 (bits64 r.index)), secret := fill 32 r.secret, point := fill 32 r.point }, [], (t, 0), true⟩ : ParM) = _
    rw [ix, fill_full hr.secret, fill_full hr.point, show ({ rk 4 with index := r.index, secret := r.secret, point := r.point } : RcM) = r from hnk, hlk]
  · rw [if_neg (by omega), if_neg (by omega), if_neg (by omega), if_neg (by omega), if_pos h] at hnk
    rw [if_neg (by omega)] at hlk
    rw [if_neg (by omega), if_neg (by omega), if_neg (by omega), if_pos h] at hvk
    simp only [Bool.and_eq_true, decide_eq_true_eq] at hvk
    rw [if_neg (by omega), if_neg (by omega), if_neg (by omega), if_neg (by omega), if_pos (by omega), if_neg (by omega), if_neg (by omega), if_neg (by omega), if_neg (by omega), if_pos h]
    unfold par5
    rw [t2]
    show (⟨{ rk 5 with code := ((num (be 2 r.code.toNat) : Nat) : Int) }, [], (t, 0), true⟩ : ParM) = _
    rw [num_be2 (by omega), show ((r.code.toNat : Nat) : Int) = r.code by omega, show ({ rk 5 with code := r.code } : RcM) = r from hnk, hlk]
  · rw [if_neg (by omega), if_neg (by omega), if_neg (by omega), if_neg (by omega), if_neg (by omega)] at hnk
    rw [if_neg (by omega)] at hlk
    rw [if_neg (by omega), if_neg (by omega), if_neg (by omega), if_neg (by omega), if_neg (by omega), if_pos (by omega), if_neg (by omega), if_neg (by omega), if_neg (by omega), if_neg (by omega), if_neg (by omega)]
    unfold par6
    rw [t8]
    show (⟨{ rk 6 with index := iOf (be 8 (bits64 r.index)) }, [], (t, 0), true⟩ : ParM) = _
    rw [ix, show ({ rk 6 with index := r.index } : RcM) = r from hnk, hlk]
/-- What is written is read. -/
theorem read_bytes {r : RcM} {l : List UpdM} {t : List UInt8} (hr : r.ok) (hok : ∀ u ∈ l, u.ok) (hv : validR r l = true) : readR (bytesR r l ++ t) = ⟨r, l, (((bytesR r l).length : Nat) : Int), 0⟩ := by
  unfold readR
  rw [par_bytes hr hok hv]
  dsimp only
  rw [if_pos ⟨rfl, rfl, hv⟩, List.length_append, Nat.add_sub_cancel]

end Go.Esc.M

/- Own work. Chapter 17: readApart (for RecordApart). -/
set_option linter.unusedSimpArgs false
set_option linter.unusedVariables false
set_option maxRecDepth 20000
namespace Go.Esc.M
open Go Go.Esc

section
variable {F0 : List AId} {G0 G : Heap} {ps : List LP} {Q : AVal → Heap → Prop}

theorem escrowlaw17_sameList.use {v w : AVal} {a b : List UpdM} (ha : IsSl 36 G v (a.map UpdM.av)) (hb : IsSl 36 G w (b.map UpdM.av)) (oa : ∀ m ∈ a, m.ok) (ob : ∀ m ∈ b, m.ok) (la : a.length ≤ 140737488351232) (lb : b.length ≤ 140737488351232)
    (hQ : Q (.bool (decide (a = b))) G) : ACalls P escrowlaw17_sameList.n [v, w] G Q := by
  refine escrowlaw17_sameList.sound ?_
  unfold escrowlaw17_sameList.S
  refine wv_of (upd_len ha) ?_
  refine wv_of (upd_len hb) ?_
  rw [vbin_neq, wv_some, brB_ndec]
  refine ⟨fun h1 => ?_, fun h1 => ?_⟩
  · rw [decide_eq_false (fun h => h1 (by rw [h]))] at hQ
    exact hQ
  have hlen : a.length = b.length := by omega
  intro R hR
  have loop : ∀ (n j : Nat), a.length - j = n → j ≤ a.length → a.take j = b.take j → R [v, w, .int .i64 (j : Int)] G := by
    intro n
    induction n with
    | zero =>
      intro j hn hj he
      refine hR _ _ _ _ ?_
      refine wv_of (upd_len ha) ?_
      rw [vbin_lss, wv_some, brB_dec]
      refine ⟨fun h => absurd h (by omega), fun _ => ?_⟩
      have hjl : j = a.length := by omega
      rw [hjl, List.take_length, hlen, List.take_length] at he
      rw [decide_eq_true he] at hQ
      exact hQ
    | succ n ih =>
      intro j hn hj he
      obtain ⟨x, hx⟩ : ∃ x, a[j]? = some x := ⟨_, List.getElem?_eq_getElem (by omega)⟩
      obtain ⟨y, hy⟩ : ∃ y, b[j]? = some y := ⟨_, List.getElem?_eq_getElem (by omega)⟩
      refine hR _ _ _ _ ?_
      refine wv_of (upd_len ha) ?_
      rw [vbin_lss, wv_some, brB_dec]
      refine ⟨fun _ => ?_, fun h => absurd (by omega) h⟩
      obtain ⟨p, p1, p2⟩ := upd_at ha hx
      obtain ⟨q, q1, q2⟩ := upd_at hb hy
      refine wv_of p1 ?_
      refine wv_of p2 ?_
      refine wv_of q1 ?_
      refine wv_of q2 ?_
      rw [vbin_uneq (oa x (List.mem_of_getElem? hx)) (ob y (List.mem_of_getElem? hy)), wv_some, brB_ndec]
      refine ⟨fun h2 => ?_, fun h2 => ?_⟩
      · rw [decide_eq_false (fun h => h2 (by rw [h, hy] at hx; exact (Option.some.inj hx).symm))] at hQ
        exact hQ
      · rw [vbin_add, i64_in (by omega) (by omega), wv_some]
        refine ih (j + 1) (by omega) (by omega) ?_
        rw [List.take_add_one, List.take_add_one, he, hx, hy, h2]
  exact loop a.length 0 rfl (by omega) rfl

end
end Go.Esc.M

/- Own work. Chapter 17: what is read is written as it was read; a cut record is none. -/
set_option linter.unusedSimpArgs false
set_option linter.unusedVariables false
set_option maxRecDepth 20000
namespace Go.Esc.M
open Go Go.Esc

theorem takes_cut {s : List UInt8 × Int} {n : Nat} (h : (takes s (n : Int)).2.2 = 0) : s.1 = (takes s (n : Int)).1 ++ (takes s (n : Int)).2.1 := by
  unfold takes at h ⊢
  by_cases h0 : s.2 = 0
  · rw [if_pos h0] at h ⊢
    by_cases h1 : (s.1.length : Int) < (n : Int)
    · rw [if_pos h1] at h; exact absurd h (by simp)
    · rw [if_neg h1]
      simp
  · rw [if_neg h0] at h
    exact absurd h h0
theorem takes_be {s : List UInt8 × Int} {n : Nat} (h : (takes s (n : Int)).2.2 = 0) : s.1 = be n (num (takes s (n : Int)).1) ++ (takes s (n : Int)).2.1 := by
  rw [be_num (takes_fin h).2.1]
  exact takes_cut h
theorem takes_i8 {s : List UInt8 × Int} (h : (takes s 8).2.2 = 0) : s.1 = be 8 (bits64 (iOf (takes s 8).1)) ++ (takes s 8).2.1 := by
  have hl : (takes s 8).1.length = 8 := (takes_fin (n := 8) h).2.1
  have : num (takes s 8).1 < 2 ^ 64 := num_lt_of (k := 8) (Nat.le_of_eq hl)
  unfold iOf
  rw [bits64_wrap this]
  exact takes_be (n := 8) h
theorem takes_h32 {s : List UInt8 × Int} (h : (takes s 32).2.2 = 0) : s.1 = fill 32 (takes s 32).1 ++ (takes s 32).2.1 := by
  have e : fill 32 (takes s 32).1 = (takes s 32).1 := fill_full (takes_fin (n := 32) h).2.1
  rw [e]
  exact takes_cut (n := 32) h
theorem takes_b2 {s : List UInt8 × Int} (h : (takes s 2).2.2 = 0) : s.1 = be 2 (num (takes s 2).1) ++ (takes s 2).2.1 := takes_be (n := 2) h
theorem readL_cut : ∀ (n : Nat) {b : List UInt8} {l : List UpdM} {t : List UInt8}, b.length ≤ 9223372036854775807 → readL n b = some (l, t) → b = bytesL l ++ t
  | 0, b, l, t, hb, h => by
    rw [readL] at h
    injection h with h
    injection h with h1 h2
    subst h1 h2
    simp [bytesL]
  | n + 1, b, l, t, hb, h => by
    rw [readL] at h
    split at h
    · rename_i h0
      cases hr : readL n (b.drop (readU b).2.1.toNat) with
      | none => rw [hr] at h; cases h
      | some x =>
        obtain ⟨l', t'⟩ := x
        rw [hr] at h
        injection h with h
        injection h with h1 h2
        simp only at h1 h2
        subst h1 h2
        have ih := readL_cut n (by rw [List.length_drop]; omega) hr
        rcases readU_cases hb with ⟨e, he, hx⟩ | ⟨u, k, hx, _, _, _, hk, hbk⟩
        · rw [hx] at h0; simp only at h0; omega
        · rw [hx] at ih ⊢
          simp only [Int.toNat_natCast] at ih
          show b = bytesL (u :: l') ++ t'
          have : bytesL (u :: l') ++ t' = bytesU u ++ (bytesL l' ++ t') := by simp [bytesL]
          rw [this, ← ih, hbk, List.take_append_drop]
    · cases h
theorem be1_takes {b : List UInt8} (h : (s1Of b).2 = 0) : b = be 1 (kOf b) ++ (s1Of b).1 := takes_be (s := (b, 0)) (n := 1) h
/-- What is read stands there as it would be written. -/
theorem par_cut {b : List UInt8} (hb : b.length ≤ 9223372036854775807) (h1 : (parR b).ok = true) (h2 : (parR b).st.2 = 0) (h3 : validR (parR b).x (parR b).l = true) : b = bytesR (parR b).x (parR b).l ++ (parR b).st.1 := by
  have hs := s1_le b
  obtain ⟨S, hS⟩ : ∃ S, S = s1Of b := ⟨_, rfl⟩
  have hsf := @be1_takes b
  have hk16 := (valR_spec h3).1
  unfold parR at h1 h2 h3 hk16 ⊢
  rw [← hS] at h1 h2 h3 hk16 hs hsf ⊢
  unfold bytesR bytesK
  by_cases e1 : kOf b = 1
  · rw [if_pos e1] at h1 h2 ⊢
    have hS0 : S.2 = 0 := by
      by_cases hn : b = []
      · rw [hn] at e1; exact absurd e1 (by decide)
      · rw [hS]; unfold s1Of
        rw [takes_ok (by cases b with | nil => exact absurd rfl hn | cons x b => simp only [List.length_cons]; omega)]
    cases hr : readL 1 S.1 with
    | none =>
      rw [show par1 S = ⟨rk 1, [], S, false⟩ by unfold par1; rw [hr]] at h1
      cases h1
    | some y =>
      obtain ⟨l, t⟩ := y
      obtain ⟨_, hll⟩ := readL_le 1 hr
      obtain ⟨u, rfl⟩ : ∃ u, l = [u] := by
        match l, hll with
        | [u], _ => exact ⟨u, rfl⟩
      have hl2 := readL_cut 1 (by omega) hr
      rw [show par1 S = ⟨{ rk 1 with upd := u }, [], (t, 0), true⟩ by unfold par1; rw [hr]]
      rw [if_pos (show (rk 1).kind = 1 from rfl)]
      have := hsf hS0
      simp only [bytesL, List.map_cons, List.map_nil, List.flatten_cons, List.flatten_nil, List.append_nil] at hl2
      show b = be 1 1 ++ bytesU u ++ t
      rw [List.append_assoc, ← hl2]
      rw [e1] at this
      exact this
  rw [if_neg e1] at h1 h2 h3 hk16 ⊢
  by_cases e2 : kOf b = 2
  · rw [if_pos e2] at h2 ⊢
    obtain ⟨a1, _, _⟩ := takes_fin (n := 2) h2
    obtain ⟨b1, _, _⟩ := takes_fin (n := 2) a1
    obtain ⟨c1, _, _⟩ := takes_fin (n := 8) b1
    have a3 := takes_b2 h2
    have b3 := takes_b2 a1
    have c3 := takes_i8 b1
    have := hsf c1
    rw [if_neg (show ¬ (par2 S).x.kind = 1 from (by decide : ¬ (2 : Int) = 1)), if_pos (show (par2 S).x.kind = 2 from rfl)]
    show b = be 1 2 ++ (be 8 (bits64 (iOf (takes S 8).1)) ++ (be 2 ((num (takes (takes S 8).2 2).1 : Nat) : Int).toNat ++ be 2 ((num (takes (takes (takes S 8).2 2).2 2).1 : Nat) : Int).toNat)) ++ (takes (takes (takes S 8).2 2).2 2).2.1
    rw [Int.toNat_natCast, Int.toNat_natCast, List.append_assoc, List.append_assoc, List.append_assoc, ← a3, ← b3, ← c3]
    rw [e2] at this
    exact this
  rw [if_neg e2] at h1 h2 h3 hk16 ⊢
  by_cases e3 : kOf b = 3
  · rw [if_pos e3] at h1 h2 ⊢
    by_cases hc : (takes (takes S 8).2 2).2.2 = 0 ∧ num (takes (takes S 8).2 2).1 ≤ 512
    · cases hr : readL (num (takes (takes S 8).2 2).1) (takes (takes S 8).2 2).2.1 with
      | none =>
        rw [show par3 S = ⟨{ rk 3 with index := iOf (takes S 8).1 }, [], (takes (takes S 8).2 2).2, false⟩ by unfold par3; dsimp only; rw [if_pos hc, hr]] at h1
        cases h1
      | some y =>
        obtain ⟨l, t⟩ := y
        rw [show par3 S = ⟨{ rk 3 with index := iOf (takes S 8).1, sig := fill 32 (takes (t, 0) 32).1 }, l, (takes (t, 0) 32).2, true⟩ by unfold par3; dsimp only; rw [if_pos hc, hr]] at h2 ⊢
        have a3 := takes_h32 h2
        obtain ⟨b1, _, b3⟩ := takes_fin (n := 2) hc.1
        obtain ⟨c1, _, c3⟩ := takes_fin (n := 8) b1
        have := hsf c1
        have b3 : (takes (takes S 8).2 2).2.1.length + 2 = (takes S 8).2.1.length := b3
        have c3 : (takes S 8).2.1.length + 8 = S.1.length := c3
        have hl2 := readL_cut _ (by omega) hr
        obtain ⟨_, hll⟩ := readL_le _ hr
        have b4 := takes_b2 hc.1
        have c4 := takes_i8 b1
        rw [if_neg (show ¬ (rk 3).kind = 1 from (by decide : ¬ (3 : Int) = 1)), if_neg (show ¬ (rk 3).kind = 2 from (by decide : ¬ (3 : Int) = 2)), if_pos (show (rk 3).kind = 3 from rfl)]
        show b = be 1 3 ++ (be 8 (bits64 (iOf (takes S 8).1)) ++ (be 2 l.length ++ (bytesL l ++ fill 32 (takes (t, 0) 32).1))) ++ (takes (t, 0) 32).2.1
        have a3 : t = fill 32 (takes (t, 0) 32).1 ++ (takes (t, 0) 32).2.1 := a3
        rw [List.append_assoc, List.append_assoc, List.append_assoc, List.append_assoc, ← a3, ← hl2, hll, ← b4, ← c4]
        rw [e3] at this
        exact this
    · rw [show par3 S = ⟨{ rk 3 with index := iOf (takes S 8).1 }, [], (takes (takes S 8).2 2).2, false⟩ by unfold par3; dsimp only; rw [if_neg hc]] at h1
      cases h1
  rw [if_neg e3] at h1 h2 h3 hk16 ⊢
  by_cases e4 : kOf b = 4
  · rw [if_pos e4] at h2 ⊢
    obtain ⟨a1, _, _⟩ := takes_fin (n := 32) h2
    obtain ⟨b1, _, _⟩ := takes_fin (n := 32) a1
    obtain ⟨c1, _, _⟩ := takes_fin (n := 8) b1
    have a3 := takes_h32 h2
    have b3 := takes_h32 a1
    have c3 := takes_i8 b1
    have := hsf c1
    rw [if_neg (show ¬ (par4 S).x.kind = 1 from (by decide : ¬ (4 : Int) = 1)), if_neg (show ¬ (par4 S).x.kind = 2 from (by decide : ¬ (4 : Int) = 2)), if_neg (show ¬ (par4 S).x.kind = 3 from (by decide : ¬ (4 : Int) = 3)), if_pos (show (par4 S).x.kind = 4 from rfl)]
    show b = be 1 4 ++ (be 8 (bits64 (iOf (takes S 8).1)) ++ (fill 32 (takes (takes S 8).2 32).1 ++ fill 32 (takes (takes (takes S 8).2 32).2 32).1)) ++ (takes (takes (takes S 8).2 32).2 32).2.1
    rw [List.append_assoc, List.append_assoc, List.append_assoc, ← a3, ← b3, ← c3]
    rw [e4] at this
    exact this
  rw [if_neg e4] at h1 h2 h3 hk16 ⊢
  by_cases e5 : kOf b = 5
  · rw [if_pos e5] at h2 ⊢
    obtain ⟨c1, _, _⟩ := takes_fin (n := 2) h2
    have c3 := takes_b2 h2
    have := hsf c1
    rw [if_neg (show ¬ (par5 S).x.kind = 1 from (by decide : ¬ (5 : Int) = 1)), if_neg (show ¬ (par5 S).x.kind = 2 from (by decide : ¬ (5 : Int) = 2)), if_neg (show ¬ (par5 S).x.kind = 3 from (by decide : ¬ (5 : Int) = 3)), if_neg (show ¬ (par5 S).x.kind = 4 from (by decide : ¬ (5 : Int) = 4)), if_pos (show (par5 S).x.kind = 5 from rfl)]
    show b = be 1 5 ++ be 2 ((num (takes S 2).1 : Nat) : Int).toNat ++ (takes S 2).2.1
    rw [Int.toNat_natCast, List.append_assoc, ← c3]
    rw [e5] at this
    exact this
  rw [if_neg e5] at h1 h2 h3 hk16 ⊢
  by_cases e6 : kOf b = 6
  · rw [if_pos e6] at h2 ⊢
    obtain ⟨c1, _, _⟩ := takes_fin (n := 8) h2
    have c3 := takes_i8 h2
    have := hsf c1
    rw [if_neg (show ¬ (par6 S).x.kind = 1 from (by decide : ¬ (6 : Int) = 1)), if_neg (show ¬ (par6 S).x.kind = 2 from (by decide : ¬ (6 : Int) = 2)), if_neg (show ¬ (par6 S).x.kind = 3 from (by decide : ¬ (6 : Int) = 3)), if_neg (show ¬ (par6 S).x.kind = 4 from (by decide : ¬ (6 : Int) = 4)), if_neg (show ¬ (par6 S).x.kind = 5 from (by decide : ¬ (6 : Int) = 5))]
    show b = be 1 6 ++ be 8 (bits64 (iOf (takes S 8).1)) ++ (takes S 8).2.1
    rw [List.append_assoc, ← c3]
    rw [e6] at this
    exact this
  rw [if_neg e6] at hk16
  have hk : 1 ≤ ((kOf b : Nat) : Int) ∧ ((kOf b : Nat) : Int) ≤ 6 := hk16
  omega

/-- Read of any bytes: none, or what stands at their head. -/
theorem readR_cases {b : List UInt8} (hb : b.length ≤ 9223372036854775807) : readR b = ⟨RcM.zero, [], 0, 170⟩ ∨
    ∃ (r : RcM) (l : List UpdM) (t : List UInt8), readR b = ⟨r, l, (((bytesR r l).length : Nat) : Int), 0⟩ ∧ validR r l = true ∧ b = bytesR r l ++ t := by
  unfold readR
  dsimp only
  by_cases h : (parR b).ok = true ∧ (parR b).st.2 = 0 ∧ validR (parR b).x (parR b).l = true
  · rw [if_pos h]
    refine .inr ⟨_, _, (parR b).st.1, ?_, h.2.2, par_cut hb h.1 h.2.1 h.2.2⟩
    rw [par_len hb h.1 h.2.1 h.2.2]
  · rw [if_neg h]
    exact .inl rfl
/-- Of fewer bytes the record that they cut is none. -/
theorem read_part {r : RcM} {l : List UpdM} {k : Nat} (hr : r.ok) (hok : ∀ u ∈ l, u.ok) (hv : validR r l = true) (hb : (bytesR r l).length ≤ 140737488351232) (hk : k < (bytesR r l).length) : readR ((bytesR r l).take k) = ⟨RcM.zero, [], 0, 170⟩ := by
  have hl : ((bytesR r l).take k).length = k := by rw [List.length_take]; omega
  rcases readR_cases (b := (bytesR r l).take k) (by omega) with h | ⟨r', l', t, h, hv', hs⟩
  · exact h
  · obtain ⟨o1, o2, _⟩ := readR_ok (b := (bytesR r l).take k) (by omega)
    have o1 : r'.ok := by rw [h] at o1; exact o1
    have o2 : ∀ u ∈ l', u.ok := by rw [h] at o2; exact o2
    have e : bytesR r l = bytesR r' l' ++ (t ++ (bytesR r l).drop k) := by rw [← List.append_assoc, ← hs, List.take_append_drop]
    have a := read_bytes (t := t ++ (bytesR r l).drop k) o1 o2 hv'
    rw [← e] at a
    have c := read_bytes (t := []) hr hok hv
    rw [List.append_nil, a] at c
    injection c with _ _ c3 _
    have : (bytesR r' l').length ≤ k := by rw [← hl, hs, List.length_append]; omega
    omega

end Go.Esc.M
