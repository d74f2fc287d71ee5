/- Own work. Chapter 16: MsgUpdates. -/
import Derived.Test.YthaockalmnlceaaLMq
import Derived.Test.YthaockalmnlceaaLAr
set_option linter.unusedSimpArgs false
set_option linter.unusedVariables false
namespace Go.Esc.M
open Go Go.Esc

theorem u8_or {T : Tbl} {t : TypeId} (a b : UInt8) : vbin T .or t (u8v a) (u8v b) = some (u8v (a ||| b)) := by
  have hb : IntKind.u8.bits = 8 := rfl
  have h1 : a.toNat < 2 ^ 8 := a.toNat_lt
  have h2 : b.toNat < 2 ^ 8 := b.toNat_lt
  have e8 : ∀ x : Nat, (BitVec.ofInt 8 (x : Int)).toNat = x % 2 ^ 8 := fun x => by rw [BitVec.ofInt_natCast, BitVec.toNat_ofNat]
  unfold u8v
  rw [vbin_or, wrapU8, hb, BitVec.toNat_or, e8, e8, Nat.mod_eq_of_lt h1, Nat.mod_eq_of_lt h2, UInt8.toNat_or]
  have : a.toNat ||| b.toNat < 2 ^ 8 := Nat.or_lt_two_pow h1 h2
  congr 2
  omega
theorem or_one_ne (a : UInt8) : a ||| 1 ≠ 0 := by
  intro h
  have := congrArg UInt8.toNat h
  rw [UInt8.toNat_or] at this
  have h2 : (a.toNat ||| 1) % 2 = 1 := by
    rw [Nat.or_mod_two_eq_one]
    exact .inr rfl
  have e1 : (1 : UInt8).toNat = 1 := rfl
  have e0 : (0 : UInt8).toNat = 0 := rfl
  rw [e1, e0] at this
  rw [this] at h2
  cases h2

theorem validM_upd {u : UpdM} (hk : 1 ≤ u.kind ∧ u.kind ≤ 3) : validM (msgOf u) = validU u ∧ bytesM (msgOf u) = bytesU u := by
  have hik : isK (msgOf u) := by
    unfold isK
    show u.kind = 1 ∨ u.kind = 2 ∨ u.kind = 3
    omega
  constructor
  · unfold validM
    rw [if_pos hik]
    show (validU u && decide (msgOf u = msgOf u)) = _
    rw [decide_eq_true rfl, Bool.and_true]
  · unfold bytesM
    rw [if_pos hik]
    rfl
theorem validM_other {m : MsgM} (hk : 1 ≤ m.kind ∧ m.kind ≤ 3) (hne : m ≠ msgOf (updOf m)) : validM m = false := by
  have hik : isK m := by unfold isK; omega
  unfold validM
  rw [if_pos hik, decide_eq_false hne, Bool.and_false]
theorem validM_kinds {m : MsgM} (hv : validM m = true) : 1 ≤ m.kind ∧ m.kind ≤ 7 := by
  by_cases hk : isK m
  · unfold isK at hk; omega
  · obtain ⟨hnm, _, _⟩ := validM_named hv
    obtain ⟨h1, h2⟩ := named_kind hnm hk
    omega

set_option maxRecDepth 20000 in
set_option maxHeartbeats 2000000 in
theorem law_MsgUpdates {G : Heap} {u n h : AVal} {m1 m2 m3 : Nat} (h1 : wt T G reachBytes 4 t_api_Update u m1) (h2 : wt T G reachBytes 4 t_int64 n m2) (h3 : wt T G reachBytes 4 t_api_Hash h m3) :
    ACalls P escrowlaw16_MsgUpdates.n [u, n, h] G fun v _ => v = .bool true := by
  obtain ⟨u, rfl, hu, _, _⟩ := wt_Upd h1
  obtain ⟨n, rfl, hnw, _⟩ := wt_int T_int64 rfl h2
  obtain ⟨hs, rfl, hhl, _⟩ := wt_hash T_api_Hash rfl T_uint8 rfl h3
  have hnI := i64_wf.1 hnw
  refine escrowlaw16_MsgUpdates.sound ?_
  unfold escrowlaw16_MsgUpdates.S
  rw [zMsg, zUpd]
  intro i1 f1
  have s1 := (Sp.nil G).row f1 u.av
  intro i3 f3
  have s3 := s1.row f3 (.agg (hs.map u8v))
  refine escrowlaw16_head.use fun G6 c6 => ?_
  have s6 := s3.tmp c6
  rw [vun_not, wv_some, Bool.not_true, brB_false]
  refine wv_of (upd_load (i := 1) s6 rfl hu).2.2.2.2.2 ?_
  refine msg_Of.use hu fun G10 c10 => ?_
  have s10 := s6.tmp c10
  intro i11 f11
  have s11 := s10.row f11 MsgM.zero.av
  have hmo := msgOf_ok hu
  refine msg_store (i := 0) s11 rfl MsgM.zero_ok hmo fun G13 s13 => ?_
  refine wv_of (msg_load (i := 0) s13 rfl hmo).2.2.2.2.2.2.2.2 ?_
  refine msg_Update.use hmo fun G16 c16 => ?_
  have s16 := s13.tmp c16
  rw [ub0, wv_some, ub1, wv_some]
  have hvo := updM_ok hmo
  intro i19 f19
  have s19 := s16.row f19 UpdM.zero.av
  refine upd_store (i := 0) s19 rfl UpdM.zero_ok hvo fun G21 s21 => ?_
  have s21 : Sp [] G [RowL i19 (updM (msgOf u)).1.av, RowL i11 (msgOf u).av, RowL i3 (.agg (hs.map u8v)), RowL i1 u.av] G21 := s21
  intro J131
  by_cases hk : 1 ≤ u.kind ∧ u.kind ≤ 3
  · have hupd : updM (msgOf u) = (u, true) := by
      unfold updM isUpd
      show (bif decide (1 ≤ u.kind) && decide (u.kind ≤ 3) then (updOf (msgOf u), true) else (UpdM.zero, false)) = _
      rw [decide_eq_true hk.1, decide_eq_true hk.2]
      rfl
    rw [hupd] at s21
    have go : J131 (.bool false) G21 := by
      simp -zeta only [J131, brB_false]
      rw [hupd]
      refine wv_of (msg_load (i := 1) s21 rfl hmo).2.2.2.2.2.2.2.2 ?_
      refine msg_Write.use hmo fun G50 c50 => ?_
      have s50 := s21.tmp c50
      rw [vext0, wv_some, vext1, wv_some]
      refine wv_of (upd_load (i := 3) s50 rfl hu).2.2.2.2.2 ?_
      refine update_Write.use hu fun G55 c55 => ?_
      have s55 := s50.tmp c55
      rw [vext0, wv_some, vext1, wv_some]
      obtain ⟨hv1, hv2⟩ := validM_upd hk
      intro J130
      have h130 : ∀ G69, Sp [] G [RowL i19 u.av, RowL i11 (msgOf u).av, RowL i3 (.agg (hs.map u8v)), RowL i1 u.av] G69 → J130 (.bool false) G69 := by
        intro G69 s69
        simp -zeta only [J130, brB_false]
        refine wv_of (by rw [vbin_eql]) ?_
        intro J129
        have h129 : ∀ n' : Int, n' ≠ 0 → I64 n' → J129 (.int .i64 n') G69 := by
          intro n' hn' hnI'
          simp -zeta only [J129]
          have ad0 : viaddr T t_api_Hash (.ptr i3 [] 0) (.int .i64 0) = some (.ptr i3 [0] (0 * 1)) := addr_hash (j := 0) (by decide)
          refine wv_of ad0 ?_
          have hg3 := RowL.own (i := 2) s69 rfl
          have hl0 : 0 < hs.length := by omega
          refine wv_of (load_byte (hs := hs) (j := 0) hl0 hg3) ?_
          refine wv_of (u8_or hs[0] 1) ?_
          refine wv_of ad0 ?_
          refine wg_of (store_byte (hs := hs) (j := 0) hl0 hg3) ?_
          obtain ⟨h', hh'⟩ : ∃ h', h' = hs.set 0 (hs[0] ||| 1) := ⟨_, rfl⟩
          have hl' : h'.length = 32 := by rw [hh']; simp [hhl]
          have hne' : h' ≠ h0 := by
            intro e
            have h5 : h'[0]? = some (hs[0] ||| 1) := by rw [hh', List.getElem?_set_self hl0]
            rw [e] at h5
            have h6 : h0[0]? = some (0 : UInt8) := rfl
            rw [h6] at h5
            injection h5 with h5
            exact or_one_ne _ h5.symm
          rw [← hh']
          have s80 := (Sp.setRow (j := 2) s69 rfl (.agg (h'.map u8v))).erase 0
          have s80 : Sp [] G [RowL i11 (msgOf u).av, RowL i3 (.agg (h'.map u8v)), RowL i1 u.av] (G69.upd i3 (.own (.agg (h'.map u8v)))) := s80
          intro R hR
          have loop : ∀ (k j : Nat) G', 3 - j = k → j ≤ 3 → Sp [] G [RowL i11 (msgOf u).av, RowL i3 (.agg (h'.map u8v)), RowL i1 u.av] G' → R [.int .i64 n', .ptr i1 [] 0, .ptr i3 [] 0, .ptr i11 [] 0, .int .i64 (j : Int)] G' := by
            intro k
            induction k with
            | zero =>
              intro j G' hj hj3 s
              refine hR _ _ _ _ _ _ ?_
              rw [vbin_lss, wv_some, decide_eq_false (by omega), brB_false]
              trivial
            | succ k ih =>
              intro j G' hj hj3 s
              refine hR _ _ _ _ _ _ ?_
              rw [vbin_lss, wv_some, decide_eq_true (by omega), brB_true]
              refine wv_of (msg_load (i := 0) s rfl hmo).2.2.2.2.2.2.2.2 ?_
              intro i90 f90
              have s90 := s.row f90 MsgM.zero.av
              refine msg_store (i := 0) s90 rfl MsgM.zero_ok hmo fun G92 s92 => ?_
              have s92 : Sp [] G [RowL i90 (msgOf u).av, RowL i11 (msgOf u).av, RowL i3 (.agg (h'.map u8v)), RowL i1 u.av] G92 := s92
              intro J125
              have h125 : ∀ (m : MsgM) G', m.ok → updOf m = u → validM m = false → Sp [] G [RowL i90 m.av, RowL i11 (msgOf u).av, RowL i3 (.agg (h'.map u8v)), RowL i1 u.av] G' → J125 G' := by
                intro m G' hm hmu hmv s
                simp -zeta only [J125]
                refine wv_of (msg_load (i := 0) s rfl hm).2.2.2.2.2.2.2.2 ?_
                refine msg_Update.use hm fun G106 c106 => ?_
                have s106 := s.tmp c106
                have hupm : updM m = (u, true) := by
                  have hkm : u.kind = m.kind := by rw [← hmu]; rfl
                  unfold updM isUpd
                  rw [← hkm, decide_eq_true hk.1, decide_eq_true hk.2, hmu]
                  rfl
                rw [hupm, ub0, wv_some, ub1, wv_some]
                intro i109 f109
                have s109 := s106.row f109 UpdM.zero.av
                refine upd_store (i := 0) s109 rfl UpdM.zero_ok hu fun G111 s111 => ?_
                refine wv_of (msg_load (i := 1) s111 rfl hm).2.2.2.2.2.2.2.2 ?_
                refine msg_Write.use hm fun G114 c114 => ?_
                have s114 := s111.tmp c114
                rw [writeM_no hmv, vext0, wv_some, vext1, wv_some, vun_not, wv_some, Bool.not_true, brB_false]
                refine wv_of (upd_load (i := 0) s114 rfl hu).2.2.2.2.2 ?_
                refine wv_of (upd_load (i := 4) s114 rfl hu).2.2.2.2.2 ?_
                rw [vbin_uneq hu hu, wv_some, decide_eq_true rfl, Bool.not_true, brB_false, nz0, wv_some, brB_false, vbin_sneq, wv_some, decide_eq_true rfl, Bool.not_true, brB_false]
                rw [vbin_add, wv_some, i64_in (by omega) (by omega)]
                exact ih (j + 1) _ (by omega) (by omega) ((s114.erase 0).erase 0)
              rw [vbin_eql, wv_some, brB_dec]
              refine ⟨fun e => ?_, fun e0 => ?_⟩
              · refine msg_index n' s92 (i := 0) rfl fun G94 s94 => ?_
                refine h125 _ _ ⟨hu.kind, hu.id, hu.amount, hnI', i64_0, hu.hash, rfl, hu.note⟩ rfl (validM_other hk fun e => ?_) s94
                have := congrArg MsgM.index e
                exact hn' this
              rw [vbin_eql, wv_some, brB_dec]
              refine ⟨fun e => ?_, fun e1 => ?_⟩
              · refine msg_next n' s92 (i := 0) rfl fun G94 s94 => ?_
                refine h125 _ _ ⟨hu.kind, hu.id, hu.amount, i64_0, hnI', hu.hash, rfl, hu.note⟩ rfl (validM_other hk fun e => ?_) s94
                have := congrArg MsgM.next e
                exact hn' this
              rw [vbin_eql, wv_some, brB_dec]
              refine ⟨fun e => ?_, fun e2 => by omega⟩
              refine wv_of (load_hash hl' (RowL.own (i := 2) s92 rfl)) ?_
              refine msg_secret hl' hmo s92 (i := 0) rfl fun G94 s94 => ?_
              refine h125 _ _ ⟨hu.kind, hu.id, hu.amount, i64_0, i64_0, hu.hash, hl', hu.note⟩ rfl (validM_other hk fun e => ?_) s94
              have := congrArg MsgM.secret e
              exact hne' this
          exact loop 3 0 _ rfl (by omega) s80
        rw [brB_dec]
        refine ⟨fun _ => h129 1 (by decide) ⟨by decide, by decide⟩, fun hn0 => h129 n hn0 hnI⟩
      rw [vun_not, wv_some, Bool.not_true, brB_false]
      refine wv_of (upd_load (i := 0) s55 rfl hu).2.2.2.2.2 ?_
      refine wv_of (upd_load (i := 3) s55 rfl hu).2.2.2.2.2 ?_
      rw [vbin_uneq hu hu, wv_some, decide_eq_true rfl, Bool.not_true, brB_false, vbin_eql, wv_some, vbin_eql, wv_some]
      have hw1 : (writeM (msgOf u)).1 = (writeR u).1 := by
        unfold writeM writeR
        rw [hv1, hv2]
        cases validU u <;> rfl
      have hw2 : decide ((writeM (msgOf u)).2 = 0) = validU u := by
        unfold writeM
        rw [hv1]
        cases validU u <;> rfl
      have hw3 : decide ((writeR u).2 = 0) = validU u := by
        unfold writeR
        cases validU u <;> rfl
      rw [hw1, hw2, hw3, vbin_bneq T_bool rfl, wv_some, beq_self_eq_true, Bool.not_true, brB_false, vbin_sneq, wv_some, decide_eq_true rfl, Bool.not_true, brB_false]
      refine wv_of (v := .bool (validU u)) (by first | rfl | rw [vbin_eql, hw2]) ?_
      refine wv_of (upd_load (i := 3) s55 rfl hu).2.2.2.2.2 ?_
      refine update_Valid.use hu fun G69 c69 => ?_
      rw [vbin_bneq T_bool rfl, wv_some, beq_self_eq_true, Bool.not_true]
      exact h130 _ (s55.tmp c69)
    refine wv_of (upd_load (i := 3) s21 rfl hu).1 ?_
    rw [vbin_lss, wv_some, decide_eq_false (by omega), brB_false]
    refine wv_of (upd_load (i := 3) s21 rfl hu).1 ?_
    rw [vbin_gtr, wv_some, decide_eq_false (by omega)]
    exact go
  · have hupd : updM (msgOf u) = (UpdM.zero, false) := by
      unfold updM isUpd
      show (bif decide (1 ≤ u.kind) && decide (u.kind ≤ 3) then (updOf (msgOf u), true) else (UpdM.zero, false)) = _
      have : (decide (1 ≤ u.kind) && decide (u.kind ≤ 3)) = false := by
        rw [Bool.and_eq_false_iff, decide_eq_false_iff_not, decide_eq_false_iff_not]
        omega
      rw [this]
      rfl
    rw [hupd] at s21
    have go : J131 (.bool true) G21 := by
      simp -zeta only [J131, brB_true]
      rw [hupd]
      refine wv_of (msg_load (i := 1) s21 rfl hmo).2.2.2.2.2.2.2.2 ?_
      refine msg_Write.use hmo fun G30 c30 => ?_
      have s30 := s21.tmp c30
      rw [vext0, wv_some, vext1, wv_some, vun_not, wv_some, Bool.not_false, brB_true]
      refine wv_of (upd_load (i := 0) s30 rfl UpdM.zero_ok).2.2.2.2.2 ?_
      refine wv_of build_none ?_
      rw [vbin_ueql UpdM.zero_ok UpdM.zero_ok, wv_some, decide_eq_true rfl, brB_true, vbin_eql, wv_some, vbin_seql, wv_some]
      have hke : ((msgOf u).kind) = u.kind := rfl
      cases hv : validM (msgOf u) with
      | true =>
        have hk7 := validM_kinds hv
        rw [hke] at hk7
        have hne := (bytesM_kind hmo hv).1
        rw [writeM_ok hv]
        dsimp only
        rw [decide_eq_false (show ¬ (0 : Int) = 160 by decide), decide_eq_false hne, vbin_beql T_bool rfl, wv_some, beq_self_eq_true, brB_true]
        refine wv_of (upd_load (i := 3) s30 rfl hu).1 ?_
        rw [vbin_geq, wv_some, decide_eq_true (by omega), brB_true]
        refine wv_of (upd_load (i := 3) s30 rfl hu).1 ?_
        rw [vbin_leq, wv_some, decide_eq_true (by omega), brB_true]
        trivial
      | false =>
        rw [writeM_no hv]
        rw [decide_eq_true rfl, decide_eq_true rfl, vbin_beql T_bool rfl, wv_some, beq_self_eq_true, brB_true]
        refine wv_of (upd_load (i := 3) s30 rfl hu).1 ?_
        rw [vbin_geq, wv_some, brB_dec]
        refine ⟨fun _ => ?_, fun _ => by first | rw [wv_some] | rw [ez0, wv_some]⟩
        refine wv_of (upd_load (i := 3) s30 rfl hu).1 ?_
        rw [vbin_leq, wv_some, brB_dec]
        exact ⟨fun _ => trivial, fun _ => by first | rw [wv_some] | rw [ez0, wv_some]⟩
    refine wv_of (upd_load (i := 3) s21 rfl hu).1 ?_
    rw [vbin_lss, wv_some, brB_dec]
    refine ⟨fun _ => go, fun h1 => ?_⟩
    refine wv_of (upd_load (i := 3) s21 rfl hu).1 ?_
    rw [vbin_gtr, wv_some, decide_eq_true (by omega)]
    exact go

end Go.Esc.M
