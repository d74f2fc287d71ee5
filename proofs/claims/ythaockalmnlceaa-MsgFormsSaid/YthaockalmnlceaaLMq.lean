/- Own work. Chapter 16: no message's bytes begin another's; MsgBack. -/
import Derived.Test.YthaockalmnlceaaLMp
set_option linter.unusedSimpArgs false
set_option linter.unusedVariables false
namespace Go.Esc.M
open Go Go.Esc

theorem bytesM_len {m : MsgM} (h : m.ok) (hv : validM m = true) : (bytesM m).length ≤ 73 ∧ 0 < (bytesM m).length := by
  by_cases hk : isK m
  · obtain ⟨hu, _⟩ := valid_upd hk hv
    have ho := updOf_ok h
    have e : bytesM m = bytesU (updOf m) := by unfold bytesM; rw [if_pos hk]
    rw [e, length_tail ho hu]
    obtain ⟨_, _, hc⟩ := valid_spec hu
    have hh := ho.hash
    unfold tailU
    rcases hc with hc | hc | hc
    · rw [if_pos hc.1]; simp [length_be, hh]
    · rw [if_neg (by omega), if_pos hc.1]; simp [hh]
    · rw [if_neg (by omega), if_neg (by omega)]; simp [length_be]; omega
  · unfold bytesM restM
    rw [if_neg hk]
    have h1 := h.hash
    have h2 := h.secret
    split
    · simp [length_be, h1]
    split
    · simp [length_be, h1, h2]
    split
    · simp [length_be, h2]
    · simp [length_be]

theorem bytesM_prefix {m m' : MsgM} {r : List UInt8} (h : m.ok) (hv : validM m = true) (h' : m'.ok) (hv' : validM m' = true) (he : bytesM m' ++ r = bytesM m) : r = [] := by
  have hk := (bytesM_kind h hv).2
  have hk' := (bytesM_kind h' hv').2
  obtain ⟨_, hp'⟩ := bytesM_len h' hv'
  have hkk : m.kind = m'.kind := by
    rw [← hk, ← hk', ← he]
    congr 2
    rw [slice, slice, List.drop_zero, List.drop_zero, List.take_append_of_le_length (by omega)]
  by_cases hik : isK m
  · have hik' : isK m' := by unfold isK at hik ⊢; omega
    obtain ⟨h1, _⟩ := valid_upd hik hv
    obtain ⟨h1', _⟩ := valid_upd hik' hv'
    unfold bytesM at he
    rw [if_pos hik, if_pos hik'] at he
    have r1 := readU_bytes (updOf_ok h') h1' r
    have r2 := readU_bytes (updOf_ok h) h1 []
    rw [List.append_nil, ← he, r1] at r2
    injection r2 with _ r2
    injection r2 with r2 _
    have hl := congrArg List.length he
    rw [List.length_append] at hl
    have : r.length = 0 := by rw [List.length_append] at r2; omega
    exact List.length_eq_zero_iff.1 this
  · have hik' : ¬ isK m' := by unfold isK at hik ⊢; omega
    have h1 := h.hash
    have h2 := h.secret
    have h3 := h'.hash
    have h4 := h'.secret
    have hl := congrArg List.length he
    rw [List.length_append] at hl
    unfold bytesM restM at hl
    rw [if_neg hik, if_neg hik', ← hkk] at hl
    have : r.length = 0 := by
      split at hl
      · simp [length_be, h1, h3] at hl; simpa using hl
      split at hl
      · simp [length_be, h1, h2, h3, h4] at hl; simpa using hl
      split at hl
      · simp [length_be, h2, h4] at hl; simpa using hl
      · simp [length_be] at hl; simpa using hl
    exact List.length_eq_zero_iff.1 this

theorem readMS_bytes {m : MsgM} (h : m.ok) (hv : validM m = true) : readMS (bytesM m) (m, 0) := .inl ⟨h, hv, rfl, rfl⟩
theorem readMS_take {m : MsgM} (h : m.ok) (hv : validM m = true) {k : Nat} (hk : k < (bytesM m).length) : readMS ((bytesM m).take k) (MsgM.zero, 160) := by
  refine .inr ⟨fun m' h' hv' he => ?_, rfl⟩
  have := bytesM_prefix (r := (bytesM m).drop k) h hv h' hv' (by rw [← he, List.take_append_drop])
  have hl := congrArg List.length this
  rw [List.length_drop, List.length_nil] at hl
  omega
theorem readMS_more {m : MsgM} (h : m.ok) (hv : validM m = true) {r : List UInt8} (hr : r ≠ []) : readMS (bytesM m ++ r) (MsgM.zero, 160) :=
  .inr ⟨fun m' h' hv' he => hr (bytesM_prefix h' hv' h hv he), rfl⟩

theorem writeM_ok {m : MsgM} (hv : validM m = true) : writeM m = (bytesM m, 0) := by unfold writeM; rw [hv]; rfl
theorem writeM_no {m : MsgM} (hv : validM m = false) : writeM m = ([], 160) := by unfold writeM; rw [hv]; rfl

set_option maxRecDepth 20000 in
set_option maxHeartbeats 2000000 in
theorem law_MsgBack {G : Heap} {m a r b : AVal} {m1 m2 m3 m4 : Nat} (h1 : wt T G reachBytes 4 t_api_Message m m1) (h2 : wt T G reachBytes 4 t_int a m2) (h3 : wt T G reachBytes 4 t_string r m3) (h4 : wt T G reachBytes 4 t_string b m4) :
    ACalls P escrowlaw16_MsgBack.n [m, a, r, b] G fun v _ => v = .bool true := by
  obtain ⟨m, rfl, hm⟩ := wt_Msg h1
  obtain ⟨a, rfl, haw, _⟩ := wt_int T_int rfl h2
  obtain ⟨r, rfl, hrR, _, _⟩ := wt_str T_string rfl h3
  obtain ⟨b, rfl, _, hbl, _⟩ := wt_str T_string rfl h4
  have haI := i64_wf.1 haw
  have hrR : r.length ≤ 140737488351232 := hrR
  unfold maxLen at hbl
  refine escrowlaw16_MsgBack.sound ?_
  unfold escrowlaw16_MsgBack.S
  rw [zMsg]
  intro i1 f1
  have s1 := (Sp.nil G).row f1 m.av
  refine escrowlaw16_head.use fun G4 c4 => ?_
  have s4 := s1.tmp c4
  rw [vun_not, wv_some, Bool.not_true, brB_false]
  refine wv_of (msg_load (i := 0) s4 rfl hm).2.2.2.2.2.2.2.2 ?_
  refine msg_Write.use hm fun G8 c8 => ?_
  have s8 := s4.tmp c8
  rw [vext0, wv_some, vext1, wv_some]
  refine wv_of (by rw [vbin_eql]) ?_
  intro J91
  have h91 : ∀ G' ps, Sp [] G ps G' → J91 G' := by
    intro G67 ps s67
    simp -zeta only [J91]
    refine msg_Read.use' hbl fun x G69 hx c69 => ?_
    have s69 := s67.tmp c69
    have hxo := readMS_ok hx
    rw [mi0, wv_some, mi1, wv_some]
    intro i72 f72
    have s72 := s69.row f72 MsgM.zero.av
    refine msg_store (i := 0) s72 rfl MsgM.zero_ok hxo fun G74 s74 => ?_
    rcases hx with ⟨x1, x2, x3, x4⟩ | ⟨_, rfl⟩
    · rw [x4, nz0, wv_some, brB_false]
      refine wv_of (msg_load (i := 0) s74 rfl hxo).2.2.2.2.2.2.2.2 ?_
      refine msg_Write.use hxo fun G84 c84 => ?_
      rw [writeM_ok x2, vext0, wv_some, vext1, wv_some, ez0, wv_some, brB_true, ← x3, vbin_seql, wv_some, decide_eq_true rfl]
    · dsimp only at s74 ⊢
      rw [vbin_neq, wv_some, decide_eq_false (by decide), Bool.not_false, brB_true, ez0, wv_some, brB_true]
      refine wv_of (msg_load (i := 0) s74 rfl MsgM.zero_ok).2.2.2.2.2.2.2.2 ?_
      refine wv_of (v := MsgM.zero.av) rfl ?_
      rw [vbin_meql MsgM.zero_ok MsgM.zero_ok, wv_some, decide_eq_true rfl]
  cases hv : validM m with
  | false =>
    rw [writeM_no hv]
    rw [decide_eq_false (by decide), brB_false, nz0, wv_some, brB_false, vbin_sneq, wv_some, decide_eq_true rfl, Bool.not_true, brB_false]
    exact h91 _ _ s8
  | true =>
    have hR := readMS_bytes hm hv
    have hT := fun k => readMS_take (k := k) hm hv
    have hM := readMS_more (r := 120 :: r) hm hv (by simp)
    obtain ⟨hl73, hl0⟩ := bytesM_len hm hv
    rw [writeM_ok hv]
    obtain ⟨s, hs⟩ : ∃ s, s = bytesM m := ⟨_, rfl⟩
    rw [← hs] at hR hT hM hl73 hl0 ⊢
    have hne : s ≠ [] := fun h => by rw [h] at hl0; simp at hl0
    rw [decide_eq_true rfl, brB_true]
    refine msg_Read.use' (b := s) (by omega) fun x G13 hx c13 => ?_
    have s13 := s8.tmp c13
    rw [readMS_only hx hR, mi0, wv_some, mi1, wv_some]
    intro i16 f16
    have s16 := s13.row f16 MsgM.zero.av
    refine msg_store (i := 0) s16 rfl MsgM.zero_ok hm fun G18 s18 => ?_
    intro J62
    have h62 : J62 (.bool false) G18 := by
      simp -zeta only [J62, brB_false]
      show wv (some (.int .i64 (s.length : Nat))) _
      obtain ⟨k, hkl, hk1, hk2⟩ := abs_mod haI hl0 (by omega)
      rw [wv_some]
      refine wv_of (vbin_rem _ _ _ _ _ (by omega)) ?_
      refine wv_of (v := .bool (decide (a.tmod (s.length : Nat) < 0))) (by rw [vbin_lss]) ?_
      intro J61
      have h61 : J61 (.int .i64 (k : Int)) G18 := by
        simp -zeta only [J61]
        refine wv_of (str_take (by omega) (by omega)) ?_
        rw [Int.toNat_natCast]
        refine msg_Read.use' (b := s.take k) (by rw [List.length_take]; omega) fun x G36 hx c36 => ?_
        have s36 := s18.tmp c36
        rw [readMS_only hx (hT k hkl), mi0, wv_some, mi1, wv_some]
        intro i39 f39
        have s39 := s36.row f39 MsgM.zero.av
        refine msg_store (i := 0) s39 rfl MsgM.zero_ok MsgM.zero_ok fun G41 s41 => ?_
        rw [vbin_sadd _ _ (by simp; omega), wv_some, vbin_sadd _ _ (by simp; omega), wv_some]
        rw [show s ++ [120] ++ r = s ++ 120 :: r by simp]
        refine msg_Read.use' (b := s ++ 120 :: r) (by simp; omega) fun x G45 hx c45 => ?_
        have s45 := s41.tmp c45
        rw [readMS_only hx hM, mi0, wv_some, mi1, wv_some]
        intro i48 f48
        have s48 := s45.row f48 MsgM.zero.av
        refine msg_store (i := 0) s48 rfl MsgM.zero_ok MsgM.zero_ok fun G50 s50 => ?_
        rw [nz0, wv_some, brB_false, wv_some, brB_false]
        refine wv_of (msg_load (i := 1) s50 rfl MsgM.zero_ok).2.2.2.2.2.2.2.2 ?_
        refine wv_of (v := MsgM.zero.av) rfl ?_
        rw [vbin_mneq MsgM.zero_ok MsgM.zero_ok, wv_some, decide_eq_true rfl, Bool.not_true, brB_false]
        refine wv_of (msg_load (i := 0) s50 rfl MsgM.zero_ok).2.2.2.2.2.2.2.2 ?_
        refine wv_of (v := MsgM.zero.av) rfl ?_
        rw [vbin_mneq MsgM.zero_ok MsgM.zero_ok, wv_some, decide_eq_true rfl, Bool.not_true, brB_false]
        exact h91 _ _ s50
      rw [brB_dec]
      refine ⟨fun h => ?_, fun h => ?_⟩
      · rw [vun_neg, wv_some, hk1 h]
        exact h61
      · rw [hk2 h]
        exact h61
    rw [nz0, wv_some, brB_false]
    refine wv_of (msg_load (i := 0) s18 rfl hm).2.2.2.2.2.2.2.2 ?_
    refine wv_of (msg_load (i := 1) s18 rfl hm).2.2.2.2.2.2.2.2 ?_
    rw [vbin_mneq hm hm, wv_some, decide_eq_true rfl, Bool.not_true, brB_false, vbin_seql, wv_some, decide_eq_false hne, brB_false]
    show wv (some (.int .i64 (s.length : Nat))) _
    rw [wv_some, vbin_gtr, wv_some, decide_eq_false (by omega)]
    exact h62

end Go.Esc.M
