import Derived.Test.YthaockalmnlceaaLMc
/- Own work. Chapter 16: messages written, in the program. -/
set_option linter.unusedSimpArgs false
set_option linter.unusedVariables false
namespace Go.Esc.M
open Go Go.Esc

def isK (m : MsgM) : Prop := m.kind = 1 ∨ m.kind = 2 ∨ m.kind = 3
instance (m : MsgM) : Decidable (isK m) := inferInstanceAs (Decidable (_ ∨ _ ∨ _))
def restM (m : MsgM) : List UInt8 := if m.kind = 4 then m.hash else if m.kind = 5 then m.secret ++ m.hash else if m.kind = 6 then be 8 (bits64 m.next) ++ m.secret else []
def bytesM (m : MsgM) : List UInt8 := if isK m then bytesU (updOf m) else be 1 m.kind.toNat ++ (be 8 (bits64 m.index) ++ restM m)
def validM (m : MsgM) : Bool := if isK m then validU (updOf m) && decide (m = msgOf (updOf m)) else decide (namedM m = (m, true)) && (rightI m.index && rightI m.next)
def writeM (m : MsgM) : List UInt8 × Int := bif validM m then (bytesM m, 0) else ([], 160)

theorem right0 : rightI 0 = true := by decide
theorem named_kind {m : MsgM} (h : namedM m = (m, true)) (hk : ¬ isK m) : 4 ≤ m.kind ∧ m.kind ≤ 7 := by
  unfold namedM at h
  rw [if_neg (show ¬ (m.kind = 1 ∨ m.kind = 2 ∨ m.kind = 3) from hk)] at h
  split at h
  · omega
  split at h
  · omega
  split at h
  · omega
  split at h
  · omega
  · cases h
theorem validM_named {m : MsgM} (h : validM m = true) : namedM m = (m, true) ∧ rightI m.index = true ∧ rightI m.next = true := by
  unfold validM at h
  split at h
  · rename_i hk
    simp only [Bool.and_eq_true, decide_eq_true_eq] at h
    have e := h.2
    refine ⟨?_, ?_, ?_⟩
    · unfold namedM
      rw [if_pos (show m.kind = 1 ∨ m.kind = 2 ∨ m.kind = 3 from hk), ← e]
    · rw [e]; exact right0
    · rw [e]; exact right0
  · simp only [Bool.and_eq_true, decide_eq_true_eq] at h
    exact ⟨h.1, h.2.1, h.2.2⟩

section
variable {F0 : List AId} {G0 G : Heap} {ps : List LP} {Q : AVal → Heap → Prop}

set_option maxHeartbeats 2000000 in
theorem msg_Write.use {m : MsgM} (h : m.ok) (hQ : ∀ G', Ch [] G [] G' → Q (.tuple [.str (writeM m).1, .int .i64 (writeM m).2]) G') : ACalls P msg_Write.n [m.av] G Q := by
  refine msg_Write.sound ?_
  unfold msg_Write.S
  rw [zMsg, zUpd]
  intro i1 f1
  have s1 := (Sp.nil G).row f1 m.av
  refine wv_of (msg_load (i := 0) s1 rfl h).2.2.2.2.2.2.2.2 ?_
  refine msg_named.use h fun G5 c5 => ?_
  have s5 := s1.tmp c5
  have hno := namedM_ok h
  obtain ⟨n, hn⟩ : ∃ n, n = namedM m := ⟨_, rfl⟩
  rw [← hn] at hno ⊢
  refine wv_of (v := n.1.av) rfl ?_
  refine wv_of (v := .bool n.2) rfl ?_
  intro i8 f8
  have s8 := s5.row f8 MsgM.zero.av
  refine msg_store (i := 0) s8 rfl MsgM.zero_ok hno fun G10 s10 => ?_
  have s10 : Sp [] G [RowL i8 n.1.av, RowL i1 m.av] G10 := s10
  intro J76
  have bad : ¬ (n = (m, true) ∧ rightI m.index = true ∧ rightI m.next = true) → J76 (.bool true) G10 := by
    intro hA
    have hv : validM m = false := Bool.eq_false_iff.2 fun hv => hA (by rw [hn]; exact validM_named hv)
    simp -zeta only [J76, brB_true]
    have := hQ _ s10.ch
    unfold writeM at this
    rwa [hv] at this
  have good : (n = (m, true) ∧ rightI m.index = true ∧ rightI m.next = true) → J76 (.bool false) G10 := by
    rintro ⟨hA, hr1, hr2⟩
    rw [hn] at hA
    simp -zeta only [J76, brB_false]
    refine wv_of (msg_load (i := 1) s10 rfl h).2.2.2.2.2.2.2.2 ?_
    refine msg_Update.use h fun G27 c27 => ?_
    have s27 := s10.tmp c27
    by_cases hk : isK m
    · have hku : 1 ≤ m.kind ∧ m.kind ≤ 3 := by unfold isK at hk; omega
      have hu : updM m = (updOf m, true) := by
        unfold updM isUpd
        rw [decide_eq_true hku.1, decide_eq_true hku.2]
        rfl
      rw [hu]
      refine wv_of (v := (updOf m).av) rfl ?_
      refine wv_of (v := .bool true) rfl ?_
      intro i30 f30
      have s30 := s27.row f30 UpdM.zero.av
      refine upd_store (i := 0) s30 rfl UpdM.zero_ok (updOf_ok h) fun G32 s32 => ?_
      rw [brB_true]
      refine wv_of (upd_load (i := 0) s32 rfl (updOf_ok h)).2.2.2.2.2 ?_
      refine update_Write.use (updOf_ok h) fun G35 c35 => ?_
      have s35 := s32.tmp c35
      have hme : m = msgOf (updOf m) := by
        unfold namedM at hA
        rw [if_pos (show m.kind = 1 ∨ m.kind = 2 ∨ m.kind = 3 from hk)] at hA
        injection hA with hA _
        exact hA.symm
      have hw : writeM m = bif validU (updOf m) then (bytesU (updOf m), 0) else ([], 160) := by
        unfold writeM validM bytesM
        rw [if_pos hk, if_pos hk, decide_eq_true hme, Bool.and_true]
      have := hQ _ s35.ch
      rw [hw] at this
      rw [vext0, wv_some, vext1, wv_some]
      unfold writeR
      cases hv : validU (updOf m) with
      | true =>
        rw [hv] at this
        rw [cond_true, vbin_neq, wv_some, decide_eq_true rfl, Bool.not_true, brB_false]
        exact this
      | false =>
        rw [hv] at this
        rw [cond_false, vbin_neq, wv_some, decide_eq_false (by decide), Bool.not_false, brB_true]
        exact this
    · obtain ⟨hk4, hk7⟩ := named_kind hA hk
      have hu : updM m = (UpdM.zero, false) := by
        unfold updM isUpd
        rw [decide_eq_false (show ¬ m.kind ≤ 3 by omega), Bool.and_false]
        rfl
      rw [hu]
      refine wv_of (v := UpdM.zero.av) rfl ?_
      refine wv_of (v := .bool false) rfl ?_
      intro i30 f30
      have s30 := s27.row f30 UpdM.zero.av
      refine upd_store (i := 0) s30 rfl UpdM.zero_ok UpdM.zero_ok fun G32 s32 => ?_
      rw [brB_false]
      have hw : writeM m = (be 1 m.kind.toNat ++ (be 8 (bits64 m.index) ++ restM m), 0) := by
        unfold writeM validM bytesM
        rw [if_neg hk, if_neg hk, decide_eq_true hA, hr1, hr2]
        rfl
      rw [hw] at hQ
      refine cursor_New.use fun iw G40 w40 c40 => ?_
      have s40 := s32.new (p := WrL iw [] 0) w40 c40
      have s40 : Sp [] G [WrL iw [] 0, RowL i30 UpdM.zero.av, RowL i8 n.1.av, RowL i1 m.av] G40 := s40
      refine wv_of (msg_load (i := 3) s40 rfl h).1 ?_
      refine wv_of (u8_conv m.kind (by omega) (by omega)) ?_
      refine wr (i := 0) s40 rfl (fun h k => cursor_Writer_U8.use (by omega) h (by simp) k) fun G44 s44 => ?_
      refine wv_of (msg_load (i := 3) s44 rfl h).2.2.2.1 ?_
      refine wr (i := 0) s44 rfl (fun h k => cursor_Writer_I64.use h (by simp [length_be]) k) fun G47 s47 => ?_
      refine wv_of (msg_load (i := 3) s47 rfl h).1 ?_
      have s47 : Sp [] G [WrL iw ([] ++ be 1 m.kind.toNat ++ be 8 (bits64 m.index)) 0, RowL i30 UpdM.zero.av, RowL i8 n.1.av, RowL i1 m.av] G47 := s47
      intro J75
      have out : ∀ G' bs, Sp [] G [WrL iw bs 0, RowL i30 UpdM.zero.av, RowL i8 n.1.av, RowL i1 m.av] G' → bs = be 1 m.kind.toNat ++ (be 8 (bits64 m.index) ++ restM m) → J75 G' := by
        intro G' bs hs hb
        simp -zeta only [J75]
        obtain ⟨F, hw⟩ := hs.get (i := 0) rfl
        refine cursor_Writer_Out.use (st := (bs, 0)) hw ?_
        rw [vext0, wv_some, vext1, wv_some, if_pos rfl, hb]
        exact hQ _ hs.ch
      rw [vbin_eql, wv_some, brB_dec]
      refine ⟨fun hkk => ?_, fun hk4' => ?_⟩
      · refine wv_of (msg_load (i := 3) s47 rfl h).2.2.2.2.2.1 ?_
        refine wr (i := 0) s47 rfl (fun hh k => cursor_Writer_Hash.use h.hash hh (by simp [length_be]) k) fun G24 s24 => ?_
        exact out _ _ s24 (by simp [restM, hkk])
      rw [vbin_eql, wv_some, brB_dec]
      refine ⟨fun hkk => ?_, fun hk5' => ?_⟩
      · refine wv_of (msg_load (i := 3) s47 rfl h).2.2.2.2.2.2.1 ?_
        refine wr (i := 0) s47 rfl (fun hh k => cursor_Writer_Hash.use h.secret hh (by simp [length_be]) k) fun G24 s24 => ?_
        refine wv_of (msg_load (i := 3) s24 rfl h).2.2.2.2.2.1 ?_
        refine wr (i := 0) s24 rfl (fun hh k => cursor_Writer_Hash.use h.hash hh (by simp [length_be, h.secret]) k) fun G25 s25 => ?_
        exact out _ _ s25 (by simp [restM, hkk])
      rw [vbin_eql, wv_some, brB_dec]
      refine ⟨fun hkk => ?_, fun hk6' => ?_⟩
      · refine wv_of (msg_load (i := 3) s47 rfl h).2.2.2.2.1 ?_
        refine wr (i := 0) s47 rfl (fun hh k => cursor_Writer_I64.use hh (by simp [length_be]) k) fun G24 s24 => ?_
        refine wv_of (msg_load (i := 3) s24 rfl h).2.2.2.2.2.2.1 ?_
        refine wr (i := 0) s24 rfl (fun hh k => cursor_Writer_Hash.use h.secret hh (by simp [length_be]) k) fun G25 s25 => ?_
        exact out _ _ s25 (by simp [restM, hkk])
      exact out _ _ s47 (by simp [restM, hk4', hk5', hk6'])
  rw [vun_not, wv_some]
  cases hn2 : n.2 with
  | false =>
    rw [Bool.not_false, brB_true]
    exact bad fun hh => by rw [hh.1] at hn2; cases hn2
  | true =>
    rw [Bool.not_true, brB_false]
    refine wv_of (msg_load (i := 0) s10 rfl hno).2.2.2.2.2.2.2.2 ?_
    refine wv_of (msg_load (i := 1) s10 rfl h).2.2.2.2.2.2.2.2 ?_
    rw [vbin_mneq hno h, wv_some, brB_ndec]
    refine ⟨fun hne => bad fun hh => hne (by rw [hh.1]), fun heq => ?_⟩
    have hnn : n = (m, true) := by rw [← heq, ← hn2]
    refine wv_of (msg_load (i := 1) s10 rfl h).2.2.2.1 ?_
    refine msg_right.use ?_
    rw [vun_not, wv_some]
    cases hr1 : rightI m.index with
    | false =>
      rw [Bool.not_false, brB_true]
      exact bad fun hh => by rw [hh.2.1] at hr1; cases hr1
    | true =>
      rw [Bool.not_true, brB_false]
      refine wv_of (msg_load (i := 1) s10 rfl h).2.2.2.2.1 ?_
      refine msg_right.use ?_
      rw [vun_not, wv_some]
      cases hr2 : rightI m.next with
      | false =>
        rw [Bool.not_false]
        exact bad fun hh => by rw [hh.2.2] at hr2; cases hr2
      | true =>
        rw [Bool.not_true]
        exact good ⟨hnn, hr1, hr2⟩

end
end Go.Esc.M

/- Own work. Chapter 16: messages written, in the document. -/
set_option linter.unusedSimpArgs false
set_option linter.unusedVariables false
namespace Go.Esc.M
open Go Go.Esc

section
variable {F0 : List AId} {G0 G : Heap} {ps : List LP} {Q : AVal → Heap → Prop}

theorem escrowref16_Update.use {m : MsgM} (h : m.ok) (hQ : ∀ G', Ch [] G [] G' → Q (tupUB (updM m)) G') : ACalls P escrowref16_Update.n [m.av] G Q := by
  refine escrowref16_Update.sound ?_
  unfold escrowref16_Update.S
  rw [zUpd]
  intro i1 f1
  have s1 := (Sp.nil G).row f1 m.av
  intro i3 f3
  have s3 := s1.row f3 UpdM.zero.av
  revert s3
  generalize Heap.upd _ i3 _ = G4
  intro s3 J22
  obtain ⟨l0, l1, l2, _, _, l5, _, l7, _⟩ := msg_load (i := 1) s3 rfl h
  unfold updM isUpd at hQ
  have bad : (decide (1 ≤ m.kind) && decide (m.kind ≤ 3)) = false → J22 (.bool true) G4 := by
    intro hb
    rw [hb] at hQ
    simp -zeta only [J22, brB_true]
    rw [build_none, wv_some]
    refine upd_store (i := 0) s3 rfl UpdM.zero_ok UpdM.zero_ok fun G12 s12 => ?_
    refine wv_of (upd_load (i := 0) s12 rfl UpdM.zero_ok).2.2.2.2.2 ?_
    exact hQ _ s12.ch
  have good : (decide (1 ≤ m.kind) && decide (m.kind ≤ 3)) = true → J22 (.bool false) G4 := by
    intro hb
    rw [hb] at hQ
    simp -zeta only [J22, brB_false]
    refine wv_of l0 ?_
    refine wv_of l1 ?_
    refine wv_of l2 ?_
    refine wv_of l5 ?_
    refine wv_of l7 ?_
    refine wv_of (build_upd (updOf_ok h)) ?_
    refine upd_store (i := 0) s3 rfl UpdM.zero_ok (updOf_ok h) fun G12 s12 => ?_
    refine wv_of (upd_load (i := 0) s12 rfl (updOf_ok h)).2.2.2.2.2 ?_
    exact hQ _ s12.ch
  rw [l0, wv_some, vbin_lss, wv_some, brB_dec]
  refine ⟨fun hk => bad (by rw [decide_eq_false (by omega), Bool.false_and]), fun hk => ?_⟩
  rw [wv_some, vbin_gtr, wv_some]
  by_cases h3 : 3 < m.kind
  · rw [decide_eq_true h3]
    exact bad (by rw [decide_eq_false (show ¬ m.kind ≤ 3 by omega), Bool.and_false])
  · rw [decide_eq_false h3]
    exact good (by rw [decide_eq_true (show 1 ≤ m.kind by omega), decide_eq_true (show m.kind ≤ 3 by omega), Bool.and_self])


theorem escrowref16_Of.use {u : UpdM} (h : u.ok) (hQ : ∀ G', Ch [] G [] G' → Q (msgOf u).av G') : ACalls P escrowref16_Of.n [u.av] G Q := by
  refine escrowref16_Of.sound ?_
  unfold escrowref16_Of.S
  rw [zMsg]
  intro i1 f1
  have s1 := (Sp.nil G).row f1 u.av
  intro i3 f3
  have s3 := s1.row f3 MsgM.zero.av
  obtain ⟨l0, l1, l2, l3, l4, _⟩ := upd_load (i := 1) s3 rfl h
  refine wv_of l0 ?_
  refine wv_of l1 ?_
  refine wv_of l2 ?_
  refine wv_of l3 ?_
  refine wv_of l4 ?_
  refine wv_of (build_msg h) ?_
  refine msg_store (i := 0) s3 rfl MsgM.zero_ok (msgOf_ok h) fun G11 s11 => ?_
  refine wv_of (msg_load (i := 0) s11 rfl (msgOf_ok h)).2.2.2.2.2.2.2.2 ?_
  exact hQ _ s11.ch


theorem escrowref16_index.use {n : Int} (hQ : Q (.bool (rightI n)) G) : ACalls P escrowref16_index.n [.int .i64 n] G Q := by
  refine escrowref16_index.sound ?_
  unfold escrowref16_index.S
  unfold rightI at hQ
  rw [vbin_geq, wv_some, brB_dec]
  refine ⟨fun h => ?_, fun h => by rwa [decide_eq_false h, Bool.false_and] at hQ⟩
  rw [decide_eq_true h, Bool.true_and] at hQ
  rw [vbin_leq, wv_some]
  exact hQ


theorem build_k {k : Int} : vbuild T t_api_Message [(0, .int .i64 k)] = some (⟨k, 0, 0, 0, 0, h0, h0, []⟩ : MsgM).av := rfl

set_option maxHeartbeats 2000000 in
theorem escrowref16_Valid.use {m : MsgM} (h : m.ok) (hQ : ∀ G', Ch [] G [] G' → Q (.bool (validM m)) G') : ACalls P escrowref16_Valid.n [m.av] G Q := by
  refine escrowref16_Valid.sound ?_
  unfold escrowref16_Valid.S
  rw [zMsg, zUpd]
  intro i1 f1
  have s1 := (Sp.nil G).row f1 m.av
  refine wv_of (msg_load (i := 0) s1 rfl h).1 ?_
  rw [build_k, wv_some]
  intro i5 f5
  have s5 := s1.row f5 MsgM.zero.av
  have hn0 : (⟨m.kind, 0, 0, 0, 0, h0, h0, []⟩ : MsgM).ok := ⟨h.kind, i64_0, i64_0, i64_0, i64_0, rfl, rfl, by simp⟩
  refine msg_store (i := 0) s5 rfl MsgM.zero_ok hn0 fun G7 s7 => ?_
  have s7 : Sp [] G [RowL i5 (⟨m.kind, 0, 0, 0, 0, h0, h0, []⟩ : MsgM).av, RowL i1 m.av] G7 := s7
  refine wv_of (msg_load (i := 1) s7 rfl h).1 ?_
  intro J73
  have h73 : ∀ G' (n : MsgM), Sp [] G [RowL i5 n.av, RowL i1 m.av] G' → n.ok → ¬ isK m → namedM m = (n, true) → J73 G' := by
    intro G61 n hs hn hk he
    have hv : validM m = (decide (m = n) && (rightI m.index && rightI m.next)) := by
      unfold validM
      rw [if_neg hk, he]
      congr 1
      rw [decide_eq_decide]
      exact ⟨fun hh => by injection hh with hh _; exact hh.symm, fun hh => by rw [← hh]⟩
    simp -zeta only [J73]
    refine wv_of (msg_load (i := 1) hs rfl h).2.2.2.2.2.2.2.2 ?_
    refine wv_of (msg_load (i := 0) hs rfl hn).2.2.2.2.2.2.2.2 ?_
    have hQ := hQ _ hs.ch
    rw [hv] at hQ
    rw [vbin_meql h hn, wv_some, brB_dec]
    refine ⟨fun he => ?_, fun he => by rwa [decide_eq_false he, Bool.false_and] at hQ⟩
    rw [decide_eq_true he, Bool.true_and] at hQ
    refine wv_of (msg_load (i := 1) hs rfl h).2.2.2.1 ?_
    refine escrowref16_index.use ?_
    rw [brB_bool]
    refine ⟨fun hr => ?_, fun hr => by rwa [hr, Bool.false_and] at hQ⟩
    rw [hr, Bool.true_and] at hQ
    refine wv_of (msg_load (i := 1) hs rfl h).2.2.2.2.1 ?_
    exact escrowref16_index.use hQ
  refine wv_of (v := .bool (decide (m.kind = 1))) (by rw [vbin_eql]) ?_
  intro J60
  have up : isK m → J60 (.bool true) G7 := by
    intro hk
    simp -zeta only [J60, brB_true]
    refine wv_of (msg_load (i := 1) s7 rfl h).2.2.2.2.2.2.2.2 ?_
    refine escrowref16_Update.use h fun G18 c18 => ?_
    have s18 := s7.tmp c18
    have hku : 1 ≤ m.kind ∧ m.kind ≤ 3 := by unfold isK at hk; omega
    have hu : updM m = (updOf m, true) := by
      unfold updM isUpd
      rw [decide_eq_true hku.1, decide_eq_true hku.2]
      rfl
    rw [hu]
    refine wv_of (v := (updOf m).av) rfl ?_
    refine wv_of (v := .bool true) rfl ?_
    intro i21 f21
    have s21 := s18.row f21 UpdM.zero.av
    have huo := updOf_ok h
    refine upd_store (i := 0) s21 rfl UpdM.zero_ok huo fun G23 s23 => ?_
    refine wv_of (upd_load (i := 0) s23 rfl huo).2.2.2.2.2 ?_
    refine escrowref12_Valid.use huo fun G26 c26 => ?_
    have s26 := s23.tmp c26
    have hQ26 := hQ _ s26.ch
    unfold validM at hQ hQ26
    rw [if_pos hk] at hQ hQ26
    rw [brB_bool]
    refine ⟨fun hv => ?_, fun hv => by rwa [hv, Bool.false_and] at hQ26⟩
    rw [hv, Bool.true_and] at hQ
    refine wv_of (msg_load (i := 2) s26 rfl h).2.2.2.2.2.2.2.2 ?_
    refine wv_of (upd_load (i := 0) s26 rfl huo).2.2.2.2.2 ?_
    refine escrowref16_Of.use huo fun G30 c30 => ?_
    have s30 := s26.tmp c30
    refine ⟨⟨(msg_load (i := 2) s30 rfl h).2.2.2.2.2.2.2.2, trivial⟩, ?_⟩
    rw [vbin_meql h (msgOf_ok huo), wv_some]
    exact hQ _ s30.ch
  have rest : ¬ isK m → J60 (.bool false) G7 := by
    intro hk
    simp -zeta only [J60, brB_false]
    have hne : namedM m = if m.kind = 4 then (⟨m.kind, 0, 0, m.index, 0, m.hash, h0, []⟩, true)
      else if m.kind = 5 then (⟨m.kind, 0, 0, m.index, 0, m.hash, m.secret, []⟩, true)
      else if m.kind = 6 then (⟨m.kind, 0, 0, m.index, m.next, h0, m.secret, []⟩, true)
      else if m.kind = 7 then (⟨m.kind, 0, 0, m.index, 0, h0, h0, []⟩, true)
      else (MsgM.zero, false) := by
      unfold namedM
      rw [if_neg (show ¬ (m.kind = 1 ∨ m.kind = 2 ∨ m.kind = 3) from hk)]
    have hn1 : (⟨m.kind, 0, 0, m.index, 0, h0, h0, []⟩ : MsgM).ok := ⟨h.kind, i64_0, i64_0, h.index, i64_0, rfl, rfl, by simp⟩
    rw [vbin_eql, wv_some, brB_dec]
    refine ⟨fun hk4 => ?_, fun hk4 => ?_⟩
    · rw [if_pos hk4] at hne
      refine wv_of (msg_load (i := 1) s7 rfl h).2.2.2.1 ?_
      refine msg_index _ (i := 0) s7 rfl fun G36 s36 => ?_
      refine wv_of (msg_load (i := 1) s36 rfl h).2.2.2.2.2.1 ?_
      refine msg_hash (u := ⟨m.kind, 0, 0, m.index, 0, h0, h0, []⟩) h.hash hn1 (i := 0) s36 rfl fun G38 s38 => ?_
      exact h73 _ ⟨m.kind, 0, 0, m.index, 0, m.hash, h0, []⟩ s38 ⟨h.kind, i64_0, i64_0, h.index, i64_0, h.hash, rfl, by simp⟩ hk hne
    rw [if_neg hk4] at hne
    rw [vbin_eql, wv_some, brB_dec]
    refine ⟨fun hk5 => ?_, fun hk5 => ?_⟩
    · rw [if_pos hk5] at hne
      refine wv_of (msg_load (i := 1) s7 rfl h).2.2.2.1 ?_
      refine msg_index _ (i := 0) s7 rfl fun G41 s41 => ?_
      refine wv_of (msg_load (i := 1) s41 rfl h).2.2.2.2.2.2.1 ?_
      refine msg_secret (u := ⟨m.kind, 0, 0, m.index, 0, h0, h0, []⟩) h.secret hn1 (i := 0) s41 rfl fun G43 s43 => ?_
      refine wv_of (msg_load (i := 1) s43 rfl h).2.2.2.2.2.1 ?_
      refine msg_hash (u := ⟨m.kind, 0, 0, m.index, 0, h0, m.secret, []⟩) h.hash ⟨h.kind, i64_0, i64_0, h.index, i64_0, rfl, h.secret, by simp⟩ (i := 0) s43 rfl fun G45 s45 => ?_
      exact h73 _ ⟨m.kind, 0, 0, m.index, 0, m.hash, m.secret, []⟩ s45 ⟨h.kind, i64_0, i64_0, h.index, i64_0, h.hash, h.secret, by simp⟩ hk hne
    rw [if_neg hk5] at hne
    rw [vbin_eql, wv_some, brB_dec]
    refine ⟨fun hk6 => ?_, fun hk6 => ?_⟩
    · rw [if_pos hk6] at hne
      refine wv_of (msg_load (i := 1) s7 rfl h).2.2.2.1 ?_
      refine msg_index _ (i := 0) s7 rfl fun G48 s48 => ?_
      refine wv_of (msg_load (i := 1) s48 rfl h).2.2.2.2.1 ?_
      refine msg_next (u := ⟨m.kind, 0, 0, m.index, 0, h0, h0, []⟩) _ (i := 0) s48 rfl fun G50 s50 => ?_
      refine wv_of (msg_load (i := 1) s50 rfl h).2.2.2.2.2.2.1 ?_
      refine msg_secret (u := ⟨m.kind, 0, 0, m.index, m.next, h0, h0, []⟩) h.secret ⟨h.kind, i64_0, i64_0, h.index, h.next, rfl, rfl, by simp⟩ (i := 0) s50 rfl fun G52 s52 => ?_
      exact h73 _ ⟨m.kind, 0, 0, m.index, m.next, h0, m.secret, []⟩ s52 ⟨h.kind, i64_0, i64_0, h.index, h.next, rfl, h.secret, by simp⟩ hk hne
    rw [if_neg hk6] at hne
    rw [vbin_eql, wv_some, brB_dec]
    refine ⟨fun hk7 => ?_, fun hk7 => ?_⟩
    · rw [if_pos hk7] at hne
      refine wv_of (msg_load (i := 1) s7 rfl h).2.2.2.1 ?_
      refine msg_index _ (i := 0) s7 rfl fun G55 s55 => ?_
      exact h73 _ ⟨m.kind, 0, 0, m.index, 0, h0, h0, []⟩ s55 hn1 hk hne
    rw [if_neg hk7] at hne
    have hv : validM m = false := by
      unfold validM
      rw [if_neg hk, hne, decide_eq_false (fun hh => by injection hh with _ hh; cases hh), Bool.false_and]
    have := hQ _ s7.ch
    rwa [hv] at this
  by_cases h1 : m.kind = 1
  · rw [decide_eq_true h1, brB_true]
    exact up (.inl h1)
  rw [decide_eq_false h1, brB_false, vbin_eql, wv_some]
  by_cases h2 : m.kind = 2
  · rw [decide_eq_true h2, brB_true]
    exact up (.inr (.inl h2))
  rw [decide_eq_false h2, brB_false, vbin_eql, wv_some]
  by_cases h3 : m.kind = 3
  · rw [decide_eq_true h3]
    exact up (.inr (.inr h3))
  · rw [decide_eq_false h3]
    exact rest (by unfold isK; omega)

end
end Go.Esc.M

/- Own work. Chapter 16: the document's bytes. -/
set_option linter.unusedSimpArgs false
set_option linter.unusedVariables false
namespace Go.Esc.M
open Go Go.Esc

section
variable {F0 : List AId} {G0 G : Heap} {ps : List LP} {Q : AVal → Heap → Prop}

theorem slice_mh {i : AId} {u : MsgM} (h : u.ok) (hg : G i = some (.own u.av)) : ∃ x, vslice T t_api_Hash (.ptr i [5] 5) none none none = some x ∧ IsSl 1 G x (u.hash.map u8v) := by
  have e1 : T t_api_Hash = some ti_api_Hash := T_api_Hash
  have e2 : ti_api_Hash.desc = .array 32 t_uint8 := rfl
  refine ⟨.slice i [5] 0 5 32 32, by simp [vslice, e1, e2, T_uint8, sbounds, sbound, ti_uint8], .inl ⟨_, _, _, _, _, _, rfl, ?_⟩⟩
  have hh := h.hash
  have ha : arrAt G 1 i [5] 0 5 = some (u.hash.map u8v) := by
    simp [arrAt, vsub, hg, treeOf, MsgM.av, MsgM.cs, sub, szs, Esc.sz, uni_u8]
  rw [selems, ha]
  simp [hh, List.take_of_length_le]
theorem slice_ms {i : AId} {u : MsgM} (h : u.ok) (hg : G i = some (.own u.av)) : ∃ x, vslice T t_api_Hash (.ptr i [6] 37) none none none = some x ∧ IsSl 1 G x (u.secret.map u8v) := by
  have e1 : T t_api_Hash = some ti_api_Hash := T_api_Hash
  have e2 : ti_api_Hash.desc = .array 32 t_uint8 := rfl
  refine ⟨.slice i [6] 0 37 32 32, by simp [vslice, e1, e2, T_uint8, sbounds, sbound, ti_uint8], .inl ⟨_, _, _, _, _, _, rfl, ?_⟩⟩
  have hh := h.secret
  have h1 := szh h.hash
  have ha : arrAt G 1 i [6] 0 37 = some (u.secret.map u8v) := by
    simp [arrAt, vsub, hg, treeOf, MsgM.av, MsgM.cs, sub, szs, Esc.sz, uni_u8, h1]
  rw [selems, ha]
  simp [hh, List.take_of_length_le]

theorem cvt {G' : Heap} {x : AVal} {l : List UInt8} (h : IsSl 1 G' x (l.map u8v)) : vconv T G' t_sl_uint8 t_string x = some (.str l) := conv_bytes (si := ti_sl_uint8) (ie := ti_uint8) (di := ti_string) T_sl_uint8 rfl T_uint8 rfl T_string rfl h

set_option maxHeartbeats 2000000 in
theorem escrowref16_Write.use {m : MsgM} (h : m.ok) (hQ : ∀ G', Ch [] G [] G' → Q (.tuple [.str (writeM m).1, .int .i64 (writeM m).2]) G') : ACalls P escrowref16_Write.n [m.av] G Q := by
  refine escrowref16_Write.sound ?_
  unfold escrowref16_Write.S
  rw [zUpd]
  intro i1 f1
  have s1 := (Sp.nil G).row f1 m.av
  refine wv_of (msg_load (i := 0) s1 rfl h).2.2.2.2.2.2.2.2 ?_
  refine escrowref16_Valid.use h fun G5 c5 => ?_
  have s5 := s1.tmp c5
  rw [vun_not, wv_some]
  unfold writeM at hQ
  cases hv : validM m with
  | false =>
    rw [hv] at hQ
    exact hQ _ s5.ch
  | true =>
    rw [hv] at hQ
    simp only [cond_true] at hQ
    rw [Bool.not_true, brB_false]
    obtain ⟨hnm, hr1, hr2⟩ := validM_named hv
    refine wv_of (msg_load (i := 0) s5 rfl h).1 ?_
    rw [vbin_leq, wv_some, brB_dec]
    by_cases hk : isK m
    · refine ⟨fun _ => ?_, fun hh => absurd (by unfold isK at hk; omega) hh⟩
      refine wv_of (msg_load (i := 0) s5 rfl h).2.2.2.2.2.2.2.2 ?_
      refine escrowref16_Update.use h fun G11 c11 => ?_
      have s11 := s5.tmp c11
      have hku : 1 ≤ m.kind ∧ m.kind ≤ 3 := by unfold isK at hk; omega
      have hu : updM m = (updOf m, true) := by
        unfold updM isUpd
        rw [decide_eq_true hku.1, decide_eq_true hku.2]
        rfl
      rw [hu]
      refine wv_of (v := (updOf m).av) rfl ?_
      refine wv_of (v := .bool true) rfl ?_
      intro i14 f14
      have s14 := s11.row f14 UpdM.zero.av
      have huo := updOf_ok h
      refine upd_store (i := 0) s14 rfl UpdM.zero_ok huo fun G16 s16 => ?_
      refine wv_of (upd_load (i := 0) s16 rfl huo).2.2.2.2.2 ?_
      refine escrowref12_Write.use huo fun G19 c19 => ?_
      have s19 := s16.tmp c19
      unfold validM at hv
      rw [if_pos hk, Bool.and_eq_true] at hv
      have hw : writeR (updOf m) = (bytesM m, 0) := by
        unfold writeR bytesM
        rw [hv.1, if_pos hk]
        rfl
      rw [hw, vext0, wv_some, vext1, wv_some]
      exact hQ _ s19.ch
    · obtain ⟨hk4, hk7⟩ := named_kind hnm hk
      refine ⟨fun hh => absurd hh (by omega), fun _ => ?_⟩
      have hix : 0 ≤ m.index ∧ m.index ≤ 281474976710655 := by
        unfold rightI maxIndex at hr1
        simp only [Bool.and_eq_true, decide_eq_true_eq] at hr1
        exact hr1
      have hb : bytesM m = be 1 m.kind.toNat ++ (be 8 (bits64 m.index) ++ restM m) := by
        unfold bytesM
        rw [if_neg hk]
      rw [hb] at hQ
      have hh := h.hash
      have hhs := h.secret
      refine wv_of (msg_load (i := 0) s5 rfl h).1 ?_
      rw [vconv_int T_int T_uint64 rfl, wrap_bits64, wv_some]
      refine escrowref03_Bytes.use (k := 1) (by omega) fun G25 c25 => ?_
      have s25 := s5.tmp c25
      rw [bits64_nat (n := m.kind) (by omega) (by omega)]
      refine wv_of (msg_load (i := 0) s25 rfl h).1 ?_
      obtain ⟨x, hx, hxs⟩ := slice_mh h (RowL.own (i := 0) s25 rfl)
      obtain ⟨y, hy, hys⟩ := slice_ms h (RowL.own (i := 0) s25 rfl)
      rw [vbin_eql, wv_some, brB_dec]
      refine ⟨fun hkk => ?_, fun hk4' => ?_⟩
      · refine wv_of (msg_load (i := 0) s25 rfl h).2.2.2.1 ?_
        rw [vconv_int T_int64 T_uint64 rfl, wrap_bits64, wv_some]
        refine wv_of hx ?_
        refine wv_of (cvt hxs) ?_
        refine escrowref03_Bytes.use (k := 8) (by omega) fun G33 c33 => ?_
        have s33 := s25.tmp c33
        refine ⟨⟨cvt (hxs.ch' c33), trivial⟩, ?_⟩
        rw [vbin_sadd _ _ (by simp [length_be]), wv_some, vbin_sadd _ _ (by simp [length_be, hh]), wv_some]
        have := hQ _ s33.ch
        rw [restM, if_pos hkk] at this
        simpa using this
      rw [vbin_eql, wv_some, brB_dec]
      refine ⟨fun hkk => ?_, fun hk5' => ?_⟩
      · refine wv_of (msg_load (i := 0) s25 rfl h).2.2.2.1 ?_
        rw [vconv_int T_int64 T_uint64 rfl, wrap_bits64, wv_some]
        refine wv_of hy ?_
        refine wv_of (cvt hys) ?_
        refine wv_of hx ?_
        refine wv_of (cvt hxs) ?_
        refine escrowref03_Bytes.use (k := 8) (by omega) fun G33 c33 => ?_
        have s33 := s25.tmp c33
        refine ⟨⟨cvt (hxs.ch' c33), cvt (hys.ch' c33), trivial⟩, ?_⟩
        rw [vbin_sadd _ _ (by simp [length_be]), wv_some, vbin_sadd _ _ (by simp [length_be, hhs]), wv_some, vbin_sadd _ _ (by simp [length_be, hh, hhs]), wv_some]
        have := hQ _ s33.ch
        rw [restM, if_neg (by omega), if_pos hkk] at this
        simpa using this
      rw [vbin_eql, wv_some, brB_dec]
      refine ⟨fun hkk => ?_, fun hk6' => ?_⟩
      · refine wv_of (msg_load (i := 0) s25 rfl h).2.2.2.1 ?_
        rw [vconv_int T_int64 T_uint64 rfl, wrap_bits64, wv_some]
        refine wv_of (msg_load (i := 0) s25 rfl h).2.2.2.2.1 ?_
        rw [vconv_int T_int64 T_uint64 rfl, wrap_bits64, wv_some]
        refine wv_of hy ?_
        refine wv_of (cvt hys) ?_
        refine escrowref03_Bytes.use (k := 8) (by omega) fun G33 c33 => ?_
        have s33 := s25.tmp c33
        refine ⟨⟨cvt (hys.ch' c33), (msg_load (i := 0) s33 rfl h).2.2.2.2.1, trivial⟩, ?_⟩
        rw [vbin_sadd _ _ (by simp [length_be]), wv_some]
        refine escrowref03_Bytes.use (k := 8) (by omega) fun G59 c59 => ?_
        have s59 := s33.tmp c59
        refine ⟨⟨cvt ((hys.ch' c33).ch' c59), trivial⟩, ?_⟩
        rw [vbin_sadd _ _ (by simp [length_be]), wv_some, vbin_sadd _ _ (by simp [length_be, hhs]), wv_some]
        have := hQ _ s59.ch
        rw [restM, if_neg (by omega), if_neg (by omega), if_pos hkk] at this
        simpa using this
      refine wv_of (msg_load (i := 0) s25 rfl h).2.2.2.1 ?_
      rw [vconv_int T_int64 T_uint64 rfl, wrap_bits64, wv_some]
      refine escrowref03_Bytes.use (k := 8) (by omega) fun G33 c33 => ?_
      have s33 := s25.tmp c33
      rw [vbin_sadd _ _ (by simp [length_be]), wv_some]
      have := hQ _ s33.ch
      rw [restM, if_neg (by omega), if_neg (by omega), if_neg (by omega), List.append_nil] at this
      exact this

end
end Go.Esc.M
