import Derived.Test.YthaockalmnlceaaLMm
/- Own work. Chapter 16: one message for bytes. -/
set_option linter.unusedSimpArgs false
set_option linter.unusedVariables false
namespace Go.Esc.M
open Go Go.Esc

theorem msg_inj {m m' : MsgM} (h : m.ok) (h' : m'.ok) (hv : validM m = true) (hv' : validM m' = true) (he : bytesM m = bytesM m') : m = m' := by
  have hk := (bytesM_kind h hv).2
  have hk' := (bytesM_kind h' hv').2
  rw [he, hk'] at hk
  by_cases hik : isK m
  · have hik' : isK m' := by unfold isK at hik ⊢; omega
    obtain ⟨h1, h2⟩ := valid_upd hik hv
    obtain ⟨h1', h2'⟩ := valid_upd hik' hv'
    have e : bytesU (updOf m) = bytesU (updOf m') := by
      unfold bytesM at he
      rwa [if_pos hik, if_pos hik'] at he
    have r1 := readU_bytes (updOf_ok h) h1 []
    have r2 := readU_bytes (updOf_ok h') h1' []
    rw [e, r2] at r1
    injection r1 with r1 _
    rw [h2, h2', r1]
  · have hik' : ¬ isK m' := by unfold isK at hik ⊢; omega
    rw [← cand_bytes h hv hik, ← cand_bytes h' hv' hik', he]

/-- What Read gives. -/
def readMS (b : List UInt8) (x : MsgM × Int) : Prop := (x.1.ok ∧ validM x.1 = true ∧ b = bytesM x.1 ∧ x.2 = 0) ∨ ((∀ m : MsgM, m.ok → validM m = true → b ≠ bytesM m) ∧ x = (MsgM.zero, 160))
theorem readMS_only {b : List UInt8} {x y : MsgM × Int} (h : readMS b x) (k : readMS b y) : x = y := by
  obtain ⟨m, e⟩ := x
  obtain ⟨m', e'⟩ := y
  rcases h with ⟨h1, h2, h3, h4⟩ | ⟨h1, h2⟩
  · rcases k with ⟨k1, k2, k3, k4⟩ | ⟨k1, k2⟩
    · have := msg_inj h1 k1 h2 k2 (by rw [← h3, ← k3])
      dsimp only at this h4 k4
      rw [this, h4, k4]
    · exact absurd h3 (k1 _ h1 h2)
  · rcases k with ⟨k1, k2, k3, k4⟩ | ⟨k1, k2⟩
    · exact absurd k3 (h1 _ k1 k2)
    · rw [h2, k2]
theorem readMS_ok {b : List UInt8} {x : MsgM × Int} (h : readMS b x) : x.1.ok := by
  rcases h with ⟨h1, _⟩ | ⟨_, h2⟩
  · exact h1
  · rw [h2]; exact MsgM.zero_ok

section
variable {F0 : List AId} {G0 G : Heap} {ps : List LP} {Q : AVal → Heap → Prop}
theorem msg_Read.use' {b : List UInt8} (hbl : b.length ≤ 9223372036854775807) (hQ : ∀ x G', readMS b x → Ch [] G [] G' → Q (tupMI x) G') : ACalls P msg_Read.n [.str b] G Q :=
  msg_Read.use hbl (fun m h1 h2 h3 G' c => hQ (m, 0) G' (.inl ⟨h1, h2, h3, rfl⟩) c) fun h G' c => hQ _ G' (.inr ⟨h, rfl⟩) c
theorem escrowref16_Read.use' {b : List UInt8} (hbl : b.length ≤ 9223372036854775807) (hQ : ∀ x G', readMS b x → Ch [] G [] G' → Q (tupMI x) G') : ACalls P escrowref16_Read.n [.str b] G Q :=
  escrowref16_Read.use hbl (fun m h1 h2 h3 G' c => hQ (m, 0) G' (.inl ⟨h1, h2, h3, rfl⟩) c) fun h G' c => hQ _ G' (.inr ⟨h, rfl⟩) c
end
end Go.Esc.M

/- Own work. Chapter 16: the document's examples; MsgBytes. -/
set_option linter.unusedSimpArgs false
set_option linter.unusedVariables false
namespace Go.Esc.M
open Go Go.Esc

def hx : List UInt8 := [49, 50, 51, 52, 53, 54, 55, 56, 57, 48, 49, 50, 51, 52, 53, 54, 55, 56, 57, 48, 49, 50, 51, 52, 53, 54, 55, 56, 57, 48, 49, 50]
def b4 : List UInt8 := [4, 0, 0, 0, 0, 0, 0, 1, 2] ++ hx
def m4 : MsgM := ⟨4, 0, 0, 258, 0, hx, h0, []⟩
def m7 : MsgM := ⟨7, 0, 0, 3, 0, h0, h0, []⟩
def mB : MsgM := ⟨4, 0, 0, -1, 0, h0, h0, []⟩
def mU : MsgM := ⟨1, 9, 0, 7, 0, h0, h0, []⟩
def u9 : UpdM := ⟨9, 0, 0, h0, [120]⟩
theorem i64_lit {n : Int} (h : -9223372036854775808 ≤ n ∧ n ≤ 9223372036854775807) : I64 n := h
theorem m4_ok : m4.ok := ⟨i64_lit (by decide), i64_0, i64_0, i64_lit (by decide), i64_0, rfl, rfl, by decide⟩
theorem m7_ok : m7.ok := ⟨i64_lit (by decide), i64_0, i64_0, i64_lit (by decide), i64_0, rfl, rfl, by decide⟩
theorem mB_ok : mB.ok := ⟨i64_lit (by decide), i64_0, i64_0, i64_lit (by decide), i64_0, rfl, rfl, by decide⟩
theorem mU_ok : mU.ok := ⟨i64_lit (by decide), i64_lit (by decide), i64_0, i64_lit (by decide), i64_0, rfl, rfl, by decide⟩
theorem u9_ok : u9.ok := mkok (i64_lit (by decide)) i64_0 i64_0 rfl (by decide)
theorem b4_read : readMS b4 (m4, 0) := .inl ⟨m4_ok, by decide, by decide, rfl⟩
theorem b8_read {x : MsgM × Int} (h : readMS [8] x) : x = (MsgM.zero, 160) := by
  rcases h with ⟨h1, h2, h3, _⟩ | ⟨_, h⟩
  · have hk := (bytesM_kind h1 h2).2
    rw [← h3] at hk
    have h8 : num (slice [8] 0 1) = 8 := by decide
    rw [h8] at hk
    by_cases hik : isK x.1
    · unfold isK at hik; omega
    · obtain ⟨a, c⟩ := named_kind (validM_named h2).1 hik
      omega
  · exact h
theorem mi0 (x : MsgM × Int) : vextract (tupMI x) 0 = some x.1.av := rfl
theorem mi1 (x : MsgM × Int) : vextract (tupMI x) 1 = some (.int .i64 x.2) := rfl
theorem ub0 (x : UpdM × Bool) : vextract (tupUB x) 0 = some x.1.av := rfl
theorem ub1 (x : UpdM × Bool) : vextract (tupUB x) 1 = some (.bool x.2) := rfl

section
variable {F0 : List AId} {G0 G : Heap} {ps : List LP} {Q : AVal → Heap → Prop}

set_option maxHeartbeats 2000000 in
theorem escrowlaw16_head.use (hQ : ∀ G', Ch [] G [] G' → Q (.bool true) G') : ACalls P escrowlaw16_head.n [] G Q := by
  refine escrowlaw16_head.sound ?_
  unfold escrowlaw16_head.S
  rw [zMsg, zUpd]
  refine wv_of (v := m7.av) rfl ?_
  refine msg_Write.use m7_ok fun G3 c3 => ?_
  have hw : writeM m7 = ([7, 0, 0, 0, 0, 0, 0, 0, 3], 0) := by decide
  rw [hw, vext0, wv_some, vext1, wv_some]
  have s3 := (Sp.nil G).tmp c3
  refine msg_Read.use' (b := b4) (by decide) fun x G7 hx7 c7 => ?_
  rw [readMS_only hx7 b4_read, mi0, wv_some, mi1, wv_some]
  have s7 := s3.tmp c7
  intro i10 f10
  have s10 := s7.row f10 MsgM.zero.av
  refine msg_store (i := 0) s10 rfl MsgM.zero_ok m4_ok fun G12 s12 => ?_
  refine msg_Read.use' (b := [8]) (by decide) fun y G14 hy c14 => ?_
  rw [b8_read hy, mi0, wv_some, mi1, wv_some]
  have s14 := s12.tmp c14
  intro i17 f17
  have s17 := s14.row f17 MsgM.zero.av
  refine msg_store (i := 0) s17 rfl MsgM.zero_ok MsgM.zero_ok fun G19 s19 => ?_
  refine wv_of (v := mB.av) rfl ?_
  refine msg_Write.use mB_ok fun G22 c22 => ?_
  have hw : writeM mB = ([], 160) := by decide
  rw [hw, vext0, wv_some, vext1, wv_some]
  have s22 := s19.tmp c22
  refine wv_of (v := mU.av) rfl ?_
  refine msg_Update.use mU_ok fun G27 c27 => ?_
  have hu : updM mU = (⟨1, 9, 0, h0, []⟩, true) := by decide
  have huo : (⟨1, 9, 0, h0, []⟩ : UpdM).ok := mkok (i64_lit (by decide)) (i64_lit (by decide)) i64_0 rfl (by decide)
  rw [hu, ub0, wv_some, ub1, wv_some]
  have s27 := s22.tmp c27
  intro i30 f30
  have s30 := s27.row f30 UpdM.zero.av
  refine upd_store (i := 0) s30 rfl UpdM.zero_ok huo fun G32 s32 => ?_
  refine wv_of (v := u9.av) rfl ?_
  refine msg_Of.use u9_ok fun G35 c35 => ?_
  have s35 := s32.tmp c35
  intro i36 f36
  have s36 := s35.row f36 MsgM.zero.av
  have hmo := msgOf_ok u9_ok
  refine msg_store (i := 0) s36 rfl MsgM.zero_ok hmo fun G38 s38 => ?_
  have s38 : Sp [] G [RowL i36 (msgOf u9).av, RowL i30 (⟨1, 9, 0, h0, []⟩ : UpdM).av, RowL i17 MsgM.zero.av, RowL i10 m4.av] G38 := s38
  rw [vbin_seql, wv_some, decide_eq_true rfl, brB_true]
  refine wv_of (v := .bool true) rfl ?_
  rw [brB_true]
  refine wv_of (msg_load (i := 3) s38 rfl m4_ok).1 ?_
  refine wv_of (v := .bool true) rfl ?_
  rw [brB_true]
  refine wv_of (msg_load (i := 3) s38 rfl m4_ok).2.2.2.1 ?_
  refine wv_of (v := .bool true) rfl ?_
  rw [brB_true]
  have hg := RowL.own (i := 3) s38 rfl
  refine wv_of (v := .ptr i10 [5, 31] 36) rfl ?_
  refine wv_of (v := .int .u8 50) (by simp only [vload, vsub, hg, treeOf]; rfl) ?_
  refine wv_of (v := .bool true) rfl ?_
  rw [brB_true]
  refine wv_of (v := .bool true) rfl ?_
  rw [brB_true]
  refine wv_of (v := .bool true) rfl ?_
  rw [brB_true]
  refine wv_of (v := .bool true) rfl ?_
  rw [brB_true]
  refine wv_of (upd_load (i := 1) s38 rfl huo).2.2.2.2.2 ?_
  refine wv_of (v := (⟨1, 9, 0, h0, []⟩ : UpdM).av) rfl ?_
  rw [vbin_ueql huo huo, wv_some, decide_eq_true rfl, brB_true, brB_true]
  refine wv_of (msg_load (i := 0) s38 rfl hmo).2.2.2.2.2.2.2.2 ?_
  refine wv_of (v := (msgOf u9).av) rfl ?_
  rw [vbin_meql hmo hmo, wv_some, decide_eq_true rfl]
  exact hQ _ s38.ch

end
end Go.Esc.M
