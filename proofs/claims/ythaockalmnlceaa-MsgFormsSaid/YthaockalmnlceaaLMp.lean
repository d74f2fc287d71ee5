/- Own work. Chapter 16: MsgBytes. -/
import Derived.Test.YthaockalmnlceaaLMo
set_option linter.unusedSimpArgs false
set_option linter.unusedVariables false
namespace Go.Esc.M
open Go Go.Esc

theorem wt_Msg {G : Heap} {R d : Nat} {v : AVal} {m : Nat} (h : wt T G R (d + 3) t_api_Message v m) : ∃ u : MsgM, v = u.av ∧ u.ok := by
  obtain ⟨cs, ms, rfl, hf, rfl⟩ := wt_struct T_api_Message rfl h
  obtain ⟨c1, cs, m1, ms, rfl, rfl, h1, hf⟩ := wfs_cons hf
  obtain ⟨c2, cs, m2, ms, rfl, rfl, h2, hf⟩ := wfs_cons hf
  obtain ⟨c3, cs, m3, ms, rfl, rfl, h3, hf⟩ := wfs_cons hf
  obtain ⟨c4, cs, m4, ms, rfl, rfl, h4, hf⟩ := wfs_cons hf
  obtain ⟨c5, cs, m5, ms, rfl, rfl, h5, hf⟩ := wfs_cons hf
  obtain ⟨c6, cs, m6, ms, rfl, rfl, h6, hf⟩ := wfs_cons hf
  obtain ⟨c7, cs, m7, ms, rfl, rfl, h7, hf⟩ := wfs_cons hf
  obtain ⟨c8, cs, m8, ms, rfl, rfl, h8, hf⟩ := wfs_cons hf
  obtain ⟨rfl, rfl⟩ := wfs_nil hf
  obtain ⟨a, rfl, w1, _⟩ := wt_int T_int rfl h1
  obtain ⟨b, rfl, w2, _⟩ := wt_int T_int64 rfl h2
  obtain ⟨c, rfl, w3, _⟩ := wt_int T_int64 rfl h3
  obtain ⟨d', rfl, w4, _⟩ := wt_int T_int64 rfl h4
  obtain ⟨e, rfl, w5, _⟩ := wt_int T_int64 rfl h5
  obtain ⟨f, rfl, w6, _⟩ := wt_hash T_api_Hash rfl T_uint8 rfl h6
  obtain ⟨g, rfl, w7, _⟩ := wt_hash T_api_Hash rfl T_uint8 rfl h7
  obtain ⟨n, rfl, hR, hn, hm⟩ := wt_str T_string rfl h8
  exact ⟨⟨a, b, c, d', e, f, g, n⟩, rfl, ⟨i64_wf.1 w1, i64_wf.1 w2, i64_wf.1 w3, i64_wf.1 w4, i64_wf.1 w5, w6, w7, hn⟩⟩

set_option maxRecDepth 20000 in
set_option maxHeartbeats 2000000 in
theorem law_MsgBytes {G : Heap} {m b u : AVal} {m1 m2 m3 : Nat} (h1 : wt T G reachBytes 4 t_api_Message m m1) (h2 : wt T G reachBytes 4 t_string b m2) (h3 : wt T G reachBytes 4 t_api_Update u m3) :
    ACalls P escrowlaw16_MsgBytes.n [m, b, u] G fun v _ => v = .bool true := by
  obtain ⟨m, rfl, hm⟩ := wt_Msg h1
  obtain ⟨b, rfl, _, hbl, _⟩ := wt_str T_string rfl h2
  obtain ⟨u, rfl, hu, _, _⟩ := wt_Upd h3
  unfold maxLen at hbl
  refine escrowlaw16_MsgBytes.sound ?_
  unfold escrowlaw16_MsgBytes.S
  rw [zMsg, zUpd]
  intro i1 f1
  have s1 := (Sp.nil G).row f1 m.av
  intro i3 f3
  have s3 := s1.row f3 u.av
  refine escrowlaw16_head.use fun G6 c6 => ?_
  have s6 := s3.tmp c6
  rw [vun_not, wv_some, Bool.not_true, brB_false]
  refine wv_of (msg_load (i := 1) s6 rfl hm).2.2.2.2.2.2.2.2 ?_
  refine msg_Write.use hm fun G10 c10 => ?_
  have s10 := s6.tmp c10
  rw [vext0, wv_some, vext1, wv_some]
  refine wv_of (msg_load (i := 1) s10 rfl hm).2.2.2.2.2.2.2.2 ?_
  refine escrowref16_Write.use hm fun G15 c15 => ?_
  have s15 := s10.tmp c15
  rw [vext0, wv_some, vext1, wv_some]
  refine msg_Read.use' hbl fun x G19 hx c19 => ?_
  have s19 := s15.tmp c19
  have hxo := readMS_ok hx
  rw [mi0, wv_some, mi1, wv_some]
  intro i22 f22
  have s22 := s19.row f22 MsgM.zero.av
  refine msg_store (i := 0) s22 rfl MsgM.zero_ok hxo fun G24 s24 => ?_
  refine escrowref16_Read.use' hbl fun y G26 hy c26 => ?_
  have s26 := s24.tmp c26
  rw [readMS_only hy hx, mi0, wv_some, mi1, wv_some]
  intro i29 f29
  have s29 := s26.row f29 MsgM.zero.av
  refine msg_store (i := 0) s29 rfl MsgM.zero_ok hxo fun G31 s31 => ?_
  have s31 : Sp [] G [RowL i29 x.1.av, RowL i22 x.1.av, RowL i3 u.av, RowL i1 m.av] G31 := s31
  refine wv_of (msg_load (i := 3) s31 rfl hm).2.2.2.2.2.2.2.2 ?_
  refine msg_Update.use hm fun G34 c34 => ?_
  have s34 := s31.tmp c34
  have hv := updM_ok hm
  rw [ub0, wv_some, ub1, wv_some]
  intro i37 f37
  have s37 := s34.row f37 UpdM.zero.av
  refine upd_store (i := 0) s37 rfl UpdM.zero_ok hv fun G39 s39 => ?_
  refine wv_of (msg_load (i := 4) s39 rfl hm).2.2.2.2.2.2.2.2 ?_
  refine escrowref16_Update.use hm fun G42 c42 => ?_
  have s42 := s39.tmp c42
  rw [ub0, wv_some, ub1, wv_some]
  intro i45 f45
  have s45 := s42.row f45 UpdM.zero.av
  refine upd_store (i := 0) s45 rfl UpdM.zero_ok hv fun G47 s47 => ?_
  have s47 : Sp [] G [RowL i45 (updM m).1.av, RowL i37 (updM m).1.av, RowL i29 x.1.av, RowL i22 x.1.av, RowL i3 u.av, RowL i1 m.av] G47 := s47
  rw [vbin_seql, wv_some, decide_eq_true rfl, brB_true, ez0, wv_some, brB_true]
  refine wv_of (msg_load (i := 3) s47 rfl hxo).2.2.2.2.2.2.2.2 ?_
  refine wv_of (msg_load (i := 2) s47 rfl hxo).2.2.2.2.2.2.2.2 ?_
  rw [vbin_meql hxo hxo, wv_some, decide_eq_true rfl, brB_true, ez0, wv_some, brB_true]
  refine wv_of (upd_load (i := 1) s47 rfl hv).2.2.2.2.2 ?_
  refine wv_of (upd_load (i := 0) s47 rfl hv).2.2.2.2.2 ?_
  rw [vbin_ueql hv hv, wv_some, decide_eq_true rfl, brB_true, vbin_beql T_bool rfl, wv_some, beq_self_eq_true, brB_true]
  refine wv_of (upd_load (i := 4) s47 rfl hu).2.2.2.2.2 ?_
  refine wv_of (upd_load (i := 4) s47 rfl hu).2.2.2.2.2 ?_
  refine msg_Of.use hu fun G61 c61 => ?_
  have s61 := s47.tmp c61
  refine ⟨⟨(upd_load (i := 4) s61 rfl hu).2.2.2.2.2, trivial⟩, ?_⟩
  refine escrowref16_Of.use hu fun G63 c63 => ?_
  rw [vbin_meql (msgOf_ok hu) (msgOf_ok hu), wv_some, decide_eq_true rfl]

end Go.Esc.M
