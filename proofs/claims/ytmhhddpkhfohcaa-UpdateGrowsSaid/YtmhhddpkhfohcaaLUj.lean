/- Own work. Chapter 12: UpdateNexts, the law. -/
import Derived.Test.YtmhhddpkhfohcaaLUi
set_option linter.unusedSimpArgs false
set_option linter.unusedVariables false
namespace Go.Esc.M
open Go Go.Esc

theorem wt_Upds {G : Heap} {R d : Nat} {v : AVal} {m : Nat} (h : wt T G R (d + 4) t_sl_api_Update v m) : ∃ l : List UpdM, RoSl 36 G v (l.map UpdM.av) ∧ (∀ u ∈ l, u.ok) ∧ l.length * 72 ≤ R := by
  obtain ⟨xs, ms, hro, hall, hms, hR, _⟩ := wt_ro UpdM.av (fun u m => u.ok) T_sl_api_Update rfl T_api_Update (fun c m h => by obtain ⟨u, hu, ho, _⟩ := wt_Upd h; exact ⟨u, hu, ho⟩) h
  refine ⟨xs, hro, fun u hu => ?_, hR⟩
  obtain ⟨m, hm, _⟩ := hall.mem hu
  exact hm

set_option maxRecDepth 20000 in
set_option maxHeartbeats 2000000 in
theorem law_UpdateNexts {G : Heap} {v w u id : AVal} {m1 m2 m3 m4 : Nat} (h1 : wt T G reachBytes 4 t_sl_api_Update v m1) (h2 : wt T G reachBytes 4 t_sl_api_Update w m2) (h3 : wt T G reachBytes 4 t_api_Update u m3) (h4 : wt T G reachBytes 4 t_int64 id m4) :
    ACalls P escrowlaw12_UpdateNexts.n [v, w, u, id] G fun v _ => v = .bool true := by
  obtain ⟨mine, hro1, hok1, hR1⟩ := wt_Upds h1
  obtain ⟨others, hro2, hok2, hR2⟩ := wt_Upds h2
  obtain ⟨u, rfl, huo, _, _⟩ := wt_Upd h3
  obtain ⟨id, rfl, _⟩ := wt_int T_int64 rfl h4
  have hR1 : mine.length * 72 ≤ 140737488351232 := hR1
  have hR2 : others.length * 72 ≤ 140737488351232 := hR2
  have hl := hro1.is
  have hm := hro2.is
  refine escrowlaw12_UpdateNexts.sound ?_
  unfold escrowlaw12_UpdateNexts.S
  rw [zUpd]
  intro i1 f1
  have s1 := (Sp.nil G).row f1 u.av
  refine escrowlaw12_head.use fun G4 c4 => ?_
  have s4 := s1.tmp c4
  rw [vun_not, wv_some, Bool.not_true, brB_false]
  refine wv_of (upd_load (i := 0) s4 rfl huo).2.2.2.2.2 ?_
  refine escrowref12_Next.use (hl.ch' s4.ch) (hm.ch' s4.ch) hok1 hok2 (by omega) (by omega) huo fun G8 c8 => ?_
  have s8 := s4.tmp c8
  obtain ⟨want, hwant⟩ : ∃ x, x = nextU mine others u := ⟨_, rfl⟩
  rw [← hwant]
  refine escrowref12_Find.use (hl.ch' s8.ch) hok1 (by omega) fun G10 c10 => ?_
  have s10 := s8.tmp c10
  have hf1 := firstU_ok (rm := false) (id := id) hok1
  have hf2 := firstU_ok (rm := true) (id := id) hok2
  obtain ⟨A, hA⟩ : ∃ A, A = firstU false id mine := ⟨_, rfl⟩
  obtain ⟨B, hB⟩ : ∃ A, A = firstU true id others := ⟨_, rfl⟩
  rw [← hA] at hf1 ⊢
  rw [← hB] at hf2
  rw [opt0, wv_some, opt1, wv_some]
  intro i13 f13
  have s13 := s10.row f13 UpdM.zero.av
  refine upd_store (i := 0) s13 rfl UpdM.zero_ok hf1 fun G15 s15 => ?_
  refine escrowref12_Removal.use (hm.ch' s15.ch) hok2 (by omega) fun G17 c17 => ?_
  have s17 := s15.tmp c17
  rw [← hB, opt0, wv_some, opt1, wv_some]
  intro i20 f20
  have s20 := s17.row f20 UpdM.zero.av
  refine upd_store (i := 0) s20 rfl UpdM.zero_ok hf2 fun G22 s22 => ?_
  refine escrowlaw12_lent.use (hl.ch' s22.ch) hok1 (by omega) fun x G24 s24 => ?_
  obtain ⟨F24, ho24, c24⟩ := s24.out
  have s24 := s22.new ho24 c24
  refine escrowlaw12_lent.use (hm.ch' s24.ch) hok2 (by omega) fun y G26 s26 => ?_
  obtain ⟨F26, ho26, c26⟩ := s26.out
  have s26 := s24.new ho26 c26
  have s26 : Sp [] G [OwnL 36 y ((others ++ [uM, uN]).map UpdM.av), OwnL 36 x ((mine ++ [uM, uN]).map UpdM.av), RowL i20 (B.getD UpdM.zero).av, RowL i13 (A.getD UpdM.zero).av, RowL i1 u.av] G26 := s26
  refine wv_of (upd_len (hl.ch' s26.ch)) ?_
  obtain ⟨x', hx', hxo⟩ := own_take (m := mine.length) (OwnL.own (i := 1) s26 rfl) (by simp)
  refine wv_of hx' ?_
  refine wv_of (upd_len (hm.ch' s26.ch)) ?_
  obtain ⟨y', hy', hyo⟩ := own_take (m := others.length) (OwnL.own (i := 0) s26 rfl) (by simp)
  refine wv_of hy' ?_
  have et : ∀ l : List UpdM, ((l ++ [uM, uN]).map UpdM.av).take l.length = l.map UpdM.av := fun l => by
    rw [List.map_append, List.take_left' (by simp)]
  rw [et] at hxo hyo
  refine wv_of (upd_load (i := 4) s26 rfl huo).2.2.2.2.2 ?_
  refine update_Next.use (hxo (OwnL.own (i := 1) s26 rfl)).is (hyo (OwnL.own (i := 0) s26 rfl)).is hok1 hok2 (by omega) (by omega) huo fun G33 c33 => ?_
  have s33 := s26.tmp c33
  rw [← hwant, nz0, wv_some, brB_false]
  refine wv_of (upd_len (hl.ch' s33.ch)) ?_
  refine wv_of hx' ?_
  refine update_Find.use (hxo (OwnL.own (i := 1) s33 rfl)).is hok1 (by omega) fun G38 c38 => ?_
  have s38 := s33.tmp c38
  rw [← hA, opt0, wv_some, opt1, wv_some]
  intro i41 f41
  have s41 := s38.row f41 UpdM.zero.av
  refine upd_store (i := 0) s41 rfl UpdM.zero_ok hf1 fun G43 s43 => ?_
  refine wv_of (upd_len (hm.ch' s43.ch)) ?_
  refine wv_of hy' ?_
  refine update_Removal.use (hyo (OwnL.own (i := 1) s43 rfl)).is hok2 (by omega) fun G47 c47 => ?_
  have s47 := s43.tmp c47
  rw [← hB, opt0, wv_some, opt1, wv_some]
  intro i50 f50
  have s50 := s47.row f50 UpdM.zero.av
  refine upd_store (i := 0) s50 rfl UpdM.zero_ok hf2 fun G52 s52 => ?_
  have s52 : Sp [] G [RowL i50 (B.getD UpdM.zero).av, RowL i41 (A.getD UpdM.zero).av, OwnL 36 y ((others ++ [uM, uN]).map UpdM.av), OwnL 36 x ((mine ++ [uM, uN]).map UpdM.av), RowL i20 (B.getD UpdM.zero).av, RowL i13 (A.getD UpdM.zero).av, RowL i1 u.av] G52 := s52
  refine wv_of (upd_load (i := 5) s52 rfl hf1).2.2.2.2.2 ?_
  refine wv_of (upd_load (i := 1) s52 rfl hf1).2.2.2.2.2 ?_
  rw [vbin_ueql hf1 hf1, wv_some, decide_eq_true rfl, brB_true, vbin_beql T_bool rfl, wv_some, beq_self_eq_true, brB_true]
  refine wv_of (upd_load (i := 4) s52 rfl hf2).2.2.2.2.2 ?_
  refine wv_of (upd_load (i := 0) s52 rfl hf2).2.2.2.2.2 ?_
  rw [vbin_ueql hf2 hf2, wv_some, decide_eq_true rfl, brB_true, vbin_beql T_bool rfl, wv_some, beq_self_eq_true, brB_true]
  have hokM : ∀ l : List UpdM, (∀ u ∈ l, u.ok) → ∀ u ∈ l ++ [uM, uN], u.ok := fun l h u hu => by
    rcases List.mem_append.1 hu with hu | hu
    · exact h u hu
    · rcases List.mem_cons.1 hu with rfl | hu
      · exact uM_ok
      · rw [List.mem_singleton.1 hu]; exact uN_ok
  refine escrowlaw12_lent.use (hl.ch' s52.ch) hok1 (by omega) fun z G62 s62 => ?_
  obtain ⟨F62, ho62, c62⟩ := s62.out
  have s62 := s52.new ho62 c62
  refine escrowref12_Same.use (OwnL.own (i := 4) s62 rfl).is (OwnL.own (i := 0) s62 rfl).is (hokM _ hok1) (by simp; omega) ?_
  rw [brB_true]
  refine escrowlaw12_lent.use (hm.ch' s62.ch) hok2 (by omega) fun z2 G66 s66 => ?_
  obtain ⟨F66, ho66, c66⟩ := s66.out
  have s66 := s62.new ho66 c66
  exact escrowref12_Same.use (OwnL.own (i := 4) s66 rfl).is (OwnL.own (i := 0) s66 rfl).is (hokM _ hok2) (by simp; omega) rfl

end Go.Esc.M
