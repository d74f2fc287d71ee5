/- Printed by gen.py (own work): functions of the program YtdoelihemgopcaaGreat over trees and the abstract heap. -/
import Derived.Test.YtdoelihemgopcaaGreatT
set_option linter.unusedSimpArgs false
set_option linter.unusedVariables false
namespace Go.Esc.M
open Go Go.Esc Go.Proofs

/-! #### escrow/escrowlaw17.RecordKeeps -/
def escrowlaw17_RecordKeeps.S (a0 a1 : AVal) (G : Heap) (Q : AVal → Heap → Prop) : Prop :=
  aNew G (.own (a0)) fun i1 G2 => ACalls P escrowlaw17_head.n [] G2 fun v3 G4 => wv (vun .not v3) fun v5 => brB (some v5)
  (Q (.bool false) G4)
  (wv (vload T G4 t_api_State (.ptr i1 [] 0)) fun v6 => ACalls P escrowlaw17_sound.n [v6] G4 fun v7 G8 => wv (vun .not v7) fun v9 => brB (some v9)
  (Q (.bool true) G8)
  (∀ R10 : List AVal → Heap → Prop,
  (∀ (x12 x13 x14 : AVal) (G11 : Heap), (wv (vlen T G11 t_sl_api_Record x12) fun v15 => wv (vbin T .lss t_int x14 v15) fun v16 => brB (some v16)
  (wv (vload T G11 t_api_State x13) fun v17 => wv (viaddr T t_sl_api_Record x12 x14) fun v18 => wv (vload T G11 t_api_Record v18) fun v19 => ACalls P record_Apply.n [v17, v19] G11 fun v20 G21 => wv (vextract v20 0) fun v22 => wv (vextract v20 1) fun v23 => aNew G21 (.own (z_api_State)) fun i24 G25 => wg (vstore T G25 t_api_State (.ptr i24 [] 0) v22) fun G26 => wv (vbin T .neq t_api_Errno v23 (.int .i64 0)) fun v27 => brB (some v27)
  (wv (vbin T .neq t_api_Errno v23 (.int .i64 170)) fun v28 => brB (some v28)
  (Q (.bool false) G26)
  (wv (vload T G26 t_sl_api_Update (.ptr i24 [4] 4)) fun v29 => wv (vlen T G26 t_sl_api_Update v29) fun v30 => wv (vload T G26 t_sl_api_Update (.ptr i24 [5] 5)) fun v31 => wv (vlen T G26 t_sl_api_Update v31) fun v32 => wv (vbin T .add t_int v30 v32) fun v33 => wv (vload T G26 t_sl_api_Slot (.ptr i24 [15] 112)) fun v34 => wv (vlen T G26 t_sl_api_Slot v34) fun v35 => wv (vbin T .add t_int v33 v35) fun v36 => wv (vbin T .neq t_int v36 (.int .i64 0)) fun v37 => brB (some v37)
  (Q (.bool false) G26)
  (wv (vload T G26 t_int64 (.ptr i24 [1] 1)) fun v38 => wv (vbin T .neq t_int64 v38 (.int .i64 0)) fun v39 => brB (some v39)
  (Q (.bool false) G26)
  (wv (vload T G26 t_int64 (.ptr i24 [17] 114)) fun v40 => wv (vbin T .neq t_int64 v40 (.int .i64 0)) fun v41 => brB (some v41)
  (Q (.bool false) G26)
  (wv (vload T G26 t_int64 (.ptr i24 [6] 6)) fun v42 => wv (vbin T .neq t_int64 v42 (.int .i64 0)) fun v43 => brB (some v43)
  (Q (.bool false) G26)
  (wv (vbin T .add t_int x14 (.int .i64 1)) fun v88 => R10 [x12, x13, v88] G26))))))
  (let J85 : AVal → Heap → Prop := (fun x82 G81 => brB (some x82)
  (Q (.bool false) G81)
  (wv (vload T G81 t_api_State (.ptr i24 [] 0)) fun v83 => wg (vstore T G81 t_api_State x13 v83) fun G84 => wv (vbin T .add t_int x14 (.int .i64 1)) fun v89 => R10 [x12, x13, v89] G84));
  wv (vload T G26 t_api_State (.ptr i24 [] 0)) fun v46 => ACalls P escrowlaw17_sound.n [v46] G26 fun v47 G48 => wv (vun .not v47) fun v49 => brB (some v49)
  (J85 (.bool true) G48)
  (wv (vfaddr T t_api_State x13 6) fun v50 => wv (vload T G48 t_int64 v50) fun v51 => wv (vload T G48 t_int64 (.ptr i24 [6] 6)) fun v52 => ACalls P escrowlaw17_rises.n [v51, v52] G48 fun v53 G54 => wv (vun .not v53) fun v55 => brB (some v55)
  (J85 (.bool true) G54)
  (wv (vfaddr T t_api_State x13 7) fun v56 => wv (vload T G54 t_int64 v56) fun v57 => wv (vload T G54 t_int64 (.ptr i24 [7] 7)) fun v58 => ACalls P escrowlaw17_rises.n [v57, v58] G54 fun v59 G60 => wv (vun .not v59) fun v61 => brB (some v61)
  (J85 (.bool true) G60)
  (wv (vfaddr T t_api_State x13 8) fun v62 => wv (vload T G60 t_int64 v62) fun v63 => wv (vload T G60 t_int64 (.ptr i24 [8] 8)) fun v64 => ACalls P escrowlaw17_rises.n [v63, v64] G60 fun v65 G66 => wv (vun .not v65) fun v67 => brB (some v67)
  (J85 (.bool true) G66)
  (wv (vload T G66 t_api_State x13) fun v68 => wv (vload T G66 t_api_State (.ptr i24 [] 0)) fun v69 => ACalls P escrowlaw17_grows.n [v68, v69] G66 fun v70 G71 => wv (vun .not v70) fun v72 => brB (some v72)
  (J85 (.bool true) G71)
  (wv (vload T G71 t_api_State x13) fun v73 => wv (vload T G71 t_api_State (.ptr i24 [] 0)) fun v74 => wv (viaddr T t_sl_api_Record x12 x14) fun v75 => wv (vfaddr T t_api_Record v75 0) fun v76 => wv (vload T G71 t_int v76) fun v77 => ACalls P escrowlaw17_fixed.n [v73, v74, v77] G71 fun v78 G79 => wv (vun .not v78) fun v80 => J85 v80 G79)))))))
  (Q (.bool true) G11)) → R10 [x12, x13, x14] G11) →
  R10 [a1, .ptr i1 [] 0, .int .i64 0] G8))
def escrowlaw17_RecordKeeps.an : Ann := .two (.nil) (.two (.nil) (.two (.nil) (.two (.two (.nil) (.loop [1, 2, 5] [false, false, false] (.two (.nil) (.two (.two (.ord [(0, []), (1, []), (2, []), (3, []), (4, []), (5, []), (6, []), (7, []), (8, []), (9, []), (10, []), (11, [])]) (.two (.nil) (.two (.two (.ord [(0, []), (1, []), (2, []), (3, []), (4, []), (5, []), (6, []), (7, []), (8, []), (9, []), (10, []), (11, []), (12, []), (13, []), (14, []), (15, []), (16, []), (17, []), (18, []), (19, []), (20, []), (21, []), (22, []), (23, []), (24, []), (25, []), (26, []), (27, []), (28, []), (29, []), (30, []), (31, []), (32, []), (33, []), (34, []), (35, []), (36, []), (37, []), (38, []), (39, []), (40, []), (41, []), (42, []), (43, [])]) (.nil)) (.nil)))) (.nil))))) (.nil))))
set_option maxRecDepth 100000 in
theorem escrowlaw17_RecordKeeps.sound {a0 a1 : AVal} {G : Heap} {Q : AVal → Heap → Prop} (h : escrowlaw17_RecordKeeps.S a0 a1 G Q) : ACalls P escrowlaw17_RecordKeeps.n [a0, a1] G Q := by
  have e : escrowlaw17_RecordKeeps.S a0 a1 G Q = awp cx (escrowlaw17_RecordKeeps.body) escrowlaw17_RecordKeeps.an (bodyQ T [.tmp 4] Q) (envL [a0, a1]) G := by kernel_rfl
  exact ACalls_of_awp cxOk (f := escrowlaw17_RecordKeeps.n) (fn := Tryz.f5) (c := escrowlaw17_RecordKeeps.body) (an := escrowlaw17_RecordKeeps.an) Tryz.func5 (by kernel_rfl) (by kernel_rfl) (by kernel_rfl) (drawsOk_of (by kernel_rfl) (by kernel_rfl)) (by simp [Tryz.f5]) (e ▸ h)

end Go.Esc.M
