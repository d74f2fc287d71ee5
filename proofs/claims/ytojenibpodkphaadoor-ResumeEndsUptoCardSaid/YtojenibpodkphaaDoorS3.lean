/- Printed by gen.py (own work): functions of the program YtojenibpodkphaaDoor over trees and the abstract heap. -/
import Derived.Test.YtojenibpodkphaaDoorT
set_option linter.unusedSimpArgs false
set_option linter.unusedVariables false
namespace Go.Esc.M
open Go Go.Esc Go.Proofs

/-! #### escrow/escrowlaw18.first -/
def escrowlaw18_first.S (G : Heap) (Q : AVal → Heap → Prop) : Prop :=
  wv (vbuild T t_escrowlaw15_Deal [(0, .int .i64 1000), (1, .int .i64 700)]) fun v1 => ACalls P escrowlaw15_Configs.n [v1] G fun v2 G3 => wv (vindex T t_ar2_api_Config v2 (.int .i64 0)) fun v4 => aNew G3 (.own (z_api_Config)) fun i5 G6 => wg (vstore T G6 t_api_Config (.ptr i5 [] 0) v4) fun G7 => wv (vload T G7 t_api_Config (.ptr i5 [] 0)) fun v8 => ACalls P escrowref15_Start.n [v8] G7 fun v9 G10 => wv (vextract v9 0) fun v11 => wv (vextract v9 1) fun v12 => aNew G10 (.own (z_api_State)) fun i13 G14 => wg (vstore T G14 t_api_State (.ptr i13 [] 0) v11) fun G15 => wv (vload T G15 t_api_Hash (.ptr i5 [3] 3)) fun v16 => ACalls P escrowref09_Secret.n [v16, .int .i64 0] G15 fun v17 G18 => wv (vextract v17 0) fun v19 => wv (vextract v17 1) fun v20 => aNew G18 (.own (z_api_Hash)) fun i21 G22 => wg (vstore T G22 t_api_Hash (.ptr i21 [] 0) v19) fun G23 => wv (vload T G23 t_api_Config (.ptr i5 [] 0)) fun v24 => wv (vload T G23 t_api_State (.ptr i13 [] 0)) fun v25 => ACalls P resume_Hello.n [v24, v25] G23 fun v26 G27 => aNew G27 (.own (z_api_Message)) fun i28 G29 => wg (vstore T G29 t_api_Message (.ptr i28 [] 0) v26) fun G30 => wv (vload T G30 t_api_Config (.ptr i5 [] 0)) fun v31 => wv (vload T G30 t_api_State (.ptr i13 [] 0)) fun v32 => wv (vbuild T t_api_Message [(0, .int .i64 6), (3, .int .i64 1)]) fun v33 => ACalls P resume_Answer.n [v31, v32, v33] G30 fun v34 G35 => wv (vextract v34 0) fun v36 => wv (vextract v34 1) fun v37 => wv (vload T G35 t_api_Config (.ptr i5 [] 0)) fun v38 => wv (vload T G35 t_api_State (.ptr i13 [] 0)) fun v39 => wv (vbuild T t_api_Message [(0, .int .i64 6), (3, .int .i64 2)]) fun v40 => ACalls P resume_Answer.n [v38, v39, v40] G35 fun v41 G42 => wv (vextract v41 0) fun v43 => wv (vextract v41 1) fun v44 => wv (vload T G42 t_api_Config (.ptr i5 [] 0)) fun v45 => wv (vload T G42 t_api_State (.ptr i13 [] 0)) fun v46 => wv (vbuild T t_api_Message [(0, .int .i64 6), (3, .int .i64 1), (4, .int .i64 1)]) fun v47 => ACalls P resume_Answer.n [v45, v46, v47] G42 fun v48 G49 => wv (vextract v48 0) fun v50 => wv (vextract v48 1) fun v51 => wv (vload T G49 t_api_Config (.ptr i5 [] 0)) fun v52 => wv (vload T G49 t_api_State (.ptr i13 [] 0)) fun v53 => wv (vload T G49 t_api_Hash (.ptr i21 [] 0)) fun v54 => wv (vbuild T t_api_Message [(0, .int .i64 6), (3, .int .i64 1), (4, .int .i64 1), (6, v54)]) fun v55 => ACalls P resume_Answer.n [v52, v53, v55] G49 fun v56 G57 => wv (vextract v56 0) fun v58 => wv (vextract v56 1) fun v59 => wv (vbuild T t_api_Update [(0, .int .i64 1), (2, .int .i64 5)]) fun v60 => aBuildSlice T t_sl_api_Update 1 [(0, v60)] G57 fun v61 G62 => wg (vstore T G62 t_sl_api_Update (.ptr i13 [4] 4) v61) fun G63 => wv (vload T G63 t_api_Config (.ptr i5 [] 0)) fun v64 => wv (vload T G63 t_api_State (.ptr i13 [] 0)) fun v65 => wv (vbuild T t_api_Message [(0, .int .i64 6), (3, .int .i64 1)]) fun v66 => ACalls P resume_Answer.n [v64, v65, v66] G63 fun v67 G68 => wv (vextract v67 0) fun v69 => wv (vextract v67 1) fun v70 => wv (vload T G68 t_api_Message (.ptr i28 [] 0)) fun v71 => wv (vbuild T t_api_Message [(0, .int .i64 6), (3, .int .i64 1)]) fun v72 => wv (vbin T .eql t_api_Message v71 v72) fun v73 => brB (some v73)
  (wv (vbin T .eql t_api_Errno v37 (.int .i64 0)) fun v74 => brB (some v74)
  (wv (vbin T .eql t_api_Errno v44 (.int .i64 90)) fun v75 => brB (some v75)
  (wv (vbin T .eql t_api_Errno v51 (.int .i64 100)) fun v76 => brB (some v76)
  (wv (vbin T .eql t_api_Errno v59 (.int .i64 180)) fun v77 => brB (some v77)
  (wv (vbin T .eql t_api_Errno v70 (.int .i64 0)) fun v78 => brB (some v78)
  (wv (vbuild T t_api_Message [(0, .int .i64 1), (2, .int .i64 5)]) fun v79 => aBuildSlice T t_sl_api_Message 1 [(0, v79)] G68 fun v80 G81 => ACalls P escrowlaw18_same.n [v69, v80] G81 fun v82 G83 => Q v82 G83)
  (Q (.bool false) G68))
  (Q (.bool false) G68))
  (Q (.bool false) G68))
  (Q (.bool false) G68))
  (Q (.bool false) G68))
  (Q (.bool false) G68)
def escrowlaw18_first.an : Ann := .nil
set_option maxRecDepth 100000 in
theorem escrowlaw18_first.sound {G : Heap} {Q : AVal → Heap → Prop} (h : escrowlaw18_first.S G Q) : ACalls P escrowlaw18_first.n [] G Q := by
  have e : escrowlaw18_first.S G Q = awp cx (escrowlaw18_first.body) escrowlaw18_first.an (bodyQ T [.tmp 0] Q) (envL []) G := by kernel_rfl
  exact ACalls_of_awp cxOk (f := escrowlaw18_first.n) (fn := Tryd.f4) (c := escrowlaw18_first.body) (an := escrowlaw18_first.an) Tryd.func4 (by kernel_rfl) (by kernel_rfl) (by kernel_rfl) (drawsOk_of (by kernel_rfl) (by kernel_rfl)) (by simp [Tryd.f4]) (e ▸ h)

/-! #### escrow/escrowlaw15.Copy -/
def escrowlaw15_Copy.S (a0 : AVal) (G : Heap) (Q : AVal → Heap → Prop) : Prop :=
  aNew G (.own (a0)) fun i1 G2 => aNew G2 (.own (z_api_State)) fun i3 G4 => wv (vload T G4 t_sl_api_Update (.ptr i1 [4] 4)) fun v5 => aAppend T G4 t_sl_api_Update t_sl_api_Update (.nilSlice) v5 fun v6 G7 => wg (vstore T G7 t_sl_api_Update (.ptr i1 [4] 4) v6) fun G8 => wv (vload T G8 t_sl_api_Update (.ptr i1 [5] 5)) fun v9 => aAppend T G8 t_sl_api_Update t_sl_api_Update (.nilSlice) v9 fun v10 G11 => wg (vstore T G11 t_sl_api_Update (.ptr i1 [5] 5) v10) fun G12 => wv (vload T G12 t_sl_api_Slot (.ptr i1 [15] 112)) fun v13 => aAppend T G12 t_sl_api_Slot t_sl_api_Slot (.nilSlice) v13 fun v14 G15 => wg (vstore T G15 t_sl_api_Slot (.ptr i1 [15] 112) v14) fun G16 => wv (vload T G16 t_api_State (.ptr i1 [] 0)) fun v17 => wg (vstore T G16 t_api_State (.ptr i3 [] 0) v17) fun G18 => wv (vload T G18 t_api_State (.ptr i3 [] 0)) fun v19 => Q v19 G18
def escrowlaw15_Copy.an : Ann := .nil
set_option maxRecDepth 100000 in
theorem escrowlaw15_Copy.sound {a0 : AVal} {G : Heap} {Q : AVal → Heap → Prop} (h : escrowlaw15_Copy.S a0 G Q) : ACalls P escrowlaw15_Copy.n [a0] G Q := by
  have e : escrowlaw15_Copy.S a0 G Q = awp cx (escrowlaw15_Copy.body) escrowlaw15_Copy.an (bodyQ T [.cell 2 32] Q) (envL [a0]) G := by kernel_rfl
  exact ACalls_of_awp cxOk (f := escrowlaw15_Copy.n) (fn := Tryd.f5) (c := escrowlaw15_Copy.body) (an := escrowlaw15_Copy.an) Tryd.func5 (by kernel_rfl) (by kernel_rfl) (by kernel_rfl) (drawsOk_of (by kernel_rfl) (by kernel_rfl)) (by simp [Tryd.f5]) (e ▸ h)

/-! #### escrow/escrowlaw15.SameUpdates -/
def escrowlaw15_SameUpdates.S (a0 a1 : AVal) (G : Heap) (Q : AVal → Heap → Prop) : Prop :=
  wv (vlen T G t_sl_api_Update a0) fun v1 => wv (vlen T G t_sl_api_Update a1) fun v2 => wv (vbin T .neq t_int v1 v2) fun v3 => brB (some v3)
  (Q (.bool false) G)
  (∀ R4 : List AVal → Heap → Prop,
  (∀ (x6 x7 x8 : AVal) (G5 : Heap), (wv (vlen T G5 t_sl_api_Update x6) fun v9 => wv (vbin T .lss t_int x8 v9) fun v10 => brB (some v10)
  (wv (viaddr T t_sl_api_Update x6 x8) fun v11 => wv (vload T G5 t_api_Update v11) fun v12 => wv (viaddr T t_sl_api_Update x7 x8) fun v13 => wv (vload T G5 t_api_Update v13) fun v14 => wv (vbin T .neq t_api_Update v12 v14) fun v15 => brB (some v15)
  (Q (.bool false) G5)
  (wv (vbin T .add t_int x8 (.int .i64 1)) fun v16 => R4 [x6, x7, v16] G5))
  (Q (.bool true) G5)) → R4 [x6, x7, x8] G5) →
  R4 [a0, a1, .int .i64 0] G)
def escrowlaw15_SameUpdates.an : Ann := .two (.nil) (.two (.nil) (.two (.two (.nil) (.loop [0, 1, 5] (.two (.nil) (.two (.two (.ord [(0, []), (1, []), (2, []), (3, []), (4, []), (5, []), (6, []), (7, []), (8, [])]) (.nil)) (.nil))))) (.nil)))
set_option maxRecDepth 100000 in
theorem escrowlaw15_SameUpdates.sound {a0 a1 : AVal} {G : Heap} {Q : AVal → Heap → Prop} (h : escrowlaw15_SameUpdates.S a0 a1 G Q) : ACalls P escrowlaw15_SameUpdates.n [a0, a1] G Q := by
  have e : escrowlaw15_SameUpdates.S a0 a1 G Q = awp cx (escrowlaw15_SameUpdates.body) escrowlaw15_SameUpdates.an (bodyQ T [.tmp 4] Q) (envL [a0, a1]) G := by kernel_rfl
  exact ACalls_of_awp cxOk (f := escrowlaw15_SameUpdates.n) (fn := Tryd.f20) (c := escrowlaw15_SameUpdates.body) (an := escrowlaw15_SameUpdates.an) Tryd.func20 (by kernel_rfl) (by kernel_rfl) (by kernel_rfl) (drawsOk_of (by kernel_rfl) (by kernel_rfl)) (by simp [Tryd.f20]) (e ▸ h)

/-! #### escrow/escrowlaw15.SameState -/
def escrowlaw15_SameState.S (a0 a1 : AVal) (G : Heap) (Q : AVal → Heap → Prop) : Prop :=
  aNew G (.own (a0)) fun i1 G2 => aNew G2 (.own (a1)) fun i3 G4 => wv (vload T G4 t_sl_api_Slot (.ptr i1 [15] 112)) fun v5 => wv (vlen T G4 t_sl_api_Slot v5) fun v6 => wv (vload T G4 t_sl_api_Slot (.ptr i3 [15] 112)) fun v7 => wv (vlen T G4 t_sl_api_Slot v7) fun v8 => wv (vbin T .neq t_int v6 v8) fun v9 => brB (some v9)
  (Q (.bool false) G4)
  (∀ R10 : List AVal → Heap → Prop,
  (∀ (x12 x13 x14 : AVal) (G11 : Heap), (wv (vfaddr T t_api_State x12 15) fun v15 => wv (vload T G11 t_sl_api_Slot v15) fun v16 => wv (vlen T G11 t_sl_api_Slot v16) fun v17 => wv (vbin T .lss t_int x14 v17) fun v18 => brB (some v18)
  (wv (vfaddr T t_api_State x12 15) fun v19 => wv (vload T G11 t_sl_api_Slot v19) fun v20 => wv (viaddr T t_sl_api_Slot v20 x14) fun v21 => wv (vload T G11 t_api_Slot v21) fun v22 => wv (vfaddr T t_api_State x13 15) fun v23 => wv (vload T G11 t_sl_api_Slot v23) fun v24 => wv (viaddr T t_sl_api_Slot v24 x14) fun v25 => wv (vload T G11 t_api_Slot v25) fun v26 => wv (vbin T .neq t_api_Slot v22 v26) fun v27 => brB (some v27)
  (Q (.bool false) G11)
  (wv (vbin T .add t_int x14 (.int .i64 1)) fun v28 => R10 [x12, x13, v28] G11))
  (wv (vfaddr T t_api_State x12 0) fun v29 => wv (vload T G11 t_int v29) fun v30 => wv (vfaddr T t_api_State x13 0) fun v31 => wv (vload T G11 t_int v31) fun v32 => wv (vbin T .eql t_int v30 v32) fun v33 => brB (some v33)
  (wv (vfaddr T t_api_State x12 1) fun v34 => wv (vload T G11 t_int64 v34) fun v35 => wv (vfaddr T t_api_State x13 1) fun v36 => wv (vload T G11 t_int64 v36) fun v37 => wv (vbin T .eql t_int64 v35 v37) fun v38 => brB (some v38)
  (wv (vfaddr T t_api_State x12 2) fun v39 => wv (vload T G11 t_int64 v39) fun v40 => wv (vfaddr T t_api_State x13 2) fun v41 => wv (vload T G11 t_int64 v41) fun v42 => wv (vbin T .eql t_int64 v40 v42) fun v43 => brB (some v43)
  (wv (vfaddr T t_api_State x12 3) fun v44 => wv (vload T G11 t_int64 v44) fun v45 => wv (vfaddr T t_api_State x13 3) fun v46 => wv (vload T G11 t_int64 v46) fun v47 => wv (vbin T .eql t_int64 v45 v47) fun v48 => brB (some v48)
  (wv (vfaddr T t_api_State x12 4) fun v49 => wv (vload T G11 t_sl_api_Update v49) fun v50 => wv (vfaddr T t_api_State x13 4) fun v51 => wv (vload T G11 t_sl_api_Update v51) fun v52 => ACalls P escrowlaw15_SameUpdates.n [v50, v52] G11 fun v53 G54 => brB (some v53)
  (wv (vfaddr T t_api_State x12 5) fun v55 => wv (vload T G54 t_sl_api_Update v55) fun v56 => wv (vfaddr T t_api_State x13 5) fun v57 => wv (vload T G54 t_sl_api_Update v57) fun v58 => ACalls P escrowlaw15_SameUpdates.n [v56, v58] G54 fun v59 G60 => brB (some v59)
  (wv (vfaddr T t_api_State x12 6) fun v61 => wv (vload T G60 t_int64 v61) fun v62 => wv (vfaddr T t_api_State x13 6) fun v63 => wv (vload T G60 t_int64 v63) fun v64 => wv (vbin T .eql t_int64 v62 v64) fun v65 => brB (some v65)
  (wv (vfaddr T t_api_State x12 7) fun v66 => wv (vload T G60 t_int64 v66) fun v67 => wv (vfaddr T t_api_State x13 7) fun v68 => wv (vload T G60 t_int64 v68) fun v69 => wv (vbin T .eql t_int64 v67 v69) fun v70 => brB (some v70)
  (wv (vfaddr T t_api_State x12 8) fun v71 => wv (vload T G60 t_int64 v71) fun v72 => wv (vfaddr T t_api_State x13 8) fun v73 => wv (vload T G60 t_int64 v73) fun v74 => wv (vbin T .eql t_int64 v72 v74) fun v75 => brB (some v75)
  (wv (vfaddr T t_api_State x12 9) fun v76 => wv (vload T G60 t_api_Counts v76) fun v77 => wv (vfaddr T t_api_State x13 9) fun v78 => wv (vload T G60 t_api_Counts v78) fun v79 => wv (vbin T .eql t_api_Counts v77 v79) fun v80 => brB (some v80)
  (wv (vfaddr T t_api_State x12 10) fun v81 => wv (vload T G60 t_api_Counts v81) fun v82 => wv (vfaddr T t_api_State x13 10) fun v83 => wv (vload T G60 t_api_Counts v83) fun v84 => wv (vbin T .eql t_api_Counts v82 v84) fun v85 => brB (some v85)
  (wv (vfaddr T t_api_State x12 11) fun v86 => wv (vload T G60 t_api_Counts v86) fun v87 => wv (vfaddr T t_api_State x13 11) fun v88 => wv (vload T G60 t_api_Counts v88) fun v89 => wv (vbin T .eql t_api_Counts v87 v89) fun v90 => brB (some v90)
  (wv (vfaddr T t_api_State x12 12) fun v91 => wv (vload T G60 t_bool v91) fun v92 => wv (vfaddr T t_api_State x13 12) fun v93 => wv (vload T G60 t_bool v93) fun v94 => wv (vbin T .eql t_bool v92 v94) fun v95 => brB (some v95)
  (wv (vfaddr T t_api_State x12 13) fun v96 => wv (vload T G60 t_ar2_api_Hash v96) fun v97 => wv (vfaddr T t_api_State x13 13) fun v98 => wv (vload T G60 t_ar2_api_Hash v98) fun v99 => wv (vbin T .eql t_ar2_api_Hash v97 v99) fun v100 => brB (some v100)
  (wv (vfaddr T t_api_State x12 14) fun v101 => wv (vload T G60 t_api_Hash v101) fun v102 => wv (vfaddr T t_api_State x13 14) fun v103 => wv (vload T G60 t_api_Hash v103) fun v104 => wv (vbin T .eql t_api_Hash v102 v104) fun v105 => brB (some v105)
  (wv (vfaddr T t_api_State x12 16) fun v106 => wv (vload T G60 t_int v106) fun v107 => wv (vfaddr T t_api_State x13 16) fun v108 => wv (vload T G60 t_int v108) fun v109 => wv (vbin T .eql t_int v107 v109) fun v110 => brB (some v110)
  (wv (vfaddr T t_api_State x12 17) fun v111 => wv (vload T G60 t_int64 v111) fun v112 => wv (vfaddr T t_api_State x13 17) fun v113 => wv (vload T G60 t_int64 v113) fun v114 => wv (vbin T .eql t_int64 v112 v114) fun v115 => Q v115 G60)
  (Q (.bool false) G60))
  (Q (.bool false) G60))
  (Q (.bool false) G60))
  (Q (.bool false) G60))
  (Q (.bool false) G60))
  (Q (.bool false) G60))
  (Q (.bool false) G60))
  (Q (.bool false) G60))
  (Q (.bool false) G60))
  (Q (.bool false) G60))
  (Q (.bool false) G60))
  (Q (.bool false) G54))
  (Q (.bool false) G11))
  (Q (.bool false) G11))
  (Q (.bool false) G11))
  (Q (.bool false) G11))) → R10 [x12, x13, x14] G11) →
  R10 [.ptr i1 [] 0, .ptr i3 [] 0, .int .i64 0] G4)
def escrowlaw15_SameState.an : Ann := .two (.nil) (.two (.nil) (.two (.two (.nil) (.loop [2, 3, 5] (.two (.nil) (.two (.two (.ord [(0, []), (1, []), (2, []), (3, []), (4, []), (5, []), (6, []), (7, []), (8, []), (9, []), (10, [])]) (.nil)) (.nil))))) (.nil)))
set_option maxRecDepth 100000 in
theorem escrowlaw15_SameState.sound {a0 a1 : AVal} {G : Heap} {Q : AVal → Heap → Prop} (h : escrowlaw15_SameState.S a0 a1 G Q) : ACalls P escrowlaw15_SameState.n [a0, a1] G Q := by
  have e : escrowlaw15_SameState.S a0 a1 G Q = awp cx (escrowlaw15_SameState.body) escrowlaw15_SameState.an (bodyQ T [.tmp 4] Q) (envL [a0, a1]) G := by kernel_rfl
  exact ACalls_of_awp cxOk (f := escrowlaw15_SameState.n) (fn := Tryd.f8) (c := escrowlaw15_SameState.body) (an := escrowlaw15_SameState.an) Tryd.func8 (by kernel_rfl) (by kernel_rfl) (by kernel_rfl) (drawsOk_of (by kernel_rfl) (by kernel_rfl)) (by simp [Tryd.f8]) (e ▸ h)

/-! #### escrow/escrowlaw18.ResumeEnds -/
def escrowlaw18_ResumeEnds.S (a0 a1 a2 : AVal) (G : Heap) (Q : AVal → Heap → Prop) : Prop :=
  aNew G (.own (a0)) fun i1 G2 => aNew G2 (.own (a1)) fun i3 G4 => aNew G4 (.own (a2)) fun i5 G6 => ACalls P escrowlaw18_first.n [] G6 fun v7 G8 => wv (vun .not v7) fun v9 => brB (some v9)
  (Q (.bool false) G8)
  (wv (vload T G8 t_api_State (.ptr i3 [] 0)) fun v10 => ACalls P escrowlaw15_Copy.n [v10] G8 fun v11 G12 => aNew G12 (.own (z_api_State)) fun i13 G14 => wg (vstore T G14 t_api_State (.ptr i13 [] 0) v11) fun G15 => wv (vload T G15 t_api_Config (.ptr i1 [] 0)) fun v16 => wv (vload T G15 t_api_State (.ptr i13 [] 0)) fun v17 => ACalls P resume_Hello.n [v16, v17] G15 fun v18 G19 => wg (vstore T G19 t_int (.ptr i5 [0] 0) (.int .i64 6)) fun G20 => wv (vload T G20 t_api_Config (.ptr i1 [] 0)) fun v21 => wv (vload T G20 t_api_State (.ptr i13 [] 0)) fun v22 => wv (vload T G20 t_api_Message (.ptr i5 [] 0)) fun v23 => ACalls P resume_Answer.n [v21, v22, v23] G20 fun v24 G25 => wv (vload T G25 t_api_State (.ptr i13 [] 0)) fun v26 => wv (vload T G25 t_api_State (.ptr i3 [] 0)) fun v27 => ACalls P escrowlaw15_SameState.n [v26, v27] G25 fun v28 G29 => Q v28 G29)
def escrowlaw18_ResumeEnds.an : Ann := .nil
set_option maxRecDepth 100000 in
theorem escrowlaw18_ResumeEnds.sound {a0 a1 a2 : AVal} {G : Heap} {Q : AVal → Heap → Prop} (h : escrowlaw18_ResumeEnds.S a0 a1 a2 G Q) : ACalls P escrowlaw18_ResumeEnds.n [a0, a1, a2] G Q := by
  have e : escrowlaw18_ResumeEnds.S a0 a1 a2 G Q = awp cx (escrowlaw18_ResumeEnds.body) escrowlaw18_ResumeEnds.an (bodyQ T [.tmp 6] Q) (envL [a0, a1, a2]) G := by kernel_rfl
  exact ACalls_of_awp cxOk (f := escrowlaw18_ResumeEnds.n) (fn := Tryd.f3) (c := escrowlaw18_ResumeEnds.body) (an := escrowlaw18_ResumeEnds.an) Tryd.func3 (by kernel_rfl) (by kernel_rfl) (by kernel_rfl) (drawsOk_of (by kernel_rfl) (by kernel_rfl)) (by simp [Tryd.f3]) (e ▸ h)

end Go.Esc.M
