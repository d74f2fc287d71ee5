/- Printed by gen.py (own work): functions of the program Ytmhhddpkhfohcaa over trees and the abstract heap. -/
import Derived.Test.YtmhhddpkhfohcaaT
set_option linter.unusedSimpArgs false
set_option linter.unusedVariables false
namespace Go.Esc.M
open Go Go.Esc Go.Proofs

/-! #### escrow/escrowlaw12.UpdateLimits -/
def escrowlaw12_UpdateLimits.S (a0 a1 a2 : AVal) (G : Heap) (Q : AVal → Heap → Prop) : Prop :=
  aNew G (.own (a0)) fun i1 G2 => ACalls P escrowlaw12_head.n [] G2 fun v3 G4 => wv (vun .not v3) fun v5 => brB (some v5)
  (Q (.bool false) G4)
  (wv (vlen T G4 t_string a1) fun v6 => wv (vbin T .gtr t_int v6 (.int .i64 64)) fun v7 => let J163 : AVal → Heap → Prop := (fun x10 G9 => wv (vbin T .lss t_int64 a2 (.int .i64 0)) fun v11 => let J162 : AVal → Heap → Prop := (fun x15 G14 => wv (vbin T .add t_string x10 (.str [120])) fun v16 => ∀ R17 : List AVal → Heap → Prop,
  (∀ (x19 x20 x21 x22 : AVal) (G18 : Heap), (wv (vlen T G18 t_string x22) fun v23 => wv (vbin T .lss t_int v23 (.int .i64 65)) fun v24 => brB (some v24)
  (wv (vbin T .add t_string x22 (.str [120])) fun v25 => R17 [x19, x20, x21, v25] G18)
  (wv (vload T G18 t_api_Hash x20) fun v26 => wv (vbuild T t_api_Update [(0, .int .i64 1), (2, .int .i64 1), (3, v26)]) fun v27 => wv (vload T G18 t_api_Hash x20) fun v28 => wv (vbuild T t_api_Update [(0, .int .i64 1), (1, .int .i64 2047), (2, .int .i64 1152921504606846976), (3, v28)]) fun v29 => wv (vload T G18 t_api_Hash x20) fun v30 => wv (vbuild T t_api_Update [(0, .int .i64 2), (3, v30)]) fun v31 => wv (vload T G18 t_api_Hash x20) fun v32 => wv (vbuild T t_api_Update [(0, .int .i64 2), (1, .int .i64 2047), (3, v32)]) fun v33 => wv (vbuild T t_api_Update [(0, .int .i64 3), (1, .int .i64 2047), (4, x19)]) fun v34 => wv (vslice T t_string x22 none (some (.int .i64 64)) none) fun v35 => wv (vbuild T t_api_Update [(0, .int .i64 3), (4, v35)]) fun v36 => wv (vbuild T t_ar6_api_Update [(0, v27), (1, v29), (2, v31), (3, v33), (4, v34), (5, v36)]) fun v37 => aNew G18 (.own (z_ar6_api_Update)) fun i38 G39 => wg (vstore T G39 t_ar6_api_Update (.ptr i38 [] 0) v37) fun G40 => wv (vlen T G40 t_string x19) fun v41 => wv (vbin T .add t_int (.int .i64 5) v41) fun v42 => wv (vbuild T t_ar6_int [(0, .int .i64 43), (1, .int .i64 43), (2, .int .i64 35), (3, .int .i64 35), (4, v42), (5, .int .i64 69)]) fun v43 => aNew G40 (.own (z_ar6_int)) fun i44 G45 => wg (vstore T G45 t_ar6_int (.ptr i44 [] 0) v43) fun G46 => ∀ R47 : List AVal → Heap → Prop,
  (∀ (x49 x50 x51 x52 x53 x54 : AVal) (G48 : Heap), (wv (vbin T .lss t_int x54 (.int .i64 6)) fun v55 => brB (some v55)
  (wv (viaddr T t_ar6_api_Update x52 x54) fun v56 => wv (vload T G48 t_api_Update v56) fun v57 => ACalls P update_Write.n [v57] G48 fun v58 G59 => wv (vextract v58 0) fun v60 => wv (vextract v58 1) fun v61 => wv (vbin T .neq t_api_Errno v61 (.int .i64 0)) fun v62 => brB (some v62)
  (Q (.bool false) G59)
  (wv (vlen T G59 t_string v60) fun v63 => wv (viaddr T t_ar6_int x53 x54) fun v64 => wv (vload T G59 t_int v64) fun v65 => wv (vbin T .neq t_int v63 v65) fun v66 => brB (some v66)
  (Q (.bool false) G59)
  (wv (viaddr T t_ar6_api_Update x52 x54) fun v67 => wv (vload T G59 t_api_Update v67) fun v68 => ACalls P update_Valid.n [v68] G59 fun v69 G70 => wv (vun .not v69) fun v71 => brB (some v71)
  (Q (.bool false) G70)
  (wv (vbin T .add t_int x54 (.int .i64 1)) fun v76 => R47 [x49, x50, x51, x52, x53, v76] G70))))
  (wv (vload T G48 t_api_Hash x49) fun v77 => aNew G48 (.own (z_api_Hash)) fun i78 G79 => wg (vstore T G79 t_api_Hash (.ptr i78 [] 0) v77) fun G80 => wv (viaddr T t_api_Hash (.ptr i78 [] 0) (.int .i64 0)) fun v81 => wg (vstore T G80 t_uint8 v81 (.int .u8 1)) fun G82 => wv (vload T G82 t_api_Hash x49) fun v83 => wv (vbuild T t_api_Update [(0, .int .i64 1), (3, v83)]) fun v84 => wv (vbin T .sub t_int64 (.int .i64 (-1)) x50) fun v85 => wv (vbuild T t_api_Update [(0, .int .i64 1), (2, v85)]) fun v86 => wv (vbuild T t_api_Update [(0, .int .i64 1), (2, .int .i64 1152921504606846977)]) fun v87 => wv (vbuild T t_api_Update [(0, .int .i64 1), (2, .int .i64 1), (1, .int .i64 2048)]) fun v88 => wv (vbin T .sub t_int64 (.int .i64 (-1)) x50) fun v89 => wv (vbuild T t_api_Update [(0, .int .i64 1), (2, .int .i64 1), (1, v89)]) fun v90 => wv (vbuild T t_api_Update [(0, .int .i64 1), (2, .int .i64 1), (4, .str [120])]) fun v91 => wv (vbuild T t_api_Update [(0, .int .i64 2), (2, .int .i64 1)]) fun v92 => wv (vbuild T t_api_Update [(0, .int .i64 2), (4, .str [120])]) fun v93 => wv (vbuild T t_api_Update [(0, .int .i64 3), (2, .int .i64 1)]) fun v94 => wv (vload T G82 t_api_Hash (.ptr i78 [] 0)) fun v95 => wv (vbuild T t_api_Update [(0, .int .i64 3), (3, v95)]) fun v96 => wv (vbuild T t_api_Update [(0, .int .i64 3), (4, x51)]) fun v97 => wv (vbuild T t_api_Update [(0, .int .i64 4), (2, .int .i64 1)]) fun v98 => wv (vbuild T t_ar12_api_Update [(0, v84), (1, v86), (2, v87), (3, v88), (4, v90), (5, v91), (6, v92), (7, v93), (8, v94), (9, v96), (10, v97), (11, v98)]) fun v99 => aNew G82 (.own (z_ar12_api_Update)) fun i100 G101 => wg (vstore T G101 t_ar12_api_Update (.ptr i100 [] 0) v99) fun G102 => ∀ R103 : List AVal → Heap → Prop,
  (∀ (x105 x106 x107 x108 : AVal) (G104 : Heap), (wv (vbin T .lss t_int x108 (.int .i64 12)) fun v109 => brB (some v109)
  (wv (viaddr T t_ar12_api_Update x107 x108) fun v110 => wv (vload T G104 t_api_Update v110) fun v111 => ACalls P update_Write.n [v111] G104 fun v112 G113 => wv (vextract v112 0) fun v114 => wv (vextract v112 1) fun v115 => wv (vbin T .neq t_api_Errno v115 (.int .i64 120)) fun v116 => brB (some v116)
  (Q (.bool false) G113)
  (wv (vbin T .neq t_string v114 (.str [])) fun v117 => brB (some v117)
  (Q (.bool false) G113)
  (wv (viaddr T t_ar12_api_Update x107 x108) fun v118 => wv (vload T G113 t_api_Update v118) fun v119 => ACalls P update_Valid.n [v119] G113 fun v120 G121 => brB (some v120)
  (Q (.bool false) G121)
  (wv (viaddr T t_ar6_api_Update x106 (.int .i64 0)) fun v122 => wv (vload T G121 t_api_Update v122) fun v123 => wv (viaddr T t_ar12_api_Update x107 x108) fun v124 => wv (vload T G121 t_api_Update v124) fun v125 => aBuildSlice T t_sl_api_Update 1 [(0, v123)] G121 fun v126 G127 => ACalls P update_Next.n [.nilSlice, v126, v125] G127 fun v128 G129 => wv (vbin T .neq t_api_Errno v128 (.int .i64 120)) fun v130 => brB (some v130)
  (Q (.bool false) G129)
  (wv (vbin T .add t_int x108 (.int .i64 1)) fun v135 => R103 [x105, x106, x107, v135] G129)))))
  (aMakeSlice T t_sl_api_Update (.int .i64 2047) (.int .i64 2047) G104 fun v136 G137 => wv (vload T G137 t_api_Hash x105) fun v138 => wv (vbuild T t_api_Update [(0, .int .i64 1), (2, .int .i64 1), (3, v138)]) fun v139 => aNew G137 (.own (z_api_Update)) fun i140 G141 => wg (vstore T G141 t_api_Update (.ptr i140 [] 0) v139) fun G142 => wv (vload T G142 t_api_Update (.ptr i140 [] 0)) fun v143 => ACalls P update_Next.n [v136, .nilSlice, v143] G142 fun v144 G145 => wv (vbin T .neq t_api_Errno v144 (.int .i64 0)) fun v146 => brB (some v146)
  (Q (.bool false) G145)
  (wv (vload T G145 t_api_Update (.ptr i140 [] 0)) fun v147 => aBuildSlice T t_sl_api_Update 1 [(0, v147)] G145 fun v148 G149 => aAppend T G149 t_sl_api_Update t_sl_api_Update v136 v148 fun v150 G151 => wv (vload T G151 t_api_Update (.ptr i140 [] 0)) fun v152 => ACalls P update_Next.n [v150, .nilSlice, v152] G151 fun v153 G154 => wv (vbin T .eql t_api_Errno v153 (.int .i64 6)) fun v155 => brB (some v155)
  (wv (vbuild T t_api_Update []) fun v156 => ACalls P update_Next.n [v150, .nilSlice, v156] G154 fun v157 G158 => wv (vbin T .eql t_api_Errno v157 (.int .i64 6)) fun v159 => Q v159 G158)
  (Q (.bool false) G154)))) → R103 [x105, x106, x107, x108] G104) →
  R103 [x49, x52, .ptr i100 [] 0, .int .i64 0] G102)) → R47 [x49, x50, x51, x52, x53, x54] G48) →
  R47 [x20, x21, x22, .ptr i38 [] 0, .ptr i44 [] 0, .int .i64 0] G46)) → R17 [x19, x20, x21, x22] G18) →
  R17 [x10, .ptr i1 [] 0, x15, v16] G14);
  brB (some v11)
  (wv (vbin T .add t_int64 a2 (.int .i64 1)) fun v12 => wv (vun .neg v12) fun v13 => J162 v13 G9)
  (J162 a2 G9));
  brB (some v7)
  (wv (vslice T t_string a1 none (some (.int .i64 64)) none) fun v8 => J163 v8 G4)
  (J163 a1 G4))
def escrowlaw12_UpdateLimits.an : Ann := .two (.nil) (.two (.nil) (.two (.nil) (.two (.nil) (.two (.nil) (.two (.nil) (.two (.loop [1, 3, 7, 8] (.nil)) (.two (.ord [(0, []), (1, []), (2, []), (3, []), (4, []), (5, []), (6, []), (7, []), (8, []), (9, []), (10, []), (11, []), (12, []), (13, []), (14, []), (15, [])]) (.two (.nil) (.two (.two (.nil) (.loop [3, 7, 8, 9, 10, 11] (.nil))) (.two (.nil) (.two (.nil) (.two (.nil) (.two (.two (.nil) (.loop [3, 9, 15, 16] (.two (.nil) (.two (.two (.nil) (.two (.ord [(0, []), (1, []), (2, []), (3, []), (4, []), (5, []), (6, []), (7, []), (8, []), (9, []), (10, []), (11, []), (12, []), (13, []), (14, []), (16, []), (17, []), (18, []), (15, []), (19, []), (20, []), (21, [])]) (.nil))) (.nil))))) (.nil))))))))))))))
set_option maxRecDepth 100000 in
theorem escrowlaw12_UpdateLimits.sound {a0 a1 a2 : AVal} {G : Heap} {Q : AVal → Heap → Prop} (h : escrowlaw12_UpdateLimits.S a0 a1 a2 G Q) : ACalls P escrowlaw12_UpdateLimits.n [a0, a1, a2] G Q := by
  have e : escrowlaw12_UpdateLimits.S a0 a1 a2 G Q = awp cx (escrowlaw12_UpdateLimits.body) escrowlaw12_UpdateLimits.an (bodyQ T [.tmp 6] Q) (envL [a0, a1, a2]) G := by kernel_rfl
  exact ACalls_of_awp cxOk (f := escrowlaw12_UpdateLimits.n) (fn := Try.f7) (c := escrowlaw12_UpdateLimits.body) (an := escrowlaw12_UpdateLimits.an) Try.func7 (by kernel_rfl) (by kernel_rfl) (by kernel_rfl) (drawsOk_of (by kernel_rfl) (by kernel_rfl)) (by simp [Try.f7]) (e ▸ h)

end Go.Esc.M
