/- Printed by gen.py (own work): functions of the program Ytmhhddpkhfohcaa over trees and the abstract heap. -/
import Derived.Test.YtmhhddpkhfohcaaT
set_option linter.unusedSimpArgs false
set_option linter.unusedVariables false
namespace Go.Esc.M
open Go Go.Esc Go.Proofs

/-! #### escrow/escrowref02.block -/
def escrowref02_block.S (a0 a1 a2 : AVal) (G : Heap) (Q : AVal → Heap → Prop) : Prop :=
  aNew G (.own (a0)) fun i1 G2 => aNew G2 (.own (z_ar8_uint32)) fun i3 G4 => ACalls P escrowref02_rounds.n [] G4 fun v5 G6 => aNew G6 (.own (z_ar64_uint32)) fun i7 G8 => wg (vstore T G8 t_ar64_uint32 (.ptr i7 [] 0) v5) fun G9 => aNew G9 (.own (z_ar64_uint32)) fun i10 G11 => ∀ R12 : List AVal → Heap → Prop,
  (∀ (x14 x15 x16 x17 x18 x19 x20 : AVal) (G13 : Heap), (wv (vbin T .lss t_int x20 (.int .i64 16)) fun v21 => brB (some v21)
  (wv (vbin T .mul t_int (.int .i64 4) x20) fun v22 => wv (vbin T .add t_int x15 v22) fun v23 => wv (viaddr T t_sl_uint8 x14 v23) fun v24 => wv (vload T G13 t_uint8 v24) fun v25 => wv (vconv T G13 t_uint8 t_uint32 v25) fun v26 => wv (vbin T .shl t_uint32 v26 (.int .u64 24)) fun v27 => wv (vbin T .add t_int v23 (.int .i64 1)) fun v28 => wv (viaddr T t_sl_uint8 x14 v28) fun v29 => wv (vload T G13 t_uint8 v29) fun v30 => wv (vconv T G13 t_uint8 t_uint32 v30) fun v31 => wv (vbin T .shl t_uint32 v31 (.int .u64 16)) fun v32 => wv (vbin T .or t_uint32 v27 v32) fun v33 => wv (vbin T .add t_int v23 (.int .i64 2)) fun v34 => wv (viaddr T t_sl_uint8 x14 v34) fun v35 => wv (vload T G13 t_uint8 v35) fun v36 => wv (vconv T G13 t_uint8 t_uint32 v36) fun v37 => wv (vbin T .shl t_uint32 v37 (.int .u64 8)) fun v38 => wv (vbin T .or t_uint32 v33 v38) fun v39 => wv (vbin T .add t_int v23 (.int .i64 3)) fun v40 => wv (viaddr T t_sl_uint8 x14 v40) fun v41 => wv (vload T G13 t_uint8 v41) fun v42 => wv (vconv T G13 t_uint8 t_uint32 v42) fun v43 => wv (vbin T .or t_uint32 v39 v43) fun v44 => wv (viaddr T t_ar64_uint32 x19 x20) fun v45 => wg (vstore T G13 t_uint32 v45 v44) fun G46 => wv (vbin T .add t_int x20 (.int .i64 1)) fun v47 => R12 [x14, x15, x16, x17, x18, x19, v47] G46)
  (∀ R48 : List AVal → Heap → Prop,
  (∀ (x50 x51 x52 x53 x54 : AVal) (G49 : Heap), (wv (vbin T .lss t_int x54 (.int .i64 64)) fun v55 => brB (some v55)
  (wv (vbin T .sub t_int x54 (.int .i64 15)) fun v56 => wv (viaddr T t_ar64_uint32 x53 v56) fun v57 => wv (vload T G49 t_uint32 v57) fun v58 => wv (vbin T .sub t_int x54 (.int .i64 2)) fun v59 => wv (viaddr T t_ar64_uint32 x53 v59) fun v60 => wv (vload T G49 t_uint32 v60) fun v61 => wv (vbin T .sub t_int x54 (.int .i64 16)) fun v62 => wv (viaddr T t_ar64_uint32 x53 v62) fun v63 => wv (vload T G49 t_uint32 v63) fun v64 => wv (vbin T .shr t_uint32 v58 (.int .u64 3)) fun v65 => wv (vbin T .sub t_int x54 (.int .i64 7)) fun v66 => wv (viaddr T t_ar64_uint32 x53 v66) fun v67 => wv (vload T G49 t_uint32 v67) fun v68 => wv (vbin T .shr t_uint32 v61 (.int .u64 10)) fun v69 => ACalls P escrowref02_rot.n [v58, .int .i64 7] G49 fun v70 G71 => (vload T G71 t_uint32 v67 = some v68 ∧ vload T G71 t_uint32 v63 = some v64 ∧ True) ∧ (ACalls P escrowref02_rot.n [v58, .int .i64 18] G71 fun v72 G73 => (vload T G73 t_uint32 v67 = some v68 ∧ vload T G73 t_uint32 v63 = some v64 ∧ True) ∧ (wv (vbin T .xor t_uint32 v70 v72) fun v74 => wv (vbin T .xor t_uint32 v74 v65) fun v75 => wv (vbin T .add t_uint32 v64 v75) fun v76 => wv (vbin T .add t_uint32 v76 v68) fun v77 => ACalls P escrowref02_rot.n [v61, .int .i64 17] G73 fun v78 G79 => (vload T G79 t_uint32 v67 = some v68 ∧ vload T G79 t_uint32 v63 = some v64 ∧ True) ∧ (ACalls P escrowref02_rot.n [v61, .int .i64 19] G79 fun v80 G81 => (vload T G81 t_uint32 v67 = some v68 ∧ vload T G81 t_uint32 v63 = some v64 ∧ True) ∧ (wv (vbin T .xor t_uint32 v78 v80) fun v82 => wv (vbin T .xor t_uint32 v82 v69) fun v83 => wv (vbin T .add t_uint32 v77 v83) fun v84 => wv (viaddr T t_ar64_uint32 x53 x54) fun v85 => wg (vstore T G81 t_uint32 v85 v84) fun G86 => wv (vbin T .add t_int x54 (.int .i64 1)) fun v87 => R48 [x50, x51, x52, x53, v87] G86)))))
  (wv (vload T G49 t_ar8_uint32 x50) fun v88 => aNew G49 (.own (z_ar8_uint32)) fun i89 G90 => wg (vstore T G90 t_ar8_uint32 (.ptr i89 [] 0) v88) fun G91 => ∀ R92 : List AVal → Heap → Prop,
  (∀ (x94 x95 x96 x97 x98 x99 : AVal) (G93 : Heap), (wv (vbin T .lss t_int x99 (.int .i64 64)) fun v100 => brB (some v100)
  (wv (viaddr T t_ar8_uint32 x98 (.int .i64 0)) fun v101 => wv (vload T G93 t_uint32 v101) fun v102 => wv (viaddr T t_ar8_uint32 x98 (.int .i64 4)) fun v103 => wv (vload T G93 t_uint32 v103) fun v104 => wv (viaddr T t_ar8_uint32 x98 (.int .i64 7)) fun v105 => wv (vload T G93 t_uint32 v105) fun v106 => wv (viaddr T t_ar8_uint32 x98 (.int .i64 5)) fun v107 => wv (vload T G93 t_uint32 v107) fun v108 => wv (vbin T .and t_uint32 v104 v108) fun v109 => wv (vun .xor v104) fun v110 => wv (viaddr T t_ar8_uint32 x98 (.int .i64 6)) fun v111 => wv (vload T G93 t_uint32 v111) fun v112 => wv (vbin T .and t_uint32 v110 v112) fun v113 => wv (vbin T .xor t_uint32 v109 v113) fun v114 => wv (viaddr T t_ar64_uint32 x96 x99) fun v115 => wv (vload T G93 t_uint32 v115) fun v116 => wv (viaddr T t_ar64_uint32 x97 x99) fun v117 => wv (vload T G93 t_uint32 v117) fun v118 => ACalls P escrowref02_rot.n [v104, .int .i64 6] G93 fun v119 G120 => (vload T G120 t_uint32 v117 = some v118 ∧ vload T G120 t_uint32 v115 = some v116 ∧ vload T G120 t_uint32 v111 = some v112 ∧ vload T G120 t_uint32 v107 = some v108 ∧ vload T G120 t_uint32 v105 = some v106 ∧ True) ∧ (ACalls P escrowref02_rot.n [v104, .int .i64 11] G120 fun v121 G122 => (vload T G122 t_uint32 v117 = some v118 ∧ vload T G122 t_uint32 v115 = some v116 ∧ vload T G122 t_uint32 v111 = some v112 ∧ vload T G122 t_uint32 v107 = some v108 ∧ vload T G122 t_uint32 v105 = some v106 ∧ True) ∧ (wv (vbin T .xor t_uint32 v119 v121) fun v123 => ACalls P escrowref02_rot.n [v104, .int .i64 25] G122 fun v124 G125 => (vload T G125 t_uint32 v117 = some v118 ∧ vload T G125 t_uint32 v115 = some v116 ∧ vload T G125 t_uint32 v111 = some v112 ∧ vload T G125 t_uint32 v107 = some v108 ∧ vload T G125 t_uint32 v105 = some v106 ∧ True) ∧ (wv (vbin T .xor t_uint32 v123 v124) fun v126 => wv (vbin T .add t_uint32 v106 v126) fun v127 => wv (vbin T .add t_uint32 v127 v114) fun v128 => wv (vbin T .add t_uint32 v128 v116) fun v129 => wv (vbin T .add t_uint32 v129 v118) fun v130 => wv (viaddr T t_ar8_uint32 x98 (.int .i64 1)) fun v131 => wv (vload T G125 t_uint32 v131) fun v132 => wv (vbin T .and t_uint32 v102 v132) fun v133 => wv (viaddr T t_ar8_uint32 x98 (.int .i64 2)) fun v134 => wv (vload T G125 t_uint32 v134) fun v135 => wv (vbin T .and t_uint32 v102 v135) fun v136 => wv (vbin T .xor t_uint32 v133 v136) fun v137 => wv (viaddr T t_ar8_uint32 x98 (.int .i64 1)) fun v138 => wv (vload T G125 t_uint32 v138) fun v139 => wv (viaddr T t_ar8_uint32 x98 (.int .i64 2)) fun v140 => wv (vload T G125 t_uint32 v140) fun v141 => wv (vbin T .and t_uint32 v139 v141) fun v142 => wv (vbin T .xor t_uint32 v137 v142) fun v143 => ACalls P escrowref02_rot.n [v102, .int .i64 2] G125 fun v144 G145 => (vload T G145 t_uint32 v140 = some v141 ∧ vload T G145 t_uint32 v138 = some v139 ∧ vload T G145 t_uint32 v134 = some v135 ∧ vload T G145 t_uint32 v131 = some v132 ∧ True) ∧ (ACalls P escrowref02_rot.n [v102, .int .i64 13] G145 fun v146 G147 => (vload T G147 t_uint32 v140 = some v141 ∧ vload T G147 t_uint32 v138 = some v139 ∧ vload T G147 t_uint32 v134 = some v135 ∧ vload T G147 t_uint32 v131 = some v132 ∧ True) ∧ (wv (vbin T .xor t_uint32 v144 v146) fun v148 => ACalls P escrowref02_rot.n [v102, .int .i64 22] G147 fun v149 G150 => (vload T G150 t_uint32 v140 = some v141 ∧ vload T G150 t_uint32 v138 = some v139 ∧ vload T G150 t_uint32 v134 = some v135 ∧ vload T G150 t_uint32 v131 = some v132 ∧ True) ∧ (wv (vbin T .xor t_uint32 v148 v149) fun v151 => wv (vbin T .add t_uint32 v151 v143) fun v152 => wv (vbin T .add t_uint32 v130 v152) fun v153 => wv (viaddr T t_ar8_uint32 x98 (.int .i64 0)) fun v154 => wv (vload T G150 t_uint32 v154) fun v155 => wv (viaddr T t_ar8_uint32 x98 (.int .i64 1)) fun v156 => wv (vload T G150 t_uint32 v156) fun v157 => wv (viaddr T t_ar8_uint32 x98 (.int .i64 2)) fun v158 => wv (vload T G150 t_uint32 v158) fun v159 => wv (viaddr T t_ar8_uint32 x98 (.int .i64 3)) fun v160 => wv (vload T G150 t_uint32 v160) fun v161 => wv (vbin T .add t_uint32 v161 v130) fun v162 => wv (viaddr T t_ar8_uint32 x98 (.int .i64 4)) fun v163 => wv (vload T G150 t_uint32 v163) fun v164 => wv (viaddr T t_ar8_uint32 x98 (.int .i64 5)) fun v165 => wv (vload T G150 t_uint32 v165) fun v166 => wv (viaddr T t_ar8_uint32 x98 (.int .i64 6)) fun v167 => wv (vload T G150 t_uint32 v167) fun v168 => wv (vbuild T t_ar8_uint32 [(0, v153), (1, v155), (2, v157), (3, v159), (4, v162), (5, v164), (6, v166), (7, v168)]) fun v169 => wg (vstore T G150 t_ar8_uint32 x98 v169) fun G170 => wv (vbin T .add t_int x99 (.int .i64 1)) fun v171 => R92 [x94, x95, x96, x97, x98, v171] G170)))))))
  (∀ R172 : List AVal → Heap → Prop,
  (∀ (x174 x175 x176 x177 : AVal) (G173 : Heap), (wv (vbin T .lss t_int x177 (.int .i64 8)) fun v178 => brB (some v178)
  (wv (viaddr T t_ar8_uint32 x176 x177) fun v179 => wv (vload T G173 t_uint32 v179) fun v180 => wv (viaddr T t_ar8_uint32 x174 x177) fun v181 => wv (vload T G173 t_uint32 v181) fun v182 => wv (vbin T .add t_uint32 v180 v182) fun v183 => wv (viaddr T t_ar8_uint32 x176 x177) fun v184 => wg (vstore T G173 t_uint32 v184 v183) fun G185 => wv (vbin T .add t_int x177 (.int .i64 1)) fun v186 => R172 [x174, x175, x176, v186] G185)
  (wv (vload T G173 t_ar8_uint32 x176) fun v187 => wg (vstore T G173 t_ar8_uint32 x175 v187) fun G188 => wv (vload T G188 t_ar8_uint32 x175) fun v189 => Q v189 G188)) → R172 [x174, x175, x176, x177] G173) →
  R172 [x94, x95, x98, .int .i64 0] G93)) → R92 [x94, x95, x96, x97, x98, x99] G93) →
  R92 [x50, x51, x52, x53, .ptr i89 [] 0, .int .i64 0] G91)) → R48 [x50, x51, x52, x53, x54] G49) →
  R48 [x16, x17, x18, x19, .int .i64 16] G13)) → R12 [x14, x15, x16, x17, x18, x19, x20] G13) →
  R12 [a1, a2, .ptr i1 [] 0, .ptr i3 [] 0, .ptr i7 [] 0, .ptr i10 [] 0, .int .i64 0] G11
def escrowref02_block.an : Ann := .two (.nil) (.two (.nil) (.two (.nil) (.two (.two (.nil) (.loop [1, 2, 3, 6, 7, 8, 9] (.two (.nil) (.two (.two (.nil) (.ord [(0, []), (1, []), (2, []), (3, []), (4, []), (5, []), (6, []), (7, []), (8, []), (9, []), (10, []), (11, []), (12, []), (13, []), (14, []), (15, []), (16, []), (17, []), (18, []), (19, []), (20, []), (21, []), (22, []), (23, []), (24, []), (25, []), (26, []), (27, []), (28, []), (29, []), (30, []), (31, [])])) (.nil))))) (.two (.two (.nil) (.loop [3, 6, 7, 8, 11] (.two (.nil) (.two (.two (.nil) (.two (.nil) (.ord [(0, []), (1, []), (2, []), (3, []), (4, []), (5, []), (7, []), (10, []), (11, []), (14, []), (15, []), (16, []), (17, []), (19, []), (21, []), (24, []), (25, []), (6, [4, 17]), (8, [4, 17]), (9, []), (12, []), (13, []), (18, []), (20, [4, 17]), (22, [4, 17]), (23, []), (26, []), (27, []), (28, []), (29, [])]))) (.nil))))) (.two (.nil) (.two (.two (.nil) (.loop [3, 6, 7, 8, 14, 15] (.two (.nil) (.two (.two (.nil) (.two (.nil) (.two (.ord [(0, []), (1, []), (2, []), (4, []), (7, []), (11, []), (12, []), (13, []), (14, []), (15, []), (16, []), (17, []), (18, []), (19, []), (20, []), (22, []), (23, []), (24, []), (26, []), (27, []), (28, []), (3, [1, 13, 18, 24, 28]), (5, [1, 13, 18, 24, 28]), (6, []), (8, [1, 13, 18, 24, 28]), (9, []), (10, []), (21, []), (25, []), (29, []), (30, [])]) (.two (.ord [(0, []), (2, []), (5, []), (8, []), (9, []), (10, []), (11, []), (12, []), (13, []), (14, []), (15, []), (16, []), (17, []), (18, []), (19, []), (20, []), (21, []), (22, []), (1, [10, 14, 18, 20]), (3, [10, 14, 18, 20]), (4, []), (6, [10, 14, 18, 20]), (7, []), (23, []), (24, [])]) (.nil))))) (.nil))))) (.two (.two (.nil) (.loop [3, 6, 14, 20] (.two (.nil) (.two (.ord [(0, []), (1, []), (2, []), (3, []), (4, []), (5, []), (6, []), (7, []), (8, []), (9, [])]) (.nil))))) (.nil))))))))
set_option maxRecDepth 100000 in
theorem escrowref02_block.sound {a0 a1 a2 : AVal} {G : Heap} {Q : AVal → Heap → Prop} (h : escrowref02_block.S a0 a1 a2 G Q) : ACalls P escrowref02_block.n [a0, a1, a2] G Q := by
  have e : escrowref02_block.S a0 a1 a2 G Q = awp cx (escrowref02_block.body) escrowref02_block.an (bodyQ T [.cell 6 96] Q) (envL [a0, a1, a2]) G := by kernel_rfl
  exact ACalls_of_awp cxOk (f := escrowref02_block.n) (fn := Try.f66) (c := escrowref02_block.body) (an := escrowref02_block.an) Try.func66 (by kernel_rfl) (by kernel_rfl) (by kernel_rfl) (drawsOk_of (by kernel_rfl) (by kernel_rfl)) (by simp [Try.f66]) (e ▸ h)

/-! #### escrow/escrowref02.One -/
def escrowref02_One.S (a0 : AVal) (G : Heap) (Q : AVal → Heap → Prop) : Prop :=
  aNew G (.own (z_api_Hash)) fun i1 G2 => ACalls P escrowref02_padded.n [a0] G2 fun v3 G4 => wv (vbuild T t_ar8_uint32 [(0, .int .u32 1779033703), (1, .int .u32 3144134277), (2, .int .u32 1013904242), (3, .int .u32 2773480762), (4, .int .u32 1359893119), (5, .int .u32 2600822924), (6, .int .u32 528734635), (7, .int .u32 1541459225)]) fun v5 => aNew G4 (.own (z_ar8_uint32)) fun i6 G7 => wg (vstore T G7 t_ar8_uint32 (.ptr i6 [] 0) v5) fun G8 => ∀ R9 : List AVal → Heap → Prop,
  (∀ (x11 x12 x13 x14 : AVal) (G10 : Heap), (wv (vlen T G10 t_sl_uint8 x12) fun v15 => wv (vbin T .lss t_int x14 v15) fun v16 => brB (some v16)
  (wv (vload T G10 t_ar8_uint32 x13) fun v17 => ACalls P escrowref02_block.n [v17, x12, x14] G10 fun v18 G19 => wg (vstore T G19 t_ar8_uint32 x13 v18) fun G20 => wv (vbin T .add t_int x14 (.int .i64 64)) fun v21 => R9 [x11, x12, x13, v21] G20)
  (aNew G10 (.own (z_api_Hash)) fun i22 G23 => ∀ R24 : List AVal → Heap → Prop,
  (∀ (x26 x27 x28 x29 : AVal) (G25 : Heap), (wv (vbin T .lss t_int x29 (.int .i64 32)) fun v30 => brB (some v30)
  (wv (vbin T .quo t_int x29 (.int .i64 4)) fun v31 => wv (viaddr T t_ar8_uint32 x27 v31) fun v32 => wv (vload T G25 t_uint32 v32) fun v33 => wv (vbin T .rem t_int x29 (.int .i64 4)) fun v34 => wv (vbin T .mul t_int (.int .i64 8) v34) fun v35 => wv (vbin T .sub t_int (.int .i64 24) v35) fun v36 => wv (vbin T .shr t_uint32 v33 v36) fun v37 => wv (vconv T G25 t_uint32 t_uint8 v37) fun v38 => wv (viaddr T t_api_Hash x28 x29) fun v39 => wg (vstore T G25 t_uint8 v39 v38) fun G40 => wv (vbin T .add t_int x29 (.int .i64 1)) fun v41 => R24 [x26, x27, x28, v41] G40)
  (wv (vload T G25 t_api_Hash x28) fun v42 => wg (vstore T G25 t_api_Hash x26 v42) fun G43 => wv (vload T G43 t_api_Hash x26) fun v44 => Q v44 G43)) → R24 [x26, x27, x28, x29] G25) →
  R24 [x11, x13, .ptr i22 [] 0, .int .i64 0] G23)) → R9 [x11, x12, x13, x14] G10) →
  R9 [.ptr i1 [] 0, v3, .ptr i6 [] 0, .int .i64 0] G8
def escrowref02_One.an : Ann := .two (.nil) (.two (.nil) (.two (.nil) (.two (.two (.nil) (.loop [2, 3, 4, 5] (.nil))) (.two (.nil) (.two (.two (.nil) (.loop [2, 4, 6, 7] (.nil))) (.nil))))))
set_option maxRecDepth 100000 in
theorem escrowref02_One.sound {a0 : AVal} {G : Heap} {Q : AVal → Heap → Prop} (h : escrowref02_One.S a0 G Q) : ACalls P escrowref02_One.n [a0] G Q := by
  have e : escrowref02_One.S a0 G Q = awp cx (escrowref02_One.body) escrowref02_One.an (bodyQ T [.cell 2 23] Q) (envL [a0]) G := by kernel_rfl
  exact ACalls_of_awp cxOk (f := escrowref02_One.n) (fn := Try.f61) (c := escrowref02_One.body) (an := escrowref02_One.an) Try.func61 (by kernel_rfl) (by kernel_rfl) (by kernel_rfl) (drawsOk_of (by kernel_rfl) (by kernel_rfl)) (by simp [Try.f61]) (e ▸ h)

/-! #### escrow/escrowref02.Sum -/
def escrowref02_Sum.S (a0 : AVal) (G : Heap) (Q : AVal → Heap → Prop) : Prop :=
  aNew G (.own (z_api_Hash)) fun i1 G2 => ∀ R3 : List AVal → Heap → Prop,
  (∀ (x5 x6 x7 x8 : AVal) (G4 : Heap), (wv (vlen T G4 t_sl_string x5) fun v9 => wv (vbin T .lss t_int x8 v9) fun v10 => brB (some v10)
  (wv (viaddr T t_sl_string x5 x8) fun v11 => wv (vload T G4 t_string v11) fun v12 => wv (vbin T .add t_string x7 v12) fun v13 => wv (vbin T .add t_int x8 (.int .i64 1)) fun v14 => R3 [x5, x6, v13, v14] G4)
  (ACalls P escrowref02_One.n [x7] G4 fun v15 G16 => wg (vstore T G16 t_api_Hash x6 v15) fun G17 => wv (vload T G17 t_api_Hash x6) fun v18 => Q v18 G17)) → R3 [x5, x6, x7, x8] G4) →
  R3 [a0, .ptr i1 [] 0, .str [], .int .i64 0] G2
def escrowref02_Sum.an : Ann := .two (.nil) (.two (.nil) (.two (.two (.nil) (.loop [0, 2, 3, 4] (.nil))) (.nil)))
set_option maxRecDepth 100000 in
theorem escrowref02_Sum.sound {a0 : AVal} {G : Heap} {Q : AVal → Heap → Prop} (h : escrowref02_Sum.S a0 G Q) : ACalls P escrowref02_Sum.n [a0] G Q := by
  have e : escrowref02_Sum.S a0 G Q = awp cx (escrowref02_Sum.body) escrowref02_Sum.an (bodyQ T [.cell 2 23] Q) (envL [a0]) G := by kernel_rfl
  exact ACalls_of_awp cxOk (f := escrowref02_Sum.n) (fn := Try.f48) (c := escrowref02_Sum.body) (an := escrowref02_Sum.an) Try.func48 (by kernel_rfl) (by kernel_rfl) (by kernel_rfl) (drawsOk_of (by kernel_rfl) (by kernel_rfl)) (by simp [Try.f48]) (e ▸ h)

/-! #### escrow/escrowref12.Next -/
def escrowref12_Next.S (a0 a1 a2 : AVal) (G : Heap) (Q : AVal → Heap → Prop) : Prop :=
  aNew G (.own (a2)) fun i1 G2 => wv (vlen T G2 t_sl_api_Update a0) fun v3 => wv (vbin T .geq t_int v3 (.int .i64 2048)) fun v4 => brB (some v4)
  (Q (.int .i64 6) G2)
  (wv (vload T G2 t_api_Update (.ptr i1 [] 0)) fun v5 => ACalls P escrowref12_Valid.n [v5] G2 fun v6 G7 => wv (vun .not v6) fun v8 => brB (some v8)
  (Q (.int .i64 120) G7)
  (wv (vload T G7 t_int (.ptr i1 [0] 0)) fun v9 => wv (vbin T .eql t_int v9 (.int .i64 1)) fun v10 => brB (some v10)
  (wv (vload T G7 t_int64 (.ptr i1 [1] 1)) fun v11 => ACalls P escrowref12_Adds.n [a0] G7 fun v12 G13 => (vload T G13 t_int64 (.ptr i1 [1] 1) = some v11 ∧ True) ∧ (wv (vbin T .neq t_int64 v11 v12) fun v14 => brB (some v14)
  (Q (.int .i64 120) G13)
  (Q (.int .i64 0) G13)))
  (wv (vload T G7 t_int64 (.ptr i1 [1] 1)) fun v15 => ACalls P escrowref12_Find.n [a1, v15] G7 fun v16 G17 => wv (vextract v16 0) fun v18 => wv (vextract v16 1) fun v19 => aNew G17 (.own (z_api_Update)) fun i20 G21 => wg (vstore T G21 t_api_Update (.ptr i20 [] 0) v18) fun G22 => wv (vload T G22 t_int64 (.ptr i1 [1] 1)) fun v23 => ACalls P escrowref12_Removal.n [a0, v23] G22 fun v24 G25 => wv (vextract v24 0) fun v26 => wv (vextract v24 1) fun v27 => aNew G25 (.own (z_api_Update)) fun i28 G29 => wg (vstore T G29 t_api_Update (.ptr i28 [] 0) v26) fun G30 => let J46 : AVal → Heap → Prop := (fun x33 G32 => brB (some x33)
  (Q (.int .i64 120) G32)
  (wv (vload T G32 t_int (.ptr i1 [0] 0)) fun v34 => wv (vbin T .eql t_int v34 (.int .i64 2)) fun v35 => brB (some v35)
  (wv (vslice T t_api_Hash (.ptr i1 [3] 3) none none none) fun v36 => wv (vconv T G32 t_sl_uint8 t_string v36) fun v37 => wv (vload T G32 t_api_Hash (.ptr i20 [3] 3)) fun v38 => aBuildSlice T t_sl_string 1 [(0, v37)] G32 fun v39 G40 => ACalls P escrowref02_Sum.n [v39] G40 fun v41 G42 => (vload T G42 t_api_Hash (.ptr i20 [3] 3) = some v38 ∧ True) ∧ (wv (vbin T .neq t_api_Hash v41 v38) fun v43 => brB (some v43)
  (Q (.int .i64 120) G42)
  (Q (.int .i64 0) G42)))
  (Q (.int .i64 0) G32)));
  wv (vun .not v19) fun v31 => brB (some v31)
  (J46 (.bool true) G30)
  (J46 v27 G30))))
def escrowref12_Next.an : Ann := .two (.nil) (.two (.nil) (.two (.nil) (.two (.two (.nil) (.two (.two (.two (.ord [(0, []), (1, []), (2, []), (3, [1]), (4, [])]) (.nil)) (.nil)) (.nil))) (.two (.nil) (.two (.nil) (.two (.nil) (.two (.two (.ord [(0, []), (1, []), (2, []), (3, []), (4, []), (5, []), (6, []), (9, []), (10, []), (7, []), (8, [10]), (11, []), (12, [])]) (.nil)) (.nil))))))))
set_option maxRecDepth 100000 in
theorem escrowref12_Next.sound {a0 a1 a2 : AVal} {G : Heap} {Q : AVal → Heap → Prop} (h : escrowref12_Next.S a0 a1 a2 G Q) : ACalls P escrowref12_Next.n [a0, a1, a2] G Q := by
  have e : escrowref12_Next.S a0 a1 a2 G Q = awp cx (escrowref12_Next.body) escrowref12_Next.an (bodyQ T [.tmp 6] Q) (envL [a0, a1, a2]) G := by kernel_rfl
  exact ACalls_of_awp cxOk (f := escrowref12_Next.n) (fn := Try.f15) (c := escrowref12_Next.body) (an := escrowref12_Next.an) Try.func15 (by kernel_rfl) (by kernel_rfl) (by kernel_rfl) (drawsOk_of (by kernel_rfl) (by kernel_rfl)) (by simp [Try.f15]) (e ▸ h)

/-! #### escrow/escrowlaw12.lent -/
def escrowlaw12_lent.S (a0 : AVal) (G : Heap) (Q : AVal → Heap → Prop) : Prop :=
  aAppend T G t_sl_api_Update t_sl_api_Update (.nilSlice) a0 fun v1 G2 => wv (vbuild T t_api_Update [(0, .int .i64 77)]) fun v3 => wv (vbuild T t_api_Update [(4, .str [109, 97, 114, 107])]) fun v4 => aBuildSlice T t_sl_api_Update 2 [(0, v3), (1, v4)] G2 fun v5 G6 => aAppend T G6 t_sl_api_Update t_sl_api_Update v1 v5 fun v7 G8 => Q v7 G8
def escrowlaw12_lent.an : Ann := .nil
set_option maxRecDepth 100000 in
theorem escrowlaw12_lent.sound {a0 : AVal} {G : Heap} {Q : AVal → Heap → Prop} (h : escrowlaw12_lent.S a0 G Q) : ACalls P escrowlaw12_lent.n [a0] G Q := by
  have e : escrowlaw12_lent.S a0 G Q = awp cx (escrowlaw12_lent.body) escrowlaw12_lent.an (bodyQ T [.tmp 2] Q) (envL [a0]) G := by kernel_rfl
  exact ACalls_of_awp cxOk (f := escrowlaw12_lent.n) (fn := Try.f18) (c := escrowlaw12_lent.body) (an := escrowlaw12_lent.an) Try.func18 (by kernel_rfl) (by kernel_rfl) (by kernel_rfl) (drawsOk_of (by kernel_rfl) (by kernel_rfl)) (by simp [Try.f18]) (e ▸ h)

/-! #### escrow/escrowref12.Same -/
def escrowref12_Same.S (a0 a1 : AVal) (G : Heap) (Q : AVal → Heap → Prop) : Prop :=
  wv (vlen T G t_sl_api_Update a0) fun v1 => wv (vlen T G t_sl_api_Update a1) fun v2 => wv (vbin T .neq t_int v1 v2) fun v3 => brB (some v3)
  (Q (.bool false) G)
  (∀ R4 : List AVal → Heap → Prop,
  (∀ (x6 x7 x8 : AVal) (G5 : Heap), (wv (vlen T G5 t_sl_api_Update x6) fun v9 => wv (vbin T .lss t_int x8 v9) fun v10 => brB (some v10)
  (wv (viaddr T t_sl_api_Update x6 x8) fun v11 => wv (vload T G5 t_api_Update v11) fun v12 => wv (viaddr T t_sl_api_Update x7 x8) fun v13 => wv (vload T G5 t_api_Update v13) fun v14 => wv (vbin T .neq t_api_Update v12 v14) fun v15 => brB (some v15)
  (Q (.bool false) G5)
  (wv (vbin T .add t_int x8 (.int .i64 1)) fun v16 => R4 [x6, x7, v16] G5))
  (Q (.bool true) G5)) → R4 [x6, x7, x8] G5) →
  R4 [a0, a1, .int .i64 0] G)
def escrowref12_Same.an : Ann := .two (.nil) (.two (.nil) (.two (.two (.nil) (.loop [0, 1, 5] (.two (.nil) (.two (.two (.ord [(0, []), (1, []), (2, []), (3, []), (4, []), (5, []), (6, []), (7, []), (8, [])]) (.nil)) (.nil))))) (.nil)))
set_option maxRecDepth 100000 in
theorem escrowref12_Same.sound {a0 a1 : AVal} {G : Heap} {Q : AVal → Heap → Prop} (h : escrowref12_Same.S a0 a1 G Q) : ACalls P escrowref12_Same.n [a0, a1] G Q := by
  have e : escrowref12_Same.S a0 a1 G Q = awp cx (escrowref12_Same.body) escrowref12_Same.an (bodyQ T [.tmp 4] Q) (envL [a0, a1]) G := by kernel_rfl
  exact ACalls_of_awp cxOk (f := escrowref12_Same.n) (fn := Try.f22) (c := escrowref12_Same.body) (an := escrowref12_Same.an) Try.func22 (by kernel_rfl) (by kernel_rfl) (by kernel_rfl) (drawsOk_of (by kernel_rfl) (by kernel_rfl)) (by simp [Try.f22]) (e ▸ h)

/-! #### escrow/escrowlaw12.UpdateNexts -/
def escrowlaw12_UpdateNexts.S (a0 a1 a2 a3 : AVal) (G : Heap) (Q : AVal → Heap → Prop) : Prop :=
  aNew G (.own (a2)) fun i1 G2 => ACalls P escrowlaw12_head.n [] G2 fun v3 G4 => wv (vun .not v3) fun v5 => brB (some v5)
  (Q (.bool false) G4)
  (wv (vload T G4 t_api_Update (.ptr i1 [] 0)) fun v6 => ACalls P escrowref12_Next.n [a0, a1, v6] G4 fun v7 G8 => ACalls P escrowref12_Find.n [a0, a3] G8 fun v9 G10 => wv (vextract v9 0) fun v11 => wv (vextract v9 1) fun v12 => aNew G10 (.own (z_api_Update)) fun i13 G14 => wg (vstore T G14 t_api_Update (.ptr i13 [] 0) v11) fun G15 => ACalls P escrowref12_Removal.n [a1, a3] G15 fun v16 G17 => wv (vextract v16 0) fun v18 => wv (vextract v16 1) fun v19 => aNew G17 (.own (z_api_Update)) fun i20 G21 => wg (vstore T G21 t_api_Update (.ptr i20 [] 0) v18) fun G22 => ACalls P escrowlaw12_lent.n [a0] G22 fun v23 G24 => ACalls P escrowlaw12_lent.n [a1] G24 fun v25 G26 => wv (vlen T G26 t_sl_api_Update a0) fun v27 => wv (vslice T t_sl_api_Update v23 none (some (v27)) none) fun v28 => wv (vlen T G26 t_sl_api_Update a1) fun v29 => wv (vslice T t_sl_api_Update v25 none (some (v29)) none) fun v30 => wv (vload T G26 t_api_Update (.ptr i1 [] 0)) fun v31 => ACalls P update_Next.n [v28, v30, v31] G26 fun v32 G33 => wv (vbin T .neq t_api_Errno v32 v7) fun v34 => brB (some v34)
  (Q (.bool false) G33)
  (wv (vlen T G33 t_sl_api_Update a0) fun v35 => wv (vslice T t_sl_api_Update v23 none (some (v35)) none) fun v36 => ACalls P update_Find.n [v36, a3] G33 fun v37 G38 => wv (vextract v37 0) fun v39 => wv (vextract v37 1) fun v40 => aNew G38 (.own (z_api_Update)) fun i41 G42 => wg (vstore T G42 t_api_Update (.ptr i41 [] 0) v39) fun G43 => wv (vlen T G43 t_sl_api_Update a1) fun v44 => wv (vslice T t_sl_api_Update v25 none (some (v44)) none) fun v45 => ACalls P update_Removal.n [v45, a3] G43 fun v46 G47 => wv (vextract v46 0) fun v48 => wv (vextract v46 1) fun v49 => aNew G47 (.own (z_api_Update)) fun i50 G51 => wg (vstore T G51 t_api_Update (.ptr i50 [] 0) v48) fun G52 => wv (vload T G52 t_api_Update (.ptr i13 [] 0)) fun v53 => wv (vload T G52 t_api_Update (.ptr i41 [] 0)) fun v54 => wv (vbin T .eql t_api_Update v53 v54) fun v55 => brB (some v55)
  (wv (vbin T .eql t_bool v12 v40) fun v56 => brB (some v56)
  (wv (vload T G52 t_api_Update (.ptr i20 [] 0)) fun v57 => wv (vload T G52 t_api_Update (.ptr i50 [] 0)) fun v58 => wv (vbin T .eql t_api_Update v57 v58) fun v59 => brB (some v59)
  (wv (vbin T .eql t_bool v19 v49) fun v60 => brB (some v60)
  (ACalls P escrowlaw12_lent.n [a0] G52 fun v61 G62 => ACalls P escrowref12_Same.n [v23, v61] G62 fun v63 G64 => brB (some v63)
  (ACalls P escrowlaw12_lent.n [a1] G64 fun v65 G66 => ACalls P escrowref12_Same.n [v25, v65] G66 fun v67 G68 => Q v67 G68)
  (Q (.bool false) G64))
  (Q (.bool false) G52))
  (Q (.bool false) G52))
  (Q (.bool false) G52))
  (Q (.bool false) G52)))
def escrowlaw12_UpdateNexts.an : Ann := .two (.nil) (.two (.nil) (.two (.nil) (.two (.nil) (.two (.nil) (.two (.nil) (.two (.nil) (.two (.two (.ord [(0, []), (1, []), (2, []), (3, []), (4, []), (5, []), (6, []), (7, []), (8, []), (10, []), (9, []), (11, [])]) (.nil)) (.nil))))))))
set_option maxRecDepth 100000 in
theorem escrowlaw12_UpdateNexts.sound {a0 a1 a2 a3 : AVal} {G : Heap} {Q : AVal → Heap → Prop} (h : escrowlaw12_UpdateNexts.S a0 a1 a2 a3 G Q) : ACalls P escrowlaw12_UpdateNexts.n [a0, a1, a2, a3] G Q := by
  have e : escrowlaw12_UpdateNexts.S a0 a1 a2 a3 G Q = awp cx (escrowlaw12_UpdateNexts.body) escrowlaw12_UpdateNexts.an (bodyQ T [.tmp 8] Q) (envL [a0, a1, a2, a3]) G := by kernel_rfl
  exact ACalls_of_awp cxOk (f := escrowlaw12_UpdateNexts.n) (fn := Try.f4) (c := escrowlaw12_UpdateNexts.body) (an := escrowlaw12_UpdateNexts.an) Try.func4 (by kernel_rfl) (by kernel_rfl) (by kernel_rfl) (drawsOk_of (by kernel_rfl) (by kernel_rfl)) (by simp [Try.f4]) (e ▸ h)

/-! #### escrow/escrowlaw12.UpdateBack -/
def escrowlaw12_UpdateBack.S (a0 a1 a2 a3 : AVal) (G : Heap) (Q : AVal → Heap → Prop) : Prop :=
  aNew G (.own (a0)) fun i1 G2 => ACalls P escrowlaw12_head.n [] G2 fun v3 G4 => wv (vun .not v3) fun v5 => brB (some v5)
  (Q (.bool false) G4)
  (wv (vload T G4 t_api_Update (.ptr i1 [] 0)) fun v6 => ACalls P update_Write.n [v6] G4 fun v7 G8 => wv (vextract v7 0) fun v9 => wv (vextract v7 1) fun v10 => wv (vload T G8 t_api_Update (.ptr i1 [] 0)) fun v11 => ACalls P update_Valid.n [v11] G8 fun v12 G13 => wv (vbin T .eql t_api_Errno v10 (.int .i64 0)) fun v14 => wv (vbin T .neq t_bool v12 v14) fun v15 => brB (some v15)
  (Q (.bool false) G13)
  (wv (vbin T .eql t_api_Errno v10 (.int .i64 0)) fun v16 => let J97 : Heap → Prop := (fun G63 => ACalls P update_Read.n [a3] G63 fun v64 G65 => wv (vextract v64 0) fun v66 => wv (vextract v64 1) fun v67 => wv (vextract v64 2) fun v68 => aNew G65 (.own (z_api_Update)) fun i69 G70 => wg (vstore T G70 t_api_Update (.ptr i69 [] 0) v66) fun G71 => wv (vbin T .neq t_api_Errno v68 (.int .i64 0)) fun v72 => brB (some v72)
  (wv (vload T G71 t_api_Update (.ptr i69 [] 0)) fun v73 => wv (vbuild T t_api_Update []) fun v74 => wv (vbin T .eql t_api_Update v73 v74) fun v75 => brB (some v75)
  (wv (vbin T .eql t_int v67 (.int .i64 0)) fun v76 => brB (some v76)
  (wv (vbin T .eql t_api_Errno v68 (.int .i64 2)) fun v77 => brB (some v77)
  (Q (.bool true) G71)
  (wv (vbin T .eql t_api_Errno v68 (.int .i64 120)) fun v78 => Q v78 G71))
  (Q (.bool false) G71))
  (Q (.bool false) G71))
  (wv (vload T G71 t_api_Update (.ptr i69 [] 0)) fun v81 => ACalls P update_Write.n [v81] G71 fun v82 G83 => wv (vextract v82 0) fun v84 => wv (vextract v82 1) fun v85 => wv (vbin T .gtr t_int v67 (.int .i64 0)) fun v86 => brB (some v86)
  (wv (vlen T G83 t_string a3) fun v87 => wv (vbin T .leq t_int v67 v87) fun v88 => brB (some v88)
  (wv (vload T G83 t_api_Update (.ptr i69 [] 0)) fun v89 => ACalls P update_Valid.n [v89] G83 fun v90 G91 => brB (some v90)
  (wv (vbin T .eql t_api_Errno v85 (.int .i64 0)) fun v92 => brB (some v92)
  (wv (vslice T t_string a3 none (some (v67)) none) fun v93 => wv (vbin T .eql t_string v84 v93) fun v94 => Q v94 G91)
  (Q (.bool false) G91))
  (Q (.bool false) G91))
  (Q (.bool false) G83))
  (Q (.bool false) G83)));
  brB (some v16)
  (wv (vbin T .add t_string v9 a1) fun v17 => ACalls P update_Read.n [v17] G13 fun v18 G19 => wv (vextract v18 0) fun v20 => wv (vextract v18 1) fun v21 => wv (vextract v18 2) fun v22 => aNew G19 (.own (z_api_Update)) fun i23 G24 => wg (vstore T G24 t_api_Update (.ptr i23 [] 0) v20) fun G25 => let J58 : AVal → Heap → Prop := (fun x34 G33 => brB (some x34)
  (Q (.bool false) G33)
  (wv (vlen T G33 t_string v9) fun v35 => wv (vbin T .rem t_int a2 v35) fun v36 => wv (vbin T .lss t_int v36 (.int .i64 0)) fun v37 => let J57 : AVal → Heap → Prop := (fun x40 G39 => wv (vslice T t_string v9 none (some (x40)) none) fun v41 => ACalls P update_Read.n [v41] G39 fun v42 G43 => wv (vextract v42 0) fun v44 => wv (vextract v42 1) fun v45 => wv (vextract v42 2) fun v46 => aNew G43 (.own (z_api_Update)) fun i47 G48 => wg (vstore T G48 t_api_Update (.ptr i47 [] 0) v44) fun G49 => wv (vbin T .neq t_api_Errno v46 (.int .i64 2)) fun v50 => brB (some v50)
  (Q (.bool false) G49)
  (wv (vload T G49 t_api_Update (.ptr i47 [] 0)) fun v51 => wv (vbuild T t_api_Update []) fun v52 => wv (vbin T .neq t_api_Update v51 v52) fun v53 => brB (some v53)
  (Q (.bool false) G49)
  (wv (vbin T .neq t_int v45 (.int .i64 0)) fun v54 => brB (some v54)
  (Q (.bool false) G49)
  (J97 G49))));
  brB (some v37)
  (wv (vun .neg v36) fun v38 => J57 v38 G33)
  (J57 v36 G33)));
  wv (vbin T .neq t_api_Errno v22 (.int .i64 0)) fun v26 => brB (some v26)
  (J58 (.bool true) G25)
  (wv (vload T G25 t_api_Update (.ptr i23 [] 0)) fun v27 => wv (vload T G25 t_api_Update (.ptr i1 [] 0)) fun v28 => wv (vbin T .neq t_api_Update v27 v28) fun v29 => brB (some v29)
  (J58 (.bool true) G25)
  (wv (vlen T G25 t_string v9) fun v30 => wv (vbin T .neq t_int v21 v30) fun v31 => brB (some v31)
  (J58 (.bool true) G25)
  (wv (vbin T .eql t_string v9 (.str [])) fun v32 => J58 v32 G25))))
  (wv (vbin T .neq t_api_Errno v10 (.int .i64 120)) fun v59 => brB (some v59)
  (Q (.bool false) G13)
  (wv (vbin T .neq t_string v9 (.str [])) fun v60 => brB (some v60)
  (Q (.bool false) G13)
  (J97 G13)))))
def escrowlaw12_UpdateBack.an : Ann := .nil
set_option maxRecDepth 100000 in
theorem escrowlaw12_UpdateBack.sound {a0 a1 a2 a3 : AVal} {G : Heap} {Q : AVal → Heap → Prop} (h : escrowlaw12_UpdateBack.S a0 a1 a2 a3 G Q) : ACalls P escrowlaw12_UpdateBack.n [a0, a1, a2, a3] G Q := by
  have e : escrowlaw12_UpdateBack.S a0 a1 a2 a3 G Q = awp cx (escrowlaw12_UpdateBack.body) escrowlaw12_UpdateBack.an (bodyQ T [.tmp 8] Q) (envL [a0, a1, a2, a3]) G := by kernel_rfl
  exact ACalls_of_awp cxOk (f := escrowlaw12_UpdateBack.n) (fn := Try.f5) (c := escrowlaw12_UpdateBack.body) (an := escrowlaw12_UpdateBack.an) Try.func5 (by kernel_rfl) (by kernel_rfl) (by kernel_rfl) (drawsOk_of (by kernel_rfl) (by kernel_rfl)) (by simp [Try.f5]) (e ▸ h)

/-! #### escrow/escrowlaw12.sum -/
def escrowlaw12_sum.S (a0 : AVal) (G : Heap) (Q : AVal → Heap → Prop) : Prop :=
  aNew G (.own (a0)) fun i1 G2 => aNew G2 (.own (z_api_Hash)) fun i3 G4 => wv (vslice T t_api_Hash (.ptr i1 [] 0) none none none) fun v5 => wv (vconv T G4 t_sl_uint8 t_string v5) fun v6 => aBuildSlice T t_sl_string 1 [(0, v6)] G4 fun v7 G8 => ACalls P hash_Sum.n [v7] G8 fun v9 G10 => wg (vstore T G10 t_api_Hash (.ptr i3 [] 0) v9) fun G11 => wv (vload T G11 t_api_Hash (.ptr i3 [] 0)) fun v12 => Q v12 G11
def escrowlaw12_sum.an : Ann := .nil
set_option maxRecDepth 100000 in
theorem escrowlaw12_sum.sound {a0 : AVal} {G : Heap} {Q : AVal → Heap → Prop} (h : escrowlaw12_sum.S a0 G Q) : ACalls P escrowlaw12_sum.n [a0] G Q := by
  have e : escrowlaw12_sum.S a0 G Q = awp cx (escrowlaw12_sum.body) escrowlaw12_sum.an (bodyQ T [.cell 2 23] Q) (envL [a0]) G := by kernel_rfl
  exact ACalls_of_awp cxOk (f := escrowlaw12_sum.n) (fn := Try.f23) (c := escrowlaw12_sum.body) (an := escrowlaw12_sum.an) Try.func23 (by kernel_rfl) (by kernel_rfl) (by kernel_rfl) (drawsOk_of (by kernel_rfl) (by kernel_rfl)) (by simp [Try.f23]) (e ▸ h)

/-! #### escrow/escrowlaw12.preimage -/
def escrowlaw12_preimage.S (a0 a1 : AVal) (G : Heap) (Q : AVal → Heap → Prop) : Prop :=
  aNew G (.own (z_api_Hash)) fun i1 G2 => wv (vconv T G2 t_int64 t_uint8 a1) fun v3 => wv (vbin T .shr t_int64 a1 (.int .u64 8)) fun v4 => wv (vconv T G2 t_int64 t_uint8 v4) fun v5 => wv (vbuild T t_api_Hash [(0, .int .u8 112), (1, v3), (2, v5)]) fun v6 => aNew G2 (.own (z_api_Hash)) fun i7 G8 => wg (vstore T G8 t_api_Hash (.ptr i7 [] 0) v6) fun G9 => brB (some a0)
  (wv (viaddr T t_api_Hash (.ptr i7 [] 0) (.int .i64 3)) fun v10 => wg (vstore T G9 t_uint8 v10 (.int .u8 1)) fun G11 => wv (vload T G11 t_api_Hash (.ptr i7 [] 0)) fun v16 => wg (vstore T G11 t_api_Hash (.ptr i1 [] 0) v16) fun G17 => wv (vload T G17 t_api_Hash (.ptr i1 [] 0)) fun v18 => Q v18 G17)
  (wv (vload T G9 t_api_Hash (.ptr i7 [] 0)) fun v19 => wg (vstore T G9 t_api_Hash (.ptr i1 [] 0) v19) fun G20 => wv (vload T G20 t_api_Hash (.ptr i1 [] 0)) fun v21 => Q v21 G20)
def escrowlaw12_preimage.an : Ann := .nil
set_option maxRecDepth 100000 in
theorem escrowlaw12_preimage.sound {a0 a1 : AVal} {G : Heap} {Q : AVal → Heap → Prop} (h : escrowlaw12_preimage.S a0 a1 G Q) : ACalls P escrowlaw12_preimage.n [a0, a1] G Q := by
  have e : escrowlaw12_preimage.S a0 a1 G Q = awp cx (escrowlaw12_preimage.body) escrowlaw12_preimage.an (bodyQ T [.cell 4 23] Q) (envL [a0, a1]) G := by kernel_rfl
  exact ACalls_of_awp cxOk (f := escrowlaw12_preimage.n) (fn := Try.f24) (c := escrowlaw12_preimage.body) (an := escrowlaw12_preimage.an) Try.func24 (by kernel_rfl) (by kernel_rfl) (by kernel_rfl) (drawsOk_of (by kernel_rfl) (by kernel_rfl)) (by simp [Try.f24]) (e ▸ h)

/-! #### escrow/escrowlaw12.may -/
def escrowlaw12_may.S (a0 a1 a2 : AVal) (G : Heap) (Q : AVal → Heap → Prop) : Prop :=
  aNew G (.own (a2)) fun i1 G2 => wv (vload T G2 t_api_Update (.ptr i1 [] 0)) fun v3 => ACalls P update_Valid.n [v3] G2 fun v4 G5 => wv (vun .not v4) fun v6 => brB (some v6)
  (Q (.bool false) G5)
  (∀ R7 : List AVal → Heap → Prop,
  (∀ (x9 x10 x11 x12 x13 x14 : AVal) (G8 : Heap), (wv (vlen T G8 t_sl_api_Update x9) fun v15 => wv (vbin T .lss t_int x14 v15) fun v16 => brB (some v16)
  (wv (viaddr T t_sl_api_Update x9 x14) fun v17 => wv (vfaddr T t_api_Update v17 0) fun v18 => wv (vload T G8 t_int v18) fun v19 => wv (vbin T .eql t_int v19 (.int .i64 1)) fun v20 => brB (some v20)
  (wv (vbin T .add t_int64 x12 (.int .i64 1)) fun v21 => wv (vbin T .add t_int x14 (.int .i64 1)) fun v37 => R7 [x9, x10, x11, v21, x13, v37] G8)
  (wv (viaddr T t_sl_api_Update x9 x14) fun v22 => wv (vfaddr T t_api_Update v22 1) fun v23 => wv (vload T G8 t_int64 v23) fun v24 => wv (vfaddr T t_api_Update x11 1) fun v25 => wv (vload T G8 t_int64 v25) fun v26 => wv (vbin T .eql t_int64 v24 v26) fun v27 => brB (some v27)
  (wv (vbin T .add t_int x14 (.int .i64 1)) fun v38 => R7 [x9, x10, x11, x12, .bool true, v38] G8)
  (wv (vbin T .add t_int x14 (.int .i64 1)) fun v39 => R7 [x9, x10, x11, x12, x13, v39] G8)))
  (wv (vfaddr T t_api_Update x11 0) fun v40 => wv (vload T G8 t_int v40) fun v41 => wv (vbin T .eql t_int v41 (.int .i64 1)) fun v42 => brB (some v42)
  (wv (vfaddr T t_api_Update x11 1) fun v43 => wv (vload T G8 t_int64 v43) fun v44 => wv (vbin T .eql t_int64 v44 x12) fun v45 => Q v45 G8)
  (wv (vfaddr T t_api_Update x11 1) fun v46 => wv (vload T G8 t_int64 v46) fun v47 => ACalls P update_Find.n [x10, v47] G8 fun v48 G49 => wv (vextract v48 0) fun v50 => wv (vextract v48 1) fun v51 => aNew G49 (.own (z_api_Update)) fun i52 G53 => wg (vstore T G53 t_api_Update (.ptr i52 [] 0) v50) fun G54 => brB (some v51)
  (wv (vun .not x13) fun v55 => brB (some v55)
  (wv (vfaddr T t_api_Update x11 0) fun v56 => wv (vload T G54 t_int v56) fun v57 => wv (vbin T .eql t_int v57 (.int .i64 3)) fun v58 => brB (some v58)
  (Q (.bool true) G54)
  (wv (vfaddr T t_api_Update x11 3) fun v59 => wv (vload T G54 t_api_Hash v59) fun v60 => wv (vload T G54 t_api_Hash (.ptr i52 [3] 3)) fun v61 => ACalls P escrowlaw12_sum.n [v60] G54 fun v62 G63 => (vload T G63 t_api_Hash (.ptr i52 [3] 3) = some v61 ∧ True) ∧ (wv (vbin T .eql t_api_Hash v62 v61) fun v64 => Q v64 G63)))
  (Q (.bool false) G54))
  (Q (.bool false) G54)))) → R7 [x9, x10, x11, x12, x13, x14] G8) →
  R7 [a0, a1, .ptr i1 [] 0, .int .i64 0, .bool false, .int .i64 0] G5)
def escrowlaw12_may.an : Ann := .two (.nil) (.two (.nil) (.two (.nil) (.two (.nil) (.two (.two (.nil) (.loop [0, 1, 5, 7, 8, 9] (.two (.nil) (.two (.two (.nil) (.two (.nil) (.two (.ord [(0, []), (1, []), (2, []), (3, []), (4, []), (5, []), (6, []), (7, [])]) (.nil)))) (.nil))))) (.two (.nil) (.two (.nil) (.two (.ord [(0, []), (1, []), (2, []), (3, []), (4, []), (5, []), (6, []), (7, []), (8, []), (9, []), (10, []), (11, []), (13, []), (14, []), (12, [14]), (15, []), (16, []), (17, []), (18, [])]) (.nil))))))))
set_option maxRecDepth 100000 in
theorem escrowlaw12_may.sound {a0 a1 a2 : AVal} {G : Heap} {Q : AVal → Heap → Prop} (h : escrowlaw12_may.S a0 a1 a2 G Q) : ACalls P escrowlaw12_may.n [a0, a1, a2] G Q := by
  have e : escrowlaw12_may.S a0 a1 a2 G Q = awp cx (escrowlaw12_may.body) escrowlaw12_may.an (bodyQ T [.tmp 6] Q) (envL [a0, a1, a2]) G := by kernel_rfl
  exact ACalls_of_awp cxOk (f := escrowlaw12_may.n) (fn := Try.f25) (c := escrowlaw12_may.body) (an := escrowlaw12_may.an) Try.func25 (by kernel_rfl) (by kernel_rfl) (by kernel_rfl) (drawsOk_of (by kernel_rfl) (by kernel_rfl)) (by simp [Try.f25]) (e ▸ h)

/-! #### escrow/escrowlaw12.sound -/
def escrowlaw12_sound.S (a0 a1 : AVal) (G : Heap) (Q : AVal → Heap → Prop) : Prop :=
  ∀ R1 : List AVal → Heap → Prop,
  (∀ (x3 x4 x5 x6 : AVal) (G2 : Heap), (wv (vlen T G2 t_sl_api_Update x3) fun v7 => wv (vbin T .lss t_int x6 v7) fun v8 => brB (some v8)
  (wv (viaddr T t_sl_api_Update x3 x6) fun v9 => wv (vload T G2 t_api_Update v9) fun v10 => aNew G2 (.own (z_api_Update)) fun i11 G12 => wg (vstore T G12 t_api_Update (.ptr i11 [] 0) v10) fun G13 => wv (vload T G13 t_int (.ptr i11 [0] 0)) fun v14 => wv (vbin T .eql t_int v14 (.int .i64 1)) fun v15 => brB (some v15)
  (wv (vload T G13 t_int64 (.ptr i11 [1] 1)) fun v16 => wv (vbin T .neq t_int64 v16 x5) fun v17 => brB (some v17)
  (Q (.bool false) G13)
  (wv (vbin T .add t_int64 x5 (.int .i64 1)) fun v18 => wv (vbin T .add t_int x6 (.int .i64 1)) fun v97 => R1 [x3, x4, v18, v97] G13))
  (∀ R19 : List AVal → Heap → Prop,
  (∀ (x21 x22 x23 x24 x25 x26 x27 : AVal) (G20 : Heap), (wv (vlen T G20 t_sl_api_Update x22) fun v28 => wv (vbin T .lss t_int x27 v28) fun v29 => brB (some v29)
  (let J57 : AVal → Heap → Prop := (fun x41 G40 => brB (some x41)
  (wv (vfaddr T t_api_Update x25 0) fun v42 => wv (vload T G40 t_int v42) fun v43 => wv (vbin T .eql t_int v43 (.int .i64 3)) fun v44 => brB (some v44)
  (wv (vbin T .add t_int x27 (.int .i64 1)) fun v61 => R19 [x21, x22, x23, x24, x25, .bool true, v61] G40)
  (wv (vfaddr T t_api_Update x25 3) fun v45 => wv (vload T G40 t_api_Hash v45) fun v46 => wv (viaddr T t_sl_api_Update x22 x27) fun v47 => wv (vfaddr T t_api_Update v47 3) fun v48 => wv (vload T G40 t_api_Hash v48) fun v49 => ACalls P escrowlaw12_sum.n [v46] G40 fun v50 G51 => (vload T G51 t_api_Hash v48 = some v49 ∧ True) ∧ (wv (vbin T .eql t_api_Hash v50 v49) fun v52 => wv (vbin T .add t_int x27 (.int .i64 1)) fun v62 => R19 [x21, x22, x23, x24, x25, v52, v62] G51)))
  (wv (vbin T .add t_int x27 (.int .i64 1)) fun v63 => R19 [x21, x22, x23, x24, x25, x26, v63] G40));
  wv (viaddr T t_sl_api_Update x22 x27) fun v30 => wv (vfaddr T t_api_Update v30 0) fun v31 => wv (vload T G20 t_int v31) fun v32 => wv (vbin T .eql t_int v32 (.int .i64 1)) fun v33 => brB (some v33)
  (wv (viaddr T t_sl_api_Update x22 x27) fun v34 => wv (vfaddr T t_api_Update v34 1) fun v35 => wv (vload T G20 t_int64 v35) fun v36 => wv (vfaddr T t_api_Update x25 1) fun v37 => wv (vload T G20 t_int64 v37) fun v38 => wv (vbin T .eql t_int64 v36 v38) fun v39 => J57 v39 G20)
  (J57 (.bool false) G20))
  (∀ R64 : List AVal → Heap → Prop,
  (∀ (x66 x67 x68 x69 x70 x71 x72 : AVal) (G65 : Heap), (wv (vbin T .lss t_int x72 x69) fun v73 => brB (some v73)
  (wv (viaddr T t_sl_api_Update x66 x72) fun v74 => wv (vfaddr T t_api_Update v74 0) fun v75 => wv (vload T G65 t_int v75) fun v76 => wv (vbin T .neq t_int v76 (.int .i64 1)) fun v77 => brB (some v77)
  (wv (viaddr T t_sl_api_Update x66 x72) fun v78 => wv (vfaddr T t_api_Update v78 1) fun v79 => wv (vload T G65 t_int64 v79) fun v80 => wv (vfaddr T t_api_Update x70 1) fun v81 => wv (vload T G65 t_int64 v81) fun v82 => wv (vbin T .eql t_int64 v80 v82) fun v83 => brB (some v83)
  (Q (.bool false) G65)
  (wv (vbin T .add t_int x72 (.int .i64 1)) fun v88 => R64 [x66, x67, x68, x69, x70, x71, v88] G65))
  (wv (vbin T .add t_int x72 (.int .i64 1)) fun v89 => R64 [x66, x67, x68, x69, x70, x71, v89] G65))
  (wv (vun .not x71) fun v90 => brB (some v90)
  (Q (.bool false) G65)
  (wv (vbin T .add t_int x69 (.int .i64 1)) fun v98 => R1 [x66, x67, x68, v98] G65))) → R64 [x66, x67, x68, x69, x70, x71, x72] G65) →
  R64 [x21, x22, x23, x24, x25, x26, .int .i64 0] G20)) → R19 [x21, x22, x23, x24, x25, x26, x27] G20) →
  R19 [x3, x4, x5, x6, .ptr i11 [] 0, .bool false, .int .i64 0] G13))
  (Q (.bool true) G2)) → R1 [x3, x4, x5, x6] G2) →
  R1 [a0, a1, .int .i64 0, .int .i64 0] G
def escrowlaw12_sound.an : Ann := .two (.nil) (.two (.nil) (.two (.two (.nil) (.loop [0, 1, 5, 6] (.two (.nil) (.two (.two (.nil) (.two (.nil) (.two (.nil) (.two (.two (.nil) (.loop [0, 1, 5, 6, 7, 8, 9] (.two (.nil) (.two (.two (.ord [(0, []), (1, []), (2, []), (3, []), (4, []), (5, []), (6, []), (7, []), (8, []), (9, []), (10, []), (11, []), (12, []), (13, []), (14, []), (15, [])]) (.two (.ord [(0, []), (1, []), (2, []), (3, []), (4, []), (5, []), (7, []), (8, []), (9, []), (10, []), (11, []), (6, [11]), (12, []), (13, []), (14, [])]) (.nil))) (.nil))))) (.two (.two (.nil) (.loop [0, 1, 5, 6, 7, 8, 10] (.two (.nil) (.two (.two (.ord [(0, []), (1, []), (2, []), (3, []), (4, []), (5, []), (6, []), (7, []), (8, []), (9, []), (10, []), (11, []), (12, []), (13, []), (14, []), (15, [])]) (.nil)) (.nil))))) (.nil)))))) (.nil))))) (.nil)))
set_option maxRecDepth 100000 in
theorem escrowlaw12_sound.sound {a0 a1 : AVal} {G : Heap} {Q : AVal → Heap → Prop} (h : escrowlaw12_sound.S a0 a1 G Q) : ACalls P escrowlaw12_sound.n [a0, a1] G Q := by
  have e : escrowlaw12_sound.S a0 a1 G Q = awp cx (escrowlaw12_sound.body) escrowlaw12_sound.an (bodyQ T [.tmp 4] Q) (envL [a0, a1]) G := by kernel_rfl
  exact ACalls_of_awp cxOk (f := escrowlaw12_sound.n) (fn := Try.f26) (c := escrowlaw12_sound.body) (an := escrowlaw12_sound.an) Try.func26 (by kernel_rfl) (by kernel_rfl) (by kernel_rfl) (drawsOk_of (by kernel_rfl) (by kernel_rfl)) (by simp [Try.f26]) (e ▸ h)

/-! #### escrow/escrowlaw12.UpdateGrows -/
def escrowlaw12_UpdateGrows.S (a0 : AVal) (G : Heap) (Q : AVal → Heap → Prop) : Prop :=
  ACalls P escrowlaw12_head.n [] G fun v1 G2 => wv (vun .not v1) fun v3 => brB (some v3)
  (Q (.bool false) G2)
  (aNew G2 (.own (z_ar2_api_Update)) fun i4 G5 => ∀ R6 : List AVal → Heap → Prop,
  (∀ (x8 x9 x10 : AVal) (G7 : Heap), (let J122 : AVal → Heap → Prop := (fun x15 G14 => brB (some x15)
  (wv (viaddr T t_sl_escrowlaw12_Word x8 x10) fun v16 => wv (vload T G14 t_escrowlaw12_Word v16) fun v17 => aNew G14 (.own (z_escrowlaw12_Word)) fun i18 G19 => wg (vstore T G19 t_escrowlaw12_Word (.ptr i18 [] 0) v17) fun G20 => wv (vload T G20 t_bool (.ptr i18 [0] 0)) fun v21 => let J118 : AVal → Heap → Prop := (fun x23 G22 => wv (vload T G22 t_api_Update (.ptr i18 [1] 1)) fun v24 => aNew G22 (.own (z_api_Update)) fun i25 G26 => wg (vstore T G26 t_api_Update (.ptr i25 [] 0) v24) fun G27 => let J117 : AVal → Heap → Prop := (fun x32 G31 => let J116 : Heap → Prop := (fun G40 => let J115 : AVal → Heap → Prop := (fun x45 G44 => let J114 : Heap → Prop := (fun G52 => wv (vload T G52 t_int (.ptr i18 [2] 37)) fun v53 => wv (vbin T .sub t_int (.int .i64 1) x23) fun v54 => wv (viaddr T t_ar2_api_Update x9 v54) fun v55 => wv (vload T G52 t_sl_api_Update v55) fun v56 => wv (vlen T G52 t_sl_api_Update v56) fun v57 => wv (vbin T .add t_int v57 (.int .i64 1)) fun v58 => wv (vbin T .rem t_int v53 v58) fun v59 => wv (vbin T .lss t_int v59 (.int .i64 0)) fun v60 => let J113 : AVal → Heap → Prop := (fun x63 G62 => wv (vbin T .sub t_int (.int .i64 1) x23) fun v64 => wv (viaddr T t_ar2_api_Update x9 v64) fun v65 => wv (vload T G62 t_sl_api_Update v65) fun v66 => wv (vslice T t_sl_api_Update v66 none (some (x63)) none) fun v67 => wv (viaddr T t_ar2_api_Update x9 x23) fun v68 => wv (vload T G62 t_sl_api_Update v68) fun v69 => wv (vload T G62 t_api_Update (.ptr i25 [] 0)) fun v70 => ACalls P update_Next.n [v69, v67, v70] G62 fun v71 G72 => let J112 : AVal → Heap → Prop := (fun x76 G75 => brB (some x76)
  (Q (.bool false) G75)
  (wv (vbin T .eql t_api_Errno v71 (.int .i64 0)) fun v77 => wv (viaddr T t_ar2_api_Update x9 x23) fun v78 => wv (vload T G75 t_sl_api_Update v78) fun v79 => wv (vload T G75 t_api_Update (.ptr i25 [] 0)) fun v80 => ACalls P escrowlaw12_may.n [v79, v67, v80] G75 fun v81 G82 => wv (vbin T .neq t_bool v77 v81) fun v83 => brB (some v83)
  (Q (.bool false) G82)
  (wv (vbin T .eql t_api_Errno v71 (.int .i64 0)) fun v84 => let J111 : Heap → Prop := (fun G94 => wv (viaddr T t_ar2_api_Update x9 (.int .i64 0)) fun v95 => wv (vload T G94 t_sl_api_Update v95) fun v96 => wv (viaddr T t_ar2_api_Update x9 (.int .i64 1)) fun v97 => wv (vload T G94 t_sl_api_Update v97) fun v98 => ACalls P escrowlaw12_sound.n [v96, v98] G94 fun v99 G100 => wv (vun .not v99) fun v101 => brB (some v101)
  (Q (.bool false) G100)
  (wv (viaddr T t_ar2_api_Update x9 (.int .i64 1)) fun v102 => wv (vload T G100 t_sl_api_Update v102) fun v103 => wv (viaddr T t_ar2_api_Update x9 (.int .i64 0)) fun v104 => wv (vload T G100 t_sl_api_Update v104) fun v105 => ACalls P escrowlaw12_sound.n [v103, v105] G100 fun v106 G107 => wv (vun .not v106) fun v108 => brB (some v108)
  (Q (.bool false) G107)
  (wv (vbin T .add t_int x10 (.int .i64 1)) fun v121 => R6 [x8, x9, v121] G107)));
  brB (some v84)
  (wv (viaddr T t_ar2_api_Update x9 x23) fun v85 => wv (vload T G82 t_sl_api_Update v85) fun v86 => wv (vload T G82 t_api_Update (.ptr i25 [] 0)) fun v87 => aBuildSlice T t_sl_api_Update 1 [(0, v87)] G82 fun v88 G89 => aAppend T G89 t_sl_api_Update t_sl_api_Update v86 v88 fun v90 G91 => wv (viaddr T t_ar2_api_Update x9 x23) fun v92 => wg (vstore T G91 t_sl_api_Update v92 v90) fun G93 => J111 G93)
  (J111 G82))));
  wv (vbin T .neq t_api_Errno v71 (.int .i64 0)) fun v73 => brB (some v73)
  (wv (vbin T .neq t_api_Errno v71 (.int .i64 120)) fun v74 => J112 v74 G72)
  (J112 (.bool false) G72));
  brB (some v60)
  (wv (vun .neg v59) fun v61 => J113 v61 G52)
  (J113 v59 G52));
  brB (some x45)
  (wv (vload T G44 t_bool (.ptr i18 [0] 0)) fun v46 => wv (vun .not v46) fun v47 => wv (vload T G44 t_int64 (.ptr i25 [1] 1)) fun v48 => ACalls P escrowlaw12_preimage.n [v47, v48] G44 fun v49 G50 => wg (vstore T G50 t_api_Hash (.ptr i25 [3] 3) v49) fun G51 => J114 G51)
  (J114 G44));
  wv (vload T G40 t_int (.ptr i25 [0] 0)) fun v41 => wv (vbin T .eql t_int v41 (.int .i64 2)) fun v42 => brB (some v42)
  (wv (vload T G40 t_bool (.ptr i18 [3] 38)) fun v43 => J115 v43 G40)
  (J115 (.bool false) G40));
  brB (some x32)
  (wv (vload T G31 t_bool (.ptr i18 [0] 0)) fun v33 => wv (vload T G31 t_int64 (.ptr i25 [1] 1)) fun v34 => ACalls P escrowlaw12_preimage.n [v33, v34] G31 fun v35 G36 => ACalls P escrowlaw12_sum.n [v35] G36 fun v37 G38 => wg (vstore T G38 t_api_Hash (.ptr i25 [3] 3) v37) fun G39 => J116 G39)
  (J116 G31));
  wv (vload T G27 t_int (.ptr i25 [0] 0)) fun v28 => wv (vbin T .eql t_int v28 (.int .i64 1)) fun v29 => brB (some v29)
  (wv (vload T G27 t_bool (.ptr i18 [3] 38)) fun v30 => J117 v30 G27)
  (J117 (.bool false) G27));
  brB (some v21)
  (J118 (.int .i64 1) G20)
  (J118 (.int .i64 0) G20))
  (Q (.bool true) G14));
  wv (vlen T G7 t_sl_escrowlaw12_Word x8) fun v11 => wv (vbin T .lss t_int x10 v11) fun v12 => brB (some v12)
  (wv (vbin T .lss t_int x10 (.int .i64 80)) fun v13 => J122 v13 G7)
  (J122 (.bool false) G7)) → R6 [x8, x9, x10] G7) →
  R6 [a0, .ptr i4 [] 0, .int .i64 0] G5)
def escrowlaw12_UpdateGrows.an : Ann := .two (.nil) (.two (.nil) (.two (.nil) (.two (.two (.nil) (.loop [0, 3, 4] (.two (.nil) (.two (.two (.nil) (.two (.nil) (.two (.nil) (.two (.nil) (.two (.nil) (.two (.nil) (.two (.ord [(0, []), (1, []), (2, []), (3, []), (4, []), (5, []), (6, []), (7, []), (8, []), (9, [])]) (.two (.nil) (.two (.nil) (.two (.ord [(0, []), (1, []), (2, []), (3, []), (4, []), (5, []), (6, [])]) (.two (.nil) (.two (.two (.ord [(0, []), (1, []), (2, []), (3, []), (4, []), (5, []), (6, []), (7, []), (8, [])]) (.nil)) (.two (.two (.nil) (.two (.ord [(0, []), (1, []), (2, []), (3, []), (4, []), (5, []), (6, []), (7, []), (8, [])]) (.nil))) (.nil)))))))))))))) (.nil))))) (.nil))))
set_option maxRecDepth 100000 in
theorem escrowlaw12_UpdateGrows.sound {a0 : AVal} {G : Heap} {Q : AVal → Heap → Prop} (h : escrowlaw12_UpdateGrows.S a0 G Q) : ACalls P escrowlaw12_UpdateGrows.n [a0] G Q := by
  have e : escrowlaw12_UpdateGrows.S a0 G Q = awp cx (escrowlaw12_UpdateGrows.body) escrowlaw12_UpdateGrows.an (bodyQ T [.tmp 2] Q) (envL [a0]) G := by kernel_rfl
  exact ACalls_of_awp cxOk (f := escrowlaw12_UpdateGrows.n) (fn := Try.f6) (c := escrowlaw12_UpdateGrows.body) (an := escrowlaw12_UpdateGrows.an) Try.func6 (by kernel_rfl) (by kernel_rfl) (by kernel_rfl) (drawsOk_of (by kernel_rfl) (by kernel_rfl)) (by simp [Try.f6]) (e ▸ h)

end Go.Esc.M
