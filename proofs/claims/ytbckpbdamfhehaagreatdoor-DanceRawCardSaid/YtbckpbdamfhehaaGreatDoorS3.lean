/- Printed by gen.py (own work): functions of the program YtbckpbdamfhehaaGreatDoor over trees and the abstract heap. -/
import Derived.Test.YtbckpbdamfhehaaGreatDoorT
set_option linter.unusedSimpArgs false
set_option linter.unusedVariables false
namespace Go.Esc.M
open Go Go.Esc Go.Proofs

/-! #### escrow/escrowref02.block -/
def escrowref02_block.S (a0 a1 a2 : AVal) (G : Heap) (Q : AVal → Heap → Prop) : Prop :=
  aNew G (.own (a0)) fun i1 G2 => aNew G2 (.own (z_ar8_uint32)) fun i3 G4 => ACalls P escrowref02_rounds.n [] G4 fun v5 G6 => aNew G6 (.own (z_ar64_uint32)) fun i7 G8 => wg (vstore T G8 t_ar64_uint32 (.ptr i7 [] 0) v5) fun G9 => aNew G9 (.own (z_ar64_uint32)) fun i10 G11 => ∀ R12 : List AVal → Heap → Prop,
  (∀ (x14 x15 x16 x17 x18 x19 x20 : AVal) (G13 : Heap), (wv (vbin T .lss t_int x20 (.int .i64 16)) fun v21 => brB (some v21)
  (wv (vbin T .mul t_int (.int .i64 4) x20) fun v22 => wv (vbin T .add t_int x15 v22) fun v23 => wv (viaddr T t_sl_uint8 x14 v23) fun v24 => wv (vload T G13 t_uint8 v24) fun v25 => wv (vconv T G13 t_uint8 t_uint32 v25) fun v26 => wv (vbin T .shl t_uint32 v26 (.int .u64 24)) fun v27 => wv (vbin T .add t_int v23 (.int .i64 1)) fun v28 => wv (viaddr T t_sl_uint8 x14 v28) fun v29 => wv (vload T G13 t_uint8 v29) fun v30 => wv (vconv T G13 t_uint8 t_uint32 v30) fun v31 => wv (vbin T .shl t_uint32 v31 (.int .u64 16)) fun v32 => wv (vbin T .or t_uint32 v27 v32) fun v33 => wv (vbin T .add t_int v23 (.int .i64 2)) fun v34 => wv (viaddr T t_sl_uint8 x14 v34) fun v35 => wv (vload T G13 t_uint8 v35) fun v36 => wv (vconv T G13 t_uint8 t_uint32 v36) fun v37 => wv (vbin T .shl t_uint32 v37 (.int .u64 8)) fun v38 => wv (vbin T .or t_uint32 v33 v38) fun v39 => wv (vbin T .add t_int v23 (.int .i64 3)) fun v40 => wv (viaddr T t_sl_uint8 x14 v40) fun v41 => wv (vload T G13 t_uint8 v41) fun v42 => wv (vconv T G13 t_uint8 t_uint32 v42) fun v43 => wv (vbin T .or t_uint32 v39 v43) fun v44 => wv (viaddr T t_ar64_uint32 x19 x20) fun v45 => wg (vstore T G13 t_uint32 v45 v44) fun G46 => wv (vbin T .add t_int x20 (.int .i64 1)) fun v47 => R12 [x14, x15, x16, x17, x18, x19, v47] G46)
  (∀ R48 : List AVal → Heap → Prop,
  (∀ (x50 x51 x52 x53 x54 : AVal) (G49 : Heap), (wv (vbin T .lss t_int x54 (.int .i64 64)) fun v55 => brB (some v55)
  (wv (vbin T .sub t_int x54 (.int .i64 15)) fun v56 => wv (viaddr T t_ar64_uint32 x53 v56) fun v57 => wv (vload T G49 t_uint32 v57) fun v58 => wv (vbin T .sub t_int x54 (.int .i64 2)) fun v59 => wv (viaddr T t_ar64_uint32 x53 v59) fun v60 => wv (vload T G49 t_uint32 v60) fun v61 => wv (vbin T .sub t_int x54 (.int .i64 16)) fun v62 => wv (viaddr T t_ar64_uint32 x53 v62) fun v63 => wv (vload T G49 t_uint32 v63) fun v64 => wv (vbin T .shr t_uint32 v58 (.int .u64 3)) fun v65 => wv (vbin T .sub t_int x54 (.int .i64 7)) fun v66 => wv (viaddr T t_ar64_uint32 x53 v66) fun v67 => wv (vload T G49 t_uint32 v67) fun v68 => wv (vbin T .shr t_uint32 v61 (.int .u64 10)) fun v69 => ACalls P escrowref02_rot.n [v58, .int .i64 7] G49 fun v70 G71 => (vload T G71 t_uint32 v67 = some v68 ∧ vload T G71 t_uint32 v63 = some v64 ∧ True) ∧ (ACalls P escrowref02_rot.n [v58, .int .i64 18] G71 fun v72 G73 => (vload T G73 t_uint32 v67 = some v68 ∧ vload T G73 t_uint32 v63 = some v64 ∧ True) ∧ (wv (vbin T .xor t_uint32 v70 v72) fun v74 => wv (vbin T .xor t_uint32 v74 v65) fun v75 => wv (vbin T .add t_uint32 v64 v75) fun v76 => wv (vbin T .add t_uint32 v76 v68) fun v77 => ACalls P escrowref02_rot.n [v61, .int .i64 17] G73 fun v78 G79 => (vload T G79 t_uint32 v67 = some v68 ∧ vload T G79 t_uint32 v63 = some v64 ∧ True) ∧ (ACalls P escrowref02_rot.n [v61, .int .i64 19] G79 fun v80 G81 => (vload T G81 t_uint32 v67 = some v68 ∧ vload T G81 t_uint32 v63 = some v64 ∧ True) ∧ (wv (vbin T .xor t_uint32 v78 v80) fun v82 => wv (vbin T .xor t_uint32 v82 v69) fun v83 => wv (vbin T .add t_uint32 v77 v83) fun v84 => wv (viaddr T t_ar64_uint32 x53 x54) fun v85 => wg (vstore T G81 t_uint32 v85 v84) fun G86 => wv (vbin T .add t_int x54 (.int .i64 1)) fun v87 => R48 [x50, x51, x52, x53, v87] G86)))))
  (wv (vload T G49 t_ar8_uint32 x50) fun v88 => aNew G49 (.own (z_ar8_uint32)) fun i89 G90 => wg (vstore T G90 t_ar8_uint32 (.ptr i89 [] 0) v88) fun G91 => ∀ R92 : List AVal → Heap → Prop,
  (∀ (x94 x95 x96 x97 x98 x99 : AVal) (G93 : Heap), (wv (vbin T .lss t_int x99 (.int .i64 64)) fun v100 => brB (some v100)
  (wv (viaddr T t_ar8_uint32 x98 (.int .i64 0)) fun v101 => wv (vload T G93 t_uint32 v101) fun v102 => wv (viaddr T t_ar8_uint32 x98 (.int .i64 4)) fun v103 => wv (vload T G93 t_uint32 v103) fun v104 => wv (viaddr T t_ar8_uint32 x98 (.int .i64 7)) fun v105 => wv (vload T G93 t_uint32 v105) fun v106 => wv (viaddr T t_ar8_uint32 x98 (.int .i64 5)) fun v107 => wv (vload T G93 t_uint32 v107) fun v108 => wv (vbin T .and t_uint32 v104 v108) fun v109 => wv (vun .xor v104) fun v110 => wv (viaddr T t_ar8_uint32 x98 (.int .i64 6)) fun v111 => wv (vload T G93 t_uint32 v111) fun v112 => wv (vbin T .and t_uint32 v110 v112) fun v113 => wv (vbin T .xor t_uint32 v109 v113) fun v114 => wv (viaddr T t_ar64_uint32 x96 x99) fun v115 => wv (vload T G93 t_uint32 v115) fun v116 => wv (viaddr T t_ar64_uint32 x97 x99) fun v117 => wv (vload T G93 t_uint32 v117) fun v118 => ACalls P escrowref02_rot.n [v104, .int .i64 6] G93 fun v119 G120 => (vload T G120 t_uint32 v117 = some v118 ∧ vload T G120 t_uint32 v115 = some v116 ∧ vload T G120 t_uint32 v111 = some v112 ∧ vload T G120 t_uint32 v107 = some v108 ∧ vload T G120 t_uint32 v105 = some v106 ∧ True) ∧ (ACalls P escrowref02_rot.n [v104, .int .i64 11] G120 fun v121 G122 => (vload T G122 t_uint32 v117 = some v118 ∧ vload T G122 t_uint32 v115 = some v116 ∧ vload T G122 t_uint32 v111 = some v112 ∧ vload T G122 t_uint32 v107 = some v108 ∧ vload T G122 t_uint32 v105 = some v106 ∧ True) ∧ (wv (vbin T .xor t_uint32 v119 v121) fun v123 => ACalls P escrowref02_rot.n [v104, .int .i64 25] G122 fun v124 G125 => (vload T G125 t_uint32 v117 = some v118 ∧ vload T G125 t_uint32 v115 = some v116 ∧ vload T G125 t_uint32 v111 = some v112 ∧ vload T G125 t_uint32 v107 = some v108 ∧ vload T G125 t_uint32 v105 = some v106 ∧ True) ∧ (wv (vbin T .xor t_uint32 v123 v124) fun v126 => wv (vbin T .add t_uint32 v106 v126) fun v127 => wv (vbin T .add t_uint32 v127 v114) fun v128 => wv (vbin T .add t_uint32 v128 v116) fun v129 => wv (vbin T .add t_uint32 v129 v118) fun v130 => wv (viaddr T t_ar8_uint32 x98 (.int .i64 1)) fun v131 => wv (vload T G125 t_uint32 v131) fun v132 => wv (vbin T .and t_uint32 v102 v132) fun v133 => wv (viaddr T t_ar8_uint32 x98 (.int .i64 2)) fun v134 => wv (vload T G125 t_uint32 v134) fun v135 => wv (vbin T .and t_uint32 v102 v135) fun v136 => wv (vbin T .xor t_uint32 v133 v136) fun v137 => wv (viaddr T t_ar8_uint32 x98 (.int .i64 1)) fun v138 => wv (vload T G125 t_uint32 v138) fun v139 => wv (viaddr T t_ar8_uint32 x98 (.int .i64 2)) fun v140 => wv (vload T G125 t_uint32 v140) fun v141 => wv (vbin T .and t_uint32 v139 v141) fun v142 => wv (vbin T .xor t_uint32 v137 v142) fun v143 => ACalls P escrowref02_rot.n [v102, .int .i64 2] G125 fun v144 G145 => (vload T G145 t_uint32 v140 = some v141 ∧ vload T G145 t_uint32 v138 = some v139 ∧ vload T G145 t_uint32 v134 = some v135 ∧ vload T G145 t_uint32 v131 = some v132 ∧ True) ∧ (ACalls P escrowref02_rot.n [v102, .int .i64 13] G145 fun v146 G147 => (vload T G147 t_uint32 v140 = some v141 ∧ vload T G147 t_uint32 v138 = some v139 ∧ vload T G147 t_uint32 v134 = some v135 ∧ vload T G147 t_uint32 v131 = some v132 ∧ True) ∧ (wv (vbin T .xor t_uint32 v144 v146) fun v148 => ACalls P escrowref02_rot.n [v102, .int .i64 22] G147 fun v149 G150 => (vload T G150 t_uint32 v140 = some v141 ∧ vload T G150 t_uint32 v138 = some v139 ∧ vload T G150 t_uint32 v134 = some v135 ∧ vload T G150 t_uint32 v131 = some v132 ∧ True) ∧ (wv (vbin T .xor t_uint32 v148 v149) fun v151 => wv (vbin T .add t_uint32 v151 v143) fun v152 => wv (vbin T .add t_uint32 v130 v152) fun v153 => wv (viaddr T t_ar8_uint32 x98 (.int .i64 0)) fun v154 => wv (vload T G150 t_uint32 v154) fun v155 => wv (viaddr T t_ar8_uint32 x98 (.int .i64 1)) fun v156 => wv (vload T G150 t_uint32 v156) fun v157 => wv (viaddr T t_ar8_uint32 x98 (.int .i64 2)) fun v158 => wv (vload T G150 t_uint32 v158) fun v159 => wv (viaddr T t_ar8_uint32 x98 (.int .i64 3)) fun v160 => wv (vload T G150 t_uint32 v160) fun v161 => wv (vbin T .add t_uint32 v161 v130) fun v162 => wv (viaddr T t_ar8_uint32 x98 (.int .i64 4)) fun v163 => wv (vload T G150 t_uint32 v163) fun v164 => wv (viaddr T t_ar8_uint32 x98 (.int .i64 5)) fun v165 => wv (vload T G150 t_uint32 v165) fun v166 => wv (viaddr T t_ar8_uint32 x98 (.int .i64 6)) fun v167 => wv (vload T G150 t_uint32 v167) fun v168 => wv (vbuild T t_ar8_uint32 [(0, v153), (1, v155), (2, v157), (3, v159), (4, v162), (5, v164), (6, v166), (7, v168)]) fun v169 => wg (vstore T G150 t_ar8_uint32 x98 v169) fun G170 => wv (vbin T .add t_int x99 (.int .i64 1)) fun v171 => R92 [x94, x95, x96, x97, x98, v171] G170)))))))
  (∀ R172 : List AVal → Heap → Prop,
  (∀ (x174 x175 x176 x177 : AVal) (G173 : Heap), (wv (vbin T .lss t_int x177 (.int .i64 8)) fun v178 => brB (some v178)
  (wv (viaddr T t_ar8_uint32 x176 x177) fun v179 => wv (vload T G173 t_uint32 v179) fun v180 => wv (viaddr T t_ar8_uint32 x174 x177) fun v181 => wv (vload T G173 t_uint32 v181) fun v182 => wv (vbin T .add t_uint32 v180 v182) fun v183 => wv (viaddr T t_ar8_uint32 x176 x177) fun v184 => wg (vstore T G173 t_uint32 v184 v183) fun G185 => wv (vbin T .add t_int x177 (.int .i64 1)) fun v186 => R172 [x174, x175, x176, v186] G185)
  (wv (vload T G173 t_ar8_uint32 x176) fun v187 => wg (vstore T G173 t_ar8_uint32 x175 v187) fun G188 => wv (vload T G188 t_ar8_uint32 x175) fun v189 => Q v189 G188)) → R172 [x174, x175, x176, x177] G173) →
  R172 [x94, x95, x98, .int .i64 0] G93)) → R92 [x94, x95, x96, x97, x98, x99] G93) →
  R92 [x50, x51, x52, x53, .ptr i89 [] 0, .int .i64 0] G91)) → R48 [x50, x51, x52, x53, x54] G49) →
  R48 [x16, x17, x18, x19, .int .i64 16] G13)) → R12 [x14, x15, x16, x17, x18, x19, x20] G13) →
  R12 [a1, a2, .ptr i1 [] 0, .ptr i3 [] 0, .ptr i7 [] 0, .ptr i10 [] 0, .int .i64 0] G11
def escrowref02_block.an : Ann := .two (.nil) (.two (.nil) (.two (.nil) (.two (.two (.nil) (.loop [1, 2, 3, 6, 7, 8, 9] [false, false, false, false, false, false, false] (.two (.nil) (.two (.two (.nil) (.ord [(0, []), (1, []), (2, []), (3, []), (4, []), (5, []), (6, []), (7, []), (8, []), (9, []), (10, []), (11, []), (12, []), (13, []), (14, []), (15, []), (16, []), (17, []), (18, []), (19, []), (20, []), (21, []), (22, []), (23, []), (24, []), (25, []), (26, []), (27, []), (28, []), (29, []), (30, []), (31, [])])) (.nil))))) (.two (.two (.nil) (.loop [3, 6, 7, 8, 11] [false, false, false, false, false] (.two (.nil) (.two (.two (.nil) (.two (.nil) (.ord [(0, []), (1, []), (2, []), (3, []), (4, []), (5, []), (7, []), (10, []), (11, []), (14, []), (15, []), (16, []), (17, []), (19, []), (21, []), (24, []), (25, []), (6, [4, 17]), (8, [4, 17]), (9, []), (12, []), (13, []), (18, []), (20, [4, 17]), (22, [4, 17]), (23, []), (26, []), (27, []), (28, []), (29, [])]))) (.nil))))) (.two (.nil) (.two (.two (.nil) (.loop [3, 6, 7, 8, 14, 15] [false, false, false, false, false, false] (.two (.nil) (.two (.two (.nil) (.two (.nil) (.two (.ord [(0, []), (1, []), (2, []), (4, []), (7, []), (11, []), (12, []), (13, []), (14, []), (15, []), (16, []), (17, []), (18, []), (19, []), (20, []), (22, []), (23, []), (24, []), (26, []), (27, []), (28, []), (3, [1, 13, 18, 24, 28]), (5, [1, 13, 18, 24, 28]), (6, []), (8, [1, 13, 18, 24, 28]), (9, []), (10, []), (21, []), (25, []), (29, []), (30, [])]) (.two (.ord [(0, []), (2, []), (5, []), (8, []), (9, []), (10, []), (11, []), (12, []), (13, []), (14, []), (15, []), (16, []), (17, []), (18, []), (19, []), (20, []), (21, []), (22, []), (1, [10, 14, 18, 20]), (3, [10, 14, 18, 20]), (4, []), (6, [10, 14, 18, 20]), (7, []), (23, []), (24, [])]) (.nil))))) (.nil))))) (.two (.two (.nil) (.loop [3, 6, 14, 20] [false, false, false, false] (.two (.nil) (.two (.ord [(0, []), (1, []), (2, []), (3, []), (4, []), (5, []), (6, []), (7, []), (8, []), (9, [])]) (.nil))))) (.nil))))))))
set_option maxRecDepth 100000 in
theorem escrowref02_block.sound {a0 a1 a2 : AVal} {G : Heap} {Q : AVal → Heap → Prop} (h : escrowref02_block.S a0 a1 a2 G Q) : ACalls P escrowref02_block.n [a0, a1, a2] G Q := by
  have e : escrowref02_block.S a0 a1 a2 G Q = awp cx (escrowref02_block.body) escrowref02_block.an (bodyQ T [.cell 6 148] Q) (envL [a0, a1, a2]) G := by kernel_rfl
  exact ACalls_of_awp cxOk (f := escrowref02_block.n) (fn := Tryz.f109) (c := escrowref02_block.body) (an := escrowref02_block.an) Tryz.func109 (by kernel_rfl) (by kernel_rfl) (by kernel_rfl) (drawsOk_of (by kernel_rfl) (by kernel_rfl)) (by simp [Tryz.f109]) (e ▸ h)

/-! #### escrow/escrowref02.One -/
def escrowref02_One.S (a0 : AVal) (G : Heap) (Q : AVal → Heap → Prop) : Prop :=
  aNew G (.own (z_api_Hash)) fun i1 G2 => ACalls P escrowref02_padded.n [a0] G2 fun v3 G4 => wv (vbuild T t_ar8_uint32 [(0, .int .u32 1779033703), (1, .int .u32 3144134277), (2, .int .u32 1013904242), (3, .int .u32 2773480762), (4, .int .u32 1359893119), (5, .int .u32 2600822924), (6, .int .u32 528734635), (7, .int .u32 1541459225)]) fun v5 => aNew G4 (.own (z_ar8_uint32)) fun i6 G7 => wg (vstore T G7 t_ar8_uint32 (.ptr i6 [] 0) v5) fun G8 => ∀ R9 : List AVal → Heap → Prop,
  (∀ (x11 x12 x13 x14 : AVal) (G10 : Heap), (wv (vlen T G10 t_sl_uint8 x12) fun v15 => wv (vbin T .lss t_int x14 v15) fun v16 => brB (some v16)
  (wv (vload T G10 t_ar8_uint32 x13) fun v17 => ACalls P escrowref02_block.n [v17, x12, x14] G10 fun v18 G19 => wg (vstore T G19 t_ar8_uint32 x13 v18) fun G20 => wv (vbin T .add t_int x14 (.int .i64 64)) fun v21 => R9 [x11, x12, x13, v21] G20)
  (aNew G10 (.own (z_api_Hash)) fun i22 G23 => ∀ R24 : List AVal → Heap → Prop,
  (∀ (x26 x27 x28 x29 : AVal) (G25 : Heap), (wv (vbin T .lss t_int x29 (.int .i64 32)) fun v30 => brB (some v30)
  (wv (vbin T .quo t_int x29 (.int .i64 4)) fun v31 => wv (viaddr T t_ar8_uint32 x27 v31) fun v32 => wv (vload T G25 t_uint32 v32) fun v33 => wv (vbin T .rem t_int x29 (.int .i64 4)) fun v34 => wv (vbin T .mul t_int (.int .i64 8) v34) fun v35 => wv (vbin T .sub t_int (.int .i64 24) v35) fun v36 => wv (vbin T .shr t_uint32 v33 v36) fun v37 => wv (vconv T G25 t_uint32 t_uint8 v37) fun v38 => wv (viaddr T t_api_Hash x28 x29) fun v39 => wg (vstore T G25 t_uint8 v39 v38) fun G40 => wv (vbin T .add t_int x29 (.int .i64 1)) fun v41 => R24 [x26, x27, x28, v41] G40)
  (wv (vload T G25 t_api_Hash x28) fun v42 => wg (vstore T G25 t_api_Hash x26 v42) fun G43 => wv (vload T G43 t_api_Hash x26) fun v44 => Q v44 G43)) → R24 [x26, x27, x28, x29] G25) →
  R24 [x11, x13, .ptr i22 [] 0, .int .i64 0] G23)) → R9 [x11, x12, x13, x14] G10) →
  R9 [.ptr i1 [] 0, v3, .ptr i6 [] 0, .int .i64 0] G8
def escrowref02_One.an : Ann := .two (.nil) (.two (.nil) (.two (.nil) (.two (.two (.nil) (.loop [2, 3, 4, 5] [false, false, false, false] (.nil))) (.two (.nil) (.two (.two (.nil) (.loop [2, 4, 6, 7] [false, false, false, false] (.nil))) (.nil))))))
set_option maxRecDepth 100000 in
theorem escrowref02_One.sound {a0 : AVal} {G : Heap} {Q : AVal → Heap → Prop} (h : escrowref02_One.S a0 G Q) : ACalls P escrowref02_One.n [a0] G Q := by
  have e : escrowref02_One.S a0 G Q = awp cx (escrowref02_One.body) escrowref02_One.an (bodyQ T [.cell 2 23] Q) (envL [a0]) G := by kernel_rfl
  exact ACalls_of_awp cxOk (f := escrowref02_One.n) (fn := Tryz.f103) (c := escrowref02_One.body) (an := escrowref02_One.an) Tryz.func103 (by kernel_rfl) (by kernel_rfl) (by kernel_rfl) (drawsOk_of (by kernel_rfl) (by kernel_rfl)) (by simp [Tryz.f103]) (e ▸ h)

/-! #### escrow/escrowref02.Sum -/
def escrowref02_Sum.S (a0 : AVal) (G : Heap) (Q : AVal → Heap → Prop) : Prop :=
  aNew G (.own (z_api_Hash)) fun i1 G2 => ∀ R3 : List AVal → Heap → Prop,
  (∀ (x5 x6 x7 x8 : AVal) (G4 : Heap), (wv (vlen T G4 t_sl_string x5) fun v9 => wv (vbin T .lss t_int x8 v9) fun v10 => brB (some v10)
  (wv (viaddr T t_sl_string x5 x8) fun v11 => wv (vload T G4 t_string v11) fun v12 => wv (vbin T .add t_string x7 v12) fun v13 => wv (vbin T .add t_int x8 (.int .i64 1)) fun v14 => R3 [x5, x6, v13, v14] G4)
  (ACalls P escrowref02_One.n [x7] G4 fun v15 G16 => wg (vstore T G16 t_api_Hash x6 v15) fun G17 => wv (vload T G17 t_api_Hash x6) fun v18 => Q v18 G17)) → R3 [x5, x6, x7, x8] G4) →
  R3 [a0, .ptr i1 [] 0, .str [], .int .i64 0] G2
def escrowref02_Sum.an : Ann := .two (.nil) (.two (.nil) (.two (.two (.nil) (.loop [0, 2, 3, 4] [false, false, false, false] (.nil))) (.nil)))
set_option maxRecDepth 100000 in
theorem escrowref02_Sum.sound {a0 : AVal} {G : Heap} {Q : AVal → Heap → Prop} (h : escrowref02_Sum.S a0 G Q) : ACalls P escrowref02_Sum.n [a0] G Q := by
  have e : escrowref02_Sum.S a0 G Q = awp cx (escrowref02_Sum.body) escrowref02_Sum.an (bodyQ T [.cell 2 23] Q) (envL [a0]) G := by kernel_rfl
  exact ACalls_of_awp cxOk (f := escrowref02_Sum.n) (fn := Tryz.f95) (c := escrowref02_Sum.body) (an := escrowref02_Sum.an) Tryz.func95 (by kernel_rfl) (by kernel_rfl) (by kernel_rfl) (drawsOk_of (by kernel_rfl) (by kernel_rfl)) (by simp [Tryz.f95]) (e ▸ h)

/-! #### escrow/escrowref09.Point -/
def escrowref09_Point.S (a0 : AVal) (G : Heap) (Q : AVal → Heap → Prop) : Prop :=
  aNew G (.own (a0)) fun i1 G2 => aNew G2 (.own (z_api_Hash)) fun i3 G4 => wv (vslice T t_api_Hash (.ptr i1 [] 0) none none none) fun v5 => wv (vconv T G4 t_sl_uint8 t_string v5) fun v6 => aBuildSlice T t_sl_string 1 [(0, v6)] G4 fun v7 G8 => ACalls P escrowref02_Sum.n [v7] G8 fun v9 G10 => wg (vstore T G10 t_api_Hash (.ptr i3 [] 0) v9) fun G11 => wv (vload T G11 t_api_Hash (.ptr i3 [] 0)) fun v12 => Q v12 G11
def escrowref09_Point.an : Ann := .nil
set_option maxRecDepth 100000 in
theorem escrowref09_Point.sound {a0 : AVal} {G : Heap} {Q : AVal → Heap → Prop} (h : escrowref09_Point.S a0 G Q) : ACalls P escrowref09_Point.n [a0] G Q := by
  have e : escrowref09_Point.S a0 G Q = awp cx (escrowref09_Point.body) escrowref09_Point.an (bodyQ T [.cell 2 23] Q) (envL [a0]) G := by kernel_rfl
  exact ACalls_of_awp cxOk (f := escrowref09_Point.n) (fn := Tryz.f77) (c := escrowref09_Point.body) (an := escrowref09_Point.an) Tryz.func77 (by kernel_rfl) (by kernel_rfl) (by kernel_rfl) (drawsOk_of (by kernel_rfl) (by kernel_rfl)) (by simp [Tryz.f77]) (e ▸ h)

/-! #### escrow/escrowref09.down -/
def escrowref09_down.S (a0 a1 a2 : AVal) (G : Heap) (Q : AVal → Heap → Prop) : Prop :=
  aNew G (.own (a0)) fun i1 G2 => aNew G2 (.own (a1)) fun i3 G4 => aNew G4 (.own (z_api_Hash)) fun i5 G6 => wv (vbin T .sub t_int a2 (.int .i64 1)) fun v7 => ∀ R8 : List AVal → Heap → Prop,
  (∀ (x10 x11 x12 x13 : AVal) (G9 : Heap), (wv (vbin T .geq t_int x13 (.int .i64 0)) fun v14 => brB (some v14)
  (wv (viaddr T t_ar48_int x11 x13) fun v15 => wv (vload T G9 t_int v15) fun v16 => wv (vbin T .eql t_int v16 (.int .i64 1)) fun v17 => brB (some v17)
  (wv (vbin T .quo t_int x13 (.int .i64 8)) fun v18 => wv (vbin T .quo t_int x13 (.int .i64 8)) fun v19 => wv (viaddr T t_api_Hash x10 v19) fun v20 => wv (vload T G9 t_uint8 v20) fun v21 => wv (vbin T .rem t_int x13 (.int .i64 8)) fun v22 => wv (vconv T G9 t_int t_uint v22) fun v23 => wv (vbin T .shl t_uint8 (.int .u8 1) v23) fun v24 => wv (vbin T .xor t_uint8 v21 v24) fun v25 => wv (viaddr T t_api_Hash x10 v18) fun v26 => wg (vstore T G9 t_uint8 v26 v25) fun G27 => wv (vload T G27 t_api_Hash x10) fun v28 => ACalls P escrowref09_Point.n [v28] G27 fun v29 G30 => wg (vstore T G30 t_api_Hash x10 v29) fun G31 => wv (vbin T .sub t_int x13 (.int .i64 1)) fun v35 => R8 [x10, x11, x12, v35] G31)
  (wv (vbin T .sub t_int x13 (.int .i64 1)) fun v36 => R8 [x10, x11, x12, v36] G9))
  (wv (vload T G9 t_api_Hash x10) fun v37 => wg (vstore T G9 t_api_Hash x12 v37) fun G38 => wv (vload T G38 t_api_Hash x12) fun v39 => Q v39 G38)) → R8 [x10, x11, x12, x13] G9) →
  R8 [.ptr i1 [] 0, .ptr i3 [] 0, .ptr i5 [] 0, v7] G6
def escrowref09_down.an : Ann := .two (.nil) (.two (.two (.nil) (.loop [3, 4, 6, 7] [false, false, false, false] (.nil))) (.nil))
set_option maxRecDepth 100000 in
theorem escrowref09_down.sound {a0 a1 a2 : AVal} {G : Heap} {Q : AVal → Heap → Prop} (h : escrowref09_down.S a0 a1 a2 G Q) : ACalls P escrowref09_down.n [a0, a1, a2] G Q := by
  have e : escrowref09_down.S a0 a1 a2 G Q = awp cx (escrowref09_down.body) escrowref09_down.an (bodyQ T [.cell 6 23] Q) (envL [a0, a1, a2]) G := by kernel_rfl
  exact ACalls_of_awp cxOk (f := escrowref09_down.n) (fn := Tryz.f93) (c := escrowref09_down.body) (an := escrowref09_down.an) Tryz.func93 (by kernel_rfl) (by kernel_rfl) (by kernel_rfl) (drawsOk_of (by kernel_rfl) (by kernel_rfl)) (by simp [Tryz.f93]) (e ▸ h)

/-! #### escrow/escrowref09.Place -/
def escrowref09_Place.S (a0 : AVal) (G : Heap) (Q : AVal → Heap → Prop) : Prop :=
  aNew G (.own (z_ar48_int)) fun i1 G2 => aNew G2 (.own (z_ar48_int)) fun i3 G4 => wv (vbin T .sub t_int64 (.int .i64 281474976710655) a0) fun v5 => ∀ R6 : List AVal → Heap → Prop,
  (∀ (x8 x9 x10 x11 : AVal) (G7 : Heap), (wv (vbin T .lss t_int x11 (.int .i64 48)) fun v12 => brB (some v12)
  (wv (vbin T .rem t_int64 x10 (.int .i64 2)) fun v13 => wv (viaddr T t_ar48_int x9 x11) fun v14 => wg (vstore T G7 t_int v14 v13) fun G15 => wv (vbin T .quo t_int64 x10 (.int .i64 2)) fun v16 => wv (vbin T .add t_int x11 (.int .i64 1)) fun v17 => R6 [x8, x9, v16, v17] G15)
  (wv (vload T G7 t_ar48_int x9) fun v18 => wg (vstore T G7 t_ar48_int x8 v18) fun G19 => wv (vload T G19 t_ar48_int x8) fun v20 => Q v20 G19)) → R6 [x8, x9, x10, x11] G7) →
  R6 [.ptr i1 [] 0, .ptr i3 [] 0, v5, .int .i64 0] G4
def escrowref09_Place.an : Ann := .two (.nil) (.two (.nil) (.two (.nil) (.two (.two (.nil) (.loop [2, 3, 4, 5] [false, false, false, false] (.nil))) (.nil))))
set_option maxRecDepth 100000 in
theorem escrowref09_Place.sound {a0 : AVal} {G : Heap} {Q : AVal → Heap → Prop} (h : escrowref09_Place.S a0 G Q) : ACalls P escrowref09_Place.n [a0] G Q := by
  have e : escrowref09_Place.S a0 G Q = awp cx (escrowref09_Place.body) escrowref09_Place.an (bodyQ T [.cell 2 155] Q) (envL [a0]) G := by kernel_rfl
  exact ACalls_of_awp cxOk (f := escrowref09_Place.n) (fn := Tryz.f94) (c := escrowref09_Place.body) (an := escrowref09_Place.an) Tryz.func94 (by kernel_rfl) (by kernel_rfl) (by kernel_rfl) (drawsOk_of (by kernel_rfl) (by kernel_rfl)) (by simp [Tryz.f94]) (e ▸ h)

/-! #### escrow/escrowref09.Secret -/
def escrowref09_Secret.S (a0 a1 : AVal) (G : Heap) (Q : AVal → Heap → Prop) : Prop :=
  aNew G (.own (a0)) fun i1 G2 => aNew G2 (.own (z_api_Hash)) fun i3 G4 => ACalls P escrowref09_good.n [a1] G4 fun v5 G6 => wv (vun .not v5) fun v7 => brB (some v7)
  (wv (vbuild T t_api_Hash []) fun v8 => wg (vstore T G6 t_api_Hash (.ptr i3 [] 0) v8) fun G9 => wv (vload T G9 t_api_Hash (.ptr i3 [] 0)) fun v10 => Q (.tuple [v10, .int .i64 90]) G9)
  (wv (vload T G6 t_api_Hash (.ptr i1 [] 0)) fun v11 => ACalls P escrowref09_Place.n [a1] G6 fun v12 G13 => (vload T G13 t_api_Hash (.ptr i1 [] 0) = some v11 ∧ True) ∧ (ACalls P escrowref09_down.n [v11, v12, .int .i64 48] G13 fun v14 G15 => wg (vstore T G15 t_api_Hash (.ptr i3 [] 0) v14) fun G16 => wv (vload T G16 t_api_Hash (.ptr i3 [] 0)) fun v17 => Q (.tuple [v17, .int .i64 0]) G16))
def escrowref09_Secret.an : Ann := .two (.nil) (.two (.nil) (.two (.ord [(0, []), (1, []), (2, [0]), (3, []), (4, []), (5, [])]) (.nil)))
set_option maxRecDepth 100000 in
theorem escrowref09_Secret.sound {a0 a1 : AVal} {G : Heap} {Q : AVal → Heap → Prop} (h : escrowref09_Secret.S a0 a1 G Q) : ACalls P escrowref09_Secret.n [a0, a1] G Q := by
  have e : escrowref09_Secret.S a0 a1 G Q = awp cx (escrowref09_Secret.body) escrowref09_Secret.an (bodyQ T [.cell 4 23, .tmp 5] Q) (envL [a0, a1]) G := by kernel_rfl
  exact ACalls_of_awp cxOk (f := escrowref09_Secret.n) (fn := Tryz.f76) (c := escrowref09_Secret.body) (an := escrowref09_Secret.an) Tryz.func76 (by kernel_rfl) (by kernel_rfl) (by kernel_rfl) (drawsOk_of (by kernel_rfl) (by kernel_rfl)) (by simp [Tryz.f76]) (e ▸ h)

/-! #### escrow/escrowlaw15.Point -/
def escrowlaw15_Point.S (a0 a1 : AVal) (G : Heap) (Q : AVal → Heap → Prop) : Prop :=
  aNew G (.own (a0)) fun i1 G2 => aNew G2 (.own (z_api_Hash)) fun i3 G4 => wv (vload T G4 t_api_Hash (.ptr i1 [] 0)) fun v5 => ACalls P escrowref09_Secret.n [v5, a1] G4 fun v6 G7 => wv (vextract v6 0) fun v8 => wv (vextract v6 1) fun v9 => aNew G7 (.own (z_api_Hash)) fun i10 G11 => wg (vstore T G11 t_api_Hash (.ptr i10 [] 0) v8) fun G12 => wv (vload T G12 t_api_Hash (.ptr i10 [] 0)) fun v13 => ACalls P escrowref09_Point.n [v13] G12 fun v14 G15 => wg (vstore T G15 t_api_Hash (.ptr i3 [] 0) v14) fun G16 => wv (vload T G16 t_api_Hash (.ptr i3 [] 0)) fun v17 => Q v17 G16
def escrowlaw15_Point.an : Ann := .nil
set_option maxRecDepth 100000 in
theorem escrowlaw15_Point.sound {a0 a1 : AVal} {G : Heap} {Q : AVal → Heap → Prop} (h : escrowlaw15_Point.S a0 a1 G Q) : ACalls P escrowlaw15_Point.n [a0, a1] G Q := by
  have e : escrowlaw15_Point.S a0 a1 G Q = awp cx (escrowlaw15_Point.body) escrowlaw15_Point.an (bodyQ T [.cell 4 23] Q) (envL [a0, a1]) G := by kernel_rfl
  exact ACalls_of_awp cxOk (f := escrowlaw15_Point.n) (fn := Tryz.f43) (c := escrowlaw15_Point.body) (an := escrowlaw15_Point.an) Tryz.func43 (by kernel_rfl) (by kernel_rfl) (by kernel_rfl) (drawsOk_of (by kernel_rfl) (by kernel_rfl)) (by simp [Tryz.f43]) (e ▸ h)

/-! #### escrow/escrowlaw15.Configs -/
def escrowlaw15_Configs.S (a0 : AVal) (G : Heap) (Q : AVal → Heap → Prop) : Prop :=
  aNew G (.own (a0)) fun i1 G2 => aNew G2 (.own (z_ar2_api_Config)) fun i3 G4 => aNew G4 (.own (z_ar2_api_Config)) fun i5 G6 => ∀ R7 : List AVal → Heap → Prop,
  (∀ (x9 x10 x11 x12 : AVal) (G8 : Heap), (wv (vbin T .lss t_int x12 (.int .i64 2)) fun v13 => brB (some v13)
  (wv (vfaddr T t_escrowlaw15_Deal x9 1) fun v14 => wv (vload T G8 t_int64 v14) fun v15 => wv (vbin T .eql t_int x12 (.int .i64 1)) fun v16 => let J52 : AVal → Heap → Prop := (fun x23 G22 => wv (vfaddr T t_escrowlaw15_Deal x9 0) fun v24 => wv (vload T G22 t_int64 v24) fun v25 => wv (vfaddr T t_escrowlaw15_Deal x9 2) fun v26 => wv (viaddr T t_ar2_api_Hash v26 x12) fun v27 => wv (vload T G22 t_api_Hash v27) fun v28 => wv (vfaddr T t_escrowlaw15_Deal x9 3) fun v29 => wv (viaddr T t_ar2_api_Hash v29 x12) fun v30 => wv (vload T G22 t_api_Hash v30) fun v31 => wv (vbin T .sub t_int (.int .i64 1) x12) fun v32 => wv (vfaddr T t_escrowlaw15_Deal x9 3) fun v33 => wv (viaddr T t_ar2_api_Hash v33 v32) fun v34 => wv (vload T G22 t_api_Hash v34) fun v35 => wv (vbin T .sub t_int (.int .i64 1) x12) fun v36 => wv (vfaddr T t_escrowlaw15_Deal x9 2) fun v37 => wv (viaddr T t_ar2_api_Hash v37 v36) fun v38 => wv (vload T G22 t_api_Hash v38) fun v39 => wv (vbin T .sub t_int (.int .i64 1) x12) fun v40 => wv (vfaddr T t_escrowlaw15_Deal x9 2) fun v41 => wv (viaddr T t_ar2_api_Hash v41 v40) fun v42 => wv (vload T G22 t_api_Hash v42) fun v43 => ACalls P escrowlaw15_Point.n [v39, .int .i64 0] G22 fun v44 G45 => (vload T G45 t_api_Hash v42 = some v43 ∧ vload T G45 t_api_Hash v34 = some v35 ∧ vload T G45 t_api_Hash v30 = some v31 ∧ vload T G45 t_api_Hash v27 = some v28 ∧ vload T G45 t_int64 v24 = some v25 ∧ True) ∧ (ACalls P escrowlaw15_Point.n [v43, .int .i64 1] G45 fun v46 G47 => (vload T G47 t_api_Hash v34 = some v35 ∧ vload T G47 t_api_Hash v30 = some v31 ∧ vload T G47 t_api_Hash v27 = some v28 ∧ vload T G47 t_int64 v24 = some v25 ∧ True) ∧ (wv (vbuild T t_ar2_api_Hash [(0, v44), (1, v46)]) fun v48 => wv (vbuild T t_api_Config [(0, x12), (1, v25), (2, x23), (3, v28), (4, v31), (5, v35), (6, v48), (7, .int .i64 4096)]) fun v49 => wv (viaddr T t_ar2_api_Config x11 x12) fun v50 => wg (vstore T G47 t_api_Config v50 v49) fun G51 => wv (vbin T .add t_int x12 (.int .i64 1)) fun v53 => R7 [x9, x10, x11, v53] G51)));
  brB (some v16)
  (wv (vfaddr T t_escrowlaw15_Deal x9 0) fun v17 => wv (vload T G8 t_int64 v17) fun v18 => wv (vfaddr T t_escrowlaw15_Deal x9 1) fun v19 => wv (vload T G8 t_int64 v19) fun v20 => wv (vbin T .sub t_int64 v18 v20) fun v21 => J52 v21 G8)
  (J52 v15 G8))
  (wv (vload T G8 t_ar2_api_Config x11) fun v54 => wg (vstore T G8 t_ar2_api_Config x10 v54) fun G55 => wv (vload T G55 t_ar2_api_Config x10) fun v56 => Q v56 G55)) → R7 [x9, x10, x11, x12] G8) →
  R7 [.ptr i1 [] 0, .ptr i3 [] 0, .ptr i5 [] 0, .int .i64 0] G6
def escrowlaw15_Configs.an : Ann := .two (.nil) (.two (.nil) (.two (.two (.nil) (.loop [1, 2, 3, 4] [false, false, false, false] (.two (.nil) (.two (.two (.nil) (.two (.nil) (.ord [(0, []), (1, []), (2, []), (3, []), (4, []), (5, []), (6, []), (7, []), (8, []), (9, []), (10, []), (11, []), (12, []), (13, []), (14, []), (15, []), (16, []), (17, []), (18, []), (19, []), (20, []), (21, []), (22, []), (24, []), (25, []), (26, []), (27, []), (28, []), (23, [3, 8, 12, 17, 28]), (29, [3, 8, 12, 17]), (30, []), (31, []), (32, []), (33, [])]))) (.nil))))) (.nil)))
set_option maxRecDepth 100000 in
theorem escrowlaw15_Configs.sound {a0 : AVal} {G : Heap} {Q : AVal → Heap → Prop} (h : escrowlaw15_Configs.S a0 G Q) : ACalls P escrowlaw15_Configs.n [a0] G Q := by
  have e : escrowlaw15_Configs.S a0 G Q = awp cx (escrowlaw15_Configs.body) escrowlaw15_Configs.an (bodyQ T [.cell 2 54] Q) (envL [a0]) G := by kernel_rfl
  exact ACalls_of_awp cxOk (f := escrowlaw15_Configs.n) (fn := Tryz.f19) (c := escrowlaw15_Configs.body) (an := escrowlaw15_Configs.an) Tryz.func19 (by kernel_rfl) (by kernel_rfl) (by kernel_rfl) (drawsOk_of (by kernel_rfl) (by kernel_rfl)) (by simp [Tryz.f19]) (e ▸ h)

/-! #### escrow/dance.Start -/
def dance_Start.S (a0 : AVal) (G : Heap) (Q : AVal → Heap → Prop) : Prop :=
  aNew G (.own (a0)) fun i1 G2 => aNew G2 (.own (z_api_State)) fun i3 G4 => let J35 : AVal → Heap → Prop := (fun x21 G20 => brB (some x21)
  (wv (vbuild T t_api_State []) fun v22 => wg (vstore T G20 t_api_State (.ptr i3 [] 0) v22) fun G23 => wv (vload T G23 t_api_State (.ptr i3 [] 0)) fun v24 => Q (.tuple [v24, .int .i64 1]) G23)
  (wv (vload T G20 t_int (.ptr i1 [0] 0)) fun v25 => wv (vload T G20 t_int64 (.ptr i1 [1] 1)) fun v26 => wv (vload T G20 t_int64 (.ptr i1 [2] 2)) fun v27 => wv (vload T G20 t_int64 (.ptr i1 [1] 1)) fun v28 => wv (vload T G20 t_int64 (.ptr i1 [2] 2)) fun v29 => wv (vbin T .sub t_int64 v28 v29) fun v30 => wv (vload T G20 t_ar2_api_Hash (.ptr i1 [6] 99)) fun v31 => wv (vbuild T t_api_State [(0, v25), (1, v26), (2, v27), (3, v30), (13, v31), (17, .int .i64 (-1))]) fun v32 => wg (vstore T G20 t_api_State (.ptr i3 [] 0) v32) fun G33 => wv (vload T G33 t_api_State (.ptr i3 [] 0)) fun v34 => Q (.tuple [v34, .int .i64 0]) G33));
  wv (vload T G4 t_int (.ptr i1 [0] 0)) fun v5 => wv (vbin T .lss t_int v5 (.int .i64 0)) fun v6 => brB (some v6)
  (J35 (.bool true) G4)
  (wv (vload T G4 t_int (.ptr i1 [0] 0)) fun v7 => wv (vbin T .gtr t_int v7 (.int .i64 1)) fun v8 => brB (some v8)
  (J35 (.bool true) G4)
  (wv (vload T G4 t_int64 (.ptr i1 [1] 1)) fun v9 => wv (vbin T .lss t_int64 v9 (.int .i64 1)) fun v10 => brB (some v10)
  (J35 (.bool true) G4)
  (wv (vload T G4 t_int64 (.ptr i1 [1] 1)) fun v11 => ACalls P amount_Right.n [v11] G4 fun v12 G13 => wv (vun .not v12) fun v14 => brB (some v14)
  (J35 (.bool true) G13)
  (wv (vload T G13 t_int64 (.ptr i1 [2] 2)) fun v15 => wv (vbin T .lss t_int64 v15 (.int .i64 0)) fun v16 => brB (some v16)
  (J35 (.bool true) G13)
  (wv (vload T G13 t_int64 (.ptr i1 [2] 2)) fun v17 => wv (vload T G13 t_int64 (.ptr i1 [1] 1)) fun v18 => wv (vbin T .gtr t_int64 v17 v18) fun v19 => J35 v19 G13)))))
def dance_Start.an : Ann := .nil
set_option maxRecDepth 100000 in
theorem dance_Start.sound {a0 : AVal} {G : Heap} {Q : AVal → Heap → Prop} (h : dance_Start.S a0 G Q) : ACalls P dance_Start.n [a0] G Q := by
  have e : dance_Start.S a0 G Q = awp cx (dance_Start.body) dance_Start.an (bodyQ T [.cell 2 32, .tmp 3] Q) (envL [a0]) G := by kernel_rfl
  exact ACalls_of_awp cxOk (f := dance_Start.n) (fn := Tryz.f20) (c := dance_Start.body) (an := dance_Start.an) Tryz.func20 (by kernel_rfl) (by kernel_rfl) (by kernel_rfl) (drawsOk_of (by kernel_rfl) (by kernel_rfl)) (by simp [Tryz.f20]) (e ▸ h)

/-! #### escrow/escrowlaw15.fixed -/
def escrowlaw15_fixed.S (G : Heap) (Q : AVal → Heap → Prop) : Prop :=
  wv (vbuild T t_escrowlaw15_Deal [(0, .int .i64 1000), (1, .int .i64 700)]) fun v1 => ACalls P escrowlaw15_Configs.n [v1] G fun v2 G3 => wv (vindex T t_ar2_api_Config v2 (.int .i64 0)) fun v4 => aNew G3 (.own (z_api_Config)) fun i5 G6 => wg (vstore T G6 t_api_Config (.ptr i5 [] 0) v4) fun G7 => wv (vload T G7 t_api_Config (.ptr i5 [] 0)) fun v8 => ACalls P dance_Start.n [v8] G7 fun v9 G10 => wv (vextract v9 0) fun v11 => wv (vextract v9 1) fun v12 => aNew G10 (.own (z_api_State)) fun i13 G14 => wg (vstore T G14 t_api_State (.ptr i13 [] 0) v11) fun G15 => wv (vbuild T t_api_Config []) fun v16 => ACalls P dance_Start.n [v16] G15 fun v17 G18 => wv (vextract v17 0) fun v19 => wv (vextract v17 1) fun v20 => aNew G18 (.own (z_api_State)) fun i21 G22 => wg (vstore T G22 t_api_State (.ptr i21 [] 0) v19) fun G23 => let J111 : AVal → Heap → Prop := (fun x41 G40 => brB (some x41)
  (Q (.bool false) G40)
  (wv (vload T G40 t_api_State (.ptr i13 [] 0)) fun v42 => wv (vbuild T t_api_Hash []) fun v43 => ACalls P dance_Offer.n [v42, .int .i64 701, v43] G40 fun v44 G45 => wv (vextract v44 0) fun v46 => wv (vextract v44 1) fun v47 => aNew G45 (.own (z_api_Record)) fun i48 G49 => wg (vstore T G49 t_api_Record (.ptr i48 [] 0) v46) fun G50 => wv (vload T G50 t_api_State (.ptr i13 [] 0)) fun v51 => wv (vbuild T t_api_Hash []) fun v52 => ACalls P dance_Offer.n [v51, .int .i64 0, v52] G50 fun v53 G54 => wv (vextract v53 0) fun v55 => wv (vextract v53 1) fun v56 => aNew G54 (.own (z_api_Record)) fun i57 G58 => wg (vstore T G58 t_api_Record (.ptr i57 [] 0) v55) fun G59 => wv (vload T G59 t_api_State (.ptr i13 [] 0)) fun v60 => wv (vbuild T t_api_Hash [(0, .int .u8 1)]) fun v61 => ACalls P dance_Offer.n [v60, .int .i64 600, v61] G59 fun v62 G63 => wv (vextract v62 0) fun v64 => wv (vextract v62 1) fun v65 => aNew G63 (.own (z_api_Record)) fun i66 G67 => wg (vstore T G67 t_api_Record (.ptr i66 [] 0) v64) fun G68 => wv (vload T G68 t_api_Config (.ptr i5 [] 0)) fun v69 => wv (vload T G68 t_api_State (.ptr i13 [] 0)) fun v70 => ACalls P dance_Sign.n [v69, v70] G68 fun v71 G72 => wv (vextract v71 0) fun v73 => wv (vextract v71 1) fun v74 => aNew G72 (.own (z_api_Record)) fun i75 G76 => wg (vstore T G76 t_api_Record (.ptr i75 [] 0) v73) fun G77 => wv (vload T G77 t_api_Config (.ptr i5 [] 0)) fun v78 => wv (vload T G77 t_api_State (.ptr i13 [] 0)) fun v79 => wv (vbuild T t_api_Message [(0, .int .i64 4), (3, .int .i64 2)]) fun v80 => ACalls P dance_Came.n [v78, v79, v80] G77 fun v81 G82 => wv (vextract v81 0) fun v83 => wv (vextract v81 1) fun v84 => aNew G82 (.own (z_api_Record)) fun i85 G86 => wg (vstore T G86 t_api_Record (.ptr i85 [] 0) v83) fun G87 => wv (vload T G87 t_api_State (.ptr i13 [] 0)) fun v88 => wv (vbuild T t_api_Message [(0, .int .i64 5)]) fun v89 => ACalls P dance_Revoked.n [v88, v89] G87 fun v90 G91 => wv (vextract v90 0) fun v92 => wv (vextract v90 1) fun v93 => aNew G91 (.own (z_api_Record)) fun i94 G95 => wg (vstore T G95 t_api_Record (.ptr i94 [] 0) v92) fun G96 => wv (vbin T .eql t_api_Errno v47 (.int .i64 130)) fun v97 => brB (some v97)
  (wv (vbin T .eql t_api_Errno v56 (.int .i64 80)) fun v98 => brB (some v98)
  (wv (vbin T .eql t_api_Errno v65 (.int .i64 0)) fun v99 => brB (some v99)
  (wv (vload T G96 t_int (.ptr i66 [0] 0)) fun v100 => wv (vbin T .eql t_int v100 (.int .i64 1)) fun v101 => brB (some v101)
  (wv (vload T G96 t_api_Update (.ptr i66 [1] 1)) fun v102 => wv (vbuild T t_api_Hash [(0, .int .u8 1)]) fun v103 => wv (vbuild T t_api_Update [(0, .int .i64 1), (2, .int .i64 600), (3, v103)]) fun v104 => wv (vbin T .eql t_api_Update v102 v104) fun v105 => brB (some v105)
  (wv (vbin T .eql t_api_Errno v74 (.int .i64 8)) fun v106 => brB (some v106)
  (wv (vbin T .eql t_api_Errno v84 (.int .i64 90)) fun v107 => brB (some v107)
  (wv (vbin T .eql t_api_Errno v93 (.int .i64 90)) fun v108 => Q v108 G96)
  (Q (.bool false) G96))
  (Q (.bool false) G96))
  (Q (.bool false) G96))
  (Q (.bool false) G96))
  (Q (.bool false) G96))
  (Q (.bool false) G96))
  (Q (.bool false) G96)));
  wv (vbin T .neq t_api_Errno v12 (.int .i64 0)) fun v24 => brB (some v24)
  (J111 (.bool true) G23)
  (wv (vbin T .neq t_api_Errno v20 (.int .i64 1)) fun v25 => brB (some v25)
  (J111 (.bool true) G23)
  (wv (vload T G23 t_int64 (.ptr i13 [2] 2)) fun v26 => wv (vbin T .neq t_int64 v26 (.int .i64 700)) fun v27 => brB (some v27)
  (J111 (.bool true) G23)
  (wv (vload T G23 t_int64 (.ptr i13 [3] 3)) fun v28 => wv (vbin T .neq t_int64 v28 (.int .i64 300)) fun v29 => brB (some v29)
  (J111 (.bool true) G23)
  (wv (vload T G23 t_int64 (.ptr i13 [17] 114)) fun v30 => wv (vbin T .neq t_int64 v30 (.int .i64 (-1))) fun v31 => brB (some v31)
  (J111 (.bool true) G23)
  (wv (vload T G23 t_api_State (.ptr i13 [] 0)) fun v32 => ACalls P dance_Spendable.n [v32] G23 fun v33 G34 => wv (vbin T .neq t_int64 v33 (.int .i64 700)) fun v35 => brB (some v35)
  (J111 (.bool true) G34)
  (wv (vload T G34 t_api_State (.ptr i13 [] 0)) fun v36 => ACalls P dance_PeerSpendable.n [v36] G34 fun v37 G38 => wv (vbin T .neq t_int64 v37 (.int .i64 300)) fun v39 => J111 v39 G38))))))
def escrowlaw15_fixed.an : Ann := .nil
set_option maxRecDepth 100000 in
theorem escrowlaw15_fixed.sound {G : Heap} {Q : AVal → Heap → Prop} (h : escrowlaw15_fixed.S G Q) : ACalls P escrowlaw15_fixed.n [] G Q := by
  have e : escrowlaw15_fixed.S G Q = awp cx (escrowlaw15_fixed.body) escrowlaw15_fixed.an (bodyQ T [.tmp 0] Q) (envL []) G := by kernel_rfl
  exact ACalls_of_awp cxOk (f := escrowlaw15_fixed.n) (fn := Tryz.f4) (c := escrowlaw15_fixed.body) (an := escrowlaw15_fixed.an) Tryz.func4 (by kernel_rfl) (by kernel_rfl) (by kernel_rfl) (drawsOk_of (by kernel_rfl) (by kernel_rfl)) (by simp [Tryz.f4]) (e ▸ h)

/-! #### escrow/escrowlaw15.Copy -/
def escrowlaw15_Copy.S (a0 : AVal) (G : Heap) (Q : AVal → Heap → Prop) : Prop :=
  aNew G (.own (a0)) fun i1 G2 => aNew G2 (.own (z_api_State)) fun i3 G4 => wv (vload T G4 t_sl_api_Update (.ptr i1 [4] 4)) fun v5 => aAppend T G4 t_sl_api_Update t_sl_api_Update (.nilSlice) v5 fun v6 G7 => wg (vstore T G7 t_sl_api_Update (.ptr i1 [4] 4) v6) fun G8 => wv (vload T G8 t_sl_api_Update (.ptr i1 [5] 5)) fun v9 => aAppend T G8 t_sl_api_Update t_sl_api_Update (.nilSlice) v9 fun v10 G11 => wg (vstore T G11 t_sl_api_Update (.ptr i1 [5] 5) v10) fun G12 => wv (vload T G12 t_sl_api_Slot (.ptr i1 [15] 112)) fun v13 => aAppend T G12 t_sl_api_Slot t_sl_api_Slot (.nilSlice) v13 fun v14 G15 => wg (vstore T G15 t_sl_api_Slot (.ptr i1 [15] 112) v14) fun G16 => wv (vload T G16 t_api_State (.ptr i1 [] 0)) fun v17 => wg (vstore T G16 t_api_State (.ptr i3 [] 0) v17) fun G18 => wv (vload T G18 t_api_State (.ptr i3 [] 0)) fun v19 => Q v19 G18
def escrowlaw15_Copy.an : Ann := .nil
set_option maxRecDepth 100000 in
theorem escrowlaw15_Copy.sound {a0 : AVal} {G : Heap} {Q : AVal → Heap → Prop} (h : escrowlaw15_Copy.S a0 G Q) : ACalls P escrowlaw15_Copy.n [a0] G Q := by
  have e : escrowlaw15_Copy.S a0 G Q = awp cx (escrowlaw15_Copy.body) escrowlaw15_Copy.an (bodyQ T [.cell 2 32] Q) (envL [a0]) G := by kernel_rfl
  exact ACalls_of_awp cxOk (f := escrowlaw15_Copy.n) (fn := Tryz.f6) (c := escrowlaw15_Copy.body) (an := escrowlaw15_Copy.an) Tryz.func6 (by kernel_rfl) (by kernel_rfl) (by kernel_rfl) (drawsOk_of (by kernel_rfl) (by kernel_rfl)) (by simp [Tryz.f6]) (e ▸ h)

/-! #### escrow/update.first -/
def update_first.S (a0 a1 a2 : AVal) (G : Heap) (Q : AVal → Heap → Prop) : Prop :=
  aNew G (.own (z_api_Update)) fun i1 G2 => wv (vlen T G2 t_sl_api_Update a0) fun v3 => ∀ R4 : List AVal → Heap → Prop,
  (∀ (x6 x7 x8 x9 x10 x11 : AVal) (G5 : Heap), (wv (vbin T .lss t_int x11 x10) fun v12 => brB (some v12)
  (wv (viaddr T t_sl_api_Update x9 x11) fun v13 => wv (vload T G5 t_api_Update v13) fun v14 => aNew G5 (.own (z_api_Update)) fun i15 G16 => wg (vstore T G16 t_api_Update (.ptr i15 [] 0) v14) fun G17 => let J36 : AVal → Heap → Prop := (fun x32 G31 => brB (some x32)
  (wv (vload T G31 t_api_Update (.ptr i15 [] 0)) fun v33 => wg (vstore T G31 t_api_Update x8 v33) fun G34 => wv (vload T G34 t_api_Update x8) fun v35 => Q (.tuple [v35, .bool true]) G34)
  (wv (vbin T .add t_int x11 (.int .i64 1)) fun v37 => R4 [x6, x7, x8, x9, x10, v37] G31));
  wv (vload T G17 t_int64 (.ptr i15 [1] 1)) fun v18 => wv (vbin T .eql t_int64 v18 x6) fun v19 => brB (some v19)
  (wv (vun .not x7) fun v20 => brB (some v20)
  (wv (vload T G17 t_int (.ptr i15 [0] 0)) fun v21 => wv (vbin T .eql t_int v21 (.int .i64 1)) fun v22 => brB (some v22)
  (J36 (.bool true) G17)
  (brB (some x7)
  (wv (vload T G17 t_int (.ptr i15 [0] 0)) fun v23 => wv (vbin T .eql t_int v23 (.int .i64 2)) fun v24 => brB (some v24)
  (J36 (.bool true) G17)
  (wv (vload T G17 t_int (.ptr i15 [0] 0)) fun v25 => wv (vbin T .eql t_int v25 (.int .i64 3)) fun v26 => J36 v26 G17))
  (J36 (.bool false) G17)))
  (brB (some x7)
  (wv (vload T G17 t_int (.ptr i15 [0] 0)) fun v27 => wv (vbin T .eql t_int v27 (.int .i64 2)) fun v28 => brB (some v28)
  (J36 (.bool true) G17)
  (wv (vload T G17 t_int (.ptr i15 [0] 0)) fun v29 => wv (vbin T .eql t_int v29 (.int .i64 3)) fun v30 => J36 v30 G17))
  (J36 (.bool false) G17)))
  (J36 (.bool false) G17))
  (wv (vbuild T t_api_Update []) fun v38 => wg (vstore T G5 t_api_Update x8 v38) fun G39 => wv (vload T G39 t_api_Update x8) fun v40 => Q (.tuple [v40, .bool false]) G39)) → R4 [x6, x7, x8, x9, x10, x11] G5) →
  R4 [a1, a2, .ptr i1 [] 0, a0, v3, .int .i64 0] G2
def update_first.an : Ann := .two (.nil) (.two (.two (.nil) (.loop [1, 2, 6, 10, 11, 12] [false, false, false, false, false, false] (.nil))) (.nil))
set_option maxRecDepth 100000 in
theorem update_first.sound {a0 a1 a2 : AVal} {G : Heap} {Q : AVal → Heap → Prop} (h : update_first.S a0 a1 a2 G Q) : ACalls P update_first.n [a0, a1, a2] G Q := by
  have e : update_first.S a0 a1 a2 G Q = awp cx (update_first.body) update_first.an (bodyQ T [.cell 6 34, .tmp 7] Q) (envL [a0, a1, a2]) G := by kernel_rfl
  exact ACalls_of_awp cxOk (f := update_first.n) (fn := Tryz.f70) (c := update_first.body) (an := update_first.an) Tryz.func70 (by kernel_rfl) (by kernel_rfl) (by kernel_rfl) (drawsOk_of (by kernel_rfl) (by kernel_rfl)) (by simp [Tryz.f70]) (e ▸ h)

/-! #### escrow/update.Find -/
def update_Find.S (a0 a1 : AVal) (G : Heap) (Q : AVal → Heap → Prop) : Prop :=
  aNew G (.own (z_api_Update)) fun i1 G2 => ACalls P update_first.n [a0, a1, .bool false] G2 fun v3 G4 => wv (vextract v3 0) fun v5 => wv (vextract v3 1) fun v6 => wg (vstore T G4 t_api_Update (.ptr i1 [] 0) v5) fun G7 => wv (vload T G7 t_api_Update (.ptr i1 [] 0)) fun v8 => Q (.tuple [v8, v6]) G7
def update_Find.an : Ann := .nil
set_option maxRecDepth 100000 in
theorem update_Find.sound {a0 a1 : AVal} {G : Heap} {Q : AVal → Heap → Prop} (h : update_Find.S a0 a1 G Q) : ACalls P update_Find.n [a0, a1] G Q := by
  have e : update_Find.S a0 a1 G Q = awp cx (update_Find.body) update_Find.an (bodyQ T [.cell 4 34, .tmp 5] Q) (envL [a0, a1]) G := by kernel_rfl
  exact ACalls_of_awp cxOk (f := update_Find.n) (fn := Tryz.f33) (c := update_Find.body) (an := update_Find.an) Tryz.func33 (by kernel_rfl) (by kernel_rfl) (by kernel_rfl) (drawsOk_of (by kernel_rfl) (by kernel_rfl)) (by simp [Tryz.f33]) (e ▸ h)

/-! #### escrow/dance.sum -/
def dance_sum.S (a0 : AVal) (G : Heap) (Q : AVal → Heap → Prop) : Prop :=
  aNew G (.own (a0)) fun i1 G2 => aNew G2 (.own (z_api_Hash)) fun i3 G4 => wv (vslice T t_api_Hash (.ptr i1 [] 0) none none none) fun v5 => wv (vconv T G4 t_sl_uint8 t_string v5) fun v6 => aBuildSlice T t_sl_string 1 [(0, v6)] G4 fun v7 G8 => ACalls P hash_Sum.n [v7] G8 fun v9 G10 => wg (vstore T G10 t_api_Hash (.ptr i3 [] 0) v9) fun G11 => wv (vload T G11 t_api_Hash (.ptr i3 [] 0)) fun v12 => Q v12 G11
def dance_sum.an : Ann := .nil
set_option maxRecDepth 100000 in
theorem dance_sum.sound {a0 : AVal} {G : Heap} {Q : AVal → Heap → Prop} (h : dance_sum.S a0 G Q) : ACalls P dance_sum.n [a0] G Q := by
  have e : dance_sum.S a0 G Q = awp cx (dance_sum.body) dance_sum.an (bodyQ T [.cell 2 23] Q) (envL [a0]) G := by kernel_rfl
  exact ACalls_of_awp cxOk (f := dance_sum.n) (fn := Tryz.f35) (c := dance_sum.body) (an := dance_sum.an) Tryz.func35 (by kernel_rfl) (by kernel_rfl) (by kernel_rfl) (drawsOk_of (by kernel_rfl) (by kernel_rfl)) (by simp [Tryz.f35]) (e ▸ h)

/-! #### escrow/update.Removal -/
def update_Removal.S (a0 a1 : AVal) (G : Heap) (Q : AVal → Heap → Prop) : Prop :=
  aNew G (.own (z_api_Update)) fun i1 G2 => ACalls P update_first.n [a0, a1, .bool true] G2 fun v3 G4 => wv (vextract v3 0) fun v5 => wv (vextract v3 1) fun v6 => wg (vstore T G4 t_api_Update (.ptr i1 [] 0) v5) fun G7 => wv (vload T G7 t_api_Update (.ptr i1 [] 0)) fun v8 => Q (.tuple [v8, v6]) G7
def update_Removal.an : Ann := .nil
set_option maxRecDepth 100000 in
theorem update_Removal.sound {a0 a1 : AVal} {G : Heap} {Q : AVal → Heap → Prop} (h : update_Removal.S a0 a1 G Q) : ACalls P update_Removal.n [a0, a1] G Q := by
  have e : update_Removal.S a0 a1 G Q = awp cx (update_Removal.body) update_Removal.an (bodyQ T [.cell 4 34, .tmp 5] Q) (envL [a0, a1]) G := by kernel_rfl
  exact ACalls_of_awp cxOk (f := update_Removal.n) (fn := Tryz.f54) (c := update_Removal.body) (an := update_Removal.an) Tryz.func54 (by kernel_rfl) (by kernel_rfl) (by kernel_rfl) (drawsOk_of (by kernel_rfl) (by kernel_rfl)) (by simp [Tryz.f54]) (e ▸ h)

/-! #### escrow/dance.removes -/
def dance_removes.S (a0 a1 : AVal) (G : Heap) (Q : AVal → Heap → Prop) : Prop :=
  aNew G (.own (a0)) fun i1 G2 => aNew G2 (.own (a1)) fun i3 G4 => aNew G4 (.own (z_api_Record)) fun i5 G6 => wv (vload T G6 t_api_State (.ptr i1 [] 0)) fun v7 => ACalls P dance_dead.n [v7] G6 fun v8 G9 => brB (some v8)
  (wv (vbuild T t_api_Record []) fun v10 => wg (vstore T G9 t_api_Record (.ptr i5 [] 0) v10) fun G11 => wv (vload T G11 t_api_Record (.ptr i5 [] 0)) fun v12 => Q (.tuple [v12, .int .i64 220]) G11)
  (wv (vload T G9 t_sl_api_Update (.ptr i1 [5] 5)) fun v13 => wv (vload T G9 t_api_State (.ptr i1 [] 0)) fun v14 => wv (vload T G9 t_int64 (.ptr i3 [1] 1)) fun v15 => ACalls P dance_Fixed.n [v14] G9 fun v16 G17 => (vload T G17 t_int64 (.ptr i3 [1] 1) = some v15 ∧ vload T G17 t_sl_api_Update (.ptr i1 [5] 5) = some v13 ∧ True) ∧ (wv (vfield T t_api_Counts v16 1) fun v18 => ACalls P dance_first.n [v13, v18] G17 fun v19 G20 => (vload T G20 t_int64 (.ptr i3 [1] 1) = some v15 ∧ True) ∧ (ACalls P update_Find.n [v19, v15] G20 fun v21 G22 => wv (vextract v21 0) fun v23 => wv (vextract v21 1) fun v24 => aNew G22 (.own (z_api_Update)) fun i25 G26 => wg (vstore T G26 t_api_Update (.ptr i25 [] 0) v23) fun G27 => wv (vload T G27 t_sl_api_Update (.ptr i1 [4] 4)) fun v28 => wv (vload T G27 t_int64 (.ptr i3 [1] 1)) fun v29 => ACalls P update_Removal.n [v28, v29] G27 fun v30 G31 => wv (vextract v30 0) fun v32 => wv (vextract v30 1) fun v33 => aNew G31 (.own (z_api_Update)) fun i34 G35 => wg (vstore T G35 t_api_Update (.ptr i34 [] 0) v32) fun G36 => let J67 : AVal → Heap → Prop := (fun x52 G51 => brB (some x52)
  (wv (vbuild T t_api_Record []) fun v53 => wg (vstore T G51 t_api_Record (.ptr i5 [] 0) v53) fun G54 => wv (vload T G54 t_api_Record (.ptr i5 [] 0)) fun v55 => Q (.tuple [v55, .int .i64 120]) G54)
  (wv (vload T G51 t_api_State (.ptr i1 [] 0)) fun v56 => ACalls P dance_full.n [v56] G51 fun v57 G58 => brB (some v57)
  (wv (vbuild T t_api_Record []) fun v59 => wg (vstore T G58 t_api_Record (.ptr i5 [] 0) v59) fun G60 => wv (vload T G60 t_api_Record (.ptr i5 [] 0)) fun v61 => Q (.tuple [v61, .int .i64 6]) G60)
  (wv (vload T G58 t_api_Update (.ptr i3 [] 0)) fun v62 => ACalls P dance_mine.n [v62] G58 fun v63 G64 => wg (vstore T G64 t_api_Record (.ptr i5 [] 0) v63) fun G65 => wv (vload T G65 t_api_Record (.ptr i5 [] 0)) fun v66 => Q (.tuple [v66, .int .i64 0]) G65)));
  wv (vun .not v24) fun v37 => brB (some v37)
  (J67 (.bool true) G36)
  (brB (some v33)
  (J67 (.bool true) G36)
  (wv (vload T G36 t_int (.ptr i3 [0] 0)) fun v38 => wv (vbin T .eql t_int v38 (.int .i64 2)) fun v39 => brB (some v39)
  (wv (vload T G36 t_api_Hash (.ptr i3 [3] 3)) fun v40 => wv (vload T G36 t_api_Hash (.ptr i25 [3] 3)) fun v41 => ACalls P dance_sum.n [v40] G36 fun v42 G43 => (vload T G43 t_api_Hash (.ptr i25 [3] 3) = some v41 ∧ True) ∧ (wv (vbin T .neq t_api_Hash v42 v41) fun v44 => brB (some v44)
  (J67 (.bool true) G43)
  (wv (vload T G43 t_string (.ptr i3 [4] 35)) fun v45 => wv (vlen T G43 t_string v45) fun v46 => wv (vbin T .gtr t_int v46 (.int .i64 64)) fun v47 => J67 v47 G43)))
  (wv (vload T G36 t_string (.ptr i3 [4] 35)) fun v48 => wv (vlen T G36 t_string v48) fun v49 => wv (vbin T .gtr t_int v49 (.int .i64 64)) fun v50 => J67 v50 G36))))))
def dance_removes.an : Ann := .two (.nil) (.two (.nil) (.two (.ord [(0, []), (1, []), (2, []), (6, []), (7, []), (3, [1, 7]), (4, []), (5, [7]), (8, []), (9, []), (10, []), (11, []), (12, []), (13, []), (14, [])]) (.two (.nil) (.two (.two (.ord [(0, []), (1, []), (2, []), (3, []), (4, []), (5, []), (6, []), (7, []), (8, []), (9, []), (10, []), (11, []), (13, []), (14, []), (12, [14]), (15, []), (16, []), (17, []), (18, []), (19, []), (20, []), (21, []), (22, []), (23, [])]) (.nil)) (.nil)))))
set_option maxRecDepth 100000 in
theorem dance_removes.sound {a0 a1 : AVal} {G : Heap} {Q : AVal → Heap → Prop} (h : dance_removes.S a0 a1 G Q) : ACalls P dance_removes.n [a0, a1] G Q := by
  have e : dance_removes.S a0 a1 G Q = awp cx (dance_removes.body) dance_removes.an (bodyQ T [.cell 4 42, .tmp 5] Q) (envL [a0, a1]) G := by kernel_rfl
  exact ACalls_of_awp cxOk (f := dance_removes.n) (fn := Tryz.f27) (c := dance_removes.body) (an := dance_removes.an) Tryz.func27 (by kernel_rfl) (by kernel_rfl) (by kernel_rfl) (drawsOk_of (by kernel_rfl) (by kernel_rfl)) (by simp [Tryz.f27]) (e ▸ h)

/-! #### escrow/dance.Settle -/
def dance_Settle.S (a0 a1 a2 : AVal) (G : Heap) (Q : AVal → Heap → Prop) : Prop :=
  aNew G (.own (a0)) fun i1 G2 => aNew G2 (.own (a2)) fun i3 G4 => aNew G4 (.own (z_api_Record)) fun i5 G6 => wv (vload T G6 t_api_State (.ptr i1 [] 0)) fun v7 => wv (vload T G6 t_api_Hash (.ptr i3 [] 0)) fun v8 => wv (vbuild T t_api_Update [(0, .int .i64 2), (1, a1), (3, v8)]) fun v9 => ACalls P dance_removes.n [v7, v9] G6 fun v10 G11 => wv (vextract v10 0) fun v12 => wv (vextract v10 1) fun v13 => wg (vstore T G11 t_api_Record (.ptr i5 [] 0) v12) fun G14 => wv (vload T G14 t_api_Record (.ptr i5 [] 0)) fun v15 => Q (.tuple [v15, v13]) G14
def dance_Settle.an : Ann := .nil
set_option maxRecDepth 100000 in
theorem dance_Settle.sound {a0 a1 a2 : AVal} {G : Heap} {Q : AVal → Heap → Prop} (h : dance_Settle.S a0 a1 a2 G Q) : ACalls P dance_Settle.n [a0, a1, a2] G Q := by
  have e : dance_Settle.S a0 a1 a2 G Q = awp cx (dance_Settle.body) dance_Settle.an (bodyQ T [.cell 6 42, .tmp 7] Q) (envL [a0, a1, a2]) G := by kernel_rfl
  exact ACalls_of_awp cxOk (f := dance_Settle.n) (fn := Tryz.f10) (c := dance_Settle.body) (an := dance_Settle.an) Tryz.func10 (by kernel_rfl) (by kernel_rfl) (by kernel_rfl) (drawsOk_of (by kernel_rfl) (by kernel_rfl)) (by simp [Tryz.f10]) (e ▸ h)

/-! #### escrow/dance.Refuse -/
def dance_Refuse.S (a0 a1 a2 : AVal) (G : Heap) (Q : AVal → Heap → Prop) : Prop :=
  aNew G (.own (a0)) fun i1 G2 => aNew G2 (.own (z_api_Record)) fun i3 G4 => wv (vload T G4 t_api_State (.ptr i1 [] 0)) fun v5 => wv (vbuild T t_api_Update [(0, .int .i64 3), (1, a1), (4, a2)]) fun v6 => ACalls P dance_removes.n [v5, v6] G4 fun v7 G8 => wv (vextract v7 0) fun v9 => wv (vextract v7 1) fun v10 => wg (vstore T G8 t_api_Record (.ptr i3 [] 0) v9) fun G11 => wv (vload T G11 t_api_Record (.ptr i3 [] 0)) fun v12 => Q (.tuple [v12, v10]) G11
def dance_Refuse.an : Ann := .nil
set_option maxRecDepth 100000 in
theorem dance_Refuse.sound {a0 a1 a2 : AVal} {G : Heap} {Q : AVal → Heap → Prop} (h : dance_Refuse.S a0 a1 a2 G Q) : ACalls P dance_Refuse.n [a0, a1, a2] G Q := by
  have e : dance_Refuse.S a0 a1 a2 G Q = awp cx (dance_Refuse.body) dance_Refuse.an (bodyQ T [.cell 6 42, .tmp 7] Q) (envL [a0, a1, a2]) G := by kernel_rfl
  exact ACalls_of_awp cxOk (f := dance_Refuse.n) (fn := Tryz.f11) (c := dance_Refuse.body) (an := dance_Refuse.an) Tryz.func11 (by kernel_rfl) (by kernel_rfl) (by kernel_rfl) (drawsOk_of (by kernel_rfl) (by kernel_rfl)) (by simp [Tryz.f11]) (e ▸ h)

/-! #### escrow/commit.Turn -/
def commit_Turn.S (a0 : AVal) (G : Heap) (Q : AVal → Heap → Prop) : Prop :=
  aNew G (.own (a0)) fun i1 G2 => aNew G2 (.own (z_api_Ledger)) fun i3 G4 => wv (vload T G4 t_int64 (.ptr i1 [1] 1)) fun v5 => wv (vload T G4 t_int64 (.ptr i1 [0] 0)) fun v6 => wv (vbuild T t_api_Ledger [(0, v5), (1, v6)]) fun v7 => aNew G4 (.own (z_api_Ledger)) fun i8 G9 => wg (vstore T G9 t_api_Ledger (.ptr i8 [] 0) v7) fun G10 => aBuildSlice T t_sl_bool 2 [(0, .bool true), (1, .bool false)] G10 fun v11 G12 => wv (vlen T G12 t_sl_bool v11) fun v13 => ∀ R14 : List AVal → Heap → Prop,
  (∀ (x16 x17 x18 x19 x20 x21 : AVal) (G15 : Heap), (wv (vbin T .lss t_int x21 x20) fun v22 => brB (some v22)
  (wv (viaddr T t_sl_bool x19 x21) fun v23 => wv (vload T G15 t_bool v23) fun v24 => wv (vfaddr T t_api_Ledger x16 2) fun v25 => wv (vload T G15 t_sl_api_Pending v25) fun v26 => wv (vlen T G15 t_sl_api_Pending v26) fun v27 => ∀ R28 : List AVal → Heap → Prop,
  (∀ (x30 x31 x32 x33 x34 x35 x36 x37 x38 x39 : AVal) (G29 : Heap), (wv (vbin T .lss t_int x39 x38) fun v40 => brB (some v40)
  (wv (viaddr T t_sl_api_Pending x37 x39) fun v41 => wv (vload T G29 t_api_Pending v41) fun v42 => aNew G29 (.own (z_api_Pending)) fun i43 G44 => wg (vstore T G44 t_api_Pending (.ptr i43 [] 0) v42) fun G45 => wv (vload T G45 t_bool (.ptr i43 [0] 0)) fun v46 => wv (vbin T .neq t_bool v46 x33) fun v47 => brB (some v47)
  (wg (vstore T G45 t_bool (.ptr i43 [0] 0) x33) fun G48 => wv (vfaddr T t_api_Ledger x32 2) fun v49 => wv (vload T G48 t_sl_api_Pending v49) fun v50 => wv (vload T G48 t_api_Pending (.ptr i43 [] 0)) fun v51 => aBuildSlice T t_sl_api_Pending 1 [(0, v51)] G48 fun v52 G53 => aAppend T G53 t_sl_api_Pending t_sl_api_Pending v50 v52 fun v54 G55 => wv (vfaddr T t_api_Ledger x32 2) fun v56 => wg (vstore T G55 t_sl_api_Pending v56 v54) fun G57 => wv (vbin T .add t_int x39 (.int .i64 1)) fun v61 => R28 [x30, x31, x32, x33, x34, x35, x36, x37, x38, v61] G57)
  (wv (vbin T .add t_int x39 (.int .i64 1)) fun v62 => R28 [x30, x31, x32, x33, x34, x35, x36, x37, x38, v62] G45))
  (wv (vbin T .add t_int x36 (.int .i64 1)) fun v63 => R14 [x30, x31, x32, x34, x35, v63] G29)) → R28 [x30, x31, x32, x33, x34, x35, x36, x37, x38, x39] G29) →
  R28 [x16, x17, x18, v24, x19, x20, x21, v26, v27, .int .i64 0] G15)
  (wv (vload T G15 t_api_Ledger x18) fun v64 => wg (vstore T G15 t_api_Ledger x17 v64) fun G65 => wv (vload T G65 t_api_Ledger x17) fun v66 => Q v66 G65)) → R14 [x16, x17, x18, x19, x20, x21] G15) →
  R14 [.ptr i1 [] 0, .ptr i3 [] 0, .ptr i8 [] 0, v11, v13, .int .i64 0] G12
def commit_Turn.an : Ann := .two (.nil) (.two (.nil) (.two (.two (.nil) (.loop [1, 2, 3, 13, 14, 15] [false, false, false, false, false, false] (.two (.nil) (.two (.nil) (.two (.two (.nil) (.two (.nil) (.loop [1, 2, 3, 5, 13, 14, 15, 20, 21, 22] [false, false, false, false, false, false, false, false, false, false] (.nil)))) (.nil)))))) (.nil)))
set_option maxRecDepth 100000 in
theorem commit_Turn.sound {a0 : AVal} {G : Heap} {Q : AVal → Heap → Prop} (h : commit_Turn.S a0 G Q) : ACalls P commit_Turn.n [a0] G Q := by
  have e : commit_Turn.S a0 G Q = awp cx (commit_Turn.body) commit_Turn.an (bodyQ T [.cell 2 68] Q) (envL [a0]) G := by kernel_rfl
  exact ACalls_of_awp cxOk (f := commit_Turn.n) (fn := Tryz.f30) (c := commit_Turn.body) (an := commit_Turn.an) Tryz.func30 (by kernel_rfl) (by kernel_rfl) (by kernel_rfl) (drawsOk_of (by kernel_rfl) (by kernel_rfl)) (by simp [Tryz.f30]) (e ▸ h)

/-! #### escrow/dance.Again -/
def dance_Again.S (a0 a1 : AVal) (G : Heap) (Q : AVal → Heap → Prop) : Prop :=
  aNew G (.own (a0)) fun i1 G2 => aNew G2 (.own (a1)) fun i3 G4 => aNew G4 (.own (z_api_Message)) fun i5 G6 => wv (viaddr T t_ar2_api_Hash (.ptr i3 [13] 16) (.int .i64 0)) fun v7 => wv (vload T G6 t_api_Hash v7) fun v8 => aNew G6 (.own (z_api_Hash)) fun i9 G10 => wg (vstore T G10 t_api_Hash (.ptr i9 [] 0) v8) fun G11 => wv (vload T G11 t_int64 (.ptr i3 [7] 7)) fun v12 => wv (vload T G11 t_int64 (.ptr i3 [8] 8)) fun v13 => wv (vbin T .neq t_int64 v12 v13) fun v14 => let J49 : Heap → Prop := (fun G18 => wv (vload T G18 t_int64 (.ptr i3 [2] 2)) fun v19 => wv (vload T G18 t_int64 (.ptr i3 [3] 3)) fun v20 => wv (vload T G18 t_sl_api_Update (.ptr i3 [4] 4)) fun v21 => wv (vload T G18 t_sl_api_Update (.ptr i3 [5] 5)) fun v22 => wv (vload T G18 t_api_Counts (.ptr i3 [10] 11)) fun v23 => ACalls P ledger_Fold.n [v19, v20, v21, v22, v23] G18 fun v24 G25 => wv (vextract v24 0) fun v26 => wv (vextract v24 1) fun v27 => aNew G25 (.own (z_api_Ledger)) fun i28 G29 => wg (vstore T G29 t_api_Ledger (.ptr i28 [] 0) v26) fun G30 => wv (vload T G30 t_int (.ptr i3 [0] 0)) fun v31 => wv (vbin T .sub t_int (.int .i64 1) v31) fun v32 => wv (vload T G30 t_int64 (.ptr i3 [7] 7)) fun v33 => wv (vload T G30 t_api_Hash (.ptr i9 [] 0)) fun v34 => wv (vload T G30 t_api_Ledger (.ptr i28 [] 0)) fun v35 => ACalls P commit_Turn.n [v35] G30 fun v36 G37 => (vload T G37 t_api_Hash (.ptr i9 [] 0) = some v34 ∧ vload T G37 t_int64 (.ptr i3 [7] 7) = some v33 ∧ vload T G37 t_int (.ptr i3 [0] 0) = some v31 ∧ True) ∧ (ACalls P commit_Text.n [v32, v33, v34, v36] G37 fun v38 G39 => wv (vextract v38 0) fun v40 => wv (vextract v38 1) fun v41 => wv (vload T G39 t_int64 (.ptr i3 [7] 7)) fun v42 => wv (vload T G39 t_api_Hash (.ptr i1 [4] 35)) fun v43 => ACalls P seal_Sign.n [v43, v40] G39 fun v44 G45 => (vload T G45 t_int64 (.ptr i3 [7] 7) = some v42 ∧ True) ∧ (wv (vbuild T t_api_Message [(0, .int .i64 4), (3, v42), (5, v44)]) fun v46 => wg (vstore T G45 t_api_Message (.ptr i5 [] 0) v46) fun G47 => wv (vload T G47 t_api_Message (.ptr i5 [] 0)) fun v48 => Q v48 G47)));
  brB (some v14)
  (wv (viaddr T t_ar2_api_Hash (.ptr i3 [13] 16) (.int .i64 1)) fun v15 => wv (vload T G11 t_api_Hash v15) fun v16 => wg (vstore T G11 t_api_Hash (.ptr i9 [] 0) v16) fun G17 => J49 G17)
  (J49 G11)
def dance_Again.an : Ann := .two (.nil) (.two (.nil) (.two (.nil) (.two (.nil) (.two (.ord [(0, []), (1, []), (2, []), (3, []), (4, []), (5, []), (6, []), (7, [1, 4, 5]), (8, []), (9, []), (10, []), (11, []), (12, []), (13, [])]) (.two (.ord [(0, []), (1, []), (2, []), (3, []), (4, []), (5, [1]), (6, []), (7, [])]) (.nil))))))
set_option maxRecDepth 100000 in
theorem dance_Again.sound {a0 a1 : AVal} {G : Heap} {Q : AVal → Heap → Prop} (h : dance_Again.S a0 a1 G Q) : ACalls P dance_Again.n [a0, a1] G Q := by
  have e : dance_Again.S a0 a1 G Q = awp cx (dance_Again.body) dance_Again.an (bodyQ T [.cell 4 36] Q) (envL [a0, a1]) G := by kernel_rfl
  exact ACalls_of_awp cxOk (f := dance_Again.n) (fn := Tryz.f13) (c := dance_Again.body) (an := dance_Again.an) Tryz.func13 (by kernel_rfl) (by kernel_rfl) (by kernel_rfl) (drawsOk_of (by kernel_rfl) (by kernel_rfl)) (by simp [Tryz.f13]) (e ▸ h)

end Go.Esc.M
