/- Printed by gen.py (own work): functions of the program YtcceblejaanfaaaDoor over trees and the abstract heap. -/
import Derived.Test.YtcceblejaanfaaaDoorT
set_option linter.unusedSimpArgs false
set_option linter.unusedVariables false
namespace Go.Esc.M
open Go Go.Esc Go.Proofs

/-! #### escrow/escrowref02.block -/
def escrowref02_block.S (a0 a1 a2 : AVal) (G : Heap) (Q : AVal → Heap → Prop) : Prop :=
  aNew G (.own (a0)) fun i1 G2 => aNew G2 (.own (z_ar8_uint32)) fun i3 G4 => ACalls P escrowref02_rounds.n [] G4 fun v5 G6 => aNew G6 (.own (z_ar64_uint32)) fun i7 G8 => wg (vstore T G8 t_ar64_uint32 (.ptr i7 [] 0) v5) fun G9 => aNew G9 (.own (z_ar64_uint32)) fun i10 G11 => ∀ R12 : List AVal → Heap → Prop,
  (∀ (x14 x15 x16 x17 x18 x19 x20 : AVal) (G13 : Heap), (wv (vbin T .lss t_int x20 (.int .i64 16)) fun v21 => brB (some v21)
  (wv (vbin T .mul t_int (.int .i64 4) x20) fun v22 => wv (vbin T .add t_int x15 v22) fun v23 => wv (viaddr T t_sl_uint8 x14 v23) fun v24 => wv (vload T G13 t_uint8 v24) fun v25 => wv (vconv T G13 t_uint8 t_uint32 v25) fun v26 => wv (vbin T .shl t_uint32 v26 (.int .u64 24)) fun v27 => wv (vbin T .add t_int v23 (.int .i64 1)) fun v28 => wv (viaddr T t_sl_uint8 x14 v28) fun v29 => wv (vload T G13 t_uint8 v29) fun v30 => wv (vconv T G13 t_uint8 t_uint32 v30) fun v31 => wv (vbin T .shl t_uint32 v31 (.int .u64 16)) fun v32 => wv (vbin T .or t_uint32 v27 v32) fun v33 => wv (vbin T .add t_int v23 (.int .i64 2)) fun v34 => wv (viaddr T t_sl_uint8 x14 v34) fun v35 => wv (vload T G13 t_uint8 v35) fun v36 => wv (vconv T G13 t_uint8 t_uint32 v36) fun v37 => wv (vbin T .shl t_uint32 v37 (.int .u64 8)) fun v38 => wv (vbin T .or t_uint32 v33 v38) fun v39 => wv (vbin T .add t_int v23 (.int .i64 3)) fun v40 => wv (viaddr T t_sl_uint8 x14 v40) fun v41 => wv (vload T G13 t_uint8 v41) fun v42 => wv (vconv T G13 t_uint8 t_uint32 v42) fun v43 => wv (vbin T .or t_uint32 v39 v43) fun v44 => wv (viaddr T t_ar64_uint32 x19 x20) fun v45 => wg (vstore T G13 t_uint32 v45 v44) fun G46 => wv (vbin T .add t_int x20 (.int .i64 1)) fun v47 => R12 [x14, x15, x16, x17, x18, x19, v47] G46)
  (∀ R48 : List AVal → Heap → Prop,
  (∀ (x50 x51 x52 x53 x54 : AVal) (G49 : Heap), (wv (vbin T .lss t_int x54 (.int .i64 64)) fun v55 => brB (some v55)
  (wv (vbin T .sub t_int x54 (.int .i64 15)) fun v56 => wv (viaddr T t_ar64_uint32 x53 v56) fun v57 => wv (vload T G49 t_uint32 v57) fun v58 => wv (vbin T .sub t_int x54 (.int .i64 2)) fun v59 => wv (viaddr T t_ar64_uint32 x53 v59) fun v60 => wv (vload T G49 t_uint32 v60) fun v61 => wv (vbin T .sub t_int x54 (.int .i64 16)) fun v62 => wv (viaddr T t_ar64_uint32 x53 v62) fun v63 => wv (vload T G49 t_uint32 v63) fun v64 => wv (vbin T .shr t_uint32 v58 (.int .u64 3)) fun v65 => wv (vbin T .sub t_int x54 (.int .i64 7)) fun v66 => wv (viaddr T t_ar64_uint32 x53 v66) fun v67 => wv (vload T G49 t_uint32 v67) fun v68 => wv (vbin T .shr t_uint32 v61 (.int .u64 10)) fun v69 => ACalls P escrowref02_rot.n [v58, .int .i64 7] G49 fun v70 G71 => (vload T G71 t_uint32 v67 = some v68 ∧ vload T G71 t_uint32 v63 = some v64 ∧ True) ∧ (ACalls P escrowref02_rot.n [v58, .int .i64 18] G71 fun v72 G73 => (vload T G73 t_uint32 v67 = some v68 ∧ vload T G73 t_uint32 v63 = some v64 ∧ True) ∧ (wv (vbin T .xor t_uint32 v70 v72) fun v74 => wv (vbin T .xor t_uint32 v74 v65) fun v75 => wv (vbin T .add t_uint32 v64 v75) fun v76 => wv (vbin T .add t_uint32 v76 v68) fun v77 => ACalls P escrowref02_rot.n [v61, .int .i64 17] G73 fun v78 G79 => (vload T G79 t_uint32 v67 = some v68 ∧ vload T G79 t_uint32 v63 = some v64 ∧ True) ∧ (ACalls P escrowref02_rot.n [v61, .int .i64 19] G79 fun v80 G81 => (vload T G81 t_uint32 v67 = some v68 ∧ vload T G81 t_uint32 v63 = some v64 ∧ True) ∧ (wv (vbin T .xor t_uint32 v78 v80) fun v82 => wv (vbin T .xor t_uint32 v82 v69) fun v83 => wv (vbin T .add t_uint32 v77 v83) fun v84 => wv (viaddr T t_ar64_uint32 x53 x54) fun v85 => wg (vstore T G81 t_uint32 v85 v84) fun G86 => wv (vbin T .add t_int x54 (.int .i64 1)) fun v87 => R48 [x50, x51, x52, x53, v87] G86)))))
  (wv (vload T G49 t_ar8_uint32 x50) fun v88 => aNew G49 (.own (z_ar8_uint32)) fun i89 G90 => wg (vstore T G90 t_ar8_uint32 (.ptr i89 [] 0) v88) fun G91 => ∀ R92 : List AVal → Heap → Prop,
  (∀ (x94 x95 x96 x97 x98 x99 : AVal) (G93 : Heap), (wv (vbin T .lss t_int x99 (.int .i64 64)) fun v100 => brB (some v100)
  (wv (viaddr T t_ar8_uint32 x98 (.int .i64 0)) fun v101 => wv (vload T G93 t_uint32 v101) fun v102 => wv (viaddr T t_ar8_uint32 x98 (.int .i64 4)) fun v103 => wv (vload T G93 t_uint32 v103) fun v104 => wv (viaddr T t_ar8_uint32 x98 (.int .i64 7)) fun v105 => wv (vload T G93 t_uint32 v105) fun v106 => wv (viaddr T t_ar8_uint32 x98 (.int .i64 5)) fun v107 => wv (vload T G93 t_uint32 v107) fun v108 => wv (vbin T .and t_uint32 v104 v108) fun v109 => wv (vun .xor v104) fun v110 => wv (viaddr T t_ar8_uint32 x98 (.int .i64 6)) fun v111 => wv (vload T G93 t_uint32 v111) fun v112 => wv (vbin T .and t_uint32 v110 v112) fun v113 => wv (vbin T .xor t_uint32 v109 v113) fun v114 => wv (viaddr T t_ar64_uint32 x96 x99) fun v115 => wv (vload T G93 t_uint32 v115) fun v116 => wv (viaddr T t_ar64_uint32 x97 x99) fun v117 => wv (vload T G93 t_uint32 v117) fun v118 => ACalls P escrowref02_rot.n [v104, .int .i64 6] G93 fun v119 G120 => (vload T G120 t_uint32 v117 = some v118 ∧ vload T G120 t_uint32 v115 = some v116 ∧ vload T G120 t_uint32 v111 = some v112 ∧ vload T G120 t_uint32 v107 = some v108 ∧ vload T G120 t_uint32 v105 = some v106 ∧ True) ∧ (ACalls P escrowref02_rot.n [v104, .int .i64 11] G120 fun v121 G122 => (vload T G122 t_uint32 v117 = some v118 ∧ vload T G122 t_uint32 v115 = some v116 ∧ vload T G122 t_uint32 v111 = some v112 ∧ vload T G122 t_uint32 v107 = some v108 ∧ vload T G122 t_uint32 v105 = some v106 ∧ True) ∧ (wv (vbin T .xor t_uint32 v119 v121) fun v123 => ACalls P escrowref02_rot.n [v104, .int .i64 25] G122 fun v124 G125 => (vload T G125 t_uint32 v117 = some v118 ∧ vload T G125 t_uint32 v115 = some v116 ∧ vload T G125 t_uint32 v111 = some v112 ∧ vload T G125 t_uint32 v107 = some v108 ∧ vload T G125 t_uint32 v105 = some v106 ∧ True) ∧ (wv (vbin T .xor t_uint32 v123 v124) fun v126 => wv (vbin T .add t_uint32 v106 v126) fun v127 => wv (vbin T .add t_uint32 v127 v114) fun v128 => wv (vbin T .add t_uint32 v128 v116) fun v129 => wv (vbin T .add t_uint32 v129 v118) fun v130 => wv (viaddr T t_ar8_uint32 x98 (.int .i64 1)) fun v131 => wv (vload T G125 t_uint32 v131) fun v132 => wv (vbin T .and t_uint32 v102 v132) fun v133 => wv (viaddr T t_ar8_uint32 x98 (.int .i64 2)) fun v134 => wv (vload T G125 t_uint32 v134) fun v135 => wv (vbin T .and t_uint32 v102 v135) fun v136 => wv (vbin T .xor t_uint32 v133 v136) fun v137 => wv (viaddr T t_ar8_uint32 x98 (.int .i64 1)) fun v138 => wv (vload T G125 t_uint32 v138) fun v139 => wv (viaddr T t_ar8_uint32 x98 (.int .i64 2)) fun v140 => wv (vload T G125 t_uint32 v140) fun v141 => wv (vbin T .and t_uint32 v139 v141) fun v142 => wv (vbin T .xor t_uint32 v137 v142) fun v143 => ACalls P escrowref02_rot.n [v102, .int .i64 2] G125 fun v144 G145 => (vload T G145 t_uint32 v140 = some v141 ∧ vload T G145 t_uint32 v138 = some v139 ∧ vload T G145 t_uint32 v134 = some v135 ∧ vload T G145 t_uint32 v131 = some v132 ∧ True) ∧ (ACalls P escrowref02_rot.n [v102, .int .i64 13] G145 fun v146 G147 => (vload T G147 t_uint32 v140 = some v141 ∧ vload T G147 t_uint32 v138 = some v139 ∧ vload T G147 t_uint32 v134 = some v135 ∧ vload T G147 t_uint32 v131 = some v132 ∧ True) ∧ (wv (vbin T .xor t_uint32 v144 v146) fun v148 => ACalls P escrowref02_rot.n [v102, .int .i64 22] G147 fun v149 G150 => (vload T G150 t_uint32 v140 = some v141 ∧ vload T G150 t_uint32 v138 = some v139 ∧ vload T G150 t_uint32 v134 = some v135 ∧ vload T G150 t_uint32 v131 = some v132 ∧ True) ∧ (wv (vbin T .xor t_uint32 v148 v149) fun v151 => wv (vbin T .add t_uint32 v151 v143) fun v152 => wv (vbin T .add t_uint32 v130 v152) fun v153 => wv (viaddr T t_ar8_uint32 x98 (.int .i64 0)) fun v154 => wv (vload T G150 t_uint32 v154) fun v155 => wv (viaddr T t_ar8_uint32 x98 (.int .i64 1)) fun v156 => wv (vload T G150 t_uint32 v156) fun v157 => wv (viaddr T t_ar8_uint32 x98 (.int .i64 2)) fun v158 => wv (vload T G150 t_uint32 v158) fun v159 => wv (viaddr T t_ar8_uint32 x98 (.int .i64 3)) fun v160 => wv (vload T G150 t_uint32 v160) fun v161 => wv (vbin T .add t_uint32 v161 v130) fun v162 => wv (viaddr T t_ar8_uint32 x98 (.int .i64 4)) fun v163 => wv (vload T G150 t_uint32 v163) fun v164 => wv (viaddr T t_ar8_uint32 x98 (.int .i64 5)) fun v165 => wv (vload T G150 t_uint32 v165) fun v166 => wv (viaddr T t_ar8_uint32 x98 (.int .i64 6)) fun v167 => wv (vload T G150 t_uint32 v167) fun v168 => wv (vbuild T t_ar8_uint32 [(0, v153), (1, v155), (2, v157), (3, v159), (4, v162), (5, v164), (6, v166), (7, v168)]) fun v169 => wg (vstore T G150 t_ar8_uint32 x98 v169) fun G170 => wv (vbin T .add t_int x99 (.int .i64 1)) fun v171 => R92 [x94, x95, x96, x97, x98, v171] G170)))))))
  (∀ R172 : List AVal → Heap → Prop,
  (∀ (x174 x175 x176 x177 : AVal) (G173 : Heap), (wv (vbin T .lss t_int x177 (.int .i64 8)) fun v178 => brB (some v178)
  (wv (viaddr T t_ar8_uint32 x176 x177) fun v179 => wv (vload T G173 t_uint32 v179) fun v180 => wv (viaddr T t_ar8_uint32 x174 x177) fun v181 => wv (vload T G173 t_uint32 v181) fun v182 => wv (vbin T .add t_uint32 v180 v182) fun v183 => wv (viaddr T t_ar8_uint32 x176 x177) fun v184 => wg (vstore T G173 t_uint32 v184 v183) fun G185 => wv (vbin T .add t_int x177 (.int .i64 1)) fun v186 => R172 [x174, x175, x176, v186] G185)
  (wv (vload T G173 t_ar8_uint32 x176) fun v187 => wg (vstore T G173 t_ar8_uint32 x175 v187) fun G188 => wv (vload T G188 t_ar8_uint32 x175) fun v189 => Q v189 G188)) → R172 [x174, x175, x176, x177] G173) →
  R172 [x94, x95, x98, .int .i64 0] G93)) → R92 [x94, x95, x96, x97, x98, x99] G93) →
  R92 [x50, x51, x52, x53, .ptr i89 [] 0, .int .i64 0] G91)) → R48 [x50, x51, x52, x53, x54] G49) →
  R48 [x16, x17, x18, x19, .int .i64 16] G13)) → R12 [x14, x15, x16, x17, x18, x19, x20] G13) →
  R12 [a1, a2, .ptr i1 [] 0, .ptr i3 [] 0, .ptr i7 [] 0, .ptr i10 [] 0, .int .i64 0] G11
def escrowref02_block.an : Ann := .two (.nil) (.two (.nil) (.two (.nil) (.two (.two (.nil) (.loop [1, 2, 3, 6, 7, 8, 9] (.two (.nil) (.two (.two (.nil) (.ord [(0, []), (1, []), (2, []), (3, []), (4, []), (5, []), (6, []), (7, []), (8, []), (9, []), (10, []), (11, []), (12, []), (13, []), (14, []), (15, []), (16, []), (17, []), (18, []), (19, []), (20, []), (21, []), (22, []), (23, []), (24, []), (25, []), (26, []), (27, []), (28, []), (29, []), (30, []), (31, [])])) (.nil))))) (.two (.two (.nil) (.loop [3, 6, 7, 8, 11] (.two (.nil) (.two (.two (.nil) (.two (.nil) (.ord [(0, []), (1, []), (2, []), (3, []), (4, []), (5, []), (7, []), (10, []), (11, []), (14, []), (15, []), (16, []), (17, []), (19, []), (21, []), (24, []), (25, []), (6, [4, 17]), (8, [4, 17]), (9, []), (12, []), (13, []), (18, []), (20, [4, 17]), (22, [4, 17]), (23, []), (26, []), (27, []), (28, []), (29, [])]))) (.nil))))) (.two (.nil) (.two (.two (.nil) (.loop [3, 6, 7, 8, 14, 15] (.two (.nil) (.two (.two (.nil) (.two (.nil) (.two (.ord [(0, []), (1, []), (2, []), (4, []), (7, []), (11, []), (12, []), (13, []), (14, []), (15, []), (16, []), (17, []), (18, []), (19, []), (20, []), (22, []), (23, []), (24, []), (26, []), (27, []), (28, []), (3, [1, 13, 18, 24, 28]), (5, [1, 13, 18, 24, 28]), (6, []), (8, [1, 13, 18, 24, 28]), (9, []), (10, []), (21, []), (25, []), (29, []), (30, [])]) (.two (.ord [(0, []), (2, []), (5, []), (8, []), (9, []), (10, []), (11, []), (12, []), (13, []), (14, []), (15, []), (16, []), (17, []), (18, []), (19, []), (20, []), (21, []), (22, []), (1, [10, 14, 18, 20]), (3, [10, 14, 18, 20]), (4, []), (6, [10, 14, 18, 20]), (7, []), (23, []), (24, [])]) (.nil))))) (.nil))))) (.two (.two (.nil) (.loop [3, 6, 14, 20] (.two (.nil) (.two (.ord [(0, []), (1, []), (2, []), (3, []), (4, []), (5, []), (6, []), (7, []), (8, []), (9, [])]) (.nil))))) (.nil))))))))
set_option maxRecDepth 100000 in
theorem escrowref02_block.sound {a0 a1 a2 : AVal} {G : Heap} {Q : AVal → Heap → Prop} (h : escrowref02_block.S a0 a1 a2 G Q) : ACalls P escrowref02_block.n [a0, a1, a2] G Q := by
  have e : escrowref02_block.S a0 a1 a2 G Q = awp cx (escrowref02_block.body) escrowref02_block.an (bodyQ T [.cell 6 63] Q) (envL [a0, a1, a2]) G := by kernel_rfl
  exact ACalls_of_awp cxOk (f := escrowref02_block.n) (fn := Tryd.f45) (c := escrowref02_block.body) (an := escrowref02_block.an) Tryd.func45 (by kernel_rfl) (by kernel_rfl) (by kernel_rfl) (drawsOk_of (by kernel_rfl) (by kernel_rfl)) (by simp [Tryd.f45]) (e ▸ h)

/-! #### escrow/escrowref02.One -/
def escrowref02_One.S (a0 : AVal) (G : Heap) (Q : AVal → Heap → Prop) : Prop :=
  aNew G (.own (z_api_Hash)) fun i1 G2 => ACalls P escrowref02_padded.n [a0] G2 fun v3 G4 => wv (vbuild T t_ar8_uint32 [(0, .int .u32 1779033703), (1, .int .u32 3144134277), (2, .int .u32 1013904242), (3, .int .u32 2773480762), (4, .int .u32 1359893119), (5, .int .u32 2600822924), (6, .int .u32 528734635), (7, .int .u32 1541459225)]) fun v5 => aNew G4 (.own (z_ar8_uint32)) fun i6 G7 => wg (vstore T G7 t_ar8_uint32 (.ptr i6 [] 0) v5) fun G8 => ∀ R9 : List AVal → Heap → Prop,
  (∀ (x11 x12 x13 x14 : AVal) (G10 : Heap), (wv (vlen T G10 t_sl_uint8 x12) fun v15 => wv (vbin T .lss t_int x14 v15) fun v16 => brB (some v16)
  (wv (vload T G10 t_ar8_uint32 x13) fun v17 => ACalls P escrowref02_block.n [v17, x12, x14] G10 fun v18 G19 => wg (vstore T G19 t_ar8_uint32 x13 v18) fun G20 => wv (vbin T .add t_int x14 (.int .i64 64)) fun v21 => R9 [x11, x12, x13, v21] G20)
  (aNew G10 (.own (z_api_Hash)) fun i22 G23 => ∀ R24 : List AVal → Heap → Prop,
  (∀ (x26 x27 x28 x29 : AVal) (G25 : Heap), (wv (vbin T .lss t_int x29 (.int .i64 32)) fun v30 => brB (some v30)
  (wv (vbin T .quo t_int x29 (.int .i64 4)) fun v31 => wv (viaddr T t_ar8_uint32 x27 v31) fun v32 => wv (vload T G25 t_uint32 v32) fun v33 => wv (vbin T .rem t_int x29 (.int .i64 4)) fun v34 => wv (vbin T .mul t_int (.int .i64 8) v34) fun v35 => wv (vbin T .sub t_int (.int .i64 24) v35) fun v36 => wv (vbin T .shr t_uint32 v33 v36) fun v37 => wv (vconv T G25 t_uint32 t_uint8 v37) fun v38 => wv (viaddr T t_api_Hash x28 x29) fun v39 => wg (vstore T G25 t_uint8 v39 v38) fun G40 => wv (vbin T .add t_int x29 (.int .i64 1)) fun v41 => R24 [x26, x27, x28, v41] G40)
  (wv (vload T G25 t_api_Hash x28) fun v42 => wg (vstore T G25 t_api_Hash x26 v42) fun G43 => wv (vload T G43 t_api_Hash x26) fun v44 => Q v44 G43)) → R24 [x26, x27, x28, x29] G25) →
  R24 [x11, x13, .ptr i22 [] 0, .int .i64 0] G23)) → R9 [x11, x12, x13, x14] G10) →
  R9 [.ptr i1 [] 0, v3, .ptr i6 [] 0, .int .i64 0] G8
def escrowref02_One.an : Ann := .two (.nil) (.two (.nil) (.two (.nil) (.two (.two (.nil) (.loop [2, 3, 4, 5] (.nil))) (.two (.nil) (.two (.two (.nil) (.loop [2, 4, 6, 7] (.nil))) (.nil))))))
set_option maxRecDepth 100000 in
theorem escrowref02_One.sound {a0 : AVal} {G : Heap} {Q : AVal → Heap → Prop} (h : escrowref02_One.S a0 G Q) : ACalls P escrowref02_One.n [a0] G Q := by
  have e : escrowref02_One.S a0 G Q = awp cx (escrowref02_One.body) escrowref02_One.an (bodyQ T [.cell 2 24] Q) (envL [a0]) G := by kernel_rfl
  exact ACalls_of_awp cxOk (f := escrowref02_One.n) (fn := Tryd.f38) (c := escrowref02_One.body) (an := escrowref02_One.an) Tryd.func38 (by kernel_rfl) (by kernel_rfl) (by kernel_rfl) (drawsOk_of (by kernel_rfl) (by kernel_rfl)) (by simp [Tryd.f38]) (e ▸ h)

/-! #### escrow/escrowref02.Sum -/
def escrowref02_Sum.S (a0 : AVal) (G : Heap) (Q : AVal → Heap → Prop) : Prop :=
  aNew G (.own (z_api_Hash)) fun i1 G2 => ∀ R3 : List AVal → Heap → Prop,
  (∀ (x5 x6 x7 x8 : AVal) (G4 : Heap), (wv (vlen T G4 t_sl_string x5) fun v9 => wv (vbin T .lss t_int x8 v9) fun v10 => brB (some v10)
  (wv (viaddr T t_sl_string x5 x8) fun v11 => wv (vload T G4 t_string v11) fun v12 => wv (vbin T .add t_string x7 v12) fun v13 => wv (vbin T .add t_int x8 (.int .i64 1)) fun v14 => R3 [x5, x6, v13, v14] G4)
  (ACalls P escrowref02_One.n [x7] G4 fun v15 G16 => wg (vstore T G16 t_api_Hash x6 v15) fun G17 => wv (vload T G17 t_api_Hash x6) fun v18 => Q v18 G17)) → R3 [x5, x6, x7, x8] G4) →
  R3 [a0, .ptr i1 [] 0, .str [], .int .i64 0] G2
def escrowref02_Sum.an : Ann := .two (.nil) (.two (.nil) (.two (.two (.nil) (.loop [0, 2, 3, 4] (.nil))) (.nil)))
set_option maxRecDepth 100000 in
theorem escrowref02_Sum.sound {a0 : AVal} {G : Heap} {Q : AVal → Heap → Prop} (h : escrowref02_Sum.S a0 G Q) : ACalls P escrowref02_Sum.n [a0] G Q := by
  have e : escrowref02_Sum.S a0 G Q = awp cx (escrowref02_Sum.body) escrowref02_Sum.an (bodyQ T [.cell 2 24] Q) (envL [a0]) G := by kernel_rfl
  exact ACalls_of_awp cxOk (f := escrowref02_Sum.n) (fn := Tryd.f34) (c := escrowref02_Sum.body) (an := escrowref02_Sum.an) Tryd.func34 (by kernel_rfl) (by kernel_rfl) (by kernel_rfl) (drawsOk_of (by kernel_rfl) (by kernel_rfl)) (by simp [Tryd.f34]) (e ▸ h)

/-! #### escrow/escrowref09.Point -/
def escrowref09_Point.S (a0 : AVal) (G : Heap) (Q : AVal → Heap → Prop) : Prop :=
  aNew G (.own (a0)) fun i1 G2 => aNew G2 (.own (z_api_Hash)) fun i3 G4 => wv (vslice T t_api_Hash (.ptr i1 [] 0) none none none) fun v5 => wv (vconv T G4 t_sl_uint8 t_string v5) fun v6 => aBuildSlice T t_sl_string 1 [(0, v6)] G4 fun v7 G8 => ACalls P escrowref02_Sum.n [v7] G8 fun v9 G10 => wg (vstore T G10 t_api_Hash (.ptr i3 [] 0) v9) fun G11 => wv (vload T G11 t_api_Hash (.ptr i3 [] 0)) fun v12 => Q v12 G11
def escrowref09_Point.an : Ann := .nil
set_option maxRecDepth 100000 in
theorem escrowref09_Point.sound {a0 : AVal} {G : Heap} {Q : AVal → Heap → Prop} (h : escrowref09_Point.S a0 G Q) : ACalls P escrowref09_Point.n [a0] G Q := by
  have e : escrowref09_Point.S a0 G Q = awp cx (escrowref09_Point.body) escrowref09_Point.an (bodyQ T [.cell 2 24] Q) (envL [a0]) G := by kernel_rfl
  exact ACalls_of_awp cxOk (f := escrowref09_Point.n) (fn := Tryd.f32) (c := escrowref09_Point.body) (an := escrowref09_Point.an) Tryd.func32 (by kernel_rfl) (by kernel_rfl) (by kernel_rfl) (drawsOk_of (by kernel_rfl) (by kernel_rfl)) (by simp [Tryd.f32]) (e ▸ h)

/-! #### escrow/escrowref09.down -/
def escrowref09_down.S (a0 a1 a2 : AVal) (G : Heap) (Q : AVal → Heap → Prop) : Prop :=
  aNew G (.own (a0)) fun i1 G2 => aNew G2 (.own (a1)) fun i3 G4 => aNew G4 (.own (z_api_Hash)) fun i5 G6 => wv (vbin T .sub t_int a2 (.int .i64 1)) fun v7 => ∀ R8 : List AVal → Heap → Prop,
  (∀ (x10 x11 x12 x13 : AVal) (G9 : Heap), (wv (vbin T .geq t_int x13 (.int .i64 0)) fun v14 => brB (some v14)
  (wv (viaddr T t_ar48_int x11 x13) fun v15 => wv (vload T G9 t_int v15) fun v16 => wv (vbin T .eql t_int v16 (.int .i64 1)) fun v17 => brB (some v17)
  (wv (vbin T .quo t_int x13 (.int .i64 8)) fun v18 => wv (vbin T .quo t_int x13 (.int .i64 8)) fun v19 => wv (viaddr T t_api_Hash x10 v19) fun v20 => wv (vload T G9 t_uint8 v20) fun v21 => wv (vbin T .rem t_int x13 (.int .i64 8)) fun v22 => wv (vconv T G9 t_int t_uint v22) fun v23 => wv (vbin T .shl t_uint8 (.int .u8 1) v23) fun v24 => wv (vbin T .xor t_uint8 v21 v24) fun v25 => wv (viaddr T t_api_Hash x10 v18) fun v26 => wg (vstore T G9 t_uint8 v26 v25) fun G27 => wv (vload T G27 t_api_Hash x10) fun v28 => ACalls P escrowref09_Point.n [v28] G27 fun v29 G30 => wg (vstore T G30 t_api_Hash x10 v29) fun G31 => wv (vbin T .sub t_int x13 (.int .i64 1)) fun v35 => R8 [x10, x11, x12, v35] G31)
  (wv (vbin T .sub t_int x13 (.int .i64 1)) fun v36 => R8 [x10, x11, x12, v36] G9))
  (wv (vload T G9 t_api_Hash x10) fun v37 => wg (vstore T G9 t_api_Hash x12 v37) fun G38 => wv (vload T G38 t_api_Hash x12) fun v39 => Q v39 G38)) → R8 [x10, x11, x12, x13] G9) →
  R8 [.ptr i1 [] 0, .ptr i3 [] 0, .ptr i5 [] 0, v7] G6
def escrowref09_down.an : Ann := .two (.nil) (.two (.two (.nil) (.loop [3, 4, 6, 7] (.nil))) (.nil))
set_option maxRecDepth 100000 in
theorem escrowref09_down.sound {a0 a1 a2 : AVal} {G : Heap} {Q : AVal → Heap → Prop} (h : escrowref09_down.S a0 a1 a2 G Q) : ACalls P escrowref09_down.n [a0, a1, a2] G Q := by
  have e : escrowref09_down.S a0 a1 a2 G Q = awp cx (escrowref09_down.body) escrowref09_down.an (bodyQ T [.cell 6 24] Q) (envL [a0, a1, a2]) G := by kernel_rfl
  exact ACalls_of_awp cxOk (f := escrowref09_down.n) (fn := Tryd.f30) (c := escrowref09_down.body) (an := escrowref09_down.an) Tryd.func30 (by kernel_rfl) (by kernel_rfl) (by kernel_rfl) (drawsOk_of (by kernel_rfl) (by kernel_rfl)) (by simp [Tryd.f30]) (e ▸ h)

/-! #### escrow/escrowref09.Derive -/
def escrowref09_Derive.S (a0 a1 a2 : AVal) (G : Heap) (Q : AVal → Heap → Prop) : Prop :=
  aNew G (.own (a0)) fun i1 G2 => aNew G2 (.own (z_api_Hash)) fun i3 G4 => let J53 : AVal → Heap → Prop := (fun x12 G11 => brB (some x12)
  (wv (vbuild T t_api_Hash []) fun v13 => wg (vstore T G11 t_api_Hash (.ptr i3 [] 0) v13) fun G14 => wv (vload T G14 t_api_Hash (.ptr i3 [] 0)) fun v15 => Q (.tuple [v15, .int .i64 90]) G14)
  (ACalls P escrowref09_Place.n [a1] G11 fun v16 G17 => aNew G17 (.own (z_ar48_int)) fun i18 G19 => wg (vstore T G19 t_ar48_int (.ptr i18 [] 0) v16) fun G20 => ACalls P escrowref09_Place.n [a2] G20 fun v21 G22 => aNew G22 (.own (z_ar48_int)) fun i23 G24 => wg (vstore T G24 t_ar48_int (.ptr i23 [] 0) v21) fun G25 => wv (vload T G25 t_ar48_int (.ptr i18 [] 0)) fun v26 => ACalls P escrowref09_level.n [v26] G25 fun v27 G28 => ∀ R29 : List AVal → Heap → Prop,
  (∀ (x31 x32 x33 x34 x35 x36 : AVal) (G30 : Heap), (wv (vbin T .lss t_int x36 (.int .i64 48)) fun v37 => brB (some v37)
  (wv (viaddr T t_ar48_int x33 x36) fun v38 => wv (vload T G30 t_int v38) fun v39 => wv (viaddr T t_ar48_int x34 x36) fun v40 => wv (vload T G30 t_int v40) fun v41 => wv (vbin T .neq t_int v39 v41) fun v42 => brB (some v42)
  (wv (vbuild T t_api_Hash []) fun v43 => wg (vstore T G30 t_api_Hash x32 v43) fun G44 => wv (vload T G44 t_api_Hash x32) fun v45 => Q (.tuple [v45, .int .i64 5]) G44)
  (wv (vbin T .add t_int x36 (.int .i64 1)) fun v46 => R29 [x31, x32, x33, x34, x35, v46] G30))
  (wv (vload T G30 t_api_Hash x31) fun v47 => wv (vload T G30 t_ar48_int x34) fun v48 => ACalls P escrowref09_down.n [v47, v48, x35] G30 fun v49 G50 => wg (vstore T G50 t_api_Hash x32 v49) fun G51 => wv (vload T G51 t_api_Hash x32) fun v52 => Q (.tuple [v52, .int .i64 0]) G51)) → R29 [x31, x32, x33, x34, x35, x36] G30) →
  R29 [.ptr i1 [] 0, .ptr i3 [] 0, .ptr i18 [] 0, .ptr i23 [] 0, v27, v27] G28));
  ACalls P escrowref09_good.n [a1] G4 fun v5 G6 => wv (vun .not v5) fun v7 => brB (some v7)
  (J53 (.bool true) G6)
  (ACalls P escrowref09_good.n [a2] G6 fun v8 G9 => wv (vun .not v8) fun v10 => J53 v10 G9)
def escrowref09_Derive.an : Ann := .two (.nil) (.two (.nil) (.two (.nil) (.two (.nil) (.two (.nil) (.two (.two (.nil) (.loop [3, 6, 8, 9, 10, 11] (.two (.nil) (.two (.two (.ord [(0, []), (1, []), (2, []), (3, []), (4, []), (5, []), (6, [])]) (.nil)) (.nil))))) (.nil))))))
set_option maxRecDepth 100000 in
theorem escrowref09_Derive.sound {a0 a1 a2 : AVal} {G : Heap} {Q : AVal → Heap → Prop} (h : escrowref09_Derive.S a0 a1 a2 G Q) : ACalls P escrowref09_Derive.n [a0, a1, a2] G Q := by
  have e : escrowref09_Derive.S a0 a1 a2 G Q = awp cx (escrowref09_Derive.body) escrowref09_Derive.an (bodyQ T [.cell 6 24, .tmp 7] Q) (envL [a0, a1, a2]) G := by kernel_rfl
  exact ACalls_of_awp cxOk (f := escrowref09_Derive.n) (fn := Tryd.f22) (c := escrowref09_Derive.body) (an := escrowref09_Derive.an) Tryd.func22 (by kernel_rfl) (by kernel_rfl) (by kernel_rfl) (drawsOk_of (by kernel_rfl) (by kernel_rfl)) (by simp [Tryd.f22]) (e ▸ h)

/-! #### escrow/escrowref10.Put -/
def escrowref10_Put.S (a0 a1 a2 : AVal) (G : Heap) (Q : AVal → Heap → Prop) : Prop :=
  aNew G (.own (a2)) fun i1 G2 => ACalls P escrowref10_asked.n [a0, a1] G2 fun v3 G4 => wv (vbin T .neq t_api_Errno v3 (.int .i64 0)) fun v5 => brB (some v5)
  (Q (.tuple [.nilSlice, v3]) G4)
  (ACalls P escrowref09_Level.n [a1] G4 fun v6 G7 => wv (vextract v6 0) fun v8 => wv (vextract v6 1) fun v9 => ∀ R10 : List AVal → Heap → Prop,
  (∀ (x12 x13 x14 x15 x16 x17 : AVal) (G11 : Heap), (wv (vbin T .lss t_int x17 (.int .i64 49)) fun v18 => brB (some v18)
  (ACalls P escrowref10_at.n [x12, x17] G11 fun v19 G20 => aNew G20 (.own (z_api_Slot)) fun i21 G22 => wg (vstore T G22 t_api_Slot (.ptr i21 [] 0) v19) fun G23 => let J65 : AVal → Heap → Prop := (fun x27 G26 => let J64 : Heap → Prop := (fun G43 => wv (vbin T .eql t_int x17 x15) fun v44 => brB (some v44)
  (wv (vload T G43 t_api_Hash x14) fun v45 => wv (vbuild T t_api_Slot [(0, x13), (1, v45), (2, .bool true)]) fun v46 => wg (vstore T G43 t_api_Slot (.ptr i21 [] 0) v46) fun G47 => wv (vload T G47 t_api_Slot (.ptr i21 [] 0)) fun v54 => aBuildSlice T t_sl_api_Slot 1 [(0, v54)] G47 fun v55 G56 => aAppend T G56 t_sl_api_Slot t_sl_api_Slot x16 v55 fun v57 G58 => wv (vbin T .add t_int x17 (.int .i64 1)) fun v69 => R10 [x12, x13, x14, x15, v57, v69] G58)
  (wv (vload T G43 t_api_Slot (.ptr i21 [] 0)) fun v59 => aBuildSlice T t_sl_api_Slot 1 [(0, v59)] G43 fun v60 G61 => aAppend T G61 t_sl_api_Slot t_sl_api_Slot x16 v60 fun v62 G63 => wv (vbin T .add t_int x17 (.int .i64 1)) fun v70 => R10 [x12, x13, x14, x15, v62, v70] G63));
  brB (some x27)
  (wv (vload T G26 t_api_Hash x14) fun v28 => wv (vload T G26 t_int64 (.ptr i21 [0] 0)) fun v29 => ACalls P escrowref09_Derive.n [v28, x13, v29] G26 fun v30 G31 => wv (vextract v30 0) fun v32 => wv (vextract v30 1) fun v33 => aNew G31 (.own (z_api_Hash)) fun i34 G35 => wg (vstore T G35 t_api_Hash (.ptr i34 [] 0) v32) fun G36 => wv (vbin T .neq t_api_Errno v33 (.int .i64 0)) fun v37 => brB (some v37)
  (Q (.tuple [.nilSlice, .int .i64 100]) G36)
  (wv (vload T G36 t_api_Hash (.ptr i34 [] 0)) fun v38 => wv (vload T G36 t_api_Hash (.ptr i21 [1] 1)) fun v39 => wv (vbin T .neq t_api_Hash v38 v39) fun v40 => brB (some v40)
  (Q (.tuple [.nilSlice, .int .i64 100]) G36)
  (J64 G36)))
  (J64 G26));
  wv (vbin T .lss t_int x17 x15) fun v24 => brB (some v24)
  (wv (vload T G23 t_bool (.ptr i21 [2] 33)) fun v25 => J65 v25 G23)
  (J65 (.bool false) G23))
  (Q (.tuple [x16, .int .i64 0]) G11)) → R10 [x12, x13, x14, x15, x16, x17] G11) →
  R10 [a0, a1, .ptr i1 [] 0, v8, .nilSlice, .int .i64 0] G7)
def escrowref10_Put.an : Ann := .two (.nil) (.two (.nil) (.two (.nil) (.two (.nil) (.two (.nil) (.two (.two (.nil) (.loop [0, 1, 5, 9, 11, 12] (.nil))) (.nil))))))
set_option maxRecDepth 100000 in
theorem escrowref10_Put.sound {a0 a1 a2 : AVal} {G : Heap} {Q : AVal → Heap → Prop} (h : escrowref10_Put.S a0 a1 a2 G Q) : ACalls P escrowref10_Put.n [a0, a1, a2] G Q := by
  have e : escrowref10_Put.S a0 a1 a2 G Q = awp cx (escrowref10_Put.body) escrowref10_Put.an (bodyQ T [.tmp 6, .tmp 7] Q) (envL [a0, a1, a2]) G := by kernel_rfl
  exact ACalls_of_awp cxOk (f := escrowref10_Put.n) (fn := Tryd.f11) (c := escrowref10_Put.body) (an := escrowref10_Put.an) Tryd.func11 (by kernel_rfl) (by kernel_rfl) (by kernel_rfl) (drawsOk_of (by kernel_rfl) (by kernel_rfl)) (by simp [Tryd.f11]) (e ▸ h)

/-! #### escrow/escrowlaw10.same -/
def escrowlaw10_same.S (a0 a1 : AVal) (G : Heap) (Q : AVal → Heap → Prop) : Prop :=
  wv (vlen T G t_sl_api_Slot a0) fun v1 => wv (vlen T G t_sl_api_Slot a1) fun v2 => wv (vbin T .neq t_int v1 v2) fun v3 => brB (some v3)
  (Q (.bool false) G)
  (∀ R4 : List AVal → Heap → Prop,
  (∀ (x6 x7 x8 : AVal) (G5 : Heap), (wv (vlen T G5 t_sl_api_Slot x6) fun v9 => wv (vbin T .lss t_int x8 v9) fun v10 => brB (some v10)
  (wv (viaddr T t_sl_api_Slot x6 x8) fun v11 => wv (vload T G5 t_api_Slot v11) fun v12 => wv (viaddr T t_sl_api_Slot x7 x8) fun v13 => wv (vload T G5 t_api_Slot v13) fun v14 => wv (vbin T .neq t_api_Slot v12 v14) fun v15 => brB (some v15)
  (Q (.bool false) G5)
  (wv (vbin T .add t_int x8 (.int .i64 1)) fun v16 => R4 [x6, x7, v16] G5))
  (Q (.bool true) G5)) → R4 [x6, x7, x8] G5) →
  R4 [a0, a1, .int .i64 0] G)
def escrowlaw10_same.an : Ann := .two (.nil) (.two (.nil) (.two (.two (.nil) (.loop [0, 1, 5] (.two (.nil) (.two (.two (.ord [(0, []), (1, []), (2, []), (3, []), (4, []), (5, []), (6, []), (7, []), (8, [])]) (.nil)) (.nil))))) (.nil)))
set_option maxRecDepth 100000 in
theorem escrowlaw10_same.sound {a0 a1 : AVal} {G : Heap} {Q : AVal → Heap → Prop} (h : escrowlaw10_same.S a0 a1 G Q) : ACalls P escrowlaw10_same.n [a0, a1] G Q := by
  have e : escrowlaw10_same.S a0 a1 G Q = awp cx (escrowlaw10_same.body) escrowlaw10_same.an (bodyQ T [.tmp 4] Q) (envL [a0, a1]) G := by kernel_rfl
  exact ACalls_of_awp cxOk (f := escrowlaw10_same.n) (fn := Tryd.f12) (c := escrowlaw10_same.body) (an := escrowlaw10_same.an) Tryd.func12 (by kernel_rfl) (by kernel_rfl) (by kernel_rfl) (drawsOk_of (by kernel_rfl) (by kernel_rfl)) (by simp [Tryd.f12]) (e ▸ h)

/-! #### escrow/escrowlaw10.kept -/
def escrowlaw10_kept.S (a0 a1 : AVal) (G : Heap) (Q : AVal → Heap → Prop) : Prop :=
  ACalls P escrowlaw10_same.n [a0, a1] G fun v1 G2 => brB (some v1)
  (wv (vlen T G2 t_sl_api_Slot a1) fun v3 => wv (vbin T .add t_int v3 (.int .i64 1)) fun v4 => wv (vslice T t_sl_api_Slot a0 none (some (v4)) none) fun v5 => wv (vlen T G2 t_sl_api_Slot a1) fun v6 => wv (viaddr T t_sl_api_Slot v5 v6) fun v7 => wv (vload T G2 t_api_Slot v7) fun v8 => wv (vbuild T t_api_Slot [(0, .int .i64 (-7))]) fun v9 => wv (vbin T .eql t_api_Slot v8 v9) fun v10 => Q v10 G2)
  (Q (.bool false) G2)
def escrowlaw10_kept.an : Ann := .nil
set_option maxRecDepth 100000 in
theorem escrowlaw10_kept.sound {a0 a1 : AVal} {G : Heap} {Q : AVal → Heap → Prop} (h : escrowlaw10_kept.S a0 a1 G Q) : ACalls P escrowlaw10_kept.n [a0, a1] G Q := by
  have e : escrowlaw10_kept.S a0 a1 G Q = awp cx (escrowlaw10_kept.body) escrowlaw10_kept.an (bodyQ T [.tmp 4] Q) (envL [a0, a1]) G := by kernel_rfl
  exact ACalls_of_awp cxOk (f := escrowlaw10_kept.n) (fn := Tryd.f13) (c := escrowlaw10_kept.body) (an := escrowlaw10_kept.an) Tryd.func13 (by kernel_rfl) (by kernel_rfl) (by kernel_rfl) (drawsOk_of (by kernel_rfl) (by kernel_rfl)) (by simp [Tryd.f13]) (e ▸ h)

/-! #### escrow/escrowlaw10.ShelfPuts -/
def escrowlaw10_ShelfPuts.S (a0 a1 a2 : AVal) (G : Heap) (Q : AVal → Heap → Prop) : Prop :=
  aNew G (.own (a2)) fun i1 G2 => ACalls P escrowlaw10_first.n [] G2 fun v3 G4 => wv (vun .not v3) fun v5 => brB (some v5)
  (Q (.bool false) G4)
  (ACalls P escrowlaw10_lend.n [a0] G4 fun v6 G7 => wv (vload T G7 t_api_Hash (.ptr i1 [] 0)) fun v8 => ACalls P shelf_Put.n [v6, a1, v8] G7 fun v9 G10 => wv (vextract v9 0) fun v11 => wv (vextract v9 1) fun v12 => wv (vload T G10 t_api_Hash (.ptr i1 [] 0)) fun v13 => ACalls P shelf_Put.n [v6, a1, v13] G10 fun v14 G15 => wv (vextract v14 0) fun v16 => wv (vextract v14 1) fun v17 => wv (vload T G15 t_api_Hash (.ptr i1 [] 0)) fun v18 => ACalls P escrowref10_Put.n [a0, a1, v18] G15 fun v19 G20 => wv (vextract v19 0) fun v21 => wv (vextract v19 1) fun v22 => let J103 : AVal → Heap → Prop := (fun x35 G34 => brB (some x35)
  (Q (.bool false) G34)
  (∀ R36 : List AVal → Heap → Prop,
  (∀ (x38 x39 x40 x41 x42 x43 x44 : AVal) (G37 : Heap), (wv (vlen T G37 t_sl_api_Slot x41) fun v45 => wv (vbin T .lss t_int x44 v45) fun v46 => brB (some v46)
  (wv (vbuild T t_api_Slot [(0, .int .i64 (-1))]) fun v47 => wv (viaddr T t_sl_api_Slot x41 x44) fun v48 => wg (vstore T G37 t_api_Slot v48 v47) fun G49 => wv (vbin T .add t_int x44 (.int .i64 1)) fun v50 => R36 [x38, x39, x40, x41, x42, x43, v50] G49)
  (wv (vbuild T t_api_Slot [(0, .int .i64 (-2))]) fun v51 => aBuildSlice T t_sl_api_Slot 1 [(0, v51)] G37 fun v52 G53 => aAppend T G53 t_sl_api_Slot t_sl_api_Slot x41 v52 fun v54 G55 => ∀ R56 : List AVal → Heap → Prop,
  (∀ (x58 x59 x60 x61 x62 x63 x64 x65 : AVal) (G57 : Heap), (wv (vlen T G57 t_sl_api_Slot x60) fun v66 => wv (vbin T .lss t_int x65 v66) fun v67 => brB (some v67)
  (wv (viaddr T t_sl_api_Slot x60 x65) fun v68 => wv (vfaddr T t_api_Slot v68 2) fun v69 => wv (vload T G57 t_bool v69) fun v70 => wv (vun .not v70) fun v71 => wv (viaddr T t_sl_api_Slot x60 x65) fun v72 => wv (vfaddr T t_api_Slot v72 2) fun v73 => wg (vstore T G57 t_bool v73 v71) fun G74 => wv (viaddr T t_sl_api_Slot x60 x65) fun v75 => wv (vload T G74 t_api_Slot v75) fun v76 => aBuildSlice T t_sl_api_Slot 1 [(0, v76)] G74 fun v77 G78 => aAppend T G78 t_sl_api_Slot t_sl_api_Slot x64 v77 fun v79 G80 => wv (vbin T .add t_int x65 (.int .i64 1)) fun v81 => R56 [x58, x59, x60, x61, x62, x63, v79, v81] G80)
  (wv (vload T G57 t_api_Hash x59) fun v82 => ACalls P shelf_Put.n [x60, x58, v82] G57 fun v83 G84 => wv (vextract v83 0) fun v85 => wv (vextract v83 1) fun v86 => wv (vload T G84 t_api_Hash x59) fun v87 => ACalls P escrowref10_Put.n [x64, x58, v87] G84 fun v88 G89 => wv (vextract v88 0) fun v90 => wv (vextract v88 1) fun v91 => wv (vlen T G89 t_sl_api_Slot x63) fun v92 => wv (vlen T G89 t_sl_api_Slot x62) fun v93 => wv (vbin T .add t_int v93 (.int .i64 1)) fun v94 => wv (vbin T .eql t_int v92 v94) fun v95 => brB (some v95)
  (ACalls P escrowlaw10_same.n [x61, x62] G89 fun v96 G97 => brB (some v96)
  (ACalls P escrowlaw10_same.n [v85, v90] G97 fun v98 G99 => brB (some v98)
  (wv (vbin T .eql t_api_Errno v86 v91) fun v100 => Q v100 G99)
  (Q (.bool false) G99))
  (Q (.bool false) G97))
  (Q (.bool false) G89))) → R56 [x58, x59, x60, x61, x62, x63, x64, x65] G57) →
  R56 [x38, x39, x40, x42, x43, v54, .nilSlice, .int .i64 0] G55)) → R36 [x38, x39, x40, x41, x42, x43, x44] G37) →
  R36 [a1, .ptr i1 [] 0, v6, v11, v16, v21, .int .i64 0] G34));
  ACalls P escrowlaw10_same.n [v11, v21] G20 fun v23 G24 => wv (vun .not v23) fun v25 => brB (some v25)
  (J103 (.bool true) G24)
  (ACalls P escrowlaw10_same.n [v16, v21] G24 fun v26 G27 => wv (vun .not v26) fun v28 => brB (some v28)
  (J103 (.bool true) G27)
  (wv (vbin T .neq t_api_Errno v12 v22) fun v29 => brB (some v29)
  (J103 (.bool true) G27)
  (wv (vbin T .neq t_api_Errno v17 v22) fun v30 => brB (some v30)
  (J103 (.bool true) G27)
  (ACalls P escrowlaw10_kept.n [v6, a0] G27 fun v31 G32 => wv (vun .not v31) fun v33 => J103 v33 G32)))))
def escrowlaw10_ShelfPuts.an : Ann := .two (.nil) (.two (.nil) (.two (.nil) (.two (.nil) (.two (.nil) (.two (.nil) (.two (.nil) (.two (.two (.nil) (.loop [1, 5, 7, 8, 10, 12, 14] (.nil))) (.two (.nil) (.two (.nil) (.two (.two (.nil) (.loop [1, 5, 7, 10, 12, 15, 16, 17] (.nil))) (.nil)))))))))))
set_option maxRecDepth 100000 in
theorem escrowlaw10_ShelfPuts.sound {a0 a1 a2 : AVal} {G : Heap} {Q : AVal → Heap → Prop} (h : escrowlaw10_ShelfPuts.S a0 a1 a2 G Q) : ACalls P escrowlaw10_ShelfPuts.n [a0, a1, a2] G Q := by
  have e : escrowlaw10_ShelfPuts.S a0 a1 a2 G Q = awp cx (escrowlaw10_ShelfPuts.body) escrowlaw10_ShelfPuts.an (bodyQ T [.tmp 6] Q) (envL [a0, a1, a2]) G := by kernel_rfl
  exact ACalls_of_awp cxOk (f := escrowlaw10_ShelfPuts.n) (fn := Tryd.f3) (c := escrowlaw10_ShelfPuts.body) (an := escrowlaw10_ShelfPuts.an) Tryd.func3 (by kernel_rfl) (by kernel_rfl) (by kernel_rfl) (drawsOk_of (by kernel_rfl) (by kernel_rfl)) (by simp [Tryd.f3]) (e ▸ h)

/-! #### escrow/escrowref10.Get -/
def escrowref10_Get.S (a0 a1 : AVal) (G : Heap) (Q : AVal → Heap → Prop) : Prop :=
  aNew G (.own (z_api_Hash)) fun i1 G2 => ACalls P escrowref10_asked.n [a0, a1] G2 fun v3 G4 => wv (vbin T .neq t_api_Errno v3 (.int .i64 0)) fun v5 => brB (some v5)
  (wv (vbuild T t_api_Hash []) fun v6 => wg (vstore T G4 t_api_Hash (.ptr i1 [] 0) v6) fun G7 => wv (vload T G7 t_api_Hash (.ptr i1 [] 0)) fun v8 => Q (.tuple [v8, v3]) G7)
  (∀ R9 : List AVal → Heap → Prop,
  (∀ (x11 x12 x13 x14 : AVal) (G10 : Heap), (wv (vbin T .lss t_int x14 (.int .i64 49)) fun v15 => brB (some v15)
  (ACalls P escrowref10_at.n [x11, x14] G10 fun v16 G17 => aNew G17 (.own (z_api_Slot)) fun i18 G19 => wg (vstore T G19 t_api_Slot (.ptr i18 [] 0) v16) fun G20 => wv (vload T G20 t_bool (.ptr i18 [2] 33)) fun v21 => brB (some v21)
  (wv (vload T G20 t_api_Hash (.ptr i18 [1] 1)) fun v22 => wv (vload T G20 t_int64 (.ptr i18 [0] 0)) fun v23 => ACalls P escrowref09_Derive.n [v22, v23, x12] G20 fun v24 G25 => wv (vextract v24 0) fun v26 => wv (vextract v24 1) fun v27 => aNew G25 (.own (z_api_Hash)) fun i28 G29 => wg (vstore T G29 t_api_Hash (.ptr i28 [] 0) v26) fun G30 => wv (vbin T .eql t_api_Errno v27 (.int .i64 0)) fun v31 => brB (some v31)
  (wv (vload T G30 t_api_Hash (.ptr i28 [] 0)) fun v32 => wg (vstore T G30 t_api_Hash x13 v32) fun G33 => wv (vload T G33 t_api_Hash x13) fun v34 => Q (.tuple [v34, .int .i64 0]) G33)
  (wv (vbin T .add t_int x14 (.int .i64 1)) fun v38 => R9 [x11, x12, x13, v38] G30))
  (wv (vbin T .add t_int x14 (.int .i64 1)) fun v39 => R9 [x11, x12, x13, v39] G20))
  (wv (vbuild T t_api_Hash []) fun v40 => wg (vstore T G10 t_api_Hash x13 v40) fun G41 => wv (vload T G41 t_api_Hash x13) fun v42 => Q (.tuple [v42, .int .i64 5]) G41)) → R9 [x11, x12, x13, x14] G10) →
  R9 [a0, a1, .ptr i1 [] 0, .int .i64 0] G4)
def escrowref10_Get.an : Ann := .two (.nil) (.two (.nil) (.two (.nil) (.two (.two (.nil) (.loop [0, 1, 4, 7] (.nil))) (.nil))))
set_option maxRecDepth 100000 in
theorem escrowref10_Get.sound {a0 a1 : AVal} {G : Heap} {Q : AVal → Heap → Prop} (h : escrowref10_Get.S a0 a1 G Q) : ACalls P escrowref10_Get.n [a0, a1] G Q := by
  have e : escrowref10_Get.S a0 a1 G Q = awp cx (escrowref10_Get.body) escrowref10_Get.an (bodyQ T [.cell 4 24, .tmp 5] Q) (envL [a0, a1]) G := by kernel_rfl
  exact ACalls_of_awp cxOk (f := escrowref10_Get.n) (fn := Tryd.f15) (c := escrowref10_Get.body) (an := escrowref10_Get.an) Tryd.func15 (by kernel_rfl) (by kernel_rfl) (by kernel_rfl) (drawsOk_of (by kernel_rfl) (by kernel_rfl)) (by simp [Tryd.f15]) (e ▸ h)

/-! #### escrow/escrowlaw10.ShelfGets -/
def escrowlaw10_ShelfGets.S (a0 a1 : AVal) (G : Heap) (Q : AVal → Heap → Prop) : Prop :=
  ACalls P escrowlaw10_first.n [] G fun v1 G2 => wv (vun .not v1) fun v3 => brB (some v3)
  (Q (.bool false) G2)
  (ACalls P escrowlaw10_lend.n [a0] G2 fun v4 G5 => ACalls P shelf_Get.n [v4, a1] G5 fun v6 G7 => wv (vextract v6 0) fun v8 => wv (vextract v6 1) fun v9 => aNew G7 (.own (z_api_Hash)) fun i10 G11 => wg (vstore T G11 t_api_Hash (.ptr i10 [] 0) v8) fun G12 => ACalls P escrowref10_Get.n [a0, a1] G12 fun v13 G14 => wv (vextract v13 0) fun v15 => wv (vextract v13 1) fun v16 => aNew G14 (.own (z_api_Hash)) fun i17 G18 => wg (vstore T G18 t_api_Hash (.ptr i17 [] 0) v15) fun G19 => let J71 : AVal → Heap → Prop := (fun x28 G27 => brB (some x28)
  (Q (.bool false) G27)
  (∀ R29 : List AVal → Heap → Prop,
  (∀ (x31 x32 x33 x34 x35 x36 : AVal) (G30 : Heap), (wv (vlen T G30 t_sl_api_Slot x32) fun v37 => wv (vbin T .lss t_int x36 v37) fun v38 => brB (some v38)
  (wv (viaddr T t_sl_api_Slot x32 x36) fun v39 => wv (vfaddr T t_api_Slot v39 1) fun v40 => wv (viaddr T t_api_Hash v40 (.int .i64 0)) fun v41 => wv (vload T G30 t_uint8 v41) fun v42 => wv (vbin T .xor t_uint8 v42 (.int .u8 1)) fun v43 => wv (viaddr T t_sl_api_Slot x32 x36) fun v44 => wv (vfaddr T t_api_Slot v44 1) fun v45 => wv (viaddr T t_api_Hash v45 (.int .i64 0)) fun v46 => wg (vstore T G30 t_uint8 v46 v43) fun G47 => wv (viaddr T t_sl_api_Slot x32 x36) fun v48 => wv (vload T G47 t_api_Slot v48) fun v49 => aBuildSlice T t_sl_api_Slot 1 [(0, v49)] G47 fun v50 G51 => aAppend T G51 t_sl_api_Slot t_sl_api_Slot x35 v50 fun v52 G53 => wv (vbin T .add t_int x36 (.int .i64 1)) fun v54 => R29 [x31, x32, x33, x34, v52, v54] G53)
  (ACalls P shelf_Get.n [x32, x31] G30 fun v55 G56 => wv (vextract v55 0) fun v57 => wv (vextract v55 1) fun v58 => wg (vstore T G56 t_api_Hash x33 v57) fun G59 => ACalls P escrowref10_Get.n [x35, x31] G59 fun v60 G61 => wv (vextract v60 0) fun v62 => wv (vextract v60 1) fun v63 => wg (vstore T G61 t_api_Hash x34 v62) fun G64 => wv (vload T G64 t_api_Hash x33) fun v65 => wv (vload T G64 t_api_Hash x34) fun v66 => wv (vbin T .eql t_api_Hash v65 v66) fun v67 => brB (some v67)
  (wv (vbin T .eql t_api_Errno v58 v63) fun v68 => Q v68 G64)
  (Q (.bool false) G64))) → R29 [x31, x32, x33, x34, x35, x36] G30) →
  R29 [a1, v4, .ptr i10 [] 0, .ptr i17 [] 0, .nilSlice, .int .i64 0] G27));
  wv (vload T G19 t_api_Hash (.ptr i10 [] 0)) fun v20 => wv (vload T G19 t_api_Hash (.ptr i17 [] 0)) fun v21 => wv (vbin T .neq t_api_Hash v20 v21) fun v22 => brB (some v22)
  (J71 (.bool true) G19)
  (wv (vbin T .neq t_api_Errno v9 v16) fun v23 => brB (some v23)
  (J71 (.bool true) G19)
  (ACalls P escrowlaw10_kept.n [v4, a0] G19 fun v24 G25 => wv (vun .not v24) fun v26 => J71 v26 G25)))
def escrowlaw10_ShelfGets.an : Ann := .two (.nil) (.two (.nil) (.two (.nil) (.two (.nil) (.two (.nil) (.two (.nil) (.two (.nil) (.two (.two (.nil) (.loop [1, 5, 6, 8, 10, 11] (.two (.nil) (.two (.two (.ord [(0, []), (1, []), (2, []), (3, []), (4, []), (5, []), (6, []), (7, []), (8, []), (9, []), (10, []), (11, []), (12, [])]) (.nil)) (.nil))))) (.nil))))))))
set_option maxRecDepth 100000 in
theorem escrowlaw10_ShelfGets.sound {a0 a1 : AVal} {G : Heap} {Q : AVal → Heap → Prop} (h : escrowlaw10_ShelfGets.S a0 a1 G Q) : ACalls P escrowlaw10_ShelfGets.n [a0, a1] G Q := by
  have e : escrowlaw10_ShelfGets.S a0 a1 G Q = awp cx (escrowlaw10_ShelfGets.body) escrowlaw10_ShelfGets.an (bodyQ T [.tmp 4] Q) (envL [a0, a1]) G := by kernel_rfl
  exact ACalls_of_awp cxOk (f := escrowlaw10_ShelfGets.n) (fn := Tryd.f4) (c := escrowlaw10_ShelfGets.body) (an := escrowlaw10_ShelfGets.an) Tryd.func4 (by kernel_rfl) (by kernel_rfl) (by kernel_rfl) (drawsOk_of (by kernel_rfl) (by kernel_rfl)) (by simp [Tryd.f4]) (e ▸ h)

/-! #### escrow/escrowlaw10.ShelfKeeps -/
def escrowlaw10_ShelfKeeps.S (a0 a1 a2 a3 : AVal) (G : Heap) (Q : AVal → Heap → Prop) : Prop :=
  aNew G (.own (a0)) fun i1 G2 => aNew G2 (.own (a3)) fun i3 G4 => ACalls P escrowlaw10_first.n [] G4 fun v5 G6 => wv (vun .not v5) fun v7 => brB (some v7)
  (Q (.bool false) G6)
  (wv (vbin T .and t_int a1 (.int .i64 127)) fun v8 => let J115 : AVal → AVal → Heap → Prop := (fun x64 x65 G63 => ∀ R66 : List AVal → Heap → Prop,
  (∀ (x68 x69 x70 : AVal) (G67 : Heap), (wv (vlen T G67 t_sl_api_Hash x69) fun v71 => wv (vbin T .lss t_int x70 v71) fun v72 => brB (some v72)
  (ACalls P shelf_Get.n [x68, x70] G67 fun v73 G74 => wv (vextract v73 0) fun v75 => wv (vextract v73 1) fun v76 => aNew G74 (.own (z_api_Hash)) fun i77 G78 => wg (vstore T G78 t_api_Hash (.ptr i77 [] 0) v75) fun G79 => wv (vload T G79 t_api_Hash (.ptr i77 [] 0)) fun v80 => wv (viaddr T t_sl_api_Hash x69 x70) fun v81 => wv (vload T G79 t_api_Hash v81) fun v82 => wv (vbin T .neq t_api_Hash v80 v82) fun v83 => brB (some v83)
  (Q (.bool false) G79)
  (wv (vbin T .neq t_api_Errno v76 (.int .i64 0)) fun v84 => brB (some v84)
  (Q (.bool false) G79)
  (wv (vbin T .add t_int x70 (.int .i64 1)) fun v89 => R66 [x68, x69, v89] G79)))
  (wv (vlen T G67 t_sl_api_Hash x69) fun v90 => ∀ R91 : List AVal → Heap → Prop,
  (∀ (x93 x94 x95 : AVal) (G92 : Heap), (wv (vlen T G92 t_sl_api_Hash x94) fun v96 => wv (vbin T .add t_int v96 (.int .i64 5)) fun v97 => wv (vbin T .lss t_int x95 v97) fun v98 => brB (some v98)
  (ACalls P shelf_Get.n [x93, x95] G92 fun v99 G100 => wv (vextract v99 0) fun v101 => wv (vextract v99 1) fun v102 => aNew G100 (.own (z_api_Hash)) fun i103 G104 => wg (vstore T G104 t_api_Hash (.ptr i103 [] 0) v101) fun G105 => wv (vbin T .neq t_api_Errno v102 (.int .i64 5)) fun v106 => brB (some v106)
  (Q (.bool false) G105)
  (wv (vload T G105 t_api_Hash (.ptr i103 [] 0)) fun v107 => wv (vbuild T t_api_Hash []) fun v108 => wv (vbin T .neq t_api_Hash v107 v108) fun v109 => brB (some v109)
  (Q (.bool false) G105)
  (wv (vbin T .add t_int x95 (.int .i64 1)) fun v114 => R91 [x93, x94, v114] G105)))
  (Q (.bool true) G92)) → R91 [x93, x94, x95] G92) →
  R91 [x68, x69, v90] G67)) → R66 [x68, x69, x70] G67) →
  R66 [x64, x65, .int .i64 0] G63);
  ∀ R9 : List AVal → Heap → Prop,
  (∀ (x11 x12 x13 x14 x15 x16 x17 x18 : AVal) (G10 : Heap), (wv (vbin T .lss t_int x18 x11) fun v19 => brB (some v19)
  (wv (vload T G10 t_api_Hash x13) fun v20 => ACalls P seed_Secret.n [v20, x18] G10 fun v21 G22 => wv (vextract v21 0) fun v23 => wv (vextract v21 1) fun v24 => aNew G22 (.own (z_api_Hash)) fun i25 G26 => wg (vstore T G26 t_api_Hash (.ptr i25 [] 0) v23) fun G27 => wv (vbin T .neq t_api_Errno v24 (.int .i64 0)) fun v28 => brB (some v28)
  (Q (.bool false) G27)
  (wv (vbin T .eql t_int x18 x12) fun v29 => let J61 : AVal → Heap → Prop := (fun x42 G41 => wv (vload T G41 t_api_Hash (.ptr i25 [] 0)) fun v43 => ACalls P shelf_Put.n [x15, x18, v43] G41 fun v44 G45 => wv (vextract v44 0) fun v46 => wv (vextract v44 1) fun v47 => wv (vbin T .neq t_api_Errno v47 (.int .i64 0)) fun v48 => brB (some v48)
  (brB (some x42)
  (Q (.bool false) G45)
  (wv (vbin T .neq t_api_Errno v47 (.int .i64 100)) fun v49 => brB (some v49)
  (Q (.bool false) G45)
  (wv (vlen T G45 t_sl_api_Slot v46) fun v50 => wv (vbin T .neq t_int v50 (.int .i64 0)) fun v51 => brB (some v51)
  (Q (.bool false) G45)
  (J115 x15 x16 G45))))
  (wv (vlen T G45 t_sl_api_Slot v46) fun v54 => wv (vbin T .neq t_int v54 (.int .i64 49)) fun v55 => brB (some v55)
  (Q (.bool false) G45)
  (wv (vload T G45 t_api_Hash (.ptr i25 [] 0)) fun v56 => aBuildSlice T t_sl_api_Hash 1 [(0, v56)] G45 fun v57 G58 => aAppend T G58 t_sl_api_Hash t_sl_api_Hash x16 v57 fun v59 G60 => wv (vbin T .add t_int x18 (.int .i64 1)) fun v62 => R9 [x11, x12, x13, x14, v46, v59, x42, v62] G60)));
  brB (some v29)
  (brB (some x17)
  (wv (vload T G27 t_api_Hash (.ptr i25 [] 0)) fun v30 => wv (vload T G27 t_api_Hash x14) fun v31 => wv (vbin T .eql t_api_Hash v30 v31) fun v32 => wv (vload T G27 t_api_Hash x14) fun v37 => wg (vstore T G27 t_api_Hash (.ptr i25 [] 0) v37) fun G38 => J61 v32 G38)
  (wv (vload T G27 t_api_Hash x14) fun v39 => wg (vstore T G27 t_api_Hash (.ptr i25 [] 0) v39) fun G40 => J61 (.bool false) G40))
  (J61 x17 G27)))
  (J115 x15 x16 G10)) → R9 [x11, x12, x13, x14, x15, x16, x17, x18] G10) →
  R9 [v8, a2, .ptr i1 [] 0, .ptr i3 [] 0, .nilSlice, .nilSlice, .bool true, .int .i64 0] G6)
def escrowlaw10_ShelfKeeps.an : Ann := .two (.nil) (.two (.nil) (.two (.nil) (.two (.nil) (.two (.nil) (.two (.nil) (.two (.two (.nil) (.loop [1, 2, 4, 7, 9, 10, 11, 12] (.nil))) (.two (.two (.nil) (.loop [9, 10, 17] (.two (.nil) (.two (.two (.nil) (.two (.ord [(0, []), (1, []), (2, []), (3, []), (4, []), (5, []), (6, []), (7, []), (8, []), (9, [])]) (.nil))) (.nil))))) (.two (.two (.nil) (.loop [9, 10, 20] (.nil))) (.nil)))))))))
set_option maxRecDepth 100000 in
theorem escrowlaw10_ShelfKeeps.sound {a0 a1 a2 a3 : AVal} {G : Heap} {Q : AVal → Heap → Prop} (h : escrowlaw10_ShelfKeeps.S a0 a1 a2 a3 G Q) : ACalls P escrowlaw10_ShelfKeeps.n [a0, a1, a2, a3] G Q := by
  have e : escrowlaw10_ShelfKeeps.S a0 a1 a2 a3 G Q = awp cx (escrowlaw10_ShelfKeeps.body) escrowlaw10_ShelfKeeps.an (bodyQ T [.tmp 8] Q) (envL [a0, a1, a2, a3]) G := by kernel_rfl
  exact ACalls_of_awp cxOk (f := escrowlaw10_ShelfKeeps.n) (fn := Tryd.f5) (c := escrowlaw10_ShelfKeeps.body) (an := escrowlaw10_ShelfKeeps.an) Tryd.func5 (by kernel_rfl) (by kernel_rfl) (by kernel_rfl) (drawsOk_of (by kernel_rfl) (by kernel_rfl)) (by simp [Tryd.f5]) (e ▸ h)

/-! #### escrow/escrowlaw10.ShelfAgrees -/
def escrowlaw10_ShelfAgrees.S (a0 a1 a2 : AVal) (G : Heap) (Q : AVal → Heap → Prop) : Prop :=
  aNew G (.own (a2)) fun i1 G2 => ACalls P escrowlaw10_first.n [] G2 fun v3 G4 => wv (vun .not v3) fun v5 => brB (some v5)
  (Q (.bool false) G4)
  (wv (vload T G4 t_api_Hash (.ptr i1 [] 0)) fun v6 => ACalls P shelf_Put.n [a0, a1, v6] G4 fun v7 G8 => wv (vextract v7 0) fun v9 => wv (vextract v7 1) fun v10 => ACalls P seed_Level.n [a1] G8 fun v11 G12 => wv (vextract v11 0) fun v13 => wv (vextract v11 1) fun v14 => wv (vbin T .neq t_api_Errno v10 (.int .i64 0)) fun v15 => brB (some v15)
  (wv (vlen T G12 t_sl_api_Slot v9) fun v16 => wv (vbin T .eql t_int v16 (.int .i64 0)) fun v17 => brB (some v17)
  (wv (vbin T .eql t_api_Errno v10 (.int .i64 1)) fun v18 => wv (vlen T G12 t_sl_api_Slot a0) fun v19 => wv (vbin T .gtr t_int v19 (.int .i64 49)) fun v20 => wv (vbin T .eql t_bool v18 v20) fun v21 => brB (some v21)
  (wv (vbin T .eql t_api_Errno v10 (.int .i64 90)) fun v22 => wv (vlen T G12 t_sl_api_Slot a0) fun v23 => wv (vbin T .leq t_int v23 (.int .i64 49)) fun v24 => brB (some v24)
  (wv (vbin T .neq t_api_Errno v14 (.int .i64 0)) fun v25 => wv (vbin T .eql t_bool v22 v25) fun v26 => brB (some v26)
  (wv (vbin T .eql t_api_Errno v10 (.int .i64 1)) fun v27 => brB (some v27)
  (Q (.bool true) G12)
  (wv (vbin T .eql t_api_Errno v10 (.int .i64 90)) fun v28 => brB (some v28)
  (Q (.bool true) G12)
  (wv (vbin T .eql t_api_Errno v10 (.int .i64 100)) fun v29 => Q v29 G12)))
  (Q (.bool false) G12))
  (wv (vbin T .eql t_bool v22 (.bool false)) fun v30 => brB (some v30)
  (wv (vbin T .eql t_api_Errno v10 (.int .i64 1)) fun v31 => brB (some v31)
  (Q (.bool true) G12)
  (wv (vbin T .eql t_api_Errno v10 (.int .i64 90)) fun v32 => brB (some v32)
  (Q (.bool true) G12)
  (wv (vbin T .eql t_api_Errno v10 (.int .i64 100)) fun v33 => Q v33 G12)))
  (Q (.bool false) G12)))
  (Q (.bool false) G12))
  (Q (.bool false) G12))
  (let J120 : AVal → Heap → Prop := (fun x47 G46 => brB (some x47)
  (Q (.bool false) G46)
  (∀ R48 : List AVal → Heap → Prop,
  (∀ (x50 x51 x52 x53 x54 x55 : AVal) (G49 : Heap), (wv (vbin T .lss t_int x55 (.int .i64 49)) fun v56 => brB (some v56)
  (wv (vbuild T t_api_Slot []) fun v57 => aNew G49 (.own (z_api_Slot)) fun i58 G59 => wg (vstore T G59 t_api_Slot (.ptr i58 [] 0) v57) fun G60 => let J102 : AVal → Heap → Prop := (fun x67 G66 => let J101 : Heap → Prop := (fun G71 => let J100 : AVal → Heap → Prop := (fun x78 G77 => brB (some x78)
  (Q (.bool false) G77)
  (let J99 : AVal → Heap → Prop := (fun x82 G81 => brB (some x82)
  (wv (vload T G81 t_api_Hash x52) fun v83 => wv (vload T G81 t_int64 (.ptr i58 [0] 0)) fun v84 => ACalls P seed_Derive.n [v83, x51, v84] G81 fun v85 G86 => wv (vextract v85 0) fun v87 => wv (vextract v85 1) fun v88 => aNew G86 (.own (z_api_Hash)) fun i89 G90 => wg (vstore T G90 t_api_Hash (.ptr i89 [] 0) v87) fun G91 => wv (vload T G91 t_api_Hash (.ptr i89 [] 0)) fun v92 => wv (vload T G91 t_api_Hash (.ptr i58 [1] 1)) fun v93 => wv (vbin T .neq t_api_Hash v92 v93) fun v94 => brB (some v94)
  (Q (.bool false) G91)
  (wv (vbin T .neq t_api_Errno v88 (.int .i64 0)) fun v95 => brB (some v95)
  (Q (.bool false) G91)
  (wv (vbin T .add t_int x55 (.int .i64 1)) fun v105 => R48 [x50, x51, x52, x53, x54, v105] G91)))
  (wv (vbin T .add t_int x55 (.int .i64 1)) fun v106 => R48 [x50, x51, x52, x53, x54, v106] G81));
  wv (vbin T .lss t_int x55 x54) fun v79 => brB (some v79)
  (wv (vload T G77 t_bool (.ptr i58 [2] 33)) fun v80 => J99 v80 G77)
  (J99 (.bool false) G77)));
  wv (vbin T .neq t_int x55 x54) fun v72 => brB (some v72)
  (wv (viaddr T t_sl_api_Slot x53 x55) fun v73 => wv (vload T G71 t_api_Slot v73) fun v74 => wv (vload T G71 t_api_Slot (.ptr i58 [] 0)) fun v75 => wv (vbin T .neq t_api_Slot v74 v75) fun v76 => J100 v76 G71)
  (J100 (.bool false) G71));
  brB (some x67)
  (wv (viaddr T t_sl_api_Slot x50 x55) fun v68 => wv (vload T G66 t_api_Slot v68) fun v69 => wg (vstore T G66 t_api_Slot (.ptr i58 [] 0) v69) fun G70 => J101 G70)
  (J101 G66));
  wv (vlen T G60 t_sl_api_Slot x50) fun v61 => wv (vbin T .lss t_int x55 v61) fun v62 => brB (some v62)
  (wv (viaddr T t_sl_api_Slot x50 x55) fun v63 => wv (vfaddr T t_api_Slot v63 2) fun v64 => wv (vload T G60 t_bool v64) fun v65 => J102 v65 G60)
  (J102 (.bool false) G60))
  (ACalls P shelf_Get.n [x53, x51] G49 fun v107 G108 => wv (vextract v107 0) fun v109 => wv (vextract v107 1) fun v110 => aNew G108 (.own (z_api_Hash)) fun i111 G112 => wg (vstore T G112 t_api_Hash (.ptr i111 [] 0) v109) fun G113 => wv (vbin T .eql t_api_Errno v110 (.int .i64 0)) fun v114 => brB (some v114)
  (wv (vload T G113 t_api_Hash (.ptr i111 [] 0)) fun v115 => wv (vload T G113 t_api_Hash x52) fun v116 => wv (vbin T .eql t_api_Hash v115 v116) fun v117 => Q v117 G113)
  (Q (.bool false) G113))) → R48 [x50, x51, x52, x53, x54, x55] G49) →
  R48 [a0, a1, .ptr i1 [] 0, v9, v13, .int .i64 0] G46));
  wv (vbin T .neq t_api_Errno v14 (.int .i64 0)) fun v36 => brB (some v36)
  (J120 (.bool true) G12)
  (wv (vlen T G12 t_sl_api_Slot v9) fun v37 => wv (vbin T .neq t_int v37 (.int .i64 49)) fun v38 => brB (some v38)
  (J120 (.bool true) G12)
  (wv (vlen T G12 t_sl_api_Slot a0) fun v39 => wv (vbin T .gtr t_int v39 (.int .i64 49)) fun v40 => brB (some v40)
  (J120 (.bool true) G12)
  (wv (viaddr T t_sl_api_Slot v9 v13) fun v41 => wv (vload T G12 t_api_Slot v41) fun v42 => wv (vload T G12 t_api_Hash (.ptr i1 [] 0)) fun v43 => wv (vbuild T t_api_Slot [(0, a1), (1, v43), (2, .bool true)]) fun v44 => wv (vbin T .neq t_api_Slot v42 v44) fun v45 => J120 v45 G12)))))
def escrowlaw10_ShelfAgrees.an : Ann := .two (.nil) (.two (.nil) (.two (.nil) (.two (.nil) (.two (.nil) (.two (.two (.ord [(0, []), (1, []), (2, []), (3, []), (4, []), (5, []), (6, []), (7, []), (8, []), (9, []), (10, []), (11, []), (12, []), (13, []), (14, []), (15, []), (16, []), (17, []), (18, []), (19, []), (20, []), (21, [])]) (.nil)) (.two (.two (.nil) (.loop [0, 1, 5, 7, 9, 11] (.two (.nil) (.two (.two (.nil) (.two (.nil) (.two (.two (.ord [(0, []), (1, []), (2, []), (3, []), (4, []), (5, []), (6, []), (7, []), (8, []), (9, []), (10, [])]) (.nil)) (.nil)))) (.nil))))) (.nil)))))))
set_option maxRecDepth 100000 in
theorem escrowlaw10_ShelfAgrees.sound {a0 a1 a2 : AVal} {G : Heap} {Q : AVal → Heap → Prop} (h : escrowlaw10_ShelfAgrees.S a0 a1 a2 G Q) : ACalls P escrowlaw10_ShelfAgrees.n [a0, a1, a2] G Q := by
  have e : escrowlaw10_ShelfAgrees.S a0 a1 a2 G Q = awp cx (escrowlaw10_ShelfAgrees.body) escrowlaw10_ShelfAgrees.an (bodyQ T [.tmp 6] Q) (envL [a0, a1, a2]) G := by kernel_rfl
  exact ACalls_of_awp cxOk (f := escrowlaw10_ShelfAgrees.n) (fn := Tryd.f6) (c := escrowlaw10_ShelfAgrees.body) (an := escrowlaw10_ShelfAgrees.an) Tryd.func6 (by kernel_rfl) (by kernel_rfl) (by kernel_rfl) (drawsOk_of (by kernel_rfl) (by kernel_rfl)) (by simp [Tryd.f6]) (e ▸ h)

/-! #### escrow/escrowlaw10.ShelfFew -/
def escrowlaw10_ShelfFew.S (a0 a1 a2 : AVal) (G : Heap) (Q : AVal → Heap → Prop) : Prop :=
  aNew G (.own (a2)) fun i1 G2 => ACalls P escrowlaw10_first.n [] G2 fun v3 G4 => wv (vun .not v3) fun v5 => brB (some v5)
  (Q (.bool false) G4)
  (wv (vbin T .and t_int64 a0 (.int .i64 281474976710655)) fun v6 => wv (vbin T .and t_int64 a1 (.int .i64 281474976710655)) fun v7 => wv (vload T G4 t_api_Hash (.ptr i1 [] 0)) fun v8 => ACalls P shelf_Put.n [.nilSlice, v6, v8] G4 fun v9 G10 => wv (vextract v9 0) fun v11 => wv (vextract v9 1) fun v12 => ACalls P seed_Level.n [v6] G10 fun v13 G14 => wv (vextract v13 0) fun v15 => wv (vextract v13 1) fun v16 => let J35 : AVal → Heap → Prop := (fun x20 G19 => brB (some x20)
  (Q (.bool false) G19)
  (wv (vbin T .sub t_int64 v6 v7) fun v21 => ACalls P shelf_Get.n [v11, v21] G19 fun v22 G23 => wv (vextract v22 0) fun v24 => wv (vextract v22 1) fun v25 => aNew G23 (.own (z_api_Hash)) fun i26 G27 => wg (vstore T G27 t_api_Hash (.ptr i26 [] 0) v24) fun G28 => wv (vbin T .lss t_int64 v6 v7) fun v29 => brB (some v29)
  (wv (vbin T .eql t_api_Errno v25 (.int .i64 90)) fun v30 => Q v30 G28)
  (wv (vbin T .shl t_int64 (.int .i64 1) v15) fun v31 => wv (vbin T .lss t_int64 v7 v31) fun v32 => brB (some v32)
  (wv (vbin T .eql t_api_Errno v25 (.int .i64 0)) fun v33 => Q v33 G28)
  (wv (vbin T .eql t_api_Errno v25 (.int .i64 5)) fun v34 => Q v34 G28))));
  wv (vbin T .neq t_api_Errno v12 (.int .i64 0)) fun v17 => brB (some v17)
  (J35 (.bool true) G14)
  (wv (vbin T .neq t_api_Errno v16 (.int .i64 0)) fun v18 => J35 v18 G14))
def escrowlaw10_ShelfFew.an : Ann := .nil
set_option maxRecDepth 100000 in
theorem escrowlaw10_ShelfFew.sound {a0 a1 a2 : AVal} {G : Heap} {Q : AVal → Heap → Prop} (h : escrowlaw10_ShelfFew.S a0 a1 a2 G Q) : ACalls P escrowlaw10_ShelfFew.n [a0, a1, a2] G Q := by
  have e : escrowlaw10_ShelfFew.S a0 a1 a2 G Q = awp cx (escrowlaw10_ShelfFew.body) escrowlaw10_ShelfFew.an (bodyQ T [.tmp 6] Q) (envL [a0, a1, a2]) G := by kernel_rfl
  exact ACalls_of_awp cxOk (f := escrowlaw10_ShelfFew.n) (fn := Tryd.f7) (c := escrowlaw10_ShelfFew.body) (an := escrowlaw10_ShelfFew.an) Tryd.func7 (by kernel_rfl) (by kernel_rfl) (by kernel_rfl) (drawsOk_of (by kernel_rfl) (by kernel_rfl)) (by simp [Tryd.f7]) (e ▸ h)

end Go.Esc.M
