/- Printed by gen.py (own work): functions of the program YtbckpbdamfhehaaGreatDoor over trees and the abstract heap. -/
import Derived.Test.YtbckpbdamfhehaaGreatDoorT
set_option linter.unusedSimpArgs false
set_option linter.unusedVariables false
namespace Go.Esc.M
open Go Go.Esc Go.Proofs

/-! #### escrow/hash.turned -/
def hash_turned.S (a0 a1 a2 : AVal) (G : Heap) (Q : AVal → Heap → Prop) : Prop :=
  aNew G (.own (a0)) fun i1 G2 => aNew G2 (.own (z_ar8_uint32)) fun i3 G4 => wv (vload T G4 t_ar8_uint32 (.ptr i1 [] 0)) fun v5 => ACalls P hash_schedule.n [a1] G4 fun v6 G7 => (vload T G7 t_ar8_uint32 (.ptr i1 [] 0) = some v5 ∧ True) ∧ (aNew G7 (.own (z_ar64_uint32)) fun i8 G9 => aNew G9 (.own (z_ar8_uint32)) fun i10 G11 => wg (vstore T G11 t_ar64_uint32 (.ptr i8 [] 0) v6) fun G12 => (vload T G12 t_ar8_uint32 (.ptr i1 [] 0) = some v5 ∧ True) ∧ (wg (vstore T G12 t_ar8_uint32 (.ptr i10 [] 0) v5) fun G13 => ∀ R14 : List AVal → Heap → Prop,
  (∀ (x16 x17 x18 x19 x20 x21 : AVal) (G15 : Heap), (wv (vbin T .lss t_int x21 (.int .i64 64)) fun v22 => brB (some v22)
  (wv (viaddr T t_ar8_uint32 x20 (.int .i64 4)) fun v23 => wv (vload T G15 t_uint32 v23) fun v24 => wv (viaddr T t_ar8_uint32 x20 (.int .i64 0)) fun v25 => wv (vload T G15 t_uint32 v25) fun v26 => wv (viaddr T t_ar8_uint32 x20 (.int .i64 7)) fun v27 => wv (vload T G15 t_uint32 v27) fun v28 => wv (viaddr T t_ar8_uint32 x20 (.int .i64 5)) fun v29 => wv (vload T G15 t_uint32 v29) fun v30 => wv (vbin T .and t_uint32 v24 v30) fun v31 => wv (vun .xor v24) fun v32 => wv (viaddr T t_ar8_uint32 x20 (.int .i64 6)) fun v33 => wv (vload T G15 t_uint32 v33) fun v34 => wv (vbin T .and t_uint32 v32 v34) fun v35 => wv (vbin T .xor t_uint32 v31 v35) fun v36 => wv (vnil x16) fun v37 => wv (viaddr T t_ar64_uint32 v37 x21) fun v38 => wv (vload T G15 t_uint32 v38) fun v39 => wv (viaddr T t_ar64_uint32 x19 x21) fun v40 => wv (vload T G15 t_uint32 v40) fun v41 => ACalls P bits_RotateLeft32.n [v24, .int .i64 (-6)] G15 fun v42 G43 => (vload T G43 t_uint32 v40 = some v41 ∧ vload T G43 t_uint32 v38 = some v39 ∧ vload T G43 t_uint32 v33 = some v34 ∧ vload T G43 t_uint32 v29 = some v30 ∧ vload T G43 t_uint32 v27 = some v28 ∧ True) ∧ (ACalls P bits_RotateLeft32.n [v24, .int .i64 (-11)] G43 fun v44 G45 => (vload T G45 t_uint32 v40 = some v41 ∧ vload T G45 t_uint32 v38 = some v39 ∧ vload T G45 t_uint32 v33 = some v34 ∧ vload T G45 t_uint32 v29 = some v30 ∧ vload T G45 t_uint32 v27 = some v28 ∧ True) ∧ (wv (vbin T .xor t_uint32 v42 v44) fun v46 => ACalls P bits_RotateLeft32.n [v24, .int .i64 (-25)] G45 fun v47 G48 => (vload T G48 t_uint32 v40 = some v41 ∧ vload T G48 t_uint32 v38 = some v39 ∧ vload T G48 t_uint32 v33 = some v34 ∧ vload T G48 t_uint32 v29 = some v30 ∧ vload T G48 t_uint32 v27 = some v28 ∧ True) ∧ (wv (vbin T .xor t_uint32 v46 v47) fun v49 => wv (vbin T .add t_uint32 v28 v49) fun v50 => wv (vbin T .add t_uint32 v50 v36) fun v51 => wv (vbin T .add t_uint32 v51 v39) fun v52 => wv (vbin T .add t_uint32 v52 v41) fun v53 => wv (viaddr T t_ar8_uint32 x20 (.int .i64 1)) fun v54 => wv (vload T G48 t_uint32 v54) fun v55 => wv (vbin T .and t_uint32 v26 v55) fun v56 => wv (viaddr T t_ar8_uint32 x20 (.int .i64 2)) fun v57 => wv (vload T G48 t_uint32 v57) fun v58 => wv (vbin T .and t_uint32 v26 v58) fun v59 => wv (vbin T .xor t_uint32 v56 v59) fun v60 => wv (viaddr T t_ar8_uint32 x20 (.int .i64 1)) fun v61 => wv (vload T G48 t_uint32 v61) fun v62 => wv (viaddr T t_ar8_uint32 x20 (.int .i64 2)) fun v63 => wv (vload T G48 t_uint32 v63) fun v64 => wv (vbin T .and t_uint32 v62 v64) fun v65 => wv (vbin T .xor t_uint32 v60 v65) fun v66 => ACalls P bits_RotateLeft32.n [v26, .int .i64 (-2)] G48 fun v67 G68 => (vload T G68 t_uint32 v63 = some v64 ∧ vload T G68 t_uint32 v61 = some v62 ∧ vload T G68 t_uint32 v57 = some v58 ∧ vload T G68 t_uint32 v54 = some v55 ∧ True) ∧ (ACalls P bits_RotateLeft32.n [v26, .int .i64 (-13)] G68 fun v69 G70 => (vload T G70 t_uint32 v63 = some v64 ∧ vload T G70 t_uint32 v61 = some v62 ∧ vload T G70 t_uint32 v57 = some v58 ∧ vload T G70 t_uint32 v54 = some v55 ∧ True) ∧ (wv (vbin T .xor t_uint32 v67 v69) fun v71 => ACalls P bits_RotateLeft32.n [v26, .int .i64 (-22)] G70 fun v72 G73 => (vload T G73 t_uint32 v63 = some v64 ∧ vload T G73 t_uint32 v61 = some v62 ∧ vload T G73 t_uint32 v57 = some v58 ∧ vload T G73 t_uint32 v54 = some v55 ∧ True) ∧ (wv (vbin T .xor t_uint32 v71 v72) fun v74 => wv (vbin T .add t_uint32 v74 v66) fun v75 => wv (vbin T .add t_uint32 v53 v75) fun v76 => wv (viaddr T t_ar8_uint32 x20 (.int .i64 1)) fun v77 => wv (vload T G73 t_uint32 v77) fun v78 => wv (viaddr T t_ar8_uint32 x20 (.int .i64 2)) fun v79 => wv (vload T G73 t_uint32 v79) fun v80 => wv (viaddr T t_ar8_uint32 x20 (.int .i64 3)) fun v81 => wv (vload T G73 t_uint32 v81) fun v82 => wv (vbin T .add t_uint32 v82 v53) fun v83 => wv (viaddr T t_ar8_uint32 x20 (.int .i64 5)) fun v84 => wv (vload T G73 t_uint32 v84) fun v85 => wv (viaddr T t_ar8_uint32 x20 (.int .i64 6)) fun v86 => wv (vload T G73 t_uint32 v86) fun v87 => wv (vbuild T t_ar8_uint32 [(0, v76), (1, v26), (2, v78), (3, v80), (4, v83), (5, v24), (6, v85), (7, v87)]) fun v88 => wg (vstore T G73 t_ar8_uint32 x20 v88) fun G89 => wv (vbin T .add t_int x21 (.int .i64 1)) fun v90 => R14 [x16, x17, x18, x19, x20, v90] G89)))))))
  (∀ R91 : List AVal → Heap → Prop,
  (∀ (x93 x94 x95 x96 : AVal) (G92 : Heap), (wv (vbin T .lss t_int x96 (.int .i64 8)) fun v97 => brB (some v97)
  (wv (viaddr T t_ar8_uint32 x95 x96) fun v98 => wv (vload T G92 t_uint32 v98) fun v99 => wv (viaddr T t_ar8_uint32 x93 x96) fun v100 => wv (vload T G92 t_uint32 v100) fun v101 => wv (vbin T .add t_uint32 v99 v101) fun v102 => wv (viaddr T t_ar8_uint32 x95 x96) fun v103 => wg (vstore T G92 t_uint32 v103 v102) fun G104 => wv (vbin T .add t_int x96 (.int .i64 1)) fun v105 => R91 [x93, x94, x95, v105] G104)
  (wv (vload T G92 t_ar8_uint32 x95) fun v106 => wg (vstore T G92 t_ar8_uint32 x94 v106) fun G107 => wv (vload T G107 t_ar8_uint32 x94) fun v108 => Q v108 G107)) → R91 [x93, x94, x95, x96] G92) →
  R91 [x17, x18, x20, .int .i64 0] G15)) → R14 [x16, x17, x18, x19, x20, x21] G15) →
  R14 [a2, .ptr i1 [] 0, .ptr i3 [] 0, .ptr i8 [] 0, .ptr i10 [] 0, .int .i64 0] G13))
def hash_turned.an : Ann := .two (.nil) (.two (.ord [(0, []), (2, []), (1, [2]), (3, []), (4, []), (5, [2]), (6, [])]) (.two (.two (.nil) (.loop [2, 3, 6, 7, 8, 18] [false, false, false, false, false, false] (.two (.nil) (.two (.nil) (.two (.two (.nil) (.two (.ord [(0, []), (1, []), (2, []), (3, []), (4, []), (5, [])]) (.two (.ord [(0, []), (1, []), (2, []), (4, []), (7, []), (11, []), (12, []), (13, []), (14, []), (15, []), (16, []), (17, []), (18, []), (19, []), (20, []), (22, []), (23, []), (24, []), (25, []), (26, []), (28, []), (29, []), (30, []), (3, [1, 13, 18, 26, 30]), (5, [1, 13, 18, 26, 30]), (6, []), (8, [1, 13, 18, 26, 30]), (9, []), (10, []), (21, []), (27, []), (31, []), (32, [])]) (.two (.ord [(0, []), (2, []), (5, []), (8, []), (9, []), (10, []), (11, []), (12, []), (13, []), (14, []), (15, []), (16, []), (17, []), (18, []), (19, []), (20, []), (21, []), (22, []), (1, [10, 14, 18, 20]), (3, [10, 14, 18, 20]), (4, []), (6, [10, 14, 18, 20]), (7, []), (23, []), (24, [])]) (.nil))))) (.nil)))))) (.two (.two (.nil) (.loop [3, 6, 8, 100] [false, false, false, false] (.two (.nil) (.two (.nil) (.two (.two (.nil) (.ord [(0, []), (1, []), (2, []), (3, []), (4, []), (5, []), (6, []), (7, []), (8, [])])) (.nil)))))) (.nil))))
set_option maxRecDepth 100000 in
theorem hash_turned.sound {a0 a1 a2 : AVal} {G : Heap} {Q : AVal → Heap → Prop} (h : hash_turned.S a0 a1 a2 G Q) : ACalls P hash_turned.n [a0, a1, a2] G Q := by
  have e : hash_turned.S a0 a1 a2 G Q = awp cx (hash_turned.body) hash_turned.an (bodyQ T [.cell 6 148] Q) (envL [a0, a1, a2]) G := by kernel_rfl
  exact ACalls_of_awp cxOk (f := hash_turned.n) (fn := Tryz.f90) (c := hash_turned.body) (an := hash_turned.an) Tryz.func90 (by kernel_rfl) (by kernel_rfl) (by kernel_rfl) (drawsOk_of (by kernel_rfl) (by kernel_rfl)) (by simp [Tryz.f90]) (e ▸ h)

/-! #### escrow/hash.Sum -/
def hash_Sum.S (a0 : AVal) (G : Heap) (Q : AVal → Heap → Prop) : Prop :=
  aNew G (.own (z_api_Hash)) fun i1 G2 => ACalls P strings_Join.n [a0, .str []] G2 fun v3 G4 => wv (vlen T G4 t_string v3) fun v5 => aBuildSlice T t_sl_uint8 1 [(0, .int .u8 128)] G4 fun v6 G7 => ∀ R8 : List AVal → Heap → Prop,
  (∀ (x10 x11 x12 x13 : AVal) (G9 : Heap), (wv (vlen T G9 t_sl_uint8 x13) fun v14 => wv (vbin T .add t_int x12 v14) fun v15 => wv (vbin T .rem t_int v15 (.int .i64 64)) fun v16 => wv (vbin T .neq t_int v16 (.int .i64 56)) fun v17 => brB (some v17)
  (aBuildSlice T t_sl_uint8 1 [(0, .int .u8 0)] G9 fun v18 G19 => aAppend T G19 t_sl_uint8 t_sl_uint8 x13 v18 fun v20 G21 => R8 [x10, x11, x12, v20] G21)
  (∀ R22 : List AVal → Heap → Prop,
  (∀ (x24 x25 x26 x27 x28 : AVal) (G23 : Heap), (wv (vbin T .lss t_int x28 (.int .i64 8)) fun v29 => brB (some v29)
  (wv (vbin T .mul t_int (.int .i64 8) x26) fun v30 => wv (vconv T G23 t_int t_uint64 v30) fun v31 => wv (vbin T .mul t_int (.int .i64 8) x28) fun v32 => wv (vbin T .sub t_int (.int .i64 56) v32) fun v33 => wv (vbin T .shr t_uint64 v31 v33) fun v34 => wv (vconv T G23 t_uint64 t_uint8 v34) fun v35 => aBuildSlice T t_sl_uint8 1 [(0, v35)] G23 fun v36 G37 => aAppend T G37 t_sl_uint8 t_sl_uint8 x27 v36 fun v38 G39 => wv (vbin T .add t_int x28 (.int .i64 1)) fun v40 => R22 [x24, x25, x26, v38, v40] G39)
  (wv (vconv T G23 t_sl_uint8 t_string x27) fun v41 => wv (vbin T .add t_string x25 v41) fun v42 => wv (vbuild T t_ar8_uint32 [(0, .int .u32 1779033703), (1, .int .u32 3144134277), (2, .int .u32 1013904242), (3, .int .u32 2773480762), (4, .int .u32 1359893119), (5, .int .u32 2600822924), (6, .int .u32 528734635), (7, .int .u32 1541459225)]) fun v43 => aNew G23 (.own (z_ar8_uint32)) fun i44 G45 => wg (vstore T G45 t_ar8_uint32 (.ptr i44 [] 0) v43) fun G46 => ACalls P hash_constants.n [] G46 fun v47 G48 => aNew G48 (.own (z_ar64_uint32)) fun i49 G50 => wg (vstore T G50 t_ar64_uint32 (.ptr i49 [] 0) v47) fun G51 => ∀ R52 : List AVal → Heap → Prop,
  (∀ (x54 x55 x56 x57 : AVal) (G53 : Heap), (wv (vbin T .neq t_string x55 (.str [])) fun v58 => brB (some v58)
  (wv (vload T G53 t_ar8_uint32 x56) fun v59 => wv (vslice T t_string x55 none (some (.int .i64 64)) none) fun v60 => ACalls P hash_turned.n [v59, v60, x57] G53 fun v61 G62 => wg (vstore T G62 t_ar8_uint32 x56 v61) fun G63 => wv (vslice T t_string x55 (some (.int .i64 64)) none none) fun v64 => R52 [x54, v64, x56, x57] G63)
  (aNew G53 (.own (z_api_Hash)) fun i65 G66 => ∀ R67 : List AVal → Heap → Prop,
  (∀ (x69 x70 x71 x72 : AVal) (G68 : Heap), (wv (vbin T .lss t_int x72 (.int .i64 32)) fun v73 => brB (some v73)
  (wv (vbin T .quo t_int x72 (.int .i64 4)) fun v74 => wv (viaddr T t_ar8_uint32 x70 v74) fun v75 => wv (vload T G68 t_uint32 v75) fun v76 => wv (vbin T .rem t_int x72 (.int .i64 4)) fun v77 => wv (vbin T .mul t_int (.int .i64 8) v77) fun v78 => wv (vbin T .sub t_int (.int .i64 24) v78) fun v79 => wv (vbin T .shr t_uint32 v76 v79) fun v80 => wv (vconv T G68 t_uint32 t_uint8 v80) fun v81 => wv (viaddr T t_api_Hash x71 x72) fun v82 => wg (vstore T G68 t_uint8 v82 v81) fun G83 => wv (vbin T .add t_int x72 (.int .i64 1)) fun v84 => R67 [x69, x70, x71, v84] G83)
  (wv (vload T G68 t_api_Hash x71) fun v85 => wg (vstore T G68 t_api_Hash x69 v85) fun G86 => wv (vload T G86 t_api_Hash x69) fun v87 => Q v87 G86)) → R67 [x69, x70, x71, x72] G68) →
  R67 [x54, x56, .ptr i65 [] 0, .int .i64 0] G66)) → R52 [x54, x55, x56, x57] G53) →
  R52 [x24, v42, .ptr i44 [] 0, .ptr i49 [] 0] G51)) → R22 [x24, x25, x26, x27, x28] G23) →
  R22 [x10, x11, x12, x13, .int .i64 0] G9)) → R8 [x10, x11, x12, x13] G9) →
  R8 [.ptr i1 [] 0, v3, v5, v6] G7
def hash_Sum.an : Ann := .two (.nil) (.two (.nil) (.two (.nil) (.two (.nil) (.two (.loop [2, 3, 4, 5] [false, false, false, false] (.nil)) (.two (.two (.nil) (.loop [2, 3, 4, 5, 25] [false, false, false, false, false] (.nil))) (.two (.nil) (.two (.nil) (.two (.nil) (.two (.loop [2, 3, 7, 8] [false, false, false, false] (.two (.nil) (.two (.ord [(0, []), (1, []), (2, []), (3, []), (4, [])]) (.nil)))) (.two (.nil) (.two (.two (.nil) (.loop [2, 7, 9, 54] [false, false, false, false] (.nil))) (.nil))))))))))))
set_option maxRecDepth 100000 in
theorem hash_Sum.sound {a0 : AVal} {G : Heap} {Q : AVal → Heap → Prop} (h : hash_Sum.S a0 G Q) : ACalls P hash_Sum.n [a0] G Q := by
  have e : hash_Sum.S a0 G Q = awp cx (hash_Sum.body) hash_Sum.an (bodyQ T [.cell 2 23] Q) (envL [a0]) G := by kernel_rfl
  exact ACalls_of_awp cxOk (f := hash_Sum.n) (fn := Tryz.f69) (c := hash_Sum.body) (an := hash_Sum.an) Tryz.func69 (by kernel_rfl) (by kernel_rfl) (by kernel_rfl) (drawsOk_of (by kernel_rfl) (by kernel_rfl)) (by simp [Tryz.f69]) (e ▸ h)

/-! #### escrow/seed.Point -/
def seed_Point.S (a0 : AVal) (G : Heap) (Q : AVal → Heap → Prop) : Prop :=
  aNew G (.own (a0)) fun i1 G2 => aNew G2 (.own (z_api_Hash)) fun i3 G4 => wv (vslice T t_api_Hash (.ptr i1 [] 0) none none none) fun v5 => wv (vconv T G4 t_sl_uint8 t_string v5) fun v6 => aBuildSlice T t_sl_string 1 [(0, v6)] G4 fun v7 G8 => ACalls P hash_Sum.n [v7] G8 fun v9 G10 => wg (vstore T G10 t_api_Hash (.ptr i3 [] 0) v9) fun G11 => wv (vload T G11 t_api_Hash (.ptr i3 [] 0)) fun v12 => Q v12 G11
def seed_Point.an : Ann := .nil
set_option maxRecDepth 100000 in
theorem seed_Point.sound {a0 : AVal} {G : Heap} {Q : AVal → Heap → Prop} (h : seed_Point.S a0 G Q) : ACalls P seed_Point.n [a0] G Q := by
  have e : seed_Point.S a0 G Q = awp cx (seed_Point.body) seed_Point.an (bodyQ T [.cell 2 23] Q) (envL [a0]) G := by kernel_rfl
  exact ACalls_of_awp cxOk (f := seed_Point.n) (fn := Tryz.f40) (c := seed_Point.body) (an := seed_Point.an) Tryz.func40 (by kernel_rfl) (by kernel_rfl) (by kernel_rfl) (drawsOk_of (by kernel_rfl) (by kernel_rfl)) (by simp [Tryz.f40]) (e ▸ h)

/-! #### escrow/seed.down -/
def seed_down.S (a0 a1 a2 : AVal) (G : Heap) (Q : AVal → Heap → Prop) : Prop :=
  aNew G (.own (a0)) fun i1 G2 => aNew G2 (.own (z_api_Hash)) fun i3 G4 => ∀ R5 : List AVal → Heap → Prop,
  (∀ (x7 x8 x9 x10 x11 x12 : AVal) (G6 : Heap), (wv (vbin T .lss t_int x12 x11) fun v13 => brB (some v13)
  (wv (vbin T .sub t_int x8 (.int .i64 1)) fun v14 => wv (vbin T .sub t_int v14 x12) fun v15 => wv (vbin T .shr t_int64 x7 v15) fun v16 => wv (vbin T .and t_int64 v16 (.int .i64 1)) fun v17 => wv (vbin T .eql t_int64 v17 (.int .i64 1)) fun v18 => brB (some v18)
  (wv (vbin T .quo t_int v15 (.int .i64 8)) fun v19 => wv (viaddr T t_api_Hash x9 v19) fun v20 => wv (vload T G6 t_uint8 v20) fun v21 => wv (vbin T .rem t_int v15 (.int .i64 8)) fun v22 => wv (vbin T .shl t_uint8 (.int .u8 1) v22) fun v23 => wv (vbin T .xor t_uint8 v21 v23) fun v24 => wv (viaddr T t_api_Hash x9 v19) fun v25 => wg (vstore T G6 t_uint8 v25 v24) fun G26 => wv (vload T G26 t_api_Hash x9) fun v27 => ACalls P seed_Point.n [v27] G26 fun v28 G29 => wg (vstore T G29 t_api_Hash x9 v28) fun G30 => wv (vbin T .add t_int x12 (.int .i64 1)) fun v34 => R5 [x7, x8, x9, x10, x11, v34] G30)
  (wv (vbin T .add t_int x12 (.int .i64 1)) fun v35 => R5 [x7, x8, x9, x10, x11, v35] G6))
  (wv (vload T G6 t_api_Hash x9) fun v36 => wg (vstore T G6 t_api_Hash x10 v36) fun G37 => wv (vload T G37 t_api_Hash x10) fun v38 => Q v38 G37)) → R5 [x7, x8, x9, x10, x11, x12] G6) →
  R5 [a1, a2, .ptr i1 [] 0, .ptr i3 [] 0, a2, .int .i64 0] G4
def seed_down.an : Ann := .two (.nil) (.two (.two (.nil) (.loop [1, 2, 3, 6, 9, 10] [false, false, false, false, false, false] (.two (.nil) (.two (.nil) (.two (.two (.nil) (.two (.nil) (.two (.nil) (.two (.two (.ord [(0, []), (1, []), (2, []), (3, []), (4, []), (5, []), (6, []), (7, []), (8, []), (9, [])]) (.nil)) (.nil))))) (.nil)))))) (.nil))
set_option maxRecDepth 100000 in
theorem seed_down.sound {a0 a1 a2 : AVal} {G : Heap} {Q : AVal → Heap → Prop} (h : seed_down.S a0 a1 a2 G Q) : ACalls P seed_down.n [a0, a1, a2] G Q := by
  have e : seed_down.S a0 a1 a2 G Q = awp cx (seed_down.body) seed_down.an (bodyQ T [.cell 6 23] Q) (envL [a0, a1, a2]) G := by kernel_rfl
  exact ACalls_of_awp cxOk (f := seed_down.n) (fn := Tryz.f72) (c := seed_down.body) (an := seed_down.an) Tryz.func72 (by kernel_rfl) (by kernel_rfl) (by kernel_rfl) (drawsOk_of (by kernel_rfl) (by kernel_rfl)) (by simp [Tryz.f72]) (e ▸ h)

/-! #### escrow/seed.place -/
def seed_place.S (a0 : AVal) (G : Heap) (Q : AVal → Heap → Prop) : Prop :=
  wv (vbin T .sub t_int64 (.int .i64 281474976710655) a0) fun v1 => Q v1 G
def seed_place.an : Ann := .nil
set_option maxRecDepth 100000 in
theorem seed_place.sound {a0 : AVal} {G : Heap} {Q : AVal → Heap → Prop} (h : seed_place.S a0 G Q) : ACalls P seed_place.n [a0] G Q := by
  have e : seed_place.S a0 G Q = awp cx (seed_place.body) seed_place.an (bodyQ T [.tmp 2] Q) (envL [a0]) G := by kernel_rfl
  exact ACalls_of_awp cxOk (f := seed_place.n) (fn := Tryz.f73) (c := seed_place.body) (an := seed_place.an) Tryz.func73 (by kernel_rfl) (by kernel_rfl) (by kernel_rfl) (drawsOk_of (by kernel_rfl) (by kernel_rfl)) (by simp [Tryz.f73]) (e ▸ h)

/-! #### escrow/seed.Secret -/
def seed_Secret.S (a0 a1 : AVal) (G : Heap) (Q : AVal → Heap → Prop) : Prop :=
  aNew G (.own (a0)) fun i1 G2 => aNew G2 (.own (z_api_Hash)) fun i3 G4 => ACalls P seed_right.n [a1] G4 fun v5 G6 => wv (vun .not v5) fun v7 => brB (some v7)
  (wv (vbuild T t_api_Hash []) fun v8 => wg (vstore T G6 t_api_Hash (.ptr i3 [] 0) v8) fun G9 => wv (vload T G9 t_api_Hash (.ptr i3 [] 0)) fun v10 => Q (.tuple [v10, .int .i64 90]) G9)
  (wv (vload T G6 t_api_Hash (.ptr i1 [] 0)) fun v11 => ACalls P seed_place.n [a1] G6 fun v12 G13 => (vload T G13 t_api_Hash (.ptr i1 [] 0) = some v11 ∧ True) ∧ (ACalls P seed_down.n [v11, v12, .int .i64 48] G13 fun v14 G15 => wg (vstore T G15 t_api_Hash (.ptr i3 [] 0) v14) fun G16 => wv (vload T G16 t_api_Hash (.ptr i3 [] 0)) fun v17 => Q (.tuple [v17, .int .i64 0]) G16))
def seed_Secret.an : Ann := .two (.nil) (.two (.nil) (.two (.ord [(0, []), (1, []), (2, [0]), (3, []), (4, []), (5, [])]) (.nil)))
set_option maxRecDepth 100000 in
theorem seed_Secret.sound {a0 a1 : AVal} {G : Heap} {Q : AVal → Heap → Prop} (h : seed_Secret.S a0 a1 G Q) : ACalls P seed_Secret.n [a0, a1] G Q := by
  have e : seed_Secret.S a0 a1 G Q = awp cx (seed_Secret.body) seed_Secret.an (bodyQ T [.cell 4 23, .tmp 5] Q) (envL [a0, a1]) G := by kernel_rfl
  exact ACalls_of_awp cxOk (f := seed_Secret.n) (fn := Tryz.f39) (c := seed_Secret.body) (an := seed_Secret.an) Tryz.func39 (by kernel_rfl) (by kernel_rfl) (by kernel_rfl) (drawsOk_of (by kernel_rfl) (by kernel_rfl)) (by simp [Tryz.f39]) (e ▸ h)

/-! #### escrow/dance.own -/
def dance_own.S (a0 a1 a2 a3 : AVal) (G : Heap) (Q : AVal → Heap → Prop) : Prop :=
  aNew G (.own (a0)) fun i1 G2 => aNew G2 (.own (a1)) fun i3 G4 => aNew G4 (.own (a3)) fun i5 G6 => wv (vload T G6 t_api_Hash (.ptr i1 [3] 3)) fun v7 => ACalls P seed_Secret.n [v7, a2] G6 fun v8 G9 => wv (vextract v8 0) fun v10 => wv (vextract v8 1) fun v11 => aNew G9 (.own (z_api_Hash)) fun i12 G13 => wg (vstore T G13 t_api_Hash (.ptr i12 [] 0) v10) fun G14 => wv (vbin T .neq t_api_Errno v11 (.int .i64 0)) fun v15 => brB (some v15)
  (Q (.tuple [.str [], .bool false]) G14)
  (wv (vload T G14 t_int64 (.ptr i3 [2] 2)) fun v16 => wv (vload T G14 t_int64 (.ptr i3 [3] 3)) fun v17 => wv (vload T G14 t_sl_api_Update (.ptr i3 [4] 4)) fun v18 => wv (vload T G14 t_sl_api_Update (.ptr i3 [5] 5)) fun v19 => wv (vload T G14 t_api_Counts (.ptr i5 [] 0)) fun v20 => ACalls P ledger_Fold.n [v16, v17, v18, v19, v20] G14 fun v21 G22 => wv (vextract v21 0) fun v23 => wv (vextract v21 1) fun v24 => aNew G22 (.own (z_api_Ledger)) fun i25 G26 => wg (vstore T G26 t_api_Ledger (.ptr i25 [] 0) v23) fun G27 => wv (vbin T .neq t_api_Errno v24 (.int .i64 0)) fun v28 => brB (some v28)
  (Q (.tuple [.str [], .bool false]) G27)
  (wv (vload T G27 t_int (.ptr i3 [0] 0)) fun v29 => wv (vload T G27 t_api_Hash (.ptr i12 [] 0)) fun v30 => wv (vload T G27 t_api_Ledger (.ptr i25 [] 0)) fun v31 => ACalls P seed_Point.n [v30] G27 fun v32 G33 => (vload T G33 t_api_Ledger (.ptr i25 [] 0) = some v31 ∧ vload T G33 t_int (.ptr i3 [0] 0) = some v29 ∧ True) ∧ (ACalls P commit_Text.n [v29, a2, v32, v31] G33 fun v34 G35 => wv (vextract v34 0) fun v36 => wv (vextract v34 1) fun v37 => wv (vbin T .eql t_api_Errno v37 (.int .i64 0)) fun v38 => Q (.tuple [v36, v38]) G35)))
def dance_own.an : Ann := .two (.nil) (.two (.nil) (.two (.nil) (.two (.nil) (.two (.nil) (.two (.ord [(0, []), (1, []), (2, []), (3, []), (5, []), (4, [1, 5]), (6, []), (7, []), (8, []), (9, []), (10, []), (11, [])]) (.nil))))))
set_option maxRecDepth 100000 in
theorem dance_own.sound {a0 a1 a2 a3 : AVal} {G : Heap} {Q : AVal → Heap → Prop} (h : dance_own.S a0 a1 a2 a3 G Q) : ACalls P dance_own.n [a0, a1, a2, a3] G Q := by
  have e : dance_own.S a0 a1 a2 a3 G Q = awp cx (dance_own.body) dance_own.an (bodyQ T [.tmp 8, .tmp 9] Q) (envL [a0, a1, a2, a3]) G := by kernel_rfl
  exact ACalls_of_awp cxOk (f := dance_own.n) (fn := Tryz.f36) (c := dance_own.body) (an := dance_own.an) Tryz.func36 (by kernel_rfl) (by kernel_rfl) (by kernel_rfl) (drawsOk_of (by kernel_rfl) (by kernel_rfl)) (by simp [Tryz.f36]) (e ▸ h)

/-! #### escrow/hash.over -/
def hash_over.S (a0 a1 : AVal) (G : Heap) (Q : AVal → Heap → Prop) : Prop :=
  aNew G (.own (a0)) fun i1 G2 => aNew G2 (.own (z_ar64_uint8)) fun i3 G4 => wv (vslice T t_ar64_uint8 (.ptr i3 [] 0) none none none) fun v5 => wv (vslice T t_api_Hash (.ptr i1 [] 0) none none none) fun v6 => aCopy T G4 t_sl_uint8 v5 v6 fun v7 G8 => ∀ R9 : List AVal → Heap → Prop,
  (∀ (x11 x12 x13 : AVal) (G10 : Heap), (wv (vbin T .lss t_int x13 (.int .i64 64)) fun v14 => brB (some v14)
  (wv (viaddr T t_ar64_uint8 x12 x13) fun v15 => wv (vload T G10 t_uint8 v15) fun v16 => wv (vbin T .xor t_uint8 v16 x11) fun v17 => wv (viaddr T t_ar64_uint8 x12 x13) fun v18 => wg (vstore T G10 t_uint8 v18 v17) fun G19 => wv (vbin T .add t_int x13 (.int .i64 1)) fun v20 => R9 [x11, x12, v20] G19)
  (wv (vslice T t_ar64_uint8 x12 none none none) fun v21 => wv (vconv T G10 t_sl_uint8 t_string v21) fun v22 => Q v22 G10)) → R9 [x11, x12, x13] G10) →
  R9 [a1, .ptr i3 [] 0, .int .i64 0] G8
def hash_over.an : Ann := .two (.nil) (.two (.nil) (.two (.ord [(0, []), (1, []), (2, [])]) (.two (.two (.nil) (.loop [1, 5, 10] [false, false, false] (.nil))) (.nil))))
set_option maxRecDepth 100000 in
theorem hash_over.sound {a0 a1 : AVal} {G : Heap} {Q : AVal → Heap → Prop} (h : hash_over.S a0 a1 G Q) : ACalls P hash_over.n [a0, a1] G Q := by
  have e : hash_over.S a0 a1 G Q = awp cx (hash_over.body) hash_over.an (bodyQ T [.tmp 4] Q) (envL [a0, a1]) G := by kernel_rfl
  exact ACalls_of_awp cxOk (f := hash_over.n) (fn := Tryz.f87) (c := hash_over.body) (an := hash_over.an) Tryz.func87 (by kernel_rfl) (by kernel_rfl) (by kernel_rfl) (drawsOk_of (by kernel_rfl) (by kernel_rfl)) (by simp [Tryz.f87]) (e ▸ h)

/-! #### escrow/hash.Mac -/
def hash_Mac.S (a0 a1 : AVal) (G : Heap) (Q : AVal → Heap → Prop) : Prop :=
  aNew G (.own (a0)) fun i1 G2 => aNew G2 (.own (z_api_Hash)) fun i3 G4 => wv (vload T G4 t_api_Hash (.ptr i1 [] 0)) fun v5 => ACalls P hash_over.n [v5, .int .u8 54] G4 fun v6 G7 => aBuildSlice T t_sl_string 2 [(0, v6), (1, a1)] G7 fun v8 G9 => ACalls P hash_Sum.n [v8] G9 fun v10 G11 => aNew G11 (.own (z_api_Hash)) fun i12 G13 => wg (vstore T G13 t_api_Hash (.ptr i12 [] 0) v10) fun G14 => wv (vload T G14 t_api_Hash (.ptr i1 [] 0)) fun v15 => wv (vslice T t_api_Hash (.ptr i12 [] 0) none none none) fun v16 => wv (vconv T G14 t_sl_uint8 t_string v16) fun v17 => ACalls P hash_over.n [v15, .int .u8 92] G14 fun v18 G19 => (vconv T G19 t_sl_uint8 t_string v16 = some v17 ∧ True) ∧ (aBuildSlice T t_sl_string 2 [(0, v18), (1, v17)] G19 fun v20 G21 => ACalls P hash_Sum.n [v20] G21 fun v22 G23 => wg (vstore T G23 t_api_Hash (.ptr i3 [] 0) v22) fun G24 => wv (vload T G24 t_api_Hash (.ptr i3 [] 0)) fun v25 => Q v25 G24)
def hash_Mac.an : Ann := .two (.nil) (.two (.nil) (.two (.ord [(0, []), (2, []), (3, []), (1, [3]), (4, []), (5, []), (6, [])]) (.nil)))
set_option maxRecDepth 100000 in
theorem hash_Mac.sound {a0 a1 : AVal} {G : Heap} {Q : AVal → Heap → Prop} (h : hash_Mac.S a0 a1 G Q) : ACalls P hash_Mac.n [a0, a1] G Q := by
  have e : hash_Mac.S a0 a1 G Q = awp cx (hash_Mac.body) hash_Mac.an (bodyQ T [.cell 4 23] Q) (envL [a0, a1]) G := by kernel_rfl
  exact ACalls_of_awp cxOk (f := hash_Mac.n) (fn := Tryz.f66) (c := hash_Mac.body) (an := hash_Mac.an) Tryz.func66 (by kernel_rfl) (by kernel_rfl) (by kernel_rfl) (drawsOk_of (by kernel_rfl) (by kernel_rfl)) (by simp [Tryz.f66]) (e ▸ h)

/-! #### escrow/seal.Sign -/
def seal_Sign.S (a0 a1 : AVal) (G : Heap) (Q : AVal → Heap → Prop) : Prop :=
  aNew G (.own (a0)) fun i1 G2 => aNew G2 (.own (z_api_Hash)) fun i3 G4 => wv (vload T G4 t_api_Hash (.ptr i1 [] 0)) fun v5 => ACalls P hash_Mac.n [v5, a1] G4 fun v6 G7 => wg (vstore T G7 t_api_Hash (.ptr i3 [] 0) v6) fun G8 => wv (vload T G8 t_api_Hash (.ptr i3 [] 0)) fun v9 => Q v9 G8
def seal_Sign.an : Ann := .nil
set_option maxRecDepth 100000 in
theorem seal_Sign.sound {a0 a1 : AVal} {G : Heap} {Q : AVal → Heap → Prop} (h : seal_Sign.S a0 a1 G Q) : ACalls P seal_Sign.n [a0, a1] G Q := by
  have e : seal_Sign.S a0 a1 G Q = awp cx (seal_Sign.body) seal_Sign.an (bodyQ T [.cell 4 23] Q) (envL [a0, a1]) G := by kernel_rfl
  exact ACalls_of_awp cxOk (f := seal_Sign.n) (fn := Tryz.f31) (c := seal_Sign.body) (an := seal_Sign.an) Tryz.func31 (by kernel_rfl) (by kernel_rfl) (by kernel_rfl) (drawsOk_of (by kernel_rfl) (by kernel_rfl)) (by simp [Tryz.f31]) (e ▸ h)

/-! #### escrow/seal.Right -/
def seal_Right.S (a0 a1 a2 : AVal) (G : Heap) (Q : AVal → Heap → Prop) : Prop :=
  aNew G (.own (a0)) fun i1 G2 => aNew G2 (.own (a2)) fun i3 G4 => wv (vload T G4 t_api_Hash (.ptr i1 [] 0)) fun v5 => wv (vload T G4 t_api_Hash (.ptr i3 [] 0)) fun v6 => ACalls P seal_Sign.n [v5, a1] G4 fun v7 G8 => (vload T G8 t_api_Hash (.ptr i3 [] 0) = some v6 ∧ True) ∧ (wv (vbin T .eql t_api_Hash v7 v6) fun v9 => Q v9 G8)
def seal_Right.an : Ann := .two (.nil) (.two (.ord [(0, []), (1, []), (3, []), (2, [3]), (4, []), (5, [])]) (.nil))
set_option maxRecDepth 100000 in
theorem seal_Right.sound {a0 a1 a2 : AVal} {G : Heap} {Q : AVal → Heap → Prop} (h : seal_Right.S a0 a1 a2 G Q) : ACalls P seal_Right.n [a0, a1, a2] G Q := by
  have e : seal_Right.S a0 a1 a2 G Q = awp cx (seal_Right.body) seal_Right.an (bodyQ T [.tmp 6] Q) (envL [a0, a1, a2]) G := by kernel_rfl
  exact ACalls_of_awp cxOk (f := seal_Right.n) (fn := Tryz.f37) (c := seal_Right.body) (an := seal_Right.an) Tryz.func37 (by kernel_rfl) (by kernel_rfl) (by kernel_rfl) (drawsOk_of (by kernel_rfl) (by kernel_rfl)) (by simp [Tryz.f37]) (e ▸ h)

/-! #### slices.Clone[[]escrow/api.Update,escrow/api.Update] -/
def slices_Clone_escrow_api_Update_escrow_api_Update.S (a0 : AVal) (G : Heap) (Q : AVal → Heap → Prop) : Prop :=
  wv (vbin T .eql t_sl_api_Update a0 (.nilSlice)) fun v1 => brB (some v1)
  (Q (.nilSlice) G)
  (aBuildSlice T t_sl_api_Update 0 [] G fun v2 G3 => aAppend T G3 t_sl_api_Update t_sl_api_Update v2 a0 fun v4 G5 => Q v4 G5)
def slices_Clone_escrow_api_Update_escrow_api_Update.an : Ann := .nil
set_option maxRecDepth 100000 in
theorem slices_Clone_escrow_api_Update_escrow_api_Update.sound {a0 : AVal} {G : Heap} {Q : AVal → Heap → Prop} (h : slices_Clone_escrow_api_Update_escrow_api_Update.S a0 G Q) : ACalls P slices_Clone_escrow_api_Update_escrow_api_Update.n [a0] G Q := by
  have e : slices_Clone_escrow_api_Update_escrow_api_Update.S a0 G Q = awp cx (slices_Clone_escrow_api_Update_escrow_api_Update.body) slices_Clone_escrow_api_Update_escrow_api_Update.an (bodyQ T [.tmp 2] Q) (envL [a0]) G := by kernel_rfl
  exact ACalls_of_awp cxOk (f := slices_Clone_escrow_api_Update_escrow_api_Update.n) (fn := Tryz.f38) (c := slices_Clone_escrow_api_Update_escrow_api_Update.body) (an := slices_Clone_escrow_api_Update_escrow_api_Update.an) Tryz.func38 (by kernel_rfl) (by kernel_rfl) (by kernel_rfl) (drawsOk_of (by kernel_rfl) (by kernel_rfl)) (by simp [Tryz.f38]) (e ▸ h)

/-! #### escrow/dance.Came -/
def dance_Came.S (a0 a1 a2 : AVal) (G : Heap) (Q : AVal → Heap → Prop) : Prop :=
  aNew G (.own (a0)) fun i1 G2 => aNew G2 (.own (a1)) fun i3 G4 => aNew G4 (.own (a2)) fun i5 G6 => aNew G6 (.own (z_api_Record)) fun i7 G8 => wv (vload T G8 t_int (.ptr i3 [11, 0] 13)) fun v9 => wv (vload T G8 t_sl_api_Update (.ptr i3 [5] 5)) fun v10 => wv (vlen T G8 t_sl_api_Update v10) fun v11 => wv (vbuild T t_api_Counts [(0, v9), (1, v11)]) fun v12 => aNew G8 (.own (z_api_Counts)) fun i13 G14 => wg (vstore T G14 t_api_Counts (.ptr i13 [] 0) v12) fun G15 => wv (vload T G15 t_api_State (.ptr i3 [] 0)) fun v16 => ACalls P dance_dead.n [v16] G15 fun v17 G18 => brB (some v17)
  (wv (vbuild T t_api_Record []) fun v19 => wg (vstore T G18 t_api_Record (.ptr i7 [] 0) v19) fun G20 => wv (vload T G20 t_api_Record (.ptr i7 [] 0)) fun v21 => Q (.tuple [v21, .int .i64 220]) G20)
  (wv (vload T G18 t_int (.ptr i5 [0] 0)) fun v22 => wv (vbin T .neq t_int v22 (.int .i64 4)) fun v23 => brB (some v23)
  (wv (vbuild T t_api_Record []) fun v24 => wg (vstore T G18 t_api_Record (.ptr i7 [] 0) v24) fun G25 => wv (vload T G25 t_api_Record (.ptr i7 [] 0)) fun v26 => Q (.tuple [v26, .int .i64 160]) G25)
  (let J44 : AVal → Heap → Prop := (fun x34 G33 => brB (some x34)
  (wv (vbuild T t_api_Record []) fun v35 => wg (vstore T G33 t_api_Record (.ptr i7 [] 0) v35) fun G36 => wv (vload T G36 t_api_Record (.ptr i7 [] 0)) fun v37 => Q (.tuple [v37, .int .i64 90]) G36)
  (wv (vload T G33 t_api_Counts (.ptr i13 [] 0)) fun v38 => wv (vload T G33 t_api_Counts (.ptr i3 [9] 9)) fun v39 => wv (vbin T .eql t_api_Counts v38 v39) fun v40 => brB (some v40)
  (wv (vbuild T t_api_Record []) fun v41 => wg (vstore T G33 t_api_Record (.ptr i7 [] 0) v41) fun G42 => wv (vload T G42 t_api_Record (.ptr i7 [] 0)) fun v43 => Q (.tuple [v43, .int .i64 8]) G42)
  (wv (vload T G33 t_api_Config (.ptr i1 [] 0)) fun v45 => wv (vload T G33 t_api_State (.ptr i3 [] 0)) fun v46 => wv (vload T G33 t_int64 (.ptr i5 [3] 3)) fun v47 => wv (vload T G33 t_api_Counts (.ptr i13 [] 0)) fun v48 => ACalls P dance_own.n [v45, v46, v47, v48] G33 fun v49 G50 => wv (vextract v49 0) fun v51 => wv (vextract v49 1) fun v52 => let J78 : AVal → Heap → Prop := (fun x60 G59 => brB (some x60)
  (wv (vbuild T t_api_Record []) fun v61 => wg (vstore T G59 t_api_Record (.ptr i7 [] 0) v61) fun G62 => wv (vload T G62 t_api_Record (.ptr i7 [] 0)) fun v63 => Q (.tuple [v63, .int .i64 110]) G62)
  (wv (vload T G59 t_sl_api_Update (.ptr i3 [5] 5)) fun v64 => wv (vload T G59 t_int (.ptr i3 [9, 1] 10)) fun v65 => ACalls P dance_first.n [v64, v65] G59 fun v66 G67 => wv (vlen T G67 t_sl_api_Update v66) fun v68 => wv (vload T G67 t_int64 (.ptr i5 [3] 3)) fun v69 => wv (vload T G67 t_sl_api_Update (.ptr i3 [5] 5)) fun v70 => wv (vslice T t_sl_api_Update v70 (some (v68)) none none) fun v71 => wv (vload T G67 t_api_Hash (.ptr i5 [5] 5)) fun v72 => ACalls P slices_Clone_escrow_api_Update_escrow_api_Update.n [v71] G67 fun v73 G74 => (vload T G74 t_api_Hash (.ptr i5 [5] 5) = some v72 ∧ vload T G74 t_int64 (.ptr i5 [3] 3) = some v69 ∧ True) ∧ (wv (vbuild T t_api_Record [(0, .int .i64 3), (3, v69), (2, v73), (5, v72)]) fun v75 => wg (vstore T G74 t_api_Record (.ptr i7 [] 0) v75) fun G76 => wv (vload T G76 t_api_Record (.ptr i7 [] 0)) fun v77 => Q (.tuple [v77, .int .i64 0]) G76)));
  wv (vun .not v52) fun v53 => brB (some v53)
  (J78 (.bool true) G50)
  (wv (vload T G50 t_api_Hash (.ptr i1 [5] 67)) fun v54 => wv (vload T G50 t_api_Hash (.ptr i5 [5] 5)) fun v55 => ACalls P seal_Right.n [v54, v51, v55] G50 fun v56 G57 => wv (vun .not v56) fun v58 => J78 v58 G57))));
  wv (vload T G18 t_int64 (.ptr i3 [6] 6)) fun v27 => wv (vbin T .gtr t_int64 v27 (.int .i64 281474976710653)) fun v28 => brB (some v28)
  (J44 (.bool true) G18)
  (wv (vload T G18 t_int64 (.ptr i5 [3] 3)) fun v29 => wv (vload T G18 t_int64 (.ptr i3 [6] 6)) fun v30 => wv (vbin T .add t_int64 v30 (.int .i64 1)) fun v31 => wv (vbin T .neq t_int64 v29 v31) fun v32 => J44 v32 G18)))
def dance_Came.an : Ann := .two (.nil) (.two (.nil) (.two (.nil) (.two (.nil) (.two (.nil) (.two (.nil) (.two (.ord [(0, []), (1, []), (2, []), (3, []), (4, []), (5, []), (7, []), (8, []), (6, [1, 8]), (9, []), (10, []), (11, [])]) (.nil)))))))
set_option maxRecDepth 100000 in
theorem dance_Came.sound {a0 a1 a2 : AVal} {G : Heap} {Q : AVal → Heap → Prop} (h : dance_Came.S a0 a1 a2 G Q) : ACalls P dance_Came.n [a0, a1, a2] G Q := by
  have e : dance_Came.S a0 a1 a2 G Q = awp cx (dance_Came.body) dance_Came.an (bodyQ T [.cell 6 42, .tmp 7] Q) (envL [a0, a1, a2]) G := by kernel_rfl
  exact ACalls_of_awp cxOk (f := dance_Came.n) (fn := Tryz.f15) (c := dance_Came.body) (an := dance_Came.an) Tryz.func15 (by kernel_rfl) (by kernel_rfl) (by kernel_rfl) (drawsOk_of (by kernel_rfl) (by kernel_rfl)) (by simp [Tryz.f15]) (e ▸ h)

/-! #### math/bits.TrailingZeros64 -/
def bits_TrailingZeros64.S (a0 : AVal) (G : Heap) (Q : AVal → Heap → Prop) : Prop :=
  wv (vbin T .eql t_uint64 a0 (.int .u64 0)) fun v1 => brB (some v1)
  (Q (.int .i64 64) G)
  (wv (vun .neg a0) fun v2 => wv (vbin T .and t_uint64 a0 v2) fun v3 => wv (vbin T .mul t_uint64 v3 (.int .u64 285870213051353865)) fun v4 => wv (vbin T .shr t_uint64 v4 (.int .u64 58)) fun v5 => wv (viaddr T t_ar64_uint8 (.ptr ⟨0, 0, 0⟩ [] 0) v5) fun v6 => wv (vload T G t_uint8 v6) fun v7 => wv (vconv T G t_uint8 t_int v7) fun v8 => Q v8 G)
def bits_TrailingZeros64.an : Ann := .nil
set_option maxRecDepth 100000 in
theorem bits_TrailingZeros64.sound {a0 : AVal} {G : Heap} {Q : AVal → Heap → Prop} (h : bits_TrailingZeros64.S a0 G Q) : ACalls P bits_TrailingZeros64.n [a0] G Q := by
  have e : bits_TrailingZeros64.S a0 G Q = awp cx (bits_TrailingZeros64.body) bits_TrailingZeros64.an (bodyQ T [.tmp 2] Q) (envL [a0]) G := by kernel_rfl
  exact ACalls_of_awp cxOk (f := bits_TrailingZeros64.n) (fn := Tryz.f91) (c := bits_TrailingZeros64.body) (an := bits_TrailingZeros64.an) Tryz.func91 (by kernel_rfl) (by kernel_rfl) (by kernel_rfl) (drawsOk_of (by kernel_rfl) (by kernel_rfl)) (by simp [Tryz.f91]) (e ▸ h)

/-! #### escrow/seed.Level -/
def seed_Level.S (a0 : AVal) (G : Heap) (Q : AVal → Heap → Prop) : Prop :=
  ACalls P seed_right.n [a0] G fun v1 G2 => wv (vun .not v1) fun v3 => brB (some v3)
  (Q (.tuple [.int .i64 0, .int .i64 90]) G2)
  (ACalls P seed_place.n [a0] G2 fun v4 G5 => wv (vconv T G5 t_int64 t_uint64 v4) fun v6 => ACalls P bits_TrailingZeros64.n [v6] G5 fun v7 G8 => wv (vmin2 (.int .i64 48) v7) fun v9 => Q (.tuple [v9, .int .i64 0]) G8)
def seed_Level.an : Ann := .nil
set_option maxRecDepth 100000 in
theorem seed_Level.sound {a0 : AVal} {G : Heap} {Q : AVal → Heap → Prop} (h : seed_Level.S a0 G Q) : ACalls P seed_Level.n [a0] G Q := by
  have e : seed_Level.S a0 G Q = awp cx (seed_Level.body) seed_Level.an (bodyQ T [.tmp 2, .tmp 3] Q) (envL [a0]) G := by kernel_rfl
  exact ACalls_of_awp cxOk (f := seed_Level.n) (fn := Tryz.f74) (c := seed_Level.body) (an := seed_Level.an) Tryz.func74 (by kernel_rfl) (by kernel_rfl) (by kernel_rfl) (drawsOk_of (by kernel_rfl) (by kernel_rfl)) (by simp [Tryz.f74]) (e ▸ h)

/-! #### escrow/seed.Derive -/
def seed_Derive.S (a0 a1 a2 : AVal) (G : Heap) (Q : AVal → Heap → Prop) : Prop :=
  aNew G (.own (a0)) fun i1 G2 => aNew G2 (.own (z_api_Hash)) fun i3 G4 => ACalls P seed_Level.n [a1] G4 fun v5 G6 => wv (vextract v5 0) fun v7 => wv (vextract v5 1) fun v8 => let J28 : AVal → Heap → Prop := (fun x14 G13 => brB (some x14)
  (wv (vbuild T t_api_Hash []) fun v15 => wg (vstore T G13 t_api_Hash (.ptr i3 [] 0) v15) fun G16 => wv (vload T G16 t_api_Hash (.ptr i3 [] 0)) fun v17 => Q (.tuple [v17, .int .i64 90]) G16)
  (ACalls P seed_place.n [a1] G13 fun v18 G19 => wv (vbin T .shr t_int64 v18 v7) fun v20 => ACalls P seed_place.n [a2] G19 fun v21 G22 => wv (vbin T .shr t_int64 v21 v7) fun v23 => wv (vbin T .neq t_int64 v20 v23) fun v24 => brB (some v24)
  (wv (vbuild T t_api_Hash []) fun v25 => wg (vstore T G22 t_api_Hash (.ptr i3 [] 0) v25) fun G26 => wv (vload T G26 t_api_Hash (.ptr i3 [] 0)) fun v27 => Q (.tuple [v27, .int .i64 5]) G26)
  (wv (vload T G22 t_api_Hash (.ptr i1 [] 0)) fun v29 => ACalls P seed_place.n [a2] G22 fun v30 G31 => (vload T G31 t_api_Hash (.ptr i1 [] 0) = some v29 ∧ True) ∧ (ACalls P seed_down.n [v29, v30, v7] G31 fun v32 G33 => wg (vstore T G33 t_api_Hash (.ptr i3 [] 0) v32) fun G34 => wv (vload T G34 t_api_Hash (.ptr i3 [] 0)) fun v35 => Q (.tuple [v35, .int .i64 0]) G34))));
  wv (vbin T .neq t_api_Errno v8 (.int .i64 0)) fun v9 => brB (some v9)
  (J28 (.bool true) G6)
  (ACalls P seed_right.n [a2] G6 fun v10 G11 => wv (vun .not v10) fun v12 => J28 v12 G11)
def seed_Derive.an : Ann := .two (.nil) (.two (.nil) (.two (.two (.nil) (.two (.nil) (.two (.ord [(0, []), (2, []), (4, []), (6, []), (1, []), (3, []), (5, []), (7, []), (8, []), (9, [])]) (.nil)))) (.two (.ord [(0, []), (1, []), (3, []), (2, [0]), (4, []), (5, []), (6, [])]) (.nil))))
set_option maxRecDepth 100000 in
theorem seed_Derive.sound {a0 a1 a2 : AVal} {G : Heap} {Q : AVal → Heap → Prop} (h : seed_Derive.S a0 a1 a2 G Q) : ACalls P seed_Derive.n [a0, a1, a2] G Q := by
  have e : seed_Derive.S a0 a1 a2 G Q = awp cx (seed_Derive.body) seed_Derive.an (bodyQ T [.cell 6 23, .tmp 7] Q) (envL [a0, a1, a2]) G := by kernel_rfl
  exact ACalls_of_awp cxOk (f := seed_Derive.n) (fn := Tryz.f75) (c := seed_Derive.body) (an := seed_Derive.an) Tryz.func75 (by kernel_rfl) (by kernel_rfl) (by kernel_rfl) (drawsOk_of (by kernel_rfl) (by kernel_rfl)) (by simp [Tryz.f75]) (e ▸ h)

/-! #### escrow/shelf.Put -/
def shelf_Put.S (a0 a1 a2 : AVal) (G : Heap) (Q : AVal → Heap → Prop) : Prop :=
  aNew G (.own (a2)) fun i1 G2 => wv (vlen T G2 t_sl_api_Slot a0) fun v3 => wv (vbin T .gtr t_int v3 (.int .i64 49)) fun v4 => brB (some v4)
  (Q (.tuple [.nilSlice, .int .i64 1]) G2)
  (ACalls P seed_Level.n [a1] G2 fun v5 G6 => wv (vextract v5 0) fun v7 => wv (vextract v5 1) fun v8 => wv (vbin T .neq t_api_Errno v8 (.int .i64 0)) fun v9 => brB (some v9)
  (Q (.tuple [.nilSlice, .int .i64 90]) G6)
  (aMakeSlice T t_sl_api_Slot (.int .i64 49) (.int .i64 49) G6 fun v10 G11 => wv (vlen T G11 t_sl_api_Slot a0) fun v12 => ∀ R13 : List AVal → Heap → Prop,
  (∀ (x15 x16 x17 x18 x19 x20 x21 : AVal) (G14 : Heap), (wv (vbin T .lss t_int x21 x20) fun v22 => brB (some v22)
  (wv (viaddr T t_sl_api_Slot x15 x21) fun v23 => wv (vfaddr T t_api_Slot v23 2) fun v24 => wv (vload T G14 t_bool v24) fun v25 => wv (vun .not v25) fun v26 => brB (some v26)
  (wv (vbin T .add t_int x21 (.int .i64 1)) fun v53 => R13 [x15, x16, x17, x18, x19, x20, v53] G14)
  (wv (viaddr T t_sl_api_Slot x15 x21) fun v27 => wv (vload T G14 t_api_Slot v27) fun v28 => wv (viaddr T t_sl_api_Slot x19 x21) fun v29 => wg (vstore T G14 t_api_Slot v29 v28) fun G30 => wv (vbin T .geq t_int x21 x18) fun v31 => brB (some v31)
  (wv (vbin T .add t_int x21 (.int .i64 1)) fun v54 => R13 [x15, x16, x17, x18, x19, x20, v54] G30)
  (wv (vload T G30 t_api_Hash x17) fun v32 => wv (viaddr T t_sl_api_Slot x15 x21) fun v33 => wv (vfaddr T t_api_Slot v33 0) fun v34 => wv (vload T G30 t_int64 v34) fun v35 => ACalls P seed_Derive.n [v32, x16, v35] G30 fun v36 G37 => wv (vextract v36 0) fun v38 => wv (vextract v36 1) fun v39 => aNew G37 (.own (z_api_Hash)) fun i40 G41 => wg (vstore T G41 t_api_Hash (.ptr i40 [] 0) v38) fun G42 => wv (vbin T .neq t_api_Errno v39 (.int .i64 0)) fun v43 => brB (some v43)
  (Q (.tuple [.nilSlice, .int .i64 100]) G42)
  (wv (vload T G42 t_api_Hash (.ptr i40 [] 0)) fun v44 => wv (viaddr T t_sl_api_Slot x15 x21) fun v45 => wv (vfaddr T t_api_Slot v45 1) fun v46 => wv (vload T G42 t_api_Hash v46) fun v47 => wv (vbin T .neq t_api_Hash v44 v47) fun v48 => brB (some v48)
  (Q (.tuple [.nilSlice, .int .i64 100]) G42)
  (wv (vbin T .add t_int x21 (.int .i64 1)) fun v55 => R13 [x15, x16, x17, x18, x19, x20, v55] G42)))))
  (wv (vload T G14 t_api_Hash x17) fun v56 => wv (vbuild T t_api_Slot [(0, x16), (1, v56), (2, .bool true)]) fun v57 => wv (viaddr T t_sl_api_Slot x19 x18) fun v58 => wg (vstore T G14 t_api_Slot v58 v57) fun G59 => Q (.tuple [x19, .int .i64 0]) G59)) → R13 [x15, x16, x17, x18, x19, x20, x21] G14) →
  R13 [a0, a1, .ptr i1 [] 0, v7, v10, v12, .int .i64 0] G11))
def shelf_Put.an : Ann := .two (.nil) (.two (.nil) (.two (.nil) (.two (.nil) (.two (.nil) (.two (.two (.nil) (.loop [0, 1, 5, 8, 10, 26, 27] [false, false, false, false, false, false, false] (.two (.nil) (.two (.nil) (.two (.two (.nil) (.two (.nil) (.two (.nil) (.two (.nil) (.two (.ord [(0, []), (1, []), (2, []), (3, []), (4, []), (5, []), (6, []), (7, []), (8, []), (9, []), (10, []), (11, []), (12, []), (13, [])]) (.two (.ord [(0, []), (1, []), (2, []), (3, []), (4, []), (5, []), (6, []), (7, []), (8, []), (9, []), (10, [])]) (.nil))))))) (.nil)))))) (.nil))))))
set_option maxRecDepth 100000 in
theorem shelf_Put.sound {a0 a1 a2 : AVal} {G : Heap} {Q : AVal → Heap → Prop} (h : shelf_Put.S a0 a1 a2 G Q) : ACalls P shelf_Put.n [a0, a1, a2] G Q := by
  have e : shelf_Put.S a0 a1 a2 G Q = awp cx (shelf_Put.body) shelf_Put.an (bodyQ T [.tmp 6, .tmp 7] Q) (envL [a0, a1, a2]) G := by kernel_rfl
  exact ACalls_of_awp cxOk (f := shelf_Put.n) (fn := Tryz.f41) (c := shelf_Put.body) (an := shelf_Put.an) Tryz.func41 (by kernel_rfl) (by kernel_rfl) (by kernel_rfl) (drawsOk_of (by kernel_rfl) (by kernel_rfl)) (by simp [Tryz.f41]) (e ▸ h)

/-! #### escrow/dance.Revoked -/
def dance_Revoked.S (a0 a1 : AVal) (G : Heap) (Q : AVal → Heap → Prop) : Prop :=
  aNew G (.own (a0)) fun i1 G2 => aNew G2 (.own (a1)) fun i3 G4 => aNew G4 (.own (z_api_Record)) fun i5 G6 => wv (vload T G6 t_api_State (.ptr i1 [] 0)) fun v7 => ACalls P dance_dead.n [v7] G6 fun v8 G9 => brB (some v8)
  (wv (vbuild T t_api_Record []) fun v10 => wg (vstore T G9 t_api_Record (.ptr i5 [] 0) v10) fun G11 => wv (vload T G11 t_api_Record (.ptr i5 [] 0)) fun v12 => Q (.tuple [v12, .int .i64 220]) G11)
  (wv (vload T G9 t_int (.ptr i3 [0] 0)) fun v13 => wv (vbin T .neq t_int v13 (.int .i64 5)) fun v14 => brB (some v14)
  (wv (vbuild T t_api_Record []) fun v15 => wg (vstore T G9 t_api_Record (.ptr i5 [] 0) v15) fun G16 => wv (vload T G16 t_api_Record (.ptr i5 [] 0)) fun v17 => Q (.tuple [v17, .int .i64 160]) G16)
  (let J42 : AVal → Heap → Prop := (fun x29 G28 => brB (some x29)
  (wv (vbuild T t_api_Record []) fun v30 => wg (vstore T G28 t_api_Record (.ptr i5 [] 0) v30) fun G31 => wv (vload T G31 t_api_Record (.ptr i5 [] 0)) fun v32 => Q (.tuple [v32, .int .i64 90]) G31)
  (wv (vload T G28 t_api_Hash (.ptr i3 [6] 37)) fun v33 => wv (viaddr T t_ar2_api_Hash (.ptr i1 [13] 16) (.int .i64 0)) fun v34 => wv (vload T G28 t_api_Hash v34) fun v35 => ACalls P seed_Point.n [v33] G28 fun v36 G37 => (vload T G37 t_api_Hash v34 = some v35 ∧ True) ∧ (wv (vbin T .neq t_api_Hash v36 v35) fun v38 => brB (some v38)
  (wv (vbuild T t_api_Record []) fun v39 => wg (vstore T G37 t_api_Record (.ptr i5 [] 0) v39) fun G40 => wv (vload T G40 t_api_Record (.ptr i5 [] 0)) fun v41 => Q (.tuple [v41, .int .i64 100]) G40)
  (wv (vload T G37 t_sl_api_Slot (.ptr i1 [15] 112)) fun v43 => wv (vload T G37 t_int64 (.ptr i1 [8] 8)) fun v44 => wv (vload T G37 t_api_Hash (.ptr i3 [6] 37)) fun v45 => ACalls P shelf_Put.n [v43, v44, v45] G37 fun v46 G47 => wv (vextract v46 0) fun v48 => wv (vextract v46 1) fun v49 => wv (vbin T .neq t_api_Errno v49 (.int .i64 0)) fun v50 => brB (some v50)
  (wv (vbuild T t_api_Record []) fun v51 => wg (vstore T G47 t_api_Record (.ptr i5 [] 0) v51) fun G52 => wv (vload T G52 t_api_Record (.ptr i5 [] 0)) fun v53 => Q (.tuple [v53, .int .i64 100]) G52)
  (wv (vload T G47 t_int64 (.ptr i1 [8] 8)) fun v54 => wv (vload T G47 t_api_Hash (.ptr i3 [6] 37)) fun v55 => wv (vload T G47 t_api_Hash (.ptr i3 [5] 5)) fun v56 => wv (vbuild T t_api_Record [(0, .int .i64 4), (3, v54), (6, v55), (7, v56)]) fun v57 => wg (vstore T G47 t_api_Record (.ptr i5 [] 0) v57) fun G58 => wv (vload T G58 t_api_Record (.ptr i5 [] 0)) fun v59 => Q (.tuple [v59, .int .i64 0]) G58)))));
  wv (vload T G9 t_int64 (.ptr i1 [7] 7)) fun v18 => wv (vload T G9 t_int64 (.ptr i1 [8] 8)) fun v19 => wv (vbin T .eql t_int64 v18 v19) fun v20 => brB (some v20)
  (J42 (.bool true) G9)
  (wv (vload T G9 t_int64 (.ptr i1 [7] 7)) fun v21 => wv (vbin T .sub t_int64 v21 (.int .i64 1)) fun v22 => wv (vload T G9 t_int64 (.ptr i1 [8] 8)) fun v23 => wv (vbin T .neq t_int64 v22 v23) fun v24 => brB (some v24)
  (J42 (.bool true) G9)
  (wv (vload T G9 t_int64 (.ptr i3 [3] 3)) fun v25 => wv (vload T G9 t_int64 (.ptr i1 [8] 8)) fun v26 => wv (vbin T .neq t_int64 v25 v26) fun v27 => J42 v27 G9))))
def dance_Revoked.an : Ann := .two (.nil) (.two (.two (.nil) (.two (.nil) (.two (.nil) (.two (.nil) (.two (.nil) (.two (.nil) (.two (.ord [(0, []), (1, []), (3, []), (4, []), (5, []), (2, [5]), (6, []), (7, [])]) (.nil)))))))) (.nil))
set_option maxRecDepth 100000 in
theorem dance_Revoked.sound {a0 a1 : AVal} {G : Heap} {Q : AVal → Heap → Prop} (h : dance_Revoked.S a0 a1 G Q) : ACalls P dance_Revoked.n [a0, a1] G Q := by
  have e : dance_Revoked.S a0 a1 G Q = awp cx (dance_Revoked.body) dance_Revoked.an (bodyQ T [.cell 4 42, .tmp 5] Q) (envL [a0, a1]) G := by kernel_rfl
  exact ACalls_of_awp cxOk (f := dance_Revoked.n) (fn := Tryz.f17) (c := dance_Revoked.body) (an := dance_Revoked.an) Tryz.func17 (by kernel_rfl) (by kernel_rfl) (by kernel_rfl) (drawsOk_of (by kernel_rfl) (by kernel_rfl)) (by simp [Tryz.f17]) (e ▸ h)

/-! #### escrow/escrowref09.good -/
def escrowref09_good.S (a0 : AVal) (G : Heap) (Q : AVal → Heap → Prop) : Prop :=
  wv (vbin T .geq t_int64 a0 (.int .i64 0)) fun v1 => brB (some v1)
  (wv (vbin T .leq t_int64 a0 (.int .i64 281474976710655)) fun v2 => Q v2 G)
  (Q (.bool false) G)
def escrowref09_good.an : Ann := .nil
set_option maxRecDepth 100000 in
theorem escrowref09_good.sound {a0 : AVal} {G : Heap} {Q : AVal → Heap → Prop} (h : escrowref09_good.S a0 G Q) : ACalls P escrowref09_good.n [a0] G Q := by
  have e : escrowref09_good.S a0 G Q = awp cx (escrowref09_good.body) escrowref09_good.an (bodyQ T [.tmp 2] Q) (envL [a0]) G := by kernel_rfl
  exact ACalls_of_awp cxOk (f := escrowref09_good.n) (fn := Tryz.f92) (c := escrowref09_good.body) (an := escrowref09_good.an) Tryz.func92 (by kernel_rfl) (by kernel_rfl) (by kernel_rfl) (drawsOk_of (by kernel_rfl) (by kernel_rfl)) (by simp [Tryz.f92]) (e ▸ h)

/-! #### escrow/escrowref02.padded -/
def escrowref02_padded.S (a0 : AVal) (G : Heap) (Q : AVal → Heap → Prop) : Prop :=
  aAppend T G t_sl_uint8 t_string (.nilSlice) a0 fun v1 G2 => aBuildSlice T t_sl_uint8 1 [(0, .int .u8 128)] G2 fun v3 G4 => aAppend T G4 t_sl_uint8 t_sl_uint8 v1 v3 fun v5 G6 => ∀ R7 : List AVal → Heap → Prop,
  (∀ (x9 x10 : AVal) (G8 : Heap), (wv (vlen T G8 t_sl_uint8 x10) fun v11 => wv (vbin T .rem t_int v11 (.int .i64 64)) fun v12 => wv (vbin T .neq t_int v12 (.int .i64 56)) fun v13 => brB (some v13)
  (aBuildSlice T t_sl_uint8 1 [(0, .int .u8 0)] G8 fun v14 G15 => aAppend T G15 t_sl_uint8 t_sl_uint8 x10 v14 fun v16 G17 => R7 [x9, v16] G17)
  (∀ R18 : List AVal → Heap → Prop,
  (∀ (x20 x21 x22 : AVal) (G19 : Heap), (wv (vbin T .geq t_int x22 (.int .i64 0)) fun v23 => brB (some v23)
  (wv (vlen T G19 t_string x20) fun v24 => wv (vbin T .mul t_int (.int .i64 8) v24) fun v25 => wv (vbin T .mul t_int (.int .i64 8) x22) fun v26 => wv (vbin T .shr t_int v25 v26) fun v27 => wv (vconv T G19 t_int t_uint8 v27) fun v28 => aBuildSlice T t_sl_uint8 1 [(0, v28)] G19 fun v29 G30 => aAppend T G30 t_sl_uint8 t_sl_uint8 x21 v29 fun v31 G32 => wv (vbin T .sub t_int x22 (.int .i64 1)) fun v33 => R18 [x20, v31, v33] G32)
  (Q x21 G19)) → R18 [x20, x21, x22] G19) →
  R18 [x9, x10, .int .i64 7] G8)) → R7 [x9, x10] G8) →
  R7 [a0, v5] G6
def escrowref02_padded.an : Ann := .two (.nil) (.two (.nil) (.two (.nil) (.two (.nil) (.two (.loop [0, 3] [false, false] (.nil)) (.two (.two (.nil) (.loop [0, 3, 4] [false, false, false] (.nil))) (.nil))))))
set_option maxRecDepth 100000 in
theorem escrowref02_padded.sound {a0 : AVal} {G : Heap} {Q : AVal → Heap → Prop} (h : escrowref02_padded.S a0 G Q) : ACalls P escrowref02_padded.n [a0] G Q := by
  have e : escrowref02_padded.S a0 G Q = awp cx (escrowref02_padded.body) escrowref02_padded.an (bodyQ T [.tmp 2] Q) (envL [a0]) G := by kernel_rfl
  exact ACalls_of_awp cxOk (f := escrowref02_padded.n) (fn := Tryz.f108) (c := escrowref02_padded.body) (an := escrowref02_padded.an) Tryz.func108 (by kernel_rfl) (by kernel_rfl) (by kernel_rfl) (drawsOk_of (by kernel_rfl) (by kernel_rfl)) (by simp [Tryz.f108]) (e ▸ h)

/-! #### escrow/escrowref02.rounds -/
def escrowref02_rounds.S (G : Heap) (Q : AVal → Heap → Prop) : Prop :=
  aNew G (.own (z_ar64_uint32)) fun i1 G2 => wv (vbuild T t_ar64_uint32 [(0, .int .u32 1116352408), (1, .int .u32 1899447441), (2, .int .u32 3049323471), (3, .int .u32 3921009573), (4, .int .u32 961987163), (5, .int .u32 1508970993), (6, .int .u32 2453635748), (7, .int .u32 2870763221), (8, .int .u32 3624381080), (9, .int .u32 310598401), (10, .int .u32 607225278), (11, .int .u32 1426881987), (12, .int .u32 1925078388), (13, .int .u32 2162078206), (14, .int .u32 2614888103), (15, .int .u32 3248222580), (16, .int .u32 3835390401), (17, .int .u32 4022224774), (18, .int .u32 264347078), (19, .int .u32 604807628), (20, .int .u32 770255983), (21, .int .u32 1249150122), (22, .int .u32 1555081692), (23, .int .u32 1996064986), (24, .int .u32 2554220882), (25, .int .u32 2821834349), (26, .int .u32 2952996808), (27, .int .u32 3210313671), (28, .int .u32 3336571891), (29, .int .u32 3584528711), (30, .int .u32 113926993), (31, .int .u32 338241895), (32, .int .u32 666307205), (33, .int .u32 773529912), (34, .int .u32 1294757372), (35, .int .u32 1396182291), (36, .int .u32 1695183700), (37, .int .u32 1986661051), (38, .int .u32 2177026350), (39, .int .u32 2456956037), (40, .int .u32 2730485921), (41, .int .u32 2820302411), (42, .int .u32 3259730800), (43, .int .u32 3345764771), (44, .int .u32 3516065817), (45, .int .u32 3600352804), (46, .int .u32 4094571909), (47, .int .u32 275423344), (48, .int .u32 430227734), (49, .int .u32 506948616), (50, .int .u32 659060556), (51, .int .u32 883997877), (52, .int .u32 958139571), (53, .int .u32 1322822218), (54, .int .u32 1537002063), (55, .int .u32 1747873779), (56, .int .u32 1955562222), (57, .int .u32 2024104815), (58, .int .u32 2227730452), (59, .int .u32 2361852424), (60, .int .u32 2428436474), (61, .int .u32 2756734187), (62, .int .u32 3204031479), (63, .int .u32 3329325298)]) fun v3 => wg (vstore T G2 t_ar64_uint32 (.ptr i1 [] 0) v3) fun G4 => wv (vload T G4 t_ar64_uint32 (.ptr i1 [] 0)) fun v5 => Q v5 G4
def escrowref02_rounds.an : Ann := .nil
set_option maxRecDepth 100000 in
theorem escrowref02_rounds.sound {G : Heap} {Q : AVal → Heap → Prop} (h : escrowref02_rounds.S G Q) : ACalls P escrowref02_rounds.n [] G Q := by
  have e : escrowref02_rounds.S G Q = awp cx (escrowref02_rounds.body) escrowref02_rounds.an (bodyQ T [.cell 0 149] Q) (envL []) G := by kernel_rfl
  exact ACalls_of_awp cxOk (f := escrowref02_rounds.n) (fn := Tryz.f113) (c := escrowref02_rounds.body) (an := escrowref02_rounds.an) Tryz.func113 (by kernel_rfl) (by kernel_rfl) (by kernel_rfl) (drawsOk_of (by kernel_rfl) (by kernel_rfl)) (by simp [Tryz.f113]) (e ▸ h)

/-! #### escrow/escrowref02.rot -/
def escrowref02_rot.S (a0 a1 : AVal) (G : Heap) (Q : AVal → Heap → Prop) : Prop :=
  wv (vbin T .shr t_uint32 a0 a1) fun v1 => wv (vbin T .sub t_int (.int .i64 32) a1) fun v2 => wv (vbin T .shl t_uint32 a0 v2) fun v3 => wv (vbin T .or t_uint32 v1 v3) fun v4 => Q v4 G
def escrowref02_rot.an : Ann := .two (.nil) (.two (.ord [(0, []), (1, []), (2, []), (3, []), (4, []), (5, []), (6, []), (7, []), (8, [])]) (.nil))
set_option maxRecDepth 100000 in
theorem escrowref02_rot.sound {a0 a1 : AVal} {G : Heap} {Q : AVal → Heap → Prop} (h : escrowref02_rot.S a0 a1 G Q) : ACalls P escrowref02_rot.n [a0, a1] G Q := by
  have e : escrowref02_rot.S a0 a1 G Q = awp cx (escrowref02_rot.body) escrowref02_rot.an (bodyQ T [.tmp 4] Q) (envL [a0, a1]) G := by kernel_rfl
  exact ACalls_of_awp cxOk (f := escrowref02_rot.n) (fn := Tryz.f114) (c := escrowref02_rot.body) (an := escrowref02_rot.an) Tryz.func114 (by kernel_rfl) (by kernel_rfl) (by kernel_rfl) (drawsOk_of (by kernel_rfl) (by kernel_rfl)) (by simp [Tryz.f114]) (e ▸ h)

end Go.Esc.M
