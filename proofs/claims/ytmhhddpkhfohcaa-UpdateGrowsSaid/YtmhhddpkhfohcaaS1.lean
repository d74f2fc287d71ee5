/- Printed by gen.py (own work): functions of the program Ytmhhddpkhfohcaa over trees and the abstract heap. -/
import Derived.Test.YtmhhddpkhfohcaaT
set_option linter.unusedSimpArgs false
set_option linter.unusedVariables false
namespace Go.Esc.M
open Go Go.Esc Go.Proofs

/-! #### escrow/hash.turned -/
def hash_turned.S (a0 a1 a2 : AVal) (G : Heap) (Q : AVal → Heap → Prop) : Prop :=
  aNew G (.own (a0)) fun i1 G2 => aNew G2 (.own (z_ar8_uint32)) fun i3 G4 => wv (vload T G4 t_ar8_uint32 (.ptr i1 [] 0)) fun v5 => ACalls P hash_schedule.n [a1] G4 fun v6 G7 => (vload T G7 t_ar8_uint32 (.ptr i1 [] 0) = some v5 ∧ True) ∧ (aNew G7 (.own (z_ar64_uint32)) fun i8 G9 => aNew G9 (.own (z_ar8_uint32)) fun i10 G11 => wg (vstore T G11 t_ar64_uint32 (.ptr i8 [] 0) v6) fun G12 => (vload T G12 t_ar8_uint32 (.ptr i1 [] 0) = some v5 ∧ True) ∧ (wg (vstore T G12 t_ar8_uint32 (.ptr i10 [] 0) v5) fun G13 => ∀ R14 : List AVal → Heap → Prop,
  (∀ (x16 x17 x18 x19 x20 x21 : AVal) (G15 : Heap), (wv (vbin T .lss t_int x21 (.int .i64 64)) fun v22 => brB (some v22)
  (wv (viaddr T t_ar8_uint32 x20 (.int .i64 4)) fun v23 => wv (vload T G15 t_uint32 v23) fun v24 => wv (viaddr T t_ar8_uint32 x20 (.int .i64 0)) fun v25 => wv (vload T G15 t_uint32 v25) fun v26 => wv (viaddr T t_ar8_uint32 x20 (.int .i64 7)) fun v27 => wv (vload T G15 t_uint32 v27) fun v28 => wv (viaddr T t_ar8_uint32 x20 (.int .i64 5)) fun v29 => wv (vload T G15 t_uint32 v29) fun v30 => wv (vbin T .and t_uint32 v24 v30) fun v31 => wv (vun .xor v24) fun v32 => wv (viaddr T t_ar8_uint32 x20 (.int .i64 6)) fun v33 => wv (vload T G15 t_uint32 v33) fun v34 => wv (vbin T .and t_uint32 v32 v34) fun v35 => wv (vbin T .xor t_uint32 v31 v35) fun v36 => wv (vnil x16) fun v37 => wv (viaddr T t_ar64_uint32 v37 x21) fun v38 => wv (vload T G15 t_uint32 v38) fun v39 => wv (viaddr T t_ar64_uint32 x19 x21) fun v40 => wv (vload T G15 t_uint32 v40) fun v41 => ACalls P bits_RotateLeft32.n [v24, .int .i64 (-6)] G15 fun v42 G43 => (vload T G43 t_uint32 v40 = some v41 ∧ vload T G43 t_uint32 v38 = some v39 ∧ vload T G43 t_uint32 v33 = some v34 ∧ vload T G43 t_uint32 v29 = some v30 ∧ vload T G43 t_uint32 v27 = some v28 ∧ True) ∧ (ACalls P bits_RotateLeft32.n [v24, .int .i64 (-11)] G43 fun v44 G45 => (vload T G45 t_uint32 v40 = some v41 ∧ vload T G45 t_uint32 v38 = some v39 ∧ vload T G45 t_uint32 v33 = some v34 ∧ vload T G45 t_uint32 v29 = some v30 ∧ vload T G45 t_uint32 v27 = some v28 ∧ True) ∧ (wv (vbin T .xor t_uint32 v42 v44) fun v46 => ACalls P bits_RotateLeft32.n [v24, .int .i64 (-25)] G45 fun v47 G48 => (vload T G48 t_uint32 v40 = some v41 ∧ vload T G48 t_uint32 v38 = some v39 ∧ vload T G48 t_uint32 v33 = some v34 ∧ vload T G48 t_uint32 v29 = some v30 ∧ vload T G48 t_uint32 v27 = some v28 ∧ True) ∧ (wv (vbin T .xor t_uint32 v46 v47) fun v49 => wv (vbin T .add t_uint32 v28 v49) fun v50 => wv (vbin T .add t_uint32 v50 v36) fun v51 => wv (vbin T .add t_uint32 v51 v39) fun v52 => wv (vbin T .add t_uint32 v52 v41) fun v53 => wv (viaddr T t_ar8_uint32 x20 (.int .i64 1)) fun v54 => wv (vload T G48 t_uint32 v54) fun v55 => wv (vbin T .and t_uint32 v26 v55) fun v56 => wv (viaddr T t_ar8_uint32 x20 (.int .i64 2)) fun v57 => wv (vload T G48 t_uint32 v57) fun v58 => wv (vbin T .and t_uint32 v26 v58) fun v59 => wv (vbin T .xor t_uint32 v56 v59) fun v60 => wv (viaddr T t_ar8_uint32 x20 (.int .i64 1)) fun v61 => wv (vload T G48 t_uint32 v61) fun v62 => wv (viaddr T t_ar8_uint32 x20 (.int .i64 2)) fun v63 => wv (vload T G48 t_uint32 v63) fun v64 => wv (vbin T .and t_uint32 v62 v64) fun v65 => wv (vbin T .xor t_uint32 v60 v65) fun v66 => ACalls P bits_RotateLeft32.n [v26, .int .i64 (-2)] G48 fun v67 G68 => (vload T G68 t_uint32 v63 = some v64 ∧ vload T G68 t_uint32 v61 = some v62 ∧ vload T G68 t_uint32 v57 = some v58 ∧ vload T G68 t_uint32 v54 = some v55 ∧ True) ∧ (ACalls P bits_RotateLeft32.n [v26, .int .i64 (-13)] G68 fun v69 G70 => (vload T G70 t_uint32 v63 = some v64 ∧ vload T G70 t_uint32 v61 = some v62 ∧ vload T G70 t_uint32 v57 = some v58 ∧ vload T G70 t_uint32 v54 = some v55 ∧ True) ∧ (wv (vbin T .xor t_uint32 v67 v69) fun v71 => ACalls P bits_RotateLeft32.n [v26, .int .i64 (-22)] G70 fun v72 G73 => (vload T G73 t_uint32 v63 = some v64 ∧ vload T G73 t_uint32 v61 = some v62 ∧ vload T G73 t_uint32 v57 = some v58 ∧ vload T G73 t_uint32 v54 = some v55 ∧ True) ∧ (wv (vbin T .xor t_uint32 v71 v72) fun v74 => wv (vbin T .add t_uint32 v74 v66) fun v75 => wv (vbin T .add t_uint32 v53 v75) fun v76 => wv (viaddr T t_ar8_uint32 x20 (.int .i64 1)) fun v77 => wv (vload T G73 t_uint32 v77) fun v78 => wv (viaddr T t_ar8_uint32 x20 (.int .i64 2)) fun v79 => wv (vload T G73 t_uint32 v79) fun v80 => wv (viaddr T t_ar8_uint32 x20 (.int .i64 3)) fun v81 => wv (vload T G73 t_uint32 v81) fun v82 => wv (vbin T .add t_uint32 v82 v53) fun v83 => wv (viaddr T t_ar8_uint32 x20 (.int .i64 5)) fun v84 => wv (vload T G73 t_uint32 v84) fun v85 => wv (viaddr T t_ar8_uint32 x20 (.int .i64 6)) fun v86 => wv (vload T G73 t_uint32 v86) fun v87 => wv (vbuild T t_ar8_uint32 [(0, v76), (1, v26), (2, v78), (3, v80), (4, v83), (5, v24), (6, v85), (7, v87)]) fun v88 => wg (vstore T G73 t_ar8_uint32 x20 v88) fun G89 => wv (vbin T .add t_int x21 (.int .i64 1)) fun v90 => R14 [x16, x17, x18, x19, x20, v90] G89)))))))
  (∀ R91 : List AVal → Heap → Prop,
  (∀ (x93 x94 x95 x96 : AVal) (G92 : Heap), (wv (vbin T .lss t_int x96 (.int .i64 8)) fun v97 => brB (some v97)
  (wv (viaddr T t_ar8_uint32 x95 x96) fun v98 => wv (vload T G92 t_uint32 v98) fun v99 => wv (viaddr T t_ar8_uint32 x93 x96) fun v100 => wv (vload T G92 t_uint32 v100) fun v101 => wv (vbin T .add t_uint32 v99 v101) fun v102 => wv (viaddr T t_ar8_uint32 x95 x96) fun v103 => wg (vstore T G92 t_uint32 v103 v102) fun G104 => wv (vbin T .add t_int x96 (.int .i64 1)) fun v105 => R91 [x93, x94, x95, v105] G104)
  (wv (vload T G92 t_ar8_uint32 x95) fun v106 => wg (vstore T G92 t_ar8_uint32 x94 v106) fun G107 => wv (vload T G107 t_ar8_uint32 x94) fun v108 => Q v108 G107)) → R91 [x93, x94, x95, x96] G92) →
  R91 [x17, x18, x20, .int .i64 0] G15)) → R14 [x16, x17, x18, x19, x20, x21] G15) →
  R14 [a2, .ptr i1 [] 0, .ptr i3 [] 0, .ptr i8 [] 0, .ptr i10 [] 0, .int .i64 0] G13))
def hash_turned.an : Ann := .two (.nil) (.two (.ord [(0, []), (2, []), (1, [2]), (3, []), (4, []), (5, [2]), (6, [])]) (.two (.two (.nil) (.loop [2, 3, 6, 7, 8, 18] (.two (.nil) (.two (.nil) (.two (.two (.nil) (.two (.ord [(0, []), (1, []), (2, []), (3, []), (4, []), (5, [])]) (.two (.ord [(0, []), (1, []), (2, []), (4, []), (7, []), (11, []), (12, []), (13, []), (14, []), (15, []), (16, []), (17, []), (18, []), (19, []), (20, []), (22, []), (23, []), (24, []), (25, []), (26, []), (28, []), (29, []), (30, []), (3, [1, 13, 18, 26, 30]), (5, [1, 13, 18, 26, 30]), (6, []), (8, [1, 13, 18, 26, 30]), (9, []), (10, []), (21, []), (27, []), (31, []), (32, [])]) (.two (.ord [(0, []), (2, []), (5, []), (8, []), (9, []), (10, []), (11, []), (12, []), (13, []), (14, []), (15, []), (16, []), (17, []), (18, []), (19, []), (20, []), (21, []), (22, []), (1, [10, 14, 18, 20]), (3, [10, 14, 18, 20]), (4, []), (6, [10, 14, 18, 20]), (7, []), (23, []), (24, [])]) (.nil))))) (.nil)))))) (.two (.two (.nil) (.loop [3, 6, 8, 100] (.two (.nil) (.two (.nil) (.two (.two (.nil) (.ord [(0, []), (1, []), (2, []), (3, []), (4, []), (5, []), (6, []), (7, []), (8, [])])) (.nil)))))) (.nil))))
set_option maxRecDepth 100000 in
theorem hash_turned.sound {a0 a1 a2 : AVal} {G : Heap} {Q : AVal → Heap → Prop} (h : hash_turned.S a0 a1 a2 G Q) : ACalls P hash_turned.n [a0, a1, a2] G Q := by
  have e : hash_turned.S a0 a1 a2 G Q = awp cx (hash_turned.body) hash_turned.an (bodyQ T [.cell 6 96] Q) (envL [a0, a1, a2]) G := by kernel_rfl
  exact ACalls_of_awp cxOk (f := hash_turned.n) (fn := Try.f64) (c := hash_turned.body) (an := hash_turned.an) Try.func64 (by kernel_rfl) (by kernel_rfl) (by kernel_rfl) (drawsOk_of (by kernel_rfl) (by kernel_rfl)) (by simp [Try.f64]) (e ▸ h)

/-! #### escrow/hash.Sum -/
def hash_Sum.S (a0 : AVal) (G : Heap) (Q : AVal → Heap → Prop) : Prop :=
  aNew G (.own (z_api_Hash)) fun i1 G2 => ACalls P strings_Join.n [a0, .str []] G2 fun v3 G4 => wv (vlen T G4 t_string v3) fun v5 => aBuildSlice T t_sl_uint8 1 [(0, .int .u8 128)] G4 fun v6 G7 => ∀ R8 : List AVal → Heap → Prop,
  (∀ (x10 x11 x12 x13 : AVal) (G9 : Heap), (wv (vlen T G9 t_sl_uint8 x13) fun v14 => wv (vbin T .add t_int x12 v14) fun v15 => wv (vbin T .rem t_int v15 (.int .i64 64)) fun v16 => wv (vbin T .neq t_int v16 (.int .i64 56)) fun v17 => brB (some v17)
  (aBuildSlice T t_sl_uint8 1 [(0, .int .u8 0)] G9 fun v18 G19 => aAppend T G19 t_sl_uint8 t_sl_uint8 x13 v18 fun v20 G21 => R8 [x10, x11, x12, v20] G21)
  (∀ R22 : List AVal → Heap → Prop,
  (∀ (x24 x25 x26 x27 x28 : AVal) (G23 : Heap), (wv (vbin T .lss t_int x28 (.int .i64 8)) fun v29 => brB (some v29)
  (wv (vbin T .mul t_int (.int .i64 8) x26) fun v30 => wv (vconv T G23 t_int t_uint64 v30) fun v31 => wv (vbin T .mul t_int (.int .i64 8) x28) fun v32 => wv (vbin T .sub t_int (.int .i64 56) v32) fun v33 => wv (vbin T .shr t_uint64 v31 v33) fun v34 => wv (vconv T G23 t_uint64 t_uint8 v34) fun v35 => aBuildSlice T t_sl_uint8 1 [(0, v35)] G23 fun v36 G37 => aAppend T G37 t_sl_uint8 t_sl_uint8 x27 v36 fun v38 G39 => wv (vbin T .add t_int x28 (.int .i64 1)) fun v40 => R22 [x24, x25, x26, v38, v40] G39)
  (wv (vconv T G23 t_sl_uint8 t_string x27) fun v41 => wv (vbin T .add t_string x25 v41) fun v42 => wv (vbuild T t_ar8_uint32 [(0, .int .u32 1779033703), (1, .int .u32 3144134277), (2, .int .u32 1013904242), (3, .int .u32 2773480762), (4, .int .u32 1359893119), (5, .int .u32 2600822924), (6, .int .u32 528734635), (7, .int .u32 1541459225)]) fun v43 => aNew G23 (.own (z_ar8_uint32)) fun i44 G45 => wg (vstore T G45 t_ar8_uint32 (.ptr i44 [] 0) v43) fun G46 => ACalls P hash_constants.n [] G46 fun v47 G48 => aNew G48 (.own (z_ar64_uint32)) fun i49 G50 => wg (vstore T G50 t_ar64_uint32 (.ptr i49 [] 0) v47) fun G51 => ∀ R52 : List AVal → Heap → Prop,
  (∀ (x54 x55 x56 x57 : AVal) (G53 : Heap), (wv (vbin T .neq t_string x55 (.str [])) fun v58 => brB (some v58)
  (wv (vload T G53 t_ar8_uint32 x56) fun v59 => wv (vslice T t_string x55 none (some (.int .i64 64)) none) fun v60 => ACalls P hash_turned.n [v59, v60, x57] G53 fun v61 G62 => wg (vstore T G62 t_ar8_uint32 x56 v61) fun G63 => wv (vslice T t_string x55 (some (.int .i64 64)) none none) fun v64 => R52 [x54, v64, x56, x57] G63)
  (aNew G53 (.own (z_api_Hash)) fun i65 G66 => ∀ R67 : List AVal → Heap → Prop,
  (∀ (x69 x70 x71 x72 : AVal) (G68 : Heap), (wv (vbin T .lss t_int x72 (.int .i64 32)) fun v73 => brB (some v73)
  (wv (vbin T .quo t_int x72 (.int .i64 4)) fun v74 => wv (viaddr T t_ar8_uint32 x70 v74) fun v75 => wv (vload T G68 t_uint32 v75) fun v76 => wv (vbin T .rem t_int x72 (.int .i64 4)) fun v77 => wv (vbin T .mul t_int (.int .i64 8) v77) fun v78 => wv (vbin T .sub t_int (.int .i64 24) v78) fun v79 => wv (vbin T .shr t_uint32 v76 v79) fun v80 => wv (vconv T G68 t_uint32 t_uint8 v80) fun v81 => wv (viaddr T t_api_Hash x71 x72) fun v82 => wg (vstore T G68 t_uint8 v82 v81) fun G83 => wv (vbin T .add t_int x72 (.int .i64 1)) fun v84 => R67 [x69, x70, x71, v84] G83)
  (wv (vload T G68 t_api_Hash x71) fun v85 => wg (vstore T G68 t_api_Hash x69 v85) fun G86 => wv (vload T G86 t_api_Hash x69) fun v87 => Q v87 G86)) → R67 [x69, x70, x71, x72] G68) →
  R67 [x54, x56, .ptr i65 [] 0, .int .i64 0] G66)) → R52 [x54, x55, x56, x57] G53) →
  R52 [x24, v42, .ptr i44 [] 0, .ptr i49 [] 0] G51)) → R22 [x24, x25, x26, x27, x28] G23) →
  R22 [x10, x11, x12, x13, .int .i64 0] G9)) → R8 [x10, x11, x12, x13] G9) →
  R8 [.ptr i1 [] 0, v3, v5, v6] G7
def hash_Sum.an : Ann := .two (.nil) (.two (.nil) (.two (.nil) (.two (.nil) (.two (.loop [2, 3, 4, 5] (.nil)) (.two (.two (.nil) (.loop [2, 3, 4, 5, 25] (.nil))) (.two (.nil) (.two (.nil) (.two (.nil) (.two (.loop [2, 3, 7, 8] (.two (.nil) (.two (.ord [(0, []), (1, []), (2, []), (3, []), (4, [])]) (.nil)))) (.two (.nil) (.two (.two (.nil) (.loop [2, 7, 9, 54] (.nil))) (.nil))))))))))))
set_option maxRecDepth 100000 in
theorem hash_Sum.sound {a0 : AVal} {G : Heap} {Q : AVal → Heap → Prop} (h : hash_Sum.S a0 G Q) : ACalls P hash_Sum.n [a0] G Q := by
  have e : hash_Sum.S a0 G Q = awp cx (hash_Sum.body) hash_Sum.an (bodyQ T [.cell 2 23] Q) (envL [a0]) G := by kernel_rfl
  exact ACalls_of_awp cxOk (f := hash_Sum.n) (fn := Try.f50) (c := hash_Sum.body) (an := hash_Sum.an) Try.func50 (by kernel_rfl) (by kernel_rfl) (by kernel_rfl) (drawsOk_of (by kernel_rfl) (by kernel_rfl)) (by simp [Try.f50]) (e ▸ h)

/-! #### escrow/update.Next -/
def update_Next.S (a0 a1 a2 : AVal) (G : Heap) (Q : AVal → Heap → Prop) : Prop :=
  aNew G (.own (a2)) fun i1 G2 => wv (vlen T G2 t_sl_api_Update a0) fun v3 => wv (vbin T .geq t_int v3 (.int .i64 2048)) fun v4 => brB (some v4)
  (Q (.int .i64 6) G2)
  (wv (vload T G2 t_api_Update (.ptr i1 [] 0)) fun v5 => ACalls P update_Valid.n [v5] G2 fun v6 G7 => wv (vun .not v6) fun v8 => brB (some v8)
  (Q (.int .i64 120) G7)
  (wv (vload T G7 t_int (.ptr i1 [0] 0)) fun v9 => wv (vbin T .eql t_int v9 (.int .i64 1)) fun v10 => brB (some v10)
  (wv (vload T G7 t_int64 (.ptr i1 [1] 1)) fun v11 => ACalls P update_adds.n [a0] G7 fun v12 G13 => (vload T G13 t_int64 (.ptr i1 [1] 1) = some v11 ∧ True) ∧ (wv (vbin T .neq t_int64 v11 v12) fun v14 => brB (some v14)
  (Q (.int .i64 120) G13)
  (Q (.int .i64 0) G13)))
  (wv (vload T G7 t_int64 (.ptr i1 [1] 1)) fun v15 => ACalls P update_Find.n [a1, v15] G7 fun v16 G17 => wv (vextract v16 0) fun v18 => wv (vextract v16 1) fun v19 => aNew G17 (.own (z_api_Update)) fun i20 G21 => wg (vstore T G21 t_api_Update (.ptr i20 [] 0) v18) fun G22 => wv (vload T G22 t_int64 (.ptr i1 [1] 1)) fun v23 => ACalls P update_Removal.n [a0, v23] G22 fun v24 G25 => wv (vextract v24 0) fun v26 => wv (vextract v24 1) fun v27 => aNew G25 (.own (z_api_Update)) fun i28 G29 => wg (vstore T G29 t_api_Update (.ptr i28 [] 0) v26) fun G30 => wv (vun .not v19) fun v31 => brB (some v31)
  (Q (.int .i64 120) G30)
  (brB (some v27)
  (Q (.int .i64 120) G30)
  (wv (vload T G30 t_int (.ptr i1 [0] 0)) fun v32 => wv (vbin T .eql t_int v32 (.int .i64 2)) fun v33 => brB (some v33)
  (wv (vslice T t_api_Hash (.ptr i1 [3] 3) none none none) fun v34 => wv (vconv T G30 t_sl_uint8 t_string v34) fun v35 => wv (vload T G30 t_api_Hash (.ptr i20 [3] 3)) fun v36 => aBuildSlice T t_sl_string 1 [(0, v35)] G30 fun v37 G38 => ACalls P hash_Sum.n [v37] G38 fun v39 G40 => (vload T G40 t_api_Hash (.ptr i20 [3] 3) = some v36 ∧ True) ∧ (wv (vbin T .neq t_api_Hash v39 v36) fun v41 => brB (some v41)
  (Q (.int .i64 120) G40)
  (Q (.int .i64 0) G40)))
  (Q (.int .i64 0) G30))))))
def update_Next.an : Ann := .two (.nil) (.two (.nil) (.two (.nil) (.two (.two (.nil) (.two (.two (.two (.ord [(0, []), (1, []), (2, []), (3, [1]), (4, [])]) (.nil)) (.nil)) (.nil))) (.two (.nil) (.two (.nil) (.two (.two (.ord [(0, []), (1, []), (2, []), (3, []), (4, []), (5, []), (6, []), (7, []), (8, []), (9, []), (10, []), (11, []), (12, []), (15, []), (16, []), (13, []), (14, [16]), (17, []), (18, []), (19, [])]) (.nil)) (.nil)))))))
set_option maxRecDepth 100000 in
theorem update_Next.sound {a0 a1 a2 : AVal} {G : Heap} {Q : AVal → Heap → Prop} (h : update_Next.S a0 a1 a2 G Q) : ACalls P update_Next.n [a0, a1, a2] G Q := by
  have e : update_Next.S a0 a1 a2 G Q = awp cx (update_Next.body) update_Next.an (bodyQ T [.tmp 6] Q) (envL [a0, a1, a2]) G := by kernel_rfl
  exact ACalls_of_awp cxOk (f := update_Next.n) (fn := Try.f19) (c := update_Next.body) (an := update_Next.an) Try.func19 (by kernel_rfl) (by kernel_rfl) (by kernel_rfl) (drawsOk_of (by kernel_rfl) (by kernel_rfl)) (by simp [Try.f19]) (e ▸ h)

/-! #### escrow/escrowlaw12.head -/
def escrowlaw12_head.S (G : Heap) (Q : AVal → Heap → Prop) : Prop :=
  wv (vbuild T t_api_Update [(0, .int .i64 3), (1, .int .i64 5), (4, .str [110, 111])]) fun v1 => ACalls P update_Write.n [v1] G fun v2 G3 => wv (vextract v2 0) fun v4 => wv (vextract v2 1) fun v5 => ACalls P update_Read.n [.str [3, 0, 5, 0, 2, 110, 111, 33]] G3 fun v6 G7 => wv (vextract v6 0) fun v8 => wv (vextract v6 1) fun v9 => wv (vextract v6 2) fun v10 => aNew G7 (.own (z_api_Update)) fun i11 G12 => wg (vstore T G12 t_api_Update (.ptr i11 [] 0) v8) fun G13 => ACalls P update_Read.n [.str [3, 0, 5, 0, 65]] G13 fun v14 G15 => wv (vextract v14 0) fun v16 => wv (vextract v14 1) fun v17 => wv (vextract v14 2) fun v18 => aNew G15 (.own (z_api_Update)) fun i19 G20 => wg (vstore T G20 t_api_Update (.ptr i19 [] 0) v16) fun G21 => wv (vbuild T t_api_Update [(0, .int .i64 1), (2, .int .i64 7)]) fun v22 => aNew G21 (.own (z_api_Update)) fun i23 G24 => wg (vstore T G24 t_api_Update (.ptr i23 [] 0) v22) fun G25 => let J76 : AVal → Heap → Prop := (fun x35 G34 => brB (some x35)
  (Q (.bool false) G34)
  (wv (vload T G34 t_api_Update (.ptr i23 [] 0)) fun v36 => aBuildSlice T t_sl_api_Update 1 [(0, v36)] G34 fun v37 G38 => ACalls P update_Find.n [v37, .int .i64 0] G38 fun v39 G40 => wv (vextract v39 0) fun v41 => wv (vextract v39 1) fun v42 => aNew G40 (.own (z_api_Update)) fun i43 G44 => wg (vstore T G44 t_api_Update (.ptr i43 [] 0) v41) fun G45 => wv (vload T G45 t_api_Update (.ptr i23 [] 0)) fun v46 => aBuildSlice T t_sl_api_Update 1 [(0, v46)] G45 fun v47 G48 => ACalls P update_Removal.n [v47, .int .i64 0] G48 fun v49 G50 => wv (vextract v49 0) fun v51 => wv (vextract v49 1) fun v52 => aNew G50 (.own (z_api_Update)) fun i53 G54 => wg (vstore T G54 t_api_Update (.ptr i53 [] 0) v51) fun G55 => wv (vload T G55 t_api_Update (.ptr i23 [] 0)) fun v56 => ACalls P update_Valid.n [v56] G55 fun v57 G58 => brB (some v57)
  (wv (vload T G58 t_api_Update (.ptr i43 [] 0)) fun v59 => wv (vload T G58 t_api_Update (.ptr i23 [] 0)) fun v60 => wv (vbin T .eql t_api_Update v59 v60) fun v61 => brB (some v61)
  (brB (some v42)
  (wv (vun .not v52) fun v62 => brB (some v62)
  (wv (vload T G58 t_api_Update (.ptr i23 [] 0)) fun v63 => ACalls P update_Next.n [.nilSlice, .nilSlice, v63] G58 fun v64 G65 => wv (vbin T .eql t_api_Errno v64 (.int .i64 0)) fun v66 => brB (some v66)
  (wv (vload T G65 t_api_Update (.ptr i23 [] 0)) fun v67 => aBuildSlice T t_sl_api_Update 1 [(0, v67)] G65 fun v68 G69 => wv (vload T G69 t_api_Update (.ptr i23 [] 0)) fun v70 => ACalls P update_Next.n [v68, .nilSlice, v70] G69 fun v71 G72 => wv (vbin T .eql t_api_Errno v71 (.int .i64 120)) fun v73 => Q v73 G72)
  (Q (.bool false) G65))
  (Q (.bool false) G58))
  (Q (.bool false) G58))
  (Q (.bool false) G58))
  (Q (.bool false) G58)));
  wv (vbin T .neq t_string v4 (.str [3, 0, 5, 0, 2, 110, 111])) fun v26 => brB (some v26)
  (J76 (.bool true) G25)
  (wv (vbin T .neq t_api_Errno v5 (.int .i64 0)) fun v27 => brB (some v27)
  (J76 (.bool true) G25)
  (wv (vload T G25 t_api_Update (.ptr i11 [] 0)) fun v28 => wv (vbuild T t_api_Update [(0, .int .i64 3), (1, .int .i64 5), (4, .str [110, 111])]) fun v29 => wv (vbin T .neq t_api_Update v28 v29) fun v30 => brB (some v30)
  (J76 (.bool true) G25)
  (wv (vbin T .neq t_int v9 (.int .i64 7)) fun v31 => brB (some v31)
  (J76 (.bool true) G25)
  (wv (vbin T .neq t_api_Errno v10 (.int .i64 0)) fun v32 => brB (some v32)
  (J76 (.bool true) G25)
  (wv (vbin T .neq t_api_Errno v18 (.int .i64 120)) fun v33 => J76 v33 G25)))))
def escrowlaw12_head.an : Ann := .nil
set_option maxRecDepth 100000 in
theorem escrowlaw12_head.sound {G : Heap} {Q : AVal → Heap → Prop} (h : escrowlaw12_head.S G Q) : ACalls P escrowlaw12_head.n [] G Q := by
  have e : escrowlaw12_head.S G Q = awp cx (escrowlaw12_head.body) escrowlaw12_head.an (bodyQ T [.tmp 0] Q) (envL []) G := by kernel_rfl
  exact ACalls_of_awp cxOk (f := escrowlaw12_head.n) (fn := Try.f8) (c := escrowlaw12_head.body) (an := escrowlaw12_head.an) Try.func8 (by kernel_rfl) (by kernel_rfl) (by kernel_rfl) (drawsOk_of (by kernel_rfl) (by kernel_rfl)) (by simp [Try.f8]) (e ▸ h)

/-! #### escrow/escrowref12.Valid -/
def escrowref12_Valid.S (a0 : AVal) (G : Heap) (Q : AVal → Heap → Prop) : Prop :=
  aNew G (.own (a0)) fun i1 G2 => wv (vbuild T t_api_Hash []) fun v3 => aNew G2 (.own (z_api_Hash)) fun i4 G5 => wg (vstore T G5 t_api_Hash (.ptr i4 [] 0) v3) fun G6 => let J41 : AVal → Heap → Prop := (fun x12 G11 => brB (some x12)
  (Q (.bool false) G11)
  (wv (vload T G11 t_int (.ptr i1 [0] 0)) fun v13 => wv (vbin T .eql t_int v13 (.int .i64 1)) fun v14 => brB (some v14)
  (wv (vload T G11 t_int64 (.ptr i1 [2] 2)) fun v15 => wv (vbin T .geq t_int64 v15 (.int .i64 1)) fun v16 => brB (some v16)
  (wv (vload T G11 t_int64 (.ptr i1 [2] 2)) fun v17 => wv (vbin T .leq t_int64 v17 (.int .i64 1152921504606846976)) fun v18 => brB (some v18)
  (wv (vload T G11 t_string (.ptr i1 [4] 35)) fun v19 => wv (vbin T .eql t_string v19 (.str [])) fun v20 => Q v20 G11)
  (Q (.bool false) G11))
  (Q (.bool false) G11))
  (wv (vbin T .eql t_int v13 (.int .i64 2)) fun v23 => brB (some v23)
  (wv (vload T G11 t_int64 (.ptr i1 [2] 2)) fun v24 => wv (vbin T .eql t_int64 v24 (.int .i64 0)) fun v25 => brB (some v25)
  (wv (vload T G11 t_string (.ptr i1 [4] 35)) fun v26 => wv (vbin T .eql t_string v26 (.str [])) fun v27 => Q v27 G11)
  (Q (.bool false) G11))
  (wv (vbin T .eql t_int v13 (.int .i64 3)) fun v30 => brB (some v30)
  (wv (vload T G11 t_int64 (.ptr i1 [2] 2)) fun v31 => wv (vbin T .eql t_int64 v31 (.int .i64 0)) fun v32 => brB (some v32)
  (wv (vload T G11 t_api_Hash (.ptr i1 [3] 3)) fun v33 => wv (vload T G11 t_api_Hash (.ptr i4 [] 0)) fun v34 => wv (vbin T .eql t_api_Hash v33 v34) fun v35 => brB (some v35)
  (wv (vload T G11 t_string (.ptr i1 [4] 35)) fun v36 => wv (vlen T G11 t_string v36) fun v37 => wv (vbin T .leq t_int v37 (.int .i64 64)) fun v38 => Q v38 G11)
  (Q (.bool false) G11))
  (Q (.bool false) G11))
  (Q (.bool false) G11)))));
  wv (vload T G6 t_int64 (.ptr i1 [1] 1)) fun v7 => wv (vbin T .lss t_int64 v7 (.int .i64 0)) fun v8 => brB (some v8)
  (J41 (.bool true) G6)
  (wv (vload T G6 t_int64 (.ptr i1 [1] 1)) fun v9 => wv (vbin T .geq t_int64 v9 (.int .i64 2048)) fun v10 => J41 v10 G6)
def escrowref12_Valid.an : Ann := .nil
set_option maxRecDepth 100000 in
theorem escrowref12_Valid.sound {a0 : AVal} {G : Heap} {Q : AVal → Heap → Prop} (h : escrowref12_Valid.S a0 G Q) : ACalls P escrowref12_Valid.n [a0] G Q := by
  have e : escrowref12_Valid.S a0 G Q = awp cx (escrowref12_Valid.body) escrowref12_Valid.an (bodyQ T [.tmp 2] Q) (envL [a0]) G := by kernel_rfl
  exact ACalls_of_awp cxOk (f := escrowref12_Valid.n) (fn := Try.f14) (c := escrowref12_Valid.body) (an := escrowref12_Valid.an) Try.func14 (by kernel_rfl) (by kernel_rfl) (by kernel_rfl) (drawsOk_of (by kernel_rfl) (by kernel_rfl)) (by simp [Try.f14]) (e ▸ h)

/-! #### escrow/escrowref03.Bytes -/
def escrowref03_Bytes.S (a0 a1 : AVal) (G : Heap) (Q : AVal → Heap → Prop) : Prop :=
  wv (vbin T .sub t_int a1 (.int .i64 1)) fun v1 => ∀ R2 : List AVal → Heap → Prop,
  (∀ (x4 x5 x6 : AVal) (G3 : Heap), (wv (vbin T .geq t_int x6 (.int .i64 0)) fun v7 => brB (some v7)
  (wv (vconv T G3 t_int t_uint x6) fun v8 => wv (vbin T .mul t_uint (.int .u64 8) v8) fun v9 => wv (vbin T .shr t_uint64 x4 v9) fun v10 => wv (vconv T G3 t_uint64 t_uint8 v10) fun v11 => aBuildSlice T t_sl_uint8 1 [(0, v11)] G3 fun v12 G13 => aAppend T G13 t_sl_uint8 t_sl_uint8 x5 v12 fun v14 G15 => wv (vbin T .sub t_int x6 (.int .i64 1)) fun v16 => R2 [x4, v14, v16] G15)
  (wv (vconv T G3 t_sl_uint8 t_string x5) fun v17 => Q v17 G3)) → R2 [x4, x5, x6] G3) →
  R2 [a0, .nilSlice, v1] G
def escrowref03_Bytes.an : Ann := .two (.nil) (.two (.nil) (.two (.two (.nil) (.loop [0, 5, 6] (.nil))) (.nil)))
set_option maxRecDepth 100000 in
theorem escrowref03_Bytes.sound {a0 a1 : AVal} {G : Heap} {Q : AVal → Heap → Prop} (h : escrowref03_Bytes.S a0 a1 G Q) : ACalls P escrowref03_Bytes.n [a0, a1] G Q := by
  have e : escrowref03_Bytes.S a0 a1 G Q = awp cx (escrowref03_Bytes.body) escrowref03_Bytes.an (bodyQ T [.tmp 4] Q) (envL [a0, a1]) G := by kernel_rfl
  exact ACalls_of_awp cxOk (f := escrowref03_Bytes.n) (fn := Try.f34) (c := escrowref03_Bytes.body) (an := escrowref03_Bytes.an) Try.func34 (by kernel_rfl) (by kernel_rfl) (by kernel_rfl) (drawsOk_of (by kernel_rfl) (by kernel_rfl)) (by simp [Try.f34]) (e ▸ h)

/-! #### escrow/escrowref12.Write -/
def escrowref12_Write.S (a0 : AVal) (G : Heap) (Q : AVal → Heap → Prop) : Prop :=
  aNew G (.own (a0)) fun i1 G2 => wv (vload T G2 t_api_Update (.ptr i1 [] 0)) fun v3 => ACalls P escrowref12_Valid.n [v3] G2 fun v4 G5 => wv (vun .not v4) fun v6 => brB (some v6)
  (Q (.tuple [.str [], .int .i64 120]) G5)
  (wv (vload T G5 t_int (.ptr i1 [0] 0)) fun v7 => wv (vconv T G5 t_int t_uint64 v7) fun v8 => wv (vload T G5 t_int64 (.ptr i1 [1] 1)) fun v9 => wv (vconv T G5 t_int64 t_uint64 v9) fun v10 => ACalls P escrowref03_Bytes.n [v8, .int .i64 1] G5 fun v11 G12 => (vload T G12 t_int64 (.ptr i1 [1] 1) = some v9 ∧ True) ∧ (ACalls P escrowref03_Bytes.n [v10, .int .i64 2] G12 fun v13 G14 => wv (vbin T .add t_string v11 v13) fun v15 => wv (vload T G14 t_int (.ptr i1 [0] 0)) fun v16 => wv (vbin T .eql t_int v16 (.int .i64 1)) fun v17 => brB (some v17)
  (wv (vload T G14 t_int64 (.ptr i1 [2] 2)) fun v18 => wv (vconv T G14 t_int64 t_uint64 v18) fun v19 => wv (vslice T t_api_Hash (.ptr i1 [3] 3) none none none) fun v20 => wv (vconv T G14 t_sl_uint8 t_string v20) fun v21 => ACalls P escrowref03_Bytes.n [v19, .int .i64 8] G14 fun v22 G23 => (vconv T G23 t_sl_uint8 t_string v20 = some v21 ∧ True) ∧ (wv (vbin T .add t_string v15 v22) fun v24 => wv (vbin T .add t_string v24 v21) fun v25 => Q (.tuple [v25, .int .i64 0]) G23))
  (wv (vbin T .eql t_int v16 (.int .i64 2)) fun v26 => brB (some v26)
  (wv (vslice T t_api_Hash (.ptr i1 [3] 3) none none none) fun v27 => wv (vconv T G14 t_sl_uint8 t_string v27) fun v28 => wv (vbin T .add t_string v15 v28) fun v29 => Q (.tuple [v29, .int .i64 0]) G14)
  (wv (vload T G14 t_string (.ptr i1 [4] 35)) fun v30 => wv (vlen T G14 t_string v30) fun v31 => wv (vconv T G14 t_int t_uint64 v31) fun v32 => wv (vload T G14 t_string (.ptr i1 [4] 35)) fun v33 => ACalls P escrowref03_Bytes.n [v32, .int .i64 2] G14 fun v34 G35 => (vload T G35 t_string (.ptr i1 [4] 35) = some v33 ∧ True) ∧ (wv (vbin T .add t_string v15 v34) fun v36 => wv (vbin T .add t_string v36 v33) fun v37 => Q (.tuple [v37, .int .i64 0]) G35)))))
def escrowref12_Write.an : Ann := .two (.nil) (.two (.nil) (.two (.ord [(0, []), (1, []), (2, []), (4, []), (5, []), (6, []), (3, [5]), (7, []), (8, []), (9, [])]) (.two (.two (.nil) (.two (.nil) (.two (.ord [(0, []), (1, []), (2, []), (3, []), (6, []), (7, []), (8, []), (4, [8]), (5, []), (9, []), (10, [])]) (.two (.nil) (.two (.nil) (.ord [(0, []), (1, []), (2, []), (3, []), (4, []), (7, []), (8, []), (5, [8]), (6, []), (9, []), (10, [])])))))) (.nil))))
set_option maxRecDepth 100000 in
theorem escrowref12_Write.sound {a0 : AVal} {G : Heap} {Q : AVal → Heap → Prop} (h : escrowref12_Write.S a0 G Q) : ACalls P escrowref12_Write.n [a0] G Q := by
  have e : escrowref12_Write.S a0 G Q = awp cx (escrowref12_Write.body) escrowref12_Write.an (bodyQ T [.tmp 2, .tmp 3] Q) (envL [a0]) G := by kernel_rfl
  exact ACalls_of_awp cxOk (f := escrowref12_Write.n) (fn := Try.f10) (c := escrowref12_Write.body) (an := escrowref12_Write.an) Try.func10 (by kernel_rfl) (by kernel_rfl) (by kernel_rfl) (drawsOk_of (by kernel_rfl) (by kernel_rfl)) (by simp [Try.f10]) (e ▸ h)

/-! #### escrow/escrowref03.Number -/
def escrowref03_Number.S (a0 : AVal) (G : Heap) (Q : AVal → Heap → Prop) : Prop :=
  ∀ R1 : List AVal → Heap → Prop,
  (∀ (x3 x4 x5 : AVal) (G2 : Heap), (wv (vlen T G2 t_string x3) fun v6 => wv (vbin T .lss t_int x5 v6) fun v7 => brB (some v7)
  (wv (vbin T .mul t_uint64 x4 (.int .u64 256)) fun v8 => wv (vindex T t_string x3 x5) fun v9 => wv (vconv T G2 t_uint8 t_uint64 v9) fun v10 => wv (vbin T .add t_uint64 v8 v10) fun v11 => wv (vbin T .add t_int x5 (.int .i64 1)) fun v12 => R1 [x3, v11, v12] G2)
  (Q x4 G2)) → R1 [x3, x4, x5] G2) →
  R1 [a0, .int .u64 0, .int .i64 0] G
def escrowref03_Number.an : Ann := .two (.nil) (.two (.nil) (.two (.two (.nil) (.loop [0, 3, 4] (.nil))) (.nil)))
set_option maxRecDepth 100000 in
theorem escrowref03_Number.sound {a0 : AVal} {G : Heap} {Q : AVal → Heap → Prop} (h : escrowref03_Number.S a0 G Q) : ACalls P escrowref03_Number.n [a0] G Q := by
  have e : escrowref03_Number.S a0 G Q = awp cx (escrowref03_Number.body) escrowref03_Number.an (bodyQ T [.tmp 2] Q) (envL [a0]) G := by kernel_rfl
  exact ACalls_of_awp cxOk (f := escrowref03_Number.n) (fn := Try.f45) (c := escrowref03_Number.body) (an := escrowref03_Number.an) Try.func45 (by kernel_rfl) (by kernel_rfl) (by kernel_rfl) (drawsOk_of (by kernel_rfl) (by kernel_rfl)) (by simp [Try.f45]) (e ▸ h)

/-! #### escrow/escrowref12.size -/
def escrowref12_size.S (a0 : AVal) (G : Heap) (Q : AVal → Heap → Prop) : Prop :=
  wv (vindex T t_string a0 (.int .i64 0)) fun v1 => wv (vbin T .eql t_uint8 v1 (.int .u8 1)) fun v2 => brB (some v2)
  (Q (.int .i64 43) G)
  (wv (vindex T t_string a0 (.int .i64 0)) fun v3 => wv (vbin T .eql t_uint8 v3 (.int .u8 2)) fun v4 => brB (some v4)
  (Q (.int .i64 35) G)
  (wv (vindex T t_string a0 (.int .i64 0)) fun v5 => wv (vbin T .neq t_uint8 v5 (.int .u8 3)) fun v6 => brB (some v6)
  (Q (.int .i64 (-1)) G)
  (wv (vlen T G t_string a0) fun v7 => wv (vbin T .lss t_int v7 (.int .i64 5)) fun v8 => brB (some v8)
  (Q (.int .i64 0) G)
  (wv (vslice T t_string a0 (some (.int .i64 3)) (some (.int .i64 5)) none) fun v9 => ACalls P escrowref03_Number.n [v9] G fun v10 G11 => wv (vconv T G11 t_uint64 t_int v10) fun v12 => wv (vbin T .gtr t_int v12 (.int .i64 64)) fun v13 => brB (some v13)
  (Q (.int .i64 (-1)) G11)
  (wv (vbin T .add t_int (.int .i64 5) v12) fun v14 => Q v14 G11)))))
def escrowref12_size.an : Ann := .nil
set_option maxRecDepth 100000 in
theorem escrowref12_size.sound {a0 : AVal} {G : Heap} {Q : AVal → Heap → Prop} (h : escrowref12_size.S a0 G Q) : ACalls P escrowref12_size.n [a0] G Q := by
  have e : escrowref12_size.S a0 G Q = awp cx (escrowref12_size.body) escrowref12_size.an (bodyQ T [.tmp 2] Q) (envL [a0]) G := by kernel_rfl
  exact ACalls_of_awp cxOk (f := escrowref12_size.n) (fn := Try.f44) (c := escrowref12_size.body) (an := escrowref12_size.an) Try.func44 (by kernel_rfl) (by kernel_rfl) (by kernel_rfl) (drawsOk_of (by kernel_rfl) (by kernel_rfl)) (by simp [Try.f44]) (e ▸ h)

/-! #### escrow/escrowref12.hash -/
def escrowref12_hash.S (a0 : AVal) (G : Heap) (Q : AVal → Heap → Prop) : Prop :=
  aNew G (.own (z_api_Hash)) fun i1 G2 => aNew G2 (.own (z_api_Hash)) fun i3 G4 => ∀ R5 : List AVal → Heap → Prop,
  (∀ (x7 x8 x9 x10 : AVal) (G6 : Heap), (wv (vlen T G6 t_string x7) fun v11 => wv (vbin T .lss t_int x10 v11) fun v12 => brB (some v12)
  (wv (vbin T .lss t_int x10 (.int .i64 32)) fun v13 => brB (some v13)
  (wv (vindex T t_string x7 x10) fun v20 => wv (viaddr T t_api_Hash x9 x10) fun v21 => wg (vstore T G6 t_uint8 v21 v20) fun G22 => wv (vbin T .add t_int x10 (.int .i64 1)) fun v23 => R5 [x7, x8, x9, v23] G22)
  (wv (vload T G6 t_api_Hash x9) fun v30 => wg (vstore T G6 t_api_Hash x8 v30) fun G31 => wv (vload T G31 t_api_Hash x8) fun v32 => Q v32 G31))
  (wv (vload T G6 t_api_Hash x9) fun v33 => wg (vstore T G6 t_api_Hash x8 v33) fun G34 => wv (vload T G34 t_api_Hash x8) fun v35 => Q v35 G34)) → R5 [x7, x8, x9, x10] G6) →
  R5 [a0, .ptr i1 [] 0, .ptr i3 [] 0, .int .i64 0] G4
def escrowref12_hash.an : Ann := .two (.nil) (.two (.nil) (.two (.two (.nil) (.loop [0, 2, 3, 4] (.nil))) (.nil)))
set_option maxRecDepth 100000 in
theorem escrowref12_hash.sound {a0 : AVal} {G : Heap} {Q : AVal → Heap → Prop} (h : escrowref12_hash.S a0 G Q) : ACalls P escrowref12_hash.n [a0] G Q := by
  have e : escrowref12_hash.S a0 G Q = awp cx (escrowref12_hash.body) escrowref12_hash.an (bodyQ T [.cell 2 23] Q) (envL [a0]) G := by kernel_rfl
  exact ACalls_of_awp cxOk (f := escrowref12_hash.n) (fn := Try.f46) (c := escrowref12_hash.body) (an := escrowref12_hash.an) Try.func46 (by kernel_rfl) (by kernel_rfl) (by kernel_rfl) (drawsOk_of (by kernel_rfl) (by kernel_rfl)) (by simp [Try.f46]) (e ▸ h)

/-! #### escrow/escrowref12.Read -/
def escrowref12_Read.S (a0 : AVal) (G : Heap) (Q : AVal → Heap → Prop) : Prop :=
  aNew G (.own (z_api_Update)) fun i1 G2 => wv (vbuild T t_api_Update []) fun v3 => aNew G2 (.own (z_api_Update)) fun i4 G5 => wg (vstore T G5 t_api_Update (.ptr i4 [] 0) v3) fun G6 => wv (vbin T .eql t_string a0 (.str [])) fun v7 => brB (some v7)
  (wv (vload T G6 t_api_Update (.ptr i4 [] 0)) fun v8 => wg (vstore T G6 t_api_Update (.ptr i1 [] 0) v8) fun G9 => wv (vload T G9 t_api_Update (.ptr i1 [] 0)) fun v10 => Q (.tuple [v10, .int .i64 0, .int .i64 2]) G9)
  (ACalls P escrowref12_size.n [a0] G6 fun v11 G12 => wv (vbin T .lss t_int v11 (.int .i64 0)) fun v13 => brB (some v13)
  (wv (vload T G12 t_api_Update (.ptr i4 [] 0)) fun v14 => wg (vstore T G12 t_api_Update (.ptr i1 [] 0) v14) fun G15 => wv (vload T G15 t_api_Update (.ptr i1 [] 0)) fun v16 => Q (.tuple [v16, .int .i64 0, .int .i64 120]) G15)
  (let J71 : AVal → Heap → Prop := (fun x21 G20 => brB (some x21)
  (wv (vload T G20 t_api_Update (.ptr i4 [] 0)) fun v22 => wg (vstore T G20 t_api_Update (.ptr i1 [] 0) v22) fun G23 => wv (vload T G23 t_api_Update (.ptr i1 [] 0)) fun v24 => Q (.tuple [v24, .int .i64 0, .int .i64 2]) G23)
  (wv (vindex T t_string a0 (.int .i64 0)) fun v25 => wv (vconv T G20 t_uint8 t_int v25) fun v26 => wv (vslice T t_string a0 (some (.int .i64 1)) (some (.int .i64 3)) none) fun v27 => ACalls P escrowref03_Number.n [v27] G20 fun v28 G29 => wv (vconv T G29 t_uint64 t_int64 v28) fun v30 => wv (vbuild T t_api_Update [(0, v26), (1, v30)]) fun v31 => aNew G29 (.own (z_api_Update)) fun i32 G33 => wg (vstore T G33 t_api_Update (.ptr i32 [] 0) v31) fun G34 => wv (vload T G34 t_int (.ptr i32 [0] 0)) fun v35 => let J70 : Heap → Prop := (fun G59 => wv (vload T G59 t_api_Update (.ptr i32 [] 0)) fun v60 => ACalls P escrowref12_Valid.n [v60] G59 fun v61 G62 => wv (vun .not v61) fun v63 => brB (some v63)
  (wv (vload T G62 t_api_Update (.ptr i4 [] 0)) fun v64 => wg (vstore T G62 t_api_Update (.ptr i1 [] 0) v64) fun G65 => wv (vload T G65 t_api_Update (.ptr i1 [] 0)) fun v66 => Q (.tuple [v66, .int .i64 0, .int .i64 120]) G65)
  (wv (vload T G62 t_api_Update (.ptr i32 [] 0)) fun v67 => wg (vstore T G62 t_api_Update (.ptr i1 [] 0) v67) fun G68 => wv (vload T G68 t_api_Update (.ptr i1 [] 0)) fun v69 => Q (.tuple [v69, v11, .int .i64 0]) G68));
  wv (vbin T .eql t_int v35 (.int .i64 1)) fun v36 => brB (some v36)
  (wv (vslice T t_string a0 (some (.int .i64 3)) (some (.int .i64 11)) none) fun v37 => ACalls P escrowref03_Number.n [v37] G34 fun v38 G39 => wv (vbin T .gtr t_uint64 v38 (.int .u64 1152921504606846976)) fun v40 => brB (some v40)
  (wv (vload T G39 t_api_Update (.ptr i4 [] 0)) fun v41 => wg (vstore T G39 t_api_Update (.ptr i1 [] 0) v41) fun G42 => wv (vload T G42 t_api_Update (.ptr i1 [] 0)) fun v43 => Q (.tuple [v43, .int .i64 0, .int .i64 120]) G42)
  (wv (vconv T G39 t_uint64 t_int64 v38) fun v44 => wg (vstore T G39 t_int64 (.ptr i32 [2] 2) v44) fun G45 => wv (vslice T t_string a0 (some (.int .i64 11)) (some (.int .i64 43)) none) fun v46 => ACalls P escrowref12_hash.n [v46] G45 fun v47 G48 => wg (vstore T G48 t_api_Hash (.ptr i32 [3] 3) v47) fun G49 => J70 G49))
  (wv (vbin T .eql t_int v35 (.int .i64 2)) fun v50 => brB (some v50)
  (wv (vslice T t_string a0 (some (.int .i64 3)) (some (.int .i64 35)) none) fun v51 => ACalls P escrowref12_hash.n [v51] G34 fun v52 G53 => wg (vstore T G53 t_api_Hash (.ptr i32 [3] 3) v52) fun G54 => J70 G54)
  (wv (vslice T t_string a0 (some (.int .i64 5)) (some (v11)) none) fun v55 => wg (vstore T G34 t_string (.ptr i32 [4] 35) v55) fun G56 => J70 G56))));
  wv (vbin T .eql t_int v11 (.int .i64 0)) fun v17 => brB (some v17)
  (J71 (.bool true) G12)
  (wv (vlen T G12 t_string a0) fun v18 => wv (vbin T .lss t_int v18 v11) fun v19 => J71 v19 G12)))
def escrowref12_Read.an : Ann := .two (.nil) (.two (.nil) (.two (.nil) (.two (.nil) (.two (.nil) (.two (.nil) (.two (.ord [(0, []), (1, []), (2, []), (3, []), (4, []), (5, []), (6, []), (7, []), (8, []), (9, [])]) (.nil)))))))
set_option maxRecDepth 100000 in
theorem escrowref12_Read.sound {a0 : AVal} {G : Heap} {Q : AVal → Heap → Prop} (h : escrowref12_Read.S a0 G Q) : ACalls P escrowref12_Read.n [a0] G Q := by
  have e : escrowref12_Read.S a0 G Q = awp cx (escrowref12_Read.body) escrowref12_Read.an (bodyQ T [.cell 2 25, .tmp 3, .tmp 4] Q) (envL [a0]) G := by kernel_rfl
  exact ACalls_of_awp cxOk (f := escrowref12_Read.n) (fn := Try.f12) (c := escrowref12_Read.body) (an := escrowref12_Read.an) Try.func12 (by kernel_rfl) (by kernel_rfl) (by kernel_rfl) (drawsOk_of (by kernel_rfl) (by kernel_rfl)) (by simp [Try.f12]) (e ▸ h)

/-! #### escrow/escrowlaw12.UpdateBytes -/
def escrowlaw12_UpdateBytes.S (a0 a1 : AVal) (G : Heap) (Q : AVal → Heap → Prop) : Prop :=
  aNew G (.own (a0)) fun i1 G2 => ACalls P escrowlaw12_head.n [] G2 fun v3 G4 => wv (vun .not v3) fun v5 => brB (some v5)
  (Q (.bool false) G4)
  (wv (vload T G4 t_api_Update (.ptr i1 [] 0)) fun v6 => ACalls P update_Write.n [v6] G4 fun v7 G8 => wv (vextract v7 0) fun v9 => wv (vextract v7 1) fun v10 => wv (vload T G8 t_api_Update (.ptr i1 [] 0)) fun v11 => ACalls P escrowref12_Write.n [v11] G8 fun v12 G13 => wv (vextract v12 0) fun v14 => wv (vextract v12 1) fun v15 => ACalls P update_Read.n [a1] G13 fun v16 G17 => wv (vextract v16 0) fun v18 => wv (vextract v16 1) fun v19 => wv (vextract v16 2) fun v20 => aNew G17 (.own (z_api_Update)) fun i21 G22 => wg (vstore T G22 t_api_Update (.ptr i21 [] 0) v18) fun G23 => ACalls P escrowref12_Read.n [a1] G23 fun v24 G25 => wv (vextract v24 0) fun v26 => wv (vextract v24 1) fun v27 => wv (vextract v24 2) fun v28 => aNew G25 (.own (z_api_Update)) fun i29 G30 => wg (vstore T G30 t_api_Update (.ptr i29 [] 0) v26) fun G31 => wv (vbin T .eql t_string v9 v14) fun v32 => brB (some v32)
  (wv (vbin T .eql t_api_Errno v10 v15) fun v33 => brB (some v33)
  (wv (vload T G31 t_api_Update (.ptr i21 [] 0)) fun v34 => wv (vload T G31 t_api_Update (.ptr i29 [] 0)) fun v35 => wv (vbin T .eql t_api_Update v34 v35) fun v36 => brB (some v36)
  (wv (vbin T .eql t_int v19 v27) fun v37 => brB (some v37)
  (wv (vbin T .eql t_api_Errno v20 v28) fun v38 => brB (some v38)
  (wv (vload T G31 t_api_Update (.ptr i1 [] 0)) fun v39 => wv (vload T G31 t_api_Update (.ptr i1 [] 0)) fun v40 => ACalls P update_Valid.n [v39] G31 fun v41 G42 => (vload T G42 t_api_Update (.ptr i1 [] 0) = some v40 ∧ True) ∧ (ACalls P escrowref12_Valid.n [v40] G42 fun v43 G44 => wv (vbin T .eql t_bool v41 v43) fun v45 => Q v45 G44))
  (Q (.bool false) G31))
  (Q (.bool false) G31))
  (Q (.bool false) G31))
  (Q (.bool false) G31))
  (Q (.bool false) G31))
def escrowlaw12_UpdateBytes.an : Ann := .two (.nil) (.two (.nil) (.two (.nil) (.two (.nil) (.two (.nil) (.two (.nil) (.two (.ord [(0, []), (1, []), (2, []), (3, []), (4, []), (5, []), (6, []), (7, []), (8, []), (9, []), (10, []), (11, []), (12, []), (13, []), (14, []), (15, []), (16, []), (17, []), (18, []), (19, []), (20, []), (21, []), (22, []), (23, []), (24, []), (26, []), (25, [26]), (27, []), (28, []), (29, []), (30, [])]) (.nil)))))))
set_option maxRecDepth 100000 in
theorem escrowlaw12_UpdateBytes.sound {a0 a1 : AVal} {G : Heap} {Q : AVal → Heap → Prop} (h : escrowlaw12_UpdateBytes.S a0 a1 G Q) : ACalls P escrowlaw12_UpdateBytes.n [a0, a1] G Q := by
  have e : escrowlaw12_UpdateBytes.S a0 a1 G Q = awp cx (escrowlaw12_UpdateBytes.body) escrowlaw12_UpdateBytes.an (bodyQ T [.tmp 4] Q) (envL [a0, a1]) G := by kernel_rfl
  exact ACalls_of_awp cxOk (f := escrowlaw12_UpdateBytes.n) (fn := Try.f3) (c := escrowlaw12_UpdateBytes.body) (an := escrowlaw12_UpdateBytes.an) Try.func3 (by kernel_rfl) (by kernel_rfl) (by kernel_rfl) (drawsOk_of (by kernel_rfl) (by kernel_rfl)) (by simp [Try.f3]) (e ▸ h)

/-! #### escrow/escrowref12.Find -/
def escrowref12_Find.S (a0 a1 : AVal) (G : Heap) (Q : AVal → Heap → Prop) : Prop :=
  aNew G (.own (z_api_Update)) fun i1 G2 => ∀ R3 : List AVal → Heap → Prop,
  (∀ (x5 x6 x7 x8 : AVal) (G4 : Heap), (wv (vlen T G4 t_sl_api_Update x5) fun v9 => wv (vbin T .lss t_int x8 v9) fun v10 => brB (some v10)
  (wv (viaddr T t_sl_api_Update x5 x8) fun v11 => wv (vfaddr T t_api_Update v11 0) fun v12 => wv (vload T G4 t_int v12) fun v13 => wv (vbin T .eql t_int v13 (.int .i64 1)) fun v14 => brB (some v14)
  (wv (viaddr T t_sl_api_Update x5 x8) fun v15 => wv (vfaddr T t_api_Update v15 1) fun v16 => wv (vload T G4 t_int64 v16) fun v17 => wv (vbin T .eql t_int64 v17 x6) fun v18 => brB (some v18)
  (wv (viaddr T t_sl_api_Update x5 x8) fun v25 => wv (vload T G4 t_api_Update v25) fun v26 => wg (vstore T G4 t_api_Update x7 v26) fun G27 => wv (vload T G27 t_api_Update x7) fun v28 => Q (.tuple [v28, .bool true]) G27)
  (wv (vbin T .add t_int x8 (.int .i64 1)) fun v31 => R3 [x5, x6, x7, v31] G4))
  (wv (vbin T .add t_int x8 (.int .i64 1)) fun v32 => R3 [x5, x6, x7, v32] G4))
  (wv (vbuild T t_api_Update []) fun v33 => wg (vstore T G4 t_api_Update x7 v33) fun G34 => wv (vload T G34 t_api_Update x7) fun v35 => Q (.tuple [v35, .bool false]) G34)) → R3 [x5, x6, x7, x8] G4) →
  R3 [a0, a1, .ptr i1 [] 0, .int .i64 0] G2
def escrowref12_Find.an : Ann := .two (.nil) (.two (.two (.nil) (.loop [0, 1, 4, 6] (.nil))) (.nil))
set_option maxRecDepth 100000 in
theorem escrowref12_Find.sound {a0 a1 : AVal} {G : Heap} {Q : AVal → Heap → Prop} (h : escrowref12_Find.S a0 a1 G Q) : ACalls P escrowref12_Find.n [a0, a1] G Q := by
  have e : escrowref12_Find.S a0 a1 G Q = awp cx (escrowref12_Find.body) escrowref12_Find.an (bodyQ T [.cell 4 25, .tmp 5] Q) (envL [a0, a1]) G := by kernel_rfl
  exact ACalls_of_awp cxOk (f := escrowref12_Find.n) (fn := Try.f16) (c := escrowref12_Find.body) (an := escrowref12_Find.an) Try.func16 (by kernel_rfl) (by kernel_rfl) (by kernel_rfl) (drawsOk_of (by kernel_rfl) (by kernel_rfl)) (by simp [Try.f16]) (e ▸ h)

/-! #### escrow/escrowref12.Removal -/
def escrowref12_Removal.S (a0 a1 : AVal) (G : Heap) (Q : AVal → Heap → Prop) : Prop :=
  aNew G (.own (z_api_Update)) fun i1 G2 => ∀ R3 : List AVal → Heap → Prop,
  (∀ (x5 x6 x7 x8 : AVal) (G4 : Heap), (wv (vlen T G4 t_sl_api_Update x5) fun v9 => wv (vbin T .lss t_int x8 v9) fun v10 => brB (some v10)
  (let J33 : AVal → Heap → Prop := (fun x28 G27 => brB (some x28)
  (wv (viaddr T t_sl_api_Update x5 x8) fun v29 => wv (vload T G27 t_api_Update v29) fun v30 => wg (vstore T G27 t_api_Update x7 v30) fun G31 => wv (vload T G31 t_api_Update x7) fun v32 => Q (.tuple [v32, .bool true]) G31)
  (wv (vbin T .add t_int x8 (.int .i64 1)) fun v34 => R3 [x5, x6, x7, v34] G27));
  wv (viaddr T t_sl_api_Update x5 x8) fun v11 => wv (vfaddr T t_api_Update v11 0) fun v12 => wv (vload T G4 t_int v12) fun v13 => wv (vbin T .eql t_int v13 (.int .i64 2)) fun v14 => brB (some v14)
  (wv (viaddr T t_sl_api_Update x5 x8) fun v15 => wv (vfaddr T t_api_Update v15 1) fun v16 => wv (vload T G4 t_int64 v16) fun v17 => wv (vbin T .eql t_int64 v17 x6) fun v18 => J33 v18 G4)
  (wv (viaddr T t_sl_api_Update x5 x8) fun v19 => wv (vfaddr T t_api_Update v19 0) fun v20 => wv (vload T G4 t_int v20) fun v21 => wv (vbin T .eql t_int v21 (.int .i64 3)) fun v22 => brB (some v22)
  (wv (viaddr T t_sl_api_Update x5 x8) fun v23 => wv (vfaddr T t_api_Update v23 1) fun v24 => wv (vload T G4 t_int64 v24) fun v25 => wv (vbin T .eql t_int64 v25 x6) fun v26 => J33 v26 G4)
  (J33 (.bool false) G4)))
  (wv (vbuild T t_api_Update []) fun v35 => wg (vstore T G4 t_api_Update x7 v35) fun G36 => wv (vload T G36 t_api_Update x7) fun v37 => Q (.tuple [v37, .bool false]) G36)) → R3 [x5, x6, x7, x8] G4) →
  R3 [a0, a1, .ptr i1 [] 0, .int .i64 0] G2
def escrowref12_Removal.an : Ann := .two (.nil) (.two (.two (.nil) (.loop [0, 1, 4, 6] (.nil))) (.nil))
set_option maxRecDepth 100000 in
theorem escrowref12_Removal.sound {a0 a1 : AVal} {G : Heap} {Q : AVal → Heap → Prop} (h : escrowref12_Removal.S a0 a1 G Q) : ACalls P escrowref12_Removal.n [a0, a1] G Q := by
  have e : escrowref12_Removal.S a0 a1 G Q = awp cx (escrowref12_Removal.body) escrowref12_Removal.an (bodyQ T [.cell 4 25, .tmp 5] Q) (envL [a0, a1]) G := by kernel_rfl
  exact ACalls_of_awp cxOk (f := escrowref12_Removal.n) (fn := Try.f17) (c := escrowref12_Removal.body) (an := escrowref12_Removal.an) Try.func17 (by kernel_rfl) (by kernel_rfl) (by kernel_rfl) (drawsOk_of (by kernel_rfl) (by kernel_rfl)) (by simp [Try.f17]) (e ▸ h)

/-! #### escrow/escrowref12.Adds -/
def escrowref12_Adds.S (a0 : AVal) (G : Heap) (Q : AVal → Heap → Prop) : Prop :=
  ∀ R1 : List AVal → Heap → Prop,
  (∀ (x3 x4 x5 : AVal) (G2 : Heap), (wv (vlen T G2 t_sl_api_Update x3) fun v6 => wv (vbin T .lss t_int x5 v6) fun v7 => brB (some v7)
  (wv (viaddr T t_sl_api_Update x3 x5) fun v8 => wv (vfaddr T t_api_Update v8 0) fun v9 => wv (vload T G2 t_int v9) fun v10 => wv (vbin T .eql t_int v10 (.int .i64 1)) fun v11 => brB (some v11)
  (wv (vbin T .add t_int64 x4 (.int .i64 1)) fun v12 => wv (vbin T .add t_int x5 (.int .i64 1)) fun v18 => R1 [x3, v12, v18] G2)
  (wv (vbin T .add t_int x5 (.int .i64 1)) fun v19 => R1 [x3, x4, v19] G2))
  (Q x4 G2)) → R1 [x3, x4, x5] G2) →
  R1 [a0, .int .i64 0, .int .i64 0] G
def escrowref12_Adds.an : Ann := .two (.nil) (.two (.nil) (.two (.two (.nil) (.loop [0, 3, 4] (.nil))) (.nil)))
set_option maxRecDepth 100000 in
theorem escrowref12_Adds.sound {a0 : AVal} {G : Heap} {Q : AVal → Heap → Prop} (h : escrowref12_Adds.S a0 G Q) : ACalls P escrowref12_Adds.n [a0] G Q := by
  have e : escrowref12_Adds.S a0 G Q = awp cx (escrowref12_Adds.body) escrowref12_Adds.an (bodyQ T [.tmp 2] Q) (envL [a0]) G := by kernel_rfl
  exact ACalls_of_awp cxOk (f := escrowref12_Adds.n) (fn := Try.f47) (c := escrowref12_Adds.body) (an := escrowref12_Adds.an) Try.func47 (by kernel_rfl) (by kernel_rfl) (by kernel_rfl) (drawsOk_of (by kernel_rfl) (by kernel_rfl)) (by simp [Try.f47]) (e ▸ h)

/-! #### escrow/escrowref02.padded -/
def escrowref02_padded.S (a0 : AVal) (G : Heap) (Q : AVal → Heap → Prop) : Prop :=
  aAppend T G t_sl_uint8 t_string (.nilSlice) a0 fun v1 G2 => aBuildSlice T t_sl_uint8 1 [(0, .int .u8 128)] G2 fun v3 G4 => aAppend T G4 t_sl_uint8 t_sl_uint8 v1 v3 fun v5 G6 => ∀ R7 : List AVal → Heap → Prop,
  (∀ (x9 x10 : AVal) (G8 : Heap), (wv (vlen T G8 t_sl_uint8 x10) fun v11 => wv (vbin T .rem t_int v11 (.int .i64 64)) fun v12 => wv (vbin T .neq t_int v12 (.int .i64 56)) fun v13 => brB (some v13)
  (aBuildSlice T t_sl_uint8 1 [(0, .int .u8 0)] G8 fun v14 G15 => aAppend T G15 t_sl_uint8 t_sl_uint8 x10 v14 fun v16 G17 => R7 [x9, v16] G17)
  (∀ R18 : List AVal → Heap → Prop,
  (∀ (x20 x21 x22 : AVal) (G19 : Heap), (wv (vbin T .geq t_int x22 (.int .i64 0)) fun v23 => brB (some v23)
  (wv (vlen T G19 t_string x20) fun v24 => wv (vbin T .mul t_int (.int .i64 8) v24) fun v25 => wv (vbin T .mul t_int (.int .i64 8) x22) fun v26 => wv (vbin T .shr t_int v25 v26) fun v27 => wv (vconv T G19 t_int t_uint8 v27) fun v28 => aBuildSlice T t_sl_uint8 1 [(0, v28)] G19 fun v29 G30 => aAppend T G30 t_sl_uint8 t_sl_uint8 x21 v29 fun v31 G32 => wv (vbin T .sub t_int x22 (.int .i64 1)) fun v33 => R18 [x20, v31, v33] G32)
  (Q x21 G19)) → R18 [x20, x21, x22] G19) →
  R18 [x9, x10, .int .i64 7] G8)) → R7 [x9, x10] G8) →
  R7 [a0, v5] G6
def escrowref02_padded.an : Ann := .two (.nil) (.two (.nil) (.two (.nil) (.two (.nil) (.two (.loop [0, 3] (.nil)) (.two (.two (.nil) (.loop [0, 3, 4] (.nil))) (.nil))))))
set_option maxRecDepth 100000 in
theorem escrowref02_padded.sound {a0 : AVal} {G : Heap} {Q : AVal → Heap → Prop} (h : escrowref02_padded.S a0 G Q) : ACalls P escrowref02_padded.n [a0] G Q := by
  have e : escrowref02_padded.S a0 G Q = awp cx (escrowref02_padded.body) escrowref02_padded.an (bodyQ T [.tmp 2] Q) (envL [a0]) G := by kernel_rfl
  exact ACalls_of_awp cxOk (f := escrowref02_padded.n) (fn := Try.f65) (c := escrowref02_padded.body) (an := escrowref02_padded.an) Try.func65 (by kernel_rfl) (by kernel_rfl) (by kernel_rfl) (drawsOk_of (by kernel_rfl) (by kernel_rfl)) (by simp [Try.f65]) (e ▸ h)

/-! #### escrow/escrowref02.rounds -/
def escrowref02_rounds.S (G : Heap) (Q : AVal → Heap → Prop) : Prop :=
  aNew G (.own (z_ar64_uint32)) fun i1 G2 => wv (vbuild T t_ar64_uint32 [(0, .int .u32 1116352408), (1, .int .u32 1899447441), (2, .int .u32 3049323471), (3, .int .u32 3921009573), (4, .int .u32 961987163), (5, .int .u32 1508970993), (6, .int .u32 2453635748), (7, .int .u32 2870763221), (8, .int .u32 3624381080), (9, .int .u32 310598401), (10, .int .u32 607225278), (11, .int .u32 1426881987), (12, .int .u32 1925078388), (13, .int .u32 2162078206), (14, .int .u32 2614888103), (15, .int .u32 3248222580), (16, .int .u32 3835390401), (17, .int .u32 4022224774), (18, .int .u32 264347078), (19, .int .u32 604807628), (20, .int .u32 770255983), (21, .int .u32 1249150122), (22, .int .u32 1555081692), (23, .int .u32 1996064986), (24, .int .u32 2554220882), (25, .int .u32 2821834349), (26, .int .u32 2952996808), (27, .int .u32 3210313671), (28, .int .u32 3336571891), (29, .int .u32 3584528711), (30, .int .u32 113926993), (31, .int .u32 338241895), (32, .int .u32 666307205), (33, .int .u32 773529912), (34, .int .u32 1294757372), (35, .int .u32 1396182291), (36, .int .u32 1695183700), (37, .int .u32 1986661051), (38, .int .u32 2177026350), (39, .int .u32 2456956037), (40, .int .u32 2730485921), (41, .int .u32 2820302411), (42, .int .u32 3259730800), (43, .int .u32 3345764771), (44, .int .u32 3516065817), (45, .int .u32 3600352804), (46, .int .u32 4094571909), (47, .int .u32 275423344), (48, .int .u32 430227734), (49, .int .u32 506948616), (50, .int .u32 659060556), (51, .int .u32 883997877), (52, .int .u32 958139571), (53, .int .u32 1322822218), (54, .int .u32 1537002063), (55, .int .u32 1747873779), (56, .int .u32 1955562222), (57, .int .u32 2024104815), (58, .int .u32 2227730452), (59, .int .u32 2361852424), (60, .int .u32 2428436474), (61, .int .u32 2756734187), (62, .int .u32 3204031479), (63, .int .u32 3329325298)]) fun v3 => wg (vstore T G2 t_ar64_uint32 (.ptr i1 [] 0) v3) fun G4 => wv (vload T G4 t_ar64_uint32 (.ptr i1 [] 0)) fun v5 => Q v5 G4
def escrowref02_rounds.an : Ann := .nil
set_option maxRecDepth 100000 in
theorem escrowref02_rounds.sound {G : Heap} {Q : AVal → Heap → Prop} (h : escrowref02_rounds.S G Q) : ACalls P escrowref02_rounds.n [] G Q := by
  have e : escrowref02_rounds.S G Q = awp cx (escrowref02_rounds.body) escrowref02_rounds.an (bodyQ T [.cell 0 97] Q) (envL []) G := by kernel_rfl
  exact ACalls_of_awp cxOk (f := escrowref02_rounds.n) (fn := Try.f72) (c := escrowref02_rounds.body) (an := escrowref02_rounds.an) Try.func72 (by kernel_rfl) (by kernel_rfl) (by kernel_rfl) (drawsOk_of (by kernel_rfl) (by kernel_rfl)) (by simp [Try.f72]) (e ▸ h)

/-! #### escrow/escrowref02.rot -/
def escrowref02_rot.S (a0 a1 : AVal) (G : Heap) (Q : AVal → Heap → Prop) : Prop :=
  wv (vbin T .shr t_uint32 a0 a1) fun v1 => wv (vbin T .sub t_int (.int .i64 32) a1) fun v2 => wv (vbin T .shl t_uint32 a0 v2) fun v3 => wv (vbin T .or t_uint32 v1 v3) fun v4 => Q v4 G
def escrowref02_rot.an : Ann := .two (.nil) (.two (.ord [(0, []), (1, []), (2, []), (3, []), (4, []), (5, []), (6, []), (7, []), (8, [])]) (.nil))
set_option maxRecDepth 100000 in
theorem escrowref02_rot.sound {a0 a1 : AVal} {G : Heap} {Q : AVal → Heap → Prop} (h : escrowref02_rot.S a0 a1 G Q) : ACalls P escrowref02_rot.n [a0, a1] G Q := by
  have e : escrowref02_rot.S a0 a1 G Q = awp cx (escrowref02_rot.body) escrowref02_rot.an (bodyQ T [.tmp 4] Q) (envL [a0, a1]) G := by kernel_rfl
  exact ACalls_of_awp cxOk (f := escrowref02_rot.n) (fn := Try.f73) (c := escrowref02_rot.body) (an := escrowref02_rot.an) Try.func73 (by kernel_rfl) (by kernel_rfl) (by kernel_rfl) (drawsOk_of (by kernel_rfl) (by kernel_rfl)) (by simp [Try.f73]) (e ▸ h)

end Go.Esc.M
