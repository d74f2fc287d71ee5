/- Printed by gen.py (own work): functions of the program Ytjfnbjpggfjhnaa over trees and the abstract heap. -/
import Derived.Test.YtjfnbjpggfjhnaaT
set_option linter.unusedSimpArgs false
set_option linter.unusedVariables false
namespace Go.Esc.M
open Go Go.Esc Go.Proofs

/-! #### escrow/hash.constants -/
def hash_constants.S (G : Heap) (Q : AVal → Heap → Prop) : Prop :=
  aNew G (.own (z_ar64_uint32)) fun i1 G2 => wv (vbuild T t_ar64_uint32 [(0, .int .u32 1116352408), (1, .int .u32 1899447441), (2, .int .u32 3049323471), (3, .int .u32 3921009573), (4, .int .u32 961987163), (5, .int .u32 1508970993), (6, .int .u32 2453635748), (7, .int .u32 2870763221), (8, .int .u32 3624381080), (9, .int .u32 310598401), (10, .int .u32 607225278), (11, .int .u32 1426881987), (12, .int .u32 1925078388), (13, .int .u32 2162078206), (14, .int .u32 2614888103), (15, .int .u32 3248222580), (16, .int .u32 3835390401), (17, .int .u32 4022224774), (18, .int .u32 264347078), (19, .int .u32 604807628), (20, .int .u32 770255983), (21, .int .u32 1249150122), (22, .int .u32 1555081692), (23, .int .u32 1996064986), (24, .int .u32 2554220882), (25, .int .u32 2821834349), (26, .int .u32 2952996808), (27, .int .u32 3210313671), (28, .int .u32 3336571891), (29, .int .u32 3584528711), (30, .int .u32 113926993), (31, .int .u32 338241895), (32, .int .u32 666307205), (33, .int .u32 773529912), (34, .int .u32 1294757372), (35, .int .u32 1396182291), (36, .int .u32 1695183700), (37, .int .u32 1986661051), (38, .int .u32 2177026350), (39, .int .u32 2456956037), (40, .int .u32 2730485921), (41, .int .u32 2820302411), (42, .int .u32 3259730800), (43, .int .u32 3345764771), (44, .int .u32 3516065817), (45, .int .u32 3600352804), (46, .int .u32 4094571909), (47, .int .u32 275423344), (48, .int .u32 430227734), (49, .int .u32 506948616), (50, .int .u32 659060556), (51, .int .u32 883997877), (52, .int .u32 958139571), (53, .int .u32 1322822218), (54, .int .u32 1537002063), (55, .int .u32 1747873779), (56, .int .u32 1955562222), (57, .int .u32 2024104815), (58, .int .u32 2227730452), (59, .int .u32 2361852424), (60, .int .u32 2428436474), (61, .int .u32 2756734187), (62, .int .u32 3204031479), (63, .int .u32 3329325298)]) fun v3 => wg (vstore T G2 t_ar64_uint32 (.ptr i1 [] 0) v3) fun G4 => wv (vload T G4 t_ar64_uint32 (.ptr i1 [] 0)) fun v5 => Q v5 G4
def hash_constants.an : Ann := .nil
set_option maxRecDepth 100000 in
theorem hash_constants.sound {G : Heap} {Q : AVal → Heap → Prop} (h : hash_constants.S G Q) : ACalls P hash_constants.n [] G Q := by
  have e : hash_constants.S G Q = awp cx (hash_constants.body) hash_constants.an (bodyQ T [.cell 0 39] Q) (envL []) G := by kernel_rfl
  exact ACalls_of_awp cxOk (f := hash_constants.n) (fn := Try.f19) (c := hash_constants.body) (an := hash_constants.an) Try.func19 (by kernel_rfl) (by kernel_rfl) (by kernel_rfl) (drawsOk_of (by kernel_rfl) (by kernel_rfl)) (by simp [Try.f19]) (e ▸ h)

/-! #### math/bits.RotateLeft32 -/
def bits_RotateLeft32.S (a0 a1 : AVal) (G : Heap) (Q : AVal → Heap → Prop) : Prop :=
  wv (vconv T G t_int t_uint a1) fun v1 => wv (vbin T .and t_uint v1 (.int .u64 31)) fun v2 => wv (vbin T .shl t_uint32 a0 v2) fun v3 => wv (vbin T .sub t_uint (.int .u64 32) v2) fun v4 => wv (vbin T .shr t_uint32 a0 v4) fun v5 => wv (vbin T .or t_uint32 v3 v5) fun v6 => Q v6 G
def bits_RotateLeft32.an : Ann := .nil
set_option maxRecDepth 100000 in
theorem bits_RotateLeft32.sound {a0 a1 : AVal} {G : Heap} {Q : AVal → Heap → Prop} (h : bits_RotateLeft32.S a0 a1 G Q) : ACalls P bits_RotateLeft32.n [a0, a1] G Q := by
  have e : bits_RotateLeft32.S a0 a1 G Q = awp cx (bits_RotateLeft32.body) bits_RotateLeft32.an (bodyQ T [.tmp 4] Q) (envL [a0, a1]) G := by kernel_rfl
  exact ACalls_of_awp cxOk (f := bits_RotateLeft32.n) (fn := Try.f27) (c := bits_RotateLeft32.body) (an := bits_RotateLeft32.an) Try.func27 (by kernel_rfl) (by kernel_rfl) (by kernel_rfl) (drawsOk_of (by kernel_rfl) (by kernel_rfl)) (by simp [Try.f27]) (e ▸ h)

/-! #### escrow/hash.schedule -/
def hash_schedule.S (a0 : AVal) (G : Heap) (Q : AVal → Heap → Prop) : Prop :=
  aNew G (.own (z_ar64_uint32)) fun i1 G2 => aNew G2 (.own (z_ar64_uint32)) fun i3 G4 => ∀ R5 : List AVal → Heap → Prop,
  (∀ (x7 x8 x9 x10 : AVal) (G6 : Heap), (wv (vbin T .lss t_int x10 (.int .i64 16)) fun v11 => brB (some v11)
  (∀ R12 : List AVal → Heap → Prop,
  (∀ (x14 x15 x16 x17 x18 x19 : AVal) (G13 : Heap), (wv (vbin T .lss t_int x19 (.int .i64 4)) fun v20 => brB (some v20)
  (wv (viaddr T t_ar64_uint32 x16 x17) fun v21 => wv (vload T G13 t_uint32 v21) fun v22 => wv (vbin T .shl t_uint32 v22 (.int .u64 8)) fun v23 => wv (vbin T .mul t_int (.int .i64 4) x17) fun v24 => wv (vbin T .add t_int v24 x19) fun v25 => wv (vindex T t_string x14 v25) fun v26 => wv (vconv T G13 t_uint8 t_uint32 v26) fun v27 => wv (vbin T .or t_uint32 v23 v27) fun v28 => wv (viaddr T t_ar64_uint32 x16 x17) fun v29 => wg (vstore T G13 t_uint32 v29 v28) fun G30 => wv (vbin T .add t_int x19 (.int .i64 1)) fun v31 => R12 [x14, x15, x16, x17, x18, v31] G30)
  (wv (vbin T .add t_int x18 (.int .i64 1)) fun v32 => R5 [x14, x15, x16, v32] G13)) → R12 [x14, x15, x16, x17, x18, x19] G13) →
  R12 [x7, x8, x9, x10, x10, .int .i64 0] G6)
  (∀ R33 : List AVal → Heap → Prop,
  (∀ (x35 x36 x37 : AVal) (G34 : Heap), (wv (vbin T .lss t_int x37 (.int .i64 64)) fun v38 => brB (some v38)
  (wv (vbin T .sub t_int x37 (.int .i64 15)) fun v39 => wv (viaddr T t_ar64_uint32 x36 v39) fun v40 => wv (vload T G34 t_uint32 v40) fun v41 => wv (vbin T .sub t_int x37 (.int .i64 2)) fun v42 => wv (viaddr T t_ar64_uint32 x36 v42) fun v43 => wv (vload T G34 t_uint32 v43) fun v44 => ACalls P bits_RotateLeft32.n [v41, .int .i64 (-7)] G34 fun v45 G46 => ACalls P bits_RotateLeft32.n [v41, .int .i64 (-18)] G46 fun v47 G48 => wv (vbin T .xor t_uint32 v45 v47) fun v49 => wv (vbin T .shr t_uint32 v41 (.int .u64 3)) fun v50 => wv (vbin T .xor t_uint32 v49 v50) fun v51 => ACalls P bits_RotateLeft32.n [v44, .int .i64 (-17)] G48 fun v52 G53 => ACalls P bits_RotateLeft32.n [v44, .int .i64 (-19)] G53 fun v54 G55 => wv (vbin T .xor t_uint32 v52 v54) fun v56 => wv (vbin T .shr t_uint32 v44 (.int .u64 10)) fun v57 => wv (vbin T .xor t_uint32 v56 v57) fun v58 => wv (vbin T .sub t_int x37 (.int .i64 16)) fun v59 => wv (viaddr T t_ar64_uint32 x36 v59) fun v60 => wv (vload T G55 t_uint32 v60) fun v61 => wv (vbin T .add t_uint32 v61 v51) fun v62 => wv (vbin T .sub t_int x37 (.int .i64 7)) fun v63 => wv (viaddr T t_ar64_uint32 x36 v63) fun v64 => wv (vload T G55 t_uint32 v64) fun v65 => wv (vbin T .add t_uint32 v62 v65) fun v66 => wv (vbin T .add t_uint32 v66 v58) fun v67 => wv (viaddr T t_ar64_uint32 x36 x37) fun v68 => wg (vstore T G55 t_uint32 v68 v67) fun G69 => wv (vbin T .add t_int x37 (.int .i64 1)) fun v70 => R33 [x35, x36, v70] G69)
  (wv (vload T G34 t_ar64_uint32 x36) fun v71 => wg (vstore T G34 t_ar64_uint32 x35 v71) fun G72 => wv (vload T G72 t_ar64_uint32 x35) fun v73 => Q v73 G72)) → R33 [x35, x36, x37] G34) →
  R33 [x8, x9, .int .i64 16] G6)) → R5 [x7, x8, x9, x10] G6) →
  R5 [a0, .ptr i1 [] 0, .ptr i3 [] 0, .int .i64 0] G4
def hash_schedule.an : Ann := .two (.nil) (.two (.nil) (.two (.two (.nil) (.loop [0, 2, 3, 11] (.two (.nil) (.two (.nil) (.two (.two (.nil) (.two (.nil) (.loop [0, 2, 3, 4, 11, 14] (.two (.nil) (.two (.nil) (.two (.two (.nil) (.ord [(0, []), (1, []), (2, []), (3, []), (4, []), (5, []), (6, []), (7, []), (8, []), (9, []), (10, []), (11, []), (12, []), (13, []), (14, [])])) (.nil))))))) (.nil)))))) (.two (.two (.nil) (.loop [2, 3, 6] (.two (.nil) (.two (.two (.ord [(0, []), (1, []), (2, []), (3, []), (4, []), (5, []), (6, []), (7, []), (8, []), (9, [])]) (.two (.nil) (.two (.nil) (.ord [(0, []), (1, []), (2, []), (3, []), (4, []), (5, []), (6, []), (7, []), (8, []), (9, []), (10, []), (11, []), (12, []), (13, []), (14, []), (15, [])])))) (.nil))))) (.nil))))
set_option maxRecDepth 100000 in
theorem hash_schedule.sound {a0 : AVal} {G : Heap} {Q : AVal → Heap → Prop} (h : hash_schedule.S a0 G Q) : ACalls P hash_schedule.n [a0] G Q := by
  have e : hash_schedule.S a0 G Q = awp cx (hash_schedule.body) hash_schedule.an (bodyQ T [.cell 2 39] Q) (envL [a0]) G := by kernel_rfl
  exact ACalls_of_awp cxOk (f := hash_schedule.n) (fn := Try.f26) (c := hash_schedule.body) (an := hash_schedule.an) Try.func26 (by kernel_rfl) (by kernel_rfl) (by kernel_rfl) (drawsOk_of (by kernel_rfl) (by kernel_rfl)) (by simp [Try.f26]) (e ▸ h)

/-! #### escrow/hash.turned -/
def hash_turned.S (a0 a1 a2 : AVal) (G : Heap) (Q : AVal → Heap → Prop) : Prop :=
  aNew G (.own (a0)) fun i1 G2 => aNew G2 (.own (z_ar8_uint32)) fun i3 G4 => wv (vload T G4 t_ar8_uint32 (.ptr i1 [] 0)) fun v5 => ACalls P hash_schedule.n [a1] G4 fun v6 G7 => (vload T G7 t_ar8_uint32 (.ptr i1 [] 0) = some v5 ∧ True) ∧ (aNew G7 (.own (z_ar64_uint32)) fun i8 G9 => aNew G9 (.own (z_ar8_uint32)) fun i10 G11 => wg (vstore T G11 t_ar64_uint32 (.ptr i8 [] 0) v6) fun G12 => (vload T G12 t_ar8_uint32 (.ptr i1 [] 0) = some v5 ∧ True) ∧ (wg (vstore T G12 t_ar8_uint32 (.ptr i10 [] 0) v5) fun G13 => ∀ R14 : List AVal → Heap → Prop,
  (∀ (x16 x17 x18 x19 x20 x21 : AVal) (G15 : Heap), (wv (vbin T .lss t_int x21 (.int .i64 64)) fun v22 => brB (some v22)
  (wv (viaddr T t_ar8_uint32 x20 (.int .i64 4)) fun v23 => wv (vload T G15 t_uint32 v23) fun v24 => wv (viaddr T t_ar8_uint32 x20 (.int .i64 0)) fun v25 => wv (vload T G15 t_uint32 v25) fun v26 => wv (viaddr T t_ar8_uint32 x20 (.int .i64 7)) fun v27 => wv (vload T G15 t_uint32 v27) fun v28 => wv (viaddr T t_ar8_uint32 x20 (.int .i64 5)) fun v29 => wv (vload T G15 t_uint32 v29) fun v30 => wv (vbin T .and t_uint32 v24 v30) fun v31 => wv (vun .xor v24) fun v32 => wv (viaddr T t_ar8_uint32 x20 (.int .i64 6)) fun v33 => wv (vload T G15 t_uint32 v33) fun v34 => wv (vbin T .and t_uint32 v32 v34) fun v35 => wv (vbin T .xor t_uint32 v31 v35) fun v36 => wv (vnil x16) fun v37 => wv (viaddr T t_ar64_uint32 v37 x21) fun v38 => wv (vload T G15 t_uint32 v38) fun v39 => wv (viaddr T t_ar64_uint32 x19 x21) fun v40 => wv (vload T G15 t_uint32 v40) fun v41 => ACalls P bits_RotateLeft32.n [v24, .int .i64 (-6)] G15 fun v42 G43 => (vload T G43 t_uint32 v40 = some v41 ∧ vload T G43 t_uint32 v38 = some v39 ∧ vload T G43 t_uint32 v33 = some v34 ∧ vload T G43 t_uint32 v29 = some v30 ∧ vload T G43 t_uint32 v27 = some v28 ∧ True) ∧ (ACalls P bits_RotateLeft32.n [v24, .int .i64 (-11)] G43 fun v44 G45 => (vload T G45 t_uint32 v40 = some v41 ∧ vload T G45 t_uint32 v38 = some v39 ∧ vload T G45 t_uint32 v33 = some v34 ∧ vload T G45 t_uint32 v29 = some v30 ∧ vload T G45 t_uint32 v27 = some v28 ∧ True) ∧ (wv (vbin T .xor t_uint32 v42 v44) fun v46 => ACalls P bits_RotateLeft32.n [v24, .int .i64 (-25)] G45 fun v47 G48 => (vload T G48 t_uint32 v40 = some v41 ∧ vload T G48 t_uint32 v38 = some v39 ∧ vload T G48 t_uint32 v33 = some v34 ∧ vload T G48 t_uint32 v29 = some v30 ∧ vload T G48 t_uint32 v27 = some v28 ∧ True) ∧ (wv (vbin T .xor t_uint32 v46 v47) fun v49 => wv (vbin T .add t_uint32 v28 v49) fun v50 => wv (vbin T .add t_uint32 v50 v36) fun v51 => wv (vbin T .add t_uint32 v51 v39) fun v52 => wv (vbin T .add t_uint32 v52 v41) fun v53 => wv (viaddr T t_ar8_uint32 x20 (.int .i64 1)) fun v54 => wv (vload T G48 t_uint32 v54) fun v55 => wv (vbin T .and t_uint32 v26 v55) fun v56 => wv (viaddr T t_ar8_uint32 x20 (.int .i64 2)) fun v57 => wv (vload T G48 t_uint32 v57) fun v58 => wv (vbin T .and t_uint32 v26 v58) fun v59 => wv (vbin T .xor t_uint32 v56 v59) fun v60 => wv (viaddr T t_ar8_uint32 x20 (.int .i64 1)) fun v61 => wv (vload T G48 t_uint32 v61) fun v62 => wv (viaddr T t_ar8_uint32 x20 (.int .i64 2)) fun v63 => wv (vload T G48 t_uint32 v63) fun v64 => wv (vbin T .and t_uint32 v62 v64) fun v65 => wv (vbin T .xor t_uint32 v60 v65) fun v66 => ACalls P bits_RotateLeft32.n [v26, .int .i64 (-2)] G48 fun v67 G68 => (vload T G68 t_uint32 v63 = some v64 ∧ vload T G68 t_uint32 v61 = some v62 ∧ vload T G68 t_uint32 v57 = some v58 ∧ vload T G68 t_uint32 v54 = some v55 ∧ True) ∧ (ACalls P bits_RotateLeft32.n [v26, .int .i64 (-13)] G68 fun v69 G70 => (vload T G70 t_uint32 v63 = some v64 ∧ vload T G70 t_uint32 v61 = some v62 ∧ vload T G70 t_uint32 v57 = some v58 ∧ vload T G70 t_uint32 v54 = some v55 ∧ True) ∧ (wv (vbin T .xor t_uint32 v67 v69) fun v71 => ACalls P bits_RotateLeft32.n [v26, .int .i64 (-22)] G70 fun v72 G73 => (vload T G73 t_uint32 v63 = some v64 ∧ vload T G73 t_uint32 v61 = some v62 ∧ vload T G73 t_uint32 v57 = some v58 ∧ vload T G73 t_uint32 v54 = some v55 ∧ True) ∧ (wv (vbin T .xor t_uint32 v71 v72) fun v74 => wv (vbin T .add t_uint32 v74 v66) fun v75 => wv (vbin T .add t_uint32 v53 v75) fun v76 => wv (viaddr T t_ar8_uint32 x20 (.int .i64 1)) fun v77 => wv (vload T G73 t_uint32 v77) fun v78 => wv (viaddr T t_ar8_uint32 x20 (.int .i64 2)) fun v79 => wv (vload T G73 t_uint32 v79) fun v80 => wv (viaddr T t_ar8_uint32 x20 (.int .i64 3)) fun v81 => wv (vload T G73 t_uint32 v81) fun v82 => wv (vbin T .add t_uint32 v82 v53) fun v83 => wv (viaddr T t_ar8_uint32 x20 (.int .i64 5)) fun v84 => wv (vload T G73 t_uint32 v84) fun v85 => wv (viaddr T t_ar8_uint32 x20 (.int .i64 6)) fun v86 => wv (vload T G73 t_uint32 v86) fun v87 => wv (vbuild T t_ar8_uint32 [(0, v76), (1, v26), (2, v78), (3, v80), (4, v83), (5, v24), (6, v85), (7, v87)]) fun v88 => wg (vstore T G73 t_ar8_uint32 x20 v88) fun G89 => wv (vbin T .add t_int x21 (.int .i64 1)) fun v90 => R14 [x16, x17, x18, x19, x20, v90] G89)))))))
  (∀ R91 : List AVal → Heap → Prop,
  (∀ (x93 x94 x95 x96 : AVal) (G92 : Heap), (wv (vbin T .lss t_int x96 (.int .i64 8)) fun v97 => brB (some v97)
  (wv (viaddr T t_ar8_uint32 x95 x96) fun v98 => wv (vload T G92 t_uint32 v98) fun v99 => wv (viaddr T t_ar8_uint32 x93 x96) fun v100 => wv (vload T G92 t_uint32 v100) fun v101 => wv (vbin T .add t_uint32 v99 v101) fun v102 => wv (viaddr T t_ar8_uint32 x95 x96) fun v103 => wg (vstore T G92 t_uint32 v103 v102) fun G104 => wv (vbin T .add t_int x96 (.int .i64 1)) fun v105 => R91 [x93, x94, x95, v105] G104)
  (wv (vload T G92 t_ar8_uint32 x95) fun v106 => wg (vstore T G92 t_ar8_uint32 x94 v106) fun G107 => wv (vload T G107 t_ar8_uint32 x94) fun v108 => Q v108 G107)) → R91 [x93, x94, x95, x96] G92) →
  R91 [x17, x18, x20, .int .i64 0] G15)) → R14 [x16, x17, x18, x19, x20, x21] G15) →
  R14 [a2, .ptr i1 [] 0, .ptr i3 [] 0, .ptr i8 [] 0, .ptr i10 [] 0, .int .i64 0] G13))
def hash_turned.an : Ann := .two (.nil) (.two (.ord [(0, []), (2, []), (1, [2]), (3, []), (4, []), (5, [2]), (6, [])]) (.two (.two (.nil) (.loop [2, 3, 6, 7, 8, 18] (.two (.nil) (.two (.nil) (.two (.two (.nil) (.two (.ord [(0, []), (1, []), (2, []), (3, []), (4, []), (5, [])]) (.two (.ord [(0, []), (1, []), (2, []), (4, []), (7, []), (11, []), (12, []), (13, []), (14, []), (15, []), (16, []), (17, []), (18, []), (19, []), (20, []), (22, []), (23, []), (24, []), (25, []), (26, []), (28, []), (29, []), (30, []), (3, [1, 13, 18, 26, 30]), (5, [1, 13, 18, 26, 30]), (6, []), (8, [1, 13, 18, 26, 30]), (9, []), (10, []), (21, []), (27, []), (31, []), (32, [])]) (.two (.ord [(0, []), (2, []), (5, []), (8, []), (9, []), (10, []), (11, []), (12, []), (13, []), (14, []), (15, []), (16, []), (17, []), (18, []), (19, []), (20, []), (21, []), (22, []), (1, [10, 14, 18, 20]), (3, [10, 14, 18, 20]), (4, []), (6, [10, 14, 18, 20]), (7, []), (23, []), (24, [])]) (.nil))))) (.nil)))))) (.two (.two (.nil) (.loop [3, 6, 8, 100] (.two (.nil) (.two (.nil) (.two (.two (.nil) (.ord [(0, []), (1, []), (2, []), (3, []), (4, []), (5, []), (6, []), (7, []), (8, [])])) (.nil)))))) (.nil))))
set_option maxRecDepth 100000 in
theorem hash_turned.sound {a0 a1 a2 : AVal} {G : Heap} {Q : AVal → Heap → Prop} (h : hash_turned.S a0 a1 a2 G Q) : ACalls P hash_turned.n [a0, a1, a2] G Q := by
  have e : hash_turned.S a0 a1 a2 G Q = awp cx (hash_turned.body) hash_turned.an (bodyQ T [.cell 6 38] Q) (envL [a0, a1, a2]) G := by kernel_rfl
  exact ACalls_of_awp cxOk (f := hash_turned.n) (fn := Try.f20) (c := hash_turned.body) (an := hash_turned.an) Try.func20 (by kernel_rfl) (by kernel_rfl) (by kernel_rfl) (drawsOk_of (by kernel_rfl) (by kernel_rfl)) (by simp [Try.f20]) (e ▸ h)

/-! #### escrow/hash.Sum -/
def hash_Sum.S (a0 : AVal) (G : Heap) (Q : AVal → Heap → Prop) : Prop :=
  aNew G (.own (z_api_Hash)) fun i1 G2 => ACalls P strings_Join.n [a0, .str []] G2 fun v3 G4 => wv (vlen T G4 t_string v3) fun v5 => aBuildSlice T t_sl_uint8 1 [(0, .int .u8 128)] G4 fun v6 G7 => ∀ R8 : List AVal → Heap → Prop,
  (∀ (x10 x11 x12 x13 : AVal) (G9 : Heap), (wv (vlen T G9 t_sl_uint8 x13) fun v14 => wv (vbin T .add t_int x12 v14) fun v15 => wv (vbin T .rem t_int v15 (.int .i64 64)) fun v16 => wv (vbin T .neq t_int v16 (.int .i64 56)) fun v17 => brB (some v17)
  (aBuildSlice T t_sl_uint8 1 [(0, .int .u8 0)] G9 fun v18 G19 => aAppend T G19 t_sl_uint8 t_sl_uint8 x13 v18 fun v20 G21 => R8 [x10, x11, x12, v20] G21)
  (∀ R22 : List AVal → Heap → Prop,
  (∀ (x24 x25 x26 x27 x28 : AVal) (G23 : Heap), (wv (vbin T .lss t_int x28 (.int .i64 8)) fun v29 => brB (some v29)
  (wv (vbin T .mul t_int (.int .i64 8) x26) fun v30 => wv (vconv T G23 t_int t_uint64 v30) fun v31 => wv (vbin T .mul t_int (.int .i64 8) x28) fun v32 => wv (vbin T .sub t_int (.int .i64 56) v32) fun v33 => wv (vbin T .shr t_uint64 v31 v33) fun v34 => wv (vconv T G23 t_uint64 t_uint8 v34) fun v35 => aBuildSlice T t_sl_uint8 1 [(0, v35)] G23 fun v36 G37 => aAppend T G37 t_sl_uint8 t_sl_uint8 x27 v36 fun v38 G39 => wv (vbin T .add t_int x28 (.int .i64 1)) fun v40 => R22 [x24, x25, x26, v38, v40] G39)
  (wv (vconv T G23 t_sl_uint8 t_string x27) fun v41 => wv (vbin T .add t_string x25 v41) fun v42 => wv (vbuild T t_ar8_uint32 [(0, .int .u32 1779033703), (1, .int .u32 3144134277), (2, .int .u32 1013904242), (3, .int .u32 2773480762), (4, .int .u32 1359893119), (5, .int .u32 2600822924), (6, .int .u32 528734635), (7, .int .u32 1541459225)]) fun v43 => aNew G23 (.own (z_ar8_uint32)) fun i44 G45 => wg (vstore T G45 t_ar8_uint32 (.ptr i44 [] 0) v43) fun G46 => ACalls P hash_constants.n [] G46 fun v47 G48 => aNew G48 (.own (z_ar64_uint32)) fun i49 G50 => wg (vstore T G50 t_ar64_uint32 (.ptr i49 [] 0) v47) fun G51 => ∀ R52 : List AVal → Heap → Prop,
  (∀ (x54 x55 x56 x57 : AVal) (G53 : Heap), (wv (vbin T .neq t_string x55 (.str [])) fun v58 => brB (some v58)
  (wv (vload T G53 t_ar8_uint32 x56) fun v59 => wv (vslice T t_string x55 none (some (.int .i64 64)) none) fun v60 => ACalls P hash_turned.n [v59, v60, x57] G53 fun v61 G62 => wg (vstore T G62 t_ar8_uint32 x56 v61) fun G63 => wv (vslice T t_string x55 (some (.int .i64 64)) none none) fun v64 => R52 [x54, v64, x56, x57] G63)
  (aNew G53 (.own (z_api_Hash)) fun i65 G66 => ∀ R67 : List AVal → Heap → Prop,
  (∀ (x69 x70 x71 x72 : AVal) (G68 : Heap), (wv (vbin T .lss t_int x72 (.int .i64 32)) fun v73 => brB (some v73)
  (wv (vbin T .quo t_int x72 (.int .i64 4)) fun v74 => wv (viaddr T t_ar8_uint32 x70 v74) fun v75 => wv (vload T G68 t_uint32 v75) fun v76 => wv (vbin T .rem t_int x72 (.int .i64 4)) fun v77 => wv (vbin T .mul t_int (.int .i64 8) v77) fun v78 => wv (vbin T .sub t_int (.int .i64 24) v78) fun v79 => wv (vbin T .shr t_uint32 v76 v79) fun v80 => wv (vconv T G68 t_uint32 t_uint8 v80) fun v81 => wv (viaddr T t_api_Hash x71 x72) fun v82 => wg (vstore T G68 t_uint8 v82 v81) fun G83 => wv (vbin T .add t_int x72 (.int .i64 1)) fun v84 => R67 [x69, x70, x71, v84] G83)
  (wv (vload T G68 t_api_Hash x71) fun v85 => wg (vstore T G68 t_api_Hash x69 v85) fun G86 => wv (vload T G86 t_api_Hash x69) fun v87 => Q v87 G86)) → R67 [x69, x70, x71, x72] G68) →
  R67 [x54, x56, .ptr i65 [] 0, .int .i64 0] G66)) → R52 [x54, x55, x56, x57] G53) →
  R52 [x24, v42, .ptr i44 [] 0, .ptr i49 [] 0] G51)) → R22 [x24, x25, x26, x27, x28] G23) →
  R22 [x10, x11, x12, x13, .int .i64 0] G9)) → R8 [x10, x11, x12, x13] G9) →
  R8 [.ptr i1 [] 0, v3, v5, v6] G7
def hash_Sum.an : Ann := .two (.nil) (.two (.nil) (.two (.nil) (.two (.nil) (.two (.loop [2, 3, 4, 5] (.nil)) (.two (.two (.nil) (.loop [2, 3, 4, 5, 25] (.nil))) (.two (.nil) (.two (.nil) (.two (.nil) (.two (.loop [2, 3, 7, 8] (.two (.nil) (.two (.ord [(0, []), (1, []), (2, []), (3, []), (4, [])]) (.nil)))) (.two (.nil) (.two (.two (.nil) (.loop [2, 7, 9, 54] (.nil))) (.nil))))))))))))
set_option maxRecDepth 100000 in
theorem hash_Sum.sound {a0 : AVal} {G : Heap} {Q : AVal → Heap → Prop} (h : hash_Sum.S a0 G Q) : ACalls P hash_Sum.n [a0] G Q := by
  have e : hash_Sum.S a0 G Q = awp cx (hash_Sum.body) hash_Sum.an (bodyQ T [.cell 2 23] Q) (envL [a0]) G := by kernel_rfl
  exact ACalls_of_awp cxOk (f := hash_Sum.n) (fn := Try.f13) (c := hash_Sum.body) (an := hash_Sum.an) Try.func13 (by kernel_rfl) (by kernel_rfl) (by kernel_rfl) (drawsOk_of (by kernel_rfl) (by kernel_rfl)) (by simp [Try.f13]) (e ▸ h)

/-! #### escrow/hash.over -/
def hash_over.S (a0 a1 : AVal) (G : Heap) (Q : AVal → Heap → Prop) : Prop :=
  aNew G (.own (a0)) fun i1 G2 => aNew G2 (.own (z_ar64_uint8)) fun i3 G4 => wv (vslice T t_ar64_uint8 (.ptr i3 [] 0) none none none) fun v5 => wv (vslice T t_api_Hash (.ptr i1 [] 0) none none none) fun v6 => aCopy T G4 t_sl_uint8 v5 v6 fun v7 G8 => ∀ R9 : List AVal → Heap → Prop,
  (∀ (x11 x12 x13 : AVal) (G10 : Heap), (wv (vbin T .lss t_int x13 (.int .i64 64)) fun v14 => brB (some v14)
  (wv (viaddr T t_ar64_uint8 x12 x13) fun v15 => wv (vload T G10 t_uint8 v15) fun v16 => wv (vbin T .xor t_uint8 v16 x11) fun v17 => wv (viaddr T t_ar64_uint8 x12 x13) fun v18 => wg (vstore T G10 t_uint8 v18 v17) fun G19 => wv (vbin T .add t_int x13 (.int .i64 1)) fun v20 => R9 [x11, x12, v20] G19)
  (wv (vslice T t_ar64_uint8 x12 none none none) fun v21 => wv (vconv T G10 t_sl_uint8 t_string v21) fun v22 => Q v22 G10)) → R9 [x11, x12, x13] G10) →
  R9 [a1, .ptr i3 [] 0, .int .i64 0] G8
def hash_over.an : Ann := .two (.nil) (.two (.nil) (.two (.ord [(0, []), (1, []), (2, [])]) (.two (.two (.nil) (.loop [1, 5, 10] (.nil))) (.nil))))
set_option maxRecDepth 100000 in
theorem hash_over.sound {a0 a1 : AVal} {G : Heap} {Q : AVal → Heap → Prop} (h : hash_over.S a0 a1 G Q) : ACalls P hash_over.n [a0, a1] G Q := by
  have e : hash_over.S a0 a1 G Q = awp cx (hash_over.body) hash_over.an (bodyQ T [.tmp 4] Q) (envL [a0, a1]) G := by kernel_rfl
  exact ACalls_of_awp cxOk (f := hash_over.n) (fn := Try.f14) (c := hash_over.body) (an := hash_over.an) Try.func14 (by kernel_rfl) (by kernel_rfl) (by kernel_rfl) (drawsOk_of (by kernel_rfl) (by kernel_rfl)) (by simp [Try.f14]) (e ▸ h)

/-! #### escrow/hash.Mac -/
def hash_Mac.S (a0 a1 : AVal) (G : Heap) (Q : AVal → Heap → Prop) : Prop :=
  aNew G (.own (a0)) fun i1 G2 => aNew G2 (.own (z_api_Hash)) fun i3 G4 => wv (vload T G4 t_api_Hash (.ptr i1 [] 0)) fun v5 => ACalls P hash_over.n [v5, .int .u8 54] G4 fun v6 G7 => aBuildSlice T t_sl_string 2 [(0, v6), (1, a1)] G7 fun v8 G9 => ACalls P hash_Sum.n [v8] G9 fun v10 G11 => aNew G11 (.own (z_api_Hash)) fun i12 G13 => wg (vstore T G13 t_api_Hash (.ptr i12 [] 0) v10) fun G14 => wv (vload T G14 t_api_Hash (.ptr i1 [] 0)) fun v15 => wv (vslice T t_api_Hash (.ptr i12 [] 0) none none none) fun v16 => wv (vconv T G14 t_sl_uint8 t_string v16) fun v17 => ACalls P hash_over.n [v15, .int .u8 92] G14 fun v18 G19 => (vconv T G19 t_sl_uint8 t_string v16 = some v17 ∧ True) ∧ (aBuildSlice T t_sl_string 2 [(0, v18), (1, v17)] G19 fun v20 G21 => ACalls P hash_Sum.n [v20] G21 fun v22 G23 => wg (vstore T G23 t_api_Hash (.ptr i3 [] 0) v22) fun G24 => wv (vload T G24 t_api_Hash (.ptr i3 [] 0)) fun v25 => Q v25 G24)
def hash_Mac.an : Ann := .two (.nil) (.two (.nil) (.two (.ord [(0, []), (2, []), (3, []), (1, [3]), (4, []), (5, []), (6, [])]) (.nil)))
set_option maxRecDepth 100000 in
theorem hash_Mac.sound {a0 a1 : AVal} {G : Heap} {Q : AVal → Heap → Prop} (h : hash_Mac.S a0 a1 G Q) : ACalls P hash_Mac.n [a0, a1] G Q := by
  have e : hash_Mac.S a0 a1 G Q = awp cx (hash_Mac.body) hash_Mac.an (bodyQ T [.cell 4 23] Q) (envL [a0, a1]) G := by kernel_rfl
  exact ACalls_of_awp cxOk (f := hash_Mac.n) (fn := Try.f11) (c := hash_Mac.body) (an := hash_Mac.an) Try.func11 (by kernel_rfl) (by kernel_rfl) (by kernel_rfl) (drawsOk_of (by kernel_rfl) (by kernel_rfl)) (by simp [Try.f11]) (e ▸ h)

/-! #### escrow/seal.Sign -/
def seal_Sign.S (a0 a1 : AVal) (G : Heap) (Q : AVal → Heap → Prop) : Prop :=
  aNew G (.own (a0)) fun i1 G2 => aNew G2 (.own (z_api_Hash)) fun i3 G4 => wv (vload T G4 t_api_Hash (.ptr i1 [] 0)) fun v5 => ACalls P hash_Mac.n [v5, a1] G4 fun v6 G7 => wg (vstore T G7 t_api_Hash (.ptr i3 [] 0) v6) fun G8 => wv (vload T G8 t_api_Hash (.ptr i3 [] 0)) fun v9 => Q v9 G8
def seal_Sign.an : Ann := .nil
set_option maxRecDepth 100000 in
theorem seal_Sign.sound {a0 a1 : AVal} {G : Heap} {Q : AVal → Heap → Prop} (h : seal_Sign.S a0 a1 G Q) : ACalls P seal_Sign.n [a0, a1] G Q := by
  have e : seal_Sign.S a0 a1 G Q = awp cx (seal_Sign.body) seal_Sign.an (bodyQ T [.cell 4 23] Q) (envL [a0, a1]) G := by kernel_rfl
  exact ACalls_of_awp cxOk (f := seal_Sign.n) (fn := Try.f6) (c := seal_Sign.body) (an := seal_Sign.an) Try.func6 (by kernel_rfl) (by kernel_rfl) (by kernel_rfl) (drawsOk_of (by kernel_rfl) (by kernel_rfl)) (by simp [Try.f6]) (e ▸ h)

/-! #### escrow/escrowref02.padded -/
def escrowref02_padded.S (a0 : AVal) (G : Heap) (Q : AVal → Heap → Prop) : Prop :=
  aAppend T G t_sl_uint8 t_string (.nilSlice) a0 fun v1 G2 => aBuildSlice T t_sl_uint8 1 [(0, .int .u8 128)] G2 fun v3 G4 => aAppend T G4 t_sl_uint8 t_sl_uint8 v1 v3 fun v5 G6 => ∀ R7 : List AVal → Heap → Prop,
  (∀ (x9 x10 : AVal) (G8 : Heap), (wv (vlen T G8 t_sl_uint8 x10) fun v11 => wv (vbin T .rem t_int v11 (.int .i64 64)) fun v12 => wv (vbin T .neq t_int v12 (.int .i64 56)) fun v13 => brB (some v13)
  (aBuildSlice T t_sl_uint8 1 [(0, .int .u8 0)] G8 fun v14 G15 => aAppend T G15 t_sl_uint8 t_sl_uint8 x10 v14 fun v16 G17 => R7 [x9, v16] G17)
  (∀ R18 : List AVal → Heap → Prop,
  (∀ (x20 x21 x22 : AVal) (G19 : Heap), (wv (vbin T .geq t_int x22 (.int .i64 0)) fun v23 => brB (some v23)
  (wv (vlen T G19 t_string x20) fun v24 => wv (vbin T .mul t_int (.int .i64 8) v24) fun v25 => wv (vbin T .mul t_int (.int .i64 8) x22) fun v26 => wv (vbin T .shr t_int v25 v26) fun v27 => wv (vconv T G19 t_int t_uint8 v27) fun v28 => aBuildSlice T t_sl_uint8 1 [(0, v28)] G19 fun v29 G30 => aAppend T G30 t_sl_uint8 t_sl_uint8 x21 v29 fun v31 G32 => wv (vbin T .sub t_int x22 (.int .i64 1)) fun v33 => R18 [x20, v31, v33] G32)
  (Q x21 G19)) → R18 [x20, x21, x22] G19) →
  R18 [x9, x10, .int .i64 7] G8)) → R7 [x9, x10] G8) →
  R7 [a0, v5] G6
def escrowref02_padded.an : Ann := .two (.nil) (.two (.nil) (.two (.nil) (.two (.nil) (.two (.loop [0, 3] (.nil)) (.two (.two (.nil) (.loop [0, 3, 4] (.nil))) (.nil))))))
set_option maxRecDepth 100000 in
theorem escrowref02_padded.sound {a0 : AVal} {G : Heap} {Q : AVal → Heap → Prop} (h : escrowref02_padded.S a0 G Q) : ACalls P escrowref02_padded.n [a0] G Q := by
  have e : escrowref02_padded.S a0 G Q = awp cx (escrowref02_padded.body) escrowref02_padded.an (bodyQ T [.tmp 2] Q) (envL [a0]) G := by kernel_rfl
  exact ACalls_of_awp cxOk (f := escrowref02_padded.n) (fn := Try.f21) (c := escrowref02_padded.body) (an := escrowref02_padded.an) Try.func21 (by kernel_rfl) (by kernel_rfl) (by kernel_rfl) (drawsOk_of (by kernel_rfl) (by kernel_rfl)) (by simp [Try.f21]) (e ▸ h)

/-! #### escrow/escrowref02.rounds -/
def escrowref02_rounds.S (G : Heap) (Q : AVal → Heap → Prop) : Prop :=
  aNew G (.own (z_ar64_uint32)) fun i1 G2 => wv (vbuild T t_ar64_uint32 [(0, .int .u32 1116352408), (1, .int .u32 1899447441), (2, .int .u32 3049323471), (3, .int .u32 3921009573), (4, .int .u32 961987163), (5, .int .u32 1508970993), (6, .int .u32 2453635748), (7, .int .u32 2870763221), (8, .int .u32 3624381080), (9, .int .u32 310598401), (10, .int .u32 607225278), (11, .int .u32 1426881987), (12, .int .u32 1925078388), (13, .int .u32 2162078206), (14, .int .u32 2614888103), (15, .int .u32 3248222580), (16, .int .u32 3835390401), (17, .int .u32 4022224774), (18, .int .u32 264347078), (19, .int .u32 604807628), (20, .int .u32 770255983), (21, .int .u32 1249150122), (22, .int .u32 1555081692), (23, .int .u32 1996064986), (24, .int .u32 2554220882), (25, .int .u32 2821834349), (26, .int .u32 2952996808), (27, .int .u32 3210313671), (28, .int .u32 3336571891), (29, .int .u32 3584528711), (30, .int .u32 113926993), (31, .int .u32 338241895), (32, .int .u32 666307205), (33, .int .u32 773529912), (34, .int .u32 1294757372), (35, .int .u32 1396182291), (36, .int .u32 1695183700), (37, .int .u32 1986661051), (38, .int .u32 2177026350), (39, .int .u32 2456956037), (40, .int .u32 2730485921), (41, .int .u32 2820302411), (42, .int .u32 3259730800), (43, .int .u32 3345764771), (44, .int .u32 3516065817), (45, .int .u32 3600352804), (46, .int .u32 4094571909), (47, .int .u32 275423344), (48, .int .u32 430227734), (49, .int .u32 506948616), (50, .int .u32 659060556), (51, .int .u32 883997877), (52, .int .u32 958139571), (53, .int .u32 1322822218), (54, .int .u32 1537002063), (55, .int .u32 1747873779), (56, .int .u32 1955562222), (57, .int .u32 2024104815), (58, .int .u32 2227730452), (59, .int .u32 2361852424), (60, .int .u32 2428436474), (61, .int .u32 2756734187), (62, .int .u32 3204031479), (63, .int .u32 3329325298)]) fun v3 => wg (vstore T G2 t_ar64_uint32 (.ptr i1 [] 0) v3) fun G4 => wv (vload T G4 t_ar64_uint32 (.ptr i1 [] 0)) fun v5 => Q v5 G4
def escrowref02_rounds.an : Ann := .nil
set_option maxRecDepth 100000 in
theorem escrowref02_rounds.sound {G : Heap} {Q : AVal → Heap → Prop} (h : escrowref02_rounds.S G Q) : ACalls P escrowref02_rounds.n [] G Q := by
  have e : escrowref02_rounds.S G Q = awp cx (escrowref02_rounds.body) escrowref02_rounds.an (bodyQ T [.cell 0 39] Q) (envL []) G := by kernel_rfl
  exact ACalls_of_awp cxOk (f := escrowref02_rounds.n) (fn := Try.f28) (c := escrowref02_rounds.body) (an := escrowref02_rounds.an) Try.func28 (by kernel_rfl) (by kernel_rfl) (by kernel_rfl) (drawsOk_of (by kernel_rfl) (by kernel_rfl)) (by simp [Try.f28]) (e ▸ h)

/-! #### escrow/escrowref02.rot -/
def escrowref02_rot.S (a0 a1 : AVal) (G : Heap) (Q : AVal → Heap → Prop) : Prop :=
  wv (vbin T .shr t_uint32 a0 a1) fun v1 => wv (vbin T .sub t_int (.int .i64 32) a1) fun v2 => wv (vbin T .shl t_uint32 a0 v2) fun v3 => wv (vbin T .or t_uint32 v1 v3) fun v4 => Q v4 G
def escrowref02_rot.an : Ann := .two (.nil) (.two (.ord [(0, []), (1, []), (2, []), (3, []), (4, []), (5, []), (6, []), (7, []), (8, [])]) (.nil))
set_option maxRecDepth 100000 in
theorem escrowref02_rot.sound {a0 a1 : AVal} {G : Heap} {Q : AVal → Heap → Prop} (h : escrowref02_rot.S a0 a1 G Q) : ACalls P escrowref02_rot.n [a0, a1] G Q := by
  have e : escrowref02_rot.S a0 a1 G Q = awp cx (escrowref02_rot.body) escrowref02_rot.an (bodyQ T [.tmp 4] Q) (envL [a0, a1]) G := by kernel_rfl
  exact ACalls_of_awp cxOk (f := escrowref02_rot.n) (fn := Try.f29) (c := escrowref02_rot.body) (an := escrowref02_rot.an) Try.func29 (by kernel_rfl) (by kernel_rfl) (by kernel_rfl) (drawsOk_of (by kernel_rfl) (by kernel_rfl)) (by simp [Try.f29]) (e ▸ h)

/-! #### escrow/escrowref02.block -/
def escrowref02_block.S (a0 a1 a2 : AVal) (G : Heap) (Q : AVal → Heap → Prop) : Prop :=
  aNew G (.own (a0)) fun i1 G2 => aNew G2 (.own (z_ar8_uint32)) fun i3 G4 => ACalls P escrowref02_rounds.n [] G4 fun v5 G6 => aNew G6 (.own (z_ar64_uint32)) fun i7 G8 => wg (vstore T G8 t_ar64_uint32 (.ptr i7 [] 0) v5) fun G9 => aNew G9 (.own (z_ar64_uint32)) fun i10 G11 => ∀ R12 : List AVal → Heap → Prop,
  (∀ (x14 x15 x16 x17 x18 x19 x20 : AVal) (G13 : Heap), (wv (vbin T .lss t_int x20 (.int .i64 16)) fun v21 => brB (some v21)
  (wv (vbin T .mul t_int (.int .i64 4) x20) fun v22 => wv (vbin T .add t_int x15 v22) fun v23 => wv (viaddr T t_sl_uint8 x14 v23) fun v24 => wv (vload T G13 t_uint8 v24) fun v25 => wv (vconv T G13 t_uint8 t_uint32 v25) fun v26 => wv (vbin T .shl t_uint32 v26 (.int .u64 24)) fun v27 => wv (vbin T .add t_int v23 (.int .i64 1)) fun v28 => wv (viaddr T t_sl_uint8 x14 v28) fun v29 => wv (vload T G13 t_uint8 v29) fun v30 => wv (vconv T G13 t_uint8 t_uint32 v30) fun v31 => wv (vbin T .shl t_uint32 v31 (.int .u64 16)) fun v32 => wv (vbin T .or t_uint32 v27 v32) fun v33 => wv (vbin T .add t_int v23 (.int .i64 2)) fun v34 => wv (viaddr T t_sl_uint8 x14 v34) fun v35 => wv (vload T G13 t_uint8 v35) fun v36 => wv (vconv T G13 t_uint8 t_uint32 v36) fun v37 => wv (vbin T .shl t_uint32 v37 (.int .u64 8)) fun v38 => wv (vbin T .or t_uint32 v33 v38) fun v39 => wv (vbin T .add t_int v23 (.int .i64 3)) fun v40 => wv (viaddr T t_sl_uint8 x14 v40) fun v41 => wv (vload T G13 t_uint8 v41) fun v42 => wv (vconv T G13 t_uint8 t_uint32 v42) fun v43 => wv (vbin T .or t_uint32 v39 v43) fun v44 => wv (viaddr T t_ar64_uint32 x19 x20) fun v45 => wg (vstore T G13 t_uint32 v45 v44) fun G46 => wv (vbin T .add t_int x20 (.int .i64 1)) fun v47 => R12 [x14, x15, x16, x17, x18, x19, v47] G46)
  (∀ R48 : List AVal → Heap → Prop,
  (∀ (x50 x51 x52 x53 x54 : AVal) (G49 : Heap), (wv (vbin T .lss t_int x54 (.int .i64 64)) fun v55 => brB (some v55)
  (wv (vbin T .sub t_int x54 (.int .i64 15)) fun v56 => wv (viaddr T t_ar64_uint32 x53 v56) fun v57 => wv (vload T G49 t_uint32 v57) fun v58 => wv (vbin T .sub t_int x54 (.int .i64 2)) fun v59 => wv (viaddr T t_ar64_uint32 x53 v59) fun v60 => wv (vload T G49 t_uint32 v60) fun v61 => wv (vbin T .sub t_int x54 (.int .i64 16)) fun v62 => wv (viaddr T t_ar64_uint32 x53 v62) fun v63 => wv (vload T G49 t_uint32 v63) fun v64 => wv (vbin T .shr t_uint32 v58 (.int .u64 3)) fun v65 => wv (vbin T .sub t_int x54 (.int .i64 7)) fun v66 => wv (viaddr T t_ar64_uint32 x53 v66) fun v67 => wv (vload T G49 t_uint32 v67) fun v68 => wv (vbin T .shr t_uint32 v61 (.int .u64 10)) fun v69 => ACalls P escrowref02_rot.n [v58, .int .i64 7] G49 fun v70 G71 => (vload T G71 t_uint32 v67 = some v68 ∧ vload T G71 t_uint32 v63 = some v64 ∧ True) ∧ (ACalls P escrowref02_rot.n [v58, .int .i64 18] G71 fun v72 G73 => (vload T G73 t_uint32 v67 = some v68 ∧ vload T G73 t_uint32 v63 = some v64 ∧ True) ∧ (wv (vbin T .xor t_uint32 v70 v72) fun v74 => wv (vbin T .xor t_uint32 v74 v65) fun v75 => wv (vbin T .add t_uint32 v64 v75) fun v76 => wv (vbin T .add t_uint32 v76 v68) fun v77 => ACalls P escrowref02_rot.n [v61, .int .i64 17] G73 fun v78 G79 => (vload T G79 t_uint32 v67 = some v68 ∧ vload T G79 t_uint32 v63 = some v64 ∧ True) ∧ (ACalls P escrowref02_rot.n [v61, .int .i64 19] G79 fun v80 G81 => (vload T G81 t_uint32 v67 = some v68 ∧ vload T G81 t_uint32 v63 = some v64 ∧ True) ∧ (wv (vbin T .xor t_uint32 v78 v80) fun v82 => wv (vbin T .xor t_uint32 v82 v69) fun v83 => wv (vbin T .add t_uint32 v77 v83) fun v84 => wv (viaddr T t_ar64_uint32 x53 x54) fun v85 => wg (vstore T G81 t_uint32 v85 v84) fun G86 => wv (vbin T .add t_int x54 (.int .i64 1)) fun v87 => R48 [x50, x51, x52, x53, v87] G86)))))
  (wv (vload T G49 t_ar8_uint32 x50) fun v88 => aNew G49 (.own (z_ar8_uint32)) fun i89 G90 => wg (vstore T G90 t_ar8_uint32 (.ptr i89 [] 0) v88) fun G91 => ∀ R92 : List AVal → Heap → Prop,
  (∀ (x94 x95 x96 x97 x98 x99 : AVal) (G93 : Heap), (wv (vbin T .lss t_int x99 (.int .i64 64)) fun v100 => brB (some v100)
  (wv (viaddr T t_ar8_uint32 x98 (.int .i64 0)) fun v101 => wv (vload T G93 t_uint32 v101) fun v102 => wv (viaddr T t_ar8_uint32 x98 (.int .i64 4)) fun v103 => wv (vload T G93 t_uint32 v103) fun v104 => wv (viaddr T t_ar8_uint32 x98 (.int .i64 7)) fun v105 => wv (vload T G93 t_uint32 v105) fun v106 => wv (viaddr T t_ar8_uint32 x98 (.int .i64 5)) fun v107 => wv (vload T G93 t_uint32 v107) fun v108 => wv (vbin T .and t_uint32 v104 v108) fun v109 => wv (vun .xor v104) fun v110 => wv (viaddr T t_ar8_uint32 x98 (.int .i64 6)) fun v111 => wv (vload T G93 t_uint32 v111) fun v112 => wv (vbin T .and t_uint32 v110 v112) fun v113 => wv (vbin T .xor t_uint32 v109 v113) fun v114 => wv (viaddr T t_ar64_uint32 x96 x99) fun v115 => wv (vload T G93 t_uint32 v115) fun v116 => wv (viaddr T t_ar64_uint32 x97 x99) fun v117 => wv (vload T G93 t_uint32 v117) fun v118 => ACalls P escrowref02_rot.n [v104, .int .i64 6] G93 fun v119 G120 => (vload T G120 t_uint32 v117 = some v118 ∧ vload T G120 t_uint32 v115 = some v116 ∧ vload T G120 t_uint32 v111 = some v112 ∧ vload T G120 t_uint32 v107 = some v108 ∧ vload T G120 t_uint32 v105 = some v106 ∧ True) ∧ (ACalls P escrowref02_rot.n [v104, .int .i64 11] G120 fun v121 G122 => (vload T G122 t_uint32 v117 = some v118 ∧ vload T G122 t_uint32 v115 = some v116 ∧ vload T G122 t_uint32 v111 = some v112 ∧ vload T G122 t_uint32 v107 = some v108 ∧ vload T G122 t_uint32 v105 = some v106 ∧ True) ∧ (wv (vbin T .xor t_uint32 v119 v121) fun v123 => ACalls P escrowref02_rot.n [v104, .int .i64 25] G122 fun v124 G125 => (vload T G125 t_uint32 v117 = some v118 ∧ vload T G125 t_uint32 v115 = some v116 ∧ vload T G125 t_uint32 v111 = some v112 ∧ vload T G125 t_uint32 v107 = some v108 ∧ vload T G125 t_uint32 v105 = some v106 ∧ True) ∧ (wv (vbin T .xor t_uint32 v123 v124) fun v126 => wv (vbin T .add t_uint32 v106 v126) fun v127 => wv (vbin T .add t_uint32 v127 v114) fun v128 => wv (vbin T .add t_uint32 v128 v116) fun v129 => wv (vbin T .add t_uint32 v129 v118) fun v130 => wv (viaddr T t_ar8_uint32 x98 (.int .i64 1)) fun v131 => wv (vload T G125 t_uint32 v131) fun v132 => wv (vbin T .and t_uint32 v102 v132) fun v133 => wv (viaddr T t_ar8_uint32 x98 (.int .i64 2)) fun v134 => wv (vload T G125 t_uint32 v134) fun v135 => wv (vbin T .and t_uint32 v102 v135) fun v136 => wv (vbin T .xor t_uint32 v133 v136) fun v137 => wv (viaddr T t_ar8_uint32 x98 (.int .i64 1)) fun v138 => wv (vload T G125 t_uint32 v138) fun v139 => wv (viaddr T t_ar8_uint32 x98 (.int .i64 2)) fun v140 => wv (vload T G125 t_uint32 v140) fun v141 => wv (vbin T .and t_uint32 v139 v141) fun v142 => wv (vbin T .xor t_uint32 v137 v142) fun v143 => ACalls P escrowref02_rot.n [v102, .int .i64 2] G125 fun v144 G145 => (vload T G145 t_uint32 v140 = some v141 ∧ vload T G145 t_uint32 v138 = some v139 ∧ vload T G145 t_uint32 v134 = some v135 ∧ vload T G145 t_uint32 v131 = some v132 ∧ True) ∧ (ACalls P escrowref02_rot.n [v102, .int .i64 13] G145 fun v146 G147 => (vload T G147 t_uint32 v140 = some v141 ∧ vload T G147 t_uint32 v138 = some v139 ∧ vload T G147 t_uint32 v134 = some v135 ∧ vload T G147 t_uint32 v131 = some v132 ∧ True) ∧ (wv (vbin T .xor t_uint32 v144 v146) fun v148 => ACalls P escrowref02_rot.n [v102, .int .i64 22] G147 fun v149 G150 => (vload T G150 t_uint32 v140 = some v141 ∧ vload T G150 t_uint32 v138 = some v139 ∧ vload T G150 t_uint32 v134 = some v135 ∧ vload T G150 t_uint32 v131 = some v132 ∧ True) ∧ (wv (vbin T .xor t_uint32 v148 v149) fun v151 => wv (vbin T .add t_uint32 v151 v143) fun v152 => wv (vbin T .add t_uint32 v130 v152) fun v153 => wv (viaddr T t_ar8_uint32 x98 (.int .i64 0)) fun v154 => wv (vload T G150 t_uint32 v154) fun v155 => wv (viaddr T t_ar8_uint32 x98 (.int .i64 1)) fun v156 => wv (vload T G150 t_uint32 v156) fun v157 => wv (viaddr T t_ar8_uint32 x98 (.int .i64 2)) fun v158 => wv (vload T G150 t_uint32 v158) fun v159 => wv (viaddr T t_ar8_uint32 x98 (.int .i64 3)) fun v160 => wv (vload T G150 t_uint32 v160) fun v161 => wv (vbin T .add t_uint32 v161 v130) fun v162 => wv (viaddr T t_ar8_uint32 x98 (.int .i64 4)) fun v163 => wv (vload T G150 t_uint32 v163) fun v164 => wv (viaddr T t_ar8_uint32 x98 (.int .i64 5)) fun v165 => wv (vload T G150 t_uint32 v165) fun v166 => wv (viaddr T t_ar8_uint32 x98 (.int .i64 6)) fun v167 => wv (vload T G150 t_uint32 v167) fun v168 => wv (vbuild T t_ar8_uint32 [(0, v153), (1, v155), (2, v157), (3, v159), (4, v162), (5, v164), (6, v166), (7, v168)]) fun v169 => wg (vstore T G150 t_ar8_uint32 x98 v169) fun G170 => wv (vbin T .add t_int x99 (.int .i64 1)) fun v171 => R92 [x94, x95, x96, x97, x98, v171] G170)))))))
  (∀ R172 : List AVal → Heap → Prop,
  (∀ (x174 x175 x176 x177 : AVal) (G173 : Heap), (wv (vbin T .lss t_int x177 (.int .i64 8)) fun v178 => brB (some v178)
  (wv (viaddr T t_ar8_uint32 x176 x177) fun v179 => wv (vload T G173 t_uint32 v179) fun v180 => wv (viaddr T t_ar8_uint32 x174 x177) fun v181 => wv (vload T G173 t_uint32 v181) fun v182 => wv (vbin T .add t_uint32 v180 v182) fun v183 => wv (viaddr T t_ar8_uint32 x176 x177) fun v184 => wg (vstore T G173 t_uint32 v184 v183) fun G185 => wv (vbin T .add t_int x177 (.int .i64 1)) fun v186 => R172 [x174, x175, x176, v186] G185)
  (wv (vload T G173 t_ar8_uint32 x176) fun v187 => wg (vstore T G173 t_ar8_uint32 x175 v187) fun G188 => wv (vload T G188 t_ar8_uint32 x175) fun v189 => Q v189 G188)) → R172 [x174, x175, x176, x177] G173) →
  R172 [x94, x95, x98, .int .i64 0] G93)) → R92 [x94, x95, x96, x97, x98, x99] G93) →
  R92 [x50, x51, x52, x53, .ptr i89 [] 0, .int .i64 0] G91)) → R48 [x50, x51, x52, x53, x54] G49) →
  R48 [x16, x17, x18, x19, .int .i64 16] G13)) → R12 [x14, x15, x16, x17, x18, x19, x20] G13) →
  R12 [a1, a2, .ptr i1 [] 0, .ptr i3 [] 0, .ptr i7 [] 0, .ptr i10 [] 0, .int .i64 0] G11
def escrowref02_block.an : Ann := .two (.nil) (.two (.nil) (.two (.nil) (.two (.two (.nil) (.loop [1, 2, 3, 6, 7, 8, 9] (.two (.nil) (.two (.two (.nil) (.ord [(0, []), (1, []), (2, []), (3, []), (4, []), (5, []), (6, []), (7, []), (8, []), (9, []), (10, []), (11, []), (12, []), (13, []), (14, []), (15, []), (16, []), (17, []), (18, []), (19, []), (20, []), (21, []), (22, []), (23, []), (24, []), (25, []), (26, []), (27, []), (28, []), (29, []), (30, []), (31, [])])) (.nil))))) (.two (.two (.nil) (.loop [3, 6, 7, 8, 11] (.two (.nil) (.two (.two (.nil) (.two (.nil) (.ord [(0, []), (1, []), (2, []), (3, []), (4, []), (5, []), (7, []), (10, []), (11, []), (14, []), (15, []), (16, []), (17, []), (19, []), (21, []), (24, []), (25, []), (6, [4, 17]), (8, [4, 17]), (9, []), (12, []), (13, []), (18, []), (20, [4, 17]), (22, [4, 17]), (23, []), (26, []), (27, []), (28, []), (29, [])]))) (.nil))))) (.two (.nil) (.two (.two (.nil) (.loop [3, 6, 7, 8, 14, 15] (.two (.nil) (.two (.two (.nil) (.two (.nil) (.two (.ord [(0, []), (1, []), (2, []), (4, []), (7, []), (11, []), (12, []), (13, []), (14, []), (15, []), (16, []), (17, []), (18, []), (19, []), (20, []), (22, []), (23, []), (24, []), (26, []), (27, []), (28, []), (3, [1, 13, 18, 24, 28]), (5, [1, 13, 18, 24, 28]), (6, []), (8, [1, 13, 18, 24, 28]), (9, []), (10, []), (21, []), (25, []), (29, []), (30, [])]) (.two (.ord [(0, []), (2, []), (5, []), (8, []), (9, []), (10, []), (11, []), (12, []), (13, []), (14, []), (15, []), (16, []), (17, []), (18, []), (19, []), (20, []), (21, []), (22, []), (1, [10, 14, 18, 20]), (3, [10, 14, 18, 20]), (4, []), (6, [10, 14, 18, 20]), (7, []), (23, []), (24, [])]) (.nil))))) (.nil))))) (.two (.two (.nil) (.loop [3, 6, 14, 20] (.two (.nil) (.two (.ord [(0, []), (1, []), (2, []), (3, []), (4, []), (5, []), (6, []), (7, []), (8, []), (9, [])]) (.nil))))) (.nil))))))))
set_option maxRecDepth 100000 in
theorem escrowref02_block.sound {a0 a1 a2 : AVal} {G : Heap} {Q : AVal → Heap → Prop} (h : escrowref02_block.S a0 a1 a2 G Q) : ACalls P escrowref02_block.n [a0, a1, a2] G Q := by
  have e : escrowref02_block.S a0 a1 a2 G Q = awp cx (escrowref02_block.body) escrowref02_block.an (bodyQ T [.cell 6 38] Q) (envL [a0, a1, a2]) G := by kernel_rfl
  exact ACalls_of_awp cxOk (f := escrowref02_block.n) (fn := Try.f22) (c := escrowref02_block.body) (an := escrowref02_block.an) Try.func22 (by kernel_rfl) (by kernel_rfl) (by kernel_rfl) (drawsOk_of (by kernel_rfl) (by kernel_rfl)) (by simp [Try.f22]) (e ▸ h)

/-! #### escrow/escrowref02.One -/
def escrowref02_One.S (a0 : AVal) (G : Heap) (Q : AVal → Heap → Prop) : Prop :=
  aNew G (.own (z_api_Hash)) fun i1 G2 => ACalls P escrowref02_padded.n [a0] G2 fun v3 G4 => wv (vbuild T t_ar8_uint32 [(0, .int .u32 1779033703), (1, .int .u32 3144134277), (2, .int .u32 1013904242), (3, .int .u32 2773480762), (4, .int .u32 1359893119), (5, .int .u32 2600822924), (6, .int .u32 528734635), (7, .int .u32 1541459225)]) fun v5 => aNew G4 (.own (z_ar8_uint32)) fun i6 G7 => wg (vstore T G7 t_ar8_uint32 (.ptr i6 [] 0) v5) fun G8 => ∀ R9 : List AVal → Heap → Prop,
  (∀ (x11 x12 x13 x14 : AVal) (G10 : Heap), (wv (vlen T G10 t_sl_uint8 x12) fun v15 => wv (vbin T .lss t_int x14 v15) fun v16 => brB (some v16)
  (wv (vload T G10 t_ar8_uint32 x13) fun v17 => ACalls P escrowref02_block.n [v17, x12, x14] G10 fun v18 G19 => wg (vstore T G19 t_ar8_uint32 x13 v18) fun G20 => wv (vbin T .add t_int x14 (.int .i64 64)) fun v21 => R9 [x11, x12, x13, v21] G20)
  (aNew G10 (.own (z_api_Hash)) fun i22 G23 => ∀ R24 : List AVal → Heap → Prop,
  (∀ (x26 x27 x28 x29 : AVal) (G25 : Heap), (wv (vbin T .lss t_int x29 (.int .i64 32)) fun v30 => brB (some v30)
  (wv (vbin T .quo t_int x29 (.int .i64 4)) fun v31 => wv (viaddr T t_ar8_uint32 x27 v31) fun v32 => wv (vload T G25 t_uint32 v32) fun v33 => wv (vbin T .rem t_int x29 (.int .i64 4)) fun v34 => wv (vbin T .mul t_int (.int .i64 8) v34) fun v35 => wv (vbin T .sub t_int (.int .i64 24) v35) fun v36 => wv (vbin T .shr t_uint32 v33 v36) fun v37 => wv (vconv T G25 t_uint32 t_uint8 v37) fun v38 => wv (viaddr T t_api_Hash x28 x29) fun v39 => wg (vstore T G25 t_uint8 v39 v38) fun G40 => wv (vbin T .add t_int x29 (.int .i64 1)) fun v41 => R24 [x26, x27, x28, v41] G40)
  (wv (vload T G25 t_api_Hash x28) fun v42 => wg (vstore T G25 t_api_Hash x26 v42) fun G43 => wv (vload T G43 t_api_Hash x26) fun v44 => Q v44 G43)) → R24 [x26, x27, x28, x29] G25) →
  R24 [x11, x13, .ptr i22 [] 0, .int .i64 0] G23)) → R9 [x11, x12, x13, x14] G10) →
  R9 [.ptr i1 [] 0, v3, .ptr i6 [] 0, .int .i64 0] G8
def escrowref02_One.an : Ann := .two (.nil) (.two (.nil) (.two (.nil) (.two (.two (.nil) (.loop [2, 3, 4, 5] (.nil))) (.two (.nil) (.two (.two (.nil) (.loop [2, 4, 6, 7] (.nil))) (.nil))))))
set_option maxRecDepth 100000 in
theorem escrowref02_One.sound {a0 : AVal} {G : Heap} {Q : AVal → Heap → Prop} (h : escrowref02_One.S a0 G Q) : ACalls P escrowref02_One.n [a0] G Q := by
  have e : escrowref02_One.S a0 G Q = awp cx (escrowref02_One.body) escrowref02_One.an (bodyQ T [.cell 2 23] Q) (envL [a0]) G := by kernel_rfl
  exact ACalls_of_awp cxOk (f := escrowref02_One.n) (fn := Try.f15) (c := escrowref02_One.body) (an := escrowref02_One.an) Try.func15 (by kernel_rfl) (by kernel_rfl) (by kernel_rfl) (drawsOk_of (by kernel_rfl) (by kernel_rfl)) (by simp [Try.f15]) (e ▸ h)

/-! #### escrow/escrowref02.Pad -/
def escrowref02_Pad.S (a0 a1 : AVal) (G : Heap) (Q : AVal → Heap → Prop) : Prop :=
  aNew G (.own (a0)) fun i1 G2 => ∀ R3 : List AVal → Heap → Prop,
  (∀ (x5 x6 x7 x8 : AVal) (G4 : Heap), (wv (vbin T .lss t_int x8 (.int .i64 64)) fun v9 => brB (some v9)
  (wv (vbin T .lss t_int x8 (.int .i64 32)) fun v10 => brB (some v10)
  (wv (viaddr T t_api_Hash x6 x8) fun v11 => wv (vload T G4 t_uint8 v11) fun v12 => wv (vbin T .xor t_uint8 v12 x5) fun v20 => aBuildSlice T t_sl_uint8 1 [(0, v20)] G4 fun v21 G22 => aAppend T G22 t_sl_uint8 t_sl_uint8 x7 v21 fun v23 G24 => wv (vbin T .add t_int x8 (.int .i64 1)) fun v33 => R3 [x5, x6, v23, v33] G24)
  (wv (vbin T .xor t_uint8 (.int .u8 0) x5) fun v25 => aBuildSlice T t_sl_uint8 1 [(0, v25)] G4 fun v26 G27 => aAppend T G27 t_sl_uint8 t_sl_uint8 x7 v26 fun v28 G29 => wv (vbin T .add t_int x8 (.int .i64 1)) fun v34 => R3 [x5, x6, v28, v34] G29))
  (wv (vconv T G4 t_sl_uint8 t_string x7) fun v35 => Q v35 G4)) → R3 [x5, x6, x7, x8] G4) →
  R3 [a1, .ptr i1 [] 0, .nilSlice, .int .i64 0] G2
def escrowref02_Pad.an : Ann := .two (.nil) (.two (.nil) (.two (.two (.nil) (.loop [1, 2, 5, 6] (.nil))) (.nil)))
set_option maxRecDepth 100000 in
theorem escrowref02_Pad.sound {a0 a1 : AVal} {G : Heap} {Q : AVal → Heap → Prop} (h : escrowref02_Pad.S a0 a1 G Q) : ACalls P escrowref02_Pad.n [a0, a1] G Q := by
  have e : escrowref02_Pad.S a0 a1 G Q = awp cx (escrowref02_Pad.body) escrowref02_Pad.an (bodyQ T [.tmp 4] Q) (envL [a0, a1]) G := by kernel_rfl
  exact ACalls_of_awp cxOk (f := escrowref02_Pad.n) (fn := Try.f16) (c := escrowref02_Pad.body) (an := escrowref02_Pad.an) Try.func16 (by kernel_rfl) (by kernel_rfl) (by kernel_rfl) (drawsOk_of (by kernel_rfl) (by kernel_rfl)) (by simp [Try.f16]) (e ▸ h)

/-! #### escrow/escrowref02.Bytes -/
def escrowref02_Bytes.S (a0 : AVal) (G : Heap) (Q : AVal → Heap → Prop) : Prop :=
  aNew G (.own (a0)) fun i1 G2 => ∀ R3 : List AVal → Heap → Prop,
  (∀ (x5 x6 x7 : AVal) (G4 : Heap), (wv (vbin T .lss t_int x7 (.int .i64 32)) fun v8 => brB (some v8)
  (wv (viaddr T t_api_Hash x5 x7) fun v9 => wv (vload T G4 t_uint8 v9) fun v10 => aBuildSlice T t_sl_uint8 1 [(0, v10)] G4 fun v11 G12 => aAppend T G12 t_sl_uint8 t_sl_uint8 x6 v11 fun v13 G14 => wv (vbin T .add t_int x7 (.int .i64 1)) fun v15 => R3 [x5, v13, v15] G14)
  (wv (vconv T G4 t_sl_uint8 t_string x6) fun v16 => Q v16 G4)) → R3 [x5, x6, x7] G4) →
  R3 [.ptr i1 [] 0, .nilSlice, .int .i64 0] G2
def escrowref02_Bytes.an : Ann := .two (.nil) (.two (.nil) (.two (.two (.nil) (.loop [1, 3, 4] (.nil))) (.nil)))
set_option maxRecDepth 100000 in
theorem escrowref02_Bytes.sound {a0 : AVal} {G : Heap} {Q : AVal → Heap → Prop} (h : escrowref02_Bytes.S a0 G Q) : ACalls P escrowref02_Bytes.n [a0] G Q := by
  have e : escrowref02_Bytes.S a0 G Q = awp cx (escrowref02_Bytes.body) escrowref02_Bytes.an (bodyQ T [.tmp 2] Q) (envL [a0]) G := by kernel_rfl
  exact ACalls_of_awp cxOk (f := escrowref02_Bytes.n) (fn := Try.f17) (c := escrowref02_Bytes.body) (an := escrowref02_Bytes.an) Try.func17 (by kernel_rfl) (by kernel_rfl) (by kernel_rfl) (drawsOk_of (by kernel_rfl) (by kernel_rfl)) (by simp [Try.f17]) (e ▸ h)

/-! #### escrow/escrowref02.Mac -/
def escrowref02_Mac.S (a0 a1 : AVal) (G : Heap) (Q : AVal → Heap → Prop) : Prop :=
  aNew G (.own (a0)) fun i1 G2 => aNew G2 (.own (z_api_Hash)) fun i3 G4 => wv (vload T G4 t_api_Hash (.ptr i1 [] 0)) fun v5 => wv (vload T G4 t_api_Hash (.ptr i1 [] 0)) fun v6 => ACalls P escrowref02_Pad.n [v5, .int .u8 92] G4 fun v7 G8 => (vload T G8 t_api_Hash (.ptr i1 [] 0) = some v6 ∧ True) ∧ (ACalls P escrowref02_Pad.n [v6, .int .u8 54] G8 fun v9 G10 => wv (vbin T .add t_string v9 a1) fun v11 => ACalls P escrowref02_One.n [v11] G10 fun v12 G13 => ACalls P escrowref02_Bytes.n [v12] G13 fun v14 G15 => wv (vbin T .add t_string v7 v14) fun v16 => ACalls P escrowref02_One.n [v16] G15 fun v17 G18 => wg (vstore T G18 t_api_Hash (.ptr i3 [] 0) v17) fun G19 => wv (vload T G19 t_api_Hash (.ptr i3 [] 0)) fun v20 => Q v20 G19)
def escrowref02_Mac.an : Ann := .two (.nil) (.two (.ord [(0, []), (2, []), (4, []), (1, [2]), (3, []), (5, []), (6, []), (7, []), (8, []), (9, []), (10, [])]) (.nil))
set_option maxRecDepth 100000 in
theorem escrowref02_Mac.sound {a0 a1 : AVal} {G : Heap} {Q : AVal → Heap → Prop} (h : escrowref02_Mac.S a0 a1 G Q) : ACalls P escrowref02_Mac.n [a0, a1] G Q := by
  have e : escrowref02_Mac.S a0 a1 G Q = awp cx (escrowref02_Mac.body) escrowref02_Mac.an (bodyQ T [.cell 4 23] Q) (envL [a0, a1]) G := by kernel_rfl
  exact ACalls_of_awp cxOk (f := escrowref02_Mac.n) (fn := Try.f12) (c := escrowref02_Mac.body) (an := escrowref02_Mac.an) Try.func12 (by kernel_rfl) (by kernel_rfl) (by kernel_rfl) (drawsOk_of (by kernel_rfl) (by kernel_rfl)) (by simp [Try.f12]) (e ▸ h)

/-! #### escrow/escrowref11.Sign -/
def escrowref11_Sign.S (a0 a1 : AVal) (G : Heap) (Q : AVal → Heap → Prop) : Prop :=
  aNew G (.own (a0)) fun i1 G2 => aNew G2 (.own (z_api_Hash)) fun i3 G4 => wv (vload T G4 t_api_Hash (.ptr i1 [] 0)) fun v5 => ACalls P escrowref02_Mac.n [v5, a1] G4 fun v6 G7 => wg (vstore T G7 t_api_Hash (.ptr i3 [] 0) v6) fun G8 => wv (vload T G8 t_api_Hash (.ptr i3 [] 0)) fun v9 => Q v9 G8
def escrowref11_Sign.an : Ann := .nil
set_option maxRecDepth 100000 in
theorem escrowref11_Sign.sound {a0 a1 : AVal} {G : Heap} {Q : AVal → Heap → Prop} (h : escrowref11_Sign.S a0 a1 G Q) : ACalls P escrowref11_Sign.n [a0, a1] G Q := by
  have e : escrowref11_Sign.S a0 a1 G Q = awp cx (escrowref11_Sign.body) escrowref11_Sign.an (bodyQ T [.cell 4 23] Q) (envL [a0, a1]) G := by kernel_rfl
  exact ACalls_of_awp cxOk (f := escrowref11_Sign.n) (fn := Try.f7) (c := escrowref11_Sign.body) (an := escrowref11_Sign.an) Try.func7 (by kernel_rfl) (by kernel_rfl) (by kernel_rfl) (drawsOk_of (by kernel_rfl) (by kernel_rfl)) (by simp [Try.f7]) (e ▸ h)

/-! #### escrow/seal.Right -/
def seal_Right.S (a0 a1 a2 : AVal) (G : Heap) (Q : AVal → Heap → Prop) : Prop :=
  aNew G (.own (a0)) fun i1 G2 => aNew G2 (.own (a2)) fun i3 G4 => wv (vload T G4 t_api_Hash (.ptr i1 [] 0)) fun v5 => wv (vload T G4 t_api_Hash (.ptr i3 [] 0)) fun v6 => ACalls P seal_Sign.n [v5, a1] G4 fun v7 G8 => (vload T G8 t_api_Hash (.ptr i3 [] 0) = some v6 ∧ True) ∧ (wv (vbin T .eql t_api_Hash v7 v6) fun v9 => Q v9 G8)
def seal_Right.an : Ann := .two (.nil) (.two (.ord [(0, []), (1, []), (3, []), (2, [3]), (4, []), (5, [])]) (.nil))
set_option maxRecDepth 100000 in
theorem seal_Right.sound {a0 a1 a2 : AVal} {G : Heap} {Q : AVal → Heap → Prop} (h : seal_Right.S a0 a1 a2 G Q) : ACalls P seal_Right.n [a0, a1, a2] G Q := by
  have e : seal_Right.S a0 a1 a2 G Q = awp cx (seal_Right.body) seal_Right.an (bodyQ T [.tmp 6] Q) (envL [a0, a1, a2]) G := by kernel_rfl
  exact ACalls_of_awp cxOk (f := seal_Right.n) (fn := Try.f9) (c := seal_Right.body) (an := seal_Right.an) Try.func9 (by kernel_rfl) (by kernel_rfl) (by kernel_rfl) (drawsOk_of (by kernel_rfl) (by kernel_rfl)) (by simp [Try.f9]) (e ▸ h)

/-! #### escrow/escrowlaw11.first -/
def escrowlaw11_first.S (G : Heap) (Q : AVal → Heap → Prop) : Prop :=
  wv (vbuild T t_api_Hash []) fun v1 => ACalls P seal_Sign.n [v1, .str []] G fun v2 G3 => aNew G3 (.own (z_api_Hash)) fun i4 G5 => wg (vstore T G5 t_api_Hash (.ptr i4 [] 0) v2) fun G6 => wv (vload T G6 t_api_Hash (.ptr i4 [] 0)) fun v7 => aNew G6 (.own (z_api_Hash)) fun i8 G9 => wg (vstore T G9 t_api_Hash (.ptr i8 [] 0) v7) fun G10 => wv (viaddr T t_api_Hash (.ptr i8 [] 0) (.int .i64 31)) fun v11 => wv (vload T G10 t_uint8 v11) fun v12 => wv (vbin T .xor t_uint8 v12 (.int .u8 1)) fun v13 => wv (viaddr T t_api_Hash (.ptr i8 [] 0) (.int .i64 31)) fun v14 => wg (vstore T G10 t_uint8 v14 v13) fun G15 => wv (viaddr T t_api_Hash (.ptr i4 [] 0) (.int .i64 0)) fun v16 => wv (vload T G15 t_uint8 v16) fun v17 => wv (vbin T .eql t_uint8 v17 (.int .u8 182)) fun v18 => brB (some v18)
  (wv (viaddr T t_api_Hash (.ptr i4 [] 0) (.int .i64 1)) fun v19 => wv (vload T G15 t_uint8 v19) fun v20 => wv (vbin T .eql t_uint8 v20 (.int .u8 19)) fun v21 => brB (some v21)
  (wv (viaddr T t_api_Hash (.ptr i4 [] 0) (.int .i64 30)) fun v22 => wv (vload T G15 t_uint8 v22) fun v23 => wv (vbin T .eql t_uint8 v23 (.int .u8 197)) fun v24 => brB (some v24)
  (wv (viaddr T t_api_Hash (.ptr i4 [] 0) (.int .i64 31)) fun v25 => wv (vload T G15 t_uint8 v25) fun v26 => wv (vbin T .eql t_uint8 v26 (.int .u8 173)) fun v27 => brB (some v27)
  (wv (vbuild T t_api_Hash []) fun v28 => wv (vload T G15 t_api_Hash (.ptr i4 [] 0)) fun v29 => ACalls P seal_Right.n [v28, .str [], v29] G15 fun v30 G31 => brB (some v30)
  (wv (vbuild T t_api_Hash []) fun v32 => wv (vload T G31 t_api_Hash (.ptr i8 [] 0)) fun v33 => ACalls P seal_Right.n [v32, .str [], v33] G31 fun v34 G35 => wv (vun .not v34) fun v36 => Q v36 G35)
  (Q (.bool false) G31))
  (Q (.bool false) G15))
  (Q (.bool false) G15))
  (Q (.bool false) G15))
  (Q (.bool false) G15)
def escrowlaw11_first.an : Ann := .nil
set_option maxRecDepth 100000 in
theorem escrowlaw11_first.sound {G : Heap} {Q : AVal → Heap → Prop} (h : escrowlaw11_first.S G Q) : ACalls P escrowlaw11_first.n [] G Q := by
  have e : escrowlaw11_first.S G Q = awp cx (escrowlaw11_first.body) escrowlaw11_first.an (bodyQ T [.tmp 0] Q) (envL []) G := by kernel_rfl
  exact ACalls_of_awp cxOk (f := escrowlaw11_first.n) (fn := Try.f8) (c := escrowlaw11_first.body) (an := escrowlaw11_first.an) Try.func8 (by kernel_rfl) (by kernel_rfl) (by kernel_rfl) (drawsOk_of (by kernel_rfl) (by kernel_rfl)) (by simp [Try.f8]) (e ▸ h)

/-! #### escrow/escrowlaw11.SealSigns -/
def escrowlaw11_SealSigns.S (a0 a1 a2 a3 : AVal) (G : Heap) (Q : AVal → Heap → Prop) : Prop :=
  aNew G (.own (a0)) fun i1 G2 => aNew G2 (.own (a1)) fun i3 G4 => wv (vload T G4 t_api_Hash (.ptr i1 [] 0)) fun v5 => ACalls P seal_Sign.n [v5, a2] G4 fun v6 G7 => aNew G7 (.own (z_api_Hash)) fun i8 G9 => wg (vstore T G9 t_api_Hash (.ptr i8 [] 0) v6) fun G10 => wv (vload T G10 t_api_Hash (.ptr i3 [] 0)) fun v11 => ACalls P seal_Sign.n [v11, a3] G10 fun v12 G13 => wv (vload T G13 t_api_Hash (.ptr i1 [] 0)) fun v14 => ACalls P seal_Sign.n [v14, a2] G13 fun v15 G16 => aNew G16 (.own (z_api_Hash)) fun i17 G18 => wg (vstore T G18 t_api_Hash (.ptr i17 [] 0) v15) fun G19 => wv (vload T G19 t_api_Hash (.ptr i1 [] 0)) fun v20 => ACalls P escrowref11_Sign.n [v20, a2] G19 fun v21 G22 => aNew G22 (.own (z_api_Hash)) fun i23 G24 => wg (vstore T G24 t_api_Hash (.ptr i23 [] 0) v21) fun G25 => wv (vload T G25 t_api_Hash (.ptr i8 [] 0)) fun v26 => wv (vload T G25 t_api_Hash (.ptr i23 [] 0)) fun v27 => wv (vbin T .eql t_api_Hash v26 v27) fun v28 => brB (some v28)
  (wv (vload T G25 t_api_Hash (.ptr i17 [] 0)) fun v29 => wv (vload T G25 t_api_Hash (.ptr i23 [] 0)) fun v30 => wv (vbin T .eql t_api_Hash v29 v30) fun v31 => brB (some v31)
  (ACalls P escrowlaw11_first.n [] G25 fun v32 G33 => Q v32 G33)
  (Q (.bool false) G25))
  (Q (.bool false) G25)
def escrowlaw11_SealSigns.an : Ann := .nil
set_option maxRecDepth 100000 in
theorem escrowlaw11_SealSigns.sound {a0 a1 a2 a3 : AVal} {G : Heap} {Q : AVal → Heap → Prop} (h : escrowlaw11_SealSigns.S a0 a1 a2 a3 G Q) : ACalls P escrowlaw11_SealSigns.n [a0, a1, a2, a3] G Q := by
  have e : escrowlaw11_SealSigns.S a0 a1 a2 a3 G Q = awp cx (escrowlaw11_SealSigns.body) escrowlaw11_SealSigns.an (bodyQ T [.tmp 8] Q) (envL [a0, a1, a2, a3]) G := by kernel_rfl
  exact ACalls_of_awp cxOk (f := escrowlaw11_SealSigns.n) (fn := Try.f3) (c := escrowlaw11_SealSigns.body) (an := escrowlaw11_SealSigns.an) Try.func3 (by kernel_rfl) (by kernel_rfl) (by kernel_rfl) (drawsOk_of (by kernel_rfl) (by kernel_rfl)) (by simp [Try.f3]) (e ▸ h)

/-! #### escrow/escrowref11.Right -/
def escrowref11_Right.S (a0 a1 a2 : AVal) (G : Heap) (Q : AVal → Heap → Prop) : Prop :=
  aNew G (.own (a0)) fun i1 G2 => aNew G2 (.own (a2)) fun i3 G4 => wv (vload T G4 t_api_Hash (.ptr i1 [] 0)) fun v5 => ACalls P escrowref11_Sign.n [v5, a1] G4 fun v6 G7 => aNew G7 (.own (z_api_Hash)) fun i8 G9 => wg (vstore T G9 t_api_Hash (.ptr i8 [] 0) v6) fun G10 => ∀ R11 : List AVal → Heap → Prop,
  (∀ (x13 x14 x15 : AVal) (G12 : Heap), (wv (vbin T .lss t_int x15 (.int .i64 32)) fun v16 => brB (some v16)
  (wv (viaddr T t_api_Hash x14 x15) fun v17 => wv (vload T G12 t_uint8 v17) fun v18 => wv (viaddr T t_api_Hash x13 x15) fun v19 => wv (vload T G12 t_uint8 v19) fun v20 => wv (vbin T .neq t_uint8 v18 v20) fun v21 => brB (some v21)
  (Q (.bool false) G12)
  (wv (vbin T .add t_int x15 (.int .i64 1)) fun v22 => R11 [x13, x14, v22] G12))
  (Q (.bool true) G12)) → R11 [x13, x14, x15] G12) →
  R11 [.ptr i3 [] 0, .ptr i8 [] 0, .int .i64 0] G10
def escrowref11_Right.an : Ann := .two (.nil) (.two (.nil) (.two (.two (.nil) (.loop [5, 7, 8] (.two (.nil) (.two (.two (.ord [(0, []), (1, []), (2, []), (3, []), (4, []), (5, []), (6, [])]) (.nil)) (.nil))))) (.nil)))
set_option maxRecDepth 100000 in
theorem escrowref11_Right.sound {a0 a1 a2 : AVal} {G : Heap} {Q : AVal → Heap → Prop} (h : escrowref11_Right.S a0 a1 a2 G Q) : ACalls P escrowref11_Right.n [a0, a1, a2] G Q := by
  have e : escrowref11_Right.S a0 a1 a2 G Q = awp cx (escrowref11_Right.body) escrowref11_Right.an (bodyQ T [.tmp 6] Q) (envL [a0, a1, a2]) G := by kernel_rfl
  exact ACalls_of_awp cxOk (f := escrowref11_Right.n) (fn := Try.f10) (c := escrowref11_Right.body) (an := escrowref11_Right.an) Try.func10 (by kernel_rfl) (by kernel_rfl) (by kernel_rfl) (drawsOk_of (by kernel_rfl) (by kernel_rfl)) (by simp [Try.f10]) (e ▸ h)

end Go.Esc.M
