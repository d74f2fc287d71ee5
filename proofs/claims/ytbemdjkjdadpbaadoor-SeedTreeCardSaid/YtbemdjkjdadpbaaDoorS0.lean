/- Printed by gen.py (own work): functions of the program YtbemdjkjdadpbaaDoor over trees and the abstract heap. -/
import Derived.Test.YtbemdjkjdadpbaaDoorT
set_option linter.unusedSimpArgs false
set_option linter.unusedVariables false
namespace Go.Esc.M
open Go Go.Esc Go.Proofs

/-! #### escrow/seed.right -/
def seed_right.S (a0 : AVal) (G : Heap) (Q : AVal → Heap → Prop) : Prop :=
  wv (vbin T .geq t_int64 a0 (.int .i64 0)) fun v1 => brB (some v1)
  (wv (vbin T .leq t_int64 a0 (.int .i64 281474976710655)) fun v2 => Q v2 G)
  (Q (.bool false) G)
def seed_right.an : Ann := .nil
set_option maxRecDepth 100000 in
theorem seed_right.sound {a0 : AVal} {G : Heap} {Q : AVal → Heap → Prop} (h : seed_right.S a0 G Q) : ACalls P seed_right.n [a0] G Q := by
  have e : seed_right.S a0 G Q = awp cx (seed_right.body) seed_right.an (bodyQ T [.tmp 2] Q) (envL [a0]) G := by kernel_rfl
  exact ACalls_of_awp cxOk (f := seed_right.n) (fn := Tryd.f21) (c := seed_right.body) (an := seed_right.an) Tryd.func21 (by kernel_rfl) (by kernel_rfl) (by kernel_rfl) (drawsOk_of (by kernel_rfl) (by kernel_rfl)) (by simp [Tryd.f21]) (e ▸ h)

/-! #### escrow/hash.constants -/
def hash_constants.S (G : Heap) (Q : AVal → Heap → Prop) : Prop :=
  aNew G (.own (z_ar64_uint32)) fun i1 G2 => wv (vbuild T t_ar64_uint32 [(0, .int .u32 1116352408), (1, .int .u32 1899447441), (2, .int .u32 3049323471), (3, .int .u32 3921009573), (4, .int .u32 961987163), (5, .int .u32 1508970993), (6, .int .u32 2453635748), (7, .int .u32 2870763221), (8, .int .u32 3624381080), (9, .int .u32 310598401), (10, .int .u32 607225278), (11, .int .u32 1426881987), (12, .int .u32 1925078388), (13, .int .u32 2162078206), (14, .int .u32 2614888103), (15, .int .u32 3248222580), (16, .int .u32 3835390401), (17, .int .u32 4022224774), (18, .int .u32 264347078), (19, .int .u32 604807628), (20, .int .u32 770255983), (21, .int .u32 1249150122), (22, .int .u32 1555081692), (23, .int .u32 1996064986), (24, .int .u32 2554220882), (25, .int .u32 2821834349), (26, .int .u32 2952996808), (27, .int .u32 3210313671), (28, .int .u32 3336571891), (29, .int .u32 3584528711), (30, .int .u32 113926993), (31, .int .u32 338241895), (32, .int .u32 666307205), (33, .int .u32 773529912), (34, .int .u32 1294757372), (35, .int .u32 1396182291), (36, .int .u32 1695183700), (37, .int .u32 1986661051), (38, .int .u32 2177026350), (39, .int .u32 2456956037), (40, .int .u32 2730485921), (41, .int .u32 2820302411), (42, .int .u32 3259730800), (43, .int .u32 3345764771), (44, .int .u32 3516065817), (45, .int .u32 3600352804), (46, .int .u32 4094571909), (47, .int .u32 275423344), (48, .int .u32 430227734), (49, .int .u32 506948616), (50, .int .u32 659060556), (51, .int .u32 883997877), (52, .int .u32 958139571), (53, .int .u32 1322822218), (54, .int .u32 1537002063), (55, .int .u32 1747873779), (56, .int .u32 1955562222), (57, .int .u32 2024104815), (58, .int .u32 2227730452), (59, .int .u32 2361852424), (60, .int .u32 2428436474), (61, .int .u32 2756734187), (62, .int .u32 3204031479), (63, .int .u32 3329325298)]) fun v3 => wg (vstore T G2 t_ar64_uint32 (.ptr i1 [] 0) v3) fun G4 => wv (vload T G4 t_ar64_uint32 (.ptr i1 [] 0)) fun v5 => Q v5 G4
def hash_constants.an : Ann := .nil
set_option maxRecDepth 100000 in
theorem hash_constants.sound {G : Heap} {Q : AVal → Heap → Prop} (h : hash_constants.S G Q) : ACalls P hash_constants.n [] G Q := by
  have e : hash_constants.S G Q = awp cx (hash_constants.body) hash_constants.an (bodyQ T [.cell 0 56] Q) (envL []) G := by kernel_rfl
  exact ACalls_of_awp cxOk (f := hash_constants.n) (fn := Tryd.f32) (c := hash_constants.body) (an := hash_constants.an) Tryd.func32 (by kernel_rfl) (by kernel_rfl) (by kernel_rfl) (drawsOk_of (by kernel_rfl) (by kernel_rfl)) (by simp [Tryd.f32]) (e ▸ h)

/-! #### math/bits.RotateLeft32 -/
def bits_RotateLeft32.S (a0 a1 : AVal) (G : Heap) (Q : AVal → Heap → Prop) : Prop :=
  wv (vconv T G t_int t_uint a1) fun v1 => wv (vbin T .and t_uint v1 (.int .u64 31)) fun v2 => wv (vbin T .shl t_uint32 a0 v2) fun v3 => wv (vbin T .sub t_uint (.int .u64 32) v2) fun v4 => wv (vbin T .shr t_uint32 a0 v4) fun v5 => wv (vbin T .or t_uint32 v3 v5) fun v6 => Q v6 G
def bits_RotateLeft32.an : Ann := .nil
set_option maxRecDepth 100000 in
theorem bits_RotateLeft32.sound {a0 a1 : AVal} {G : Heap} {Q : AVal → Heap → Prop} (h : bits_RotateLeft32.S a0 a1 G Q) : ACalls P bits_RotateLeft32.n [a0, a1] G Q := by
  have e : bits_RotateLeft32.S a0 a1 G Q = awp cx (bits_RotateLeft32.body) bits_RotateLeft32.an (bodyQ T [.tmp 4] Q) (envL [a0, a1]) G := by kernel_rfl
  exact ACalls_of_awp cxOk (f := bits_RotateLeft32.n) (fn := Tryd.f39) (c := bits_RotateLeft32.body) (an := bits_RotateLeft32.an) Tryd.func39 (by kernel_rfl) (by kernel_rfl) (by kernel_rfl) (drawsOk_of (by kernel_rfl) (by kernel_rfl)) (by simp [Tryd.f39]) (e ▸ h)

/-! #### escrow/hash.schedule -/
def hash_schedule.S (a0 : AVal) (G : Heap) (Q : AVal → Heap → Prop) : Prop :=
  aNew G (.own (z_ar64_uint32)) fun i1 G2 => aNew G2 (.own (z_ar64_uint32)) fun i3 G4 => ∀ R5 : List AVal → Heap → Prop,
  (∀ (x7 x8 x9 x10 : AVal) (G6 : Heap), (wv (vbin T .lss t_int x10 (.int .i64 16)) fun v11 => brB (some v11)
  (∀ R12 : List AVal → Heap → Prop,
  (∀ (x14 x15 x16 x17 x18 x19 : AVal) (G13 : Heap), (wv (vbin T .lss t_int x19 (.int .i64 4)) fun v20 => brB (some v20)
  (wv (viaddr T t_ar64_uint32 x16 x17) fun v21 => wv (vload T G13 t_uint32 v21) fun v22 => wv (vbin T .shl t_uint32 v22 (.int .u64 8)) fun v23 => wv (vbin T .mul t_int (.int .i64 4) x17) fun v24 => wv (vbin T .add t_int v24 x19) fun v25 => wv (vindex T t_string x14 v25) fun v26 => wv (vconv T G13 t_uint8 t_uint32 v26) fun v27 => wv (vbin T .or t_uint32 v23 v27) fun v28 => wv (viaddr T t_ar64_uint32 x16 x17) fun v29 => wg (vstore T G13 t_uint32 v29 v28) fun G30 => wv (vbin T .add t_int x19 (.int .i64 1)) fun v31 => R12 [x14, x15, x16, x17, x18, v31] G30)
  (wv (vbin T .add t_int x18 (.int .i64 1)) fun v32 => R5 [x14, x15, x16, v32] G13)) → R12 [x14, x15, x16, x17, x18, x19] G13) →
  R12 [x7, x8, x9, x10, x10, .int .i64 0] G6)
  (∀ R33 : List AVal → Heap → Prop,
  (∀ (x35 x36 x37 : AVal) (G34 : Heap), (wv (vbin T .lss t_int x37 (.int .i64 64)) fun v38 => brB (some v38)
  (wv (vbin T .sub t_int x37 (.int .i64 15)) fun v39 => wv (viaddr T t_ar64_uint32 x36 v39) fun v40 => wv (vload T G34 t_uint32 v40) fun v41 => wv (vbin T .sub t_int x37 (.int .i64 2)) fun v42 => wv (viaddr T t_ar64_uint32 x36 v42) fun v43 => wv (vload T G34 t_uint32 v43) fun v44 => ACalls P bits_RotateLeft32.n [v41, .int .i64 (-7)] G34 fun v45 G46 => ACalls P bits_RotateLeft32.n [v41, .int .i64 (-18)] G46 fun v47 G48 => wv (vbin T .xor t_uint32 v45 v47) fun v49 => wv (vbin T .shr t_uint32 v41 (.int .u64 3)) fun v50 => wv (vbin T .xor t_uint32 v49 v50) fun v51 => ACalls P bits_RotateLeft32.n [v44, .int .i64 (-17)] G48 fun v52 G53 => ACalls P bits_RotateLeft32.n [v44, .int .i64 (-19)] G53 fun v54 G55 => wv (vbin T .xor t_uint32 v52 v54) fun v56 => wv (vbin T .shr t_uint32 v44 (.int .u64 10)) fun v57 => wv (vbin T .xor t_uint32 v56 v57) fun v58 => wv (vbin T .sub t_int x37 (.int .i64 16)) fun v59 => wv (viaddr T t_ar64_uint32 x36 v59) fun v60 => wv (vload T G55 t_uint32 v60) fun v61 => wv (vbin T .add t_uint32 v61 v51) fun v62 => wv (vbin T .sub t_int x37 (.int .i64 7)) fun v63 => wv (viaddr T t_ar64_uint32 x36 v63) fun v64 => wv (vload T G55 t_uint32 v64) fun v65 => wv (vbin T .add t_uint32 v62 v65) fun v66 => wv (vbin T .add t_uint32 v66 v58) fun v67 => wv (viaddr T t_ar64_uint32 x36 x37) fun v68 => wg (vstore T G55 t_uint32 v68 v67) fun G69 => wv (vbin T .add t_int x37 (.int .i64 1)) fun v70 => R33 [x35, x36, v70] G69)
  (wv (vload T G34 t_ar64_uint32 x36) fun v71 => wg (vstore T G34 t_ar64_uint32 x35 v71) fun G72 => wv (vload T G72 t_ar64_uint32 x35) fun v73 => Q v73 G72)) → R33 [x35, x36, x37] G34) →
  R33 [x8, x9, .int .i64 16] G6)) → R5 [x7, x8, x9, x10] G6) →
  R5 [a0, .ptr i1 [] 0, .ptr i3 [] 0, .int .i64 0] G4
def hash_schedule.an : Ann := .two (.nil) (.two (.nil) (.two (.two (.nil) (.loop [0, 2, 3, 11] (.two (.nil) (.two (.nil) (.two (.two (.nil) (.two (.nil) (.loop [0, 2, 3, 4, 11, 14] (.two (.nil) (.two (.nil) (.two (.two (.nil) (.ord [(0, []), (1, []), (2, []), (3, []), (4, []), (5, []), (6, []), (7, []), (8, []), (9, []), (10, []), (11, []), (12, []), (13, []), (14, [])])) (.nil))))))) (.nil)))))) (.two (.two (.nil) (.loop [2, 3, 6] (.two (.nil) (.two (.two (.ord [(0, []), (1, []), (2, []), (3, []), (4, []), (5, []), (6, []), (7, []), (8, []), (9, [])]) (.two (.nil) (.two (.nil) (.ord [(0, []), (1, []), (2, []), (3, []), (4, []), (5, []), (6, []), (7, []), (8, []), (9, []), (10, []), (11, []), (12, []), (13, []), (14, []), (15, [])])))) (.nil))))) (.nil))))
set_option maxRecDepth 100000 in
theorem hash_schedule.sound {a0 : AVal} {G : Heap} {Q : AVal → Heap → Prop} (h : hash_schedule.S a0 G Q) : ACalls P hash_schedule.n [a0] G Q := by
  have e : hash_schedule.S a0 G Q = awp cx (hash_schedule.body) hash_schedule.an (bodyQ T [.cell 2 56] Q) (envL [a0]) G := by kernel_rfl
  exact ACalls_of_awp cxOk (f := hash_schedule.n) (fn := Tryd.f38) (c := hash_schedule.body) (an := hash_schedule.an) Tryd.func38 (by kernel_rfl) (by kernel_rfl) (by kernel_rfl) (drawsOk_of (by kernel_rfl) (by kernel_rfl)) (by simp [Tryd.f38]) (e ▸ h)

/-! #### escrow/hash.turned -/
def hash_turned.S (a0 a1 a2 : AVal) (G : Heap) (Q : AVal → Heap → Prop) : Prop :=
  aNew G (.own (a0)) fun i1 G2 => aNew G2 (.own (z_ar8_uint32)) fun i3 G4 => wv (vload T G4 t_ar8_uint32 (.ptr i1 [] 0)) fun v5 => ACalls P hash_schedule.n [a1] G4 fun v6 G7 => (vload T G7 t_ar8_uint32 (.ptr i1 [] 0) = some v5 ∧ True) ∧ (aNew G7 (.own (z_ar64_uint32)) fun i8 G9 => aNew G9 (.own (z_ar8_uint32)) fun i10 G11 => wg (vstore T G11 t_ar64_uint32 (.ptr i8 [] 0) v6) fun G12 => (vload T G12 t_ar8_uint32 (.ptr i1 [] 0) = some v5 ∧ True) ∧ (wg (vstore T G12 t_ar8_uint32 (.ptr i10 [] 0) v5) fun G13 => ∀ R14 : List AVal → Heap → Prop,
  (∀ (x16 x17 x18 x19 x20 x21 : AVal) (G15 : Heap), (wv (vbin T .lss t_int x21 (.int .i64 64)) fun v22 => brB (some v22)
  (wv (viaddr T t_ar8_uint32 x20 (.int .i64 4)) fun v23 => wv (vload T G15 t_uint32 v23) fun v24 => wv (viaddr T t_ar8_uint32 x20 (.int .i64 0)) fun v25 => wv (vload T G15 t_uint32 v25) fun v26 => wv (viaddr T t_ar8_uint32 x20 (.int .i64 7)) fun v27 => wv (vload T G15 t_uint32 v27) fun v28 => wv (viaddr T t_ar8_uint32 x20 (.int .i64 5)) fun v29 => wv (vload T G15 t_uint32 v29) fun v30 => wv (vbin T .and t_uint32 v24 v30) fun v31 => wv (vun .xor v24) fun v32 => wv (viaddr T t_ar8_uint32 x20 (.int .i64 6)) fun v33 => wv (vload T G15 t_uint32 v33) fun v34 => wv (vbin T .and t_uint32 v32 v34) fun v35 => wv (vbin T .xor t_uint32 v31 v35) fun v36 => wv (vnil x16) fun v37 => wv (viaddr T t_ar64_uint32 v37 x21) fun v38 => wv (vload T G15 t_uint32 v38) fun v39 => wv (viaddr T t_ar64_uint32 x19 x21) fun v40 => wv (vload T G15 t_uint32 v40) fun v41 => ACalls P bits_RotateLeft32.n [v24, .int .i64 (-6)] G15 fun v42 G43 => (vload T G43 t_uint32 v40 = some v41 ∧ vload T G43 t_uint32 v38 = some v39 ∧ vload T G43 t_uint32 v33 = some v34 ∧ vload T G43 t_uint32 v29 = some v30 ∧ vload T G43 t_uint32 v27 = some v28 ∧ True) ∧ (ACalls P bits_RotateLeft32.n [v24, .int .i64 (-11)] G43 fun v44 G45 => (vload T G45 t_uint32 v40 = some v41 ∧ vload T G45 t_uint32 v38 = some v39 ∧ vload T G45 t_uint32 v33 = some v34 ∧ vload T G45 t_uint32 v29 = some v30 ∧ vload T G45 t_uint32 v27 = some v28 ∧ True) ∧ (wv (vbin T .xor t_uint32 v42 v44) fun v46 => ACalls P bits_RotateLeft32.n [v24, .int .i64 (-25)] G45 fun v47 G48 => (vload T G48 t_uint32 v40 = some v41 ∧ vload T G48 t_uint32 v38 = some v39 ∧ vload T G48 t_uint32 v33 = some v34 ∧ vload T G48 t_uint32 v29 = some v30 ∧ vload T G48 t_uint32 v27 = some v28 ∧ True) ∧ (wv (vbin T .xor t_uint32 v46 v47) fun v49 => wv (vbin T .add t_uint32 v28 v49) fun v50 => wv (vbin T .add t_uint32 v50 v36) fun v51 => wv (vbin T .add t_uint32 v51 v39) fun v52 => wv (vbin T .add t_uint32 v52 v41) fun v53 => wv (viaddr T t_ar8_uint32 x20 (.int .i64 1)) fun v54 => wv (vload T G48 t_uint32 v54) fun v55 => wv (vbin T .and t_uint32 v26 v55) fun v56 => wv (viaddr T t_ar8_uint32 x20 (.int .i64 2)) fun v57 => wv (vload T G48 t_uint32 v57) fun v58 => wv (vbin T .and t_uint32 v26 v58) fun v59 => wv (vbin T .xor t_uint32 v56 v59) fun v60 => wv (viaddr T t_ar8_uint32 x20 (.int .i64 1)) fun v61 => wv (vload T G48 t_uint32 v61) fun v62 => wv (viaddr T t_ar8_uint32 x20 (.int .i64 2)) fun v63 => wv (vload T G48 t_uint32 v63) fun v64 => wv (vbin T .and t_uint32 v62 v64) fun v65 => wv (vbin T .xor t_uint32 v60 v65) fun v66 => ACalls P bits_RotateLeft32.n [v26, .int .i64 (-2)] G48 fun v67 G68 => (vload T G68 t_uint32 v63 = some v64 ∧ vload T G68 t_uint32 v61 = some v62 ∧ vload T G68 t_uint32 v57 = some v58 ∧ vload T G68 t_uint32 v54 = some v55 ∧ True) ∧ (ACalls P bits_RotateLeft32.n [v26, .int .i64 (-13)] G68 fun v69 G70 => (vload T G70 t_uint32 v63 = some v64 ∧ vload T G70 t_uint32 v61 = some v62 ∧ vload T G70 t_uint32 v57 = some v58 ∧ vload T G70 t_uint32 v54 = some v55 ∧ True) ∧ (wv (vbin T .xor t_uint32 v67 v69) fun v71 => ACalls P bits_RotateLeft32.n [v26, .int .i64 (-22)] G70 fun v72 G73 => (vload T G73 t_uint32 v63 = some v64 ∧ vload T G73 t_uint32 v61 = some v62 ∧ vload T G73 t_uint32 v57 = some v58 ∧ vload T G73 t_uint32 v54 = some v55 ∧ True) ∧ (wv (vbin T .xor t_uint32 v71 v72) fun v74 => wv (vbin T .add t_uint32 v74 v66) fun v75 => wv (vbin T .add t_uint32 v53 v75) fun v76 => wv (viaddr T t_ar8_uint32 x20 (.int .i64 1)) fun v77 => wv (vload T G73 t_uint32 v77) fun v78 => wv (viaddr T t_ar8_uint32 x20 (.int .i64 2)) fun v79 => wv (vload T G73 t_uint32 v79) fun v80 => wv (viaddr T t_ar8_uint32 x20 (.int .i64 3)) fun v81 => wv (vload T G73 t_uint32 v81) fun v82 => wv (vbin T .add t_uint32 v82 v53) fun v83 => wv (viaddr T t_ar8_uint32 x20 (.int .i64 5)) fun v84 => wv (vload T G73 t_uint32 v84) fun v85 => wv (viaddr T t_ar8_uint32 x20 (.int .i64 6)) fun v86 => wv (vload T G73 t_uint32 v86) fun v87 => wv (vbuild T t_ar8_uint32 [(0, v76), (1, v26), (2, v78), (3, v80), (4, v83), (5, v24), (6, v85), (7, v87)]) fun v88 => wg (vstore T G73 t_ar8_uint32 x20 v88) fun G89 => wv (vbin T .add t_int x21 (.int .i64 1)) fun v90 => R14 [x16, x17, x18, x19, x20, v90] G89)))))))
  (∀ R91 : List AVal → Heap → Prop,
  (∀ (x93 x94 x95 x96 : AVal) (G92 : Heap), (wv (vbin T .lss t_int x96 (.int .i64 8)) fun v97 => brB (some v97)
  (wv (viaddr T t_ar8_uint32 x95 x96) fun v98 => wv (vload T G92 t_uint32 v98) fun v99 => wv (viaddr T t_ar8_uint32 x93 x96) fun v100 => wv (vload T G92 t_uint32 v100) fun v101 => wv (vbin T .add t_uint32 v99 v101) fun v102 => wv (viaddr T t_ar8_uint32 x95 x96) fun v103 => wg (vstore T G92 t_uint32 v103 v102) fun G104 => wv (vbin T .add t_int x96 (.int .i64 1)) fun v105 => R91 [x93, x94, x95, v105] G104)
  (wv (vload T G92 t_ar8_uint32 x95) fun v106 => wg (vstore T G92 t_ar8_uint32 x94 v106) fun G107 => wv (vload T G107 t_ar8_uint32 x94) fun v108 => Q v108 G107)) → R91 [x93, x94, x95, x96] G92) →
  R91 [x17, x18, x20, .int .i64 0] G15)) → R14 [x16, x17, x18, x19, x20, x21] G15) →
  R14 [a2, .ptr i1 [] 0, .ptr i3 [] 0, .ptr i8 [] 0, .ptr i10 [] 0, .int .i64 0] G13))
def hash_turned.an : Ann := .two (.nil) (.two (.ord [(0, []), (2, []), (1, [2]), (3, []), (4, []), (5, [2]), (6, [])]) (.two (.two (.nil) (.loop [2, 3, 6, 7, 8, 18] (.two (.nil) (.two (.nil) (.two (.two (.nil) (.two (.ord [(0, []), (1, []), (2, []), (3, []), (4, []), (5, [])]) (.two (.ord [(0, []), (1, []), (2, []), (4, []), (7, []), (11, []), (12, []), (13, []), (14, []), (15, []), (16, []), (17, []), (18, []), (19, []), (20, []), (22, []), (23, []), (24, []), (25, []), (26, []), (28, []), (29, []), (30, []), (3, [1, 13, 18, 26, 30]), (5, [1, 13, 18, 26, 30]), (6, []), (8, [1, 13, 18, 26, 30]), (9, []), (10, []), (21, []), (27, []), (31, []), (32, [])]) (.two (.ord [(0, []), (2, []), (5, []), (8, []), (9, []), (10, []), (11, []), (12, []), (13, []), (14, []), (15, []), (16, []), (17, []), (18, []), (19, []), (20, []), (21, []), (22, []), (1, [10, 14, 18, 20]), (3, [10, 14, 18, 20]), (4, []), (6, [10, 14, 18, 20]), (7, []), (23, []), (24, [])]) (.nil))))) (.nil)))))) (.two (.two (.nil) (.loop [3, 6, 8, 100] (.two (.nil) (.two (.nil) (.two (.two (.nil) (.ord [(0, []), (1, []), (2, []), (3, []), (4, []), (5, []), (6, []), (7, []), (8, [])])) (.nil)))))) (.nil))))
set_option maxRecDepth 100000 in
theorem hash_turned.sound {a0 a1 a2 : AVal} {G : Heap} {Q : AVal → Heap → Prop} (h : hash_turned.S a0 a1 a2 G Q) : ACalls P hash_turned.n [a0, a1, a2] G Q := by
  have e : hash_turned.S a0 a1 a2 G Q = awp cx (hash_turned.body) hash_turned.an (bodyQ T [.cell 6 55] Q) (envL [a0, a1, a2]) G := by kernel_rfl
  exact ACalls_of_awp cxOk (f := hash_turned.n) (fn := Tryd.f33) (c := hash_turned.body) (an := hash_turned.an) Tryd.func33 (by kernel_rfl) (by kernel_rfl) (by kernel_rfl) (drawsOk_of (by kernel_rfl) (by kernel_rfl)) (by simp [Tryd.f33]) (e ▸ h)

/-! #### escrow/hash.Sum -/
def hash_Sum.S (a0 : AVal) (G : Heap) (Q : AVal → Heap → Prop) : Prop :=
  aNew G (.own (z_api_Hash)) fun i1 G2 => ACalls P strings_Join.n [a0, .str []] G2 fun v3 G4 => wv (vlen T G4 t_string v3) fun v5 => aBuildSlice T t_sl_uint8 1 [(0, .int .u8 128)] G4 fun v6 G7 => ∀ R8 : List AVal → Heap → Prop,
  (∀ (x10 x11 x12 x13 : AVal) (G9 : Heap), (wv (vlen T G9 t_sl_uint8 x13) fun v14 => wv (vbin T .add t_int x12 v14) fun v15 => wv (vbin T .rem t_int v15 (.int .i64 64)) fun v16 => wv (vbin T .neq t_int v16 (.int .i64 56)) fun v17 => brB (some v17)
  (aBuildSlice T t_sl_uint8 1 [(0, .int .u8 0)] G9 fun v18 G19 => aAppend T G19 t_sl_uint8 t_sl_uint8 x13 v18 fun v20 G21 => R8 [x10, x11, x12, v20] G21)
  (∀ R22 : List AVal → Heap → Prop,
  (∀ (x24 x25 x26 x27 x28 : AVal) (G23 : Heap), (wv (vbin T .lss t_int x28 (.int .i64 8)) fun v29 => brB (some v29)
  (wv (vbin T .mul t_int (.int .i64 8) x26) fun v30 => wv (vconv T G23 t_int t_uint64 v30) fun v31 => wv (vbin T .mul t_int (.int .i64 8) x28) fun v32 => wv (vbin T .sub t_int (.int .i64 56) v32) fun v33 => wv (vbin T .shr t_uint64 v31 v33) fun v34 => wv (vconv T G23 t_uint64 t_uint8 v34) fun v35 => aBuildSlice T t_sl_uint8 1 [(0, v35)] G23 fun v36 G37 => aAppend T G37 t_sl_uint8 t_sl_uint8 x27 v36 fun v38 G39 => wv (vbin T .add t_int x28 (.int .i64 1)) fun v40 => R22 [x24, x25, x26, v38, v40] G39)
  (wv (vconv T G23 t_sl_uint8 t_string x27) fun v41 => wv (vbin T .add t_string x25 v41) fun v42 => wv (vbuild T t_ar8_uint32 [(0, .int .u32 1779033703), (1, .int .u32 3144134277), (2, .int .u32 1013904242), (3, .int .u32 2773480762), (4, .int .u32 1359893119), (5, .int .u32 2600822924), (6, .int .u32 528734635), (7, .int .u32 1541459225)]) fun v43 => aNew G23 (.own (z_ar8_uint32)) fun i44 G45 => wg (vstore T G45 t_ar8_uint32 (.ptr i44 [] 0) v43) fun G46 => ACalls P hash_constants.n [] G46 fun v47 G48 => aNew G48 (.own (z_ar64_uint32)) fun i49 G50 => wg (vstore T G50 t_ar64_uint32 (.ptr i49 [] 0) v47) fun G51 => ∀ R52 : List AVal → Heap → Prop,
  (∀ (x54 x55 x56 x57 : AVal) (G53 : Heap), (wv (vbin T .neq t_string x55 (.str [])) fun v58 => brB (some v58)
  (wv (vload T G53 t_ar8_uint32 x56) fun v59 => wv (vslice T t_string x55 none (some (.int .i64 64)) none) fun v60 => ACalls P hash_turned.n [v59, v60, x57] G53 fun v61 G62 => wg (vstore T G62 t_ar8_uint32 x56 v61) fun G63 => wv (vslice T t_string x55 (some (.int .i64 64)) none none) fun v64 => R52 [x54, v64, x56, x57] G63)
  (aNew G53 (.own (z_api_Hash)) fun i65 G66 => ∀ R67 : List AVal → Heap → Prop,
  (∀ (x69 x70 x71 x72 : AVal) (G68 : Heap), (wv (vbin T .lss t_int x72 (.int .i64 32)) fun v73 => brB (some v73)
  (wv (vbin T .quo t_int x72 (.int .i64 4)) fun v74 => wv (viaddr T t_ar8_uint32 x70 v74) fun v75 => wv (vload T G68 t_uint32 v75) fun v76 => wv (vbin T .rem t_int x72 (.int .i64 4)) fun v77 => wv (vbin T .mul t_int (.int .i64 8) v77) fun v78 => wv (vbin T .sub t_int (.int .i64 24) v78) fun v79 => wv (vbin T .shr t_uint32 v76 v79) fun v80 => wv (vconv T G68 t_uint32 t_uint8 v80) fun v81 => wv (viaddr T t_api_Hash x71 x72) fun v82 => wg (vstore T G68 t_uint8 v82 v81) fun G83 => wv (vbin T .add t_int x72 (.int .i64 1)) fun v84 => R67 [x69, x70, x71, v84] G83)
  (wv (vload T G68 t_api_Hash x71) fun v85 => wg (vstore T G68 t_api_Hash x69 v85) fun G86 => wv (vload T G86 t_api_Hash x69) fun v87 => Q v87 G86)) → R67 [x69, x70, x71, x72] G68) →
  R67 [x54, x56, .ptr i65 [] 0, .int .i64 0] G66)) → R52 [x54, x55, x56, x57] G53) →
  R52 [x24, v42, .ptr i44 [] 0, .ptr i49 [] 0] G51)) → R22 [x24, x25, x26, x27, x28] G23) →
  R22 [x10, x11, x12, x13, .int .i64 0] G9)) → R8 [x10, x11, x12, x13] G9) →
  R8 [.ptr i1 [] 0, v3, v5, v6] G7
def hash_Sum.an : Ann := .two (.nil) (.two (.nil) (.two (.nil) (.two (.nil) (.two (.loop [2, 3, 4, 5] (.nil)) (.two (.two (.nil) (.loop [2, 3, 4, 5, 25] (.nil))) (.two (.nil) (.two (.nil) (.two (.nil) (.two (.loop [2, 3, 7, 8] (.two (.nil) (.two (.ord [(0, []), (1, []), (2, []), (3, []), (4, [])]) (.nil)))) (.two (.nil) (.two (.two (.nil) (.loop [2, 7, 9, 54] (.nil))) (.nil))))))))))))
set_option maxRecDepth 100000 in
theorem hash_Sum.sound {a0 : AVal} {G : Heap} {Q : AVal → Heap → Prop} (h : hash_Sum.S a0 G Q) : ACalls P hash_Sum.n [a0] G Q := by
  have e : hash_Sum.S a0 G Q = awp cx (hash_Sum.body) hash_Sum.an (bodyQ T [.cell 2 23] Q) (envL [a0]) G := by kernel_rfl
  exact ACalls_of_awp cxOk (f := hash_Sum.n) (fn := Tryd.f29) (c := hash_Sum.body) (an := hash_Sum.an) Tryd.func29 (by kernel_rfl) (by kernel_rfl) (by kernel_rfl) (drawsOk_of (by kernel_rfl) (by kernel_rfl)) (by simp [Tryd.f29]) (e ▸ h)

/-! #### escrow/seed.Point -/
def seed_Point.S (a0 : AVal) (G : Heap) (Q : AVal → Heap → Prop) : Prop :=
  aNew G (.own (a0)) fun i1 G2 => aNew G2 (.own (z_api_Hash)) fun i3 G4 => wv (vslice T t_api_Hash (.ptr i1 [] 0) none none none) fun v5 => wv (vconv T G4 t_sl_uint8 t_string v5) fun v6 => aBuildSlice T t_sl_string 1 [(0, v6)] G4 fun v7 G8 => ACalls P hash_Sum.n [v7] G8 fun v9 G10 => wg (vstore T G10 t_api_Hash (.ptr i3 [] 0) v9) fun G11 => wv (vload T G11 t_api_Hash (.ptr i3 [] 0)) fun v12 => Q v12 G11
def seed_Point.an : Ann := .nil
set_option maxRecDepth 100000 in
theorem seed_Point.sound {a0 : AVal} {G : Heap} {Q : AVal → Heap → Prop} (h : seed_Point.S a0 G Q) : ACalls P seed_Point.n [a0] G Q := by
  have e : seed_Point.S a0 G Q = awp cx (seed_Point.body) seed_Point.an (bodyQ T [.cell 2 23] Q) (envL [a0]) G := by kernel_rfl
  exact ACalls_of_awp cxOk (f := seed_Point.n) (fn := Tryd.f13) (c := seed_Point.body) (an := seed_Point.an) Tryd.func13 (by kernel_rfl) (by kernel_rfl) (by kernel_rfl) (drawsOk_of (by kernel_rfl) (by kernel_rfl)) (by simp [Tryd.f13]) (e ▸ h)

/-! #### escrow/seed.down -/
def seed_down.S (a0 a1 a2 : AVal) (G : Heap) (Q : AVal → Heap → Prop) : Prop :=
  aNew G (.own (a0)) fun i1 G2 => aNew G2 (.own (z_api_Hash)) fun i3 G4 => ∀ R5 : List AVal → Heap → Prop,
  (∀ (x7 x8 x9 x10 x11 x12 : AVal) (G6 : Heap), (wv (vbin T .lss t_int x12 x11) fun v13 => brB (some v13)
  (wv (vbin T .sub t_int x8 (.int .i64 1)) fun v14 => wv (vbin T .sub t_int v14 x12) fun v15 => wv (vbin T .shr t_int64 x7 v15) fun v16 => wv (vbin T .and t_int64 v16 (.int .i64 1)) fun v17 => wv (vbin T .eql t_int64 v17 (.int .i64 1)) fun v18 => brB (some v18)
  (wv (vbin T .quo t_int v15 (.int .i64 8)) fun v19 => wv (viaddr T t_api_Hash x9 v19) fun v20 => wv (vload T G6 t_uint8 v20) fun v21 => wv (vbin T .rem t_int v15 (.int .i64 8)) fun v22 => wv (vbin T .shl t_uint8 (.int .u8 1) v22) fun v23 => wv (vbin T .xor t_uint8 v21 v23) fun v24 => wv (viaddr T t_api_Hash x9 v19) fun v25 => wg (vstore T G6 t_uint8 v25 v24) fun G26 => wv (vload T G26 t_api_Hash x9) fun v27 => ACalls P seed_Point.n [v27] G26 fun v28 G29 => wg (vstore T G29 t_api_Hash x9 v28) fun G30 => wv (vbin T .add t_int x12 (.int .i64 1)) fun v34 => R5 [x7, x8, x9, x10, x11, v34] G30)
  (wv (vbin T .add t_int x12 (.int .i64 1)) fun v35 => R5 [x7, x8, x9, x10, x11, v35] G6))
  (wv (vload T G6 t_api_Hash x9) fun v36 => wg (vstore T G6 t_api_Hash x10 v36) fun G37 => wv (vload T G37 t_api_Hash x10) fun v38 => Q v38 G37)) → R5 [x7, x8, x9, x10, x11, x12] G6) →
  R5 [a1, a2, .ptr i1 [] 0, .ptr i3 [] 0, a2, .int .i64 0] G4
def seed_down.an : Ann := .two (.nil) (.two (.two (.nil) (.loop [1, 2, 3, 6, 9, 10] (.two (.nil) (.two (.nil) (.two (.two (.nil) (.two (.nil) (.two (.nil) (.two (.two (.ord [(0, []), (1, []), (2, []), (3, []), (4, []), (5, []), (6, []), (7, []), (8, []), (9, [])]) (.nil)) (.nil))))) (.nil)))))) (.nil))
set_option maxRecDepth 100000 in
theorem seed_down.sound {a0 a1 a2 : AVal} {G : Heap} {Q : AVal → Heap → Prop} (h : seed_down.S a0 a1 a2 G Q) : ACalls P seed_down.n [a0, a1, a2] G Q := by
  have e : seed_down.S a0 a1 a2 G Q = awp cx (seed_down.body) seed_down.an (bodyQ T [.cell 6 23] Q) (envL [a0, a1, a2]) G := by kernel_rfl
  exact ACalls_of_awp cxOk (f := seed_down.n) (fn := Tryd.f22) (c := seed_down.body) (an := seed_down.an) Tryd.func22 (by kernel_rfl) (by kernel_rfl) (by kernel_rfl) (drawsOk_of (by kernel_rfl) (by kernel_rfl)) (by simp [Tryd.f22]) (e ▸ h)

/-! #### escrow/seed.place -/
def seed_place.S (a0 : AVal) (G : Heap) (Q : AVal → Heap → Prop) : Prop :=
  wv (vbin T .sub t_int64 (.int .i64 281474976710655) a0) fun v1 => Q v1 G
def seed_place.an : Ann := .nil
set_option maxRecDepth 100000 in
theorem seed_place.sound {a0 : AVal} {G : Heap} {Q : AVal → Heap → Prop} (h : seed_place.S a0 G Q) : ACalls P seed_place.n [a0] G Q := by
  have e : seed_place.S a0 G Q = awp cx (seed_place.body) seed_place.an (bodyQ T [.tmp 2] Q) (envL [a0]) G := by kernel_rfl
  exact ACalls_of_awp cxOk (f := seed_place.n) (fn := Tryd.f23) (c := seed_place.body) (an := seed_place.an) Tryd.func23 (by kernel_rfl) (by kernel_rfl) (by kernel_rfl) (drawsOk_of (by kernel_rfl) (by kernel_rfl)) (by simp [Tryd.f23]) (e ▸ h)

/-! #### escrow/seed.Secret -/
def seed_Secret.S (a0 a1 : AVal) (G : Heap) (Q : AVal → Heap → Prop) : Prop :=
  aNew G (.own (a0)) fun i1 G2 => aNew G2 (.own (z_api_Hash)) fun i3 G4 => ACalls P seed_right.n [a1] G4 fun v5 G6 => wv (vun .not v5) fun v7 => brB (some v7)
  (wv (vbuild T t_api_Hash []) fun v8 => wg (vstore T G6 t_api_Hash (.ptr i3 [] 0) v8) fun G9 => wv (vload T G9 t_api_Hash (.ptr i3 [] 0)) fun v10 => Q (.tuple [v10, .int .i64 90]) G9)
  (wv (vload T G6 t_api_Hash (.ptr i1 [] 0)) fun v11 => ACalls P seed_place.n [a1] G6 fun v12 G13 => (vload T G13 t_api_Hash (.ptr i1 [] 0) = some v11 ∧ True) ∧ (ACalls P seed_down.n [v11, v12, .int .i64 48] G13 fun v14 G15 => wg (vstore T G15 t_api_Hash (.ptr i3 [] 0) v14) fun G16 => wv (vload T G16 t_api_Hash (.ptr i3 [] 0)) fun v17 => Q (.tuple [v17, .int .i64 0]) G16))
def seed_Secret.an : Ann := .two (.nil) (.two (.nil) (.two (.ord [(0, []), (1, []), (2, [0]), (3, []), (4, []), (5, [])]) (.nil)))
set_option maxRecDepth 100000 in
theorem seed_Secret.sound {a0 a1 : AVal} {G : Heap} {Q : AVal → Heap → Prop} (h : seed_Secret.S a0 a1 G Q) : ACalls P seed_Secret.n [a0, a1] G Q := by
  have e : seed_Secret.S a0 a1 G Q = awp cx (seed_Secret.body) seed_Secret.an (bodyQ T [.cell 4 23, .tmp 5] Q) (envL [a0, a1]) G := by kernel_rfl
  exact ACalls_of_awp cxOk (f := seed_Secret.n) (fn := Tryd.f9) (c := seed_Secret.body) (an := seed_Secret.an) Tryd.func9 (by kernel_rfl) (by kernel_rfl) (by kernel_rfl) (drawsOk_of (by kernel_rfl) (by kernel_rfl)) (by simp [Tryd.f9]) (e ▸ h)

/-! #### math/bits.TrailingZeros64 -/
def bits_TrailingZeros64.S (a0 : AVal) (G : Heap) (Q : AVal → Heap → Prop) : Prop :=
  wv (vbin T .eql t_uint64 a0 (.int .u64 0)) fun v1 => brB (some v1)
  (Q (.int .i64 64) G)
  (wv (vun .neg a0) fun v2 => wv (vbin T .and t_uint64 a0 v2) fun v3 => wv (vbin T .mul t_uint64 v3 (.int .u64 285870213051353865)) fun v4 => wv (vbin T .shr t_uint64 v4 (.int .u64 58)) fun v5 => wv (viaddr T t_ar64_uint8 (.ptr ⟨0, 0, 0⟩ [] 0) v5) fun v6 => wv (vload T G t_uint8 v6) fun v7 => wv (vconv T G t_uint8 t_int v7) fun v8 => Q v8 G)
def bits_TrailingZeros64.an : Ann := .nil
set_option maxRecDepth 100000 in
theorem bits_TrailingZeros64.sound {a0 : AVal} {G : Heap} {Q : AVal → Heap → Prop} (h : bits_TrailingZeros64.S a0 G Q) : ACalls P bits_TrailingZeros64.n [a0] G Q := by
  have e : bits_TrailingZeros64.S a0 G Q = awp cx (bits_TrailingZeros64.body) bits_TrailingZeros64.an (bodyQ T [.tmp 2] Q) (envL [a0]) G := by kernel_rfl
  exact ACalls_of_awp cxOk (f := bits_TrailingZeros64.n) (fn := Tryd.f27) (c := bits_TrailingZeros64.body) (an := bits_TrailingZeros64.an) Tryd.func27 (by kernel_rfl) (by kernel_rfl) (by kernel_rfl) (drawsOk_of (by kernel_rfl) (by kernel_rfl)) (by simp [Tryd.f27]) (e ▸ h)

/-! #### escrow/seed.Level -/
def seed_Level.S (a0 : AVal) (G : Heap) (Q : AVal → Heap → Prop) : Prop :=
  ACalls P seed_right.n [a0] G fun v1 G2 => wv (vun .not v1) fun v3 => brB (some v3)
  (Q (.tuple [.int .i64 0, .int .i64 90]) G2)
  (ACalls P seed_place.n [a0] G2 fun v4 G5 => wv (vconv T G5 t_int64 t_uint64 v4) fun v6 => ACalls P bits_TrailingZeros64.n [v6] G5 fun v7 G8 => wv (vmin2 (.int .i64 48) v7) fun v9 => Q (.tuple [v9, .int .i64 0]) G8)
def seed_Level.an : Ann := .nil
set_option maxRecDepth 100000 in
theorem seed_Level.sound {a0 : AVal} {G : Heap} {Q : AVal → Heap → Prop} (h : seed_Level.S a0 G Q) : ACalls P seed_Level.n [a0] G Q := by
  have e : seed_Level.S a0 G Q = awp cx (seed_Level.body) seed_Level.an (bodyQ T [.tmp 2, .tmp 3] Q) (envL [a0]) G := by kernel_rfl
  exact ACalls_of_awp cxOk (f := seed_Level.n) (fn := Tryd.f11) (c := seed_Level.body) (an := seed_Level.an) Tryd.func11 (by kernel_rfl) (by kernel_rfl) (by kernel_rfl) (drawsOk_of (by kernel_rfl) (by kernel_rfl)) (by simp [Tryd.f11]) (e ▸ h)

/-! #### escrow/seed.Derive -/
def seed_Derive.S (a0 a1 a2 : AVal) (G : Heap) (Q : AVal → Heap → Prop) : Prop :=
  aNew G (.own (a0)) fun i1 G2 => aNew G2 (.own (z_api_Hash)) fun i3 G4 => ACalls P seed_Level.n [a1] G4 fun v5 G6 => wv (vextract v5 0) fun v7 => wv (vextract v5 1) fun v8 => let J28 : AVal → Heap → Prop := (fun x14 G13 => brB (some x14)
  (wv (vbuild T t_api_Hash []) fun v15 => wg (vstore T G13 t_api_Hash (.ptr i3 [] 0) v15) fun G16 => wv (vload T G16 t_api_Hash (.ptr i3 [] 0)) fun v17 => Q (.tuple [v17, .int .i64 90]) G16)
  (ACalls P seed_place.n [a1] G13 fun v18 G19 => wv (vbin T .shr t_int64 v18 v7) fun v20 => ACalls P seed_place.n [a2] G19 fun v21 G22 => wv (vbin T .shr t_int64 v21 v7) fun v23 => wv (vbin T .neq t_int64 v20 v23) fun v24 => brB (some v24)
  (wv (vbuild T t_api_Hash []) fun v25 => wg (vstore T G22 t_api_Hash (.ptr i3 [] 0) v25) fun G26 => wv (vload T G26 t_api_Hash (.ptr i3 [] 0)) fun v27 => Q (.tuple [v27, .int .i64 5]) G26)
  (wv (vload T G22 t_api_Hash (.ptr i1 [] 0)) fun v29 => ACalls P seed_place.n [a2] G22 fun v30 G31 => (vload T G31 t_api_Hash (.ptr i1 [] 0) = some v29 ∧ True) ∧ (ACalls P seed_down.n [v29, v30, v7] G31 fun v32 G33 => wg (vstore T G33 t_api_Hash (.ptr i3 [] 0) v32) fun G34 => wv (vload T G34 t_api_Hash (.ptr i3 [] 0)) fun v35 => Q (.tuple [v35, .int .i64 0]) G34))));
  wv (vbin T .neq t_api_Errno v8 (.int .i64 0)) fun v9 => brB (some v9)
  (J28 (.bool true) G6)
  (ACalls P seed_right.n [a2] G6 fun v10 G11 => wv (vun .not v10) fun v12 => J28 v12 G11)
def seed_Derive.an : Ann := .two (.nil) (.two (.nil) (.two (.two (.nil) (.two (.nil) (.two (.ord [(0, []), (2, []), (4, []), (6, []), (1, []), (3, []), (5, []), (7, []), (8, []), (9, [])]) (.nil)))) (.two (.ord [(0, []), (1, []), (3, []), (2, [0]), (4, []), (5, []), (6, [])]) (.nil))))
set_option maxRecDepth 100000 in
theorem seed_Derive.sound {a0 a1 a2 : AVal} {G : Heap} {Q : AVal → Heap → Prop} (h : seed_Derive.S a0 a1 a2 G Q) : ACalls P seed_Derive.n [a0, a1, a2] G Q := by
  have e : seed_Derive.S a0 a1 a2 G Q = awp cx (seed_Derive.body) seed_Derive.an (bodyQ T [.cell 6 23, .tmp 7] Q) (envL [a0, a1, a2]) G := by kernel_rfl
  exact ACalls_of_awp cxOk (f := seed_Derive.n) (fn := Tryd.f15) (c := seed_Derive.body) (an := seed_Derive.an) Tryd.func15 (by kernel_rfl) (by kernel_rfl) (by kernel_rfl) (drawsOk_of (by kernel_rfl) (by kernel_rfl)) (by simp [Tryd.f15]) (e ▸ h)

/-! #### escrow/escrowlaw09.full -/
def escrowlaw09_full.S (a0 : AVal) (G : Heap) (Q : AVal → Heap → Prop) : Prop :=
  aNew G (.own (z_api_Hash)) fun i1 G2 => aNew G2 (.own (z_api_Hash)) fun i3 G4 => ∀ R5 : List AVal → Heap → Prop,
  (∀ (x7 x8 x9 x10 : AVal) (G6 : Heap), (wv (vbin T .lss t_int x10 (.int .i64 32)) fun v11 => brB (some v11)
  (wv (viaddr T t_api_Hash x9 x10) fun v12 => wg (vstore T G6 t_uint8 v12 x7) fun G13 => wv (vbin T .add t_int x10 (.int .i64 1)) fun v14 => R5 [x7, x8, x9, v14] G13)
  (wv (vload T G6 t_api_Hash x9) fun v15 => wg (vstore T G6 t_api_Hash x8 v15) fun G16 => wv (vload T G16 t_api_Hash x8) fun v17 => Q v17 G16)) → R5 [x7, x8, x9, x10] G6) →
  R5 [a0, .ptr i1 [] 0, .ptr i3 [] 0, .int .i64 0] G4
def escrowlaw09_full.an : Ann := .two (.nil) (.two (.nil) (.two (.two (.nil) (.loop [0, 2, 3, 4] (.nil))) (.nil)))
set_option maxRecDepth 100000 in
theorem escrowlaw09_full.sound {a0 : AVal} {G : Heap} {Q : AVal → Heap → Prop} (h : escrowlaw09_full.S a0 G Q) : ACalls P escrowlaw09_full.n [a0] G Q := by
  have e : escrowlaw09_full.S a0 G Q = awp cx (escrowlaw09_full.body) escrowlaw09_full.an (bodyQ T [.cell 2 23] Q) (envL [a0]) G := by kernel_rfl
  exact ACalls_of_awp cxOk (f := escrowlaw09_full.n) (fn := Tryd.f19) (c := escrowlaw09_full.body) (an := escrowlaw09_full.an) Tryd.func19 (by kernel_rfl) (by kernel_rfl) (by kernel_rfl) (drawsOk_of (by kernel_rfl) (by kernel_rfl)) (by simp [Tryd.f19]) (e ▸ h)

/-! #### escrow/escrowlaw09.begins -/
def escrowlaw09_begins.S (a0 a1 a2 a3 a4 : AVal) (G : Heap) (Q : AVal → Heap → Prop) : Prop :=
  aNew G (.own (a0)) fun i1 G2 => wv (viaddr T t_api_Hash (.ptr i1 [] 0) (.int .i64 0)) fun v3 => wv (vload T G2 t_uint8 v3) fun v4 => wv (vbin T .eql t_uint8 v4 a1) fun v5 => brB (some v5)
  (wv (viaddr T t_api_Hash (.ptr i1 [] 0) (.int .i64 1)) fun v6 => wv (vload T G2 t_uint8 v6) fun v7 => wv (vbin T .eql t_uint8 v7 a2) fun v8 => brB (some v8)
  (wv (viaddr T t_api_Hash (.ptr i1 [] 0) (.int .i64 2)) fun v9 => wv (vload T G2 t_uint8 v9) fun v10 => wv (vbin T .eql t_uint8 v10 a3) fun v11 => brB (some v11)
  (wv (viaddr T t_api_Hash (.ptr i1 [] 0) (.int .i64 3)) fun v12 => wv (vload T G2 t_uint8 v12) fun v13 => wv (vbin T .eql t_uint8 v13 a4) fun v14 => Q v14 G2)
  (Q (.bool false) G2))
  (Q (.bool false) G2))
  (Q (.bool false) G2)
def escrowlaw09_begins.an : Ann := .nil
set_option maxRecDepth 100000 in
theorem escrowlaw09_begins.sound {a0 a1 a2 a3 a4 : AVal} {G : Heap} {Q : AVal → Heap → Prop} (h : escrowlaw09_begins.S a0 a1 a2 a3 a4 G Q) : ACalls P escrowlaw09_begins.n [a0, a1, a2, a3, a4] G Q := by
  have e : escrowlaw09_begins.S a0 a1 a2 a3 a4 G Q = awp cx (escrowlaw09_begins.body) escrowlaw09_begins.an (bodyQ T [.tmp 10] Q) (envL [a0, a1, a2, a3, a4]) G := by kernel_rfl
  exact ACalls_of_awp cxOk (f := escrowlaw09_begins.n) (fn := Tryd.f20) (c := escrowlaw09_begins.body) (an := escrowlaw09_begins.an) Tryd.func20 (by kernel_rfl) (by kernel_rfl) (by kernel_rfl) (drawsOk_of (by kernel_rfl) (by kernel_rfl)) (by simp [Tryd.f20]) (e ▸ h)

/-! #### escrow/escrowlaw09.head -/
def escrowlaw09_head.S (G : Heap) (Q : AVal → Heap → Prop) : Prop :=
  ACalls P escrowlaw09_full.n [.int .u8 0] G fun v1 G2 => ACalls P seed_Secret.n [v1, .int .i64 0] G2 fun v3 G4 => wv (vextract v3 0) fun v5 => wv (vextract v3 1) fun v6 => aNew G4 (.own (z_api_Hash)) fun i7 G8 => wg (vstore T G8 t_api_Hash (.ptr i7 [] 0) v5) fun G9 => ACalls P escrowlaw09_full.n [.int .u8 1] G9 fun v10 G11 => ACalls P seed_Secret.n [v10, .int .i64 281474976710654] G11 fun v12 G13 => wv (vextract v12 0) fun v14 => wv (vextract v12 1) fun v15 => aNew G13 (.own (z_api_Hash)) fun i16 G17 => wg (vstore T G17 t_api_Hash (.ptr i16 [] 0) v14) fun G18 => ACalls P seed_Level.n [.int .i64 3] G18 fun v19 G20 => wv (vextract v19 0) fun v21 => wv (vextract v19 1) fun v22 => wv (vload T G20 t_api_Hash (.ptr i7 [] 0)) fun v23 => ACalls P seed_Derive.n [v23, .int .i64 3, .int .i64 4] G20 fun v24 G25 => wv (vextract v24 0) fun v26 => wv (vextract v24 1) fun v27 => aNew G25 (.own (z_api_Hash)) fun i28 G29 => wg (vstore T G29 t_api_Hash (.ptr i28 [] 0) v26) fun G30 => wv (vbin T .eql t_api_Errno v6 (.int .i64 0)) fun v31 => brB (some v31)
  (wv (vbin T .eql t_api_Errno v15 (.int .i64 0)) fun v32 => brB (some v32)
  (wv (vbin T .eql t_api_Errno v22 (.int .i64 0)) fun v33 => brB (some v33)
  (wv (vload T G30 t_api_Hash (.ptr i7 [] 0)) fun v34 => ACalls P escrowlaw09_begins.n [v34, .int .u8 2, .int .u8 164, .int .u8 12, .int .u8 133] G30 fun v35 G36 => brB (some v35)
  (wv (vload T G36 t_api_Hash (.ptr i16 [] 0)) fun v37 => ACalls P escrowlaw09_begins.n [v37, .int .u8 145, .int .u8 92, .int .u8 117, .int .u8 148] G36 fun v38 G39 => brB (some v38)
  (wv (vbin T .eql t_int v21 (.int .i64 2)) fun v40 => brB (some v40)
  (wv (vbin T .eql t_api_Errno v27 (.int .i64 5)) fun v41 => brB (some v41)
  (ACalls P escrowlaw09_full.n [.int .u8 0] G39 fun v42 G43 => ACalls P seed_Point.n [v42] G43 fun v44 G45 => ACalls P escrowlaw09_begins.n [v44, .int .u8 102, .int .u8 104, .int .u8 122, .int .u8 173] G45 fun v46 G47 => Q v46 G47)
  (Q (.bool false) G39))
  (Q (.bool false) G39))
  (Q (.bool false) G39))
  (Q (.bool false) G36))
  (Q (.bool false) G30))
  (Q (.bool false) G30))
  (Q (.bool false) G30)
def escrowlaw09_head.an : Ann := .nil
set_option maxRecDepth 100000 in
theorem escrowlaw09_head.sound {G : Heap} {Q : AVal → Heap → Prop} (h : escrowlaw09_head.S G Q) : ACalls P escrowlaw09_head.n [] G Q := by
  have e : escrowlaw09_head.S G Q = awp cx (escrowlaw09_head.body) escrowlaw09_head.an (bodyQ T [.tmp 0] Q) (envL []) G := by kernel_rfl
  exact ACalls_of_awp cxOk (f := escrowlaw09_head.n) (fn := Tryd.f8) (c := escrowlaw09_head.body) (an := escrowlaw09_head.an) Tryd.func8 (by kernel_rfl) (by kernel_rfl) (by kernel_rfl) (drawsOk_of (by kernel_rfl) (by kernel_rfl)) (by simp [Tryd.f8]) (e ▸ h)

/-! #### escrow/escrowref09.good -/
def escrowref09_good.S (a0 : AVal) (G : Heap) (Q : AVal → Heap → Prop) : Prop :=
  wv (vbin T .geq t_int64 a0 (.int .i64 0)) fun v1 => brB (some v1)
  (wv (vbin T .leq t_int64 a0 (.int .i64 281474976710655)) fun v2 => Q v2 G)
  (Q (.bool false) G)
def escrowref09_good.an : Ann := .nil
set_option maxRecDepth 100000 in
theorem escrowref09_good.sound {a0 : AVal} {G : Heap} {Q : AVal → Heap → Prop} (h : escrowref09_good.S a0 G Q) : ACalls P escrowref09_good.n [a0] G Q := by
  have e : escrowref09_good.S a0 G Q = awp cx (escrowref09_good.body) escrowref09_good.an (bodyQ T [.tmp 2] Q) (envL [a0]) G := by kernel_rfl
  exact ACalls_of_awp cxOk (f := escrowref09_good.n) (fn := Tryd.f24) (c := escrowref09_good.body) (an := escrowref09_good.an) Tryd.func24 (by kernel_rfl) (by kernel_rfl) (by kernel_rfl) (drawsOk_of (by kernel_rfl) (by kernel_rfl)) (by simp [Tryd.f24]) (e ▸ h)

/-! #### escrow/escrowref02.padded -/
def escrowref02_padded.S (a0 : AVal) (G : Heap) (Q : AVal → Heap → Prop) : Prop :=
  aAppend T G t_sl_uint8 t_string (.nilSlice) a0 fun v1 G2 => aBuildSlice T t_sl_uint8 1 [(0, .int .u8 128)] G2 fun v3 G4 => aAppend T G4 t_sl_uint8 t_sl_uint8 v1 v3 fun v5 G6 => ∀ R7 : List AVal → Heap → Prop,
  (∀ (x9 x10 : AVal) (G8 : Heap), (wv (vlen T G8 t_sl_uint8 x10) fun v11 => wv (vbin T .rem t_int v11 (.int .i64 64)) fun v12 => wv (vbin T .neq t_int v12 (.int .i64 56)) fun v13 => brB (some v13)
  (aBuildSlice T t_sl_uint8 1 [(0, .int .u8 0)] G8 fun v14 G15 => aAppend T G15 t_sl_uint8 t_sl_uint8 x10 v14 fun v16 G17 => R7 [x9, v16] G17)
  (∀ R18 : List AVal → Heap → Prop,
  (∀ (x20 x21 x22 : AVal) (G19 : Heap), (wv (vbin T .geq t_int x22 (.int .i64 0)) fun v23 => brB (some v23)
  (wv (vlen T G19 t_string x20) fun v24 => wv (vbin T .mul t_int (.int .i64 8) v24) fun v25 => wv (vbin T .mul t_int (.int .i64 8) x22) fun v26 => wv (vbin T .shr t_int v25 v26) fun v27 => wv (vconv T G19 t_int t_uint8 v27) fun v28 => aBuildSlice T t_sl_uint8 1 [(0, v28)] G19 fun v29 G30 => aAppend T G30 t_sl_uint8 t_sl_uint8 x21 v29 fun v31 G32 => wv (vbin T .sub t_int x22 (.int .i64 1)) fun v33 => R18 [x20, v31, v33] G32)
  (Q x21 G19)) → R18 [x20, x21, x22] G19) →
  R18 [x9, x10, .int .i64 7] G8)) → R7 [x9, x10] G8) →
  R7 [a0, v5] G6
def escrowref02_padded.an : Ann := .two (.nil) (.two (.nil) (.two (.nil) (.two (.nil) (.two (.loop [0, 3] (.nil)) (.two (.two (.nil) (.loop [0, 3, 4] (.nil))) (.nil))))))
set_option maxRecDepth 100000 in
theorem escrowref02_padded.sound {a0 : AVal} {G : Heap} {Q : AVal → Heap → Prop} (h : escrowref02_padded.S a0 G Q) : ACalls P escrowref02_padded.n [a0] G Q := by
  have e : escrowref02_padded.S a0 G Q = awp cx (escrowref02_padded.body) escrowref02_padded.an (bodyQ T [.tmp 2] Q) (envL [a0]) G := by kernel_rfl
  exact ACalls_of_awp cxOk (f := escrowref02_padded.n) (fn := Tryd.f40) (c := escrowref02_padded.body) (an := escrowref02_padded.an) Tryd.func40 (by kernel_rfl) (by kernel_rfl) (by kernel_rfl) (drawsOk_of (by kernel_rfl) (by kernel_rfl)) (by simp [Tryd.f40]) (e ▸ h)

/-! #### escrow/escrowref02.rounds -/
def escrowref02_rounds.S (G : Heap) (Q : AVal → Heap → Prop) : Prop :=
  aNew G (.own (z_ar64_uint32)) fun i1 G2 => wv (vbuild T t_ar64_uint32 [(0, .int .u32 1116352408), (1, .int .u32 1899447441), (2, .int .u32 3049323471), (3, .int .u32 3921009573), (4, .int .u32 961987163), (5, .int .u32 1508970993), (6, .int .u32 2453635748), (7, .int .u32 2870763221), (8, .int .u32 3624381080), (9, .int .u32 310598401), (10, .int .u32 607225278), (11, .int .u32 1426881987), (12, .int .u32 1925078388), (13, .int .u32 2162078206), (14, .int .u32 2614888103), (15, .int .u32 3248222580), (16, .int .u32 3835390401), (17, .int .u32 4022224774), (18, .int .u32 264347078), (19, .int .u32 604807628), (20, .int .u32 770255983), (21, .int .u32 1249150122), (22, .int .u32 1555081692), (23, .int .u32 1996064986), (24, .int .u32 2554220882), (25, .int .u32 2821834349), (26, .int .u32 2952996808), (27, .int .u32 3210313671), (28, .int .u32 3336571891), (29, .int .u32 3584528711), (30, .int .u32 113926993), (31, .int .u32 338241895), (32, .int .u32 666307205), (33, .int .u32 773529912), (34, .int .u32 1294757372), (35, .int .u32 1396182291), (36, .int .u32 1695183700), (37, .int .u32 1986661051), (38, .int .u32 2177026350), (39, .int .u32 2456956037), (40, .int .u32 2730485921), (41, .int .u32 2820302411), (42, .int .u32 3259730800), (43, .int .u32 3345764771), (44, .int .u32 3516065817), (45, .int .u32 3600352804), (46, .int .u32 4094571909), (47, .int .u32 275423344), (48, .int .u32 430227734), (49, .int .u32 506948616), (50, .int .u32 659060556), (51, .int .u32 883997877), (52, .int .u32 958139571), (53, .int .u32 1322822218), (54, .int .u32 1537002063), (55, .int .u32 1747873779), (56, .int .u32 1955562222), (57, .int .u32 2024104815), (58, .int .u32 2227730452), (59, .int .u32 2361852424), (60, .int .u32 2428436474), (61, .int .u32 2756734187), (62, .int .u32 3204031479), (63, .int .u32 3329325298)]) fun v3 => wg (vstore T G2 t_ar64_uint32 (.ptr i1 [] 0) v3) fun G4 => wv (vload T G4 t_ar64_uint32 (.ptr i1 [] 0)) fun v5 => Q v5 G4
def escrowref02_rounds.an : Ann := .nil
set_option maxRecDepth 100000 in
theorem escrowref02_rounds.sound {G : Heap} {Q : AVal → Heap → Prop} (h : escrowref02_rounds.S G Q) : ACalls P escrowref02_rounds.n [] G Q := by
  have e : escrowref02_rounds.S G Q = awp cx (escrowref02_rounds.body) escrowref02_rounds.an (bodyQ T [.cell 0 56] Q) (envL []) G := by kernel_rfl
  exact ACalls_of_awp cxOk (f := escrowref02_rounds.n) (fn := Tryd.f44) (c := escrowref02_rounds.body) (an := escrowref02_rounds.an) Tryd.func44 (by kernel_rfl) (by kernel_rfl) (by kernel_rfl) (drawsOk_of (by kernel_rfl) (by kernel_rfl)) (by simp [Tryd.f44]) (e ▸ h)

/-! #### escrow/escrowref02.rot -/
def escrowref02_rot.S (a0 a1 : AVal) (G : Heap) (Q : AVal → Heap → Prop) : Prop :=
  wv (vbin T .shr t_uint32 a0 a1) fun v1 => wv (vbin T .sub t_int (.int .i64 32) a1) fun v2 => wv (vbin T .shl t_uint32 a0 v2) fun v3 => wv (vbin T .or t_uint32 v1 v3) fun v4 => Q v4 G
def escrowref02_rot.an : Ann := .two (.nil) (.two (.ord [(0, []), (1, []), (2, []), (3, []), (4, []), (5, []), (6, []), (7, []), (8, [])]) (.nil))
set_option maxRecDepth 100000 in
theorem escrowref02_rot.sound {a0 a1 : AVal} {G : Heap} {Q : AVal → Heap → Prop} (h : escrowref02_rot.S a0 a1 G Q) : ACalls P escrowref02_rot.n [a0, a1] G Q := by
  have e : escrowref02_rot.S a0 a1 G Q = awp cx (escrowref02_rot.body) escrowref02_rot.an (bodyQ T [.tmp 4] Q) (envL [a0, a1]) G := by kernel_rfl
  exact ACalls_of_awp cxOk (f := escrowref02_rot.n) (fn := Tryd.f45) (c := escrowref02_rot.body) (an := escrowref02_rot.an) Tryd.func45 (by kernel_rfl) (by kernel_rfl) (by kernel_rfl) (drawsOk_of (by kernel_rfl) (by kernel_rfl)) (by simp [Tryd.f45]) (e ▸ h)

/-! #### escrow/escrowref02.block -/
def escrowref02_block.S (a0 a1 a2 : AVal) (G : Heap) (Q : AVal → Heap → Prop) : Prop :=
  aNew G (.own (a0)) fun i1 G2 => aNew G2 (.own (z_ar8_uint32)) fun i3 G4 => ACalls P escrowref02_rounds.n [] G4 fun v5 G6 => aNew G6 (.own (z_ar64_uint32)) fun i7 G8 => wg (vstore T G8 t_ar64_uint32 (.ptr i7 [] 0) v5) fun G9 => aNew G9 (.own (z_ar64_uint32)) fun i10 G11 => ∀ R12 : List AVal → Heap → Prop,
  (∀ (x14 x15 x16 x17 x18 x19 x20 : AVal) (G13 : Heap), (wv (vbin T .lss t_int x20 (.int .i64 16)) fun v21 => brB (some v21)
  (wv (vbin T .mul t_int (.int .i64 4) x20) fun v22 => wv (vbin T .add t_int x15 v22) fun v23 => wv (viaddr T t_sl_uint8 x14 v23) fun v24 => wv (vload T G13 t_uint8 v24) fun v25 => wv (vconv T G13 t_uint8 t_uint32 v25) fun v26 => wv (vbin T .shl t_uint32 v26 (.int .u64 24)) fun v27 => wv (vbin T .add t_int v23 (.int .i64 1)) fun v28 => wv (viaddr T t_sl_uint8 x14 v28) fun v29 => wv (vload T G13 t_uint8 v29) fun v30 => wv (vconv T G13 t_uint8 t_uint32 v30) fun v31 => wv (vbin T .shl t_uint32 v31 (.int .u64 16)) fun v32 => wv (vbin T .or t_uint32 v27 v32) fun v33 => wv (vbin T .add t_int v23 (.int .i64 2)) fun v34 => wv (viaddr T t_sl_uint8 x14 v34) fun v35 => wv (vload T G13 t_uint8 v35) fun v36 => wv (vconv T G13 t_uint8 t_uint32 v36) fun v37 => wv (vbin T .shl t_uint32 v37 (.int .u64 8)) fun v38 => wv (vbin T .or t_uint32 v33 v38) fun v39 => wv (vbin T .add t_int v23 (.int .i64 3)) fun v40 => wv (viaddr T t_sl_uint8 x14 v40) fun v41 => wv (vload T G13 t_uint8 v41) fun v42 => wv (vconv T G13 t_uint8 t_uint32 v42) fun v43 => wv (vbin T .or t_uint32 v39 v43) fun v44 => wv (viaddr T t_ar64_uint32 x19 x20) fun v45 => wg (vstore T G13 t_uint32 v45 v44) fun G46 => wv (vbin T .add t_int x20 (.int .i64 1)) fun v47 => R12 [x14, x15, x16, x17, x18, x19, v47] G46)
  (∀ R48 : List AVal → Heap → Prop,
  (∀ (x50 x51 x52 x53 x54 : AVal) (G49 : Heap), (wv (vbin T .lss t_int x54 (.int .i64 64)) fun v55 => brB (some v55)
  (wv (vbin T .sub t_int x54 (.int .i64 15)) fun v56 => wv (viaddr T t_ar64_uint32 x53 v56) fun v57 => wv (vload T G49 t_uint32 v57) fun v58 => wv (vbin T .sub t_int x54 (.int .i64 2)) fun v59 => wv (viaddr T t_ar64_uint32 x53 v59) fun v60 => wv (vload T G49 t_uint32 v60) fun v61 => wv (vbin T .sub t_int x54 (.int .i64 16)) fun v62 => wv (viaddr T t_ar64_uint32 x53 v62) fun v63 => wv (vload T G49 t_uint32 v63) fun v64 => wv (vbin T .shr t_uint32 v58 (.int .u64 3)) fun v65 => wv (vbin T .sub t_int x54 (.int .i64 7)) fun v66 => wv (viaddr T t_ar64_uint32 x53 v66) fun v67 => wv (vload T G49 t_uint32 v67) fun v68 => wv (vbin T .shr t_uint32 v61 (.int .u64 10)) fun v69 => ACalls P escrowref02_rot.n [v58, .int .i64 7] G49 fun v70 G71 => (vload T G71 t_uint32 v67 = some v68 ∧ vload T G71 t_uint32 v63 = some v64 ∧ True) ∧ (ACalls P escrowref02_rot.n [v58, .int .i64 18] G71 fun v72 G73 => (vload T G73 t_uint32 v67 = some v68 ∧ vload T G73 t_uint32 v63 = some v64 ∧ True) ∧ (wv (vbin T .xor t_uint32 v70 v72) fun v74 => wv (vbin T .xor t_uint32 v74 v65) fun v75 => wv (vbin T .add t_uint32 v64 v75) fun v76 => wv (vbin T .add t_uint32 v76 v68) fun v77 => ACalls P escrowref02_rot.n [v61, .int .i64 17] G73 fun v78 G79 => (vload T G79 t_uint32 v67 = some v68 ∧ vload T G79 t_uint32 v63 = some v64 ∧ True) ∧ (ACalls P escrowref02_rot.n [v61, .int .i64 19] G79 fun v80 G81 => (vload T G81 t_uint32 v67 = some v68 ∧ vload T G81 t_uint32 v63 = some v64 ∧ True) ∧ (wv (vbin T .xor t_uint32 v78 v80) fun v82 => wv (vbin T .xor t_uint32 v82 v69) fun v83 => wv (vbin T .add t_uint32 v77 v83) fun v84 => wv (viaddr T t_ar64_uint32 x53 x54) fun v85 => wg (vstore T G81 t_uint32 v85 v84) fun G86 => wv (vbin T .add t_int x54 (.int .i64 1)) fun v87 => R48 [x50, x51, x52, x53, v87] G86)))))
  (wv (vload T G49 t_ar8_uint32 x50) fun v88 => aNew G49 (.own (z_ar8_uint32)) fun i89 G90 => wg (vstore T G90 t_ar8_uint32 (.ptr i89 [] 0) v88) fun G91 => ∀ R92 : List AVal → Heap → Prop,
  (∀ (x94 x95 x96 x97 x98 x99 : AVal) (G93 : Heap), (wv (vbin T .lss t_int x99 (.int .i64 64)) fun v100 => brB (some v100)
  (wv (viaddr T t_ar8_uint32 x98 (.int .i64 0)) fun v101 => wv (vload T G93 t_uint32 v101) fun v102 => wv (viaddr T t_ar8_uint32 x98 (.int .i64 4)) fun v103 => wv (vload T G93 t_uint32 v103) fun v104 => wv (viaddr T t_ar8_uint32 x98 (.int .i64 7)) fun v105 => wv (vload T G93 t_uint32 v105) fun v106 => wv (viaddr T t_ar8_uint32 x98 (.int .i64 5)) fun v107 => wv (vload T G93 t_uint32 v107) fun v108 => wv (vbin T .and t_uint32 v104 v108) fun v109 => wv (vun .xor v104) fun v110 => wv (viaddr T t_ar8_uint32 x98 (.int .i64 6)) fun v111 => wv (vload T G93 t_uint32 v111) fun v112 => wv (vbin T .and t_uint32 v110 v112) fun v113 => wv (vbin T .xor t_uint32 v109 v113) fun v114 => wv (viaddr T t_ar64_uint32 x96 x99) fun v115 => wv (vload T G93 t_uint32 v115) fun v116 => wv (viaddr T t_ar64_uint32 x97 x99) fun v117 => wv (vload T G93 t_uint32 v117) fun v118 => ACalls P escrowref02_rot.n [v104, .int .i64 6] G93 fun v119 G120 => (vload T G120 t_uint32 v117 = some v118 ∧ vload T G120 t_uint32 v115 = some v116 ∧ vload T G120 t_uint32 v111 = some v112 ∧ vload T G120 t_uint32 v107 = some v108 ∧ vload T G120 t_uint32 v105 = some v106 ∧ True) ∧ (ACalls P escrowref02_rot.n [v104, .int .i64 11] G120 fun v121 G122 => (vload T G122 t_uint32 v117 = some v118 ∧ vload T G122 t_uint32 v115 = some v116 ∧ vload T G122 t_uint32 v111 = some v112 ∧ vload T G122 t_uint32 v107 = some v108 ∧ vload T G122 t_uint32 v105 = some v106 ∧ True) ∧ (wv (vbin T .xor t_uint32 v119 v121) fun v123 => ACalls P escrowref02_rot.n [v104, .int .i64 25] G122 fun v124 G125 => (vload T G125 t_uint32 v117 = some v118 ∧ vload T G125 t_uint32 v115 = some v116 ∧ vload T G125 t_uint32 v111 = some v112 ∧ vload T G125 t_uint32 v107 = some v108 ∧ vload T G125 t_uint32 v105 = some v106 ∧ True) ∧ (wv (vbin T .xor t_uint32 v123 v124) fun v126 => wv (vbin T .add t_uint32 v106 v126) fun v127 => wv (vbin T .add t_uint32 v127 v114) fun v128 => wv (vbin T .add t_uint32 v128 v116) fun v129 => wv (vbin T .add t_uint32 v129 v118) fun v130 => wv (viaddr T t_ar8_uint32 x98 (.int .i64 1)) fun v131 => wv (vload T G125 t_uint32 v131) fun v132 => wv (vbin T .and t_uint32 v102 v132) fun v133 => wv (viaddr T t_ar8_uint32 x98 (.int .i64 2)) fun v134 => wv (vload T G125 t_uint32 v134) fun v135 => wv (vbin T .and t_uint32 v102 v135) fun v136 => wv (vbin T .xor t_uint32 v133 v136) fun v137 => wv (viaddr T t_ar8_uint32 x98 (.int .i64 1)) fun v138 => wv (vload T G125 t_uint32 v138) fun v139 => wv (viaddr T t_ar8_uint32 x98 (.int .i64 2)) fun v140 => wv (vload T G125 t_uint32 v140) fun v141 => wv (vbin T .and t_uint32 v139 v141) fun v142 => wv (vbin T .xor t_uint32 v137 v142) fun v143 => ACalls P escrowref02_rot.n [v102, .int .i64 2] G125 fun v144 G145 => (vload T G145 t_uint32 v140 = some v141 ∧ vload T G145 t_uint32 v138 = some v139 ∧ vload T G145 t_uint32 v134 = some v135 ∧ vload T G145 t_uint32 v131 = some v132 ∧ True) ∧ (ACalls P escrowref02_rot.n [v102, .int .i64 13] G145 fun v146 G147 => (vload T G147 t_uint32 v140 = some v141 ∧ vload T G147 t_uint32 v138 = some v139 ∧ vload T G147 t_uint32 v134 = some v135 ∧ vload T G147 t_uint32 v131 = some v132 ∧ True) ∧ (wv (vbin T .xor t_uint32 v144 v146) fun v148 => ACalls P escrowref02_rot.n [v102, .int .i64 22] G147 fun v149 G150 => (vload T G150 t_uint32 v140 = some v141 ∧ vload T G150 t_uint32 v138 = some v139 ∧ vload T G150 t_uint32 v134 = some v135 ∧ vload T G150 t_uint32 v131 = some v132 ∧ True) ∧ (wv (vbin T .xor t_uint32 v148 v149) fun v151 => wv (vbin T .add t_uint32 v151 v143) fun v152 => wv (vbin T .add t_uint32 v130 v152) fun v153 => wv (viaddr T t_ar8_uint32 x98 (.int .i64 0)) fun v154 => wv (vload T G150 t_uint32 v154) fun v155 => wv (viaddr T t_ar8_uint32 x98 (.int .i64 1)) fun v156 => wv (vload T G150 t_uint32 v156) fun v157 => wv (viaddr T t_ar8_uint32 x98 (.int .i64 2)) fun v158 => wv (vload T G150 t_uint32 v158) fun v159 => wv (viaddr T t_ar8_uint32 x98 (.int .i64 3)) fun v160 => wv (vload T G150 t_uint32 v160) fun v161 => wv (vbin T .add t_uint32 v161 v130) fun v162 => wv (viaddr T t_ar8_uint32 x98 (.int .i64 4)) fun v163 => wv (vload T G150 t_uint32 v163) fun v164 => wv (viaddr T t_ar8_uint32 x98 (.int .i64 5)) fun v165 => wv (vload T G150 t_uint32 v165) fun v166 => wv (viaddr T t_ar8_uint32 x98 (.int .i64 6)) fun v167 => wv (vload T G150 t_uint32 v167) fun v168 => wv (vbuild T t_ar8_uint32 [(0, v153), (1, v155), (2, v157), (3, v159), (4, v162), (5, v164), (6, v166), (7, v168)]) fun v169 => wg (vstore T G150 t_ar8_uint32 x98 v169) fun G170 => wv (vbin T .add t_int x99 (.int .i64 1)) fun v171 => R92 [x94, x95, x96, x97, x98, v171] G170)))))))
  (∀ R172 : List AVal → Heap → Prop,
  (∀ (x174 x175 x176 x177 : AVal) (G173 : Heap), (wv (vbin T .lss t_int x177 (.int .i64 8)) fun v178 => brB (some v178)
  (wv (viaddr T t_ar8_uint32 x176 x177) fun v179 => wv (vload T G173 t_uint32 v179) fun v180 => wv (viaddr T t_ar8_uint32 x174 x177) fun v181 => wv (vload T G173 t_uint32 v181) fun v182 => wv (vbin T .add t_uint32 v180 v182) fun v183 => wv (viaddr T t_ar8_uint32 x176 x177) fun v184 => wg (vstore T G173 t_uint32 v184 v183) fun G185 => wv (vbin T .add t_int x177 (.int .i64 1)) fun v186 => R172 [x174, x175, x176, v186] G185)
  (wv (vload T G173 t_ar8_uint32 x176) fun v187 => wg (vstore T G173 t_ar8_uint32 x175 v187) fun G188 => wv (vload T G188 t_ar8_uint32 x175) fun v189 => Q v189 G188)) → R172 [x174, x175, x176, x177] G173) →
  R172 [x94, x95, x98, .int .i64 0] G93)) → R92 [x94, x95, x96, x97, x98, x99] G93) →
  R92 [x50, x51, x52, x53, .ptr i89 [] 0, .int .i64 0] G91)) → R48 [x50, x51, x52, x53, x54] G49) →
  R48 [x16, x17, x18, x19, .int .i64 16] G13)) → R12 [x14, x15, x16, x17, x18, x19, x20] G13) →
  R12 [a1, a2, .ptr i1 [] 0, .ptr i3 [] 0, .ptr i7 [] 0, .ptr i10 [] 0, .int .i64 0] G11
def escrowref02_block.an : Ann := .two (.nil) (.two (.nil) (.two (.nil) (.two (.two (.nil) (.loop [1, 2, 3, 6, 7, 8, 9] (.two (.nil) (.two (.two (.nil) (.ord [(0, []), (1, []), (2, []), (3, []), (4, []), (5, []), (6, []), (7, []), (8, []), (9, []), (10, []), (11, []), (12, []), (13, []), (14, []), (15, []), (16, []), (17, []), (18, []), (19, []), (20, []), (21, []), (22, []), (23, []), (24, []), (25, []), (26, []), (27, []), (28, []), (29, []), (30, []), (31, [])])) (.nil))))) (.two (.two (.nil) (.loop [3, 6, 7, 8, 11] (.two (.nil) (.two (.two (.nil) (.two (.nil) (.ord [(0, []), (1, []), (2, []), (3, []), (4, []), (5, []), (7, []), (10, []), (11, []), (14, []), (15, []), (16, []), (17, []), (19, []), (21, []), (24, []), (25, []), (6, [4, 17]), (8, [4, 17]), (9, []), (12, []), (13, []), (18, []), (20, [4, 17]), (22, [4, 17]), (23, []), (26, []), (27, []), (28, []), (29, [])]))) (.nil))))) (.two (.nil) (.two (.two (.nil) (.loop [3, 6, 7, 8, 14, 15] (.two (.nil) (.two (.two (.nil) (.two (.nil) (.two (.ord [(0, []), (1, []), (2, []), (4, []), (7, []), (11, []), (12, []), (13, []), (14, []), (15, []), (16, []), (17, []), (18, []), (19, []), (20, []), (22, []), (23, []), (24, []), (26, []), (27, []), (28, []), (3, [1, 13, 18, 24, 28]), (5, [1, 13, 18, 24, 28]), (6, []), (8, [1, 13, 18, 24, 28]), (9, []), (10, []), (21, []), (25, []), (29, []), (30, [])]) (.two (.ord [(0, []), (2, []), (5, []), (8, []), (9, []), (10, []), (11, []), (12, []), (13, []), (14, []), (15, []), (16, []), (17, []), (18, []), (19, []), (20, []), (21, []), (22, []), (1, [10, 14, 18, 20]), (3, [10, 14, 18, 20]), (4, []), (6, [10, 14, 18, 20]), (7, []), (23, []), (24, [])]) (.nil))))) (.nil))))) (.two (.two (.nil) (.loop [3, 6, 14, 20] (.two (.nil) (.two (.ord [(0, []), (1, []), (2, []), (3, []), (4, []), (5, []), (6, []), (7, []), (8, []), (9, [])]) (.nil))))) (.nil))))))))
set_option maxRecDepth 100000 in
theorem escrowref02_block.sound {a0 a1 a2 : AVal} {G : Heap} {Q : AVal → Heap → Prop} (h : escrowref02_block.S a0 a1 a2 G Q) : ACalls P escrowref02_block.n [a0, a1, a2] G Q := by
  have e : escrowref02_block.S a0 a1 a2 G Q = awp cx (escrowref02_block.body) escrowref02_block.an (bodyQ T [.cell 6 55] Q) (envL [a0, a1, a2]) G := by kernel_rfl
  exact ACalls_of_awp cxOk (f := escrowref02_block.n) (fn := Tryd.f41) (c := escrowref02_block.body) (an := escrowref02_block.an) Tryd.func41 (by kernel_rfl) (by kernel_rfl) (by kernel_rfl) (drawsOk_of (by kernel_rfl) (by kernel_rfl)) (by simp [Tryd.f41]) (e ▸ h)

end Go.Esc.M
