/- Printed by gen.py (own work): functions of the program YtojenibpodkphaaDoor over trees and the abstract heap. -/
import Derived.Test.YtojenibpodkphaaDoorT
set_option linter.unusedSimpArgs false
set_option linter.unusedVariables false
namespace Go.Esc.M
open Go Go.Esc Go.Proofs

/-! #### escrow/seed.right -/
def seed_right.S (a0 : AVal) (G : Heap) (Q : AVal → Heap → Prop) : Prop :=
  wv (vbin T .geq t_int64 a0 (.int .i64 0)) fun v1 => brB (some v1)
  (wv (vbin T .leq t_int64 a0 (.int .i64 281474976710655)) fun v2 => Q v2 G)
  (Q (.bool false) G)
def seed_right.an : Ann := .nil
set_option maxRecDepth 100000 in
theorem seed_right.sound {a0 : AVal} {G : Heap} {Q : AVal → Heap → Prop} (h : seed_right.S a0 G Q) : ACalls P seed_right.n [a0] G Q := by
  have e : seed_right.S a0 G Q = awp cx (seed_right.body) seed_right.an (bodyQ T [.tmp 2] Q) (envL [a0]) G := by kernel_rfl
  exact ACalls_of_awp cxOk (f := seed_right.n) (fn := Tryd.f35) (c := seed_right.body) (an := seed_right.an) Tryd.func35 (by kernel_rfl) (by kernel_rfl) (by kernel_rfl) (drawsOk_of (by kernel_rfl) (by kernel_rfl)) (by simp [Tryd.f35]) (e ▸ h)

/-! #### escrow/seed.place -/
def seed_place.S (a0 : AVal) (G : Heap) (Q : AVal → Heap → Prop) : Prop :=
  wv (vbin T .sub t_int64 (.int .i64 281474976710655) a0) fun v1 => Q v1 G
def seed_place.an : Ann := .nil
set_option maxRecDepth 100000 in
theorem seed_place.sound {a0 : AVal} {G : Heap} {Q : AVal → Heap → Prop} (h : seed_place.S a0 G Q) : ACalls P seed_place.n [a0] G Q := by
  have e : seed_place.S a0 G Q = awp cx (seed_place.body) seed_place.an (bodyQ T [.tmp 2] Q) (envL [a0]) G := by kernel_rfl
  exact ACalls_of_awp cxOk (f := seed_place.n) (fn := Tryd.f36) (c := seed_place.body) (an := seed_place.an) Tryd.func36 (by kernel_rfl) (by kernel_rfl) (by kernel_rfl) (drawsOk_of (by kernel_rfl) (by kernel_rfl)) (by simp [Tryd.f36]) (e ▸ h)

/-! #### math/bits.TrailingZeros64 -/
def bits_TrailingZeros64.S (a0 : AVal) (G : Heap) (Q : AVal → Heap → Prop) : Prop :=
  wv (vbin T .eql t_uint64 a0 (.int .u64 0)) fun v1 => brB (some v1)
  (Q (.int .i64 64) G)
  (wv (vun .neg a0) fun v2 => wv (vbin T .and t_uint64 a0 v2) fun v3 => wv (vbin T .mul t_uint64 v3 (.int .u64 285870213051353865)) fun v4 => wv (vbin T .shr t_uint64 v4 (.int .u64 58)) fun v5 => wv (viaddr T t_ar64_uint8 (.ptr ⟨0, 0, 0⟩ [] 0) v5) fun v6 => wv (vload T G t_uint8 v6) fun v7 => wv (vconv T G t_uint8 t_int v7) fun v8 => Q v8 G)
def bits_TrailingZeros64.an : Ann := .nil
set_option maxRecDepth 100000 in
theorem bits_TrailingZeros64.sound {a0 : AVal} {G : Heap} {Q : AVal → Heap → Prop} (h : bits_TrailingZeros64.S a0 G Q) : ACalls P bits_TrailingZeros64.n [a0] G Q := by
  have e : bits_TrailingZeros64.S a0 G Q = awp cx (bits_TrailingZeros64.body) bits_TrailingZeros64.an (bodyQ T [.tmp 2] Q) (envL [a0]) G := by kernel_rfl
  exact ACalls_of_awp cxOk (f := bits_TrailingZeros64.n) (fn := Tryd.f55) (c := bits_TrailingZeros64.body) (an := bits_TrailingZeros64.an) Tryd.func55 (by kernel_rfl) (by kernel_rfl) (by kernel_rfl) (drawsOk_of (by kernel_rfl) (by kernel_rfl)) (by simp [Tryd.f55]) (e ▸ h)

/-! #### escrow/seed.Level -/
def seed_Level.S (a0 : AVal) (G : Heap) (Q : AVal → Heap → Prop) : Prop :=
  ACalls P seed_right.n [a0] G fun v1 G2 => wv (vun .not v1) fun v3 => brB (some v3)
  (Q (.tuple [.int .i64 0, .int .i64 90]) G2)
  (ACalls P seed_place.n [a0] G2 fun v4 G5 => wv (vconv T G5 t_int64 t_uint64 v4) fun v6 => ACalls P bits_TrailingZeros64.n [v6] G5 fun v7 G8 => wv (vmin2 (.int .i64 48) v7) fun v9 => Q (.tuple [v9, .int .i64 0]) G8)
def seed_Level.an : Ann := .nil
set_option maxRecDepth 100000 in
theorem seed_Level.sound {a0 : AVal} {G : Heap} {Q : AVal → Heap → Prop} (h : seed_Level.S a0 G Q) : ACalls P seed_Level.n [a0] G Q := by
  have e : seed_Level.S a0 G Q = awp cx (seed_Level.body) seed_Level.an (bodyQ T [.tmp 2, .tmp 3] Q) (envL [a0]) G := by kernel_rfl
  exact ACalls_of_awp cxOk (f := seed_Level.n) (fn := Tryd.f34) (c := seed_Level.body) (an := seed_Level.an) Tryd.func34 (by kernel_rfl) (by kernel_rfl) (by kernel_rfl) (drawsOk_of (by kernel_rfl) (by kernel_rfl)) (by simp [Tryd.f34]) (e ▸ h)

/-! #### escrow/hash.constants -/
def hash_constants.S (G : Heap) (Q : AVal → Heap → Prop) : Prop :=
  aNew G (.own (z_ar64_uint32)) fun i1 G2 => wv (vbuild T t_ar64_uint32 [(0, .int .u32 1116352408), (1, .int .u32 1899447441), (2, .int .u32 3049323471), (3, .int .u32 3921009573), (4, .int .u32 961987163), (5, .int .u32 1508970993), (6, .int .u32 2453635748), (7, .int .u32 2870763221), (8, .int .u32 3624381080), (9, .int .u32 310598401), (10, .int .u32 607225278), (11, .int .u32 1426881987), (12, .int .u32 1925078388), (13, .int .u32 2162078206), (14, .int .u32 2614888103), (15, .int .u32 3248222580), (16, .int .u32 3835390401), (17, .int .u32 4022224774), (18, .int .u32 264347078), (19, .int .u32 604807628), (20, .int .u32 770255983), (21, .int .u32 1249150122), (22, .int .u32 1555081692), (23, .int .u32 1996064986), (24, .int .u32 2554220882), (25, .int .u32 2821834349), (26, .int .u32 2952996808), (27, .int .u32 3210313671), (28, .int .u32 3336571891), (29, .int .u32 3584528711), (30, .int .u32 113926993), (31, .int .u32 338241895), (32, .int .u32 666307205), (33, .int .u32 773529912), (34, .int .u32 1294757372), (35, .int .u32 1396182291), (36, .int .u32 1695183700), (37, .int .u32 1986661051), (38, .int .u32 2177026350), (39, .int .u32 2456956037), (40, .int .u32 2730485921), (41, .int .u32 2820302411), (42, .int .u32 3259730800), (43, .int .u32 3345764771), (44, .int .u32 3516065817), (45, .int .u32 3600352804), (46, .int .u32 4094571909), (47, .int .u32 275423344), (48, .int .u32 430227734), (49, .int .u32 506948616), (50, .int .u32 659060556), (51, .int .u32 883997877), (52, .int .u32 958139571), (53, .int .u32 1322822218), (54, .int .u32 1537002063), (55, .int .u32 1747873779), (56, .int .u32 1955562222), (57, .int .u32 2024104815), (58, .int .u32 2227730452), (59, .int .u32 2361852424), (60, .int .u32 2428436474), (61, .int .u32 2756734187), (62, .int .u32 3204031479), (63, .int .u32 3329325298)]) fun v3 => wg (vstore T G2 t_ar64_uint32 (.ptr i1 [] 0) v3) fun G4 => wv (vload T G4 t_ar64_uint32 (.ptr i1 [] 0)) fun v5 => Q v5 G4
def hash_constants.an : Ann := .nil
set_option maxRecDepth 100000 in
theorem hash_constants.sound {G : Heap} {Q : AVal → Heap → Prop} (h : hash_constants.S G Q) : ACalls P hash_constants.n [] G Q := by
  have e : hash_constants.S G Q = awp cx (hash_constants.body) hash_constants.an (bodyQ T [.cell 0 118] Q) (envL []) G := by kernel_rfl
  exact ACalls_of_awp cxOk (f := hash_constants.n) (fn := Tryd.f57) (c := hash_constants.body) (an := hash_constants.an) Tryd.func57 (by kernel_rfl) (by kernel_rfl) (by kernel_rfl) (drawsOk_of (by kernel_rfl) (by kernel_rfl)) (by simp [Tryd.f57]) (e ▸ h)

/-! #### math/bits.RotateLeft32 -/
def bits_RotateLeft32.S (a0 a1 : AVal) (G : Heap) (Q : AVal → Heap → Prop) : Prop :=
  wv (vconv T G t_int t_uint a1) fun v1 => wv (vbin T .and t_uint v1 (.int .u64 31)) fun v2 => wv (vbin T .shl t_uint32 a0 v2) fun v3 => wv (vbin T .sub t_uint (.int .u64 32) v2) fun v4 => wv (vbin T .shr t_uint32 a0 v4) fun v5 => wv (vbin T .or t_uint32 v3 v5) fun v6 => Q v6 G
def bits_RotateLeft32.an : Ann := .nil
set_option maxRecDepth 100000 in
theorem bits_RotateLeft32.sound {a0 a1 : AVal} {G : Heap} {Q : AVal → Heap → Prop} (h : bits_RotateLeft32.S a0 a1 G Q) : ACalls P bits_RotateLeft32.n [a0, a1] G Q := by
  have e : bits_RotateLeft32.S a0 a1 G Q = awp cx (bits_RotateLeft32.body) bits_RotateLeft32.an (bodyQ T [.tmp 4] Q) (envL [a0, a1]) G := by kernel_rfl
  exact ACalls_of_awp cxOk (f := bits_RotateLeft32.n) (fn := Tryd.f76) (c := bits_RotateLeft32.body) (an := bits_RotateLeft32.an) Tryd.func76 (by kernel_rfl) (by kernel_rfl) (by kernel_rfl) (drawsOk_of (by kernel_rfl) (by kernel_rfl)) (by simp [Tryd.f76]) (e ▸ h)

/-! #### escrow/hash.schedule -/
def hash_schedule.S (a0 : AVal) (G : Heap) (Q : AVal → Heap → Prop) : Prop :=
  aNew G (.own (z_ar64_uint32)) fun i1 G2 => aNew G2 (.own (z_ar64_uint32)) fun i3 G4 => ∀ R5 : List AVal → Heap → Prop,
  (∀ (x7 x8 x9 x10 : AVal) (G6 : Heap), (wv (vbin T .lss t_int x10 (.int .i64 16)) fun v11 => brB (some v11)
  (∀ R12 : List AVal → Heap → Prop,
  (∀ (x14 x15 x16 x17 x18 x19 : AVal) (G13 : Heap), (wv (vbin T .lss t_int x19 (.int .i64 4)) fun v20 => brB (some v20)
  (wv (viaddr T t_ar64_uint32 x16 x17) fun v21 => wv (vload T G13 t_uint32 v21) fun v22 => wv (vbin T .shl t_uint32 v22 (.int .u64 8)) fun v23 => wv (vbin T .mul t_int (.int .i64 4) x17) fun v24 => wv (vbin T .add t_int v24 x19) fun v25 => wv (vindex T t_string x14 v25) fun v26 => wv (vconv T G13 t_uint8 t_uint32 v26) fun v27 => wv (vbin T .or t_uint32 v23 v27) fun v28 => wv (viaddr T t_ar64_uint32 x16 x17) fun v29 => wg (vstore T G13 t_uint32 v29 v28) fun G30 => wv (vbin T .add t_int x19 (.int .i64 1)) fun v31 => R12 [x14, x15, x16, x17, x18, v31] G30)
  (wv (vbin T .add t_int x18 (.int .i64 1)) fun v32 => R5 [x14, x15, x16, v32] G13)) → R12 [x14, x15, x16, x17, x18, x19] G13) →
  R12 [x7, x8, x9, x10, x10, .int .i64 0] G6)
  (∀ R33 : List AVal → Heap → Prop,
  (∀ (x35 x36 x37 : AVal) (G34 : Heap), (wv (vbin T .lss t_int x37 (.int .i64 64)) fun v38 => brB (some v38)
  (wv (vbin T .sub t_int x37 (.int .i64 15)) fun v39 => wv (viaddr T t_ar64_uint32 x36 v39) fun v40 => wv (vload T G34 t_uint32 v40) fun v41 => wv (vbin T .sub t_int x37 (.int .i64 2)) fun v42 => wv (viaddr T t_ar64_uint32 x36 v42) fun v43 => wv (vload T G34 t_uint32 v43) fun v44 => ACalls P bits_RotateLeft32.n [v41, .int .i64 (-7)] G34 fun v45 G46 => ACalls P bits_RotateLeft32.n [v41, .int .i64 (-18)] G46 fun v47 G48 => wv (vbin T .xor t_uint32 v45 v47) fun v49 => wv (vbin T .shr t_uint32 v41 (.int .u64 3)) fun v50 => wv (vbin T .xor t_uint32 v49 v50) fun v51 => ACalls P bits_RotateLeft32.n [v44, .int .i64 (-17)] G48 fun v52 G53 => ACalls P bits_RotateLeft32.n [v44, .int .i64 (-19)] G53 fun v54 G55 => wv (vbin T .xor t_uint32 v52 v54) fun v56 => wv (vbin T .shr t_uint32 v44 (.int .u64 10)) fun v57 => wv (vbin T .xor t_uint32 v56 v57) fun v58 => wv (vbin T .sub t_int x37 (.int .i64 16)) fun v59 => wv (viaddr T t_ar64_uint32 x36 v59) fun v60 => wv (vload T G55 t_uint32 v60) fun v61 => wv (vbin T .add t_uint32 v61 v51) fun v62 => wv (vbin T .sub t_int x37 (.int .i64 7)) fun v63 => wv (viaddr T t_ar64_uint32 x36 v63) fun v64 => wv (vload T G55 t_uint32 v64) fun v65 => wv (vbin T .add t_uint32 v62 v65) fun v66 => wv (vbin T .add t_uint32 v66 v58) fun v67 => wv (viaddr T t_ar64_uint32 x36 x37) fun v68 => wg (vstore T G55 t_uint32 v68 v67) fun G69 => wv (vbin T .add t_int x37 (.int .i64 1)) fun v70 => R33 [x35, x36, v70] G69)
  (wv (vload T G34 t_ar64_uint32 x36) fun v71 => wg (vstore T G34 t_ar64_uint32 x35 v71) fun G72 => wv (vload T G72 t_ar64_uint32 x35) fun v73 => Q v73 G72)) → R33 [x35, x36, x37] G34) →
  R33 [x8, x9, .int .i64 16] G6)) → R5 [x7, x8, x9, x10] G6) →
  R5 [a0, .ptr i1 [] 0, .ptr i3 [] 0, .int .i64 0] G4
def hash_schedule.an : Ann := .two (.nil) (.two (.nil) (.two (.two (.nil) (.loop [0, 2, 3, 11] (.two (.nil) (.two (.nil) (.two (.two (.nil) (.two (.nil) (.loop [0, 2, 3, 4, 11, 14] (.two (.nil) (.two (.nil) (.two (.two (.nil) (.ord [(0, []), (1, []), (2, []), (3, []), (4, []), (5, []), (6, []), (7, []), (8, []), (9, []), (10, []), (11, []), (12, []), (13, []), (14, [])])) (.nil))))))) (.nil)))))) (.two (.two (.nil) (.loop [2, 3, 6] (.two (.nil) (.two (.two (.ord [(0, []), (1, []), (2, []), (3, []), (4, []), (5, []), (6, []), (7, []), (8, []), (9, [])]) (.two (.nil) (.two (.nil) (.ord [(0, []), (1, []), (2, []), (3, []), (4, []), (5, []), (6, []), (7, []), (8, []), (9, []), (10, []), (11, []), (12, []), (13, []), (14, []), (15, [])])))) (.nil))))) (.nil))))
set_option maxRecDepth 100000 in
theorem hash_schedule.sound {a0 : AVal} {G : Heap} {Q : AVal → Heap → Prop} (h : hash_schedule.S a0 G Q) : ACalls P hash_schedule.n [a0] G Q := by
  have e : hash_schedule.S a0 G Q = awp cx (hash_schedule.body) hash_schedule.an (bodyQ T [.cell 2 118] Q) (envL [a0]) G := by kernel_rfl
  exact ACalls_of_awp cxOk (f := hash_schedule.n) (fn := Tryd.f75) (c := hash_schedule.body) (an := hash_schedule.an) Tryd.func75 (by kernel_rfl) (by kernel_rfl) (by kernel_rfl) (drawsOk_of (by kernel_rfl) (by kernel_rfl)) (by simp [Tryd.f75]) (e ▸ h)

/-! #### escrow/hash.turned -/
def hash_turned.S (a0 a1 a2 : AVal) (G : Heap) (Q : AVal → Heap → Prop) : Prop :=
  aNew G (.own (a0)) fun i1 G2 => aNew G2 (.own (z_ar8_uint32)) fun i3 G4 => wv (vload T G4 t_ar8_uint32 (.ptr i1 [] 0)) fun v5 => ACalls P hash_schedule.n [a1] G4 fun v6 G7 => (vload T G7 t_ar8_uint32 (.ptr i1 [] 0) = some v5 ∧ True) ∧ (aNew G7 (.own (z_ar64_uint32)) fun i8 G9 => aNew G9 (.own (z_ar8_uint32)) fun i10 G11 => wg (vstore T G11 t_ar64_uint32 (.ptr i8 [] 0) v6) fun G12 => (vload T G12 t_ar8_uint32 (.ptr i1 [] 0) = some v5 ∧ True) ∧ (wg (vstore T G12 t_ar8_uint32 (.ptr i10 [] 0) v5) fun G13 => ∀ R14 : List AVal → Heap → Prop,
  (∀ (x16 x17 x18 x19 x20 x21 : AVal) (G15 : Heap), (wv (vbin T .lss t_int x21 (.int .i64 64)) fun v22 => brB (some v22)
  (wv (viaddr T t_ar8_uint32 x20 (.int .i64 4)) fun v23 => wv (vload T G15 t_uint32 v23) fun v24 => wv (viaddr T t_ar8_uint32 x20 (.int .i64 0)) fun v25 => wv (vload T G15 t_uint32 v25) fun v26 => wv (viaddr T t_ar8_uint32 x20 (.int .i64 7)) fun v27 => wv (vload T G15 t_uint32 v27) fun v28 => wv (viaddr T t_ar8_uint32 x20 (.int .i64 5)) fun v29 => wv (vload T G15 t_uint32 v29) fun v30 => wv (vbin T .and t_uint32 v24 v30) fun v31 => wv (vun .xor v24) fun v32 => wv (viaddr T t_ar8_uint32 x20 (.int .i64 6)) fun v33 => wv (vload T G15 t_uint32 v33) fun v34 => wv (vbin T .and t_uint32 v32 v34) fun v35 => wv (vbin T .xor t_uint32 v31 v35) fun v36 => wv (vnil x16) fun v37 => wv (viaddr T t_ar64_uint32 v37 x21) fun v38 => wv (vload T G15 t_uint32 v38) fun v39 => wv (viaddr T t_ar64_uint32 x19 x21) fun v40 => wv (vload T G15 t_uint32 v40) fun v41 => ACalls P bits_RotateLeft32.n [v24, .int .i64 (-6)] G15 fun v42 G43 => (vload T G43 t_uint32 v40 = some v41 ∧ vload T G43 t_uint32 v38 = some v39 ∧ vload T G43 t_uint32 v33 = some v34 ∧ vload T G43 t_uint32 v29 = some v30 ∧ vload T G43 t_uint32 v27 = some v28 ∧ True) ∧ (ACalls P bits_RotateLeft32.n [v24, .int .i64 (-11)] G43 fun v44 G45 => (vload T G45 t_uint32 v40 = some v41 ∧ vload T G45 t_uint32 v38 = some v39 ∧ vload T G45 t_uint32 v33 = some v34 ∧ vload T G45 t_uint32 v29 = some v30 ∧ vload T G45 t_uint32 v27 = some v28 ∧ True) ∧ (wv (vbin T .xor t_uint32 v42 v44) fun v46 => ACalls P bits_RotateLeft32.n [v24, .int .i64 (-25)] G45 fun v47 G48 => (vload T G48 t_uint32 v40 = some v41 ∧ vload T G48 t_uint32 v38 = some v39 ∧ vload T G48 t_uint32 v33 = some v34 ∧ vload T G48 t_uint32 v29 = some v30 ∧ vload T G48 t_uint32 v27 = some v28 ∧ True) ∧ (wv (vbin T .xor t_uint32 v46 v47) fun v49 => wv (vbin T .add t_uint32 v28 v49) fun v50 => wv (vbin T .add t_uint32 v50 v36) fun v51 => wv (vbin T .add t_uint32 v51 v39) fun v52 => wv (vbin T .add t_uint32 v52 v41) fun v53 => wv (viaddr T t_ar8_uint32 x20 (.int .i64 1)) fun v54 => wv (vload T G48 t_uint32 v54) fun v55 => wv (vbin T .and t_uint32 v26 v55) fun v56 => wv (viaddr T t_ar8_uint32 x20 (.int .i64 2)) fun v57 => wv (vload T G48 t_uint32 v57) fun v58 => wv (vbin T .and t_uint32 v26 v58) fun v59 => wv (vbin T .xor t_uint32 v56 v59) fun v60 => wv (viaddr T t_ar8_uint32 x20 (.int .i64 1)) fun v61 => wv (vload T G48 t_uint32 v61) fun v62 => wv (viaddr T t_ar8_uint32 x20 (.int .i64 2)) fun v63 => wv (vload T G48 t_uint32 v63) fun v64 => wv (vbin T .and t_uint32 v62 v64) fun v65 => wv (vbin T .xor t_uint32 v60 v65) fun v66 => ACalls P bits_RotateLeft32.n [v26, .int .i64 (-2)] G48 fun v67 G68 => (vload T G68 t_uint32 v63 = some v64 ∧ vload T G68 t_uint32 v61 = some v62 ∧ vload T G68 t_uint32 v57 = some v58 ∧ vload T G68 t_uint32 v54 = some v55 ∧ True) ∧ (ACalls P bits_RotateLeft32.n [v26, .int .i64 (-13)] G68 fun v69 G70 => (vload T G70 t_uint32 v63 = some v64 ∧ vload T G70 t_uint32 v61 = some v62 ∧ vload T G70 t_uint32 v57 = some v58 ∧ vload T G70 t_uint32 v54 = some v55 ∧ True) ∧ (wv (vbin T .xor t_uint32 v67 v69) fun v71 => ACalls P bits_RotateLeft32.n [v26, .int .i64 (-22)] G70 fun v72 G73 => (vload T G73 t_uint32 v63 = some v64 ∧ vload T G73 t_uint32 v61 = some v62 ∧ vload T G73 t_uint32 v57 = some v58 ∧ vload T G73 t_uint32 v54 = some v55 ∧ True) ∧ (wv (vbin T .xor t_uint32 v71 v72) fun v74 => wv (vbin T .add t_uint32 v74 v66) fun v75 => wv (vbin T .add t_uint32 v53 v75) fun v76 => wv (viaddr T t_ar8_uint32 x20 (.int .i64 1)) fun v77 => wv (vload T G73 t_uint32 v77) fun v78 => wv (viaddr T t_ar8_uint32 x20 (.int .i64 2)) fun v79 => wv (vload T G73 t_uint32 v79) fun v80 => wv (viaddr T t_ar8_uint32 x20 (.int .i64 3)) fun v81 => wv (vload T G73 t_uint32 v81) fun v82 => wv (vbin T .add t_uint32 v82 v53) fun v83 => wv (viaddr T t_ar8_uint32 x20 (.int .i64 5)) fun v84 => wv (vload T G73 t_uint32 v84) fun v85 => wv (viaddr T t_ar8_uint32 x20 (.int .i64 6)) fun v86 => wv (vload T G73 t_uint32 v86) fun v87 => wv (vbuild T t_ar8_uint32 [(0, v76), (1, v26), (2, v78), (3, v80), (4, v83), (5, v24), (6, v85), (7, v87)]) fun v88 => wg (vstore T G73 t_ar8_uint32 x20 v88) fun G89 => wv (vbin T .add t_int x21 (.int .i64 1)) fun v90 => R14 [x16, x17, x18, x19, x20, v90] G89)))))))
  (∀ R91 : List AVal → Heap → Prop,
  (∀ (x93 x94 x95 x96 : AVal) (G92 : Heap), (wv (vbin T .lss t_int x96 (.int .i64 8)) fun v97 => brB (some v97)
  (wv (viaddr T t_ar8_uint32 x95 x96) fun v98 => wv (vload T G92 t_uint32 v98) fun v99 => wv (viaddr T t_ar8_uint32 x93 x96) fun v100 => wv (vload T G92 t_uint32 v100) fun v101 => wv (vbin T .add t_uint32 v99 v101) fun v102 => wv (viaddr T t_ar8_uint32 x95 x96) fun v103 => wg (vstore T G92 t_uint32 v103 v102) fun G104 => wv (vbin T .add t_int x96 (.int .i64 1)) fun v105 => R91 [x93, x94, x95, v105] G104)
  (wv (vload T G92 t_ar8_uint32 x95) fun v106 => wg (vstore T G92 t_ar8_uint32 x94 v106) fun G107 => wv (vload T G107 t_ar8_uint32 x94) fun v108 => Q v108 G107)) → R91 [x93, x94, x95, x96] G92) →
  R91 [x17, x18, x20, .int .i64 0] G15)) → R14 [x16, x17, x18, x19, x20, x21] G15) →
  R14 [a2, .ptr i1 [] 0, .ptr i3 [] 0, .ptr i8 [] 0, .ptr i10 [] 0, .int .i64 0] G13))
def hash_turned.an : Ann := .two (.nil) (.two (.ord [(0, []), (2, []), (1, [2]), (3, []), (4, []), (5, [2]), (6, [])]) (.two (.two (.nil) (.loop [2, 3, 6, 7, 8, 18] (.two (.nil) (.two (.nil) (.two (.two (.nil) (.two (.ord [(0, []), (1, []), (2, []), (3, []), (4, []), (5, [])]) (.two (.ord [(0, []), (1, []), (2, []), (4, []), (7, []), (11, []), (12, []), (13, []), (14, []), (15, []), (16, []), (17, []), (18, []), (19, []), (20, []), (22, []), (23, []), (24, []), (25, []), (26, []), (28, []), (29, []), (30, []), (3, [1, 13, 18, 26, 30]), (5, [1, 13, 18, 26, 30]), (6, []), (8, [1, 13, 18, 26, 30]), (9, []), (10, []), (21, []), (27, []), (31, []), (32, [])]) (.two (.ord [(0, []), (2, []), (5, []), (8, []), (9, []), (10, []), (11, []), (12, []), (13, []), (14, []), (15, []), (16, []), (17, []), (18, []), (19, []), (20, []), (21, []), (22, []), (1, [10, 14, 18, 20]), (3, [10, 14, 18, 20]), (4, []), (6, [10, 14, 18, 20]), (7, []), (23, []), (24, [])]) (.nil))))) (.nil)))))) (.two (.two (.nil) (.loop [3, 6, 8, 100] (.two (.nil) (.two (.nil) (.two (.two (.nil) (.ord [(0, []), (1, []), (2, []), (3, []), (4, []), (5, []), (6, []), (7, []), (8, [])])) (.nil)))))) (.nil))))
set_option maxRecDepth 100000 in
theorem hash_turned.sound {a0 a1 a2 : AVal} {G : Heap} {Q : AVal → Heap → Prop} (h : hash_turned.S a0 a1 a2 G Q) : ACalls P hash_turned.n [a0, a1, a2] G Q := by
  have e : hash_turned.S a0 a1 a2 G Q = awp cx (hash_turned.body) hash_turned.an (bodyQ T [.cell 6 117] Q) (envL [a0, a1, a2]) G := by kernel_rfl
  exact ACalls_of_awp cxOk (f := hash_turned.n) (fn := Tryd.f58) (c := hash_turned.body) (an := hash_turned.an) Tryd.func58 (by kernel_rfl) (by kernel_rfl) (by kernel_rfl) (drawsOk_of (by kernel_rfl) (by kernel_rfl)) (by simp [Tryd.f58]) (e ▸ h)

/-! #### escrow/hash.Sum -/
def hash_Sum.S (a0 : AVal) (G : Heap) (Q : AVal → Heap → Prop) : Prop :=
  aNew G (.own (z_api_Hash)) fun i1 G2 => ACalls P strings_Join.n [a0, .str []] G2 fun v3 G4 => wv (vlen T G4 t_string v3) fun v5 => aBuildSlice T t_sl_uint8 1 [(0, .int .u8 128)] G4 fun v6 G7 => ∀ R8 : List AVal → Heap → Prop,
  (∀ (x10 x11 x12 x13 : AVal) (G9 : Heap), (wv (vlen T G9 t_sl_uint8 x13) fun v14 => wv (vbin T .add t_int x12 v14) fun v15 => wv (vbin T .rem t_int v15 (.int .i64 64)) fun v16 => wv (vbin T .neq t_int v16 (.int .i64 56)) fun v17 => brB (some v17)
  (aBuildSlice T t_sl_uint8 1 [(0, .int .u8 0)] G9 fun v18 G19 => aAppend T G19 t_sl_uint8 t_sl_uint8 x13 v18 fun v20 G21 => R8 [x10, x11, x12, v20] G21)
  (∀ R22 : List AVal → Heap → Prop,
  (∀ (x24 x25 x26 x27 x28 : AVal) (G23 : Heap), (wv (vbin T .lss t_int x28 (.int .i64 8)) fun v29 => brB (some v29)
  (wv (vbin T .mul t_int (.int .i64 8) x26) fun v30 => wv (vconv T G23 t_int t_uint64 v30) fun v31 => wv (vbin T .mul t_int (.int .i64 8) x28) fun v32 => wv (vbin T .sub t_int (.int .i64 56) v32) fun v33 => wv (vbin T .shr t_uint64 v31 v33) fun v34 => wv (vconv T G23 t_uint64 t_uint8 v34) fun v35 => aBuildSlice T t_sl_uint8 1 [(0, v35)] G23 fun v36 G37 => aAppend T G37 t_sl_uint8 t_sl_uint8 x27 v36 fun v38 G39 => wv (vbin T .add t_int x28 (.int .i64 1)) fun v40 => R22 [x24, x25, x26, v38, v40] G39)
  (wv (vconv T G23 t_sl_uint8 t_string x27) fun v41 => wv (vbin T .add t_string x25 v41) fun v42 => wv (vbuild T t_ar8_uint32 [(0, .int .u32 1779033703), (1, .int .u32 3144134277), (2, .int .u32 1013904242), (3, .int .u32 2773480762), (4, .int .u32 1359893119), (5, .int .u32 2600822924), (6, .int .u32 528734635), (7, .int .u32 1541459225)]) fun v43 => aNew G23 (.own (z_ar8_uint32)) fun i44 G45 => wg (vstore T G45 t_ar8_uint32 (.ptr i44 [] 0) v43) fun G46 => ACalls P hash_constants.n [] G46 fun v47 G48 => aNew G48 (.own (z_ar64_uint32)) fun i49 G50 => wg (vstore T G50 t_ar64_uint32 (.ptr i49 [] 0) v47) fun G51 => ∀ R52 : List AVal → Heap → Prop,
  (∀ (x54 x55 x56 x57 : AVal) (G53 : Heap), (wv (vbin T .neq t_string x55 (.str [])) fun v58 => brB (some v58)
  (wv (vload T G53 t_ar8_uint32 x56) fun v59 => wv (vslice T t_string x55 none (some (.int .i64 64)) none) fun v60 => ACalls P hash_turned.n [v59, v60, x57] G53 fun v61 G62 => wg (vstore T G62 t_ar8_uint32 x56 v61) fun G63 => wv (vslice T t_string x55 (some (.int .i64 64)) none none) fun v64 => R52 [x54, v64, x56, x57] G63)
  (aNew G53 (.own (z_api_Hash)) fun i65 G66 => ∀ R67 : List AVal → Heap → Prop,
  (∀ (x69 x70 x71 x72 : AVal) (G68 : Heap), (wv (vbin T .lss t_int x72 (.int .i64 32)) fun v73 => brB (some v73)
  (wv (vbin T .quo t_int x72 (.int .i64 4)) fun v74 => wv (viaddr T t_ar8_uint32 x70 v74) fun v75 => wv (vload T G68 t_uint32 v75) fun v76 => wv (vbin T .rem t_int x72 (.int .i64 4)) fun v77 => wv (vbin T .mul t_int (.int .i64 8) v77) fun v78 => wv (vbin T .sub t_int (.int .i64 24) v78) fun v79 => wv (vbin T .shr t_uint32 v76 v79) fun v80 => wv (vconv T G68 t_uint32 t_uint8 v80) fun v81 => wv (viaddr T t_api_Hash x71 x72) fun v82 => wg (vstore T G68 t_uint8 v82 v81) fun G83 => wv (vbin T .add t_int x72 (.int .i64 1)) fun v84 => R67 [x69, x70, x71, v84] G83)
  (wv (vload T G68 t_api_Hash x71) fun v85 => wg (vstore T G68 t_api_Hash x69 v85) fun G86 => wv (vload T G86 t_api_Hash x69) fun v87 => Q v87 G86)) → R67 [x69, x70, x71, x72] G68) →
  R67 [x54, x56, .ptr i65 [] 0, .int .i64 0] G66)) → R52 [x54, x55, x56, x57] G53) →
  R52 [x24, v42, .ptr i44 [] 0, .ptr i49 [] 0] G51)) → R22 [x24, x25, x26, x27, x28] G23) →
  R22 [x10, x11, x12, x13, .int .i64 0] G9)) → R8 [x10, x11, x12, x13] G9) →
  R8 [.ptr i1 [] 0, v3, v5, v6] G7
def hash_Sum.an : Ann := .two (.nil) (.two (.nil) (.two (.nil) (.two (.nil) (.two (.loop [2, 3, 4, 5] (.nil)) (.two (.two (.nil) (.loop [2, 3, 4, 5, 25] (.nil))) (.two (.nil) (.two (.nil) (.two (.nil) (.two (.loop [2, 3, 7, 8] (.two (.nil) (.two (.ord [(0, []), (1, []), (2, []), (3, []), (4, [])]) (.nil)))) (.two (.nil) (.two (.two (.nil) (.loop [2, 7, 9, 54] (.nil))) (.nil))))))))))))
set_option maxRecDepth 100000 in
theorem hash_Sum.sound {a0 : AVal} {G : Heap} {Q : AVal → Heap → Prop} (h : hash_Sum.S a0 G Q) : ACalls P hash_Sum.n [a0] G Q := by
  have e : hash_Sum.S a0 G Q = awp cx (hash_Sum.body) hash_Sum.an (bodyQ T [.cell 2 23] Q) (envL [a0]) G := by kernel_rfl
  exact ACalls_of_awp cxOk (f := hash_Sum.n) (fn := Tryd.f38) (c := hash_Sum.body) (an := hash_Sum.an) Tryd.func38 (by kernel_rfl) (by kernel_rfl) (by kernel_rfl) (drawsOk_of (by kernel_rfl) (by kernel_rfl)) (by simp [Tryd.f38]) (e ▸ h)

/-! #### escrow/seed.Point -/
def seed_Point.S (a0 : AVal) (G : Heap) (Q : AVal → Heap → Prop) : Prop :=
  aNew G (.own (a0)) fun i1 G2 => aNew G2 (.own (z_api_Hash)) fun i3 G4 => wv (vslice T t_api_Hash (.ptr i1 [] 0) none none none) fun v5 => wv (vconv T G4 t_sl_uint8 t_string v5) fun v6 => aBuildSlice T t_sl_string 1 [(0, v6)] G4 fun v7 G8 => ACalls P hash_Sum.n [v7] G8 fun v9 G10 => wg (vstore T G10 t_api_Hash (.ptr i3 [] 0) v9) fun G11 => wv (vload T G11 t_api_Hash (.ptr i3 [] 0)) fun v12 => Q v12 G11
def seed_Point.an : Ann := .nil
set_option maxRecDepth 100000 in
theorem seed_Point.sound {a0 : AVal} {G : Heap} {Q : AVal → Heap → Prop} (h : seed_Point.S a0 G Q) : ACalls P seed_Point.n [a0] G Q := by
  have e : seed_Point.S a0 G Q = awp cx (seed_Point.body) seed_Point.an (bodyQ T [.cell 2 23] Q) (envL [a0]) G := by kernel_rfl
  exact ACalls_of_awp cxOk (f := seed_Point.n) (fn := Tryd.f28) (c := seed_Point.body) (an := seed_Point.an) Tryd.func28 (by kernel_rfl) (by kernel_rfl) (by kernel_rfl) (drawsOk_of (by kernel_rfl) (by kernel_rfl)) (by simp [Tryd.f28]) (e ▸ h)

/-! #### escrow/seed.down -/
def seed_down.S (a0 a1 a2 : AVal) (G : Heap) (Q : AVal → Heap → Prop) : Prop :=
  aNew G (.own (a0)) fun i1 G2 => aNew G2 (.own (z_api_Hash)) fun i3 G4 => ∀ R5 : List AVal → Heap → Prop,
  (∀ (x7 x8 x9 x10 x11 x12 : AVal) (G6 : Heap), (wv (vbin T .lss t_int x12 x11) fun v13 => brB (some v13)
  (wv (vbin T .sub t_int x8 (.int .i64 1)) fun v14 => wv (vbin T .sub t_int v14 x12) fun v15 => wv (vbin T .shr t_int64 x7 v15) fun v16 => wv (vbin T .and t_int64 v16 (.int .i64 1)) fun v17 => wv (vbin T .eql t_int64 v17 (.int .i64 1)) fun v18 => brB (some v18)
  (wv (vbin T .quo t_int v15 (.int .i64 8)) fun v19 => wv (viaddr T t_api_Hash x9 v19) fun v20 => wv (vload T G6 t_uint8 v20) fun v21 => wv (vbin T .rem t_int v15 (.int .i64 8)) fun v22 => wv (vbin T .shl t_uint8 (.int .u8 1) v22) fun v23 => wv (vbin T .xor t_uint8 v21 v23) fun v24 => wv (viaddr T t_api_Hash x9 v19) fun v25 => wg (vstore T G6 t_uint8 v25 v24) fun G26 => wv (vload T G26 t_api_Hash x9) fun v27 => ACalls P seed_Point.n [v27] G26 fun v28 G29 => wg (vstore T G29 t_api_Hash x9 v28) fun G30 => wv (vbin T .add t_int x12 (.int .i64 1)) fun v34 => R5 [x7, x8, x9, x10, x11, v34] G30)
  (wv (vbin T .add t_int x12 (.int .i64 1)) fun v35 => R5 [x7, x8, x9, x10, x11, v35] G6))
  (wv (vload T G6 t_api_Hash x9) fun v36 => wg (vstore T G6 t_api_Hash x10 v36) fun G37 => wv (vload T G37 t_api_Hash x10) fun v38 => Q v38 G37)) → R5 [x7, x8, x9, x10, x11, x12] G6) →
  R5 [a1, a2, .ptr i1 [] 0, .ptr i3 [] 0, a2, .int .i64 0] G4
def seed_down.an : Ann := .two (.nil) (.two (.two (.nil) (.loop [1, 2, 3, 6, 9, 10] (.two (.nil) (.two (.nil) (.two (.two (.nil) (.two (.nil) (.two (.nil) (.two (.two (.ord [(0, []), (1, []), (2, []), (3, []), (4, []), (5, []), (6, []), (7, []), (8, []), (9, [])]) (.nil)) (.nil))))) (.nil)))))) (.nil))
set_option maxRecDepth 100000 in
theorem seed_down.sound {a0 a1 a2 : AVal} {G : Heap} {Q : AVal → Heap → Prop} (h : seed_down.S a0 a1 a2 G Q) : ACalls P seed_down.n [a0, a1, a2] G Q := by
  have e : seed_down.S a0 a1 a2 G Q = awp cx (seed_down.body) seed_down.an (bodyQ T [.cell 6 23] Q) (envL [a0, a1, a2]) G := by kernel_rfl
  exact ACalls_of_awp cxOk (f := seed_down.n) (fn := Tryd.f37) (c := seed_down.body) (an := seed_down.an) Tryd.func37 (by kernel_rfl) (by kernel_rfl) (by kernel_rfl) (drawsOk_of (by kernel_rfl) (by kernel_rfl)) (by simp [Tryd.f37]) (e ▸ h)

/-! #### escrow/seed.Derive -/
def seed_Derive.S (a0 a1 a2 : AVal) (G : Heap) (Q : AVal → Heap → Prop) : Prop :=
  aNew G (.own (a0)) fun i1 G2 => aNew G2 (.own (z_api_Hash)) fun i3 G4 => ACalls P seed_Level.n [a1] G4 fun v5 G6 => wv (vextract v5 0) fun v7 => wv (vextract v5 1) fun v8 => let J28 : AVal → Heap → Prop := (fun x14 G13 => brB (some x14)
  (wv (vbuild T t_api_Hash []) fun v15 => wg (vstore T G13 t_api_Hash (.ptr i3 [] 0) v15) fun G16 => wv (vload T G16 t_api_Hash (.ptr i3 [] 0)) fun v17 => Q (.tuple [v17, .int .i64 90]) G16)
  (ACalls P seed_place.n [a1] G13 fun v18 G19 => wv (vbin T .shr t_int64 v18 v7) fun v20 => ACalls P seed_place.n [a2] G19 fun v21 G22 => wv (vbin T .shr t_int64 v21 v7) fun v23 => wv (vbin T .neq t_int64 v20 v23) fun v24 => brB (some v24)
  (wv (vbuild T t_api_Hash []) fun v25 => wg (vstore T G22 t_api_Hash (.ptr i3 [] 0) v25) fun G26 => wv (vload T G26 t_api_Hash (.ptr i3 [] 0)) fun v27 => Q (.tuple [v27, .int .i64 5]) G26)
  (wv (vload T G22 t_api_Hash (.ptr i1 [] 0)) fun v29 => ACalls P seed_place.n [a2] G22 fun v30 G31 => (vload T G31 t_api_Hash (.ptr i1 [] 0) = some v29 ∧ True) ∧ (ACalls P seed_down.n [v29, v30, v7] G31 fun v32 G33 => wg (vstore T G33 t_api_Hash (.ptr i3 [] 0) v32) fun G34 => wv (vload T G34 t_api_Hash (.ptr i3 [] 0)) fun v35 => Q (.tuple [v35, .int .i64 0]) G34))));
  wv (vbin T .neq t_api_Errno v8 (.int .i64 0)) fun v9 => brB (some v9)
  (J28 (.bool true) G6)
  (ACalls P seed_right.n [a2] G6 fun v10 G11 => wv (vun .not v10) fun v12 => J28 v12 G11)
def seed_Derive.an : Ann := .two (.nil) (.two (.nil) (.two (.two (.nil) (.two (.nil) (.two (.ord [(0, []), (2, []), (4, []), (6, []), (1, []), (3, []), (5, []), (7, []), (8, []), (9, [])]) (.nil)))) (.two (.ord [(0, []), (1, []), (3, []), (2, [0]), (4, []), (5, []), (6, [])]) (.nil))))
set_option maxRecDepth 100000 in
theorem seed_Derive.sound {a0 a1 a2 : AVal} {G : Heap} {Q : AVal → Heap → Prop} (h : seed_Derive.S a0 a1 a2 G Q) : ACalls P seed_Derive.n [a0, a1, a2] G Q := by
  have e : seed_Derive.S a0 a1 a2 G Q = awp cx (seed_Derive.body) seed_Derive.an (bodyQ T [.cell 6 23, .tmp 7] Q) (envL [a0, a1, a2]) G := by kernel_rfl
  exact ACalls_of_awp cxOk (f := seed_Derive.n) (fn := Tryd.f25) (c := seed_Derive.body) (an := seed_Derive.an) Tryd.func25 (by kernel_rfl) (by kernel_rfl) (by kernel_rfl) (drawsOk_of (by kernel_rfl) (by kernel_rfl)) (by simp [Tryd.f25]) (e ▸ h)

/-! #### escrow/shelf.Get -/
def shelf_Get.S (a0 a1 : AVal) (G : Heap) (Q : AVal → Heap → Prop) : Prop :=
  aNew G (.own (z_api_Hash)) fun i1 G2 => wv (vlen T G2 t_sl_api_Slot a0) fun v3 => wv (vbin T .gtr t_int v3 (.int .i64 49)) fun v4 => brB (some v4)
  (wv (vbuild T t_api_Hash []) fun v5 => wg (vstore T G2 t_api_Hash (.ptr i1 [] 0) v5) fun G6 => wv (vload T G6 t_api_Hash (.ptr i1 [] 0)) fun v7 => Q (.tuple [v7, .int .i64 1]) G6)
  (let J52 : AVal → Heap → Prop := (fun x11 G10 => brB (some x11)
  (wv (vbuild T t_api_Hash []) fun v12 => wg (vstore T G10 t_api_Hash (.ptr i1 [] 0) v12) fun G13 => wv (vload T G13 t_api_Hash (.ptr i1 [] 0)) fun v14 => Q (.tuple [v14, .int .i64 90]) G13)
  (wv (vlen T G10 t_sl_api_Slot a0) fun v15 => ∀ R16 : List AVal → Heap → Prop,
  (∀ (x18 x19 x20 x21 x22 : AVal) (G17 : Heap), (wv (vbin T .lss t_int x22 x21) fun v23 => brB (some v23)
  (wv (viaddr T t_sl_api_Slot x18 x22) fun v24 => wv (vfaddr T t_api_Slot v24 2) fun v25 => wv (vload T G17 t_bool v25) fun v26 => wv (vun .not v26) fun v27 => brB (some v27)
  (wv (vbin T .add t_int x22 (.int .i64 1)) fun v47 => R16 [x18, x19, x20, x21, v47] G17)
  (wv (viaddr T t_sl_api_Slot x18 x22) fun v28 => wv (vfaddr T t_api_Slot v28 1) fun v29 => wv (vload T G17 t_api_Hash v29) fun v30 => wv (viaddr T t_sl_api_Slot x18 x22) fun v31 => wv (vfaddr T t_api_Slot v31 0) fun v32 => wv (vload T G17 t_int64 v32) fun v33 => ACalls P seed_Derive.n [v30, v33, x19] G17 fun v34 G35 => wv (vextract v34 0) fun v36 => wv (vextract v34 1) fun v37 => aNew G35 (.own (z_api_Hash)) fun i38 G39 => wg (vstore T G39 t_api_Hash (.ptr i38 [] 0) v36) fun G40 => wv (vbin T .eql t_api_Errno v37 (.int .i64 0)) fun v41 => brB (some v41)
  (wv (vload T G40 t_api_Hash (.ptr i38 [] 0)) fun v42 => wg (vstore T G40 t_api_Hash x20 v42) fun G43 => wv (vload T G43 t_api_Hash x20) fun v44 => Q (.tuple [v44, .int .i64 0]) G43)
  (wv (vbin T .add t_int x22 (.int .i64 1)) fun v48 => R16 [x18, x19, x20, x21, v48] G40)))
  (wv (vbuild T t_api_Hash []) fun v49 => wg (vstore T G17 t_api_Hash x20 v49) fun G50 => wv (vload T G50 t_api_Hash x20) fun v51 => Q (.tuple [v51, .int .i64 5]) G50)) → R16 [x18, x19, x20, x21, x22] G17) →
  R16 [a0, a1, .ptr i1 [] 0, v15, .int .i64 0] G10));
  wv (vbin T .lss t_int64 a1 (.int .i64 0)) fun v8 => brB (some v8)
  (J52 (.bool true) G2)
  (wv (vbin T .gtr t_int64 a1 (.int .i64 281474976710655)) fun v9 => J52 v9 G2))
def shelf_Get.an : Ann := .two (.nil) (.two (.nil) (.two (.nil) (.two (.two (.nil) (.loop [0, 1, 4, 21, 22] (.two (.nil) (.two (.nil) (.two (.two (.nil) (.two (.nil) (.two (.ord [(0, []), (1, []), (2, []), (3, []), (4, []), (5, []), (6, []), (7, []), (8, []), (9, []), (10, []), (11, []), (12, []), (13, []), (14, []), (15, []), (16, []), (17, [])]) (.nil)))) (.nil)))))) (.nil))))
set_option maxRecDepth 100000 in
theorem shelf_Get.sound {a0 a1 : AVal} {G : Heap} {Q : AVal → Heap → Prop} (h : shelf_Get.S a0 a1 G Q) : ACalls P shelf_Get.n [a0, a1] G Q := by
  have e : shelf_Get.S a0 a1 G Q = awp cx (shelf_Get.body) shelf_Get.an (bodyQ T [.cell 4 23, .tmp 5] Q) (envL [a0, a1]) G := by kernel_rfl
  exact ACalls_of_awp cxOk (f := shelf_Get.n) (fn := Tryd.f13) (c := shelf_Get.body) (an := shelf_Get.an) Tryd.func13 (by kernel_rfl) (by kernel_rfl) (by kernel_rfl) (drawsOk_of (by kernel_rfl) (by kernel_rfl)) (by simp [Tryd.f13]) (e ▸ h)

/-! #### escrow/resume.Hello -/
def resume_Hello.S (a0 a1 : AVal) (G : Heap) (Q : AVal → Heap → Prop) : Prop :=
  aNew G (.own (a0)) fun i1 G2 => aNew G2 (.own (a1)) fun i3 G4 => aNew G4 (.own (z_api_Message)) fun i5 G6 => wv (vload T G6 t_int64 (.ptr i3 [6] 6)) fun v7 => wv (vbin T .add t_int64 v7 (.int .i64 1)) fun v8 => wv (vload T G6 t_int64 (.ptr i3 [8] 8)) fun v9 => wv (vbuild T t_api_Message [(0, .int .i64 6), (3, v8), (4, v9)]) fun v10 => aNew G6 (.own (z_api_Message)) fun i11 G12 => wg (vstore T G12 t_api_Message (.ptr i11 [] 0) v10) fun G13 => wv (vload T G13 t_int64 (.ptr i3 [8] 8)) fun v14 => wv (vbin T .gtr t_int64 v14 (.int .i64 0)) fun v15 => brB (some v15)
  (wv (vload T G13 t_sl_api_Slot (.ptr i3 [15] 112)) fun v16 => wv (vload T G13 t_int64 (.ptr i3 [8] 8)) fun v17 => wv (vbin T .sub t_int64 v17 (.int .i64 1)) fun v18 => ACalls P shelf_Get.n [v16, v18] G13 fun v19 G20 => wv (vextract v19 0) fun v21 => wv (vextract v19 1) fun v22 => wg (vstore T G20 t_api_Hash (.ptr i11 [6] 37) v21) fun G23 => wv (vload T G23 t_api_Message (.ptr i11 [] 0)) fun v28 => wg (vstore T G23 t_api_Message (.ptr i5 [] 0) v28) fun G29 => wv (vload T G29 t_api_Message (.ptr i5 [] 0)) fun v30 => Q v30 G29)
  (wv (vload T G13 t_api_Message (.ptr i11 [] 0)) fun v31 => wg (vstore T G13 t_api_Message (.ptr i5 [] 0) v31) fun G32 => wv (vload T G32 t_api_Message (.ptr i5 [] 0)) fun v33 => Q v33 G32)
def resume_Hello.an : Ann := .nil
set_option maxRecDepth 100000 in
theorem resume_Hello.sound {a0 a1 : AVal} {G : Heap} {Q : AVal → Heap → Prop} (h : resume_Hello.S a0 a1 G Q) : ACalls P resume_Hello.n [a0, a1] G Q := by
  have e : resume_Hello.S a0 a1 G Q = awp cx (resume_Hello.body) resume_Hello.an (bodyQ T [.cell 4 34] Q) (envL [a0, a1]) G := by kernel_rfl
  exact ACalls_of_awp cxOk (f := resume_Hello.n) (fn := Tryd.f6) (c := resume_Hello.body) (an := resume_Hello.an) Tryd.func6 (by kernel_rfl) (by kernel_rfl) (by kernel_rfl) (drawsOk_of (by kernel_rfl) (by kernel_rfl)) (by simp [Tryd.f6]) (e ▸ h)

/-! #### escrow/seed.Secret -/
def seed_Secret.S (a0 a1 : AVal) (G : Heap) (Q : AVal → Heap → Prop) : Prop :=
  aNew G (.own (a0)) fun i1 G2 => aNew G2 (.own (z_api_Hash)) fun i3 G4 => ACalls P seed_right.n [a1] G4 fun v5 G6 => wv (vun .not v5) fun v7 => brB (some v7)
  (wv (vbuild T t_api_Hash []) fun v8 => wg (vstore T G6 t_api_Hash (.ptr i3 [] 0) v8) fun G9 => wv (vload T G9 t_api_Hash (.ptr i3 [] 0)) fun v10 => Q (.tuple [v10, .int .i64 90]) G9)
  (wv (vload T G6 t_api_Hash (.ptr i1 [] 0)) fun v11 => ACalls P seed_place.n [a1] G6 fun v12 G13 => (vload T G13 t_api_Hash (.ptr i1 [] 0) = some v11 ∧ True) ∧ (ACalls P seed_down.n [v11, v12, .int .i64 48] G13 fun v14 G15 => wg (vstore T G15 t_api_Hash (.ptr i3 [] 0) v14) fun G16 => wv (vload T G16 t_api_Hash (.ptr i3 [] 0)) fun v17 => Q (.tuple [v17, .int .i64 0]) G16))
def seed_Secret.an : Ann := .two (.nil) (.two (.nil) (.two (.ord [(0, []), (1, []), (2, [0]), (3, []), (4, []), (5, [])]) (.nil)))
set_option maxRecDepth 100000 in
theorem seed_Secret.sound {a0 a1 : AVal} {G : Heap} {Q : AVal → Heap → Prop} (h : seed_Secret.S a0 a1 G Q) : ACalls P seed_Secret.n [a0, a1] G Q := by
  have e : seed_Secret.S a0 a1 G Q = awp cx (seed_Secret.body) seed_Secret.an (bodyQ T [.cell 4 23, .tmp 5] Q) (envL [a0, a1]) G := by kernel_rfl
  exact ACalls_of_awp cxOk (f := seed_Secret.n) (fn := Tryd.f27) (c := seed_Secret.body) (an := seed_Secret.an) Tryd.func27 (by kernel_rfl) (by kernel_rfl) (by kernel_rfl) (drawsOk_of (by kernel_rfl) (by kernel_rfl)) (by simp [Tryd.f27]) (e ▸ h)

/-! #### escrow/resume.proved -/
def resume_proved.S (a0 a1 : AVal) (G : Heap) (Q : AVal → Heap → Prop) : Prop :=
  aNew G (.own (a0)) fun i1 G2 => aNew G2 (.own (a1)) fun i3 G4 => wv (vload T G4 t_int64 (.ptr i3 [4] 4)) fun v5 => wv (vbin T .gtr t_int64 v5 (.int .i64 0)) fun v6 => brB (some v6)
  (wv (vload T G4 t_api_Hash (.ptr i1 [3] 3)) fun v7 => wv (vload T G4 t_int64 (.ptr i3 [4] 4)) fun v8 => wv (vbin T .sub t_int64 v8 (.int .i64 1)) fun v9 => ACalls P seed_Secret.n [v7, v9] G4 fun v10 G11 => wv (vextract v10 0) fun v12 => wv (vextract v10 1) fun v13 => aNew G11 (.own (z_api_Hash)) fun i14 G15 => wg (vstore T G15 t_api_Hash (.ptr i14 [] 0) v12) fun G16 => wv (vload T G16 t_int64 (.ptr i3 [4] 4)) fun v17 => wv (vbin T .leq t_int64 v17 (.int .i64 281474976710655)) fun v18 => brB (some v18)
  (wv (vbin T .eql t_api_Errno v13 (.int .i64 0)) fun v19 => brB (some v19)
  (wv (vload T G16 t_api_Hash (.ptr i14 [] 0)) fun v20 => wv (vload T G16 t_api_Hash (.ptr i3 [6] 37)) fun v21 => wv (vbin T .eql t_api_Hash v20 v21) fun v22 => Q v22 G16)
  (Q (.bool false) G16))
  (Q (.bool false) G16))
  (wv (vload T G4 t_int64 (.ptr i3 [4] 4)) fun v25 => wv (vbin T .eql t_int64 v25 (.int .i64 0)) fun v26 => brB (some v26)
  (wv (vload T G4 t_api_Hash (.ptr i3 [6] 37)) fun v27 => wv (vbuild T t_api_Hash []) fun v28 => wv (vbin T .eql t_api_Hash v27 v28) fun v29 => Q v29 G4)
  (Q (.bool true) G4))
def resume_proved.an : Ann := .nil
set_option maxRecDepth 100000 in
theorem resume_proved.sound {a0 a1 : AVal} {G : Heap} {Q : AVal → Heap → Prop} (h : resume_proved.S a0 a1 G Q) : ACalls P resume_proved.n [a0, a1] G Q := by
  have e : resume_proved.S a0 a1 G Q = awp cx (resume_proved.body) resume_proved.an (bodyQ T [.tmp 4] Q) (envL [a0, a1]) G := by kernel_rfl
  exact ACalls_of_awp cxOk (f := resume_proved.n) (fn := Tryd.f26) (c := resume_proved.body) (an := resume_proved.an) Tryd.func26 (by kernel_rfl) (by kernel_rfl) (by kernel_rfl) (drawsOk_of (by kernel_rfl) (by kernel_rfl)) (by simp [Tryd.f26]) (e ▸ h)

/-! #### escrow/resume.judged -/
def resume_judged.S (a0 a1 a2 : AVal) (G : Heap) (Q : AVal → Heap → Prop) : Prop :=
  aNew G (.own (a0)) fun i1 G2 => aNew G2 (.own (a1)) fun i3 G4 => aNew G4 (.own (a2)) fun i5 G6 => wv (vload T G6 t_int (.ptr i5 [0] 0)) fun v7 => wv (vbin T .neq t_int v7 (.int .i64 6)) fun v8 => brB (some v8)
  (Q (.int .i64 160) G6)
  (wv (vload T G6 t_api_Config (.ptr i1 [] 0)) fun v9 => wv (vload T G6 t_api_Message (.ptr i5 [] 0)) fun v10 => ACalls P resume_proved.n [v9, v10] G6 fun v11 G12 => wv (vun .not v11) fun v13 => brB (some v13)
  (Q (.int .i64 100) G12)
  (wv (vload T G12 t_int64 (.ptr i5 [4] 4)) fun v14 => wv (vload T G12 t_int64 (.ptr i3 [6] 6)) fun v15 => wv (vbin T .gtr t_int64 v14 v15) fun v16 => brB (some v16)
  (Q (.int .i64 180) G12)
  (let J42 : AVal → Heap → Prop := (fun x27 G26 => brB (some x27)
  (Q (.int .i64 90) G26)
  (wv (vload T G26 t_int64 (.ptr i5 [3] 3)) fun v28 => wv (vload T G26 t_int64 (.ptr i3 [7] 7)) fun v29 => wv (vbin T .add t_int64 v29 (.int .i64 1)) fun v30 => wv (vbin T .neq t_int64 v28 v30) fun v31 => brB (some v31)
  (wv (vload T G26 t_int64 (.ptr i5 [3] 3)) fun v32 => wv (vload T G26 t_int64 (.ptr i3 [7] 7)) fun v33 => wv (vbin T .neq t_int64 v32 v33) fun v34 => brB (some v34)
  (Q (.int .i64 90) G26)
  (wv (vload T G26 t_int64 (.ptr i3 [7] 7)) fun v35 => wv (vload T G26 t_int64 (.ptr i3 [8] 8)) fun v36 => wv (vbin T .add t_int64 v36 (.int .i64 1)) fun v37 => wv (vbin T .neq t_int64 v35 v37) fun v38 => brB (some v38)
  (Q (.int .i64 90) G26)
  (Q (.int .i64 0) G26)))
  (Q (.int .i64 0) G26)));
  wv (vload T G12 t_int64 (.ptr i5 [4] 4)) fun v17 => wv (vbin T .lss t_int64 v17 (.int .i64 0)) fun v18 => brB (some v18)
  (J42 (.bool true) G12)
  (wv (vload T G12 t_int64 (.ptr i5 [4] 4)) fun v19 => wv (vload T G12 t_int64 (.ptr i3 [6] 6)) fun v20 => wv (vbin T .neq t_int64 v19 v20) fun v21 => brB (some v21)
  (wv (vload T G12 t_int64 (.ptr i5 [4] 4)) fun v22 => wv (vload T G12 t_int64 (.ptr i3 [6] 6)) fun v23 => wv (vbin T .sub t_int64 v23 (.int .i64 1)) fun v24 => wv (vbin T .neq t_int64 v22 v24) fun v25 => J42 v25 G12)
  (J42 (.bool false) G12)))))
def resume_judged.an : Ann := .nil
set_option maxRecDepth 100000 in
theorem resume_judged.sound {a0 a1 a2 : AVal} {G : Heap} {Q : AVal → Heap → Prop} (h : resume_judged.S a0 a1 a2 G Q) : ACalls P resume_judged.n [a0, a1, a2] G Q := by
  have e : resume_judged.S a0 a1 a2 G Q = awp cx (resume_judged.body) resume_judged.an (bodyQ T [.tmp 6] Q) (envL [a0, a1, a2]) G := by kernel_rfl
  exact ACalls_of_awp cxOk (f := resume_judged.n) (fn := Tryd.f14) (c := resume_judged.body) (an := resume_judged.an) Tryd.func14 (by kernel_rfl) (by kernel_rfl) (by kernel_rfl) (drawsOk_of (by kernel_rfl) (by kernel_rfl)) (by simp [Tryd.f14]) (e ▸ h)

/-! #### escrow/msg.Of -/
def msg_Of.S (a0 : AVal) (G : Heap) (Q : AVal → Heap → Prop) : Prop :=
  aNew G (.own (a0)) fun i1 G2 => aNew G2 (.own (z_api_Message)) fun i3 G4 => wv (vload T G4 t_int (.ptr i1 [0] 0)) fun v5 => wv (vload T G4 t_int64 (.ptr i1 [1] 1)) fun v6 => wv (vload T G4 t_int64 (.ptr i1 [2] 2)) fun v7 => wv (vload T G4 t_api_Hash (.ptr i1 [3] 3)) fun v8 => wv (vload T G4 t_string (.ptr i1 [4] 35)) fun v9 => wv (vbuild T t_api_Message [(0, v5), (1, v6), (2, v7), (5, v8), (7, v9)]) fun v10 => wg (vstore T G4 t_api_Message (.ptr i3 [] 0) v10) fun G11 => wv (vload T G11 t_api_Message (.ptr i3 [] 0)) fun v12 => Q v12 G11
def msg_Of.an : Ann := .nil
set_option maxRecDepth 100000 in
theorem msg_Of.sound {a0 : AVal} {G : Heap} {Q : AVal → Heap → Prop} (h : msg_Of.S a0 G Q) : ACalls P msg_Of.n [a0] G Q := by
  have e : msg_Of.S a0 G Q = awp cx (msg_Of.body) msg_Of.an (bodyQ T [.cell 2 34] Q) (envL [a0]) G := by kernel_rfl
  exact ACalls_of_awp cxOk (f := msg_Of.n) (fn := Tryd.f16) (c := msg_Of.body) (an := msg_Of.an) Tryd.func16 (by kernel_rfl) (by kernel_rfl) (by kernel_rfl) (drawsOk_of (by kernel_rfl) (by kernel_rfl)) (by simp [Tryd.f16]) (e ▸ h)

/-! #### escrow/resume.Answer$1 -/
def resume_Answer_1.S (a0 a1 a2 a3 : AVal) (G : Heap) (Q : AVal → Heap → Prop) : Prop :=
  wv (vmax2 a0 (.int .i64 0)) fun v1 => ∀ R2 : List AVal → Heap → Prop,
  (∀ (x4 x5 x6 x7 : AVal) (G3 : Heap), (wv (vfaddr T t_api_State x5 4) fun v8 => wv (vload T G3 t_sl_api_Update v8) fun v9 => wv (vlen T G3 t_sl_api_Update v9) fun v10 => wv (vmin2 x4 v10) fun v11 => wv (vbin T .lss t_int x7 v11) fun v12 => brB (some v12)
  (wv (vload T G3 t_sl_api_Message x6) fun v13 => wv (vfaddr T t_api_State x5 4) fun v14 => wv (vload T G3 t_sl_api_Update v14) fun v15 => wv (viaddr T t_sl_api_Update v15 x7) fun v16 => wv (vload T G3 t_api_Update v16) fun v17 => ACalls P msg_Of.n [v17] G3 fun v18 G19 => (vload T G19 t_sl_api_Message x6 = some v13 ∧ True) ∧ (aBuildSlice T t_sl_api_Message 1 [(0, v18)] G19 fun v20 G21 => aAppend T G21 t_sl_api_Message t_sl_api_Message v13 v20 fun v22 G23 => wg (vstore T G23 t_sl_api_Message x6 v22) fun G24 => wv (vbin T .add t_int x7 (.int .i64 1)) fun v25 => R2 [x4, x5, x6, v25] G24))
  (Q (.tuple []) G3)) → R2 [x4, x5, x6, x7] G3) →
  R2 [a1, a2, a3, v1] G
def resume_Answer_1.an : Ann := .two (.nil) (.loop [1, 2, 3, 6] (.two (.nil) (.two (.ord [(0, []), (1, []), (2, []), (3, []), (4, []), (5, []), (6, [0]), (7, []), (8, []), (9, [])]) (.nil))))
set_option maxRecDepth 100000 in
theorem resume_Answer_1.sound {a0 a1 a2 a3 : AVal} {G : Heap} {Q : AVal → Heap → Prop} (h : resume_Answer_1.S a0 a1 a2 a3 G Q) : ACalls P resume_Answer_1.n [a0, a1, a2, a3] G Q := by
  have e : resume_Answer_1.S a0 a1 a2 a3 G Q = awp cx (resume_Answer_1.body) resume_Answer_1.an (bodyQ T [] Q) (envL [a0, a1, a2, a3]) G := by kernel_rfl
  exact ACalls_of_awp cxOk (f := resume_Answer_1.n) (fn := Tryd.f15) (c := resume_Answer_1.body) (an := resume_Answer_1.an) Tryd.func15 (by kernel_rfl) (by kernel_rfl) (by kernel_rfl) (drawsOk_of (by kernel_rfl) (by kernel_rfl)) (by simp [Tryd.f15]) (e ▸ h)

/-! #### escrow/dance.Reveal -/
def dance_Reveal.S (a0 a1 : AVal) (G : Heap) (Q : AVal → Heap → Prop) : Prop :=
  aNew G (.own (a0)) fun i1 G2 => aNew G2 (.own (z_api_Message)) fun i3 G4 => let J36 : AVal → Heap → Prop := (fun x8 G7 => brB (some x8)
  (wv (vbuild T t_api_Message []) fun v9 => wg (vstore T G7 t_api_Message (.ptr i3 [] 0) v9) fun G10 => wv (vload T G10 t_api_Message (.ptr i3 [] 0)) fun v11 => Q v11 G10)
  (wv (vload T G7 t_api_Hash (.ptr i1 [3] 3)) fun v12 => ACalls P seed_Secret.n [v12, a1] G7 fun v13 G14 => wv (vextract v13 0) fun v15 => wv (vextract v13 1) fun v16 => aNew G14 (.own (z_api_Hash)) fun i17 G18 => wg (vstore T G18 t_api_Hash (.ptr i17 [] 0) v15) fun G19 => wv (vload T G19 t_api_Hash (.ptr i1 [3] 3)) fun v20 => wv (vbin T .add t_int64 a1 (.int .i64 2)) fun v21 => ACalls P seed_Secret.n [v20, v21] G19 fun v22 G23 => wv (vextract v22 0) fun v24 => wv (vextract v22 1) fun v25 => aNew G23 (.own (z_api_Hash)) fun i26 G27 => wg (vstore T G27 t_api_Hash (.ptr i26 [] 0) v24) fun G28 => wv (vload T G28 t_api_Hash (.ptr i17 [] 0)) fun v29 => wv (vload T G28 t_api_Hash (.ptr i26 [] 0)) fun v30 => ACalls P seed_Point.n [v30] G28 fun v31 G32 => (vload T G32 t_api_Hash (.ptr i17 [] 0) = some v29 ∧ True) ∧ (wv (vbuild T t_api_Message [(0, .int .i64 5), (3, a1), (6, v29), (5, v31)]) fun v33 => wg (vstore T G32 t_api_Message (.ptr i3 [] 0) v33) fun G34 => wv (vload T G34 t_api_Message (.ptr i3 [] 0)) fun v35 => Q v35 G34)));
  wv (vbin T .lss t_int64 a1 (.int .i64 0)) fun v5 => brB (some v5)
  (J36 (.bool true) G4)
  (wv (vbin T .gtr t_int64 a1 (.int .i64 281474976710653)) fun v6 => J36 v6 G4)
def dance_Reveal.an : Ann := .two (.nil) (.two (.nil) (.two (.nil) (.two (.nil) (.two (.ord [(0, []), (1, []), (2, []), (3, [1]), (4, []), (5, [])]) (.nil)))))
set_option maxRecDepth 100000 in
theorem dance_Reveal.sound {a0 a1 : AVal} {G : Heap} {Q : AVal → Heap → Prop} (h : dance_Reveal.S a0 a1 G Q) : ACalls P dance_Reveal.n [a0, a1] G Q := by
  have e : dance_Reveal.S a0 a1 G Q = awp cx (dance_Reveal.body) dance_Reveal.an (bodyQ T [.cell 4 34] Q) (envL [a0, a1]) G := by kernel_rfl
  exact ACalls_of_awp cxOk (f := dance_Reveal.n) (fn := Tryd.f18) (c := dance_Reveal.body) (an := dance_Reveal.an) Tryd.func18 (by kernel_rfl) (by kernel_rfl) (by kernel_rfl) (drawsOk_of (by kernel_rfl) (by kernel_rfl)) (by simp [Tryd.f18]) (e ▸ h)

/-! #### escrow/resume.Answer$2 -/
def resume_Answer_2.S (a0 a1 a2 a3 a4 : AVal) (G : Heap) (Q : AVal → Heap → Prop) : Prop :=
  let J24 : AVal → Heap → Prop := (fun x11 G10 => brB (some x11)
  (wv (vload T G10 t_sl_api_Message a3) fun v12 => wv (vload T G10 t_api_Config a4) fun v13 => wv (vfaddr T t_api_Message a1 4) fun v14 => wv (vload T G10 t_int64 v14) fun v15 => ACalls P dance_Reveal.n [v13, v15] G10 fun v16 G17 => (vload T G17 t_sl_api_Message a3 = some v12 ∧ True) ∧ (aBuildSlice T t_sl_api_Message 1 [(0, v16)] G17 fun v18 G19 => aAppend T G19 t_sl_api_Message t_sl_api_Message v12 v18 fun v20 G21 => wg (vstore T G21 t_sl_api_Message a3 v20) fun G22 => Q (.tuple []) G22))
  (Q (.tuple []) G10));
  wv (vfaddr T t_api_Message a1 4) fun v1 => wv (vload T G t_int64 v1) fun v2 => wv (vfaddr T t_api_State a2 6) fun v3 => wv (vload T G t_int64 v3) fun v4 => wv (vbin T .sub t_int64 v4 (.int .i64 1)) fun v5 => wv (vbin T .eql t_int64 v2 v5) fun v6 => brB (some v6)
  (wv (vfaddr T t_api_State a2 12) fun v7 => wv (vload T G t_bool v7) fun v8 => wv (vbin T .eql t_bool v8 a0) fun v9 => J24 v9 G)
  (J24 (.bool false) G)
def resume_Answer_2.an : Ann := .two (.nil) (.two (.ord [(0, []), (1, []), (2, []), (3, []), (4, [0]), (5, []), (6, []), (7, [])]) (.nil))
set_option maxRecDepth 100000 in
theorem resume_Answer_2.sound {a0 a1 a2 a3 a4 : AVal} {G : Heap} {Q : AVal → Heap → Prop} (h : resume_Answer_2.S a0 a1 a2 a3 a4 G Q) : ACalls P resume_Answer_2.n [a0, a1, a2, a3, a4] G Q := by
  have e : resume_Answer_2.S a0 a1 a2 a3 a4 G Q = awp cx (resume_Answer_2.body) resume_Answer_2.an (bodyQ T [] Q) (envL [a0, a1, a2, a3, a4]) G := by kernel_rfl
  exact ACalls_of_awp cxOk (f := resume_Answer_2.n) (fn := Tryd.f17) (c := resume_Answer_2.body) (an := resume_Answer_2.an) Tryd.func17 (by kernel_rfl) (by kernel_rfl) (by kernel_rfl) (drawsOk_of (by kernel_rfl) (by kernel_rfl)) (by simp [Tryd.f17]) (e ▸ h)

/-! #### escrow/amount.Right -/
def amount_Right.S (a0 : AVal) (G : Heap) (Q : AVal → Heap → Prop) : Prop :=
  wv (vbin T .geq t_int64 a0 (.int .i64 0)) fun v1 => brB (some v1)
  (wv (vbin T .leq t_int64 a0 (.int .i64 1152921504606846976)) fun v2 => Q v2 G)
  (Q (.bool false) G)
def amount_Right.an : Ann := .nil
set_option maxRecDepth 100000 in
theorem amount_Right.sound {a0 : AVal} {G : Heap} {Q : AVal → Heap → Prop} (h : amount_Right.S a0 G Q) : ACalls P amount_Right.n [a0] G Q := by
  have e : amount_Right.S a0 G Q = awp cx (amount_Right.body) amount_Right.an (bodyQ T [.tmp 2] Q) (envL [a0]) G := by kernel_rfl
  exact ACalls_of_awp cxOk (f := amount_Right.n) (fn := Tryd.f77) (c := amount_Right.body) (an := amount_Right.an) Tryd.func77 (by kernel_rfl) (by kernel_rfl) (by kernel_rfl) (drawsOk_of (by kernel_rfl) (by kernel_rfl)) (by simp [Tryd.f77]) (e ▸ h)

/-! #### escrow/amount.Plus -/
def amount_Plus.S (a0 a1 : AVal) (G : Heap) (Q : AVal → Heap → Prop) : Prop :=
  ACalls P amount_Right.n [a0] G fun v1 G2 => wv (vun .not v1) fun v3 => brB (some v3)
  (Q (.tuple [.int .i64 0, .int .i64 80]) G2)
  (ACalls P amount_Right.n [a1] G2 fun v4 G5 => wv (vun .not v4) fun v6 => brB (some v6)
  (Q (.tuple [.int .i64 0, .int .i64 80]) G5)
  (wv (vbin T .add t_int64 a0 a1) fun v7 => ACalls P amount_Right.n [v7] G5 fun v8 G9 => wv (vun .not v8) fun v10 => brB (some v10)
  (Q (.tuple [.int .i64 0, .int .i64 80]) G9)
  (wv (vbin T .add t_int64 a0 a1) fun v14 => Q (.tuple [v14, .int .i64 0]) G9)))
def amount_Plus.an : Ann := .nil
set_option maxRecDepth 100000 in
theorem amount_Plus.sound {a0 a1 : AVal} {G : Heap} {Q : AVal → Heap → Prop} (h : amount_Plus.S a0 a1 G Q) : ACalls P amount_Plus.n [a0, a1] G Q := by
  have e : amount_Plus.S a0 a1 G Q = awp cx (amount_Plus.body) amount_Plus.an (bodyQ T [.tmp 4, .tmp 5] Q) (envL [a0, a1]) G := by kernel_rfl
  exact ACalls_of_awp cxOk (f := amount_Plus.n) (fn := Tryd.f59) (c := amount_Plus.body) (an := amount_Plus.an) Tryd.func59 (by kernel_rfl) (by kernel_rfl) (by kernel_rfl) (drawsOk_of (by kernel_rfl) (by kernel_rfl)) (by simp [Tryd.f59]) (e ▸ h)

/-! #### escrow/amount.Sum -/
def amount_Sum.S (a0 : AVal) (G : Heap) (Q : AVal → Heap → Prop) : Prop :=
  wv (vlen T G t_sl_int64 a0) fun v1 => ∀ R2 : List AVal → Heap → Prop,
  (∀ (x4 x5 x6 x7 : AVal) (G3 : Heap), (wv (vbin T .lss t_int x7 x6) fun v8 => brB (some v8)
  (wv (viaddr T t_sl_int64 x5 x7) fun v9 => wv (vload T G3 t_int64 v9) fun v10 => ACalls P amount_Plus.n [x4, v10] G3 fun v11 G12 => wv (vextract v11 0) fun v13 => wv (vextract v11 1) fun v14 => wv (vbin T .neq t_api_Errno v14 (.int .i64 0)) fun v15 => brB (some v15)
  (Q (.tuple [.int .i64 0, v14]) G12)
  (wv (vbin T .add t_int x7 (.int .i64 1)) fun v16 => R2 [v13, x5, x6, v16] G12))
  (Q (.tuple [x4, .int .i64 0]) G3)) → R2 [x4, x5, x6, x7] G3) →
  R2 [.int .i64 0, a0, v1, .int .i64 0] G
def amount_Sum.an : Ann := .two (.nil) (.two (.nil) (.two (.two (.nil) (.loop [4, 8, 9, 10] (.nil))) (.nil)))
set_option maxRecDepth 100000 in
theorem amount_Sum.sound {a0 : AVal} {G : Heap} {Q : AVal → Heap → Prop} (h : amount_Sum.S a0 G Q) : ACalls P amount_Sum.n [a0] G Q := by
  have e : amount_Sum.S a0 G Q = awp cx (amount_Sum.body) amount_Sum.an (bodyQ T [.tmp 2, .tmp 3] Q) (envL [a0]) G := by kernel_rfl
  exact ACalls_of_awp cxOk (f := amount_Sum.n) (fn := Tryd.f39) (c := amount_Sum.body) (an := amount_Sum.an) Tryd.func39 (by kernel_rfl) (by kernel_rfl) (by kernel_rfl) (drawsOk_of (by kernel_rfl) (by kernel_rfl)) (by simp [Tryd.f39]) (e ▸ h)

/-! #### slices.IndexFunc[[]escrow/api.Update,escrow/api.Update] -/
def slices_IndexFunc_escrow_api_Update_escrow_api_Update.S (a0 a1 : AVal) (G : Heap) (Q : AVal → Heap → Prop) : Prop :=
  wv (vlen T G t_sl_api_Update a0) fun v1 => ∀ R2 : List AVal → Heap → Prop,
  (∀ (x4 x5 x6 x7 : AVal) (G3 : Heap), (wv (vbin T .lss t_int x7 x6) fun v8 => brB (some v8)
  (wv (viaddr T t_sl_api_Update x4 x7) fun v9 => wv (vload T G3 t_api_Update v9) fun v10 => aCallV P x5 [v10] G3 fun v11 G12 => brB (some v11)
  (Q x7 G12)
  (wv (vbin T .add t_int x7 (.int .i64 1)) fun v13 => R2 [x4, x5, x6, v13] G12))
  (Q (.int .i64 (-1)) G3)) → R2 [x4, x5, x6, x7] G3) →
  R2 [a0, a1, v1, .int .i64 0] G
def slices_IndexFunc_escrow_api_Update_escrow_api_Update.an : Ann := .two (.nil) (.two (.two (.nil) (.loop [0, 1, 7, 8] (.nil))) (.nil))
set_option maxRecDepth 100000 in
theorem slices_IndexFunc_escrow_api_Update_escrow_api_Update.sound {a0 a1 : AVal} {G : Heap} {Q : AVal → Heap → Prop} (h : slices_IndexFunc_escrow_api_Update_escrow_api_Update.S a0 a1 G Q) : ACalls P slices_IndexFunc_escrow_api_Update_escrow_api_Update.n [a0, a1] G Q := by
  have e : slices_IndexFunc_escrow_api_Update_escrow_api_Update.S a0 a1 G Q = awp cx (slices_IndexFunc_escrow_api_Update_escrow_api_Update.body) slices_IndexFunc_escrow_api_Update_escrow_api_Update.an (bodyQ T [.tmp 4] Q) (envL [a0, a1]) G := by kernel_rfl
  exact ACalls_of_awp cxOk (f := slices_IndexFunc_escrow_api_Update_escrow_api_Update.n) (fn := Tryd.f60) (c := slices_IndexFunc_escrow_api_Update_escrow_api_Update.body) (an := slices_IndexFunc_escrow_api_Update_escrow_api_Update.an) Tryd.func60 (by kernel_rfl) (by kernel_rfl) (by kernel_rfl) (drawsOk_of (by kernel_rfl) (by kernel_rfl)) (by simp [Tryd.f60]) (e ▸ h)

/-! #### slices.ContainsFunc[[]escrow/api.Update,escrow/api.Update] -/
def slices_ContainsFunc_escrow_api_Update_escrow_api_Update.S (a0 a1 : AVal) (G : Heap) (Q : AVal → Heap → Prop) : Prop :=
  ACalls P slices_IndexFunc_escrow_api_Update_escrow_api_Update.n [a0, a1] G fun v1 G2 => wv (vbin T .geq t_int v1 (.int .i64 0)) fun v3 => Q v3 G2
def slices_ContainsFunc_escrow_api_Update_escrow_api_Update.an : Ann := .nil
set_option maxRecDepth 100000 in
theorem slices_ContainsFunc_escrow_api_Update_escrow_api_Update.sound {a0 a1 : AVal} {G : Heap} {Q : AVal → Heap → Prop} (h : slices_ContainsFunc_escrow_api_Update_escrow_api_Update.S a0 a1 G Q) : ACalls P slices_ContainsFunc_escrow_api_Update_escrow_api_Update.n [a0, a1] G Q := by
  have e : slices_ContainsFunc_escrow_api_Update_escrow_api_Update.S a0 a1 G Q = awp cx (slices_ContainsFunc_escrow_api_Update_escrow_api_Update.body) slices_ContainsFunc_escrow_api_Update_escrow_api_Update.an (bodyQ T [.tmp 4] Q) (envL [a0, a1]) G := by kernel_rfl
  exact ACalls_of_awp cxOk (f := slices_ContainsFunc_escrow_api_Update_escrow_api_Update.n) (fn := Tryd.f40) (c := slices_ContainsFunc_escrow_api_Update_escrow_api_Update.body) (an := slices_ContainsFunc_escrow_api_Update_escrow_api_Update.an) Tryd.func40 (by kernel_rfl) (by kernel_rfl) (by kernel_rfl) (drawsOk_of (by kernel_rfl) (by kernel_rfl)) (by simp [Tryd.f40]) (e ▸ h)

/-! #### escrow/update.Valid -/
def update_Valid.S (a0 : AVal) (G : Heap) (Q : AVal → Heap → Prop) : Prop :=
  aNew G (.own (a0)) fun i1 G2 => let J37 : AVal → Heap → Prop := (fun x8 G7 => brB (some x8)
  (Q (.bool false) G7)
  (wv (vload T G7 t_int (.ptr i1 [0] 0)) fun v9 => wv (vbin T .eql t_int v9 (.int .i64 1)) fun v10 => brB (some v10)
  (wv (vload T G7 t_int64 (.ptr i1 [2] 2)) fun v11 => wv (vbin T .geq t_int64 v11 (.int .i64 1)) fun v12 => brB (some v12)
  (wv (vload T G7 t_int64 (.ptr i1 [2] 2)) fun v13 => wv (vbin T .leq t_int64 v13 (.int .i64 1152921504606846976)) fun v14 => brB (some v14)
  (wv (vload T G7 t_string (.ptr i1 [4] 35)) fun v15 => wv (vbin T .eql t_string v15 (.str [])) fun v16 => Q v16 G7)
  (Q (.bool false) G7))
  (Q (.bool false) G7))
  (wv (vbin T .eql t_int v9 (.int .i64 2)) fun v19 => brB (some v19)
  (wv (vload T G7 t_int64 (.ptr i1 [2] 2)) fun v20 => wv (vbin T .eql t_int64 v20 (.int .i64 0)) fun v21 => brB (some v21)
  (wv (vload T G7 t_string (.ptr i1 [4] 35)) fun v22 => wv (vbin T .eql t_string v22 (.str [])) fun v23 => Q v23 G7)
  (Q (.bool false) G7))
  (wv (vbin T .eql t_int v9 (.int .i64 3)) fun v26 => brB (some v26)
  (wv (vload T G7 t_int64 (.ptr i1 [2] 2)) fun v27 => wv (vbin T .eql t_int64 v27 (.int .i64 0)) fun v28 => brB (some v28)
  (wv (vload T G7 t_api_Hash (.ptr i1 [3] 3)) fun v29 => wv (vbuild T t_api_Hash []) fun v30 => wv (vbin T .eql t_api_Hash v29 v30) fun v31 => brB (some v31)
  (wv (vload T G7 t_string (.ptr i1 [4] 35)) fun v32 => wv (vlen T G7 t_string v32) fun v33 => wv (vbin T .leq t_int v33 (.int .i64 64)) fun v34 => Q v34 G7)
  (Q (.bool false) G7))
  (Q (.bool false) G7))
  (Q (.bool false) G7)))));
  wv (vload T G2 t_int64 (.ptr i1 [1] 1)) fun v3 => wv (vbin T .lss t_int64 v3 (.int .i64 0)) fun v4 => brB (some v4)
  (J37 (.bool true) G2)
  (wv (vload T G2 t_int64 (.ptr i1 [1] 1)) fun v5 => wv (vbin T .geq t_int64 v5 (.int .i64 2048)) fun v6 => J37 v6 G2)
def update_Valid.an : Ann := .nil
set_option maxRecDepth 100000 in
theorem update_Valid.sound {a0 : AVal} {G : Heap} {Q : AVal → Heap → Prop} (h : update_Valid.S a0 G Q) : ACalls P update_Valid.n [a0] G Q := by
  have e : update_Valid.S a0 G Q = awp cx (update_Valid.body) update_Valid.an (bodyQ T [.tmp 2] Q) (envL [a0]) G := by kernel_rfl
  exact ACalls_of_awp cxOk (f := update_Valid.n) (fn := Tryd.f61) (c := update_Valid.body) (an := update_Valid.an) Tryd.func61 (by kernel_rfl) (by kernel_rfl) (by kernel_rfl) (drawsOk_of (by kernel_rfl) (by kernel_rfl)) (by simp [Tryd.f61]) (e ▸ h)

end Go.Esc.M
