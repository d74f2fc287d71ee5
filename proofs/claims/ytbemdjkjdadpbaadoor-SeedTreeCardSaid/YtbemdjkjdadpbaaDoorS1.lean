/- Printed by gen.py (own work): functions of the program YtbemdjkjdadpbaaDoor over trees and the abstract heap. -/
import Derived.Test.YtbemdjkjdadpbaaDoorT
set_option linter.unusedSimpArgs false
set_option linter.unusedVariables false
namespace Go.Esc.M
open Go Go.Esc Go.Proofs

/-! #### escrow/escrowref02.One -/
def escrowref02_One.S (a0 : AVal) (G : Heap) (Q : AVal → Heap → Prop) : Prop :=
  aNew G (.own (z_api_Hash)) fun i1 G2 => ACalls P escrowref02_padded.n [a0] G2 fun v3 G4 => wv (vbuild T t_ar8_uint32 [(0, .int .u32 1779033703), (1, .int .u32 3144134277), (2, .int .u32 1013904242), (3, .int .u32 2773480762), (4, .int .u32 1359893119), (5, .int .u32 2600822924), (6, .int .u32 528734635), (7, .int .u32 1541459225)]) fun v5 => aNew G4 (.own (z_ar8_uint32)) fun i6 G7 => wg (vstore T G7 t_ar8_uint32 (.ptr i6 [] 0) v5) fun G8 => ∀ R9 : List AVal → Heap → Prop,
  (∀ (x11 x12 x13 x14 : AVal) (G10 : Heap), (wv (vlen T G10 t_sl_uint8 x12) fun v15 => wv (vbin T .lss t_int x14 v15) fun v16 => brB (some v16)
  (wv (vload T G10 t_ar8_uint32 x13) fun v17 => ACalls P escrowref02_block.n [v17, x12, x14] G10 fun v18 G19 => wg (vstore T G19 t_ar8_uint32 x13 v18) fun G20 => wv (vbin T .add t_int x14 (.int .i64 64)) fun v21 => R9 [x11, x12, x13, v21] G20)
  (aNew G10 (.own (z_api_Hash)) fun i22 G23 => ∀ R24 : List AVal → Heap → Prop,
  (∀ (x26 x27 x28 x29 : AVal) (G25 : Heap), (wv (vbin T .lss t_int x29 (.int .i64 32)) fun v30 => brB (some v30)
  (wv (vbin T .quo t_int x29 (.int .i64 4)) fun v31 => wv (viaddr T t_ar8_uint32 x27 v31) fun v32 => wv (vload T G25 t_uint32 v32) fun v33 => wv (vbin T .rem t_int x29 (.int .i64 4)) fun v34 => wv (vbin T .mul t_int (.int .i64 8) v34) fun v35 => wv (vbin T .sub t_int (.int .i64 24) v35) fun v36 => wv (vbin T .shr t_uint32 v33 v36) fun v37 => wv (vconv T G25 t_uint32 t_uint8 v37) fun v38 => wv (viaddr T t_api_Hash x28 x29) fun v39 => wg (vstore T G25 t_uint8 v39 v38) fun G40 => wv (vbin T .add t_int x29 (.int .i64 1)) fun v41 => R24 [x26, x27, x28, v41] G40)
  (wv (vload T G25 t_api_Hash x28) fun v42 => wg (vstore T G25 t_api_Hash x26 v42) fun G43 => wv (vload T G43 t_api_Hash x26) fun v44 => Q v44 G43)) → R24 [x26, x27, x28, x29] G25) →
  R24 [x11, x13, .ptr i22 [] 0, .int .i64 0] G23)) → R9 [x11, x12, x13, x14] G10) →
  R9 [.ptr i1 [] 0, v3, .ptr i6 [] 0, .int .i64 0] G8
def escrowref02_One.an : Ann := .two (.nil) (.two (.nil) (.two (.nil) (.two (.two (.nil) (.loop [2, 3, 4, 5] (.nil))) (.two (.nil) (.two (.two (.nil) (.loop [2, 4, 6, 7] (.nil))) (.nil))))))
set_option maxRecDepth 100000 in
theorem escrowref02_One.sound {a0 : AVal} {G : Heap} {Q : AVal → Heap → Prop} (h : escrowref02_One.S a0 G Q) : ACalls P escrowref02_One.n [a0] G Q := by
  have e : escrowref02_One.S a0 G Q = awp cx (escrowref02_One.body) escrowref02_One.an (bodyQ T [.cell 2 23] Q) (envL [a0]) G := by kernel_rfl
  exact ACalls_of_awp cxOk (f := escrowref02_One.n) (fn := Tryd.f34) (c := escrowref02_One.body) (an := escrowref02_One.an) Tryd.func34 (by kernel_rfl) (by kernel_rfl) (by kernel_rfl) (drawsOk_of (by kernel_rfl) (by kernel_rfl)) (by simp [Tryd.f34]) (e ▸ h)

/-! #### escrow/escrowref02.Sum -/
def escrowref02_Sum.S (a0 : AVal) (G : Heap) (Q : AVal → Heap → Prop) : Prop :=
  aNew G (.own (z_api_Hash)) fun i1 G2 => ∀ R3 : List AVal → Heap → Prop,
  (∀ (x5 x6 x7 x8 : AVal) (G4 : Heap), (wv (vlen T G4 t_sl_string x5) fun v9 => wv (vbin T .lss t_int x8 v9) fun v10 => brB (some v10)
  (wv (viaddr T t_sl_string x5 x8) fun v11 => wv (vload T G4 t_string v11) fun v12 => wv (vbin T .add t_string x7 v12) fun v13 => wv (vbin T .add t_int x8 (.int .i64 1)) fun v14 => R3 [x5, x6, v13, v14] G4)
  (ACalls P escrowref02_One.n [x7] G4 fun v15 G16 => wg (vstore T G16 t_api_Hash x6 v15) fun G17 => wv (vload T G17 t_api_Hash x6) fun v18 => Q v18 G17)) → R3 [x5, x6, x7, x8] G4) →
  R3 [a0, .ptr i1 [] 0, .str [], .int .i64 0] G2
def escrowref02_Sum.an : Ann := .two (.nil) (.two (.nil) (.two (.two (.nil) (.loop [0, 2, 3, 4] (.nil))) (.nil)))
set_option maxRecDepth 100000 in
theorem escrowref02_Sum.sound {a0 : AVal} {G : Heap} {Q : AVal → Heap → Prop} (h : escrowref02_Sum.S a0 G Q) : ACalls P escrowref02_Sum.n [a0] G Q := by
  have e : escrowref02_Sum.S a0 G Q = awp cx (escrowref02_Sum.body) escrowref02_Sum.an (bodyQ T [.cell 2 23] Q) (envL [a0]) G := by kernel_rfl
  exact ACalls_of_awp cxOk (f := escrowref02_Sum.n) (fn := Tryd.f30) (c := escrowref02_Sum.body) (an := escrowref02_Sum.an) Tryd.func30 (by kernel_rfl) (by kernel_rfl) (by kernel_rfl) (drawsOk_of (by kernel_rfl) (by kernel_rfl)) (by simp [Tryd.f30]) (e ▸ h)

/-! #### escrow/escrowref09.Point -/
def escrowref09_Point.S (a0 : AVal) (G : Heap) (Q : AVal → Heap → Prop) : Prop :=
  aNew G (.own (a0)) fun i1 G2 => aNew G2 (.own (z_api_Hash)) fun i3 G4 => wv (vslice T t_api_Hash (.ptr i1 [] 0) none none none) fun v5 => wv (vconv T G4 t_sl_uint8 t_string v5) fun v6 => aBuildSlice T t_sl_string 1 [(0, v6)] G4 fun v7 G8 => ACalls P escrowref02_Sum.n [v7] G8 fun v9 G10 => wg (vstore T G10 t_api_Hash (.ptr i3 [] 0) v9) fun G11 => wv (vload T G11 t_api_Hash (.ptr i3 [] 0)) fun v12 => Q v12 G11
def escrowref09_Point.an : Ann := .nil
set_option maxRecDepth 100000 in
theorem escrowref09_Point.sound {a0 : AVal} {G : Heap} {Q : AVal → Heap → Prop} (h : escrowref09_Point.S a0 G Q) : ACalls P escrowref09_Point.n [a0] G Q := by
  have e : escrowref09_Point.S a0 G Q = awp cx (escrowref09_Point.body) escrowref09_Point.an (bodyQ T [.cell 2 23] Q) (envL [a0]) G := by kernel_rfl
  exact ACalls_of_awp cxOk (f := escrowref09_Point.n) (fn := Tryd.f14) (c := escrowref09_Point.body) (an := escrowref09_Point.an) Tryd.func14 (by kernel_rfl) (by kernel_rfl) (by kernel_rfl) (drawsOk_of (by kernel_rfl) (by kernel_rfl)) (by simp [Tryd.f14]) (e ▸ h)

/-! #### escrow/escrowref09.down -/
def escrowref09_down.S (a0 a1 a2 : AVal) (G : Heap) (Q : AVal → Heap → Prop) : Prop :=
  aNew G (.own (a0)) fun i1 G2 => aNew G2 (.own (a1)) fun i3 G4 => aNew G4 (.own (z_api_Hash)) fun i5 G6 => wv (vbin T .sub t_int a2 (.int .i64 1)) fun v7 => ∀ R8 : List AVal → Heap → Prop,
  (∀ (x10 x11 x12 x13 : AVal) (G9 : Heap), (wv (vbin T .geq t_int x13 (.int .i64 0)) fun v14 => brB (some v14)
  (wv (viaddr T t_ar48_int x11 x13) fun v15 => wv (vload T G9 t_int v15) fun v16 => wv (vbin T .eql t_int v16 (.int .i64 1)) fun v17 => brB (some v17)
  (wv (vbin T .quo t_int x13 (.int .i64 8)) fun v18 => wv (vbin T .quo t_int x13 (.int .i64 8)) fun v19 => wv (viaddr T t_api_Hash x10 v19) fun v20 => wv (vload T G9 t_uint8 v20) fun v21 => wv (vbin T .rem t_int x13 (.int .i64 8)) fun v22 => wv (vconv T G9 t_int t_uint v22) fun v23 => wv (vbin T .shl t_uint8 (.int .u8 1) v23) fun v24 => wv (vbin T .xor t_uint8 v21 v24) fun v25 => wv (viaddr T t_api_Hash x10 v18) fun v26 => wg (vstore T G9 t_uint8 v26 v25) fun G27 => wv (vload T G27 t_api_Hash x10) fun v28 => ACalls P escrowref09_Point.n [v28] G27 fun v29 G30 => wg (vstore T G30 t_api_Hash x10 v29) fun G31 => wv (vbin T .sub t_int x13 (.int .i64 1)) fun v35 => R8 [x10, x11, x12, v35] G31)
  (wv (vbin T .sub t_int x13 (.int .i64 1)) fun v36 => R8 [x10, x11, x12, v36] G9))
  (wv (vload T G9 t_api_Hash x10) fun v37 => wg (vstore T G9 t_api_Hash x12 v37) fun G38 => wv (vload T G38 t_api_Hash x12) fun v39 => Q v39 G38)) → R8 [x10, x11, x12, x13] G9) →
  R8 [.ptr i1 [] 0, .ptr i3 [] 0, .ptr i5 [] 0, v7] G6
def escrowref09_down.an : Ann := .two (.nil) (.two (.two (.nil) (.loop [3, 4, 6, 7] (.nil))) (.nil))
set_option maxRecDepth 100000 in
theorem escrowref09_down.sound {a0 a1 a2 : AVal} {G : Heap} {Q : AVal → Heap → Prop} (h : escrowref09_down.S a0 a1 a2 G Q) : ACalls P escrowref09_down.n [a0, a1, a2] G Q := by
  have e : escrowref09_down.S a0 a1 a2 G Q = awp cx (escrowref09_down.body) escrowref09_down.an (bodyQ T [.cell 6 23] Q) (envL [a0, a1, a2]) G := by kernel_rfl
  exact ACalls_of_awp cxOk (f := escrowref09_down.n) (fn := Tryd.f25) (c := escrowref09_down.body) (an := escrowref09_down.an) Tryd.func25 (by kernel_rfl) (by kernel_rfl) (by kernel_rfl) (drawsOk_of (by kernel_rfl) (by kernel_rfl)) (by simp [Tryd.f25]) (e ▸ h)

/-! #### escrow/escrowref09.Place -/
def escrowref09_Place.S (a0 : AVal) (G : Heap) (Q : AVal → Heap → Prop) : Prop :=
  aNew G (.own (z_ar48_int)) fun i1 G2 => aNew G2 (.own (z_ar48_int)) fun i3 G4 => wv (vbin T .sub t_int64 (.int .i64 281474976710655) a0) fun v5 => ∀ R6 : List AVal → Heap → Prop,
  (∀ (x8 x9 x10 x11 : AVal) (G7 : Heap), (wv (vbin T .lss t_int x11 (.int .i64 48)) fun v12 => brB (some v12)
  (wv (vbin T .rem t_int64 x10 (.int .i64 2)) fun v13 => wv (viaddr T t_ar48_int x9 x11) fun v14 => wg (vstore T G7 t_int v14 v13) fun G15 => wv (vbin T .quo t_int64 x10 (.int .i64 2)) fun v16 => wv (vbin T .add t_int x11 (.int .i64 1)) fun v17 => R6 [x8, x9, v16, v17] G15)
  (wv (vload T G7 t_ar48_int x9) fun v18 => wg (vstore T G7 t_ar48_int x8 v18) fun G19 => wv (vload T G19 t_ar48_int x8) fun v20 => Q v20 G19)) → R6 [x8, x9, x10, x11] G7) →
  R6 [.ptr i1 [] 0, .ptr i3 [] 0, v5, .int .i64 0] G4
def escrowref09_Place.an : Ann := .two (.nil) (.two (.nil) (.two (.nil) (.two (.two (.nil) (.loop [2, 3, 4, 5] (.nil))) (.nil))))
set_option maxRecDepth 100000 in
theorem escrowref09_Place.sound {a0 : AVal} {G : Heap} {Q : AVal → Heap → Prop} (h : escrowref09_Place.S a0 G Q) : ACalls P escrowref09_Place.n [a0] G Q := by
  have e : escrowref09_Place.S a0 G Q = awp cx (escrowref09_Place.body) escrowref09_Place.an (bodyQ T [.cell 2 44] Q) (envL [a0]) G := by kernel_rfl
  exact ACalls_of_awp cxOk (f := escrowref09_Place.n) (fn := Tryd.f26) (c := escrowref09_Place.body) (an := escrowref09_Place.an) Tryd.func26 (by kernel_rfl) (by kernel_rfl) (by kernel_rfl) (drawsOk_of (by kernel_rfl) (by kernel_rfl)) (by simp [Tryd.f26]) (e ▸ h)

/-! #### escrow/escrowref09.Secret -/
def escrowref09_Secret.S (a0 a1 : AVal) (G : Heap) (Q : AVal → Heap → Prop) : Prop :=
  aNew G (.own (a0)) fun i1 G2 => aNew G2 (.own (z_api_Hash)) fun i3 G4 => ACalls P escrowref09_good.n [a1] G4 fun v5 G6 => wv (vun .not v5) fun v7 => brB (some v7)
  (wv (vbuild T t_api_Hash []) fun v8 => wg (vstore T G6 t_api_Hash (.ptr i3 [] 0) v8) fun G9 => wv (vload T G9 t_api_Hash (.ptr i3 [] 0)) fun v10 => Q (.tuple [v10, .int .i64 90]) G9)
  (wv (vload T G6 t_api_Hash (.ptr i1 [] 0)) fun v11 => ACalls P escrowref09_Place.n [a1] G6 fun v12 G13 => (vload T G13 t_api_Hash (.ptr i1 [] 0) = some v11 ∧ True) ∧ (ACalls P escrowref09_down.n [v11, v12, .int .i64 48] G13 fun v14 G15 => wg (vstore T G15 t_api_Hash (.ptr i3 [] 0) v14) fun G16 => wv (vload T G16 t_api_Hash (.ptr i3 [] 0)) fun v17 => Q (.tuple [v17, .int .i64 0]) G16))
def escrowref09_Secret.an : Ann := .two (.nil) (.two (.nil) (.two (.ord [(0, []), (1, []), (2, [0]), (3, []), (4, []), (5, [])]) (.nil)))
set_option maxRecDepth 100000 in
theorem escrowref09_Secret.sound {a0 a1 : AVal} {G : Heap} {Q : AVal → Heap → Prop} (h : escrowref09_Secret.S a0 a1 G Q) : ACalls P escrowref09_Secret.n [a0, a1] G Q := by
  have e : escrowref09_Secret.S a0 a1 G Q = awp cx (escrowref09_Secret.body) escrowref09_Secret.an (bodyQ T [.cell 4 23, .tmp 5] Q) (envL [a0, a1]) G := by kernel_rfl
  exact ACalls_of_awp cxOk (f := escrowref09_Secret.n) (fn := Tryd.f10) (c := escrowref09_Secret.body) (an := escrowref09_Secret.an) Tryd.func10 (by kernel_rfl) (by kernel_rfl) (by kernel_rfl) (drawsOk_of (by kernel_rfl) (by kernel_rfl)) (by simp [Tryd.f10]) (e ▸ h)

/-! #### escrow/escrowref09.level -/
def escrowref09_level.S (a0 : AVal) (G : Heap) (Q : AVal → Heap → Prop) : Prop :=
  aNew G (.own (a0)) fun i1 G2 => ∀ R3 : List AVal → Heap → Prop,
  (∀ (x5 x6 : AVal) (G4 : Heap), (wv (vbin T .lss t_int x6 (.int .i64 48)) fun v7 => brB (some v7)
  (wv (viaddr T t_ar48_int x5 x6) fun v8 => wv (vload T G4 t_int v8) fun v9 => wv (vbin T .eql t_int v9 (.int .i64 1)) fun v10 => brB (some v10)
  (Q x6 G4)
  (wv (vbin T .add t_int x6 (.int .i64 1)) fun v11 => R3 [x5, v11] G4))
  (Q (.int .i64 48) G4)) → R3 [x5, x6] G4) →
  R3 [.ptr i1 [] 0, .int .i64 0] G2
def escrowref09_level.an : Ann := .two (.nil) (.two (.two (.nil) (.loop [1, 3] (.nil))) (.nil))
set_option maxRecDepth 100000 in
theorem escrowref09_level.sound {a0 : AVal} {G : Heap} {Q : AVal → Heap → Prop} (h : escrowref09_level.S a0 G Q) : ACalls P escrowref09_level.n [a0] G Q := by
  have e : escrowref09_level.S a0 G Q = awp cx (escrowref09_level.body) escrowref09_level.an (bodyQ T [.tmp 2] Q) (envL [a0]) G := by kernel_rfl
  exact ACalls_of_awp cxOk (f := escrowref09_level.n) (fn := Tryd.f28) (c := escrowref09_level.body) (an := escrowref09_level.an) Tryd.func28 (by kernel_rfl) (by kernel_rfl) (by kernel_rfl) (drawsOk_of (by kernel_rfl) (by kernel_rfl)) (by simp [Tryd.f28]) (e ▸ h)

/-! #### escrow/escrowref09.Level -/
def escrowref09_Level.S (a0 : AVal) (G : Heap) (Q : AVal → Heap → Prop) : Prop :=
  ACalls P escrowref09_good.n [a0] G fun v1 G2 => wv (vun .not v1) fun v3 => brB (some v3)
  (Q (.tuple [.int .i64 0, .int .i64 90]) G2)
  (ACalls P escrowref09_Place.n [a0] G2 fun v4 G5 => ACalls P escrowref09_level.n [v4] G5 fun v6 G7 => Q (.tuple [v6, .int .i64 0]) G7)
def escrowref09_Level.an : Ann := .nil
set_option maxRecDepth 100000 in
theorem escrowref09_Level.sound {a0 : AVal} {G : Heap} {Q : AVal → Heap → Prop} (h : escrowref09_Level.S a0 G Q) : ACalls P escrowref09_Level.n [a0] G Q := by
  have e : escrowref09_Level.S a0 G Q = awp cx (escrowref09_Level.body) escrowref09_Level.an (bodyQ T [.tmp 2, .tmp 3] Q) (envL [a0]) G := by kernel_rfl
  exact ACalls_of_awp cxOk (f := escrowref09_Level.n) (fn := Tryd.f12) (c := escrowref09_Level.body) (an := escrowref09_Level.an) Tryd.func12 (by kernel_rfl) (by kernel_rfl) (by kernel_rfl) (drawsOk_of (by kernel_rfl) (by kernel_rfl)) (by simp [Tryd.f12]) (e ▸ h)

/-! #### escrow/escrowlaw09.SeedSecrets -/
def escrowlaw09_SeedSecrets.S (a0 a1 : AVal) (G : Heap) (Q : AVal → Heap → Prop) : Prop :=
  aNew G (.own (a0)) fun i1 G2 => ACalls P escrowlaw09_head.n [] G2 fun v3 G4 => wv (vun .not v3) fun v5 => brB (some v5)
  (Q (.bool false) G4)
  (wv (vload T G4 t_api_Hash (.ptr i1 [] 0)) fun v6 => ACalls P seed_Secret.n [v6, a1] G4 fun v7 G8 => wv (vextract v7 0) fun v9 => wv (vextract v7 1) fun v10 => aNew G8 (.own (z_api_Hash)) fun i11 G12 => wg (vstore T G12 t_api_Hash (.ptr i11 [] 0) v9) fun G13 => wv (vload T G13 t_api_Hash (.ptr i1 [] 0)) fun v14 => ACalls P escrowref09_Secret.n [v14, a1] G13 fun v15 G16 => wv (vextract v15 0) fun v17 => wv (vextract v15 1) fun v18 => aNew G16 (.own (z_api_Hash)) fun i19 G20 => wg (vstore T G20 t_api_Hash (.ptr i19 [] 0) v17) fun G21 => ACalls P seed_Level.n [a1] G21 fun v22 G23 => wv (vextract v22 0) fun v24 => wv (vextract v22 1) fun v25 => ACalls P escrowref09_Level.n [a1] G23 fun v26 G27 => wv (vextract v26 0) fun v28 => wv (vextract v26 1) fun v29 => wv (vload T G27 t_api_Hash (.ptr i11 [] 0)) fun v30 => wv (vload T G27 t_api_Hash (.ptr i19 [] 0)) fun v31 => wv (vbin T .eql t_api_Hash v30 v31) fun v32 => brB (some v32)
  (wv (vbin T .eql t_api_Errno v10 v18) fun v33 => brB (some v33)
  (wv (vbin T .eql t_int v24 v28) fun v34 => brB (some v34)
  (wv (vbin T .eql t_api_Errno v25 v29) fun v35 => brB (some v35)
  (wv (vload T G27 t_api_Hash (.ptr i1 [] 0)) fun v36 => wv (vload T G27 t_api_Hash (.ptr i1 [] 0)) fun v37 => ACalls P seed_Point.n [v36] G27 fun v38 G39 => (vload T G39 t_api_Hash (.ptr i1 [] 0) = some v37 ∧ True) ∧ (ACalls P escrowref09_Point.n [v37] G39 fun v40 G41 => wv (vbin T .eql t_api_Hash v38 v40) fun v42 => Q v42 G41))
  (Q (.bool false) G27))
  (Q (.bool false) G27))
  (Q (.bool false) G27))
  (Q (.bool false) G27))
def escrowlaw09_SeedSecrets.an : Ann := .two (.nil) (.two (.nil) (.two (.nil) (.two (.nil) (.two (.nil) (.two (.nil) (.two (.ord [(0, []), (1, []), (2, []), (3, []), (4, []), (5, []), (6, []), (7, []), (8, []), (9, []), (10, []), (11, []), (12, []), (13, []), (14, []), (15, []), (16, []), (17, []), (18, []), (19, []), (21, []), (20, [21]), (22, []), (23, []), (24, []), (25, [])]) (.nil)))))))
set_option maxRecDepth 100000 in
theorem escrowlaw09_SeedSecrets.sound {a0 a1 : AVal} {G : Heap} {Q : AVal → Heap → Prop} (h : escrowlaw09_SeedSecrets.S a0 a1 G Q) : ACalls P escrowlaw09_SeedSecrets.n [a0, a1] G Q := by
  have e : escrowlaw09_SeedSecrets.S a0 a1 G Q = awp cx (escrowlaw09_SeedSecrets.body) escrowlaw09_SeedSecrets.an (bodyQ T [.tmp 4] Q) (envL [a0, a1]) G := by kernel_rfl
  exact ACalls_of_awp cxOk (f := escrowlaw09_SeedSecrets.n) (fn := Tryd.f3) (c := escrowlaw09_SeedSecrets.body) (an := escrowlaw09_SeedSecrets.an) Tryd.func3 (by kernel_rfl) (by kernel_rfl) (by kernel_rfl) (drawsOk_of (by kernel_rfl) (by kernel_rfl)) (by simp [Tryd.f3]) (e ▸ h)

/-! #### escrow/escrowref09.Derive -/
def escrowref09_Derive.S (a0 a1 a2 : AVal) (G : Heap) (Q : AVal → Heap → Prop) : Prop :=
  aNew G (.own (a0)) fun i1 G2 => aNew G2 (.own (z_api_Hash)) fun i3 G4 => let J53 : AVal → Heap → Prop := (fun x12 G11 => brB (some x12)
  (wv (vbuild T t_api_Hash []) fun v13 => wg (vstore T G11 t_api_Hash (.ptr i3 [] 0) v13) fun G14 => wv (vload T G14 t_api_Hash (.ptr i3 [] 0)) fun v15 => Q (.tuple [v15, .int .i64 90]) G14)
  (ACalls P escrowref09_Place.n [a1] G11 fun v16 G17 => aNew G17 (.own (z_ar48_int)) fun i18 G19 => wg (vstore T G19 t_ar48_int (.ptr i18 [] 0) v16) fun G20 => ACalls P escrowref09_Place.n [a2] G20 fun v21 G22 => aNew G22 (.own (z_ar48_int)) fun i23 G24 => wg (vstore T G24 t_ar48_int (.ptr i23 [] 0) v21) fun G25 => wv (vload T G25 t_ar48_int (.ptr i18 [] 0)) fun v26 => ACalls P escrowref09_level.n [v26] G25 fun v27 G28 => ∀ R29 : List AVal → Heap → Prop,
  (∀ (x31 x32 x33 x34 x35 x36 : AVal) (G30 : Heap), (wv (vbin T .lss t_int x36 (.int .i64 48)) fun v37 => brB (some v37)
  (wv (viaddr T t_ar48_int x33 x36) fun v38 => wv (vload T G30 t_int v38) fun v39 => wv (viaddr T t_ar48_int x34 x36) fun v40 => wv (vload T G30 t_int v40) fun v41 => wv (vbin T .neq t_int v39 v41) fun v42 => brB (some v42)
  (wv (vbuild T t_api_Hash []) fun v43 => wg (vstore T G30 t_api_Hash x32 v43) fun G44 => wv (vload T G44 t_api_Hash x32) fun v45 => Q (.tuple [v45, .int .i64 5]) G44)
  (wv (vbin T .add t_int x36 (.int .i64 1)) fun v46 => R29 [x31, x32, x33, x34, x35, v46] G30))
  (wv (vload T G30 t_api_Hash x31) fun v47 => wv (vload T G30 t_ar48_int x34) fun v48 => ACalls P escrowref09_down.n [v47, v48, x35] G30 fun v49 G50 => wg (vstore T G50 t_api_Hash x32 v49) fun G51 => wv (vload T G51 t_api_Hash x32) fun v52 => Q (.tuple [v52, .int .i64 0]) G51)) → R29 [x31, x32, x33, x34, x35, x36] G30) →
  R29 [.ptr i1 [] 0, .ptr i3 [] 0, .ptr i18 [] 0, .ptr i23 [] 0, v27, v27] G28));
  ACalls P escrowref09_good.n [a1] G4 fun v5 G6 => wv (vun .not v5) fun v7 => brB (some v7)
  (J53 (.bool true) G6)
  (ACalls P escrowref09_good.n [a2] G6 fun v8 G9 => wv (vun .not v8) fun v10 => J53 v10 G9)
def escrowref09_Derive.an : Ann := .two (.nil) (.two (.nil) (.two (.nil) (.two (.nil) (.two (.nil) (.two (.two (.nil) (.loop [3, 6, 8, 9, 10, 11] (.two (.nil) (.two (.two (.ord [(0, []), (1, []), (2, []), (3, []), (4, []), (5, []), (6, [])]) (.nil)) (.nil))))) (.nil))))))
set_option maxRecDepth 100000 in
theorem escrowref09_Derive.sound {a0 a1 a2 : AVal} {G : Heap} {Q : AVal → Heap → Prop} (h : escrowref09_Derive.S a0 a1 a2 G Q) : ACalls P escrowref09_Derive.n [a0, a1, a2] G Q := by
  have e : escrowref09_Derive.S a0 a1 a2 G Q = awp cx (escrowref09_Derive.body) escrowref09_Derive.an (bodyQ T [.cell 6 23, .tmp 7] Q) (envL [a0, a1, a2]) G := by kernel_rfl
  exact ACalls_of_awp cxOk (f := escrowref09_Derive.n) (fn := Tryd.f16) (c := escrowref09_Derive.body) (an := escrowref09_Derive.an) Tryd.func16 (by kernel_rfl) (by kernel_rfl) (by kernel_rfl) (drawsOk_of (by kernel_rfl) (by kernel_rfl)) (by simp [Tryd.f16]) (e ▸ h)

/-! #### escrow/escrowlaw09.SeedDerives -/
def escrowlaw09_SeedDerives.S (a0 a1 a2 : AVal) (G : Heap) (Q : AVal → Heap → Prop) : Prop :=
  aNew G (.own (a0)) fun i1 G2 => ACalls P escrowlaw09_head.n [] G2 fun v3 G4 => wv (vun .not v3) fun v5 => brB (some v5)
  (Q (.bool false) G4)
  (wv (vload T G4 t_api_Hash (.ptr i1 [] 0)) fun v6 => ACalls P seed_Derive.n [v6, a1, a2] G4 fun v7 G8 => wv (vextract v7 0) fun v9 => wv (vextract v7 1) fun v10 => aNew G8 (.own (z_api_Hash)) fun i11 G12 => wg (vstore T G12 t_api_Hash (.ptr i11 [] 0) v9) fun G13 => wv (vload T G13 t_api_Hash (.ptr i1 [] 0)) fun v14 => ACalls P escrowref09_Derive.n [v14, a1, a2] G13 fun v15 G16 => wv (vextract v15 0) fun v17 => wv (vextract v15 1) fun v18 => aNew G16 (.own (z_api_Hash)) fun i19 G20 => wg (vstore T G20 t_api_Hash (.ptr i19 [] 0) v17) fun G21 => wv (vload T G21 t_api_Hash (.ptr i11 [] 0)) fun v22 => wv (vload T G21 t_api_Hash (.ptr i19 [] 0)) fun v23 => wv (vbin T .eql t_api_Hash v22 v23) fun v24 => brB (some v24)
  (wv (vbin T .eql t_api_Errno v10 v18) fun v25 => Q v25 G21)
  (Q (.bool false) G21))
def escrowlaw09_SeedDerives.an : Ann := .nil
set_option maxRecDepth 100000 in
theorem escrowlaw09_SeedDerives.sound {a0 a1 a2 : AVal} {G : Heap} {Q : AVal → Heap → Prop} (h : escrowlaw09_SeedDerives.S a0 a1 a2 G Q) : ACalls P escrowlaw09_SeedDerives.n [a0, a1, a2] G Q := by
  have e : escrowlaw09_SeedDerives.S a0 a1 a2 G Q = awp cx (escrowlaw09_SeedDerives.body) escrowlaw09_SeedDerives.an (bodyQ T [.tmp 6] Q) (envL [a0, a1, a2]) G := by kernel_rfl
  exact ACalls_of_awp cxOk (f := escrowlaw09_SeedDerives.n) (fn := Tryd.f4) (c := escrowlaw09_SeedDerives.body) (an := escrowlaw09_SeedDerives.an) Tryd.func4 (by kernel_rfl) (by kernel_rfl) (by kernel_rfl) (drawsOk_of (by kernel_rfl) (by kernel_rfl)) (by simp [Tryd.f4]) (e ▸ h)

/-! #### escrow/escrowlaw09.number -/
def escrowlaw09_number.S (a0 : AVal) (G : Heap) (Q : AVal → Heap → Prop) : Prop :=
  wv (vbin T .and t_int64 a0 (.int .i64 281474976710655)) fun v1 => Q v1 G
def escrowlaw09_number.an : Ann := .nil
set_option maxRecDepth 100000 in
theorem escrowlaw09_number.sound {a0 : AVal} {G : Heap} {Q : AVal → Heap → Prop} (h : escrowlaw09_number.S a0 G Q) : ACalls P escrowlaw09_number.n [a0] G Q := by
  have e : escrowlaw09_number.S a0 G Q = awp cx (escrowlaw09_number.body) escrowlaw09_number.an (bodyQ T [.tmp 2] Q) (envL [a0]) G := by kernel_rfl
  exact ACalls_of_awp cxOk (f := escrowlaw09_number.n) (fn := Tryd.f17) (c := escrowlaw09_number.body) (an := escrowlaw09_number.an) Tryd.func17 (by kernel_rfl) (by kernel_rfl) (by kernel_rfl) (drawsOk_of (by kernel_rfl) (by kernel_rfl)) (by simp [Tryd.f17]) (e ▸ h)

/-! #### escrow/escrowlaw09.hangs -/
def escrowlaw09_hangs.S (a0 a1 : AVal) (G : Heap) (Q : AVal → Heap → Prop) : Prop :=
  wv (vbin T .sub t_int64 (.int .i64 281474976710655) a0) fun v1 => let J28 : AVal → AVal → AVal → Heap → Prop := (fun x18 x19 x20 G17 => wv (vbin T .leq t_int64 x19 x18) fun v21 => brB (some v21)
  (wv (vbin T .sub t_int64 x18 x19) fun v22 => wv (vconv T G17 t_int t_uint x20) fun v23 => wv (vbin T .shl t_int64 (.int .i64 1) v23) fun v24 => wv (vbin T .lss t_int64 v22 v24) fun v25 => Q v25 G17)
  (Q (.bool false) G17));
  ∀ R2 : List AVal → Heap → Prop,
  (∀ (x4 x5 x6 x7 : AVal) (G3 : Heap), (wv (vbin T .lss t_int x6 (.int .i64 48)) fun v8 => brB (some v8)
  (wv (vbin T .rem t_int64 x7 (.int .i64 2)) fun v9 => wv (vbin T .eql t_int64 v9 (.int .i64 0)) fun v10 => brB (some v10)
  (wv (vbin T .quo t_int64 x7 (.int .i64 2)) fun v15 => wv (vbin T .add t_int x6 (.int .i64 1)) fun v16 => R2 [x4, x5, v16, v15] G3)
  (J28 x4 x5 x6 G3))
  (J28 x4 x5 x6 G3)) → R2 [x4, x5, x6, x7] G3) →
  R2 [a0, a1, .int .i64 0, v1] G
def escrowlaw09_hangs.an : Ann := .two (.nil) (.two (.nil) (.two (.nil) (.two (.loop [0, 1, 5, 6] (.nil)) (.nil))))
set_option maxRecDepth 100000 in
theorem escrowlaw09_hangs.sound {a0 a1 : AVal} {G : Heap} {Q : AVal → Heap → Prop} (h : escrowlaw09_hangs.S a0 a1 G Q) : ACalls P escrowlaw09_hangs.n [a0, a1] G Q := by
  have e : escrowlaw09_hangs.S a0 a1 G Q = awp cx (escrowlaw09_hangs.body) escrowlaw09_hangs.an (bodyQ T [.tmp 4] Q) (envL [a0, a1]) G := by kernel_rfl
  exact ACalls_of_awp cxOk (f := escrowlaw09_hangs.n) (fn := Tryd.f18) (c := escrowlaw09_hangs.body) (an := escrowlaw09_hangs.an) Tryd.func18 (by kernel_rfl) (by kernel_rfl) (by kernel_rfl) (drawsOk_of (by kernel_rfl) (by kernel_rfl)) (by simp [Tryd.f18]) (e ▸ h)

/-! #### escrow/escrowlaw09.SeedTree -/
def escrowlaw09_SeedTree.S (a0 a1 a2 : AVal) (G : Heap) (Q : AVal → Heap → Prop) : Prop :=
  aNew G (.own (a0)) fun i1 G2 => ACalls P escrowlaw09_head.n [] G2 fun v3 G4 => wv (vun .not v3) fun v5 => brB (some v5)
  (Q (.bool false) G4)
  (ACalls P escrowlaw09_number.n [a1] G4 fun v6 G7 => ACalls P seed_Level.n [v6] G7 fun v8 G9 => wv (vextract v8 0) fun v10 => wv (vextract v8 1) fun v11 => let J100 : AVal → Heap → Prop := (fun x16 G15 => brB (some x16)
  (Q (.bool false) G15)
  (wv (vconv T G15 t_int t_uint v10) fun v17 => wv (vbin T .shl t_int64 (.int .i64 1) v17) fun v18 => wv (vbin T .sub t_int64 v18 (.int .i64 1)) fun v19 => wv (vbin T .and t_int64 a2 v19) fun v20 => wv (vbin T .sub t_int64 v6 v20) fun v21 => ACalls P escrowlaw09_number.n [a2] G15 fun v22 G23 => wv (vbin T .sub t_int64 v6 a2) fun v24 => ACalls P escrowlaw09_number.n [v24] G23 fun v25 G26 => wv (vbin T .add t_int64 v6 (.int .i64 1)) fun v27 => ACalls P escrowlaw09_number.n [v27] G26 fun v28 G29 => wv (vbuild T t_ar4_int64 [(0, v21), (1, v22), (2, v25), (3, v28)]) fun v30 => aNew G29 (.own (z_ar4_int64)) fun i31 G32 => wg (vstore T G32 t_ar4_int64 (.ptr i31 [] 0) v30) fun G33 => wv (vload T G33 t_api_Hash (.ptr i1 [] 0)) fun v34 => ACalls P seed_Secret.n [v34, v6] G33 fun v35 G36 => wv (vextract v35 0) fun v37 => wv (vextract v35 1) fun v38 => aNew G36 (.own (z_api_Hash)) fun i39 G40 => wg (vstore T G40 t_api_Hash (.ptr i39 [] 0) v37) fun G41 => let J99 : AVal → Heap → Prop := (fun x48 G47 => brB (some x48)
  (Q (.bool false) G47)
  (∀ R49 : List AVal → Heap → Prop,
  (∀ (x51 x52 x53 x54 x55 : AVal) (G50 : Heap), (wv (vbin T .lss t_int x55 (.int .i64 4)) fun v56 => brB (some v56)
  (wv (vload T G50 t_api_Hash x51) fun v57 => wv (viaddr T t_ar4_int64 x53 x55) fun v58 => wv (vload T G50 t_int64 v58) fun v59 => ACalls P seed_Secret.n [v57, v59] G50 fun v60 G61 => wv (vextract v60 0) fun v62 => wv (vextract v60 1) fun v63 => aNew G61 (.own (z_api_Hash)) fun i64 G65 => wg (vstore T G65 t_api_Hash (.ptr i64 [] 0) v62) fun G66 => wv (vload T G66 t_api_Hash x54) fun v67 => wv (viaddr T t_ar4_int64 x53 x55) fun v68 => wv (vload T G66 t_int64 v68) fun v69 => ACalls P seed_Derive.n [v67, x52, v69] G66 fun v70 G71 => wv (vextract v70 0) fun v72 => wv (vextract v70 1) fun v73 => aNew G71 (.own (z_api_Hash)) fun i74 G75 => wg (vstore T G75 t_api_Hash (.ptr i74 [] 0) v72) fun G76 => wv (vbin T .neq t_api_Errno v63 (.int .i64 0)) fun v77 => brB (some v77)
  (Q (.bool false) G76)
  (wv (viaddr T t_ar4_int64 x53 x55) fun v78 => wv (vload T G76 t_int64 v78) fun v79 => ACalls P escrowlaw09_hangs.n [x52, v79] G76 fun v80 G81 => brB (some v80)
  (wv (vbin T .neq t_api_Errno v73 (.int .i64 0)) fun v82 => brB (some v82)
  (Q (.bool false) G81)
  (wv (vload T G81 t_api_Hash (.ptr i74 [] 0)) fun v83 => wv (vload T G81 t_api_Hash (.ptr i64 [] 0)) fun v84 => wv (vbin T .neq t_api_Hash v83 v84) fun v85 => brB (some v85)
  (Q (.bool false) G81)
  (wv (vbin T .add t_int x55 (.int .i64 1)) fun v97 => R49 [x51, x52, x53, x54, v97] G81)))
  (wv (vbin T .neq t_api_Errno v73 (.int .i64 5)) fun v88 => brB (some v88)
  (Q (.bool false) G81)
  (wv (vload T G81 t_api_Hash (.ptr i74 [] 0)) fun v89 => wv (vbuild T t_api_Hash []) fun v90 => wv (vbin T .neq t_api_Hash v89 v90) fun v91 => brB (some v91)
  (Q (.bool false) G81)
  (wv (vbin T .add t_int x55 (.int .i64 1)) fun v98 => R49 [x51, x52, x53, x54, v98] G81)))))
  (Q (.bool true) G50)) → R49 [x51, x52, x53, x54, x55] G50) →
  R49 [.ptr i1 [] 0, v6, .ptr i31 [] 0, .ptr i39 [] 0, .int .i64 0] G47));
  wv (vbin T .neq t_api_Errno v38 (.int .i64 0)) fun v42 => brB (some v42)
  (J99 (.bool true) G41)
  (wv (vbin T .lss t_int64 v21 (.int .i64 0)) fun v43 => brB (some v43)
  (J99 (.bool true) G41)
  (ACalls P escrowlaw09_hangs.n [v6, v21] G41 fun v44 G45 => wv (vun .not v44) fun v46 => J99 v46 G45))));
  wv (vbin T .neq t_api_Errno v11 (.int .i64 0)) fun v12 => brB (some v12)
  (J100 (.bool true) G9)
  (wv (vbin T .lss t_int v10 (.int .i64 0)) fun v13 => brB (some v13)
  (J100 (.bool true) G9)
  (wv (vbin T .gtr t_int v10 (.int .i64 48)) fun v14 => J100 v14 G9)))
def escrowlaw09_SeedTree.an : Ann := .two (.nil) (.two (.nil) (.two (.nil) (.two (.nil) (.two (.nil) (.two (.nil) (.two (.nil) (.two (.nil) (.two (.nil) (.two (.two (.nil) (.loop [3, 7, 11, 12, 14] (.two (.nil) (.two (.two (.ord [(0, []), (1, []), (2, []), (3, []), (4, []), (5, []), (6, []), (7, []), (8, []), (9, []), (10, [])]) (.two (.ord [(0, []), (1, []), (2, []), (3, []), (4, []), (5, []), (6, []), (7, []), (8, []), (9, []), (10, []), (11, [])]) (.nil))) (.nil))))) (.nil))))))))))
set_option maxRecDepth 100000 in
theorem escrowlaw09_SeedTree.sound {a0 a1 a2 : AVal} {G : Heap} {Q : AVal → Heap → Prop} (h : escrowlaw09_SeedTree.S a0 a1 a2 G Q) : ACalls P escrowlaw09_SeedTree.n [a0, a1, a2] G Q := by
  have e : escrowlaw09_SeedTree.S a0 a1 a2 G Q = awp cx (escrowlaw09_SeedTree.body) escrowlaw09_SeedTree.an (bodyQ T [.tmp 6] Q) (envL [a0, a1, a2]) G := by kernel_rfl
  exact ACalls_of_awp cxOk (f := escrowlaw09_SeedTree.n) (fn := Tryd.f5) (c := escrowlaw09_SeedTree.body) (an := escrowlaw09_SeedTree.an) Tryd.func5 (by kernel_rfl) (by kernel_rfl) (by kernel_rfl) (drawsOk_of (by kernel_rfl) (by kernel_rfl)) (by simp [Tryd.f5]) (e ▸ h)

/-! #### escrow/escrowlaw09.SeedSteps -/
def escrowlaw09_SeedSteps.S (a0 a1 a2 a3 : AVal) (G : Heap) (Q : AVal → Heap → Prop) : Prop :=
  aNew G (.own (a0)) fun i1 G2 => ACalls P escrowlaw09_head.n [] G2 fun v3 G4 => wv (vun .not v3) fun v5 => brB (some v5)
  (Q (.bool false) G4)
  (ACalls P escrowlaw09_number.n [a1] G4 fun v6 G7 => ACalls P seed_Level.n [v6] G7 fun v8 G9 => wv (vextract v8 0) fun v10 => wv (vextract v8 1) fun v11 => let J81 : AVal → Heap → Prop := (fun x16 G15 => brB (some x16)
  (Q (.bool false) G15)
  (wv (vconv T G15 t_int t_uint v10) fun v17 => wv (vbin T .shl t_int64 (.int .i64 1) v17) fun v18 => wv (vbin T .sub t_int64 v18 (.int .i64 1)) fun v19 => wv (vbin T .and t_int64 a2 v19) fun v20 => wv (vbin T .sub t_int64 v6 v20) fun v21 => ACalls P seed_Level.n [v21] G15 fun v22 G23 => wv (vextract v22 0) fun v24 => wv (vextract v22 1) fun v25 => let J80 : AVal → Heap → Prop := (fun x30 G29 => brB (some x30)
  (Q (.bool false) G29)
  (wv (vconv T G29 t_int t_uint v24) fun v31 => wv (vbin T .shl t_int64 (.int .i64 1) v31) fun v32 => wv (vbin T .sub t_int64 v32 (.int .i64 1)) fun v33 => wv (vbin T .and t_int64 a3 v33) fun v34 => wv (vbin T .sub t_int64 v21 v34) fun v35 => wv (vload T G29 t_api_Hash (.ptr i1 [] 0)) fun v36 => ACalls P seed_Derive.n [v36, v6, v21] G29 fun v37 G38 => wv (vextract v37 0) fun v39 => wv (vextract v37 1) fun v40 => aNew G38 (.own (z_api_Hash)) fun i41 G42 => wg (vstore T G42 t_api_Hash (.ptr i41 [] 0) v39) fun G43 => wv (vload T G43 t_api_Hash (.ptr i41 [] 0)) fun v44 => ACalls P seed_Derive.n [v44, v21, v35] G43 fun v45 G46 => wv (vextract v45 0) fun v47 => wv (vextract v45 1) fun v48 => aNew G46 (.own (z_api_Hash)) fun i49 G50 => wg (vstore T G50 t_api_Hash (.ptr i49 [] 0) v47) fun G51 => wv (vload T G51 t_api_Hash (.ptr i1 [] 0)) fun v52 => ACalls P seed_Derive.n [v52, v6, v35] G51 fun v53 G54 => wv (vextract v53 0) fun v55 => wv (vextract v53 1) fun v56 => aNew G54 (.own (z_api_Hash)) fun i57 G58 => wg (vstore T G58 t_api_Hash (.ptr i57 [] 0) v55) fun G59 => wv (vload T G59 t_api_Hash (.ptr i1 [] 0)) fun v60 => ACalls P seed_Derive.n [v60, v6, v6] G59 fun v61 G62 => wv (vextract v61 0) fun v63 => wv (vextract v61 1) fun v64 => aNew G62 (.own (z_api_Hash)) fun i65 G66 => wg (vstore T G66 t_api_Hash (.ptr i65 [] 0) v63) fun G67 => wv (vbin T .eql t_api_Errno v40 (.int .i64 0)) fun v68 => brB (some v68)
  (wv (vbin T .eql t_api_Errno v48 (.int .i64 0)) fun v69 => brB (some v69)
  (wv (vbin T .eql t_api_Errno v56 (.int .i64 0)) fun v70 => brB (some v70)
  (wv (vbin T .eql t_api_Errno v64 (.int .i64 0)) fun v71 => brB (some v71)
  (wv (vload T G67 t_api_Hash (.ptr i49 [] 0)) fun v72 => wv (vload T G67 t_api_Hash (.ptr i57 [] 0)) fun v73 => wv (vbin T .eql t_api_Hash v72 v73) fun v74 => brB (some v74)
  (wv (vload T G67 t_api_Hash (.ptr i65 [] 0)) fun v75 => wv (vload T G67 t_api_Hash (.ptr i1 [] 0)) fun v76 => wv (vbin T .eql t_api_Hash v75 v76) fun v77 => Q v77 G67)
  (Q (.bool false) G67))
  (Q (.bool false) G67))
  (Q (.bool false) G67))
  (Q (.bool false) G67))
  (Q (.bool false) G67)));
  wv (vbin T .neq t_api_Errno v25 (.int .i64 0)) fun v26 => brB (some v26)
  (J80 (.bool true) G23)
  (wv (vbin T .lss t_int v24 (.int .i64 0)) fun v27 => brB (some v27)
  (J80 (.bool true) G23)
  (wv (vbin T .gtr t_int v24 v10) fun v28 => J80 v28 G23))));
  wv (vbin T .neq t_api_Errno v11 (.int .i64 0)) fun v12 => brB (some v12)
  (J81 (.bool true) G9)
  (wv (vbin T .lss t_int v10 (.int .i64 0)) fun v13 => brB (some v13)
  (J81 (.bool true) G9)
  (wv (vbin T .gtr t_int v10 (.int .i64 48)) fun v14 => J81 v14 G9)))
def escrowlaw09_SeedSteps.an : Ann := .nil
set_option maxRecDepth 100000 in
theorem escrowlaw09_SeedSteps.sound {a0 a1 a2 a3 : AVal} {G : Heap} {Q : AVal → Heap → Prop} (h : escrowlaw09_SeedSteps.S a0 a1 a2 a3 G Q) : ACalls P escrowlaw09_SeedSteps.n [a0, a1, a2, a3] G Q := by
  have e : escrowlaw09_SeedSteps.S a0 a1 a2 a3 G Q = awp cx (escrowlaw09_SeedSteps.body) escrowlaw09_SeedSteps.an (bodyQ T [.tmp 8] Q) (envL [a0, a1, a2, a3]) G := by kernel_rfl
  exact ACalls_of_awp cxOk (f := escrowlaw09_SeedSteps.n) (fn := Tryd.f6) (c := escrowlaw09_SeedSteps.body) (an := escrowlaw09_SeedSteps.an) Tryd.func6 (by kernel_rfl) (by kernel_rfl) (by kernel_rfl) (drawsOk_of (by kernel_rfl) (by kernel_rfl)) (by simp [Tryd.f6]) (e ▸ h)

/-! #### escrow/escrowlaw09.SeedEdges -/
def escrowlaw09_SeedEdges.S (a0 a1 a2 : AVal) (G : Heap) (Q : AVal → Heap → Prop) : Prop :=
  aNew G (.own (a0)) fun i1 G2 => ACalls P escrowlaw09_head.n [] G2 fun v3 G4 => wv (vun .not v3) fun v5 => brB (some v5)
  (Q (.bool false) G4)
  (let J106 : AVal → Heap → Prop := (fun x9 G8 => let J105 : AVal → Heap → Prop := (fun x12 G11 => ACalls P escrowlaw09_number.n [a1] G11 fun v13 G14 => wv (vload T G14 t_api_Hash (.ptr i1 [] 0)) fun v15 => ACalls P seed_Secret.n [v15, .int .i64 281474976710655] G14 fun v16 G17 => wv (vextract v16 0) fun v18 => wv (vextract v16 1) fun v19 => aNew G17 (.own (z_api_Hash)) fun i20 G21 => wg (vstore T G21 t_api_Hash (.ptr i20 [] 0) v18) fun G22 => wv (vload T G22 t_api_Hash (.ptr i1 [] 0)) fun v23 => ACalls P seed_Derive.n [v23, .int .i64 281474976710655, v13] G22 fun v24 G25 => wv (vextract v24 0) fun v26 => wv (vextract v24 1) fun v27 => aNew G25 (.own (z_api_Hash)) fun i28 G29 => wg (vstore T G29 t_api_Hash (.ptr i28 [] 0) v26) fun G30 => wv (vload T G30 t_api_Hash (.ptr i1 [] 0)) fun v31 => ACalls P seed_Secret.n [v31, v13] G30 fun v32 G33 => wv (vextract v32 0) fun v34 => wv (vextract v32 1) fun v35 => aNew G33 (.own (z_api_Hash)) fun i36 G37 => wg (vstore T G37 t_api_Hash (.ptr i36 [] 0) v34) fun G38 => ACalls P seed_Level.n [.int .i64 281474976710655] G38 fun v39 G40 => wv (vextract v39 0) fun v41 => wv (vextract v39 1) fun v42 => let J104 : AVal → Heap → Prop := (fun x55 G54 => brB (some x55)
  (Q (.bool false) G54)
  (wv (vload T G54 t_api_Hash (.ptr i1 [] 0)) fun v56 => ACalls P seed_Secret.n [v56, x12] G54 fun v57 G58 => wv (vextract v57 0) fun v59 => wv (vextract v57 1) fun v60 => aNew G58 (.own (z_api_Hash)) fun i61 G62 => wg (vstore T G62 t_api_Hash (.ptr i61 [] 0) v59) fun G63 => wv (vload T G63 t_api_Hash (.ptr i1 [] 0)) fun v64 => ACalls P seed_Derive.n [v64, x12, v13] G63 fun v65 G66 => wv (vextract v65 0) fun v67 => wv (vextract v65 1) fun v68 => aNew G66 (.own (z_api_Hash)) fun i69 G70 => wg (vstore T G70 t_api_Hash (.ptr i69 [] 0) v67) fun G71 => wv (vload T G71 t_api_Hash (.ptr i1 [] 0)) fun v72 => ACalls P seed_Derive.n [v72, v13, x12] G71 fun v73 G74 => wv (vextract v73 0) fun v75 => wv (vextract v73 1) fun v76 => aNew G74 (.own (z_api_Hash)) fun i77 G78 => wg (vstore T G78 t_api_Hash (.ptr i77 [] 0) v75) fun G79 => ACalls P seed_Level.n [x12] G79 fun v80 G81 => wv (vextract v80 0) fun v82 => wv (vextract v80 1) fun v83 => wv (vbuild T t_api_Hash []) fun v84 => aNew G81 (.own (z_api_Hash)) fun i85 G86 => wg (vstore T G86 t_api_Hash (.ptr i85 [] 0) v84) fun G87 => wv (vbin T .eql t_api_Errno v60 (.int .i64 90)) fun v88 => brB (some v88)
  (wv (vbin T .eql t_api_Errno v68 (.int .i64 90)) fun v89 => brB (some v89)
  (wv (vbin T .eql t_api_Errno v76 (.int .i64 90)) fun v90 => brB (some v90)
  (wv (vbin T .eql t_api_Errno v83 (.int .i64 90)) fun v91 => brB (some v91)
  (wv (vload T G87 t_api_Hash (.ptr i61 [] 0)) fun v92 => wv (vload T G87 t_api_Hash (.ptr i85 [] 0)) fun v93 => wv (vbin T .eql t_api_Hash v92 v93) fun v94 => brB (some v94)
  (wv (vload T G87 t_api_Hash (.ptr i69 [] 0)) fun v95 => wv (vload T G87 t_api_Hash (.ptr i85 [] 0)) fun v96 => wv (vbin T .eql t_api_Hash v95 v96) fun v97 => brB (some v97)
  (wv (vload T G87 t_api_Hash (.ptr i77 [] 0)) fun v98 => wv (vload T G87 t_api_Hash (.ptr i85 [] 0)) fun v99 => wv (vbin T .eql t_api_Hash v98 v99) fun v100 => brB (some v100)
  (wv (vbin T .eql t_int v82 (.int .i64 0)) fun v101 => Q v101 G87)
  (Q (.bool false) G87))
  (Q (.bool false) G87))
  (Q (.bool false) G87))
  (Q (.bool false) G87))
  (Q (.bool false) G87))
  (Q (.bool false) G87))
  (Q (.bool false) G87)));
  wv (vbin T .neq t_api_Errno v19 (.int .i64 0)) fun v43 => brB (some v43)
  (J104 (.bool true) G40)
  (wv (vbin T .neq t_api_Errno v27 (.int .i64 0)) fun v44 => brB (some v44)
  (J104 (.bool true) G40)
  (wv (vbin T .neq t_api_Errno v35 (.int .i64 0)) fun v45 => brB (some v45)
  (J104 (.bool true) G40)
  (wv (vbin T .neq t_api_Errno v42 (.int .i64 0)) fun v46 => brB (some v46)
  (J104 (.bool true) G40)
  (wv (vload T G40 t_api_Hash (.ptr i20 [] 0)) fun v47 => wv (vload T G40 t_api_Hash (.ptr i1 [] 0)) fun v48 => wv (vbin T .neq t_api_Hash v47 v48) fun v49 => brB (some v49)
  (J104 (.bool true) G40)
  (wv (vload T G40 t_api_Hash (.ptr i28 [] 0)) fun v50 => wv (vload T G40 t_api_Hash (.ptr i36 [] 0)) fun v51 => wv (vbin T .neq t_api_Hash v50 v51) fun v52 => brB (some v52)
  (J104 (.bool true) G40)
  (wv (vbin T .neq t_int v41 (.int .i64 48)) fun v53 => J104 v53 G40)))))));
  brB (some x9)
  (wv (vbin T .sub t_int64 (.int .i64 (-1)) a2) fun v10 => J105 v10 G8)
  (J105 a2 G8));
  wv (vbin T .geq t_int64 a2 (.int .i64 0)) fun v6 => brB (some v6)
  (wv (vbin T .leq t_int64 a2 (.int .i64 281474976710655)) fun v7 => J106 v7 G4)
  (J106 (.bool false) G4))
def escrowlaw09_SeedEdges.an : Ann := .nil
set_option maxRecDepth 100000 in
theorem escrowlaw09_SeedEdges.sound {a0 a1 a2 : AVal} {G : Heap} {Q : AVal → Heap → Prop} (h : escrowlaw09_SeedEdges.S a0 a1 a2 G Q) : ACalls P escrowlaw09_SeedEdges.n [a0, a1, a2] G Q := by
  have e : escrowlaw09_SeedEdges.S a0 a1 a2 G Q = awp cx (escrowlaw09_SeedEdges.body) escrowlaw09_SeedEdges.an (bodyQ T [.tmp 6] Q) (envL [a0, a1, a2]) G := by kernel_rfl
  exact ACalls_of_awp cxOk (f := escrowlaw09_SeedEdges.n) (fn := Tryd.f7) (c := escrowlaw09_SeedEdges.body) (an := escrowlaw09_SeedEdges.an) Tryd.func7 (by kernel_rfl) (by kernel_rfl) (by kernel_rfl) (drawsOk_of (by kernel_rfl) (by kernel_rfl)) (by simp [Tryd.f7]) (e ▸ h)

end Go.Esc.M
