/- Printed by gen.py (own work): functions of the program YtgpogcmcaknjiaaGreatDoor over trees and the abstract heap. -/
import Derived.Test.YtgpogcmcaknjiaaGreatDoorT
set_option linter.unusedSimpArgs false
set_option linter.unusedVariables false
namespace Go.Esc.M
open Go Go.Esc Go.Proofs

/-! #### escrow/dance.Came -/
def dance_Came.S (a0 a1 a2 : AVal) (G : Heap) (Q : AVal → Heap → Prop) : Prop :=
  aNew G (.own (a0)) fun i1 G2 => aNew G2 (.own (a1)) fun i3 G4 => aNew G4 (.own (a2)) fun i5 G6 => aNew G6 (.own (z_api_Record)) fun i7 G8 => wv (vload T G8 t_int (.ptr i3 [11, 0] 13)) fun v9 => wv (vload T G8 t_sl_api_Update (.ptr i3 [5] 5)) fun v10 => wv (vlen T G8 t_sl_api_Update v10) fun v11 => wv (vbuild T t_api_Counts [(0, v9), (1, v11)]) fun v12 => aNew G8 (.own (z_api_Counts)) fun i13 G14 => wg (vstore T G14 t_api_Counts (.ptr i13 [] 0) v12) fun G15 => wv (vload T G15 t_api_State (.ptr i3 [] 0)) fun v16 => ACalls P dance_dead.n [v16] G15 fun v17 G18 => brB (some v17)
  (wv (vbuild T t_api_Record []) fun v19 => wg (vstore T G18 t_api_Record (.ptr i7 [] 0) v19) fun G20 => wv (vload T G20 t_api_Record (.ptr i7 [] 0)) fun v21 => Q (.tuple [v21, .int .i64 220]) G20)
  (wv (vload T G18 t_int (.ptr i5 [0] 0)) fun v22 => wv (vbin T .neq t_int v22 (.int .i64 4)) fun v23 => brB (some v23)
  (wv (vbuild T t_api_Record []) fun v24 => wg (vstore T G18 t_api_Record (.ptr i7 [] 0) v24) fun G25 => wv (vload T G25 t_api_Record (.ptr i7 [] 0)) fun v26 => Q (.tuple [v26, .int .i64 160]) G25)
  (let J44 : AVal → Heap → Prop := (fun x34 G33 => brB (some x34)
  (wv (vbuild T t_api_Record []) fun v35 => wg (vstore T G33 t_api_Record (.ptr i7 [] 0) v35) fun G36 => wv (vload T G36 t_api_Record (.ptr i7 [] 0)) fun v37 => Q (.tuple [v37, .int .i64 90]) G36)
  (wv (vload T G33 t_api_Counts (.ptr i13 [] 0)) fun v38 => wv (vload T G33 t_api_Counts (.ptr i3 [9] 9)) fun v39 => wv (vbin T .eql t_api_Counts v38 v39) fun v40 => brB (some v40)
  (wv (vbuild T t_api_Record []) fun v41 => wg (vstore T G33 t_api_Record (.ptr i7 [] 0) v41) fun G42 => wv (vload T G42 t_api_Record (.ptr i7 [] 0)) fun v43 => Q (.tuple [v43, .int .i64 8]) G42)
  (wv (vload T G33 t_api_Config (.ptr i1 [] 0)) fun v45 => wv (vload T G33 t_api_State (.ptr i3 [] 0)) fun v46 => wv (vload T G33 t_int64 (.ptr i5 [3] 3)) fun v47 => wv (vload T G33 t_api_Counts (.ptr i13 [] 0)) fun v48 => ACalls P dance_own.n [v45, v46, v47, v48] G33 fun v49 G50 => wv (vextract v49 0) fun v51 => wv (vextract v49 1) fun v52 => let J78 : AVal → Heap → Prop := (fun x60 G59 => brB (some x60)
  (wv (vbuild T t_api_Record []) fun v61 => wg (vstore T G59 t_api_Record (.ptr i7 [] 0) v61) fun G62 => wv (vload T G62 t_api_Record (.ptr i7 [] 0)) fun v63 => Q (.tuple [v63, .int .i64 110]) G62)
  (wv (vload T G59 t_sl_api_Update (.ptr i3 [5] 5)) fun v64 => wv (vload T G59 t_int (.ptr i3 [9, 1] 10)) fun v65 => ACalls P dance_first.n [v64, v65] G59 fun v66 G67 => wv (vlen T G67 t_sl_api_Update v66) fun v68 => wv (vload T G67 t_int64 (.ptr i5 [3] 3)) fun v69 => wv (vload T G67 t_sl_api_Update (.ptr i3 [5] 5)) fun v70 => wv (vslice T t_sl_api_Update v70 (some (v68)) none none) fun v71 => wv (vload T G67 t_api_Hash (.ptr i5 [5] 5)) fun v72 => ACalls P slices_Clone_escrow_api_Update_escrow_api_Update.n [v71] G67 fun v73 G74 => (vload T G74 t_api_Hash (.ptr i5 [5] 5) = some v72 ∧ vload T G74 t_int64 (.ptr i5 [3] 3) = some v69 ∧ True) ∧ (wv (vbuild T t_api_Record [(0, .int .i64 3), (3, v69), (2, v73), (5, v72)]) fun v75 => wg (vstore T G74 t_api_Record (.ptr i7 [] 0) v75) fun G76 => wv (vload T G76 t_api_Record (.ptr i7 [] 0)) fun v77 => Q (.tuple [v77, .int .i64 0]) G76)));
  wv (vun .not v52) fun v53 => brB (some v53)
  (J78 (.bool true) G50)
  (wv (vload T G50 t_api_Hash (.ptr i1 [5] 67)) fun v54 => wv (vload T G50 t_api_Hash (.ptr i5 [5] 5)) fun v55 => ACalls P seal_Right.n [v54, v51, v55] G50 fun v56 G57 => wv (vun .not v56) fun v58 => J78 v58 G57))));
  wv (vload T G18 t_int64 (.ptr i3 [6] 6)) fun v27 => wv (vbin T .gtr t_int64 v27 (.int .i64 281474976710653)) fun v28 => brB (some v28)
  (J44 (.bool true) G18)
  (wv (vload T G18 t_int64 (.ptr i5 [3] 3)) fun v29 => wv (vload T G18 t_int64 (.ptr i3 [6] 6)) fun v30 => wv (vbin T .add t_int64 v30 (.int .i64 1)) fun v31 => wv (vbin T .neq t_int64 v29 v31) fun v32 => J44 v32 G18)))
def dance_Came.an : Ann := .two (.nil) (.two (.nil) (.two (.nil) (.two (.nil) (.two (.nil) (.two (.nil) (.two (.ord [(0, []), (1, []), (2, []), (3, []), (4, []), (5, []), (7, []), (8, []), (6, [1, 8]), (9, []), (10, []), (11, [])]) (.nil)))))))
set_option maxRecDepth 100000 in
theorem dance_Came.sound {a0 a1 a2 : AVal} {G : Heap} {Q : AVal → Heap → Prop} (h : dance_Came.S a0 a1 a2 G Q) : ACalls P dance_Came.n [a0, a1, a2] G Q := by
  have e : dance_Came.S a0 a1 a2 G Q = awp cx (dance_Came.body) dance_Came.an (bodyQ T [.cell 6 55, .tmp 7] Q) (envL [a0, a1, a2]) G := by kernel_rfl
  exact ACalls_of_awp cxOk (f := dance_Came.n) (fn := Tryz.f35) (c := dance_Came.body) (an := dance_Came.an) Tryz.func35 (by kernel_rfl) (by kernel_rfl) (by kernel_rfl) (drawsOk_of (by kernel_rfl) (by kernel_rfl)) (by simp [Tryz.f35]) (e ▸ h)

/-! #### math/bits.TrailingZeros64 -/
def bits_TrailingZeros64.S (a0 : AVal) (G : Heap) (Q : AVal → Heap → Prop) : Prop :=
  wv (vbin T .eql t_uint64 a0 (.int .u64 0)) fun v1 => brB (some v1)
  (Q (.int .i64 64) G)
  (wv (vun .neg a0) fun v2 => wv (vbin T .and t_uint64 a0 v2) fun v3 => wv (vbin T .mul t_uint64 v3 (.int .u64 285870213051353865)) fun v4 => wv (vbin T .shr t_uint64 v4 (.int .u64 58)) fun v5 => wv (viaddr T t_ar64_uint8 (.ptr ⟨0, 0, 0⟩ [] 0) v5) fun v6 => wv (vload T G t_uint8 v6) fun v7 => wv (vconv T G t_uint8 t_int v7) fun v8 => Q v8 G)
def bits_TrailingZeros64.an : Ann := .nil
set_option maxRecDepth 100000 in
theorem bits_TrailingZeros64.sound {a0 : AVal} {G : Heap} {Q : AVal → Heap → Prop} (h : bits_TrailingZeros64.S a0 G Q) : ACalls P bits_TrailingZeros64.n [a0] G Q := by
  have e : bits_TrailingZeros64.S a0 G Q = awp cx (bits_TrailingZeros64.body) bits_TrailingZeros64.an (bodyQ T [.tmp 2] Q) (envL [a0]) G := by kernel_rfl
  exact ACalls_of_awp cxOk (f := bits_TrailingZeros64.n) (fn := Tryz.f171) (c := bits_TrailingZeros64.body) (an := bits_TrailingZeros64.an) Tryz.func171 (by kernel_rfl) (by kernel_rfl) (by kernel_rfl) (drawsOk_of (by kernel_rfl) (by kernel_rfl)) (by simp [Tryz.f171]) (e ▸ h)

/-! #### escrow/seed.Level -/
def seed_Level.S (a0 : AVal) (G : Heap) (Q : AVal → Heap → Prop) : Prop :=
  ACalls P seed_right.n [a0] G fun v1 G2 => wv (vun .not v1) fun v3 => brB (some v3)
  (Q (.tuple [.int .i64 0, .int .i64 90]) G2)
  (ACalls P seed_place.n [a0] G2 fun v4 G5 => wv (vconv T G5 t_int64 t_uint64 v4) fun v6 => ACalls P bits_TrailingZeros64.n [v6] G5 fun v7 G8 => wv (vmin2 (.int .i64 48) v7) fun v9 => Q (.tuple [v9, .int .i64 0]) G8)
def seed_Level.an : Ann := .nil
set_option maxRecDepth 100000 in
theorem seed_Level.sound {a0 : AVal} {G : Heap} {Q : AVal → Heap → Prop} (h : seed_Level.S a0 G Q) : ACalls P seed_Level.n [a0] G Q := by
  have e : seed_Level.S a0 G Q = awp cx (seed_Level.body) seed_Level.an (bodyQ T [.tmp 2, .tmp 3] Q) (envL [a0]) G := by kernel_rfl
  exact ACalls_of_awp cxOk (f := seed_Level.n) (fn := Tryz.f141) (c := seed_Level.body) (an := seed_Level.an) Tryz.func141 (by kernel_rfl) (by kernel_rfl) (by kernel_rfl) (drawsOk_of (by kernel_rfl) (by kernel_rfl)) (by simp [Tryz.f141]) (e ▸ h)

/-! #### escrow/seed.Derive -/
def seed_Derive.S (a0 a1 a2 : AVal) (G : Heap) (Q : AVal → Heap → Prop) : Prop :=
  aNew G (.own (a0)) fun i1 G2 => aNew G2 (.own (z_api_Hash)) fun i3 G4 => ACalls P seed_Level.n [a1] G4 fun v5 G6 => wv (vextract v5 0) fun v7 => wv (vextract v5 1) fun v8 => let J28 : AVal → Heap → Prop := (fun x14 G13 => brB (some x14)
  (wv (vbuild T t_api_Hash []) fun v15 => wg (vstore T G13 t_api_Hash (.ptr i3 [] 0) v15) fun G16 => wv (vload T G16 t_api_Hash (.ptr i3 [] 0)) fun v17 => Q (.tuple [v17, .int .i64 90]) G16)
  (ACalls P seed_place.n [a1] G13 fun v18 G19 => wv (vbin T .shr t_int64 v18 v7) fun v20 => ACalls P seed_place.n [a2] G19 fun v21 G22 => wv (vbin T .shr t_int64 v21 v7) fun v23 => wv (vbin T .neq t_int64 v20 v23) fun v24 => brB (some v24)
  (wv (vbuild T t_api_Hash []) fun v25 => wg (vstore T G22 t_api_Hash (.ptr i3 [] 0) v25) fun G26 => wv (vload T G26 t_api_Hash (.ptr i3 [] 0)) fun v27 => Q (.tuple [v27, .int .i64 5]) G26)
  (wv (vload T G22 t_api_Hash (.ptr i1 [] 0)) fun v29 => ACalls P seed_place.n [a2] G22 fun v30 G31 => (vload T G31 t_api_Hash (.ptr i1 [] 0) = some v29 ∧ True) ∧ (ACalls P seed_down.n [v29, v30, v7] G31 fun v32 G33 => wg (vstore T G33 t_api_Hash (.ptr i3 [] 0) v32) fun G34 => wv (vload T G34 t_api_Hash (.ptr i3 [] 0)) fun v35 => Q (.tuple [v35, .int .i64 0]) G34))));
  wv (vbin T .neq t_api_Errno v8 (.int .i64 0)) fun v9 => brB (some v9)
  (J28 (.bool true) G6)
  (ACalls P seed_right.n [a2] G6 fun v10 G11 => wv (vun .not v10) fun v12 => J28 v12 G11)
def seed_Derive.an : Ann := .two (.nil) (.two (.nil) (.two (.two (.nil) (.two (.nil) (.two (.ord [(0, []), (2, []), (4, []), (6, []), (1, []), (3, []), (5, []), (7, []), (8, []), (9, [])]) (.nil)))) (.two (.ord [(0, []), (1, []), (3, []), (2, [0]), (4, []), (5, []), (6, [])]) (.nil))))
set_option maxRecDepth 100000 in
theorem seed_Derive.sound {a0 a1 a2 : AVal} {G : Heap} {Q : AVal → Heap → Prop} (h : seed_Derive.S a0 a1 a2 G Q) : ACalls P seed_Derive.n [a0, a1, a2] G Q := by
  have e : seed_Derive.S a0 a1 a2 G Q = awp cx (seed_Derive.body) seed_Derive.an (bodyQ T [.cell 6 23, .tmp 7] Q) (envL [a0, a1, a2]) G := by kernel_rfl
  exact ACalls_of_awp cxOk (f := seed_Derive.n) (fn := Tryz.f142) (c := seed_Derive.body) (an := seed_Derive.an) Tryz.func142 (by kernel_rfl) (by kernel_rfl) (by kernel_rfl) (drawsOk_of (by kernel_rfl) (by kernel_rfl)) (by simp [Tryz.f142]) (e ▸ h)

/-! #### escrow/shelf.Put -/
def shelf_Put.S (a0 a1 a2 : AVal) (G : Heap) (Q : AVal → Heap → Prop) : Prop :=
  aNew G (.own (a2)) fun i1 G2 => wv (vlen T G2 t_sl_api_Slot a0) fun v3 => wv (vbin T .gtr t_int v3 (.int .i64 49)) fun v4 => brB (some v4)
  (Q (.tuple [.nilSlice, .int .i64 1]) G2)
  (ACalls P seed_Level.n [a1] G2 fun v5 G6 => wv (vextract v5 0) fun v7 => wv (vextract v5 1) fun v8 => wv (vbin T .neq t_api_Errno v8 (.int .i64 0)) fun v9 => brB (some v9)
  (Q (.tuple [.nilSlice, .int .i64 90]) G6)
  (aMakeSlice T t_sl_api_Slot (.int .i64 49) (.int .i64 49) G6 fun v10 G11 => wv (vlen T G11 t_sl_api_Slot a0) fun v12 => ∀ R13 : List AVal → Heap → Prop,
  (∀ (x15 x16 x17 x18 x19 x20 x21 : AVal) (G14 : Heap), (wv (vbin T .lss t_int x21 x20) fun v22 => brB (some v22)
  (wv (viaddr T t_sl_api_Slot x15 x21) fun v23 => wv (vfaddr T t_api_Slot v23 2) fun v24 => wv (vload T G14 t_bool v24) fun v25 => wv (vun .not v25) fun v26 => brB (some v26)
  (wv (vbin T .add t_int x21 (.int .i64 1)) fun v53 => R13 [x15, x16, x17, x18, x19, x20, v53] G14)
  (wv (viaddr T t_sl_api_Slot x15 x21) fun v27 => wv (vload T G14 t_api_Slot v27) fun v28 => wv (viaddr T t_sl_api_Slot x19 x21) fun v29 => wg (vstore T G14 t_api_Slot v29 v28) fun G30 => wv (vbin T .geq t_int x21 x18) fun v31 => brB (some v31)
  (wv (vbin T .add t_int x21 (.int .i64 1)) fun v54 => R13 [x15, x16, x17, x18, x19, x20, v54] G30)
  (wv (vload T G30 t_api_Hash x17) fun v32 => wv (viaddr T t_sl_api_Slot x15 x21) fun v33 => wv (vfaddr T t_api_Slot v33 0) fun v34 => wv (vload T G30 t_int64 v34) fun v35 => ACalls P seed_Derive.n [v32, x16, v35] G30 fun v36 G37 => wv (vextract v36 0) fun v38 => wv (vextract v36 1) fun v39 => aNew G37 (.own (z_api_Hash)) fun i40 G41 => wg (vstore T G41 t_api_Hash (.ptr i40 [] 0) v38) fun G42 => wv (vbin T .neq t_api_Errno v39 (.int .i64 0)) fun v43 => brB (some v43)
  (Q (.tuple [.nilSlice, .int .i64 100]) G42)
  (wv (vload T G42 t_api_Hash (.ptr i40 [] 0)) fun v44 => wv (viaddr T t_sl_api_Slot x15 x21) fun v45 => wv (vfaddr T t_api_Slot v45 1) fun v46 => wv (vload T G42 t_api_Hash v46) fun v47 => wv (vbin T .neq t_api_Hash v44 v47) fun v48 => brB (some v48)
  (Q (.tuple [.nilSlice, .int .i64 100]) G42)
  (wv (vbin T .add t_int x21 (.int .i64 1)) fun v55 => R13 [x15, x16, x17, x18, x19, x20, v55] G42)))))
  (wv (vload T G14 t_api_Hash x17) fun v56 => wv (vbuild T t_api_Slot [(0, x16), (1, v56), (2, .bool true)]) fun v57 => wv (viaddr T t_sl_api_Slot x19 x18) fun v58 => wg (vstore T G14 t_api_Slot v58 v57) fun G59 => Q (.tuple [x19, .int .i64 0]) G59)) → R13 [x15, x16, x17, x18, x19, x20, x21] G14) →
  R13 [a0, a1, .ptr i1 [] 0, v7, v10, v12, .int .i64 0] G11))
def shelf_Put.an : Ann := .two (.nil) (.two (.nil) (.two (.nil) (.two (.nil) (.two (.nil) (.two (.two (.nil) (.loop [0, 1, 5, 8, 10, 26, 27] (.two (.nil) (.two (.nil) (.two (.two (.nil) (.two (.nil) (.two (.nil) (.two (.nil) (.two (.ord [(0, []), (1, []), (2, []), (3, []), (4, []), (5, []), (6, []), (7, []), (8, []), (9, []), (10, []), (11, []), (12, []), (13, [])]) (.two (.ord [(0, []), (1, []), (2, []), (3, []), (4, []), (5, []), (6, []), (7, []), (8, []), (9, []), (10, [])]) (.nil))))))) (.nil)))))) (.nil))))))
set_option maxRecDepth 100000 in
theorem shelf_Put.sound {a0 a1 a2 : AVal} {G : Heap} {Q : AVal → Heap → Prop} (h : shelf_Put.S a0 a1 a2 G Q) : ACalls P shelf_Put.n [a0, a1, a2] G Q := by
  have e : shelf_Put.S a0 a1 a2 G Q = awp cx (shelf_Put.body) shelf_Put.an (bodyQ T [.tmp 6, .tmp 7] Q) (envL [a0, a1, a2]) G := by kernel_rfl
  exact ACalls_of_awp cxOk (f := shelf_Put.n) (fn := Tryz.f85) (c := shelf_Put.body) (an := shelf_Put.an) Tryz.func85 (by kernel_rfl) (by kernel_rfl) (by kernel_rfl) (drawsOk_of (by kernel_rfl) (by kernel_rfl)) (by simp [Tryz.f85]) (e ▸ h)

/-! #### escrow/dance.Revoked -/
def dance_Revoked.S (a0 a1 : AVal) (G : Heap) (Q : AVal → Heap → Prop) : Prop :=
  aNew G (.own (a0)) fun i1 G2 => aNew G2 (.own (a1)) fun i3 G4 => aNew G4 (.own (z_api_Record)) fun i5 G6 => wv (vload T G6 t_api_State (.ptr i1 [] 0)) fun v7 => ACalls P dance_dead.n [v7] G6 fun v8 G9 => brB (some v8)
  (wv (vbuild T t_api_Record []) fun v10 => wg (vstore T G9 t_api_Record (.ptr i5 [] 0) v10) fun G11 => wv (vload T G11 t_api_Record (.ptr i5 [] 0)) fun v12 => Q (.tuple [v12, .int .i64 220]) G11)
  (wv (vload T G9 t_int (.ptr i3 [0] 0)) fun v13 => wv (vbin T .neq t_int v13 (.int .i64 5)) fun v14 => brB (some v14)
  (wv (vbuild T t_api_Record []) fun v15 => wg (vstore T G9 t_api_Record (.ptr i5 [] 0) v15) fun G16 => wv (vload T G16 t_api_Record (.ptr i5 [] 0)) fun v17 => Q (.tuple [v17, .int .i64 160]) G16)
  (let J42 : AVal → Heap → Prop := (fun x29 G28 => brB (some x29)
  (wv (vbuild T t_api_Record []) fun v30 => wg (vstore T G28 t_api_Record (.ptr i5 [] 0) v30) fun G31 => wv (vload T G31 t_api_Record (.ptr i5 [] 0)) fun v32 => Q (.tuple [v32, .int .i64 90]) G31)
  (wv (vload T G28 t_api_Hash (.ptr i3 [6] 37)) fun v33 => wv (viaddr T t_ar2_api_Hash (.ptr i1 [13] 16) (.int .i64 0)) fun v34 => wv (vload T G28 t_api_Hash v34) fun v35 => ACalls P seed_Point.n [v33] G28 fun v36 G37 => (vload T G37 t_api_Hash v34 = some v35 ∧ True) ∧ (wv (vbin T .neq t_api_Hash v36 v35) fun v38 => brB (some v38)
  (wv (vbuild T t_api_Record []) fun v39 => wg (vstore T G37 t_api_Record (.ptr i5 [] 0) v39) fun G40 => wv (vload T G40 t_api_Record (.ptr i5 [] 0)) fun v41 => Q (.tuple [v41, .int .i64 100]) G40)
  (wv (vload T G37 t_sl_api_Slot (.ptr i1 [15] 112)) fun v43 => wv (vload T G37 t_int64 (.ptr i1 [8] 8)) fun v44 => wv (vload T G37 t_api_Hash (.ptr i3 [6] 37)) fun v45 => ACalls P shelf_Put.n [v43, v44, v45] G37 fun v46 G47 => wv (vextract v46 0) fun v48 => wv (vextract v46 1) fun v49 => wv (vbin T .neq t_api_Errno v49 (.int .i64 0)) fun v50 => brB (some v50)
  (wv (vbuild T t_api_Record []) fun v51 => wg (vstore T G47 t_api_Record (.ptr i5 [] 0) v51) fun G52 => wv (vload T G52 t_api_Record (.ptr i5 [] 0)) fun v53 => Q (.tuple [v53, .int .i64 100]) G52)
  (wv (vload T G47 t_int64 (.ptr i1 [8] 8)) fun v54 => wv (vload T G47 t_api_Hash (.ptr i3 [6] 37)) fun v55 => wv (vload T G47 t_api_Hash (.ptr i3 [5] 5)) fun v56 => wv (vbuild T t_api_Record [(0, .int .i64 4), (3, v54), (6, v55), (7, v56)]) fun v57 => wg (vstore T G47 t_api_Record (.ptr i5 [] 0) v57) fun G58 => wv (vload T G58 t_api_Record (.ptr i5 [] 0)) fun v59 => Q (.tuple [v59, .int .i64 0]) G58)))));
  wv (vload T G9 t_int64 (.ptr i1 [7] 7)) fun v18 => wv (vload T G9 t_int64 (.ptr i1 [8] 8)) fun v19 => wv (vbin T .eql t_int64 v18 v19) fun v20 => brB (some v20)
  (J42 (.bool true) G9)
  (wv (vload T G9 t_int64 (.ptr i1 [7] 7)) fun v21 => wv (vbin T .sub t_int64 v21 (.int .i64 1)) fun v22 => wv (vload T G9 t_int64 (.ptr i1 [8] 8)) fun v23 => wv (vbin T .neq t_int64 v22 v23) fun v24 => brB (some v24)
  (J42 (.bool true) G9)
  (wv (vload T G9 t_int64 (.ptr i3 [3] 3)) fun v25 => wv (vload T G9 t_int64 (.ptr i1 [8] 8)) fun v26 => wv (vbin T .neq t_int64 v25 v26) fun v27 => J42 v27 G9))))
def dance_Revoked.an : Ann := .two (.nil) (.two (.two (.nil) (.two (.nil) (.two (.nil) (.two (.nil) (.two (.nil) (.two (.nil) (.two (.ord [(0, []), (1, []), (3, []), (4, []), (5, []), (2, [5]), (6, []), (7, [])]) (.nil)))))))) (.nil))
set_option maxRecDepth 100000 in
theorem dance_Revoked.sound {a0 a1 : AVal} {G : Heap} {Q : AVal → Heap → Prop} (h : dance_Revoked.S a0 a1 G Q) : ACalls P dance_Revoked.n [a0, a1] G Q := by
  have e : dance_Revoked.S a0 a1 G Q = awp cx (dance_Revoked.body) dance_Revoked.an (bodyQ T [.cell 4 55, .tmp 5] Q) (envL [a0, a1]) G := by kernel_rfl
  exact ACalls_of_awp cxOk (f := dance_Revoked.n) (fn := Tryz.f37) (c := dance_Revoked.body) (an := dance_Revoked.an) Tryz.func37 (by kernel_rfl) (by kernel_rfl) (by kernel_rfl) (drawsOk_of (by kernel_rfl) (by kernel_rfl)) (by simp [Tryz.f37]) (e ▸ h)

/-! #### escrow/escrowlaw15.fixed -/
def escrowlaw15_fixed.S (G : Heap) (Q : AVal → Heap → Prop) : Prop :=
  wv (vbuild T t_escrowlaw15_Deal [(0, .int .i64 1000), (1, .int .i64 700)]) fun v1 => ACalls P escrowlaw15_Configs.n [v1] G fun v2 G3 => wv (vindex T t_ar2_api_Config v2 (.int .i64 0)) fun v4 => aNew G3 (.own (z_api_Config)) fun i5 G6 => wg (vstore T G6 t_api_Config (.ptr i5 [] 0) v4) fun G7 => wv (vload T G7 t_api_Config (.ptr i5 [] 0)) fun v8 => ACalls P dance_Start.n [v8] G7 fun v9 G10 => wv (vextract v9 0) fun v11 => wv (vextract v9 1) fun v12 => aNew G10 (.own (z_api_State)) fun i13 G14 => wg (vstore T G14 t_api_State (.ptr i13 [] 0) v11) fun G15 => wv (vbuild T t_api_Config []) fun v16 => ACalls P dance_Start.n [v16] G15 fun v17 G18 => wv (vextract v17 0) fun v19 => wv (vextract v17 1) fun v20 => aNew G18 (.own (z_api_State)) fun i21 G22 => wg (vstore T G22 t_api_State (.ptr i21 [] 0) v19) fun G23 => let J111 : AVal → Heap → Prop := (fun x41 G40 => brB (some x41)
  (Q (.bool false) G40)
  (wv (vload T G40 t_api_State (.ptr i13 [] 0)) fun v42 => wv (vbuild T t_api_Hash []) fun v43 => ACalls P dance_Offer.n [v42, .int .i64 701, v43] G40 fun v44 G45 => wv (vextract v44 0) fun v46 => wv (vextract v44 1) fun v47 => aNew G45 (.own (z_api_Record)) fun i48 G49 => wg (vstore T G49 t_api_Record (.ptr i48 [] 0) v46) fun G50 => wv (vload T G50 t_api_State (.ptr i13 [] 0)) fun v51 => wv (vbuild T t_api_Hash []) fun v52 => ACalls P dance_Offer.n [v51, .int .i64 0, v52] G50 fun v53 G54 => wv (vextract v53 0) fun v55 => wv (vextract v53 1) fun v56 => aNew G54 (.own (z_api_Record)) fun i57 G58 => wg (vstore T G58 t_api_Record (.ptr i57 [] 0) v55) fun G59 => wv (vload T G59 t_api_State (.ptr i13 [] 0)) fun v60 => wv (vbuild T t_api_Hash [(0, .int .u8 1)]) fun v61 => ACalls P dance_Offer.n [v60, .int .i64 600, v61] G59 fun v62 G63 => wv (vextract v62 0) fun v64 => wv (vextract v62 1) fun v65 => aNew G63 (.own (z_api_Record)) fun i66 G67 => wg (vstore T G67 t_api_Record (.ptr i66 [] 0) v64) fun G68 => wv (vload T G68 t_api_Config (.ptr i5 [] 0)) fun v69 => wv (vload T G68 t_api_State (.ptr i13 [] 0)) fun v70 => ACalls P dance_Sign.n [v69, v70] G68 fun v71 G72 => wv (vextract v71 0) fun v73 => wv (vextract v71 1) fun v74 => aNew G72 (.own (z_api_Record)) fun i75 G76 => wg (vstore T G76 t_api_Record (.ptr i75 [] 0) v73) fun G77 => wv (vload T G77 t_api_Config (.ptr i5 [] 0)) fun v78 => wv (vload T G77 t_api_State (.ptr i13 [] 0)) fun v79 => wv (vbuild T t_api_Message [(0, .int .i64 4), (3, .int .i64 2)]) fun v80 => ACalls P dance_Came.n [v78, v79, v80] G77 fun v81 G82 => wv (vextract v81 0) fun v83 => wv (vextract v81 1) fun v84 => aNew G82 (.own (z_api_Record)) fun i85 G86 => wg (vstore T G86 t_api_Record (.ptr i85 [] 0) v83) fun G87 => wv (vload T G87 t_api_State (.ptr i13 [] 0)) fun v88 => wv (vbuild T t_api_Message [(0, .int .i64 5)]) fun v89 => ACalls P dance_Revoked.n [v88, v89] G87 fun v90 G91 => wv (vextract v90 0) fun v92 => wv (vextract v90 1) fun v93 => aNew G91 (.own (z_api_Record)) fun i94 G95 => wg (vstore T G95 t_api_Record (.ptr i94 [] 0) v92) fun G96 => wv (vbin T .eql t_api_Errno v47 (.int .i64 130)) fun v97 => brB (some v97)
  (wv (vbin T .eql t_api_Errno v56 (.int .i64 80)) fun v98 => brB (some v98)
  (wv (vbin T .eql t_api_Errno v65 (.int .i64 0)) fun v99 => brB (some v99)
  (wv (vload T G96 t_int (.ptr i66 [0] 0)) fun v100 => wv (vbin T .eql t_int v100 (.int .i64 1)) fun v101 => brB (some v101)
  (wv (vload T G96 t_api_Update (.ptr i66 [1] 1)) fun v102 => wv (vbuild T t_api_Hash [(0, .int .u8 1)]) fun v103 => wv (vbuild T t_api_Update [(0, .int .i64 1), (2, .int .i64 600), (3, v103)]) fun v104 => wv (vbin T .eql t_api_Update v102 v104) fun v105 => brB (some v105)
  (wv (vbin T .eql t_api_Errno v74 (.int .i64 8)) fun v106 => brB (some v106)
  (wv (vbin T .eql t_api_Errno v84 (.int .i64 90)) fun v107 => brB (some v107)
  (wv (vbin T .eql t_api_Errno v93 (.int .i64 90)) fun v108 => Q v108 G96)
  (Q (.bool false) G96))
  (Q (.bool false) G96))
  (Q (.bool false) G96))
  (Q (.bool false) G96))
  (Q (.bool false) G96))
  (Q (.bool false) G96))
  (Q (.bool false) G96)));
  wv (vbin T .neq t_api_Errno v12 (.int .i64 0)) fun v24 => brB (some v24)
  (J111 (.bool true) G23)
  (wv (vbin T .neq t_api_Errno v20 (.int .i64 1)) fun v25 => brB (some v25)
  (J111 (.bool true) G23)
  (wv (vload T G23 t_int64 (.ptr i13 [2] 2)) fun v26 => wv (vbin T .neq t_int64 v26 (.int .i64 700)) fun v27 => brB (some v27)
  (J111 (.bool true) G23)
  (wv (vload T G23 t_int64 (.ptr i13 [3] 3)) fun v28 => wv (vbin T .neq t_int64 v28 (.int .i64 300)) fun v29 => brB (some v29)
  (J111 (.bool true) G23)
  (wv (vload T G23 t_int64 (.ptr i13 [17] 114)) fun v30 => wv (vbin T .neq t_int64 v30 (.int .i64 (-1))) fun v31 => brB (some v31)
  (J111 (.bool true) G23)
  (wv (vload T G23 t_api_State (.ptr i13 [] 0)) fun v32 => ACalls P dance_Spendable.n [v32] G23 fun v33 G34 => wv (vbin T .neq t_int64 v33 (.int .i64 700)) fun v35 => brB (some v35)
  (J111 (.bool true) G34)
  (wv (vload T G34 t_api_State (.ptr i13 [] 0)) fun v36 => ACalls P dance_PeerSpendable.n [v36] G34 fun v37 G38 => wv (vbin T .neq t_int64 v37 (.int .i64 300)) fun v39 => J111 v39 G38))))))
def escrowlaw15_fixed.an : Ann := .nil
set_option maxRecDepth 100000 in
theorem escrowlaw15_fixed.sound {G : Heap} {Q : AVal → Heap → Prop} (h : escrowlaw15_fixed.S G Q) : ACalls P escrowlaw15_fixed.n [] G Q := by
  have e : escrowlaw15_fixed.S G Q = awp cx (escrowlaw15_fixed.body) escrowlaw15_fixed.an (bodyQ T [.tmp 0] Q) (envL []) G := by kernel_rfl
  exact ACalls_of_awp cxOk (f := escrowlaw15_fixed.n) (fn := Tryz.f8) (c := escrowlaw15_fixed.body) (an := escrowlaw15_fixed.an) Tryz.func8 (by kernel_rfl) (by kernel_rfl) (by kernel_rfl) (drawsOk_of (by kernel_rfl) (by kernel_rfl)) (by simp [Tryz.f8]) (e ▸ h)

/-! #### escrow/escrowlaw15.Copy -/
def escrowlaw15_Copy.S (a0 : AVal) (G : Heap) (Q : AVal → Heap → Prop) : Prop :=
  aNew G (.own (a0)) fun i1 G2 => aNew G2 (.own (z_api_State)) fun i3 G4 => wv (vload T G4 t_sl_api_Update (.ptr i1 [4] 4)) fun v5 => aAppend T G4 t_sl_api_Update t_sl_api_Update (.nilSlice) v5 fun v6 G7 => wg (vstore T G7 t_sl_api_Update (.ptr i1 [4] 4) v6) fun G8 => wv (vload T G8 t_sl_api_Update (.ptr i1 [5] 5)) fun v9 => aAppend T G8 t_sl_api_Update t_sl_api_Update (.nilSlice) v9 fun v10 G11 => wg (vstore T G11 t_sl_api_Update (.ptr i1 [5] 5) v10) fun G12 => wv (vload T G12 t_sl_api_Slot (.ptr i1 [15] 112)) fun v13 => aAppend T G12 t_sl_api_Slot t_sl_api_Slot (.nilSlice) v13 fun v14 G15 => wg (vstore T G15 t_sl_api_Slot (.ptr i1 [15] 112) v14) fun G16 => wv (vload T G16 t_api_State (.ptr i1 [] 0)) fun v17 => wg (vstore T G16 t_api_State (.ptr i3 [] 0) v17) fun G18 => wv (vload T G18 t_api_State (.ptr i3 [] 0)) fun v19 => Q v19 G18
def escrowlaw15_Copy.an : Ann := .nil
set_option maxRecDepth 100000 in
theorem escrowlaw15_Copy.sound {a0 : AVal} {G : Heap} {Q : AVal → Heap → Prop} (h : escrowlaw15_Copy.S a0 G Q) : ACalls P escrowlaw15_Copy.n [a0] G Q := by
  have e : escrowlaw15_Copy.S a0 G Q = awp cx (escrowlaw15_Copy.body) escrowlaw15_Copy.an (bodyQ T [.cell 2 40] Q) (envL [a0]) G := by kernel_rfl
  exact ACalls_of_awp cxOk (f := escrowlaw15_Copy.n) (fn := Tryz.f13) (c := escrowlaw15_Copy.body) (an := escrowlaw15_Copy.an) Tryz.func13 (by kernel_rfl) (by kernel_rfl) (by kernel_rfl) (drawsOk_of (by kernel_rfl) (by kernel_rfl)) (by simp [Tryz.f13]) (e ▸ h)

/-! #### escrow/update.first -/
def update_first.S (a0 a1 a2 : AVal) (G : Heap) (Q : AVal → Heap → Prop) : Prop :=
  aNew G (.own (z_api_Update)) fun i1 G2 => wv (vlen T G2 t_sl_api_Update a0) fun v3 => ∀ R4 : List AVal → Heap → Prop,
  (∀ (x6 x7 x8 x9 x10 x11 : AVal) (G5 : Heap), (wv (vbin T .lss t_int x11 x10) fun v12 => brB (some v12)
  (wv (viaddr T t_sl_api_Update x9 x11) fun v13 => wv (vload T G5 t_api_Update v13) fun v14 => aNew G5 (.own (z_api_Update)) fun i15 G16 => wg (vstore T G16 t_api_Update (.ptr i15 [] 0) v14) fun G17 => let J36 : AVal → Heap → Prop := (fun x32 G31 => brB (some x32)
  (wv (vload T G31 t_api_Update (.ptr i15 [] 0)) fun v33 => wg (vstore T G31 t_api_Update x8 v33) fun G34 => wv (vload T G34 t_api_Update x8) fun v35 => Q (.tuple [v35, .bool true]) G34)
  (wv (vbin T .add t_int x11 (.int .i64 1)) fun v37 => R4 [x6, x7, x8, x9, x10, v37] G31));
  wv (vload T G17 t_int64 (.ptr i15 [1] 1)) fun v18 => wv (vbin T .eql t_int64 v18 x6) fun v19 => brB (some v19)
  (wv (vun .not x7) fun v20 => brB (some v20)
  (wv (vload T G17 t_int (.ptr i15 [0] 0)) fun v21 => wv (vbin T .eql t_int v21 (.int .i64 1)) fun v22 => brB (some v22)
  (J36 (.bool true) G17)
  (brB (some x7)
  (wv (vload T G17 t_int (.ptr i15 [0] 0)) fun v23 => wv (vbin T .eql t_int v23 (.int .i64 2)) fun v24 => brB (some v24)
  (J36 (.bool true) G17)
  (wv (vload T G17 t_int (.ptr i15 [0] 0)) fun v25 => wv (vbin T .eql t_int v25 (.int .i64 3)) fun v26 => J36 v26 G17))
  (J36 (.bool false) G17)))
  (brB (some x7)
  (wv (vload T G17 t_int (.ptr i15 [0] 0)) fun v27 => wv (vbin T .eql t_int v27 (.int .i64 2)) fun v28 => brB (some v28)
  (J36 (.bool true) G17)
  (wv (vload T G17 t_int (.ptr i15 [0] 0)) fun v29 => wv (vbin T .eql t_int v29 (.int .i64 3)) fun v30 => J36 v30 G17))
  (J36 (.bool false) G17)))
  (J36 (.bool false) G17))
  (wv (vbuild T t_api_Update []) fun v38 => wg (vstore T G5 t_api_Update x8 v38) fun G39 => wv (vload T G39 t_api_Update x8) fun v40 => Q (.tuple [v40, .bool false]) G39)) → R4 [x6, x7, x8, x9, x10, x11] G5) →
  R4 [a1, a2, .ptr i1 [] 0, a0, v3, .int .i64 0] G2
def update_first.an : Ann := .two (.nil) (.two (.two (.nil) (.loop [1, 2, 6, 10, 11, 12] (.nil))) (.nil))
set_option maxRecDepth 100000 in
theorem update_first.sound {a0 a1 a2 : AVal} {G : Heap} {Q : AVal → Heap → Prop} (h : update_first.S a0 a1 a2 G Q) : ACalls P update_first.n [a0, a1, a2] G Q := by
  have e : update_first.S a0 a1 a2 G Q = awp cx (update_first.body) update_first.an (bodyQ T [.cell 6 53, .tmp 7] Q) (envL [a0, a1, a2]) G := by kernel_rfl
  exact ACalls_of_awp cxOk (f := update_first.n) (fn := Tryz.f137) (c := update_first.body) (an := update_first.an) Tryz.func137 (by kernel_rfl) (by kernel_rfl) (by kernel_rfl) (drawsOk_of (by kernel_rfl) (by kernel_rfl)) (by simp [Tryz.f137]) (e ▸ h)

/-! #### escrow/update.Find -/
def update_Find.S (a0 a1 : AVal) (G : Heap) (Q : AVal → Heap → Prop) : Prop :=
  aNew G (.own (z_api_Update)) fun i1 G2 => ACalls P update_first.n [a0, a1, .bool false] G2 fun v3 G4 => wv (vextract v3 0) fun v5 => wv (vextract v3 1) fun v6 => wg (vstore T G4 t_api_Update (.ptr i1 [] 0) v5) fun G7 => wv (vload T G7 t_api_Update (.ptr i1 [] 0)) fun v8 => Q (.tuple [v8, v6]) G7
def update_Find.an : Ann := .nil
set_option maxRecDepth 100000 in
theorem update_Find.sound {a0 a1 : AVal} {G : Heap} {Q : AVal → Heap → Prop} (h : update_Find.S a0 a1 G Q) : ACalls P update_Find.n [a0, a1] G Q := by
  have e : update_Find.S a0 a1 G Q = awp cx (update_Find.body) update_Find.an (bodyQ T [.cell 4 53, .tmp 5] Q) (envL [a0, a1]) G := by kernel_rfl
  exact ACalls_of_awp cxOk (f := update_Find.n) (fn := Tryz.f77) (c := update_Find.body) (an := update_Find.an) Tryz.func77 (by kernel_rfl) (by kernel_rfl) (by kernel_rfl) (drawsOk_of (by kernel_rfl) (by kernel_rfl)) (by simp [Tryz.f77]) (e ▸ h)

/-! #### escrow/dance.sum -/
def dance_sum.S (a0 : AVal) (G : Heap) (Q : AVal → Heap → Prop) : Prop :=
  aNew G (.own (a0)) fun i1 G2 => aNew G2 (.own (z_api_Hash)) fun i3 G4 => wv (vslice T t_api_Hash (.ptr i1 [] 0) none none none) fun v5 => wv (vconv T G4 t_sl_uint8 t_string v5) fun v6 => aBuildSlice T t_sl_string 1 [(0, v6)] G4 fun v7 G8 => ACalls P hash_Sum.n [v7] G8 fun v9 G10 => wg (vstore T G10 t_api_Hash (.ptr i3 [] 0) v9) fun G11 => wv (vload T G11 t_api_Hash (.ptr i3 [] 0)) fun v12 => Q v12 G11
def dance_sum.an : Ann := .nil
set_option maxRecDepth 100000 in
theorem dance_sum.sound {a0 : AVal} {G : Heap} {Q : AVal → Heap → Prop} (h : dance_sum.S a0 G Q) : ACalls P dance_sum.n [a0] G Q := by
  have e : dance_sum.S a0 G Q = awp cx (dance_sum.body) dance_sum.an (bodyQ T [.cell 2 23] Q) (envL [a0]) G := by kernel_rfl
  exact ACalls_of_awp cxOk (f := dance_sum.n) (fn := Tryz.f79) (c := dance_sum.body) (an := dance_sum.an) Tryz.func79 (by kernel_rfl) (by kernel_rfl) (by kernel_rfl) (drawsOk_of (by kernel_rfl) (by kernel_rfl)) (by simp [Tryz.f79]) (e ▸ h)

/-! #### escrow/update.Removal -/
def update_Removal.S (a0 a1 : AVal) (G : Heap) (Q : AVal → Heap → Prop) : Prop :=
  aNew G (.own (z_api_Update)) fun i1 G2 => ACalls P update_first.n [a0, a1, .bool true] G2 fun v3 G4 => wv (vextract v3 0) fun v5 => wv (vextract v3 1) fun v6 => wg (vstore T G4 t_api_Update (.ptr i1 [] 0) v5) fun G7 => wv (vload T G7 t_api_Update (.ptr i1 [] 0)) fun v8 => Q (.tuple [v8, v6]) G7
def update_Removal.an : Ann := .nil
set_option maxRecDepth 100000 in
theorem update_Removal.sound {a0 a1 : AVal} {G : Heap} {Q : AVal → Heap → Prop} (h : update_Removal.S a0 a1 G Q) : ACalls P update_Removal.n [a0, a1] G Q := by
  have e : update_Removal.S a0 a1 G Q = awp cx (update_Removal.body) update_Removal.an (bodyQ T [.cell 4 53, .tmp 5] Q) (envL [a0, a1]) G := by kernel_rfl
  exact ACalls_of_awp cxOk (f := update_Removal.n) (fn := Tryz.f108) (c := update_Removal.body) (an := update_Removal.an) Tryz.func108 (by kernel_rfl) (by kernel_rfl) (by kernel_rfl) (drawsOk_of (by kernel_rfl) (by kernel_rfl)) (by simp [Tryz.f108]) (e ▸ h)

/-! #### escrow/dance.removes -/
def dance_removes.S (a0 a1 : AVal) (G : Heap) (Q : AVal → Heap → Prop) : Prop :=
  aNew G (.own (a0)) fun i1 G2 => aNew G2 (.own (a1)) fun i3 G4 => aNew G4 (.own (z_api_Record)) fun i5 G6 => wv (vload T G6 t_api_State (.ptr i1 [] 0)) fun v7 => ACalls P dance_dead.n [v7] G6 fun v8 G9 => brB (some v8)
  (wv (vbuild T t_api_Record []) fun v10 => wg (vstore T G9 t_api_Record (.ptr i5 [] 0) v10) fun G11 => wv (vload T G11 t_api_Record (.ptr i5 [] 0)) fun v12 => Q (.tuple [v12, .int .i64 220]) G11)
  (wv (vload T G9 t_sl_api_Update (.ptr i1 [5] 5)) fun v13 => wv (vload T G9 t_api_State (.ptr i1 [] 0)) fun v14 => wv (vload T G9 t_int64 (.ptr i3 [1] 1)) fun v15 => ACalls P dance_Fixed.n [v14] G9 fun v16 G17 => (vload T G17 t_int64 (.ptr i3 [1] 1) = some v15 ∧ vload T G17 t_sl_api_Update (.ptr i1 [5] 5) = some v13 ∧ True) ∧ (wv (vfield T t_api_Counts v16 1) fun v18 => ACalls P dance_first.n [v13, v18] G17 fun v19 G20 => (vload T G20 t_int64 (.ptr i3 [1] 1) = some v15 ∧ True) ∧ (ACalls P update_Find.n [v19, v15] G20 fun v21 G22 => wv (vextract v21 0) fun v23 => wv (vextract v21 1) fun v24 => aNew G22 (.own (z_api_Update)) fun i25 G26 => wg (vstore T G26 t_api_Update (.ptr i25 [] 0) v23) fun G27 => wv (vload T G27 t_sl_api_Update (.ptr i1 [4] 4)) fun v28 => wv (vload T G27 t_int64 (.ptr i3 [1] 1)) fun v29 => ACalls P update_Removal.n [v28, v29] G27 fun v30 G31 => wv (vextract v30 0) fun v32 => wv (vextract v30 1) fun v33 => aNew G31 (.own (z_api_Update)) fun i34 G35 => wg (vstore T G35 t_api_Update (.ptr i34 [] 0) v32) fun G36 => let J67 : AVal → Heap → Prop := (fun x52 G51 => brB (some x52)
  (wv (vbuild T t_api_Record []) fun v53 => wg (vstore T G51 t_api_Record (.ptr i5 [] 0) v53) fun G54 => wv (vload T G54 t_api_Record (.ptr i5 [] 0)) fun v55 => Q (.tuple [v55, .int .i64 120]) G54)
  (wv (vload T G51 t_api_State (.ptr i1 [] 0)) fun v56 => ACalls P dance_full.n [v56] G51 fun v57 G58 => brB (some v57)
  (wv (vbuild T t_api_Record []) fun v59 => wg (vstore T G58 t_api_Record (.ptr i5 [] 0) v59) fun G60 => wv (vload T G60 t_api_Record (.ptr i5 [] 0)) fun v61 => Q (.tuple [v61, .int .i64 6]) G60)
  (wv (vload T G58 t_api_Update (.ptr i3 [] 0)) fun v62 => ACalls P dance_mine.n [v62] G58 fun v63 G64 => wg (vstore T G64 t_api_Record (.ptr i5 [] 0) v63) fun G65 => wv (vload T G65 t_api_Record (.ptr i5 [] 0)) fun v66 => Q (.tuple [v66, .int .i64 0]) G65)));
  wv (vun .not v24) fun v37 => brB (some v37)
  (J67 (.bool true) G36)
  (brB (some v33)
  (J67 (.bool true) G36)
  (wv (vload T G36 t_int (.ptr i3 [0] 0)) fun v38 => wv (vbin T .eql t_int v38 (.int .i64 2)) fun v39 => brB (some v39)
  (wv (vload T G36 t_api_Hash (.ptr i3 [3] 3)) fun v40 => wv (vload T G36 t_api_Hash (.ptr i25 [3] 3)) fun v41 => ACalls P dance_sum.n [v40] G36 fun v42 G43 => (vload T G43 t_api_Hash (.ptr i25 [3] 3) = some v41 ∧ True) ∧ (wv (vbin T .neq t_api_Hash v42 v41) fun v44 => brB (some v44)
  (J67 (.bool true) G43)
  (wv (vload T G43 t_string (.ptr i3 [4] 35)) fun v45 => wv (vlen T G43 t_string v45) fun v46 => wv (vbin T .gtr t_int v46 (.int .i64 64)) fun v47 => J67 v47 G43)))
  (wv (vload T G36 t_string (.ptr i3 [4] 35)) fun v48 => wv (vlen T G36 t_string v48) fun v49 => wv (vbin T .gtr t_int v49 (.int .i64 64)) fun v50 => J67 v50 G36))))))
def dance_removes.an : Ann := .two (.nil) (.two (.nil) (.two (.ord [(0, []), (1, []), (2, []), (6, []), (7, []), (3, [1, 7]), (4, []), (5, [7]), (8, []), (9, []), (10, []), (11, []), (12, []), (13, []), (14, [])]) (.two (.nil) (.two (.two (.ord [(0, []), (1, []), (2, []), (3, []), (4, []), (5, []), (6, []), (7, []), (8, []), (9, []), (10, []), (11, []), (13, []), (14, []), (12, [14]), (15, []), (16, []), (17, []), (18, []), (19, []), (20, []), (21, []), (22, []), (23, [])]) (.nil)) (.nil)))))
set_option maxRecDepth 100000 in
theorem dance_removes.sound {a0 a1 : AVal} {G : Heap} {Q : AVal → Heap → Prop} (h : dance_removes.S a0 a1 G Q) : ACalls P dance_removes.n [a0, a1] G Q := by
  have e : dance_removes.S a0 a1 G Q = awp cx (dance_removes.body) dance_removes.an (bodyQ T [.cell 4 55, .tmp 5] Q) (envL [a0, a1]) G := by kernel_rfl
  exact ACalls_of_awp cxOk (f := dance_removes.n) (fn := Tryz.f53) (c := dance_removes.body) (an := dance_removes.an) Tryz.func53 (by kernel_rfl) (by kernel_rfl) (by kernel_rfl) (drawsOk_of (by kernel_rfl) (by kernel_rfl)) (by simp [Tryz.f53]) (e ▸ h)

/-! #### escrow/dance.Settle -/
def dance_Settle.S (a0 a1 a2 : AVal) (G : Heap) (Q : AVal → Heap → Prop) : Prop :=
  aNew G (.own (a0)) fun i1 G2 => aNew G2 (.own (a2)) fun i3 G4 => aNew G4 (.own (z_api_Record)) fun i5 G6 => wv (vload T G6 t_api_State (.ptr i1 [] 0)) fun v7 => wv (vload T G6 t_api_Hash (.ptr i3 [] 0)) fun v8 => wv (vbuild T t_api_Update [(0, .int .i64 2), (1, a1), (3, v8)]) fun v9 => ACalls P dance_removes.n [v7, v9] G6 fun v10 G11 => wv (vextract v10 0) fun v12 => wv (vextract v10 1) fun v13 => wg (vstore T G11 t_api_Record (.ptr i5 [] 0) v12) fun G14 => wv (vload T G14 t_api_Record (.ptr i5 [] 0)) fun v15 => Q (.tuple [v15, v13]) G14
def dance_Settle.an : Ann := .nil
set_option maxRecDepth 100000 in
theorem dance_Settle.sound {a0 a1 a2 : AVal} {G : Heap} {Q : AVal → Heap → Prop} (h : dance_Settle.S a0 a1 a2 G Q) : ACalls P dance_Settle.n [a0, a1, a2] G Q := by
  have e : dance_Settle.S a0 a1 a2 G Q = awp cx (dance_Settle.body) dance_Settle.an (bodyQ T [.cell 6 55, .tmp 7] Q) (envL [a0, a1, a2]) G := by kernel_rfl
  exact ACalls_of_awp cxOk (f := dance_Settle.n) (fn := Tryz.f19) (c := dance_Settle.body) (an := dance_Settle.an) Tryz.func19 (by kernel_rfl) (by kernel_rfl) (by kernel_rfl) (drawsOk_of (by kernel_rfl) (by kernel_rfl)) (by simp [Tryz.f19]) (e ▸ h)

/-! #### escrow/dance.Refuse -/
def dance_Refuse.S (a0 a1 a2 : AVal) (G : Heap) (Q : AVal → Heap → Prop) : Prop :=
  aNew G (.own (a0)) fun i1 G2 => aNew G2 (.own (z_api_Record)) fun i3 G4 => wv (vload T G4 t_api_State (.ptr i1 [] 0)) fun v5 => wv (vbuild T t_api_Update [(0, .int .i64 3), (1, a1), (4, a2)]) fun v6 => ACalls P dance_removes.n [v5, v6] G4 fun v7 G8 => wv (vextract v7 0) fun v9 => wv (vextract v7 1) fun v10 => wg (vstore T G8 t_api_Record (.ptr i3 [] 0) v9) fun G11 => wv (vload T G11 t_api_Record (.ptr i3 [] 0)) fun v12 => Q (.tuple [v12, v10]) G11
def dance_Refuse.an : Ann := .nil
set_option maxRecDepth 100000 in
theorem dance_Refuse.sound {a0 a1 a2 : AVal} {G : Heap} {Q : AVal → Heap → Prop} (h : dance_Refuse.S a0 a1 a2 G Q) : ACalls P dance_Refuse.n [a0, a1, a2] G Q := by
  have e : dance_Refuse.S a0 a1 a2 G Q = awp cx (dance_Refuse.body) dance_Refuse.an (bodyQ T [.cell 6 55, .tmp 7] Q) (envL [a0, a1, a2]) G := by kernel_rfl
  exact ACalls_of_awp cxOk (f := dance_Refuse.n) (fn := Tryz.f21) (c := dance_Refuse.body) (an := dance_Refuse.an) Tryz.func21 (by kernel_rfl) (by kernel_rfl) (by kernel_rfl) (drawsOk_of (by kernel_rfl) (by kernel_rfl)) (by simp [Tryz.f21]) (e ▸ h)

/-! #### escrow/commit.Turn -/
def commit_Turn.S (a0 : AVal) (G : Heap) (Q : AVal → Heap → Prop) : Prop :=
  aNew G (.own (a0)) fun i1 G2 => aNew G2 (.own (z_api_Ledger)) fun i3 G4 => wv (vload T G4 t_int64 (.ptr i1 [1] 1)) fun v5 => wv (vload T G4 t_int64 (.ptr i1 [0] 0)) fun v6 => wv (vbuild T t_api_Ledger [(0, v5), (1, v6)]) fun v7 => aNew G4 (.own (z_api_Ledger)) fun i8 G9 => wg (vstore T G9 t_api_Ledger (.ptr i8 [] 0) v7) fun G10 => aBuildSlice T t_sl_bool 2 [(0, .bool true), (1, .bool false)] G10 fun v11 G12 => wv (vlen T G12 t_sl_bool v11) fun v13 => ∀ R14 : List AVal → Heap → Prop,
  (∀ (x16 x17 x18 x19 x20 x21 : AVal) (G15 : Heap), (wv (vbin T .lss t_int x21 x20) fun v22 => brB (some v22)
  (wv (viaddr T t_sl_bool x19 x21) fun v23 => wv (vload T G15 t_bool v23) fun v24 => wv (vfaddr T t_api_Ledger x16 2) fun v25 => wv (vload T G15 t_sl_api_Pending v25) fun v26 => wv (vlen T G15 t_sl_api_Pending v26) fun v27 => ∀ R28 : List AVal → Heap → Prop,
  (∀ (x30 x31 x32 x33 x34 x35 x36 x37 x38 x39 : AVal) (G29 : Heap), (wv (vbin T .lss t_int x39 x38) fun v40 => brB (some v40)
  (wv (viaddr T t_sl_api_Pending x37 x39) fun v41 => wv (vload T G29 t_api_Pending v41) fun v42 => aNew G29 (.own (z_api_Pending)) fun i43 G44 => wg (vstore T G44 t_api_Pending (.ptr i43 [] 0) v42) fun G45 => wv (vload T G45 t_bool (.ptr i43 [0] 0)) fun v46 => wv (vbin T .neq t_bool v46 x33) fun v47 => brB (some v47)
  (wg (vstore T G45 t_bool (.ptr i43 [0] 0) x33) fun G48 => wv (vfaddr T t_api_Ledger x32 2) fun v49 => wv (vload T G48 t_sl_api_Pending v49) fun v50 => wv (vload T G48 t_api_Pending (.ptr i43 [] 0)) fun v51 => aBuildSlice T t_sl_api_Pending 1 [(0, v51)] G48 fun v52 G53 => aAppend T G53 t_sl_api_Pending t_sl_api_Pending v50 v52 fun v54 G55 => wv (vfaddr T t_api_Ledger x32 2) fun v56 => wg (vstore T G55 t_sl_api_Pending v56 v54) fun G57 => wv (vbin T .add t_int x39 (.int .i64 1)) fun v61 => R28 [x30, x31, x32, x33, x34, x35, x36, x37, x38, v61] G57)
  (wv (vbin T .add t_int x39 (.int .i64 1)) fun v62 => R28 [x30, x31, x32, x33, x34, x35, x36, x37, x38, v62] G45))
  (wv (vbin T .add t_int x36 (.int .i64 1)) fun v63 => R14 [x30, x31, x32, x34, x35, v63] G29)) → R28 [x30, x31, x32, x33, x34, x35, x36, x37, x38, x39] G29) →
  R28 [x16, x17, x18, v24, x19, x20, x21, v26, v27, .int .i64 0] G15)
  (wv (vload T G15 t_api_Ledger x18) fun v64 => wg (vstore T G15 t_api_Ledger x17 v64) fun G65 => wv (vload T G65 t_api_Ledger x17) fun v66 => Q v66 G65)) → R14 [x16, x17, x18, x19, x20, x21] G15) →
  R14 [.ptr i1 [] 0, .ptr i3 [] 0, .ptr i8 [] 0, v11, v13, .int .i64 0] G12
def commit_Turn.an : Ann := .two (.nil) (.two (.nil) (.two (.two (.nil) (.loop [1, 2, 3, 13, 14, 15] (.two (.nil) (.two (.nil) (.two (.two (.nil) (.two (.nil) (.loop [1, 2, 3, 5, 13, 14, 15, 20, 21, 22] (.nil)))) (.nil)))))) (.nil)))
set_option maxRecDepth 100000 in
theorem commit_Turn.sound {a0 : AVal} {G : Heap} {Q : AVal → Heap → Prop} (h : commit_Turn.S a0 G Q) : ACalls P commit_Turn.n [a0] G Q := by
  have e : commit_Turn.S a0 G Q = awp cx (commit_Turn.body) commit_Turn.an (bodyQ T [.cell 2 94] Q) (envL [a0]) G := by kernel_rfl
  exact ACalls_of_awp cxOk (f := commit_Turn.n) (fn := Tryz.f74) (c := commit_Turn.body) (an := commit_Turn.an) Tryz.func74 (by kernel_rfl) (by kernel_rfl) (by kernel_rfl) (drawsOk_of (by kernel_rfl) (by kernel_rfl)) (by simp [Tryz.f74]) (e ▸ h)

/-! #### escrow/dance.Again -/
def dance_Again.S (a0 a1 : AVal) (G : Heap) (Q : AVal → Heap → Prop) : Prop :=
  aNew G (.own (a0)) fun i1 G2 => aNew G2 (.own (a1)) fun i3 G4 => aNew G4 (.own (z_api_Message)) fun i5 G6 => wv (viaddr T t_ar2_api_Hash (.ptr i3 [13] 16) (.int .i64 0)) fun v7 => wv (vload T G6 t_api_Hash v7) fun v8 => aNew G6 (.own (z_api_Hash)) fun i9 G10 => wg (vstore T G10 t_api_Hash (.ptr i9 [] 0) v8) fun G11 => wv (vload T G11 t_int64 (.ptr i3 [7] 7)) fun v12 => wv (vload T G11 t_int64 (.ptr i3 [8] 8)) fun v13 => wv (vbin T .neq t_int64 v12 v13) fun v14 => let J49 : Heap → Prop := (fun G18 => wv (vload T G18 t_int64 (.ptr i3 [2] 2)) fun v19 => wv (vload T G18 t_int64 (.ptr i3 [3] 3)) fun v20 => wv (vload T G18 t_sl_api_Update (.ptr i3 [4] 4)) fun v21 => wv (vload T G18 t_sl_api_Update (.ptr i3 [5] 5)) fun v22 => wv (vload T G18 t_api_Counts (.ptr i3 [10] 11)) fun v23 => ACalls P ledger_Fold.n [v19, v20, v21, v22, v23] G18 fun v24 G25 => wv (vextract v24 0) fun v26 => wv (vextract v24 1) fun v27 => aNew G25 (.own (z_api_Ledger)) fun i28 G29 => wg (vstore T G29 t_api_Ledger (.ptr i28 [] 0) v26) fun G30 => wv (vload T G30 t_int (.ptr i3 [0] 0)) fun v31 => wv (vbin T .sub t_int (.int .i64 1) v31) fun v32 => wv (vload T G30 t_int64 (.ptr i3 [7] 7)) fun v33 => wv (vload T G30 t_api_Hash (.ptr i9 [] 0)) fun v34 => wv (vload T G30 t_api_Ledger (.ptr i28 [] 0)) fun v35 => ACalls P commit_Turn.n [v35] G30 fun v36 G37 => (vload T G37 t_api_Hash (.ptr i9 [] 0) = some v34 ∧ vload T G37 t_int64 (.ptr i3 [7] 7) = some v33 ∧ vload T G37 t_int (.ptr i3 [0] 0) = some v31 ∧ True) ∧ (ACalls P commit_Text.n [v32, v33, v34, v36] G37 fun v38 G39 => wv (vextract v38 0) fun v40 => wv (vextract v38 1) fun v41 => wv (vload T G39 t_int64 (.ptr i3 [7] 7)) fun v42 => wv (vload T G39 t_api_Hash (.ptr i1 [4] 35)) fun v43 => ACalls P seal_Sign.n [v43, v40] G39 fun v44 G45 => (vload T G45 t_int64 (.ptr i3 [7] 7) = some v42 ∧ True) ∧ (wv (vbuild T t_api_Message [(0, .int .i64 4), (3, v42), (5, v44)]) fun v46 => wg (vstore T G45 t_api_Message (.ptr i5 [] 0) v46) fun G47 => wv (vload T G47 t_api_Message (.ptr i5 [] 0)) fun v48 => Q v48 G47)));
  brB (some v14)
  (wv (viaddr T t_ar2_api_Hash (.ptr i3 [13] 16) (.int .i64 1)) fun v15 => wv (vload T G11 t_api_Hash v15) fun v16 => wg (vstore T G11 t_api_Hash (.ptr i9 [] 0) v16) fun G17 => J49 G17)
  (J49 G11)
def dance_Again.an : Ann := .two (.nil) (.two (.nil) (.two (.nil) (.two (.nil) (.two (.ord [(0, []), (1, []), (2, []), (3, []), (4, []), (5, []), (6, []), (7, [1, 4, 5]), (8, []), (9, []), (10, []), (11, []), (12, []), (13, [])]) (.two (.ord [(0, []), (1, []), (2, []), (3, []), (4, []), (5, [1]), (6, []), (7, [])]) (.nil))))))
set_option maxRecDepth 100000 in
theorem dance_Again.sound {a0 a1 : AVal} {G : Heap} {Q : AVal → Heap → Prop} (h : dance_Again.S a0 a1 G Q) : ACalls P dance_Again.n [a0, a1] G Q := by
  have e : dance_Again.S a0 a1 G Q = awp cx (dance_Again.body) dance_Again.an (bodyQ T [.cell 4 48] Q) (envL [a0, a1]) G := by kernel_rfl
  exact ACalls_of_awp cxOk (f := dance_Again.n) (fn := Tryz.f33) (c := dance_Again.body) (an := dance_Again.an) Tryz.func33 (by kernel_rfl) (by kernel_rfl) (by kernel_rfl) (drawsOk_of (by kernel_rfl) (by kernel_rfl)) (by simp [Tryz.f33]) (e ▸ h)

/-! #### escrow/update.adds -/
def update_adds.S (a0 : AVal) (G : Heap) (Q : AVal → Heap → Prop) : Prop :=
  wv (vlen T G t_sl_api_Update a0) fun v1 => ∀ R2 : List AVal → Heap → Prop,
  (∀ (x4 x5 x6 x7 : AVal) (G3 : Heap), (wv (vbin T .lss t_int x7 x6) fun v8 => brB (some v8)
  (wv (viaddr T t_sl_api_Update x5 x7) fun v9 => wv (vload T G3 t_api_Update v9) fun v10 => aNew G3 (.own (z_api_Update)) fun i11 G12 => wg (vstore T G12 t_api_Update (.ptr i11 [] 0) v10) fun G13 => wv (vload T G13 t_int (.ptr i11 [0] 0)) fun v14 => wv (vbin T .eql t_int v14 (.int .i64 1)) fun v15 => brB (some v15)
  (wv (vbin T .add t_int64 x4 (.int .i64 1)) fun v16 => wv (vbin T .add t_int x7 (.int .i64 1)) fun v22 => R2 [v16, x5, x6, v22] G13)
  (wv (vbin T .add t_int x7 (.int .i64 1)) fun v23 => R2 [x4, x5, x6, v23] G13))
  (Q x4 G3)) → R2 [x4, x5, x6, x7] G3) →
  R2 [.int .i64 0, a0, v1, .int .i64 0] G
def update_adds.an : Ann := .two (.nil) (.two (.nil) (.two (.two (.nil) (.loop [3, 6, 7, 8] (.nil))) (.nil)))
set_option maxRecDepth 100000 in
theorem update_adds.sound {a0 : AVal} {G : Heap} {Q : AVal → Heap → Prop} (h : update_adds.S a0 G Q) : ACalls P update_adds.n [a0] G Q := by
  have e : update_adds.S a0 G Q = awp cx (update_adds.body) update_adds.an (bodyQ T [.tmp 2] Q) (envL [a0]) G := by kernel_rfl
  exact ACalls_of_awp cxOk (f := update_adds.n) (fn := Tryz.f136) (c := update_adds.body) (an := update_adds.an) Tryz.func136 (by kernel_rfl) (by kernel_rfl) (by kernel_rfl) (drawsOk_of (by kernel_rfl) (by kernel_rfl)) (by simp [Tryz.f136]) (e ▸ h)

/-! #### escrow/update.Next -/
def update_Next.S (a0 a1 a2 : AVal) (G : Heap) (Q : AVal → Heap → Prop) : Prop :=
  aNew G (.own (a2)) fun i1 G2 => wv (vlen T G2 t_sl_api_Update a0) fun v3 => wv (vbin T .geq t_int v3 (.int .i64 2048)) fun v4 => brB (some v4)
  (Q (.int .i64 6) G2)
  (wv (vload T G2 t_api_Update (.ptr i1 [] 0)) fun v5 => ACalls P update_Valid.n [v5] G2 fun v6 G7 => wv (vun .not v6) fun v8 => brB (some v8)
  (Q (.int .i64 120) G7)
  (wv (vload T G7 t_int (.ptr i1 [0] 0)) fun v9 => wv (vbin T .eql t_int v9 (.int .i64 1)) fun v10 => brB (some v10)
  (wv (vload T G7 t_int64 (.ptr i1 [1] 1)) fun v11 => ACalls P update_adds.n [a0] G7 fun v12 G13 => (vload T G13 t_int64 (.ptr i1 [1] 1) = some v11 ∧ True) ∧ (wv (vbin T .neq t_int64 v11 v12) fun v14 => brB (some v14)
  (Q (.int .i64 120) G13)
  (Q (.int .i64 0) G13)))
  (wv (vload T G7 t_int64 (.ptr i1 [1] 1)) fun v15 => ACalls P update_Find.n [a1, v15] G7 fun v16 G17 => wv (vextract v16 0) fun v18 => wv (vextract v16 1) fun v19 => aNew G17 (.own (z_api_Update)) fun i20 G21 => wg (vstore T G21 t_api_Update (.ptr i20 [] 0) v18) fun G22 => wv (vload T G22 t_int64 (.ptr i1 [1] 1)) fun v23 => ACalls P update_Removal.n [a0, v23] G22 fun v24 G25 => wv (vextract v24 0) fun v26 => wv (vextract v24 1) fun v27 => aNew G25 (.own (z_api_Update)) fun i28 G29 => wg (vstore T G29 t_api_Update (.ptr i28 [] 0) v26) fun G30 => wv (vun .not v19) fun v31 => brB (some v31)
  (Q (.int .i64 120) G30)
  (brB (some v27)
  (Q (.int .i64 120) G30)
  (wv (vload T G30 t_int (.ptr i1 [0] 0)) fun v32 => wv (vbin T .eql t_int v32 (.int .i64 2)) fun v33 => brB (some v33)
  (wv (vslice T t_api_Hash (.ptr i1 [3] 3) none none none) fun v34 => wv (vconv T G30 t_sl_uint8 t_string v34) fun v35 => wv (vload T G30 t_api_Hash (.ptr i20 [3] 3)) fun v36 => aBuildSlice T t_sl_string 1 [(0, v35)] G30 fun v37 G38 => ACalls P hash_Sum.n [v37] G38 fun v39 G40 => (vload T G40 t_api_Hash (.ptr i20 [3] 3) = some v36 ∧ True) ∧ (wv (vbin T .neq t_api_Hash v39 v36) fun v41 => brB (some v41)
  (Q (.int .i64 120) G40)
  (Q (.int .i64 0) G40)))
  (Q (.int .i64 0) G30))))))
def update_Next.an : Ann := .two (.nil) (.two (.nil) (.two (.nil) (.two (.two (.nil) (.two (.two (.two (.ord [(0, []), (1, []), (2, []), (3, [1]), (4, [])]) (.nil)) (.nil)) (.nil))) (.two (.nil) (.two (.nil) (.two (.two (.ord [(0, []), (1, []), (2, []), (3, []), (4, []), (5, []), (6, []), (7, []), (8, []), (9, []), (10, []), (11, []), (12, []), (15, []), (16, []), (13, []), (14, [16]), (17, []), (18, []), (19, [])]) (.nil)) (.nil)))))))
set_option maxRecDepth 100000 in
theorem update_Next.sound {a0 a1 a2 : AVal} {G : Heap} {Q : AVal → Heap → Prop} (h : update_Next.S a0 a1 a2 G Q) : ACalls P update_Next.n [a0, a1, a2] G Q := by
  have e : update_Next.S a0 a1 a2 G Q = awp cx (update_Next.body) update_Next.an (bodyQ T [.tmp 6] Q) (envL [a0, a1, a2]) G := by kernel_rfl
  exact ACalls_of_awp cxOk (f := update_Next.n) (fn := Tryz.f76) (c := update_Next.body) (an := update_Next.an) Tryz.func76 (by kernel_rfl) (by kernel_rfl) (by kernel_rfl) (drawsOk_of (by kernel_rfl) (by kernel_rfl)) (by simp [Tryz.f76]) (e ▸ h)

/-! #### escrow/dance.Heard -/
def dance_Heard.S (a0 a1 : AVal) (G : Heap) (Q : AVal → Heap → Prop) : Prop :=
  aNew G (.own (a0)) fun i1 G2 => aNew G2 (.own (a1)) fun i3 G4 => wv (vload T G4 t_api_State (.ptr i1 [] 0)) fun v5 => ACalls P dance_Fixed.n [v5] G4 fun v6 G7 => aNew G7 (.own (z_api_Counts)) fun i8 G9 => wg (vstore T G9 t_api_Counts (.ptr i8 [] 0) v6) fun G10 => let J78 : Heap → Prop := (fun G55 => wv (vload T G55 t_sl_api_Update (.ptr i1 [4] 4)) fun v56 => wv (vload T G55 t_int (.ptr i8 [0] 0)) fun v57 => wv (vload T G55 t_int64 (.ptr i3 [1] 1)) fun v58 => ACalls P dance_first.n [v56, v57] G55 fun v59 G60 => (vload T G60 t_int64 (.ptr i3 [1] 1) = some v58 ∧ True) ∧ (ACalls P update_Find.n [v59, v58] G60 fun v61 G62 => wv (vextract v61 0) fun v63 => wv (vextract v61 1) fun v64 => aNew G62 (.own (z_api_Update)) fun i65 G66 => wg (vstore T G66 t_api_Update (.ptr i65 [] 0) v63) fun G67 => wv (vun .not v64) fun v68 => brB (some v68)
  (Q (.int .i64 120) G67)
  (wv (vload T G67 t_int (.ptr i3 [0] 0)) fun v69 => wv (vbin T .eql t_int v69 (.int .i64 2)) fun v70 => brB (some v70)
  (wv (vload T G67 t_api_Hash (.ptr i3 [3] 3)) fun v71 => wv (vload T G67 t_api_Hash (.ptr i65 [3] 3)) fun v72 => ACalls P dance_sum.n [v71] G67 fun v73 G74 => (vload T G74 t_api_Hash (.ptr i65 [3] 3) = some v72 ∧ True) ∧ (wv (vbin T .neq t_api_Hash v73 v72) fun v75 => brB (some v75)
  (Q (.int .i64 120) G74)
  (Q (.int .i64 0) G74)))
  (Q (.int .i64 0) G67))));
  wv (vload T G10 t_api_State (.ptr i1 [] 0)) fun v11 => ACalls P dance_dead.n [v11] G10 fun v12 G13 => brB (some v12)
  (Q (.int .i64 220) G13)
  (wv (vload T G13 t_sl_api_Update (.ptr i1 [5] 5)) fun v14 => wv (vlen T G13 t_sl_api_Update v14) fun v15 => wv (vload T G13 t_int (.ptr i1 [9, 1] 10)) fun v16 => wv (vbin T .sub t_int v15 v16) fun v17 => wv (vbin T .geq t_int v17 (.int .i64 512)) fun v18 => brB (some v18)
  (Q (.int .i64 131) G13)
  (wv (vload T G13 t_sl_api_Update (.ptr i1 [5] 5)) fun v19 => wv (vload T G13 t_sl_api_Update (.ptr i1 [4] 4)) fun v20 => wv (vload T G13 t_api_Update (.ptr i3 [] 0)) fun v21 => ACalls P update_Next.n [v19, v20, v21] G13 fun v22 G23 => wv (vbin T .neq t_api_Errno v22 (.int .i64 0)) fun v24 => brB (some v24)
  (Q (.int .i64 120) G23)
  (let J51 : AVal → Heap → Prop := (fun x34 G33 => brB (some x34)
  (Q (.int .i64 131) G33)
  (wv (vload T G33 t_int (.ptr i3 [0] 0)) fun v35 => wv (vbin T .eql t_int v35 (.int .i64 1)) fun v36 => brB (some v36)
  (wv (vload T G33 t_int64 (.ptr i3 [2] 2)) fun v37 => wv (vload T G33 t_api_State (.ptr i1 [] 0)) fun v38 => ACalls P dance_PeerSpendable.n [v38] G33 fun v39 G40 => (vload T G40 t_int64 (.ptr i3 [2] 2) = some v37 ∧ True) ∧ (wv (vbin T .gtr t_int64 v37 v39) fun v41 => brB (some v41)
  (Q (.int .i64 130) G40)
  (wv (vload T G40 t_int (.ptr i3 [0] 0)) fun v46 => wv (vbin T .eql t_int v46 (.int .i64 1)) fun v47 => brB (some v47)
  (Q (.int .i64 0) G40)
  (J78 G40))))
  (wv (vload T G33 t_int (.ptr i3 [0] 0)) fun v48 => wv (vbin T .eql t_int v48 (.int .i64 1)) fun v49 => brB (some v49)
  (Q (.int .i64 0) G33)
  (J78 G33))));
  wv (vload T G23 t_int (.ptr i3 [0] 0)) fun v25 => wv (vbin T .eql t_int v25 (.int .i64 1)) fun v26 => brB (some v26)
  (wv (vload T G23 t_sl_api_Update (.ptr i1 [5] 5)) fun v27 => wv (vload T G23 t_sl_api_Update (.ptr i1 [4] 4)) fun v28 => wv (vload T G23 t_int (.ptr i8 [0] 0)) fun v29 => ACalls P ledger_Open.n [v27, v28, v29] G23 fun v30 G31 => wv (vbin T .geq t_int v30 (.int .i64 483)) fun v32 => J51 v32 G31)
  (J51 (.bool false) G23))))
def dance_Heard.an : Ann := .two (.nil) (.two (.nil) (.two (.two (.nil) (.two (.nil) (.two (.nil) (.two (.nil) (.two (.nil) (.two (.nil) (.two (.nil) (.two (.nil) (.two (.ord [(0, []), (1, []), (2, []), (3, []), (4, []), (5, []), (6, []), (7, [5]), (8, []), (9, []), (10, [])]) (.nil)))))))))) (.two (.ord [(0, []), (1, []), (2, []), (3, []), (5, []), (6, []), (4, [6]), (7, []), (8, []), (9, []), (10, []), (11, []), (12, []), (13, [])]) (.two (.two (.ord [(0, []), (1, []), (2, []), (3, []), (4, []), (5, []), (6, []), (7, []), (8, []), (10, []), (11, []), (9, [11]), (12, []), (13, []), (14, [])]) (.nil)) (.nil)))))
set_option maxRecDepth 100000 in
theorem dance_Heard.sound {a0 a1 : AVal} {G : Heap} {Q : AVal → Heap → Prop} (h : dance_Heard.S a0 a1 G Q) : ACalls P dance_Heard.n [a0, a1] G Q := by
  have e : dance_Heard.S a0 a1 G Q = awp cx (dance_Heard.body) dance_Heard.an (bodyQ T [.tmp 4] Q) (envL [a0, a1]) G := by kernel_rfl
  exact ACalls_of_awp cxOk (f := dance_Heard.n) (fn := Tryz.f34) (c := dance_Heard.body) (an := dance_Heard.an) Tryz.func34 (by kernel_rfl) (by kernel_rfl) (by kernel_rfl) (drawsOk_of (by kernel_rfl) (by kernel_rfl)) (by simp [Tryz.f34]) (e ▸ h)

/-! #### escrow/dance.Reveal -/
def dance_Reveal.S (a0 a1 : AVal) (G : Heap) (Q : AVal → Heap → Prop) : Prop :=
  aNew G (.own (a0)) fun i1 G2 => aNew G2 (.own (z_api_Message)) fun i3 G4 => let J36 : AVal → Heap → Prop := (fun x8 G7 => brB (some x8)
  (wv (vbuild T t_api_Message []) fun v9 => wg (vstore T G7 t_api_Message (.ptr i3 [] 0) v9) fun G10 => wv (vload T G10 t_api_Message (.ptr i3 [] 0)) fun v11 => Q v11 G10)
  (wv (vload T G7 t_api_Hash (.ptr i1 [3] 3)) fun v12 => ACalls P seed_Secret.n [v12, a1] G7 fun v13 G14 => wv (vextract v13 0) fun v15 => wv (vextract v13 1) fun v16 => aNew G14 (.own (z_api_Hash)) fun i17 G18 => wg (vstore T G18 t_api_Hash (.ptr i17 [] 0) v15) fun G19 => wv (vload T G19 t_api_Hash (.ptr i1 [3] 3)) fun v20 => wv (vbin T .add t_int64 a1 (.int .i64 2)) fun v21 => ACalls P seed_Secret.n [v20, v21] G19 fun v22 G23 => wv (vextract v22 0) fun v24 => wv (vextract v22 1) fun v25 => aNew G23 (.own (z_api_Hash)) fun i26 G27 => wg (vstore T G27 t_api_Hash (.ptr i26 [] 0) v24) fun G28 => wv (vload T G28 t_api_Hash (.ptr i17 [] 0)) fun v29 => wv (vload T G28 t_api_Hash (.ptr i26 [] 0)) fun v30 => ACalls P seed_Point.n [v30] G28 fun v31 G32 => (vload T G32 t_api_Hash (.ptr i17 [] 0) = some v29 ∧ True) ∧ (wv (vbuild T t_api_Message [(0, .int .i64 5), (3, a1), (6, v29), (5, v31)]) fun v33 => wg (vstore T G32 t_api_Message (.ptr i3 [] 0) v33) fun G34 => wv (vload T G34 t_api_Message (.ptr i3 [] 0)) fun v35 => Q v35 G34)));
  wv (vbin T .lss t_int64 a1 (.int .i64 0)) fun v5 => brB (some v5)
  (J36 (.bool true) G4)
  (wv (vbin T .gtr t_int64 a1 (.int .i64 281474976710653)) fun v6 => J36 v6 G4)
def dance_Reveal.an : Ann := .two (.nil) (.two (.nil) (.two (.nil) (.two (.nil) (.two (.ord [(0, []), (1, []), (2, []), (3, [1]), (4, []), (5, [])]) (.nil)))))
set_option maxRecDepth 100000 in
theorem dance_Reveal.sound {a0 a1 : AVal} {G : Heap} {Q : AVal → Heap → Prop} (h : dance_Reveal.S a0 a1 G Q) : ACalls P dance_Reveal.n [a0, a1] G Q := by
  have e : dance_Reveal.S a0 a1 G Q = awp cx (dance_Reveal.body) dance_Reveal.an (bodyQ T [.cell 4 48] Q) (envL [a0, a1]) G := by kernel_rfl
  exact ACalls_of_awp cxOk (f := dance_Reveal.n) (fn := Tryz.f36) (c := dance_Reveal.body) (an := dance_Reveal.an) Tryz.func36 (by kernel_rfl) (by kernel_rfl) (by kernel_rfl) (drawsOk_of (by kernel_rfl) (by kernel_rfl)) (by simp [Tryz.f36]) (e ▸ h)

/-! #### slices.Clone[[]escrow/api.Slot,escrow/api.Slot] -/
def slices_Clone_escrow_api_Slot_escrow_api_Slot.S (a0 : AVal) (G : Heap) (Q : AVal → Heap → Prop) : Prop :=
  wv (vbin T .eql t_sl_api_Slot a0 (.nilSlice)) fun v1 => brB (some v1)
  (Q (.nilSlice) G)
  (aBuildSlice T t_sl_api_Slot 0 [] G fun v2 G3 => aAppend T G3 t_sl_api_Slot t_sl_api_Slot v2 a0 fun v4 G5 => Q v4 G5)
def slices_Clone_escrow_api_Slot_escrow_api_Slot.an : Ann := .nil
set_option maxRecDepth 100000 in
theorem slices_Clone_escrow_api_Slot_escrow_api_Slot.sound {a0 : AVal} {G : Heap} {Q : AVal → Heap → Prop} (h : slices_Clone_escrow_api_Slot_escrow_api_Slot.S a0 G Q) : ACalls P slices_Clone_escrow_api_Slot_escrow_api_Slot.n [a0] G Q := by
  have e : slices_Clone_escrow_api_Slot_escrow_api_Slot.S a0 G Q = awp cx (slices_Clone_escrow_api_Slot_escrow_api_Slot.body) slices_Clone_escrow_api_Slot_escrow_api_Slot.an (bodyQ T [.tmp 2] Q) (envL [a0]) G := by kernel_rfl
  exact ACalls_of_awp cxOk (f := slices_Clone_escrow_api_Slot_escrow_api_Slot.n) (fn := Tryz.f86) (c := slices_Clone_escrow_api_Slot_escrow_api_Slot.body) (an := slices_Clone_escrow_api_Slot_escrow_api_Slot.an) Tryz.func86 (by kernel_rfl) (by kernel_rfl) (by kernel_rfl) (drawsOk_of (by kernel_rfl) (by kernel_rfl)) (by simp [Tryz.f86]) (e ▸ h)

/-! #### escrow/dance.Cut -/
def dance_Cut.S (a0 : AVal) (G : Heap) (Q : AVal → Heap → Prop) : Prop :=
  aNew G (.own (a0)) fun i1 G2 => aNew G2 (.own (z_api_State)) fun i3 G4 => wv (vload T G4 t_sl_api_Update (.ptr i1 [4] 4)) fun v5 => wv (vload T G4 t_sl_api_Update (.ptr i1 [5] 5)) fun v6 => wv (vload T G4 t_int (.ptr i1 [9, 1] 10)) fun v7 => wv (vload T G4 t_sl_api_Slot (.ptr i1 [15] 112)) fun v8 => ACalls P slices_Clone_escrow_api_Update_escrow_api_Update.n [v5] G4 fun v9 G10 => (vload T G10 t_sl_api_Slot (.ptr i1 [15] 112) = some v8 ∧ vload T G10 t_int (.ptr i1 [9, 1] 10) = some v7 ∧ vload T G10 t_sl_api_Update (.ptr i1 [5] 5) = some v6 ∧ True) ∧ (ACalls P dance_first.n [v6, v7] G10 fun v11 G12 => (vload T G12 t_sl_api_Slot (.ptr i1 [15] 112) = some v8 ∧ True) ∧ (ACalls P slices_Clone_escrow_api_Update_escrow_api_Update.n [v11] G12 fun v13 G14 => (vload T G14 t_sl_api_Slot (.ptr i1 [15] 112) = some v8 ∧ True) ∧ (ACalls P slices_Clone_escrow_api_Slot_escrow_api_Slot.n [v8] G14 fun v15 G16 => wg (vstore T G16 t_sl_api_Update (.ptr i1 [4] 4) v9) fun G17 => wg (vstore T G17 t_sl_api_Update (.ptr i1 [5] 5) v13) fun G18 => wg (vstore T G18 t_sl_api_Slot (.ptr i1 [15] 112) v15) fun G19 => wv (vload T G19 t_api_State (.ptr i1 [] 0)) fun v20 => wg (vstore T G19 t_api_State (.ptr i3 [] 0) v20) fun G21 => wv (vload T G21 t_api_State (.ptr i3 [] 0)) fun v22 => Q v22 G21)))
def dance_Cut.an : Ann := .two (.nil) (.two (.ord [(0, []), (1, []), (3, []), (4, []), (5, []), (6, []), (7, []), (10, []), (11, []), (2, [4, 7, 11]), (13, []), (8, [11]), (9, [11]), (12, []), (14, []), (15, []), (16, []), (17, []), (18, [])]) (.nil))
set_option maxRecDepth 100000 in
theorem dance_Cut.sound {a0 : AVal} {G : Heap} {Q : AVal → Heap → Prop} (h : dance_Cut.S a0 G Q) : ACalls P dance_Cut.n [a0] G Q := by
  have e : dance_Cut.S a0 G Q = awp cx (dance_Cut.body) dance_Cut.an (bodyQ T [.cell 2 40] Q) (envL [a0]) G := by kernel_rfl
  exact ACalls_of_awp cxOk (f := dance_Cut.n) (fn := Tryz.f38) (c := dance_Cut.body) (an := dance_Cut.an) Tryz.func38 (by kernel_rfl) (by kernel_rfl) (by kernel_rfl) (drawsOk_of (by kernel_rfl) (by kernel_rfl)) (by simp [Tryz.f38]) (e ▸ h)

end Go.Esc.M
