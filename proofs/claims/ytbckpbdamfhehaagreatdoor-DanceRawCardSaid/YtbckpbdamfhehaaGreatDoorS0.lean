/- Printed by gen.py (own work): functions of the program YtbckpbdamfhehaaGreatDoor over trees and the abstract heap. -/
import Derived.Test.YtbckpbdamfhehaaGreatDoorT
set_option linter.unusedSimpArgs false
set_option linter.unusedVariables false
namespace Go.Esc.M
open Go Go.Esc Go.Proofs

/-! #### escrow/dance.Fixed -/
def dance_Fixed.S (a0 : AVal) (G : Heap) (Q : AVal → Heap → Prop) : Prop :=
  aNew G (.own (a0)) fun i1 G2 => aNew G2 (.own (z_api_Counts)) fun i3 G4 => wv (vload T G4 t_int (.ptr i1 [9, 0] 9)) fun v5 => wv (vload T G4 t_int (.ptr i1 [11, 0] 13)) fun v6 => wv (vmin2 v5 v6) fun v7 => wv (vload T G4 t_int (.ptr i1 [9, 1] 10)) fun v8 => wv (vload T G4 t_int (.ptr i1 [11, 1] 14)) fun v9 => wv (vmin2 v8 v9) fun v10 => wv (vbuild T t_api_Counts [(0, v7), (1, v10)]) fun v11 => wg (vstore T G4 t_api_Counts (.ptr i3 [] 0) v11) fun G12 => wv (vload T G12 t_api_Counts (.ptr i3 [] 0)) fun v13 => Q v13 G12
def dance_Fixed.an : Ann := .nil
set_option maxRecDepth 100000 in
theorem dance_Fixed.sound {a0 : AVal} {G : Heap} {Q : AVal → Heap → Prop} (h : dance_Fixed.S a0 G Q) : ACalls P dance_Fixed.n [a0] G Q := by
  have e : dance_Fixed.S a0 G Q = awp cx (dance_Fixed.body) dance_Fixed.an (bodyQ T [.cell 2 29] Q) (envL [a0]) G := by kernel_rfl
  exact ACalls_of_awp cxOk (f := dance_Fixed.n) (fn := Tryz.f5) (c := dance_Fixed.body) (an := dance_Fixed.an) Tryz.func5 (by kernel_rfl) (by kernel_rfl) (by kernel_rfl) (drawsOk_of (by kernel_rfl) (by kernel_rfl)) (by simp [Tryz.f5]) (e ▸ h)

/-! #### escrow/update.Valid -/
def update_Valid.S (a0 : AVal) (G : Heap) (Q : AVal → Heap → Prop) : Prop :=
  aNew G (.own (a0)) fun i1 G2 => let J37 : AVal → Heap → Prop := (fun x8 G7 => brB (some x8)
  (Q (.bool false) G7)
  (wv (vload T G7 t_int (.ptr i1 [0] 0)) fun v9 => wv (vbin T .eql t_int v9 (.int .i64 1)) fun v10 => brB (some v10)
  (wv (vload T G7 t_int64 (.ptr i1 [2] 2)) fun v11 => wv (vbin T .geq t_int64 v11 (.int .i64 1)) fun v12 => brB (some v12)
  (wv (vload T G7 t_int64 (.ptr i1 [2] 2)) fun v13 => wv (vbin T .leq t_int64 v13 (.int .i64 1152921504606846976)) fun v14 => brB (some v14)
  (wv (vload T G7 t_string (.ptr i1 [4] 35)) fun v15 => wv (vbin T .eql t_string v15 (.str [])) fun v16 => Q v16 G7)
  (Q (.bool false) G7))
  (Q (.bool false) G7))
  (wv (vbin T .eql t_int v9 (.int .i64 2)) fun v19 => brB (some v19)
  (wv (vload T G7 t_int64 (.ptr i1 [2] 2)) fun v20 => wv (vbin T .eql t_int64 v20 (.int .i64 0)) fun v21 => brB (some v21)
  (wv (vload T G7 t_string (.ptr i1 [4] 35)) fun v22 => wv (vbin T .eql t_string v22 (.str [])) fun v23 => Q v23 G7)
  (Q (.bool false) G7))
  (wv (vbin T .eql t_int v9 (.int .i64 3)) fun v26 => brB (some v26)
  (wv (vload T G7 t_int64 (.ptr i1 [2] 2)) fun v27 => wv (vbin T .eql t_int64 v27 (.int .i64 0)) fun v28 => brB (some v28)
  (wv (vload T G7 t_api_Hash (.ptr i1 [3] 3)) fun v29 => wv (vbuild T t_api_Hash []) fun v30 => wv (vbin T .eql t_api_Hash v29 v30) fun v31 => brB (some v31)
  (wv (vload T G7 t_string (.ptr i1 [4] 35)) fun v32 => wv (vlen T G7 t_string v32) fun v33 => wv (vbin T .leq t_int v33 (.int .i64 64)) fun v34 => Q v34 G7)
  (Q (.bool false) G7))
  (Q (.bool false) G7))
  (Q (.bool false) G7)))));
  wv (vload T G2 t_int64 (.ptr i1 [1] 1)) fun v3 => wv (vbin T .lss t_int64 v3 (.int .i64 0)) fun v4 => brB (some v4)
  (J37 (.bool true) G2)
  (wv (vload T G2 t_int64 (.ptr i1 [1] 1)) fun v5 => wv (vbin T .geq t_int64 v5 (.int .i64 2048)) fun v6 => J37 v6 G2)
def update_Valid.an : Ann := .nil
set_option maxRecDepth 100000 in
theorem update_Valid.sound {a0 : AVal} {G : Heap} {Q : AVal → Heap → Prop} (h : update_Valid.S a0 G Q) : ACalls P update_Valid.n [a0] G Q := by
  have e : update_Valid.S a0 G Q = awp cx (update_Valid.body) update_Valid.an (bodyQ T [.tmp 2] Q) (envL [a0]) G := by kernel_rfl
  exact ACalls_of_awp cxOk (f := update_Valid.n) (fn := Tryz.f67) (c := update_Valid.body) (an := update_Valid.an) Tryz.func67 (by kernel_rfl) (by kernel_rfl) (by kernel_rfl) (drawsOk_of (by kernel_rfl) (by kernel_rfl)) (by simp [Tryz.f67]) (e ▸ h)

/-! #### escrow/ledger.removals -/
def ledger_removals.S (a0 : AVal) (G : Heap) (Q : AVal → Heap → Prop) : Prop :=
  aNew G (.map []) fun i1 G2 => wv (vlen T G2 t_sl_api_Update a0) fun v3 => ∀ R4 : List AVal → Heap → Prop,
  (∀ (x6 x7 x8 x9 : AVal) (G5 : Heap), (wv (vbin T .lss t_int x9 x8) fun v10 => brB (some v10)
  (wv (viaddr T t_sl_api_Update x7 x9) fun v11 => wv (vload T G5 t_api_Update v11) fun v12 => aNew G5 (.own (z_api_Update)) fun i13 G14 => wg (vstore T G14 t_api_Update (.ptr i13 [] 0) v12) fun G15 => wv (vload T G15 t_int64 (.ptr i13 [1] 1)) fun v16 => wv (vlookup T G15 t_map_int64_int x6 v16 true) fun v17 => wv (vextract v17 0) fun v18 => wv (vextract v17 1) fun v19 => let J32 : AVal → Heap → Prop := (fun x27 G26 => brB (some x27)
  (wv (vload T G26 t_int64 (.ptr i13 [1] 1)) fun v28 => wv (vload T G26 t_int (.ptr i13 [0] 0)) fun v29 => aMapUpdate T G26 t_map_int64_int x6 v28 v29 fun G30 => wv (vbin T .add t_int x9 (.int .i64 1)) fun v35 => R4 [x6, x7, x8, v35] G30)
  (wv (vbin T .add t_int x9 (.int .i64 1)) fun v36 => R4 [x6, x7, x8, v36] G26));
  wv (vun .not v19) fun v20 => brB (some v20)
  (wv (vload T G15 t_int (.ptr i13 [0] 0)) fun v21 => wv (vbin T .neq t_int v21 (.int .i64 1)) fun v22 => brB (some v22)
  (wv (vload T G15 t_api_Update (.ptr i13 [] 0)) fun v23 => ACalls P update_Valid.n [v23] G15 fun v24 G25 => J32 v24 G25)
  (J32 (.bool false) G15))
  (J32 (.bool false) G15))
  (Q x6 G5)) → R4 [x6, x7, x8, x9] G5) →
  R4 [.map i1, a0, v3, .int .i64 0] G2
def ledger_removals.an : Ann := .two (.nil) (.two (.nil) (.two (.two (.nil) (.loop [3, 9, 10, 11] [false, false, false, false] (.nil))) (.nil)))
set_option maxRecDepth 100000 in
theorem ledger_removals.sound {a0 : AVal} {G : Heap} {Q : AVal → Heap → Prop} (h : ledger_removals.S a0 G Q) : ACalls P ledger_removals.n [a0] G Q := by
  have e : ledger_removals.S a0 G Q = awp cx (ledger_removals.body) ledger_removals.an (bodyQ T [.tmp 2] Q) (envL [a0]) G := by kernel_rfl
  exact ACalls_of_awp cxOk (f := ledger_removals.n) (fn := Tryz.f45) (c := ledger_removals.body) (an := ledger_removals.an) Tryz.func45 (by kernel_rfl) (by kernel_rfl) (by kernel_rfl) (drawsOk_of (by kernel_rfl) (by kernel_rfl)) (by simp [Tryz.f45]) (e ▸ h)

/-! #### escrow/ledger.first -/
def ledger_first.S (a0 a1 : AVal) (G : Heap) (Q : AVal → Heap → Prop) : Prop :=
  wv (vmax2 a1 (.int .i64 0)) fun v1 => wv (vlen T G t_sl_api_Update a0) fun v2 => wv (vmin2 v1 v2) fun v3 => wv (vslice T t_sl_api_Update a0 none (some (v3)) none) fun v4 => Q v4 G
def ledger_first.an : Ann := .nil
set_option maxRecDepth 100000 in
theorem ledger_first.sound {a0 a1 : AVal} {G : Heap} {Q : AVal → Heap → Prop} (h : ledger_first.S a0 a1 G Q) : ACalls P ledger_first.n [a0, a1] G Q := by
  have e : ledger_first.S a0 a1 G Q = awp cx (ledger_first.body) ledger_first.an (bodyQ T [.tmp 4] Q) (envL [a0, a1]) G := by kernel_rfl
  exact ACalls_of_awp cxOk (f := ledger_first.n) (fn := Tryz.f46) (c := ledger_first.body) (an := ledger_first.an) Tryz.func46 (by kernel_rfl) (by kernel_rfl) (by kernel_rfl) (drawsOk_of (by kernel_rfl) (by kernel_rfl)) (by simp [Tryz.f46]) (e ▸ h)

/-! #### (escrow/ledger.wide).plus -/
def ledger_wide_plus.S (a0 a1 : AVal) (G : Heap) (Q : AVal → Heap → Prop) : Prop :=
  aNew G (.own (a0)) fun i1 G2 => aNew G2 (.own (z_ledger_wide)) fun i3 G4 => wv (vload T G4 t_int64 (.ptr i1 [0] 0)) fun v5 => wv (vbin T .shr t_int64 a1 (.int .u64 30)) fun v6 => wv (vbin T .add t_int64 v5 v6) fun v7 => wv (vload T G4 t_int64 (.ptr i1 [1] 1)) fun v8 => wv (vbin T .and t_int64 a1 (.int .i64 1073741823)) fun v9 => wv (vbin T .add t_int64 v8 v9) fun v10 => wv (vbuild T t_ledger_wide [(0, v7), (1, v10)]) fun v11 => wg (vstore T G4 t_ledger_wide (.ptr i3 [] 0) v11) fun G12 => wv (vload T G12 t_ledger_wide (.ptr i3 [] 0)) fun v13 => Q v13 G12
def ledger_wide_plus.an : Ann := .nil
set_option maxRecDepth 100000 in
theorem ledger_wide_plus.sound {a0 a1 : AVal} {G : Heap} {Q : AVal → Heap → Prop} (h : ledger_wide_plus.S a0 a1 G Q) : ACalls P ledger_wide_plus.n [a0, a1] G Q := by
  have e : ledger_wide_plus.S a0 a1 G Q = awp cx (ledger_wide_plus.body) ledger_wide_plus.an (bodyQ T [.cell 4 96] Q) (envL [a0, a1]) G := by kernel_rfl
  exact ACalls_of_awp cxOk (f := ledger_wide_plus.n) (fn := Tryz.f47) (c := ledger_wide_plus.body) (an := ledger_wide_plus.an) Tryz.func47 (by kernel_rfl) (by kernel_rfl) (by kernel_rfl) (drawsOk_of (by kernel_rfl) (by kernel_rfl)) (by simp [Tryz.f47]) (e ▸ h)

/-! #### escrow/ledger.adds -/
def ledger_adds.S (a0 a1 : AVal) (G : Heap) (Q : AVal → Heap → Prop) : Prop :=
  wv (vlen T G t_sl_api_Update a0) fun v1 => ∀ R2 : List AVal → Heap → Prop,
  (∀ (x4 x5 x6 x7 x8 : AVal) (G3 : Heap), (wv (vbin T .lss t_int x8 x7) fun v9 => brB (some v9)
  (wv (viaddr T t_sl_api_Update x6 x8) fun v10 => wv (vload T G3 t_api_Update v10) fun v11 => aNew G3 (.own (z_api_Update)) fun i12 G13 => wg (vstore T G13 t_api_Update (.ptr i12 [] 0) v11) fun G14 => let J32 : AVal → Heap → Prop := (fun x24 G23 => brB (some x24)
  (wv (vload T G23 t_int64 (.ptr i12 [2] 2)) fun v25 => aBuildSlice T t_sl_int64 1 [(0, v25)] G23 fun v26 G27 => aAppend T G27 t_sl_int64 t_sl_int64 x5 v26 fun v28 G29 => wv (vbin T .add t_int x8 (.int .i64 1)) fun v36 => R2 [x4, v28, x6, x7, v36] G29)
  (wv (vbin T .add t_int x8 (.int .i64 1)) fun v37 => R2 [x4, x5, x6, x7, v37] G23));
  wv (vload T G14 t_int (.ptr i12 [0] 0)) fun v15 => wv (vbin T .eql t_int v15 (.int .i64 1)) fun v16 => brB (some v16)
  (wv (vload T G14 t_api_Update (.ptr i12 [] 0)) fun v17 => ACalls P update_Valid.n [v17] G14 fun v18 G19 => brB (some v18)
  (wv (vload T G19 t_int64 (.ptr i12 [1] 1)) fun v20 => aCallV P x4 [v20] G19 fun v21 G22 => J32 v21 G22)
  (J32 (.bool false) G19))
  (J32 (.bool false) G14))
  (Q x5 G3)) → R2 [x4, x5, x6, x7, x8] G3) →
  R2 [a1, .nilSlice, a0, v1, .int .i64 0] G
def ledger_adds.an : Ann := .two (.nil) (.two (.nil) (.two (.two (.nil) (.loop [1, 5, 8, 9, 10] [false, false, false, false, false] (.nil))) (.nil)))
set_option maxRecDepth 100000 in
theorem ledger_adds.sound {a0 a1 : AVal} {G : Heap} {Q : AVal → Heap → Prop} (h : ledger_adds.S a0 a1 G Q) : ACalls P ledger_adds.n [a0, a1] G Q := by
  have e : ledger_adds.S a0 a1 G Q = awp cx (ledger_adds.body) ledger_adds.an (bodyQ T [.tmp 4] Q) (envL [a0, a1]) G := by kernel_rfl
  exact ACalls_of_awp cxOk (f := ledger_adds.n) (fn := Tryz.f48) (c := ledger_adds.body) (an := ledger_adds.an) Tryz.func48 (by kernel_rfl) (by kernel_rfl) (by kernel_rfl) (drawsOk_of (by kernel_rfl) (by kernel_rfl)) (by simp [Tryz.f48]) (e ▸ h)

/-! #### escrow/ledger.Spendable$1 -/
def ledger_Spendable_1.S (a0 a1 : AVal) (G : Heap) (Q : AVal → Heap → Prop) : Prop :=
  wv (vload T G t_map_int64_int a1) fun v1 => wv (vlookup T G t_map_int64_int v1 a0 false) fun v2 => wv (vbin T .neq t_int v2 (.int .i64 3)) fun v3 => Q v3 G
def ledger_Spendable_1.an : Ann := .nil
set_option maxRecDepth 100000 in
theorem ledger_Spendable_1.sound {a0 a1 : AVal} {G : Heap} {Q : AVal → Heap → Prop} (h : ledger_Spendable_1.S a0 a1 G Q) : ACalls P ledger_Spendable_1.n [a0, a1] G Q := by
  have e : ledger_Spendable_1.S a0 a1 G Q = awp cx (ledger_Spendable_1.body) ledger_Spendable_1.an (bodyQ T [.tmp 3] Q) (envL [a0, a1]) G := by kernel_rfl
  exact ACalls_of_awp cxOk (f := ledger_Spendable_1.n) (fn := Tryz.f49) (c := ledger_Spendable_1.body) (an := ledger_Spendable_1.an) Tryz.func49 (by kernel_rfl) (by kernel_rfl) (by kernel_rfl) (drawsOk_of (by kernel_rfl) (by kernel_rfl)) (by simp [Tryz.f49]) (e ▸ h)

/-! #### (escrow/ledger.wide).minus -/
def ledger_wide_minus.S (a0 a1 : AVal) (G : Heap) (Q : AVal → Heap → Prop) : Prop :=
  aNew G (.own (a0)) fun i1 G2 => aNew G2 (.own (z_ledger_wide)) fun i3 G4 => wv (vload T G4 t_int64 (.ptr i1 [0] 0)) fun v5 => wv (vbin T .shr t_int64 a1 (.int .u64 30)) fun v6 => wv (vbin T .sub t_int64 v5 v6) fun v7 => wv (vload T G4 t_int64 (.ptr i1 [1] 1)) fun v8 => wv (vbin T .and t_int64 a1 (.int .i64 1073741823)) fun v9 => wv (vbin T .sub t_int64 v8 v9) fun v10 => wv (vbuild T t_ledger_wide [(0, v7), (1, v10)]) fun v11 => wg (vstore T G4 t_ledger_wide (.ptr i3 [] 0) v11) fun G12 => wv (vload T G12 t_ledger_wide (.ptr i3 [] 0)) fun v13 => Q v13 G12
def ledger_wide_minus.an : Ann := .nil
set_option maxRecDepth 100000 in
theorem ledger_wide_minus.sound {a0 a1 : AVal} {G : Heap} {Q : AVal → Heap → Prop} (h : ledger_wide_minus.S a0 a1 G Q) : ACalls P ledger_wide_minus.n [a0, a1] G Q := by
  have e : ledger_wide_minus.S a0 a1 G Q = awp cx (ledger_wide_minus.body) ledger_wide_minus.an (bodyQ T [.cell 4 96] Q) (envL [a0, a1]) G := by kernel_rfl
  exact ACalls_of_awp cxOk (f := ledger_wide_minus.n) (fn := Tryz.f50) (c := ledger_wide_minus.body) (an := ledger_wide_minus.an) Tryz.func50 (by kernel_rfl) (by kernel_rfl) (by kernel_rfl) (drawsOk_of (by kernel_rfl) (by kernel_rfl)) (by simp [Tryz.f50]) (e ▸ h)

/-! #### escrow/ledger.Spendable$2 -/
def ledger_Spendable_2.S (a0 a1 : AVal) (G : Heap) (Q : AVal → Heap → Prop) : Prop :=
  wv (vload T G t_map_int64_int a1) fun v1 => wv (vlookup T G t_map_int64_int v1 a0 false) fun v2 => wv (vbin T .eql t_int v2 (.int .i64 2)) fun v3 => Q v3 G
def ledger_Spendable_2.an : Ann := .nil
set_option maxRecDepth 100000 in
theorem ledger_Spendable_2.sound {a0 a1 : AVal} {G : Heap} {Q : AVal → Heap → Prop} (h : ledger_Spendable_2.S a0 a1 G Q) : ACalls P ledger_Spendable_2.n [a0, a1] G Q := by
  have e : ledger_Spendable_2.S a0 a1 G Q = awp cx (ledger_Spendable_2.body) ledger_Spendable_2.an (bodyQ T [.tmp 3] Q) (envL [a0, a1]) G := by kernel_rfl
  exact ACalls_of_awp cxOk (f := ledger_Spendable_2.n) (fn := Tryz.f51) (c := ledger_Spendable_2.body) (an := ledger_Spendable_2.an) Tryz.func51 (by kernel_rfl) (by kernel_rfl) (by kernel_rfl) (drawsOk_of (by kernel_rfl) (by kernel_rfl)) (by simp [Tryz.f51]) (e ▸ h)

/-! #### (escrow/ledger.wide).value -/
def ledger_wide_value.S (a0 : AVal) (G : Heap) (Q : AVal → Heap → Prop) : Prop :=
  aNew G (.own (a0)) fun i1 G2 => wv (vload T G2 t_int64 (.ptr i1 [0] 0)) fun v3 => wv (vload T G2 t_int64 (.ptr i1 [1] 1)) fun v4 => wv (vbin T .shr t_int64 v4 (.int .u64 30)) fun v5 => wv (vbin T .add t_int64 v3 v5) fun v6 => wv (vbin T .lss t_int64 v6 (.int .i64 0)) fun v7 => brB (some v7)
  (Q (.int .i64 (-1)) G2)
  (wv (vbin T .gtr t_int64 v6 (.int .i64 1073741824)) fun v8 => brB (some v8)
  (Q (.int .i64 1152921504606846977) G2)
  (wv (vbin T .shl t_int64 v6 (.int .u64 30)) fun v9 => wv (vload T G2 t_int64 (.ptr i1 [1] 1)) fun v10 => wv (vbin T .and t_int64 v10 (.int .i64 1073741823)) fun v11 => wv (vbin T .or t_int64 v9 v11) fun v12 => Q v12 G2))
def ledger_wide_value.an : Ann := .nil
set_option maxRecDepth 100000 in
theorem ledger_wide_value.sound {a0 : AVal} {G : Heap} {Q : AVal → Heap → Prop} (h : ledger_wide_value.S a0 G Q) : ACalls P ledger_wide_value.n [a0] G Q := by
  have e : ledger_wide_value.S a0 G Q = awp cx (ledger_wide_value.body) ledger_wide_value.an (bodyQ T [.tmp 2] Q) (envL [a0]) G := by kernel_rfl
  exact ACalls_of_awp cxOk (f := ledger_wide_value.n) (fn := Tryz.f52) (c := ledger_wide_value.body) (an := ledger_wide_value.an) Tryz.func52 (by kernel_rfl) (by kernel_rfl) (by kernel_rfl) (drawsOk_of (by kernel_rfl) (by kernel_rfl)) (by simp [Tryz.f52]) (e ▸ h)

/-! #### escrow/ledger.Spendable -/
def ledger_Spendable.S (a0 a1 a2 a3 : AVal) (G : Heap) (Q : AVal → Heap → Prop) : Prop :=
  aNew G (.own (a3)) fun i1 G2 => wv (vbin T .lss t_int64 a0 (.int .i64 0)) fun v3 => brB (some v3)
  (Q (.int .i64 0) G2)
  (wv (vload T G2 t_int (.ptr i1 [1] 1)) fun v4 => wv (vload T G2 t_int (.ptr i1 [0] 0)) fun v5 => ACalls P ledger_first.n [a2, v4] G2 fun v6 G7 => (vload T G7 t_int (.ptr i1 [0] 0) = some v5 ∧ True) ∧ (ACalls P ledger_removals.n [v6] G7 fun v8 G9 => (vload T G9 t_int (.ptr i1 [0] 0) = some v5 ∧ True) ∧ (ACalls P ledger_first.n [a1, v5] G9 fun v10 G11 => ACalls P ledger_removals.n [v10] G11 fun v12 G13 => aNew G13 (.own (z_map_int64_int)) fun i14 G15 => aNew G15 (.own (z_map_int64_int)) fun i16 G17 => wg (vstore T G17 t_map_int64_int (.ptr i14 [] 0) v8) fun G18 => wg (vstore T G18 t_map_int64_int (.ptr i16 [] 0) v12) fun G19 => wv (vbuild T t_ledger_wide []) fun v20 => wv (vmin2 a0 (.int .i64 1152921504606846976)) fun v21 => ACalls P ledger_wide_plus.n [v20, v21] G19 fun v22 G23 => aNew G23 (.own (z_ledger_wide)) fun i24 G25 => wg (vstore T G25 t_ledger_wide (.ptr i24 [] 0) v22) fun G26 => ACalls P ledger_adds.n [a1, .func (.func ledger_Spendable_1.n) [] [.ptr i14 [] 0]] G26 fun v27 G28 => wv (vlen T G28 t_sl_int64 v27) fun v29 => ∀ R30 : List AVal → Heap → Prop,
  (∀ (x32 x33 x34 x35 x36 x37 : AVal) (G31 : Heap), (wv (vbin T .lss t_int x37 x36) fun v38 => brB (some v38)
  (wv (viaddr T t_sl_int64 x35 x37) fun v39 => wv (vload T G31 t_int64 v39) fun v40 => wv (vload T G31 t_ledger_wide x34) fun v41 => ACalls P ledger_wide_minus.n [v41, v40] G31 fun v42 G43 => wg (vstore T G43 t_ledger_wide x34 v42) fun G44 => wv (vbin T .add t_int x37 (.int .i64 1)) fun v45 => R30 [x32, x33, x34, x35, x36, v45] G44)
  (ACalls P ledger_adds.n [x32, .func (.func ledger_Spendable_2.n) [] [x33]] G31 fun v46 G47 => wv (vlen T G47 t_sl_int64 v46) fun v48 => ∀ R49 : List AVal → Heap → Prop,
  (∀ (x51 x52 x53 x54 : AVal) (G50 : Heap), (wv (vbin T .lss t_int x54 x53) fun v55 => brB (some v55)
  (wv (viaddr T t_sl_int64 x52 x54) fun v56 => wv (vload T G50 t_int64 v56) fun v57 => wv (vload T G50 t_ledger_wide x51) fun v58 => ACalls P ledger_wide_plus.n [v58, v57] G50 fun v59 G60 => wg (vstore T G60 t_ledger_wide x51 v59) fun G61 => wv (vbin T .add t_int x54 (.int .i64 1)) fun v62 => R49 [x51, x52, x53, v62] G61)
  (wv (vload T G50 t_ledger_wide x51) fun v63 => ACalls P ledger_wide_value.n [v63] G50 fun v64 G65 => wv (vmax2 v64 (.int .i64 0)) fun v66 => wv (vmin2 v66 (.int .i64 1152921504606846976)) fun v67 => Q v67 G65)) → R49 [x51, x52, x53, x54] G50) →
  R49 [x34, v46, v48, .int .i64 0] G47)) → R30 [x32, x33, x34, x35, x36, x37] G31) →
  R30 [a2, .ptr i16 [] 0, .ptr i24 [] 0, v27, v29, .int .i64 0] G28)))
def ledger_Spendable.an : Ann := .two (.nil) (.two (.nil) (.two (.ord [(0, []), (1, []), (2, []), (5, []), (6, []), (7, []), (3, [7]), (4, [7]), (8, []), (9, []), (10, []), (11, []), (12, []), (13, [])]) (.two (.nil) (.two (.two (.nil) (.loop [2, 10, 11, 34, 35, 36] [false, false, false, false, false, false] (.nil))) (.two (.two (.nil) (.loop [11, 46, 47, 48] [false, false, false, false] (.nil))) (.nil))))))
set_option maxRecDepth 100000 in
theorem ledger_Spendable.sound {a0 a1 a2 a3 : AVal} {G : Heap} {Q : AVal → Heap → Prop} (h : ledger_Spendable.S a0 a1 a2 a3 G Q) : ACalls P ledger_Spendable.n [a0, a1, a2, a3] G Q := by
  have e : ledger_Spendable.S a0 a1 a2 a3 G Q = awp cx (ledger_Spendable.body) ledger_Spendable.an (bodyQ T [.tmp 8] Q) (envL [a0, a1, a2, a3]) G := by kernel_rfl
  exact ACalls_of_awp cxOk (f := ledger_Spendable.n) (fn := Tryz.f21) (c := ledger_Spendable.body) (an := ledger_Spendable.an) Tryz.func21 (by kernel_rfl) (by kernel_rfl) (by kernel_rfl) (drawsOk_of (by kernel_rfl) (by kernel_rfl)) (by simp [Tryz.f21]) (e ▸ h)

/-! #### escrow/dance.Spendable -/
def dance_Spendable.S (a0 : AVal) (G : Heap) (Q : AVal → Heap → Prop) : Prop :=
  aNew G (.own (a0)) fun i1 G2 => wv (vload T G2 t_int64 (.ptr i1 [2] 2)) fun v3 => wv (vload T G2 t_sl_api_Update (.ptr i1 [4] 4)) fun v4 => wv (vload T G2 t_sl_api_Update (.ptr i1 [5] 5)) fun v5 => wv (vload T G2 t_api_State (.ptr i1 [] 0)) fun v6 => ACalls P dance_Fixed.n [v6] G2 fun v7 G8 => (vload T G8 t_sl_api_Update (.ptr i1 [5] 5) = some v5 ∧ vload T G8 t_sl_api_Update (.ptr i1 [4] 4) = some v4 ∧ vload T G8 t_int64 (.ptr i1 [2] 2) = some v3 ∧ True) ∧ (ACalls P ledger_Spendable.n [v3, v4, v5, v7] G8 fun v9 G10 => Q v9 G10)
def dance_Spendable.an : Ann := .two (.nil) (.two (.ord [(0, []), (1, []), (2, []), (3, []), (4, []), (5, []), (6, []), (7, [1, 3, 5]), (8, []), (9, [])]) (.nil))
set_option maxRecDepth 100000 in
theorem dance_Spendable.sound {a0 : AVal} {G : Heap} {Q : AVal → Heap → Prop} (h : dance_Spendable.S a0 G Q) : ACalls P dance_Spendable.n [a0] G Q := by
  have e : dance_Spendable.S a0 G Q = awp cx (dance_Spendable.body) dance_Spendable.an (bodyQ T [.tmp 2] Q) (envL [a0]) G := by kernel_rfl
  exact ACalls_of_awp cxOk (f := dance_Spendable.n) (fn := Tryz.f7) (c := dance_Spendable.body) (an := dance_Spendable.an) Tryz.func7 (by kernel_rfl) (by kernel_rfl) (by kernel_rfl) (drawsOk_of (by kernel_rfl) (by kernel_rfl)) (by simp [Tryz.f7]) (e ▸ h)

/-! #### escrow/dance.turned -/
def dance_turned.S (a0 : AVal) (G : Heap) (Q : AVal → Heap → Prop) : Prop :=
  aNew G (.own (a0)) fun i1 G2 => aNew G2 (.own (z_api_Counts)) fun i3 G4 => wv (vload T G4 t_int (.ptr i1 [1] 1)) fun v5 => wv (vload T G4 t_int (.ptr i1 [0] 0)) fun v6 => wv (vbuild T t_api_Counts [(0, v5), (1, v6)]) fun v7 => wg (vstore T G4 t_api_Counts (.ptr i3 [] 0) v7) fun G8 => wv (vload T G8 t_api_Counts (.ptr i3 [] 0)) fun v9 => Q v9 G8
def dance_turned.an : Ann := .nil
set_option maxRecDepth 100000 in
theorem dance_turned.sound {a0 : AVal} {G : Heap} {Q : AVal → Heap → Prop} (h : dance_turned.S a0 G Q) : ACalls P dance_turned.n [a0] G Q := by
  have e : dance_turned.S a0 G Q = awp cx (dance_turned.body) dance_turned.an (bodyQ T [.cell 2 29] Q) (envL [a0]) G := by kernel_rfl
  exact ACalls_of_awp cxOk (f := dance_turned.n) (fn := Tryz.f22) (c := dance_turned.body) (an := dance_turned.an) Tryz.func22 (by kernel_rfl) (by kernel_rfl) (by kernel_rfl) (drawsOk_of (by kernel_rfl) (by kernel_rfl)) (by simp [Tryz.f22]) (e ▸ h)

/-! #### escrow/dance.PeerSpendable -/
def dance_PeerSpendable.S (a0 : AVal) (G : Heap) (Q : AVal → Heap → Prop) : Prop :=
  aNew G (.own (a0)) fun i1 G2 => wv (vload T G2 t_int64 (.ptr i1 [3] 3)) fun v3 => wv (vload T G2 t_sl_api_Update (.ptr i1 [5] 5)) fun v4 => wv (vload T G2 t_sl_api_Update (.ptr i1 [4] 4)) fun v5 => wv (vload T G2 t_api_State (.ptr i1 [] 0)) fun v6 => ACalls P dance_Fixed.n [v6] G2 fun v7 G8 => (vload T G8 t_sl_api_Update (.ptr i1 [4] 4) = some v5 ∧ vload T G8 t_sl_api_Update (.ptr i1 [5] 5) = some v4 ∧ vload T G8 t_int64 (.ptr i1 [3] 3) = some v3 ∧ True) ∧ (ACalls P dance_turned.n [v7] G8 fun v9 G10 => (vload T G10 t_sl_api_Update (.ptr i1 [4] 4) = some v5 ∧ vload T G10 t_sl_api_Update (.ptr i1 [5] 5) = some v4 ∧ vload T G10 t_int64 (.ptr i1 [3] 3) = some v3 ∧ True) ∧ (ACalls P ledger_Spendable.n [v3, v4, v5, v9] G10 fun v11 G12 => Q v11 G12))
def dance_PeerSpendable.an : Ann := .two (.nil) (.two (.ord [(0, []), (1, []), (2, []), (3, []), (4, []), (5, []), (6, []), (7, [1, 3, 5]), (8, [1, 3, 5]), (9, []), (10, [])]) (.nil))
set_option maxRecDepth 100000 in
theorem dance_PeerSpendable.sound {a0 : AVal} {G : Heap} {Q : AVal → Heap → Prop} (h : dance_PeerSpendable.S a0 G Q) : ACalls P dance_PeerSpendable.n [a0] G Q := by
  have e : dance_PeerSpendable.S a0 G Q = awp cx (dance_PeerSpendable.body) dance_PeerSpendable.an (bodyQ T [.tmp 2] Q) (envL [a0]) G := by kernel_rfl
  exact ACalls_of_awp cxOk (f := dance_PeerSpendable.n) (fn := Tryz.f8) (c := dance_PeerSpendable.body) (an := dance_PeerSpendable.an) Tryz.func8 (by kernel_rfl) (by kernel_rfl) (by kernel_rfl) (drawsOk_of (by kernel_rfl) (by kernel_rfl)) (by simp [Tryz.f8]) (e ▸ h)

/-! #### escrow/dance.dead -/
def dance_dead.S (a0 : AVal) (G : Heap) (Q : AVal → Heap → Prop) : Prop :=
  aNew G (.own (a0)) fun i1 G2 => wv (vload T G2 t_int (.ptr i1 [16] 113)) fun v3 => wv (vbin T .neq t_int v3 (.int .i64 0)) fun v4 => brB (some v4)
  (Q (.bool true) G2)
  (wv (vload T G2 t_int64 (.ptr i1 [17] 114)) fun v5 => wv (vbin T .neq t_int64 v5 (.int .i64 (-1))) fun v6 => Q v6 G2)
def dance_dead.an : Ann := .nil
set_option maxRecDepth 100000 in
theorem dance_dead.sound {a0 : AVal} {G : Heap} {Q : AVal → Heap → Prop} (h : dance_dead.S a0 G Q) : ACalls P dance_dead.n [a0] G Q := by
  have e : dance_dead.S a0 G Q = awp cx (dance_dead.body) dance_dead.an (bodyQ T [.tmp 2] Q) (envL [a0]) G := by kernel_rfl
  exact ACalls_of_awp cxOk (f := dance_dead.n) (fn := Tryz.f23) (c := dance_dead.body) (an := dance_dead.an) Tryz.func23 (by kernel_rfl) (by kernel_rfl) (by kernel_rfl) (drawsOk_of (by kernel_rfl) (by kernel_rfl)) (by simp [Tryz.f23]) (e ▸ h)

/-! #### escrow/dance.full -/
def dance_full.S (a0 : AVal) (G : Heap) (Q : AVal → Heap → Prop) : Prop :=
  aNew G (.own (a0)) fun i1 G2 => wv (vload T G2 t_sl_api_Update (.ptr i1 [4] 4)) fun v3 => wv (vlen T G2 t_sl_api_Update v3) fun v4 => wv (vbin T .geq t_int v4 (.int .i64 2048)) fun v5 => brB (some v5)
  (Q (.bool true) G2)
  (wv (vload T G2 t_sl_api_Update (.ptr i1 [4] 4)) fun v6 => wv (vlen T G2 t_sl_api_Update v6) fun v7 => wv (vload T G2 t_int (.ptr i1 [11, 0] 13)) fun v8 => wv (vbin T .sub t_int v7 v8) fun v9 => wv (vbin T .geq t_int v9 (.int .i64 512)) fun v10 => Q v10 G2)
def dance_full.an : Ann := .nil
set_option maxRecDepth 100000 in
theorem dance_full.sound {a0 : AVal} {G : Heap} {Q : AVal → Heap → Prop} (h : dance_full.S a0 G Q) : ACalls P dance_full.n [a0] G Q := by
  have e : dance_full.S a0 G Q = awp cx (dance_full.body) dance_full.an (bodyQ T [.tmp 2] Q) (envL [a0]) G := by kernel_rfl
  exact ACalls_of_awp cxOk (f := dance_full.n) (fn := Tryz.f24) (c := dance_full.body) (an := dance_full.an) Tryz.func24 (by kernel_rfl) (by kernel_rfl) (by kernel_rfl) (drawsOk_of (by kernel_rfl) (by kernel_rfl)) (by simp [Tryz.f24]) (e ▸ h)

/-! #### escrow/ledger.Open$1 -/
def ledger_Open_1.S (a0 a1 : AVal) (G : Heap) (Q : AVal → Heap → Prop) : Prop :=
  wv (vload T G t_map_int64_int a1) fun v1 => wv (vlookup T G t_map_int64_int v1 a0 false) fun v2 => wv (vbin T .eql t_int v2 (.int .i64 0)) fun v3 => Q v3 G
def ledger_Open_1.an : Ann := .nil
set_option maxRecDepth 100000 in
theorem ledger_Open_1.sound {a0 a1 : AVal} {G : Heap} {Q : AVal → Heap → Prop} (h : ledger_Open_1.S a0 a1 G Q) : ACalls P ledger_Open_1.n [a0, a1] G Q := by
  have e : ledger_Open_1.S a0 a1 G Q = awp cx (ledger_Open_1.body) ledger_Open_1.an (bodyQ T [.tmp 3] Q) (envL [a0, a1]) G := by kernel_rfl
  exact ACalls_of_awp cxOk (f := ledger_Open_1.n) (fn := Tryz.f53) (c := ledger_Open_1.body) (an := ledger_Open_1.an) Tryz.func53 (by kernel_rfl) (by kernel_rfl) (by kernel_rfl) (drawsOk_of (by kernel_rfl) (by kernel_rfl)) (by simp [Tryz.f53]) (e ▸ h)

/-! #### escrow/ledger.Open -/
def ledger_Open.S (a0 a1 a2 : AVal) (G : Heap) (Q : AVal → Heap → Prop) : Prop :=
  ACalls P ledger_first.n [a1, a2] G fun v1 G2 => ACalls P ledger_removals.n [v1] G2 fun v3 G4 => aNew G4 (.own (z_map_int64_int)) fun i5 G6 => wg (vstore T G6 t_map_int64_int (.ptr i5 [] 0) v3) fun G7 => ACalls P ledger_adds.n [a0, .func (.func ledger_Open_1.n) [] [.ptr i5 [] 0]] G7 fun v8 G9 => wv (vlen T G9 t_sl_int64 v8) fun v10 => Q v10 G9
def ledger_Open.an : Ann := .nil
set_option maxRecDepth 100000 in
theorem ledger_Open.sound {a0 a1 a2 : AVal} {G : Heap} {Q : AVal → Heap → Prop} (h : ledger_Open.S a0 a1 a2 G Q) : ACalls P ledger_Open.n [a0, a1, a2] G Q := by
  have e : ledger_Open.S a0 a1 a2 G Q = awp cx (ledger_Open.body) ledger_Open.an (bodyQ T [.tmp 6] Q) (envL [a0, a1, a2]) G := by kernel_rfl
  exact ACalls_of_awp cxOk (f := ledger_Open.n) (fn := Tryz.f25) (c := ledger_Open.body) (an := ledger_Open.an) Tryz.func25 (by kernel_rfl) (by kernel_rfl) (by kernel_rfl) (drawsOk_of (by kernel_rfl) (by kernel_rfl)) (by simp [Tryz.f25]) (e ▸ h)

/-! #### escrow/dance.mine -/
def dance_mine.S (a0 : AVal) (G : Heap) (Q : AVal → Heap → Prop) : Prop :=
  aNew G (.own (a0)) fun i1 G2 => aNew G2 (.own (z_api_Record)) fun i3 G4 => wv (vload T G4 t_api_Update (.ptr i1 [] 0)) fun v5 => wv (vbuild T t_api_Record [(0, .int .i64 1), (1, v5)]) fun v6 => wg (vstore T G4 t_api_Record (.ptr i3 [] 0) v6) fun G7 => wv (vload T G7 t_api_Record (.ptr i3 [] 0)) fun v8 => Q v8 G7
def dance_mine.an : Ann := .nil
set_option maxRecDepth 100000 in
theorem dance_mine.sound {a0 : AVal} {G : Heap} {Q : AVal → Heap → Prop} (h : dance_mine.S a0 G Q) : ACalls P dance_mine.n [a0] G Q := by
  have e : dance_mine.S a0 G Q = awp cx (dance_mine.body) dance_mine.an (bodyQ T [.cell 2 42] Q) (envL [a0]) G := by kernel_rfl
  exact ACalls_of_awp cxOk (f := dance_mine.n) (fn := Tryz.f26) (c := dance_mine.body) (an := dance_mine.an) Tryz.func26 (by kernel_rfl) (by kernel_rfl) (by kernel_rfl) (drawsOk_of (by kernel_rfl) (by kernel_rfl)) (by simp [Tryz.f26]) (e ▸ h)

/-! #### escrow/dance.Offer -/
def dance_Offer.S (a0 a1 a2 : AVal) (G : Heap) (Q : AVal → Heap → Prop) : Prop :=
  aNew G (.own (a0)) fun i1 G2 => aNew G2 (.own (a2)) fun i3 G4 => aNew G4 (.own (z_api_Record)) fun i5 G6 => wv (vload T G6 t_api_State (.ptr i1 [] 0)) fun v7 => ACalls P dance_dead.n [v7] G6 fun v8 G9 => brB (some v8)
  (wv (vbuild T t_api_Record []) fun v10 => wg (vstore T G9 t_api_Record (.ptr i5 [] 0) v10) fun G11 => wv (vload T G11 t_api_Record (.ptr i5 [] 0)) fun v12 => Q (.tuple [v12, .int .i64 220]) G11)
  (let J45 : AVal → Heap → Prop := (fun x16 G15 => brB (some x16)
  (wv (vbuild T t_api_Record []) fun v17 => wg (vstore T G15 t_api_Record (.ptr i5 [] 0) v17) fun G18 => wv (vload T G18 t_api_Record (.ptr i5 [] 0)) fun v19 => Q (.tuple [v19, .int .i64 80]) G18)
  (wv (vload T G15 t_api_State (.ptr i1 [] 0)) fun v20 => ACalls P dance_full.n [v20] G15 fun v21 G22 => brB (some v21)
  (wv (vbuild T t_api_Record []) fun v23 => wg (vstore T G22 t_api_Record (.ptr i5 [] 0) v23) fun G24 => wv (vload T G24 t_api_Record (.ptr i5 [] 0)) fun v25 => Q (.tuple [v25, .int .i64 6]) G24)
  (wv (vload T G22 t_sl_api_Update (.ptr i1 [4] 4)) fun v26 => wv (vload T G22 t_sl_api_Update (.ptr i1 [5] 5)) fun v27 => wv (vload T G22 t_api_State (.ptr i1 [] 0)) fun v28 => ACalls P dance_Fixed.n [v28] G22 fun v29 G30 => (vload T G30 t_sl_api_Update (.ptr i1 [5] 5) = some v27 ∧ vload T G30 t_sl_api_Update (.ptr i1 [4] 4) = some v26 ∧ True) ∧ (wv (vfield T t_api_Counts v29 1) fun v31 => ACalls P ledger_Open.n [v26, v27, v31] G30 fun v32 G33 => wv (vbin T .geq t_int v32 (.int .i64 483)) fun v34 => brB (some v34)
  (wv (vbuild T t_api_Record []) fun v35 => wg (vstore T G33 t_api_Record (.ptr i5 [] 0) v35) fun G36 => wv (vload T G36 t_api_Record (.ptr i5 [] 0)) fun v37 => Q (.tuple [v37, .int .i64 131]) G36)
  (wv (vload T G33 t_api_State (.ptr i1 [] 0)) fun v38 => ACalls P dance_Spendable.n [v38] G33 fun v39 G40 => wv (vbin T .gtr t_int64 a1 v39) fun v41 => brB (some v41)
  (wv (vbuild T t_api_Record []) fun v42 => wg (vstore T G40 t_api_Record (.ptr i5 [] 0) v42) fun G43 => wv (vload T G43 t_api_Record (.ptr i5 [] 0)) fun v44 => Q (.tuple [v44, .int .i64 130]) G43)
  (wv (vload T G40 t_sl_api_Update (.ptr i1 [4] 4)) fun v46 => wv (vlen T G40 t_sl_api_Update v46) fun v47 => ∀ R48 : List AVal → Heap → Prop,
  (∀ (x50 x51 x52 x53 x54 x55 x56 : AVal) (G49 : Heap), (wv (vbin T .lss t_int x56 x55) fun v57 => brB (some v57)
  (wv (viaddr T t_sl_api_Update x54 x56) fun v58 => wv (vload T G49 t_api_Update v58) fun v59 => aNew G49 (.own (z_api_Update)) fun i60 G61 => wg (vstore T G61 t_api_Update (.ptr i60 [] 0) v59) fun G62 => wv (vload T G62 t_int (.ptr i60 [0] 0)) fun v63 => wv (vbin T .eql t_int v63 (.int .i64 1)) fun v64 => brB (some v64)
  (wv (vbin T .add t_int64 x53 (.int .i64 1)) fun v65 => wv (vbin T .add t_int x56 (.int .i64 1)) fun v71 => R48 [x50, x51, x52, v65, x54, x55, v71] G62)
  (wv (vbin T .add t_int x56 (.int .i64 1)) fun v72 => R48 [x50, x51, x52, x53, x54, x55, v72] G62))
  (wv (vload T G49 t_api_Hash x51) fun v73 => wv (vbuild T t_api_Update [(0, .int .i64 1), (1, x53), (2, x50), (3, v73)]) fun v74 => ACalls P dance_mine.n [v74] G49 fun v75 G76 => wg (vstore T G76 t_api_Record x52 v75) fun G77 => wv (vload T G77 t_api_Record x52) fun v78 => Q (.tuple [v78, .int .i64 0]) G77)) → R48 [x50, x51, x52, x53, x54, x55, x56] G49) →
  R48 [a1, .ptr i3 [] 0, .ptr i5 [] 0, .int .i64 0, v46, v47, .int .i64 0] G40))))));
  wv (vbin T .lss t_int64 a1 (.int .i64 1)) fun v13 => brB (some v13)
  (J45 (.bool true) G9)
  (wv (vbin T .gtr t_int64 a1 (.int .i64 1152921504606846976)) fun v14 => J45 v14 G9))
def dance_Offer.an : Ann := .two (.nil) (.two (.two (.nil) (.two (.nil) (.two (.nil) (.two (.nil) (.two (.nil) (.two (.nil) (.two (.ord [(0, []), (1, []), (2, []), (3, []), (4, []), (5, [1, 3]), (6, []), (7, []), (8, []), (9, [])]) (.nil)))))))) (.two (.nil) (.two (.two (.nil) (.loop [1, 5, 6, 8, 45, 46, 47] [false, false, false, false, false, false, false] (.nil))) (.nil))))
set_option maxRecDepth 100000 in
theorem dance_Offer.sound {a0 a1 a2 : AVal} {G : Heap} {Q : AVal → Heap → Prop} (h : dance_Offer.S a0 a1 a2 G Q) : ACalls P dance_Offer.n [a0, a1, a2] G Q := by
  have e : dance_Offer.S a0 a1 a2 G Q = awp cx (dance_Offer.body) dance_Offer.an (bodyQ T [.cell 6 42, .tmp 7] Q) (envL [a0, a1, a2]) G := by kernel_rfl
  exact ACalls_of_awp cxOk (f := dance_Offer.n) (fn := Tryz.f9) (c := dance_Offer.body) (an := dance_Offer.an) Tryz.func9 (by kernel_rfl) (by kernel_rfl) (by kernel_rfl) (drawsOk_of (by kernel_rfl) (by kernel_rfl)) (by simp [Tryz.f9]) (e ▸ h)

/-! #### escrow/dance.Sign -/
def dance_Sign.S (a0 a1 : AVal) (G : Heap) (Q : AVal → Heap → Prop) : Prop :=
  aNew G (.own (a0)) fun i1 G2 => aNew G2 (.own (a1)) fun i3 G4 => aNew G4 (.own (z_api_Record)) fun i5 G6 => wv (vload T G6 t_sl_api_Update (.ptr i3 [4] 4)) fun v7 => wv (vlen T G6 t_sl_api_Update v7) fun v8 => wv (vload T G6 t_int (.ptr i3 [9, 1] 10)) fun v9 => wv (vbuild T t_api_Counts [(0, v8), (1, v9)]) fun v10 => aNew G6 (.own (z_api_Counts)) fun i11 G12 => wg (vstore T G12 t_api_Counts (.ptr i11 [] 0) v10) fun G13 => wv (vload T G13 t_api_State (.ptr i3 [] 0)) fun v14 => ACalls P dance_dead.n [v14] G13 fun v15 G16 => brB (some v15)
  (wv (vbuild T t_api_Record []) fun v17 => wg (vstore T G16 t_api_Record (.ptr i5 [] 0) v17) fun G18 => wv (vload T G18 t_api_Record (.ptr i5 [] 0)) fun v19 => Q (.tuple [v19, .int .i64 220]) G18)
  (let J36 : AVal → Heap → Prop := (fun x27 G26 => brB (some x27)
  (wv (vbuild T t_api_Record []) fun v28 => wg (vstore T G26 t_api_Record (.ptr i5 [] 0) v28) fun G29 => wv (vload T G29 t_api_Record (.ptr i5 [] 0)) fun v30 => Q (.tuple [v30, .int .i64 8]) G29)
  (wv (vload T G26 t_int64 (.ptr i3 [7] 7)) fun v31 => wv (vbin T .gtr t_int64 v31 (.int .i64 281474976710653)) fun v32 => brB (some v32)
  (wv (vbuild T t_api_Record []) fun v33 => wg (vstore T G26 t_api_Record (.ptr i5 [] 0) v33) fun G34 => wv (vload T G34 t_api_Record (.ptr i5 [] 0)) fun v35 => Q (.tuple [v35, .int .i64 90]) G34)
  (wv (vload T G26 t_int64 (.ptr i3 [7] 7)) fun v37 => wv (vbin T .add t_int64 v37 (.int .i64 1)) fun v38 => wv (vload T G26 t_api_Counts (.ptr i11 [] 0)) fun v39 => wv (vbuild T t_api_Record [(0, .int .i64 2), (3, v38), (4, v39)]) fun v40 => wg (vstore T G26 t_api_Record (.ptr i5 [] 0) v40) fun G41 => wv (vload T G41 t_api_Record (.ptr i5 [] 0)) fun v42 => Q (.tuple [v42, .int .i64 0]) G41)));
  wv (vload T G16 t_int64 (.ptr i3 [7] 7)) fun v20 => wv (vload T G16 t_int64 (.ptr i3 [8] 8)) fun v21 => wv (vbin T .neq t_int64 v20 v21) fun v22 => brB (some v22)
  (J36 (.bool true) G16)
  (wv (vload T G16 t_api_Counts (.ptr i11 [] 0)) fun v23 => wv (vload T G16 t_api_Counts (.ptr i3 [10] 11)) fun v24 => wv (vbin T .eql t_api_Counts v23 v24) fun v25 => J36 v25 G16))
def dance_Sign.an : Ann := .nil
set_option maxRecDepth 100000 in
theorem dance_Sign.sound {a0 a1 : AVal} {G : Heap} {Q : AVal → Heap → Prop} (h : dance_Sign.S a0 a1 G Q) : ACalls P dance_Sign.n [a0, a1] G Q := by
  have e : dance_Sign.S a0 a1 G Q = awp cx (dance_Sign.body) dance_Sign.an (bodyQ T [.cell 4 42, .tmp 5] Q) (envL [a0, a1]) G := by kernel_rfl
  exact ACalls_of_awp cxOk (f := dance_Sign.n) (fn := Tryz.f12) (c := dance_Sign.body) (an := dance_Sign.an) Tryz.func12 (by kernel_rfl) (by kernel_rfl) (by kernel_rfl) (drawsOk_of (by kernel_rfl) (by kernel_rfl)) (by simp [Tryz.f12]) (e ▸ h)

/-! #### escrow/dance.first -/
def dance_first.S (a0 a1 : AVal) (G : Heap) (Q : AVal → Heap → Prop) : Prop :=
  wv (vmax2 a1 (.int .i64 0)) fun v1 => wv (vlen T G t_sl_api_Update a0) fun v2 => wv (vmin2 v1 v2) fun v3 => wv (vslice T t_sl_api_Update a0 none (some (v3)) none) fun v4 => Q v4 G
def dance_first.an : Ann := .nil
set_option maxRecDepth 100000 in
theorem dance_first.sound {a0 a1 : AVal} {G : Heap} {Q : AVal → Heap → Prop} (h : dance_first.S a0 a1 G Q) : ACalls P dance_first.n [a0, a1] G Q := by
  have e : dance_first.S a0 a1 G Q = awp cx (dance_first.body) dance_first.an (bodyQ T [.tmp 4] Q) (envL [a0, a1]) G := by kernel_rfl
  exact ACalls_of_awp cxOk (f := dance_first.n) (fn := Tryz.f34) (c := dance_first.body) (an := dance_first.an) Tryz.func34 (by kernel_rfl) (by kernel_rfl) (by kernel_rfl) (drawsOk_of (by kernel_rfl) (by kernel_rfl)) (by simp [Tryz.f34]) (e ▸ h)

/-! #### escrow/amount.Right -/
def amount_Right.S (a0 : AVal) (G : Heap) (Q : AVal → Heap → Prop) : Prop :=
  wv (vbin T .geq t_int64 a0 (.int .i64 0)) fun v1 => brB (some v1)
  (wv (vbin T .leq t_int64 a0 (.int .i64 1152921504606846976)) fun v2 => Q v2 G)
  (Q (.bool false) G)
def amount_Right.an : Ann := .nil
set_option maxRecDepth 100000 in
theorem amount_Right.sound {a0 : AVal} {G : Heap} {Q : AVal → Heap → Prop} (h : amount_Right.S a0 G Q) : ACalls P amount_Right.n [a0] G Q := by
  have e : amount_Right.S a0 G Q = awp cx (amount_Right.body) amount_Right.an (bodyQ T [.tmp 2] Q) (envL [a0]) G := by kernel_rfl
  exact ACalls_of_awp cxOk (f := amount_Right.n) (fn := Tryz.f44) (c := amount_Right.body) (an := amount_Right.an) Tryz.func44 (by kernel_rfl) (by kernel_rfl) (by kernel_rfl) (drawsOk_of (by kernel_rfl) (by kernel_rfl)) (by simp [Tryz.f44]) (e ▸ h)

/-! #### escrow/amount.Plus -/
def amount_Plus.S (a0 a1 : AVal) (G : Heap) (Q : AVal → Heap → Prop) : Prop :=
  ACalls P amount_Right.n [a0] G fun v1 G2 => wv (vun .not v1) fun v3 => brB (some v3)
  (Q (.tuple [.int .i64 0, .int .i64 80]) G2)
  (ACalls P amount_Right.n [a1] G2 fun v4 G5 => wv (vun .not v4) fun v6 => brB (some v6)
  (Q (.tuple [.int .i64 0, .int .i64 80]) G5)
  (wv (vbin T .add t_int64 a0 a1) fun v7 => ACalls P amount_Right.n [v7] G5 fun v8 G9 => wv (vun .not v8) fun v10 => brB (some v10)
  (Q (.tuple [.int .i64 0, .int .i64 80]) G9)
  (wv (vbin T .add t_int64 a0 a1) fun v14 => Q (.tuple [v14, .int .i64 0]) G9)))
def amount_Plus.an : Ann := .nil
set_option maxRecDepth 100000 in
theorem amount_Plus.sound {a0 a1 : AVal} {G : Heap} {Q : AVal → Heap → Prop} (h : amount_Plus.S a0 a1 G Q) : ACalls P amount_Plus.n [a0, a1] G Q := by
  have e : amount_Plus.S a0 a1 G Q = awp cx (amount_Plus.body) amount_Plus.an (bodyQ T [.tmp 4, .tmp 5] Q) (envL [a0, a1]) G := by kernel_rfl
  exact ACalls_of_awp cxOk (f := amount_Plus.n) (fn := Tryz.f78) (c := amount_Plus.body) (an := amount_Plus.an) Tryz.func78 (by kernel_rfl) (by kernel_rfl) (by kernel_rfl) (drawsOk_of (by kernel_rfl) (by kernel_rfl)) (by simp [Tryz.f78]) (e ▸ h)

/-! #### escrow/amount.Sum -/
def amount_Sum.S (a0 : AVal) (G : Heap) (Q : AVal → Heap → Prop) : Prop :=
  wv (vlen T G t_sl_int64 a0) fun v1 => ∀ R2 : List AVal → Heap → Prop,
  (∀ (x4 x5 x6 x7 : AVal) (G3 : Heap), (wv (vbin T .lss t_int x7 x6) fun v8 => brB (some v8)
  (wv (viaddr T t_sl_int64 x5 x7) fun v9 => wv (vload T G3 t_int64 v9) fun v10 => ACalls P amount_Plus.n [x4, v10] G3 fun v11 G12 => wv (vextract v11 0) fun v13 => wv (vextract v11 1) fun v14 => wv (vbin T .neq t_api_Errno v14 (.int .i64 0)) fun v15 => brB (some v15)
  (Q (.tuple [.int .i64 0, v14]) G12)
  (wv (vbin T .add t_int x7 (.int .i64 1)) fun v16 => R2 [v13, x5, x6, v16] G12))
  (Q (.tuple [x4, .int .i64 0]) G3)) → R2 [x4, x5, x6, x7] G3) →
  R2 [.int .i64 0, a0, v1, .int .i64 0] G
def amount_Sum.an : Ann := .two (.nil) (.two (.nil) (.two (.two (.nil) (.loop [4, 8, 9, 10] [false, false, false, false] (.nil))) (.nil)))
set_option maxRecDepth 100000 in
theorem amount_Sum.sound {a0 : AVal} {G : Heap} {Q : AVal → Heap → Prop} (h : amount_Sum.S a0 G Q) : ACalls P amount_Sum.n [a0] G Q := by
  have e : amount_Sum.S a0 G Q = awp cx (amount_Sum.body) amount_Sum.an (bodyQ T [.tmp 2, .tmp 3] Q) (envL [a0]) G := by kernel_rfl
  exact ACalls_of_awp cxOk (f := amount_Sum.n) (fn := Tryz.f55) (c := amount_Sum.body) (an := amount_Sum.an) Tryz.func55 (by kernel_rfl) (by kernel_rfl) (by kernel_rfl) (drawsOk_of (by kernel_rfl) (by kernel_rfl)) (by simp [Tryz.f55]) (e ▸ h)

/-! #### slices.IndexFunc[[]escrow/api.Update,escrow/api.Update] -/
def slices_IndexFunc_escrow_api_Update_escrow_api_Update.S (a0 a1 : AVal) (G : Heap) (Q : AVal → Heap → Prop) : Prop :=
  wv (vlen T G t_sl_api_Update a0) fun v1 => ∀ R2 : List AVal → Heap → Prop,
  (∀ (x4 x5 x6 x7 : AVal) (G3 : Heap), (wv (vbin T .lss t_int x7 x6) fun v8 => brB (some v8)
  (wv (viaddr T t_sl_api_Update x4 x7) fun v9 => wv (vload T G3 t_api_Update v9) fun v10 => aCallV P x5 [v10] G3 fun v11 G12 => brB (some v11)
  (Q x7 G12)
  (wv (vbin T .add t_int x7 (.int .i64 1)) fun v13 => R2 [x4, x5, x6, v13] G12))
  (Q (.int .i64 (-1)) G3)) → R2 [x4, x5, x6, x7] G3) →
  R2 [a0, a1, v1, .int .i64 0] G
def slices_IndexFunc_escrow_api_Update_escrow_api_Update.an : Ann := .two (.nil) (.two (.two (.nil) (.loop [0, 1, 7, 8] [false, false, false, false] (.nil))) (.nil))
set_option maxRecDepth 100000 in
theorem slices_IndexFunc_escrow_api_Update_escrow_api_Update.sound {a0 a1 : AVal} {G : Heap} {Q : AVal → Heap → Prop} (h : slices_IndexFunc_escrow_api_Update_escrow_api_Update.S a0 a1 G Q) : ACalls P slices_IndexFunc_escrow_api_Update_escrow_api_Update.n [a0, a1] G Q := by
  have e : slices_IndexFunc_escrow_api_Update_escrow_api_Update.S a0 a1 G Q = awp cx (slices_IndexFunc_escrow_api_Update_escrow_api_Update.body) slices_IndexFunc_escrow_api_Update_escrow_api_Update.an (bodyQ T [.tmp 4] Q) (envL [a0, a1]) G := by kernel_rfl
  exact ACalls_of_awp cxOk (f := slices_IndexFunc_escrow_api_Update_escrow_api_Update.n) (fn := Tryz.f79) (c := slices_IndexFunc_escrow_api_Update_escrow_api_Update.body) (an := slices_IndexFunc_escrow_api_Update_escrow_api_Update.an) Tryz.func79 (by kernel_rfl) (by kernel_rfl) (by kernel_rfl) (drawsOk_of (by kernel_rfl) (by kernel_rfl)) (by simp [Tryz.f79]) (e ▸ h)

/-! #### slices.ContainsFunc[[]escrow/api.Update,escrow/api.Update] -/
def slices_ContainsFunc_escrow_api_Update_escrow_api_Update.S (a0 a1 : AVal) (G : Heap) (Q : AVal → Heap → Prop) : Prop :=
  ACalls P slices_IndexFunc_escrow_api_Update_escrow_api_Update.n [a0, a1] G fun v1 G2 => wv (vbin T .geq t_int v1 (.int .i64 0)) fun v3 => Q v3 G2
def slices_ContainsFunc_escrow_api_Update_escrow_api_Update.an : Ann := .nil
set_option maxRecDepth 100000 in
theorem slices_ContainsFunc_escrow_api_Update_escrow_api_Update.sound {a0 a1 : AVal} {G : Heap} {Q : AVal → Heap → Prop} (h : slices_ContainsFunc_escrow_api_Update_escrow_api_Update.S a0 a1 G Q) : ACalls P slices_ContainsFunc_escrow_api_Update_escrow_api_Update.n [a0, a1] G Q := by
  have e : slices_ContainsFunc_escrow_api_Update_escrow_api_Update.S a0 a1 G Q = awp cx (slices_ContainsFunc_escrow_api_Update_escrow_api_Update.body) slices_ContainsFunc_escrow_api_Update_escrow_api_Update.an (bodyQ T [.tmp 4] Q) (envL [a0, a1]) G := by kernel_rfl
  exact ACalls_of_awp cxOk (f := slices_ContainsFunc_escrow_api_Update_escrow_api_Update.n) (fn := Tryz.f56) (c := slices_ContainsFunc_escrow_api_Update_escrow_api_Update.body) (an := slices_ContainsFunc_escrow_api_Update_escrow_api_Update.an) Tryz.func56 (by kernel_rfl) (by kernel_rfl) (by kernel_rfl) (drawsOk_of (by kernel_rfl) (by kernel_rfl)) (by simp [Tryz.f56]) (e ▸ h)

/-! #### escrow/ledger.invalid -/
def ledger_invalid.S (a0 : AVal) (G : Heap) (Q : AVal → Heap → Prop) : Prop :=
  aNew G (.own (a0)) fun i1 G2 => wv (vload T G2 t_api_Update (.ptr i1 [] 0)) fun v3 => ACalls P update_Valid.n [v3] G2 fun v4 G5 => wv (vun .not v4) fun v6 => Q v6 G5
def ledger_invalid.an : Ann := .nil
set_option maxRecDepth 100000 in
theorem ledger_invalid.sound {a0 : AVal} {G : Heap} {Q : AVal → Heap → Prop} (h : ledger_invalid.S a0 G Q) : ACalls P ledger_invalid.n [a0] G Q := by
  have e : ledger_invalid.S a0 G Q = awp cx (ledger_invalid.body) ledger_invalid.an (bodyQ T [.tmp 2] Q) (envL [a0]) G := by kernel_rfl
  exact ACalls_of_awp cxOk (f := ledger_invalid.n) (fn := Tryz.f57) (c := ledger_invalid.body) (an := ledger_invalid.an) Tryz.func57 (by kernel_rfl) (by kernel_rfl) (by kernel_rfl) (drawsOk_of (by kernel_rfl) (by kernel_rfl)) (by simp [Tryz.f57]) (e ▸ h)

/-! #### slices.insertionSortCmpFunc[escrow/api.Pending] -/
def slices_insertionSortCmpFunc_escrow_api_Pending.S (a0 a1 a2 a3 : AVal) (G : Heap) (Q : AVal → Heap → Prop) : Prop :=
  wv (vbin T .add t_int a1 (.int .i64 1)) fun v1 => ∀ R2 : List AVal → Heap → Prop,
  (∀ (x4 x5 x6 x7 x8 : AVal) (G3 : Heap), (wv (vbin T .lss t_int x8 x6) fun v9 => brB (some v9)
  (∀ R10 : List AVal → Heap → Prop,
  (∀ (x12 x13 x14 x15 x16 x17 : AVal) (G11 : Heap), (let J40 : AVal → Heap → Prop := (fun x28 G27 => brB (some x28)
  (wv (vbin T .sub t_int x17 (.int .i64 1)) fun v29 => wv (vbin T .sub t_int x17 (.int .i64 1)) fun v30 => wv (viaddr T t_sl_api_Pending x12 v30) fun v31 => wv (vload T G27 t_api_Pending v31) fun v32 => wv (viaddr T t_sl_api_Pending x12 x17) fun v33 => wv (vload T G27 t_api_Pending v33) fun v34 => wv (viaddr T t_sl_api_Pending x12 x17) fun v35 => wg (vstore T G27 t_api_Pending v35 v32) fun G36 => wv (viaddr T t_sl_api_Pending x12 v29) fun v37 => wg (vstore T G36 t_api_Pending v37 v34) fun G38 => wv (vbin T .sub t_int x17 (.int .i64 1)) fun v39 => R10 [x12, x13, x14, x15, x16, v39] G38)
  (wv (vbin T .add t_int x16 (.int .i64 1)) fun v41 => R2 [x12, x13, x14, x15, v41] G27));
  wv (vbin T .gtr t_int x17 x13) fun v18 => brB (some v18)
  (wv (viaddr T t_sl_api_Pending x12 x17) fun v19 => wv (vload T G11 t_api_Pending v19) fun v20 => wv (vbin T .sub t_int x17 (.int .i64 1)) fun v21 => wv (viaddr T t_sl_api_Pending x12 v21) fun v22 => wv (vload T G11 t_api_Pending v22) fun v23 => aCallV P x15 [v20, v23] G11 fun v24 G25 => wv (vbin T .lss t_int v24 (.int .i64 0)) fun v26 => J40 v26 G25)
  (J40 (.bool false) G11)) → R10 [x12, x13, x14, x15, x16, x17] G11) →
  R10 [x4, x5, x6, x7, x8, x8] G3)
  (Q (.tuple []) G3)) → R2 [x4, x5, x6, x7, x8] G3) →
  R2 [a0, a1, a2, a3, v1] G
def slices_insertionSortCmpFunc_escrow_api_Pending.an : Ann := .two (.nil) (.loop [0, 1, 2, 3, 8] [false, false, false, false, false] (.two (.nil) (.two (.two (.nil) (.loop [0, 1, 2, 3, 8, 9] [false, false, false, false, false, false] (.two (.two (.ord [(0, []), (1, []), (2, []), (3, []), (4, []), (5, []), (6, []), (7, []), (8, []), (9, []), (10, []), (11, []), (12, []), (13, []), (14, []), (15, []), (16, [])]) (.nil)) (.two (.ord [(0, []), (1, []), (2, []), (3, []), (4, []), (5, []), (6, []), (7, []), (8, []), (9, []), (10, []), (11, []), (12, []), (13, []), (14, []), (15, []), (16, []), (17, [])]) (.nil))))) (.nil))))
set_option maxRecDepth 100000 in
theorem slices_insertionSortCmpFunc_escrow_api_Pending.sound {a0 a1 a2 a3 : AVal} {G : Heap} {Q : AVal → Heap → Prop} (h : slices_insertionSortCmpFunc_escrow_api_Pending.S a0 a1 a2 a3 G Q) : ACalls P slices_insertionSortCmpFunc_escrow_api_Pending.n [a0, a1, a2, a3] G Q := by
  have e : slices_insertionSortCmpFunc_escrow_api_Pending.S a0 a1 a2 a3 G Q = awp cx (slices_insertionSortCmpFunc_escrow_api_Pending.body) slices_insertionSortCmpFunc_escrow_api_Pending.an (bodyQ T [] Q) (envL [a0, a1, a2, a3]) G := by kernel_rfl
  exact ACalls_of_awp cxOk (f := slices_insertionSortCmpFunc_escrow_api_Pending.n) (fn := Tryz.f104) (c := slices_insertionSortCmpFunc_escrow_api_Pending.body) (an := slices_insertionSortCmpFunc_escrow_api_Pending.an) Tryz.func104 (by kernel_rfl) (by kernel_rfl) (by kernel_rfl) (drawsOk_of (by kernel_rfl) (by kernel_rfl)) (by simp [Tryz.f104]) (e ▸ h)

/-! #### slices.swapRangeCmpFunc[escrow/api.Pending] -/
def slices_swapRangeCmpFunc_escrow_api_Pending.S (a0 a1 a2 a3 a4 : AVal) (G : Heap) (Q : AVal → Heap → Prop) : Prop :=
  ∀ R1 : List AVal → Heap → Prop,
  (∀ (x3 x4 x5 x6 x7 : AVal) (G2 : Heap), (wv (vbin T .lss t_int x7 x6) fun v8 => brB (some v8)
  (wv (vbin T .add t_int x4 x7) fun v9 => wv (vbin T .add t_int x5 x7) fun v10 => wv (vbin T .add t_int x5 x7) fun v11 => wv (viaddr T t_sl_api_Pending x3 v11) fun v12 => wv (vload T G2 t_api_Pending v12) fun v13 => wv (vbin T .add t_int x4 x7) fun v14 => wv (viaddr T t_sl_api_Pending x3 v14) fun v15 => wv (vload T G2 t_api_Pending v15) fun v16 => wv (viaddr T t_sl_api_Pending x3 v9) fun v17 => wg (vstore T G2 t_api_Pending v17 v13) fun G18 => wv (viaddr T t_sl_api_Pending x3 v10) fun v19 => wg (vstore T G18 t_api_Pending v19 v16) fun G20 => wv (vbin T .add t_int x7 (.int .i64 1)) fun v21 => R1 [x3, x4, x5, x6, v21] G20)
  (Q (.tuple []) G2)) → R1 [x3, x4, x5, x6, x7] G2) →
  R1 [a0, a1, a2, a3, .int .i64 0] G
def slices_swapRangeCmpFunc_escrow_api_Pending.an : Ann := .two (.nil) (.loop [0, 1, 2, 3, 10] [false, false, false, false, false] (.two (.nil) (.two (.ord [(0, []), (1, []), (2, []), (3, []), (4, []), (5, []), (6, []), (7, []), (8, []), (9, []), (10, []), (11, []), (12, []), (13, []), (14, []), (15, []), (16, []), (17, []), (18, []), (19, []), (20, []), (21, []), (22, []), (23, [])]) (.nil))))
set_option maxRecDepth 100000 in
theorem slices_swapRangeCmpFunc_escrow_api_Pending.sound {a0 a1 a2 a3 a4 : AVal} {G : Heap} {Q : AVal → Heap → Prop} (h : slices_swapRangeCmpFunc_escrow_api_Pending.S a0 a1 a2 a3 a4 G Q) : ACalls P slices_swapRangeCmpFunc_escrow_api_Pending.n [a0, a1, a2, a3, a4] G Q := by
  have e : slices_swapRangeCmpFunc_escrow_api_Pending.S a0 a1 a2 a3 a4 G Q = awp cx (slices_swapRangeCmpFunc_escrow_api_Pending.body) slices_swapRangeCmpFunc_escrow_api_Pending.an (bodyQ T [] Q) (envL [a0, a1, a2, a3, a4]) G := by kernel_rfl
  exact ACalls_of_awp cxOk (f := slices_swapRangeCmpFunc_escrow_api_Pending.n) (fn := Tryz.f115) (c := slices_swapRangeCmpFunc_escrow_api_Pending.body) (an := slices_swapRangeCmpFunc_escrow_api_Pending.an) Tryz.func115 (by kernel_rfl) (by kernel_rfl) (by kernel_rfl) (drawsOk_of (by kernel_rfl) (by kernel_rfl)) (by simp [Tryz.f115]) (e ▸ h)

/-! #### slices.rotateCmpFunc[escrow/api.Pending] -/
def slices_rotateCmpFunc_escrow_api_Pending.S (a0 a1 a2 a3 a4 : AVal) (G : Heap) (Q : AVal → Heap → Prop) : Prop :=
  wv (vbin T .sub t_int a2 a1) fun v1 => wv (vbin T .sub t_int a3 a2) fun v2 => ∀ R3 : List AVal → Heap → Prop,
  (∀ (x5 x6 x7 x8 x9 : AVal) (G4 : Heap), (wv (vbin T .neq t_int x8 x9) fun v10 => brB (some v10)
  (wv (vbin T .gtr t_int x8 x9) fun v11 => brB (some v11)
  (wv (vbin T .sub t_int x6 x8) fun v12 => ACalls P slices_swapRangeCmpFunc_escrow_api_Pending.n [x5, v12, x6, x9, x7] G4 fun v13 G14 => wv (vbin T .sub t_int x8 x9) fun v15 => R3 [x5, x6, x7, v15, x9] G14)
  (wv (vbin T .sub t_int x6 x8) fun v16 => wv (vbin T .add t_int x6 x9) fun v17 => wv (vbin T .sub t_int v17 x8) fun v18 => ACalls P slices_swapRangeCmpFunc_escrow_api_Pending.n [x5, v16, v18, x8, x7] G4 fun v19 G20 => wv (vbin T .sub t_int x9 x8) fun v21 => R3 [x5, x6, x7, x8, v21] G20))
  (wv (vbin T .sub t_int x6 x8) fun v28 => ACalls P slices_swapRangeCmpFunc_escrow_api_Pending.n [x5, v28, x6, x8, x7] G4 fun v29 G30 => Q (.tuple []) G30)) → R3 [x5, x6, x7, x8, x9] G4) →
  R3 [a0, a2, a4, v1, v2] G
def slices_rotateCmpFunc_escrow_api_Pending.an : Ann := .two (.nil) (.two (.nil) (.two (.loop [0, 2, 4, 10, 11] [false, false, false, false, false] (.nil)) (.nil)))
set_option maxRecDepth 100000 in
theorem slices_rotateCmpFunc_escrow_api_Pending.sound {a0 a1 a2 a3 a4 : AVal} {G : Heap} {Q : AVal → Heap → Prop} (h : slices_rotateCmpFunc_escrow_api_Pending.S a0 a1 a2 a3 a4 G Q) : ACalls P slices_rotateCmpFunc_escrow_api_Pending.n [a0, a1, a2, a3, a4] G Q := by
  have e : slices_rotateCmpFunc_escrow_api_Pending.S a0 a1 a2 a3 a4 G Q = awp cx (slices_rotateCmpFunc_escrow_api_Pending.body) slices_rotateCmpFunc_escrow_api_Pending.an (bodyQ T [] Q) (envL [a0, a1, a2, a3, a4]) G := by kernel_rfl
  exact ACalls_of_awp cxOk (f := slices_rotateCmpFunc_escrow_api_Pending.n) (fn := Tryz.f110) (c := slices_rotateCmpFunc_escrow_api_Pending.body) (an := slices_rotateCmpFunc_escrow_api_Pending.an) Tryz.func110 (by kernel_rfl) (by kernel_rfl) (by kernel_rfl) (drawsOk_of (by kernel_rfl) (by kernel_rfl)) (by simp [Tryz.f110]) (e ▸ h)

end Go.Esc.M
