/- Printed by gen.py (own work): functions of the program YtgpogcmcaknjiaaGreatDoor over trees and the abstract heap. -/
import Derived.Test.YtgpogcmcaknjiaaGreatDoorT
set_option linter.unusedSimpArgs false
set_option linter.unusedVariables false
namespace Go.Esc.M
open Go Go.Esc Go.Proofs

/-! #### escrow/dance.Fixed -/
def dance_Fixed.S (a0 : AVal) (G : Heap) (Q : AVal → Heap → Prop) : Prop :=
  aNew G (.own (a0)) fun i1 G2 => aNew G2 (.own (z_api_Counts)) fun i3 G4 => wv (vload T G4 t_int (.ptr i1 [9, 0] 9)) fun v5 => wv (vload T G4 t_int (.ptr i1 [11, 0] 13)) fun v6 => wv (vmin2 v5 v6) fun v7 => wv (vload T G4 t_int (.ptr i1 [9, 1] 10)) fun v8 => wv (vload T G4 t_int (.ptr i1 [11, 1] 14)) fun v9 => wv (vmin2 v8 v9) fun v10 => wv (vbuild T t_api_Counts [(0, v7), (1, v10)]) fun v11 => wg (vstore T G4 t_api_Counts (.ptr i3 [] 0) v11) fun G12 => wv (vload T G12 t_api_Counts (.ptr i3 [] 0)) fun v13 => Q v13 G12
def dance_Fixed.an : Ann := .nil
set_option maxRecDepth 100000 in
theorem dance_Fixed.sound {a0 : AVal} {G : Heap} {Q : AVal → Heap → Prop} (h : dance_Fixed.S a0 G Q) : ACalls P dance_Fixed.n [a0] G Q := by
  have e : dance_Fixed.S a0 G Q = awp cx (dance_Fixed.body) dance_Fixed.an (bodyQ T [.cell 2 37] Q) (envL [a0]) G := by kernel_rfl
  exact ACalls_of_awp cxOk (f := dance_Fixed.n) (fn := Tryz.f29) (c := dance_Fixed.body) (an := dance_Fixed.an) Tryz.func29 (by kernel_rfl) (by kernel_rfl) (by kernel_rfl) (drawsOk_of (by kernel_rfl) (by kernel_rfl)) (by simp [Tryz.f29]) (e ▸ h)

/-! #### escrow/update.Valid -/
def update_Valid.S (a0 : AVal) (G : Heap) (Q : AVal → Heap → Prop) : Prop :=
  aNew G (.own (a0)) fun i1 G2 => let J37 : AVal → Heap → Prop := (fun x8 G7 => brB (some x8)
  (Q (.bool false) G7)
  (wv (vload T G7 t_int (.ptr i1 [0] 0)) fun v9 => wv (vbin T .eql t_int v9 (.int .i64 1)) fun v10 => brB (some v10)
  (wv (vload T G7 t_int64 (.ptr i1 [2] 2)) fun v11 => wv (vbin T .geq t_int64 v11 (.int .i64 1)) fun v12 => brB (some v12)
  (wv (vload T G7 t_int64 (.ptr i1 [2] 2)) fun v13 => wv (vbin T .leq t_int64 v13 (.int .i64 1152921504606846976)) fun v14 => brB (some v14)
  (wv (vload T G7 t_string (.ptr i1 [4] 35)) fun v15 => wv (vbin T .eql t_string v15 (.str [])) fun v16 => Q v16 G7)
  (Q (.bool false) G7))
  (Q (.bool false) G7))
  (wv (vbin T .eql t_int v9 (.int .i64 2)) fun v19 => brB (some v19)
  (wv (vload T G7 t_int64 (.ptr i1 [2] 2)) fun v20 => wv (vbin T .eql t_int64 v20 (.int .i64 0)) fun v21 => brB (some v21)
  (wv (vload T G7 t_string (.ptr i1 [4] 35)) fun v22 => wv (vbin T .eql t_string v22 (.str [])) fun v23 => Q v23 G7)
  (Q (.bool false) G7))
  (wv (vbin T .eql t_int v9 (.int .i64 3)) fun v26 => brB (some v26)
  (wv (vload T G7 t_int64 (.ptr i1 [2] 2)) fun v27 => wv (vbin T .eql t_int64 v27 (.int .i64 0)) fun v28 => brB (some v28)
  (wv (vload T G7 t_api_Hash (.ptr i1 [3] 3)) fun v29 => wv (vbuild T t_api_Hash []) fun v30 => wv (vbin T .eql t_api_Hash v29 v30) fun v31 => brB (some v31)
  (wv (vload T G7 t_string (.ptr i1 [4] 35)) fun v32 => wv (vlen T G7 t_string v32) fun v33 => wv (vbin T .leq t_int v33 (.int .i64 64)) fun v34 => Q v34 G7)
  (Q (.bool false) G7))
  (Q (.bool false) G7))
  (Q (.bool false) G7)))));
  wv (vload T G2 t_int64 (.ptr i1 [1] 1)) fun v3 => wv (vbin T .lss t_int64 v3 (.int .i64 0)) fun v4 => brB (some v4)
  (J37 (.bool true) G2)
  (wv (vload T G2 t_int64 (.ptr i1 [1] 1)) fun v5 => wv (vbin T .geq t_int64 v5 (.int .i64 2048)) fun v6 => J37 v6 G2)
def update_Valid.an : Ann := .nil
set_option maxRecDepth 100000 in
theorem update_Valid.sound {a0 : AVal} {G : Heap} {Q : AVal → Heap → Prop} (h : update_Valid.S a0 G Q) : ACalls P update_Valid.n [a0] G Q := by
  have e : update_Valid.S a0 G Q = awp cx (update_Valid.body) update_Valid.an (bodyQ T [.tmp 2] Q) (envL [a0]) G := by kernel_rfl
  exact ACalls_of_awp cxOk (f := update_Valid.n) (fn := Tryz.f135) (c := update_Valid.body) (an := update_Valid.an) Tryz.func135 (by kernel_rfl) (by kernel_rfl) (by kernel_rfl) (drawsOk_of (by kernel_rfl) (by kernel_rfl)) (by simp [Tryz.f135]) (e ▸ h)

/-! #### escrow/ledger.removals -/
def ledger_removals.S (a0 : AVal) (G : Heap) (Q : AVal → Heap → Prop) : Prop :=
  aNew G (.map []) fun i1 G2 => wv (vlen T G2 t_sl_api_Update a0) fun v3 => ∀ R4 : List AVal → Heap → Prop,
  (∀ (x6 x7 x8 x9 : AVal) (G5 : Heap), (wv (vbin T .lss t_int x9 x8) fun v10 => brB (some v10)
  (wv (viaddr T t_sl_api_Update x7 x9) fun v11 => wv (vload T G5 t_api_Update v11) fun v12 => aNew G5 (.own (z_api_Update)) fun i13 G14 => wg (vstore T G14 t_api_Update (.ptr i13 [] 0) v12) fun G15 => wv (vload T G15 t_int64 (.ptr i13 [1] 1)) fun v16 => wv (vlookup T G15 t_map_int64_int x6 v16 true) fun v17 => wv (vextract v17 0) fun v18 => wv (vextract v17 1) fun v19 => let J32 : AVal → Heap → Prop := (fun x27 G26 => brB (some x27)
  (wv (vload T G26 t_int64 (.ptr i13 [1] 1)) fun v28 => wv (vload T G26 t_int (.ptr i13 [0] 0)) fun v29 => aMapUpdate T G26 t_map_int64_int x6 v28 v29 fun G30 => wv (vbin T .add t_int x9 (.int .i64 1)) fun v35 => R4 [x6, x7, x8, v35] G30)
  (wv (vbin T .add t_int x9 (.int .i64 1)) fun v36 => R4 [x6, x7, x8, v36] G26));
  wv (vun .not v19) fun v20 => brB (some v20)
  (wv (vload T G15 t_int (.ptr i13 [0] 0)) fun v21 => wv (vbin T .neq t_int v21 (.int .i64 1)) fun v22 => brB (some v22)
  (wv (vload T G15 t_api_Update (.ptr i13 [] 0)) fun v23 => ACalls P update_Valid.n [v23] G15 fun v24 G25 => J32 v24 G25)
  (J32 (.bool false) G15))
  (J32 (.bool false) G15))
  (Q x6 G5)) → R4 [x6, x7, x8, x9] G5) →
  R4 [.map i1, a0, v3, .int .i64 0] G2
def ledger_removals.an : Ann := .two (.nil) (.two (.nil) (.two (.two (.nil) (.loop [3, 9, 10, 11] (.nil))) (.nil)))
set_option maxRecDepth 100000 in
theorem ledger_removals.sound {a0 : AVal} {G : Heap} {Q : AVal → Heap → Prop} (h : ledger_removals.S a0 G Q) : ACalls P ledger_removals.n [a0] G Q := by
  have e : ledger_removals.S a0 G Q = awp cx (ledger_removals.body) ledger_removals.an (bodyQ T [.tmp 2] Q) (envL [a0]) G := by kernel_rfl
  exact ACalls_of_awp cxOk (f := ledger_removals.n) (fn := Tryz.f97) (c := ledger_removals.body) (an := ledger_removals.an) Tryz.func97 (by kernel_rfl) (by kernel_rfl) (by kernel_rfl) (drawsOk_of (by kernel_rfl) (by kernel_rfl)) (by simp [Tryz.f97]) (e ▸ h)

/-! #### (escrow/ledger.wide).plus -/
def ledger_wide_plus.S (a0 a1 : AVal) (G : Heap) (Q : AVal → Heap → Prop) : Prop :=
  aNew G (.own (a0)) fun i1 G2 => aNew G2 (.own (z_ledger_wide)) fun i3 G4 => wv (vload T G4 t_int64 (.ptr i1 [0] 0)) fun v5 => wv (vbin T .shr t_int64 a1 (.int .u64 30)) fun v6 => wv (vbin T .add t_int64 v5 v6) fun v7 => wv (vload T G4 t_int64 (.ptr i1 [1] 1)) fun v8 => wv (vbin T .and t_int64 a1 (.int .i64 1073741823)) fun v9 => wv (vbin T .add t_int64 v8 v9) fun v10 => wv (vbuild T t_ledger_wide [(0, v7), (1, v10)]) fun v11 => wg (vstore T G4 t_ledger_wide (.ptr i3 [] 0) v11) fun G12 => wv (vload T G12 t_ledger_wide (.ptr i3 [] 0)) fun v13 => Q v13 G12
def ledger_wide_plus.an : Ann := .nil
set_option maxRecDepth 100000 in
theorem ledger_wide_plus.sound {a0 a1 : AVal} {G : Heap} {Q : AVal → Heap → Prop} (h : ledger_wide_plus.S a0 a1 G Q) : ACalls P ledger_wide_plus.n [a0, a1] G Q := by
  have e : ledger_wide_plus.S a0 a1 G Q = awp cx (ledger_wide_plus.body) ledger_wide_plus.an (bodyQ T [.cell 4 147] Q) (envL [a0, a1]) G := by kernel_rfl
  exact ACalls_of_awp cxOk (f := ledger_wide_plus.n) (fn := Tryz.f98) (c := ledger_wide_plus.body) (an := ledger_wide_plus.an) Tryz.func98 (by kernel_rfl) (by kernel_rfl) (by kernel_rfl) (drawsOk_of (by kernel_rfl) (by kernel_rfl)) (by simp [Tryz.f98]) (e ▸ h)

/-! #### (escrow/ledger.wide).value -/
def ledger_wide_value.S (a0 : AVal) (G : Heap) (Q : AVal → Heap → Prop) : Prop :=
  aNew G (.own (a0)) fun i1 G2 => wv (vload T G2 t_int64 (.ptr i1 [0] 0)) fun v3 => wv (vload T G2 t_int64 (.ptr i1 [1] 1)) fun v4 => wv (vbin T .shr t_int64 v4 (.int .u64 30)) fun v5 => wv (vbin T .add t_int64 v3 v5) fun v6 => wv (vbin T .lss t_int64 v6 (.int .i64 0)) fun v7 => brB (some v7)
  (Q (.int .i64 (-1)) G2)
  (wv (vbin T .gtr t_int64 v6 (.int .i64 1073741824)) fun v8 => brB (some v8)
  (Q (.int .i64 1152921504606846977) G2)
  (wv (vbin T .shl t_int64 v6 (.int .u64 30)) fun v9 => wv (vload T G2 t_int64 (.ptr i1 [1] 1)) fun v10 => wv (vbin T .and t_int64 v10 (.int .i64 1073741823)) fun v11 => wv (vbin T .or t_int64 v9 v11) fun v12 => Q v12 G2))
def ledger_wide_value.an : Ann := .nil
set_option maxRecDepth 100000 in
theorem ledger_wide_value.sound {a0 : AVal} {G : Heap} {Q : AVal → Heap → Prop} (h : ledger_wide_value.S a0 G Q) : ACalls P ledger_wide_value.n [a0] G Q := by
  have e : ledger_wide_value.S a0 G Q = awp cx (ledger_wide_value.body) ledger_wide_value.an (bodyQ T [.tmp 2] Q) (envL [a0]) G := by kernel_rfl
  exact ACalls_of_awp cxOk (f := ledger_wide_value.n) (fn := Tryz.f99) (c := ledger_wide_value.body) (an := ledger_wide_value.an) Tryz.func99 (by kernel_rfl) (by kernel_rfl) (by kernel_rfl) (drawsOk_of (by kernel_rfl) (by kernel_rfl)) (by simp [Tryz.f99]) (e ▸ h)

/-! #### escrow/ledger.first -/
def ledger_first.S (a0 a1 : AVal) (G : Heap) (Q : AVal → Heap → Prop) : Prop :=
  wv (vmax2 a1 (.int .i64 0)) fun v1 => wv (vlen T G t_sl_api_Update a0) fun v2 => wv (vmin2 v1 v2) fun v3 => wv (vslice T t_sl_api_Update a0 none (some (v3)) none) fun v4 => Q v4 G
def ledger_first.an : Ann := .nil
set_option maxRecDepth 100000 in
theorem ledger_first.sound {a0 a1 : AVal} {G : Heap} {Q : AVal → Heap → Prop} (h : ledger_first.S a0 a1 G Q) : ACalls P ledger_first.n [a0, a1] G Q := by
  have e : ledger_first.S a0 a1 G Q = awp cx (ledger_first.body) ledger_first.an (bodyQ T [.tmp 4] Q) (envL [a0, a1]) G := by kernel_rfl
  exact ACalls_of_awp cxOk (f := ledger_first.n) (fn := Tryz.f105) (c := ledger_first.body) (an := ledger_first.an) Tryz.func105 (by kernel_rfl) (by kernel_rfl) (by kernel_rfl) (drawsOk_of (by kernel_rfl) (by kernel_rfl)) (by simp [Tryz.f105]) (e ▸ h)

/-! #### escrow/ledger.adds -/
def ledger_adds.S (a0 a1 : AVal) (G : Heap) (Q : AVal → Heap → Prop) : Prop :=
  wv (vlen T G t_sl_api_Update a0) fun v1 => ∀ R2 : List AVal → Heap → Prop,
  (∀ (x4 x5 x6 x7 x8 : AVal) (G3 : Heap), (wv (vbin T .lss t_int x8 x7) fun v9 => brB (some v9)
  (wv (viaddr T t_sl_api_Update x6 x8) fun v10 => wv (vload T G3 t_api_Update v10) fun v11 => aNew G3 (.own (z_api_Update)) fun i12 G13 => wg (vstore T G13 t_api_Update (.ptr i12 [] 0) v11) fun G14 => let J32 : AVal → Heap → Prop := (fun x24 G23 => brB (some x24)
  (wv (vload T G23 t_int64 (.ptr i12 [2] 2)) fun v25 => aBuildSlice T t_sl_int64 1 [(0, v25)] G23 fun v26 G27 => aAppend T G27 t_sl_int64 t_sl_int64 x5 v26 fun v28 G29 => wv (vbin T .add t_int x8 (.int .i64 1)) fun v36 => R2 [x4, v28, x6, x7, v36] G29)
  (wv (vbin T .add t_int x8 (.int .i64 1)) fun v37 => R2 [x4, x5, x6, x7, v37] G23));
  wv (vload T G14 t_int (.ptr i12 [0] 0)) fun v15 => wv (vbin T .eql t_int v15 (.int .i64 1)) fun v16 => brB (some v16)
  (wv (vload T G14 t_api_Update (.ptr i12 [] 0)) fun v17 => ACalls P update_Valid.n [v17] G14 fun v18 G19 => brB (some v18)
  (wv (vload T G19 t_int64 (.ptr i12 [1] 1)) fun v20 => aCallV P x4 [v20] G19 fun v21 G22 => J32 v21 G22)
  (J32 (.bool false) G19))
  (J32 (.bool false) G14))
  (Q x5 G3)) → R2 [x4, x5, x6, x7, x8] G3) →
  R2 [a1, .nilSlice, a0, v1, .int .i64 0] G
def ledger_adds.an : Ann := .two (.nil) (.two (.nil) (.two (.two (.nil) (.loop [1, 5, 8, 9, 10] (.nil))) (.nil)))
set_option maxRecDepth 100000 in
theorem ledger_adds.sound {a0 a1 : AVal} {G : Heap} {Q : AVal → Heap → Prop} (h : ledger_adds.S a0 a1 G Q) : ACalls P ledger_adds.n [a0, a1] G Q := by
  have e : ledger_adds.S a0 a1 G Q = awp cx (ledger_adds.body) ledger_adds.an (bodyQ T [.tmp 4] Q) (envL [a0, a1]) G := by kernel_rfl
  exact ACalls_of_awp cxOk (f := ledger_adds.n) (fn := Tryz.f106) (c := ledger_adds.body) (an := ledger_adds.an) Tryz.func106 (by kernel_rfl) (by kernel_rfl) (by kernel_rfl) (drawsOk_of (by kernel_rfl) (by kernel_rfl)) (by simp [Tryz.f106]) (e ▸ h)

/-! #### escrow/ledger.Spendable$1 -/
def ledger_Spendable_1.S (a0 a1 : AVal) (G : Heap) (Q : AVal → Heap → Prop) : Prop :=
  wv (vload T G t_map_int64_int a1) fun v1 => wv (vlookup T G t_map_int64_int v1 a0 false) fun v2 => wv (vbin T .neq t_int v2 (.int .i64 3)) fun v3 => Q v3 G
def ledger_Spendable_1.an : Ann := .nil
set_option maxRecDepth 100000 in
theorem ledger_Spendable_1.sound {a0 a1 : AVal} {G : Heap} {Q : AVal → Heap → Prop} (h : ledger_Spendable_1.S a0 a1 G Q) : ACalls P ledger_Spendable_1.n [a0, a1] G Q := by
  have e : ledger_Spendable_1.S a0 a1 G Q = awp cx (ledger_Spendable_1.body) ledger_Spendable_1.an (bodyQ T [.tmp 3] Q) (envL [a0, a1]) G := by kernel_rfl
  exact ACalls_of_awp cxOk (f := ledger_Spendable_1.n) (fn := Tryz.f124) (c := ledger_Spendable_1.body) (an := ledger_Spendable_1.an) Tryz.func124 (by kernel_rfl) (by kernel_rfl) (by kernel_rfl) (drawsOk_of (by kernel_rfl) (by kernel_rfl)) (by simp [Tryz.f124]) (e ▸ h)

/-! #### (escrow/ledger.wide).minus -/
def ledger_wide_minus.S (a0 a1 : AVal) (G : Heap) (Q : AVal → Heap → Prop) : Prop :=
  aNew G (.own (a0)) fun i1 G2 => aNew G2 (.own (z_ledger_wide)) fun i3 G4 => wv (vload T G4 t_int64 (.ptr i1 [0] 0)) fun v5 => wv (vbin T .shr t_int64 a1 (.int .u64 30)) fun v6 => wv (vbin T .sub t_int64 v5 v6) fun v7 => wv (vload T G4 t_int64 (.ptr i1 [1] 1)) fun v8 => wv (vbin T .and t_int64 a1 (.int .i64 1073741823)) fun v9 => wv (vbin T .sub t_int64 v8 v9) fun v10 => wv (vbuild T t_ledger_wide [(0, v7), (1, v10)]) fun v11 => wg (vstore T G4 t_ledger_wide (.ptr i3 [] 0) v11) fun G12 => wv (vload T G12 t_ledger_wide (.ptr i3 [] 0)) fun v13 => Q v13 G12
def ledger_wide_minus.an : Ann := .nil
set_option maxRecDepth 100000 in
theorem ledger_wide_minus.sound {a0 a1 : AVal} {G : Heap} {Q : AVal → Heap → Prop} (h : ledger_wide_minus.S a0 a1 G Q) : ACalls P ledger_wide_minus.n [a0, a1] G Q := by
  have e : ledger_wide_minus.S a0 a1 G Q = awp cx (ledger_wide_minus.body) ledger_wide_minus.an (bodyQ T [.cell 4 147] Q) (envL [a0, a1]) G := by kernel_rfl
  exact ACalls_of_awp cxOk (f := ledger_wide_minus.n) (fn := Tryz.f125) (c := ledger_wide_minus.body) (an := ledger_wide_minus.an) Tryz.func125 (by kernel_rfl) (by kernel_rfl) (by kernel_rfl) (drawsOk_of (by kernel_rfl) (by kernel_rfl)) (by simp [Tryz.f125]) (e ▸ h)

/-! #### escrow/ledger.Spendable$2 -/
def ledger_Spendable_2.S (a0 a1 : AVal) (G : Heap) (Q : AVal → Heap → Prop) : Prop :=
  wv (vload T G t_map_int64_int a1) fun v1 => wv (vlookup T G t_map_int64_int v1 a0 false) fun v2 => wv (vbin T .eql t_int v2 (.int .i64 2)) fun v3 => Q v3 G
def ledger_Spendable_2.an : Ann := .nil
set_option maxRecDepth 100000 in
theorem ledger_Spendable_2.sound {a0 a1 : AVal} {G : Heap} {Q : AVal → Heap → Prop} (h : ledger_Spendable_2.S a0 a1 G Q) : ACalls P ledger_Spendable_2.n [a0, a1] G Q := by
  have e : ledger_Spendable_2.S a0 a1 G Q = awp cx (ledger_Spendable_2.body) ledger_Spendable_2.an (bodyQ T [.tmp 3] Q) (envL [a0, a1]) G := by kernel_rfl
  exact ACalls_of_awp cxOk (f := ledger_Spendable_2.n) (fn := Tryz.f126) (c := ledger_Spendable_2.body) (an := ledger_Spendable_2.an) Tryz.func126 (by kernel_rfl) (by kernel_rfl) (by kernel_rfl) (drawsOk_of (by kernel_rfl) (by kernel_rfl)) (by simp [Tryz.f126]) (e ▸ h)

/-! #### escrow/ledger.Spendable -/
def ledger_Spendable.S (a0 a1 a2 a3 : AVal) (G : Heap) (Q : AVal → Heap → Prop) : Prop :=
  aNew G (.own (a3)) fun i1 G2 => wv (vbin T .lss t_int64 a0 (.int .i64 0)) fun v3 => brB (some v3)
  (Q (.int .i64 0) G2)
  (wv (vload T G2 t_int (.ptr i1 [1] 1)) fun v4 => wv (vload T G2 t_int (.ptr i1 [0] 0)) fun v5 => ACalls P ledger_first.n [a2, v4] G2 fun v6 G7 => (vload T G7 t_int (.ptr i1 [0] 0) = some v5 ∧ True) ∧ (ACalls P ledger_removals.n [v6] G7 fun v8 G9 => (vload T G9 t_int (.ptr i1 [0] 0) = some v5 ∧ True) ∧ (ACalls P ledger_first.n [a1, v5] G9 fun v10 G11 => ACalls P ledger_removals.n [v10] G11 fun v12 G13 => aNew G13 (.own (z_map_int64_int)) fun i14 G15 => aNew G15 (.own (z_map_int64_int)) fun i16 G17 => wg (vstore T G17 t_map_int64_int (.ptr i14 [] 0) v8) fun G18 => wg (vstore T G18 t_map_int64_int (.ptr i16 [] 0) v12) fun G19 => wv (vbuild T t_ledger_wide []) fun v20 => wv (vmin2 a0 (.int .i64 1152921504606846976)) fun v21 => ACalls P ledger_wide_plus.n [v20, v21] G19 fun v22 G23 => aNew G23 (.own (z_ledger_wide)) fun i24 G25 => wg (vstore T G25 t_ledger_wide (.ptr i24 [] 0) v22) fun G26 => ACalls P ledger_adds.n [a1, .func (.func ledger_Spendable_1.n) [] [.ptr i14 [] 0]] G26 fun v27 G28 => wv (vlen T G28 t_sl_int64 v27) fun v29 => ∀ R30 : List AVal → Heap → Prop,
  (∀ (x32 x33 x34 x35 x36 x37 : AVal) (G31 : Heap), (wv (vbin T .lss t_int x37 x36) fun v38 => brB (some v38)
  (wv (viaddr T t_sl_int64 x35 x37) fun v39 => wv (vload T G31 t_int64 v39) fun v40 => wv (vload T G31 t_ledger_wide x34) fun v41 => ACalls P ledger_wide_minus.n [v41, v40] G31 fun v42 G43 => wg (vstore T G43 t_ledger_wide x34 v42) fun G44 => wv (vbin T .add t_int x37 (.int .i64 1)) fun v45 => R30 [x32, x33, x34, x35, x36, v45] G44)
  (ACalls P ledger_adds.n [x32, .func (.func ledger_Spendable_2.n) [] [x33]] G31 fun v46 G47 => wv (vlen T G47 t_sl_int64 v46) fun v48 => ∀ R49 : List AVal → Heap → Prop,
  (∀ (x51 x52 x53 x54 : AVal) (G50 : Heap), (wv (vbin T .lss t_int x54 x53) fun v55 => brB (some v55)
  (wv (viaddr T t_sl_int64 x52 x54) fun v56 => wv (vload T G50 t_int64 v56) fun v57 => wv (vload T G50 t_ledger_wide x51) fun v58 => ACalls P ledger_wide_plus.n [v58, v57] G50 fun v59 G60 => wg (vstore T G60 t_ledger_wide x51 v59) fun G61 => wv (vbin T .add t_int x54 (.int .i64 1)) fun v62 => R49 [x51, x52, x53, v62] G61)
  (wv (vload T G50 t_ledger_wide x51) fun v63 => ACalls P ledger_wide_value.n [v63] G50 fun v64 G65 => wv (vmax2 v64 (.int .i64 0)) fun v66 => wv (vmin2 v66 (.int .i64 1152921504606846976)) fun v67 => Q v67 G65)) → R49 [x51, x52, x53, x54] G50) →
  R49 [x34, v46, v48, .int .i64 0] G47)) → R30 [x32, x33, x34, x35, x36, x37] G31) →
  R30 [a2, .ptr i16 [] 0, .ptr i24 [] 0, v27, v29, .int .i64 0] G28)))
def ledger_Spendable.an : Ann := .two (.nil) (.two (.nil) (.two (.ord [(0, []), (1, []), (2, []), (5, []), (6, []), (7, []), (3, [7]), (4, [7]), (8, []), (9, []), (10, []), (11, []), (12, []), (13, [])]) (.two (.nil) (.two (.two (.nil) (.loop [2, 10, 11, 34, 35, 36] (.nil))) (.two (.two (.nil) (.loop [11, 46, 47, 48] (.nil))) (.nil))))))
set_option maxRecDepth 100000 in
theorem ledger_Spendable.sound {a0 a1 a2 a3 : AVal} {G : Heap} {Q : AVal → Heap → Prop} (h : ledger_Spendable.S a0 a1 a2 a3 G Q) : ACalls P ledger_Spendable.n [a0, a1, a2, a3] G Q := by
  have e : ledger_Spendable.S a0 a1 a2 a3 G Q = awp cx (ledger_Spendable.body) ledger_Spendable.an (bodyQ T [.tmp 8] Q) (envL [a0, a1, a2, a3]) G := by kernel_rfl
  exact ACalls_of_awp cxOk (f := ledger_Spendable.n) (fn := Tryz.f71) (c := ledger_Spendable.body) (an := ledger_Spendable.an) Tryz.func71 (by kernel_rfl) (by kernel_rfl) (by kernel_rfl) (drawsOk_of (by kernel_rfl) (by kernel_rfl)) (by simp [Tryz.f71]) (e ▸ h)

/-! #### escrow/dance.Spendable -/
def dance_Spendable.S (a0 : AVal) (G : Heap) (Q : AVal → Heap → Prop) : Prop :=
  aNew G (.own (a0)) fun i1 G2 => wv (vload T G2 t_int64 (.ptr i1 [2] 2)) fun v3 => wv (vload T G2 t_sl_api_Update (.ptr i1 [4] 4)) fun v4 => wv (vload T G2 t_sl_api_Update (.ptr i1 [5] 5)) fun v5 => wv (vload T G2 t_api_State (.ptr i1 [] 0)) fun v6 => ACalls P dance_Fixed.n [v6] G2 fun v7 G8 => (vload T G8 t_sl_api_Update (.ptr i1 [5] 5) = some v5 ∧ vload T G8 t_sl_api_Update (.ptr i1 [4] 4) = some v4 ∧ vload T G8 t_int64 (.ptr i1 [2] 2) = some v3 ∧ True) ∧ (ACalls P ledger_Spendable.n [v3, v4, v5, v7] G8 fun v9 G10 => Q v9 G10)
def dance_Spendable.an : Ann := .two (.nil) (.two (.ord [(0, []), (1, []), (2, []), (3, []), (4, []), (5, []), (6, []), (7, [1, 3, 5]), (8, []), (9, [])]) (.nil))
set_option maxRecDepth 100000 in
theorem dance_Spendable.sound {a0 : AVal} {G : Heap} {Q : AVal → Heap → Prop} (h : dance_Spendable.S a0 G Q) : ACalls P dance_Spendable.n [a0] G Q := by
  have e : dance_Spendable.S a0 G Q = awp cx (dance_Spendable.body) dance_Spendable.an (bodyQ T [.tmp 2] Q) (envL [a0]) G := by kernel_rfl
  exact ACalls_of_awp cxOk (f := dance_Spendable.n) (fn := Tryz.f30) (c := dance_Spendable.body) (an := dance_Spendable.an) Tryz.func30 (by kernel_rfl) (by kernel_rfl) (by kernel_rfl) (drawsOk_of (by kernel_rfl) (by kernel_rfl)) (by simp [Tryz.f30]) (e ▸ h)

/-! #### escrow/dance.dead -/
def dance_dead.S (a0 : AVal) (G : Heap) (Q : AVal → Heap → Prop) : Prop :=
  aNew G (.own (a0)) fun i1 G2 => wv (vload T G2 t_int (.ptr i1 [16] 113)) fun v3 => wv (vbin T .neq t_int v3 (.int .i64 0)) fun v4 => brB (some v4)
  (Q (.bool true) G2)
  (wv (vload T G2 t_int64 (.ptr i1 [17] 114)) fun v5 => wv (vbin T .neq t_int64 v5 (.int .i64 (-1))) fun v6 => Q v6 G2)
def dance_dead.an : Ann := .nil
set_option maxRecDepth 100000 in
theorem dance_dead.sound {a0 : AVal} {G : Heap} {Q : AVal → Heap → Prop} (h : dance_dead.S a0 G Q) : ACalls P dance_dead.n [a0] G Q := by
  have e : dance_dead.S a0 G Q = awp cx (dance_dead.body) dance_dead.an (bodyQ T [.tmp 2] Q) (envL [a0]) G := by kernel_rfl
  exact ACalls_of_awp cxOk (f := dance_dead.n) (fn := Tryz.f49) (c := dance_dead.body) (an := dance_dead.an) Tryz.func49 (by kernel_rfl) (by kernel_rfl) (by kernel_rfl) (drawsOk_of (by kernel_rfl) (by kernel_rfl)) (by simp [Tryz.f49]) (e ▸ h)

/-! #### escrow/dance.full -/
def dance_full.S (a0 : AVal) (G : Heap) (Q : AVal → Heap → Prop) : Prop :=
  aNew G (.own (a0)) fun i1 G2 => wv (vload T G2 t_sl_api_Update (.ptr i1 [4] 4)) fun v3 => wv (vlen T G2 t_sl_api_Update v3) fun v4 => wv (vbin T .geq t_int v4 (.int .i64 2048)) fun v5 => brB (some v5)
  (Q (.bool true) G2)
  (wv (vload T G2 t_sl_api_Update (.ptr i1 [4] 4)) fun v6 => wv (vlen T G2 t_sl_api_Update v6) fun v7 => wv (vload T G2 t_int (.ptr i1 [11, 0] 13)) fun v8 => wv (vbin T .sub t_int v7 v8) fun v9 => wv (vbin T .geq t_int v9 (.int .i64 512)) fun v10 => Q v10 G2)
def dance_full.an : Ann := .nil
set_option maxRecDepth 100000 in
theorem dance_full.sound {a0 : AVal} {G : Heap} {Q : AVal → Heap → Prop} (h : dance_full.S a0 G Q) : ACalls P dance_full.n [a0] G Q := by
  have e : dance_full.S a0 G Q = awp cx (dance_full.body) dance_full.an (bodyQ T [.tmp 2] Q) (envL [a0]) G := by kernel_rfl
  exact ACalls_of_awp cxOk (f := dance_full.n) (fn := Tryz.f50) (c := dance_full.body) (an := dance_full.an) Tryz.func50 (by kernel_rfl) (by kernel_rfl) (by kernel_rfl) (drawsOk_of (by kernel_rfl) (by kernel_rfl)) (by simp [Tryz.f50]) (e ▸ h)

/-! #### escrow/ledger.Open$1 -/
def ledger_Open_1.S (a0 a1 : AVal) (G : Heap) (Q : AVal → Heap → Prop) : Prop :=
  wv (vload T G t_map_int64_int a1) fun v1 => wv (vlookup T G t_map_int64_int v1 a0 false) fun v2 => wv (vbin T .eql t_int v2 (.int .i64 0)) fun v3 => Q v3 G
def ledger_Open_1.an : Ann := .nil
set_option maxRecDepth 100000 in
theorem ledger_Open_1.sound {a0 a1 : AVal} {G : Heap} {Q : AVal → Heap → Prop} (h : ledger_Open_1.S a0 a1 G Q) : ACalls P ledger_Open_1.n [a0, a1] G Q := by
  have e : ledger_Open_1.S a0 a1 G Q = awp cx (ledger_Open_1.body) ledger_Open_1.an (bodyQ T [.tmp 3] Q) (envL [a0, a1]) G := by kernel_rfl
  exact ACalls_of_awp cxOk (f := ledger_Open_1.n) (fn := Tryz.f107) (c := ledger_Open_1.body) (an := ledger_Open_1.an) Tryz.func107 (by kernel_rfl) (by kernel_rfl) (by kernel_rfl) (drawsOk_of (by kernel_rfl) (by kernel_rfl)) (by simp [Tryz.f107]) (e ▸ h)

/-! #### escrow/ledger.Open -/
def ledger_Open.S (a0 a1 a2 : AVal) (G : Heap) (Q : AVal → Heap → Prop) : Prop :=
  ACalls P ledger_first.n [a1, a2] G fun v1 G2 => ACalls P ledger_removals.n [v1] G2 fun v3 G4 => aNew G4 (.own (z_map_int64_int)) fun i5 G6 => wg (vstore T G6 t_map_int64_int (.ptr i5 [] 0) v3) fun G7 => ACalls P ledger_adds.n [a0, .func (.func ledger_Open_1.n) [] [.ptr i5 [] 0]] G7 fun v8 G9 => wv (vlen T G9 t_sl_int64 v8) fun v10 => Q v10 G9
def ledger_Open.an : Ann := .nil
set_option maxRecDepth 100000 in
theorem ledger_Open.sound {a0 a1 a2 : AVal} {G : Heap} {Q : AVal → Heap → Prop} (h : ledger_Open.S a0 a1 a2 G Q) : ACalls P ledger_Open.n [a0, a1, a2] G Q := by
  have e : ledger_Open.S a0 a1 a2 G Q = awp cx (ledger_Open.body) ledger_Open.an (bodyQ T [.tmp 6] Q) (envL [a0, a1, a2]) G := by kernel_rfl
  exact ACalls_of_awp cxOk (f := ledger_Open.n) (fn := Tryz.f51) (c := ledger_Open.body) (an := ledger_Open.an) Tryz.func51 (by kernel_rfl) (by kernel_rfl) (by kernel_rfl) (drawsOk_of (by kernel_rfl) (by kernel_rfl)) (by simp [Tryz.f51]) (e ▸ h)

/-! #### escrow/dance.mine -/
def dance_mine.S (a0 : AVal) (G : Heap) (Q : AVal → Heap → Prop) : Prop :=
  aNew G (.own (a0)) fun i1 G2 => aNew G2 (.own (z_api_Record)) fun i3 G4 => wv (vload T G4 t_api_Update (.ptr i1 [] 0)) fun v5 => wv (vbuild T t_api_Record [(0, .int .i64 1), (1, v5)]) fun v6 => wg (vstore T G4 t_api_Record (.ptr i3 [] 0) v6) fun G7 => wv (vload T G7 t_api_Record (.ptr i3 [] 0)) fun v8 => Q v8 G7
def dance_mine.an : Ann := .nil
set_option maxRecDepth 100000 in
theorem dance_mine.sound {a0 : AVal} {G : Heap} {Q : AVal → Heap → Prop} (h : dance_mine.S a0 G Q) : ACalls P dance_mine.n [a0] G Q := by
  have e : dance_mine.S a0 G Q = awp cx (dance_mine.body) dance_mine.an (bodyQ T [.cell 2 55] Q) (envL [a0]) G := by kernel_rfl
  exact ACalls_of_awp cxOk (f := dance_mine.n) (fn := Tryz.f52) (c := dance_mine.body) (an := dance_mine.an) Tryz.func52 (by kernel_rfl) (by kernel_rfl) (by kernel_rfl) (drawsOk_of (by kernel_rfl) (by kernel_rfl)) (by simp [Tryz.f52]) (e ▸ h)

/-! #### escrow/dance.Offer -/
def dance_Offer.S (a0 a1 a2 : AVal) (G : Heap) (Q : AVal → Heap → Prop) : Prop :=
  aNew G (.own (a0)) fun i1 G2 => aNew G2 (.own (a2)) fun i3 G4 => aNew G4 (.own (z_api_Record)) fun i5 G6 => wv (vload T G6 t_api_State (.ptr i1 [] 0)) fun v7 => ACalls P dance_dead.n [v7] G6 fun v8 G9 => brB (some v8)
  (wv (vbuild T t_api_Record []) fun v10 => wg (vstore T G9 t_api_Record (.ptr i5 [] 0) v10) fun G11 => wv (vload T G11 t_api_Record (.ptr i5 [] 0)) fun v12 => Q (.tuple [v12, .int .i64 220]) G11)
  (let J45 : AVal → Heap → Prop := (fun x16 G15 => brB (some x16)
  (wv (vbuild T t_api_Record []) fun v17 => wg (vstore T G15 t_api_Record (.ptr i5 [] 0) v17) fun G18 => wv (vload T G18 t_api_Record (.ptr i5 [] 0)) fun v19 => Q (.tuple [v19, .int .i64 80]) G18)
  (wv (vload T G15 t_api_State (.ptr i1 [] 0)) fun v20 => ACalls P dance_full.n [v20] G15 fun v21 G22 => brB (some v21)
  (wv (vbuild T t_api_Record []) fun v23 => wg (vstore T G22 t_api_Record (.ptr i5 [] 0) v23) fun G24 => wv (vload T G24 t_api_Record (.ptr i5 [] 0)) fun v25 => Q (.tuple [v25, .int .i64 6]) G24)
  (wv (vload T G22 t_sl_api_Update (.ptr i1 [4] 4)) fun v26 => wv (vload T G22 t_sl_api_Update (.ptr i1 [5] 5)) fun v27 => wv (vload T G22 t_api_State (.ptr i1 [] 0)) fun v28 => ACalls P dance_Fixed.n [v28] G22 fun v29 G30 => (vload T G30 t_sl_api_Update (.ptr i1 [5] 5) = some v27 ∧ vload T G30 t_sl_api_Update (.ptr i1 [4] 4) = some v26 ∧ True) ∧ (wv (vfield T t_api_Counts v29 1) fun v31 => ACalls P ledger_Open.n [v26, v27, v31] G30 fun v32 G33 => wv (vbin T .geq t_int v32 (.int .i64 483)) fun v34 => brB (some v34)
  (wv (vbuild T t_api_Record []) fun v35 => wg (vstore T G33 t_api_Record (.ptr i5 [] 0) v35) fun G36 => wv (vload T G36 t_api_Record (.ptr i5 [] 0)) fun v37 => Q (.tuple [v37, .int .i64 131]) G36)
  (wv (vload T G33 t_api_State (.ptr i1 [] 0)) fun v38 => ACalls P dance_Spendable.n [v38] G33 fun v39 G40 => wv (vbin T .gtr t_int64 a1 v39) fun v41 => brB (some v41)
  (wv (vbuild T t_api_Record []) fun v42 => wg (vstore T G40 t_api_Record (.ptr i5 [] 0) v42) fun G43 => wv (vload T G43 t_api_Record (.ptr i5 [] 0)) fun v44 => Q (.tuple [v44, .int .i64 130]) G43)
  (wv (vload T G40 t_sl_api_Update (.ptr i1 [4] 4)) fun v46 => wv (vlen T G40 t_sl_api_Update v46) fun v47 => ∀ R48 : List AVal → Heap → Prop,
  (∀ (x50 x51 x52 x53 x54 x55 x56 : AVal) (G49 : Heap), (wv (vbin T .lss t_int x56 x55) fun v57 => brB (some v57)
  (wv (viaddr T t_sl_api_Update x54 x56) fun v58 => wv (vload T G49 t_api_Update v58) fun v59 => aNew G49 (.own (z_api_Update)) fun i60 G61 => wg (vstore T G61 t_api_Update (.ptr i60 [] 0) v59) fun G62 => wv (vload T G62 t_int (.ptr i60 [0] 0)) fun v63 => wv (vbin T .eql t_int v63 (.int .i64 1)) fun v64 => brB (some v64)
  (wv (vbin T .add t_int64 x53 (.int .i64 1)) fun v65 => wv (vbin T .add t_int x56 (.int .i64 1)) fun v71 => R48 [x50, x51, x52, v65, x54, x55, v71] G62)
  (wv (vbin T .add t_int x56 (.int .i64 1)) fun v72 => R48 [x50, x51, x52, x53, x54, x55, v72] G62))
  (wv (vload T G49 t_api_Hash x51) fun v73 => wv (vbuild T t_api_Update [(0, .int .i64 1), (1, x53), (2, x50), (3, v73)]) fun v74 => ACalls P dance_mine.n [v74] G49 fun v75 G76 => wg (vstore T G76 t_api_Record x52 v75) fun G77 => wv (vload T G77 t_api_Record x52) fun v78 => Q (.tuple [v78, .int .i64 0]) G77)) → R48 [x50, x51, x52, x53, x54, x55, x56] G49) →
  R48 [a1, .ptr i3 [] 0, .ptr i5 [] 0, .int .i64 0, v46, v47, .int .i64 0] G40))))));
  wv (vbin T .lss t_int64 a1 (.int .i64 1)) fun v13 => brB (some v13)
  (J45 (.bool true) G9)
  (wv (vbin T .gtr t_int64 a1 (.int .i64 1152921504606846976)) fun v14 => J45 v14 G9))
def dance_Offer.an : Ann := .two (.nil) (.two (.two (.nil) (.two (.nil) (.two (.nil) (.two (.nil) (.two (.nil) (.two (.nil) (.two (.ord [(0, []), (1, []), (2, []), (3, []), (4, []), (5, [1, 3]), (6, []), (7, []), (8, []), (9, [])]) (.nil)))))))) (.two (.nil) (.two (.two (.nil) (.loop [1, 5, 6, 8, 45, 46, 47] (.nil))) (.nil))))
set_option maxRecDepth 100000 in
theorem dance_Offer.sound {a0 a1 a2 : AVal} {G : Heap} {Q : AVal → Heap → Prop} (h : dance_Offer.S a0 a1 a2 G Q) : ACalls P dance_Offer.n [a0, a1, a2] G Q := by
  have e : dance_Offer.S a0 a1 a2 G Q = awp cx (dance_Offer.body) dance_Offer.an (bodyQ T [.cell 6 55, .tmp 7] Q) (envL [a0, a1, a2]) G := by kernel_rfl
  exact ACalls_of_awp cxOk (f := dance_Offer.n) (fn := Tryz.f18) (c := dance_Offer.body) (an := dance_Offer.an) Tryz.func18 (by kernel_rfl) (by kernel_rfl) (by kernel_rfl) (drawsOk_of (by kernel_rfl) (by kernel_rfl)) (by simp [Tryz.f18]) (e ▸ h)

/-! #### escrow/escrowref09.good -/
def escrowref09_good.S (a0 : AVal) (G : Heap) (Q : AVal → Heap → Prop) : Prop :=
  wv (vbin T .geq t_int64 a0 (.int .i64 0)) fun v1 => brB (some v1)
  (wv (vbin T .leq t_int64 a0 (.int .i64 281474976710655)) fun v2 => Q v2 G)
  (Q (.bool false) G)
def escrowref09_good.an : Ann := .nil
set_option maxRecDepth 100000 in
theorem escrowref09_good.sound {a0 : AVal} {G : Heap} {Q : AVal → Heap → Prop} (h : escrowref09_good.S a0 G Q) : ACalls P escrowref09_good.n [a0] G Q := by
  have e : escrowref09_good.S a0 G Q = awp cx (escrowref09_good.body) escrowref09_good.an (bodyQ T [.tmp 2] Q) (envL [a0]) G := by kernel_rfl
  exact ACalls_of_awp cxOk (f := escrowref09_good.n) (fn := Tryz.f158) (c := escrowref09_good.body) (an := escrowref09_good.an) Tryz.func158 (by kernel_rfl) (by kernel_rfl) (by kernel_rfl) (drawsOk_of (by kernel_rfl) (by kernel_rfl)) (by simp [Tryz.f158]) (e ▸ h)

/-! #### escrow/escrowref02.padded -/
def escrowref02_padded.S (a0 : AVal) (G : Heap) (Q : AVal → Heap → Prop) : Prop :=
  aAppend T G t_sl_uint8 t_string (.nilSlice) a0 fun v1 G2 => aBuildSlice T t_sl_uint8 1 [(0, .int .u8 128)] G2 fun v3 G4 => aAppend T G4 t_sl_uint8 t_sl_uint8 v1 v3 fun v5 G6 => ∀ R7 : List AVal → Heap → Prop,
  (∀ (x9 x10 : AVal) (G8 : Heap), (wv (vlen T G8 t_sl_uint8 x10) fun v11 => wv (vbin T .rem t_int v11 (.int .i64 64)) fun v12 => wv (vbin T .neq t_int v12 (.int .i64 56)) fun v13 => brB (some v13)
  (aBuildSlice T t_sl_uint8 1 [(0, .int .u8 0)] G8 fun v14 G15 => aAppend T G15 t_sl_uint8 t_sl_uint8 x10 v14 fun v16 G17 => R7 [x9, v16] G17)
  (∀ R18 : List AVal → Heap → Prop,
  (∀ (x20 x21 x22 : AVal) (G19 : Heap), (wv (vbin T .geq t_int x22 (.int .i64 0)) fun v23 => brB (some v23)
  (wv (vlen T G19 t_string x20) fun v24 => wv (vbin T .mul t_int (.int .i64 8) v24) fun v25 => wv (vbin T .mul t_int (.int .i64 8) x22) fun v26 => wv (vbin T .shr t_int v25 v26) fun v27 => wv (vconv T G19 t_int t_uint8 v27) fun v28 => aBuildSlice T t_sl_uint8 1 [(0, v28)] G19 fun v29 G30 => aAppend T G30 t_sl_uint8 t_sl_uint8 x21 v29 fun v31 G32 => wv (vbin T .sub t_int x22 (.int .i64 1)) fun v33 => R18 [x20, v31, v33] G32)
  (Q x21 G19)) → R18 [x20, x21, x22] G19) →
  R18 [x9, x10, .int .i64 7] G8)) → R7 [x9, x10] G8) →
  R7 [a0, v5] G6
def escrowref02_padded.an : Ann := .two (.nil) (.two (.nil) (.two (.nil) (.two (.nil) (.two (.loop [0, 3] (.nil)) (.two (.two (.nil) (.loop [0, 3, 4] (.nil))) (.nil))))))
set_option maxRecDepth 100000 in
theorem escrowref02_padded.sound {a0 : AVal} {G : Heap} {Q : AVal → Heap → Prop} (h : escrowref02_padded.S a0 G Q) : ACalls P escrowref02_padded.n [a0] G Q := by
  have e : escrowref02_padded.S a0 G Q = awp cx (escrowref02_padded.body) escrowref02_padded.an (bodyQ T [.tmp 2] Q) (envL [a0]) G := by kernel_rfl
  exact ACalls_of_awp cxOk (f := escrowref02_padded.n) (fn := Tryz.f54) (c := escrowref02_padded.body) (an := escrowref02_padded.an) Tryz.func54 (by kernel_rfl) (by kernel_rfl) (by kernel_rfl) (drawsOk_of (by kernel_rfl) (by kernel_rfl)) (by simp [Tryz.f54]) (e ▸ h)

/-! #### escrow/escrowref02.rounds -/
def escrowref02_rounds.S (G : Heap) (Q : AVal → Heap → Prop) : Prop :=
  aNew G (.own (z_ar64_uint32)) fun i1 G2 => wv (vbuild T t_ar64_uint32 [(0, .int .u32 1116352408), (1, .int .u32 1899447441), (2, .int .u32 3049323471), (3, .int .u32 3921009573), (4, .int .u32 961987163), (5, .int .u32 1508970993), (6, .int .u32 2453635748), (7, .int .u32 2870763221), (8, .int .u32 3624381080), (9, .int .u32 310598401), (10, .int .u32 607225278), (11, .int .u32 1426881987), (12, .int .u32 1925078388), (13, .int .u32 2162078206), (14, .int .u32 2614888103), (15, .int .u32 3248222580), (16, .int .u32 3835390401), (17, .int .u32 4022224774), (18, .int .u32 264347078), (19, .int .u32 604807628), (20, .int .u32 770255983), (21, .int .u32 1249150122), (22, .int .u32 1555081692), (23, .int .u32 1996064986), (24, .int .u32 2554220882), (25, .int .u32 2821834349), (26, .int .u32 2952996808), (27, .int .u32 3210313671), (28, .int .u32 3336571891), (29, .int .u32 3584528711), (30, .int .u32 113926993), (31, .int .u32 338241895), (32, .int .u32 666307205), (33, .int .u32 773529912), (34, .int .u32 1294757372), (35, .int .u32 1396182291), (36, .int .u32 1695183700), (37, .int .u32 1986661051), (38, .int .u32 2177026350), (39, .int .u32 2456956037), (40, .int .u32 2730485921), (41, .int .u32 2820302411), (42, .int .u32 3259730800), (43, .int .u32 3345764771), (44, .int .u32 3516065817), (45, .int .u32 3600352804), (46, .int .u32 4094571909), (47, .int .u32 275423344), (48, .int .u32 430227734), (49, .int .u32 506948616), (50, .int .u32 659060556), (51, .int .u32 883997877), (52, .int .u32 958139571), (53, .int .u32 1322822218), (54, .int .u32 1537002063), (55, .int .u32 1747873779), (56, .int .u32 1955562222), (57, .int .u32 2024104815), (58, .int .u32 2227730452), (59, .int .u32 2361852424), (60, .int .u32 2428436474), (61, .int .u32 2756734187), (62, .int .u32 3204031479), (63, .int .u32 3329325298)]) fun v3 => wg (vstore T G2 t_ar64_uint32 (.ptr i1 [] 0) v3) fun G4 => wv (vload T G4 t_ar64_uint32 (.ptr i1 [] 0)) fun v5 => Q v5 G4
def escrowref02_rounds.an : Ann := .nil
set_option maxRecDepth 100000 in
theorem escrowref02_rounds.sound {G : Heap} {Q : AVal → Heap → Prop} (h : escrowref02_rounds.S G Q) : ACalls P escrowref02_rounds.n [] G Q := by
  have e : escrowref02_rounds.S G Q = awp cx (escrowref02_rounds.body) escrowref02_rounds.an (bodyQ T [.cell 0 105] Q) (envL []) G := by kernel_rfl
  exact ACalls_of_awp cxOk (f := escrowref02_rounds.n) (fn := Tryz.f109) (c := escrowref02_rounds.body) (an := escrowref02_rounds.an) Tryz.func109 (by kernel_rfl) (by kernel_rfl) (by kernel_rfl) (drawsOk_of (by kernel_rfl) (by kernel_rfl)) (by simp [Tryz.f109]) (e ▸ h)

/-! #### escrow/escrowref02.rot -/
def escrowref02_rot.S (a0 a1 : AVal) (G : Heap) (Q : AVal → Heap → Prop) : Prop :=
  wv (vbin T .shr t_uint32 a0 a1) fun v1 => wv (vbin T .sub t_int (.int .i64 32) a1) fun v2 => wv (vbin T .shl t_uint32 a0 v2) fun v3 => wv (vbin T .or t_uint32 v1 v3) fun v4 => Q v4 G
def escrowref02_rot.an : Ann := .two (.nil) (.two (.ord [(0, []), (1, []), (2, []), (3, []), (4, []), (5, []), (6, []), (7, []), (8, [])]) (.nil))
set_option maxRecDepth 100000 in
theorem escrowref02_rot.sound {a0 a1 : AVal} {G : Heap} {Q : AVal → Heap → Prop} (h : escrowref02_rot.S a0 a1 G Q) : ACalls P escrowref02_rot.n [a0, a1] G Q := by
  have e : escrowref02_rot.S a0 a1 G Q = awp cx (escrowref02_rot.body) escrowref02_rot.an (bodyQ T [.tmp 4] Q) (envL [a0, a1]) G := by kernel_rfl
  exact ACalls_of_awp cxOk (f := escrowref02_rot.n) (fn := Tryz.f110) (c := escrowref02_rot.body) (an := escrowref02_rot.an) Tryz.func110 (by kernel_rfl) (by kernel_rfl) (by kernel_rfl) (drawsOk_of (by kernel_rfl) (by kernel_rfl)) (by simp [Tryz.f110]) (e ▸ h)

/-! #### escrow/escrowref02.block -/
def escrowref02_block.S (a0 a1 a2 : AVal) (G : Heap) (Q : AVal → Heap → Prop) : Prop :=
  aNew G (.own (a0)) fun i1 G2 => aNew G2 (.own (z_ar8_uint32)) fun i3 G4 => ACalls P escrowref02_rounds.n [] G4 fun v5 G6 => aNew G6 (.own (z_ar64_uint32)) fun i7 G8 => wg (vstore T G8 t_ar64_uint32 (.ptr i7 [] 0) v5) fun G9 => aNew G9 (.own (z_ar64_uint32)) fun i10 G11 => ∀ R12 : List AVal → Heap → Prop,
  (∀ (x14 x15 x16 x17 x18 x19 x20 : AVal) (G13 : Heap), (wv (vbin T .lss t_int x20 (.int .i64 16)) fun v21 => brB (some v21)
  (wv (vbin T .mul t_int (.int .i64 4) x20) fun v22 => wv (vbin T .add t_int x15 v22) fun v23 => wv (viaddr T t_sl_uint8 x14 v23) fun v24 => wv (vload T G13 t_uint8 v24) fun v25 => wv (vconv T G13 t_uint8 t_uint32 v25) fun v26 => wv (vbin T .shl t_uint32 v26 (.int .u64 24)) fun v27 => wv (vbin T .add t_int v23 (.int .i64 1)) fun v28 => wv (viaddr T t_sl_uint8 x14 v28) fun v29 => wv (vload T G13 t_uint8 v29) fun v30 => wv (vconv T G13 t_uint8 t_uint32 v30) fun v31 => wv (vbin T .shl t_uint32 v31 (.int .u64 16)) fun v32 => wv (vbin T .or t_uint32 v27 v32) fun v33 => wv (vbin T .add t_int v23 (.int .i64 2)) fun v34 => wv (viaddr T t_sl_uint8 x14 v34) fun v35 => wv (vload T G13 t_uint8 v35) fun v36 => wv (vconv T G13 t_uint8 t_uint32 v36) fun v37 => wv (vbin T .shl t_uint32 v37 (.int .u64 8)) fun v38 => wv (vbin T .or t_uint32 v33 v38) fun v39 => wv (vbin T .add t_int v23 (.int .i64 3)) fun v40 => wv (viaddr T t_sl_uint8 x14 v40) fun v41 => wv (vload T G13 t_uint8 v41) fun v42 => wv (vconv T G13 t_uint8 t_uint32 v42) fun v43 => wv (vbin T .or t_uint32 v39 v43) fun v44 => wv (viaddr T t_ar64_uint32 x19 x20) fun v45 => wg (vstore T G13 t_uint32 v45 v44) fun G46 => wv (vbin T .add t_int x20 (.int .i64 1)) fun v47 => R12 [x14, x15, x16, x17, x18, x19, v47] G46)
  (∀ R48 : List AVal → Heap → Prop,
  (∀ (x50 x51 x52 x53 x54 : AVal) (G49 : Heap), (wv (vbin T .lss t_int x54 (.int .i64 64)) fun v55 => brB (some v55)
  (wv (vbin T .sub t_int x54 (.int .i64 15)) fun v56 => wv (viaddr T t_ar64_uint32 x53 v56) fun v57 => wv (vload T G49 t_uint32 v57) fun v58 => wv (vbin T .sub t_int x54 (.int .i64 2)) fun v59 => wv (viaddr T t_ar64_uint32 x53 v59) fun v60 => wv (vload T G49 t_uint32 v60) fun v61 => wv (vbin T .sub t_int x54 (.int .i64 16)) fun v62 => wv (viaddr T t_ar64_uint32 x53 v62) fun v63 => wv (vload T G49 t_uint32 v63) fun v64 => wv (vbin T .shr t_uint32 v58 (.int .u64 3)) fun v65 => wv (vbin T .sub t_int x54 (.int .i64 7)) fun v66 => wv (viaddr T t_ar64_uint32 x53 v66) fun v67 => wv (vload T G49 t_uint32 v67) fun v68 => wv (vbin T .shr t_uint32 v61 (.int .u64 10)) fun v69 => ACalls P escrowref02_rot.n [v58, .int .i64 7] G49 fun v70 G71 => (vload T G71 t_uint32 v67 = some v68 ∧ vload T G71 t_uint32 v63 = some v64 ∧ True) ∧ (ACalls P escrowref02_rot.n [v58, .int .i64 18] G71 fun v72 G73 => (vload T G73 t_uint32 v67 = some v68 ∧ vload T G73 t_uint32 v63 = some v64 ∧ True) ∧ (wv (vbin T .xor t_uint32 v70 v72) fun v74 => wv (vbin T .xor t_uint32 v74 v65) fun v75 => wv (vbin T .add t_uint32 v64 v75) fun v76 => wv (vbin T .add t_uint32 v76 v68) fun v77 => ACalls P escrowref02_rot.n [v61, .int .i64 17] G73 fun v78 G79 => (vload T G79 t_uint32 v67 = some v68 ∧ vload T G79 t_uint32 v63 = some v64 ∧ True) ∧ (ACalls P escrowref02_rot.n [v61, .int .i64 19] G79 fun v80 G81 => (vload T G81 t_uint32 v67 = some v68 ∧ vload T G81 t_uint32 v63 = some v64 ∧ True) ∧ (wv (vbin T .xor t_uint32 v78 v80) fun v82 => wv (vbin T .xor t_uint32 v82 v69) fun v83 => wv (vbin T .add t_uint32 v77 v83) fun v84 => wv (viaddr T t_ar64_uint32 x53 x54) fun v85 => wg (vstore T G81 t_uint32 v85 v84) fun G86 => wv (vbin T .add t_int x54 (.int .i64 1)) fun v87 => R48 [x50, x51, x52, x53, v87] G86)))))
  (wv (vload T G49 t_ar8_uint32 x50) fun v88 => aNew G49 (.own (z_ar8_uint32)) fun i89 G90 => wg (vstore T G90 t_ar8_uint32 (.ptr i89 [] 0) v88) fun G91 => ∀ R92 : List AVal → Heap → Prop,
  (∀ (x94 x95 x96 x97 x98 x99 : AVal) (G93 : Heap), (wv (vbin T .lss t_int x99 (.int .i64 64)) fun v100 => brB (some v100)
  (wv (viaddr T t_ar8_uint32 x98 (.int .i64 0)) fun v101 => wv (vload T G93 t_uint32 v101) fun v102 => wv (viaddr T t_ar8_uint32 x98 (.int .i64 4)) fun v103 => wv (vload T G93 t_uint32 v103) fun v104 => wv (viaddr T t_ar8_uint32 x98 (.int .i64 7)) fun v105 => wv (vload T G93 t_uint32 v105) fun v106 => wv (viaddr T t_ar8_uint32 x98 (.int .i64 5)) fun v107 => wv (vload T G93 t_uint32 v107) fun v108 => wv (vbin T .and t_uint32 v104 v108) fun v109 => wv (vun .xor v104) fun v110 => wv (viaddr T t_ar8_uint32 x98 (.int .i64 6)) fun v111 => wv (vload T G93 t_uint32 v111) fun v112 => wv (vbin T .and t_uint32 v110 v112) fun v113 => wv (vbin T .xor t_uint32 v109 v113) fun v114 => wv (viaddr T t_ar64_uint32 x96 x99) fun v115 => wv (vload T G93 t_uint32 v115) fun v116 => wv (viaddr T t_ar64_uint32 x97 x99) fun v117 => wv (vload T G93 t_uint32 v117) fun v118 => ACalls P escrowref02_rot.n [v104, .int .i64 6] G93 fun v119 G120 => (vload T G120 t_uint32 v117 = some v118 ∧ vload T G120 t_uint32 v115 = some v116 ∧ vload T G120 t_uint32 v111 = some v112 ∧ vload T G120 t_uint32 v107 = some v108 ∧ vload T G120 t_uint32 v105 = some v106 ∧ True) ∧ (ACalls P escrowref02_rot.n [v104, .int .i64 11] G120 fun v121 G122 => (vload T G122 t_uint32 v117 = some v118 ∧ vload T G122 t_uint32 v115 = some v116 ∧ vload T G122 t_uint32 v111 = some v112 ∧ vload T G122 t_uint32 v107 = some v108 ∧ vload T G122 t_uint32 v105 = some v106 ∧ True) ∧ (wv (vbin T .xor t_uint32 v119 v121) fun v123 => ACalls P escrowref02_rot.n [v104, .int .i64 25] G122 fun v124 G125 => (vload T G125 t_uint32 v117 = some v118 ∧ vload T G125 t_uint32 v115 = some v116 ∧ vload T G125 t_uint32 v111 = some v112 ∧ vload T G125 t_uint32 v107 = some v108 ∧ vload T G125 t_uint32 v105 = some v106 ∧ True) ∧ (wv (vbin T .xor t_uint32 v123 v124) fun v126 => wv (vbin T .add t_uint32 v106 v126) fun v127 => wv (vbin T .add t_uint32 v127 v114) fun v128 => wv (vbin T .add t_uint32 v128 v116) fun v129 => wv (vbin T .add t_uint32 v129 v118) fun v130 => wv (viaddr T t_ar8_uint32 x98 (.int .i64 1)) fun v131 => wv (vload T G125 t_uint32 v131) fun v132 => wv (vbin T .and t_uint32 v102 v132) fun v133 => wv (viaddr T t_ar8_uint32 x98 (.int .i64 2)) fun v134 => wv (vload T G125 t_uint32 v134) fun v135 => wv (vbin T .and t_uint32 v102 v135) fun v136 => wv (vbin T .xor t_uint32 v133 v136) fun v137 => wv (viaddr T t_ar8_uint32 x98 (.int .i64 1)) fun v138 => wv (vload T G125 t_uint32 v138) fun v139 => wv (viaddr T t_ar8_uint32 x98 (.int .i64 2)) fun v140 => wv (vload T G125 t_uint32 v140) fun v141 => wv (vbin T .and t_uint32 v139 v141) fun v142 => wv (vbin T .xor t_uint32 v137 v142) fun v143 => ACalls P escrowref02_rot.n [v102, .int .i64 2] G125 fun v144 G145 => (vload T G145 t_uint32 v140 = some v141 ∧ vload T G145 t_uint32 v138 = some v139 ∧ vload T G145 t_uint32 v134 = some v135 ∧ vload T G145 t_uint32 v131 = some v132 ∧ True) ∧ (ACalls P escrowref02_rot.n [v102, .int .i64 13] G145 fun v146 G147 => (vload T G147 t_uint32 v140 = some v141 ∧ vload T G147 t_uint32 v138 = some v139 ∧ vload T G147 t_uint32 v134 = some v135 ∧ vload T G147 t_uint32 v131 = some v132 ∧ True) ∧ (wv (vbin T .xor t_uint32 v144 v146) fun v148 => ACalls P escrowref02_rot.n [v102, .int .i64 22] G147 fun v149 G150 => (vload T G150 t_uint32 v140 = some v141 ∧ vload T G150 t_uint32 v138 = some v139 ∧ vload T G150 t_uint32 v134 = some v135 ∧ vload T G150 t_uint32 v131 = some v132 ∧ True) ∧ (wv (vbin T .xor t_uint32 v148 v149) fun v151 => wv (vbin T .add t_uint32 v151 v143) fun v152 => wv (vbin T .add t_uint32 v130 v152) fun v153 => wv (viaddr T t_ar8_uint32 x98 (.int .i64 0)) fun v154 => wv (vload T G150 t_uint32 v154) fun v155 => wv (viaddr T t_ar8_uint32 x98 (.int .i64 1)) fun v156 => wv (vload T G150 t_uint32 v156) fun v157 => wv (viaddr T t_ar8_uint32 x98 (.int .i64 2)) fun v158 => wv (vload T G150 t_uint32 v158) fun v159 => wv (viaddr T t_ar8_uint32 x98 (.int .i64 3)) fun v160 => wv (vload T G150 t_uint32 v160) fun v161 => wv (vbin T .add t_uint32 v161 v130) fun v162 => wv (viaddr T t_ar8_uint32 x98 (.int .i64 4)) fun v163 => wv (vload T G150 t_uint32 v163) fun v164 => wv (viaddr T t_ar8_uint32 x98 (.int .i64 5)) fun v165 => wv (vload T G150 t_uint32 v165) fun v166 => wv (viaddr T t_ar8_uint32 x98 (.int .i64 6)) fun v167 => wv (vload T G150 t_uint32 v167) fun v168 => wv (vbuild T t_ar8_uint32 [(0, v153), (1, v155), (2, v157), (3, v159), (4, v162), (5, v164), (6, v166), (7, v168)]) fun v169 => wg (vstore T G150 t_ar8_uint32 x98 v169) fun G170 => wv (vbin T .add t_int x99 (.int .i64 1)) fun v171 => R92 [x94, x95, x96, x97, x98, v171] G170)))))))
  (∀ R172 : List AVal → Heap → Prop,
  (∀ (x174 x175 x176 x177 : AVal) (G173 : Heap), (wv (vbin T .lss t_int x177 (.int .i64 8)) fun v178 => brB (some v178)
  (wv (viaddr T t_ar8_uint32 x176 x177) fun v179 => wv (vload T G173 t_uint32 v179) fun v180 => wv (viaddr T t_ar8_uint32 x174 x177) fun v181 => wv (vload T G173 t_uint32 v181) fun v182 => wv (vbin T .add t_uint32 v180 v182) fun v183 => wv (viaddr T t_ar8_uint32 x176 x177) fun v184 => wg (vstore T G173 t_uint32 v184 v183) fun G185 => wv (vbin T .add t_int x177 (.int .i64 1)) fun v186 => R172 [x174, x175, x176, v186] G185)
  (wv (vload T G173 t_ar8_uint32 x176) fun v187 => wg (vstore T G173 t_ar8_uint32 x175 v187) fun G188 => wv (vload T G188 t_ar8_uint32 x175) fun v189 => Q v189 G188)) → R172 [x174, x175, x176, x177] G173) →
  R172 [x94, x95, x98, .int .i64 0] G93)) → R92 [x94, x95, x96, x97, x98, x99] G93) →
  R92 [x50, x51, x52, x53, .ptr i89 [] 0, .int .i64 0] G91)) → R48 [x50, x51, x52, x53, x54] G49) →
  R48 [x16, x17, x18, x19, .int .i64 16] G13)) → R12 [x14, x15, x16, x17, x18, x19, x20] G13) →
  R12 [a1, a2, .ptr i1 [] 0, .ptr i3 [] 0, .ptr i7 [] 0, .ptr i10 [] 0, .int .i64 0] G11
def escrowref02_block.an : Ann := .two (.nil) (.two (.nil) (.two (.nil) (.two (.two (.nil) (.loop [1, 2, 3, 6, 7, 8, 9] (.two (.nil) (.two (.two (.nil) (.ord [(0, []), (1, []), (2, []), (3, []), (4, []), (5, []), (6, []), (7, []), (8, []), (9, []), (10, []), (11, []), (12, []), (13, []), (14, []), (15, []), (16, []), (17, []), (18, []), (19, []), (20, []), (21, []), (22, []), (23, []), (24, []), (25, []), (26, []), (27, []), (28, []), (29, []), (30, []), (31, [])])) (.nil))))) (.two (.two (.nil) (.loop [3, 6, 7, 8, 11] (.two (.nil) (.two (.two (.nil) (.two (.nil) (.ord [(0, []), (1, []), (2, []), (3, []), (4, []), (5, []), (7, []), (10, []), (11, []), (14, []), (15, []), (16, []), (17, []), (19, []), (21, []), (24, []), (25, []), (6, [4, 17]), (8, [4, 17]), (9, []), (12, []), (13, []), (18, []), (20, [4, 17]), (22, [4, 17]), (23, []), (26, []), (27, []), (28, []), (29, [])]))) (.nil))))) (.two (.nil) (.two (.two (.nil) (.loop [3, 6, 7, 8, 14, 15] (.two (.nil) (.two (.two (.nil) (.two (.nil) (.two (.ord [(0, []), (1, []), (2, []), (4, []), (7, []), (11, []), (12, []), (13, []), (14, []), (15, []), (16, []), (17, []), (18, []), (19, []), (20, []), (22, []), (23, []), (24, []), (26, []), (27, []), (28, []), (3, [1, 13, 18, 24, 28]), (5, [1, 13, 18, 24, 28]), (6, []), (8, [1, 13, 18, 24, 28]), (9, []), (10, []), (21, []), (25, []), (29, []), (30, [])]) (.two (.ord [(0, []), (2, []), (5, []), (8, []), (9, []), (10, []), (11, []), (12, []), (13, []), (14, []), (15, []), (16, []), (17, []), (18, []), (19, []), (20, []), (21, []), (22, []), (1, [10, 14, 18, 20]), (3, [10, 14, 18, 20]), (4, []), (6, [10, 14, 18, 20]), (7, []), (23, []), (24, [])]) (.nil))))) (.nil))))) (.two (.two (.nil) (.loop [3, 6, 14, 20] (.two (.nil) (.two (.ord [(0, []), (1, []), (2, []), (3, []), (4, []), (5, []), (6, []), (7, []), (8, []), (9, [])]) (.nil))))) (.nil))))))))
set_option maxRecDepth 100000 in
theorem escrowref02_block.sound {a0 a1 a2 : AVal} {G : Heap} {Q : AVal → Heap → Prop} (h : escrowref02_block.S a0 a1 a2 G Q) : ACalls P escrowref02_block.n [a0, a1, a2] G Q := by
  have e : escrowref02_block.S a0 a1 a2 G Q = awp cx (escrowref02_block.body) escrowref02_block.an (bodyQ T [.cell 6 104] Q) (envL [a0, a1, a2]) G := by kernel_rfl
  exact ACalls_of_awp cxOk (f := escrowref02_block.n) (fn := Tryz.f55) (c := escrowref02_block.body) (an := escrowref02_block.an) Tryz.func55 (by kernel_rfl) (by kernel_rfl) (by kernel_rfl) (drawsOk_of (by kernel_rfl) (by kernel_rfl)) (by simp [Tryz.f55]) (e ▸ h)

/-! #### escrow/escrowref02.One -/
def escrowref02_One.S (a0 : AVal) (G : Heap) (Q : AVal → Heap → Prop) : Prop :=
  aNew G (.own (z_api_Hash)) fun i1 G2 => ACalls P escrowref02_padded.n [a0] G2 fun v3 G4 => wv (vbuild T t_ar8_uint32 [(0, .int .u32 1779033703), (1, .int .u32 3144134277), (2, .int .u32 1013904242), (3, .int .u32 2773480762), (4, .int .u32 1359893119), (5, .int .u32 2600822924), (6, .int .u32 528734635), (7, .int .u32 1541459225)]) fun v5 => aNew G4 (.own (z_ar8_uint32)) fun i6 G7 => wg (vstore T G7 t_ar8_uint32 (.ptr i6 [] 0) v5) fun G8 => ∀ R9 : List AVal → Heap → Prop,
  (∀ (x11 x12 x13 x14 : AVal) (G10 : Heap), (wv (vlen T G10 t_sl_uint8 x12) fun v15 => wv (vbin T .lss t_int x14 v15) fun v16 => brB (some v16)
  (wv (vload T G10 t_ar8_uint32 x13) fun v17 => ACalls P escrowref02_block.n [v17, x12, x14] G10 fun v18 G19 => wg (vstore T G19 t_ar8_uint32 x13 v18) fun G20 => wv (vbin T .add t_int x14 (.int .i64 64)) fun v21 => R9 [x11, x12, x13, v21] G20)
  (aNew G10 (.own (z_api_Hash)) fun i22 G23 => ∀ R24 : List AVal → Heap → Prop,
  (∀ (x26 x27 x28 x29 : AVal) (G25 : Heap), (wv (vbin T .lss t_int x29 (.int .i64 32)) fun v30 => brB (some v30)
  (wv (vbin T .quo t_int x29 (.int .i64 4)) fun v31 => wv (viaddr T t_ar8_uint32 x27 v31) fun v32 => wv (vload T G25 t_uint32 v32) fun v33 => wv (vbin T .rem t_int x29 (.int .i64 4)) fun v34 => wv (vbin T .mul t_int (.int .i64 8) v34) fun v35 => wv (vbin T .sub t_int (.int .i64 24) v35) fun v36 => wv (vbin T .shr t_uint32 v33 v36) fun v37 => wv (vconv T G25 t_uint32 t_uint8 v37) fun v38 => wv (viaddr T t_api_Hash x28 x29) fun v39 => wg (vstore T G25 t_uint8 v39 v38) fun G40 => wv (vbin T .add t_int x29 (.int .i64 1)) fun v41 => R24 [x26, x27, x28, v41] G40)
  (wv (vload T G25 t_api_Hash x28) fun v42 => wg (vstore T G25 t_api_Hash x26 v42) fun G43 => wv (vload T G43 t_api_Hash x26) fun v44 => Q v44 G43)) → R24 [x26, x27, x28, x29] G25) →
  R24 [x11, x13, .ptr i22 [] 0, .int .i64 0] G23)) → R9 [x11, x12, x13, x14] G10) →
  R9 [.ptr i1 [] 0, v3, .ptr i6 [] 0, .int .i64 0] G8
def escrowref02_One.an : Ann := .two (.nil) (.two (.nil) (.two (.nil) (.two (.two (.nil) (.loop [2, 3, 4, 5] (.nil))) (.two (.nil) (.two (.two (.nil) (.loop [2, 4, 6, 7] (.nil))) (.nil))))))
set_option maxRecDepth 100000 in
theorem escrowref02_One.sound {a0 : AVal} {G : Heap} {Q : AVal → Heap → Prop} (h : escrowref02_One.S a0 G Q) : ACalls P escrowref02_One.n [a0] G Q := by
  have e : escrowref02_One.S a0 G Q = awp cx (escrowref02_One.body) escrowref02_One.an (bodyQ T [.cell 2 23] Q) (envL [a0]) G := by kernel_rfl
  exact ACalls_of_awp cxOk (f := escrowref02_One.n) (fn := Tryz.f22) (c := escrowref02_One.body) (an := escrowref02_One.an) Tryz.func22 (by kernel_rfl) (by kernel_rfl) (by kernel_rfl) (drawsOk_of (by kernel_rfl) (by kernel_rfl)) (by simp [Tryz.f22]) (e ▸ h)

/-! #### escrow/escrowref02.Sum -/
def escrowref02_Sum.S (a0 : AVal) (G : Heap) (Q : AVal → Heap → Prop) : Prop :=
  aNew G (.own (z_api_Hash)) fun i1 G2 => ∀ R3 : List AVal → Heap → Prop,
  (∀ (x5 x6 x7 x8 : AVal) (G4 : Heap), (wv (vlen T G4 t_sl_string x5) fun v9 => wv (vbin T .lss t_int x8 v9) fun v10 => brB (some v10)
  (wv (viaddr T t_sl_string x5 x8) fun v11 => wv (vload T G4 t_string v11) fun v12 => wv (vbin T .add t_string x7 v12) fun v13 => wv (vbin T .add t_int x8 (.int .i64 1)) fun v14 => R3 [x5, x6, v13, v14] G4)
  (ACalls P escrowref02_One.n [x7] G4 fun v15 G16 => wg (vstore T G16 t_api_Hash x6 v15) fun G17 => wv (vload T G17 t_api_Hash x6) fun v18 => Q v18 G17)) → R3 [x5, x6, x7, x8] G4) →
  R3 [a0, .ptr i1 [] 0, .str [], .int .i64 0] G2
def escrowref02_Sum.an : Ann := .two (.nil) (.two (.nil) (.two (.two (.nil) (.loop [0, 2, 3, 4] (.nil))) (.nil)))
set_option maxRecDepth 100000 in
theorem escrowref02_Sum.sound {a0 : AVal} {G : Heap} {Q : AVal → Heap → Prop} (h : escrowref02_Sum.S a0 G Q) : ACalls P escrowref02_Sum.n [a0] G Q := by
  have e : escrowref02_Sum.S a0 G Q = awp cx (escrowref02_Sum.body) escrowref02_Sum.an (bodyQ T [.cell 2 23] Q) (envL [a0]) G := by kernel_rfl
  exact ACalls_of_awp cxOk (f := escrowref02_Sum.n) (fn := Tryz.f161) (c := escrowref02_Sum.body) (an := escrowref02_Sum.an) Tryz.func161 (by kernel_rfl) (by kernel_rfl) (by kernel_rfl) (drawsOk_of (by kernel_rfl) (by kernel_rfl)) (by simp [Tryz.f161]) (e ▸ h)

/-! #### escrow/escrowref09.Point -/
def escrowref09_Point.S (a0 : AVal) (G : Heap) (Q : AVal → Heap → Prop) : Prop :=
  aNew G (.own (a0)) fun i1 G2 => aNew G2 (.own (z_api_Hash)) fun i3 G4 => wv (vslice T t_api_Hash (.ptr i1 [] 0) none none none) fun v5 => wv (vconv T G4 t_sl_uint8 t_string v5) fun v6 => aBuildSlice T t_sl_string 1 [(0, v6)] G4 fun v7 G8 => ACalls P escrowref02_Sum.n [v7] G8 fun v9 G10 => wg (vstore T G10 t_api_Hash (.ptr i3 [] 0) v9) fun G11 => wv (vload T G11 t_api_Hash (.ptr i3 [] 0)) fun v12 => Q v12 G11
def escrowref09_Point.an : Ann := .nil
set_option maxRecDepth 100000 in
theorem escrowref09_Point.sound {a0 : AVal} {G : Heap} {Q : AVal → Heap → Prop} (h : escrowref09_Point.S a0 G Q) : ACalls P escrowref09_Point.n [a0] G Q := by
  have e : escrowref09_Point.S a0 G Q = awp cx (escrowref09_Point.body) escrowref09_Point.an (bodyQ T [.cell 2 23] Q) (envL [a0]) G := by kernel_rfl
  exact ACalls_of_awp cxOk (f := escrowref09_Point.n) (fn := Tryz.f112) (c := escrowref09_Point.body) (an := escrowref09_Point.an) Tryz.func112 (by kernel_rfl) (by kernel_rfl) (by kernel_rfl) (drawsOk_of (by kernel_rfl) (by kernel_rfl)) (by simp [Tryz.f112]) (e ▸ h)

/-! #### escrow/escrowref09.down -/
def escrowref09_down.S (a0 a1 a2 : AVal) (G : Heap) (Q : AVal → Heap → Prop) : Prop :=
  aNew G (.own (a0)) fun i1 G2 => aNew G2 (.own (a1)) fun i3 G4 => aNew G4 (.own (z_api_Hash)) fun i5 G6 => wv (vbin T .sub t_int a2 (.int .i64 1)) fun v7 => ∀ R8 : List AVal → Heap → Prop,
  (∀ (x10 x11 x12 x13 : AVal) (G9 : Heap), (wv (vbin T .geq t_int x13 (.int .i64 0)) fun v14 => brB (some v14)
  (wv (viaddr T t_ar48_int x11 x13) fun v15 => wv (vload T G9 t_int v15) fun v16 => wv (vbin T .eql t_int v16 (.int .i64 1)) fun v17 => brB (some v17)
  (wv (vbin T .quo t_int x13 (.int .i64 8)) fun v18 => wv (vbin T .quo t_int x13 (.int .i64 8)) fun v19 => wv (viaddr T t_api_Hash x10 v19) fun v20 => wv (vload T G9 t_uint8 v20) fun v21 => wv (vbin T .rem t_int x13 (.int .i64 8)) fun v22 => wv (vconv T G9 t_int t_uint v22) fun v23 => wv (vbin T .shl t_uint8 (.int .u8 1) v23) fun v24 => wv (vbin T .xor t_uint8 v21 v24) fun v25 => wv (viaddr T t_api_Hash x10 v18) fun v26 => wg (vstore T G9 t_uint8 v26 v25) fun G27 => wv (vload T G27 t_api_Hash x10) fun v28 => ACalls P escrowref09_Point.n [v28] G27 fun v29 G30 => wg (vstore T G30 t_api_Hash x10 v29) fun G31 => wv (vbin T .sub t_int x13 (.int .i64 1)) fun v35 => R8 [x10, x11, x12, v35] G31)
  (wv (vbin T .sub t_int x13 (.int .i64 1)) fun v36 => R8 [x10, x11, x12, v36] G9))
  (wv (vload T G9 t_api_Hash x10) fun v37 => wg (vstore T G9 t_api_Hash x12 v37) fun G38 => wv (vload T G38 t_api_Hash x12) fun v39 => Q v39 G38)) → R8 [x10, x11, x12, x13] G9) →
  R8 [.ptr i1 [] 0, .ptr i3 [] 0, .ptr i5 [] 0, v7] G6
def escrowref09_down.an : Ann := .two (.nil) (.two (.two (.nil) (.loop [3, 4, 6, 7] (.nil))) (.nil))
set_option maxRecDepth 100000 in
theorem escrowref09_down.sound {a0 a1 a2 : AVal} {G : Heap} {Q : AVal → Heap → Prop} (h : escrowref09_down.S a0 a1 a2 G Q) : ACalls P escrowref09_down.n [a0, a1, a2] G Q := by
  have e : escrowref09_down.S a0 a1 a2 G Q = awp cx (escrowref09_down.body) escrowref09_down.an (bodyQ T [.cell 6 23] Q) (envL [a0, a1, a2]) G := by kernel_rfl
  exact ACalls_of_awp cxOk (f := escrowref09_down.n) (fn := Tryz.f159) (c := escrowref09_down.body) (an := escrowref09_down.an) Tryz.func159 (by kernel_rfl) (by kernel_rfl) (by kernel_rfl) (drawsOk_of (by kernel_rfl) (by kernel_rfl)) (by simp [Tryz.f159]) (e ▸ h)

/-! #### escrow/escrowref09.Place -/
def escrowref09_Place.S (a0 : AVal) (G : Heap) (Q : AVal → Heap → Prop) : Prop :=
  aNew G (.own (z_ar48_int)) fun i1 G2 => aNew G2 (.own (z_ar48_int)) fun i3 G4 => wv (vbin T .sub t_int64 (.int .i64 281474976710655) a0) fun v5 => ∀ R6 : List AVal → Heap → Prop,
  (∀ (x8 x9 x10 x11 : AVal) (G7 : Heap), (wv (vbin T .lss t_int x11 (.int .i64 48)) fun v12 => brB (some v12)
  (wv (vbin T .rem t_int64 x10 (.int .i64 2)) fun v13 => wv (viaddr T t_ar48_int x9 x11) fun v14 => wg (vstore T G7 t_int v14 v13) fun G15 => wv (vbin T .quo t_int64 x10 (.int .i64 2)) fun v16 => wv (vbin T .add t_int x11 (.int .i64 1)) fun v17 => R6 [x8, x9, v16, v17] G15)
  (wv (vload T G7 t_ar48_int x9) fun v18 => wg (vstore T G7 t_ar48_int x8 v18) fun G19 => wv (vload T G19 t_ar48_int x8) fun v20 => Q v20 G19)) → R6 [x8, x9, x10, x11] G7) →
  R6 [.ptr i1 [] 0, .ptr i3 [] 0, v5, .int .i64 0] G4
def escrowref09_Place.an : Ann := .two (.nil) (.two (.nil) (.two (.nil) (.two (.two (.nil) (.loop [2, 3, 4, 5] (.nil))) (.nil))))
set_option maxRecDepth 100000 in
theorem escrowref09_Place.sound {a0 : AVal} {G : Heap} {Q : AVal → Heap → Prop} (h : escrowref09_Place.S a0 G Q) : ACalls P escrowref09_Place.n [a0] G Q := by
  have e : escrowref09_Place.S a0 G Q = awp cx (escrowref09_Place.body) escrowref09_Place.an (bodyQ T [.cell 2 200] Q) (envL [a0]) G := by kernel_rfl
  exact ACalls_of_awp cxOk (f := escrowref09_Place.n) (fn := Tryz.f160) (c := escrowref09_Place.body) (an := escrowref09_Place.an) Tryz.func160 (by kernel_rfl) (by kernel_rfl) (by kernel_rfl) (drawsOk_of (by kernel_rfl) (by kernel_rfl)) (by simp [Tryz.f160]) (e ▸ h)

end Go.Esc.M
