/- Printed by gen.py (own work): functions of the program YtojenibpodkphaaDoor over trees and the abstract heap. -/
import Derived.Test.YtojenibpodkphaaDoorT
set_option linter.unusedSimpArgs false
set_option linter.unusedVariables false
namespace Go.Esc.M
open Go Go.Esc Go.Proofs

/-! #### escrow/ledger.invalid -/
def ledger_invalid.S (a0 : AVal) (G : Heap) (Q : AVal → Heap → Prop) : Prop :=
  aNew G (.own (a0)) fun i1 G2 => wv (vload T G2 t_api_Update (.ptr i1 [] 0)) fun v3 => ACalls P update_Valid.n [v3] G2 fun v4 G5 => wv (vun .not v4) fun v6 => Q v6 G5
def ledger_invalid.an : Ann := .nil
set_option maxRecDepth 100000 in
theorem ledger_invalid.sound {a0 : AVal} {G : Heap} {Q : AVal → Heap → Prop} (h : ledger_invalid.S a0 G Q) : ACalls P ledger_invalid.n [a0] G Q := by
  have e : ledger_invalid.S a0 G Q = awp cx (ledger_invalid.body) ledger_invalid.an (bodyQ T [.tmp 2] Q) (envL [a0]) G := by kernel_rfl
  exact ACalls_of_awp cxOk (f := ledger_invalid.n) (fn := Tryd.f41) (c := ledger_invalid.body) (an := ledger_invalid.an) Tryd.func41 (by kernel_rfl) (by kernel_rfl) (by kernel_rfl) (drawsOk_of (by kernel_rfl) (by kernel_rfl)) (by simp [Tryd.f41]) (e ▸ h)

/-! #### (escrow/ledger.wide).plus -/
def ledger_wide_plus.S (a0 a1 : AVal) (G : Heap) (Q : AVal → Heap → Prop) : Prop :=
  aNew G (.own (a0)) fun i1 G2 => aNew G2 (.own (z_ledger_wide)) fun i3 G4 => wv (vload T G4 t_int64 (.ptr i1 [0] 0)) fun v5 => wv (vbin T .shr t_int64 a1 (.int .u64 30)) fun v6 => wv (vbin T .add t_int64 v5 v6) fun v7 => wv (vload T G4 t_int64 (.ptr i1 [1] 1)) fun v8 => wv (vbin T .and t_int64 a1 (.int .i64 1073741823)) fun v9 => wv (vbin T .add t_int64 v8 v9) fun v10 => wv (vbuild T t_ledger_wide [(0, v7), (1, v10)]) fun v11 => wg (vstore T G4 t_ledger_wide (.ptr i3 [] 0) v11) fun G12 => wv (vload T G12 t_ledger_wide (.ptr i3 [] 0)) fun v13 => Q v13 G12
def ledger_wide_plus.an : Ann := .nil
set_option maxRecDepth 100000 in
theorem ledger_wide_plus.sound {a0 a1 : AVal} {G : Heap} {Q : AVal → Heap → Prop} (h : ledger_wide_plus.S a0 a1 G Q) : ACalls P ledger_wide_plus.n [a0, a1] G Q := by
  have e : ledger_wide_plus.S a0 a1 G Q = awp cx (ledger_wide_plus.body) ledger_wide_plus.an (bodyQ T [.cell 4 93] Q) (envL [a0, a1]) G := by kernel_rfl
  exact ACalls_of_awp cxOk (f := ledger_wide_plus.n) (fn := Tryd.f44) (c := ledger_wide_plus.body) (an := ledger_wide_plus.an) Tryd.func44 (by kernel_rfl) (by kernel_rfl) (by kernel_rfl) (drawsOk_of (by kernel_rfl) (by kernel_rfl)) (by simp [Tryd.f44]) (e ▸ h)

/-! #### (escrow/ledger.wide).minus -/
def ledger_wide_minus.S (a0 a1 : AVal) (G : Heap) (Q : AVal → Heap → Prop) : Prop :=
  aNew G (.own (a0)) fun i1 G2 => aNew G2 (.own (z_ledger_wide)) fun i3 G4 => wv (vload T G4 t_int64 (.ptr i1 [0] 0)) fun v5 => wv (vbin T .shr t_int64 a1 (.int .u64 30)) fun v6 => wv (vbin T .sub t_int64 v5 v6) fun v7 => wv (vload T G4 t_int64 (.ptr i1 [1] 1)) fun v8 => wv (vbin T .and t_int64 a1 (.int .i64 1073741823)) fun v9 => wv (vbin T .sub t_int64 v8 v9) fun v10 => wv (vbuild T t_ledger_wide [(0, v7), (1, v10)]) fun v11 => wg (vstore T G4 t_ledger_wide (.ptr i3 [] 0) v11) fun G12 => wv (vload T G12 t_ledger_wide (.ptr i3 [] 0)) fun v13 => Q v13 G12
def ledger_wide_minus.an : Ann := .nil
set_option maxRecDepth 100000 in
theorem ledger_wide_minus.sound {a0 a1 : AVal} {G : Heap} {Q : AVal → Heap → Prop} (h : ledger_wide_minus.S a0 a1 G Q) : ACalls P ledger_wide_minus.n [a0, a1] G Q := by
  have e : ledger_wide_minus.S a0 a1 G Q = awp cx (ledger_wide_minus.body) ledger_wide_minus.an (bodyQ T [.cell 4 93] Q) (envL [a0, a1]) G := by kernel_rfl
  exact ACalls_of_awp cxOk (f := ledger_wide_minus.n) (fn := Tryd.f62) (c := ledger_wide_minus.body) (an := ledger_wide_minus.an) Tryd.func62 (by kernel_rfl) (by kernel_rfl) (by kernel_rfl) (drawsOk_of (by kernel_rfl) (by kernel_rfl)) (by simp [Tryd.f62]) (e ▸ h)

/-! #### slices.insertionSortCmpFunc[escrow/api.Pending] -/
def slices_insertionSortCmpFunc_escrow_api_Pending.S (a0 a1 a2 a3 : AVal) (G : Heap) (Q : AVal → Heap → Prop) : Prop :=
  wv (vbin T .add t_int a1 (.int .i64 1)) fun v1 => ∀ R2 : List AVal → Heap → Prop,
  (∀ (x4 x5 x6 x7 x8 : AVal) (G3 : Heap), (wv (vbin T .lss t_int x8 x6) fun v9 => brB (some v9)
  (∀ R10 : List AVal → Heap → Prop,
  (∀ (x12 x13 x14 x15 x16 x17 : AVal) (G11 : Heap), (let J40 : AVal → Heap → Prop := (fun x28 G27 => brB (some x28)
  (wv (vbin T .sub t_int x17 (.int .i64 1)) fun v29 => wv (vbin T .sub t_int x17 (.int .i64 1)) fun v30 => wv (viaddr T t_sl_api_Pending x12 v30) fun v31 => wv (vload T G27 t_api_Pending v31) fun v32 => wv (viaddr T t_sl_api_Pending x12 x17) fun v33 => wv (vload T G27 t_api_Pending v33) fun v34 => wv (viaddr T t_sl_api_Pending x12 x17) fun v35 => wg (vstore T G27 t_api_Pending v35 v32) fun G36 => wv (viaddr T t_sl_api_Pending x12 v29) fun v37 => wg (vstore T G36 t_api_Pending v37 v34) fun G38 => wv (vbin T .sub t_int x17 (.int .i64 1)) fun v39 => R10 [x12, x13, x14, x15, x16, v39] G38)
  (wv (vbin T .add t_int x16 (.int .i64 1)) fun v41 => R2 [x12, x13, x14, x15, v41] G27));
  wv (vbin T .gtr t_int x17 x13) fun v18 => brB (some v18)
  (wv (viaddr T t_sl_api_Pending x12 x17) fun v19 => wv (vload T G11 t_api_Pending v19) fun v20 => wv (vbin T .sub t_int x17 (.int .i64 1)) fun v21 => wv (viaddr T t_sl_api_Pending x12 v21) fun v22 => wv (vload T G11 t_api_Pending v22) fun v23 => aCallV P x15 [v20, v23] G11 fun v24 G25 => wv (vbin T .lss t_int v24 (.int .i64 0)) fun v26 => J40 v26 G25)
  (J40 (.bool false) G11)) → R10 [x12, x13, x14, x15, x16, x17] G11) →
  R10 [x4, x5, x6, x7, x8, x8] G3)
  (Q (.tuple []) G3)) → R2 [x4, x5, x6, x7, x8] G3) →
  R2 [a0, a1, a2, a3, v1] G
def slices_insertionSortCmpFunc_escrow_api_Pending.an : Ann := .two (.nil) (.loop [0, 1, 2, 3, 8] (.two (.nil) (.two (.two (.nil) (.loop [0, 1, 2, 3, 8, 9] (.two (.two (.ord [(0, []), (1, []), (2, []), (3, []), (4, []), (5, []), (6, []), (7, []), (8, []), (9, []), (10, []), (11, []), (12, []), (13, []), (14, []), (15, []), (16, [])]) (.nil)) (.two (.ord [(0, []), (1, []), (2, []), (3, []), (4, []), (5, []), (6, []), (7, []), (8, []), (9, []), (10, []), (11, []), (12, []), (13, []), (14, []), (15, []), (16, []), (17, [])]) (.nil))))) (.nil))))
set_option maxRecDepth 100000 in
theorem slices_insertionSortCmpFunc_escrow_api_Pending.sound {a0 a1 a2 a3 : AVal} {G : Heap} {Q : AVal → Heap → Prop} (h : slices_insertionSortCmpFunc_escrow_api_Pending.S a0 a1 a2 a3 G Q) : ACalls P slices_insertionSortCmpFunc_escrow_api_Pending.n [a0, a1, a2, a3] G Q := by
  have e : slices_insertionSortCmpFunc_escrow_api_Pending.S a0 a1 a2 a3 G Q = awp cx (slices_insertionSortCmpFunc_escrow_api_Pending.body) slices_insertionSortCmpFunc_escrow_api_Pending.an (bodyQ T [] Q) (envL [a0, a1, a2, a3]) G := by kernel_rfl
  exact ACalls_of_awp cxOk (f := slices_insertionSortCmpFunc_escrow_api_Pending.n) (fn := Tryd.f84) (c := slices_insertionSortCmpFunc_escrow_api_Pending.body) (an := slices_insertionSortCmpFunc_escrow_api_Pending.an) Tryd.func84 (by kernel_rfl) (by kernel_rfl) (by kernel_rfl) (drawsOk_of (by kernel_rfl) (by kernel_rfl)) (by simp [Tryd.f84]) (e ▸ h)

/-! #### slices.swapRangeCmpFunc[escrow/api.Pending] -/
def slices_swapRangeCmpFunc_escrow_api_Pending.S (a0 a1 a2 a3 a4 : AVal) (G : Heap) (Q : AVal → Heap → Prop) : Prop :=
  ∀ R1 : List AVal → Heap → Prop,
  (∀ (x3 x4 x5 x6 x7 : AVal) (G2 : Heap), (wv (vbin T .lss t_int x7 x6) fun v8 => brB (some v8)
  (wv (vbin T .add t_int x4 x7) fun v9 => wv (vbin T .add t_int x5 x7) fun v10 => wv (vbin T .add t_int x5 x7) fun v11 => wv (viaddr T t_sl_api_Pending x3 v11) fun v12 => wv (vload T G2 t_api_Pending v12) fun v13 => wv (vbin T .add t_int x4 x7) fun v14 => wv (viaddr T t_sl_api_Pending x3 v14) fun v15 => wv (vload T G2 t_api_Pending v15) fun v16 => wv (viaddr T t_sl_api_Pending x3 v9) fun v17 => wg (vstore T G2 t_api_Pending v17 v13) fun G18 => wv (viaddr T t_sl_api_Pending x3 v10) fun v19 => wg (vstore T G18 t_api_Pending v19 v16) fun G20 => wv (vbin T .add t_int x7 (.int .i64 1)) fun v21 => R1 [x3, x4, x5, x6, v21] G20)
  (Q (.tuple []) G2)) → R1 [x3, x4, x5, x6, x7] G2) →
  R1 [a0, a1, a2, a3, .int .i64 0] G
def slices_swapRangeCmpFunc_escrow_api_Pending.an : Ann := .two (.nil) (.loop [0, 1, 2, 3, 10] (.two (.nil) (.two (.ord [(0, []), (1, []), (2, []), (3, []), (4, []), (5, []), (6, []), (7, []), (8, []), (9, []), (10, []), (11, []), (12, []), (13, []), (14, []), (15, []), (16, []), (17, []), (18, []), (19, []), (20, []), (21, []), (22, []), (23, [])]) (.nil))))
set_option maxRecDepth 100000 in
theorem slices_swapRangeCmpFunc_escrow_api_Pending.sound {a0 a1 a2 a3 a4 : AVal} {G : Heap} {Q : AVal → Heap → Prop} (h : slices_swapRangeCmpFunc_escrow_api_Pending.S a0 a1 a2 a3 a4 G Q) : ACalls P slices_swapRangeCmpFunc_escrow_api_Pending.n [a0, a1, a2, a3, a4] G Q := by
  have e : slices_swapRangeCmpFunc_escrow_api_Pending.S a0 a1 a2 a3 a4 G Q = awp cx (slices_swapRangeCmpFunc_escrow_api_Pending.body) slices_swapRangeCmpFunc_escrow_api_Pending.an (bodyQ T [] Q) (envL [a0, a1, a2, a3, a4]) G := by kernel_rfl
  exact ACalls_of_awp cxOk (f := slices_swapRangeCmpFunc_escrow_api_Pending.n) (fn := Tryd.f91) (c := slices_swapRangeCmpFunc_escrow_api_Pending.body) (an := slices_swapRangeCmpFunc_escrow_api_Pending.an) Tryd.func91 (by kernel_rfl) (by kernel_rfl) (by kernel_rfl) (drawsOk_of (by kernel_rfl) (by kernel_rfl)) (by simp [Tryd.f91]) (e ▸ h)

/-! #### slices.rotateCmpFunc[escrow/api.Pending] -/
def slices_rotateCmpFunc_escrow_api_Pending.S (a0 a1 a2 a3 a4 : AVal) (G : Heap) (Q : AVal → Heap → Prop) : Prop :=
  wv (vbin T .sub t_int a2 a1) fun v1 => wv (vbin T .sub t_int a3 a2) fun v2 => ∀ R3 : List AVal → Heap → Prop,
  (∀ (x5 x6 x7 x8 x9 : AVal) (G4 : Heap), (wv (vbin T .neq t_int x8 x9) fun v10 => brB (some v10)
  (wv (vbin T .gtr t_int x8 x9) fun v11 => brB (some v11)
  (wv (vbin T .sub t_int x6 x8) fun v12 => ACalls P slices_swapRangeCmpFunc_escrow_api_Pending.n [x5, v12, x6, x9, x7] G4 fun v13 G14 => wv (vbin T .sub t_int x8 x9) fun v15 => R3 [x5, x6, x7, v15, x9] G14)
  (wv (vbin T .sub t_int x6 x8) fun v16 => wv (vbin T .add t_int x6 x9) fun v17 => wv (vbin T .sub t_int v17 x8) fun v18 => ACalls P slices_swapRangeCmpFunc_escrow_api_Pending.n [x5, v16, v18, x8, x7] G4 fun v19 G20 => wv (vbin T .sub t_int x9 x8) fun v21 => R3 [x5, x6, x7, x8, v21] G20))
  (wv (vbin T .sub t_int x6 x8) fun v28 => ACalls P slices_swapRangeCmpFunc_escrow_api_Pending.n [x5, v28, x6, x8, x7] G4 fun v29 G30 => Q (.tuple []) G30)) → R3 [x5, x6, x7, x8, x9] G4) →
  R3 [a0, a2, a4, v1, v2] G
def slices_rotateCmpFunc_escrow_api_Pending.an : Ann := .two (.nil) (.two (.nil) (.two (.loop [0, 2, 4, 10, 11] (.nil)) (.nil)))
set_option maxRecDepth 100000 in
theorem slices_rotateCmpFunc_escrow_api_Pending.sound {a0 a1 a2 a3 a4 : AVal} {G : Heap} {Q : AVal → Heap → Prop} (h : slices_rotateCmpFunc_escrow_api_Pending.S a0 a1 a2 a3 a4 G Q) : ACalls P slices_rotateCmpFunc_escrow_api_Pending.n [a0, a1, a2, a3, a4] G Q := by
  have e : slices_rotateCmpFunc_escrow_api_Pending.S a0 a1 a2 a3 a4 G Q = awp cx (slices_rotateCmpFunc_escrow_api_Pending.body) slices_rotateCmpFunc_escrow_api_Pending.an (bodyQ T [] Q) (envL [a0, a1, a2, a3, a4]) G := by kernel_rfl
  exact ACalls_of_awp cxOk (f := slices_rotateCmpFunc_escrow_api_Pending.n) (fn := Tryd.f90) (c := slices_rotateCmpFunc_escrow_api_Pending.body) (an := slices_rotateCmpFunc_escrow_api_Pending.an) Tryd.func90 (by kernel_rfl) (by kernel_rfl) (by kernel_rfl) (drawsOk_of (by kernel_rfl) (by kernel_rfl)) (by simp [Tryd.f90]) (e ▸ h)

/-! #### slices.symMergeCmpFunc[escrow/api.Pending] -/
def slices_symMergeCmpFunc_escrow_api_Pending.S (a0 a1 a2 a3 a4 : AVal) (G : Heap) (Q : AVal → Heap → Prop) : Prop :=
  wv (vbin T .sub t_int a2 a1) fun v1 => wv (vbin T .eql t_int v1 (.int .i64 1)) fun v2 => brB (some v2)
  (∀ R3 : List AVal → Heap → Prop,
  (∀ (x5 x6 x7 x8 x9 : AVal) (G4 : Heap), (wv (vbin T .lss t_int x8 x9) fun v10 => brB (some v10)
  (wv (vbin T .add t_int x8 x9) fun v11 => wv (vconv T G4 t_int t_uint v11) fun v12 => wv (vbin T .shr t_uint v12 (.int .u64 1)) fun v13 => wv (vconv T G4 t_uint t_int v13) fun v14 => wv (viaddr T t_sl_api_Pending x5 v14) fun v15 => wv (vload T G4 t_api_Pending v15) fun v16 => wv (viaddr T t_sl_api_Pending x5 x6) fun v17 => wv (vload T G4 t_api_Pending v17) fun v18 => aCallV P x7 [v16, v18] G4 fun v19 G20 => wv (vbin T .lss t_int v19 (.int .i64 0)) fun v21 => brB (some v21)
  (wv (vbin T .add t_int v14 (.int .i64 1)) fun v22 => R3 [x5, x6, x7, v22, x9] G20)
  (R3 [x5, x6, x7, x8, v14] G20))
  (∀ R29 : List AVal → Heap → Prop,
  (∀ (x31 x32 x33 : AVal) (G30 : Heap), (wv (vbin T .sub t_int x32 (.int .i64 1)) fun v34 => wv (vbin T .lss t_int x33 v34) fun v35 => brB (some v35)
  (wv (vbin T .add t_int x33 (.int .i64 1)) fun v36 => wv (vbin T .add t_int x33 (.int .i64 1)) fun v37 => wv (viaddr T t_sl_api_Pending x31 v37) fun v38 => wv (vload T G30 t_api_Pending v38) fun v39 => wv (viaddr T t_sl_api_Pending x31 x33) fun v40 => wv (vload T G30 t_api_Pending v40) fun v41 => wv (viaddr T t_sl_api_Pending x31 x33) fun v42 => wg (vstore T G30 t_api_Pending v42 v39) fun G43 => wv (viaddr T t_sl_api_Pending x31 v36) fun v44 => wg (vstore T G43 t_api_Pending v44 v41) fun G45 => wv (vbin T .add t_int x33 (.int .i64 1)) fun v46 => R29 [x31, x32, v46] G45)
  (Q (.tuple []) G30)) → R29 [x31, x32, x33] G30) →
  R29 [x5, x8, x6] G4)) → R3 [x5, x6, x7, x8, x9] G4) →
  R3 [a0, a1, a4, a2, a3] G)
  (wv (vbin T .sub t_int a3 a2) fun v47 => wv (vbin T .eql t_int v47 (.int .i64 1)) fun v48 => brB (some v48)
  (∀ R49 : List AVal → Heap → Prop,
  (∀ (x51 x52 x53 x54 x55 : AVal) (G50 : Heap), (wv (vbin T .lss t_int x54 x55) fun v56 => brB (some v56)
  (wv (vbin T .add t_int x54 x55) fun v57 => wv (vconv T G50 t_int t_uint v57) fun v58 => wv (vbin T .shr t_uint v58 (.int .u64 1)) fun v59 => wv (vconv T G50 t_uint t_int v59) fun v60 => wv (viaddr T t_sl_api_Pending x51 x52) fun v61 => wv (vload T G50 t_api_Pending v61) fun v62 => wv (viaddr T t_sl_api_Pending x51 v60) fun v63 => wv (vload T G50 t_api_Pending v63) fun v64 => aCallV P x53 [v62, v64] G50 fun v65 G66 => wv (vbin T .lss t_int v65 (.int .i64 0)) fun v67 => wv (vun .not v67) fun v68 => brB (some v68)
  (wv (vbin T .add t_int v60 (.int .i64 1)) fun v69 => R49 [x51, x52, x53, v69, x55] G66)
  (R49 [x51, x52, x53, x54, v60] G66))
  (∀ R76 : List AVal → Heap → Prop,
  (∀ (x78 x79 x80 : AVal) (G77 : Heap), (wv (vbin T .gtr t_int x80 x79) fun v81 => brB (some v81)
  (wv (vbin T .sub t_int x80 (.int .i64 1)) fun v82 => wv (vbin T .sub t_int x80 (.int .i64 1)) fun v83 => wv (viaddr T t_sl_api_Pending x78 v83) fun v84 => wv (vload T G77 t_api_Pending v84) fun v85 => wv (viaddr T t_sl_api_Pending x78 x80) fun v86 => wv (vload T G77 t_api_Pending v86) fun v87 => wv (viaddr T t_sl_api_Pending x78 x80) fun v88 => wg (vstore T G77 t_api_Pending v88 v85) fun G89 => wv (viaddr T t_sl_api_Pending x78 v82) fun v90 => wg (vstore T G89 t_api_Pending v90 v87) fun G91 => wv (vbin T .sub t_int x80 (.int .i64 1)) fun v92 => R76 [x78, x79, v92] G91)
  (Q (.tuple []) G77)) → R76 [x78, x79, x80] G77) →
  R76 [x51, x54, x52] G50)) → R49 [x51, x52, x53, x54, x55] G50) →
  R49 [a0, a2, a4, a1, a2] G)
  (wv (vbin T .add t_int a1 a3) fun v93 => wv (vconv T G t_int t_uint v93) fun v94 => wv (vbin T .shr t_uint v94 (.int .u64 1)) fun v95 => wv (vconv T G t_uint t_int v95) fun v96 => wv (vbin T .add t_int v96 a2) fun v97 => wv (vbin T .gtr t_int a2 v96) fun v98 => let J185 : AVal → AVal → Heap → Prop := (fun x101 x102 G100 => wv (vbin T .sub t_int v97 (.int .i64 1)) fun v103 => ∀ R104 : List AVal → Heap → Prop,
  (∀ (x106 x107 x108 x109 x110 x111 x112 x113 x114 x115 : AVal) (G105 : Heap), (wv (vbin T .lss t_int x113 x114) fun v116 => brB (some v116)
  (wv (vbin T .add t_int x113 x114) fun v117 => wv (vconv T G105 t_int t_uint v117) fun v118 => wv (vbin T .shr t_uint v118 (.int .u64 1)) fun v119 => wv (vconv T G105 t_uint t_int v119) fun v120 => wv (vbin T .sub t_int x115 v120) fun v121 => wv (viaddr T t_sl_api_Pending x106 v121) fun v122 => wv (vload T G105 t_api_Pending v122) fun v123 => wv (viaddr T t_sl_api_Pending x106 v120) fun v124 => wv (vload T G105 t_api_Pending v124) fun v125 => aCallV P x110 [v123, v125] G105 fun v126 G127 => wv (vbin T .lss t_int v126 (.int .i64 0)) fun v128 => wv (vun .not v128) fun v129 => brB (some v129)
  (wv (vbin T .add t_int v120 (.int .i64 1)) fun v130 => R104 [x106, x107, x108, x109, x110, x111, x112, v130, x114, x115] G127)
  (R104 [x106, x107, x108, x109, x110, x111, x112, x113, v120, x115] G127))
  (wv (vbin T .sub t_int x112 x113) fun v137 => let J184 : AVal → Heap → Prop := (fun x141 G140 => let J183 : Heap → Prop := (fun G144 => let J182 : AVal → Heap → Prop := (fun x148 G147 => brB (some x148)
  (ACalls P slices_symMergeCmpFunc_escrow_api_Pending.n [x106, x107, x113, x111, x110] G147 fun v149 G150 => wv (vbin T .lss t_int x111 v137) fun v162 => brB (some v162)
  (wv (vbin T .lss t_int v137 x109) fun v163 => brB (some v163)
  (ACalls P slices_symMergeCmpFunc_escrow_api_Pending.n [x106, x111, v137, x109, x110] G150 fun v169 G170 => Q (.tuple []) G170)
  (Q (.tuple []) G150))
  (Q (.tuple []) G150))
  (wv (vbin T .lss t_int x111 v137) fun v172 => brB (some v172)
  (wv (vbin T .lss t_int v137 x109) fun v173 => brB (some v173)
  (ACalls P slices_symMergeCmpFunc_escrow_api_Pending.n [x106, x111, v137, x109, x110] G147 fun v179 G180 => Q (.tuple []) G180)
  (Q (.tuple []) G147))
  (Q (.tuple []) G147)));
  wv (vbin T .lss t_int x107 x113) fun v145 => brB (some v145)
  (wv (vbin T .lss t_int x113 x111) fun v146 => J182 v146 G144)
  (J182 (.bool false) G144));
  brB (some x141)
  (ACalls P slices_rotateCmpFunc_escrow_api_Pending.n [x106, x113, x108, v137, x110] G140 fun v142 G143 => J183 G143)
  (J183 G140));
  wv (vbin T .lss t_int x113 x108) fun v138 => brB (some v138)
  (wv (vbin T .lss t_int x108 v137) fun v139 => J184 v139 G105)
  (J184 (.bool false) G105))) → R104 [x106, x107, x108, x109, x110, x111, x112, x113, x114, x115] G105) →
  R104 [a0, a1, a2, a3, a4, v96, v97, x101, x102, v103] G100);
  brB (some v98)
  (wv (vbin T .sub t_int v97 a3) fun v99 => J185 v99 v96 G)
  (J185 a1 a2 G)))
def slices_symMergeCmpFunc_escrow_api_Pending.an : Ann := .two (.two (.nil) (.two (.two (.nil) (.two (.nil) (.two (.loop [0, 1, 4, 10, 11] (.two (.nil) (.two (.nil) (.two (.ord [(0, []), (1, []), (2, []), (3, []), (4, []), (5, []), (6, []), (7, []), (8, []), (9, []), (10, [])]) (.nil))))) (.two (.two (.nil) (.loop [0, 10, 13] (.two (.nil) (.two (.ord [(0, []), (1, []), (2, []), (3, []), (4, []), (5, []), (6, []), (7, []), (8, []), (9, []), (10, []), (11, []), (12, []), (13, []), (14, []), (15, []), (16, []), (17, [])]) (.nil))))) (.nil))))) (.nil))) (.two (.two (.nil) (.two (.two (.nil) (.two (.nil) (.two (.loop [0, 2, 4, 14, 15] (.two (.nil) (.two (.nil) (.two (.ord [(0, []), (1, []), (2, []), (3, []), (4, []), (5, []), (6, []), (7, []), (8, []), (9, []), (10, []), (11, [])]) (.nil))))) (.two (.two (.nil) (.loop [0, 14, 17] (.two (.nil) (.two (.ord [(0, []), (1, []), (2, []), (3, []), (4, []), (5, []), (6, []), (7, []), (8, []), (9, []), (10, []), (11, []), (12, []), (13, []), (14, []), (15, []), (16, []), (17, [])]) (.nil))))) (.nil))))) (.nil))) (.two (.nil) (.two (.nil) (.two (.nil) (.two (.nil) (.two (.nil) (.two (.loop [0, 1, 2, 3, 4, 18, 19, 20, 21, 22] (.two (.nil) (.two (.nil) (.two (.ord [(0, []), (1, []), (2, []), (3, []), (4, []), (5, []), (6, []), (7, []), (8, []), (9, []), (10, []), (11, []), (12, []), (13, [])]) (.nil))))) (.nil))))))))
set_option maxRecDepth 100000 in
theorem slices_symMergeCmpFunc_escrow_api_Pending.sound {a0 a1 a2 a3 a4 : AVal} {G : Heap} {Q : AVal → Heap → Prop} (h : slices_symMergeCmpFunc_escrow_api_Pending.S a0 a1 a2 a3 a4 G Q) : ACalls P slices_symMergeCmpFunc_escrow_api_Pending.n [a0, a1, a2, a3, a4] G Q := by
  have e : slices_symMergeCmpFunc_escrow_api_Pending.S a0 a1 a2 a3 a4 G Q = awp cx (slices_symMergeCmpFunc_escrow_api_Pending.body) slices_symMergeCmpFunc_escrow_api_Pending.an (bodyQ T [] Q) (envL [a0, a1, a2, a3, a4]) G := by kernel_rfl
  exact ACalls_of_awp cxOk (f := slices_symMergeCmpFunc_escrow_api_Pending.n) (fn := Tryd.f85) (c := slices_symMergeCmpFunc_escrow_api_Pending.body) (an := slices_symMergeCmpFunc_escrow_api_Pending.an) Tryd.func85 (by kernel_rfl) (by kernel_rfl) (by kernel_rfl) (drawsOk_of (by kernel_rfl) (by kernel_rfl)) (by simp [Tryd.f85]) (e ▸ h)

/-! #### slices.stableCmpFunc[escrow/api.Pending] -/
def slices_stableCmpFunc_escrow_api_Pending.S (a0 a1 a2 : AVal) (G : Heap) (Q : AVal → Heap → Prop) : Prop :=
  ∀ R1 : List AVal → Heap → Prop,
  (∀ (x3 x4 x5 x6 x7 x8 : AVal) (G2 : Heap), (wv (vbin T .leq t_int x8 x4) fun v9 => brB (some v9)
  (ACalls P slices_insertionSortCmpFunc_escrow_api_Pending.n [x3, x7, x8, x5] G2 fun v10 G11 => wv (vbin T .add t_int x8 x6) fun v12 => R1 [x3, x4, x5, x6, x8, v12] G11)
  (ACalls P slices_insertionSortCmpFunc_escrow_api_Pending.n [x3, x7, x4, x5] G2 fun v13 G14 => ∀ R15 : List AVal → Heap → Prop,
  (∀ (x17 x18 x19 x20 : AVal) (G16 : Heap), (wv (vbin T .lss t_int x20 x18) fun v21 => brB (some v21)
  (wv (vbin T .mul t_int (.int .i64 2) x20) fun v22 => ∀ R23 : List AVal → Heap → Prop,
  (∀ (x25 x26 x27 x28 x29 x30 : AVal) (G24 : Heap), (wv (vbin T .leq t_int x30 x26) fun v31 => brB (some v31)
  (wv (vbin T .add t_int x29 x28) fun v32 => ACalls P slices_symMergeCmpFunc_escrow_api_Pending.n [x25, x29, v32, x30, x27] G24 fun v33 G34 => wv (vbin T .mul t_int (.int .i64 2) x28) fun v35 => wv (vbin T .add t_int x30 v35) fun v36 => R23 [x25, x26, x27, x28, x30, v36] G34)
  (wv (vbin T .add t_int x29 x28) fun v37 => wv (vbin T .lss t_int v37 x26) fun v38 => brB (some v38)
  (ACalls P slices_symMergeCmpFunc_escrow_api_Pending.n [x25, x29, v37, x26, x27] G24 fun v39 G40 => wv (vbin T .mul t_int x28 (.int .i64 2)) fun v43 => R15 [x25, x26, x27, v43] G40)
  (wv (vbin T .mul t_int x28 (.int .i64 2)) fun v44 => R15 [x25, x26, x27, v44] G24))) → R23 [x25, x26, x27, x28, x29, x30] G24) →
  R23 [x17, x18, x19, x20, .int .i64 0, v22] G16)
  (Q (.tuple []) G16)) → R15 [x17, x18, x19, x20] G16) →
  R15 [x3, x4, x5, x6] G14)) → R1 [x3, x4, x5, x6, x7, x8] G2) →
  R1 [a0, a1, a2, .int .i64 20, .int .i64 0, .int .i64 20] G
def slices_stableCmpFunc_escrow_api_Pending.an : Ann := .two (.nil) (.two (.nil) (.two (.loop [0, 1, 2, 6, 7, 8] (.nil)) (.two (.nil) (.loop [0, 1, 2, 6] (.two (.nil) (.two (.nil) (.two (.loop [0, 1, 2, 6, 7, 8] (.nil)) (.nil))))))))
set_option maxRecDepth 100000 in
theorem slices_stableCmpFunc_escrow_api_Pending.sound {a0 a1 a2 : AVal} {G : Heap} {Q : AVal → Heap → Prop} (h : slices_stableCmpFunc_escrow_api_Pending.S a0 a1 a2 G Q) : ACalls P slices_stableCmpFunc_escrow_api_Pending.n [a0, a1, a2] G Q := by
  have e : slices_stableCmpFunc_escrow_api_Pending.S a0 a1 a2 G Q = awp cx (slices_stableCmpFunc_escrow_api_Pending.body) slices_stableCmpFunc_escrow_api_Pending.an (bodyQ T [] Q) (envL [a0, a1, a2]) G := by kernel_rfl
  exact ACalls_of_awp cxOk (f := slices_stableCmpFunc_escrow_api_Pending.n) (fn := Tryd.f78) (c := slices_stableCmpFunc_escrow_api_Pending.body) (an := slices_stableCmpFunc_escrow_api_Pending.an) Tryd.func78 (by kernel_rfl) (by kernel_rfl) (by kernel_rfl) (drawsOk_of (by kernel_rfl) (by kernel_rfl)) (by simp [Tryd.f78]) (e ▸ h)

/-! #### slices.SortStableFunc[[]escrow/api.Pending,escrow/api.Pending] -/
def slices_SortStableFunc_escrow_api_Pending_escrow_api_Pending.S (a0 a1 : AVal) (G : Heap) (Q : AVal → Heap → Prop) : Prop :=
  wv (vlen T G t_sl_api_Pending a0) fun v1 => ACalls P slices_stableCmpFunc_escrow_api_Pending.n [a0, v1, a1] G fun v2 G3 => Q (.tuple []) G3
def slices_SortStableFunc_escrow_api_Pending_escrow_api_Pending.an : Ann := .nil
set_option maxRecDepth 100000 in
theorem slices_SortStableFunc_escrow_api_Pending_escrow_api_Pending.sound {a0 a1 : AVal} {G : Heap} {Q : AVal → Heap → Prop} (h : slices_SortStableFunc_escrow_api_Pending_escrow_api_Pending.S a0 a1 G Q) : ACalls P slices_SortStableFunc_escrow_api_Pending_escrow_api_Pending.n [a0, a1] G Q := by
  have e : slices_SortStableFunc_escrow_api_Pending_escrow_api_Pending.S a0 a1 G Q = awp cx (slices_SortStableFunc_escrow_api_Pending_escrow_api_Pending.body) slices_SortStableFunc_escrow_api_Pending_escrow_api_Pending.an (bodyQ T [] Q) (envL [a0, a1]) G := by kernel_rfl
  exact ACalls_of_awp cxOk (f := slices_SortStableFunc_escrow_api_Pending_escrow_api_Pending.n) (fn := Tryd.f63) (c := slices_SortStableFunc_escrow_api_Pending_escrow_api_Pending.body) (an := slices_SortStableFunc_escrow_api_Pending_escrow_api_Pending.an) Tryd.func63 (by kernel_rfl) (by kernel_rfl) (by kernel_rfl) (drawsOk_of (by kernel_rfl) (by kernel_rfl)) (by simp [Tryd.f63]) (e ▸ h)

/-! #### cmp.isNaN[int64] -/
def cmp_isNaN_int64.S (a0 : AVal) (G : Heap) (Q : AVal → Heap → Prop) : Prop :=
  wv (vbin T .neq t_int64 a0 a0) fun v1 => Q v1 G
def cmp_isNaN_int64.an : Ann := .nil
set_option maxRecDepth 100000 in
theorem cmp_isNaN_int64.sound {a0 : AVal} {G : Heap} {Q : AVal → Heap → Prop} (h : cmp_isNaN_int64.S a0 G Q) : ACalls P cmp_isNaN_int64.n [a0] G Q := by
  have e : cmp_isNaN_int64.S a0 G Q = awp cx (cmp_isNaN_int64.body) cmp_isNaN_int64.an (bodyQ T [.tmp 2] Q) (envL [a0]) G := by kernel_rfl
  exact ACalls_of_awp cxOk (f := cmp_isNaN_int64.n) (fn := Tryd.f79) (c := cmp_isNaN_int64.body) (an := cmp_isNaN_int64.an) Tryd.func79 (by kernel_rfl) (by kernel_rfl) (by kernel_rfl) (drawsOk_of (by kernel_rfl) (by kernel_rfl)) (by simp [Tryd.f79]) (e ▸ h)

/-! #### cmp.Compare[int64] -/
def cmp_Compare_int64.S (a0 a1 : AVal) (G : Heap) (Q : AVal → Heap → Prop) : Prop :=
  ACalls P cmp_isNaN_int64.n [a0] G fun v1 G2 => ACalls P cmp_isNaN_int64.n [a1] G2 fun v3 G4 => brB (some v1)
  (brB (some v3)
  (Q (.int .i64 0) G4)
  (Q (.int .i64 (-1)) G4))
  (brB (some v3)
  (Q (.int .i64 1) G4)
  (wv (vbin T .lss t_int64 a0 a1) fun v5 => brB (some v5)
  (Q (.int .i64 (-1)) G4)
  (wv (vbin T .gtr t_int64 a0 a1) fun v6 => brB (some v6)
  (Q (.int .i64 1) G4)
  (Q (.int .i64 0) G4))))
def cmp_Compare_int64.an : Ann := .nil
set_option maxRecDepth 100000 in
theorem cmp_Compare_int64.sound {a0 a1 : AVal} {G : Heap} {Q : AVal → Heap → Prop} (h : cmp_Compare_int64.S a0 a1 G Q) : ACalls P cmp_Compare_int64.n [a0, a1] G Q := by
  have e : cmp_Compare_int64.S a0 a1 G Q = awp cx (cmp_Compare_int64.body) cmp_Compare_int64.an (bodyQ T [.tmp 4] Q) (envL [a0, a1]) G := by kernel_rfl
  exact ACalls_of_awp cxOk (f := cmp_Compare_int64.n) (fn := Tryd.f65) (c := cmp_Compare_int64.body) (an := cmp_Compare_int64.an) Tryd.func65 (by kernel_rfl) (by kernel_rfl) (by kernel_rfl) (drawsOk_of (by kernel_rfl) (by kernel_rfl)) (by simp [Tryd.f65]) (e ▸ h)

/-! #### escrow/ledger.part$1 -/
def ledger_part_1.S (a0 a1 : AVal) (G : Heap) (Q : AVal → Heap → Prop) : Prop :=
  aNew G (.own (a0)) fun i1 G2 => aNew G2 (.own (a1)) fun i3 G4 => wv (vload T G4 t_int64 (.ptr i1 [1] 1)) fun v5 => wv (vload T G4 t_int64 (.ptr i3 [1] 1)) fun v6 => ACalls P cmp_Compare_int64.n [v5, v6] G4 fun v7 G8 => Q v7 G8
def ledger_part_1.an : Ann := .nil
set_option maxRecDepth 100000 in
theorem ledger_part_1.sound {a0 a1 : AVal} {G : Heap} {Q : AVal → Heap → Prop} (h : ledger_part_1.S a0 a1 G Q) : ACalls P ledger_part_1.n [a0, a1] G Q := by
  have e : ledger_part_1.S a0 a1 G Q = awp cx (ledger_part_1.body) ledger_part_1.an (bodyQ T [.tmp 4] Q) (envL [a0, a1]) G := by kernel_rfl
  exact ACalls_of_awp cxOk (f := ledger_part_1.n) (fn := Tryd.f64) (c := ledger_part_1.body) (an := ledger_part_1.an) Tryd.func64 (by kernel_rfl) (by kernel_rfl) (by kernel_rfl) (drawsOk_of (by kernel_rfl) (by kernel_rfl)) (by simp [Tryd.f64]) (e ▸ h)

/-! #### escrow/ledger.part -/
def ledger_part.S (a0 a1 a2 a3 a4 : AVal) (G : Heap) (Q : AVal → Heap → Prop) : Prop :=
  aNew G (.own (a3)) fun i1 G2 => aNew G2 (.own (a4)) fun i3 G4 => aNew G4 (.own (z_ledger_wide)) fun i5 G6 => aNew G6 (.own (z_ledger_wide)) fun i7 G8 => wv (vlen T G8 t_sl_api_Update a0) fun v9 => ∀ R10 : List AVal → Heap → Prop,
  (∀ (x12 x13 x14 x15 x16 x17 x18 x19 x20 x21 : AVal) (G11 : Heap), (wv (vbin T .lss t_int x21 x20) fun v22 => brB (some v22)
  (let J62 : AVal → Heap → Prop := (fun x60 G59 => wv (vbin T .add t_int x21 (.int .i64 1)) fun v61 => R10 [x12, x13, x14, x15, x16, x17, x60, x19, x20, v61] G59);
  wv (viaddr T t_sl_api_Update x19 x21) fun v23 => wv (vload T G11 t_api_Update v23) fun v24 => aNew G11 (.own (z_api_Update)) fun i25 G26 => wg (vstore T G26 t_api_Update (.ptr i25 [] 0) v24) fun G27 => let J58 : AVal → Heap → Prop := (fun x34 G33 => brB (some x34)
  (J62 x18 G33)
  (wv (vload T G33 t_ledger_wide x14) fun v35 => wv (vload T G33 t_int64 (.ptr i25 [2] 2)) fun v36 => ACalls P ledger_wide_minus.n [v35, v36] G33 fun v37 G38 => wg (vstore T G38 t_ledger_wide x14 v37) fun G39 => wv (vload T G39 t_int64 (.ptr i25 [1] 1)) fun v40 => wv (vlookup T G39 t_map_int64_int x12 v40 false) fun v41 => wv (vbin T .eql t_int v41 (.int .i64 2)) fun v42 => brB (some v42)
  (wv (vload T G39 t_ledger_wide x15) fun v43 => wv (vload T G39 t_int64 (.ptr i25 [2] 2)) fun v44 => ACalls P ledger_wide_plus.n [v43, v44] G39 fun v45 G46 => wg (vstore T G46 t_ledger_wide x15 v45) fun G47 => J62 x18 G47)
  (wv (vload T G39 t_int64 (.ptr i25 [1] 1)) fun v48 => wv (vload T G39 t_int64 (.ptr i25 [2] 2)) fun v49 => wv (vload T G39 t_api_Hash (.ptr i25 [3] 3)) fun v50 => wv (vbuild T t_api_Pending [(0, x13), (1, v48), (2, v49), (3, v50)]) fun v51 => aBuildSlice T t_sl_api_Pending 1 [(0, v51)] G39 fun v52 G53 => aAppend T G53 t_sl_api_Pending t_sl_api_Pending x18 v52 fun v54 G55 => J62 v54 G55)));
  wv (vload T G27 t_int (.ptr i25 [0] 0)) fun v28 => wv (vbin T .neq t_int v28 (.int .i64 1)) fun v29 => brB (some v29)
  (J58 (.bool true) G27)
  (wv (vload T G27 t_int64 (.ptr i25 [1] 1)) fun v30 => wv (vlookup T G27 t_map_int64_int x12 v30 false) fun v31 => wv (vbin T .eql t_int v31 (.int .i64 3)) fun v32 => J58 v32 G27))
  (ACalls P slices_SortStableFunc_escrow_api_Pending_escrow_api_Pending.n [x18, .func (.func ledger_part_1.n) [] []] G11 fun v63 G64 => wv (vload T G64 t_ledger_wide x14) fun v65 => wv (vload T G64 t_ledger_wide x15) fun v66 => wg (vstore T G64 t_ledger_wide x16 v65) fun G67 => (vload T G67 t_ledger_wide x15 = some v66 ∧ True) ∧ (wg (vstore T G67 t_ledger_wide x17 v66) fun G68 => wv (vload T G68 t_ledger_wide x16) fun v69 => wv (vload T G68 t_ledger_wide x17) fun v70 => Q (.tuple [v69, v70, x18]) G68))) → R10 [x12, x13, x14, x15, x16, x17, x18, x19, x20, x21] G11) →
  R10 [a1, a2, .ptr i1 [] 0, .ptr i3 [] 0, .ptr i5 [] 0, .ptr i7 [] 0, .nilSlice, a0, v9, .int .i64 0] G8
def ledger_part.an : Ann := .two (.nil) (.two (.nil) (.two (.two (.nil) (.loop [1, 2, 8, 9, 10, 11, 13, 16, 17, 18] (.nil))) (.two (.nil) (.two (.ord [(0, []), (1, []), (2, []), (3, [1]), (4, []), (5, [])]) (.nil)))))
set_option maxRecDepth 100000 in
theorem ledger_part.sound {a0 a1 a2 a3 a4 : AVal} {G : Heap} {Q : AVal → Heap → Prop} (h : ledger_part.S a0 a1 a2 a3 a4 G Q) : ACalls P ledger_part.n [a0, a1, a2, a3, a4] G Q := by
  have e : ledger_part.S a0 a1 a2 a3 a4 G Q = awp cx (ledger_part.body) ledger_part.an (bodyQ T [.cell 10 93, .cell 11 93, .tmp 12] Q) (envL [a0, a1, a2, a3, a4]) G := by kernel_rfl
  exact ACalls_of_awp cxOk (f := ledger_part.n) (fn := Tryd.f42) (c := ledger_part.body) (an := ledger_part.an) Tryd.func42 (by kernel_rfl) (by kernel_rfl) (by kernel_rfl) (drawsOk_of (by kernel_rfl) (by kernel_rfl)) (by simp [Tryd.f42]) (e ▸ h)

/-! #### escrow/ledger.removals -/
def ledger_removals.S (a0 : AVal) (G : Heap) (Q : AVal → Heap → Prop) : Prop :=
  aNew G (.map []) fun i1 G2 => wv (vlen T G2 t_sl_api_Update a0) fun v3 => ∀ R4 : List AVal → Heap → Prop,
  (∀ (x6 x7 x8 x9 : AVal) (G5 : Heap), (wv (vbin T .lss t_int x9 x8) fun v10 => brB (some v10)
  (wv (viaddr T t_sl_api_Update x7 x9) fun v11 => wv (vload T G5 t_api_Update v11) fun v12 => aNew G5 (.own (z_api_Update)) fun i13 G14 => wg (vstore T G14 t_api_Update (.ptr i13 [] 0) v12) fun G15 => wv (vload T G15 t_int64 (.ptr i13 [1] 1)) fun v16 => wv (vlookup T G15 t_map_int64_int x6 v16 true) fun v17 => wv (vextract v17 0) fun v18 => wv (vextract v17 1) fun v19 => let J32 : AVal → Heap → Prop := (fun x27 G26 => brB (some x27)
  (wv (vload T G26 t_int64 (.ptr i13 [1] 1)) fun v28 => wv (vload T G26 t_int (.ptr i13 [0] 0)) fun v29 => aMapUpdate T G26 t_map_int64_int x6 v28 v29 fun G30 => wv (vbin T .add t_int x9 (.int .i64 1)) fun v35 => R4 [x6, x7, x8, v35] G30)
  (wv (vbin T .add t_int x9 (.int .i64 1)) fun v36 => R4 [x6, x7, x8, v36] G26));
  wv (vun .not v19) fun v20 => brB (some v20)
  (wv (vload T G15 t_int (.ptr i13 [0] 0)) fun v21 => wv (vbin T .neq t_int v21 (.int .i64 1)) fun v22 => brB (some v22)
  (wv (vload T G15 t_api_Update (.ptr i13 [] 0)) fun v23 => ACalls P update_Valid.n [v23] G15 fun v24 G25 => J32 v24 G25)
  (J32 (.bool false) G15))
  (J32 (.bool false) G15))
  (Q x6 G5)) → R4 [x6, x7, x8, x9] G5) →
  R4 [.map i1, a0, v3, .int .i64 0] G2
def ledger_removals.an : Ann := .two (.nil) (.two (.nil) (.two (.two (.nil) (.loop [3, 9, 10, 11] (.nil))) (.nil)))
set_option maxRecDepth 100000 in
theorem ledger_removals.sound {a0 : AVal} {G : Heap} {Q : AVal → Heap → Prop} (h : ledger_removals.S a0 G Q) : ACalls P ledger_removals.n [a0] G Q := by
  have e : ledger_removals.S a0 G Q = awp cx (ledger_removals.body) ledger_removals.an (bodyQ T [.tmp 2] Q) (envL [a0]) G := by kernel_rfl
  exact ACalls_of_awp cxOk (f := ledger_removals.n) (fn := Tryd.f43) (c := ledger_removals.body) (an := ledger_removals.an) Tryd.func43 (by kernel_rfl) (by kernel_rfl) (by kernel_rfl) (drawsOk_of (by kernel_rfl) (by kernel_rfl)) (by simp [Tryd.f43]) (e ▸ h)

/-! #### (escrow/ledger.wide).value -/
def ledger_wide_value.S (a0 : AVal) (G : Heap) (Q : AVal → Heap → Prop) : Prop :=
  aNew G (.own (a0)) fun i1 G2 => wv (vload T G2 t_int64 (.ptr i1 [0] 0)) fun v3 => wv (vload T G2 t_int64 (.ptr i1 [1] 1)) fun v4 => wv (vbin T .shr t_int64 v4 (.int .u64 30)) fun v5 => wv (vbin T .add t_int64 v3 v5) fun v6 => wv (vbin T .lss t_int64 v6 (.int .i64 0)) fun v7 => brB (some v7)
  (Q (.int .i64 (-1)) G2)
  (wv (vbin T .gtr t_int64 v6 (.int .i64 1073741824)) fun v8 => brB (some v8)
  (Q (.int .i64 1152921504606846977) G2)
  (wv (vbin T .shl t_int64 v6 (.int .u64 30)) fun v9 => wv (vload T G2 t_int64 (.ptr i1 [1] 1)) fun v10 => wv (vbin T .and t_int64 v10 (.int .i64 1073741823)) fun v11 => wv (vbin T .or t_int64 v9 v11) fun v12 => Q v12 G2))
def ledger_wide_value.an : Ann := .nil
set_option maxRecDepth 100000 in
theorem ledger_wide_value.sound {a0 : AVal} {G : Heap} {Q : AVal → Heap → Prop} (h : ledger_wide_value.S a0 G Q) : ACalls P ledger_wide_value.n [a0] G Q := by
  have e : ledger_wide_value.S a0 G Q = awp cx (ledger_wide_value.body) ledger_wide_value.an (bodyQ T [.tmp 2] Q) (envL [a0]) G := by kernel_rfl
  exact ACalls_of_awp cxOk (f := ledger_wide_value.n) (fn := Tryd.f45) (c := ledger_wide_value.body) (an := ledger_wide_value.an) Tryd.func45 (by kernel_rfl) (by kernel_rfl) (by kernel_rfl) (drawsOk_of (by kernel_rfl) (by kernel_rfl)) (by simp [Tryd.f45]) (e ▸ h)

/-! #### escrow/ledger.Fold -/
def ledger_Fold.S (a0 a1 a2 a3 a4 : AVal) (G : Heap) (Q : AVal → Heap → Prop) : Prop :=
  aNew G (.own (a4)) fun i1 G2 => aNew G2 (.own (z_api_Ledger)) fun i3 G4 => let J99 : AVal → Heap → Prop := (fun x16 G15 => brB (some x16)
  (wv (vbuild T t_api_Ledger []) fun v17 => wg (vstore T G15 t_api_Ledger (.ptr i3 [] 0) v17) fun G18 => wv (vload T G18 t_api_Ledger (.ptr i3 [] 0)) fun v19 => Q (.tuple [v19, .int .i64 1]) G18)
  (aBuildSlice T t_sl_int64 2 [(0, a0), (1, a1)] G15 fun v20 G21 => ACalls P amount_Sum.n [v20] G21 fun v22 G23 => wv (vextract v22 0) fun v24 => wv (vextract v22 1) fun v25 => wv (vbin T .neq t_api_Errno v25 (.int .i64 0)) fun v26 => brB (some v26)
  (wv (vbuild T t_api_Ledger []) fun v27 => wg (vstore T G23 t_api_Ledger (.ptr i3 [] 0) v27) fun G28 => wv (vload T G28 t_api_Ledger (.ptr i3 [] 0)) fun v29 => Q (.tuple [v29, .int .i64 1]) G28)
  (wv (vload T G23 t_int (.ptr i1 [0] 0)) fun v30 => wv (vslice T t_sl_api_Update a2 none (some (v30)) none) fun v31 => wv (vload T G23 t_int (.ptr i1 [1] 1)) fun v32 => wv (vslice T t_sl_api_Update a3 none (some (v32)) none) fun v33 => let J98 : AVal → Heap → Prop := (fun x39 G38 => brB (some x39)
  (wv (vbuild T t_api_Ledger []) fun v40 => wg (vstore T G38 t_api_Ledger (.ptr i3 [] 0) v40) fun G41 => wv (vload T G41 t_api_Ledger (.ptr i3 [] 0)) fun v42 => Q (.tuple [v42, .int .i64 120]) G41)
  (ACalls P ledger_removals.n [v33] G38 fun v43 G44 => wv (vbuild T t_ledger_wide []) fun v45 => ACalls P ledger_wide_plus.n [v45, a0] G44 fun v46 G47 => wv (vbuild T t_ledger_wide []) fun v48 => ACalls P ledger_wide_plus.n [v48, a1] G47 fun v49 G50 => ACalls P ledger_part.n [v31, v43, .bool true, v46, v49] G50 fun v51 G52 => wv (vextract v51 0) fun v53 => wv (vextract v51 1) fun v54 => wv (vextract v51 2) fun v55 => aNew G52 (.own (z_ledger_wide)) fun i56 G57 => aNew G57 (.own (z_ledger_wide)) fun i58 G59 => wg (vstore T G59 t_ledger_wide (.ptr i56 [] 0) v53) fun G60 => wg (vstore T G60 t_ledger_wide (.ptr i58 [] 0) v54) fun G61 => wv (vload T G61 t_ledger_wide (.ptr i58 [] 0)) fun v62 => wv (vload T G61 t_ledger_wide (.ptr i56 [] 0)) fun v63 => ACalls P ledger_removals.n [v31] G61 fun v64 G65 => (vload T G65 t_ledger_wide (.ptr i56 [] 0) = some v63 ∧ vload T G65 t_ledger_wide (.ptr i58 [] 0) = some v62 ∧ True) ∧ (ACalls P ledger_part.n [v33, v64, .bool false, v62, v63] G65 fun v66 G67 => wv (vextract v66 0) fun v68 => wv (vextract v66 1) fun v69 => wv (vextract v66 2) fun v70 => wg (vstore T G67 t_ledger_wide (.ptr i58 [] 0) v68) fun G71 => wg (vstore T G71 t_ledger_wide (.ptr i56 [] 0) v69) fun G72 => wv (vload T G72 t_ledger_wide (.ptr i56 [] 0)) fun v73 => wv (vload T G72 t_ledger_wide (.ptr i58 [] 0)) fun v74 => ACalls P ledger_wide_value.n [v73] G72 fun v75 G76 => (vload T G76 t_ledger_wide (.ptr i58 [] 0) = some v74 ∧ True) ∧ (ACalls P ledger_wide_value.n [v74] G76 fun v77 G78 => aAppend T G78 t_sl_api_Pending t_sl_api_Pending v55 v70 fun v79 G80 => wv (vbuild T t_api_Ledger [(0, v75), (1, v77), (2, v79)]) fun v81 => aNew G80 (.own (z_api_Ledger)) fun i82 G83 => wg (vstore T G83 t_api_Ledger (.ptr i82 [] 0) v81) fun G84 => let J97 : AVal → Heap → Prop := (fun x90 G89 => brB (some x90)
  (wv (vbuild T t_api_Ledger []) fun v91 => wg (vstore T G89 t_api_Ledger (.ptr i3 [] 0) v91) fun G92 => wv (vload T G92 t_api_Ledger (.ptr i3 [] 0)) fun v93 => Q (.tuple [v93, .int .i64 130]) G92)
  (wv (vload T G89 t_api_Ledger (.ptr i82 [] 0)) fun v94 => wg (vstore T G89 t_api_Ledger (.ptr i3 [] 0) v94) fun G95 => wv (vload T G95 t_api_Ledger (.ptr i3 [] 0)) fun v96 => Q (.tuple [v96, .int .i64 0]) G95));
  wv (vload T G84 t_int64 (.ptr i82 [0] 0)) fun v85 => wv (vbin T .lss t_int64 v85 (.int .i64 0)) fun v86 => brB (some v86)
  (J97 (.bool true) G84)
  (wv (vload T G84 t_int64 (.ptr i82 [1] 1)) fun v87 => wv (vbin T .lss t_int64 v87 (.int .i64 0)) fun v88 => J97 v88 G84)))));
  ACalls P slices_ContainsFunc_escrow_api_Update_escrow_api_Update.n [v31, .func (.func ledger_invalid.n) [] []] G23 fun v34 G35 => brB (some v34)
  (J98 (.bool true) G35)
  (ACalls P slices_ContainsFunc_escrow_api_Update_escrow_api_Update.n [v33, .func (.func ledger_invalid.n) [] []] G35 fun v36 G37 => J98 v36 G37))));
  wv (vload T G4 t_int (.ptr i1 [0] 0)) fun v5 => wv (vbin T .lss t_int v5 (.int .i64 0)) fun v6 => brB (some v6)
  (J99 (.bool true) G4)
  (wv (vload T G4 t_int (.ptr i1 [0] 0)) fun v7 => wv (vlen T G4 t_sl_api_Update a2) fun v8 => wv (vbin T .gtr t_int v7 v8) fun v9 => brB (some v9)
  (J99 (.bool true) G4)
  (wv (vload T G4 t_int (.ptr i1 [1] 1)) fun v10 => wv (vbin T .lss t_int v10 (.int .i64 0)) fun v11 => brB (some v11)
  (J99 (.bool true) G4)
  (wv (vload T G4 t_int (.ptr i1 [1] 1)) fun v12 => wv (vlen T G4 t_sl_api_Update a3) fun v13 => wv (vbin T .gtr t_int v12 v13) fun v14 => J99 v14 G4)))
def ledger_Fold.an : Ann := .two (.nil) (.two (.nil) (.two (.nil) (.two (.ord [(0, []), (1, []), (2, []), (3, []), (4, []), (5, []), (6, []), (7, []), (8, []), (9, [])]) (.two (.nil) (.two (.nil) (.two (.ord [(0, []), (1, []), (3, []), (4, []), (2, [3, 4]), (5, []), (6, []), (7, []), (8, []), (9, []), (10, []), (11, []), (12, [])]) (.two (.ord [(0, []), (2, []), (4, []), (5, []), (1, [2]), (3, []), (6, []), (7, []), (8, []), (9, [])]) (.nil))))))))
set_option maxRecDepth 100000 in
theorem ledger_Fold.sound {a0 a1 a2 a3 a4 : AVal} {G : Heap} {Q : AVal → Heap → Prop} (h : ledger_Fold.S a0 a1 a2 a3 a4 G Q) : ACalls P ledger_Fold.n [a0, a1, a2, a3, a4] G Q := by
  have e : ledger_Fold.S a0 a1 a2 a3 a4 G Q = awp cx (ledger_Fold.body) ledger_Fold.an (bodyQ T [.cell 10 74, .tmp 11] Q) (envL [a0, a1, a2, a3, a4]) G := by kernel_rfl
  exact ACalls_of_awp cxOk (f := ledger_Fold.n) (fn := Tryd.f29) (c := ledger_Fold.body) (an := ledger_Fold.an) Tryd.func29 (by kernel_rfl) (by kernel_rfl) (by kernel_rfl) (drawsOk_of (by kernel_rfl) (by kernel_rfl)) (by simp [Tryd.f29]) (e ▸ h)

/-! #### escrow/commit.sound -/
def commit_sound.S (a0 : AVal) (G : Heap) (Q : AVal → Heap → Prop) : Prop :=
  aNew G (.own (a0)) fun i1 G2 => let J62 : AVal → Heap → Prop := (fun x12 G11 => brB (some x12)
  (Q (.bool false) G11)
  (aNew G11 (.map []) fun i13 G14 => aNew G14 (.map []) fun i15 G16 => aMapUpdate T G16 t_map_bool_int64 (.map i15) (.bool true) (.int .i64 (-1)) fun G17 => aMapUpdate T G17 t_map_bool_int64 (.map i15) (.bool false) (.int .i64 (-1)) fun G18 => wv (vload T G18 t_sl_api_Pending (.ptr i1 [2] 2)) fun v19 => wv (vlen T G18 t_sl_api_Pending v19) fun v20 => ∀ R21 : List AVal → Heap → Prop,
  (∀ (x23 x24 x25 x26 x27 : AVal) (G22 : Heap), (wv (vbin T .lss t_int x27 x26) fun v28 => brB (some v28)
  (wv (viaddr T t_sl_api_Pending x25 x27) fun v29 => wv (vload T G22 t_api_Pending v29) fun v30 => aNew G22 (.own (z_api_Pending)) fun i31 G32 => wg (vstore T G32 t_api_Pending (.ptr i31 [] 0) v30) fun G33 => let J54 : AVal → Heap → Prop := (fun x46 G45 => brB (some x46)
  (Q (.bool false) G45)
  (wv (vload T G45 t_bool (.ptr i31 [0] 0)) fun v47 => wv (vload T G45 t_int64 (.ptr i31 [1] 1)) fun v48 => aMapUpdate T G45 t_map_bool_int64 x24 v47 v48 fun G49 => wv (vload T G49 t_bool (.ptr i31 [0] 0)) fun v50 => wv (vlookup T G49 t_map_bool_int x23 v50 false) fun v51 => wv (vbin T .add t_int v51 (.int .i64 1)) fun v52 => aMapUpdate T G49 t_map_bool_int x23 v50 v52 fun G53 => wv (vbin T .add t_int x27 (.int .i64 1)) fun v55 => R21 [x23, x24, x25, x26, v55] G53));
  wv (vload T G33 t_int64 (.ptr i31 [2] 2)) fun v34 => wv (vbin T .lss t_int64 v34 (.int .i64 1)) fun v35 => brB (some v35)
  (J54 (.bool true) G33)
  (wv (vload T G33 t_int64 (.ptr i31 [2] 2)) fun v36 => wv (vbin T .gtr t_int64 v36 (.int .i64 1152921504606846976)) fun v37 => brB (some v37)
  (J54 (.bool true) G33)
  (wv (vload T G33 t_int64 (.ptr i31 [1] 1)) fun v38 => wv (vload T G33 t_bool (.ptr i31 [0] 0)) fun v39 => wv (vlookup T G33 t_map_bool_int64 x24 v39 false) fun v40 => wv (vbin T .leq t_int64 v38 v40) fun v41 => brB (some v41)
  (J54 (.bool true) G33)
  (wv (vload T G33 t_bool (.ptr i31 [0] 0)) fun v42 => brB (some v42)
  (wv (vlookup T G33 t_map_bool_int x23 (.bool false) false) fun v43 => wv (vbin T .gtr t_int v43 (.int .i64 0)) fun v44 => J54 v44 G33)
  (J54 (.bool false) G33)))))
  (wv (vlookup T G22 t_map_bool_int x23 (.bool true) false) fun v56 => wv (vbin T .leq t_int v56 (.int .i64 483)) fun v57 => brB (some v57)
  (wv (vlookup T G22 t_map_bool_int x23 (.bool false) false) fun v58 => wv (vbin T .leq t_int v58 (.int .i64 483)) fun v59 => Q v59 G22)
  (Q (.bool false) G22))) → R21 [x23, x24, x25, x26, x27] G22) →
  R21 [.map i13, .map i15, v19, v20, .int .i64 0] G18));
  wv (vload T G2 t_int64 (.ptr i1 [0] 0)) fun v3 => wv (vbin T .lss t_int64 v3 (.int .i64 0)) fun v4 => brB (some v4)
  (J62 (.bool true) G2)
  (wv (vload T G2 t_int64 (.ptr i1 [0] 0)) fun v5 => wv (vbin T .gtr t_int64 v5 (.int .i64 1152921504606846976)) fun v6 => brB (some v6)
  (J62 (.bool true) G2)
  (wv (vload T G2 t_int64 (.ptr i1 [1] 1)) fun v7 => wv (vbin T .lss t_int64 v7 (.int .i64 0)) fun v8 => brB (some v8)
  (J62 (.bool true) G2)
  (wv (vload T G2 t_int64 (.ptr i1 [1] 1)) fun v9 => wv (vbin T .gtr t_int64 v9 (.int .i64 1152921504606846976)) fun v10 => J62 v10 G2)))
def commit_sound.an : Ann := .two (.nil) (.two (.nil) (.two (.nil) (.two (.nil) (.two (.two (.nil) (.loop [3, 4, 29, 30, 31] (.nil))) (.nil)))))
set_option maxRecDepth 100000 in
theorem commit_sound.sound {a0 : AVal} {G : Heap} {Q : AVal → Heap → Prop} (h : commit_sound.S a0 G Q) : ACalls P commit_sound.n [a0] G Q := by
  have e : commit_sound.S a0 G Q = awp cx (commit_sound.body) commit_sound.an (bodyQ T [.tmp 2] Q) (envL [a0]) G := by kernel_rfl
  exact ACalls_of_awp cxOk (f := commit_sound.n) (fn := Tryd.f46) (c := commit_sound.body) (an := commit_sound.an) Tryd.func46 (by kernel_rfl) (by kernel_rfl) (by kernel_rfl) (drawsOk_of (by kernel_rfl) (by kernel_rfl)) (by simp [Tryd.f46]) (e ▸ h)

/-! #### escrow/cursor.New -/
def cursor_New.S (G : Heap) (Q : AVal → Heap → Prop) : Prop :=
  wv (vbuild T t_cursor_Writer []) fun v1 => aNew G (.own (v1)) fun i2 G3 => Q (.ptr i2 [] 0) G3
def cursor_New.an : Ann := .nil
set_option maxRecDepth 100000 in
theorem cursor_New.sound {G : Heap} {Q : AVal → Heap → Prop} (h : cursor_New.S G Q) : ACalls P cursor_New.n [] G Q := by
  have e : cursor_New.S G Q = awp cx (cursor_New.body) cursor_New.an (bodyQ T [.tmp 0] Q) (envL []) G := by kernel_rfl
  exact ACalls_of_awp cxOk (f := cursor_New.n) (fn := Tryd.f47) (c := cursor_New.body) (an := cursor_New.an) Tryd.func47 (by kernel_rfl) (by kernel_rfl) (by kernel_rfl) (drawsOk_of (by kernel_rfl) (by kernel_rfl)) (by simp [Tryd.f47]) (e ▸ h)

/-! #### escrow/cursor.lay[uint8] -/
def cursor_lay_uint8.S (a0 a1 a2 : AVal) (G : Heap) (Q : AVal → Heap → Prop) : Prop :=
  wv (vnil a0) fun v1 => wv (vfaddr T t_cursor_Writer v1 1) fun v2 => wv (vload T G t_api_Errno v2) fun v3 => wv (vbin T .neq t_api_Errno v3 (.int .i64 0)) fun v4 => brB (some v4)
  (Q (.tuple []) G)
  (wv (vbin T .sub t_int a2 (.int .i64 1)) fun v5 => ∀ R6 : List AVal → Heap → Prop,
  (∀ (x8 x9 x10 : AVal) (G7 : Heap), (wv (vbin T .geq t_int x10 (.int .i64 0)) fun v11 => brB (some v11)
  (wv (vnil x8) fun v12 => wv (vfaddr T t_cursor_Writer v12 0) fun v13 => wv (vload T G7 t_sl_uint8 v13) fun v14 => wv (vconv T G7 t_uint8 t_uint64 x9) fun v15 => wv (vbin T .mul t_int (.int .i64 8) x10) fun v16 => wv (vbin T .shr t_uint64 v15 v16) fun v17 => wv (vconv T G7 t_uint64 t_uint8 v17) fun v18 => aBuildSlice T t_sl_uint8 1 [(0, v18)] G7 fun v19 G20 => aAppend T G20 t_sl_uint8 t_sl_uint8 v14 v19 fun v21 G22 => wv (vnil x8) fun v23 => wv (vfaddr T t_cursor_Writer v23 0) fun v24 => wg (vstore T G22 t_sl_uint8 v24 v21) fun G25 => wv (vbin T .sub t_int x10 (.int .i64 1)) fun v26 => R6 [x8, x9, v26] G25)
  (Q (.tuple []) G7)) → R6 [x8, x9, x10] G7) →
  R6 [a0, a1, v5] G)
def cursor_lay_uint8.an : Ann := .two (.nil) (.two (.nil) (.loop [0, 1, 6] (.two (.nil) (.two (.ord [(0, []), (1, []), (2, []), (3, []), (4, []), (5, []), (6, []), (7, []), (8, []), (9, []), (10, []), (11, []), (12, []), (13, []), (14, []), (15, [])]) (.nil)))))
set_option maxRecDepth 100000 in
theorem cursor_lay_uint8.sound {a0 a1 a2 : AVal} {G : Heap} {Q : AVal → Heap → Prop} (h : cursor_lay_uint8.S a0 a1 a2 G Q) : ACalls P cursor_lay_uint8.n [a0, a1, a2] G Q := by
  have e : cursor_lay_uint8.S a0 a1 a2 G Q = awp cx (cursor_lay_uint8.body) cursor_lay_uint8.an (bodyQ T [] Q) (envL [a0, a1, a2]) G := by kernel_rfl
  exact ACalls_of_awp cxOk (f := cursor_lay_uint8.n) (fn := Tryd.f66) (c := cursor_lay_uint8.body) (an := cursor_lay_uint8.an) Tryd.func66 (by kernel_rfl) (by kernel_rfl) (by kernel_rfl) (drawsOk_of (by kernel_rfl) (by kernel_rfl)) (by simp [Tryd.f66]) (e ▸ h)

/-! #### (*escrow/cursor.Writer).U8 -/
def cursor_Writer_U8.S (a0 a1 : AVal) (G : Heap) (Q : AVal → Heap → Prop) : Prop :=
  ACalls P cursor_lay_uint8.n [a0, a1, .int .i64 1] G fun v1 G2 => Q (.tuple []) G2
def cursor_Writer_U8.an : Ann := .nil
set_option maxRecDepth 100000 in
theorem cursor_Writer_U8.sound {a0 a1 : AVal} {G : Heap} {Q : AVal → Heap → Prop} (h : cursor_Writer_U8.S a0 a1 G Q) : ACalls P cursor_Writer_U8.n [a0, a1] G Q := by
  have e : cursor_Writer_U8.S a0 a1 G Q = awp cx (cursor_Writer_U8.body) cursor_Writer_U8.an (bodyQ T [] Q) (envL [a0, a1]) G := by kernel_rfl
  exact ACalls_of_awp cxOk (f := cursor_Writer_U8.n) (fn := Tryd.f48) (c := cursor_Writer_U8.body) (an := cursor_Writer_U8.an) Tryd.func48 (by kernel_rfl) (by kernel_rfl) (by kernel_rfl) (drawsOk_of (by kernel_rfl) (by kernel_rfl)) (by simp [Tryd.f48]) (e ▸ h)

/-! #### escrow/cursor.lay[uint64] -/
def cursor_lay_uint64.S (a0 a1 a2 : AVal) (G : Heap) (Q : AVal → Heap → Prop) : Prop :=
  wv (vnil a0) fun v1 => wv (vfaddr T t_cursor_Writer v1 1) fun v2 => wv (vload T G t_api_Errno v2) fun v3 => wv (vbin T .neq t_api_Errno v3 (.int .i64 0)) fun v4 => brB (some v4)
  (Q (.tuple []) G)
  (wv (vbin T .sub t_int a2 (.int .i64 1)) fun v5 => ∀ R6 : List AVal → Heap → Prop,
  (∀ (x8 x9 x10 : AVal) (G7 : Heap), (wv (vbin T .geq t_int x10 (.int .i64 0)) fun v11 => brB (some v11)
  (wv (vnil x8) fun v12 => wv (vfaddr T t_cursor_Writer v12 0) fun v13 => wv (vload T G7 t_sl_uint8 v13) fun v14 => wv (vbin T .mul t_int (.int .i64 8) x10) fun v15 => wv (vbin T .shr t_uint64 x9 v15) fun v16 => wv (vconv T G7 t_uint64 t_uint8 v16) fun v17 => aBuildSlice T t_sl_uint8 1 [(0, v17)] G7 fun v18 G19 => aAppend T G19 t_sl_uint8 t_sl_uint8 v14 v18 fun v20 G21 => wv (vnil x8) fun v22 => wv (vfaddr T t_cursor_Writer v22 0) fun v23 => wg (vstore T G21 t_sl_uint8 v23 v20) fun G24 => wv (vbin T .sub t_int x10 (.int .i64 1)) fun v25 => R6 [x8, x9, v25] G24)
  (Q (.tuple []) G7)) → R6 [x8, x9, x10] G7) →
  R6 [a0, a1, v5] G)
def cursor_lay_uint64.an : Ann := .two (.nil) (.two (.nil) (.loop [0, 1, 6] (.two (.nil) (.two (.ord [(0, []), (1, []), (2, []), (3, []), (4, []), (5, []), (6, []), (7, []), (8, []), (9, []), (10, []), (11, []), (12, []), (13, []), (14, [])]) (.nil)))))
set_option maxRecDepth 100000 in
theorem cursor_lay_uint64.sound {a0 a1 a2 : AVal} {G : Heap} {Q : AVal → Heap → Prop} (h : cursor_lay_uint64.S a0 a1 a2 G Q) : ACalls P cursor_lay_uint64.n [a0, a1, a2] G Q := by
  have e : cursor_lay_uint64.S a0 a1 a2 G Q = awp cx (cursor_lay_uint64.body) cursor_lay_uint64.an (bodyQ T [] Q) (envL [a0, a1, a2]) G := by kernel_rfl
  exact ACalls_of_awp cxOk (f := cursor_lay_uint64.n) (fn := Tryd.f67) (c := cursor_lay_uint64.body) (an := cursor_lay_uint64.an) Tryd.func67 (by kernel_rfl) (by kernel_rfl) (by kernel_rfl) (drawsOk_of (by kernel_rfl) (by kernel_rfl)) (by simp [Tryd.f67]) (e ▸ h)

/-! #### (*escrow/cursor.Writer).I64 -/
def cursor_Writer_I64.S (a0 a1 : AVal) (G : Heap) (Q : AVal → Heap → Prop) : Prop :=
  wv (vconv T G t_int64 t_uint64 a1) fun v1 => ACalls P cursor_lay_uint64.n [a0, v1, .int .i64 8] G fun v2 G3 => Q (.tuple []) G3
def cursor_Writer_I64.an : Ann := .nil
set_option maxRecDepth 100000 in
theorem cursor_Writer_I64.sound {a0 a1 : AVal} {G : Heap} {Q : AVal → Heap → Prop} (h : cursor_Writer_I64.S a0 a1 G Q) : ACalls P cursor_Writer_I64.n [a0, a1] G Q := by
  have e : cursor_Writer_I64.S a0 a1 G Q = awp cx (cursor_Writer_I64.body) cursor_Writer_I64.an (bodyQ T [] Q) (envL [a0, a1]) G := by kernel_rfl
  exact ACalls_of_awp cxOk (f := cursor_Writer_I64.n) (fn := Tryd.f49) (c := cursor_Writer_I64.body) (an := cursor_Writer_I64.an) Tryd.func49 (by kernel_rfl) (by kernel_rfl) (by kernel_rfl) (drawsOk_of (by kernel_rfl) (by kernel_rfl)) (by simp [Tryd.f49]) (e ▸ h)

/-! #### (*escrow/cursor.Writer).Raw -/
def cursor_Writer_Raw.S (a0 a1 : AVal) (G : Heap) (Q : AVal → Heap → Prop) : Prop :=
  wv (vnil a0) fun v1 => wv (vfaddr T t_cursor_Writer v1 1) fun v2 => wv (vload T G t_api_Errno v2) fun v3 => wv (vbin T .eql t_api_Errno v3 (.int .i64 0)) fun v4 => brB (some v4)
  (wv (vnil a0) fun v5 => wv (vfaddr T t_cursor_Writer v5 0) fun v6 => wv (vload T G t_sl_uint8 v6) fun v7 => aAppend T G t_sl_uint8 t_string v7 a1 fun v8 G9 => wv (vnil a0) fun v10 => wv (vfaddr T t_cursor_Writer v10 0) fun v11 => wg (vstore T G9 t_sl_uint8 v11 v8) fun G12 => Q (.tuple []) G12)
  (Q (.tuple []) G)
def cursor_Writer_Raw.an : Ann := .nil
set_option maxRecDepth 100000 in
theorem cursor_Writer_Raw.sound {a0 a1 : AVal} {G : Heap} {Q : AVal → Heap → Prop} (h : cursor_Writer_Raw.S a0 a1 G Q) : ACalls P cursor_Writer_Raw.n [a0, a1] G Q := by
  have e : cursor_Writer_Raw.S a0 a1 G Q = awp cx (cursor_Writer_Raw.body) cursor_Writer_Raw.an (bodyQ T [] Q) (envL [a0, a1]) G := by kernel_rfl
  exact ACalls_of_awp cxOk (f := cursor_Writer_Raw.n) (fn := Tryd.f68) (c := cursor_Writer_Raw.body) (an := cursor_Writer_Raw.an) Tryd.func68 (by kernel_rfl) (by kernel_rfl) (by kernel_rfl) (drawsOk_of (by kernel_rfl) (by kernel_rfl)) (by simp [Tryd.f68]) (e ▸ h)

/-! #### (*escrow/cursor.Writer).Hash -/
def cursor_Writer_Hash.S (a0 a1 : AVal) (G : Heap) (Q : AVal → Heap → Prop) : Prop :=
  aNew G (.own (a1)) fun i1 G2 => wv (vslice T t_api_Hash (.ptr i1 [] 0) none none none) fun v3 => wv (vconv T G2 t_sl_uint8 t_string v3) fun v4 => ACalls P cursor_Writer_Raw.n [a0, v4] G2 fun v5 G6 => Q (.tuple []) G6
def cursor_Writer_Hash.an : Ann := .nil
set_option maxRecDepth 100000 in
theorem cursor_Writer_Hash.sound {a0 a1 : AVal} {G : Heap} {Q : AVal → Heap → Prop} (h : cursor_Writer_Hash.S a0 a1 G Q) : ACalls P cursor_Writer_Hash.n [a0, a1] G Q := by
  have e : cursor_Writer_Hash.S a0 a1 G Q = awp cx (cursor_Writer_Hash.body) cursor_Writer_Hash.an (bodyQ T [] Q) (envL [a0, a1]) G := by kernel_rfl
  exact ACalls_of_awp cxOk (f := cursor_Writer_Hash.n) (fn := Tryd.f50) (c := cursor_Writer_Hash.body) (an := cursor_Writer_Hash.an) Tryd.func50 (by kernel_rfl) (by kernel_rfl) (by kernel_rfl) (drawsOk_of (by kernel_rfl) (by kernel_rfl)) (by simp [Tryd.f50]) (e ▸ h)

/-! #### escrow/cursor.lay[uint16] -/
def cursor_lay_uint16.S (a0 a1 a2 : AVal) (G : Heap) (Q : AVal → Heap → Prop) : Prop :=
  wv (vnil a0) fun v1 => wv (vfaddr T t_cursor_Writer v1 1) fun v2 => wv (vload T G t_api_Errno v2) fun v3 => wv (vbin T .neq t_api_Errno v3 (.int .i64 0)) fun v4 => brB (some v4)
  (Q (.tuple []) G)
  (wv (vbin T .sub t_int a2 (.int .i64 1)) fun v5 => ∀ R6 : List AVal → Heap → Prop,
  (∀ (x8 x9 x10 : AVal) (G7 : Heap), (wv (vbin T .geq t_int x10 (.int .i64 0)) fun v11 => brB (some v11)
  (wv (vnil x8) fun v12 => wv (vfaddr T t_cursor_Writer v12 0) fun v13 => wv (vload T G7 t_sl_uint8 v13) fun v14 => wv (vconv T G7 t_uint16 t_uint64 x9) fun v15 => wv (vbin T .mul t_int (.int .i64 8) x10) fun v16 => wv (vbin T .shr t_uint64 v15 v16) fun v17 => wv (vconv T G7 t_uint64 t_uint8 v17) fun v18 => aBuildSlice T t_sl_uint8 1 [(0, v18)] G7 fun v19 G20 => aAppend T G20 t_sl_uint8 t_sl_uint8 v14 v19 fun v21 G22 => wv (vnil x8) fun v23 => wv (vfaddr T t_cursor_Writer v23 0) fun v24 => wg (vstore T G22 t_sl_uint8 v24 v21) fun G25 => wv (vbin T .sub t_int x10 (.int .i64 1)) fun v26 => R6 [x8, x9, v26] G25)
  (Q (.tuple []) G7)) → R6 [x8, x9, x10] G7) →
  R6 [a0, a1, v5] G)
def cursor_lay_uint16.an : Ann := .two (.nil) (.two (.nil) (.loop [0, 1, 6] (.two (.nil) (.two (.ord [(0, []), (1, []), (2, []), (3, []), (4, []), (5, []), (6, []), (7, []), (8, []), (9, []), (10, []), (11, []), (12, []), (13, []), (14, []), (15, [])]) (.nil)))))
set_option maxRecDepth 100000 in
theorem cursor_lay_uint16.sound {a0 a1 a2 : AVal} {G : Heap} {Q : AVal → Heap → Prop} (h : cursor_lay_uint16.S a0 a1 a2 G Q) : ACalls P cursor_lay_uint16.n [a0, a1, a2] G Q := by
  have e : cursor_lay_uint16.S a0 a1 a2 G Q = awp cx (cursor_lay_uint16.body) cursor_lay_uint16.an (bodyQ T [] Q) (envL [a0, a1, a2]) G := by kernel_rfl
  exact ACalls_of_awp cxOk (f := cursor_lay_uint16.n) (fn := Tryd.f69) (c := cursor_lay_uint16.body) (an := cursor_lay_uint16.an) Tryd.func69 (by kernel_rfl) (by kernel_rfl) (by kernel_rfl) (drawsOk_of (by kernel_rfl) (by kernel_rfl)) (by simp [Tryd.f69]) (e ▸ h)

/-! #### (*escrow/cursor.Writer).U16 -/
def cursor_Writer_U16.S (a0 a1 : AVal) (G : Heap) (Q : AVal → Heap → Prop) : Prop :=
  ACalls P cursor_lay_uint16.n [a0, a1, .int .i64 2] G fun v1 G2 => Q (.tuple []) G2
def cursor_Writer_U16.an : Ann := .nil
set_option maxRecDepth 100000 in
theorem cursor_Writer_U16.sound {a0 a1 : AVal} {G : Heap} {Q : AVal → Heap → Prop} (h : cursor_Writer_U16.S a0 a1 G Q) : ACalls P cursor_Writer_U16.n [a0, a1] G Q := by
  have e : cursor_Writer_U16.S a0 a1 G Q = awp cx (cursor_Writer_U16.body) cursor_Writer_U16.an (bodyQ T [] Q) (envL [a0, a1]) G := by kernel_rfl
  exact ACalls_of_awp cxOk (f := cursor_Writer_U16.n) (fn := Tryd.f51) (c := cursor_Writer_U16.body) (an := cursor_Writer_U16.an) Tryd.func51 (by kernel_rfl) (by kernel_rfl) (by kernel_rfl) (drawsOk_of (by kernel_rfl) (by kernel_rfl)) (by simp [Tryd.f51]) (e ▸ h)

/-! #### (*escrow/cursor.Writer).Out -/
def cursor_Writer_Out.S (a0 : AVal) (G : Heap) (Q : AVal → Heap → Prop) : Prop :=
  wv (vnil a0) fun v1 => wv (vfaddr T t_cursor_Writer v1 1) fun v2 => wv (vload T G t_api_Errno v2) fun v3 => wv (vbin T .neq t_api_Errno v3 (.int .i64 0)) fun v4 => brB (some v4)
  (wv (vnil a0) fun v5 => wv (vfaddr T t_cursor_Writer v5 1) fun v6 => wv (vload T G t_api_Errno v6) fun v7 => Q (.tuple [.str [], v7]) G)
  (wv (vnil a0) fun v8 => wv (vfaddr T t_cursor_Writer v8 0) fun v9 => wv (vload T G t_sl_uint8 v9) fun v10 => wv (vconv T G t_sl_uint8 t_string v10) fun v11 => Q (.tuple [v11, .int .i64 0]) G)
def cursor_Writer_Out.an : Ann := .two (.nil) (.two (.two (.nil) (.two (.two (.ord [(0, []), (1, []), (2, []), (3, []), (4, []), (5, [])]) (.nil)) (.nil))) (.nil))
set_option maxRecDepth 100000 in
theorem cursor_Writer_Out.sound {a0 : AVal} {G : Heap} {Q : AVal → Heap → Prop} (h : cursor_Writer_Out.S a0 G Q) : ACalls P cursor_Writer_Out.n [a0] G Q := by
  have e : cursor_Writer_Out.S a0 G Q = awp cx (cursor_Writer_Out.body) cursor_Writer_Out.an (bodyQ T [.tmp 2, .tmp 3] Q) (envL [a0]) G := by kernel_rfl
  exact ACalls_of_awp cxOk (f := cursor_Writer_Out.n) (fn := Tryd.f52) (c := cursor_Writer_Out.body) (an := cursor_Writer_Out.an) Tryd.func52 (by kernel_rfl) (by kernel_rfl) (by kernel_rfl) (drawsOk_of (by kernel_rfl) (by kernel_rfl)) (by simp [Tryd.f52]) (e ▸ h)

end Go.Esc.M
