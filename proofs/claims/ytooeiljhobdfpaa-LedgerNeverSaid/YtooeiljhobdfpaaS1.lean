/- Printed by gen.py (own work): functions of the program Ytooeiljhobdfpaa over trees and the abstract heap. -/
import Derived.Test.YtooeiljhobdfpaaT
set_option linter.unusedSimpArgs false
set_option linter.unusedVariables false
namespace Go.Esc.M
open Go Go.Esc Go.Proofs

/-! #### escrow/ledger.Spendable -/
def ledger_Spendable.S (a0 a1 a2 a3 : AVal) (G : Heap) (Q : AVal → Heap → Prop) : Prop :=
  aNew G (.own (a3)) fun i1 G2 => wv (vbin T .lss t_int64 a0 (.int .i64 0)) fun v3 => brB (some v3)
  (Q (.int .i64 0) G2)
  (wv (vload T G2 t_int (.ptr i1 [1] 1)) fun v4 => wv (vload T G2 t_int (.ptr i1 [0] 0)) fun v5 => ACalls P ledger_first.n [a2, v4] G2 fun v6 G7 => (vload T G7 t_int (.ptr i1 [0] 0) = some v5 ∧ True) ∧ (ACalls P ledger_removals.n [v6] G7 fun v8 G9 => (vload T G9 t_int (.ptr i1 [0] 0) = some v5 ∧ True) ∧ (ACalls P ledger_first.n [a1, v5] G9 fun v10 G11 => ACalls P ledger_removals.n [v10] G11 fun v12 G13 => aNew G13 (.own (z_map_int64_int)) fun i14 G15 => aNew G15 (.own (z_map_int64_int)) fun i16 G17 => wg (vstore T G17 t_map_int64_int (.ptr i14 [] 0) v8) fun G18 => wg (vstore T G18 t_map_int64_int (.ptr i16 [] 0) v12) fun G19 => wv (vbuild T t_ledger_wide []) fun v20 => wv (vmin2 a0 (.int .i64 1152921504606846976)) fun v21 => ACalls P ledger_wide_plus.n [v20, v21] G19 fun v22 G23 => aNew G23 (.own (z_ledger_wide)) fun i24 G25 => wg (vstore T G25 t_ledger_wide (.ptr i24 [] 0) v22) fun G26 => ACalls P ledger_adds.n [a1, .func (.func ledger_Spendable_1.n) [] [.ptr i14 [] 0]] G26 fun v27 G28 => wv (vlen T G28 t_sl_int64 v27) fun v29 => ∀ R30 : List AVal → Heap → Prop,
  (∀ (x32 x33 x34 x35 x36 x37 : AVal) (G31 : Heap), (wv (vbin T .lss t_int x37 x36) fun v38 => brB (some v38)
  (wv (viaddr T t_sl_int64 x35 x37) fun v39 => wv (vload T G31 t_int64 v39) fun v40 => wv (vload T G31 t_ledger_wide x34) fun v41 => ACalls P ledger_wide_minus.n [v41, v40] G31 fun v42 G43 => wg (vstore T G43 t_ledger_wide x34 v42) fun G44 => wv (vbin T .add t_int x37 (.int .i64 1)) fun v45 => R30 [x32, x33, x34, x35, x36, v45] G44)
  (ACalls P ledger_adds.n [x32, .func (.func ledger_Spendable_2.n) [] [x33]] G31 fun v46 G47 => wv (vlen T G47 t_sl_int64 v46) fun v48 => ∀ R49 : List AVal → Heap → Prop,
  (∀ (x51 x52 x53 x54 : AVal) (G50 : Heap), (wv (vbin T .lss t_int x54 x53) fun v55 => brB (some v55)
  (wv (viaddr T t_sl_int64 x52 x54) fun v56 => wv (vload T G50 t_int64 v56) fun v57 => wv (vload T G50 t_ledger_wide x51) fun v58 => ACalls P ledger_wide_plus.n [v58, v57] G50 fun v59 G60 => wg (vstore T G60 t_ledger_wide x51 v59) fun G61 => wv (vbin T .add t_int x54 (.int .i64 1)) fun v62 => R49 [x51, x52, x53, v62] G61)
  (wv (vload T G50 t_ledger_wide x51) fun v63 => ACalls P ledger_wide_value.n [v63] G50 fun v64 G65 => wv (vmax2 v64 (.int .i64 0)) fun v66 => wv (vmin2 v66 (.int .i64 1152921504606846976)) fun v67 => Q v67 G65)) → R49 [x51, x52, x53, x54] G50) →
  R49 [x34, v46, v48, .int .i64 0] G47)) → R30 [x32, x33, x34, x35, x36, x37] G31) →
  R30 [a2, .ptr i16 [] 0, .ptr i24 [] 0, v27, v29, .int .i64 0] G28)))
def ledger_Spendable.an : Ann := .two (.nil) (.two (.nil) (.two (.ord [(0, []), (1, []), (2, []), (5, []), (6, []), (7, []), (3, [7]), (4, [7]), (8, []), (9, []), (10, []), (11, []), (12, []), (13, [])]) (.two (.nil) (.two (.two (.nil) (.loop [2, 10, 11, 34, 35, 36] (.nil))) (.two (.two (.nil) (.loop [11, 46, 47, 48] (.nil))) (.nil))))))
set_option maxRecDepth 100000 in
theorem ledger_Spendable.sound {a0 a1 a2 a3 : AVal} {G : Heap} {Q : AVal → Heap → Prop} (h : ledger_Spendable.S a0 a1 a2 a3 G Q) : ACalls P ledger_Spendable.n [a0, a1, a2, a3] G Q := by
  have e : ledger_Spendable.S a0 a1 a2 a3 G Q = awp cx (ledger_Spendable.body) ledger_Spendable.an (bodyQ T [.tmp 8] Q) (envL [a0, a1, a2, a3]) G := by kernel_rfl
  exact ACalls_of_awp cxOk (f := ledger_Spendable.n) (fn := Try.f15) (c := ledger_Spendable.body) (an := ledger_Spendable.an) Try.func15 (by kernel_rfl) (by kernel_rfl) (by kernel_rfl) (drawsOk_of (by kernel_rfl) (by kernel_rfl)) (by simp [Try.f15]) (e ▸ h)

/-! #### escrow/ledger.Open$1 -/
def ledger_Open_1.S (a0 a1 : AVal) (G : Heap) (Q : AVal → Heap → Prop) : Prop :=
  wv (vload T G t_map_int64_int a1) fun v1 => wv (vlookup T G t_map_int64_int v1 a0 false) fun v2 => wv (vbin T .eql t_int v2 (.int .i64 0)) fun v3 => Q v3 G
def ledger_Open_1.an : Ann := .nil
set_option maxRecDepth 100000 in
theorem ledger_Open_1.sound {a0 a1 : AVal} {G : Heap} {Q : AVal → Heap → Prop} (h : ledger_Open_1.S a0 a1 G Q) : ACalls P ledger_Open_1.n [a0, a1] G Q := by
  have e : ledger_Open_1.S a0 a1 G Q = awp cx (ledger_Open_1.body) ledger_Open_1.an (bodyQ T [.tmp 3] Q) (envL [a0, a1]) G := by kernel_rfl
  exact ACalls_of_awp cxOk (f := ledger_Open_1.n) (fn := Try.f44) (c := ledger_Open_1.body) (an := ledger_Open_1.an) Try.func44 (by kernel_rfl) (by kernel_rfl) (by kernel_rfl) (drawsOk_of (by kernel_rfl) (by kernel_rfl)) (by simp [Try.f44]) (e ▸ h)

/-! #### escrow/ledger.Open -/
def ledger_Open.S (a0 a1 a2 : AVal) (G : Heap) (Q : AVal → Heap → Prop) : Prop :=
  ACalls P ledger_first.n [a1, a2] G fun v1 G2 => ACalls P ledger_removals.n [v1] G2 fun v3 G4 => aNew G4 (.own (z_map_int64_int)) fun i5 G6 => wg (vstore T G6 t_map_int64_int (.ptr i5 [] 0) v3) fun G7 => ACalls P ledger_adds.n [a0, .func (.func ledger_Open_1.n) [] [.ptr i5 [] 0]] G7 fun v8 G9 => wv (vlen T G9 t_sl_int64 v8) fun v10 => Q v10 G9
def ledger_Open.an : Ann := .nil
set_option maxRecDepth 100000 in
theorem ledger_Open.sound {a0 a1 a2 : AVal} {G : Heap} {Q : AVal → Heap → Prop} (h : ledger_Open.S a0 a1 a2 G Q) : ACalls P ledger_Open.n [a0, a1, a2] G Q := by
  have e : ledger_Open.S a0 a1 a2 G Q = awp cx (ledger_Open.body) ledger_Open.an (bodyQ T [.tmp 6] Q) (envL [a0, a1, a2]) G := by kernel_rfl
  exact ACalls_of_awp cxOk (f := ledger_Open.n) (fn := Try.f16) (c := ledger_Open.body) (an := ledger_Open.an) Try.func16 (by kernel_rfl) (by kernel_rfl) (by kernel_rfl) (drawsOk_of (by kernel_rfl) (by kernel_rfl)) (by simp [Try.f16]) (e ▸ h)

/-! #### escrow/escrowlaw13.first -/
def escrowlaw13_first.S (G : Heap) (Q : AVal → Heap → Prop) : Prop :=
  wv (vbuild T t_api_Update [(0, .int .i64 1), (2, .int .i64 600)]) fun v1 => aBuildSlice T t_sl_api_Update 1 [(0, v1)] G fun v2 G3 => wv (vbuild T t_api_Counts [(0, .int .i64 1)]) fun v4 => ACalls P ledger_Fold.n [.int .i64 700, .int .i64 300, v2, .nilSlice, v4] G3 fun v5 G6 => wv (vextract v5 0) fun v7 => wv (vextract v5 1) fun v8 => aNew G6 (.own (z_api_Ledger)) fun i9 G10 => wg (vstore T G10 t_api_Ledger (.ptr i9 [] 0) v7) fun G11 => wv (vbuild T t_api_Counts [(0, .int .i64 1)]) fun v12 => ACalls P ledger_Fold.n [.int .i64 500, .int .i64 300, v2, .nilSlice, v12] G11 fun v13 G14 => wv (vextract v13 0) fun v15 => wv (vextract v13 1) fun v16 => aNew G14 (.own (z_api_Ledger)) fun i17 G18 => wg (vstore T G18 t_api_Ledger (.ptr i17 [] 0) v15) fun G19 => wv (vbuild T t_api_Counts []) fun v20 => ACalls P ledger_Spendable.n [.int .i64 700, v2, .nilSlice, v20] G19 fun v21 G22 => wv (vbin T .eql t_api_Errno v8 (.int .i64 0)) fun v23 => brB (some v23)
  (wv (vbin T .eql t_api_Errno v16 (.int .i64 130)) fun v24 => brB (some v24)
  (wv (vload T G22 t_api_Ledger (.ptr i9 [] 0)) fun v25 => wv (vbuild T t_api_Pending [(0, .bool true), (2, .int .i64 600)]) fun v26 => aBuildSlice T t_sl_api_Pending 1 [(0, v26)] G22 fun v27 G28 => wv (vbuild T t_api_Ledger [(0, .int .i64 100), (1, .int .i64 300), (2, v27)]) fun v29 => ACalls P escrowlaw13_SameLedger.n [v25, v29] G28 fun v30 G31 => brB (some v30)
  (wv (vbin T .eql t_int64 v21 (.int .i64 100)) fun v32 => brB (some v32)
  (ACalls P ledger_Open.n [v2, .nilSlice, .int .i64 0] G31 fun v33 G34 => wv (vbin T .eql t_int v33 (.int .i64 1)) fun v35 => Q v35 G34)
  (Q (.bool false) G31))
  (Q (.bool false) G31))
  (Q (.bool false) G22))
  (Q (.bool false) G22)
def escrowlaw13_first.an : Ann := .nil
set_option maxRecDepth 100000 in
theorem escrowlaw13_first.sound {G : Heap} {Q : AVal → Heap → Prop} (h : escrowlaw13_first.S G Q) : ACalls P escrowlaw13_first.n [] G Q := by
  have e : escrowlaw13_first.S G Q = awp cx (escrowlaw13_first.body) escrowlaw13_first.an (bodyQ T [.tmp 0] Q) (envL []) G := by kernel_rfl
  exact ACalls_of_awp cxOk (f := escrowlaw13_first.n) (fn := Try.f8) (c := escrowlaw13_first.body) (an := escrowlaw13_first.an) Try.func8 (by kernel_rfl) (by kernel_rfl) (by kernel_rfl) (drawsOk_of (by kernel_rfl) (by kernel_rfl)) (by simp [Try.f8]) (e ▸ h)

/-! #### escrow/escrowlaw13.lend -/
def escrowlaw13_lend.S (a0 : AVal) (G : Heap) (Q : AVal → Heap → Prop) : Prop :=
  aAppend T G t_sl_api_Update t_sl_api_Update (.nilSlice) a0 fun v1 G2 => wv (vbuild T t_api_Update [(0, .int .i64 (-7))]) fun v3 => aBuildSlice T t_sl_api_Update 1 [(0, v3)] G2 fun v4 G5 => aAppend T G5 t_sl_api_Update t_sl_api_Update v1 v4 fun v6 G7 => wv (vlen T G7 t_sl_api_Update a0) fun v8 => wv (vslice T t_sl_api_Update v6 none (some (v8)) none) fun v9 => Q v9 G7
def escrowlaw13_lend.an : Ann := .nil
set_option maxRecDepth 100000 in
theorem escrowlaw13_lend.sound {a0 : AVal} {G : Heap} {Q : AVal → Heap → Prop} (h : escrowlaw13_lend.S a0 G Q) : ACalls P escrowlaw13_lend.n [a0] G Q := by
  have e : escrowlaw13_lend.S a0 G Q = awp cx (escrowlaw13_lend.body) escrowlaw13_lend.an (bodyQ T [.tmp 2] Q) (envL [a0]) G := by kernel_rfl
  exact ACalls_of_awp cxOk (f := escrowlaw13_lend.n) (fn := Try.f9) (c := escrowlaw13_lend.body) (an := escrowlaw13_lend.an) Try.func9 (by kernel_rfl) (by kernel_rfl) (by kernel_rfl) (drawsOk_of (by kernel_rfl) (by kernel_rfl)) (by simp [Try.f9]) (e ▸ h)

/-! #### escrow/escrowref13.amount -/
def escrowref13_amount.S (a0 : AVal) (G : Heap) (Q : AVal → Heap → Prop) : Prop :=
  wv (vbin T .geq t_int64 a0 (.int .i64 0)) fun v1 => brB (some v1)
  (wv (vbin T .leq t_int64 a0 (.int .i64 1152921504606846976)) fun v2 => Q v2 G)
  (Q (.bool false) G)
def escrowref13_amount.an : Ann := .nil
set_option maxRecDepth 100000 in
theorem escrowref13_amount.sound {a0 : AVal} {G : Heap} {Q : AVal → Heap → Prop} (h : escrowref13_amount.S a0 G Q) : ACalls P escrowref13_amount.n [a0] G Q := by
  have e : escrowref13_amount.S a0 G Q = awp cx (escrowref13_amount.body) escrowref13_amount.an (bodyQ T [.tmp 2] Q) (envL [a0]) G := by kernel_rfl
  exact ACalls_of_awp cxOk (f := escrowref13_amount.n) (fn := Try.f34) (c := escrowref13_amount.body) (an := escrowref13_amount.an) Try.func34 (by kernel_rfl) (by kernel_rfl) (by kernel_rfl) (drawsOk_of (by kernel_rfl) (by kernel_rfl)) (by simp [Try.f34]) (e ▸ h)

/-! #### escrow/escrowref12.Valid -/
def escrowref12_Valid.S (a0 : AVal) (G : Heap) (Q : AVal → Heap → Prop) : Prop :=
  aNew G (.own (a0)) fun i1 G2 => wv (vbuild T t_api_Hash []) fun v3 => aNew G2 (.own (z_api_Hash)) fun i4 G5 => wg (vstore T G5 t_api_Hash (.ptr i4 [] 0) v3) fun G6 => let J41 : AVal → Heap → Prop := (fun x12 G11 => brB (some x12)
  (Q (.bool false) G11)
  (wv (vload T G11 t_int (.ptr i1 [0] 0)) fun v13 => wv (vbin T .eql t_int v13 (.int .i64 1)) fun v14 => brB (some v14)
  (wv (vload T G11 t_int64 (.ptr i1 [2] 2)) fun v15 => wv (vbin T .geq t_int64 v15 (.int .i64 1)) fun v16 => brB (some v16)
  (wv (vload T G11 t_int64 (.ptr i1 [2] 2)) fun v17 => wv (vbin T .leq t_int64 v17 (.int .i64 1152921504606846976)) fun v18 => brB (some v18)
  (wv (vload T G11 t_string (.ptr i1 [4] 35)) fun v19 => wv (vbin T .eql t_string v19 (.str [])) fun v20 => Q v20 G11)
  (Q (.bool false) G11))
  (Q (.bool false) G11))
  (wv (vbin T .eql t_int v13 (.int .i64 2)) fun v23 => brB (some v23)
  (wv (vload T G11 t_int64 (.ptr i1 [2] 2)) fun v24 => wv (vbin T .eql t_int64 v24 (.int .i64 0)) fun v25 => brB (some v25)
  (wv (vload T G11 t_string (.ptr i1 [4] 35)) fun v26 => wv (vbin T .eql t_string v26 (.str [])) fun v27 => Q v27 G11)
  (Q (.bool false) G11))
  (wv (vbin T .eql t_int v13 (.int .i64 3)) fun v30 => brB (some v30)
  (wv (vload T G11 t_int64 (.ptr i1 [2] 2)) fun v31 => wv (vbin T .eql t_int64 v31 (.int .i64 0)) fun v32 => brB (some v32)
  (wv (vload T G11 t_api_Hash (.ptr i1 [3] 3)) fun v33 => wv (vload T G11 t_api_Hash (.ptr i4 [] 0)) fun v34 => wv (vbin T .eql t_api_Hash v33 v34) fun v35 => brB (some v35)
  (wv (vload T G11 t_string (.ptr i1 [4] 35)) fun v36 => wv (vlen T G11 t_string v36) fun v37 => wv (vbin T .leq t_int v37 (.int .i64 64)) fun v38 => Q v38 G11)
  (Q (.bool false) G11))
  (Q (.bool false) G11))
  (Q (.bool false) G11)))));
  wv (vload T G6 t_int64 (.ptr i1 [1] 1)) fun v7 => wv (vbin T .lss t_int64 v7 (.int .i64 0)) fun v8 => brB (some v8)
  (J41 (.bool true) G6)
  (wv (vload T G6 t_int64 (.ptr i1 [1] 1)) fun v9 => wv (vbin T .geq t_int64 v9 (.int .i64 2048)) fun v10 => J41 v10 G6)
def escrowref12_Valid.an : Ann := .nil
set_option maxRecDepth 100000 in
theorem escrowref12_Valid.sound {a0 : AVal} {G : Heap} {Q : AVal → Heap → Prop} (h : escrowref12_Valid.S a0 G Q) : ACalls P escrowref12_Valid.n [a0] G Q := by
  have e : escrowref12_Valid.S a0 G Q = awp cx (escrowref12_Valid.body) escrowref12_Valid.an (bodyQ T [.tmp 2] Q) (envL [a0]) G := by kernel_rfl
  exact ACalls_of_awp cxOk (f := escrowref12_Valid.n) (fn := Try.f46) (c := escrowref12_Valid.body) (an := escrowref12_Valid.an) Try.func46 (by kernel_rfl) (by kernel_rfl) (by kernel_rfl) (drawsOk_of (by kernel_rfl) (by kernel_rfl)) (by simp [Try.f46]) (e ▸ h)

/-! #### escrow/escrowref13.valid -/
def escrowref13_valid.S (a0 : AVal) (G : Heap) (Q : AVal → Heap → Prop) : Prop :=
  ∀ R1 : List AVal → Heap → Prop,
  (∀ (x3 x4 : AVal) (G2 : Heap), (wv (vlen T G2 t_sl_api_Update x3) fun v5 => wv (vbin T .lss t_int x4 v5) fun v6 => brB (some v6)
  (wv (viaddr T t_sl_api_Update x3 x4) fun v7 => wv (vload T G2 t_api_Update v7) fun v8 => ACalls P escrowref12_Valid.n [v8] G2 fun v9 G10 => wv (vun .not v9) fun v11 => brB (some v11)
  (Q (.bool false) G10)
  (wv (vbin T .add t_int x4 (.int .i64 1)) fun v12 => R1 [x3, v12] G10))
  (Q (.bool true) G2)) → R1 [x3, x4] G2) →
  R1 [a0, .int .i64 0] G
def escrowref13_valid.an : Ann := .two (.nil) (.two (.two (.nil) (.loop [0, 3] (.nil))) (.nil))
set_option maxRecDepth 100000 in
theorem escrowref13_valid.sound {a0 : AVal} {G : Heap} {Q : AVal → Heap → Prop} (h : escrowref13_valid.S a0 G Q) : ACalls P escrowref13_valid.n [a0] G Q := by
  have e : escrowref13_valid.S a0 G Q = awp cx (escrowref13_valid.body) escrowref13_valid.an (bodyQ T [.tmp 2] Q) (envL [a0]) G := by kernel_rfl
  exact ACalls_of_awp cxOk (f := escrowref13_valid.n) (fn := Try.f35) (c := escrowref13_valid.body) (an := escrowref13_valid.an) Try.func35 (by kernel_rfl) (by kernel_rfl) (by kernel_rfl) (drawsOk_of (by kernel_rfl) (by kernel_rfl)) (by simp [Try.f35]) (e ▸ h)

/-! #### escrow/escrowref13.plus -/
def escrowref13_plus.S (a0 a1 : AVal) (G : Heap) (Q : AVal → Heap → Prop) : Prop :=
  aNew G (.own (a0)) fun i1 G2 => aNew G2 (.own (z_escrowref13_Wide)) fun i3 G4 => wv (vbin T .eql t_int64 a1 (.int .i64 1152921504606846976)) fun v5 => brB (some v5)
  (wv (vload T G4 t_int64 (.ptr i1 [0] 0)) fun v6 => wv (vbin T .add t_int64 v6 (.int .i64 1)) fun v7 => wv (vload T G4 t_int64 (.ptr i1 [1] 1)) fun v8 => wv (vbuild T t_escrowref13_Wide [(0, v7), (1, v8)]) fun v9 => wg (vstore T G4 t_escrowref13_Wide (.ptr i3 [] 0) v9) fun G10 => wv (vload T G10 t_escrowref13_Wide (.ptr i3 [] 0)) fun v11 => Q v11 G10)
  (wv (vload T G4 t_int64 (.ptr i1 [1] 1)) fun v12 => wv (vbin T .add t_int64 v12 a1) fun v13 => wg (vstore T G4 t_int64 (.ptr i1 [1] 1) v13) fun G14 => wv (vload T G14 t_int64 (.ptr i1 [1] 1)) fun v15 => wv (vbin T .geq t_int64 v15 (.int .i64 1152921504606846976)) fun v16 => brB (some v16)
  (wv (vload T G14 t_int64 (.ptr i1 [0] 0)) fun v17 => wv (vbin T .add t_int64 v17 (.int .i64 1)) fun v18 => wv (vload T G14 t_int64 (.ptr i1 [1] 1)) fun v19 => wv (vbin T .sub t_int64 v19 (.int .i64 1152921504606846976)) fun v20 => wv (vbuild T t_escrowref13_Wide [(0, v18), (1, v20)]) fun v21 => wg (vstore T G14 t_escrowref13_Wide (.ptr i3 [] 0) v21) fun G22 => wv (vload T G22 t_escrowref13_Wide (.ptr i3 [] 0)) fun v23 => Q v23 G22)
  (wv (vload T G14 t_escrowref13_Wide (.ptr i1 [] 0)) fun v24 => wg (vstore T G14 t_escrowref13_Wide (.ptr i3 [] 0) v24) fun G25 => wv (vload T G25 t_escrowref13_Wide (.ptr i3 [] 0)) fun v26 => Q v26 G25))
def escrowref13_plus.an : Ann := .nil
set_option maxRecDepth 100000 in
theorem escrowref13_plus.sound {a0 a1 : AVal} {G : Heap} {Q : AVal → Heap → Prop} (h : escrowref13_plus.S a0 a1 G Q) : ACalls P escrowref13_plus.n [a0, a1] G Q := by
  have e : escrowref13_plus.S a0 a1 G Q = awp cx (escrowref13_plus.body) escrowref13_plus.an (bodyQ T [.cell 4 80] Q) (envL [a0, a1]) G := by kernel_rfl
  exact ACalls_of_awp cxOk (f := escrowref13_plus.n) (fn := Try.f37) (c := escrowref13_plus.body) (an := escrowref13_plus.an) Try.func37 (by kernel_rfl) (by kernel_rfl) (by kernel_rfl) (drawsOk_of (by kernel_rfl) (by kernel_rfl)) (by simp [Try.f37]) (e ▸ h)

/-! #### escrow/escrowref13.removed -/
def escrowref13_removed.S (a0 a1 : AVal) (G : Heap) (Q : AVal → Heap → Prop) : Prop :=
  ∀ R1 : List AVal → Heap → Prop,
  (∀ (x3 x4 x5 : AVal) (G2 : Heap), (wv (vlen T G2 t_sl_api_Update x3) fun v6 => wv (vbin T .lss t_int x5 v6) fun v7 => brB (some v7)
  (let J25 : AVal → Heap → Prop := (fun x21 G20 => brB (some x21)
  (wv (viaddr T t_sl_api_Update x3 x5) fun v22 => wv (vfaddr T t_api_Update v22 0) fun v23 => wv (vload T G20 t_int v23) fun v24 => Q v24 G20)
  (wv (vbin T .add t_int x5 (.int .i64 1)) fun v26 => R1 [x3, x4, v26] G20));
  wv (viaddr T t_sl_api_Update x3 x5) fun v8 => wv (vfaddr T t_api_Update v8 0) fun v9 => wv (vload T G2 t_int v9) fun v10 => wv (vbin T .neq t_int v10 (.int .i64 1)) fun v11 => brB (some v11)
  (wv (viaddr T t_sl_api_Update x3 x5) fun v12 => wv (vfaddr T t_api_Update v12 1) fun v13 => wv (vload T G2 t_int64 v13) fun v14 => wv (vbin T .eql t_int64 v14 x4) fun v15 => brB (some v15)
  (wv (viaddr T t_sl_api_Update x3 x5) fun v16 => wv (vload T G2 t_api_Update v16) fun v17 => ACalls P escrowref12_Valid.n [v17] G2 fun v18 G19 => J25 v18 G19)
  (J25 (.bool false) G2))
  (J25 (.bool false) G2))
  (Q (.int .i64 0) G2)) → R1 [x3, x4, x5] G2) →
  R1 [a0, a1, .int .i64 0] G
def escrowref13_removed.an : Ann := .two (.nil) (.two (.two (.nil) (.loop [0, 1, 5] (.nil))) (.nil))
set_option maxRecDepth 100000 in
theorem escrowref13_removed.sound {a0 a1 : AVal} {G : Heap} {Q : AVal → Heap → Prop} (h : escrowref13_removed.S a0 a1 G Q) : ACalls P escrowref13_removed.n [a0, a1] G Q := by
  have e : escrowref13_removed.S a0 a1 G Q = awp cx (escrowref13_removed.body) escrowref13_removed.an (bodyQ T [.tmp 4] Q) (envL [a0, a1]) G := by kernel_rfl
  exact ACalls_of_awp cxOk (f := escrowref13_removed.n) (fn := Try.f47) (c := escrowref13_removed.body) (an := escrowref13_removed.an) Try.func47 (by kernel_rfl) (by kernel_rfl) (by kernel_rfl) (drawsOk_of (by kernel_rfl) (by kernel_rfl)) (by simp [Try.f47]) (e ▸ h)

/-! #### escrow/escrowref13.minus -/
def escrowref13_minus.S (a0 a1 : AVal) (G : Heap) (Q : AVal → Heap → Prop) : Prop :=
  aNew G (.own (a0)) fun i1 G2 => aNew G2 (.own (z_escrowref13_Wide)) fun i3 G4 => wv (vbin T .eql t_int64 a1 (.int .i64 1152921504606846976)) fun v5 => brB (some v5)
  (wv (vload T G4 t_int64 (.ptr i1 [0] 0)) fun v6 => wv (vbin T .sub t_int64 v6 (.int .i64 1)) fun v7 => wv (vload T G4 t_int64 (.ptr i1 [1] 1)) fun v8 => wv (vbuild T t_escrowref13_Wide [(0, v7), (1, v8)]) fun v9 => wg (vstore T G4 t_escrowref13_Wide (.ptr i3 [] 0) v9) fun G10 => wv (vload T G10 t_escrowref13_Wide (.ptr i3 [] 0)) fun v11 => Q v11 G10)
  (wv (vload T G4 t_int64 (.ptr i1 [1] 1)) fun v12 => wv (vbin T .sub t_int64 v12 a1) fun v13 => wg (vstore T G4 t_int64 (.ptr i1 [1] 1) v13) fun G14 => wv (vload T G14 t_int64 (.ptr i1 [1] 1)) fun v15 => wv (vbin T .lss t_int64 v15 (.int .i64 0)) fun v16 => brB (some v16)
  (wv (vload T G14 t_int64 (.ptr i1 [0] 0)) fun v17 => wv (vbin T .sub t_int64 v17 (.int .i64 1)) fun v18 => wv (vload T G14 t_int64 (.ptr i1 [1] 1)) fun v19 => wv (vbin T .add t_int64 v19 (.int .i64 1152921504606846976)) fun v20 => wv (vbuild T t_escrowref13_Wide [(0, v18), (1, v20)]) fun v21 => wg (vstore T G14 t_escrowref13_Wide (.ptr i3 [] 0) v21) fun G22 => wv (vload T G22 t_escrowref13_Wide (.ptr i3 [] 0)) fun v23 => Q v23 G22)
  (wv (vload T G14 t_escrowref13_Wide (.ptr i1 [] 0)) fun v24 => wg (vstore T G14 t_escrowref13_Wide (.ptr i3 [] 0) v24) fun G25 => wv (vload T G25 t_escrowref13_Wide (.ptr i3 [] 0)) fun v26 => Q v26 G25))
def escrowref13_minus.an : Ann := .nil
set_option maxRecDepth 100000 in
theorem escrowref13_minus.sound {a0 a1 : AVal} {G : Heap} {Q : AVal → Heap → Prop} (h : escrowref13_minus.S a0 a1 G Q) : ACalls P escrowref13_minus.n [a0, a1] G Q := by
  have e : escrowref13_minus.S a0 a1 G Q = awp cx (escrowref13_minus.body) escrowref13_minus.an (bodyQ T [.cell 4 80] Q) (envL [a0, a1]) G := by kernel_rfl
  exact ACalls_of_awp cxOk (f := escrowref13_minus.n) (fn := Try.f48) (c := escrowref13_minus.body) (an := escrowref13_minus.an) Try.func48 (by kernel_rfl) (by kernel_rfl) (by kernel_rfl) (drawsOk_of (by kernel_rfl) (by kernel_rfl)) (by simp [Try.f48]) (e ▸ h)

/-! #### escrow/escrowref13.placed -/
def escrowref13_placed.S (a0 a1 : AVal) (G : Heap) (Q : AVal → Heap → Prop) : Prop :=
  aNew G (.own (a1)) fun i1 G2 => ∀ R3 : List AVal → Heap → Prop,
  (∀ (x5 x6 x7 x8 x9 : AVal) (G4 : Heap), (wv (vlen T G4 t_sl_api_Pending x5) fun v10 => wv (vbin T .lss t_int x9 v10) fun v11 => brB (some v11)
  (let J47 : AVal → Heap → Prop := (fun x20 G19 => brB (some x20)
  (wv (vload T G19 t_api_Pending x6) fun v21 => aBuildSlice T t_sl_api_Pending 1 [(0, v21)] G19 fun v22 G23 => aAppend T G23 t_sl_api_Pending t_sl_api_Pending x7 v22 fun v24 G25 => wv (viaddr T t_sl_api_Pending x5 x9) fun v35 => wv (vload T G25 t_api_Pending v35) fun v36 => aBuildSlice T t_sl_api_Pending 1 [(0, v36)] G25 fun v37 G38 => aAppend T G38 t_sl_api_Pending t_sl_api_Pending v24 v37 fun v39 G40 => wv (vbin T .add t_int x9 (.int .i64 1)) fun v52 => R3 [x5, x6, v39, .bool true, v52] G40)
  (wv (viaddr T t_sl_api_Pending x5 x9) fun v41 => wv (vload T G19 t_api_Pending v41) fun v42 => aBuildSlice T t_sl_api_Pending 1 [(0, v42)] G19 fun v43 G44 => aAppend T G44 t_sl_api_Pending t_sl_api_Pending x7 v43 fun v45 G46 => wv (vbin T .add t_int x9 (.int .i64 1)) fun v53 => R3 [x5, x6, v45, x8, v53] G46));
  wv (vun .not x8) fun v12 => brB (some v12)
  (wv (viaddr T t_sl_api_Pending x5 x9) fun v13 => wv (vfaddr T t_api_Pending v13 1) fun v14 => wv (vload T G4 t_int64 v14) fun v15 => wv (vfaddr T t_api_Pending x6 1) fun v16 => wv (vload T G4 t_int64 v16) fun v17 => wv (vbin T .gtr t_int64 v15 v17) fun v18 => J47 v18 G4)
  (J47 (.bool false) G4))
  (wv (vun .not x8) fun v54 => brB (some v54)
  (wv (vload T G4 t_api_Pending x6) fun v55 => aBuildSlice T t_sl_api_Pending 1 [(0, v55)] G4 fun v56 G57 => aAppend T G57 t_sl_api_Pending t_sl_api_Pending x7 v56 fun v58 G59 => Q v58 G59)
  (Q x7 G4))) → R3 [x5, x6, x7, x8, x9] G4) →
  R3 [a0, .ptr i1 [] 0, .nilSlice, .bool false, .int .i64 0] G2
def escrowref13_placed.an : Ann := .two (.nil) (.two (.nil) (.two (.nil) (.two (.two (.nil) (.loop [0, 3, 5, 6, 7] (.two (.nil) (.two (.two (.two (.ord [(0, []), (1, []), (2, []), (3, []), (4, []), (5, []), (6, []), (7, []), (8, []), (9, []), (10, []), (11, [])]) (.nil)) (.nil)) (.nil))))) (.nil))))
set_option maxRecDepth 100000 in
theorem escrowref13_placed.sound {a0 a1 : AVal} {G : Heap} {Q : AVal → Heap → Prop} (h : escrowref13_placed.S a0 a1 G Q) : ACalls P escrowref13_placed.n [a0, a1] G Q := by
  have e : escrowref13_placed.S a0 a1 G Q = awp cx (escrowref13_placed.body) escrowref13_placed.an (bodyQ T [.tmp 4] Q) (envL [a0, a1]) G := by kernel_rfl
  exact ACalls_of_awp cxOk (f := escrowref13_placed.n) (fn := Try.f58) (c := escrowref13_placed.body) (an := escrowref13_placed.an) Try.func58 (by kernel_rfl) (by kernel_rfl) (by kernel_rfl) (drawsOk_of (by kernel_rfl) (by kernel_rfl)) (by simp [Try.f58]) (e ▸ h)

/-! #### escrow/escrowref13.side -/
def escrowref13_side.S (a0 a1 a2 a3 a4 : AVal) (G : Heap) (Q : AVal → Heap → Prop) : Prop :=
  aNew G (.own (a0)) fun i1 G2 => aNew G2 (.own (a1)) fun i3 G4 => aNew G4 (.own (z_escrowref13_Wide)) fun i5 G6 => aNew G6 (.own (z_escrowref13_Wide)) fun i7 G8 => ∀ R9 : List AVal → Heap → Prop,
  (∀ (x11 x12 x13 x14 x15 x16 x17 x18 x19 : AVal) (G10 : Heap), (wv (vlen T G10 t_sl_api_Update x11) fun v20 => wv (vbin T .lss t_int x19 v20) fun v21 => brB (some v21)
  (let J64 : AVal → Heap → Prop := (fun x62 G61 => wv (vbin T .add t_int x19 (.int .i64 1)) fun v63 => R9 [x11, x12, x13, x14, x15, x16, x17, x62, v63] G61);
  wv (viaddr T t_sl_api_Update x11 x19) fun v22 => wv (vload T G10 t_api_Update v22) fun v23 => aNew G10 (.own (z_api_Update)) fun i24 G25 => wg (vstore T G25 t_api_Update (.ptr i24 [] 0) v23) fun G26 => wv (vload T G26 t_int (.ptr i24 [0] 0)) fun v27 => wv (vbin T .neq t_int v27 (.int .i64 1)) fun v28 => brB (some v28)
  (J64 x18 G26)
  (wv (vload T G26 t_int64 (.ptr i24 [1] 1)) fun v29 => ACalls P escrowref13_removed.n [x12, v29] G26 fun v30 G31 => wv (vbin T .eql t_int v30 (.int .i64 2)) fun v32 => brB (some v32)
  (wv (vload T G31 t_escrowref13_Wide x14) fun v33 => wv (vload T G31 t_int64 (.ptr i24 [2] 2)) fun v34 => ACalls P escrowref13_minus.n [v33, v34] G31 fun v35 G36 => wg (vstore T G36 t_escrowref13_Wide x14 v35) fun G37 => wv (vload T G37 t_escrowref13_Wide x15) fun v38 => wv (vload T G37 t_int64 (.ptr i24 [2] 2)) fun v39 => ACalls P escrowref13_plus.n [v38, v39] G37 fun v40 G41 => wg (vstore T G41 t_escrowref13_Wide x15 v40) fun G42 => J64 x18 G42)
  (wv (vbin T .eql t_int v30 (.int .i64 0)) fun v43 => brB (some v43)
  (wv (vload T G31 t_escrowref13_Wide x14) fun v44 => wv (vload T G31 t_int64 (.ptr i24 [2] 2)) fun v45 => ACalls P escrowref13_minus.n [v44, v45] G31 fun v46 G47 => wg (vstore T G47 t_escrowref13_Wide x14 v46) fun G48 => wv (vload T G48 t_int64 (.ptr i24 [1] 1)) fun v49 => wv (vload T G48 t_int64 (.ptr i24 [2] 2)) fun v50 => wv (vload T G48 t_api_Hash (.ptr i24 [3] 3)) fun v51 => wv (vbuild T t_api_Pending [(0, x13), (1, v49), (2, v50), (3, v51)]) fun v52 => ACalls P escrowref13_placed.n [x18, v52] G48 fun v53 G54 => J64 v53 G54)
  (J64 x18 G31))))
  (wv (vload T G10 t_escrowref13_Wide x14) fun v65 => wv (vload T G10 t_escrowref13_Wide x15) fun v66 => wg (vstore T G10 t_escrowref13_Wide x16 v65) fun G67 => (vload T G67 t_escrowref13_Wide x15 = some v66 ∧ True) ∧ (wg (vstore T G67 t_escrowref13_Wide x17 v66) fun G68 => wv (vload T G68 t_escrowref13_Wide x16) fun v69 => wv (vload T G68 t_escrowref13_Wide x17) fun v70 => Q (.tuple [v69, v70, x18]) G68))) → R9 [x11, x12, x13, x14, x15, x16, x17, x18, x19] G10) →
  R9 [a2, a3, a4, .ptr i1 [] 0, .ptr i3 [] 0, .ptr i5 [] 0, .ptr i7 [] 0, .nilSlice, .int .i64 0] G8
def escrowref13_side.an : Ann := .two (.nil) (.two (.nil) (.two (.two (.nil) (.loop [2, 3, 4, 5, 6, 10, 11, 13, 14] (.nil))) (.two (.ord [(0, []), (1, []), (2, []), (3, [1]), (4, []), (5, [])]) (.nil))))
set_option maxRecDepth 100000 in
theorem escrowref13_side.sound {a0 a1 a2 a3 a4 : AVal} {G : Heap} {Q : AVal → Heap → Prop} (h : escrowref13_side.S a0 a1 a2 a3 a4 G Q) : ACalls P escrowref13_side.n [a0, a1, a2, a3, a4] G Q := by
  have e : escrowref13_side.S a0 a1 a2 a3 a4 G Q = awp cx (escrowref13_side.body) escrowref13_side.an (bodyQ T [.cell 10 80, .cell 11 80, .tmp 12] Q) (envL [a0, a1, a2, a3, a4]) G := by kernel_rfl
  exact ACalls_of_awp cxOk (f := escrowref13_side.n) (fn := Try.f36) (c := escrowref13_side.body) (an := escrowref13_side.an) Try.func36 (by kernel_rfl) (by kernel_rfl) (by kernel_rfl) (drawsOk_of (by kernel_rfl) (by kernel_rfl)) (by simp [Try.f36]) (e ▸ h)

/-! #### escrow/escrowref13.cut -/
def escrowref13_cut.S (a0 : AVal) (G : Heap) (Q : AVal → Heap → Prop) : Prop :=
  aNew G (.own (a0)) fun i1 G2 => wv (vload T G2 t_int64 (.ptr i1 [0] 0)) fun v3 => wv (vbin T .lss t_int64 v3 (.int .i64 0)) fun v4 => brB (some v4)
  (Q (.int .i64 0) G2)
  (wv (vload T G2 t_int64 (.ptr i1 [0] 0)) fun v5 => wv (vbin T .gtr t_int64 v5 (.int .i64 0)) fun v6 => brB (some v6)
  (Q (.int .i64 1152921504606846976) G2)
  (wv (vload T G2 t_int64 (.ptr i1 [1] 1)) fun v7 => Q v7 G2))
def escrowref13_cut.an : Ann := .nil
set_option maxRecDepth 100000 in
theorem escrowref13_cut.sound {a0 : AVal} {G : Heap} {Q : AVal → Heap → Prop} (h : escrowref13_cut.S a0 G Q) : ACalls P escrowref13_cut.n [a0] G Q := by
  have e : escrowref13_cut.S a0 G Q = awp cx (escrowref13_cut.body) escrowref13_cut.an (bodyQ T [.tmp 2] Q) (envL [a0]) G := by kernel_rfl
  exact ACalls_of_awp cxOk (f := escrowref13_cut.n) (fn := Try.f38) (c := escrowref13_cut.body) (an := escrowref13_cut.an) Try.func38 (by kernel_rfl) (by kernel_rfl) (by kernel_rfl) (drawsOk_of (by kernel_rfl) (by kernel_rfl)) (by simp [Try.f38]) (e ▸ h)

/-! #### escrow/escrowref13.Fold -/
def escrowref13_Fold.S (a0 a1 a2 a3 a4 : AVal) (G : Heap) (Q : AVal → Heap → Prop) : Prop :=
  aNew G (.own (a4)) fun i1 G2 => aNew G2 (.own (z_api_Ledger)) fun i3 G4 => let J93 : AVal → Heap → Prop := (fun x26 G25 => brB (some x26)
  (wv (vbuild T t_api_Ledger []) fun v27 => wg (vstore T G25 t_api_Ledger (.ptr i3 [] 0) v27) fun G28 => wv (vload T G28 t_api_Ledger (.ptr i3 [] 0)) fun v29 => Q (.tuple [v29, .int .i64 1]) G28)
  (wv (vload T G25 t_int (.ptr i1 [0] 0)) fun v30 => wv (vslice T t_sl_api_Update a2 none (some (v30)) none) fun v31 => wv (vload T G25 t_int (.ptr i1 [1] 1)) fun v32 => wv (vslice T t_sl_api_Update a3 none (some (v32)) none) fun v33 => let J92 : AVal → Heap → Prop := (fun x41 G40 => brB (some x41)
  (wv (vbuild T t_api_Ledger []) fun v42 => wg (vstore T G40 t_api_Ledger (.ptr i3 [] 0) v42) fun G43 => wv (vload T G43 t_api_Ledger (.ptr i3 [] 0)) fun v44 => Q (.tuple [v44, .int .i64 120]) G43)
  (wv (vbuild T t_escrowref13_Wide []) fun v45 => ACalls P escrowref13_plus.n [v45, a0] G40 fun v46 G47 => wv (vbuild T t_escrowref13_Wide []) fun v48 => ACalls P escrowref13_plus.n [v48, a1] G47 fun v49 G50 => ACalls P escrowref13_side.n [v46, v49, v31, v33, .bool true] G50 fun v51 G52 => wv (vextract v51 0) fun v53 => wv (vextract v51 1) fun v54 => wv (vextract v51 2) fun v55 => aNew G52 (.own (z_escrowref13_Wide)) fun i56 G57 => aNew G57 (.own (z_escrowref13_Wide)) fun i58 G59 => wg (vstore T G59 t_escrowref13_Wide (.ptr i56 [] 0) v53) fun G60 => wg (vstore T G60 t_escrowref13_Wide (.ptr i58 [] 0) v54) fun G61 => wv (vload T G61 t_escrowref13_Wide (.ptr i58 [] 0)) fun v62 => wv (vload T G61 t_escrowref13_Wide (.ptr i56 [] 0)) fun v63 => ACalls P escrowref13_side.n [v62, v63, v33, v31, .bool false] G61 fun v64 G65 => wv (vextract v64 0) fun v66 => wv (vextract v64 1) fun v67 => wv (vextract v64 2) fun v68 => wg (vstore T G65 t_escrowref13_Wide (.ptr i58 [] 0) v66) fun G69 => wg (vstore T G69 t_escrowref13_Wide (.ptr i56 [] 0) v67) fun G70 => let J91 : AVal → Heap → Prop := (fun x76 G75 => brB (some x76)
  (wv (vbuild T t_api_Ledger []) fun v77 => wg (vstore T G75 t_api_Ledger (.ptr i3 [] 0) v77) fun G78 => wv (vload T G78 t_api_Ledger (.ptr i3 [] 0)) fun v79 => Q (.tuple [v79, .int .i64 130]) G78)
  (wv (vload T G75 t_escrowref13_Wide (.ptr i56 [] 0)) fun v80 => wv (vload T G75 t_escrowref13_Wide (.ptr i58 [] 0)) fun v81 => ACalls P escrowref13_cut.n [v80] G75 fun v82 G83 => (vload T G83 t_escrowref13_Wide (.ptr i58 [] 0) = some v81 ∧ True) ∧ (ACalls P escrowref13_cut.n [v81] G83 fun v84 G85 => aAppend T G85 t_sl_api_Pending t_sl_api_Pending v55 v68 fun v86 G87 => wv (vbuild T t_api_Ledger [(0, v82), (1, v84), (2, v86)]) fun v88 => wg (vstore T G87 t_api_Ledger (.ptr i3 [] 0) v88) fun G89 => wv (vload T G89 t_api_Ledger (.ptr i3 [] 0)) fun v90 => Q (.tuple [v90, .int .i64 0]) G89)));
  wv (vload T G70 t_int64 (.ptr i56 [0] 0)) fun v71 => wv (vbin T .lss t_int64 v71 (.int .i64 0)) fun v72 => brB (some v72)
  (J91 (.bool true) G70)
  (wv (vload T G70 t_int64 (.ptr i58 [0] 0)) fun v73 => wv (vbin T .lss t_int64 v73 (.int .i64 0)) fun v74 => J91 v74 G70)));
  ACalls P escrowref13_valid.n [v31] G25 fun v34 G35 => wv (vun .not v34) fun v36 => brB (some v36)
  (J92 (.bool true) G35)
  (ACalls P escrowref13_valid.n [v33] G35 fun v37 G38 => wv (vun .not v37) fun v39 => J92 v39 G38)));
  wv (vload T G4 t_int (.ptr i1 [0] 0)) fun v5 => wv (vbin T .lss t_int v5 (.int .i64 0)) fun v6 => brB (some v6)
  (J93 (.bool true) G4)
  (wv (vload T G4 t_int (.ptr i1 [0] 0)) fun v7 => wv (vlen T G4 t_sl_api_Update a2) fun v8 => wv (vbin T .gtr t_int v7 v8) fun v9 => brB (some v9)
  (J93 (.bool true) G4)
  (wv (vload T G4 t_int (.ptr i1 [1] 1)) fun v10 => wv (vbin T .lss t_int v10 (.int .i64 0)) fun v11 => brB (some v11)
  (J93 (.bool true) G4)
  (wv (vload T G4 t_int (.ptr i1 [1] 1)) fun v12 => wv (vlen T G4 t_sl_api_Update a3) fun v13 => wv (vbin T .gtr t_int v12 v13) fun v14 => brB (some v14)
  (J93 (.bool true) G4)
  (ACalls P escrowref13_amount.n [a0] G4 fun v15 G16 => wv (vun .not v15) fun v17 => brB (some v17)
  (J93 (.bool true) G16)
  (ACalls P escrowref13_amount.n [a1] G16 fun v18 G19 => wv (vun .not v18) fun v20 => brB (some v20)
  (J93 (.bool true) G19)
  (wv (vbin T .add t_int64 a0 a1) fun v21 => ACalls P escrowref13_amount.n [v21] G19 fun v22 G23 => wv (vun .not v22) fun v24 => J93 v24 G23))))))
def escrowref13_Fold.an : Ann := .two (.nil) (.two (.nil) (.two (.nil) (.two (.nil) (.two (.nil) (.two (.nil) (.two (.nil) (.two (.nil) (.two (.ord [(0, []), (2, []), (4, []), (5, []), (1, [2]), (3, []), (6, []), (7, []), (8, []), (9, [])]) (.nil)))))))))
set_option maxRecDepth 100000 in
theorem escrowref13_Fold.sound {a0 a1 a2 a3 a4 : AVal} {G : Heap} {Q : AVal → Heap → Prop} (h : escrowref13_Fold.S a0 a1 a2 a3 a4 G Q) : ACalls P escrowref13_Fold.n [a0, a1, a2, a3, a4] G Q := by
  have e : escrowref13_Fold.S a0 a1 a2 a3 a4 G Q = awp cx (escrowref13_Fold.body) escrowref13_Fold.an (bodyQ T [.cell 10 29, .tmp 11] Q) (envL [a0, a1, a2, a3, a4]) G := by kernel_rfl
  exact ACalls_of_awp cxOk (f := escrowref13_Fold.n) (fn := Try.f11) (c := escrowref13_Fold.body) (an := escrowref13_Fold.an) Try.func11 (by kernel_rfl) (by kernel_rfl) (by kernel_rfl) (drawsOk_of (by kernel_rfl) (by kernel_rfl)) (by simp [Try.f11]) (e ▸ h)

/-! #### escrow/escrowlaw13.kept -/
def escrowlaw13_kept.S (a0 a1 : AVal) (G : Heap) (Q : AVal → Heap → Prop) : Prop :=
  ∀ R1 : List AVal → Heap → Prop,
  (∀ (x3 x4 x5 : AVal) (G2 : Heap), (wv (vlen T G2 t_sl_api_Update x4) fun v6 => wv (vbin T .lss t_int x5 v6) fun v7 => brB (some v7)
  (wv (viaddr T t_sl_api_Update x3 x5) fun v8 => wv (vload T G2 t_api_Update v8) fun v9 => wv (viaddr T t_sl_api_Update x4 x5) fun v10 => wv (vload T G2 t_api_Update v10) fun v11 => wv (vbin T .neq t_api_Update v9 v11) fun v12 => brB (some v12)
  (Q (.bool false) G2)
  (wv (vbin T .add t_int x5 (.int .i64 1)) fun v13 => R1 [x3, x4, v13] G2))
  (wv (vlen T G2 t_sl_api_Update x3) fun v14 => wv (vlen T G2 t_sl_api_Update x4) fun v15 => wv (vbin T .eql t_int v14 v15) fun v16 => brB (some v16)
  (wv (vlen T G2 t_sl_api_Update x4) fun v17 => wv (vbin T .add t_int v17 (.int .i64 1)) fun v18 => wv (vslice T t_sl_api_Update x3 none (some (v18)) none) fun v19 => wv (vlen T G2 t_sl_api_Update x4) fun v20 => wv (viaddr T t_sl_api_Update v19 v20) fun v21 => wv (vload T G2 t_api_Update v21) fun v22 => wv (vbuild T t_api_Update [(0, .int .i64 (-7))]) fun v23 => wv (vbin T .eql t_api_Update v22 v23) fun v24 => Q v24 G2)
  (Q (.bool false) G2))) → R1 [x3, x4, x5] G2) →
  R1 [a0, a1, .int .i64 0] G
def escrowlaw13_kept.an : Ann := .two (.nil) (.two (.two (.nil) (.loop [0, 1, 5] (.two (.nil) (.two (.two (.ord [(0, []), (1, []), (2, []), (3, []), (4, []), (5, []), (6, []), (7, []), (8, [])]) (.nil)) (.nil))))) (.nil))
set_option maxRecDepth 100000 in
theorem escrowlaw13_kept.sound {a0 a1 : AVal} {G : Heap} {Q : AVal → Heap → Prop} (h : escrowlaw13_kept.S a0 a1 G Q) : ACalls P escrowlaw13_kept.n [a0, a1] G Q := by
  have e : escrowlaw13_kept.S a0 a1 G Q = awp cx (escrowlaw13_kept.body) escrowlaw13_kept.an (bodyQ T [.tmp 4] Q) (envL [a0, a1]) G := by kernel_rfl
  exact ACalls_of_awp cxOk (f := escrowlaw13_kept.n) (fn := Try.f13) (c := escrowlaw13_kept.body) (an := escrowlaw13_kept.an) Try.func13 (by kernel_rfl) (by kernel_rfl) (by kernel_rfl) (drawsOk_of (by kernel_rfl) (by kernel_rfl)) (by simp [Try.f13]) (e ▸ h)

/-! #### escrow/escrowlaw13.more -/
def escrowlaw13_more.S (a0 : AVal) (G : Heap) (Q : AVal → Heap → Prop) : Prop :=
  ∀ R1 : List AVal → Heap → Prop,
  (∀ (x3 x4 x5 : AVal) (G2 : Heap), (wv (vlen T G2 t_sl_api_Update x3) fun v6 => wv (vbin T .lss t_int x5 v6) fun v7 => brB (some v7)
  (wv (viaddr T t_sl_api_Update x3 x5) fun v8 => wv (vload T G2 t_api_Update v8) fun v9 => aNew G2 (.own (z_api_Update)) fun i10 G11 => wg (vstore T G11 t_api_Update (.ptr i10 [] 0) v9) fun G12 => wv (vload T G12 t_int64 (.ptr i10 [2] 2)) fun v13 => wv (vbin T .xor t_int64 v13 (.int .i64 1)) fun v14 => wg (vstore T G12 t_int64 (.ptr i10 [2] 2) v14) fun G15 => wv (vload T G15 t_api_Update (.ptr i10 [] 0)) fun v16 => aBuildSlice T t_sl_api_Update 1 [(0, v16)] G15 fun v17 G18 => aAppend T G18 t_sl_api_Update t_sl_api_Update x4 v17 fun v19 G20 => wv (vbin T .add t_int x5 (.int .i64 1)) fun v21 => R1 [x3, v19, v21] G20)
  (Q x4 G2)) → R1 [x3, x4, x5] G2) →
  R1 [a0, .nilSlice, .int .i64 0] G
def escrowlaw13_more.an : Ann := .two (.nil) (.two (.nil) (.two (.two (.nil) (.loop [0, 3, 4] (.nil))) (.nil)))
set_option maxRecDepth 100000 in
theorem escrowlaw13_more.sound {a0 : AVal} {G : Heap} {Q : AVal → Heap → Prop} (h : escrowlaw13_more.S a0 G Q) : ACalls P escrowlaw13_more.n [a0] G Q := by
  have e : escrowlaw13_more.S a0 G Q = awp cx (escrowlaw13_more.body) escrowlaw13_more.an (bodyQ T [.tmp 2] Q) (envL [a0]) G := by kernel_rfl
  exact ACalls_of_awp cxOk (f := escrowlaw13_more.n) (fn := Try.f14) (c := escrowlaw13_more.body) (an := escrowlaw13_more.an) Try.func14 (by kernel_rfl) (by kernel_rfl) (by kernel_rfl) (drawsOk_of (by kernel_rfl) (by kernel_rfl)) (by simp [Try.f14]) (e ▸ h)

/-! #### escrow/escrowlaw13.LedgerFolds -/
def escrowlaw13_LedgerFolds.S (a0 a1 a2 a3 a4 : AVal) (G : Heap) (Q : AVal → Heap → Prop) : Prop :=
  aNew G (.own (a4)) fun i1 G2 => ACalls P escrowlaw13_first.n [] G2 fun v3 G4 => wv (vun .not v3) fun v5 => brB (some v5)
  (Q (.bool false) G4)
  (ACalls P escrowlaw13_lend.n [a2] G4 fun v6 G7 => ACalls P escrowlaw13_lend.n [a3] G7 fun v8 G9 => wv (vload T G9 t_api_Counts (.ptr i1 [] 0)) fun v10 => ACalls P ledger_Fold.n [a0, a1, v6, v8, v10] G9 fun v11 G12 => wv (vextract v11 0) fun v13 => wv (vextract v11 1) fun v14 => aNew G12 (.own (z_api_Ledger)) fun i15 G16 => wg (vstore T G16 t_api_Ledger (.ptr i15 [] 0) v13) fun G17 => wv (vload T G17 t_api_Counts (.ptr i1 [] 0)) fun v18 => ACalls P ledger_Fold.n [a0, a1, v6, v8, v18] G17 fun v19 G20 => wv (vextract v19 0) fun v21 => wv (vextract v19 1) fun v22 => aNew G20 (.own (z_api_Ledger)) fun i23 G24 => wg (vstore T G24 t_api_Ledger (.ptr i23 [] 0) v21) fun G25 => wv (vload T G25 t_api_Counts (.ptr i1 [] 0)) fun v26 => ACalls P escrowref13_Fold.n [a0, a1, a2, a3, v26] G25 fun v27 G28 => wv (vextract v27 0) fun v29 => wv (vextract v27 1) fun v30 => aNew G28 (.own (z_api_Ledger)) fun i31 G32 => wg (vstore T G32 t_api_Ledger (.ptr i31 [] 0) v29) fun G33 => let J129 : AVal → Heap → Prop := (fun x53 G52 => brB (some x53)
  (Q (.bool false) G52)
  (∀ R54 : List AVal → Heap → Prop,
  (∀ (x56 x57 x58 x59 x60 x61 x62 x63 x64 x65 x66 : AVal) (G55 : Heap), (wv (vfaddr T t_api_Ledger x63 2) fun v67 => wv (vload T G55 t_sl_api_Pending v67) fun v68 => wv (vlen T G55 t_sl_api_Pending v68) fun v69 => wv (vbin T .lss t_int x66 v69) fun v70 => brB (some v70)
  (wv (vfaddr T t_api_Ledger x63 2) fun v71 => wv (vload T G55 t_sl_api_Pending v71) fun v72 => wv (vbuild T t_api_Pending [(1, .int .i64 (-1))]) fun v73 => wv (viaddr T t_sl_api_Pending v72 x66) fun v74 => wg (vstore T G55 t_api_Pending v74 v73) fun G75 => wv (vbin T .add t_int x66 (.int .i64 1)) fun v76 => R54 [x56, x57, x58, x59, x60, x61, x62, x63, x64, x65, v76] G75)
  (wv (vfaddr T t_api_Ledger x63 2) fun v77 => wv (vload T G55 t_sl_api_Pending v77) fun v78 => wv (vbuild T t_api_Pending [(1, .int .i64 (-2))]) fun v79 => aBuildSlice T t_sl_api_Pending 1 [(0, v79)] G55 fun v80 G81 => aAppend T G81 t_sl_api_Pending t_sl_api_Pending v78 v80 fun v82 G83 => ACalls P escrowlaw13_more.n [x58] G83 fun v84 G85 => aCopy T G85 t_sl_api_Update x61 v84 fun v86 G87 => ACalls P escrowlaw13_more.n [x59] G87 fun v88 G89 => aCopy T G89 t_sl_api_Update x62 v88 fun v90 G91 => wv (vload T G91 t_api_Counts x60) fun v92 => ACalls P ledger_Fold.n [x56, x57, x61, x62, v92] G91 fun v93 G94 => wv (vextract v93 0) fun v95 => wv (vextract v93 1) fun v96 => aNew G94 (.own (z_api_Ledger)) fun i97 G98 => wg (vstore T G98 t_api_Ledger (.ptr i97 [] 0) v95) fun G99 => wv (vload T G99 t_api_Counts x60) fun v100 => ACalls P escrowlaw13_more.n [x58] G99 fun v101 G102 => (vload T G102 t_api_Counts x60 = some v100 ∧ True) ∧ (ACalls P escrowlaw13_more.n [x59] G102 fun v103 G104 => (vload T G104 t_api_Counts x60 = some v100 ∧ True) ∧ (ACalls P escrowref13_Fold.n [x56, x57, v101, v103, v100] G104 fun v105 G106 => wv (vextract v105 0) fun v107 => wv (vextract v105 1) fun v108 => aNew G106 (.own (z_api_Ledger)) fun i109 G110 => wg (vstore T G110 t_api_Ledger (.ptr i109 [] 0) v107) fun G111 => wv (vlen T G111 t_sl_api_Pending v82) fun v112 => wv (vfaddr T t_api_Ledger x65 2) fun v113 => wv (vload T G111 t_sl_api_Pending v113) fun v114 => wv (vlen T G111 t_sl_api_Pending v114) fun v115 => wv (vbin T .add t_int v115 (.int .i64 1)) fun v116 => wv (vbin T .eql t_int v112 v116) fun v117 => brB (some v117)
  (wv (vload T G111 t_api_Ledger x64) fun v118 => wv (vload T G111 t_api_Ledger x65) fun v119 => ACalls P escrowlaw13_SameLedger.n [v118, v119] G111 fun v120 G121 => brB (some v120)
  (wv (vload T G121 t_api_Ledger (.ptr i97 [] 0)) fun v122 => wv (vload T G121 t_api_Ledger (.ptr i109 [] 0)) fun v123 => ACalls P escrowlaw13_SameLedger.n [v122, v123] G121 fun v124 G125 => brB (some v124)
  (wv (vbin T .eql t_api_Errno v96 v108) fun v126 => Q v126 G125)
  (Q (.bool false) G125))
  (Q (.bool false) G121))
  (Q (.bool false) G111))))) → R54 [x56, x57, x58, x59, x60, x61, x62, x63, x64, x65, x66] G55) →
  R54 [a0, a1, a2, a3, .ptr i1 [] 0, v6, v8, .ptr i15 [] 0, .ptr i23 [] 0, .ptr i31 [] 0, .int .i64 0] G52));
  wv (vload T G33 t_api_Ledger (.ptr i15 [] 0)) fun v34 => wv (vload T G33 t_api_Ledger (.ptr i31 [] 0)) fun v35 => ACalls P escrowlaw13_SameLedger.n [v34, v35] G33 fun v36 G37 => wv (vun .not v36) fun v38 => brB (some v38)
  (J129 (.bool true) G37)
  (wv (vload T G37 t_api_Ledger (.ptr i23 [] 0)) fun v39 => wv (vload T G37 t_api_Ledger (.ptr i31 [] 0)) fun v40 => ACalls P escrowlaw13_SameLedger.n [v39, v40] G37 fun v41 G42 => wv (vun .not v41) fun v43 => brB (some v43)
  (J129 (.bool true) G42)
  (wv (vbin T .neq t_api_Errno v14 v30) fun v44 => brB (some v44)
  (J129 (.bool true) G42)
  (wv (vbin T .neq t_api_Errno v22 v30) fun v45 => brB (some v45)
  (J129 (.bool true) G42)
  (ACalls P escrowlaw13_kept.n [v6, a2] G42 fun v46 G47 => wv (vun .not v46) fun v48 => brB (some v48)
  (J129 (.bool true) G47)
  (ACalls P escrowlaw13_kept.n [v8, a3] G47 fun v49 G50 => wv (vun .not v49) fun v51 => J129 v51 G50))))))
def escrowlaw13_LedgerFolds.an : Ann := .two (.nil) (.two (.nil) (.two (.nil) (.two (.nil) (.two (.nil) (.two (.nil) (.two (.nil) (.two (.two (.nil) (.loop [0, 1, 2, 3, 9, 11, 12, 13, 15, 17, 19] (.nil))) (.two (.nil) (.two (.nil) (.two (.nil) (.two (.nil) (.two (.ord [(0, []), (1, []), (2, []), (4, []), (6, []), (3, [6]), (5, [6]), (7, []), (8, []), (9, []), (10, []), (11, []), (12, []), (13, [])]) (.nil)))))))))))))
set_option maxRecDepth 100000 in
theorem escrowlaw13_LedgerFolds.sound {a0 a1 a2 a3 a4 : AVal} {G : Heap} {Q : AVal → Heap → Prop} (h : escrowlaw13_LedgerFolds.S a0 a1 a2 a3 a4 G Q) : ACalls P escrowlaw13_LedgerFolds.n [a0, a1, a2, a3, a4] G Q := by
  have e : escrowlaw13_LedgerFolds.S a0 a1 a2 a3 a4 G Q = awp cx (escrowlaw13_LedgerFolds.body) escrowlaw13_LedgerFolds.an (bodyQ T [.tmp 10] Q) (envL [a0, a1, a2, a3, a4]) G := by kernel_rfl
  exact ACalls_of_awp cxOk (f := escrowlaw13_LedgerFolds.n) (fn := Try.f3) (c := escrowlaw13_LedgerFolds.body) (an := escrowlaw13_LedgerFolds.an) Try.func3 (by kernel_rfl) (by kernel_rfl) (by kernel_rfl) (drawsOk_of (by kernel_rfl) (by kernel_rfl)) (by simp [Try.f3]) (e ▸ h)

/-! #### escrow/escrowref13.first -/
def escrowref13_first.S (a0 a1 : AVal) (G : Heap) (Q : AVal → Heap → Prop) : Prop :=
  wv (vbin T .lss t_int a1 (.int .i64 0)) fun v1 => brB (some v1)
  (wv (vlen T G t_sl_api_Update a0) fun v12 => wv (vbin T .gtr t_int (.int .i64 0) v12) fun v13 => brB (some v13)
  (wv (vlen T G t_sl_api_Update a0) fun v14 => wv (vslice T t_sl_api_Update a0 none (some (v14)) none) fun v18 => Q v18 G)
  (wv (vslice T t_sl_api_Update a0 none (some (.int .i64 0)) none) fun v19 => Q v19 G))
  (wv (vlen T G t_sl_api_Update a0) fun v20 => wv (vbin T .gtr t_int a1 v20) fun v21 => brB (some v21)
  (wv (vlen T G t_sl_api_Update a0) fun v22 => wv (vslice T t_sl_api_Update a0 none (some (v22)) none) fun v26 => Q v26 G)
  (wv (vslice T t_sl_api_Update a0 none (some (a1)) none) fun v27 => Q v27 G))
def escrowref13_first.an : Ann := .nil
set_option maxRecDepth 100000 in
theorem escrowref13_first.sound {a0 a1 : AVal} {G : Heap} {Q : AVal → Heap → Prop} (h : escrowref13_first.S a0 a1 G Q) : ACalls P escrowref13_first.n [a0, a1] G Q := by
  have e : escrowref13_first.S a0 a1 G Q = awp cx (escrowref13_first.body) escrowref13_first.an (bodyQ T [.tmp 4] Q) (envL [a0, a1]) G := by kernel_rfl
  exact ACalls_of_awp cxOk (f := escrowref13_first.n) (fn := Try.f45) (c := escrowref13_first.body) (an := escrowref13_first.an) Try.func45 (by kernel_rfl) (by kernel_rfl) (by kernel_rfl) (drawsOk_of (by kernel_rfl) (by kernel_rfl)) (by simp [Try.f45]) (e ▸ h)

/-! #### escrow/escrowref13.Spendable -/
def escrowref13_Spendable.S (a0 a1 a2 a3 : AVal) (G : Heap) (Q : AVal → Heap → Prop) : Prop :=
  aNew G (.own (a3)) fun i1 G2 => wv (vload T G2 t_int (.ptr i1 [0] 0)) fun v3 => ACalls P escrowref13_first.n [a1, v3] G2 fun v4 G5 => wv (vload T G5 t_int (.ptr i1 [1] 1)) fun v6 => ACalls P escrowref13_first.n [a2, v6] G5 fun v7 G8 => wv (vbin T .lss t_int64 a0 (.int .i64 0)) fun v9 => brB (some v9)
  (Q (.int .i64 0) G8)
  (wv (vbin T .gtr t_int64 a0 (.int .i64 1152921504606846976)) fun v10 => let J94 : AVal → Heap → Prop := (fun x12 G11 => wv (vbuild T t_escrowref13_Wide []) fun v13 => ACalls P escrowref13_plus.n [v13, x12] G11 fun v14 G15 => aNew G15 (.own (z_escrowref13_Wide)) fun i16 G17 => wg (vstore T G17 t_escrowref13_Wide (.ptr i16 [] 0) v14) fun G18 => ∀ R19 : List AVal → Heap → Prop,
  (∀ (x21 x22 x23 x24 x25 x26 : AVal) (G20 : Heap), (wv (vlen T G20 t_sl_api_Update x21) fun v27 => wv (vbin T .lss t_int x26 v27) fun v28 => brB (some v28)
  (wv (viaddr T t_sl_api_Update x21 x26) fun v29 => wv (vload T G20 t_api_Update v29) fun v30 => aNew G20 (.own (z_api_Update)) fun i31 G32 => wg (vstore T G32 t_api_Update (.ptr i31 [] 0) v30) fun G33 => let J51 : AVal → Heap → Prop := (fun x44 G43 => brB (some x44)
  (wv (vload T G43 t_escrowref13_Wide x25) fun v45 => wv (vload T G43 t_int64 (.ptr i31 [2] 2)) fun v46 => ACalls P escrowref13_minus.n [v45, v46] G43 fun v47 G48 => wg (vstore T G48 t_escrowref13_Wide x25 v47) fun G49 => wv (vbin T .add t_int x26 (.int .i64 1)) fun v54 => R19 [x21, x22, x23, x24, x25, v54] G49)
  (wv (vbin T .add t_int x26 (.int .i64 1)) fun v55 => R19 [x21, x22, x23, x24, x25, v55] G43));
  wv (vload T G33 t_int (.ptr i31 [0] 0)) fun v34 => wv (vbin T .eql t_int v34 (.int .i64 1)) fun v35 => brB (some v35)
  (wv (vload T G33 t_api_Update (.ptr i31 [] 0)) fun v36 => ACalls P escrowref12_Valid.n [v36] G33 fun v37 G38 => brB (some v37)
  (wv (vload T G38 t_int64 (.ptr i31 [1] 1)) fun v39 => ACalls P escrowref13_removed.n [x24, v39] G38 fun v40 G41 => wv (vbin T .neq t_int v40 (.int .i64 3)) fun v42 => J51 v42 G41)
  (J51 (.bool false) G38))
  (J51 (.bool false) G33))
  (∀ R56 : List AVal → Heap → Prop,
  (∀ (x58 x59 x60 x61 : AVal) (G57 : Heap), (wv (vlen T G57 t_sl_api_Update x58) fun v62 => wv (vbin T .lss t_int x61 v62) fun v63 => brB (some v63)
  (wv (viaddr T t_sl_api_Update x58 x61) fun v64 => wv (vload T G57 t_api_Update v64) fun v65 => aNew G57 (.own (z_api_Update)) fun i66 G67 => wg (vstore T G67 t_api_Update (.ptr i66 [] 0) v65) fun G68 => let J86 : AVal → Heap → Prop := (fun x79 G78 => brB (some x79)
  (wv (vload T G78 t_escrowref13_Wide x60) fun v80 => wv (vload T G78 t_int64 (.ptr i66 [2] 2)) fun v81 => ACalls P escrowref13_plus.n [v80, v81] G78 fun v82 G83 => wg (vstore T G83 t_escrowref13_Wide x60 v82) fun G84 => wv (vbin T .add t_int x61 (.int .i64 1)) fun v89 => R56 [x58, x59, x60, v89] G84)
  (wv (vbin T .add t_int x61 (.int .i64 1)) fun v90 => R56 [x58, x59, x60, v90] G78));
  wv (vload T G68 t_int (.ptr i66 [0] 0)) fun v69 => wv (vbin T .eql t_int v69 (.int .i64 1)) fun v70 => brB (some v70)
  (wv (vload T G68 t_api_Update (.ptr i66 [] 0)) fun v71 => ACalls P escrowref12_Valid.n [v71] G68 fun v72 G73 => brB (some v72)
  (wv (vload T G73 t_int64 (.ptr i66 [1] 1)) fun v74 => ACalls P escrowref13_removed.n [x59, v74] G73 fun v75 G76 => wv (vbin T .eql t_int v75 (.int .i64 2)) fun v77 => J86 v77 G76)
  (J86 (.bool false) G73))
  (J86 (.bool false) G68))
  (wv (vload T G57 t_escrowref13_Wide x60) fun v91 => ACalls P escrowref13_cut.n [v91] G57 fun v92 G93 => Q v92 G93)) → R56 [x58, x59, x60, x61] G57) →
  R56 [x22, x23, x25, .int .i64 0] G20)) → R19 [x21, x22, x23, x24, x25, x26] G20) →
  R19 [a1, a2, v4, v7, .ptr i16 [] 0, .int .i64 0] G18);
  brB (some v10)
  (J94 (.int .i64 1152921504606846976) G8)
  (J94 a0 G8))
def escrowref13_Spendable.an : Ann := .two (.nil) (.two (.nil) (.two (.nil) (.two (.nil) (.two (.nil) (.two (.nil) (.two (.two (.nil) (.loop [1, 2, 9, 10, 11, 12] (.nil))) (.two (.two (.nil) (.loop [2, 9, 11, 14] (.nil))) (.nil))))))))
set_option maxRecDepth 100000 in
theorem escrowref13_Spendable.sound {a0 a1 a2 a3 : AVal} {G : Heap} {Q : AVal → Heap → Prop} (h : escrowref13_Spendable.S a0 a1 a2 a3 G Q) : ACalls P escrowref13_Spendable.n [a0, a1, a2, a3] G Q := by
  have e : escrowref13_Spendable.S a0 a1 a2 a3 G Q = awp cx (escrowref13_Spendable.body) escrowref13_Spendable.an (bodyQ T [.tmp 8] Q) (envL [a0, a1, a2, a3]) G := by kernel_rfl
  exact ACalls_of_awp cxOk (f := escrowref13_Spendable.n) (fn := Try.f17) (c := escrowref13_Spendable.body) (an := escrowref13_Spendable.an) Try.func17 (by kernel_rfl) (by kernel_rfl) (by kernel_rfl) (drawsOk_of (by kernel_rfl) (by kernel_rfl)) (by simp [Try.f17]) (e ▸ h)

/-! #### escrow/escrowref13.Open -/
def escrowref13_Open.S (a0 a1 a2 : AVal) (G : Heap) (Q : AVal → Heap → Prop) : Prop :=
  ACalls P escrowref13_first.n [a1, a2] G fun v1 G2 => ∀ R3 : List AVal → Heap → Prop,
  (∀ (x5 x6 x7 x8 : AVal) (G4 : Heap), (wv (vlen T G4 t_sl_api_Update x5) fun v9 => wv (vbin T .lss t_int x8 v9) fun v10 => brB (some v10)
  (let J36 : AVal → Heap → Prop := (fun x34 G33 => wv (vbin T .add t_int x8 (.int .i64 1)) fun v35 => R3 [x5, x6, x34, v35] G33);
  wv (viaddr T t_sl_api_Update x5 x8) fun v11 => wv (vfaddr T t_api_Update v11 0) fun v12 => wv (vload T G4 t_int v12) fun v13 => wv (vbin T .eql t_int v13 (.int .i64 1)) fun v14 => brB (some v14)
  (wv (viaddr T t_sl_api_Update x5 x8) fun v15 => wv (vload T G4 t_api_Update v15) fun v16 => ACalls P escrowref12_Valid.n [v16] G4 fun v17 G18 => brB (some v17)
  (wv (viaddr T t_sl_api_Update x5 x8) fun v19 => wv (vfaddr T t_api_Update v19 1) fun v20 => wv (vload T G18 t_int64 v20) fun v21 => ACalls P escrowref13_removed.n [x6, v21] G18 fun v22 G23 => wv (vbin T .eql t_int v22 (.int .i64 0)) fun v24 => brB (some v24)
  (wv (vbin T .add t_int x7 (.int .i64 1)) fun v30 => J36 v30 G23)
  (J36 x7 G23))
  (J36 x7 G18))
  (J36 x7 G4))
  (Q x7 G4)) → R3 [x5, x6, x7, x8] G4) →
  R3 [a0, v1, .int .i64 0, .int .i64 0] G2
def escrowref13_Open.an : Ann := .two (.nil) (.two (.nil) (.two (.nil) (.two (.two (.nil) (.loop [0, 7, 8, 9] (.nil))) (.nil))))
set_option maxRecDepth 100000 in
theorem escrowref13_Open.sound {a0 a1 a2 : AVal} {G : Heap} {Q : AVal → Heap → Prop} (h : escrowref13_Open.S a0 a1 a2 G Q) : ACalls P escrowref13_Open.n [a0, a1, a2] G Q := by
  have e : escrowref13_Open.S a0 a1 a2 G Q = awp cx (escrowref13_Open.body) escrowref13_Open.an (bodyQ T [.tmp 6] Q) (envL [a0, a1, a2]) G := by kernel_rfl
  exact ACalls_of_awp cxOk (f := escrowref13_Open.n) (fn := Try.f18) (c := escrowref13_Open.body) (an := escrowref13_Open.an) Try.func18 (by kernel_rfl) (by kernel_rfl) (by kernel_rfl) (drawsOk_of (by kernel_rfl) (by kernel_rfl)) (by simp [Try.f18]) (e ▸ h)

/-! #### escrow/escrowlaw13.LedgerSpends -/
def escrowlaw13_LedgerSpends.S (a0 a1 a2 a3 : AVal) (G : Heap) (Q : AVal → Heap → Prop) : Prop :=
  aNew G (.own (a3)) fun i1 G2 => ACalls P escrowlaw13_first.n [] G2 fun v3 G4 => wv (vun .not v3) fun v5 => brB (some v5)
  (Q (.bool false) G4)
  (ACalls P escrowlaw13_lend.n [a1] G4 fun v6 G7 => ACalls P escrowlaw13_lend.n [a2] G7 fun v8 G9 => wv (vload T G9 t_api_Counts (.ptr i1 [] 0)) fun v10 => ACalls P ledger_Spendable.n [a0, v6, v8, v10] G9 fun v11 G12 => wv (vload T G12 t_int (.ptr i1 [1] 1)) fun v13 => ACalls P ledger_Open.n [v6, v8, v13] G12 fun v14 G15 => let J64 : AVal → Heap → Prop := (fun x31 G30 => brB (some x31)
  (Q (.bool false) G30)
  (ACalls P escrowlaw13_more.n [a1] G30 fun v32 G33 => aCopy T G33 t_sl_api_Update v6 v32 fun v34 G35 => ACalls P escrowlaw13_more.n [a2] G35 fun v36 G37 => aCopy T G37 t_sl_api_Update v8 v36 fun v38 G39 => wv (vload T G39 t_api_Counts (.ptr i1 [] 0)) fun v40 => ACalls P ledger_Spendable.n [a0, v6, v8, v40] G39 fun v41 G42 => wv (vload T G42 t_int (.ptr i1 [1] 1)) fun v43 => ACalls P ledger_Open.n [v6, v8, v43] G42 fun v44 G45 => wv (vload T G45 t_api_Counts (.ptr i1 [] 0)) fun v46 => ACalls P escrowlaw13_more.n [a1] G45 fun v47 G48 => (vload T G48 t_api_Counts (.ptr i1 [] 0) = some v46 ∧ True) ∧ (ACalls P escrowlaw13_more.n [a2] G48 fun v49 G50 => (vload T G50 t_api_Counts (.ptr i1 [] 0) = some v46 ∧ True) ∧ (ACalls P escrowref13_Spendable.n [a0, v47, v49, v46] G50 fun v51 G52 => wv (vbin T .eql t_int64 v41 v51) fun v53 => brB (some v53)
  (wv (vload T G52 t_int (.ptr i1 [1] 1)) fun v54 => ACalls P escrowlaw13_more.n [a1] G52 fun v55 G56 => (vload T G56 t_int (.ptr i1 [1] 1) = some v54 ∧ True) ∧ (ACalls P escrowlaw13_more.n [a2] G56 fun v57 G58 => (vload T G58 t_int (.ptr i1 [1] 1) = some v54 ∧ True) ∧ (ACalls P escrowref13_Open.n [v55, v57, v54] G58 fun v59 G60 => wv (vbin T .eql t_int v44 v59) fun v61 => Q v61 G60)))
  (Q (.bool false) G52)))));
  wv (vload T G15 t_api_Counts (.ptr i1 [] 0)) fun v16 => ACalls P escrowref13_Spendable.n [a0, a1, a2, v16] G15 fun v17 G18 => wv (vbin T .neq t_int64 v11 v17) fun v19 => brB (some v19)
  (J64 (.bool true) G18)
  (wv (vload T G18 t_int (.ptr i1 [1] 1)) fun v20 => ACalls P escrowref13_Open.n [a1, a2, v20] G18 fun v21 G22 => wv (vbin T .neq t_int v14 v21) fun v23 => brB (some v23)
  (J64 (.bool true) G22)
  (ACalls P escrowlaw13_kept.n [v6, a1] G22 fun v24 G25 => wv (vun .not v24) fun v26 => brB (some v26)
  (J64 (.bool true) G25)
  (ACalls P escrowlaw13_kept.n [v8, a2] G25 fun v27 G28 => wv (vun .not v27) fun v29 => J64 v29 G28))))
def escrowlaw13_LedgerSpends.an : Ann := .two (.nil) (.two (.nil) (.two (.nil) (.two (.nil) (.two (.nil) (.two (.nil) (.two (.nil) (.two (.nil) (.two (.nil) (.two (.nil) (.two (.ord [(0, []), (1, []), (2, []), (4, []), (6, []), (3, [6]), (5, [6]), (7, []), (8, []), (9, []), (10, []), (11, []), (13, []), (15, []), (16, []), (12, [16]), (14, [16]), (17, []), (18, []), (19, []), (20, [])]) (.nil)))))))))))
set_option maxRecDepth 100000 in
theorem escrowlaw13_LedgerSpends.sound {a0 a1 a2 a3 : AVal} {G : Heap} {Q : AVal → Heap → Prop} (h : escrowlaw13_LedgerSpends.S a0 a1 a2 a3 G Q) : ACalls P escrowlaw13_LedgerSpends.n [a0, a1, a2, a3] G Q := by
  have e : escrowlaw13_LedgerSpends.S a0 a1 a2 a3 G Q = awp cx (escrowlaw13_LedgerSpends.body) escrowlaw13_LedgerSpends.an (bodyQ T [.tmp 8] Q) (envL [a0, a1, a2, a3]) G := by kernel_rfl
  exact ACalls_of_awp cxOk (f := escrowlaw13_LedgerSpends.n) (fn := Try.f4) (c := escrowlaw13_LedgerSpends.body) (an := escrowlaw13_LedgerSpends.an) Try.func4 (by kernel_rfl) (by kernel_rfl) (by kernel_rfl) (drawsOk_of (by kernel_rfl) (by kernel_rfl)) (by simp [Try.f4]) (e ▸ h)

/-! #### escrow/escrowlaw13.bases -/
def escrowlaw13_bases.S (a0 a1 : AVal) (G : Heap) (Q : AVal → Heap → Prop) : Prop :=
  wv (vbin T .and t_int64 a0 (.int .i64 576460752303423487)) fun v1 => wv (vbin T .and t_int64 a1 (.int .i64 576460752303423487)) fun v2 => Q (.tuple [v1, v2]) G
def escrowlaw13_bases.an : Ann := .nil
set_option maxRecDepth 100000 in
theorem escrowlaw13_bases.sound {a0 a1 : AVal} {G : Heap} {Q : AVal → Heap → Prop} (h : escrowlaw13_bases.S a0 a1 G Q) : ACalls P escrowlaw13_bases.n [a0, a1] G Q := by
  have e : escrowlaw13_bases.S a0 a1 G Q = awp cx (escrowlaw13_bases.body) escrowlaw13_bases.an (bodyQ T [.tmp 4, .tmp 5] Q) (envL [a0, a1]) G := by kernel_rfl
  exact ACalls_of_awp cxOk (f := escrowlaw13_bases.n) (fn := Try.f19) (c := escrowlaw13_bases.body) (an := escrowlaw13_bases.an) Try.func19 (by kernel_rfl) (by kernel_rfl) (by kernel_rfl) (drawsOk_of (by kernel_rfl) (by kernel_rfl)) (by simp [Try.f19]) (e ▸ h)

end Go.Esc.M
