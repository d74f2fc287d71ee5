/- Printed by gen.py (own work): functions of the program YtgpogcmcaknjiaaGreatDoor over trees and the abstract heap. -/
import Derived.Test.YtgpogcmcaknjiaaGreatDoorT
set_option linter.unusedSimpArgs false
set_option linter.unusedVariables false
namespace Go.Esc.M
open Go Go.Esc Go.Proofs

/-! #### escrow/escrowref09.Secret -/
def escrowref09_Secret.S (a0 a1 : AVal) (G : Heap) (Q : AVal → Heap → Prop) : Prop :=
  aNew G (.own (a0)) fun i1 G2 => aNew G2 (.own (z_api_Hash)) fun i3 G4 => ACalls P escrowref09_good.n [a1] G4 fun v5 G6 => wv (vun .not v5) fun v7 => brB (some v7)
  (wv (vbuild T t_api_Hash []) fun v8 => wg (vstore T G6 t_api_Hash (.ptr i3 [] 0) v8) fun G9 => wv (vload T G9 t_api_Hash (.ptr i3 [] 0)) fun v10 => Q (.tuple [v10, .int .i64 90]) G9)
  (wv (vload T G6 t_api_Hash (.ptr i1 [] 0)) fun v11 => ACalls P escrowref09_Place.n [a1] G6 fun v12 G13 => (vload T G13 t_api_Hash (.ptr i1 [] 0) = some v11 ∧ True) ∧ (ACalls P escrowref09_down.n [v11, v12, .int .i64 48] G13 fun v14 G15 => wg (vstore T G15 t_api_Hash (.ptr i3 [] 0) v14) fun G16 => wv (vload T G16 t_api_Hash (.ptr i3 [] 0)) fun v17 => Q (.tuple [v17, .int .i64 0]) G16))
def escrowref09_Secret.an : Ann := .two (.nil) (.two (.nil) (.two (.ord [(0, []), (1, []), (2, [0]), (3, []), (4, []), (5, [])]) (.nil)))
set_option maxRecDepth 100000 in
theorem escrowref09_Secret.sound {a0 a1 : AVal} {G : Heap} {Q : AVal → Heap → Prop} (h : escrowref09_Secret.S a0 a1 G Q) : ACalls P escrowref09_Secret.n [a0, a1] G Q := by
  have e : escrowref09_Secret.S a0 a1 G Q = awp cx (escrowref09_Secret.body) escrowref09_Secret.an (bodyQ T [.cell 4 23, .tmp 5] Q) (envL [a0, a1]) G := by kernel_rfl
  exact ACalls_of_awp cxOk (f := escrowref09_Secret.n) (fn := Tryz.f111) (c := escrowref09_Secret.body) (an := escrowref09_Secret.an) Tryz.func111 (by kernel_rfl) (by kernel_rfl) (by kernel_rfl) (drawsOk_of (by kernel_rfl) (by kernel_rfl)) (by simp [Tryz.f111]) (e ▸ h)

/-! #### escrow/escrowlaw15.Point -/
def escrowlaw15_Point.S (a0 a1 : AVal) (G : Heap) (Q : AVal → Heap → Prop) : Prop :=
  aNew G (.own (a0)) fun i1 G2 => aNew G2 (.own (z_api_Hash)) fun i3 G4 => wv (vload T G4 t_api_Hash (.ptr i1 [] 0)) fun v5 => ACalls P escrowref09_Secret.n [v5, a1] G4 fun v6 G7 => wv (vextract v6 0) fun v8 => wv (vextract v6 1) fun v9 => aNew G7 (.own (z_api_Hash)) fun i10 G11 => wg (vstore T G11 t_api_Hash (.ptr i10 [] 0) v8) fun G12 => wv (vload T G12 t_api_Hash (.ptr i10 [] 0)) fun v13 => ACalls P escrowref09_Point.n [v13] G12 fun v14 G15 => wg (vstore T G15 t_api_Hash (.ptr i3 [] 0) v14) fun G16 => wv (vload T G16 t_api_Hash (.ptr i3 [] 0)) fun v17 => Q v17 G16
def escrowlaw15_Point.an : Ann := .nil
set_option maxRecDepth 100000 in
theorem escrowlaw15_Point.sound {a0 a1 : AVal} {G : Heap} {Q : AVal → Heap → Prop} (h : escrowlaw15_Point.S a0 a1 G Q) : ACalls P escrowlaw15_Point.n [a0, a1] G Q := by
  have e : escrowlaw15_Point.S a0 a1 G Q = awp cx (escrowlaw15_Point.body) escrowlaw15_Point.an (bodyQ T [.cell 4 23] Q) (envL [a0, a1]) G := by kernel_rfl
  exact ACalls_of_awp cxOk (f := escrowlaw15_Point.n) (fn := Tryz.f56) (c := escrowlaw15_Point.body) (an := escrowlaw15_Point.an) Tryz.func56 (by kernel_rfl) (by kernel_rfl) (by kernel_rfl) (drawsOk_of (by kernel_rfl) (by kernel_rfl)) (by simp [Tryz.f56]) (e ▸ h)

/-! #### escrow/escrowlaw15.Configs -/
def escrowlaw15_Configs.S (a0 : AVal) (G : Heap) (Q : AVal → Heap → Prop) : Prop :=
  aNew G (.own (a0)) fun i1 G2 => aNew G2 (.own (z_ar2_api_Config)) fun i3 G4 => aNew G4 (.own (z_ar2_api_Config)) fun i5 G6 => ∀ R7 : List AVal → Heap → Prop,
  (∀ (x9 x10 x11 x12 : AVal) (G8 : Heap), (wv (vbin T .lss t_int x12 (.int .i64 2)) fun v13 => brB (some v13)
  (wv (vfaddr T t_escrowlaw15_Deal x9 1) fun v14 => wv (vload T G8 t_int64 v14) fun v15 => wv (vbin T .eql t_int x12 (.int .i64 1)) fun v16 => let J52 : AVal → Heap → Prop := (fun x23 G22 => wv (vfaddr T t_escrowlaw15_Deal x9 0) fun v24 => wv (vload T G22 t_int64 v24) fun v25 => wv (vfaddr T t_escrowlaw15_Deal x9 2) fun v26 => wv (viaddr T t_ar2_api_Hash v26 x12) fun v27 => wv (vload T G22 t_api_Hash v27) fun v28 => wv (vfaddr T t_escrowlaw15_Deal x9 3) fun v29 => wv (viaddr T t_ar2_api_Hash v29 x12) fun v30 => wv (vload T G22 t_api_Hash v30) fun v31 => wv (vbin T .sub t_int (.int .i64 1) x12) fun v32 => wv (vfaddr T t_escrowlaw15_Deal x9 3) fun v33 => wv (viaddr T t_ar2_api_Hash v33 v32) fun v34 => wv (vload T G22 t_api_Hash v34) fun v35 => wv (vbin T .sub t_int (.int .i64 1) x12) fun v36 => wv (vfaddr T t_escrowlaw15_Deal x9 2) fun v37 => wv (viaddr T t_ar2_api_Hash v37 v36) fun v38 => wv (vload T G22 t_api_Hash v38) fun v39 => wv (vbin T .sub t_int (.int .i64 1) x12) fun v40 => wv (vfaddr T t_escrowlaw15_Deal x9 2) fun v41 => wv (viaddr T t_ar2_api_Hash v41 v40) fun v42 => wv (vload T G22 t_api_Hash v42) fun v43 => ACalls P escrowlaw15_Point.n [v39, .int .i64 0] G22 fun v44 G45 => (vload T G45 t_api_Hash v42 = some v43 ∧ vload T G45 t_api_Hash v34 = some v35 ∧ vload T G45 t_api_Hash v30 = some v31 ∧ vload T G45 t_api_Hash v27 = some v28 ∧ vload T G45 t_int64 v24 = some v25 ∧ True) ∧ (ACalls P escrowlaw15_Point.n [v43, .int .i64 1] G45 fun v46 G47 => (vload T G47 t_api_Hash v34 = some v35 ∧ vload T G47 t_api_Hash v30 = some v31 ∧ vload T G47 t_api_Hash v27 = some v28 ∧ vload T G47 t_int64 v24 = some v25 ∧ True) ∧ (wv (vbuild T t_ar2_api_Hash [(0, v44), (1, v46)]) fun v48 => wv (vbuild T t_api_Config [(0, x12), (1, v25), (2, x23), (3, v28), (4, v31), (5, v35), (6, v48), (7, .int .i64 4096)]) fun v49 => wv (viaddr T t_ar2_api_Config x11 x12) fun v50 => wg (vstore T G47 t_api_Config v50 v49) fun G51 => wv (vbin T .add t_int x12 (.int .i64 1)) fun v53 => R7 [x9, x10, x11, v53] G51)));
  brB (some v16)
  (wv (vfaddr T t_escrowlaw15_Deal x9 0) fun v17 => wv (vload T G8 t_int64 v17) fun v18 => wv (vfaddr T t_escrowlaw15_Deal x9 1) fun v19 => wv (vload T G8 t_int64 v19) fun v20 => wv (vbin T .sub t_int64 v18 v20) fun v21 => J52 v21 G8)
  (J52 v15 G8))
  (wv (vload T G8 t_ar2_api_Config x11) fun v54 => wg (vstore T G8 t_ar2_api_Config x10 v54) fun G55 => wv (vload T G55 t_ar2_api_Config x10) fun v56 => Q v56 G55)) → R7 [x9, x10, x11, x12] G8) →
  R7 [.ptr i1 [] 0, .ptr i3 [] 0, .ptr i5 [] 0, .int .i64 0] G6
def escrowlaw15_Configs.an : Ann := .two (.nil) (.two (.nil) (.two (.two (.nil) (.loop [1, 2, 3, 4] (.two (.nil) (.two (.two (.nil) (.two (.nil) (.ord [(0, []), (1, []), (2, []), (3, []), (4, []), (5, []), (6, []), (7, []), (8, []), (9, []), (10, []), (11, []), (12, []), (13, []), (14, []), (15, []), (16, []), (17, []), (18, []), (19, []), (20, []), (21, []), (22, []), (24, []), (25, []), (26, []), (27, []), (28, []), (23, [3, 8, 12, 17, 28]), (29, [3, 8, 12, 17]), (30, []), (31, []), (32, []), (33, [])]))) (.nil))))) (.nil)))
set_option maxRecDepth 100000 in
theorem escrowlaw15_Configs.sound {a0 : AVal} {G : Heap} {Q : AVal → Heap → Prop} (h : escrowlaw15_Configs.S a0 G Q) : ACalls P escrowlaw15_Configs.n [a0] G Q := by
  have e : escrowlaw15_Configs.S a0 G Q = awp cx (escrowlaw15_Configs.body) escrowlaw15_Configs.an (bodyQ T [.cell 2 34] Q) (envL [a0]) G := by kernel_rfl
  exact ACalls_of_awp cxOk (f := escrowlaw15_Configs.n) (fn := Tryz.f23) (c := escrowlaw15_Configs.body) (an := escrowlaw15_Configs.an) Tryz.func23 (by kernel_rfl) (by kernel_rfl) (by kernel_rfl) (drawsOk_of (by kernel_rfl) (by kernel_rfl)) (by simp [Tryz.f23]) (e ▸ h)

/-! #### escrow/amount.Right -/
def amount_Right.S (a0 : AVal) (G : Heap) (Q : AVal → Heap → Prop) : Prop :=
  wv (vbin T .geq t_int64 a0 (.int .i64 0)) fun v1 => brB (some v1)
  (wv (vbin T .leq t_int64 a0 (.int .i64 1152921504606846976)) fun v2 => Q v2 G)
  (Q (.bool false) G)
def amount_Right.an : Ann := .nil
set_option maxRecDepth 100000 in
theorem amount_Right.sound {a0 : AVal} {G : Heap} {Q : AVal → Heap → Prop} (h : amount_Right.S a0 G Q) : ACalls P amount_Right.n [a0] G Q := by
  have e : amount_Right.S a0 G Q = awp cx (amount_Right.body) amount_Right.an (bodyQ T [.tmp 2] Q) (envL [a0]) G := by kernel_rfl
  exact ACalls_of_awp cxOk (f := amount_Right.n) (fn := Tryz.f57) (c := amount_Right.body) (an := amount_Right.an) Tryz.func57 (by kernel_rfl) (by kernel_rfl) (by kernel_rfl) (drawsOk_of (by kernel_rfl) (by kernel_rfl)) (by simp [Tryz.f57]) (e ▸ h)

/-! #### escrow/dance.Start -/
def dance_Start.S (a0 : AVal) (G : Heap) (Q : AVal → Heap → Prop) : Prop :=
  aNew G (.own (a0)) fun i1 G2 => aNew G2 (.own (z_api_State)) fun i3 G4 => let J35 : AVal → Heap → Prop := (fun x21 G20 => brB (some x21)
  (wv (vbuild T t_api_State []) fun v22 => wg (vstore T G20 t_api_State (.ptr i3 [] 0) v22) fun G23 => wv (vload T G23 t_api_State (.ptr i3 [] 0)) fun v24 => Q (.tuple [v24, .int .i64 1]) G23)
  (wv (vload T G20 t_int (.ptr i1 [0] 0)) fun v25 => wv (vload T G20 t_int64 (.ptr i1 [1] 1)) fun v26 => wv (vload T G20 t_int64 (.ptr i1 [2] 2)) fun v27 => wv (vload T G20 t_int64 (.ptr i1 [1] 1)) fun v28 => wv (vload T G20 t_int64 (.ptr i1 [2] 2)) fun v29 => wv (vbin T .sub t_int64 v28 v29) fun v30 => wv (vload T G20 t_ar2_api_Hash (.ptr i1 [6] 99)) fun v31 => wv (vbuild T t_api_State [(0, v25), (1, v26), (2, v27), (3, v30), (13, v31), (17, .int .i64 (-1))]) fun v32 => wg (vstore T G20 t_api_State (.ptr i3 [] 0) v32) fun G33 => wv (vload T G33 t_api_State (.ptr i3 [] 0)) fun v34 => Q (.tuple [v34, .int .i64 0]) G33));
  wv (vload T G4 t_int (.ptr i1 [0] 0)) fun v5 => wv (vbin T .lss t_int v5 (.int .i64 0)) fun v6 => brB (some v6)
  (J35 (.bool true) G4)
  (wv (vload T G4 t_int (.ptr i1 [0] 0)) fun v7 => wv (vbin T .gtr t_int v7 (.int .i64 1)) fun v8 => brB (some v8)
  (J35 (.bool true) G4)
  (wv (vload T G4 t_int64 (.ptr i1 [1] 1)) fun v9 => wv (vbin T .lss t_int64 v9 (.int .i64 1)) fun v10 => brB (some v10)
  (J35 (.bool true) G4)
  (wv (vload T G4 t_int64 (.ptr i1 [1] 1)) fun v11 => ACalls P amount_Right.n [v11] G4 fun v12 G13 => wv (vun .not v12) fun v14 => brB (some v14)
  (J35 (.bool true) G13)
  (wv (vload T G13 t_int64 (.ptr i1 [2] 2)) fun v15 => wv (vbin T .lss t_int64 v15 (.int .i64 0)) fun v16 => brB (some v16)
  (J35 (.bool true) G13)
  (wv (vload T G13 t_int64 (.ptr i1 [2] 2)) fun v17 => wv (vload T G13 t_int64 (.ptr i1 [1] 1)) fun v18 => wv (vbin T .gtr t_int64 v17 v18) fun v19 => J35 v19 G13)))))
def dance_Start.an : Ann := .nil
set_option maxRecDepth 100000 in
theorem dance_Start.sound {a0 : AVal} {G : Heap} {Q : AVal → Heap → Prop} (h : dance_Start.S a0 G Q) : ACalls P dance_Start.n [a0] G Q := by
  have e : dance_Start.S a0 G Q = awp cx (dance_Start.body) dance_Start.an (bodyQ T [.cell 2 40, .tmp 3] Q) (envL [a0]) G := by kernel_rfl
  exact ACalls_of_awp cxOk (f := dance_Start.n) (fn := Tryz.f24) (c := dance_Start.body) (an := dance_Start.an) Tryz.func24 (by kernel_rfl) (by kernel_rfl) (by kernel_rfl) (drawsOk_of (by kernel_rfl) (by kernel_rfl)) (by simp [Tryz.f24]) (e ▸ h)

/-! #### escrow/dance.turned -/
def dance_turned.S (a0 : AVal) (G : Heap) (Q : AVal → Heap → Prop) : Prop :=
  aNew G (.own (a0)) fun i1 G2 => aNew G2 (.own (z_api_Counts)) fun i3 G4 => wv (vload T G4 t_int (.ptr i1 [1] 1)) fun v5 => wv (vload T G4 t_int (.ptr i1 [0] 0)) fun v6 => wv (vbuild T t_api_Counts [(0, v5), (1, v6)]) fun v7 => wg (vstore T G4 t_api_Counts (.ptr i3 [] 0) v7) fun G8 => wv (vload T G8 t_api_Counts (.ptr i3 [] 0)) fun v9 => Q v9 G8
def dance_turned.an : Ann := .nil
set_option maxRecDepth 100000 in
theorem dance_turned.sound {a0 : AVal} {G : Heap} {Q : AVal → Heap → Prop} (h : dance_turned.S a0 G Q) : ACalls P dance_turned.n [a0] G Q := by
  have e : dance_turned.S a0 G Q = awp cx (dance_turned.body) dance_turned.an (bodyQ T [.cell 2 37] Q) (envL [a0]) G := by kernel_rfl
  exact ACalls_of_awp cxOk (f := dance_turned.n) (fn := Tryz.f72) (c := dance_turned.body) (an := dance_turned.an) Tryz.func72 (by kernel_rfl) (by kernel_rfl) (by kernel_rfl) (drawsOk_of (by kernel_rfl) (by kernel_rfl)) (by simp [Tryz.f72]) (e ▸ h)

/-! #### escrow/dance.PeerSpendable -/
def dance_PeerSpendable.S (a0 : AVal) (G : Heap) (Q : AVal → Heap → Prop) : Prop :=
  aNew G (.own (a0)) fun i1 G2 => wv (vload T G2 t_int64 (.ptr i1 [3] 3)) fun v3 => wv (vload T G2 t_sl_api_Update (.ptr i1 [5] 5)) fun v4 => wv (vload T G2 t_sl_api_Update (.ptr i1 [4] 4)) fun v5 => wv (vload T G2 t_api_State (.ptr i1 [] 0)) fun v6 => ACalls P dance_Fixed.n [v6] G2 fun v7 G8 => (vload T G8 t_sl_api_Update (.ptr i1 [4] 4) = some v5 ∧ vload T G8 t_sl_api_Update (.ptr i1 [5] 5) = some v4 ∧ vload T G8 t_int64 (.ptr i1 [3] 3) = some v3 ∧ True) ∧ (ACalls P dance_turned.n [v7] G8 fun v9 G10 => (vload T G10 t_sl_api_Update (.ptr i1 [4] 4) = some v5 ∧ vload T G10 t_sl_api_Update (.ptr i1 [5] 5) = some v4 ∧ vload T G10 t_int64 (.ptr i1 [3] 3) = some v3 ∧ True) ∧ (ACalls P ledger_Spendable.n [v3, v4, v5, v9] G10 fun v11 G12 => Q v11 G12))
def dance_PeerSpendable.an : Ann := .two (.nil) (.two (.ord [(0, []), (1, []), (2, []), (3, []), (4, []), (5, []), (6, []), (7, [1, 3, 5]), (8, [1, 3, 5]), (9, []), (10, [])]) (.nil))
set_option maxRecDepth 100000 in
theorem dance_PeerSpendable.sound {a0 : AVal} {G : Heap} {Q : AVal → Heap → Prop} (h : dance_PeerSpendable.S a0 G Q) : ACalls P dance_PeerSpendable.n [a0] G Q := by
  have e : dance_PeerSpendable.S a0 G Q = awp cx (dance_PeerSpendable.body) dance_PeerSpendable.an (bodyQ T [.tmp 2] Q) (envL [a0]) G := by kernel_rfl
  exact ACalls_of_awp cxOk (f := dance_PeerSpendable.n) (fn := Tryz.f31) (c := dance_PeerSpendable.body) (an := dance_PeerSpendable.an) Tryz.func31 (by kernel_rfl) (by kernel_rfl) (by kernel_rfl) (drawsOk_of (by kernel_rfl) (by kernel_rfl)) (by simp [Tryz.f31]) (e ▸ h)

/-! #### escrow/dance.Sign -/
def dance_Sign.S (a0 a1 : AVal) (G : Heap) (Q : AVal → Heap → Prop) : Prop :=
  aNew G (.own (a0)) fun i1 G2 => aNew G2 (.own (a1)) fun i3 G4 => aNew G4 (.own (z_api_Record)) fun i5 G6 => wv (vload T G6 t_sl_api_Update (.ptr i3 [4] 4)) fun v7 => wv (vlen T G6 t_sl_api_Update v7) fun v8 => wv (vload T G6 t_int (.ptr i3 [9, 1] 10)) fun v9 => wv (vbuild T t_api_Counts [(0, v8), (1, v9)]) fun v10 => aNew G6 (.own (z_api_Counts)) fun i11 G12 => wg (vstore T G12 t_api_Counts (.ptr i11 [] 0) v10) fun G13 => wv (vload T G13 t_api_State (.ptr i3 [] 0)) fun v14 => ACalls P dance_dead.n [v14] G13 fun v15 G16 => brB (some v15)
  (wv (vbuild T t_api_Record []) fun v17 => wg (vstore T G16 t_api_Record (.ptr i5 [] 0) v17) fun G18 => wv (vload T G18 t_api_Record (.ptr i5 [] 0)) fun v19 => Q (.tuple [v19, .int .i64 220]) G18)
  (let J36 : AVal → Heap → Prop := (fun x27 G26 => brB (some x27)
  (wv (vbuild T t_api_Record []) fun v28 => wg (vstore T G26 t_api_Record (.ptr i5 [] 0) v28) fun G29 => wv (vload T G29 t_api_Record (.ptr i5 [] 0)) fun v30 => Q (.tuple [v30, .int .i64 8]) G29)
  (wv (vload T G26 t_int64 (.ptr i3 [7] 7)) fun v31 => wv (vbin T .gtr t_int64 v31 (.int .i64 281474976710653)) fun v32 => brB (some v32)
  (wv (vbuild T t_api_Record []) fun v33 => wg (vstore T G26 t_api_Record (.ptr i5 [] 0) v33) fun G34 => wv (vload T G34 t_api_Record (.ptr i5 [] 0)) fun v35 => Q (.tuple [v35, .int .i64 90]) G34)
  (wv (vload T G26 t_int64 (.ptr i3 [7] 7)) fun v37 => wv (vbin T .add t_int64 v37 (.int .i64 1)) fun v38 => wv (vload T G26 t_api_Counts (.ptr i11 [] 0)) fun v39 => wv (vbuild T t_api_Record [(0, .int .i64 2), (3, v38), (4, v39)]) fun v40 => wg (vstore T G26 t_api_Record (.ptr i5 [] 0) v40) fun G41 => wv (vload T G41 t_api_Record (.ptr i5 [] 0)) fun v42 => Q (.tuple [v42, .int .i64 0]) G41)));
  wv (vload T G16 t_int64 (.ptr i3 [7] 7)) fun v20 => wv (vload T G16 t_int64 (.ptr i3 [8] 8)) fun v21 => wv (vbin T .neq t_int64 v20 v21) fun v22 => brB (some v22)
  (J36 (.bool true) G16)
  (wv (vload T G16 t_api_Counts (.ptr i11 [] 0)) fun v23 => wv (vload T G16 t_api_Counts (.ptr i3 [10] 11)) fun v24 => wv (vbin T .eql t_api_Counts v23 v24) fun v25 => J36 v25 G16))
def dance_Sign.an : Ann := .nil
set_option maxRecDepth 100000 in
theorem dance_Sign.sound {a0 a1 : AVal} {G : Heap} {Q : AVal → Heap → Prop} (h : dance_Sign.S a0 a1 G Q) : ACalls P dance_Sign.n [a0, a1] G Q := by
  have e : dance_Sign.S a0 a1 G Q = awp cx (dance_Sign.body) dance_Sign.an (bodyQ T [.cell 4 55, .tmp 5] Q) (envL [a0, a1]) G := by kernel_rfl
  exact ACalls_of_awp cxOk (f := dance_Sign.n) (fn := Tryz.f32) (c := dance_Sign.body) (an := dance_Sign.an) Tryz.func32 (by kernel_rfl) (by kernel_rfl) (by kernel_rfl) (drawsOk_of (by kernel_rfl) (by kernel_rfl)) (by simp [Tryz.f32]) (e ▸ h)

/-! #### escrow/dance.first -/
def dance_first.S (a0 a1 : AVal) (G : Heap) (Q : AVal → Heap → Prop) : Prop :=
  wv (vmax2 a1 (.int .i64 0)) fun v1 => wv (vlen T G t_sl_api_Update a0) fun v2 => wv (vmin2 v1 v2) fun v3 => wv (vslice T t_sl_api_Update a0 none (some (v3)) none) fun v4 => Q v4 G
def dance_first.an : Ann := .nil
set_option maxRecDepth 100000 in
theorem dance_first.sound {a0 a1 : AVal} {G : Heap} {Q : AVal → Heap → Prop} (h : dance_first.S a0 a1 G Q) : ACalls P dance_first.n [a0, a1] G Q := by
  have e : dance_first.S a0 a1 G Q = awp cx (dance_first.body) dance_first.an (bodyQ T [.tmp 4] Q) (envL [a0, a1]) G := by kernel_rfl
  exact ACalls_of_awp cxOk (f := dance_first.n) (fn := Tryz.f78) (c := dance_first.body) (an := dance_first.an) Tryz.func78 (by kernel_rfl) (by kernel_rfl) (by kernel_rfl) (drawsOk_of (by kernel_rfl) (by kernel_rfl)) (by simp [Tryz.f78]) (e ▸ h)

/-! #### escrow/amount.Plus -/
def amount_Plus.S (a0 a1 : AVal) (G : Heap) (Q : AVal → Heap → Prop) : Prop :=
  ACalls P amount_Right.n [a0] G fun v1 G2 => wv (vun .not v1) fun v3 => brB (some v3)
  (Q (.tuple [.int .i64 0, .int .i64 80]) G2)
  (ACalls P amount_Right.n [a1] G2 fun v4 G5 => wv (vun .not v4) fun v6 => brB (some v6)
  (Q (.tuple [.int .i64 0, .int .i64 80]) G5)
  (wv (vbin T .add t_int64 a0 a1) fun v7 => ACalls P amount_Right.n [v7] G5 fun v8 G9 => wv (vun .not v8) fun v10 => brB (some v10)
  (Q (.tuple [.int .i64 0, .int .i64 80]) G9)
  (wv (vbin T .add t_int64 a0 a1) fun v14 => Q (.tuple [v14, .int .i64 0]) G9)))
def amount_Plus.an : Ann := .nil
set_option maxRecDepth 100000 in
theorem amount_Plus.sound {a0 a1 : AVal} {G : Heap} {Q : AVal → Heap → Prop} (h : amount_Plus.S a0 a1 G Q) : ACalls P amount_Plus.n [a0, a1] G Q := by
  have e : amount_Plus.S a0 a1 G Q = awp cx (amount_Plus.body) amount_Plus.an (bodyQ T [.tmp 4, .tmp 5] Q) (envL [a0, a1]) G := by kernel_rfl
  exact ACalls_of_awp cxOk (f := amount_Plus.n) (fn := Tryz.f151) (c := amount_Plus.body) (an := amount_Plus.an) Tryz.func151 (by kernel_rfl) (by kernel_rfl) (by kernel_rfl) (drawsOk_of (by kernel_rfl) (by kernel_rfl)) (by simp [Tryz.f151]) (e ▸ h)

/-! #### escrow/amount.Sum -/
def amount_Sum.S (a0 : AVal) (G : Heap) (Q : AVal → Heap → Prop) : Prop :=
  wv (vlen T G t_sl_int64 a0) fun v1 => ∀ R2 : List AVal → Heap → Prop,
  (∀ (x4 x5 x6 x7 : AVal) (G3 : Heap), (wv (vbin T .lss t_int x7 x6) fun v8 => brB (some v8)
  (wv (viaddr T t_sl_int64 x5 x7) fun v9 => wv (vload T G3 t_int64 v9) fun v10 => ACalls P amount_Plus.n [x4, v10] G3 fun v11 G12 => wv (vextract v11 0) fun v13 => wv (vextract v11 1) fun v14 => wv (vbin T .neq t_api_Errno v14 (.int .i64 0)) fun v15 => brB (some v15)
  (Q (.tuple [.int .i64 0, v14]) G12)
  (wv (vbin T .add t_int x7 (.int .i64 1)) fun v16 => R2 [v13, x5, x6, v16] G12))
  (Q (.tuple [x4, .int .i64 0]) G3)) → R2 [x4, x5, x6, x7] G3) →
  R2 [.int .i64 0, a0, v1, .int .i64 0] G
def amount_Sum.an : Ann := .two (.nil) (.two (.nil) (.two (.two (.nil) (.loop [4, 8, 9, 10] (.nil))) (.nil)))
set_option maxRecDepth 100000 in
theorem amount_Sum.sound {a0 : AVal} {G : Heap} {Q : AVal → Heap → Prop} (h : amount_Sum.S a0 G Q) : ACalls P amount_Sum.n [a0] G Q := by
  have e : amount_Sum.S a0 G Q = awp cx (amount_Sum.body) amount_Sum.an (bodyQ T [.tmp 2, .tmp 3] Q) (envL [a0]) G := by kernel_rfl
  exact ACalls_of_awp cxOk (f := amount_Sum.n) (fn := Tryz.f93) (c := amount_Sum.body) (an := amount_Sum.an) Tryz.func93 (by kernel_rfl) (by kernel_rfl) (by kernel_rfl) (drawsOk_of (by kernel_rfl) (by kernel_rfl)) (by simp [Tryz.f93]) (e ▸ h)

/-! #### slices.IndexFunc[[]escrow/api.Update,escrow/api.Update] -/
def slices_IndexFunc_escrow_api_Update_escrow_api_Update.S (a0 a1 : AVal) (G : Heap) (Q : AVal → Heap → Prop) : Prop :=
  wv (vlen T G t_sl_api_Update a0) fun v1 => ∀ R2 : List AVal → Heap → Prop,
  (∀ (x4 x5 x6 x7 : AVal) (G3 : Heap), (wv (vbin T .lss t_int x7 x6) fun v8 => brB (some v8)
  (wv (viaddr T t_sl_api_Update x4 x7) fun v9 => wv (vload T G3 t_api_Update v9) fun v10 => aCallV P x5 [v10] G3 fun v11 G12 => brB (some v11)
  (Q x7 G12)
  (wv (vbin T .add t_int x7 (.int .i64 1)) fun v13 => R2 [x4, x5, x6, v13] G12))
  (Q (.int .i64 (-1)) G3)) → R2 [x4, x5, x6, x7] G3) →
  R2 [a0, a1, v1, .int .i64 0] G
def slices_IndexFunc_escrow_api_Update_escrow_api_Update.an : Ann := .two (.nil) (.two (.two (.nil) (.loop [0, 1, 7, 8] (.nil))) (.nil))
set_option maxRecDepth 100000 in
theorem slices_IndexFunc_escrow_api_Update_escrow_api_Update.sound {a0 a1 : AVal} {G : Heap} {Q : AVal → Heap → Prop} (h : slices_IndexFunc_escrow_api_Update_escrow_api_Update.S a0 a1 G Q) : ACalls P slices_IndexFunc_escrow_api_Update_escrow_api_Update.n [a0, a1] G Q := by
  have e : slices_IndexFunc_escrow_api_Update_escrow_api_Update.S a0 a1 G Q = awp cx (slices_IndexFunc_escrow_api_Update_escrow_api_Update.body) slices_IndexFunc_escrow_api_Update_escrow_api_Update.an (bodyQ T [.tmp 4] Q) (envL [a0, a1]) G := by kernel_rfl
  exact ACalls_of_awp cxOk (f := slices_IndexFunc_escrow_api_Update_escrow_api_Update.n) (fn := Tryz.f152) (c := slices_IndexFunc_escrow_api_Update_escrow_api_Update.body) (an := slices_IndexFunc_escrow_api_Update_escrow_api_Update.an) Tryz.func152 (by kernel_rfl) (by kernel_rfl) (by kernel_rfl) (drawsOk_of (by kernel_rfl) (by kernel_rfl)) (by simp [Tryz.f152]) (e ▸ h)

/-! #### slices.ContainsFunc[[]escrow/api.Update,escrow/api.Update] -/
def slices_ContainsFunc_escrow_api_Update_escrow_api_Update.S (a0 a1 : AVal) (G : Heap) (Q : AVal → Heap → Prop) : Prop :=
  ACalls P slices_IndexFunc_escrow_api_Update_escrow_api_Update.n [a0, a1] G fun v1 G2 => wv (vbin T .geq t_int v1 (.int .i64 0)) fun v3 => Q v3 G2
def slices_ContainsFunc_escrow_api_Update_escrow_api_Update.an : Ann := .nil
set_option maxRecDepth 100000 in
theorem slices_ContainsFunc_escrow_api_Update_escrow_api_Update.sound {a0 a1 : AVal} {G : Heap} {Q : AVal → Heap → Prop} (h : slices_ContainsFunc_escrow_api_Update_escrow_api_Update.S a0 a1 G Q) : ACalls P slices_ContainsFunc_escrow_api_Update_escrow_api_Update.n [a0, a1] G Q := by
  have e : slices_ContainsFunc_escrow_api_Update_escrow_api_Update.S a0 a1 G Q = awp cx (slices_ContainsFunc_escrow_api_Update_escrow_api_Update.body) slices_ContainsFunc_escrow_api_Update_escrow_api_Update.an (bodyQ T [.tmp 4] Q) (envL [a0, a1]) G := by kernel_rfl
  exact ACalls_of_awp cxOk (f := slices_ContainsFunc_escrow_api_Update_escrow_api_Update.n) (fn := Tryz.f94) (c := slices_ContainsFunc_escrow_api_Update_escrow_api_Update.body) (an := slices_ContainsFunc_escrow_api_Update_escrow_api_Update.an) Tryz.func94 (by kernel_rfl) (by kernel_rfl) (by kernel_rfl) (drawsOk_of (by kernel_rfl) (by kernel_rfl)) (by simp [Tryz.f94]) (e ▸ h)

/-! #### escrow/ledger.invalid -/
def ledger_invalid.S (a0 : AVal) (G : Heap) (Q : AVal → Heap → Prop) : Prop :=
  aNew G (.own (a0)) fun i1 G2 => wv (vload T G2 t_api_Update (.ptr i1 [] 0)) fun v3 => ACalls P update_Valid.n [v3] G2 fun v4 G5 => wv (vun .not v4) fun v6 => Q v6 G5
def ledger_invalid.an : Ann := .nil
set_option maxRecDepth 100000 in
theorem ledger_invalid.sound {a0 : AVal} {G : Heap} {Q : AVal → Heap → Prop} (h : ledger_invalid.S a0 G Q) : ACalls P ledger_invalid.n [a0] G Q := by
  have e : ledger_invalid.S a0 G Q = awp cx (ledger_invalid.body) ledger_invalid.an (bodyQ T [.tmp 2] Q) (envL [a0]) G := by kernel_rfl
  exact ACalls_of_awp cxOk (f := ledger_invalid.n) (fn := Tryz.f95) (c := ledger_invalid.body) (an := ledger_invalid.an) Tryz.func95 (by kernel_rfl) (by kernel_rfl) (by kernel_rfl) (drawsOk_of (by kernel_rfl) (by kernel_rfl)) (by simp [Tryz.f95]) (e ▸ h)

/-! #### slices.insertionSortCmpFunc[escrow/api.Pending] -/
def slices_insertionSortCmpFunc_escrow_api_Pending.S (a0 a1 a2 a3 : AVal) (G : Heap) (Q : AVal → Heap → Prop) : Prop :=
  wv (vbin T .add t_int a1 (.int .i64 1)) fun v1 => ∀ R2 : List AVal → Heap → Prop,
  (∀ (x4 x5 x6 x7 x8 : AVal) (G3 : Heap), (wv (vbin T .lss t_int x8 x6) fun v9 => brB (some v9)
  (∀ R10 : List AVal → Heap → Prop,
  (∀ (x12 x13 x14 x15 x16 x17 : AVal) (G11 : Heap), (let J40 : AVal → Heap → Prop := (fun x28 G27 => brB (some x28)
  (wv (vbin T .sub t_int x17 (.int .i64 1)) fun v29 => wv (vbin T .sub t_int x17 (.int .i64 1)) fun v30 => wv (viaddr T t_sl_api_Pending x12 v30) fun v31 => wv (vload T G27 t_api_Pending v31) fun v32 => wv (viaddr T t_sl_api_Pending x12 x17) fun v33 => wv (vload T G27 t_api_Pending v33) fun v34 => wv (viaddr T t_sl_api_Pending x12 x17) fun v35 => wg (vstore T G27 t_api_Pending v35 v32) fun G36 => wv (viaddr T t_sl_api_Pending x12 v29) fun v37 => wg (vstore T G36 t_api_Pending v37 v34) fun G38 => wv (vbin T .sub t_int x17 (.int .i64 1)) fun v39 => R10 [x12, x13, x14, x15, x16, v39] G38)
  (wv (vbin T .add t_int x16 (.int .i64 1)) fun v41 => R2 [x12, x13, x14, x15, v41] G27));
  wv (vbin T .gtr t_int x17 x13) fun v18 => brB (some v18)
  (wv (viaddr T t_sl_api_Pending x12 x17) fun v19 => wv (vload T G11 t_api_Pending v19) fun v20 => wv (vbin T .sub t_int x17 (.int .i64 1)) fun v21 => wv (viaddr T t_sl_api_Pending x12 v21) fun v22 => wv (vload T G11 t_api_Pending v22) fun v23 => aCallV P x15 [v20, v23] G11 fun v24 G25 => wv (vbin T .lss t_int v24 (.int .i64 0)) fun v26 => J40 v26 G25)
  (J40 (.bool false) G11)) → R10 [x12, x13, x14, x15, x16, x17] G11) →
  R10 [x4, x5, x6, x7, x8, x8] G3)
  (Q (.tuple []) G3)) → R2 [x4, x5, x6, x7, x8] G3) →
  R2 [a0, a1, a2, a3, v1] G
def slices_insertionSortCmpFunc_escrow_api_Pending.an : Ann := .two (.nil) (.loop [0, 1, 2, 3, 8] (.two (.nil) (.two (.two (.nil) (.loop [0, 1, 2, 3, 8, 9] (.two (.two (.ord [(0, []), (1, []), (2, []), (3, []), (4, []), (5, []), (6, []), (7, []), (8, []), (9, []), (10, []), (11, []), (12, []), (13, []), (14, []), (15, []), (16, [])]) (.nil)) (.two (.ord [(0, []), (1, []), (2, []), (3, []), (4, []), (5, []), (6, []), (7, []), (8, []), (9, []), (10, []), (11, []), (12, []), (13, []), (14, []), (15, []), (16, []), (17, [])]) (.nil))))) (.nil))))
set_option maxRecDepth 100000 in
theorem slices_insertionSortCmpFunc_escrow_api_Pending.sound {a0 a1 a2 a3 : AVal} {G : Heap} {Q : AVal → Heap → Prop} (h : slices_insertionSortCmpFunc_escrow_api_Pending.S a0 a1 a2 a3 G Q) : ACalls P slices_insertionSortCmpFunc_escrow_api_Pending.n [a0, a1, a2, a3] G Q := by
  have e : slices_insertionSortCmpFunc_escrow_api_Pending.S a0 a1 a2 a3 G Q = awp cx (slices_insertionSortCmpFunc_escrow_api_Pending.body) slices_insertionSortCmpFunc_escrow_api_Pending.an (bodyQ T [] Q) (envL [a0, a1, a2, a3]) G := by kernel_rfl
  exact ACalls_of_awp cxOk (f := slices_insertionSortCmpFunc_escrow_api_Pending.n) (fn := Tryz.f194) (c := slices_insertionSortCmpFunc_escrow_api_Pending.body) (an := slices_insertionSortCmpFunc_escrow_api_Pending.an) Tryz.func194 (by kernel_rfl) (by kernel_rfl) (by kernel_rfl) (drawsOk_of (by kernel_rfl) (by kernel_rfl)) (by simp [Tryz.f194]) (e ▸ h)

/-! #### slices.swapRangeCmpFunc[escrow/api.Pending] -/
def slices_swapRangeCmpFunc_escrow_api_Pending.S (a0 a1 a2 a3 a4 : AVal) (G : Heap) (Q : AVal → Heap → Prop) : Prop :=
  ∀ R1 : List AVal → Heap → Prop,
  (∀ (x3 x4 x5 x6 x7 : AVal) (G2 : Heap), (wv (vbin T .lss t_int x7 x6) fun v8 => brB (some v8)
  (wv (vbin T .add t_int x4 x7) fun v9 => wv (vbin T .add t_int x5 x7) fun v10 => wv (vbin T .add t_int x5 x7) fun v11 => wv (viaddr T t_sl_api_Pending x3 v11) fun v12 => wv (vload T G2 t_api_Pending v12) fun v13 => wv (vbin T .add t_int x4 x7) fun v14 => wv (viaddr T t_sl_api_Pending x3 v14) fun v15 => wv (vload T G2 t_api_Pending v15) fun v16 => wv (viaddr T t_sl_api_Pending x3 v9) fun v17 => wg (vstore T G2 t_api_Pending v17 v13) fun G18 => wv (viaddr T t_sl_api_Pending x3 v10) fun v19 => wg (vstore T G18 t_api_Pending v19 v16) fun G20 => wv (vbin T .add t_int x7 (.int .i64 1)) fun v21 => R1 [x3, x4, x5, x6, v21] G20)
  (Q (.tuple []) G2)) → R1 [x3, x4, x5, x6, x7] G2) →
  R1 [a0, a1, a2, a3, .int .i64 0] G
def slices_swapRangeCmpFunc_escrow_api_Pending.an : Ann := .two (.nil) (.loop [0, 1, 2, 3, 10] (.two (.nil) (.two (.ord [(0, []), (1, []), (2, []), (3, []), (4, []), (5, []), (6, []), (7, []), (8, []), (9, []), (10, []), (11, []), (12, []), (13, []), (14, []), (15, []), (16, []), (17, []), (18, []), (19, []), (20, []), (21, []), (22, []), (23, [])]) (.nil))))
set_option maxRecDepth 100000 in
theorem slices_swapRangeCmpFunc_escrow_api_Pending.sound {a0 a1 a2 a3 a4 : AVal} {G : Heap} {Q : AVal → Heap → Prop} (h : slices_swapRangeCmpFunc_escrow_api_Pending.S a0 a1 a2 a3 a4 G Q) : ACalls P slices_swapRangeCmpFunc_escrow_api_Pending.n [a0, a1, a2, a3, a4] G Q := by
  have e : slices_swapRangeCmpFunc_escrow_api_Pending.S a0 a1 a2 a3 a4 G Q = awp cx (slices_swapRangeCmpFunc_escrow_api_Pending.body) slices_swapRangeCmpFunc_escrow_api_Pending.an (bodyQ T [] Q) (envL [a0, a1, a2, a3, a4]) G := by kernel_rfl
  exact ACalls_of_awp cxOk (f := slices_swapRangeCmpFunc_escrow_api_Pending.n) (fn := Tryz.f197) (c := slices_swapRangeCmpFunc_escrow_api_Pending.body) (an := slices_swapRangeCmpFunc_escrow_api_Pending.an) Tryz.func197 (by kernel_rfl) (by kernel_rfl) (by kernel_rfl) (drawsOk_of (by kernel_rfl) (by kernel_rfl)) (by simp [Tryz.f197]) (e ▸ h)

/-! #### slices.rotateCmpFunc[escrow/api.Pending] -/
def slices_rotateCmpFunc_escrow_api_Pending.S (a0 a1 a2 a3 a4 : AVal) (G : Heap) (Q : AVal → Heap → Prop) : Prop :=
  wv (vbin T .sub t_int a2 a1) fun v1 => wv (vbin T .sub t_int a3 a2) fun v2 => ∀ R3 : List AVal → Heap → Prop,
  (∀ (x5 x6 x7 x8 x9 : AVal) (G4 : Heap), (wv (vbin T .neq t_int x8 x9) fun v10 => brB (some v10)
  (wv (vbin T .gtr t_int x8 x9) fun v11 => brB (some v11)
  (wv (vbin T .sub t_int x6 x8) fun v12 => ACalls P slices_swapRangeCmpFunc_escrow_api_Pending.n [x5, v12, x6, x9, x7] G4 fun v13 G14 => wv (vbin T .sub t_int x8 x9) fun v15 => R3 [x5, x6, x7, v15, x9] G14)
  (wv (vbin T .sub t_int x6 x8) fun v16 => wv (vbin T .add t_int x6 x9) fun v17 => wv (vbin T .sub t_int v17 x8) fun v18 => ACalls P slices_swapRangeCmpFunc_escrow_api_Pending.n [x5, v16, v18, x8, x7] G4 fun v19 G20 => wv (vbin T .sub t_int x9 x8) fun v21 => R3 [x5, x6, x7, x8, v21] G20))
  (wv (vbin T .sub t_int x6 x8) fun v28 => ACalls P slices_swapRangeCmpFunc_escrow_api_Pending.n [x5, v28, x6, x8, x7] G4 fun v29 G30 => Q (.tuple []) G30)) → R3 [x5, x6, x7, x8, x9] G4) →
  R3 [a0, a2, a4, v1, v2] G
def slices_rotateCmpFunc_escrow_api_Pending.an : Ann := .two (.nil) (.two (.nil) (.two (.loop [0, 2, 4, 10, 11] (.nil)) (.nil)))
set_option maxRecDepth 100000 in
theorem slices_rotateCmpFunc_escrow_api_Pending.sound {a0 a1 a2 a3 a4 : AVal} {G : Heap} {Q : AVal → Heap → Prop} (h : slices_rotateCmpFunc_escrow_api_Pending.S a0 a1 a2 a3 a4 G Q) : ACalls P slices_rotateCmpFunc_escrow_api_Pending.n [a0, a1, a2, a3, a4] G Q := by
  have e : slices_rotateCmpFunc_escrow_api_Pending.S a0 a1 a2 a3 a4 G Q = awp cx (slices_rotateCmpFunc_escrow_api_Pending.body) slices_rotateCmpFunc_escrow_api_Pending.an (bodyQ T [] Q) (envL [a0, a1, a2, a3, a4]) G := by kernel_rfl
  exact ACalls_of_awp cxOk (f := slices_rotateCmpFunc_escrow_api_Pending.n) (fn := Tryz.f196) (c := slices_rotateCmpFunc_escrow_api_Pending.body) (an := slices_rotateCmpFunc_escrow_api_Pending.an) Tryz.func196 (by kernel_rfl) (by kernel_rfl) (by kernel_rfl) (drawsOk_of (by kernel_rfl) (by kernel_rfl)) (by simp [Tryz.f196]) (e ▸ h)

/-! #### slices.symMergeCmpFunc[escrow/api.Pending] -/
def slices_symMergeCmpFunc_escrow_api_Pending.S (a0 a1 a2 a3 a4 : AVal) (G : Heap) (Q : AVal → Heap → Prop) : Prop :=
  wv (vbin T .sub t_int a2 a1) fun v1 => wv (vbin T .eql t_int v1 (.int .i64 1)) fun v2 => brB (some v2)
  (∀ R3 : List AVal → Heap → Prop,
  (∀ (x5 x6 x7 x8 x9 : AVal) (G4 : Heap), (wv (vbin T .lss t_int x8 x9) fun v10 => brB (some v10)
  (wv (vbin T .add t_int x8 x9) fun v11 => wv (vconv T G4 t_int t_uint v11) fun v12 => wv (vbin T .shr t_uint v12 (.int .u64 1)) fun v13 => wv (vconv T G4 t_uint t_int v13) fun v14 => wv (viaddr T t_sl_api_Pending x5 v14) fun v15 => wv (vload T G4 t_api_Pending v15) fun v16 => wv (viaddr T t_sl_api_Pending x5 x6) fun v17 => wv (vload T G4 t_api_Pending v17) fun v18 => aCallV P x7 [v16, v18] G4 fun v19 G20 => wv (vbin T .lss t_int v19 (.int .i64 0)) fun v21 => brB (some v21)
  (wv (vbin T .add t_int v14 (.int .i64 1)) fun v22 => R3 [x5, x6, x7, v22, x9] G20)
  (R3 [x5, x6, x7, x8, v14] G20))
  (∀ R29 : List AVal → Heap → Prop,
  (∀ (x31 x32 x33 : AVal) (G30 : Heap), (wv (vbin T .sub t_int x32 (.int .i64 1)) fun v34 => wv (vbin T .lss t_int x33 v34) fun v35 => brB (some v35)
  (wv (vbin T .add t_int x33 (.int .i64 1)) fun v36 => wv (vbin T .add t_int x33 (.int .i64 1)) fun v37 => wv (viaddr T t_sl_api_Pending x31 v37) fun v38 => wv (vload T G30 t_api_Pending v38) fun v39 => wv (viaddr T t_sl_api_Pending x31 x33) fun v40 => wv (vload T G30 t_api_Pending v40) fun v41 => wv (viaddr T t_sl_api_Pending x31 x33) fun v42 => wg (vstore T G30 t_api_Pending v42 v39) fun G43 => wv (viaddr T t_sl_api_Pending x31 v36) fun v44 => wg (vstore T G43 t_api_Pending v44 v41) fun G45 => wv (vbin T .add t_int x33 (.int .i64 1)) fun v46 => R29 [x31, x32, v46] G45)
  (Q (.tuple []) G30)) → R29 [x31, x32, x33] G30) →
  R29 [x5, x8, x6] G4)) → R3 [x5, x6, x7, x8, x9] G4) →
  R3 [a0, a1, a4, a2, a3] G)
  (wv (vbin T .sub t_int a3 a2) fun v47 => wv (vbin T .eql t_int v47 (.int .i64 1)) fun v48 => brB (some v48)
  (∀ R49 : List AVal → Heap → Prop,
  (∀ (x51 x52 x53 x54 x55 : AVal) (G50 : Heap), (wv (vbin T .lss t_int x54 x55) fun v56 => brB (some v56)
  (wv (vbin T .add t_int x54 x55) fun v57 => wv (vconv T G50 t_int t_uint v57) fun v58 => wv (vbin T .shr t_uint v58 (.int .u64 1)) fun v59 => wv (vconv T G50 t_uint t_int v59) fun v60 => wv (viaddr T t_sl_api_Pending x51 x52) fun v61 => wv (vload T G50 t_api_Pending v61) fun v62 => wv (viaddr T t_sl_api_Pending x51 v60) fun v63 => wv (vload T G50 t_api_Pending v63) fun v64 => aCallV P x53 [v62, v64] G50 fun v65 G66 => wv (vbin T .lss t_int v65 (.int .i64 0)) fun v67 => wv (vun .not v67) fun v68 => brB (some v68)
  (wv (vbin T .add t_int v60 (.int .i64 1)) fun v69 => R49 [x51, x52, x53, v69, x55] G66)
  (R49 [x51, x52, x53, x54, v60] G66))
  (∀ R76 : List AVal → Heap → Prop,
  (∀ (x78 x79 x80 : AVal) (G77 : Heap), (wv (vbin T .gtr t_int x80 x79) fun v81 => brB (some v81)
  (wv (vbin T .sub t_int x80 (.int .i64 1)) fun v82 => wv (vbin T .sub t_int x80 (.int .i64 1)) fun v83 => wv (viaddr T t_sl_api_Pending x78 v83) fun v84 => wv (vload T G77 t_api_Pending v84) fun v85 => wv (viaddr T t_sl_api_Pending x78 x80) fun v86 => wv (vload T G77 t_api_Pending v86) fun v87 => wv (viaddr T t_sl_api_Pending x78 x80) fun v88 => wg (vstore T G77 t_api_Pending v88 v85) fun G89 => wv (viaddr T t_sl_api_Pending x78 v82) fun v90 => wg (vstore T G89 t_api_Pending v90 v87) fun G91 => wv (vbin T .sub t_int x80 (.int .i64 1)) fun v92 => R76 [x78, x79, v92] G91)
  (Q (.tuple []) G77)) → R76 [x78, x79, x80] G77) →
  R76 [x51, x54, x52] G50)) → R49 [x51, x52, x53, x54, x55] G50) →
  R49 [a0, a2, a4, a1, a2] G)
  (wv (vbin T .add t_int a1 a3) fun v93 => wv (vconv T G t_int t_uint v93) fun v94 => wv (vbin T .shr t_uint v94 (.int .u64 1)) fun v95 => wv (vconv T G t_uint t_int v95) fun v96 => wv (vbin T .add t_int v96 a2) fun v97 => wv (vbin T .gtr t_int a2 v96) fun v98 => let J185 : AVal → AVal → Heap → Prop := (fun x101 x102 G100 => wv (vbin T .sub t_int v97 (.int .i64 1)) fun v103 => ∀ R104 : List AVal → Heap → Prop,
  (∀ (x106 x107 x108 x109 x110 x111 x112 x113 x114 x115 : AVal) (G105 : Heap), (wv (vbin T .lss t_int x113 x114) fun v116 => brB (some v116)
  (wv (vbin T .add t_int x113 x114) fun v117 => wv (vconv T G105 t_int t_uint v117) fun v118 => wv (vbin T .shr t_uint v118 (.int .u64 1)) fun v119 => wv (vconv T G105 t_uint t_int v119) fun v120 => wv (vbin T .sub t_int x115 v120) fun v121 => wv (viaddr T t_sl_api_Pending x106 v121) fun v122 => wv (vload T G105 t_api_Pending v122) fun v123 => wv (viaddr T t_sl_api_Pending x106 v120) fun v124 => wv (vload T G105 t_api_Pending v124) fun v125 => aCallV P x110 [v123, v125] G105 fun v126 G127 => wv (vbin T .lss t_int v126 (.int .i64 0)) fun v128 => wv (vun .not v128) fun v129 => brB (some v129)
  (wv (vbin T .add t_int v120 (.int .i64 1)) fun v130 => R104 [x106, x107, x108, x109, x110, x111, x112, v130, x114, x115] G127)
  (R104 [x106, x107, x108, x109, x110, x111, x112, x113, v120, x115] G127))
  (wv (vbin T .sub t_int x112 x113) fun v137 => let J184 : AVal → Heap → Prop := (fun x141 G140 => let J183 : Heap → Prop := (fun G144 => let J182 : AVal → Heap → Prop := (fun x148 G147 => brB (some x148)
  (ACalls P slices_symMergeCmpFunc_escrow_api_Pending.n [x106, x107, x113, x111, x110] G147 fun v149 G150 => wv (vbin T .lss t_int x111 v137) fun v162 => brB (some v162)
  (wv (vbin T .lss t_int v137 x109) fun v163 => brB (some v163)
  (ACalls P slices_symMergeCmpFunc_escrow_api_Pending.n [x106, x111, v137, x109, x110] G150 fun v169 G170 => Q (.tuple []) G170)
  (Q (.tuple []) G150))
  (Q (.tuple []) G150))
  (wv (vbin T .lss t_int x111 v137) fun v172 => brB (some v172)
  (wv (vbin T .lss t_int v137 x109) fun v173 => brB (some v173)
  (ACalls P slices_symMergeCmpFunc_escrow_api_Pending.n [x106, x111, v137, x109, x110] G147 fun v179 G180 => Q (.tuple []) G180)
  (Q (.tuple []) G147))
  (Q (.tuple []) G147)));
  wv (vbin T .lss t_int x107 x113) fun v145 => brB (some v145)
  (wv (vbin T .lss t_int x113 x111) fun v146 => J182 v146 G144)
  (J182 (.bool false) G144));
  brB (some x141)
  (ACalls P slices_rotateCmpFunc_escrow_api_Pending.n [x106, x113, x108, v137, x110] G140 fun v142 G143 => J183 G143)
  (J183 G140));
  wv (vbin T .lss t_int x113 x108) fun v138 => brB (some v138)
  (wv (vbin T .lss t_int x108 v137) fun v139 => J184 v139 G105)
  (J184 (.bool false) G105))) → R104 [x106, x107, x108, x109, x110, x111, x112, x113, x114, x115] G105) →
  R104 [a0, a1, a2, a3, a4, v96, v97, x101, x102, v103] G100);
  brB (some v98)
  (wv (vbin T .sub t_int v97 a3) fun v99 => J185 v99 v96 G)
  (J185 a1 a2 G)))
def slices_symMergeCmpFunc_escrow_api_Pending.an : Ann := .two (.two (.nil) (.two (.two (.nil) (.two (.nil) (.two (.loop [0, 1, 4, 10, 11] (.two (.nil) (.two (.nil) (.two (.ord [(0, []), (1, []), (2, []), (3, []), (4, []), (5, []), (6, []), (7, []), (8, []), (9, []), (10, [])]) (.nil))))) (.two (.two (.nil) (.loop [0, 10, 13] (.two (.nil) (.two (.ord [(0, []), (1, []), (2, []), (3, []), (4, []), (5, []), (6, []), (7, []), (8, []), (9, []), (10, []), (11, []), (12, []), (13, []), (14, []), (15, []), (16, []), (17, [])]) (.nil))))) (.nil))))) (.nil))) (.two (.two (.nil) (.two (.two (.nil) (.two (.nil) (.two (.loop [0, 2, 4, 14, 15] (.two (.nil) (.two (.nil) (.two (.ord [(0, []), (1, []), (2, []), (3, []), (4, []), (5, []), (6, []), (7, []), (8, []), (9, []), (10, []), (11, [])]) (.nil))))) (.two (.two (.nil) (.loop [0, 14, 17] (.two (.nil) (.two (.ord [(0, []), (1, []), (2, []), (3, []), (4, []), (5, []), (6, []), (7, []), (8, []), (9, []), (10, []), (11, []), (12, []), (13, []), (14, []), (15, []), (16, []), (17, [])]) (.nil))))) (.nil))))) (.nil))) (.two (.nil) (.two (.nil) (.two (.nil) (.two (.nil) (.two (.nil) (.two (.loop [0, 1, 2, 3, 4, 18, 19, 20, 21, 22] (.two (.nil) (.two (.nil) (.two (.ord [(0, []), (1, []), (2, []), (3, []), (4, []), (5, []), (6, []), (7, []), (8, []), (9, []), (10, []), (11, []), (12, []), (13, [])]) (.nil))))) (.nil))))))))
set_option maxRecDepth 100000 in
theorem slices_symMergeCmpFunc_escrow_api_Pending.sound {a0 a1 a2 a3 a4 : AVal} {G : Heap} {Q : AVal → Heap → Prop} (h : slices_symMergeCmpFunc_escrow_api_Pending.S a0 a1 a2 a3 a4 G Q) : ACalls P slices_symMergeCmpFunc_escrow_api_Pending.n [a0, a1, a2, a3, a4] G Q := by
  have e : slices_symMergeCmpFunc_escrow_api_Pending.S a0 a1 a2 a3 a4 G Q = awp cx (slices_symMergeCmpFunc_escrow_api_Pending.body) slices_symMergeCmpFunc_escrow_api_Pending.an (bodyQ T [] Q) (envL [a0, a1, a2, a3, a4]) G := by kernel_rfl
  exact ACalls_of_awp cxOk (f := slices_symMergeCmpFunc_escrow_api_Pending.n) (fn := Tryz.f195) (c := slices_symMergeCmpFunc_escrow_api_Pending.body) (an := slices_symMergeCmpFunc_escrow_api_Pending.an) Tryz.func195 (by kernel_rfl) (by kernel_rfl) (by kernel_rfl) (drawsOk_of (by kernel_rfl) (by kernel_rfl)) (by simp [Tryz.f195]) (e ▸ h)

/-! #### slices.stableCmpFunc[escrow/api.Pending] -/
def slices_stableCmpFunc_escrow_api_Pending.S (a0 a1 a2 : AVal) (G : Heap) (Q : AVal → Heap → Prop) : Prop :=
  ∀ R1 : List AVal → Heap → Prop,
  (∀ (x3 x4 x5 x6 x7 x8 : AVal) (G2 : Heap), (wv (vbin T .leq t_int x8 x4) fun v9 => brB (some v9)
  (ACalls P slices_insertionSortCmpFunc_escrow_api_Pending.n [x3, x7, x8, x5] G2 fun v10 G11 => wv (vbin T .add t_int x8 x6) fun v12 => R1 [x3, x4, x5, x6, x8, v12] G11)
  (ACalls P slices_insertionSortCmpFunc_escrow_api_Pending.n [x3, x7, x4, x5] G2 fun v13 G14 => ∀ R15 : List AVal → Heap → Prop,
  (∀ (x17 x18 x19 x20 : AVal) (G16 : Heap), (wv (vbin T .lss t_int x20 x18) fun v21 => brB (some v21)
  (wv (vbin T .mul t_int (.int .i64 2) x20) fun v22 => ∀ R23 : List AVal → Heap → Prop,
  (∀ (x25 x26 x27 x28 x29 x30 : AVal) (G24 : Heap), (wv (vbin T .leq t_int x30 x26) fun v31 => brB (some v31)
  (wv (vbin T .add t_int x29 x28) fun v32 => ACalls P slices_symMergeCmpFunc_escrow_api_Pending.n [x25, x29, v32, x30, x27] G24 fun v33 G34 => wv (vbin T .mul t_int (.int .i64 2) x28) fun v35 => wv (vbin T .add t_int x30 v35) fun v36 => R23 [x25, x26, x27, x28, x30, v36] G34)
  (wv (vbin T .add t_int x29 x28) fun v37 => wv (vbin T .lss t_int v37 x26) fun v38 => brB (some v38)
  (ACalls P slices_symMergeCmpFunc_escrow_api_Pending.n [x25, x29, v37, x26, x27] G24 fun v39 G40 => wv (vbin T .mul t_int x28 (.int .i64 2)) fun v43 => R15 [x25, x26, x27, v43] G40)
  (wv (vbin T .mul t_int x28 (.int .i64 2)) fun v44 => R15 [x25, x26, x27, v44] G24))) → R23 [x25, x26, x27, x28, x29, x30] G24) →
  R23 [x17, x18, x19, x20, .int .i64 0, v22] G16)
  (Q (.tuple []) G16)) → R15 [x17, x18, x19, x20] G16) →
  R15 [x3, x4, x5, x6] G14)) → R1 [x3, x4, x5, x6, x7, x8] G2) →
  R1 [a0, a1, a2, .int .i64 20, .int .i64 0, .int .i64 20] G
def slices_stableCmpFunc_escrow_api_Pending.an : Ann := .two (.nil) (.two (.nil) (.two (.loop [0, 1, 2, 6, 7, 8] (.nil)) (.two (.nil) (.loop [0, 1, 2, 6] (.two (.nil) (.two (.nil) (.two (.loop [0, 1, 2, 6, 7, 8] (.nil)) (.nil))))))))
set_option maxRecDepth 100000 in
theorem slices_stableCmpFunc_escrow_api_Pending.sound {a0 a1 a2 : AVal} {G : Heap} {Q : AVal → Heap → Prop} (h : slices_stableCmpFunc_escrow_api_Pending.S a0 a1 a2 G Q) : ACalls P slices_stableCmpFunc_escrow_api_Pending.n [a0, a1, a2] G Q := by
  have e : slices_stableCmpFunc_escrow_api_Pending.S a0 a1 a2 G Q = awp cx (slices_stableCmpFunc_escrow_api_Pending.body) slices_stableCmpFunc_escrow_api_Pending.an (bodyQ T [] Q) (envL [a0, a1, a2]) G := by kernel_rfl
  exact ACalls_of_awp cxOk (f := slices_stableCmpFunc_escrow_api_Pending.n) (fn := Tryz.f184) (c := slices_stableCmpFunc_escrow_api_Pending.body) (an := slices_stableCmpFunc_escrow_api_Pending.an) Tryz.func184 (by kernel_rfl) (by kernel_rfl) (by kernel_rfl) (drawsOk_of (by kernel_rfl) (by kernel_rfl)) (by simp [Tryz.f184]) (e ▸ h)

/-! #### slices.SortStableFunc[[]escrow/api.Pending,escrow/api.Pending] -/
def slices_SortStableFunc_escrow_api_Pending_escrow_api_Pending.S (a0 a1 : AVal) (G : Heap) (Q : AVal → Heap → Prop) : Prop :=
  wv (vlen T G t_sl_api_Pending a0) fun v1 => ACalls P slices_stableCmpFunc_escrow_api_Pending.n [a0, v1, a1] G fun v2 G3 => Q (.tuple []) G3
def slices_SortStableFunc_escrow_api_Pending_escrow_api_Pending.an : Ann := .nil
set_option maxRecDepth 100000 in
theorem slices_SortStableFunc_escrow_api_Pending_escrow_api_Pending.sound {a0 a1 : AVal} {G : Heap} {Q : AVal → Heap → Prop} (h : slices_SortStableFunc_escrow_api_Pending_escrow_api_Pending.S a0 a1 G Q) : ACalls P slices_SortStableFunc_escrow_api_Pending_escrow_api_Pending.n [a0, a1] G Q := by
  have e : slices_SortStableFunc_escrow_api_Pending_escrow_api_Pending.S a0 a1 G Q = awp cx (slices_SortStableFunc_escrow_api_Pending_escrow_api_Pending.body) slices_SortStableFunc_escrow_api_Pending_escrow_api_Pending.an (bodyQ T [] Q) (envL [a0, a1]) G := by kernel_rfl
  exact ACalls_of_awp cxOk (f := slices_SortStableFunc_escrow_api_Pending_escrow_api_Pending.n) (fn := Tryz.f153) (c := slices_SortStableFunc_escrow_api_Pending_escrow_api_Pending.body) (an := slices_SortStableFunc_escrow_api_Pending_escrow_api_Pending.an) Tryz.func153 (by kernel_rfl) (by kernel_rfl) (by kernel_rfl) (drawsOk_of (by kernel_rfl) (by kernel_rfl)) (by simp [Tryz.f153]) (e ▸ h)

/-! #### cmp.isNaN[int64] -/
def cmp_isNaN_int64.S (a0 : AVal) (G : Heap) (Q : AVal → Heap → Prop) : Prop :=
  wv (vbin T .neq t_int64 a0 a0) fun v1 => Q v1 G
def cmp_isNaN_int64.an : Ann := .nil
set_option maxRecDepth 100000 in
theorem cmp_isNaN_int64.sound {a0 : AVal} {G : Heap} {Q : AVal → Heap → Prop} (h : cmp_isNaN_int64.S a0 G Q) : ACalls P cmp_isNaN_int64.n [a0] G Q := by
  have e : cmp_isNaN_int64.S a0 G Q = awp cx (cmp_isNaN_int64.body) cmp_isNaN_int64.an (bodyQ T [.tmp 2] Q) (envL [a0]) G := by kernel_rfl
  exact ACalls_of_awp cxOk (f := cmp_isNaN_int64.n) (fn := Tryz.f185) (c := cmp_isNaN_int64.body) (an := cmp_isNaN_int64.an) Tryz.func185 (by kernel_rfl) (by kernel_rfl) (by kernel_rfl) (drawsOk_of (by kernel_rfl) (by kernel_rfl)) (by simp [Tryz.f185]) (e ▸ h)

/-! #### cmp.Compare[int64] -/
def cmp_Compare_int64.S (a0 a1 : AVal) (G : Heap) (Q : AVal → Heap → Prop) : Prop :=
  ACalls P cmp_isNaN_int64.n [a0] G fun v1 G2 => ACalls P cmp_isNaN_int64.n [a1] G2 fun v3 G4 => brB (some v1)
  (brB (some v3)
  (Q (.int .i64 0) G4)
  (Q (.int .i64 (-1)) G4))
  (brB (some v3)
  (Q (.int .i64 1) G4)
  (wv (vbin T .lss t_int64 a0 a1) fun v5 => brB (some v5)
  (Q (.int .i64 (-1)) G4)
  (wv (vbin T .gtr t_int64 a0 a1) fun v6 => brB (some v6)
  (Q (.int .i64 1) G4)
  (Q (.int .i64 0) G4))))
def cmp_Compare_int64.an : Ann := .nil
set_option maxRecDepth 100000 in
theorem cmp_Compare_int64.sound {a0 a1 : AVal} {G : Heap} {Q : AVal → Heap → Prop} (h : cmp_Compare_int64.S a0 a1 G Q) : ACalls P cmp_Compare_int64.n [a0, a1] G Q := by
  have e : cmp_Compare_int64.S a0 a1 G Q = awp cx (cmp_Compare_int64.body) cmp_Compare_int64.an (bodyQ T [.tmp 4] Q) (envL [a0, a1]) G := by kernel_rfl
  exact ACalls_of_awp cxOk (f := cmp_Compare_int64.n) (fn := Tryz.f155) (c := cmp_Compare_int64.body) (an := cmp_Compare_int64.an) Tryz.func155 (by kernel_rfl) (by kernel_rfl) (by kernel_rfl) (drawsOk_of (by kernel_rfl) (by kernel_rfl)) (by simp [Tryz.f155]) (e ▸ h)

/-! #### escrow/ledger.part$1 -/
def ledger_part_1.S (a0 a1 : AVal) (G : Heap) (Q : AVal → Heap → Prop) : Prop :=
  aNew G (.own (a0)) fun i1 G2 => aNew G2 (.own (a1)) fun i3 G4 => wv (vload T G4 t_int64 (.ptr i1 [1] 1)) fun v5 => wv (vload T G4 t_int64 (.ptr i3 [1] 1)) fun v6 => ACalls P cmp_Compare_int64.n [v5, v6] G4 fun v7 G8 => Q v7 G8
def ledger_part_1.an : Ann := .nil
set_option maxRecDepth 100000 in
theorem ledger_part_1.sound {a0 a1 : AVal} {G : Heap} {Q : AVal → Heap → Prop} (h : ledger_part_1.S a0 a1 G Q) : ACalls P ledger_part_1.n [a0, a1] G Q := by
  have e : ledger_part_1.S a0 a1 G Q = awp cx (ledger_part_1.body) ledger_part_1.an (bodyQ T [.tmp 4] Q) (envL [a0, a1]) G := by kernel_rfl
  exact ACalls_of_awp cxOk (f := ledger_part_1.n) (fn := Tryz.f154) (c := ledger_part_1.body) (an := ledger_part_1.an) Tryz.func154 (by kernel_rfl) (by kernel_rfl) (by kernel_rfl) (drawsOk_of (by kernel_rfl) (by kernel_rfl)) (by simp [Tryz.f154]) (e ▸ h)

/-! #### escrow/ledger.part -/
def ledger_part.S (a0 a1 a2 a3 a4 : AVal) (G : Heap) (Q : AVal → Heap → Prop) : Prop :=
  aNew G (.own (a3)) fun i1 G2 => aNew G2 (.own (a4)) fun i3 G4 => aNew G4 (.own (z_ledger_wide)) fun i5 G6 => aNew G6 (.own (z_ledger_wide)) fun i7 G8 => wv (vlen T G8 t_sl_api_Update a0) fun v9 => ∀ R10 : List AVal → Heap → Prop,
  (∀ (x12 x13 x14 x15 x16 x17 x18 x19 x20 x21 : AVal) (G11 : Heap), (wv (vbin T .lss t_int x21 x20) fun v22 => brB (some v22)
  (let J62 : AVal → Heap → Prop := (fun x60 G59 => wv (vbin T .add t_int x21 (.int .i64 1)) fun v61 => R10 [x12, x13, x14, x15, x16, x17, x60, x19, x20, v61] G59);
  wv (viaddr T t_sl_api_Update x19 x21) fun v23 => wv (vload T G11 t_api_Update v23) fun v24 => aNew G11 (.own (z_api_Update)) fun i25 G26 => wg (vstore T G26 t_api_Update (.ptr i25 [] 0) v24) fun G27 => let J58 : AVal → Heap → Prop := (fun x34 G33 => brB (some x34)
  (J62 x18 G33)
  (wv (vload T G33 t_ledger_wide x14) fun v35 => wv (vload T G33 t_int64 (.ptr i25 [2] 2)) fun v36 => ACalls P ledger_wide_minus.n [v35, v36] G33 fun v37 G38 => wg (vstore T G38 t_ledger_wide x14 v37) fun G39 => wv (vload T G39 t_int64 (.ptr i25 [1] 1)) fun v40 => wv (vlookup T G39 t_map_int64_int x12 v40 false) fun v41 => wv (vbin T .eql t_int v41 (.int .i64 2)) fun v42 => brB (some v42)
  (wv (vload T G39 t_ledger_wide x15) fun v43 => wv (vload T G39 t_int64 (.ptr i25 [2] 2)) fun v44 => ACalls P ledger_wide_plus.n [v43, v44] G39 fun v45 G46 => wg (vstore T G46 t_ledger_wide x15 v45) fun G47 => J62 x18 G47)
  (wv (vload T G39 t_int64 (.ptr i25 [1] 1)) fun v48 => wv (vload T G39 t_int64 (.ptr i25 [2] 2)) fun v49 => wv (vload T G39 t_api_Hash (.ptr i25 [3] 3)) fun v50 => wv (vbuild T t_api_Pending [(0, x13), (1, v48), (2, v49), (3, v50)]) fun v51 => aBuildSlice T t_sl_api_Pending 1 [(0, v51)] G39 fun v52 G53 => aAppend T G53 t_sl_api_Pending t_sl_api_Pending x18 v52 fun v54 G55 => J62 v54 G55)));
  wv (vload T G27 t_int (.ptr i25 [0] 0)) fun v28 => wv (vbin T .neq t_int v28 (.int .i64 1)) fun v29 => brB (some v29)
  (J58 (.bool true) G27)
  (wv (vload T G27 t_int64 (.ptr i25 [1] 1)) fun v30 => wv (vlookup T G27 t_map_int64_int x12 v30 false) fun v31 => wv (vbin T .eql t_int v31 (.int .i64 3)) fun v32 => J58 v32 G27))
  (ACalls P slices_SortStableFunc_escrow_api_Pending_escrow_api_Pending.n [x18, .func (.func ledger_part_1.n) [] []] G11 fun v63 G64 => wv (vload T G64 t_ledger_wide x14) fun v65 => wv (vload T G64 t_ledger_wide x15) fun v66 => wg (vstore T G64 t_ledger_wide x16 v65) fun G67 => (vload T G67 t_ledger_wide x15 = some v66 ∧ True) ∧ (wg (vstore T G67 t_ledger_wide x17 v66) fun G68 => wv (vload T G68 t_ledger_wide x16) fun v69 => wv (vload T G68 t_ledger_wide x17) fun v70 => Q (.tuple [v69, v70, x18]) G68))) → R10 [x12, x13, x14, x15, x16, x17, x18, x19, x20, x21] G11) →
  R10 [a1, a2, .ptr i1 [] 0, .ptr i3 [] 0, .ptr i5 [] 0, .ptr i7 [] 0, .nilSlice, a0, v9, .int .i64 0] G8
def ledger_part.an : Ann := .two (.nil) (.two (.nil) (.two (.two (.nil) (.loop [1, 2, 8, 9, 10, 11, 13, 16, 17, 18] (.nil))) (.two (.nil) (.two (.ord [(0, []), (1, []), (2, []), (3, [1]), (4, []), (5, [])]) (.nil)))))
set_option maxRecDepth 100000 in
theorem ledger_part.sound {a0 a1 a2 a3 a4 : AVal} {G : Heap} {Q : AVal → Heap → Prop} (h : ledger_part.S a0 a1 a2 a3 a4 G Q) : ACalls P ledger_part.n [a0, a1, a2, a3, a4] G Q := by
  have e : ledger_part.S a0 a1 a2 a3 a4 G Q = awp cx (ledger_part.body) ledger_part.an (bodyQ T [.cell 10 147, .cell 11 147, .tmp 12] Q) (envL [a0, a1, a2, a3, a4]) G := by kernel_rfl
  exact ACalls_of_awp cxOk (f := ledger_part.n) (fn := Tryz.f96) (c := ledger_part.body) (an := ledger_part.an) Tryz.func96 (by kernel_rfl) (by kernel_rfl) (by kernel_rfl) (drawsOk_of (by kernel_rfl) (by kernel_rfl)) (by simp [Tryz.f96]) (e ▸ h)

/-! #### escrow/ledger.Fold -/
def ledger_Fold.S (a0 a1 a2 a3 a4 : AVal) (G : Heap) (Q : AVal → Heap → Prop) : Prop :=
  aNew G (.own (a4)) fun i1 G2 => aNew G2 (.own (z_api_Ledger)) fun i3 G4 => let J99 : AVal → Heap → Prop := (fun x16 G15 => brB (some x16)
  (wv (vbuild T t_api_Ledger []) fun v17 => wg (vstore T G15 t_api_Ledger (.ptr i3 [] 0) v17) fun G18 => wv (vload T G18 t_api_Ledger (.ptr i3 [] 0)) fun v19 => Q (.tuple [v19, .int .i64 1]) G18)
  (aBuildSlice T t_sl_int64 2 [(0, a0), (1, a1)] G15 fun v20 G21 => ACalls P amount_Sum.n [v20] G21 fun v22 G23 => wv (vextract v22 0) fun v24 => wv (vextract v22 1) fun v25 => wv (vbin T .neq t_api_Errno v25 (.int .i64 0)) fun v26 => brB (some v26)
  (wv (vbuild T t_api_Ledger []) fun v27 => wg (vstore T G23 t_api_Ledger (.ptr i3 [] 0) v27) fun G28 => wv (vload T G28 t_api_Ledger (.ptr i3 [] 0)) fun v29 => Q (.tuple [v29, .int .i64 1]) G28)
  (wv (vload T G23 t_int (.ptr i1 [0] 0)) fun v30 => wv (vslice T t_sl_api_Update a2 none (some (v30)) none) fun v31 => wv (vload T G23 t_int (.ptr i1 [1] 1)) fun v32 => wv (vslice T t_sl_api_Update a3 none (some (v32)) none) fun v33 => let J98 : AVal → Heap → Prop := (fun x39 G38 => brB (some x39)
  (wv (vbuild T t_api_Ledger []) fun v40 => wg (vstore T G38 t_api_Ledger (.ptr i3 [] 0) v40) fun G41 => wv (vload T G41 t_api_Ledger (.ptr i3 [] 0)) fun v42 => Q (.tuple [v42, .int .i64 120]) G41)
  (ACalls P ledger_removals.n [v33] G38 fun v43 G44 => wv (vbuild T t_ledger_wide []) fun v45 => ACalls P ledger_wide_plus.n [v45, a0] G44 fun v46 G47 => wv (vbuild T t_ledger_wide []) fun v48 => ACalls P ledger_wide_plus.n [v48, a1] G47 fun v49 G50 => ACalls P ledger_part.n [v31, v43, .bool true, v46, v49] G50 fun v51 G52 => wv (vextract v51 0) fun v53 => wv (vextract v51 1) fun v54 => wv (vextract v51 2) fun v55 => aNew G52 (.own (z_ledger_wide)) fun i56 G57 => aNew G57 (.own (z_ledger_wide)) fun i58 G59 => wg (vstore T G59 t_ledger_wide (.ptr i56 [] 0) v53) fun G60 => wg (vstore T G60 t_ledger_wide (.ptr i58 [] 0) v54) fun G61 => wv (vload T G61 t_ledger_wide (.ptr i58 [] 0)) fun v62 => wv (vload T G61 t_ledger_wide (.ptr i56 [] 0)) fun v63 => ACalls P ledger_removals.n [v31] G61 fun v64 G65 => (vload T G65 t_ledger_wide (.ptr i56 [] 0) = some v63 ∧ vload T G65 t_ledger_wide (.ptr i58 [] 0) = some v62 ∧ True) ∧ (ACalls P ledger_part.n [v33, v64, .bool false, v62, v63] G65 fun v66 G67 => wv (vextract v66 0) fun v68 => wv (vextract v66 1) fun v69 => wv (vextract v66 2) fun v70 => wg (vstore T G67 t_ledger_wide (.ptr i58 [] 0) v68) fun G71 => wg (vstore T G71 t_ledger_wide (.ptr i56 [] 0) v69) fun G72 => wv (vload T G72 t_ledger_wide (.ptr i56 [] 0)) fun v73 => wv (vload T G72 t_ledger_wide (.ptr i58 [] 0)) fun v74 => ACalls P ledger_wide_value.n [v73] G72 fun v75 G76 => (vload T G76 t_ledger_wide (.ptr i58 [] 0) = some v74 ∧ True) ∧ (ACalls P ledger_wide_value.n [v74] G76 fun v77 G78 => aAppend T G78 t_sl_api_Pending t_sl_api_Pending v55 v70 fun v79 G80 => wv (vbuild T t_api_Ledger [(0, v75), (1, v77), (2, v79)]) fun v81 => aNew G80 (.own (z_api_Ledger)) fun i82 G83 => wg (vstore T G83 t_api_Ledger (.ptr i82 [] 0) v81) fun G84 => let J97 : AVal → Heap → Prop := (fun x90 G89 => brB (some x90)
  (wv (vbuild T t_api_Ledger []) fun v91 => wg (vstore T G89 t_api_Ledger (.ptr i3 [] 0) v91) fun G92 => wv (vload T G92 t_api_Ledger (.ptr i3 [] 0)) fun v93 => Q (.tuple [v93, .int .i64 130]) G92)
  (wv (vload T G89 t_api_Ledger (.ptr i82 [] 0)) fun v94 => wg (vstore T G89 t_api_Ledger (.ptr i3 [] 0) v94) fun G95 => wv (vload T G95 t_api_Ledger (.ptr i3 [] 0)) fun v96 => Q (.tuple [v96, .int .i64 0]) G95));
  wv (vload T G84 t_int64 (.ptr i82 [0] 0)) fun v85 => wv (vbin T .lss t_int64 v85 (.int .i64 0)) fun v86 => brB (some v86)
  (J97 (.bool true) G84)
  (wv (vload T G84 t_int64 (.ptr i82 [1] 1)) fun v87 => wv (vbin T .lss t_int64 v87 (.int .i64 0)) fun v88 => J97 v88 G84)))));
  ACalls P slices_ContainsFunc_escrow_api_Update_escrow_api_Update.n [v31, .func (.func ledger_invalid.n) [] []] G23 fun v34 G35 => brB (some v34)
  (J98 (.bool true) G35)
  (ACalls P slices_ContainsFunc_escrow_api_Update_escrow_api_Update.n [v33, .func (.func ledger_invalid.n) [] []] G35 fun v36 G37 => J98 v36 G37))));
  wv (vload T G4 t_int (.ptr i1 [0] 0)) fun v5 => wv (vbin T .lss t_int v5 (.int .i64 0)) fun v6 => brB (some v6)
  (J99 (.bool true) G4)
  (wv (vload T G4 t_int (.ptr i1 [0] 0)) fun v7 => wv (vlen T G4 t_sl_api_Update a2) fun v8 => wv (vbin T .gtr t_int v7 v8) fun v9 => brB (some v9)
  (J99 (.bool true) G4)
  (wv (vload T G4 t_int (.ptr i1 [1] 1)) fun v10 => wv (vbin T .lss t_int v10 (.int .i64 0)) fun v11 => brB (some v11)
  (J99 (.bool true) G4)
  (wv (vload T G4 t_int (.ptr i1 [1] 1)) fun v12 => wv (vlen T G4 t_sl_api_Update a3) fun v13 => wv (vbin T .gtr t_int v12 v13) fun v14 => J99 v14 G4)))
def ledger_Fold.an : Ann := .two (.nil) (.two (.nil) (.two (.nil) (.two (.ord [(0, []), (1, []), (2, []), (3, []), (4, []), (5, []), (6, []), (7, []), (8, []), (9, [])]) (.two (.nil) (.two (.nil) (.two (.ord [(0, []), (1, []), (3, []), (4, []), (2, [3, 4]), (5, []), (6, []), (7, []), (8, []), (9, []), (10, []), (11, []), (12, [])]) (.two (.ord [(0, []), (2, []), (4, []), (5, []), (1, [2]), (3, []), (6, []), (7, []), (8, []), (9, [])]) (.nil))))))))
set_option maxRecDepth 100000 in
theorem ledger_Fold.sound {a0 a1 a2 a3 a4 : AVal} {G : Heap} {Q : AVal → Heap → Prop} (h : ledger_Fold.S a0 a1 a2 a3 a4 G Q) : ACalls P ledger_Fold.n [a0, a1, a2, a3, a4] G Q := by
  have e : ledger_Fold.S a0 a1 a2 a3 a4 G Q = awp cx (ledger_Fold.body) ledger_Fold.an (bodyQ T [.cell 10 94, .tmp 11] Q) (envL [a0, a1, a2, a3, a4]) G := by kernel_rfl
  exact ACalls_of_awp cxOk (f := ledger_Fold.n) (fn := Tryz.f44) (c := ledger_Fold.body) (an := ledger_Fold.an) Tryz.func44 (by kernel_rfl) (by kernel_rfl) (by kernel_rfl) (drawsOk_of (by kernel_rfl) (by kernel_rfl)) (by simp [Tryz.f44]) (e ▸ h)

end Go.Esc.M
