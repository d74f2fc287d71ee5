/- Printed by gen.py (own work): functions of the program Ytjfnbjpggfjhnaa over trees and the abstract heap. -/
import Derived.Test.YtjfnbjpggfjhnaaT
set_option linter.unusedSimpArgs false
set_option linter.unusedVariables false
namespace Go.Esc.M
open Go Go.Esc Go.Proofs

/-! #### escrow/escrowlaw11.SealRights -/
def escrowlaw11_SealRights.S (a0 a1 a2 : AVal) (G : Heap) (Q : AVal → Heap → Prop) : Prop :=
  aNew G (.own (a0)) fun i1 G2 => aNew G2 (.own (a2)) fun i3 G4 => wv (vload T G4 t_api_Hash (.ptr i1 [] 0)) fun v5 => wv (vload T G4 t_api_Hash (.ptr i3 [] 0)) fun v6 => ACalls P seal_Right.n [v5, a1, v6] G4 fun v7 G8 => wv (vload T G8 t_api_Hash (.ptr i1 [] 0)) fun v9 => wv (vload T G8 t_api_Hash (.ptr i3 [] 0)) fun v10 => ACalls P escrowref11_Right.n [v9, a1, v10] G8 fun v11 G12 => wv (vbin T .eql t_bool v7 v11) fun v13 => brB (some v13)
  (ACalls P escrowlaw11_first.n [] G12 fun v14 G15 => Q v14 G15)
  (Q (.bool false) G12)
def escrowlaw11_SealRights.an : Ann := .nil
set_option maxRecDepth 100000 in
theorem escrowlaw11_SealRights.sound {a0 a1 a2 : AVal} {G : Heap} {Q : AVal → Heap → Prop} (h : escrowlaw11_SealRights.S a0 a1 a2 G Q) : ACalls P escrowlaw11_SealRights.n [a0, a1, a2] G Q := by
  have e : escrowlaw11_SealRights.S a0 a1 a2 G Q = awp cx (escrowlaw11_SealRights.body) escrowlaw11_SealRights.an (bodyQ T [.tmp 6] Q) (envL [a0, a1, a2]) G := by kernel_rfl
  exact ACalls_of_awp cxOk (f := escrowlaw11_SealRights.n) (fn := Try.f4) (c := escrowlaw11_SealRights.body) (an := escrowlaw11_SealRights.an) Try.func4 (by kernel_rfl) (by kernel_rfl) (by kernel_rfl) (drawsOk_of (by kernel_rfl) (by kernel_rfl)) (by simp [Try.f4]) (e ▸ h)

/-! #### escrow/escrowlaw11.SealOne -/
def escrowlaw11_SealOne.S (a0 a1 a2 a3 : AVal) (G : Heap) (Q : AVal → Heap → Prop) : Prop :=
  aNew G (.own (a0)) fun i1 G2 => aNew G2 (.own (a2)) fun i3 G4 => wv (vload T G4 t_api_Hash (.ptr i1 [] 0)) fun v5 => ACalls P seal_Sign.n [v5, a1] G4 fun v6 G7 => aNew G7 (.own (z_api_Hash)) fun i8 G9 => wg (vstore T G9 t_api_Hash (.ptr i8 [] 0) v6) fun G10 => wv (vload T G10 t_api_Hash (.ptr i8 [] 0)) fun v11 => aNew G10 (.own (z_api_Hash)) fun i12 G13 => wg (vstore T G13 t_api_Hash (.ptr i12 [] 0) v11) fun G14 => wv (vbin T .and t_int a3 (.int .i64 255)) fun v15 => wv (vbin T .quo t_int v15 (.int .i64 8)) fun v16 => wv (vbin T .quo t_int v15 (.int .i64 8)) fun v17 => wv (viaddr T t_api_Hash (.ptr i12 [] 0) v17) fun v18 => wv (vload T G14 t_uint8 v18) fun v19 => wv (vbin T .rem t_int v15 (.int .i64 8)) fun v20 => wv (vbin T .shl t_uint8 (.int .u8 1) v20) fun v21 => wv (vbin T .xor t_uint8 v19 v21) fun v22 => wv (viaddr T t_api_Hash (.ptr i12 [] 0) v16) fun v23 => wg (vstore T G14 t_uint8 v23 v22) fun G24 => wv (vload T G24 t_api_Hash (.ptr i1 [] 0)) fun v25 => wv (vload T G24 t_api_Hash (.ptr i8 [] 0)) fun v26 => ACalls P seal_Right.n [v25, a1, v26] G24 fun v27 G28 => brB (some v27)
  (wv (vload T G28 t_api_Hash (.ptr i1 [] 0)) fun v29 => wv (vload T G28 t_api_Hash (.ptr i12 [] 0)) fun v30 => ACalls P seal_Right.n [v29, a1, v30] G28 fun v31 G32 => wv (vun .not v31) fun v33 => brB (some v33)
  (wv (vload T G32 t_api_Hash (.ptr i1 [] 0)) fun v34 => wv (vload T G32 t_api_Hash (.ptr i3 [] 0)) fun v35 => wv (vload T G32 t_api_Hash (.ptr i3 [] 0)) fun v36 => wv (vload T G32 t_api_Hash (.ptr i8 [] 0)) fun v37 => wv (vbin T .eql t_api_Hash v36 v37) fun v38 => ACalls P seal_Right.n [v34, a1, v35] G32 fun v39 G40 => (vload T G40 t_api_Hash (.ptr i8 [] 0) = some v37 ∧ vload T G40 t_api_Hash (.ptr i3 [] 0) = some v36 ∧ True) ∧ (wv (vbin T .eql t_bool v39 v38) fun v41 => brB (some v41)
  (wv (vload T G40 t_api_Hash (.ptr i1 [] 0)) fun v42 => wv (vload T G40 t_api_Hash (.ptr i8 [] 0)) fun v43 => ACalls P seal_Sign.n [v42, a1] G40 fun v44 G45 => (vload T G45 t_api_Hash (.ptr i8 [] 0) = some v43 ∧ True) ∧ (wv (vbin T .eql t_api_Hash v44 v43) fun v46 => brB (some v46)
  (ACalls P escrowlaw11_first.n [] G45 fun v47 G48 => Q v47 G48)
  (Q (.bool false) G45)))
  (Q (.bool false) G40)))
  (Q (.bool false) G32))
  (Q (.bool false) G28)
def escrowlaw11_SealOne.an : Ann := .two (.nil) (.two (.nil) (.two (.nil) (.two (.nil) (.two (.ord [(0, []), (1, []), (2, []), (3, []), (4, []), (5, []), (6, []), (7, []), (8, []), (9, []), (10, []), (11, [])]) (.two (.ord [(0, []), (1, []), (2, []), (3, []), (4, []), (5, []), (6, []), (7, []), (8, []), (9, []), (10, []), (11, []), (12, []), (13, []), (14, []), (16, []), (17, []), (18, []), (15, [16, 17]), (19, []), (20, []), (21, []), (22, []), (23, []), (25, []), (24, [25]), (26, []), (27, []), (28, []), (29, []), (30, []), (31, [])]) (.nil))))))
set_option maxRecDepth 100000 in
theorem escrowlaw11_SealOne.sound {a0 a1 a2 a3 : AVal} {G : Heap} {Q : AVal → Heap → Prop} (h : escrowlaw11_SealOne.S a0 a1 a2 a3 G Q) : ACalls P escrowlaw11_SealOne.n [a0, a1, a2, a3] G Q := by
  have e : escrowlaw11_SealOne.S a0 a1 a2 a3 G Q = awp cx (escrowlaw11_SealOne.body) escrowlaw11_SealOne.an (bodyQ T [.tmp 8] Q) (envL [a0, a1, a2, a3]) G := by kernel_rfl
  exact ACalls_of_awp cxOk (f := escrowlaw11_SealOne.n) (fn := Try.f5) (c := escrowlaw11_SealOne.body) (an := escrowlaw11_SealOne.an) Try.func5 (by kernel_rfl) (by kernel_rfl) (by kernel_rfl) (drawsOk_of (by kernel_rfl) (by kernel_rfl)) (by simp [Try.f5]) (e ▸ h)

end Go.Esc.M
