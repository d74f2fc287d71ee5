/- Printed by gen.py (own work): functions of the program Ytdoelihemgopcaa over trees and the abstract heap. -/
import Derived.Test.YtdoelihemgopcaaT
set_option linter.unusedSimpArgs false
set_option linter.unusedVariables false
namespace Go.Esc.M
open Go Go.Esc Go.Proofs

/-! #### escrow/record.of -/
def record_of.S (a0 : AVal) (G : Heap) (Q : AVal → Heap → Prop) : Prop :=
  aNew G (.own (a0)) fun i1 G2 => wv (vload T G2 t_int (.ptr i1 [0] 0)) fun v3 => wv (vbin T .eql t_int v3 (.int .i64 1)) fun v4 => brB (some v4)
  (wv (vload T G2 t_api_Update (.ptr i1 [1] 1)) fun v5 => wv (vbuild T t_record_ours [(0, v5)]) fun v6 => Q (.iface t_record_ours v6) G2)
  (wv (vbin T .eql t_int v3 (.int .i64 2)) fun v7 => brB (some v7)
  (wv (vload T G2 t_int64 (.ptr i1 [3] 38)) fun v8 => wv (vload T G2 t_api_Counts (.ptr i1 [4] 39)) fun v9 => wv (vbuild T t_record_signed [(0, v8), (1, v9)]) fun v10 => Q (.iface t_record_signed v10) G2)
  (wv (vbin T .eql t_int v3 (.int .i64 3)) fun v11 => brB (some v11)
  (wv (vload T G2 t_int64 (.ptr i1 [3] 38)) fun v12 => wv (vload T G2 t_sl_api_Update (.ptr i1 [2] 37)) fun v13 => wv (vload T G2 t_api_Hash (.ptr i1 [5] 41)) fun v14 => wv (vbuild T t_record_came [(0, v12), (1, v13), (2, v14)]) fun v15 => Q (.iface t_record_came v15) G2)
  (wv (vbin T .eql t_int v3 (.int .i64 4)) fun v16 => brB (some v16)
  (wv (vload T G2 t_int64 (.ptr i1 [3] 38)) fun v17 => wv (vload T G2 t_api_Hash (.ptr i1 [6] 73)) fun v18 => wv (vload T G2 t_api_Hash (.ptr i1 [7] 105)) fun v19 => wv (vbuild T t_record_revoked [(0, v17), (1, v18), (2, v19)]) fun v20 => Q (.iface t_record_revoked v20) G2)
  (wv (vbin T .eql t_int v3 (.int .i64 5)) fun v21 => brB (some v21)
  (wv (vload T G2 t_int (.ptr i1 [8] 137)) fun v22 => wv (vbuild T t_record_failed [(0, v22)]) fun v23 => Q (.iface t_record_failed v23) G2)
  (wv (vbin T .eql t_int v3 (.int .i64 6)) fun v24 => brB (some v24)
  (wv (vload T G2 t_int64 (.ptr i1 [3] 38)) fun v25 => wv (vbuild T t_record_closed [(0, v25)]) fun v26 => Q (.iface t_record_closed v26) G2)
  (Q (.nilIface) G2))))))
def record_of.an : Ann := .nil
set_option maxRecDepth 100000 in
theorem record_of.sound {a0 : AVal} {G : Heap} {Q : AVal → Heap → Prop} (h : record_of.S a0 G Q) : ACalls P record_of.n [a0] G Q := by
  have e : record_of.S a0 G Q = awp cx (record_of.body) record_of.an (bodyQ T [.tmp 2] Q) (envL [a0]) G := by kernel_rfl
  exact ACalls_of_awp cxOk (f := record_of.n) (fn := Try.f27) (c := record_of.body) (an := record_of.an) Try.func27 (by kernel_rfl) (by kernel_rfl) (by kernel_rfl) (drawsOk_of (by kernel_rfl) (by kernel_rfl)) (by simp [Try.f27]) (e ▸ h)

/-! #### slices.Equal[[]escrow/api.Update,escrow/api.Update] -/
def slices_Equal_escrow_api_Update_escrow_api_Update.S (a0 a1 : AVal) (G : Heap) (Q : AVal → Heap → Prop) : Prop :=
  wv (vlen T G t_sl_api_Update a0) fun v1 => wv (vlen T G t_sl_api_Update a1) fun v2 => wv (vbin T .neq t_int v1 v2) fun v3 => brB (some v3)
  (Q (.bool false) G)
  (wv (vlen T G t_sl_api_Update a0) fun v4 => ∀ R5 : List AVal → Heap → Prop,
  (∀ (x7 x8 x9 x10 : AVal) (G6 : Heap), (wv (vbin T .lss t_int x10 x9) fun v11 => brB (some v11)
  (wv (viaddr T t_sl_api_Update x7 x10) fun v12 => wv (vload T G6 t_api_Update v12) fun v13 => wv (viaddr T t_sl_api_Update x8 x10) fun v14 => wv (vload T G6 t_api_Update v14) fun v15 => wv (vbin T .neq t_api_Update v13 v15) fun v16 => brB (some v16)
  (Q (.bool false) G6)
  (wv (vbin T .add t_int x10 (.int .i64 1)) fun v17 => R5 [x7, x8, x9, v17] G6))
  (Q (.bool true) G6)) → R5 [x7, x8, x9, x10] G6) →
  R5 [a0, a1, v4, .int .i64 0] G)
def slices_Equal_escrow_api_Update_escrow_api_Update.an : Ann := .two (.nil) (.two (.nil) (.two (.two (.nil) (.loop [0, 1, 12, 13] [false, false, false, false] (.two (.nil) (.two (.nil) (.two (.two (.nil) (.two (.ord [(0, []), (1, []), (2, []), (3, []), (4, []), (5, []), (6, []), (7, []), (8, [])]) (.nil))) (.nil)))))) (.nil)))
set_option maxRecDepth 100000 in
theorem slices_Equal_escrow_api_Update_escrow_api_Update.sound {a0 a1 : AVal} {G : Heap} {Q : AVal → Heap → Prop} (h : slices_Equal_escrow_api_Update_escrow_api_Update.S a0 a1 G Q) : ACalls P slices_Equal_escrow_api_Update_escrow_api_Update.n [a0, a1] G Q := by
  have e : slices_Equal_escrow_api_Update_escrow_api_Update.S a0 a1 G Q = awp cx (slices_Equal_escrow_api_Update_escrow_api_Update.body) slices_Equal_escrow_api_Update_escrow_api_Update.an (bodyQ T [.tmp 4] Q) (envL [a0, a1]) G := by kernel_rfl
  exact ACalls_of_awp cxOk (f := slices_Equal_escrow_api_Update_escrow_api_Update.n) (fn := Try.f35) (c := slices_Equal_escrow_api_Update_escrow_api_Update.body) (an := slices_Equal_escrow_api_Update_escrow_api_Update.an) Try.func35 (by kernel_rfl) (by kernel_rfl) (by kernel_rfl) (drawsOk_of (by kernel_rfl) (by kernel_rfl)) (by simp [Try.f35]) (e ▸ h)

/-! #### escrow/record.same -/
def record_same.S (a0 a1 : AVal) (G : Heap) (Q : AVal → Heap → Prop) : Prop :=
  aNew G (.own (a0)) fun i1 G2 => aNew G2 (.own (a1)) fun i3 G4 => wv (vload T G4 t_int (.ptr i1 [0] 0)) fun v5 => wv (vload T G4 t_int (.ptr i3 [0] 0)) fun v6 => wv (vbin T .eql t_int v5 v6) fun v7 => brB (some v7)
  (wv (vload T G4 t_api_Update (.ptr i1 [1] 1)) fun v8 => wv (vload T G4 t_api_Update (.ptr i3 [1] 1)) fun v9 => wv (vbin T .eql t_api_Update v8 v9) fun v10 => brB (some v10)
  (wv (vload T G4 t_sl_api_Update (.ptr i1 [2] 37)) fun v11 => wv (vload T G4 t_sl_api_Update (.ptr i3 [2] 37)) fun v12 => ACalls P slices_Equal_escrow_api_Update_escrow_api_Update.n [v11, v12] G4 fun v13 G14 => brB (some v13)
  (wv (vload T G14 t_int64 (.ptr i1 [3] 38)) fun v15 => wv (vload T G14 t_int64 (.ptr i3 [3] 38)) fun v16 => wv (vbin T .eql t_int64 v15 v16) fun v17 => brB (some v17)
  (wv (vload T G14 t_api_Counts (.ptr i1 [4] 39)) fun v18 => wv (vload T G14 t_api_Counts (.ptr i3 [4] 39)) fun v19 => wv (vbin T .eql t_api_Counts v18 v19) fun v20 => brB (some v20)
  (wv (vload T G14 t_api_Hash (.ptr i1 [5] 41)) fun v21 => wv (vload T G14 t_api_Hash (.ptr i3 [5] 41)) fun v22 => wv (vbin T .eql t_api_Hash v21 v22) fun v23 => brB (some v23)
  (wv (vload T G14 t_api_Hash (.ptr i1 [6] 73)) fun v24 => wv (vload T G14 t_api_Hash (.ptr i3 [6] 73)) fun v25 => wv (vbin T .eql t_api_Hash v24 v25) fun v26 => brB (some v26)
  (wv (vload T G14 t_api_Hash (.ptr i1 [7] 105)) fun v27 => wv (vload T G14 t_api_Hash (.ptr i3 [7] 105)) fun v28 => wv (vbin T .eql t_api_Hash v27 v28) fun v29 => brB (some v29)
  (wv (vload T G14 t_int (.ptr i1 [8] 137)) fun v30 => wv (vload T G14 t_int (.ptr i3 [8] 137)) fun v31 => wv (vbin T .eql t_int v30 v31) fun v32 => Q v32 G14)
  (Q (.bool false) G14))
  (Q (.bool false) G14))
  (Q (.bool false) G14))
  (Q (.bool false) G14))
  (Q (.bool false) G14))
  (Q (.bool false) G14))
  (Q (.bool false) G4))
  (Q (.bool false) G4)
def record_same.an : Ann := .nil
set_option maxRecDepth 100000 in
theorem record_same.sound {a0 a1 : AVal} {G : Heap} {Q : AVal → Heap → Prop} (h : record_same.S a0 a1 G Q) : ACalls P record_same.n [a0, a1] G Q := by
  have e : record_same.S a0 a1 G Q = awp cx (record_same.body) record_same.an (bodyQ T [.tmp 4] Q) (envL [a0, a1]) G := by kernel_rfl
  exact ACalls_of_awp cxOk (f := record_same.n) (fn := Try.f28) (c := record_same.body) (an := record_same.an) Try.func28 (by kernel_rfl) (by kernel_rfl) (by kernel_rfl) (drawsOk_of (by kernel_rfl) (by kernel_rfl)) (by simp [Try.f28]) (e ▸ h)

/-! #### (escrow/record.ours).record -/
def record_ours_record.S (a0 : AVal) (G : Heap) (Q : AVal → Heap → Prop) : Prop :=
  aNew G (.own (a0)) fun i1 G2 => aNew G2 (.own (z_api_Record)) fun i3 G4 => wv (vload T G4 t_api_Update (.ptr i1 [0] 0)) fun v5 => wv (vbuild T t_api_Record [(0, .int .i64 1), (1, v5)]) fun v6 => wg (vstore T G4 t_api_Record (.ptr i3 [] 0) v6) fun G7 => wv (vload T G7 t_api_Record (.ptr i3 [] 0)) fun v8 => Q v8 G7
def record_ours_record.an : Ann := .nil
set_option maxRecDepth 100000 in
theorem record_ours_record.sound {a0 : AVal} {G : Heap} {Q : AVal → Heap → Prop} (h : record_ours_record.S a0 G Q) : ACalls P record_ours_record.n [a0] G Q := by
  have e : record_ours_record.S a0 G Q = awp cx (record_ours_record.body) record_ours_record.an (bodyQ T [.cell 2 35] Q) (envL [a0]) G := by kernel_rfl
  exact ACalls_of_awp cxOk (f := record_ours_record.n) (fn := Try.f58) (c := record_ours_record.body) (an := record_ours_record.an) Try.func58 (by kernel_rfl) (by kernel_rfl) (by kernel_rfl) (drawsOk_of (by kernel_rfl) (by kernel_rfl)) (by simp [Try.f58]) (e ▸ h)

/-! #### escrow/update.Valid -/
def update_Valid.S (a0 : AVal) (G : Heap) (Q : AVal → Heap → Prop) : Prop :=
  aNew G (.own (a0)) fun i1 G2 => let J37 : AVal → Heap → Prop := (fun x8 G7 => brB (some x8)
  (Q (.bool false) G7)
  (wv (vload T G7 t_int (.ptr i1 [0] 0)) fun v9 => wv (vbin T .eql t_int v9 (.int .i64 1)) fun v10 => brB (some v10)
  (wv (vload T G7 t_int64 (.ptr i1 [2] 2)) fun v11 => wv (vbin T .geq t_int64 v11 (.int .i64 1)) fun v12 => brB (some v12)
  (wv (vload T G7 t_int64 (.ptr i1 [2] 2)) fun v13 => wv (vbin T .leq t_int64 v13 (.int .i64 1152921504606846976)) fun v14 => brB (some v14)
  (wv (vload T G7 t_string (.ptr i1 [4] 35)) fun v15 => wv (vbin T .eql t_string v15 (.str [])) fun v16 => Q v16 G7)
  (Q (.bool false) G7))
  (Q (.bool false) G7))
  (wv (vbin T .eql t_int v9 (.int .i64 2)) fun v19 => brB (some v19)
  (wv (vload T G7 t_int64 (.ptr i1 [2] 2)) fun v20 => wv (vbin T .eql t_int64 v20 (.int .i64 0)) fun v21 => brB (some v21)
  (wv (vload T G7 t_string (.ptr i1 [4] 35)) fun v22 => wv (vbin T .eql t_string v22 (.str [])) fun v23 => Q v23 G7)
  (Q (.bool false) G7))
  (wv (vbin T .eql t_int v9 (.int .i64 3)) fun v26 => brB (some v26)
  (wv (vload T G7 t_int64 (.ptr i1 [2] 2)) fun v27 => wv (vbin T .eql t_int64 v27 (.int .i64 0)) fun v28 => brB (some v28)
  (wv (vload T G7 t_api_Hash (.ptr i1 [3] 3)) fun v29 => wv (vbuild T t_api_Hash []) fun v30 => wv (vbin T .eql t_api_Hash v29 v30) fun v31 => brB (some v31)
  (wv (vload T G7 t_string (.ptr i1 [4] 35)) fun v32 => wv (vlen T G7 t_string v32) fun v33 => wv (vbin T .leq t_int v33 (.int .i64 64)) fun v34 => Q v34 G7)
  (Q (.bool false) G7))
  (Q (.bool false) G7))
  (Q (.bool false) G7)))));
  wv (vload T G2 t_int64 (.ptr i1 [1] 1)) fun v3 => wv (vbin T .lss t_int64 v3 (.int .i64 0)) fun v4 => brB (some v4)
  (J37 (.bool true) G2)
  (wv (vload T G2 t_int64 (.ptr i1 [1] 1)) fun v5 => wv (vbin T .geq t_int64 v5 (.int .i64 2048)) fun v6 => J37 v6 G2)
def update_Valid.an : Ann := .nil
set_option maxRecDepth 100000 in
theorem update_Valid.sound {a0 : AVal} {G : Heap} {Q : AVal → Heap → Prop} (h : update_Valid.S a0 G Q) : ACalls P update_Valid.n [a0] G Q := by
  have e : update_Valid.S a0 G Q = awp cx (update_Valid.body) update_Valid.an (bodyQ T [.tmp 2] Q) (envL [a0]) G := by kernel_rfl
  exact ACalls_of_awp cxOk (f := update_Valid.n) (fn := Try.f39) (c := update_Valid.body) (an := update_Valid.an) Try.func39 (by kernel_rfl) (by kernel_rfl) (by kernel_rfl) (drawsOk_of (by kernel_rfl) (by kernel_rfl)) (by simp [Try.f39]) (e ▸ h)

/-! #### (escrow/record.ours).valid -/
def record_ours_valid.S (a0 : AVal) (G : Heap) (Q : AVal → Heap → Prop) : Prop :=
  aNew G (.own (a0)) fun i1 G2 => wv (vload T G2 t_api_Update (.ptr i1 [0] 0)) fun v3 => ACalls P update_Valid.n [v3] G2 fun v4 G5 => Q v4 G5
def record_ours_valid.an : Ann := .nil
set_option maxRecDepth 100000 in
theorem record_ours_valid.sound {a0 : AVal} {G : Heap} {Q : AVal → Heap → Prop} (h : record_ours_valid.S a0 G Q) : ACalls P record_ours_valid.n [a0] G Q := by
  have e : record_ours_valid.S a0 G Q = awp cx (record_ours_valid.body) record_ours_valid.an (bodyQ T [.tmp 2] Q) (envL [a0]) G := by kernel_rfl
  exact ACalls_of_awp cxOk (f := record_ours_valid.n) (fn := Try.f59) (c := record_ours_valid.body) (an := record_ours_valid.an) Try.func59 (by kernel_rfl) (by kernel_rfl) (by kernel_rfl) (drawsOk_of (by kernel_rfl) (by kernel_rfl)) (by simp [Try.f59]) (e ▸ h)

/-! #### (escrow/record.signed).record -/
def record_signed_record.S (a0 : AVal) (G : Heap) (Q : AVal → Heap → Prop) : Prop :=
  aNew G (.own (a0)) fun i1 G2 => aNew G2 (.own (z_api_Record)) fun i3 G4 => wv (vload T G4 t_int64 (.ptr i1 [0] 0)) fun v5 => wv (vload T G4 t_api_Counts (.ptr i1 [1] 1)) fun v6 => wv (vbuild T t_api_Record [(0, .int .i64 2), (3, v5), (4, v6)]) fun v7 => wg (vstore T G4 t_api_Record (.ptr i3 [] 0) v7) fun G8 => wv (vload T G8 t_api_Record (.ptr i3 [] 0)) fun v9 => Q v9 G8
def record_signed_record.an : Ann := .nil
set_option maxRecDepth 100000 in
theorem record_signed_record.sound {a0 : AVal} {G : Heap} {Q : AVal → Heap → Prop} (h : record_signed_record.S a0 G Q) : ACalls P record_signed_record.n [a0] G Q := by
  have e : record_signed_record.S a0 G Q = awp cx (record_signed_record.body) record_signed_record.an (bodyQ T [.cell 2 35] Q) (envL [a0]) G := by kernel_rfl
  exact ACalls_of_awp cxOk (f := record_signed_record.n) (fn := Try.f88) (c := record_signed_record.body) (an := record_signed_record.an) Try.func88 (by kernel_rfl) (by kernel_rfl) (by kernel_rfl) (drawsOk_of (by kernel_rfl) (by kernel_rfl)) (by simp [Try.f88]) (e ▸ h)

/-! #### escrow/record.isIndex -/
def record_isIndex.S (a0 : AVal) (G : Heap) (Q : AVal → Heap → Prop) : Prop :=
  wv (vbin T .geq t_int64 a0 (.int .i64 0)) fun v1 => brB (some v1)
  (wv (vbin T .leq t_int64 a0 (.int .i64 281474976710655)) fun v2 => Q v2 G)
  (Q (.bool false) G)
def record_isIndex.an : Ann := .nil
set_option maxRecDepth 100000 in
theorem record_isIndex.sound {a0 : AVal} {G : Heap} {Q : AVal → Heap → Prop} (h : record_isIndex.S a0 G Q) : ACalls P record_isIndex.n [a0] G Q := by
  have e : record_isIndex.S a0 G Q = awp cx (record_isIndex.body) record_isIndex.an (bodyQ T [.tmp 2] Q) (envL [a0]) G := by kernel_rfl
  exact ACalls_of_awp cxOk (f := record_isIndex.n) (fn := Try.f91) (c := record_isIndex.body) (an := record_isIndex.an) Try.func91 (by kernel_rfl) (by kernel_rfl) (by kernel_rfl) (drawsOk_of (by kernel_rfl) (by kernel_rfl)) (by simp [Try.f91]) (e ▸ h)

/-! #### escrow/record.isCount -/
def record_isCount.S (a0 : AVal) (G : Heap) (Q : AVal → Heap → Prop) : Prop :=
  wv (vbin T .geq t_int a0 (.int .i64 0)) fun v1 => brB (some v1)
  (wv (vbin T .leq t_int a0 (.int .i64 2048)) fun v2 => Q v2 G)
  (Q (.bool false) G)
def record_isCount.an : Ann := .nil
set_option maxRecDepth 100000 in
theorem record_isCount.sound {a0 : AVal} {G : Heap} {Q : AVal → Heap → Prop} (h : record_isCount.S a0 G Q) : ACalls P record_isCount.n [a0] G Q := by
  have e : record_isCount.S a0 G Q = awp cx (record_isCount.body) record_isCount.an (bodyQ T [.tmp 2] Q) (envL [a0]) G := by kernel_rfl
  exact ACalls_of_awp cxOk (f := record_isCount.n) (fn := Try.f92) (c := record_isCount.body) (an := record_isCount.an) Try.func92 (by kernel_rfl) (by kernel_rfl) (by kernel_rfl) (drawsOk_of (by kernel_rfl) (by kernel_rfl)) (by simp [Try.f92]) (e ▸ h)

/-! #### (escrow/record.signed).valid -/
def record_signed_valid.S (a0 : AVal) (G : Heap) (Q : AVal → Heap → Prop) : Prop :=
  aNew G (.own (a0)) fun i1 G2 => wv (vload T G2 t_int64 (.ptr i1 [0] 0)) fun v3 => ACalls P record_isIndex.n [v3] G2 fun v4 G5 => brB (some v4)
  (wv (vload T G5 t_int (.ptr i1 [1, 0] 1)) fun v6 => ACalls P record_isCount.n [v6] G5 fun v7 G8 => brB (some v7)
  (wv (vload T G8 t_int (.ptr i1 [1, 1] 2)) fun v9 => ACalls P record_isCount.n [v9] G8 fun v10 G11 => Q v10 G11)
  (Q (.bool false) G8))
  (Q (.bool false) G5)
def record_signed_valid.an : Ann := .nil
set_option maxRecDepth 100000 in
theorem record_signed_valid.sound {a0 : AVal} {G : Heap} {Q : AVal → Heap → Prop} (h : record_signed_valid.S a0 G Q) : ACalls P record_signed_valid.n [a0] G Q := by
  have e : record_signed_valid.S a0 G Q = awp cx (record_signed_valid.body) record_signed_valid.an (bodyQ T [.tmp 2] Q) (envL [a0]) G := by kernel_rfl
  exact ACalls_of_awp cxOk (f := record_signed_valid.n) (fn := Try.f89) (c := record_signed_valid.body) (an := record_signed_valid.an) Try.func89 (by kernel_rfl) (by kernel_rfl) (by kernel_rfl) (drawsOk_of (by kernel_rfl) (by kernel_rfl)) (by simp [Try.f89]) (e ▸ h)

/-! #### (escrow/record.came).record -/
def record_came_record.S (a0 : AVal) (G : Heap) (Q : AVal → Heap → Prop) : Prop :=
  aNew G (.own (a0)) fun i1 G2 => aNew G2 (.own (z_api_Record)) fun i3 G4 => wv (vload T G4 t_int64 (.ptr i1 [0] 0)) fun v5 => wv (vload T G4 t_sl_api_Update (.ptr i1 [1] 1)) fun v6 => wv (vload T G4 t_api_Hash (.ptr i1 [2] 2)) fun v7 => wv (vbuild T t_api_Record [(0, .int .i64 3), (3, v5), (2, v6), (5, v7)]) fun v8 => wg (vstore T G4 t_api_Record (.ptr i3 [] 0) v8) fun G9 => wv (vload T G9 t_api_Record (.ptr i3 [] 0)) fun v10 => Q v10 G9
def record_came_record.an : Ann := .nil
set_option maxRecDepth 100000 in
theorem record_came_record.sound {a0 : AVal} {G : Heap} {Q : AVal → Heap → Prop} (h : record_came_record.S a0 G Q) : ACalls P record_came_record.n [a0] G Q := by
  have e : record_came_record.S a0 G Q = awp cx (record_came_record.body) record_came_record.an (bodyQ T [.cell 2 35] Q) (envL [a0]) G := by kernel_rfl
  exact ACalls_of_awp cxOk (f := record_came_record.n) (fn := Try.f94) (c := record_came_record.body) (an := record_came_record.an) Try.func94 (by kernel_rfl) (by kernel_rfl) (by kernel_rfl) (drawsOk_of (by kernel_rfl) (by kernel_rfl)) (by simp [Try.f94]) (e ▸ h)

/-! #### slices.IndexFunc[[]escrow/api.Update,escrow/api.Update] -/
def slices_IndexFunc_escrow_api_Update_escrow_api_Update.S (a0 a1 : AVal) (G : Heap) (Q : AVal → Heap → Prop) : Prop :=
  wv (vlen T G t_sl_api_Update a0) fun v1 => ∀ R2 : List AVal → Heap → Prop,
  (∀ (x4 x5 x6 x7 : AVal) (G3 : Heap), (wv (vbin T .lss t_int x7 x6) fun v8 => brB (some v8)
  (wv (viaddr T t_sl_api_Update x4 x7) fun v9 => wv (vload T G3 t_api_Update v9) fun v10 => aCallV P x5 [v10] G3 fun v11 G12 => brB (some v11)
  (Q x7 G12)
  (wv (vbin T .add t_int x7 (.int .i64 1)) fun v13 => R2 [x4, x5, x6, v13] G12))
  (Q (.int .i64 (-1)) G3)) → R2 [x4, x5, x6, x7] G3) →
  R2 [a0, a1, v1, .int .i64 0] G
def slices_IndexFunc_escrow_api_Update_escrow_api_Update.an : Ann := .two (.nil) (.two (.two (.nil) (.loop [0, 1, 7, 8] [false, false, false, false] (.nil))) (.nil))
set_option maxRecDepth 100000 in
theorem slices_IndexFunc_escrow_api_Update_escrow_api_Update.sound {a0 a1 : AVal} {G : Heap} {Q : AVal → Heap → Prop} (h : slices_IndexFunc_escrow_api_Update_escrow_api_Update.S a0 a1 G Q) : ACalls P slices_IndexFunc_escrow_api_Update_escrow_api_Update.n [a0, a1] G Q := by
  have e : slices_IndexFunc_escrow_api_Update_escrow_api_Update.S a0 a1 G Q = awp cx (slices_IndexFunc_escrow_api_Update_escrow_api_Update.body) slices_IndexFunc_escrow_api_Update_escrow_api_Update.an (bodyQ T [.tmp 4] Q) (envL [a0, a1]) G := by kernel_rfl
  exact ACalls_of_awp cxOk (f := slices_IndexFunc_escrow_api_Update_escrow_api_Update.n) (fn := Try.f99) (c := slices_IndexFunc_escrow_api_Update_escrow_api_Update.body) (an := slices_IndexFunc_escrow_api_Update_escrow_api_Update.an) Try.func99 (by kernel_rfl) (by kernel_rfl) (by kernel_rfl) (drawsOk_of (by kernel_rfl) (by kernel_rfl)) (by simp [Try.f99]) (e ▸ h)

/-! #### slices.ContainsFunc[[]escrow/api.Update,escrow/api.Update] -/
def slices_ContainsFunc_escrow_api_Update_escrow_api_Update.S (a0 a1 : AVal) (G : Heap) (Q : AVal → Heap → Prop) : Prop :=
  ACalls P slices_IndexFunc_escrow_api_Update_escrow_api_Update.n [a0, a1] G fun v1 G2 => wv (vbin T .geq t_int v1 (.int .i64 0)) fun v3 => Q v3 G2
def slices_ContainsFunc_escrow_api_Update_escrow_api_Update.an : Ann := .nil
set_option maxRecDepth 100000 in
theorem slices_ContainsFunc_escrow_api_Update_escrow_api_Update.sound {a0 a1 : AVal} {G : Heap} {Q : AVal → Heap → Prop} (h : slices_ContainsFunc_escrow_api_Update_escrow_api_Update.S a0 a1 G Q) : ACalls P slices_ContainsFunc_escrow_api_Update_escrow_api_Update.n [a0, a1] G Q := by
  have e : slices_ContainsFunc_escrow_api_Update_escrow_api_Update.S a0 a1 G Q = awp cx (slices_ContainsFunc_escrow_api_Update_escrow_api_Update.body) slices_ContainsFunc_escrow_api_Update_escrow_api_Update.an (bodyQ T [.tmp 4] Q) (envL [a0, a1]) G := by kernel_rfl
  exact ACalls_of_awp cxOk (f := slices_ContainsFunc_escrow_api_Update_escrow_api_Update.n) (fn := Try.f97) (c := slices_ContainsFunc_escrow_api_Update_escrow_api_Update.body) (an := slices_ContainsFunc_escrow_api_Update_escrow_api_Update.an) Try.func97 (by kernel_rfl) (by kernel_rfl) (by kernel_rfl) (drawsOk_of (by kernel_rfl) (by kernel_rfl)) (by simp [Try.f97]) (e ▸ h)

/-! #### (escrow/record.came).valid$1 -/
def record_came_valid_1.S (a0 : AVal) (G : Heap) (Q : AVal → Heap → Prop) : Prop :=
  aNew G (.own (a0)) fun i1 G2 => wv (vload T G2 t_api_Update (.ptr i1 [] 0)) fun v3 => ACalls P update_Valid.n [v3] G2 fun v4 G5 => wv (vun .not v4) fun v6 => Q v6 G5
def record_came_valid_1.an : Ann := .nil
set_option maxRecDepth 100000 in
theorem record_came_valid_1.sound {a0 : AVal} {G : Heap} {Q : AVal → Heap → Prop} (h : record_came_valid_1.S a0 G Q) : ACalls P record_came_valid_1.n [a0] G Q := by
  have e : record_came_valid_1.S a0 G Q = awp cx (record_came_valid_1.body) record_came_valid_1.an (bodyQ T [.tmp 2] Q) (envL [a0]) G := by kernel_rfl
  exact ACalls_of_awp cxOk (f := record_came_valid_1.n) (fn := Try.f98) (c := record_came_valid_1.body) (an := record_came_valid_1.an) Try.func98 (by kernel_rfl) (by kernel_rfl) (by kernel_rfl) (drawsOk_of (by kernel_rfl) (by kernel_rfl)) (by simp [Try.f98]) (e ▸ h)

/-! #### (escrow/record.came).valid -/
def record_came_valid.S (a0 : AVal) (G : Heap) (Q : AVal → Heap → Prop) : Prop :=
  aNew G (.own (a0)) fun i1 G2 => wv (vload T G2 t_int64 (.ptr i1 [0] 0)) fun v3 => ACalls P record_isIndex.n [v3] G2 fun v4 G5 => brB (some v4)
  (wv (vload T G5 t_sl_api_Update (.ptr i1 [1] 1)) fun v6 => wv (vlen T G5 t_sl_api_Update v6) fun v7 => wv (vbin T .leq t_int v7 (.int .i64 512)) fun v8 => brB (some v8)
  (wv (vload T G5 t_sl_api_Update (.ptr i1 [1] 1)) fun v9 => ACalls P slices_ContainsFunc_escrow_api_Update_escrow_api_Update.n [v9, .func (.func record_came_valid_1.n) [] []] G5 fun v10 G11 => wv (vun .not v10) fun v12 => Q v12 G11)
  (Q (.bool false) G5))
  (Q (.bool false) G5)
def record_came_valid.an : Ann := .nil
set_option maxRecDepth 100000 in
theorem record_came_valid.sound {a0 : AVal} {G : Heap} {Q : AVal → Heap → Prop} (h : record_came_valid.S a0 G Q) : ACalls P record_came_valid.n [a0] G Q := by
  have e : record_came_valid.S a0 G Q = awp cx (record_came_valid.body) record_came_valid.an (bodyQ T [.tmp 2] Q) (envL [a0]) G := by kernel_rfl
  exact ACalls_of_awp cxOk (f := record_came_valid.n) (fn := Try.f95) (c := record_came_valid.body) (an := record_came_valid.an) Try.func95 (by kernel_rfl) (by kernel_rfl) (by kernel_rfl) (drawsOk_of (by kernel_rfl) (by kernel_rfl)) (by simp [Try.f95]) (e ▸ h)

/-! #### (escrow/record.revoked).record -/
def record_revoked_record.S (a0 : AVal) (G : Heap) (Q : AVal → Heap → Prop) : Prop :=
  aNew G (.own (a0)) fun i1 G2 => aNew G2 (.own (z_api_Record)) fun i3 G4 => wv (vload T G4 t_int64 (.ptr i1 [0] 0)) fun v5 => wv (vload T G4 t_api_Hash (.ptr i1 [1] 1)) fun v6 => wv (vload T G4 t_api_Hash (.ptr i1 [2] 33)) fun v7 => wv (vbuild T t_api_Record [(0, .int .i64 4), (3, v5), (6, v6), (7, v7)]) fun v8 => wg (vstore T G4 t_api_Record (.ptr i3 [] 0) v8) fun G9 => wv (vload T G9 t_api_Record (.ptr i3 [] 0)) fun v10 => Q v10 G9
def record_revoked_record.an : Ann := .nil
set_option maxRecDepth 100000 in
theorem record_revoked_record.sound {a0 : AVal} {G : Heap} {Q : AVal → Heap → Prop} (h : record_revoked_record.S a0 G Q) : ACalls P record_revoked_record.n [a0] G Q := by
  have e : record_revoked_record.S a0 G Q = awp cx (record_revoked_record.body) record_revoked_record.an (bodyQ T [.cell 2 35] Q) (envL [a0]) G := by kernel_rfl
  exact ACalls_of_awp cxOk (f := record_revoked_record.n) (fn := Try.f101) (c := record_revoked_record.body) (an := record_revoked_record.an) Try.func101 (by kernel_rfl) (by kernel_rfl) (by kernel_rfl) (drawsOk_of (by kernel_rfl) (by kernel_rfl)) (by simp [Try.f101]) (e ▸ h)

/-! #### (escrow/record.revoked).valid -/
def record_revoked_valid.S (a0 : AVal) (G : Heap) (Q : AVal → Heap → Prop) : Prop :=
  aNew G (.own (a0)) fun i1 G2 => wv (vload T G2 t_int64 (.ptr i1 [0] 0)) fun v3 => ACalls P record_isIndex.n [v3] G2 fun v4 G5 => Q v4 G5
def record_revoked_valid.an : Ann := .nil
set_option maxRecDepth 100000 in
theorem record_revoked_valid.sound {a0 : AVal} {G : Heap} {Q : AVal → Heap → Prop} (h : record_revoked_valid.S a0 G Q) : ACalls P record_revoked_valid.n [a0] G Q := by
  have e : record_revoked_valid.S a0 G Q = awp cx (record_revoked_valid.body) record_revoked_valid.an (bodyQ T [.tmp 2] Q) (envL [a0]) G := by kernel_rfl
  exact ACalls_of_awp cxOk (f := record_revoked_valid.n) (fn := Try.f102) (c := record_revoked_valid.body) (an := record_revoked_valid.an) Try.func102 (by kernel_rfl) (by kernel_rfl) (by kernel_rfl) (drawsOk_of (by kernel_rfl) (by kernel_rfl)) (by simp [Try.f102]) (e ▸ h)

/-! #### (escrow/record.failed).record -/
def record_failed_record.S (a0 : AVal) (G : Heap) (Q : AVal → Heap → Prop) : Prop :=
  aNew G (.own (a0)) fun i1 G2 => aNew G2 (.own (z_api_Record)) fun i3 G4 => wv (vload T G4 t_int (.ptr i1 [0] 0)) fun v5 => wv (vbuild T t_api_Record [(0, .int .i64 5), (8, v5)]) fun v6 => wg (vstore T G4 t_api_Record (.ptr i3 [] 0) v6) fun G7 => wv (vload T G7 t_api_Record (.ptr i3 [] 0)) fun v8 => Q v8 G7
def record_failed_record.an : Ann := .nil
set_option maxRecDepth 100000 in
theorem record_failed_record.sound {a0 : AVal} {G : Heap} {Q : AVal → Heap → Prop} (h : record_failed_record.S a0 G Q) : ACalls P record_failed_record.n [a0] G Q := by
  have e : record_failed_record.S a0 G Q = awp cx (record_failed_record.body) record_failed_record.an (bodyQ T [.cell 2 35] Q) (envL [a0]) G := by kernel_rfl
  exact ACalls_of_awp cxOk (f := record_failed_record.n) (fn := Try.f113) (c := record_failed_record.body) (an := record_failed_record.an) Try.func113 (by kernel_rfl) (by kernel_rfl) (by kernel_rfl) (drawsOk_of (by kernel_rfl) (by kernel_rfl)) (by simp [Try.f113]) (e ▸ h)

/-! #### (escrow/record.failed).valid -/
def record_failed_valid.S (a0 : AVal) (G : Heap) (Q : AVal → Heap → Prop) : Prop :=
  aNew G (.own (a0)) fun i1 G2 => wv (vload T G2 t_int (.ptr i1 [0] 0)) fun v3 => wv (vbin T .geq t_int v3 (.int .i64 1)) fun v4 => brB (some v4)
  (wv (vload T G2 t_int (.ptr i1 [0] 0)) fun v5 => wv (vbin T .leq t_int v5 (.int .i64 65535)) fun v6 => Q v6 G2)
  (Q (.bool false) G2)
def record_failed_valid.an : Ann := .nil
set_option maxRecDepth 100000 in
theorem record_failed_valid.sound {a0 : AVal} {G : Heap} {Q : AVal → Heap → Prop} (h : record_failed_valid.S a0 G Q) : ACalls P record_failed_valid.n [a0] G Q := by
  have e : record_failed_valid.S a0 G Q = awp cx (record_failed_valid.body) record_failed_valid.an (bodyQ T [.tmp 2] Q) (envL [a0]) G := by kernel_rfl
  exact ACalls_of_awp cxOk (f := record_failed_valid.n) (fn := Try.f114) (c := record_failed_valid.body) (an := record_failed_valid.an) Try.func114 (by kernel_rfl) (by kernel_rfl) (by kernel_rfl) (drawsOk_of (by kernel_rfl) (by kernel_rfl)) (by simp [Try.f114]) (e ▸ h)

/-! #### (escrow/record.closed).record -/
def record_closed_record.S (a0 : AVal) (G : Heap) (Q : AVal → Heap → Prop) : Prop :=
  aNew G (.own (a0)) fun i1 G2 => aNew G2 (.own (z_api_Record)) fun i3 G4 => wv (vload T G4 t_int64 (.ptr i1 [0] 0)) fun v5 => wv (vbuild T t_api_Record [(0, .int .i64 6), (3, v5)]) fun v6 => wg (vstore T G4 t_api_Record (.ptr i3 [] 0) v6) fun G7 => wv (vload T G7 t_api_Record (.ptr i3 [] 0)) fun v8 => Q v8 G7
def record_closed_record.an : Ann := .nil
set_option maxRecDepth 100000 in
theorem record_closed_record.sound {a0 : AVal} {G : Heap} {Q : AVal → Heap → Prop} (h : record_closed_record.S a0 G Q) : ACalls P record_closed_record.n [a0] G Q := by
  have e : record_closed_record.S a0 G Q = awp cx (record_closed_record.body) record_closed_record.an (bodyQ T [.cell 2 35] Q) (envL [a0]) G := by kernel_rfl
  exact ACalls_of_awp cxOk (f := record_closed_record.n) (fn := Try.f117) (c := record_closed_record.body) (an := record_closed_record.an) Try.func117 (by kernel_rfl) (by kernel_rfl) (by kernel_rfl) (drawsOk_of (by kernel_rfl) (by kernel_rfl)) (by simp [Try.f117]) (e ▸ h)

/-! #### (escrow/record.closed).valid -/
def record_closed_valid.S (a0 : AVal) (G : Heap) (Q : AVal → Heap → Prop) : Prop :=
  aNew G (.own (a0)) fun i1 G2 => wv (vload T G2 t_int64 (.ptr i1 [0] 0)) fun v3 => ACalls P record_isIndex.n [v3] G2 fun v4 G5 => Q v4 G5
def record_closed_valid.an : Ann := .nil
set_option maxRecDepth 100000 in
theorem record_closed_valid.sound {a0 : AVal} {G : Heap} {Q : AVal → Heap → Prop} (h : record_closed_valid.S a0 G Q) : ACalls P record_closed_valid.n [a0] G Q := by
  have e : record_closed_valid.S a0 G Q = awp cx (record_closed_valid.body) record_closed_valid.an (bodyQ T [.tmp 2] Q) (envL [a0]) G := by kernel_rfl
  exact ACalls_of_awp cxOk (f := record_closed_valid.n) (fn := Try.f118) (c := record_closed_valid.body) (an := record_closed_valid.an) Try.func118 (by kernel_rfl) (by kernel_rfl) (by kernel_rfl) (drawsOk_of (by kernel_rfl) (by kernel_rfl)) (by simp [Try.f118]) (e ▸ h)

/-! #### escrow/record.changed -/
def record_changed.S (a0 : AVal) (G : Heap) (Q : AVal → Heap → Prop) : Prop :=
  aNew G (.own (a0)) fun i1 G2 => wv (vload T G2 t_api_Record (.ptr i1 [] 0)) fun v3 => ACalls P record_of.n [v3] G2 fun v4 G5 => wv (vbin T .eql t_record_change v4 (.nilIface)) fun v6 => brB (some v6)
  (Q (.nilIface) G5)
  (aInvoke cx v4 "escrow/record.valid" [] G5 fun v7 G8 => wv (vun .not v7) fun v9 => brB (some v9)
  (Q (.nilIface) G8)
  (wv (vload T G8 t_api_Record (.ptr i1 [] 0)) fun v10 => aInvoke cx v4 "escrow/record.record" [] G8 fun v11 G12 => (vload T G12 t_api_Record (.ptr i1 [] 0) = some v10 ∧ True) ∧ (ACalls P record_same.n [v11, v10] G12 fun v13 G14 => wv (vun .not v13) fun v15 => brB (some v15)
  (Q (.nilIface) G14)
  (Q v4 G14))))
def record_changed.an : Ann := .two (.nil) (.two (.nil) (.two (.two (.ord [(0, []), (1, []), (2, []), (3, []), (4, []), (5, []), (6, []), (7, []), (8, []), (10, []), (9, [10]), (11, []), (12, []), (13, [])]) (.nil)) (.nil)))
set_option maxRecDepth 100000 in
theorem record_changed.sound {a0 : AVal} {G : Heap} {Q : AVal → Heap → Prop} (h : record_changed.S a0 G Q) : ACalls P record_changed.n [a0] G Q := by
  have e : record_changed.S a0 G Q = awp cx (record_changed.body) record_changed.an (bodyQ T [.tmp 2] Q) (envL [a0]) G := by kernel_rfl
  exact ACalls_of_awp cxOk (f := record_changed.n) (fn := Try.f13) (c := record_changed.body) (an := record_changed.an) Try.func13 (by kernel_rfl) (by kernel_rfl) (by kernel_rfl) (drawsOk_of (by kernel_rfl) (by kernel_rfl)) (by simp [Try.f13]) (e ▸ h)

/-! #### escrow/cursor.New -/
def cursor_New.S (G : Heap) (Q : AVal → Heap → Prop) : Prop :=
  wv (vbuild T t_cursor_Writer []) fun v1 => aNew G (.own (v1)) fun i2 G3 => Q (.ptr i2 [] 0) G3
def cursor_New.an : Ann := .nil
set_option maxRecDepth 100000 in
theorem cursor_New.sound {G : Heap} {Q : AVal → Heap → Prop} (h : cursor_New.S G Q) : ACalls P cursor_New.n [] G Q := by
  have e : cursor_New.S G Q = awp cx (cursor_New.body) cursor_New.an (bodyQ T [.tmp 0] Q) (envL []) G := by kernel_rfl
  exact ACalls_of_awp cxOk (f := cursor_New.n) (fn := Try.f14) (c := cursor_New.body) (an := cursor_New.an) Try.func14 (by kernel_rfl) (by kernel_rfl) (by kernel_rfl) (drawsOk_of (by kernel_rfl) (by kernel_rfl)) (by simp [Try.f14]) (e ▸ h)

/-! #### escrow/cursor.lay[uint8] -/
def cursor_lay_uint8.S (a0 a1 a2 : AVal) (G : Heap) (Q : AVal → Heap → Prop) : Prop :=
  wv (vnil a0) fun v1 => wv (vfaddr T t_cursor_Writer v1 1) fun v2 => wv (vload T G t_api_Errno v2) fun v3 => wv (vbin T .neq t_api_Errno v3 (.int .i64 0)) fun v4 => brB (some v4)
  (Q (.tuple []) G)
  (wv (vbin T .sub t_int a2 (.int .i64 1)) fun v5 => ∀ R6 : List AVal → Heap → Prop,
  (∀ (x8 x9 x10 : AVal) (G7 : Heap), (wv (vbin T .geq t_int x10 (.int .i64 0)) fun v11 => brB (some v11)
  (wv (vnil x8) fun v12 => wv (vfaddr T t_cursor_Writer v12 0) fun v13 => wv (vload T G7 t_sl_uint8 v13) fun v14 => wv (vconv T G7 t_uint8 t_uint64 x9) fun v15 => wv (vbin T .mul t_int (.int .i64 8) x10) fun v16 => wv (vbin T .shr t_uint64 v15 v16) fun v17 => wv (vconv T G7 t_uint64 t_uint8 v17) fun v18 => aBuildSlice T t_sl_uint8 1 [(0, v18)] G7 fun v19 G20 => aAppend T G20 t_sl_uint8 t_sl_uint8 v14 v19 fun v21 G22 => wv (vnil x8) fun v23 => wv (vfaddr T t_cursor_Writer v23 0) fun v24 => wg (vstore T G22 t_sl_uint8 v24 v21) fun G25 => wv (vbin T .sub t_int x10 (.int .i64 1)) fun v26 => R6 [x8, x9, v26] G25)
  (Q (.tuple []) G7)) → R6 [x8, x9, x10] G7) →
  R6 [a0, a1, v5] G)
def cursor_lay_uint8.an : Ann := .two (.nil) (.two (.nil) (.loop [0, 1, 6] [false, false, false] (.two (.nil) (.two (.ord [(0, []), (1, []), (2, []), (3, []), (4, []), (5, []), (6, []), (7, []), (8, []), (9, []), (10, []), (11, []), (12, []), (13, []), (14, []), (15, [])]) (.nil)))))
set_option maxRecDepth 100000 in
theorem cursor_lay_uint8.sound {a0 a1 a2 : AVal} {G : Heap} {Q : AVal → Heap → Prop} (h : cursor_lay_uint8.S a0 a1 a2 G Q) : ACalls P cursor_lay_uint8.n [a0, a1, a2] G Q := by
  have e : cursor_lay_uint8.S a0 a1 a2 G Q = awp cx (cursor_lay_uint8.body) cursor_lay_uint8.an (bodyQ T [] Q) (envL [a0, a1, a2]) G := by kernel_rfl
  exact ACalls_of_awp cxOk (f := cursor_lay_uint8.n) (fn := Try.f29) (c := cursor_lay_uint8.body) (an := cursor_lay_uint8.an) Try.func29 (by kernel_rfl) (by kernel_rfl) (by kernel_rfl) (drawsOk_of (by kernel_rfl) (by kernel_rfl)) (by simp [Try.f29]) (e ▸ h)

/-! #### (*escrow/cursor.Writer).U8 -/
def cursor_Writer_U8.S (a0 a1 : AVal) (G : Heap) (Q : AVal → Heap → Prop) : Prop :=
  ACalls P cursor_lay_uint8.n [a0, a1, .int .i64 1] G fun v1 G2 => Q (.tuple []) G2
def cursor_Writer_U8.an : Ann := .nil
set_option maxRecDepth 100000 in
theorem cursor_Writer_U8.sound {a0 a1 : AVal} {G : Heap} {Q : AVal → Heap → Prop} (h : cursor_Writer_U8.S a0 a1 G Q) : ACalls P cursor_Writer_U8.n [a0, a1] G Q := by
  have e : cursor_Writer_U8.S a0 a1 G Q = awp cx (cursor_Writer_U8.body) cursor_Writer_U8.an (bodyQ T [] Q) (envL [a0, a1]) G := by kernel_rfl
  exact ACalls_of_awp cxOk (f := cursor_Writer_U8.n) (fn := Try.f15) (c := cursor_Writer_U8.body) (an := cursor_Writer_U8.an) Try.func15 (by kernel_rfl) (by kernel_rfl) (by kernel_rfl) (drawsOk_of (by kernel_rfl) (by kernel_rfl)) (by simp [Try.f15]) (e ▸ h)

/-! #### (*escrow/cursor.Writer).Out -/
def cursor_Writer_Out.S (a0 : AVal) (G : Heap) (Q : AVal → Heap → Prop) : Prop :=
  wv (vnil a0) fun v1 => wv (vfaddr T t_cursor_Writer v1 1) fun v2 => wv (vload T G t_api_Errno v2) fun v3 => wv (vbin T .neq t_api_Errno v3 (.int .i64 0)) fun v4 => brB (some v4)
  (wv (vnil a0) fun v5 => wv (vfaddr T t_cursor_Writer v5 1) fun v6 => wv (vload T G t_api_Errno v6) fun v7 => Q (.tuple [.str [], v7]) G)
  (wv (vnil a0) fun v8 => wv (vfaddr T t_cursor_Writer v8 0) fun v9 => wv (vload T G t_sl_uint8 v9) fun v10 => wv (vconv T G t_sl_uint8 t_string v10) fun v11 => Q (.tuple [v11, .int .i64 0]) G)
def cursor_Writer_Out.an : Ann := .two (.nil) (.two (.two (.nil) (.two (.two (.ord [(0, []), (1, []), (2, []), (3, []), (4, []), (5, [])]) (.nil)) (.nil))) (.nil))
set_option maxRecDepth 100000 in
theorem cursor_Writer_Out.sound {a0 : AVal} {G : Heap} {Q : AVal → Heap → Prop} (h : cursor_Writer_Out.S a0 G Q) : ACalls P cursor_Writer_Out.n [a0] G Q := by
  have e : cursor_Writer_Out.S a0 G Q = awp cx (cursor_Writer_Out.body) cursor_Writer_Out.an (bodyQ T [.tmp 2, .tmp 3] Q) (envL [a0]) G := by kernel_rfl
  exact ACalls_of_awp cxOk (f := cursor_Writer_Out.n) (fn := Try.f16) (c := cursor_Writer_Out.body) (an := cursor_Writer_Out.an) Try.func16 (by kernel_rfl) (by kernel_rfl) (by kernel_rfl) (drawsOk_of (by kernel_rfl) (by kernel_rfl)) (by simp [Try.f16]) (e ▸ h)

/-! #### escrow/cursor.lay[uint64] -/
def cursor_lay_uint64.S (a0 a1 a2 : AVal) (G : Heap) (Q : AVal → Heap → Prop) : Prop :=
  wv (vnil a0) fun v1 => wv (vfaddr T t_cursor_Writer v1 1) fun v2 => wv (vload T G t_api_Errno v2) fun v3 => wv (vbin T .neq t_api_Errno v3 (.int .i64 0)) fun v4 => brB (some v4)
  (Q (.tuple []) G)
  (wv (vbin T .sub t_int a2 (.int .i64 1)) fun v5 => ∀ R6 : List AVal → Heap → Prop,
  (∀ (x8 x9 x10 : AVal) (G7 : Heap), (wv (vbin T .geq t_int x10 (.int .i64 0)) fun v11 => brB (some v11)
  (wv (vnil x8) fun v12 => wv (vfaddr T t_cursor_Writer v12 0) fun v13 => wv (vload T G7 t_sl_uint8 v13) fun v14 => wv (vbin T .mul t_int (.int .i64 8) x10) fun v15 => wv (vbin T .shr t_uint64 x9 v15) fun v16 => wv (vconv T G7 t_uint64 t_uint8 v16) fun v17 => aBuildSlice T t_sl_uint8 1 [(0, v17)] G7 fun v18 G19 => aAppend T G19 t_sl_uint8 t_sl_uint8 v14 v18 fun v20 G21 => wv (vnil x8) fun v22 => wv (vfaddr T t_cursor_Writer v22 0) fun v23 => wg (vstore T G21 t_sl_uint8 v23 v20) fun G24 => wv (vbin T .sub t_int x10 (.int .i64 1)) fun v25 => R6 [x8, x9, v25] G24)
  (Q (.tuple []) G7)) → R6 [x8, x9, x10] G7) →
  R6 [a0, a1, v5] G)
def cursor_lay_uint64.an : Ann := .two (.nil) (.two (.nil) (.loop [0, 1, 6] [false, false, false] (.two (.nil) (.two (.ord [(0, []), (1, []), (2, []), (3, []), (4, []), (5, []), (6, []), (7, []), (8, []), (9, []), (10, []), (11, []), (12, []), (13, []), (14, [])]) (.nil)))))
set_option maxRecDepth 100000 in
theorem cursor_lay_uint64.sound {a0 a1 a2 : AVal} {G : Heap} {Q : AVal → Heap → Prop} (h : cursor_lay_uint64.S a0 a1 a2 G Q) : ACalls P cursor_lay_uint64.n [a0, a1, a2] G Q := by
  have e : cursor_lay_uint64.S a0 a1 a2 G Q = awp cx (cursor_lay_uint64.body) cursor_lay_uint64.an (bodyQ T [] Q) (envL [a0, a1, a2]) G := by kernel_rfl
  exact ACalls_of_awp cxOk (f := cursor_lay_uint64.n) (fn := Try.f76) (c := cursor_lay_uint64.body) (an := cursor_lay_uint64.an) Try.func76 (by kernel_rfl) (by kernel_rfl) (by kernel_rfl) (drawsOk_of (by kernel_rfl) (by kernel_rfl)) (by simp [Try.f76]) (e ▸ h)

/-! #### (*escrow/cursor.Writer).I64 -/
def cursor_Writer_I64.S (a0 a1 : AVal) (G : Heap) (Q : AVal → Heap → Prop) : Prop :=
  wv (vconv T G t_int64 t_uint64 a1) fun v1 => ACalls P cursor_lay_uint64.n [a0, v1, .int .i64 8] G fun v2 G3 => Q (.tuple []) G3
def cursor_Writer_I64.an : Ann := .nil
set_option maxRecDepth 100000 in
theorem cursor_Writer_I64.sound {a0 a1 : AVal} {G : Heap} {Q : AVal → Heap → Prop} (h : cursor_Writer_I64.S a0 a1 G Q) : ACalls P cursor_Writer_I64.n [a0, a1] G Q := by
  have e : cursor_Writer_I64.S a0 a1 G Q = awp cx (cursor_Writer_I64.body) cursor_Writer_I64.an (bodyQ T [] Q) (envL [a0, a1]) G := by kernel_rfl
  exact ACalls_of_awp cxOk (f := cursor_Writer_I64.n) (fn := Try.f56) (c := cursor_Writer_I64.body) (an := cursor_Writer_I64.an) Try.func56 (by kernel_rfl) (by kernel_rfl) (by kernel_rfl) (drawsOk_of (by kernel_rfl) (by kernel_rfl)) (by simp [Try.f56]) (e ▸ h)

/-! #### escrow/cursor.lay[uint16] -/
def cursor_lay_uint16.S (a0 a1 a2 : AVal) (G : Heap) (Q : AVal → Heap → Prop) : Prop :=
  wv (vnil a0) fun v1 => wv (vfaddr T t_cursor_Writer v1 1) fun v2 => wv (vload T G t_api_Errno v2) fun v3 => wv (vbin T .neq t_api_Errno v3 (.int .i64 0)) fun v4 => brB (some v4)
  (Q (.tuple []) G)
  (wv (vbin T .sub t_int a2 (.int .i64 1)) fun v5 => ∀ R6 : List AVal → Heap → Prop,
  (∀ (x8 x9 x10 : AVal) (G7 : Heap), (wv (vbin T .geq t_int x10 (.int .i64 0)) fun v11 => brB (some v11)
  (wv (vnil x8) fun v12 => wv (vfaddr T t_cursor_Writer v12 0) fun v13 => wv (vload T G7 t_sl_uint8 v13) fun v14 => wv (vconv T G7 t_uint16 t_uint64 x9) fun v15 => wv (vbin T .mul t_int (.int .i64 8) x10) fun v16 => wv (vbin T .shr t_uint64 v15 v16) fun v17 => wv (vconv T G7 t_uint64 t_uint8 v17) fun v18 => aBuildSlice T t_sl_uint8 1 [(0, v18)] G7 fun v19 G20 => aAppend T G20 t_sl_uint8 t_sl_uint8 v14 v19 fun v21 G22 => wv (vnil x8) fun v23 => wv (vfaddr T t_cursor_Writer v23 0) fun v24 => wg (vstore T G22 t_sl_uint8 v24 v21) fun G25 => wv (vbin T .sub t_int x10 (.int .i64 1)) fun v26 => R6 [x8, x9, v26] G25)
  (Q (.tuple []) G7)) → R6 [x8, x9, x10] G7) →
  R6 [a0, a1, v5] G)
def cursor_lay_uint16.an : Ann := .two (.nil) (.two (.nil) (.loop [0, 1, 6] [false, false, false] (.two (.nil) (.two (.ord [(0, []), (1, []), (2, []), (3, []), (4, []), (5, []), (6, []), (7, []), (8, []), (9, []), (10, []), (11, []), (12, []), (13, []), (14, []), (15, [])]) (.nil)))))
set_option maxRecDepth 100000 in
theorem cursor_lay_uint16.sound {a0 a1 a2 : AVal} {G : Heap} {Q : AVal → Heap → Prop} (h : cursor_lay_uint16.S a0 a1 a2 G Q) : ACalls P cursor_lay_uint16.n [a0, a1, a2] G Q := by
  have e : cursor_lay_uint16.S a0 a1 a2 G Q = awp cx (cursor_lay_uint16.body) cursor_lay_uint16.an (bodyQ T [] Q) (envL [a0, a1, a2]) G := by kernel_rfl
  exact ACalls_of_awp cxOk (f := cursor_lay_uint16.n) (fn := Try.f82) (c := cursor_lay_uint16.body) (an := cursor_lay_uint16.an) Try.func82 (by kernel_rfl) (by kernel_rfl) (by kernel_rfl) (drawsOk_of (by kernel_rfl) (by kernel_rfl)) (by simp [Try.f82]) (e ▸ h)

/-! #### (*escrow/cursor.Writer).U16 -/
def cursor_Writer_U16.S (a0 a1 : AVal) (G : Heap) (Q : AVal → Heap → Prop) : Prop :=
  ACalls P cursor_lay_uint16.n [a0, a1, .int .i64 2] G fun v1 G2 => Q (.tuple []) G2
def cursor_Writer_U16.an : Ann := .nil
set_option maxRecDepth 100000 in
theorem cursor_Writer_U16.sound {a0 a1 : AVal} {G : Heap} {Q : AVal → Heap → Prop} (h : cursor_Writer_U16.S a0 a1 G Q) : ACalls P cursor_Writer_U16.n [a0, a1] G Q := by
  have e : cursor_Writer_U16.S a0 a1 G Q = awp cx (cursor_Writer_U16.body) cursor_Writer_U16.an (bodyQ T [] Q) (envL [a0, a1]) G := by kernel_rfl
  exact ACalls_of_awp cxOk (f := cursor_Writer_U16.n) (fn := Try.f73) (c := cursor_Writer_U16.body) (an := cursor_Writer_U16.an) Try.func73 (by kernel_rfl) (by kernel_rfl) (by kernel_rfl) (drawsOk_of (by kernel_rfl) (by kernel_rfl)) (by simp [Try.f73]) (e ▸ h)

/-! #### (*escrow/cursor.Writer).Raw -/
def cursor_Writer_Raw.S (a0 a1 : AVal) (G : Heap) (Q : AVal → Heap → Prop) : Prop :=
  wv (vnil a0) fun v1 => wv (vfaddr T t_cursor_Writer v1 1) fun v2 => wv (vload T G t_api_Errno v2) fun v3 => wv (vbin T .eql t_api_Errno v3 (.int .i64 0)) fun v4 => brB (some v4)
  (wv (vnil a0) fun v5 => wv (vfaddr T t_cursor_Writer v5 0) fun v6 => wv (vload T G t_sl_uint8 v6) fun v7 => aAppend T G t_sl_uint8 t_string v7 a1 fun v8 G9 => wv (vnil a0) fun v10 => wv (vfaddr T t_cursor_Writer v10 0) fun v11 => wg (vstore T G9 t_sl_uint8 v11 v8) fun G12 => Q (.tuple []) G12)
  (Q (.tuple []) G)
def cursor_Writer_Raw.an : Ann := .nil
set_option maxRecDepth 100000 in
theorem cursor_Writer_Raw.sound {a0 a1 : AVal} {G : Heap} {Q : AVal → Heap → Prop} (h : cursor_Writer_Raw.S a0 a1 G Q) : ACalls P cursor_Writer_Raw.n [a0, a1] G Q := by
  have e : cursor_Writer_Raw.S a0 a1 G Q = awp cx (cursor_Writer_Raw.body) cursor_Writer_Raw.an (bodyQ T [] Q) (envL [a0, a1]) G := by kernel_rfl
  exact ACalls_of_awp cxOk (f := cursor_Writer_Raw.n) (fn := Try.f68) (c := cursor_Writer_Raw.body) (an := cursor_Writer_Raw.an) Try.func68 (by kernel_rfl) (by kernel_rfl) (by kernel_rfl) (drawsOk_of (by kernel_rfl) (by kernel_rfl)) (by simp [Try.f68]) (e ▸ h)

/-! #### (*escrow/cursor.Writer).Hash -/
def cursor_Writer_Hash.S (a0 a1 : AVal) (G : Heap) (Q : AVal → Heap → Prop) : Prop :=
  aNew G (.own (a1)) fun i1 G2 => wv (vslice T t_api_Hash (.ptr i1 [] 0) none none none) fun v3 => wv (vconv T G2 t_sl_uint8 t_string v3) fun v4 => ACalls P cursor_Writer_Raw.n [a0, v4] G2 fun v5 G6 => Q (.tuple []) G6
def cursor_Writer_Hash.an : Ann := .nil
set_option maxRecDepth 100000 in
theorem cursor_Writer_Hash.sound {a0 a1 : AVal} {G : Heap} {Q : AVal → Heap → Prop} (h : cursor_Writer_Hash.S a0 a1 G Q) : ACalls P cursor_Writer_Hash.n [a0, a1] G Q := by
  have e : cursor_Writer_Hash.S a0 a1 G Q = awp cx (cursor_Writer_Hash.body) cursor_Writer_Hash.an (bodyQ T [] Q) (envL [a0, a1]) G := by kernel_rfl
  exact ACalls_of_awp cxOk (f := cursor_Writer_Hash.n) (fn := Try.f74) (c := cursor_Writer_Hash.body) (an := cursor_Writer_Hash.an) Try.func74 (by kernel_rfl) (by kernel_rfl) (by kernel_rfl) (drawsOk_of (by kernel_rfl) (by kernel_rfl)) (by simp [Try.f74]) (e ▸ h)

/-! #### (*escrow/cursor.Writer).Text -/
def cursor_Writer_Text.S (a0 a1 : AVal) (G : Heap) (Q : AVal → Heap → Prop) : Prop :=
  let J31 : AVal → Heap → Prop := (fun x8 G7 => brB (some x8)
  (wv (vnil a0) fun v9 => wv (vfaddr T t_cursor_Writer v9 1) fun v10 => wg (vstore T G7 t_api_Errno v10 (.int .i64 3)) fun G11 => wv (vlen T G11 t_string a1) fun v19 => wv (vconv T G11 t_int t_uint16 v19) fun v20 => ACalls P cursor_lay_uint16.n [a0, v20, .int .i64 2] G11 fun v21 G22 => ACalls P cursor_Writer_Raw.n [a0, a1] G22 fun v23 G24 => Q (.tuple []) G24)
  (wv (vlen T G7 t_string a1) fun v25 => wv (vconv T G7 t_int t_uint16 v25) fun v26 => ACalls P cursor_lay_uint16.n [a0, v26, .int .i64 2] G7 fun v27 G28 => ACalls P cursor_Writer_Raw.n [a0, a1] G28 fun v29 G30 => Q (.tuple []) G30));
  wv (vnil a0) fun v1 => wv (vfaddr T t_cursor_Writer v1 1) fun v2 => wv (vload T G t_api_Errno v2) fun v3 => wv (vbin T .eql t_api_Errno v3 (.int .i64 0)) fun v4 => brB (some v4)
  (wv (vlen T G t_string a1) fun v5 => wv (vbin T .gtr t_int v5 (.int .i64 65535)) fun v6 => J31 v6 G)
  (J31 (.bool false) G)
def cursor_Writer_Text.an : Ann := .nil
set_option maxRecDepth 100000 in
theorem cursor_Writer_Text.sound {a0 a1 : AVal} {G : Heap} {Q : AVal → Heap → Prop} (h : cursor_Writer_Text.S a0 a1 G Q) : ACalls P cursor_Writer_Text.n [a0, a1] G Q := by
  have e : cursor_Writer_Text.S a0 a1 G Q = awp cx (cursor_Writer_Text.body) cursor_Writer_Text.an (bodyQ T [] Q) (envL [a0, a1]) G := by kernel_rfl
  exact ACalls_of_awp cxOk (f := cursor_Writer_Text.n) (fn := Try.f75) (c := cursor_Writer_Text.body) (an := cursor_Writer_Text.an) Try.func75 (by kernel_rfl) (by kernel_rfl) (by kernel_rfl) (drawsOk_of (by kernel_rfl) (by kernel_rfl)) (by simp [Try.f75]) (e ▸ h)

/-! #### escrow/update.Write -/
def update_Write.S (a0 : AVal) (G : Heap) (Q : AVal → Heap → Prop) : Prop :=
  aNew G (.own (a0)) fun i1 G2 => wv (vload T G2 t_api_Update (.ptr i1 [] 0)) fun v3 => ACalls P update_Valid.n [v3] G2 fun v4 G5 => wv (vun .not v4) fun v6 => brB (some v6)
  (Q (.tuple [.str [], .int .i64 120]) G5)
  (ACalls P cursor_New.n [] G5 fun v7 G8 => wv (vload T G8 t_int (.ptr i1 [0] 0)) fun v9 => wv (vconv T G8 t_int t_uint8 v9) fun v10 => ACalls P cursor_Writer_U8.n [v7, v10] G8 fun v11 G12 => wv (vload T G12 t_int64 (.ptr i1 [1] 1)) fun v13 => wv (vconv T G12 t_int64 t_uint16 v13) fun v14 => ACalls P cursor_Writer_U16.n [v7, v14] G12 fun v15 G16 => wv (vload T G16 t_int (.ptr i1 [0] 0)) fun v17 => let J41 : Heap → Prop := (fun G36 => ACalls P cursor_Writer_Out.n [v7] G36 fun v37 G38 => wv (vextract v37 0) fun v39 => wv (vextract v37 1) fun v40 => Q (.tuple [v39, v40]) G38);
  wv (vbin T .eql t_int v17 (.int .i64 1)) fun v18 => brB (some v18)
  (wv (vload T G16 t_int64 (.ptr i1 [2] 2)) fun v19 => ACalls P cursor_Writer_I64.n [v7, v19] G16 fun v20 G21 => wv (vload T G21 t_api_Hash (.ptr i1 [3] 3)) fun v22 => ACalls P cursor_Writer_Hash.n [v7, v22] G21 fun v23 G24 => J41 G24)
  (wv (vbin T .eql t_int v17 (.int .i64 2)) fun v25 => brB (some v25)
  (wv (vload T G16 t_api_Hash (.ptr i1 [3] 3)) fun v26 => ACalls P cursor_Writer_Hash.n [v7, v26] G16 fun v27 G28 => J41 G28)
  (wv (vbin T .eql t_int v17 (.int .i64 3)) fun v29 => brB (some v29)
  (wv (vload T G16 t_string (.ptr i1 [4] 35)) fun v30 => ACalls P cursor_Writer_Text.n [v7, v30] G16 fun v31 G32 => J41 G32)
  (J41 G16))))
def update_Write.an : Ann := .nil
set_option maxRecDepth 100000 in
theorem update_Write.sound {a0 : AVal} {G : Heap} {Q : AVal → Heap → Prop} (h : update_Write.S a0 G Q) : ACalls P update_Write.n [a0] G Q := by
  have e : update_Write.S a0 G Q = awp cx (update_Write.body) update_Write.an (bodyQ T [.tmp 2, .tmp 3] Q) (envL [a0]) G := by kernel_rfl
  exact ACalls_of_awp cxOk (f := update_Write.n) (fn := Try.f67) (c := update_Write.body) (an := update_Write.an) Try.func67 (by kernel_rfl) (by kernel_rfl) (by kernel_rfl) (drawsOk_of (by kernel_rfl) (by kernel_rfl)) (by simp [Try.f67]) (e ▸ h)

/-! #### escrow/record.raw -/
def record_raw.S (a0 a1 : AVal) (G : Heap) (Q : AVal → Heap → Prop) : Prop :=
  aNew G (.own (a1)) fun i1 G2 => wv (vload T G2 t_api_Update (.ptr i1 [] 0)) fun v3 => ACalls P update_Write.n [v3] G2 fun v4 G5 => wv (vextract v4 0) fun v6 => wv (vextract v4 1) fun v7 => ACalls P cursor_Writer_Raw.n [a0, v6] G5 fun v8 G9 => Q (.tuple []) G9
def record_raw.an : Ann := .nil
set_option maxRecDepth 100000 in
theorem record_raw.sound {a0 a1 : AVal} {G : Heap} {Q : AVal → Heap → Prop} (h : record_raw.S a0 a1 G Q) : ACalls P record_raw.n [a0, a1] G Q := by
  have e : record_raw.S a0 a1 G Q = awp cx (record_raw.body) record_raw.an (bodyQ T [] Q) (envL [a0, a1]) G := by kernel_rfl
  exact ACalls_of_awp cxOk (f := record_raw.n) (fn := Try.f62) (c := record_raw.body) (an := record_raw.an) Try.func62 (by kernel_rfl) (by kernel_rfl) (by kernel_rfl) (drawsOk_of (by kernel_rfl) (by kernel_rfl)) (by simp [Try.f62]) (e ▸ h)

/-! #### (escrow/record.ours).write -/
def record_ours_write.S (a0 a1 : AVal) (G : Heap) (Q : AVal → Heap → Prop) : Prop :=
  aNew G (.own (a0)) fun i1 G2 => wv (vload T G2 t_api_Update (.ptr i1 [0] 0)) fun v3 => ACalls P record_raw.n [a1, v3] G2 fun v4 G5 => Q (.tuple []) G5
def record_ours_write.an : Ann := .nil
set_option maxRecDepth 100000 in
theorem record_ours_write.sound {a0 a1 : AVal} {G : Heap} {Q : AVal → Heap → Prop} (h : record_ours_write.S a0 a1 G Q) : ACalls P record_ours_write.n [a0, a1] G Q := by
  have e : record_ours_write.S a0 a1 G Q = awp cx (record_ours_write.body) record_ours_write.an (bodyQ T [] Q) (envL [a0, a1]) G := by kernel_rfl
  exact ACalls_of_awp cxOk (f := record_ours_write.n) (fn := Try.f60) (c := record_ours_write.body) (an := record_ours_write.an) Try.func60 (by kernel_rfl) (by kernel_rfl) (by kernel_rfl) (drawsOk_of (by kernel_rfl) (by kernel_rfl)) (by simp [Try.f60]) (e ▸ h)

/-! #### (escrow/record.signed).write -/
def record_signed_write.S (a0 a1 : AVal) (G : Heap) (Q : AVal → Heap → Prop) : Prop :=
  aNew G (.own (a0)) fun i1 G2 => wv (vload T G2 t_int64 (.ptr i1 [0] 0)) fun v3 => ACalls P cursor_Writer_I64.n [a1, v3] G2 fun v4 G5 => wv (vload T G5 t_int (.ptr i1 [1, 0] 1)) fun v6 => wv (vconv T G5 t_int t_uint16 v6) fun v7 => ACalls P cursor_Writer_U16.n [a1, v7] G5 fun v8 G9 => wv (vload T G9 t_int (.ptr i1 [1, 1] 2)) fun v10 => wv (vconv T G9 t_int t_uint16 v10) fun v11 => ACalls P cursor_Writer_U16.n [a1, v11] G9 fun v12 G13 => Q (.tuple []) G13
def record_signed_write.an : Ann := .nil
set_option maxRecDepth 100000 in
theorem record_signed_write.sound {a0 a1 : AVal} {G : Heap} {Q : AVal → Heap → Prop} (h : record_signed_write.S a0 a1 G Q) : ACalls P record_signed_write.n [a0, a1] G Q := by
  have e : record_signed_write.S a0 a1 G Q = awp cx (record_signed_write.body) record_signed_write.an (bodyQ T [] Q) (envL [a0, a1]) G := by kernel_rfl
  exact ACalls_of_awp cxOk (f := record_signed_write.n) (fn := Try.f90) (c := record_signed_write.body) (an := record_signed_write.an) Try.func90 (by kernel_rfl) (by kernel_rfl) (by kernel_rfl) (drawsOk_of (by kernel_rfl) (by kernel_rfl)) (by simp [Try.f90]) (e ▸ h)

/-! #### (escrow/record.came).write -/
def record_came_write.S (a0 a1 : AVal) (G : Heap) (Q : AVal → Heap → Prop) : Prop :=
  aNew G (.own (a0)) fun i1 G2 => wv (vload T G2 t_int64 (.ptr i1 [0] 0)) fun v3 => ACalls P cursor_Writer_I64.n [a1, v3] G2 fun v4 G5 => wv (vload T G5 t_sl_api_Update (.ptr i1 [1] 1)) fun v6 => wv (vlen T G5 t_sl_api_Update v6) fun v7 => wv (vconv T G5 t_int t_uint16 v7) fun v8 => ACalls P cursor_Writer_U16.n [a1, v8] G5 fun v9 G10 => wv (vload T G10 t_sl_api_Update (.ptr i1 [1] 1)) fun v11 => wv (vlen T G10 t_sl_api_Update v11) fun v12 => ∀ R13 : List AVal → Heap → Prop,
  (∀ (x15 x16 x17 x18 x19 : AVal) (G14 : Heap), (wv (vbin T .lss t_int x19 x18) fun v20 => brB (some v20)
  (wv (viaddr T t_sl_api_Update x17 x19) fun v21 => wv (vload T G14 t_api_Update v21) fun v22 => aNew G14 (.own (z_api_Update)) fun i23 G24 => wg (vstore T G24 t_api_Update (.ptr i23 [] 0) v22) fun G25 => wv (vload T G25 t_api_Update (.ptr i23 [] 0)) fun v26 => ACalls P record_raw.n [x15, v26] G25 fun v27 G28 => wv (vbin T .add t_int x19 (.int .i64 1)) fun v29 => R13 [x15, x16, x17, x18, v29] G28)
  (wv (vfaddr T t_record_came x16 2) fun v30 => wv (vload T G14 t_api_Hash v30) fun v31 => ACalls P cursor_Writer_Hash.n [x15, v31] G14 fun v32 G33 => Q (.tuple []) G33)) → R13 [x15, x16, x17, x18, x19] G14) →
  R13 [a1, .ptr i1 [] 0, v11, v12, .int .i64 0] G10
def record_came_write.an : Ann := .two (.nil) (.two (.nil) (.two (.nil) (.two (.two (.nil) (.loop [1, 2, 17, 18, 19] [false, false, false, false, false] (.nil))) (.nil))))
set_option maxRecDepth 100000 in
theorem record_came_write.sound {a0 a1 : AVal} {G : Heap} {Q : AVal → Heap → Prop} (h : record_came_write.S a0 a1 G Q) : ACalls P record_came_write.n [a0, a1] G Q := by
  have e : record_came_write.S a0 a1 G Q = awp cx (record_came_write.body) record_came_write.an (bodyQ T [] Q) (envL [a0, a1]) G := by kernel_rfl
  exact ACalls_of_awp cxOk (f := record_came_write.n) (fn := Try.f96) (c := record_came_write.body) (an := record_came_write.an) Try.func96 (by kernel_rfl) (by kernel_rfl) (by kernel_rfl) (drawsOk_of (by kernel_rfl) (by kernel_rfl)) (by simp [Try.f96]) (e ▸ h)

/-! #### (escrow/record.revoked).write -/
def record_revoked_write.S (a0 a1 : AVal) (G : Heap) (Q : AVal → Heap → Prop) : Prop :=
  aNew G (.own (a0)) fun i1 G2 => wv (vload T G2 t_int64 (.ptr i1 [0] 0)) fun v3 => ACalls P cursor_Writer_I64.n [a1, v3] G2 fun v4 G5 => wv (vload T G5 t_api_Hash (.ptr i1 [1] 1)) fun v6 => ACalls P cursor_Writer_Hash.n [a1, v6] G5 fun v7 G8 => wv (vload T G8 t_api_Hash (.ptr i1 [2] 33)) fun v9 => ACalls P cursor_Writer_Hash.n [a1, v9] G8 fun v10 G11 => Q (.tuple []) G11
def record_revoked_write.an : Ann := .nil
set_option maxRecDepth 100000 in
theorem record_revoked_write.sound {a0 a1 : AVal} {G : Heap} {Q : AVal → Heap → Prop} (h : record_revoked_write.S a0 a1 G Q) : ACalls P record_revoked_write.n [a0, a1] G Q := by
  have e : record_revoked_write.S a0 a1 G Q = awp cx (record_revoked_write.body) record_revoked_write.an (bodyQ T [] Q) (envL [a0, a1]) G := by kernel_rfl
  exact ACalls_of_awp cxOk (f := record_revoked_write.n) (fn := Try.f103) (c := record_revoked_write.body) (an := record_revoked_write.an) Try.func103 (by kernel_rfl) (by kernel_rfl) (by kernel_rfl) (drawsOk_of (by kernel_rfl) (by kernel_rfl)) (by simp [Try.f103]) (e ▸ h)

/-! #### (escrow/record.failed).write -/
def record_failed_write.S (a0 a1 : AVal) (G : Heap) (Q : AVal → Heap → Prop) : Prop :=
  aNew G (.own (a0)) fun i1 G2 => wv (vload T G2 t_int (.ptr i1 [0] 0)) fun v3 => wv (vconv T G2 t_int t_uint16 v3) fun v4 => ACalls P cursor_Writer_U16.n [a1, v4] G2 fun v5 G6 => Q (.tuple []) G6
def record_failed_write.an : Ann := .nil
set_option maxRecDepth 100000 in
theorem record_failed_write.sound {a0 a1 : AVal} {G : Heap} {Q : AVal → Heap → Prop} (h : record_failed_write.S a0 a1 G Q) : ACalls P record_failed_write.n [a0, a1] G Q := by
  have e : record_failed_write.S a0 a1 G Q = awp cx (record_failed_write.body) record_failed_write.an (bodyQ T [] Q) (envL [a0, a1]) G := by kernel_rfl
  exact ACalls_of_awp cxOk (f := record_failed_write.n) (fn := Try.f115) (c := record_failed_write.body) (an := record_failed_write.an) Try.func115 (by kernel_rfl) (by kernel_rfl) (by kernel_rfl) (drawsOk_of (by kernel_rfl) (by kernel_rfl)) (by simp [Try.f115]) (e ▸ h)

/-! #### (escrow/record.closed).write -/
def record_closed_write.S (a0 a1 : AVal) (G : Heap) (Q : AVal → Heap → Prop) : Prop :=
  aNew G (.own (a0)) fun i1 G2 => wv (vload T G2 t_int64 (.ptr i1 [0] 0)) fun v3 => ACalls P cursor_Writer_I64.n [a1, v3] G2 fun v4 G5 => Q (.tuple []) G5
def record_closed_write.an : Ann := .nil
set_option maxRecDepth 100000 in
theorem record_closed_write.sound {a0 a1 : AVal} {G : Heap} {Q : AVal → Heap → Prop} (h : record_closed_write.S a0 a1 G Q) : ACalls P record_closed_write.n [a0, a1] G Q := by
  have e : record_closed_write.S a0 a1 G Q = awp cx (record_closed_write.body) record_closed_write.an (bodyQ T [] Q) (envL [a0, a1]) G := by kernel_rfl
  exact ACalls_of_awp cxOk (f := record_closed_write.n) (fn := Try.f119) (c := record_closed_write.body) (an := record_closed_write.an) Try.func119 (by kernel_rfl) (by kernel_rfl) (by kernel_rfl) (drawsOk_of (by kernel_rfl) (by kernel_rfl)) (by simp [Try.f119]) (e ▸ h)

/-! #### escrow/record.Write -/
def record_Write.S (a0 : AVal) (G : Heap) (Q : AVal → Heap → Prop) : Prop :=
  aNew G (.own (a0)) fun i1 G2 => wv (vload T G2 t_api_Record (.ptr i1 [] 0)) fun v3 => ACalls P record_changed.n [v3] G2 fun v4 G5 => wv (vbin T .eql t_record_change v4 (.nilIface)) fun v6 => brB (some v6)
  (Q (.tuple [.str [], .int .i64 170]) G5)
  (ACalls P cursor_New.n [] G5 fun v7 G8 => wv (vload T G8 t_int (.ptr i1 [0] 0)) fun v9 => wv (vconv T G8 t_int t_uint8 v9) fun v10 => ACalls P cursor_Writer_U8.n [v7, v10] G8 fun v11 G12 => aInvoke cx v4 "escrow/record.write" [v7] G12 fun v13 G14 => ACalls P cursor_Writer_Out.n [v7] G14 fun v15 G16 => wv (vextract v15 0) fun v17 => wv (vextract v15 1) fun v18 => Q (.tuple [v17, v18]) G16)
def record_Write.an : Ann := .nil
set_option maxRecDepth 100000 in
theorem record_Write.sound {a0 : AVal} {G : Heap} {Q : AVal → Heap → Prop} (h : record_Write.S a0 G Q) : ACalls P record_Write.n [a0] G Q := by
  have e : record_Write.S a0 G Q = awp cx (record_Write.body) record_Write.an (bodyQ T [.tmp 2, .tmp 3] Q) (envL [a0]) G := by kernel_rfl
  exact ACalls_of_awp cxOk (f := record_Write.n) (fn := Try.f7) (c := record_Write.body) (an := record_Write.an) Try.func7 (by kernel_rfl) (by kernel_rfl) (by kernel_rfl) (drawsOk_of (by kernel_rfl) (by kernel_rfl)) (by simp [Try.f7]) (e ▸ h)

/-! #### escrow/cursor.Open -/
def cursor_Open.S (a0 : AVal) (G : Heap) (Q : AVal → Heap → Prop) : Prop :=
  wv (vbuild T t_cursor_Reader [(0, a0)]) fun v1 => aNew G (.own (v1)) fun i2 G3 => Q (.ptr i2 [] 0) G3
def cursor_Open.an : Ann := .nil
set_option maxRecDepth 100000 in
theorem cursor_Open.sound {a0 : AVal} {G : Heap} {Q : AVal → Heap → Prop} (h : cursor_Open.S a0 G Q) : ACalls P cursor_Open.n [a0] G Q := by
  have e : cursor_Open.S a0 G Q = awp cx (cursor_Open.body) cursor_Open.an (bodyQ T [.tmp 2] Q) (envL [a0]) G := by kernel_rfl
  exact ACalls_of_awp cxOk (f := cursor_Open.n) (fn := Try.f17) (c := cursor_Open.body) (an := cursor_Open.an) Try.func17 (by kernel_rfl) (by kernel_rfl) (by kernel_rfl) (drawsOk_of (by kernel_rfl) (by kernel_rfl)) (by simp [Try.f17]) (e ▸ h)

end Go.Esc.M
