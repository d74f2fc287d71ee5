/- Printed by gen.py (own work): functions of the program Ythaockalmnlceaa over trees and the abstract heap. -/
import Derived.Test.YthaockalmnlceaaT
set_option linter.unusedSimpArgs false
set_option linter.unusedVariables false
namespace Go.Esc.M
open Go Go.Esc Go.Proofs

/-! #### escrow/msg.Update -/
def msg_Update.S (a0 : AVal) (G : Heap) (Q : AVal → Heap → Prop) : Prop :=
  aNew G (.own (a0)) fun i1 G2 => aNew G2 (.own (z_api_Update)) fun i3 G4 => let J22 : AVal → Heap → Prop := (fun x10 G9 => brB (some x10)
  (wv (vbuild T t_api_Update []) fun v11 => wg (vstore T G9 t_api_Update (.ptr i3 [] 0) v11) fun G12 => wv (vload T G12 t_api_Update (.ptr i3 [] 0)) fun v13 => Q (.tuple [v13, .bool false]) G12)
  (wv (vload T G9 t_int (.ptr i1 [0] 0)) fun v14 => wv (vload T G9 t_int64 (.ptr i1 [1] 1)) fun v15 => wv (vload T G9 t_int64 (.ptr i1 [2] 2)) fun v16 => wv (vload T G9 t_api_Hash (.ptr i1 [5] 5)) fun v17 => wv (vload T G9 t_string (.ptr i1 [7] 69)) fun v18 => wv (vbuild T t_api_Update [(0, v14), (1, v15), (2, v16), (3, v17), (4, v18)]) fun v19 => wg (vstore T G9 t_api_Update (.ptr i3 [] 0) v19) fun G20 => wv (vload T G20 t_api_Update (.ptr i3 [] 0)) fun v21 => Q (.tuple [v21, .bool true]) G20));
  wv (vload T G4 t_int (.ptr i1 [0] 0)) fun v5 => wv (vbin T .lss t_int v5 (.int .i64 1)) fun v6 => brB (some v6)
  (J22 (.bool true) G4)
  (wv (vload T G4 t_int (.ptr i1 [0] 0)) fun v7 => wv (vbin T .gtr t_int v7 (.int .i64 3)) fun v8 => J22 v8 G4)
def msg_Update.an : Ann := .nil
set_option maxRecDepth 100000 in
theorem msg_Update.sound {a0 : AVal} {G : Heap} {Q : AVal → Heap → Prop} (h : msg_Update.S a0 G Q) : ACalls P msg_Update.n [a0] G Q := by
  have e : msg_Update.S a0 G Q = awp cx (msg_Update.body) msg_Update.an (bodyQ T [.cell 2 27, .tmp 3] Q) (envL [a0]) G := by kernel_rfl
  exact ACalls_of_awp cxOk (f := msg_Update.n) (fn := Try.f12) (c := msg_Update.body) (an := msg_Update.an) Try.func12 (by kernel_rfl) (by kernel_rfl) (by kernel_rfl) (drawsOk_of (by kernel_rfl) (by kernel_rfl)) (by simp [Try.f12]) (e ▸ h)

/-! #### escrow/update.Valid -/
def update_Valid.S (a0 : AVal) (G : Heap) (Q : AVal → Heap → Prop) : Prop :=
  aNew G (.own (a0)) fun i1 G2 => let J37 : AVal → Heap → Prop := (fun x8 G7 => brB (some x8)
  (Q (.bool false) G7)
  (wv (vload T G7 t_int (.ptr i1 [0] 0)) fun v9 => wv (vbin T .eql t_int v9 (.int .i64 1)) fun v10 => brB (some v10)
  (wv (vload T G7 t_int64 (.ptr i1 [2] 2)) fun v11 => wv (vbin T .geq t_int64 v11 (.int .i64 1)) fun v12 => brB (some v12)
  (wv (vload T G7 t_int64 (.ptr i1 [2] 2)) fun v13 => wv (vbin T .leq t_int64 v13 (.int .i64 1152921504606846976)) fun v14 => brB (some v14)
  (wv (vload T G7 t_string (.ptr i1 [4] 35)) fun v15 => wv (vbin T .eql t_string v15 (.str [])) fun v16 => Q v16 G7)
  (Q (.bool false) G7))
  (Q (.bool false) G7))
  (wv (vbin T .eql t_int v9 (.int .i64 2)) fun v19 => brB (some v19)
  (wv (vload T G7 t_int64 (.ptr i1 [2] 2)) fun v20 => wv (vbin T .eql t_int64 v20 (.int .i64 0)) fun v21 => brB (some v21)
  (wv (vload T G7 t_string (.ptr i1 [4] 35)) fun v22 => wv (vbin T .eql t_string v22 (.str [])) fun v23 => Q v23 G7)
  (Q (.bool false) G7))
  (wv (vbin T .eql t_int v9 (.int .i64 3)) fun v26 => brB (some v26)
  (wv (vload T G7 t_int64 (.ptr i1 [2] 2)) fun v27 => wv (vbin T .eql t_int64 v27 (.int .i64 0)) fun v28 => brB (some v28)
  (wv (vload T G7 t_api_Hash (.ptr i1 [3] 3)) fun v29 => wv (vbuild T t_api_Hash []) fun v30 => wv (vbin T .eql t_api_Hash v29 v30) fun v31 => brB (some v31)
  (wv (vload T G7 t_string (.ptr i1 [4] 35)) fun v32 => wv (vlen T G7 t_string v32) fun v33 => wv (vbin T .leq t_int v33 (.int .i64 64)) fun v34 => Q v34 G7)
  (Q (.bool false) G7))
  (Q (.bool false) G7))
  (Q (.bool false) G7)))));
  wv (vload T G2 t_int64 (.ptr i1 [1] 1)) fun v3 => wv (vbin T .lss t_int64 v3 (.int .i64 0)) fun v4 => brB (some v4)
  (J37 (.bool true) G2)
  (wv (vload T G2 t_int64 (.ptr i1 [1] 1)) fun v5 => wv (vbin T .geq t_int64 v5 (.int .i64 2048)) fun v6 => J37 v6 G2)
def update_Valid.an : Ann := .nil
set_option maxRecDepth 100000 in
theorem update_Valid.sound {a0 : AVal} {G : Heap} {Q : AVal → Heap → Prop} (h : update_Valid.S a0 G Q) : ACalls P update_Valid.n [a0] G Q := by
  have e : update_Valid.S a0 G Q = awp cx (update_Valid.body) update_Valid.an (bodyQ T [.tmp 2] Q) (envL [a0]) G := by kernel_rfl
  exact ACalls_of_awp cxOk (f := update_Valid.n) (fn := Try.f17) (c := update_Valid.body) (an := update_Valid.an) Try.func17 (by kernel_rfl) (by kernel_rfl) (by kernel_rfl) (drawsOk_of (by kernel_rfl) (by kernel_rfl)) (by simp [Try.f17]) (e ▸ h)

/-! #### escrow/cursor.New -/
def cursor_New.S (G : Heap) (Q : AVal → Heap → Prop) : Prop :=
  wv (vbuild T t_cursor_Writer []) fun v1 => aNew G (.own (v1)) fun i2 G3 => Q (.ptr i2 [] 0) G3
def cursor_New.an : Ann := .nil
set_option maxRecDepth 100000 in
theorem cursor_New.sound {G : Heap} {Q : AVal → Heap → Prop} (h : cursor_New.S G Q) : ACalls P cursor_New.n [] G Q := by
  have e : cursor_New.S G Q = awp cx (cursor_New.body) cursor_New.an (bodyQ T [.tmp 0] Q) (envL []) G := by kernel_rfl
  exact ACalls_of_awp cxOk (f := cursor_New.n) (fn := Try.f22) (c := cursor_New.body) (an := cursor_New.an) Try.func22 (by kernel_rfl) (by kernel_rfl) (by kernel_rfl) (drawsOk_of (by kernel_rfl) (by kernel_rfl)) (by simp [Try.f22]) (e ▸ h)

/-! #### escrow/cursor.lay[uint8] -/
def cursor_lay_uint8.S (a0 a1 a2 : AVal) (G : Heap) (Q : AVal → Heap → Prop) : Prop :=
  wv (vnil a0) fun v1 => wv (vfaddr T t_cursor_Writer v1 1) fun v2 => wv (vload T G t_api_Errno v2) fun v3 => wv (vbin T .neq t_api_Errno v3 (.int .i64 0)) fun v4 => brB (some v4)
  (Q (.tuple []) G)
  (wv (vbin T .sub t_int a2 (.int .i64 1)) fun v5 => ∀ R6 : List AVal → Heap → Prop,
  (∀ (x8 x9 x10 : AVal) (G7 : Heap), (wv (vbin T .geq t_int x10 (.int .i64 0)) fun v11 => brB (some v11)
  (wv (vnil x8) fun v12 => wv (vfaddr T t_cursor_Writer v12 0) fun v13 => wv (vload T G7 t_sl_uint8 v13) fun v14 => wv (vconv T G7 t_uint8 t_uint64 x9) fun v15 => wv (vbin T .mul t_int (.int .i64 8) x10) fun v16 => wv (vbin T .shr t_uint64 v15 v16) fun v17 => wv (vconv T G7 t_uint64 t_uint8 v17) fun v18 => aBuildSlice T t_sl_uint8 1 [(0, v18)] G7 fun v19 G20 => aAppend T G20 t_sl_uint8 t_sl_uint8 v14 v19 fun v21 G22 => wv (vnil x8) fun v23 => wv (vfaddr T t_cursor_Writer v23 0) fun v24 => wg (vstore T G22 t_sl_uint8 v24 v21) fun G25 => wv (vbin T .sub t_int x10 (.int .i64 1)) fun v26 => R6 [x8, x9, v26] G25)
  (Q (.tuple []) G7)) → R6 [x8, x9, x10] G7) →
  R6 [a0, a1, v5] G)
def cursor_lay_uint8.an : Ann := .two (.nil) (.two (.nil) (.loop [0, 1, 6] (.two (.nil) (.two (.ord [(0, []), (1, []), (2, []), (3, []), (4, []), (5, []), (6, []), (7, []), (8, []), (9, []), (10, []), (11, []), (12, []), (13, []), (14, []), (15, [])]) (.nil)))))
set_option maxRecDepth 100000 in
theorem cursor_lay_uint8.sound {a0 a1 a2 : AVal} {G : Heap} {Q : AVal → Heap → Prop} (h : cursor_lay_uint8.S a0 a1 a2 G Q) : ACalls P cursor_lay_uint8.n [a0, a1, a2] G Q := by
  have e : cursor_lay_uint8.S a0 a1 a2 G Q = awp cx (cursor_lay_uint8.body) cursor_lay_uint8.an (bodyQ T [] Q) (envL [a0, a1, a2]) G := by kernel_rfl
  exact ACalls_of_awp cxOk (f := cursor_lay_uint8.n) (fn := Try.f40) (c := cursor_lay_uint8.body) (an := cursor_lay_uint8.an) Try.func40 (by kernel_rfl) (by kernel_rfl) (by kernel_rfl) (drawsOk_of (by kernel_rfl) (by kernel_rfl)) (by simp [Try.f40]) (e ▸ h)

/-! #### (*escrow/cursor.Writer).U8 -/
def cursor_Writer_U8.S (a0 a1 : AVal) (G : Heap) (Q : AVal → Heap → Prop) : Prop :=
  ACalls P cursor_lay_uint8.n [a0, a1, .int .i64 1] G fun v1 G2 => Q (.tuple []) G2
def cursor_Writer_U8.an : Ann := .nil
set_option maxRecDepth 100000 in
theorem cursor_Writer_U8.sound {a0 a1 : AVal} {G : Heap} {Q : AVal → Heap → Prop} (h : cursor_Writer_U8.S a0 a1 G Q) : ACalls P cursor_Writer_U8.n [a0, a1] G Q := by
  have e : cursor_Writer_U8.S a0 a1 G Q = awp cx (cursor_Writer_U8.body) cursor_Writer_U8.an (bodyQ T [] Q) (envL [a0, a1]) G := by kernel_rfl
  exact ACalls_of_awp cxOk (f := cursor_Writer_U8.n) (fn := Try.f23) (c := cursor_Writer_U8.body) (an := cursor_Writer_U8.an) Try.func23 (by kernel_rfl) (by kernel_rfl) (by kernel_rfl) (drawsOk_of (by kernel_rfl) (by kernel_rfl)) (by simp [Try.f23]) (e ▸ h)

/-! #### escrow/cursor.lay[uint64] -/
def cursor_lay_uint64.S (a0 a1 a2 : AVal) (G : Heap) (Q : AVal → Heap → Prop) : Prop :=
  wv (vnil a0) fun v1 => wv (vfaddr T t_cursor_Writer v1 1) fun v2 => wv (vload T G t_api_Errno v2) fun v3 => wv (vbin T .neq t_api_Errno v3 (.int .i64 0)) fun v4 => brB (some v4)
  (Q (.tuple []) G)
  (wv (vbin T .sub t_int a2 (.int .i64 1)) fun v5 => ∀ R6 : List AVal → Heap → Prop,
  (∀ (x8 x9 x10 : AVal) (G7 : Heap), (wv (vbin T .geq t_int x10 (.int .i64 0)) fun v11 => brB (some v11)
  (wv (vnil x8) fun v12 => wv (vfaddr T t_cursor_Writer v12 0) fun v13 => wv (vload T G7 t_sl_uint8 v13) fun v14 => wv (vbin T .mul t_int (.int .i64 8) x10) fun v15 => wv (vbin T .shr t_uint64 x9 v15) fun v16 => wv (vconv T G7 t_uint64 t_uint8 v16) fun v17 => aBuildSlice T t_sl_uint8 1 [(0, v17)] G7 fun v18 G19 => aAppend T G19 t_sl_uint8 t_sl_uint8 v14 v18 fun v20 G21 => wv (vnil x8) fun v22 => wv (vfaddr T t_cursor_Writer v22 0) fun v23 => wg (vstore T G21 t_sl_uint8 v23 v20) fun G24 => wv (vbin T .sub t_int x10 (.int .i64 1)) fun v25 => R6 [x8, x9, v25] G24)
  (Q (.tuple []) G7)) → R6 [x8, x9, x10] G7) →
  R6 [a0, a1, v5] G)
def cursor_lay_uint64.an : Ann := .two (.nil) (.two (.nil) (.loop [0, 1, 6] (.two (.nil) (.two (.ord [(0, []), (1, []), (2, []), (3, []), (4, []), (5, []), (6, []), (7, []), (8, []), (9, []), (10, []), (11, []), (12, []), (13, []), (14, [])]) (.nil)))))
set_option maxRecDepth 100000 in
theorem cursor_lay_uint64.sound {a0 a1 a2 : AVal} {G : Heap} {Q : AVal → Heap → Prop} (h : cursor_lay_uint64.S a0 a1 a2 G Q) : ACalls P cursor_lay_uint64.n [a0, a1, a2] G Q := by
  have e : cursor_lay_uint64.S a0 a1 a2 G Q = awp cx (cursor_lay_uint64.body) cursor_lay_uint64.an (bodyQ T [] Q) (envL [a0, a1, a2]) G := by kernel_rfl
  exact ACalls_of_awp cxOk (f := cursor_lay_uint64.n) (fn := Try.f41) (c := cursor_lay_uint64.body) (an := cursor_lay_uint64.an) Try.func41 (by kernel_rfl) (by kernel_rfl) (by kernel_rfl) (drawsOk_of (by kernel_rfl) (by kernel_rfl)) (by simp [Try.f41]) (e ▸ h)

/-! #### (*escrow/cursor.Writer).I64 -/
def cursor_Writer_I64.S (a0 a1 : AVal) (G : Heap) (Q : AVal → Heap → Prop) : Prop :=
  wv (vconv T G t_int64 t_uint64 a1) fun v1 => ACalls P cursor_lay_uint64.n [a0, v1, .int .i64 8] G fun v2 G3 => Q (.tuple []) G3
def cursor_Writer_I64.an : Ann := .nil
set_option maxRecDepth 100000 in
theorem cursor_Writer_I64.sound {a0 a1 : AVal} {G : Heap} {Q : AVal → Heap → Prop} (h : cursor_Writer_I64.S a0 a1 G Q) : ACalls P cursor_Writer_I64.n [a0, a1] G Q := by
  have e : cursor_Writer_I64.S a0 a1 G Q = awp cx (cursor_Writer_I64.body) cursor_Writer_I64.an (bodyQ T [] Q) (envL [a0, a1]) G := by kernel_rfl
  exact ACalls_of_awp cxOk (f := cursor_Writer_I64.n) (fn := Try.f24) (c := cursor_Writer_I64.body) (an := cursor_Writer_I64.an) Try.func24 (by kernel_rfl) (by kernel_rfl) (by kernel_rfl) (drawsOk_of (by kernel_rfl) (by kernel_rfl)) (by simp [Try.f24]) (e ▸ h)

/-! #### (*escrow/cursor.Writer).Raw -/
def cursor_Writer_Raw.S (a0 a1 : AVal) (G : Heap) (Q : AVal → Heap → Prop) : Prop :=
  wv (vnil a0) fun v1 => wv (vfaddr T t_cursor_Writer v1 1) fun v2 => wv (vload T G t_api_Errno v2) fun v3 => wv (vbin T .eql t_api_Errno v3 (.int .i64 0)) fun v4 => brB (some v4)
  (wv (vnil a0) fun v5 => wv (vfaddr T t_cursor_Writer v5 0) fun v6 => wv (vload T G t_sl_uint8 v6) fun v7 => aAppend T G t_sl_uint8 t_string v7 a1 fun v8 G9 => wv (vnil a0) fun v10 => wv (vfaddr T t_cursor_Writer v10 0) fun v11 => wg (vstore T G9 t_sl_uint8 v11 v8) fun G12 => Q (.tuple []) G12)
  (Q (.tuple []) G)
def cursor_Writer_Raw.an : Ann := .nil
set_option maxRecDepth 100000 in
theorem cursor_Writer_Raw.sound {a0 a1 : AVal} {G : Heap} {Q : AVal → Heap → Prop} (h : cursor_Writer_Raw.S a0 a1 G Q) : ACalls P cursor_Writer_Raw.n [a0, a1] G Q := by
  have e : cursor_Writer_Raw.S a0 a1 G Q = awp cx (cursor_Writer_Raw.body) cursor_Writer_Raw.an (bodyQ T [] Q) (envL [a0, a1]) G := by kernel_rfl
  exact ACalls_of_awp cxOk (f := cursor_Writer_Raw.n) (fn := Try.f42) (c := cursor_Writer_Raw.body) (an := cursor_Writer_Raw.an) Try.func42 (by kernel_rfl) (by kernel_rfl) (by kernel_rfl) (drawsOk_of (by kernel_rfl) (by kernel_rfl)) (by simp [Try.f42]) (e ▸ h)

/-! #### (*escrow/cursor.Writer).Hash -/
def cursor_Writer_Hash.S (a0 a1 : AVal) (G : Heap) (Q : AVal → Heap → Prop) : Prop :=
  aNew G (.own (a1)) fun i1 G2 => wv (vslice T t_api_Hash (.ptr i1 [] 0) none none none) fun v3 => wv (vconv T G2 t_sl_uint8 t_string v3) fun v4 => ACalls P cursor_Writer_Raw.n [a0, v4] G2 fun v5 G6 => Q (.tuple []) G6
def cursor_Writer_Hash.an : Ann := .nil
set_option maxRecDepth 100000 in
theorem cursor_Writer_Hash.sound {a0 a1 : AVal} {G : Heap} {Q : AVal → Heap → Prop} (h : cursor_Writer_Hash.S a0 a1 G Q) : ACalls P cursor_Writer_Hash.n [a0, a1] G Q := by
  have e : cursor_Writer_Hash.S a0 a1 G Q = awp cx (cursor_Writer_Hash.body) cursor_Writer_Hash.an (bodyQ T [] Q) (envL [a0, a1]) G := by kernel_rfl
  exact ACalls_of_awp cxOk (f := cursor_Writer_Hash.n) (fn := Try.f25) (c := cursor_Writer_Hash.body) (an := cursor_Writer_Hash.an) Try.func25 (by kernel_rfl) (by kernel_rfl) (by kernel_rfl) (drawsOk_of (by kernel_rfl) (by kernel_rfl)) (by simp [Try.f25]) (e ▸ h)

/-! #### (*escrow/cursor.Writer).Out -/
def cursor_Writer_Out.S (a0 : AVal) (G : Heap) (Q : AVal → Heap → Prop) : Prop :=
  wv (vnil a0) fun v1 => wv (vfaddr T t_cursor_Writer v1 1) fun v2 => wv (vload T G t_api_Errno v2) fun v3 => wv (vbin T .neq t_api_Errno v3 (.int .i64 0)) fun v4 => brB (some v4)
  (wv (vnil a0) fun v5 => wv (vfaddr T t_cursor_Writer v5 1) fun v6 => wv (vload T G t_api_Errno v6) fun v7 => Q (.tuple [.str [], v7]) G)
  (wv (vnil a0) fun v8 => wv (vfaddr T t_cursor_Writer v8 0) fun v9 => wv (vload T G t_sl_uint8 v9) fun v10 => wv (vconv T G t_sl_uint8 t_string v10) fun v11 => Q (.tuple [v11, .int .i64 0]) G)
def cursor_Writer_Out.an : Ann := .two (.nil) (.two (.two (.nil) (.two (.two (.ord [(0, []), (1, []), (2, []), (3, []), (4, []), (5, [])]) (.nil)) (.nil))) (.nil))
set_option maxRecDepth 100000 in
theorem cursor_Writer_Out.sound {a0 : AVal} {G : Heap} {Q : AVal → Heap → Prop} (h : cursor_Writer_Out.S a0 G Q) : ACalls P cursor_Writer_Out.n [a0] G Q := by
  have e : cursor_Writer_Out.S a0 G Q = awp cx (cursor_Writer_Out.body) cursor_Writer_Out.an (bodyQ T [.tmp 2, .tmp 3] Q) (envL [a0]) G := by kernel_rfl
  exact ACalls_of_awp cxOk (f := cursor_Writer_Out.n) (fn := Try.f26) (c := cursor_Writer_Out.body) (an := cursor_Writer_Out.an) Try.func26 (by kernel_rfl) (by kernel_rfl) (by kernel_rfl) (drawsOk_of (by kernel_rfl) (by kernel_rfl)) (by simp [Try.f26]) (e ▸ h)

/-! #### escrow/cursor.lay[uint16] -/
def cursor_lay_uint16.S (a0 a1 a2 : AVal) (G : Heap) (Q : AVal → Heap → Prop) : Prop :=
  wv (vnil a0) fun v1 => wv (vfaddr T t_cursor_Writer v1 1) fun v2 => wv (vload T G t_api_Errno v2) fun v3 => wv (vbin T .neq t_api_Errno v3 (.int .i64 0)) fun v4 => brB (some v4)
  (Q (.tuple []) G)
  (wv (vbin T .sub t_int a2 (.int .i64 1)) fun v5 => ∀ R6 : List AVal → Heap → Prop,
  (∀ (x8 x9 x10 : AVal) (G7 : Heap), (wv (vbin T .geq t_int x10 (.int .i64 0)) fun v11 => brB (some v11)
  (wv (vnil x8) fun v12 => wv (vfaddr T t_cursor_Writer v12 0) fun v13 => wv (vload T G7 t_sl_uint8 v13) fun v14 => wv (vconv T G7 t_uint16 t_uint64 x9) fun v15 => wv (vbin T .mul t_int (.int .i64 8) x10) fun v16 => wv (vbin T .shr t_uint64 v15 v16) fun v17 => wv (vconv T G7 t_uint64 t_uint8 v17) fun v18 => aBuildSlice T t_sl_uint8 1 [(0, v18)] G7 fun v19 G20 => aAppend T G20 t_sl_uint8 t_sl_uint8 v14 v19 fun v21 G22 => wv (vnil x8) fun v23 => wv (vfaddr T t_cursor_Writer v23 0) fun v24 => wg (vstore T G22 t_sl_uint8 v24 v21) fun G25 => wv (vbin T .sub t_int x10 (.int .i64 1)) fun v26 => R6 [x8, x9, v26] G25)
  (Q (.tuple []) G7)) → R6 [x8, x9, x10] G7) →
  R6 [a0, a1, v5] G)
def cursor_lay_uint16.an : Ann := .two (.nil) (.two (.nil) (.loop [0, 1, 6] (.two (.nil) (.two (.ord [(0, []), (1, []), (2, []), (3, []), (4, []), (5, []), (6, []), (7, []), (8, []), (9, []), (10, []), (11, []), (12, []), (13, []), (14, []), (15, [])]) (.nil)))))
set_option maxRecDepth 100000 in
theorem cursor_lay_uint16.sound {a0 a1 a2 : AVal} {G : Heap} {Q : AVal → Heap → Prop} (h : cursor_lay_uint16.S a0 a1 a2 G Q) : ACalls P cursor_lay_uint16.n [a0, a1, a2] G Q := by
  have e : cursor_lay_uint16.S a0 a1 a2 G Q = awp cx (cursor_lay_uint16.body) cursor_lay_uint16.an (bodyQ T [] Q) (envL [a0, a1, a2]) G := by kernel_rfl
  exact ACalls_of_awp cxOk (f := cursor_lay_uint16.n) (fn := Try.f57) (c := cursor_lay_uint16.body) (an := cursor_lay_uint16.an) Try.func57 (by kernel_rfl) (by kernel_rfl) (by kernel_rfl) (drawsOk_of (by kernel_rfl) (by kernel_rfl)) (by simp [Try.f57]) (e ▸ h)

/-! #### (*escrow/cursor.Writer).U16 -/
def cursor_Writer_U16.S (a0 a1 : AVal) (G : Heap) (Q : AVal → Heap → Prop) : Prop :=
  ACalls P cursor_lay_uint16.n [a0, a1, .int .i64 2] G fun v1 G2 => Q (.tuple []) G2
def cursor_Writer_U16.an : Ann := .nil
set_option maxRecDepth 100000 in
theorem cursor_Writer_U16.sound {a0 a1 : AVal} {G : Heap} {Q : AVal → Heap → Prop} (h : cursor_Writer_U16.S a0 a1 G Q) : ACalls P cursor_Writer_U16.n [a0, a1] G Q := by
  have e : cursor_Writer_U16.S a0 a1 G Q = awp cx (cursor_Writer_U16.body) cursor_Writer_U16.an (bodyQ T [] Q) (envL [a0, a1]) G := by kernel_rfl
  exact ACalls_of_awp cxOk (f := cursor_Writer_U16.n) (fn := Try.f38) (c := cursor_Writer_U16.body) (an := cursor_Writer_U16.an) Try.func38 (by kernel_rfl) (by kernel_rfl) (by kernel_rfl) (drawsOk_of (by kernel_rfl) (by kernel_rfl)) (by simp [Try.f38]) (e ▸ h)

/-! #### (*escrow/cursor.Writer).Text -/
def cursor_Writer_Text.S (a0 a1 : AVal) (G : Heap) (Q : AVal → Heap → Prop) : Prop :=
  let J31 : AVal → Heap → Prop := (fun x8 G7 => brB (some x8)
  (wv (vnil a0) fun v9 => wv (vfaddr T t_cursor_Writer v9 1) fun v10 => wg (vstore T G7 t_api_Errno v10 (.int .i64 3)) fun G11 => wv (vlen T G11 t_string a1) fun v19 => wv (vconv T G11 t_int t_uint16 v19) fun v20 => ACalls P cursor_lay_uint16.n [a0, v20, .int .i64 2] G11 fun v21 G22 => ACalls P cursor_Writer_Raw.n [a0, a1] G22 fun v23 G24 => Q (.tuple []) G24)
  (wv (vlen T G7 t_string a1) fun v25 => wv (vconv T G7 t_int t_uint16 v25) fun v26 => ACalls P cursor_lay_uint16.n [a0, v26, .int .i64 2] G7 fun v27 G28 => ACalls P cursor_Writer_Raw.n [a0, a1] G28 fun v29 G30 => Q (.tuple []) G30));
  wv (vnil a0) fun v1 => wv (vfaddr T t_cursor_Writer v1 1) fun v2 => wv (vload T G t_api_Errno v2) fun v3 => wv (vbin T .eql t_api_Errno v3 (.int .i64 0)) fun v4 => brB (some v4)
  (wv (vlen T G t_string a1) fun v5 => wv (vbin T .gtr t_int v5 (.int .i64 65535)) fun v6 => J31 v6 G)
  (J31 (.bool false) G)
def cursor_Writer_Text.an : Ann := .nil
set_option maxRecDepth 100000 in
theorem cursor_Writer_Text.sound {a0 a1 : AVal} {G : Heap} {Q : AVal → Heap → Prop} (h : cursor_Writer_Text.S a0 a1 G Q) : ACalls P cursor_Writer_Text.n [a0, a1] G Q := by
  have e : cursor_Writer_Text.S a0 a1 G Q = awp cx (cursor_Writer_Text.body) cursor_Writer_Text.an (bodyQ T [] Q) (envL [a0, a1]) G := by kernel_rfl
  exact ACalls_of_awp cxOk (f := cursor_Writer_Text.n) (fn := Try.f39) (c := cursor_Writer_Text.body) (an := cursor_Writer_Text.an) Try.func39 (by kernel_rfl) (by kernel_rfl) (by kernel_rfl) (drawsOk_of (by kernel_rfl) (by kernel_rfl)) (by simp [Try.f39]) (e ▸ h)

/-! #### escrow/update.Write -/
def update_Write.S (a0 : AVal) (G : Heap) (Q : AVal → Heap → Prop) : Prop :=
  aNew G (.own (a0)) fun i1 G2 => wv (vload T G2 t_api_Update (.ptr i1 [] 0)) fun v3 => ACalls P update_Valid.n [v3] G2 fun v4 G5 => wv (vun .not v4) fun v6 => brB (some v6)
  (Q (.tuple [.str [], .int .i64 120]) G5)
  (ACalls P cursor_New.n [] G5 fun v7 G8 => wv (vload T G8 t_int (.ptr i1 [0] 0)) fun v9 => wv (vconv T G8 t_int t_uint8 v9) fun v10 => ACalls P cursor_Writer_U8.n [v7, v10] G8 fun v11 G12 => wv (vload T G12 t_int64 (.ptr i1 [1] 1)) fun v13 => wv (vconv T G12 t_int64 t_uint16 v13) fun v14 => ACalls P cursor_Writer_U16.n [v7, v14] G12 fun v15 G16 => wv (vload T G16 t_int (.ptr i1 [0] 0)) fun v17 => let J41 : Heap → Prop := (fun G36 => ACalls P cursor_Writer_Out.n [v7] G36 fun v37 G38 => wv (vextract v37 0) fun v39 => wv (vextract v37 1) fun v40 => Q (.tuple [v39, v40]) G38);
  wv (vbin T .eql t_int v17 (.int .i64 1)) fun v18 => brB (some v18)
  (wv (vload T G16 t_int64 (.ptr i1 [2] 2)) fun v19 => ACalls P cursor_Writer_I64.n [v7, v19] G16 fun v20 G21 => wv (vload T G21 t_api_Hash (.ptr i1 [3] 3)) fun v22 => ACalls P cursor_Writer_Hash.n [v7, v22] G21 fun v23 G24 => J41 G24)
  (wv (vbin T .eql t_int v17 (.int .i64 2)) fun v25 => brB (some v25)
  (wv (vload T G16 t_api_Hash (.ptr i1 [3] 3)) fun v26 => ACalls P cursor_Writer_Hash.n [v7, v26] G16 fun v27 G28 => J41 G28)
  (wv (vbin T .eql t_int v17 (.int .i64 3)) fun v29 => brB (some v29)
  (wv (vload T G16 t_string (.ptr i1 [4] 35)) fun v30 => ACalls P cursor_Writer_Text.n [v7, v30] G16 fun v31 G32 => J41 G32)
  (J41 G16))))
def update_Write.an : Ann := .nil
set_option maxRecDepth 100000 in
theorem update_Write.sound {a0 : AVal} {G : Heap} {Q : AVal → Heap → Prop} (h : update_Write.S a0 G Q) : ACalls P update_Write.n [a0] G Q := by
  have e : update_Write.S a0 G Q = awp cx (update_Write.body) update_Write.an (bodyQ T [.tmp 2, .tmp 3] Q) (envL [a0]) G := by kernel_rfl
  exact ACalls_of_awp cxOk (f := update_Write.n) (fn := Try.f16) (c := update_Write.body) (an := update_Write.an) Try.func16 (by kernel_rfl) (by kernel_rfl) (by kernel_rfl) (drawsOk_of (by kernel_rfl) (by kernel_rfl)) (by simp [Try.f16]) (e ▸ h)

/-! #### escrow/msg.Of -/
def msg_Of.S (a0 : AVal) (G : Heap) (Q : AVal → Heap → Prop) : Prop :=
  aNew G (.own (a0)) fun i1 G2 => aNew G2 (.own (z_api_Message)) fun i3 G4 => wv (vload T G4 t_int (.ptr i1 [0] 0)) fun v5 => wv (vload T G4 t_int64 (.ptr i1 [1] 1)) fun v6 => wv (vload T G4 t_int64 (.ptr i1 [2] 2)) fun v7 => wv (vload T G4 t_api_Hash (.ptr i1 [3] 3)) fun v8 => wv (vload T G4 t_string (.ptr i1 [4] 35)) fun v9 => wv (vbuild T t_api_Message [(0, v5), (1, v6), (2, v7), (5, v8), (7, v9)]) fun v10 => wg (vstore T G4 t_api_Message (.ptr i3 [] 0) v10) fun G11 => wv (vload T G11 t_api_Message (.ptr i3 [] 0)) fun v12 => Q v12 G11
def msg_Of.an : Ann := .nil
set_option maxRecDepth 100000 in
theorem msg_Of.sound {a0 : AVal} {G : Heap} {Q : AVal → Heap → Prop} (h : msg_Of.S a0 G Q) : ACalls P msg_Of.n [a0] G Q := by
  have e : msg_Of.S a0 G Q = awp cx (msg_Of.body) msg_Of.an (bodyQ T [.cell 2 25] Q) (envL [a0]) G := by kernel_rfl
  exact ACalls_of_awp cxOk (f := msg_Of.n) (fn := Try.f14) (c := msg_Of.body) (an := msg_Of.an) Try.func14 (by kernel_rfl) (by kernel_rfl) (by kernel_rfl) (drawsOk_of (by kernel_rfl) (by kernel_rfl)) (by simp [Try.f14]) (e ▸ h)

/-! #### escrow/msg.named -/
def msg_named.S (a0 : AVal) (G : Heap) (Q : AVal → Heap → Prop) : Prop :=
  aNew G (.own (a0)) fun i1 G2 => aNew G2 (.own (z_api_Message)) fun i3 G4 => wv (vload T G4 t_int (.ptr i1 [0] 0)) fun v5 => wv (vload T G4 t_int64 (.ptr i1 [3] 3)) fun v6 => wv (vbuild T t_api_Message [(0, v5), (3, v6)]) fun v7 => aNew G4 (.own (z_api_Message)) fun i8 G9 => wg (vstore T G9 t_api_Message (.ptr i8 [] 0) v7) fun G10 => wv (vload T G10 t_int (.ptr i1 [0] 0)) fun v11 => let J58 : Heap → Prop := (fun G54 => wv (vload T G54 t_api_Message (.ptr i8 [] 0)) fun v55 => wg (vstore T G54 t_api_Message (.ptr i3 [] 0) v55) fun G56 => wv (vload T G56 t_api_Message (.ptr i3 [] 0)) fun v57 => Q (.tuple [v57, .bool true]) G56);
  wv (vbin T .eql t_int v11 (.int .i64 1)) fun v12 => let J53 : AVal → Heap → Prop := (fun x18 G17 => brB (some x18)
  (wv (vload T G17 t_api_Message (.ptr i1 [] 0)) fun v19 => ACalls P msg_Update.n [v19] G17 fun v20 G21 => wv (vextract v20 0) fun v22 => wv (vextract v20 1) fun v23 => aNew G21 (.own (z_api_Update)) fun i24 G25 => wg (vstore T G25 t_api_Update (.ptr i24 [] 0) v22) fun G26 => wv (vload T G26 t_api_Update (.ptr i24 [] 0)) fun v27 => ACalls P msg_Of.n [v27] G26 fun v28 G29 => wg (vstore T G29 t_api_Message (.ptr i3 [] 0) v28) fun G30 => wv (vload T G30 t_api_Message (.ptr i3 [] 0)) fun v31 => Q (.tuple [v31, .bool true]) G30)
  (wv (vbin T .eql t_int v11 (.int .i64 4)) fun v32 => brB (some v32)
  (wv (vload T G17 t_api_Hash (.ptr i1 [5] 5)) fun v33 => wg (vstore T G17 t_api_Hash (.ptr i8 [5] 5) v33) fun G34 => J58 G34)
  (wv (vbin T .eql t_int v11 (.int .i64 5)) fun v35 => brB (some v35)
  (wv (vload T G17 t_api_Hash (.ptr i1 [6] 37)) fun v36 => wv (vload T G17 t_api_Hash (.ptr i1 [5] 5)) fun v37 => wg (vstore T G17 t_api_Hash (.ptr i8 [6] 37) v36) fun G38 => (vload T G38 t_api_Hash (.ptr i1 [5] 5) = some v37 ∧ True) ∧ (wg (vstore T G38 t_api_Hash (.ptr i8 [5] 5) v37) fun G39 => J58 G39))
  (wv (vbin T .eql t_int v11 (.int .i64 6)) fun v40 => brB (some v40)
  (wv (vload T G17 t_int64 (.ptr i1 [4] 4)) fun v41 => wv (vload T G17 t_api_Hash (.ptr i1 [6] 37)) fun v42 => wg (vstore T G17 t_int64 (.ptr i8 [4] 4) v41) fun G43 => (vload T G43 t_api_Hash (.ptr i1 [6] 37) = some v42 ∧ True) ∧ (wg (vstore T G43 t_api_Hash (.ptr i8 [6] 37) v42) fun G44 => J58 G44))
  (wv (vbin T .eql t_int v11 (.int .i64 7)) fun v45 => brB (some v45)
  (J58 G17)
  (wv (vbuild T t_api_Message []) fun v46 => wg (vstore T G17 t_api_Message (.ptr i3 [] 0) v46) fun G47 => wv (vload T G47 t_api_Message (.ptr i3 [] 0)) fun v48 => Q (.tuple [v48, .bool false]) G47))))));
  brB (some v12)
  (J53 v12 G10)
  (wv (vbin T .eql t_int v11 (.int .i64 2)) fun v13 => brB (some v13)
  (J53 v13 G10)
  (wv (vbin T .eql t_int v11 (.int .i64 3)) fun v14 => J53 v14 G10))
def msg_named.an : Ann := .two (.nil) (.two (.nil) (.two (.two (.nil) (.two (.nil) (.two (.nil) (.two (.nil) (.two (.nil) (.two (.nil) (.two (.ord [(0, []), (1, []), (2, []), (3, []), (4, []), (5, [3]), (6, []), (7, [])]) (.two (.nil) (.two (.ord [(0, []), (1, []), (2, []), (3, []), (4, []), (5, [3]), (6, []), (7, [])]) (.nil)))))))))) (.nil)))
set_option maxRecDepth 100000 in
theorem msg_named.sound {a0 : AVal} {G : Heap} {Q : AVal → Heap → Prop} (h : msg_named.S a0 G Q) : ACalls P msg_named.n [a0] G Q := by
  have e : msg_named.S a0 G Q = awp cx (msg_named.body) msg_named.an (bodyQ T [.cell 2 25, .tmp 3] Q) (envL [a0]) G := by kernel_rfl
  exact ACalls_of_awp cxOk (f := msg_named.n) (fn := Try.f20) (c := msg_named.body) (an := msg_named.an) Try.func20 (by kernel_rfl) (by kernel_rfl) (by kernel_rfl) (drawsOk_of (by kernel_rfl) (by kernel_rfl)) (by simp [Try.f20]) (e ▸ h)

/-! #### escrow/msg.right -/
def msg_right.S (a0 : AVal) (G : Heap) (Q : AVal → Heap → Prop) : Prop :=
  wv (vbin T .geq t_int64 a0 (.int .i64 0)) fun v1 => brB (some v1)
  (wv (vbin T .leq t_int64 a0 (.int .i64 281474976710655)) fun v2 => Q v2 G)
  (Q (.bool false) G)
def msg_right.an : Ann := .nil
set_option maxRecDepth 100000 in
theorem msg_right.sound {a0 : AVal} {G : Heap} {Q : AVal → Heap → Prop} (h : msg_right.S a0 G Q) : ACalls P msg_right.n [a0] G Q := by
  have e : msg_right.S a0 G Q = awp cx (msg_right.body) msg_right.an (bodyQ T [.tmp 2] Q) (envL [a0]) G := by kernel_rfl
  exact ACalls_of_awp cxOk (f := msg_right.n) (fn := Try.f21) (c := msg_right.body) (an := msg_right.an) Try.func21 (by kernel_rfl) (by kernel_rfl) (by kernel_rfl) (drawsOk_of (by kernel_rfl) (by kernel_rfl)) (by simp [Try.f21]) (e ▸ h)

/-! #### escrow/msg.Write -/
def msg_Write.S (a0 : AVal) (G : Heap) (Q : AVal → Heap → Prop) : Prop :=
  aNew G (.own (a0)) fun i1 G2 => wv (vload T G2 t_api_Message (.ptr i1 [] 0)) fun v3 => ACalls P msg_named.n [v3] G2 fun v4 G5 => wv (vextract v4 0) fun v6 => wv (vextract v4 1) fun v7 => aNew G5 (.own (z_api_Message)) fun i8 G9 => wg (vstore T G9 t_api_Message (.ptr i8 [] 0) v6) fun G10 => let J76 : AVal → Heap → Prop := (fun x24 G23 => brB (some x24)
  (Q (.tuple [.str [], .int .i64 160]) G23)
  (wv (vload T G23 t_api_Message (.ptr i1 [] 0)) fun v25 => ACalls P msg_Update.n [v25] G23 fun v26 G27 => wv (vextract v26 0) fun v28 => wv (vextract v26 1) fun v29 => aNew G27 (.own (z_api_Update)) fun i30 G31 => wg (vstore T G31 t_api_Update (.ptr i30 [] 0) v28) fun G32 => brB (some v29)
  (wv (vload T G32 t_api_Update (.ptr i30 [] 0)) fun v33 => ACalls P update_Write.n [v33] G32 fun v34 G35 => wv (vextract v34 0) fun v36 => wv (vextract v34 1) fun v37 => wv (vbin T .neq t_api_Errno v37 (.int .i64 0)) fun v38 => brB (some v38)
  (Q (.tuple [.str [], .int .i64 160]) G35)
  (Q (.tuple [v36, .int .i64 0]) G35))
  (ACalls P cursor_New.n [] G32 fun v39 G40 => wv (vload T G40 t_int (.ptr i1 [0] 0)) fun v41 => wv (vconv T G40 t_int t_uint8 v41) fun v42 => ACalls P cursor_Writer_U8.n [v39, v42] G40 fun v43 G44 => wv (vload T G44 t_int64 (.ptr i1 [3] 3)) fun v45 => ACalls P cursor_Writer_I64.n [v39, v45] G44 fun v46 G47 => wv (vload T G47 t_int (.ptr i1 [0] 0)) fun v48 => let J75 : Heap → Prop := (fun G70 => ACalls P cursor_Writer_Out.n [v39] G70 fun v71 G72 => wv (vextract v71 0) fun v73 => wv (vextract v71 1) fun v74 => Q (.tuple [v73, v74]) G72);
  wv (vbin T .eql t_int v48 (.int .i64 4)) fun v49 => brB (some v49)
  (wv (vload T G47 t_api_Hash (.ptr i1 [5] 5)) fun v50 => ACalls P cursor_Writer_Hash.n [v39, v50] G47 fun v51 G52 => J75 G52)
  (wv (vbin T .eql t_int v48 (.int .i64 5)) fun v53 => brB (some v53)
  (wv (vload T G47 t_api_Hash (.ptr i1 [6] 37)) fun v54 => ACalls P cursor_Writer_Hash.n [v39, v54] G47 fun v55 G56 => wv (vload T G56 t_api_Hash (.ptr i1 [5] 5)) fun v57 => ACalls P cursor_Writer_Hash.n [v39, v57] G56 fun v58 G59 => J75 G59)
  (wv (vbin T .eql t_int v48 (.int .i64 6)) fun v60 => brB (some v60)
  (wv (vload T G47 t_int64 (.ptr i1 [4] 4)) fun v61 => ACalls P cursor_Writer_I64.n [v39, v61] G47 fun v62 G63 => wv (vload T G63 t_api_Hash (.ptr i1 [6] 37)) fun v64 => ACalls P cursor_Writer_Hash.n [v39, v64] G63 fun v65 G66 => J75 G66)
  (J75 G47))))));
  wv (vun .not v7) fun v11 => brB (some v11)
  (J76 (.bool true) G10)
  (wv (vload T G10 t_api_Message (.ptr i8 [] 0)) fun v12 => wv (vload T G10 t_api_Message (.ptr i1 [] 0)) fun v13 => wv (vbin T .neq t_api_Message v12 v13) fun v14 => brB (some v14)
  (J76 (.bool true) G10)
  (wv (vload T G10 t_int64 (.ptr i1 [3] 3)) fun v15 => ACalls P msg_right.n [v15] G10 fun v16 G17 => wv (vun .not v16) fun v18 => brB (some v18)
  (J76 (.bool true) G17)
  (wv (vload T G17 t_int64 (.ptr i1 [4] 4)) fun v19 => ACalls P msg_right.n [v19] G17 fun v20 G21 => wv (vun .not v20) fun v22 => J76 v22 G21)))
def msg_Write.an : Ann := .nil
set_option maxRecDepth 100000 in
theorem msg_Write.sound {a0 : AVal} {G : Heap} {Q : AVal → Heap → Prop} (h : msg_Write.S a0 G Q) : ACalls P msg_Write.n [a0] G Q := by
  have e : msg_Write.S a0 G Q = awp cx (msg_Write.body) msg_Write.an (bodyQ T [.tmp 2, .tmp 3] Q) (envL [a0]) G := by kernel_rfl
  exact ACalls_of_awp cxOk (f := msg_Write.n) (fn := Try.f8) (c := msg_Write.body) (an := msg_Write.an) Try.func8 (by kernel_rfl) (by kernel_rfl) (by kernel_rfl) (drawsOk_of (by kernel_rfl) (by kernel_rfl)) (by simp [Try.f8]) (e ▸ h)

/-! #### escrow/cursor.Open -/
def cursor_Open.S (a0 : AVal) (G : Heap) (Q : AVal → Heap → Prop) : Prop :=
  wv (vbuild T t_cursor_Reader [(0, a0)]) fun v1 => aNew G (.own (v1)) fun i2 G3 => Q (.ptr i2 [] 0) G3
def cursor_Open.an : Ann := .nil
set_option maxRecDepth 100000 in
theorem cursor_Open.sound {a0 : AVal} {G : Heap} {Q : AVal → Heap → Prop} (h : cursor_Open.S a0 G Q) : ACalls P cursor_Open.n [a0] G Q := by
  have e : cursor_Open.S a0 G Q = awp cx (cursor_Open.body) cursor_Open.an (bodyQ T [.tmp 2] Q) (envL [a0]) G := by kernel_rfl
  exact ACalls_of_awp cxOk (f := cursor_Open.n) (fn := Try.f30) (c := cursor_Open.body) (an := cursor_Open.an) Try.func30 (by kernel_rfl) (by kernel_rfl) (by kernel_rfl) (drawsOk_of (by kernel_rfl) (by kernel_rfl)) (by simp [Try.f30]) (e ▸ h)

/-! #### escrow/cursor.value[uint8] -/
def cursor_value_uint8.S (a0 : AVal) (G : Heap) (Q : AVal → Heap → Prop) : Prop :=
  wv (vlen T G t_string a0) fun v1 => ∀ R2 : List AVal → Heap → Prop,
  (∀ (x4 x5 x6 x7 : AVal) (G3 : Heap), (wv (vbin T .lss t_int x7 x6) fun v8 => brB (some v8)
  (wv (vbin T .shl t_uint64 x5 (.int .u64 8)) fun v9 => wv (vindex T t_string x4 x7) fun v10 => wv (vconv T G3 t_uint8 t_uint64 v10) fun v11 => wv (vbin T .or t_uint64 v9 v11) fun v12 => wv (vbin T .add t_int x7 (.int .i64 1)) fun v13 => R2 [x4, v12, x6, v13] G3)
  (wv (vconv T G3 t_uint64 t_uint8 x5) fun v14 => Q v14 G3)) → R2 [x4, x5, x6, x7] G3) →
  R2 [a0, .int .u64 0, v1, .int .i64 0] G
def cursor_value_uint8.an : Ann := .two (.nil) (.two (.nil) (.two (.two (.nil) (.loop [0, 3, 6, 7] (.nil))) (.nil)))
set_option maxRecDepth 100000 in
theorem cursor_value_uint8.sound {a0 : AVal} {G : Heap} {Q : AVal → Heap → Prop} (h : cursor_value_uint8.S a0 G Q) : ACalls P cursor_value_uint8.n [a0] G Q := by
  have e : cursor_value_uint8.S a0 G Q = awp cx (cursor_value_uint8.body) cursor_value_uint8.an (bodyQ T [.tmp 2] Q) (envL [a0]) G := by kernel_rfl
  exact ACalls_of_awp cxOk (f := cursor_value_uint8.n) (fn := Try.f45) (c := cursor_value_uint8.body) (an := cursor_value_uint8.an) Try.func45 (by kernel_rfl) (by kernel_rfl) (by kernel_rfl) (drawsOk_of (by kernel_rfl) (by kernel_rfl)) (by simp [Try.f45]) (e ▸ h)

/-! #### (*escrow/cursor.Reader).breaks -/
def cursor_Reader_breaks.S (a0 a1 : AVal) (G : Heap) (Q : AVal → Heap → Prop) : Prop :=
  wv (vnil a0) fun v1 => wv (vfaddr T t_cursor_Reader v1 0) fun v2 => wg (vstore T G t_string v2 (.str [])) fun G3 => wv (vnil a0) fun v4 => wv (vfaddr T t_cursor_Reader v4 1) fun v5 => wg (vstore T G3 t_api_Errno v5 a1) fun G6 => Q (.tuple []) G6
def cursor_Reader_breaks.an : Ann := .nil
set_option maxRecDepth 100000 in
theorem cursor_Reader_breaks.sound {a0 a1 : AVal} {G : Heap} {Q : AVal → Heap → Prop} (h : cursor_Reader_breaks.S a0 a1 G Q) : ACalls P cursor_Reader_breaks.n [a0, a1] G Q := by
  have e : cursor_Reader_breaks.S a0 a1 G Q = awp cx (cursor_Reader_breaks.body) cursor_Reader_breaks.an (bodyQ T [] Q) (envL [a0, a1]) G := by kernel_rfl
  exact ACalls_of_awp cxOk (f := cursor_Reader_breaks.n) (fn := Try.f58) (c := cursor_Reader_breaks.body) (an := cursor_Reader_breaks.an) Try.func58 (by kernel_rfl) (by kernel_rfl) (by kernel_rfl) (drawsOk_of (by kernel_rfl) (by kernel_rfl)) (by simp [Try.f58]) (e ▸ h)

/-! #### (*escrow/cursor.Reader).take -/
def cursor_Reader_take.S (a0 a1 : AVal) (G : Heap) (Q : AVal → Heap → Prop) : Prop :=
  wv (vnil a0) fun v1 => wv (vfaddr T t_cursor_Reader v1 1) fun v2 => wv (vload T G t_api_Errno v2) fun v3 => wv (vbin T .neq t_api_Errno v3 (.int .i64 0)) fun v4 => brB (some v4)
  (Q (.str []) G)
  (wv (vnil a0) fun v5 => wv (vfaddr T t_cursor_Reader v5 0) fun v6 => wv (vload T G t_string v6) fun v7 => wv (vlen T G t_string v7) fun v8 => wv (vbin T .lss t_int v8 a1) fun v9 => brB (some v9)
  (ACalls P cursor_Reader_breaks.n [a0, .int .i64 2] G fun v10 G11 => Q (.str []) G11)
  (wv (vnil a0) fun v12 => wv (vfaddr T t_cursor_Reader v12 0) fun v13 => wv (vload T G t_string v13) fun v14 => wv (vslice T t_string v14 none (some (a1)) none) fun v15 => wv (vnil a0) fun v16 => wv (vfaddr T t_cursor_Reader v16 0) fun v17 => wv (vload T G t_string v17) fun v18 => wv (vslice T t_string v18 (some (a1)) none none) fun v19 => wv (vnil a0) fun v20 => wv (vfaddr T t_cursor_Reader v20 0) fun v21 => wg (vstore T G t_string v21 v19) fun G22 => Q v15 G22))
def cursor_Reader_take.an : Ann := .nil
set_option maxRecDepth 100000 in
theorem cursor_Reader_take.sound {a0 a1 : AVal} {G : Heap} {Q : AVal → Heap → Prop} (h : cursor_Reader_take.S a0 a1 G Q) : ACalls P cursor_Reader_take.n [a0, a1] G Q := by
  have e : cursor_Reader_take.S a0 a1 G Q = awp cx (cursor_Reader_take.body) cursor_Reader_take.an (bodyQ T [.tmp 4] Q) (envL [a0, a1]) G := by kernel_rfl
  exact ACalls_of_awp cxOk (f := cursor_Reader_take.n) (fn := Try.f46) (c := cursor_Reader_take.body) (an := cursor_Reader_take.an) Try.func46 (by kernel_rfl) (by kernel_rfl) (by kernel_rfl) (drawsOk_of (by kernel_rfl) (by kernel_rfl)) (by simp [Try.f46]) (e ▸ h)

/-! #### (*escrow/cursor.Reader).U8 -/
def cursor_Reader_U8.S (a0 : AVal) (G : Heap) (Q : AVal → Heap → Prop) : Prop :=
  ACalls P cursor_Reader_take.n [a0, .int .i64 1] G fun v1 G2 => ACalls P cursor_value_uint8.n [v1] G2 fun v3 G4 => Q v3 G4
def cursor_Reader_U8.an : Ann := .nil
set_option maxRecDepth 100000 in
theorem cursor_Reader_U8.sound {a0 : AVal} {G : Heap} {Q : AVal → Heap → Prop} (h : cursor_Reader_U8.S a0 G Q) : ACalls P cursor_Reader_U8.n [a0] G Q := by
  have e : cursor_Reader_U8.S a0 G Q = awp cx (cursor_Reader_U8.body) cursor_Reader_U8.an (bodyQ T [.tmp 2] Q) (envL [a0]) G := by kernel_rfl
  exact ACalls_of_awp cxOk (f := cursor_Reader_U8.n) (fn := Try.f31) (c := cursor_Reader_U8.body) (an := cursor_Reader_U8.an) Try.func31 (by kernel_rfl) (by kernel_rfl) (by kernel_rfl) (drawsOk_of (by kernel_rfl) (by kernel_rfl)) (by simp [Try.f31]) (e ▸ h)

/-! #### (*escrow/cursor.Reader).Err -/
def cursor_Reader_Err.S (a0 : AVal) (G : Heap) (Q : AVal → Heap → Prop) : Prop :=
  wv (vnil a0) fun v1 => wv (vfaddr T t_cursor_Reader v1 1) fun v2 => wv (vload T G t_api_Errno v2) fun v3 => Q v3 G
def cursor_Reader_Err.an : Ann := .nil
set_option maxRecDepth 100000 in
theorem cursor_Reader_Err.sound {a0 : AVal} {G : Heap} {Q : AVal → Heap → Prop} (h : cursor_Reader_Err.S a0 G Q) : ACalls P cursor_Reader_Err.n [a0] G Q := by
  have e : cursor_Reader_Err.S a0 G Q = awp cx (cursor_Reader_Err.body) cursor_Reader_Err.an (bodyQ T [.tmp 2] Q) (envL [a0]) G := by kernel_rfl
  exact ACalls_of_awp cxOk (f := cursor_Reader_Err.n) (fn := Try.f47) (c := cursor_Reader_Err.body) (an := cursor_Reader_Err.an) Try.func47 (by kernel_rfl) (by kernel_rfl) (by kernel_rfl) (drawsOk_of (by kernel_rfl) (by kernel_rfl)) (by simp [Try.f47]) (e ▸ h)

/-! #### escrow/cursor.value[uint16] -/
def cursor_value_uint16.S (a0 : AVal) (G : Heap) (Q : AVal → Heap → Prop) : Prop :=
  wv (vlen T G t_string a0) fun v1 => ∀ R2 : List AVal → Heap → Prop,
  (∀ (x4 x5 x6 x7 : AVal) (G3 : Heap), (wv (vbin T .lss t_int x7 x6) fun v8 => brB (some v8)
  (wv (vbin T .shl t_uint64 x5 (.int .u64 8)) fun v9 => wv (vindex T t_string x4 x7) fun v10 => wv (vconv T G3 t_uint8 t_uint64 v10) fun v11 => wv (vbin T .or t_uint64 v9 v11) fun v12 => wv (vbin T .add t_int x7 (.int .i64 1)) fun v13 => R2 [x4, v12, x6, v13] G3)
  (wv (vconv T G3 t_uint64 t_uint16 x5) fun v14 => Q v14 G3)) → R2 [x4, x5, x6, x7] G3) →
  R2 [a0, .int .u64 0, v1, .int .i64 0] G
def cursor_value_uint16.an : Ann := .two (.nil) (.two (.nil) (.two (.two (.nil) (.loop [0, 3, 6, 7] (.nil))) (.nil)))
set_option maxRecDepth 100000 in
theorem cursor_value_uint16.sound {a0 : AVal} {G : Heap} {Q : AVal → Heap → Prop} (h : cursor_value_uint16.S a0 G Q) : ACalls P cursor_value_uint16.n [a0] G Q := by
  have e : cursor_value_uint16.S a0 G Q = awp cx (cursor_value_uint16.body) cursor_value_uint16.an (bodyQ T [.tmp 2] Q) (envL [a0]) G := by kernel_rfl
  exact ACalls_of_awp cxOk (f := cursor_value_uint16.n) (fn := Try.f59) (c := cursor_value_uint16.body) (an := cursor_value_uint16.an) Try.func59 (by kernel_rfl) (by kernel_rfl) (by kernel_rfl) (drawsOk_of (by kernel_rfl) (by kernel_rfl)) (by simp [Try.f59]) (e ▸ h)

/-! #### (*escrow/cursor.Reader).U16 -/
def cursor_Reader_U16.S (a0 : AVal) (G : Heap) (Q : AVal → Heap → Prop) : Prop :=
  ACalls P cursor_Reader_take.n [a0, .int .i64 2] G fun v1 G2 => ACalls P cursor_value_uint16.n [v1] G2 fun v3 G4 => Q v3 G4
def cursor_Reader_U16.an : Ann := .nil
set_option maxRecDepth 100000 in
theorem cursor_Reader_U16.sound {a0 : AVal} {G : Heap} {Q : AVal → Heap → Prop} (h : cursor_Reader_U16.S a0 G Q) : ACalls P cursor_Reader_U16.n [a0] G Q := by
  have e : cursor_Reader_U16.S a0 G Q = awp cx (cursor_Reader_U16.body) cursor_Reader_U16.an (bodyQ T [.tmp 2] Q) (envL [a0]) G := by kernel_rfl
  exact ACalls_of_awp cxOk (f := cursor_Reader_U16.n) (fn := Try.f48) (c := cursor_Reader_U16.body) (an := cursor_Reader_U16.an) Try.func48 (by kernel_rfl) (by kernel_rfl) (by kernel_rfl) (drawsOk_of (by kernel_rfl) (by kernel_rfl)) (by simp [Try.f48]) (e ▸ h)

/-! #### escrow/cursor.value[uint64] -/
def cursor_value_uint64.S (a0 : AVal) (G : Heap) (Q : AVal → Heap → Prop) : Prop :=
  wv (vlen T G t_string a0) fun v1 => ∀ R2 : List AVal → Heap → Prop,
  (∀ (x4 x5 x6 x7 : AVal) (G3 : Heap), (wv (vbin T .lss t_int x7 x6) fun v8 => brB (some v8)
  (wv (vbin T .shl t_uint64 x5 (.int .u64 8)) fun v9 => wv (vindex T t_string x4 x7) fun v10 => wv (vconv T G3 t_uint8 t_uint64 v10) fun v11 => wv (vbin T .or t_uint64 v9 v11) fun v12 => wv (vbin T .add t_int x7 (.int .i64 1)) fun v13 => R2 [x4, v12, x6, v13] G3)
  (Q x5 G3)) → R2 [x4, x5, x6, x7] G3) →
  R2 [a0, .int .u64 0, v1, .int .i64 0] G
def cursor_value_uint64.an : Ann := .two (.nil) (.two (.nil) (.two (.two (.nil) (.loop [0, 3, 6, 7] (.nil))) (.nil)))
set_option maxRecDepth 100000 in
theorem cursor_value_uint64.sound {a0 : AVal} {G : Heap} {Q : AVal → Heap → Prop} (h : cursor_value_uint64.S a0 G Q) : ACalls P cursor_value_uint64.n [a0] G Q := by
  have e : cursor_value_uint64.S a0 G Q = awp cx (cursor_value_uint64.body) cursor_value_uint64.an (bodyQ T [.tmp 2] Q) (envL [a0]) G := by kernel_rfl
  exact ACalls_of_awp cxOk (f := cursor_value_uint64.n) (fn := Try.f60) (c := cursor_value_uint64.body) (an := cursor_value_uint64.an) Try.func60 (by kernel_rfl) (by kernel_rfl) (by kernel_rfl) (drawsOk_of (by kernel_rfl) (by kernel_rfl)) (by simp [Try.f60]) (e ▸ h)

/-! #### (*escrow/cursor.Reader).I64 -/
def cursor_Reader_I64.S (a0 : AVal) (G : Heap) (Q : AVal → Heap → Prop) : Prop :=
  ACalls P cursor_Reader_take.n [a0, .int .i64 8] G fun v1 G2 => ACalls P cursor_value_uint64.n [v1] G2 fun v3 G4 => wv (vconv T G4 t_uint64 t_int64 v3) fun v5 => Q v5 G4
def cursor_Reader_I64.an : Ann := .nil
set_option maxRecDepth 100000 in
theorem cursor_Reader_I64.sound {a0 : AVal} {G : Heap} {Q : AVal → Heap → Prop} (h : cursor_Reader_I64.S a0 G Q) : ACalls P cursor_Reader_I64.n [a0] G Q := by
  have e : cursor_Reader_I64.S a0 G Q = awp cx (cursor_Reader_I64.body) cursor_Reader_I64.an (bodyQ T [.tmp 2] Q) (envL [a0]) G := by kernel_rfl
  exact ACalls_of_awp cxOk (f := cursor_Reader_I64.n) (fn := Try.f49) (c := cursor_Reader_I64.body) (an := cursor_Reader_I64.an) Try.func49 (by kernel_rfl) (by kernel_rfl) (by kernel_rfl) (drawsOk_of (by kernel_rfl) (by kernel_rfl)) (by simp [Try.f49]) (e ▸ h)

/-! #### (*escrow/cursor.Reader).Hash -/
def cursor_Reader_Hash.S (a0 : AVal) (G : Heap) (Q : AVal → Heap → Prop) : Prop :=
  aNew G (.own (z_api_Hash)) fun i1 G2 => aNew G2 (.own (z_api_Hash)) fun i3 G4 => wv (vslice T t_api_Hash (.ptr i3 [] 0) none none none) fun v5 => ACalls P cursor_Reader_take.n [a0, .int .i64 32] G4 fun v6 G7 => aCopy T G7 t_sl_uint8 v5 v6 fun v8 G9 => wv (vload T G9 t_api_Hash (.ptr i3 [] 0)) fun v10 => wg (vstore T G9 t_api_Hash (.ptr i1 [] 0) v10) fun G11 => wv (vload T G11 t_api_Hash (.ptr i1 [] 0)) fun v12 => Q v12 G11
def cursor_Reader_Hash.an : Ann := .two (.nil) (.two (.nil) (.two (.ord [(0, []), (1, []), (2, []), (3, [])]) (.nil)))
set_option maxRecDepth 100000 in
theorem cursor_Reader_Hash.sound {a0 : AVal} {G : Heap} {Q : AVal → Heap → Prop} (h : cursor_Reader_Hash.S a0 G Q) : ACalls P cursor_Reader_Hash.n [a0] G Q := by
  have e : cursor_Reader_Hash.S a0 G Q = awp cx (cursor_Reader_Hash.body) cursor_Reader_Hash.an (bodyQ T [.cell 2 23] Q) (envL [a0]) G := by kernel_rfl
  exact ACalls_of_awp cxOk (f := cursor_Reader_Hash.n) (fn := Try.f50) (c := cursor_Reader_Hash.body) (an := cursor_Reader_Hash.an) Try.func50 (by kernel_rfl) (by kernel_rfl) (by kernel_rfl) (drawsOk_of (by kernel_rfl) (by kernel_rfl)) (by simp [Try.f50]) (e ▸ h)

/-! #### (*escrow/cursor.Reader).Text -/
def cursor_Reader_Text.S (a0 a1 : AVal) (G : Heap) (Q : AVal → Heap → Prop) : Prop :=
  let J44 : AVal → Heap → Prop := (fun x19 G18 => brB (some x19)
  (ACalls P cursor_Reader_breaks.n [a0, .int .i64 3] G18 fun v20 G21 => ACalls P cursor_Reader_take.n [a0, .int .i64 2] G21 fun v30 G31 => ACalls P cursor_value_uint16.n [v30] G31 fun v32 G33 => wv (vconv T G33 t_uint16 t_int v32) fun v34 => ACalls P cursor_Reader_take.n [a0, v34] G33 fun v35 G36 => Q v35 G36)
  (ACalls P cursor_Reader_take.n [a0, .int .i64 2] G18 fun v37 G38 => ACalls P cursor_value_uint16.n [v37] G38 fun v39 G40 => wv (vconv T G40 t_uint16 t_int v39) fun v41 => ACalls P cursor_Reader_take.n [a0, v41] G40 fun v42 G43 => Q v42 G43));
  wv (vnil a0) fun v1 => wv (vfaddr T t_cursor_Reader v1 1) fun v2 => wv (vload T G t_api_Errno v2) fun v3 => wv (vbin T .eql t_api_Errno v3 (.int .i64 0)) fun v4 => brB (some v4)
  (wv (vnil a0) fun v5 => wv (vfaddr T t_cursor_Reader v5 0) fun v6 => wv (vload T G t_string v6) fun v7 => wv (vlen T G t_string v7) fun v8 => wv (vbin T .geq t_int v8 (.int .i64 2)) fun v9 => brB (some v9)
  (wv (vnil a0) fun v10 => wv (vfaddr T t_cursor_Reader v10 0) fun v11 => wv (vload T G t_string v11) fun v12 => wv (vslice T t_string v12 none (some (.int .i64 2)) none) fun v13 => ACalls P cursor_value_uint16.n [v13] G fun v14 G15 => wv (vconv T G15 t_uint16 t_int v14) fun v16 => wv (vbin T .gtr t_int v16 a1) fun v17 => J44 v17 G15)
  (J44 (.bool false) G))
  (J44 (.bool false) G)
def cursor_Reader_Text.an : Ann := .nil
set_option maxRecDepth 100000 in
theorem cursor_Reader_Text.sound {a0 a1 : AVal} {G : Heap} {Q : AVal → Heap → Prop} (h : cursor_Reader_Text.S a0 a1 G Q) : ACalls P cursor_Reader_Text.n [a0, a1] G Q := by
  have e : cursor_Reader_Text.S a0 a1 G Q = awp cx (cursor_Reader_Text.body) cursor_Reader_Text.an (bodyQ T [.tmp 4] Q) (envL [a0, a1]) G := by kernel_rfl
  exact ACalls_of_awp cxOk (f := cursor_Reader_Text.n) (fn := Try.f51) (c := cursor_Reader_Text.body) (an := cursor_Reader_Text.an) Try.func51 (by kernel_rfl) (by kernel_rfl) (by kernel_rfl) (drawsOk_of (by kernel_rfl) (by kernel_rfl)) (by simp [Try.f51]) (e ▸ h)

/-! #### escrow/update.fault -/
def update_fault.S (a0 : AVal) (G : Heap) (Q : AVal → Heap → Prop) : Prop :=
  wv (vbin T .eql t_api_Errno a0 (.int .i64 3)) fun v1 => brB (some v1)
  (Q (.int .i64 120) G)
  (Q a0 G)
def update_fault.an : Ann := .nil
set_option maxRecDepth 100000 in
theorem update_fault.sound {a0 : AVal} {G : Heap} {Q : AVal → Heap → Prop} (h : update_fault.S a0 G Q) : ACalls P update_fault.n [a0] G Q := by
  have e : update_fault.S a0 G Q = awp cx (update_fault.body) update_fault.an (bodyQ T [.tmp 2] Q) (envL [a0]) G := by kernel_rfl
  exact ACalls_of_awp cxOk (f := update_fault.n) (fn := Try.f52) (c := update_fault.body) (an := update_fault.an) Try.func52 (by kernel_rfl) (by kernel_rfl) (by kernel_rfl) (drawsOk_of (by kernel_rfl) (by kernel_rfl)) (by simp [Try.f52]) (e ▸ h)

/-! #### (*escrow/cursor.Reader).Rest -/
def cursor_Reader_Rest.S (a0 : AVal) (G : Heap) (Q : AVal → Heap → Prop) : Prop :=
  wv (vnil a0) fun v1 => wv (vfaddr T t_cursor_Reader v1 0) fun v2 => wv (vload T G t_string v2) fun v3 => Q v3 G
def cursor_Reader_Rest.an : Ann := .nil
set_option maxRecDepth 100000 in
theorem cursor_Reader_Rest.sound {a0 : AVal} {G : Heap} {Q : AVal → Heap → Prop} (h : cursor_Reader_Rest.S a0 G Q) : ACalls P cursor_Reader_Rest.n [a0] G Q := by
  have e : cursor_Reader_Rest.S a0 G Q = awp cx (cursor_Reader_Rest.body) cursor_Reader_Rest.an (bodyQ T [.tmp 2] Q) (envL [a0]) G := by kernel_rfl
  exact ACalls_of_awp cxOk (f := cursor_Reader_Rest.n) (fn := Try.f53) (c := cursor_Reader_Rest.body) (an := cursor_Reader_Rest.an) Try.func53 (by kernel_rfl) (by kernel_rfl) (by kernel_rfl) (drawsOk_of (by kernel_rfl) (by kernel_rfl)) (by simp [Try.f53]) (e ▸ h)

/-! #### escrow/update.Read -/
def update_Read.S (a0 : AVal) (G : Heap) (Q : AVal → Heap → Prop) : Prop :=
  aNew G (.own (z_api_Update)) fun i1 G2 => ACalls P cursor_Open.n [a0] G2 fun v3 G4 => ACalls P cursor_Reader_U8.n [v3] G4 fun v5 G6 => wv (vconv T G6 t_uint8 t_int v5) fun v7 => wv (vbuild T t_api_Update [(0, v7)]) fun v8 => aNew G6 (.own (z_api_Update)) fun i9 G10 => wg (vstore T G10 t_api_Update (.ptr i9 [] 0) v8) fun G11 => let J72 : AVal → Heap → Prop := (fun x20 G19 => brB (some x20)
  (wv (vbuild T t_api_Update []) fun v21 => wg (vstore T G19 t_api_Update (.ptr i1 [] 0) v21) fun G22 => wv (vload T G22 t_api_Update (.ptr i1 [] 0)) fun v23 => Q (.tuple [v23, .int .i64 0, .int .i64 120]) G22)
  (ACalls P cursor_Reader_U16.n [v3] G19 fun v24 G25 => wv (vconv T G25 t_uint16 t_int64 v24) fun v26 => wg (vstore T G25 t_int64 (.ptr i9 [1] 1) v26) fun G27 => wv (vload T G27 t_int (.ptr i9 [0] 0)) fun v28 => let J71 : Heap → Prop := (fun G47 => ACalls P cursor_Reader_Err.n [v3] G47 fun v48 G49 => wv (vbin T .neq t_api_Errno v48 (.int .i64 0)) fun v50 => brB (some v50)
  (wv (vbuild T t_api_Update []) fun v51 => ACalls P update_fault.n [v48] G49 fun v52 G53 => wg (vstore T G53 t_api_Update (.ptr i1 [] 0) v51) fun G54 => wv (vload T G54 t_api_Update (.ptr i1 [] 0)) fun v55 => Q (.tuple [v55, .int .i64 0, v52]) G54)
  (wv (vload T G49 t_api_Update (.ptr i9 [] 0)) fun v56 => ACalls P update_Valid.n [v56] G49 fun v57 G58 => wv (vun .not v57) fun v59 => brB (some v59)
  (wv (vbuild T t_api_Update []) fun v60 => wg (vstore T G58 t_api_Update (.ptr i1 [] 0) v60) fun G61 => wv (vload T G61 t_api_Update (.ptr i1 [] 0)) fun v62 => Q (.tuple [v62, .int .i64 0, .int .i64 120]) G61)
  (wv (vload T G58 t_api_Update (.ptr i9 [] 0)) fun v63 => wv (vlen T G58 t_string a0) fun v64 => ACalls P cursor_Reader_Rest.n [v3] G58 fun v65 G66 => (vload T G66 t_api_Update (.ptr i9 [] 0) = some v63 ∧ True) ∧ (wv (vlen T G66 t_string v65) fun v67 => wv (vbin T .sub t_int v64 v67) fun v68 => wg (vstore T G66 t_api_Update (.ptr i1 [] 0) v63) fun G69 => wv (vload T G69 t_api_Update (.ptr i1 [] 0)) fun v70 => Q (.tuple [v70, v68, .int .i64 0]) G69))));
  wv (vbin T .eql t_int v28 (.int .i64 1)) fun v29 => brB (some v29)
  (ACalls P cursor_Reader_I64.n [v3] G27 fun v30 G31 => wg (vstore T G31 t_int64 (.ptr i9 [2] 2) v30) fun G32 => ACalls P cursor_Reader_Hash.n [v3] G32 fun v33 G34 => wg (vstore T G34 t_api_Hash (.ptr i9 [3] 3) v33) fun G35 => J71 G35)
  (wv (vbin T .eql t_int v28 (.int .i64 2)) fun v36 => brB (some v36)
  (ACalls P cursor_Reader_Hash.n [v3] G27 fun v37 G38 => wg (vstore T G38 t_api_Hash (.ptr i9 [3] 3) v37) fun G39 => J71 G39)
  (wv (vbin T .eql t_int v28 (.int .i64 3)) fun v40 => brB (some v40)
  (ACalls P cursor_Reader_Text.n [v3, .int .i64 64] G27 fun v41 G42 => wg (vstore T G42 t_string (.ptr i9 [4] 35) v41) fun G43 => J71 G43)
  (J71 G27)))));
  ACalls P cursor_Reader_Err.n [v3] G11 fun v12 G13 => wv (vbin T .eql t_api_Errno v12 (.int .i64 0)) fun v14 => brB (some v14)
  (wv (vload T G13 t_int (.ptr i9 [0] 0)) fun v15 => wv (vbin T .lss t_int v15 (.int .i64 1)) fun v16 => brB (some v16)
  (J72 (.bool true) G13)
  (wv (vload T G13 t_int (.ptr i9 [0] 0)) fun v17 => wv (vbin T .gtr t_int v17 (.int .i64 3)) fun v18 => J72 v18 G13))
  (J72 (.bool false) G13)
def update_Read.an : Ann := .two (.nil) (.two (.nil) (.two (.nil) (.two (.nil) (.two (.nil) (.two (.nil) (.two (.nil) (.two (.nil) (.two (.ord [(0, []), (1, []), (2, []), (3, []), (4, [0]), (5, []), (6, []), (7, []), (8, []), (9, [])]) (.nil)))))))))
set_option maxRecDepth 100000 in
theorem update_Read.sound {a0 : AVal} {G : Heap} {Q : AVal → Heap → Prop} (h : update_Read.S a0 G Q) : ACalls P update_Read.n [a0] G Q := by
  have e : update_Read.S a0 G Q = awp cx (update_Read.body) update_Read.an (bodyQ T [.cell 2 27, .tmp 3, .tmp 4] Q) (envL [a0]) G := by kernel_rfl
  exact ACalls_of_awp cxOk (f := update_Read.n) (fn := Try.f32) (c := update_Read.body) (an := update_Read.an) Try.func32 (by kernel_rfl) (by kernel_rfl) (by kernel_rfl) (drawsOk_of (by kernel_rfl) (by kernel_rfl)) (by simp [Try.f32]) (e ▸ h)

/-! #### (escrow/msg.reader).rest -/
def msg_reader_rest.S (a0 a1 : AVal) (G : Heap) (Q : AVal → Heap → Prop) : Prop :=
  aNew G (.own (a0)) fun i1 G2 => aNew G2 (.own (z_api_Message)) fun i3 G4 => wv (vload T G4 t_pt_cursor_Reader (.ptr i1 [0] 0)) fun v5 => ACalls P cursor_Reader_I64.n [v5] G4 fun v6 G7 => wv (vbuild T t_api_Message [(0, a1), (3, v6)]) fun v8 => aNew G7 (.own (z_api_Message)) fun i9 G10 => wg (vstore T G10 t_api_Message (.ptr i9 [] 0) v8) fun G11 => let J42 : Heap → Prop := (fun G38 => wv (vload T G38 t_api_Message (.ptr i9 [] 0)) fun v39 => wg (vstore T G38 t_api_Message (.ptr i3 [] 0) v39) fun G40 => wv (vload T G40 t_api_Message (.ptr i3 [] 0)) fun v41 => Q v41 G40);
  wv (vbin T .eql t_int a1 (.int .i64 4)) fun v12 => brB (some v12)
  (wv (vload T G11 t_pt_cursor_Reader (.ptr i1 [0] 0)) fun v13 => ACalls P cursor_Reader_Hash.n [v13] G11 fun v14 G15 => wg (vstore T G15 t_api_Hash (.ptr i9 [5] 5) v14) fun G16 => J42 G16)
  (wv (vbin T .eql t_int a1 (.int .i64 5)) fun v17 => brB (some v17)
  (wv (vload T G11 t_pt_cursor_Reader (.ptr i1 [0] 0)) fun v18 => ACalls P cursor_Reader_Hash.n [v18] G11 fun v19 G20 => wg (vstore T G20 t_api_Hash (.ptr i9 [6] 37) v19) fun G21 => wv (vload T G21 t_pt_cursor_Reader (.ptr i1 [0] 0)) fun v22 => ACalls P cursor_Reader_Hash.n [v22] G21 fun v23 G24 => wg (vstore T G24 t_api_Hash (.ptr i9 [5] 5) v23) fun G25 => J42 G25)
  (wv (vbin T .eql t_int a1 (.int .i64 6)) fun v26 => brB (some v26)
  (wv (vload T G11 t_pt_cursor_Reader (.ptr i1 [0] 0)) fun v27 => ACalls P cursor_Reader_I64.n [v27] G11 fun v28 G29 => wg (vstore T G29 t_int64 (.ptr i9 [4] 4) v28) fun G30 => wv (vload T G30 t_pt_cursor_Reader (.ptr i1 [0] 0)) fun v31 => ACalls P cursor_Reader_Hash.n [v31] G30 fun v32 G33 => wg (vstore T G33 t_api_Hash (.ptr i9 [6] 37) v32) fun G34 => J42 G34)
  (J42 G11)))
def msg_reader_rest.an : Ann := .nil
set_option maxRecDepth 100000 in
theorem msg_reader_rest.sound {a0 a1 : AVal} {G : Heap} {Q : AVal → Heap → Prop} (h : msg_reader_rest.S a0 a1 G Q) : ACalls P msg_reader_rest.n [a0, a1] G Q := by
  have e : msg_reader_rest.S a0 a1 G Q = awp cx (msg_reader_rest.body) msg_reader_rest.an (bodyQ T [.cell 4 25] Q) (envL [a0, a1]) G := by kernel_rfl
  exact ACalls_of_awp cxOk (f := msg_reader_rest.n) (fn := Try.f33) (c := msg_reader_rest.body) (an := msg_reader_rest.an) Try.func33 (by kernel_rfl) (by kernel_rfl) (by kernel_rfl) (drawsOk_of (by kernel_rfl) (by kernel_rfl)) (by simp [Try.f33]) (e ▸ h)

/-! #### (*escrow/cursor.Reader).Done -/
def cursor_Reader_Done.S (a0 : AVal) (G : Heap) (Q : AVal → Heap → Prop) : Prop :=
  wv (vnil a0) fun v1 => wv (vfaddr T t_cursor_Reader v1 1) fun v2 => wv (vload T G t_api_Errno v2) fun v3 => wv (vbin T .eql t_api_Errno v3 (.int .i64 0)) fun v4 => brB (some v4)
  (wv (vnil a0) fun v5 => wv (vfaddr T t_cursor_Reader v5 0) fun v6 => wv (vload T G t_string v6) fun v7 => wv (vbin T .neq t_string v7 (.str [])) fun v8 => brB (some v8)
  (Q (.int .i64 4) G)
  (wv (vnil a0) fun v14 => wv (vfaddr T t_cursor_Reader v14 1) fun v15 => wv (vload T G t_api_Errno v15) fun v16 => Q v16 G))
  (wv (vnil a0) fun v17 => wv (vfaddr T t_cursor_Reader v17 1) fun v18 => wv (vload T G t_api_Errno v18) fun v19 => Q v19 G)
def cursor_Reader_Done.an : Ann := .nil
set_option maxRecDepth 100000 in
theorem cursor_Reader_Done.sound {a0 : AVal} {G : Heap} {Q : AVal → Heap → Prop} (h : cursor_Reader_Done.S a0 G Q) : ACalls P cursor_Reader_Done.n [a0] G Q := by
  have e : cursor_Reader_Done.S a0 G Q = awp cx (cursor_Reader_Done.body) cursor_Reader_Done.an (bodyQ T [.tmp 2] Q) (envL [a0]) G := by kernel_rfl
  exact ACalls_of_awp cxOk (f := cursor_Reader_Done.n) (fn := Try.f34) (c := cursor_Reader_Done.body) (an := cursor_Reader_Done.an) Try.func34 (by kernel_rfl) (by kernel_rfl) (by kernel_rfl) (drawsOk_of (by kernel_rfl) (by kernel_rfl)) (by simp [Try.f34]) (e ▸ h)

/-! #### escrow/msg.Read -/
def msg_Read.S (a0 : AVal) (G : Heap) (Q : AVal → Heap → Prop) : Prop :=
  aNew G (.own (z_api_Message)) fun i1 G2 => ACalls P cursor_Open.n [a0] G2 fun v3 G4 => wv (vbuild T t_msg_reader [(0, v3)]) fun v5 => aNew G4 (.own (z_msg_reader)) fun i6 G7 => wg (vstore T G7 t_msg_reader (.ptr i6 [] 0) v5) fun G8 => wv (vload T G8 t_pt_cursor_Reader (.ptr i6 [0] 0)) fun v9 => ACalls P cursor_Reader_U8.n [v9] G8 fun v10 G11 => wv (vconv T G11 t_uint8 t_int v10) fun v12 => let J82 : Heap → Prop := (fun G78 => wv (vbuild T t_api_Message []) fun v79 => wg (vstore T G78 t_api_Message (.ptr i1 [] 0) v79) fun G80 => wv (vload T G80 t_api_Message (.ptr i1 [] 0)) fun v81 => Q (.tuple [v81, .int .i64 160]) G80);
  wv (vbin T .eql t_int v12 (.int .i64 1)) fun v13 => let J77 : AVal → Heap → Prop := (fun x19 G18 => brB (some x19)
  (ACalls P update_Read.n [a0] G18 fun v20 G21 => wv (vextract v20 0) fun v22 => wv (vextract v20 1) fun v23 => wv (vextract v20 2) fun v24 => aNew G21 (.own (z_api_Update)) fun i25 G26 => wg (vstore T G26 t_api_Update (.ptr i25 [] 0) v22) fun G27 => let J41 : AVal → Heap → Prop := (fun x32 G31 => brB (some x32)
  (wv (vbuild T t_api_Message []) fun v33 => wg (vstore T G31 t_api_Message (.ptr i1 [] 0) v33) fun G34 => wv (vload T G34 t_api_Message (.ptr i1 [] 0)) fun v35 => Q (.tuple [v35, .int .i64 160]) G34)
  (wv (vload T G31 t_api_Update (.ptr i25 [] 0)) fun v36 => ACalls P msg_Of.n [v36] G31 fun v37 G38 => wg (vstore T G38 t_api_Message (.ptr i1 [] 0) v37) fun G39 => wv (vload T G39 t_api_Message (.ptr i1 [] 0)) fun v40 => Q (.tuple [v40, .int .i64 0]) G39));
  wv (vbin T .neq t_api_Errno v24 (.int .i64 0)) fun v28 => brB (some v28)
  (J41 (.bool true) G27)
  (wv (vlen T G27 t_string a0) fun v29 => wv (vbin T .neq t_int v23 v29) fun v30 => J41 v30 G27))
  (wv (vbin T .eql t_int v12 (.int .i64 4)) fun v42 => let J75 : AVal → Heap → Prop := (fun x51 G50 => brB (some x51)
  (wv (vload T G50 t_msg_reader (.ptr i6 [] 0)) fun v52 => ACalls P msg_reader_rest.n [v52, v12] G50 fun v53 G54 => aNew G54 (.own (z_api_Message)) fun i55 G56 => wg (vstore T G56 t_api_Message (.ptr i55 [] 0) v53) fun G57 => let J73 : AVal → Heap → Prop := (fun x69 G68 => brB (some x69)
  (wv (vload T G68 t_api_Message (.ptr i55 [] 0)) fun v70 => wg (vstore T G68 t_api_Message (.ptr i1 [] 0) v70) fun G71 => wv (vload T G71 t_api_Message (.ptr i1 [] 0)) fun v72 => Q (.tuple [v72, .int .i64 0]) G71)
  (J82 G68));
  wv (vload T G57 t_pt_cursor_Reader (.ptr i6 [0] 0)) fun v58 => ACalls P cursor_Reader_Done.n [v58] G57 fun v59 G60 => wv (vbin T .eql t_api_Errno v59 (.int .i64 0)) fun v61 => brB (some v61)
  (wv (vload T G60 t_int64 (.ptr i55 [3] 3)) fun v62 => ACalls P msg_right.n [v62] G60 fun v63 G64 => brB (some v63)
  (wv (vload T G64 t_int64 (.ptr i55 [4] 4)) fun v65 => ACalls P msg_right.n [v65] G64 fun v66 G67 => J73 v66 G67)
  (J73 (.bool false) G64))
  (J73 (.bool false) G60))
  (J82 G50));
  brB (some v42)
  (J75 v42 G18)
  (wv (vbin T .eql t_int v12 (.int .i64 5)) fun v43 => brB (some v43)
  (J75 v43 G18)
  (wv (vbin T .eql t_int v12 (.int .i64 6)) fun v44 => brB (some v44)
  (J75 v44 G18)
  (wv (vbin T .eql t_int v12 (.int .i64 7)) fun v45 => J75 v45 G18)))));
  brB (some v13)
  (J77 v13 G11)
  (wv (vbin T .eql t_int v12 (.int .i64 2)) fun v14 => brB (some v14)
  (J77 v14 G11)
  (wv (vbin T .eql t_int v12 (.int .i64 3)) fun v15 => J77 v15 G11))
def msg_Read.an : Ann := .nil
set_option maxRecDepth 100000 in
theorem msg_Read.sound {a0 : AVal} {G : Heap} {Q : AVal → Heap → Prop} (h : msg_Read.S a0 G Q) : ACalls P msg_Read.n [a0] G Q := by
  have e : msg_Read.S a0 G Q = awp cx (msg_Read.body) msg_Read.an (bodyQ T [.cell 2 25, .tmp 3] Q) (envL [a0]) G := by kernel_rfl
  exact ACalls_of_awp cxOk (f := msg_Read.n) (fn := Try.f10) (c := msg_Read.body) (an := msg_Read.an) Try.func10 (by kernel_rfl) (by kernel_rfl) (by kernel_rfl) (drawsOk_of (by kernel_rfl) (by kernel_rfl)) (by simp [Try.f10]) (e ▸ h)

end Go.Esc.M
