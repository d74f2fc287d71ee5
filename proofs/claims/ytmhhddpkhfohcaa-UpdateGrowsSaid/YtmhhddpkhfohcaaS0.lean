/- Printed by gen.py (own work): functions of the program Ytmhhddpkhfohcaa over trees and the abstract heap. -/
import Derived.Test.YtmhhddpkhfohcaaT
set_option linter.unusedSimpArgs false
set_option linter.unusedVariables false
namespace Go.Esc.M
open Go Go.Esc Go.Proofs

/-! #### escrow/update.Valid -/
def update_Valid.S (a0 : AVal) (G : Heap) (Q : AVal → Heap → Prop) : Prop :=
  aNew G (.own (a0)) fun i1 G2 => let J37 : AVal → Heap → Prop := (fun x8 G7 => brB (some x8)
  (Q (.bool false) G7)
  (wv (vload T G7 t_int (.ptr i1 [0] 0)) fun v9 => wv (vbin T .eql t_int v9 (.int .i64 1)) fun v10 => brB (some v10)
  (wv (vload T G7 t_int64 (.ptr i1 [2] 2)) fun v11 => wv (vbin T .geq t_int64 v11 (.int .i64 1)) fun v12 => brB (some v12)
  (wv (vload T G7 t_int64 (.ptr i1 [2] 2)) fun v13 => wv (vbin T .leq t_int64 v13 (.int .i64 1152921504606846976)) fun v14 => brB (some v14)
  (wv (vload T G7 t_string (.ptr i1 [4] 35)) fun v15 => wv (vbin T .eql t_string v15 (.str [])) fun v16 => Q v16 G7)
  (Q (.bool false) G7))
  (Q (.bool false) G7))
  (wv (vbin T .eql t_int v9 (.int .i64 2)) fun v19 => brB (some v19)
  (wv (vload T G7 t_int64 (.ptr i1 [2] 2)) fun v20 => wv (vbin T .eql t_int64 v20 (.int .i64 0)) fun v21 => brB (some v21)
  (wv (vload T G7 t_string (.ptr i1 [4] 35)) fun v22 => wv (vbin T .eql t_string v22 (.str [])) fun v23 => Q v23 G7)
  (Q (.bool false) G7))
  (wv (vbin T .eql t_int v9 (.int .i64 3)) fun v26 => brB (some v26)
  (wv (vload T G7 t_int64 (.ptr i1 [2] 2)) fun v27 => wv (vbin T .eql t_int64 v27 (.int .i64 0)) fun v28 => brB (some v28)
  (wv (vload T G7 t_api_Hash (.ptr i1 [3] 3)) fun v29 => wv (vbuild T t_api_Hash []) fun v30 => wv (vbin T .eql t_api_Hash v29 v30) fun v31 => brB (some v31)
  (wv (vload T G7 t_string (.ptr i1 [4] 35)) fun v32 => wv (vlen T G7 t_string v32) fun v33 => wv (vbin T .leq t_int v33 (.int .i64 64)) fun v34 => Q v34 G7)
  (Q (.bool false) G7))
  (Q (.bool false) G7))
  (Q (.bool false) G7)))));
  wv (vload T G2 t_int64 (.ptr i1 [1] 1)) fun v3 => wv (vbin T .lss t_int64 v3 (.int .i64 0)) fun v4 => brB (some v4)
  (J37 (.bool true) G2)
  (wv (vload T G2 t_int64 (.ptr i1 [1] 1)) fun v5 => wv (vbin T .geq t_int64 v5 (.int .i64 2048)) fun v6 => J37 v6 G2)
def update_Valid.an : Ann := .nil
set_option maxRecDepth 100000 in
theorem update_Valid.sound {a0 : AVal} {G : Heap} {Q : AVal → Heap → Prop} (h : update_Valid.S a0 G Q) : ACalls P update_Valid.n [a0] G Q := by
  have e : update_Valid.S a0 G Q = awp cx (update_Valid.body) update_Valid.an (bodyQ T [.tmp 2] Q) (envL [a0]) G := by kernel_rfl
  exact ACalls_of_awp cxOk (f := update_Valid.n) (fn := Try.f13) (c := update_Valid.body) (an := update_Valid.an) Try.func13 (by kernel_rfl) (by kernel_rfl) (by kernel_rfl) (drawsOk_of (by kernel_rfl) (by kernel_rfl)) (by simp [Try.f13]) (e ▸ h)

/-! #### escrow/cursor.New -/
def cursor_New.S (G : Heap) (Q : AVal → Heap → Prop) : Prop :=
  wv (vbuild T t_cursor_Writer []) fun v1 => aNew G (.own (v1)) fun i2 G3 => Q (.ptr i2 [] 0) G3
def cursor_New.an : Ann := .nil
set_option maxRecDepth 100000 in
theorem cursor_New.sound {G : Heap} {Q : AVal → Heap → Prop} (h : cursor_New.S G Q) : ACalls P cursor_New.n [] G Q := by
  have e : cursor_New.S G Q = awp cx (cursor_New.body) cursor_New.an (bodyQ T [.tmp 0] Q) (envL []) G := by kernel_rfl
  exact ACalls_of_awp cxOk (f := cursor_New.n) (fn := Try.f27) (c := cursor_New.body) (an := cursor_New.an) Try.func27 (by kernel_rfl) (by kernel_rfl) (by kernel_rfl) (drawsOk_of (by kernel_rfl) (by kernel_rfl)) (by simp [Try.f27]) (e ▸ h)

/-! #### escrow/cursor.lay[uint8] -/
def cursor_lay_uint8.S (a0 a1 a2 : AVal) (G : Heap) (Q : AVal → Heap → Prop) : Prop :=
  wv (vnil a0) fun v1 => wv (vfaddr T t_cursor_Writer v1 1) fun v2 => wv (vload T G t_api_Errno v2) fun v3 => wv (vbin T .neq t_api_Errno v3 (.int .i64 0)) fun v4 => brB (some v4)
  (Q (.tuple []) G)
  (wv (vbin T .sub t_int a2 (.int .i64 1)) fun v5 => ∀ R6 : List AVal → Heap → Prop,
  (∀ (x8 x9 x10 : AVal) (G7 : Heap), (wv (vbin T .geq t_int x10 (.int .i64 0)) fun v11 => brB (some v11)
  (wv (vnil x8) fun v12 => wv (vfaddr T t_cursor_Writer v12 0) fun v13 => wv (vload T G7 t_sl_uint8 v13) fun v14 => wv (vconv T G7 t_uint8 t_uint64 x9) fun v15 => wv (vbin T .mul t_int (.int .i64 8) x10) fun v16 => wv (vbin T .shr t_uint64 v15 v16) fun v17 => wv (vconv T G7 t_uint64 t_uint8 v17) fun v18 => aBuildSlice T t_sl_uint8 1 [(0, v18)] G7 fun v19 G20 => aAppend T G20 t_sl_uint8 t_sl_uint8 v14 v19 fun v21 G22 => wv (vnil x8) fun v23 => wv (vfaddr T t_cursor_Writer v23 0) fun v24 => wg (vstore T G22 t_sl_uint8 v24 v21) fun G25 => wv (vbin T .sub t_int x10 (.int .i64 1)) fun v26 => R6 [x8, x9, v26] G25)
  (Q (.tuple []) G7)) → R6 [x8, x9, x10] G7) →
  R6 [a0, a1, v5] G)
def cursor_lay_uint8.an : Ann := .two (.nil) (.two (.nil) (.loop [0, 1, 6] (.two (.nil) (.two (.ord [(0, []), (1, []), (2, []), (3, []), (4, []), (5, []), (6, []), (7, []), (8, []), (9, []), (10, []), (11, []), (12, []), (13, []), (14, []), (15, [])]) (.nil)))))
set_option maxRecDepth 100000 in
theorem cursor_lay_uint8.sound {a0 a1 a2 : AVal} {G : Heap} {Q : AVal → Heap → Prop} (h : cursor_lay_uint8.S a0 a1 a2 G Q) : ACalls P cursor_lay_uint8.n [a0, a1, a2] G Q := by
  have e : cursor_lay_uint8.S a0 a1 a2 G Q = awp cx (cursor_lay_uint8.body) cursor_lay_uint8.an (bodyQ T [] Q) (envL [a0, a1, a2]) G := by kernel_rfl
  exact ACalls_of_awp cxOk (f := cursor_lay_uint8.n) (fn := Try.f52) (c := cursor_lay_uint8.body) (an := cursor_lay_uint8.an) Try.func52 (by kernel_rfl) (by kernel_rfl) (by kernel_rfl) (drawsOk_of (by kernel_rfl) (by kernel_rfl)) (by simp [Try.f52]) (e ▸ h)

/-! #### (*escrow/cursor.Writer).U8 -/
def cursor_Writer_U8.S (a0 a1 : AVal) (G : Heap) (Q : AVal → Heap → Prop) : Prop :=
  ACalls P cursor_lay_uint8.n [a0, a1, .int .i64 1] G fun v1 G2 => Q (.tuple []) G2
def cursor_Writer_U8.an : Ann := .nil
set_option maxRecDepth 100000 in
theorem cursor_Writer_U8.sound {a0 a1 : AVal} {G : Heap} {Q : AVal → Heap → Prop} (h : cursor_Writer_U8.S a0 a1 G Q) : ACalls P cursor_Writer_U8.n [a0, a1] G Q := by
  have e : cursor_Writer_U8.S a0 a1 G Q = awp cx (cursor_Writer_U8.body) cursor_Writer_U8.an (bodyQ T [] Q) (envL [a0, a1]) G := by kernel_rfl
  exact ACalls_of_awp cxOk (f := cursor_Writer_U8.n) (fn := Try.f28) (c := cursor_Writer_U8.body) (an := cursor_Writer_U8.an) Try.func28 (by kernel_rfl) (by kernel_rfl) (by kernel_rfl) (drawsOk_of (by kernel_rfl) (by kernel_rfl)) (by simp [Try.f28]) (e ▸ h)

/-! #### escrow/cursor.lay[uint16] -/
def cursor_lay_uint16.S (a0 a1 a2 : AVal) (G : Heap) (Q : AVal → Heap → Prop) : Prop :=
  wv (vnil a0) fun v1 => wv (vfaddr T t_cursor_Writer v1 1) fun v2 => wv (vload T G t_api_Errno v2) fun v3 => wv (vbin T .neq t_api_Errno v3 (.int .i64 0)) fun v4 => brB (some v4)
  (Q (.tuple []) G)
  (wv (vbin T .sub t_int a2 (.int .i64 1)) fun v5 => ∀ R6 : List AVal → Heap → Prop,
  (∀ (x8 x9 x10 : AVal) (G7 : Heap), (wv (vbin T .geq t_int x10 (.int .i64 0)) fun v11 => brB (some v11)
  (wv (vnil x8) fun v12 => wv (vfaddr T t_cursor_Writer v12 0) fun v13 => wv (vload T G7 t_sl_uint8 v13) fun v14 => wv (vconv T G7 t_uint16 t_uint64 x9) fun v15 => wv (vbin T .mul t_int (.int .i64 8) x10) fun v16 => wv (vbin T .shr t_uint64 v15 v16) fun v17 => wv (vconv T G7 t_uint64 t_uint8 v17) fun v18 => aBuildSlice T t_sl_uint8 1 [(0, v18)] G7 fun v19 G20 => aAppend T G20 t_sl_uint8 t_sl_uint8 v14 v19 fun v21 G22 => wv (vnil x8) fun v23 => wv (vfaddr T t_cursor_Writer v23 0) fun v24 => wg (vstore T G22 t_sl_uint8 v24 v21) fun G25 => wv (vbin T .sub t_int x10 (.int .i64 1)) fun v26 => R6 [x8, x9, v26] G25)
  (Q (.tuple []) G7)) → R6 [x8, x9, x10] G7) →
  R6 [a0, a1, v5] G)
def cursor_lay_uint16.an : Ann := .two (.nil) (.two (.nil) (.loop [0, 1, 6] (.two (.nil) (.two (.ord [(0, []), (1, []), (2, []), (3, []), (4, []), (5, []), (6, []), (7, []), (8, []), (9, []), (10, []), (11, []), (12, []), (13, []), (14, []), (15, [])]) (.nil)))))
set_option maxRecDepth 100000 in
theorem cursor_lay_uint16.sound {a0 a1 a2 : AVal} {G : Heap} {Q : AVal → Heap → Prop} (h : cursor_lay_uint16.S a0 a1 a2 G Q) : ACalls P cursor_lay_uint16.n [a0, a1, a2] G Q := by
  have e : cursor_lay_uint16.S a0 a1 a2 G Q = awp cx (cursor_lay_uint16.body) cursor_lay_uint16.an (bodyQ T [] Q) (envL [a0, a1, a2]) G := by kernel_rfl
  exact ACalls_of_awp cxOk (f := cursor_lay_uint16.n) (fn := Try.f53) (c := cursor_lay_uint16.body) (an := cursor_lay_uint16.an) Try.func53 (by kernel_rfl) (by kernel_rfl) (by kernel_rfl) (drawsOk_of (by kernel_rfl) (by kernel_rfl)) (by simp [Try.f53]) (e ▸ h)

/-! #### (*escrow/cursor.Writer).U16 -/
def cursor_Writer_U16.S (a0 a1 : AVal) (G : Heap) (Q : AVal → Heap → Prop) : Prop :=
  ACalls P cursor_lay_uint16.n [a0, a1, .int .i64 2] G fun v1 G2 => Q (.tuple []) G2
def cursor_Writer_U16.an : Ann := .nil
set_option maxRecDepth 100000 in
theorem cursor_Writer_U16.sound {a0 a1 : AVal} {G : Heap} {Q : AVal → Heap → Prop} (h : cursor_Writer_U16.S a0 a1 G Q) : ACalls P cursor_Writer_U16.n [a0, a1] G Q := by
  have e : cursor_Writer_U16.S a0 a1 G Q = awp cx (cursor_Writer_U16.body) cursor_Writer_U16.an (bodyQ T [] Q) (envL [a0, a1]) G := by kernel_rfl
  exact ACalls_of_awp cxOk (f := cursor_Writer_U16.n) (fn := Try.f29) (c := cursor_Writer_U16.body) (an := cursor_Writer_U16.an) Try.func29 (by kernel_rfl) (by kernel_rfl) (by kernel_rfl) (drawsOk_of (by kernel_rfl) (by kernel_rfl)) (by simp [Try.f29]) (e ▸ h)

/-! #### escrow/cursor.lay[uint64] -/
def cursor_lay_uint64.S (a0 a1 a2 : AVal) (G : Heap) (Q : AVal → Heap → Prop) : Prop :=
  wv (vnil a0) fun v1 => wv (vfaddr T t_cursor_Writer v1 1) fun v2 => wv (vload T G t_api_Errno v2) fun v3 => wv (vbin T .neq t_api_Errno v3 (.int .i64 0)) fun v4 => brB (some v4)
  (Q (.tuple []) G)
  (wv (vbin T .sub t_int a2 (.int .i64 1)) fun v5 => ∀ R6 : List AVal → Heap → Prop,
  (∀ (x8 x9 x10 : AVal) (G7 : Heap), (wv (vbin T .geq t_int x10 (.int .i64 0)) fun v11 => brB (some v11)
  (wv (vnil x8) fun v12 => wv (vfaddr T t_cursor_Writer v12 0) fun v13 => wv (vload T G7 t_sl_uint8 v13) fun v14 => wv (vbin T .mul t_int (.int .i64 8) x10) fun v15 => wv (vbin T .shr t_uint64 x9 v15) fun v16 => wv (vconv T G7 t_uint64 t_uint8 v16) fun v17 => aBuildSlice T t_sl_uint8 1 [(0, v17)] G7 fun v18 G19 => aAppend T G19 t_sl_uint8 t_sl_uint8 v14 v18 fun v20 G21 => wv (vnil x8) fun v22 => wv (vfaddr T t_cursor_Writer v22 0) fun v23 => wg (vstore T G21 t_sl_uint8 v23 v20) fun G24 => wv (vbin T .sub t_int x10 (.int .i64 1)) fun v25 => R6 [x8, x9, v25] G24)
  (Q (.tuple []) G7)) → R6 [x8, x9, x10] G7) →
  R6 [a0, a1, v5] G)
def cursor_lay_uint64.an : Ann := .two (.nil) (.two (.nil) (.loop [0, 1, 6] (.two (.nil) (.two (.ord [(0, []), (1, []), (2, []), (3, []), (4, []), (5, []), (6, []), (7, []), (8, []), (9, []), (10, []), (11, []), (12, []), (13, []), (14, [])]) (.nil)))))
set_option maxRecDepth 100000 in
theorem cursor_lay_uint64.sound {a0 a1 a2 : AVal} {G : Heap} {Q : AVal → Heap → Prop} (h : cursor_lay_uint64.S a0 a1 a2 G Q) : ACalls P cursor_lay_uint64.n [a0, a1, a2] G Q := by
  have e : cursor_lay_uint64.S a0 a1 a2 G Q = awp cx (cursor_lay_uint64.body) cursor_lay_uint64.an (bodyQ T [] Q) (envL [a0, a1, a2]) G := by kernel_rfl
  exact ACalls_of_awp cxOk (f := cursor_lay_uint64.n) (fn := Try.f54) (c := cursor_lay_uint64.body) (an := cursor_lay_uint64.an) Try.func54 (by kernel_rfl) (by kernel_rfl) (by kernel_rfl) (drawsOk_of (by kernel_rfl) (by kernel_rfl)) (by simp [Try.f54]) (e ▸ h)

/-! #### (*escrow/cursor.Writer).I64 -/
def cursor_Writer_I64.S (a0 a1 : AVal) (G : Heap) (Q : AVal → Heap → Prop) : Prop :=
  wv (vconv T G t_int64 t_uint64 a1) fun v1 => ACalls P cursor_lay_uint64.n [a0, v1, .int .i64 8] G fun v2 G3 => Q (.tuple []) G3
def cursor_Writer_I64.an : Ann := .nil
set_option maxRecDepth 100000 in
theorem cursor_Writer_I64.sound {a0 a1 : AVal} {G : Heap} {Q : AVal → Heap → Prop} (h : cursor_Writer_I64.S a0 a1 G Q) : ACalls P cursor_Writer_I64.n [a0, a1] G Q := by
  have e : cursor_Writer_I64.S a0 a1 G Q = awp cx (cursor_Writer_I64.body) cursor_Writer_I64.an (bodyQ T [] Q) (envL [a0, a1]) G := by kernel_rfl
  exact ACalls_of_awp cxOk (f := cursor_Writer_I64.n) (fn := Try.f30) (c := cursor_Writer_I64.body) (an := cursor_Writer_I64.an) Try.func30 (by kernel_rfl) (by kernel_rfl) (by kernel_rfl) (drawsOk_of (by kernel_rfl) (by kernel_rfl)) (by simp [Try.f30]) (e ▸ h)

/-! #### (*escrow/cursor.Writer).Raw -/
def cursor_Writer_Raw.S (a0 a1 : AVal) (G : Heap) (Q : AVal → Heap → Prop) : Prop :=
  wv (vnil a0) fun v1 => wv (vfaddr T t_cursor_Writer v1 1) fun v2 => wv (vload T G t_api_Errno v2) fun v3 => wv (vbin T .eql t_api_Errno v3 (.int .i64 0)) fun v4 => brB (some v4)
  (wv (vnil a0) fun v5 => wv (vfaddr T t_cursor_Writer v5 0) fun v6 => wv (vload T G t_sl_uint8 v6) fun v7 => aAppend T G t_sl_uint8 t_string v7 a1 fun v8 G9 => wv (vnil a0) fun v10 => wv (vfaddr T t_cursor_Writer v10 0) fun v11 => wg (vstore T G9 t_sl_uint8 v11 v8) fun G12 => Q (.tuple []) G12)
  (Q (.tuple []) G)
def cursor_Writer_Raw.an : Ann := .nil
set_option maxRecDepth 100000 in
theorem cursor_Writer_Raw.sound {a0 a1 : AVal} {G : Heap} {Q : AVal → Heap → Prop} (h : cursor_Writer_Raw.S a0 a1 G Q) : ACalls P cursor_Writer_Raw.n [a0, a1] G Q := by
  have e : cursor_Writer_Raw.S a0 a1 G Q = awp cx (cursor_Writer_Raw.body) cursor_Writer_Raw.an (bodyQ T [] Q) (envL [a0, a1]) G := by kernel_rfl
  exact ACalls_of_awp cxOk (f := cursor_Writer_Raw.n) (fn := Try.f55) (c := cursor_Writer_Raw.body) (an := cursor_Writer_Raw.an) Try.func55 (by kernel_rfl) (by kernel_rfl) (by kernel_rfl) (drawsOk_of (by kernel_rfl) (by kernel_rfl)) (by simp [Try.f55]) (e ▸ h)

/-! #### (*escrow/cursor.Writer).Hash -/
def cursor_Writer_Hash.S (a0 a1 : AVal) (G : Heap) (Q : AVal → Heap → Prop) : Prop :=
  aNew G (.own (a1)) fun i1 G2 => wv (vslice T t_api_Hash (.ptr i1 [] 0) none none none) fun v3 => wv (vconv T G2 t_sl_uint8 t_string v3) fun v4 => ACalls P cursor_Writer_Raw.n [a0, v4] G2 fun v5 G6 => Q (.tuple []) G6
def cursor_Writer_Hash.an : Ann := .nil
set_option maxRecDepth 100000 in
theorem cursor_Writer_Hash.sound {a0 a1 : AVal} {G : Heap} {Q : AVal → Heap → Prop} (h : cursor_Writer_Hash.S a0 a1 G Q) : ACalls P cursor_Writer_Hash.n [a0, a1] G Q := by
  have e : cursor_Writer_Hash.S a0 a1 G Q = awp cx (cursor_Writer_Hash.body) cursor_Writer_Hash.an (bodyQ T [] Q) (envL [a0, a1]) G := by kernel_rfl
  exact ACalls_of_awp cxOk (f := cursor_Writer_Hash.n) (fn := Try.f31) (c := cursor_Writer_Hash.body) (an := cursor_Writer_Hash.an) Try.func31 (by kernel_rfl) (by kernel_rfl) (by kernel_rfl) (drawsOk_of (by kernel_rfl) (by kernel_rfl)) (by simp [Try.f31]) (e ▸ h)

/-! #### (*escrow/cursor.Writer).Text -/
def cursor_Writer_Text.S (a0 a1 : AVal) (G : Heap) (Q : AVal → Heap → Prop) : Prop :=
  let J31 : AVal → Heap → Prop := (fun x8 G7 => brB (some x8)
  (wv (vnil a0) fun v9 => wv (vfaddr T t_cursor_Writer v9 1) fun v10 => wg (vstore T G7 t_api_Errno v10 (.int .i64 3)) fun G11 => wv (vlen T G11 t_string a1) fun v19 => wv (vconv T G11 t_int t_uint16 v19) fun v20 => ACalls P cursor_lay_uint16.n [a0, v20, .int .i64 2] G11 fun v21 G22 => ACalls P cursor_Writer_Raw.n [a0, a1] G22 fun v23 G24 => Q (.tuple []) G24)
  (wv (vlen T G7 t_string a1) fun v25 => wv (vconv T G7 t_int t_uint16 v25) fun v26 => ACalls P cursor_lay_uint16.n [a0, v26, .int .i64 2] G7 fun v27 G28 => ACalls P cursor_Writer_Raw.n [a0, a1] G28 fun v29 G30 => Q (.tuple []) G30));
  wv (vnil a0) fun v1 => wv (vfaddr T t_cursor_Writer v1 1) fun v2 => wv (vload T G t_api_Errno v2) fun v3 => wv (vbin T .eql t_api_Errno v3 (.int .i64 0)) fun v4 => brB (some v4)
  (wv (vlen T G t_string a1) fun v5 => wv (vbin T .gtr t_int v5 (.int .i64 65535)) fun v6 => J31 v6 G)
  (J31 (.bool false) G)
def cursor_Writer_Text.an : Ann := .nil
set_option maxRecDepth 100000 in
theorem cursor_Writer_Text.sound {a0 a1 : AVal} {G : Heap} {Q : AVal → Heap → Prop} (h : cursor_Writer_Text.S a0 a1 G Q) : ACalls P cursor_Writer_Text.n [a0, a1] G Q := by
  have e : cursor_Writer_Text.S a0 a1 G Q = awp cx (cursor_Writer_Text.body) cursor_Writer_Text.an (bodyQ T [] Q) (envL [a0, a1]) G := by kernel_rfl
  exact ACalls_of_awp cxOk (f := cursor_Writer_Text.n) (fn := Try.f32) (c := cursor_Writer_Text.body) (an := cursor_Writer_Text.an) Try.func32 (by kernel_rfl) (by kernel_rfl) (by kernel_rfl) (drawsOk_of (by kernel_rfl) (by kernel_rfl)) (by simp [Try.f32]) (e ▸ h)

/-! #### (*escrow/cursor.Writer).Out -/
def cursor_Writer_Out.S (a0 : AVal) (G : Heap) (Q : AVal → Heap → Prop) : Prop :=
  wv (vnil a0) fun v1 => wv (vfaddr T t_cursor_Writer v1 1) fun v2 => wv (vload T G t_api_Errno v2) fun v3 => wv (vbin T .neq t_api_Errno v3 (.int .i64 0)) fun v4 => brB (some v4)
  (wv (vnil a0) fun v5 => wv (vfaddr T t_cursor_Writer v5 1) fun v6 => wv (vload T G t_api_Errno v6) fun v7 => Q (.tuple [.str [], v7]) G)
  (wv (vnil a0) fun v8 => wv (vfaddr T t_cursor_Writer v8 0) fun v9 => wv (vload T G t_sl_uint8 v9) fun v10 => wv (vconv T G t_sl_uint8 t_string v10) fun v11 => Q (.tuple [v11, .int .i64 0]) G)
def cursor_Writer_Out.an : Ann := .two (.nil) (.two (.two (.nil) (.two (.two (.ord [(0, []), (1, []), (2, []), (3, []), (4, []), (5, [])]) (.nil)) (.nil))) (.nil))
set_option maxRecDepth 100000 in
theorem cursor_Writer_Out.sound {a0 : AVal} {G : Heap} {Q : AVal → Heap → Prop} (h : cursor_Writer_Out.S a0 G Q) : ACalls P cursor_Writer_Out.n [a0] G Q := by
  have e : cursor_Writer_Out.S a0 G Q = awp cx (cursor_Writer_Out.body) cursor_Writer_Out.an (bodyQ T [.tmp 2, .tmp 3] Q) (envL [a0]) G := by kernel_rfl
  exact ACalls_of_awp cxOk (f := cursor_Writer_Out.n) (fn := Try.f33) (c := cursor_Writer_Out.body) (an := cursor_Writer_Out.an) Try.func33 (by kernel_rfl) (by kernel_rfl) (by kernel_rfl) (drawsOk_of (by kernel_rfl) (by kernel_rfl)) (by simp [Try.f33]) (e ▸ h)

/-! #### escrow/update.Write -/
def update_Write.S (a0 : AVal) (G : Heap) (Q : AVal → Heap → Prop) : Prop :=
  aNew G (.own (a0)) fun i1 G2 => wv (vload T G2 t_api_Update (.ptr i1 [] 0)) fun v3 => ACalls P update_Valid.n [v3] G2 fun v4 G5 => wv (vun .not v4) fun v6 => brB (some v6)
  (Q (.tuple [.str [], .int .i64 120]) G5)
  (ACalls P cursor_New.n [] G5 fun v7 G8 => wv (vload T G8 t_int (.ptr i1 [0] 0)) fun v9 => wv (vconv T G8 t_int t_uint8 v9) fun v10 => ACalls P cursor_Writer_U8.n [v7, v10] G8 fun v11 G12 => wv (vload T G12 t_int64 (.ptr i1 [1] 1)) fun v13 => wv (vconv T G12 t_int64 t_uint16 v13) fun v14 => ACalls P cursor_Writer_U16.n [v7, v14] G12 fun v15 G16 => wv (vload T G16 t_int (.ptr i1 [0] 0)) fun v17 => let J41 : Heap → Prop := (fun G36 => ACalls P cursor_Writer_Out.n [v7] G36 fun v37 G38 => wv (vextract v37 0) fun v39 => wv (vextract v37 1) fun v40 => Q (.tuple [v39, v40]) G38);
  wv (vbin T .eql t_int v17 (.int .i64 1)) fun v18 => brB (some v18)
  (wv (vload T G16 t_int64 (.ptr i1 [2] 2)) fun v19 => ACalls P cursor_Writer_I64.n [v7, v19] G16 fun v20 G21 => wv (vload T G21 t_api_Hash (.ptr i1 [3] 3)) fun v22 => ACalls P cursor_Writer_Hash.n [v7, v22] G21 fun v23 G24 => J41 G24)
  (wv (vbin T .eql t_int v17 (.int .i64 2)) fun v25 => brB (some v25)
  (wv (vload T G16 t_api_Hash (.ptr i1 [3] 3)) fun v26 => ACalls P cursor_Writer_Hash.n [v7, v26] G16 fun v27 G28 => J41 G28)
  (wv (vbin T .eql t_int v17 (.int .i64 3)) fun v29 => brB (some v29)
  (wv (vload T G16 t_string (.ptr i1 [4] 35)) fun v30 => ACalls P cursor_Writer_Text.n [v7, v30] G16 fun v31 G32 => J41 G32)
  (J41 G16))))
def update_Write.an : Ann := .nil
set_option maxRecDepth 100000 in
theorem update_Write.sound {a0 : AVal} {G : Heap} {Q : AVal → Heap → Prop} (h : update_Write.S a0 G Q) : ACalls P update_Write.n [a0] G Q := by
  have e : update_Write.S a0 G Q = awp cx (update_Write.body) update_Write.an (bodyQ T [.tmp 2, .tmp 3] Q) (envL [a0]) G := by kernel_rfl
  exact ACalls_of_awp cxOk (f := update_Write.n) (fn := Try.f9) (c := update_Write.body) (an := update_Write.an) Try.func9 (by kernel_rfl) (by kernel_rfl) (by kernel_rfl) (drawsOk_of (by kernel_rfl) (by kernel_rfl)) (by simp [Try.f9]) (e ▸ h)

/-! #### escrow/cursor.Open -/
def cursor_Open.S (a0 : AVal) (G : Heap) (Q : AVal → Heap → Prop) : Prop :=
  wv (vbuild T t_cursor_Reader [(0, a0)]) fun v1 => aNew G (.own (v1)) fun i2 G3 => Q (.ptr i2 [] 0) G3
def cursor_Open.an : Ann := .nil
set_option maxRecDepth 100000 in
theorem cursor_Open.sound {a0 : AVal} {G : Heap} {Q : AVal → Heap → Prop} (h : cursor_Open.S a0 G Q) : ACalls P cursor_Open.n [a0] G Q := by
  have e : cursor_Open.S a0 G Q = awp cx (cursor_Open.body) cursor_Open.an (bodyQ T [.tmp 2] Q) (envL [a0]) G := by kernel_rfl
  exact ACalls_of_awp cxOk (f := cursor_Open.n) (fn := Try.f35) (c := cursor_Open.body) (an := cursor_Open.an) Try.func35 (by kernel_rfl) (by kernel_rfl) (by kernel_rfl) (drawsOk_of (by kernel_rfl) (by kernel_rfl)) (by simp [Try.f35]) (e ▸ h)

/-! #### escrow/cursor.value[uint8] -/
def cursor_value_uint8.S (a0 : AVal) (G : Heap) (Q : AVal → Heap → Prop) : Prop :=
  wv (vlen T G t_string a0) fun v1 => ∀ R2 : List AVal → Heap → Prop,
  (∀ (x4 x5 x6 x7 : AVal) (G3 : Heap), (wv (vbin T .lss t_int x7 x6) fun v8 => brB (some v8)
  (wv (vbin T .shl t_uint64 x5 (.int .u64 8)) fun v9 => wv (vindex T t_string x4 x7) fun v10 => wv (vconv T G3 t_uint8 t_uint64 v10) fun v11 => wv (vbin T .or t_uint64 v9 v11) fun v12 => wv (vbin T .add t_int x7 (.int .i64 1)) fun v13 => R2 [x4, v12, x6, v13] G3)
  (wv (vconv T G3 t_uint64 t_uint8 x5) fun v14 => Q v14 G3)) → R2 [x4, x5, x6, x7] G3) →
  R2 [a0, .int .u64 0, v1, .int .i64 0] G
def cursor_value_uint8.an : Ann := .two (.nil) (.two (.nil) (.two (.two (.nil) (.loop [0, 3, 6, 7] (.nil))) (.nil)))
set_option maxRecDepth 100000 in
theorem cursor_value_uint8.sound {a0 : AVal} {G : Heap} {Q : AVal → Heap → Prop} (h : cursor_value_uint8.S a0 G Q) : ACalls P cursor_value_uint8.n [a0] G Q := by
  have e : cursor_value_uint8.S a0 G Q = awp cx (cursor_value_uint8.body) cursor_value_uint8.an (bodyQ T [.tmp 2] Q) (envL [a0]) G := by kernel_rfl
  exact ACalls_of_awp cxOk (f := cursor_value_uint8.n) (fn := Try.f56) (c := cursor_value_uint8.body) (an := cursor_value_uint8.an) Try.func56 (by kernel_rfl) (by kernel_rfl) (by kernel_rfl) (drawsOk_of (by kernel_rfl) (by kernel_rfl)) (by simp [Try.f56]) (e ▸ h)

/-! #### (*escrow/cursor.Reader).breaks -/
def cursor_Reader_breaks.S (a0 a1 : AVal) (G : Heap) (Q : AVal → Heap → Prop) : Prop :=
  wv (vnil a0) fun v1 => wv (vfaddr T t_cursor_Reader v1 0) fun v2 => wg (vstore T G t_string v2 (.str [])) fun G3 => wv (vnil a0) fun v4 => wv (vfaddr T t_cursor_Reader v4 1) fun v5 => wg (vstore T G3 t_api_Errno v5 a1) fun G6 => Q (.tuple []) G6
def cursor_Reader_breaks.an : Ann := .nil
set_option maxRecDepth 100000 in
theorem cursor_Reader_breaks.sound {a0 a1 : AVal} {G : Heap} {Q : AVal → Heap → Prop} (h : cursor_Reader_breaks.S a0 a1 G Q) : ACalls P cursor_Reader_breaks.n [a0, a1] G Q := by
  have e : cursor_Reader_breaks.S a0 a1 G Q = awp cx (cursor_Reader_breaks.body) cursor_Reader_breaks.an (bodyQ T [] Q) (envL [a0, a1]) G := by kernel_rfl
  exact ACalls_of_awp cxOk (f := cursor_Reader_breaks.n) (fn := Try.f60) (c := cursor_Reader_breaks.body) (an := cursor_Reader_breaks.an) Try.func60 (by kernel_rfl) (by kernel_rfl) (by kernel_rfl) (drawsOk_of (by kernel_rfl) (by kernel_rfl)) (by simp [Try.f60]) (e ▸ h)

/-! #### (*escrow/cursor.Reader).take -/
def cursor_Reader_take.S (a0 a1 : AVal) (G : Heap) (Q : AVal → Heap → Prop) : Prop :=
  wv (vnil a0) fun v1 => wv (vfaddr T t_cursor_Reader v1 1) fun v2 => wv (vload T G t_api_Errno v2) fun v3 => wv (vbin T .neq t_api_Errno v3 (.int .i64 0)) fun v4 => brB (some v4)
  (Q (.str []) G)
  (wv (vnil a0) fun v5 => wv (vfaddr T t_cursor_Reader v5 0) fun v6 => wv (vload T G t_string v6) fun v7 => wv (vlen T G t_string v7) fun v8 => wv (vbin T .lss t_int v8 a1) fun v9 => brB (some v9)
  (ACalls P cursor_Reader_breaks.n [a0, .int .i64 2] G fun v10 G11 => Q (.str []) G11)
  (wv (vnil a0) fun v12 => wv (vfaddr T t_cursor_Reader v12 0) fun v13 => wv (vload T G t_string v13) fun v14 => wv (vslice T t_string v14 none (some (a1)) none) fun v15 => wv (vnil a0) fun v16 => wv (vfaddr T t_cursor_Reader v16 0) fun v17 => wv (vload T G t_string v17) fun v18 => wv (vslice T t_string v18 (some (a1)) none none) fun v19 => wv (vnil a0) fun v20 => wv (vfaddr T t_cursor_Reader v20 0) fun v21 => wg (vstore T G t_string v21 v19) fun G22 => Q v15 G22))
def cursor_Reader_take.an : Ann := .nil
set_option maxRecDepth 100000 in
theorem cursor_Reader_take.sound {a0 a1 : AVal} {G : Heap} {Q : AVal → Heap → Prop} (h : cursor_Reader_take.S a0 a1 G Q) : ACalls P cursor_Reader_take.n [a0, a1] G Q := by
  have e : cursor_Reader_take.S a0 a1 G Q = awp cx (cursor_Reader_take.body) cursor_Reader_take.an (bodyQ T [.tmp 4] Q) (envL [a0, a1]) G := by kernel_rfl
  exact ACalls_of_awp cxOk (f := cursor_Reader_take.n) (fn := Try.f57) (c := cursor_Reader_take.body) (an := cursor_Reader_take.an) Try.func57 (by kernel_rfl) (by kernel_rfl) (by kernel_rfl) (drawsOk_of (by kernel_rfl) (by kernel_rfl)) (by simp [Try.f57]) (e ▸ h)

/-! #### (*escrow/cursor.Reader).U8 -/
def cursor_Reader_U8.S (a0 : AVal) (G : Heap) (Q : AVal → Heap → Prop) : Prop :=
  ACalls P cursor_Reader_take.n [a0, .int .i64 1] G fun v1 G2 => ACalls P cursor_value_uint8.n [v1] G2 fun v3 G4 => Q v3 G4
def cursor_Reader_U8.an : Ann := .nil
set_option maxRecDepth 100000 in
theorem cursor_Reader_U8.sound {a0 : AVal} {G : Heap} {Q : AVal → Heap → Prop} (h : cursor_Reader_U8.S a0 G Q) : ACalls P cursor_Reader_U8.n [a0] G Q := by
  have e : cursor_Reader_U8.S a0 G Q = awp cx (cursor_Reader_U8.body) cursor_Reader_U8.an (bodyQ T [.tmp 2] Q) (envL [a0]) G := by kernel_rfl
  exact ACalls_of_awp cxOk (f := cursor_Reader_U8.n) (fn := Try.f36) (c := cursor_Reader_U8.body) (an := cursor_Reader_U8.an) Try.func36 (by kernel_rfl) (by kernel_rfl) (by kernel_rfl) (drawsOk_of (by kernel_rfl) (by kernel_rfl)) (by simp [Try.f36]) (e ▸ h)

/-! #### (*escrow/cursor.Reader).Err -/
def cursor_Reader_Err.S (a0 : AVal) (G : Heap) (Q : AVal → Heap → Prop) : Prop :=
  wv (vnil a0) fun v1 => wv (vfaddr T t_cursor_Reader v1 1) fun v2 => wv (vload T G t_api_Errno v2) fun v3 => Q v3 G
def cursor_Reader_Err.an : Ann := .nil
set_option maxRecDepth 100000 in
theorem cursor_Reader_Err.sound {a0 : AVal} {G : Heap} {Q : AVal → Heap → Prop} (h : cursor_Reader_Err.S a0 G Q) : ACalls P cursor_Reader_Err.n [a0] G Q := by
  have e : cursor_Reader_Err.S a0 G Q = awp cx (cursor_Reader_Err.body) cursor_Reader_Err.an (bodyQ T [.tmp 2] Q) (envL [a0]) G := by kernel_rfl
  exact ACalls_of_awp cxOk (f := cursor_Reader_Err.n) (fn := Try.f37) (c := cursor_Reader_Err.body) (an := cursor_Reader_Err.an) Try.func37 (by kernel_rfl) (by kernel_rfl) (by kernel_rfl) (drawsOk_of (by kernel_rfl) (by kernel_rfl)) (by simp [Try.f37]) (e ▸ h)

/-! #### escrow/cursor.value[uint16] -/
def cursor_value_uint16.S (a0 : AVal) (G : Heap) (Q : AVal → Heap → Prop) : Prop :=
  wv (vlen T G t_string a0) fun v1 => ∀ R2 : List AVal → Heap → Prop,
  (∀ (x4 x5 x6 x7 : AVal) (G3 : Heap), (wv (vbin T .lss t_int x7 x6) fun v8 => brB (some v8)
  (wv (vbin T .shl t_uint64 x5 (.int .u64 8)) fun v9 => wv (vindex T t_string x4 x7) fun v10 => wv (vconv T G3 t_uint8 t_uint64 v10) fun v11 => wv (vbin T .or t_uint64 v9 v11) fun v12 => wv (vbin T .add t_int x7 (.int .i64 1)) fun v13 => R2 [x4, v12, x6, v13] G3)
  (wv (vconv T G3 t_uint64 t_uint16 x5) fun v14 => Q v14 G3)) → R2 [x4, x5, x6, x7] G3) →
  R2 [a0, .int .u64 0, v1, .int .i64 0] G
def cursor_value_uint16.an : Ann := .two (.nil) (.two (.nil) (.two (.two (.nil) (.loop [0, 3, 6, 7] (.nil))) (.nil)))
set_option maxRecDepth 100000 in
theorem cursor_value_uint16.sound {a0 : AVal} {G : Heap} {Q : AVal → Heap → Prop} (h : cursor_value_uint16.S a0 G Q) : ACalls P cursor_value_uint16.n [a0] G Q := by
  have e : cursor_value_uint16.S a0 G Q = awp cx (cursor_value_uint16.body) cursor_value_uint16.an (bodyQ T [.tmp 2] Q) (envL [a0]) G := by kernel_rfl
  exact ACalls_of_awp cxOk (f := cursor_value_uint16.n) (fn := Try.f58) (c := cursor_value_uint16.body) (an := cursor_value_uint16.an) Try.func58 (by kernel_rfl) (by kernel_rfl) (by kernel_rfl) (drawsOk_of (by kernel_rfl) (by kernel_rfl)) (by simp [Try.f58]) (e ▸ h)

/-! #### (*escrow/cursor.Reader).U16 -/
def cursor_Reader_U16.S (a0 : AVal) (G : Heap) (Q : AVal → Heap → Prop) : Prop :=
  ACalls P cursor_Reader_take.n [a0, .int .i64 2] G fun v1 G2 => ACalls P cursor_value_uint16.n [v1] G2 fun v3 G4 => Q v3 G4
def cursor_Reader_U16.an : Ann := .nil
set_option maxRecDepth 100000 in
theorem cursor_Reader_U16.sound {a0 : AVal} {G : Heap} {Q : AVal → Heap → Prop} (h : cursor_Reader_U16.S a0 G Q) : ACalls P cursor_Reader_U16.n [a0] G Q := by
  have e : cursor_Reader_U16.S a0 G Q = awp cx (cursor_Reader_U16.body) cursor_Reader_U16.an (bodyQ T [.tmp 2] Q) (envL [a0]) G := by kernel_rfl
  exact ACalls_of_awp cxOk (f := cursor_Reader_U16.n) (fn := Try.f38) (c := cursor_Reader_U16.body) (an := cursor_Reader_U16.an) Try.func38 (by kernel_rfl) (by kernel_rfl) (by kernel_rfl) (drawsOk_of (by kernel_rfl) (by kernel_rfl)) (by simp [Try.f38]) (e ▸ h)

/-! #### escrow/cursor.value[uint64] -/
def cursor_value_uint64.S (a0 : AVal) (G : Heap) (Q : AVal → Heap → Prop) : Prop :=
  wv (vlen T G t_string a0) fun v1 => ∀ R2 : List AVal → Heap → Prop,
  (∀ (x4 x5 x6 x7 : AVal) (G3 : Heap), (wv (vbin T .lss t_int x7 x6) fun v8 => brB (some v8)
  (wv (vbin T .shl t_uint64 x5 (.int .u64 8)) fun v9 => wv (vindex T t_string x4 x7) fun v10 => wv (vconv T G3 t_uint8 t_uint64 v10) fun v11 => wv (vbin T .or t_uint64 v9 v11) fun v12 => wv (vbin T .add t_int x7 (.int .i64 1)) fun v13 => R2 [x4, v12, x6, v13] G3)
  (Q x5 G3)) → R2 [x4, x5, x6, x7] G3) →
  R2 [a0, .int .u64 0, v1, .int .i64 0] G
def cursor_value_uint64.an : Ann := .two (.nil) (.two (.nil) (.two (.two (.nil) (.loop [0, 3, 6, 7] (.nil))) (.nil)))
set_option maxRecDepth 100000 in
theorem cursor_value_uint64.sound {a0 : AVal} {G : Heap} {Q : AVal → Heap → Prop} (h : cursor_value_uint64.S a0 G Q) : ACalls P cursor_value_uint64.n [a0] G Q := by
  have e : cursor_value_uint64.S a0 G Q = awp cx (cursor_value_uint64.body) cursor_value_uint64.an (bodyQ T [.tmp 2] Q) (envL [a0]) G := by kernel_rfl
  exact ACalls_of_awp cxOk (f := cursor_value_uint64.n) (fn := Try.f59) (c := cursor_value_uint64.body) (an := cursor_value_uint64.an) Try.func59 (by kernel_rfl) (by kernel_rfl) (by kernel_rfl) (drawsOk_of (by kernel_rfl) (by kernel_rfl)) (by simp [Try.f59]) (e ▸ h)

/-! #### (*escrow/cursor.Reader).I64 -/
def cursor_Reader_I64.S (a0 : AVal) (G : Heap) (Q : AVal → Heap → Prop) : Prop :=
  ACalls P cursor_Reader_take.n [a0, .int .i64 8] G fun v1 G2 => ACalls P cursor_value_uint64.n [v1] G2 fun v3 G4 => wv (vconv T G4 t_uint64 t_int64 v3) fun v5 => Q v5 G4
def cursor_Reader_I64.an : Ann := .nil
set_option maxRecDepth 100000 in
theorem cursor_Reader_I64.sound {a0 : AVal} {G : Heap} {Q : AVal → Heap → Prop} (h : cursor_Reader_I64.S a0 G Q) : ACalls P cursor_Reader_I64.n [a0] G Q := by
  have e : cursor_Reader_I64.S a0 G Q = awp cx (cursor_Reader_I64.body) cursor_Reader_I64.an (bodyQ T [.tmp 2] Q) (envL [a0]) G := by kernel_rfl
  exact ACalls_of_awp cxOk (f := cursor_Reader_I64.n) (fn := Try.f39) (c := cursor_Reader_I64.body) (an := cursor_Reader_I64.an) Try.func39 (by kernel_rfl) (by kernel_rfl) (by kernel_rfl) (drawsOk_of (by kernel_rfl) (by kernel_rfl)) (by simp [Try.f39]) (e ▸ h)

/-! #### (*escrow/cursor.Reader).Hash -/
def cursor_Reader_Hash.S (a0 : AVal) (G : Heap) (Q : AVal → Heap → Prop) : Prop :=
  aNew G (.own (z_api_Hash)) fun i1 G2 => aNew G2 (.own (z_api_Hash)) fun i3 G4 => wv (vslice T t_api_Hash (.ptr i3 [] 0) none none none) fun v5 => ACalls P cursor_Reader_take.n [a0, .int .i64 32] G4 fun v6 G7 => aCopy T G7 t_sl_uint8 v5 v6 fun v8 G9 => wv (vload T G9 t_api_Hash (.ptr i3 [] 0)) fun v10 => wg (vstore T G9 t_api_Hash (.ptr i1 [] 0) v10) fun G11 => wv (vload T G11 t_api_Hash (.ptr i1 [] 0)) fun v12 => Q v12 G11
def cursor_Reader_Hash.an : Ann := .two (.nil) (.two (.nil) (.two (.ord [(0, []), (1, []), (2, []), (3, [])]) (.nil)))
set_option maxRecDepth 100000 in
theorem cursor_Reader_Hash.sound {a0 : AVal} {G : Heap} {Q : AVal → Heap → Prop} (h : cursor_Reader_Hash.S a0 G Q) : ACalls P cursor_Reader_Hash.n [a0] G Q := by
  have e : cursor_Reader_Hash.S a0 G Q = awp cx (cursor_Reader_Hash.body) cursor_Reader_Hash.an (bodyQ T [.cell 2 23] Q) (envL [a0]) G := by kernel_rfl
  exact ACalls_of_awp cxOk (f := cursor_Reader_Hash.n) (fn := Try.f40) (c := cursor_Reader_Hash.body) (an := cursor_Reader_Hash.an) Try.func40 (by kernel_rfl) (by kernel_rfl) (by kernel_rfl) (drawsOk_of (by kernel_rfl) (by kernel_rfl)) (by simp [Try.f40]) (e ▸ h)

/-! #### (*escrow/cursor.Reader).Text -/
def cursor_Reader_Text.S (a0 a1 : AVal) (G : Heap) (Q : AVal → Heap → Prop) : Prop :=
  let J44 : AVal → Heap → Prop := (fun x19 G18 => brB (some x19)
  (ACalls P cursor_Reader_breaks.n [a0, .int .i64 3] G18 fun v20 G21 => ACalls P cursor_Reader_take.n [a0, .int .i64 2] G21 fun v30 G31 => ACalls P cursor_value_uint16.n [v30] G31 fun v32 G33 => wv (vconv T G33 t_uint16 t_int v32) fun v34 => ACalls P cursor_Reader_take.n [a0, v34] G33 fun v35 G36 => Q v35 G36)
  (ACalls P cursor_Reader_take.n [a0, .int .i64 2] G18 fun v37 G38 => ACalls P cursor_value_uint16.n [v37] G38 fun v39 G40 => wv (vconv T G40 t_uint16 t_int v39) fun v41 => ACalls P cursor_Reader_take.n [a0, v41] G40 fun v42 G43 => Q v42 G43));
  wv (vnil a0) fun v1 => wv (vfaddr T t_cursor_Reader v1 1) fun v2 => wv (vload T G t_api_Errno v2) fun v3 => wv (vbin T .eql t_api_Errno v3 (.int .i64 0)) fun v4 => brB (some v4)
  (wv (vnil a0) fun v5 => wv (vfaddr T t_cursor_Reader v5 0) fun v6 => wv (vload T G t_string v6) fun v7 => wv (vlen T G t_string v7) fun v8 => wv (vbin T .geq t_int v8 (.int .i64 2)) fun v9 => brB (some v9)
  (wv (vnil a0) fun v10 => wv (vfaddr T t_cursor_Reader v10 0) fun v11 => wv (vload T G t_string v11) fun v12 => wv (vslice T t_string v12 none (some (.int .i64 2)) none) fun v13 => ACalls P cursor_value_uint16.n [v13] G fun v14 G15 => wv (vconv T G15 t_uint16 t_int v14) fun v16 => wv (vbin T .gtr t_int v16 a1) fun v17 => J44 v17 G15)
  (J44 (.bool false) G))
  (J44 (.bool false) G)
def cursor_Reader_Text.an : Ann := .nil
set_option maxRecDepth 100000 in
theorem cursor_Reader_Text.sound {a0 a1 : AVal} {G : Heap} {Q : AVal → Heap → Prop} (h : cursor_Reader_Text.S a0 a1 G Q) : ACalls P cursor_Reader_Text.n [a0, a1] G Q := by
  have e : cursor_Reader_Text.S a0 a1 G Q = awp cx (cursor_Reader_Text.body) cursor_Reader_Text.an (bodyQ T [.tmp 4] Q) (envL [a0, a1]) G := by kernel_rfl
  exact ACalls_of_awp cxOk (f := cursor_Reader_Text.n) (fn := Try.f41) (c := cursor_Reader_Text.body) (an := cursor_Reader_Text.an) Try.func41 (by kernel_rfl) (by kernel_rfl) (by kernel_rfl) (drawsOk_of (by kernel_rfl) (by kernel_rfl)) (by simp [Try.f41]) (e ▸ h)

/-! #### escrow/update.fault -/
def update_fault.S (a0 : AVal) (G : Heap) (Q : AVal → Heap → Prop) : Prop :=
  wv (vbin T .eql t_api_Errno a0 (.int .i64 3)) fun v1 => brB (some v1)
  (Q (.int .i64 120) G)
  (Q a0 G)
def update_fault.an : Ann := .nil
set_option maxRecDepth 100000 in
theorem update_fault.sound {a0 : AVal} {G : Heap} {Q : AVal → Heap → Prop} (h : update_fault.S a0 G Q) : ACalls P update_fault.n [a0] G Q := by
  have e : update_fault.S a0 G Q = awp cx (update_fault.body) update_fault.an (bodyQ T [.tmp 2] Q) (envL [a0]) G := by kernel_rfl
  exact ACalls_of_awp cxOk (f := update_fault.n) (fn := Try.f42) (c := update_fault.body) (an := update_fault.an) Try.func42 (by kernel_rfl) (by kernel_rfl) (by kernel_rfl) (drawsOk_of (by kernel_rfl) (by kernel_rfl)) (by simp [Try.f42]) (e ▸ h)

/-! #### (*escrow/cursor.Reader).Rest -/
def cursor_Reader_Rest.S (a0 : AVal) (G : Heap) (Q : AVal → Heap → Prop) : Prop :=
  wv (vnil a0) fun v1 => wv (vfaddr T t_cursor_Reader v1 0) fun v2 => wv (vload T G t_string v2) fun v3 => Q v3 G
def cursor_Reader_Rest.an : Ann := .nil
set_option maxRecDepth 100000 in
theorem cursor_Reader_Rest.sound {a0 : AVal} {G : Heap} {Q : AVal → Heap → Prop} (h : cursor_Reader_Rest.S a0 G Q) : ACalls P cursor_Reader_Rest.n [a0] G Q := by
  have e : cursor_Reader_Rest.S a0 G Q = awp cx (cursor_Reader_Rest.body) cursor_Reader_Rest.an (bodyQ T [.tmp 2] Q) (envL [a0]) G := by kernel_rfl
  exact ACalls_of_awp cxOk (f := cursor_Reader_Rest.n) (fn := Try.f43) (c := cursor_Reader_Rest.body) (an := cursor_Reader_Rest.an) Try.func43 (by kernel_rfl) (by kernel_rfl) (by kernel_rfl) (drawsOk_of (by kernel_rfl) (by kernel_rfl)) (by simp [Try.f43]) (e ▸ h)

/-! #### escrow/update.Read -/
def update_Read.S (a0 : AVal) (G : Heap) (Q : AVal → Heap → Prop) : Prop :=
  aNew G (.own (z_api_Update)) fun i1 G2 => ACalls P cursor_Open.n [a0] G2 fun v3 G4 => ACalls P cursor_Reader_U8.n [v3] G4 fun v5 G6 => wv (vconv T G6 t_uint8 t_int v5) fun v7 => wv (vbuild T t_api_Update [(0, v7)]) fun v8 => aNew G6 (.own (z_api_Update)) fun i9 G10 => wg (vstore T G10 t_api_Update (.ptr i9 [] 0) v8) fun G11 => let J72 : AVal → Heap → Prop := (fun x20 G19 => brB (some x20)
  (wv (vbuild T t_api_Update []) fun v21 => wg (vstore T G19 t_api_Update (.ptr i1 [] 0) v21) fun G22 => wv (vload T G22 t_api_Update (.ptr i1 [] 0)) fun v23 => Q (.tuple [v23, .int .i64 0, .int .i64 120]) G22)
  (ACalls P cursor_Reader_U16.n [v3] G19 fun v24 G25 => wv (vconv T G25 t_uint16 t_int64 v24) fun v26 => wg (vstore T G25 t_int64 (.ptr i9 [1] 1) v26) fun G27 => wv (vload T G27 t_int (.ptr i9 [0] 0)) fun v28 => let J71 : Heap → Prop := (fun G47 => ACalls P cursor_Reader_Err.n [v3] G47 fun v48 G49 => wv (vbin T .neq t_api_Errno v48 (.int .i64 0)) fun v50 => brB (some v50)
  (wv (vbuild T t_api_Update []) fun v51 => ACalls P update_fault.n [v48] G49 fun v52 G53 => wg (vstore T G53 t_api_Update (.ptr i1 [] 0) v51) fun G54 => wv (vload T G54 t_api_Update (.ptr i1 [] 0)) fun v55 => Q (.tuple [v55, .int .i64 0, v52]) G54)
  (wv (vload T G49 t_api_Update (.ptr i9 [] 0)) fun v56 => ACalls P update_Valid.n [v56] G49 fun v57 G58 => wv (vun .not v57) fun v59 => brB (some v59)
  (wv (vbuild T t_api_Update []) fun v60 => wg (vstore T G58 t_api_Update (.ptr i1 [] 0) v60) fun G61 => wv (vload T G61 t_api_Update (.ptr i1 [] 0)) fun v62 => Q (.tuple [v62, .int .i64 0, .int .i64 120]) G61)
  (wv (vload T G58 t_api_Update (.ptr i9 [] 0)) fun v63 => wv (vlen T G58 t_string a0) fun v64 => ACalls P cursor_Reader_Rest.n [v3] G58 fun v65 G66 => (vload T G66 t_api_Update (.ptr i9 [] 0) = some v63 ∧ True) ∧ (wv (vlen T G66 t_string v65) fun v67 => wv (vbin T .sub t_int v64 v67) fun v68 => wg (vstore T G66 t_api_Update (.ptr i1 [] 0) v63) fun G69 => wv (vload T G69 t_api_Update (.ptr i1 [] 0)) fun v70 => Q (.tuple [v70, v68, .int .i64 0]) G69))));
  wv (vbin T .eql t_int v28 (.int .i64 1)) fun v29 => brB (some v29)
  (ACalls P cursor_Reader_I64.n [v3] G27 fun v30 G31 => wg (vstore T G31 t_int64 (.ptr i9 [2] 2) v30) fun G32 => ACalls P cursor_Reader_Hash.n [v3] G32 fun v33 G34 => wg (vstore T G34 t_api_Hash (.ptr i9 [3] 3) v33) fun G35 => J71 G35)
  (wv (vbin T .eql t_int v28 (.int .i64 2)) fun v36 => brB (some v36)
  (ACalls P cursor_Reader_Hash.n [v3] G27 fun v37 G38 => wg (vstore T G38 t_api_Hash (.ptr i9 [3] 3) v37) fun G39 => J71 G39)
  (wv (vbin T .eql t_int v28 (.int .i64 3)) fun v40 => brB (some v40)
  (ACalls P cursor_Reader_Text.n [v3, .int .i64 64] G27 fun v41 G42 => wg (vstore T G42 t_string (.ptr i9 [4] 35) v41) fun G43 => J71 G43)
  (J71 G27)))));
  ACalls P cursor_Reader_Err.n [v3] G11 fun v12 G13 => wv (vbin T .eql t_api_Errno v12 (.int .i64 0)) fun v14 => brB (some v14)
  (wv (vload T G13 t_int (.ptr i9 [0] 0)) fun v15 => wv (vbin T .lss t_int v15 (.int .i64 1)) fun v16 => brB (some v16)
  (J72 (.bool true) G13)
  (wv (vload T G13 t_int (.ptr i9 [0] 0)) fun v17 => wv (vbin T .gtr t_int v17 (.int .i64 3)) fun v18 => J72 v18 G13))
  (J72 (.bool false) G13)
def update_Read.an : Ann := .two (.nil) (.two (.nil) (.two (.nil) (.two (.nil) (.two (.nil) (.two (.nil) (.two (.nil) (.two (.nil) (.two (.ord [(0, []), (1, []), (2, []), (3, []), (4, [0]), (5, []), (6, []), (7, []), (8, []), (9, [])]) (.nil)))))))))
set_option maxRecDepth 100000 in
theorem update_Read.sound {a0 : AVal} {G : Heap} {Q : AVal → Heap → Prop} (h : update_Read.S a0 G Q) : ACalls P update_Read.n [a0] G Q := by
  have e : update_Read.S a0 G Q = awp cx (update_Read.body) update_Read.an (bodyQ T [.cell 2 25, .tmp 3, .tmp 4] Q) (envL [a0]) G := by kernel_rfl
  exact ACalls_of_awp cxOk (f := update_Read.n) (fn := Try.f11) (c := update_Read.body) (an := update_Read.an) Try.func11 (by kernel_rfl) (by kernel_rfl) (by kernel_rfl) (drawsOk_of (by kernel_rfl) (by kernel_rfl)) (by simp [Try.f11]) (e ▸ h)

/-! #### escrow/update.first -/
def update_first.S (a0 a1 a2 : AVal) (G : Heap) (Q : AVal → Heap → Prop) : Prop :=
  aNew G (.own (z_api_Update)) fun i1 G2 => wv (vlen T G2 t_sl_api_Update a0) fun v3 => ∀ R4 : List AVal → Heap → Prop,
  (∀ (x6 x7 x8 x9 x10 x11 : AVal) (G5 : Heap), (wv (vbin T .lss t_int x11 x10) fun v12 => brB (some v12)
  (wv (viaddr T t_sl_api_Update x9 x11) fun v13 => wv (vload T G5 t_api_Update v13) fun v14 => aNew G5 (.own (z_api_Update)) fun i15 G16 => wg (vstore T G16 t_api_Update (.ptr i15 [] 0) v14) fun G17 => let J36 : AVal → Heap → Prop := (fun x32 G31 => brB (some x32)
  (wv (vload T G31 t_api_Update (.ptr i15 [] 0)) fun v33 => wg (vstore T G31 t_api_Update x8 v33) fun G34 => wv (vload T G34 t_api_Update x8) fun v35 => Q (.tuple [v35, .bool true]) G34)
  (wv (vbin T .add t_int x11 (.int .i64 1)) fun v37 => R4 [x6, x7, x8, x9, x10, v37] G31));
  wv (vload T G17 t_int64 (.ptr i15 [1] 1)) fun v18 => wv (vbin T .eql t_int64 v18 x6) fun v19 => brB (some v19)
  (wv (vun .not x7) fun v20 => brB (some v20)
  (wv (vload T G17 t_int (.ptr i15 [0] 0)) fun v21 => wv (vbin T .eql t_int v21 (.int .i64 1)) fun v22 => brB (some v22)
  (J36 (.bool true) G17)
  (brB (some x7)
  (wv (vload T G17 t_int (.ptr i15 [0] 0)) fun v23 => wv (vbin T .eql t_int v23 (.int .i64 2)) fun v24 => brB (some v24)
  (J36 (.bool true) G17)
  (wv (vload T G17 t_int (.ptr i15 [0] 0)) fun v25 => wv (vbin T .eql t_int v25 (.int .i64 3)) fun v26 => J36 v26 G17))
  (J36 (.bool false) G17)))
  (brB (some x7)
  (wv (vload T G17 t_int (.ptr i15 [0] 0)) fun v27 => wv (vbin T .eql t_int v27 (.int .i64 2)) fun v28 => brB (some v28)
  (J36 (.bool true) G17)
  (wv (vload T G17 t_int (.ptr i15 [0] 0)) fun v29 => wv (vbin T .eql t_int v29 (.int .i64 3)) fun v30 => J36 v30 G17))
  (J36 (.bool false) G17)))
  (J36 (.bool false) G17))
  (wv (vbuild T t_api_Update []) fun v38 => wg (vstore T G5 t_api_Update x8 v38) fun G39 => wv (vload T G39 t_api_Update x8) fun v40 => Q (.tuple [v40, .bool false]) G39)) → R4 [x6, x7, x8, x9, x10, x11] G5) →
  R4 [a1, a2, .ptr i1 [] 0, a0, v3, .int .i64 0] G2
def update_first.an : Ann := .two (.nil) (.two (.two (.nil) (.loop [1, 2, 6, 10, 11, 12] (.nil))) (.nil))
set_option maxRecDepth 100000 in
theorem update_first.sound {a0 a1 a2 : AVal} {G : Heap} {Q : AVal → Heap → Prop} (h : update_first.S a0 a1 a2 G Q) : ACalls P update_first.n [a0, a1, a2] G Q := by
  have e : update_first.S a0 a1 a2 G Q = awp cx (update_first.body) update_first.an (bodyQ T [.cell 6 25, .tmp 7] Q) (envL [a0, a1, a2]) G := by kernel_rfl
  exact ACalls_of_awp cxOk (f := update_first.n) (fn := Try.f51) (c := update_first.body) (an := update_first.an) Try.func51 (by kernel_rfl) (by kernel_rfl) (by kernel_rfl) (drawsOk_of (by kernel_rfl) (by kernel_rfl)) (by simp [Try.f51]) (e ▸ h)

/-! #### escrow/update.Find -/
def update_Find.S (a0 a1 : AVal) (G : Heap) (Q : AVal → Heap → Prop) : Prop :=
  aNew G (.own (z_api_Update)) fun i1 G2 => ACalls P update_first.n [a0, a1, .bool false] G2 fun v3 G4 => wv (vextract v3 0) fun v5 => wv (vextract v3 1) fun v6 => wg (vstore T G4 t_api_Update (.ptr i1 [] 0) v5) fun G7 => wv (vload T G7 t_api_Update (.ptr i1 [] 0)) fun v8 => Q (.tuple [v8, v6]) G7
def update_Find.an : Ann := .nil
set_option maxRecDepth 100000 in
theorem update_Find.sound {a0 a1 : AVal} {G : Heap} {Q : AVal → Heap → Prop} (h : update_Find.S a0 a1 G Q) : ACalls P update_Find.n [a0, a1] G Q := by
  have e : update_Find.S a0 a1 G Q = awp cx (update_Find.body) update_Find.an (bodyQ T [.cell 4 25, .tmp 5] Q) (envL [a0, a1]) G := by kernel_rfl
  exact ACalls_of_awp cxOk (f := update_Find.n) (fn := Try.f20) (c := update_Find.body) (an := update_Find.an) Try.func20 (by kernel_rfl) (by kernel_rfl) (by kernel_rfl) (drawsOk_of (by kernel_rfl) (by kernel_rfl)) (by simp [Try.f20]) (e ▸ h)

/-! #### escrow/update.Removal -/
def update_Removal.S (a0 a1 : AVal) (G : Heap) (Q : AVal → Heap → Prop) : Prop :=
  aNew G (.own (z_api_Update)) fun i1 G2 => ACalls P update_first.n [a0, a1, .bool true] G2 fun v3 G4 => wv (vextract v3 0) fun v5 => wv (vextract v3 1) fun v6 => wg (vstore T G4 t_api_Update (.ptr i1 [] 0) v5) fun G7 => wv (vload T G7 t_api_Update (.ptr i1 [] 0)) fun v8 => Q (.tuple [v8, v6]) G7
def update_Removal.an : Ann := .nil
set_option maxRecDepth 100000 in
theorem update_Removal.sound {a0 a1 : AVal} {G : Heap} {Q : AVal → Heap → Prop} (h : update_Removal.S a0 a1 G Q) : ACalls P update_Removal.n [a0, a1] G Q := by
  have e : update_Removal.S a0 a1 G Q = awp cx (update_Removal.body) update_Removal.an (bodyQ T [.cell 4 25, .tmp 5] Q) (envL [a0, a1]) G := by kernel_rfl
  exact ACalls_of_awp cxOk (f := update_Removal.n) (fn := Try.f21) (c := update_Removal.body) (an := update_Removal.an) Try.func21 (by kernel_rfl) (by kernel_rfl) (by kernel_rfl) (drawsOk_of (by kernel_rfl) (by kernel_rfl)) (by simp [Try.f21]) (e ▸ h)

/-! #### escrow/update.adds -/
def update_adds.S (a0 : AVal) (G : Heap) (Q : AVal → Heap → Prop) : Prop :=
  wv (vlen T G t_sl_api_Update a0) fun v1 => ∀ R2 : List AVal → Heap → Prop,
  (∀ (x4 x5 x6 x7 : AVal) (G3 : Heap), (wv (vbin T .lss t_int x7 x6) fun v8 => brB (some v8)
  (wv (viaddr T t_sl_api_Update x5 x7) fun v9 => wv (vload T G3 t_api_Update v9) fun v10 => aNew G3 (.own (z_api_Update)) fun i11 G12 => wg (vstore T G12 t_api_Update (.ptr i11 [] 0) v10) fun G13 => wv (vload T G13 t_int (.ptr i11 [0] 0)) fun v14 => wv (vbin T .eql t_int v14 (.int .i64 1)) fun v15 => brB (some v15)
  (wv (vbin T .add t_int64 x4 (.int .i64 1)) fun v16 => wv (vbin T .add t_int x7 (.int .i64 1)) fun v22 => R2 [v16, x5, x6, v22] G13)
  (wv (vbin T .add t_int x7 (.int .i64 1)) fun v23 => R2 [x4, x5, x6, v23] G13))
  (Q x4 G3)) → R2 [x4, x5, x6, x7] G3) →
  R2 [.int .i64 0, a0, v1, .int .i64 0] G
def update_adds.an : Ann := .two (.nil) (.two (.nil) (.two (.two (.nil) (.loop [3, 6, 7, 8] (.nil))) (.nil)))
set_option maxRecDepth 100000 in
theorem update_adds.sound {a0 : AVal} {G : Heap} {Q : AVal → Heap → Prop} (h : update_adds.S a0 G Q) : ACalls P update_adds.n [a0] G Q := by
  have e : update_adds.S a0 G Q = awp cx (update_adds.body) update_adds.an (bodyQ T [.tmp 2] Q) (envL [a0]) G := by kernel_rfl
  exact ACalls_of_awp cxOk (f := update_adds.n) (fn := Try.f49) (c := update_adds.body) (an := update_adds.an) Try.func49 (by kernel_rfl) (by kernel_rfl) (by kernel_rfl) (drawsOk_of (by kernel_rfl) (by kernel_rfl)) (by simp [Try.f49]) (e ▸ h)

/-! #### escrow/hash.constants -/
def hash_constants.S (G : Heap) (Q : AVal → Heap → Prop) : Prop :=
  aNew G (.own (z_ar64_uint32)) fun i1 G2 => wv (vbuild T t_ar64_uint32 [(0, .int .u32 1116352408), (1, .int .u32 1899447441), (2, .int .u32 3049323471), (3, .int .u32 3921009573), (4, .int .u32 961987163), (5, .int .u32 1508970993), (6, .int .u32 2453635748), (7, .int .u32 2870763221), (8, .int .u32 3624381080), (9, .int .u32 310598401), (10, .int .u32 607225278), (11, .int .u32 1426881987), (12, .int .u32 1925078388), (13, .int .u32 2162078206), (14, .int .u32 2614888103), (15, .int .u32 3248222580), (16, .int .u32 3835390401), (17, .int .u32 4022224774), (18, .int .u32 264347078), (19, .int .u32 604807628), (20, .int .u32 770255983), (21, .int .u32 1249150122), (22, .int .u32 1555081692), (23, .int .u32 1996064986), (24, .int .u32 2554220882), (25, .int .u32 2821834349), (26, .int .u32 2952996808), (27, .int .u32 3210313671), (28, .int .u32 3336571891), (29, .int .u32 3584528711), (30, .int .u32 113926993), (31, .int .u32 338241895), (32, .int .u32 666307205), (33, .int .u32 773529912), (34, .int .u32 1294757372), (35, .int .u32 1396182291), (36, .int .u32 1695183700), (37, .int .u32 1986661051), (38, .int .u32 2177026350), (39, .int .u32 2456956037), (40, .int .u32 2730485921), (41, .int .u32 2820302411), (42, .int .u32 3259730800), (43, .int .u32 3345764771), (44, .int .u32 3516065817), (45, .int .u32 3600352804), (46, .int .u32 4094571909), (47, .int .u32 275423344), (48, .int .u32 430227734), (49, .int .u32 506948616), (50, .int .u32 659060556), (51, .int .u32 883997877), (52, .int .u32 958139571), (53, .int .u32 1322822218), (54, .int .u32 1537002063), (55, .int .u32 1747873779), (56, .int .u32 1955562222), (57, .int .u32 2024104815), (58, .int .u32 2227730452), (59, .int .u32 2361852424), (60, .int .u32 2428436474), (61, .int .u32 2756734187), (62, .int .u32 3204031479), (63, .int .u32 3329325298)]) fun v3 => wg (vstore T G2 t_ar64_uint32 (.ptr i1 [] 0) v3) fun G4 => wv (vload T G4 t_ar64_uint32 (.ptr i1 [] 0)) fun v5 => Q v5 G4
def hash_constants.an : Ann := .nil
set_option maxRecDepth 100000 in
theorem hash_constants.sound {G : Heap} {Q : AVal → Heap → Prop} (h : hash_constants.S G Q) : ACalls P hash_constants.n [] G Q := by
  have e : hash_constants.S G Q = awp cx (hash_constants.body) hash_constants.an (bodyQ T [.cell 0 97] Q) (envL []) G := by kernel_rfl
  exact ACalls_of_awp cxOk (f := hash_constants.n) (fn := Try.f63) (c := hash_constants.body) (an := hash_constants.an) Try.func63 (by kernel_rfl) (by kernel_rfl) (by kernel_rfl) (drawsOk_of (by kernel_rfl) (by kernel_rfl)) (by simp [Try.f63]) (e ▸ h)

/-! #### math/bits.RotateLeft32 -/
def bits_RotateLeft32.S (a0 a1 : AVal) (G : Heap) (Q : AVal → Heap → Prop) : Prop :=
  wv (vconv T G t_int t_uint a1) fun v1 => wv (vbin T .and t_uint v1 (.int .u64 31)) fun v2 => wv (vbin T .shl t_uint32 a0 v2) fun v3 => wv (vbin T .sub t_uint (.int .u64 32) v2) fun v4 => wv (vbin T .shr t_uint32 a0 v4) fun v5 => wv (vbin T .or t_uint32 v3 v5) fun v6 => Q v6 G
def bits_RotateLeft32.an : Ann := .nil
set_option maxRecDepth 100000 in
theorem bits_RotateLeft32.sound {a0 a1 : AVal} {G : Heap} {Q : AVal → Heap → Prop} (h : bits_RotateLeft32.S a0 a1 G Q) : ACalls P bits_RotateLeft32.n [a0, a1] G Q := by
  have e : bits_RotateLeft32.S a0 a1 G Q = awp cx (bits_RotateLeft32.body) bits_RotateLeft32.an (bodyQ T [.tmp 4] Q) (envL [a0, a1]) G := by kernel_rfl
  exact ACalls_of_awp cxOk (f := bits_RotateLeft32.n) (fn := Try.f71) (c := bits_RotateLeft32.body) (an := bits_RotateLeft32.an) Try.func71 (by kernel_rfl) (by kernel_rfl) (by kernel_rfl) (drawsOk_of (by kernel_rfl) (by kernel_rfl)) (by simp [Try.f71]) (e ▸ h)

/-! #### escrow/hash.schedule -/
def hash_schedule.S (a0 : AVal) (G : Heap) (Q : AVal → Heap → Prop) : Prop :=
  aNew G (.own (z_ar64_uint32)) fun i1 G2 => aNew G2 (.own (z_ar64_uint32)) fun i3 G4 => ∀ R5 : List AVal → Heap → Prop,
  (∀ (x7 x8 x9 x10 : AVal) (G6 : Heap), (wv (vbin T .lss t_int x10 (.int .i64 16)) fun v11 => brB (some v11)
  (∀ R12 : List AVal → Heap → Prop,
  (∀ (x14 x15 x16 x17 x18 x19 : AVal) (G13 : Heap), (wv (vbin T .lss t_int x19 (.int .i64 4)) fun v20 => brB (some v20)
  (wv (viaddr T t_ar64_uint32 x16 x17) fun v21 => wv (vload T G13 t_uint32 v21) fun v22 => wv (vbin T .shl t_uint32 v22 (.int .u64 8)) fun v23 => wv (vbin T .mul t_int (.int .i64 4) x17) fun v24 => wv (vbin T .add t_int v24 x19) fun v25 => wv (vindex T t_string x14 v25) fun v26 => wv (vconv T G13 t_uint8 t_uint32 v26) fun v27 => wv (vbin T .or t_uint32 v23 v27) fun v28 => wv (viaddr T t_ar64_uint32 x16 x17) fun v29 => wg (vstore T G13 t_uint32 v29 v28) fun G30 => wv (vbin T .add t_int x19 (.int .i64 1)) fun v31 => R12 [x14, x15, x16, x17, x18, v31] G30)
  (wv (vbin T .add t_int x18 (.int .i64 1)) fun v32 => R5 [x14, x15, x16, v32] G13)) → R12 [x14, x15, x16, x17, x18, x19] G13) →
  R12 [x7, x8, x9, x10, x10, .int .i64 0] G6)
  (∀ R33 : List AVal → Heap → Prop,
  (∀ (x35 x36 x37 : AVal) (G34 : Heap), (wv (vbin T .lss t_int x37 (.int .i64 64)) fun v38 => brB (some v38)
  (wv (vbin T .sub t_int x37 (.int .i64 15)) fun v39 => wv (viaddr T t_ar64_uint32 x36 v39) fun v40 => wv (vload T G34 t_uint32 v40) fun v41 => wv (vbin T .sub t_int x37 (.int .i64 2)) fun v42 => wv (viaddr T t_ar64_uint32 x36 v42) fun v43 => wv (vload T G34 t_uint32 v43) fun v44 => ACalls P bits_RotateLeft32.n [v41, .int .i64 (-7)] G34 fun v45 G46 => ACalls P bits_RotateLeft32.n [v41, .int .i64 (-18)] G46 fun v47 G48 => wv (vbin T .xor t_uint32 v45 v47) fun v49 => wv (vbin T .shr t_uint32 v41 (.int .u64 3)) fun v50 => wv (vbin T .xor t_uint32 v49 v50) fun v51 => ACalls P bits_RotateLeft32.n [v44, .int .i64 (-17)] G48 fun v52 G53 => ACalls P bits_RotateLeft32.n [v44, .int .i64 (-19)] G53 fun v54 G55 => wv (vbin T .xor t_uint32 v52 v54) fun v56 => wv (vbin T .shr t_uint32 v44 (.int .u64 10)) fun v57 => wv (vbin T .xor t_uint32 v56 v57) fun v58 => wv (vbin T .sub t_int x37 (.int .i64 16)) fun v59 => wv (viaddr T t_ar64_uint32 x36 v59) fun v60 => wv (vload T G55 t_uint32 v60) fun v61 => wv (vbin T .add t_uint32 v61 v51) fun v62 => wv (vbin T .sub t_int x37 (.int .i64 7)) fun v63 => wv (viaddr T t_ar64_uint32 x36 v63) fun v64 => wv (vload T G55 t_uint32 v64) fun v65 => wv (vbin T .add t_uint32 v62 v65) fun v66 => wv (vbin T .add t_uint32 v66 v58) fun v67 => wv (viaddr T t_ar64_uint32 x36 x37) fun v68 => wg (vstore T G55 t_uint32 v68 v67) fun G69 => wv (vbin T .add t_int x37 (.int .i64 1)) fun v70 => R33 [x35, x36, v70] G69)
  (wv (vload T G34 t_ar64_uint32 x36) fun v71 => wg (vstore T G34 t_ar64_uint32 x35 v71) fun G72 => wv (vload T G72 t_ar64_uint32 x35) fun v73 => Q v73 G72)) → R33 [x35, x36, x37] G34) →
  R33 [x8, x9, .int .i64 16] G6)) → R5 [x7, x8, x9, x10] G6) →
  R5 [a0, .ptr i1 [] 0, .ptr i3 [] 0, .int .i64 0] G4
def hash_schedule.an : Ann := .two (.nil) (.two (.nil) (.two (.two (.nil) (.loop [0, 2, 3, 11] (.two (.nil) (.two (.nil) (.two (.two (.nil) (.two (.nil) (.loop [0, 2, 3, 4, 11, 14] (.two (.nil) (.two (.nil) (.two (.two (.nil) (.ord [(0, []), (1, []), (2, []), (3, []), (4, []), (5, []), (6, []), (7, []), (8, []), (9, []), (10, []), (11, []), (12, []), (13, []), (14, [])])) (.nil))))))) (.nil)))))) (.two (.two (.nil) (.loop [2, 3, 6] (.two (.nil) (.two (.two (.ord [(0, []), (1, []), (2, []), (3, []), (4, []), (5, []), (6, []), (7, []), (8, []), (9, [])]) (.two (.nil) (.two (.nil) (.ord [(0, []), (1, []), (2, []), (3, []), (4, []), (5, []), (6, []), (7, []), (8, []), (9, []), (10, []), (11, []), (12, []), (13, []), (14, []), (15, [])])))) (.nil))))) (.nil))))
set_option maxRecDepth 100000 in
theorem hash_schedule.sound {a0 : AVal} {G : Heap} {Q : AVal → Heap → Prop} (h : hash_schedule.S a0 G Q) : ACalls P hash_schedule.n [a0] G Q := by
  have e : hash_schedule.S a0 G Q = awp cx (hash_schedule.body) hash_schedule.an (bodyQ T [.cell 2 97] Q) (envL [a0]) G := by kernel_rfl
  exact ACalls_of_awp cxOk (f := hash_schedule.n) (fn := Try.f70) (c := hash_schedule.body) (an := hash_schedule.an) Try.func70 (by kernel_rfl) (by kernel_rfl) (by kernel_rfl) (drawsOk_of (by kernel_rfl) (by kernel_rfl)) (by simp [Try.f70]) (e ▸ h)

end Go.Esc.M
