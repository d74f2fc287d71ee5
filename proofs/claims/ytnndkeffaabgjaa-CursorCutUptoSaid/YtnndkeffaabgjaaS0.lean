/- Printed by gen.py (own work): functions of the program Ytnndkeffaabgjaa over trees and the abstract heap. -/
import Derived.Test.YtnndkeffaabgjaaT
set_option linter.unusedSimpArgs false
set_option linter.unusedVariables false
namespace Go.Esc.M
open Go Go.Esc Go.Proofs

/-! #### escrow/cursor.New -/
def cursor_New.S (G : Heap) (Q : AVal → Heap → Prop) : Prop :=
  wv (vbuild T t_cursor_Writer []) fun v1 => aNew G (.own (v1)) fun i2 G3 => Q (.ptr i2 [] 0) G3
def cursor_New.an : Ann := .nil
set_option maxRecDepth 100000 in
theorem cursor_New.sound {G : Heap} {Q : AVal → Heap → Prop} (h : cursor_New.S G Q) : ACalls P cursor_New.n [] G Q := by
  have e : cursor_New.S G Q = awp cx (cursor_New.body) cursor_New.an (bodyQ T [.tmp 0] Q) (envL []) G := by kernel_rfl
  exact ACalls_of_awp cxOk (f := cursor_New.n) (fn := Try.f6) (c := cursor_New.body) (an := cursor_New.an) Try.func6 (by kernel_rfl) (by kernel_rfl) (by kernel_rfl) (drawsOk_of (by kernel_rfl) (by kernel_rfl)) (by simp [Try.f6]) (e ▸ h)

/-! #### (*escrow/cursor.Writer).Out -/
def cursor_Writer_Out.S (a0 : AVal) (G : Heap) (Q : AVal → Heap → Prop) : Prop :=
  wv (vnil a0) fun v1 => wv (vfaddr T t_cursor_Writer v1 1) fun v2 => wv (vload T G t_api_Errno v2) fun v3 => wv (vbin T .neq t_api_Errno v3 (.int .i64 0)) fun v4 => brB (some v4)
  (wv (vnil a0) fun v5 => wv (vfaddr T t_cursor_Writer v5 1) fun v6 => wv (vload T G t_api_Errno v6) fun v7 => Q (.tuple [.str [], v7]) G)
  (wv (vnil a0) fun v8 => wv (vfaddr T t_cursor_Writer v8 0) fun v9 => wv (vload T G t_sl_uint8 v9) fun v10 => wv (vconv T G t_sl_uint8 t_string v10) fun v11 => Q (.tuple [v11, .int .i64 0]) G)
def cursor_Writer_Out.an : Ann := .two (.nil) (.two (.two (.nil) (.two (.two (.ord [(0, []), (1, []), (2, []), (3, []), (4, []), (5, [])]) (.nil)) (.nil))) (.nil))
set_option maxRecDepth 100000 in
theorem cursor_Writer_Out.sound {a0 : AVal} {G : Heap} {Q : AVal → Heap → Prop} (h : cursor_Writer_Out.S a0 G Q) : ACalls P cursor_Writer_Out.n [a0] G Q := by
  have e : cursor_Writer_Out.S a0 G Q = awp cx (cursor_Writer_Out.body) cursor_Writer_Out.an (bodyQ T [.tmp 2, .tmp 3] Q) (envL [a0]) G := by kernel_rfl
  exact ACalls_of_awp cxOk (f := cursor_Writer_Out.n) (fn := Try.f9) (c := cursor_Writer_Out.body) (an := cursor_Writer_Out.an) Try.func9 (by kernel_rfl) (by kernel_rfl) (by kernel_rfl) (drawsOk_of (by kernel_rfl) (by kernel_rfl)) (by simp [Try.f9]) (e ▸ h)

/-! #### (*escrow/cursor.Writer).Len -/
def cursor_Writer_Len.S (a0 : AVal) (G : Heap) (Q : AVal → Heap → Prop) : Prop :=
  wv (vnil a0) fun v1 => wv (vfaddr T t_cursor_Writer v1 1) fun v2 => wv (vload T G t_api_Errno v2) fun v3 => wv (vbin T .neq t_api_Errno v3 (.int .i64 0)) fun v4 => brB (some v4)
  (Q (.int .i64 0) G)
  (wv (vnil a0) fun v5 => wv (vfaddr T t_cursor_Writer v5 0) fun v6 => wv (vload T G t_sl_uint8 v6) fun v7 => wv (vlen T G t_sl_uint8 v7) fun v8 => Q v8 G)
def cursor_Writer_Len.an : Ann := .nil
set_option maxRecDepth 100000 in
theorem cursor_Writer_Len.sound {a0 : AVal} {G : Heap} {Q : AVal → Heap → Prop} (h : cursor_Writer_Len.S a0 G Q) : ACalls P cursor_Writer_Len.n [a0] G Q := by
  have e : cursor_Writer_Len.S a0 G Q = awp cx (cursor_Writer_Len.body) cursor_Writer_Len.an (bodyQ T [.tmp 2] Q) (envL [a0]) G := by kernel_rfl
  exact ACalls_of_awp cxOk (f := cursor_Writer_Len.n) (fn := Try.f10) (c := cursor_Writer_Len.body) (an := cursor_Writer_Len.an) Try.func10 (by kernel_rfl) (by kernel_rfl) (by kernel_rfl) (drawsOk_of (by kernel_rfl) (by kernel_rfl)) (by simp [Try.f10]) (e ▸ h)

/-! #### escrow/cursor.Open -/
def cursor_Open.S (a0 : AVal) (G : Heap) (Q : AVal → Heap → Prop) : Prop :=
  wv (vbuild T t_cursor_Reader [(0, a0)]) fun v1 => aNew G (.own (v1)) fun i2 G3 => Q (.ptr i2 [] 0) G3
def cursor_Open.an : Ann := .nil
set_option maxRecDepth 100000 in
theorem cursor_Open.sound {a0 : AVal} {G : Heap} {Q : AVal → Heap → Prop} (h : cursor_Open.S a0 G Q) : ACalls P cursor_Open.n [a0] G Q := by
  have e : cursor_Open.S a0 G Q = awp cx (cursor_Open.body) cursor_Open.an (bodyQ T [.tmp 2] Q) (envL [a0]) G := by kernel_rfl
  exact ACalls_of_awp cxOk (f := cursor_Open.n) (fn := Try.f11) (c := cursor_Open.body) (an := cursor_Open.an) Try.func11 (by kernel_rfl) (by kernel_rfl) (by kernel_rfl) (drawsOk_of (by kernel_rfl) (by kernel_rfl)) (by simp [Try.f11]) (e ▸ h)

/-! #### (*escrow/cursor.Reader).Err -/
def cursor_Reader_Err.S (a0 : AVal) (G : Heap) (Q : AVal → Heap → Prop) : Prop :=
  wv (vnil a0) fun v1 => wv (vfaddr T t_cursor_Reader v1 1) fun v2 => wv (vload T G t_api_Errno v2) fun v3 => Q v3 G
def cursor_Reader_Err.an : Ann := .nil
set_option maxRecDepth 100000 in
theorem cursor_Reader_Err.sound {a0 : AVal} {G : Heap} {Q : AVal → Heap → Prop} (h : cursor_Reader_Err.S a0 G Q) : ACalls P cursor_Reader_Err.n [a0] G Q := by
  have e : cursor_Reader_Err.S a0 G Q = awp cx (cursor_Reader_Err.body) cursor_Reader_Err.an (bodyQ T [.tmp 2] Q) (envL [a0]) G := by kernel_rfl
  exact ACalls_of_awp cxOk (f := cursor_Reader_Err.n) (fn := Try.f13) (c := cursor_Reader_Err.body) (an := cursor_Reader_Err.an) Try.func13 (by kernel_rfl) (by kernel_rfl) (by kernel_rfl) (drawsOk_of (by kernel_rfl) (by kernel_rfl)) (by simp [Try.f13]) (e ▸ h)

/-! #### (*escrow/cursor.Reader).Rest -/
def cursor_Reader_Rest.S (a0 : AVal) (G : Heap) (Q : AVal → Heap → Prop) : Prop :=
  wv (vnil a0) fun v1 => wv (vfaddr T t_cursor_Reader v1 0) fun v2 => wv (vload T G t_string v2) fun v3 => Q v3 G
def cursor_Reader_Rest.an : Ann := .nil
set_option maxRecDepth 100000 in
theorem cursor_Reader_Rest.sound {a0 : AVal} {G : Heap} {Q : AVal → Heap → Prop} (h : cursor_Reader_Rest.S a0 G Q) : ACalls P cursor_Reader_Rest.n [a0] G Q := by
  have e : cursor_Reader_Rest.S a0 G Q = awp cx (cursor_Reader_Rest.body) cursor_Reader_Rest.an (bodyQ T [.tmp 2] Q) (envL [a0]) G := by kernel_rfl
  exact ACalls_of_awp cxOk (f := cursor_Reader_Rest.n) (fn := Try.f14) (c := cursor_Reader_Rest.body) (an := cursor_Reader_Rest.an) Try.func14 (by kernel_rfl) (by kernel_rfl) (by kernel_rfl) (drawsOk_of (by kernel_rfl) (by kernel_rfl)) (by simp [Try.f14]) (e ▸ h)

/-! #### (*escrow/cursor.Reader).Done -/
def cursor_Reader_Done.S (a0 : AVal) (G : Heap) (Q : AVal → Heap → Prop) : Prop :=
  wv (vnil a0) fun v1 => wv (vfaddr T t_cursor_Reader v1 1) fun v2 => wv (vload T G t_api_Errno v2) fun v3 => wv (vbin T .eql t_api_Errno v3 (.int .i64 0)) fun v4 => brB (some v4)
  (wv (vnil a0) fun v5 => wv (vfaddr T t_cursor_Reader v5 0) fun v6 => wv (vload T G t_string v6) fun v7 => wv (vbin T .neq t_string v7 (.str [])) fun v8 => brB (some v8)
  (Q (.int .i64 4) G)
  (wv (vnil a0) fun v14 => wv (vfaddr T t_cursor_Reader v14 1) fun v15 => wv (vload T G t_api_Errno v15) fun v16 => Q v16 G))
  (wv (vnil a0) fun v17 => wv (vfaddr T t_cursor_Reader v17 1) fun v18 => wv (vload T G t_api_Errno v18) fun v19 => Q v19 G)
def cursor_Reader_Done.an : Ann := .nil
set_option maxRecDepth 100000 in
theorem cursor_Reader_Done.sound {a0 : AVal} {G : Heap} {Q : AVal → Heap → Prop} (h : cursor_Reader_Done.S a0 G Q) : ACalls P cursor_Reader_Done.n [a0] G Q := by
  have e : cursor_Reader_Done.S a0 G Q = awp cx (cursor_Reader_Done.body) cursor_Reader_Done.an (bodyQ T [.tmp 2] Q) (envL [a0]) G := by kernel_rfl
  exact ACalls_of_awp cxOk (f := cursor_Reader_Done.n) (fn := Try.f15) (c := cursor_Reader_Done.body) (an := cursor_Reader_Done.an) Try.func15 (by kernel_rfl) (by kernel_rfl) (by kernel_rfl) (drawsOk_of (by kernel_rfl) (by kernel_rfl)) (by simp [Try.f15]) (e ▸ h)

/-! #### escrow/cursor.lay[uint8] -/
def cursor_lay_uint8.S (a0 a1 a2 : AVal) (G : Heap) (Q : AVal → Heap → Prop) : Prop :=
  wv (vnil a0) fun v1 => wv (vfaddr T t_cursor_Writer v1 1) fun v2 => wv (vload T G t_api_Errno v2) fun v3 => wv (vbin T .neq t_api_Errno v3 (.int .i64 0)) fun v4 => brB (some v4)
  (Q (.tuple []) G)
  (wv (vbin T .sub t_int a2 (.int .i64 1)) fun v5 => ∀ R6 : List AVal → Heap → Prop,
  (∀ (x8 x9 x10 : AVal) (G7 : Heap), (wv (vbin T .geq t_int x10 (.int .i64 0)) fun v11 => brB (some v11)
  (wv (vnil x8) fun v12 => wv (vfaddr T t_cursor_Writer v12 0) fun v13 => wv (vload T G7 t_sl_uint8 v13) fun v14 => wv (vconv T G7 t_uint8 t_uint64 x9) fun v15 => wv (vbin T .mul t_int (.int .i64 8) x10) fun v16 => wv (vbin T .shr t_uint64 v15 v16) fun v17 => wv (vconv T G7 t_uint64 t_uint8 v17) fun v18 => aBuildSlice T t_sl_uint8 1 [(0, v18)] G7 fun v19 G20 => aAppend T G20 t_sl_uint8 t_sl_uint8 v14 v19 fun v21 G22 => wv (vnil x8) fun v23 => wv (vfaddr T t_cursor_Writer v23 0) fun v24 => wg (vstore T G22 t_sl_uint8 v24 v21) fun G25 => wv (vbin T .sub t_int x10 (.int .i64 1)) fun v26 => R6 [x8, x9, v26] G25)
  (Q (.tuple []) G7)) → R6 [x8, x9, x10] G7) →
  R6 [a0, a1, v5] G)
def cursor_lay_uint8.an : Ann := .two (.nil) (.two (.nil) (.loop [0, 1, 6] (.two (.nil) (.two (.ord [(0, []), (1, []), (2, []), (3, []), (4, []), (5, []), (6, []), (7, []), (8, []), (9, []), (10, []), (11, []), (12, []), (13, []), (14, []), (15, [])]) (.nil)))))
set_option maxRecDepth 100000 in
theorem cursor_lay_uint8.sound {a0 a1 a2 : AVal} {G : Heap} {Q : AVal → Heap → Prop} (h : cursor_lay_uint8.S a0 a1 a2 G Q) : ACalls P cursor_lay_uint8.n [a0, a1, a2] G Q := by
  have e : cursor_lay_uint8.S a0 a1 a2 G Q = awp cx (cursor_lay_uint8.body) cursor_lay_uint8.an (bodyQ T [] Q) (envL [a0, a1, a2]) G := by kernel_rfl
  exact ACalls_of_awp cxOk (f := cursor_lay_uint8.n) (fn := Try.f37) (c := cursor_lay_uint8.body) (an := cursor_lay_uint8.an) Try.func37 (by kernel_rfl) (by kernel_rfl) (by kernel_rfl) (drawsOk_of (by kernel_rfl) (by kernel_rfl)) (by simp [Try.f37]) (e ▸ h)

/-! #### (*escrow/cursor.Writer).U8 -/
def cursor_Writer_U8.S (a0 a1 : AVal) (G : Heap) (Q : AVal → Heap → Prop) : Prop :=
  ACalls P cursor_lay_uint8.n [a0, a1, .int .i64 1] G fun v1 G2 => Q (.tuple []) G2
def cursor_Writer_U8.an : Ann := .nil
set_option maxRecDepth 100000 in
theorem cursor_Writer_U8.sound {a0 a1 : AVal} {G : Heap} {Q : AVal → Heap → Prop} (h : cursor_Writer_U8.S a0 a1 G Q) : ACalls P cursor_Writer_U8.n [a0, a1] G Q := by
  have e : cursor_Writer_U8.S a0 a1 G Q = awp cx (cursor_Writer_U8.body) cursor_Writer_U8.an (bodyQ T [] Q) (envL [a0, a1]) G := by kernel_rfl
  exact ACalls_of_awp cxOk (f := cursor_Writer_U8.n) (fn := Try.f18) (c := cursor_Writer_U8.body) (an := cursor_Writer_U8.an) Try.func18 (by kernel_rfl) (by kernel_rfl) (by kernel_rfl) (drawsOk_of (by kernel_rfl) (by kernel_rfl)) (by simp [Try.f18]) (e ▸ h)

/-! #### escrow/cursor.lay[uint16] -/
def cursor_lay_uint16.S (a0 a1 a2 : AVal) (G : Heap) (Q : AVal → Heap → Prop) : Prop :=
  wv (vnil a0) fun v1 => wv (vfaddr T t_cursor_Writer v1 1) fun v2 => wv (vload T G t_api_Errno v2) fun v3 => wv (vbin T .neq t_api_Errno v3 (.int .i64 0)) fun v4 => brB (some v4)
  (Q (.tuple []) G)
  (wv (vbin T .sub t_int a2 (.int .i64 1)) fun v5 => ∀ R6 : List AVal → Heap → Prop,
  (∀ (x8 x9 x10 : AVal) (G7 : Heap), (wv (vbin T .geq t_int x10 (.int .i64 0)) fun v11 => brB (some v11)
  (wv (vnil x8) fun v12 => wv (vfaddr T t_cursor_Writer v12 0) fun v13 => wv (vload T G7 t_sl_uint8 v13) fun v14 => wv (vconv T G7 t_uint16 t_uint64 x9) fun v15 => wv (vbin T .mul t_int (.int .i64 8) x10) fun v16 => wv (vbin T .shr t_uint64 v15 v16) fun v17 => wv (vconv T G7 t_uint64 t_uint8 v17) fun v18 => aBuildSlice T t_sl_uint8 1 [(0, v18)] G7 fun v19 G20 => aAppend T G20 t_sl_uint8 t_sl_uint8 v14 v19 fun v21 G22 => wv (vnil x8) fun v23 => wv (vfaddr T t_cursor_Writer v23 0) fun v24 => wg (vstore T G22 t_sl_uint8 v24 v21) fun G25 => wv (vbin T .sub t_int x10 (.int .i64 1)) fun v26 => R6 [x8, x9, v26] G25)
  (Q (.tuple []) G7)) → R6 [x8, x9, x10] G7) →
  R6 [a0, a1, v5] G)
def cursor_lay_uint16.an : Ann := .two (.nil) (.two (.nil) (.loop [0, 1, 6] (.two (.nil) (.two (.ord [(0, []), (1, []), (2, []), (3, []), (4, []), (5, []), (6, []), (7, []), (8, []), (9, []), (10, []), (11, []), (12, []), (13, []), (14, []), (15, [])]) (.nil)))))
set_option maxRecDepth 100000 in
theorem cursor_lay_uint16.sound {a0 a1 a2 : AVal} {G : Heap} {Q : AVal → Heap → Prop} (h : cursor_lay_uint16.S a0 a1 a2 G Q) : ACalls P cursor_lay_uint16.n [a0, a1, a2] G Q := by
  have e : cursor_lay_uint16.S a0 a1 a2 G Q = awp cx (cursor_lay_uint16.body) cursor_lay_uint16.an (bodyQ T [] Q) (envL [a0, a1, a2]) G := by kernel_rfl
  exact ACalls_of_awp cxOk (f := cursor_lay_uint16.n) (fn := Try.f38) (c := cursor_lay_uint16.body) (an := cursor_lay_uint16.an) Try.func38 (by kernel_rfl) (by kernel_rfl) (by kernel_rfl) (drawsOk_of (by kernel_rfl) (by kernel_rfl)) (by simp [Try.f38]) (e ▸ h)

/-! #### (*escrow/cursor.Writer).U16 -/
def cursor_Writer_U16.S (a0 a1 : AVal) (G : Heap) (Q : AVal → Heap → Prop) : Prop :=
  ACalls P cursor_lay_uint16.n [a0, a1, .int .i64 2] G fun v1 G2 => Q (.tuple []) G2
def cursor_Writer_U16.an : Ann := .nil
set_option maxRecDepth 100000 in
theorem cursor_Writer_U16.sound {a0 a1 : AVal} {G : Heap} {Q : AVal → Heap → Prop} (h : cursor_Writer_U16.S a0 a1 G Q) : ACalls P cursor_Writer_U16.n [a0, a1] G Q := by
  have e : cursor_Writer_U16.S a0 a1 G Q = awp cx (cursor_Writer_U16.body) cursor_Writer_U16.an (bodyQ T [] Q) (envL [a0, a1]) G := by kernel_rfl
  exact ACalls_of_awp cxOk (f := cursor_Writer_U16.n) (fn := Try.f19) (c := cursor_Writer_U16.body) (an := cursor_Writer_U16.an) Try.func19 (by kernel_rfl) (by kernel_rfl) (by kernel_rfl) (drawsOk_of (by kernel_rfl) (by kernel_rfl)) (by simp [Try.f19]) (e ▸ h)

/-! #### (*escrow/cursor.Writer).Raw -/
def cursor_Writer_Raw.S (a0 a1 : AVal) (G : Heap) (Q : AVal → Heap → Prop) : Prop :=
  wv (vnil a0) fun v1 => wv (vfaddr T t_cursor_Writer v1 1) fun v2 => wv (vload T G t_api_Errno v2) fun v3 => wv (vbin T .eql t_api_Errno v3 (.int .i64 0)) fun v4 => brB (some v4)
  (wv (vnil a0) fun v5 => wv (vfaddr T t_cursor_Writer v5 0) fun v6 => wv (vload T G t_sl_uint8 v6) fun v7 => aAppend T G t_sl_uint8 t_string v7 a1 fun v8 G9 => wv (vnil a0) fun v10 => wv (vfaddr T t_cursor_Writer v10 0) fun v11 => wg (vstore T G9 t_sl_uint8 v11 v8) fun G12 => Q (.tuple []) G12)
  (Q (.tuple []) G)
def cursor_Writer_Raw.an : Ann := .nil
set_option maxRecDepth 100000 in
theorem cursor_Writer_Raw.sound {a0 a1 : AVal} {G : Heap} {Q : AVal → Heap → Prop} (h : cursor_Writer_Raw.S a0 a1 G Q) : ACalls P cursor_Writer_Raw.n [a0, a1] G Q := by
  have e : cursor_Writer_Raw.S a0 a1 G Q = awp cx (cursor_Writer_Raw.body) cursor_Writer_Raw.an (bodyQ T [] Q) (envL [a0, a1]) G := by kernel_rfl
  exact ACalls_of_awp cxOk (f := cursor_Writer_Raw.n) (fn := Try.f29) (c := cursor_Writer_Raw.body) (an := cursor_Writer_Raw.an) Try.func29 (by kernel_rfl) (by kernel_rfl) (by kernel_rfl) (drawsOk_of (by kernel_rfl) (by kernel_rfl)) (by simp [Try.f29]) (e ▸ h)

/-! #### (*escrow/cursor.Writer).Text -/
def cursor_Writer_Text.S (a0 a1 : AVal) (G : Heap) (Q : AVal → Heap → Prop) : Prop :=
  let J31 : AVal → Heap → Prop := (fun x8 G7 => brB (some x8)
  (wv (vnil a0) fun v9 => wv (vfaddr T t_cursor_Writer v9 1) fun v10 => wg (vstore T G7 t_api_Errno v10 (.int .i64 3)) fun G11 => wv (vlen T G11 t_string a1) fun v19 => wv (vconv T G11 t_int t_uint16 v19) fun v20 => ACalls P cursor_lay_uint16.n [a0, v20, .int .i64 2] G11 fun v21 G22 => ACalls P cursor_Writer_Raw.n [a0, a1] G22 fun v23 G24 => Q (.tuple []) G24)
  (wv (vlen T G7 t_string a1) fun v25 => wv (vconv T G7 t_int t_uint16 v25) fun v26 => ACalls P cursor_lay_uint16.n [a0, v26, .int .i64 2] G7 fun v27 G28 => ACalls P cursor_Writer_Raw.n [a0, a1] G28 fun v29 G30 => Q (.tuple []) G30));
  wv (vnil a0) fun v1 => wv (vfaddr T t_cursor_Writer v1 1) fun v2 => wv (vload T G t_api_Errno v2) fun v3 => wv (vbin T .eql t_api_Errno v3 (.int .i64 0)) fun v4 => brB (some v4)
  (wv (vlen T G t_string a1) fun v5 => wv (vbin T .gtr t_int v5 (.int .i64 65535)) fun v6 => J31 v6 G)
  (J31 (.bool false) G)
def cursor_Writer_Text.an : Ann := .nil
set_option maxRecDepth 100000 in
theorem cursor_Writer_Text.sound {a0 a1 : AVal} {G : Heap} {Q : AVal → Heap → Prop} (h : cursor_Writer_Text.S a0 a1 G Q) : ACalls P cursor_Writer_Text.n [a0, a1] G Q := by
  have e : cursor_Writer_Text.S a0 a1 G Q = awp cx (cursor_Writer_Text.body) cursor_Writer_Text.an (bodyQ T [] Q) (envL [a0, a1]) G := by kernel_rfl
  exact ACalls_of_awp cxOk (f := cursor_Writer_Text.n) (fn := Try.f20) (c := cursor_Writer_Text.body) (an := cursor_Writer_Text.an) Try.func20 (by kernel_rfl) (by kernel_rfl) (by kernel_rfl) (drawsOk_of (by kernel_rfl) (by kernel_rfl)) (by simp [Try.f20]) (e ▸ h)

/-! #### (*escrow/cursor.Reader).breaks -/
def cursor_Reader_breaks.S (a0 a1 : AVal) (G : Heap) (Q : AVal → Heap → Prop) : Prop :=
  wv (vnil a0) fun v1 => wv (vfaddr T t_cursor_Reader v1 0) fun v2 => wg (vstore T G t_string v2 (.str [])) fun G3 => wv (vnil a0) fun v4 => wv (vfaddr T t_cursor_Reader v4 1) fun v5 => wg (vstore T G3 t_api_Errno v5 a1) fun G6 => Q (.tuple []) G6
def cursor_Reader_breaks.an : Ann := .nil
set_option maxRecDepth 100000 in
theorem cursor_Reader_breaks.sound {a0 a1 : AVal} {G : Heap} {Q : AVal → Heap → Prop} (h : cursor_Reader_breaks.S a0 a1 G Q) : ACalls P cursor_Reader_breaks.n [a0, a1] G Q := by
  have e : cursor_Reader_breaks.S a0 a1 G Q = awp cx (cursor_Reader_breaks.body) cursor_Reader_breaks.an (bodyQ T [] Q) (envL [a0, a1]) G := by kernel_rfl
  exact ACalls_of_awp cxOk (f := cursor_Reader_breaks.n) (fn := Try.f35) (c := cursor_Reader_breaks.body) (an := cursor_Reader_breaks.an) Try.func35 (by kernel_rfl) (by kernel_rfl) (by kernel_rfl) (drawsOk_of (by kernel_rfl) (by kernel_rfl)) (by simp [Try.f35]) (e ▸ h)

/-! #### (*escrow/cursor.Reader).take -/
def cursor_Reader_take.S (a0 a1 : AVal) (G : Heap) (Q : AVal → Heap → Prop) : Prop :=
  wv (vnil a0) fun v1 => wv (vfaddr T t_cursor_Reader v1 1) fun v2 => wv (vload T G t_api_Errno v2) fun v3 => wv (vbin T .neq t_api_Errno v3 (.int .i64 0)) fun v4 => brB (some v4)
  (Q (.str []) G)
  (wv (vnil a0) fun v5 => wv (vfaddr T t_cursor_Reader v5 0) fun v6 => wv (vload T G t_string v6) fun v7 => wv (vlen T G t_string v7) fun v8 => wv (vbin T .lss t_int v8 a1) fun v9 => brB (some v9)
  (ACalls P cursor_Reader_breaks.n [a0, .int .i64 2] G fun v10 G11 => Q (.str []) G11)
  (wv (vnil a0) fun v12 => wv (vfaddr T t_cursor_Reader v12 0) fun v13 => wv (vload T G t_string v13) fun v14 => wv (vslice T t_string v14 none (some (a1)) none) fun v15 => wv (vnil a0) fun v16 => wv (vfaddr T t_cursor_Reader v16 0) fun v17 => wv (vload T G t_string v17) fun v18 => wv (vslice T t_string v18 (some (a1)) none none) fun v19 => wv (vnil a0) fun v20 => wv (vfaddr T t_cursor_Reader v20 0) fun v21 => wg (vstore T G t_string v21 v19) fun G22 => Q v15 G22))
def cursor_Reader_take.an : Ann := .nil
set_option maxRecDepth 100000 in
theorem cursor_Reader_take.sound {a0 a1 : AVal} {G : Heap} {Q : AVal → Heap → Prop} (h : cursor_Reader_take.S a0 a1 G Q) : ACalls P cursor_Reader_take.n [a0, a1] G Q := by
  have e : cursor_Reader_take.S a0 a1 G Q = awp cx (cursor_Reader_take.body) cursor_Reader_take.an (bodyQ T [.tmp 4] Q) (envL [a0, a1]) G := by kernel_rfl
  exact ACalls_of_awp cxOk (f := cursor_Reader_take.n) (fn := Try.f36) (c := cursor_Reader_take.body) (an := cursor_Reader_take.an) Try.func36 (by kernel_rfl) (by kernel_rfl) (by kernel_rfl) (drawsOk_of (by kernel_rfl) (by kernel_rfl)) (by simp [Try.f36]) (e ▸ h)

/-! #### escrow/cursor.value[uint16] -/
def cursor_value_uint16.S (a0 : AVal) (G : Heap) (Q : AVal → Heap → Prop) : Prop :=
  wv (vlen T G t_string a0) fun v1 => ∀ R2 : List AVal → Heap → Prop,
  (∀ (x4 x5 x6 x7 : AVal) (G3 : Heap), (wv (vbin T .lss t_int x7 x6) fun v8 => brB (some v8)
  (wv (vbin T .shl t_uint64 x5 (.int .u64 8)) fun v9 => wv (vindex T t_string x4 x7) fun v10 => wv (vconv T G3 t_uint8 t_uint64 v10) fun v11 => wv (vbin T .or t_uint64 v9 v11) fun v12 => wv (vbin T .add t_int x7 (.int .i64 1)) fun v13 => R2 [x4, v12, x6, v13] G3)
  (wv (vconv T G3 t_uint64 t_uint16 x5) fun v14 => Q v14 G3)) → R2 [x4, x5, x6, x7] G3) →
  R2 [a0, .int .u64 0, v1, .int .i64 0] G
def cursor_value_uint16.an : Ann := .two (.nil) (.two (.nil) (.two (.two (.nil) (.loop [0, 3, 6, 7] (.nil))) (.nil)))
set_option maxRecDepth 100000 in
theorem cursor_value_uint16.sound {a0 : AVal} {G : Heap} {Q : AVal → Heap → Prop} (h : cursor_value_uint16.S a0 G Q) : ACalls P cursor_value_uint16.n [a0] G Q := by
  have e : cursor_value_uint16.S a0 G Q = awp cx (cursor_value_uint16.body) cursor_value_uint16.an (bodyQ T [.tmp 2] Q) (envL [a0]) G := by kernel_rfl
  exact ACalls_of_awp cxOk (f := cursor_value_uint16.n) (fn := Try.f39) (c := cursor_value_uint16.body) (an := cursor_value_uint16.an) Try.func39 (by kernel_rfl) (by kernel_rfl) (by kernel_rfl) (drawsOk_of (by kernel_rfl) (by kernel_rfl)) (by simp [Try.f39]) (e ▸ h)

/-! #### (*escrow/cursor.Reader).Text -/
def cursor_Reader_Text.S (a0 a1 : AVal) (G : Heap) (Q : AVal → Heap → Prop) : Prop :=
  let J44 : AVal → Heap → Prop := (fun x19 G18 => brB (some x19)
  (ACalls P cursor_Reader_breaks.n [a0, .int .i64 3] G18 fun v20 G21 => ACalls P cursor_Reader_take.n [a0, .int .i64 2] G21 fun v30 G31 => ACalls P cursor_value_uint16.n [v30] G31 fun v32 G33 => wv (vconv T G33 t_uint16 t_int v32) fun v34 => ACalls P cursor_Reader_take.n [a0, v34] G33 fun v35 G36 => Q v35 G36)
  (ACalls P cursor_Reader_take.n [a0, .int .i64 2] G18 fun v37 G38 => ACalls P cursor_value_uint16.n [v37] G38 fun v39 G40 => wv (vconv T G40 t_uint16 t_int v39) fun v41 => ACalls P cursor_Reader_take.n [a0, v41] G40 fun v42 G43 => Q v42 G43));
  wv (vnil a0) fun v1 => wv (vfaddr T t_cursor_Reader v1 1) fun v2 => wv (vload T G t_api_Errno v2) fun v3 => wv (vbin T .eql t_api_Errno v3 (.int .i64 0)) fun v4 => brB (some v4)
  (wv (vnil a0) fun v5 => wv (vfaddr T t_cursor_Reader v5 0) fun v6 => wv (vload T G t_string v6) fun v7 => wv (vlen T G t_string v7) fun v8 => wv (vbin T .geq t_int v8 (.int .i64 2)) fun v9 => brB (some v9)
  (wv (vnil a0) fun v10 => wv (vfaddr T t_cursor_Reader v10 0) fun v11 => wv (vload T G t_string v11) fun v12 => wv (vslice T t_string v12 none (some (.int .i64 2)) none) fun v13 => ACalls P cursor_value_uint16.n [v13] G fun v14 G15 => wv (vconv T G15 t_uint16 t_int v14) fun v16 => wv (vbin T .gtr t_int v16 a1) fun v17 => J44 v17 G15)
  (J44 (.bool false) G))
  (J44 (.bool false) G)
def cursor_Reader_Text.an : Ann := .nil
set_option maxRecDepth 100000 in
theorem cursor_Reader_Text.sound {a0 a1 : AVal} {G : Heap} {Q : AVal → Heap → Prop} (h : cursor_Reader_Text.S a0 a1 G Q) : ACalls P cursor_Reader_Text.n [a0, a1] G Q := by
  have e : cursor_Reader_Text.S a0 a1 G Q = awp cx (cursor_Reader_Text.body) cursor_Reader_Text.an (bodyQ T [.tmp 4] Q) (envL [a0, a1]) G := by kernel_rfl
  exact ACalls_of_awp cxOk (f := cursor_Reader_Text.n) (fn := Try.f21) (c := cursor_Reader_Text.body) (an := cursor_Reader_Text.an) Try.func21 (by kernel_rfl) (by kernel_rfl) (by kernel_rfl) (drawsOk_of (by kernel_rfl) (by kernel_rfl)) (by simp [Try.f21]) (e ▸ h)

/-! #### (*escrow/cursor.Reader).U16 -/
def cursor_Reader_U16.S (a0 : AVal) (G : Heap) (Q : AVal → Heap → Prop) : Prop :=
  ACalls P cursor_Reader_take.n [a0, .int .i64 2] G fun v1 G2 => ACalls P cursor_value_uint16.n [v1] G2 fun v3 G4 => Q v3 G4
def cursor_Reader_U16.an : Ann := .nil
set_option maxRecDepth 100000 in
theorem cursor_Reader_U16.sound {a0 : AVal} {G : Heap} {Q : AVal → Heap → Prop} (h : cursor_Reader_U16.S a0 G Q) : ACalls P cursor_Reader_U16.n [a0] G Q := by
  have e : cursor_Reader_U16.S a0 G Q = awp cx (cursor_Reader_U16.body) cursor_Reader_U16.an (bodyQ T [.tmp 2] Q) (envL [a0]) G := by kernel_rfl
  exact ACalls_of_awp cxOk (f := cursor_Reader_U16.n) (fn := Try.f22) (c := cursor_Reader_U16.body) (an := cursor_Reader_U16.an) Try.func22 (by kernel_rfl) (by kernel_rfl) (by kernel_rfl) (drawsOk_of (by kernel_rfl) (by kernel_rfl)) (by simp [Try.f22]) (e ▸ h)

/-! #### escrow/escrowlaw03.head -/
def escrowlaw03_head.S (G : Heap) (Q : AVal → Heap → Prop) : Prop :=
  ACalls P cursor_New.n [] G fun v1 G2 => ACalls P cursor_Open.n [.str [0, 2, 97, 98, 7]] G2 fun v3 G4 => let J47 : AVal → Heap → Prop := (fun x8 G7 => brB (some x8)
  (Q (.bool false) G7)
  (ACalls P cursor_Writer_U8.n [v1, .int .u8 1] G7 fun v9 G10 => ACalls P cursor_Writer_U16.n [v1, .int .u16 258] G10 fun v11 G12 => ACalls P cursor_Writer_Text.n [v1, .str [97, 98]] G12 fun v13 G14 => ACalls P cursor_Writer_Out.n [v1] G14 fun v15 G16 => wv (vextract v15 0) fun v17 => wv (vextract v15 1) fun v18 => let J46 : AVal → Heap → Prop := (fun x25 G24 => brB (some x25)
  (Q (.bool false) G24)
  (ACalls P cursor_Reader_Text.n [v3, .int .i64 2] G24 fun v26 G27 => wv (vbin T .eql t_string v26 (.str [97, 98])) fun v28 => brB (some v28)
  (ACalls P cursor_Reader_Rest.n [v3] G27 fun v29 G30 => wv (vbin T .eql t_string v29 (.str [7])) fun v31 => brB (some v31)
  (ACalls P cursor_Reader_Done.n [v3] G30 fun v32 G33 => wv (vbin T .eql t_api_Errno v32 (.int .i64 4)) fun v34 => brB (some v34)
  (ACalls P cursor_Reader_U16.n [v3] G33 fun v35 G36 => wv (vbin T .eql t_uint16 v35 (.int .u16 0)) fun v37 => brB (some v37)
  (ACalls P cursor_Reader_Err.n [v3] G36 fun v38 G39 => wv (vbin T .eql t_api_Errno v38 (.int .i64 2)) fun v40 => brB (some v40)
  (ACalls P cursor_Reader_Rest.n [v3] G39 fun v41 G42 => wv (vbin T .eql t_string v41 (.str [])) fun v43 => Q v43 G42)
  (Q (.bool false) G39))
  (Q (.bool false) G36))
  (Q (.bool false) G33))
  (Q (.bool false) G30))
  (Q (.bool false) G27)));
  wv (vbin T .neq t_string v17 (.str [1, 1, 2, 0, 2, 97, 98])) fun v19 => brB (some v19)
  (J46 (.bool true) G16)
  (wv (vbin T .neq t_api_Errno v18 (.int .i64 0)) fun v20 => brB (some v20)
  (J46 (.bool true) G16)
  (ACalls P cursor_Writer_Len.n [v1] G16 fun v21 G22 => wv (vbin T .neq t_int v21 (.int .i64 7)) fun v23 => J46 v23 G22))));
  wv (vbin T .eql t_pt_cursor_Writer v1 (.nilPtr)) fun v5 => brB (some v5)
  (J47 (.bool true) G4)
  (wv (vbin T .eql t_pt_cursor_Reader v3 (.nilPtr)) fun v6 => J47 v6 G4)
def escrowlaw03_head.an : Ann := .nil
set_option maxRecDepth 100000 in
theorem escrowlaw03_head.sound {G : Heap} {Q : AVal → Heap → Prop} (h : escrowlaw03_head.S G Q) : ACalls P escrowlaw03_head.n [] G Q := by
  have e : escrowlaw03_head.S G Q = awp cx (escrowlaw03_head.body) escrowlaw03_head.an (bodyQ T [.tmp 0] Q) (envL []) G := by kernel_rfl
  exact ACalls_of_awp cxOk (f := escrowlaw03_head.n) (fn := Try.f5) (c := escrowlaw03_head.body) (an := escrowlaw03_head.an) Try.func5 (by kernel_rfl) (by kernel_rfl) (by kernel_rfl) (drawsOk_of (by kernel_rfl) (by kernel_rfl)) (by simp [Try.f5]) (e ▸ h)

/-! #### (escrow/escrowlaw03.Val).kind -/
def escrowlaw03_Val_kind.S (a0 : AVal) (G : Heap) (Q : AVal → Heap → Prop) : Prop :=
  aNew G (.own (a0)) fun i1 G2 => wv (vload T G2 t_int (.ptr i1 [0] 0)) fun v3 => wv (vbin T .and t_int v3 (.int .i64 7)) fun v4 => Q v4 G2
def escrowlaw03_Val_kind.an : Ann := .nil
set_option maxRecDepth 100000 in
theorem escrowlaw03_Val_kind.sound {a0 : AVal} {G : Heap} {Q : AVal → Heap → Prop} (h : escrowlaw03_Val_kind.S a0 G Q) : ACalls P escrowlaw03_Val_kind.n [a0] G Q := by
  have e : escrowlaw03_Val_kind.S a0 G Q = awp cx (escrowlaw03_Val_kind.body) escrowlaw03_Val_kind.an (bodyQ T [.tmp 2] Q) (envL [a0]) G := by kernel_rfl
  exact ACalls_of_awp cxOk (f := escrowlaw03_Val_kind.n) (fn := Try.f23) (c := escrowlaw03_Val_kind.body) (an := escrowlaw03_Val_kind.an) Try.func23 (by kernel_rfl) (by kernel_rfl) (by kernel_rfl) (drawsOk_of (by kernel_rfl) (by kernel_rfl)) (by simp [Try.f23]) (e ▸ h)

/-! #### escrow/cursor.lay[uint32] -/
def cursor_lay_uint32.S (a0 a1 a2 : AVal) (G : Heap) (Q : AVal → Heap → Prop) : Prop :=
  wv (vnil a0) fun v1 => wv (vfaddr T t_cursor_Writer v1 1) fun v2 => wv (vload T G t_api_Errno v2) fun v3 => wv (vbin T .neq t_api_Errno v3 (.int .i64 0)) fun v4 => brB (some v4)
  (Q (.tuple []) G)
  (wv (vbin T .sub t_int a2 (.int .i64 1)) fun v5 => ∀ R6 : List AVal → Heap → Prop,
  (∀ (x8 x9 x10 : AVal) (G7 : Heap), (wv (vbin T .geq t_int x10 (.int .i64 0)) fun v11 => brB (some v11)
  (wv (vnil x8) fun v12 => wv (vfaddr T t_cursor_Writer v12 0) fun v13 => wv (vload T G7 t_sl_uint8 v13) fun v14 => wv (vconv T G7 t_uint32 t_uint64 x9) fun v15 => wv (vbin T .mul t_int (.int .i64 8) x10) fun v16 => wv (vbin T .shr t_uint64 v15 v16) fun v17 => wv (vconv T G7 t_uint64 t_uint8 v17) fun v18 => aBuildSlice T t_sl_uint8 1 [(0, v18)] G7 fun v19 G20 => aAppend T G20 t_sl_uint8 t_sl_uint8 v14 v19 fun v21 G22 => wv (vnil x8) fun v23 => wv (vfaddr T t_cursor_Writer v23 0) fun v24 => wg (vstore T G22 t_sl_uint8 v24 v21) fun G25 => wv (vbin T .sub t_int x10 (.int .i64 1)) fun v26 => R6 [x8, x9, v26] G25)
  (Q (.tuple []) G7)) → R6 [x8, x9, x10] G7) →
  R6 [a0, a1, v5] G)
def cursor_lay_uint32.an : Ann := .two (.nil) (.two (.nil) (.loop [0, 1, 6] (.two (.nil) (.two (.ord [(0, []), (1, []), (2, []), (3, []), (4, []), (5, []), (6, []), (7, []), (8, []), (9, []), (10, []), (11, []), (12, []), (13, []), (14, []), (15, [])]) (.nil)))))
set_option maxRecDepth 100000 in
theorem cursor_lay_uint32.sound {a0 a1 a2 : AVal} {G : Heap} {Q : AVal → Heap → Prop} (h : cursor_lay_uint32.S a0 a1 a2 G Q) : ACalls P cursor_lay_uint32.n [a0, a1, a2] G Q := by
  have e : cursor_lay_uint32.S a0 a1 a2 G Q = awp cx (cursor_lay_uint32.body) cursor_lay_uint32.an (bodyQ T [] Q) (envL [a0, a1, a2]) G := by kernel_rfl
  exact ACalls_of_awp cxOk (f := cursor_lay_uint32.n) (fn := Try.f40) (c := cursor_lay_uint32.body) (an := cursor_lay_uint32.an) Try.func40 (by kernel_rfl) (by kernel_rfl) (by kernel_rfl) (drawsOk_of (by kernel_rfl) (by kernel_rfl)) (by simp [Try.f40]) (e ▸ h)

/-! #### (*escrow/cursor.Writer).U32 -/
def cursor_Writer_U32.S (a0 a1 : AVal) (G : Heap) (Q : AVal → Heap → Prop) : Prop :=
  ACalls P cursor_lay_uint32.n [a0, a1, .int .i64 4] G fun v1 G2 => Q (.tuple []) G2
def cursor_Writer_U32.an : Ann := .nil
set_option maxRecDepth 100000 in
theorem cursor_Writer_U32.sound {a0 a1 : AVal} {G : Heap} {Q : AVal → Heap → Prop} (h : cursor_Writer_U32.S a0 a1 G Q) : ACalls P cursor_Writer_U32.n [a0, a1] G Q := by
  have e : cursor_Writer_U32.S a0 a1 G Q = awp cx (cursor_Writer_U32.body) cursor_Writer_U32.an (bodyQ T [] Q) (envL [a0, a1]) G := by kernel_rfl
  exact ACalls_of_awp cxOk (f := cursor_Writer_U32.n) (fn := Try.f24) (c := cursor_Writer_U32.body) (an := cursor_Writer_U32.an) Try.func24 (by kernel_rfl) (by kernel_rfl) (by kernel_rfl) (drawsOk_of (by kernel_rfl) (by kernel_rfl)) (by simp [Try.f24]) (e ▸ h)

/-! #### escrow/cursor.lay[uint64] -/
def cursor_lay_uint64.S (a0 a1 a2 : AVal) (G : Heap) (Q : AVal → Heap → Prop) : Prop :=
  wv (vnil a0) fun v1 => wv (vfaddr T t_cursor_Writer v1 1) fun v2 => wv (vload T G t_api_Errno v2) fun v3 => wv (vbin T .neq t_api_Errno v3 (.int .i64 0)) fun v4 => brB (some v4)
  (Q (.tuple []) G)
  (wv (vbin T .sub t_int a2 (.int .i64 1)) fun v5 => ∀ R6 : List AVal → Heap → Prop,
  (∀ (x8 x9 x10 : AVal) (G7 : Heap), (wv (vbin T .geq t_int x10 (.int .i64 0)) fun v11 => brB (some v11)
  (wv (vnil x8) fun v12 => wv (vfaddr T t_cursor_Writer v12 0) fun v13 => wv (vload T G7 t_sl_uint8 v13) fun v14 => wv (vbin T .mul t_int (.int .i64 8) x10) fun v15 => wv (vbin T .shr t_uint64 x9 v15) fun v16 => wv (vconv T G7 t_uint64 t_uint8 v16) fun v17 => aBuildSlice T t_sl_uint8 1 [(0, v17)] G7 fun v18 G19 => aAppend T G19 t_sl_uint8 t_sl_uint8 v14 v18 fun v20 G21 => wv (vnil x8) fun v22 => wv (vfaddr T t_cursor_Writer v22 0) fun v23 => wg (vstore T G21 t_sl_uint8 v23 v20) fun G24 => wv (vbin T .sub t_int x10 (.int .i64 1)) fun v25 => R6 [x8, x9, v25] G24)
  (Q (.tuple []) G7)) → R6 [x8, x9, x10] G7) →
  R6 [a0, a1, v5] G)
def cursor_lay_uint64.an : Ann := .two (.nil) (.two (.nil) (.loop [0, 1, 6] (.two (.nil) (.two (.ord [(0, []), (1, []), (2, []), (3, []), (4, []), (5, []), (6, []), (7, []), (8, []), (9, []), (10, []), (11, []), (12, []), (13, []), (14, [])]) (.nil)))))
set_option maxRecDepth 100000 in
theorem cursor_lay_uint64.sound {a0 a1 a2 : AVal} {G : Heap} {Q : AVal → Heap → Prop} (h : cursor_lay_uint64.S a0 a1 a2 G Q) : ACalls P cursor_lay_uint64.n [a0, a1, a2] G Q := by
  have e : cursor_lay_uint64.S a0 a1 a2 G Q = awp cx (cursor_lay_uint64.body) cursor_lay_uint64.an (bodyQ T [] Q) (envL [a0, a1, a2]) G := by kernel_rfl
  exact ACalls_of_awp cxOk (f := cursor_lay_uint64.n) (fn := Try.f41) (c := cursor_lay_uint64.body) (an := cursor_lay_uint64.an) Try.func41 (by kernel_rfl) (by kernel_rfl) (by kernel_rfl) (drawsOk_of (by kernel_rfl) (by kernel_rfl)) (by simp [Try.f41]) (e ▸ h)

/-! #### (*escrow/cursor.Writer).U64 -/
def cursor_Writer_U64.S (a0 a1 : AVal) (G : Heap) (Q : AVal → Heap → Prop) : Prop :=
  ACalls P cursor_lay_uint64.n [a0, a1, .int .i64 8] G fun v1 G2 => Q (.tuple []) G2
def cursor_Writer_U64.an : Ann := .nil
set_option maxRecDepth 100000 in
theorem cursor_Writer_U64.sound {a0 a1 : AVal} {G : Heap} {Q : AVal → Heap → Prop} (h : cursor_Writer_U64.S a0 a1 G Q) : ACalls P cursor_Writer_U64.n [a0, a1] G Q := by
  have e : cursor_Writer_U64.S a0 a1 G Q = awp cx (cursor_Writer_U64.body) cursor_Writer_U64.an (bodyQ T [] Q) (envL [a0, a1]) G := by kernel_rfl
  exact ACalls_of_awp cxOk (f := cursor_Writer_U64.n) (fn := Try.f25) (c := cursor_Writer_U64.body) (an := cursor_Writer_U64.an) Try.func25 (by kernel_rfl) (by kernel_rfl) (by kernel_rfl) (drawsOk_of (by kernel_rfl) (by kernel_rfl)) (by simp [Try.f25]) (e ▸ h)

/-! #### (*escrow/cursor.Writer).I64 -/
def cursor_Writer_I64.S (a0 a1 : AVal) (G : Heap) (Q : AVal → Heap → Prop) : Prop :=
  wv (vconv T G t_int64 t_uint64 a1) fun v1 => ACalls P cursor_lay_uint64.n [a0, v1, .int .i64 8] G fun v2 G3 => Q (.tuple []) G3
def cursor_Writer_I64.an : Ann := .nil
set_option maxRecDepth 100000 in
theorem cursor_Writer_I64.sound {a0 a1 : AVal} {G : Heap} {Q : AVal → Heap → Prop} (h : cursor_Writer_I64.S a0 a1 G Q) : ACalls P cursor_Writer_I64.n [a0, a1] G Q := by
  have e : cursor_Writer_I64.S a0 a1 G Q = awp cx (cursor_Writer_I64.body) cursor_Writer_I64.an (bodyQ T [] Q) (envL [a0, a1]) G := by kernel_rfl
  exact ACalls_of_awp cxOk (f := cursor_Writer_I64.n) (fn := Try.f26) (c := cursor_Writer_I64.body) (an := cursor_Writer_I64.an) Try.func26 (by kernel_rfl) (by kernel_rfl) (by kernel_rfl) (drawsOk_of (by kernel_rfl) (by kernel_rfl)) (by simp [Try.f26]) (e ▸ h)

/-! #### (*escrow/cursor.Writer).Hash -/
def cursor_Writer_Hash.S (a0 a1 : AVal) (G : Heap) (Q : AVal → Heap → Prop) : Prop :=
  aNew G (.own (a1)) fun i1 G2 => wv (vslice T t_api_Hash (.ptr i1 [] 0) none none none) fun v3 => wv (vconv T G2 t_sl_uint8 t_string v3) fun v4 => ACalls P cursor_Writer_Raw.n [a0, v4] G2 fun v5 G6 => Q (.tuple []) G6
def cursor_Writer_Hash.an : Ann := .nil
set_option maxRecDepth 100000 in
theorem cursor_Writer_Hash.sound {a0 a1 : AVal} {G : Heap} {Q : AVal → Heap → Prop} (h : cursor_Writer_Hash.S a0 a1 G Q) : ACalls P cursor_Writer_Hash.n [a0, a1] G Q := by
  have e : cursor_Writer_Hash.S a0 a1 G Q = awp cx (cursor_Writer_Hash.body) cursor_Writer_Hash.an (bodyQ T [] Q) (envL [a0, a1]) G := by kernel_rfl
  exact ACalls_of_awp cxOk (f := cursor_Writer_Hash.n) (fn := Try.f27) (c := cursor_Writer_Hash.body) (an := cursor_Writer_Hash.an) Try.func27 (by kernel_rfl) (by kernel_rfl) (by kernel_rfl) (drawsOk_of (by kernel_rfl) (by kernel_rfl)) (by simp [Try.f27]) (e ▸ h)

/-! #### (escrow/escrowlaw03.Val).text -/
def escrowlaw03_Val_text.S (a0 : AVal) (G : Heap) (Q : AVal → Heap → Prop) : Prop :=
  aNew G (.own (a0)) fun i1 G2 => wv (vload T G2 t_string (.ptr i1 [4] 35)) fun v3 => ∀ R4 : List AVal → Heap → Prop,
  (∀ (x6 x7 x8 : AVal) (G5 : Heap), (let J21 : AVal → Heap → Prop := (fun x16 G15 => brB (some x16)
  (wv (vfaddr T t_escrowlaw03_Val x6 4) fun v17 => wv (vload T G15 t_string v17) fun v18 => wv (vbin T .add t_string x7 v18) fun v19 => wv (vbin T .add t_int x8 (.int .i64 1)) fun v20 => R4 [x6, v19, v20] G15)
  (Q x7 G15));
  wv (vfaddr T t_escrowlaw03_Val x6 5) fun v9 => wv (vload T G5 t_int v9) fun v10 => wv (vbin T .lss t_int x8 v10) fun v11 => brB (some v11)
  (wv (vlen T G5 t_string x7) fun v12 => wv (vbin T .lss t_int v12 (.int .i64 70000)) fun v13 => brB (some v13)
  (wv (vbin T .neq t_string x7 (.str [])) fun v14 => J21 v14 G5)
  (J21 (.bool false) G5))
  (J21 (.bool false) G5)) → R4 [x6, x7, x8] G5) →
  R4 [.ptr i1 [] 0, v3, .int .i64 1] G2
def escrowlaw03_Val_text.an : Ann := .two (.nil) (.two (.nil) (.two (.two (.nil) (.loop [1, 3, 4] (.nil))) (.nil)))
set_option maxRecDepth 100000 in
theorem escrowlaw03_Val_text.sound {a0 : AVal} {G : Heap} {Q : AVal → Heap → Prop} (h : escrowlaw03_Val_text.S a0 G Q) : ACalls P escrowlaw03_Val_text.n [a0] G Q := by
  have e : escrowlaw03_Val_text.S a0 G Q = awp cx (escrowlaw03_Val_text.body) escrowlaw03_Val_text.an (bodyQ T [.tmp 2] Q) (envL [a0]) G := by kernel_rfl
  exact ACalls_of_awp cxOk (f := escrowlaw03_Val_text.n) (fn := Try.f28) (c := escrowlaw03_Val_text.body) (an := escrowlaw03_Val_text.an) Try.func28 (by kernel_rfl) (by kernel_rfl) (by kernel_rfl) (drawsOk_of (by kernel_rfl) (by kernel_rfl)) (by simp [Try.f28]) (e ▸ h)

/-! #### escrow/escrowlaw03.lays -/
def escrowlaw03_lays.S (a0 a1 : AVal) (G : Heap) (Q : AVal → Heap → Prop) : Prop :=
  aNew G (.own (a1)) fun i1 G2 => wv (vload T G2 t_escrowlaw03_Val (.ptr i1 [] 0)) fun v3 => ACalls P escrowlaw03_Val_kind.n [v3] G2 fun v4 G5 => wv (vbin T .eql t_int v4 (.int .i64 0)) fun v6 => brB (some v6)
  (wv (vload T G5 t_uint64 (.ptr i1 [1] 1)) fun v7 => wv (vconv T G5 t_uint64 t_uint8 v7) fun v8 => ACalls P cursor_Writer_U8.n [a0, v8] G5 fun v9 G10 => Q (.tuple []) G10)
  (wv (vbin T .eql t_int v4 (.int .i64 1)) fun v11 => brB (some v11)
  (wv (vload T G5 t_uint64 (.ptr i1 [1] 1)) fun v12 => wv (vconv T G5 t_uint64 t_uint16 v12) fun v13 => ACalls P cursor_Writer_U16.n [a0, v13] G5 fun v14 G15 => Q (.tuple []) G15)
  (wv (vbin T .eql t_int v4 (.int .i64 2)) fun v16 => brB (some v16)
  (wv (vload T G5 t_uint64 (.ptr i1 [1] 1)) fun v17 => wv (vconv T G5 t_uint64 t_uint32 v17) fun v18 => ACalls P cursor_Writer_U32.n [a0, v18] G5 fun v19 G20 => Q (.tuple []) G20)
  (wv (vbin T .eql t_int v4 (.int .i64 3)) fun v21 => brB (some v21)
  (wv (vload T G5 t_uint64 (.ptr i1 [1] 1)) fun v22 => ACalls P cursor_Writer_U64.n [a0, v22] G5 fun v23 G24 => Q (.tuple []) G24)
  (wv (vbin T .eql t_int v4 (.int .i64 4)) fun v25 => brB (some v25)
  (wv (vload T G5 t_int64 (.ptr i1 [2] 2)) fun v26 => ACalls P cursor_Writer_I64.n [a0, v26] G5 fun v27 G28 => Q (.tuple []) G28)
  (wv (vbin T .eql t_int v4 (.int .i64 5)) fun v29 => brB (some v29)
  (wv (vload T G5 t_api_Hash (.ptr i1 [3] 3)) fun v30 => ACalls P cursor_Writer_Hash.n [a0, v30] G5 fun v31 G32 => Q (.tuple []) G32)
  (wv (vbin T .eql t_int v4 (.int .i64 6)) fun v33 => brB (some v33)
  (wv (vload T G5 t_escrowlaw03_Val (.ptr i1 [] 0)) fun v34 => ACalls P escrowlaw03_Val_text.n [v34] G5 fun v35 G36 => ACalls P cursor_Writer_Text.n [a0, v35] G36 fun v37 G38 => Q (.tuple []) G38)
  (wv (vbin T .eql t_int v4 (.int .i64 7)) fun v39 => brB (some v39)
  (wv (vload T G5 t_escrowlaw03_Val (.ptr i1 [] 0)) fun v40 => ACalls P escrowlaw03_Val_text.n [v40] G5 fun v41 G42 => ACalls P cursor_Writer_Raw.n [a0, v41] G42 fun v43 G44 => Q (.tuple []) G44)
  (Q (.tuple []) G5))))))))
def escrowlaw03_lays.an : Ann := .nil
set_option maxRecDepth 100000 in
theorem escrowlaw03_lays.sound {a0 a1 : AVal} {G : Heap} {Q : AVal → Heap → Prop} (h : escrowlaw03_lays.S a0 a1 G Q) : ACalls P escrowlaw03_lays.n [a0, a1] G Q := by
  have e : escrowlaw03_lays.S a0 a1 G Q = awp cx (escrowlaw03_lays.body) escrowlaw03_lays.an (bodyQ T [] Q) (envL [a0, a1]) G := by kernel_rfl
  exact ACalls_of_awp cxOk (f := escrowlaw03_lays.n) (fn := Try.f7) (c := escrowlaw03_lays.body) (an := escrowlaw03_lays.an) Try.func7 (by kernel_rfl) (by kernel_rfl) (by kernel_rfl) (drawsOk_of (by kernel_rfl) (by kernel_rfl)) (by simp [Try.f7]) (e ▸ h)

/-! #### escrow/escrowlaw03.long -/
def escrowlaw03_long.S (a0 : AVal) (G : Heap) (Q : AVal → Heap → Prop) : Prop :=
  aNew G (.own (a0)) fun i1 G2 => wv (vload T G2 t_escrowlaw03_Val (.ptr i1 [] 0)) fun v3 => ACalls P escrowlaw03_Val_kind.n [v3] G2 fun v4 G5 => wv (vbin T .eql t_int v4 (.int .i64 6)) fun v6 => brB (some v6)
  (wv (vload T G5 t_escrowlaw03_Val (.ptr i1 [] 0)) fun v7 => ACalls P escrowlaw03_Val_text.n [v7] G5 fun v8 G9 => wv (vlen T G9 t_string v8) fun v10 => wv (vbin T .gtr t_int v10 (.int .i64 65535)) fun v11 => Q v11 G9)
  (Q (.bool false) G5)
def escrowlaw03_long.an : Ann := .nil
set_option maxRecDepth 100000 in
theorem escrowlaw03_long.sound {a0 : AVal} {G : Heap} {Q : AVal → Heap → Prop} (h : escrowlaw03_long.S a0 G Q) : ACalls P escrowlaw03_long.n [a0] G Q := by
  have e : escrowlaw03_long.S a0 G Q = awp cx (escrowlaw03_long.body) escrowlaw03_long.an (bodyQ T [.tmp 2] Q) (envL [a0]) G := by kernel_rfl
  exact ACalls_of_awp cxOk (f := escrowlaw03_long.n) (fn := Try.f8) (c := escrowlaw03_long.body) (an := escrowlaw03_long.an) Try.func8 (by kernel_rfl) (by kernel_rfl) (by kernel_rfl) (drawsOk_of (by kernel_rfl) (by kernel_rfl)) (by simp [Try.f8]) (e ▸ h)

/-! #### (*escrow/cursor.Reader).Raw -/
def cursor_Reader_Raw.S (a0 a1 : AVal) (G : Heap) (Q : AVal → Heap → Prop) : Prop :=
  wv (vnil a0) fun v1 => wv (vfaddr T t_cursor_Reader v1 1) fun v2 => wv (vload T G t_api_Errno v2) fun v3 => wv (vbin T .eql t_api_Errno v3 (.int .i64 0)) fun v4 => brB (some v4)
  (wv (vbin T .lss t_int a1 (.int .i64 0)) fun v5 => brB (some v5)
  (ACalls P cursor_Reader_breaks.n [a0, .int .i64 1] G fun v17 G18 => ACalls P cursor_Reader_take.n [a0, a1] G18 fun v22 G23 => Q v22 G23)
  (ACalls P cursor_Reader_take.n [a0, a1] G fun v24 G25 => Q v24 G25))
  (ACalls P cursor_Reader_take.n [a0, a1] G fun v26 G27 => Q v26 G27)
def cursor_Reader_Raw.an : Ann := .nil
set_option maxRecDepth 100000 in
theorem cursor_Reader_Raw.sound {a0 a1 : AVal} {G : Heap} {Q : AVal → Heap → Prop} (h : cursor_Reader_Raw.S a0 a1 G Q) : ACalls P cursor_Reader_Raw.n [a0, a1] G Q := by
  have e : cursor_Reader_Raw.S a0 a1 G Q = awp cx (cursor_Reader_Raw.body) cursor_Reader_Raw.an (bodyQ T [.tmp 4] Q) (envL [a0, a1]) G := by kernel_rfl
  exact ACalls_of_awp cxOk (f := cursor_Reader_Raw.n) (fn := Try.f16) (c := cursor_Reader_Raw.body) (an := cursor_Reader_Raw.an) Try.func16 (by kernel_rfl) (by kernel_rfl) (by kernel_rfl) (drawsOk_of (by kernel_rfl) (by kernel_rfl)) (by simp [Try.f16]) (e ▸ h)

/-! #### escrow/cursor.value[uint8] -/
def cursor_value_uint8.S (a0 : AVal) (G : Heap) (Q : AVal → Heap → Prop) : Prop :=
  wv (vlen T G t_string a0) fun v1 => ∀ R2 : List AVal → Heap → Prop,
  (∀ (x4 x5 x6 x7 : AVal) (G3 : Heap), (wv (vbin T .lss t_int x7 x6) fun v8 => brB (some v8)
  (wv (vbin T .shl t_uint64 x5 (.int .u64 8)) fun v9 => wv (vindex T t_string x4 x7) fun v10 => wv (vconv T G3 t_uint8 t_uint64 v10) fun v11 => wv (vbin T .or t_uint64 v9 v11) fun v12 => wv (vbin T .add t_int x7 (.int .i64 1)) fun v13 => R2 [x4, v12, x6, v13] G3)
  (wv (vconv T G3 t_uint64 t_uint8 x5) fun v14 => Q v14 G3)) → R2 [x4, x5, x6, x7] G3) →
  R2 [a0, .int .u64 0, v1, .int .i64 0] G
def cursor_value_uint8.an : Ann := .two (.nil) (.two (.nil) (.two (.two (.nil) (.loop [0, 3, 6, 7] (.nil))) (.nil)))
set_option maxRecDepth 100000 in
theorem cursor_value_uint8.sound {a0 : AVal} {G : Heap} {Q : AVal → Heap → Prop} (h : cursor_value_uint8.S a0 G Q) : ACalls P cursor_value_uint8.n [a0] G Q := by
  have e : cursor_value_uint8.S a0 G Q = awp cx (cursor_value_uint8.body) cursor_value_uint8.an (bodyQ T [.tmp 2] Q) (envL [a0]) G := by kernel_rfl
  exact ACalls_of_awp cxOk (f := cursor_value_uint8.n) (fn := Try.f42) (c := cursor_value_uint8.body) (an := cursor_value_uint8.an) Try.func42 (by kernel_rfl) (by kernel_rfl) (by kernel_rfl) (drawsOk_of (by kernel_rfl) (by kernel_rfl)) (by simp [Try.f42]) (e ▸ h)

/-! #### (*escrow/cursor.Reader).U8 -/
def cursor_Reader_U8.S (a0 : AVal) (G : Heap) (Q : AVal → Heap → Prop) : Prop :=
  ACalls P cursor_Reader_take.n [a0, .int .i64 1] G fun v1 G2 => ACalls P cursor_value_uint8.n [v1] G2 fun v3 G4 => Q v3 G4
def cursor_Reader_U8.an : Ann := .nil
set_option maxRecDepth 100000 in
theorem cursor_Reader_U8.sound {a0 : AVal} {G : Heap} {Q : AVal → Heap → Prop} (h : cursor_Reader_U8.S a0 G Q) : ACalls P cursor_Reader_U8.n [a0] G Q := by
  have e : cursor_Reader_U8.S a0 G Q = awp cx (cursor_Reader_U8.body) cursor_Reader_U8.an (bodyQ T [.tmp 2] Q) (envL [a0]) G := by kernel_rfl
  exact ACalls_of_awp cxOk (f := cursor_Reader_U8.n) (fn := Try.f30) (c := cursor_Reader_U8.body) (an := cursor_Reader_U8.an) Try.func30 (by kernel_rfl) (by kernel_rfl) (by kernel_rfl) (drawsOk_of (by kernel_rfl) (by kernel_rfl)) (by simp [Try.f30]) (e ▸ h)

/-! #### escrow/cursor.value[uint32] -/
def cursor_value_uint32.S (a0 : AVal) (G : Heap) (Q : AVal → Heap → Prop) : Prop :=
  wv (vlen T G t_string a0) fun v1 => ∀ R2 : List AVal → Heap → Prop,
  (∀ (x4 x5 x6 x7 : AVal) (G3 : Heap), (wv (vbin T .lss t_int x7 x6) fun v8 => brB (some v8)
  (wv (vbin T .shl t_uint64 x5 (.int .u64 8)) fun v9 => wv (vindex T t_string x4 x7) fun v10 => wv (vconv T G3 t_uint8 t_uint64 v10) fun v11 => wv (vbin T .or t_uint64 v9 v11) fun v12 => wv (vbin T .add t_int x7 (.int .i64 1)) fun v13 => R2 [x4, v12, x6, v13] G3)
  (wv (vconv T G3 t_uint64 t_uint32 x5) fun v14 => Q v14 G3)) → R2 [x4, x5, x6, x7] G3) →
  R2 [a0, .int .u64 0, v1, .int .i64 0] G
def cursor_value_uint32.an : Ann := .two (.nil) (.two (.nil) (.two (.two (.nil) (.loop [0, 3, 6, 7] (.nil))) (.nil)))
set_option maxRecDepth 100000 in
theorem cursor_value_uint32.sound {a0 : AVal} {G : Heap} {Q : AVal → Heap → Prop} (h : cursor_value_uint32.S a0 G Q) : ACalls P cursor_value_uint32.n [a0] G Q := by
  have e : cursor_value_uint32.S a0 G Q = awp cx (cursor_value_uint32.body) cursor_value_uint32.an (bodyQ T [.tmp 2] Q) (envL [a0]) G := by kernel_rfl
  exact ACalls_of_awp cxOk (f := cursor_value_uint32.n) (fn := Try.f43) (c := cursor_value_uint32.body) (an := cursor_value_uint32.an) Try.func43 (by kernel_rfl) (by kernel_rfl) (by kernel_rfl) (drawsOk_of (by kernel_rfl) (by kernel_rfl)) (by simp [Try.f43]) (e ▸ h)

/-! #### (*escrow/cursor.Reader).U32 -/
def cursor_Reader_U32.S (a0 : AVal) (G : Heap) (Q : AVal → Heap → Prop) : Prop :=
  ACalls P cursor_Reader_take.n [a0, .int .i64 4] G fun v1 G2 => ACalls P cursor_value_uint32.n [v1] G2 fun v3 G4 => Q v3 G4
def cursor_Reader_U32.an : Ann := .nil
set_option maxRecDepth 100000 in
theorem cursor_Reader_U32.sound {a0 : AVal} {G : Heap} {Q : AVal → Heap → Prop} (h : cursor_Reader_U32.S a0 G Q) : ACalls P cursor_Reader_U32.n [a0] G Q := by
  have e : cursor_Reader_U32.S a0 G Q = awp cx (cursor_Reader_U32.body) cursor_Reader_U32.an (bodyQ T [.tmp 2] Q) (envL [a0]) G := by kernel_rfl
  exact ACalls_of_awp cxOk (f := cursor_Reader_U32.n) (fn := Try.f31) (c := cursor_Reader_U32.body) (an := cursor_Reader_U32.an) Try.func31 (by kernel_rfl) (by kernel_rfl) (by kernel_rfl) (drawsOk_of (by kernel_rfl) (by kernel_rfl)) (by simp [Try.f31]) (e ▸ h)

/-! #### escrow/cursor.value[uint64] -/
def cursor_value_uint64.S (a0 : AVal) (G : Heap) (Q : AVal → Heap → Prop) : Prop :=
  wv (vlen T G t_string a0) fun v1 => ∀ R2 : List AVal → Heap → Prop,
  (∀ (x4 x5 x6 x7 : AVal) (G3 : Heap), (wv (vbin T .lss t_int x7 x6) fun v8 => brB (some v8)
  (wv (vbin T .shl t_uint64 x5 (.int .u64 8)) fun v9 => wv (vindex T t_string x4 x7) fun v10 => wv (vconv T G3 t_uint8 t_uint64 v10) fun v11 => wv (vbin T .or t_uint64 v9 v11) fun v12 => wv (vbin T .add t_int x7 (.int .i64 1)) fun v13 => R2 [x4, v12, x6, v13] G3)
  (Q x5 G3)) → R2 [x4, x5, x6, x7] G3) →
  R2 [a0, .int .u64 0, v1, .int .i64 0] G
def cursor_value_uint64.an : Ann := .two (.nil) (.two (.nil) (.two (.two (.nil) (.loop [0, 3, 6, 7] (.nil))) (.nil)))
set_option maxRecDepth 100000 in
theorem cursor_value_uint64.sound {a0 : AVal} {G : Heap} {Q : AVal → Heap → Prop} (h : cursor_value_uint64.S a0 G Q) : ACalls P cursor_value_uint64.n [a0] G Q := by
  have e : cursor_value_uint64.S a0 G Q = awp cx (cursor_value_uint64.body) cursor_value_uint64.an (bodyQ T [.tmp 2] Q) (envL [a0]) G := by kernel_rfl
  exact ACalls_of_awp cxOk (f := cursor_value_uint64.n) (fn := Try.f44) (c := cursor_value_uint64.body) (an := cursor_value_uint64.an) Try.func44 (by kernel_rfl) (by kernel_rfl) (by kernel_rfl) (drawsOk_of (by kernel_rfl) (by kernel_rfl)) (by simp [Try.f44]) (e ▸ h)

/-! #### (*escrow/cursor.Reader).U64 -/
def cursor_Reader_U64.S (a0 : AVal) (G : Heap) (Q : AVal → Heap → Prop) : Prop :=
  ACalls P cursor_Reader_take.n [a0, .int .i64 8] G fun v1 G2 => ACalls P cursor_value_uint64.n [v1] G2 fun v3 G4 => Q v3 G4
def cursor_Reader_U64.an : Ann := .nil
set_option maxRecDepth 100000 in
theorem cursor_Reader_U64.sound {a0 : AVal} {G : Heap} {Q : AVal → Heap → Prop} (h : cursor_Reader_U64.S a0 G Q) : ACalls P cursor_Reader_U64.n [a0] G Q := by
  have e : cursor_Reader_U64.S a0 G Q = awp cx (cursor_Reader_U64.body) cursor_Reader_U64.an (bodyQ T [.tmp 2] Q) (envL [a0]) G := by kernel_rfl
  exact ACalls_of_awp cxOk (f := cursor_Reader_U64.n) (fn := Try.f32) (c := cursor_Reader_U64.body) (an := cursor_Reader_U64.an) Try.func32 (by kernel_rfl) (by kernel_rfl) (by kernel_rfl) (drawsOk_of (by kernel_rfl) (by kernel_rfl)) (by simp [Try.f32]) (e ▸ h)

/-! #### (*escrow/cursor.Reader).I64 -/
def cursor_Reader_I64.S (a0 : AVal) (G : Heap) (Q : AVal → Heap → Prop) : Prop :=
  ACalls P cursor_Reader_take.n [a0, .int .i64 8] G fun v1 G2 => ACalls P cursor_value_uint64.n [v1] G2 fun v3 G4 => wv (vconv T G4 t_uint64 t_int64 v3) fun v5 => Q v5 G4
def cursor_Reader_I64.an : Ann := .nil
set_option maxRecDepth 100000 in
theorem cursor_Reader_I64.sound {a0 : AVal} {G : Heap} {Q : AVal → Heap → Prop} (h : cursor_Reader_I64.S a0 G Q) : ACalls P cursor_Reader_I64.n [a0] G Q := by
  have e : cursor_Reader_I64.S a0 G Q = awp cx (cursor_Reader_I64.body) cursor_Reader_I64.an (bodyQ T [.tmp 2] Q) (envL [a0]) G := by kernel_rfl
  exact ACalls_of_awp cxOk (f := cursor_Reader_I64.n) (fn := Try.f33) (c := cursor_Reader_I64.body) (an := cursor_Reader_I64.an) Try.func33 (by kernel_rfl) (by kernel_rfl) (by kernel_rfl) (drawsOk_of (by kernel_rfl) (by kernel_rfl)) (by simp [Try.f33]) (e ▸ h)

/-! #### (*escrow/cursor.Reader).Hash -/
def cursor_Reader_Hash.S (a0 : AVal) (G : Heap) (Q : AVal → Heap → Prop) : Prop :=
  aNew G (.own (z_api_Hash)) fun i1 G2 => aNew G2 (.own (z_api_Hash)) fun i3 G4 => wv (vslice T t_api_Hash (.ptr i3 [] 0) none none none) fun v5 => ACalls P cursor_Reader_take.n [a0, .int .i64 32] G4 fun v6 G7 => aCopy T G7 t_sl_uint8 v5 v6 fun v8 G9 => wv (vload T G9 t_api_Hash (.ptr i3 [] 0)) fun v10 => wg (vstore T G9 t_api_Hash (.ptr i1 [] 0) v10) fun G11 => wv (vload T G11 t_api_Hash (.ptr i1 [] 0)) fun v12 => Q v12 G11
def cursor_Reader_Hash.an : Ann := .two (.nil) (.two (.nil) (.two (.ord [(0, []), (1, []), (2, []), (3, [])]) (.nil)))
set_option maxRecDepth 100000 in
theorem cursor_Reader_Hash.sound {a0 : AVal} {G : Heap} {Q : AVal → Heap → Prop} (h : cursor_Reader_Hash.S a0 G Q) : ACalls P cursor_Reader_Hash.n [a0] G Q := by
  have e : cursor_Reader_Hash.S a0 G Q = awp cx (cursor_Reader_Hash.body) cursor_Reader_Hash.an (bodyQ T [.cell 2 29] Q) (envL [a0]) G := by kernel_rfl
  exact ACalls_of_awp cxOk (f := cursor_Reader_Hash.n) (fn := Try.f34) (c := cursor_Reader_Hash.body) (an := cursor_Reader_Hash.an) Try.func34 (by kernel_rfl) (by kernel_rfl) (by kernel_rfl) (drawsOk_of (by kernel_rfl) (by kernel_rfl)) (by simp [Try.f34]) (e ▸ h)

/-! #### escrow/escrowlaw03.again -/
def escrowlaw03_again.S (a0 a1 : AVal) (G : Heap) (Q : AVal → Heap → Prop) : Prop :=
  aNew G (.own (a1)) fun i1 G2 => wv (vload T G2 t_escrowlaw03_Val (.ptr i1 [] 0)) fun v3 => ACalls P escrowlaw03_Val_kind.n [v3] G2 fun v4 G5 => wv (vbin T .eql t_int v4 (.int .i64 0)) fun v6 => brB (some v6)
  (wv (vload T G5 t_uint64 (.ptr i1 [1] 1)) fun v7 => wv (vconv T G5 t_uint64 t_uint8 v7) fun v8 => ACalls P cursor_Reader_U8.n [a0] G5 fun v9 G10 => (vload T G10 t_uint64 (.ptr i1 [1] 1) = some v7 ∧ True) ∧ (wv (vbin T .eql t_uint8 v9 v8) fun v11 => Q v11 G10))
  (wv (vbin T .eql t_int v4 (.int .i64 1)) fun v12 => brB (some v12)
  (wv (vload T G5 t_uint64 (.ptr i1 [1] 1)) fun v13 => wv (vconv T G5 t_uint64 t_uint16 v13) fun v14 => ACalls P cursor_Reader_U16.n [a0] G5 fun v15 G16 => (vload T G16 t_uint64 (.ptr i1 [1] 1) = some v13 ∧ True) ∧ (wv (vbin T .eql t_uint16 v15 v14) fun v17 => Q v17 G16))
  (wv (vbin T .eql t_int v4 (.int .i64 2)) fun v18 => brB (some v18)
  (wv (vload T G5 t_uint64 (.ptr i1 [1] 1)) fun v19 => wv (vconv T G5 t_uint64 t_uint32 v19) fun v20 => ACalls P cursor_Reader_U32.n [a0] G5 fun v21 G22 => (vload T G22 t_uint64 (.ptr i1 [1] 1) = some v19 ∧ True) ∧ (wv (vbin T .eql t_uint32 v21 v20) fun v23 => Q v23 G22))
  (wv (vbin T .eql t_int v4 (.int .i64 3)) fun v24 => brB (some v24)
  (wv (vload T G5 t_uint64 (.ptr i1 [1] 1)) fun v25 => ACalls P cursor_Reader_U64.n [a0] G5 fun v26 G27 => (vload T G27 t_uint64 (.ptr i1 [1] 1) = some v25 ∧ True) ∧ (wv (vbin T .eql t_uint64 v26 v25) fun v28 => Q v28 G27))
  (wv (vbin T .eql t_int v4 (.int .i64 4)) fun v29 => brB (some v29)
  (wv (vload T G5 t_int64 (.ptr i1 [2] 2)) fun v30 => ACalls P cursor_Reader_I64.n [a0] G5 fun v31 G32 => (vload T G32 t_int64 (.ptr i1 [2] 2) = some v30 ∧ True) ∧ (wv (vbin T .eql t_int64 v31 v30) fun v33 => Q v33 G32))
  (wv (vbin T .eql t_int v4 (.int .i64 5)) fun v34 => brB (some v34)
  (wv (vload T G5 t_api_Hash (.ptr i1 [3] 3)) fun v35 => ACalls P cursor_Reader_Hash.n [a0] G5 fun v36 G37 => (vload T G37 t_api_Hash (.ptr i1 [3] 3) = some v35 ∧ True) ∧ (wv (vbin T .eql t_api_Hash v36 v35) fun v38 => Q v38 G37))
  (wv (vbin T .eql t_int v4 (.int .i64 6)) fun v39 => brB (some v39)
  (wv (vload T G5 t_escrowlaw03_Val (.ptr i1 [] 0)) fun v40 => wv (vload T G5 t_escrowlaw03_Val (.ptr i1 [] 0)) fun v41 => ACalls P escrowlaw03_Val_text.n [v40] G5 fun v42 G43 => (vload T G43 t_escrowlaw03_Val (.ptr i1 [] 0) = some v41 ∧ True) ∧ (wv (vlen T G43 t_string v42) fun v44 => ACalls P cursor_Reader_Text.n [a0, v44] G43 fun v45 G46 => (vload T G46 t_escrowlaw03_Val (.ptr i1 [] 0) = some v41 ∧ True) ∧ (ACalls P escrowlaw03_Val_text.n [v41] G46 fun v47 G48 => wv (vbin T .eql t_string v45 v47) fun v49 => Q v49 G48)))
  (wv (vload T G5 t_escrowlaw03_Val (.ptr i1 [] 0)) fun v50 => wv (vload T G5 t_escrowlaw03_Val (.ptr i1 [] 0)) fun v51 => ACalls P escrowlaw03_Val_text.n [v50] G5 fun v52 G53 => (vload T G53 t_escrowlaw03_Val (.ptr i1 [] 0) = some v51 ∧ True) ∧ (wv (vlen T G53 t_string v52) fun v54 => ACalls P cursor_Reader_Raw.n [a0, v54] G53 fun v55 G56 => (vload T G56 t_escrowlaw03_Val (.ptr i1 [] 0) = some v51 ∧ True) ∧ (ACalls P escrowlaw03_Val_text.n [v51] G56 fun v57 G58 => wv (vbin T .eql t_string v55 v57) fun v59 => Q v59 G58)))))))))
def escrowlaw03_again.an : Ann := .two (.nil) (.two (.two (.nil) (.two (.nil) (.two (.two (.ord [(0, []), (2, []), (3, []), (4, []), (1, [3]), (5, []), (6, [])]) (.nil)) (.two (.nil) (.two (.two (.ord [(0, []), (2, []), (3, []), (4, []), (1, [3]), (5, []), (6, [])]) (.nil)) (.two (.nil) (.two (.two (.ord [(0, []), (2, []), (3, []), (4, []), (1, [3]), (5, []), (6, [])]) (.nil)) (.two (.nil) (.two (.two (.ord [(0, []), (2, []), (3, []), (1, [3]), (4, []), (5, [])]) (.nil)) (.two (.nil) (.two (.two (.ord [(0, []), (2, []), (3, []), (1, [3]), (4, []), (5, [])]) (.nil)) (.two (.nil) (.two (.two (.ord [(0, []), (2, []), (3, []), (1, [3]), (4, []), (5, [])]) (.nil)) (.two (.nil) (.two (.two (.ord [(0, []), (1, []), (5, []), (2, [5]), (3, []), (4, [5]), (6, []), (7, []), (8, [])]) (.nil)) (.nil)))))))))))))))) (.two (.ord [(0, []), (1, []), (5, []), (2, [5]), (3, []), (4, [5]), (6, []), (7, []), (8, [])]) (.nil)))
set_option maxRecDepth 100000 in
theorem escrowlaw03_again.sound {a0 a1 : AVal} {G : Heap} {Q : AVal → Heap → Prop} (h : escrowlaw03_again.S a0 a1 G Q) : ACalls P escrowlaw03_again.n [a0, a1] G Q := by
  have e : escrowlaw03_again.S a0 a1 G Q = awp cx (escrowlaw03_again.body) escrowlaw03_again.an (bodyQ T [.tmp 4] Q) (envL [a0, a1]) G := by kernel_rfl
  exact ACalls_of_awp cxOk (f := escrowlaw03_again.n) (fn := Try.f12) (c := escrowlaw03_again.body) (an := escrowlaw03_again.an) Try.func12 (by kernel_rfl) (by kernel_rfl) (by kernel_rfl) (drawsOk_of (by kernel_rfl) (by kernel_rfl)) (by simp [Try.f12]) (e ▸ h)

end Go.Esc.M
