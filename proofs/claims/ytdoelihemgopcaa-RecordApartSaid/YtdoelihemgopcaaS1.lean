/- Printed by gen.py (own work): functions of the program Ytdoelihemgopcaa over trees and the abstract heap. -/
import Derived.Test.YtdoelihemgopcaaT
set_option linter.unusedSimpArgs false
set_option linter.unusedVariables false
namespace Go.Esc.M
open Go Go.Esc Go.Proofs

/-! #### escrow/cursor.value[uint8] -/
def cursor_value_uint8.S (a0 : AVal) (G : Heap) (Q : AVal → Heap → Prop) : Prop :=
  wv (vlen T G t_string a0) fun v1 => ∀ R2 : List AVal → Heap → Prop,
  (∀ (x4 x5 x6 x7 : AVal) (G3 : Heap), (wv (vbin T .lss t_int x7 x6) fun v8 => brB (some v8)
  (wv (vbin T .shl t_uint64 x5 (.int .u64 8)) fun v9 => wv (vindex T t_string x4 x7) fun v10 => wv (vconv T G3 t_uint8 t_uint64 v10) fun v11 => wv (vbin T .or t_uint64 v9 v11) fun v12 => wv (vbin T .add t_int x7 (.int .i64 1)) fun v13 => R2 [x4, v12, x6, v13] G3)
  (wv (vconv T G3 t_uint64 t_uint8 x5) fun v14 => Q v14 G3)) → R2 [x4, x5, x6, x7] G3) →
  R2 [a0, .int .u64 0, v1, .int .i64 0] G
def cursor_value_uint8.an : Ann := .two (.nil) (.two (.nil) (.two (.two (.nil) (.loop [0, 3, 6, 7] [false, false, false, false] (.nil))) (.nil)))
set_option maxRecDepth 100000 in
theorem cursor_value_uint8.sound {a0 : AVal} {G : Heap} {Q : AVal → Heap → Prop} (h : cursor_value_uint8.S a0 G Q) : ACalls P cursor_value_uint8.n [a0] G Q := by
  have e : cursor_value_uint8.S a0 G Q = awp cx (cursor_value_uint8.body) cursor_value_uint8.an (bodyQ T [.tmp 2] Q) (envL [a0]) G := by kernel_rfl
  exact ACalls_of_awp cxOk (f := cursor_value_uint8.n) (fn := Try.f30) (c := cursor_value_uint8.body) (an := cursor_value_uint8.an) Try.func30 (by kernel_rfl) (by kernel_rfl) (by kernel_rfl) (drawsOk_of (by kernel_rfl) (by kernel_rfl)) (by simp [Try.f30]) (e ▸ h)

/-! #### (*escrow/cursor.Reader).breaks -/
def cursor_Reader_breaks.S (a0 a1 : AVal) (G : Heap) (Q : AVal → Heap → Prop) : Prop :=
  wv (vnil a0) fun v1 => wv (vfaddr T t_cursor_Reader v1 0) fun v2 => wg (vstore T G t_string v2 (.str [])) fun G3 => wv (vnil a0) fun v4 => wv (vfaddr T t_cursor_Reader v4 1) fun v5 => wg (vstore T G3 t_api_Errno v5 a1) fun G6 => Q (.tuple []) G6
def cursor_Reader_breaks.an : Ann := .nil
set_option maxRecDepth 100000 in
theorem cursor_Reader_breaks.sound {a0 a1 : AVal} {G : Heap} {Q : AVal → Heap → Prop} (h : cursor_Reader_breaks.S a0 a1 G Q) : ACalls P cursor_Reader_breaks.n [a0, a1] G Q := by
  have e : cursor_Reader_breaks.S a0 a1 G Q = awp cx (cursor_Reader_breaks.body) cursor_Reader_breaks.an (bodyQ T [] Q) (envL [a0, a1]) G := by kernel_rfl
  exact ACalls_of_awp cxOk (f := cursor_Reader_breaks.n) (fn := Try.f36) (c := cursor_Reader_breaks.body) (an := cursor_Reader_breaks.an) Try.func36 (by kernel_rfl) (by kernel_rfl) (by kernel_rfl) (drawsOk_of (by kernel_rfl) (by kernel_rfl)) (by simp [Try.f36]) (e ▸ h)

/-! #### (*escrow/cursor.Reader).take -/
def cursor_Reader_take.S (a0 a1 : AVal) (G : Heap) (Q : AVal → Heap → Prop) : Prop :=
  wv (vnil a0) fun v1 => wv (vfaddr T t_cursor_Reader v1 1) fun v2 => wv (vload T G t_api_Errno v2) fun v3 => wv (vbin T .neq t_api_Errno v3 (.int .i64 0)) fun v4 => brB (some v4)
  (Q (.str []) G)
  (wv (vnil a0) fun v5 => wv (vfaddr T t_cursor_Reader v5 0) fun v6 => wv (vload T G t_string v6) fun v7 => wv (vlen T G t_string v7) fun v8 => wv (vbin T .lss t_int v8 a1) fun v9 => brB (some v9)
  (ACalls P cursor_Reader_breaks.n [a0, .int .i64 2] G fun v10 G11 => Q (.str []) G11)
  (wv (vnil a0) fun v12 => wv (vfaddr T t_cursor_Reader v12 0) fun v13 => wv (vload T G t_string v13) fun v14 => wv (vslice T t_string v14 none (some (a1)) none) fun v15 => wv (vnil a0) fun v16 => wv (vfaddr T t_cursor_Reader v16 0) fun v17 => wv (vload T G t_string v17) fun v18 => wv (vslice T t_string v18 (some (a1)) none none) fun v19 => wv (vnil a0) fun v20 => wv (vfaddr T t_cursor_Reader v20 0) fun v21 => wg (vstore T G t_string v21 v19) fun G22 => Q v15 G22))
def cursor_Reader_take.an : Ann := .nil
set_option maxRecDepth 100000 in
theorem cursor_Reader_take.sound {a0 a1 : AVal} {G : Heap} {Q : AVal → Heap → Prop} (h : cursor_Reader_take.S a0 a1 G Q) : ACalls P cursor_Reader_take.n [a0, a1] G Q := by
  have e : cursor_Reader_take.S a0 a1 G Q = awp cx (cursor_Reader_take.body) cursor_Reader_take.an (bodyQ T [.tmp 4] Q) (envL [a0, a1]) G := by kernel_rfl
  exact ACalls_of_awp cxOk (f := cursor_Reader_take.n) (fn := Try.f31) (c := cursor_Reader_take.body) (an := cursor_Reader_take.an) Try.func31 (by kernel_rfl) (by kernel_rfl) (by kernel_rfl) (drawsOk_of (by kernel_rfl) (by kernel_rfl)) (by simp [Try.f31]) (e ▸ h)

/-! #### (*escrow/cursor.Reader).U8 -/
def cursor_Reader_U8.S (a0 : AVal) (G : Heap) (Q : AVal → Heap → Prop) : Prop :=
  ACalls P cursor_Reader_take.n [a0, .int .i64 1] G fun v1 G2 => ACalls P cursor_value_uint8.n [v1] G2 fun v3 G4 => Q v3 G4
def cursor_Reader_U8.an : Ann := .nil
set_option maxRecDepth 100000 in
theorem cursor_Reader_U8.sound {a0 : AVal} {G : Heap} {Q : AVal → Heap → Prop} (h : cursor_Reader_U8.S a0 G Q) : ACalls P cursor_Reader_U8.n [a0] G Q := by
  have e : cursor_Reader_U8.S a0 G Q = awp cx (cursor_Reader_U8.body) cursor_Reader_U8.an (bodyQ T [.tmp 2] Q) (envL [a0]) G := by kernel_rfl
  exact ACalls_of_awp cxOk (f := cursor_Reader_U8.n) (fn := Try.f18) (c := cursor_Reader_U8.body) (an := cursor_Reader_U8.an) Try.func18 (by kernel_rfl) (by kernel_rfl) (by kernel_rfl) (drawsOk_of (by kernel_rfl) (by kernel_rfl)) (by simp [Try.f18]) (e ▸ h)

/-! #### (*escrow/cursor.Reader).Rest -/
def cursor_Reader_Rest.S (a0 : AVal) (G : Heap) (Q : AVal → Heap → Prop) : Prop :=
  wv (vnil a0) fun v1 => wv (vfaddr T t_cursor_Reader v1 0) fun v2 => wv (vload T G t_string v2) fun v3 => Q v3 G
def cursor_Reader_Rest.an : Ann := .nil
set_option maxRecDepth 100000 in
theorem cursor_Reader_Rest.sound {a0 : AVal} {G : Heap} {Q : AVal → Heap → Prop} (h : cursor_Reader_Rest.S a0 G Q) : ACalls P cursor_Reader_Rest.n [a0] G Q := by
  have e : cursor_Reader_Rest.S a0 G Q = awp cx (cursor_Reader_Rest.body) cursor_Reader_Rest.an (bodyQ T [.tmp 2] Q) (envL [a0]) G := by kernel_rfl
  exact ACalls_of_awp cxOk (f := cursor_Reader_Rest.n) (fn := Try.f20) (c := cursor_Reader_Rest.body) (an := cursor_Reader_Rest.an) Try.func20 (by kernel_rfl) (by kernel_rfl) (by kernel_rfl) (drawsOk_of (by kernel_rfl) (by kernel_rfl)) (by simp [Try.f20]) (e ▸ h)

/-! #### escrow/cursor.value[uint64] -/
def cursor_value_uint64.S (a0 : AVal) (G : Heap) (Q : AVal → Heap → Prop) : Prop :=
  wv (vlen T G t_string a0) fun v1 => ∀ R2 : List AVal → Heap → Prop,
  (∀ (x4 x5 x6 x7 : AVal) (G3 : Heap), (wv (vbin T .lss t_int x7 x6) fun v8 => brB (some v8)
  (wv (vbin T .shl t_uint64 x5 (.int .u64 8)) fun v9 => wv (vindex T t_string x4 x7) fun v10 => wv (vconv T G3 t_uint8 t_uint64 v10) fun v11 => wv (vbin T .or t_uint64 v9 v11) fun v12 => wv (vbin T .add t_int x7 (.int .i64 1)) fun v13 => R2 [x4, v12, x6, v13] G3)
  (Q x5 G3)) → R2 [x4, x5, x6, x7] G3) →
  R2 [a0, .int .u64 0, v1, .int .i64 0] G
def cursor_value_uint64.an : Ann := .two (.nil) (.two (.nil) (.two (.two (.nil) (.loop [0, 3, 6, 7] [false, false, false, false] (.nil))) (.nil)))
set_option maxRecDepth 100000 in
theorem cursor_value_uint64.sound {a0 : AVal} {G : Heap} {Q : AVal → Heap → Prop} (h : cursor_value_uint64.S a0 G Q) : ACalls P cursor_value_uint64.n [a0] G Q := by
  have e : cursor_value_uint64.S a0 G Q = awp cx (cursor_value_uint64.body) cursor_value_uint64.an (bodyQ T [.tmp 2] Q) (envL [a0]) G := by kernel_rfl
  exact ACalls_of_awp cxOk (f := cursor_value_uint64.n) (fn := Try.f33) (c := cursor_value_uint64.body) (an := cursor_value_uint64.an) Try.func33 (by kernel_rfl) (by kernel_rfl) (by kernel_rfl) (drawsOk_of (by kernel_rfl) (by kernel_rfl)) (by simp [Try.f33]) (e ▸ h)

/-! #### (*escrow/cursor.Reader).I64 -/
def cursor_Reader_I64.S (a0 : AVal) (G : Heap) (Q : AVal → Heap → Prop) : Prop :=
  ACalls P cursor_Reader_take.n [a0, .int .i64 8] G fun v1 G2 => ACalls P cursor_value_uint64.n [v1] G2 fun v3 G4 => wv (vconv T G4 t_uint64 t_int64 v3) fun v5 => Q v5 G4
def cursor_Reader_I64.an : Ann := .nil
set_option maxRecDepth 100000 in
theorem cursor_Reader_I64.sound {a0 : AVal} {G : Heap} {Q : AVal → Heap → Prop} (h : cursor_Reader_I64.S a0 G Q) : ACalls P cursor_Reader_I64.n [a0] G Q := by
  have e : cursor_Reader_I64.S a0 G Q = awp cx (cursor_Reader_I64.body) cursor_Reader_I64.an (bodyQ T [.tmp 2] Q) (envL [a0]) G := by kernel_rfl
  exact ACalls_of_awp cxOk (f := cursor_Reader_I64.n) (fn := Try.f21) (c := cursor_Reader_I64.body) (an := cursor_Reader_I64.an) Try.func21 (by kernel_rfl) (by kernel_rfl) (by kernel_rfl) (drawsOk_of (by kernel_rfl) (by kernel_rfl)) (by simp [Try.f21]) (e ▸ h)

/-! #### escrow/cursor.value[uint16] -/
def cursor_value_uint16.S (a0 : AVal) (G : Heap) (Q : AVal → Heap → Prop) : Prop :=
  wv (vlen T G t_string a0) fun v1 => ∀ R2 : List AVal → Heap → Prop,
  (∀ (x4 x5 x6 x7 : AVal) (G3 : Heap), (wv (vbin T .lss t_int x7 x6) fun v8 => brB (some v8)
  (wv (vbin T .shl t_uint64 x5 (.int .u64 8)) fun v9 => wv (vindex T t_string x4 x7) fun v10 => wv (vconv T G3 t_uint8 t_uint64 v10) fun v11 => wv (vbin T .or t_uint64 v9 v11) fun v12 => wv (vbin T .add t_int x7 (.int .i64 1)) fun v13 => R2 [x4, v12, x6, v13] G3)
  (wv (vconv T G3 t_uint64 t_uint16 x5) fun v14 => Q v14 G3)) → R2 [x4, x5, x6, x7] G3) →
  R2 [a0, .int .u64 0, v1, .int .i64 0] G
def cursor_value_uint16.an : Ann := .two (.nil) (.two (.nil) (.two (.two (.nil) (.loop [0, 3, 6, 7] [false, false, false, false] (.nil))) (.nil)))
set_option maxRecDepth 100000 in
theorem cursor_value_uint16.sound {a0 : AVal} {G : Heap} {Q : AVal → Heap → Prop} (h : cursor_value_uint16.S a0 G Q) : ACalls P cursor_value_uint16.n [a0] G Q := by
  have e : cursor_value_uint16.S a0 G Q = awp cx (cursor_value_uint16.body) cursor_value_uint16.an (bodyQ T [.tmp 2] Q) (envL [a0]) G := by kernel_rfl
  exact ACalls_of_awp cxOk (f := cursor_value_uint16.n) (fn := Try.f34) (c := cursor_value_uint16.body) (an := cursor_value_uint16.an) Try.func34 (by kernel_rfl) (by kernel_rfl) (by kernel_rfl) (drawsOk_of (by kernel_rfl) (by kernel_rfl)) (by simp [Try.f34]) (e ▸ h)

/-! #### (*escrow/cursor.Reader).U16 -/
def cursor_Reader_U16.S (a0 : AVal) (G : Heap) (Q : AVal → Heap → Prop) : Prop :=
  ACalls P cursor_Reader_take.n [a0, .int .i64 2] G fun v1 G2 => ACalls P cursor_value_uint16.n [v1] G2 fun v3 G4 => Q v3 G4
def cursor_Reader_U16.an : Ann := .nil
set_option maxRecDepth 100000 in
theorem cursor_Reader_U16.sound {a0 : AVal} {G : Heap} {Q : AVal → Heap → Prop} (h : cursor_Reader_U16.S a0 G Q) : ACalls P cursor_Reader_U16.n [a0] G Q := by
  have e : cursor_Reader_U16.S a0 G Q = awp cx (cursor_Reader_U16.body) cursor_Reader_U16.an (bodyQ T [.tmp 2] Q) (envL [a0]) G := by kernel_rfl
  exact ACalls_of_awp cxOk (f := cursor_Reader_U16.n) (fn := Try.f22) (c := cursor_Reader_U16.body) (an := cursor_Reader_U16.an) Try.func22 (by kernel_rfl) (by kernel_rfl) (by kernel_rfl) (drawsOk_of (by kernel_rfl) (by kernel_rfl)) (by simp [Try.f22]) (e ▸ h)

/-! #### (*escrow/cursor.Reader).Err -/
def cursor_Reader_Err.S (a0 : AVal) (G : Heap) (Q : AVal → Heap → Prop) : Prop :=
  wv (vnil a0) fun v1 => wv (vfaddr T t_cursor_Reader v1 1) fun v2 => wv (vload T G t_api_Errno v2) fun v3 => Q v3 G
def cursor_Reader_Err.an : Ann := .nil
set_option maxRecDepth 100000 in
theorem cursor_Reader_Err.sound {a0 : AVal} {G : Heap} {Q : AVal → Heap → Prop} (h : cursor_Reader_Err.S a0 G Q) : ACalls P cursor_Reader_Err.n [a0] G Q := by
  have e : cursor_Reader_Err.S a0 G Q = awp cx (cursor_Reader_Err.body) cursor_Reader_Err.an (bodyQ T [.tmp 2] Q) (envL [a0]) G := by kernel_rfl
  exact ACalls_of_awp cxOk (f := cursor_Reader_Err.n) (fn := Try.f23) (c := cursor_Reader_Err.body) (an := cursor_Reader_Err.an) Try.func23 (by kernel_rfl) (by kernel_rfl) (by kernel_rfl) (drawsOk_of (by kernel_rfl) (by kernel_rfl)) (by simp [Try.f23]) (e ▸ h)

/-! #### (*escrow/cursor.Reader).Hash -/
def cursor_Reader_Hash.S (a0 : AVal) (G : Heap) (Q : AVal → Heap → Prop) : Prop :=
  aNew G (.own (z_api_Hash)) fun i1 G2 => aNew G2 (.own (z_api_Hash)) fun i3 G4 => wv (vslice T t_api_Hash (.ptr i3 [] 0) none none none) fun v5 => ACalls P cursor_Reader_take.n [a0, .int .i64 32] G4 fun v6 G7 => aCopy T G7 t_sl_uint8 v5 v6 fun v8 G9 => wv (vload T G9 t_api_Hash (.ptr i3 [] 0)) fun v10 => wg (vstore T G9 t_api_Hash (.ptr i1 [] 0) v10) fun G11 => wv (vload T G11 t_api_Hash (.ptr i1 [] 0)) fun v12 => Q v12 G11
def cursor_Reader_Hash.an : Ann := .two (.nil) (.two (.nil) (.two (.ord [(0, []), (1, []), (2, []), (3, [])]) (.nil)))
set_option maxRecDepth 100000 in
theorem cursor_Reader_Hash.sound {a0 : AVal} {G : Heap} {Q : AVal → Heap → Prop} (h : cursor_Reader_Hash.S a0 G Q) : ACalls P cursor_Reader_Hash.n [a0] G Q := by
  have e : cursor_Reader_Hash.S a0 G Q = awp cx (cursor_Reader_Hash.body) cursor_Reader_Hash.an (bodyQ T [.cell 2 28] Q) (envL [a0]) G := by kernel_rfl
  exact ACalls_of_awp cxOk (f := cursor_Reader_Hash.n) (fn := Try.f24) (c := cursor_Reader_Hash.body) (an := cursor_Reader_Hash.an) Try.func24 (by kernel_rfl) (by kernel_rfl) (by kernel_rfl) (drawsOk_of (by kernel_rfl) (by kernel_rfl)) (by simp [Try.f24]) (e ▸ h)

/-! #### (*escrow/cursor.Reader).Text -/
def cursor_Reader_Text.S (a0 a1 : AVal) (G : Heap) (Q : AVal → Heap → Prop) : Prop :=
  let J44 : AVal → Heap → Prop := (fun x19 G18 => brB (some x19)
  (ACalls P cursor_Reader_breaks.n [a0, .int .i64 3] G18 fun v20 G21 => ACalls P cursor_Reader_take.n [a0, .int .i64 2] G21 fun v30 G31 => ACalls P cursor_value_uint16.n [v30] G31 fun v32 G33 => wv (vconv T G33 t_uint16 t_int v32) fun v34 => ACalls P cursor_Reader_take.n [a0, v34] G33 fun v35 G36 => Q v35 G36)
  (ACalls P cursor_Reader_take.n [a0, .int .i64 2] G18 fun v37 G38 => ACalls P cursor_value_uint16.n [v37] G38 fun v39 G40 => wv (vconv T G40 t_uint16 t_int v39) fun v41 => ACalls P cursor_Reader_take.n [a0, v41] G40 fun v42 G43 => Q v42 G43));
  wv (vnil a0) fun v1 => wv (vfaddr T t_cursor_Reader v1 1) fun v2 => wv (vload T G t_api_Errno v2) fun v3 => wv (vbin T .eql t_api_Errno v3 (.int .i64 0)) fun v4 => brB (some v4)
  (wv (vnil a0) fun v5 => wv (vfaddr T t_cursor_Reader v5 0) fun v6 => wv (vload T G t_string v6) fun v7 => wv (vlen T G t_string v7) fun v8 => wv (vbin T .geq t_int v8 (.int .i64 2)) fun v9 => brB (some v9)
  (wv (vnil a0) fun v10 => wv (vfaddr T t_cursor_Reader v10 0) fun v11 => wv (vload T G t_string v11) fun v12 => wv (vslice T t_string v12 none (some (.int .i64 2)) none) fun v13 => ACalls P cursor_value_uint16.n [v13] G fun v14 G15 => wv (vconv T G15 t_uint16 t_int v14) fun v16 => wv (vbin T .gtr t_int v16 a1) fun v17 => J44 v17 G15)
  (J44 (.bool false) G))
  (J44 (.bool false) G)
def cursor_Reader_Text.an : Ann := .nil
set_option maxRecDepth 100000 in
theorem cursor_Reader_Text.sound {a0 a1 : AVal} {G : Heap} {Q : AVal → Heap → Prop} (h : cursor_Reader_Text.S a0 a1 G Q) : ACalls P cursor_Reader_Text.n [a0, a1] G Q := by
  have e : cursor_Reader_Text.S a0 a1 G Q = awp cx (cursor_Reader_Text.body) cursor_Reader_Text.an (bodyQ T [.tmp 4] Q) (envL [a0, a1]) G := by kernel_rfl
  exact ACalls_of_awp cxOk (f := cursor_Reader_Text.n) (fn := Try.f37) (c := cursor_Reader_Text.body) (an := cursor_Reader_Text.an) Try.func37 (by kernel_rfl) (by kernel_rfl) (by kernel_rfl) (drawsOk_of (by kernel_rfl) (by kernel_rfl)) (by simp [Try.f37]) (e ▸ h)

/-! #### escrow/update.fault -/
def update_fault.S (a0 : AVal) (G : Heap) (Q : AVal → Heap → Prop) : Prop :=
  wv (vbin T .eql t_api_Errno a0 (.int .i64 3)) fun v1 => brB (some v1)
  (Q (.int .i64 120) G)
  (Q a0 G)
def update_fault.an : Ann := .nil
set_option maxRecDepth 100000 in
theorem update_fault.sound {a0 : AVal} {G : Heap} {Q : AVal → Heap → Prop} (h : update_fault.S a0 G Q) : ACalls P update_fault.n [a0] G Q := by
  have e : update_fault.S a0 G Q = awp cx (update_fault.body) update_fault.an (bodyQ T [.tmp 2] Q) (envL [a0]) G := by kernel_rfl
  exact ACalls_of_awp cxOk (f := update_fault.n) (fn := Try.f38) (c := update_fault.body) (an := update_fault.an) Try.func38 (by kernel_rfl) (by kernel_rfl) (by kernel_rfl) (drawsOk_of (by kernel_rfl) (by kernel_rfl)) (by simp [Try.f38]) (e ▸ h)

/-! #### escrow/update.Read -/
def update_Read.S (a0 : AVal) (G : Heap) (Q : AVal → Heap → Prop) : Prop :=
  aNew G (.own (z_api_Update)) fun i1 G2 => ACalls P cursor_Open.n [a0] G2 fun v3 G4 => ACalls P cursor_Reader_U8.n [v3] G4 fun v5 G6 => wv (vconv T G6 t_uint8 t_int v5) fun v7 => wv (vbuild T t_api_Update [(0, v7)]) fun v8 => aNew G6 (.own (z_api_Update)) fun i9 G10 => wg (vstore T G10 t_api_Update (.ptr i9 [] 0) v8) fun G11 => let J72 : AVal → Heap → Prop := (fun x20 G19 => brB (some x20)
  (wv (vbuild T t_api_Update []) fun v21 => wg (vstore T G19 t_api_Update (.ptr i1 [] 0) v21) fun G22 => wv (vload T G22 t_api_Update (.ptr i1 [] 0)) fun v23 => Q (.tuple [v23, .int .i64 0, .int .i64 120]) G22)
  (ACalls P cursor_Reader_U16.n [v3] G19 fun v24 G25 => wv (vconv T G25 t_uint16 t_int64 v24) fun v26 => wg (vstore T G25 t_int64 (.ptr i9 [1] 1) v26) fun G27 => wv (vload T G27 t_int (.ptr i9 [0] 0)) fun v28 => let J71 : Heap → Prop := (fun G47 => ACalls P cursor_Reader_Err.n [v3] G47 fun v48 G49 => wv (vbin T .neq t_api_Errno v48 (.int .i64 0)) fun v50 => brB (some v50)
  (wv (vbuild T t_api_Update []) fun v51 => ACalls P update_fault.n [v48] G49 fun v52 G53 => wg (vstore T G53 t_api_Update (.ptr i1 [] 0) v51) fun G54 => wv (vload T G54 t_api_Update (.ptr i1 [] 0)) fun v55 => Q (.tuple [v55, .int .i64 0, v52]) G54)
  (wv (vload T G49 t_api_Update (.ptr i9 [] 0)) fun v56 => ACalls P update_Valid.n [v56] G49 fun v57 G58 => wv (vun .not v57) fun v59 => brB (some v59)
  (wv (vbuild T t_api_Update []) fun v60 => wg (vstore T G58 t_api_Update (.ptr i1 [] 0) v60) fun G61 => wv (vload T G61 t_api_Update (.ptr i1 [] 0)) fun v62 => Q (.tuple [v62, .int .i64 0, .int .i64 120]) G61)
  (wv (vload T G58 t_api_Update (.ptr i9 [] 0)) fun v63 => wv (vlen T G58 t_string a0) fun v64 => ACalls P cursor_Reader_Rest.n [v3] G58 fun v65 G66 => (vload T G66 t_api_Update (.ptr i9 [] 0) = some v63 ∧ True) ∧ (wv (vlen T G66 t_string v65) fun v67 => wv (vbin T .sub t_int v64 v67) fun v68 => wg (vstore T G66 t_api_Update (.ptr i1 [] 0) v63) fun G69 => wv (vload T G69 t_api_Update (.ptr i1 [] 0)) fun v70 => Q (.tuple [v70, v68, .int .i64 0]) G69))));
  wv (vbin T .eql t_int v28 (.int .i64 1)) fun v29 => brB (some v29)
  (ACalls P cursor_Reader_I64.n [v3] G27 fun v30 G31 => wg (vstore T G31 t_int64 (.ptr i9 [2] 2) v30) fun G32 => ACalls P cursor_Reader_Hash.n [v3] G32 fun v33 G34 => wg (vstore T G34 t_api_Hash (.ptr i9 [3] 3) v33) fun G35 => J71 G35)
  (wv (vbin T .eql t_int v28 (.int .i64 2)) fun v36 => brB (some v36)
  (ACalls P cursor_Reader_Hash.n [v3] G27 fun v37 G38 => wg (vstore T G38 t_api_Hash (.ptr i9 [3] 3) v37) fun G39 => J71 G39)
  (wv (vbin T .eql t_int v28 (.int .i64 3)) fun v40 => brB (some v40)
  (ACalls P cursor_Reader_Text.n [v3, .int .i64 64] G27 fun v41 G42 => wg (vstore T G42 t_string (.ptr i9 [4] 35) v41) fun G43 => J71 G43)
  (J71 G27)))));
  ACalls P cursor_Reader_Err.n [v3] G11 fun v12 G13 => wv (vbin T .eql t_api_Errno v12 (.int .i64 0)) fun v14 => brB (some v14)
  (wv (vload T G13 t_int (.ptr i9 [0] 0)) fun v15 => wv (vbin T .lss t_int v15 (.int .i64 1)) fun v16 => brB (some v16)
  (J72 (.bool true) G13)
  (wv (vload T G13 t_int (.ptr i9 [0] 0)) fun v17 => wv (vbin T .gtr t_int v17 (.int .i64 3)) fun v18 => J72 v18 G13))
  (J72 (.bool false) G13)
def update_Read.an : Ann := .two (.nil) (.two (.nil) (.two (.nil) (.two (.nil) (.two (.nil) (.two (.nil) (.two (.nil) (.two (.nil) (.two (.ord [(0, []), (1, []), (2, []), (3, []), (4, [0]), (5, []), (6, []), (7, []), (8, []), (9, [])]) (.nil)))))))))
set_option maxRecDepth 100000 in
theorem update_Read.sound {a0 : AVal} {G : Heap} {Q : AVal → Heap → Prop} (h : update_Read.S a0 G Q) : ACalls P update_Read.n [a0] G Q := by
  have e : update_Read.S a0 G Q = awp cx (update_Read.body) update_Read.an (bodyQ T [.cell 2 30, .tmp 3, .tmp 4] Q) (envL [a0]) G := by kernel_rfl
  exact ACalls_of_awp cxOk (f := update_Read.n) (fn := Try.f32) (c := update_Read.body) (an := update_Read.an) Try.func32 (by kernel_rfl) (by kernel_rfl) (by kernel_rfl) (drawsOk_of (by kernel_rfl) (by kernel_rfl)) (by simp [Try.f32]) (e ▸ h)

/-! #### escrow/record.updates -/
def record_updates.S (a0 a1 : AVal) (G : Heap) (Q : AVal → Heap → Prop) : Prop :=
  ∀ R1 : List AVal → Heap → Prop,
  (∀ (x3 x4 x5 x6 : AVal) (G2 : Heap), (wv (vbin T .lss t_int x6 x5) fun v7 => brB (some v7)
  (ACalls P update_Read.n [x3] G2 fun v8 G9 => wv (vextract v8 0) fun v10 => wv (vextract v8 1) fun v11 => wv (vextract v8 2) fun v12 => aNew G9 (.own (z_api_Update)) fun i13 G14 => wg (vstore T G14 t_api_Update (.ptr i13 [] 0) v10) fun G15 => wv (vbin T .neq t_api_Errno v12 (.int .i64 0)) fun v16 => brB (some v16)
  (Q (.tuple [.nilSlice, .str [], .bool false]) G15)
  (wv (vload T G15 t_api_Update (.ptr i13 [] 0)) fun v17 => aBuildSlice T t_sl_api_Update 1 [(0, v17)] G15 fun v18 G19 => aAppend T G19 t_sl_api_Update t_sl_api_Update x4 v18 fun v20 G21 => wv (vslice T t_string x3 (some (v11)) none none) fun v22 => wv (vbin T .add t_int x6 (.int .i64 1)) fun v23 => R1 [v22, v20, x5, v23] G21))
  (Q (.tuple [x4, x3, .bool true]) G2)) → R1 [x3, x4, x5, x6] G2) →
  R1 [a0, .nilSlice, a1, .int .i64 0] G
def record_updates.an : Ann := .two (.nil) (.two (.nil) (.two (.two (.nil) (.loop [0, 7, 11, 12] [false, false, false, false] (.nil))) (.nil)))
set_option maxRecDepth 100000 in
theorem record_updates.sound {a0 a1 : AVal} {G : Heap} {Q : AVal → Heap → Prop} (h : record_updates.S a0 a1 G Q) : ACalls P record_updates.n [a0, a1] G Q := by
  have e : record_updates.S a0 a1 G Q = awp cx (record_updates.body) record_updates.an (bodyQ T [.tmp 4, .tmp 5, .tmp 6] Q) (envL [a0, a1]) G := by kernel_rfl
  exact ACalls_of_awp cxOk (f := record_updates.n) (fn := Try.f19) (c := record_updates.body) (an := record_updates.an) Try.func19 (by kernel_rfl) (by kernel_rfl) (by kernel_rfl) (drawsOk_of (by kernel_rfl) (by kernel_rfl)) (by simp [Try.f19]) (e ▸ h)

/-! #### escrow/record.Read -/
def record_Read.S (a0 : AVal) (G : Heap) (Q : AVal → Heap → Prop) : Prop :=
  aNew G (.own (z_api_Record)) fun i1 G2 => ACalls P cursor_Open.n [a0] G2 fun v3 G4 => ACalls P cursor_Reader_U8.n [v3] G4 fun v5 G6 => wv (vconv T G6 t_uint8 t_int v5) fun v7 => wv (vbuild T t_api_Record [(0, v7)]) fun v8 => aNew G6 (.own (z_api_Record)) fun i9 G10 => wg (vstore T G10 t_api_Record (.ptr i9 [] 0) v8) fun G11 => wv (vload T G11 t_int (.ptr i9 [0] 0)) fun v12 => let J126 : AVal → AVal → Heap → Prop := (fun x102 x103 G101 => let J125 : AVal → Heap → Prop := (fun x113 G112 => brB (some x113)
  (wv (vbuild T t_api_Record []) fun v114 => wg (vstore T G112 t_api_Record (.ptr i1 [] 0) v114) fun G115 => wv (vload T G115 t_api_Record (.ptr i1 [] 0)) fun v116 => Q (.tuple [v116, .int .i64 0, .int .i64 170]) G115)
  (wv (vload T G112 t_api_Record (.ptr i9 [] 0)) fun v117 => wv (vlen T G112 t_string a0) fun v118 => ACalls P cursor_Reader_Rest.n [x102] G112 fun v119 G120 => (vload T G120 t_api_Record (.ptr i9 [] 0) = some v117 ∧ True) ∧ (wv (vlen T G120 t_string v119) fun v121 => wv (vbin T .sub t_int v118 v121) fun v122 => wg (vstore T G120 t_api_Record (.ptr i1 [] 0) v117) fun G123 => wv (vload T G123 t_api_Record (.ptr i1 [] 0)) fun v124 => Q (.tuple [v124, v122, .int .i64 0]) G123)));
  wv (vun .not x103) fun v104 => brB (some v104)
  (J125 (.bool true) G101)
  (ACalls P cursor_Reader_Err.n [x102] G101 fun v105 G106 => wv (vbin T .neq t_api_Errno v105 (.int .i64 0)) fun v107 => brB (some v107)
  (J125 (.bool true) G106)
  (wv (vload T G106 t_api_Record (.ptr i9 [] 0)) fun v108 => ACalls P record_changed.n [v108] G106 fun v109 G110 => wv (vbin T .eql t_record_change v109 (.nilIface)) fun v111 => J125 v111 G110)));
  wv (vbin T .eql t_int v12 (.int .i64 1)) fun v13 => brB (some v13)
  (ACalls P cursor_Reader_Rest.n [v3] G11 fun v14 G15 => ACalls P record_updates.n [v14, .int .i64 1] G15 fun v16 G17 => wv (vextract v16 0) fun v18 => wv (vextract v16 1) fun v19 => wv (vextract v16 2) fun v20 => brB (some v20)
  (wv (viaddr T t_sl_api_Update v18 (.int .i64 0)) fun v21 => wv (vload T G17 t_api_Update v21) fun v22 => ACalls P cursor_Open.n [v19] G17 fun v23 G24 => (vload T G24 t_api_Update v21 = some v22 ∧ True) ∧ (wg (vstore T G24 t_api_Update (.ptr i9 [1] 1) v22) fun G25 => J126 v23 v20 G25))
  (J126 v3 v20 G17))
  (wv (vbin T .eql t_int v12 (.int .i64 2)) fun v28 => brB (some v28)
  (ACalls P cursor_Reader_I64.n [v3] G11 fun v29 G30 => wg (vstore T G30 t_int64 (.ptr i9 [3] 38) v29) fun G31 => ACalls P cursor_Reader_U16.n [v3] G31 fun v32 G33 => wv (vconv T G33 t_uint16 t_int v32) fun v34 => wg (vstore T G33 t_int (.ptr i9 [4, 0] 39) v34) fun G35 => ACalls P cursor_Reader_U16.n [v3] G35 fun v36 G37 => wv (vconv T G37 t_uint16 t_int v36) fun v38 => wg (vstore T G37 t_int (.ptr i9 [4, 1] 40) v38) fun G39 => J126 v3 (.bool true) G39)
  (wv (vbin T .eql t_int v12 (.int .i64 3)) fun v40 => brB (some v40)
  (ACalls P cursor_Reader_I64.n [v3] G11 fun v41 G42 => wg (vstore T G42 t_int64 (.ptr i9 [3] 38) v41) fun G43 => ACalls P cursor_Reader_U16.n [v3] G43 fun v44 G45 => wv (vconv T G45 t_uint16 t_int v44) fun v46 => let J69 : AVal → Heap → Prop := (fun x52 G51 => brB (some x52)
  (ACalls P cursor_Reader_Rest.n [v3] G51 fun v53 G54 => ACalls P record_updates.n [v53, v46] G54 fun v55 G56 => wv (vextract v55 0) fun v57 => wv (vextract v55 1) fun v58 => wv (vextract v55 2) fun v59 => wg (vstore T G56 t_sl_api_Update (.ptr i9 [2] 37) v57) fun G60 => ACalls P cursor_Open.n [v58] G60 fun v61 G62 => ACalls P cursor_Reader_Hash.n [v61] G62 fun v63 G64 => wg (vstore T G64 t_api_Hash (.ptr i9 [5] 41) v63) fun G65 => J126 v61 v59 G65)
  (J126 v3 x52 G51));
  ACalls P cursor_Reader_Err.n [v3] G45 fun v47 G48 => wv (vbin T .eql t_api_Errno v47 (.int .i64 0)) fun v49 => brB (some v49)
  (wv (vbin T .leq t_int v46 (.int .i64 512)) fun v50 => J69 v50 G48)
  (J69 (.bool false) G48))
  (wv (vbin T .eql t_int v12 (.int .i64 4)) fun v70 => brB (some v70)
  (ACalls P cursor_Reader_I64.n [v3] G11 fun v71 G72 => wg (vstore T G72 t_int64 (.ptr i9 [3] 38) v71) fun G73 => ACalls P cursor_Reader_Hash.n [v3] G73 fun v74 G75 => wg (vstore T G75 t_api_Hash (.ptr i9 [6] 73) v74) fun G76 => ACalls P cursor_Reader_Hash.n [v3] G76 fun v77 G78 => wg (vstore T G78 t_api_Hash (.ptr i9 [7] 105) v77) fun G79 => J126 v3 (.bool true) G79)
  (wv (vbin T .eql t_int v12 (.int .i64 5)) fun v80 => brB (some v80)
  (ACalls P cursor_Reader_U16.n [v3] G11 fun v81 G82 => wv (vconv T G82 t_uint16 t_int v81) fun v83 => wg (vstore T G82 t_int (.ptr i9 [8] 137) v83) fun G84 => J126 v3 (.bool true) G84)
  (wv (vbin T .eql t_int v12 (.int .i64 6)) fun v85 => brB (some v85)
  (ACalls P cursor_Reader_I64.n [v3] G11 fun v86 G87 => wg (vstore T G87 t_int64 (.ptr i9 [3] 38) v86) fun G88 => J126 v3 (.bool true) G88)
  (J126 v3 (.bool true) G11))))))
def record_Read.an : Ann := .two (.nil) (.two (.nil) (.two (.nil) (.two (.nil) (.two (.two (.nil) (.two (.nil) (.two (.two (.nil) (.two (.nil) (.two (.nil) (.two (.nil) (.two (.ord [(0, []), (1, []), (2, []), (3, []), (5, []), (4, [2]), (6, []), (7, [])]) (.nil)))))) (.nil)))) (.two (.nil) (.two (.ord [(0, []), (1, []), (2, []), (3, []), (4, [0]), (5, []), (6, []), (7, []), (8, []), (9, [])]) (.nil)))))))
set_option maxRecDepth 100000 in
theorem record_Read.sound {a0 : AVal} {G : Heap} {Q : AVal → Heap → Prop} (h : record_Read.S a0 G Q) : ACalls P record_Read.n [a0] G Q := by
  have e : record_Read.S a0 G Q = awp cx (record_Read.body) record_Read.an (bodyQ T [.cell 2 35, .tmp 3, .tmp 4] Q) (envL [a0]) G := by kernel_rfl
  exact ACalls_of_awp cxOk (f := record_Read.n) (fn := Try.f8) (c := record_Read.body) (an := record_Read.an) Try.func8 (by kernel_rfl) (by kernel_rfl) (by kernel_rfl) (drawsOk_of (by kernel_rfl) (by kernel_rfl)) (by simp [Try.f8]) (e ▸ h)

/-! #### slices.Clone[[]escrow/api.Update,escrow/api.Update] -/
def slices_Clone_escrow_api_Update_escrow_api_Update.S (a0 : AVal) (G : Heap) (Q : AVal → Heap → Prop) : Prop :=
  wv (vbin T .eql t_sl_api_Update a0 (.nilSlice)) fun v1 => brB (some v1)
  (Q (.nilSlice) G)
  (aBuildSlice T t_sl_api_Update 0 [] G fun v2 G3 => aAppend T G3 t_sl_api_Update t_sl_api_Update v2 a0 fun v4 G5 => Q v4 G5)
def slices_Clone_escrow_api_Update_escrow_api_Update.an : Ann := .nil
set_option maxRecDepth 100000 in
theorem slices_Clone_escrow_api_Update_escrow_api_Update.sound {a0 : AVal} {G : Heap} {Q : AVal → Heap → Prop} (h : slices_Clone_escrow_api_Update_escrow_api_Update.S a0 G Q) : ACalls P slices_Clone_escrow_api_Update_escrow_api_Update.n [a0] G Q := by
  have e : slices_Clone_escrow_api_Update_escrow_api_Update.S a0 G Q = awp cx (slices_Clone_escrow_api_Update_escrow_api_Update.body) slices_Clone_escrow_api_Update_escrow_api_Update.an (bodyQ T [.tmp 2] Q) (envL [a0]) G := by kernel_rfl
  exact ACalls_of_awp cxOk (f := slices_Clone_escrow_api_Update_escrow_api_Update.n) (fn := Try.f25) (c := slices_Clone_escrow_api_Update_escrow_api_Update.body) (an := slices_Clone_escrow_api_Update_escrow_api_Update.an) Try.func25 (by kernel_rfl) (by kernel_rfl) (by kernel_rfl) (drawsOk_of (by kernel_rfl) (by kernel_rfl)) (by simp [Try.f25]) (e ▸ h)

/-! #### slices.Clone[[]escrow/api.Slot,escrow/api.Slot] -/
def slices_Clone_escrow_api_Slot_escrow_api_Slot.S (a0 : AVal) (G : Heap) (Q : AVal → Heap → Prop) : Prop :=
  wv (vbin T .eql t_sl_api_Slot a0 (.nilSlice)) fun v1 => brB (some v1)
  (Q (.nilSlice) G)
  (aBuildSlice T t_sl_api_Slot 0 [] G fun v2 G3 => aAppend T G3 t_sl_api_Slot t_sl_api_Slot v2 a0 fun v4 G5 => Q v4 G5)
def slices_Clone_escrow_api_Slot_escrow_api_Slot.an : Ann := .nil
set_option maxRecDepth 100000 in
theorem slices_Clone_escrow_api_Slot_escrow_api_Slot.sound {a0 : AVal} {G : Heap} {Q : AVal → Heap → Prop} (h : slices_Clone_escrow_api_Slot_escrow_api_Slot.S a0 G Q) : ACalls P slices_Clone_escrow_api_Slot_escrow_api_Slot.n [a0] G Q := by
  have e : slices_Clone_escrow_api_Slot_escrow_api_Slot.S a0 G Q = awp cx (slices_Clone_escrow_api_Slot_escrow_api_Slot.body) slices_Clone_escrow_api_Slot_escrow_api_Slot.an (bodyQ T [.tmp 2] Q) (envL [a0]) G := by kernel_rfl
  exact ACalls_of_awp cxOk (f := slices_Clone_escrow_api_Slot_escrow_api_Slot.n) (fn := Try.f26) (c := slices_Clone_escrow_api_Slot_escrow_api_Slot.body) (an := slices_Clone_escrow_api_Slot_escrow_api_Slot.an) Try.func26 (by kernel_rfl) (by kernel_rfl) (by kernel_rfl) (drawsOk_of (by kernel_rfl) (by kernel_rfl)) (by simp [Try.f26]) (e ▸ h)

/-! #### escrow/update.adds -/
def update_adds.S (a0 : AVal) (G : Heap) (Q : AVal → Heap → Prop) : Prop :=
  wv (vlen T G t_sl_api_Update a0) fun v1 => ∀ R2 : List AVal → Heap → Prop,
  (∀ (x4 x5 x6 x7 : AVal) (G3 : Heap), (wv (vbin T .lss t_int x7 x6) fun v8 => brB (some v8)
  (wv (viaddr T t_sl_api_Update x5 x7) fun v9 => wv (vload T G3 t_api_Update v9) fun v10 => aNew G3 (.own (z_api_Update)) fun i11 G12 => wg (vstore T G12 t_api_Update (.ptr i11 [] 0) v10) fun G13 => wv (vload T G13 t_int (.ptr i11 [0] 0)) fun v14 => wv (vbin T .eql t_int v14 (.int .i64 1)) fun v15 => brB (some v15)
  (wv (vbin T .add t_int64 x4 (.int .i64 1)) fun v16 => wv (vbin T .add t_int x7 (.int .i64 1)) fun v22 => R2 [v16, x5, x6, v22] G13)
  (wv (vbin T .add t_int x7 (.int .i64 1)) fun v23 => R2 [x4, x5, x6, v23] G13))
  (Q x4 G3)) → R2 [x4, x5, x6, x7] G3) →
  R2 [.int .i64 0, a0, v1, .int .i64 0] G
def update_adds.an : Ann := .two (.nil) (.two (.nil) (.two (.two (.nil) (.loop [3, 6, 7, 8] [false, false, false, false] (.nil))) (.nil)))
set_option maxRecDepth 100000 in
theorem update_adds.sound {a0 : AVal} {G : Heap} {Q : AVal → Heap → Prop} (h : update_adds.S a0 G Q) : ACalls P update_adds.n [a0] G Q := by
  have e : update_adds.S a0 G Q = awp cx (update_adds.body) update_adds.an (bodyQ T [.tmp 2] Q) (envL [a0]) G := by kernel_rfl
  exact ACalls_of_awp cxOk (f := update_adds.n) (fn := Try.f63) (c := update_adds.body) (an := update_adds.an) Try.func63 (by kernel_rfl) (by kernel_rfl) (by kernel_rfl) (drawsOk_of (by kernel_rfl) (by kernel_rfl)) (by simp [Try.f63]) (e ▸ h)

/-! #### escrow/update.first -/
def update_first.S (a0 a1 a2 : AVal) (G : Heap) (Q : AVal → Heap → Prop) : Prop :=
  aNew G (.own (z_api_Update)) fun i1 G2 => wv (vlen T G2 t_sl_api_Update a0) fun v3 => ∀ R4 : List AVal → Heap → Prop,
  (∀ (x6 x7 x8 x9 x10 x11 : AVal) (G5 : Heap), (wv (vbin T .lss t_int x11 x10) fun v12 => brB (some v12)
  (wv (viaddr T t_sl_api_Update x9 x11) fun v13 => wv (vload T G5 t_api_Update v13) fun v14 => aNew G5 (.own (z_api_Update)) fun i15 G16 => wg (vstore T G16 t_api_Update (.ptr i15 [] 0) v14) fun G17 => let J36 : AVal → Heap → Prop := (fun x32 G31 => brB (some x32)
  (wv (vload T G31 t_api_Update (.ptr i15 [] 0)) fun v33 => wg (vstore T G31 t_api_Update x8 v33) fun G34 => wv (vload T G34 t_api_Update x8) fun v35 => Q (.tuple [v35, .bool true]) G34)
  (wv (vbin T .add t_int x11 (.int .i64 1)) fun v37 => R4 [x6, x7, x8, x9, x10, v37] G31));
  wv (vload T G17 t_int64 (.ptr i15 [1] 1)) fun v18 => wv (vbin T .eql t_int64 v18 x6) fun v19 => brB (some v19)
  (wv (vun .not x7) fun v20 => brB (some v20)
  (wv (vload T G17 t_int (.ptr i15 [0] 0)) fun v21 => wv (vbin T .eql t_int v21 (.int .i64 1)) fun v22 => brB (some v22)
  (J36 (.bool true) G17)
  (brB (some x7)
  (wv (vload T G17 t_int (.ptr i15 [0] 0)) fun v23 => wv (vbin T .eql t_int v23 (.int .i64 2)) fun v24 => brB (some v24)
  (J36 (.bool true) G17)
  (wv (vload T G17 t_int (.ptr i15 [0] 0)) fun v25 => wv (vbin T .eql t_int v25 (.int .i64 3)) fun v26 => J36 v26 G17))
  (J36 (.bool false) G17)))
  (brB (some x7)
  (wv (vload T G17 t_int (.ptr i15 [0] 0)) fun v27 => wv (vbin T .eql t_int v27 (.int .i64 2)) fun v28 => brB (some v28)
  (J36 (.bool true) G17)
  (wv (vload T G17 t_int (.ptr i15 [0] 0)) fun v29 => wv (vbin T .eql t_int v29 (.int .i64 3)) fun v30 => J36 v30 G17))
  (J36 (.bool false) G17)))
  (J36 (.bool false) G17))
  (wv (vbuild T t_api_Update []) fun v38 => wg (vstore T G5 t_api_Update x8 v38) fun G39 => wv (vload T G39 t_api_Update x8) fun v40 => Q (.tuple [v40, .bool false]) G39)) → R4 [x6, x7, x8, x9, x10, x11] G5) →
  R4 [a1, a2, .ptr i1 [] 0, a0, v3, .int .i64 0] G2
def update_first.an : Ann := .two (.nil) (.two (.two (.nil) (.loop [1, 2, 6, 10, 11, 12] [false, false, false, false, false, false] (.nil))) (.nil))
set_option maxRecDepth 100000 in
theorem update_first.sound {a0 a1 a2 : AVal} {G : Heap} {Q : AVal → Heap → Prop} (h : update_first.S a0 a1 a2 G Q) : ACalls P update_first.n [a0, a1, a2] G Q := by
  have e : update_first.S a0 a1 a2 G Q = awp cx (update_first.body) update_first.an (bodyQ T [.cell 6 30, .tmp 7] Q) (envL [a0, a1, a2]) G := by kernel_rfl
  exact ACalls_of_awp cxOk (f := update_first.n) (fn := Try.f69) (c := update_first.body) (an := update_first.an) Try.func69 (by kernel_rfl) (by kernel_rfl) (by kernel_rfl) (drawsOk_of (by kernel_rfl) (by kernel_rfl)) (by simp [Try.f69]) (e ▸ h)

/-! #### escrow/update.Find -/
def update_Find.S (a0 a1 : AVal) (G : Heap) (Q : AVal → Heap → Prop) : Prop :=
  aNew G (.own (z_api_Update)) fun i1 G2 => ACalls P update_first.n [a0, a1, .bool false] G2 fun v3 G4 => wv (vextract v3 0) fun v5 => wv (vextract v3 1) fun v6 => wg (vstore T G4 t_api_Update (.ptr i1 [] 0) v5) fun G7 => wv (vload T G7 t_api_Update (.ptr i1 [] 0)) fun v8 => Q (.tuple [v8, v6]) G7
def update_Find.an : Ann := .nil
set_option maxRecDepth 100000 in
theorem update_Find.sound {a0 a1 : AVal} {G : Heap} {Q : AVal → Heap → Prop} (h : update_Find.S a0 a1 G Q) : ACalls P update_Find.n [a0, a1] G Q := by
  have e : update_Find.S a0 a1 G Q = awp cx (update_Find.body) update_Find.an (bodyQ T [.cell 4 30, .tmp 5] Q) (envL [a0, a1]) G := by kernel_rfl
  exact ACalls_of_awp cxOk (f := update_Find.n) (fn := Try.f64) (c := update_Find.body) (an := update_Find.an) Try.func64 (by kernel_rfl) (by kernel_rfl) (by kernel_rfl) (drawsOk_of (by kernel_rfl) (by kernel_rfl)) (by simp [Try.f64]) (e ▸ h)

/-! #### escrow/update.Removal -/
def update_Removal.S (a0 a1 : AVal) (G : Heap) (Q : AVal → Heap → Prop) : Prop :=
  aNew G (.own (z_api_Update)) fun i1 G2 => ACalls P update_first.n [a0, a1, .bool true] G2 fun v3 G4 => wv (vextract v3 0) fun v5 => wv (vextract v3 1) fun v6 => wg (vstore T G4 t_api_Update (.ptr i1 [] 0) v5) fun G7 => wv (vload T G7 t_api_Update (.ptr i1 [] 0)) fun v8 => Q (.tuple [v8, v6]) G7
def update_Removal.an : Ann := .nil
set_option maxRecDepth 100000 in
theorem update_Removal.sound {a0 a1 : AVal} {G : Heap} {Q : AVal → Heap → Prop} (h : update_Removal.S a0 a1 G Q) : ACalls P update_Removal.n [a0, a1] G Q := by
  have e : update_Removal.S a0 a1 G Q = awp cx (update_Removal.body) update_Removal.an (bodyQ T [.cell 4 30, .tmp 5] Q) (envL [a0, a1]) G := by kernel_rfl
  exact ACalls_of_awp cxOk (f := update_Removal.n) (fn := Try.f65) (c := update_Removal.body) (an := update_Removal.an) Try.func65 (by kernel_rfl) (by kernel_rfl) (by kernel_rfl) (drawsOk_of (by kernel_rfl) (by kernel_rfl)) (by simp [Try.f65]) (e ▸ h)

/-! #### escrow/hash.constants -/
def hash_constants.S (G : Heap) (Q : AVal → Heap → Prop) : Prop :=
  aNew G (.own (z_ar64_uint32)) fun i1 G2 => wv (vbuild T t_ar64_uint32 [(0, .int .u32 1116352408), (1, .int .u32 1899447441), (2, .int .u32 3049323471), (3, .int .u32 3921009573), (4, .int .u32 961987163), (5, .int .u32 1508970993), (6, .int .u32 2453635748), (7, .int .u32 2870763221), (8, .int .u32 3624381080), (9, .int .u32 310598401), (10, .int .u32 607225278), (11, .int .u32 1426881987), (12, .int .u32 1925078388), (13, .int .u32 2162078206), (14, .int .u32 2614888103), (15, .int .u32 3248222580), (16, .int .u32 3835390401), (17, .int .u32 4022224774), (18, .int .u32 264347078), (19, .int .u32 604807628), (20, .int .u32 770255983), (21, .int .u32 1249150122), (22, .int .u32 1555081692), (23, .int .u32 1996064986), (24, .int .u32 2554220882), (25, .int .u32 2821834349), (26, .int .u32 2952996808), (27, .int .u32 3210313671), (28, .int .u32 3336571891), (29, .int .u32 3584528711), (30, .int .u32 113926993), (31, .int .u32 338241895), (32, .int .u32 666307205), (33, .int .u32 773529912), (34, .int .u32 1294757372), (35, .int .u32 1396182291), (36, .int .u32 1695183700), (37, .int .u32 1986661051), (38, .int .u32 2177026350), (39, .int .u32 2456956037), (40, .int .u32 2730485921), (41, .int .u32 2820302411), (42, .int .u32 3259730800), (43, .int .u32 3345764771), (44, .int .u32 3516065817), (45, .int .u32 3600352804), (46, .int .u32 4094571909), (47, .int .u32 275423344), (48, .int .u32 430227734), (49, .int .u32 506948616), (50, .int .u32 659060556), (51, .int .u32 883997877), (52, .int .u32 958139571), (53, .int .u32 1322822218), (54, .int .u32 1537002063), (55, .int .u32 1747873779), (56, .int .u32 1955562222), (57, .int .u32 2024104815), (58, .int .u32 2227730452), (59, .int .u32 2361852424), (60, .int .u32 2428436474), (61, .int .u32 2756734187), (62, .int .u32 3204031479), (63, .int .u32 3329325298)]) fun v3 => wg (vstore T G2 t_ar64_uint32 (.ptr i1 [] 0) v3) fun G4 => wv (vload T G4 t_ar64_uint32 (.ptr i1 [] 0)) fun v5 => Q v5 G4
def hash_constants.an : Ann := .nil
set_option maxRecDepth 100000 in
theorem hash_constants.sound {G : Heap} {Q : AVal → Heap → Prop} (h : hash_constants.S G Q) : ACalls P hash_constants.n [] G Q := by
  have e : hash_constants.S G Q = awp cx (hash_constants.body) hash_constants.an (bodyQ T [.cell 0 133] Q) (envL []) G := by kernel_rfl
  exact ACalls_of_awp cxOk (f := hash_constants.n) (fn := Try.f71) (c := hash_constants.body) (an := hash_constants.an) Try.func71 (by kernel_rfl) (by kernel_rfl) (by kernel_rfl) (drawsOk_of (by kernel_rfl) (by kernel_rfl)) (by simp [Try.f71]) (e ▸ h)

/-! #### math/bits.RotateLeft32 -/
def bits_RotateLeft32.S (a0 a1 : AVal) (G : Heap) (Q : AVal → Heap → Prop) : Prop :=
  wv (vconv T G t_int t_uint a1) fun v1 => wv (vbin T .and t_uint v1 (.int .u64 31)) fun v2 => wv (vbin T .shl t_uint32 a0 v2) fun v3 => wv (vbin T .sub t_uint (.int .u64 32) v2) fun v4 => wv (vbin T .shr t_uint32 a0 v4) fun v5 => wv (vbin T .or t_uint32 v3 v5) fun v6 => Q v6 G
def bits_RotateLeft32.an : Ann := .nil
set_option maxRecDepth 100000 in
theorem bits_RotateLeft32.sound {a0 a1 : AVal} {G : Heap} {Q : AVal → Heap → Prop} (h : bits_RotateLeft32.S a0 a1 G Q) : ACalls P bits_RotateLeft32.n [a0, a1] G Q := by
  have e : bits_RotateLeft32.S a0 a1 G Q = awp cx (bits_RotateLeft32.body) bits_RotateLeft32.an (bodyQ T [.tmp 4] Q) (envL [a0, a1]) G := by kernel_rfl
  exact ACalls_of_awp cxOk (f := bits_RotateLeft32.n) (fn := Try.f81) (c := bits_RotateLeft32.body) (an := bits_RotateLeft32.an) Try.func81 (by kernel_rfl) (by kernel_rfl) (by kernel_rfl) (drawsOk_of (by kernel_rfl) (by kernel_rfl)) (by simp [Try.f81]) (e ▸ h)

/-! #### escrow/hash.schedule -/
def hash_schedule.S (a0 : AVal) (G : Heap) (Q : AVal → Heap → Prop) : Prop :=
  aNew G (.own (z_ar64_uint32)) fun i1 G2 => aNew G2 (.own (z_ar64_uint32)) fun i3 G4 => ∀ R5 : List AVal → Heap → Prop,
  (∀ (x7 x8 x9 x10 : AVal) (G6 : Heap), (wv (vbin T .lss t_int x10 (.int .i64 16)) fun v11 => brB (some v11)
  (∀ R12 : List AVal → Heap → Prop,
  (∀ (x14 x15 x16 x17 x18 x19 : AVal) (G13 : Heap), (wv (vbin T .lss t_int x19 (.int .i64 4)) fun v20 => brB (some v20)
  (wv (viaddr T t_ar64_uint32 x16 x17) fun v21 => wv (vload T G13 t_uint32 v21) fun v22 => wv (vbin T .shl t_uint32 v22 (.int .u64 8)) fun v23 => wv (vbin T .mul t_int (.int .i64 4) x17) fun v24 => wv (vbin T .add t_int v24 x19) fun v25 => wv (vindex T t_string x14 v25) fun v26 => wv (vconv T G13 t_uint8 t_uint32 v26) fun v27 => wv (vbin T .or t_uint32 v23 v27) fun v28 => wv (viaddr T t_ar64_uint32 x16 x17) fun v29 => wg (vstore T G13 t_uint32 v29 v28) fun G30 => wv (vbin T .add t_int x19 (.int .i64 1)) fun v31 => R12 [x14, x15, x16, x17, x18, v31] G30)
  (wv (vbin T .add t_int x18 (.int .i64 1)) fun v32 => R5 [x14, x15, x16, v32] G13)) → R12 [x14, x15, x16, x17, x18, x19] G13) →
  R12 [x7, x8, x9, x10, x10, .int .i64 0] G6)
  (∀ R33 : List AVal → Heap → Prop,
  (∀ (x35 x36 x37 : AVal) (G34 : Heap), (wv (vbin T .lss t_int x37 (.int .i64 64)) fun v38 => brB (some v38)
  (wv (vbin T .sub t_int x37 (.int .i64 15)) fun v39 => wv (viaddr T t_ar64_uint32 x36 v39) fun v40 => wv (vload T G34 t_uint32 v40) fun v41 => wv (vbin T .sub t_int x37 (.int .i64 2)) fun v42 => wv (viaddr T t_ar64_uint32 x36 v42) fun v43 => wv (vload T G34 t_uint32 v43) fun v44 => ACalls P bits_RotateLeft32.n [v41, .int .i64 (-7)] G34 fun v45 G46 => ACalls P bits_RotateLeft32.n [v41, .int .i64 (-18)] G46 fun v47 G48 => wv (vbin T .xor t_uint32 v45 v47) fun v49 => wv (vbin T .shr t_uint32 v41 (.int .u64 3)) fun v50 => wv (vbin T .xor t_uint32 v49 v50) fun v51 => ACalls P bits_RotateLeft32.n [v44, .int .i64 (-17)] G48 fun v52 G53 => ACalls P bits_RotateLeft32.n [v44, .int .i64 (-19)] G53 fun v54 G55 => wv (vbin T .xor t_uint32 v52 v54) fun v56 => wv (vbin T .shr t_uint32 v44 (.int .u64 10)) fun v57 => wv (vbin T .xor t_uint32 v56 v57) fun v58 => wv (vbin T .sub t_int x37 (.int .i64 16)) fun v59 => wv (viaddr T t_ar64_uint32 x36 v59) fun v60 => wv (vload T G55 t_uint32 v60) fun v61 => wv (vbin T .add t_uint32 v61 v51) fun v62 => wv (vbin T .sub t_int x37 (.int .i64 7)) fun v63 => wv (viaddr T t_ar64_uint32 x36 v63) fun v64 => wv (vload T G55 t_uint32 v64) fun v65 => wv (vbin T .add t_uint32 v62 v65) fun v66 => wv (vbin T .add t_uint32 v66 v58) fun v67 => wv (viaddr T t_ar64_uint32 x36 x37) fun v68 => wg (vstore T G55 t_uint32 v68 v67) fun G69 => wv (vbin T .add t_int x37 (.int .i64 1)) fun v70 => R33 [x35, x36, v70] G69)
  (wv (vload T G34 t_ar64_uint32 x36) fun v71 => wg (vstore T G34 t_ar64_uint32 x35 v71) fun G72 => wv (vload T G72 t_ar64_uint32 x35) fun v73 => Q v73 G72)) → R33 [x35, x36, x37] G34) →
  R33 [x8, x9, .int .i64 16] G6)) → R5 [x7, x8, x9, x10] G6) →
  R5 [a0, .ptr i1 [] 0, .ptr i3 [] 0, .int .i64 0] G4
def hash_schedule.an : Ann := .two (.nil) (.two (.nil) (.two (.two (.nil) (.loop [0, 2, 3, 11] [false, false, false, false] (.two (.nil) (.two (.nil) (.two (.two (.nil) (.two (.nil) (.loop [0, 2, 3, 4, 11, 14] [false, false, false, false, false, false] (.two (.nil) (.two (.nil) (.two (.two (.nil) (.ord [(0, []), (1, []), (2, []), (3, []), (4, []), (5, []), (6, []), (7, []), (8, []), (9, []), (10, []), (11, []), (12, []), (13, []), (14, [])])) (.nil))))))) (.nil)))))) (.two (.two (.nil) (.loop [2, 3, 6] [false, false, false] (.two (.nil) (.two (.two (.ord [(0, []), (1, []), (2, []), (3, []), (4, []), (5, []), (6, []), (7, []), (8, []), (9, [])]) (.two (.nil) (.two (.nil) (.ord [(0, []), (1, []), (2, []), (3, []), (4, []), (5, []), (6, []), (7, []), (8, []), (9, []), (10, []), (11, []), (12, []), (13, []), (14, []), (15, [])])))) (.nil))))) (.nil))))
set_option maxRecDepth 100000 in
theorem hash_schedule.sound {a0 : AVal} {G : Heap} {Q : AVal → Heap → Prop} (h : hash_schedule.S a0 G Q) : ACalls P hash_schedule.n [a0] G Q := by
  have e : hash_schedule.S a0 G Q = awp cx (hash_schedule.body) hash_schedule.an (bodyQ T [.cell 2 133] Q) (envL [a0]) G := by kernel_rfl
  exact ACalls_of_awp cxOk (f := hash_schedule.n) (fn := Try.f80) (c := hash_schedule.body) (an := hash_schedule.an) Try.func80 (by kernel_rfl) (by kernel_rfl) (by kernel_rfl) (drawsOk_of (by kernel_rfl) (by kernel_rfl)) (by simp [Try.f80]) (e ▸ h)

/-! #### escrow/hash.turned -/
def hash_turned.S (a0 a1 a2 : AVal) (G : Heap) (Q : AVal → Heap → Prop) : Prop :=
  aNew G (.own (a0)) fun i1 G2 => aNew G2 (.own (z_ar8_uint32)) fun i3 G4 => wv (vload T G4 t_ar8_uint32 (.ptr i1 [] 0)) fun v5 => ACalls P hash_schedule.n [a1] G4 fun v6 G7 => (vload T G7 t_ar8_uint32 (.ptr i1 [] 0) = some v5 ∧ True) ∧ (aNew G7 (.own (z_ar64_uint32)) fun i8 G9 => aNew G9 (.own (z_ar8_uint32)) fun i10 G11 => wg (vstore T G11 t_ar64_uint32 (.ptr i8 [] 0) v6) fun G12 => (vload T G12 t_ar8_uint32 (.ptr i1 [] 0) = some v5 ∧ True) ∧ (wg (vstore T G12 t_ar8_uint32 (.ptr i10 [] 0) v5) fun G13 => ∀ R14 : List AVal → Heap → Prop,
  (∀ (x16 x17 x18 x19 x20 x21 : AVal) (G15 : Heap), (wv (vbin T .lss t_int x21 (.int .i64 64)) fun v22 => brB (some v22)
  (wv (viaddr T t_ar8_uint32 x20 (.int .i64 4)) fun v23 => wv (vload T G15 t_uint32 v23) fun v24 => wv (viaddr T t_ar8_uint32 x20 (.int .i64 0)) fun v25 => wv (vload T G15 t_uint32 v25) fun v26 => wv (viaddr T t_ar8_uint32 x20 (.int .i64 7)) fun v27 => wv (vload T G15 t_uint32 v27) fun v28 => wv (viaddr T t_ar8_uint32 x20 (.int .i64 5)) fun v29 => wv (vload T G15 t_uint32 v29) fun v30 => wv (vbin T .and t_uint32 v24 v30) fun v31 => wv (vun .xor v24) fun v32 => wv (viaddr T t_ar8_uint32 x20 (.int .i64 6)) fun v33 => wv (vload T G15 t_uint32 v33) fun v34 => wv (vbin T .and t_uint32 v32 v34) fun v35 => wv (vbin T .xor t_uint32 v31 v35) fun v36 => wv (vnil x16) fun v37 => wv (viaddr T t_ar64_uint32 v37 x21) fun v38 => wv (vload T G15 t_uint32 v38) fun v39 => wv (viaddr T t_ar64_uint32 x19 x21) fun v40 => wv (vload T G15 t_uint32 v40) fun v41 => ACalls P bits_RotateLeft32.n [v24, .int .i64 (-6)] G15 fun v42 G43 => (vload T G43 t_uint32 v40 = some v41 ∧ vload T G43 t_uint32 v38 = some v39 ∧ vload T G43 t_uint32 v33 = some v34 ∧ vload T G43 t_uint32 v29 = some v30 ∧ vload T G43 t_uint32 v27 = some v28 ∧ True) ∧ (ACalls P bits_RotateLeft32.n [v24, .int .i64 (-11)] G43 fun v44 G45 => (vload T G45 t_uint32 v40 = some v41 ∧ vload T G45 t_uint32 v38 = some v39 ∧ vload T G45 t_uint32 v33 = some v34 ∧ vload T G45 t_uint32 v29 = some v30 ∧ vload T G45 t_uint32 v27 = some v28 ∧ True) ∧ (wv (vbin T .xor t_uint32 v42 v44) fun v46 => ACalls P bits_RotateLeft32.n [v24, .int .i64 (-25)] G45 fun v47 G48 => (vload T G48 t_uint32 v40 = some v41 ∧ vload T G48 t_uint32 v38 = some v39 ∧ vload T G48 t_uint32 v33 = some v34 ∧ vload T G48 t_uint32 v29 = some v30 ∧ vload T G48 t_uint32 v27 = some v28 ∧ True) ∧ (wv (vbin T .xor t_uint32 v46 v47) fun v49 => wv (vbin T .add t_uint32 v28 v49) fun v50 => wv (vbin T .add t_uint32 v50 v36) fun v51 => wv (vbin T .add t_uint32 v51 v39) fun v52 => wv (vbin T .add t_uint32 v52 v41) fun v53 => wv (viaddr T t_ar8_uint32 x20 (.int .i64 1)) fun v54 => wv (vload T G48 t_uint32 v54) fun v55 => wv (vbin T .and t_uint32 v26 v55) fun v56 => wv (viaddr T t_ar8_uint32 x20 (.int .i64 2)) fun v57 => wv (vload T G48 t_uint32 v57) fun v58 => wv (vbin T .and t_uint32 v26 v58) fun v59 => wv (vbin T .xor t_uint32 v56 v59) fun v60 => wv (viaddr T t_ar8_uint32 x20 (.int .i64 1)) fun v61 => wv (vload T G48 t_uint32 v61) fun v62 => wv (viaddr T t_ar8_uint32 x20 (.int .i64 2)) fun v63 => wv (vload T G48 t_uint32 v63) fun v64 => wv (vbin T .and t_uint32 v62 v64) fun v65 => wv (vbin T .xor t_uint32 v60 v65) fun v66 => ACalls P bits_RotateLeft32.n [v26, .int .i64 (-2)] G48 fun v67 G68 => (vload T G68 t_uint32 v63 = some v64 ∧ vload T G68 t_uint32 v61 = some v62 ∧ vload T G68 t_uint32 v57 = some v58 ∧ vload T G68 t_uint32 v54 = some v55 ∧ True) ∧ (ACalls P bits_RotateLeft32.n [v26, .int .i64 (-13)] G68 fun v69 G70 => (vload T G70 t_uint32 v63 = some v64 ∧ vload T G70 t_uint32 v61 = some v62 ∧ vload T G70 t_uint32 v57 = some v58 ∧ vload T G70 t_uint32 v54 = some v55 ∧ True) ∧ (wv (vbin T .xor t_uint32 v67 v69) fun v71 => ACalls P bits_RotateLeft32.n [v26, .int .i64 (-22)] G70 fun v72 G73 => (vload T G73 t_uint32 v63 = some v64 ∧ vload T G73 t_uint32 v61 = some v62 ∧ vload T G73 t_uint32 v57 = some v58 ∧ vload T G73 t_uint32 v54 = some v55 ∧ True) ∧ (wv (vbin T .xor t_uint32 v71 v72) fun v74 => wv (vbin T .add t_uint32 v74 v66) fun v75 => wv (vbin T .add t_uint32 v53 v75) fun v76 => wv (viaddr T t_ar8_uint32 x20 (.int .i64 1)) fun v77 => wv (vload T G73 t_uint32 v77) fun v78 => wv (viaddr T t_ar8_uint32 x20 (.int .i64 2)) fun v79 => wv (vload T G73 t_uint32 v79) fun v80 => wv (viaddr T t_ar8_uint32 x20 (.int .i64 3)) fun v81 => wv (vload T G73 t_uint32 v81) fun v82 => wv (vbin T .add t_uint32 v82 v53) fun v83 => wv (viaddr T t_ar8_uint32 x20 (.int .i64 5)) fun v84 => wv (vload T G73 t_uint32 v84) fun v85 => wv (viaddr T t_ar8_uint32 x20 (.int .i64 6)) fun v86 => wv (vload T G73 t_uint32 v86) fun v87 => wv (vbuild T t_ar8_uint32 [(0, v76), (1, v26), (2, v78), (3, v80), (4, v83), (5, v24), (6, v85), (7, v87)]) fun v88 => wg (vstore T G73 t_ar8_uint32 x20 v88) fun G89 => wv (vbin T .add t_int x21 (.int .i64 1)) fun v90 => R14 [x16, x17, x18, x19, x20, v90] G89)))))))
  (∀ R91 : List AVal → Heap → Prop,
  (∀ (x93 x94 x95 x96 : AVal) (G92 : Heap), (wv (vbin T .lss t_int x96 (.int .i64 8)) fun v97 => brB (some v97)
  (wv (viaddr T t_ar8_uint32 x95 x96) fun v98 => wv (vload T G92 t_uint32 v98) fun v99 => wv (viaddr T t_ar8_uint32 x93 x96) fun v100 => wv (vload T G92 t_uint32 v100) fun v101 => wv (vbin T .add t_uint32 v99 v101) fun v102 => wv (viaddr T t_ar8_uint32 x95 x96) fun v103 => wg (vstore T G92 t_uint32 v103 v102) fun G104 => wv (vbin T .add t_int x96 (.int .i64 1)) fun v105 => R91 [x93, x94, x95, v105] G104)
  (wv (vload T G92 t_ar8_uint32 x95) fun v106 => wg (vstore T G92 t_ar8_uint32 x94 v106) fun G107 => wv (vload T G107 t_ar8_uint32 x94) fun v108 => Q v108 G107)) → R91 [x93, x94, x95, x96] G92) →
  R91 [x17, x18, x20, .int .i64 0] G15)) → R14 [x16, x17, x18, x19, x20, x21] G15) →
  R14 [a2, .ptr i1 [] 0, .ptr i3 [] 0, .ptr i8 [] 0, .ptr i10 [] 0, .int .i64 0] G13))
def hash_turned.an : Ann := .two (.nil) (.two (.ord [(0, []), (2, []), (1, [2]), (3, []), (4, []), (5, [2]), (6, [])]) (.two (.two (.nil) (.loop [2, 3, 6, 7, 8, 18] [false, false, false, false, false, false] (.two (.nil) (.two (.nil) (.two (.two (.nil) (.two (.ord [(0, []), (1, []), (2, []), (3, []), (4, []), (5, [])]) (.two (.ord [(0, []), (1, []), (2, []), (4, []), (7, []), (11, []), (12, []), (13, []), (14, []), (15, []), (16, []), (17, []), (18, []), (19, []), (20, []), (22, []), (23, []), (24, []), (25, []), (26, []), (28, []), (29, []), (30, []), (3, [1, 13, 18, 26, 30]), (5, [1, 13, 18, 26, 30]), (6, []), (8, [1, 13, 18, 26, 30]), (9, []), (10, []), (21, []), (27, []), (31, []), (32, [])]) (.two (.ord [(0, []), (2, []), (5, []), (8, []), (9, []), (10, []), (11, []), (12, []), (13, []), (14, []), (15, []), (16, []), (17, []), (18, []), (19, []), (20, []), (21, []), (22, []), (1, [10, 14, 18, 20]), (3, [10, 14, 18, 20]), (4, []), (6, [10, 14, 18, 20]), (7, []), (23, []), (24, [])]) (.nil))))) (.nil)))))) (.two (.two (.nil) (.loop [3, 6, 8, 100] [false, false, false, false] (.two (.nil) (.two (.nil) (.two (.two (.nil) (.ord [(0, []), (1, []), (2, []), (3, []), (4, []), (5, []), (6, []), (7, []), (8, [])])) (.nil)))))) (.nil))))
set_option maxRecDepth 100000 in
theorem hash_turned.sound {a0 a1 a2 : AVal} {G : Heap} {Q : AVal → Heap → Prop} (h : hash_turned.S a0 a1 a2 G Q) : ACalls P hash_turned.n [a0, a1, a2] G Q := by
  have e : hash_turned.S a0 a1 a2 G Q = awp cx (hash_turned.body) hash_turned.an (bodyQ T [.cell 6 132] Q) (envL [a0, a1, a2]) G := by kernel_rfl
  exact ACalls_of_awp cxOk (f := hash_turned.n) (fn := Try.f72) (c := hash_turned.body) (an := hash_turned.an) Try.func72 (by kernel_rfl) (by kernel_rfl) (by kernel_rfl) (drawsOk_of (by kernel_rfl) (by kernel_rfl)) (by simp [Try.f72]) (e ▸ h)

/-! #### escrow/hash.Sum -/
def hash_Sum.S (a0 : AVal) (G : Heap) (Q : AVal → Heap → Prop) : Prop :=
  aNew G (.own (z_api_Hash)) fun i1 G2 => ACalls P strings_Join.n [a0, .str []] G2 fun v3 G4 => wv (vlen T G4 t_string v3) fun v5 => aBuildSlice T t_sl_uint8 1 [(0, .int .u8 128)] G4 fun v6 G7 => ∀ R8 : List AVal → Heap → Prop,
  (∀ (x10 x11 x12 x13 : AVal) (G9 : Heap), (wv (vlen T G9 t_sl_uint8 x13) fun v14 => wv (vbin T .add t_int x12 v14) fun v15 => wv (vbin T .rem t_int v15 (.int .i64 64)) fun v16 => wv (vbin T .neq t_int v16 (.int .i64 56)) fun v17 => brB (some v17)
  (aBuildSlice T t_sl_uint8 1 [(0, .int .u8 0)] G9 fun v18 G19 => aAppend T G19 t_sl_uint8 t_sl_uint8 x13 v18 fun v20 G21 => R8 [x10, x11, x12, v20] G21)
  (∀ R22 : List AVal → Heap → Prop,
  (∀ (x24 x25 x26 x27 x28 : AVal) (G23 : Heap), (wv (vbin T .lss t_int x28 (.int .i64 8)) fun v29 => brB (some v29)
  (wv (vbin T .mul t_int (.int .i64 8) x26) fun v30 => wv (vconv T G23 t_int t_uint64 v30) fun v31 => wv (vbin T .mul t_int (.int .i64 8) x28) fun v32 => wv (vbin T .sub t_int (.int .i64 56) v32) fun v33 => wv (vbin T .shr t_uint64 v31 v33) fun v34 => wv (vconv T G23 t_uint64 t_uint8 v34) fun v35 => aBuildSlice T t_sl_uint8 1 [(0, v35)] G23 fun v36 G37 => aAppend T G37 t_sl_uint8 t_sl_uint8 x27 v36 fun v38 G39 => wv (vbin T .add t_int x28 (.int .i64 1)) fun v40 => R22 [x24, x25, x26, v38, v40] G39)
  (wv (vconv T G23 t_sl_uint8 t_string x27) fun v41 => wv (vbin T .add t_string x25 v41) fun v42 => wv (vbuild T t_ar8_uint32 [(0, .int .u32 1779033703), (1, .int .u32 3144134277), (2, .int .u32 1013904242), (3, .int .u32 2773480762), (4, .int .u32 1359893119), (5, .int .u32 2600822924), (6, .int .u32 528734635), (7, .int .u32 1541459225)]) fun v43 => aNew G23 (.own (z_ar8_uint32)) fun i44 G45 => wg (vstore T G45 t_ar8_uint32 (.ptr i44 [] 0) v43) fun G46 => ACalls P hash_constants.n [] G46 fun v47 G48 => aNew G48 (.own (z_ar64_uint32)) fun i49 G50 => wg (vstore T G50 t_ar64_uint32 (.ptr i49 [] 0) v47) fun G51 => ∀ R52 : List AVal → Heap → Prop,
  (∀ (x54 x55 x56 x57 : AVal) (G53 : Heap), (wv (vbin T .neq t_string x55 (.str [])) fun v58 => brB (some v58)
  (wv (vload T G53 t_ar8_uint32 x56) fun v59 => wv (vslice T t_string x55 none (some (.int .i64 64)) none) fun v60 => ACalls P hash_turned.n [v59, v60, x57] G53 fun v61 G62 => wg (vstore T G62 t_ar8_uint32 x56 v61) fun G63 => wv (vslice T t_string x55 (some (.int .i64 64)) none none) fun v64 => R52 [x54, v64, x56, x57] G63)
  (aNew G53 (.own (z_api_Hash)) fun i65 G66 => ∀ R67 : List AVal → Heap → Prop,
  (∀ (x69 x70 x71 x72 : AVal) (G68 : Heap), (wv (vbin T .lss t_int x72 (.int .i64 32)) fun v73 => brB (some v73)
  (wv (vbin T .quo t_int x72 (.int .i64 4)) fun v74 => wv (viaddr T t_ar8_uint32 x70 v74) fun v75 => wv (vload T G68 t_uint32 v75) fun v76 => wv (vbin T .rem t_int x72 (.int .i64 4)) fun v77 => wv (vbin T .mul t_int (.int .i64 8) v77) fun v78 => wv (vbin T .sub t_int (.int .i64 24) v78) fun v79 => wv (vbin T .shr t_uint32 v76 v79) fun v80 => wv (vconv T G68 t_uint32 t_uint8 v80) fun v81 => wv (viaddr T t_api_Hash x71 x72) fun v82 => wg (vstore T G68 t_uint8 v82 v81) fun G83 => wv (vbin T .add t_int x72 (.int .i64 1)) fun v84 => R67 [x69, x70, x71, v84] G83)
  (wv (vload T G68 t_api_Hash x71) fun v85 => wg (vstore T G68 t_api_Hash x69 v85) fun G86 => wv (vload T G86 t_api_Hash x69) fun v87 => Q v87 G86)) → R67 [x69, x70, x71, x72] G68) →
  R67 [x54, x56, .ptr i65 [] 0, .int .i64 0] G66)) → R52 [x54, x55, x56, x57] G53) →
  R52 [x24, v42, .ptr i44 [] 0, .ptr i49 [] 0] G51)) → R22 [x24, x25, x26, x27, x28] G23) →
  R22 [x10, x11, x12, x13, .int .i64 0] G9)) → R8 [x10, x11, x12, x13] G9) →
  R8 [.ptr i1 [] 0, v3, v5, v6] G7
def hash_Sum.an : Ann := .two (.nil) (.two (.nil) (.two (.nil) (.two (.nil) (.two (.loop [2, 3, 4, 5] [false, false, false, false] (.nil)) (.two (.two (.nil) (.loop [2, 3, 4, 5, 25] [false, false, false, false, false] (.nil))) (.two (.nil) (.two (.nil) (.two (.nil) (.two (.loop [2, 3, 7, 8] [false, false, false, false] (.two (.nil) (.two (.ord [(0, []), (1, []), (2, []), (3, []), (4, [])]) (.nil)))) (.two (.nil) (.two (.two (.nil) (.loop [2, 7, 9, 54] [false, false, false, false] (.nil))) (.nil))))))))))))
set_option maxRecDepth 100000 in
theorem hash_Sum.sound {a0 : AVal} {G : Heap} {Q : AVal → Heap → Prop} (h : hash_Sum.S a0 G Q) : ACalls P hash_Sum.n [a0] G Q := by
  have e : hash_Sum.S a0 G Q = awp cx (hash_Sum.body) hash_Sum.an (bodyQ T [.cell 2 28] Q) (envL [a0]) G := by kernel_rfl
  exact ACalls_of_awp cxOk (f := hash_Sum.n) (fn := Try.f66) (c := hash_Sum.body) (an := hash_Sum.an) Try.func66 (by kernel_rfl) (by kernel_rfl) (by kernel_rfl) (drawsOk_of (by kernel_rfl) (by kernel_rfl)) (by simp [Try.f66]) (e ▸ h)

end Go.Esc.M
