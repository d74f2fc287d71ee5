/- Printed by gen.py (own work): functions of the program Ytfcfjlijkmcgmaa over trees and the abstract heap. -/
import Derived.Test.YtfcfjlijkmcgmaaT
set_option linter.unusedSimpArgs false
set_option linter.unusedVariables false
namespace Go.Esc.M
open Go Go.Esc Go.Proofs

/-! #### (escrow/escrowlaw03.Val).kind -/
def escrowlaw03_Val_kind.S (a0 : AVal) (G : Heap) (Q : AVal → Heap → Prop) : Prop :=
  aNew G (.own (a0)) fun i1 G2 => wv (vload T G2 t_int (.ptr i1 [0] 0)) fun v3 => wv (vbin T .and t_int v3 (.int .i64 7)) fun v4 => Q v4 G2
def escrowlaw03_Val_kind.an : Ann := .nil
set_option maxRecDepth 100000 in
theorem escrowlaw03_Val_kind.sound {a0 : AVal} {G : Heap} {Q : AVal → Heap → Prop} (h : escrowlaw03_Val_kind.S a0 G Q) : ACalls P escrowlaw03_Val_kind.n [a0] G Q := by
  have e : escrowlaw03_Val_kind.S a0 G Q = awp cx (escrowlaw03_Val_kind.body) escrowlaw03_Val_kind.an (bodyQ T [.tmp 2] Q) (envL [a0]) G := by kernel_rfl
  exact ACalls_of_awp cxOk (f := escrowlaw03_Val_kind.n) (fn := Try.f57) (c := escrowlaw03_Val_kind.body) (an := escrowlaw03_Val_kind.an) Try.func57 (by kernel_rfl) (by kernel_rfl) (by kernel_rfl) (drawsOk_of (by kernel_rfl) (by kernel_rfl)) (by simp [Try.f57]) (e ▸ h)

/-! #### (*escrow/cursor.Writer).Hash -/
def cursor_Writer_Hash.S (a0 a1 : AVal) (G : Heap) (Q : AVal → Heap → Prop) : Prop :=
  aNew G (.own (a1)) fun i1 G2 => wv (vslice T t_api_Hash (.ptr i1 [] 0) none none none) fun v3 => wv (vconv T G2 t_sl_uint8 t_string v3) fun v4 => ACalls P cursor_Writer_Raw.n [a0, v4] G2 fun v5 G6 => Q (.tuple []) G6
def cursor_Writer_Hash.an : Ann := .nil
set_option maxRecDepth 100000 in
theorem cursor_Writer_Hash.sound {a0 a1 : AVal} {G : Heap} {Q : AVal → Heap → Prop} (h : cursor_Writer_Hash.S a0 a1 G Q) : ACalls P cursor_Writer_Hash.n [a0, a1] G Q := by
  have e : cursor_Writer_Hash.S a0 a1 G Q = awp cx (cursor_Writer_Hash.body) cursor_Writer_Hash.an (bodyQ T [] Q) (envL [a0, a1]) G := by kernel_rfl
  exact ACalls_of_awp cxOk (f := cursor_Writer_Hash.n) (fn := Try.f58) (c := cursor_Writer_Hash.body) (an := cursor_Writer_Hash.an) Try.func58 (by kernel_rfl) (by kernel_rfl) (by kernel_rfl) (drawsOk_of (by kernel_rfl) (by kernel_rfl)) (by simp [Try.f58]) (e ▸ h)

/-! #### (escrow/escrowlaw03.Val).text -/
def escrowlaw03_Val_text.S (a0 : AVal) (G : Heap) (Q : AVal → Heap → Prop) : Prop :=
  aNew G (.own (a0)) fun i1 G2 => wv (vload T G2 t_string (.ptr i1 [4] 35)) fun v3 => ∀ R4 : List AVal → Heap → Prop,
  (∀ (x6 x7 x8 : AVal) (G5 : Heap), (let J21 : AVal → Heap → Prop := (fun x16 G15 => brB (some x16)
  (wv (vfaddr T t_escrowlaw03_Val x6 4) fun v17 => wv (vload T G15 t_string v17) fun v18 => wv (vbin T .add t_string x7 v18) fun v19 => wv (vbin T .add t_int x8 (.int .i64 1)) fun v20 => R4 [x6, v19, v20] G15)
  (Q x7 G15));
  wv (vfaddr T t_escrowlaw03_Val x6 5) fun v9 => wv (vload T G5 t_int v9) fun v10 => wv (vbin T .lss t_int x8 v10) fun v11 => brB (some v11)
  (wv (vlen T G5 t_string x7) fun v12 => wv (vbin T .lss t_int v12 (.int .i64 70000)) fun v13 => brB (some v13)
  (wv (vbin T .neq t_string x7 (.str [])) fun v14 => J21 v14 G5)
  (J21 (.bool false) G5))
  (J21 (.bool false) G5)) → R4 [x6, x7, x8] G5) →
  R4 [.ptr i1 [] 0, v3, .int .i64 1] G2
def escrowlaw03_Val_text.an : Ann := .two (.nil) (.two (.nil) (.two (.two (.nil) (.loop [1, 3, 4] (.nil))) (.nil)))
set_option maxRecDepth 100000 in
theorem escrowlaw03_Val_text.sound {a0 : AVal} {G : Heap} {Q : AVal → Heap → Prop} (h : escrowlaw03_Val_text.S a0 G Q) : ACalls P escrowlaw03_Val_text.n [a0] G Q := by
  have e : escrowlaw03_Val_text.S a0 G Q = awp cx (escrowlaw03_Val_text.body) escrowlaw03_Val_text.an (bodyQ T [.tmp 2] Q) (envL [a0]) G := by kernel_rfl
  exact ACalls_of_awp cxOk (f := escrowlaw03_Val_text.n) (fn := Try.f59) (c := escrowlaw03_Val_text.body) (an := escrowlaw03_Val_text.an) Try.func59 (by kernel_rfl) (by kernel_rfl) (by kernel_rfl) (drawsOk_of (by kernel_rfl) (by kernel_rfl)) (by simp [Try.f59]) (e ▸ h)

/-! #### escrow/escrowlaw03.lays -/
def escrowlaw03_lays.S (a0 a1 : AVal) (G : Heap) (Q : AVal → Heap → Prop) : Prop :=
  aNew G (.own (a1)) fun i1 G2 => wv (vload T G2 t_escrowlaw03_Val (.ptr i1 [] 0)) fun v3 => ACalls P escrowlaw03_Val_kind.n [v3] G2 fun v4 G5 => wv (vbin T .eql t_int v4 (.int .i64 0)) fun v6 => brB (some v6)
  (wv (vload T G5 t_uint64 (.ptr i1 [1] 1)) fun v7 => wv (vconv T G5 t_uint64 t_uint8 v7) fun v8 => ACalls P cursor_Writer_U8.n [a0, v8] G5 fun v9 G10 => Q (.tuple []) G10)
  (wv (vbin T .eql t_int v4 (.int .i64 1)) fun v11 => brB (some v11)
  (wv (vload T G5 t_uint64 (.ptr i1 [1] 1)) fun v12 => wv (vconv T G5 t_uint64 t_uint16 v12) fun v13 => ACalls P cursor_Writer_U16.n [a0, v13] G5 fun v14 G15 => Q (.tuple []) G15)
  (wv (vbin T .eql t_int v4 (.int .i64 2)) fun v16 => brB (some v16)
  (wv (vload T G5 t_uint64 (.ptr i1 [1] 1)) fun v17 => wv (vconv T G5 t_uint64 t_uint32 v17) fun v18 => ACalls P cursor_Writer_U32.n [a0, v18] G5 fun v19 G20 => Q (.tuple []) G20)
  (wv (vbin T .eql t_int v4 (.int .i64 3)) fun v21 => brB (some v21)
  (wv (vload T G5 t_uint64 (.ptr i1 [1] 1)) fun v22 => ACalls P cursor_Writer_U64.n [a0, v22] G5 fun v23 G24 => Q (.tuple []) G24)
  (wv (vbin T .eql t_int v4 (.int .i64 4)) fun v25 => brB (some v25)
  (wv (vload T G5 t_int64 (.ptr i1 [2] 2)) fun v26 => ACalls P cursor_Writer_I64.n [a0, v26] G5 fun v27 G28 => Q (.tuple []) G28)
  (wv (vbin T .eql t_int v4 (.int .i64 5)) fun v29 => brB (some v29)
  (wv (vload T G5 t_api_Hash (.ptr i1 [3] 3)) fun v30 => ACalls P cursor_Writer_Hash.n [a0, v30] G5 fun v31 G32 => Q (.tuple []) G32)
  (wv (vbin T .eql t_int v4 (.int .i64 6)) fun v33 => brB (some v33)
  (wv (vload T G5 t_escrowlaw03_Val (.ptr i1 [] 0)) fun v34 => ACalls P escrowlaw03_Val_text.n [v34] G5 fun v35 G36 => ACalls P cursor_Writer_Text.n [a0, v35] G36 fun v37 G38 => Q (.tuple []) G38)
  (wv (vbin T .eql t_int v4 (.int .i64 7)) fun v39 => brB (some v39)
  (wv (vload T G5 t_escrowlaw03_Val (.ptr i1 [] 0)) fun v40 => ACalls P escrowlaw03_Val_text.n [v40] G5 fun v41 G42 => ACalls P cursor_Writer_Raw.n [a0, v41] G42 fun v43 G44 => Q (.tuple []) G44)
  (Q (.tuple []) G5))))))))
def escrowlaw03_lays.an : Ann := .nil
set_option maxRecDepth 100000 in
theorem escrowlaw03_lays.sound {a0 a1 : AVal} {G : Heap} {Q : AVal → Heap → Prop} (h : escrowlaw03_lays.S a0 a1 G Q) : ACalls P escrowlaw03_lays.n [a0, a1] G Q := by
  have e : escrowlaw03_lays.S a0 a1 G Q = awp cx (escrowlaw03_lays.body) escrowlaw03_lays.an (bodyQ T [] Q) (envL [a0, a1]) G := by kernel_rfl
  exact ACalls_of_awp cxOk (f := escrowlaw03_lays.n) (fn := Try.f25) (c := escrowlaw03_lays.body) (an := escrowlaw03_lays.an) Try.func25 (by kernel_rfl) (by kernel_rfl) (by kernel_rfl) (drawsOk_of (by kernel_rfl) (by kernel_rfl)) (by simp [Try.f25]) (e ▸ h)

/-! #### (*escrow/escrowref03.Writer).lay -/
def escrowref03_Writer_lay.S (a0 a1 : AVal) (G : Heap) (Q : AVal → Heap → Prop) : Prop :=
  wv (vnil a0) fun v1 => wv (vfaddr T t_escrowref03_Writer v1 1) fun v2 => wv (vload T G t_api_Errno v2) fun v3 => wv (vbin T .eql t_api_Errno v3 (.int .i64 0)) fun v4 => brB (some v4)
  (wv (vnil a0) fun v5 => wv (vfaddr T t_escrowref03_Writer v5 0) fun v6 => wv (vload T G t_sl_uint8 v6) fun v7 => aAppend T G t_sl_uint8 t_string v7 a1 fun v8 G9 => wv (vnil a0) fun v10 => wv (vfaddr T t_escrowref03_Writer v10 0) fun v11 => wg (vstore T G9 t_sl_uint8 v11 v8) fun G12 => Q (.tuple []) G12)
  (Q (.tuple []) G)
def escrowref03_Writer_lay.an : Ann := .nil
set_option maxRecDepth 100000 in
theorem escrowref03_Writer_lay.sound {a0 a1 : AVal} {G : Heap} {Q : AVal → Heap → Prop} (h : escrowref03_Writer_lay.S a0 a1 G Q) : ACalls P escrowref03_Writer_lay.n [a0, a1] G Q := by
  have e : escrowref03_Writer_lay.S a0 a1 G Q = awp cx (escrowref03_Writer_lay.body) escrowref03_Writer_lay.an (bodyQ T [] Q) (envL [a0, a1]) G := by kernel_rfl
  exact ACalls_of_awp cxOk (f := escrowref03_Writer_lay.n) (fn := Try.f88) (c := escrowref03_Writer_lay.body) (an := escrowref03_Writer_lay.an) Try.func88 (by kernel_rfl) (by kernel_rfl) (by kernel_rfl) (drawsOk_of (by kernel_rfl) (by kernel_rfl)) (by simp [Try.f88]) (e ▸ h)

/-! #### escrow/escrowref03.Bytes -/
def escrowref03_Bytes.S (a0 a1 : AVal) (G : Heap) (Q : AVal → Heap → Prop) : Prop :=
  wv (vbin T .sub t_int a1 (.int .i64 1)) fun v1 => ∀ R2 : List AVal → Heap → Prop,
  (∀ (x4 x5 x6 : AVal) (G3 : Heap), (wv (vbin T .geq t_int x6 (.int .i64 0)) fun v7 => brB (some v7)
  (wv (vconv T G3 t_int t_uint x6) fun v8 => wv (vbin T .mul t_uint (.int .u64 8) v8) fun v9 => wv (vbin T .shr t_uint64 x4 v9) fun v10 => wv (vconv T G3 t_uint64 t_uint8 v10) fun v11 => aBuildSlice T t_sl_uint8 1 [(0, v11)] G3 fun v12 G13 => aAppend T G13 t_sl_uint8 t_sl_uint8 x5 v12 fun v14 G15 => wv (vbin T .sub t_int x6 (.int .i64 1)) fun v16 => R2 [x4, v14, v16] G15)
  (wv (vconv T G3 t_sl_uint8 t_string x5) fun v17 => Q v17 G3)) → R2 [x4, x5, x6] G3) →
  R2 [a0, .nilSlice, v1] G
def escrowref03_Bytes.an : Ann := .two (.nil) (.two (.nil) (.two (.two (.nil) (.loop [0, 5, 6] (.nil))) (.nil)))
set_option maxRecDepth 100000 in
theorem escrowref03_Bytes.sound {a0 a1 : AVal} {G : Heap} {Q : AVal → Heap → Prop} (h : escrowref03_Bytes.S a0 a1 G Q) : ACalls P escrowref03_Bytes.n [a0, a1] G Q := by
  have e : escrowref03_Bytes.S a0 a1 G Q = awp cx (escrowref03_Bytes.body) escrowref03_Bytes.an (bodyQ T [.tmp 4] Q) (envL [a0, a1]) G := by kernel_rfl
  exact ACalls_of_awp cxOk (f := escrowref03_Bytes.n) (fn := Try.f89) (c := escrowref03_Bytes.body) (an := escrowref03_Bytes.an) Try.func89 (by kernel_rfl) (by kernel_rfl) (by kernel_rfl) (drawsOk_of (by kernel_rfl) (by kernel_rfl)) (by simp [Try.f89]) (e ▸ h)

/-! #### (*escrow/escrowref03.Writer).U8 -/
def escrowref03_Writer_U8.S (a0 a1 : AVal) (G : Heap) (Q : AVal → Heap → Prop) : Prop :=
  wv (vconv T G t_uint8 t_uint64 a1) fun v1 => ACalls P escrowref03_Bytes.n [v1, .int .i64 1] G fun v2 G3 => ACalls P escrowref03_Writer_lay.n [a0, v2] G3 fun v4 G5 => Q (.tuple []) G5
def escrowref03_Writer_U8.an : Ann := .nil
set_option maxRecDepth 100000 in
theorem escrowref03_Writer_U8.sound {a0 a1 : AVal} {G : Heap} {Q : AVal → Heap → Prop} (h : escrowref03_Writer_U8.S a0 a1 G Q) : ACalls P escrowref03_Writer_U8.n [a0, a1] G Q := by
  have e : escrowref03_Writer_U8.S a0 a1 G Q = awp cx (escrowref03_Writer_U8.body) escrowref03_Writer_U8.an (bodyQ T [] Q) (envL [a0, a1]) G := by kernel_rfl
  exact ACalls_of_awp cxOk (f := escrowref03_Writer_U8.n) (fn := Try.f60) (c := escrowref03_Writer_U8.body) (an := escrowref03_Writer_U8.an) Try.func60 (by kernel_rfl) (by kernel_rfl) (by kernel_rfl) (drawsOk_of (by kernel_rfl) (by kernel_rfl)) (by simp [Try.f60]) (e ▸ h)

/-! #### (*escrow/escrowref03.Writer).U16 -/
def escrowref03_Writer_U16.S (a0 a1 : AVal) (G : Heap) (Q : AVal → Heap → Prop) : Prop :=
  wv (vconv T G t_uint16 t_uint64 a1) fun v1 => ACalls P escrowref03_Bytes.n [v1, .int .i64 2] G fun v2 G3 => ACalls P escrowref03_Writer_lay.n [a0, v2] G3 fun v4 G5 => Q (.tuple []) G5
def escrowref03_Writer_U16.an : Ann := .nil
set_option maxRecDepth 100000 in
theorem escrowref03_Writer_U16.sound {a0 a1 : AVal} {G : Heap} {Q : AVal → Heap → Prop} (h : escrowref03_Writer_U16.S a0 a1 G Q) : ACalls P escrowref03_Writer_U16.n [a0, a1] G Q := by
  have e : escrowref03_Writer_U16.S a0 a1 G Q = awp cx (escrowref03_Writer_U16.body) escrowref03_Writer_U16.an (bodyQ T [] Q) (envL [a0, a1]) G := by kernel_rfl
  exact ACalls_of_awp cxOk (f := escrowref03_Writer_U16.n) (fn := Try.f61) (c := escrowref03_Writer_U16.body) (an := escrowref03_Writer_U16.an) Try.func61 (by kernel_rfl) (by kernel_rfl) (by kernel_rfl) (drawsOk_of (by kernel_rfl) (by kernel_rfl)) (by simp [Try.f61]) (e ▸ h)

/-! #### (*escrow/escrowref03.Writer).U32 -/
def escrowref03_Writer_U32.S (a0 a1 : AVal) (G : Heap) (Q : AVal → Heap → Prop) : Prop :=
  wv (vconv T G t_uint32 t_uint64 a1) fun v1 => ACalls P escrowref03_Bytes.n [v1, .int .i64 4] G fun v2 G3 => ACalls P escrowref03_Writer_lay.n [a0, v2] G3 fun v4 G5 => Q (.tuple []) G5
def escrowref03_Writer_U32.an : Ann := .nil
set_option maxRecDepth 100000 in
theorem escrowref03_Writer_U32.sound {a0 a1 : AVal} {G : Heap} {Q : AVal → Heap → Prop} (h : escrowref03_Writer_U32.S a0 a1 G Q) : ACalls P escrowref03_Writer_U32.n [a0, a1] G Q := by
  have e : escrowref03_Writer_U32.S a0 a1 G Q = awp cx (escrowref03_Writer_U32.body) escrowref03_Writer_U32.an (bodyQ T [] Q) (envL [a0, a1]) G := by kernel_rfl
  exact ACalls_of_awp cxOk (f := escrowref03_Writer_U32.n) (fn := Try.f62) (c := escrowref03_Writer_U32.body) (an := escrowref03_Writer_U32.an) Try.func62 (by kernel_rfl) (by kernel_rfl) (by kernel_rfl) (drawsOk_of (by kernel_rfl) (by kernel_rfl)) (by simp [Try.f62]) (e ▸ h)

/-! #### (*escrow/escrowref03.Writer).U64 -/
def escrowref03_Writer_U64.S (a0 a1 : AVal) (G : Heap) (Q : AVal → Heap → Prop) : Prop :=
  ACalls P escrowref03_Bytes.n [a1, .int .i64 8] G fun v1 G2 => ACalls P escrowref03_Writer_lay.n [a0, v1] G2 fun v3 G4 => Q (.tuple []) G4
def escrowref03_Writer_U64.an : Ann := .nil
set_option maxRecDepth 100000 in
theorem escrowref03_Writer_U64.sound {a0 a1 : AVal} {G : Heap} {Q : AVal → Heap → Prop} (h : escrowref03_Writer_U64.S a0 a1 G Q) : ACalls P escrowref03_Writer_U64.n [a0, a1] G Q := by
  have e : escrowref03_Writer_U64.S a0 a1 G Q = awp cx (escrowref03_Writer_U64.body) escrowref03_Writer_U64.an (bodyQ T [] Q) (envL [a0, a1]) G := by kernel_rfl
  exact ACalls_of_awp cxOk (f := escrowref03_Writer_U64.n) (fn := Try.f63) (c := escrowref03_Writer_U64.body) (an := escrowref03_Writer_U64.an) Try.func63 (by kernel_rfl) (by kernel_rfl) (by kernel_rfl) (drawsOk_of (by kernel_rfl) (by kernel_rfl)) (by simp [Try.f63]) (e ▸ h)

/-! #### (*escrow/escrowref03.Writer).I64 -/
def escrowref03_Writer_I64.S (a0 a1 : AVal) (G : Heap) (Q : AVal → Heap → Prop) : Prop :=
  wv (vconv T G t_int64 t_uint64 a1) fun v1 => ACalls P escrowref03_Bytes.n [v1, .int .i64 8] G fun v2 G3 => ACalls P escrowref03_Writer_lay.n [a0, v2] G3 fun v4 G5 => Q (.tuple []) G5
def escrowref03_Writer_I64.an : Ann := .nil
set_option maxRecDepth 100000 in
theorem escrowref03_Writer_I64.sound {a0 a1 : AVal} {G : Heap} {Q : AVal → Heap → Prop} (h : escrowref03_Writer_I64.S a0 a1 G Q) : ACalls P escrowref03_Writer_I64.n [a0, a1] G Q := by
  have e : escrowref03_Writer_I64.S a0 a1 G Q = awp cx (escrowref03_Writer_I64.body) escrowref03_Writer_I64.an (bodyQ T [] Q) (envL [a0, a1]) G := by kernel_rfl
  exact ACalls_of_awp cxOk (f := escrowref03_Writer_I64.n) (fn := Try.f64) (c := escrowref03_Writer_I64.body) (an := escrowref03_Writer_I64.an) Try.func64 (by kernel_rfl) (by kernel_rfl) (by kernel_rfl) (drawsOk_of (by kernel_rfl) (by kernel_rfl)) (by simp [Try.f64]) (e ▸ h)

/-! #### (*escrow/escrowref03.Writer).Hash -/
def escrowref03_Writer_Hash.S (a0 a1 : AVal) (G : Heap) (Q : AVal → Heap → Prop) : Prop :=
  aNew G (.own (a1)) fun i1 G2 => ∀ R3 : List AVal → Heap → Prop,
  (∀ (x5 x6 x7 : AVal) (G4 : Heap), (wv (vbin T .lss t_int x7 (.int .i64 32)) fun v8 => brB (some v8)
  (wv (viaddr T t_api_Hash x6 x7) fun v9 => wv (vload T G4 t_uint8 v9) fun v10 => wv (vconv T G4 t_uint8 t_uint64 v10) fun v11 => ACalls P escrowref03_Bytes.n [v11, .int .i64 1] G4 fun v12 G13 => ACalls P escrowref03_Writer_lay.n [x5, v12] G13 fun v14 G15 => wv (vbin T .add t_int x7 (.int .i64 1)) fun v16 => R3 [x5, x6, v16] G15)
  (Q (.tuple []) G4)) → R3 [x5, x6, x7] G4) →
  R3 [a0, .ptr i1 [] 0, .int .i64 0] G2
def escrowref03_Writer_Hash.an : Ann := .two (.nil) (.two (.nil) (.loop [0, 3, 4] (.nil)))
set_option maxRecDepth 100000 in
theorem escrowref03_Writer_Hash.sound {a0 a1 : AVal} {G : Heap} {Q : AVal → Heap → Prop} (h : escrowref03_Writer_Hash.S a0 a1 G Q) : ACalls P escrowref03_Writer_Hash.n [a0, a1] G Q := by
  have e : escrowref03_Writer_Hash.S a0 a1 G Q = awp cx (escrowref03_Writer_Hash.body) escrowref03_Writer_Hash.an (bodyQ T [] Q) (envL [a0, a1]) G := by kernel_rfl
  exact ACalls_of_awp cxOk (f := escrowref03_Writer_Hash.n) (fn := Try.f65) (c := escrowref03_Writer_Hash.body) (an := escrowref03_Writer_Hash.an) Try.func65 (by kernel_rfl) (by kernel_rfl) (by kernel_rfl) (drawsOk_of (by kernel_rfl) (by kernel_rfl)) (by simp [Try.f65]) (e ▸ h)

/-! #### (*escrow/escrowref03.Writer).Text -/
def escrowref03_Writer_Text.S (a0 a1 : AVal) (G : Heap) (Q : AVal → Heap → Prop) : Prop :=
  wv (vlen T G t_string a1) fun v1 => wv (vbin T .gtr t_int v1 (.int .i64 65535)) fun v2 => brB (some v2)
  (wv (vnil a0) fun v3 => wv (vfaddr T t_escrowref03_Writer v3 1) fun v4 => wv (vload T G t_api_Errno v4) fun v5 => wv (vbin T .eql t_api_Errno v5 (.int .i64 0)) fun v6 => brB (some v6)
  (wv (vnil a0) fun v7 => wv (vfaddr T t_escrowref03_Writer v7 1) fun v8 => wg (vstore T G t_api_Errno v8 (.int .i64 3)) fun G9 => Q (.tuple []) G9)
  (Q (.tuple []) G))
  (wv (vlen T G t_string a1) fun v11 => wv (vconv T G t_int t_uint64 v11) fun v12 => ACalls P escrowref03_Bytes.n [v12, .int .i64 2] G fun v13 G14 => ACalls P escrowref03_Writer_lay.n [a0, v13] G14 fun v15 G16 => ACalls P escrowref03_Writer_lay.n [a0, a1] G16 fun v17 G18 => Q (.tuple []) G18)
def escrowref03_Writer_Text.an : Ann := .nil
set_option maxRecDepth 100000 in
theorem escrowref03_Writer_Text.sound {a0 a1 : AVal} {G : Heap} {Q : AVal → Heap → Prop} (h : escrowref03_Writer_Text.S a0 a1 G Q) : ACalls P escrowref03_Writer_Text.n [a0, a1] G Q := by
  have e : escrowref03_Writer_Text.S a0 a1 G Q = awp cx (escrowref03_Writer_Text.body) escrowref03_Writer_Text.an (bodyQ T [] Q) (envL [a0, a1]) G := by kernel_rfl
  exact ACalls_of_awp cxOk (f := escrowref03_Writer_Text.n) (fn := Try.f66) (c := escrowref03_Writer_Text.body) (an := escrowref03_Writer_Text.an) Try.func66 (by kernel_rfl) (by kernel_rfl) (by kernel_rfl) (drawsOk_of (by kernel_rfl) (by kernel_rfl)) (by simp [Try.f66]) (e ▸ h)

/-! #### (*escrow/escrowref03.Writer).Raw -/
def escrowref03_Writer_Raw.S (a0 a1 : AVal) (G : Heap) (Q : AVal → Heap → Prop) : Prop :=
  ACalls P escrowref03_Writer_lay.n [a0, a1] G fun v1 G2 => Q (.tuple []) G2
def escrowref03_Writer_Raw.an : Ann := .nil
set_option maxRecDepth 100000 in
theorem escrowref03_Writer_Raw.sound {a0 a1 : AVal} {G : Heap} {Q : AVal → Heap → Prop} (h : escrowref03_Writer_Raw.S a0 a1 G Q) : ACalls P escrowref03_Writer_Raw.n [a0, a1] G Q := by
  have e : escrowref03_Writer_Raw.S a0 a1 G Q = awp cx (escrowref03_Writer_Raw.body) escrowref03_Writer_Raw.an (bodyQ T [] Q) (envL [a0, a1]) G := by kernel_rfl
  exact ACalls_of_awp cxOk (f := escrowref03_Writer_Raw.n) (fn := Try.f67) (c := escrowref03_Writer_Raw.body) (an := escrowref03_Writer_Raw.an) Try.func67 (by kernel_rfl) (by kernel_rfl) (by kernel_rfl) (drawsOk_of (by kernel_rfl) (by kernel_rfl)) (by simp [Try.f67]) (e ▸ h)

/-! #### escrow/escrowlaw03.wants -/
def escrowlaw03_wants.S (a0 a1 : AVal) (G : Heap) (Q : AVal → Heap → Prop) : Prop :=
  aNew G (.own (a1)) fun i1 G2 => wv (vload T G2 t_escrowlaw03_Val (.ptr i1 [] 0)) fun v3 => ACalls P escrowlaw03_Val_kind.n [v3] G2 fun v4 G5 => wv (vbin T .eql t_int v4 (.int .i64 0)) fun v6 => brB (some v6)
  (wv (vload T G5 t_uint64 (.ptr i1 [1] 1)) fun v7 => wv (vconv T G5 t_uint64 t_uint8 v7) fun v8 => ACalls P escrowref03_Writer_U8.n [a0, v8] G5 fun v9 G10 => Q (.tuple []) G10)
  (wv (vbin T .eql t_int v4 (.int .i64 1)) fun v11 => brB (some v11)
  (wv (vload T G5 t_uint64 (.ptr i1 [1] 1)) fun v12 => wv (vconv T G5 t_uint64 t_uint16 v12) fun v13 => ACalls P escrowref03_Writer_U16.n [a0, v13] G5 fun v14 G15 => Q (.tuple []) G15)
  (wv (vbin T .eql t_int v4 (.int .i64 2)) fun v16 => brB (some v16)
  (wv (vload T G5 t_uint64 (.ptr i1 [1] 1)) fun v17 => wv (vconv T G5 t_uint64 t_uint32 v17) fun v18 => ACalls P escrowref03_Writer_U32.n [a0, v18] G5 fun v19 G20 => Q (.tuple []) G20)
  (wv (vbin T .eql t_int v4 (.int .i64 3)) fun v21 => brB (some v21)
  (wv (vload T G5 t_uint64 (.ptr i1 [1] 1)) fun v22 => ACalls P escrowref03_Writer_U64.n [a0, v22] G5 fun v23 G24 => Q (.tuple []) G24)
  (wv (vbin T .eql t_int v4 (.int .i64 4)) fun v25 => brB (some v25)
  (wv (vload T G5 t_int64 (.ptr i1 [2] 2)) fun v26 => ACalls P escrowref03_Writer_I64.n [a0, v26] G5 fun v27 G28 => Q (.tuple []) G28)
  (wv (vbin T .eql t_int v4 (.int .i64 5)) fun v29 => brB (some v29)
  (wv (vload T G5 t_api_Hash (.ptr i1 [3] 3)) fun v30 => ACalls P escrowref03_Writer_Hash.n [a0, v30] G5 fun v31 G32 => Q (.tuple []) G32)
  (wv (vbin T .eql t_int v4 (.int .i64 6)) fun v33 => brB (some v33)
  (wv (vload T G5 t_escrowlaw03_Val (.ptr i1 [] 0)) fun v34 => ACalls P escrowlaw03_Val_text.n [v34] G5 fun v35 G36 => ACalls P escrowref03_Writer_Text.n [a0, v35] G36 fun v37 G38 => Q (.tuple []) G38)
  (wv (vbin T .eql t_int v4 (.int .i64 7)) fun v39 => brB (some v39)
  (wv (vload T G5 t_escrowlaw03_Val (.ptr i1 [] 0)) fun v40 => ACalls P escrowlaw03_Val_text.n [v40] G5 fun v41 G42 => ACalls P escrowref03_Writer_Raw.n [a0, v41] G42 fun v43 G44 => Q (.tuple []) G44)
  (Q (.tuple []) G5))))))))
def escrowlaw03_wants.an : Ann := .nil
set_option maxRecDepth 100000 in
theorem escrowlaw03_wants.sound {a0 a1 : AVal} {G : Heap} {Q : AVal → Heap → Prop} (h : escrowlaw03_wants.S a0 a1 G Q) : ACalls P escrowlaw03_wants.n [a0, a1] G Q := by
  have e : escrowlaw03_wants.S a0 a1 G Q = awp cx (escrowlaw03_wants.body) escrowlaw03_wants.an (bodyQ T [] Q) (envL [a0, a1]) G := by kernel_rfl
  exact ACalls_of_awp cxOk (f := escrowlaw03_wants.n) (fn := Try.f26) (c := escrowlaw03_wants.body) (an := escrowlaw03_wants.an) Try.func26 (by kernel_rfl) (by kernel_rfl) (by kernel_rfl) (drawsOk_of (by kernel_rfl) (by kernel_rfl)) (by simp [Try.f26]) (e ▸ h)

/-! #### (*escrow/escrowref03.Writer).Out -/
def escrowref03_Writer_Out.S (a0 : AVal) (G : Heap) (Q : AVal → Heap → Prop) : Prop :=
  wv (vnil a0) fun v1 => wv (vfaddr T t_escrowref03_Writer v1 1) fun v2 => wv (vload T G t_api_Errno v2) fun v3 => wv (vbin T .neq t_api_Errno v3 (.int .i64 0)) fun v4 => brB (some v4)
  (wv (vnil a0) fun v5 => wv (vfaddr T t_escrowref03_Writer v5 1) fun v6 => wv (vload T G t_api_Errno v6) fun v7 => Q (.tuple [.str [], v7]) G)
  (wv (vnil a0) fun v8 => wv (vfaddr T t_escrowref03_Writer v8 0) fun v9 => wv (vload T G t_sl_uint8 v9) fun v10 => wv (vconv T G t_sl_uint8 t_string v10) fun v11 => Q (.tuple [v11, .int .i64 0]) G)
def escrowref03_Writer_Out.an : Ann := .two (.nil) (.two (.two (.nil) (.two (.two (.ord [(0, []), (1, []), (2, []), (3, []), (4, []), (5, [])]) (.nil)) (.nil))) (.nil))
set_option maxRecDepth 100000 in
theorem escrowref03_Writer_Out.sound {a0 : AVal} {G : Heap} {Q : AVal → Heap → Prop} (h : escrowref03_Writer_Out.S a0 G Q) : ACalls P escrowref03_Writer_Out.n [a0] G Q := by
  have e : escrowref03_Writer_Out.S a0 G Q = awp cx (escrowref03_Writer_Out.body) escrowref03_Writer_Out.an (bodyQ T [.tmp 2, .tmp 3] Q) (envL [a0]) G := by kernel_rfl
  exact ACalls_of_awp cxOk (f := escrowref03_Writer_Out.n) (fn := Try.f28) (c := escrowref03_Writer_Out.body) (an := escrowref03_Writer_Out.an) Try.func28 (by kernel_rfl) (by kernel_rfl) (by kernel_rfl) (drawsOk_of (by kernel_rfl) (by kernel_rfl)) (by simp [Try.f28]) (e ▸ h)

/-! #### (*escrow/escrowref03.Writer).Len -/
def escrowref03_Writer_Len.S (a0 : AVal) (G : Heap) (Q : AVal → Heap → Prop) : Prop :=
  wv (vnil a0) fun v1 => wv (vfaddr T t_escrowref03_Writer v1 1) fun v2 => wv (vload T G t_api_Errno v2) fun v3 => wv (vbin T .neq t_api_Errno v3 (.int .i64 0)) fun v4 => brB (some v4)
  (Q (.int .i64 0) G)
  (wv (vnil a0) fun v5 => wv (vfaddr T t_escrowref03_Writer v5 0) fun v6 => wv (vload T G t_sl_uint8 v6) fun v7 => wv (vlen T G t_sl_uint8 v7) fun v8 => Q v8 G)
def escrowref03_Writer_Len.an : Ann := .nil
set_option maxRecDepth 100000 in
theorem escrowref03_Writer_Len.sound {a0 : AVal} {G : Heap} {Q : AVal → Heap → Prop} (h : escrowref03_Writer_Len.S a0 G Q) : ACalls P escrowref03_Writer_Len.n [a0] G Q := by
  have e : escrowref03_Writer_Len.S a0 G Q = awp cx (escrowref03_Writer_Len.body) escrowref03_Writer_Len.an (bodyQ T [.tmp 2] Q) (envL [a0]) G := by kernel_rfl
  exact ACalls_of_awp cxOk (f := escrowref03_Writer_Len.n) (fn := Try.f30) (c := escrowref03_Writer_Len.body) (an := escrowref03_Writer_Len.an) Try.func30 (by kernel_rfl) (by kernel_rfl) (by kernel_rfl) (drawsOk_of (by kernel_rfl) (by kernel_rfl)) (by simp [Try.f30]) (e ▸ h)

/-! #### escrow/escrowlaw03.CursorWrites -/
def escrowlaw03_CursorWrites.S (a0 : AVal) (G : Heap) (Q : AVal → Heap → Prop) : Prop :=
  ACalls P escrowlaw03_head.n [] G fun v1 G2 => wv (vun .not v1) fun v3 => brB (some v3)
  (Q (.bool false) G2)
  (ACalls P cursor_New.n [] G2 fun v4 G5 => ACalls P cursor_New.n [] G5 fun v6 G7 => wv (vbuild T t_ar2_cursor_Writer [(0, v4), (1, v6)]) fun v8 => aNew G7 (.own (z_ar2_cursor_Writer)) fun i9 G10 => wg (vstore T G10 t_ar2_cursor_Writer (.ptr i9 [] 0) v8) fun G11 => ACalls P escrowref03_New.n [] G11 fun v12 G13 => ACalls P escrowref03_New.n [] G13 fun v14 G15 => wv (vbuild T t_ar2_escrowref03_Writer [(0, v12), (1, v14)]) fun v16 => aNew G15 (.own (z_ar2_escrowref03_Writer)) fun i17 G18 => wg (vstore T G18 t_ar2_escrowref03_Writer (.ptr i17 [] 0) v16) fun G19 => let J93 : AVal → Heap → Prop := (fun x27 G26 => brB (some x27)
  (Q (.bool false) G26)
  (∀ R28 : List AVal → Heap → Prop,
  (∀ (x30 x31 x32 x33 : AVal) (G29 : Heap), (wv (vlen T G29 t_sl_escrowlaw03_Op x30) fun v34 => wv (vbin T .lss t_int x33 v34) fun v35 => brB (some v35)
  (wv (viaddr T t_sl_escrowlaw03_Op x30 x33) fun v36 => wv (vfaddr T t_escrowlaw03_Op v36 0) fun v37 => wv (vload T G29 t_bool v37) fun v38 => let J91 : AVal → Heap → Prop := (fun x40 G39 => wv (viaddr T t_ar2_cursor_Writer x31 x40) fun v41 => wv (vload T G39 t_pt_cursor_Writer v41) fun v42 => wv (viaddr T t_sl_escrowlaw03_Op x30 x33) fun v43 => wv (vfaddr T t_escrowlaw03_Op v43 1) fun v44 => wv (vload T G39 t_escrowlaw03_Val v44) fun v45 => ACalls P escrowlaw03_lays.n [v42, v45] G39 fun v46 G47 => wv (viaddr T t_ar2_escrowref03_Writer x32 x40) fun v48 => wv (vload T G47 t_pt_escrowref03_Writer v48) fun v49 => wv (viaddr T t_sl_escrowlaw03_Op x30 x33) fun v50 => wv (vfaddr T t_escrowlaw03_Op v50 1) fun v51 => wv (vload T G47 t_escrowlaw03_Val v51) fun v52 => ACalls P escrowlaw03_wants.n [v49, v52] G47 fun v53 G54 => ∀ R55 : List AVal → Heap → Prop,
  (∀ (x57 x58 x59 x60 x61 : AVal) (G56 : Heap), (wv (vbin T .lss t_int x61 (.int .i64 2)) fun v62 => brB (some v62)
  (wv (viaddr T t_ar2_cursor_Writer x58 x61) fun v63 => wv (vload T G56 t_pt_cursor_Writer v63) fun v64 => ACalls P cursor_Writer_Out.n [v64] G56 fun v65 G66 => wv (vextract v65 0) fun v67 => wv (vextract v65 1) fun v68 => wv (viaddr T t_ar2_escrowref03_Writer x59 x61) fun v69 => wv (vload T G66 t_pt_escrowref03_Writer v69) fun v70 => ACalls P escrowref03_Writer_Out.n [v70] G66 fun v71 G72 => wv (vextract v71 0) fun v73 => wv (vextract v71 1) fun v74 => wv (vbin T .neq t_string v67 v73) fun v75 => brB (some v75)
  (Q (.bool false) G72)
  (wv (vbin T .neq t_api_Errno v68 v74) fun v76 => brB (some v76)
  (Q (.bool false) G72)
  (wv (viaddr T t_ar2_cursor_Writer x58 x61) fun v77 => wv (vload T G72 t_pt_cursor_Writer v77) fun v78 => wv (viaddr T t_ar2_escrowref03_Writer x59 x61) fun v79 => wv (vload T G72 t_pt_escrowref03_Writer v79) fun v80 => ACalls P cursor_Writer_Len.n [v78] G72 fun v81 G82 => (vload T G82 t_pt_escrowref03_Writer v79 = some v80 ∧ True) ∧ (ACalls P escrowref03_Writer_Len.n [v80] G82 fun v83 G84 => wv (vbin T .neq t_int v81 v83) fun v85 => brB (some v85)
  (Q (.bool false) G84)
  (wv (vbin T .add t_int x61 (.int .i64 1)) fun v90 => R55 [x57, x58, x59, x60, v90] G84)))))
  (wv (vbin T .add t_int x60 (.int .i64 1)) fun v92 => R28 [x57, x58, x59, v92] G56)) → R55 [x57, x58, x59, x60, x61] G56) →
  R55 [x30, x31, x32, x33, .int .i64 0] G54);
  brB (some v38)
  (J91 (.int .i64 1) G29)
  (J91 (.int .i64 0) G29))
  (Q (.bool true) G29)) → R28 [x30, x31, x32, x33] G29) →
  R28 [a0, .ptr i9 [] 0, .ptr i17 [] 0, .int .i64 0] G26));
  wv (viaddr T t_ar2_cursor_Writer (.ptr i9 [] 0) (.int .i64 0)) fun v20 => wv (vload T G19 t_pt_cursor_Writer v20) fun v21 => wv (vbin T .eql t_pt_cursor_Writer v21 (.nilPtr)) fun v22 => brB (some v22)
  (J93 (.bool true) G19)
  (wv (viaddr T t_ar2_cursor_Writer (.ptr i9 [] 0) (.int .i64 1)) fun v23 => wv (vload T G19 t_pt_cursor_Writer v23) fun v24 => wv (vbin T .eql t_pt_cursor_Writer v24 (.nilPtr)) fun v25 => J93 v25 G19))
def escrowlaw03_CursorWrites.an : Ann := .two (.nil) (.two (.nil) (.two (.nil) (.two (.nil) (.two (.nil) (.two (.two (.nil) (.loop [0, 3, 4, 5] (.two (.nil) (.two (.two (.nil) (.two (.nil) (.two (.ord [(0, []), (1, []), (2, []), (3, []), (4, []), (5, []), (6, []), (7, []), (8, [])]) (.two (.ord [(0, []), (1, []), (2, []), (3, []), (4, []), (5, []), (6, []), (7, []), (8, [])]) (.two (.nil) (.loop [0, 3, 4, 5, 7] (.two (.nil) (.two (.two (.nil) (.two (.nil) (.two (.ord [(0, []), (1, []), (2, []), (3, []), (4, []), (5, []), (6, []), (7, []), (8, []), (9, []), (10, []), (11, []), (13, []), (14, []), (15, []), (12, [15]), (16, []), (17, []), (18, [])]) (.nil)))) (.nil))))))))) (.nil))))) (.nil))))))
set_option maxRecDepth 100000 in
theorem escrowlaw03_CursorWrites.sound {a0 : AVal} {G : Heap} {Q : AVal → Heap → Prop} (h : escrowlaw03_CursorWrites.S a0 G Q) : ACalls P escrowlaw03_CursorWrites.n [a0] G Q := by
  have e : escrowlaw03_CursorWrites.S a0 G Q = awp cx (escrowlaw03_CursorWrites.body) escrowlaw03_CursorWrites.an (bodyQ T [.tmp 2] Q) (envL [a0]) G := by kernel_rfl
  exact ACalls_of_awp cxOk (f := escrowlaw03_CursorWrites.n) (fn := Try.f7) (c := escrowlaw03_CursorWrites.body) (an := escrowlaw03_CursorWrites.an) Try.func7 (by kernel_rfl) (by kernel_rfl) (by kernel_rfl) (drawsOk_of (by kernel_rfl) (by kernel_rfl)) (by simp [Try.f7]) (e ▸ h)

/-! #### escrow/cursor.value[uint32] -/
def cursor_value_uint32.S (a0 : AVal) (G : Heap) (Q : AVal → Heap → Prop) : Prop :=
  wv (vlen T G t_string a0) fun v1 => ∀ R2 : List AVal → Heap → Prop,
  (∀ (x4 x5 x6 x7 : AVal) (G3 : Heap), (wv (vbin T .lss t_int x7 x6) fun v8 => brB (some v8)
  (wv (vbin T .shl t_uint64 x5 (.int .u64 8)) fun v9 => wv (vindex T t_string x4 x7) fun v10 => wv (vconv T G3 t_uint8 t_uint64 v10) fun v11 => wv (vbin T .or t_uint64 v9 v11) fun v12 => wv (vbin T .add t_int x7 (.int .i64 1)) fun v13 => R2 [x4, v12, x6, v13] G3)
  (wv (vconv T G3 t_uint64 t_uint32 x5) fun v14 => Q v14 G3)) → R2 [x4, x5, x6, x7] G3) →
  R2 [a0, .int .u64 0, v1, .int .i64 0] G
def cursor_value_uint32.an : Ann := .two (.nil) (.two (.nil) (.two (.two (.nil) (.loop [0, 3, 6, 7] (.nil))) (.nil)))
set_option maxRecDepth 100000 in
theorem cursor_value_uint32.sound {a0 : AVal} {G : Heap} {Q : AVal → Heap → Prop} (h : cursor_value_uint32.S a0 G Q) : ACalls P cursor_value_uint32.n [a0] G Q := by
  have e : cursor_value_uint32.S a0 G Q = awp cx (cursor_value_uint32.body) cursor_value_uint32.an (bodyQ T [.tmp 2] Q) (envL [a0]) G := by kernel_rfl
  exact ACalls_of_awp cxOk (f := cursor_value_uint32.n) (fn := Try.f72) (c := cursor_value_uint32.body) (an := cursor_value_uint32.an) Try.func72 (by kernel_rfl) (by kernel_rfl) (by kernel_rfl) (drawsOk_of (by kernel_rfl) (by kernel_rfl)) (by simp [Try.f72]) (e ▸ h)

/-! #### (*escrow/cursor.Reader).U32 -/
def cursor_Reader_U32.S (a0 : AVal) (G : Heap) (Q : AVal → Heap → Prop) : Prop :=
  ACalls P cursor_Reader_take.n [a0, .int .i64 4] G fun v1 G2 => ACalls P cursor_value_uint32.n [v1] G2 fun v3 G4 => Q v3 G4
def cursor_Reader_U32.an : Ann := .nil
set_option maxRecDepth 100000 in
theorem cursor_Reader_U32.sound {a0 : AVal} {G : Heap} {Q : AVal → Heap → Prop} (h : cursor_Reader_U32.S a0 G Q) : ACalls P cursor_Reader_U32.n [a0] G Q := by
  have e : cursor_Reader_U32.S a0 G Q = awp cx (cursor_Reader_U32.body) cursor_Reader_U32.an (bodyQ T [.tmp 2] Q) (envL [a0]) G := by kernel_rfl
  exact ACalls_of_awp cxOk (f := cursor_Reader_U32.n) (fn := Try.f38) (c := cursor_Reader_U32.body) (an := cursor_Reader_U32.an) Try.func38 (by kernel_rfl) (by kernel_rfl) (by kernel_rfl) (drawsOk_of (by kernel_rfl) (by kernel_rfl)) (by simp [Try.f38]) (e ▸ h)

/-! #### escrow/cursor.value[uint8] -/
def cursor_value_uint8.S (a0 : AVal) (G : Heap) (Q : AVal → Heap → Prop) : Prop :=
  wv (vlen T G t_string a0) fun v1 => ∀ R2 : List AVal → Heap → Prop,
  (∀ (x4 x5 x6 x7 : AVal) (G3 : Heap), (wv (vbin T .lss t_int x7 x6) fun v8 => brB (some v8)
  (wv (vbin T .shl t_uint64 x5 (.int .u64 8)) fun v9 => wv (vindex T t_string x4 x7) fun v10 => wv (vconv T G3 t_uint8 t_uint64 v10) fun v11 => wv (vbin T .or t_uint64 v9 v11) fun v12 => wv (vbin T .add t_int x7 (.int .i64 1)) fun v13 => R2 [x4, v12, x6, v13] G3)
  (wv (vconv T G3 t_uint64 t_uint8 x5) fun v14 => Q v14 G3)) → R2 [x4, x5, x6, x7] G3) →
  R2 [a0, .int .u64 0, v1, .int .i64 0] G
def cursor_value_uint8.an : Ann := .two (.nil) (.two (.nil) (.two (.two (.nil) (.loop [0, 3, 6, 7] (.nil))) (.nil)))
set_option maxRecDepth 100000 in
theorem cursor_value_uint8.sound {a0 : AVal} {G : Heap} {Q : AVal → Heap → Prop} (h : cursor_value_uint8.S a0 G Q) : ACalls P cursor_value_uint8.n [a0] G Q := by
  have e : cursor_value_uint8.S a0 G Q = awp cx (cursor_value_uint8.body) cursor_value_uint8.an (bodyQ T [.tmp 2] Q) (envL [a0]) G := by kernel_rfl
  exact ACalls_of_awp cxOk (f := cursor_value_uint8.n) (fn := Try.f75) (c := cursor_value_uint8.body) (an := cursor_value_uint8.an) Try.func75 (by kernel_rfl) (by kernel_rfl) (by kernel_rfl) (drawsOk_of (by kernel_rfl) (by kernel_rfl)) (by simp [Try.f75]) (e ▸ h)

/-! #### (*escrow/cursor.Reader).U8 -/
def cursor_Reader_U8.S (a0 : AVal) (G : Heap) (Q : AVal → Heap → Prop) : Prop :=
  ACalls P cursor_Reader_take.n [a0, .int .i64 1] G fun v1 G2 => ACalls P cursor_value_uint8.n [v1] G2 fun v3 G4 => Q v3 G4
def cursor_Reader_U8.an : Ann := .nil
set_option maxRecDepth 100000 in
theorem cursor_Reader_U8.sound {a0 : AVal} {G : Heap} {Q : AVal → Heap → Prop} (h : cursor_Reader_U8.S a0 G Q) : ACalls P cursor_Reader_U8.n [a0] G Q := by
  have e : cursor_Reader_U8.S a0 G Q = awp cx (cursor_Reader_U8.body) cursor_Reader_U8.an (bodyQ T [.tmp 2] Q) (envL [a0]) G := by kernel_rfl
  exact ACalls_of_awp cxOk (f := cursor_Reader_U8.n) (fn := Try.f40) (c := cursor_Reader_U8.body) (an := cursor_Reader_U8.an) Try.func40 (by kernel_rfl) (by kernel_rfl) (by kernel_rfl) (drawsOk_of (by kernel_rfl) (by kernel_rfl)) (by simp [Try.f40]) (e ▸ h)

/-! #### escrow/cursor.value[uint64] -/
def cursor_value_uint64.S (a0 : AVal) (G : Heap) (Q : AVal → Heap → Prop) : Prop :=
  wv (vlen T G t_string a0) fun v1 => ∀ R2 : List AVal → Heap → Prop,
  (∀ (x4 x5 x6 x7 : AVal) (G3 : Heap), (wv (vbin T .lss t_int x7 x6) fun v8 => brB (some v8)
  (wv (vbin T .shl t_uint64 x5 (.int .u64 8)) fun v9 => wv (vindex T t_string x4 x7) fun v10 => wv (vconv T G3 t_uint8 t_uint64 v10) fun v11 => wv (vbin T .or t_uint64 v9 v11) fun v12 => wv (vbin T .add t_int x7 (.int .i64 1)) fun v13 => R2 [x4, v12, x6, v13] G3)
  (Q x5 G3)) → R2 [x4, x5, x6, x7] G3) →
  R2 [a0, .int .u64 0, v1, .int .i64 0] G
def cursor_value_uint64.an : Ann := .two (.nil) (.two (.nil) (.two (.two (.nil) (.loop [0, 3, 6, 7] (.nil))) (.nil)))
set_option maxRecDepth 100000 in
theorem cursor_value_uint64.sound {a0 : AVal} {G : Heap} {Q : AVal → Heap → Prop} (h : cursor_value_uint64.S a0 G Q) : ACalls P cursor_value_uint64.n [a0] G Q := by
  have e : cursor_value_uint64.S a0 G Q = awp cx (cursor_value_uint64.body) cursor_value_uint64.an (bodyQ T [.tmp 2] Q) (envL [a0]) G := by kernel_rfl
  exact ACalls_of_awp cxOk (f := cursor_value_uint64.n) (fn := Try.f76) (c := cursor_value_uint64.body) (an := cursor_value_uint64.an) Try.func76 (by kernel_rfl) (by kernel_rfl) (by kernel_rfl) (drawsOk_of (by kernel_rfl) (by kernel_rfl)) (by simp [Try.f76]) (e ▸ h)

/-! #### (*escrow/cursor.Reader).I64 -/
def cursor_Reader_I64.S (a0 : AVal) (G : Heap) (Q : AVal → Heap → Prop) : Prop :=
  ACalls P cursor_Reader_take.n [a0, .int .i64 8] G fun v1 G2 => ACalls P cursor_value_uint64.n [v1] G2 fun v3 G4 => wv (vconv T G4 t_uint64 t_int64 v3) fun v5 => Q v5 G4
def cursor_Reader_I64.an : Ann := .nil
set_option maxRecDepth 100000 in
theorem cursor_Reader_I64.sound {a0 : AVal} {G : Heap} {Q : AVal → Heap → Prop} (h : cursor_Reader_I64.S a0 G Q) : ACalls P cursor_Reader_I64.n [a0] G Q := by
  have e : cursor_Reader_I64.S a0 G Q = awp cx (cursor_Reader_I64.body) cursor_Reader_I64.an (bodyQ T [.tmp 2] Q) (envL [a0]) G := by kernel_rfl
  exact ACalls_of_awp cxOk (f := cursor_Reader_I64.n) (fn := Try.f41) (c := cursor_Reader_I64.body) (an := cursor_Reader_I64.an) Try.func41 (by kernel_rfl) (by kernel_rfl) (by kernel_rfl) (drawsOk_of (by kernel_rfl) (by kernel_rfl)) (by simp [Try.f41]) (e ▸ h)

/-! #### escrow/escrowlaw03.CursorHalves -/
def escrowlaw03_CursorHalves.S (a0 a1 : AVal) (G : Heap) (Q : AVal → Heap → Prop) : Prop :=
  ACalls P escrowlaw03_head.n [] G fun v1 G2 => wv (vun .not v1) fun v3 => brB (some v3)
  (Q (.bool false) G2)
  (∀ R4 : List AVal → Heap → Prop,
  (∀ (x6 x7 x8 x9 : AVal) (G5 : Heap), (wv (vbin T .lss t_int x9 (.int .i64 5)) fun v10 => brB (some v10)
  (ACalls P cursor_New.n [] G5 fun v11 G12 => wv (vbin T .eql t_pt_cursor_Writer v11 (.nilPtr)) fun v13 => brB (some v13)
  (Q (.bool false) G12)
  (ACalls P cursor_Writer_Raw.n [v11, x7] G12 fun v14 G15 => let J122 : AVal → AVal → AVal → AVal → AVal → Heap → Prop := (fun x96 x97 x98 x99 x100 G95 => ACalls P cursor_Writer_Out.n [x100] G95 fun v101 G102 => wv (vextract v101 0) fun v103 => wv (vextract v101 1) fun v104 => let J121 : AVal → Heap → Prop := (fun x114 G113 => brB (some x114)
  (Q (.bool false) G113)
  (wv (vlen T G113 t_string x97) fun v115 => wv (vslice T t_string v103 (some (v115)) none none) fun v116 => aBuildSlice T t_sl_string 1 [(0, v116)] G113 fun v117 G118 => aAppend T G118 t_sl_string t_sl_string x98 v117 fun v119 G120 => wv (vbin T .add t_int x99 (.int .i64 1)) fun v123 => R4 [x96, x97, v119, v123] G120));
  wv (vbin T .neq t_api_Errno v104 (.int .i64 0)) fun v105 => brB (some v105)
  (J121 (.bool true) G102)
  (wv (vlen T G102 t_string v103) fun v106 => wv (vlen T G102 t_string x97) fun v107 => wv (vbin T .add t_int v107 (.int .i64 8)) fun v108 => wv (vbin T .neq t_int v106 v108) fun v109 => brB (some v109)
  (J121 (.bool true) G102)
  (wv (vlen T G102 t_string x97) fun v110 => wv (vslice T t_string v103 none (some (v110)) none) fun v111 => wv (vbin T .neq t_string v111 x97) fun v112 => J121 v112 G102)));
  wv (vbin T .eql t_int x9 (.int .i64 0)) fun v16 => brB (some v16)
  (ACalls P cursor_Writer_U64.n [v11, x6] G15 fun v17 G18 => J122 x6 x7 x8 x9 v11 G18)
  (wv (vbin T .eql t_int x9 (.int .i64 1)) fun v19 => brB (some v19)
  (wv (vconv T G15 t_uint64 t_int64 x6) fun v20 => ACalls P cursor_Writer_I64.n [v11, v20] G15 fun v21 G22 => J122 x6 x7 x8 x9 v11 G22)
  (wv (vbin T .eql t_int x9 (.int .i64 2)) fun v23 => brB (some v23)
  (wv (vbin T .shr t_uint64 x6 (.int .u64 32)) fun v24 => wv (vconv T G15 t_uint64 t_uint32 v24) fun v25 => ACalls P cursor_Writer_U32.n [v11, v25] G15 fun v26 G27 => wv (vconv T G27 t_uint64 t_uint32 x6) fun v28 => ACalls P cursor_Writer_U32.n [v11, v28] G27 fun v29 G30 => J122 x6 x7 x8 x9 v11 G30)
  (wv (vbin T .eql t_int x9 (.int .i64 3)) fun v31 => brB (some v31)
  (∀ R32 : List AVal → Heap → Prop,
  (∀ (x34 x35 x36 x37 x38 x39 : AVal) (G33 : Heap), (wv (vbin T .geq t_int x39 (.int .i64 0)) fun v40 => brB (some v40)
  (wv (vconv T G33 t_int t_uint x39) fun v41 => wv (vbin T .mul t_uint (.int .u64 16) v41) fun v42 => wv (vbin T .shr t_uint64 x34 v42) fun v43 => wv (vconv T G33 t_uint64 t_uint16 v43) fun v44 => ACalls P cursor_Writer_U16.n [x38, v44] G33 fun v45 G46 => wv (vbin T .sub t_int x39 (.int .i64 1)) fun v47 => R32 [x34, x35, x36, x37, x38, v47] G46)
  (J122 x34 x35 x36 x37 x38 G33)) → R32 [x34, x35, x36, x37, x38, x39] G33) →
  R32 [x6, x7, x8, x9, v11, .int .i64 3] G15)
  (wv (vbin T .eql t_int x9 (.int .i64 4)) fun v48 => brB (some v48)
  (∀ R49 : List AVal → Heap → Prop,
  (∀ (x51 x52 x53 x54 x55 x56 : AVal) (G50 : Heap), (wv (vbin T .geq t_int x56 (.int .i64 0)) fun v57 => brB (some v57)
  (wv (vconv T G50 t_int t_uint x56) fun v58 => wv (vbin T .mul t_uint (.int .u64 8) v58) fun v59 => wv (vbin T .shr t_uint64 x51 v59) fun v60 => wv (vconv T G50 t_uint64 t_uint8 v60) fun v61 => ACalls P cursor_Writer_U8.n [x55, v61] G50 fun v62 G63 => wv (vbin T .sub t_int x56 (.int .i64 1)) fun v64 => R49 [x51, x52, x53, x54, x55, v64] G63)
  (J122 x51 x52 x53 x54 x55 G50)) → R49 [x51, x52, x53, x54, x55, x56] G50) →
  R49 [x6, x7, x8, x9, v11, .int .i64 7] G15)
  (J122 x6 x7 x8 x9 v11 G15)))))))
  (∀ R124 : List AVal → Heap → Prop,
  (∀ (x126 x127 x128 : AVal) (G125 : Heap), (wv (vlen T G125 t_sl_string x127) fun v129 => wv (vbin T .lss t_int x128 v129) fun v130 => brB (some v130)
  (wv (viaddr T t_sl_string x127 x128) fun v131 => wv (vload T G125 t_string v131) fun v132 => wv (viaddr T t_sl_string x127 (.int .i64 0)) fun v133 => wv (vload T G125 t_string v133) fun v134 => wv (vbin T .neq t_string v132 v134) fun v135 => brB (some v135)
  (Q (.bool false) G125)
  (wv (vbin T .add t_int x128 (.int .i64 1)) fun v136 => R124 [x126, x127, v136] G125))
  (wv (viaddr T t_sl_string x127 (.int .i64 0)) fun v137 => wv (vload T G125 t_string v137) fun v138 => ACalls P cursor_Open.n [v138] G125 fun v139 G140 => wv (viaddr T t_sl_string x127 (.int .i64 0)) fun v141 => wv (vload T G140 t_string v141) fun v142 => ACalls P cursor_Open.n [v142] G140 fun v143 G144 => let J180 : AVal → Heap → Prop := (fun x148 G147 => brB (some x148)
  (Q (.bool false) G147)
  (ACalls P cursor_Reader_U32.n [v139] G147 fun v149 G150 => ACalls P cursor_Reader_U16.n [v139] G150 fun v151 G152 => ACalls P cursor_Reader_U8.n [v139] G152 fun v153 G154 => ACalls P cursor_Reader_U8.n [v139] G154 fun v155 G156 => ACalls P cursor_Reader_I64.n [v143] G156 fun v157 G158 => wv (vconv T G158 t_uint64 t_int64 x126) fun v159 => wv (vbin T .eql t_int64 v157 v159) fun v160 => brB (some v160)
  (wv (vconv T G158 t_uint32 t_uint64 v149) fun v161 => wv (vbin T .shl t_uint64 v161 (.int .u64 32)) fun v162 => wv (vconv T G158 t_uint16 t_uint64 v151) fun v163 => wv (vbin T .shl t_uint64 v163 (.int .u64 16)) fun v164 => wv (vbin T .or t_uint64 v162 v164) fun v165 => wv (vconv T G158 t_uint8 t_uint64 v153) fun v166 => wv (vbin T .shl t_uint64 v166 (.int .u64 8)) fun v167 => wv (vbin T .or t_uint64 v165 v167) fun v168 => wv (vconv T G158 t_uint8 t_uint64 v155) fun v169 => wv (vbin T .or t_uint64 v168 v169) fun v170 => wv (vbin T .eql t_uint64 v170 x126) fun v171 => brB (some v171)
  (ACalls P cursor_Reader_Done.n [v139] G158 fun v172 G173 => wv (vbin T .eql t_api_Errno v172 (.int .i64 0)) fun v174 => brB (some v174)
  (ACalls P cursor_Reader_Done.n [v143] G173 fun v175 G176 => wv (vbin T .eql t_api_Errno v175 (.int .i64 0)) fun v177 => Q v177 G176)
  (Q (.bool false) G173))
  (Q (.bool false) G158))
  (Q (.bool false) G158)));
  wv (vbin T .eql t_pt_cursor_Reader v139 (.nilPtr)) fun v145 => brB (some v145)
  (J180 (.bool true) G144)
  (wv (vbin T .eql t_pt_cursor_Reader v143 (.nilPtr)) fun v146 => J180 v146 G144))) → R124 [x126, x127, x128] G125) →
  R124 [x6, x8, .int .i64 0] G5)) → R4 [x6, x7, x8, x9] G5) →
  R4 [a0, a1, .nilSlice, .int .i64 0] G2)
def escrowlaw03_CursorHalves.an : Ann := .two (.nil) (.two (.nil) (.two (.nil) (.two (.two (.nil) (.loop [0, 1, 5, 6] (.two (.nil) (.two (.two (.nil) (.two (.nil) (.two (.nil) (.two (.two (.nil) (.two (.nil) (.two (.nil) (.two (.nil) (.two (.nil) (.two (.nil) (.two (.nil) (.two (.nil) (.two (.two (.nil) (.loop [0, 1, 5, 6, 7, 8] (.nil))) (.two (.nil) (.two (.two (.nil) (.loop [0, 1, 5, 6, 7, 9] (.nil))) (.nil)))))))))))) (.nil))))) (.nil))))) (.two (.two (.nil) (.loop [0, 5, 12] (.two (.nil) (.two (.two (.ord [(0, []), (1, []), (2, []), (3, []), (4, []), (5, []), (6, []), (7, [])]) (.nil)) (.nil))))) (.nil)))))
set_option maxRecDepth 100000 in
theorem escrowlaw03_CursorHalves.sound {a0 a1 : AVal} {G : Heap} {Q : AVal → Heap → Prop} (h : escrowlaw03_CursorHalves.S a0 a1 G Q) : ACalls P escrowlaw03_CursorHalves.n [a0, a1] G Q := by
  have e : escrowlaw03_CursorHalves.S a0 a1 G Q = awp cx (escrowlaw03_CursorHalves.body) escrowlaw03_CursorHalves.an (bodyQ T [.tmp 4] Q) (envL [a0, a1]) G := by kernel_rfl
  exact ACalls_of_awp cxOk (f := escrowlaw03_CursorHalves.n) (fn := Try.f8) (c := escrowlaw03_CursorHalves.body) (an := escrowlaw03_CursorHalves.an) Try.func8 (by kernel_rfl) (by kernel_rfl) (by kernel_rfl) (drawsOk_of (by kernel_rfl) (by kernel_rfl)) (by simp [Try.f8]) (e ▸ h)

/-! #### escrow/escrowlaw03.cuts -/
def escrowlaw03_cuts.S (a0 a1 a2 : AVal) (G : Heap) (Q : AVal → Heap → Prop) : Prop :=
  wv (vlen T G t_string a0) fun v1 => wv (vbin T .sub t_int v1 (.int .i64 1)) fun v2 => wv (vslice T t_string a0 none (some (v2)) none) fun v3 => ACalls P cursor_Open.n [v3] G fun v4 G5 => wv (vslice T t_string a0 none (some (.int .i64 1)) none) fun v6 => ACalls P cursor_Open.n [v6] G5 fun v7 G8 => let J32 : AVal → Heap → Prop := (fun x12 G11 => brB (some x12)
  (Q (.bool false) G11)
  (wv (vlen T G11 t_string a0) fun v13 => wv (vbin T .eql t_int v13 (.int .i64 2)) fun v14 => let J31 : AVal → Heap → Prop := (fun x16 G15 => ACalls P cursor_Reader_Text.n [v4, a1] G15 fun v17 G18 => wv (vbin T .eql t_string v17 (.str [])) fun v19 => brB (some v19)
  (ACalls P cursor_Reader_Err.n [v4] G18 fun v20 G21 => wv (vbin T .eql t_api_Errno v20 x16) fun v22 => brB (some v22)
  (ACalls P cursor_Reader_Text.n [v7, a1] G21 fun v23 G24 => wv (vbin T .eql t_string v23 (.str [])) fun v25 => brB (some v25)
  (ACalls P cursor_Reader_Err.n [v7] G24 fun v26 G27 => wv (vbin T .eql t_api_Errno v26 (.int .i64 2)) fun v28 => Q v28 G27)
  (Q (.bool false) G24))
  (Q (.bool false) G21))
  (Q (.bool false) G18));
  brB (some v14)
  (J31 (.int .i64 2) G11)
  (J31 a2 G11)));
  wv (vbin T .eql t_pt_cursor_Reader v4 (.nilPtr)) fun v9 => brB (some v9)
  (J32 (.bool true) G8)
  (wv (vbin T .eql t_pt_cursor_Reader v7 (.nilPtr)) fun v10 => J32 v10 G8)
def escrowlaw03_cuts.an : Ann := .nil
set_option maxRecDepth 100000 in
theorem escrowlaw03_cuts.sound {a0 a1 a2 : AVal} {G : Heap} {Q : AVal → Heap → Prop} (h : escrowlaw03_cuts.S a0 a1 a2 G Q) : ACalls P escrowlaw03_cuts.n [a0, a1, a2] G Q := by
  have e : escrowlaw03_cuts.S a0 a1 a2 G Q = awp cx (escrowlaw03_cuts.body) escrowlaw03_cuts.an (bodyQ T [.tmp 6] Q) (envL [a0, a1, a2]) G := by kernel_rfl
  exact ACalls_of_awp cxOk (f := escrowlaw03_cuts.n) (fn := Try.f47) (c := escrowlaw03_cuts.body) (an := escrowlaw03_cuts.an) Try.func47 (by kernel_rfl) (by kernel_rfl) (by kernel_rfl) (drawsOk_of (by kernel_rfl) (by kernel_rfl)) (by simp [Try.f47]) (e ▸ h)

/-! #### (*escrow/cursor.Reader).Raw -/
def cursor_Reader_Raw.S (a0 a1 : AVal) (G : Heap) (Q : AVal → Heap → Prop) : Prop :=
  wv (vnil a0) fun v1 => wv (vfaddr T t_cursor_Reader v1 1) fun v2 => wv (vload T G t_api_Errno v2) fun v3 => wv (vbin T .eql t_api_Errno v3 (.int .i64 0)) fun v4 => brB (some v4)
  (wv (vbin T .lss t_int a1 (.int .i64 0)) fun v5 => brB (some v5)
  (ACalls P cursor_Reader_breaks.n [a0, .int .i64 1] G fun v17 G18 => ACalls P cursor_Reader_take.n [a0, a1] G18 fun v22 G23 => Q v22 G23)
  (ACalls P cursor_Reader_take.n [a0, a1] G fun v24 G25 => Q v24 G25))
  (ACalls P cursor_Reader_take.n [a0, a1] G fun v26 G27 => Q v26 G27)
def cursor_Reader_Raw.an : Ann := .nil
set_option maxRecDepth 100000 in
theorem cursor_Reader_Raw.sound {a0 a1 : AVal} {G : Heap} {Q : AVal → Heap → Prop} (h : cursor_Reader_Raw.S a0 a1 G Q) : ACalls P cursor_Reader_Raw.n [a0, a1] G Q := by
  have e : cursor_Reader_Raw.S a0 a1 G Q = awp cx (cursor_Reader_Raw.body) cursor_Reader_Raw.an (bodyQ T [.tmp 4] Q) (envL [a0, a1]) G := by kernel_rfl
  exact ACalls_of_awp cxOk (f := cursor_Reader_Raw.n) (fn := Try.f48) (c := cursor_Reader_Raw.body) (an := cursor_Reader_Raw.an) Try.func48 (by kernel_rfl) (by kernel_rfl) (by kernel_rfl) (drawsOk_of (by kernel_rfl) (by kernel_rfl)) (by simp [Try.f48]) (e ▸ h)

/-! #### escrow/escrowlaw03.CursorTexts -/
def escrowlaw03_CursorTexts.S (a0 a1 a2 : AVal) (G : Heap) (Q : AVal → Heap → Prop) : Prop :=
  ACalls P escrowlaw03_head.n [] G fun v1 G2 => wv (vun .not v1) fun v3 => brB (some v3)
  (Q (.bool false) G2)
  (wv (vlen T G2 t_string a0) fun v4 => wv (vbin T .gtr t_int v4 (.int .i64 65535)) fun v5 => let J98 : AVal → Heap → Prop := (fun x8 G7 => ACalls P cursor_New.n [] G7 fun v9 G10 => wv (vbin T .eql t_pt_cursor_Writer v9 (.nilPtr)) fun v11 => brB (some v11)
  (Q (.bool false) G10)
  (ACalls P cursor_Writer_Text.n [v9, x8] G10 fun v12 G13 => ACalls P cursor_Writer_Out.n [v9] G13 fun v14 G15 => wv (vextract v14 0) fun v16 => wv (vextract v14 1) fun v17 => wv (vbin T .add t_string v16 a2) fun v18 => ACalls P cursor_Open.n [v18] G15 fun v19 G20 => let J97 : AVal → Heap → Prop := (fun x28 G27 => brB (some x28)
  (Q (.bool false) G27)
  (ACalls P cursor_Reader_Text.n [v19, a1] G27 fun v29 G30 => wv (vlen T G30 t_string x8) fun v31 => wv (vbin T .gtr t_int v31 a1) fun v32 => brB (some v32)
  (wv (vbin T .eql t_string v29 (.str [])) fun v33 => brB (some v33)
  (ACalls P cursor_Reader_Err.n [v19] G30 fun v34 G35 => wv (vbin T .eql t_api_Errno v34 (.int .i64 3)) fun v36 => brB (some v36)
  (ACalls P cursor_Reader_Rest.n [v19] G35 fun v37 G38 => wv (vbin T .eql t_string v37 (.str [])) fun v39 => brB (some v39)
  (ACalls P cursor_Reader_U8.n [v19] G38 fun v40 G41 => wv (vbin T .eql t_uint8 v40 (.int .u8 0)) fun v42 => brB (some v42)
  (ACalls P cursor_Reader_Done.n [v19] G41 fun v43 G44 => wv (vbin T .eql t_api_Errno v43 (.int .i64 3)) fun v45 => brB (some v45)
  (ACalls P escrowlaw03_cuts.n [v16, a1, .int .i64 3] G44 fun v46 G47 => Q v46 G47)
  (Q (.bool false) G44))
  (Q (.bool false) G41))
  (Q (.bool false) G38))
  (Q (.bool false) G35))
  (Q (.bool false) G30))
  (let J96 : AVal → Heap → Prop := (fun x58 G57 => brB (some x58)
  (Q (.bool false) G57)
  (wv (vlen T G57 t_string a2) fun v59 => wv (vbin T .sub t_int (.int .i64 (-1)) v59) fun v60 => ACalls P cursor_Reader_Raw.n [v19, v60] G57 fun v61 G62 => ACalls P cursor_Open.n [v16] G62 fun v63 G64 => let J95 : AVal → Heap → Prop := (fun x77 G76 => brB (some x77)
  (Q (.bool false) G76)
  (wv (vlen T G76 t_string v16) fun v78 => ACalls P cursor_Reader_Raw.n [v63, v78] G76 fun v79 G80 => wv (vbin T .eql t_string v79 v16) fun v81 => brB (some v81)
  (ACalls P cursor_Reader_Done.n [v63] G80 fun v82 G83 => wv (vbin T .eql t_api_Errno v82 (.int .i64 0)) fun v84 => brB (some v84)
  (ACalls P cursor_Reader_Raw.n [v63, .int .i64 1] G83 fun v85 G86 => wv (vbin T .eql t_string v85 (.str [])) fun v87 => brB (some v87)
  (ACalls P cursor_Reader_Done.n [v63] G86 fun v88 G89 => wv (vbin T .eql t_api_Errno v88 (.int .i64 2)) fun v90 => brB (some v90)
  (ACalls P escrowlaw03_cuts.n [v16, a1, .int .i64 2] G89 fun v91 G92 => Q v91 G92)
  (Q (.bool false) G89))
  (Q (.bool false) G86))
  (Q (.bool false) G83))
  (Q (.bool false) G80)));
  wv (vbin T .eql t_pt_cursor_Reader v63 (.nilPtr)) fun v65 => brB (some v65)
  (J95 (.bool true) G64)
  (wv (vbin T .neq t_string v61 (.str [])) fun v66 => brB (some v66)
  (J95 (.bool true) G64)
  (ACalls P cursor_Reader_Err.n [v19] G64 fun v67 G68 => wv (vbin T .neq t_api_Errno v67 (.int .i64 1)) fun v69 => brB (some v69)
  (J95 (.bool true) G68)
  (ACalls P cursor_Reader_Text.n [v19, .int .i64 9] G68 fun v70 G71 => wv (vbin T .neq t_string v70 (.str [])) fun v72 => brB (some v72)
  (J95 (.bool true) G71)
  (ACalls P cursor_Reader_Done.n [v19] G71 fun v73 G74 => wv (vbin T .neq t_api_Errno v73 (.int .i64 1)) fun v75 => J95 v75 G74))))));
  wv (vbin T .neq t_string v29 x8) fun v50 => brB (some v50)
  (J96 (.bool true) G30)
  (ACalls P cursor_Reader_Err.n [v19] G30 fun v51 G52 => wv (vbin T .neq t_api_Errno v51 (.int .i64 0)) fun v53 => brB (some v53)
  (J96 (.bool true) G52)
  (ACalls P cursor_Reader_Rest.n [v19] G52 fun v54 G55 => wv (vbin T .neq t_string v54 a2) fun v56 => J96 v56 G55)))));
  wv (vbin T .neq t_api_Errno v17 (.int .i64 0)) fun v21 => brB (some v21)
  (J97 (.bool true) G20)
  (wv (vbin T .eql t_pt_cursor_Reader v19 (.nilPtr)) fun v22 => brB (some v22)
  (J97 (.bool true) G20)
  (wv (vlen T G20 t_string v16) fun v23 => wv (vlen T G20 t_string x8) fun v24 => wv (vbin T .add t_int v24 (.int .i64 2)) fun v25 => wv (vbin T .neq t_int v23 v25) fun v26 => J97 v26 G20))));
  brB (some v5)
  (wv (vslice T t_string a0 none (some (.int .i64 65535)) none) fun v6 => J98 v6 G2)
  (J98 a0 G2))
def escrowlaw03_CursorTexts.an : Ann := .nil
set_option maxRecDepth 100000 in
theorem escrowlaw03_CursorTexts.sound {a0 a1 a2 : AVal} {G : Heap} {Q : AVal → Heap → Prop} (h : escrowlaw03_CursorTexts.S a0 a1 a2 G Q) : ACalls P escrowlaw03_CursorTexts.n [a0, a1, a2] G Q := by
  have e : escrowlaw03_CursorTexts.S a0 a1 a2 G Q = awp cx (escrowlaw03_CursorTexts.body) escrowlaw03_CursorTexts.an (bodyQ T [.tmp 6] Q) (envL [a0, a1, a2]) G := by kernel_rfl
  exact ACalls_of_awp cxOk (f := escrowlaw03_CursorTexts.n) (fn := Try.f9) (c := escrowlaw03_CursorTexts.body) (an := escrowlaw03_CursorTexts.an) Try.func9 (by kernel_rfl) (by kernel_rfl) (by kernel_rfl) (drawsOk_of (by kernel_rfl) (by kernel_rfl)) (by simp [Try.f9]) (e ▸ h)

/-! #### escrow/escrowref03.Open -/
def escrowref03_Open.S (a0 : AVal) (G : Heap) (Q : AVal → Heap → Prop) : Prop :=
  wv (vbuild T t_escrowref03_Reader [(0, a0)]) fun v1 => aNew G (.own (v1)) fun i2 G3 => Q (.ptr i2 [] 0) G3
def escrowref03_Open.an : Ann := .nil
set_option maxRecDepth 100000 in
theorem escrowref03_Open.sound {a0 : AVal} {G : Heap} {Q : AVal → Heap → Prop} (h : escrowref03_Open.S a0 G Q) : ACalls P escrowref03_Open.n [a0] G Q := by
  have e : escrowref03_Open.S a0 G Q = awp cx (escrowref03_Open.body) escrowref03_Open.an (bodyQ T [.tmp 2] Q) (envL [a0]) G := by kernel_rfl
  exact ACalls_of_awp cxOk (f := escrowref03_Open.n) (fn := Try.f49) (c := escrowref03_Open.body) (an := escrowref03_Open.an) Try.func49 (by kernel_rfl) (by kernel_rfl) (by kernel_rfl) (drawsOk_of (by kernel_rfl) (by kernel_rfl)) (by simp [Try.f49]) (e ▸ h)

/-! #### (*escrow/escrowref03.Reader).Err -/
def escrowref03_Reader_Err.S (a0 : AVal) (G : Heap) (Q : AVal → Heap → Prop) : Prop :=
  wv (vnil a0) fun v1 => wv (vfaddr T t_escrowref03_Reader v1 1) fun v2 => wv (vload T G t_api_Errno v2) fun v3 => Q v3 G
def escrowref03_Reader_Err.an : Ann := .nil
set_option maxRecDepth 100000 in
theorem escrowref03_Reader_Err.sound {a0 : AVal} {G : Heap} {Q : AVal → Heap → Prop} (h : escrowref03_Reader_Err.S a0 G Q) : ACalls P escrowref03_Reader_Err.n [a0] G Q := by
  have e : escrowref03_Reader_Err.S a0 G Q = awp cx (escrowref03_Reader_Err.body) escrowref03_Reader_Err.an (bodyQ T [.tmp 2] Q) (envL [a0]) G := by kernel_rfl
  exact ACalls_of_awp cxOk (f := escrowref03_Reader_Err.n) (fn := Try.f51) (c := escrowref03_Reader_Err.body) (an := escrowref03_Reader_Err.an) Try.func51 (by kernel_rfl) (by kernel_rfl) (by kernel_rfl) (drawsOk_of (by kernel_rfl) (by kernel_rfl)) (by simp [Try.f51]) (e ▸ h)

/-! #### (*escrow/escrowref03.Reader).Rest -/
def escrowref03_Reader_Rest.S (a0 : AVal) (G : Heap) (Q : AVal → Heap → Prop) : Prop :=
  wv (vnil a0) fun v1 => wv (vfaddr T t_escrowref03_Reader v1 1) fun v2 => wv (vload T G t_api_Errno v2) fun v3 => wv (vbin T .neq t_api_Errno v3 (.int .i64 0)) fun v4 => brB (some v4)
  (Q (.str []) G)
  (wv (vnil a0) fun v5 => wv (vfaddr T t_escrowref03_Reader v5 0) fun v6 => wv (vload T G t_string v6) fun v7 => Q v7 G)
def escrowref03_Reader_Rest.an : Ann := .nil
set_option maxRecDepth 100000 in
theorem escrowref03_Reader_Rest.sound {a0 : AVal} {G : Heap} {Q : AVal → Heap → Prop} (h : escrowref03_Reader_Rest.S a0 G Q) : ACalls P escrowref03_Reader_Rest.n [a0] G Q := by
  have e : escrowref03_Reader_Rest.S a0 G Q = awp cx (escrowref03_Reader_Rest.body) escrowref03_Reader_Rest.an (bodyQ T [.tmp 2] Q) (envL [a0]) G := by kernel_rfl
  exact ACalls_of_awp cxOk (f := escrowref03_Reader_Rest.n) (fn := Try.f52) (c := escrowref03_Reader_Rest.body) (an := escrowref03_Reader_Rest.an) Try.func52 (by kernel_rfl) (by kernel_rfl) (by kernel_rfl) (drawsOk_of (by kernel_rfl) (by kernel_rfl)) (by simp [Try.f52]) (e ▸ h)

/-! #### (*escrow/escrowref03.Reader).Done -/
def escrowref03_Reader_Done.S (a0 : AVal) (G : Heap) (Q : AVal → Heap → Prop) : Prop :=
  wv (vnil a0) fun v1 => wv (vfaddr T t_escrowref03_Reader v1 1) fun v2 => wv (vload T G t_api_Errno v2) fun v3 => wv (vbin T .eql t_api_Errno v3 (.int .i64 0)) fun v4 => brB (some v4)
  (wv (vnil a0) fun v5 => wv (vfaddr T t_escrowref03_Reader v5 0) fun v6 => wv (vload T G t_string v6) fun v7 => wv (vbin T .neq t_string v7 (.str [])) fun v8 => brB (some v8)
  (Q (.int .i64 4) G)
  (wv (vnil a0) fun v14 => wv (vfaddr T t_escrowref03_Reader v14 1) fun v15 => wv (vload T G t_api_Errno v15) fun v16 => Q v16 G))
  (wv (vnil a0) fun v17 => wv (vfaddr T t_escrowref03_Reader v17 1) fun v18 => wv (vload T G t_api_Errno v18) fun v19 => Q v19 G)
def escrowref03_Reader_Done.an : Ann := .nil
set_option maxRecDepth 100000 in
theorem escrowref03_Reader_Done.sound {a0 : AVal} {G : Heap} {Q : AVal → Heap → Prop} (h : escrowref03_Reader_Done.S a0 G Q) : ACalls P escrowref03_Reader_Done.n [a0] G Q := by
  have e : escrowref03_Reader_Done.S a0 G Q = awp cx (escrowref03_Reader_Done.body) escrowref03_Reader_Done.an (bodyQ T [.tmp 2] Q) (envL [a0]) G := by kernel_rfl
  exact ACalls_of_awp cxOk (f := escrowref03_Reader_Done.n) (fn := Try.f53) (c := escrowref03_Reader_Done.body) (an := escrowref03_Reader_Done.an) Try.func53 (by kernel_rfl) (by kernel_rfl) (by kernel_rfl) (drawsOk_of (by kernel_rfl) (by kernel_rfl)) (by simp [Try.f53]) (e ▸ h)

/-! #### (*escrow/escrowref03.Reader).breaks -/
def escrowref03_Reader_breaks.S (a0 a1 : AVal) (G : Heap) (Q : AVal → Heap → Prop) : Prop :=
  wv (vnil a0) fun v1 => wv (vfaddr T t_escrowref03_Reader v1 1) fun v2 => wv (vload T G t_api_Errno v2) fun v3 => wv (vbin T .eql t_api_Errno v3 (.int .i64 0)) fun v4 => brB (some v4)
  (wv (vnil a0) fun v5 => wv (vfaddr T t_escrowref03_Reader v5 1) fun v6 => wg (vstore T G t_api_Errno v6 a1) fun G7 => Q (.tuple []) G7)
  (Q (.tuple []) G)
def escrowref03_Reader_breaks.an : Ann := .nil
set_option maxRecDepth 100000 in
theorem escrowref03_Reader_breaks.sound {a0 a1 : AVal} {G : Heap} {Q : AVal → Heap → Prop} (h : escrowref03_Reader_breaks.S a0 a1 G Q) : ACalls P escrowref03_Reader_breaks.n [a0, a1] G Q := by
  have e : escrowref03_Reader_breaks.S a0 a1 G Q = awp cx (escrowref03_Reader_breaks.body) escrowref03_Reader_breaks.an (bodyQ T [] Q) (envL [a0, a1]) G := by kernel_rfl
  exact ACalls_of_awp cxOk (f := escrowref03_Reader_breaks.n) (fn := Try.f92) (c := escrowref03_Reader_breaks.body) (an := escrowref03_Reader_breaks.an) Try.func92 (by kernel_rfl) (by kernel_rfl) (by kernel_rfl) (drawsOk_of (by kernel_rfl) (by kernel_rfl)) (by simp [Try.f92]) (e ▸ h)

end Go.Esc.M
