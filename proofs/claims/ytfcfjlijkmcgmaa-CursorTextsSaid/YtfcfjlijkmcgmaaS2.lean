/- Printed by gen.py (own work): functions of the program Ytfcfjlijkmcgmaa over trees and the abstract heap. -/
import Derived.Test.YtfcfjlijkmcgmaaT
set_option linter.unusedSimpArgs false
set_option linter.unusedVariables false
namespace Go.Esc.M
open Go Go.Esc Go.Proofs

/-! #### (*escrow/escrowref03.Reader).take -/
def escrowref03_Reader_take.S (a0 a1 : AVal) (G : Heap) (Q : AVal → Heap → Prop) : Prop :=
  wv (vnil a0) fun v1 => wv (vfaddr T t_escrowref03_Reader v1 1) fun v2 => wv (vload T G t_api_Errno v2) fun v3 => wv (vbin T .neq t_api_Errno v3 (.int .i64 0)) fun v4 => brB (some v4)
  (Q (.tuple [.str [], .bool false]) G)
  (wv (vnil a0) fun v5 => wv (vfaddr T t_escrowref03_Reader v5 0) fun v6 => wv (vload T G t_string v6) fun v7 => wv (vlen T G t_string v7) fun v8 => wv (vbin T .gtr t_int a1 v8) fun v9 => brB (some v9)
  (ACalls P escrowref03_Reader_breaks.n [a0, .int .i64 2] G fun v10 G11 => Q (.tuple [.str [], .bool false]) G11)
  (wv (vnil a0) fun v12 => wv (vfaddr T t_escrowref03_Reader v12 0) fun v13 => wv (vload T G t_string v13) fun v14 => wv (vslice T t_string v14 none (some (a1)) none) fun v15 => wv (vnil a0) fun v16 => wv (vfaddr T t_escrowref03_Reader v16 0) fun v17 => wv (vload T G t_string v17) fun v18 => wv (vslice T t_string v18 (some (a1)) none none) fun v19 => wv (vnil a0) fun v20 => wv (vfaddr T t_escrowref03_Reader v20 0) fun v21 => wg (vstore T G t_string v21 v19) fun G22 => Q (.tuple [v15, .bool true]) G22))
def escrowref03_Reader_take.an : Ann := .nil
set_option maxRecDepth 100000 in
theorem escrowref03_Reader_take.sound {a0 a1 : AVal} {G : Heap} {Q : AVal → Heap → Prop} (h : escrowref03_Reader_take.S a0 a1 G Q) : ACalls P escrowref03_Reader_take.n [a0, a1] G Q := by
  have e : escrowref03_Reader_take.S a0 a1 G Q = awp cx (escrowref03_Reader_take.body) escrowref03_Reader_take.an (bodyQ T [.tmp 4, .tmp 5] Q) (envL [a0, a1]) G := by kernel_rfl
  exact ACalls_of_awp cxOk (f := escrowref03_Reader_take.n) (fn := Try.f91) (c := escrowref03_Reader_take.body) (an := escrowref03_Reader_take.an) Try.func91 (by kernel_rfl) (by kernel_rfl) (by kernel_rfl) (drawsOk_of (by kernel_rfl) (by kernel_rfl)) (by simp [Try.f91]) (e ▸ h)

/-! #### escrow/escrowref03.Number -/
def escrowref03_Number.S (a0 : AVal) (G : Heap) (Q : AVal → Heap → Prop) : Prop :=
  ∀ R1 : List AVal → Heap → Prop,
  (∀ (x3 x4 x5 : AVal) (G2 : Heap), (wv (vlen T G2 t_string x3) fun v6 => wv (vbin T .lss t_int x5 v6) fun v7 => brB (some v7)
  (wv (vbin T .mul t_uint64 x4 (.int .u64 256)) fun v8 => wv (vindex T t_string x3 x5) fun v9 => wv (vconv T G2 t_uint8 t_uint64 v9) fun v10 => wv (vbin T .add t_uint64 v8 v10) fun v11 => wv (vbin T .add t_int x5 (.int .i64 1)) fun v12 => R1 [x3, v11, v12] G2)
  (Q x4 G2)) → R1 [x3, x4, x5] G2) →
  R1 [a0, .int .u64 0, .int .i64 0] G
def escrowref03_Number.an : Ann := .two (.nil) (.two (.nil) (.two (.two (.nil) (.loop [0, 3, 4] (.nil))) (.nil)))
set_option maxRecDepth 100000 in
theorem escrowref03_Number.sound {a0 : AVal} {G : Heap} {Q : AVal → Heap → Prop} (h : escrowref03_Number.S a0 G Q) : ACalls P escrowref03_Number.n [a0] G Q := by
  have e : escrowref03_Number.S a0 G Q = awp cx (escrowref03_Number.body) escrowref03_Number.an (bodyQ T [.tmp 2] Q) (envL [a0]) G := by kernel_rfl
  exact ACalls_of_awp cxOk (f := escrowref03_Number.n) (fn := Try.f93) (c := escrowref03_Number.body) (an := escrowref03_Number.an) Try.func93 (by kernel_rfl) (by kernel_rfl) (by kernel_rfl) (drawsOk_of (by kernel_rfl) (by kernel_rfl)) (by simp [Try.f93]) (e ▸ h)

/-! #### (*escrow/escrowref03.Reader).number -/
def escrowref03_Reader_number.S (a0 a1 : AVal) (G : Heap) (Q : AVal → Heap → Prop) : Prop :=
  ACalls P escrowref03_Reader_take.n [a0, a1] G fun v1 G2 => wv (vextract v1 0) fun v3 => wv (vextract v1 1) fun v4 => ACalls P escrowref03_Number.n [v3] G2 fun v5 G6 => Q v5 G6
def escrowref03_Reader_number.an : Ann := .nil
set_option maxRecDepth 100000 in
theorem escrowref03_Reader_number.sound {a0 a1 : AVal} {G : Heap} {Q : AVal → Heap → Prop} (h : escrowref03_Reader_number.S a0 a1 G Q) : ACalls P escrowref03_Reader_number.n [a0, a1] G Q := by
  have e : escrowref03_Reader_number.S a0 a1 G Q = awp cx (escrowref03_Reader_number.body) escrowref03_Reader_number.an (bodyQ T [.tmp 4] Q) (envL [a0, a1]) G := by kernel_rfl
  exact ACalls_of_awp cxOk (f := escrowref03_Reader_number.n) (fn := Try.f90) (c := escrowref03_Reader_number.body) (an := escrowref03_Reader_number.an) Try.func90 (by kernel_rfl) (by kernel_rfl) (by kernel_rfl) (drawsOk_of (by kernel_rfl) (by kernel_rfl)) (by simp [Try.f90]) (e ▸ h)

/-! #### (*escrow/escrowref03.Reader).U8 -/
def escrowref03_Reader_U8.S (a0 : AVal) (G : Heap) (Q : AVal → Heap → Prop) : Prop :=
  ACalls P escrowref03_Reader_number.n [a0, .int .i64 1] G fun v1 G2 => wv (vconv T G2 t_uint64 t_uint8 v1) fun v3 => Q v3 G2
def escrowref03_Reader_U8.an : Ann := .nil
set_option maxRecDepth 100000 in
theorem escrowref03_Reader_U8.sound {a0 : AVal} {G : Heap} {Q : AVal → Heap → Prop} (h : escrowref03_Reader_U8.S a0 G Q) : ACalls P escrowref03_Reader_U8.n [a0] G Q := by
  have e : escrowref03_Reader_U8.S a0 G Q = awp cx (escrowref03_Reader_U8.body) escrowref03_Reader_U8.an (bodyQ T [.tmp 2] Q) (envL [a0]) G := by kernel_rfl
  exact ACalls_of_awp cxOk (f := escrowref03_Reader_U8.n) (fn := Try.f78) (c := escrowref03_Reader_U8.body) (an := escrowref03_Reader_U8.an) Try.func78 (by kernel_rfl) (by kernel_rfl) (by kernel_rfl) (drawsOk_of (by kernel_rfl) (by kernel_rfl)) (by simp [Try.f78]) (e ▸ h)

/-! #### (*escrow/escrowref03.Reader).U16 -/
def escrowref03_Reader_U16.S (a0 : AVal) (G : Heap) (Q : AVal → Heap → Prop) : Prop :=
  ACalls P escrowref03_Reader_number.n [a0, .int .i64 2] G fun v1 G2 => wv (vconv T G2 t_uint64 t_uint16 v1) fun v3 => Q v3 G2
def escrowref03_Reader_U16.an : Ann := .nil
set_option maxRecDepth 100000 in
theorem escrowref03_Reader_U16.sound {a0 : AVal} {G : Heap} {Q : AVal → Heap → Prop} (h : escrowref03_Reader_U16.S a0 G Q) : ACalls P escrowref03_Reader_U16.n [a0] G Q := by
  have e : escrowref03_Reader_U16.S a0 G Q = awp cx (escrowref03_Reader_U16.body) escrowref03_Reader_U16.an (bodyQ T [.tmp 2] Q) (envL [a0]) G := by kernel_rfl
  exact ACalls_of_awp cxOk (f := escrowref03_Reader_U16.n) (fn := Try.f79) (c := escrowref03_Reader_U16.body) (an := escrowref03_Reader_U16.an) Try.func79 (by kernel_rfl) (by kernel_rfl) (by kernel_rfl) (drawsOk_of (by kernel_rfl) (by kernel_rfl)) (by simp [Try.f79]) (e ▸ h)

/-! #### (*escrow/escrowref03.Reader).U32 -/
def escrowref03_Reader_U32.S (a0 : AVal) (G : Heap) (Q : AVal → Heap → Prop) : Prop :=
  ACalls P escrowref03_Reader_number.n [a0, .int .i64 4] G fun v1 G2 => wv (vconv T G2 t_uint64 t_uint32 v1) fun v3 => Q v3 G2
def escrowref03_Reader_U32.an : Ann := .nil
set_option maxRecDepth 100000 in
theorem escrowref03_Reader_U32.sound {a0 : AVal} {G : Heap} {Q : AVal → Heap → Prop} (h : escrowref03_Reader_U32.S a0 G Q) : ACalls P escrowref03_Reader_U32.n [a0] G Q := by
  have e : escrowref03_Reader_U32.S a0 G Q = awp cx (escrowref03_Reader_U32.body) escrowref03_Reader_U32.an (bodyQ T [.tmp 2] Q) (envL [a0]) G := by kernel_rfl
  exact ACalls_of_awp cxOk (f := escrowref03_Reader_U32.n) (fn := Try.f80) (c := escrowref03_Reader_U32.body) (an := escrowref03_Reader_U32.an) Try.func80 (by kernel_rfl) (by kernel_rfl) (by kernel_rfl) (drawsOk_of (by kernel_rfl) (by kernel_rfl)) (by simp [Try.f80]) (e ▸ h)

/-! #### (*escrow/cursor.Reader).U64 -/
def cursor_Reader_U64.S (a0 : AVal) (G : Heap) (Q : AVal → Heap → Prop) : Prop :=
  ACalls P cursor_Reader_take.n [a0, .int .i64 8] G fun v1 G2 => ACalls P cursor_value_uint64.n [v1] G2 fun v3 G4 => Q v3 G4
def cursor_Reader_U64.an : Ann := .nil
set_option maxRecDepth 100000 in
theorem cursor_Reader_U64.sound {a0 : AVal} {G : Heap} {Q : AVal → Heap → Prop} (h : cursor_Reader_U64.S a0 G Q) : ACalls P cursor_Reader_U64.n [a0] G Q := by
  have e : cursor_Reader_U64.S a0 G Q = awp cx (cursor_Reader_U64.body) cursor_Reader_U64.an (bodyQ T [.tmp 2] Q) (envL [a0]) G := by kernel_rfl
  exact ACalls_of_awp cxOk (f := cursor_Reader_U64.n) (fn := Try.f81) (c := cursor_Reader_U64.body) (an := cursor_Reader_U64.an) Try.func81 (by kernel_rfl) (by kernel_rfl) (by kernel_rfl) (drawsOk_of (by kernel_rfl) (by kernel_rfl)) (by simp [Try.f81]) (e ▸ h)

/-! #### (*escrow/escrowref03.Reader).U64 -/
def escrowref03_Reader_U64.S (a0 : AVal) (G : Heap) (Q : AVal → Heap → Prop) : Prop :=
  ACalls P escrowref03_Reader_number.n [a0, .int .i64 8] G fun v1 G2 => Q v1 G2
def escrowref03_Reader_U64.an : Ann := .nil
set_option maxRecDepth 100000 in
theorem escrowref03_Reader_U64.sound {a0 : AVal} {G : Heap} {Q : AVal → Heap → Prop} (h : escrowref03_Reader_U64.S a0 G Q) : ACalls P escrowref03_Reader_U64.n [a0] G Q := by
  have e : escrowref03_Reader_U64.S a0 G Q = awp cx (escrowref03_Reader_U64.body) escrowref03_Reader_U64.an (bodyQ T [.tmp 2] Q) (envL [a0]) G := by kernel_rfl
  exact ACalls_of_awp cxOk (f := escrowref03_Reader_U64.n) (fn := Try.f82) (c := escrowref03_Reader_U64.body) (an := escrowref03_Reader_U64.an) Try.func82 (by kernel_rfl) (by kernel_rfl) (by kernel_rfl) (drawsOk_of (by kernel_rfl) (by kernel_rfl)) (by simp [Try.f82]) (e ▸ h)

/-! #### (*escrow/escrowref03.Reader).I64 -/
def escrowref03_Reader_I64.S (a0 : AVal) (G : Heap) (Q : AVal → Heap → Prop) : Prop :=
  ACalls P escrowref03_Reader_number.n [a0, .int .i64 8] G fun v1 G2 => wv (vconv T G2 t_uint64 t_int64 v1) fun v3 => Q v3 G2
def escrowref03_Reader_I64.an : Ann := .nil
set_option maxRecDepth 100000 in
theorem escrowref03_Reader_I64.sound {a0 : AVal} {G : Heap} {Q : AVal → Heap → Prop} (h : escrowref03_Reader_I64.S a0 G Q) : ACalls P escrowref03_Reader_I64.n [a0] G Q := by
  have e : escrowref03_Reader_I64.S a0 G Q = awp cx (escrowref03_Reader_I64.body) escrowref03_Reader_I64.an (bodyQ T [.tmp 2] Q) (envL [a0]) G := by kernel_rfl
  exact ACalls_of_awp cxOk (f := escrowref03_Reader_I64.n) (fn := Try.f83) (c := escrowref03_Reader_I64.body) (an := escrowref03_Reader_I64.an) Try.func83 (by kernel_rfl) (by kernel_rfl) (by kernel_rfl) (drawsOk_of (by kernel_rfl) (by kernel_rfl)) (by simp [Try.f83]) (e ▸ h)

/-! #### (*escrow/cursor.Reader).Hash -/
def cursor_Reader_Hash.S (a0 : AVal) (G : Heap) (Q : AVal → Heap → Prop) : Prop :=
  aNew G (.own (z_api_Hash)) fun i1 G2 => aNew G2 (.own (z_api_Hash)) fun i3 G4 => wv (vslice T t_api_Hash (.ptr i3 [] 0) none none none) fun v5 => ACalls P cursor_Reader_take.n [a0, .int .i64 32] G4 fun v6 G7 => aCopy T G7 t_sl_uint8 v5 v6 fun v8 G9 => wv (vload T G9 t_api_Hash (.ptr i3 [] 0)) fun v10 => wg (vstore T G9 t_api_Hash (.ptr i1 [] 0) v10) fun G11 => wv (vload T G11 t_api_Hash (.ptr i1 [] 0)) fun v12 => Q v12 G11
def cursor_Reader_Hash.an : Ann := .two (.nil) (.two (.nil) (.two (.ord [(0, []), (1, []), (2, []), (3, [])]) (.nil)))
set_option maxRecDepth 100000 in
theorem cursor_Reader_Hash.sound {a0 : AVal} {G : Heap} {Q : AVal → Heap → Prop} (h : cursor_Reader_Hash.S a0 G Q) : ACalls P cursor_Reader_Hash.n [a0] G Q := by
  have e : cursor_Reader_Hash.S a0 G Q = awp cx (cursor_Reader_Hash.body) cursor_Reader_Hash.an (bodyQ T [.cell 2 43] Q) (envL [a0]) G := by kernel_rfl
  exact ACalls_of_awp cxOk (f := cursor_Reader_Hash.n) (fn := Try.f84) (c := cursor_Reader_Hash.body) (an := cursor_Reader_Hash.an) Try.func84 (by kernel_rfl) (by kernel_rfl) (by kernel_rfl) (drawsOk_of (by kernel_rfl) (by kernel_rfl)) (by simp [Try.f84]) (e ▸ h)

/-! #### (*escrow/escrowref03.Reader).Hash -/
def escrowref03_Reader_Hash.S (a0 : AVal) (G : Heap) (Q : AVal → Heap → Prop) : Prop :=
  aNew G (.own (z_api_Hash)) fun i1 G2 => aNew G2 (.own (z_api_Hash)) fun i3 G4 => ACalls P escrowref03_Reader_take.n [a0, .int .i64 32] G4 fun v5 G6 => wv (vextract v5 0) fun v7 => wv (vextract v5 1) fun v8 => ∀ R9 : List AVal → Heap → Prop,
  (∀ (x11 x12 x13 x14 : AVal) (G10 : Heap), (wv (vlen T G10 t_string x13) fun v15 => wv (vbin T .lss t_int x14 v15) fun v16 => brB (some v16)
  (wv (vindex T t_string x13 x14) fun v17 => wv (viaddr T t_api_Hash x12 x14) fun v18 => wg (vstore T G10 t_uint8 v18 v17) fun G19 => wv (vbin T .add t_int x14 (.int .i64 1)) fun v20 => R9 [x11, x12, x13, v20] G19)
  (wv (vload T G10 t_api_Hash x12) fun v21 => wg (vstore T G10 t_api_Hash x11 v21) fun G22 => wv (vload T G22 t_api_Hash x11) fun v23 => Q v23 G22)) → R9 [x11, x12, x13, x14] G10) →
  R9 [.ptr i1 [] 0, .ptr i3 [] 0, v7, .int .i64 0] G6
def escrowref03_Reader_Hash.an : Ann := .two (.nil) (.two (.nil) (.two (.nil) (.two (.two (.nil) (.loop [2, 3, 4, 6] (.nil))) (.nil))))
set_option maxRecDepth 100000 in
theorem escrowref03_Reader_Hash.sound {a0 : AVal} {G : Heap} {Q : AVal → Heap → Prop} (h : escrowref03_Reader_Hash.S a0 G Q) : ACalls P escrowref03_Reader_Hash.n [a0] G Q := by
  have e : escrowref03_Reader_Hash.S a0 G Q = awp cx (escrowref03_Reader_Hash.body) escrowref03_Reader_Hash.an (bodyQ T [.cell 2 43] Q) (envL [a0]) G := by kernel_rfl
  exact ACalls_of_awp cxOk (f := escrowref03_Reader_Hash.n) (fn := Try.f85) (c := escrowref03_Reader_Hash.body) (an := escrowref03_Reader_Hash.an) Try.func85 (by kernel_rfl) (by kernel_rfl) (by kernel_rfl) (drawsOk_of (by kernel_rfl) (by kernel_rfl)) (by simp [Try.f85]) (e ▸ h)

/-! #### (*escrow/escrowref03.Reader).Text -/
def escrowref03_Reader_Text.S (a0 a1 : AVal) (G : Heap) (Q : AVal → Heap → Prop) : Prop :=
  wv (vnil a0) fun v1 => wv (vfaddr T t_escrowref03_Reader v1 1) fun v2 => wv (vload T G t_api_Errno v2) fun v3 => wv (vbin T .neq t_api_Errno v3 (.int .i64 0)) fun v4 => brB (some v4)
  (Q (.str []) G)
  (wv (vnil a0) fun v5 => wv (vfaddr T t_escrowref03_Reader v5 0) fun v6 => wv (vload T G t_string v6) fun v7 => wv (vlen T G t_string v7) fun v8 => wv (vbin T .lss t_int v8 (.int .i64 2)) fun v9 => brB (some v9)
  (ACalls P escrowref03_Reader_breaks.n [a0, .int .i64 2] G fun v10 G11 => Q (.str []) G11)
  (wv (vnil a0) fun v12 => wv (vfaddr T t_escrowref03_Reader v12 0) fun v13 => wv (vload T G t_string v13) fun v14 => wv (vslice T t_string v14 none (some (.int .i64 2)) none) fun v15 => ACalls P escrowref03_Number.n [v15] G fun v16 G17 => wv (vconv T G17 t_uint64 t_int v16) fun v18 => wv (vbin T .gtr t_int v18 a1) fun v19 => brB (some v19)
  (ACalls P escrowref03_Reader_breaks.n [a0, .int .i64 3] G17 fun v20 G21 => Q (.str []) G21)
  (wv (vnil a0) fun v22 => wv (vfaddr T t_escrowref03_Reader v22 0) fun v23 => wv (vload T G17 t_string v23) fun v24 => wv (vlen T G17 t_string v24) fun v25 => wv (vbin T .sub t_int v25 (.int .i64 2)) fun v26 => wv (vbin T .lss t_int v26 v18) fun v27 => brB (some v27)
  (ACalls P escrowref03_Reader_breaks.n [a0, .int .i64 2] G17 fun v28 G29 => Q (.str []) G29)
  (wv (vbin T .add t_int (.int .i64 2) v18) fun v30 => ACalls P escrowref03_Reader_take.n [a0, v30] G17 fun v31 G32 => wv (vextract v31 0) fun v33 => wv (vextract v31 1) fun v34 => wv (vslice T t_string v33 (some (.int .i64 2)) none none) fun v35 => Q v35 G32))))
def escrowref03_Reader_Text.an : Ann := .nil
set_option maxRecDepth 100000 in
theorem escrowref03_Reader_Text.sound {a0 a1 : AVal} {G : Heap} {Q : AVal → Heap → Prop} (h : escrowref03_Reader_Text.S a0 a1 G Q) : ACalls P escrowref03_Reader_Text.n [a0, a1] G Q := by
  have e : escrowref03_Reader_Text.S a0 a1 G Q = awp cx (escrowref03_Reader_Text.body) escrowref03_Reader_Text.an (bodyQ T [.tmp 4] Q) (envL [a0, a1]) G := by kernel_rfl
  exact ACalls_of_awp cxOk (f := escrowref03_Reader_Text.n) (fn := Try.f86) (c := escrowref03_Reader_Text.body) (an := escrowref03_Reader_Text.an) Try.func86 (by kernel_rfl) (by kernel_rfl) (by kernel_rfl) (drawsOk_of (by kernel_rfl) (by kernel_rfl)) (by simp [Try.f86]) (e ▸ h)

/-! #### (*escrow/escrowref03.Reader).Raw -/
def escrowref03_Reader_Raw.S (a0 a1 : AVal) (G : Heap) (Q : AVal → Heap → Prop) : Prop :=
  wv (vbin T .lss t_int a1 (.int .i64 0)) fun v1 => brB (some v1)
  (ACalls P escrowref03_Reader_breaks.n [a0, .int .i64 1] G fun v2 G3 => Q (.str []) G3)
  (ACalls P escrowref03_Reader_take.n [a0, a1] G fun v4 G5 => wv (vextract v4 0) fun v6 => wv (vextract v4 1) fun v7 => Q v6 G5)
def escrowref03_Reader_Raw.an : Ann := .nil
set_option maxRecDepth 100000 in
theorem escrowref03_Reader_Raw.sound {a0 a1 : AVal} {G : Heap} {Q : AVal → Heap → Prop} (h : escrowref03_Reader_Raw.S a0 a1 G Q) : ACalls P escrowref03_Reader_Raw.n [a0, a1] G Q := by
  have e : escrowref03_Reader_Raw.S a0 a1 G Q = awp cx (escrowref03_Reader_Raw.body) escrowref03_Reader_Raw.an (bodyQ T [.tmp 4] Q) (envL [a0, a1]) G := by kernel_rfl
  exact ACalls_of_awp cxOk (f := escrowref03_Reader_Raw.n) (fn := Try.f87) (c := escrowref03_Reader_Raw.body) (an := escrowref03_Reader_Raw.an) Try.func87 (by kernel_rfl) (by kernel_rfl) (by kernel_rfl) (drawsOk_of (by kernel_rfl) (by kernel_rfl)) (by simp [Try.f87]) (e ▸ h)

/-! #### escrow/escrowlaw03.reads -/
def escrowlaw03_reads.S (a0 a1 a2 : AVal) (G : Heap) (Q : AVal → Heap → Prop) : Prop :=
  aNew G (.own (a2)) fun i1 G2 => wv (vload T G2 t_int (.ptr i1 [2] 38)) fun v3 => wv (vbin T .eql t_int v3 (.int .i64 0)) fun v4 => brB (some v4)
  (ACalls P cursor_Reader_U8.n [a0] G2 fun v5 G6 => ACalls P escrowref03_Reader_U8.n [a1] G6 fun v7 G8 => wv (vbin T .eql t_uint8 v5 v7) fun v9 => Q v9 G8)
  (wv (vbin T .eql t_int v3 (.int .i64 1)) fun v10 => brB (some v10)
  (ACalls P cursor_Reader_U16.n [a0] G2 fun v11 G12 => ACalls P escrowref03_Reader_U16.n [a1] G12 fun v13 G14 => wv (vbin T .eql t_uint16 v11 v13) fun v15 => Q v15 G14)
  (wv (vbin T .eql t_int v3 (.int .i64 2)) fun v16 => brB (some v16)
  (ACalls P cursor_Reader_U32.n [a0] G2 fun v17 G18 => ACalls P escrowref03_Reader_U32.n [a1] G18 fun v19 G20 => wv (vbin T .eql t_uint32 v17 v19) fun v21 => Q v21 G20)
  (wv (vbin T .eql t_int v3 (.int .i64 3)) fun v22 => brB (some v22)
  (ACalls P cursor_Reader_U64.n [a0] G2 fun v23 G24 => ACalls P escrowref03_Reader_U64.n [a1] G24 fun v25 G26 => wv (vbin T .eql t_uint64 v23 v25) fun v27 => Q v27 G26)
  (wv (vbin T .eql t_int v3 (.int .i64 4)) fun v28 => brB (some v28)
  (ACalls P cursor_Reader_I64.n [a0] G2 fun v29 G30 => ACalls P escrowref03_Reader_I64.n [a1] G30 fun v31 G32 => wv (vbin T .eql t_int64 v29 v31) fun v33 => Q v33 G32)
  (wv (vbin T .eql t_int v3 (.int .i64 5)) fun v34 => brB (some v34)
  (ACalls P cursor_Reader_Hash.n [a0] G2 fun v35 G36 => ACalls P escrowref03_Reader_Hash.n [a1] G36 fun v37 G38 => wv (vbin T .eql t_api_Hash v35 v37) fun v39 => Q v39 G38)
  (wv (vbin T .eql t_int v3 (.int .i64 6)) fun v40 => brB (some v40)
  (wv (vload T G2 t_int (.ptr i1 [3] 39)) fun v41 => wv (vload T G2 t_int (.ptr i1 [3] 39)) fun v42 => ACalls P cursor_Reader_Text.n [a0, v41] G2 fun v43 G44 => (vload T G44 t_int (.ptr i1 [3] 39) = some v42 ∧ True) ∧ (ACalls P escrowref03_Reader_Text.n [a1, v42] G44 fun v45 G46 => wv (vbin T .eql t_string v43 v45) fun v47 => Q v47 G46))
  (wv (vbin T .eql t_int v3 (.int .i64 7)) fun v48 => brB (some v48)
  (wv (vload T G2 t_int (.ptr i1 [3] 39)) fun v49 => wv (vload T G2 t_int (.ptr i1 [3] 39)) fun v50 => ACalls P cursor_Reader_Raw.n [a0, v49] G2 fun v51 G52 => (vload T G52 t_int (.ptr i1 [3] 39) = some v50 ∧ True) ∧ (ACalls P escrowref03_Reader_Raw.n [a1, v50] G52 fun v53 G54 => wv (vbin T .eql t_string v51 v53) fun v55 => Q v55 G54))
  (wv (vbin T .eql t_int v3 (.int .i64 8)) fun v56 => brB (some v56)
  (ACalls P cursor_Reader_Err.n [a0] G2 fun v57 G58 => ACalls P escrowref03_Reader_Err.n [a1] G58 fun v59 G60 => wv (vbin T .eql t_api_Errno v57 v59) fun v61 => Q v61 G60)
  (wv (vbin T .eql t_int v3 (.int .i64 9)) fun v62 => brB (some v62)
  (ACalls P cursor_Reader_Rest.n [a0] G2 fun v63 G64 => ACalls P escrowref03_Reader_Rest.n [a1] G64 fun v65 G66 => wv (vbin T .eql t_string v63 v65) fun v67 => Q v67 G66)
  (wv (vbin T .eql t_int v3 (.int .i64 10)) fun v68 => brB (some v68)
  (ACalls P cursor_Reader_Done.n [a0] G2 fun v69 G70 => ACalls P escrowref03_Reader_Done.n [a1] G70 fun v71 G72 => wv (vbin T .eql t_api_Errno v69 v71) fun v73 => Q v73 G72)
  (Q (.bool true) G2)))))))))))
def escrowlaw03_reads.an : Ann := .two (.nil) (.two (.two (.nil) (.two (.nil) (.two (.nil) (.two (.nil) (.two (.nil) (.two (.nil) (.two (.nil) (.two (.nil) (.two (.nil) (.two (.nil) (.two (.nil) (.two (.nil) (.two (.nil) (.two (.nil) (.two (.two (.ord [(0, []), (1, []), (2, []), (4, []), (5, []), (6, []), (3, [6]), (7, []), (8, []), (9, [])]) (.nil)) (.two (.nil) (.two (.two (.ord [(0, []), (1, []), (2, []), (4, []), (5, []), (6, []), (3, [6]), (7, []), (8, []), (9, [])]) (.nil)) (.nil)))))))))))))))))) (.nil))
set_option maxRecDepth 100000 in
theorem escrowlaw03_reads.sound {a0 a1 a2 : AVal} {G : Heap} {Q : AVal → Heap → Prop} (h : escrowlaw03_reads.S a0 a1 a2 G Q) : ACalls P escrowlaw03_reads.n [a0, a1, a2] G Q := by
  have e : escrowlaw03_reads.S a0 a1 a2 G Q = awp cx (escrowlaw03_reads.body) escrowlaw03_reads.an (bodyQ T [.tmp 6] Q) (envL [a0, a1, a2]) G := by kernel_rfl
  exact ACalls_of_awp cxOk (f := escrowlaw03_reads.n) (fn := Try.f50) (c := escrowlaw03_reads.body) (an := escrowlaw03_reads.an) Try.func50 (by kernel_rfl) (by kernel_rfl) (by kernel_rfl) (drawsOk_of (by kernel_rfl) (by kernel_rfl)) (by simp [Try.f50]) (e ▸ h)

/-! #### escrow/escrowlaw03.CursorReads -/
def escrowlaw03_CursorReads.S (a0 a1 a2 : AVal) (G : Heap) (Q : AVal → Heap → Prop) : Prop :=
  ACalls P escrowlaw03_head.n [] G fun v1 G2 => wv (vun .not v1) fun v3 => brB (some v3)
  (Q (.bool false) G2)
  (ACalls P cursor_Open.n [a0] G2 fun v4 G5 => ACalls P cursor_Open.n [a1] G5 fun v6 G7 => wv (vbuild T t_ar2_cursor_Reader [(0, v4), (1, v6)]) fun v8 => aNew G7 (.own (z_ar2_cursor_Reader)) fun i9 G10 => wg (vstore T G10 t_ar2_cursor_Reader (.ptr i9 [] 0) v8) fun G11 => ACalls P escrowref03_Open.n [a0] G11 fun v12 G13 => ACalls P escrowref03_Open.n [a1] G13 fun v14 G15 => wv (vbuild T t_ar2_escrowref03_Reader [(0, v12), (1, v14)]) fun v16 => aNew G15 (.own (z_ar2_escrowref03_Reader)) fun i17 G18 => wg (vstore T G18 t_ar2_escrowref03_Reader (.ptr i17 [] 0) v16) fun G19 => let J92 : AVal → Heap → Prop := (fun x27 G26 => brB (some x27)
  (Q (.bool false) G26)
  (∀ R28 : List AVal → Heap → Prop,
  (∀ (x30 x31 x32 x33 : AVal) (G29 : Heap), (wv (vlen T G29 t_sl_escrowlaw03_Op x30) fun v34 => wv (vbin T .lss t_int x33 v34) fun v35 => brB (some v35)
  (wv (viaddr T t_sl_escrowlaw03_Op x30 x33) fun v36 => wv (vfaddr T t_escrowlaw03_Op v36 0) fun v37 => wv (vload T G29 t_bool v37) fun v38 => let J90 : AVal → Heap → Prop := (fun x40 G39 => wv (viaddr T t_ar2_cursor_Reader x31 x40) fun v41 => wv (vload T G39 t_pt_cursor_Reader v41) fun v42 => wv (viaddr T t_ar2_escrowref03_Reader x32 x40) fun v43 => wv (vload T G39 t_pt_escrowref03_Reader v43) fun v44 => wv (viaddr T t_sl_escrowlaw03_Op x30 x33) fun v45 => wv (vload T G39 t_escrowlaw03_Op v45) fun v46 => ACalls P escrowlaw03_reads.n [v42, v44, v46] G39 fun v47 G48 => wv (vun .not v47) fun v49 => brB (some v49)
  (Q (.bool false) G48)
  (∀ R50 : List AVal → Heap → Prop,
  (∀ (x52 x53 x54 x55 x56 : AVal) (G51 : Heap), (wv (vbin T .lss t_int x56 (.int .i64 2)) fun v57 => brB (some v57)
  (wv (viaddr T t_ar2_cursor_Reader x53 x56) fun v58 => wv (vload T G51 t_pt_cursor_Reader v58) fun v59 => wv (viaddr T t_ar2_escrowref03_Reader x54 x56) fun v60 => wv (vload T G51 t_pt_escrowref03_Reader v60) fun v61 => ACalls P cursor_Reader_Err.n [v59] G51 fun v62 G63 => (vload T G63 t_pt_escrowref03_Reader v60 = some v61 ∧ True) ∧ (ACalls P escrowref03_Reader_Err.n [v61] G63 fun v64 G65 => wv (vbin T .neq t_api_Errno v62 v64) fun v66 => brB (some v66)
  (Q (.bool false) G65)
  (wv (viaddr T t_ar2_cursor_Reader x53 x56) fun v67 => wv (vload T G65 t_pt_cursor_Reader v67) fun v68 => wv (viaddr T t_ar2_escrowref03_Reader x54 x56) fun v69 => wv (vload T G65 t_pt_escrowref03_Reader v69) fun v70 => ACalls P cursor_Reader_Rest.n [v68] G65 fun v71 G72 => (vload T G72 t_pt_escrowref03_Reader v69 = some v70 ∧ True) ∧ (ACalls P escrowref03_Reader_Rest.n [v70] G72 fun v73 G74 => wv (vbin T .neq t_string v71 v73) fun v75 => brB (some v75)
  (Q (.bool false) G74)
  (wv (viaddr T t_ar2_cursor_Reader x53 x56) fun v76 => wv (vload T G74 t_pt_cursor_Reader v76) fun v77 => wv (viaddr T t_ar2_escrowref03_Reader x54 x56) fun v78 => wv (vload T G74 t_pt_escrowref03_Reader v78) fun v79 => ACalls P cursor_Reader_Done.n [v77] G74 fun v80 G81 => (vload T G81 t_pt_escrowref03_Reader v78 = some v79 ∧ True) ∧ (ACalls P escrowref03_Reader_Done.n [v79] G81 fun v82 G83 => wv (vbin T .neq t_api_Errno v80 v82) fun v84 => brB (some v84)
  (Q (.bool false) G83)
  (wv (vbin T .add t_int x56 (.int .i64 1)) fun v89 => R50 [x52, x53, x54, x55, v89] G83)))))))
  (wv (vbin T .add t_int x55 (.int .i64 1)) fun v91 => R28 [x52, x53, x54, v91] G51)) → R50 [x52, x53, x54, x55, x56] G51) →
  R50 [x30, x31, x32, x33, .int .i64 0] G48));
  brB (some v38)
  (J90 (.int .i64 1) G29)
  (J90 (.int .i64 0) G29))
  (Q (.bool true) G29)) → R28 [x30, x31, x32, x33] G29) →
  R28 [a2, .ptr i9 [] 0, .ptr i17 [] 0, .int .i64 0] G26));
  wv (viaddr T t_ar2_cursor_Reader (.ptr i9 [] 0) (.int .i64 0)) fun v20 => wv (vload T G19 t_pt_cursor_Reader v20) fun v21 => wv (vbin T .eql t_pt_cursor_Reader v21 (.nilPtr)) fun v22 => brB (some v22)
  (J92 (.bool true) G19)
  (wv (viaddr T t_ar2_cursor_Reader (.ptr i9 [] 0) (.int .i64 1)) fun v23 => wv (vload T G19 t_pt_cursor_Reader v23) fun v24 => wv (vbin T .eql t_pt_cursor_Reader v24 (.nilPtr)) fun v25 => J92 v25 G19))
def escrowlaw03_CursorReads.an : Ann := .two (.nil) (.two (.nil) (.two (.nil) (.two (.nil) (.two (.nil) (.two (.two (.nil) (.loop [2, 7, 8, 9] (.two (.nil) (.two (.two (.nil) (.two (.nil) (.two (.two (.ord [(0, []), (1, []), (2, []), (3, []), (4, []), (5, []), (6, []), (7, []), (8, []), (9, []), (10, []), (11, [])]) (.nil)) (.two (.nil) (.loop [2, 7, 8, 9, 11] (.two (.nil) (.two (.two (.ord [(0, []), (1, []), (2, []), (4, []), (5, []), (6, []), (3, [6]), (7, []), (8, []), (9, []), (10, []), (11, []), (12, []), (14, []), (15, []), (16, []), (13, [16]), (17, []), (18, []), (19, []), (20, []), (21, []), (22, []), (23, []), (25, []), (26, []), (27, []), (24, [27]), (28, []), (29, []), (30, [])]) (.nil)) (.nil)))))))) (.nil))))) (.nil))))))
set_option maxRecDepth 100000 in
theorem escrowlaw03_CursorReads.sound {a0 a1 a2 : AVal} {G : Heap} {Q : AVal → Heap → Prop} (h : escrowlaw03_CursorReads.S a0 a1 a2 G Q) : ACalls P escrowlaw03_CursorReads.n [a0, a1, a2] G Q := by
  have e : escrowlaw03_CursorReads.S a0 a1 a2 G Q = awp cx (escrowlaw03_CursorReads.body) escrowlaw03_CursorReads.an (bodyQ T [.tmp 6] Q) (envL [a0, a1, a2]) G := by kernel_rfl
  exact ACalls_of_awp cxOk (f := escrowlaw03_CursorReads.n) (fn := Try.f10) (c := escrowlaw03_CursorReads.body) (an := escrowlaw03_CursorReads.an) Try.func10 (by kernel_rfl) (by kernel_rfl) (by kernel_rfl) (drawsOk_of (by kernel_rfl) (by kernel_rfl)) (by simp [Try.f10]) (e ▸ h)

/-! #### escrow/escrowlaw03.long -/
def escrowlaw03_long.S (a0 : AVal) (G : Heap) (Q : AVal → Heap → Prop) : Prop :=
  aNew G (.own (a0)) fun i1 G2 => wv (vload T G2 t_escrowlaw03_Val (.ptr i1 [] 0)) fun v3 => ACalls P escrowlaw03_Val_kind.n [v3] G2 fun v4 G5 => wv (vbin T .eql t_int v4 (.int .i64 6)) fun v6 => brB (some v6)
  (wv (vload T G5 t_escrowlaw03_Val (.ptr i1 [] 0)) fun v7 => ACalls P escrowlaw03_Val_text.n [v7] G5 fun v8 G9 => wv (vlen T G9 t_string v8) fun v10 => wv (vbin T .gtr t_int v10 (.int .i64 65535)) fun v11 => Q v11 G9)
  (Q (.bool false) G5)
def escrowlaw03_long.an : Ann := .nil
set_option maxRecDepth 100000 in
theorem escrowlaw03_long.sound {a0 : AVal} {G : Heap} {Q : AVal → Heap → Prop} (h : escrowlaw03_long.S a0 G Q) : ACalls P escrowlaw03_long.n [a0] G Q := by
  have e : escrowlaw03_long.S a0 G Q = awp cx (escrowlaw03_long.body) escrowlaw03_long.an (bodyQ T [.tmp 2] Q) (envL [a0]) G := by kernel_rfl
  exact ACalls_of_awp cxOk (f := escrowlaw03_long.n) (fn := Try.f54) (c := escrowlaw03_long.body) (an := escrowlaw03_long.an) Try.func54 (by kernel_rfl) (by kernel_rfl) (by kernel_rfl) (drawsOk_of (by kernel_rfl) (by kernel_rfl)) (by simp [Try.f54]) (e ▸ h)

/-! #### escrow/escrowlaw03.again -/
def escrowlaw03_again.S (a0 a1 : AVal) (G : Heap) (Q : AVal → Heap → Prop) : Prop :=
  aNew G (.own (a1)) fun i1 G2 => wv (vload T G2 t_escrowlaw03_Val (.ptr i1 [] 0)) fun v3 => ACalls P escrowlaw03_Val_kind.n [v3] G2 fun v4 G5 => wv (vbin T .eql t_int v4 (.int .i64 0)) fun v6 => brB (some v6)
  (wv (vload T G5 t_uint64 (.ptr i1 [1] 1)) fun v7 => wv (vconv T G5 t_uint64 t_uint8 v7) fun v8 => ACalls P cursor_Reader_U8.n [a0] G5 fun v9 G10 => (vload T G10 t_uint64 (.ptr i1 [1] 1) = some v7 ∧ True) ∧ (wv (vbin T .eql t_uint8 v9 v8) fun v11 => Q v11 G10))
  (wv (vbin T .eql t_int v4 (.int .i64 1)) fun v12 => brB (some v12)
  (wv (vload T G5 t_uint64 (.ptr i1 [1] 1)) fun v13 => wv (vconv T G5 t_uint64 t_uint16 v13) fun v14 => ACalls P cursor_Reader_U16.n [a0] G5 fun v15 G16 => (vload T G16 t_uint64 (.ptr i1 [1] 1) = some v13 ∧ True) ∧ (wv (vbin T .eql t_uint16 v15 v14) fun v17 => Q v17 G16))
  (wv (vbin T .eql t_int v4 (.int .i64 2)) fun v18 => brB (some v18)
  (wv (vload T G5 t_uint64 (.ptr i1 [1] 1)) fun v19 => wv (vconv T G5 t_uint64 t_uint32 v19) fun v20 => ACalls P cursor_Reader_U32.n [a0] G5 fun v21 G22 => (vload T G22 t_uint64 (.ptr i1 [1] 1) = some v19 ∧ True) ∧ (wv (vbin T .eql t_uint32 v21 v20) fun v23 => Q v23 G22))
  (wv (vbin T .eql t_int v4 (.int .i64 3)) fun v24 => brB (some v24)
  (wv (vload T G5 t_uint64 (.ptr i1 [1] 1)) fun v25 => ACalls P cursor_Reader_U64.n [a0] G5 fun v26 G27 => (vload T G27 t_uint64 (.ptr i1 [1] 1) = some v25 ∧ True) ∧ (wv (vbin T .eql t_uint64 v26 v25) fun v28 => Q v28 G27))
  (wv (vbin T .eql t_int v4 (.int .i64 4)) fun v29 => brB (some v29)
  (wv (vload T G5 t_int64 (.ptr i1 [2] 2)) fun v30 => ACalls P cursor_Reader_I64.n [a0] G5 fun v31 G32 => (vload T G32 t_int64 (.ptr i1 [2] 2) = some v30 ∧ True) ∧ (wv (vbin T .eql t_int64 v31 v30) fun v33 => Q v33 G32))
  (wv (vbin T .eql t_int v4 (.int .i64 5)) fun v34 => brB (some v34)
  (wv (vload T G5 t_api_Hash (.ptr i1 [3] 3)) fun v35 => ACalls P cursor_Reader_Hash.n [a0] G5 fun v36 G37 => (vload T G37 t_api_Hash (.ptr i1 [3] 3) = some v35 ∧ True) ∧ (wv (vbin T .eql t_api_Hash v36 v35) fun v38 => Q v38 G37))
  (wv (vbin T .eql t_int v4 (.int .i64 6)) fun v39 => brB (some v39)
  (wv (vload T G5 t_escrowlaw03_Val (.ptr i1 [] 0)) fun v40 => wv (vload T G5 t_escrowlaw03_Val (.ptr i1 [] 0)) fun v41 => ACalls P escrowlaw03_Val_text.n [v40] G5 fun v42 G43 => (vload T G43 t_escrowlaw03_Val (.ptr i1 [] 0) = some v41 ∧ True) ∧ (wv (vlen T G43 t_string v42) fun v44 => ACalls P cursor_Reader_Text.n [a0, v44] G43 fun v45 G46 => (vload T G46 t_escrowlaw03_Val (.ptr i1 [] 0) = some v41 ∧ True) ∧ (ACalls P escrowlaw03_Val_text.n [v41] G46 fun v47 G48 => wv (vbin T .eql t_string v45 v47) fun v49 => Q v49 G48)))
  (wv (vload T G5 t_escrowlaw03_Val (.ptr i1 [] 0)) fun v50 => wv (vload T G5 t_escrowlaw03_Val (.ptr i1 [] 0)) fun v51 => ACalls P escrowlaw03_Val_text.n [v50] G5 fun v52 G53 => (vload T G53 t_escrowlaw03_Val (.ptr i1 [] 0) = some v51 ∧ True) ∧ (wv (vlen T G53 t_string v52) fun v54 => ACalls P cursor_Reader_Raw.n [a0, v54] G53 fun v55 G56 => (vload T G56 t_escrowlaw03_Val (.ptr i1 [] 0) = some v51 ∧ True) ∧ (ACalls P escrowlaw03_Val_text.n [v51] G56 fun v57 G58 => wv (vbin T .eql t_string v55 v57) fun v59 => Q v59 G58)))))))))
def escrowlaw03_again.an : Ann := .two (.nil) (.two (.two (.nil) (.two (.nil) (.two (.two (.ord [(0, []), (2, []), (3, []), (4, []), (1, [3]), (5, []), (6, [])]) (.nil)) (.two (.nil) (.two (.two (.ord [(0, []), (2, []), (3, []), (4, []), (1, [3]), (5, []), (6, [])]) (.nil)) (.two (.nil) (.two (.two (.ord [(0, []), (2, []), (3, []), (4, []), (1, [3]), (5, []), (6, [])]) (.nil)) (.two (.nil) (.two (.two (.ord [(0, []), (2, []), (3, []), (1, [3]), (4, []), (5, [])]) (.nil)) (.two (.nil) (.two (.two (.ord [(0, []), (2, []), (3, []), (1, [3]), (4, []), (5, [])]) (.nil)) (.two (.nil) (.two (.two (.ord [(0, []), (2, []), (3, []), (1, [3]), (4, []), (5, [])]) (.nil)) (.two (.nil) (.two (.two (.ord [(0, []), (1, []), (5, []), (2, [5]), (3, []), (4, [5]), (6, []), (7, []), (8, [])]) (.nil)) (.nil)))))))))))))))) (.two (.ord [(0, []), (1, []), (5, []), (2, [5]), (3, []), (4, [5]), (6, []), (7, []), (8, [])]) (.nil)))
set_option maxRecDepth 100000 in
theorem escrowlaw03_again.sound {a0 a1 : AVal} {G : Heap} {Q : AVal → Heap → Prop} (h : escrowlaw03_again.S a0 a1 G Q) : ACalls P escrowlaw03_again.n [a0, a1] G Q := by
  have e : escrowlaw03_again.S a0 a1 G Q = awp cx (escrowlaw03_again.body) escrowlaw03_again.an (bodyQ T [.tmp 4] Q) (envL [a0, a1]) G := by kernel_rfl
  exact ACalls_of_awp cxOk (f := escrowlaw03_again.n) (fn := Try.f55) (c := escrowlaw03_again.body) (an := escrowlaw03_again.an) Try.func55 (by kernel_rfl) (by kernel_rfl) (by kernel_rfl) (drawsOk_of (by kernel_rfl) (by kernel_rfl)) (by simp [Try.f55]) (e ▸ h)

/-! #### escrow/escrowlaw03.CursorBack -/
def escrowlaw03_CursorBack.S (a0 a1 : AVal) (G : Heap) (Q : AVal → Heap → Prop) : Prop :=
  ACalls P escrowlaw03_head.n [] G fun v1 G2 => wv (vun .not v1) fun v3 => brB (some v3)
  (Q (.bool false) G2)
  (ACalls P cursor_New.n [] G2 fun v4 G5 => wv (vbin T .eql t_pt_cursor_Writer v4 (.nilPtr)) fun v6 => brB (some v6)
  (Q (.bool false) G5)
  (∀ R7 : List AVal → Heap → Prop,
  (∀ (x9 x10 x11 x12 x13 : AVal) (G8 : Heap), (wv (vlen T G8 t_sl_escrowlaw03_Val x9) fun v14 => wv (vbin T .lss t_int x13 v14) fun v15 => brB (some v15)
  (wv (viaddr T t_sl_escrowlaw03_Val x9 x13) fun v16 => wv (vload T G8 t_escrowlaw03_Val v16) fun v17 => ACalls P escrowlaw03_lays.n [x11, v17] G8 fun v18 G19 => brB (some x12)
  (wv (vbin T .add t_int x13 (.int .i64 1)) fun v29 => R7 [x9, x10, x11, .bool true, v29] G19)
  (wv (viaddr T t_sl_escrowlaw03_Val x9 x13) fun v20 => wv (vload T G19 t_escrowlaw03_Val v20) fun v21 => ACalls P escrowlaw03_long.n [v21] G19 fun v22 G23 => wv (vbin T .add t_int x13 (.int .i64 1)) fun v30 => R7 [x9, x10, x11, v22, v30] G23))
  (ACalls P cursor_Writer_Out.n [x11] G8 fun v31 G32 => wv (vextract v31 0) fun v33 => wv (vextract v31 1) fun v34 => brB (some x12)
  (wv (vbin T .eql t_string v33 (.str [])) fun v35 => brB (some v35)
  (wv (vbin T .eql t_api_Errno v34 (.int .i64 3)) fun v36 => brB (some v36)
  (ACalls P cursor_Writer_Len.n [x11] G32 fun v37 G38 => wv (vbin T .eql t_int v37 (.int .i64 0)) fun v39 => Q v39 G38)
  (Q (.bool false) G32))
  (Q (.bool false) G32))
  (wv (vbin T .add t_string v33 x10) fun v42 => ACalls P cursor_Open.n [v42] G32 fun v43 G44 => let J93 : AVal → Heap → Prop := (fun x52 G51 => brB (some x52)
  (Q (.bool false) G51)
  (∀ R53 : List AVal → Heap → Prop,
  (∀ (x55 x56 x57 x58 : AVal) (G54 : Heap), (wv (vlen T G54 t_sl_escrowlaw03_Val x55) fun v59 => wv (vbin T .lss t_int x58 v59) fun v60 => brB (some v60)
  (wv (viaddr T t_sl_escrowlaw03_Val x55 x58) fun v61 => wv (vload T G54 t_escrowlaw03_Val v61) fun v62 => ACalls P escrowlaw03_again.n [x57, v62] G54 fun v63 G64 => wv (vun .not v63) fun v65 => brB (some v65)
  (Q (.bool false) G64)
  (ACalls P cursor_Reader_Err.n [x57] G64 fun v66 G67 => wv (vbin T .neq t_api_Errno v66 (.int .i64 0)) fun v68 => brB (some v68)
  (Q (.bool false) G67)
  (wv (vbin T .add t_int x58 (.int .i64 1)) fun v73 => R53 [x55, x56, x57, v73] G67)))
  (ACalls P cursor_Reader_Rest.n [x57] G54 fun v74 G75 => wv (vbin T .neq t_string v74 x56) fun v76 => brB (some v76)
  (Q (.bool false) G75)
  (wv (vbin T .eql t_string x56 (.str [])) fun v77 => brB (some v77)
  (ACalls P cursor_Reader_Done.n [x57] G75 fun v78 G79 => wv (vbin T .eql t_api_Errno v78 (.int .i64 0)) fun v80 => Q v80 G79)
  (ACalls P cursor_Reader_Done.n [x57] G75 fun v81 G82 => wv (vbin T .eql t_api_Errno v81 (.int .i64 4)) fun v83 => brB (some v83)
  (wv (vlen T G82 t_string x56) fun v84 => ACalls P cursor_Reader_Raw.n [x57, v84] G82 fun v85 G86 => wv (vbin T .eql t_string v85 x56) fun v87 => brB (some v87)
  (ACalls P cursor_Reader_Done.n [x57] G86 fun v88 G89 => wv (vbin T .eql t_api_Errno v88 (.int .i64 0)) fun v90 => Q v90 G89)
  (Q (.bool false) G86))
  (Q (.bool false) G82))))) → R53 [x55, x56, x57, x58] G54) →
  R53 [x9, x10, v43, .int .i64 0] G51));
  wv (vbin T .neq t_api_Errno v34 (.int .i64 0)) fun v45 => brB (some v45)
  (J93 (.bool true) G44)
  (wv (vbin T .eql t_pt_cursor_Reader v43 (.nilPtr)) fun v46 => brB (some v46)
  (J93 (.bool true) G44)
  (ACalls P cursor_Writer_Len.n [x11] G44 fun v47 G48 => wv (vlen T G48 t_string v33) fun v49 => wv (vbin T .neq t_int v47 v49) fun v50 => J93 v50 G48))))) → R7 [x9, x10, x11, x12, x13] G8) →
  R7 [a0, a1, v4, .bool false, .int .i64 0] G5))
def escrowlaw03_CursorBack.an : Ann := .two (.nil) (.two (.nil) (.two (.nil) (.two (.nil) (.two (.nil) (.two (.two (.nil) (.loop [0, 1, 5, 6, 7] (.nil))) (.two (.nil) (.two (.nil) (.two (.nil) (.two (.nil) (.two (.two (.nil) (.loop [0, 1, 10, 11] (.nil))) (.nil)))))))))))
set_option maxRecDepth 100000 in
theorem escrowlaw03_CursorBack.sound {a0 a1 : AVal} {G : Heap} {Q : AVal → Heap → Prop} (h : escrowlaw03_CursorBack.S a0 a1 G Q) : ACalls P escrowlaw03_CursorBack.n [a0, a1] G Q := by
  have e : escrowlaw03_CursorBack.S a0 a1 G Q = awp cx (escrowlaw03_CursorBack.body) escrowlaw03_CursorBack.an (bodyQ T [.tmp 4] Q) (envL [a0, a1]) G := by kernel_rfl
  exact ACalls_of_awp cxOk (f := escrowlaw03_CursorBack.n) (fn := Try.f11) (c := escrowlaw03_CursorBack.body) (an := escrowlaw03_CursorBack.an) Try.func11 (by kernel_rfl) (by kernel_rfl) (by kernel_rfl) (drawsOk_of (by kernel_rfl) (by kernel_rfl)) (by simp [Try.f11]) (e ▸ h)

/-! #### escrow/escrowlaw03.nothing -/
def escrowlaw03_nothing.S (a0 a1 : AVal) (G : Heap) (Q : AVal → Heap → Prop) : Prop :=
  aNew G (.own (a1)) fun i1 G2 => wv (vload T G2 t_escrowlaw03_Val (.ptr i1 [] 0)) fun v3 => ACalls P escrowlaw03_Val_kind.n [v3] G2 fun v4 G5 => wv (vbin T .eql t_int v4 (.int .i64 0)) fun v6 => brB (some v6)
  (ACalls P cursor_Reader_U8.n [a0] G5 fun v7 G8 => wv (vbin T .eql t_uint8 v7 (.int .u8 0)) fun v9 => Q v9 G8)
  (wv (vbin T .eql t_int v4 (.int .i64 1)) fun v10 => brB (some v10)
  (ACalls P cursor_Reader_U16.n [a0] G5 fun v11 G12 => wv (vbin T .eql t_uint16 v11 (.int .u16 0)) fun v13 => Q v13 G12)
  (wv (vbin T .eql t_int v4 (.int .i64 2)) fun v14 => brB (some v14)
  (ACalls P cursor_Reader_U32.n [a0] G5 fun v15 G16 => wv (vbin T .eql t_uint32 v15 (.int .u32 0)) fun v17 => Q v17 G16)
  (wv (vbin T .eql t_int v4 (.int .i64 3)) fun v18 => brB (some v18)
  (ACalls P cursor_Reader_U64.n [a0] G5 fun v19 G20 => wv (vbin T .eql t_uint64 v19 (.int .u64 0)) fun v21 => Q v21 G20)
  (wv (vbin T .eql t_int v4 (.int .i64 4)) fun v22 => brB (some v22)
  (ACalls P cursor_Reader_I64.n [a0] G5 fun v23 G24 => wv (vbin T .eql t_int64 v23 (.int .i64 0)) fun v25 => Q v25 G24)
  (wv (vbin T .eql t_int v4 (.int .i64 5)) fun v26 => brB (some v26)
  (ACalls P cursor_Reader_Hash.n [a0] G5 fun v27 G28 => wv (vbuild T t_api_Hash []) fun v29 => wv (vbin T .eql t_api_Hash v27 v29) fun v30 => Q v30 G28)
  (wv (vbin T .eql t_int v4 (.int .i64 6)) fun v31 => brB (some v31)
  (wv (vload T G5 t_escrowlaw03_Val (.ptr i1 [] 0)) fun v32 => ACalls P escrowlaw03_Val_text.n [v32] G5 fun v33 G34 => wv (vlen T G34 t_string v33) fun v35 => ACalls P cursor_Reader_Text.n [a0, v35] G34 fun v36 G37 => wv (vbin T .eql t_string v36 (.str [])) fun v38 => Q v38 G37)
  (wv (vload T G5 t_escrowlaw03_Val (.ptr i1 [] 0)) fun v39 => ACalls P escrowlaw03_Val_text.n [v39] G5 fun v40 G41 => wv (vlen T G41 t_string v40) fun v42 => ACalls P cursor_Reader_Raw.n [a0, v42] G41 fun v43 G44 => wv (vbin T .eql t_string v43 (.str [])) fun v45 => Q v45 G44)))))))
def escrowlaw03_nothing.an : Ann := .nil
set_option maxRecDepth 100000 in
theorem escrowlaw03_nothing.sound {a0 a1 : AVal} {G : Heap} {Q : AVal → Heap → Prop} (h : escrowlaw03_nothing.S a0 a1 G Q) : ACalls P escrowlaw03_nothing.n [a0, a1] G Q := by
  have e : escrowlaw03_nothing.S a0 a1 G Q = awp cx (escrowlaw03_nothing.body) escrowlaw03_nothing.an (bodyQ T [.tmp 4] Q) (envL [a0, a1]) G := by kernel_rfl
  exact ACalls_of_awp cxOk (f := escrowlaw03_nothing.n) (fn := Try.f56) (c := escrowlaw03_nothing.body) (an := escrowlaw03_nothing.an) Try.func56 (by kernel_rfl) (by kernel_rfl) (by kernel_rfl) (drawsOk_of (by kernel_rfl) (by kernel_rfl)) (by simp [Try.f56]) (e ▸ h)

/-! #### escrow/escrowlaw03.CursorCut -/
def escrowlaw03_CursorCut.S (a0 a1 : AVal) (G : Heap) (Q : AVal → Heap → Prop) : Prop :=
  ACalls P escrowlaw03_head.n [] G fun v1 G2 => wv (vun .not v1) fun v3 => brB (some v3)
  (Q (.bool false) G2)
  (ACalls P cursor_New.n [] G2 fun v4 G5 => wv (vbin T .eql t_pt_cursor_Writer v4 (.nilPtr)) fun v6 => brB (some v6)
  (Q (.bool false) G5)
  (∀ R7 : List AVal → Heap → Prop,
  (∀ (x9 x10 x11 x12 x13 : AVal) (G8 : Heap), (wv (vlen T G8 t_sl_escrowlaw03_Val x9) fun v14 => wv (vbin T .lss t_int x13 v14) fun v15 => brB (some v15)
  (wv (viaddr T t_sl_escrowlaw03_Val x9 x13) fun v16 => wv (vload T G8 t_escrowlaw03_Val v16) fun v17 => ACalls P escrowlaw03_long.n [v17] G8 fun v18 G19 => wv (vun .not v18) fun v20 => brB (some v20)
  (wv (viaddr T t_sl_escrowlaw03_Val x9 x13) fun v21 => wv (vload T G19 t_escrowlaw03_Val v21) fun v22 => ACalls P escrowlaw03_lays.n [x11, v22] G19 fun v23 G24 => ACalls P cursor_Writer_Len.n [x11] G24 fun v32 G33 => aBuildSlice T t_sl_int 1 [(0, v32)] G33 fun v34 G35 => aAppend T G35 t_sl_int t_sl_int x12 v34 fun v36 G37 => wv (vbin T .add t_int x13 (.int .i64 1)) fun v47 => R7 [x9, x10, x11, v36, v47] G37)
  (ACalls P cursor_Writer_Len.n [x11] G19 fun v38 G39 => aBuildSlice T t_sl_int 1 [(0, v38)] G39 fun v40 G41 => aAppend T G41 t_sl_int t_sl_int x12 v40 fun v42 G43 => wv (vbin T .add t_int x13 (.int .i64 1)) fun v48 => R7 [x9, x10, x11, v42, v48] G43))
  (ACalls P cursor_Writer_Out.n [x11] G8 fun v49 G50 => wv (vextract v49 0) fun v51 => wv (vextract v49 1) fun v52 => wv (vbin T .neq t_api_Errno v52 (.int .i64 0)) fun v53 => brB (some v53)
  (Q (.bool false) G50)
  (wv (vbin T .lss t_int x10 (.int .i64 0)) fun v54 => let J122 : AVal → Heap → Prop := (fun x58 G57 => wv (vlen T G57 t_string v51) fun v59 => wv (vbin T .add t_int v59 (.int .i64 1)) fun v60 => wv (vbin T .rem t_int x58 v60) fun v61 => wv (vslice T t_string v51 none (some (v61)) none) fun v62 => ACalls P cursor_Open.n [v62] G57 fun v63 G64 => wv (vbin T .eql t_pt_cursor_Reader v63 (.nilPtr)) fun v65 => brB (some v65)
  (Q (.bool false) G64)
  (∀ R66 : List AVal → Heap → Prop,
  (∀ (x68 x69 x70 x71 x72 x73 : AVal) (G67 : Heap), (wv (vlen T G67 t_sl_escrowlaw03_Val x68) fun v74 => wv (vbin T .lss t_int x73 v74) fun v75 => brB (some v75)
  (let J116 : AVal → Heap → Prop := (fun x114 G113 => wv (vbin T .add t_int x73 (.int .i64 1)) fun v115 => R66 [x68, x69, x70, x71, x114, v115] G113);
  wv (viaddr T t_sl_escrowlaw03_Val x68 x73) fun v76 => wv (vload T G67 t_escrowlaw03_Val v76) fun v77 => ACalls P escrowlaw03_long.n [v77] G67 fun v78 G79 => brB (some v78)
  (J116 x72 G79)
  (let J112 : AVal → Heap → Prop := (fun x85 G84 => brB (some x85)
  (wv (viaddr T t_sl_escrowlaw03_Val x68 x73) fun v86 => wv (vload T G84 t_escrowlaw03_Val v86) fun v87 => ACalls P escrowlaw03_again.n [x71, v87] G84 fun v88 G89 => wv (vun .not v88) fun v90 => brB (some v90)
  (Q (.bool false) G89)
  (ACalls P cursor_Reader_Err.n [x71] G89 fun v91 G92 => wv (vbin T .neq t_api_Errno v91 (.int .i64 0)) fun v93 => brB (some v93)
  (Q (.bool false) G92)
  (J116 x72 G92)))
  (wv (viaddr T t_sl_escrowlaw03_Val x68 x73) fun v96 => wv (vload T G84 t_escrowlaw03_Val v96) fun v97 => ACalls P escrowlaw03_nothing.n [x71, v97] G84 fun v98 G99 => wv (vun .not v98) fun v100 => brB (some v100)
  (Q (.bool false) G99)
  (ACalls P cursor_Reader_Err.n [x71] G99 fun v101 G102 => wv (vbin T .neq t_api_Errno v101 (.int .i64 2)) fun v103 => brB (some v103)
  (Q (.bool false) G102)
  (ACalls P cursor_Reader_Rest.n [x71] G102 fun v104 G105 => wv (vbin T .neq t_string v104 (.str [])) fun v106 => brB (some v106)
  (Q (.bool false) G105)
  (ACalls P cursor_Reader_Done.n [x71] G105 fun v107 G108 => wv (vbin T .neq t_api_Errno v107 (.int .i64 2)) fun v109 => brB (some v109)
  (Q (.bool false) G108)
  (J116 (.bool true) G108))))));
  wv (vun .not x72) fun v80 => brB (some v80)
  (wv (viaddr T t_sl_int x69 x73) fun v81 => wv (vload T G79 t_int v81) fun v82 => wv (vbin T .leq t_int v82 x70) fun v83 => J112 v83 G79)
  (J112 (.bool false) G79)))
  (brB (some x72)
  (Q (.bool true) G67)
  (ACalls P cursor_Reader_Done.n [x71] G67 fun v117 G118 => wv (vbin T .eql t_api_Errno v117 (.int .i64 0)) fun v119 => Q v119 G118))) → R66 [x68, x69, x70, x71, x72, x73] G67) →
  R66 [x9, x12, v61, v63, .bool false, .int .i64 0] G64));
  brB (some v54)
  (wv (vbin T .add t_int x10 (.int .i64 1)) fun v55 => wv (vun .neg v55) fun v56 => J122 v56 G50)
  (J122 x10 G50)))) → R7 [x9, x10, x11, x12, x13] G8) →
  R7 [a0, a1, v4, .nilSlice, .int .i64 0] G5))
def escrowlaw03_CursorCut.an : Ann := .two (.nil) (.two (.nil) (.two (.nil) (.two (.nil) (.two (.nil) (.two (.two (.nil) (.loop [0, 1, 5, 6, 7] (.nil))) (.two (.nil) (.two (.nil) (.two (.nil) (.two (.nil) (.two (.nil) (.two (.nil) (.two (.nil) (.two (.nil) (.two (.two (.nil) (.loop [0, 6, 10, 11, 12, 13] (.nil))) (.nil)))))))))))))))
set_option maxRecDepth 100000 in
theorem escrowlaw03_CursorCut.sound {a0 a1 : AVal} {G : Heap} {Q : AVal → Heap → Prop} (h : escrowlaw03_CursorCut.S a0 a1 G Q) : ACalls P escrowlaw03_CursorCut.n [a0, a1] G Q := by
  have e : escrowlaw03_CursorCut.S a0 a1 G Q = awp cx (escrowlaw03_CursorCut.body) escrowlaw03_CursorCut.an (bodyQ T [.tmp 4] Q) (envL [a0, a1]) G := by kernel_rfl
  exact ACalls_of_awp cxOk (f := escrowlaw03_CursorCut.n) (fn := Try.f12) (c := escrowlaw03_CursorCut.body) (an := escrowlaw03_CursorCut.an) Try.func12 (by kernel_rfl) (by kernel_rfl) (by kernel_rfl) (drawsOk_of (by kernel_rfl) (by kernel_rfl)) (by simp [Try.f12]) (e ▸ h)

end Go.Esc.M
