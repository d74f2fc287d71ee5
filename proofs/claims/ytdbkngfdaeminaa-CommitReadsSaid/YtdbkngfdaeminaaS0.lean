/- Printed by gen.py (own work): functions of the program Ytdbkngfdaeminaa over trees and the abstract heap. -/
import Derived.Test.YtdbkngfdaeminaaT
set_option linter.unusedSimpArgs false
set_option linter.unusedVariables false
namespace Go.Esc.M
open Go Go.Esc Go.Proofs

/-! #### escrow/escrowlaw14.same -/
def escrowlaw14_same.S (a0 a1 : AVal) (G : Heap) (Q : AVal → Heap → Prop) : Prop :=
  aNew G (.own (a0)) fun i1 G2 => aNew G2 (.own (a1)) fun i3 G4 => let J37 : AVal → Heap → Prop := (fun x17 G16 => brB (some x17)
  (Q (.bool false) G16)
  (∀ R18 : List AVal → Heap → Prop,
  (∀ (x20 x21 x22 : AVal) (G19 : Heap), (wv (vfaddr T t_api_Ledger x20 2) fun v23 => wv (vload T G19 t_sl_api_Pending v23) fun v24 => wv (vlen T G19 t_sl_api_Pending v24) fun v25 => wv (vbin T .lss t_int x22 v25) fun v26 => brB (some v26)
  (wv (vfaddr T t_api_Ledger x20 2) fun v27 => wv (vload T G19 t_sl_api_Pending v27) fun v28 => wv (viaddr T t_sl_api_Pending v28 x22) fun v29 => wv (vload T G19 t_api_Pending v29) fun v30 => wv (vfaddr T t_api_Ledger x21 2) fun v31 => wv (vload T G19 t_sl_api_Pending v31) fun v32 => wv (viaddr T t_sl_api_Pending v32 x22) fun v33 => wv (vload T G19 t_api_Pending v33) fun v34 => wv (vbin T .neq t_api_Pending v30 v34) fun v35 => brB (some v35)
  (Q (.bool false) G19)
  (wv (vbin T .add t_int x22 (.int .i64 1)) fun v36 => R18 [x20, x21, v36] G19))
  (Q (.bool true) G19)) → R18 [x20, x21, x22] G19) →
  R18 [.ptr i1 [] 0, .ptr i3 [] 0, .int .i64 0] G16));
  wv (vload T G4 t_int64 (.ptr i1 [0] 0)) fun v5 => wv (vload T G4 t_int64 (.ptr i3 [0] 0)) fun v6 => wv (vbin T .neq t_int64 v5 v6) fun v7 => brB (some v7)
  (J37 (.bool true) G4)
  (wv (vload T G4 t_int64 (.ptr i1 [1] 1)) fun v8 => wv (vload T G4 t_int64 (.ptr i3 [1] 1)) fun v9 => wv (vbin T .neq t_int64 v8 v9) fun v10 => brB (some v10)
  (J37 (.bool true) G4)
  (wv (vload T G4 t_sl_api_Pending (.ptr i1 [2] 2)) fun v11 => wv (vlen T G4 t_sl_api_Pending v11) fun v12 => wv (vload T G4 t_sl_api_Pending (.ptr i3 [2] 2)) fun v13 => wv (vlen T G4 t_sl_api_Pending v13) fun v14 => wv (vbin T .neq t_int v12 v14) fun v15 => J37 v15 G4))
def escrowlaw14_same.an : Ann := .two (.nil) (.two (.nil) (.two (.two (.nil) (.loop [2, 3, 5] [false, false, false] (.two (.nil) (.two (.two (.ord [(0, []), (1, []), (2, []), (3, []), (4, []), (5, []), (6, []), (7, []), (8, []), (9, []), (10, [])]) (.nil)) (.nil))))) (.nil)))
set_option maxRecDepth 100000 in
theorem escrowlaw14_same.sound {a0 a1 : AVal} {G : Heap} {Q : AVal → Heap → Prop} (h : escrowlaw14_same.S a0 a1 G Q) : ACalls P escrowlaw14_same.n [a0, a1] G Q := by
  have e : escrowlaw14_same.S a0 a1 G Q = awp cx (escrowlaw14_same.body) escrowlaw14_same.an (bodyQ T [.tmp 4] Q) (envL [a0, a1]) G := by kernel_rfl
  exact ACalls_of_awp cxOk (f := escrowlaw14_same.n) (fn := Try.f11) (c := escrowlaw14_same.body) (an := escrowlaw14_same.an) Try.func11 (by kernel_rfl) (by kernel_rfl) (by kernel_rfl) (drawsOk_of (by kernel_rfl) (by kernel_rfl)) (by simp [Try.f11]) (e ▸ h)

/-! #### escrow/commit.sound -/
def commit_sound.S (a0 : AVal) (G : Heap) (Q : AVal → Heap → Prop) : Prop :=
  aNew G (.own (a0)) fun i1 G2 => let J62 : AVal → Heap → Prop := (fun x12 G11 => brB (some x12)
  (Q (.bool false) G11)
  (aNew G11 (.map []) fun i13 G14 => aNew G14 (.map []) fun i15 G16 => aMapUpdate T G16 t_map_bool_int64 (.map i15) (.bool true) (.int .i64 (-1)) fun G17 => aMapUpdate T G17 t_map_bool_int64 (.map i15) (.bool false) (.int .i64 (-1)) fun G18 => wv (vload T G18 t_sl_api_Pending (.ptr i1 [2] 2)) fun v19 => wv (vlen T G18 t_sl_api_Pending v19) fun v20 => ∀ R21 : List AVal → Heap → Prop,
  (∀ (x23 x24 x25 x26 x27 : AVal) (G22 : Heap), (wv (vbin T .lss t_int x27 x26) fun v28 => brB (some v28)
  (wv (viaddr T t_sl_api_Pending x25 x27) fun v29 => wv (vload T G22 t_api_Pending v29) fun v30 => aNew G22 (.own (z_api_Pending)) fun i31 G32 => wg (vstore T G32 t_api_Pending (.ptr i31 [] 0) v30) fun G33 => let J54 : AVal → Heap → Prop := (fun x46 G45 => brB (some x46)
  (Q (.bool false) G45)
  (wv (vload T G45 t_bool (.ptr i31 [0] 0)) fun v47 => wv (vload T G45 t_int64 (.ptr i31 [1] 1)) fun v48 => aMapUpdate T G45 t_map_bool_int64 x24 v47 v48 fun G49 => wv (vload T G49 t_bool (.ptr i31 [0] 0)) fun v50 => wv (vlookup T G49 t_map_bool_int x23 v50 false) fun v51 => wv (vbin T .add t_int v51 (.int .i64 1)) fun v52 => aMapUpdate T G49 t_map_bool_int x23 v50 v52 fun G53 => wv (vbin T .add t_int x27 (.int .i64 1)) fun v55 => R21 [x23, x24, x25, x26, v55] G53));
  wv (vload T G33 t_int64 (.ptr i31 [2] 2)) fun v34 => wv (vbin T .lss t_int64 v34 (.int .i64 1)) fun v35 => brB (some v35)
  (J54 (.bool true) G33)
  (wv (vload T G33 t_int64 (.ptr i31 [2] 2)) fun v36 => wv (vbin T .gtr t_int64 v36 (.int .i64 1152921504606846976)) fun v37 => brB (some v37)
  (J54 (.bool true) G33)
  (wv (vload T G33 t_int64 (.ptr i31 [1] 1)) fun v38 => wv (vload T G33 t_bool (.ptr i31 [0] 0)) fun v39 => wv (vlookup T G33 t_map_bool_int64 x24 v39 false) fun v40 => wv (vbin T .leq t_int64 v38 v40) fun v41 => brB (some v41)
  (J54 (.bool true) G33)
  (wv (vload T G33 t_bool (.ptr i31 [0] 0)) fun v42 => brB (some v42)
  (wv (vlookup T G33 t_map_bool_int x23 (.bool false) false) fun v43 => wv (vbin T .gtr t_int v43 (.int .i64 0)) fun v44 => J54 v44 G33)
  (J54 (.bool false) G33)))))
  (wv (vlookup T G22 t_map_bool_int x23 (.bool true) false) fun v56 => wv (vbin T .leq t_int v56 (.int .i64 483)) fun v57 => brB (some v57)
  (wv (vlookup T G22 t_map_bool_int x23 (.bool false) false) fun v58 => wv (vbin T .leq t_int v58 (.int .i64 483)) fun v59 => Q v59 G22)
  (Q (.bool false) G22))) → R21 [x23, x24, x25, x26, x27] G22) →
  R21 [.map i13, .map i15, v19, v20, .int .i64 0] G18));
  wv (vload T G2 t_int64 (.ptr i1 [0] 0)) fun v3 => wv (vbin T .lss t_int64 v3 (.int .i64 0)) fun v4 => brB (some v4)
  (J62 (.bool true) G2)
  (wv (vload T G2 t_int64 (.ptr i1 [0] 0)) fun v5 => wv (vbin T .gtr t_int64 v5 (.int .i64 1152921504606846976)) fun v6 => brB (some v6)
  (J62 (.bool true) G2)
  (wv (vload T G2 t_int64 (.ptr i1 [1] 1)) fun v7 => wv (vbin T .lss t_int64 v7 (.int .i64 0)) fun v8 => brB (some v8)
  (J62 (.bool true) G2)
  (wv (vload T G2 t_int64 (.ptr i1 [1] 1)) fun v9 => wv (vbin T .gtr t_int64 v9 (.int .i64 1152921504606846976)) fun v10 => J62 v10 G2)))
def commit_sound.an : Ann := .two (.nil) (.two (.nil) (.two (.nil) (.two (.nil) (.two (.two (.nil) (.loop [3, 4, 29, 30, 31] [false, false, false, false, false] (.nil))) (.nil)))))
set_option maxRecDepth 100000 in
theorem commit_sound.sound {a0 : AVal} {G : Heap} {Q : AVal → Heap → Prop} (h : commit_sound.S a0 G Q) : ACalls P commit_sound.n [a0] G Q := by
  have e : commit_sound.S a0 G Q = awp cx (commit_sound.body) commit_sound.an (bodyQ T [.tmp 2] Q) (envL [a0]) G := by kernel_rfl
  exact ACalls_of_awp cxOk (f := commit_sound.n) (fn := Try.f19) (c := commit_sound.body) (an := commit_sound.an) Try.func19 (by kernel_rfl) (by kernel_rfl) (by kernel_rfl) (drawsOk_of (by kernel_rfl) (by kernel_rfl)) (by simp [Try.f19]) (e ▸ h)

/-! #### escrow/cursor.New -/
def cursor_New.S (G : Heap) (Q : AVal → Heap → Prop) : Prop :=
  wv (vbuild T t_cursor_Writer []) fun v1 => aNew G (.own (v1)) fun i2 G3 => Q (.ptr i2 [] 0) G3
def cursor_New.an : Ann := .nil
set_option maxRecDepth 100000 in
theorem cursor_New.sound {G : Heap} {Q : AVal → Heap → Prop} (h : cursor_New.S G Q) : ACalls P cursor_New.n [] G Q := by
  have e : cursor_New.S G Q = awp cx (cursor_New.body) cursor_New.an (bodyQ T [.tmp 0] Q) (envL []) G := by kernel_rfl
  exact ACalls_of_awp cxOk (f := cursor_New.n) (fn := Try.f20) (c := cursor_New.body) (an := cursor_New.an) Try.func20 (by kernel_rfl) (by kernel_rfl) (by kernel_rfl) (drawsOk_of (by kernel_rfl) (by kernel_rfl)) (by simp [Try.f20]) (e ▸ h)

/-! #### escrow/cursor.lay[uint8] -/
def cursor_lay_uint8.S (a0 a1 a2 : AVal) (G : Heap) (Q : AVal → Heap → Prop) : Prop :=
  wv (vnil a0) fun v1 => wv (vfaddr T t_cursor_Writer v1 1) fun v2 => wv (vload T G t_api_Errno v2) fun v3 => wv (vbin T .neq t_api_Errno v3 (.int .i64 0)) fun v4 => brB (some v4)
  (Q (.tuple []) G)
  (wv (vbin T .sub t_int a2 (.int .i64 1)) fun v5 => ∀ R6 : List AVal → Heap → Prop,
  (∀ (x8 x9 x10 : AVal) (G7 : Heap), (wv (vbin T .geq t_int x10 (.int .i64 0)) fun v11 => brB (some v11)
  (wv (vnil x8) fun v12 => wv (vfaddr T t_cursor_Writer v12 0) fun v13 => wv (vload T G7 t_sl_uint8 v13) fun v14 => wv (vconv T G7 t_uint8 t_uint64 x9) fun v15 => wv (vbin T .mul t_int (.int .i64 8) x10) fun v16 => wv (vbin T .shr t_uint64 v15 v16) fun v17 => wv (vconv T G7 t_uint64 t_uint8 v17) fun v18 => aBuildSlice T t_sl_uint8 1 [(0, v18)] G7 fun v19 G20 => aAppend T G20 t_sl_uint8 t_sl_uint8 v14 v19 fun v21 G22 => wv (vnil x8) fun v23 => wv (vfaddr T t_cursor_Writer v23 0) fun v24 => wg (vstore T G22 t_sl_uint8 v24 v21) fun G25 => wv (vbin T .sub t_int x10 (.int .i64 1)) fun v26 => R6 [x8, x9, v26] G25)
  (Q (.tuple []) G7)) → R6 [x8, x9, x10] G7) →
  R6 [a0, a1, v5] G)
def cursor_lay_uint8.an : Ann := .two (.nil) (.two (.nil) (.loop [0, 1, 6] [false, false, false] (.two (.nil) (.two (.ord [(0, []), (1, []), (2, []), (3, []), (4, []), (5, []), (6, []), (7, []), (8, []), (9, []), (10, []), (11, []), (12, []), (13, []), (14, []), (15, [])]) (.nil)))))
set_option maxRecDepth 100000 in
theorem cursor_lay_uint8.sound {a0 a1 a2 : AVal} {G : Heap} {Q : AVal → Heap → Prop} (h : cursor_lay_uint8.S a0 a1 a2 G Q) : ACalls P cursor_lay_uint8.n [a0, a1, a2] G Q := by
  have e : cursor_lay_uint8.S a0 a1 a2 G Q = awp cx (cursor_lay_uint8.body) cursor_lay_uint8.an (bodyQ T [] Q) (envL [a0, a1, a2]) G := by kernel_rfl
  exact ACalls_of_awp cxOk (f := cursor_lay_uint8.n) (fn := Try.f38) (c := cursor_lay_uint8.body) (an := cursor_lay_uint8.an) Try.func38 (by kernel_rfl) (by kernel_rfl) (by kernel_rfl) (drawsOk_of (by kernel_rfl) (by kernel_rfl)) (by simp [Try.f38]) (e ▸ h)

/-! #### (*escrow/cursor.Writer).U8 -/
def cursor_Writer_U8.S (a0 a1 : AVal) (G : Heap) (Q : AVal → Heap → Prop) : Prop :=
  ACalls P cursor_lay_uint8.n [a0, a1, .int .i64 1] G fun v1 G2 => Q (.tuple []) G2
def cursor_Writer_U8.an : Ann := .nil
set_option maxRecDepth 100000 in
theorem cursor_Writer_U8.sound {a0 a1 : AVal} {G : Heap} {Q : AVal → Heap → Prop} (h : cursor_Writer_U8.S a0 a1 G Q) : ACalls P cursor_Writer_U8.n [a0, a1] G Q := by
  have e : cursor_Writer_U8.S a0 a1 G Q = awp cx (cursor_Writer_U8.body) cursor_Writer_U8.an (bodyQ T [] Q) (envL [a0, a1]) G := by kernel_rfl
  exact ACalls_of_awp cxOk (f := cursor_Writer_U8.n) (fn := Try.f21) (c := cursor_Writer_U8.body) (an := cursor_Writer_U8.an) Try.func21 (by kernel_rfl) (by kernel_rfl) (by kernel_rfl) (drawsOk_of (by kernel_rfl) (by kernel_rfl)) (by simp [Try.f21]) (e ▸ h)

/-! #### escrow/cursor.lay[uint64] -/
def cursor_lay_uint64.S (a0 a1 a2 : AVal) (G : Heap) (Q : AVal → Heap → Prop) : Prop :=
  wv (vnil a0) fun v1 => wv (vfaddr T t_cursor_Writer v1 1) fun v2 => wv (vload T G t_api_Errno v2) fun v3 => wv (vbin T .neq t_api_Errno v3 (.int .i64 0)) fun v4 => brB (some v4)
  (Q (.tuple []) G)
  (wv (vbin T .sub t_int a2 (.int .i64 1)) fun v5 => ∀ R6 : List AVal → Heap → Prop,
  (∀ (x8 x9 x10 : AVal) (G7 : Heap), (wv (vbin T .geq t_int x10 (.int .i64 0)) fun v11 => brB (some v11)
  (wv (vnil x8) fun v12 => wv (vfaddr T t_cursor_Writer v12 0) fun v13 => wv (vload T G7 t_sl_uint8 v13) fun v14 => wv (vbin T .mul t_int (.int .i64 8) x10) fun v15 => wv (vbin T .shr t_uint64 x9 v15) fun v16 => wv (vconv T G7 t_uint64 t_uint8 v16) fun v17 => aBuildSlice T t_sl_uint8 1 [(0, v17)] G7 fun v18 G19 => aAppend T G19 t_sl_uint8 t_sl_uint8 v14 v18 fun v20 G21 => wv (vnil x8) fun v22 => wv (vfaddr T t_cursor_Writer v22 0) fun v23 => wg (vstore T G21 t_sl_uint8 v23 v20) fun G24 => wv (vbin T .sub t_int x10 (.int .i64 1)) fun v25 => R6 [x8, x9, v25] G24)
  (Q (.tuple []) G7)) → R6 [x8, x9, x10] G7) →
  R6 [a0, a1, v5] G)
def cursor_lay_uint64.an : Ann := .two (.nil) (.two (.nil) (.loop [0, 1, 6] [false, false, false] (.two (.nil) (.two (.ord [(0, []), (1, []), (2, []), (3, []), (4, []), (5, []), (6, []), (7, []), (8, []), (9, []), (10, []), (11, []), (12, []), (13, []), (14, [])]) (.nil)))))
set_option maxRecDepth 100000 in
theorem cursor_lay_uint64.sound {a0 a1 a2 : AVal} {G : Heap} {Q : AVal → Heap → Prop} (h : cursor_lay_uint64.S a0 a1 a2 G Q) : ACalls P cursor_lay_uint64.n [a0, a1, a2] G Q := by
  have e : cursor_lay_uint64.S a0 a1 a2 G Q = awp cx (cursor_lay_uint64.body) cursor_lay_uint64.an (bodyQ T [] Q) (envL [a0, a1, a2]) G := by kernel_rfl
  exact ACalls_of_awp cxOk (f := cursor_lay_uint64.n) (fn := Try.f39) (c := cursor_lay_uint64.body) (an := cursor_lay_uint64.an) Try.func39 (by kernel_rfl) (by kernel_rfl) (by kernel_rfl) (drawsOk_of (by kernel_rfl) (by kernel_rfl)) (by simp [Try.f39]) (e ▸ h)

/-! #### (*escrow/cursor.Writer).I64 -/
def cursor_Writer_I64.S (a0 a1 : AVal) (G : Heap) (Q : AVal → Heap → Prop) : Prop :=
  wv (vconv T G t_int64 t_uint64 a1) fun v1 => ACalls P cursor_lay_uint64.n [a0, v1, .int .i64 8] G fun v2 G3 => Q (.tuple []) G3
def cursor_Writer_I64.an : Ann := .nil
set_option maxRecDepth 100000 in
theorem cursor_Writer_I64.sound {a0 a1 : AVal} {G : Heap} {Q : AVal → Heap → Prop} (h : cursor_Writer_I64.S a0 a1 G Q) : ACalls P cursor_Writer_I64.n [a0, a1] G Q := by
  have e : cursor_Writer_I64.S a0 a1 G Q = awp cx (cursor_Writer_I64.body) cursor_Writer_I64.an (bodyQ T [] Q) (envL [a0, a1]) G := by kernel_rfl
  exact ACalls_of_awp cxOk (f := cursor_Writer_I64.n) (fn := Try.f22) (c := cursor_Writer_I64.body) (an := cursor_Writer_I64.an) Try.func22 (by kernel_rfl) (by kernel_rfl) (by kernel_rfl) (drawsOk_of (by kernel_rfl) (by kernel_rfl)) (by simp [Try.f22]) (e ▸ h)

/-! #### (*escrow/cursor.Writer).Raw -/
def cursor_Writer_Raw.S (a0 a1 : AVal) (G : Heap) (Q : AVal → Heap → Prop) : Prop :=
  wv (vnil a0) fun v1 => wv (vfaddr T t_cursor_Writer v1 1) fun v2 => wv (vload T G t_api_Errno v2) fun v3 => wv (vbin T .eql t_api_Errno v3 (.int .i64 0)) fun v4 => brB (some v4)
  (wv (vnil a0) fun v5 => wv (vfaddr T t_cursor_Writer v5 0) fun v6 => wv (vload T G t_sl_uint8 v6) fun v7 => aAppend T G t_sl_uint8 t_string v7 a1 fun v8 G9 => wv (vnil a0) fun v10 => wv (vfaddr T t_cursor_Writer v10 0) fun v11 => wg (vstore T G9 t_sl_uint8 v11 v8) fun G12 => Q (.tuple []) G12)
  (Q (.tuple []) G)
def cursor_Writer_Raw.an : Ann := .nil
set_option maxRecDepth 100000 in
theorem cursor_Writer_Raw.sound {a0 a1 : AVal} {G : Heap} {Q : AVal → Heap → Prop} (h : cursor_Writer_Raw.S a0 a1 G Q) : ACalls P cursor_Writer_Raw.n [a0, a1] G Q := by
  have e : cursor_Writer_Raw.S a0 a1 G Q = awp cx (cursor_Writer_Raw.body) cursor_Writer_Raw.an (bodyQ T [] Q) (envL [a0, a1]) G := by kernel_rfl
  exact ACalls_of_awp cxOk (f := cursor_Writer_Raw.n) (fn := Try.f40) (c := cursor_Writer_Raw.body) (an := cursor_Writer_Raw.an) Try.func40 (by kernel_rfl) (by kernel_rfl) (by kernel_rfl) (drawsOk_of (by kernel_rfl) (by kernel_rfl)) (by simp [Try.f40]) (e ▸ h)

/-! #### (*escrow/cursor.Writer).Hash -/
def cursor_Writer_Hash.S (a0 a1 : AVal) (G : Heap) (Q : AVal → Heap → Prop) : Prop :=
  aNew G (.own (a1)) fun i1 G2 => wv (vslice T t_api_Hash (.ptr i1 [] 0) none none none) fun v3 => wv (vconv T G2 t_sl_uint8 t_string v3) fun v4 => ACalls P cursor_Writer_Raw.n [a0, v4] G2 fun v5 G6 => Q (.tuple []) G6
def cursor_Writer_Hash.an : Ann := .nil
set_option maxRecDepth 100000 in
theorem cursor_Writer_Hash.sound {a0 a1 : AVal} {G : Heap} {Q : AVal → Heap → Prop} (h : cursor_Writer_Hash.S a0 a1 G Q) : ACalls P cursor_Writer_Hash.n [a0, a1] G Q := by
  have e : cursor_Writer_Hash.S a0 a1 G Q = awp cx (cursor_Writer_Hash.body) cursor_Writer_Hash.an (bodyQ T [] Q) (envL [a0, a1]) G := by kernel_rfl
  exact ACalls_of_awp cxOk (f := cursor_Writer_Hash.n) (fn := Try.f23) (c := cursor_Writer_Hash.body) (an := cursor_Writer_Hash.an) Try.func23 (by kernel_rfl) (by kernel_rfl) (by kernel_rfl) (drawsOk_of (by kernel_rfl) (by kernel_rfl)) (by simp [Try.f23]) (e ▸ h)

/-! #### escrow/cursor.lay[uint16] -/
def cursor_lay_uint16.S (a0 a1 a2 : AVal) (G : Heap) (Q : AVal → Heap → Prop) : Prop :=
  wv (vnil a0) fun v1 => wv (vfaddr T t_cursor_Writer v1 1) fun v2 => wv (vload T G t_api_Errno v2) fun v3 => wv (vbin T .neq t_api_Errno v3 (.int .i64 0)) fun v4 => brB (some v4)
  (Q (.tuple []) G)
  (wv (vbin T .sub t_int a2 (.int .i64 1)) fun v5 => ∀ R6 : List AVal → Heap → Prop,
  (∀ (x8 x9 x10 : AVal) (G7 : Heap), (wv (vbin T .geq t_int x10 (.int .i64 0)) fun v11 => brB (some v11)
  (wv (vnil x8) fun v12 => wv (vfaddr T t_cursor_Writer v12 0) fun v13 => wv (vload T G7 t_sl_uint8 v13) fun v14 => wv (vconv T G7 t_uint16 t_uint64 x9) fun v15 => wv (vbin T .mul t_int (.int .i64 8) x10) fun v16 => wv (vbin T .shr t_uint64 v15 v16) fun v17 => wv (vconv T G7 t_uint64 t_uint8 v17) fun v18 => aBuildSlice T t_sl_uint8 1 [(0, v18)] G7 fun v19 G20 => aAppend T G20 t_sl_uint8 t_sl_uint8 v14 v19 fun v21 G22 => wv (vnil x8) fun v23 => wv (vfaddr T t_cursor_Writer v23 0) fun v24 => wg (vstore T G22 t_sl_uint8 v24 v21) fun G25 => wv (vbin T .sub t_int x10 (.int .i64 1)) fun v26 => R6 [x8, x9, v26] G25)
  (Q (.tuple []) G7)) → R6 [x8, x9, x10] G7) →
  R6 [a0, a1, v5] G)
def cursor_lay_uint16.an : Ann := .two (.nil) (.two (.nil) (.loop [0, 1, 6] [false, false, false] (.two (.nil) (.two (.ord [(0, []), (1, []), (2, []), (3, []), (4, []), (5, []), (6, []), (7, []), (8, []), (9, []), (10, []), (11, []), (12, []), (13, []), (14, []), (15, [])]) (.nil)))))
set_option maxRecDepth 100000 in
theorem cursor_lay_uint16.sound {a0 a1 a2 : AVal} {G : Heap} {Q : AVal → Heap → Prop} (h : cursor_lay_uint16.S a0 a1 a2 G Q) : ACalls P cursor_lay_uint16.n [a0, a1, a2] G Q := by
  have e : cursor_lay_uint16.S a0 a1 a2 G Q = awp cx (cursor_lay_uint16.body) cursor_lay_uint16.an (bodyQ T [] Q) (envL [a0, a1, a2]) G := by kernel_rfl
  exact ACalls_of_awp cxOk (f := cursor_lay_uint16.n) (fn := Try.f41) (c := cursor_lay_uint16.body) (an := cursor_lay_uint16.an) Try.func41 (by kernel_rfl) (by kernel_rfl) (by kernel_rfl) (drawsOk_of (by kernel_rfl) (by kernel_rfl)) (by simp [Try.f41]) (e ▸ h)

/-! #### (*escrow/cursor.Writer).U16 -/
def cursor_Writer_U16.S (a0 a1 : AVal) (G : Heap) (Q : AVal → Heap → Prop) : Prop :=
  ACalls P cursor_lay_uint16.n [a0, a1, .int .i64 2] G fun v1 G2 => Q (.tuple []) G2
def cursor_Writer_U16.an : Ann := .nil
set_option maxRecDepth 100000 in
theorem cursor_Writer_U16.sound {a0 a1 : AVal} {G : Heap} {Q : AVal → Heap → Prop} (h : cursor_Writer_U16.S a0 a1 G Q) : ACalls P cursor_Writer_U16.n [a0, a1] G Q := by
  have e : cursor_Writer_U16.S a0 a1 G Q = awp cx (cursor_Writer_U16.body) cursor_Writer_U16.an (bodyQ T [] Q) (envL [a0, a1]) G := by kernel_rfl
  exact ACalls_of_awp cxOk (f := cursor_Writer_U16.n) (fn := Try.f24) (c := cursor_Writer_U16.body) (an := cursor_Writer_U16.an) Try.func24 (by kernel_rfl) (by kernel_rfl) (by kernel_rfl) (drawsOk_of (by kernel_rfl) (by kernel_rfl)) (by simp [Try.f24]) (e ▸ h)

/-! #### (*escrow/cursor.Writer).Out -/
def cursor_Writer_Out.S (a0 : AVal) (G : Heap) (Q : AVal → Heap → Prop) : Prop :=
  wv (vnil a0) fun v1 => wv (vfaddr T t_cursor_Writer v1 1) fun v2 => wv (vload T G t_api_Errno v2) fun v3 => wv (vbin T .neq t_api_Errno v3 (.int .i64 0)) fun v4 => brB (some v4)
  (wv (vnil a0) fun v5 => wv (vfaddr T t_cursor_Writer v5 1) fun v6 => wv (vload T G t_api_Errno v6) fun v7 => Q (.tuple [.str [], v7]) G)
  (wv (vnil a0) fun v8 => wv (vfaddr T t_cursor_Writer v8 0) fun v9 => wv (vload T G t_sl_uint8 v9) fun v10 => wv (vconv T G t_sl_uint8 t_string v10) fun v11 => Q (.tuple [v11, .int .i64 0]) G)
def cursor_Writer_Out.an : Ann := .two (.nil) (.two (.two (.nil) (.two (.two (.ord [(0, []), (1, []), (2, []), (3, []), (4, []), (5, [])]) (.nil)) (.nil))) (.nil))
set_option maxRecDepth 100000 in
theorem cursor_Writer_Out.sound {a0 : AVal} {G : Heap} {Q : AVal → Heap → Prop} (h : cursor_Writer_Out.S a0 G Q) : ACalls P cursor_Writer_Out.n [a0] G Q := by
  have e : cursor_Writer_Out.S a0 G Q = awp cx (cursor_Writer_Out.body) cursor_Writer_Out.an (bodyQ T [.tmp 2, .tmp 3] Q) (envL [a0]) G := by kernel_rfl
  exact ACalls_of_awp cxOk (f := cursor_Writer_Out.n) (fn := Try.f25) (c := cursor_Writer_Out.body) (an := cursor_Writer_Out.an) Try.func25 (by kernel_rfl) (by kernel_rfl) (by kernel_rfl) (drawsOk_of (by kernel_rfl) (by kernel_rfl)) (by simp [Try.f25]) (e ▸ h)

/-! #### escrow/commit.Text -/
def commit_Text.S (a0 a1 a2 a3 : AVal) (G : Heap) (Q : AVal → Heap → Prop) : Prop :=
  aNew G (.own (a2)) fun i1 G2 => aNew G2 (.own (a3)) fun i3 G4 => let J71 : AVal → Heap → Prop := (fun x10 G9 => brB (some x10)
  (Q (.tuple [.str [], .int .i64 1]) G9)
  (wv (vload T G9 t_api_Ledger (.ptr i3 [] 0)) fun v11 => ACalls P commit_sound.n [v11] G9 fun v12 G13 => wv (vun .not v12) fun v14 => brB (some v14)
  (Q (.tuple [.str [], .int .i64 4]) G13)
  (ACalls P cursor_New.n [] G13 fun v15 G16 => wv (vconv T G16 t_int t_uint8 a0) fun v17 => ACalls P cursor_Writer_U8.n [v15, v17] G16 fun v18 G19 => ACalls P cursor_Writer_I64.n [v15, a1] G19 fun v20 G21 => wv (vload T G21 t_api_Hash (.ptr i1 [] 0)) fun v22 => ACalls P cursor_Writer_Hash.n [v15, v22] G21 fun v23 G24 => wv (vload T G24 t_int64 (.ptr i3 [0] 0)) fun v25 => ACalls P cursor_Writer_I64.n [v15, v25] G24 fun v26 G27 => wv (vload T G27 t_int64 (.ptr i3 [1] 1)) fun v28 => ACalls P cursor_Writer_I64.n [v15, v28] G27 fun v29 G30 => wv (vload T G30 t_sl_api_Pending (.ptr i3 [2] 2)) fun v31 => wv (vlen T G30 t_sl_api_Pending v31) fun v32 => wv (vconv T G30 t_int t_uint16 v32) fun v33 => ACalls P cursor_Writer_U16.n [v15, v33] G30 fun v34 G35 => wv (vload T G35 t_sl_api_Pending (.ptr i3 [2] 2)) fun v36 => wv (vlen T G35 t_sl_api_Pending v36) fun v37 => ∀ R38 : List AVal → Heap → Prop,
  (∀ (x40 x41 x42 x43 : AVal) (G39 : Heap), (wv (vbin T .lss t_int x43 x42) fun v44 => brB (some v44)
  (wv (viaddr T t_sl_api_Pending x41 x43) fun v45 => wv (vload T G39 t_api_Pending v45) fun v46 => aNew G39 (.own (z_api_Pending)) fun i47 G48 => wg (vstore T G48 t_api_Pending (.ptr i47 [] 0) v46) fun G49 => wv (vload T G49 t_bool (.ptr i47 [0] 0)) fun v50 => let J65 : Heap → Prop := (fun G55 => wv (vload T G55 t_int64 (.ptr i47 [1] 1)) fun v56 => ACalls P cursor_Writer_I64.n [x40, v56] G55 fun v57 G58 => wv (vload T G58 t_int64 (.ptr i47 [2] 2)) fun v59 => ACalls P cursor_Writer_I64.n [x40, v59] G58 fun v60 G61 => wv (vload T G61 t_api_Hash (.ptr i47 [3] 3)) fun v62 => ACalls P cursor_Writer_Hash.n [x40, v62] G61 fun v63 G64 => wv (vbin T .add t_int x43 (.int .i64 1)) fun v66 => R38 [x40, x41, x42, v66] G64);
  brB (some v50)
  (ACalls P cursor_Writer_U8.n [x40, .int .u8 1] G49 fun v51 G52 => J65 G52)
  (ACalls P cursor_Writer_U8.n [x40, .int .u8 0] G49 fun v53 G54 => J65 G54))
  (ACalls P cursor_Writer_Out.n [x40] G39 fun v67 G68 => wv (vextract v67 0) fun v69 => wv (vextract v67 1) fun v70 => Q (.tuple [v69, v70]) G68)) → R38 [x40, x41, x42, x43] G39) →
  R38 [v15, v36, v37, .int .i64 0] G35)));
  wv (vbin T .lss t_int a0 (.int .i64 0)) fun v5 => brB (some v5)
  (J71 (.bool true) G4)
  (wv (vbin T .gtr t_int a0 (.int .i64 1)) fun v6 => brB (some v6)
  (J71 (.bool true) G4)
  (wv (vbin T .lss t_int64 a1 (.int .i64 0)) fun v7 => brB (some v7)
  (J71 (.bool true) G4)
  (wv (vbin T .gtr t_int64 a1 (.int .i64 281474976710655)) fun v8 => J71 v8 G4)))
def commit_Text.an : Ann := .two (.nil) (.two (.nil) (.two (.nil) (.two (.nil) (.two (.nil) (.two (.nil) (.two (.nil) (.two (.nil) (.two (.nil) (.two (.nil) (.two (.two (.nil) (.loop [10, 56, 57, 58] [false, false, false, false] (.nil))) (.nil)))))))))))
set_option maxRecDepth 100000 in
theorem commit_Text.sound {a0 a1 a2 a3 : AVal} {G : Heap} {Q : AVal → Heap → Prop} (h : commit_Text.S a0 a1 a2 a3 G Q) : ACalls P commit_Text.n [a0, a1, a2, a3] G Q := by
  have e : commit_Text.S a0 a1 a2 a3 G Q = awp cx (commit_Text.body) commit_Text.an (bodyQ T [.tmp 8, .tmp 9] Q) (envL [a0, a1, a2, a3]) G := by kernel_rfl
  exact ACalls_of_awp cxOk (f := commit_Text.n) (fn := Try.f8) (c := commit_Text.body) (an := commit_Text.an) Try.func8 (by kernel_rfl) (by kernel_rfl) (by kernel_rfl) (drawsOk_of (by kernel_rfl) (by kernel_rfl)) (by simp [Try.f8]) (e ▸ h)

/-! #### escrow/commit.Turn -/
def commit_Turn.S (a0 : AVal) (G : Heap) (Q : AVal → Heap → Prop) : Prop :=
  aNew G (.own (a0)) fun i1 G2 => aNew G2 (.own (z_api_Ledger)) fun i3 G4 => wv (vload T G4 t_int64 (.ptr i1 [1] 1)) fun v5 => wv (vload T G4 t_int64 (.ptr i1 [0] 0)) fun v6 => wv (vbuild T t_api_Ledger [(0, v5), (1, v6)]) fun v7 => aNew G4 (.own (z_api_Ledger)) fun i8 G9 => wg (vstore T G9 t_api_Ledger (.ptr i8 [] 0) v7) fun G10 => aBuildSlice T t_sl_bool 2 [(0, .bool true), (1, .bool false)] G10 fun v11 G12 => wv (vlen T G12 t_sl_bool v11) fun v13 => ∀ R14 : List AVal → Heap → Prop,
  (∀ (x16 x17 x18 x19 x20 x21 : AVal) (G15 : Heap), (wv (vbin T .lss t_int x21 x20) fun v22 => brB (some v22)
  (wv (viaddr T t_sl_bool x19 x21) fun v23 => wv (vload T G15 t_bool v23) fun v24 => wv (vfaddr T t_api_Ledger x16 2) fun v25 => wv (vload T G15 t_sl_api_Pending v25) fun v26 => wv (vlen T G15 t_sl_api_Pending v26) fun v27 => ∀ R28 : List AVal → Heap → Prop,
  (∀ (x30 x31 x32 x33 x34 x35 x36 x37 x38 x39 : AVal) (G29 : Heap), (wv (vbin T .lss t_int x39 x38) fun v40 => brB (some v40)
  (wv (viaddr T t_sl_api_Pending x37 x39) fun v41 => wv (vload T G29 t_api_Pending v41) fun v42 => aNew G29 (.own (z_api_Pending)) fun i43 G44 => wg (vstore T G44 t_api_Pending (.ptr i43 [] 0) v42) fun G45 => wv (vload T G45 t_bool (.ptr i43 [0] 0)) fun v46 => wv (vbin T .neq t_bool v46 x33) fun v47 => brB (some v47)
  (wg (vstore T G45 t_bool (.ptr i43 [0] 0) x33) fun G48 => wv (vfaddr T t_api_Ledger x32 2) fun v49 => wv (vload T G48 t_sl_api_Pending v49) fun v50 => wv (vload T G48 t_api_Pending (.ptr i43 [] 0)) fun v51 => aBuildSlice T t_sl_api_Pending 1 [(0, v51)] G48 fun v52 G53 => aAppend T G53 t_sl_api_Pending t_sl_api_Pending v50 v52 fun v54 G55 => wv (vfaddr T t_api_Ledger x32 2) fun v56 => wg (vstore T G55 t_sl_api_Pending v56 v54) fun G57 => wv (vbin T .add t_int x39 (.int .i64 1)) fun v61 => R28 [x30, x31, x32, x33, x34, x35, x36, x37, x38, v61] G57)
  (wv (vbin T .add t_int x39 (.int .i64 1)) fun v62 => R28 [x30, x31, x32, x33, x34, x35, x36, x37, x38, v62] G45))
  (wv (vbin T .add t_int x36 (.int .i64 1)) fun v63 => R14 [x30, x31, x32, x34, x35, v63] G29)) → R28 [x30, x31, x32, x33, x34, x35, x36, x37, x38, x39] G29) →
  R28 [x16, x17, x18, v24, x19, x20, x21, v26, v27, .int .i64 0] G15)
  (wv (vload T G15 t_api_Ledger x18) fun v64 => wg (vstore T G15 t_api_Ledger x17 v64) fun G65 => wv (vload T G65 t_api_Ledger x17) fun v66 => Q v66 G65)) → R14 [x16, x17, x18, x19, x20, x21] G15) →
  R14 [.ptr i1 [] 0, .ptr i3 [] 0, .ptr i8 [] 0, v11, v13, .int .i64 0] G12
def commit_Turn.an : Ann := .two (.nil) (.two (.nil) (.two (.two (.nil) (.loop [1, 2, 3, 13, 14, 15] [false, false, false, false, false, false] (.two (.nil) (.two (.nil) (.two (.two (.nil) (.two (.nil) (.loop [1, 2, 3, 5, 13, 14, 15, 20, 21, 22] [false, false, false, false, false, false, false, false, false, false] (.nil)))) (.nil)))))) (.nil)))
set_option maxRecDepth 100000 in
theorem commit_Turn.sound {a0 : AVal} {G : Heap} {Q : AVal → Heap → Prop} (h : commit_Turn.S a0 G Q) : ACalls P commit_Turn.n [a0] G Q := by
  have e : commit_Turn.S a0 G Q = awp cx (commit_Turn.body) commit_Turn.an (bodyQ T [.cell 2 26] Q) (envL [a0]) G := by kernel_rfl
  exact ACalls_of_awp cxOk (f := commit_Turn.n) (fn := Try.f9) (c := commit_Turn.body) (an := commit_Turn.an) Try.func9 (by kernel_rfl) (by kernel_rfl) (by kernel_rfl) (drawsOk_of (by kernel_rfl) (by kernel_rfl)) (by simp [Try.f9]) (e ▸ h)

/-! #### escrow/cursor.Open -/
def cursor_Open.S (a0 : AVal) (G : Heap) (Q : AVal → Heap → Prop) : Prop :=
  wv (vbuild T t_cursor_Reader [(0, a0)]) fun v1 => aNew G (.own (v1)) fun i2 G3 => Q (.ptr i2 [] 0) G3
def cursor_Open.an : Ann := .nil
set_option maxRecDepth 100000 in
theorem cursor_Open.sound {a0 : AVal} {G : Heap} {Q : AVal → Heap → Prop} (h : cursor_Open.S a0 G Q) : ACalls P cursor_Open.n [a0] G Q := by
  have e : cursor_Open.S a0 G Q = awp cx (cursor_Open.body) cursor_Open.an (bodyQ T [.tmp 2] Q) (envL [a0]) G := by kernel_rfl
  exact ACalls_of_awp cxOk (f := cursor_Open.n) (fn := Try.f28) (c := cursor_Open.body) (an := cursor_Open.an) Try.func28 (by kernel_rfl) (by kernel_rfl) (by kernel_rfl) (drawsOk_of (by kernel_rfl) (by kernel_rfl)) (by simp [Try.f28]) (e ▸ h)

/-! #### escrow/cursor.value[uint8] -/
def cursor_value_uint8.S (a0 : AVal) (G : Heap) (Q : AVal → Heap → Prop) : Prop :=
  wv (vlen T G t_string a0) fun v1 => ∀ R2 : List AVal → Heap → Prop,
  (∀ (x4 x5 x6 x7 : AVal) (G3 : Heap), (wv (vbin T .lss t_int x7 x6) fun v8 => brB (some v8)
  (wv (vbin T .shl t_uint64 x5 (.int .u64 8)) fun v9 => wv (vindex T t_string x4 x7) fun v10 => wv (vconv T G3 t_uint8 t_uint64 v10) fun v11 => wv (vbin T .or t_uint64 v9 v11) fun v12 => wv (vbin T .add t_int x7 (.int .i64 1)) fun v13 => R2 [x4, v12, x6, v13] G3)
  (wv (vconv T G3 t_uint64 t_uint8 x5) fun v14 => Q v14 G3)) → R2 [x4, x5, x6, x7] G3) →
  R2 [a0, .int .u64 0, v1, .int .i64 0] G
def cursor_value_uint8.an : Ann := .two (.nil) (.two (.nil) (.two (.two (.nil) (.loop [0, 3, 6, 7] [false, false, false, false] (.nil))) (.nil)))
set_option maxRecDepth 100000 in
theorem cursor_value_uint8.sound {a0 : AVal} {G : Heap} {Q : AVal → Heap → Prop} (h : cursor_value_uint8.S a0 G Q) : ACalls P cursor_value_uint8.n [a0] G Q := by
  have e : cursor_value_uint8.S a0 G Q = awp cx (cursor_value_uint8.body) cursor_value_uint8.an (bodyQ T [.tmp 2] Q) (envL [a0]) G := by kernel_rfl
  exact ACalls_of_awp cxOk (f := cursor_value_uint8.n) (fn := Try.f43) (c := cursor_value_uint8.body) (an := cursor_value_uint8.an) Try.func43 (by kernel_rfl) (by kernel_rfl) (by kernel_rfl) (drawsOk_of (by kernel_rfl) (by kernel_rfl)) (by simp [Try.f43]) (e ▸ h)

/-! #### (*escrow/cursor.Reader).breaks -/
def cursor_Reader_breaks.S (a0 a1 : AVal) (G : Heap) (Q : AVal → Heap → Prop) : Prop :=
  wv (vnil a0) fun v1 => wv (vfaddr T t_cursor_Reader v1 0) fun v2 => wg (vstore T G t_string v2 (.str [])) fun G3 => wv (vnil a0) fun v4 => wv (vfaddr T t_cursor_Reader v4 1) fun v5 => wg (vstore T G3 t_api_Errno v5 a1) fun G6 => Q (.tuple []) G6
def cursor_Reader_breaks.an : Ann := .nil
set_option maxRecDepth 100000 in
theorem cursor_Reader_breaks.sound {a0 a1 : AVal} {G : Heap} {Q : AVal → Heap → Prop} (h : cursor_Reader_breaks.S a0 a1 G Q) : ACalls P cursor_Reader_breaks.n [a0, a1] G Q := by
  have e : cursor_Reader_breaks.S a0 a1 G Q = awp cx (cursor_Reader_breaks.body) cursor_Reader_breaks.an (bodyQ T [] Q) (envL [a0, a1]) G := by kernel_rfl
  exact ACalls_of_awp cxOk (f := cursor_Reader_breaks.n) (fn := Try.f47) (c := cursor_Reader_breaks.body) (an := cursor_Reader_breaks.an) Try.func47 (by kernel_rfl) (by kernel_rfl) (by kernel_rfl) (drawsOk_of (by kernel_rfl) (by kernel_rfl)) (by simp [Try.f47]) (e ▸ h)

/-! #### (*escrow/cursor.Reader).take -/
def cursor_Reader_take.S (a0 a1 : AVal) (G : Heap) (Q : AVal → Heap → Prop) : Prop :=
  wv (vnil a0) fun v1 => wv (vfaddr T t_cursor_Reader v1 1) fun v2 => wv (vload T G t_api_Errno v2) fun v3 => wv (vbin T .neq t_api_Errno v3 (.int .i64 0)) fun v4 => brB (some v4)
  (Q (.str []) G)
  (wv (vnil a0) fun v5 => wv (vfaddr T t_cursor_Reader v5 0) fun v6 => wv (vload T G t_string v6) fun v7 => wv (vlen T G t_string v7) fun v8 => wv (vbin T .lss t_int v8 a1) fun v9 => brB (some v9)
  (ACalls P cursor_Reader_breaks.n [a0, .int .i64 2] G fun v10 G11 => Q (.str []) G11)
  (wv (vnil a0) fun v12 => wv (vfaddr T t_cursor_Reader v12 0) fun v13 => wv (vload T G t_string v13) fun v14 => wv (vslice T t_string v14 none (some (a1)) none) fun v15 => wv (vnil a0) fun v16 => wv (vfaddr T t_cursor_Reader v16 0) fun v17 => wv (vload T G t_string v17) fun v18 => wv (vslice T t_string v18 (some (a1)) none none) fun v19 => wv (vnil a0) fun v20 => wv (vfaddr T t_cursor_Reader v20 0) fun v21 => wg (vstore T G t_string v21 v19) fun G22 => Q v15 G22))
def cursor_Reader_take.an : Ann := .nil
set_option maxRecDepth 100000 in
theorem cursor_Reader_take.sound {a0 a1 : AVal} {G : Heap} {Q : AVal → Heap → Prop} (h : cursor_Reader_take.S a0 a1 G Q) : ACalls P cursor_Reader_take.n [a0, a1] G Q := by
  have e : cursor_Reader_take.S a0 a1 G Q = awp cx (cursor_Reader_take.body) cursor_Reader_take.an (bodyQ T [.tmp 4] Q) (envL [a0, a1]) G := by kernel_rfl
  exact ACalls_of_awp cxOk (f := cursor_Reader_take.n) (fn := Try.f44) (c := cursor_Reader_take.body) (an := cursor_Reader_take.an) Try.func44 (by kernel_rfl) (by kernel_rfl) (by kernel_rfl) (drawsOk_of (by kernel_rfl) (by kernel_rfl)) (by simp [Try.f44]) (e ▸ h)

/-! #### (*escrow/cursor.Reader).U8 -/
def cursor_Reader_U8.S (a0 : AVal) (G : Heap) (Q : AVal → Heap → Prop) : Prop :=
  ACalls P cursor_Reader_take.n [a0, .int .i64 1] G fun v1 G2 => ACalls P cursor_value_uint8.n [v1] G2 fun v3 G4 => Q v3 G4
def cursor_Reader_U8.an : Ann := .nil
set_option maxRecDepth 100000 in
theorem cursor_Reader_U8.sound {a0 : AVal} {G : Heap} {Q : AVal → Heap → Prop} (h : cursor_Reader_U8.S a0 G Q) : ACalls P cursor_Reader_U8.n [a0] G Q := by
  have e : cursor_Reader_U8.S a0 G Q = awp cx (cursor_Reader_U8.body) cursor_Reader_U8.an (bodyQ T [.tmp 2] Q) (envL [a0]) G := by kernel_rfl
  exact ACalls_of_awp cxOk (f := cursor_Reader_U8.n) (fn := Try.f29) (c := cursor_Reader_U8.body) (an := cursor_Reader_U8.an) Try.func29 (by kernel_rfl) (by kernel_rfl) (by kernel_rfl) (drawsOk_of (by kernel_rfl) (by kernel_rfl)) (by simp [Try.f29]) (e ▸ h)

/-! #### escrow/cursor.value[uint64] -/
def cursor_value_uint64.S (a0 : AVal) (G : Heap) (Q : AVal → Heap → Prop) : Prop :=
  wv (vlen T G t_string a0) fun v1 => ∀ R2 : List AVal → Heap → Prop,
  (∀ (x4 x5 x6 x7 : AVal) (G3 : Heap), (wv (vbin T .lss t_int x7 x6) fun v8 => brB (some v8)
  (wv (vbin T .shl t_uint64 x5 (.int .u64 8)) fun v9 => wv (vindex T t_string x4 x7) fun v10 => wv (vconv T G3 t_uint8 t_uint64 v10) fun v11 => wv (vbin T .or t_uint64 v9 v11) fun v12 => wv (vbin T .add t_int x7 (.int .i64 1)) fun v13 => R2 [x4, v12, x6, v13] G3)
  (Q x5 G3)) → R2 [x4, x5, x6, x7] G3) →
  R2 [a0, .int .u64 0, v1, .int .i64 0] G
def cursor_value_uint64.an : Ann := .two (.nil) (.two (.nil) (.two (.two (.nil) (.loop [0, 3, 6, 7] [false, false, false, false] (.nil))) (.nil)))
set_option maxRecDepth 100000 in
theorem cursor_value_uint64.sound {a0 : AVal} {G : Heap} {Q : AVal → Heap → Prop} (h : cursor_value_uint64.S a0 G Q) : ACalls P cursor_value_uint64.n [a0] G Q := by
  have e : cursor_value_uint64.S a0 G Q = awp cx (cursor_value_uint64.body) cursor_value_uint64.an (bodyQ T [.tmp 2] Q) (envL [a0]) G := by kernel_rfl
  exact ACalls_of_awp cxOk (f := cursor_value_uint64.n) (fn := Try.f45) (c := cursor_value_uint64.body) (an := cursor_value_uint64.an) Try.func45 (by kernel_rfl) (by kernel_rfl) (by kernel_rfl) (drawsOk_of (by kernel_rfl) (by kernel_rfl)) (by simp [Try.f45]) (e ▸ h)

/-! #### (*escrow/cursor.Reader).I64 -/
def cursor_Reader_I64.S (a0 : AVal) (G : Heap) (Q : AVal → Heap → Prop) : Prop :=
  ACalls P cursor_Reader_take.n [a0, .int .i64 8] G fun v1 G2 => ACalls P cursor_value_uint64.n [v1] G2 fun v3 G4 => wv (vconv T G4 t_uint64 t_int64 v3) fun v5 => Q v5 G4
def cursor_Reader_I64.an : Ann := .nil
set_option maxRecDepth 100000 in
theorem cursor_Reader_I64.sound {a0 : AVal} {G : Heap} {Q : AVal → Heap → Prop} (h : cursor_Reader_I64.S a0 G Q) : ACalls P cursor_Reader_I64.n [a0] G Q := by
  have e : cursor_Reader_I64.S a0 G Q = awp cx (cursor_Reader_I64.body) cursor_Reader_I64.an (bodyQ T [.tmp 2] Q) (envL [a0]) G := by kernel_rfl
  exact ACalls_of_awp cxOk (f := cursor_Reader_I64.n) (fn := Try.f30) (c := cursor_Reader_I64.body) (an := cursor_Reader_I64.an) Try.func30 (by kernel_rfl) (by kernel_rfl) (by kernel_rfl) (drawsOk_of (by kernel_rfl) (by kernel_rfl)) (by simp [Try.f30]) (e ▸ h)

/-! #### (*escrow/cursor.Reader).Hash -/
def cursor_Reader_Hash.S (a0 : AVal) (G : Heap) (Q : AVal → Heap → Prop) : Prop :=
  aNew G (.own (z_api_Hash)) fun i1 G2 => aNew G2 (.own (z_api_Hash)) fun i3 G4 => wv (vslice T t_api_Hash (.ptr i3 [] 0) none none none) fun v5 => ACalls P cursor_Reader_take.n [a0, .int .i64 32] G4 fun v6 G7 => aCopy T G7 t_sl_uint8 v5 v6 fun v8 G9 => wv (vload T G9 t_api_Hash (.ptr i3 [] 0)) fun v10 => wg (vstore T G9 t_api_Hash (.ptr i1 [] 0) v10) fun G11 => wv (vload T G11 t_api_Hash (.ptr i1 [] 0)) fun v12 => Q v12 G11
def cursor_Reader_Hash.an : Ann := .two (.nil) (.two (.nil) (.two (.ord [(0, []), (1, []), (2, []), (3, [])]) (.nil)))
set_option maxRecDepth 100000 in
theorem cursor_Reader_Hash.sound {a0 : AVal} {G : Heap} {Q : AVal → Heap → Prop} (h : cursor_Reader_Hash.S a0 G Q) : ACalls P cursor_Reader_Hash.n [a0] G Q := by
  have e : cursor_Reader_Hash.S a0 G Q = awp cx (cursor_Reader_Hash.body) cursor_Reader_Hash.an (bodyQ T [.cell 2 23] Q) (envL [a0]) G := by kernel_rfl
  exact ACalls_of_awp cxOk (f := cursor_Reader_Hash.n) (fn := Try.f31) (c := cursor_Reader_Hash.body) (an := cursor_Reader_Hash.an) Try.func31 (by kernel_rfl) (by kernel_rfl) (by kernel_rfl) (drawsOk_of (by kernel_rfl) (by kernel_rfl)) (by simp [Try.f31]) (e ▸ h)

/-! #### escrow/cursor.value[uint16] -/
def cursor_value_uint16.S (a0 : AVal) (G : Heap) (Q : AVal → Heap → Prop) : Prop :=
  wv (vlen T G t_string a0) fun v1 => ∀ R2 : List AVal → Heap → Prop,
  (∀ (x4 x5 x6 x7 : AVal) (G3 : Heap), (wv (vbin T .lss t_int x7 x6) fun v8 => brB (some v8)
  (wv (vbin T .shl t_uint64 x5 (.int .u64 8)) fun v9 => wv (vindex T t_string x4 x7) fun v10 => wv (vconv T G3 t_uint8 t_uint64 v10) fun v11 => wv (vbin T .or t_uint64 v9 v11) fun v12 => wv (vbin T .add t_int x7 (.int .i64 1)) fun v13 => R2 [x4, v12, x6, v13] G3)
  (wv (vconv T G3 t_uint64 t_uint16 x5) fun v14 => Q v14 G3)) → R2 [x4, x5, x6, x7] G3) →
  R2 [a0, .int .u64 0, v1, .int .i64 0] G
def cursor_value_uint16.an : Ann := .two (.nil) (.two (.nil) (.two (.two (.nil) (.loop [0, 3, 6, 7] [false, false, false, false] (.nil))) (.nil)))
set_option maxRecDepth 100000 in
theorem cursor_value_uint16.sound {a0 : AVal} {G : Heap} {Q : AVal → Heap → Prop} (h : cursor_value_uint16.S a0 G Q) : ACalls P cursor_value_uint16.n [a0] G Q := by
  have e : cursor_value_uint16.S a0 G Q = awp cx (cursor_value_uint16.body) cursor_value_uint16.an (bodyQ T [.tmp 2] Q) (envL [a0]) G := by kernel_rfl
  exact ACalls_of_awp cxOk (f := cursor_value_uint16.n) (fn := Try.f46) (c := cursor_value_uint16.body) (an := cursor_value_uint16.an) Try.func46 (by kernel_rfl) (by kernel_rfl) (by kernel_rfl) (drawsOk_of (by kernel_rfl) (by kernel_rfl)) (by simp [Try.f46]) (e ▸ h)

/-! #### (*escrow/cursor.Reader).U16 -/
def cursor_Reader_U16.S (a0 : AVal) (G : Heap) (Q : AVal → Heap → Prop) : Prop :=
  ACalls P cursor_Reader_take.n [a0, .int .i64 2] G fun v1 G2 => ACalls P cursor_value_uint16.n [v1] G2 fun v3 G4 => Q v3 G4
def cursor_Reader_U16.an : Ann := .nil
set_option maxRecDepth 100000 in
theorem cursor_Reader_U16.sound {a0 : AVal} {G : Heap} {Q : AVal → Heap → Prop} (h : cursor_Reader_U16.S a0 G Q) : ACalls P cursor_Reader_U16.n [a0] G Q := by
  have e : cursor_Reader_U16.S a0 G Q = awp cx (cursor_Reader_U16.body) cursor_Reader_U16.an (bodyQ T [.tmp 2] Q) (envL [a0]) G := by kernel_rfl
  exact ACalls_of_awp cxOk (f := cursor_Reader_U16.n) (fn := Try.f32) (c := cursor_Reader_U16.body) (an := cursor_Reader_U16.an) Try.func32 (by kernel_rfl) (by kernel_rfl) (by kernel_rfl) (drawsOk_of (by kernel_rfl) (by kernel_rfl)) (by simp [Try.f32]) (e ▸ h)

/-! #### (*escrow/cursor.Reader).Err -/
def cursor_Reader_Err.S (a0 : AVal) (G : Heap) (Q : AVal → Heap → Prop) : Prop :=
  wv (vnil a0) fun v1 => wv (vfaddr T t_cursor_Reader v1 1) fun v2 => wv (vload T G t_api_Errno v2) fun v3 => Q v3 G
def cursor_Reader_Err.an : Ann := .nil
set_option maxRecDepth 100000 in
theorem cursor_Reader_Err.sound {a0 : AVal} {G : Heap} {Q : AVal → Heap → Prop} (h : cursor_Reader_Err.S a0 G Q) : ACalls P cursor_Reader_Err.n [a0] G Q := by
  have e : cursor_Reader_Err.S a0 G Q = awp cx (cursor_Reader_Err.body) cursor_Reader_Err.an (bodyQ T [.tmp 2] Q) (envL [a0]) G := by kernel_rfl
  exact ACalls_of_awp cxOk (f := cursor_Reader_Err.n) (fn := Try.f33) (c := cursor_Reader_Err.body) (an := cursor_Reader_Err.an) Try.func33 (by kernel_rfl) (by kernel_rfl) (by kernel_rfl) (drawsOk_of (by kernel_rfl) (by kernel_rfl)) (by simp [Try.f33]) (e ▸ h)

/-! #### (*escrow/cursor.Reader).Done -/
def cursor_Reader_Done.S (a0 : AVal) (G : Heap) (Q : AVal → Heap → Prop) : Prop :=
  wv (vnil a0) fun v1 => wv (vfaddr T t_cursor_Reader v1 1) fun v2 => wv (vload T G t_api_Errno v2) fun v3 => wv (vbin T .eql t_api_Errno v3 (.int .i64 0)) fun v4 => brB (some v4)
  (wv (vnil a0) fun v5 => wv (vfaddr T t_cursor_Reader v5 0) fun v6 => wv (vload T G t_string v6) fun v7 => wv (vbin T .neq t_string v7 (.str [])) fun v8 => brB (some v8)
  (Q (.int .i64 4) G)
  (wv (vnil a0) fun v14 => wv (vfaddr T t_cursor_Reader v14 1) fun v15 => wv (vload T G t_api_Errno v15) fun v16 => Q v16 G))
  (wv (vnil a0) fun v17 => wv (vfaddr T t_cursor_Reader v17 1) fun v18 => wv (vload T G t_api_Errno v18) fun v19 => Q v19 G)
def cursor_Reader_Done.an : Ann := .nil
set_option maxRecDepth 100000 in
theorem cursor_Reader_Done.sound {a0 : AVal} {G : Heap} {Q : AVal → Heap → Prop} (h : cursor_Reader_Done.S a0 G Q) : ACalls P cursor_Reader_Done.n [a0] G Q := by
  have e : cursor_Reader_Done.S a0 G Q = awp cx (cursor_Reader_Done.body) cursor_Reader_Done.an (bodyQ T [.tmp 2] Q) (envL [a0]) G := by kernel_rfl
  exact ACalls_of_awp cxOk (f := cursor_Reader_Done.n) (fn := Try.f34) (c := cursor_Reader_Done.body) (an := cursor_Reader_Done.an) Try.func34 (by kernel_rfl) (by kernel_rfl) (by kernel_rfl) (drawsOk_of (by kernel_rfl) (by kernel_rfl)) (by simp [Try.f34]) (e ▸ h)

/-! #### escrow/commit.Read -/
def commit_Read.S (a0 : AVal) (G : Heap) (Q : AVal → Heap → Prop) : Prop :=
  aNew G (.own (z_api_Hash)) fun i1 G2 => aNew G2 (.own (z_api_Ledger)) fun i3 G4 => ACalls P cursor_Open.n [a0] G4 fun v5 G6 => ACalls P cursor_Reader_U8.n [v5] G6 fun v7 G8 => wv (vconv T G8 t_uint8 t_int v7) fun v9 => ACalls P cursor_Reader_I64.n [v5] G8 fun v10 G11 => ACalls P cursor_Reader_Hash.n [v5] G11 fun v12 G13 => aNew G13 (.own (z_api_Hash)) fun i14 G15 => wg (vstore T G15 t_api_Hash (.ptr i14 [] 0) v12) fun G16 => ACalls P cursor_Reader_I64.n [v5] G16 fun v17 G18 => ACalls P cursor_Reader_I64.n [v5] G18 fun v19 G20 => wv (vbuild T t_api_Ledger [(0, v17), (1, v19)]) fun v21 => aNew G20 (.own (z_api_Ledger)) fun i22 G23 => wg (vstore T G23 t_api_Ledger (.ptr i22 [] 0) v21) fun G24 => ACalls P cursor_Reader_U16.n [v5] G24 fun v25 G26 => let J97 : AVal → AVal → AVal → AVal → AVal → AVal → AVal → AVal → Heap → Prop := (fun x63 x64 x65 x66 x67 x68 x69 x70 G62 => wv (vload T G62 t_api_Hash x69) fun v71 => wv (vload T G62 t_api_Ledger x70) fun v72 => ACalls P commit_Text.n [x67, x68, v71, v72] G62 fun v73 G74 => wv (vextract v73 0) fun v75 => wv (vextract v73 1) fun v76 => let J96 : AVal → Heap → Prop := (fun x83 G82 => brB (some x83)
  (wv (vbuild T t_api_Hash []) fun v84 => wv (vbuild T t_api_Ledger []) fun v85 => wg (vstore T G82 t_api_Hash x64 v84) fun G86 => wg (vstore T G86 t_api_Ledger x65 v85) fun G87 => wv (vload T G87 t_api_Hash x64) fun v88 => wv (vload T G87 t_api_Ledger x65) fun v89 => Q (.tuple [.int .i64 0, .int .i64 0, v88, v89, .int .i64 4]) G87)
  (wv (vload T G82 t_api_Hash x69) fun v90 => wv (vload T G82 t_api_Ledger x70) fun v91 => wg (vstore T G82 t_api_Hash x64 v90) fun G92 => (vload T G92 t_api_Ledger x70 = some v91 ∧ True) ∧ (wg (vstore T G92 t_api_Ledger x65 v91) fun G93 => wv (vload T G93 t_api_Hash x64) fun v94 => wv (vload T G93 t_api_Ledger x65) fun v95 => Q (.tuple [x67, x68, v94, v95, .int .i64 0]) G93)));
  ACalls P cursor_Reader_Done.n [x66] G74 fun v77 G78 => wv (vbin T .neq t_api_Errno v77 (.int .i64 0)) fun v79 => brB (some v79)
  (J96 (.bool true) G78)
  (wv (vbin T .neq t_api_Errno v76 (.int .i64 0)) fun v80 => brB (some v80)
  (J96 (.bool true) G78)
  (wv (vbin T .neq t_string v75 x63) fun v81 => J96 v81 G78)));
  ∀ R27 : List AVal → Heap → Prop,
  (∀ (x29 x30 x31 x32 x33 x34 x35 x36 x37 x38 : AVal) (G28 : Heap), (wv (vbin T .lss t_uint16 x38 x37) fun v39 => brB (some v39)
  (ACalls P cursor_Reader_Err.n [x32] G28 fun v40 G41 => wv (vbin T .neq t_api_Errno v40 (.int .i64 0)) fun v42 => brB (some v42)
  (J97 x29 x30 x31 x32 x33 x34 x35 x36 G41)
  (wv (vfaddr T t_api_Ledger x36 2) fun v43 => wv (vload T G41 t_sl_api_Pending v43) fun v44 => ACalls P cursor_Reader_U8.n [x32] G41 fun v45 G46 => (vload T G46 t_sl_api_Pending v43 = some v44 ∧ True) ∧ (wv (vbin T .eql t_uint8 v45 (.int .u8 1)) fun v47 => ACalls P cursor_Reader_I64.n [x32] G46 fun v48 G49 => (vload T G49 t_sl_api_Pending v43 = some v44 ∧ True) ∧ (ACalls P cursor_Reader_I64.n [x32] G49 fun v50 G51 => (vload T G51 t_sl_api_Pending v43 = some v44 ∧ True) ∧ (ACalls P cursor_Reader_Hash.n [x32] G51 fun v52 G53 => (vload T G53 t_sl_api_Pending v43 = some v44 ∧ True) ∧ (wv (vbuild T t_api_Pending [(0, v47), (1, v48), (2, v50), (3, v52)]) fun v54 => aBuildSlice T t_sl_api_Pending 1 [(0, v54)] G53 fun v55 G56 => aAppend T G56 t_sl_api_Pending t_sl_api_Pending v44 v55 fun v57 G58 => wv (vfaddr T t_api_Ledger x36 2) fun v59 => wg (vstore T G58 t_sl_api_Pending v59 v57) fun G60 => wv (vbin T .add t_uint16 x38 (.int .u16 1)) fun v61 => R27 [x29, x30, x31, x32, x33, x34, x35, x36, x37, v61] G60))))))
  (J97 x29 x30 x31 x32 x33 x34 x35 x36 G28)) → R27 [x29, x30, x31, x32, x33, x34, x35, x36, x37, x38] G28) →
  R27 [a0, .ptr i1 [] 0, .ptr i3 [] 0, v5, v9, v10, .ptr i14 [] 0, .ptr i22 [] 0, v25, .int .u16 0] G26
def commit_Read.an : Ann := .two (.nil) (.two (.nil) (.two (.nil) (.two (.nil) (.two (.nil) (.two (.nil) (.two (.two (.nil) (.loop [0, 4, 5, 7, 8, 9, 10, 11, 29, 30] [false, false, false, false, false, false, false, false, false, false] (.two (.nil) (.two (.nil) (.two (.two (.nil) (.ord [(0, []), (1, []), (2, []), (5, []), (7, []), (9, []), (3, [1]), (4, []), (6, [1]), (8, [1]), (10, [1]), (11, []), (12, []), (13, []), (14, []), (15, [])])) (.nil)))))) (.two (.nil) (.two (.ord [(0, []), (1, []), (2, []), (3, []), (4, []), (5, []), (6, [3]), (7, []), (8, [])]) (.nil)))))))))
set_option maxRecDepth 100000 in
theorem commit_Read.sound {a0 : AVal} {G : Heap} {Q : AVal → Heap → Prop} (h : commit_Read.S a0 G Q) : ACalls P commit_Read.n [a0] G Q := by
  have e : commit_Read.S a0 G Q = awp cx (commit_Read.body) commit_Read.an (bodyQ T [.tmp 2, .tmp 3, .cell 4 23, .cell 5 26, .tmp 6] Q) (envL [a0]) G := by kernel_rfl
  exact ACalls_of_awp cxOk (f := commit_Read.n) (fn := Try.f15) (c := commit_Read.body) (an := commit_Read.an) Try.func15 (by kernel_rfl) (by kernel_rfl) (by kernel_rfl) (drawsOk_of (by kernel_rfl) (by kernel_rfl)) (by simp [Try.f15]) (e ▸ h)

/-! #### escrow/escrowlaw14.first -/
def escrowlaw14_first.S (G : Heap) (Q : AVal → Heap → Prop) : Prop :=
  wv (vbuild T t_api_Pending [(0, .bool true), (1, .int .i64 3), (2, .int .i64 9)]) fun v1 => aBuildSlice T t_sl_api_Pending 1 [(0, v1)] G fun v2 G3 => wv (vbuild T t_api_Ledger [(0, .int .i64 10), (1, .int .i64 20), (2, v2)]) fun v4 => aNew G3 (.own (z_api_Ledger)) fun i5 G6 => wg (vstore T G6 t_api_Ledger (.ptr i5 [] 0) v4) fun G7 => wv (vbuild T t_api_Hash [(0, .int .u8 7)]) fun v8 => wv (vload T G7 t_api_Ledger (.ptr i5 [] 0)) fun v9 => ACalls P commit_Text.n [.int .i64 1, .int .i64 5, v8, v9] G7 fun v10 G11 => wv (vextract v10 0) fun v12 => wv (vextract v10 1) fun v13 => ACalls P commit_Read.n [v12] G11 fun v14 G15 => wv (vextract v14 0) fun v16 => wv (vextract v14 1) fun v17 => wv (vextract v14 2) fun v18 => wv (vextract v14 3) fun v19 => wv (vextract v14 4) fun v20 => aNew G15 (.own (z_api_Hash)) fun i21 G22 => aNew G22 (.own (z_api_Ledger)) fun i23 G24 => wg (vstore T G24 t_api_Hash (.ptr i21 [] 0) v18) fun G25 => wg (vstore T G25 t_api_Ledger (.ptr i23 [] 0) v19) fun G26 => wv (vload T G26 t_api_Ledger (.ptr i5 [] 0)) fun v27 => ACalls P commit_Turn.n [v27] G26 fun v28 G29 => aNew G29 (.own (z_api_Ledger)) fun i30 G31 => wg (vstore T G31 t_api_Ledger (.ptr i30 [] 0) v28) fun G32 => wv (vbin T .eql t_api_Errno v13 (.int .i64 0)) fun v33 => brB (some v33)
  (wv (vbin T .eql t_api_Errno v20 (.int .i64 0)) fun v34 => brB (some v34)
  (wv (vlen T G32 t_string v12) fun v35 => wv (vbin T .eql t_int v35 (.int .i64 108)) fun v36 => brB (some v36)
  (wv (vindex T t_string v12 (.int .i64 0)) fun v37 => wv (vbin T .eql t_uint8 v37 (.int .u8 1)) fun v38 => brB (some v38)
  (wv (vindex T t_string v12 (.int .i64 8)) fun v39 => wv (vbin T .eql t_uint8 v39 (.int .u8 5)) fun v40 => brB (some v40)
  (wv (vindex T t_string v12 (.int .i64 9)) fun v41 => wv (vbin T .eql t_uint8 v41 (.int .u8 7)) fun v42 => brB (some v42)
  (wv (vindex T t_string v12 (.int .i64 59)) fun v43 => wv (vbin T .eql t_uint8 v43 (.int .u8 1)) fun v44 => brB (some v44)
  (wv (vbin T .eql t_int v16 (.int .i64 1)) fun v45 => brB (some v45)
  (wv (vbin T .eql t_int64 v17 (.int .i64 5)) fun v46 => brB (some v46)
  (wv (vload T G32 t_api_Hash (.ptr i21 [] 0)) fun v47 => wv (vbuild T t_api_Hash [(0, .int .u8 7)]) fun v48 => wv (vbin T .eql t_api_Hash v47 v48) fun v49 => brB (some v49)
  (wv (vload T G32 t_api_Ledger (.ptr i23 [] 0)) fun v50 => wv (vload T G32 t_api_Ledger (.ptr i5 [] 0)) fun v51 => ACalls P escrowlaw14_same.n [v50, v51] G32 fun v52 G53 => brB (some v52)
  (wv (vload T G53 t_api_Ledger (.ptr i30 [] 0)) fun v54 => wv (vbuild T t_api_Pending [(1, .int .i64 3), (2, .int .i64 9)]) fun v55 => aBuildSlice T t_sl_api_Pending 1 [(0, v55)] G53 fun v56 G57 => wv (vbuild T t_api_Ledger [(0, .int .i64 20), (1, .int .i64 10), (2, v56)]) fun v58 => ACalls P escrowlaw14_same.n [v54, v58] G57 fun v59 G60 => Q v59 G60)
  (Q (.bool false) G53))
  (Q (.bool false) G32))
  (Q (.bool false) G32))
  (Q (.bool false) G32))
  (Q (.bool false) G32))
  (Q (.bool false) G32))
  (Q (.bool false) G32))
  (Q (.bool false) G32))
  (Q (.bool false) G32))
  (Q (.bool false) G32))
  (Q (.bool false) G32)
def escrowlaw14_first.an : Ann := .nil
set_option maxRecDepth 100000 in
theorem escrowlaw14_first.sound {G : Heap} {Q : AVal → Heap → Prop} (h : escrowlaw14_first.S G Q) : ACalls P escrowlaw14_first.n [] G Q := by
  have e : escrowlaw14_first.S G Q = awp cx (escrowlaw14_first.body) escrowlaw14_first.an (bodyQ T [.tmp 0] Q) (envL []) G := by kernel_rfl
  exact ACalls_of_awp cxOk (f := escrowlaw14_first.n) (fn := Try.f14) (c := escrowlaw14_first.body) (an := escrowlaw14_first.an) Try.func14 (by kernel_rfl) (by kernel_rfl) (by kernel_rfl) (drawsOk_of (by kernel_rfl) (by kernel_rfl)) (by simp [Try.f14]) (e ▸ h)

/-! #### escrow/escrowref14.count -/
def escrowref14_count.S (a0 a1 : AVal) (G : Heap) (Q : AVal → Heap → Prop) : Prop :=
  ∀ R1 : List AVal → Heap → Prop,
  (∀ (x3 x4 x5 x6 : AVal) (G2 : Heap), (wv (vlen T G2 t_sl_api_Pending x3) fun v7 => wv (vbin T .lss t_int x6 v7) fun v8 => brB (some v8)
  (wv (viaddr T t_sl_api_Pending x3 x6) fun v9 => wv (vfaddr T t_api_Pending v9 0) fun v10 => wv (vload T G2 t_bool v10) fun v11 => wv (vbin T .eql t_bool v11 x4) fun v12 => brB (some v12)
  (wv (vbin T .add t_int x5 (.int .i64 1)) fun v13 => wv (vbin T .add t_int x6 (.int .i64 1)) fun v19 => R1 [x3, x4, v13, v19] G2)
  (wv (vbin T .add t_int x6 (.int .i64 1)) fun v20 => R1 [x3, x4, x5, v20] G2))
  (Q x5 G2)) → R1 [x3, x4, x5, x6] G2) →
  R1 [a0, a1, .int .i64 0, .int .i64 0] G
def escrowref14_count.an : Ann := .two (.nil) (.two (.nil) (.two (.two (.nil) (.loop [0, 1, 5, 6] [false, false, false, false] (.nil))) (.nil)))
set_option maxRecDepth 100000 in
theorem escrowref14_count.sound {a0 a1 : AVal} {G : Heap} {Q : AVal → Heap → Prop} (h : escrowref14_count.S a0 a1 G Q) : ACalls P escrowref14_count.n [a0, a1] G Q := by
  have e : escrowref14_count.S a0 a1 G Q = awp cx (escrowref14_count.body) escrowref14_count.an (bodyQ T [.tmp 4] Q) (envL [a0, a1]) G := by kernel_rfl
  exact ACalls_of_awp cxOk (f := escrowref14_count.n) (fn := Try.f42) (c := escrowref14_count.body) (an := escrowref14_count.an) Try.func42 (by kernel_rfl) (by kernel_rfl) (by kernel_rfl) (drawsOk_of (by kernel_rfl) (by kernel_rfl)) (by simp [Try.f42]) (e ▸ h)

/-! #### escrow/escrowref14.Sound -/
def escrowref14_Sound.S (a0 : AVal) (G : Heap) (Q : AVal → Heap → Prop) : Prop :=
  aNew G (.own (a0)) fun i1 G2 => let J85 : AVal → Heap → Prop := (fun x20 G19 => brB (some x20)
  (Q (.bool false) G19)
  (∀ R21 : List AVal → Heap → Prop,
  (∀ (x23 x24 : AVal) (G22 : Heap), (wv (vfaddr T t_api_Ledger x23 2) fun v25 => wv (vload T G22 t_sl_api_Pending v25) fun v26 => wv (vlen T G22 t_sl_api_Pending v26) fun v27 => wv (vbin T .lss t_int x24 v27) fun v28 => brB (some v28)
  (wv (vfaddr T t_api_Ledger x23 2) fun v29 => wv (vload T G22 t_sl_api_Pending v29) fun v30 => wv (viaddr T t_sl_api_Pending v30 x24) fun v31 => wv (vload T G22 t_api_Pending v31) fun v32 => aNew G22 (.own (z_api_Pending)) fun i33 G34 => wg (vstore T G34 t_api_Pending (.ptr i33 [] 0) v32) fun G35 => let J83 : AVal → Heap → Prop := (fun x43 G42 => brB (some x43)
  (Q (.bool false) G42)
  (∀ R44 : List AVal → Heap → Prop,
  (∀ (x46 x47 x48 x49 : AVal) (G45 : Heap), (wv (vbin T .lss t_int x49 x47) fun v50 => brB (some v50)
  (let J82 : Heap → Prop := (fun G80 => wv (vbin T .add t_int x49 (.int .i64 1)) fun v81 => R44 [x46, x47, x48, v81] G80);
  wv (vfaddr T t_api_Ledger x46 2) fun v51 => wv (vload T G45 t_sl_api_Pending v51) fun v52 => wv (viaddr T t_sl_api_Pending v52 x49) fun v53 => wv (vload T G45 t_api_Pending v53) fun v54 => aNew G45 (.own (z_api_Pending)) fun i55 G56 => wg (vstore T G56 t_api_Pending (.ptr i55 [] 0) v54) fun G57 => wv (vfaddr T t_api_Pending x48 0) fun v58 => wv (vload T G57 t_bool v58) fun v59 => brB (some v59)
  (wv (vload T G57 t_bool (.ptr i55 [0] 0)) fun v60 => wv (vun .not v60) fun v61 => brB (some v61)
  (Q (.bool false) G57)
  (wv (vfaddr T t_api_Pending x48 0) fun v62 => wv (vload T G57 t_bool v62) fun v63 => wv (vload T G57 t_bool (.ptr i55 [0] 0)) fun v64 => wv (vbin T .eql t_bool v63 v64) fun v65 => brB (some v65)
  (wv (vload T G57 t_int64 (.ptr i55 [1] 1)) fun v66 => wv (vfaddr T t_api_Pending x48 1) fun v67 => wv (vload T G57 t_int64 v67) fun v68 => wv (vbin T .geq t_int64 v66 v68) fun v69 => brB (some v69)
  (Q (.bool false) G57)
  (J82 G57))
  (J82 G57)))
  (wv (vfaddr T t_api_Pending x48 0) fun v70 => wv (vload T G57 t_bool v70) fun v71 => wv (vload T G57 t_bool (.ptr i55 [0] 0)) fun v72 => wv (vbin T .eql t_bool v71 v72) fun v73 => brB (some v73)
  (wv (vload T G57 t_int64 (.ptr i55 [1] 1)) fun v74 => wv (vfaddr T t_api_Pending x48 1) fun v75 => wv (vload T G57 t_int64 v75) fun v76 => wv (vbin T .geq t_int64 v74 v76) fun v77 => brB (some v77)
  (Q (.bool false) G57)
  (J82 G57))
  (J82 G57)))
  (wv (vbin T .add t_int x47 (.int .i64 1)) fun v84 => R21 [x46, v84] G45)) → R44 [x46, x47, x48, x49] G45) →
  R44 [x23, x24, .ptr i33 [] 0, .int .i64 0] G42));
  wv (vload T G35 t_int64 (.ptr i33 [1] 1)) fun v36 => wv (vbin T .lss t_int64 v36 (.int .i64 0)) fun v37 => brB (some v37)
  (J83 (.bool true) G35)
  (wv (vload T G35 t_int64 (.ptr i33 [2] 2)) fun v38 => wv (vbin T .lss t_int64 v38 (.int .i64 1)) fun v39 => brB (some v39)
  (J83 (.bool true) G35)
  (wv (vload T G35 t_int64 (.ptr i33 [2] 2)) fun v40 => wv (vbin T .gtr t_int64 v40 (.int .i64 1152921504606846976)) fun v41 => J83 v41 G35)))
  (Q (.bool true) G22)) → R21 [x23, x24] G22) →
  R21 [.ptr i1 [] 0, .int .i64 0] G19));
  wv (vload T G2 t_int64 (.ptr i1 [0] 0)) fun v3 => wv (vbin T .lss t_int64 v3 (.int .i64 0)) fun v4 => brB (some v4)
  (J85 (.bool true) G2)
  (wv (vload T G2 t_int64 (.ptr i1 [0] 0)) fun v5 => wv (vbin T .gtr t_int64 v5 (.int .i64 1152921504606846976)) fun v6 => brB (some v6)
  (J85 (.bool true) G2)
  (wv (vload T G2 t_int64 (.ptr i1 [1] 1)) fun v7 => wv (vbin T .lss t_int64 v7 (.int .i64 0)) fun v8 => brB (some v8)
  (J85 (.bool true) G2)
  (wv (vload T G2 t_int64 (.ptr i1 [1] 1)) fun v9 => wv (vbin T .gtr t_int64 v9 (.int .i64 1152921504606846976)) fun v10 => brB (some v10)
  (J85 (.bool true) G2)
  (wv (vload T G2 t_sl_api_Pending (.ptr i1 [2] 2)) fun v11 => ACalls P escrowref14_count.n [v11, .bool true] G2 fun v12 G13 => wv (vbin T .gtr t_int v12 (.int .i64 483)) fun v14 => brB (some v14)
  (J85 (.bool true) G13)
  (wv (vload T G13 t_sl_api_Pending (.ptr i1 [2] 2)) fun v15 => ACalls P escrowref14_count.n [v15, .bool false] G13 fun v16 G17 => wv (vbin T .gtr t_int v16 (.int .i64 483)) fun v18 => J85 v18 G17)))))
def escrowref14_Sound.an : Ann := .two (.nil) (.two (.nil) (.two (.two (.nil) (.loop [1, 3] [false, false] (.two (.nil) (.two (.two (.nil) (.two (.nil) (.two (.nil) (.loop [1, 3, 4, 5] [false, false, false, false] (.nil))))) (.nil))))) (.nil)))
set_option maxRecDepth 100000 in
theorem escrowref14_Sound.sound {a0 : AVal} {G : Heap} {Q : AVal → Heap → Prop} (h : escrowref14_Sound.S a0 G Q) : ACalls P escrowref14_Sound.n [a0] G Q := by
  have e : escrowref14_Sound.S a0 G Q = awp cx (escrowref14_Sound.body) escrowref14_Sound.an (bodyQ T [.tmp 2] Q) (envL [a0]) G := by kernel_rfl
  exact ACalls_of_awp cxOk (f := escrowref14_Sound.n) (fn := Try.f26) (c := escrowref14_Sound.body) (an := escrowref14_Sound.an) Try.func26 (by kernel_rfl) (by kernel_rfl) (by kernel_rfl) (drawsOk_of (by kernel_rfl) (by kernel_rfl)) (by simp [Try.f26]) (e ▸ h)

/-! #### escrow/escrowref14.number -/
def escrowref14_number.S (a0 a1 a2 : AVal) (G : Heap) (Q : AVal → Heap → Prop) : Prop :=
  wv (vbin T .sub t_int a2 (.int .i64 1)) fun v1 => ∀ R2 : List AVal → Heap → Prop,
  (∀ (x4 x5 x6 : AVal) (G3 : Heap), (wv (vbin T .geq t_int x6 (.int .i64 0)) fun v7 => brB (some v7)
  (wv (vbin T .mul t_int (.int .i64 8) x6) fun v8 => wv (vbin T .shr t_int64 x5 v8) fun v9 => wv (vconv T G3 t_int64 t_uint8 v9) fun v10 => aBuildSlice T t_sl_uint8 1 [(0, v10)] G3 fun v11 G12 => aAppend T G12 t_sl_uint8 t_sl_uint8 x4 v11 fun v13 G14 => wv (vbin T .sub t_int x6 (.int .i64 1)) fun v15 => R2 [v13, x5, v15] G14)
  (Q x4 G3)) → R2 [x4, x5, x6] G3) →
  R2 [a0, a1, v1] G
def escrowref14_number.an : Ann := .two (.nil) (.two (.two (.nil) (.loop [0, 1, 7] [false, false, false] (.nil))) (.nil))
set_option maxRecDepth 100000 in
theorem escrowref14_number.sound {a0 a1 a2 : AVal} {G : Heap} {Q : AVal → Heap → Prop} (h : escrowref14_number.S a0 a1 a2 G Q) : ACalls P escrowref14_number.n [a0, a1, a2] G Q := by
  have e : escrowref14_number.S a0 a1 a2 G Q = awp cx (escrowref14_number.body) escrowref14_number.an (bodyQ T [.tmp 6] Q) (envL [a0, a1, a2]) G := by kernel_rfl
  exact ACalls_of_awp cxOk (f := escrowref14_number.n) (fn := Try.f27) (c := escrowref14_number.body) (an := escrowref14_number.an) Try.func27 (by kernel_rfl) (by kernel_rfl) (by kernel_rfl) (drawsOk_of (by kernel_rfl) (by kernel_rfl)) (by simp [Try.f27]) (e ▸ h)

end Go.Esc.M
