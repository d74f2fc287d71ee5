/- Printed by gen.py (own work): functions of the program YtgpogcmcaknjiaaGreatDoor over trees and the abstract heap. -/
import Derived.Test.YtgpogcmcaknjiaaGreatDoorT
set_option linter.unusedSimpArgs false
set_option linter.unusedVariables false
namespace Go.Esc.M
open Go Go.Esc Go.Proofs

/-! #### escrow/commit.sound -/
def commit_sound.S (a0 : AVal) (G : Heap) (Q : AVal → Heap → Prop) : Prop :=
  aNew G (.own (a0)) fun i1 G2 => let J62 : AVal → Heap → Prop := (fun x12 G11 => brB (some x12)
  (Q (.bool false) G11)
  (aNew G11 (.map []) fun i13 G14 => aNew G14 (.map []) fun i15 G16 => aMapUpdate T G16 t_map_bool_int64 (.map i15) (.bool true) (.int .i64 (-1)) fun G17 => aMapUpdate T G17 t_map_bool_int64 (.map i15) (.bool false) (.int .i64 (-1)) fun G18 => wv (vload T G18 t_sl_api_Pending (.ptr i1 [2] 2)) fun v19 => wv (vlen T G18 t_sl_api_Pending v19) fun v20 => ∀ R21 : List AVal → Heap → Prop,
  (∀ (x23 x24 x25 x26 x27 : AVal) (G22 : Heap), (wv (vbin T .lss t_int x27 x26) fun v28 => brB (some v28)
  (wv (viaddr T t_sl_api_Pending x25 x27) fun v29 => wv (vload T G22 t_api_Pending v29) fun v30 => aNew G22 (.own (z_api_Pending)) fun i31 G32 => wg (vstore T G32 t_api_Pending (.ptr i31 [] 0) v30) fun G33 => let J54 : AVal → Heap → Prop := (fun x46 G45 => brB (some x46)
  (Q (.bool false) G45)
  (wv (vload T G45 t_bool (.ptr i31 [0] 0)) fun v47 => wv (vload T G45 t_int64 (.ptr i31 [1] 1)) fun v48 => aMapUpdate T G45 t_map_bool_int64 x24 v47 v48 fun G49 => wv (vload T G49 t_bool (.ptr i31 [0] 0)) fun v50 => wv (vlookup T G49 t_map_bool_int x23 v50 false) fun v51 => wv (vbin T .add t_int v51 (.int .i64 1)) fun v52 => aMapUpdate T G49 t_map_bool_int x23 v50 v52 fun G53 => wv (vbin T .add t_int x27 (.int .i64 1)) fun v55 => R21 [x23, x24, x25, x26, v55] G53));
  wv (vload T G33 t_int64 (.ptr i31 [2] 2)) fun v34 => wv (vbin T .lss t_int64 v34 (.int .i64 1)) fun v35 => brB (some v35)
  (J54 (.bool true) G33)
  (wv (vload T G33 t_int64 (.ptr i31 [2] 2)) fun v36 => wv (vbin T .gtr t_int64 v36 (.int .i64 1152921504606846976)) fun v37 => brB (some v37)
  (J54 (.bool true) G33)
  (wv (vload T G33 t_int64 (.ptr i31 [1] 1)) fun v38 => wv (vload T G33 t_bool (.ptr i31 [0] 0)) fun v39 => wv (vlookup T G33 t_map_bool_int64 x24 v39 false) fun v40 => wv (vbin T .leq t_int64 v38 v40) fun v41 => brB (some v41)
  (J54 (.bool true) G33)
  (wv (vload T G33 t_bool (.ptr i31 [0] 0)) fun v42 => brB (some v42)
  (wv (vlookup T G33 t_map_bool_int x23 (.bool false) false) fun v43 => wv (vbin T .gtr t_int v43 (.int .i64 0)) fun v44 => J54 v44 G33)
  (J54 (.bool false) G33)))))
  (wv (vlookup T G22 t_map_bool_int x23 (.bool true) false) fun v56 => wv (vbin T .leq t_int v56 (.int .i64 483)) fun v57 => brB (some v57)
  (wv (vlookup T G22 t_map_bool_int x23 (.bool false) false) fun v58 => wv (vbin T .leq t_int v58 (.int .i64 483)) fun v59 => Q v59 G22)
  (Q (.bool false) G22))) → R21 [x23, x24, x25, x26, x27] G22) →
  R21 [.map i13, .map i15, v19, v20, .int .i64 0] G18));
  wv (vload T G2 t_int64 (.ptr i1 [0] 0)) fun v3 => wv (vbin T .lss t_int64 v3 (.int .i64 0)) fun v4 => brB (some v4)
  (J62 (.bool true) G2)
  (wv (vload T G2 t_int64 (.ptr i1 [0] 0)) fun v5 => wv (vbin T .gtr t_int64 v5 (.int .i64 1152921504606846976)) fun v6 => brB (some v6)
  (J62 (.bool true) G2)
  (wv (vload T G2 t_int64 (.ptr i1 [1] 1)) fun v7 => wv (vbin T .lss t_int64 v7 (.int .i64 0)) fun v8 => brB (some v8)
  (J62 (.bool true) G2)
  (wv (vload T G2 t_int64 (.ptr i1 [1] 1)) fun v9 => wv (vbin T .gtr t_int64 v9 (.int .i64 1152921504606846976)) fun v10 => J62 v10 G2)))
def commit_sound.an : Ann := .two (.nil) (.two (.nil) (.two (.nil) (.two (.nil) (.two (.two (.nil) (.loop [3, 4, 29, 30, 31] (.nil))) (.nil)))))
set_option maxRecDepth 100000 in
theorem commit_sound.sound {a0 : AVal} {G : Heap} {Q : AVal → Heap → Prop} (h : commit_sound.S a0 G Q) : ACalls P commit_sound.n [a0] G Q := by
  have e : commit_sound.S a0 G Q = awp cx (commit_sound.body) commit_sound.an (bodyQ T [.tmp 2] Q) (envL [a0]) G := by kernel_rfl
  exact ACalls_of_awp cxOk (f := commit_sound.n) (fn := Tryz.f127) (c := commit_sound.body) (an := commit_sound.an) Tryz.func127 (by kernel_rfl) (by kernel_rfl) (by kernel_rfl) (drawsOk_of (by kernel_rfl) (by kernel_rfl)) (by simp [Tryz.f127]) (e ▸ h)

/-! #### escrow/cursor.New -/
def cursor_New.S (G : Heap) (Q : AVal → Heap → Prop) : Prop :=
  wv (vbuild T t_cursor_Writer []) fun v1 => aNew G (.own (v1)) fun i2 G3 => Q (.ptr i2 [] 0) G3
def cursor_New.an : Ann := .nil
set_option maxRecDepth 100000 in
theorem cursor_New.sound {G : Heap} {Q : AVal → Heap → Prop} (h : cursor_New.S G Q) : ACalls P cursor_New.n [] G Q := by
  have e : cursor_New.S G Q = awp cx (cursor_New.body) cursor_New.an (bodyQ T [.tmp 0] Q) (envL []) G := by kernel_rfl
  exact ACalls_of_awp cxOk (f := cursor_New.n) (fn := Tryz.f128) (c := cursor_New.body) (an := cursor_New.an) Tryz.func128 (by kernel_rfl) (by kernel_rfl) (by kernel_rfl) (drawsOk_of (by kernel_rfl) (by kernel_rfl)) (by simp [Tryz.f128]) (e ▸ h)

/-! #### escrow/cursor.lay[uint8] -/
def cursor_lay_uint8.S (a0 a1 a2 : AVal) (G : Heap) (Q : AVal → Heap → Prop) : Prop :=
  wv (vnil a0) fun v1 => wv (vfaddr T t_cursor_Writer v1 1) fun v2 => wv (vload T G t_api_Errno v2) fun v3 => wv (vbin T .neq t_api_Errno v3 (.int .i64 0)) fun v4 => brB (some v4)
  (Q (.tuple []) G)
  (wv (vbin T .sub t_int a2 (.int .i64 1)) fun v5 => ∀ R6 : List AVal → Heap → Prop,
  (∀ (x8 x9 x10 : AVal) (G7 : Heap), (wv (vbin T .geq t_int x10 (.int .i64 0)) fun v11 => brB (some v11)
  (wv (vnil x8) fun v12 => wv (vfaddr T t_cursor_Writer v12 0) fun v13 => wv (vload T G7 t_sl_uint8 v13) fun v14 => wv (vconv T G7 t_uint8 t_uint64 x9) fun v15 => wv (vbin T .mul t_int (.int .i64 8) x10) fun v16 => wv (vbin T .shr t_uint64 v15 v16) fun v17 => wv (vconv T G7 t_uint64 t_uint8 v17) fun v18 => aBuildSlice T t_sl_uint8 1 [(0, v18)] G7 fun v19 G20 => aAppend T G20 t_sl_uint8 t_sl_uint8 v14 v19 fun v21 G22 => wv (vnil x8) fun v23 => wv (vfaddr T t_cursor_Writer v23 0) fun v24 => wg (vstore T G22 t_sl_uint8 v24 v21) fun G25 => wv (vbin T .sub t_int x10 (.int .i64 1)) fun v26 => R6 [x8, x9, v26] G25)
  (Q (.tuple []) G7)) → R6 [x8, x9, x10] G7) →
  R6 [a0, a1, v5] G)
def cursor_lay_uint8.an : Ann := .two (.nil) (.two (.nil) (.loop [0, 1, 6] (.two (.nil) (.two (.ord [(0, []), (1, []), (2, []), (3, []), (4, []), (5, []), (6, []), (7, []), (8, []), (9, []), (10, []), (11, []), (12, []), (13, []), (14, []), (15, [])]) (.nil)))))
set_option maxRecDepth 100000 in
theorem cursor_lay_uint8.sound {a0 a1 a2 : AVal} {G : Heap} {Q : AVal → Heap → Prop} (h : cursor_lay_uint8.S a0 a1 a2 G Q) : ACalls P cursor_lay_uint8.n [a0, a1, a2] G Q := by
  have e : cursor_lay_uint8.S a0 a1 a2 G Q = awp cx (cursor_lay_uint8.body) cursor_lay_uint8.an (bodyQ T [] Q) (envL [a0, a1, a2]) G := by kernel_rfl
  exact ACalls_of_awp cxOk (f := cursor_lay_uint8.n) (fn := Tryz.f166) (c := cursor_lay_uint8.body) (an := cursor_lay_uint8.an) Tryz.func166 (by kernel_rfl) (by kernel_rfl) (by kernel_rfl) (drawsOk_of (by kernel_rfl) (by kernel_rfl)) (by simp [Tryz.f166]) (e ▸ h)

/-! #### (*escrow/cursor.Writer).U8 -/
def cursor_Writer_U8.S (a0 a1 : AVal) (G : Heap) (Q : AVal → Heap → Prop) : Prop :=
  ACalls P cursor_lay_uint8.n [a0, a1, .int .i64 1] G fun v1 G2 => Q (.tuple []) G2
def cursor_Writer_U8.an : Ann := .nil
set_option maxRecDepth 100000 in
theorem cursor_Writer_U8.sound {a0 a1 : AVal} {G : Heap} {Q : AVal → Heap → Prop} (h : cursor_Writer_U8.S a0 a1 G Q) : ACalls P cursor_Writer_U8.n [a0, a1] G Q := by
  have e : cursor_Writer_U8.S a0 a1 G Q = awp cx (cursor_Writer_U8.body) cursor_Writer_U8.an (bodyQ T [] Q) (envL [a0, a1]) G := by kernel_rfl
  exact ACalls_of_awp cxOk (f := cursor_Writer_U8.n) (fn := Tryz.f129) (c := cursor_Writer_U8.body) (an := cursor_Writer_U8.an) Tryz.func129 (by kernel_rfl) (by kernel_rfl) (by kernel_rfl) (drawsOk_of (by kernel_rfl) (by kernel_rfl)) (by simp [Tryz.f129]) (e ▸ h)

/-! #### escrow/cursor.lay[uint64] -/
def cursor_lay_uint64.S (a0 a1 a2 : AVal) (G : Heap) (Q : AVal → Heap → Prop) : Prop :=
  wv (vnil a0) fun v1 => wv (vfaddr T t_cursor_Writer v1 1) fun v2 => wv (vload T G t_api_Errno v2) fun v3 => wv (vbin T .neq t_api_Errno v3 (.int .i64 0)) fun v4 => brB (some v4)
  (Q (.tuple []) G)
  (wv (vbin T .sub t_int a2 (.int .i64 1)) fun v5 => ∀ R6 : List AVal → Heap → Prop,
  (∀ (x8 x9 x10 : AVal) (G7 : Heap), (wv (vbin T .geq t_int x10 (.int .i64 0)) fun v11 => brB (some v11)
  (wv (vnil x8) fun v12 => wv (vfaddr T t_cursor_Writer v12 0) fun v13 => wv (vload T G7 t_sl_uint8 v13) fun v14 => wv (vbin T .mul t_int (.int .i64 8) x10) fun v15 => wv (vbin T .shr t_uint64 x9 v15) fun v16 => wv (vconv T G7 t_uint64 t_uint8 v16) fun v17 => aBuildSlice T t_sl_uint8 1 [(0, v17)] G7 fun v18 G19 => aAppend T G19 t_sl_uint8 t_sl_uint8 v14 v18 fun v20 G21 => wv (vnil x8) fun v22 => wv (vfaddr T t_cursor_Writer v22 0) fun v23 => wg (vstore T G21 t_sl_uint8 v23 v20) fun G24 => wv (vbin T .sub t_int x10 (.int .i64 1)) fun v25 => R6 [x8, x9, v25] G24)
  (Q (.tuple []) G7)) → R6 [x8, x9, x10] G7) →
  R6 [a0, a1, v5] G)
def cursor_lay_uint64.an : Ann := .two (.nil) (.two (.nil) (.loop [0, 1, 6] (.two (.nil) (.two (.ord [(0, []), (1, []), (2, []), (3, []), (4, []), (5, []), (6, []), (7, []), (8, []), (9, []), (10, []), (11, []), (12, []), (13, []), (14, [])]) (.nil)))))
set_option maxRecDepth 100000 in
theorem cursor_lay_uint64.sound {a0 a1 a2 : AVal} {G : Heap} {Q : AVal → Heap → Prop} (h : cursor_lay_uint64.S a0 a1 a2 G Q) : ACalls P cursor_lay_uint64.n [a0, a1, a2] G Q := by
  have e : cursor_lay_uint64.S a0 a1 a2 G Q = awp cx (cursor_lay_uint64.body) cursor_lay_uint64.an (bodyQ T [] Q) (envL [a0, a1, a2]) G := by kernel_rfl
  exact ACalls_of_awp cxOk (f := cursor_lay_uint64.n) (fn := Tryz.f167) (c := cursor_lay_uint64.body) (an := cursor_lay_uint64.an) Tryz.func167 (by kernel_rfl) (by kernel_rfl) (by kernel_rfl) (drawsOk_of (by kernel_rfl) (by kernel_rfl)) (by simp [Tryz.f167]) (e ▸ h)

/-! #### (*escrow/cursor.Writer).I64 -/
def cursor_Writer_I64.S (a0 a1 : AVal) (G : Heap) (Q : AVal → Heap → Prop) : Prop :=
  wv (vconv T G t_int64 t_uint64 a1) fun v1 => ACalls P cursor_lay_uint64.n [a0, v1, .int .i64 8] G fun v2 G3 => Q (.tuple []) G3
def cursor_Writer_I64.an : Ann := .nil
set_option maxRecDepth 100000 in
theorem cursor_Writer_I64.sound {a0 a1 : AVal} {G : Heap} {Q : AVal → Heap → Prop} (h : cursor_Writer_I64.S a0 a1 G Q) : ACalls P cursor_Writer_I64.n [a0, a1] G Q := by
  have e : cursor_Writer_I64.S a0 a1 G Q = awp cx (cursor_Writer_I64.body) cursor_Writer_I64.an (bodyQ T [] Q) (envL [a0, a1]) G := by kernel_rfl
  exact ACalls_of_awp cxOk (f := cursor_Writer_I64.n) (fn := Tryz.f130) (c := cursor_Writer_I64.body) (an := cursor_Writer_I64.an) Tryz.func130 (by kernel_rfl) (by kernel_rfl) (by kernel_rfl) (drawsOk_of (by kernel_rfl) (by kernel_rfl)) (by simp [Tryz.f130]) (e ▸ h)

/-! #### (*escrow/cursor.Writer).Raw -/
def cursor_Writer_Raw.S (a0 a1 : AVal) (G : Heap) (Q : AVal → Heap → Prop) : Prop :=
  wv (vnil a0) fun v1 => wv (vfaddr T t_cursor_Writer v1 1) fun v2 => wv (vload T G t_api_Errno v2) fun v3 => wv (vbin T .eql t_api_Errno v3 (.int .i64 0)) fun v4 => brB (some v4)
  (wv (vnil a0) fun v5 => wv (vfaddr T t_cursor_Writer v5 0) fun v6 => wv (vload T G t_sl_uint8 v6) fun v7 => aAppend T G t_sl_uint8 t_string v7 a1 fun v8 G9 => wv (vnil a0) fun v10 => wv (vfaddr T t_cursor_Writer v10 0) fun v11 => wg (vstore T G9 t_sl_uint8 v11 v8) fun G12 => Q (.tuple []) G12)
  (Q (.tuple []) G)
def cursor_Writer_Raw.an : Ann := .nil
set_option maxRecDepth 100000 in
theorem cursor_Writer_Raw.sound {a0 a1 : AVal} {G : Heap} {Q : AVal → Heap → Prop} (h : cursor_Writer_Raw.S a0 a1 G Q) : ACalls P cursor_Writer_Raw.n [a0, a1] G Q := by
  have e : cursor_Writer_Raw.S a0 a1 G Q = awp cx (cursor_Writer_Raw.body) cursor_Writer_Raw.an (bodyQ T [] Q) (envL [a0, a1]) G := by kernel_rfl
  exact ACalls_of_awp cxOk (f := cursor_Writer_Raw.n) (fn := Tryz.f168) (c := cursor_Writer_Raw.body) (an := cursor_Writer_Raw.an) Tryz.func168 (by kernel_rfl) (by kernel_rfl) (by kernel_rfl) (drawsOk_of (by kernel_rfl) (by kernel_rfl)) (by simp [Tryz.f168]) (e ▸ h)

/-! #### (*escrow/cursor.Writer).Hash -/
def cursor_Writer_Hash.S (a0 a1 : AVal) (G : Heap) (Q : AVal → Heap → Prop) : Prop :=
  aNew G (.own (a1)) fun i1 G2 => wv (vslice T t_api_Hash (.ptr i1 [] 0) none none none) fun v3 => wv (vconv T G2 t_sl_uint8 t_string v3) fun v4 => ACalls P cursor_Writer_Raw.n [a0, v4] G2 fun v5 G6 => Q (.tuple []) G6
def cursor_Writer_Hash.an : Ann := .nil
set_option maxRecDepth 100000 in
theorem cursor_Writer_Hash.sound {a0 a1 : AVal} {G : Heap} {Q : AVal → Heap → Prop} (h : cursor_Writer_Hash.S a0 a1 G Q) : ACalls P cursor_Writer_Hash.n [a0, a1] G Q := by
  have e : cursor_Writer_Hash.S a0 a1 G Q = awp cx (cursor_Writer_Hash.body) cursor_Writer_Hash.an (bodyQ T [] Q) (envL [a0, a1]) G := by kernel_rfl
  exact ACalls_of_awp cxOk (f := cursor_Writer_Hash.n) (fn := Tryz.f131) (c := cursor_Writer_Hash.body) (an := cursor_Writer_Hash.an) Tryz.func131 (by kernel_rfl) (by kernel_rfl) (by kernel_rfl) (drawsOk_of (by kernel_rfl) (by kernel_rfl)) (by simp [Tryz.f131]) (e ▸ h)

/-! #### escrow/cursor.lay[uint16] -/
def cursor_lay_uint16.S (a0 a1 a2 : AVal) (G : Heap) (Q : AVal → Heap → Prop) : Prop :=
  wv (vnil a0) fun v1 => wv (vfaddr T t_cursor_Writer v1 1) fun v2 => wv (vload T G t_api_Errno v2) fun v3 => wv (vbin T .neq t_api_Errno v3 (.int .i64 0)) fun v4 => brB (some v4)
  (Q (.tuple []) G)
  (wv (vbin T .sub t_int a2 (.int .i64 1)) fun v5 => ∀ R6 : List AVal → Heap → Prop,
  (∀ (x8 x9 x10 : AVal) (G7 : Heap), (wv (vbin T .geq t_int x10 (.int .i64 0)) fun v11 => brB (some v11)
  (wv (vnil x8) fun v12 => wv (vfaddr T t_cursor_Writer v12 0) fun v13 => wv (vload T G7 t_sl_uint8 v13) fun v14 => wv (vconv T G7 t_uint16 t_uint64 x9) fun v15 => wv (vbin T .mul t_int (.int .i64 8) x10) fun v16 => wv (vbin T .shr t_uint64 v15 v16) fun v17 => wv (vconv T G7 t_uint64 t_uint8 v17) fun v18 => aBuildSlice T t_sl_uint8 1 [(0, v18)] G7 fun v19 G20 => aAppend T G20 t_sl_uint8 t_sl_uint8 v14 v19 fun v21 G22 => wv (vnil x8) fun v23 => wv (vfaddr T t_cursor_Writer v23 0) fun v24 => wg (vstore T G22 t_sl_uint8 v24 v21) fun G25 => wv (vbin T .sub t_int x10 (.int .i64 1)) fun v26 => R6 [x8, x9, v26] G25)
  (Q (.tuple []) G7)) → R6 [x8, x9, x10] G7) →
  R6 [a0, a1, v5] G)
def cursor_lay_uint16.an : Ann := .two (.nil) (.two (.nil) (.loop [0, 1, 6] (.two (.nil) (.two (.ord [(0, []), (1, []), (2, []), (3, []), (4, []), (5, []), (6, []), (7, []), (8, []), (9, []), (10, []), (11, []), (12, []), (13, []), (14, []), (15, [])]) (.nil)))))
set_option maxRecDepth 100000 in
theorem cursor_lay_uint16.sound {a0 a1 a2 : AVal} {G : Heap} {Q : AVal → Heap → Prop} (h : cursor_lay_uint16.S a0 a1 a2 G Q) : ACalls P cursor_lay_uint16.n [a0, a1, a2] G Q := by
  have e : cursor_lay_uint16.S a0 a1 a2 G Q = awp cx (cursor_lay_uint16.body) cursor_lay_uint16.an (bodyQ T [] Q) (envL [a0, a1, a2]) G := by kernel_rfl
  exact ACalls_of_awp cxOk (f := cursor_lay_uint16.n) (fn := Tryz.f169) (c := cursor_lay_uint16.body) (an := cursor_lay_uint16.an) Tryz.func169 (by kernel_rfl) (by kernel_rfl) (by kernel_rfl) (drawsOk_of (by kernel_rfl) (by kernel_rfl)) (by simp [Tryz.f169]) (e ▸ h)

/-! #### (*escrow/cursor.Writer).U16 -/
def cursor_Writer_U16.S (a0 a1 : AVal) (G : Heap) (Q : AVal → Heap → Prop) : Prop :=
  ACalls P cursor_lay_uint16.n [a0, a1, .int .i64 2] G fun v1 G2 => Q (.tuple []) G2
def cursor_Writer_U16.an : Ann := .nil
set_option maxRecDepth 100000 in
theorem cursor_Writer_U16.sound {a0 a1 : AVal} {G : Heap} {Q : AVal → Heap → Prop} (h : cursor_Writer_U16.S a0 a1 G Q) : ACalls P cursor_Writer_U16.n [a0, a1] G Q := by
  have e : cursor_Writer_U16.S a0 a1 G Q = awp cx (cursor_Writer_U16.body) cursor_Writer_U16.an (bodyQ T [] Q) (envL [a0, a1]) G := by kernel_rfl
  exact ACalls_of_awp cxOk (f := cursor_Writer_U16.n) (fn := Tryz.f132) (c := cursor_Writer_U16.body) (an := cursor_Writer_U16.an) Tryz.func132 (by kernel_rfl) (by kernel_rfl) (by kernel_rfl) (drawsOk_of (by kernel_rfl) (by kernel_rfl)) (by simp [Tryz.f132]) (e ▸ h)

/-! #### (*escrow/cursor.Writer).Out -/
def cursor_Writer_Out.S (a0 : AVal) (G : Heap) (Q : AVal → Heap → Prop) : Prop :=
  wv (vnil a0) fun v1 => wv (vfaddr T t_cursor_Writer v1 1) fun v2 => wv (vload T G t_api_Errno v2) fun v3 => wv (vbin T .neq t_api_Errno v3 (.int .i64 0)) fun v4 => brB (some v4)
  (wv (vnil a0) fun v5 => wv (vfaddr T t_cursor_Writer v5 1) fun v6 => wv (vload T G t_api_Errno v6) fun v7 => Q (.tuple [.str [], v7]) G)
  (wv (vnil a0) fun v8 => wv (vfaddr T t_cursor_Writer v8 0) fun v9 => wv (vload T G t_sl_uint8 v9) fun v10 => wv (vconv T G t_sl_uint8 t_string v10) fun v11 => Q (.tuple [v11, .int .i64 0]) G)
def cursor_Writer_Out.an : Ann := .two (.nil) (.two (.two (.nil) (.two (.two (.ord [(0, []), (1, []), (2, []), (3, []), (4, []), (5, [])]) (.nil)) (.nil))) (.nil))
set_option maxRecDepth 100000 in
theorem cursor_Writer_Out.sound {a0 : AVal} {G : Heap} {Q : AVal → Heap → Prop} (h : cursor_Writer_Out.S a0 G Q) : ACalls P cursor_Writer_Out.n [a0] G Q := by
  have e : cursor_Writer_Out.S a0 G Q = awp cx (cursor_Writer_Out.body) cursor_Writer_Out.an (bodyQ T [.tmp 2, .tmp 3] Q) (envL [a0]) G := by kernel_rfl
  exact ACalls_of_awp cxOk (f := cursor_Writer_Out.n) (fn := Tryz.f133) (c := cursor_Writer_Out.body) (an := cursor_Writer_Out.an) Tryz.func133 (by kernel_rfl) (by kernel_rfl) (by kernel_rfl) (drawsOk_of (by kernel_rfl) (by kernel_rfl)) (by simp [Tryz.f133]) (e ▸ h)

/-! #### escrow/commit.Text -/
def commit_Text.S (a0 a1 a2 a3 : AVal) (G : Heap) (Q : AVal → Heap → Prop) : Prop :=
  aNew G (.own (a2)) fun i1 G2 => aNew G2 (.own (a3)) fun i3 G4 => let J71 : AVal → Heap → Prop := (fun x10 G9 => brB (some x10)
  (Q (.tuple [.str [], .int .i64 1]) G9)
  (wv (vload T G9 t_api_Ledger (.ptr i3 [] 0)) fun v11 => ACalls P commit_sound.n [v11] G9 fun v12 G13 => wv (vun .not v12) fun v14 => brB (some v14)
  (Q (.tuple [.str [], .int .i64 4]) G13)
  (ACalls P cursor_New.n [] G13 fun v15 G16 => wv (vconv T G16 t_int t_uint8 a0) fun v17 => ACalls P cursor_Writer_U8.n [v15, v17] G16 fun v18 G19 => ACalls P cursor_Writer_I64.n [v15, a1] G19 fun v20 G21 => wv (vload T G21 t_api_Hash (.ptr i1 [] 0)) fun v22 => ACalls P cursor_Writer_Hash.n [v15, v22] G21 fun v23 G24 => wv (vload T G24 t_int64 (.ptr i3 [0] 0)) fun v25 => ACalls P cursor_Writer_I64.n [v15, v25] G24 fun v26 G27 => wv (vload T G27 t_int64 (.ptr i3 [1] 1)) fun v28 => ACalls P cursor_Writer_I64.n [v15, v28] G27 fun v29 G30 => wv (vload T G30 t_sl_api_Pending (.ptr i3 [2] 2)) fun v31 => wv (vlen T G30 t_sl_api_Pending v31) fun v32 => wv (vconv T G30 t_int t_uint16 v32) fun v33 => ACalls P cursor_Writer_U16.n [v15, v33] G30 fun v34 G35 => wv (vload T G35 t_sl_api_Pending (.ptr i3 [2] 2)) fun v36 => wv (vlen T G35 t_sl_api_Pending v36) fun v37 => ∀ R38 : List AVal → Heap → Prop,
  (∀ (x40 x41 x42 x43 : AVal) (G39 : Heap), (wv (vbin T .lss t_int x43 x42) fun v44 => brB (some v44)
  (wv (viaddr T t_sl_api_Pending x41 x43) fun v45 => wv (vload T G39 t_api_Pending v45) fun v46 => aNew G39 (.own (z_api_Pending)) fun i47 G48 => wg (vstore T G48 t_api_Pending (.ptr i47 [] 0) v46) fun G49 => wv (vload T G49 t_bool (.ptr i47 [0] 0)) fun v50 => let J65 : Heap → Prop := (fun G55 => wv (vload T G55 t_int64 (.ptr i47 [1] 1)) fun v56 => ACalls P cursor_Writer_I64.n [x40, v56] G55 fun v57 G58 => wv (vload T G58 t_int64 (.ptr i47 [2] 2)) fun v59 => ACalls P cursor_Writer_I64.n [x40, v59] G58 fun v60 G61 => wv (vload T G61 t_api_Hash (.ptr i47 [3] 3)) fun v62 => ACalls P cursor_Writer_Hash.n [x40, v62] G61 fun v63 G64 => wv (vbin T .add t_int x43 (.int .i64 1)) fun v66 => R38 [x40, x41, x42, v66] G64);
  brB (some v50)
  (ACalls P cursor_Writer_U8.n [x40, .int .u8 1] G49 fun v51 G52 => J65 G52)
  (ACalls P cursor_Writer_U8.n [x40, .int .u8 0] G49 fun v53 G54 => J65 G54))
  (ACalls P cursor_Writer_Out.n [x40] G39 fun v67 G68 => wv (vextract v67 0) fun v69 => wv (vextract v67 1) fun v70 => Q (.tuple [v69, v70]) G68)) → R38 [x40, x41, x42, x43] G39) →
  R38 [v15, v36, v37, .int .i64 0] G35)));
  wv (vbin T .lss t_int a0 (.int .i64 0)) fun v5 => brB (some v5)
  (J71 (.bool true) G4)
  (wv (vbin T .gtr t_int a0 (.int .i64 1)) fun v6 => brB (some v6)
  (J71 (.bool true) G4)
  (wv (vbin T .lss t_int64 a1 (.int .i64 0)) fun v7 => brB (some v7)
  (J71 (.bool true) G4)
  (wv (vbin T .gtr t_int64 a1 (.int .i64 281474976710655)) fun v8 => J71 v8 G4)))
def commit_Text.an : Ann := .two (.nil) (.two (.nil) (.two (.nil) (.two (.nil) (.two (.nil) (.two (.nil) (.two (.nil) (.two (.nil) (.two (.nil) (.two (.nil) (.two (.two (.nil) (.loop [10, 56, 57, 58] (.nil))) (.nil)))))))))))
set_option maxRecDepth 100000 in
theorem commit_Text.sound {a0 a1 a2 a3 : AVal} {G : Heap} {Q : AVal → Heap → Prop} (h : commit_Text.S a0 a1 a2 a3 G Q) : ACalls P commit_Text.n [a0, a1, a2, a3] G Q := by
  have e : commit_Text.S a0 a1 a2 a3 G Q = awp cx (commit_Text.body) commit_Text.an (bodyQ T [.tmp 8, .tmp 9] Q) (envL [a0, a1, a2, a3]) G := by kernel_rfl
  exact ACalls_of_awp cxOk (f := commit_Text.n) (fn := Tryz.f73) (c := commit_Text.body) (an := commit_Text.an) Tryz.func73 (by kernel_rfl) (by kernel_rfl) (by kernel_rfl) (drawsOk_of (by kernel_rfl) (by kernel_rfl)) (by simp [Tryz.f73]) (e ▸ h)

/-! #### escrow/seed.right -/
def seed_right.S (a0 : AVal) (G : Heap) (Q : AVal → Heap → Prop) : Prop :=
  wv (vbin T .geq t_int64 a0 (.int .i64 0)) fun v1 => brB (some v1)
  (wv (vbin T .leq t_int64 a0 (.int .i64 281474976710655)) fun v2 => Q v2 G)
  (Q (.bool false) G)
def seed_right.an : Ann := .nil
set_option maxRecDepth 100000 in
theorem seed_right.sound {a0 : AVal} {G : Heap} {Q : AVal → Heap → Prop} (h : seed_right.S a0 G Q) : ACalls P seed_right.n [a0] G Q := by
  have e : seed_right.S a0 G Q = awp cx (seed_right.body) seed_right.an (bodyQ T [.tmp 2] Q) (envL [a0]) G := by kernel_rfl
  exact ACalls_of_awp cxOk (f := seed_right.n) (fn := Tryz.f138) (c := seed_right.body) (an := seed_right.an) Tryz.func138 (by kernel_rfl) (by kernel_rfl) (by kernel_rfl) (drawsOk_of (by kernel_rfl) (by kernel_rfl)) (by simp [Tryz.f138]) (e ▸ h)

/-! #### escrow/hash.constants -/
def hash_constants.S (G : Heap) (Q : AVal → Heap → Prop) : Prop :=
  aNew G (.own (z_ar64_uint32)) fun i1 G2 => wv (vbuild T t_ar64_uint32 [(0, .int .u32 1116352408), (1, .int .u32 1899447441), (2, .int .u32 3049323471), (3, .int .u32 3921009573), (4, .int .u32 961987163), (5, .int .u32 1508970993), (6, .int .u32 2453635748), (7, .int .u32 2870763221), (8, .int .u32 3624381080), (9, .int .u32 310598401), (10, .int .u32 607225278), (11, .int .u32 1426881987), (12, .int .u32 1925078388), (13, .int .u32 2162078206), (14, .int .u32 2614888103), (15, .int .u32 3248222580), (16, .int .u32 3835390401), (17, .int .u32 4022224774), (18, .int .u32 264347078), (19, .int .u32 604807628), (20, .int .u32 770255983), (21, .int .u32 1249150122), (22, .int .u32 1555081692), (23, .int .u32 1996064986), (24, .int .u32 2554220882), (25, .int .u32 2821834349), (26, .int .u32 2952996808), (27, .int .u32 3210313671), (28, .int .u32 3336571891), (29, .int .u32 3584528711), (30, .int .u32 113926993), (31, .int .u32 338241895), (32, .int .u32 666307205), (33, .int .u32 773529912), (34, .int .u32 1294757372), (35, .int .u32 1396182291), (36, .int .u32 1695183700), (37, .int .u32 1986661051), (38, .int .u32 2177026350), (39, .int .u32 2456956037), (40, .int .u32 2730485921), (41, .int .u32 2820302411), (42, .int .u32 3259730800), (43, .int .u32 3345764771), (44, .int .u32 3516065817), (45, .int .u32 3600352804), (46, .int .u32 4094571909), (47, .int .u32 275423344), (48, .int .u32 430227734), (49, .int .u32 506948616), (50, .int .u32 659060556), (51, .int .u32 883997877), (52, .int .u32 958139571), (53, .int .u32 1322822218), (54, .int .u32 1537002063), (55, .int .u32 1747873779), (56, .int .u32 1955562222), (57, .int .u32 2024104815), (58, .int .u32 2227730452), (59, .int .u32 2361852424), (60, .int .u32 2428436474), (61, .int .u32 2756734187), (62, .int .u32 3204031479), (63, .int .u32 3329325298)]) fun v3 => wg (vstore T G2 t_ar64_uint32 (.ptr i1 [] 0) v3) fun G4 => wv (vload T G4 t_ar64_uint32 (.ptr i1 [] 0)) fun v5 => Q v5 G4
def hash_constants.an : Ann := .nil
set_option maxRecDepth 100000 in
theorem hash_constants.sound {G : Heap} {Q : AVal → Heap → Prop} (h : hash_constants.S G Q) : ACalls P hash_constants.n [] G Q := by
  have e : hash_constants.S G Q = awp cx (hash_constants.body) hash_constants.an (bodyQ T [.cell 0 105] Q) (envL []) G := by kernel_rfl
  exact ACalls_of_awp cxOk (f := hash_constants.n) (fn := Tryz.f47) (c := hash_constants.body) (an := hash_constants.an) Tryz.func47 (by kernel_rfl) (by kernel_rfl) (by kernel_rfl) (drawsOk_of (by kernel_rfl) (by kernel_rfl)) (by simp [Tryz.f47]) (e ▸ h)

/-! #### math/bits.RotateLeft32 -/
def bits_RotateLeft32.S (a0 a1 : AVal) (G : Heap) (Q : AVal → Heap → Prop) : Prop :=
  wv (vconv T G t_int t_uint a1) fun v1 => wv (vbin T .and t_uint v1 (.int .u64 31)) fun v2 => wv (vbin T .shl t_uint32 a0 v2) fun v3 => wv (vbin T .sub t_uint (.int .u64 32) v2) fun v4 => wv (vbin T .shr t_uint32 a0 v4) fun v5 => wv (vbin T .or t_uint32 v3 v5) fun v6 => Q v6 G
def bits_RotateLeft32.an : Ann := .nil
set_option maxRecDepth 100000 in
theorem bits_RotateLeft32.sound {a0 a1 : AVal} {G : Heap} {Q : AVal → Heap → Prop} (h : bits_RotateLeft32.S a0 a1 G Q) : ACalls P bits_RotateLeft32.n [a0, a1] G Q := by
  have e : bits_RotateLeft32.S a0 a1 G Q = awp cx (bits_RotateLeft32.body) bits_RotateLeft32.an (bodyQ T [.tmp 4] Q) (envL [a0, a1]) G := by kernel_rfl
  exact ACalls_of_awp cxOk (f := bits_RotateLeft32.n) (fn := Tryz.f104) (c := bits_RotateLeft32.body) (an := bits_RotateLeft32.an) Tryz.func104 (by kernel_rfl) (by kernel_rfl) (by kernel_rfl) (drawsOk_of (by kernel_rfl) (by kernel_rfl)) (by simp [Tryz.f104]) (e ▸ h)

/-! #### escrow/hash.schedule -/
def hash_schedule.S (a0 : AVal) (G : Heap) (Q : AVal → Heap → Prop) : Prop :=
  aNew G (.own (z_ar64_uint32)) fun i1 G2 => aNew G2 (.own (z_ar64_uint32)) fun i3 G4 => ∀ R5 : List AVal → Heap → Prop,
  (∀ (x7 x8 x9 x10 : AVal) (G6 : Heap), (wv (vbin T .lss t_int x10 (.int .i64 16)) fun v11 => brB (some v11)
  (∀ R12 : List AVal → Heap → Prop,
  (∀ (x14 x15 x16 x17 x18 x19 : AVal) (G13 : Heap), (wv (vbin T .lss t_int x19 (.int .i64 4)) fun v20 => brB (some v20)
  (wv (viaddr T t_ar64_uint32 x16 x17) fun v21 => wv (vload T G13 t_uint32 v21) fun v22 => wv (vbin T .shl t_uint32 v22 (.int .u64 8)) fun v23 => wv (vbin T .mul t_int (.int .i64 4) x17) fun v24 => wv (vbin T .add t_int v24 x19) fun v25 => wv (vindex T t_string x14 v25) fun v26 => wv (vconv T G13 t_uint8 t_uint32 v26) fun v27 => wv (vbin T .or t_uint32 v23 v27) fun v28 => wv (viaddr T t_ar64_uint32 x16 x17) fun v29 => wg (vstore T G13 t_uint32 v29 v28) fun G30 => wv (vbin T .add t_int x19 (.int .i64 1)) fun v31 => R12 [x14, x15, x16, x17, x18, v31] G30)
  (wv (vbin T .add t_int x18 (.int .i64 1)) fun v32 => R5 [x14, x15, x16, v32] G13)) → R12 [x14, x15, x16, x17, x18, x19] G13) →
  R12 [x7, x8, x9, x10, x10, .int .i64 0] G6)
  (∀ R33 : List AVal → Heap → Prop,
  (∀ (x35 x36 x37 : AVal) (G34 : Heap), (wv (vbin T .lss t_int x37 (.int .i64 64)) fun v38 => brB (some v38)
  (wv (vbin T .sub t_int x37 (.int .i64 15)) fun v39 => wv (viaddr T t_ar64_uint32 x36 v39) fun v40 => wv (vload T G34 t_uint32 v40) fun v41 => wv (vbin T .sub t_int x37 (.int .i64 2)) fun v42 => wv (viaddr T t_ar64_uint32 x36 v42) fun v43 => wv (vload T G34 t_uint32 v43) fun v44 => ACalls P bits_RotateLeft32.n [v41, .int .i64 (-7)] G34 fun v45 G46 => ACalls P bits_RotateLeft32.n [v41, .int .i64 (-18)] G46 fun v47 G48 => wv (vbin T .xor t_uint32 v45 v47) fun v49 => wv (vbin T .shr t_uint32 v41 (.int .u64 3)) fun v50 => wv (vbin T .xor t_uint32 v49 v50) fun v51 => ACalls P bits_RotateLeft32.n [v44, .int .i64 (-17)] G48 fun v52 G53 => ACalls P bits_RotateLeft32.n [v44, .int .i64 (-19)] G53 fun v54 G55 => wv (vbin T .xor t_uint32 v52 v54) fun v56 => wv (vbin T .shr t_uint32 v44 (.int .u64 10)) fun v57 => wv (vbin T .xor t_uint32 v56 v57) fun v58 => wv (vbin T .sub t_int x37 (.int .i64 16)) fun v59 => wv (viaddr T t_ar64_uint32 x36 v59) fun v60 => wv (vload T G55 t_uint32 v60) fun v61 => wv (vbin T .add t_uint32 v61 v51) fun v62 => wv (vbin T .sub t_int x37 (.int .i64 7)) fun v63 => wv (viaddr T t_ar64_uint32 x36 v63) fun v64 => wv (vload T G55 t_uint32 v64) fun v65 => wv (vbin T .add t_uint32 v62 v65) fun v66 => wv (vbin T .add t_uint32 v66 v58) fun v67 => wv (viaddr T t_ar64_uint32 x36 x37) fun v68 => wg (vstore T G55 t_uint32 v68 v67) fun G69 => wv (vbin T .add t_int x37 (.int .i64 1)) fun v70 => R33 [x35, x36, v70] G69)
  (wv (vload T G34 t_ar64_uint32 x36) fun v71 => wg (vstore T G34 t_ar64_uint32 x35 v71) fun G72 => wv (vload T G72 t_ar64_uint32 x35) fun v73 => Q v73 G72)) → R33 [x35, x36, x37] G34) →
  R33 [x8, x9, .int .i64 16] G6)) → R5 [x7, x8, x9, x10] G6) →
  R5 [a0, .ptr i1 [] 0, .ptr i3 [] 0, .int .i64 0] G4
def hash_schedule.an : Ann := .two (.nil) (.two (.nil) (.two (.two (.nil) (.loop [0, 2, 3, 11] (.two (.nil) (.two (.nil) (.two (.two (.nil) (.two (.nil) (.loop [0, 2, 3, 4, 11, 14] (.two (.nil) (.two (.nil) (.two (.two (.nil) (.ord [(0, []), (1, []), (2, []), (3, []), (4, []), (5, []), (6, []), (7, []), (8, []), (9, []), (10, []), (11, []), (12, []), (13, []), (14, [])])) (.nil))))))) (.nil)))))) (.two (.two (.nil) (.loop [2, 3, 6] (.two (.nil) (.two (.two (.ord [(0, []), (1, []), (2, []), (3, []), (4, []), (5, []), (6, []), (7, []), (8, []), (9, [])]) (.two (.nil) (.two (.nil) (.ord [(0, []), (1, []), (2, []), (3, []), (4, []), (5, []), (6, []), (7, []), (8, []), (9, []), (10, []), (11, []), (12, []), (13, []), (14, []), (15, [])])))) (.nil))))) (.nil))))
set_option maxRecDepth 100000 in
theorem hash_schedule.sound {a0 : AVal} {G : Heap} {Q : AVal → Heap → Prop} (h : hash_schedule.S a0 G Q) : ACalls P hash_schedule.n [a0] G Q := by
  have e : hash_schedule.S a0 G Q = awp cx (hash_schedule.body) hash_schedule.an (bodyQ T [.cell 2 105] Q) (envL [a0]) G := by kernel_rfl
  exact ACalls_of_awp cxOk (f := hash_schedule.n) (fn := Tryz.f103) (c := hash_schedule.body) (an := hash_schedule.an) Tryz.func103 (by kernel_rfl) (by kernel_rfl) (by kernel_rfl) (drawsOk_of (by kernel_rfl) (by kernel_rfl)) (by simp [Tryz.f103]) (e ▸ h)

/-! #### escrow/hash.turned -/
def hash_turned.S (a0 a1 a2 : AVal) (G : Heap) (Q : AVal → Heap → Prop) : Prop :=
  aNew G (.own (a0)) fun i1 G2 => aNew G2 (.own (z_ar8_uint32)) fun i3 G4 => wv (vload T G4 t_ar8_uint32 (.ptr i1 [] 0)) fun v5 => ACalls P hash_schedule.n [a1] G4 fun v6 G7 => (vload T G7 t_ar8_uint32 (.ptr i1 [] 0) = some v5 ∧ True) ∧ (aNew G7 (.own (z_ar64_uint32)) fun i8 G9 => aNew G9 (.own (z_ar8_uint32)) fun i10 G11 => wg (vstore T G11 t_ar64_uint32 (.ptr i8 [] 0) v6) fun G12 => (vload T G12 t_ar8_uint32 (.ptr i1 [] 0) = some v5 ∧ True) ∧ (wg (vstore T G12 t_ar8_uint32 (.ptr i10 [] 0) v5) fun G13 => ∀ R14 : List AVal → Heap → Prop,
  (∀ (x16 x17 x18 x19 x20 x21 : AVal) (G15 : Heap), (wv (vbin T .lss t_int x21 (.int .i64 64)) fun v22 => brB (some v22)
  (wv (viaddr T t_ar8_uint32 x20 (.int .i64 4)) fun v23 => wv (vload T G15 t_uint32 v23) fun v24 => wv (viaddr T t_ar8_uint32 x20 (.int .i64 0)) fun v25 => wv (vload T G15 t_uint32 v25) fun v26 => wv (viaddr T t_ar8_uint32 x20 (.int .i64 7)) fun v27 => wv (vload T G15 t_uint32 v27) fun v28 => wv (viaddr T t_ar8_uint32 x20 (.int .i64 5)) fun v29 => wv (vload T G15 t_uint32 v29) fun v30 => wv (vbin T .and t_uint32 v24 v30) fun v31 => wv (vun .xor v24) fun v32 => wv (viaddr T t_ar8_uint32 x20 (.int .i64 6)) fun v33 => wv (vload T G15 t_uint32 v33) fun v34 => wv (vbin T .and t_uint32 v32 v34) fun v35 => wv (vbin T .xor t_uint32 v31 v35) fun v36 => wv (vnil x16) fun v37 => wv (viaddr T t_ar64_uint32 v37 x21) fun v38 => wv (vload T G15 t_uint32 v38) fun v39 => wv (viaddr T t_ar64_uint32 x19 x21) fun v40 => wv (vload T G15 t_uint32 v40) fun v41 => ACalls P bits_RotateLeft32.n [v24, .int .i64 (-6)] G15 fun v42 G43 => (vload T G43 t_uint32 v40 = some v41 ∧ vload T G43 t_uint32 v38 = some v39 ∧ vload T G43 t_uint32 v33 = some v34 ∧ vload T G43 t_uint32 v29 = some v30 ∧ vload T G43 t_uint32 v27 = some v28 ∧ True) ∧ (ACalls P bits_RotateLeft32.n [v24, .int .i64 (-11)] G43 fun v44 G45 => (vload T G45 t_uint32 v40 = some v41 ∧ vload T G45 t_uint32 v38 = some v39 ∧ vload T G45 t_uint32 v33 = some v34 ∧ vload T G45 t_uint32 v29 = some v30 ∧ vload T G45 t_uint32 v27 = some v28 ∧ True) ∧ (wv (vbin T .xor t_uint32 v42 v44) fun v46 => ACalls P bits_RotateLeft32.n [v24, .int .i64 (-25)] G45 fun v47 G48 => (vload T G48 t_uint32 v40 = some v41 ∧ vload T G48 t_uint32 v38 = some v39 ∧ vload T G48 t_uint32 v33 = some v34 ∧ vload T G48 t_uint32 v29 = some v30 ∧ vload T G48 t_uint32 v27 = some v28 ∧ True) ∧ (wv (vbin T .xor t_uint32 v46 v47) fun v49 => wv (vbin T .add t_uint32 v28 v49) fun v50 => wv (vbin T .add t_uint32 v50 v36) fun v51 => wv (vbin T .add t_uint32 v51 v39) fun v52 => wv (vbin T .add t_uint32 v52 v41) fun v53 => wv (viaddr T t_ar8_uint32 x20 (.int .i64 1)) fun v54 => wv (vload T G48 t_uint32 v54) fun v55 => wv (vbin T .and t_uint32 v26 v55) fun v56 => wv (viaddr T t_ar8_uint32 x20 (.int .i64 2)) fun v57 => wv (vload T G48 t_uint32 v57) fun v58 => wv (vbin T .and t_uint32 v26 v58) fun v59 => wv (vbin T .xor t_uint32 v56 v59) fun v60 => wv (viaddr T t_ar8_uint32 x20 (.int .i64 1)) fun v61 => wv (vload T G48 t_uint32 v61) fun v62 => wv (viaddr T t_ar8_uint32 x20 (.int .i64 2)) fun v63 => wv (vload T G48 t_uint32 v63) fun v64 => wv (vbin T .and t_uint32 v62 v64) fun v65 => wv (vbin T .xor t_uint32 v60 v65) fun v66 => ACalls P bits_RotateLeft32.n [v26, .int .i64 (-2)] G48 fun v67 G68 => (vload T G68 t_uint32 v63 = some v64 ∧ vload T G68 t_uint32 v61 = some v62 ∧ vload T G68 t_uint32 v57 = some v58 ∧ vload T G68 t_uint32 v54 = some v55 ∧ True) ∧ (ACalls P bits_RotateLeft32.n [v26, .int .i64 (-13)] G68 fun v69 G70 => (vload T G70 t_uint32 v63 = some v64 ∧ vload T G70 t_uint32 v61 = some v62 ∧ vload T G70 t_uint32 v57 = some v58 ∧ vload T G70 t_uint32 v54 = some v55 ∧ True) ∧ (wv (vbin T .xor t_uint32 v67 v69) fun v71 => ACalls P bits_RotateLeft32.n [v26, .int .i64 (-22)] G70 fun v72 G73 => (vload T G73 t_uint32 v63 = some v64 ∧ vload T G73 t_uint32 v61 = some v62 ∧ vload T G73 t_uint32 v57 = some v58 ∧ vload T G73 t_uint32 v54 = some v55 ∧ True) ∧ (wv (vbin T .xor t_uint32 v71 v72) fun v74 => wv (vbin T .add t_uint32 v74 v66) fun v75 => wv (vbin T .add t_uint32 v53 v75) fun v76 => wv (viaddr T t_ar8_uint32 x20 (.int .i64 1)) fun v77 => wv (vload T G73 t_uint32 v77) fun v78 => wv (viaddr T t_ar8_uint32 x20 (.int .i64 2)) fun v79 => wv (vload T G73 t_uint32 v79) fun v80 => wv (viaddr T t_ar8_uint32 x20 (.int .i64 3)) fun v81 => wv (vload T G73 t_uint32 v81) fun v82 => wv (vbin T .add t_uint32 v82 v53) fun v83 => wv (viaddr T t_ar8_uint32 x20 (.int .i64 5)) fun v84 => wv (vload T G73 t_uint32 v84) fun v85 => wv (viaddr T t_ar8_uint32 x20 (.int .i64 6)) fun v86 => wv (vload T G73 t_uint32 v86) fun v87 => wv (vbuild T t_ar8_uint32 [(0, v76), (1, v26), (2, v78), (3, v80), (4, v83), (5, v24), (6, v85), (7, v87)]) fun v88 => wg (vstore T G73 t_ar8_uint32 x20 v88) fun G89 => wv (vbin T .add t_int x21 (.int .i64 1)) fun v90 => R14 [x16, x17, x18, x19, x20, v90] G89)))))))
  (∀ R91 : List AVal → Heap → Prop,
  (∀ (x93 x94 x95 x96 : AVal) (G92 : Heap), (wv (vbin T .lss t_int x96 (.int .i64 8)) fun v97 => brB (some v97)
  (wv (viaddr T t_ar8_uint32 x95 x96) fun v98 => wv (vload T G92 t_uint32 v98) fun v99 => wv (viaddr T t_ar8_uint32 x93 x96) fun v100 => wv (vload T G92 t_uint32 v100) fun v101 => wv (vbin T .add t_uint32 v99 v101) fun v102 => wv (viaddr T t_ar8_uint32 x95 x96) fun v103 => wg (vstore T G92 t_uint32 v103 v102) fun G104 => wv (vbin T .add t_int x96 (.int .i64 1)) fun v105 => R91 [x93, x94, x95, v105] G104)
  (wv (vload T G92 t_ar8_uint32 x95) fun v106 => wg (vstore T G92 t_ar8_uint32 x94 v106) fun G107 => wv (vload T G107 t_ar8_uint32 x94) fun v108 => Q v108 G107)) → R91 [x93, x94, x95, x96] G92) →
  R91 [x17, x18, x20, .int .i64 0] G15)) → R14 [x16, x17, x18, x19, x20, x21] G15) →
  R14 [a2, .ptr i1 [] 0, .ptr i3 [] 0, .ptr i8 [] 0, .ptr i10 [] 0, .int .i64 0] G13))
def hash_turned.an : Ann := .two (.nil) (.two (.ord [(0, []), (2, []), (1, [2]), (3, []), (4, []), (5, [2]), (6, [])]) (.two (.two (.nil) (.loop [2, 3, 6, 7, 8, 18] (.two (.nil) (.two (.nil) (.two (.two (.nil) (.two (.ord [(0, []), (1, []), (2, []), (3, []), (4, []), (5, [])]) (.two (.ord [(0, []), (1, []), (2, []), (4, []), (7, []), (11, []), (12, []), (13, []), (14, []), (15, []), (16, []), (17, []), (18, []), (19, []), (20, []), (22, []), (23, []), (24, []), (25, []), (26, []), (28, []), (29, []), (30, []), (3, [1, 13, 18, 26, 30]), (5, [1, 13, 18, 26, 30]), (6, []), (8, [1, 13, 18, 26, 30]), (9, []), (10, []), (21, []), (27, []), (31, []), (32, [])]) (.two (.ord [(0, []), (2, []), (5, []), (8, []), (9, []), (10, []), (11, []), (12, []), (13, []), (14, []), (15, []), (16, []), (17, []), (18, []), (19, []), (20, []), (21, []), (22, []), (1, [10, 14, 18, 20]), (3, [10, 14, 18, 20]), (4, []), (6, [10, 14, 18, 20]), (7, []), (23, []), (24, [])]) (.nil))))) (.nil)))))) (.two (.two (.nil) (.loop [3, 6, 8, 100] (.two (.nil) (.two (.nil) (.two (.two (.nil) (.ord [(0, []), (1, []), (2, []), (3, []), (4, []), (5, []), (6, []), (7, []), (8, [])])) (.nil)))))) (.nil))))
set_option maxRecDepth 100000 in
theorem hash_turned.sound {a0 a1 a2 : AVal} {G : Heap} {Q : AVal → Heap → Prop} (h : hash_turned.S a0 a1 a2 G Q) : ACalls P hash_turned.n [a0, a1, a2] G Q := by
  have e : hash_turned.S a0 a1 a2 G Q = awp cx (hash_turned.body) hash_turned.an (bodyQ T [.cell 6 104] Q) (envL [a0, a1, a2]) G := by kernel_rfl
  exact ACalls_of_awp cxOk (f := hash_turned.n) (fn := Tryz.f48) (c := hash_turned.body) (an := hash_turned.an) Tryz.func48 (by kernel_rfl) (by kernel_rfl) (by kernel_rfl) (drawsOk_of (by kernel_rfl) (by kernel_rfl)) (by simp [Tryz.f48]) (e ▸ h)

/-! #### escrow/hash.Sum -/
def hash_Sum.S (a0 : AVal) (G : Heap) (Q : AVal → Heap → Prop) : Prop :=
  aNew G (.own (z_api_Hash)) fun i1 G2 => ACalls P strings_Join.n [a0, .str []] G2 fun v3 G4 => wv (vlen T G4 t_string v3) fun v5 => aBuildSlice T t_sl_uint8 1 [(0, .int .u8 128)] G4 fun v6 G7 => ∀ R8 : List AVal → Heap → Prop,
  (∀ (x10 x11 x12 x13 : AVal) (G9 : Heap), (wv (vlen T G9 t_sl_uint8 x13) fun v14 => wv (vbin T .add t_int x12 v14) fun v15 => wv (vbin T .rem t_int v15 (.int .i64 64)) fun v16 => wv (vbin T .neq t_int v16 (.int .i64 56)) fun v17 => brB (some v17)
  (aBuildSlice T t_sl_uint8 1 [(0, .int .u8 0)] G9 fun v18 G19 => aAppend T G19 t_sl_uint8 t_sl_uint8 x13 v18 fun v20 G21 => R8 [x10, x11, x12, v20] G21)
  (∀ R22 : List AVal → Heap → Prop,
  (∀ (x24 x25 x26 x27 x28 : AVal) (G23 : Heap), (wv (vbin T .lss t_int x28 (.int .i64 8)) fun v29 => brB (some v29)
  (wv (vbin T .mul t_int (.int .i64 8) x26) fun v30 => wv (vconv T G23 t_int t_uint64 v30) fun v31 => wv (vbin T .mul t_int (.int .i64 8) x28) fun v32 => wv (vbin T .sub t_int (.int .i64 56) v32) fun v33 => wv (vbin T .shr t_uint64 v31 v33) fun v34 => wv (vconv T G23 t_uint64 t_uint8 v34) fun v35 => aBuildSlice T t_sl_uint8 1 [(0, v35)] G23 fun v36 G37 => aAppend T G37 t_sl_uint8 t_sl_uint8 x27 v36 fun v38 G39 => wv (vbin T .add t_int x28 (.int .i64 1)) fun v40 => R22 [x24, x25, x26, v38, v40] G39)
  (wv (vconv T G23 t_sl_uint8 t_string x27) fun v41 => wv (vbin T .add t_string x25 v41) fun v42 => wv (vbuild T t_ar8_uint32 [(0, .int .u32 1779033703), (1, .int .u32 3144134277), (2, .int .u32 1013904242), (3, .int .u32 2773480762), (4, .int .u32 1359893119), (5, .int .u32 2600822924), (6, .int .u32 528734635), (7, .int .u32 1541459225)]) fun v43 => aNew G23 (.own (z_ar8_uint32)) fun i44 G45 => wg (vstore T G45 t_ar8_uint32 (.ptr i44 [] 0) v43) fun G46 => ACalls P hash_constants.n [] G46 fun v47 G48 => aNew G48 (.own (z_ar64_uint32)) fun i49 G50 => wg (vstore T G50 t_ar64_uint32 (.ptr i49 [] 0) v47) fun G51 => ∀ R52 : List AVal → Heap → Prop,
  (∀ (x54 x55 x56 x57 : AVal) (G53 : Heap), (wv (vbin T .neq t_string x55 (.str [])) fun v58 => brB (some v58)
  (wv (vload T G53 t_ar8_uint32 x56) fun v59 => wv (vslice T t_string x55 none (some (.int .i64 64)) none) fun v60 => ACalls P hash_turned.n [v59, v60, x57] G53 fun v61 G62 => wg (vstore T G62 t_ar8_uint32 x56 v61) fun G63 => wv (vslice T t_string x55 (some (.int .i64 64)) none none) fun v64 => R52 [x54, v64, x56, x57] G63)
  (aNew G53 (.own (z_api_Hash)) fun i65 G66 => ∀ R67 : List AVal → Heap → Prop,
  (∀ (x69 x70 x71 x72 : AVal) (G68 : Heap), (wv (vbin T .lss t_int x72 (.int .i64 32)) fun v73 => brB (some v73)
  (wv (vbin T .quo t_int x72 (.int .i64 4)) fun v74 => wv (viaddr T t_ar8_uint32 x70 v74) fun v75 => wv (vload T G68 t_uint32 v75) fun v76 => wv (vbin T .rem t_int x72 (.int .i64 4)) fun v77 => wv (vbin T .mul t_int (.int .i64 8) v77) fun v78 => wv (vbin T .sub t_int (.int .i64 24) v78) fun v79 => wv (vbin T .shr t_uint32 v76 v79) fun v80 => wv (vconv T G68 t_uint32 t_uint8 v80) fun v81 => wv (viaddr T t_api_Hash x71 x72) fun v82 => wg (vstore T G68 t_uint8 v82 v81) fun G83 => wv (vbin T .add t_int x72 (.int .i64 1)) fun v84 => R67 [x69, x70, x71, v84] G83)
  (wv (vload T G68 t_api_Hash x71) fun v85 => wg (vstore T G68 t_api_Hash x69 v85) fun G86 => wv (vload T G86 t_api_Hash x69) fun v87 => Q v87 G86)) → R67 [x69, x70, x71, x72] G68) →
  R67 [x54, x56, .ptr i65 [] 0, .int .i64 0] G66)) → R52 [x54, x55, x56, x57] G53) →
  R52 [x24, v42, .ptr i44 [] 0, .ptr i49 [] 0] G51)) → R22 [x24, x25, x26, x27, x28] G23) →
  R22 [x10, x11, x12, x13, .int .i64 0] G9)) → R8 [x10, x11, x12, x13] G9) →
  R8 [.ptr i1 [] 0, v3, v5, v6] G7
def hash_Sum.an : Ann := .two (.nil) (.two (.nil) (.two (.nil) (.two (.nil) (.two (.loop [2, 3, 4, 5] (.nil)) (.two (.two (.nil) (.loop [2, 3, 4, 5, 25] (.nil))) (.two (.nil) (.two (.nil) (.two (.nil) (.two (.loop [2, 3, 7, 8] (.two (.nil) (.two (.ord [(0, []), (1, []), (2, []), (3, []), (4, [])]) (.nil)))) (.two (.nil) (.two (.two (.nil) (.loop [2, 7, 9, 54] (.nil))) (.nil))))))))))))
set_option maxRecDepth 100000 in
theorem hash_Sum.sound {a0 : AVal} {G : Heap} {Q : AVal → Heap → Prop} (h : hash_Sum.S a0 G Q) : ACalls P hash_Sum.n [a0] G Q := by
  have e : hash_Sum.S a0 G Q = awp cx (hash_Sum.body) hash_Sum.an (bodyQ T [.cell 2 23] Q) (envL [a0]) G := by kernel_rfl
  exact ACalls_of_awp cxOk (f := hash_Sum.n) (fn := Tryz.f17) (c := hash_Sum.body) (an := hash_Sum.an) Tryz.func17 (by kernel_rfl) (by kernel_rfl) (by kernel_rfl) (drawsOk_of (by kernel_rfl) (by kernel_rfl)) (by simp [Tryz.f17]) (e ▸ h)

/-! #### escrow/seed.Point -/
def seed_Point.S (a0 : AVal) (G : Heap) (Q : AVal → Heap → Prop) : Prop :=
  aNew G (.own (a0)) fun i1 G2 => aNew G2 (.own (z_api_Hash)) fun i3 G4 => wv (vslice T t_api_Hash (.ptr i1 [] 0) none none none) fun v5 => wv (vconv T G4 t_sl_uint8 t_string v5) fun v6 => aBuildSlice T t_sl_string 1 [(0, v6)] G4 fun v7 G8 => ACalls P hash_Sum.n [v7] G8 fun v9 G10 => wg (vstore T G10 t_api_Hash (.ptr i3 [] 0) v9) fun G11 => wv (vload T G11 t_api_Hash (.ptr i3 [] 0)) fun v12 => Q v12 G11
def seed_Point.an : Ann := .nil
set_option maxRecDepth 100000 in
theorem seed_Point.sound {a0 : AVal} {G : Heap} {Q : AVal → Heap → Prop} (h : seed_Point.S a0 G Q) : ACalls P seed_Point.n [a0] G Q := by
  have e : seed_Point.S a0 G Q = awp cx (seed_Point.body) seed_Point.an (bodyQ T [.cell 2 23] Q) (envL [a0]) G := by kernel_rfl
  exact ACalls_of_awp cxOk (f := seed_Point.n) (fn := Tryz.f84) (c := seed_Point.body) (an := seed_Point.an) Tryz.func84 (by kernel_rfl) (by kernel_rfl) (by kernel_rfl) (drawsOk_of (by kernel_rfl) (by kernel_rfl)) (by simp [Tryz.f84]) (e ▸ h)

/-! #### escrow/seed.down -/
def seed_down.S (a0 a1 a2 : AVal) (G : Heap) (Q : AVal → Heap → Prop) : Prop :=
  aNew G (.own (a0)) fun i1 G2 => aNew G2 (.own (z_api_Hash)) fun i3 G4 => ∀ R5 : List AVal → Heap → Prop,
  (∀ (x7 x8 x9 x10 x11 x12 : AVal) (G6 : Heap), (wv (vbin T .lss t_int x12 x11) fun v13 => brB (some v13)
  (wv (vbin T .sub t_int x8 (.int .i64 1)) fun v14 => wv (vbin T .sub t_int v14 x12) fun v15 => wv (vbin T .shr t_int64 x7 v15) fun v16 => wv (vbin T .and t_int64 v16 (.int .i64 1)) fun v17 => wv (vbin T .eql t_int64 v17 (.int .i64 1)) fun v18 => brB (some v18)
  (wv (vbin T .quo t_int v15 (.int .i64 8)) fun v19 => wv (viaddr T t_api_Hash x9 v19) fun v20 => wv (vload T G6 t_uint8 v20) fun v21 => wv (vbin T .rem t_int v15 (.int .i64 8)) fun v22 => wv (vbin T .shl t_uint8 (.int .u8 1) v22) fun v23 => wv (vbin T .xor t_uint8 v21 v23) fun v24 => wv (viaddr T t_api_Hash x9 v19) fun v25 => wg (vstore T G6 t_uint8 v25 v24) fun G26 => wv (vload T G26 t_api_Hash x9) fun v27 => ACalls P seed_Point.n [v27] G26 fun v28 G29 => wg (vstore T G29 t_api_Hash x9 v28) fun G30 => wv (vbin T .add t_int x12 (.int .i64 1)) fun v34 => R5 [x7, x8, x9, x10, x11, v34] G30)
  (wv (vbin T .add t_int x12 (.int .i64 1)) fun v35 => R5 [x7, x8, x9, x10, x11, v35] G6))
  (wv (vload T G6 t_api_Hash x9) fun v36 => wg (vstore T G6 t_api_Hash x10 v36) fun G37 => wv (vload T G37 t_api_Hash x10) fun v38 => Q v38 G37)) → R5 [x7, x8, x9, x10, x11, x12] G6) →
  R5 [a1, a2, .ptr i1 [] 0, .ptr i3 [] 0, a2, .int .i64 0] G4
def seed_down.an : Ann := .two (.nil) (.two (.two (.nil) (.loop [1, 2, 3, 6, 9, 10] (.two (.nil) (.two (.nil) (.two (.two (.nil) (.two (.nil) (.two (.nil) (.two (.two (.ord [(0, []), (1, []), (2, []), (3, []), (4, []), (5, []), (6, []), (7, []), (8, []), (9, [])]) (.nil)) (.nil))))) (.nil)))))) (.nil))
set_option maxRecDepth 100000 in
theorem seed_down.sound {a0 a1 a2 : AVal} {G : Heap} {Q : AVal → Heap → Prop} (h : seed_down.S a0 a1 a2 G Q) : ACalls P seed_down.n [a0, a1, a2] G Q := by
  have e : seed_down.S a0 a1 a2 G Q = awp cx (seed_down.body) seed_down.an (bodyQ T [.cell 6 23] Q) (envL [a0, a1, a2]) G := by kernel_rfl
  exact ACalls_of_awp cxOk (f := seed_down.n) (fn := Tryz.f139) (c := seed_down.body) (an := seed_down.an) Tryz.func139 (by kernel_rfl) (by kernel_rfl) (by kernel_rfl) (drawsOk_of (by kernel_rfl) (by kernel_rfl)) (by simp [Tryz.f139]) (e ▸ h)

/-! #### escrow/seed.place -/
def seed_place.S (a0 : AVal) (G : Heap) (Q : AVal → Heap → Prop) : Prop :=
  wv (vbin T .sub t_int64 (.int .i64 281474976710655) a0) fun v1 => Q v1 G
def seed_place.an : Ann := .nil
set_option maxRecDepth 100000 in
theorem seed_place.sound {a0 : AVal} {G : Heap} {Q : AVal → Heap → Prop} (h : seed_place.S a0 G Q) : ACalls P seed_place.n [a0] G Q := by
  have e : seed_place.S a0 G Q = awp cx (seed_place.body) seed_place.an (bodyQ T [.tmp 2] Q) (envL [a0]) G := by kernel_rfl
  exact ACalls_of_awp cxOk (f := seed_place.n) (fn := Tryz.f140) (c := seed_place.body) (an := seed_place.an) Tryz.func140 (by kernel_rfl) (by kernel_rfl) (by kernel_rfl) (drawsOk_of (by kernel_rfl) (by kernel_rfl)) (by simp [Tryz.f140]) (e ▸ h)

/-! #### escrow/seed.Secret -/
def seed_Secret.S (a0 a1 : AVal) (G : Heap) (Q : AVal → Heap → Prop) : Prop :=
  aNew G (.own (a0)) fun i1 G2 => aNew G2 (.own (z_api_Hash)) fun i3 G4 => ACalls P seed_right.n [a1] G4 fun v5 G6 => wv (vun .not v5) fun v7 => brB (some v7)
  (wv (vbuild T t_api_Hash []) fun v8 => wg (vstore T G6 t_api_Hash (.ptr i3 [] 0) v8) fun G9 => wv (vload T G9 t_api_Hash (.ptr i3 [] 0)) fun v10 => Q (.tuple [v10, .int .i64 90]) G9)
  (wv (vload T G6 t_api_Hash (.ptr i1 [] 0)) fun v11 => ACalls P seed_place.n [a1] G6 fun v12 G13 => (vload T G13 t_api_Hash (.ptr i1 [] 0) = some v11 ∧ True) ∧ (ACalls P seed_down.n [v11, v12, .int .i64 48] G13 fun v14 G15 => wg (vstore T G15 t_api_Hash (.ptr i3 [] 0) v14) fun G16 => wv (vload T G16 t_api_Hash (.ptr i3 [] 0)) fun v17 => Q (.tuple [v17, .int .i64 0]) G16))
def seed_Secret.an : Ann := .two (.nil) (.two (.nil) (.two (.ord [(0, []), (1, []), (2, [0]), (3, []), (4, []), (5, [])]) (.nil)))
set_option maxRecDepth 100000 in
theorem seed_Secret.sound {a0 a1 : AVal} {G : Heap} {Q : AVal → Heap → Prop} (h : seed_Secret.S a0 a1 G Q) : ACalls P seed_Secret.n [a0, a1] G Q := by
  have e : seed_Secret.S a0 a1 G Q = awp cx (seed_Secret.body) seed_Secret.an (bodyQ T [.cell 4 23, .tmp 5] Q) (envL [a0, a1]) G := by kernel_rfl
  exact ACalls_of_awp cxOk (f := seed_Secret.n) (fn := Tryz.f83) (c := seed_Secret.body) (an := seed_Secret.an) Tryz.func83 (by kernel_rfl) (by kernel_rfl) (by kernel_rfl) (drawsOk_of (by kernel_rfl) (by kernel_rfl)) (by simp [Tryz.f83]) (e ▸ h)

/-! #### escrow/dance.own -/
def dance_own.S (a0 a1 a2 a3 : AVal) (G : Heap) (Q : AVal → Heap → Prop) : Prop :=
  aNew G (.own (a0)) fun i1 G2 => aNew G2 (.own (a1)) fun i3 G4 => aNew G4 (.own (a3)) fun i5 G6 => wv (vload T G6 t_api_Hash (.ptr i1 [3] 3)) fun v7 => ACalls P seed_Secret.n [v7, a2] G6 fun v8 G9 => wv (vextract v8 0) fun v10 => wv (vextract v8 1) fun v11 => aNew G9 (.own (z_api_Hash)) fun i12 G13 => wg (vstore T G13 t_api_Hash (.ptr i12 [] 0) v10) fun G14 => wv (vbin T .neq t_api_Errno v11 (.int .i64 0)) fun v15 => brB (some v15)
  (Q (.tuple [.str [], .bool false]) G14)
  (wv (vload T G14 t_int64 (.ptr i3 [2] 2)) fun v16 => wv (vload T G14 t_int64 (.ptr i3 [3] 3)) fun v17 => wv (vload T G14 t_sl_api_Update (.ptr i3 [4] 4)) fun v18 => wv (vload T G14 t_sl_api_Update (.ptr i3 [5] 5)) fun v19 => wv (vload T G14 t_api_Counts (.ptr i5 [] 0)) fun v20 => ACalls P ledger_Fold.n [v16, v17, v18, v19, v20] G14 fun v21 G22 => wv (vextract v21 0) fun v23 => wv (vextract v21 1) fun v24 => aNew G22 (.own (z_api_Ledger)) fun i25 G26 => wg (vstore T G26 t_api_Ledger (.ptr i25 [] 0) v23) fun G27 => wv (vbin T .neq t_api_Errno v24 (.int .i64 0)) fun v28 => brB (some v28)
  (Q (.tuple [.str [], .bool false]) G27)
  (wv (vload T G27 t_int (.ptr i3 [0] 0)) fun v29 => wv (vload T G27 t_api_Hash (.ptr i12 [] 0)) fun v30 => wv (vload T G27 t_api_Ledger (.ptr i25 [] 0)) fun v31 => ACalls P seed_Point.n [v30] G27 fun v32 G33 => (vload T G33 t_api_Ledger (.ptr i25 [] 0) = some v31 ∧ vload T G33 t_int (.ptr i3 [0] 0) = some v29 ∧ True) ∧ (ACalls P commit_Text.n [v29, a2, v32, v31] G33 fun v34 G35 => wv (vextract v34 0) fun v36 => wv (vextract v34 1) fun v37 => wv (vbin T .eql t_api_Errno v37 (.int .i64 0)) fun v38 => Q (.tuple [v36, v38]) G35)))
def dance_own.an : Ann := .two (.nil) (.two (.nil) (.two (.nil) (.two (.nil) (.two (.nil) (.two (.ord [(0, []), (1, []), (2, []), (3, []), (5, []), (4, [1, 5]), (6, []), (7, []), (8, []), (9, []), (10, []), (11, [])]) (.nil))))))
set_option maxRecDepth 100000 in
theorem dance_own.sound {a0 a1 a2 a3 : AVal} {G : Heap} {Q : AVal → Heap → Prop} (h : dance_own.S a0 a1 a2 a3 G Q) : ACalls P dance_own.n [a0, a1, a2, a3] G Q := by
  have e : dance_own.S a0 a1 a2 a3 G Q = awp cx (dance_own.body) dance_own.an (bodyQ T [.tmp 8, .tmp 9] Q) (envL [a0, a1, a2, a3]) G := by kernel_rfl
  exact ACalls_of_awp cxOk (f := dance_own.n) (fn := Tryz.f80) (c := dance_own.body) (an := dance_own.an) Tryz.func80 (by kernel_rfl) (by kernel_rfl) (by kernel_rfl) (drawsOk_of (by kernel_rfl) (by kernel_rfl)) (by simp [Tryz.f80]) (e ▸ h)

/-! #### escrow/hash.over -/
def hash_over.S (a0 a1 : AVal) (G : Heap) (Q : AVal → Heap → Prop) : Prop :=
  aNew G (.own (a0)) fun i1 G2 => aNew G2 (.own (z_ar64_uint8)) fun i3 G4 => wv (vslice T t_ar64_uint8 (.ptr i3 [] 0) none none none) fun v5 => wv (vslice T t_api_Hash (.ptr i1 [] 0) none none none) fun v6 => aCopy T G4 t_sl_uint8 v5 v6 fun v7 G8 => ∀ R9 : List AVal → Heap → Prop,
  (∀ (x11 x12 x13 : AVal) (G10 : Heap), (wv (vbin T .lss t_int x13 (.int .i64 64)) fun v14 => brB (some v14)
  (wv (viaddr T t_ar64_uint8 x12 x13) fun v15 => wv (vload T G10 t_uint8 v15) fun v16 => wv (vbin T .xor t_uint8 v16 x11) fun v17 => wv (viaddr T t_ar64_uint8 x12 x13) fun v18 => wg (vstore T G10 t_uint8 v18 v17) fun G19 => wv (vbin T .add t_int x13 (.int .i64 1)) fun v20 => R9 [x11, x12, v20] G19)
  (wv (vslice T t_ar64_uint8 x12 none none none) fun v21 => wv (vconv T G10 t_sl_uint8 t_string v21) fun v22 => Q v22 G10)) → R9 [x11, x12, x13] G10) →
  R9 [a1, .ptr i3 [] 0, .int .i64 0] G8
def hash_over.an : Ann := .two (.nil) (.two (.nil) (.two (.ord [(0, []), (1, []), (2, [])]) (.two (.two (.nil) (.loop [1, 5, 10] (.nil))) (.nil))))
set_option maxRecDepth 100000 in
theorem hash_over.sound {a0 a1 : AVal} {G : Heap} {Q : AVal → Heap → Prop} (h : hash_over.S a0 a1 G Q) : ACalls P hash_over.n [a0, a1] G Q := by
  have e : hash_over.S a0 a1 G Q = awp cx (hash_over.body) hash_over.an (bodyQ T [.tmp 4] Q) (envL [a0, a1]) G := by kernel_rfl
  exact ACalls_of_awp cxOk (f := hash_over.n) (fn := Tryz.f170) (c := hash_over.body) (an := hash_over.an) Tryz.func170 (by kernel_rfl) (by kernel_rfl) (by kernel_rfl) (drawsOk_of (by kernel_rfl) (by kernel_rfl)) (by simp [Tryz.f170]) (e ▸ h)

/-! #### escrow/hash.Mac -/
def hash_Mac.S (a0 a1 : AVal) (G : Heap) (Q : AVal → Heap → Prop) : Prop :=
  aNew G (.own (a0)) fun i1 G2 => aNew G2 (.own (z_api_Hash)) fun i3 G4 => wv (vload T G4 t_api_Hash (.ptr i1 [] 0)) fun v5 => ACalls P hash_over.n [v5, .int .u8 54] G4 fun v6 G7 => aBuildSlice T t_sl_string 2 [(0, v6), (1, a1)] G7 fun v8 G9 => ACalls P hash_Sum.n [v8] G9 fun v10 G11 => aNew G11 (.own (z_api_Hash)) fun i12 G13 => wg (vstore T G13 t_api_Hash (.ptr i12 [] 0) v10) fun G14 => wv (vload T G14 t_api_Hash (.ptr i1 [] 0)) fun v15 => wv (vslice T t_api_Hash (.ptr i12 [] 0) none none none) fun v16 => wv (vconv T G14 t_sl_uint8 t_string v16) fun v17 => ACalls P hash_over.n [v15, .int .u8 92] G14 fun v18 G19 => (vconv T G19 t_sl_uint8 t_string v16 = some v17 ∧ True) ∧ (aBuildSlice T t_sl_string 2 [(0, v18), (1, v17)] G19 fun v20 G21 => ACalls P hash_Sum.n [v20] G21 fun v22 G23 => wg (vstore T G23 t_api_Hash (.ptr i3 [] 0) v22) fun G24 => wv (vload T G24 t_api_Hash (.ptr i3 [] 0)) fun v25 => Q v25 G24)
def hash_Mac.an : Ann := .two (.nil) (.two (.nil) (.two (.ord [(0, []), (2, []), (3, []), (1, [3]), (4, []), (5, []), (6, [])]) (.nil)))
set_option maxRecDepth 100000 in
theorem hash_Mac.sound {a0 a1 : AVal} {G : Heap} {Q : AVal → Heap → Prop} (h : hash_Mac.S a0 a1 G Q) : ACalls P hash_Mac.n [a0, a1] G Q := by
  have e : hash_Mac.S a0 a1 G Q = awp cx (hash_Mac.body) hash_Mac.an (bodyQ T [.cell 4 23] Q) (envL [a0, a1]) G := by kernel_rfl
  exact ACalls_of_awp cxOk (f := hash_Mac.n) (fn := Tryz.f134) (c := hash_Mac.body) (an := hash_Mac.an) Tryz.func134 (by kernel_rfl) (by kernel_rfl) (by kernel_rfl) (drawsOk_of (by kernel_rfl) (by kernel_rfl)) (by simp [Tryz.f134]) (e ▸ h)

/-! #### escrow/seal.Sign -/
def seal_Sign.S (a0 a1 : AVal) (G : Heap) (Q : AVal → Heap → Prop) : Prop :=
  aNew G (.own (a0)) fun i1 G2 => aNew G2 (.own (z_api_Hash)) fun i3 G4 => wv (vload T G4 t_api_Hash (.ptr i1 [] 0)) fun v5 => ACalls P hash_Mac.n [v5, a1] G4 fun v6 G7 => wg (vstore T G7 t_api_Hash (.ptr i3 [] 0) v6) fun G8 => wv (vload T G8 t_api_Hash (.ptr i3 [] 0)) fun v9 => Q v9 G8
def seal_Sign.an : Ann := .nil
set_option maxRecDepth 100000 in
theorem seal_Sign.sound {a0 a1 : AVal} {G : Heap} {Q : AVal → Heap → Prop} (h : seal_Sign.S a0 a1 G Q) : ACalls P seal_Sign.n [a0, a1] G Q := by
  have e : seal_Sign.S a0 a1 G Q = awp cx (seal_Sign.body) seal_Sign.an (bodyQ T [.cell 4 23] Q) (envL [a0, a1]) G := by kernel_rfl
  exact ACalls_of_awp cxOk (f := seal_Sign.n) (fn := Tryz.f75) (c := seal_Sign.body) (an := seal_Sign.an) Tryz.func75 (by kernel_rfl) (by kernel_rfl) (by kernel_rfl) (drawsOk_of (by kernel_rfl) (by kernel_rfl)) (by simp [Tryz.f75]) (e ▸ h)

/-! #### escrow/seal.Right -/
def seal_Right.S (a0 a1 a2 : AVal) (G : Heap) (Q : AVal → Heap → Prop) : Prop :=
  aNew G (.own (a0)) fun i1 G2 => aNew G2 (.own (a2)) fun i3 G4 => wv (vload T G4 t_api_Hash (.ptr i1 [] 0)) fun v5 => wv (vload T G4 t_api_Hash (.ptr i3 [] 0)) fun v6 => ACalls P seal_Sign.n [v5, a1] G4 fun v7 G8 => (vload T G8 t_api_Hash (.ptr i3 [] 0) = some v6 ∧ True) ∧ (wv (vbin T .eql t_api_Hash v7 v6) fun v9 => Q v9 G8)
def seal_Right.an : Ann := .two (.nil) (.two (.ord [(0, []), (1, []), (3, []), (2, [3]), (4, []), (5, [])]) (.nil))
set_option maxRecDepth 100000 in
theorem seal_Right.sound {a0 a1 a2 : AVal} {G : Heap} {Q : AVal → Heap → Prop} (h : seal_Right.S a0 a1 a2 G Q) : ACalls P seal_Right.n [a0, a1, a2] G Q := by
  have e : seal_Right.S a0 a1 a2 G Q = awp cx (seal_Right.body) seal_Right.an (bodyQ T [.tmp 6] Q) (envL [a0, a1, a2]) G := by kernel_rfl
  exact ACalls_of_awp cxOk (f := seal_Right.n) (fn := Tryz.f81) (c := seal_Right.body) (an := seal_Right.an) Tryz.func81 (by kernel_rfl) (by kernel_rfl) (by kernel_rfl) (drawsOk_of (by kernel_rfl) (by kernel_rfl)) (by simp [Tryz.f81]) (e ▸ h)

/-! #### slices.Clone[[]escrow/api.Update,escrow/api.Update] -/
def slices_Clone_escrow_api_Update_escrow_api_Update.S (a0 : AVal) (G : Heap) (Q : AVal → Heap → Prop) : Prop :=
  wv (vbin T .eql t_sl_api_Update a0 (.nilSlice)) fun v1 => brB (some v1)
  (Q (.nilSlice) G)
  (aBuildSlice T t_sl_api_Update 0 [] G fun v2 G3 => aAppend T G3 t_sl_api_Update t_sl_api_Update v2 a0 fun v4 G5 => Q v4 G5)
def slices_Clone_escrow_api_Update_escrow_api_Update.an : Ann := .nil
set_option maxRecDepth 100000 in
theorem slices_Clone_escrow_api_Update_escrow_api_Update.sound {a0 : AVal} {G : Heap} {Q : AVal → Heap → Prop} (h : slices_Clone_escrow_api_Update_escrow_api_Update.S a0 G Q) : ACalls P slices_Clone_escrow_api_Update_escrow_api_Update.n [a0] G Q := by
  have e : slices_Clone_escrow_api_Update_escrow_api_Update.S a0 G Q = awp cx (slices_Clone_escrow_api_Update_escrow_api_Update.body) slices_Clone_escrow_api_Update_escrow_api_Update.an (bodyQ T [.tmp 2] Q) (envL [a0]) G := by kernel_rfl
  exact ACalls_of_awp cxOk (f := slices_Clone_escrow_api_Update_escrow_api_Update.n) (fn := Tryz.f82) (c := slices_Clone_escrow_api_Update_escrow_api_Update.body) (an := slices_Clone_escrow_api_Update_escrow_api_Update.an) Tryz.func82 (by kernel_rfl) (by kernel_rfl) (by kernel_rfl) (drawsOk_of (by kernel_rfl) (by kernel_rfl)) (by simp [Tryz.f82]) (e ▸ h)

end Go.Esc.M
