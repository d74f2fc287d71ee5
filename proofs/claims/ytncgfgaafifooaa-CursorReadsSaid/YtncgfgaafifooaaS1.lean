/- Printed by gen.py (own work): functions of the program Ytncgfgaafifooaa over trees and the abstract heap. -/
import Derived.Test.YtncgfgaafifooaaT
set_option linter.unusedSimpArgs false
set_option linter.unusedVariables false
namespace Go.Esc.M
open Go Go.Esc Go.Proofs

/-! #### escrow/escrowlaw03.CursorWrites -/
def escrowlaw03_CursorWrites.S (a0 : AVal) (G : Heap) (Q : AVal → Heap → Prop) : Prop :=
  ACalls P escrowlaw03_head.n [] G fun v1 G2 => wv (vun .not v1) fun v3 => brB (some v3)
  (Q (.bool false) G2)
  (ACalls P cursor_New.n [] G2 fun v4 G5 => ACalls P cursor_New.n [] G5 fun v6 G7 => wv (vbuild T t_ar2_cursor_Writer [(0, v4), (1, v6)]) fun v8 => aNew G7 (.own (z_ar2_cursor_Writer)) fun i9 G10 => wg (vstore T G10 t_ar2_cursor_Writer (.ptr i9 [] 0) v8) fun G11 => ACalls P escrowref03_New.n [] G11 fun v12 G13 => ACalls P escrowref03_New.n [] G13 fun v14 G15 => wv (vbuild T t_ar2_escrowref03_Writer [(0, v12), (1, v14)]) fun v16 => aNew G15 (.own (z_ar2_escrowref03_Writer)) fun i17 G18 => wg (vstore T G18 t_ar2_escrowref03_Writer (.ptr i17 [] 0) v16) fun G19 => let J93 : AVal → Heap → Prop := (fun x27 G26 => brB (some x27)
  (Q (.bool false) G26)
  (∀ R28 : List AVal → Heap → Prop,
  (∀ (x30 x31 x32 x33 : AVal) (G29 : Heap), (wv (vlen T G29 t_sl_escrowlaw03_Op x30) fun v34 => wv (vbin T .lss t_int x33 v34) fun v35 => brB (some v35)
  (wv (viaddr T t_sl_escrowlaw03_Op x30 x33) fun v36 => wv (vfaddr T t_escrowlaw03_Op v36 0) fun v37 => wv (vload T G29 t_bool v37) fun v38 => let J91 : AVal → Heap → Prop := (fun x40 G39 => wv (viaddr T t_ar2_cursor_Writer x31 x40) fun v41 => wv (vload T G39 t_pt_cursor_Writer v41) fun v42 => wv (viaddr T t_sl_escrowlaw03_Op x30 x33) fun v43 => wv (vfaddr T t_escrowlaw03_Op v43 1) fun v44 => wv (vload T G39 t_escrowlaw03_Val v44) fun v45 => ACalls P escrowlaw03_lays.n [v42, v45] G39 fun v46 G47 => wv (viaddr T t_ar2_escrowref03_Writer x32 x40) fun v48 => wv (vload T G47 t_pt_escrowref03_Writer v48) fun v49 => wv (viaddr T t_sl_escrowlaw03_Op x30 x33) fun v50 => wv (vfaddr T t_escrowlaw03_Op v50 1) fun v51 => wv (vload T G47 t_escrowlaw03_Val v51) fun v52 => ACalls P escrowlaw03_wants.n [v49, v52] G47 fun v53 G54 => ∀ R55 : List AVal → Heap → Prop,
  (∀ (x57 x58 x59 x60 x61 : AVal) (G56 : Heap), (wv (vbin T .lss t_int x61 (.int .i64 2)) fun v62 => brB (some v62)
  (wv (viaddr T t_ar2_cursor_Writer x58 x61) fun v63 => wv (vload T G56 t_pt_cursor_Writer v63) fun v64 => ACalls P cursor_Writer_Out.n [v64] G56 fun v65 G66 => wv (vextract v65 0) fun v67 => wv (vextract v65 1) fun v68 => wv (viaddr T t_ar2_escrowref03_Writer x59 x61) fun v69 => wv (vload T G66 t_pt_escrowref03_Writer v69) fun v70 => ACalls P escrowref03_Writer_Out.n [v70] G66 fun v71 G72 => wv (vextract v71 0) fun v73 => wv (vextract v71 1) fun v74 => wv (vbin T .neq t_string v67 v73) fun v75 => brB (some v75)
  (Q (.bool false) G72)
  (wv (vbin T .neq t_api_Errno v68 v74) fun v76 => brB (some v76)
  (Q (.bool false) G72)
  (wv (viaddr T t_ar2_cursor_Writer x58 x61) fun v77 => wv (vload T G72 t_pt_cursor_Writer v77) fun v78 => wv (viaddr T t_ar2_escrowref03_Writer x59 x61) fun v79 => wv (vload T G72 t_pt_escrowref03_Writer v79) fun v80 => ACalls P cursor_Writer_Len.n [v78] G72 fun v81 G82 => (vload T G82 t_pt_escrowref03_Writer v79 = some v80 ∧ True) ∧ (ACalls P escrowref03_Writer_Len.n [v80] G82 fun v83 G84 => wv (vbin T .neq t_int v81 v83) fun v85 => brB (some v85)
  (Q (.bool false) G84)
  (wv (vbin T .add t_int x61 (.int .i64 1)) fun v90 => R55 [x57, x58, x59, x60, v90] G84)))))
  (wv (vbin T .add t_int x60 (.int .i64 1)) fun v92 => R28 [x57, x58, x59, v92] G56)) → R55 [x57, x58, x59, x60, x61] G56) →
  R55 [x30, x31, x32, x33, .int .i64 0] G54);
  brB (some v38)
  (J91 (.int .i64 1) G29)
  (J91 (.int .i64 0) G29))
  (Q (.bool true) G29)) → R28 [x30, x31, x32, x33] G29) →
  R28 [a0, .ptr i9 [] 0, .ptr i17 [] 0, .int .i64 0] G26));
  wv (viaddr T t_ar2_cursor_Writer (.ptr i9 [] 0) (.int .i64 0)) fun v20 => wv (vload T G19 t_pt_cursor_Writer v20) fun v21 => wv (vbin T .eql t_pt_cursor_Writer v21 (.nilPtr)) fun v22 => brB (some v22)
  (J93 (.bool true) G19)
  (wv (viaddr T t_ar2_cursor_Writer (.ptr i9 [] 0) (.int .i64 1)) fun v23 => wv (vload T G19 t_pt_cursor_Writer v23) fun v24 => wv (vbin T .eql t_pt_cursor_Writer v24 (.nilPtr)) fun v25 => J93 v25 G19))
def escrowlaw03_CursorWrites.an : Ann := .two (.nil) (.two (.nil) (.two (.nil) (.two (.nil) (.two (.nil) (.two (.two (.nil) (.loop [0, 3, 4, 5] (.two (.nil) (.two (.two (.nil) (.two (.nil) (.two (.ord [(0, []), (1, []), (2, []), (3, []), (4, []), (5, []), (6, []), (7, []), (8, [])]) (.two (.ord [(0, []), (1, []), (2, []), (3, []), (4, []), (5, []), (6, []), (7, []), (8, [])]) (.two (.nil) (.loop [0, 3, 4, 5, 7] (.two (.nil) (.two (.two (.nil) (.two (.nil) (.two (.ord [(0, []), (1, []), (2, []), (3, []), (4, []), (5, []), (6, []), (7, []), (8, []), (9, []), (10, []), (11, []), (13, []), (14, []), (15, []), (12, [15]), (16, []), (17, []), (18, [])]) (.nil)))) (.nil))))))))) (.nil))))) (.nil))))))
set_option maxRecDepth 100000 in
theorem escrowlaw03_CursorWrites.sound {a0 : AVal} {G : Heap} {Q : AVal → Heap → Prop} (h : escrowlaw03_CursorWrites.S a0 G Q) : ACalls P escrowlaw03_CursorWrites.n [a0] G Q := by
  have e : escrowlaw03_CursorWrites.S a0 G Q = awp cx (escrowlaw03_CursorWrites.body) escrowlaw03_CursorWrites.an (bodyQ T [.tmp 2] Q) (envL [a0]) G := by kernel_rfl
  exact ACalls_of_awp cxOk (f := escrowlaw03_CursorWrites.n) (fn := Try.f3) (c := escrowlaw03_CursorWrites.body) (an := escrowlaw03_CursorWrites.an) Try.func3 (by kernel_rfl) (by kernel_rfl) (by kernel_rfl) (drawsOk_of (by kernel_rfl) (by kernel_rfl)) (by simp [Try.f3]) (e ▸ h)

/-! #### escrow/cursor.value[uint32] -/
def cursor_value_uint32.S (a0 : AVal) (G : Heap) (Q : AVal → Heap → Prop) : Prop :=
  wv (vlen T G t_string a0) fun v1 => ∀ R2 : List AVal → Heap → Prop,
  (∀ (x4 x5 x6 x7 : AVal) (G3 : Heap), (wv (vbin T .lss t_int x7 x6) fun v8 => brB (some v8)
  (wv (vbin T .shl t_uint64 x5 (.int .u64 8)) fun v9 => wv (vindex T t_string x4 x7) fun v10 => wv (vconv T G3 t_uint8 t_uint64 v10) fun v11 => wv (vbin T .or t_uint64 v9 v11) fun v12 => wv (vbin T .add t_int x7 (.int .i64 1)) fun v13 => R2 [x4, v12, x6, v13] G3)
  (wv (vconv T G3 t_uint64 t_uint32 x5) fun v14 => Q v14 G3)) → R2 [x4, x5, x6, x7] G3) →
  R2 [a0, .int .u64 0, v1, .int .i64 0] G
def cursor_value_uint32.an : Ann := .two (.nil) (.two (.nil) (.two (.two (.nil) (.loop [0, 3, 6, 7] (.nil))) (.nil)))
set_option maxRecDepth 100000 in
theorem cursor_value_uint32.sound {a0 : AVal} {G : Heap} {Q : AVal → Heap → Prop} (h : cursor_value_uint32.S a0 G Q) : ACalls P cursor_value_uint32.n [a0] G Q := by
  have e : cursor_value_uint32.S a0 G Q = awp cx (cursor_value_uint32.body) cursor_value_uint32.an (bodyQ T [.tmp 2] Q) (envL [a0]) G := by kernel_rfl
  exact ACalls_of_awp cxOk (f := cursor_value_uint32.n) (fn := Try.f51) (c := cursor_value_uint32.body) (an := cursor_value_uint32.an) Try.func51 (by kernel_rfl) (by kernel_rfl) (by kernel_rfl) (drawsOk_of (by kernel_rfl) (by kernel_rfl)) (by simp [Try.f51]) (e ▸ h)

/-! #### (*escrow/cursor.Reader).U32 -/
def cursor_Reader_U32.S (a0 : AVal) (G : Heap) (Q : AVal → Heap → Prop) : Prop :=
  ACalls P cursor_Reader_take.n [a0, .int .i64 4] G fun v1 G2 => ACalls P cursor_value_uint32.n [v1] G2 fun v3 G4 => Q v3 G4
def cursor_Reader_U32.an : Ann := .nil
set_option maxRecDepth 100000 in
theorem cursor_Reader_U32.sound {a0 : AVal} {G : Heap} {Q : AVal → Heap → Prop} (h : cursor_Reader_U32.S a0 G Q) : ACalls P cursor_Reader_U32.n [a0] G Q := by
  have e : cursor_Reader_U32.S a0 G Q = awp cx (cursor_Reader_U32.body) cursor_Reader_U32.an (bodyQ T [.tmp 2] Q) (envL [a0]) G := by kernel_rfl
  exact ACalls_of_awp cxOk (f := cursor_Reader_U32.n) (fn := Try.f22) (c := cursor_Reader_U32.body) (an := cursor_Reader_U32.an) Try.func22 (by kernel_rfl) (by kernel_rfl) (by kernel_rfl) (drawsOk_of (by kernel_rfl) (by kernel_rfl)) (by simp [Try.f22]) (e ▸ h)

/-! #### escrow/cursor.value[uint8] -/
def cursor_value_uint8.S (a0 : AVal) (G : Heap) (Q : AVal → Heap → Prop) : Prop :=
  wv (vlen T G t_string a0) fun v1 => ∀ R2 : List AVal → Heap → Prop,
  (∀ (x4 x5 x6 x7 : AVal) (G3 : Heap), (wv (vbin T .lss t_int x7 x6) fun v8 => brB (some v8)
  (wv (vbin T .shl t_uint64 x5 (.int .u64 8)) fun v9 => wv (vindex T t_string x4 x7) fun v10 => wv (vconv T G3 t_uint8 t_uint64 v10) fun v11 => wv (vbin T .or t_uint64 v9 v11) fun v12 => wv (vbin T .add t_int x7 (.int .i64 1)) fun v13 => R2 [x4, v12, x6, v13] G3)
  (wv (vconv T G3 t_uint64 t_uint8 x5) fun v14 => Q v14 G3)) → R2 [x4, x5, x6, x7] G3) →
  R2 [a0, .int .u64 0, v1, .int .i64 0] G
def cursor_value_uint8.an : Ann := .two (.nil) (.two (.nil) (.two (.two (.nil) (.loop [0, 3, 6, 7] (.nil))) (.nil)))
set_option maxRecDepth 100000 in
theorem cursor_value_uint8.sound {a0 : AVal} {G : Heap} {Q : AVal → Heap → Prop} (h : cursor_value_uint8.S a0 G Q) : ACalls P cursor_value_uint8.n [a0] G Q := by
  have e : cursor_value_uint8.S a0 G Q = awp cx (cursor_value_uint8.body) cursor_value_uint8.an (bodyQ T [.tmp 2] Q) (envL [a0]) G := by kernel_rfl
  exact ACalls_of_awp cxOk (f := cursor_value_uint8.n) (fn := Try.f54) (c := cursor_value_uint8.body) (an := cursor_value_uint8.an) Try.func54 (by kernel_rfl) (by kernel_rfl) (by kernel_rfl) (drawsOk_of (by kernel_rfl) (by kernel_rfl)) (by simp [Try.f54]) (e ▸ h)

/-! #### (*escrow/cursor.Reader).U8 -/
def cursor_Reader_U8.S (a0 : AVal) (G : Heap) (Q : AVal → Heap → Prop) : Prop :=
  ACalls P cursor_Reader_take.n [a0, .int .i64 1] G fun v1 G2 => ACalls P cursor_value_uint8.n [v1] G2 fun v3 G4 => Q v3 G4
def cursor_Reader_U8.an : Ann := .nil
set_option maxRecDepth 100000 in
theorem cursor_Reader_U8.sound {a0 : AVal} {G : Heap} {Q : AVal → Heap → Prop} (h : cursor_Reader_U8.S a0 G Q) : ACalls P cursor_Reader_U8.n [a0] G Q := by
  have e : cursor_Reader_U8.S a0 G Q = awp cx (cursor_Reader_U8.body) cursor_Reader_U8.an (bodyQ T [.tmp 2] Q) (envL [a0]) G := by kernel_rfl
  exact ACalls_of_awp cxOk (f := cursor_Reader_U8.n) (fn := Try.f24) (c := cursor_Reader_U8.body) (an := cursor_Reader_U8.an) Try.func24 (by kernel_rfl) (by kernel_rfl) (by kernel_rfl) (drawsOk_of (by kernel_rfl) (by kernel_rfl)) (by simp [Try.f24]) (e ▸ h)

/-! #### escrow/cursor.value[uint64] -/
def cursor_value_uint64.S (a0 : AVal) (G : Heap) (Q : AVal → Heap → Prop) : Prop :=
  wv (vlen T G t_string a0) fun v1 => ∀ R2 : List AVal → Heap → Prop,
  (∀ (x4 x5 x6 x7 : AVal) (G3 : Heap), (wv (vbin T .lss t_int x7 x6) fun v8 => brB (some v8)
  (wv (vbin T .shl t_uint64 x5 (.int .u64 8)) fun v9 => wv (vindex T t_string x4 x7) fun v10 => wv (vconv T G3 t_uint8 t_uint64 v10) fun v11 => wv (vbin T .or t_uint64 v9 v11) fun v12 => wv (vbin T .add t_int x7 (.int .i64 1)) fun v13 => R2 [x4, v12, x6, v13] G3)
  (Q x5 G3)) → R2 [x4, x5, x6, x7] G3) →
  R2 [a0, .int .u64 0, v1, .int .i64 0] G
def cursor_value_uint64.an : Ann := .two (.nil) (.two (.nil) (.two (.two (.nil) (.loop [0, 3, 6, 7] (.nil))) (.nil)))
set_option maxRecDepth 100000 in
theorem cursor_value_uint64.sound {a0 : AVal} {G : Heap} {Q : AVal → Heap → Prop} (h : cursor_value_uint64.S a0 G Q) : ACalls P cursor_value_uint64.n [a0] G Q := by
  have e : cursor_value_uint64.S a0 G Q = awp cx (cursor_value_uint64.body) cursor_value_uint64.an (bodyQ T [.tmp 2] Q) (envL [a0]) G := by kernel_rfl
  exact ACalls_of_awp cxOk (f := cursor_value_uint64.n) (fn := Try.f55) (c := cursor_value_uint64.body) (an := cursor_value_uint64.an) Try.func55 (by kernel_rfl) (by kernel_rfl) (by kernel_rfl) (drawsOk_of (by kernel_rfl) (by kernel_rfl)) (by simp [Try.f55]) (e ▸ h)

/-! #### (*escrow/cursor.Reader).I64 -/
def cursor_Reader_I64.S (a0 : AVal) (G : Heap) (Q : AVal → Heap → Prop) : Prop :=
  ACalls P cursor_Reader_take.n [a0, .int .i64 8] G fun v1 G2 => ACalls P cursor_value_uint64.n [v1] G2 fun v3 G4 => wv (vconv T G4 t_uint64 t_int64 v3) fun v5 => Q v5 G4
def cursor_Reader_I64.an : Ann := .nil
set_option maxRecDepth 100000 in
theorem cursor_Reader_I64.sound {a0 : AVal} {G : Heap} {Q : AVal → Heap → Prop} (h : cursor_Reader_I64.S a0 G Q) : ACalls P cursor_Reader_I64.n [a0] G Q := by
  have e : cursor_Reader_I64.S a0 G Q = awp cx (cursor_Reader_I64.body) cursor_Reader_I64.an (bodyQ T [.tmp 2] Q) (envL [a0]) G := by kernel_rfl
  exact ACalls_of_awp cxOk (f := cursor_Reader_I64.n) (fn := Try.f25) (c := cursor_Reader_I64.body) (an := cursor_Reader_I64.an) Try.func25 (by kernel_rfl) (by kernel_rfl) (by kernel_rfl) (drawsOk_of (by kernel_rfl) (by kernel_rfl)) (by simp [Try.f25]) (e ▸ h)

/-! #### escrow/escrowlaw03.CursorHalves -/
def escrowlaw03_CursorHalves.S (a0 a1 : AVal) (G : Heap) (Q : AVal → Heap → Prop) : Prop :=
  ACalls P escrowlaw03_head.n [] G fun v1 G2 => wv (vun .not v1) fun v3 => brB (some v3)
  (Q (.bool false) G2)
  (∀ R4 : List AVal → Heap → Prop,
  (∀ (x6 x7 x8 x9 : AVal) (G5 : Heap), (wv (vbin T .lss t_int x9 (.int .i64 5)) fun v10 => brB (some v10)
  (ACalls P cursor_New.n [] G5 fun v11 G12 => wv (vbin T .eql t_pt_cursor_Writer v11 (.nilPtr)) fun v13 => brB (some v13)
  (Q (.bool false) G12)
  (ACalls P cursor_Writer_Raw.n [v11, x7] G12 fun v14 G15 => let J122 : AVal → AVal → AVal → AVal → AVal → Heap → Prop := (fun x96 x97 x98 x99 x100 G95 => ACalls P cursor_Writer_Out.n [x100] G95 fun v101 G102 => wv (vextract v101 0) fun v103 => wv (vextract v101 1) fun v104 => let J121 : AVal → Heap → Prop := (fun x114 G113 => brB (some x114)
  (Q (.bool false) G113)
  (wv (vlen T G113 t_string x97) fun v115 => wv (vslice T t_string v103 (some (v115)) none none) fun v116 => aBuildSlice T t_sl_string 1 [(0, v116)] G113 fun v117 G118 => aAppend T G118 t_sl_string t_sl_string x98 v117 fun v119 G120 => wv (vbin T .add t_int x99 (.int .i64 1)) fun v123 => R4 [x96, x97, v119, v123] G120));
  wv (vbin T .neq t_api_Errno v104 (.int .i64 0)) fun v105 => brB (some v105)
  (J121 (.bool true) G102)
  (wv (vlen T G102 t_string v103) fun v106 => wv (vlen T G102 t_string x97) fun v107 => wv (vbin T .add t_int v107 (.int .i64 8)) fun v108 => wv (vbin T .neq t_int v106 v108) fun v109 => brB (some v109)
  (J121 (.bool true) G102)
  (wv (vlen T G102 t_string x97) fun v110 => wv (vslice T t_string v103 none (some (v110)) none) fun v111 => wv (vbin T .neq t_string v111 x97) fun v112 => J121 v112 G102)));
  wv (vbin T .eql t_int x9 (.int .i64 0)) fun v16 => brB (some v16)
  (ACalls P cursor_Writer_U64.n [v11, x6] G15 fun v17 G18 => J122 x6 x7 x8 x9 v11 G18)
  (wv (vbin T .eql t_int x9 (.int .i64 1)) fun v19 => brB (some v19)
  (wv (vconv T G15 t_uint64 t_int64 x6) fun v20 => ACalls P cursor_Writer_I64.n [v11, v20] G15 fun v21 G22 => J122 x6 x7 x8 x9 v11 G22)
  (wv (vbin T .eql t_int x9 (.int .i64 2)) fun v23 => brB (some v23)
  (wv (vbin T .shr t_uint64 x6 (.int .u64 32)) fun v24 => wv (vconv T G15 t_uint64 t_uint32 v24) fun v25 => ACalls P cursor_Writer_U32.n [v11, v25] G15 fun v26 G27 => wv (vconv T G27 t_uint64 t_uint32 x6) fun v28 => ACalls P cursor_Writer_U32.n [v11, v28] G27 fun v29 G30 => J122 x6 x7 x8 x9 v11 G30)
  (wv (vbin T .eql t_int x9 (.int .i64 3)) fun v31 => brB (some v31)
  (∀ R32 : List AVal → Heap → Prop,
  (∀ (x34 x35 x36 x37 x38 x39 : AVal) (G33 : Heap), (wv (vbin T .geq t_int x39 (.int .i64 0)) fun v40 => brB (some v40)
  (wv (vconv T G33 t_int t_uint x39) fun v41 => wv (vbin T .mul t_uint (.int .u64 16) v41) fun v42 => wv (vbin T .shr t_uint64 x34 v42) fun v43 => wv (vconv T G33 t_uint64 t_uint16 v43) fun v44 => ACalls P cursor_Writer_U16.n [x38, v44] G33 fun v45 G46 => wv (vbin T .sub t_int x39 (.int .i64 1)) fun v47 => R32 [x34, x35, x36, x37, x38, v47] G46)
  (J122 x34 x35 x36 x37 x38 G33)) → R32 [x34, x35, x36, x37, x38, x39] G33) →
  R32 [x6, x7, x8, x9, v11, .int .i64 3] G15)
  (wv (vbin T .eql t_int x9 (.int .i64 4)) fun v48 => brB (some v48)
  (∀ R49 : List AVal → Heap → Prop,
  (∀ (x51 x52 x53 x54 x55 x56 : AVal) (G50 : Heap), (wv (vbin T .geq t_int x56 (.int .i64 0)) fun v57 => brB (some v57)
  (wv (vconv T G50 t_int t_uint x56) fun v58 => wv (vbin T .mul t_uint (.int .u64 8) v58) fun v59 => wv (vbin T .shr t_uint64 x51 v59) fun v60 => wv (vconv T G50 t_uint64 t_uint8 v60) fun v61 => ACalls P cursor_Writer_U8.n [x55, v61] G50 fun v62 G63 => wv (vbin T .sub t_int x56 (.int .i64 1)) fun v64 => R49 [x51, x52, x53, x54, x55, v64] G63)
  (J122 x51 x52 x53 x54 x55 G50)) → R49 [x51, x52, x53, x54, x55, x56] G50) →
  R49 [x6, x7, x8, x9, v11, .int .i64 7] G15)
  (J122 x6 x7 x8 x9 v11 G15)))))))
  (∀ R124 : List AVal → Heap → Prop,
  (∀ (x126 x127 x128 : AVal) (G125 : Heap), (wv (vlen T G125 t_sl_string x127) fun v129 => wv (vbin T .lss t_int x128 v129) fun v130 => brB (some v130)
  (wv (viaddr T t_sl_string x127 x128) fun v131 => wv (vload T G125 t_string v131) fun v132 => wv (viaddr T t_sl_string x127 (.int .i64 0)) fun v133 => wv (vload T G125 t_string v133) fun v134 => wv (vbin T .neq t_string v132 v134) fun v135 => brB (some v135)
  (Q (.bool false) G125)
  (wv (vbin T .add t_int x128 (.int .i64 1)) fun v136 => R124 [x126, x127, v136] G125))
  (wv (viaddr T t_sl_string x127 (.int .i64 0)) fun v137 => wv (vload T G125 t_string v137) fun v138 => ACalls P cursor_Open.n [v138] G125 fun v139 G140 => wv (viaddr T t_sl_string x127 (.int .i64 0)) fun v141 => wv (vload T G140 t_string v141) fun v142 => ACalls P cursor_Open.n [v142] G140 fun v143 G144 => let J180 : AVal → Heap → Prop := (fun x148 G147 => brB (some x148)
  (Q (.bool false) G147)
  (ACalls P cursor_Reader_U32.n [v139] G147 fun v149 G150 => ACalls P cursor_Reader_U16.n [v139] G150 fun v151 G152 => ACalls P cursor_Reader_U8.n [v139] G152 fun v153 G154 => ACalls P cursor_Reader_U8.n [v139] G154 fun v155 G156 => ACalls P cursor_Reader_I64.n [v143] G156 fun v157 G158 => wv (vconv T G158 t_uint64 t_int64 x126) fun v159 => wv (vbin T .eql t_int64 v157 v159) fun v160 => brB (some v160)
  (wv (vconv T G158 t_uint32 t_uint64 v149) fun v161 => wv (vbin T .shl t_uint64 v161 (.int .u64 32)) fun v162 => wv (vconv T G158 t_uint16 t_uint64 v151) fun v163 => wv (vbin T .shl t_uint64 v163 (.int .u64 16)) fun v164 => wv (vbin T .or t_uint64 v162 v164) fun v165 => wv (vconv T G158 t_uint8 t_uint64 v153) fun v166 => wv (vbin T .shl t_uint64 v166 (.int .u64 8)) fun v167 => wv (vbin T .or t_uint64 v165 v167) fun v168 => wv (vconv T G158 t_uint8 t_uint64 v155) fun v169 => wv (vbin T .or t_uint64 v168 v169) fun v170 => wv (vbin T .eql t_uint64 v170 x126) fun v171 => brB (some v171)
  (ACalls P cursor_Reader_Done.n [v139] G158 fun v172 G173 => wv (vbin T .eql t_api_Errno v172 (.int .i64 0)) fun v174 => brB (some v174)
  (ACalls P cursor_Reader_Done.n [v143] G173 fun v175 G176 => wv (vbin T .eql t_api_Errno v175 (.int .i64 0)) fun v177 => Q v177 G176)
  (Q (.bool false) G173))
  (Q (.bool false) G158))
  (Q (.bool false) G158)));
  wv (vbin T .eql t_pt_cursor_Reader v139 (.nilPtr)) fun v145 => brB (some v145)
  (J180 (.bool true) G144)
  (wv (vbin T .eql t_pt_cursor_Reader v143 (.nilPtr)) fun v146 => J180 v146 G144))) → R124 [x126, x127, x128] G125) →
  R124 [x6, x8, .int .i64 0] G5)) → R4 [x6, x7, x8, x9] G5) →
  R4 [a0, a1, .nilSlice, .int .i64 0] G2)
def escrowlaw03_CursorHalves.an : Ann := .two (.nil) (.two (.nil) (.two (.nil) (.two (.two (.nil) (.loop [0, 1, 5, 6] (.two (.nil) (.two (.two (.nil) (.two (.nil) (.two (.nil) (.two (.two (.nil) (.two (.nil) (.two (.nil) (.two (.nil) (.two (.nil) (.two (.nil) (.two (.nil) (.two (.nil) (.two (.two (.nil) (.loop [0, 1, 5, 6, 7, 8] (.nil))) (.two (.nil) (.two (.two (.nil) (.loop [0, 1, 5, 6, 7, 9] (.nil))) (.nil)))))))))))) (.nil))))) (.nil))))) (.two (.two (.nil) (.loop [0, 5, 12] (.two (.nil) (.two (.two (.ord [(0, []), (1, []), (2, []), (3, []), (4, []), (5, []), (6, []), (7, [])]) (.nil)) (.nil))))) (.nil)))))
set_option maxRecDepth 100000 in
theorem escrowlaw03_CursorHalves.sound {a0 a1 : AVal} {G : Heap} {Q : AVal → Heap → Prop} (h : escrowlaw03_CursorHalves.S a0 a1 G Q) : ACalls P escrowlaw03_CursorHalves.n [a0, a1] G Q := by
  have e : escrowlaw03_CursorHalves.S a0 a1 G Q = awp cx (escrowlaw03_CursorHalves.body) escrowlaw03_CursorHalves.an (bodyQ T [.tmp 4] Q) (envL [a0, a1]) G := by kernel_rfl
  exact ACalls_of_awp cxOk (f := escrowlaw03_CursorHalves.n) (fn := Try.f4) (c := escrowlaw03_CursorHalves.body) (an := escrowlaw03_CursorHalves.an) Try.func4 (by kernel_rfl) (by kernel_rfl) (by kernel_rfl) (drawsOk_of (by kernel_rfl) (by kernel_rfl)) (by simp [Try.f4]) (e ▸ h)

/-! #### escrow/escrowref03.Open -/
def escrowref03_Open.S (a0 : AVal) (G : Heap) (Q : AVal → Heap → Prop) : Prop :=
  wv (vbuild T t_escrowref03_Reader [(0, a0)]) fun v1 => aNew G (.own (v1)) fun i2 G3 => Q (.ptr i2 [] 0) G3
def escrowref03_Open.an : Ann := .nil
set_option maxRecDepth 100000 in
theorem escrowref03_Open.sound {a0 : AVal} {G : Heap} {Q : AVal → Heap → Prop} (h : escrowref03_Open.S a0 G Q) : ACalls P escrowref03_Open.n [a0] G Q := by
  have e : escrowref03_Open.S a0 G Q = awp cx (escrowref03_Open.body) escrowref03_Open.an (bodyQ T [.tmp 2] Q) (envL [a0]) G := by kernel_rfl
  exact ACalls_of_awp cxOk (f := escrowref03_Open.n) (fn := Try.f27) (c := escrowref03_Open.body) (an := escrowref03_Open.an) Try.func27 (by kernel_rfl) (by kernel_rfl) (by kernel_rfl) (drawsOk_of (by kernel_rfl) (by kernel_rfl)) (by simp [Try.f27]) (e ▸ h)

/-! #### (*escrow/escrowref03.Reader).Err -/
def escrowref03_Reader_Err.S (a0 : AVal) (G : Heap) (Q : AVal → Heap → Prop) : Prop :=
  wv (vnil a0) fun v1 => wv (vfaddr T t_escrowref03_Reader v1 1) fun v2 => wv (vload T G t_api_Errno v2) fun v3 => Q v3 G
def escrowref03_Reader_Err.an : Ann := .nil
set_option maxRecDepth 100000 in
theorem escrowref03_Reader_Err.sound {a0 : AVal} {G : Heap} {Q : AVal → Heap → Prop} (h : escrowref03_Reader_Err.S a0 G Q) : ACalls P escrowref03_Reader_Err.n [a0] G Q := by
  have e : escrowref03_Reader_Err.S a0 G Q = awp cx (escrowref03_Reader_Err.body) escrowref03_Reader_Err.an (bodyQ T [.tmp 2] Q) (envL [a0]) G := by kernel_rfl
  exact ACalls_of_awp cxOk (f := escrowref03_Reader_Err.n) (fn := Try.f30) (c := escrowref03_Reader_Err.body) (an := escrowref03_Reader_Err.an) Try.func30 (by kernel_rfl) (by kernel_rfl) (by kernel_rfl) (drawsOk_of (by kernel_rfl) (by kernel_rfl)) (by simp [Try.f30]) (e ▸ h)

/-! #### (*escrow/escrowref03.Reader).Rest -/
def escrowref03_Reader_Rest.S (a0 : AVal) (G : Heap) (Q : AVal → Heap → Prop) : Prop :=
  wv (vnil a0) fun v1 => wv (vfaddr T t_escrowref03_Reader v1 1) fun v2 => wv (vload T G t_api_Errno v2) fun v3 => wv (vbin T .neq t_api_Errno v3 (.int .i64 0)) fun v4 => brB (some v4)
  (Q (.str []) G)
  (wv (vnil a0) fun v5 => wv (vfaddr T t_escrowref03_Reader v5 0) fun v6 => wv (vload T G t_string v6) fun v7 => Q v7 G)
def escrowref03_Reader_Rest.an : Ann := .nil
set_option maxRecDepth 100000 in
theorem escrowref03_Reader_Rest.sound {a0 : AVal} {G : Heap} {Q : AVal → Heap → Prop} (h : escrowref03_Reader_Rest.S a0 G Q) : ACalls P escrowref03_Reader_Rest.n [a0] G Q := by
  have e : escrowref03_Reader_Rest.S a0 G Q = awp cx (escrowref03_Reader_Rest.body) escrowref03_Reader_Rest.an (bodyQ T [.tmp 2] Q) (envL [a0]) G := by kernel_rfl
  exact ACalls_of_awp cxOk (f := escrowref03_Reader_Rest.n) (fn := Try.f32) (c := escrowref03_Reader_Rest.body) (an := escrowref03_Reader_Rest.an) Try.func32 (by kernel_rfl) (by kernel_rfl) (by kernel_rfl) (drawsOk_of (by kernel_rfl) (by kernel_rfl)) (by simp [Try.f32]) (e ▸ h)

/-! #### (*escrow/escrowref03.Reader).Done -/
def escrowref03_Reader_Done.S (a0 : AVal) (G : Heap) (Q : AVal → Heap → Prop) : Prop :=
  wv (vnil a0) fun v1 => wv (vfaddr T t_escrowref03_Reader v1 1) fun v2 => wv (vload T G t_api_Errno v2) fun v3 => wv (vbin T .eql t_api_Errno v3 (.int .i64 0)) fun v4 => brB (some v4)
  (wv (vnil a0) fun v5 => wv (vfaddr T t_escrowref03_Reader v5 0) fun v6 => wv (vload T G t_string v6) fun v7 => wv (vbin T .neq t_string v7 (.str [])) fun v8 => brB (some v8)
  (Q (.int .i64 4) G)
  (wv (vnil a0) fun v14 => wv (vfaddr T t_escrowref03_Reader v14 1) fun v15 => wv (vload T G t_api_Errno v15) fun v16 => Q v16 G))
  (wv (vnil a0) fun v17 => wv (vfaddr T t_escrowref03_Reader v17 1) fun v18 => wv (vload T G t_api_Errno v18) fun v19 => Q v19 G)
def escrowref03_Reader_Done.an : Ann := .nil
set_option maxRecDepth 100000 in
theorem escrowref03_Reader_Done.sound {a0 : AVal} {G : Heap} {Q : AVal → Heap → Prop} (h : escrowref03_Reader_Done.S a0 G Q) : ACalls P escrowref03_Reader_Done.n [a0] G Q := by
  have e : escrowref03_Reader_Done.S a0 G Q = awp cx (escrowref03_Reader_Done.body) escrowref03_Reader_Done.an (bodyQ T [.tmp 2] Q) (envL [a0]) G := by kernel_rfl
  exact ACalls_of_awp cxOk (f := escrowref03_Reader_Done.n) (fn := Try.f33) (c := escrowref03_Reader_Done.body) (an := escrowref03_Reader_Done.an) Try.func33 (by kernel_rfl) (by kernel_rfl) (by kernel_rfl) (drawsOk_of (by kernel_rfl) (by kernel_rfl)) (by simp [Try.f33]) (e ▸ h)

/-! #### (*escrow/escrowref03.Reader).breaks -/
def escrowref03_Reader_breaks.S (a0 a1 : AVal) (G : Heap) (Q : AVal → Heap → Prop) : Prop :=
  wv (vnil a0) fun v1 => wv (vfaddr T t_escrowref03_Reader v1 1) fun v2 => wv (vload T G t_api_Errno v2) fun v3 => wv (vbin T .eql t_api_Errno v3 (.int .i64 0)) fun v4 => brB (some v4)
  (wv (vnil a0) fun v5 => wv (vfaddr T t_escrowref03_Reader v5 1) fun v6 => wg (vstore T G t_api_Errno v6 a1) fun G7 => Q (.tuple []) G7)
  (Q (.tuple []) G)
def escrowref03_Reader_breaks.an : Ann := .nil
set_option maxRecDepth 100000 in
theorem escrowref03_Reader_breaks.sound {a0 a1 : AVal} {G : Heap} {Q : AVal → Heap → Prop} (h : escrowref03_Reader_breaks.S a0 a1 G Q) : ACalls P escrowref03_Reader_breaks.n [a0, a1] G Q := by
  have e : escrowref03_Reader_breaks.S a0 a1 G Q = awp cx (escrowref03_Reader_breaks.body) escrowref03_Reader_breaks.an (bodyQ T [] Q) (envL [a0, a1]) G := by kernel_rfl
  exact ACalls_of_awp cxOk (f := escrowref03_Reader_breaks.n) (fn := Try.f72) (c := escrowref03_Reader_breaks.body) (an := escrowref03_Reader_breaks.an) Try.func72 (by kernel_rfl) (by kernel_rfl) (by kernel_rfl) (drawsOk_of (by kernel_rfl) (by kernel_rfl)) (by simp [Try.f72]) (e ▸ h)

/-! #### (*escrow/escrowref03.Reader).take -/
def escrowref03_Reader_take.S (a0 a1 : AVal) (G : Heap) (Q : AVal → Heap → Prop) : Prop :=
  wv (vnil a0) fun v1 => wv (vfaddr T t_escrowref03_Reader v1 1) fun v2 => wv (vload T G t_api_Errno v2) fun v3 => wv (vbin T .neq t_api_Errno v3 (.int .i64 0)) fun v4 => brB (some v4)
  (Q (.tuple [.str [], .bool false]) G)
  (wv (vnil a0) fun v5 => wv (vfaddr T t_escrowref03_Reader v5 0) fun v6 => wv (vload T G t_string v6) fun v7 => wv (vlen T G t_string v7) fun v8 => wv (vbin T .gtr t_int a1 v8) fun v9 => brB (some v9)
  (ACalls P escrowref03_Reader_breaks.n [a0, .int .i64 2] G fun v10 G11 => Q (.tuple [.str [], .bool false]) G11)
  (wv (vnil a0) fun v12 => wv (vfaddr T t_escrowref03_Reader v12 0) fun v13 => wv (vload T G t_string v13) fun v14 => wv (vslice T t_string v14 none (some (a1)) none) fun v15 => wv (vnil a0) fun v16 => wv (vfaddr T t_escrowref03_Reader v16 0) fun v17 => wv (vload T G t_string v17) fun v18 => wv (vslice T t_string v18 (some (a1)) none none) fun v19 => wv (vnil a0) fun v20 => wv (vfaddr T t_escrowref03_Reader v20 0) fun v21 => wg (vstore T G t_string v21 v19) fun G22 => Q (.tuple [v15, .bool true]) G22))
def escrowref03_Reader_take.an : Ann := .nil
set_option maxRecDepth 100000 in
theorem escrowref03_Reader_take.sound {a0 a1 : AVal} {G : Heap} {Q : AVal → Heap → Prop} (h : escrowref03_Reader_take.S a0 a1 G Q) : ACalls P escrowref03_Reader_take.n [a0, a1] G Q := by
  have e : escrowref03_Reader_take.S a0 a1 G Q = awp cx (escrowref03_Reader_take.body) escrowref03_Reader_take.an (bodyQ T [.tmp 4, .tmp 5] Q) (envL [a0, a1]) G := by kernel_rfl
  exact ACalls_of_awp cxOk (f := escrowref03_Reader_take.n) (fn := Try.f71) (c := escrowref03_Reader_take.body) (an := escrowref03_Reader_take.an) Try.func71 (by kernel_rfl) (by kernel_rfl) (by kernel_rfl) (drawsOk_of (by kernel_rfl) (by kernel_rfl)) (by simp [Try.f71]) (e ▸ h)

/-! #### escrow/escrowref03.Number -/
def escrowref03_Number.S (a0 : AVal) (G : Heap) (Q : AVal → Heap → Prop) : Prop :=
  ∀ R1 : List AVal → Heap → Prop,
  (∀ (x3 x4 x5 : AVal) (G2 : Heap), (wv (vlen T G2 t_string x3) fun v6 => wv (vbin T .lss t_int x5 v6) fun v7 => brB (some v7)
  (wv (vbin T .mul t_uint64 x4 (.int .u64 256)) fun v8 => wv (vindex T t_string x3 x5) fun v9 => wv (vconv T G2 t_uint8 t_uint64 v9) fun v10 => wv (vbin T .add t_uint64 v8 v10) fun v11 => wv (vbin T .add t_int x5 (.int .i64 1)) fun v12 => R1 [x3, v11, v12] G2)
  (Q x4 G2)) → R1 [x3, x4, x5] G2) →
  R1 [a0, .int .u64 0, .int .i64 0] G
def escrowref03_Number.an : Ann := .two (.nil) (.two (.nil) (.two (.two (.nil) (.loop [0, 3, 4] (.nil))) (.nil)))
set_option maxRecDepth 100000 in
theorem escrowref03_Number.sound {a0 : AVal} {G : Heap} {Q : AVal → Heap → Prop} (h : escrowref03_Number.S a0 G Q) : ACalls P escrowref03_Number.n [a0] G Q := by
  have e : escrowref03_Number.S a0 G Q = awp cx (escrowref03_Number.body) escrowref03_Number.an (bodyQ T [.tmp 2] Q) (envL [a0]) G := by kernel_rfl
  exact ACalls_of_awp cxOk (f := escrowref03_Number.n) (fn := Try.f73) (c := escrowref03_Number.body) (an := escrowref03_Number.an) Try.func73 (by kernel_rfl) (by kernel_rfl) (by kernel_rfl) (drawsOk_of (by kernel_rfl) (by kernel_rfl)) (by simp [Try.f73]) (e ▸ h)

/-! #### (*escrow/escrowref03.Reader).number -/
def escrowref03_Reader_number.S (a0 a1 : AVal) (G : Heap) (Q : AVal → Heap → Prop) : Prop :=
  ACalls P escrowref03_Reader_take.n [a0, a1] G fun v1 G2 => wv (vextract v1 0) fun v3 => wv (vextract v1 1) fun v4 => ACalls P escrowref03_Number.n [v3] G2 fun v5 G6 => Q v5 G6
def escrowref03_Reader_number.an : Ann := .nil
set_option maxRecDepth 100000 in
theorem escrowref03_Reader_number.sound {a0 a1 : AVal} {G : Heap} {Q : AVal → Heap → Prop} (h : escrowref03_Reader_number.S a0 a1 G Q) : ACalls P escrowref03_Reader_number.n [a0, a1] G Q := by
  have e : escrowref03_Reader_number.S a0 a1 G Q = awp cx (escrowref03_Reader_number.body) escrowref03_Reader_number.an (bodyQ T [.tmp 4] Q) (envL [a0, a1]) G := by kernel_rfl
  exact ACalls_of_awp cxOk (f := escrowref03_Reader_number.n) (fn := Try.f70) (c := escrowref03_Reader_number.body) (an := escrowref03_Reader_number.an) Try.func70 (by kernel_rfl) (by kernel_rfl) (by kernel_rfl) (drawsOk_of (by kernel_rfl) (by kernel_rfl)) (by simp [Try.f70]) (e ▸ h)

/-! #### (*escrow/escrowref03.Reader).U8 -/
def escrowref03_Reader_U8.S (a0 : AVal) (G : Heap) (Q : AVal → Heap → Prop) : Prop :=
  ACalls P escrowref03_Reader_number.n [a0, .int .i64 1] G fun v1 G2 => wv (vconv T G2 t_uint64 t_uint8 v1) fun v3 => Q v3 G2
def escrowref03_Reader_U8.an : Ann := .nil
set_option maxRecDepth 100000 in
theorem escrowref03_Reader_U8.sound {a0 : AVal} {G : Heap} {Q : AVal → Heap → Prop} (h : escrowref03_Reader_U8.S a0 G Q) : ACalls P escrowref03_Reader_U8.n [a0] G Q := by
  have e : escrowref03_Reader_U8.S a0 G Q = awp cx (escrowref03_Reader_U8.body) escrowref03_Reader_U8.an (bodyQ T [.tmp 2] Q) (envL [a0]) G := by kernel_rfl
  exact ACalls_of_awp cxOk (f := escrowref03_Reader_U8.n) (fn := Try.f56) (c := escrowref03_Reader_U8.body) (an := escrowref03_Reader_U8.an) Try.func56 (by kernel_rfl) (by kernel_rfl) (by kernel_rfl) (drawsOk_of (by kernel_rfl) (by kernel_rfl)) (by simp [Try.f56]) (e ▸ h)

/-! #### (*escrow/escrowref03.Reader).U16 -/
def escrowref03_Reader_U16.S (a0 : AVal) (G : Heap) (Q : AVal → Heap → Prop) : Prop :=
  ACalls P escrowref03_Reader_number.n [a0, .int .i64 2] G fun v1 G2 => wv (vconv T G2 t_uint64 t_uint16 v1) fun v3 => Q v3 G2
def escrowref03_Reader_U16.an : Ann := .nil
set_option maxRecDepth 100000 in
theorem escrowref03_Reader_U16.sound {a0 : AVal} {G : Heap} {Q : AVal → Heap → Prop} (h : escrowref03_Reader_U16.S a0 G Q) : ACalls P escrowref03_Reader_U16.n [a0] G Q := by
  have e : escrowref03_Reader_U16.S a0 G Q = awp cx (escrowref03_Reader_U16.body) escrowref03_Reader_U16.an (bodyQ T [.tmp 2] Q) (envL [a0]) G := by kernel_rfl
  exact ACalls_of_awp cxOk (f := escrowref03_Reader_U16.n) (fn := Try.f57) (c := escrowref03_Reader_U16.body) (an := escrowref03_Reader_U16.an) Try.func57 (by kernel_rfl) (by kernel_rfl) (by kernel_rfl) (drawsOk_of (by kernel_rfl) (by kernel_rfl)) (by simp [Try.f57]) (e ▸ h)

/-! #### (*escrow/escrowref03.Reader).U32 -/
def escrowref03_Reader_U32.S (a0 : AVal) (G : Heap) (Q : AVal → Heap → Prop) : Prop :=
  ACalls P escrowref03_Reader_number.n [a0, .int .i64 4] G fun v1 G2 => wv (vconv T G2 t_uint64 t_uint32 v1) fun v3 => Q v3 G2
def escrowref03_Reader_U32.an : Ann := .nil
set_option maxRecDepth 100000 in
theorem escrowref03_Reader_U32.sound {a0 : AVal} {G : Heap} {Q : AVal → Heap → Prop} (h : escrowref03_Reader_U32.S a0 G Q) : ACalls P escrowref03_Reader_U32.n [a0] G Q := by
  have e : escrowref03_Reader_U32.S a0 G Q = awp cx (escrowref03_Reader_U32.body) escrowref03_Reader_U32.an (bodyQ T [.tmp 2] Q) (envL [a0]) G := by kernel_rfl
  exact ACalls_of_awp cxOk (f := escrowref03_Reader_U32.n) (fn := Try.f58) (c := escrowref03_Reader_U32.body) (an := escrowref03_Reader_U32.an) Try.func58 (by kernel_rfl) (by kernel_rfl) (by kernel_rfl) (drawsOk_of (by kernel_rfl) (by kernel_rfl)) (by simp [Try.f58]) (e ▸ h)

/-! #### (*escrow/cursor.Reader).U64 -/
def cursor_Reader_U64.S (a0 : AVal) (G : Heap) (Q : AVal → Heap → Prop) : Prop :=
  ACalls P cursor_Reader_take.n [a0, .int .i64 8] G fun v1 G2 => ACalls P cursor_value_uint64.n [v1] G2 fun v3 G4 => Q v3 G4
def cursor_Reader_U64.an : Ann := .nil
set_option maxRecDepth 100000 in
theorem cursor_Reader_U64.sound {a0 : AVal} {G : Heap} {Q : AVal → Heap → Prop} (h : cursor_Reader_U64.S a0 G Q) : ACalls P cursor_Reader_U64.n [a0] G Q := by
  have e : cursor_Reader_U64.S a0 G Q = awp cx (cursor_Reader_U64.body) cursor_Reader_U64.an (bodyQ T [.tmp 2] Q) (envL [a0]) G := by kernel_rfl
  exact ACalls_of_awp cxOk (f := cursor_Reader_U64.n) (fn := Try.f59) (c := cursor_Reader_U64.body) (an := cursor_Reader_U64.an) Try.func59 (by kernel_rfl) (by kernel_rfl) (by kernel_rfl) (drawsOk_of (by kernel_rfl) (by kernel_rfl)) (by simp [Try.f59]) (e ▸ h)

/-! #### (*escrow/escrowref03.Reader).U64 -/
def escrowref03_Reader_U64.S (a0 : AVal) (G : Heap) (Q : AVal → Heap → Prop) : Prop :=
  ACalls P escrowref03_Reader_number.n [a0, .int .i64 8] G fun v1 G2 => Q v1 G2
def escrowref03_Reader_U64.an : Ann := .nil
set_option maxRecDepth 100000 in
theorem escrowref03_Reader_U64.sound {a0 : AVal} {G : Heap} {Q : AVal → Heap → Prop} (h : escrowref03_Reader_U64.S a0 G Q) : ACalls P escrowref03_Reader_U64.n [a0] G Q := by
  have e : escrowref03_Reader_U64.S a0 G Q = awp cx (escrowref03_Reader_U64.body) escrowref03_Reader_U64.an (bodyQ T [.tmp 2] Q) (envL [a0]) G := by kernel_rfl
  exact ACalls_of_awp cxOk (f := escrowref03_Reader_U64.n) (fn := Try.f60) (c := escrowref03_Reader_U64.body) (an := escrowref03_Reader_U64.an) Try.func60 (by kernel_rfl) (by kernel_rfl) (by kernel_rfl) (drawsOk_of (by kernel_rfl) (by kernel_rfl)) (by simp [Try.f60]) (e ▸ h)

/-! #### (*escrow/escrowref03.Reader).I64 -/
def escrowref03_Reader_I64.S (a0 : AVal) (G : Heap) (Q : AVal → Heap → Prop) : Prop :=
  ACalls P escrowref03_Reader_number.n [a0, .int .i64 8] G fun v1 G2 => wv (vconv T G2 t_uint64 t_int64 v1) fun v3 => Q v3 G2
def escrowref03_Reader_I64.an : Ann := .nil
set_option maxRecDepth 100000 in
theorem escrowref03_Reader_I64.sound {a0 : AVal} {G : Heap} {Q : AVal → Heap → Prop} (h : escrowref03_Reader_I64.S a0 G Q) : ACalls P escrowref03_Reader_I64.n [a0] G Q := by
  have e : escrowref03_Reader_I64.S a0 G Q = awp cx (escrowref03_Reader_I64.body) escrowref03_Reader_I64.an (bodyQ T [.tmp 2] Q) (envL [a0]) G := by kernel_rfl
  exact ACalls_of_awp cxOk (f := escrowref03_Reader_I64.n) (fn := Try.f61) (c := escrowref03_Reader_I64.body) (an := escrowref03_Reader_I64.an) Try.func61 (by kernel_rfl) (by kernel_rfl) (by kernel_rfl) (drawsOk_of (by kernel_rfl) (by kernel_rfl)) (by simp [Try.f61]) (e ▸ h)

/-! #### (*escrow/cursor.Reader).Hash -/
def cursor_Reader_Hash.S (a0 : AVal) (G : Heap) (Q : AVal → Heap → Prop) : Prop :=
  aNew G (.own (z_api_Hash)) fun i1 G2 => aNew G2 (.own (z_api_Hash)) fun i3 G4 => wv (vslice T t_api_Hash (.ptr i3 [] 0) none none none) fun v5 => ACalls P cursor_Reader_take.n [a0, .int .i64 32] G4 fun v6 G7 => aCopy T G7 t_sl_uint8 v5 v6 fun v8 G9 => wv (vload T G9 t_api_Hash (.ptr i3 [] 0)) fun v10 => wg (vstore T G9 t_api_Hash (.ptr i1 [] 0) v10) fun G11 => wv (vload T G11 t_api_Hash (.ptr i1 [] 0)) fun v12 => Q v12 G11
def cursor_Reader_Hash.an : Ann := .two (.nil) (.two (.nil) (.two (.ord [(0, []), (1, []), (2, []), (3, [])]) (.nil)))
set_option maxRecDepth 100000 in
theorem cursor_Reader_Hash.sound {a0 : AVal} {G : Heap} {Q : AVal → Heap → Prop} (h : cursor_Reader_Hash.S a0 G Q) : ACalls P cursor_Reader_Hash.n [a0] G Q := by
  have e : cursor_Reader_Hash.S a0 G Q = awp cx (cursor_Reader_Hash.body) cursor_Reader_Hash.an (bodyQ T [.cell 2 32] Q) (envL [a0]) G := by kernel_rfl
  exact ACalls_of_awp cxOk (f := cursor_Reader_Hash.n) (fn := Try.f62) (c := cursor_Reader_Hash.body) (an := cursor_Reader_Hash.an) Try.func62 (by kernel_rfl) (by kernel_rfl) (by kernel_rfl) (drawsOk_of (by kernel_rfl) (by kernel_rfl)) (by simp [Try.f62]) (e ▸ h)

/-! #### (*escrow/escrowref03.Reader).Hash -/
def escrowref03_Reader_Hash.S (a0 : AVal) (G : Heap) (Q : AVal → Heap → Prop) : Prop :=
  aNew G (.own (z_api_Hash)) fun i1 G2 => aNew G2 (.own (z_api_Hash)) fun i3 G4 => ACalls P escrowref03_Reader_take.n [a0, .int .i64 32] G4 fun v5 G6 => wv (vextract v5 0) fun v7 => wv (vextract v5 1) fun v8 => ∀ R9 : List AVal → Heap → Prop,
  (∀ (x11 x12 x13 x14 : AVal) (G10 : Heap), (wv (vlen T G10 t_string x13) fun v15 => wv (vbin T .lss t_int x14 v15) fun v16 => brB (some v16)
  (wv (vindex T t_string x13 x14) fun v17 => wv (viaddr T t_api_Hash x12 x14) fun v18 => wg (vstore T G10 t_uint8 v18 v17) fun G19 => wv (vbin T .add t_int x14 (.int .i64 1)) fun v20 => R9 [x11, x12, x13, v20] G19)
  (wv (vload T G10 t_api_Hash x12) fun v21 => wg (vstore T G10 t_api_Hash x11 v21) fun G22 => wv (vload T G22 t_api_Hash x11) fun v23 => Q v23 G22)) → R9 [x11, x12, x13, x14] G10) →
  R9 [.ptr i1 [] 0, .ptr i3 [] 0, v7, .int .i64 0] G6
def escrowref03_Reader_Hash.an : Ann := .two (.nil) (.two (.nil) (.two (.nil) (.two (.two (.nil) (.loop [2, 3, 4, 6] (.nil))) (.nil))))
set_option maxRecDepth 100000 in
theorem escrowref03_Reader_Hash.sound {a0 : AVal} {G : Heap} {Q : AVal → Heap → Prop} (h : escrowref03_Reader_Hash.S a0 G Q) : ACalls P escrowref03_Reader_Hash.n [a0] G Q := by
  have e : escrowref03_Reader_Hash.S a0 G Q = awp cx (escrowref03_Reader_Hash.body) escrowref03_Reader_Hash.an (bodyQ T [.cell 2 32] Q) (envL [a0]) G := by kernel_rfl
  exact ACalls_of_awp cxOk (f := escrowref03_Reader_Hash.n) (fn := Try.f63) (c := escrowref03_Reader_Hash.body) (an := escrowref03_Reader_Hash.an) Try.func63 (by kernel_rfl) (by kernel_rfl) (by kernel_rfl) (drawsOk_of (by kernel_rfl) (by kernel_rfl)) (by simp [Try.f63]) (e ▸ h)

/-! #### (*escrow/escrowref03.Reader).Text -/
def escrowref03_Reader_Text.S (a0 a1 : AVal) (G : Heap) (Q : AVal → Heap → Prop) : Prop :=
  wv (vnil a0) fun v1 => wv (vfaddr T t_escrowref03_Reader v1 1) fun v2 => wv (vload T G t_api_Errno v2) fun v3 => wv (vbin T .neq t_api_Errno v3 (.int .i64 0)) fun v4 => brB (some v4)
  (Q (.str []) G)
  (wv (vnil a0) fun v5 => wv (vfaddr T t_escrowref03_Reader v5 0) fun v6 => wv (vload T G t_string v6) fun v7 => wv (vlen T G t_string v7) fun v8 => wv (vbin T .lss t_int v8 (.int .i64 2)) fun v9 => brB (some v9)
  (ACalls P escrowref03_Reader_breaks.n [a0, .int .i64 2] G fun v10 G11 => Q (.str []) G11)
  (wv (vnil a0) fun v12 => wv (vfaddr T t_escrowref03_Reader v12 0) fun v13 => wv (vload T G t_string v13) fun v14 => wv (vslice T t_string v14 none (some (.int .i64 2)) none) fun v15 => ACalls P escrowref03_Number.n [v15] G fun v16 G17 => wv (vconv T G17 t_uint64 t_int v16) fun v18 => wv (vbin T .gtr t_int v18 a1) fun v19 => brB (some v19)
  (ACalls P escrowref03_Reader_breaks.n [a0, .int .i64 3] G17 fun v20 G21 => Q (.str []) G21)
  (wv (vnil a0) fun v22 => wv (vfaddr T t_escrowref03_Reader v22 0) fun v23 => wv (vload T G17 t_string v23) fun v24 => wv (vlen T G17 t_string v24) fun v25 => wv (vbin T .sub t_int v25 (.int .i64 2)) fun v26 => wv (vbin T .lss t_int v26 v18) fun v27 => brB (some v27)
  (ACalls P escrowref03_Reader_breaks.n [a0, .int .i64 2] G17 fun v28 G29 => Q (.str []) G29)
  (wv (vbin T .add t_int (.int .i64 2) v18) fun v30 => ACalls P escrowref03_Reader_take.n [a0, v30] G17 fun v31 G32 => wv (vextract v31 0) fun v33 => wv (vextract v31 1) fun v34 => wv (vslice T t_string v33 (some (.int .i64 2)) none none) fun v35 => Q v35 G32))))
def escrowref03_Reader_Text.an : Ann := .nil
set_option maxRecDepth 100000 in
theorem escrowref03_Reader_Text.sound {a0 a1 : AVal} {G : Heap} {Q : AVal → Heap → Prop} (h : escrowref03_Reader_Text.S a0 a1 G Q) : ACalls P escrowref03_Reader_Text.n [a0, a1] G Q := by
  have e : escrowref03_Reader_Text.S a0 a1 G Q = awp cx (escrowref03_Reader_Text.body) escrowref03_Reader_Text.an (bodyQ T [.tmp 4] Q) (envL [a0, a1]) G := by kernel_rfl
  exact ACalls_of_awp cxOk (f := escrowref03_Reader_Text.n) (fn := Try.f64) (c := escrowref03_Reader_Text.body) (an := escrowref03_Reader_Text.an) Try.func64 (by kernel_rfl) (by kernel_rfl) (by kernel_rfl) (drawsOk_of (by kernel_rfl) (by kernel_rfl)) (by simp [Try.f64]) (e ▸ h)

/-! #### (*escrow/cursor.Reader).Raw -/
def cursor_Reader_Raw.S (a0 a1 : AVal) (G : Heap) (Q : AVal → Heap → Prop) : Prop :=
  wv (vnil a0) fun v1 => wv (vfaddr T t_cursor_Reader v1 1) fun v2 => wv (vload T G t_api_Errno v2) fun v3 => wv (vbin T .eql t_api_Errno v3 (.int .i64 0)) fun v4 => brB (some v4)
  (wv (vbin T .lss t_int a1 (.int .i64 0)) fun v5 => brB (some v5)
  (ACalls P cursor_Reader_breaks.n [a0, .int .i64 1] G fun v17 G18 => ACalls P cursor_Reader_take.n [a0, a1] G18 fun v22 G23 => Q v22 G23)
  (ACalls P cursor_Reader_take.n [a0, a1] G fun v24 G25 => Q v24 G25))
  (ACalls P cursor_Reader_take.n [a0, a1] G fun v26 G27 => Q v26 G27)
def cursor_Reader_Raw.an : Ann := .nil
set_option maxRecDepth 100000 in
theorem cursor_Reader_Raw.sound {a0 a1 : AVal} {G : Heap} {Q : AVal → Heap → Prop} (h : cursor_Reader_Raw.S a0 a1 G Q) : ACalls P cursor_Reader_Raw.n [a0, a1] G Q := by
  have e : cursor_Reader_Raw.S a0 a1 G Q = awp cx (cursor_Reader_Raw.body) cursor_Reader_Raw.an (bodyQ T [.tmp 4] Q) (envL [a0, a1]) G := by kernel_rfl
  exact ACalls_of_awp cxOk (f := cursor_Reader_Raw.n) (fn := Try.f65) (c := cursor_Reader_Raw.body) (an := cursor_Reader_Raw.an) Try.func65 (by kernel_rfl) (by kernel_rfl) (by kernel_rfl) (drawsOk_of (by kernel_rfl) (by kernel_rfl)) (by simp [Try.f65]) (e ▸ h)

/-! #### (*escrow/escrowref03.Reader).Raw -/
def escrowref03_Reader_Raw.S (a0 a1 : AVal) (G : Heap) (Q : AVal → Heap → Prop) : Prop :=
  wv (vbin T .lss t_int a1 (.int .i64 0)) fun v1 => brB (some v1)
  (ACalls P escrowref03_Reader_breaks.n [a0, .int .i64 1] G fun v2 G3 => Q (.str []) G3)
  (ACalls P escrowref03_Reader_take.n [a0, a1] G fun v4 G5 => wv (vextract v4 0) fun v6 => wv (vextract v4 1) fun v7 => Q v6 G5)
def escrowref03_Reader_Raw.an : Ann := .nil
set_option maxRecDepth 100000 in
theorem escrowref03_Reader_Raw.sound {a0 a1 : AVal} {G : Heap} {Q : AVal → Heap → Prop} (h : escrowref03_Reader_Raw.S a0 a1 G Q) : ACalls P escrowref03_Reader_Raw.n [a0, a1] G Q := by
  have e : escrowref03_Reader_Raw.S a0 a1 G Q = awp cx (escrowref03_Reader_Raw.body) escrowref03_Reader_Raw.an (bodyQ T [.tmp 4] Q) (envL [a0, a1]) G := by kernel_rfl
  exact ACalls_of_awp cxOk (f := escrowref03_Reader_Raw.n) (fn := Try.f66) (c := escrowref03_Reader_Raw.body) (an := escrowref03_Reader_Raw.an) Try.func66 (by kernel_rfl) (by kernel_rfl) (by kernel_rfl) (drawsOk_of (by kernel_rfl) (by kernel_rfl)) (by simp [Try.f66]) (e ▸ h)

/-! #### escrow/escrowlaw03.reads -/
def escrowlaw03_reads.S (a0 a1 a2 : AVal) (G : Heap) (Q : AVal → Heap → Prop) : Prop :=
  aNew G (.own (a2)) fun i1 G2 => wv (vload T G2 t_int (.ptr i1 [2] 38)) fun v3 => wv (vbin T .eql t_int v3 (.int .i64 0)) fun v4 => brB (some v4)
  (ACalls P cursor_Reader_U8.n [a0] G2 fun v5 G6 => ACalls P escrowref03_Reader_U8.n [a1] G6 fun v7 G8 => wv (vbin T .eql t_uint8 v5 v7) fun v9 => Q v9 G8)
  (wv (vbin T .eql t_int v3 (.int .i64 1)) fun v10 => brB (some v10)
  (ACalls P cursor_Reader_U16.n [a0] G2 fun v11 G12 => ACalls P escrowref03_Reader_U16.n [a1] G12 fun v13 G14 => wv (vbin T .eql t_uint16 v11 v13) fun v15 => Q v15 G14)
  (wv (vbin T .eql t_int v3 (.int .i64 2)) fun v16 => brB (some v16)
  (ACalls P cursor_Reader_U32.n [a0] G2 fun v17 G18 => ACalls P escrowref03_Reader_U32.n [a1] G18 fun v19 G20 => wv (vbin T .eql t_uint32 v17 v19) fun v21 => Q v21 G20)
  (wv (vbin T .eql t_int v3 (.int .i64 3)) fun v22 => brB (some v22)
  (ACalls P cursor_Reader_U64.n [a0] G2 fun v23 G24 => ACalls P escrowref03_Reader_U64.n [a1] G24 fun v25 G26 => wv (vbin T .eql t_uint64 v23 v25) fun v27 => Q v27 G26)
  (wv (vbin T .eql t_int v3 (.int .i64 4)) fun v28 => brB (some v28)
  (ACalls P cursor_Reader_I64.n [a0] G2 fun v29 G30 => ACalls P escrowref03_Reader_I64.n [a1] G30 fun v31 G32 => wv (vbin T .eql t_int64 v29 v31) fun v33 => Q v33 G32)
  (wv (vbin T .eql t_int v3 (.int .i64 5)) fun v34 => brB (some v34)
  (ACalls P cursor_Reader_Hash.n [a0] G2 fun v35 G36 => ACalls P escrowref03_Reader_Hash.n [a1] G36 fun v37 G38 => wv (vbin T .eql t_api_Hash v35 v37) fun v39 => Q v39 G38)
  (wv (vbin T .eql t_int v3 (.int .i64 6)) fun v40 => brB (some v40)
  (wv (vload T G2 t_int (.ptr i1 [3] 39)) fun v41 => wv (vload T G2 t_int (.ptr i1 [3] 39)) fun v42 => ACalls P cursor_Reader_Text.n [a0, v41] G2 fun v43 G44 => (vload T G44 t_int (.ptr i1 [3] 39) = some v42 ∧ True) ∧ (ACalls P escrowref03_Reader_Text.n [a1, v42] G44 fun v45 G46 => wv (vbin T .eql t_string v43 v45) fun v47 => Q v47 G46))
  (wv (vbin T .eql t_int v3 (.int .i64 7)) fun v48 => brB (some v48)
  (wv (vload T G2 t_int (.ptr i1 [3] 39)) fun v49 => wv (vload T G2 t_int (.ptr i1 [3] 39)) fun v50 => ACalls P cursor_Reader_Raw.n [a0, v49] G2 fun v51 G52 => (vload T G52 t_int (.ptr i1 [3] 39) = some v50 ∧ True) ∧ (ACalls P escrowref03_Reader_Raw.n [a1, v50] G52 fun v53 G54 => wv (vbin T .eql t_string v51 v53) fun v55 => Q v55 G54))
  (wv (vbin T .eql t_int v3 (.int .i64 8)) fun v56 => brB (some v56)
  (ACalls P cursor_Reader_Err.n [a0] G2 fun v57 G58 => ACalls P escrowref03_Reader_Err.n [a1] G58 fun v59 G60 => wv (vbin T .eql t_api_Errno v57 v59) fun v61 => Q v61 G60)
  (wv (vbin T .eql t_int v3 (.int .i64 9)) fun v62 => brB (some v62)
  (ACalls P cursor_Reader_Rest.n [a0] G2 fun v63 G64 => ACalls P escrowref03_Reader_Rest.n [a1] G64 fun v65 G66 => wv (vbin T .eql t_string v63 v65) fun v67 => Q v67 G66)
  (wv (vbin T .eql t_int v3 (.int .i64 10)) fun v68 => brB (some v68)
  (ACalls P cursor_Reader_Done.n [a0] G2 fun v69 G70 => ACalls P escrowref03_Reader_Done.n [a1] G70 fun v71 G72 => wv (vbin T .eql t_api_Errno v69 v71) fun v73 => Q v73 G72)
  (Q (.bool true) G2)))))))))))
def escrowlaw03_reads.an : Ann := .two (.nil) (.two (.two (.nil) (.two (.nil) (.two (.nil) (.two (.nil) (.two (.nil) (.two (.nil) (.two (.nil) (.two (.nil) (.two (.nil) (.two (.nil) (.two (.nil) (.two (.nil) (.two (.nil) (.two (.nil) (.two (.two (.ord [(0, []), (1, []), (2, []), (4, []), (5, []), (6, []), (3, [6]), (7, []), (8, []), (9, [])]) (.nil)) (.two (.nil) (.two (.two (.ord [(0, []), (1, []), (2, []), (4, []), (5, []), (6, []), (3, [6]), (7, []), (8, []), (9, [])]) (.nil)) (.nil)))))))))))))))))) (.nil))
set_option maxRecDepth 100000 in
theorem escrowlaw03_reads.sound {a0 a1 a2 : AVal} {G : Heap} {Q : AVal → Heap → Prop} (h : escrowlaw03_reads.S a0 a1 a2 G Q) : ACalls P escrowlaw03_reads.n [a0, a1, a2] G Q := by
  have e : escrowlaw03_reads.S a0 a1 a2 G Q = awp cx (escrowlaw03_reads.body) escrowlaw03_reads.an (bodyQ T [.tmp 6] Q) (envL [a0, a1, a2]) G := by kernel_rfl
  exact ACalls_of_awp cxOk (f := escrowlaw03_reads.n) (fn := Try.f28) (c := escrowlaw03_reads.body) (an := escrowlaw03_reads.an) Try.func28 (by kernel_rfl) (by kernel_rfl) (by kernel_rfl) (drawsOk_of (by kernel_rfl) (by kernel_rfl)) (by simp [Try.f28]) (e ▸ h)

/-! #### escrow/escrowlaw03.CursorReads -/
def escrowlaw03_CursorReads.S (a0 a1 a2 : AVal) (G : Heap) (Q : AVal → Heap → Prop) : Prop :=
  ACalls P escrowlaw03_head.n [] G fun v1 G2 => wv (vun .not v1) fun v3 => brB (some v3)
  (Q (.bool false) G2)
  (ACalls P cursor_Open.n [a0] G2 fun v4 G5 => ACalls P cursor_Open.n [a1] G5 fun v6 G7 => wv (vbuild T t_ar2_cursor_Reader [(0, v4), (1, v6)]) fun v8 => aNew G7 (.own (z_ar2_cursor_Reader)) fun i9 G10 => wg (vstore T G10 t_ar2_cursor_Reader (.ptr i9 [] 0) v8) fun G11 => ACalls P escrowref03_Open.n [a0] G11 fun v12 G13 => ACalls P escrowref03_Open.n [a1] G13 fun v14 G15 => wv (vbuild T t_ar2_escrowref03_Reader [(0, v12), (1, v14)]) fun v16 => aNew G15 (.own (z_ar2_escrowref03_Reader)) fun i17 G18 => wg (vstore T G18 t_ar2_escrowref03_Reader (.ptr i17 [] 0) v16) fun G19 => let J92 : AVal → Heap → Prop := (fun x27 G26 => brB (some x27)
  (Q (.bool false) G26)
  (∀ R28 : List AVal → Heap → Prop,
  (∀ (x30 x31 x32 x33 : AVal) (G29 : Heap), (wv (vlen T G29 t_sl_escrowlaw03_Op x30) fun v34 => wv (vbin T .lss t_int x33 v34) fun v35 => brB (some v35)
  (wv (viaddr T t_sl_escrowlaw03_Op x30 x33) fun v36 => wv (vfaddr T t_escrowlaw03_Op v36 0) fun v37 => wv (vload T G29 t_bool v37) fun v38 => let J90 : AVal → Heap → Prop := (fun x40 G39 => wv (viaddr T t_ar2_cursor_Reader x31 x40) fun v41 => wv (vload T G39 t_pt_cursor_Reader v41) fun v42 => wv (viaddr T t_ar2_escrowref03_Reader x32 x40) fun v43 => wv (vload T G39 t_pt_escrowref03_Reader v43) fun v44 => wv (viaddr T t_sl_escrowlaw03_Op x30 x33) fun v45 => wv (vload T G39 t_escrowlaw03_Op v45) fun v46 => ACalls P escrowlaw03_reads.n [v42, v44, v46] G39 fun v47 G48 => wv (vun .not v47) fun v49 => brB (some v49)
  (Q (.bool false) G48)
  (∀ R50 : List AVal → Heap → Prop,
  (∀ (x52 x53 x54 x55 x56 : AVal) (G51 : Heap), (wv (vbin T .lss t_int x56 (.int .i64 2)) fun v57 => brB (some v57)
  (wv (viaddr T t_ar2_cursor_Reader x53 x56) fun v58 => wv (vload T G51 t_pt_cursor_Reader v58) fun v59 => wv (viaddr T t_ar2_escrowref03_Reader x54 x56) fun v60 => wv (vload T G51 t_pt_escrowref03_Reader v60) fun v61 => ACalls P cursor_Reader_Err.n [v59] G51 fun v62 G63 => (vload T G63 t_pt_escrowref03_Reader v60 = some v61 ∧ True) ∧ (ACalls P escrowref03_Reader_Err.n [v61] G63 fun v64 G65 => wv (vbin T .neq t_api_Errno v62 v64) fun v66 => brB (some v66)
  (Q (.bool false) G65)
  (wv (viaddr T t_ar2_cursor_Reader x53 x56) fun v67 => wv (vload T G65 t_pt_cursor_Reader v67) fun v68 => wv (viaddr T t_ar2_escrowref03_Reader x54 x56) fun v69 => wv (vload T G65 t_pt_escrowref03_Reader v69) fun v70 => ACalls P cursor_Reader_Rest.n [v68] G65 fun v71 G72 => (vload T G72 t_pt_escrowref03_Reader v69 = some v70 ∧ True) ∧ (ACalls P escrowref03_Reader_Rest.n [v70] G72 fun v73 G74 => wv (vbin T .neq t_string v71 v73) fun v75 => brB (some v75)
  (Q (.bool false) G74)
  (wv (viaddr T t_ar2_cursor_Reader x53 x56) fun v76 => wv (vload T G74 t_pt_cursor_Reader v76) fun v77 => wv (viaddr T t_ar2_escrowref03_Reader x54 x56) fun v78 => wv (vload T G74 t_pt_escrowref03_Reader v78) fun v79 => ACalls P cursor_Reader_Done.n [v77] G74 fun v80 G81 => (vload T G81 t_pt_escrowref03_Reader v78 = some v79 ∧ True) ∧ (ACalls P escrowref03_Reader_Done.n [v79] G81 fun v82 G83 => wv (vbin T .neq t_api_Errno v80 v82) fun v84 => brB (some v84)
  (Q (.bool false) G83)
  (wv (vbin T .add t_int x56 (.int .i64 1)) fun v89 => R50 [x52, x53, x54, x55, v89] G83)))))))
  (wv (vbin T .add t_int x55 (.int .i64 1)) fun v91 => R28 [x52, x53, x54, v91] G51)) → R50 [x52, x53, x54, x55, x56] G51) →
  R50 [x30, x31, x32, x33, .int .i64 0] G48));
  brB (some v38)
  (J90 (.int .i64 1) G29)
  (J90 (.int .i64 0) G29))
  (Q (.bool true) G29)) → R28 [x30, x31, x32, x33] G29) →
  R28 [a2, .ptr i9 [] 0, .ptr i17 [] 0, .int .i64 0] G26));
  wv (viaddr T t_ar2_cursor_Reader (.ptr i9 [] 0) (.int .i64 0)) fun v20 => wv (vload T G19 t_pt_cursor_Reader v20) fun v21 => wv (vbin T .eql t_pt_cursor_Reader v21 (.nilPtr)) fun v22 => brB (some v22)
  (J92 (.bool true) G19)
  (wv (viaddr T t_ar2_cursor_Reader (.ptr i9 [] 0) (.int .i64 1)) fun v23 => wv (vload T G19 t_pt_cursor_Reader v23) fun v24 => wv (vbin T .eql t_pt_cursor_Reader v24 (.nilPtr)) fun v25 => J92 v25 G19))
def escrowlaw03_CursorReads.an : Ann := .two (.nil) (.two (.nil) (.two (.nil) (.two (.nil) (.two (.nil) (.two (.two (.nil) (.loop [2, 7, 8, 9] (.two (.nil) (.two (.two (.nil) (.two (.nil) (.two (.two (.ord [(0, []), (1, []), (2, []), (3, []), (4, []), (5, []), (6, []), (7, []), (8, []), (9, []), (10, []), (11, [])]) (.nil)) (.two (.nil) (.loop [2, 7, 8, 9, 11] (.two (.nil) (.two (.two (.ord [(0, []), (1, []), (2, []), (4, []), (5, []), (6, []), (3, [6]), (7, []), (8, []), (9, []), (10, []), (11, []), (12, []), (14, []), (15, []), (16, []), (13, [16]), (17, []), (18, []), (19, []), (20, []), (21, []), (22, []), (23, []), (25, []), (26, []), (27, []), (24, [27]), (28, []), (29, []), (30, [])]) (.nil)) (.nil)))))))) (.nil))))) (.nil))))))
set_option maxRecDepth 100000 in
theorem escrowlaw03_CursorReads.sound {a0 a1 a2 : AVal} {G : Heap} {Q : AVal → Heap → Prop} (h : escrowlaw03_CursorReads.S a0 a1 a2 G Q) : ACalls P escrowlaw03_CursorReads.n [a0, a1, a2] G Q := by
  have e : escrowlaw03_CursorReads.S a0 a1 a2 G Q = awp cx (escrowlaw03_CursorReads.body) escrowlaw03_CursorReads.an (bodyQ T [.tmp 6] Q) (envL [a0, a1, a2]) G := by kernel_rfl
  exact ACalls_of_awp cxOk (f := escrowlaw03_CursorReads.n) (fn := Try.f5) (c := escrowlaw03_CursorReads.body) (an := escrowlaw03_CursorReads.an) Try.func5 (by kernel_rfl) (by kernel_rfl) (by kernel_rfl) (drawsOk_of (by kernel_rfl) (by kernel_rfl)) (by simp [Try.f5]) (e ▸ h)

end Go.Esc.M
