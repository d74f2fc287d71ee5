/- Printed by gen.py (own work): functions of the program Ytdbkngfdaeminaa over trees and the abstract heap. -/
import Derived.Test.YtdbkngfdaeminaaT
set_option linter.unusedSimpArgs false
set_option linter.unusedVariables false
namespace Go.Esc.M
open Go Go.Esc Go.Proofs

/-! #### (*escrow/cursor.Reader).Done -/
def cursor_Reader_Done.S (a0 : AVal) (G : Heap) (Q : AVal → Heap → Prop) : Prop :=
  wv (vnil a0) fun v1 => wv (vfaddr T t_cursor_Reader v1 1) fun v2 => wv (vload T G t_api_Errno v2) fun v3 => wv (vbin T .eql t_api_Errno v3 (.int .i64 0)) fun v4 => brB (some v4)
  (wv (vnil a0) fun v5 => wv (vfaddr T t_cursor_Reader v5 0) fun v6 => wv (vload T G t_string v6) fun v7 => wv (vbin T .neq t_string v7 (.str [])) fun v8 => brB (some v8)
  (Q (.int .i64 4) G)
  (wv (vnil a0) fun v14 => wv (vfaddr T t_cursor_Reader v14 1) fun v15 => wv (vload T G t_api_Errno v15) fun v16 => Q v16 G))
  (wv (vnil a0) fun v17 => wv (vfaddr T t_cursor_Reader v17 1) fun v18 => wv (vload T G t_api_Errno v18) fun v19 => Q v19 G)
def cursor_Reader_Done.an : Ann := .nil
set_option maxRecDepth 100000 in
theorem cursor_Reader_Done.sound {a0 : AVal} {G : Heap} {Q : AVal → Heap → Prop} (h : cursor_Reader_Done.S a0 G Q) : ACalls P cursor_Reader_Done.n [a0] G Q := by
  have e : cursor_Reader_Done.S a0 G Q = awp cx (cursor_Reader_Done.body) cursor_Reader_Done.an (bodyQ T [.tmp 2] Q) (envL [a0]) G := by kernel_rfl
  exact ACalls_of_awp cxOk (f := cursor_Reader_Done.n) (fn := Try.f34) (c := cursor_Reader_Done.body) (an := cursor_Reader_Done.an) Try.func34 (by kernel_rfl) (by kernel_rfl) (by kernel_rfl) (drawsOk_of (by kernel_rfl) (by kernel_rfl)) (by simp [Try.f34]) (e ▸ h)

/-! #### escrow/commit.Read -/
def commit_Read.S (a0 : AVal) (G : Heap) (Q : AVal → Heap → Prop) : Prop :=
  aNew G (.own (z_api_Hash)) fun i1 G2 => aNew G2 (.own (z_api_Ledger)) fun i3 G4 => ACalls P cursor_Open.n [a0] G4 fun v5 G6 => ACalls P cursor_Reader_U8.n [v5] G6 fun v7 G8 => wv (vconv T G8 t_uint8 t_int v7) fun v9 => ACalls P cursor_Reader_I64.n [v5] G8 fun v10 G11 => ACalls P cursor_Reader_Hash.n [v5] G11 fun v12 G13 => aNew G13 (.own (z_api_Hash)) fun i14 G15 => wg (vstore T G15 t_api_Hash (.ptr i14 [] 0) v12) fun G16 => ACalls P cursor_Reader_I64.n [v5] G16 fun v17 G18 => ACalls P cursor_Reader_I64.n [v5] G18 fun v19 G20 => wv (vbuild T t_api_Ledger [(0, v17), (1, v19)]) fun v21 => aNew G20 (.own (z_api_Ledger)) fun i22 G23 => wg (vstore T G23 t_api_Ledger (.ptr i22 [] 0) v21) fun G24 => ACalls P cursor_Reader_U16.n [v5] G24 fun v25 G26 => let J97 : AVal → AVal → AVal → AVal → AVal → AVal → AVal → AVal → Heap → Prop := (fun x63 x64 x65 x66 x67 x68 x69 x70 G62 => wv (vload T G62 t_api_Hash x69) fun v71 => wv (vload T G62 t_api_Ledger x70) fun v72 => ACalls P commit_Text.n [x67, x68, v71, v72] G62 fun v73 G74 => wv (vextract v73 0) fun v75 => wv (vextract v73 1) fun v76 => let J96 : AVal → Heap → Prop := (fun x83 G82 => brB (some x83)
  (wv (vbuild T t_api_Hash []) fun v84 => wv (vbuild T t_api_Ledger []) fun v85 => wg (vstore T G82 t_api_Hash x64 v84) fun G86 => wg (vstore T G86 t_api_Ledger x65 v85) fun G87 => wv (vload T G87 t_api_Hash x64) fun v88 => wv (vload T G87 t_api_Ledger x65) fun v89 => Q (.tuple [.int .i64 0, .int .i64 0, v88, v89, .int .i64 4]) G87)
  (wv (vload T G82 t_api_Hash x69) fun v90 => wv (vload T G82 t_api_Ledger x70) fun v91 => wg (vstore T G82 t_api_Hash x64 v90) fun G92 => (vload T G92 t_api_Ledger x70 = some v91 ∧ True) ∧ (wg (vstore T G92 t_api_Ledger x65 v91) fun G93 => wv (vload T G93 t_api_Hash x64) fun v94 => wv (vload T G93 t_api_Ledger x65) fun v95 => Q (.tuple [x67, x68, v94, v95, .int .i64 0]) G93)));
  ACalls P cursor_Reader_Done.n [x66] G74 fun v77 G78 => wv (vbin T .neq t_api_Errno v77 (.int .i64 0)) fun v79 => brB (some v79)
  (J96 (.bool true) G78)
  (wv (vbin T .neq t_api_Errno v76 (.int .i64 0)) fun v80 => brB (some v80)
  (J96 (.bool true) G78)
  (wv (vbin T .neq t_string v75 x63) fun v81 => J96 v81 G78)));
  ∀ R27 : List AVal → Heap → Prop,
  (∀ (x29 x30 x31 x32 x33 x34 x35 x36 x37 x38 : AVal) (G28 : Heap), (wv (vbin T .lss t_uint16 x38 x37) fun v39 => brB (some v39)
  (ACalls P cursor_Reader_Err.n [x32] G28 fun v40 G41 => wv (vbin T .neq t_api_Errno v40 (.int .i64 0)) fun v42 => brB (some v42)
  (J97 x29 x30 x31 x32 x33 x34 x35 x36 G41)
  (wv (vfaddr T t_api_Ledger x36 2) fun v43 => wv (vload T G41 t_sl_api_Pending v43) fun v44 => ACalls P cursor_Reader_U8.n [x32] G41 fun v45 G46 => (vload T G46 t_sl_api_Pending v43 = some v44 ∧ True) ∧ (wv (vbin T .eql t_uint8 v45 (.int .u8 1)) fun v47 => ACalls P cursor_Reader_I64.n [x32] G46 fun v48 G49 => (vload T G49 t_sl_api_Pending v43 = some v44 ∧ True) ∧ (ACalls P cursor_Reader_I64.n [x32] G49 fun v50 G51 => (vload T G51 t_sl_api_Pending v43 = some v44 ∧ True) ∧ (ACalls P cursor_Reader_Hash.n [x32] G51 fun v52 G53 => (vload T G53 t_sl_api_Pending v43 = some v44 ∧ True) ∧ (wv (vbuild T t_api_Pending [(0, v47), (1, v48), (2, v50), (3, v52)]) fun v54 => aBuildSlice T t_sl_api_Pending 1 [(0, v54)] G53 fun v55 G56 => aAppend T G56 t_sl_api_Pending t_sl_api_Pending v44 v55 fun v57 G58 => wv (vfaddr T t_api_Ledger x36 2) fun v59 => wg (vstore T G58 t_sl_api_Pending v59 v57) fun G60 => wv (vbin T .add t_uint16 x38 (.int .u16 1)) fun v61 => R27 [x29, x30, x31, x32, x33, x34, x35, x36, x37, v61] G60))))))
  (J97 x29 x30 x31 x32 x33 x34 x35 x36 G28)) → R27 [x29, x30, x31, x32, x33, x34, x35, x36, x37, x38] G28) →
  R27 [a0, .ptr i1 [] 0, .ptr i3 [] 0, v5, v9, v10, .ptr i14 [] 0, .ptr i22 [] 0, v25, .int .u16 0] G26
def commit_Read.an : Ann := .two (.nil) (.two (.nil) (.two (.nil) (.two (.nil) (.two (.nil) (.two (.nil) (.two (.two (.nil) (.loop [0, 4, 5, 7, 8, 9, 10, 11, 29, 30] (.two (.nil) (.two (.nil) (.two (.two (.nil) (.ord [(0, []), (1, []), (2, []), (5, []), (7, []), (9, []), (3, [1]), (4, []), (6, [1]), (8, [1]), (10, [1]), (11, []), (12, []), (13, []), (14, []), (15, [])])) (.nil)))))) (.two (.nil) (.two (.ord [(0, []), (1, []), (2, []), (3, []), (4, []), (5, []), (6, [3]), (7, []), (8, [])]) (.nil)))))))))
set_option maxRecDepth 100000 in
theorem commit_Read.sound {a0 : AVal} {G : Heap} {Q : AVal → Heap → Prop} (h : commit_Read.S a0 G Q) : ACalls P commit_Read.n [a0] G Q := by
  have e : commit_Read.S a0 G Q = awp cx (commit_Read.body) commit_Read.an (bodyQ T [.tmp 2, .tmp 3, .cell 4 23, .cell 5 26, .tmp 6] Q) (envL [a0]) G := by kernel_rfl
  exact ACalls_of_awp cxOk (f := commit_Read.n) (fn := Try.f15) (c := commit_Read.body) (an := commit_Read.an) Try.func15 (by kernel_rfl) (by kernel_rfl) (by kernel_rfl) (drawsOk_of (by kernel_rfl) (by kernel_rfl)) (by simp [Try.f15]) (e ▸ h)

/-! #### escrow/escrowlaw14.first -/
def escrowlaw14_first.S (G : Heap) (Q : AVal → Heap → Prop) : Prop :=
  wv (vbuild T t_api_Pending [(0, .bool true), (1, .int .i64 3), (2, .int .i64 9)]) fun v1 => aBuildSlice T t_sl_api_Pending 1 [(0, v1)] G fun v2 G3 => wv (vbuild T t_api_Ledger [(0, .int .i64 10), (1, .int .i64 20), (2, v2)]) fun v4 => aNew G3 (.own (z_api_Ledger)) fun i5 G6 => wg (vstore T G6 t_api_Ledger (.ptr i5 [] 0) v4) fun G7 => wv (vbuild T t_api_Hash [(0, .int .u8 7)]) fun v8 => wv (vload T G7 t_api_Ledger (.ptr i5 [] 0)) fun v9 => ACalls P commit_Text.n [.int .i64 1, .int .i64 5, v8, v9] G7 fun v10 G11 => wv (vextract v10 0) fun v12 => wv (vextract v10 1) fun v13 => ACalls P commit_Read.n [v12] G11 fun v14 G15 => wv (vextract v14 0) fun v16 => wv (vextract v14 1) fun v17 => wv (vextract v14 2) fun v18 => wv (vextract v14 3) fun v19 => wv (vextract v14 4) fun v20 => aNew G15 (.own (z_api_Hash)) fun i21 G22 => aNew G22 (.own (z_api_Ledger)) fun i23 G24 => wg (vstore T G24 t_api_Hash (.ptr i21 [] 0) v18) fun G25 => wg (vstore T G25 t_api_Ledger (.ptr i23 [] 0) v19) fun G26 => wv (vload T G26 t_api_Ledger (.ptr i5 [] 0)) fun v27 => ACalls P commit_Turn.n [v27] G26 fun v28 G29 => aNew G29 (.own (z_api_Ledger)) fun i30 G31 => wg (vstore T G31 t_api_Ledger (.ptr i30 [] 0) v28) fun G32 => wv (vbin T .eql t_api_Errno v13 (.int .i64 0)) fun v33 => brB (some v33)
  (wv (vbin T .eql t_api_Errno v20 (.int .i64 0)) fun v34 => brB (some v34)
  (wv (vlen T G32 t_string v12) fun v35 => wv (vbin T .eql t_int v35 (.int .i64 108)) fun v36 => brB (some v36)
  (wv (vindex T t_string v12 (.int .i64 0)) fun v37 => wv (vbin T .eql t_uint8 v37 (.int .u8 1)) fun v38 => brB (some v38)
  (wv (vindex T t_string v12 (.int .i64 8)) fun v39 => wv (vbin T .eql t_uint8 v39 (.int .u8 5)) fun v40 => brB (some v40)
  (wv (vindex T t_string v12 (.int .i64 9)) fun v41 => wv (vbin T .eql t_uint8 v41 (.int .u8 7)) fun v42 => brB (some v42)
  (wv (vindex T t_string v12 (.int .i64 59)) fun v43 => wv (vbin T .eql t_uint8 v43 (.int .u8 1)) fun v44 => brB (some v44)
  (wv (vbin T .eql t_int v16 (.int .i64 1)) fun v45 => brB (some v45)
  (wv (vbin T .eql t_int64 v17 (.int .i64 5)) fun v46 => brB (some v46)
  (wv (vload T G32 t_api_Hash (.ptr i21 [] 0)) fun v47 => wv (vbuild T t_api_Hash [(0, .int .u8 7)]) fun v48 => wv (vbin T .eql t_api_Hash v47 v48) fun v49 => brB (some v49)
  (wv (vload T G32 t_api_Ledger (.ptr i23 [] 0)) fun v50 => wv (vload T G32 t_api_Ledger (.ptr i5 [] 0)) fun v51 => ACalls P escrowlaw14_same.n [v50, v51] G32 fun v52 G53 => brB (some v52)
  (wv (vload T G53 t_api_Ledger (.ptr i30 [] 0)) fun v54 => wv (vbuild T t_api_Pending [(1, .int .i64 3), (2, .int .i64 9)]) fun v55 => aBuildSlice T t_sl_api_Pending 1 [(0, v55)] G53 fun v56 G57 => wv (vbuild T t_api_Ledger [(0, .int .i64 20), (1, .int .i64 10), (2, v56)]) fun v58 => ACalls P escrowlaw14_same.n [v54, v58] G57 fun v59 G60 => Q v59 G60)
  (Q (.bool false) G53))
  (Q (.bool false) G32))
  (Q (.bool false) G32))
  (Q (.bool false) G32))
  (Q (.bool false) G32))
  (Q (.bool false) G32))
  (Q (.bool false) G32))
  (Q (.bool false) G32))
  (Q (.bool false) G32))
  (Q (.bool false) G32))
  (Q (.bool false) G32)
def escrowlaw14_first.an : Ann := .nil
set_option maxRecDepth 100000 in
theorem escrowlaw14_first.sound {G : Heap} {Q : AVal → Heap → Prop} (h : escrowlaw14_first.S G Q) : ACalls P escrowlaw14_first.n [] G Q := by
  have e : escrowlaw14_first.S G Q = awp cx (escrowlaw14_first.body) escrowlaw14_first.an (bodyQ T [.tmp 0] Q) (envL []) G := by kernel_rfl
  exact ACalls_of_awp cxOk (f := escrowlaw14_first.n) (fn := Try.f14) (c := escrowlaw14_first.body) (an := escrowlaw14_first.an) Try.func14 (by kernel_rfl) (by kernel_rfl) (by kernel_rfl) (drawsOk_of (by kernel_rfl) (by kernel_rfl)) (by simp [Try.f14]) (e ▸ h)

/-! #### escrow/escrowlaw14.CommitTexts -/
def escrowlaw14_CommitTexts.S (a0 a1 a2 a3 : AVal) (G : Heap) (Q : AVal → Heap → Prop) : Prop :=
  aNew G (.own (a2)) fun i1 G2 => aNew G2 (.own (a3)) fun i3 G4 => wv (vload T G4 t_api_Ledger (.ptr i3 [] 0)) fun v5 => ACalls P escrowlaw14_lent.n [v5] G4 fun v6 G7 => aNew G7 (.own (z_api_Ledger)) fun i8 G9 => wg (vstore T G9 t_api_Ledger (.ptr i8 [] 0) v6) fun G10 => wv (vload T G10 t_api_Hash (.ptr i1 [] 0)) fun v11 => wv (vload T G10 t_api_Ledger (.ptr i8 [] 0)) fun v12 => ACalls P commit_Text.n [a0, a1, v11, v12] G10 fun v13 G14 => wv (vextract v13 0) fun v15 => wv (vextract v13 1) fun v16 => wv (vload T G14 t_api_Ledger (.ptr i8 [] 0)) fun v17 => ACalls P commit_Turn.n [v17] G14 fun v18 G19 => aNew G19 (.own (z_api_Ledger)) fun i20 G21 => wg (vstore T G21 t_api_Ledger (.ptr i20 [] 0) v18) fun G22 => wv (vload T G22 t_api_Hash (.ptr i1 [] 0)) fun v23 => wv (vload T G22 t_api_Ledger (.ptr i3 [] 0)) fun v24 => ACalls P escrowref14_Text.n [a0, a1, v23, v24] G22 fun v25 G26 => wv (vextract v25 0) fun v27 => wv (vextract v25 1) fun v28 => wv (vbin T .eql t_string v15 v27) fun v29 => brB (some v29)
  (wv (vbin T .eql t_api_Errno v16 v28) fun v30 => brB (some v30)
  (wv (vload T G26 t_api_Ledger (.ptr i20 [] 0)) fun v31 => wv (vload T G26 t_api_Ledger (.ptr i3 [] 0)) fun v32 => ACalls P escrowref14_Turn.n [v32] G26 fun v33 G34 => (vload T G34 t_api_Ledger (.ptr i20 [] 0) = some v31 ∧ True) ∧ (ACalls P escrowlaw14_same.n [v31, v33] G34 fun v35 G36 => brB (some v35)
  (wv (vload T G36 t_api_Ledger (.ptr i8 [] 0)) fun v37 => wv (vload T G36 t_api_Ledger (.ptr i3 [] 0)) fun v38 => ACalls P escrowlaw14_kept.n [v37, v38] G36 fun v39 G40 => brB (some v39)
  (ACalls P escrowlaw14_first.n [] G40 fun v41 G42 => Q v41 G42)
  (Q (.bool false) G40))
  (Q (.bool false) G36)))
  (Q (.bool false) G26))
  (Q (.bool false) G26)
def escrowlaw14_CommitTexts.an : Ann := .two (.nil) (.two (.nil) (.two (.nil) (.two (.nil) (.two (.nil) (.two (.ord [(0, []), (1, []), (2, []), (3, []), (4, []), (5, []), (6, []), (7, []), (8, []), (9, []), (10, []), (11, [9]), (12, []), (13, []), (14, []), (15, []), (16, []), (17, []), (18, []), (19, []), (20, []), (21, []), (22, [])]) (.nil))))))
set_option maxRecDepth 100000 in
theorem escrowlaw14_CommitTexts.sound {a0 a1 a2 a3 : AVal} {G : Heap} {Q : AVal → Heap → Prop} (h : escrowlaw14_CommitTexts.S a0 a1 a2 a3 G Q) : ACalls P escrowlaw14_CommitTexts.n [a0, a1, a2, a3] G Q := by
  have e : escrowlaw14_CommitTexts.S a0 a1 a2 a3 G Q = awp cx (escrowlaw14_CommitTexts.body) escrowlaw14_CommitTexts.an (bodyQ T [.tmp 8] Q) (envL [a0, a1, a2, a3]) G := by kernel_rfl
  exact ACalls_of_awp cxOk (f := escrowlaw14_CommitTexts.n) (fn := Try.f3) (c := escrowlaw14_CommitTexts.body) (an := escrowlaw14_CommitTexts.an) Try.func3 (by kernel_rfl) (by kernel_rfl) (by kernel_rfl) (drawsOk_of (by kernel_rfl) (by kernel_rfl)) (by simp [Try.f3]) (e ▸ h)

/-! #### escrow/escrowref14.get -/
def escrowref14_get.S (a0 a1 a2 : AVal) (G : Heap) (Q : AVal → Heap → Prop) : Prop :=
  ∀ R1 : List AVal → Heap → Prop,
  (∀ (x3 x4 x5 x6 x7 : AVal) (G2 : Heap), (wv (vbin T .add t_int x4 x5) fun v8 => wv (vbin T .lss t_int x7 v8) fun v9 => brB (some v9)
  (wv (vbin T .shl t_uint64 x6 (.int .u64 8)) fun v10 => wv (vindex T t_string x3 x7) fun v11 => wv (vconv T G2 t_uint8 t_uint64 v11) fun v12 => wv (vbin T .or t_uint64 v10 v12) fun v13 => wv (vbin T .add t_int x7 (.int .i64 1)) fun v14 => R1 [x3, x4, x5, v13, v14] G2)
  (wv (vconv T G2 t_uint64 t_int64 x6) fun v15 => Q v15 G2)) → R1 [x3, x4, x5, x6, x7] G2) →
  R1 [a0, a1, a2, .int .u64 0, a1] G
def escrowref14_get.an : Ann := .two (.nil) (.two (.nil) (.two (.two (.nil) (.loop [0, 1, 2, 7, 8] (.nil))) (.nil)))
set_option maxRecDepth 100000 in
theorem escrowref14_get.sound {a0 a1 a2 : AVal} {G : Heap} {Q : AVal → Heap → Prop} (h : escrowref14_get.S a0 a1 a2 G Q) : ACalls P escrowref14_get.n [a0, a1, a2] G Q := by
  have e : escrowref14_get.S a0 a1 a2 G Q = awp cx (escrowref14_get.body) escrowref14_get.an (bodyQ T [.tmp 6] Q) (envL [a0, a1, a2]) G := by kernel_rfl
  exact ACalls_of_awp cxOk (f := escrowref14_get.n) (fn := Try.f35) (c := escrowref14_get.body) (an := escrowref14_get.an) Try.func35 (by kernel_rfl) (by kernel_rfl) (by kernel_rfl) (drawsOk_of (by kernel_rfl) (by kernel_rfl)) (by simp [Try.f35]) (e ▸ h)

/-! #### escrow/escrowref14.hash -/
def escrowref14_hash.S (a0 a1 : AVal) (G : Heap) (Q : AVal → Heap → Prop) : Prop :=
  aNew G (.own (z_api_Hash)) fun i1 G2 => aNew G2 (.own (z_api_Hash)) fun i3 G4 => ∀ R5 : List AVal → Heap → Prop,
  (∀ (x7 x8 x9 x10 x11 : AVal) (G6 : Heap), (wv (vbin T .lss t_int x11 (.int .i64 32)) fun v12 => brB (some v12)
  (wv (vbin T .add t_int x8 x11) fun v13 => wv (vindex T t_string x7 v13) fun v14 => wv (viaddr T t_api_Hash x10 x11) fun v15 => wg (vstore T G6 t_uint8 v15 v14) fun G16 => wv (vbin T .add t_int x11 (.int .i64 1)) fun v17 => R5 [x7, x8, x9, x10, v17] G16)
  (wv (vload T G6 t_api_Hash x10) fun v18 => wg (vstore T G6 t_api_Hash x9 v18) fun G19 => wv (vload T G19 t_api_Hash x9) fun v20 => Q v20 G19)) → R5 [x7, x8, x9, x10, x11] G6) →
  R5 [a0, a1, .ptr i1 [] 0, .ptr i3 [] 0, .int .i64 0] G4
def escrowref14_hash.an : Ann := .two (.nil) (.two (.nil) (.two (.two (.nil) (.loop [0, 1, 4, 5, 6] (.nil))) (.nil)))
set_option maxRecDepth 100000 in
theorem escrowref14_hash.sound {a0 a1 : AVal} {G : Heap} {Q : AVal → Heap → Prop} (h : escrowref14_hash.S a0 a1 G Q) : ACalls P escrowref14_hash.n [a0, a1] G Q := by
  have e : escrowref14_hash.S a0 a1 G Q = awp cx (escrowref14_hash.body) escrowref14_hash.an (bodyQ T [.cell 4 23] Q) (envL [a0, a1]) G := by kernel_rfl
  exact ACalls_of_awp cxOk (f := escrowref14_hash.n) (fn := Try.f36) (c := escrowref14_hash.body) (an := escrowref14_hash.an) Try.func36 (by kernel_rfl) (by kernel_rfl) (by kernel_rfl) (drawsOk_of (by kernel_rfl) (by kernel_rfl)) (by simp [Try.f36]) (e ▸ h)

/-! #### escrow/escrowref14.Read -/
def escrowref14_Read.S (a0 : AVal) (G : Heap) (Q : AVal → Heap → Prop) : Prop :=
  aNew G (.own (z_api_Hash)) fun i1 G2 => aNew G2 (.own (z_api_Ledger)) fun i3 G4 => let J89 : AVal → Heap → Prop := (fun x12 G11 => brB (some x12)
  (wv (vbuild T t_api_Hash []) fun v13 => wv (vbuild T t_api_Ledger []) fun v14 => wg (vstore T G11 t_api_Hash (.ptr i1 [] 0) v13) fun G15 => wg (vstore T G15 t_api_Ledger (.ptr i3 [] 0) v14) fun G16 => wv (vload T G16 t_api_Hash (.ptr i1 [] 0)) fun v17 => wv (vload T G16 t_api_Ledger (.ptr i3 [] 0)) fun v18 => Q (.tuple [.int .i64 0, .int .i64 0, v17, v18, .int .i64 4]) G16)
  (ACalls P escrowref14_get.n [a0, .int .i64 41, .int .i64 8] G11 fun v19 G20 => ACalls P escrowref14_get.n [a0, .int .i64 49, .int .i64 8] G20 fun v21 G22 => wv (vbuild T t_api_Ledger [(0, v19), (1, v21)]) fun v23 => aNew G22 (.own (z_api_Ledger)) fun i24 G25 => wg (vstore T G25 t_api_Ledger (.ptr i24 [] 0) v23) fun G26 => ∀ R27 : List AVal → Heap → Prop,
  (∀ (x29 x30 x31 x32 x33 : AVal) (G28 : Heap), (wv (vlen T G28 t_string x29) fun v34 => wv (vbin T .lss t_int x33 v34) fun v35 => brB (some v35)
  (wv (vfaddr T t_api_Ledger x32 2) fun v36 => wv (vload T G28 t_sl_api_Pending v36) fun v37 => wv (vindex T t_string x29 x33) fun v38 => wv (vbin T .eql t_uint8 v38 (.int .u8 1)) fun v39 => wv (vbin T .add t_int x33 (.int .i64 1)) fun v40 => wv (vbin T .add t_int x33 (.int .i64 9)) fun v41 => wv (vbin T .add t_int x33 (.int .i64 17)) fun v42 => ACalls P escrowref14_get.n [x29, v40, .int .i64 8] G28 fun v43 G44 => (vload T G44 t_sl_api_Pending v36 = some v37 ∧ True) ∧ (ACalls P escrowref14_get.n [x29, v41, .int .i64 8] G44 fun v45 G46 => (vload T G46 t_sl_api_Pending v36 = some v37 ∧ True) ∧ (ACalls P escrowref14_hash.n [x29, v42] G46 fun v47 G48 => (vload T G48 t_sl_api_Pending v36 = some v37 ∧ True) ∧ (wv (vbuild T t_api_Pending [(0, v39), (1, v43), (2, v45), (3, v47)]) fun v49 => aBuildSlice T t_sl_api_Pending 1 [(0, v49)] G48 fun v50 G51 => aAppend T G51 t_sl_api_Pending t_sl_api_Pending v37 v50 fun v52 G53 => wv (vfaddr T t_api_Ledger x32 2) fun v54 => wg (vstore T G53 t_sl_api_Pending v54 v52) fun G55 => wv (vbin T .add t_int x33 (.int .i64 49)) fun v56 => R27 [x29, x30, x31, x32, v56] G55))))
  (wv (vindex T t_string x29 (.int .i64 0)) fun v57 => wv (vconv T G28 t_uint8 t_int v57) fun v58 => ACalls P escrowref14_get.n [x29, .int .i64 1, .int .i64 8] G28 fun v59 G60 => ACalls P escrowref14_hash.n [x29, .int .i64 9] G60 fun v61 G62 => aNew G62 (.own (z_api_Hash)) fun i63 G64 => wg (vstore T G64 t_api_Hash (.ptr i63 [] 0) v61) fun G65 => wv (vload T G65 t_api_Hash (.ptr i63 [] 0)) fun v66 => wv (vload T G65 t_api_Ledger x32) fun v67 => ACalls P escrowref14_Text.n [v58, v59, v66, v67] G65 fun v68 G69 => wv (vextract v68 0) fun v70 => wv (vextract v68 1) fun v71 => let J88 : AVal → Heap → Prop := (fun x75 G74 => brB (some x75)
  (wv (vbuild T t_api_Hash []) fun v76 => wv (vbuild T t_api_Ledger []) fun v77 => wg (vstore T G74 t_api_Hash x30 v76) fun G78 => wg (vstore T G78 t_api_Ledger x31 v77) fun G79 => wv (vload T G79 t_api_Hash x30) fun v80 => wv (vload T G79 t_api_Ledger x31) fun v81 => Q (.tuple [.int .i64 0, .int .i64 0, v80, v81, .int .i64 4]) G79)
  (wv (vload T G74 t_api_Hash (.ptr i63 [] 0)) fun v82 => wv (vload T G74 t_api_Ledger x32) fun v83 => wg (vstore T G74 t_api_Hash x30 v82) fun G84 => (vload T G84 t_api_Ledger x32 = some v83 ∧ True) ∧ (wg (vstore T G84 t_api_Ledger x31 v83) fun G85 => wv (vload T G85 t_api_Hash x30) fun v86 => wv (vload T G85 t_api_Ledger x31) fun v87 => Q (.tuple [v58, v59, v86, v87, .int .i64 0]) G85)));
  wv (vbin T .neq t_api_Errno v71 (.int .i64 0)) fun v72 => brB (some v72)
  (J88 (.bool true) G69)
  (wv (vbin T .neq t_string v70 x29) fun v73 => J88 v73 G69))) → R27 [x29, x30, x31, x32, x33] G28) →
  R27 [a0, .ptr i1 [] 0, .ptr i3 [] 0, .ptr i24 [] 0, .int .i64 59] G26));
  wv (vlen T G4 t_string a0) fun v5 => wv (vbin T .lss t_int v5 (.int .i64 59)) fun v6 => brB (some v6)
  (J89 (.bool true) G4)
  (wv (vlen T G4 t_string a0) fun v7 => wv (vbin T .sub t_int v7 (.int .i64 59)) fun v8 => wv (vbin T .rem t_int v8 (.int .i64 49)) fun v9 => wv (vbin T .neq t_int v9 (.int .i64 0)) fun v10 => J89 v10 G4)
def escrowref14_Read.an : Ann := .two (.nil) (.two (.nil) (.two (.nil) (.two (.two (.nil) (.loop [0, 4, 5, 7, 8] (.two (.nil) (.two (.ord [(0, []), (1, []), (2, []), (3, []), (4, []), (5, []), (6, []), (7, []), (8, []), (10, []), (11, []), (12, []), (14, []), (15, []), (16, []), (9, [1]), (13, [1]), (17, [1]), (18, []), (19, []), (20, []), (21, []), (22, [])]) (.nil))))) (.two (.ord [(0, []), (1, []), (2, []), (3, []), (5, []), (4, []), (6, []), (7, []), (8, []), (9, []), (10, [])]) (.two (.nil) (.two (.nil) (.two (.ord [(0, []), (1, []), (2, []), (3, []), (4, []), (5, []), (6, [3]), (7, []), (8, [])]) (.nil))))))))
set_option maxRecDepth 100000 in
theorem escrowref14_Read.sound {a0 : AVal} {G : Heap} {Q : AVal → Heap → Prop} (h : escrowref14_Read.S a0 G Q) : ACalls P escrowref14_Read.n [a0] G Q := by
  have e : escrowref14_Read.S a0 G Q = awp cx (escrowref14_Read.body) escrowref14_Read.an (bodyQ T [.tmp 2, .tmp 3, .cell 4 23, .cell 5 26, .tmp 6] Q) (envL [a0]) G := by kernel_rfl
  exact ACalls_of_awp cxOk (f := escrowref14_Read.n) (fn := Try.f16) (c := escrowref14_Read.body) (an := escrowref14_Read.an) Try.func16 (by kernel_rfl) (by kernel_rfl) (by kernel_rfl) (drawsOk_of (by kernel_rfl) (by kernel_rfl)) (by simp [Try.f16]) (e ▸ h)

/-! #### escrow/escrowlaw14.CommitReads -/
def escrowlaw14_CommitReads.S (a0 : AVal) (G : Heap) (Q : AVal → Heap → Prop) : Prop :=
  ACalls P commit_Read.n [a0] G fun v1 G2 => wv (vextract v1 0) fun v3 => wv (vextract v1 1) fun v4 => wv (vextract v1 2) fun v5 => wv (vextract v1 3) fun v6 => wv (vextract v1 4) fun v7 => aNew G2 (.own (z_api_Hash)) fun i8 G9 => aNew G9 (.own (z_api_Ledger)) fun i10 G11 => wg (vstore T G11 t_api_Hash (.ptr i8 [] 0) v5) fun G12 => wg (vstore T G12 t_api_Ledger (.ptr i10 [] 0) v6) fun G13 => ACalls P escrowref14_Read.n [a0] G13 fun v14 G15 => wv (vextract v14 0) fun v16 => wv (vextract v14 1) fun v17 => wv (vextract v14 2) fun v18 => wv (vextract v14 3) fun v19 => wv (vextract v14 4) fun v20 => aNew G15 (.own (z_api_Hash)) fun i21 G22 => aNew G22 (.own (z_api_Ledger)) fun i23 G24 => wg (vstore T G24 t_api_Hash (.ptr i21 [] 0) v18) fun G25 => wg (vstore T G25 t_api_Ledger (.ptr i23 [] 0) v19) fun G26 => wv (vbin T .eql t_int v3 v16) fun v27 => brB (some v27)
  (wv (vbin T .eql t_int64 v4 v17) fun v28 => brB (some v28)
  (wv (vload T G26 t_api_Hash (.ptr i8 [] 0)) fun v29 => wv (vload T G26 t_api_Hash (.ptr i21 [] 0)) fun v30 => wv (vbin T .eql t_api_Hash v29 v30) fun v31 => brB (some v31)
  (wv (vload T G26 t_api_Ledger (.ptr i10 [] 0)) fun v32 => wv (vload T G26 t_api_Ledger (.ptr i23 [] 0)) fun v33 => ACalls P escrowlaw14_same.n [v32, v33] G26 fun v34 G35 => brB (some v34)
  (wv (vbin T .eql t_api_Errno v7 v20) fun v36 => brB (some v36)
  (ACalls P escrowlaw14_first.n [] G35 fun v37 G38 => Q v37 G38)
  (Q (.bool false) G35))
  (Q (.bool false) G35))
  (Q (.bool false) G26))
  (Q (.bool false) G26))
  (Q (.bool false) G26)
def escrowlaw14_CommitReads.an : Ann := .nil
set_option maxRecDepth 100000 in
theorem escrowlaw14_CommitReads.sound {a0 : AVal} {G : Heap} {Q : AVal → Heap → Prop} (h : escrowlaw14_CommitReads.S a0 G Q) : ACalls P escrowlaw14_CommitReads.n [a0] G Q := by
  have e : escrowlaw14_CommitReads.S a0 G Q = awp cx (escrowlaw14_CommitReads.body) escrowlaw14_CommitReads.an (bodyQ T [.tmp 2] Q) (envL [a0]) G := by kernel_rfl
  exact ACalls_of_awp cxOk (f := escrowlaw14_CommitReads.n) (fn := Try.f4) (c := escrowlaw14_CommitReads.body) (an := escrowlaw14_CommitReads.an) Try.func4 (by kernel_rfl) (by kernel_rfl) (by kernel_rfl) (drawsOk_of (by kernel_rfl) (by kernel_rfl)) (by simp [Try.f4]) (e ▸ h)

/-! #### escrow/escrowlaw14.made -/
def escrowlaw14_made.S (a0 : AVal) (G : Heap) (Q : AVal → Heap → Prop) : Prop :=
  aNew G (.own (a0)) fun i1 G2 => aNew G2 (.own (z_api_Ledger)) fun i3 G4 => wv (vload T G4 t_int64 (.ptr i1 [0] 0)) fun v5 => wv (vbin T .and t_int64 v5 (.int .i64 1152921504606846975)) fun v6 => wv (vload T G4 t_int64 (.ptr i1 [1] 1)) fun v7 => wv (vbin T .and t_int64 v7 (.int .i64 1152921504606846975)) fun v8 => wv (vbuild T t_api_Ledger [(0, v6), (1, v8)]) fun v9 => aNew G4 (.own (z_api_Ledger)) fun i10 G11 => wg (vstore T G11 t_api_Ledger (.ptr i10 [] 0) v9) fun G12 => ∀ R13 : List AVal → Heap → Prop,
  (∀ (x15 x16 x17 x18 : AVal) (G14 : Heap), (wv (vbin T .lss t_int x18 (.int .i64 2)) fun v19 => brB (some v19)
  (∀ R20 : List AVal → Heap → Prop,
  (∀ (x22 x23 x24 x25 x26 x27 : AVal) (G21 : Heap), (let J70 : AVal → Heap → Prop := (fun x34 G33 => brB (some x34)
  (wv (vfaddr T t_api_Ledger x22 2) fun v35 => wv (vload T G33 t_sl_api_Pending v35) fun v36 => wv (viaddr T t_sl_api_Pending v36 x27) fun v37 => wv (vload T G33 t_api_Pending v37) fun v38 => aNew G33 (.own (z_api_Pending)) fun i39 G40 => wg (vstore T G40 t_api_Pending (.ptr i39 [] 0) v38) fun G41 => wv (vload T G41 t_bool (.ptr i39 [0] 0)) fun v42 => wv (vbin T .eql t_int x25 (.int .i64 0)) fun v43 => wv (vbin T .eql t_bool v42 v43) fun v44 => brB (some v44)
  (wv (vbin T .add t_int64 x26 (.int .i64 1)) fun v45 => wv (vload T G41 t_int64 (.ptr i39 [1] 1)) fun v46 => wv (vbin T .and t_int64 v46 (.int .i64 3)) fun v47 => wv (vbin T .add t_int64 v45 v47) fun v48 => wv (vfaddr T t_api_Ledger x24 2) fun v49 => wv (vload T G41 t_sl_api_Pending v49) fun v50 => wv (vload T G41 t_bool (.ptr i39 [0] 0)) fun v51 => wv (vload T G41 t_int64 (.ptr i39 [2] 2)) fun v52 => wv (vbin T .and t_int64 v52 (.int .i64 576460752303423487)) fun v53 => wv (vbin T .add t_int64 (.int .i64 1) v53) fun v54 => wv (vload T G41 t_api_Hash (.ptr i39 [3] 3)) fun v55 => wv (vbuild T t_api_Pending [(0, v51), (1, v48), (2, v54), (3, v55)]) fun v56 => aBuildSlice T t_sl_api_Pending 1 [(0, v56)] G41 fun v57 G58 => aAppend T G58 t_sl_api_Pending t_sl_api_Pending v50 v57 fun v59 G60 => wv (vfaddr T t_api_Ledger x24 2) fun v61 => wg (vstore T G60 t_sl_api_Pending v61 v59) fun G62 => wv (vbin T .add t_int x27 (.int .i64 1)) fun v68 => R20 [x22, x23, x24, x25, v48, v68] G62)
  (wv (vbin T .add t_int x27 (.int .i64 1)) fun v69 => R20 [x22, x23, x24, x25, x26, v69] G41))
  (wv (vbin T .add t_int x25 (.int .i64 1)) fun v71 => R13 [x22, x23, x24, v71] G33));
  wv (vfaddr T t_api_Ledger x22 2) fun v28 => wv (vload T G21 t_sl_api_Pending v28) fun v29 => wv (vlen T G21 t_sl_api_Pending v29) fun v30 => wv (vbin T .lss t_int x27 v30) fun v31 => brB (some v31)
  (wv (vbin T .lss t_int64 x26 (.int .i64 40)) fun v32 => J70 v32 G21)
  (J70 (.bool false) G21)) → R20 [x22, x23, x24, x25, x26, x27] G21) →
  R20 [x15, x16, x17, x18, .int .i64 0, .int .i64 0] G14)
  (wv (vload T G14 t_api_Ledger x17) fun v72 => wg (vstore T G14 t_api_Ledger x16 v72) fun G73 => wv (vload T G73 t_api_Ledger x16) fun v74 => Q v74 G73)) → R13 [x15, x16, x17, x18] G14) →
  R13 [.ptr i1 [] 0, .ptr i3 [] 0, .ptr i10 [] 0, .int .i64 0] G12
def escrowlaw14_made.an : Ann := .two (.nil) (.two (.nil) (.two (.two (.nil) (.loop [1, 2, 3, 4] (.two (.nil) (.two (.two (.nil) (.two (.nil) (.loop [1, 2, 3, 4, 5, 6] (.nil)))) (.nil))))) (.nil)))
set_option maxRecDepth 100000 in
theorem escrowlaw14_made.sound {a0 : AVal} {G : Heap} {Q : AVal → Heap → Prop} (h : escrowlaw14_made.S a0 G Q) : ACalls P escrowlaw14_made.n [a0] G Q := by
  have e : escrowlaw14_made.S a0 G Q = awp cx (escrowlaw14_made.body) escrowlaw14_made.an (bodyQ T [.cell 2 26] Q) (envL [a0]) G := by kernel_rfl
  exact ACalls_of_awp cxOk (f := escrowlaw14_made.n) (fn := Try.f17) (c := escrowlaw14_made.body) (an := escrowlaw14_made.an) Try.func17 (by kernel_rfl) (by kernel_rfl) (by kernel_rfl) (drawsOk_of (by kernel_rfl) (by kernel_rfl)) (by simp [Try.f17]) (e ▸ h)

/-! #### escrow/escrowlaw14.CommitBack -/
def escrowlaw14_CommitBack.S (a0 a1 a2 a3 a4 a5 : AVal) (G : Heap) (Q : AVal → Heap → Prop) : Prop :=
  aNew G (.own (a2)) fun i1 G2 => aNew G2 (.own (a3)) fun i3 G4 => aNew G4 (.own (a4)) fun i5 G6 => wv (vbin T .and t_int a0 (.int .i64 1)) fun v7 => wv (vbin T .and t_int64 a1 (.int .i64 281474976710655)) fun v8 => wv (vload T G6 t_api_Ledger (.ptr i3 [] 0)) fun v9 => ACalls P escrowlaw14_made.n [v9] G6 fun v10 G11 => aNew G11 (.own (z_api_Ledger)) fun i12 G13 => wg (vstore T G13 t_api_Ledger (.ptr i12 [] 0) v10) fun G14 => wv (vload T G14 t_api_Ledger (.ptr i5 [] 0)) fun v15 => ACalls P escrowlaw14_made.n [v15] G14 fun v16 G17 => aNew G17 (.own (z_api_Ledger)) fun i18 G19 => wg (vstore T G19 t_api_Ledger (.ptr i18 [] 0) v16) fun G20 => wv (vload T G20 t_api_Hash (.ptr i1 [] 0)) fun v21 => wv (vload T G20 t_api_Ledger (.ptr i12 [] 0)) fun v22 => ACalls P commit_Text.n [v7, v8, v21, v22] G20 fun v23 G24 => wv (vextract v23 0) fun v25 => wv (vextract v23 1) fun v26 => ACalls P commit_Read.n [v25] G24 fun v27 G28 => wv (vextract v27 0) fun v29 => wv (vextract v27 1) fun v30 => wv (vextract v27 2) fun v31 => wv (vextract v27 3) fun v32 => wv (vextract v27 4) fun v33 => aNew G28 (.own (z_api_Hash)) fun i34 G35 => aNew G35 (.own (z_api_Ledger)) fun i36 G37 => wg (vstore T G37 t_api_Hash (.ptr i34 [] 0) v31) fun G38 => wg (vstore T G38 t_api_Ledger (.ptr i36 [] 0) v32) fun G39 => let J182 : AVal → Heap → Prop := (fun x56 G55 => brB (some x56)
  (Q (.bool false) G55)
  (wv (vload T G55 t_api_Hash (.ptr i1 [] 0)) fun v57 => wv (vload T G55 t_api_Ledger (.ptr i18 [] 0)) fun v58 => ACalls P commit_Text.n [v7, v8, v57, v58] G55 fun v59 G60 => wv (vextract v59 0) fun v61 => wv (vextract v59 1) fun v62 => let J181 : AVal → Heap → Prop := (fun x71 G70 => brB (some x71)
  (Q (.bool false) G70)
  (wv (vbin T .sub t_int (.int .i64 1) v7) fun v72 => wv (vload T G70 t_api_Hash (.ptr i1 [] 0)) fun v73 => wv (vload T G70 t_api_Ledger (.ptr i12 [] 0)) fun v74 => ACalls P commit_Text.n [v72, v8, v73, v74] G70 fun v75 G76 => wv (vextract v75 0) fun v77 => wv (vextract v75 1) fun v78 => wv (vbin T .xor t_int64 v8 (.int .i64 1)) fun v79 => wv (vload T G76 t_api_Hash (.ptr i1 [] 0)) fun v80 => wv (vload T G76 t_api_Ledger (.ptr i12 [] 0)) fun v81 => ACalls P commit_Text.n [v7, v79, v80, v81] G76 fun v82 G83 => wv (vextract v82 0) fun v84 => wv (vextract v82 1) fun v85 => let J180 : AVal → Heap → Prop := (fun x97 G96 => brB (some x97)
  (Q (.bool false) G96)
  (wv (vlen T G96 t_string v25) fun v98 => wv (vbin T .sub t_int v98 (.int .i64 1)) fun v99 => wv (vslice T t_string v25 none (some (v99)) none) fun v100 => ACalls P commit_Read.n [v100] G96 fun v101 G102 => wv (vextract v101 0) fun v103 => wv (vextract v101 1) fun v104 => wv (vextract v101 2) fun v105 => wv (vextract v101 3) fun v106 => wv (vextract v101 4) fun v107 => aNew G102 (.own (z_api_Hash)) fun i108 G109 => aNew G109 (.own (z_api_Ledger)) fun i110 G111 => wg (vstore T G111 t_api_Hash (.ptr i108 [] 0) v105) fun G112 => wg (vstore T G112 t_api_Ledger (.ptr i110 [] 0) v106) fun G113 => wv (vbin T .add t_string v25 (.str [0])) fun v114 => ACalls P commit_Read.n [v114] G113 fun v115 G116 => wv (vextract v115 0) fun v117 => wv (vextract v115 1) fun v118 => wv (vextract v115 2) fun v119 => wv (vextract v115 3) fun v120 => wv (vextract v115 4) fun v121 => aNew G116 (.own (z_api_Hash)) fun i122 G123 => aNew G123 (.own (z_api_Ledger)) fun i124 G125 => wg (vstore T G125 t_api_Hash (.ptr i122 [] 0) v119) fun G126 => wg (vstore T G126 t_api_Ledger (.ptr i124 [] 0) v120) fun G127 => wv (vbin T .add t_string v25 v25) fun v128 => ACalls P commit_Read.n [v128] G127 fun v129 G130 => wv (vextract v129 0) fun v131 => wv (vextract v129 1) fun v132 => wv (vextract v129 2) fun v133 => wv (vextract v129 3) fun v134 => wv (vextract v129 4) fun v135 => aNew G130 (.own (z_api_Hash)) fun i136 G137 => aNew G137 (.own (z_api_Ledger)) fun i138 G139 => wg (vstore T G139 t_api_Hash (.ptr i136 [] 0) v133) fun G140 => wg (vstore T G140 t_api_Ledger (.ptr i138 [] 0) v134) fun G141 => let J179 : AVal → Heap → Prop := (fun x146 G145 => brB (some x146)
  (Q (.bool false) G145)
  (ACalls P commit_Read.n [a5] G145 fun v147 G148 => wv (vextract v147 0) fun v149 => wv (vextract v147 1) fun v150 => wv (vextract v147 2) fun v151 => wv (vextract v147 3) fun v152 => wv (vextract v147 4) fun v153 => wg (vstore T G148 t_api_Hash (.ptr i34 [] 0) v151) fun G154 => wg (vstore T G154 t_api_Ledger (.ptr i36 [] 0) v152) fun G155 => wv (vbin T .neq t_api_Errno v153 (.int .i64 0)) fun v156 => brB (some v156)
  (wv (vbin T .eql t_int v153 (.int .i64 4)) fun v157 => brB (some v157)
  (wv (vbin T .eql t_int v149 (.int .i64 0)) fun v158 => brB (some v158)
  (wv (vbin T .eql t_int64 v150 (.int .i64 0)) fun v159 => brB (some v159)
  (wv (vload T G155 t_api_Hash (.ptr i34 [] 0)) fun v160 => wv (vbuild T t_api_Hash []) fun v161 => wv (vbin T .eql t_api_Hash v160 v161) fun v162 => brB (some v162)
  (wv (vload T G155 t_api_Ledger (.ptr i36 [] 0)) fun v163 => wv (vbuild T t_api_Ledger []) fun v164 => ACalls P escrowlaw14_same.n [v163, v164] G155 fun v165 G166 => Q v165 G166)
  (Q (.bool false) G155))
  (Q (.bool false) G155))
  (Q (.bool false) G155))
  (Q (.bool false) G155))
  (wv (vload T G155 t_api_Hash (.ptr i34 [] 0)) fun v169 => wv (vload T G155 t_api_Ledger (.ptr i36 [] 0)) fun v170 => ACalls P commit_Text.n [v149, v150, v169, v170] G155 fun v171 G172 => wv (vextract v171 0) fun v173 => wv (vextract v171 1) fun v174 => wv (vbin T .eql t_api_Errno v174 (.int .i64 0)) fun v175 => brB (some v175)
  (wv (vbin T .eql t_string v173 a5) fun v176 => Q v176 G172)
  (Q (.bool false) G172))));
  wv (vbin T .neq t_int v107 (.int .i64 4)) fun v142 => brB (some v142)
  (J179 (.bool true) G141)
  (wv (vbin T .neq t_int v121 (.int .i64 4)) fun v143 => brB (some v143)
  (J179 (.bool true) G141)
  (wv (vbin T .neq t_int v135 (.int .i64 4)) fun v144 => J179 v144 G141))));
  wv (vbin T .neq t_api_Errno v78 (.int .i64 0)) fun v86 => brB (some v86)
  (J180 (.bool true) G83)
  (wv (vbin T .neq t_api_Errno v85 (.int .i64 0)) fun v87 => brB (some v87)
  (J180 (.bool true) G83)
  (wv (vbin T .eql t_string v77 v25) fun v88 => brB (some v88)
  (J180 (.bool true) G83)
  (wv (vbin T .eql t_string v84 v25) fun v89 => brB (some v89)
  (J180 (.bool true) G83)
  (wv (vlen T G83 t_string v77) fun v90 => wv (vlen T G83 t_string v25) fun v91 => wv (vbin T .neq t_int v90 v91) fun v92 => brB (some v92)
  (J180 (.bool true) G83)
  (wv (vlen T G83 t_string v84) fun v93 => wv (vlen T G83 t_string v25) fun v94 => wv (vbin T .neq t_int v93 v94) fun v95 => J180 v95 G83)))))));
  wv (vbin T .neq t_api_Errno v62 (.int .i64 0)) fun v63 => brB (some v63)
  (J181 (.bool true) G60)
  (wv (vbin T .eql t_string v61 v25) fun v64 => wv (vload T G60 t_api_Ledger (.ptr i12 [] 0)) fun v65 => wv (vload T G60 t_api_Ledger (.ptr i18 [] 0)) fun v66 => ACalls P escrowlaw14_same.n [v65, v66] G60 fun v67 G68 => wv (vbin T .neq t_bool v64 v67) fun v69 => J181 v69 G68)));
  wv (vbin T .neq t_api_Errno v26 (.int .i64 0)) fun v40 => brB (some v40)
  (J182 (.bool true) G39)
  (wv (vbin T .neq t_api_Errno v33 (.int .i64 0)) fun v41 => brB (some v41)
  (J182 (.bool true) G39)
  (wv (vbin T .neq t_int v29 v7) fun v42 => brB (some v42)
  (J182 (.bool true) G39)
  (wv (vbin T .neq t_int64 v30 v8) fun v43 => brB (some v43)
  (J182 (.bool true) G39)
  (wv (vload T G39 t_api_Hash (.ptr i34 [] 0)) fun v44 => wv (vload T G39 t_api_Hash (.ptr i1 [] 0)) fun v45 => wv (vbin T .neq t_api_Hash v44 v45) fun v46 => brB (some v46)
  (J182 (.bool true) G39)
  (wv (vload T G39 t_api_Ledger (.ptr i36 [] 0)) fun v47 => wv (vload T G39 t_api_Ledger (.ptr i12 [] 0)) fun v48 => ACalls P escrowlaw14_same.n [v47, v48] G39 fun v49 G50 => wv (vun .not v49) fun v51 => brB (some v51)
  (J182 (.bool true) G50)
  (ACalls P escrowlaw14_first.n [] G50 fun v52 G53 => wv (vun .not v52) fun v54 => J182 v54 G53))))))
def escrowlaw14_CommitBack.an : Ann := .nil
set_option maxRecDepth 100000 in
theorem escrowlaw14_CommitBack.sound {a0 a1 a2 a3 a4 a5 : AVal} {G : Heap} {Q : AVal → Heap → Prop} (h : escrowlaw14_CommitBack.S a0 a1 a2 a3 a4 a5 G Q) : ACalls P escrowlaw14_CommitBack.n [a0, a1, a2, a3, a4, a5] G Q := by
  have e : escrowlaw14_CommitBack.S a0 a1 a2 a3 a4 a5 G Q = awp cx (escrowlaw14_CommitBack.body) escrowlaw14_CommitBack.an (bodyQ T [.tmp 12] Q) (envL [a0, a1, a2, a3, a4, a5]) G := by kernel_rfl
  exact ACalls_of_awp cxOk (f := escrowlaw14_CommitBack.n) (fn := Try.f5) (c := escrowlaw14_CommitBack.body) (an := escrowlaw14_CommitBack.an) Try.func5 (by kernel_rfl) (by kernel_rfl) (by kernel_rfl) (drawsOk_of (by kernel_rfl) (by kernel_rfl)) (by simp [Try.f5]) (e ▸ h)

/-! #### escrow/escrowlaw14.sum$1 -/
def escrowlaw14_sum_1.S (a0 a1 a2 : AVal) (G : Heap) (Q : AVal → Heap → Prop) : Prop :=
  wv (vload T G t_int64 a1) fun v1 => wv (vbin T .and t_int64 a0 (.int .i64 2305843009213693951)) fun v2 => wv (vbin T .add t_int64 v1 v2) fun v3 => wg (vstore T G t_int64 a1 v3) fun G4 => wv (vload T G4 t_int64 a2) fun v5 => wv (vbin T .shr t_int64 a0 (.int .u64 61)) fun v6 => wv (vbin T .add t_int64 v5 v6) fun v7 => wv (vload T G4 t_int64 a1) fun v8 => wv (vbin T .shr t_int64 v8 (.int .u64 61)) fun v9 => wv (vbin T .add t_int64 v7 v9) fun v10 => wg (vstore T G4 t_int64 a2 v10) fun G11 => wv (vload T G11 t_int64 a1) fun v12 => wv (vbin T .and t_int64 v12 (.int .i64 2305843009213693951)) fun v13 => wg (vstore T G11 t_int64 a1 v13) fun G14 => Q (.tuple []) G14
def escrowlaw14_sum_1.an : Ann := .nil
set_option maxRecDepth 100000 in
theorem escrowlaw14_sum_1.sound {a0 a1 a2 : AVal} {G : Heap} {Q : AVal → Heap → Prop} (h : escrowlaw14_sum_1.S a0 a1 a2 G Q) : ACalls P escrowlaw14_sum_1.n [a0, a1, a2] G Q := by
  have e : escrowlaw14_sum_1.S a0 a1 a2 G Q = awp cx (escrowlaw14_sum_1.body) escrowlaw14_sum_1.an (bodyQ T [] Q) (envL [a0, a1, a2]) G := by kernel_rfl
  exact ACalls_of_awp cxOk (f := escrowlaw14_sum_1.n) (fn := Try.f37) (c := escrowlaw14_sum_1.body) (an := escrowlaw14_sum_1.an) Try.func37 (by kernel_rfl) (by kernel_rfl) (by kernel_rfl) (drawsOk_of (by kernel_rfl) (by kernel_rfl)) (by simp [Try.f37]) (e ▸ h)

/-! #### escrow/escrowlaw14.sum -/
def escrowlaw14_sum.S (a0 : AVal) (G : Heap) (Q : AVal → Heap → Prop) : Prop :=
  aNew G (.own (a0)) fun i1 G2 => aNew G2 (.own (z_int64)) fun i3 G4 => aNew G4 (.own (z_int64)) fun i5 G6 => wg (vstore T G6 t_int64 (.ptr i3 [] 0) (.int .i64 0)) fun G7 => wg (vstore T G7 t_int64 (.ptr i5 [] 0) (.int .i64 0)) fun G8 => wv (vload T G8 t_int64 (.ptr i1 [0] 0)) fun v9 => ACalls P escrowlaw14_sum_1.n [v9, .ptr i5 [] 0, .ptr i3 [] 0] G8 fun v10 G11 => wv (vload T G11 t_int64 (.ptr i1 [1] 1)) fun v12 => ACalls P escrowlaw14_sum_1.n [v12, .ptr i5 [] 0, .ptr i3 [] 0] G11 fun v13 G14 => ∀ R15 : List AVal → Heap → Prop,
  (∀ (x17 x18 x19 x20 x21 : AVal) (G16 : Heap), (wv (vfaddr T t_api_Ledger x17 2) fun v22 => wv (vload T G16 t_sl_api_Pending v22) fun v23 => wv (vlen T G16 t_sl_api_Pending v23) fun v24 => wv (vbin T .lss t_int x21 v24) fun v25 => brB (some v25)
  (wv (vfaddr T t_api_Ledger x17 2) fun v26 => wv (vload T G16 t_sl_api_Pending v26) fun v27 => wv (viaddr T t_sl_api_Pending v27 x21) fun v28 => wv (vfaddr T t_api_Pending v28 2) fun v29 => wv (vload T G16 t_int64 v29) fun v30 => aCallV P x20 [v30] G16 fun v31 G32 => wv (vbin T .add t_int x21 (.int .i64 1)) fun v33 => R15 [x17, x18, x19, x20, v33] G32)
  (wv (vload T G16 t_int64 x18) fun v34 => wv (vload T G16 t_int64 x19) fun v35 => Q (.tuple [v34, v35]) G16)) → R15 [x17, x18, x19, x20, x21] G16) →
  R15 [.ptr i1 [] 0, .ptr i3 [] 0, .ptr i5 [] 0, .func (.func escrowlaw14_sum_1.n) [] [.ptr i5 [] 0, .ptr i3 [] 0], .int .i64 0] G14
def escrowlaw14_sum.an : Ann := .two (.nil) (.two (.nil) (.two (.nil) (.two (.nil) (.two (.nil) (.two (.two (.nil) (.loop [1, 4, 5, 6, 7] (.nil))) (.two (.ord [(0, []), (1, []), (2, []), (3, [])]) (.nil)))))))
set_option maxRecDepth 100000 in
theorem escrowlaw14_sum.sound {a0 : AVal} {G : Heap} {Q : AVal → Heap → Prop} (h : escrowlaw14_sum.S a0 G Q) : ACalls P escrowlaw14_sum.n [a0] G Q := by
  have e : escrowlaw14_sum.S a0 G Q = awp cx (escrowlaw14_sum.body) escrowlaw14_sum.an (bodyQ T [.tmp 2, .tmp 3] Q) (envL [a0]) G := by kernel_rfl
  exact ACalls_of_awp cxOk (f := escrowlaw14_sum.n) (fn := Try.f18) (c := escrowlaw14_sum.body) (an := escrowlaw14_sum.an) Try.func18 (by kernel_rfl) (by kernel_rfl) (by kernel_rfl) (drawsOk_of (by kernel_rfl) (by kernel_rfl)) (by simp [Try.f18]) (e ▸ h)

/-! #### escrow/escrowlaw14.CommitTurns -/
def escrowlaw14_CommitTurns.S (a0 : AVal) (G : Heap) (Q : AVal → Heap → Prop) : Prop :=
  aNew G (.own (a0)) fun i1 G2 => wv (vload T G2 t_api_Ledger (.ptr i1 [] 0)) fun v3 => ACalls P escrowlaw14_made.n [v3] G2 fun v4 G5 => aNew G5 (.own (z_api_Ledger)) fun i6 G7 => wg (vstore T G7 t_api_Ledger (.ptr i6 [] 0) v4) fun G8 => wv (vload T G8 t_api_Ledger (.ptr i6 [] 0)) fun v9 => ACalls P commit_Turn.n [v9] G8 fun v10 G11 => aNew G11 (.own (z_api_Ledger)) fun i12 G13 => wg (vstore T G13 t_api_Ledger (.ptr i12 [] 0) v10) fun G14 => wv (vload T G14 t_api_Ledger (.ptr i6 [] 0)) fun v15 => ACalls P commit_Turn.n [v15] G14 fun v16 G17 => aNew G17 (.own (z_api_Ledger)) fun i18 G19 => wg (vstore T G19 t_api_Ledger (.ptr i18 [] 0) v16) fun G20 => wv (vload T G20 t_api_Ledger (.ptr i12 [] 0)) fun v21 => ACalls P commit_Turn.n [v21] G20 fun v22 G23 => aNew G23 (.own (z_api_Ledger)) fun i24 G25 => wg (vstore T G25 t_api_Ledger (.ptr i24 [] 0) v22) fun G26 => wv (vbuild T t_api_Hash []) fun v27 => wv (vload T G26 t_api_Ledger (.ptr i12 [] 0)) fun v28 => ACalls P commit_Text.n [.int .i64 0, .int .i64 0, v27, v28] G26 fun v29 G30 => wv (vextract v29 0) fun v31 => wv (vextract v29 1) fun v32 => wv (vload T G30 t_api_Ledger (.ptr i6 [] 0)) fun v33 => ACalls P escrowlaw14_sum.n [v33] G30 fun v34 G35 => wv (vextract v34 0) fun v36 => wv (vextract v34 1) fun v37 => wv (vload T G35 t_api_Ledger (.ptr i12 [] 0)) fun v38 => ACalls P escrowlaw14_sum.n [v38] G35 fun v39 G40 => wv (vextract v39 0) fun v41 => wv (vextract v39 1) fun v42 => let J151 : AVal → Heap → Prop := (fun x66 G65 => brB (some x66)
  (Q (.bool false) G65)
  (wv (vload T G65 t_sl_api_Pending (.ptr i18 [2] 2)) fun v67 => aAppend T G65 t_sl_api_Pending t_sl_api_Pending (.nilSlice) v67 fun v68 G69 => ∀ R70 : List AVal → Heap → Prop,
  (∀ (x72 x73 x74 x75 x76 x77 : AVal) (G71 : Heap), (wv (vfaddr T t_api_Ledger x73 2) fun v78 => wv (vload T G71 t_sl_api_Pending v78) fun v79 => wv (vlen T G71 t_sl_api_Pending v79) fun v80 => wv (vbin T .lss t_int x77 v80) fun v81 => brB (some v81)
  (wv (vfaddr T t_api_Ledger x73 2) fun v82 => wv (vload T G71 t_sl_api_Pending v82) fun v83 => wv (vbuild T t_api_Pending [(1, .int .i64 (-1))]) fun v84 => wv (viaddr T t_sl_api_Pending v83 x77) fun v85 => wg (vstore T G71 t_api_Pending v85 v84) fun G86 => wv (vbin T .add t_int x77 (.int .i64 1)) fun v87 => R70 [x72, x73, x74, x75, x76, v87] G86)
  (wv (vfaddr T t_api_Ledger x73 2) fun v88 => wv (vload T G71 t_sl_api_Pending v88) fun v89 => wv (vbuild T t_api_Pending [(1, .int .i64 (-2))]) fun v90 => aBuildSlice T t_sl_api_Pending 1 [(0, v90)] G71 fun v91 G92 => aAppend T G92 t_sl_api_Pending t_sl_api_Pending v89 v91 fun v93 G94 => wv (vfaddr T t_api_Ledger x73 2) fun v95 => wg (vstore T G94 t_sl_api_Pending v95 v93) fun G96 => ∀ R97 : List AVal → Heap → Prop,
  (∀ (x99 x100 x101 x102 x103 x104 : AVal) (G98 : Heap), (wv (vlen T G98 t_sl_api_Pending x103) fun v105 => wv (vbin T .lss t_int x104 v105) fun v106 => brB (some v106)
  (wv (vfaddr T t_api_Ledger x101 2) fun v107 => wv (vload T G98 t_sl_api_Pending v107) fun v108 => wv (viaddr T t_sl_api_Pending v108 x104) fun v109 => wv (vload T G98 t_api_Pending v109) fun v110 => wv (viaddr T t_sl_api_Pending x103 x104) fun v111 => wv (vload T G98 t_api_Pending v111) fun v112 => wv (vbin T .neq t_api_Pending v110 v112) fun v113 => brB (some v113)
  (Q (.bool false) G98)
  (wv (vfaddr T t_api_Ledger x100 2) fun v114 => wv (vload T G98 t_sl_api_Pending v114) fun v115 => wv (viaddr T t_sl_api_Pending v115 x104) fun v116 => wv (vfaddr T t_api_Pending v116 1) fun v117 => wv (vload T G98 t_int64 v117) fun v118 => wv (vbin T .neq t_int64 v118 (.int .i64 (-1))) fun v119 => brB (some v119)
  (Q (.bool false) G98)
  (wv (vbin T .add t_int x104 (.int .i64 1)) fun v124 => R97 [x99, x100, x101, x102, x103, v124] G98)))
  (wv (vload T G98 t_api_Ledger x99) fun v125 => wv (vload T G98 t_api_Ledger x101) fun v126 => ACalls P commit_Turn.n [v125] G98 fun v127 G128 => (vload T G128 t_api_Ledger x101 = some v126 ∧ True) ∧ (ACalls P escrowlaw14_same.n [v127, v126] G128 fun v129 G130 => brB (some v129)
  (wv (vfaddr T t_api_Ledger x101 2) fun v131 => wv (vload T G130 t_sl_api_Pending v131) fun v132 => wv (vlen T G130 t_sl_api_Pending v132) fun v133 => wv (vlen T G130 t_sl_api_Pending x103) fun v134 => wv (vbin T .eql t_int v133 v134) fun v135 => brB (some v135)
  (wv (vfaddr T t_api_Ledger x100 2) fun v136 => wv (vload T G130 t_sl_api_Pending v136) fun v137 => wv (vlen T G130 t_sl_api_Pending x103) fun v138 => wv (viaddr T t_sl_api_Pending v137 v138) fun v139 => wv (vfaddr T t_api_Pending v139 1) fun v140 => wv (vload T G130 t_int64 v140) fun v141 => wv (vbin T .eql t_int64 v141 (.int .i64 (-2))) fun v142 => brB (some v142)
  (wv (vload T G130 t_api_Ledger x102) fun v143 => wv (vload T G130 t_api_Ledger x101) fun v144 => ACalls P commit_Turn.n [v143] G130 fun v145 G146 => (vload T G146 t_api_Ledger x101 = some v144 ∧ True) ∧ (ACalls P escrowlaw14_same.n [v145, v144] G146 fun v147 G148 => Q v147 G148))
  (Q (.bool false) G130))
  (Q (.bool false) G130))
  (Q (.bool false) G130)))) → R97 [x99, x100, x101, x102, x103, x104] G98) →
  R97 [x72, x73, x74, x75, x76, .int .i64 0] G96)) → R70 [x72, x73, x74, x75, x76, x77] G71) →
  R70 [.ptr i6 [] 0, .ptr i12 [] 0, .ptr i18 [] 0, .ptr i24 [] 0, v68, .int .i64 0] G69));
  wv (vbin T .neq t_api_Errno v32 (.int .i64 0)) fun v43 => brB (some v43)
  (J151 (.bool true) G40)
  (wv (vload T G40 t_int64 (.ptr i12 [0] 0)) fun v44 => wv (vload T G40 t_int64 (.ptr i6 [1] 1)) fun v45 => wv (vbin T .neq t_int64 v44 v45) fun v46 => brB (some v46)
  (J151 (.bool true) G40)
  (wv (vload T G40 t_int64 (.ptr i12 [1] 1)) fun v47 => wv (vload T G40 t_int64 (.ptr i6 [0] 0)) fun v48 => wv (vbin T .neq t_int64 v47 v48) fun v49 => brB (some v49)
  (J151 (.bool true) G40)
  (wv (vload T G40 t_api_Ledger (.ptr i24 [] 0)) fun v50 => wv (vload T G40 t_api_Ledger (.ptr i6 [] 0)) fun v51 => ACalls P escrowlaw14_same.n [v50, v51] G40 fun v52 G53 => wv (vun .not v52) fun v54 => brB (some v54)
  (J151 (.bool true) G53)
  (wv (vbin T .neq t_int64 v36 v41) fun v55 => brB (some v55)
  (J151 (.bool true) G53)
  (wv (vbin T .neq t_int64 v37 v42) fun v56 => brB (some v56)
  (J151 (.bool true) G53)
  (wv (vload T G53 t_sl_api_Pending (.ptr i12 [2] 2)) fun v57 => wv (vlen T G53 t_sl_api_Pending v57) fun v58 => wv (vload T G53 t_sl_api_Pending (.ptr i6 [2] 2)) fun v59 => wv (vlen T G53 t_sl_api_Pending v59) fun v60 => wv (vbin T .neq t_int v58 v60) fun v61 => brB (some v61)
  (J151 (.bool true) G53)
  (ACalls P escrowlaw14_first.n [] G53 fun v62 G63 => wv (vun .not v62) fun v64 => J151 v64 G63)))))))
def escrowlaw14_CommitTurns.an : Ann := .two (.nil) (.two (.nil) (.two (.nil) (.two (.nil) (.two (.nil) (.two (.nil) (.two (.nil) (.two (.nil) (.two (.nil) (.two (.nil) (.two (.nil) (.two (.two (.nil) (.loop [3, 4, 5, 6, 13, 14] (.nil))) (.two (.nil) (.two (.two (.nil) (.loop [3, 4, 5, 6, 13, 15] (.two (.nil) (.two (.two (.ord [(0, []), (1, []), (2, []), (3, []), (4, []), (5, []), (6, []), (7, []), (8, []), (9, []), (10, []), (11, []), (12, []), (13, []), (14, []), (15, []), (16, []), (17, []), (18, [])]) (.nil)) (.nil))))) (.two (.ord [(0, []), (2, []), (1, [2]), (3, []), (4, []), (5, []), (6, []), (7, []), (8, []), (9, []), (10, []), (11, []), (12, []), (13, []), (14, []), (15, []), (16, []), (17, []), (18, []), (19, []), (20, []), (21, []), (22, []), (23, []), (25, []), (24, [25]), (26, []), (27, []), (28, [])]) (.nil)))))))))))))))
set_option maxRecDepth 100000 in
theorem escrowlaw14_CommitTurns.sound {a0 : AVal} {G : Heap} {Q : AVal → Heap → Prop} (h : escrowlaw14_CommitTurns.S a0 G Q) : ACalls P escrowlaw14_CommitTurns.n [a0] G Q := by
  have e : escrowlaw14_CommitTurns.S a0 G Q = awp cx (escrowlaw14_CommitTurns.body) escrowlaw14_CommitTurns.an (bodyQ T [.tmp 2] Q) (envL [a0]) G := by kernel_rfl
  exact ACalls_of_awp cxOk (f := escrowlaw14_CommitTurns.n) (fn := Try.f6) (c := escrowlaw14_CommitTurns.body) (an := escrowlaw14_CommitTurns.an) Try.func6 (by kernel_rfl) (by kernel_rfl) (by kernel_rfl) (drawsOk_of (by kernel_rfl) (by kernel_rfl)) (by simp [Try.f6]) (e ▸ h)

end Go.Esc.M
