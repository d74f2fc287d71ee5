/- Printed by gen.py (own work): functions of the program Ytdbkngfdaeminaa over trees and the abstract heap. -/
import Derived.Test.YtdbkngfdaeminaaT
set_option linter.unusedSimpArgs false
set_option linter.unusedVariables false
namespace Go.Esc.M
open Go Go.Esc Go.Proofs

/-! #### escrow/escrowref14.Text -/
def escrowref14_Text.S (a0 a1 a2 a3 : AVal) (G : Heap) (Q : AVal → Heap → Prop) : Prop :=
  aNew G (.own (a2)) fun i1 G2 => aNew G2 (.own (a3)) fun i3 G4 => let J68 : AVal → Heap → Prop := (fun x10 G9 => brB (some x10)
  (Q (.tuple [.str [], .int .i64 1]) G9)
  (wv (vload T G9 t_api_Ledger (.ptr i3 [] 0)) fun v11 => ACalls P escrowref14_Sound.n [v11] G9 fun v12 G13 => wv (vun .not v12) fun v14 => brB (some v14)
  (Q (.tuple [.str [], .int .i64 4]) G13)
  (wv (vconv T G13 t_int t_uint8 a0) fun v15 => aBuildSlice T t_sl_uint8 1 [(0, v15)] G13 fun v16 G17 => ACalls P escrowref14_number.n [v16, a1, .int .i64 8] G17 fun v18 G19 => wv (vslice T t_api_Hash (.ptr i1 [] 0) none none none) fun v20 => aAppend T G19 t_sl_uint8 t_sl_uint8 v18 v20 fun v21 G22 => wv (vload T G22 t_int64 (.ptr i3 [0] 0)) fun v23 => ACalls P escrowref14_number.n [v21, v23, .int .i64 8] G22 fun v24 G25 => wv (vload T G25 t_int64 (.ptr i3 [1] 1)) fun v26 => ACalls P escrowref14_number.n [v24, v26, .int .i64 8] G25 fun v27 G28 => wv (vload T G28 t_sl_api_Pending (.ptr i3 [2] 2)) fun v29 => wv (vlen T G28 t_sl_api_Pending v29) fun v30 => ACalls P escrowref14_number.n [v27, v30, .int .i64 2] G28 fun v31 G32 => ∀ R33 : List AVal → Heap → Prop,
  (∀ (x35 x36 x37 : AVal) (G34 : Heap), (wv (vfaddr T t_api_Ledger x35 2) fun v38 => wv (vload T G34 t_sl_api_Pending v38) fun v39 => wv (vlen T G34 t_sl_api_Pending v39) fun v40 => wv (vbin T .lss t_int x37 v40) fun v41 => brB (some v41)
  (wv (vfaddr T t_api_Ledger x35 2) fun v42 => wv (vload T G34 t_sl_api_Pending v42) fun v43 => wv (viaddr T t_sl_api_Pending v43 x37) fun v44 => wv (vload T G34 t_api_Pending v44) fun v45 => aNew G34 (.own (z_api_Pending)) fun i46 G47 => wg (vstore T G47 t_api_Pending (.ptr i46 [] 0) v45) fun G48 => wv (vload T G48 t_bool (.ptr i46 [0] 0)) fun v49 => let J65 : AVal → Heap → Prop := (fun x51 G50 => aBuildSlice T t_sl_uint8 1 [(0, x51)] G50 fun v52 G53 => aAppend T G53 t_sl_uint8 t_sl_uint8 x36 v52 fun v54 G55 => wv (vload T G55 t_int64 (.ptr i46 [1] 1)) fun v56 => ACalls P escrowref14_number.n [v54, v56, .int .i64 8] G55 fun v57 G58 => wv (vload T G58 t_int64 (.ptr i46 [2] 2)) fun v59 => ACalls P escrowref14_number.n [v57, v59, .int .i64 8] G58 fun v60 G61 => wv (vslice T t_api_Hash (.ptr i46 [3] 3) none none none) fun v62 => aAppend T G61 t_sl_uint8 t_sl_uint8 v60 v62 fun v63 G64 => wv (vbin T .add t_int x37 (.int .i64 1)) fun v66 => R33 [x35, v63, v66] G64);
  brB (some v49)
  (J65 (.int .u8 1) G48)
  (J65 (.int .u8 0) G48))
  (wv (vconv T G34 t_sl_uint8 t_string x36) fun v67 => Q (.tuple [v67, .int .i64 0]) G34)) → R33 [x35, x36, x37] G34) →
  R33 [.ptr i3 [] 0, v31, .int .i64 0] G32)));
  wv (vbin T .lss t_int a0 (.int .i64 0)) fun v5 => brB (some v5)
  (J68 (.bool true) G4)
  (wv (vbin T .gtr t_int a0 (.int .i64 1)) fun v6 => brB (some v6)
  (J68 (.bool true) G4)
  (wv (vbin T .lss t_int64 a1 (.int .i64 0)) fun v7 => brB (some v7)
  (J68 (.bool true) G4)
  (wv (vbin T .gtr t_int64 a1 (.int .i64 281474976710655)) fun v8 => J68 v8 G4)))
def escrowref14_Text.an : Ann := .two (.nil) (.two (.nil) (.two (.nil) (.two (.nil) (.two (.nil) (.two (.nil) (.two (.nil) (.two (.nil) (.two (.nil) (.two (.two (.nil) (.loop [7, 10, 11] [false, false, false] (.nil))) (.nil))))))))))
set_option maxRecDepth 100000 in
theorem escrowref14_Text.sound {a0 a1 a2 a3 : AVal} {G : Heap} {Q : AVal → Heap → Prop} (h : escrowref14_Text.S a0 a1 a2 a3 G Q) : ACalls P escrowref14_Text.n [a0, a1, a2, a3] G Q := by
  have e : escrowref14_Text.S a0 a1 a2 a3 G Q = awp cx (escrowref14_Text.body) escrowref14_Text.an (bodyQ T [.tmp 8, .tmp 9] Q) (envL [a0, a1, a2, a3]) G := by kernel_rfl
  exact ACalls_of_awp cxOk (f := escrowref14_Text.n) (fn := Try.f10) (c := escrowref14_Text.body) (an := escrowref14_Text.an) Try.func10 (by kernel_rfl) (by kernel_rfl) (by kernel_rfl) (drawsOk_of (by kernel_rfl) (by kernel_rfl)) (by simp [Try.f10]) (e ▸ h)

/-! #### escrow/escrowref14.get -/
def escrowref14_get.S (a0 a1 a2 : AVal) (G : Heap) (Q : AVal → Heap → Prop) : Prop :=
  ∀ R1 : List AVal → Heap → Prop,
  (∀ (x3 x4 x5 x6 x7 : AVal) (G2 : Heap), (wv (vbin T .add t_int x4 x5) fun v8 => wv (vbin T .lss t_int x7 v8) fun v9 => brB (some v9)
  (wv (vbin T .shl t_uint64 x6 (.int .u64 8)) fun v10 => wv (vindex T t_string x3 x7) fun v11 => wv (vconv T G2 t_uint8 t_uint64 v11) fun v12 => wv (vbin T .or t_uint64 v10 v12) fun v13 => wv (vbin T .add t_int x7 (.int .i64 1)) fun v14 => R1 [x3, x4, x5, v13, v14] G2)
  (wv (vconv T G2 t_uint64 t_int64 x6) fun v15 => Q v15 G2)) → R1 [x3, x4, x5, x6, x7] G2) →
  R1 [a0, a1, a2, .int .u64 0, a1] G
def escrowref14_get.an : Ann := .two (.nil) (.two (.nil) (.two (.two (.nil) (.loop [0, 1, 2, 7, 8] [false, false, false, false, false] (.nil))) (.nil)))
set_option maxRecDepth 100000 in
theorem escrowref14_get.sound {a0 a1 a2 : AVal} {G : Heap} {Q : AVal → Heap → Prop} (h : escrowref14_get.S a0 a1 a2 G Q) : ACalls P escrowref14_get.n [a0, a1, a2] G Q := by
  have e : escrowref14_get.S a0 a1 a2 G Q = awp cx (escrowref14_get.body) escrowref14_get.an (bodyQ T [.tmp 6] Q) (envL [a0, a1, a2]) G := by kernel_rfl
  exact ACalls_of_awp cxOk (f := escrowref14_get.n) (fn := Try.f35) (c := escrowref14_get.body) (an := escrowref14_get.an) Try.func35 (by kernel_rfl) (by kernel_rfl) (by kernel_rfl) (drawsOk_of (by kernel_rfl) (by kernel_rfl)) (by simp [Try.f35]) (e ▸ h)

/-! #### escrow/escrowref14.hash -/
def escrowref14_hash.S (a0 a1 : AVal) (G : Heap) (Q : AVal → Heap → Prop) : Prop :=
  aNew G (.own (z_api_Hash)) fun i1 G2 => aNew G2 (.own (z_api_Hash)) fun i3 G4 => ∀ R5 : List AVal → Heap → Prop,
  (∀ (x7 x8 x9 x10 x11 : AVal) (G6 : Heap), (wv (vbin T .lss t_int x11 (.int .i64 32)) fun v12 => brB (some v12)
  (wv (vbin T .add t_int x8 x11) fun v13 => wv (vindex T t_string x7 v13) fun v14 => wv (viaddr T t_api_Hash x10 x11) fun v15 => wg (vstore T G6 t_uint8 v15 v14) fun G16 => wv (vbin T .add t_int x11 (.int .i64 1)) fun v17 => R5 [x7, x8, x9, x10, v17] G16)
  (wv (vload T G6 t_api_Hash x10) fun v18 => wg (vstore T G6 t_api_Hash x9 v18) fun G19 => wv (vload T G19 t_api_Hash x9) fun v20 => Q v20 G19)) → R5 [x7, x8, x9, x10, x11] G6) →
  R5 [a0, a1, .ptr i1 [] 0, .ptr i3 [] 0, .int .i64 0] G4
def escrowref14_hash.an : Ann := .two (.nil) (.two (.nil) (.two (.two (.nil) (.loop [0, 1, 4, 5, 6] [false, false, false, false, false] (.nil))) (.nil)))
set_option maxRecDepth 100000 in
theorem escrowref14_hash.sound {a0 a1 : AVal} {G : Heap} {Q : AVal → Heap → Prop} (h : escrowref14_hash.S a0 a1 G Q) : ACalls P escrowref14_hash.n [a0, a1] G Q := by
  have e : escrowref14_hash.S a0 a1 G Q = awp cx (escrowref14_hash.body) escrowref14_hash.an (bodyQ T [.cell 4 23] Q) (envL [a0, a1]) G := by kernel_rfl
  exact ACalls_of_awp cxOk (f := escrowref14_hash.n) (fn := Try.f36) (c := escrowref14_hash.body) (an := escrowref14_hash.an) Try.func36 (by kernel_rfl) (by kernel_rfl) (by kernel_rfl) (drawsOk_of (by kernel_rfl) (by kernel_rfl)) (by simp [Try.f36]) (e ▸ h)

/-! #### escrow/escrowref14.Read -/
def escrowref14_Read.S (a0 : AVal) (G : Heap) (Q : AVal → Heap → Prop) : Prop :=
  aNew G (.own (z_api_Hash)) fun i1 G2 => aNew G2 (.own (z_api_Ledger)) fun i3 G4 => let J89 : AVal → Heap → Prop := (fun x12 G11 => brB (some x12)
  (wv (vbuild T t_api_Hash []) fun v13 => wv (vbuild T t_api_Ledger []) fun v14 => wg (vstore T G11 t_api_Hash (.ptr i1 [] 0) v13) fun G15 => wg (vstore T G15 t_api_Ledger (.ptr i3 [] 0) v14) fun G16 => wv (vload T G16 t_api_Hash (.ptr i1 [] 0)) fun v17 => wv (vload T G16 t_api_Ledger (.ptr i3 [] 0)) fun v18 => Q (.tuple [.int .i64 0, .int .i64 0, v17, v18, .int .i64 4]) G16)
  (ACalls P escrowref14_get.n [a0, .int .i64 41, .int .i64 8] G11 fun v19 G20 => ACalls P escrowref14_get.n [a0, .int .i64 49, .int .i64 8] G20 fun v21 G22 => wv (vbuild T t_api_Ledger [(0, v19), (1, v21)]) fun v23 => aNew G22 (.own (z_api_Ledger)) fun i24 G25 => wg (vstore T G25 t_api_Ledger (.ptr i24 [] 0) v23) fun G26 => ∀ R27 : List AVal → Heap → Prop,
  (∀ (x29 x30 x31 x32 x33 : AVal) (G28 : Heap), (wv (vlen T G28 t_string x29) fun v34 => wv (vbin T .lss t_int x33 v34) fun v35 => brB (some v35)
  (wv (vfaddr T t_api_Ledger x32 2) fun v36 => wv (vload T G28 t_sl_api_Pending v36) fun v37 => wv (vindex T t_string x29 x33) fun v38 => wv (vbin T .eql t_uint8 v38 (.int .u8 1)) fun v39 => wv (vbin T .add t_int x33 (.int .i64 1)) fun v40 => wv (vbin T .add t_int x33 (.int .i64 9)) fun v41 => wv (vbin T .add t_int x33 (.int .i64 17)) fun v42 => ACalls P escrowref14_get.n [x29, v40, .int .i64 8] G28 fun v43 G44 => (vload T G44 t_sl_api_Pending v36 = some v37 ∧ True) ∧ (ACalls P escrowref14_get.n [x29, v41, .int .i64 8] G44 fun v45 G46 => (vload T G46 t_sl_api_Pending v36 = some v37 ∧ True) ∧ (ACalls P escrowref14_hash.n [x29, v42] G46 fun v47 G48 => (vload T G48 t_sl_api_Pending v36 = some v37 ∧ True) ∧ (wv (vbuild T t_api_Pending [(0, v39), (1, v43), (2, v45), (3, v47)]) fun v49 => aBuildSlice T t_sl_api_Pending 1 [(0, v49)] G48 fun v50 G51 => aAppend T G51 t_sl_api_Pending t_sl_api_Pending v37 v50 fun v52 G53 => wv (vfaddr T t_api_Ledger x32 2) fun v54 => wg (vstore T G53 t_sl_api_Pending v54 v52) fun G55 => wv (vbin T .add t_int x33 (.int .i64 49)) fun v56 => R27 [x29, x30, x31, x32, v56] G55))))
  (wv (vindex T t_string x29 (.int .i64 0)) fun v57 => wv (vconv T G28 t_uint8 t_int v57) fun v58 => ACalls P escrowref14_get.n [x29, .int .i64 1, .int .i64 8] G28 fun v59 G60 => ACalls P escrowref14_hash.n [x29, .int .i64 9] G60 fun v61 G62 => aNew G62 (.own (z_api_Hash)) fun i63 G64 => wg (vstore T G64 t_api_Hash (.ptr i63 [] 0) v61) fun G65 => wv (vload T G65 t_api_Hash (.ptr i63 [] 0)) fun v66 => wv (vload T G65 t_api_Ledger x32) fun v67 => ACalls P escrowref14_Text.n [v58, v59, v66, v67] G65 fun v68 G69 => wv (vextract v68 0) fun v70 => wv (vextract v68 1) fun v71 => let J88 : AVal → Heap → Prop := (fun x75 G74 => brB (some x75)
  (wv (vbuild T t_api_Hash []) fun v76 => wv (vbuild T t_api_Ledger []) fun v77 => wg (vstore T G74 t_api_Hash x30 v76) fun G78 => wg (vstore T G78 t_api_Ledger x31 v77) fun G79 => wv (vload T G79 t_api_Hash x30) fun v80 => wv (vload T G79 t_api_Ledger x31) fun v81 => Q (.tuple [.int .i64 0, .int .i64 0, v80, v81, .int .i64 4]) G79)
  (wv (vload T G74 t_api_Hash (.ptr i63 [] 0)) fun v82 => wv (vload T G74 t_api_Ledger x32) fun v83 => wg (vstore T G74 t_api_Hash x30 v82) fun G84 => (vload T G84 t_api_Ledger x32 = some v83 ∧ True) ∧ (wg (vstore T G84 t_api_Ledger x31 v83) fun G85 => wv (vload T G85 t_api_Hash x30) fun v86 => wv (vload T G85 t_api_Ledger x31) fun v87 => Q (.tuple [v58, v59, v86, v87, .int .i64 0]) G85)));
  wv (vbin T .neq t_api_Errno v71 (.int .i64 0)) fun v72 => brB (some v72)
  (J88 (.bool true) G69)
  (wv (vbin T .neq t_string v70 x29) fun v73 => J88 v73 G69))) → R27 [x29, x30, x31, x32, x33] G28) →
  R27 [a0, .ptr i1 [] 0, .ptr i3 [] 0, .ptr i24 [] 0, .int .i64 59] G26));
  wv (vlen T G4 t_string a0) fun v5 => wv (vbin T .lss t_int v5 (.int .i64 59)) fun v6 => brB (some v6)
  (J89 (.bool true) G4)
  (wv (vlen T G4 t_string a0) fun v7 => wv (vbin T .sub t_int v7 (.int .i64 59)) fun v8 => wv (vbin T .rem t_int v8 (.int .i64 49)) fun v9 => wv (vbin T .neq t_int v9 (.int .i64 0)) fun v10 => J89 v10 G4)
def escrowref14_Read.an : Ann := .two (.nil) (.two (.nil) (.two (.nil) (.two (.two (.nil) (.loop [0, 4, 5, 7, 8] [false, false, false, false, false] (.two (.nil) (.two (.ord [(0, []), (1, []), (2, []), (3, []), (4, []), (5, []), (6, []), (7, []), (8, []), (10, []), (11, []), (12, []), (14, []), (15, []), (16, []), (9, [1]), (13, [1]), (17, [1]), (18, []), (19, []), (20, []), (21, []), (22, [])]) (.nil))))) (.two (.ord [(0, []), (1, []), (2, []), (3, []), (5, []), (4, []), (6, []), (7, []), (8, []), (9, []), (10, [])]) (.two (.nil) (.two (.nil) (.two (.ord [(0, []), (1, []), (2, []), (3, []), (4, []), (5, []), (6, [3]), (7, []), (8, [])]) (.nil))))))))
set_option maxRecDepth 100000 in
theorem escrowref14_Read.sound {a0 : AVal} {G : Heap} {Q : AVal → Heap → Prop} (h : escrowref14_Read.S a0 G Q) : ACalls P escrowref14_Read.n [a0] G Q := by
  have e : escrowref14_Read.S a0 G Q = awp cx (escrowref14_Read.body) escrowref14_Read.an (bodyQ T [.tmp 2, .tmp 3, .cell 4 23, .cell 5 26, .tmp 6] Q) (envL [a0]) G := by kernel_rfl
  exact ACalls_of_awp cxOk (f := escrowref14_Read.n) (fn := Try.f16) (c := escrowref14_Read.body) (an := escrowref14_Read.an) Try.func16 (by kernel_rfl) (by kernel_rfl) (by kernel_rfl) (drawsOk_of (by kernel_rfl) (by kernel_rfl)) (by simp [Try.f16]) (e ▸ h)

/-! #### escrow/escrowlaw14.CommitReads -/
def escrowlaw14_CommitReads.S (a0 : AVal) (G : Heap) (Q : AVal → Heap → Prop) : Prop :=
  ACalls P commit_Read.n [a0] G fun v1 G2 => wv (vextract v1 0) fun v3 => wv (vextract v1 1) fun v4 => wv (vextract v1 2) fun v5 => wv (vextract v1 3) fun v6 => wv (vextract v1 4) fun v7 => aNew G2 (.own (z_api_Hash)) fun i8 G9 => aNew G9 (.own (z_api_Ledger)) fun i10 G11 => wg (vstore T G11 t_api_Hash (.ptr i8 [] 0) v5) fun G12 => wg (vstore T G12 t_api_Ledger (.ptr i10 [] 0) v6) fun G13 => ACalls P escrowref14_Read.n [a0] G13 fun v14 G15 => wv (vextract v14 0) fun v16 => wv (vextract v14 1) fun v17 => wv (vextract v14 2) fun v18 => wv (vextract v14 3) fun v19 => wv (vextract v14 4) fun v20 => aNew G15 (.own (z_api_Hash)) fun i21 G22 => aNew G22 (.own (z_api_Ledger)) fun i23 G24 => wg (vstore T G24 t_api_Hash (.ptr i21 [] 0) v18) fun G25 => wg (vstore T G25 t_api_Ledger (.ptr i23 [] 0) v19) fun G26 => wv (vbin T .eql t_int v3 v16) fun v27 => brB (some v27)
  (wv (vbin T .eql t_int64 v4 v17) fun v28 => brB (some v28)
  (wv (vload T G26 t_api_Hash (.ptr i8 [] 0)) fun v29 => wv (vload T G26 t_api_Hash (.ptr i21 [] 0)) fun v30 => wv (vbin T .eql t_api_Hash v29 v30) fun v31 => brB (some v31)
  (wv (vload T G26 t_api_Ledger (.ptr i10 [] 0)) fun v32 => wv (vload T G26 t_api_Ledger (.ptr i23 [] 0)) fun v33 => ACalls P escrowlaw14_same.n [v32, v33] G26 fun v34 G35 => brB (some v34)
  (wv (vbin T .eql t_api_Errno v7 v20) fun v36 => brB (some v36)
  (ACalls P escrowlaw14_first.n [] G35 fun v37 G38 => Q v37 G38)
  (Q (.bool false) G35))
  (Q (.bool false) G35))
  (Q (.bool false) G26))
  (Q (.bool false) G26))
  (Q (.bool false) G26)
def escrowlaw14_CommitReads.an : Ann := .nil
set_option maxRecDepth 100000 in
theorem escrowlaw14_CommitReads.sound {a0 : AVal} {G : Heap} {Q : AVal → Heap → Prop} (h : escrowlaw14_CommitReads.S a0 G Q) : ACalls P escrowlaw14_CommitReads.n [a0] G Q := by
  have e : escrowlaw14_CommitReads.S a0 G Q = awp cx (escrowlaw14_CommitReads.body) escrowlaw14_CommitReads.an (bodyQ T [.tmp 2] Q) (envL [a0]) G := by kernel_rfl
  exact ACalls_of_awp cxOk (f := escrowlaw14_CommitReads.n) (fn := Try.f4) (c := escrowlaw14_CommitReads.body) (an := escrowlaw14_CommitReads.an) Try.func4 (by kernel_rfl) (by kernel_rfl) (by kernel_rfl) (drawsOk_of (by kernel_rfl) (by kernel_rfl)) (by simp [Try.f4]) (e ▸ h)

end Go.Esc.M
