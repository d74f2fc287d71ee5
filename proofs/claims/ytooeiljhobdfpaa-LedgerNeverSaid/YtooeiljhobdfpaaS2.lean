/- Printed by gen.py (own work): functions of the program Ytooeiljhobdfpaa over trees and the abstract heap. -/
import Derived.Test.YtooeiljhobdfpaaT
set_option linter.unusedSimpArgs false
set_option linter.unusedVariables false
namespace Go.Esc.M
open Go Go.Esc Go.Proofs

/-! #### escrow/escrowlaw13.Made -/
def escrowlaw13_Made.S (a0 : AVal) (G : Heap) (Q : AVal → Heap → Prop) : Prop :=
  ∀ R1 : List AVal → Heap → Prop,
  (∀ (x3 x4 x5 : AVal) (G2 : Heap), (wv (vlen T G2 t_sl_api_Update x3) fun v6 => wv (vbin T .lss t_int x5 v6) fun v7 => brB (some v7)
  (wv (viaddr T t_sl_api_Update x3 x5) fun v8 => wv (vfaddr T t_api_Update v8 1) fun v9 => wv (vload T G2 t_int64 v9) fun v10 => wv (vbin T .and t_int64 v10 (.int .i64 2047)) fun v11 => wv (vbuild T t_api_Update [(0, .int .i64 1), (1, v11)]) fun v12 => aNew G2 (.own (z_api_Update)) fun i13 G14 => wg (vstore T G14 t_api_Update (.ptr i13 [] 0) v12) fun G15 => wv (viaddr T t_sl_api_Update x3 x5) fun v16 => wv (vfaddr T t_api_Update v16 0) fun v17 => wv (vload T G15 t_int v17) fun v18 => wv (vbin T .and t_int v18 (.int .i64 3)) fun v19 => let J46 : Heap → Prop := (fun G40 => wv (vload T G40 t_api_Update (.ptr i13 [] 0)) fun v41 => aBuildSlice T t_sl_api_Update 1 [(0, v41)] G40 fun v42 G43 => aAppend T G43 t_sl_api_Update t_sl_api_Update x4 v42 fun v44 G45 => wv (vbin T .add t_int x5 (.int .i64 1)) fun v47 => R1 [x3, v44, v47] G45);
  wv (vbin T .eql t_int v19 (.int .i64 2)) fun v20 => brB (some v20)
  (wg (vstore T G15 t_int (.ptr i13 [0] 0) (.int .i64 2)) fun G21 => wv (viaddr T t_sl_api_Update x3 x5) fun v22 => wv (vfaddr T t_api_Update v22 3) fun v23 => wv (vload T G21 t_api_Hash v23) fun v24 => wg (vstore T G21 t_api_Hash (.ptr i13 [3] 3) v24) fun G25 => J46 G25)
  (wv (vbin T .eql t_int v19 (.int .i64 3)) fun v26 => brB (some v26)
  (wg (vstore T G15 t_int (.ptr i13 [0] 0) (.int .i64 3)) fun G27 => J46 G27)
  (wv (viaddr T t_sl_api_Update x3 x5) fun v28 => wv (vfaddr T t_api_Update v28 2) fun v29 => wv (vload T G15 t_int64 v29) fun v30 => wv (vbin T .and t_int64 v30 (.int .i64 1152921504606846975)) fun v31 => wv (vbin T .add t_int64 (.int .i64 1) v31) fun v32 => wg (vstore T G15 t_int64 (.ptr i13 [2] 2) v32) fun G33 => wv (viaddr T t_sl_api_Update x3 x5) fun v34 => wv (vfaddr T t_api_Update v34 3) fun v35 => wv (vload T G33 t_api_Hash v35) fun v36 => wg (vstore T G33 t_api_Hash (.ptr i13 [3] 3) v36) fun G37 => J46 G37)))
  (Q x4 G2)) → R1 [x3, x4, x5] G2) →
  R1 [a0, .nilSlice, .int .i64 0] G
def escrowlaw13_Made.an : Ann := .two (.nil) (.two (.nil) (.two (.two (.nil) (.loop [0, 3, 4] (.nil))) (.nil)))
set_option maxRecDepth 100000 in
theorem escrowlaw13_Made.sound {a0 : AVal} {G : Heap} {Q : AVal → Heap → Prop} (h : escrowlaw13_Made.S a0 G Q) : ACalls P escrowlaw13_Made.n [a0] G Q := by
  have e : escrowlaw13_Made.S a0 G Q = awp cx (escrowlaw13_Made.body) escrowlaw13_Made.an (bodyQ T [.tmp 2] Q) (envL [a0]) G := by kernel_rfl
  exact ACalls_of_awp cxOk (f := escrowlaw13_Made.n) (fn := Try.f20) (c := escrowlaw13_Made.body) (an := escrowlaw13_Made.an) Try.func20 (by kernel_rfl) (by kernel_rfl) (by kernel_rfl) (drawsOk_of (by kernel_rfl) (by kernel_rfl)) (by simp [Try.f20]) (e ▸ h)

/-! #### escrow/escrowlaw13.counts -/
def escrowlaw13_counts.S (a0 a1 a2 : AVal) (G : Heap) (Q : AVal → Heap → Prop) : Prop :=
  aNew G (.own (a0)) fun i1 G2 => aNew G2 (.own (z_api_Counts)) fun i3 G4 => wv (vload T G4 t_int (.ptr i1 [0] 0)) fun v5 => wv (vconv T G4 t_int t_uint v5) fun v6 => wv (vbin T .add t_int a1 (.int .i64 1)) fun v7 => wv (vconv T G4 t_int t_uint v7) fun v8 => wv (vbin T .rem t_uint v6 v8) fun v9 => wv (vconv T G4 t_uint t_int v9) fun v10 => wv (vload T G4 t_int (.ptr i1 [1] 1)) fun v11 => wv (vconv T G4 t_int t_uint v11) fun v12 => wv (vbin T .add t_int a2 (.int .i64 1)) fun v13 => wv (vconv T G4 t_int t_uint v13) fun v14 => wv (vbin T .rem t_uint v12 v14) fun v15 => wv (vconv T G4 t_uint t_int v15) fun v16 => wv (vbuild T t_api_Counts [(0, v10), (1, v16)]) fun v17 => wg (vstore T G4 t_api_Counts (.ptr i3 [] 0) v17) fun G18 => wv (vload T G18 t_api_Counts (.ptr i3 [] 0)) fun v19 => Q v19 G18
def escrowlaw13_counts.an : Ann := .two (.nil) (.two (.ord [(0, []), (1, []), (2, []), (3, []), (4, []), (5, []), (6, []), (7, []), (8, []), (9, []), (10, []), (11, []), (12, []), (13, []), (14, []), (15, []), (16, []), (17, [])]) (.nil))
set_option maxRecDepth 100000 in
theorem escrowlaw13_counts.sound {a0 a1 a2 : AVal} {G : Heap} {Q : AVal → Heap → Prop} (h : escrowlaw13_counts.S a0 a1 a2 G Q) : ACalls P escrowlaw13_counts.n [a0, a1, a2] G Q := by
  have e : escrowlaw13_counts.S a0 a1 a2 G Q = awp cx (escrowlaw13_counts.body) escrowlaw13_counts.an (bodyQ T [.cell 6 24] Q) (envL [a0, a1, a2]) G := by kernel_rfl
  exact ACalls_of_awp cxOk (f := escrowlaw13_counts.n) (fn := Try.f21) (c := escrowlaw13_counts.body) (an := escrowlaw13_counts.an) Try.func21 (by kernel_rfl) (by kernel_rfl) (by kernel_rfl) (drawsOk_of (by kernel_rfl) (by kernel_rfl)) (by simp [Try.f21]) (e ▸ h)

/-! #### escrow/escrowlaw13.turned -/
def escrowlaw13_turned.S (a0 : AVal) (G : Heap) (Q : AVal → Heap → Prop) : Prop :=
  aNew G (.own (a0)) fun i1 G2 => aNew G2 (.own (z_api_Ledger)) fun i3 G4 => wv (vload T G4 t_int64 (.ptr i1 [1] 1)) fun v5 => wv (vload T G4 t_int64 (.ptr i1 [0] 0)) fun v6 => wv (vbuild T t_api_Ledger [(0, v5), (1, v6)]) fun v7 => aNew G4 (.own (z_api_Ledger)) fun i8 G9 => wg (vstore T G9 t_api_Ledger (.ptr i8 [] 0) v7) fun G10 => ∀ R11 : List AVal → Heap → Prop,
  (∀ (x13 x14 x15 x16 : AVal) (G12 : Heap), (wv (vbin T .lss t_int x16 (.int .i64 2)) fun v17 => brB (some v17)
  (∀ R18 : List AVal → Heap → Prop,
  (∀ (x20 x21 x22 x23 x24 : AVal) (G19 : Heap), (wv (vfaddr T t_api_Ledger x20 2) fun v25 => wv (vload T G19 t_sl_api_Pending v25) fun v26 => wv (vlen T G19 t_sl_api_Pending v26) fun v27 => wv (vbin T .lss t_int x24 v27) fun v28 => brB (some v28)
  (wv (vfaddr T t_api_Ledger x20 2) fun v29 => wv (vload T G19 t_sl_api_Pending v29) fun v30 => wv (viaddr T t_sl_api_Pending v30 x24) fun v31 => wv (vload T G19 t_api_Pending v31) fun v32 => aNew G19 (.own (z_api_Pending)) fun i33 G34 => wg (vstore T G34 t_api_Pending (.ptr i33 [] 0) v32) fun G35 => wv (vload T G35 t_bool (.ptr i33 [0] 0)) fun v36 => wv (vbin T .eql t_int x23 (.int .i64 1)) fun v37 => wv (vbin T .eql t_bool v36 v37) fun v38 => brB (some v38)
  (wv (vload T G35 t_bool (.ptr i33 [0] 0)) fun v39 => wv (vun .not v39) fun v40 => wg (vstore T G35 t_bool (.ptr i33 [0] 0) v40) fun G41 => wv (vfaddr T t_api_Ledger x22 2) fun v42 => wv (vload T G41 t_sl_api_Pending v42) fun v43 => wv (vload T G41 t_api_Pending (.ptr i33 [] 0)) fun v44 => aBuildSlice T t_sl_api_Pending 1 [(0, v44)] G41 fun v45 G46 => aAppend T G46 t_sl_api_Pending t_sl_api_Pending v43 v45 fun v47 G48 => wv (vfaddr T t_api_Ledger x22 2) fun v49 => wg (vstore T G48 t_sl_api_Pending v49 v47) fun G50 => wv (vbin T .add t_int x24 (.int .i64 1)) fun v54 => R18 [x20, x21, x22, x23, v54] G50)
  (wv (vbin T .add t_int x24 (.int .i64 1)) fun v55 => R18 [x20, x21, x22, x23, v55] G35))
  (wv (vbin T .add t_int x23 (.int .i64 1)) fun v56 => R11 [x20, x21, x22, v56] G19)) → R18 [x20, x21, x22, x23, x24] G19) →
  R18 [x13, x14, x15, x16, .int .i64 0] G12)
  (wv (vload T G12 t_api_Ledger x15) fun v57 => wg (vstore T G12 t_api_Ledger x14 v57) fun G58 => wv (vload T G58 t_api_Ledger x14) fun v59 => Q v59 G58)) → R11 [x13, x14, x15, x16] G12) →
  R11 [.ptr i1 [] 0, .ptr i3 [] 0, .ptr i8 [] 0, .int .i64 0] G10
def escrowlaw13_turned.an : Ann := .two (.nil) (.two (.nil) (.two (.two (.nil) (.loop [1, 2, 3, 4] (.two (.nil) (.two (.two (.nil) (.loop [1, 2, 3, 4, 5] (.nil))) (.nil))))) (.nil)))
set_option maxRecDepth 100000 in
theorem escrowlaw13_turned.sound {a0 : AVal} {G : Heap} {Q : AVal → Heap → Prop} (h : escrowlaw13_turned.S a0 G Q) : ACalls P escrowlaw13_turned.n [a0] G Q := by
  have e : escrowlaw13_turned.S a0 G Q = awp cx (escrowlaw13_turned.body) escrowlaw13_turned.an (bodyQ T [.cell 2 29] Q) (envL [a0]) G := by kernel_rfl
  exact ACalls_of_awp cxOk (f := escrowlaw13_turned.n) (fn := Try.f22) (c := escrowlaw13_turned.body) (an := escrowlaw13_turned.an) Try.func22 (by kernel_rfl) (by kernel_rfl) (by kernel_rfl) (drawsOk_of (by kernel_rfl) (by kernel_rfl)) (by simp [Try.f22]) (e ▸ h)

/-! #### escrow/escrowlaw13.whole -/
def escrowlaw13_whole.S (a0 a1 : AVal) (G : Heap) (Q : AVal → Heap → Prop) : Prop :=
  aNew G (.own (a0)) fun i1 G2 => let J87 : AVal → Heap → Prop := (fun x14 G13 => brB (some x14)
  (Q (.bool false) G13)
  (wv (vload T G13 t_int64 (.ptr i1 [0] 0)) fun v15 => wv (vbin T .sub t_int64 a1 v15) fun v16 => wv (vload T G13 t_int64 (.ptr i1 [1] 1)) fun v17 => wv (vbin T .sub t_int64 v16 v17) fun v18 => ∀ R19 : List AVal → Heap → Prop,
  (∀ (x21 x22 x23 : AVal) (G20 : Heap), (wv (vfaddr T t_api_Ledger x21 2) fun v24 => wv (vload T G20 t_sl_api_Pending v24) fun v25 => wv (vlen T G20 t_sl_api_Pending v25) fun v26 => wv (vbin T .lss t_int x23 v26) fun v27 => brB (some v27)
  (wv (vfaddr T t_api_Ledger x21 2) fun v28 => wv (vload T G20 t_sl_api_Pending v28) fun v29 => wv (viaddr T t_sl_api_Pending v29 x23) fun v30 => wv (vload T G20 t_api_Pending v30) fun v31 => aNew G20 (.own (z_api_Pending)) fun i32 G33 => wg (vstore T G33 t_api_Pending (.ptr i32 [] 0) v31) fun G34 => let J84 : AVal → Heap → Prop := (fun x81 G80 => brB (some x81)
  (Q (.bool false) G80)
  (wv (vload T G80 t_int64 (.ptr i32 [2] 2)) fun v82 => wv (vbin T .sub t_int64 x22 v82) fun v83 => wv (vbin T .add t_int x23 (.int .i64 1)) fun v85 => R19 [x21, v83, v85] G80));
  wv (vload T G34 t_int64 (.ptr i32 [2] 2)) fun v35 => wv (vbin T .lss t_int64 v35 (.int .i64 1)) fun v36 => brB (some v36)
  (J84 (.bool true) G34)
  (wv (vload T G34 t_int64 (.ptr i32 [2] 2)) fun v37 => wv (vbin T .gtr t_int64 v37 x22) fun v38 => brB (some v38)
  (J84 (.bool true) G34)
  (wv (vbin T .gtr t_int x23 (.int .i64 0)) fun v39 => brB (some v39)
  (wv (vload T G34 t_bool (.ptr i32 [0] 0)) fun v40 => brB (some v40)
  (wv (vfaddr T t_api_Ledger x21 2) fun v41 => wv (vload T G34 t_sl_api_Pending v41) fun v42 => wv (vbin T .sub t_int x23 (.int .i64 1)) fun v43 => wv (viaddr T t_sl_api_Pending v42 v43) fun v44 => wv (vfaddr T t_api_Pending v44 0) fun v45 => wv (vload T G34 t_bool v45) fun v46 => wv (vun .not v46) fun v47 => brB (some v47)
  (J84 (.bool true) G34)
  (wv (vload T G34 t_bool (.ptr i32 [0] 0)) fun v48 => wv (vfaddr T t_api_Ledger x21 2) fun v49 => wv (vload T G34 t_sl_api_Pending v49) fun v50 => wv (vbin T .sub t_int x23 (.int .i64 1)) fun v51 => wv (viaddr T t_sl_api_Pending v50 v51) fun v52 => wv (vfaddr T t_api_Pending v52 0) fun v53 => wv (vload T G34 t_bool v53) fun v54 => wv (vbin T .eql t_bool v48 v54) fun v55 => brB (some v55)
  (wv (vload T G34 t_int64 (.ptr i32 [1] 1)) fun v56 => wv (vfaddr T t_api_Ledger x21 2) fun v57 => wv (vload T G34 t_sl_api_Pending v57) fun v58 => wv (vbin T .sub t_int x23 (.int .i64 1)) fun v59 => wv (viaddr T t_sl_api_Pending v58 v59) fun v60 => wv (vfaddr T t_api_Pending v60 1) fun v61 => wv (vload T G34 t_int64 v61) fun v62 => wv (vbin T .lss t_int64 v56 v62) fun v63 => J84 v63 G34)
  (J84 (.bool false) G34)))
  (wv (vload T G34 t_bool (.ptr i32 [0] 0)) fun v64 => wv (vfaddr T t_api_Ledger x21 2) fun v65 => wv (vload T G34 t_sl_api_Pending v65) fun v66 => wv (vbin T .sub t_int x23 (.int .i64 1)) fun v67 => wv (viaddr T t_sl_api_Pending v66 v67) fun v68 => wv (vfaddr T t_api_Pending v68 0) fun v69 => wv (vload T G34 t_bool v69) fun v70 => wv (vbin T .eql t_bool v64 v70) fun v71 => brB (some v71)
  (wv (vload T G34 t_int64 (.ptr i32 [1] 1)) fun v72 => wv (vfaddr T t_api_Ledger x21 2) fun v73 => wv (vload T G34 t_sl_api_Pending v73) fun v74 => wv (vbin T .sub t_int x23 (.int .i64 1)) fun v75 => wv (viaddr T t_sl_api_Pending v74 v75) fun v76 => wv (vfaddr T t_api_Pending v76 1) fun v77 => wv (vload T G34 t_int64 v77) fun v78 => wv (vbin T .lss t_int64 v72 v78) fun v79 => J84 v79 G34)
  (J84 (.bool false) G34)))
  (J84 (.bool false) G34))))
  (wv (vbin T .eql t_int64 x22 (.int .i64 0)) fun v86 => Q v86 G20)) → R19 [x21, x22, x23] G20) →
  R19 [.ptr i1 [] 0, v18, .int .i64 0] G13));
  wv (vload T G2 t_int64 (.ptr i1 [0] 0)) fun v3 => wv (vbin T .lss t_int64 v3 (.int .i64 0)) fun v4 => brB (some v4)
  (J87 (.bool true) G2)
  (wv (vload T G2 t_int64 (.ptr i1 [1] 1)) fun v5 => wv (vbin T .lss t_int64 v5 (.int .i64 0)) fun v6 => brB (some v6)
  (J87 (.bool true) G2)
  (wv (vload T G2 t_int64 (.ptr i1 [0] 0)) fun v7 => wv (vbin T .gtr t_int64 v7 a1) fun v8 => brB (some v8)
  (J87 (.bool true) G2)
  (wv (vload T G2 t_int64 (.ptr i1 [1] 1)) fun v9 => wv (vload T G2 t_int64 (.ptr i1 [0] 0)) fun v10 => wv (vbin T .sub t_int64 a1 v10) fun v11 => wv (vbin T .gtr t_int64 v9 v11) fun v12 => J87 v12 G2)))
def escrowlaw13_whole.an : Ann := .two (.nil) (.two (.nil) (.two (.nil) (.two (.two (.nil) (.loop [2, 5, 6] (.two (.nil) (.two (.two (.nil) (.two (.two (.ord [(0, []), (1, []), (2, []), (3, []), (4, []), (5, []), (6, []), (7, []), (8, []), (9, []), (10, []), (11, []), (12, []), (13, []), (14, []), (15, []), (16, []), (17, []), (18, []), (19, []), (20, []), (21, []), (22, []), (23, []), (24, []), (25, []), (26, []), (27, []), (28, []), (29, []), (30, []), (31, []), (32, []), (33, []), (34, []), (35, []), (36, []), (37, []), (38, []), (39, []), (40, []), (41, []), (42, []), (43, []), (44, []), (45, []), (46, []), (47, []), (48, []), (49, []), (50, [])]) (.nil)) (.nil))) (.nil))))) (.nil))))
set_option maxRecDepth 100000 in
theorem escrowlaw13_whole.sound {a0 a1 : AVal} {G : Heap} {Q : AVal → Heap → Prop} (h : escrowlaw13_whole.S a0 a1 G Q) : ACalls P escrowlaw13_whole.n [a0, a1] G Q := by
  have e : escrowlaw13_whole.S a0 a1 G Q = awp cx (escrowlaw13_whole.body) escrowlaw13_whole.an (bodyQ T [.tmp 4] Q) (envL [a0, a1]) G := by kernel_rfl
  exact ACalls_of_awp cxOk (f := escrowlaw13_whole.n) (fn := Try.f23) (c := escrowlaw13_whole.body) (an := escrowlaw13_whole.an) Try.func23 (by kernel_rfl) (by kernel_rfl) (by kernel_rfl) (drawsOk_of (by kernel_rfl) (by kernel_rfl)) (by simp [Try.f23]) (e ▸ h)

/-! #### escrow/escrowlaw13.LedgerViews -/
def escrowlaw13_LedgerViews.S (a0 a1 a2 a3 a4 : AVal) (G : Heap) (Q : AVal → Heap → Prop) : Prop :=
  aNew G (.own (a4)) fun i1 G2 => ACalls P escrowlaw13_first.n [] G2 fun v3 G4 => wv (vun .not v3) fun v5 => brB (some v5)
  (Q (.bool false) G4)
  (ACalls P escrowlaw13_bases.n [a0, a1] G4 fun v6 G7 => wv (vextract v6 0) fun v8 => wv (vextract v6 1) fun v9 => ACalls P escrowlaw13_Made.n [a2] G7 fun v10 G11 => ACalls P escrowlaw13_Made.n [a3] G11 fun v12 G13 => wv (vload T G13 t_api_Counts (.ptr i1 [] 0)) fun v14 => wv (vlen T G13 t_sl_api_Update v10) fun v15 => wv (vlen T G13 t_sl_api_Update v12) fun v16 => ACalls P escrowlaw13_counts.n [v14, v15, v16] G13 fun v17 G18 => wg (vstore T G18 t_api_Counts (.ptr i1 [] 0) v17) fun G19 => wv (vload T G19 t_api_Counts (.ptr i1 [] 0)) fun v20 => ACalls P ledger_Fold.n [v8, v9, v10, v12, v20] G19 fun v21 G22 => wv (vextract v21 0) fun v23 => wv (vextract v21 1) fun v24 => aNew G22 (.own (z_api_Ledger)) fun i25 G26 => wg (vstore T G26 t_api_Ledger (.ptr i25 [] 0) v23) fun G27 => wv (vload T G27 t_int (.ptr i1 [1] 1)) fun v28 => wv (vload T G27 t_int (.ptr i1 [0] 0)) fun v29 => wv (vbuild T t_api_Counts [(0, v28), (1, v29)]) fun v30 => ACalls P ledger_Fold.n [v9, v8, v12, v10, v30] G27 fun v31 G32 => wv (vextract v31 0) fun v33 => wv (vextract v31 1) fun v34 => aNew G32 (.own (z_api_Ledger)) fun i35 G36 => wg (vstore T G36 t_api_Ledger (.ptr i35 [] 0) v33) fun G37 => let J60 : AVal → Heap → Prop := (fun x47 G46 => brB (some x47)
  (Q (.bool false) G46)
  (wv (vbin T .neq t_api_Errno v24 (.int .i64 0)) fun v48 => brB (some v48)
  (wv (vbin T .eql t_api_Errno v24 (.int .i64 130)) fun v49 => brB (some v49)
  (wv (vload T G46 t_api_Ledger (.ptr i25 [] 0)) fun v50 => wv (vbuild T t_api_Ledger []) fun v51 => ACalls P escrowlaw13_SameLedger.n [v50, v51] G46 fun v52 G53 => Q v52 G53)
  (Q (.bool false) G46))
  (wv (vload T G46 t_api_Ledger (.ptr i25 [] 0)) fun v56 => wv (vbin T .add t_int64 v8 v9) fun v57 => ACalls P escrowlaw13_whole.n [v56, v57] G46 fun v58 G59 => Q v58 G59)));
  wv (vbin T .neq t_api_Errno v24 v34) fun v38 => brB (some v38)
  (J60 (.bool true) G37)
  (wv (vload T G37 t_api_Ledger (.ptr i25 [] 0)) fun v39 => wv (vload T G37 t_api_Ledger (.ptr i35 [] 0)) fun v40 => ACalls P escrowlaw13_turned.n [v39] G37 fun v41 G42 => (vload T G42 t_api_Ledger (.ptr i35 [] 0) = some v40 ∧ True) ∧ (ACalls P escrowlaw13_SameLedger.n [v41, v40] G42 fun v43 G44 => wv (vun .not v43) fun v45 => J60 v45 G44)))
def escrowlaw13_LedgerViews.an : Ann := .two (.nil) (.two (.nil) (.two (.nil) (.two (.nil) (.two (.nil) (.two (.nil) (.two (.nil) (.two (.two (.ord [(0, []), (1, []), (2, []), (3, []), (4, []), (6, []), (5, [6]), (7, []), (8, []), (9, [])]) (.nil)) (.nil))))))))
set_option maxRecDepth 100000 in
theorem escrowlaw13_LedgerViews.sound {a0 a1 a2 a3 a4 : AVal} {G : Heap} {Q : AVal → Heap → Prop} (h : escrowlaw13_LedgerViews.S a0 a1 a2 a3 a4 G Q) : ACalls P escrowlaw13_LedgerViews.n [a0, a1, a2, a3, a4] G Q := by
  have e : escrowlaw13_LedgerViews.S a0 a1 a2 a3 a4 G Q = awp cx (escrowlaw13_LedgerViews.body) escrowlaw13_LedgerViews.an (bodyQ T [.tmp 10] Q) (envL [a0, a1, a2, a3, a4]) G := by kernel_rfl
  exact ACalls_of_awp cxOk (f := escrowlaw13_LedgerViews.n) (fn := Try.f5) (c := escrowlaw13_LedgerViews.body) (an := escrowlaw13_LedgerViews.an) Try.func5 (by kernel_rfl) (by kernel_rfl) (by kernel_rfl) (drawsOk_of (by kernel_rfl) (by kernel_rfl)) (by simp [Try.f5]) (e ▸ h)

/-! #### escrow/escrowlaw13.mod -/
def escrowlaw13_mod.S (a0 a1 : AVal) (G : Heap) (Q : AVal → Heap → Prop) : Prop :=
  wv (vconv T G t_int64 t_uint64 a0) fun v1 => wv (vbin T .add t_int64 a1 (.int .i64 1)) fun v2 => wv (vconv T G t_int64 t_uint64 v2) fun v3 => wv (vbin T .rem t_uint64 v1 v3) fun v4 => wv (vconv T G t_uint64 t_int64 v4) fun v5 => Q v5 G
def escrowlaw13_mod.an : Ann := .nil
set_option maxRecDepth 100000 in
theorem escrowlaw13_mod.sound {a0 a1 : AVal} {G : Heap} {Q : AVal → Heap → Prop} (h : escrowlaw13_mod.S a0 a1 G Q) : ACalls P escrowlaw13_mod.n [a0, a1] G Q := by
  have e : escrowlaw13_mod.S a0 a1 G Q = awp cx (escrowlaw13_mod.body) escrowlaw13_mod.an (bodyQ T [.tmp 4] Q) (envL [a0, a1]) G := by kernel_rfl
  exact ACalls_of_awp cxOk (f := escrowlaw13_mod.n) (fn := Try.f26) (c := escrowlaw13_mod.body) (an := escrowlaw13_mod.an) Try.func26 (by kernel_rfl) (by kernel_rfl) (by kernel_rfl) (drawsOk_of (by kernel_rfl) (by kernel_rfl)) (by simp [Try.f26]) (e ▸ h)

/-! #### (*escrow/escrowlaw13.book).spendable -/
def escrowlaw13_book_spendable.S (a0 a1 : AVal) (G : Heap) (Q : AVal → Heap → Prop) : Prop :=
  wv (vnil a0) fun v1 => wv (vfaddr T t_escrowlaw13_book v1 2) fun v2 => wv (viaddr T t_ar2_int64 v2 a1) fun v3 => wv (vload T G t_int64 v3) fun v4 => wv (vnil a0) fun v5 => wv (vfaddr T t_escrowlaw13_book v5 0) fun v6 => wv (viaddr T t_ar2_api_Update v6 a1) fun v7 => wv (vload T G t_sl_api_Update v7) fun v8 => wv (vbin T .sub t_int (.int .i64 1) a1) fun v9 => wv (vnil a0) fun v10 => wv (vfaddr T t_escrowlaw13_book v10 0) fun v11 => wv (viaddr T t_ar2_api_Update v11 v9) fun v12 => wv (vload T G t_sl_api_Update v12) fun v13 => wv (vnil a0) fun v14 => wv (vfaddr T t_escrowlaw13_book v14 1) fun v15 => wv (viaddr T t_ar2_int v15 a1) fun v16 => wv (vload T G t_int v16) fun v17 => wv (vbin T .sub t_int (.int .i64 1) a1) fun v18 => wv (vnil a0) fun v19 => wv (vfaddr T t_escrowlaw13_book v19 1) fun v20 => wv (viaddr T t_ar2_int v20 v18) fun v21 => wv (vload T G t_int v21) fun v22 => wv (vbuild T t_api_Counts [(0, v17), (1, v22)]) fun v23 => ACalls P ledger_Spendable.n [v4, v8, v13, v23] G fun v24 G25 => Q v24 G25
def escrowlaw13_book_spendable.an : Ann := .two (.nil) (.two (.ord [(0, []), (1, []), (2, []), (3, []), (4, []), (5, []), (6, []), (7, []), (8, []), (9, []), (10, []), (11, []), (12, []), (13, []), (14, []), (15, []), (16, []), (17, []), (18, []), (19, []), (20, []), (21, []), (22, []), (23, []), (24, []), (25, []), (26, []), (27, []), (28, []), (29, []), (30, []), (31, []), (32, []), (33, []), (34, [])]) (.nil))
set_option maxRecDepth 100000 in
theorem escrowlaw13_book_spendable.sound {a0 a1 : AVal} {G : Heap} {Q : AVal → Heap → Prop} (h : escrowlaw13_book_spendable.S a0 a1 G Q) : ACalls P escrowlaw13_book_spendable.n [a0, a1] G Q := by
  have e : escrowlaw13_book_spendable.S a0 a1 G Q = awp cx (escrowlaw13_book_spendable.body) escrowlaw13_book_spendable.an (bodyQ T [.tmp 4] Q) (envL [a0, a1]) G := by kernel_rfl
  exact ACalls_of_awp cxOk (f := escrowlaw13_book_spendable.n) (fn := Try.f49) (c := escrowlaw13_book_spendable.body) (an := escrowlaw13_book_spendable.an) Try.func49 (by kernel_rfl) (by kernel_rfl) (by kernel_rfl) (drawsOk_of (by kernel_rfl) (by kernel_rfl)) (by simp [Try.f49]) (e ▸ h)

/-! #### escrow/escrowlaw13.adds -/
def escrowlaw13_adds.S (a0 : AVal) (G : Heap) (Q : AVal → Heap → Prop) : Prop :=
  ∀ R1 : List AVal → Heap → Prop,
  (∀ (x3 x4 x5 : AVal) (G2 : Heap), (wv (vlen T G2 t_sl_api_Update x3) fun v6 => wv (vbin T .lss t_int x5 v6) fun v7 => brB (some v7)
  (wv (viaddr T t_sl_api_Update x3 x5) fun v8 => wv (vfaddr T t_api_Update v8 0) fun v9 => wv (vload T G2 t_int v9) fun v10 => wv (vbin T .eql t_int v10 (.int .i64 1)) fun v11 => brB (some v11)
  (wv (vbin T .add t_int64 x4 (.int .i64 1)) fun v12 => wv (vbin T .add t_int x5 (.int .i64 1)) fun v18 => R1 [x3, v12, v18] G2)
  (wv (vbin T .add t_int x5 (.int .i64 1)) fun v19 => R1 [x3, x4, v19] G2))
  (Q x4 G2)) → R1 [x3, x4, x5] G2) →
  R1 [a0, .int .i64 0, .int .i64 0] G
def escrowlaw13_adds.an : Ann := .two (.nil) (.two (.nil) (.two (.two (.nil) (.loop [0, 3, 4] (.nil))) (.nil)))
set_option maxRecDepth 100000 in
theorem escrowlaw13_adds.sound {a0 : AVal} {G : Heap} {Q : AVal → Heap → Prop} (h : escrowlaw13_adds.S a0 G Q) : ACalls P escrowlaw13_adds.n [a0] G Q := by
  have e : escrowlaw13_adds.S a0 G Q = awp cx (escrowlaw13_adds.body) escrowlaw13_adds.an (bodyQ T [.tmp 2] Q) (envL [a0]) G := by kernel_rfl
  exact ACalls_of_awp cxOk (f := escrowlaw13_adds.n) (fn := Try.f50) (c := escrowlaw13_adds.body) (an := escrowlaw13_adds.an) Try.func50 (by kernel_rfl) (by kernel_rfl) (by kernel_rfl) (drawsOk_of (by kernel_rfl) (by kernel_rfl)) (by simp [Try.f50]) (e ▸ h)

/-! #### (*escrow/escrowlaw13.book).removable -/
def escrowlaw13_book_removable.S (a0 a1 : AVal) (G : Heap) (Q : AVal → Heap → Prop) : Prop :=
  ∀ R1 : List AVal → Heap → Prop,
  (∀ (x3 x4 x5 x6 : AVal) (G2 : Heap), (wv (vbin T .sub t_int (.int .i64 1) x4) fun v7 => wv (vnil x3) fun v8 => wv (vfaddr T t_escrowlaw13_book v8 1) fun v9 => wv (viaddr T t_ar2_int v9 v7) fun v10 => wv (vload T G2 t_int v10) fun v11 => wv (vbin T .lss t_int x6 v11) fun v12 => brB (some v12)
  (wv (vbin T .sub t_int (.int .i64 1) x4) fun v13 => wv (vnil x3) fun v14 => wv (vfaddr T t_escrowlaw13_book v14 0) fun v15 => wv (viaddr T t_ar2_api_Update v15 v13) fun v16 => wv (vload T G2 t_sl_api_Update v16) fun v17 => wv (viaddr T t_sl_api_Update v17 x6) fun v18 => wv (vload T G2 t_api_Update v18) fun v19 => aNew G2 (.own (z_api_Update)) fun i20 G21 => wg (vstore T G21 t_api_Update (.ptr i20 [] 0) v19) fun G22 => wv (vload T G22 t_int (.ptr i20 [0] 0)) fun v23 => wv (vbin T .neq t_int v23 (.int .i64 1)) fun v24 => ∀ R25 : List AVal → Heap → Prop,
  (∀ (x27 x28 x29 x30 x31 x32 x33 : AVal) (G26 : Heap), (let J68 : AVal → Heap → Prop := (fun x42 G41 => brB (some x42)
  (wv (vnil x27) fun v43 => wv (vfaddr T t_escrowlaw13_book v43 0) fun v44 => wv (viaddr T t_ar2_api_Update v44 x28) fun v45 => wv (vload T G41 t_sl_api_Update v45) fun v46 => wv (viaddr T t_sl_api_Update v46 x33) fun v47 => wv (vfaddr T t_api_Update v47 0) fun v48 => wv (vload T G41 t_int v48) fun v49 => wv (vbin T .neq t_int v49 (.int .i64 1)) fun v50 => brB (some v50)
  (wv (vnil x27) fun v51 => wv (vfaddr T t_escrowlaw13_book v51 0) fun v52 => wv (viaddr T t_ar2_api_Update v52 x28) fun v53 => wv (vload T G41 t_sl_api_Update v53) fun v54 => wv (viaddr T t_sl_api_Update v54 x33) fun v55 => wv (vfaddr T t_api_Update v55 1) fun v56 => wv (vload T G41 t_int64 v56) fun v57 => wv (vfaddr T t_api_Update x31 1) fun v58 => wv (vload T G41 t_int64 v58) fun v59 => wv (vbin T .eql t_int64 v57 v59) fun v60 => wv (vbin T .add t_int x33 (.int .i64 1)) fun v66 => R25 [x27, x28, x29, x30, x31, v60, v66] G41)
  (wv (vbin T .add t_int x33 (.int .i64 1)) fun v67 => R25 [x27, x28, x29, x30, x31, .bool false, v67] G41))
  (wv (vun .not x32) fun v69 => brB (some v69)
  (wv (vfaddr T t_api_Update x31 1) fun v70 => wv (vload T G41 t_int64 v70) fun v71 => aBuildSlice T t_sl_int64 1 [(0, v71)] G41 fun v72 G73 => aAppend T G73 t_sl_int64 t_sl_int64 x29 v72 fun v74 G75 => wv (vbin T .add t_int x30 (.int .i64 1)) fun v84 => R1 [x27, x28, v74, v84] G75)
  (wv (vbin T .add t_int x30 (.int .i64 1)) fun v85 => R1 [x27, x28, x29, v85] G41)));
  wv (vnil x27) fun v34 => wv (vfaddr T t_escrowlaw13_book v34 0) fun v35 => wv (viaddr T t_ar2_api_Update v35 x28) fun v36 => wv (vload T G26 t_sl_api_Update v36) fun v37 => wv (vlen T G26 t_sl_api_Update v37) fun v38 => wv (vbin T .lss t_int x33 v38) fun v39 => brB (some v39)
  (wv (vun .not x32) fun v40 => J68 v40 G26)
  (J68 (.bool false) G26)) → R25 [x27, x28, x29, x30, x31, x32, x33] G26) →
  R25 [x3, x4, x5, x6, .ptr i20 [] 0, v24, .int .i64 0] G22)
  (Q x5 G2)) → R1 [x3, x4, x5, x6] G2) →
  R1 [a0, a1, .nilSlice, .int .i64 0] G
def escrowlaw13_book_removable.an : Ann := .two (.nil) (.two (.nil) (.two (.two (.nil) (.loop [0, 1, 5, 6] (.two (.nil) (.two (.two (.nil) (.two (.nil) (.two (.two (.nil) (.loop [0, 1, 5, 6, 7, 8, 9] (.two (.nil) (.two (.ord [(0, []), (1, []), (2, []), (3, []), (4, []), (5, []), (6, []), (7, []), (8, []), (9, []), (10, []), (11, []), (12, []), (13, []), (14, []), (15, []), (16, []), (17, []), (18, []), (19, []), (20, []), (21, []), (22, []), (23, []), (24, []), (25, []), (26, [])]) (.nil))))) (.nil)))) (.nil))))) (.nil)))
set_option maxRecDepth 100000 in
theorem escrowlaw13_book_removable.sound {a0 a1 : AVal} {G : Heap} {Q : AVal → Heap → Prop} (h : escrowlaw13_book_removable.S a0 a1 G Q) : ACalls P escrowlaw13_book_removable.n [a0, a1] G Q := by
  have e : escrowlaw13_book_removable.S a0 a1 G Q = awp cx (escrowlaw13_book_removable.body) escrowlaw13_book_removable.an (bodyQ T [.tmp 4] Q) (envL [a0, a1]) G := by kernel_rfl
  exact ACalls_of_awp cxOk (f := escrowlaw13_book_removable.n) (fn := Try.f51) (c := escrowlaw13_book_removable.body) (an := escrowlaw13_book_removable.an) Try.func51 (by kernel_rfl) (by kernel_rfl) (by kernel_rfl) (drawsOk_of (by kernel_rfl) (by kernel_rfl)) (by simp [Try.f51]) (e ▸ h)

/-! #### (*escrow/escrowlaw13.book).step -/
def escrowlaw13_book_step.S (a0 a1 : AVal) (G : Heap) (Q : AVal → Heap → Prop) : Prop :=
  aNew G (.own (a1)) fun i1 G2 => wv (vload T G2 t_int (.ptr i1 [1] 1)) fun v3 => wv (vbin T .and t_int v3 (.int .i64 1)) fun v4 => wv (vload T G2 t_int (.ptr i1 [0] 0)) fun v5 => wv (vbin T .eql t_int v5 (.int .i64 1)) fun v6 => brB (some v6)
  (ACalls P escrowlaw13_book_spendable.n [a0, v4] G2 fun v7 G8 => let J57 : AVal → Heap → Prop := (fun x21 G20 => brB (some x21)
  (Q (.bool false) G20)
  (let J56 : AVal → Heap → Prop := (fun x30 G29 => brB (some x30)
  (wv (vnil a0) fun v31 => wv (vfaddr T t_escrowlaw13_book v31 0) fun v32 => wv (viaddr T t_ar2_api_Update v32 v4) fun v33 => wv (vload T G29 t_sl_api_Update v33) fun v34 => wv (vnil a0) fun v35 => wv (vfaddr T t_escrowlaw13_book v35 0) fun v36 => wv (viaddr T t_ar2_api_Update v36 v4) fun v37 => wv (vload T G29 t_sl_api_Update v37) fun v38 => wv (vload T G29 t_int64 (.ptr i1 [2] 2)) fun v39 => wv (vbin T .sub t_int64 v7 (.int .i64 1)) fun v40 => wv (vnil a0) fun v41 => wv (vfaddr T t_escrowlaw13_book v41 0) fun v42 => ACalls P escrowlaw13_adds.n [v38] G29 fun v43 G44 => (vload T G44 t_int64 (.ptr i1 [2] 2) = some v39 ∧ vload T G44 t_sl_api_Update v33 = some v34 ∧ True) ∧ (ACalls P escrowlaw13_mod.n [v39, v40] G44 fun v45 G46 => (vload T G46 t_sl_api_Update v33 = some v34 ∧ True) ∧ (wv (vbin T .add t_int64 (.int .i64 1) v45) fun v47 => wv (vbuild T t_api_Update [(0, .int .i64 1), (1, v43), (2, v47)]) fun v48 => aBuildSlice T t_sl_api_Update 1 [(0, v48)] G46 fun v49 G50 => aAppend T G50 t_sl_api_Update t_sl_api_Update v34 v49 fun v51 G52 => wv (viaddr T t_ar2_api_Update v42 v4) fun v53 => wg (vstore T G52 t_sl_api_Update v53 v51) fun G54 => Q (.bool true) G54)))
  (Q (.bool true) G29));
  wv (vbin T .gtr t_int64 v7 (.int .i64 0)) fun v22 => brB (some v22)
  (wv (vnil a0) fun v23 => wv (vfaddr T t_escrowlaw13_book v23 0) fun v24 => wv (viaddr T t_ar2_api_Update v24 v4) fun v25 => wv (vload T G20 t_sl_api_Update v25) fun v26 => wv (vlen T G20 t_sl_api_Update v26) fun v27 => wv (vbin T .lss t_int v27 (.int .i64 2048)) fun v28 => J56 v28 G20)
  (J56 (.bool false) G20)));
  wv (vbin T .lss t_int64 v7 (.int .i64 0)) fun v9 => brB (some v9)
  (J57 (.bool true) G8)
  (wv (vnil a0) fun v10 => wv (vfaddr T t_escrowlaw13_book v10 2) fun v11 => wv (viaddr T t_ar2_int64 v11 (.int .i64 0)) fun v12 => wv (vload T G8 t_int64 v12) fun v13 => wv (vnil a0) fun v14 => wv (vfaddr T t_escrowlaw13_book v14 2) fun v15 => wv (viaddr T t_ar2_int64 v15 (.int .i64 1)) fun v16 => wv (vload T G8 t_int64 v16) fun v17 => wv (vbin T .add t_int64 v13 v17) fun v18 => wv (vbin T .gtr t_int64 v7 v18) fun v19 => J57 v19 G8))
  (wv (vbin T .eql t_int v5 (.int .i64 2)) fun v58 => let J122 : AVal → Heap → Prop := (fun x61 G60 => brB (some x61)
  (ACalls P escrowlaw13_book_removable.n [a0, v4] G60 fun v62 G63 => let J96 : AVal → Heap → Prop := (fun x73 G72 => brB (some x73)
  (wv (vnil a0) fun v74 => wv (vfaddr T t_escrowlaw13_book v74 0) fun v75 => wv (viaddr T t_ar2_api_Update v75 v4) fun v76 => wv (vload T G72 t_sl_api_Update v76) fun v77 => wv (vload T G72 t_int (.ptr i1 [0] 0)) fun v78 => wv (vload T G72 t_int64 (.ptr i1 [2] 2)) fun v79 => wv (vlen T G72 t_sl_int64 v62) fun v80 => wv (vbin T .sub t_int v80 (.int .i64 1)) fun v81 => wv (vnil a0) fun v82 => wv (vfaddr T t_escrowlaw13_book v82 0) fun v83 => ACalls P escrowlaw13_mod.n [v79, v81] G72 fun v84 G85 => (vload T G85 t_int (.ptr i1 [0] 0) = some v78 ∧ vload T G85 t_sl_api_Update v76 = some v77 ∧ True) ∧ (wv (viaddr T t_sl_int64 v62 v84) fun v86 => wv (vload T G85 t_int64 v86) fun v87 => wv (vbuild T t_api_Update [(0, v78), (1, v87)]) fun v88 => aBuildSlice T t_sl_api_Update 1 [(0, v88)] G85 fun v89 G90 => aAppend T G90 t_sl_api_Update t_sl_api_Update v77 v89 fun v91 G92 => wv (viaddr T t_ar2_api_Update v83 v4) fun v93 => wg (vstore T G92 t_sl_api_Update v93 v91) fun G94 => Q (.bool true) G94))
  (Q (.bool true) G72));
  wv (vlen T G63 t_sl_int64 v62) fun v64 => wv (vbin T .gtr t_int v64 (.int .i64 0)) fun v65 => brB (some v65)
  (wv (vnil a0) fun v66 => wv (vfaddr T t_escrowlaw13_book v66 0) fun v67 => wv (viaddr T t_ar2_api_Update v67 v4) fun v68 => wv (vload T G63 t_sl_api_Update v68) fun v69 => wv (vlen T G63 t_sl_api_Update v69) fun v70 => wv (vbin T .lss t_int v70 (.int .i64 2048)) fun v71 => J96 v71 G63)
  (J96 (.bool false) G63))
  (wv (vbin T .eql t_int v5 (.int .i64 4)) fun v97 => brB (some v97)
  (wv (vnil a0) fun v98 => wv (vfaddr T t_escrowlaw13_book v98 1) fun v99 => wv (viaddr T t_ar2_int v99 v4) fun v100 => wv (vload T G60 t_int v100) fun v101 => wv (vload T G60 t_int64 (.ptr i1 [2] 2)) fun v102 => wv (vnil a0) fun v103 => wv (vfaddr T t_escrowlaw13_book v103 0) fun v104 => wv (viaddr T t_ar2_api_Update v104 v4) fun v105 => wv (vload T G60 t_sl_api_Update v105) fun v106 => wv (vlen T G60 t_sl_api_Update v106) fun v107 => wv (vnil a0) fun v108 => wv (vfaddr T t_escrowlaw13_book v108 1) fun v109 => wv (viaddr T t_ar2_int v109 v4) fun v110 => wv (vload T G60 t_int v110) fun v111 => wv (vbin T .sub t_int v107 v111) fun v112 => wv (vnil a0) fun v113 => wv (vfaddr T t_escrowlaw13_book v113 1) fun v114 => ACalls P escrowlaw13_mod.n [v102, v112] G60 fun v115 G116 => (vload T G116 t_int v100 = some v101 ∧ True) ∧ (wv (vbin T .add t_int v101 v115) fun v117 => wv (viaddr T t_ar2_int v114 v4) fun v118 => wg (vstore T G116 t_int v118 v117) fun G119 => Q (.bool true) G119))
  (Q (.bool true) G60)));
  brB (some v58)
  (J122 v58 G2)
  (wv (vbin T .eql t_int v5 (.int .i64 3)) fun v59 => J122 v59 G2))
def escrowlaw13_book_step.an : Ann := .two (.nil) (.two (.nil) (.two (.two (.nil) (.two (.nil) (.two (.two (.nil) (.two (.two (.ord [(0, []), (1, []), (2, []), (3, []), (4, []), (5, []), (6, []), (7, []), (8, []), (9, []), (10, []), (11, []), (12, []), (13, []), (14, []), (15, []), (16, [])]) (.nil)) (.two (.nil) (.two (.ord [(0, []), (1, []), (2, []), (3, []), (4, []), (5, []), (6, []), (7, []), (8, []), (9, []), (10, []), (11, []), (12, []), (13, []), (15, []), (16, []), (17, []), (18, []), (24, []), (25, []), (14, [7, 16]), (19, [7]), (20, []), (21, []), (22, []), (23, []), (26, []), (27, [])]) (.nil))))) (.two (.nil) (.two (.two (.nil) (.two (.nil) (.two (.ord [(0, []), (1, []), (2, []), (3, []), (4, []), (5, []), (6, []), (7, []), (8, []), (9, []), (10, []), (11, []), (12, []), (13, []), (14, []), (15, []), (22, []), (23, []), (16, [7, 9]), (17, []), (18, []), (19, []), (20, []), (21, []), (24, []), (25, [])]) (.nil)))) (.two (.nil) (.two (.ord [(0, []), (1, []), (2, []), (3, []), (4, []), (5, []), (6, []), (7, []), (8, []), (9, []), (10, []), (11, []), (12, []), (13, []), (14, []), (15, []), (16, []), (17, []), (18, []), (19, []), (20, []), (21, []), (22, []), (23, []), (26, []), (27, []), (24, [7]), (25, []), (28, []), (29, [])]) (.nil)))))))) (.nil)))
set_option maxRecDepth 100000 in
theorem escrowlaw13_book_step.sound {a0 a1 : AVal} {G : Heap} {Q : AVal → Heap → Prop} (h : escrowlaw13_book_step.S a0 a1 G Q) : ACalls P escrowlaw13_book_step.n [a0, a1] G Q := by
  have e : escrowlaw13_book_step.S a0 a1 G Q = awp cx (escrowlaw13_book_step.body) escrowlaw13_book_step.an (bodyQ T [.tmp 4] Q) (envL [a0, a1]) G := by kernel_rfl
  exact ACalls_of_awp cxOk (f := escrowlaw13_book_step.n) (fn := Try.f24) (c := escrowlaw13_book_step.body) (an := escrowlaw13_book_step.an) Try.func24 (by kernel_rfl) (by kernel_rfl) (by kernel_rfl) (drawsOk_of (by kernel_rfl) (by kernel_rfl)) (by simp [Try.f24]) (e ▸ h)

/-! #### (*escrow/escrowlaw13.book).taken -/
def escrowlaw13_book_taken.S (a0 a1 a2 : AVal) (G : Heap) (Q : AVal → Heap → Prop) : Prop :=
  wv (vnil a0) fun v1 => wv (vfaddr T t_escrowlaw13_book v1 2) fun v2 => wv (viaddr T t_ar2_int64 v2 (.int .i64 0)) fun v3 => wv (vload T G t_int64 v3) fun v4 => wv (vnil a0) fun v5 => wv (vfaddr T t_escrowlaw13_book v5 2) fun v6 => wv (viaddr T t_ar2_int64 v6 (.int .i64 1)) fun v7 => wv (vload T G t_int64 v7) fun v8 => wv (vnil a0) fun v9 => wv (vfaddr T t_escrowlaw13_book v9 0) fun v10 => wv (viaddr T t_ar2_api_Update v10 (.int .i64 0)) fun v11 => wv (vload T G t_sl_api_Update v11) fun v12 => wv (vnil a0) fun v13 => wv (vfaddr T t_escrowlaw13_book v13 0) fun v14 => wv (viaddr T t_ar2_api_Update v14 (.int .i64 1)) fun v15 => wv (vload T G t_sl_api_Update v15) fun v16 => wv (vbuild T t_api_Counts [(0, a1), (1, a2)]) fun v17 => ACalls P ledger_Fold.n [v4, v8, v12, v16, v17] G fun v18 G19 => wv (vextract v18 0) fun v20 => wv (vextract v18 1) fun v21 => aNew G19 (.own (z_api_Ledger)) fun i22 G23 => wg (vstore T G23 t_api_Ledger (.ptr i22 [] 0) v20) fun G24 => wv (vbin T .eql t_api_Errno v21 (.int .i64 0)) fun v25 => brB (some v25)
  (wv (vload T G24 t_api_Ledger (.ptr i22 [] 0)) fun v26 => wv (vnil a0) fun v27 => wv (vfaddr T t_escrowlaw13_book v27 2) fun v28 => wv (viaddr T t_ar2_int64 v28 (.int .i64 0)) fun v29 => wv (vload T G24 t_int64 v29) fun v30 => wv (vnil a0) fun v31 => wv (vfaddr T t_escrowlaw13_book v31 2) fun v32 => wv (viaddr T t_ar2_int64 v32 (.int .i64 1)) fun v33 => wv (vload T G24 t_int64 v33) fun v34 => wv (vbin T .add t_int64 v30 v34) fun v35 => ACalls P escrowlaw13_whole.n [v26, v35] G24 fun v36 G37 => Q v36 G37)
  (Q (.bool false) G24)
def escrowlaw13_book_taken.an : Ann := .two (.nil) (.two (.ord [(0, []), (1, []), (2, []), (3, []), (4, []), (5, []), (6, []), (7, []), (8, []), (9, []), (10, []), (11, []), (12, []), (13, []), (14, []), (15, []), (16, []), (17, []), (18, []), (19, []), (20, []), (21, []), (22, []), (23, []), (24, []), (25, []), (26, []), (27, []), (28, []), (29, [])]) (.two (.ord [(0, []), (1, []), (2, []), (3, []), (4, []), (5, []), (6, []), (7, []), (8, []), (9, []), (10, []), (11, []), (12, []), (13, []), (14, []), (15, []), (16, []), (17, [])]) (.nil)))
set_option maxRecDepth 100000 in
theorem escrowlaw13_book_taken.sound {a0 a1 a2 : AVal} {G : Heap} {Q : AVal → Heap → Prop} (h : escrowlaw13_book_taken.S a0 a1 a2 G Q) : ACalls P escrowlaw13_book_taken.n [a0, a1, a2] G Q := by
  have e : escrowlaw13_book_taken.S a0 a1 a2 G Q = awp cx (escrowlaw13_book_taken.body) escrowlaw13_book_taken.an (bodyQ T [.tmp 6] Q) (envL [a0, a1, a2]) G := by kernel_rfl
  exact ACalls_of_awp cxOk (f := escrowlaw13_book_taken.n) (fn := Try.f25) (c := escrowlaw13_book_taken.body) (an := escrowlaw13_book_taken.an) Try.func25 (by kernel_rfl) (by kernel_rfl) (by kernel_rfl) (drawsOk_of (by kernel_rfl) (by kernel_rfl)) (by simp [Try.f25]) (e ▸ h)

/-! #### escrow/escrowlaw13.LedgerNever -/
def escrowlaw13_LedgerNever.S (a0 a1 a2 : AVal) (G : Heap) (Q : AVal → Heap → Prop) : Prop :=
  ACalls P escrowlaw13_first.n [] G fun v1 G2 => wv (vun .not v1) fun v3 => brB (some v3)
  (Q (.bool false) G2)
  (wv (vbuild T t_escrowlaw13_book []) fun v4 => aNew G2 (.own (v4)) fun i5 G6 => ACalls P escrowlaw13_bases.n [a0, a1] G6 fun v7 G8 => wv (vextract v7 0) fun v9 => wv (vextract v7 1) fun v10 => wv (viaddr T t_ar2_int64 (.ptr i5 [2] 4) (.int .i64 0)) fun v11 => wg (vstore T G8 t_int64 v11 v9) fun G12 => wv (viaddr T t_ar2_int64 (.ptr i5 [2] 4) (.int .i64 1)) fun v13 => wg (vstore T G12 t_int64 v13 v10) fun G14 => ∀ R15 : List AVal → Heap → Prop,
  (∀ (x17 x18 x19 : AVal) (G16 : Heap), (wv (vlen T G16 t_sl_escrowlaw13_Step x17) fun v20 => wv (vbin T .lss t_int x19 v20) fun v21 => brB (some v21)
  (wv (viaddr T t_sl_escrowlaw13_Step x17 x19) fun v22 => wv (vload T G16 t_escrowlaw13_Step v22) fun v23 => ACalls P escrowlaw13_book_step.n [x18, v23] G16 fun v24 G25 => wv (vun .not v24) fun v26 => brB (some v26)
  (Q (.bool false) G25)
  (let J84 : AVal → Heap → Prop := (fun x32 G31 => brB (some x32)
  (wv (vbin T .add t_int x19 (.int .i64 1)) fun v87 => R15 [x17, x18, v87] G31)
  (wv (vnil x18) fun v33 => wv (vfaddr T t_escrowlaw13_book v33 0) fun v34 => wv (viaddr T t_ar2_api_Update v34 (.int .i64 0)) fun v35 => wv (vload T G31 t_sl_api_Update v35) fun v36 => wv (vlen T G31 t_sl_api_Update v36) fun v37 => wv (vnil x18) fun v38 => wv (vfaddr T t_escrowlaw13_book v38 0) fun v39 => wv (viaddr T t_ar2_api_Update v39 (.int .i64 1)) fun v40 => wv (vload T G31 t_sl_api_Update v40) fun v41 => wv (vlen T G31 t_sl_api_Update v41) fun v42 => wv (vnil x18) fun v43 => wv (vfaddr T t_escrowlaw13_book v43 1) fun v44 => wv (viaddr T t_ar2_int v44 (.int .i64 0)) fun v45 => wv (vload T G31 t_int v45) fun v46 => wv (vnil x18) fun v47 => wv (vfaddr T t_escrowlaw13_book v47 1) fun v48 => wv (viaddr T t_ar2_int v48 (.int .i64 1)) fun v49 => wv (vload T G31 t_int v49) fun v50 => let J83 : AVal → Heap → Prop := (fun x64 G63 => brB (some x64)
  (Q (.bool false) G63)
  (wv (viaddr T t_sl_escrowlaw13_Step x17 x19) fun v65 => wv (vfaddr T t_escrowlaw13_Step v65 2) fun v66 => wv (vload T G63 t_int64 v66) fun v67 => wv (vbin T .sub t_int v37 v46) fun v68 => wv (viaddr T t_sl_escrowlaw13_Step x17 x19) fun v69 => wv (vfaddr T t_escrowlaw13_Step v69 2) fun v70 => wv (vload T G63 t_int64 v70) fun v71 => wv (vbin T .shr t_int64 v71 (.int .u64 7)) fun v72 => wv (vbin T .sub t_int v42 v50) fun v73 => ACalls P escrowlaw13_mod.n [v67, v68] G63 fun v74 G75 => (vload T G75 t_int64 v70 = some v71 ∧ True) ∧ (wv (vbin T .add t_int v46 v74) fun v76 => ACalls P escrowlaw13_mod.n [v72, v73] G75 fun v77 G78 => wv (vbin T .add t_int v50 v77) fun v79 => ACalls P escrowlaw13_book_taken.n [x18, v76, v79] G78 fun v80 G81 => wv (vun .not v80) fun v82 => brB (some v82)
  (Q (.bool false) G81)
  (wv (vbin T .add t_int x19 (.int .i64 1)) fun v88 => R15 [x17, x18, v88] G81))));
  ACalls P escrowlaw13_book_taken.n [x18, v37, v42] G31 fun v51 G52 => wv (vun .not v51) fun v53 => brB (some v53)
  (J83 (.bool true) G52)
  (ACalls P escrowlaw13_book_taken.n [x18, v46, v42] G52 fun v54 G55 => wv (vun .not v54) fun v56 => brB (some v56)
  (J83 (.bool true) G55)
  (ACalls P escrowlaw13_book_taken.n [x18, v37, v50] G55 fun v57 G58 => wv (vun .not v57) fun v59 => brB (some v59)
  (J83 (.bool true) G58)
  (ACalls P escrowlaw13_book_taken.n [x18, v46, v50] G58 fun v60 G61 => wv (vun .not v60) fun v62 => J83 v62 G61)))));
  wv (vbin T .gtr t_int x19 (.int .i64 200)) fun v27 => brB (some v27)
  (wv (vbin T .add t_int x19 (.int .i64 50)) fun v28 => wv (vlen T G25 t_sl_escrowlaw13_Step x17) fun v29 => wv (vbin T .lss t_int v28 v29) fun v30 => J84 v30 G25)
  (J84 (.bool false) G25)))
  (Q (.bool true) G16)) → R15 [x17, x18, x19] G16) →
  R15 [a2, .ptr i5 [] 0, .int .i64 0] G14)
def escrowlaw13_LedgerNever.an : Ann := .two (.nil) (.two (.nil) (.two (.nil) (.two (.ord [(0, []), (1, []), (2, []), (3, []), (8, []), (9, []), (12, []), (13, []), (4, []), (5, []), (6, []), (7, []), (10, []), (11, []), (14, []), (15, [])]) (.two (.two (.nil) (.loop [2, 7, 8] (.two (.nil) (.two (.two (.nil) (.two (.nil) (.two (.ord [(0, []), (1, []), (2, []), (3, []), (4, []), (5, []), (6, []), (7, []), (8, []), (9, []), (10, []), (11, []), (12, []), (13, [])]) (.two (.ord [(0, []), (1, []), (2, []), (3, []), (4, []), (5, []), (6, []), (7, []), (8, []), (9, []), (10, []), (11, [])]) (.two (.nil) (.two (.ord [(0, []), (1, []), (2, []), (3, []), (4, []), (5, []), (6, []), (7, []), (8, []), (9, []), (12, []), (13, []), (14, []), (15, []), (16, []), (17, []), (18, []), (19, []), (20, []), (21, []), (10, [17]), (11, []), (22, []), (23, []), (24, []), (25, [])]) (.nil))))))) (.nil))))) (.nil)))))
set_option maxRecDepth 100000 in
theorem escrowlaw13_LedgerNever.sound {a0 a1 a2 : AVal} {G : Heap} {Q : AVal → Heap → Prop} (h : escrowlaw13_LedgerNever.S a0 a1 a2 G Q) : ACalls P escrowlaw13_LedgerNever.n [a0, a1, a2] G Q := by
  have e : escrowlaw13_LedgerNever.S a0 a1 a2 G Q = awp cx (escrowlaw13_LedgerNever.body) escrowlaw13_LedgerNever.an (bodyQ T [.tmp 6] Q) (envL [a0, a1, a2]) G := by kernel_rfl
  exact ACalls_of_awp cxOk (f := escrowlaw13_LedgerNever.n) (fn := Try.f6) (c := escrowlaw13_LedgerNever.body) (an := escrowlaw13_LedgerNever.an) Try.func6 (by kernel_rfl) (by kernel_rfl) (by kernel_rfl) (drawsOk_of (by kernel_rfl) (by kernel_rfl)) (by simp [Try.f6]) (e ▸ h)

/-! #### escrow/escrowlaw13.LedgerMore -/
def escrowlaw13_LedgerMore.S (a0 a1 a2 a3 a4 a5 : AVal) (G : Heap) (Q : AVal → Heap → Prop) : Prop :=
  aNew G (.own (a4)) fun i1 G2 => ACalls P escrowlaw13_first.n [] G2 fun v3 G4 => wv (vun .not v3) fun v5 => brB (some v5)
  (Q (.bool false) G4)
  (ACalls P escrowlaw13_bases.n [a0, a1] G4 fun v6 G7 => wv (vextract v6 0) fun v8 => wv (vextract v6 1) fun v9 => ACalls P escrowlaw13_Made.n [a2] G7 fun v10 G11 => ACalls P escrowlaw13_Made.n [a3] G11 fun v12 G13 => wv (vload T G13 t_api_Counts (.ptr i1 [] 0)) fun v14 => wv (vlen T G13 t_sl_api_Update v10) fun v15 => wv (vlen T G13 t_sl_api_Update v12) fun v16 => ACalls P escrowlaw13_counts.n [v14, v15, v16] G13 fun v17 G18 => wg (vstore T G18 t_api_Counts (.ptr i1 [] 0) v17) fun G19 => wv (vload T G19 t_api_Counts (.ptr i1 [] 0)) fun v20 => ACalls P ledger_Fold.n [v8, v9, v10, v12, v20] G19 fun v21 G22 => wv (vextract v21 0) fun v23 => wv (vextract v21 1) fun v24 => aNew G22 (.own (z_api_Ledger)) fun i25 G26 => wg (vstore T G26 t_api_Ledger (.ptr i25 [] 0) v23) fun G27 => wv (vbin T .neq t_api_Errno v24 (.int .i64 0)) fun v28 => brB (some v28)
  (wv (vbin T .eql t_api_Errno v24 (.int .i64 130)) fun v29 => Q v29 G27)
  (∀ R30 : List AVal → Heap → Prop,
  (∀ (x32 x33 x34 x35 x36 x37 x38 x39 x40 : AVal) (G31 : Heap), (wv (vfaddr T t_api_Counts x35 1) fun v41 => wv (vload T G31 t_int v41) fun v42 => wv (vbin T .lss t_int x40 v42) fun v43 => brB (some v43)
  (let J69 : AVal → Heap → Prop := (fun x67 G66 => wv (vbin T .add t_int x40 (.int .i64 1)) fun v68 => R30 [x32, x33, x34, x35, x36, x37, x38, x67, v68] G66);
  wv (viaddr T t_sl_api_Update x37 x40) fun v44 => wv (vfaddr T t_api_Update v44 0) fun v45 => wv (vload T G31 t_int v45) fun v46 => wv (vbin T .neq t_int v46 (.int .i64 1)) fun v47 => brB (some v47)
  (wv (viaddr T t_sl_api_Update x37 x40) fun v48 => wv (vfaddr T t_api_Update v48 1) fun v49 => wv (vload T G31 t_int64 v49) fun v50 => wv (vbin T .geq t_int64 v50 x39) fun v51 => brB (some v51)
  (wv (viaddr T t_sl_api_Update x37 x40) fun v60 => wv (vfaddr T t_api_Update v60 1) fun v61 => wv (vload T G31 t_int64 v61) fun v62 => wv (vbin T .add t_int64 v62 (.int .i64 1)) fun v63 => J69 v63 G31)
  (J69 x39 G31))
  (J69 x39 G31))
  (wv (vbin T .gtr t_int64 x39 (.int .i64 2047)) fun v70 => brB (some v70)
  (Q (.bool true) G31)
  (wv (vbin T .and t_int64 x34 (.int .i64 1152921504606846975)) fun v71 => wv (vbin T .add t_int64 (.int .i64 1) v71) fun v72 => wv (vbuild T t_api_Update [(0, .int .i64 1), (1, x39), (2, v72)]) fun v73 => aNew G31 (.own (z_api_Update)) fun i74 G75 => wg (vstore T G75 t_api_Update (.ptr i74 [] 0) v73) fun G76 => wv (vfaddr T t_api_Counts x35 0) fun v77 => wv (vload T G76 t_int v77) fun v78 => wv (vslice T t_sl_api_Update x36 none (some (v78)) none) fun v79 => wv (vload T G76 t_api_Update (.ptr i74 [] 0)) fun v80 => aBuildSlice T t_sl_api_Update 0 [] G76 fun v81 G82 => aAppend T G82 t_sl_api_Update t_sl_api_Update v81 v79 fun v83 G84 => (vload T G84 t_api_Update (.ptr i74 [] 0) = some v80 ∧ True) ∧ (aBuildSlice T t_sl_api_Update 1 [(0, v80)] G84 fun v85 G86 => aAppend T G86 t_sl_api_Update t_sl_api_Update v83 v85 fun v87 G88 => wv (vfaddr T t_api_Counts x35 0) fun v89 => wv (vload T G88 t_int v89) fun v90 => wv (vbin T .add t_int v90 (.int .i64 1)) fun v91 => wv (vfaddr T t_api_Counts x35 1) fun v92 => wv (vload T G88 t_int v92) fun v93 => wv (vbuild T t_api_Counts [(0, v91), (1, v93)]) fun v94 => ACalls P ledger_Fold.n [x32, x33, v87, x37, v94] G88 fun v95 G96 => wv (vextract v95 0) fun v97 => wv (vextract v95 1) fun v98 => aNew G96 (.own (z_api_Ledger)) fun i99 G100 => wg (vstore T G100 t_api_Ledger (.ptr i99 [] 0) v97) fun G101 => wv (vload T G101 t_int64 (.ptr i74 [2] 2)) fun v102 => wv (vfaddr T t_api_Ledger x38 0) fun v103 => wv (vload T G101 t_int64 v103) fun v104 => wv (vbin T .gtr t_int64 v102 v104) fun v105 => brB (some v105)
  (wv (vbin T .eql t_api_Errno v98 (.int .i64 130)) fun v106 => brB (some v106)
  (wv (vload T G101 t_api_Ledger (.ptr i99 [] 0)) fun v107 => wv (vbuild T t_api_Ledger []) fun v108 => ACalls P escrowlaw13_SameLedger.n [v107, v108] G101 fun v109 G110 => Q v109 G110)
  (Q (.bool false) G101))
  (let J158 : AVal → Heap → Prop := (fun x132 G131 => brB (some x132)
  (Q (.bool false) G131)
  (∀ R133 : List AVal → Heap → Prop,
  (∀ (x135 x136 x137 x138 x139 x140 : AVal) (G134 : Heap), (wv (vfaddr T t_api_Ledger x139 2) fun v141 => wv (vload T G134 t_sl_api_Pending v141) fun v142 => wv (vlen T G134 t_sl_api_Pending v142) fun v143 => wv (vbin T .lss t_int x140 v143) fun v144 => brB (some v144)
  (wv (vfaddr T t_api_Ledger x139 2) fun v145 => wv (vload T G134 t_sl_api_Pending v145) fun v146 => wv (viaddr T t_sl_api_Pending v146 x140) fun v147 => wv (vload T G134 t_api_Pending v147) fun v148 => wv (vfaddr T t_api_Update x138 2) fun v149 => wv (vload T G134 t_int64 v149) fun v150 => wv (vbuild T t_api_Pending [(0, .bool true), (1, x137), (2, v150)]) fun v151 => wv (vbin T .eql t_api_Pending v148 v151) fun v152 => brB (some v152)
  (wv (vload T G134 t_api_Ledger x139) fun v153 => wv (vbin T .add t_int64 x135 x136) fun v154 => ACalls P escrowlaw13_whole.n [v153, v154] G134 fun v155 G156 => Q v155 G156)
  (wv (vbin T .add t_int x140 (.int .i64 1)) fun v157 => R133 [x135, x136, x137, x138, x139, v157] G134))
  (Q (.bool false) G134)) → R133 [x135, x136, x137, x138, x139, x140] G134) →
  R133 [x32, x33, x39, .ptr i74 [] 0, .ptr i99 [] 0, .int .i64 0] G131));
  wv (vbin T .neq t_api_Errno v98 (.int .i64 0)) fun v113 => brB (some v113)
  (J158 (.bool true) G101)
  (wv (vload T G101 t_int64 (.ptr i99 [0] 0)) fun v114 => wv (vfaddr T t_api_Ledger x38 0) fun v115 => wv (vload T G101 t_int64 v115) fun v116 => wv (vload T G101 t_int64 (.ptr i74 [2] 2)) fun v117 => wv (vbin T .sub t_int64 v116 v117) fun v118 => wv (vbin T .neq t_int64 v114 v118) fun v119 => brB (some v119)
  (J158 (.bool true) G101)
  (wv (vload T G101 t_int64 (.ptr i99 [1] 1)) fun v120 => wv (vfaddr T t_api_Ledger x38 1) fun v121 => wv (vload T G101 t_int64 v121) fun v122 => wv (vbin T .neq t_int64 v120 v122) fun v123 => brB (some v123)
  (J158 (.bool true) G101)
  (wv (vload T G101 t_sl_api_Pending (.ptr i99 [2] 2)) fun v124 => wv (vlen T G101 t_sl_api_Pending v124) fun v125 => wv (vfaddr T t_api_Ledger x38 2) fun v126 => wv (vload T G101 t_sl_api_Pending v126) fun v127 => wv (vlen T G101 t_sl_api_Pending v127) fun v128 => wv (vbin T .add t_int v128 (.int .i64 1)) fun v129 => wv (vbin T .neq t_int v125 v129) fun v130 => J158 v130 G101)))))))) → R30 [x32, x33, x34, x35, x36, x37, x38, x39, x40] G31) →
  R30 [v8, v9, a5, .ptr i1 [] 0, v10, v12, .ptr i25 [] 0, .int .i64 0, .int .i64 0] G27))
def escrowlaw13_LedgerMore.an : Ann := .two (.nil) (.two (.nil) (.two (.nil) (.two (.nil) (.two (.nil) (.two (.nil) (.two (.nil) (.two (.nil) (.two (.two (.nil) (.loop [0, 1, 5, 10, 13, 14, 15, 17, 18] (.nil))) (.two (.nil) (.two (.nil) (.two (.ord [(1, []), (2, []), (3, []), (4, []), (6, []), (0, []), (5, [6]), (7, []), (8, []), (9, [])]) (.two (.nil) (.two (.nil) (.two (.nil) (.two (.two (.nil) (.loop [0, 1, 17, 19, 21, 23] (.two (.nil) (.two (.two (.ord [(0, []), (1, []), (2, []), (3, []), (4, []), (5, []), (6, []), (7, []), (8, []), (9, [])]) (.nil)) (.nil))))) (.nil))))))))))))))))
set_option maxRecDepth 100000 in
theorem escrowlaw13_LedgerMore.sound {a0 a1 a2 a3 a4 a5 : AVal} {G : Heap} {Q : AVal → Heap → Prop} (h : escrowlaw13_LedgerMore.S a0 a1 a2 a3 a4 a5 G Q) : ACalls P escrowlaw13_LedgerMore.n [a0, a1, a2, a3, a4, a5] G Q := by
  have e : escrowlaw13_LedgerMore.S a0 a1 a2 a3 a4 a5 G Q = awp cx (escrowlaw13_LedgerMore.body) escrowlaw13_LedgerMore.an (bodyQ T [.tmp 12] Q) (envL [a0, a1, a2, a3, a4, a5]) G := by kernel_rfl
  exact ACalls_of_awp cxOk (f := escrowlaw13_LedgerMore.n) (fn := Try.f7) (c := escrowlaw13_LedgerMore.body) (an := escrowlaw13_LedgerMore.an) Try.func7 (by kernel_rfl) (by kernel_rfl) (by kernel_rfl) (drawsOk_of (by kernel_rfl) (by kernel_rfl)) (by simp [Try.f7]) (e ▸ h)

end Go.Esc.M
