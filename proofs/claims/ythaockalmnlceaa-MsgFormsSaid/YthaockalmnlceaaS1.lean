/- Printed by gen.py (own work): functions of the program Ythaockalmnlceaa over trees and the abstract heap. -/
import Derived.Test.YthaockalmnlceaaT
set_option linter.unusedSimpArgs false
set_option linter.unusedVariables false
namespace Go.Esc.M
open Go Go.Esc Go.Proofs

/-! #### escrow/escrowlaw16.head -/
def escrowlaw16_head.S (G : Heap) (Q : AVal → Heap → Prop) : Prop :=
  wv (vbuild T t_api_Message [(0, .int .i64 7), (3, .int .i64 3)]) fun v1 => ACalls P msg_Write.n [v1] G fun v2 G3 => wv (vextract v2 0) fun v4 => wv (vextract v2 1) fun v5 => ACalls P msg_Read.n [.str [4, 0, 0, 0, 0, 0, 0, 1, 2, 49, 50, 51, 52, 53, 54, 55, 56, 57, 48, 49, 50, 51, 52, 53, 54, 55, 56, 57, 48, 49, 50, 51, 52, 53, 54, 55, 56, 57, 48, 49, 50]] G3 fun v6 G7 => wv (vextract v6 0) fun v8 => wv (vextract v6 1) fun v9 => aNew G7 (.own (z_api_Message)) fun i10 G11 => wg (vstore T G11 t_api_Message (.ptr i10 [] 0) v8) fun G12 => ACalls P msg_Read.n [.str [8]] G12 fun v13 G14 => wv (vextract v13 0) fun v15 => wv (vextract v13 1) fun v16 => aNew G14 (.own (z_api_Message)) fun i17 G18 => wg (vstore T G18 t_api_Message (.ptr i17 [] 0) v15) fun G19 => wv (vbuild T t_api_Message [(0, .int .i64 4), (3, .int .i64 (-1))]) fun v20 => ACalls P msg_Write.n [v20] G19 fun v21 G22 => wv (vextract v21 0) fun v23 => wv (vextract v21 1) fun v24 => wv (vbuild T t_api_Message [(0, .int .i64 1), (1, .int .i64 9), (3, .int .i64 7)]) fun v25 => ACalls P msg_Update.n [v25] G22 fun v26 G27 => wv (vextract v26 0) fun v28 => wv (vextract v26 1) fun v29 => aNew G27 (.own (z_api_Update)) fun i30 G31 => wg (vstore T G31 t_api_Update (.ptr i30 [] 0) v28) fun G32 => wv (vbuild T t_api_Update [(0, .int .i64 9), (4, .str [120])]) fun v33 => ACalls P msg_Of.n [v33] G32 fun v34 G35 => aNew G35 (.own (z_api_Message)) fun i36 G37 => wg (vstore T G37 t_api_Message (.ptr i36 [] 0) v34) fun G38 => wv (vbin T .eql t_string v4 (.str [7, 0, 0, 0, 0, 0, 0, 0, 3])) fun v39 => brB (some v39)
  (wv (vbin T .eql t_api_Errno v5 (.int .i64 0)) fun v40 => brB (some v40)
  (wv (vload T G38 t_int (.ptr i10 [0] 0)) fun v41 => wv (vbin T .eql t_int v41 (.int .i64 4)) fun v42 => brB (some v42)
  (wv (vload T G38 t_int64 (.ptr i10 [3] 3)) fun v43 => wv (vbin T .eql t_int64 v43 (.int .i64 258)) fun v44 => brB (some v44)
  (wv (viaddr T t_api_Hash (.ptr i10 [5] 5) (.int .i64 31)) fun v45 => wv (vload T G38 t_uint8 v45) fun v46 => wv (vbin T .eql t_uint8 v46 (.int .u8 50)) fun v47 => brB (some v47)
  (wv (vbin T .eql t_api_Errno v9 (.int .i64 0)) fun v48 => brB (some v48)
  (wv (vbin T .eql t_api_Errno v16 (.int .i64 160)) fun v49 => brB (some v49)
  (wv (vbin T .eql t_api_Errno v24 (.int .i64 160)) fun v50 => brB (some v50)
  (wv (vload T G38 t_api_Update (.ptr i30 [] 0)) fun v51 => wv (vbuild T t_api_Update [(0, .int .i64 1), (1, .int .i64 9)]) fun v52 => wv (vbin T .eql t_api_Update v51 v52) fun v53 => brB (some v53)
  (brB (some v29)
  (wv (vload T G38 t_api_Message (.ptr i36 [] 0)) fun v54 => wv (vbuild T t_api_Message [(0, .int .i64 9), (7, .str [120])]) fun v55 => wv (vbin T .eql t_api_Message v54 v55) fun v56 => Q v56 G38)
  (Q (.bool false) G38))
  (Q (.bool false) G38))
  (Q (.bool false) G38))
  (Q (.bool false) G38))
  (Q (.bool false) G38))
  (Q (.bool false) G38))
  (Q (.bool false) G38))
  (Q (.bool false) G38))
  (Q (.bool false) G38))
  (Q (.bool false) G38)
def escrowlaw16_head.an : Ann := .nil
set_option maxRecDepth 100000 in
theorem escrowlaw16_head.sound {G : Heap} {Q : AVal → Heap → Prop} (h : escrowlaw16_head.S G Q) : ACalls P escrowlaw16_head.n [] G Q := by
  have e : escrowlaw16_head.S G Q = awp cx (escrowlaw16_head.body) escrowlaw16_head.an (bodyQ T [.tmp 0] Q) (envL []) G := by kernel_rfl
  exact ACalls_of_awp cxOk (f := escrowlaw16_head.n) (fn := Try.f7) (c := escrowlaw16_head.body) (an := escrowlaw16_head.an) Try.func7 (by kernel_rfl) (by kernel_rfl) (by kernel_rfl) (drawsOk_of (by kernel_rfl) (by kernel_rfl)) (by simp [Try.f7]) (e ▸ h)

/-! #### escrow/escrowref16.Update -/
def escrowref16_Update.S (a0 : AVal) (G : Heap) (Q : AVal → Heap → Prop) : Prop :=
  aNew G (.own (a0)) fun i1 G2 => aNew G2 (.own (z_api_Update)) fun i3 G4 => let J22 : AVal → Heap → Prop := (fun x10 G9 => brB (some x10)
  (wv (vbuild T t_api_Update []) fun v11 => wg (vstore T G9 t_api_Update (.ptr i3 [] 0) v11) fun G12 => wv (vload T G12 t_api_Update (.ptr i3 [] 0)) fun v13 => Q (.tuple [v13, .bool false]) G12)
  (wv (vload T G9 t_int (.ptr i1 [0] 0)) fun v14 => wv (vload T G9 t_int64 (.ptr i1 [1] 1)) fun v15 => wv (vload T G9 t_int64 (.ptr i1 [2] 2)) fun v16 => wv (vload T G9 t_api_Hash (.ptr i1 [5] 5)) fun v17 => wv (vload T G9 t_string (.ptr i1 [7] 69)) fun v18 => wv (vbuild T t_api_Update [(0, v14), (1, v15), (2, v16), (3, v17), (4, v18)]) fun v19 => wg (vstore T G9 t_api_Update (.ptr i3 [] 0) v19) fun G20 => wv (vload T G20 t_api_Update (.ptr i3 [] 0)) fun v21 => Q (.tuple [v21, .bool true]) G20));
  wv (vload T G4 t_int (.ptr i1 [0] 0)) fun v5 => wv (vbin T .lss t_int v5 (.int .i64 1)) fun v6 => brB (some v6)
  (J22 (.bool true) G4)
  (wv (vload T G4 t_int (.ptr i1 [0] 0)) fun v7 => wv (vbin T .gtr t_int v7 (.int .i64 3)) fun v8 => J22 v8 G4)
def escrowref16_Update.an : Ann := .nil
set_option maxRecDepth 100000 in
theorem escrowref16_Update.sound {a0 : AVal} {G : Heap} {Q : AVal → Heap → Prop} (h : escrowref16_Update.S a0 G Q) : ACalls P escrowref16_Update.n [a0] G Q := by
  have e : escrowref16_Update.S a0 G Q = awp cx (escrowref16_Update.body) escrowref16_Update.an (bodyQ T [.cell 2 27, .tmp 3] Q) (envL [a0]) G := by kernel_rfl
  exact ACalls_of_awp cxOk (f := escrowref16_Update.n) (fn := Try.f13) (c := escrowref16_Update.body) (an := escrowref16_Update.an) Try.func13 (by kernel_rfl) (by kernel_rfl) (by kernel_rfl) (drawsOk_of (by kernel_rfl) (by kernel_rfl)) (by simp [Try.f13]) (e ▸ h)

/-! #### escrow/escrowref16.Of -/
def escrowref16_Of.S (a0 : AVal) (G : Heap) (Q : AVal → Heap → Prop) : Prop :=
  aNew G (.own (a0)) fun i1 G2 => aNew G2 (.own (z_api_Message)) fun i3 G4 => wv (vload T G4 t_int (.ptr i1 [0] 0)) fun v5 => wv (vload T G4 t_int64 (.ptr i1 [1] 1)) fun v6 => wv (vload T G4 t_int64 (.ptr i1 [2] 2)) fun v7 => wv (vload T G4 t_api_Hash (.ptr i1 [3] 3)) fun v8 => wv (vload T G4 t_string (.ptr i1 [4] 35)) fun v9 => wv (vbuild T t_api_Message [(0, v5), (1, v6), (2, v7), (5, v8), (7, v9)]) fun v10 => wg (vstore T G4 t_api_Message (.ptr i3 [] 0) v10) fun G11 => wv (vload T G11 t_api_Message (.ptr i3 [] 0)) fun v12 => Q v12 G11
def escrowref16_Of.an : Ann := .nil
set_option maxRecDepth 100000 in
theorem escrowref16_Of.sound {a0 : AVal} {G : Heap} {Q : AVal → Heap → Prop} (h : escrowref16_Of.S a0 G Q) : ACalls P escrowref16_Of.n [a0] G Q := by
  have e : escrowref16_Of.S a0 G Q = awp cx (escrowref16_Of.body) escrowref16_Of.an (bodyQ T [.cell 2 25] Q) (envL [a0]) G := by kernel_rfl
  exact ACalls_of_awp cxOk (f := escrowref16_Of.n) (fn := Try.f15) (c := escrowref16_Of.body) (an := escrowref16_Of.an) Try.func15 (by kernel_rfl) (by kernel_rfl) (by kernel_rfl) (drawsOk_of (by kernel_rfl) (by kernel_rfl)) (by simp [Try.f15]) (e ▸ h)

/-! #### escrow/escrowref12.Valid -/
def escrowref12_Valid.S (a0 : AVal) (G : Heap) (Q : AVal → Heap → Prop) : Prop :=
  aNew G (.own (a0)) fun i1 G2 => wv (vbuild T t_api_Hash []) fun v3 => aNew G2 (.own (z_api_Hash)) fun i4 G5 => wg (vstore T G5 t_api_Hash (.ptr i4 [] 0) v3) fun G6 => let J41 : AVal → Heap → Prop := (fun x12 G11 => brB (some x12)
  (Q (.bool false) G11)
  (wv (vload T G11 t_int (.ptr i1 [0] 0)) fun v13 => wv (vbin T .eql t_int v13 (.int .i64 1)) fun v14 => brB (some v14)
  (wv (vload T G11 t_int64 (.ptr i1 [2] 2)) fun v15 => wv (vbin T .geq t_int64 v15 (.int .i64 1)) fun v16 => brB (some v16)
  (wv (vload T G11 t_int64 (.ptr i1 [2] 2)) fun v17 => wv (vbin T .leq t_int64 v17 (.int .i64 1152921504606846976)) fun v18 => brB (some v18)
  (wv (vload T G11 t_string (.ptr i1 [4] 35)) fun v19 => wv (vbin T .eql t_string v19 (.str [])) fun v20 => Q v20 G11)
  (Q (.bool false) G11))
  (Q (.bool false) G11))
  (wv (vbin T .eql t_int v13 (.int .i64 2)) fun v23 => brB (some v23)
  (wv (vload T G11 t_int64 (.ptr i1 [2] 2)) fun v24 => wv (vbin T .eql t_int64 v24 (.int .i64 0)) fun v25 => brB (some v25)
  (wv (vload T G11 t_string (.ptr i1 [4] 35)) fun v26 => wv (vbin T .eql t_string v26 (.str [])) fun v27 => Q v27 G11)
  (Q (.bool false) G11))
  (wv (vbin T .eql t_int v13 (.int .i64 3)) fun v30 => brB (some v30)
  (wv (vload T G11 t_int64 (.ptr i1 [2] 2)) fun v31 => wv (vbin T .eql t_int64 v31 (.int .i64 0)) fun v32 => brB (some v32)
  (wv (vload T G11 t_api_Hash (.ptr i1 [3] 3)) fun v33 => wv (vload T G11 t_api_Hash (.ptr i4 [] 0)) fun v34 => wv (vbin T .eql t_api_Hash v33 v34) fun v35 => brB (some v35)
  (wv (vload T G11 t_string (.ptr i1 [4] 35)) fun v36 => wv (vlen T G11 t_string v36) fun v37 => wv (vbin T .leq t_int v37 (.int .i64 64)) fun v38 => Q v38 G11)
  (Q (.bool false) G11))
  (Q (.bool false) G11))
  (Q (.bool false) G11)))));
  wv (vload T G6 t_int64 (.ptr i1 [1] 1)) fun v7 => wv (vbin T .lss t_int64 v7 (.int .i64 0)) fun v8 => brB (some v8)
  (J41 (.bool true) G6)
  (wv (vload T G6 t_int64 (.ptr i1 [1] 1)) fun v9 => wv (vbin T .geq t_int64 v9 (.int .i64 2048)) fun v10 => J41 v10 G6)
def escrowref12_Valid.an : Ann := .nil
set_option maxRecDepth 100000 in
theorem escrowref12_Valid.sound {a0 : AVal} {G : Heap} {Q : AVal → Heap → Prop} (h : escrowref12_Valid.S a0 G Q) : ACalls P escrowref12_Valid.n [a0] G Q := by
  have e : escrowref12_Valid.S a0 G Q = awp cx (escrowref12_Valid.body) escrowref12_Valid.an (bodyQ T [.tmp 2] Q) (envL [a0]) G := by kernel_rfl
  exact ACalls_of_awp cxOk (f := escrowref12_Valid.n) (fn := Try.f43) (c := escrowref12_Valid.body) (an := escrowref12_Valid.an) Try.func43 (by kernel_rfl) (by kernel_rfl) (by kernel_rfl) (drawsOk_of (by kernel_rfl) (by kernel_rfl)) (by simp [Try.f43]) (e ▸ h)

/-! #### escrow/escrowref16.index -/
def escrowref16_index.S (a0 : AVal) (G : Heap) (Q : AVal → Heap → Prop) : Prop :=
  wv (vbin T .geq t_int64 a0 (.int .i64 0)) fun v1 => brB (some v1)
  (wv (vbin T .leq t_int64 a0 (.int .i64 281474976710655)) fun v2 => Q v2 G)
  (Q (.bool false) G)
def escrowref16_index.an : Ann := .nil
set_option maxRecDepth 100000 in
theorem escrowref16_index.sound {a0 : AVal} {G : Heap} {Q : AVal → Heap → Prop} (h : escrowref16_index.S a0 G Q) : ACalls P escrowref16_index.n [a0] G Q := by
  have e : escrowref16_index.S a0 G Q = awp cx (escrowref16_index.body) escrowref16_index.an (bodyQ T [.tmp 2] Q) (envL [a0]) G := by kernel_rfl
  exact ACalls_of_awp cxOk (f := escrowref16_index.n) (fn := Try.f44) (c := escrowref16_index.body) (an := escrowref16_index.an) Try.func44 (by kernel_rfl) (by kernel_rfl) (by kernel_rfl) (drawsOk_of (by kernel_rfl) (by kernel_rfl)) (by simp [Try.f44]) (e ▸ h)

/-! #### escrow/escrowref16.Valid -/
def escrowref16_Valid.S (a0 : AVal) (G : Heap) (Q : AVal → Heap → Prop) : Prop :=
  aNew G (.own (a0)) fun i1 G2 => wv (vload T G2 t_int (.ptr i1 [0] 0)) fun v3 => wv (vbuild T t_api_Message [(0, v3)]) fun v4 => aNew G2 (.own (z_api_Message)) fun i5 G6 => wg (vstore T G6 t_api_Message (.ptr i5 [] 0) v4) fun G7 => wv (vload T G7 t_int (.ptr i1 [0] 0)) fun v8 => let J73 : Heap → Prop := (fun G61 => wv (vload T G61 t_api_Message (.ptr i1 [] 0)) fun v62 => wv (vload T G61 t_api_Message (.ptr i5 [] 0)) fun v63 => wv (vbin T .eql t_api_Message v62 v63) fun v64 => brB (some v64)
  (wv (vload T G61 t_int64 (.ptr i1 [3] 3)) fun v65 => ACalls P escrowref16_index.n [v65] G61 fun v66 G67 => brB (some v66)
  (wv (vload T G67 t_int64 (.ptr i1 [4] 4)) fun v68 => ACalls P escrowref16_index.n [v68] G67 fun v69 G70 => Q v69 G70)
  (Q (.bool false) G67))
  (Q (.bool false) G61));
  wv (vbin T .eql t_int v8 (.int .i64 1)) fun v9 => let J60 : AVal → Heap → Prop := (fun x15 G14 => brB (some x15)
  (wv (vload T G14 t_api_Message (.ptr i1 [] 0)) fun v16 => ACalls P escrowref16_Update.n [v16] G14 fun v17 G18 => wv (vextract v17 0) fun v19 => wv (vextract v17 1) fun v20 => aNew G18 (.own (z_api_Update)) fun i21 G22 => wg (vstore T G22 t_api_Update (.ptr i21 [] 0) v19) fun G23 => wv (vload T G23 t_api_Update (.ptr i21 [] 0)) fun v24 => ACalls P escrowref12_Valid.n [v24] G23 fun v25 G26 => brB (some v25)
  (wv (vload T G26 t_api_Message (.ptr i1 [] 0)) fun v27 => wv (vload T G26 t_api_Update (.ptr i21 [] 0)) fun v28 => ACalls P escrowref16_Of.n [v28] G26 fun v29 G30 => (vload T G30 t_api_Message (.ptr i1 [] 0) = some v27 ∧ True) ∧ (wv (vbin T .eql t_api_Message v27 v29) fun v31 => Q v31 G30))
  (Q (.bool false) G26))
  (wv (vbin T .eql t_int v8 (.int .i64 4)) fun v34 => brB (some v34)
  (wv (vload T G14 t_int64 (.ptr i1 [3] 3)) fun v35 => wg (vstore T G14 t_int64 (.ptr i5 [3] 3) v35) fun G36 => wv (vload T G36 t_api_Hash (.ptr i1 [5] 5)) fun v37 => wg (vstore T G36 t_api_Hash (.ptr i5 [5] 5) v37) fun G38 => J73 G38)
  (wv (vbin T .eql t_int v8 (.int .i64 5)) fun v39 => brB (some v39)
  (wv (vload T G14 t_int64 (.ptr i1 [3] 3)) fun v40 => wg (vstore T G14 t_int64 (.ptr i5 [3] 3) v40) fun G41 => wv (vload T G41 t_api_Hash (.ptr i1 [6] 37)) fun v42 => wg (vstore T G41 t_api_Hash (.ptr i5 [6] 37) v42) fun G43 => wv (vload T G43 t_api_Hash (.ptr i1 [5] 5)) fun v44 => wg (vstore T G43 t_api_Hash (.ptr i5 [5] 5) v44) fun G45 => J73 G45)
  (wv (vbin T .eql t_int v8 (.int .i64 6)) fun v46 => brB (some v46)
  (wv (vload T G14 t_int64 (.ptr i1 [3] 3)) fun v47 => wg (vstore T G14 t_int64 (.ptr i5 [3] 3) v47) fun G48 => wv (vload T G48 t_int64 (.ptr i1 [4] 4)) fun v49 => wg (vstore T G48 t_int64 (.ptr i5 [4] 4) v49) fun G50 => wv (vload T G50 t_api_Hash (.ptr i1 [6] 37)) fun v51 => wg (vstore T G50 t_api_Hash (.ptr i5 [6] 37) v51) fun G52 => J73 G52)
  (wv (vbin T .eql t_int v8 (.int .i64 7)) fun v53 => brB (some v53)
  (wv (vload T G14 t_int64 (.ptr i1 [3] 3)) fun v54 => wg (vstore T G14 t_int64 (.ptr i5 [3] 3) v54) fun G55 => J73 G55)
  (Q (.bool false) G14))))));
  brB (some v9)
  (J60 v9 G7)
  (wv (vbin T .eql t_int v8 (.int .i64 2)) fun v10 => brB (some v10)
  (J60 v10 G7)
  (wv (vbin T .eql t_int v8 (.int .i64 3)) fun v11 => J60 v11 G7))
def escrowref16_Valid.an : Ann := .two (.nil) (.two (.nil) (.two (.two (.nil) (.two (.nil) (.two (.two (.nil) (.two (.ord [(0, []), (1, []), (2, []), (3, []), (4, []), (5, [3]), (6, []), (7, []), (8, [])]) (.nil))) (.nil)))) (.nil)))
set_option maxRecDepth 100000 in
theorem escrowref16_Valid.sound {a0 : AVal} {G : Heap} {Q : AVal → Heap → Prop} (h : escrowref16_Valid.S a0 G Q) : ACalls P escrowref16_Valid.n [a0] G Q := by
  have e : escrowref16_Valid.S a0 G Q = awp cx (escrowref16_Valid.body) escrowref16_Valid.an (bodyQ T [.tmp 2] Q) (envL [a0]) G := by kernel_rfl
  exact ACalls_of_awp cxOk (f := escrowref16_Valid.n) (fn := Try.f27) (c := escrowref16_Valid.body) (an := escrowref16_Valid.an) Try.func27 (by kernel_rfl) (by kernel_rfl) (by kernel_rfl) (drawsOk_of (by kernel_rfl) (by kernel_rfl)) (by simp [Try.f27]) (e ▸ h)

/-! #### escrow/escrowref03.Bytes -/
def escrowref03_Bytes.S (a0 a1 : AVal) (G : Heap) (Q : AVal → Heap → Prop) : Prop :=
  wv (vbin T .sub t_int a1 (.int .i64 1)) fun v1 => ∀ R2 : List AVal → Heap → Prop,
  (∀ (x4 x5 x6 : AVal) (G3 : Heap), (wv (vbin T .geq t_int x6 (.int .i64 0)) fun v7 => brB (some v7)
  (wv (vconv T G3 t_int t_uint x6) fun v8 => wv (vbin T .mul t_uint (.int .u64 8) v8) fun v9 => wv (vbin T .shr t_uint64 x4 v9) fun v10 => wv (vconv T G3 t_uint64 t_uint8 v10) fun v11 => aBuildSlice T t_sl_uint8 1 [(0, v11)] G3 fun v12 G13 => aAppend T G13 t_sl_uint8 t_sl_uint8 x5 v12 fun v14 G15 => wv (vbin T .sub t_int x6 (.int .i64 1)) fun v16 => R2 [x4, v14, v16] G15)
  (wv (vconv T G3 t_sl_uint8 t_string x5) fun v17 => Q v17 G3)) → R2 [x4, x5, x6] G3) →
  R2 [a0, .nilSlice, v1] G
def escrowref03_Bytes.an : Ann := .two (.nil) (.two (.nil) (.two (.two (.nil) (.loop [0, 5, 6] (.nil))) (.nil)))
set_option maxRecDepth 100000 in
theorem escrowref03_Bytes.sound {a0 a1 : AVal} {G : Heap} {Q : AVal → Heap → Prop} (h : escrowref03_Bytes.S a0 a1 G Q) : ACalls P escrowref03_Bytes.n [a0, a1] G Q := by
  have e : escrowref03_Bytes.S a0 a1 G Q = awp cx (escrowref03_Bytes.body) escrowref03_Bytes.an (bodyQ T [.tmp 4] Q) (envL [a0, a1]) G := by kernel_rfl
  exact ACalls_of_awp cxOk (f := escrowref03_Bytes.n) (fn := Try.f29) (c := escrowref03_Bytes.body) (an := escrowref03_Bytes.an) Try.func29 (by kernel_rfl) (by kernel_rfl) (by kernel_rfl) (drawsOk_of (by kernel_rfl) (by kernel_rfl)) (by simp [Try.f29]) (e ▸ h)

/-! #### escrow/escrowref12.Write -/
def escrowref12_Write.S (a0 : AVal) (G : Heap) (Q : AVal → Heap → Prop) : Prop :=
  aNew G (.own (a0)) fun i1 G2 => wv (vload T G2 t_api_Update (.ptr i1 [] 0)) fun v3 => ACalls P escrowref12_Valid.n [v3] G2 fun v4 G5 => wv (vun .not v4) fun v6 => brB (some v6)
  (Q (.tuple [.str [], .int .i64 120]) G5)
  (wv (vload T G5 t_int (.ptr i1 [0] 0)) fun v7 => wv (vconv T G5 t_int t_uint64 v7) fun v8 => wv (vload T G5 t_int64 (.ptr i1 [1] 1)) fun v9 => wv (vconv T G5 t_int64 t_uint64 v9) fun v10 => ACalls P escrowref03_Bytes.n [v8, .int .i64 1] G5 fun v11 G12 => (vload T G12 t_int64 (.ptr i1 [1] 1) = some v9 ∧ True) ∧ (ACalls P escrowref03_Bytes.n [v10, .int .i64 2] G12 fun v13 G14 => wv (vbin T .add t_string v11 v13) fun v15 => wv (vload T G14 t_int (.ptr i1 [0] 0)) fun v16 => wv (vbin T .eql t_int v16 (.int .i64 1)) fun v17 => brB (some v17)
  (wv (vload T G14 t_int64 (.ptr i1 [2] 2)) fun v18 => wv (vconv T G14 t_int64 t_uint64 v18) fun v19 => wv (vslice T t_api_Hash (.ptr i1 [3] 3) none none none) fun v20 => wv (vconv T G14 t_sl_uint8 t_string v20) fun v21 => ACalls P escrowref03_Bytes.n [v19, .int .i64 8] G14 fun v22 G23 => (vconv T G23 t_sl_uint8 t_string v20 = some v21 ∧ True) ∧ (wv (vbin T .add t_string v15 v22) fun v24 => wv (vbin T .add t_string v24 v21) fun v25 => Q (.tuple [v25, .int .i64 0]) G23))
  (wv (vbin T .eql t_int v16 (.int .i64 2)) fun v26 => brB (some v26)
  (wv (vslice T t_api_Hash (.ptr i1 [3] 3) none none none) fun v27 => wv (vconv T G14 t_sl_uint8 t_string v27) fun v28 => wv (vbin T .add t_string v15 v28) fun v29 => Q (.tuple [v29, .int .i64 0]) G14)
  (wv (vload T G14 t_string (.ptr i1 [4] 35)) fun v30 => wv (vlen T G14 t_string v30) fun v31 => wv (vconv T G14 t_int t_uint64 v31) fun v32 => wv (vload T G14 t_string (.ptr i1 [4] 35)) fun v33 => ACalls P escrowref03_Bytes.n [v32, .int .i64 2] G14 fun v34 G35 => (vload T G35 t_string (.ptr i1 [4] 35) = some v33 ∧ True) ∧ (wv (vbin T .add t_string v15 v34) fun v36 => wv (vbin T .add t_string v36 v33) fun v37 => Q (.tuple [v37, .int .i64 0]) G35)))))
def escrowref12_Write.an : Ann := .two (.nil) (.two (.nil) (.two (.ord [(0, []), (1, []), (2, []), (4, []), (5, []), (6, []), (3, [5]), (7, []), (8, []), (9, [])]) (.two (.two (.nil) (.two (.nil) (.two (.ord [(0, []), (1, []), (2, []), (3, []), (6, []), (7, []), (8, []), (4, [8]), (5, []), (9, []), (10, [])]) (.two (.nil) (.two (.nil) (.ord [(0, []), (1, []), (2, []), (3, []), (4, []), (7, []), (8, []), (5, [8]), (6, []), (9, []), (10, [])])))))) (.nil))))
set_option maxRecDepth 100000 in
theorem escrowref12_Write.sound {a0 : AVal} {G : Heap} {Q : AVal → Heap → Prop} (h : escrowref12_Write.S a0 G Q) : ACalls P escrowref12_Write.n [a0] G Q := by
  have e : escrowref12_Write.S a0 G Q = awp cx (escrowref12_Write.body) escrowref12_Write.an (bodyQ T [.tmp 2, .tmp 3] Q) (envL [a0]) G := by kernel_rfl
  exact ACalls_of_awp cxOk (f := escrowref12_Write.n) (fn := Try.f28) (c := escrowref12_Write.body) (an := escrowref12_Write.an) Try.func28 (by kernel_rfl) (by kernel_rfl) (by kernel_rfl) (drawsOk_of (by kernel_rfl) (by kernel_rfl)) (by simp [Try.f28]) (e ▸ h)

/-! #### escrow/escrowref16.Write -/
def escrowref16_Write.S (a0 : AVal) (G : Heap) (Q : AVal → Heap → Prop) : Prop :=
  aNew G (.own (a0)) fun i1 G2 => wv (vload T G2 t_api_Message (.ptr i1 [] 0)) fun v3 => ACalls P escrowref16_Valid.n [v3] G2 fun v4 G5 => wv (vun .not v4) fun v6 => brB (some v6)
  (Q (.tuple [.str [], .int .i64 160]) G5)
  (wv (vload T G5 t_int (.ptr i1 [0] 0)) fun v7 => wv (vbin T .leq t_int v7 (.int .i64 3)) fun v8 => brB (some v8)
  (wv (vload T G5 t_api_Message (.ptr i1 [] 0)) fun v9 => ACalls P escrowref16_Update.n [v9] G5 fun v10 G11 => wv (vextract v10 0) fun v12 => wv (vextract v10 1) fun v13 => aNew G11 (.own (z_api_Update)) fun i14 G15 => wg (vstore T G15 t_api_Update (.ptr i14 [] 0) v12) fun G16 => wv (vload T G16 t_api_Update (.ptr i14 [] 0)) fun v17 => ACalls P escrowref12_Write.n [v17] G16 fun v18 G19 => wv (vextract v18 0) fun v20 => wv (vextract v18 1) fun v21 => Q (.tuple [v20, .int .i64 0]) G19)
  (wv (vload T G5 t_int (.ptr i1 [0] 0)) fun v22 => wv (vconv T G5 t_int t_uint64 v22) fun v23 => ACalls P escrowref03_Bytes.n [v23, .int .i64 1] G5 fun v24 G25 => wv (vload T G25 t_int (.ptr i1 [0] 0)) fun v26 => wv (vbin T .eql t_int v26 (.int .i64 4)) fun v27 => brB (some v27)
  (wv (vload T G25 t_int64 (.ptr i1 [3] 3)) fun v28 => wv (vconv T G25 t_int64 t_uint64 v28) fun v29 => wv (vslice T t_api_Hash (.ptr i1 [5] 5) none none none) fun v30 => wv (vconv T G25 t_sl_uint8 t_string v30) fun v31 => ACalls P escrowref03_Bytes.n [v29, .int .i64 8] G25 fun v32 G33 => (vconv T G33 t_sl_uint8 t_string v30 = some v31 ∧ True) ∧ (wv (vbin T .add t_string v24 v32) fun v34 => wv (vbin T .add t_string v34 v31) fun v35 => Q (.tuple [v35, .int .i64 0]) G33))
  (wv (vbin T .eql t_int v26 (.int .i64 5)) fun v36 => brB (some v36)
  (wv (vload T G25 t_int64 (.ptr i1 [3] 3)) fun v37 => wv (vconv T G25 t_int64 t_uint64 v37) fun v38 => wv (vslice T t_api_Hash (.ptr i1 [6] 37) none none none) fun v39 => wv (vconv T G25 t_sl_uint8 t_string v39) fun v40 => wv (vslice T t_api_Hash (.ptr i1 [5] 5) none none none) fun v41 => wv (vconv T G25 t_sl_uint8 t_string v41) fun v42 => ACalls P escrowref03_Bytes.n [v38, .int .i64 8] G25 fun v43 G44 => (vconv T G44 t_sl_uint8 t_string v41 = some v42 ∧ vconv T G44 t_sl_uint8 t_string v39 = some v40 ∧ True) ∧ (wv (vbin T .add t_string v24 v43) fun v45 => wv (vbin T .add t_string v45 v40) fun v46 => wv (vbin T .add t_string v46 v42) fun v47 => Q (.tuple [v47, .int .i64 0]) G44))
  (wv (vbin T .eql t_int v26 (.int .i64 6)) fun v48 => brB (some v48)
  (wv (vload T G25 t_int64 (.ptr i1 [3] 3)) fun v49 => wv (vconv T G25 t_int64 t_uint64 v49) fun v50 => wv (vload T G25 t_int64 (.ptr i1 [4] 4)) fun v51 => wv (vconv T G25 t_int64 t_uint64 v51) fun v52 => wv (vslice T t_api_Hash (.ptr i1 [6] 37) none none none) fun v53 => wv (vconv T G25 t_sl_uint8 t_string v53) fun v54 => ACalls P escrowref03_Bytes.n [v50, .int .i64 8] G25 fun v55 G56 => (vconv T G56 t_sl_uint8 t_string v53 = some v54 ∧ vload T G56 t_int64 (.ptr i1 [4] 4) = some v51 ∧ True) ∧ (wv (vbin T .add t_string v24 v55) fun v57 => ACalls P escrowref03_Bytes.n [v52, .int .i64 8] G56 fun v58 G59 => (vconv T G59 t_sl_uint8 t_string v53 = some v54 ∧ True) ∧ (wv (vbin T .add t_string v57 v58) fun v60 => wv (vbin T .add t_string v60 v54) fun v61 => Q (.tuple [v61, .int .i64 0]) G59)))
  (wv (vload T G25 t_int64 (.ptr i1 [3] 3)) fun v62 => wv (vconv T G25 t_int64 t_uint64 v62) fun v63 => ACalls P escrowref03_Bytes.n [v63, .int .i64 8] G25 fun v64 G65 => wv (vbin T .add t_string v24 v64) fun v66 => Q (.tuple [v66, .int .i64 0]) G65)))))
def escrowref16_Write.an : Ann := .two (.nil) (.two (.nil) (.two (.nil) (.two (.nil) (.two (.two (.nil) (.two (.nil) (.two (.ord [(0, []), (1, []), (2, []), (3, []), (6, []), (7, []), (8, []), (4, [8]), (5, []), (9, []), (10, [])]) (.two (.nil) (.two (.ord [(0, []), (1, []), (2, []), (3, []), (6, []), (7, []), (8, []), (10, []), (11, []), (12, []), (4, [8, 12]), (5, []), (9, []), (13, []), (14, [])]) (.two (.nil) (.two (.ord [(0, []), (1, []), (2, []), (3, []), (6, []), (7, []), (8, []), (11, []), (12, []), (13, []), (4, [7, 13]), (5, []), (9, [13]), (10, []), (14, []), (15, [])]) (.nil)))))))) (.nil)))))
set_option maxRecDepth 100000 in
theorem escrowref16_Write.sound {a0 : AVal} {G : Heap} {Q : AVal → Heap → Prop} (h : escrowref16_Write.S a0 G Q) : ACalls P escrowref16_Write.n [a0] G Q := by
  have e : escrowref16_Write.S a0 G Q = awp cx (escrowref16_Write.body) escrowref16_Write.an (bodyQ T [.tmp 2, .tmp 3] Q) (envL [a0]) G := by kernel_rfl
  exact ACalls_of_awp cxOk (f := escrowref16_Write.n) (fn := Try.f9) (c := escrowref16_Write.body) (an := escrowref16_Write.an) Try.func9 (by kernel_rfl) (by kernel_rfl) (by kernel_rfl) (drawsOk_of (by kernel_rfl) (by kernel_rfl)) (by simp [Try.f9]) (e ▸ h)

/-! #### escrow/escrowref03.Number -/
def escrowref03_Number.S (a0 : AVal) (G : Heap) (Q : AVal → Heap → Prop) : Prop :=
  ∀ R1 : List AVal → Heap → Prop,
  (∀ (x3 x4 x5 : AVal) (G2 : Heap), (wv (vlen T G2 t_string x3) fun v6 => wv (vbin T .lss t_int x5 v6) fun v7 => brB (some v7)
  (wv (vbin T .mul t_uint64 x4 (.int .u64 256)) fun v8 => wv (vindex T t_string x3 x5) fun v9 => wv (vconv T G2 t_uint8 t_uint64 v9) fun v10 => wv (vbin T .add t_uint64 v8 v10) fun v11 => wv (vbin T .add t_int x5 (.int .i64 1)) fun v12 => R1 [x3, v11, v12] G2)
  (Q x4 G2)) → R1 [x3, x4, x5] G2) →
  R1 [a0, .int .u64 0, .int .i64 0] G
def escrowref03_Number.an : Ann := .two (.nil) (.two (.nil) (.two (.two (.nil) (.loop [0, 3, 4] (.nil))) (.nil)))
set_option maxRecDepth 100000 in
theorem escrowref03_Number.sound {a0 : AVal} {G : Heap} {Q : AVal → Heap → Prop} (h : escrowref03_Number.S a0 G Q) : ACalls P escrowref03_Number.n [a0] G Q := by
  have e : escrowref03_Number.S a0 G Q = awp cx (escrowref03_Number.body) escrowref03_Number.an (bodyQ T [.tmp 2] Q) (envL [a0]) G := by kernel_rfl
  exact ACalls_of_awp cxOk (f := escrowref03_Number.n) (fn := Try.f55) (c := escrowref03_Number.body) (an := escrowref03_Number.an) Try.func55 (by kernel_rfl) (by kernel_rfl) (by kernel_rfl) (drawsOk_of (by kernel_rfl) (by kernel_rfl)) (by simp [Try.f55]) (e ▸ h)

/-! #### escrow/escrowref12.size -/
def escrowref12_size.S (a0 : AVal) (G : Heap) (Q : AVal → Heap → Prop) : Prop :=
  wv (vindex T t_string a0 (.int .i64 0)) fun v1 => wv (vbin T .eql t_uint8 v1 (.int .u8 1)) fun v2 => brB (some v2)
  (Q (.int .i64 43) G)
  (wv (vindex T t_string a0 (.int .i64 0)) fun v3 => wv (vbin T .eql t_uint8 v3 (.int .u8 2)) fun v4 => brB (some v4)
  (Q (.int .i64 35) G)
  (wv (vindex T t_string a0 (.int .i64 0)) fun v5 => wv (vbin T .neq t_uint8 v5 (.int .u8 3)) fun v6 => brB (some v6)
  (Q (.int .i64 (-1)) G)
  (wv (vlen T G t_string a0) fun v7 => wv (vbin T .lss t_int v7 (.int .i64 5)) fun v8 => brB (some v8)
  (Q (.int .i64 0) G)
  (wv (vslice T t_string a0 (some (.int .i64 3)) (some (.int .i64 5)) none) fun v9 => ACalls P escrowref03_Number.n [v9] G fun v10 G11 => wv (vconv T G11 t_uint64 t_int v10) fun v12 => wv (vbin T .gtr t_int v12 (.int .i64 64)) fun v13 => brB (some v13)
  (Q (.int .i64 (-1)) G11)
  (wv (vbin T .add t_int (.int .i64 5) v12) fun v14 => Q v14 G11)))))
def escrowref12_size.an : Ann := .nil
set_option maxRecDepth 100000 in
theorem escrowref12_size.sound {a0 : AVal} {G : Heap} {Q : AVal → Heap → Prop} (h : escrowref12_size.S a0 G Q) : ACalls P escrowref12_size.n [a0] G Q := by
  have e : escrowref12_size.S a0 G Q = awp cx (escrowref12_size.body) escrowref12_size.an (bodyQ T [.tmp 2] Q) (envL [a0]) G := by kernel_rfl
  exact ACalls_of_awp cxOk (f := escrowref12_size.n) (fn := Try.f54) (c := escrowref12_size.body) (an := escrowref12_size.an) Try.func54 (by kernel_rfl) (by kernel_rfl) (by kernel_rfl) (drawsOk_of (by kernel_rfl) (by kernel_rfl)) (by simp [Try.f54]) (e ▸ h)

/-! #### escrow/escrowref12.hash -/
def escrowref12_hash.S (a0 : AVal) (G : Heap) (Q : AVal → Heap → Prop) : Prop :=
  aNew G (.own (z_api_Hash)) fun i1 G2 => aNew G2 (.own (z_api_Hash)) fun i3 G4 => ∀ R5 : List AVal → Heap → Prop,
  (∀ (x7 x8 x9 x10 : AVal) (G6 : Heap), (wv (vlen T G6 t_string x7) fun v11 => wv (vbin T .lss t_int x10 v11) fun v12 => brB (some v12)
  (wv (vbin T .lss t_int x10 (.int .i64 32)) fun v13 => brB (some v13)
  (wv (vindex T t_string x7 x10) fun v20 => wv (viaddr T t_api_Hash x9 x10) fun v21 => wg (vstore T G6 t_uint8 v21 v20) fun G22 => wv (vbin T .add t_int x10 (.int .i64 1)) fun v23 => R5 [x7, x8, x9, v23] G22)
  (wv (vload T G6 t_api_Hash x9) fun v30 => wg (vstore T G6 t_api_Hash x8 v30) fun G31 => wv (vload T G31 t_api_Hash x8) fun v32 => Q v32 G31))
  (wv (vload T G6 t_api_Hash x9) fun v33 => wg (vstore T G6 t_api_Hash x8 v33) fun G34 => wv (vload T G34 t_api_Hash x8) fun v35 => Q v35 G34)) → R5 [x7, x8, x9, x10] G6) →
  R5 [a0, .ptr i1 [] 0, .ptr i3 [] 0, .int .i64 0] G4
def escrowref12_hash.an : Ann := .two (.nil) (.two (.nil) (.two (.two (.nil) (.loop [0, 2, 3, 4] (.nil))) (.nil)))
set_option maxRecDepth 100000 in
theorem escrowref12_hash.sound {a0 : AVal} {G : Heap} {Q : AVal → Heap → Prop} (h : escrowref12_hash.S a0 G Q) : ACalls P escrowref12_hash.n [a0] G Q := by
  have e : escrowref12_hash.S a0 G Q = awp cx (escrowref12_hash.body) escrowref12_hash.an (bodyQ T [.cell 2 23] Q) (envL [a0]) G := by kernel_rfl
  exact ACalls_of_awp cxOk (f := escrowref12_hash.n) (fn := Try.f56) (c := escrowref12_hash.body) (an := escrowref12_hash.an) Try.func56 (by kernel_rfl) (by kernel_rfl) (by kernel_rfl) (drawsOk_of (by kernel_rfl) (by kernel_rfl)) (by simp [Try.f56]) (e ▸ h)

/-! #### escrow/escrowref12.Read -/
def escrowref12_Read.S (a0 : AVal) (G : Heap) (Q : AVal → Heap → Prop) : Prop :=
  aNew G (.own (z_api_Update)) fun i1 G2 => wv (vbuild T t_api_Update []) fun v3 => aNew G2 (.own (z_api_Update)) fun i4 G5 => wg (vstore T G5 t_api_Update (.ptr i4 [] 0) v3) fun G6 => wv (vbin T .eql t_string a0 (.str [])) fun v7 => brB (some v7)
  (wv (vload T G6 t_api_Update (.ptr i4 [] 0)) fun v8 => wg (vstore T G6 t_api_Update (.ptr i1 [] 0) v8) fun G9 => wv (vload T G9 t_api_Update (.ptr i1 [] 0)) fun v10 => Q (.tuple [v10, .int .i64 0, .int .i64 2]) G9)
  (ACalls P escrowref12_size.n [a0] G6 fun v11 G12 => wv (vbin T .lss t_int v11 (.int .i64 0)) fun v13 => brB (some v13)
  (wv (vload T G12 t_api_Update (.ptr i4 [] 0)) fun v14 => wg (vstore T G12 t_api_Update (.ptr i1 [] 0) v14) fun G15 => wv (vload T G15 t_api_Update (.ptr i1 [] 0)) fun v16 => Q (.tuple [v16, .int .i64 0, .int .i64 120]) G15)
  (let J71 : AVal → Heap → Prop := (fun x21 G20 => brB (some x21)
  (wv (vload T G20 t_api_Update (.ptr i4 [] 0)) fun v22 => wg (vstore T G20 t_api_Update (.ptr i1 [] 0) v22) fun G23 => wv (vload T G23 t_api_Update (.ptr i1 [] 0)) fun v24 => Q (.tuple [v24, .int .i64 0, .int .i64 2]) G23)
  (wv (vindex T t_string a0 (.int .i64 0)) fun v25 => wv (vconv T G20 t_uint8 t_int v25) fun v26 => wv (vslice T t_string a0 (some (.int .i64 1)) (some (.int .i64 3)) none) fun v27 => ACalls P escrowref03_Number.n [v27] G20 fun v28 G29 => wv (vconv T G29 t_uint64 t_int64 v28) fun v30 => wv (vbuild T t_api_Update [(0, v26), (1, v30)]) fun v31 => aNew G29 (.own (z_api_Update)) fun i32 G33 => wg (vstore T G33 t_api_Update (.ptr i32 [] 0) v31) fun G34 => wv (vload T G34 t_int (.ptr i32 [0] 0)) fun v35 => let J70 : Heap → Prop := (fun G59 => wv (vload T G59 t_api_Update (.ptr i32 [] 0)) fun v60 => ACalls P escrowref12_Valid.n [v60] G59 fun v61 G62 => wv (vun .not v61) fun v63 => brB (some v63)
  (wv (vload T G62 t_api_Update (.ptr i4 [] 0)) fun v64 => wg (vstore T G62 t_api_Update (.ptr i1 [] 0) v64) fun G65 => wv (vload T G65 t_api_Update (.ptr i1 [] 0)) fun v66 => Q (.tuple [v66, .int .i64 0, .int .i64 120]) G65)
  (wv (vload T G62 t_api_Update (.ptr i32 [] 0)) fun v67 => wg (vstore T G62 t_api_Update (.ptr i1 [] 0) v67) fun G68 => wv (vload T G68 t_api_Update (.ptr i1 [] 0)) fun v69 => Q (.tuple [v69, v11, .int .i64 0]) G68));
  wv (vbin T .eql t_int v35 (.int .i64 1)) fun v36 => brB (some v36)
  (wv (vslice T t_string a0 (some (.int .i64 3)) (some (.int .i64 11)) none) fun v37 => ACalls P escrowref03_Number.n [v37] G34 fun v38 G39 => wv (vbin T .gtr t_uint64 v38 (.int .u64 1152921504606846976)) fun v40 => brB (some v40)
  (wv (vload T G39 t_api_Update (.ptr i4 [] 0)) fun v41 => wg (vstore T G39 t_api_Update (.ptr i1 [] 0) v41) fun G42 => wv (vload T G42 t_api_Update (.ptr i1 [] 0)) fun v43 => Q (.tuple [v43, .int .i64 0, .int .i64 120]) G42)
  (wv (vconv T G39 t_uint64 t_int64 v38) fun v44 => wg (vstore T G39 t_int64 (.ptr i32 [2] 2) v44) fun G45 => wv (vslice T t_string a0 (some (.int .i64 11)) (some (.int .i64 43)) none) fun v46 => ACalls P escrowref12_hash.n [v46] G45 fun v47 G48 => wg (vstore T G48 t_api_Hash (.ptr i32 [3] 3) v47) fun G49 => J70 G49))
  (wv (vbin T .eql t_int v35 (.int .i64 2)) fun v50 => brB (some v50)
  (wv (vslice T t_string a0 (some (.int .i64 3)) (some (.int .i64 35)) none) fun v51 => ACalls P escrowref12_hash.n [v51] G34 fun v52 G53 => wg (vstore T G53 t_api_Hash (.ptr i32 [3] 3) v52) fun G54 => J70 G54)
  (wv (vslice T t_string a0 (some (.int .i64 5)) (some (v11)) none) fun v55 => wg (vstore T G34 t_string (.ptr i32 [4] 35) v55) fun G56 => J70 G56))));
  wv (vbin T .eql t_int v11 (.int .i64 0)) fun v17 => brB (some v17)
  (J71 (.bool true) G12)
  (wv (vlen T G12 t_string a0) fun v18 => wv (vbin T .lss t_int v18 v11) fun v19 => J71 v19 G12)))
def escrowref12_Read.an : Ann := .two (.nil) (.two (.nil) (.two (.nil) (.two (.nil) (.two (.nil) (.two (.nil) (.two (.ord [(0, []), (1, []), (2, []), (3, []), (4, []), (5, []), (6, []), (7, []), (8, []), (9, [])]) (.nil)))))))
set_option maxRecDepth 100000 in
theorem escrowref12_Read.sound {a0 : AVal} {G : Heap} {Q : AVal → Heap → Prop} (h : escrowref12_Read.S a0 G Q) : ACalls P escrowref12_Read.n [a0] G Q := by
  have e : escrowref12_Read.S a0 G Q = awp cx (escrowref12_Read.body) escrowref12_Read.an (bodyQ T [.cell 2 27, .tmp 3, .tmp 4] Q) (envL [a0]) G := by kernel_rfl
  exact ACalls_of_awp cxOk (f := escrowref12_Read.n) (fn := Try.f35) (c := escrowref12_Read.body) (an := escrowref12_Read.an) Try.func35 (by kernel_rfl) (by kernel_rfl) (by kernel_rfl) (drawsOk_of (by kernel_rfl) (by kernel_rfl)) (by simp [Try.f35]) (e ▸ h)

/-! #### escrow/escrowref16.number -/
def escrowref16_number.S (a0 a1 : AVal) (G : Heap) (Q : AVal → Heap → Prop) : Prop :=
  wv (vbin T .add t_int a1 (.int .i64 8)) fun v1 => wv (vlen T G t_string a0) fun v2 => wv (vbin T .gtr t_int v1 v2) fun v3 => brB (some v3)
  (Q (.int .i64 (-1)) G)
  (wv (vbin T .add t_int a1 (.int .i64 8)) fun v4 => wv (vslice T t_string a0 (some (a1)) (some (v4)) none) fun v5 => ACalls P escrowref03_Number.n [v5] G fun v6 G7 => wv (vbin T .gtr t_uint64 v6 (.int .u64 281474976710655)) fun v8 => brB (some v8)
  (Q (.int .i64 (-1)) G7)
  (wv (vconv T G7 t_uint64 t_int64 v6) fun v9 => Q v9 G7))
def escrowref16_number.an : Ann := .nil
set_option maxRecDepth 100000 in
theorem escrowref16_number.sound {a0 a1 : AVal} {G : Heap} {Q : AVal → Heap → Prop} (h : escrowref16_number.S a0 a1 G Q) : ACalls P escrowref16_number.n [a0, a1] G Q := by
  have e : escrowref16_number.S a0 a1 G Q = awp cx (escrowref16_number.body) escrowref16_number.an (bodyQ T [.tmp 4] Q) (envL [a0, a1]) G := by kernel_rfl
  exact ACalls_of_awp cxOk (f := escrowref16_number.n) (fn := Try.f36) (c := escrowref16_number.body) (an := escrowref16_number.an) Try.func36 (by kernel_rfl) (by kernel_rfl) (by kernel_rfl) (drawsOk_of (by kernel_rfl) (by kernel_rfl)) (by simp [Try.f36]) (e ▸ h)

/-! #### escrow/escrowref16.hash -/
def escrowref16_hash.S (a0 a1 : AVal) (G : Heap) (Q : AVal → Heap → Prop) : Prop :=
  aNew G (.own (z_api_Hash)) fun i1 G2 => aNew G2 (.own (z_api_Hash)) fun i3 G4 => ∀ R5 : List AVal → Heap → Prop,
  (∀ (x7 x8 x9 x10 x11 : AVal) (G6 : Heap), (wv (vbin T .lss t_int x11 (.int .i64 32)) fun v12 => brB (some v12)
  (wv (vbin T .add t_int x8 x11) fun v13 => wv (vlen T G6 t_string x7) fun v14 => wv (vbin T .lss t_int v13 v14) fun v15 => brB (some v15)
  (wv (vbin T .add t_int x8 x11) fun v23 => wv (vindex T t_string x7 v23) fun v24 => wv (viaddr T t_api_Hash x10 x11) fun v25 => wg (vstore T G6 t_uint8 v25 v24) fun G26 => wv (vbin T .add t_int x11 (.int .i64 1)) fun v27 => R5 [x7, x8, x9, x10, v27] G26)
  (wv (vload T G6 t_api_Hash x10) fun v34 => wg (vstore T G6 t_api_Hash x9 v34) fun G35 => wv (vload T G35 t_api_Hash x9) fun v36 => Q v36 G35))
  (wv (vload T G6 t_api_Hash x10) fun v37 => wg (vstore T G6 t_api_Hash x9 v37) fun G38 => wv (vload T G38 t_api_Hash x9) fun v39 => Q v39 G38)) → R5 [x7, x8, x9, x10, x11] G6) →
  R5 [a0, a1, .ptr i1 [] 0, .ptr i3 [] 0, .int .i64 0] G4
def escrowref16_hash.an : Ann := .two (.nil) (.two (.nil) (.two (.two (.nil) (.loop [0, 1, 4, 5, 6] (.nil))) (.nil)))
set_option maxRecDepth 100000 in
theorem escrowref16_hash.sound {a0 a1 : AVal} {G : Heap} {Q : AVal → Heap → Prop} (h : escrowref16_hash.S a0 a1 G Q) : ACalls P escrowref16_hash.n [a0, a1] G Q := by
  have e : escrowref16_hash.S a0 a1 G Q = awp cx (escrowref16_hash.body) escrowref16_hash.an (bodyQ T [.cell 4 23] Q) (envL [a0, a1]) G := by kernel_rfl
  exact ACalls_of_awp cxOk (f := escrowref16_hash.n) (fn := Try.f37) (c := escrowref16_hash.body) (an := escrowref16_hash.an) Try.func37 (by kernel_rfl) (by kernel_rfl) (by kernel_rfl) (drawsOk_of (by kernel_rfl) (by kernel_rfl)) (by simp [Try.f37]) (e ▸ h)

/-! #### escrow/escrowref16.Read -/
def escrowref16_Read.S (a0 : AVal) (G : Heap) (Q : AVal → Heap → Prop) : Prop :=
  aNew G (.own (z_api_Message)) fun i1 G2 => wv (vbin T .eql t_string a0 (.str [])) fun v3 => brB (some v3)
  (wv (vbuild T t_api_Message []) fun v4 => wg (vstore T G2 t_api_Message (.ptr i1 [] 0) v4) fun G5 => wv (vload T G5 t_api_Message (.ptr i1 [] 0)) fun v6 => Q (.tuple [v6, .int .i64 160]) G5)
  (wv (vindex T t_string a0 (.int .i64 0)) fun v7 => wv (vconv T G2 t_uint8 t_int v7) fun v8 => wv (vbuild T t_api_Message [(0, v8)]) fun v9 => aNew G2 (.own (z_api_Message)) fun i10 G11 => wg (vstore T G11 t_api_Message (.ptr i10 [] 0) v9) fun G12 => wv (vload T G12 t_int (.ptr i10 [0] 0)) fun v13 => let J97 : Heap → Prop := (fun G80 => wv (vload T G80 t_api_Message (.ptr i10 [] 0)) fun v81 => ACalls P escrowref16_Write.n [v81] G80 fun v82 G83 => wv (vextract v82 0) fun v84 => wv (vextract v82 1) fun v85 => let J96 : AVal → Heap → Prop := (fun x89 G88 => brB (some x89)
  (wv (vbuild T t_api_Message []) fun v90 => wg (vstore T G88 t_api_Message (.ptr i1 [] 0) v90) fun G91 => wv (vload T G91 t_api_Message (.ptr i1 [] 0)) fun v92 => Q (.tuple [v92, .int .i64 160]) G91)
  (wv (vload T G88 t_api_Message (.ptr i10 [] 0)) fun v93 => wg (vstore T G88 t_api_Message (.ptr i1 [] 0) v93) fun G94 => wv (vload T G94 t_api_Message (.ptr i1 [] 0)) fun v95 => Q (.tuple [v95, .int .i64 0]) G94));
  wv (vbin T .neq t_api_Errno v85 (.int .i64 0)) fun v86 => brB (some v86)
  (J96 (.bool true) G83)
  (wv (vbin T .neq t_string v84 a0) fun v87 => J96 v87 G83));
  wv (vbin T .eql t_int v13 (.int .i64 1)) fun v14 => let J79 : AVal → Heap → Prop := (fun x20 G19 => brB (some x20)
  (ACalls P escrowref12_Read.n [a0] G19 fun v21 G22 => wv (vextract v21 0) fun v23 => wv (vextract v21 1) fun v24 => wv (vextract v21 2) fun v25 => aNew G22 (.own (z_api_Update)) fun i26 G27 => wg (vstore T G27 t_api_Update (.ptr i26 [] 0) v23) fun G28 => let J42 : AVal → Heap → Prop := (fun x33 G32 => brB (some x33)
  (wv (vbuild T t_api_Message []) fun v34 => wg (vstore T G32 t_api_Message (.ptr i1 [] 0) v34) fun G35 => wv (vload T G35 t_api_Message (.ptr i1 [] 0)) fun v36 => Q (.tuple [v36, .int .i64 160]) G35)
  (wv (vload T G32 t_api_Update (.ptr i26 [] 0)) fun v37 => ACalls P escrowref16_Of.n [v37] G32 fun v38 G39 => wg (vstore T G39 t_api_Message (.ptr i1 [] 0) v38) fun G40 => wv (vload T G40 t_api_Message (.ptr i1 [] 0)) fun v41 => Q (.tuple [v41, .int .i64 0]) G40));
  wv (vbin T .neq t_api_Errno v25 (.int .i64 0)) fun v29 => brB (some v29)
  (J42 (.bool true) G28)
  (wv (vlen T G28 t_string a0) fun v30 => wv (vbin T .neq t_int v24 v30) fun v31 => J42 v31 G28))
  (wv (vbin T .eql t_int v13 (.int .i64 4)) fun v43 => brB (some v43)
  (ACalls P escrowref16_number.n [a0, .int .i64 1] G19 fun v44 G45 => wg (vstore T G45 t_int64 (.ptr i10 [3] 3) v44) fun G46 => ACalls P escrowref16_hash.n [a0, .int .i64 9] G46 fun v47 G48 => wg (vstore T G48 t_api_Hash (.ptr i10 [5] 5) v47) fun G49 => J97 G49)
  (wv (vbin T .eql t_int v13 (.int .i64 5)) fun v50 => brB (some v50)
  (ACalls P escrowref16_number.n [a0, .int .i64 1] G19 fun v51 G52 => wg (vstore T G52 t_int64 (.ptr i10 [3] 3) v51) fun G53 => ACalls P escrowref16_hash.n [a0, .int .i64 9] G53 fun v54 G55 => wg (vstore T G55 t_api_Hash (.ptr i10 [6] 37) v54) fun G56 => ACalls P escrowref16_hash.n [a0, .int .i64 41] G56 fun v57 G58 => wg (vstore T G58 t_api_Hash (.ptr i10 [5] 5) v57) fun G59 => J97 G59)
  (wv (vbin T .eql t_int v13 (.int .i64 6)) fun v60 => brB (some v60)
  (ACalls P escrowref16_number.n [a0, .int .i64 1] G19 fun v61 G62 => wg (vstore T G62 t_int64 (.ptr i10 [3] 3) v61) fun G63 => ACalls P escrowref16_number.n [a0, .int .i64 9] G63 fun v64 G65 => wg (vstore T G65 t_int64 (.ptr i10 [4] 4) v64) fun G66 => ACalls P escrowref16_hash.n [a0, .int .i64 17] G66 fun v67 G68 => wg (vstore T G68 t_api_Hash (.ptr i10 [6] 37) v67) fun G69 => J97 G69)
  (wv (vbin T .eql t_int v13 (.int .i64 7)) fun v70 => brB (some v70)
  (ACalls P escrowref16_number.n [a0, .int .i64 1] G19 fun v71 G72 => wg (vstore T G72 t_int64 (.ptr i10 [3] 3) v71) fun G73 => J97 G73)
  (J97 G19))))));
  brB (some v14)
  (J79 v14 G12)
  (wv (vbin T .eql t_int v13 (.int .i64 2)) fun v15 => brB (some v15)
  (J79 v15 G12)
  (wv (vbin T .eql t_int v13 (.int .i64 3)) fun v16 => J79 v16 G12)))
def escrowref16_Read.an : Ann := .nil
set_option maxRecDepth 100000 in
theorem escrowref16_Read.sound {a0 : AVal} {G : Heap} {Q : AVal → Heap → Prop} (h : escrowref16_Read.S a0 G Q) : ACalls P escrowref16_Read.n [a0] G Q := by
  have e : escrowref16_Read.S a0 G Q = awp cx (escrowref16_Read.body) escrowref16_Read.an (bodyQ T [.cell 2 25, .tmp 3] Q) (envL [a0]) G := by kernel_rfl
  exact ACalls_of_awp cxOk (f := escrowref16_Read.n) (fn := Try.f11) (c := escrowref16_Read.body) (an := escrowref16_Read.an) Try.func11 (by kernel_rfl) (by kernel_rfl) (by kernel_rfl) (drawsOk_of (by kernel_rfl) (by kernel_rfl)) (by simp [Try.f11]) (e ▸ h)

/-! #### escrow/escrowlaw16.MsgBytes -/
def escrowlaw16_MsgBytes.S (a0 a1 a2 : AVal) (G : Heap) (Q : AVal → Heap → Prop) : Prop :=
  aNew G (.own (a0)) fun i1 G2 => aNew G2 (.own (a2)) fun i3 G4 => ACalls P escrowlaw16_head.n [] G4 fun v5 G6 => wv (vun .not v5) fun v7 => brB (some v7)
  (Q (.bool false) G6)
  (wv (vload T G6 t_api_Message (.ptr i1 [] 0)) fun v8 => ACalls P msg_Write.n [v8] G6 fun v9 G10 => wv (vextract v9 0) fun v11 => wv (vextract v9 1) fun v12 => wv (vload T G10 t_api_Message (.ptr i1 [] 0)) fun v13 => ACalls P escrowref16_Write.n [v13] G10 fun v14 G15 => wv (vextract v14 0) fun v16 => wv (vextract v14 1) fun v17 => ACalls P msg_Read.n [a1] G15 fun v18 G19 => wv (vextract v18 0) fun v20 => wv (vextract v18 1) fun v21 => aNew G19 (.own (z_api_Message)) fun i22 G23 => wg (vstore T G23 t_api_Message (.ptr i22 [] 0) v20) fun G24 => ACalls P escrowref16_Read.n [a1] G24 fun v25 G26 => wv (vextract v25 0) fun v27 => wv (vextract v25 1) fun v28 => aNew G26 (.own (z_api_Message)) fun i29 G30 => wg (vstore T G30 t_api_Message (.ptr i29 [] 0) v27) fun G31 => wv (vload T G31 t_api_Message (.ptr i1 [] 0)) fun v32 => ACalls P msg_Update.n [v32] G31 fun v33 G34 => wv (vextract v33 0) fun v35 => wv (vextract v33 1) fun v36 => aNew G34 (.own (z_api_Update)) fun i37 G38 => wg (vstore T G38 t_api_Update (.ptr i37 [] 0) v35) fun G39 => wv (vload T G39 t_api_Message (.ptr i1 [] 0)) fun v40 => ACalls P escrowref16_Update.n [v40] G39 fun v41 G42 => wv (vextract v41 0) fun v43 => wv (vextract v41 1) fun v44 => aNew G42 (.own (z_api_Update)) fun i45 G46 => wg (vstore T G46 t_api_Update (.ptr i45 [] 0) v43) fun G47 => wv (vbin T .eql t_string v11 v16) fun v48 => brB (some v48)
  (wv (vbin T .eql t_api_Errno v12 v17) fun v49 => brB (some v49)
  (wv (vload T G47 t_api_Message (.ptr i22 [] 0)) fun v50 => wv (vload T G47 t_api_Message (.ptr i29 [] 0)) fun v51 => wv (vbin T .eql t_api_Message v50 v51) fun v52 => brB (some v52)
  (wv (vbin T .eql t_api_Errno v21 v28) fun v53 => brB (some v53)
  (wv (vload T G47 t_api_Update (.ptr i37 [] 0)) fun v54 => wv (vload T G47 t_api_Update (.ptr i45 [] 0)) fun v55 => wv (vbin T .eql t_api_Update v54 v55) fun v56 => brB (some v56)
  (wv (vbin T .eql t_bool v36 v44) fun v57 => brB (some v57)
  (wv (vload T G47 t_api_Update (.ptr i3 [] 0)) fun v58 => wv (vload T G47 t_api_Update (.ptr i3 [] 0)) fun v59 => ACalls P msg_Of.n [v58] G47 fun v60 G61 => (vload T G61 t_api_Update (.ptr i3 [] 0) = some v59 ∧ True) ∧ (ACalls P escrowref16_Of.n [v59] G61 fun v62 G63 => wv (vbin T .eql t_api_Message v60 v62) fun v64 => Q v64 G63))
  (Q (.bool false) G47))
  (Q (.bool false) G47))
  (Q (.bool false) G47))
  (Q (.bool false) G47))
  (Q (.bool false) G47))
  (Q (.bool false) G47))
def escrowlaw16_MsgBytes.an : Ann := .two (.nil) (.two (.nil) (.two (.nil) (.two (.nil) (.two (.nil) (.two (.nil) (.two (.nil) (.two (.nil) (.two (.ord [(0, []), (1, []), (2, []), (3, []), (4, []), (5, []), (6, []), (7, []), (8, []), (9, []), (10, []), (11, []), (12, []), (13, []), (14, []), (15, []), (16, []), (17, []), (18, []), (19, []), (20, []), (21, []), (22, []), (23, []), (24, []), (25, []), (26, []), (27, []), (28, []), (29, []), (31, []), (30, [31]), (32, []), (33, []), (34, []), (35, [])]) (.nil)))))))))
set_option maxRecDepth 100000 in
theorem escrowlaw16_MsgBytes.sound {a0 a1 a2 : AVal} {G : Heap} {Q : AVal → Heap → Prop} (h : escrowlaw16_MsgBytes.S a0 a1 a2 G Q) : ACalls P escrowlaw16_MsgBytes.n [a0, a1, a2] G Q := by
  have e : escrowlaw16_MsgBytes.S a0 a1 a2 G Q = awp cx (escrowlaw16_MsgBytes.body) escrowlaw16_MsgBytes.an (bodyQ T [.tmp 6] Q) (envL [a0, a1, a2]) G := by kernel_rfl
  exact ACalls_of_awp cxOk (f := escrowlaw16_MsgBytes.n) (fn := Try.f3) (c := escrowlaw16_MsgBytes.body) (an := escrowlaw16_MsgBytes.an) Try.func3 (by kernel_rfl) (by kernel_rfl) (by kernel_rfl) (drawsOk_of (by kernel_rfl) (by kernel_rfl)) (by simp [Try.f3]) (e ▸ h)

/-! #### escrow/escrowlaw16.MsgBack -/
def escrowlaw16_MsgBack.S (a0 a1 a2 a3 : AVal) (G : Heap) (Q : AVal → Heap → Prop) : Prop :=
  aNew G (.own (a0)) fun i1 G2 => ACalls P escrowlaw16_head.n [] G2 fun v3 G4 => wv (vun .not v3) fun v5 => brB (some v5)
  (Q (.bool false) G4)
  (wv (vload T G4 t_api_Message (.ptr i1 [] 0)) fun v6 => ACalls P msg_Write.n [v6] G4 fun v7 G8 => wv (vextract v7 0) fun v9 => wv (vextract v7 1) fun v10 => wv (vbin T .eql t_api_Errno v10 (.int .i64 0)) fun v11 => let J91 : Heap → Prop := (fun G67 => ACalls P msg_Read.n [a3] G67 fun v68 G69 => wv (vextract v68 0) fun v70 => wv (vextract v68 1) fun v71 => aNew G69 (.own (z_api_Message)) fun i72 G73 => wg (vstore T G73 t_api_Message (.ptr i72 [] 0) v70) fun G74 => wv (vbin T .neq t_api_Errno v71 (.int .i64 0)) fun v75 => brB (some v75)
  (wv (vbin T .eql t_api_Errno v71 (.int .i64 160)) fun v76 => brB (some v76)
  (wv (vload T G74 t_api_Message (.ptr i72 [] 0)) fun v77 => wv (vbuild T t_api_Message []) fun v78 => wv (vbin T .eql t_api_Message v77 v78) fun v79 => Q v79 G74)
  (Q (.bool false) G74))
  (wv (vload T G74 t_api_Message (.ptr i72 [] 0)) fun v82 => ACalls P msg_Write.n [v82] G74 fun v83 G84 => wv (vextract v83 0) fun v85 => wv (vextract v83 1) fun v86 => wv (vbin T .eql t_api_Errno v86 (.int .i64 0)) fun v87 => brB (some v87)
  (wv (vbin T .eql t_string v85 a3) fun v88 => Q v88 G84)
  (Q (.bool false) G84)));
  brB (some v11)
  (ACalls P msg_Read.n [v9] G8 fun v12 G13 => wv (vextract v12 0) fun v14 => wv (vextract v12 1) fun v15 => aNew G13 (.own (z_api_Message)) fun i16 G17 => wg (vstore T G17 t_api_Message (.ptr i16 [] 0) v14) fun G18 => let J62 : AVal → Heap → Prop := (fun x27 G26 => brB (some x27)
  (Q (.bool false) G26)
  (wv (vlen T G26 t_string v9) fun v28 => wv (vbin T .rem t_int a1 v28) fun v29 => wv (vbin T .lss t_int v29 (.int .i64 0)) fun v30 => let J61 : AVal → Heap → Prop := (fun x33 G32 => wv (vslice T t_string v9 none (some (x33)) none) fun v34 => ACalls P msg_Read.n [v34] G32 fun v35 G36 => wv (vextract v35 0) fun v37 => wv (vextract v35 1) fun v38 => aNew G36 (.own (z_api_Message)) fun i39 G40 => wg (vstore T G40 t_api_Message (.ptr i39 [] 0) v37) fun G41 => wv (vbin T .add t_string v9 (.str [120])) fun v42 => wv (vbin T .add t_string v42 a2) fun v43 => ACalls P msg_Read.n [v43] G41 fun v44 G45 => wv (vextract v44 0) fun v46 => wv (vextract v44 1) fun v47 => aNew G45 (.own (z_api_Message)) fun i48 G49 => wg (vstore T G49 t_api_Message (.ptr i48 [] 0) v46) fun G50 => wv (vbin T .neq t_api_Errno v38 (.int .i64 160)) fun v51 => brB (some v51)
  (Q (.bool false) G50)
  (wv (vbin T .neq t_api_Errno v47 (.int .i64 160)) fun v52 => brB (some v52)
  (Q (.bool false) G50)
  (wv (vload T G50 t_api_Message (.ptr i39 [] 0)) fun v53 => wv (vbuild T t_api_Message []) fun v54 => wv (vbin T .neq t_api_Message v53 v54) fun v55 => brB (some v55)
  (Q (.bool false) G50)
  (wv (vload T G50 t_api_Message (.ptr i48 [] 0)) fun v56 => wv (vbuild T t_api_Message []) fun v57 => wv (vbin T .neq t_api_Message v56 v57) fun v58 => brB (some v58)
  (Q (.bool false) G50)
  (J91 G50)))));
  brB (some v30)
  (wv (vun .neg v29) fun v31 => J61 v31 G26)
  (J61 v29 G26)));
  wv (vbin T .neq t_api_Errno v15 (.int .i64 0)) fun v19 => brB (some v19)
  (J62 (.bool true) G18)
  (wv (vload T G18 t_api_Message (.ptr i16 [] 0)) fun v20 => wv (vload T G18 t_api_Message (.ptr i1 [] 0)) fun v21 => wv (vbin T .neq t_api_Message v20 v21) fun v22 => brB (some v22)
  (J62 (.bool true) G18)
  (wv (vbin T .eql t_string v9 (.str [])) fun v23 => brB (some v23)
  (J62 (.bool true) G18)
  (wv (vlen T G18 t_string v9) fun v24 => wv (vbin T .gtr t_int v24 (.int .i64 73)) fun v25 => J62 v25 G18))))
  (wv (vbin T .neq t_api_Errno v10 (.int .i64 160)) fun v63 => brB (some v63)
  (Q (.bool false) G8)
  (wv (vbin T .neq t_string v9 (.str [])) fun v64 => brB (some v64)
  (Q (.bool false) G8)
  (J91 G8))))
def escrowlaw16_MsgBack.an : Ann := .nil
set_option maxRecDepth 100000 in
theorem escrowlaw16_MsgBack.sound {a0 a1 a2 a3 : AVal} {G : Heap} {Q : AVal → Heap → Prop} (h : escrowlaw16_MsgBack.S a0 a1 a2 a3 G Q) : ACalls P escrowlaw16_MsgBack.n [a0, a1, a2, a3] G Q := by
  have e : escrowlaw16_MsgBack.S a0 a1 a2 a3 G Q = awp cx (escrowlaw16_MsgBack.body) escrowlaw16_MsgBack.an (bodyQ T [.tmp 8] Q) (envL [a0, a1, a2, a3]) G := by kernel_rfl
  exact ACalls_of_awp cxOk (f := escrowlaw16_MsgBack.n) (fn := Try.f4) (c := escrowlaw16_MsgBack.body) (an := escrowlaw16_MsgBack.an) Try.func4 (by kernel_rfl) (by kernel_rfl) (by kernel_rfl) (drawsOk_of (by kernel_rfl) (by kernel_rfl)) (by simp [Try.f4]) (e ▸ h)

/-! #### escrow/escrowlaw16.MsgUpdates -/
def escrowlaw16_MsgUpdates.S (a0 a1 a2 : AVal) (G : Heap) (Q : AVal → Heap → Prop) : Prop :=
  aNew G (.own (a0)) fun i1 G2 => aNew G2 (.own (a2)) fun i3 G4 => ACalls P escrowlaw16_head.n [] G4 fun v5 G6 => wv (vun .not v5) fun v7 => brB (some v7)
  (Q (.bool false) G6)
  (wv (vload T G6 t_api_Update (.ptr i1 [] 0)) fun v8 => ACalls P msg_Of.n [v8] G6 fun v9 G10 => aNew G10 (.own (z_api_Message)) fun i11 G12 => wg (vstore T G12 t_api_Message (.ptr i11 [] 0) v9) fun G13 => wv (vload T G13 t_api_Message (.ptr i11 [] 0)) fun v14 => ACalls P msg_Update.n [v14] G13 fun v15 G16 => wv (vextract v15 0) fun v17 => wv (vextract v15 1) fun v18 => aNew G16 (.own (z_api_Update)) fun i19 G20 => wg (vstore T G20 t_api_Update (.ptr i19 [] 0) v17) fun G21 => let J131 : AVal → Heap → Prop := (fun x27 G26 => brB (some x27)
  (wv (vload T G26 t_api_Message (.ptr i11 [] 0)) fun v28 => ACalls P msg_Write.n [v28] G26 fun v29 G30 => wv (vextract v29 0) fun v31 => wv (vextract v29 1) fun v32 => wv (vun .not v18) fun v33 => brB (some v33)
  (wv (vload T G30 t_api_Update (.ptr i19 [] 0)) fun v34 => wv (vbuild T t_api_Update []) fun v35 => wv (vbin T .eql t_api_Update v34 v35) fun v36 => brB (some v36)
  (wv (vbin T .eql t_api_Errno v32 (.int .i64 160)) fun v37 => wv (vbin T .eql t_string v31 (.str [])) fun v38 => wv (vbin T .eql t_bool v37 v38) fun v39 => brB (some v39)
  (wv (vload T G30 t_int (.ptr i1 [0] 0)) fun v40 => wv (vbin T .geq t_int v40 (.int .i64 4)) fun v41 => brB (some v41)
  (wv (vload T G30 t_int (.ptr i1 [0] 0)) fun v42 => wv (vbin T .leq t_int v42 (.int .i64 7)) fun v43 => brB (some v43)
  (Q (.bool true) G30)
  (wv (vbin T .eql t_api_Errno v32 (.int .i64 160)) fun v44 => Q v44 G30))
  (wv (vbin T .eql t_api_Errno v32 (.int .i64 160)) fun v45 => Q v45 G30))
  (Q (.bool false) G30))
  (Q (.bool false) G30))
  (Q (.bool false) G30))
  (wv (vload T G26 t_api_Message (.ptr i11 [] 0)) fun v48 => ACalls P msg_Write.n [v48] G26 fun v49 G50 => wv (vextract v49 0) fun v51 => wv (vextract v49 1) fun v52 => wv (vload T G50 t_api_Update (.ptr i1 [] 0)) fun v53 => ACalls P update_Write.n [v53] G50 fun v54 G55 => wv (vextract v54 0) fun v56 => wv (vextract v54 1) fun v57 => let J130 : AVal → Heap → Prop := (fun x72 G71 => brB (some x72)
  (Q (.bool false) G71)
  (wv (vbin T .eql t_int64 a1 (.int .i64 0)) fun v73 => let J129 : AVal → Heap → Prop := (fun x75 G74 => wv (viaddr T t_api_Hash (.ptr i3 [] 0) (.int .i64 0)) fun v76 => wv (vload T G74 t_uint8 v76) fun v77 => wv (vbin T .or t_uint8 v77 (.int .u8 1)) fun v78 => wv (viaddr T t_api_Hash (.ptr i3 [] 0) (.int .i64 0)) fun v79 => wg (vstore T G74 t_uint8 v79 v78) fun G80 => ∀ R81 : List AVal → Heap → Prop,
  (∀ (x83 x84 x85 x86 x87 : AVal) (G82 : Heap), (wv (vbin T .lss t_int x87 (.int .i64 3)) fun v88 => brB (some v88)
  (wv (vload T G82 t_api_Message x86) fun v89 => aNew G82 (.own (z_api_Message)) fun i90 G91 => wg (vstore T G91 t_api_Message (.ptr i90 [] 0) v89) fun G92 => let J125 : Heap → Prop := (fun G103 => wv (vload T G103 t_api_Message (.ptr i90 [] 0)) fun v104 => ACalls P msg_Update.n [v104] G103 fun v105 G106 => wv (vextract v105 0) fun v107 => wv (vextract v105 1) fun v108 => aNew G106 (.own (z_api_Update)) fun i109 G110 => wg (vstore T G110 t_api_Update (.ptr i109 [] 0) v107) fun G111 => wv (vload T G111 t_api_Message (.ptr i90 [] 0)) fun v112 => ACalls P msg_Write.n [v112] G111 fun v113 G114 => wv (vextract v113 0) fun v115 => wv (vextract v113 1) fun v116 => wv (vun .not v108) fun v117 => brB (some v117)
  (Q (.bool false) G114)
  (wv (vload T G114 t_api_Update (.ptr i109 [] 0)) fun v118 => wv (vload T G114 t_api_Update x84) fun v119 => wv (vbin T .neq t_api_Update v118 v119) fun v120 => brB (some v120)
  (Q (.bool false) G114)
  (wv (vbin T .neq t_api_Errno v116 (.int .i64 160)) fun v121 => brB (some v121)
  (Q (.bool false) G114)
  (wv (vbin T .neq t_string v115 (.str [])) fun v122 => brB (some v122)
  (Q (.bool false) G114)
  (wv (vbin T .add t_int x87 (.int .i64 1)) fun v128 => R81 [x83, x84, x85, x86, v128] G114)))));
  wv (vbin T .eql t_int x87 (.int .i64 0)) fun v93 => brB (some v93)
  (wg (vstore T G92 t_int64 (.ptr i90 [3] 3) x83) fun G94 => J125 G94)
  (wv (vbin T .eql t_int x87 (.int .i64 1)) fun v95 => brB (some v95)
  (wg (vstore T G92 t_int64 (.ptr i90 [4] 4) x83) fun G96 => J125 G96)
  (wv (vbin T .eql t_int x87 (.int .i64 2)) fun v97 => brB (some v97)
  (wv (vload T G92 t_api_Hash x85) fun v98 => wg (vstore T G92 t_api_Hash (.ptr i90 [6] 37) v98) fun G99 => J125 G99)
  (J125 G92))))
  (Q (.bool true) G82)) → R81 [x83, x84, x85, x86, x87] G82) →
  R81 [x75, .ptr i1 [] 0, .ptr i3 [] 0, .ptr i11 [] 0, .int .i64 0] G80);
  brB (some v73)
  (J129 (.int .i64 1) G71)
  (J129 a1 G71)));
  wv (vun .not v18) fun v58 => brB (some v58)
  (J130 (.bool true) G55)
  (wv (vload T G55 t_api_Update (.ptr i19 [] 0)) fun v59 => wv (vload T G55 t_api_Update (.ptr i1 [] 0)) fun v60 => wv (vbin T .neq t_api_Update v59 v60) fun v61 => brB (some v61)
  (J130 (.bool true) G55)
  (wv (vbin T .eql t_api_Errno v52 (.int .i64 0)) fun v62 => wv (vbin T .eql t_api_Errno v57 (.int .i64 0)) fun v63 => wv (vbin T .neq t_bool v62 v63) fun v64 => brB (some v64)
  (J130 (.bool true) G55)
  (wv (vbin T .neq t_string v51 v56) fun v65 => brB (some v65)
  (J130 (.bool true) G55)
  (wv (vbin T .eql t_api_Errno v52 (.int .i64 0)) fun v66 => wv (vload T G55 t_api_Update (.ptr i1 [] 0)) fun v67 => ACalls P update_Valid.n [v67] G55 fun v68 G69 => wv (vbin T .neq t_bool v66 v68) fun v70 => J130 v70 G69))))));
  wv (vload T G21 t_int (.ptr i1 [0] 0)) fun v22 => wv (vbin T .lss t_int v22 (.int .i64 1)) fun v23 => brB (some v23)
  (J131 (.bool true) G21)
  (wv (vload T G21 t_int (.ptr i1 [0] 0)) fun v24 => wv (vbin T .gtr t_int v24 (.int .i64 3)) fun v25 => J131 v25 G21))
def escrowlaw16_MsgUpdates.an : Ann := .two (.nil) (.two (.nil) (.two (.nil) (.two (.nil) (.two (.nil) (.two (.nil) (.two (.nil) (.two (.nil) (.two (.nil) (.two (.nil) (.two (.two (.nil) (.loop [1, 3, 5, 7, 16] (.nil))) (.nil)))))))))))
set_option maxRecDepth 100000 in
theorem escrowlaw16_MsgUpdates.sound {a0 a1 a2 : AVal} {G : Heap} {Q : AVal → Heap → Prop} (h : escrowlaw16_MsgUpdates.S a0 a1 a2 G Q) : ACalls P escrowlaw16_MsgUpdates.n [a0, a1, a2] G Q := by
  have e : escrowlaw16_MsgUpdates.S a0 a1 a2 G Q = awp cx (escrowlaw16_MsgUpdates.body) escrowlaw16_MsgUpdates.an (bodyQ T [.tmp 6] Q) (envL [a0, a1, a2]) G := by kernel_rfl
  exact ACalls_of_awp cxOk (f := escrowlaw16_MsgUpdates.n) (fn := Try.f5) (c := escrowlaw16_MsgUpdates.body) (an := escrowlaw16_MsgUpdates.an) Try.func5 (by kernel_rfl) (by kernel_rfl) (by kernel_rfl) (drawsOk_of (by kernel_rfl) (by kernel_rfl)) (by simp [Try.f5]) (e ▸ h)

/-! #### escrow/escrowlaw16.index -/
def escrowlaw16_index.S (a0 : AVal) (G : Heap) (Q : AVal → Heap → Prop) : Prop :=
  wv (vbin T .and t_int64 a0 (.int .i64 281474976710655)) fun v1 => Q v1 G
def escrowlaw16_index.an : Ann := .nil
set_option maxRecDepth 100000 in
theorem escrowlaw16_index.sound {a0 : AVal} {G : Heap} {Q : AVal → Heap → Prop} (h : escrowlaw16_index.S a0 G Q) : ACalls P escrowlaw16_index.n [a0] G Q := by
  have e : escrowlaw16_index.S a0 G Q = awp cx (escrowlaw16_index.body) escrowlaw16_index.an (bodyQ T [.tmp 2] Q) (envL [a0]) G := by kernel_rfl
  exact ACalls_of_awp cxOk (f := escrowlaw16_index.n) (fn := Try.f18) (c := escrowlaw16_index.body) (an := escrowlaw16_index.an) Try.func18 (by kernel_rfl) (by kernel_rfl) (by kernel_rfl) (drawsOk_of (by kernel_rfl) (by kernel_rfl)) (by simp [Try.f18]) (e ▸ h)

/-! #### escrow/escrowlaw16.number -/
def escrowlaw16_number.S (a0 : AVal) (G : Heap) (Q : AVal → Heap → Prop) : Prop :=
  ∀ R1 : List AVal → Heap → Prop,
  (∀ (x3 x4 x5 : AVal) (G2 : Heap), (wv (vbin T .geq t_int x5 (.int .i64 0)) fun v6 => brB (some v6)
  (wv (vconv T G2 t_int t_uint x5) fun v7 => wv (vbin T .mul t_uint (.int .u64 8) v7) fun v8 => wv (vbin T .shr t_int64 x3 v8) fun v9 => wv (vconv T G2 t_int64 t_uint8 v9) fun v10 => aBuildSlice T t_sl_uint8 1 [(0, v10)] G2 fun v11 G12 => aAppend T G12 t_sl_uint8 t_sl_uint8 x4 v11 fun v13 G14 => wv (vbin T .sub t_int x5 (.int .i64 1)) fun v15 => R1 [x3, v13, v15] G14)
  (wv (vconv T G2 t_sl_uint8 t_string x4) fun v16 => Q v16 G2)) → R1 [x3, x4, x5] G2) →
  R1 [a0, .nilSlice, .int .i64 7] G
def escrowlaw16_number.an : Ann := .two (.nil) (.two (.nil) (.two (.two (.nil) (.loop [0, 3, 4] (.nil))) (.nil)))
set_option maxRecDepth 100000 in
theorem escrowlaw16_number.sound {a0 : AVal} {G : Heap} {Q : AVal → Heap → Prop} (h : escrowlaw16_number.S a0 G Q) : ACalls P escrowlaw16_number.n [a0] G Q := by
  have e : escrowlaw16_number.S a0 G Q = awp cx (escrowlaw16_number.body) escrowlaw16_number.an (bodyQ T [.tmp 2] Q) (envL [a0]) G := by kernel_rfl
  exact ACalls_of_awp cxOk (f := escrowlaw16_number.n) (fn := Try.f19) (c := escrowlaw16_number.body) (an := escrowlaw16_number.an) Try.func19 (by kernel_rfl) (by kernel_rfl) (by kernel_rfl) (drawsOk_of (by kernel_rfl) (by kernel_rfl)) (by simp [Try.f19]) (e ▸ h)

end Go.Esc.M
