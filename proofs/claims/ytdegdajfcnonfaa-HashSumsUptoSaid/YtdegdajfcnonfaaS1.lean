/- Printed by gen.py (own work): functions of the program Ytdegdajfcnonfaa over trees and the abstract heap. -/
import Derived.Test.YtdegdajfcnonfaaT
set_option linter.unusedSimpArgs false
set_option linter.unusedVariables false
namespace Go.Esc.M
open Go Go.Esc Go.Proofs

/-! #### escrow/escrowlaw02.HashSums -/
def escrowlaw02_HashSums.S (a0 : AVal) (G : Heap) (Q : AVal → Heap → Prop) : Prop :=
  ACalls P escrowlaw02_first.n [] G fun v1 G2 => wv (vun .not v1) fun v3 => brB (some v3)
  (Q (.bool false) G2)
  (ACalls P escrowlaw02_lend.n [a0] G2 fun v4 G5 => ACalls P escrowref02_Sum.n [a0] G5 fun v6 G7 => aNew G7 (.own (z_api_Hash)) fun i8 G9 => wg (vstore T G9 t_api_Hash (.ptr i8 [] 0) v6) fun G10 => let J53 : AVal → Heap → Prop := (fun x23 G22 => brB (some x23)
  (Q (.bool false) G22)
  (∀ R24 : List AVal → Heap → Prop,
  (∀ (x26 x27 x28 x29 x30 : AVal) (G25 : Heap), (wv (vlen T G25 t_sl_string x27) fun v31 => wv (vbin T .lss t_int x30 v31) fun v32 => brB (some v32)
  (wv (viaddr T t_sl_string x27 x30) fun v33 => wv (vload T G25 t_string v33) fun v34 => wv (vbin T .add t_string v34 (.str [120])) fun v35 => wv (viaddr T t_sl_string x27 x30) fun v36 => wg (vstore T G25 t_string v36 v35) fun G37 => wv (viaddr T t_sl_string x26 x30) fun v38 => wv (vload T G37 t_string v38) fun v39 => wv (vbin T .add t_string v39 (.str [120])) fun v40 => aBuildSlice T t_sl_string 1 [(0, v40)] G37 fun v41 G42 => aAppend T G42 t_sl_string t_sl_string x29 v41 fun v43 G44 => wv (vbin T .add t_int x30 (.int .i64 1)) fun v45 => R24 [x26, x27, x28, v43, v45] G44)
  (ACalls P escrowref02_Sum.n [x29] G25 fun v46 G47 => wg (vstore T G47 t_api_Hash x28 v46) fun G48 => wv (vload T G48 t_api_Hash x28) fun v49 => ACalls P hash_Sum.n [x27] G48 fun v50 G51 => (vload T G51 t_api_Hash x28 = some v49 ∧ True) ∧ (wv (vbin T .eql t_api_Hash v50 v49) fun v52 => Q v52 G51))) → R24 [x26, x27, x28, x29, x30] G25) →
  R24 [a0, v4, .ptr i8 [] 0, .nilSlice, .int .i64 0] G22));
  wv (vload T G10 t_api_Hash (.ptr i8 [] 0)) fun v11 => ACalls P hash_Sum.n [v4] G10 fun v12 G13 => (vload T G13 t_api_Hash (.ptr i8 [] 0) = some v11 ∧ True) ∧ (wv (vbin T .neq t_api_Hash v12 v11) fun v14 => brB (some v14)
  (J53 (.bool true) G13)
  (wv (vload T G13 t_api_Hash (.ptr i8 [] 0)) fun v15 => ACalls P hash_Sum.n [v4] G13 fun v16 G17 => (vload T G17 t_api_Hash (.ptr i8 [] 0) = some v15 ∧ True) ∧ (wv (vbin T .neq t_api_Hash v16 v15) fun v18 => brB (some v18)
  (J53 (.bool true) G17)
  (ACalls P escrowlaw02_kept.n [v4, a0] G17 fun v19 G20 => wv (vun .not v19) fun v21 => J53 v21 G20)))))
def escrowlaw02_HashSums.an : Ann := .two (.nil) (.two (.nil) (.two (.nil) (.two (.nil) (.two (.two (.ord [(0, []), (2, []), (1, [2]), (3, []), (4, []), (5, []), (7, []), (6, [7]), (8, []), (9, []), (10, []), (11, []), (12, []), (13, []), (14, []), (15, [])]) (.nil)) (.two (.nil) (.two (.two (.nil) (.loop [0, 3, 4, 5, 6] (.nil))) (.two (.nil) (.two (.ord [(0, []), (2, []), (1, [2]), (3, []), (4, [])]) (.nil)))))))))
set_option maxRecDepth 100000 in
theorem escrowlaw02_HashSums.sound {a0 : AVal} {G : Heap} {Q : AVal → Heap → Prop} (h : escrowlaw02_HashSums.S a0 G Q) : ACalls P escrowlaw02_HashSums.n [a0] G Q := by
  have e : escrowlaw02_HashSums.S a0 G Q = awp cx (escrowlaw02_HashSums.body) escrowlaw02_HashSums.an (bodyQ T [.tmp 2] Q) (envL [a0]) G := by kernel_rfl
  exact ACalls_of_awp cxOk (f := escrowlaw02_HashSums.n) (fn := Try.f3) (c := escrowlaw02_HashSums.body) (an := escrowlaw02_HashSums.an) Try.func3 (by kernel_rfl) (by kernel_rfl) (by kernel_rfl) (drawsOk_of (by kernel_rfl) (by kernel_rfl)) (by simp [Try.f3]) (e ▸ h)

/-! #### escrow/escrowref02.Pad -/
def escrowref02_Pad.S (a0 a1 : AVal) (G : Heap) (Q : AVal → Heap → Prop) : Prop :=
  aNew G (.own (a0)) fun i1 G2 => ∀ R3 : List AVal → Heap → Prop,
  (∀ (x5 x6 x7 x8 : AVal) (G4 : Heap), (wv (vbin T .lss t_int x8 (.int .i64 64)) fun v9 => brB (some v9)
  (wv (vbin T .lss t_int x8 (.int .i64 32)) fun v10 => brB (some v10)
  (wv (viaddr T t_api_Hash x6 x8) fun v11 => wv (vload T G4 t_uint8 v11) fun v12 => wv (vbin T .xor t_uint8 v12 x5) fun v20 => aBuildSlice T t_sl_uint8 1 [(0, v20)] G4 fun v21 G22 => aAppend T G22 t_sl_uint8 t_sl_uint8 x7 v21 fun v23 G24 => wv (vbin T .add t_int x8 (.int .i64 1)) fun v33 => R3 [x5, x6, v23, v33] G24)
  (wv (vbin T .xor t_uint8 (.int .u8 0) x5) fun v25 => aBuildSlice T t_sl_uint8 1 [(0, v25)] G4 fun v26 G27 => aAppend T G27 t_sl_uint8 t_sl_uint8 x7 v26 fun v28 G29 => wv (vbin T .add t_int x8 (.int .i64 1)) fun v34 => R3 [x5, x6, v28, v34] G29))
  (wv (vconv T G4 t_sl_uint8 t_string x7) fun v35 => Q v35 G4)) → R3 [x5, x6, x7, x8] G4) →
  R3 [a1, .ptr i1 [] 0, .nilSlice, .int .i64 0] G2
def escrowref02_Pad.an : Ann := .two (.nil) (.two (.nil) (.two (.two (.nil) (.loop [1, 2, 5, 6] (.nil))) (.nil)))
set_option maxRecDepth 100000 in
theorem escrowref02_Pad.sound {a0 a1 : AVal} {G : Heap} {Q : AVal → Heap → Prop} (h : escrowref02_Pad.S a0 a1 G Q) : ACalls P escrowref02_Pad.n [a0, a1] G Q := by
  have e : escrowref02_Pad.S a0 a1 G Q = awp cx (escrowref02_Pad.body) escrowref02_Pad.an (bodyQ T [.tmp 4] Q) (envL [a0, a1]) G := by kernel_rfl
  exact ACalls_of_awp cxOk (f := escrowref02_Pad.n) (fn := Try.f27) (c := escrowref02_Pad.body) (an := escrowref02_Pad.an) Try.func27 (by kernel_rfl) (by kernel_rfl) (by kernel_rfl) (drawsOk_of (by kernel_rfl) (by kernel_rfl)) (by simp [Try.f27]) (e ▸ h)

/-! #### escrow/escrowref02.Bytes -/
def escrowref02_Bytes.S (a0 : AVal) (G : Heap) (Q : AVal → Heap → Prop) : Prop :=
  aNew G (.own (a0)) fun i1 G2 => ∀ R3 : List AVal → Heap → Prop,
  (∀ (x5 x6 x7 : AVal) (G4 : Heap), (wv (vbin T .lss t_int x7 (.int .i64 32)) fun v8 => brB (some v8)
  (wv (viaddr T t_api_Hash x5 x7) fun v9 => wv (vload T G4 t_uint8 v9) fun v10 => aBuildSlice T t_sl_uint8 1 [(0, v10)] G4 fun v11 G12 => aAppend T G12 t_sl_uint8 t_sl_uint8 x6 v11 fun v13 G14 => wv (vbin T .add t_int x7 (.int .i64 1)) fun v15 => R3 [x5, v13, v15] G14)
  (wv (vconv T G4 t_sl_uint8 t_string x6) fun v16 => Q v16 G4)) → R3 [x5, x6, x7] G4) →
  R3 [.ptr i1 [] 0, .nilSlice, .int .i64 0] G2
def escrowref02_Bytes.an : Ann := .two (.nil) (.two (.nil) (.two (.two (.nil) (.loop [1, 3, 4] (.nil))) (.nil)))
set_option maxRecDepth 100000 in
theorem escrowref02_Bytes.sound {a0 : AVal} {G : Heap} {Q : AVal → Heap → Prop} (h : escrowref02_Bytes.S a0 G Q) : ACalls P escrowref02_Bytes.n [a0] G Q := by
  have e : escrowref02_Bytes.S a0 G Q = awp cx (escrowref02_Bytes.body) escrowref02_Bytes.an (bodyQ T [.tmp 2] Q) (envL [a0]) G := by kernel_rfl
  exact ACalls_of_awp cxOk (f := escrowref02_Bytes.n) (fn := Try.f28) (c := escrowref02_Bytes.body) (an := escrowref02_Bytes.an) Try.func28 (by kernel_rfl) (by kernel_rfl) (by kernel_rfl) (drawsOk_of (by kernel_rfl) (by kernel_rfl)) (by simp [Try.f28]) (e ▸ h)

/-! #### escrow/escrowref02.Mac -/
def escrowref02_Mac.S (a0 a1 : AVal) (G : Heap) (Q : AVal → Heap → Prop) : Prop :=
  aNew G (.own (a0)) fun i1 G2 => aNew G2 (.own (z_api_Hash)) fun i3 G4 => wv (vload T G4 t_api_Hash (.ptr i1 [] 0)) fun v5 => wv (vload T G4 t_api_Hash (.ptr i1 [] 0)) fun v6 => ACalls P escrowref02_Pad.n [v5, .int .u8 92] G4 fun v7 G8 => (vload T G8 t_api_Hash (.ptr i1 [] 0) = some v6 ∧ True) ∧ (ACalls P escrowref02_Pad.n [v6, .int .u8 54] G8 fun v9 G10 => wv (vbin T .add t_string v9 a1) fun v11 => ACalls P escrowref02_One.n [v11] G10 fun v12 G13 => ACalls P escrowref02_Bytes.n [v12] G13 fun v14 G15 => wv (vbin T .add t_string v7 v14) fun v16 => ACalls P escrowref02_One.n [v16] G15 fun v17 G18 => wg (vstore T G18 t_api_Hash (.ptr i3 [] 0) v17) fun G19 => wv (vload T G19 t_api_Hash (.ptr i3 [] 0)) fun v20 => Q v20 G19)
def escrowref02_Mac.an : Ann := .two (.nil) (.two (.ord [(0, []), (2, []), (4, []), (1, [2]), (3, []), (5, []), (6, []), (7, []), (8, []), (9, []), (10, [])]) (.nil))
set_option maxRecDepth 100000 in
theorem escrowref02_Mac.sound {a0 a1 : AVal} {G : Heap} {Q : AVal → Heap → Prop} (h : escrowref02_Mac.S a0 a1 G Q) : ACalls P escrowref02_Mac.n [a0, a1] G Q := by
  have e : escrowref02_Mac.S a0 a1 G Q = awp cx (escrowref02_Mac.body) escrowref02_Mac.an (bodyQ T [.cell 4 26] Q) (envL [a0, a1]) G := by kernel_rfl
  exact ACalls_of_awp cxOk (f := escrowref02_Mac.n) (fn := Try.f15) (c := escrowref02_Mac.body) (an := escrowref02_Mac.an) Try.func15 (by kernel_rfl) (by kernel_rfl) (by kernel_rfl) (drawsOk_of (by kernel_rfl) (by kernel_rfl)) (by simp [Try.f15]) (e ▸ h)

/-! #### escrow/escrowlaw02.HashMacs -/
def escrowlaw02_HashMacs.S (a0 a1 : AVal) (G : Heap) (Q : AVal → Heap → Prop) : Prop :=
  aNew G (.own (a0)) fun i1 G2 => wv (vload T G2 t_api_Hash (.ptr i1 [] 0)) fun v3 => ACalls P hash_Mac.n [v3, a1] G2 fun v4 G5 => aNew G5 (.own (z_api_Hash)) fun i6 G7 => wg (vstore T G7 t_api_Hash (.ptr i6 [] 0) v4) fun G8 => ACalls P escrowlaw02_first.n [] G8 fun v9 G10 => brB (some v9)
  (wv (vload T G10 t_api_Hash (.ptr i6 [] 0)) fun v11 => wv (vload T G10 t_api_Hash (.ptr i1 [] 0)) fun v12 => ACalls P escrowref02_Mac.n [v12, a1] G10 fun v13 G14 => (vload T G14 t_api_Hash (.ptr i6 [] 0) = some v11 ∧ True) ∧ (wv (vbin T .eql t_api_Hash v11 v13) fun v15 => Q v15 G14))
  (Q (.bool false) G10)
def escrowlaw02_HashMacs.an : Ann := .two (.nil) (.two (.nil) (.two (.ord [(0, []), (1, []), (2, []), (3, []), (4, []), (5, [2]), (6, []), (7, []), (8, [])]) (.nil)))
set_option maxRecDepth 100000 in
theorem escrowlaw02_HashMacs.sound {a0 a1 : AVal} {G : Heap} {Q : AVal → Heap → Prop} (h : escrowlaw02_HashMacs.S a0 a1 G Q) : ACalls P escrowlaw02_HashMacs.n [a0, a1] G Q := by
  have e : escrowlaw02_HashMacs.S a0 a1 G Q = awp cx (escrowlaw02_HashMacs.body) escrowlaw02_HashMacs.an (bodyQ T [.tmp 4] Q) (envL [a0, a1]) G := by kernel_rfl
  exact ACalls_of_awp cxOk (f := escrowlaw02_HashMacs.n) (fn := Try.f4) (c := escrowlaw02_HashMacs.body) (an := escrowlaw02_HashMacs.an) Try.func4 (by kernel_rfl) (by kernel_rfl) (by kernel_rfl) (drawsOk_of (by kernel_rfl) (by kernel_rfl)) (by simp [Try.f4]) (e ▸ h)

/-! #### escrow/escrowref02.Hex -/
def escrowref02_Hex.S (a0 : AVal) (G : Heap) (Q : AVal → Heap → Prop) : Prop :=
  aNew G (.own (a0)) fun i1 G2 => ∀ R3 : List AVal → Heap → Prop,
  (∀ (x5 x6 x7 x8 : AVal) (G4 : Heap), (wv (vbin T .lss t_int x8 (.int .i64 32)) fun v9 => brB (some v9)
  (wv (viaddr T t_api_Hash x5 x8) fun v10 => wv (vload T G4 t_uint8 v10) fun v11 => wv (vbin T .quo t_uint8 v11 (.int .u8 16)) fun v12 => wv (vindex T t_string x6 v12) fun v13 => wv (viaddr T t_api_Hash x5 x8) fun v14 => wv (vload T G4 t_uint8 v14) fun v15 => wv (vbin T .rem t_uint8 v15 (.int .u8 16)) fun v16 => wv (vindex T t_string x6 v16) fun v17 => aBuildSlice T t_sl_uint8 2 [(0, v13), (1, v17)] G4 fun v18 G19 => aAppend T G19 t_sl_uint8 t_sl_uint8 x7 v18 fun v20 G21 => wv (vbin T .add t_int x8 (.int .i64 1)) fun v22 => R3 [x5, x6, v20, v22] G21)
  (wv (vconv T G4 t_sl_uint8 t_string x7) fun v23 => Q v23 G4)) → R3 [x5, x6, x7, x8] G4) →
  R3 [.ptr i1 [] 0, .str [48, 49, 50, 51, 52, 53, 54, 55, 56, 57, 97, 98, 99, 100, 101, 102], .nilSlice, .int .i64 0] G2
def escrowref02_Hex.an : Ann := .two (.nil) (.two (.nil) (.two (.nil) (.two (.two (.nil) (.loop [1, 3, 4, 5] (.two (.nil) (.two (.ord [(0, []), (1, []), (2, []), (3, []), (4, []), (5, []), (6, []), (7, []), (8, []), (9, []), (10, []), (11, []), (12, []), (13, []), (14, []), (15, [])]) (.nil))))) (.nil))))
set_option maxRecDepth 100000 in
theorem escrowref02_Hex.sound {a0 : AVal} {G : Heap} {Q : AVal → Heap → Prop} (h : escrowref02_Hex.S a0 G Q) : ACalls P escrowref02_Hex.n [a0] G Q := by
  have e : escrowref02_Hex.S a0 G Q = awp cx (escrowref02_Hex.body) escrowref02_Hex.an (bodyQ T [.tmp 2] Q) (envL [a0]) G := by kernel_rfl
  exact ACalls_of_awp cxOk (f := escrowref02_Hex.n) (fn := Try.f19) (c := escrowref02_Hex.body) (an := escrowref02_Hex.an) Try.func19 (by kernel_rfl) (by kernel_rfl) (by kernel_rfl) (drawsOk_of (by kernel_rfl) (by kernel_rfl)) (by simp [Try.f19]) (e ▸ h)

/-! #### escrow/escrowref02.Parse -/
def escrowref02_Parse.S (a0 : AVal) (G : Heap) (Q : AVal → Heap → Prop) : Prop :=
  aNew G (.own (z_api_Hash)) fun i1 G2 => aNew G2 (.own (z_api_Hash)) fun i3 G4 => ∀ R5 : List AVal → Heap → Prop,
  (∀ (x7 x8 x9 x10 x11 : AVal) (G6 : Heap), (let J44 : AVal → Heap → Prop := (fun x16 G15 => brB (some x16)
  (∀ R17 : List AVal → Heap → Prop,
  (∀ (x19 x20 x21 x22 x23 x24 : AVal) (G18 : Heap), (wv (vbin T .lss t_int x24 (.int .i64 16)) fun v25 => brB (some v25)
  (wv (vindex T t_string x21 x24) fun v26 => wv (vindex T t_string x19 x23) fun v27 => wv (vbin T .eql t_uint8 v26 v27) fun v28 => brB (some v28)
  (wv (vbin T .quo t_int x23 (.int .i64 2)) fun v29 => wv (vbin T .quo t_int x23 (.int .i64 2)) fun v30 => wv (viaddr T t_api_Hash x22 v30) fun v31 => wv (vload T G18 t_uint8 v31) fun v32 => wv (vbin T .mul t_uint8 v32 (.int .u8 16)) fun v33 => wv (vconv T G18 t_int t_uint8 x24) fun v34 => wv (vbin T .add t_uint8 v33 v34) fun v35 => wv (viaddr T t_api_Hash x22 v29) fun v36 => wg (vstore T G18 t_uint8 v36 v35) fun G37 => wv (vbin T .add t_int x24 (.int .i64 1)) fun v41 => R17 [x19, x20, x21, x22, x23, v41] G37)
  (wv (vbin T .add t_int x24 (.int .i64 1)) fun v42 => R17 [x19, x20, x21, x22, x23, v42] G18))
  (wv (vbin T .add t_int x23 (.int .i64 1)) fun v43 => R5 [x19, x20, x21, x22, v43] G18)) → R17 [x19, x20, x21, x22, x23, x24] G18) →
  R17 [x7, x8, x9, x10, x11, .int .i64 0] G15)
  (wv (vload T G15 t_api_Hash x10) fun v45 => ACalls P escrowref02_Hex.n [v45] G15 fun v46 G47 => wv (vbin T .neq t_string v46 x7) fun v48 => brB (some v48)
  (wv (vbuild T t_api_Hash []) fun v49 => wg (vstore T G47 t_api_Hash x8 v49) fun G50 => wv (vload T G50 t_api_Hash x8) fun v51 => Q (.tuple [v51, .int .i64 4]) G50)
  (wv (vload T G47 t_api_Hash x10) fun v52 => wg (vstore T G47 t_api_Hash x8 v52) fun G53 => wv (vload T G53 t_api_Hash x8) fun v54 => Q (.tuple [v54, .int .i64 0]) G53)));
  wv (vlen T G6 t_string x7) fun v12 => wv (vbin T .lss t_int x11 v12) fun v13 => brB (some v13)
  (wv (vbin T .lss t_int x11 (.int .i64 64)) fun v14 => J44 v14 G6)
  (J44 (.bool false) G6)) → R5 [x7, x8, x9, x10, x11] G6) →
  R5 [a0, .ptr i1 [] 0, .str [48, 49, 50, 51, 52, 53, 54, 55, 56, 57, 97, 98, 99, 100, 101, 102], .ptr i3 [] 0, .int .i64 0] G4
def escrowref02_Parse.an : Ann := .two (.nil) (.two (.nil) (.two (.nil) (.two (.two (.nil) (.loop [0, 2, 4, 5, 6] (.two (.nil) (.two (.two (.nil) (.loop [0, 2, 4, 5, 6, 7] (.two (.nil) (.two (.two (.ord [(0, []), (1, []), (2, []), (3, []), (4, []), (5, []), (6, [])]) (.nil)) (.nil))))) (.nil))))) (.nil))))
set_option maxRecDepth 100000 in
theorem escrowref02_Parse.sound {a0 : AVal} {G : Heap} {Q : AVal → Heap → Prop} (h : escrowref02_Parse.S a0 G Q) : ACalls P escrowref02_Parse.n [a0] G Q := by
  have e : escrowref02_Parse.S a0 G Q = awp cx (escrowref02_Parse.body) escrowref02_Parse.an (bodyQ T [.cell 2 26, .tmp 3] Q) (envL [a0]) G := by kernel_rfl
  exact ACalls_of_awp cxOk (f := escrowref02_Parse.n) (fn := Try.f18) (c := escrowref02_Parse.body) (an := escrowref02_Parse.an) Try.func18 (by kernel_rfl) (by kernel_rfl) (by kernel_rfl) (drawsOk_of (by kernel_rfl) (by kernel_rfl)) (by simp [Try.f18]) (e ▸ h)

/-! #### escrow/escrowlaw02.HashHexes -/
def escrowlaw02_HashHexes.S (a0 a1 : AVal) (G : Heap) (Q : AVal → Heap → Prop) : Prop :=
  aNew G (.own (a0)) fun i1 G2 => wv (vload T G2 t_api_Hash (.ptr i1 [] 0)) fun v3 => ACalls P hash_Hex.n [v3] G2 fun v4 G5 => ACalls P hash_Parse.n [a1] G5 fun v6 G7 => wv (vextract v6 0) fun v8 => wv (vextract v6 1) fun v9 => aNew G7 (.own (z_api_Hash)) fun i10 G11 => wg (vstore T G11 t_api_Hash (.ptr i10 [] 0) v8) fun G12 => ACalls P escrowref02_Parse.n [a1] G12 fun v13 G14 => wv (vextract v13 0) fun v15 => wv (vextract v13 1) fun v16 => aNew G14 (.own (z_api_Hash)) fun i17 G18 => wg (vstore T G18 t_api_Hash (.ptr i17 [] 0) v15) fun G19 => ACalls P hash_Parse.n [v4] G19 fun v20 G21 => wv (vextract v20 0) fun v22 => wv (vextract v20 1) fun v23 => aNew G21 (.own (z_api_Hash)) fun i24 G25 => wg (vstore T G25 t_api_Hash (.ptr i24 [] 0) v22) fun G26 => let J50 : AVal → Heap → Prop := (fun x40 G39 => brB (some x40)
  (Q (.bool false) G39)
  (ACalls P escrowlaw02_first.n [] G39 fun v41 G42 => brB (some v41)
  (wv (vbin T .neq t_api_Errno v9 (.int .i64 0)) fun v43 => brB (some v43)
  (Q (.bool true) G42)
  (wv (vload T G42 t_api_Hash (.ptr i10 [] 0)) fun v44 => ACalls P hash_Hex.n [v44] G42 fun v45 G46 => wv (vbin T .eql t_string v45 a1) fun v47 => Q v47 G46))
  (Q (.bool false) G42)));
  wv (vload T G26 t_api_Hash (.ptr i1 [] 0)) fun v27 => ACalls P escrowref02_Hex.n [v27] G26 fun v28 G29 => wv (vbin T .neq t_string v4 v28) fun v30 => brB (some v30)
  (J50 (.bool true) G29)
  (wv (vload T G29 t_api_Hash (.ptr i10 [] 0)) fun v31 => wv (vload T G29 t_api_Hash (.ptr i17 [] 0)) fun v32 => wv (vbin T .neq t_api_Hash v31 v32) fun v33 => brB (some v33)
  (J50 (.bool true) G29)
  (wv (vbin T .neq t_api_Errno v9 v16) fun v34 => brB (some v34)
  (J50 (.bool true) G29)
  (wv (vload T G29 t_api_Hash (.ptr i24 [] 0)) fun v35 => wv (vload T G29 t_api_Hash (.ptr i1 [] 0)) fun v36 => wv (vbin T .neq t_api_Hash v35 v36) fun v37 => brB (some v37)
  (J50 (.bool true) G29)
  (wv (vbin T .neq t_api_Errno v23 (.int .i64 0)) fun v38 => J50 v38 G29))))
def escrowlaw02_HashHexes.an : Ann := .nil
set_option maxRecDepth 100000 in
theorem escrowlaw02_HashHexes.sound {a0 a1 : AVal} {G : Heap} {Q : AVal → Heap → Prop} (h : escrowlaw02_HashHexes.S a0 a1 G Q) : ACalls P escrowlaw02_HashHexes.n [a0, a1] G Q := by
  have e : escrowlaw02_HashHexes.S a0 a1 G Q = awp cx (escrowlaw02_HashHexes.body) escrowlaw02_HashHexes.an (bodyQ T [.tmp 4] Q) (envL [a0, a1]) G := by kernel_rfl
  exact ACalls_of_awp cxOk (f := escrowlaw02_HashHexes.n) (fn := Try.f5) (c := escrowlaw02_HashHexes.body) (an := escrowlaw02_HashHexes.an) Try.func5 (by kernel_rfl) (by kernel_rfl) (by kernel_rfl) (drawsOk_of (by kernel_rfl) (by kernel_rfl)) (by simp [Try.f5]) (e ▸ h)

/-! #### escrow/escrowlaw02.HashParts -/
def escrowlaw02_HashParts.S (a0 a1 : AVal) (G : Heap) (Q : AVal → Heap → Prop) : Prop :=
  ACalls P escrowlaw02_first.n [] G fun v1 G2 => wv (vun .not v1) fun v3 => brB (some v3)
  (Q (.bool false) G2)
  (wv (vconv T G2 t_int t_uint a1) fun v4 => wv (vlen T G2 t_string a0) fun v5 => wv (vbin T .add t_int v5 (.int .i64 1)) fun v6 => wv (vconv T G2 t_int t_uint v6) fun v7 => wv (vbin T .rem t_uint v4 v7) fun v8 => wv (vconv T G2 t_uint t_int v8) fun v9 => ∀ R10 : List AVal → Heap → Prop,
  (∀ (x12 x13 x14 x15 : AVal) (G11 : Heap), (wv (vlen T G11 t_string x12) fun v16 => wv (vbin T .lss t_int x15 v16) fun v17 => brB (some v17)
  (wv (vbin T .add t_int x15 (.int .i64 1)) fun v18 => wv (vslice T t_string x12 (some (x15)) (some (v18)) none) fun v19 => aBuildSlice T t_sl_string 2 [(0, v19), (1, .str [])] G11 fun v20 G21 => aAppend T G21 t_sl_string t_sl_string x14 v20 fun v22 G23 => wv (vbin T .add t_int x15 (.int .i64 1)) fun v24 => R10 [x12, x13, v22, v24] G23)
  (aBuildSlice T t_sl_string 1 [(0, x12)] G11 fun v25 G26 => ACalls P hash_Sum.n [v25] G26 fun v27 G28 => aNew G28 (.own (z_api_Hash)) fun i29 G30 => wg (vstore T G30 t_api_Hash (.ptr i29 [] 0) v27) fun G31 => wv (vslice T t_string x12 none (some (x13)) none) fun v32 => wv (vslice T t_string x12 (some (x13)) none none) fun v33 => wv (vload T G31 t_api_Hash (.ptr i29 [] 0)) fun v34 => aBuildSlice T t_sl_string 2 [(0, v32), (1, v33)] G31 fun v35 G36 => ACalls P hash_Sum.n [v35] G36 fun v37 G38 => (vload T G38 t_api_Hash (.ptr i29 [] 0) = some v34 ∧ True) ∧ (wv (vbin T .eql t_api_Hash v37 v34) fun v39 => brB (some v39)
  (wv (vload T G38 t_api_Hash (.ptr i29 [] 0)) fun v40 => aBuildSlice T t_sl_string 2 [(0, .str []), (1, x12)] G38 fun v41 G42 => ACalls P hash_Sum.n [v41] G42 fun v43 G44 => (vload T G44 t_api_Hash (.ptr i29 [] 0) = some v40 ∧ True) ∧ (wv (vbin T .eql t_api_Hash v43 v40) fun v45 => brB (some v45)
  (wv (vload T G44 t_api_Hash (.ptr i29 [] 0)) fun v46 => ACalls P hash_Sum.n [x14] G44 fun v47 G48 => (vload T G48 t_api_Hash (.ptr i29 [] 0) = some v46 ∧ True) ∧ (wv (vbin T .eql t_api_Hash v47 v46) fun v49 => Q v49 G48))
  (Q (.bool false) G44)))
  (Q (.bool false) G38)))) → R10 [x12, x13, x14, x15] G11) →
  R10 [a0, v9, .nilSlice, .int .i64 0] G2)
def escrowlaw02_HashParts.an : Ann := .two (.nil) (.two (.nil) (.two (.nil) (.two (.nil) (.two (.two (.nil) (.loop [0, 1, 5, 6] (.nil))) (.two (.nil) (.two (.ord [(0, []), (1, []), (2, []), (3, []), (4, []), (5, []), (8, []), (6, []), (7, [8]), (9, []), (10, []), (11, []), (14, []), (12, []), (13, [14]), (15, []), (16, []), (17, []), (18, []), (20, []), (19, [20]), (21, []), (22, []), (23, [])]) (.nil)))))))
set_option maxRecDepth 100000 in
theorem escrowlaw02_HashParts.sound {a0 a1 : AVal} {G : Heap} {Q : AVal → Heap → Prop} (h : escrowlaw02_HashParts.S a0 a1 G Q) : ACalls P escrowlaw02_HashParts.n [a0, a1] G Q := by
  have e : escrowlaw02_HashParts.S a0 a1 G Q = awp cx (escrowlaw02_HashParts.body) escrowlaw02_HashParts.an (bodyQ T [.tmp 4] Q) (envL [a0, a1]) G := by kernel_rfl
  exact ACalls_of_awp cxOk (f := escrowlaw02_HashParts.n) (fn := Try.f6) (c := escrowlaw02_HashParts.body) (an := escrowlaw02_HashParts.an) Try.func6 (by kernel_rfl) (by kernel_rfl) (by kernel_rfl) (drawsOk_of (by kernel_rfl) (by kernel_rfl)) (by simp [Try.f6]) (e ▸ h)

/-! #### escrow/escrowlaw02.bytes -/
def escrowlaw02_bytes.S (a0 : AVal) (G : Heap) (Q : AVal → Heap → Prop) : Prop :=
  aNew G (.own (a0)) fun i1 G2 => ∀ R3 : List AVal → Heap → Prop,
  (∀ (x5 x6 x7 : AVal) (G4 : Heap), (wv (vbin T .lss t_int x7 (.int .i64 32)) fun v8 => brB (some v8)
  (wv (viaddr T t_api_Hash x5 x7) fun v9 => wv (vload T G4 t_uint8 v9) fun v10 => aBuildSlice T t_sl_uint8 1 [(0, v10)] G4 fun v11 G12 => aAppend T G12 t_sl_uint8 t_sl_uint8 x6 v11 fun v13 G14 => wv (vbin T .add t_int x7 (.int .i64 1)) fun v15 => R3 [x5, v13, v15] G14)
  (wv (vconv T G4 t_sl_uint8 t_string x6) fun v16 => Q v16 G4)) → R3 [x5, x6, x7] G4) →
  R3 [.ptr i1 [] 0, .nilSlice, .int .i64 0] G2
def escrowlaw02_bytes.an : Ann := .two (.nil) (.two (.nil) (.two (.two (.nil) (.loop [1, 3, 4] (.nil))) (.nil)))
set_option maxRecDepth 100000 in
theorem escrowlaw02_bytes.sound {a0 : AVal} {G : Heap} {Q : AVal → Heap → Prop} (h : escrowlaw02_bytes.S a0 G Q) : ACalls P escrowlaw02_bytes.n [a0] G Q := by
  have e : escrowlaw02_bytes.S a0 G Q = awp cx (escrowlaw02_bytes.body) escrowlaw02_bytes.an (bodyQ T [.tmp 2] Q) (envL [a0]) G := by kernel_rfl
  exact ACalls_of_awp cxOk (f := escrowlaw02_bytes.n) (fn := Try.f20) (c := escrowlaw02_bytes.body) (an := escrowlaw02_bytes.an) Try.func20 (by kernel_rfl) (by kernel_rfl) (by kernel_rfl) (drawsOk_of (by kernel_rfl) (by kernel_rfl)) (by simp [Try.f20]) (e ▸ h)

/-! #### escrow/escrowlaw02.HashMac -/
def escrowlaw02_HashMac.S (a0 a1 a2 : AVal) (G : Heap) (Q : AVal → Heap → Prop) : Prop :=
  aNew G (.own (a0)) fun i1 G2 => ACalls P escrowlaw02_first.n [] G2 fun v3 G4 => wv (vun .not v3) fun v5 => brB (some v5)
  (Q (.bool false) G4)
  (∀ R6 : List AVal → Heap → Prop,
  (∀ (x8 x9 x10 x11 x12 x13 : AVal) (G7 : Heap), (wv (vbin T .lss t_int x13 (.int .i64 64)) fun v14 => brB (some v14)
  (wv (vbin T .lss t_int x13 (.int .i64 32)) fun v15 => let J30 : AVal → Heap → Prop := (fun x19 G18 => wv (vbin T .xor t_uint8 x19 (.int .u8 54)) fun v20 => aBuildSlice T t_sl_uint8 1 [(0, v20)] G18 fun v21 G22 => aAppend T G22 t_sl_uint8 t_sl_uint8 x11 v21 fun v23 G24 => wv (vbin T .xor t_uint8 x19 (.int .u8 92)) fun v25 => aBuildSlice T t_sl_uint8 1 [(0, v25)] G24 fun v26 G27 => aAppend T G27 t_sl_uint8 t_sl_uint8 x12 v26 fun v28 G29 => wv (vbin T .add t_int x13 (.int .i64 1)) fun v31 => R6 [x8, x9, x10, v23, v28, v31] G29);
  brB (some v15)
  (wv (viaddr T t_api_Hash x10 x13) fun v16 => wv (vload T G7 t_uint8 v16) fun v17 => J30 v17 G7)
  (J30 (.int .u8 0) G7))
  (wv (vconv T G7 t_sl_uint8 t_string x11) fun v32 => aBuildSlice T t_sl_string 3 [(0, v32), (1, x8), (2, x9)] G7 fun v33 G34 => ACalls P hash_Sum.n [v33] G34 fun v35 G36 => aNew G36 (.own (z_api_Hash)) fun i37 G38 => wg (vstore T G38 t_api_Hash (.ptr i37 [] 0) v35) fun G39 => wv (vload T G39 t_api_Hash x10) fun v40 => wv (vbin T .add t_string x8 x9) fun v41 => wv (vconv T G39 t_sl_uint8 t_string x12) fun v42 => wv (vload T G39 t_api_Hash (.ptr i37 [] 0)) fun v43 => ACalls P hash_Mac.n [v40, v41] G39 fun v44 G45 => (vload T G45 t_api_Hash (.ptr i37 [] 0) = some v43 ∧ vconv T G45 t_sl_uint8 t_string x12 = some v42 ∧ True) ∧ (ACalls P escrowlaw02_bytes.n [v43] G45 fun v46 G47 => (vconv T G47 t_sl_uint8 t_string x12 = some v42 ∧ True) ∧ (aBuildSlice T t_sl_string 2 [(0, v42), (1, v46)] G47 fun v48 G49 => ACalls P hash_Sum.n [v48] G49 fun v50 G51 => wv (vbin T .eql t_api_Hash v44 v50) fun v52 => Q v52 G51)))) → R6 [x8, x9, x10, x11, x12, x13] G7) →
  R6 [a1, a2, .ptr i1 [] 0, .nilSlice, .nilSlice, .int .i64 0] G4)
def escrowlaw02_HashMac.an : Ann := .two (.nil) (.two (.nil) (.two (.nil) (.two (.two (.nil) (.loop [1, 2, 3, 7, 8, 9] (.nil))) (.two (.nil) (.two (.ord [(0, []), (1, []), (2, []), (3, []), (5, []), (6, []), (7, []), (4, [6, 7]), (8, [6]), (9, []), (10, []), (11, []), (12, [])]) (.nil))))))
set_option maxRecDepth 100000 in
theorem escrowlaw02_HashMac.sound {a0 a1 a2 : AVal} {G : Heap} {Q : AVal → Heap → Prop} (h : escrowlaw02_HashMac.S a0 a1 a2 G Q) : ACalls P escrowlaw02_HashMac.n [a0, a1, a2] G Q := by
  have e : escrowlaw02_HashMac.S a0 a1 a2 G Q = awp cx (escrowlaw02_HashMac.body) escrowlaw02_HashMac.an (bodyQ T [.tmp 6] Q) (envL [a0, a1, a2]) G := by kernel_rfl
  exact ACalls_of_awp cxOk (f := escrowlaw02_HashMac.n) (fn := Try.f7) (c := escrowlaw02_HashMac.body) (an := escrowlaw02_HashMac.an) Try.func7 (by kernel_rfl) (by kernel_rfl) (by kernel_rfl) (drawsOk_of (by kernel_rfl) (by kernel_rfl)) (by simp [Try.f7]) (e ▸ h)

/-! #### escrow/escrowlaw02.value -/
def escrowlaw02_value.S (a0 : AVal) (G : Heap) (Q : AVal → Heap → Prop) : Prop :=
  let J18 : AVal → Heap → Prop := (fun x4 G3 => brB (some x4)
  (wv (vbin T .sub t_uint8 a0 (.int .u8 48)) fun v5 => wv (vconv T G3 t_uint8 t_int v5) fun v6 => Q v6 G3)
  (wv (vbin T .geq t_uint8 a0 (.int .u8 97)) fun v7 => brB (some v7)
  (wv (vbin T .leq t_uint8 a0 (.int .u8 102)) fun v8 => brB (some v8)
  (wv (vbin T .sub t_uint8 a0 (.int .u8 97)) fun v14 => wv (vconv T G3 t_uint8 t_int v14) fun v15 => wv (vbin T .add t_int v15 (.int .i64 10)) fun v16 => Q v16 G3)
  (Q (.int .i64 (-1)) G3))
  (Q (.int .i64 (-1)) G3)));
  wv (vbin T .geq t_uint8 a0 (.int .u8 48)) fun v1 => brB (some v1)
  (wv (vbin T .leq t_uint8 a0 (.int .u8 57)) fun v2 => J18 v2 G)
  (J18 (.bool false) G)
def escrowlaw02_value.an : Ann := .nil
set_option maxRecDepth 100000 in
theorem escrowlaw02_value.sound {a0 : AVal} {G : Heap} {Q : AVal → Heap → Prop} (h : escrowlaw02_value.S a0 G Q) : ACalls P escrowlaw02_value.n [a0] G Q := by
  have e : escrowlaw02_value.S a0 G Q = awp cx (escrowlaw02_value.body) escrowlaw02_value.an (bodyQ T [.tmp 2] Q) (envL [a0]) G := by kernel_rfl
  exact ACalls_of_awp cxOk (f := escrowlaw02_value.n) (fn := Try.f21) (c := escrowlaw02_value.body) (an := escrowlaw02_value.an) Try.func21 (by kernel_rfl) (by kernel_rfl) (by kernel_rfl) (drawsOk_of (by kernel_rfl) (by kernel_rfl)) (by simp [Try.f21]) (e ▸ h)

/-! #### escrow/escrowlaw02.HashDigits -/
def escrowlaw02_HashDigits.S (a0 a1 : AVal) (G : Heap) (Q : AVal → Heap → Prop) : Prop :=
  aNew G (.own (a0)) fun i1 G2 => ACalls P escrowlaw02_first.n [] G2 fun v3 G4 => wv (vun .not v3) fun v5 => brB (some v5)
  (Q (.bool false) G4)
  (wv (vload T G4 t_api_Hash (.ptr i1 [] 0)) fun v6 => ACalls P hash_Hex.n [v6] G4 fun v7 G8 => wv (vlen T G8 t_string v7) fun v9 => wv (vbin T .neq t_int v9 (.int .i64 64)) fun v10 => brB (some v10)
  (Q (.bool false) G8)
  (∀ R11 : List AVal → Heap → Prop,
  (∀ (x13 x14 x15 x16 : AVal) (G12 : Heap), (wv (vbin T .lss t_int x16 (.int .i64 64)) fun v17 => brB (some v17)
  (wv (vindex T t_string x15 x16) fun v18 => ACalls P escrowlaw02_value.n [v18] G12 fun v19 G20 => wv (vbin T .quo t_int x16 (.int .i64 2)) fun v21 => wv (viaddr T t_api_Hash x14 v21) fun v22 => wv (vload T G20 t_uint8 v22) fun v23 => wv (vconv T G20 t_uint8 t_int v23) fun v24 => wv (vbin T .shr t_int v24 (.int .u64 4)) fun v25 => wv (vbin T .rem t_int x16 (.int .i64 2)) fun v26 => wv (vbin T .eql t_int v26 (.int .i64 1)) fun v27 => brB (some v27)
  (wv (vbin T .quo t_int x16 (.int .i64 2)) fun v28 => wv (viaddr T t_api_Hash x14 v28) fun v29 => wv (vload T G20 t_uint8 v29) fun v30 => wv (vconv T G20 t_uint8 t_int v30) fun v31 => wv (vbin T .and t_int v31 (.int .i64 15)) fun v32 => wv (vbin T .neq t_int v19 v32) fun v36 => brB (some v36)
  (Q (.bool false) G20)
  (wv (vbin T .add t_int x16 (.int .i64 1)) fun v40 => R11 [x13, x14, x15, v40] G20))
  (wv (vbin T .neq t_int v19 v25) fun v37 => brB (some v37)
  (Q (.bool false) G20)
  (wv (vbin T .add t_int x16 (.int .i64 1)) fun v41 => R11 [x13, x14, x15, v41] G20)))
  (wv (vbin T .add t_string x15 (.str [48])) fun v42 => ACalls P hash_Parse.n [v42] G12 fun v43 G44 => wv (vextract v43 0) fun v45 => wv (vextract v43 1) fun v46 => aNew G44 (.own (z_api_Hash)) fun i47 G48 => wg (vstore T G48 t_api_Hash (.ptr i47 [] 0) v45) fun G49 => wv (vslice T t_string x15 (some (.int .i64 1)) none none) fun v50 => ACalls P hash_Parse.n [v50] G49 fun v51 G52 => wv (vextract v51 0) fun v53 => wv (vextract v51 1) fun v54 => aNew G52 (.own (z_api_Hash)) fun i55 G56 => wg (vstore T G56 t_api_Hash (.ptr i55 [] 0) v53) fun G57 => wv (vconv T G57 t_int t_uint x13) fun v58 => wv (vbin T .rem t_uint v58 (.int .u64 64)) fun v59 => wv (vconv T G57 t_uint t_int v59) fun v60 => wv (vslice T t_string x15 none (some (v60)) none) fun v61 => wv (vbin T .add t_string v61 (.str [65])) fun v62 => wv (vbin T .add t_int v60 (.int .i64 1)) fun v63 => wv (vslice T t_string x15 (some (v63)) none none) fun v64 => wv (vbin T .add t_string v62 v64) fun v65 => ACalls P hash_Parse.n [v65] G57 fun v66 G67 => wv (vextract v66 0) fun v68 => wv (vextract v66 1) fun v69 => aNew G67 (.own (z_api_Hash)) fun i70 G71 => wg (vstore T G71 t_api_Hash (.ptr i70 [] 0) v68) fun G72 => wv (vslice T t_string x15 none (some (v60)) none) fun v73 => wv (vbin T .add t_string v73 (.str [103])) fun v74 => wv (vbin T .add t_int v60 (.int .i64 1)) fun v75 => wv (vslice T t_string x15 (some (v75)) none none) fun v76 => wv (vbin T .add t_string v74 v76) fun v77 => ACalls P hash_Parse.n [v77] G72 fun v78 G79 => wv (vextract v78 0) fun v80 => wv (vextract v78 1) fun v81 => aNew G79 (.own (z_api_Hash)) fun i82 G83 => wg (vstore T G83 t_api_Hash (.ptr i82 [] 0) v80) fun G84 => wv (vbin T .eql t_api_Errno v46 (.int .i64 4)) fun v85 => brB (some v85)
  (wv (vbin T .eql t_api_Errno v54 (.int .i64 4)) fun v86 => brB (some v86)
  (wv (vbin T .eql t_api_Errno v69 (.int .i64 4)) fun v87 => brB (some v87)
  (wv (vbin T .eql t_api_Errno v81 (.int .i64 4)) fun v88 => Q v88 G84)
  (Q (.bool false) G84))
  (Q (.bool false) G84))
  (Q (.bool false) G84))) → R11 [x13, x14, x15, x16] G12) →
  R11 [a1, .ptr i1 [] 0, v7, .int .i64 0] G8))
def escrowlaw02_HashDigits.an : Ann := .two (.nil) (.two (.nil) (.two (.nil) (.two (.nil) (.two (.two (.nil) (.loop [1, 2, 5, 6] (.nil))) (.two (.nil) (.two (.nil) (.two (.nil) (.two (.ord [(0, []), (1, []), (2, []), (3, []), (4, []), (5, []), (6, []), (7, []), (8, []), (9, []), (10, []), (11, []), (12, []), (13, []), (14, []), (15, [])]) (.two (.ord [(0, []), (1, []), (2, []), (3, []), (4, []), (5, []), (6, []), (7, []), (8, []), (9, []), (10, []), (11, []), (12, []), (13, []), (14, []), (15, [])]) (.nil))))))))))
set_option maxRecDepth 100000 in
theorem escrowlaw02_HashDigits.sound {a0 a1 : AVal} {G : Heap} {Q : AVal → Heap → Prop} (h : escrowlaw02_HashDigits.S a0 a1 G Q) : ACalls P escrowlaw02_HashDigits.n [a0, a1] G Q := by
  have e : escrowlaw02_HashDigits.S a0 a1 G Q = awp cx (escrowlaw02_HashDigits.body) escrowlaw02_HashDigits.an (bodyQ T [.tmp 4] Q) (envL [a0, a1]) G := by kernel_rfl
  exact ACalls_of_awp cxOk (f := escrowlaw02_HashDigits.n) (fn := Try.f8) (c := escrowlaw02_HashDigits.body) (an := escrowlaw02_HashDigits.an) Try.func8 (by kernel_rfl) (by kernel_rfl) (by kernel_rfl) (drawsOk_of (by kernel_rfl) (by kernel_rfl)) (by simp [Try.f8]) (e ▸ h)

end Go.Esc.M
