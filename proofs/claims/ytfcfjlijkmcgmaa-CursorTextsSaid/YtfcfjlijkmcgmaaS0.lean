/- Printed by gen.py (own work): functions of the program Ytfcfjlijkmcgmaa over trees and the abstract heap. -/
import Derived.Test.YtfcfjlijkmcgmaaT
set_option linter.unusedSimpArgs false
set_option linter.unusedVariables false
namespace Go.Esc.M
open Go Go.Esc Go.Proofs

/-! #### escrow/amount.Right -/
def amount_Right.S (a0 : AVal) (G : Heap) (Q : AVal → Heap → Prop) : Prop :=
  wv (vbin T .geq t_int64 a0 (.int .i64 0)) fun v1 => brB (some v1)
  (wv (vbin T .leq t_int64 a0 (.int .i64 1152921504606846976)) fun v2 => Q v2 G)
  (Q (.bool false) G)
def amount_Right.an : Ann := .nil
set_option maxRecDepth 100000 in
theorem amount_Right.sound {a0 : AVal} {G : Heap} {Q : AVal → Heap → Prop} (h : amount_Right.S a0 G Q) : ACalls P amount_Right.n [a0] G Q := by
  have e : amount_Right.S a0 G Q = awp cx (amount_Right.body) amount_Right.an (bodyQ T [.tmp 2] Q) (envL [a0]) G := by kernel_rfl
  exact ACalls_of_awp cxOk (f := amount_Right.n) (fn := Try.f18) (c := amount_Right.body) (an := amount_Right.an) Try.func18 (by kernel_rfl) (by kernel_rfl) (by kernel_rfl) (drawsOk_of (by kernel_rfl) (by kernel_rfl)) (by simp [Try.f18]) (e ▸ h)

/-! #### escrow/amount.Plus -/
def amount_Plus.S (a0 a1 : AVal) (G : Heap) (Q : AVal → Heap → Prop) : Prop :=
  ACalls P amount_Right.n [a0] G fun v1 G2 => wv (vun .not v1) fun v3 => brB (some v3)
  (Q (.tuple [.int .i64 0, .int .i64 80]) G2)
  (ACalls P amount_Right.n [a1] G2 fun v4 G5 => wv (vun .not v4) fun v6 => brB (some v6)
  (Q (.tuple [.int .i64 0, .int .i64 80]) G5)
  (wv (vbin T .add t_int64 a0 a1) fun v7 => ACalls P amount_Right.n [v7] G5 fun v8 G9 => wv (vun .not v8) fun v10 => brB (some v10)
  (Q (.tuple [.int .i64 0, .int .i64 80]) G9)
  (wv (vbin T .add t_int64 a0 a1) fun v14 => Q (.tuple [v14, .int .i64 0]) G9)))
def amount_Plus.an : Ann := .nil
set_option maxRecDepth 100000 in
theorem amount_Plus.sound {a0 a1 : AVal} {G : Heap} {Q : AVal → Heap → Prop} (h : amount_Plus.S a0 a1 G Q) : ACalls P amount_Plus.n [a0, a1] G Q := by
  have e : amount_Plus.S a0 a1 G Q = awp cx (amount_Plus.body) amount_Plus.an (bodyQ T [.tmp 4, .tmp 5] Q) (envL [a0, a1]) G := by kernel_rfl
  exact ACalls_of_awp cxOk (f := amount_Plus.n) (fn := Try.f13) (c := amount_Plus.body) (an := amount_Plus.an) Try.func13 (by kernel_rfl) (by kernel_rfl) (by kernel_rfl) (drawsOk_of (by kernel_rfl) (by kernel_rfl)) (by simp [Try.f13]) (e ▸ h)

/-! #### escrow/escrowref08.Right -/
def escrowref08_Right.S (a0 : AVal) (G : Heap) (Q : AVal → Heap → Prop) : Prop :=
  wv (vbin T .geq t_int64 a0 (.int .i64 0)) fun v1 => brB (some v1)
  (wv (vbin T .leq t_int64 a0 (.int .i64 1152921504606846976)) fun v2 => Q v2 G)
  (Q (.bool false) G)
def escrowref08_Right.an : Ann := .nil
set_option maxRecDepth 100000 in
theorem escrowref08_Right.sound {a0 : AVal} {G : Heap} {Q : AVal → Heap → Prop} (h : escrowref08_Right.S a0 G Q) : ACalls P escrowref08_Right.n [a0] G Q := by
  have e : escrowref08_Right.S a0 G Q = awp cx (escrowref08_Right.body) escrowref08_Right.an (bodyQ T [.tmp 2] Q) (envL [a0]) G := by kernel_rfl
  exact ACalls_of_awp cxOk (f := escrowref08_Right.n) (fn := Try.f19) (c := escrowref08_Right.body) (an := escrowref08_Right.an) Try.func19 (by kernel_rfl) (by kernel_rfl) (by kernel_rfl) (drawsOk_of (by kernel_rfl) (by kernel_rfl)) (by simp [Try.f19]) (e ▸ h)

/-! #### escrow/escrowref08.Plus -/
def escrowref08_Plus.S (a0 a1 : AVal) (G : Heap) (Q : AVal → Heap → Prop) : Prop :=
  ACalls P escrowref08_Right.n [a0] G fun v1 G2 => wv (vun .not v1) fun v3 => brB (some v3)
  (Q (.tuple [.int .i64 0, .int .i64 80]) G2)
  (ACalls P escrowref08_Right.n [a1] G2 fun v4 G5 => wv (vun .not v4) fun v6 => brB (some v6)
  (Q (.tuple [.int .i64 0, .int .i64 80]) G5)
  (wv (vbin T .add t_int64 a0 a1) fun v7 => ACalls P escrowref08_Right.n [v7] G5 fun v8 G9 => wv (vun .not v8) fun v10 => brB (some v10)
  (Q (.tuple [.int .i64 0, .int .i64 80]) G9)
  (wv (vbin T .add t_int64 a0 a1) fun v14 => Q (.tuple [v14, .int .i64 0]) G9)))
def escrowref08_Plus.an : Ann := .nil
set_option maxRecDepth 100000 in
theorem escrowref08_Plus.sound {a0 a1 : AVal} {G : Heap} {Q : AVal → Heap → Prop} (h : escrowref08_Plus.S a0 a1 G Q) : ACalls P escrowref08_Plus.n [a0, a1] G Q := by
  have e : escrowref08_Plus.S a0 a1 G Q = awp cx (escrowref08_Plus.body) escrowref08_Plus.an (bodyQ T [.tmp 4, .tmp 5] Q) (envL [a0, a1]) G := by kernel_rfl
  exact ACalls_of_awp cxOk (f := escrowref08_Plus.n) (fn := Try.f14) (c := escrowref08_Plus.body) (an := escrowref08_Plus.an) Try.func14 (by kernel_rfl) (by kernel_rfl) (by kernel_rfl) (drawsOk_of (by kernel_rfl) (by kernel_rfl)) (by simp [Try.f14]) (e ▸ h)

/-! #### escrow/amount.Minus -/
def amount_Minus.S (a0 a1 : AVal) (G : Heap) (Q : AVal → Heap → Prop) : Prop :=
  ACalls P amount_Right.n [a0] G fun v1 G2 => wv (vun .not v1) fun v3 => brB (some v3)
  (Q (.tuple [.int .i64 0, .int .i64 80]) G2)
  (ACalls P amount_Right.n [a1] G2 fun v4 G5 => wv (vun .not v4) fun v6 => brB (some v6)
  (Q (.tuple [.int .i64 0, .int .i64 80]) G5)
  (wv (vbin T .gtr t_int64 a1 a0) fun v7 => brB (some v7)
  (Q (.tuple [.int .i64 0, .int .i64 80]) G5)
  (wv (vbin T .sub t_int64 a0 a1) fun v11 => Q (.tuple [v11, .int .i64 0]) G5)))
def amount_Minus.an : Ann := .nil
set_option maxRecDepth 100000 in
theorem amount_Minus.sound {a0 a1 : AVal} {G : Heap} {Q : AVal → Heap → Prop} (h : amount_Minus.S a0 a1 G Q) : ACalls P amount_Minus.n [a0, a1] G Q := by
  have e : amount_Minus.S a0 a1 G Q = awp cx (amount_Minus.body) amount_Minus.an (bodyQ T [.tmp 4, .tmp 5] Q) (envL [a0, a1]) G := by kernel_rfl
  exact ACalls_of_awp cxOk (f := amount_Minus.n) (fn := Try.f15) (c := amount_Minus.body) (an := amount_Minus.an) Try.func15 (by kernel_rfl) (by kernel_rfl) (by kernel_rfl) (drawsOk_of (by kernel_rfl) (by kernel_rfl)) (by simp [Try.f15]) (e ▸ h)

/-! #### escrow/escrowref08.Minus -/
def escrowref08_Minus.S (a0 a1 : AVal) (G : Heap) (Q : AVal → Heap → Prop) : Prop :=
  ACalls P escrowref08_Right.n [a0] G fun v1 G2 => wv (vun .not v1) fun v3 => brB (some v3)
  (Q (.tuple [.int .i64 0, .int .i64 80]) G2)
  (ACalls P escrowref08_Right.n [a1] G2 fun v4 G5 => wv (vun .not v4) fun v6 => brB (some v6)
  (Q (.tuple [.int .i64 0, .int .i64 80]) G5)
  (wv (vbin T .gtr t_int64 a1 a0) fun v7 => brB (some v7)
  (Q (.tuple [.int .i64 0, .int .i64 80]) G5)
  (wv (vbin T .sub t_int64 a0 a1) fun v11 => Q (.tuple [v11, .int .i64 0]) G5)))
def escrowref08_Minus.an : Ann := .nil
set_option maxRecDepth 100000 in
theorem escrowref08_Minus.sound {a0 a1 : AVal} {G : Heap} {Q : AVal → Heap → Prop} (h : escrowref08_Minus.S a0 a1 G Q) : ACalls P escrowref08_Minus.n [a0, a1] G Q := by
  have e : escrowref08_Minus.S a0 a1 G Q = awp cx (escrowref08_Minus.body) escrowref08_Minus.an (bodyQ T [.tmp 4, .tmp 5] Q) (envL [a0, a1]) G := by kernel_rfl
  exact ACalls_of_awp cxOk (f := escrowref08_Minus.n) (fn := Try.f16) (c := escrowref08_Minus.body) (an := escrowref08_Minus.an) Try.func16 (by kernel_rfl) (by kernel_rfl) (by kernel_rfl) (drawsOk_of (by kernel_rfl) (by kernel_rfl)) (by simp [Try.f16]) (e ▸ h)

/-! #### escrow/amount.Sum -/
def amount_Sum.S (a0 : AVal) (G : Heap) (Q : AVal → Heap → Prop) : Prop :=
  wv (vlen T G t_sl_int64 a0) fun v1 => ∀ R2 : List AVal → Heap → Prop,
  (∀ (x4 x5 x6 x7 : AVal) (G3 : Heap), (wv (vbin T .lss t_int x7 x6) fun v8 => brB (some v8)
  (wv (viaddr T t_sl_int64 x5 x7) fun v9 => wv (vload T G3 t_int64 v9) fun v10 => ACalls P amount_Plus.n [x4, v10] G3 fun v11 G12 => wv (vextract v11 0) fun v13 => wv (vextract v11 1) fun v14 => wv (vbin T .neq t_api_Errno v14 (.int .i64 0)) fun v15 => brB (some v15)
  (Q (.tuple [.int .i64 0, v14]) G12)
  (wv (vbin T .add t_int x7 (.int .i64 1)) fun v16 => R2 [v13, x5, x6, v16] G12))
  (Q (.tuple [x4, .int .i64 0]) G3)) → R2 [x4, x5, x6, x7] G3) →
  R2 [.int .i64 0, a0, v1, .int .i64 0] G
def amount_Sum.an : Ann := .two (.nil) (.two (.nil) (.two (.two (.nil) (.loop [4, 8, 9, 10] (.nil))) (.nil)))
set_option maxRecDepth 100000 in
theorem amount_Sum.sound {a0 : AVal} {G : Heap} {Q : AVal → Heap → Prop} (h : amount_Sum.S a0 G Q) : ACalls P amount_Sum.n [a0] G Q := by
  have e : amount_Sum.S a0 G Q = awp cx (amount_Sum.body) amount_Sum.an (bodyQ T [.tmp 2, .tmp 3] Q) (envL [a0]) G := by kernel_rfl
  exact ACalls_of_awp cxOk (f := amount_Sum.n) (fn := Try.f20) (c := amount_Sum.body) (an := amount_Sum.an) Try.func20 (by kernel_rfl) (by kernel_rfl) (by kernel_rfl) (drawsOk_of (by kernel_rfl) (by kernel_rfl)) (by simp [Try.f20]) (e ▸ h)

/-! #### escrow/escrowlaw08.first -/
def escrowlaw08_first.S (G : Heap) (Q : AVal → Heap → Prop) : Prop :=
  ACalls P amount_Plus.n [.int .i64 1, .int .i64 2] G fun v1 G2 => wv (vextract v1 0) fun v3 => wv (vextract v1 1) fun v4 => ACalls P amount_Plus.n [.int .i64 1152921504606846976, .int .i64 1] G2 fun v5 G6 => wv (vextract v5 0) fun v7 => wv (vextract v5 1) fun v8 => ACalls P amount_Minus.n [.int .i64 5, .int .i64 3] G6 fun v9 G10 => wv (vextract v9 0) fun v11 => wv (vextract v9 1) fun v12 => aBuildSlice T t_sl_int64 3 [(0, .int .i64 1), (1, .int .i64 2), (2, .int .i64 3)] G10 fun v13 G14 => ACalls P amount_Sum.n [v13] G14 fun v15 G16 => wv (vextract v15 0) fun v17 => wv (vextract v15 1) fun v18 => wv (vbin T .eql t_int64 v3 (.int .i64 3)) fun v19 => brB (some v19)
  (wv (vbin T .eql t_api_Errno v4 (.int .i64 0)) fun v20 => brB (some v20)
  (wv (vbin T .eql t_api_Errno v8 (.int .i64 80)) fun v21 => brB (some v21)
  (wv (vbin T .eql t_int64 v11 (.int .i64 2)) fun v22 => brB (some v22)
  (wv (vbin T .eql t_api_Errno v12 (.int .i64 0)) fun v23 => brB (some v23)
  (wv (vbin T .eql t_int64 v17 (.int .i64 6)) fun v24 => brB (some v24)
  (wv (vbin T .eql t_api_Errno v18 (.int .i64 0)) fun v25 => brB (some v25)
  (ACalls P amount_Right.n [.int .i64 0] G16 fun v26 G27 => brB (some v26)
  (ACalls P amount_Right.n [.int .i64 (-1)] G27 fun v28 G29 => wv (vun .not v28) fun v30 => Q v30 G29)
  (Q (.bool false) G27))
  (Q (.bool false) G16))
  (Q (.bool false) G16))
  (Q (.bool false) G16))
  (Q (.bool false) G16))
  (Q (.bool false) G16))
  (Q (.bool false) G16))
  (Q (.bool false) G16)
def escrowlaw08_first.an : Ann := .nil
set_option maxRecDepth 100000 in
theorem escrowlaw08_first.sound {G : Heap} {Q : AVal → Heap → Prop} (h : escrowlaw08_first.S G Q) : ACalls P escrowlaw08_first.n [] G Q := by
  have e : escrowlaw08_first.S G Q = awp cx (escrowlaw08_first.body) escrowlaw08_first.an (bodyQ T [.tmp 0] Q) (envL []) G := by kernel_rfl
  exact ACalls_of_awp cxOk (f := escrowlaw08_first.n) (fn := Try.f17) (c := escrowlaw08_first.body) (an := escrowlaw08_first.an) Try.func17 (by kernel_rfl) (by kernel_rfl) (by kernel_rfl) (drawsOk_of (by kernel_rfl) (by kernel_rfl)) (by simp [Try.f17]) (e ▸ h)

/-! #### escrow/escrowlaw08.AmountPairs -/
def escrowlaw08_AmountPairs.S (a0 a1 : AVal) (G : Heap) (Q : AVal → Heap → Prop) : Prop :=
  ACalls P amount_Plus.n [a0, a1] G fun v1 G2 => wv (vextract v1 0) fun v3 => wv (vextract v1 1) fun v4 => ACalls P escrowref08_Plus.n [a0, a1] G2 fun v5 G6 => wv (vextract v5 0) fun v7 => wv (vextract v5 1) fun v8 => ACalls P amount_Minus.n [a0, a1] G6 fun v9 G10 => wv (vextract v9 0) fun v11 => wv (vextract v9 1) fun v12 => ACalls P escrowref08_Minus.n [a0, a1] G10 fun v13 G14 => wv (vextract v13 0) fun v15 => wv (vextract v13 1) fun v16 => ACalls P escrowlaw08_first.n [] G14 fun v17 G18 => brB (some v17)
  (wv (vbin T .eql t_int64 v3 v7) fun v19 => brB (some v19)
  (wv (vbin T .eql t_api_Errno v4 v8) fun v20 => brB (some v20)
  (wv (vbin T .eql t_int64 v11 v15) fun v21 => brB (some v21)
  (wv (vbin T .eql t_api_Errno v12 v16) fun v22 => brB (some v22)
  (ACalls P amount_Right.n [a0] G18 fun v23 G24 => ACalls P escrowref08_Right.n [a0] G24 fun v25 G26 => wv (vbin T .eql t_bool v23 v25) fun v27 => Q v27 G26)
  (Q (.bool false) G18))
  (Q (.bool false) G18))
  (Q (.bool false) G18))
  (Q (.bool false) G18))
  (Q (.bool false) G18)
def escrowlaw08_AmountPairs.an : Ann := .nil
set_option maxRecDepth 100000 in
theorem escrowlaw08_AmountPairs.sound {a0 a1 : AVal} {G : Heap} {Q : AVal → Heap → Prop} (h : escrowlaw08_AmountPairs.S a0 a1 G Q) : ACalls P escrowlaw08_AmountPairs.n [a0, a1] G Q := by
  have e : escrowlaw08_AmountPairs.S a0 a1 G Q = awp cx (escrowlaw08_AmountPairs.body) escrowlaw08_AmountPairs.an (bodyQ T [.tmp 4] Q) (envL [a0, a1]) G := by kernel_rfl
  exact ACalls_of_awp cxOk (f := escrowlaw08_AmountPairs.n) (fn := Try.f3) (c := escrowlaw08_AmountPairs.body) (an := escrowlaw08_AmountPairs.an) Try.func3 (by kernel_rfl) (by kernel_rfl) (by kernel_rfl) (drawsOk_of (by kernel_rfl) (by kernel_rfl)) (by simp [Try.f3]) (e ▸ h)

/-! #### escrow/escrowref08.Sum -/
def escrowref08_Sum.S (a0 : AVal) (G : Heap) (Q : AVal → Heap → Prop) : Prop :=
  ∀ R1 : List AVal → Heap → Prop,
  (∀ (x3 x4 x5 : AVal) (G2 : Heap), (wv (vlen T G2 t_sl_int64 x3) fun v6 => wv (vbin T .lss t_int x5 v6) fun v7 => brB (some v7)
  (wv (viaddr T t_sl_int64 x3 x5) fun v8 => wv (vload T G2 t_int64 v8) fun v9 => ACalls P escrowref08_Plus.n [x4, v9] G2 fun v10 G11 => wv (vextract v10 0) fun v12 => wv (vextract v10 1) fun v13 => wv (vbin T .neq t_api_Errno v13 (.int .i64 0)) fun v14 => brB (some v14)
  (Q (.tuple [.int .i64 0, v13]) G11)
  (wv (vbin T .add t_int x5 (.int .i64 1)) fun v15 => R1 [x3, v12, v15] G11))
  (Q (.tuple [x4, .int .i64 0]) G2)) → R1 [x3, x4, x5] G2) →
  R1 [a0, .int .i64 0, .int .i64 0] G
def escrowref08_Sum.an : Ann := .two (.nil) (.two (.nil) (.two (.two (.nil) (.loop [0, 4, 5] (.nil))) (.nil)))
set_option maxRecDepth 100000 in
theorem escrowref08_Sum.sound {a0 : AVal} {G : Heap} {Q : AVal → Heap → Prop} (h : escrowref08_Sum.S a0 G Q) : ACalls P escrowref08_Sum.n [a0] G Q := by
  have e : escrowref08_Sum.S a0 G Q = awp cx (escrowref08_Sum.body) escrowref08_Sum.an (bodyQ T [.tmp 2, .tmp 3] Q) (envL [a0]) G := by kernel_rfl
  exact ACalls_of_awp cxOk (f := escrowref08_Sum.n) (fn := Try.f21) (c := escrowref08_Sum.body) (an := escrowref08_Sum.an) Try.func21 (by kernel_rfl) (by kernel_rfl) (by kernel_rfl) (drawsOk_of (by kernel_rfl) (by kernel_rfl)) (by simp [Try.f21]) (e ▸ h)

/-! #### escrow/escrowlaw08.AmountSums -/
def escrowlaw08_AmountSums.S (a0 : AVal) (G : Heap) (Q : AVal → Heap → Prop) : Prop :=
  ACalls P escrowlaw08_first.n [] G fun v1 G2 => wv (vun .not v1) fun v3 => brB (some v3)
  (Q (.bool false) G2)
  (aBuildSlice T t_sl_int64 0 [] G2 fun v4 G5 => aAppend T G5 t_sl_int64 t_sl_int64 v4 a0 fun v6 G7 => aBuildSlice T t_sl_int64 1 [(0, .int .i64 (-7))] G7 fun v8 G9 => aAppend T G9 t_sl_int64 t_sl_int64 v6 v8 fun v10 G11 => wv (vlen T G11 t_sl_int64 a0) fun v12 => wv (vslice T t_sl_int64 v10 none (some (v12)) none) fun v13 => ACalls P amount_Sum.n [v13] G11 fun v14 G15 => wv (vextract v14 0) fun v16 => wv (vextract v14 1) fun v17 => ACalls P escrowref08_Sum.n [a0] G15 fun v18 G19 => wv (vextract v18 0) fun v20 => wv (vextract v18 1) fun v21 => let J68 : AVal → Heap → Prop := (fun x29 G28 => brB (some x29)
  (Q (.bool false) G28)
  (∀ R30 : List AVal → Heap → Prop,
  (∀ (x32 x33 x34 x35 : AVal) (G31 : Heap), (wv (vlen T G31 t_sl_int64 x33) fun v36 => wv (vbin T .lss t_int x35 v36) fun v37 => brB (some v37)
  (wv (viaddr T t_sl_int64 x33 x35) fun v38 => wv (vload T G31 t_int64 v38) fun v39 => wv (viaddr T t_sl_int64 x32 x35) fun v40 => wv (vload T G31 t_int64 v40) fun v41 => wv (vbin T .neq t_int64 v39 v41) fun v42 => brB (some v42)
  (Q (.bool false) G31)
  (wv (viaddr T t_sl_int64 x33 x35) fun v43 => wv (vload T G31 t_int64 v43) fun v44 => wv (vbin T .xor t_int64 v44 (.int .i64 1)) fun v45 => wv (viaddr T t_sl_int64 x33 x35) fun v46 => wg (vstore T G31 t_int64 v46 v45) fun G47 => wv (viaddr T t_sl_int64 x32 x35) fun v48 => wv (vload T G47 t_int64 v48) fun v49 => wv (vbin T .xor t_int64 v49 (.int .i64 1)) fun v50 => aBuildSlice T t_sl_int64 1 [(0, v50)] G47 fun v51 G52 => aAppend T G52 t_sl_int64 t_sl_int64 x34 v51 fun v53 G54 => wv (vbin T .add t_int x35 (.int .i64 1)) fun v55 => R30 [x32, x33, v53, v55] G54))
  (ACalls P amount_Sum.n [x33] G31 fun v56 G57 => wv (vextract v56 0) fun v58 => wv (vextract v56 1) fun v59 => ACalls P escrowref08_Sum.n [x34] G57 fun v60 G61 => wv (vextract v60 0) fun v62 => wv (vextract v60 1) fun v63 => wv (vbin T .eql t_int64 v58 v62) fun v64 => brB (some v64)
  (wv (vbin T .eql t_api_Errno v59 v63) fun v65 => Q v65 G61)
  (Q (.bool false) G61))) → R30 [x32, x33, x34, x35] G31) →
  R30 [a0, v13, .nilSlice, .int .i64 0] G28));
  wv (vbin T .neq t_int64 v16 v20) fun v22 => brB (some v22)
  (J68 (.bool true) G19)
  (wv (vbin T .neq t_api_Errno v17 v21) fun v23 => brB (some v23)
  (J68 (.bool true) G19)
  (wv (vlen T G19 t_sl_int64 a0) fun v24 => wv (viaddr T t_sl_int64 v10 v24) fun v25 => wv (vload T G19 t_int64 v25) fun v26 => wv (vbin T .neq t_int64 v26 (.int .i64 (-7))) fun v27 => J68 v27 G19)))
def escrowlaw08_AmountSums.an : Ann := .two (.nil) (.two (.nil) (.two (.nil) (.two (.nil) (.two (.nil) (.two (.nil) (.two (.nil) (.two (.nil) (.two (.two (.nil) (.loop [0, 4, 9, 10] (.two (.nil) (.two (.two (.two (.ord [(0, []), (1, []), (2, []), (3, []), (4, []), (5, []), (6, []), (7, []), (8, [])]) (.nil)) (.nil)) (.nil))))) (.nil)))))))))
set_option maxRecDepth 100000 in
theorem escrowlaw08_AmountSums.sound {a0 : AVal} {G : Heap} {Q : AVal → Heap → Prop} (h : escrowlaw08_AmountSums.S a0 G Q) : ACalls P escrowlaw08_AmountSums.n [a0] G Q := by
  have e : escrowlaw08_AmountSums.S a0 G Q = awp cx (escrowlaw08_AmountSums.body) escrowlaw08_AmountSums.an (bodyQ T [.tmp 2] Q) (envL [a0]) G := by kernel_rfl
  exact ACalls_of_awp cxOk (f := escrowlaw08_AmountSums.n) (fn := Try.f4) (c := escrowlaw08_AmountSums.body) (an := escrowlaw08_AmountSums.an) Try.func4 (by kernel_rfl) (by kernel_rfl) (by kernel_rfl) (drawsOk_of (by kernel_rfl) (by kernel_rfl)) (by simp [Try.f4]) (e ▸ h)

/-! #### escrow/escrowlaw08.AmountBack -/
def escrowlaw08_AmountBack.S (a0 a1 : AVal) (G : Heap) (Q : AVal → Heap → Prop) : Prop :=
  ACalls P escrowlaw08_first.n [] G fun v1 G2 => wv (vun .not v1) fun v3 => brB (some v3)
  (Q (.bool false) G2)
  (ACalls P amount_Plus.n [a0, a1] G2 fun v4 G5 => wv (vextract v4 0) fun v6 => wv (vextract v4 1) fun v7 => ACalls P amount_Plus.n [a1, a0] G5 fun v8 G9 => wv (vextract v8 0) fun v10 => wv (vextract v8 1) fun v11 => let J66 : AVal → Heap → Prop := (fun x18 G17 => brB (some x18)
  (Q (.bool false) G17)
  (wv (vbin T .eql t_api_Errno v7 (.int .i64 0)) fun v19 => let J65 : Heap → Prop := (fun G40 => ACalls P amount_Minus.n [a0, a1] G40 fun v41 G42 => wv (vextract v41 0) fun v43 => wv (vextract v41 1) fun v44 => wv (vbin T .neq t_api_Errno v44 (.int .i64 0)) fun v45 => brB (some v45)
  (wv (vbin T .eql t_api_Errno v44 (.int .i64 80)) fun v46 => brB (some v46)
  (wv (vbin T .eql t_int64 v43 (.int .i64 0)) fun v47 => brB (some v47)
  (wv (vbin T .lss t_int64 a0 a1) fun v48 => brB (some v48)
  (Q (.bool true) G42)
  (wv (vbin T .lss t_int64 a0 (.int .i64 0)) fun v49 => brB (some v49)
  (Q (.bool true) G42)
  (wv (vbin T .lss t_int64 a1 (.int .i64 0)) fun v50 => brB (some v50)
  (Q (.bool true) G42)
  (wv (vbin T .gtr t_int64 a0 (.int .i64 1152921504606846976)) fun v51 => brB (some v51)
  (Q (.bool true) G42)
  (wv (vbin T .gtr t_int64 a1 (.int .i64 1152921504606846976)) fun v52 => Q v52 G42)))))
  (Q (.bool false) G42))
  (Q (.bool false) G42))
  (ACalls P amount_Plus.n [v43, a1] G42 fun v55 G56 => wv (vextract v55 0) fun v57 => wv (vextract v55 1) fun v58 => wv (vbin T .eql t_int64 v57 a0) fun v59 => brB (some v59)
  (wv (vbin T .eql t_api_Errno v58 (.int .i64 0)) fun v60 => brB (some v60)
  (wv (vbin T .geq t_int64 v43 (.int .i64 0)) fun v61 => brB (some v61)
  (wv (vbin T .leq t_int64 v43 a0) fun v62 => Q v62 G56)
  (Q (.bool false) G56))
  (Q (.bool false) G56))
  (Q (.bool false) G56)));
  brB (some v19)
  (ACalls P amount_Minus.n [v6, a1] G17 fun v20 G21 => wv (vextract v20 0) fun v22 => wv (vextract v20 1) fun v23 => ACalls P amount_Minus.n [v6, a0] G21 fun v24 G25 => wv (vextract v24 0) fun v26 => wv (vextract v24 1) fun v27 => let J39 : AVal → Heap → Prop := (fun x38 G37 => brB (some x38)
  (Q (.bool false) G37)
  (J65 G37));
  wv (vbin T .neq t_int64 v22 a0) fun v28 => brB (some v28)
  (J39 (.bool true) G25)
  (wv (vbin T .neq t_int64 v26 a1) fun v29 => brB (some v29)
  (J39 (.bool true) G25)
  (wv (vbin T .neq t_api_Errno v23 (.int .i64 0)) fun v30 => brB (some v30)
  (J39 (.bool true) G25)
  (wv (vbin T .neq t_api_Errno v27 (.int .i64 0)) fun v31 => brB (some v31)
  (J39 (.bool true) G25)
  (wv (vbin T .lss t_int64 v6 a0) fun v32 => brB (some v32)
  (J39 (.bool true) G25)
  (wv (vbin T .lss t_int64 v6 a1) fun v33 => brB (some v33)
  (J39 (.bool true) G25)
  (wv (vbin T .gtr t_int64 v6 (.int .i64 1152921504606846976)) fun v34 => brB (some v34)
  (J39 (.bool true) G25)
  (wv (vbin T .lss t_int64 a0 (.int .i64 0)) fun v35 => brB (some v35)
  (J39 (.bool true) G25)
  (wv (vbin T .lss t_int64 a1 (.int .i64 0)) fun v36 => J39 v36 G25)))))))))
  (J65 G17)));
  wv (vbin T .neq t_int64 v6 v10) fun v12 => brB (some v12)
  (J66 (.bool true) G9)
  (wv (vbin T .neq t_api_Errno v7 v11) fun v13 => brB (some v13)
  (J66 (.bool true) G9)
  (wv (vbin T .neq t_api_Errno v7 (.int .i64 0)) fun v14 => brB (some v14)
  (wv (vbin T .neq t_api_Errno v7 (.int .i64 80)) fun v15 => brB (some v15)
  (J66 (.bool true) G9)
  (wv (vbin T .neq t_int64 v6 (.int .i64 0)) fun v16 => J66 v16 G9))
  (J66 (.bool false) G9))))
def escrowlaw08_AmountBack.an : Ann := .nil
set_option maxRecDepth 100000 in
theorem escrowlaw08_AmountBack.sound {a0 a1 : AVal} {G : Heap} {Q : AVal → Heap → Prop} (h : escrowlaw08_AmountBack.S a0 a1 G Q) : ACalls P escrowlaw08_AmountBack.n [a0, a1] G Q := by
  have e : escrowlaw08_AmountBack.S a0 a1 G Q = awp cx (escrowlaw08_AmountBack.body) escrowlaw08_AmountBack.an (bodyQ T [.tmp 4] Q) (envL [a0, a1]) G := by kernel_rfl
  exact ACalls_of_awp cxOk (f := escrowlaw08_AmountBack.n) (fn := Try.f5) (c := escrowlaw08_AmountBack.body) (an := escrowlaw08_AmountBack.an) Try.func5 (by kernel_rfl) (by kernel_rfl) (by kernel_rfl) (drawsOk_of (by kernel_rfl) (by kernel_rfl)) (by simp [Try.f5]) (e ▸ h)

/-! #### escrow/escrowlaw08.AmountParts -/
def escrowlaw08_AmountParts.S (a0 a1 : AVal) (G : Heap) (Q : AVal → Heap → Prop) : Prop :=
  ACalls P escrowlaw08_first.n [] G fun v1 G2 => wv (vun .not v1) fun v3 => brB (some v3)
  (Q (.bool false) G2)
  (wv (vconv T G2 t_int t_uint a1) fun v4 => wv (vlen T G2 t_sl_int64 a0) fun v5 => wv (vbin T .add t_int v5 (.int .i64 1)) fun v6 => wv (vconv T G2 t_int t_uint v6) fun v7 => wv (vbin T .rem t_uint v4 v7) fun v8 => wv (vconv T G2 t_uint t_int v8) fun v9 => wv (vlen T G2 t_sl_int64 a0) fun v10 => wv (vbin T .sub t_int v10 (.int .i64 1)) fun v11 => ∀ R12 : List AVal → Heap → Prop,
  (∀ (x14 x15 x16 x17 : AVal) (G13 : Heap), (wv (vbin T .geq t_int x17 (.int .i64 0)) fun v18 => brB (some v18)
  (wv (viaddr T t_sl_int64 x14 x17) fun v19 => wv (vload T G13 t_int64 v19) fun v20 => aBuildSlice T t_sl_int64 1 [(0, v20)] G13 fun v21 G22 => aAppend T G22 t_sl_int64 t_sl_int64 x16 v21 fun v23 G24 => wv (vbin T .sub t_int x17 (.int .i64 1)) fun v25 => R12 [x14, x15, v23, v25] G24)
  (ACalls P amount_Sum.n [x14] G13 fun v26 G27 => wv (vextract v26 0) fun v28 => wv (vextract v26 1) fun v29 => ACalls P amount_Sum.n [x16] G27 fun v30 G31 => wv (vextract v30 0) fun v32 => wv (vextract v30 1) fun v33 => wv (vslice T t_sl_int64 x14 none (some (x15)) none) fun v34 => ACalls P amount_Sum.n [v34] G31 fun v35 G36 => wv (vextract v35 0) fun v37 => wv (vextract v35 1) fun v38 => wv (vslice T t_sl_int64 x14 (some (x15)) none none) fun v39 => ACalls P amount_Sum.n [v39] G36 fun v40 G41 => wv (vextract v40 0) fun v42 => wv (vextract v40 1) fun v43 => let J65 : AVal → Heap → Prop := (fun x50 G49 => brB (some x50)
  (Q (.bool false) G49)
  (let J64 : AVal → Heap → Prop := (fun x54 G53 => brB (some x54)
  (wv (vbin T .eql t_api_Errno v29 (.int .i64 80)) fun v55 => Q v55 G53)
  (ACalls P amount_Plus.n [v37, v42] G53 fun v56 G57 => wv (vextract v56 0) fun v58 => wv (vextract v56 1) fun v59 => wv (vbin T .eql t_int64 v58 v28) fun v60 => brB (some v60)
  (wv (vbin T .eql t_api_Errno v59 v29) fun v61 => Q v61 G57)
  (Q (.bool false) G57)));
  wv (vbin T .neq t_api_Errno v38 (.int .i64 0)) fun v51 => brB (some v51)
  (J64 (.bool true) G49)
  (wv (vbin T .neq t_api_Errno v43 (.int .i64 0)) fun v52 => J64 v52 G49)));
  wv (vbin T .neq t_int64 v28 v32) fun v44 => brB (some v44)
  (J65 (.bool true) G41)
  (wv (vbin T .neq t_api_Errno v29 v33) fun v45 => brB (some v45)
  (J65 (.bool true) G41)
  (wv (vbin T .neq t_api_Errno v29 (.int .i64 0)) fun v46 => brB (some v46)
  (wv (vbin T .neq t_api_Errno v29 (.int .i64 80)) fun v47 => brB (some v47)
  (J65 (.bool true) G41)
  (wv (vbin T .neq t_int64 v28 (.int .i64 0)) fun v48 => J65 v48 G41))
  (J65 (.bool false) G41))))) → R12 [x14, x15, x16, x17] G13) →
  R12 [a0, v9, .nilSlice, v11] G2)
def escrowlaw08_AmountParts.an : Ann := .two (.nil) (.two (.nil) (.two (.nil) (.two (.nil) (.two (.two (.nil) (.loop [0, 1, 5, 6] (.nil))) (.nil)))))
set_option maxRecDepth 100000 in
theorem escrowlaw08_AmountParts.sound {a0 a1 : AVal} {G : Heap} {Q : AVal → Heap → Prop} (h : escrowlaw08_AmountParts.S a0 a1 G Q) : ACalls P escrowlaw08_AmountParts.n [a0, a1] G Q := by
  have e : escrowlaw08_AmountParts.S a0 a1 G Q = awp cx (escrowlaw08_AmountParts.body) escrowlaw08_AmountParts.an (bodyQ T [.tmp 4] Q) (envL [a0, a1]) G := by kernel_rfl
  exact ACalls_of_awp cxOk (f := escrowlaw08_AmountParts.n) (fn := Try.f6) (c := escrowlaw08_AmountParts.body) (an := escrowlaw08_AmountParts.an) Try.func6 (by kernel_rfl) (by kernel_rfl) (by kernel_rfl) (drawsOk_of (by kernel_rfl) (by kernel_rfl)) (by simp [Try.f6]) (e ▸ h)

/-! #### escrow/cursor.New -/
def cursor_New.S (G : Heap) (Q : AVal → Heap → Prop) : Prop :=
  wv (vbuild T t_cursor_Writer []) fun v1 => aNew G (.own (v1)) fun i2 G3 => Q (.ptr i2 [] 0) G3
def cursor_New.an : Ann := .nil
set_option maxRecDepth 100000 in
theorem cursor_New.sound {G : Heap} {Q : AVal → Heap → Prop} (h : cursor_New.S G Q) : ACalls P cursor_New.n [] G Q := by
  have e : cursor_New.S G Q = awp cx (cursor_New.body) cursor_New.an (bodyQ T [.tmp 0] Q) (envL []) G := by kernel_rfl
  exact ACalls_of_awp cxOk (f := cursor_New.n) (fn := Try.f23) (c := cursor_New.body) (an := cursor_New.an) Try.func23 (by kernel_rfl) (by kernel_rfl) (by kernel_rfl) (drawsOk_of (by kernel_rfl) (by kernel_rfl)) (by simp [Try.f23]) (e ▸ h)

/-! #### (*escrow/cursor.Writer).Out -/
def cursor_Writer_Out.S (a0 : AVal) (G : Heap) (Q : AVal → Heap → Prop) : Prop :=
  wv (vnil a0) fun v1 => wv (vfaddr T t_cursor_Writer v1 1) fun v2 => wv (vload T G t_api_Errno v2) fun v3 => wv (vbin T .neq t_api_Errno v3 (.int .i64 0)) fun v4 => brB (some v4)
  (wv (vnil a0) fun v5 => wv (vfaddr T t_cursor_Writer v5 1) fun v6 => wv (vload T G t_api_Errno v6) fun v7 => Q (.tuple [.str [], v7]) G)
  (wv (vnil a0) fun v8 => wv (vfaddr T t_cursor_Writer v8 0) fun v9 => wv (vload T G t_sl_uint8 v9) fun v10 => wv (vconv T G t_sl_uint8 t_string v10) fun v11 => Q (.tuple [v11, .int .i64 0]) G)
def cursor_Writer_Out.an : Ann := .two (.nil) (.two (.two (.nil) (.two (.two (.ord [(0, []), (1, []), (2, []), (3, []), (4, []), (5, [])]) (.nil)) (.nil))) (.nil))
set_option maxRecDepth 100000 in
theorem cursor_Writer_Out.sound {a0 : AVal} {G : Heap} {Q : AVal → Heap → Prop} (h : cursor_Writer_Out.S a0 G Q) : ACalls P cursor_Writer_Out.n [a0] G Q := by
  have e : cursor_Writer_Out.S a0 G Q = awp cx (cursor_Writer_Out.body) cursor_Writer_Out.an (bodyQ T [.tmp 2, .tmp 3] Q) (envL [a0]) G := by kernel_rfl
  exact ACalls_of_awp cxOk (f := cursor_Writer_Out.n) (fn := Try.f27) (c := cursor_Writer_Out.body) (an := cursor_Writer_Out.an) Try.func27 (by kernel_rfl) (by kernel_rfl) (by kernel_rfl) (drawsOk_of (by kernel_rfl) (by kernel_rfl)) (by simp [Try.f27]) (e ▸ h)

/-! #### (*escrow/cursor.Writer).Len -/
def cursor_Writer_Len.S (a0 : AVal) (G : Heap) (Q : AVal → Heap → Prop) : Prop :=
  wv (vnil a0) fun v1 => wv (vfaddr T t_cursor_Writer v1 1) fun v2 => wv (vload T G t_api_Errno v2) fun v3 => wv (vbin T .neq t_api_Errno v3 (.int .i64 0)) fun v4 => brB (some v4)
  (Q (.int .i64 0) G)
  (wv (vnil a0) fun v5 => wv (vfaddr T t_cursor_Writer v5 0) fun v6 => wv (vload T G t_sl_uint8 v6) fun v7 => wv (vlen T G t_sl_uint8 v7) fun v8 => Q v8 G)
def cursor_Writer_Len.an : Ann := .nil
set_option maxRecDepth 100000 in
theorem cursor_Writer_Len.sound {a0 : AVal} {G : Heap} {Q : AVal → Heap → Prop} (h : cursor_Writer_Len.S a0 G Q) : ACalls P cursor_Writer_Len.n [a0] G Q := by
  have e : cursor_Writer_Len.S a0 G Q = awp cx (cursor_Writer_Len.body) cursor_Writer_Len.an (bodyQ T [.tmp 2] Q) (envL [a0]) G := by kernel_rfl
  exact ACalls_of_awp cxOk (f := cursor_Writer_Len.n) (fn := Try.f29) (c := cursor_Writer_Len.body) (an := cursor_Writer_Len.an) Try.func29 (by kernel_rfl) (by kernel_rfl) (by kernel_rfl) (drawsOk_of (by kernel_rfl) (by kernel_rfl)) (by simp [Try.f29]) (e ▸ h)

/-! #### escrow/cursor.lay[uint16] -/
def cursor_lay_uint16.S (a0 a1 a2 : AVal) (G : Heap) (Q : AVal → Heap → Prop) : Prop :=
  wv (vnil a0) fun v1 => wv (vfaddr T t_cursor_Writer v1 1) fun v2 => wv (vload T G t_api_Errno v2) fun v3 => wv (vbin T .neq t_api_Errno v3 (.int .i64 0)) fun v4 => brB (some v4)
  (Q (.tuple []) G)
  (wv (vbin T .sub t_int a2 (.int .i64 1)) fun v5 => ∀ R6 : List AVal → Heap → Prop,
  (∀ (x8 x9 x10 : AVal) (G7 : Heap), (wv (vbin T .geq t_int x10 (.int .i64 0)) fun v11 => brB (some v11)
  (wv (vnil x8) fun v12 => wv (vfaddr T t_cursor_Writer v12 0) fun v13 => wv (vload T G7 t_sl_uint8 v13) fun v14 => wv (vconv T G7 t_uint16 t_uint64 x9) fun v15 => wv (vbin T .mul t_int (.int .i64 8) x10) fun v16 => wv (vbin T .shr t_uint64 v15 v16) fun v17 => wv (vconv T G7 t_uint64 t_uint8 v17) fun v18 => aBuildSlice T t_sl_uint8 1 [(0, v18)] G7 fun v19 G20 => aAppend T G20 t_sl_uint8 t_sl_uint8 v14 v19 fun v21 G22 => wv (vnil x8) fun v23 => wv (vfaddr T t_cursor_Writer v23 0) fun v24 => wg (vstore T G22 t_sl_uint8 v24 v21) fun G25 => wv (vbin T .sub t_int x10 (.int .i64 1)) fun v26 => R6 [x8, x9, v26] G25)
  (Q (.tuple []) G7)) → R6 [x8, x9, x10] G7) →
  R6 [a0, a1, v5] G)
def cursor_lay_uint16.an : Ann := .two (.nil) (.two (.nil) (.loop [0, 1, 6] (.two (.nil) (.two (.ord [(0, []), (1, []), (2, []), (3, []), (4, []), (5, []), (6, []), (7, []), (8, []), (9, []), (10, []), (11, []), (12, []), (13, []), (14, []), (15, [])]) (.nil)))))
set_option maxRecDepth 100000 in
theorem cursor_lay_uint16.sound {a0 a1 a2 : AVal} {G : Heap} {Q : AVal → Heap → Prop} (h : cursor_lay_uint16.S a0 a1 a2 G Q) : ACalls P cursor_lay_uint16.n [a0, a1, a2] G Q := by
  have e : cursor_lay_uint16.S a0 a1 a2 G Q = awp cx (cursor_lay_uint16.body) cursor_lay_uint16.an (bodyQ T [] Q) (envL [a0, a1, a2]) G := by kernel_rfl
  exact ACalls_of_awp cxOk (f := cursor_lay_uint16.n) (fn := Try.f70) (c := cursor_lay_uint16.body) (an := cursor_lay_uint16.an) Try.func70 (by kernel_rfl) (by kernel_rfl) (by kernel_rfl) (drawsOk_of (by kernel_rfl) (by kernel_rfl)) (by simp [Try.f70]) (e ▸ h)

/-! #### (*escrow/cursor.Writer).U16 -/
def cursor_Writer_U16.S (a0 a1 : AVal) (G : Heap) (Q : AVal → Heap → Prop) : Prop :=
  ACalls P cursor_lay_uint16.n [a0, a1, .int .i64 2] G fun v1 G2 => Q (.tuple []) G2
def cursor_Writer_U16.an : Ann := .nil
set_option maxRecDepth 100000 in
theorem cursor_Writer_U16.sound {a0 a1 : AVal} {G : Heap} {Q : AVal → Heap → Prop} (h : cursor_Writer_U16.S a0 a1 G Q) : ACalls P cursor_Writer_U16.n [a0, a1] G Q := by
  have e : cursor_Writer_U16.S a0 a1 G Q = awp cx (cursor_Writer_U16.body) cursor_Writer_U16.an (bodyQ T [] Q) (envL [a0, a1]) G := by kernel_rfl
  exact ACalls_of_awp cxOk (f := cursor_Writer_U16.n) (fn := Try.f35) (c := cursor_Writer_U16.body) (an := cursor_Writer_U16.an) Try.func35 (by kernel_rfl) (by kernel_rfl) (by kernel_rfl) (drawsOk_of (by kernel_rfl) (by kernel_rfl)) (by simp [Try.f35]) (e ▸ h)

/-! #### escrow/cursor.lay[uint8] -/
def cursor_lay_uint8.S (a0 a1 a2 : AVal) (G : Heap) (Q : AVal → Heap → Prop) : Prop :=
  wv (vnil a0) fun v1 => wv (vfaddr T t_cursor_Writer v1 1) fun v2 => wv (vload T G t_api_Errno v2) fun v3 => wv (vbin T .neq t_api_Errno v3 (.int .i64 0)) fun v4 => brB (some v4)
  (Q (.tuple []) G)
  (wv (vbin T .sub t_int a2 (.int .i64 1)) fun v5 => ∀ R6 : List AVal → Heap → Prop,
  (∀ (x8 x9 x10 : AVal) (G7 : Heap), (wv (vbin T .geq t_int x10 (.int .i64 0)) fun v11 => brB (some v11)
  (wv (vnil x8) fun v12 => wv (vfaddr T t_cursor_Writer v12 0) fun v13 => wv (vload T G7 t_sl_uint8 v13) fun v14 => wv (vconv T G7 t_uint8 t_uint64 x9) fun v15 => wv (vbin T .mul t_int (.int .i64 8) x10) fun v16 => wv (vbin T .shr t_uint64 v15 v16) fun v17 => wv (vconv T G7 t_uint64 t_uint8 v17) fun v18 => aBuildSlice T t_sl_uint8 1 [(0, v18)] G7 fun v19 G20 => aAppend T G20 t_sl_uint8 t_sl_uint8 v14 v19 fun v21 G22 => wv (vnil x8) fun v23 => wv (vfaddr T t_cursor_Writer v23 0) fun v24 => wg (vstore T G22 t_sl_uint8 v24 v21) fun G25 => wv (vbin T .sub t_int x10 (.int .i64 1)) fun v26 => R6 [x8, x9, v26] G25)
  (Q (.tuple []) G7)) → R6 [x8, x9, x10] G7) →
  R6 [a0, a1, v5] G)
def cursor_lay_uint8.an : Ann := .two (.nil) (.two (.nil) (.loop [0, 1, 6] (.two (.nil) (.two (.ord [(0, []), (1, []), (2, []), (3, []), (4, []), (5, []), (6, []), (7, []), (8, []), (9, []), (10, []), (11, []), (12, []), (13, []), (14, []), (15, [])]) (.nil)))))
set_option maxRecDepth 100000 in
theorem cursor_lay_uint8.sound {a0 a1 a2 : AVal} {G : Heap} {Q : AVal → Heap → Prop} (h : cursor_lay_uint8.S a0 a1 a2 G Q) : ACalls P cursor_lay_uint8.n [a0, a1, a2] G Q := by
  have e : cursor_lay_uint8.S a0 a1 a2 G Q = awp cx (cursor_lay_uint8.body) cursor_lay_uint8.an (bodyQ T [] Q) (envL [a0, a1, a2]) G := by kernel_rfl
  exact ACalls_of_awp cxOk (f := cursor_lay_uint8.n) (fn := Try.f71) (c := cursor_lay_uint8.body) (an := cursor_lay_uint8.an) Try.func71 (by kernel_rfl) (by kernel_rfl) (by kernel_rfl) (drawsOk_of (by kernel_rfl) (by kernel_rfl)) (by simp [Try.f71]) (e ▸ h)

/-! #### (*escrow/cursor.Writer).U8 -/
def cursor_Writer_U8.S (a0 a1 : AVal) (G : Heap) (Q : AVal → Heap → Prop) : Prop :=
  ACalls P cursor_lay_uint8.n [a0, a1, .int .i64 1] G fun v1 G2 => Q (.tuple []) G2
def cursor_Writer_U8.an : Ann := .nil
set_option maxRecDepth 100000 in
theorem cursor_Writer_U8.sound {a0 a1 : AVal} {G : Heap} {Q : AVal → Heap → Prop} (h : cursor_Writer_U8.S a0 a1 G Q) : ACalls P cursor_Writer_U8.n [a0, a1] G Q := by
  have e : cursor_Writer_U8.S a0 a1 G Q = awp cx (cursor_Writer_U8.body) cursor_Writer_U8.an (bodyQ T [] Q) (envL [a0, a1]) G := by kernel_rfl
  exact ACalls_of_awp cxOk (f := cursor_Writer_U8.n) (fn := Try.f36) (c := cursor_Writer_U8.body) (an := cursor_Writer_U8.an) Try.func36 (by kernel_rfl) (by kernel_rfl) (by kernel_rfl) (drawsOk_of (by kernel_rfl) (by kernel_rfl)) (by simp [Try.f36]) (e ▸ h)

/-! #### escrow/cursor.Open -/
def cursor_Open.S (a0 : AVal) (G : Heap) (Q : AVal → Heap → Prop) : Prop :=
  wv (vbuild T t_cursor_Reader [(0, a0)]) fun v1 => aNew G (.own (v1)) fun i2 G3 => Q (.ptr i2 [] 0) G3
def cursor_Open.an : Ann := .nil
set_option maxRecDepth 100000 in
theorem cursor_Open.sound {a0 : AVal} {G : Heap} {Q : AVal → Heap → Prop} (h : cursor_Open.S a0 G Q) : ACalls P cursor_Open.n [a0] G Q := by
  have e : cursor_Open.S a0 G Q = awp cx (cursor_Open.body) cursor_Open.an (bodyQ T [.tmp 2] Q) (envL [a0]) G := by kernel_rfl
  exact ACalls_of_awp cxOk (f := cursor_Open.n) (fn := Try.f37) (c := cursor_Open.body) (an := cursor_Open.an) Try.func37 (by kernel_rfl) (by kernel_rfl) (by kernel_rfl) (drawsOk_of (by kernel_rfl) (by kernel_rfl)) (by simp [Try.f37]) (e ▸ h)

/-! #### (*escrow/cursor.Reader).breaks -/
def cursor_Reader_breaks.S (a0 a1 : AVal) (G : Heap) (Q : AVal → Heap → Prop) : Prop :=
  wv (vnil a0) fun v1 => wv (vfaddr T t_cursor_Reader v1 0) fun v2 => wg (vstore T G t_string v2 (.str [])) fun G3 => wv (vnil a0) fun v4 => wv (vfaddr T t_cursor_Reader v4 1) fun v5 => wg (vstore T G3 t_api_Errno v5 a1) fun G6 => Q (.tuple []) G6
def cursor_Reader_breaks.an : Ann := .nil
set_option maxRecDepth 100000 in
theorem cursor_Reader_breaks.sound {a0 a1 : AVal} {G : Heap} {Q : AVal → Heap → Prop} (h : cursor_Reader_breaks.S a0 a1 G Q) : ACalls P cursor_Reader_breaks.n [a0, a1] G Q := by
  have e : cursor_Reader_breaks.S a0 a1 G Q = awp cx (cursor_Reader_breaks.body) cursor_Reader_breaks.an (bodyQ T [] Q) (envL [a0, a1]) G := by kernel_rfl
  exact ACalls_of_awp cxOk (f := cursor_Reader_breaks.n) (fn := Try.f77) (c := cursor_Reader_breaks.body) (an := cursor_Reader_breaks.an) Try.func77 (by kernel_rfl) (by kernel_rfl) (by kernel_rfl) (drawsOk_of (by kernel_rfl) (by kernel_rfl)) (by simp [Try.f77]) (e ▸ h)

/-! #### (*escrow/cursor.Reader).take -/
def cursor_Reader_take.S (a0 a1 : AVal) (G : Heap) (Q : AVal → Heap → Prop) : Prop :=
  wv (vnil a0) fun v1 => wv (vfaddr T t_cursor_Reader v1 1) fun v2 => wv (vload T G t_api_Errno v2) fun v3 => wv (vbin T .neq t_api_Errno v3 (.int .i64 0)) fun v4 => brB (some v4)
  (Q (.str []) G)
  (wv (vnil a0) fun v5 => wv (vfaddr T t_cursor_Reader v5 0) fun v6 => wv (vload T G t_string v6) fun v7 => wv (vlen T G t_string v7) fun v8 => wv (vbin T .lss t_int v8 a1) fun v9 => brB (some v9)
  (ACalls P cursor_Reader_breaks.n [a0, .int .i64 2] G fun v10 G11 => Q (.str []) G11)
  (wv (vnil a0) fun v12 => wv (vfaddr T t_cursor_Reader v12 0) fun v13 => wv (vload T G t_string v13) fun v14 => wv (vslice T t_string v14 none (some (a1)) none) fun v15 => wv (vnil a0) fun v16 => wv (vfaddr T t_cursor_Reader v16 0) fun v17 => wv (vload T G t_string v17) fun v18 => wv (vslice T t_string v18 (some (a1)) none none) fun v19 => wv (vnil a0) fun v20 => wv (vfaddr T t_cursor_Reader v20 0) fun v21 => wg (vstore T G t_string v21 v19) fun G22 => Q v15 G22))
def cursor_Reader_take.an : Ann := .nil
set_option maxRecDepth 100000 in
theorem cursor_Reader_take.sound {a0 a1 : AVal} {G : Heap} {Q : AVal → Heap → Prop} (h : cursor_Reader_take.S a0 a1 G Q) : ACalls P cursor_Reader_take.n [a0, a1] G Q := by
  have e : cursor_Reader_take.S a0 a1 G Q = awp cx (cursor_Reader_take.body) cursor_Reader_take.an (bodyQ T [.tmp 4] Q) (envL [a0, a1]) G := by kernel_rfl
  exact ACalls_of_awp cxOk (f := cursor_Reader_take.n) (fn := Try.f73) (c := cursor_Reader_take.body) (an := cursor_Reader_take.an) Try.func73 (by kernel_rfl) (by kernel_rfl) (by kernel_rfl) (drawsOk_of (by kernel_rfl) (by kernel_rfl)) (by simp [Try.f73]) (e ▸ h)

/-! #### escrow/cursor.value[uint16] -/
def cursor_value_uint16.S (a0 : AVal) (G : Heap) (Q : AVal → Heap → Prop) : Prop :=
  wv (vlen T G t_string a0) fun v1 => ∀ R2 : List AVal → Heap → Prop,
  (∀ (x4 x5 x6 x7 : AVal) (G3 : Heap), (wv (vbin T .lss t_int x7 x6) fun v8 => brB (some v8)
  (wv (vbin T .shl t_uint64 x5 (.int .u64 8)) fun v9 => wv (vindex T t_string x4 x7) fun v10 => wv (vconv T G3 t_uint8 t_uint64 v10) fun v11 => wv (vbin T .or t_uint64 v9 v11) fun v12 => wv (vbin T .add t_int x7 (.int .i64 1)) fun v13 => R2 [x4, v12, x6, v13] G3)
  (wv (vconv T G3 t_uint64 t_uint16 x5) fun v14 => Q v14 G3)) → R2 [x4, x5, x6, x7] G3) →
  R2 [a0, .int .u64 0, v1, .int .i64 0] G
def cursor_value_uint16.an : Ann := .two (.nil) (.two (.nil) (.two (.two (.nil) (.loop [0, 3, 6, 7] (.nil))) (.nil)))
set_option maxRecDepth 100000 in
theorem cursor_value_uint16.sound {a0 : AVal} {G : Heap} {Q : AVal → Heap → Prop} (h : cursor_value_uint16.S a0 G Q) : ACalls P cursor_value_uint16.n [a0] G Q := by
  have e : cursor_value_uint16.S a0 G Q = awp cx (cursor_value_uint16.body) cursor_value_uint16.an (bodyQ T [.tmp 2] Q) (envL [a0]) G := by kernel_rfl
  exact ACalls_of_awp cxOk (f := cursor_value_uint16.n) (fn := Try.f74) (c := cursor_value_uint16.body) (an := cursor_value_uint16.an) Try.func74 (by kernel_rfl) (by kernel_rfl) (by kernel_rfl) (drawsOk_of (by kernel_rfl) (by kernel_rfl)) (by simp [Try.f74]) (e ▸ h)

/-! #### (*escrow/cursor.Reader).U16 -/
def cursor_Reader_U16.S (a0 : AVal) (G : Heap) (Q : AVal → Heap → Prop) : Prop :=
  ACalls P cursor_Reader_take.n [a0, .int .i64 2] G fun v1 G2 => ACalls P cursor_value_uint16.n [v1] G2 fun v3 G4 => Q v3 G4
def cursor_Reader_U16.an : Ann := .nil
set_option maxRecDepth 100000 in
theorem cursor_Reader_U16.sound {a0 : AVal} {G : Heap} {Q : AVal → Heap → Prop} (h : cursor_Reader_U16.S a0 G Q) : ACalls P cursor_Reader_U16.n [a0] G Q := by
  have e : cursor_Reader_U16.S a0 G Q = awp cx (cursor_Reader_U16.body) cursor_Reader_U16.an (bodyQ T [.tmp 2] Q) (envL [a0]) G := by kernel_rfl
  exact ACalls_of_awp cxOk (f := cursor_Reader_U16.n) (fn := Try.f39) (c := cursor_Reader_U16.body) (an := cursor_Reader_U16.an) Try.func39 (by kernel_rfl) (by kernel_rfl) (by kernel_rfl) (drawsOk_of (by kernel_rfl) (by kernel_rfl)) (by simp [Try.f39]) (e ▸ h)

/-! #### (*escrow/cursor.Reader).Done -/
def cursor_Reader_Done.S (a0 : AVal) (G : Heap) (Q : AVal → Heap → Prop) : Prop :=
  wv (vnil a0) fun v1 => wv (vfaddr T t_cursor_Reader v1 1) fun v2 => wv (vload T G t_api_Errno v2) fun v3 => wv (vbin T .eql t_api_Errno v3 (.int .i64 0)) fun v4 => brB (some v4)
  (wv (vnil a0) fun v5 => wv (vfaddr T t_cursor_Reader v5 0) fun v6 => wv (vload T G t_string v6) fun v7 => wv (vbin T .neq t_string v7 (.str [])) fun v8 => brB (some v8)
  (Q (.int .i64 4) G)
  (wv (vnil a0) fun v14 => wv (vfaddr T t_cursor_Reader v14 1) fun v15 => wv (vload T G t_api_Errno v15) fun v16 => Q v16 G))
  (wv (vnil a0) fun v17 => wv (vfaddr T t_cursor_Reader v17 1) fun v18 => wv (vload T G t_api_Errno v18) fun v19 => Q v19 G)
def cursor_Reader_Done.an : Ann := .nil
set_option maxRecDepth 100000 in
theorem cursor_Reader_Done.sound {a0 : AVal} {G : Heap} {Q : AVal → Heap → Prop} (h : cursor_Reader_Done.S a0 G Q) : ACalls P cursor_Reader_Done.n [a0] G Q := by
  have e : cursor_Reader_Done.S a0 G Q = awp cx (cursor_Reader_Done.body) cursor_Reader_Done.an (bodyQ T [.tmp 2] Q) (envL [a0]) G := by kernel_rfl
  exact ACalls_of_awp cxOk (f := cursor_Reader_Done.n) (fn := Try.f42) (c := cursor_Reader_Done.body) (an := cursor_Reader_Done.an) Try.func42 (by kernel_rfl) (by kernel_rfl) (by kernel_rfl) (drawsOk_of (by kernel_rfl) (by kernel_rfl)) (by simp [Try.f42]) (e ▸ h)

/-! #### (*escrow/cursor.Writer).Raw -/
def cursor_Writer_Raw.S (a0 a1 : AVal) (G : Heap) (Q : AVal → Heap → Prop) : Prop :=
  wv (vnil a0) fun v1 => wv (vfaddr T t_cursor_Writer v1 1) fun v2 => wv (vload T G t_api_Errno v2) fun v3 => wv (vbin T .eql t_api_Errno v3 (.int .i64 0)) fun v4 => brB (some v4)
  (wv (vnil a0) fun v5 => wv (vfaddr T t_cursor_Writer v5 0) fun v6 => wv (vload T G t_sl_uint8 v6) fun v7 => aAppend T G t_sl_uint8 t_string v7 a1 fun v8 G9 => wv (vnil a0) fun v10 => wv (vfaddr T t_cursor_Writer v10 0) fun v11 => wg (vstore T G9 t_sl_uint8 v11 v8) fun G12 => Q (.tuple []) G12)
  (Q (.tuple []) G)
def cursor_Writer_Raw.an : Ann := .nil
set_option maxRecDepth 100000 in
theorem cursor_Writer_Raw.sound {a0 a1 : AVal} {G : Heap} {Q : AVal → Heap → Prop} (h : cursor_Writer_Raw.S a0 a1 G Q) : ACalls P cursor_Writer_Raw.n [a0, a1] G Q := by
  have e : cursor_Writer_Raw.S a0 a1 G Q = awp cx (cursor_Writer_Raw.body) cursor_Writer_Raw.an (bodyQ T [] Q) (envL [a0, a1]) G := by kernel_rfl
  exact ACalls_of_awp cxOk (f := cursor_Writer_Raw.n) (fn := Try.f31) (c := cursor_Writer_Raw.body) (an := cursor_Writer_Raw.an) Try.func31 (by kernel_rfl) (by kernel_rfl) (by kernel_rfl) (drawsOk_of (by kernel_rfl) (by kernel_rfl)) (by simp [Try.f31]) (e ▸ h)

/-! #### (*escrow/cursor.Writer).Text -/
def cursor_Writer_Text.S (a0 a1 : AVal) (G : Heap) (Q : AVal → Heap → Prop) : Prop :=
  let J31 : AVal → Heap → Prop := (fun x8 G7 => brB (some x8)
  (wv (vnil a0) fun v9 => wv (vfaddr T t_cursor_Writer v9 1) fun v10 => wg (vstore T G7 t_api_Errno v10 (.int .i64 3)) fun G11 => wv (vlen T G11 t_string a1) fun v19 => wv (vconv T G11 t_int t_uint16 v19) fun v20 => ACalls P cursor_lay_uint16.n [a0, v20, .int .i64 2] G11 fun v21 G22 => ACalls P cursor_Writer_Raw.n [a0, a1] G22 fun v23 G24 => Q (.tuple []) G24)
  (wv (vlen T G7 t_string a1) fun v25 => wv (vconv T G7 t_int t_uint16 v25) fun v26 => ACalls P cursor_lay_uint16.n [a0, v26, .int .i64 2] G7 fun v27 G28 => ACalls P cursor_Writer_Raw.n [a0, a1] G28 fun v29 G30 => Q (.tuple []) G30));
  wv (vnil a0) fun v1 => wv (vfaddr T t_cursor_Writer v1 1) fun v2 => wv (vload T G t_api_Errno v2) fun v3 => wv (vbin T .eql t_api_Errno v3 (.int .i64 0)) fun v4 => brB (some v4)
  (wv (vlen T G t_string a1) fun v5 => wv (vbin T .gtr t_int v5 (.int .i64 65535)) fun v6 => J31 v6 G)
  (J31 (.bool false) G)
def cursor_Writer_Text.an : Ann := .nil
set_option maxRecDepth 100000 in
theorem cursor_Writer_Text.sound {a0 a1 : AVal} {G : Heap} {Q : AVal → Heap → Prop} (h : cursor_Writer_Text.S a0 a1 G Q) : ACalls P cursor_Writer_Text.n [a0, a1] G Q := by
  have e : cursor_Writer_Text.S a0 a1 G Q = awp cx (cursor_Writer_Text.body) cursor_Writer_Text.an (bodyQ T [] Q) (envL [a0, a1]) G := by kernel_rfl
  exact ACalls_of_awp cxOk (f := cursor_Writer_Text.n) (fn := Try.f43) (c := cursor_Writer_Text.body) (an := cursor_Writer_Text.an) Try.func43 (by kernel_rfl) (by kernel_rfl) (by kernel_rfl) (drawsOk_of (by kernel_rfl) (by kernel_rfl)) (by simp [Try.f43]) (e ▸ h)

/-! #### (*escrow/cursor.Reader).Text -/
def cursor_Reader_Text.S (a0 a1 : AVal) (G : Heap) (Q : AVal → Heap → Prop) : Prop :=
  let J44 : AVal → Heap → Prop := (fun x19 G18 => brB (some x19)
  (ACalls P cursor_Reader_breaks.n [a0, .int .i64 3] G18 fun v20 G21 => ACalls P cursor_Reader_take.n [a0, .int .i64 2] G21 fun v30 G31 => ACalls P cursor_value_uint16.n [v30] G31 fun v32 G33 => wv (vconv T G33 t_uint16 t_int v32) fun v34 => ACalls P cursor_Reader_take.n [a0, v34] G33 fun v35 G36 => Q v35 G36)
  (ACalls P cursor_Reader_take.n [a0, .int .i64 2] G18 fun v37 G38 => ACalls P cursor_value_uint16.n [v37] G38 fun v39 G40 => wv (vconv T G40 t_uint16 t_int v39) fun v41 => ACalls P cursor_Reader_take.n [a0, v41] G40 fun v42 G43 => Q v42 G43));
  wv (vnil a0) fun v1 => wv (vfaddr T t_cursor_Reader v1 1) fun v2 => wv (vload T G t_api_Errno v2) fun v3 => wv (vbin T .eql t_api_Errno v3 (.int .i64 0)) fun v4 => brB (some v4)
  (wv (vnil a0) fun v5 => wv (vfaddr T t_cursor_Reader v5 0) fun v6 => wv (vload T G t_string v6) fun v7 => wv (vlen T G t_string v7) fun v8 => wv (vbin T .geq t_int v8 (.int .i64 2)) fun v9 => brB (some v9)
  (wv (vnil a0) fun v10 => wv (vfaddr T t_cursor_Reader v10 0) fun v11 => wv (vload T G t_string v11) fun v12 => wv (vslice T t_string v12 none (some (.int .i64 2)) none) fun v13 => ACalls P cursor_value_uint16.n [v13] G fun v14 G15 => wv (vconv T G15 t_uint16 t_int v14) fun v16 => wv (vbin T .gtr t_int v16 a1) fun v17 => J44 v17 G15)
  (J44 (.bool false) G))
  (J44 (.bool false) G)
def cursor_Reader_Text.an : Ann := .nil
set_option maxRecDepth 100000 in
theorem cursor_Reader_Text.sound {a0 a1 : AVal} {G : Heap} {Q : AVal → Heap → Prop} (h : cursor_Reader_Text.S a0 a1 G Q) : ACalls P cursor_Reader_Text.n [a0, a1] G Q := by
  have e : cursor_Reader_Text.S a0 a1 G Q = awp cx (cursor_Reader_Text.body) cursor_Reader_Text.an (bodyQ T [.tmp 4] Q) (envL [a0, a1]) G := by kernel_rfl
  exact ACalls_of_awp cxOk (f := cursor_Reader_Text.n) (fn := Try.f44) (c := cursor_Reader_Text.body) (an := cursor_Reader_Text.an) Try.func44 (by kernel_rfl) (by kernel_rfl) (by kernel_rfl) (drawsOk_of (by kernel_rfl) (by kernel_rfl)) (by simp [Try.f44]) (e ▸ h)

/-! #### (*escrow/cursor.Reader).Err -/
def cursor_Reader_Err.S (a0 : AVal) (G : Heap) (Q : AVal → Heap → Prop) : Prop :=
  wv (vnil a0) fun v1 => wv (vfaddr T t_cursor_Reader v1 1) fun v2 => wv (vload T G t_api_Errno v2) fun v3 => Q v3 G
def cursor_Reader_Err.an : Ann := .nil
set_option maxRecDepth 100000 in
theorem cursor_Reader_Err.sound {a0 : AVal} {G : Heap} {Q : AVal → Heap → Prop} (h : cursor_Reader_Err.S a0 G Q) : ACalls P cursor_Reader_Err.n [a0] G Q := by
  have e : cursor_Reader_Err.S a0 G Q = awp cx (cursor_Reader_Err.body) cursor_Reader_Err.an (bodyQ T [.tmp 2] Q) (envL [a0]) G := by kernel_rfl
  exact ACalls_of_awp cxOk (f := cursor_Reader_Err.n) (fn := Try.f45) (c := cursor_Reader_Err.body) (an := cursor_Reader_Err.an) Try.func45 (by kernel_rfl) (by kernel_rfl) (by kernel_rfl) (drawsOk_of (by kernel_rfl) (by kernel_rfl)) (by simp [Try.f45]) (e ▸ h)

/-! #### (*escrow/cursor.Reader).Rest -/
def cursor_Reader_Rest.S (a0 : AVal) (G : Heap) (Q : AVal → Heap → Prop) : Prop :=
  wv (vnil a0) fun v1 => wv (vfaddr T t_cursor_Reader v1 0) fun v2 => wv (vload T G t_string v2) fun v3 => Q v3 G
def cursor_Reader_Rest.an : Ann := .nil
set_option maxRecDepth 100000 in
theorem cursor_Reader_Rest.sound {a0 : AVal} {G : Heap} {Q : AVal → Heap → Prop} (h : cursor_Reader_Rest.S a0 G Q) : ACalls P cursor_Reader_Rest.n [a0] G Q := by
  have e : cursor_Reader_Rest.S a0 G Q = awp cx (cursor_Reader_Rest.body) cursor_Reader_Rest.an (bodyQ T [.tmp 2] Q) (envL [a0]) G := by kernel_rfl
  exact ACalls_of_awp cxOk (f := cursor_Reader_Rest.n) (fn := Try.f46) (c := cursor_Reader_Rest.body) (an := cursor_Reader_Rest.an) Try.func46 (by kernel_rfl) (by kernel_rfl) (by kernel_rfl) (drawsOk_of (by kernel_rfl) (by kernel_rfl)) (by simp [Try.f46]) (e ▸ h)

/-! #### escrow/escrowlaw03.head -/
def escrowlaw03_head.S (G : Heap) (Q : AVal → Heap → Prop) : Prop :=
  ACalls P cursor_New.n [] G fun v1 G2 => ACalls P cursor_Open.n [.str [0, 2, 97, 98, 7]] G2 fun v3 G4 => let J47 : AVal → Heap → Prop := (fun x8 G7 => brB (some x8)
  (Q (.bool false) G7)
  (ACalls P cursor_Writer_U8.n [v1, .int .u8 1] G7 fun v9 G10 => ACalls P cursor_Writer_U16.n [v1, .int .u16 258] G10 fun v11 G12 => ACalls P cursor_Writer_Text.n [v1, .str [97, 98]] G12 fun v13 G14 => ACalls P cursor_Writer_Out.n [v1] G14 fun v15 G16 => wv (vextract v15 0) fun v17 => wv (vextract v15 1) fun v18 => let J46 : AVal → Heap → Prop := (fun x25 G24 => brB (some x25)
  (Q (.bool false) G24)
  (ACalls P cursor_Reader_Text.n [v3, .int .i64 2] G24 fun v26 G27 => wv (vbin T .eql t_string v26 (.str [97, 98])) fun v28 => brB (some v28)
  (ACalls P cursor_Reader_Rest.n [v3] G27 fun v29 G30 => wv (vbin T .eql t_string v29 (.str [7])) fun v31 => brB (some v31)
  (ACalls P cursor_Reader_Done.n [v3] G30 fun v32 G33 => wv (vbin T .eql t_api_Errno v32 (.int .i64 4)) fun v34 => brB (some v34)
  (ACalls P cursor_Reader_U16.n [v3] G33 fun v35 G36 => wv (vbin T .eql t_uint16 v35 (.int .u16 0)) fun v37 => brB (some v37)
  (ACalls P cursor_Reader_Err.n [v3] G36 fun v38 G39 => wv (vbin T .eql t_api_Errno v38 (.int .i64 2)) fun v40 => brB (some v40)
  (ACalls P cursor_Reader_Rest.n [v3] G39 fun v41 G42 => wv (vbin T .eql t_string v41 (.str [])) fun v43 => Q v43 G42)
  (Q (.bool false) G39))
  (Q (.bool false) G36))
  (Q (.bool false) G33))
  (Q (.bool false) G30))
  (Q (.bool false) G27)));
  wv (vbin T .neq t_string v17 (.str [1, 1, 2, 0, 2, 97, 98])) fun v19 => brB (some v19)
  (J46 (.bool true) G16)
  (wv (vbin T .neq t_api_Errno v18 (.int .i64 0)) fun v20 => brB (some v20)
  (J46 (.bool true) G16)
  (ACalls P cursor_Writer_Len.n [v1] G16 fun v21 G22 => wv (vbin T .neq t_int v21 (.int .i64 7)) fun v23 => J46 v23 G22))));
  wv (vbin T .eql t_pt_cursor_Writer v1 (.nilPtr)) fun v5 => brB (some v5)
  (J47 (.bool true) G4)
  (wv (vbin T .eql t_pt_cursor_Reader v3 (.nilPtr)) fun v6 => J47 v6 G4)
def escrowlaw03_head.an : Ann := .nil
set_option maxRecDepth 100000 in
theorem escrowlaw03_head.sound {G : Heap} {Q : AVal → Heap → Prop} (h : escrowlaw03_head.S G Q) : ACalls P escrowlaw03_head.n [] G Q := by
  have e : escrowlaw03_head.S G Q = awp cx (escrowlaw03_head.body) escrowlaw03_head.an (bodyQ T [.tmp 0] Q) (envL []) G := by kernel_rfl
  exact ACalls_of_awp cxOk (f := escrowlaw03_head.n) (fn := Try.f22) (c := escrowlaw03_head.body) (an := escrowlaw03_head.an) Try.func22 (by kernel_rfl) (by kernel_rfl) (by kernel_rfl) (drawsOk_of (by kernel_rfl) (by kernel_rfl)) (by simp [Try.f22]) (e ▸ h)

/-! #### escrow/escrowref03.New -/
def escrowref03_New.S (G : Heap) (Q : AVal → Heap → Prop) : Prop :=
  wv (vbuild T t_escrowref03_Writer []) fun v1 => aNew G (.own (v1)) fun i2 G3 => Q (.ptr i2 [] 0) G3
def escrowref03_New.an : Ann := .nil
set_option maxRecDepth 100000 in
theorem escrowref03_New.sound {G : Heap} {Q : AVal → Heap → Prop} (h : escrowref03_New.S G Q) : ACalls P escrowref03_New.n [] G Q := by
  have e : escrowref03_New.S G Q = awp cx (escrowref03_New.body) escrowref03_New.an (bodyQ T [.tmp 0] Q) (envL []) G := by kernel_rfl
  exact ACalls_of_awp cxOk (f := escrowref03_New.n) (fn := Try.f24) (c := escrowref03_New.body) (an := escrowref03_New.an) Try.func24 (by kernel_rfl) (by kernel_rfl) (by kernel_rfl) (drawsOk_of (by kernel_rfl) (by kernel_rfl)) (by simp [Try.f24]) (e ▸ h)

/-! #### escrow/cursor.lay[uint64] -/
def cursor_lay_uint64.S (a0 a1 a2 : AVal) (G : Heap) (Q : AVal → Heap → Prop) : Prop :=
  wv (vnil a0) fun v1 => wv (vfaddr T t_cursor_Writer v1 1) fun v2 => wv (vload T G t_api_Errno v2) fun v3 => wv (vbin T .neq t_api_Errno v3 (.int .i64 0)) fun v4 => brB (some v4)
  (Q (.tuple []) G)
  (wv (vbin T .sub t_int a2 (.int .i64 1)) fun v5 => ∀ R6 : List AVal → Heap → Prop,
  (∀ (x8 x9 x10 : AVal) (G7 : Heap), (wv (vbin T .geq t_int x10 (.int .i64 0)) fun v11 => brB (some v11)
  (wv (vnil x8) fun v12 => wv (vfaddr T t_cursor_Writer v12 0) fun v13 => wv (vload T G7 t_sl_uint8 v13) fun v14 => wv (vbin T .mul t_int (.int .i64 8) x10) fun v15 => wv (vbin T .shr t_uint64 x9 v15) fun v16 => wv (vconv T G7 t_uint64 t_uint8 v16) fun v17 => aBuildSlice T t_sl_uint8 1 [(0, v17)] G7 fun v18 G19 => aAppend T G19 t_sl_uint8 t_sl_uint8 v14 v18 fun v20 G21 => wv (vnil x8) fun v22 => wv (vfaddr T t_cursor_Writer v22 0) fun v23 => wg (vstore T G21 t_sl_uint8 v23 v20) fun G24 => wv (vbin T .sub t_int x10 (.int .i64 1)) fun v25 => R6 [x8, x9, v25] G24)
  (Q (.tuple []) G7)) → R6 [x8, x9, x10] G7) →
  R6 [a0, a1, v5] G)
def cursor_lay_uint64.an : Ann := .two (.nil) (.two (.nil) (.loop [0, 1, 6] (.two (.nil) (.two (.ord [(0, []), (1, []), (2, []), (3, []), (4, []), (5, []), (6, []), (7, []), (8, []), (9, []), (10, []), (11, []), (12, []), (13, []), (14, [])]) (.nil)))))
set_option maxRecDepth 100000 in
theorem cursor_lay_uint64.sound {a0 a1 a2 : AVal} {G : Heap} {Q : AVal → Heap → Prop} (h : cursor_lay_uint64.S a0 a1 a2 G Q) : ACalls P cursor_lay_uint64.n [a0, a1, a2] G Q := by
  have e : cursor_lay_uint64.S a0 a1 a2 G Q = awp cx (cursor_lay_uint64.body) cursor_lay_uint64.an (bodyQ T [] Q) (envL [a0, a1, a2]) G := by kernel_rfl
  exact ACalls_of_awp cxOk (f := cursor_lay_uint64.n) (fn := Try.f68) (c := cursor_lay_uint64.body) (an := cursor_lay_uint64.an) Try.func68 (by kernel_rfl) (by kernel_rfl) (by kernel_rfl) (drawsOk_of (by kernel_rfl) (by kernel_rfl)) (by simp [Try.f68]) (e ▸ h)

/-! #### (*escrow/cursor.Writer).U64 -/
def cursor_Writer_U64.S (a0 a1 : AVal) (G : Heap) (Q : AVal → Heap → Prop) : Prop :=
  ACalls P cursor_lay_uint64.n [a0, a1, .int .i64 8] G fun v1 G2 => Q (.tuple []) G2
def cursor_Writer_U64.an : Ann := .nil
set_option maxRecDepth 100000 in
theorem cursor_Writer_U64.sound {a0 a1 : AVal} {G : Heap} {Q : AVal → Heap → Prop} (h : cursor_Writer_U64.S a0 a1 G Q) : ACalls P cursor_Writer_U64.n [a0, a1] G Q := by
  have e : cursor_Writer_U64.S a0 a1 G Q = awp cx (cursor_Writer_U64.body) cursor_Writer_U64.an (bodyQ T [] Q) (envL [a0, a1]) G := by kernel_rfl
  exact ACalls_of_awp cxOk (f := cursor_Writer_U64.n) (fn := Try.f32) (c := cursor_Writer_U64.body) (an := cursor_Writer_U64.an) Try.func32 (by kernel_rfl) (by kernel_rfl) (by kernel_rfl) (drawsOk_of (by kernel_rfl) (by kernel_rfl)) (by simp [Try.f32]) (e ▸ h)

/-! #### (*escrow/cursor.Writer).I64 -/
def cursor_Writer_I64.S (a0 a1 : AVal) (G : Heap) (Q : AVal → Heap → Prop) : Prop :=
  wv (vconv T G t_int64 t_uint64 a1) fun v1 => ACalls P cursor_lay_uint64.n [a0, v1, .int .i64 8] G fun v2 G3 => Q (.tuple []) G3
def cursor_Writer_I64.an : Ann := .nil
set_option maxRecDepth 100000 in
theorem cursor_Writer_I64.sound {a0 a1 : AVal} {G : Heap} {Q : AVal → Heap → Prop} (h : cursor_Writer_I64.S a0 a1 G Q) : ACalls P cursor_Writer_I64.n [a0, a1] G Q := by
  have e : cursor_Writer_I64.S a0 a1 G Q = awp cx (cursor_Writer_I64.body) cursor_Writer_I64.an (bodyQ T [] Q) (envL [a0, a1]) G := by kernel_rfl
  exact ACalls_of_awp cxOk (f := cursor_Writer_I64.n) (fn := Try.f33) (c := cursor_Writer_I64.body) (an := cursor_Writer_I64.an) Try.func33 (by kernel_rfl) (by kernel_rfl) (by kernel_rfl) (drawsOk_of (by kernel_rfl) (by kernel_rfl)) (by simp [Try.f33]) (e ▸ h)

/-! #### escrow/cursor.lay[uint32] -/
def cursor_lay_uint32.S (a0 a1 a2 : AVal) (G : Heap) (Q : AVal → Heap → Prop) : Prop :=
  wv (vnil a0) fun v1 => wv (vfaddr T t_cursor_Writer v1 1) fun v2 => wv (vload T G t_api_Errno v2) fun v3 => wv (vbin T .neq t_api_Errno v3 (.int .i64 0)) fun v4 => brB (some v4)
  (Q (.tuple []) G)
  (wv (vbin T .sub t_int a2 (.int .i64 1)) fun v5 => ∀ R6 : List AVal → Heap → Prop,
  (∀ (x8 x9 x10 : AVal) (G7 : Heap), (wv (vbin T .geq t_int x10 (.int .i64 0)) fun v11 => brB (some v11)
  (wv (vnil x8) fun v12 => wv (vfaddr T t_cursor_Writer v12 0) fun v13 => wv (vload T G7 t_sl_uint8 v13) fun v14 => wv (vconv T G7 t_uint32 t_uint64 x9) fun v15 => wv (vbin T .mul t_int (.int .i64 8) x10) fun v16 => wv (vbin T .shr t_uint64 v15 v16) fun v17 => wv (vconv T G7 t_uint64 t_uint8 v17) fun v18 => aBuildSlice T t_sl_uint8 1 [(0, v18)] G7 fun v19 G20 => aAppend T G20 t_sl_uint8 t_sl_uint8 v14 v19 fun v21 G22 => wv (vnil x8) fun v23 => wv (vfaddr T t_cursor_Writer v23 0) fun v24 => wg (vstore T G22 t_sl_uint8 v24 v21) fun G25 => wv (vbin T .sub t_int x10 (.int .i64 1)) fun v26 => R6 [x8, x9, v26] G25)
  (Q (.tuple []) G7)) → R6 [x8, x9, x10] G7) →
  R6 [a0, a1, v5] G)
def cursor_lay_uint32.an : Ann := .two (.nil) (.two (.nil) (.loop [0, 1, 6] (.two (.nil) (.two (.ord [(0, []), (1, []), (2, []), (3, []), (4, []), (5, []), (6, []), (7, []), (8, []), (9, []), (10, []), (11, []), (12, []), (13, []), (14, []), (15, [])]) (.nil)))))
set_option maxRecDepth 100000 in
theorem cursor_lay_uint32.sound {a0 a1 a2 : AVal} {G : Heap} {Q : AVal → Heap → Prop} (h : cursor_lay_uint32.S a0 a1 a2 G Q) : ACalls P cursor_lay_uint32.n [a0, a1, a2] G Q := by
  have e : cursor_lay_uint32.S a0 a1 a2 G Q = awp cx (cursor_lay_uint32.body) cursor_lay_uint32.an (bodyQ T [] Q) (envL [a0, a1, a2]) G := by kernel_rfl
  exact ACalls_of_awp cxOk (f := cursor_lay_uint32.n) (fn := Try.f69) (c := cursor_lay_uint32.body) (an := cursor_lay_uint32.an) Try.func69 (by kernel_rfl) (by kernel_rfl) (by kernel_rfl) (drawsOk_of (by kernel_rfl) (by kernel_rfl)) (by simp [Try.f69]) (e ▸ h)

/-! #### (*escrow/cursor.Writer).U32 -/
def cursor_Writer_U32.S (a0 a1 : AVal) (G : Heap) (Q : AVal → Heap → Prop) : Prop :=
  ACalls P cursor_lay_uint32.n [a0, a1, .int .i64 4] G fun v1 G2 => Q (.tuple []) G2
def cursor_Writer_U32.an : Ann := .nil
set_option maxRecDepth 100000 in
theorem cursor_Writer_U32.sound {a0 a1 : AVal} {G : Heap} {Q : AVal → Heap → Prop} (h : cursor_Writer_U32.S a0 a1 G Q) : ACalls P cursor_Writer_U32.n [a0, a1] G Q := by
  have e : cursor_Writer_U32.S a0 a1 G Q = awp cx (cursor_Writer_U32.body) cursor_Writer_U32.an (bodyQ T [] Q) (envL [a0, a1]) G := by kernel_rfl
  exact ACalls_of_awp cxOk (f := cursor_Writer_U32.n) (fn := Try.f34) (c := cursor_Writer_U32.body) (an := cursor_Writer_U32.an) Try.func34 (by kernel_rfl) (by kernel_rfl) (by kernel_rfl) (drawsOk_of (by kernel_rfl) (by kernel_rfl)) (by simp [Try.f34]) (e ▸ h)

end Go.Esc.M
