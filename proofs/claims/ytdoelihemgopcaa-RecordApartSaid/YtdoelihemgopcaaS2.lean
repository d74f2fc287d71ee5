/- Printed by gen.py (own work): functions of the program Ytdoelihemgopcaa over trees and the abstract heap. -/
import Derived.Test.YtdoelihemgopcaaT
set_option linter.unusedSimpArgs false
set_option linter.unusedVariables false
namespace Go.Esc.M
open Go Go.Esc Go.Proofs

/-! #### escrow/update.Next -/
def update_Next.S (a0 a1 a2 : AVal) (G : Heap) (Q : AVal → Heap → Prop) : Prop :=
  aNew G (.own (a2)) fun i1 G2 => wv (vlen T G2 t_sl_api_Update a0) fun v3 => wv (vbin T .geq t_int v3 (.int .i64 2048)) fun v4 => brB (some v4)
  (Q (.int .i64 6) G2)
  (wv (vload T G2 t_api_Update (.ptr i1 [] 0)) fun v5 => ACalls P update_Valid.n [v5] G2 fun v6 G7 => wv (vun .not v6) fun v8 => brB (some v8)
  (Q (.int .i64 120) G7)
  (wv (vload T G7 t_int (.ptr i1 [0] 0)) fun v9 => wv (vbin T .eql t_int v9 (.int .i64 1)) fun v10 => brB (some v10)
  (wv (vload T G7 t_int64 (.ptr i1 [1] 1)) fun v11 => ACalls P update_adds.n [a0] G7 fun v12 G13 => (vload T G13 t_int64 (.ptr i1 [1] 1) = some v11 ∧ True) ∧ (wv (vbin T .neq t_int64 v11 v12) fun v14 => brB (some v14)
  (Q (.int .i64 120) G13)
  (Q (.int .i64 0) G13)))
  (wv (vload T G7 t_int64 (.ptr i1 [1] 1)) fun v15 => ACalls P update_Find.n [a1, v15] G7 fun v16 G17 => wv (vextract v16 0) fun v18 => wv (vextract v16 1) fun v19 => aNew G17 (.own (z_api_Update)) fun i20 G21 => wg (vstore T G21 t_api_Update (.ptr i20 [] 0) v18) fun G22 => wv (vload T G22 t_int64 (.ptr i1 [1] 1)) fun v23 => ACalls P update_Removal.n [a0, v23] G22 fun v24 G25 => wv (vextract v24 0) fun v26 => wv (vextract v24 1) fun v27 => aNew G25 (.own (z_api_Update)) fun i28 G29 => wg (vstore T G29 t_api_Update (.ptr i28 [] 0) v26) fun G30 => wv (vun .not v19) fun v31 => brB (some v31)
  (Q (.int .i64 120) G30)
  (brB (some v27)
  (Q (.int .i64 120) G30)
  (wv (vload T G30 t_int (.ptr i1 [0] 0)) fun v32 => wv (vbin T .eql t_int v32 (.int .i64 2)) fun v33 => brB (some v33)
  (wv (vslice T t_api_Hash (.ptr i1 [3] 3) none none none) fun v34 => wv (vconv T G30 t_sl_uint8 t_string v34) fun v35 => wv (vload T G30 t_api_Hash (.ptr i20 [3] 3)) fun v36 => aBuildSlice T t_sl_string 1 [(0, v35)] G30 fun v37 G38 => ACalls P hash_Sum.n [v37] G38 fun v39 G40 => (vload T G40 t_api_Hash (.ptr i20 [3] 3) = some v36 ∧ True) ∧ (wv (vbin T .neq t_api_Hash v39 v36) fun v41 => brB (some v41)
  (Q (.int .i64 120) G40)
  (Q (.int .i64 0) G40)))
  (Q (.int .i64 0) G30))))))
def update_Next.an : Ann := .two (.nil) (.two (.nil) (.two (.nil) (.two (.two (.nil) (.two (.two (.two (.ord [(0, []), (1, []), (2, []), (3, [1]), (4, [])]) (.nil)) (.nil)) (.nil))) (.two (.nil) (.two (.nil) (.two (.two (.ord [(0, []), (1, []), (2, []), (3, []), (4, []), (5, []), (6, []), (7, []), (8, []), (9, []), (10, []), (11, []), (12, []), (15, []), (16, []), (13, []), (14, [16]), (17, []), (18, []), (19, [])]) (.nil)) (.nil)))))))
set_option maxRecDepth 100000 in
theorem update_Next.sound {a0 a1 a2 : AVal} {G : Heap} {Q : AVal → Heap → Prop} (h : update_Next.S a0 a1 a2 G Q) : ACalls P update_Next.n [a0, a1, a2] G Q := by
  have e : update_Next.S a0 a1 a2 G Q = awp cx (update_Next.body) update_Next.an (bodyQ T [.tmp 6] Q) (envL [a0, a1, a2]) G := by kernel_rfl
  exact ACalls_of_awp cxOk (f := update_Next.n) (fn := Try.f61) (c := update_Next.body) (an := update_Next.an) Try.func61 (by kernel_rfl) (by kernel_rfl) (by kernel_rfl) (drawsOk_of (by kernel_rfl) (by kernel_rfl)) (by simp [Try.f61]) (e ▸ h)

/-! #### (escrow/record.ours).apply -/
def record_ours_apply.S (a0 a1 : AVal) (G : Heap) (Q : AVal → Heap → Prop) : Prop :=
  aNew G (.own (a0)) fun i1 G2 => wv (vnil a1) fun v3 => wv (vfaddr T t_api_State v3 4) fun v4 => wv (vload T G2 t_sl_api_Update v4) fun v5 => wv (vnil a1) fun v6 => wv (vfaddr T t_api_State v6 5) fun v7 => wv (vload T G2 t_sl_api_Update v7) fun v8 => wv (vload T G2 t_api_Update (.ptr i1 [0] 0)) fun v9 => ACalls P update_Next.n [v5, v8, v9] G2 fun v10 G11 => wv (vbin T .neq t_api_Errno v10 (.int .i64 0)) fun v12 => brB (some v12)
  (Q (.bool false) G11)
  (wv (vnil a1) fun v13 => wv (vfaddr T t_api_State v13 4) fun v14 => wv (vload T G11 t_sl_api_Update v14) fun v15 => wv (vload T G11 t_api_Update (.ptr i1 [0] 0)) fun v16 => aBuildSlice T t_sl_api_Update 1 [(0, v16)] G11 fun v17 G18 => aAppend T G18 t_sl_api_Update t_sl_api_Update v15 v17 fun v19 G20 => wv (vnil a1) fun v21 => wv (vfaddr T t_api_State v21 4) fun v22 => wg (vstore T G20 t_sl_api_Update v22 v19) fun G23 => Q (.bool true) G23)
def record_ours_apply.an : Ann := .two (.nil) (.two (.two (.ord [(0, []), (1, []), (2, []), (3, []), (4, []), (5, []), (6, []), (7, []), (8, []), (9, []), (10, []), (11, [])]) (.nil)) (.two (.ord [(0, []), (1, []), (2, []), (3, []), (4, []), (5, []), (6, []), (7, []), (8, []), (9, []), (10, []), (11, [])]) (.nil)))
set_option maxRecDepth 100000 in
theorem record_ours_apply.sound {a0 a1 : AVal} {G : Heap} {Q : AVal → Heap → Prop} (h : record_ours_apply.S a0 a1 G Q) : ACalls P record_ours_apply.n [a0, a1] G Q := by
  have e : record_ours_apply.S a0 a1 G Q = awp cx (record_ours_apply.body) record_ours_apply.an (bodyQ T [.tmp 4] Q) (envL [a0, a1]) G := by kernel_rfl
  exact ACalls_of_awp cxOk (f := record_ours_apply.n) (fn := Try.f57) (c := record_ours_apply.body) (an := record_ours_apply.an) Try.func57 (by kernel_rfl) (by kernel_rfl) (by kernel_rfl) (drawsOk_of (by kernel_rfl) (by kernel_rfl)) (by simp [Try.f57]) (e ▸ h)

/-! #### (escrow/record.signed).apply -/
def record_signed_apply.S (a0 a1 : AVal) (G : Heap) (Q : AVal → Heap → Prop) : Prop :=
  aNew G (.own (a0)) fun i1 G2 => let J47 : AVal → Heap → Prop := (fun x35 G34 => brB (some x35)
  (Q (.bool false) G34)
  (wv (vload T G34 t_int64 (.ptr i1 [0] 0)) fun v36 => wv (vload T G34 t_api_Counts (.ptr i1 [1] 1)) fun v37 => wv (vnil a1) fun v38 => wv (vfaddr T t_api_State v38 7) fun v39 => wg (vstore T G34 t_int64 v39 v36) fun G40 => (vload T G40 t_api_Counts (.ptr i1 [1] 1) = some v37 ∧ True) ∧ (wv (vnil a1) fun v41 => wv (vfaddr T t_api_State v41 10) fun v42 => wg (vstore T G40 t_api_Counts v42 v37) fun G43 => wv (vnil a1) fun v44 => wv (vfaddr T t_api_State v44 12) fun v45 => wg (vstore T G43 t_bool v45 (.bool true)) fun G46 => Q (.bool true) G46)));
  wv (vnil a1) fun v3 => wv (vfaddr T t_api_State v3 7) fun v4 => wv (vload T G2 t_int64 v4) fun v5 => wv (vnil a1) fun v6 => wv (vfaddr T t_api_State v6 8) fun v7 => wv (vload T G2 t_int64 v7) fun v8 => wv (vbin T .neq t_int64 v5 v8) fun v9 => brB (some v9)
  (J47 (.bool true) G2)
  (wv (vload T G2 t_int64 (.ptr i1 [0] 0)) fun v10 => wv (vnil a1) fun v11 => wv (vfaddr T t_api_State v11 7) fun v12 => wv (vload T G2 t_int64 v12) fun v13 => wv (vbin T .add t_int64 v13 (.int .i64 1)) fun v14 => wv (vbin T .neq t_int64 v10 v14) fun v15 => brB (some v15)
  (J47 (.bool true) G2)
  (wv (vload T G2 t_int (.ptr i1 [1, 1] 2)) fun v16 => wv (vnil a1) fun v17 => wv (vfaddr T t_api_State v17 9) fun v18 => wv (vfaddr T t_api_Counts v18 1) fun v19 => wv (vload T G2 t_int v19) fun v20 => wv (vbin T .neq t_int v16 v20) fun v21 => brB (some v21)
  (J47 (.bool true) G2)
  (wv (vload T G2 t_int (.ptr i1 [1, 0] 1)) fun v22 => wv (vnil a1) fun v23 => wv (vfaddr T t_api_State v23 10) fun v24 => wv (vfaddr T t_api_Counts v24 0) fun v25 => wv (vload T G2 t_int v25) fun v26 => wv (vbin T .lss t_int v22 v26) fun v27 => brB (some v27)
  (J47 (.bool true) G2)
  (wv (vload T G2 t_int (.ptr i1 [1, 0] 1)) fun v28 => wv (vnil a1) fun v29 => wv (vfaddr T t_api_State v29 4) fun v30 => wv (vload T G2 t_sl_api_Update v30) fun v31 => wv (vlen T G2 t_sl_api_Update v31) fun v32 => wv (vbin T .gtr t_int v28 v32) fun v33 => J47 v33 G2))))
def record_signed_apply.an : Ann := .two (.nil) (.two (.two (.ord [(0, []), (1, []), (2, []), (3, []), (4, []), (5, []), (6, []), (7, []), (8, []), (9, []), (10, []), (11, []), (12, []), (13, []), (14, []), (15, []), (16, []), (17, []), (18, []), (19, []), (20, []), (21, []), (22, []), (23, []), (24, []), (25, []), (26, []), (27, []), (28, []), (29, []), (30, []), (31, []), (32, []), (33, []), (34, []), (35, []), (36, []), (37, []), (38, []), (39, []), (40, []), (41, []), (42, []), (43, []), (44, []), (45, []), (46, []), (47, []), (48, []), (49, []), (50, []), (51, [])]) (.nil)) (.two (.ord [(0, []), (1, []), (2, []), (3, []), (4, []), (5, []), (6, []), (7, []), (8, []), (9, [6]), (10, []), (11, []), (12, []), (13, []), (14, []), (15, [])]) (.nil)))
set_option maxRecDepth 100000 in
theorem record_signed_apply.sound {a0 a1 : AVal} {G : Heap} {Q : AVal → Heap → Prop} (h : record_signed_apply.S a0 a1 G Q) : ACalls P record_signed_apply.n [a0, a1] G Q := by
  have e : record_signed_apply.S a0 a1 G Q = awp cx (record_signed_apply.body) record_signed_apply.an (bodyQ T [.tmp 4] Q) (envL [a0, a1]) G := by kernel_rfl
  exact ACalls_of_awp cxOk (f := record_signed_apply.n) (fn := Try.f87) (c := record_signed_apply.body) (an := record_signed_apply.an) Try.func87 (by kernel_rfl) (by kernel_rfl) (by kernel_rfl) (drawsOk_of (by kernel_rfl) (by kernel_rfl)) (by simp [Try.f87]) (e ▸ h)

/-! #### (escrow/record.came).apply -/
def record_came_apply.S (a0 a1 : AVal) (G : Heap) (Q : AVal → Heap → Prop) : Prop :=
  aNew G (.own (a0)) fun i1 G2 => let J87 : AVal → Heap → Prop := (fun x24 G23 => brB (some x24)
  (Q (.bool false) G23)
  (wv (vnil a1) fun v25 => wv (vfaddr T t_api_State v25 5) fun v26 => wv (vload T G23 t_sl_api_Update v26) fun v27 => wv (vnil a1) fun v28 => wv (vfaddr T t_api_State v28 9) fun v29 => wv (vfaddr T t_api_Counts v29 1) fun v30 => wv (vload T G23 t_int v30) fun v31 => wv (vslice T t_sl_api_Update v27 none (some (v31)) none) fun v32 => wv (vload T G23 t_sl_api_Update (.ptr i1 [1] 1)) fun v33 => wv (vlen T G23 t_sl_api_Update v33) fun v34 => ∀ R35 : List AVal → Heap → Prop,
  (∀ (x37 x38 x39 x40 x41 x42 : AVal) (G36 : Heap), (wv (vbin T .lss t_int x42 x41) fun v43 => brB (some v43)
  (wv (viaddr T t_sl_api_Update x40 x42) fun v44 => wv (vload T G36 t_api_Update v44) fun v45 => aNew G36 (.own (z_api_Update)) fun i46 G47 => wg (vstore T G47 t_api_Update (.ptr i46 [] 0) v45) fun G48 => wv (vnil x37) fun v49 => wv (vfaddr T t_api_State v49 4) fun v50 => wv (vload T G48 t_sl_api_Update v50) fun v51 => wv (vload T G48 t_api_Update (.ptr i46 [] 0)) fun v52 => ACalls P update_Next.n [x39, v51, v52] G48 fun v53 G54 => wv (vbin T .neq t_api_Errno v53 (.int .i64 0)) fun v55 => brB (some v55)
  (Q (.bool false) G54)
  (wv (vload T G54 t_api_Update (.ptr i46 [] 0)) fun v56 => aBuildSlice T t_sl_api_Update 1 [(0, v56)] G54 fun v57 G58 => aAppend T G58 t_sl_api_Update t_sl_api_Update x39 v57 fun v59 G60 => wv (vbin T .add t_int x42 (.int .i64 1)) fun v61 => R35 [x37, x38, v59, x40, x41, v61] G60))
  (wv (vfaddr T t_record_came x38 0) fun v62 => wv (vload T G36 t_int64 v62) fun v63 => wv (vfaddr T t_record_came x38 2) fun v64 => wv (vload T G36 t_api_Hash v64) fun v65 => wv (vnil x37) fun v66 => wv (vfaddr T t_api_State v66 5) fun v67 => wg (vstore T G36 t_sl_api_Update v67 x39) fun G68 => (vload T G68 t_api_Hash v64 = some v65 ∧ vload T G68 t_int64 v62 = some v63 ∧ True) ∧ (wv (vnil x37) fun v69 => wv (vfaddr T t_api_State v69 6) fun v70 => wg (vstore T G68 t_int64 v70 v63) fun G71 => (vload T G71 t_api_Hash v64 = some v65 ∧ True) ∧ (wv (vnil x37) fun v72 => wv (vfaddr T t_api_State v72 14) fun v73 => wg (vstore T G71 t_api_Hash v73 v65) fun G74 => wv (vnil x37) fun v75 => wv (vfaddr T t_api_State v75 12) fun v76 => wg (vstore T G74 t_bool v76 (.bool false)) fun G77 => wv (vnil x37) fun v78 => wv (vfaddr T t_api_State v78 11) fun v79 => wv (vfaddr T t_api_Counts v79 0) fun v80 => wv (vload T G77 t_int v80) fun v81 => wv (vlen T G77 t_sl_api_Update x39) fun v82 => wv (vbuild T t_api_Counts [(0, v81), (1, v82)]) fun v83 => wv (vnil x37) fun v84 => wv (vfaddr T t_api_State v84 9) fun v85 => wg (vstore T G77 t_api_Counts v85 v83) fun G86 => Q (.bool true) G86)))) → R35 [x37, x38, x39, x40, x41, x42] G36) →
  R35 [a1, .ptr i1 [] 0, v32, v33, v34, .int .i64 0] G23));
  wv (vload T G2 t_int64 (.ptr i1 [0] 0)) fun v3 => wv (vnil a1) fun v4 => wv (vfaddr T t_api_State v4 6) fun v5 => wv (vload T G2 t_int64 v5) fun v6 => wv (vbin T .add t_int64 v6 (.int .i64 1)) fun v7 => wv (vbin T .neq t_int64 v3 v7) fun v8 => brB (some v8)
  (J87 (.bool true) G2)
  (wv (vnil a1) fun v9 => wv (vfaddr T t_api_State v9 9) fun v10 => wv (vfaddr T t_api_Counts v10 1) fun v11 => wv (vload T G2 t_int v11) fun v12 => wv (vbin T .lss t_int v12 (.int .i64 0)) fun v13 => brB (some v13)
  (J87 (.bool true) G2)
  (wv (vnil a1) fun v14 => wv (vfaddr T t_api_State v14 9) fun v15 => wv (vfaddr T t_api_Counts v15 1) fun v16 => wv (vload T G2 t_int v16) fun v17 => wv (vnil a1) fun v18 => wv (vfaddr T t_api_State v18 5) fun v19 => wv (vload T G2 t_sl_api_Update v19) fun v20 => wv (vlen T G2 t_sl_api_Update v20) fun v21 => wv (vbin T .gtr t_int v17 v21) fun v22 => J87 v22 G2))
def record_came_apply.an : Ann := .two (.nil) (.two (.two (.ord [(0, []), (1, []), (2, []), (3, []), (4, []), (5, []), (6, []), (7, []), (8, []), (9, []), (10, []), (11, []), (12, []), (13, []), (14, []), (15, []), (16, []), (17, []), (18, []), (19, []), (20, []), (21, []), (22, []), (23, []), (24, []), (25, []), (26, []), (27, []), (28, [])]) (.nil)) (.two (.ord [(0, []), (1, []), (2, []), (3, []), (4, []), (5, []), (6, []), (7, []), (8, []), (9, []), (10, [])]) (.two (.two (.nil) (.loop [1, 2, 5, 48, 49, 50] [false, false, false, false, false, false] (.two (.nil) (.two (.nil) (.two (.two (.nil) (.two (.two (.ord [(0, []), (1, []), (2, []), (3, []), (4, []), (5, []), (6, []), (7, [])]) (.nil)) (.nil))) (.nil)))))) (.two (.ord [(0, []), (1, []), (2, []), (3, []), (4, []), (5, []), (6, []), (7, []), (8, []), (9, []), (10, []), (11, [6, 8]), (12, []), (13, []), (14, [8]), (15, []), (16, []), (17, []), (18, []), (19, []), (20, [])]) (.nil)))))
set_option maxRecDepth 100000 in
theorem record_came_apply.sound {a0 a1 : AVal} {G : Heap} {Q : AVal → Heap → Prop} (h : record_came_apply.S a0 a1 G Q) : ACalls P record_came_apply.n [a0, a1] G Q := by
  have e : record_came_apply.S a0 a1 G Q = awp cx (record_came_apply.body) record_came_apply.an (bodyQ T [.tmp 4] Q) (envL [a0, a1]) G := by kernel_rfl
  exact ACalls_of_awp cxOk (f := record_came_apply.n) (fn := Try.f93) (c := record_came_apply.body) (an := record_came_apply.an) Try.func93 (by kernel_rfl) (by kernel_rfl) (by kernel_rfl) (drawsOk_of (by kernel_rfl) (by kernel_rfl)) (by simp [Try.f93]) (e ▸ h)

/-! #### escrow/seed.right -/
def seed_right.S (a0 : AVal) (G : Heap) (Q : AVal → Heap → Prop) : Prop :=
  wv (vbin T .geq t_int64 a0 (.int .i64 0)) fun v1 => brB (some v1)
  (wv (vbin T .leq t_int64 a0 (.int .i64 281474976710655)) fun v2 => Q v2 G)
  (Q (.bool false) G)
def seed_right.an : Ann := .nil
set_option maxRecDepth 100000 in
theorem seed_right.sound {a0 : AVal} {G : Heap} {Q : AVal → Heap → Prop} (h : seed_right.S a0 G Q) : ACalls P seed_right.n [a0] G Q := by
  have e : seed_right.S a0 G Q = awp cx (seed_right.body) seed_right.an (bodyQ T [.tmp 2] Q) (envL [a0]) G := by kernel_rfl
  exact ACalls_of_awp cxOk (f := seed_right.n) (fn := Try.f107) (c := seed_right.body) (an := seed_right.an) Try.func107 (by kernel_rfl) (by kernel_rfl) (by kernel_rfl) (drawsOk_of (by kernel_rfl) (by kernel_rfl)) (by simp [Try.f107]) (e ▸ h)

/-! #### math/bits.TrailingZeros64 -/
def bits_TrailingZeros64.S (a0 : AVal) (G : Heap) (Q : AVal → Heap → Prop) : Prop :=
  wv (vbin T .eql t_uint64 a0 (.int .u64 0)) fun v1 => brB (some v1)
  (Q (.int .i64 64) G)
  (wv (vun .neg a0) fun v2 => wv (vbin T .and t_uint64 a0 v2) fun v3 => wv (vbin T .mul t_uint64 v3 (.int .u64 285870213051353865)) fun v4 => wv (vbin T .shr t_uint64 v4 (.int .u64 58)) fun v5 => wv (viaddr T t_ar64_uint8 (.ptr ⟨1, 0, 0⟩ [] 0) v5) fun v6 => wv (vload T G t_uint8 v6) fun v7 => wv (vconv T G t_uint8 t_int v7) fun v8 => Q v8 G)
def bits_TrailingZeros64.an : Ann := .nil
set_option maxRecDepth 100000 in
theorem bits_TrailingZeros64.sound {a0 : AVal} {G : Heap} {Q : AVal → Heap → Prop} (h : bits_TrailingZeros64.S a0 G Q) : ACalls P bits_TrailingZeros64.n [a0] G Q := by
  have e : bits_TrailingZeros64.S a0 G Q = awp cx (bits_TrailingZeros64.body) bits_TrailingZeros64.an (bodyQ T [.tmp 2] Q) (envL [a0]) G := by kernel_rfl
  exact ACalls_of_awp cxOk (f := bits_TrailingZeros64.n) (fn := Try.f108) (c := bits_TrailingZeros64.body) (an := bits_TrailingZeros64.an) Try.func108 (by kernel_rfl) (by kernel_rfl) (by kernel_rfl) (drawsOk_of (by kernel_rfl) (by kernel_rfl)) (by simp [Try.f108]) (e ▸ h)

/-! #### escrow/seed.place -/
def seed_place.S (a0 : AVal) (G : Heap) (Q : AVal → Heap → Prop) : Prop :=
  wv (vbin T .sub t_int64 (.int .i64 281474976710655) a0) fun v1 => Q v1 G
def seed_place.an : Ann := .nil
set_option maxRecDepth 100000 in
theorem seed_place.sound {a0 : AVal} {G : Heap} {Q : AVal → Heap → Prop} (h : seed_place.S a0 G Q) : ACalls P seed_place.n [a0] G Q := by
  have e : seed_place.S a0 G Q = awp cx (seed_place.body) seed_place.an (bodyQ T [.tmp 2] Q) (envL [a0]) G := by kernel_rfl
  exact ACalls_of_awp cxOk (f := seed_place.n) (fn := Try.f109) (c := seed_place.body) (an := seed_place.an) Try.func109 (by kernel_rfl) (by kernel_rfl) (by kernel_rfl) (drawsOk_of (by kernel_rfl) (by kernel_rfl)) (by simp [Try.f109]) (e ▸ h)

/-! #### escrow/seed.Level -/
def seed_Level.S (a0 : AVal) (G : Heap) (Q : AVal → Heap → Prop) : Prop :=
  ACalls P seed_right.n [a0] G fun v1 G2 => wv (vun .not v1) fun v3 => brB (some v3)
  (Q (.tuple [.int .i64 0, .int .i64 90]) G2)
  (ACalls P seed_place.n [a0] G2 fun v4 G5 => wv (vconv T G5 t_int64 t_uint64 v4) fun v6 => ACalls P bits_TrailingZeros64.n [v6] G5 fun v7 G8 => wv (vmin2 (.int .i64 48) v7) fun v9 => Q (.tuple [v9, .int .i64 0]) G8)
def seed_Level.an : Ann := .nil
set_option maxRecDepth 100000 in
theorem seed_Level.sound {a0 : AVal} {G : Heap} {Q : AVal → Heap → Prop} (h : seed_Level.S a0 G Q) : ACalls P seed_Level.n [a0] G Q := by
  have e : seed_Level.S a0 G Q = awp cx (seed_Level.body) seed_Level.an (bodyQ T [.tmp 2, .tmp 3] Q) (envL [a0]) G := by kernel_rfl
  exact ACalls_of_awp cxOk (f := seed_Level.n) (fn := Try.f105) (c := seed_Level.body) (an := seed_Level.an) Try.func105 (by kernel_rfl) (by kernel_rfl) (by kernel_rfl) (drawsOk_of (by kernel_rfl) (by kernel_rfl)) (by simp [Try.f105]) (e ▸ h)

/-! #### escrow/seed.Point -/
def seed_Point.S (a0 : AVal) (G : Heap) (Q : AVal → Heap → Prop) : Prop :=
  aNew G (.own (a0)) fun i1 G2 => aNew G2 (.own (z_api_Hash)) fun i3 G4 => wv (vslice T t_api_Hash (.ptr i1 [] 0) none none none) fun v5 => wv (vconv T G4 t_sl_uint8 t_string v5) fun v6 => aBuildSlice T t_sl_string 1 [(0, v6)] G4 fun v7 G8 => ACalls P hash_Sum.n [v7] G8 fun v9 G10 => wg (vstore T G10 t_api_Hash (.ptr i3 [] 0) v9) fun G11 => wv (vload T G11 t_api_Hash (.ptr i3 [] 0)) fun v12 => Q v12 G11
def seed_Point.an : Ann := .nil
set_option maxRecDepth 100000 in
theorem seed_Point.sound {a0 : AVal} {G : Heap} {Q : AVal → Heap → Prop} (h : seed_Point.S a0 G Q) : ACalls P seed_Point.n [a0] G Q := by
  have e : seed_Point.S a0 G Q = awp cx (seed_Point.body) seed_Point.an (bodyQ T [.cell 2 28] Q) (envL [a0]) G := by kernel_rfl
  exact ACalls_of_awp cxOk (f := seed_Point.n) (fn := Try.f111) (c := seed_Point.body) (an := seed_Point.an) Try.func111 (by kernel_rfl) (by kernel_rfl) (by kernel_rfl) (drawsOk_of (by kernel_rfl) (by kernel_rfl)) (by simp [Try.f111]) (e ▸ h)

/-! #### escrow/seed.down -/
def seed_down.S (a0 a1 a2 : AVal) (G : Heap) (Q : AVal → Heap → Prop) : Prop :=
  aNew G (.own (a0)) fun i1 G2 => aNew G2 (.own (z_api_Hash)) fun i3 G4 => ∀ R5 : List AVal → Heap → Prop,
  (∀ (x7 x8 x9 x10 x11 x12 : AVal) (G6 : Heap), (wv (vbin T .lss t_int x12 x11) fun v13 => brB (some v13)
  (wv (vbin T .sub t_int x8 (.int .i64 1)) fun v14 => wv (vbin T .sub t_int v14 x12) fun v15 => wv (vbin T .shr t_int64 x7 v15) fun v16 => wv (vbin T .and t_int64 v16 (.int .i64 1)) fun v17 => wv (vbin T .eql t_int64 v17 (.int .i64 1)) fun v18 => brB (some v18)
  (wv (vbin T .quo t_int v15 (.int .i64 8)) fun v19 => wv (viaddr T t_api_Hash x9 v19) fun v20 => wv (vload T G6 t_uint8 v20) fun v21 => wv (vbin T .rem t_int v15 (.int .i64 8)) fun v22 => wv (vbin T .shl t_uint8 (.int .u8 1) v22) fun v23 => wv (vbin T .xor t_uint8 v21 v23) fun v24 => wv (viaddr T t_api_Hash x9 v19) fun v25 => wg (vstore T G6 t_uint8 v25 v24) fun G26 => wv (vload T G26 t_api_Hash x9) fun v27 => ACalls P seed_Point.n [v27] G26 fun v28 G29 => wg (vstore T G29 t_api_Hash x9 v28) fun G30 => wv (vbin T .add t_int x12 (.int .i64 1)) fun v34 => R5 [x7, x8, x9, x10, x11, v34] G30)
  (wv (vbin T .add t_int x12 (.int .i64 1)) fun v35 => R5 [x7, x8, x9, x10, x11, v35] G6))
  (wv (vload T G6 t_api_Hash x9) fun v36 => wg (vstore T G6 t_api_Hash x10 v36) fun G37 => wv (vload T G37 t_api_Hash x10) fun v38 => Q v38 G37)) → R5 [x7, x8, x9, x10, x11, x12] G6) →
  R5 [a1, a2, .ptr i1 [] 0, .ptr i3 [] 0, a2, .int .i64 0] G4
def seed_down.an : Ann := .two (.nil) (.two (.two (.nil) (.loop [1, 2, 3, 6, 9, 10] [false, false, false, false, false, false] (.two (.nil) (.two (.nil) (.two (.two (.nil) (.two (.nil) (.two (.nil) (.two (.two (.ord [(0, []), (1, []), (2, []), (3, []), (4, []), (5, []), (6, []), (7, []), (8, []), (9, [])]) (.nil)) (.nil))))) (.nil)))))) (.nil))
set_option maxRecDepth 100000 in
theorem seed_down.sound {a0 a1 a2 : AVal} {G : Heap} {Q : AVal → Heap → Prop} (h : seed_down.S a0 a1 a2 G Q) : ACalls P seed_down.n [a0, a1, a2] G Q := by
  have e : seed_down.S a0 a1 a2 G Q = awp cx (seed_down.body) seed_down.an (bodyQ T [.cell 6 28] Q) (envL [a0, a1, a2]) G := by kernel_rfl
  exact ACalls_of_awp cxOk (f := seed_down.n) (fn := Try.f110) (c := seed_down.body) (an := seed_down.an) Try.func110 (by kernel_rfl) (by kernel_rfl) (by kernel_rfl) (drawsOk_of (by kernel_rfl) (by kernel_rfl)) (by simp [Try.f110]) (e ▸ h)

/-! #### escrow/seed.Derive -/
def seed_Derive.S (a0 a1 a2 : AVal) (G : Heap) (Q : AVal → Heap → Prop) : Prop :=
  aNew G (.own (a0)) fun i1 G2 => aNew G2 (.own (z_api_Hash)) fun i3 G4 => ACalls P seed_Level.n [a1] G4 fun v5 G6 => wv (vextract v5 0) fun v7 => wv (vextract v5 1) fun v8 => let J28 : AVal → Heap → Prop := (fun x14 G13 => brB (some x14)
  (wv (vbuild T t_api_Hash []) fun v15 => wg (vstore T G13 t_api_Hash (.ptr i3 [] 0) v15) fun G16 => wv (vload T G16 t_api_Hash (.ptr i3 [] 0)) fun v17 => Q (.tuple [v17, .int .i64 90]) G16)
  (ACalls P seed_place.n [a1] G13 fun v18 G19 => wv (vbin T .shr t_int64 v18 v7) fun v20 => ACalls P seed_place.n [a2] G19 fun v21 G22 => wv (vbin T .shr t_int64 v21 v7) fun v23 => wv (vbin T .neq t_int64 v20 v23) fun v24 => brB (some v24)
  (wv (vbuild T t_api_Hash []) fun v25 => wg (vstore T G22 t_api_Hash (.ptr i3 [] 0) v25) fun G26 => wv (vload T G26 t_api_Hash (.ptr i3 [] 0)) fun v27 => Q (.tuple [v27, .int .i64 5]) G26)
  (wv (vload T G22 t_api_Hash (.ptr i1 [] 0)) fun v29 => ACalls P seed_place.n [a2] G22 fun v30 G31 => (vload T G31 t_api_Hash (.ptr i1 [] 0) = some v29 ∧ True) ∧ (ACalls P seed_down.n [v29, v30, v7] G31 fun v32 G33 => wg (vstore T G33 t_api_Hash (.ptr i3 [] 0) v32) fun G34 => wv (vload T G34 t_api_Hash (.ptr i3 [] 0)) fun v35 => Q (.tuple [v35, .int .i64 0]) G34))));
  wv (vbin T .neq t_api_Errno v8 (.int .i64 0)) fun v9 => brB (some v9)
  (J28 (.bool true) G6)
  (ACalls P seed_right.n [a2] G6 fun v10 G11 => wv (vun .not v10) fun v12 => J28 v12 G11)
def seed_Derive.an : Ann := .two (.nil) (.two (.nil) (.two (.two (.nil) (.two (.nil) (.two (.ord [(0, []), (2, []), (4, []), (6, []), (1, []), (3, []), (5, []), (7, []), (8, []), (9, [])]) (.nil)))) (.two (.ord [(0, []), (1, []), (3, []), (2, [0]), (4, []), (5, []), (6, [])]) (.nil))))
set_option maxRecDepth 100000 in
theorem seed_Derive.sound {a0 a1 a2 : AVal} {G : Heap} {Q : AVal → Heap → Prop} (h : seed_Derive.S a0 a1 a2 G Q) : ACalls P seed_Derive.n [a0, a1, a2] G Q := by
  have e : seed_Derive.S a0 a1 a2 G Q = awp cx (seed_Derive.body) seed_Derive.an (bodyQ T [.cell 6 28, .tmp 7] Q) (envL [a0, a1, a2]) G := by kernel_rfl
  exact ACalls_of_awp cxOk (f := seed_Derive.n) (fn := Try.f106) (c := seed_Derive.body) (an := seed_Derive.an) Try.func106 (by kernel_rfl) (by kernel_rfl) (by kernel_rfl) (drawsOk_of (by kernel_rfl) (by kernel_rfl)) (by simp [Try.f106]) (e ▸ h)

/-! #### escrow/shelf.Put -/
def shelf_Put.S (a0 a1 a2 : AVal) (G : Heap) (Q : AVal → Heap → Prop) : Prop :=
  aNew G (.own (a2)) fun i1 G2 => wv (vlen T G2 t_sl_api_Slot a0) fun v3 => wv (vbin T .gtr t_int v3 (.int .i64 49)) fun v4 => brB (some v4)
  (Q (.tuple [.nilSlice, .int .i64 1]) G2)
  (ACalls P seed_Level.n [a1] G2 fun v5 G6 => wv (vextract v5 0) fun v7 => wv (vextract v5 1) fun v8 => wv (vbin T .neq t_api_Errno v8 (.int .i64 0)) fun v9 => brB (some v9)
  (Q (.tuple [.nilSlice, .int .i64 90]) G6)
  (aMakeSlice T t_sl_api_Slot (.int .i64 49) (.int .i64 49) G6 fun v10 G11 => wv (vlen T G11 t_sl_api_Slot a0) fun v12 => ∀ R13 : List AVal → Heap → Prop,
  (∀ (x15 x16 x17 x18 x19 x20 x21 : AVal) (G14 : Heap), (wv (vbin T .lss t_int x21 x20) fun v22 => brB (some v22)
  (wv (viaddr T t_sl_api_Slot x15 x21) fun v23 => wv (vfaddr T t_api_Slot v23 2) fun v24 => wv (vload T G14 t_bool v24) fun v25 => wv (vun .not v25) fun v26 => brB (some v26)
  (wv (vbin T .add t_int x21 (.int .i64 1)) fun v53 => R13 [x15, x16, x17, x18, x19, x20, v53] G14)
  (wv (viaddr T t_sl_api_Slot x15 x21) fun v27 => wv (vload T G14 t_api_Slot v27) fun v28 => wv (viaddr T t_sl_api_Slot x19 x21) fun v29 => wg (vstore T G14 t_api_Slot v29 v28) fun G30 => wv (vbin T .geq t_int x21 x18) fun v31 => brB (some v31)
  (wv (vbin T .add t_int x21 (.int .i64 1)) fun v54 => R13 [x15, x16, x17, x18, x19, x20, v54] G30)
  (wv (vload T G30 t_api_Hash x17) fun v32 => wv (viaddr T t_sl_api_Slot x15 x21) fun v33 => wv (vfaddr T t_api_Slot v33 0) fun v34 => wv (vload T G30 t_int64 v34) fun v35 => ACalls P seed_Derive.n [v32, x16, v35] G30 fun v36 G37 => wv (vextract v36 0) fun v38 => wv (vextract v36 1) fun v39 => aNew G37 (.own (z_api_Hash)) fun i40 G41 => wg (vstore T G41 t_api_Hash (.ptr i40 [] 0) v38) fun G42 => wv (vbin T .neq t_api_Errno v39 (.int .i64 0)) fun v43 => brB (some v43)
  (Q (.tuple [.nilSlice, .int .i64 100]) G42)
  (wv (vload T G42 t_api_Hash (.ptr i40 [] 0)) fun v44 => wv (viaddr T t_sl_api_Slot x15 x21) fun v45 => wv (vfaddr T t_api_Slot v45 1) fun v46 => wv (vload T G42 t_api_Hash v46) fun v47 => wv (vbin T .neq t_api_Hash v44 v47) fun v48 => brB (some v48)
  (Q (.tuple [.nilSlice, .int .i64 100]) G42)
  (wv (vbin T .add t_int x21 (.int .i64 1)) fun v55 => R13 [x15, x16, x17, x18, x19, x20, v55] G42)))))
  (wv (vload T G14 t_api_Hash x17) fun v56 => wv (vbuild T t_api_Slot [(0, x16), (1, v56), (2, .bool true)]) fun v57 => wv (viaddr T t_sl_api_Slot x19 x18) fun v58 => wg (vstore T G14 t_api_Slot v58 v57) fun G59 => Q (.tuple [x19, .int .i64 0]) G59)) → R13 [x15, x16, x17, x18, x19, x20, x21] G14) →
  R13 [a0, a1, .ptr i1 [] 0, v7, v10, v12, .int .i64 0] G11))
def shelf_Put.an : Ann := .two (.nil) (.two (.nil) (.two (.nil) (.two (.nil) (.two (.nil) (.two (.two (.nil) (.loop [0, 1, 5, 8, 10, 26, 27] [false, false, false, false, false, false, false] (.two (.nil) (.two (.nil) (.two (.two (.nil) (.two (.nil) (.two (.nil) (.two (.nil) (.two (.ord [(0, []), (1, []), (2, []), (3, []), (4, []), (5, []), (6, []), (7, []), (8, []), (9, []), (10, []), (11, []), (12, []), (13, [])]) (.two (.ord [(0, []), (1, []), (2, []), (3, []), (4, []), (5, []), (6, []), (7, []), (8, []), (9, []), (10, [])]) (.nil))))))) (.nil)))))) (.nil))))))
set_option maxRecDepth 100000 in
theorem shelf_Put.sound {a0 a1 a2 : AVal} {G : Heap} {Q : AVal → Heap → Prop} (h : shelf_Put.S a0 a1 a2 G Q) : ACalls P shelf_Put.n [a0, a1, a2] G Q := by
  have e : shelf_Put.S a0 a1 a2 G Q = awp cx (shelf_Put.body) shelf_Put.an (bodyQ T [.tmp 6, .tmp 7] Q) (envL [a0, a1, a2]) G := by kernel_rfl
  exact ACalls_of_awp cxOk (f := shelf_Put.n) (fn := Try.f104) (c := shelf_Put.body) (an := shelf_Put.an) Try.func104 (by kernel_rfl) (by kernel_rfl) (by kernel_rfl) (drawsOk_of (by kernel_rfl) (by kernel_rfl)) (by simp [Try.f104]) (e ▸ h)

/-! #### (escrow/record.revoked).apply -/
def record_revoked_apply.S (a0 a1 : AVal) (G : Heap) (Q : AVal → Heap → Prop) : Prop :=
  aNew G (.own (a0)) fun i1 G2 => let J53 : AVal → Heap → Prop := (fun x17 G16 => brB (some x17)
  (Q (.bool false) G16)
  (wv (vnil a1) fun v18 => wv (vfaddr T t_api_State v18 15) fun v19 => wv (vload T G16 t_sl_api_Slot v19) fun v20 => wv (vload T G16 t_int64 (.ptr i1 [0] 0)) fun v21 => wv (vload T G16 t_api_Hash (.ptr i1 [1] 1)) fun v22 => ACalls P shelf_Put.n [v20, v21, v22] G16 fun v23 G24 => wv (vextract v23 0) fun v25 => wv (vextract v23 1) fun v26 => wv (vbin T .neq t_api_Errno v26 (.int .i64 0)) fun v27 => brB (some v27)
  (Q (.bool false) G24)
  (wv (vnil a1) fun v28 => wv (vfaddr T t_api_State v28 8) fun v29 => wv (vload T G24 t_int64 v29) fun v30 => wv (vbin T .add t_int64 v30 (.int .i64 1)) fun v31 => wv (vnil a1) fun v32 => wv (vfaddr T t_api_State v32 10) fun v33 => wv (vload T G24 t_api_Counts v33) fun v34 => wv (vnil a1) fun v35 => wv (vfaddr T t_api_State v35 15) fun v36 => wg (vstore T G24 t_sl_api_Slot v36 v25) fun G37 => wv (vnil a1) fun v38 => wv (vfaddr T t_api_State v38 8) fun v39 => wg (vstore T G37 t_int64 v39 v31) fun G40 => wv (vnil a1) fun v41 => wv (vfaddr T t_api_State v41 11) fun v42 => wg (vstore T G40 t_api_Counts v42 v34) fun G43 => wv (vnil a1) fun v44 => wv (vfaddr T t_api_State v44 13) fun v45 => wv (viaddr T t_ar2_api_Hash v45 (.int .i64 1)) fun v46 => wv (vload T G43 t_api_Hash v46) fun v47 => wv (vload T G43 t_api_Hash (.ptr i1 [2] 33)) fun v48 => wv (vbuild T t_ar2_api_Hash [(0, v47), (1, v48)]) fun v49 => wv (vnil a1) fun v50 => wv (vfaddr T t_api_State v50 13) fun v51 => wg (vstore T G43 t_ar2_api_Hash v51 v49) fun G52 => Q (.bool true) G52)));
  wv (vnil a1) fun v3 => wv (vfaddr T t_api_State v3 7) fun v4 => wv (vload T G2 t_int64 v4) fun v5 => wv (vnil a1) fun v6 => wv (vfaddr T t_api_State v6 8) fun v7 => wv (vload T G2 t_int64 v7) fun v8 => wv (vbin T .add t_int64 v8 (.int .i64 1)) fun v9 => wv (vbin T .neq t_int64 v5 v9) fun v10 => brB (some v10)
  (J53 (.bool true) G2)
  (wv (vload T G2 t_int64 (.ptr i1 [0] 0)) fun v11 => wv (vnil a1) fun v12 => wv (vfaddr T t_api_State v12 8) fun v13 => wv (vload T G2 t_int64 v13) fun v14 => wv (vbin T .neq t_int64 v11 v14) fun v15 => J53 v15 G2)
def record_revoked_apply.an : Ann := .two (.nil) (.two (.two (.ord [(0, []), (1, []), (2, []), (3, []), (4, []), (5, []), (6, []), (7, []), (8, []), (9, []), (10, []), (11, []), (12, []), (13, []), (14, []), (15, []), (16, []), (17, []), (18, [])]) (.nil)) (.two (.ord [(0, []), (1, []), (2, []), (3, []), (4, []), (5, []), (6, []), (7, []), (8, []), (9, []), (10, []), (11, []), (12, []), (13, [])]) (.two (.nil) (.two (.ord [(0, []), (1, []), (2, []), (3, []), (4, []), (5, []), (6, []), (7, []), (8, []), (9, []), (10, []), (11, []), (12, []), (13, []), (14, []), (15, []), (16, []), (17, []), (18, []), (19, []), (20, []), (21, [])]) (.two (.ord [(0, []), (1, []), (2, []), (3, []), (4, []), (5, []), (6, []), (7, []), (8, []), (9, []), (10, []), (11, [])]) (.nil))))))
set_option maxRecDepth 100000 in
theorem record_revoked_apply.sound {a0 a1 : AVal} {G : Heap} {Q : AVal → Heap → Prop} (h : record_revoked_apply.S a0 a1 G Q) : ACalls P record_revoked_apply.n [a0, a1] G Q := by
  have e : record_revoked_apply.S a0 a1 G Q = awp cx (record_revoked_apply.body) record_revoked_apply.an (bodyQ T [.tmp 4] Q) (envL [a0, a1]) G := by kernel_rfl
  exact ACalls_of_awp cxOk (f := record_revoked_apply.n) (fn := Try.f100) (c := record_revoked_apply.body) (an := record_revoked_apply.an) Try.func100 (by kernel_rfl) (by kernel_rfl) (by kernel_rfl) (drawsOk_of (by kernel_rfl) (by kernel_rfl)) (by simp [Try.f100]) (e ▸ h)

/-! #### (escrow/record.failed).apply -/
def record_failed_apply.S (a0 a1 : AVal) (G : Heap) (Q : AVal → Heap → Prop) : Prop :=
  aNew G (.own (a0)) fun i1 G2 => wv (vnil a1) fun v3 => wv (vfaddr T t_api_State v3 16) fun v4 => wv (vload T G2 t_int v4) fun v5 => wv (vbin T .eql t_int v5 (.int .i64 0)) fun v6 => brB (some v6)
  (wv (vload T G2 t_int (.ptr i1 [0] 0)) fun v7 => wv (vnil a1) fun v8 => wv (vfaddr T t_api_State v8 16) fun v9 => wg (vstore T G2 t_int v9 v7) fun G10 => Q (.bool true) G10)
  (Q (.bool true) G2)
def record_failed_apply.an : Ann := .nil
set_option maxRecDepth 100000 in
theorem record_failed_apply.sound {a0 a1 : AVal} {G : Heap} {Q : AVal → Heap → Prop} (h : record_failed_apply.S a0 a1 G Q) : ACalls P record_failed_apply.n [a0, a1] G Q := by
  have e : record_failed_apply.S a0 a1 G Q = awp cx (record_failed_apply.body) record_failed_apply.an (bodyQ T [.tmp 4] Q) (envL [a0, a1]) G := by kernel_rfl
  exact ACalls_of_awp cxOk (f := record_failed_apply.n) (fn := Try.f112) (c := record_failed_apply.body) (an := record_failed_apply.an) Try.func112 (by kernel_rfl) (by kernel_rfl) (by kernel_rfl) (drawsOk_of (by kernel_rfl) (by kernel_rfl)) (by simp [Try.f112]) (e ▸ h)

/-! #### (escrow/record.closed).apply -/
def record_closed_apply.S (a0 a1 : AVal) (G : Heap) (Q : AVal → Heap → Prop) : Prop :=
  aNew G (.own (a0)) fun i1 G2 => wv (vload T G2 t_int64 (.ptr i1 [0] 0)) fun v3 => wv (vnil a1) fun v4 => wv (vfaddr T t_api_State v4 6) fun v5 => wv (vload T G2 t_int64 v5) fun v6 => wv (vbin T .neq t_int64 v3 v6) fun v7 => brB (some v7)
  (Q (.bool false) G2)
  (wv (vload T G2 t_int64 (.ptr i1 [0] 0)) fun v8 => wv (vnil a1) fun v9 => wv (vfaddr T t_api_State v9 17) fun v10 => wg (vstore T G2 t_int64 v10 v8) fun G11 => Q (.bool true) G11)
def record_closed_apply.an : Ann := .two (.nil) (.two (.two (.ord [(0, []), (1, []), (2, []), (3, []), (4, []), (5, []), (6, [])]) (.nil)) (.nil))
set_option maxRecDepth 100000 in
theorem record_closed_apply.sound {a0 a1 : AVal} {G : Heap} {Q : AVal → Heap → Prop} (h : record_closed_apply.S a0 a1 G Q) : ACalls P record_closed_apply.n [a0, a1] G Q := by
  have e : record_closed_apply.S a0 a1 G Q = awp cx (record_closed_apply.body) record_closed_apply.an (bodyQ T [.tmp 4] Q) (envL [a0, a1]) G := by kernel_rfl
  exact ACalls_of_awp cxOk (f := record_closed_apply.n) (fn := Try.f116) (c := record_closed_apply.body) (an := record_closed_apply.an) Try.func116 (by kernel_rfl) (by kernel_rfl) (by kernel_rfl) (drawsOk_of (by kernel_rfl) (by kernel_rfl)) (by simp [Try.f116]) (e ▸ h)

/-! #### escrow/record.Apply -/
def record_Apply.S (a0 a1 : AVal) (G : Heap) (Q : AVal → Heap → Prop) : Prop :=
  aNew G (.own (a0)) fun i1 G2 => aNew G2 (.own (a1)) fun i3 G4 => aNew G4 (.own (z_api_State)) fun i5 G6 => wv (vload T G6 t_api_Record (.ptr i3 [] 0)) fun v7 => ACalls P record_changed.n [v7] G6 fun v8 G9 => wv (vbin T .eql t_record_change v8 (.nilIface)) fun v10 => brB (some v10)
  (wv (vbuild T t_api_State []) fun v11 => wg (vstore T G9 t_api_State (.ptr i5 [] 0) v11) fun G12 => wv (vload T G12 t_api_State (.ptr i5 [] 0)) fun v13 => Q (.tuple [v13, .int .i64 170]) G12)
  (wv (vload T G9 t_sl_api_Update (.ptr i1 [4] 4)) fun v14 => wv (vload T G9 t_sl_api_Update (.ptr i1 [5] 5)) fun v15 => wv (vload T G9 t_sl_api_Slot (.ptr i1 [15] 112)) fun v16 => ACalls P slices_Clone_escrow_api_Update_escrow_api_Update.n [v14] G9 fun v17 G18 => (vload T G18 t_sl_api_Slot (.ptr i1 [15] 112) = some v16 ∧ vload T G18 t_sl_api_Update (.ptr i1 [5] 5) = some v15 ∧ True) ∧ (ACalls P slices_Clone_escrow_api_Update_escrow_api_Update.n [v15] G18 fun v19 G20 => (vload T G20 t_sl_api_Slot (.ptr i1 [15] 112) = some v16 ∧ True) ∧ (ACalls P slices_Clone_escrow_api_Slot_escrow_api_Slot.n [v16] G20 fun v21 G22 => wg (vstore T G22 t_sl_api_Update (.ptr i1 [4] 4) v17) fun G23 => wg (vstore T G23 t_sl_api_Update (.ptr i1 [5] 5) v19) fun G24 => wg (vstore T G24 t_sl_api_Slot (.ptr i1 [15] 112) v21) fun G25 => aInvoke cx v8 "escrow/record.apply" [.ptr i1 [] 0] G25 fun v26 G27 => wv (vun .not v26) fun v28 => brB (some v28)
  (wv (vbuild T t_api_State []) fun v29 => wg (vstore T G27 t_api_State (.ptr i5 [] 0) v29) fun G30 => wv (vload T G30 t_api_State (.ptr i5 [] 0)) fun v31 => Q (.tuple [v31, .int .i64 170]) G30)
  (wv (vload T G27 t_api_State (.ptr i1 [] 0)) fun v32 => wg (vstore T G27 t_api_State (.ptr i5 [] 0) v32) fun G33 => wv (vload T G33 t_api_State (.ptr i5 [] 0)) fun v34 => Q (.tuple [v34, .int .i64 0]) G33))))
def record_Apply.an : Ann := .two (.nil) (.two (.nil) (.two (.nil) (.two (.ord [(0, []), (1, []), (3, []), (4, []), (6, []), (7, []), (2, [4, 7]), (5, [7]), (8, []), (9, []), (10, []), (11, []), (12, []), (13, []), (14, [])]) (.nil))))
set_option maxRecDepth 100000 in
theorem record_Apply.sound {a0 a1 : AVal} {G : Heap} {Q : AVal → Heap → Prop} (h : record_Apply.S a0 a1 G Q) : ACalls P record_Apply.n [a0, a1] G Q := by
  have e : record_Apply.S a0 a1 G Q = awp cx (record_Apply.body) record_Apply.an (bodyQ T [.cell 4 43, .tmp 5] Q) (envL [a0, a1]) G := by kernel_rfl
  exact ACalls_of_awp cxOk (f := record_Apply.n) (fn := Try.f10) (c := record_Apply.body) (an := record_Apply.an) Try.func10 (by kernel_rfl) (by kernel_rfl) (by kernel_rfl) (drawsOk_of (by kernel_rfl) (by kernel_rfl)) (by simp [Try.f10]) (e ▸ h)

/-! #### escrow/escrowlaw17.head -/
def escrowlaw17_head.S (G : Heap) (Q : AVal → Heap → Prop) : Prop :=
  wv (vbuild T t_api_Record [(0, .int .i64 5), (8, .int .i64 258)]) fun v1 => ACalls P record_Write.n [v1] G fun v2 G3 => wv (vextract v2 0) fun v4 => wv (vextract v2 1) fun v5 => ACalls P record_Read.n [.str [5, 1, 2, 7]] G3 fun v6 G7 => wv (vextract v6 0) fun v8 => wv (vextract v6 1) fun v9 => wv (vextract v6 2) fun v10 => aNew G7 (.own (z_api_Record)) fun i11 G12 => wg (vstore T G12 t_api_Record (.ptr i11 [] 0) v8) fun G13 => ACalls P record_Read.n [.str [7]] G13 fun v14 G15 => wv (vextract v14 0) fun v16 => wv (vextract v14 1) fun v17 => wv (vextract v14 2) fun v18 => aNew G15 (.own (z_api_Record)) fun i19 G20 => wg (vstore T G20 t_api_Record (.ptr i19 [] 0) v16) fun G21 => let J74 : AVal → Heap → Prop := (fun x30 G29 => brB (some x30)
  (Q (.bool false) G29)
  (wv (vbuild T t_api_State [(17, .int .i64 (-1))]) fun v31 => wv (vbuild T t_api_Update [(0, .int .i64 1), (2, .int .i64 7)]) fun v32 => wv (vbuild T t_api_Record [(0, .int .i64 1), (1, v32)]) fun v33 => ACalls P record_Apply.n [v31, v33] G29 fun v34 G35 => wv (vextract v34 0) fun v36 => wv (vextract v34 1) fun v37 => aNew G35 (.own (z_api_State)) fun i38 G39 => wg (vstore T G39 t_api_State (.ptr i38 [] 0) v36) fun G40 => let J73 : AVal → Heap → Prop := (fun x48 G47 => brB (some x48)
  (Q (.bool false) G47)
  (wv (vload T G47 t_api_State (.ptr i38 [] 0)) fun v49 => wv (vbuild T t_api_Counts [(0, .int .i64 1)]) fun v50 => wv (vbuild T t_api_Record [(0, .int .i64 2), (3, .int .i64 1), (4, v50)]) fun v51 => ACalls P record_Apply.n [v49, v51] G47 fun v52 G53 => wv (vextract v52 0) fun v54 => wv (vextract v52 1) fun v55 => aNew G53 (.own (z_api_State)) fun i56 G57 => wg (vstore T G57 t_api_State (.ptr i56 [] 0) v54) fun G58 => wv (vload T G58 t_api_State (.ptr i56 [] 0)) fun v59 => wv (vbuild T t_api_Counts [(0, .int .i64 1)]) fun v60 => wv (vbuild T t_api_Record [(0, .int .i64 2), (3, .int .i64 2), (4, v60)]) fun v61 => ACalls P record_Apply.n [v59, v61] G58 fun v62 G63 => wv (vextract v62 0) fun v64 => wv (vextract v62 1) fun v65 => wv (vbin T .eql t_api_Errno v55 (.int .i64 0)) fun v66 => brB (some v66)
  (wv (vload T G63 t_int64 (.ptr i56 [7] 7)) fun v67 => wv (vbin T .eql t_int64 v67 (.int .i64 1)) fun v68 => brB (some v68)
  (wv (vload T G63 t_bool (.ptr i56 [12] 15)) fun v69 => brB (some v69)
  (wv (vbin T .eql t_api_Errno v65 (.int .i64 170)) fun v70 => Q v70 G63)
  (Q (.bool false) G63))
  (Q (.bool false) G63))
  (Q (.bool false) G63)));
  wv (vbin T .neq t_api_Errno v37 (.int .i64 0)) fun v41 => brB (some v41)
  (J73 (.bool true) G40)
  (wv (vload T G40 t_sl_api_Update (.ptr i38 [4] 4)) fun v42 => wv (vlen T G40 t_sl_api_Update v42) fun v43 => wv (vbin T .neq t_int v43 (.int .i64 1)) fun v44 => brB (some v44)
  (J73 (.bool true) G40)
  (wv (vload T G40 t_int64 (.ptr i38 [17] 114)) fun v45 => wv (vbin T .neq t_int64 v45 (.int .i64 (-1))) fun v46 => J73 v46 G40))));
  wv (vbin T .neq t_string v4 (.str [5, 1, 2])) fun v22 => brB (some v22)
  (J74 (.bool true) G21)
  (wv (vbin T .neq t_api_Errno v5 (.int .i64 0)) fun v23 => brB (some v23)
  (J74 (.bool true) G21)
  (wv (vload T G21 t_int (.ptr i11 [8] 137)) fun v24 => wv (vbin T .neq t_int v24 (.int .i64 258)) fun v25 => brB (some v25)
  (J74 (.bool true) G21)
  (wv (vbin T .neq t_int v9 (.int .i64 3)) fun v26 => brB (some v26)
  (J74 (.bool true) G21)
  (wv (vbin T .neq t_api_Errno v10 (.int .i64 0)) fun v27 => brB (some v27)
  (J74 (.bool true) G21)
  (wv (vbin T .neq t_api_Errno v18 (.int .i64 170)) fun v28 => J74 v28 G21)))))
def escrowlaw17_head.an : Ann := .nil
set_option maxRecDepth 100000 in
theorem escrowlaw17_head.sound {G : Heap} {Q : AVal → Heap → Prop} (h : escrowlaw17_head.S G Q) : ACalls P escrowlaw17_head.n [] G Q := by
  have e : escrowlaw17_head.S G Q = awp cx (escrowlaw17_head.body) escrowlaw17_head.an (bodyQ T [.tmp 0] Q) (envL []) G := by kernel_rfl
  exact ACalls_of_awp cxOk (f := escrowlaw17_head.n) (fn := Try.f6) (c := escrowlaw17_head.body) (an := escrowlaw17_head.an) Try.func6 (by kernel_rfl) (by kernel_rfl) (by kernel_rfl) (drawsOk_of (by kernel_rfl) (by kernel_rfl)) (by simp [Try.f6]) (e ▸ h)

/-! #### escrow/escrowlaw17.sameList -/
def escrowlaw17_sameList.S (a0 a1 : AVal) (G : Heap) (Q : AVal → Heap → Prop) : Prop :=
  wv (vlen T G t_sl_api_Update a0) fun v1 => wv (vlen T G t_sl_api_Update a1) fun v2 => wv (vbin T .neq t_int v1 v2) fun v3 => brB (some v3)
  (Q (.bool false) G)
  (∀ R4 : List AVal → Heap → Prop,
  (∀ (x6 x7 x8 : AVal) (G5 : Heap), (wv (vlen T G5 t_sl_api_Update x6) fun v9 => wv (vbin T .lss t_int x8 v9) fun v10 => brB (some v10)
  (wv (viaddr T t_sl_api_Update x6 x8) fun v11 => wv (vload T G5 t_api_Update v11) fun v12 => wv (viaddr T t_sl_api_Update x7 x8) fun v13 => wv (vload T G5 t_api_Update v13) fun v14 => wv (vbin T .neq t_api_Update v12 v14) fun v15 => brB (some v15)
  (Q (.bool false) G5)
  (wv (vbin T .add t_int x8 (.int .i64 1)) fun v16 => R4 [x6, x7, v16] G5))
  (Q (.bool true) G5)) → R4 [x6, x7, x8] G5) →
  R4 [a0, a1, .int .i64 0] G)
def escrowlaw17_sameList.an : Ann := .two (.nil) (.two (.nil) (.two (.two (.nil) (.loop [0, 1, 5] [false, false, false] (.two (.nil) (.two (.two (.ord [(0, []), (1, []), (2, []), (3, []), (4, []), (5, []), (6, []), (7, []), (8, [])]) (.nil)) (.nil))))) (.nil)))
set_option maxRecDepth 100000 in
theorem escrowlaw17_sameList.sound {a0 a1 : AVal} {G : Heap} {Q : AVal → Heap → Prop} (h : escrowlaw17_sameList.S a0 a1 G Q) : ACalls P escrowlaw17_sameList.n [a0, a1] G Q := by
  have e : escrowlaw17_sameList.S a0 a1 G Q = awp cx (escrowlaw17_sameList.body) escrowlaw17_sameList.an (bodyQ T [.tmp 4] Q) (envL [a0, a1]) G := by kernel_rfl
  exact ACalls_of_awp cxOk (f := escrowlaw17_sameList.n) (fn := Try.f11) (c := escrowlaw17_sameList.body) (an := escrowlaw17_sameList.an) Try.func11 (by kernel_rfl) (by kernel_rfl) (by kernel_rfl) (drawsOk_of (by kernel_rfl) (by kernel_rfl)) (by simp [Try.f11]) (e ▸ h)

/-! #### escrow/escrowlaw17.readApart -/
def escrowlaw17_readApart.S (a0 : AVal) (G : Heap) (Q : AVal → Heap → Prop) : Prop :=
  ∀ J1 : List AVal → Heap → Prop,
  (∀ (x17 : AVal) (G2 : Heap), (wv (vbuild T t_api_Record [(0, .int .i64 3), (3, .int .i64 1), (2, x17)]) fun v18 => ACalls P record_Write.n [v18] G2 fun v19 G20 => wv (vextract v19 0) fun v21 => wv (vextract v19 1) fun v22 => ACalls P record_Read.n [v21] G20 fun v23 G24 => wv (vextract v23 0) fun v25 => wv (vextract v23 1) fun v26 => wv (vextract v23 2) fun v27 => aNew G24 (.own (z_api_Record)) fun i28 G29 => wg (vstore T G29 t_api_Record (.ptr i28 [] 0) v25) fun G30 => ACalls P record_Read.n [v21] G30 fun v31 G32 => wv (vextract v31 0) fun v33 => wv (vextract v31 1) fun v34 => wv (vextract v31 2) fun v35 => aNew G32 (.own (z_api_Record)) fun i36 G37 => wg (vstore T G37 t_api_Record (.ptr i36 [] 0) v33) fun G38 => ∀ J39 : List AVal → Heap → Prop,
  (∀ (x61 : AVal) (x62 : AVal) (i63 : AId) (i64 : AId) (G40 : Heap), (∀ J65 : List AVal → Heap → Prop,
  (∀ (x82 : AVal) (x83 : AVal) (i84 : AId) (i85 : AId) (G66 : Heap), (wv (vload T G66 t_sl_api_Update (.ptr i84 [2] 37)) fun v86 => wv (vbuild T t_api_Update [(0, .int .i64 (-2))]) fun v87 => aBuildSlice T t_sl_api_Update 1 [(0, v87)] G66 fun v88 G89 => aAppend T G89 t_sl_api_Update t_sl_api_Update v86 v88 fun v90 G91 => wg (vstore T G91 t_sl_api_Update (.ptr i84 [2] 37) v90) fun G92 => wv (vload T G92 t_sl_api_Update (.ptr i85 [2] 37)) fun v93 => wv (vbuild T t_api_Update [(0, .int .i64 (-3))]) fun v94 => aBuildSlice T t_sl_api_Update 1 [(0, v94)] G92 fun v95 G96 => aAppend T G96 t_sl_api_Update t_sl_api_Update v93 v95 fun v97 G98 => wg (vstore T G98 t_sl_api_Update (.ptr i85 [2] 37) v97) fun G99 => ACalls P record_Read.n [x83] G99 fun v100 G101 => wv (vextract v100 0) fun v102 => wv (vextract v100 1) fun v103 => wv (vextract v100 2) fun v104 => aNew G101 (.own (z_api_Record)) fun i105 G106 => wg (vstore T G106 t_api_Record (.ptr i105 [] 0) v102) fun G107 => ∀ J108 : List AVal → Heap → Prop,
  (∀ (x138 : AVal) (G109 : Heap), (Q x138 G109) → J108 [x138] G109) →
  (wv (vbin T .eql t_api_Errno v104 (.int .i64 0)) fun v110 => brB (some v110)
  (wv (vload T G107 t_sl_api_Update (.ptr i105 [2] 37)) fun v111 => ACalls P escrowlaw17_sameList.n [v111, x82] G107 fun v112 G113 => brB (some v112)
  (wv (vload T G113 t_sl_api_Update (.ptr i85 [2] 37)) fun v114 => wv (vlen T G113 t_sl_api_Update x82) fun v115 => wv (vslice T t_sl_api_Update v114 none (some (v115)) none) fun v116 => ACalls P escrowlaw17_sameList.n [v116, x82] G113 fun v117 G118 => brB (some v117)
  (wv (vload T G118 t_sl_api_Update (.ptr i84 [2] 37)) fun v119 => wv (vlen T G118 t_sl_api_Update x82) fun v120 => wv (viaddr T t_sl_api_Update v119 v120) fun v121 => wv (vfaddr T t_api_Update v121 0) fun v122 => wv (vload T G118 t_int v122) fun v123 => wv (vbin T .eql t_int v123 (.int .i64 (-2))) fun v124 => brB (some v124)
  (wv (vload T G118 t_sl_api_Update (.ptr i85 [2] 37)) fun v125 => wv (vlen T G118 t_sl_api_Update x82) fun v126 => wv (viaddr T t_sl_api_Update v125 v126) fun v127 => wv (vfaddr T t_api_Update v127 0) fun v128 => wv (vload T G118 t_int v128) fun v129 => wv (vbin T .eql t_int v129 (.int .i64 (-3))) fun v130 => brB (some v130)
  (wv (vload T G118 t_sl_api_Update (.ptr i84 [2] 37)) fun v131 => wv (viaddr T t_sl_api_Update v131 (.int .i64 0)) fun v132 => wv (vfaddr T t_api_Update v132 0) fun v133 => wv (vload T G118 t_int v133) fun v134 => wv (vbin T .eql t_int v134 (.int .i64 (-1))) fun v135 => J108 [v135] G118)
  (J108 [.bool false] G118))
  (J108 [.bool false] G118))
  (J108 [.bool false] G118))
  (J108 [.bool false] G113))
  (J108 [.bool false] G107))) → J65 [x82, x83, .ptr i84 [] 0, .ptr i85 [] 0] G66) →
  (∀ R67 : List AVal → Heap → Prop,
  (∀ (x69 : AVal) (x70 : AVal) (i71 : AId) (i72 : AId) (x73 : AVal) (G68 : Heap), (wv (vload T G68 t_sl_api_Update (.ptr i71 [2] 37)) fun v74 => wv (vlen T G68 t_sl_api_Update v74) fun v75 => wv (vbin T .lss t_int x73 v75) fun v76 => brB (some v76)
  (wv (vload T G68 t_sl_api_Update (.ptr i71 [2] 37)) fun v77 => wv (vbuild T t_api_Update [(0, .int .i64 (-1))]) fun v78 => wv (viaddr T t_sl_api_Update v77 x73) fun v79 => wg (vstore T G68 t_api_Update v79 v78) fun G80 => wv (vbin T .add t_int x73 (.int .i64 1)) fun v81 => R67 [x69, x70, .ptr i71 [] 0, .ptr i72 [] 0, v81] G80)
  (J65 [x69, x70, .ptr i71 [] 0, .ptr i72 [] 0] G68)) → R67 [x69, x70, .ptr i71 [] 0, .ptr i72 [] 0, x73] G68) →
  R67 [x61, x62, .ptr i63 [] 0, .ptr i64 [] 0, .int .i64 0] G40)) → J39 [x61, x62, .ptr i63 [] 0, .ptr i64 [] 0] G40) →
  (∀ J41 : List AVal → Heap → Prop,
  (∀ (x56 : AVal) (x57 : AVal) (i58 : AId) (i59 : AId) (x60 : AVal) (G42 : Heap), (brB (some x60)
  (Q (.bool false) G42)
  (J39 [x56, x57, .ptr i58 [] 0, .ptr i59 [] 0] G42)) → J41 [x56, x57, .ptr i58 [] 0, .ptr i59 [] 0, x60] G42) →
  (wv (vbin T .neq t_api_Errno v22 (.int .i64 0)) fun v43 => brB (some v43)
  (J41 [x17, v21, .ptr i28 [] 0, .ptr i36 [] 0, .bool true] G38)
  (wv (vbin T .neq t_api_Errno v27 (.int .i64 0)) fun v44 => brB (some v44)
  (J41 [x17, v21, .ptr i28 [] 0, .ptr i36 [] 0, .bool true] G38)
  (wv (vbin T .neq t_api_Errno v35 (.int .i64 0)) fun v45 => brB (some v45)
  (J41 [x17, v21, .ptr i28 [] 0, .ptr i36 [] 0, .bool true] G38)
  (wv (vload T G38 t_sl_api_Update (.ptr i28 [2] 37)) fun v46 => ACalls P escrowlaw17_sameList.n [v46, x17] G38 fun v47 G48 => wv (vun .not v47) fun v49 => brB (some v49)
  (J41 [x17, v21, .ptr i28 [] 0, .ptr i36 [] 0, .bool true] G48)
  (wv (vload T G48 t_sl_api_Update (.ptr i36 [2] 37)) fun v50 => ACalls P escrowlaw17_sameList.n [v50, x17] G48 fun v51 G52 => wv (vun .not v51) fun v53 => J41 [x17, v21, .ptr i28 [] 0, .ptr i36 [] 0, v53] G52))))))) → J1 [x17] G2) →
  (∀ R3 : List AVal → Heap → Prop,
  (∀ (x5 x6 x7 : AVal) (G4 : Heap), (wv (vbin T .rem t_int x5 (.int .i64 7)) fun v8 => wv (vbin T .add t_int v8 (.int .i64 1)) fun v9 => wv (vbin T .lss t_int x7 v9) fun v10 => brB (some v10)
  (wv (vbuild T t_api_Update [(0, .int .i64 1), (1, x7), (2, .int .i64 1)]) fun v11 => aBuildSlice T t_sl_api_Update 1 [(0, v11)] G4 fun v12 G13 => aAppend T G13 t_sl_api_Update t_sl_api_Update x6 v12 fun v14 G15 => wv (vbin T .add t_int x7 (.int .i64 1)) fun v16 => R3 [x5, v14, v16] G15)
  (J1 [x6] G4)) → R3 [x5, x6, x7] G4) →
  R3 [a0, .nilSlice, .int .i64 0] G)
def escrowlaw17_readApart.an : Ann := .two (.nil) (.two (.nil) (.cut [3] [false] (.two (.nil) (.loop [0, 3, 4] [false, false, false] (.nil))) (.two (.nil) (.two (.nil) (.two (.nil) (.cut [3, 5, 7, 10] [false, false, true, true] (.cut [3, 5, 7, 10, 70] [false, false, true, true, false] (.nil) (.nil)) (.cut [3, 5, 7, 10] [false, false, true, true] (.two (.nil) (.loop [3, 5, 7, 10, 13] [false, false, true, true, false] (.nil))) (.two (.nil) (.two (.nil) (.two (.nil) (.cut [2] [false] (.nil) (.nil))))))))))))
set_option maxRecDepth 100000 in
theorem escrowlaw17_readApart.sound {a0 : AVal} {G : Heap} {Q : AVal → Heap → Prop} (h : escrowlaw17_readApart.S a0 G Q) : ACalls P escrowlaw17_readApart.n [a0] G Q := by
  have e : escrowlaw17_readApart.S a0 G Q = awp cx (escrowlaw17_readApart.body) escrowlaw17_readApart.an (bodyQ T [.tmp 2] Q) (envL [a0]) G := by kernel_rfl
  exact ACalls_of_awp cxOk (f := escrowlaw17_readApart.n) (fn := Try.f12) (c := escrowlaw17_readApart.body) (an := escrowlaw17_readApart.an) Try.func12 (by kernel_rfl) (by kernel_rfl) (by kernel_rfl) (drawsOk_of (by kernel_rfl) (by kernel_rfl)) (by simp [Try.f12]) (e ▸ h)

end Go.Esc.M
