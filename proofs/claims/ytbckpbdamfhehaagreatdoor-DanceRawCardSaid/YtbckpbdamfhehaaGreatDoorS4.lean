/- Printed by gen.py (own work): functions of the program YtbckpbdamfhehaaGreatDoor over trees and the abstract heap. -/
import Derived.Test.YtbckpbdamfhehaaGreatDoorT
set_option linter.unusedSimpArgs false
set_option linter.unusedVariables false
namespace Go.Esc.M
open Go Go.Esc Go.Proofs

/-! #### escrow/update.adds -/
def update_adds.S (a0 : AVal) (G : Heap) (Q : AVal → Heap → Prop) : Prop :=
  wv (vlen T G t_sl_api_Update a0) fun v1 => ∀ R2 : List AVal → Heap → Prop,
  (∀ (x4 x5 x6 x7 : AVal) (G3 : Heap), (wv (vbin T .lss t_int x7 x6) fun v8 => brB (some v8)
  (wv (viaddr T t_sl_api_Update x5 x7) fun v9 => wv (vload T G3 t_api_Update v9) fun v10 => aNew G3 (.own (z_api_Update)) fun i11 G12 => wg (vstore T G12 t_api_Update (.ptr i11 [] 0) v10) fun G13 => wv (vload T G13 t_int (.ptr i11 [0] 0)) fun v14 => wv (vbin T .eql t_int v14 (.int .i64 1)) fun v15 => brB (some v15)
  (wv (vbin T .add t_int64 x4 (.int .i64 1)) fun v16 => wv (vbin T .add t_int x7 (.int .i64 1)) fun v22 => R2 [v16, x5, x6, v22] G13)
  (wv (vbin T .add t_int x7 (.int .i64 1)) fun v23 => R2 [x4, x5, x6, v23] G13))
  (Q x4 G3)) → R2 [x4, x5, x6, x7] G3) →
  R2 [.int .i64 0, a0, v1, .int .i64 0] G
def update_adds.an : Ann := .two (.nil) (.two (.nil) (.two (.two (.nil) (.loop [3, 6, 7, 8] [false, false, false, false] (.nil))) (.nil)))
set_option maxRecDepth 100000 in
theorem update_adds.sound {a0 : AVal} {G : Heap} {Q : AVal → Heap → Prop} (h : update_adds.S a0 G Q) : ACalls P update_adds.n [a0] G Q := by
  have e : update_adds.S a0 G Q = awp cx (update_adds.body) update_adds.an (bodyQ T [.tmp 2] Q) (envL [a0]) G := by kernel_rfl
  exact ACalls_of_awp cxOk (f := update_adds.n) (fn := Tryz.f68) (c := update_adds.body) (an := update_adds.an) Tryz.func68 (by kernel_rfl) (by kernel_rfl) (by kernel_rfl) (drawsOk_of (by kernel_rfl) (by kernel_rfl)) (by simp [Tryz.f68]) (e ▸ h)

/-! #### escrow/update.Next -/
def update_Next.S (a0 a1 a2 : AVal) (G : Heap) (Q : AVal → Heap → Prop) : Prop :=
  aNew G (.own (a2)) fun i1 G2 => wv (vlen T G2 t_sl_api_Update a0) fun v3 => wv (vbin T .geq t_int v3 (.int .i64 2048)) fun v4 => brB (some v4)
  (Q (.int .i64 6) G2)
  (wv (vload T G2 t_api_Update (.ptr i1 [] 0)) fun v5 => ACalls P update_Valid.n [v5] G2 fun v6 G7 => wv (vun .not v6) fun v8 => brB (some v8)
  (Q (.int .i64 120) G7)
  (wv (vload T G7 t_int (.ptr i1 [0] 0)) fun v9 => wv (vbin T .eql t_int v9 (.int .i64 1)) fun v10 => brB (some v10)
  (wv (vload T G7 t_int64 (.ptr i1 [1] 1)) fun v11 => ACalls P update_adds.n [a0] G7 fun v12 G13 => (vload T G13 t_int64 (.ptr i1 [1] 1) = some v11 ∧ True) ∧ (wv (vbin T .neq t_int64 v11 v12) fun v14 => brB (some v14)
  (Q (.int .i64 120) G13)
  (Q (.int .i64 0) G13)))
  (wv (vload T G7 t_int64 (.ptr i1 [1] 1)) fun v15 => ACalls P update_Find.n [a1, v15] G7 fun v16 G17 => wv (vextract v16 0) fun v18 => wv (vextract v16 1) fun v19 => aNew G17 (.own (z_api_Update)) fun i20 G21 => wg (vstore T G21 t_api_Update (.ptr i20 [] 0) v18) fun G22 => wv (vload T G22 t_int64 (.ptr i1 [1] 1)) fun v23 => ACalls P update_Removal.n [a0, v23] G22 fun v24 G25 => wv (vextract v24 0) fun v26 => wv (vextract v24 1) fun v27 => aNew G25 (.own (z_api_Update)) fun i28 G29 => wg (vstore T G29 t_api_Update (.ptr i28 [] 0) v26) fun G30 => wv (vun .not v19) fun v31 => brB (some v31)
  (Q (.int .i64 120) G30)
  (brB (some v27)
  (Q (.int .i64 120) G30)
  (wv (vload T G30 t_int (.ptr i1 [0] 0)) fun v32 => wv (vbin T .eql t_int v32 (.int .i64 2)) fun v33 => brB (some v33)
  (wv (vslice T t_api_Hash (.ptr i1 [3] 3) none none none) fun v34 => wv (vconv T G30 t_sl_uint8 t_string v34) fun v35 => wv (vload T G30 t_api_Hash (.ptr i20 [3] 3)) fun v36 => aBuildSlice T t_sl_string 1 [(0, v35)] G30 fun v37 G38 => ACalls P hash_Sum.n [v37] G38 fun v39 G40 => (vload T G40 t_api_Hash (.ptr i20 [3] 3) = some v36 ∧ True) ∧ (wv (vbin T .neq t_api_Hash v39 v36) fun v41 => brB (some v41)
  (Q (.int .i64 120) G40)
  (Q (.int .i64 0) G40)))
  (Q (.int .i64 0) G30))))))
def update_Next.an : Ann := .two (.nil) (.two (.nil) (.two (.nil) (.two (.two (.nil) (.two (.two (.two (.ord [(0, []), (1, []), (2, []), (3, [1]), (4, [])]) (.nil)) (.nil)) (.nil))) (.two (.nil) (.two (.nil) (.two (.two (.ord [(0, []), (1, []), (2, []), (3, []), (4, []), (5, []), (6, []), (7, []), (8, []), (9, []), (10, []), (11, []), (12, []), (15, []), (16, []), (13, []), (14, [16]), (17, []), (18, []), (19, [])]) (.nil)) (.nil)))))))
set_option maxRecDepth 100000 in
theorem update_Next.sound {a0 a1 a2 : AVal} {G : Heap} {Q : AVal → Heap → Prop} (h : update_Next.S a0 a1 a2 G Q) : ACalls P update_Next.n [a0, a1, a2] G Q := by
  have e : update_Next.S a0 a1 a2 G Q = awp cx (update_Next.body) update_Next.an (bodyQ T [.tmp 6] Q) (envL [a0, a1, a2]) G := by kernel_rfl
  exact ACalls_of_awp cxOk (f := update_Next.n) (fn := Tryz.f32) (c := update_Next.body) (an := update_Next.an) Tryz.func32 (by kernel_rfl) (by kernel_rfl) (by kernel_rfl) (drawsOk_of (by kernel_rfl) (by kernel_rfl)) (by simp [Tryz.f32]) (e ▸ h)

/-! #### escrow/dance.Heard -/
def dance_Heard.S (a0 a1 : AVal) (G : Heap) (Q : AVal → Heap → Prop) : Prop :=
  aNew G (.own (a0)) fun i1 G2 => aNew G2 (.own (a1)) fun i3 G4 => wv (vload T G4 t_api_State (.ptr i1 [] 0)) fun v5 => ACalls P dance_Fixed.n [v5] G4 fun v6 G7 => aNew G7 (.own (z_api_Counts)) fun i8 G9 => wg (vstore T G9 t_api_Counts (.ptr i8 [] 0) v6) fun G10 => let J78 : Heap → Prop := (fun G55 => wv (vload T G55 t_sl_api_Update (.ptr i1 [4] 4)) fun v56 => wv (vload T G55 t_int (.ptr i8 [0] 0)) fun v57 => wv (vload T G55 t_int64 (.ptr i3 [1] 1)) fun v58 => ACalls P dance_first.n [v56, v57] G55 fun v59 G60 => (vload T G60 t_int64 (.ptr i3 [1] 1) = some v58 ∧ True) ∧ (ACalls P update_Find.n [v59, v58] G60 fun v61 G62 => wv (vextract v61 0) fun v63 => wv (vextract v61 1) fun v64 => aNew G62 (.own (z_api_Update)) fun i65 G66 => wg (vstore T G66 t_api_Update (.ptr i65 [] 0) v63) fun G67 => wv (vun .not v64) fun v68 => brB (some v68)
  (Q (.int .i64 120) G67)
  (wv (vload T G67 t_int (.ptr i3 [0] 0)) fun v69 => wv (vbin T .eql t_int v69 (.int .i64 2)) fun v70 => brB (some v70)
  (wv (vload T G67 t_api_Hash (.ptr i3 [3] 3)) fun v71 => wv (vload T G67 t_api_Hash (.ptr i65 [3] 3)) fun v72 => ACalls P dance_sum.n [v71] G67 fun v73 G74 => (vload T G74 t_api_Hash (.ptr i65 [3] 3) = some v72 ∧ True) ∧ (wv (vbin T .neq t_api_Hash v73 v72) fun v75 => brB (some v75)
  (Q (.int .i64 120) G74)
  (Q (.int .i64 0) G74)))
  (Q (.int .i64 0) G67))));
  wv (vload T G10 t_api_State (.ptr i1 [] 0)) fun v11 => ACalls P dance_dead.n [v11] G10 fun v12 G13 => brB (some v12)
  (Q (.int .i64 220) G13)
  (wv (vload T G13 t_sl_api_Update (.ptr i1 [5] 5)) fun v14 => wv (vlen T G13 t_sl_api_Update v14) fun v15 => wv (vload T G13 t_int (.ptr i1 [9, 1] 10)) fun v16 => wv (vbin T .sub t_int v15 v16) fun v17 => wv (vbin T .geq t_int v17 (.int .i64 512)) fun v18 => brB (some v18)
  (Q (.int .i64 131) G13)
  (wv (vload T G13 t_sl_api_Update (.ptr i1 [5] 5)) fun v19 => wv (vload T G13 t_sl_api_Update (.ptr i1 [4] 4)) fun v20 => wv (vload T G13 t_api_Update (.ptr i3 [] 0)) fun v21 => ACalls P update_Next.n [v19, v20, v21] G13 fun v22 G23 => wv (vbin T .neq t_api_Errno v22 (.int .i64 0)) fun v24 => brB (some v24)
  (Q (.int .i64 120) G23)
  (let J51 : AVal → Heap → Prop := (fun x34 G33 => brB (some x34)
  (Q (.int .i64 131) G33)
  (wv (vload T G33 t_int (.ptr i3 [0] 0)) fun v35 => wv (vbin T .eql t_int v35 (.int .i64 1)) fun v36 => brB (some v36)
  (wv (vload T G33 t_int64 (.ptr i3 [2] 2)) fun v37 => wv (vload T G33 t_api_State (.ptr i1 [] 0)) fun v38 => ACalls P dance_PeerSpendable.n [v38] G33 fun v39 G40 => (vload T G40 t_int64 (.ptr i3 [2] 2) = some v37 ∧ True) ∧ (wv (vbin T .gtr t_int64 v37 v39) fun v41 => brB (some v41)
  (Q (.int .i64 130) G40)
  (wv (vload T G40 t_int (.ptr i3 [0] 0)) fun v46 => wv (vbin T .eql t_int v46 (.int .i64 1)) fun v47 => brB (some v47)
  (Q (.int .i64 0) G40)
  (J78 G40))))
  (wv (vload T G33 t_int (.ptr i3 [0] 0)) fun v48 => wv (vbin T .eql t_int v48 (.int .i64 1)) fun v49 => brB (some v49)
  (Q (.int .i64 0) G33)
  (J78 G33))));
  wv (vload T G23 t_int (.ptr i3 [0] 0)) fun v25 => wv (vbin T .eql t_int v25 (.int .i64 1)) fun v26 => brB (some v26)
  (wv (vload T G23 t_sl_api_Update (.ptr i1 [5] 5)) fun v27 => wv (vload T G23 t_sl_api_Update (.ptr i1 [4] 4)) fun v28 => wv (vload T G23 t_int (.ptr i8 [0] 0)) fun v29 => ACalls P ledger_Open.n [v27, v28, v29] G23 fun v30 G31 => wv (vbin T .geq t_int v30 (.int .i64 483)) fun v32 => J51 v32 G31)
  (J51 (.bool false) G23))))
def dance_Heard.an : Ann := .two (.nil) (.two (.nil) (.two (.two (.nil) (.two (.nil) (.two (.nil) (.two (.nil) (.two (.nil) (.two (.nil) (.two (.nil) (.two (.nil) (.two (.ord [(0, []), (1, []), (2, []), (3, []), (4, []), (5, []), (6, []), (7, [5]), (8, []), (9, []), (10, [])]) (.nil)))))))))) (.two (.ord [(0, []), (1, []), (2, []), (3, []), (5, []), (6, []), (4, [6]), (7, []), (8, []), (9, []), (10, []), (11, []), (12, []), (13, [])]) (.two (.two (.ord [(0, []), (1, []), (2, []), (3, []), (4, []), (5, []), (6, []), (7, []), (8, []), (10, []), (11, []), (9, [11]), (12, []), (13, []), (14, [])]) (.nil)) (.nil)))))
set_option maxRecDepth 100000 in
theorem dance_Heard.sound {a0 a1 : AVal} {G : Heap} {Q : AVal → Heap → Prop} (h : dance_Heard.S a0 a1 G Q) : ACalls P dance_Heard.n [a0, a1] G Q := by
  have e : dance_Heard.S a0 a1 G Q = awp cx (dance_Heard.body) dance_Heard.an (bodyQ T [.tmp 4] Q) (envL [a0, a1]) G := by kernel_rfl
  exact ACalls_of_awp cxOk (f := dance_Heard.n) (fn := Tryz.f14) (c := dance_Heard.body) (an := dance_Heard.an) Tryz.func14 (by kernel_rfl) (by kernel_rfl) (by kernel_rfl) (drawsOk_of (by kernel_rfl) (by kernel_rfl)) (by simp [Tryz.f14]) (e ▸ h)

/-! #### escrow/dance.Reveal -/
def dance_Reveal.S (a0 a1 : AVal) (G : Heap) (Q : AVal → Heap → Prop) : Prop :=
  aNew G (.own (a0)) fun i1 G2 => aNew G2 (.own (z_api_Message)) fun i3 G4 => let J36 : AVal → Heap → Prop := (fun x8 G7 => brB (some x8)
  (wv (vbuild T t_api_Message []) fun v9 => wg (vstore T G7 t_api_Message (.ptr i3 [] 0) v9) fun G10 => wv (vload T G10 t_api_Message (.ptr i3 [] 0)) fun v11 => Q v11 G10)
  (wv (vload T G7 t_api_Hash (.ptr i1 [3] 3)) fun v12 => ACalls P seed_Secret.n [v12, a1] G7 fun v13 G14 => wv (vextract v13 0) fun v15 => wv (vextract v13 1) fun v16 => aNew G14 (.own (z_api_Hash)) fun i17 G18 => wg (vstore T G18 t_api_Hash (.ptr i17 [] 0) v15) fun G19 => wv (vload T G19 t_api_Hash (.ptr i1 [3] 3)) fun v20 => wv (vbin T .add t_int64 a1 (.int .i64 2)) fun v21 => ACalls P seed_Secret.n [v20, v21] G19 fun v22 G23 => wv (vextract v22 0) fun v24 => wv (vextract v22 1) fun v25 => aNew G23 (.own (z_api_Hash)) fun i26 G27 => wg (vstore T G27 t_api_Hash (.ptr i26 [] 0) v24) fun G28 => wv (vload T G28 t_api_Hash (.ptr i17 [] 0)) fun v29 => wv (vload T G28 t_api_Hash (.ptr i26 [] 0)) fun v30 => ACalls P seed_Point.n [v30] G28 fun v31 G32 => (vload T G32 t_api_Hash (.ptr i17 [] 0) = some v29 ∧ True) ∧ (wv (vbuild T t_api_Message [(0, .int .i64 5), (3, a1), (6, v29), (5, v31)]) fun v33 => wg (vstore T G32 t_api_Message (.ptr i3 [] 0) v33) fun G34 => wv (vload T G34 t_api_Message (.ptr i3 [] 0)) fun v35 => Q v35 G34)));
  wv (vbin T .lss t_int64 a1 (.int .i64 0)) fun v5 => brB (some v5)
  (J36 (.bool true) G4)
  (wv (vbin T .gtr t_int64 a1 (.int .i64 281474976710653)) fun v6 => J36 v6 G4)
def dance_Reveal.an : Ann := .two (.nil) (.two (.nil) (.two (.nil) (.two (.nil) (.two (.ord [(0, []), (1, []), (2, []), (3, [1]), (4, []), (5, [])]) (.nil)))))
set_option maxRecDepth 100000 in
theorem dance_Reveal.sound {a0 a1 : AVal} {G : Heap} {Q : AVal → Heap → Prop} (h : dance_Reveal.S a0 a1 G Q) : ACalls P dance_Reveal.n [a0, a1] G Q := by
  have e : dance_Reveal.S a0 a1 G Q = awp cx (dance_Reveal.body) dance_Reveal.an (bodyQ T [.cell 4 36] Q) (envL [a0, a1]) G := by kernel_rfl
  exact ACalls_of_awp cxOk (f := dance_Reveal.n) (fn := Tryz.f16) (c := dance_Reveal.body) (an := dance_Reveal.an) Tryz.func16 (by kernel_rfl) (by kernel_rfl) (by kernel_rfl) (drawsOk_of (by kernel_rfl) (by kernel_rfl)) (by simp [Tryz.f16]) (e ▸ h)

/-! #### slices.Clone[[]escrow/api.Slot,escrow/api.Slot] -/
def slices_Clone_escrow_api_Slot_escrow_api_Slot.S (a0 : AVal) (G : Heap) (Q : AVal → Heap → Prop) : Prop :=
  wv (vbin T .eql t_sl_api_Slot a0 (.nilSlice)) fun v1 => brB (some v1)
  (Q (.nilSlice) G)
  (aBuildSlice T t_sl_api_Slot 0 [] G fun v2 G3 => aAppend T G3 t_sl_api_Slot t_sl_api_Slot v2 a0 fun v4 G5 => Q v4 G5)
def slices_Clone_escrow_api_Slot_escrow_api_Slot.an : Ann := .nil
set_option maxRecDepth 100000 in
theorem slices_Clone_escrow_api_Slot_escrow_api_Slot.sound {a0 : AVal} {G : Heap} {Q : AVal → Heap → Prop} (h : slices_Clone_escrow_api_Slot_escrow_api_Slot.S a0 G Q) : ACalls P slices_Clone_escrow_api_Slot_escrow_api_Slot.n [a0] G Q := by
  have e : slices_Clone_escrow_api_Slot_escrow_api_Slot.S a0 G Q = awp cx (slices_Clone_escrow_api_Slot_escrow_api_Slot.body) slices_Clone_escrow_api_Slot_escrow_api_Slot.an (bodyQ T [.tmp 2] Q) (envL [a0]) G := by kernel_rfl
  exact ACalls_of_awp cxOk (f := slices_Clone_escrow_api_Slot_escrow_api_Slot.n) (fn := Tryz.f42) (c := slices_Clone_escrow_api_Slot_escrow_api_Slot.body) (an := slices_Clone_escrow_api_Slot_escrow_api_Slot.an) Tryz.func42 (by kernel_rfl) (by kernel_rfl) (by kernel_rfl) (drawsOk_of (by kernel_rfl) (by kernel_rfl)) (by simp [Tryz.f42]) (e ▸ h)

/-! #### escrow/dance.Cut -/
def dance_Cut.S (a0 : AVal) (G : Heap) (Q : AVal → Heap → Prop) : Prop :=
  aNew G (.own (a0)) fun i1 G2 => aNew G2 (.own (z_api_State)) fun i3 G4 => wv (vload T G4 t_sl_api_Update (.ptr i1 [4] 4)) fun v5 => wv (vload T G4 t_sl_api_Update (.ptr i1 [5] 5)) fun v6 => wv (vload T G4 t_int (.ptr i1 [9, 1] 10)) fun v7 => wv (vload T G4 t_sl_api_Slot (.ptr i1 [15] 112)) fun v8 => ACalls P slices_Clone_escrow_api_Update_escrow_api_Update.n [v5] G4 fun v9 G10 => (vload T G10 t_sl_api_Slot (.ptr i1 [15] 112) = some v8 ∧ vload T G10 t_int (.ptr i1 [9, 1] 10) = some v7 ∧ vload T G10 t_sl_api_Update (.ptr i1 [5] 5) = some v6 ∧ True) ∧ (ACalls P dance_first.n [v6, v7] G10 fun v11 G12 => (vload T G12 t_sl_api_Slot (.ptr i1 [15] 112) = some v8 ∧ True) ∧ (ACalls P slices_Clone_escrow_api_Update_escrow_api_Update.n [v11] G12 fun v13 G14 => (vload T G14 t_sl_api_Slot (.ptr i1 [15] 112) = some v8 ∧ True) ∧ (ACalls P slices_Clone_escrow_api_Slot_escrow_api_Slot.n [v8] G14 fun v15 G16 => wg (vstore T G16 t_sl_api_Update (.ptr i1 [4] 4) v9) fun G17 => wg (vstore T G17 t_sl_api_Update (.ptr i1 [5] 5) v13) fun G18 => wg (vstore T G18 t_sl_api_Slot (.ptr i1 [15] 112) v15) fun G19 => wv (vload T G19 t_api_State (.ptr i1 [] 0)) fun v20 => wg (vstore T G19 t_api_State (.ptr i3 [] 0) v20) fun G21 => wv (vload T G21 t_api_State (.ptr i3 [] 0)) fun v22 => Q v22 G21)))
def dance_Cut.an : Ann := .two (.nil) (.two (.ord [(0, []), (1, []), (3, []), (4, []), (5, []), (6, []), (7, []), (10, []), (11, []), (2, [4, 7, 11]), (13, []), (8, [11]), (9, [11]), (12, []), (14, []), (15, []), (16, []), (17, []), (18, [])]) (.nil))
set_option maxRecDepth 100000 in
theorem dance_Cut.sound {a0 : AVal} {G : Heap} {Q : AVal → Heap → Prop} (h : dance_Cut.S a0 G Q) : ACalls P dance_Cut.n [a0] G Q := by
  have e : dance_Cut.S a0 G Q = awp cx (dance_Cut.body) dance_Cut.an (bodyQ T [.cell 2 32] Q) (envL [a0]) G := by kernel_rfl
  exact ACalls_of_awp cxOk (f := dance_Cut.n) (fn := Tryz.f18) (c := dance_Cut.body) (an := dance_Cut.an) Tryz.func18 (by kernel_rfl) (by kernel_rfl) (by kernel_rfl) (drawsOk_of (by kernel_rfl) (by kernel_rfl)) (by simp [Tryz.f18]) (e ▸ h)

/-! #### escrow/escrowlaw15.DanceRaw -/
def escrowlaw15_DanceRaw.S (a0 a1 a2 a3 a4 a5 : AVal) (G : Heap) (Q : AVal → Heap → Prop) : Prop :=
  aNew G (.own (a0)) fun i1 G2 => aNew G2 (.own (a1)) fun i3 G4 => aNew G4 (.own (a2)) fun i5 G6 => aNew G6 (.own (a3)) fun i7 G8 => ACalls P escrowlaw15_fixed.n [] G8 fun v9 G10 => wv (vun .not v9) fun v11 => brB (some v11)
  (Q (.bool false) G10)
  (wv (vload T G10 t_api_State (.ptr i3 [] 0)) fun v12 => ACalls P escrowlaw15_Copy.n [v12] G10 fun v13 G14 => ACalls P dance_Fixed.n [v13] G14 fun v15 G16 => wv (vload T G16 t_api_State (.ptr i3 [] 0)) fun v17 => ACalls P escrowlaw15_Copy.n [v17] G16 fun v18 G19 => ACalls P dance_Spendable.n [v18] G19 fun v20 G21 => wv (vload T G21 t_api_State (.ptr i3 [] 0)) fun v22 => ACalls P escrowlaw15_Copy.n [v22] G21 fun v23 G24 => ACalls P dance_PeerSpendable.n [v23] G24 fun v25 G26 => wv (vload T G26 t_api_State (.ptr i3 [] 0)) fun v27 => wv (vload T G26 t_api_Hash (.ptr i5 [3] 3)) fun v28 => ACalls P escrowlaw15_Copy.n [v27] G26 fun v29 G30 => (vload T G30 t_api_Hash (.ptr i5 [3] 3) = some v28 ∧ True) ∧ (ACalls P dance_Offer.n [v29, a4, v28] G30 fun v31 G32 => wv (vload T G32 t_api_State (.ptr i3 [] 0)) fun v33 => wv (vload T G32 t_api_Hash (.ptr i5 [3] 3)) fun v34 => ACalls P escrowlaw15_Copy.n [v33] G32 fun v35 G36 => (vload T G36 t_api_Hash (.ptr i5 [3] 3) = some v34 ∧ True) ∧ (ACalls P dance_Settle.n [v35, a5, v34] G36 fun v37 G38 => wv (vload T G38 t_api_State (.ptr i3 [] 0)) fun v39 => wv (vload T G38 t_string (.ptr i5 [4] 35)) fun v40 => ACalls P escrowlaw15_Copy.n [v39] G38 fun v41 G42 => (vload T G42 t_string (.ptr i5 [4] 35) = some v40 ∧ True) ∧ (ACalls P dance_Refuse.n [v41, a5, v40] G42 fun v43 G44 => wv (vload T G44 t_api_Config (.ptr i1 [] 0)) fun v45 => wv (vload T G44 t_api_State (.ptr i3 [] 0)) fun v46 => ACalls P escrowlaw15_Copy.n [v46] G44 fun v47 G48 => (vload T G48 t_api_Config (.ptr i1 [] 0) = some v45 ∧ True) ∧ (ACalls P dance_Sign.n [v45, v47] G48 fun v49 G50 => wv (vload T G50 t_api_Config (.ptr i1 [] 0)) fun v51 => wv (vload T G50 t_api_State (.ptr i3 [] 0)) fun v52 => ACalls P escrowlaw15_Copy.n [v52] G50 fun v53 G54 => (vload T G54 t_api_Config (.ptr i1 [] 0) = some v51 ∧ True) ∧ (ACalls P dance_Again.n [v51, v53] G54 fun v55 G56 => wv (vload T G56 t_api_State (.ptr i3 [] 0)) fun v57 => wv (vload T G56 t_api_Update (.ptr i5 [] 0)) fun v58 => ACalls P escrowlaw15_Copy.n [v57] G56 fun v59 G60 => (vload T G60 t_api_Update (.ptr i5 [] 0) = some v58 ∧ True) ∧ (ACalls P dance_Heard.n [v59, v58] G60 fun v61 G62 => wv (vload T G62 t_api_Config (.ptr i1 [] 0)) fun v63 => wv (vload T G62 t_api_State (.ptr i3 [] 0)) fun v64 => wv (vload T G62 t_api_Message (.ptr i7 [] 0)) fun v65 => ACalls P escrowlaw15_Copy.n [v64] G62 fun v66 G67 => (vload T G67 t_api_Message (.ptr i7 [] 0) = some v65 ∧ vload T G67 t_api_Config (.ptr i1 [] 0) = some v63 ∧ True) ∧ (ACalls P dance_Came.n [v63, v66, v65] G67 fun v68 G69 => wv (vload T G69 t_api_Config (.ptr i1 [] 0)) fun v70 => ACalls P dance_Reveal.n [v70, a5] G69 fun v71 G72 => wv (vload T G72 t_api_State (.ptr i3 [] 0)) fun v73 => wv (vload T G72 t_api_Message (.ptr i7 [] 0)) fun v74 => ACalls P escrowlaw15_Copy.n [v73] G72 fun v75 G76 => (vload T G76 t_api_Message (.ptr i7 [] 0) = some v74 ∧ True) ∧ (ACalls P dance_Revoked.n [v75, v74] G76 fun v77 G78 => wv (vload T G78 t_api_State (.ptr i3 [] 0)) fun v79 => ACalls P escrowlaw15_Copy.n [v79] G78 fun v80 G81 => ACalls P dance_Cut.n [v80] G81 fun v82 G83 => Q (.bool true) G83)))))))))
def escrowlaw15_DanceRaw.an : Ann := .two (.nil) (.two (.nil) (.two (.nil) (.two (.nil) (.two (.nil) (.two (.ord [(0, []), (2, []), (3, []), (4, []), (1, [4]), (5, [])]) (.two (.ord [(0, []), (2, []), (3, []), (4, []), (1, [4]), (5, [])]) (.two (.ord [(0, []), (2, []), (3, []), (4, []), (1, [4]), (5, [])]) (.two (.ord [(0, []), (1, []), (2, [0]), (3, [])]) (.two (.ord [(0, []), (1, []), (2, [0]), (3, [])]) (.two (.ord [(0, []), (2, []), (1, [2]), (3, [])]) (.two (.ord [(0, []), (1, []), (3, []), (2, [0, 3]), (4, [])]) (.two (.nil) (.two (.ord [(0, []), (2, []), (1, [2]), (3, [])]) (.nil))))))))))))))
set_option maxRecDepth 100000 in
theorem escrowlaw15_DanceRaw.sound {a0 a1 a2 a3 a4 a5 : AVal} {G : Heap} {Q : AVal → Heap → Prop} (h : escrowlaw15_DanceRaw.S a0 a1 a2 a3 a4 a5 G Q) : ACalls P escrowlaw15_DanceRaw.n [a0, a1, a2, a3, a4, a5] G Q := by
  have e : escrowlaw15_DanceRaw.S a0 a1 a2 a3 a4 a5 G Q = awp cx (escrowlaw15_DanceRaw.body) escrowlaw15_DanceRaw.an (bodyQ T [.tmp 12] Q) (envL [a0, a1, a2, a3, a4, a5]) G := by kernel_rfl
  exact ACalls_of_awp cxOk (f := escrowlaw15_DanceRaw.n) (fn := Tryz.f3) (c := escrowlaw15_DanceRaw.body) (an := escrowlaw15_DanceRaw.an) Tryz.func3 (by kernel_rfl) (by kernel_rfl) (by kernel_rfl) (drawsOk_of (by kernel_rfl) (by kernel_rfl)) (by simp [Tryz.f3]) (e ▸ h)

end Go.Esc.M
