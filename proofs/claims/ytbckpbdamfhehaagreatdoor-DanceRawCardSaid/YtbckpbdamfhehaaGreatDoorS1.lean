/- Printed by gen.py (own work): functions of the program YtbckpbdamfhehaaGreatDoor over trees and the abstract heap. -/
import Derived.Test.YtbckpbdamfhehaaGreatDoorT
set_option linter.unusedSimpArgs false
set_option linter.unusedVariables false
namespace Go.Esc.M
open Go Go.Esc Go.Proofs

/-! #### slices.symMergeCmpFunc[escrow/api.Pending] -/
def slices_symMergeCmpFunc_escrow_api_Pending.S (a0 a1 a2 a3 a4 : AVal) (G : Heap) (Q : AVal → Heap → Prop) : Prop :=
  wv (vbin T .sub t_int a2 a1) fun v1 => wv (vbin T .eql t_int v1 (.int .i64 1)) fun v2 => brB (some v2)
  (∀ R3 : List AVal → Heap → Prop,
  (∀ (x5 x6 x7 x8 x9 : AVal) (G4 : Heap), (wv (vbin T .lss t_int x8 x9) fun v10 => brB (some v10)
  (wv (vbin T .add t_int x8 x9) fun v11 => wv (vconv T G4 t_int t_uint v11) fun v12 => wv (vbin T .shr t_uint v12 (.int .u64 1)) fun v13 => wv (vconv T G4 t_uint t_int v13) fun v14 => wv (viaddr T t_sl_api_Pending x5 v14) fun v15 => wv (vload T G4 t_api_Pending v15) fun v16 => wv (viaddr T t_sl_api_Pending x5 x6) fun v17 => wv (vload T G4 t_api_Pending v17) fun v18 => aCallV P x7 [v16, v18] G4 fun v19 G20 => wv (vbin T .lss t_int v19 (.int .i64 0)) fun v21 => brB (some v21)
  (wv (vbin T .add t_int v14 (.int .i64 1)) fun v22 => R3 [x5, x6, x7, v22, x9] G20)
  (R3 [x5, x6, x7, x8, v14] G20))
  (∀ R29 : List AVal → Heap → Prop,
  (∀ (x31 x32 x33 : AVal) (G30 : Heap), (wv (vbin T .sub t_int x32 (.int .i64 1)) fun v34 => wv (vbin T .lss t_int x33 v34) fun v35 => brB (some v35)
  (wv (vbin T .add t_int x33 (.int .i64 1)) fun v36 => wv (vbin T .add t_int x33 (.int .i64 1)) fun v37 => wv (viaddr T t_sl_api_Pending x31 v37) fun v38 => wv (vload T G30 t_api_Pending v38) fun v39 => wv (viaddr T t_sl_api_Pending x31 x33) fun v40 => wv (vload T G30 t_api_Pending v40) fun v41 => wv (viaddr T t_sl_api_Pending x31 x33) fun v42 => wg (vstore T G30 t_api_Pending v42 v39) fun G43 => wv (viaddr T t_sl_api_Pending x31 v36) fun v44 => wg (vstore T G43 t_api_Pending v44 v41) fun G45 => wv (vbin T .add t_int x33 (.int .i64 1)) fun v46 => R29 [x31, x32, v46] G45)
  (Q (.tuple []) G30)) → R29 [x31, x32, x33] G30) →
  R29 [x5, x8, x6] G4)) → R3 [x5, x6, x7, x8, x9] G4) →
  R3 [a0, a1, a4, a2, a3] G)
  (wv (vbin T .sub t_int a3 a2) fun v47 => wv (vbin T .eql t_int v47 (.int .i64 1)) fun v48 => brB (some v48)
  (∀ R49 : List AVal → Heap → Prop,
  (∀ (x51 x52 x53 x54 x55 : AVal) (G50 : Heap), (wv (vbin T .lss t_int x54 x55) fun v56 => brB (some v56)
  (wv (vbin T .add t_int x54 x55) fun v57 => wv (vconv T G50 t_int t_uint v57) fun v58 => wv (vbin T .shr t_uint v58 (.int .u64 1)) fun v59 => wv (vconv T G50 t_uint t_int v59) fun v60 => wv (viaddr T t_sl_api_Pending x51 x52) fun v61 => wv (vload T G50 t_api_Pending v61) fun v62 => wv (viaddr T t_sl_api_Pending x51 v60) fun v63 => wv (vload T G50 t_api_Pending v63) fun v64 => aCallV P x53 [v62, v64] G50 fun v65 G66 => wv (vbin T .lss t_int v65 (.int .i64 0)) fun v67 => wv (vun .not v67) fun v68 => brB (some v68)
  (wv (vbin T .add t_int v60 (.int .i64 1)) fun v69 => R49 [x51, x52, x53, v69, x55] G66)
  (R49 [x51, x52, x53, x54, v60] G66))
  (∀ R76 : List AVal → Heap → Prop,
  (∀ (x78 x79 x80 : AVal) (G77 : Heap), (wv (vbin T .gtr t_int x80 x79) fun v81 => brB (some v81)
  (wv (vbin T .sub t_int x80 (.int .i64 1)) fun v82 => wv (vbin T .sub t_int x80 (.int .i64 1)) fun v83 => wv (viaddr T t_sl_api_Pending x78 v83) fun v84 => wv (vload T G77 t_api_Pending v84) fun v85 => wv (viaddr T t_sl_api_Pending x78 x80) fun v86 => wv (vload T G77 t_api_Pending v86) fun v87 => wv (viaddr T t_sl_api_Pending x78 x80) fun v88 => wg (vstore T G77 t_api_Pending v88 v85) fun G89 => wv (viaddr T t_sl_api_Pending x78 v82) fun v90 => wg (vstore T G89 t_api_Pending v90 v87) fun G91 => wv (vbin T .sub t_int x80 (.int .i64 1)) fun v92 => R76 [x78, x79, v92] G91)
  (Q (.tuple []) G77)) → R76 [x78, x79, x80] G77) →
  R76 [x51, x54, x52] G50)) → R49 [x51, x52, x53, x54, x55] G50) →
  R49 [a0, a2, a4, a1, a2] G)
  (wv (vbin T .add t_int a1 a3) fun v93 => wv (vconv T G t_int t_uint v93) fun v94 => wv (vbin T .shr t_uint v94 (.int .u64 1)) fun v95 => wv (vconv T G t_uint t_int v95) fun v96 => wv (vbin T .add t_int v96 a2) fun v97 => wv (vbin T .gtr t_int a2 v96) fun v98 => let J185 : AVal → AVal → Heap → Prop := (fun x101 x102 G100 => wv (vbin T .sub t_int v97 (.int .i64 1)) fun v103 => ∀ R104 : List AVal → Heap → Prop,
  (∀ (x106 x107 x108 x109 x110 x111 x112 x113 x114 x115 : AVal) (G105 : Heap), (wv (vbin T .lss t_int x113 x114) fun v116 => brB (some v116)
  (wv (vbin T .add t_int x113 x114) fun v117 => wv (vconv T G105 t_int t_uint v117) fun v118 => wv (vbin T .shr t_uint v118 (.int .u64 1)) fun v119 => wv (vconv T G105 t_uint t_int v119) fun v120 => wv (vbin T .sub t_int x115 v120) fun v121 => wv (viaddr T t_sl_api_Pending x106 v121) fun v122 => wv (vload T G105 t_api_Pending v122) fun v123 => wv (viaddr T t_sl_api_Pending x106 v120) fun v124 => wv (vload T G105 t_api_Pending v124) fun v125 => aCallV P x110 [v123, v125] G105 fun v126 G127 => wv (vbin T .lss t_int v126 (.int .i64 0)) fun v128 => wv (vun .not v128) fun v129 => brB (some v129)
  (wv (vbin T .add t_int v120 (.int .i64 1)) fun v130 => R104 [x106, x107, x108, x109, x110, x111, x112, v130, x114, x115] G127)
  (R104 [x106, x107, x108, x109, x110, x111, x112, x113, v120, x115] G127))
  (wv (vbin T .sub t_int x112 x113) fun v137 => let J184 : AVal → Heap → Prop := (fun x141 G140 => let J183 : Heap → Prop := (fun G144 => let J182 : AVal → Heap → Prop := (fun x148 G147 => brB (some x148)
  (ACalls P slices_symMergeCmpFunc_escrow_api_Pending.n [x106, x107, x113, x111, x110] G147 fun v149 G150 => wv (vbin T .lss t_int x111 v137) fun v162 => brB (some v162)
  (wv (vbin T .lss t_int v137 x109) fun v163 => brB (some v163)
  (ACalls P slices_symMergeCmpFunc_escrow_api_Pending.n [x106, x111, v137, x109, x110] G150 fun v169 G170 => Q (.tuple []) G170)
  (Q (.tuple []) G150))
  (Q (.tuple []) G150))
  (wv (vbin T .lss t_int x111 v137) fun v172 => brB (some v172)
  (wv (vbin T .lss t_int v137 x109) fun v173 => brB (some v173)
  (ACalls P slices_symMergeCmpFunc_escrow_api_Pending.n [x106, x111, v137, x109, x110] G147 fun v179 G180 => Q (.tuple []) G180)
  (Q (.tuple []) G147))
  (Q (.tuple []) G147)));
  wv (vbin T .lss t_int x107 x113) fun v145 => brB (some v145)
  (wv (vbin T .lss t_int x113 x111) fun v146 => J182 v146 G144)
  (J182 (.bool false) G144));
  brB (some x141)
  (ACalls P slices_rotateCmpFunc_escrow_api_Pending.n [x106, x113, x108, v137, x110] G140 fun v142 G143 => J183 G143)
  (J183 G140));
  wv (vbin T .lss t_int x113 x108) fun v138 => brB (some v138)
  (wv (vbin T .lss t_int x108 v137) fun v139 => J184 v139 G105)
  (J184 (.bool false) G105))) → R104 [x106, x107, x108, x109, x110, x111, x112, x113, x114, x115] G105) →
  R104 [a0, a1, a2, a3, a4, v96, v97, x101, x102, v103] G100);
  brB (some v98)
  (wv (vbin T .sub t_int v97 a3) fun v99 => J185 v99 v96 G)
  (J185 a1 a2 G)))
def slices_symMergeCmpFunc_escrow_api_Pending.an : Ann := .two (.two (.nil) (.two (.two (.nil) (.two (.nil) (.two (.loop [0, 1, 4, 10, 11] [false, false, false, false, false] (.two (.nil) (.two (.nil) (.two (.ord [(0, []), (1, []), (2, []), (3, []), (4, []), (5, []), (6, []), (7, []), (8, []), (9, []), (10, [])]) (.nil))))) (.two (.two (.nil) (.loop [0, 10, 13] [false, false, false] (.two (.nil) (.two (.ord [(0, []), (1, []), (2, []), (3, []), (4, []), (5, []), (6, []), (7, []), (8, []), (9, []), (10, []), (11, []), (12, []), (13, []), (14, []), (15, []), (16, []), (17, [])]) (.nil))))) (.nil))))) (.nil))) (.two (.two (.nil) (.two (.two (.nil) (.two (.nil) (.two (.loop [0, 2, 4, 14, 15] [false, false, false, false, false] (.two (.nil) (.two (.nil) (.two (.ord [(0, []), (1, []), (2, []), (3, []), (4, []), (5, []), (6, []), (7, []), (8, []), (9, []), (10, []), (11, [])]) (.nil))))) (.two (.two (.nil) (.loop [0, 14, 17] [false, false, false] (.two (.nil) (.two (.ord [(0, []), (1, []), (2, []), (3, []), (4, []), (5, []), (6, []), (7, []), (8, []), (9, []), (10, []), (11, []), (12, []), (13, []), (14, []), (15, []), (16, []), (17, [])]) (.nil))))) (.nil))))) (.nil))) (.two (.nil) (.two (.nil) (.two (.nil) (.two (.nil) (.two (.nil) (.two (.loop [0, 1, 2, 3, 4, 18, 19, 20, 21, 22] [false, false, false, false, false, false, false, false, false, false] (.two (.nil) (.two (.nil) (.two (.ord [(0, []), (1, []), (2, []), (3, []), (4, []), (5, []), (6, []), (7, []), (8, []), (9, []), (10, []), (11, []), (12, []), (13, [])]) (.nil))))) (.nil))))))))
set_option maxRecDepth 100000 in
theorem slices_symMergeCmpFunc_escrow_api_Pending.sound {a0 a1 a2 a3 a4 : AVal} {G : Heap} {Q : AVal → Heap → Prop} (h : slices_symMergeCmpFunc_escrow_api_Pending.S a0 a1 a2 a3 a4 G Q) : ACalls P slices_symMergeCmpFunc_escrow_api_Pending.n [a0, a1, a2, a3, a4] G Q := by
  have e : slices_symMergeCmpFunc_escrow_api_Pending.S a0 a1 a2 a3 a4 G Q = awp cx (slices_symMergeCmpFunc_escrow_api_Pending.body) slices_symMergeCmpFunc_escrow_api_Pending.an (bodyQ T [] Q) (envL [a0, a1, a2, a3, a4]) G := by kernel_rfl
  exact ACalls_of_awp cxOk (f := slices_symMergeCmpFunc_escrow_api_Pending.n) (fn := Tryz.f105) (c := slices_symMergeCmpFunc_escrow_api_Pending.body) (an := slices_symMergeCmpFunc_escrow_api_Pending.an) Tryz.func105 (by kernel_rfl) (by kernel_rfl) (by kernel_rfl) (drawsOk_of (by kernel_rfl) (by kernel_rfl)) (by simp [Tryz.f105]) (e ▸ h)

/-! #### slices.stableCmpFunc[escrow/api.Pending] -/
def slices_stableCmpFunc_escrow_api_Pending.S (a0 a1 a2 : AVal) (G : Heap) (Q : AVal → Heap → Prop) : Prop :=
  ∀ R1 : List AVal → Heap → Prop,
  (∀ (x3 x4 x5 x6 x7 x8 : AVal) (G2 : Heap), (wv (vbin T .leq t_int x8 x4) fun v9 => brB (some v9)
  (ACalls P slices_insertionSortCmpFunc_escrow_api_Pending.n [x3, x7, x8, x5] G2 fun v10 G11 => wv (vbin T .add t_int x8 x6) fun v12 => R1 [x3, x4, x5, x6, x8, v12] G11)
  (ACalls P slices_insertionSortCmpFunc_escrow_api_Pending.n [x3, x7, x4, x5] G2 fun v13 G14 => ∀ R15 : List AVal → Heap → Prop,
  (∀ (x17 x18 x19 x20 : AVal) (G16 : Heap), (wv (vbin T .lss t_int x20 x18) fun v21 => brB (some v21)
  (wv (vbin T .mul t_int (.int .i64 2) x20) fun v22 => ∀ R23 : List AVal → Heap → Prop,
  (∀ (x25 x26 x27 x28 x29 x30 : AVal) (G24 : Heap), (wv (vbin T .leq t_int x30 x26) fun v31 => brB (some v31)
  (wv (vbin T .add t_int x29 x28) fun v32 => ACalls P slices_symMergeCmpFunc_escrow_api_Pending.n [x25, x29, v32, x30, x27] G24 fun v33 G34 => wv (vbin T .mul t_int (.int .i64 2) x28) fun v35 => wv (vbin T .add t_int x30 v35) fun v36 => R23 [x25, x26, x27, x28, x30, v36] G34)
  (wv (vbin T .add t_int x29 x28) fun v37 => wv (vbin T .lss t_int v37 x26) fun v38 => brB (some v38)
  (ACalls P slices_symMergeCmpFunc_escrow_api_Pending.n [x25, x29, v37, x26, x27] G24 fun v39 G40 => wv (vbin T .mul t_int x28 (.int .i64 2)) fun v43 => R15 [x25, x26, x27, v43] G40)
  (wv (vbin T .mul t_int x28 (.int .i64 2)) fun v44 => R15 [x25, x26, x27, v44] G24))) → R23 [x25, x26, x27, x28, x29, x30] G24) →
  R23 [x17, x18, x19, x20, .int .i64 0, v22] G16)
  (Q (.tuple []) G16)) → R15 [x17, x18, x19, x20] G16) →
  R15 [x3, x4, x5, x6] G14)) → R1 [x3, x4, x5, x6, x7, x8] G2) →
  R1 [a0, a1, a2, .int .i64 20, .int .i64 0, .int .i64 20] G
def slices_stableCmpFunc_escrow_api_Pending.an : Ann := .two (.nil) (.two (.nil) (.two (.loop [0, 1, 2, 6, 7, 8] [false, false, false, false, false, false] (.nil)) (.two (.nil) (.loop [0, 1, 2, 6] [false, false, false, false] (.two (.nil) (.two (.nil) (.two (.loop [0, 1, 2, 6, 7, 8] [false, false, false, false, false, false] (.nil)) (.nil))))))))
set_option maxRecDepth 100000 in
theorem slices_stableCmpFunc_escrow_api_Pending.sound {a0 a1 a2 : AVal} {G : Heap} {Q : AVal → Heap → Prop} (h : slices_stableCmpFunc_escrow_api_Pending.S a0 a1 a2 G Q) : ACalls P slices_stableCmpFunc_escrow_api_Pending.n [a0, a1, a2] G Q := by
  have e : slices_stableCmpFunc_escrow_api_Pending.S a0 a1 a2 G Q = awp cx (slices_stableCmpFunc_escrow_api_Pending.body) slices_stableCmpFunc_escrow_api_Pending.an (bodyQ T [] Q) (envL [a0, a1, a2]) G := by kernel_rfl
  exact ACalls_of_awp cxOk (f := slices_stableCmpFunc_escrow_api_Pending.n) (fn := Tryz.f96) (c := slices_stableCmpFunc_escrow_api_Pending.body) (an := slices_stableCmpFunc_escrow_api_Pending.an) Tryz.func96 (by kernel_rfl) (by kernel_rfl) (by kernel_rfl) (drawsOk_of (by kernel_rfl) (by kernel_rfl)) (by simp [Tryz.f96]) (e ▸ h)

/-! #### slices.SortStableFunc[[]escrow/api.Pending,escrow/api.Pending] -/
def slices_SortStableFunc_escrow_api_Pending_escrow_api_Pending.S (a0 a1 : AVal) (G : Heap) (Q : AVal → Heap → Prop) : Prop :=
  wv (vlen T G t_sl_api_Pending a0) fun v1 => ACalls P slices_stableCmpFunc_escrow_api_Pending.n [a0, v1, a1] G fun v2 G3 => Q (.tuple []) G3
def slices_SortStableFunc_escrow_api_Pending_escrow_api_Pending.an : Ann := .nil
set_option maxRecDepth 100000 in
theorem slices_SortStableFunc_escrow_api_Pending_escrow_api_Pending.sound {a0 a1 : AVal} {G : Heap} {Q : AVal → Heap → Prop} (h : slices_SortStableFunc_escrow_api_Pending_escrow_api_Pending.S a0 a1 G Q) : ACalls P slices_SortStableFunc_escrow_api_Pending_escrow_api_Pending.n [a0, a1] G Q := by
  have e : slices_SortStableFunc_escrow_api_Pending_escrow_api_Pending.S a0 a1 G Q = awp cx (slices_SortStableFunc_escrow_api_Pending_escrow_api_Pending.body) slices_SortStableFunc_escrow_api_Pending_escrow_api_Pending.an (bodyQ T [] Q) (envL [a0, a1]) G := by kernel_rfl
  exact ACalls_of_awp cxOk (f := slices_SortStableFunc_escrow_api_Pending_escrow_api_Pending.n) (fn := Tryz.f80) (c := slices_SortStableFunc_escrow_api_Pending_escrow_api_Pending.body) (an := slices_SortStableFunc_escrow_api_Pending_escrow_api_Pending.an) Tryz.func80 (by kernel_rfl) (by kernel_rfl) (by kernel_rfl) (drawsOk_of (by kernel_rfl) (by kernel_rfl)) (by simp [Tryz.f80]) (e ▸ h)

/-! #### cmp.isNaN[int64] -/
def cmp_isNaN_int64.S (a0 : AVal) (G : Heap) (Q : AVal → Heap → Prop) : Prop :=
  wv (vbin T .neq t_int64 a0 a0) fun v1 => Q v1 G
def cmp_isNaN_int64.an : Ann := .nil
set_option maxRecDepth 100000 in
theorem cmp_isNaN_int64.sound {a0 : AVal} {G : Heap} {Q : AVal → Heap → Prop} (h : cmp_isNaN_int64.S a0 G Q) : ACalls P cmp_isNaN_int64.n [a0] G Q := by
  have e : cmp_isNaN_int64.S a0 G Q = awp cx (cmp_isNaN_int64.body) cmp_isNaN_int64.an (bodyQ T [.tmp 2] Q) (envL [a0]) G := by kernel_rfl
  exact ACalls_of_awp cxOk (f := cmp_isNaN_int64.n) (fn := Tryz.f97) (c := cmp_isNaN_int64.body) (an := cmp_isNaN_int64.an) Tryz.func97 (by kernel_rfl) (by kernel_rfl) (by kernel_rfl) (drawsOk_of (by kernel_rfl) (by kernel_rfl)) (by simp [Tryz.f97]) (e ▸ h)

/-! #### cmp.Compare[int64] -/
def cmp_Compare_int64.S (a0 a1 : AVal) (G : Heap) (Q : AVal → Heap → Prop) : Prop :=
  ACalls P cmp_isNaN_int64.n [a0] G fun v1 G2 => ACalls P cmp_isNaN_int64.n [a1] G2 fun v3 G4 => brB (some v1)
  (brB (some v3)
  (Q (.int .i64 0) G4)
  (Q (.int .i64 (-1)) G4))
  (brB (some v3)
  (Q (.int .i64 1) G4)
  (wv (vbin T .lss t_int64 a0 a1) fun v5 => brB (some v5)
  (Q (.int .i64 (-1)) G4)
  (wv (vbin T .gtr t_int64 a0 a1) fun v6 => brB (some v6)
  (Q (.int .i64 1) G4)
  (Q (.int .i64 0) G4))))
def cmp_Compare_int64.an : Ann := .nil
set_option maxRecDepth 100000 in
theorem cmp_Compare_int64.sound {a0 a1 : AVal} {G : Heap} {Q : AVal → Heap → Prop} (h : cmp_Compare_int64.S a0 a1 G Q) : ACalls P cmp_Compare_int64.n [a0, a1] G Q := by
  have e : cmp_Compare_int64.S a0 a1 G Q = awp cx (cmp_Compare_int64.body) cmp_Compare_int64.an (bodyQ T [.tmp 4] Q) (envL [a0, a1]) G := by kernel_rfl
  exact ACalls_of_awp cxOk (f := cmp_Compare_int64.n) (fn := Tryz.f82) (c := cmp_Compare_int64.body) (an := cmp_Compare_int64.an) Tryz.func82 (by kernel_rfl) (by kernel_rfl) (by kernel_rfl) (drawsOk_of (by kernel_rfl) (by kernel_rfl)) (by simp [Tryz.f82]) (e ▸ h)

/-! #### escrow/ledger.part$1 -/
def ledger_part_1.S (a0 a1 : AVal) (G : Heap) (Q : AVal → Heap → Prop) : Prop :=
  aNew G (.own (a0)) fun i1 G2 => aNew G2 (.own (a1)) fun i3 G4 => wv (vload T G4 t_int64 (.ptr i1 [1] 1)) fun v5 => wv (vload T G4 t_int64 (.ptr i3 [1] 1)) fun v6 => ACalls P cmp_Compare_int64.n [v5, v6] G4 fun v7 G8 => Q v7 G8
def ledger_part_1.an : Ann := .nil
set_option maxRecDepth 100000 in
theorem ledger_part_1.sound {a0 a1 : AVal} {G : Heap} {Q : AVal → Heap → Prop} (h : ledger_part_1.S a0 a1 G Q) : ACalls P ledger_part_1.n [a0, a1] G Q := by
  have e : ledger_part_1.S a0 a1 G Q = awp cx (ledger_part_1.body) ledger_part_1.an (bodyQ T [.tmp 4] Q) (envL [a0, a1]) G := by kernel_rfl
  exact ACalls_of_awp cxOk (f := ledger_part_1.n) (fn := Tryz.f81) (c := ledger_part_1.body) (an := ledger_part_1.an) Tryz.func81 (by kernel_rfl) (by kernel_rfl) (by kernel_rfl) (drawsOk_of (by kernel_rfl) (by kernel_rfl)) (by simp [Tryz.f81]) (e ▸ h)

/-! #### escrow/ledger.part -/
def ledger_part.S (a0 a1 a2 a3 a4 : AVal) (G : Heap) (Q : AVal → Heap → Prop) : Prop :=
  aNew G (.own (a3)) fun i1 G2 => aNew G2 (.own (a4)) fun i3 G4 => aNew G4 (.own (z_ledger_wide)) fun i5 G6 => aNew G6 (.own (z_ledger_wide)) fun i7 G8 => wv (vlen T G8 t_sl_api_Update a0) fun v9 => ∀ R10 : List AVal → Heap → Prop,
  (∀ (x12 x13 x14 x15 x16 x17 x18 x19 x20 x21 : AVal) (G11 : Heap), (wv (vbin T .lss t_int x21 x20) fun v22 => brB (some v22)
  (let J62 : AVal → Heap → Prop := (fun x60 G59 => wv (vbin T .add t_int x21 (.int .i64 1)) fun v61 => R10 [x12, x13, x14, x15, x16, x17, x60, x19, x20, v61] G59);
  wv (viaddr T t_sl_api_Update x19 x21) fun v23 => wv (vload T G11 t_api_Update v23) fun v24 => aNew G11 (.own (z_api_Update)) fun i25 G26 => wg (vstore T G26 t_api_Update (.ptr i25 [] 0) v24) fun G27 => let J58 : AVal → Heap → Prop := (fun x34 G33 => brB (some x34)
  (J62 x18 G33)
  (wv (vload T G33 t_ledger_wide x14) fun v35 => wv (vload T G33 t_int64 (.ptr i25 [2] 2)) fun v36 => ACalls P ledger_wide_minus.n [v35, v36] G33 fun v37 G38 => wg (vstore T G38 t_ledger_wide x14 v37) fun G39 => wv (vload T G39 t_int64 (.ptr i25 [1] 1)) fun v40 => wv (vlookup T G39 t_map_int64_int x12 v40 false) fun v41 => wv (vbin T .eql t_int v41 (.int .i64 2)) fun v42 => brB (some v42)
  (wv (vload T G39 t_ledger_wide x15) fun v43 => wv (vload T G39 t_int64 (.ptr i25 [2] 2)) fun v44 => ACalls P ledger_wide_plus.n [v43, v44] G39 fun v45 G46 => wg (vstore T G46 t_ledger_wide x15 v45) fun G47 => J62 x18 G47)
  (wv (vload T G39 t_int64 (.ptr i25 [1] 1)) fun v48 => wv (vload T G39 t_int64 (.ptr i25 [2] 2)) fun v49 => wv (vload T G39 t_api_Hash (.ptr i25 [3] 3)) fun v50 => wv (vbuild T t_api_Pending [(0, x13), (1, v48), (2, v49), (3, v50)]) fun v51 => aBuildSlice T t_sl_api_Pending 1 [(0, v51)] G39 fun v52 G53 => aAppend T G53 t_sl_api_Pending t_sl_api_Pending x18 v52 fun v54 G55 => J62 v54 G55)));
  wv (vload T G27 t_int (.ptr i25 [0] 0)) fun v28 => wv (vbin T .neq t_int v28 (.int .i64 1)) fun v29 => brB (some v29)
  (J58 (.bool true) G27)
  (wv (vload T G27 t_int64 (.ptr i25 [1] 1)) fun v30 => wv (vlookup T G27 t_map_int64_int x12 v30 false) fun v31 => wv (vbin T .eql t_int v31 (.int .i64 3)) fun v32 => J58 v32 G27))
  (ACalls P slices_SortStableFunc_escrow_api_Pending_escrow_api_Pending.n [x18, .func (.func ledger_part_1.n) [] []] G11 fun v63 G64 => wv (vload T G64 t_ledger_wide x14) fun v65 => wv (vload T G64 t_ledger_wide x15) fun v66 => wg (vstore T G64 t_ledger_wide x16 v65) fun G67 => (vload T G67 t_ledger_wide x15 = some v66 ∧ True) ∧ (wg (vstore T G67 t_ledger_wide x17 v66) fun G68 => wv (vload T G68 t_ledger_wide x16) fun v69 => wv (vload T G68 t_ledger_wide x17) fun v70 => Q (.tuple [v69, v70, x18]) G68))) → R10 [x12, x13, x14, x15, x16, x17, x18, x19, x20, x21] G11) →
  R10 [a1, a2, .ptr i1 [] 0, .ptr i3 [] 0, .ptr i5 [] 0, .ptr i7 [] 0, .nilSlice, a0, v9, .int .i64 0] G8
def ledger_part.an : Ann := .two (.nil) (.two (.nil) (.two (.two (.nil) (.loop [1, 2, 8, 9, 10, 11, 13, 16, 17, 18] [false, false, false, false, false, false, false, false, false, false] (.nil))) (.two (.nil) (.two (.ord [(0, []), (1, []), (2, []), (3, [1]), (4, []), (5, [])]) (.nil)))))
set_option maxRecDepth 100000 in
theorem ledger_part.sound {a0 a1 a2 a3 a4 : AVal} {G : Heap} {Q : AVal → Heap → Prop} (h : ledger_part.S a0 a1 a2 a3 a4 G Q) : ACalls P ledger_part.n [a0, a1, a2, a3, a4] G Q := by
  have e : ledger_part.S a0 a1 a2 a3 a4 G Q = awp cx (ledger_part.body) ledger_part.an (bodyQ T [.cell 10 96, .cell 11 96, .tmp 12] Q) (envL [a0, a1, a2, a3, a4]) G := by kernel_rfl
  exact ACalls_of_awp cxOk (f := ledger_part.n) (fn := Tryz.f58) (c := ledger_part.body) (an := ledger_part.an) Tryz.func58 (by kernel_rfl) (by kernel_rfl) (by kernel_rfl) (drawsOk_of (by kernel_rfl) (by kernel_rfl)) (by simp [Tryz.f58]) (e ▸ h)

/-! #### escrow/ledger.Fold -/
def ledger_Fold.S (a0 a1 a2 a3 a4 : AVal) (G : Heap) (Q : AVal → Heap → Prop) : Prop :=
  aNew G (.own (a4)) fun i1 G2 => aNew G2 (.own (z_api_Ledger)) fun i3 G4 => let J99 : AVal → Heap → Prop := (fun x16 G15 => brB (some x16)
  (wv (vbuild T t_api_Ledger []) fun v17 => wg (vstore T G15 t_api_Ledger (.ptr i3 [] 0) v17) fun G18 => wv (vload T G18 t_api_Ledger (.ptr i3 [] 0)) fun v19 => Q (.tuple [v19, .int .i64 1]) G18)
  (aBuildSlice T t_sl_int64 2 [(0, a0), (1, a1)] G15 fun v20 G21 => ACalls P amount_Sum.n [v20] G21 fun v22 G23 => wv (vextract v22 0) fun v24 => wv (vextract v22 1) fun v25 => wv (vbin T .neq t_api_Errno v25 (.int .i64 0)) fun v26 => brB (some v26)
  (wv (vbuild T t_api_Ledger []) fun v27 => wg (vstore T G23 t_api_Ledger (.ptr i3 [] 0) v27) fun G28 => wv (vload T G28 t_api_Ledger (.ptr i3 [] 0)) fun v29 => Q (.tuple [v29, .int .i64 1]) G28)
  (wv (vload T G23 t_int (.ptr i1 [0] 0)) fun v30 => wv (vslice T t_sl_api_Update a2 none (some (v30)) none) fun v31 => wv (vload T G23 t_int (.ptr i1 [1] 1)) fun v32 => wv (vslice T t_sl_api_Update a3 none (some (v32)) none) fun v33 => let J98 : AVal → Heap → Prop := (fun x39 G38 => brB (some x39)
  (wv (vbuild T t_api_Ledger []) fun v40 => wg (vstore T G38 t_api_Ledger (.ptr i3 [] 0) v40) fun G41 => wv (vload T G41 t_api_Ledger (.ptr i3 [] 0)) fun v42 => Q (.tuple [v42, .int .i64 120]) G41)
  (ACalls P ledger_removals.n [v33] G38 fun v43 G44 => wv (vbuild T t_ledger_wide []) fun v45 => ACalls P ledger_wide_plus.n [v45, a0] G44 fun v46 G47 => wv (vbuild T t_ledger_wide []) fun v48 => ACalls P ledger_wide_plus.n [v48, a1] G47 fun v49 G50 => ACalls P ledger_part.n [v31, v43, .bool true, v46, v49] G50 fun v51 G52 => wv (vextract v51 0) fun v53 => wv (vextract v51 1) fun v54 => wv (vextract v51 2) fun v55 => aNew G52 (.own (z_ledger_wide)) fun i56 G57 => aNew G57 (.own (z_ledger_wide)) fun i58 G59 => wg (vstore T G59 t_ledger_wide (.ptr i56 [] 0) v53) fun G60 => wg (vstore T G60 t_ledger_wide (.ptr i58 [] 0) v54) fun G61 => wv (vload T G61 t_ledger_wide (.ptr i58 [] 0)) fun v62 => wv (vload T G61 t_ledger_wide (.ptr i56 [] 0)) fun v63 => ACalls P ledger_removals.n [v31] G61 fun v64 G65 => (vload T G65 t_ledger_wide (.ptr i56 [] 0) = some v63 ∧ vload T G65 t_ledger_wide (.ptr i58 [] 0) = some v62 ∧ True) ∧ (ACalls P ledger_part.n [v33, v64, .bool false, v62, v63] G65 fun v66 G67 => wv (vextract v66 0) fun v68 => wv (vextract v66 1) fun v69 => wv (vextract v66 2) fun v70 => wg (vstore T G67 t_ledger_wide (.ptr i58 [] 0) v68) fun G71 => wg (vstore T G71 t_ledger_wide (.ptr i56 [] 0) v69) fun G72 => wv (vload T G72 t_ledger_wide (.ptr i56 [] 0)) fun v73 => wv (vload T G72 t_ledger_wide (.ptr i58 [] 0)) fun v74 => ACalls P ledger_wide_value.n [v73] G72 fun v75 G76 => (vload T G76 t_ledger_wide (.ptr i58 [] 0) = some v74 ∧ True) ∧ (ACalls P ledger_wide_value.n [v74] G76 fun v77 G78 => aAppend T G78 t_sl_api_Pending t_sl_api_Pending v55 v70 fun v79 G80 => wv (vbuild T t_api_Ledger [(0, v75), (1, v77), (2, v79)]) fun v81 => aNew G80 (.own (z_api_Ledger)) fun i82 G83 => wg (vstore T G83 t_api_Ledger (.ptr i82 [] 0) v81) fun G84 => let J97 : AVal → Heap → Prop := (fun x90 G89 => brB (some x90)
  (wv (vbuild T t_api_Ledger []) fun v91 => wg (vstore T G89 t_api_Ledger (.ptr i3 [] 0) v91) fun G92 => wv (vload T G92 t_api_Ledger (.ptr i3 [] 0)) fun v93 => Q (.tuple [v93, .int .i64 130]) G92)
  (wv (vload T G89 t_api_Ledger (.ptr i82 [] 0)) fun v94 => wg (vstore T G89 t_api_Ledger (.ptr i3 [] 0) v94) fun G95 => wv (vload T G95 t_api_Ledger (.ptr i3 [] 0)) fun v96 => Q (.tuple [v96, .int .i64 0]) G95));
  wv (vload T G84 t_int64 (.ptr i82 [0] 0)) fun v85 => wv (vbin T .lss t_int64 v85 (.int .i64 0)) fun v86 => brB (some v86)
  (J97 (.bool true) G84)
  (wv (vload T G84 t_int64 (.ptr i82 [1] 1)) fun v87 => wv (vbin T .lss t_int64 v87 (.int .i64 0)) fun v88 => J97 v88 G84)))));
  ACalls P slices_ContainsFunc_escrow_api_Update_escrow_api_Update.n [v31, .func (.func ledger_invalid.n) [] []] G23 fun v34 G35 => brB (some v34)
  (J98 (.bool true) G35)
  (ACalls P slices_ContainsFunc_escrow_api_Update_escrow_api_Update.n [v33, .func (.func ledger_invalid.n) [] []] G35 fun v36 G37 => J98 v36 G37))));
  wv (vload T G4 t_int (.ptr i1 [0] 0)) fun v5 => wv (vbin T .lss t_int v5 (.int .i64 0)) fun v6 => brB (some v6)
  (J99 (.bool true) G4)
  (wv (vload T G4 t_int (.ptr i1 [0] 0)) fun v7 => wv (vlen T G4 t_sl_api_Update a2) fun v8 => wv (vbin T .gtr t_int v7 v8) fun v9 => brB (some v9)
  (J99 (.bool true) G4)
  (wv (vload T G4 t_int (.ptr i1 [1] 1)) fun v10 => wv (vbin T .lss t_int v10 (.int .i64 0)) fun v11 => brB (some v11)
  (J99 (.bool true) G4)
  (wv (vload T G4 t_int (.ptr i1 [1] 1)) fun v12 => wv (vlen T G4 t_sl_api_Update a3) fun v13 => wv (vbin T .gtr t_int v12 v13) fun v14 => J99 v14 G4)))
def ledger_Fold.an : Ann := .two (.nil) (.two (.nil) (.two (.nil) (.two (.ord [(0, []), (1, []), (2, []), (3, []), (4, []), (5, []), (6, []), (7, []), (8, []), (9, [])]) (.two (.nil) (.two (.nil) (.two (.ord [(0, []), (1, []), (3, []), (4, []), (2, [3, 4]), (5, []), (6, []), (7, []), (8, []), (9, []), (10, []), (11, []), (12, [])]) (.two (.ord [(0, []), (2, []), (4, []), (5, []), (1, [2]), (3, []), (6, []), (7, []), (8, []), (9, [])]) (.nil))))))))
set_option maxRecDepth 100000 in
theorem ledger_Fold.sound {a0 a1 a2 a3 a4 : AVal} {G : Heap} {Q : AVal → Heap → Prop} (h : ledger_Fold.S a0 a1 a2 a3 a4 G Q) : ACalls P ledger_Fold.n [a0, a1, a2, a3, a4] G Q := by
  have e : ledger_Fold.S a0 a1 a2 a3 a4 G Q = awp cx (ledger_Fold.body) ledger_Fold.an (bodyQ T [.cell 10 68, .tmp 11] Q) (envL [a0, a1, a2, a3, a4]) G := by kernel_rfl
  exact ACalls_of_awp cxOk (f := ledger_Fold.n) (fn := Tryz.f28) (c := ledger_Fold.body) (an := ledger_Fold.an) Tryz.func28 (by kernel_rfl) (by kernel_rfl) (by kernel_rfl) (drawsOk_of (by kernel_rfl) (by kernel_rfl)) (by simp [Tryz.f28]) (e ▸ h)

/-! #### escrow/commit.sound -/
def commit_sound.S (a0 : AVal) (G : Heap) (Q : AVal → Heap → Prop) : Prop :=
  aNew G (.own (a0)) fun i1 G2 => let J62 : AVal → Heap → Prop := (fun x12 G11 => brB (some x12)
  (Q (.bool false) G11)
  (aNew G11 (.map []) fun i13 G14 => aNew G14 (.map []) fun i15 G16 => aMapUpdate T G16 t_map_bool_int64 (.map i15) (.bool true) (.int .i64 (-1)) fun G17 => aMapUpdate T G17 t_map_bool_int64 (.map i15) (.bool false) (.int .i64 (-1)) fun G18 => wv (vload T G18 t_sl_api_Pending (.ptr i1 [2] 2)) fun v19 => wv (vlen T G18 t_sl_api_Pending v19) fun v20 => ∀ R21 : List AVal → Heap → Prop,
  (∀ (x23 x24 x25 x26 x27 : AVal) (G22 : Heap), (wv (vbin T .lss t_int x27 x26) fun v28 => brB (some v28)
  (wv (viaddr T t_sl_api_Pending x25 x27) fun v29 => wv (vload T G22 t_api_Pending v29) fun v30 => aNew G22 (.own (z_api_Pending)) fun i31 G32 => wg (vstore T G32 t_api_Pending (.ptr i31 [] 0) v30) fun G33 => let J54 : AVal → Heap → Prop := (fun x46 G45 => brB (some x46)
  (Q (.bool false) G45)
  (wv (vload T G45 t_bool (.ptr i31 [0] 0)) fun v47 => wv (vload T G45 t_int64 (.ptr i31 [1] 1)) fun v48 => aMapUpdate T G45 t_map_bool_int64 x24 v47 v48 fun G49 => wv (vload T G49 t_bool (.ptr i31 [0] 0)) fun v50 => wv (vlookup T G49 t_map_bool_int x23 v50 false) fun v51 => wv (vbin T .add t_int v51 (.int .i64 1)) fun v52 => aMapUpdate T G49 t_map_bool_int x23 v50 v52 fun G53 => wv (vbin T .add t_int x27 (.int .i64 1)) fun v55 => R21 [x23, x24, x25, x26, v55] G53));
  wv (vload T G33 t_int64 (.ptr i31 [2] 2)) fun v34 => wv (vbin T .lss t_int64 v34 (.int .i64 1)) fun v35 => brB (some v35)
  (J54 (.bool true) G33)
  (wv (vload T G33 t_int64 (.ptr i31 [2] 2)) fun v36 => wv (vbin T .gtr t_int64 v36 (.int .i64 1152921504606846976)) fun v37 => brB (some v37)
  (J54 (.bool true) G33)
  (wv (vload T G33 t_int64 (.ptr i31 [1] 1)) fun v38 => wv (vload T G33 t_bool (.ptr i31 [0] 0)) fun v39 => wv (vlookup T G33 t_map_bool_int64 x24 v39 false) fun v40 => wv (vbin T .leq t_int64 v38 v40) fun v41 => brB (some v41)
  (J54 (.bool true) G33)
  (wv (vload T G33 t_bool (.ptr i31 [0] 0)) fun v42 => brB (some v42)
  (wv (vlookup T G33 t_map_bool_int x23 (.bool false) false) fun v43 => wv (vbin T .gtr t_int v43 (.int .i64 0)) fun v44 => J54 v44 G33)
  (J54 (.bool false) G33)))))
  (wv (vlookup T G22 t_map_bool_int x23 (.bool true) false) fun v56 => wv (vbin T .leq t_int v56 (.int .i64 483)) fun v57 => brB (some v57)
  (wv (vlookup T G22 t_map_bool_int x23 (.bool false) false) fun v58 => wv (vbin T .leq t_int v58 (.int .i64 483)) fun v59 => Q v59 G22)
  (Q (.bool false) G22))) → R21 [x23, x24, x25, x26, x27] G22) →
  R21 [.map i13, .map i15, v19, v20, .int .i64 0] G18));
  wv (vload T G2 t_int64 (.ptr i1 [0] 0)) fun v3 => wv (vbin T .lss t_int64 v3 (.int .i64 0)) fun v4 => brB (some v4)
  (J62 (.bool true) G2)
  (wv (vload T G2 t_int64 (.ptr i1 [0] 0)) fun v5 => wv (vbin T .gtr t_int64 v5 (.int .i64 1152921504606846976)) fun v6 => brB (some v6)
  (J62 (.bool true) G2)
  (wv (vload T G2 t_int64 (.ptr i1 [1] 1)) fun v7 => wv (vbin T .lss t_int64 v7 (.int .i64 0)) fun v8 => brB (some v8)
  (J62 (.bool true) G2)
  (wv (vload T G2 t_int64 (.ptr i1 [1] 1)) fun v9 => wv (vbin T .gtr t_int64 v9 (.int .i64 1152921504606846976)) fun v10 => J62 v10 G2)))
def commit_sound.an : Ann := .two (.nil) (.two (.nil) (.two (.nil) (.two (.nil) (.two (.two (.nil) (.loop [3, 4, 29, 30, 31] [false, false, false, false, false] (.nil))) (.nil)))))
set_option maxRecDepth 100000 in
theorem commit_sound.sound {a0 : AVal} {G : Heap} {Q : AVal → Heap → Prop} (h : commit_sound.S a0 G Q) : ACalls P commit_sound.n [a0] G Q := by
  have e : commit_sound.S a0 G Q = awp cx (commit_sound.body) commit_sound.an (bodyQ T [.tmp 2] Q) (envL [a0]) G := by kernel_rfl
  exact ACalls_of_awp cxOk (f := commit_sound.n) (fn := Tryz.f59) (c := commit_sound.body) (an := commit_sound.an) Tryz.func59 (by kernel_rfl) (by kernel_rfl) (by kernel_rfl) (drawsOk_of (by kernel_rfl) (by kernel_rfl)) (by simp [Tryz.f59]) (e ▸ h)

/-! #### escrow/cursor.New -/
def cursor_New.S (G : Heap) (Q : AVal → Heap → Prop) : Prop :=
  wv (vbuild T t_cursor_Writer []) fun v1 => aNew G (.own (v1)) fun i2 G3 => Q (.ptr i2 [] 0) G3
def cursor_New.an : Ann := .nil
set_option maxRecDepth 100000 in
theorem cursor_New.sound {G : Heap} {Q : AVal → Heap → Prop} (h : cursor_New.S G Q) : ACalls P cursor_New.n [] G Q := by
  have e : cursor_New.S G Q = awp cx (cursor_New.body) cursor_New.an (bodyQ T [.tmp 0] Q) (envL []) G := by kernel_rfl
  exact ACalls_of_awp cxOk (f := cursor_New.n) (fn := Tryz.f60) (c := cursor_New.body) (an := cursor_New.an) Tryz.func60 (by kernel_rfl) (by kernel_rfl) (by kernel_rfl) (drawsOk_of (by kernel_rfl) (by kernel_rfl)) (by simp [Tryz.f60]) (e ▸ h)

/-! #### escrow/cursor.lay[uint8] -/
def cursor_lay_uint8.S (a0 a1 a2 : AVal) (G : Heap) (Q : AVal → Heap → Prop) : Prop :=
  wv (vnil a0) fun v1 => wv (vfaddr T t_cursor_Writer v1 1) fun v2 => wv (vload T G t_api_Errno v2) fun v3 => wv (vbin T .neq t_api_Errno v3 (.int .i64 0)) fun v4 => brB (some v4)
  (Q (.tuple []) G)
  (wv (vbin T .sub t_int a2 (.int .i64 1)) fun v5 => ∀ R6 : List AVal → Heap → Prop,
  (∀ (x8 x9 x10 : AVal) (G7 : Heap), (wv (vbin T .geq t_int x10 (.int .i64 0)) fun v11 => brB (some v11)
  (wv (vnil x8) fun v12 => wv (vfaddr T t_cursor_Writer v12 0) fun v13 => wv (vload T G7 t_sl_uint8 v13) fun v14 => wv (vconv T G7 t_uint8 t_uint64 x9) fun v15 => wv (vbin T .mul t_int (.int .i64 8) x10) fun v16 => wv (vbin T .shr t_uint64 v15 v16) fun v17 => wv (vconv T G7 t_uint64 t_uint8 v17) fun v18 => aBuildSlice T t_sl_uint8 1 [(0, v18)] G7 fun v19 G20 => aAppend T G20 t_sl_uint8 t_sl_uint8 v14 v19 fun v21 G22 => wv (vnil x8) fun v23 => wv (vfaddr T t_cursor_Writer v23 0) fun v24 => wg (vstore T G22 t_sl_uint8 v24 v21) fun G25 => wv (vbin T .sub t_int x10 (.int .i64 1)) fun v26 => R6 [x8, x9, v26] G25)
  (Q (.tuple []) G7)) → R6 [x8, x9, x10] G7) →
  R6 [a0, a1, v5] G)
def cursor_lay_uint8.an : Ann := .two (.nil) (.two (.nil) (.loop [0, 1, 6] [false, false, false] (.two (.nil) (.two (.ord [(0, []), (1, []), (2, []), (3, []), (4, []), (5, []), (6, []), (7, []), (8, []), (9, []), (10, []), (11, []), (12, []), (13, []), (14, []), (15, [])]) (.nil)))))
set_option maxRecDepth 100000 in
theorem cursor_lay_uint8.sound {a0 a1 a2 : AVal} {G : Heap} {Q : AVal → Heap → Prop} (h : cursor_lay_uint8.S a0 a1 a2 G Q) : ACalls P cursor_lay_uint8.n [a0, a1, a2] G Q := by
  have e : cursor_lay_uint8.S a0 a1 a2 G Q = awp cx (cursor_lay_uint8.body) cursor_lay_uint8.an (bodyQ T [] Q) (envL [a0, a1, a2]) G := by kernel_rfl
  exact ACalls_of_awp cxOk (f := cursor_lay_uint8.n) (fn := Tryz.f83) (c := cursor_lay_uint8.body) (an := cursor_lay_uint8.an) Tryz.func83 (by kernel_rfl) (by kernel_rfl) (by kernel_rfl) (drawsOk_of (by kernel_rfl) (by kernel_rfl)) (by simp [Tryz.f83]) (e ▸ h)

/-! #### (*escrow/cursor.Writer).U8 -/
def cursor_Writer_U8.S (a0 a1 : AVal) (G : Heap) (Q : AVal → Heap → Prop) : Prop :=
  ACalls P cursor_lay_uint8.n [a0, a1, .int .i64 1] G fun v1 G2 => Q (.tuple []) G2
def cursor_Writer_U8.an : Ann := .nil
set_option maxRecDepth 100000 in
theorem cursor_Writer_U8.sound {a0 a1 : AVal} {G : Heap} {Q : AVal → Heap → Prop} (h : cursor_Writer_U8.S a0 a1 G Q) : ACalls P cursor_Writer_U8.n [a0, a1] G Q := by
  have e : cursor_Writer_U8.S a0 a1 G Q = awp cx (cursor_Writer_U8.body) cursor_Writer_U8.an (bodyQ T [] Q) (envL [a0, a1]) G := by kernel_rfl
  exact ACalls_of_awp cxOk (f := cursor_Writer_U8.n) (fn := Tryz.f61) (c := cursor_Writer_U8.body) (an := cursor_Writer_U8.an) Tryz.func61 (by kernel_rfl) (by kernel_rfl) (by kernel_rfl) (drawsOk_of (by kernel_rfl) (by kernel_rfl)) (by simp [Tryz.f61]) (e ▸ h)

/-! #### escrow/cursor.lay[uint64] -/
def cursor_lay_uint64.S (a0 a1 a2 : AVal) (G : Heap) (Q : AVal → Heap → Prop) : Prop :=
  wv (vnil a0) fun v1 => wv (vfaddr T t_cursor_Writer v1 1) fun v2 => wv (vload T G t_api_Errno v2) fun v3 => wv (vbin T .neq t_api_Errno v3 (.int .i64 0)) fun v4 => brB (some v4)
  (Q (.tuple []) G)
  (wv (vbin T .sub t_int a2 (.int .i64 1)) fun v5 => ∀ R6 : List AVal → Heap → Prop,
  (∀ (x8 x9 x10 : AVal) (G7 : Heap), (wv (vbin T .geq t_int x10 (.int .i64 0)) fun v11 => brB (some v11)
  (wv (vnil x8) fun v12 => wv (vfaddr T t_cursor_Writer v12 0) fun v13 => wv (vload T G7 t_sl_uint8 v13) fun v14 => wv (vbin T .mul t_int (.int .i64 8) x10) fun v15 => wv (vbin T .shr t_uint64 x9 v15) fun v16 => wv (vconv T G7 t_uint64 t_uint8 v16) fun v17 => aBuildSlice T t_sl_uint8 1 [(0, v17)] G7 fun v18 G19 => aAppend T G19 t_sl_uint8 t_sl_uint8 v14 v18 fun v20 G21 => wv (vnil x8) fun v22 => wv (vfaddr T t_cursor_Writer v22 0) fun v23 => wg (vstore T G21 t_sl_uint8 v23 v20) fun G24 => wv (vbin T .sub t_int x10 (.int .i64 1)) fun v25 => R6 [x8, x9, v25] G24)
  (Q (.tuple []) G7)) → R6 [x8, x9, x10] G7) →
  R6 [a0, a1, v5] G)
def cursor_lay_uint64.an : Ann := .two (.nil) (.two (.nil) (.loop [0, 1, 6] [false, false, false] (.two (.nil) (.two (.ord [(0, []), (1, []), (2, []), (3, []), (4, []), (5, []), (6, []), (7, []), (8, []), (9, []), (10, []), (11, []), (12, []), (13, []), (14, [])]) (.nil)))))
set_option maxRecDepth 100000 in
theorem cursor_lay_uint64.sound {a0 a1 a2 : AVal} {G : Heap} {Q : AVal → Heap → Prop} (h : cursor_lay_uint64.S a0 a1 a2 G Q) : ACalls P cursor_lay_uint64.n [a0, a1, a2] G Q := by
  have e : cursor_lay_uint64.S a0 a1 a2 G Q = awp cx (cursor_lay_uint64.body) cursor_lay_uint64.an (bodyQ T [] Q) (envL [a0, a1, a2]) G := by kernel_rfl
  exact ACalls_of_awp cxOk (f := cursor_lay_uint64.n) (fn := Tryz.f84) (c := cursor_lay_uint64.body) (an := cursor_lay_uint64.an) Tryz.func84 (by kernel_rfl) (by kernel_rfl) (by kernel_rfl) (drawsOk_of (by kernel_rfl) (by kernel_rfl)) (by simp [Tryz.f84]) (e ▸ h)

/-! #### (*escrow/cursor.Writer).I64 -/
def cursor_Writer_I64.S (a0 a1 : AVal) (G : Heap) (Q : AVal → Heap → Prop) : Prop :=
  wv (vconv T G t_int64 t_uint64 a1) fun v1 => ACalls P cursor_lay_uint64.n [a0, v1, .int .i64 8] G fun v2 G3 => Q (.tuple []) G3
def cursor_Writer_I64.an : Ann := .nil
set_option maxRecDepth 100000 in
theorem cursor_Writer_I64.sound {a0 a1 : AVal} {G : Heap} {Q : AVal → Heap → Prop} (h : cursor_Writer_I64.S a0 a1 G Q) : ACalls P cursor_Writer_I64.n [a0, a1] G Q := by
  have e : cursor_Writer_I64.S a0 a1 G Q = awp cx (cursor_Writer_I64.body) cursor_Writer_I64.an (bodyQ T [] Q) (envL [a0, a1]) G := by kernel_rfl
  exact ACalls_of_awp cxOk (f := cursor_Writer_I64.n) (fn := Tryz.f62) (c := cursor_Writer_I64.body) (an := cursor_Writer_I64.an) Tryz.func62 (by kernel_rfl) (by kernel_rfl) (by kernel_rfl) (drawsOk_of (by kernel_rfl) (by kernel_rfl)) (by simp [Tryz.f62]) (e ▸ h)

/-! #### (*escrow/cursor.Writer).Raw -/
def cursor_Writer_Raw.S (a0 a1 : AVal) (G : Heap) (Q : AVal → Heap → Prop) : Prop :=
  wv (vnil a0) fun v1 => wv (vfaddr T t_cursor_Writer v1 1) fun v2 => wv (vload T G t_api_Errno v2) fun v3 => wv (vbin T .eql t_api_Errno v3 (.int .i64 0)) fun v4 => brB (some v4)
  (wv (vnil a0) fun v5 => wv (vfaddr T t_cursor_Writer v5 0) fun v6 => wv (vload T G t_sl_uint8 v6) fun v7 => aAppend T G t_sl_uint8 t_string v7 a1 fun v8 G9 => wv (vnil a0) fun v10 => wv (vfaddr T t_cursor_Writer v10 0) fun v11 => wg (vstore T G9 t_sl_uint8 v11 v8) fun G12 => Q (.tuple []) G12)
  (Q (.tuple []) G)
def cursor_Writer_Raw.an : Ann := .nil
set_option maxRecDepth 100000 in
theorem cursor_Writer_Raw.sound {a0 a1 : AVal} {G : Heap} {Q : AVal → Heap → Prop} (h : cursor_Writer_Raw.S a0 a1 G Q) : ACalls P cursor_Writer_Raw.n [a0, a1] G Q := by
  have e : cursor_Writer_Raw.S a0 a1 G Q = awp cx (cursor_Writer_Raw.body) cursor_Writer_Raw.an (bodyQ T [] Q) (envL [a0, a1]) G := by kernel_rfl
  exact ACalls_of_awp cxOk (f := cursor_Writer_Raw.n) (fn := Tryz.f85) (c := cursor_Writer_Raw.body) (an := cursor_Writer_Raw.an) Tryz.func85 (by kernel_rfl) (by kernel_rfl) (by kernel_rfl) (drawsOk_of (by kernel_rfl) (by kernel_rfl)) (by simp [Tryz.f85]) (e ▸ h)

/-! #### (*escrow/cursor.Writer).Hash -/
def cursor_Writer_Hash.S (a0 a1 : AVal) (G : Heap) (Q : AVal → Heap → Prop) : Prop :=
  aNew G (.own (a1)) fun i1 G2 => wv (vslice T t_api_Hash (.ptr i1 [] 0) none none none) fun v3 => wv (vconv T G2 t_sl_uint8 t_string v3) fun v4 => ACalls P cursor_Writer_Raw.n [a0, v4] G2 fun v5 G6 => Q (.tuple []) G6
def cursor_Writer_Hash.an : Ann := .nil
set_option maxRecDepth 100000 in
theorem cursor_Writer_Hash.sound {a0 a1 : AVal} {G : Heap} {Q : AVal → Heap → Prop} (h : cursor_Writer_Hash.S a0 a1 G Q) : ACalls P cursor_Writer_Hash.n [a0, a1] G Q := by
  have e : cursor_Writer_Hash.S a0 a1 G Q = awp cx (cursor_Writer_Hash.body) cursor_Writer_Hash.an (bodyQ T [] Q) (envL [a0, a1]) G := by kernel_rfl
  exact ACalls_of_awp cxOk (f := cursor_Writer_Hash.n) (fn := Tryz.f63) (c := cursor_Writer_Hash.body) (an := cursor_Writer_Hash.an) Tryz.func63 (by kernel_rfl) (by kernel_rfl) (by kernel_rfl) (drawsOk_of (by kernel_rfl) (by kernel_rfl)) (by simp [Tryz.f63]) (e ▸ h)

/-! #### escrow/cursor.lay[uint16] -/
def cursor_lay_uint16.S (a0 a1 a2 : AVal) (G : Heap) (Q : AVal → Heap → Prop) : Prop :=
  wv (vnil a0) fun v1 => wv (vfaddr T t_cursor_Writer v1 1) fun v2 => wv (vload T G t_api_Errno v2) fun v3 => wv (vbin T .neq t_api_Errno v3 (.int .i64 0)) fun v4 => brB (some v4)
  (Q (.tuple []) G)
  (wv (vbin T .sub t_int a2 (.int .i64 1)) fun v5 => ∀ R6 : List AVal → Heap → Prop,
  (∀ (x8 x9 x10 : AVal) (G7 : Heap), (wv (vbin T .geq t_int x10 (.int .i64 0)) fun v11 => brB (some v11)
  (wv (vnil x8) fun v12 => wv (vfaddr T t_cursor_Writer v12 0) fun v13 => wv (vload T G7 t_sl_uint8 v13) fun v14 => wv (vconv T G7 t_uint16 t_uint64 x9) fun v15 => wv (vbin T .mul t_int (.int .i64 8) x10) fun v16 => wv (vbin T .shr t_uint64 v15 v16) fun v17 => wv (vconv T G7 t_uint64 t_uint8 v17) fun v18 => aBuildSlice T t_sl_uint8 1 [(0, v18)] G7 fun v19 G20 => aAppend T G20 t_sl_uint8 t_sl_uint8 v14 v19 fun v21 G22 => wv (vnil x8) fun v23 => wv (vfaddr T t_cursor_Writer v23 0) fun v24 => wg (vstore T G22 t_sl_uint8 v24 v21) fun G25 => wv (vbin T .sub t_int x10 (.int .i64 1)) fun v26 => R6 [x8, x9, v26] G25)
  (Q (.tuple []) G7)) → R6 [x8, x9, x10] G7) →
  R6 [a0, a1, v5] G)
def cursor_lay_uint16.an : Ann := .two (.nil) (.two (.nil) (.loop [0, 1, 6] [false, false, false] (.two (.nil) (.two (.ord [(0, []), (1, []), (2, []), (3, []), (4, []), (5, []), (6, []), (7, []), (8, []), (9, []), (10, []), (11, []), (12, []), (13, []), (14, []), (15, [])]) (.nil)))))
set_option maxRecDepth 100000 in
theorem cursor_lay_uint16.sound {a0 a1 a2 : AVal} {G : Heap} {Q : AVal → Heap → Prop} (h : cursor_lay_uint16.S a0 a1 a2 G Q) : ACalls P cursor_lay_uint16.n [a0, a1, a2] G Q := by
  have e : cursor_lay_uint16.S a0 a1 a2 G Q = awp cx (cursor_lay_uint16.body) cursor_lay_uint16.an (bodyQ T [] Q) (envL [a0, a1, a2]) G := by kernel_rfl
  exact ACalls_of_awp cxOk (f := cursor_lay_uint16.n) (fn := Tryz.f86) (c := cursor_lay_uint16.body) (an := cursor_lay_uint16.an) Tryz.func86 (by kernel_rfl) (by kernel_rfl) (by kernel_rfl) (drawsOk_of (by kernel_rfl) (by kernel_rfl)) (by simp [Tryz.f86]) (e ▸ h)

/-! #### (*escrow/cursor.Writer).U16 -/
def cursor_Writer_U16.S (a0 a1 : AVal) (G : Heap) (Q : AVal → Heap → Prop) : Prop :=
  ACalls P cursor_lay_uint16.n [a0, a1, .int .i64 2] G fun v1 G2 => Q (.tuple []) G2
def cursor_Writer_U16.an : Ann := .nil
set_option maxRecDepth 100000 in
theorem cursor_Writer_U16.sound {a0 a1 : AVal} {G : Heap} {Q : AVal → Heap → Prop} (h : cursor_Writer_U16.S a0 a1 G Q) : ACalls P cursor_Writer_U16.n [a0, a1] G Q := by
  have e : cursor_Writer_U16.S a0 a1 G Q = awp cx (cursor_Writer_U16.body) cursor_Writer_U16.an (bodyQ T [] Q) (envL [a0, a1]) G := by kernel_rfl
  exact ACalls_of_awp cxOk (f := cursor_Writer_U16.n) (fn := Tryz.f64) (c := cursor_Writer_U16.body) (an := cursor_Writer_U16.an) Tryz.func64 (by kernel_rfl) (by kernel_rfl) (by kernel_rfl) (drawsOk_of (by kernel_rfl) (by kernel_rfl)) (by simp [Tryz.f64]) (e ▸ h)

/-! #### (*escrow/cursor.Writer).Out -/
def cursor_Writer_Out.S (a0 : AVal) (G : Heap) (Q : AVal → Heap → Prop) : Prop :=
  wv (vnil a0) fun v1 => wv (vfaddr T t_cursor_Writer v1 1) fun v2 => wv (vload T G t_api_Errno v2) fun v3 => wv (vbin T .neq t_api_Errno v3 (.int .i64 0)) fun v4 => brB (some v4)
  (wv (vnil a0) fun v5 => wv (vfaddr T t_cursor_Writer v5 1) fun v6 => wv (vload T G t_api_Errno v6) fun v7 => Q (.tuple [.str [], v7]) G)
  (wv (vnil a0) fun v8 => wv (vfaddr T t_cursor_Writer v8 0) fun v9 => wv (vload T G t_sl_uint8 v9) fun v10 => wv (vconv T G t_sl_uint8 t_string v10) fun v11 => Q (.tuple [v11, .int .i64 0]) G)
def cursor_Writer_Out.an : Ann := .two (.nil) (.two (.two (.nil) (.two (.two (.ord [(0, []), (1, []), (2, []), (3, []), (4, []), (5, [])]) (.nil)) (.nil))) (.nil))
set_option maxRecDepth 100000 in
theorem cursor_Writer_Out.sound {a0 : AVal} {G : Heap} {Q : AVal → Heap → Prop} (h : cursor_Writer_Out.S a0 G Q) : ACalls P cursor_Writer_Out.n [a0] G Q := by
  have e : cursor_Writer_Out.S a0 G Q = awp cx (cursor_Writer_Out.body) cursor_Writer_Out.an (bodyQ T [.tmp 2, .tmp 3] Q) (envL [a0]) G := by kernel_rfl
  exact ACalls_of_awp cxOk (f := cursor_Writer_Out.n) (fn := Tryz.f65) (c := cursor_Writer_Out.body) (an := cursor_Writer_Out.an) Tryz.func65 (by kernel_rfl) (by kernel_rfl) (by kernel_rfl) (drawsOk_of (by kernel_rfl) (by kernel_rfl)) (by simp [Tryz.f65]) (e ▸ h)

/-! #### escrow/commit.Text -/
def commit_Text.S (a0 a1 a2 a3 : AVal) (G : Heap) (Q : AVal → Heap → Prop) : Prop :=
  aNew G (.own (a2)) fun i1 G2 => aNew G2 (.own (a3)) fun i3 G4 => let J71 : AVal → Heap → Prop := (fun x10 G9 => brB (some x10)
  (Q (.tuple [.str [], .int .i64 1]) G9)
  (wv (vload T G9 t_api_Ledger (.ptr i3 [] 0)) fun v11 => ACalls P commit_sound.n [v11] G9 fun v12 G13 => wv (vun .not v12) fun v14 => brB (some v14)
  (Q (.tuple [.str [], .int .i64 4]) G13)
  (ACalls P cursor_New.n [] G13 fun v15 G16 => wv (vconv T G16 t_int t_uint8 a0) fun v17 => ACalls P cursor_Writer_U8.n [v15, v17] G16 fun v18 G19 => ACalls P cursor_Writer_I64.n [v15, a1] G19 fun v20 G21 => wv (vload T G21 t_api_Hash (.ptr i1 [] 0)) fun v22 => ACalls P cursor_Writer_Hash.n [v15, v22] G21 fun v23 G24 => wv (vload T G24 t_int64 (.ptr i3 [0] 0)) fun v25 => ACalls P cursor_Writer_I64.n [v15, v25] G24 fun v26 G27 => wv (vload T G27 t_int64 (.ptr i3 [1] 1)) fun v28 => ACalls P cursor_Writer_I64.n [v15, v28] G27 fun v29 G30 => wv (vload T G30 t_sl_api_Pending (.ptr i3 [2] 2)) fun v31 => wv (vlen T G30 t_sl_api_Pending v31) fun v32 => wv (vconv T G30 t_int t_uint16 v32) fun v33 => ACalls P cursor_Writer_U16.n [v15, v33] G30 fun v34 G35 => wv (vload T G35 t_sl_api_Pending (.ptr i3 [2] 2)) fun v36 => wv (vlen T G35 t_sl_api_Pending v36) fun v37 => ∀ R38 : List AVal → Heap → Prop,
  (∀ (x40 x41 x42 x43 : AVal) (G39 : Heap), (wv (vbin T .lss t_int x43 x42) fun v44 => brB (some v44)
  (wv (viaddr T t_sl_api_Pending x41 x43) fun v45 => wv (vload T G39 t_api_Pending v45) fun v46 => aNew G39 (.own (z_api_Pending)) fun i47 G48 => wg (vstore T G48 t_api_Pending (.ptr i47 [] 0) v46) fun G49 => wv (vload T G49 t_bool (.ptr i47 [0] 0)) fun v50 => let J65 : Heap → Prop := (fun G55 => wv (vload T G55 t_int64 (.ptr i47 [1] 1)) fun v56 => ACalls P cursor_Writer_I64.n [x40, v56] G55 fun v57 G58 => wv (vload T G58 t_int64 (.ptr i47 [2] 2)) fun v59 => ACalls P cursor_Writer_I64.n [x40, v59] G58 fun v60 G61 => wv (vload T G61 t_api_Hash (.ptr i47 [3] 3)) fun v62 => ACalls P cursor_Writer_Hash.n [x40, v62] G61 fun v63 G64 => wv (vbin T .add t_int x43 (.int .i64 1)) fun v66 => R38 [x40, x41, x42, v66] G64);
  brB (some v50)
  (ACalls P cursor_Writer_U8.n [x40, .int .u8 1] G49 fun v51 G52 => J65 G52)
  (ACalls P cursor_Writer_U8.n [x40, .int .u8 0] G49 fun v53 G54 => J65 G54))
  (ACalls P cursor_Writer_Out.n [x40] G39 fun v67 G68 => wv (vextract v67 0) fun v69 => wv (vextract v67 1) fun v70 => Q (.tuple [v69, v70]) G68)) → R38 [x40, x41, x42, x43] G39) →
  R38 [v15, v36, v37, .int .i64 0] G35)));
  wv (vbin T .lss t_int a0 (.int .i64 0)) fun v5 => brB (some v5)
  (J71 (.bool true) G4)
  (wv (vbin T .gtr t_int a0 (.int .i64 1)) fun v6 => brB (some v6)
  (J71 (.bool true) G4)
  (wv (vbin T .lss t_int64 a1 (.int .i64 0)) fun v7 => brB (some v7)
  (J71 (.bool true) G4)
  (wv (vbin T .gtr t_int64 a1 (.int .i64 281474976710655)) fun v8 => J71 v8 G4)))
def commit_Text.an : Ann := .two (.nil) (.two (.nil) (.two (.nil) (.two (.nil) (.two (.nil) (.two (.nil) (.two (.nil) (.two (.nil) (.two (.nil) (.two (.nil) (.two (.two (.nil) (.loop [10, 56, 57, 58] [false, false, false, false] (.nil))) (.nil)))))))))))
set_option maxRecDepth 100000 in
theorem commit_Text.sound {a0 a1 a2 a3 : AVal} {G : Heap} {Q : AVal → Heap → Prop} (h : commit_Text.S a0 a1 a2 a3 G Q) : ACalls P commit_Text.n [a0, a1, a2, a3] G Q := by
  have e : commit_Text.S a0 a1 a2 a3 G Q = awp cx (commit_Text.body) commit_Text.an (bodyQ T [.tmp 8, .tmp 9] Q) (envL [a0, a1, a2, a3]) G := by kernel_rfl
  exact ACalls_of_awp cxOk (f := commit_Text.n) (fn := Tryz.f29) (c := commit_Text.body) (an := commit_Text.an) Tryz.func29 (by kernel_rfl) (by kernel_rfl) (by kernel_rfl) (drawsOk_of (by kernel_rfl) (by kernel_rfl)) (by simp [Tryz.f29]) (e ▸ h)

/-! #### escrow/seed.right -/
def seed_right.S (a0 : AVal) (G : Heap) (Q : AVal → Heap → Prop) : Prop :=
  wv (vbin T .geq t_int64 a0 (.int .i64 0)) fun v1 => brB (some v1)
  (wv (vbin T .leq t_int64 a0 (.int .i64 281474976710655)) fun v2 => Q v2 G)
  (Q (.bool false) G)
def seed_right.an : Ann := .nil
set_option maxRecDepth 100000 in
theorem seed_right.sound {a0 : AVal} {G : Heap} {Q : AVal → Heap → Prop} (h : seed_right.S a0 G Q) : ACalls P seed_right.n [a0] G Q := by
  have e : seed_right.S a0 G Q = awp cx (seed_right.body) seed_right.an (bodyQ T [.tmp 2] Q) (envL [a0]) G := by kernel_rfl
  exact ACalls_of_awp cxOk (f := seed_right.n) (fn := Tryz.f71) (c := seed_right.body) (an := seed_right.an) Tryz.func71 (by kernel_rfl) (by kernel_rfl) (by kernel_rfl) (drawsOk_of (by kernel_rfl) (by kernel_rfl)) (by simp [Tryz.f71]) (e ▸ h)

/-! #### escrow/hash.constants -/
def hash_constants.S (G : Heap) (Q : AVal → Heap → Prop) : Prop :=
  aNew G (.own (z_ar64_uint32)) fun i1 G2 => wv (vbuild T t_ar64_uint32 [(0, .int .u32 1116352408), (1, .int .u32 1899447441), (2, .int .u32 3049323471), (3, .int .u32 3921009573), (4, .int .u32 961987163), (5, .int .u32 1508970993), (6, .int .u32 2453635748), (7, .int .u32 2870763221), (8, .int .u32 3624381080), (9, .int .u32 310598401), (10, .int .u32 607225278), (11, .int .u32 1426881987), (12, .int .u32 1925078388), (13, .int .u32 2162078206), (14, .int .u32 2614888103), (15, .int .u32 3248222580), (16, .int .u32 3835390401), (17, .int .u32 4022224774), (18, .int .u32 264347078), (19, .int .u32 604807628), (20, .int .u32 770255983), (21, .int .u32 1249150122), (22, .int .u32 1555081692), (23, .int .u32 1996064986), (24, .int .u32 2554220882), (25, .int .u32 2821834349), (26, .int .u32 2952996808), (27, .int .u32 3210313671), (28, .int .u32 3336571891), (29, .int .u32 3584528711), (30, .int .u32 113926993), (31, .int .u32 338241895), (32, .int .u32 666307205), (33, .int .u32 773529912), (34, .int .u32 1294757372), (35, .int .u32 1396182291), (36, .int .u32 1695183700), (37, .int .u32 1986661051), (38, .int .u32 2177026350), (39, .int .u32 2456956037), (40, .int .u32 2730485921), (41, .int .u32 2820302411), (42, .int .u32 3259730800), (43, .int .u32 3345764771), (44, .int .u32 3516065817), (45, .int .u32 3600352804), (46, .int .u32 4094571909), (47, .int .u32 275423344), (48, .int .u32 430227734), (49, .int .u32 506948616), (50, .int .u32 659060556), (51, .int .u32 883997877), (52, .int .u32 958139571), (53, .int .u32 1322822218), (54, .int .u32 1537002063), (55, .int .u32 1747873779), (56, .int .u32 1955562222), (57, .int .u32 2024104815), (58, .int .u32 2227730452), (59, .int .u32 2361852424), (60, .int .u32 2428436474), (61, .int .u32 2756734187), (62, .int .u32 3204031479), (63, .int .u32 3329325298)]) fun v3 => wg (vstore T G2 t_ar64_uint32 (.ptr i1 [] 0) v3) fun G4 => wv (vload T G4 t_ar64_uint32 (.ptr i1 [] 0)) fun v5 => Q v5 G4
def hash_constants.an : Ann := .nil
set_option maxRecDepth 100000 in
theorem hash_constants.sound {G : Heap} {Q : AVal → Heap → Prop} (h : hash_constants.S G Q) : ACalls P hash_constants.n [] G Q := by
  have e : hash_constants.S G Q = awp cx (hash_constants.body) hash_constants.an (bodyQ T [.cell 0 149] Q) (envL []) G := by kernel_rfl
  exact ACalls_of_awp cxOk (f := hash_constants.n) (fn := Tryz.f89) (c := hash_constants.body) (an := hash_constants.an) Tryz.func89 (by kernel_rfl) (by kernel_rfl) (by kernel_rfl) (drawsOk_of (by kernel_rfl) (by kernel_rfl)) (by simp [Tryz.f89]) (e ▸ h)

/-! #### math/bits.RotateLeft32 -/
def bits_RotateLeft32.S (a0 a1 : AVal) (G : Heap) (Q : AVal → Heap → Prop) : Prop :=
  wv (vconv T G t_int t_uint a1) fun v1 => wv (vbin T .and t_uint v1 (.int .u64 31)) fun v2 => wv (vbin T .shl t_uint32 a0 v2) fun v3 => wv (vbin T .sub t_uint (.int .u64 32) v2) fun v4 => wv (vbin T .shr t_uint32 a0 v4) fun v5 => wv (vbin T .or t_uint32 v3 v5) fun v6 => Q v6 G
def bits_RotateLeft32.an : Ann := .nil
set_option maxRecDepth 100000 in
theorem bits_RotateLeft32.sound {a0 a1 : AVal} {G : Heap} {Q : AVal → Heap → Prop} (h : bits_RotateLeft32.S a0 a1 G Q) : ACalls P bits_RotateLeft32.n [a0, a1] G Q := by
  have e : bits_RotateLeft32.S a0 a1 G Q = awp cx (bits_RotateLeft32.body) bits_RotateLeft32.an (bodyQ T [.tmp 4] Q) (envL [a0, a1]) G := by kernel_rfl
  exact ACalls_of_awp cxOk (f := bits_RotateLeft32.n) (fn := Tryz.f102) (c := bits_RotateLeft32.body) (an := bits_RotateLeft32.an) Tryz.func102 (by kernel_rfl) (by kernel_rfl) (by kernel_rfl) (drawsOk_of (by kernel_rfl) (by kernel_rfl)) (by simp [Tryz.f102]) (e ▸ h)

/-! #### escrow/hash.schedule -/
def hash_schedule.S (a0 : AVal) (G : Heap) (Q : AVal → Heap → Prop) : Prop :=
  aNew G (.own (z_ar64_uint32)) fun i1 G2 => aNew G2 (.own (z_ar64_uint32)) fun i3 G4 => ∀ R5 : List AVal → Heap → Prop,
  (∀ (x7 x8 x9 x10 : AVal) (G6 : Heap), (wv (vbin T .lss t_int x10 (.int .i64 16)) fun v11 => brB (some v11)
  (∀ R12 : List AVal → Heap → Prop,
  (∀ (x14 x15 x16 x17 x18 x19 : AVal) (G13 : Heap), (wv (vbin T .lss t_int x19 (.int .i64 4)) fun v20 => brB (some v20)
  (wv (viaddr T t_ar64_uint32 x16 x17) fun v21 => wv (vload T G13 t_uint32 v21) fun v22 => wv (vbin T .shl t_uint32 v22 (.int .u64 8)) fun v23 => wv (vbin T .mul t_int (.int .i64 4) x17) fun v24 => wv (vbin T .add t_int v24 x19) fun v25 => wv (vindex T t_string x14 v25) fun v26 => wv (vconv T G13 t_uint8 t_uint32 v26) fun v27 => wv (vbin T .or t_uint32 v23 v27) fun v28 => wv (viaddr T t_ar64_uint32 x16 x17) fun v29 => wg (vstore T G13 t_uint32 v29 v28) fun G30 => wv (vbin T .add t_int x19 (.int .i64 1)) fun v31 => R12 [x14, x15, x16, x17, x18, v31] G30)
  (wv (vbin T .add t_int x18 (.int .i64 1)) fun v32 => R5 [x14, x15, x16, v32] G13)) → R12 [x14, x15, x16, x17, x18, x19] G13) →
  R12 [x7, x8, x9, x10, x10, .int .i64 0] G6)
  (∀ R33 : List AVal → Heap → Prop,
  (∀ (x35 x36 x37 : AVal) (G34 : Heap), (wv (vbin T .lss t_int x37 (.int .i64 64)) fun v38 => brB (some v38)
  (wv (vbin T .sub t_int x37 (.int .i64 15)) fun v39 => wv (viaddr T t_ar64_uint32 x36 v39) fun v40 => wv (vload T G34 t_uint32 v40) fun v41 => wv (vbin T .sub t_int x37 (.int .i64 2)) fun v42 => wv (viaddr T t_ar64_uint32 x36 v42) fun v43 => wv (vload T G34 t_uint32 v43) fun v44 => ACalls P bits_RotateLeft32.n [v41, .int .i64 (-7)] G34 fun v45 G46 => ACalls P bits_RotateLeft32.n [v41, .int .i64 (-18)] G46 fun v47 G48 => wv (vbin T .xor t_uint32 v45 v47) fun v49 => wv (vbin T .shr t_uint32 v41 (.int .u64 3)) fun v50 => wv (vbin T .xor t_uint32 v49 v50) fun v51 => ACalls P bits_RotateLeft32.n [v44, .int .i64 (-17)] G48 fun v52 G53 => ACalls P bits_RotateLeft32.n [v44, .int .i64 (-19)] G53 fun v54 G55 => wv (vbin T .xor t_uint32 v52 v54) fun v56 => wv (vbin T .shr t_uint32 v44 (.int .u64 10)) fun v57 => wv (vbin T .xor t_uint32 v56 v57) fun v58 => wv (vbin T .sub t_int x37 (.int .i64 16)) fun v59 => wv (viaddr T t_ar64_uint32 x36 v59) fun v60 => wv (vload T G55 t_uint32 v60) fun v61 => wv (vbin T .add t_uint32 v61 v51) fun v62 => wv (vbin T .sub t_int x37 (.int .i64 7)) fun v63 => wv (viaddr T t_ar64_uint32 x36 v63) fun v64 => wv (vload T G55 t_uint32 v64) fun v65 => wv (vbin T .add t_uint32 v62 v65) fun v66 => wv (vbin T .add t_uint32 v66 v58) fun v67 => wv (viaddr T t_ar64_uint32 x36 x37) fun v68 => wg (vstore T G55 t_uint32 v68 v67) fun G69 => wv (vbin T .add t_int x37 (.int .i64 1)) fun v70 => R33 [x35, x36, v70] G69)
  (wv (vload T G34 t_ar64_uint32 x36) fun v71 => wg (vstore T G34 t_ar64_uint32 x35 v71) fun G72 => wv (vload T G72 t_ar64_uint32 x35) fun v73 => Q v73 G72)) → R33 [x35, x36, x37] G34) →
  R33 [x8, x9, .int .i64 16] G6)) → R5 [x7, x8, x9, x10] G6) →
  R5 [a0, .ptr i1 [] 0, .ptr i3 [] 0, .int .i64 0] G4
def hash_schedule.an : Ann := .two (.nil) (.two (.nil) (.two (.two (.nil) (.loop [0, 2, 3, 11] [false, false, false, false] (.two (.nil) (.two (.nil) (.two (.two (.nil) (.two (.nil) (.loop [0, 2, 3, 4, 11, 14] [false, false, false, false, false, false] (.two (.nil) (.two (.nil) (.two (.two (.nil) (.ord [(0, []), (1, []), (2, []), (3, []), (4, []), (5, []), (6, []), (7, []), (8, []), (9, []), (10, []), (11, []), (12, []), (13, []), (14, [])])) (.nil))))))) (.nil)))))) (.two (.two (.nil) (.loop [2, 3, 6] [false, false, false] (.two (.nil) (.two (.two (.ord [(0, []), (1, []), (2, []), (3, []), (4, []), (5, []), (6, []), (7, []), (8, []), (9, [])]) (.two (.nil) (.two (.nil) (.ord [(0, []), (1, []), (2, []), (3, []), (4, []), (5, []), (6, []), (7, []), (8, []), (9, []), (10, []), (11, []), (12, []), (13, []), (14, []), (15, [])])))) (.nil))))) (.nil))))
set_option maxRecDepth 100000 in
theorem hash_schedule.sound {a0 : AVal} {G : Heap} {Q : AVal → Heap → Prop} (h : hash_schedule.S a0 G Q) : ACalls P hash_schedule.n [a0] G Q := by
  have e : hash_schedule.S a0 G Q = awp cx (hash_schedule.body) hash_schedule.an (bodyQ T [.cell 2 149] Q) (envL [a0]) G := by kernel_rfl
  exact ACalls_of_awp cxOk (f := hash_schedule.n) (fn := Tryz.f101) (c := hash_schedule.body) (an := hash_schedule.an) Tryz.func101 (by kernel_rfl) (by kernel_rfl) (by kernel_rfl) (drawsOk_of (by kernel_rfl) (by kernel_rfl)) (by simp [Tryz.f101]) (e ▸ h)

end Go.Esc.M
