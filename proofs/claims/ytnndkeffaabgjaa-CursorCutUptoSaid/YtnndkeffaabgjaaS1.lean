/- Printed by gen.py (own work): functions of the program Ytnndkeffaabgjaa over trees and the abstract heap. -/
import Derived.Test.YtnndkeffaabgjaaT
set_option linter.unusedSimpArgs false
set_option linter.unusedVariables false
namespace Go.Esc.M
open Go Go.Esc Go.Proofs

/-! #### escrow/escrowlaw03.CursorBack -/
def escrowlaw03_CursorBack.S (a0 a1 : AVal) (G : Heap) (Q : AVal → Heap → Prop) : Prop :=
  ACalls P escrowlaw03_head.n [] G fun v1 G2 => wv (vun .not v1) fun v3 => brB (some v3)
  (Q (.bool false) G2)
  (ACalls P cursor_New.n [] G2 fun v4 G5 => wv (vbin T .eql t_pt_cursor_Writer v4 (.nilPtr)) fun v6 => brB (some v6)
  (Q (.bool false) G5)
  (∀ R7 : List AVal → Heap → Prop,
  (∀ (x9 x10 x11 x12 x13 : AVal) (G8 : Heap), (wv (vlen T G8 t_sl_escrowlaw03_Val x9) fun v14 => wv (vbin T .lss t_int x13 v14) fun v15 => brB (some v15)
  (wv (viaddr T t_sl_escrowlaw03_Val x9 x13) fun v16 => wv (vload T G8 t_escrowlaw03_Val v16) fun v17 => ACalls P escrowlaw03_lays.n [x11, v17] G8 fun v18 G19 => brB (some x12)
  (wv (vbin T .add t_int x13 (.int .i64 1)) fun v29 => R7 [x9, x10, x11, .bool true, v29] G19)
  (wv (viaddr T t_sl_escrowlaw03_Val x9 x13) fun v20 => wv (vload T G19 t_escrowlaw03_Val v20) fun v21 => ACalls P escrowlaw03_long.n [v21] G19 fun v22 G23 => wv (vbin T .add t_int x13 (.int .i64 1)) fun v30 => R7 [x9, x10, x11, v22, v30] G23))
  (ACalls P cursor_Writer_Out.n [x11] G8 fun v31 G32 => wv (vextract v31 0) fun v33 => wv (vextract v31 1) fun v34 => brB (some x12)
  (wv (vbin T .eql t_string v33 (.str [])) fun v35 => brB (some v35)
  (wv (vbin T .eql t_api_Errno v34 (.int .i64 3)) fun v36 => brB (some v36)
  (ACalls P cursor_Writer_Len.n [x11] G32 fun v37 G38 => wv (vbin T .eql t_int v37 (.int .i64 0)) fun v39 => Q v39 G38)
  (Q (.bool false) G32))
  (Q (.bool false) G32))
  (wv (vbin T .add t_string v33 x10) fun v42 => ACalls P cursor_Open.n [v42] G32 fun v43 G44 => let J93 : AVal → Heap → Prop := (fun x52 G51 => brB (some x52)
  (Q (.bool false) G51)
  (∀ R53 : List AVal → Heap → Prop,
  (∀ (x55 x56 x57 x58 : AVal) (G54 : Heap), (wv (vlen T G54 t_sl_escrowlaw03_Val x55) fun v59 => wv (vbin T .lss t_int x58 v59) fun v60 => brB (some v60)
  (wv (viaddr T t_sl_escrowlaw03_Val x55 x58) fun v61 => wv (vload T G54 t_escrowlaw03_Val v61) fun v62 => ACalls P escrowlaw03_again.n [x57, v62] G54 fun v63 G64 => wv (vun .not v63) fun v65 => brB (some v65)
  (Q (.bool false) G64)
  (ACalls P cursor_Reader_Err.n [x57] G64 fun v66 G67 => wv (vbin T .neq t_api_Errno v66 (.int .i64 0)) fun v68 => brB (some v68)
  (Q (.bool false) G67)
  (wv (vbin T .add t_int x58 (.int .i64 1)) fun v73 => R53 [x55, x56, x57, v73] G67)))
  (ACalls P cursor_Reader_Rest.n [x57] G54 fun v74 G75 => wv (vbin T .neq t_string v74 x56) fun v76 => brB (some v76)
  (Q (.bool false) G75)
  (wv (vbin T .eql t_string x56 (.str [])) fun v77 => brB (some v77)
  (ACalls P cursor_Reader_Done.n [x57] G75 fun v78 G79 => wv (vbin T .eql t_api_Errno v78 (.int .i64 0)) fun v80 => Q v80 G79)
  (ACalls P cursor_Reader_Done.n [x57] G75 fun v81 G82 => wv (vbin T .eql t_api_Errno v81 (.int .i64 4)) fun v83 => brB (some v83)
  (wv (vlen T G82 t_string x56) fun v84 => ACalls P cursor_Reader_Raw.n [x57, v84] G82 fun v85 G86 => wv (vbin T .eql t_string v85 x56) fun v87 => brB (some v87)
  (ACalls P cursor_Reader_Done.n [x57] G86 fun v88 G89 => wv (vbin T .eql t_api_Errno v88 (.int .i64 0)) fun v90 => Q v90 G89)
  (Q (.bool false) G86))
  (Q (.bool false) G82))))) → R53 [x55, x56, x57, x58] G54) →
  R53 [x9, x10, v43, .int .i64 0] G51));
  wv (vbin T .neq t_api_Errno v34 (.int .i64 0)) fun v45 => brB (some v45)
  (J93 (.bool true) G44)
  (wv (vbin T .eql t_pt_cursor_Reader v43 (.nilPtr)) fun v46 => brB (some v46)
  (J93 (.bool true) G44)
  (ACalls P cursor_Writer_Len.n [x11] G44 fun v47 G48 => wv (vlen T G48 t_string v33) fun v49 => wv (vbin T .neq t_int v47 v49) fun v50 => J93 v50 G48))))) → R7 [x9, x10, x11, x12, x13] G8) →
  R7 [a0, a1, v4, .bool false, .int .i64 0] G5))
def escrowlaw03_CursorBack.an : Ann := .two (.nil) (.two (.nil) (.two (.nil) (.two (.nil) (.two (.nil) (.two (.two (.nil) (.loop [0, 1, 5, 6, 7] (.nil))) (.two (.nil) (.two (.nil) (.two (.nil) (.two (.nil) (.two (.two (.nil) (.loop [0, 1, 10, 11] (.nil))) (.nil)))))))))))
set_option maxRecDepth 100000 in
theorem escrowlaw03_CursorBack.sound {a0 a1 : AVal} {G : Heap} {Q : AVal → Heap → Prop} (h : escrowlaw03_CursorBack.S a0 a1 G Q) : ACalls P escrowlaw03_CursorBack.n [a0, a1] G Q := by
  have e : escrowlaw03_CursorBack.S a0 a1 G Q = awp cx (escrowlaw03_CursorBack.body) escrowlaw03_CursorBack.an (bodyQ T [.tmp 4] Q) (envL [a0, a1]) G := by kernel_rfl
  exact ACalls_of_awp cxOk (f := escrowlaw03_CursorBack.n) (fn := Try.f3) (c := escrowlaw03_CursorBack.body) (an := escrowlaw03_CursorBack.an) Try.func3 (by kernel_rfl) (by kernel_rfl) (by kernel_rfl) (drawsOk_of (by kernel_rfl) (by kernel_rfl)) (by simp [Try.f3]) (e ▸ h)

/-! #### escrow/escrowlaw03.nothing -/
def escrowlaw03_nothing.S (a0 a1 : AVal) (G : Heap) (Q : AVal → Heap → Prop) : Prop :=
  aNew G (.own (a1)) fun i1 G2 => wv (vload T G2 t_escrowlaw03_Val (.ptr i1 [] 0)) fun v3 => ACalls P escrowlaw03_Val_kind.n [v3] G2 fun v4 G5 => wv (vbin T .eql t_int v4 (.int .i64 0)) fun v6 => brB (some v6)
  (ACalls P cursor_Reader_U8.n [a0] G5 fun v7 G8 => wv (vbin T .eql t_uint8 v7 (.int .u8 0)) fun v9 => Q v9 G8)
  (wv (vbin T .eql t_int v4 (.int .i64 1)) fun v10 => brB (some v10)
  (ACalls P cursor_Reader_U16.n [a0] G5 fun v11 G12 => wv (vbin T .eql t_uint16 v11 (.int .u16 0)) fun v13 => Q v13 G12)
  (wv (vbin T .eql t_int v4 (.int .i64 2)) fun v14 => brB (some v14)
  (ACalls P cursor_Reader_U32.n [a0] G5 fun v15 G16 => wv (vbin T .eql t_uint32 v15 (.int .u32 0)) fun v17 => Q v17 G16)
  (wv (vbin T .eql t_int v4 (.int .i64 3)) fun v18 => brB (some v18)
  (ACalls P cursor_Reader_U64.n [a0] G5 fun v19 G20 => wv (vbin T .eql t_uint64 v19 (.int .u64 0)) fun v21 => Q v21 G20)
  (wv (vbin T .eql t_int v4 (.int .i64 4)) fun v22 => brB (some v22)
  (ACalls P cursor_Reader_I64.n [a0] G5 fun v23 G24 => wv (vbin T .eql t_int64 v23 (.int .i64 0)) fun v25 => Q v25 G24)
  (wv (vbin T .eql t_int v4 (.int .i64 5)) fun v26 => brB (some v26)
  (ACalls P cursor_Reader_Hash.n [a0] G5 fun v27 G28 => wv (vbuild T t_api_Hash []) fun v29 => wv (vbin T .eql t_api_Hash v27 v29) fun v30 => Q v30 G28)
  (wv (vbin T .eql t_int v4 (.int .i64 6)) fun v31 => brB (some v31)
  (wv (vload T G5 t_escrowlaw03_Val (.ptr i1 [] 0)) fun v32 => ACalls P escrowlaw03_Val_text.n [v32] G5 fun v33 G34 => wv (vlen T G34 t_string v33) fun v35 => ACalls P cursor_Reader_Text.n [a0, v35] G34 fun v36 G37 => wv (vbin T .eql t_string v36 (.str [])) fun v38 => Q v38 G37)
  (wv (vload T G5 t_escrowlaw03_Val (.ptr i1 [] 0)) fun v39 => ACalls P escrowlaw03_Val_text.n [v39] G5 fun v40 G41 => wv (vlen T G41 t_string v40) fun v42 => ACalls P cursor_Reader_Raw.n [a0, v42] G41 fun v43 G44 => wv (vbin T .eql t_string v43 (.str [])) fun v45 => Q v45 G44)))))))
def escrowlaw03_nothing.an : Ann := .nil
set_option maxRecDepth 100000 in
theorem escrowlaw03_nothing.sound {a0 a1 : AVal} {G : Heap} {Q : AVal → Heap → Prop} (h : escrowlaw03_nothing.S a0 a1 G Q) : ACalls P escrowlaw03_nothing.n [a0, a1] G Q := by
  have e : escrowlaw03_nothing.S a0 a1 G Q = awp cx (escrowlaw03_nothing.body) escrowlaw03_nothing.an (bodyQ T [.tmp 4] Q) (envL [a0, a1]) G := by kernel_rfl
  exact ACalls_of_awp cxOk (f := escrowlaw03_nothing.n) (fn := Try.f17) (c := escrowlaw03_nothing.body) (an := escrowlaw03_nothing.an) Try.func17 (by kernel_rfl) (by kernel_rfl) (by kernel_rfl) (drawsOk_of (by kernel_rfl) (by kernel_rfl)) (by simp [Try.f17]) (e ▸ h)

/-! #### escrow/escrowlaw03.CursorCut -/
def escrowlaw03_CursorCut.S (a0 a1 : AVal) (G : Heap) (Q : AVal → Heap → Prop) : Prop :=
  ACalls P escrowlaw03_head.n [] G fun v1 G2 => wv (vun .not v1) fun v3 => brB (some v3)
  (Q (.bool false) G2)
  (ACalls P cursor_New.n [] G2 fun v4 G5 => wv (vbin T .eql t_pt_cursor_Writer v4 (.nilPtr)) fun v6 => brB (some v6)
  (Q (.bool false) G5)
  (∀ R7 : List AVal → Heap → Prop,
  (∀ (x9 x10 x11 x12 x13 : AVal) (G8 : Heap), (wv (vlen T G8 t_sl_escrowlaw03_Val x9) fun v14 => wv (vbin T .lss t_int x13 v14) fun v15 => brB (some v15)
  (wv (viaddr T t_sl_escrowlaw03_Val x9 x13) fun v16 => wv (vload T G8 t_escrowlaw03_Val v16) fun v17 => ACalls P escrowlaw03_long.n [v17] G8 fun v18 G19 => wv (vun .not v18) fun v20 => brB (some v20)
  (wv (viaddr T t_sl_escrowlaw03_Val x9 x13) fun v21 => wv (vload T G19 t_escrowlaw03_Val v21) fun v22 => ACalls P escrowlaw03_lays.n [x11, v22] G19 fun v23 G24 => ACalls P cursor_Writer_Len.n [x11] G24 fun v32 G33 => aBuildSlice T t_sl_int 1 [(0, v32)] G33 fun v34 G35 => aAppend T G35 t_sl_int t_sl_int x12 v34 fun v36 G37 => wv (vbin T .add t_int x13 (.int .i64 1)) fun v47 => R7 [x9, x10, x11, v36, v47] G37)
  (ACalls P cursor_Writer_Len.n [x11] G19 fun v38 G39 => aBuildSlice T t_sl_int 1 [(0, v38)] G39 fun v40 G41 => aAppend T G41 t_sl_int t_sl_int x12 v40 fun v42 G43 => wv (vbin T .add t_int x13 (.int .i64 1)) fun v48 => R7 [x9, x10, x11, v42, v48] G43))
  (ACalls P cursor_Writer_Out.n [x11] G8 fun v49 G50 => wv (vextract v49 0) fun v51 => wv (vextract v49 1) fun v52 => wv (vbin T .neq t_api_Errno v52 (.int .i64 0)) fun v53 => brB (some v53)
  (Q (.bool false) G50)
  (wv (vbin T .lss t_int x10 (.int .i64 0)) fun v54 => let J122 : AVal → Heap → Prop := (fun x58 G57 => wv (vlen T G57 t_string v51) fun v59 => wv (vbin T .add t_int v59 (.int .i64 1)) fun v60 => wv (vbin T .rem t_int x58 v60) fun v61 => wv (vslice T t_string v51 none (some (v61)) none) fun v62 => ACalls P cursor_Open.n [v62] G57 fun v63 G64 => wv (vbin T .eql t_pt_cursor_Reader v63 (.nilPtr)) fun v65 => brB (some v65)
  (Q (.bool false) G64)
  (∀ R66 : List AVal → Heap → Prop,
  (∀ (x68 x69 x70 x71 x72 x73 : AVal) (G67 : Heap), (wv (vlen T G67 t_sl_escrowlaw03_Val x68) fun v74 => wv (vbin T .lss t_int x73 v74) fun v75 => brB (some v75)
  (let J116 : AVal → Heap → Prop := (fun x114 G113 => wv (vbin T .add t_int x73 (.int .i64 1)) fun v115 => R66 [x68, x69, x70, x71, x114, v115] G113);
  wv (viaddr T t_sl_escrowlaw03_Val x68 x73) fun v76 => wv (vload T G67 t_escrowlaw03_Val v76) fun v77 => ACalls P escrowlaw03_long.n [v77] G67 fun v78 G79 => brB (some v78)
  (J116 x72 G79)
  (let J112 : AVal → Heap → Prop := (fun x85 G84 => brB (some x85)
  (wv (viaddr T t_sl_escrowlaw03_Val x68 x73) fun v86 => wv (vload T G84 t_escrowlaw03_Val v86) fun v87 => ACalls P escrowlaw03_again.n [x71, v87] G84 fun v88 G89 => wv (vun .not v88) fun v90 => brB (some v90)
  (Q (.bool false) G89)
  (ACalls P cursor_Reader_Err.n [x71] G89 fun v91 G92 => wv (vbin T .neq t_api_Errno v91 (.int .i64 0)) fun v93 => brB (some v93)
  (Q (.bool false) G92)
  (J116 x72 G92)))
  (wv (viaddr T t_sl_escrowlaw03_Val x68 x73) fun v96 => wv (vload T G84 t_escrowlaw03_Val v96) fun v97 => ACalls P escrowlaw03_nothing.n [x71, v97] G84 fun v98 G99 => wv (vun .not v98) fun v100 => brB (some v100)
  (Q (.bool false) G99)
  (ACalls P cursor_Reader_Err.n [x71] G99 fun v101 G102 => wv (vbin T .neq t_api_Errno v101 (.int .i64 2)) fun v103 => brB (some v103)
  (Q (.bool false) G102)
  (ACalls P cursor_Reader_Rest.n [x71] G102 fun v104 G105 => wv (vbin T .neq t_string v104 (.str [])) fun v106 => brB (some v106)
  (Q (.bool false) G105)
  (ACalls P cursor_Reader_Done.n [x71] G105 fun v107 G108 => wv (vbin T .neq t_api_Errno v107 (.int .i64 2)) fun v109 => brB (some v109)
  (Q (.bool false) G108)
  (J116 (.bool true) G108))))));
  wv (vun .not x72) fun v80 => brB (some v80)
  (wv (viaddr T t_sl_int x69 x73) fun v81 => wv (vload T G79 t_int v81) fun v82 => wv (vbin T .leq t_int v82 x70) fun v83 => J112 v83 G79)
  (J112 (.bool false) G79)))
  (brB (some x72)
  (Q (.bool true) G67)
  (ACalls P cursor_Reader_Done.n [x71] G67 fun v117 G118 => wv (vbin T .eql t_api_Errno v117 (.int .i64 0)) fun v119 => Q v119 G118))) → R66 [x68, x69, x70, x71, x72, x73] G67) →
  R66 [x9, x12, v61, v63, .bool false, .int .i64 0] G64));
  brB (some v54)
  (wv (vbin T .add t_int x10 (.int .i64 1)) fun v55 => wv (vun .neg v55) fun v56 => J122 v56 G50)
  (J122 x10 G50)))) → R7 [x9, x10, x11, x12, x13] G8) →
  R7 [a0, a1, v4, .nilSlice, .int .i64 0] G5))
def escrowlaw03_CursorCut.an : Ann := .two (.nil) (.two (.nil) (.two (.nil) (.two (.nil) (.two (.nil) (.two (.two (.nil) (.loop [0, 1, 5, 6, 7] (.nil))) (.two (.nil) (.two (.nil) (.two (.nil) (.two (.nil) (.two (.nil) (.two (.nil) (.two (.nil) (.two (.nil) (.two (.two (.nil) (.loop [0, 6, 10, 11, 12, 13] (.nil))) (.nil)))))))))))))))
set_option maxRecDepth 100000 in
theorem escrowlaw03_CursorCut.sound {a0 a1 : AVal} {G : Heap} {Q : AVal → Heap → Prop} (h : escrowlaw03_CursorCut.S a0 a1 G Q) : ACalls P escrowlaw03_CursorCut.n [a0, a1] G Q := by
  have e : escrowlaw03_CursorCut.S a0 a1 G Q = awp cx (escrowlaw03_CursorCut.body) escrowlaw03_CursorCut.an (bodyQ T [.tmp 4] Q) (envL [a0, a1]) G := by kernel_rfl
  exact ACalls_of_awp cxOk (f := escrowlaw03_CursorCut.n) (fn := Try.f4) (c := escrowlaw03_CursorCut.body) (an := escrowlaw03_CursorCut.an) Try.func4 (by kernel_rfl) (by kernel_rfl) (by kernel_rfl) (drawsOk_of (by kernel_rfl) (by kernel_rfl)) (by simp [Try.f4]) (e ▸ h)

end Go.Esc.M
