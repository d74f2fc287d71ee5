import Derived.Test.YtkojimdacnohpaaGreatDoorT
set_option linter.unusedSimpArgs false
set_option linter.unusedVariables false
set_option maxRecDepth 100000
namespace Go.Esc.M
open Go Go.Esc Go.Proofs
def ed.S (G:ah) (Q:ag -> ah -> Prop):Prop :=
 wv (bk T dj [(0,.int .i64 1000),(1,.int .i64 700)]) fun v1=>al P cu.n [v1] G fun v2 G3=>wv (oE T fD v2 (.int .i64 0)) fun v4=>br G3 (.own (nz)) fun i5 G6=>wg (ax T G6 cl (.ptr i5 [] 0) v4) fun G7=>wv (lq T G7 cl (.ptr i5 [] 0)) fun v8=>al P cH.n [v8] G7 fun v9 G10=>wv (aW v9 0) fun v11=>wv (aW v9 1) fun v12=>br G10 (.own (iT)) fun i13 G14=>wg (ax T G14 aJ (.ptr i13 [] 0) v11) fun G15=>wv (lq T G15 aj (.ptr i5 [3] 3)) fun v16=>al P bJ.n [v16,.int .i64 0] G15 fun v17 G18=>wv (aW v17 0) fun v19=>wv (aW v17 1) fun v20=>br G18 (.own (cI)) fun i21 G22=>wg (ax T G22 aj (.ptr i21 [] 0) v19) fun G23=>wv (lq T G23 cl (.ptr i5 [] 0)) fun v24=>wv (lq T G23 aJ (.ptr i13 [] 0)) fun v25=>al P gz.n [v24,v25] G23 fun v26 G27=>br G27 (.own (gE)) fun i28 G29=>wg (ax T G29 aG (.ptr i28 [] 0) v26) fun G30=>wv (lq T G30 cl (.ptr i5 [] 0)) fun v31=>wv (lq T G30 aJ (.ptr i13 [] 0)) fun v32=>wv (bk T aG [(0,.int .i64 6),(3,.int .i64 1)]) fun v33=>al P cW.n [v31,v32,v33] G30 fun v34 G35=>wv (aW v34 0) fun v36=>wv (aW v34 1) fun v37=>wv (lq T G35 cl (.ptr i5 [] 0)) fun v38=>wv (lq T G35 aJ (.ptr i13 [] 0)) fun v39=>wv (bk T aG [(0,.int .i64 6),(3,.int .i64 2)]) fun v40=>al P cW.n [v38,v39,v40] G35 fun v41 G42=>wv (aW v41 0) fun v43=>wv (aW v41 1) fun v44=>wv (lq T G42 cl (.ptr i5 [] 0)) fun v45=>wv (lq T G42 aJ (.ptr i13 [] 0)) fun v46=>wv (bk T aG [(0,.int .i64 6),(3,.int .i64 1),(4,.int .i64 1)]) fun v47=>al P cW.n [v45,v46,v47] G42 fun v48 G49=>wv (aW v48 0) fun v50=>wv (aW v48 1) fun v51=>wv (lq T G49 cl (.ptr i5 [] 0)) fun v52=>wv (lq T G49 aJ (.ptr i13 [] 0)) fun v53=>wv (lq T G49 aj (.ptr i21 [] 0)) fun v54=>wv (bk T aG [(0,.int .i64 6),(3,.int .i64 1),(4,.int .i64 1),(6,v54)]) fun v55=>al P cW.n [v52,v53,v55] G49 fun v56 G57=>wv (aW v56 0) fun v58=>wv (aW v56 1) fun v59=>wv (bk T aI [(0,.int .i64 1),(2,.int .i64 5)]) fun v60=>bh T ak 1 [(0,v60)] G57 fun v61 G62=>wg (ax T G62 ak (.ptr i13 [4] 4) v61) fun G63=>wv (lq T G63 cl (.ptr i5 [] 0)) fun v64=>wv (lq T G63 aJ (.ptr i13 [] 0)) fun v65=>wv (bk T aG [(0,.int .i64 6),(3,.int .i64 1)]) fun v66=>al P cW.n [v64,v65,v66] G63 fun v67 G68=>wv (aW v67 0) fun v69=>wv (aW v67 1) fun v70=>wv (lq T G68 aG (.ptr i28 [] 0)) fun v71=>wv (bk T aG [(0,.int .i64 6),(3,.int .i64 1)]) fun v72=>wv (aw T .eql aG v71 v72) fun v73=>brB (some v73)
 (wv (aw T .eql bq v37 (.int .i64 0)) fun v74=>brB (some v74)
 (wv (aw T .eql bq v44 (.int .i64 90)) fun v75=>brB (some v75)
 (wv (aw T .eql bq v51 (.int .i64 100)) fun v76=>brB (some v76)
 (wv (aw T .eql bq v59 (.int .i64 180)) fun v77=>brB (some v77)
 (wv (aw T .eql bq v70 (.int .i64 0)) fun v78=>brB (some v78)
 (wv (bk T aG [(0,.int .i64 1),(2,.int .i64 5)]) fun v79=>bh T aR 1 [(0,v79)] G68 fun v80 G81=>al P eV.n [v69,v80] G81 fun v82 G83=>Q v82 G83)
 (Q (.bool false) G68))
 (Q (.bool false) G68))
 (Q (.bool false) G68))
 (Q (.bool false) G68))
 (Q (.bool false) G68))
 (Q (.bool false) G68)
def ed.an:Ann:=.nil
theorem ed.sound {G:ah} {Q:ag -> ah -> Prop} (h:ed.S G Q):al P ed.n [] G Q:=by
 have e:ed.S G Q = awp cx (ed.body) ed.an (bK T [.tmp 0] Q) (dN []) G:=by kernel_rfl
 refine ay dO (f:=ed.n) (fn:=Tryz.f10) (c:=ed.body) (an:=ed.an) Tryz.func10 ?_ ?_ ?_ (aF ?_ ?_) (by simp [Tryz.f10]) (e ▸ h) <;> kernel_rfl
def ef.S (a0:ag) (G:ah) (Q:ag -> ah -> Prop):Prop :=
 br G (.own (a0)) fun i1 G2=>wv (lq T G2 dj (.ptr i1 [] 0)) fun v3=>al P cu.n [v3] G2 fun v4 G5=>wv (bk T bw [(0,v4)]) fun v6=>br G5 (.own (v6)) fun i7 G8=>∀ R9:List ag -> ah -> Prop,
 (∀ (x11 x12:ag) (G10:ah),(wv (aw T .lss au x12 (.int .i64 2)) fun v13=>brB (some v13)
 (wv (kH x11) fun v14=>wv (bx T bw v14 0) fun v15=>wv (aL T fD v15 x12) fun v16=>wv (lq T G10 cl v16) fun v17=>al P cH.n [v17] G10 fun v18 G19=>wv (aW v18 0) fun v20=>wv (aW v18 1) fun v21=>br G19 (.own (iT)) fun i22 G23=>wg (ax T G23 aJ (.ptr i22 [] 0) v20) fun G24=>wv (aw T .neq bq v21 (.int .i64 0)) fun v25=>brB (some v25)
 (Q (.tuple [.nilPtr,.bool false]) G24)
 (wv (lq T G24 aJ (.ptr i22 [] 0)) fun v26=>wv (kH x11) fun v27=>wv (bx T bw v27 1) fun v28=>wv (aL T gY v28 x12) fun v29=>wg (ax T G24 aJ v29 v26) fun G30=>wv (aw T .add au x12 (.int .i64 1)) fun v31=>R9 [x11,v31] G30))
 (Q (.tuple [x11,.bool true]) G10)) -> R9 [x11,x12] G10) ->
 R9 [.ptr i7 [] 0,.int .i64 0] G8
def ef.an:Ann:=.two (.nil) (.two (.nil) (.two (.two (.nil) (.loop [4,5] [false,false] (.two (.nil) (.two (.two (.nil) (.two (.nil) (.ord [(0,[]),(1,[]),(2,[]),(3,[]),(4,[]),(5,[]),(6,[])]))) (.nil))))) (.nil)))
theorem ef.sound {a0:ag} {G:ah} {Q:ag -> ah -> Prop} (h:ef.S a0 G Q):al P ef.n [a0] G Q:=by
 have e:ef.S a0 G Q = awp cx (ef.body) ef.an (bK T [.tmp 2,.tmp 3] Q) (dN [a0]) G:=by kernel_rfl
 refine ay dO (f:=ef.n) (fn:=Tryz.f11) (c:=ef.body) (an:=ef.an) Tryz.func11 ?_ ?_ ?_ (aF ?_ ?_) (by simp [Tryz.f11]) (e ▸ h) <;> kernel_rfl
def dM.S (a0:ag) (G:ah) (Q:ag -> ah -> Prop):Prop :=
 br G (.own (a0)) fun i1 G2=>br G2 (.own (iT)) fun i3 G4=>wv (lq T G4 ak (.ptr i1 [4] 4)) fun v5=>cc T G4 ak ak (.nilSlice) v5 fun v6 G7=>wg (ax T G7 ak (.ptr i1 [4] 4) v6) fun G8=>wv (lq T G8 ak (.ptr i1 [5] 5)) fun v9=>cc T G8 ak ak (.nilSlice) v9 fun v10 G11=>wg (ax T G11 ak (.ptr i1 [5] 5) v10) fun G12=>wv (lq T G12 bu (.ptr i1 [15] 112)) fun v13=>cc T G12 bu bu (.nilSlice) v13 fun v14 G15=>wg (ax T G15 bu (.ptr i1 [15] 112) v14) fun G16=>wv (lq T G16 aJ (.ptr i1 [] 0)) fun v17=>wg (ax T G16 aJ (.ptr i3 [] 0) v17) fun G18=>wv (lq T G18 aJ (.ptr i3 [] 0)) fun v19=>Q v19 G18
def dM.an:Ann:=.nil
theorem dM.sound {a0:ag} {G:ah} {Q:ag -> ah -> Prop} (h:dM.S a0 G Q):al P dM.n [a0] G Q:=by
 have e:dM.S a0 G Q = awp cx (dM.body) dM.an (bK T [.cell 2 38] Q) (dN [a0]) G:=by kernel_rfl
 refine ay dO (f:=dM.n) (fn:=Tryz.f12) (c:=dM.body) (an:=dM.an) Tryz.func12 ?_ ?_ ?_ (aF ?_ ?_) (by simp [Tryz.f12]) (e ▸ h) <;> kernel_rfl
def dX.S (a0 a1:ag) (G:ah) (Q:ag -> ah -> Prop):Prop :=
 wv (gF T G bu a0) fun v1=>wv (aw T .gtr au v1 (.int .i64 49)) fun v2=>brB (some v2)
 (Q (.int .i64 1) G)
 (wv (aw T .lss me a1 (.int .i64 0)) fun v3=>brB (some v3)
 (Q (.int .i64 90) G)
 (wv (aw T .gtr me a1 (.int .i64 281474976710655)) fun v4=>brB (some v4)
 (Q (.int .i64 90) G)
 (Q (.int .i64 0) G)))
def dX.an:Ann:=.nil
theorem dX.sound {a0 a1:ag} {G:ah} {Q:ag -> ah -> Prop} (h:dX.S a0 a1 G Q):al P dX.n [a0,a1] G Q:=by
 have e:dX.S a0 a1 G Q = awp cx (dX.body) dX.an (bK T [.tmp 4] Q) (dN [a0,a1]) G:=by kernel_rfl
 refine ay dO (f:=dX.n) (fn:=Tryz.f103) (c:=dX.body) (an:=dX.an) Tryz.func103 ?_ ?_ ?_ (aF ?_ ?_) (by simp [Tryz.f103]) (e ▸ h) <;> kernel_rfl
def fM.S (a0 a1:ag) (G:ah) (Q:ag -> ah -> Prop):Prop :=
 br G (.own (pe)) fun i1 G2=>let J17:ag -> ah -> Prop:=(fun x9 G8=>brB (some x9)
 (wv (aL T bu a0 a1) fun v10=>wv (lq T G8 ff v10) fun v11=>wg (ax T G8 ff (.ptr i1 [] 0) v11) fun G12=>wv (lq T G12 ff (.ptr i1 [] 0)) fun v13=>Q v13 G12)
 (wv (bk T ff []) fun v14=>wg (ax T G8 ff (.ptr i1 [] 0) v14) fun G15=>wv (lq T G15 ff (.ptr i1 [] 0)) fun v16=>Q v16 G15));
 wv (gF T G2 bu a0) fun v3=>wv (aw T .lss au a1 v3) fun v4=>brB (some v4)
 (wv (aL T bu a0 a1) fun v5=>wv (bx T ff v5 2) fun v6=>wv (lq T G2 ey v6) fun v7=>J17 v7 G2)
 (J17 (.bool false) G2)
def fM.an:Ann:=.nil
theorem fM.sound {a0 a1:ag} {G:ah} {Q:ag -> ah -> Prop} (h:fM.S a0 a1 G Q):al P fM.n [a0,a1] G Q:=by
 have e:fM.S a0 a1 G Q = awp cx (fM.body) fM.an (bK T [.cell 4 100] Q) (dN [a0,a1]) G:=by kernel_rfl
 refine ay dO (f:=fM.n) (fn:=Tryz.f104) (c:=fM.body) (an:=fM.an) Tryz.func104 ?_ ?_ ?_ (aF ?_ ?_) (by simp [Tryz.f104]) (e ▸ h) <;> kernel_rfl
def dd.S (a0:ag) (G:ah) (Q:ag -> ah -> Prop):Prop :=
 br G (.own (a0)) fun i1 G2=>∀ R3:List ag -> ah -> Prop,
 (∀ (x5 x6:ag) (G4:ah),(wv (aw T .lss au x6 (.int .i64 48)) fun v7=>brB (some v7)
 (wv (aL T jE x5 x6) fun v8=>wv (lq T G4 au v8) fun v9=>wv (aw T .eql au v9 (.int .i64 1)) fun v10=>brB (some v10)
 (Q x6 G4)
 (wv (aw T .add au x6 (.int .i64 1)) fun v11=>R3 [x5,v11] G4))
 (Q (.int .i64 48) G4)) -> R3 [x5,x6] G4) ->
 R3 [.ptr i1 [] 0,.int .i64 0] G2
def dd.an:Ann:=.two (.nil) (.two (.two (.nil) (.loop [1,3] [false,false] (.nil))) (.nil))
theorem dd.sound {a0:ag} {G:ah} {Q:ag -> ah -> Prop} (h:dd.S a0 G Q):al P dd.n [a0] G Q:=by
 have e:dd.S a0 G Q = awp cx (dd.body) dd.an (bK T [.tmp 2] Q) (dN [a0]) G:=by kernel_rfl
 refine ay dO (f:=dd.n) (fn:=Tryz.f165) (c:=dd.body) (an:=dd.an) Tryz.func165 ?_ ?_ ?_ (aF ?_ ?_) (by simp [Tryz.f165]) (e ▸ h) <;> kernel_rfl
def du.S (a0 a1 a2:ag) (G:ah) (Q:ag -> ah -> Prop):Prop :=
 br G (.own (a0)) fun i1 G2=>br G2 (.own (cI)) fun i3 G4=>let J53:ag -> ah -> Prop:=(fun x12 G11=>brB (some x12)
 (wv (bk T aj []) fun v13=>wg (ax T G11 aj (.ptr i3 [] 0) v13) fun G14=>wv (lq T G14 aj (.ptr i3 [] 0)) fun v15=>Q (.tuple [v15,.int .i64 90]) G14)
 (al P cj.n [a1] G11 fun v16 G17=>br G17 (.own (nS)) fun i18 G19=>wg (ax T G19 jE (.ptr i18 [] 0) v16) fun G20=>al P cj.n [a2] G20 fun v21 G22=>br G22 (.own (nS)) fun i23 G24=>wg (ax T G24 jE (.ptr i23 [] 0) v21) fun G25=>wv (lq T G25 jE (.ptr i18 [] 0)) fun v26=>al P dd.n [v26] G25 fun v27 G28=>∀ R29:List ag -> ah -> Prop,
 (∀ (x31 x32 x33 x34 x35 x36:ag) (G30:ah),(wv (aw T .lss au x36 (.int .i64 48)) fun v37=>brB (some v37)
 (wv (aL T jE x33 x36) fun v38=>wv (lq T G30 au v38) fun v39=>wv (aL T jE x34 x36) fun v40=>wv (lq T G30 au v40) fun v41=>wv (aw T .neq au v39 v41) fun v42=>brB (some v42)
 (wv (bk T aj []) fun v43=>wg (ax T G30 aj x32 v43) fun G44=>wv (lq T G44 aj x32) fun v45=>Q (.tuple [v45,.int .i64 5]) G44)
 (wv (aw T .add au x36 (.int .i64 1)) fun v46=>R29 [x31,x32,x33,x34,x35,v46] G30))
 (wv (lq T G30 aj x31) fun v47=>wv (lq T G30 jE x34) fun v48=>al P dL.n [v47,v48,x35] G30 fun v49 G50=>wg (ax T G50 aj x32 v49) fun G51=>wv (lq T G51 aj x32) fun v52=>Q (.tuple [v52,.int .i64 0]) G51)) -> R29 [x31,x32,x33,x34,x35,x36] G30) ->
 R29 [.ptr i1 [] 0,.ptr i3 [] 0,.ptr i18 [] 0,.ptr i23 [] 0,v27,v27] G28));
 al P cw.n [a1] G4 fun v5 G6=>wv (vun .not v5) fun v7=>brB (some v7)
 (J53 (.bool true) G6)
 (al P cw.n [a2] G6 fun v8 G9=>wv (vun .not v8) fun v10=>J53 v10 G9)
def du.an:Ann:=.two (.nil) (.two (.nil) (.two (.nil) (.two (.nil) (.two (.nil) (.two (.two (.nil) (.loop [3,6,8,9,10,11] [false,false,false,false,false,false] (.two (.nil) (.two (.two (.ord [(0,[]),(1,[]),(2,[]),(3,[]),(4,[]),(5,[]),(6,[])]) (.nil)) (.nil))))) (.nil))))))
theorem du.sound {a0 a1 a2:ag} {G:ah} {Q:ag -> ah -> Prop} (h:du.S a0 a1 a2 G Q):al P du.n [a0,a1,a2] G Q:=by
 have e:du.S a0 a1 a2 G Q = awp cx (du.body) du.an (bK T [.cell 6 23,.tmp 7] Q) (dN [a0,a1,a2]) G:=by kernel_rfl
 refine ay dO (f:=du.n) (fn:=Tryz.f105) (c:=du.body) (an:=du.an) Tryz.func105 ?_ ?_ ?_ (aF ?_ ?_) (by simp [Tryz.f105]) (e ▸ h) <;> kernel_rfl
def LY.S (a0 a1:ag) (G:ah) (Q:ag -> ah -> Prop):Prop :=
 br G (.own (cI)) fun i1 G2=>al P dX.n [a0,a1] G2 fun v3 G4=>wv (aw T .neq bq v3 (.int .i64 0)) fun v5=>brB (some v5)
 (wv (bk T aj []) fun v6=>wg (ax T G4 aj (.ptr i1 [] 0) v6) fun G7=>wv (lq T G7 aj (.ptr i1 [] 0)) fun v8=>Q (.tuple [v8,v3]) G7)
 (∀ R9:List ag -> ah -> Prop,
 (∀ (x11 x12 x13 x14:ag) (G10:ah),(wv (aw T .lss au x14 (.int .i64 49)) fun v15=>brB (some v15)
 (al P fM.n [x11,x14] G10 fun v16 G17=>br G17 (.own (pe)) fun i18 G19=>wg (ax T G19 ff (.ptr i18 [] 0) v16) fun G20=>wv (lq T G20 ey (.ptr i18 [2] 33)) fun v21=>brB (some v21)
 (wv (lq T G20 aj (.ptr i18 [1] 1)) fun v22=>wv (lq T G20 me (.ptr i18 [0] 0)) fun v23=>al P du.n [v22,v23,x12] G20 fun v24 G25=>wv (aW v24 0) fun v26=>wv (aW v24 1) fun v27=>br G25 (.own (cI)) fun i28 G29=>wg (ax T G29 aj (.ptr i28 [] 0) v26) fun G30=>wv (aw T .eql bq v27 (.int .i64 0)) fun v31=>brB (some v31)
 (wv (lq T G30 aj (.ptr i28 [] 0)) fun v32=>wg (ax T G30 aj x13 v32) fun G33=>wv (lq T G33 aj x13) fun v34=>Q (.tuple [v34,.int .i64 0]) G33)
 (wv (aw T .add au x14 (.int .i64 1)) fun v38=>R9 [x11,x12,x13,v38] G30))
 (wv (aw T .add au x14 (.int .i64 1)) fun v39=>R9 [x11,x12,x13,v39] G20))
 (wv (bk T aj []) fun v40=>wg (ax T G10 aj x13 v40) fun G41=>wv (lq T G41 aj x13) fun v42=>Q (.tuple [v42,.int .i64 5]) G41)) -> R9 [x11,x12,x13,x14] G10) ->
 R9 [a0,a1,.ptr i1 [] 0,.int .i64 0] G4)
def LY.an:Ann:=.two (.nil) (.two (.nil) (.two (.nil) (.two (.two (.nil) (.loop [0,1,4,7] [false,false,false,false] (.nil))) (.nil))))
theorem LY.sound {a0 a1:ag} {G:ah} {Q:ag -> ah -> Prop} (h:LY.S a0 a1 G Q):al P LY.n [a0,a1] G Q:=by
 have e:LY.S a0 a1 G Q = awp cx (LY.body) LY.an (bK T [.cell 4 23,.tmp 5] Q) (dN [a0,a1]) G:=by kernel_rfl
 refine ay dO (f:=LY.n) (fn:=Tryz.f44) (c:=LY.body) (an:=LY.an) Tryz.func44 ?_ ?_ ?_ (aF ?_ ?_) (by simp [Tryz.f44]) (e ▸ h) <;> kernel_rfl
def LV.S (a0 a1:ag) (G:ah) (Q:ag -> ah -> Prop):Prop :=
 br G (.own (a0)) fun i1 G2=>br G2 (.own (a1)) fun i3 G4=>br G4 (.own (gE)) fun i5 G6=>wv (lq T G6 me (.ptr i3 [6] 6)) fun v7=>wv (aw T .add me v7 (.int .i64 1)) fun v8=>wv (lq T G6 me (.ptr i3 [8] 8)) fun v9=>wv (bk T aG [(0,.int .i64 6),(3,v8),(4,v9)]) fun v10=>br G6 (.own (gE)) fun i11 G12=>wg (ax T G12 aG (.ptr i11 [] 0) v10) fun G13=>wv (lq T G13 me (.ptr i3 [8] 8)) fun v14=>wv (aw T .gtr me v14 (.int .i64 0)) fun v15=>brB (some v15)
 (wv (lq T G13 bu (.ptr i3 [15] 112)) fun v16=>wv (lq T G13 me (.ptr i3 [8] 8)) fun v17=>wv (aw T .sub me v17 (.int .i64 1)) fun v18=>al P LY.n [v16,v18] G13 fun v19 G20=>wv (aW v19 0) fun v21=>wv (aW v19 1) fun v22=>wg (ax T G20 aj (.ptr i11 [6] 37) v21) fun G23=>wv (lq T G23 aG (.ptr i11 [] 0)) fun v28=>wg (ax T G23 aG (.ptr i5 [] 0) v28) fun G29=>wv (lq T G29 aG (.ptr i5 [] 0)) fun v30=>Q v30 G29)
 (wv (lq T G13 aG (.ptr i11 [] 0)) fun v31=>wg (ax T G13 aG (.ptr i5 [] 0) v31) fun G32=>wv (lq T G32 aG (.ptr i5 [] 0)) fun v33=>Q v33 G32)
def LV.an:Ann:=.nil
theorem LV.sound {a0 a1:ag} {G:ah} {Q:ag -> ah -> Prop} (h:LV.S a0 a1 G Q):al P LV.n [a0,a1] G Q:=by
 have e:LV.S a0 a1 G Q = awp cx (LV.body) LV.an (bK T [.cell 4 48] Q) (dN [a0,a1]) G:=by kernel_rfl
 refine ay dO (f:=LV.n) (fn:=Tryz.f14) (c:=LV.body) (an:=LV.an) Tryz.func14 ?_ ?_ ?_ (aF ?_ ?_) (by simp [Tryz.f14]) (e ▸ h) <;> kernel_rfl
def xd.S (a0 a1:ag) (G:ah) (Q:ag -> ah -> Prop):Prop :=
 wv (gF T G ak a0) fun v1=>wv (gF T G ak a1) fun v2=>wv (aw T .neq au v1 v2) fun v3=>brB (some v3)
 (Q (.bool false) G)
 (∀ R4:List ag -> ah -> Prop,
 (∀ (x6 x7 x8:ag) (G5:ah),(wv (gF T G5 ak x6) fun v9=>wv (aw T .lss au x8 v9) fun v10=>brB (some v10)
 (wv (aL T ak x6 x8) fun v11=>wv (lq T G5 aI v11) fun v12=>wv (aL T ak x7 x8) fun v13=>wv (lq T G5 aI v13) fun v14=>wv (aw T .neq aI v12 v14) fun v15=>brB (some v15)
 (Q (.bool false) G5)
 (wv (aw T .add au x8 (.int .i64 1)) fun v16=>R4 [x6,x7,v16] G5))
 (Q (.bool true) G5)) -> R4 [x6,x7,x8] G5) ->
 R4 [a0,a1,.int .i64 0] G)
def xd.an:Ann:=.two (.nil) (.two (.nil) (.two (.two (.nil) (.loop [0,1,5] [false,false,false] (.two (.nil) (.two (.two (.ord [(0,[]),(1,[]),(2,[]),(3,[]),(4,[]),(5,[]),(6,[]),(7,[]),(8,[])]) (.nil)) (.nil))))) (.nil)))
theorem xd.sound {a0 a1:ag} {G:ah} {Q:ag -> ah -> Prop} (h:xd.S a0 a1 G Q):al P xd.n [a0,a1] G Q:=by
 have e:xd.S a0 a1 G Q = awp cx (xd.body) xd.an (bK T [.tmp 4] Q) (dN [a0,a1]) G:=by kernel_rfl
 refine ay dO (f:=xd.n) (fn:=Tryz.f45) (c:=xd.body) (an:=xd.an) Tryz.func45 ?_ ?_ ?_ (aF ?_ ?_) (by simp [Tryz.f45]) (e ▸ h) <;> kernel_rfl
def xe.S (a0 a1:ag) (G:ah) (Q:ag -> ah -> Prop):Prop :=
 br G (.own (a0)) fun i1 G2=>br G2 (.own (a1)) fun i3 G4=>wv (lq T G4 bu (.ptr i1 [15] 112)) fun v5=>wv (gF T G4 bu v5) fun v6=>wv (lq T G4 bu (.ptr i3 [15] 112)) fun v7=>wv (gF T G4 bu v7) fun v8=>wv (aw T .neq au v6 v8) fun v9=>brB (some v9)
 (Q (.bool false) G4)
 (∀ R10:List ag -> ah -> Prop,
 (∀ (x12 x13 x14:ag) (G11:ah),(wv (bx T aJ x12 15) fun v15=>wv (lq T G11 bu v15) fun v16=>wv (gF T G11 bu v16) fun v17=>wv (aw T .lss au x14 v17) fun v18=>brB (some v18)
 (wv (bx T aJ x12 15) fun v19=>wv (lq T G11 bu v19) fun v20=>wv (aL T bu v20 x14) fun v21=>wv (lq T G11 ff v21) fun v22=>wv (bx T aJ x13 15) fun v23=>wv (lq T G11 bu v23) fun v24=>wv (aL T bu v24 x14) fun v25=>wv (lq T G11 ff v25) fun v26=>wv (aw T .neq ff v22 v26) fun v27=>brB (some v27)
 (Q (.bool false) G11)
 (wv (aw T .add au x14 (.int .i64 1)) fun v28=>R10 [x12,x13,v28] G11))
 (wv (bx T aJ x12 0) fun v29=>wv (lq T G11 au v29) fun v30=>wv (bx T aJ x13 0) fun v31=>wv (lq T G11 au v31) fun v32=>wv (aw T .eql au v30 v32) fun v33=>brB (some v33)
 (wv (bx T aJ x12 1) fun v34=>wv (lq T G11 me v34) fun v35=>wv (bx T aJ x13 1) fun v36=>wv (lq T G11 me v36) fun v37=>wv (aw T .eql me v35 v37) fun v38=>brB (some v38)
 (wv (bx T aJ x12 2) fun v39=>wv (lq T G11 me v39) fun v40=>wv (bx T aJ x13 2) fun v41=>wv (lq T G11 me v41) fun v42=>wv (aw T .eql me v40 v42) fun v43=>brB (some v43)
 (wv (bx T aJ x12 3) fun v44=>wv (lq T G11 me v44) fun v45=>wv (bx T aJ x13 3) fun v46=>wv (lq T G11 me v46) fun v47=>wv (aw T .eql me v45 v47) fun v48=>brB (some v48)
 (wv (bx T aJ x12 4) fun v49=>wv (lq T G11 ak v49) fun v50=>wv (bx T aJ x13 4) fun v51=>wv (lq T G11 ak v51) fun v52=>al P xd.n [v50,v52] G11 fun v53 G54=>brB (some v53)
 (wv (bx T aJ x12 5) fun v55=>wv (lq T G54 ak v55) fun v56=>wv (bx T aJ x13 5) fun v57=>wv (lq T G54 ak v57) fun v58=>al P xd.n [v56,v58] G54 fun v59 G60=>brB (some v59)
 (wv (bx T aJ x12 6) fun v61=>wv (lq T G60 me v61) fun v62=>wv (bx T aJ x13 6) fun v63=>wv (lq T G60 me v63) fun v64=>wv (aw T .eql me v62 v64) fun v65=>brB (some v65)
 (wv (bx T aJ x12 7) fun v66=>wv (lq T G60 me v66) fun v67=>wv (bx T aJ x13 7) fun v68=>wv (lq T G60 me v68) fun v69=>wv (aw T .eql me v67 v69) fun v70=>brB (some v70)
 (wv (bx T aJ x12 8) fun v71=>wv (lq T G60 me v71) fun v72=>wv (bx T aJ x13 8) fun v73=>wv (lq T G60 me v73) fun v74=>wv (aw T .eql me v72 v74) fun v75=>brB (some v75)
 (wv (bx T aJ x12 9) fun v76=>wv (lq T G60 bG v76) fun v77=>wv (bx T aJ x13 9) fun v78=>wv (lq T G60 bG v78) fun v79=>wv (aw T .eql bG v77 v79) fun v80=>brB (some v80)
 (wv (bx T aJ x12 10) fun v81=>wv (lq T G60 bG v81) fun v82=>wv (bx T aJ x13 10) fun v83=>wv (lq T G60 bG v83) fun v84=>wv (aw T .eql bG v82 v84) fun v85=>brB (some v85)
 (wv (bx T aJ x12 11) fun v86=>wv (lq T G60 bG v86) fun v87=>wv (bx T aJ x13 11) fun v88=>wv (lq T G60 bG v88) fun v89=>wv (aw T .eql bG v87 v89) fun v90=>brB (some v90)
 (wv (bx T aJ x12 12) fun v91=>wv (lq T G60 ey v91) fun v92=>wv (bx T aJ x13 12) fun v93=>wv (lq T G60 ey v93) fun v94=>wv (aw T .eql ey v92 v94) fun v95=>brB (some v95)
 (wv (bx T aJ x12 13) fun v96=>wv (lq T G60 cL v96) fun v97=>wv (bx T aJ x13 13) fun v98=>wv (lq T G60 cL v98) fun v99=>wv (aw T .eql cL v97 v99) fun v100=>brB (some v100)
 (wv (bx T aJ x12 14) fun v101=>wv (lq T G60 aj v101) fun v102=>wv (bx T aJ x13 14) fun v103=>wv (lq T G60 aj v103) fun v104=>wv (aw T .eql aj v102 v104) fun v105=>brB (some v105)
 (wv (bx T aJ x12 16) fun v106=>wv (lq T G60 au v106) fun v107=>wv (bx T aJ x13 16) fun v108=>wv (lq T G60 au v108) fun v109=>wv (aw T .eql au v107 v109) fun v110=>brB (some v110)
 (wv (bx T aJ x12 17) fun v111=>wv (lq T G60 me v111) fun v112=>wv (bx T aJ x13 17) fun v113=>wv (lq T G60 me v113) fun v114=>wv (aw T .eql me v112 v114) fun v115=>Q v115 G60)
 (Q (.bool false) G60))
 (Q (.bool false) G60))
 (Q (.bool false) G60))
 (Q (.bool false) G60))
 (Q (.bool false) G60))
 (Q (.bool false) G60))
 (Q (.bool false) G60))
 (Q (.bool false) G60))
 (Q (.bool false) G60))
 (Q (.bool false) G60))
 (Q (.bool false) G60))
 (Q (.bool false) G54))
 (Q (.bool false) G11))
 (Q (.bool false) G11))
 (Q (.bool false) G11))
 (Q (.bool false) G11))) -> R10 [x12,x13,x14] G11) ->
 R10 [.ptr i1 [] 0,.ptr i3 [] 0,.int .i64 0] G4)
def xe.an:Ann:=.two (.nil) (.two (.nil) (.two (.two (.nil) (.loop [2,3,5] [false,false,false] (.two (.nil) (.two (.two (.ord [(0,[]),(1,[]),(2,[]),(3,[]),(4,[]),(5,[]),(6,[]),(7,[]),(8,[]),(9,[]),(10,[])]) (.nil)) (.nil))))) (.nil)))
theorem xe.sound {a0 a1:ag} {G:ah} {Q:ag -> ah -> Prop} (h:xe.S a0 a1 G Q):al P xe.n [a0,a1] G Q:=by
 have e:xe.S a0 a1 G Q = awp cx (xe.body) xe.an (bK T [.tmp 4] Q) (dN [a0,a1]) G:=by kernel_rfl
 refine ay dO (f:=xe.n) (fn:=Tryz.f15) (c:=xe.body) (an:=xe.an) Tryz.func15 ?_ ?_ ?_ (aF ?_ ?_) (by simp [Tryz.f15]) (e ▸ h) <;> kernel_rfl
def cm.S (a0:ag) (G:ah) (Q:ag -> ah -> Prop):Prop :=
 wv (aw T .geq me a0 (.int .i64 0)) fun v1=>brB (some v1)
 (wv (aw T .leq me a0 (.int .i64 1152921504606846976)) fun v2=>Q v2 G)
 (Q (.bool false) G)
def cm.an:Ann:=.nil
theorem cm.sound {a0:ag} {G:ah} {Q:ag -> ah -> Prop} (h:cm.S a0 G Q):al P cm.n [a0] G Q:=by
 have e:cm.S a0 G Q = awp cx (cm.body) cm.an (bK T [.tmp 2] Q) (dN [a0]) G:=by kernel_rfl
 refine ay dO (f:=cm.n) (fn:=Tryz.f195) (c:=cm.body) (an:=cm.an) Tryz.func195 ?_ ?_ ?_ (aF ?_ ?_) (by simp [Tryz.f195]) (e ▸ h) <;> kernel_rfl
def cy.S (a0:ag) (G:ah) (Q:ag -> ah -> Prop):Prop :=
 br G (.own (a0)) fun i1 G2=>wv (bk T aj []) fun v3=>br G2 (.own (cI)) fun i4 G5=>wg (ax T G5 aj (.ptr i4 [] 0) v3) fun G6=>let J41:ag -> ah -> Prop:=(fun x12 G11=>brB (some x12)
 (Q (.bool false) G11)
 (wv (lq T G11 au (.ptr i1 [0] 0)) fun v13=>wv (aw T .eql au v13 (.int .i64 1)) fun v14=>brB (some v14)
 (wv (lq T G11 me (.ptr i1 [2] 2)) fun v15=>wv (aw T .geq me v15 (.int .i64 1)) fun v16=>brB (some v16)
 (wv (lq T G11 me (.ptr i1 [2] 2)) fun v17=>wv (aw T .leq me v17 (.int .i64 1152921504606846976)) fun v18=>brB (some v18)
 (wv (lq T G11 bH (.ptr i1 [4] 35)) fun v19=>wv (aw T .eql bH v19 (.str [])) fun v20=>Q v20 G11)
 (Q (.bool false) G11))
 (Q (.bool false) G11))
 (wv (aw T .eql au v13 (.int .i64 2)) fun v23=>brB (some v23)
 (wv (lq T G11 me (.ptr i1 [2] 2)) fun v24=>wv (aw T .eql me v24 (.int .i64 0)) fun v25=>brB (some v25)
 (wv (lq T G11 bH (.ptr i1 [4] 35)) fun v26=>wv (aw T .eql bH v26 (.str [])) fun v27=>Q v27 G11)
 (Q (.bool false) G11))
 (wv (aw T .eql au v13 (.int .i64 3)) fun v30=>brB (some v30)
 (wv (lq T G11 me (.ptr i1 [2] 2)) fun v31=>wv (aw T .eql me v31 (.int .i64 0)) fun v32=>brB (some v32)
 (wv (lq T G11 aj (.ptr i1 [3] 3)) fun v33=>wv (lq T G11 aj (.ptr i4 [] 0)) fun v34=>wv (aw T .eql aj v33 v34) fun v35=>brB (some v35)
 (wv (lq T G11 bH (.ptr i1 [4] 35)) fun v36=>wv (gF T G11 bH v36) fun v37=>wv (aw T .leq au v37 (.int .i64 64)) fun v38=>Q v38 G11)
 (Q (.bool false) G11))
 (Q (.bool false) G11))
 (Q (.bool false) G11)))));
 wv (lq T G6 me (.ptr i1 [1] 1)) fun v7=>wv (aw T .lss me v7 (.int .i64 0)) fun v8=>brB (some v8)
 (J41 (.bool true) G6)
 (wv (lq T G6 me (.ptr i1 [1] 1)) fun v9=>wv (aw T .geq me v9 (.int .i64 2048)) fun v10=>J41 v10 G6)
def cy.an:Ann:=.nil
theorem cy.sound {a0:ag} {G:ah} {Q:ag -> ah -> Prop} (h:cy.S a0 G Q):al P cy.n [a0] G Q:=by
 have e:cy.S a0 G Q = awp cx (cy.body) cy.an (bK T [.tmp 2] Q) (dN [a0]) G:=by kernel_rfl
 refine ay dO (f:=cy.n) (fn:=Tryz.f203) (c:=cy.body) (an:=cy.an) Tryz.func203 ?_ ?_ ?_ (aF ?_ ?_) (by simp [Tryz.f203]) (e ▸ h) <;> kernel_rfl
def db.S (a0:ag) (G:ah) (Q:ag -> ah -> Prop):Prop :=
 ∀ R1:List ag -> ah -> Prop,
 (∀ (x3 x4:ag) (G2:ah),(wv (gF T G2 ak x3) fun v5=>wv (aw T .lss au x4 v5) fun v6=>brB (some v6)
 (wv (aL T ak x3 x4) fun v7=>wv (lq T G2 aI v7) fun v8=>al P cy.n [v8] G2 fun v9 G10=>wv (vun .not v9) fun v11=>brB (some v11)
 (Q (.bool false) G10)
 (wv (aw T .add au x4 (.int .i64 1)) fun v12=>R1 [x3,v12] G10))
 (Q (.bool true) G2)) -> R1 [x3,x4] G2) ->
 R1 [a0,.int .i64 0] G
def db.an:Ann:=.two (.nil) (.two (.two (.nil) (.loop [0,3] [false,false] (.nil))) (.nil))
theorem db.sound {a0:ag} {G:ah} {Q:ag -> ah -> Prop} (h:db.S a0 G Q):al P db.n [a0] G Q:=by
 have e:db.S a0 G Q = awp cx (db.body) db.an (bK T [.tmp 2] Q) (dN [a0]) G:=by kernel_rfl
 refine ay dO (f:=db.n) (fn:=Tryz.f196) (c:=db.body) (an:=db.an) Tryz.func196 ?_ ?_ ?_ (aF ?_ ?_) (by simp [Tryz.f196]) (e ▸ h) <;> kernel_rfl
def cU.S (a0 a1:ag) (G:ah) (Q:ag -> ah -> Prop):Prop :=
 br G (.own (a0)) fun i1 G2=>br G2 (.own (iJ)) fun i3 G4=>wv (aw T .eql me a1 (.int .i64 1152921504606846976)) fun v5=>brB (some v5)
 (wv (lq T G4 me (.ptr i1 [0] 0)) fun v6=>wv (aw T .add me v6 (.int .i64 1)) fun v7=>wv (lq T G4 me (.ptr i1 [1] 1)) fun v8=>wv (bk T aY [(0,v7),(1,v8)]) fun v9=>wg (ax T G4 aY (.ptr i3 [] 0) v9) fun G10=>wv (lq T G10 aY (.ptr i3 [] 0)) fun v11=>Q v11 G10)
 (wv (lq T G4 me (.ptr i1 [1] 1)) fun v12=>wv (aw T .add me v12 a1) fun v13=>wg (ax T G4 me (.ptr i1 [1] 1) v13) fun G14=>wv (lq T G14 me (.ptr i1 [1] 1)) fun v15=>wv (aw T .geq me v15 (.int .i64 1152921504606846976)) fun v16=>brB (some v16)
 (wv (lq T G14 me (.ptr i1 [0] 0)) fun v17=>wv (aw T .add me v17 (.int .i64 1)) fun v18=>wv (lq T G14 me (.ptr i1 [1] 1)) fun v19=>wv (aw T .sub me v19 (.int .i64 1152921504606846976)) fun v20=>wv (bk T aY [(0,v18),(1,v20)]) fun v21=>wg (ax T G14 aY (.ptr i3 [] 0) v21) fun G22=>wv (lq T G22 aY (.ptr i3 [] 0)) fun v23=>Q v23 G22)
 (wv (lq T G14 aY (.ptr i1 [] 0)) fun v24=>wg (ax T G14 aY (.ptr i3 [] 0) v24) fun G25=>wv (lq T G25 aY (.ptr i3 [] 0)) fun v26=>Q v26 G25))
def cU.an:Ann:=.nil
theorem cU.sound {a0 a1:ag} {G:ah} {Q:ag -> ah -> Prop} (h:cU.S a0 a1 G Q):al P cU.n [a0,a1] G Q:=by
 have e:cU.S a0 a1 G Q = awp cx (cU.body) cU.an (bK T [.cell 4 231] Q) (dN [a0,a1]) G:=by kernel_rfl
 refine ay dO (f:=cU.n) (fn:=Tryz.f198) (c:=cU.body) (an:=cU.an) Tryz.func198 ?_ ?_ ?_ (aF ?_ ?_) (by simp [Tryz.f198]) (e ▸ h) <;> kernel_rfl
def cO.S (a0 a1:ag) (G:ah) (Q:ag -> ah -> Prop):Prop :=
 ∀ R1:List ag -> ah -> Prop,
 (∀ (x3 x4 x5:ag) (G2:ah),(wv (gF T G2 ak x3) fun v6=>wv (aw T .lss au x5 v6) fun v7=>brB (some v7)
 (let J25:ag -> ah -> Prop:=(fun x21 G20=>brB (some x21)
 (wv (aL T ak x3 x5) fun v22=>wv (bx T aI v22 0) fun v23=>wv (lq T G20 au v23) fun v24=>Q v24 G20)
 (wv (aw T .add au x5 (.int .i64 1)) fun v26=>R1 [x3,x4,v26] G20));
 wv (aL T ak x3 x5) fun v8=>wv (bx T aI v8 0) fun v9=>wv (lq T G2 au v9) fun v10=>wv (aw T .neq au v10 (.int .i64 1)) fun v11=>brB (some v11)
 (wv (aL T ak x3 x5) fun v12=>wv (bx T aI v12 1) fun v13=>wv (lq T G2 me v13) fun v14=>wv (aw T .eql me v14 x4) fun v15=>brB (some v15)
 (wv (aL T ak x3 x5) fun v16=>wv (lq T G2 aI v16) fun v17=>al P cy.n [v17] G2 fun v18 G19=>J25 v18 G19)
 (J25 (.bool false) G2))
 (J25 (.bool false) G2))
 (Q (.int .i64 0) G2)) -> R1 [x3,x4,x5] G2) ->
 R1 [a0,a1,.int .i64 0] G
def cO.an:Ann:=.two (.nil) (.two (.two (.nil) (.loop [0,1,5] [false,false,false] (.nil))) (.nil))
theorem cO.sound {a0 a1:ag} {G:ah} {Q:ag -> ah -> Prop} (h:cO.S a0 a1 G Q):al P cO.n [a0,a1] G Q:=by
 have e:cO.S a0 a1 G Q = awp cx (cO.body) cO.an (bK T [.tmp 4] Q) (dN [a0,a1]) G:=by kernel_rfl
 refine ay dO (f:=cO.n) (fn:=Tryz.f218) (c:=cO.body) (an:=cO.an) Tryz.func218 ?_ ?_ ?_ (aF ?_ ?_) (by simp [Tryz.f218]) (e ▸ h) <;> kernel_rfl
def dc.S (a0 a1:ag) (G:ah) (Q:ag -> ah -> Prop):Prop :=
 br G (.own (a0)) fun i1 G2=>br G2 (.own (iJ)) fun i3 G4=>wv (aw T .eql me a1 (.int .i64 1152921504606846976)) fun v5=>brB (some v5)
 (wv (lq T G4 me (.ptr i1 [0] 0)) fun v6=>wv (aw T .sub me v6 (.int .i64 1)) fun v7=>wv (lq T G4 me (.ptr i1 [1] 1)) fun v8=>wv (bk T aY [(0,v7),(1,v8)]) fun v9=>wg (ax T G4 aY (.ptr i3 [] 0) v9) fun G10=>wv (lq T G10 aY (.ptr i3 [] 0)) fun v11=>Q v11 G10)
 (wv (lq T G4 me (.ptr i1 [1] 1)) fun v12=>wv (aw T .sub me v12 a1) fun v13=>wg (ax T G4 me (.ptr i1 [1] 1) v13) fun G14=>wv (lq T G14 me (.ptr i1 [1] 1)) fun v15=>wv (aw T .lss me v15 (.int .i64 0)) fun v16=>brB (some v16)
 (wv (lq T G14 me (.ptr i1 [0] 0)) fun v17=>wv (aw T .sub me v17 (.int .i64 1)) fun v18=>wv (lq T G14 me (.ptr i1 [1] 1)) fun v19=>wv (aw T .add me v19 (.int .i64 1152921504606846976)) fun v20=>wv (bk T aY [(0,v18),(1,v20)]) fun v21=>wg (ax T G14 aY (.ptr i3 [] 0) v21) fun G22=>wv (lq T G22 aY (.ptr i3 [] 0)) fun v23=>Q v23 G22)
 (wv (lq T G14 aY (.ptr i1 [] 0)) fun v24=>wg (ax T G14 aY (.ptr i3 [] 0) v24) fun G25=>wv (lq T G25 aY (.ptr i3 [] 0)) fun v26=>Q v26 G25))
def dc.an:Ann:=.nil
theorem dc.sound {a0 a1:ag} {G:ah} {Q:ag -> ah -> Prop} (h:dc.S a0 a1 G Q):al P dc.n [a0,a1] G Q:=by
 have e:dc.S a0 a1 G Q = awp cx (dc.body) dc.an (bK T [.cell 4 231] Q) (dN [a0,a1]) G:=by kernel_rfl
 refine ay dO (f:=dc.n) (fn:=Tryz.f219) (c:=dc.body) (an:=dc.an) Tryz.func219 ?_ ?_ ?_ (aF ?_ ?_) (by simp [Tryz.f219]) (e ▸ h) <;> kernel_rfl
def dt.S (a0 a1:ag) (G:ah) (Q:ag -> ah -> Prop):Prop :=
 br G (.own (a1)) fun i1 G2=>∀ R3:List ag -> ah -> Prop,
 (∀ (x5 x6 x7 x8 x9:ag) (G4:ah),(wv (gF T G4 aq x5) fun v10=>wv (aw T .lss au x9 v10) fun v11=>brB (some v11)
 (let J47:ag -> ah -> Prop:=(fun x20 G19=>brB (some x20)
 (wv (lq T G19 aU x6) fun v21=>bh T aq 1 [(0,v21)] G19 fun v22 G23=>cc T G23 aq aq x7 v22 fun v24 G25=>wv (aL T aq x5 x9) fun v35=>wv (lq T G25 aU v35) fun v36=>bh T aq 1 [(0,v36)] G25 fun v37 G38=>cc T G38 aq aq v24 v37 fun v39 G40=>wv (aw T .add au x9 (.int .i64 1)) fun v52=>R3 [x5,x6,v39,.bool true,v52] G40)
 (wv (aL T aq x5 x9) fun v41=>wv (lq T G19 aU v41) fun v42=>bh T aq 1 [(0,v42)] G19 fun v43 G44=>cc T G44 aq aq x7 v43 fun v45 G46=>wv (aw T .add au x9 (.int .i64 1)) fun v53=>R3 [x5,x6,v45,x8,v53] G46));
 wv (vun .not x8) fun v12=>brB (some v12)
 (wv (aL T aq x5 x9) fun v13=>wv (bx T aU v13 1) fun v14=>wv (lq T G4 me v14) fun v15=>wv (bx T aU x6 1) fun v16=>wv (lq T G4 me v16) fun v17=>wv (aw T .gtr me v15 v17) fun v18=>J47 v18 G4)
 (J47 (.bool false) G4))
 (wv (vun .not x8) fun v54=>brB (some v54)
 (wv (lq T G4 aU x6) fun v55=>bh T aq 1 [(0,v55)] G4 fun v56 G57=>cc T G57 aq aq x7 v56 fun v58 G59=>Q v58 G59)
 (Q x7 G4))) -> R3 [x5,x6,x7,x8,x9] G4) ->
 R3 [a0,.ptr i1 [] 0,.nilSlice,.bool false,.int .i64 0] G2
def dt.an:Ann:=.two (.nil) (.two (.nil) (.two (.nil) (.two (.two (.nil) (.loop [0,3,5,6,7] [false,false,false,false,false] (.two (.nil) (.two (.two (.two (.ord [(0,[]),(1,[]),(2,[]),(3,[]),(4,[]),(5,[]),(6,[]),(7,[]),(8,[]),(9,[]),(10,[]),(11,[])]) (.nil)) (.nil)) (.nil))))) (.nil))))
theorem dt.sound {a0 a1:ag} {G:ah} {Q:ag -> ah -> Prop} (h:dt.S a0 a1 G Q):al P dt.n [a0,a1] G Q:=by
 have e:dt.S a0 a1 G Q = awp cx (dt.body) dt.an (bK T [.tmp 4] Q) (dN [a0,a1]) G:=by kernel_rfl
 refine ay dO (f:=dt.n) (fn:=Tryz.f220) (c:=dt.body) (an:=dt.an) Tryz.func220 ?_ ?_ ?_ (aF ?_ ?_) (by simp [Tryz.f220]) (e ▸ h) <;> kernel_rfl
def dH.S (a0 a1 a2 a3 a4:ag) (G:ah) (Q:ag -> ah -> Prop):Prop :=
 br G (.own (a0)) fun i1 G2=>br G2 (.own (a1)) fun i3 G4=>br G4 (.own (iJ)) fun i5 G6=>br G6 (.own (iJ)) fun i7 G8=>∀ R9:List ag -> ah -> Prop,
 (∀ (x11 x12 x13 x14 x15 x16 x17 x18 x19:ag) (G10:ah),(wv (gF T G10 ak x11) fun v20=>wv (aw T .lss au x19 v20) fun v21=>brB (some v21)
 (let J64:ag -> ah -> Prop:=(fun x62 G61=>wv (aw T .add au x19 (.int .i64 1)) fun v63=>R9 [x11,x12,x13,x14,x15,x16,x17,x62,v63] G61);
 wv (aL T ak x11 x19) fun v22=>wv (lq T G10 aI v22) fun v23=>br G10 (.own (gy)) fun i24 G25=>wg (ax T G25 aI (.ptr i24 [] 0) v23) fun G26=>wv (lq T G26 au (.ptr i24 [0] 0)) fun v27=>wv (aw T .neq au v27 (.int .i64 1)) fun v28=>brB (some v28)
 (J64 x18 G26)
 (wv (lq T G26 me (.ptr i24 [1] 1)) fun v29=>al P cO.n [x12,v29] G26 fun v30 G31=>wv (aw T .eql au v30 (.int .i64 2)) fun v32=>brB (some v32)
 (wv (lq T G31 aY x14) fun v33=>wv (lq T G31 me (.ptr i24 [2] 2)) fun v34=>al P dc.n [v33,v34] G31 fun v35 G36=>wg (ax T G36 aY x14 v35) fun G37=>wv (lq T G37 aY x15) fun v38=>wv (lq T G37 me (.ptr i24 [2] 2)) fun v39=>al P cU.n [v38,v39] G37 fun v40 G41=>wg (ax T G41 aY x15 v40) fun G42=>J64 x18 G42)
 (wv (aw T .eql au v30 (.int .i64 0)) fun v43=>brB (some v43)
 (wv (lq T G31 aY x14) fun v44=>wv (lq T G31 me (.ptr i24 [2] 2)) fun v45=>al P dc.n [v44,v45] G31 fun v46 G47=>wg (ax T G47 aY x14 v46) fun G48=>wv (lq T G48 me (.ptr i24 [1] 1)) fun v49=>wv (lq T G48 me (.ptr i24 [2] 2)) fun v50=>wv (lq T G48 aj (.ptr i24 [3] 3)) fun v51=>wv (bk T aU [(0,x13),(1,v49),(2,v50),(3,v51)]) fun v52=>al P dt.n [x18,v52] G48 fun v53 G54=>J64 v53 G54)
 (J64 x18 G31))))
 (wv (lq T G10 aY x14) fun v65=>wv (lq T G10 aY x15) fun v66=>wg (ax T G10 aY x16 v65) fun G67=>(lq T G67 aY x15 = some v66 /\ True) /\ (wg (ax T G67 aY x17 v66) fun G68=>wv (lq T G68 aY x16) fun v69=>wv (lq T G68 aY x17) fun v70=>Q (.tuple [v69,v70,x18]) G68))) -> R9 [x11,x12,x13,x14,x15,x16,x17,x18,x19] G10) ->
 R9 [a2,a3,a4,.ptr i1 [] 0,.ptr i3 [] 0,.ptr i5 [] 0,.ptr i7 [] 0,.nilSlice,.int .i64 0] G8
def dH.an:Ann:=.two (.nil) (.two (.nil) (.two (.two (.nil) (.loop [2,3,4,5,6,10,11,13,14] [false,false,false,false,false,false,false,false,false] (.nil))) (.two (.ord [(0,[]),(1,[]),(2,[]),(3,[1]),(4,[]),(5,[])]) (.nil))))
theorem dH.sound {a0 a1 a2 a3 a4:ag} {G:ah} {Q:ag -> ah -> Prop} (h:dH.S a0 a1 a2 a3 a4 G Q):al P dH.n [a0,a1,a2,a3,a4] G Q:=by
 have e:dH.S a0 a1 a2 a3 a4 G Q = awp cx (dH.body) dH.an (bK T [.cell 10 231,.cell 11 231,.tmp 12] Q) (dN [a0,a1,a2,a3,a4]) G:=by kernel_rfl
 refine ay dO (f:=dH.n) (fn:=Tryz.f197) (c:=dH.body) (an:=dH.an) Tryz.func197 ?_ ?_ ?_ (aF ?_ ?_) (by simp [Tryz.f197]) (e ▸ h) <;> kernel_rfl
def eG.S (a0:ag) (G:ah) (Q:ag -> ah -> Prop):Prop :=
 br G (.own (a0)) fun i1 G2=>wv (lq T G2 me (.ptr i1 [0] 0)) fun v3=>wv (aw T .lss me v3 (.int .i64 0)) fun v4=>brB (some v4)
 (Q (.int .i64 0) G2)
 (wv (lq T G2 me (.ptr i1 [0] 0)) fun v5=>wv (aw T .gtr me v5 (.int .i64 0)) fun v6=>brB (some v6)
 (Q (.int .i64 1152921504606846976) G2)
 (wv (lq T G2 me (.ptr i1 [1] 1)) fun v7=>Q v7 G2))
def eG.an:Ann:=.nil
theorem eG.sound {a0:ag} {G:ah} {Q:ag -> ah -> Prop} (h:eG.S a0 G Q):al P eG.n [a0] G Q:=by
 have e:eG.S a0 G Q = awp cx (eG.body) eG.an (bK T [.tmp 2] Q) (dN [a0]) G:=by kernel_rfl
 refine ay dO (f:=eG.n) (fn:=Tryz.f199) (c:=eG.body) (an:=eG.an) Tryz.func199 ?_ ?_ ?_ (aF ?_ ?_) (by simp [Tryz.f199]) (e ▸ h) <;> kernel_rfl
def dI.S (a0 a1 a2 a3 a4:ag) (G:ah) (Q:ag -> ah -> Prop):Prop :=
 br G (.own (a4)) fun i1 G2=>br G2 (.own (iZ)) fun i3 G4=>let J93:ag -> ah -> Prop:=(fun x26 G25=>brB (some x26)
 (wv (bk T bc []) fun v27=>wg (ax T G25 bc (.ptr i3 [] 0) v27) fun G28=>wv (lq T G28 bc (.ptr i3 [] 0)) fun v29=>Q (.tuple [v29,.int .i64 1]) G28)
 (wv (lq T G25 au (.ptr i1 [0] 0)) fun v30=>wv (fj T ak a2 none (some (v30)) none) fun v31=>wv (lq T G25 au (.ptr i1 [1] 1)) fun v32=>wv (fj T ak a3 none (some (v32)) none) fun v33=>let J92:ag -> ah -> Prop:=(fun x41 G40=>brB (some x41)
 (wv (bk T bc []) fun v42=>wg (ax T G40 bc (.ptr i3 [] 0) v42) fun G43=>wv (lq T G43 bc (.ptr i3 [] 0)) fun v44=>Q (.tuple [v44,.int .i64 120]) G43)
 (wv (bk T aY []) fun v45=>al P cU.n [v45,a0] G40 fun v46 G47=>wv (bk T aY []) fun v48=>al P cU.n [v48,a1] G47 fun v49 G50=>al P dH.n [v46,v49,v31,v33,.bool true] G50 fun v51 G52=>wv (aW v51 0) fun v53=>wv (aW v51 1) fun v54=>wv (aW v51 2) fun v55=>br G52 (.own (iJ)) fun i56 G57=>br G57 (.own (iJ)) fun i58 G59=>wg (ax T G59 aY (.ptr i56 [] 0) v53) fun G60=>wg (ax T G60 aY (.ptr i58 [] 0) v54) fun G61=>wv (lq T G61 aY (.ptr i58 [] 0)) fun v62=>wv (lq T G61 aY (.ptr i56 [] 0)) fun v63=>al P dH.n [v62,v63,v33,v31,.bool false] G61 fun v64 G65=>wv (aW v64 0) fun v66=>wv (aW v64 1) fun v67=>wv (aW v64 2) fun v68=>wg (ax T G65 aY (.ptr i58 [] 0) v66) fun G69=>wg (ax T G69 aY (.ptr i56 [] 0) v67) fun G70=>let J91:ag -> ah -> Prop:=(fun x76 G75=>brB (some x76)
 (wv (bk T bc []) fun v77=>wg (ax T G75 bc (.ptr i3 [] 0) v77) fun G78=>wv (lq T G78 bc (.ptr i3 [] 0)) fun v79=>Q (.tuple [v79,.int .i64 130]) G78)
 (wv (lq T G75 aY (.ptr i56 [] 0)) fun v80=>wv (lq T G75 aY (.ptr i58 [] 0)) fun v81=>al P eG.n [v80] G75 fun v82 G83=>(lq T G83 aY (.ptr i58 [] 0) = some v81 /\ True) /\ (al P eG.n [v81] G83 fun v84 G85=>cc T G85 aq aq v55 v68 fun v86 G87=>wv (bk T bc [(0,v82),(1,v84),(2,v86)]) fun v88=>wg (ax T G87 bc (.ptr i3 [] 0) v88) fun G89=>wv (lq T G89 bc (.ptr i3 [] 0)) fun v90=>Q (.tuple [v90,.int .i64 0]) G89)));
 wv (lq T G70 me (.ptr i56 [0] 0)) fun v71=>wv (aw T .lss me v71 (.int .i64 0)) fun v72=>brB (some v72)
 (J91 (.bool true) G70)
 (wv (lq T G70 me (.ptr i58 [0] 0)) fun v73=>wv (aw T .lss me v73 (.int .i64 0)) fun v74=>J91 v74 G70)));
 al P db.n [v31] G25 fun v34 G35=>wv (vun .not v34) fun v36=>brB (some v36)
 (J92 (.bool true) G35)
 (al P db.n [v33] G35 fun v37 G38=>wv (vun .not v37) fun v39=>J92 v39 G38)));
 wv (lq T G4 au (.ptr i1 [0] 0)) fun v5=>wv (aw T .lss au v5 (.int .i64 0)) fun v6=>brB (some v6)
 (J93 (.bool true) G4)
 (wv (lq T G4 au (.ptr i1 [0] 0)) fun v7=>wv (gF T G4 ak a2) fun v8=>wv (aw T .gtr au v7 v8) fun v9=>brB (some v9)
 (J93 (.bool true) G4)
 (wv (lq T G4 au (.ptr i1 [1] 1)) fun v10=>wv (aw T .lss au v10 (.int .i64 0)) fun v11=>brB (some v11)
 (J93 (.bool true) G4)
 (wv (lq T G4 au (.ptr i1 [1] 1)) fun v12=>wv (gF T G4 ak a3) fun v13=>wv (aw T .gtr au v12 v13) fun v14=>brB (some v14)
 (J93 (.bool true) G4)
 (al P cm.n [a0] G4 fun v15 G16=>wv (vun .not v15) fun v17=>brB (some v17)
 (J93 (.bool true) G16)
 (al P cm.n [a1] G16 fun v18 G19=>wv (vun .not v18) fun v20=>brB (some v20)
 (J93 (.bool true) G19)
 (wv (aw T .add me a0 a1) fun v21=>al P cm.n [v21] G19 fun v22 G23=>wv (vun .not v22) fun v24=>J93 v24 G23))))))
def dI.an:Ann:=.two (.nil) (.two (.nil) (.two (.nil) (.two (.nil) (.two (.nil) (.two (.nil) (.two (.nil) (.two (.nil) (.two (.ord [(0,[]),(2,[]),(4,[]),(5,[]),(1,[2]),(3,[]),(6,[]),(7,[]),(8,[]),(9,[])]) (.nil)))))))))
theorem dI.sound {a0 a1 a2 a3 a4:ag} {G:ah} {Q:ag -> ah -> Prop} (h:dI.S a0 a1 a2 a3 a4 G Q):al P dI.n [a0,a1,a2,a3,a4] G Q:=by
 have e:dI.S a0 a1 a2 a3 a4 G Q = awp cx (dI.body) dI.an (bK T [.cell 10 126,.tmp 11] Q) (dN [a0,a1,a2,a3,a4]) G:=by kernel_rfl
 refine ay dO (f:=dI.n) (fn:=Tryz.f158) (c:=dI.body) (an:=dI.an) Tryz.func158 ?_ ?_ ?_ (aF ?_ ?_) (by simp [Tryz.f158]) (e ▸ h) <;> kernel_rfl
def da.S (a0 a1:ag) (G:ah) (Q:ag -> ah -> Prop):Prop :=
 ∀ R1:List ag -> ah -> Prop,
 (∀ (x3 x4 x5 x6:ag) (G2:ah),(wv (gF T G2 aq x3) fun v7=>wv (aw T .lss au x6 v7) fun v8=>brB (some v8)
 (wv (aL T aq x3 x6) fun v9=>wv (bx T aU v9 0) fun v10=>wv (lq T G2 ey v10) fun v11=>wv (aw T .eql ey v11 x4) fun v12=>brB (some v12)
 (wv (aw T .add au x5 (.int .i64 1)) fun v13=>wv (aw T .add au x6 (.int .i64 1)) fun v19=>R1 [x3,x4,v13,v19] G2)
 (wv (aw T .add au x6 (.int .i64 1)) fun v20=>R1 [x3,x4,x5,v20] G2))
 (Q x5 G2)) -> R1 [x3,x4,x5,x6] G2) ->
 R1 [a0,a1,.int .i64 0,.int .i64 0] G
def da.an:Ann:=.two (.nil) (.two (.nil) (.two (.two (.nil) (.loop [0,1,5,6] [false,false,false,false] (.nil))) (.nil)))
theorem da.sound {a0 a1:ag} {G:ah} {Q:ag -> ah -> Prop} (h:da.S a0 a1 G Q):al P da.n [a0,a1] G Q:=by
 have e:da.S a0 a1 G Q = awp cx (da.body) da.an (bK T [.tmp 4] Q) (dN [a0,a1]) G:=by kernel_rfl
 refine ay dO (f:=da.n) (fn:=Tryz.f221) (c:=da.body) (an:=da.an) Tryz.func221 ?_ ?_ ?_ (aF ?_ ?_) (by simp [Tryz.f221]) (e ▸ h) <;> kernel_rfl
end Go.Esc.M
