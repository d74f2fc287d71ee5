import Derived.Test.YtkojimdacnohpaaGreatDoorT
set_option linter.unusedSimpArgs false
set_option linter.unusedVariables false
set_option maxRecDepth 100000
namespace Go.Esc.M
open Go Go.Esc Go.Proofs
def ee.S (a0 a1 a2:ag) (G:ah) (Q:ag -> ah -> Prop):Prop :=
 br G (.own (a2)) fun i1 G2=>wv (kH a0) fun v3=>wv (bx T bw v3 1) fun v4=>wv (aL T gY v4 a1) fun v5=>wv (lq T G2 aJ v5) fun v6=>br G2 (.own (iT)) fun i7 G8=>wg (ax T G8 aJ (.ptr i7 [] 0) v6) fun G9=>let J74:ag -> ah -> Prop:=(fun x17 G16=>brB (some x17)
 (wv (lq T G16 aG (.ptr i1 [] 0)) fun v18=>al P dx.n [v18] G16 fun v19 G20=>br G20 (.own (gy)) fun i21 G22=>wg (ax T G22 aI (.ptr i21 [] 0) v19) fun G23=>wv (lq T G23 aJ (.ptr i7 [] 0)) fun v24=>wv (lq T G23 aI (.ptr i21 [] 0)) fun v25=>al P dT.n [v24,v25] G23 fun v26 G27=>wv (aw T .neq bq v26 (.int .i64 0)) fun v28=>brB (some v28)
 (Q (.bool false) G27)
 (wv (lq T G27 ak (.ptr i7 [5] 5)) fun v29=>wv (lq T G27 aI (.ptr i21 [] 0)) fun v30=>wv (kH a0) fun v31=>wv (bx T bw v31 1) fun v32=>cc T G27 ak ak (.nilSlice) v29 fun v33 G34=>(lq T G34 aI (.ptr i21 [] 0) = some v30 /\ True) /\ (bh T ak 1 [(0,v30)] G34 fun v35 G36=>cc T G36 ak ak v33 v35 fun v37 G38=>wv (aL T gY v32 a1) fun v39=>wv (bx T aJ v39 5) fun v40=>wg (ax T G38 ak v40 v37) fun G41=>Q (.bool true) G41)))
 (wv (kH a0) fun v42=>wv (bx T bw v42 0) fun v43=>wv (aL T fD v43 a1) fun v44=>wv (lq T G16 cl v44) fun v45=>wv (lq T G16 aJ (.ptr i7 [] 0)) fun v46=>wv (lq T G16 aG (.ptr i1 [] 0)) fun v47=>al P eP.n [v45,v46,v47] G16 fun v48 G49=>wv (aW v48 0) fun v50=>wv (aW v48 1) fun v51=>br G49 (.own (iY)) fun i52 G53=>wg (ax T G53 aD (.ptr i52 [] 0) v50) fun G54=>wv (aw T .eql bq v51 (.int .i64 0)) fun v55=>brB (some v55)
 (wv (lq T G54 aD (.ptr i52 [] 0)) fun v56=>al P bO.n [a0,a1,v56] G54 fun v57 G58=>Q (.bool true) G58)
 (wv (lq T G54 aJ (.ptr i7 [] 0)) fun v59=>wv (lq T G54 aG (.ptr i1 [] 0)) fun v60=>al P cM.n [v59,v60] G54 fun v61 G62=>wv (aW v61 0) fun v63=>wv (aW v61 1) fun v64=>wg (ax T G62 aD (.ptr i52 [] 0) v63) fun G65=>wv (aw T .eql bq v64 (.int .i64 0)) fun v66=>brB (some v66)
 (wv (lq T G65 aD (.ptr i52 [] 0)) fun v67=>al P bO.n [a0,a1,v67] G65 fun v68 G69=>wv (aw T .eql bq v64 (.int .i64 0)) fun v72=>Q v72 G69)
 (wv (aw T .eql bq v64 (.int .i64 0)) fun v73=>Q v73 G65))));
 wv (lq T G9 au (.ptr i1 [0] 0)) fun v10=>wv (aw T .eql au v10 (.int .i64 1)) fun v11=>brB (some v11)
 (J74 (.bool true) G9)
 (wv (lq T G9 au (.ptr i1 [0] 0)) fun v12=>wv (aw T .eql au v12 (.int .i64 2)) fun v13=>brB (some v13)
 (J74 (.bool true) G9)
 (wv (lq T G9 au (.ptr i1 [0] 0)) fun v14=>wv (aw T .eql au v14 (.int .i64 3)) fun v15=>J74 v15 G9))
def ee.an:Ann:=.two (.nil) (.two (.nil) (.two (.two (.nil) (.two (.two (.nil) (.two (.nil) (.two (.ord [(0,[]),(1,[]),(2,[]),(3,[]),(5,[]),(8,[]),(9,[]),(4,[5]),(6,[]),(7,[]),(10,[]),(11,[]),(12,[])]) (.nil)))) (.nil))) (.two (.ord [(0,[]),(1,[]),(2,[]),(3,[]),(4,[]),(5,[]),(6,[]),(7,[]),(8,[]),(9,[]),(10,[]),(11,[]),(12,[]),(13,[]),(14,[])]) (.nil))))
theorem ee.sound {a0 a1 a2:ag} {G:ah} {Q:ag -> ah -> Prop} (h:ee.S a0 a1 a2 G Q):al P ee.n [a0,a1,a2] G Q:=by
 have e:ee.S a0 a1 a2 G Q = awp cx (ee.body) ee.an (bK T [.tmp 6] Q) (dN [a0,a1,a2]) G:=by kernel_rfl
 refine ay dO (f:=ee.n) (fn:=Tryz.f47) (c:=ee.body) (an:=ee.an) Tryz.func47 ?_ ?_ ?_ (aF ?_ ?_) (by simp [Tryz.f47]) (e ▸ h) <;> kernel_rfl
def cr.S (a0:ag) (G:ah) (Q:ag -> ah -> Prop):Prop :=
 br G (.own (a0)) fun i1 G2=>wv (lq T G2 aJ (.ptr i1 [] 0)) fun v3=>al P bV.n [v3] G2 fun v4 G5=>br G5 (.own (kG)) fun i6 G7=>wg (ax T G7 bG (.ptr i6 [] 0) v4) fun G8=>wv (lq T G8 me (.ptr i1 [2] 2)) fun v9=>wv (lq T G8 ak (.ptr i1 [4] 4)) fun v10=>wv (lq T G8 ak (.ptr i1 [5] 5)) fun v11=>wv (lq T G8 au (.ptr i6 [0] 0)) fun v12=>wv (lq T G8 au (.ptr i6 [1] 1)) fun v13=>al P b6.n [v9,v10,v11,v12,v13] G8 fun v14 G15=>Q v14 G15
def cr.an:Ann:=.nil
theorem cr.sound {a0:ag} {G:ah} {Q:ag -> ah -> Prop} (h:cr.S a0 G Q):al P cr.n [a0] G Q:=by
 have e:cr.S a0 G Q = awp cx (cr.body) cr.an (bK T [.tmp 2] Q) (dN [a0]) G:=by kernel_rfl
 refine ay dO (f:=cr.n) (fn:=Tryz.f94) (c:=cr.body) (an:=cr.an) Tryz.func94 ?_ ?_ ?_ (aF ?_ ?_) (by simp [Tryz.f94]) (e ▸ h) <;> kernel_rfl
def cS.S (a0:ag) (G:ah) (Q:ag -> ah -> Prop):Prop :=
 br G (.own (a0)) fun i1 G2=>wv (lq T G2 ak (.ptr i1 [4] 4)) fun v3=>wv (gF T G2 ak v3) fun v4=>wv (aw T .geq au v4 (.int .i64 2048)) fun v5=>brB (some v5)
 (Q (.bool true) G2)
 (wv (lq T G2 ak (.ptr i1 [4] 4)) fun v6=>wv (gF T G2 ak v6) fun v7=>wv (lq T G2 au (.ptr i1 [11,0] 13)) fun v8=>wv (aw T .sub au v7 v8) fun v9=>wv (aw T .geq au v9 (.int .i64 512)) fun v10=>Q v10 G2)
def cS.an:Ann:=.nil
theorem cS.sound {a0:ag} {G:ah} {Q:ag -> ah -> Prop} (h:cS.S a0 G Q):al P cS.n [a0] G Q:=by
 have e:cS.S a0 G Q = awp cx (cS.body) cS.an (bK T [.tmp 2] Q) (dN [a0]) G:=by kernel_rfl
 refine ay dO (f:=cS.n) (fn:=Tryz.f149) (c:=cS.body) (an:=cS.an) Tryz.func149 ?_ ?_ ?_ (aF ?_ ?_) (by simp [Tryz.f149]) (e ▸ h) <;> kernel_rfl
def eM.S (a0:ag) (G:ah) (Q:ag -> ah -> Prop):Prop :=
 ∀ R1:List ag -> ah -> Prop,
 (∀ (x3 x4 x5:ag) (G2:ah),(wv (gF T G2 ak x3) fun v6=>wv (aw T .lss au x5 v6) fun v7=>brB (some v7)
 (wv (aL T ak x3 x5) fun v8=>wv (bx T aI v8 0) fun v9=>wv (lq T G2 au v9) fun v10=>wv (aw T .eql au v10 (.int .i64 1)) fun v11=>brB (some v11)
 (wv (aw T .add me x4 (.int .i64 1)) fun v12=>wv (aw T .add au x5 (.int .i64 1)) fun v18=>R1 [x3,v12,v18] G2)
 (wv (aw T .add au x5 (.int .i64 1)) fun v19=>R1 [x3,x4,v19] G2))
 (Q x4 G2)) -> R1 [x3,x4,x5] G2) ->
 R1 [a0,.int .i64 0,.int .i64 0] G
def eM.an:Ann:=.two (.nil) (.two (.nil) (.two (.two (.nil) (.loop [0,3,4] [false,false,false] (.nil))) (.nil)))
theorem eM.sound {a0:ag} {G:ah} {Q:ag -> ah -> Prop} (h:eM.S a0 G Q):al P eM.n [a0] G Q:=by
 have e:eM.S a0 G Q = awp cx (eM.body) eM.an (bK T [.tmp 2] Q) (dN [a0]) G:=by kernel_rfl
 refine ay dO (f:=eM.n) (fn:=Tryz.f151) (c:=eM.body) (an:=eM.an) Tryz.func151 ?_ ?_ ?_ (aF ?_ ?_) (by simp [Tryz.f151]) (e ▸ h) <;> kernel_rfl
def dS.S (a0 a1 a2:ag) (G:ah) (Q:ag -> ah -> Prop):Prop :=
 br G (.own (a0)) fun i1 G2=>br G2 (.own (a2)) fun i3 G4=>br G4 (.own (iY)) fun i5 G6=>wv (lq T G6 aJ (.ptr i1 [] 0)) fun v7=>al P bP.n [v7] G6 fun v8 G9=>brB (some v8)
 (wv (bk T aD []) fun v10=>wg (ax T G9 aD (.ptr i5 [] 0) v10) fun G11=>wv (lq T G11 aD (.ptr i5 [] 0)) fun v12=>Q (.tuple [v12,.int .i64 220]) G11)
 (let J47:ag -> ah -> Prop:=(fun x16 G15=>brB (some x16)
 (wv (bk T aD []) fun v17=>wg (ax T G15 aD (.ptr i5 [] 0) v17) fun G18=>wv (lq T G18 aD (.ptr i5 [] 0)) fun v19=>Q (.tuple [v19,.int .i64 80]) G18)
 (wv (lq T G15 aJ (.ptr i1 [] 0)) fun v20=>al P cS.n [v20] G15 fun v21 G22=>brB (some v21)
 (wv (bk T aD []) fun v23=>wg (ax T G22 aD (.ptr i5 [] 0) v23) fun G24=>wv (lq T G24 aD (.ptr i5 [] 0)) fun v25=>Q (.tuple [v25,.int .i64 6]) G24)
 (wv (lq T G22 ak (.ptr i1 [4] 4)) fun v26=>wv (lq T G22 ak (.ptr i1 [5] 5)) fun v27=>wv (lq T G22 aJ (.ptr i1 [] 0)) fun v28=>al P bV.n [v28] G22 fun v29 G30=>(lq T G30 ak (.ptr i1 [5] 5) = some v27 /\ lq T G30 ak (.ptr i1 [4] 4) = some v26 /\ True) /\ (wv (ye T bG v29 1) fun v31=>al P bB.n [v27,v31] G30 fun v32 G33=>(lq T G33 ak (.ptr i1 [4] 4) = some v26 /\ True) /\ (al P dE.n [v26,v32] G33 fun v34 G35=>wv (aw T .geq au v34 (.int .i64 483)) fun v36=>brB (some v36)
 (wv (bk T aD []) fun v37=>wg (ax T G35 aD (.ptr i5 [] 0) v37) fun G38=>wv (lq T G38 aD (.ptr i5 [] 0)) fun v39=>Q (.tuple [v39,.int .i64 131]) G38)
 (wv (lq T G35 aJ (.ptr i1 [] 0)) fun v40=>al P cr.n [v40] G35 fun v41 G42=>wv (aw T .gtr me a1 v41) fun v43=>brB (some v43)
 (wv (bk T aD []) fun v44=>wg (ax T G42 aD (.ptr i5 [] 0) v44) fun G45=>wv (lq T G45 aD (.ptr i5 [] 0)) fun v46=>Q (.tuple [v46,.int .i64 130]) G45)
 (wv (lq T G42 ak (.ptr i1 [4] 4)) fun v48=>wv (lq T G42 aj (.ptr i3 [] 0)) fun v49=>al P eM.n [v48] G42 fun v50 G51=>(lq T G51 aj (.ptr i3 [] 0) = some v49 /\ True) /\ (wv (bk T aI [(0,.int .i64 1),(1,v50),(2,a1),(3,v49)]) fun v52=>wv (bk T aD [(0,.int .i64 1),(1,v52)]) fun v53=>wg (ax T G51 aD (.ptr i5 [] 0) v53) fun G54=>wv (lq T G54 aD (.ptr i5 [] 0)) fun v55=>Q (.tuple [v55,.int .i64 0]) G54))))))));
 wv (aw T .lss me a1 (.int .i64 1)) fun v13=>brB (some v13)
 (J47 (.bool true) G9)
 (wv (aw T .gtr me a1 (.int .i64 1152921504606846976)) fun v14=>J47 v14 G9))
def dS.an:Ann:=.two (.nil) (.two (.two (.nil) (.two (.nil) (.two (.nil) (.two (.nil) (.two (.nil) (.two (.nil) (.two (.ord [(0,[]),(1,[]),(2,[]),(3,[]),(4,[]),(5,[1,3]),(6,[]),(7,[1]),(8,[]),(9,[]),(10,[])]) (.nil)))))))) (.two (.ord [(0,[]),(1,[]),(3,[]),(4,[]),(2,[4]),(5,[]),(6,[]),(7,[]),(8,[])]) (.nil)))
theorem dS.sound {a0 a1 a2:ag} {G:ah} {Q:ag -> ah -> Prop} (h:dS.S a0 a1 a2 G Q):al P dS.n [a0,a1,a2] G Q:=by
 have e:dS.S a0 a1 a2 G Q = awp cx (dS.body) dS.an (bK T [.cell 6 78,.tmp 7] Q) (dN [a0,a1,a2]) G:=by kernel_rfl
 refine ay dO (f:=dS.n) (fn:=Tryz.f87) (c:=dS.body) (an:=dS.an) Tryz.func87 ?_ ?_ ?_ (aF ?_ ?_) (by simp [Tryz.f87]) (e ▸ h) <;> kernel_rfl
def b7.S (a0 a1:ag) (G:ah) (Q:ag -> ah -> Prop):Prop :=
 br G (.own (a0)) fun i1 G2=>br G2 (.own (gy)) fun i3 G4=>wv (lq T G4 ak (.ptr i1 [5] 5)) fun v5=>wv (lq T G4 aJ (.ptr i1 [] 0)) fun v6=>al P bV.n [v6] G4 fun v7 G8=>(lq T G8 ak (.ptr i1 [5] 5) = some v5 /\ True) /\ (wv (ye T bG v7 1) fun v9=>al P bB.n [v5,v9] G8 fun v10 G11=>al P dF.n [v10,a1] G11 fun v12 G13=>wv (aW v12 0) fun v14=>wv (aW v12 1) fun v15=>br G13 (.own (gy)) fun i16 G17=>wg (ax T G17 aI (.ptr i16 [] 0) v14) fun G18=>wv (lq T G18 aI (.ptr i16 [] 0)) fun v19=>brB (some v15)
 (wv (lq T G18 ak (.ptr i1 [4] 4)) fun v20=>al P bQ.n [v20,a1,.int .i64 0] G18 fun v21 G22=>(lq T G22 aI (.ptr i16 [] 0) = some v19 /\ True) /\ (wv (vun .not v21) fun v23=>wg (ax T G22 aI (.ptr i3 [] 0) v19) fun G24=>wv (lq T G24 aI (.ptr i3 [] 0)) fun v29=>Q (.tuple [v29,v23]) G24))
 (wg (ax T G18 aI (.ptr i3 [] 0) v19) fun G25=>wv (lq T G25 aI (.ptr i3 [] 0)) fun v30=>Q (.tuple [v30,.bool false]) G25))
def b7.an:Ann:=.two (.nil) (.two (.ord [(0,[]),(1,[]),(2,[]),(6,[]),(3,[1]),(4,[]),(5,[]),(7,[]),(8,[]),(9,[]),(10,[]),(11,[]),(12,[]),(13,[])]) (.two (.ord [(0,[]),(1,[]),(2,[]),(3,[]),(4,[]),(5,[]),(6,[0]),(7,[]),(8,[]),(9,[]),(10,[])]) (.nil)))
theorem b7.sound {a0 a1:ag} {G:ah} {Q:ag -> ah -> Prop} (h:b7.S a0 a1 G Q):al P b7.n [a0,a1] G Q:=by
 have e:b7.S a0 a1 G Q = awp cx (b7.body) b7.an (bK T [.cell 4 76,.tmp 5] Q) (dN [a0,a1]) G:=by kernel_rfl
 refine ay dO (f:=b7.n) (fn:=Tryz.f152) (c:=b7.body) (an:=b7.an) Tryz.func152 ?_ ?_ ?_ (aF ?_ ?_) (by simp [Tryz.f152]) (e ▸ h) <;> kernel_rfl
def dp.S (a0 a1 a2:ag) (G:ah) (Q:ag -> ah -> Prop):Prop :=
 br G (.own (a0)) fun i1 G2=>br G2 (.own (a2)) fun i3 G4=>br G4 (.own (iY)) fun i5 G6=>wv (lq T G6 aJ (.ptr i1 [] 0)) fun v7=>al P bP.n [v7] G6 fun v8 G9=>brB (some v8)
 (wv (bk T aD []) fun v10=>wg (ax T G9 aD (.ptr i5 [] 0) v10) fun G11=>wv (lq T G11 aD (.ptr i5 [] 0)) fun v12=>Q (.tuple [v12,.int .i64 220]) G11)
 (wv (lq T G9 aJ (.ptr i1 [] 0)) fun v13=>al P b7.n [v13,a1] G9 fun v14 G15=>wv (aW v14 0) fun v16=>wv (aW v14 1) fun v17=>br G15 (.own (gy)) fun i18 G19=>wg (ax T G19 aI (.ptr i18 [] 0) v16) fun G20=>let J44:ag -> ah -> Prop:=(fun x29 G28=>brB (some x29)
 (wv (bk T aD []) fun v30=>wg (ax T G28 aD (.ptr i5 [] 0) v30) fun G31=>wv (lq T G31 aD (.ptr i5 [] 0)) fun v32=>Q (.tuple [v32,.int .i64 120]) G31)
 (wv (lq T G28 aJ (.ptr i1 [] 0)) fun v33=>al P cS.n [v33] G28 fun v34 G35=>brB (some v34)
 (wv (bk T aD []) fun v36=>wg (ax T G35 aD (.ptr i5 [] 0) v36) fun G37=>wv (lq T G37 aD (.ptr i5 [] 0)) fun v38=>Q (.tuple [v38,.int .i64 6]) G37)
 (wv (lq T G35 aj (.ptr i3 [] 0)) fun v39=>wv (bk T aI [(0,.int .i64 2),(1,a1),(3,v39)]) fun v40=>wv (bk T aD [(0,.int .i64 1),(1,v40)]) fun v41=>wg (ax T G35 aD (.ptr i5 [] 0) v41) fun G42=>wv (lq T G42 aD (.ptr i5 [] 0)) fun v43=>Q (.tuple [v43,.int .i64 0]) G42)));
 wv (vun .not v17) fun v21=>brB (some v21)
 (J44 (.bool true) G20)
 (wv (fj T aj (.ptr i3 [] 0) none none none) fun v22=>wv (gi T G20 aP bH v22) fun v23=>wv (lq T G20 aj (.ptr i18 [3] 3)) fun v24=>al P cK.n [v23] G20 fun v25 G26=>(lq T G26 aj (.ptr i18 [3] 3) = some v24 /\ True) /\ (wv (aw T .neq aj v25 v24) fun v27=>J44 v27 G26)))
def dp.an:Ann:=.two (.nil) (.two (.nil) (.two (.nil) (.two (.two (.ord [(0,[]),(1,[]),(2,[]),(3,[]),(4,[]),(6,[]),(7,[]),(5,[7]),(8,[]),(9,[])]) (.nil)) (.nil))))
theorem dp.sound {a0 a1 a2:ag} {G:ah} {Q:ag -> ah -> Prop} (h:dp.S a0 a1 a2 G Q):al P dp.n [a0,a1,a2] G Q:=by
 have e:dp.S a0 a1 a2 G Q = awp cx (dp.body) dp.an (bK T [.cell 6 78,.tmp 7] Q) (dN [a0,a1,a2]) G:=by kernel_rfl
 refine ay dO (f:=dp.n) (fn:=Tryz.f88) (c:=dp.body) (an:=dp.an) Tryz.func88 ?_ ?_ ?_ (aF ?_ ?_) (by simp [Tryz.f88]) (e ▸ h) <;> kernel_rfl
def dr.S (a0 a1 a2:ag) (G:ah) (Q:ag -> ah -> Prop):Prop :=
 br G (.own (a0)) fun i1 G2=>br G2 (.own (iY)) fun i3 G4=>wv (lq T G4 aJ (.ptr i1 [] 0)) fun v5=>al P bP.n [v5] G4 fun v6 G7=>brB (some v6)
 (wv (bk T aD []) fun v8=>wg (ax T G7 aD (.ptr i3 [] 0) v8) fun G9=>wv (lq T G9 aD (.ptr i3 [] 0)) fun v10=>Q (.tuple [v10,.int .i64 220]) G9)
 (wv (lq T G7 aJ (.ptr i1 [] 0)) fun v11=>al P b7.n [v11,a1] G7 fun v12 G13=>wv (aW v12 0) fun v14=>wv (aW v12 1) fun v15=>br G13 (.own (gy)) fun i16 G17=>wg (ax T G17 aI (.ptr i16 [] 0) v14) fun G18=>let J37:ag -> ah -> Prop:=(fun x23 G22=>brB (some x23)
 (wv (bk T aD []) fun v24=>wg (ax T G22 aD (.ptr i3 [] 0) v24) fun G25=>wv (lq T G25 aD (.ptr i3 [] 0)) fun v26=>Q (.tuple [v26,.int .i64 120]) G25)
 (wv (lq T G22 aJ (.ptr i1 [] 0)) fun v27=>al P cS.n [v27] G22 fun v28 G29=>brB (some v28)
 (wv (bk T aD []) fun v30=>wg (ax T G29 aD (.ptr i3 [] 0) v30) fun G31=>wv (lq T G31 aD (.ptr i3 [] 0)) fun v32=>Q (.tuple [v32,.int .i64 6]) G31)
 (wv (bk T aI [(0,.int .i64 3),(1,a1),(4,a2)]) fun v33=>wv (bk T aD [(0,.int .i64 1),(1,v33)]) fun v34=>wg (ax T G29 aD (.ptr i3 [] 0) v34) fun G35=>wv (lq T G35 aD (.ptr i3 [] 0)) fun v36=>Q (.tuple [v36,.int .i64 0]) G35)));
 wv (vun .not v15) fun v19=>brB (some v19)
 (J37 (.bool true) G18)
 (wv (gF T G18 bH a2) fun v20=>wv (aw T .gtr au v20 (.int .i64 64)) fun v21=>J37 v21 G18))
def dr.an:Ann:=.nil
theorem dr.sound {a0 a1 a2:ag} {G:ah} {Q:ag -> ah -> Prop} (h:dr.S a0 a1 a2 G Q):al P dr.n [a0,a1,a2] G Q:=by
 have e:dr.S a0 a1 a2 G Q = awp cx (dr.body) dr.an (bK T [.cell 6 78,.tmp 7] Q) (dN [a0,a1,a2]) G:=by kernel_rfl
 refine ay dO (f:=dr.n) (fn:=Tryz.f89) (c:=dr.body) (an:=dr.an) Tryz.func89 ?_ ?_ ?_ (aF ?_ ?_) (by simp [Tryz.f89]) (e ▸ h) <;> kernel_rfl
def eN.S (a0 a1:ag) (G:ah) (Q:ag -> ah -> Prop):Prop :=
 br G (.own (a0)) fun i1 G2=>br G2 (.own (a1)) fun i3 G4=>br G4 (.own (iY)) fun i5 G6=>wv (lq T G6 ak (.ptr i3 [4] 4)) fun v7=>wv (gF T G6 ak v7) fun v8=>wv (lq T G6 au (.ptr i3 [9,1] 10)) fun v9=>wv (bk T bG [(0,v8),(1,v9)]) fun v10=>br G6 (.own (kG)) fun i11 G12=>wg (ax T G12 bG (.ptr i11 [] 0) v10) fun G13=>wv (lq T G13 aJ (.ptr i3 [] 0)) fun v14=>al P bP.n [v14] G13 fun v15 G16=>brB (some v15)
 (wv (bk T aD []) fun v17=>wg (ax T G16 aD (.ptr i5 [] 0) v17) fun G18=>wv (lq T G18 aD (.ptr i5 [] 0)) fun v19=>Q (.tuple [v19,.int .i64 220]) G18)
 (let J36:ag -> ah -> Prop:=(fun x27 G26=>brB (some x27)
 (wv (bk T aD []) fun v28=>wg (ax T G26 aD (.ptr i5 [] 0) v28) fun G29=>wv (lq T G29 aD (.ptr i5 [] 0)) fun v30=>Q (.tuple [v30,.int .i64 8]) G29)
 (wv (lq T G26 me (.ptr i3 [7] 7)) fun v31=>wv (aw T .gtr me v31 (.int .i64 281474976710653)) fun v32=>brB (some v32)
 (wv (bk T aD []) fun v33=>wg (ax T G26 aD (.ptr i5 [] 0) v33) fun G34=>wv (lq T G34 aD (.ptr i5 [] 0)) fun v35=>Q (.tuple [v35,.int .i64 90]) G34)
 (wv (lq T G26 me (.ptr i3 [7] 7)) fun v37=>wv (aw T .add me v37 (.int .i64 1)) fun v38=>wv (lq T G26 bG (.ptr i11 [] 0)) fun v39=>wv (bk T aD [(0,.int .i64 2),(3,v38),(4,v39)]) fun v40=>wg (ax T G26 aD (.ptr i5 [] 0) v40) fun G41=>wv (lq T G41 aD (.ptr i5 [] 0)) fun v42=>Q (.tuple [v42,.int .i64 0]) G41)));
 wv (lq T G16 me (.ptr i3 [7] 7)) fun v20=>wv (lq T G16 me (.ptr i3 [8] 8)) fun v21=>wv (aw T .neq me v20 v21) fun v22=>brB (some v22)
 (J36 (.bool true) G16)
 (wv (lq T G16 bG (.ptr i11 [] 0)) fun v23=>wv (lq T G16 bG (.ptr i3 [10] 11)) fun v24=>wv (aw T .eql bG v23 v24) fun v25=>J36 v25 G16))
def eN.an:Ann:=.nil
theorem eN.sound {a0 a1:ag} {G:ah} {Q:ag -> ah -> Prop} (h:eN.S a0 a1 G Q):al P eN.n [a0,a1] G Q:=by
 have e:eN.S a0 a1 G Q = awp cx (eN.body) eN.an (bK T [.cell 4 78,.tmp 5] Q) (dN [a0,a1]) G:=by kernel_rfl
 refine ay dO (f:=eN.n) (fn:=Tryz.f90) (c:=eN.body) (an:=eN.an) Tryz.func90 ?_ ?_ ?_ (aF ?_ ?_) (by simp [Tryz.f90]) (e ▸ h) <;> kernel_rfl
def eW.S (a0 a1 a2:ag) (G:ah) (Q:ag -> ah -> Prop):Prop :=
 br G (.own (a0)) fun i1 G2=>br G2 (.own (a1)) fun i3 G4=>br G4 (.own (a2)) fun i5 G6=>br G6 (.own (iY)) fun i7 G8=>wv (lq T G8 au (.ptr i5 [0] 0)) fun v9=>wv (aw T .eql au v9 (.int .i64 1)) fun v10=>brB (some v10)
 (wv (lq T G8 aJ (.ptr i3 [] 0)) fun v11=>wv (lq T G8 me (.ptr i5 [2] 2)) fun v12=>wv (lq T G8 aj (.ptr i5 [4] 4)) fun v13=>al P dS.n [v11,v12,v13] G8 fun v14 G15=>wv (aW v14 0) fun v16=>wv (aW v14 1) fun v17=>wg (ax T G15 aD (.ptr i7 [] 0) v16) fun G18=>wv (lq T G18 aD (.ptr i7 [] 0)) fun v19=>Q (.tuple [v19,v17]) G18)
 (wv (aw T .eql au v9 (.int .i64 2)) fun v20=>brB (some v20)
 (wv (lq T G8 aJ (.ptr i3 [] 0)) fun v21=>wv (lq T G8 me (.ptr i5 [3] 3)) fun v22=>wv (lq T G8 aj (.ptr i5 [4] 4)) fun v23=>al P dp.n [v21,v22,v23] G8 fun v24 G25=>wv (aW v24 0) fun v26=>wv (aW v24 1) fun v27=>wg (ax T G25 aD (.ptr i7 [] 0) v26) fun G28=>wv (lq T G28 aD (.ptr i7 [] 0)) fun v29=>Q (.tuple [v29,v27]) G28)
 (wv (aw T .eql au v9 (.int .i64 3)) fun v30=>brB (some v30)
 (wv (lq T G8 aJ (.ptr i3 [] 0)) fun v31=>wv (lq T G8 me (.ptr i5 [3] 3)) fun v32=>wv (lq T G8 bH (.ptr i5 [5] 36)) fun v33=>al P dr.n [v31,v32,v33] G8 fun v34 G35=>wv (aW v34 0) fun v36=>wv (aW v34 1) fun v37=>wg (ax T G35 aD (.ptr i7 [] 0) v36) fun G38=>wv (lq T G38 aD (.ptr i7 [] 0)) fun v39=>Q (.tuple [v39,v37]) G38)
 (wv (aw T .eql au v9 (.int .i64 4)) fun v40=>brB (some v40)
 (wv (lq T G8 cl (.ptr i1 [] 0)) fun v41=>wv (lq T G8 aJ (.ptr i3 [] 0)) fun v42=>al P eN.n [v41,v42] G8 fun v43 G44=>wv (aW v43 0) fun v45=>wv (aW v43 1) fun v46=>wg (ax T G44 aD (.ptr i7 [] 0) v45) fun G47=>wv (lq T G47 aD (.ptr i7 [] 0)) fun v48=>Q (.tuple [v48,v46]) G47)
 (wv (bk T aD []) fun v49=>wg (ax T G8 aD (.ptr i7 [] 0) v49) fun G50=>wv (lq T G50 aD (.ptr i7 [] 0)) fun v51=>Q (.tuple [v51,.int .i64 1]) G50))))
def eW.an:Ann:=.nil
theorem eW.sound {a0 a1 a2:ag} {G:ah} {Q:ag -> ah -> Prop} (h:eW.S a0 a1 a2 G Q):al P eW.n [a0,a1,a2] G Q:=by
 have e:eW.S a0 a1 a2 G Q = awp cx (eW.body) eW.an (bK T [.cell 6 78,.tmp 7] Q) (dN [a0,a1,a2]) G:=by kernel_rfl
 refine ay dO (f:=eW.n) (fn:=Tryz.f48) (c:=eW.body) (an:=eW.an) Tryz.func48 ?_ ?_ ?_ (aF ?_ ?_) (by simp [Tryz.f48]) (e ▸ h) <;> kernel_rfl
def eU.S (a0 a1:ag) (G:ah) (Q:ag -> ah -> Prop):Prop :=
 br G (.own (a1)) fun i1 G2=>wv (lq T G2 ey (.ptr i1 [1] 1)) fun v3=>let J41:ag -> ah -> Prop:=(fun x5 G4=>wv (lq T G4 au (.ptr i1 [0] 0)) fun v6=>wv (aw T .eql au v6 (.int .i64 5)) fun v7=>brB (some v7)
 (wv (bk T gJ []) fun v8=>al P b9.n [a0,x5,v8] G4 fun v9 G10=>wv (aW v9 0) fun v11=>wv (aW v9 1) fun v12=>br G10 (.own (gE)) fun i13 G14=>wg (ax T G14 aG (.ptr i13 [] 0) v11) fun G15=>brB (some v12)
 (wv (lq T G15 aG (.ptr i13 [] 0)) fun v16=>al P ee.n [a0,x5,v16] G15 fun v17 G18=>Q (.tuple []) G18)
 (Q (.tuple []) G15))
 (wv (kH a0) fun v20=>wv (bx T bw v20 0) fun v21=>wv (aL T fD v21 x5) fun v22=>wv (lq T G4 cl v22) fun v23=>wv (kH a0) fun v24=>wv (bx T bw v24 1) fun v25=>wv (aL T gY v25 x5) fun v26=>wv (lq T G4 aJ v26) fun v27=>wv (lq T G4 gJ (.ptr i1 [] 0)) fun v28=>al P eW.n [v23,v27,v28] G4 fun v29 G30=>wv (aW v29 0) fun v31=>wv (aW v29 1) fun v32=>br G30 (.own (iY)) fun i33 G34=>wg (ax T G34 aD (.ptr i33 [] 0) v31) fun G35=>wv (aw T .eql bq v32 (.int .i64 0)) fun v36=>brB (some v36)
 (wv (lq T G35 aD (.ptr i33 [] 0)) fun v37=>al P bO.n [a0,x5,v37] G35 fun v38 G39=>Q (.tuple []) G39)
 (Q (.tuple []) G35)));
 brB (some v3)
 (J41 (.int .i64 1) G2)
 (J41 (.int .i64 0) G2)
def eU.an:Ann:=.two (.nil) (.two (.nil) (.two (.nil) (.two (.nil) (.two (.ord [(0,[]),(1,[]),(2,[]),(3,[]),(4,[]),(5,[]),(6,[]),(7,[]),(8,[]),(9,[]),(10,[]),(11,[]),(12,[]),(13,[]),(14,[]),(15,[]),(16,[]),(17,[]),(18,[]),(19,[])]) (.nil)))))
theorem eU.sound {a0 a1:ag} {G:ah} {Q:ag -> ah -> Prop} (h:eU.S a0 a1 G Q):al P eU.n [a0,a1] G Q:=by
 have e:eU.S a0 a1 G Q = awp cx (eU.body) eU.an (bK T [] Q) (dN [a0,a1]) G:=by kernel_rfl
 refine ay dO (f:=eU.n) (fn:=Tryz.f18) (c:=eU.body) (an:=eU.an) Tryz.func18 ?_ ?_ ?_ (aF ?_ ?_) (by simp [Tryz.f18]) (e ▸ h) <;> kernel_rfl
def xo.S (a0 a1 a2:ag) (G:ah) (Q:ag -> ah -> Prop):Prop :=
 br G (.own (a0)) fun i1 G2=>al P ed.n [] G2 fun v3 G4=>wv (vun .not v3) fun v5=>brB (some v5)
 (Q (.bool false) G4)
 (wv (lq T G4 dj (.ptr i1 [] 0)) fun v6=>al P ef.n [v6] G4 fun v7 G8=>wv (aW v7 0) fun v9=>wv (aW v7 1) fun v10=>wv (vun .not v10) fun v11=>brB (some v11)
 (Q (.bool true) G8)
 (∀ R12:List ag -> ah -> Prop,
 (∀ (x14 x15 x16 x17:ag) (G13:ah),(wv (gF T G13 iq x14) fun v18=>wv (aw T .leq au x17 v18) fun v19=>brB (some v19)
 (∀ R20:List ag -> ah -> Prop,
 (∀ (x22 x23 x24 x25 x26:ag) (G21:ah),(wv (aw T .lss au x26 (.int .i64 2)) fun v27=>brB (some v27)
 (wv (kH x24) fun v28=>wv (bx T bw v28 1) fun v29=>wv (aL T gY v29 x26) fun v30=>wv (lq T G21 aJ v30) fun v31=>al P dM.n [v31] G21 fun v32 G33=>br G33 (.own (iT)) fun i34 G35=>wg (ax T G35 aJ (.ptr i34 [] 0) v32) fun G36=>wv (kH x24) fun v37=>wv (bx T bw v37 0) fun v38=>wv (aL T fD v38 x26) fun v39=>wv (lq T G36 cl v39) fun v40=>wv (lq T G36 aJ (.ptr i34 [] 0)) fun v41=>al P gz.n [v40,v41] G36 fun v42 G43=>br G43 (.own (gE)) fun i44 G45=>wg (ax T G45 aG (.ptr i44 [] 0) v42) fun G46=>let J110:ag -> ah -> Prop:=(fun x82 G81=>brB (some x82)
 (Q (.bool false) G81)
 (wv (gF T G81 L8 x23) fun v83=>wv (aw T .lss au x25 v83) fun v84=>brB (some v84)
 (wv (aw T .sub au (.int .i64 1) x26) fun v85=>wv (kH x24) fun v86=>wv (bx T bw v86 0) fun v87=>wv (aL T fD v87 v85) fun v88=>wv (lq T G81 cl v88) fun v89=>wv (aw T .sub au (.int .i64 1) x26) fun v90=>wv (kH x24) fun v91=>wv (bx T bw v91 1) fun v92=>wv (aL T gY v92 v90) fun v93=>wv (lq T G81 aJ v93) fun v94=>wv (lq T G81 aG (.ptr i44 [] 0)) fun v95=>wv (aL T L8 x23 x25) fun v96=>wv (lq T G81 L9 v96) fun v97=>wv (aw T .sub au (.int .i64 1) x26) fun v98=>wv (kH x24) fun v99=>wv (bx T bw v99 0) fun v100=>wv (aL T fD v100 v98) fun v101=>wv (lq T G81 cl v101) fun v102=>al P LX.n [v95,v97,v102] G81 fun v103 G104=>(lq T G104 aJ v93 = some v94 /\ lq T G104 cl v88 = some v89 /\ True) /\ (al P xp.n [v89,v94,v103] G104 fun v105 G106=>wv (vun .not v105) fun v107=>brB (some v107)
 (Q (.bool false) G106)
 (wv (aw T .add au x26 (.int .i64 1)) fun v113=>R20 [x22,x23,x24,x25,v113] G106)))
 (wv (aw T .add au x26 (.int .i64 1)) fun v114=>R20 [x22,x23,x24,x25,v114] G81)));
 wv (lq T G46 aG (.ptr i44 [] 0)) fun v47=>wv (kH x24) fun v48=>wv (bx T bw v48 0) fun v49=>wv (aL T fD v49 x26) fun v50=>wv (lq T G46 cl v50) fun v51=>wv (kH x24) fun v52=>wv (bx T bw v52 1) fun v53=>wv (aL T gY v53 x26) fun v54=>wv (lq T G46 aJ v54) fun v55=>al P LV.n [v51,v55] G46 fun v56 G57=>(lq T G57 aG (.ptr i44 [] 0) = some v47 /\ True) /\ (wv (aw T .neq aG v47 v56) fun v58=>brB (some v58)
 (J110 (.bool true) G57)
 (wv (lq T G57 aJ (.ptr i34 [] 0)) fun v59=>wv (kH x24) fun v60=>wv (bx T bw v60 1) fun v61=>wv (aL T gY v61 x26) fun v62=>wv (lq T G57 aJ v62) fun v63=>al P xe.n [v59,v63] G57 fun v64 G65=>wv (vun .not v64) fun v66=>brB (some v66)
 (J110 (.bool true) G65)
 (wv (aw T .sub au (.int .i64 1) x26) fun v67=>wv (kH x24) fun v68=>wv (bx T bw v68 0) fun v69=>wv (aL T fD v69 v67) fun v70=>wv (lq T G65 cl v70) fun v71=>wv (aw T .sub au (.int .i64 1) x26) fun v72=>wv (kH x24) fun v73=>wv (bx T bw v73 1) fun v74=>wv (aL T gY v74 v72) fun v75=>wv (lq T G65 aJ v75) fun v76=>wv (lq T G65 aG (.ptr i44 [] 0)) fun v77=>al P xp.n [v71,v76,v77] G65 fun v78 G79=>wv (vun .not v78) fun v80=>J110 v80 G79))))
 (wv (gF T G21 iq x22) fun v115=>wv (aw T .lss au x25 v115) fun v116=>brB (some v116)
 (wv (aL T iq x22 x25) fun v117=>wv (lq T G21 gJ v117) fun v118=>al P eU.n [x24,v118] G21 fun v119 G120=>wv (aw T .add au x25 (.int .i64 1)) fun v128=>R12 [x22,x23,x24,v128] G120)
 (wv (aw T .add au x25 (.int .i64 1)) fun v129=>R12 [x22,x23,x24,v129] G21))) -> R20 [x22,x23,x24,x25,x26] G21) ->
 R20 [x14,x15,x16,x17,.int .i64 0] G13)
 (Q (.bool true) G13)) -> R12 [x14,x15,x16,x17] G13) ->
 R12 [a1,a2,v9,.int .i64 0] G8))
def xo.an:Ann:=.two (.nil) (.two (.nil) (.two (.nil) (.two (.nil) (.two (.two (.nil) (.loop [1,2,7,9] [false,false,false,false] (.two (.nil) (.two (.two (.two (.nil) (.loop [1,2,7,9,10] [false,false,false,false,false] (.two (.nil) (.two (.two (.nil) (.two (.ord [(0,[]),(1,[]),(2,[]),(3,[]),(4,[]),(5,[]),(6,[]),(7,[]),(8,[]),(9,[])]) (.two (.two (.ord [(0,[]),(1,[]),(2,[]),(3,[]),(4,[]),(5,[]),(6,[]),(7,[]),(8,[]),(9,[]),(10,[]),(11,[]),(12,[]),(13,[0]),(14,[]),(15,[]),(16,[]),(17,[]),(18,[]),(19,[]),(20,[]),(21,[]),(22,[]),(23,[]),(24,[]),(25,[]),(26,[]),(27,[]),(28,[]),(29,[]),(30,[]),(31,[]),(32,[]),(33,[]),(34,[]),(35,[]),(36,[]),(37,[]),(38,[]),(39,[]),(40,[]),(41,[]),(42,[]),(43,[]),(44,[])]) (.nil)) (.two (.ord [(0,[]),(1,[]),(2,[]),(3,[]),(4,[]),(5,[]),(6,[]),(7,[]),(8,[]),(9,[]),(10,[]),(11,[]),(12,[]),(13,[]),(14,[]),(15,[]),(16,[]),(17,[]),(18,[]),(19,[]),(20,[]),(21,[]),(22,[]),(23,[]),(24,[]),(25,[]),(26,[]),(27,[]),(28,[]),(29,[]),(30,[]),(31,[11,18]),(32,[]),(33,[]),(34,[])]) (.nil))))) (.nil))))) (.nil)) (.nil))))) (.nil)))))
theorem xo.sound {a0 a1 a2:ag} {G:ah} {Q:ag -> ah -> Prop} (h:xo.S a0 a1 a2 G Q):al P xo.n [a0,a1,a2] G Q:=by
 have e:xo.S a0 a1 a2 G Q = awp cx (xo.body) xo.an (bK T [.tmp 6] Q) (dN [a0,a1,a2]) G:=by kernel_rfl
 refine ay dO (f:=xo.n) (fn:=Tryz.f3) (c:=xo.body) (an:=xo.an) Tryz.func3 ?_ ?_ ?_ (aF ?_ ?_) (by simp [Tryz.f3]) (e ▸ h) <;> kernel_rfl
end Go.Esc.M
