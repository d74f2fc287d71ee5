import Derived.Test.YtkojimdacnohpaaGreatDoorT
set_option linter.unusedSimpArgs false
set_option linter.unusedVariables false
set_option maxRecDepth 100000
namespace Go.Esc.M
open Go Go.Esc Go.Proofs
def gD.S (a0 a1 a2 a3 a4:ag) (G:ah) (Q:ag -> ah -> Prop):Prop :=
 br G (.own (a3)) fun i1 G2=>br G2 (.own (a4)) fun i3 G4=>br G4 (.own (ka)) fun i5 G6=>br G6 (.own (ka)) fun i7 G8=>wv (gF T G8 ak a0) fun v9=>∀ R10:List ag -> ah -> Prop,
 (∀ (x12 x13 x14 x15 x16 x17 x18 x19 x20 x21:ag) (G11:ah),(wv (aw T .lss au x21 x20) fun v22=>brB (some v22)
 (let J62:ag -> ah -> Prop:=(fun x60 G59=>wv (aw T .add au x21 (.int .i64 1)) fun v61=>R10 [x12,x13,x14,x15,x16,x17,x60,x19,x20,v61] G59);
 wv (aL T ak x19 x21) fun v23=>wv (lq T G11 aI v23) fun v24=>br G11 (.own (gy)) fun i25 G26=>wg (ax T G26 aI (.ptr i25 [] 0) v24) fun G27=>let J58:ag -> ah -> Prop:=(fun x34 G33=>brB (some x34)
 (J62 x18 G33)
 (wv (lq T G33 ck x14) fun v35=>wv (lq T G33 me (.ptr i25 [2] 2)) fun v36=>al P dR.n [v35,v36] G33 fun v37 G38=>wg (ax T G38 ck x14 v37) fun G39=>wv (lq T G39 me (.ptr i25 [1] 1)) fun v40=>wv (ja T G39 ju x12 v40 false) fun v41=>wv (aw T .eql au v41 (.int .i64 2)) fun v42=>brB (some v42)
 (wv (lq T G39 ck x15) fun v43=>wv (lq T G39 me (.ptr i25 [2] 2)) fun v44=>al P cR.n [v43,v44] G39 fun v45 G46=>wg (ax T G46 ck x15 v45) fun G47=>J62 x18 G47)
 (wv (lq T G39 me (.ptr i25 [1] 1)) fun v48=>wv (lq T G39 me (.ptr i25 [2] 2)) fun v49=>wv (lq T G39 aj (.ptr i25 [3] 3)) fun v50=>wv (bk T aU [(0,x13),(1,v48),(2,v49),(3,v50)]) fun v51=>bh T aq 1 [(0,v51)] G39 fun v52 G53=>cc T G53 aq aq x18 v52 fun v54 G55=>J62 v54 G55)));
 wv (lq T G27 au (.ptr i25 [0] 0)) fun v28=>wv (aw T .neq au v28 (.int .i64 1)) fun v29=>brB (some v29)
 (J58 (.bool true) G27)
 (wv (lq T G27 me (.ptr i25 [1] 1)) fun v30=>wv (ja T G27 ju x12 v30 false) fun v31=>wv (aw T .eql au v31 (.int .i64 3)) fun v32=>J58 v32 G27))
 (al P aN.n [x18,.func (.func fP.n) [] []] G11 fun v63 G64=>wv (lq T G64 ck x14) fun v65=>wv (lq T G64 ck x15) fun v66=>wg (ax T G64 ck x16 v65) fun G67=>(lq T G67 ck x15 = some v66 /\ True) /\ (wg (ax T G67 ck x17 v66) fun G68=>wv (lq T G68 ck x16) fun v69=>wv (lq T G68 ck x17) fun v70=>Q (.tuple [v69,v70,x18]) G68))) -> R10 [x12,x13,x14,x15,x16,x17,x18,x19,x20,x21] G11) ->
 R10 [a1,a2,.ptr i1 [] 0,.ptr i3 [] 0,.ptr i5 [] 0,.ptr i7 [] 0,.nilSlice,a0,v9,.int .i64 0] G8
def gD.an:Ann:=.two (.nil) (.two (.nil) (.two (.two (.nil) (.loop [1,2,8,9,10,11,13,16,17,18] [false,false,false,false,false,false,false,false,false,false] (.nil))) (.two (.nil) (.two (.ord [(0,[]),(1,[]),(2,[]),(3,[1]),(4,[]),(5,[])]) (.nil)))))
theorem gD.sound {a0 a1 a2 a3 a4:ag} {G:ah} {Q:ag -> ah -> Prop} (h:gD.S a0 a1 a2 a3 a4 G Q):al P gD.n [a0,a1,a2,a3,a4] G Q:=by
 have e:gD.S a0 a1 a2 a3 a4 G Q = awp cx (gD.body) gD.an (bK T [.cell 10 178,.cell 11 178,.tmp 12] Q) (dN [a0,a1,a2,a3,a4]) G:=by kernel_rfl
 refine ay dO (f:=gD.n) (fn:=Tryz.f133) (c:=gD.body) (an:=gD.an) Tryz.func133 ?_ ?_ ?_ (aF ?_ ?_) (by simp [Tryz.f133]) (e ▸ h) <;> kernel_rfl
def eF.S (a0:ag) (G:ah) (Q:ag -> ah -> Prop):Prop :=
 br G (.map []) fun i1 G2=>wv (gF T G2 ak a0) fun v3=>∀ R4:List ag -> ah -> Prop,
 (∀ (x6 x7 x8 x9:ag) (G5:ah),(wv (aw T .lss au x9 x8) fun v10=>brB (some v10)
 (wv (aL T ak x7 x9) fun v11=>wv (lq T G5 aI v11) fun v12=>br G5 (.own (gy)) fun i13 G14=>wg (ax T G14 aI (.ptr i13 [] 0) v12) fun G15=>wv (lq T G15 me (.ptr i13 [1] 1)) fun v16=>wv (ja T G15 ju x6 v16 true) fun v17=>wv (aW v17 0) fun v18=>wv (aW v17 1) fun v19=>let J32:ag -> ah -> Prop:=(fun x27 G26=>brB (some x27)
 (wv (lq T G26 me (.ptr i13 [1] 1)) fun v28=>wv (lq T G26 au (.ptr i13 [0] 0)) fun v29=>gh T G26 ju x6 v28 v29 fun G30=>wv (aw T .add au x9 (.int .i64 1)) fun v35=>R4 [x6,x7,x8,v35] G30)
 (wv (aw T .add au x9 (.int .i64 1)) fun v36=>R4 [x6,x7,x8,v36] G26));
 wv (vun .not v19) fun v20=>brB (some v20)
 (wv (lq T G15 au (.ptr i13 [0] 0)) fun v21=>wv (aw T .neq au v21 (.int .i64 1)) fun v22=>brB (some v22)
 (wv (lq T G15 aI (.ptr i13 [] 0)) fun v23=>al P fX.n [v23] G15 fun v24 G25=>J32 v24 G25)
 (J32 (.bool false) G15))
 (J32 (.bool false) G15))
 (Q x6 G5)) -> R4 [x6,x7,x8,x9] G5) ->
 R4 [.map i1,a0,v3,.int .i64 0] G2
def eF.an:Ann:=.two (.nil) (.two (.nil) (.two (.two (.nil) (.loop [3,9,10,11] [false,false,false,false] (.nil))) (.nil)))
theorem eF.sound {a0:ag} {G:ah} {Q:ag -> ah -> Prop} (h:eF.S a0 G Q):al P eF.n [a0] G Q:=by
 have e:eF.S a0 G Q = awp cx (eF.body) eF.an (bK T [.tmp 2] Q) (dN [a0]) G:=by kernel_rfl
 refine ay dO (f:=eF.n) (fn:=Tryz.f134) (c:=eF.body) (an:=eF.an) Tryz.func134 ?_ ?_ ?_ (aF ?_ ?_) (by simp [Tryz.f134]) (e ▸ h) <;> kernel_rfl
def cZ.S (a0:ag) (G:ah) (Q:ag -> ah -> Prop):Prop :=
 br G (.own (a0)) fun i1 G2=>wv (lq T G2 me (.ptr i1 [0] 0)) fun v3=>wv (lq T G2 me (.ptr i1 [1] 1)) fun v4=>wv (aw T .shr me v4 (.int .u64 30)) fun v5=>wv (aw T .add me v3 v5) fun v6=>wv (aw T .lss me v6 (.int .i64 0)) fun v7=>brB (some v7)
 (Q (.int .i64 (-1)) G2)
 (wv (aw T .gtr me v6 (.int .i64 1073741824)) fun v8=>brB (some v8)
 (Q (.int .i64 1152921504606846977) G2)
 (wv (aw T .shl me v6 (.int .u64 30)) fun v9=>wv (lq T G2 me (.ptr i1 [1] 1)) fun v10=>wv (aw T .and me v10 (.int .i64 1073741823)) fun v11=>wv (aw T .or me v9 v11) fun v12=>Q v12 G2))
def cZ.an:Ann:=.nil
theorem cZ.sound {a0:ag} {G:ah} {Q:ag -> ah -> Prop} (h:cZ.S a0 G Q):al P cZ.n [a0] G Q:=by
 have e:cZ.S a0 G Q = awp cx (cZ.body) cZ.an (bK T [.tmp 2] Q) (dN [a0]) G:=by kernel_rfl
 refine ay dO (f:=cZ.n) (fn:=Tryz.f136) (c:=cZ.body) (an:=cZ.an) Tryz.func136 ?_ ?_ ?_ (aF ?_ ?_) (by simp [Tryz.f136]) (e ▸ h) <;> kernel_rfl
def gP.S (a0 a1 a2 a3 a4:ag) (G:ah) (Q:ag -> ah -> Prop):Prop :=
 br G (.own (a4)) fun i1 G2=>br G2 (.own (iZ)) fun i3 G4=>let J99:ag -> ah -> Prop:=(fun x16 G15=>brB (some x16)
 (wv (bk T bc []) fun v17=>wg (ax T G15 bc (.ptr i3 [] 0) v17) fun G18=>wv (lq T G18 bc (.ptr i3 [] 0)) fun v19=>Q (.tuple [v19,.int .i64 1]) G18)
 (bh T nW 2 [(0,a0),(1,a1)] G15 fun v20 G21=>al P iz.n [v20] G21 fun v22 G23=>wv (aW v22 0) fun v24=>wv (aW v22 1) fun v25=>wv (aw T .neq bq v25 (.int .i64 0)) fun v26=>brB (some v26)
 (wv (bk T bc []) fun v27=>wg (ax T G23 bc (.ptr i3 [] 0) v27) fun G28=>wv (lq T G28 bc (.ptr i3 [] 0)) fun v29=>Q (.tuple [v29,.int .i64 1]) G28)
 (wv (lq T G23 au (.ptr i1 [0] 0)) fun v30=>wv (fj T ak a2 none (some (v30)) none) fun v31=>wv (lq T G23 au (.ptr i1 [1] 1)) fun v32=>wv (fj T ak a3 none (some (v32)) none) fun v33=>let J98:ag -> ah -> Prop:=(fun x39 G38=>brB (some x39)
 (wv (bk T bc []) fun v40=>wg (ax T G38 bc (.ptr i3 [] 0) v40) fun G41=>wv (lq T G41 bc (.ptr i3 [] 0)) fun v42=>Q (.tuple [v42,.int .i64 120]) G41)
 (al P eF.n [v33] G38 fun v43 G44=>wv (bk T ck []) fun v45=>al P cR.n [v45,a0] G44 fun v46 G47=>wv (bk T ck []) fun v48=>al P cR.n [v48,a1] G47 fun v49 G50=>al P gD.n [v31,v43,.bool true,v46,v49] G50 fun v51 G52=>wv (aW v51 0) fun v53=>wv (aW v51 1) fun v54=>wv (aW v51 2) fun v55=>br G52 (.own (ka)) fun i56 G57=>br G57 (.own (ka)) fun i58 G59=>wg (ax T G59 ck (.ptr i56 [] 0) v53) fun G60=>wg (ax T G60 ck (.ptr i58 [] 0) v54) fun G61=>wv (lq T G61 ck (.ptr i58 [] 0)) fun v62=>wv (lq T G61 ck (.ptr i56 [] 0)) fun v63=>al P eF.n [v31] G61 fun v64 G65=>(lq T G65 ck (.ptr i56 [] 0) = some v63 /\ lq T G65 ck (.ptr i58 [] 0) = some v62 /\ True) /\ (al P gD.n [v33,v64,.bool false,v62,v63] G65 fun v66 G67=>wv (aW v66 0) fun v68=>wv (aW v66 1) fun v69=>wv (aW v66 2) fun v70=>wg (ax T G67 ck (.ptr i58 [] 0) v68) fun G71=>wg (ax T G71 ck (.ptr i56 [] 0) v69) fun G72=>wv (lq T G72 ck (.ptr i56 [] 0)) fun v73=>wv (lq T G72 ck (.ptr i58 [] 0)) fun v74=>al P cZ.n [v73] G72 fun v75 G76=>(lq T G76 ck (.ptr i58 [] 0) = some v74 /\ True) /\ (al P cZ.n [v74] G76 fun v77 G78=>cc T G78 aq aq v55 v70 fun v79 G80=>wv (bk T bc [(0,v75),(1,v77),(2,v79)]) fun v81=>br G80 (.own (iZ)) fun i82 G83=>wg (ax T G83 bc (.ptr i82 [] 0) v81) fun G84=>let J97:ag -> ah -> Prop:=(fun x90 G89=>brB (some x90)
 (wv (bk T bc []) fun v91=>wg (ax T G89 bc (.ptr i3 [] 0) v91) fun G92=>wv (lq T G92 bc (.ptr i3 [] 0)) fun v93=>Q (.tuple [v93,.int .i64 130]) G92)
 (wv (lq T G89 bc (.ptr i82 [] 0)) fun v94=>wg (ax T G89 bc (.ptr i3 [] 0) v94) fun G95=>wv (lq T G95 bc (.ptr i3 [] 0)) fun v96=>Q (.tuple [v96,.int .i64 0]) G95));
 wv (lq T G84 me (.ptr i82 [0] 0)) fun v85=>wv (aw T .lss me v85 (.int .i64 0)) fun v86=>brB (some v86)
 (J97 (.bool true) G84)
 (wv (lq T G84 me (.ptr i82 [1] 1)) fun v87=>wv (aw T .lss me v87 (.int .i64 0)) fun v88=>J97 v88 G84)))));
 al P aO.n [v31,.func (.func fq.n) [] []] G23 fun v34 G35=>brB (some v34)
 (J98 (.bool true) G35)
 (al P aO.n [v33,.func (.func fq.n) [] []] G35 fun v36 G37=>J98 v36 G37))));
 wv (lq T G4 au (.ptr i1 [0] 0)) fun v5=>wv (aw T .lss au v5 (.int .i64 0)) fun v6=>brB (some v6)
 (J99 (.bool true) G4)
 (wv (lq T G4 au (.ptr i1 [0] 0)) fun v7=>wv (gF T G4 ak a2) fun v8=>wv (aw T .gtr au v7 v8) fun v9=>brB (some v9)
 (J99 (.bool true) G4)
 (wv (lq T G4 au (.ptr i1 [1] 1)) fun v10=>wv (aw T .lss au v10 (.int .i64 0)) fun v11=>brB (some v11)
 (J99 (.bool true) G4)
 (wv (lq T G4 au (.ptr i1 [1] 1)) fun v12=>wv (gF T G4 ak a3) fun v13=>wv (aw T .gtr au v12 v13) fun v14=>J99 v14 G4)))
def gP.an:Ann:=.two (.nil) (.two (.nil) (.two (.nil) (.two (.ord [(0,[]),(1,[]),(2,[]),(3,[]),(4,[]),(5,[]),(6,[]),(7,[]),(8,[]),(9,[])]) (.two (.nil) (.two (.nil) (.two (.ord [(0,[]),(1,[]),(3,[]),(4,[]),(2,[3,4]),(5,[]),(6,[]),(7,[]),(8,[]),(9,[]),(10,[]),(11,[]),(12,[])]) (.two (.ord [(0,[]),(2,[]),(4,[]),(5,[]),(1,[2]),(3,[]),(6,[]),(7,[]),(8,[]),(9,[])]) (.nil))))))))
theorem gP.sound {a0 a1 a2 a3 a4:ag} {G:ah} {Q:ag -> ah -> Prop} (h:gP.S a0 a1 a2 a3 a4 G Q):al P gP.n [a0,a1,a2,a3,a4] G Q:=by
 have e:gP.S a0 a1 a2 a3 a4 G Q = awp cx (gP.body) gP.an (bK T [.cell 10 126,.tmp 11] Q) (dN [a0,a1,a2,a3,a4]) G:=by kernel_rfl
 refine ay dO (f:=gP.n) (fn:=Tryz.f73) (c:=gP.body) (an:=gP.an) Tryz.func73 ?_ ?_ ?_ (aF ?_ ?_) (by simp [Tryz.f73]) (e ▸ h) <;> kernel_rfl
def gC.S (a0:ag) (G:ah) (Q:ag -> ah -> Prop):Prop :=
 br G (.own (a0)) fun i1 G2=>let J62:ag -> ah -> Prop:=(fun x12 G11=>brB (some x12)
 (Q (.bool false) G11)
 (br G11 (.map []) fun i13 G14=>br G14 (.map []) fun i15 G16=>gh T G16 kj (.map i15) (.bool true) (.int .i64 (-1)) fun G17=>gh T G17 kj (.map i15) (.bool false) (.int .i64 (-1)) fun G18=>wv (lq T G18 aq (.ptr i1 [2] 2)) fun v19=>wv (gF T G18 aq v19) fun v20=>∀ R21:List ag -> ah -> Prop,
 (∀ (x23 x24 x25 x26 x27:ag) (G22:ah),(wv (aw T .lss au x27 x26) fun v28=>brB (some v28)
 (wv (aL T aq x25 x27) fun v29=>wv (lq T G22 aU v29) fun v30=>br G22 (.own (iX)) fun i31 G32=>wg (ax T G32 aU (.ptr i31 [] 0) v30) fun G33=>let J54:ag -> ah -> Prop:=(fun x46 G45=>brB (some x46)
 (Q (.bool false) G45)
 (wv (lq T G45 ey (.ptr i31 [0] 0)) fun v47=>wv (lq T G45 me (.ptr i31 [1] 1)) fun v48=>gh T G45 kj x24 v47 v48 fun G49=>wv (lq T G49 ey (.ptr i31 [0] 0)) fun v50=>wv (ja T G49 ko x23 v50 false) fun v51=>wv (aw T .add au v51 (.int .i64 1)) fun v52=>gh T G49 ko x23 v50 v52 fun G53=>wv (aw T .add au x27 (.int .i64 1)) fun v55=>R21 [x23,x24,x25,x26,v55] G53));
 wv (lq T G33 me (.ptr i31 [2] 2)) fun v34=>wv (aw T .lss me v34 (.int .i64 1)) fun v35=>brB (some v35)
 (J54 (.bool true) G33)
 (wv (lq T G33 me (.ptr i31 [2] 2)) fun v36=>wv (aw T .gtr me v36 (.int .i64 1152921504606846976)) fun v37=>brB (some v37)
 (J54 (.bool true) G33)
 (wv (lq T G33 me (.ptr i31 [1] 1)) fun v38=>wv (lq T G33 ey (.ptr i31 [0] 0)) fun v39=>wv (ja T G33 kj x24 v39 false) fun v40=>wv (aw T .leq me v38 v40) fun v41=>brB (some v41)
 (J54 (.bool true) G33)
 (wv (lq T G33 ey (.ptr i31 [0] 0)) fun v42=>brB (some v42)
 (wv (ja T G33 ko x23 (.bool false) false) fun v43=>wv (aw T .gtr au v43 (.int .i64 0)) fun v44=>J54 v44 G33)
 (J54 (.bool false) G33)))))
 (wv (ja T G22 ko x23 (.bool true) false) fun v56=>wv (aw T .leq au v56 (.int .i64 483)) fun v57=>brB (some v57)
 (wv (ja T G22 ko x23 (.bool false) false) fun v58=>wv (aw T .leq au v58 (.int .i64 483)) fun v59=>Q v59 G22)
 (Q (.bool false) G22))) -> R21 [x23,x24,x25,x26,x27] G22) ->
 R21 [.map i13,.map i15,v19,v20,.int .i64 0] G18));
 wv (lq T G2 me (.ptr i1 [0] 0)) fun v3=>wv (aw T .lss me v3 (.int .i64 0)) fun v4=>brB (some v4)
 (J62 (.bool true) G2)
 (wv (lq T G2 me (.ptr i1 [0] 0)) fun v5=>wv (aw T .gtr me v5 (.int .i64 1152921504606846976)) fun v6=>brB (some v6)
 (J62 (.bool true) G2)
 (wv (lq T G2 me (.ptr i1 [1] 1)) fun v7=>wv (aw T .lss me v7 (.int .i64 0)) fun v8=>brB (some v8)
 (J62 (.bool true) G2)
 (wv (lq T G2 me (.ptr i1 [1] 1)) fun v9=>wv (aw T .gtr me v9 (.int .i64 1152921504606846976)) fun v10=>J62 v10 G2)))
def gC.an:Ann:=.two (.nil) (.two (.nil) (.two (.nil) (.two (.nil) (.two (.two (.nil) (.loop [3,4,29,30,31] [false,false,false,false,false] (.nil))) (.nil)))))
theorem gC.sound {a0:ag} {G:ah} {Q:ag -> ah -> Prop} (h:gC.S a0 G Q):al P gC.n [a0] G Q:=by
 have e:gC.S a0 G Q = awp cx (gC.body) gC.an (bK T [.tmp 2] Q) (dN [a0]) G:=by kernel_rfl
 refine ay dO (f:=gC.n) (fn:=Tryz.f170) (c:=gC.body) (an:=gC.an) Tryz.func170 ?_ ?_ ?_ (aF ?_ ?_) (by simp [Tryz.f170]) (e ▸ h) <;> kernel_rfl
def iy.S (G:ah) (Q:ag -> ah -> Prop):Prop :=
 wv (bk T fF []) fun v1=>br G (.own (v1)) fun i2 G3=>Q (.ptr i2 [] 0) G3
def iy.an:Ann:=.nil
theorem iy.sound {G:ah} {Q:ag -> ah -> Prop} (h:iy.S G Q):al P iy.n [] G Q:=by
 have e:iy.S G Q = awp cx (iy.body) iy.an (bK T [.tmp 0] Q) (dN []) G:=by kernel_rfl
 refine ay dO (f:=iy.n) (fn:=Tryz.f171) (c:=iy.body) (an:=iy.an) Tryz.func171 ?_ ?_ ?_ (aF ?_ ?_) (by simp [Tryz.f171]) (e ▸ h) <;> kernel_rfl
def eZ.S (a0 a1 a2:ag) (G:ah) (Q:ag -> ah -> Prop):Prop :=
 wv (kH a0) fun v1=>wv (bx T fF v1 1) fun v2=>wv (lq T G bq v2) fun v3=>wv (aw T .neq bq v3 (.int .i64 0)) fun v4=>brB (some v4)
 (Q (.tuple []) G)
 (wv (aw T .sub au a2 (.int .i64 1)) fun v5=>∀ R6:List ag -> ah -> Prop,
 (∀ (x8 x9 x10:ag) (G7:ah),(wv (aw T .geq au x10 (.int .i64 0)) fun v11=>brB (some v11)
 (wv (kH x8) fun v12=>wv (bx T fF v12 0) fun v13=>wv (lq T G7 aP v13) fun v14=>wv (gi T G7 cg jd x9) fun v15=>wv (aw T .mul au (.int .i64 8) x10) fun v16=>wv (aw T .shr jd v15 v16) fun v17=>wv (gi T G7 jd cg v17) fun v18=>bh T aP 1 [(0,v18)] G7 fun v19 G20=>cc T G20 aP aP v14 v19 fun v21 G22=>wv (kH x8) fun v23=>wv (bx T fF v23 0) fun v24=>wg (ax T G22 aP v24 v21) fun G25=>wv (aw T .sub au x10 (.int .i64 1)) fun v26=>R6 [x8,x9,v26] G25)
 (Q (.tuple []) G7)) -> R6 [x8,x9,x10] G7) ->
 R6 [a0,a1,v5] G)
def eZ.an:Ann:=.two (.nil) (.two (.nil) (.loop [0,1,6] [false,false,false] (.two (.nil) (.two (.ord [(0,[]),(1,[]),(2,[]),(3,[]),(4,[]),(5,[]),(6,[]),(7,[]),(8,[]),(9,[]),(10,[]),(11,[]),(12,[]),(13,[]),(14,[]),(15,[])]) (.nil)))))
theorem eZ.sound {a0 a1 a2:ag} {G:ah} {Q:ag -> ah -> Prop} (h:eZ.S a0 a1 a2 G Q):al P eZ.n [a0,a1,a2] G Q:=by
 have e:eZ.S a0 a1 a2 G Q = awp cx (eZ.body) eZ.an (bK T [] Q) (dN [a0,a1,a2]) G:=by kernel_rfl
 refine ay dO (f:=eZ.n) (fn:=Tryz.f207) (c:=eZ.body) (an:=eZ.an) Tryz.func207 ?_ ?_ ?_ (aF ?_ ?_) (by simp [Tryz.f207]) (e ▸ h) <;> kernel_rfl
def dg.S (a0 a1:ag) (G:ah) (Q:ag -> ah -> Prop):Prop :=
 al P eZ.n [a0,a1,.int .i64 1] G fun v1 G2=>Q (.tuple []) G2
def dg.an:Ann:=.nil
theorem dg.sound {a0 a1:ag} {G:ah} {Q:ag -> ah -> Prop} (h:dg.S a0 a1 G Q):al P dg.n [a0,a1] G Q:=by
 have e:dg.S a0 a1 G Q = awp cx (dg.body) dg.an (bK T [] Q) (dN [a0,a1]) G:=by kernel_rfl
 refine ay dO (f:=dg.n) (fn:=Tryz.f172) (c:=dg.body) (an:=dg.an) Tryz.func172 ?_ ?_ ?_ (aF ?_ ?_) (by simp [Tryz.f172]) (e ▸ h) <;> kernel_rfl
def eg.S (a0 a1 a2:ag) (G:ah) (Q:ag -> ah -> Prop):Prop :=
 wv (kH a0) fun v1=>wv (bx T fF v1 1) fun v2=>wv (lq T G bq v2) fun v3=>wv (aw T .neq bq v3 (.int .i64 0)) fun v4=>brB (some v4)
 (Q (.tuple []) G)
 (wv (aw T .sub au a2 (.int .i64 1)) fun v5=>∀ R6:List ag -> ah -> Prop,
 (∀ (x8 x9 x10:ag) (G7:ah),(wv (aw T .geq au x10 (.int .i64 0)) fun v11=>brB (some v11)
 (wv (kH x8) fun v12=>wv (bx T fF v12 0) fun v13=>wv (lq T G7 aP v13) fun v14=>wv (aw T .mul au (.int .i64 8) x10) fun v15=>wv (aw T .shr jd x9 v15) fun v16=>wv (gi T G7 jd cg v16) fun v17=>bh T aP 1 [(0,v17)] G7 fun v18 G19=>cc T G19 aP aP v14 v18 fun v20 G21=>wv (kH x8) fun v22=>wv (bx T fF v22 0) fun v23=>wg (ax T G21 aP v23 v20) fun G24=>wv (aw T .sub au x10 (.int .i64 1)) fun v25=>R6 [x8,x9,v25] G24)
 (Q (.tuple []) G7)) -> R6 [x8,x9,x10] G7) ->
 R6 [a0,a1,v5] G)
def eg.an:Ann:=.two (.nil) (.two (.nil) (.loop [0,1,6] [false,false,false] (.two (.nil) (.two (.ord [(0,[]),(1,[]),(2,[]),(3,[]),(4,[]),(5,[]),(6,[]),(7,[]),(8,[]),(9,[]),(10,[]),(11,[]),(12,[]),(13,[]),(14,[])]) (.nil)))))
theorem eg.sound {a0 a1 a2:ag} {G:ah} {Q:ag -> ah -> Prop} (h:eg.S a0 a1 a2 G Q):al P eg.n [a0,a1,a2] G Q:=by
 have e:eg.S a0 a1 a2 G Q = awp cx (eg.body) eg.an (bK T [] Q) (dN [a0,a1,a2]) G:=by kernel_rfl
 refine ay dO (f:=eg.n) (fn:=Tryz.f208) (c:=eg.body) (an:=eg.an) Tryz.func208 ?_ ?_ ?_ (aF ?_ ?_) (by simp [Tryz.f208]) (e ▸ h) <;> kernel_rfl
def bZ.S (a0 a1:ag) (G:ah) (Q:ag -> ah -> Prop):Prop :=
 wv (gi T G me jd a1) fun v1=>al P eg.n [a0,v1,.int .i64 8] G fun v2 G3=>Q (.tuple []) G3
def bZ.an:Ann:=.nil
theorem bZ.sound {a0 a1:ag} {G:ah} {Q:ag -> ah -> Prop} (h:bZ.S a0 a1 G Q):al P bZ.n [a0,a1] G Q:=by
 have e:bZ.S a0 a1 G Q = awp cx (bZ.body) bZ.an (bK T [] Q) (dN [a0,a1]) G:=by kernel_rfl
 refine ay dO (f:=bZ.n) (fn:=Tryz.f173) (c:=bZ.body) (an:=bZ.an) Tryz.func173 ?_ ?_ ?_ (aF ?_ ?_) (by simp [Tryz.f173]) (e ▸ h) <;> kernel_rfl
def ek.S (a0 a1:ag) (G:ah) (Q:ag -> ah -> Prop):Prop :=
 wv (kH a0) fun v1=>wv (bx T fF v1 1) fun v2=>wv (lq T G bq v2) fun v3=>wv (aw T .eql bq v3 (.int .i64 0)) fun v4=>brB (some v4)
 (wv (kH a0) fun v5=>wv (bx T fF v5 0) fun v6=>wv (lq T G aP v6) fun v7=>cc T G aP bH v7 a1 fun v8 G9=>wv (kH a0) fun v10=>wv (bx T fF v10 0) fun v11=>wg (ax T G9 aP v11 v8) fun G12=>Q (.tuple []) G12)
 (Q (.tuple []) G)
def ek.an:Ann:=.nil
theorem ek.sound {a0 a1:ag} {G:ah} {Q:ag -> ah -> Prop} (h:ek.S a0 a1 G Q):al P ek.n [a0,a1] G Q:=by
 have e:ek.S a0 a1 G Q = awp cx (ek.body) ek.an (bK T [] Q) (dN [a0,a1]) G:=by kernel_rfl
 refine ay dO (f:=ek.n) (fn:=Tryz.f209) (c:=ek.body) (an:=ek.an) Tryz.func209 ?_ ?_ ?_ (aF ?_ ?_) (by simp [Tryz.f209]) (e ▸ h) <;> kernel_rfl
def cG.S (a0 a1:ag) (G:ah) (Q:ag -> ah -> Prop):Prop :=
 br G (.own (a1)) fun i1 G2=>wv (fj T aj (.ptr i1 [] 0) none none none) fun v3=>wv (gi T G2 aP bH v3) fun v4=>al P ek.n [a0,v4] G2 fun v5 G6=>Q (.tuple []) G6
def cG.an:Ann:=.nil
theorem cG.sound {a0 a1:ag} {G:ah} {Q:ag -> ah -> Prop} (h:cG.S a0 a1 G Q):al P cG.n [a0,a1] G Q:=by
 have e:cG.S a0 a1 G Q = awp cx (cG.body) cG.an (bK T [] Q) (dN [a0,a1]) G:=by kernel_rfl
 refine ay dO (f:=cG.n) (fn:=Tryz.f174) (c:=cG.body) (an:=cG.an) Tryz.func174 ?_ ?_ ?_ (aF ?_ ?_) (by simp [Tryz.f174]) (e ▸ h) <;> kernel_rfl
def eh.S (a0 a1 a2:ag) (G:ah) (Q:ag -> ah -> Prop):Prop :=
 wv (kH a0) fun v1=>wv (bx T fF v1 1) fun v2=>wv (lq T G bq v2) fun v3=>wv (aw T .neq bq v3 (.int .i64 0)) fun v4=>brB (some v4)
 (Q (.tuple []) G)
 (wv (aw T .sub au a2 (.int .i64 1)) fun v5=>∀ R6:List ag -> ah -> Prop,
 (∀ (x8 x9 x10:ag) (G7:ah),(wv (aw T .geq au x10 (.int .i64 0)) fun v11=>brB (some v11)
 (wv (kH x8) fun v12=>wv (bx T fF v12 0) fun v13=>wv (lq T G7 aP v13) fun v14=>wv (gi T G7 yq jd x9) fun v15=>wv (aw T .mul au (.int .i64 8) x10) fun v16=>wv (aw T .shr jd v15 v16) fun v17=>wv (gi T G7 jd cg v17) fun v18=>bh T aP 1 [(0,v18)] G7 fun v19 G20=>cc T G20 aP aP v14 v19 fun v21 G22=>wv (kH x8) fun v23=>wv (bx T fF v23 0) fun v24=>wg (ax T G22 aP v24 v21) fun G25=>wv (aw T .sub au x10 (.int .i64 1)) fun v26=>R6 [x8,x9,v26] G25)
 (Q (.tuple []) G7)) -> R6 [x8,x9,x10] G7) ->
 R6 [a0,a1,v5] G)
def eh.an:Ann:=.two (.nil) (.two (.nil) (.loop [0,1,6] [false,false,false] (.two (.nil) (.two (.ord [(0,[]),(1,[]),(2,[]),(3,[]),(4,[]),(5,[]),(6,[]),(7,[]),(8,[]),(9,[]),(10,[]),(11,[]),(12,[]),(13,[]),(14,[]),(15,[])]) (.nil)))))
theorem eh.sound {a0 a1 a2:ag} {G:ah} {Q:ag -> ah -> Prop} (h:eh.S a0 a1 a2 G Q):al P eh.n [a0,a1,a2] G Q:=by
 have e:eh.S a0 a1 a2 G Q = awp cx (eh.body) eh.an (bK T [] Q) (dN [a0,a1,a2]) G:=by kernel_rfl
 refine ay dO (f:=eh.n) (fn:=Tryz.f210) (c:=eh.body) (an:=eh.an) Tryz.func210 ?_ ?_ ?_ (aF ?_ ?_) (by simp [Tryz.f210]) (e ▸ h) <;> kernel_rfl
def eL.S (a0 a1:ag) (G:ah) (Q:ag -> ah -> Prop):Prop :=
 al P eh.n [a0,a1,.int .i64 2] G fun v1 G2=>Q (.tuple []) G2
def eL.an:Ann:=.nil
theorem eL.sound {a0 a1:ag} {G:ah} {Q:ag -> ah -> Prop} (h:eL.S a0 a1 G Q):al P eL.n [a0,a1] G Q:=by
 have e:eL.S a0 a1 G Q = awp cx (eL.body) eL.an (bK T [] Q) (dN [a0,a1]) G:=by kernel_rfl
 refine ay dO (f:=eL.n) (fn:=Tryz.f175) (c:=eL.body) (an:=eL.an) Tryz.func175 ?_ ?_ ?_ (aF ?_ ?_) (by simp [Tryz.f175]) (e ▸ h) <;> kernel_rfl
def en.S (a0:ag) (G:ah) (Q:ag -> ah -> Prop):Prop :=
 wv (kH a0) fun v1=>wv (bx T fF v1 1) fun v2=>wv (lq T G bq v2) fun v3=>wv (aw T .neq bq v3 (.int .i64 0)) fun v4=>brB (some v4)
 (wv (kH a0) fun v5=>wv (bx T fF v5 1) fun v6=>wv (lq T G bq v6) fun v7=>Q (.tuple [.str [],v7]) G)
 (wv (kH a0) fun v8=>wv (bx T fF v8 0) fun v9=>wv (lq T G aP v9) fun v10=>wv (gi T G aP bH v10) fun v11=>Q (.tuple [v11,.int .i64 0]) G)
def en.an:Ann:=.two (.nil) (.two (.two (.nil) (.two (.two (.ord [(0,[]),(1,[]),(2,[]),(3,[]),(4,[]),(5,[])]) (.nil)) (.nil))) (.nil))
theorem en.sound {a0:ag} {G:ah} {Q:ag -> ah -> Prop} (h:en.S a0 G Q):al P en.n [a0] G Q:=by
 have e:en.S a0 G Q = awp cx (en.body) en.an (bK T [.tmp 2,.tmp 3] Q) (dN [a0]) G:=by kernel_rfl
 refine ay dO (f:=en.n) (fn:=Tryz.f176) (c:=en.body) (an:=en.an) Tryz.func176 ?_ ?_ ?_ (aF ?_ ?_) (by simp [Tryz.f176]) (e ▸ h) <;> kernel_rfl
def gV.S (a0 a1 a2 a3:ag) (G:ah) (Q:ag -> ah -> Prop):Prop :=
 br G (.own (a2)) fun i1 G2=>br G2 (.own (a3)) fun i3 G4=>let J71:ag -> ah -> Prop:=(fun x10 G9=>brB (some x10)
 (Q (.tuple [.str [],.int .i64 1]) G9)
 (wv (lq T G9 bc (.ptr i3 [] 0)) fun v11=>al P gC.n [v11] G9 fun v12 G13=>wv (vun .not v12) fun v14=>brB (some v14)
 (Q (.tuple [.str [],.int .i64 4]) G13)
 (al P iy.n [] G13 fun v15 G16=>wv (gi T G16 au cg a0) fun v17=>al P dg.n [v15,v17] G16 fun v18 G19=>al P bZ.n [v15,a1] G19 fun v20 G21=>wv (lq T G21 aj (.ptr i1 [] 0)) fun v22=>al P cG.n [v15,v22] G21 fun v23 G24=>wv (lq T G24 me (.ptr i3 [0] 0)) fun v25=>al P bZ.n [v15,v25] G24 fun v26 G27=>wv (lq T G27 me (.ptr i3 [1] 1)) fun v28=>al P bZ.n [v15,v28] G27 fun v29 G30=>wv (lq T G30 aq (.ptr i3 [2] 2)) fun v31=>wv (gF T G30 aq v31) fun v32=>wv (gi T G30 au yq v32) fun v33=>al P eL.n [v15,v33] G30 fun v34 G35=>wv (lq T G35 aq (.ptr i3 [2] 2)) fun v36=>wv (gF T G35 aq v36) fun v37=>∀ R38:List ag -> ah -> Prop,
 (∀ (x40 x41 x42 x43:ag) (G39:ah),(wv (aw T .lss au x43 x42) fun v44=>brB (some v44)
 (wv (aL T aq x41 x43) fun v45=>wv (lq T G39 aU v45) fun v46=>br G39 (.own (iX)) fun i47 G48=>wg (ax T G48 aU (.ptr i47 [] 0) v46) fun G49=>wv (lq T G49 ey (.ptr i47 [0] 0)) fun v50=>let J65:ah -> Prop:=(fun G55=>wv (lq T G55 me (.ptr i47 [1] 1)) fun v56=>al P bZ.n [x40,v56] G55 fun v57 G58=>wv (lq T G58 me (.ptr i47 [2] 2)) fun v59=>al P bZ.n [x40,v59] G58 fun v60 G61=>wv (lq T G61 aj (.ptr i47 [3] 3)) fun v62=>al P cG.n [x40,v62] G61 fun v63 G64=>wv (aw T .add au x43 (.int .i64 1)) fun v66=>R38 [x40,x41,x42,v66] G64);
 brB (some v50)
 (al P dg.n [x40,.int .u8 1] G49 fun v51 G52=>J65 G52)
 (al P dg.n [x40,.int .u8 0] G49 fun v53 G54=>J65 G54))
 (al P en.n [x40] G39 fun v67 G68=>wv (aW v67 0) fun v69=>wv (aW v67 1) fun v70=>Q (.tuple [v69,v70]) G68)) -> R38 [x40,x41,x42,x43] G39) ->
 R38 [v15,v36,v37,.int .i64 0] G35)));
 wv (aw T .lss au a0 (.int .i64 0)) fun v5=>brB (some v5)
 (J71 (.bool true) G4)
 (wv (aw T .gtr au a0 (.int .i64 1)) fun v6=>brB (some v6)
 (J71 (.bool true) G4)
 (wv (aw T .lss me a1 (.int .i64 0)) fun v7=>brB (some v7)
 (J71 (.bool true) G4)
 (wv (aw T .gtr me a1 (.int .i64 281474976710655)) fun v8=>J71 v8 G4)))
def gV.an:Ann:=.two (.nil) (.two (.nil) (.two (.nil) (.two (.nil) (.two (.nil) (.two (.nil) (.two (.nil) (.two (.nil) (.two (.nil) (.two (.nil) (.two (.two (.nil) (.loop [10,56,57,58] [false,false,false,false] (.nil))) (.nil)))))))))))
theorem gV.sound {a0 a1 a2 a3:ag} {G:ah} {Q:ag -> ah -> Prop} (h:gV.S a0 a1 a2 a3 G Q):al P gV.n [a0,a1,a2,a3] G Q:=by
 have e:gV.S a0 a1 a2 a3 G Q = awp cx (gV.body) gV.an (bK T [.tmp 8,.tmp 9] Q) (dN [a0,a1,a2,a3]) G:=by kernel_rfl
 refine ay dO (f:=gV.n) (fn:=Tryz.f115) (c:=gV.body) (an:=gV.an) Tryz.func115 ?_ ?_ ?_ (aF ?_ ?_) (by simp [Tryz.f115]) (e ▸ h) <;> kernel_rfl
def gU.S (a0:ag) (G:ah) (Q:ag -> ah -> Prop):Prop :=
 br G (.own (a0)) fun i1 G2=>br G2 (.own (iZ)) fun i3 G4=>wv (lq T G4 me (.ptr i1 [1] 1)) fun v5=>wv (lq T G4 me (.ptr i1 [0] 0)) fun v6=>wv (bk T bc [(0,v5),(1,v6)]) fun v7=>br G4 (.own (iZ)) fun i8 G9=>wg (ax T G9 bc (.ptr i8 [] 0) v7) fun G10=>bh T nm 2 [(0,.bool true),(1,.bool false)] G10 fun v11 G12=>wv (gF T G12 nm v11) fun v13=>∀ R14:List ag -> ah -> Prop,
 (∀ (x16 x17 x18 x19 x20 x21:ag) (G15:ah),(wv (aw T .lss au x21 x20) fun v22=>brB (some v22)
 (wv (aL T nm x19 x21) fun v23=>wv (lq T G15 ey v23) fun v24=>wv (bx T bc x16 2) fun v25=>wv (lq T G15 aq v25) fun v26=>wv (gF T G15 aq v26) fun v27=>∀ R28:List ag -> ah -> Prop,
 (∀ (x30 x31 x32 x33 x34 x35 x36 x37 x38 x39:ag) (G29:ah),(wv (aw T .lss au x39 x38) fun v40=>brB (some v40)
 (wv (aL T aq x37 x39) fun v41=>wv (lq T G29 aU v41) fun v42=>br G29 (.own (iX)) fun i43 G44=>wg (ax T G44 aU (.ptr i43 [] 0) v42) fun G45=>wv (lq T G45 ey (.ptr i43 [0] 0)) fun v46=>wv (aw T .neq ey v46 x33) fun v47=>brB (some v47)
 (wg (ax T G45 ey (.ptr i43 [0] 0) x33) fun G48=>wv (bx T bc x32 2) fun v49=>wv (lq T G48 aq v49) fun v50=>wv (lq T G48 aU (.ptr i43 [] 0)) fun v51=>bh T aq 1 [(0,v51)] G48 fun v52 G53=>cc T G53 aq aq v50 v52 fun v54 G55=>wv (bx T bc x32 2) fun v56=>wg (ax T G55 aq v56 v54) fun G57=>wv (aw T .add au x39 (.int .i64 1)) fun v61=>R28 [x30,x31,x32,x33,x34,x35,x36,x37,x38,v61] G57)
 (wv (aw T .add au x39 (.int .i64 1)) fun v62=>R28 [x30,x31,x32,x33,x34,x35,x36,x37,x38,v62] G45))
 (wv (aw T .add au x36 (.int .i64 1)) fun v63=>R14 [x30,x31,x32,x34,x35,v63] G29)) -> R28 [x30,x31,x32,x33,x34,x35,x36,x37,x38,x39] G29) ->
 R28 [x16,x17,x18,v24,x19,x20,x21,v26,v27,.int .i64 0] G15)
 (wv (lq T G15 bc x18) fun v64=>wg (ax T G15 bc x17 v64) fun G65=>wv (lq T G65 bc x17) fun v66=>Q v66 G65)) -> R14 [x16,x17,x18,x19,x20,x21] G15) ->
 R14 [.ptr i1 [] 0,.ptr i3 [] 0,.ptr i8 [] 0,v11,v13,.int .i64 0] G12
def gU.an:Ann:=.two (.nil) (.two (.nil) (.two (.two (.nil) (.loop [1,2,3,13,14,15] [false,false,false,false,false,false] (.two (.nil) (.two (.nil) (.two (.two (.nil) (.two (.nil) (.loop [1,2,3,5,13,14,15,20,21,22] [false,false,false,false,false,false,false,false,false,false] (.nil)))) (.nil)))))) (.nil)))
theorem gU.sound {a0:ag} {G:ah} {Q:ag -> ah -> Prop} (h:gU.S a0 G Q):al P gU.n [a0] G Q:=by
 have e:gU.S a0 G Q = awp cx (gU.body) gU.an (bK T [.cell 2 126] Q) (dN [a0]) G:=by kernel_rfl
 refine ay dO (f:=gU.n) (fn:=Tryz.f116) (c:=gU.body) (an:=gU.an) Tryz.func116 ?_ ?_ ?_ (aF ?_ ?_) (by simp [Tryz.f116]) (e ▸ h) <;> kernel_rfl
def iH.S (a0 a1:ag) (G:ah) (Q:ag -> ah -> Prop):Prop :=
 br G (.own (a0)) fun i1 G2=>br G2 (.own (qI)) fun i3 G4=>wv (fj T j5 (.ptr i3 [] 0) none none none) fun v5=>wv (fj T aj (.ptr i1 [] 0) none none none) fun v6=>vj T G4 aP v5 v6 fun v7 G8=>∀ R9:List ag -> ah -> Prop,
 (∀ (x11 x12 x13:ag) (G10:ah),(wv (aw T .lss au x13 (.int .i64 64)) fun v14=>brB (some v14)
 (wv (aL T j5 x12 x13) fun v15=>wv (lq T G10 cg v15) fun v16=>wv (aw T .xor cg v16 x11) fun v17=>wv (aL T j5 x12 x13) fun v18=>wg (ax T G10 cg v18 v17) fun G19=>wv (aw T .add au x13 (.int .i64 1)) fun v20=>R9 [x11,x12,v20] G19)
 (wv (fj T j5 x12 none none none) fun v21=>wv (gi T G10 aP bH v21) fun v22=>Q v22 G10)) -> R9 [x11,x12,x13] G10) ->
 R9 [a1,.ptr i3 [] 0,.int .i64 0] G8
def iH.an:Ann:=.two (.nil) (.two (.nil) (.two (.ord [(0,[]),(1,[]),(2,[])]) (.two (.two (.nil) (.loop [1,5,10] [false,false,false] (.nil))) (.nil))))
theorem iH.sound {a0 a1:ag} {G:ah} {Q:ag -> ah -> Prop} (h:iH.S a0 a1 G Q):al P iH.n [a0,a1] G Q:=by
 have e:iH.S a0 a1 G Q = awp cx (iH.body) iH.an (bK T [.tmp 4] Q) (dN [a0,a1]) G:=by kernel_rfl
 refine ay dO (f:=iH.n) (fn:=Tryz.f211) (c:=iH.body) (an:=iH.an) Tryz.func211 ?_ ?_ ?_ (aF ?_ ?_) (by simp [Tryz.f211]) (e ▸ h) <;> kernel_rfl
def jB.S (a0 a1:ag) (G:ah) (Q:ag -> ah -> Prop):Prop :=
 br G (.own (a0)) fun i1 G2=>br G2 (.own (cI)) fun i3 G4=>wv (lq T G4 aj (.ptr i1 [] 0)) fun v5=>al P iH.n [v5,.int .u8 54] G4 fun v6 G7=>bh T im 2 [(0,v6),(1,a1)] G7 fun v8 G9=>al P iK.n [v8] G9 fun v10 G11=>br G11 (.own (cI)) fun i12 G13=>wg (ax T G13 aj (.ptr i12 [] 0) v10) fun G14=>wv (lq T G14 aj (.ptr i1 [] 0)) fun v15=>wv (fj T aj (.ptr i12 [] 0) none none none) fun v16=>wv (gi T G14 aP bH v16) fun v17=>al P iH.n [v15,.int .u8 92] G14 fun v18 G19=>(gi T G19 aP bH v16 = some v17 /\ True) /\ (bh T im 2 [(0,v18),(1,v17)] G19 fun v20 G21=>al P iK.n [v20] G21 fun v22 G23=>wg (ax T G23 aj (.ptr i3 [] 0) v22) fun G24=>wv (lq T G24 aj (.ptr i3 [] 0)) fun v25=>Q v25 G24)
def jB.an:Ann:=.two (.nil) (.two (.nil) (.two (.ord [(0,[]),(2,[]),(3,[]),(1,[3]),(4,[]),(5,[]),(6,[])]) (.nil)))
theorem jB.sound {a0 a1:ag} {G:ah} {Q:ag -> ah -> Prop} (h:jB.S a0 a1 G Q):al P jB.n [a0,a1] G Q:=by
 have e:jB.S a0 a1 G Q = awp cx (jB.body) jB.an (bK T [.cell 4 23] Q) (dN [a0,a1]) G:=by kernel_rfl
 refine ay dO (f:=jB.n) (fn:=Tryz.f177) (c:=jB.body) (an:=jB.an) Tryz.func177 ?_ ?_ ?_ (aF ?_ ?_) (by simp [Tryz.f177]) (e ▸ h) <;> kernel_rfl
def iW.S (a0 a1:ag) (G:ah) (Q:ag -> ah -> Prop):Prop :=
 br G (.own (a0)) fun i1 G2=>br G2 (.own (cI)) fun i3 G4=>wv (lq T G4 aj (.ptr i1 [] 0)) fun v5=>al P jB.n [v5,a1] G4 fun v6 G7=>wg (ax T G7 aj (.ptr i3 [] 0) v6) fun G8=>wv (lq T G8 aj (.ptr i3 [] 0)) fun v9=>Q v9 G8
def iW.an:Ann:=.nil
theorem iW.sound {a0 a1:ag} {G:ah} {Q:ag -> ah -> Prop} (h:iW.S a0 a1 G Q):al P iW.n [a0,a1] G Q:=by
 have e:iW.S a0 a1 G Q = awp cx (iW.body) iW.an (bK T [.cell 4 23] Q) (dN [a0,a1]) G:=by kernel_rfl
 refine ay dO (f:=iW.n) (fn:=Tryz.f117) (c:=iW.body) (an:=iW.an) Tryz.func117 ?_ ?_ ?_ (aF ?_ ?_) (by simp [Tryz.f117]) (e ▸ h) <;> kernel_rfl
def gS.S (a0 a1:ag) (G:ah) (Q:ag -> ah -> Prop):Prop :=
 br G (.own (a0)) fun i1 G2=>br G2 (.own (a1)) fun i3 G4=>br G4 (.own (gE)) fun i5 G6=>wv (aL T cL (.ptr i3 [13] 16) (.int .i64 0)) fun v7=>wv (lq T G6 aj v7) fun v8=>br G6 (.own (cI)) fun i9 G10=>wg (ax T G10 aj (.ptr i9 [] 0) v8) fun G11=>wv (lq T G11 me (.ptr i3 [7] 7)) fun v12=>wv (lq T G11 me (.ptr i3 [8] 8)) fun v13=>wv (aw T .neq me v12 v13) fun v14=>let J49:ah -> Prop:=(fun G18=>wv (lq T G18 me (.ptr i3 [2] 2)) fun v19=>wv (lq T G18 me (.ptr i3 [3] 3)) fun v20=>wv (lq T G18 ak (.ptr i3 [4] 4)) fun v21=>wv (lq T G18 ak (.ptr i3 [5] 5)) fun v22=>wv (lq T G18 bG (.ptr i3 [10] 11)) fun v23=>al P gP.n [v19,v20,v21,v22,v23] G18 fun v24 G25=>wv (aW v24 0) fun v26=>wv (aW v24 1) fun v27=>br G25 (.own (iZ)) fun i28 G29=>wg (ax T G29 bc (.ptr i28 [] 0) v26) fun G30=>wv (lq T G30 au (.ptr i3 [0] 0)) fun v31=>wv (aw T .sub au (.int .i64 1) v31) fun v32=>wv (lq T G30 me (.ptr i3 [7] 7)) fun v33=>wv (lq T G30 aj (.ptr i9 [] 0)) fun v34=>wv (lq T G30 bc (.ptr i28 [] 0)) fun v35=>al P gU.n [v35] G30 fun v36 G37=>(lq T G37 aj (.ptr i9 [] 0) = some v34 /\ lq T G37 me (.ptr i3 [7] 7) = some v33 /\ lq T G37 au (.ptr i3 [0] 0) = some v31 /\ True) /\ (al P gV.n [v32,v33,v34,v36] G37 fun v38 G39=>wv (aW v38 0) fun v40=>wv (aW v38 1) fun v41=>wv (lq T G39 me (.ptr i3 [7] 7)) fun v42=>wv (lq T G39 aj (.ptr i1 [4] 35)) fun v43=>al P iW.n [v43,v40] G39 fun v44 G45=>(lq T G45 me (.ptr i3 [7] 7) = some v42 /\ True) /\ (wv (bk T aG [(0,.int .i64 4),(3,v42),(5,v44)]) fun v46=>wg (ax T G45 aG (.ptr i5 [] 0) v46) fun G47=>wv (lq T G47 aG (.ptr i5 [] 0)) fun v48=>Q v48 G47)));
 brB (some v14)
 (wv (aL T cL (.ptr i3 [13] 16) (.int .i64 1)) fun v15=>wv (lq T G11 aj v15) fun v16=>wg (ax T G11 aj (.ptr i9 [] 0) v16) fun G17=>J49 G17)
 (J49 G11)
def gS.an:Ann:=.two (.nil) (.two (.nil) (.two (.nil) (.two (.nil) (.two (.ord [(0,[]),(1,[]),(2,[]),(3,[]),(4,[]),(5,[]),(6,[]),(7,[1,4,5]),(8,[]),(9,[]),(10,[]),(11,[]),(12,[]),(13,[])]) (.two (.ord [(0,[]),(1,[]),(2,[]),(3,[]),(4,[]),(5,[1]),(6,[]),(7,[])]) (.nil))))))
theorem gS.sound {a0 a1:ag} {G:ah} {Q:ag -> ah -> Prop} (h:gS.S a0 a1 G Q):al P gS.n [a0,a1] G Q:=by
 have e:gS.S a0 a1 G Q = awp cx (gS.body) gS.an (bK T [.cell 4 48] Q) (dN [a0,a1]) G:=by kernel_rfl
 refine ay dO (f:=gS.n) (fn:=Tryz.f62) (c:=gS.body) (an:=gS.an) Tryz.func62 ?_ ?_ ?_ (aF ?_ ?_) (by simp [Tryz.f62]) (e ▸ h) <;> kernel_rfl
def cW.S (a0 a1 a2:ag) (G:ah) (Q:ag -> ah -> Prop):Prop :=
 br G (.own (a0)) fun i1 G2=>br G2 (.own (a1)) fun i3 G4=>br G4 (.own (a2)) fun i5 G6=>wv (lq T G6 cl (.ptr i1 [] 0)) fun v7=>wv (lq T G6 aJ (.ptr i3 [] 0)) fun v8=>wv (lq T G6 aG (.ptr i5 [] 0)) fun v9=>al P gd.n [v7,v8,v9] G6 fun v10 G11=>wv (aw T .neq bq v10 (.int .i64 0)) fun v12=>brB (some v12)
 (Q (.tuple [.nilSlice,v10]) G11)
 (br G11 (.own (nR)) fun i13 G14=>al P eC.n [.bool true,.ptr i5 [] 0,.ptr i3 [] 0,.ptr i13 [] 0,.ptr i1 [] 0] G14 fun v15 G16=>wv (lq T G16 me (.ptr i5 [3] 3)) fun v17=>wv (lq T G16 me (.ptr i3 [7] 7)) fun v18=>wv (aw T .eql me v17 v18) fun v19=>let J43:ah -> Prop:=(fun G34=>al P eC.n [.bool false,.ptr i5 [] 0,.ptr i3 [] 0,.ptr i13 [] 0,.ptr i1 [] 0] G34 fun v35 G36=>wv (lq T G36 au (.ptr i3 [10,0] 11)) fun v37=>wv (lq T G36 ak (.ptr i3 [4] 4)) fun v38=>wv (gF T G36 ak v38) fun v39=>al P eE.n [v37,v39,.ptr i3 [] 0,.ptr i13 [] 0] G36 fun v40 G41=>wv (lq T G41 aR (.ptr i13 [] 0)) fun v42=>Q (.tuple [v42,.int .i64 0]) G41);
 brB (some v19)
 (wv (lq T G16 au (.ptr i3 [11,0] 13)) fun v20=>wv (lq T G16 au (.ptr i3 [10,0] 11)) fun v21=>al P eE.n [v20,v21,.ptr i3 [] 0,.ptr i13 [] 0] G16 fun v22 G23=>wv (lq T G23 aR (.ptr i13 [] 0)) fun v24=>wv (lq T G23 cl (.ptr i1 [] 0)) fun v25=>wv (lq T G23 aJ (.ptr i3 [] 0)) fun v26=>al P gS.n [v25,v26] G23 fun v27 G28=>(lq T G28 aR (.ptr i13 [] 0) = some v24 /\ True) /\ (bh T aR 1 [(0,v27)] G28 fun v29 G30=>cc T G30 aR aR v24 v29 fun v31 G32=>wg (ax T G32 aR (.ptr i13 [] 0) v31) fun G33=>J43 G33))
 (J43 G16))
def cW.an:Ann:=.two (.nil) (.two (.nil) (.two (.nil) (.two (.nil) (.two (.nil) (.two (.nil) (.two (.two (.nil) (.two (.two (.nil) (.ord [(0,[]),(1,[]),(2,[]),(3,[0]),(4,[]),(5,[]),(6,[])])) (.nil))) (.nil)))))))
theorem cW.sound {a0 a1 a2:ag} {G:ah} {Q:ag -> ah -> Prop} (h:cW.S a0 a1 a2 G Q):al P cW.n [a0,a1,a2] G Q:=by
 have e:cW.S a0 a1 a2 G Q = awp cx (cW.body) cW.an (bK T [.tmp 6,.tmp 7] Q) (dN [a0,a1,a2]) G:=by kernel_rfl
 refine ay dO (f:=cW.n) (fn:=Tryz.f22) (c:=cW.body) (an:=cW.an) Tryz.func22 ?_ ?_ ?_ (aF ?_ ?_) (by simp [Tryz.f22]) (e ▸ h) <;> kernel_rfl
def cz.S (a0 a1:ag) (G:ah) (Q:ag -> ah -> Prop):Prop :=
 br G (.own (a0)) fun i1 G2=>br G2 (.own (cI)) fun i3 G4=>wv (lq T G4 aj (.ptr i1 [] 0)) fun v5=>al P bJ.n [v5,a1] G4 fun v6 G7=>wv (aW v6 0) fun v8=>wv (aW v6 1) fun v9=>br G7 (.own (cI)) fun i10 G11=>wg (ax T G11 aj (.ptr i10 [] 0) v8) fun G12=>wv (lq T G12 aj (.ptr i10 [] 0)) fun v13=>al P bW.n [v13] G12 fun v14 G15=>wg (ax T G15 aj (.ptr i3 [] 0) v14) fun G16=>wv (lq T G16 aj (.ptr i3 [] 0)) fun v17=>Q v17 G16
def cz.an:Ann:=.nil
theorem cz.sound {a0 a1:ag} {G:ah} {Q:ag -> ah -> Prop} (h:cz.S a0 a1 G Q):al P cz.n [a0,a1] G Q:=by
 have e:cz.S a0 a1 G Q = awp cx (cz.body) cz.an (bK T [.cell 4 23] Q) (dN [a0,a1]) G:=by kernel_rfl
 refine ay dO (f:=cz.n) (fn:=Tryz.f85) (c:=cz.body) (an:=cz.an) Tryz.func85 ?_ ?_ ?_ (aF ?_ ?_) (by simp [Tryz.f85]) (e ▸ h) <;> kernel_rfl
def cu.S (a0:ag) (G:ah) (Q:ag -> ah -> Prop):Prop :=
 br G (.own (a0)) fun i1 G2=>br G2 (.own (mn)) fun i3 G4=>br G4 (.own (mn)) fun i5 G6=>∀ R7:List ag -> ah -> Prop,
 (∀ (x9 x10 x11 x12:ag) (G8:ah),(wv (aw T .lss au x12 (.int .i64 2)) fun v13=>brB (some v13)
 (wv (bx T dj x9 1) fun v14=>wv (lq T G8 me v14) fun v15=>wv (aw T .eql au x12 (.int .i64 1)) fun v16=>let J52:ag -> ah -> Prop:=(fun x23 G22=>wv (bx T dj x9 0) fun v24=>wv (lq T G22 me v24) fun v25=>wv (bx T dj x9 2) fun v26=>wv (aL T cL v26 x12) fun v27=>wv (lq T G22 aj v27) fun v28=>wv (bx T dj x9 3) fun v29=>wv (aL T cL v29 x12) fun v30=>wv (lq T G22 aj v30) fun v31=>wv (aw T .sub au (.int .i64 1) x12) fun v32=>wv (bx T dj x9 3) fun v33=>wv (aL T cL v33 v32) fun v34=>wv (lq T G22 aj v34) fun v35=>wv (aw T .sub au (.int .i64 1) x12) fun v36=>wv (bx T dj x9 2) fun v37=>wv (aL T cL v37 v36) fun v38=>wv (lq T G22 aj v38) fun v39=>wv (aw T .sub au (.int .i64 1) x12) fun v40=>wv (bx T dj x9 2) fun v41=>wv (aL T cL v41 v40) fun v42=>wv (lq T G22 aj v42) fun v43=>al P cz.n [v39,.int .i64 0] G22 fun v44 G45=>(lq T G45 aj v42 = some v43 /\ lq T G45 aj v34 = some v35 /\ lq T G45 aj v30 = some v31 /\ lq T G45 aj v27 = some v28 /\ lq T G45 me v24 = some v25 /\ True) /\ (al P cz.n [v43,.int .i64 1] G45 fun v46 G47=>(lq T G47 aj v34 = some v35 /\ lq T G47 aj v30 = some v31 /\ lq T G47 aj v27 = some v28 /\ lq T G47 me v24 = some v25 /\ True) /\ (wv (bk T cL [(0,v44),(1,v46)]) fun v48=>wv (bk T cl [(0,x12),(1,v25),(2,x23),(3,v28),(4,v31),(5,v35),(6,v48),(7,.int .i64 4096)]) fun v49=>wv (aL T fD x11 x12) fun v50=>wg (ax T G47 cl v50 v49) fun G51=>wv (aw T .add au x12 (.int .i64 1)) fun v53=>R7 [x9,x10,x11,v53] G51)));
 brB (some v16)
 (wv (bx T dj x9 0) fun v17=>wv (lq T G8 me v17) fun v18=>wv (bx T dj x9 1) fun v19=>wv (lq T G8 me v19) fun v20=>wv (aw T .sub me v18 v20) fun v21=>J52 v21 G8)
 (J52 v15 G8))
 (wv (lq T G8 fD x11) fun v54=>wg (ax T G8 fD x10 v54) fun G55=>wv (lq T G55 fD x10) fun v56=>Q v56 G55)) -> R7 [x9,x10,x11,x12] G8) ->
 R7 [.ptr i1 [] 0,.ptr i3 [] 0,.ptr i5 [] 0,.int .i64 0] G6
def cu.an:Ann:=.two (.nil) (.two (.nil) (.two (.two (.nil) (.loop [1,2,3,4] [false,false,false,false] (.two (.nil) (.two (.two (.nil) (.two (.nil) (.ord [(0,[]),(1,[]),(2,[]),(3,[]),(4,[]),(5,[]),(6,[]),(7,[]),(8,[]),(9,[]),(10,[]),(11,[]),(12,[]),(13,[]),(14,[]),(15,[]),(16,[]),(17,[]),(18,[]),(19,[]),(20,[]),(21,[]),(22,[]),(24,[]),(25,[]),(26,[]),(27,[]),(28,[]),(23,[3,8,12,17,28]),(29,[3,8,12,17]),(30,[]),(31,[]),(32,[]),(33,[])]))) (.nil))))) (.nil)))
theorem cu.sound {a0:ag} {G:ah} {Q:ag -> ah -> Prop} (h:cu.S a0 G Q):al P cu.n [a0] G Q:=by
 have e:cu.S a0 G Q = awp cx (cu.body) cu.an (bK T [.cell 2 42] Q) (dN [a0]) G:=by kernel_rfl
 refine ay dO (f:=cu.n) (fn:=Tryz.f36) (c:=cu.body) (an:=cu.an) Tryz.func36 ?_ ?_ ?_ (aF ?_ ?_) (by simp [Tryz.f36]) (e ▸ h) <;> kernel_rfl
def cH.S (a0:ag) (G:ah) (Q:ag -> ah -> Prop):Prop :=
 br G (.own (a0)) fun i1 G2=>br G2 (.own (iT)) fun i3 G4=>let J33:ag -> ah -> Prop:=(fun x19 G18=>brB (some x19)
 (wv (bk T aJ []) fun v20=>wg (ax T G18 aJ (.ptr i3 [] 0) v20) fun G21=>wv (lq T G21 aJ (.ptr i3 [] 0)) fun v22=>Q (.tuple [v22,.int .i64 1]) G21)
 (wv (lq T G18 au (.ptr i1 [0] 0)) fun v23=>wv (lq T G18 me (.ptr i1 [1] 1)) fun v24=>wv (lq T G18 me (.ptr i1 [2] 2)) fun v25=>wv (lq T G18 me (.ptr i1 [1] 1)) fun v26=>wv (lq T G18 me (.ptr i1 [2] 2)) fun v27=>wv (aw T .sub me v26 v27) fun v28=>wv (lq T G18 cL (.ptr i1 [6] 99)) fun v29=>wv (bk T aJ [(0,v23),(1,v24),(2,v25),(3,v28),(13,v29),(17,.int .i64 (-1))]) fun v30=>wg (ax T G18 aJ (.ptr i3 [] 0) v30) fun G31=>wv (lq T G31 aJ (.ptr i3 [] 0)) fun v32=>Q (.tuple [v32,.int .i64 0]) G31));
 wv (lq T G4 au (.ptr i1 [0] 0)) fun v5=>wv (aw T .lss au v5 (.int .i64 0)) fun v6=>brB (some v6)
 (J33 (.bool true) G4)
 (wv (lq T G4 au (.ptr i1 [0] 0)) fun v7=>wv (aw T .gtr au v7 (.int .i64 1)) fun v8=>brB (some v8)
 (J33 (.bool true) G4)
 (wv (lq T G4 me (.ptr i1 [1] 1)) fun v9=>wv (aw T .lss me v9 (.int .i64 1)) fun v10=>brB (some v10)
 (J33 (.bool true) G4)
 (wv (lq T G4 me (.ptr i1 [1] 1)) fun v11=>wv (aw T .gtr me v11 (.int .i64 1152921504606846976)) fun v12=>brB (some v12)
 (J33 (.bool true) G4)
 (wv (lq T G4 me (.ptr i1 [2] 2)) fun v13=>wv (aw T .lss me v13 (.int .i64 0)) fun v14=>brB (some v14)
 (J33 (.bool true) G4)
 (wv (lq T G4 me (.ptr i1 [2] 2)) fun v15=>wv (lq T G4 me (.ptr i1 [1] 1)) fun v16=>wv (aw T .gtr me v15 v16) fun v17=>J33 v17 G4)))))
def cH.an:Ann:=.nil
theorem cH.sound {a0:ag} {G:ah} {Q:ag -> ah -> Prop} (h:cH.S a0 G Q):al P cH.n [a0] G Q:=by
 have e:cH.S a0 G Q = awp cx (cH.body) cH.an (bK T [.cell 2 38,.tmp 3] Q) (dN [a0]) G:=by kernel_rfl
 refine ay dO (f:=cH.n) (fn:=Tryz.f38) (c:=cH.body) (an:=cH.an) Tryz.func38 ?_ ?_ ?_ (aF ?_ ?_) (by simp [Tryz.f38]) (e ▸ h) <;> kernel_rfl
def eV.S (a0 a1:ag) (G:ah) (Q:ag -> ah -> Prop):Prop :=
 wv (gF T G aR a0) fun v1=>wv (gF T G aR a1) fun v2=>wv (aw T .neq au v1 v2) fun v3=>brB (some v3)
 (Q (.bool false) G)
 (∀ R4:List ag -> ah -> Prop,
 (∀ (x6 x7 x8:ag) (G5:ah),(wv (gF T G5 aR x6) fun v9=>wv (aw T .lss au x8 v9) fun v10=>brB (some v10)
 (wv (aL T aR x6 x8) fun v11=>wv (lq T G5 aG v11) fun v12=>wv (aL T aR x7 x8) fun v13=>wv (lq T G5 aG v13) fun v14=>wv (aw T .neq aG v12 v14) fun v15=>brB (some v15)
 (Q (.bool false) G5)
 (wv (aw T .add au x8 (.int .i64 1)) fun v16=>R4 [x6,x7,v16] G5))
 (Q (.bool true) G5)) -> R4 [x6,x7,x8] G5) ->
 R4 [a0,a1,.int .i64 0] G)
def eV.an:Ann:=.two (.nil) (.two (.nil) (.two (.two (.nil) (.loop [0,1,5] [false,false,false] (.two (.nil) (.two (.two (.ord [(0,[]),(1,[]),(2,[]),(3,[]),(4,[]),(5,[]),(6,[]),(7,[]),(8,[])]) (.nil)) (.nil))))) (.nil)))
theorem eV.sound {a0 a1:ag} {G:ah} {Q:ag -> ah -> Prop} (h:eV.S a0 a1 G Q):al P eV.n [a0,a1] G Q:=by
 have e:eV.S a0 a1 G Q = awp cx (eV.body) eV.an (bK T [.tmp 4] Q) (dN [a0,a1]) G:=by kernel_rfl
 refine ay dO (f:=eV.n) (fn:=Tryz.f42) (c:=eV.body) (an:=eV.an) Tryz.func42 ?_ ?_ ?_ (aF ?_ ?_) (by simp [Tryz.f42]) (e ▸ h) <;> kernel_rfl
end Go.Esc.M
