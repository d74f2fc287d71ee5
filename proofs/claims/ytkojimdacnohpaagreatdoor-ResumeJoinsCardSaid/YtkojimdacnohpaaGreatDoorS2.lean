import Derived.Test.YtkojimdacnohpaaGreatDoorT
set_option linter.unusedSimpArgs false
set_option linter.unusedVariables false
set_option maxRecDepth 100000
namespace Go.Esc.M
open Go Go.Esc Go.Proofs
variable {G:ak}{Q:ah->ak->Prop}
def iK.S (a0 a1 a2 a3 a4:ah) (G:ak) (Q:ah->ak->Prop):Prop:=
 br G (.own a3) fun i1 G2=>br G2 (.own a4) fun i3 G4=>br G4 (.own (kb)) fun i5 G6=>br G6 (.own (kb)) fun i7 G8=>wv (fU T G8 aj a0) fun v9=>∀ R10:List ah->ak->Prop,
 (∀ (x12 x13 x14 x15 x16 x17 x18 x19 x20 x21:ah) (G11:ak),(wv (az T .lss ay x21 x20) fun v22=>brB (some v22)
 (let J62:ah->ak->Prop:=(fun x60 G59=>wv (az T .add ay x21 (.int .i64 1)) fun v61=>R10 [x12,x13,x14,x15,x16,x17,x60,x19,x20,v61] G59);
 wv (aO T aj x19 x21) fun v23=>wv (ag T G11 aG v23) fun v24=>br G11 (.own (dv)) fun i25 G26=>wg (aF T G26 aG (.ptr i25 [] 0) v24) fun G27=>let J58:ah->ak->Prop:=(fun x34 G33=>brB (some x34)
 (J62 x18 G33)
 (wv (ag T G33 bO x14) fun v35=>wv (ag T G33 aq (.ptr i25 [2] 2)) fun v36=>al P ed.n [v35,v36] G33 fun v37 G38=>wg (aF T G38 bO x14 v37) fun G39=>wv (ag T G39 aq (.ptr i25 [1] 1)) fun v40=>wv (jg T G39 dU x12 v40 false) fun v41=>wv (az T .eql ay v41 (.int .i64 2)) fun v42=>brB (some v42)
 (wv (ag T G39 bO x15) fun v43=>wv (ag T G39 aq (.ptr i25 [2] 2)) fun v44=>al P cS.n [v43,v44] G39 fun v45 G46=>wg (aF T G46 bO x15 v45) fun G47=>J62 x18 G47)
 (wv (ag T G39 aq (.ptr i25 [1] 1)) fun v48=>wv (ag T G39 aq (.ptr i25 [2] 2)) fun v49=>wv (ag T G39 ar (.ptr i25 [3] 3)) fun v50=>wv (bj T aT [(0,x13),(1,v48),(2,v49),(3,v50)]) fun v51=>bu T aw 1 [(0,v51)] G39 fun v52 G53=>cn T G53 aw aw x18 v52 fun v54 G55=>J62 v54 G55)));
 wv (ag T G27 ay (.ptr i25 [0] 0)) fun v28=>wv (az T .neq ay v28 (.int .i64 1)) fun v29=>brB (some v29)
 (J58 (.bool true) G27)
 (wv (ag T G27 aq (.ptr i25 [1] 1)) fun v30=>wv (jg T G27 dU x12 v30 false) fun v31=>wv (az T .eql ay v31 (.int .i64 3)) fun v32=>J58 v32 G27))
 (al P bc.n [x18,.func (.func hI.n) [] []] G11 fun v63 G64=>wv (ag T G64 bO x14) fun v65=>wv (ag T G64 bO x15) fun v66=>wg (aF T G64 bO x16 v65) fun G67=>(ag T G67 bO x15=some v66/\True)/\(wg (aF T G67 bO x17 v66) fun G68=>wv (ag T G68 bO x16) fun v69=>wv (ag T G68 bO x17) fun v70=>Q (.tuple [v69,v70,x18]) G68)))->R10 [x12,x13,x14,x15,x16,x17,x18,x19,x20,x21] G11) ->
 R10 [a1,a2,.ptr i1 [] 0,.ptr i3 [] 0,.ptr i5 [] 0,.ptr i7 [] 0,.nilSlice,a0,v9,.int .i64 0] G8
def iK.an:Ann:=.two .nil (.two .nil (.two (.two .nil (.loop [1,2,8,9,10,11,13,16,17,18] [false,false,false,false,false,false,false,false,false,false] .nil)) (.two .nil (.two (.ord [(0,[]),(1,[]),(2,[]),(3,[1]),(4,[]),(5,[])]) .nil))))
theorem iK.sound {a0 a1 a2 a3 a4:ah}(h:iK.S a0 a1 a2 a3 a4 G Q):al P iK.n [a0,a1,a2,a3,a4] G Q:=by
 have e:iK.S a0 a1 a2 a3 a4 G Q=awp cx iK.body iK.an (bG T [.cell 10 178,.cell 11 178,.tmp 12] Q) (cC [a0,a1,a2,a3,a4]) G:=by kernel_rfl
 refine aD cF Tryz.func133 ?_ ?_ ?_ (aH ?_ ?_) (by simp[Tryz.f133]) (e.mp h)<;>kernel_rfl
def dq.S (a0:ah) (G:ak) (Q:ah->ak->Prop):Prop:=
 br G (.map []) fun i1 G2=>wv (fU T G2 aj a0) fun v3=>∀ R4:List ah->ak->Prop,
 (∀ (x6 x7 x8 x9:ah) (G5:ak),(wv (az T .lss ay x9 x8) fun v10=>brB (some v10)
 (wv (aO T aj x7 x9) fun v11=>wv (ag T G5 aG v11) fun v12=>br G5 (.own (dv)) fun i13 G14=>wg (aF T G14 aG (.ptr i13 [] 0) v12) fun G15=>wv (ag T G15 aq (.ptr i13 [1] 1)) fun v16=>wv (jg T G15 dU x6 v16 true) fun v17=>wv (aP v17 0) fun v18=>wv (aP v17 1) fun v19=>let J32:ah->ak->Prop:=(fun x27 G26=>brB (some x27)
 (wv (ag T G26 aq (.ptr i13 [1] 1)) fun v28=>wv (ag T G26 ay (.ptr i13 [0] 0)) fun v29=>gD T G26 dU x6 v28 v29 fun G30=>wv (az T .add ay x9 (.int .i64 1)) fun v35=>R4 [x6,x7,x8,v35] G30)
 (wv (az T .add ay x9 (.int .i64 1)) fun v36=>R4 [x6,x7,x8,v36] G26));
 wv (vun .not v19) fun v20=>brB (some v20)
 (wv (ag T G15 ay (.ptr i13 [0] 0)) fun v21=>wv (az T .neq ay v21 (.int .i64 1)) fun v22=>brB (some v22)
 (wv (ag T G15 aG (.ptr i13 [] 0)) fun v23=>al P gj.n [v23] G15 fun v24 G25=>J32 v24 G25)
 (J32 (.bool false) G15))
 (J32 (.bool false) G15))
 (Q x6 G5))->R4 [x6,x7,x8,x9] G5) ->
 R4 [.map i1,a0,v3,.int .i64 0] G2
def dq.an:Ann:=.two .nil (.two .nil (.two (.two .nil (.loop [3,9,10,11] [false,false,false,false] .nil)) .nil))
theorem dq.sound {a0:ah}(h:dq.S a0 G Q):al P dq.n [a0] G Q:=by
 have e:dq.S a0 G Q=awp cx dq.body dq.an (bG T [.tmp 2] Q) (cC [a0]) G:=by kernel_rfl
 refine aD cF Tryz.func134 ?_ ?_ ?_ (aH ?_ ?_) (by simp[Tryz.f134]) (e.mp h)<;>kernel_rfl
def dy.S (a0:ah) (G:ak) (Q:ah->ak->Prop):Prop:=
 br G (.own a0) fun i1 G2=>wv (ag T G2 aq (.ptr i1 [0] 0)) fun v3=>wv (ag T G2 aq (.ptr i1 [1] 1)) fun v4=>wv (az T .shr aq v4 (.int .u64 30)) fun v5=>wv (az T .add aq v3 v5) fun v6=>wv (az T .lss aq v6 (.int .i64 0)) fun v7=>brB (some v7)
 (Q (.int .i64 (-1)) G2)
 (wv (az T .gtr aq v6 (.int .i64 1073741824)) fun v8=>brB (some v8)
 (Q (.int .i64 1152921504606846977) G2)
 (wv (az T .shl aq v6 (.int .u64 30)) fun v9=>wv (ag T G2 aq (.ptr i1 [1] 1)) fun v10=>wv (az T .and aq v10 (.int .i64 1073741823)) fun v11=>wv (az T .or aq v9 v11) fun v12=>Q v12 G2))
def dy.an:Ann:=.nil
theorem dy.sound {a0:ah}(h:dy.S a0 G Q):al P dy.n [a0] G Q:=by
 have e:dy.S a0 G Q=awp cx dy.body dy.an (bG T [.tmp 2] Q) (cC [a0]) G:=by kernel_rfl
 refine aD cF Tryz.func136 ?_ ?_ ?_ (aH ?_ ?_) (by simp[Tryz.f136]) (e.mp h)<;>kernel_rfl
def iM.S (a0 a1 a2 a3 a4:ah) (G:ak) (Q:ah->ak->Prop):Prop:=
 br G (.own a4) fun i1 G2=>br G2 (.own (jJ)) fun i3 G4=>let J99:ah->ak->Prop:=(fun x16 G15=>brB (some x16)
 (wv (bj T aX []) fun v17=>wg (aF T G15 aX (.ptr i3 [] 0) v17) fun G18=>wv (ag T G18 aX (.ptr i3 [] 0)) fun v19=>Q (.tuple [v19,.int .i64 1]) G18)
 (bu T jf 2 [(0,a0),(1,a1)] G15 fun v20 G21=>al P jX.n [v20] G21 fun v22 G23=>wv (aP v22 0) fun v24=>wv (aP v22 1) fun v25=>wv (az T .neq bD v25 (.int .i64 0)) fun v26=>brB (some v26)
 (wv (bj T aX []) fun v27=>wg (aF T G23 aX (.ptr i3 [] 0) v27) fun G28=>wv (ag T G28 aX (.ptr i3 [] 0)) fun v29=>Q (.tuple [v29,.int .i64 1]) G28)
 (wv (ag T G23 ay (.ptr i1 [0] 0)) fun v30=>wv (dV T aj a2 none (some (v30)) none) fun v31=>wv (ag T G23 ay (.ptr i1 [1] 1)) fun v32=>wv (dV T aj a3 none (some (v32)) none) fun v33=>let J98:ah->ak->Prop:=(fun x39 G38=>brB (some x39)
 (wv (bj T aX []) fun v40=>wg (aF T G38 aX (.ptr i3 [] 0) v40) fun G41=>wv (ag T G41 aX (.ptr i3 [] 0)) fun v42=>Q (.tuple [v42,.int .i64 120]) G41)
 (al P dq.n [v33] G38 fun v43 G44=>wv (bj T bO []) fun v45=>al P cS.n [v45,a0] G44 fun v46 G47=>wv (bj T bO []) fun v48=>al P cS.n [v48,a1] G47 fun v49 G50=>al P iK.n [v31,v43,.bool true,v46,v49] G50 fun v51 G52=>wv (aP v51 0) fun v53=>wv (aP v51 1) fun v54=>wv (aP v51 2) fun v55=>br G52 (.own (kb)) fun i56 G57=>br G57 (.own (kb)) fun i58 G59=>wg (aF T G59 bO (.ptr i56 [] 0) v53) fun G60=>wg (aF T G60 bO (.ptr i58 [] 0) v54) fun G61=>wv (ag T G61 bO (.ptr i58 [] 0)) fun v62=>wv (ag T G61 bO (.ptr i56 [] 0)) fun v63=>al P dq.n [v31] G61 fun v64 G65=>(ag T G65 bO (.ptr i56 [] 0)=some v63/\ag T G65 bO (.ptr i58 [] 0)=some v62/\True)/\(al P iK.n [v33,v64,.bool false,v62,v63] G65 fun v66 G67=>wv (aP v66 0) fun v68=>wv (aP v66 1) fun v69=>wv (aP v66 2) fun v70=>wg (aF T G67 bO (.ptr i58 [] 0) v68) fun G71=>wg (aF T G71 bO (.ptr i56 [] 0) v69) fun G72=>wv (ag T G72 bO (.ptr i56 [] 0)) fun v73=>wv (ag T G72 bO (.ptr i58 [] 0)) fun v74=>al P dy.n [v73] G72 fun v75 G76=>(ag T G76 bO (.ptr i58 [] 0)=some v74/\True)/\(al P dy.n [v74] G76 fun v77 G78=>cn T G78 aw aw v55 v70 fun v79 G80=>wv (bj T aX [(0,v75),(1,v77),(2,v79)]) fun v81=>br G80 (.own (jJ)) fun i82 G83=>wg (aF T G83 aX (.ptr i82 [] 0) v81) fun G84=>let J97:ah->ak->Prop:=(fun x90 G89=>brB (some x90)
 (wv (bj T aX []) fun v91=>wg (aF T G89 aX (.ptr i3 [] 0) v91) fun G92=>wv (ag T G92 aX (.ptr i3 [] 0)) fun v93=>Q (.tuple [v93,.int .i64 130]) G92)
 (wv (ag T G89 aX (.ptr i82 [] 0)) fun v94=>wg (aF T G89 aX (.ptr i3 [] 0) v94) fun G95=>wv (ag T G95 aX (.ptr i3 [] 0)) fun v96=>Q (.tuple [v96,.int .i64 0]) G95));
 wv (ag T G84 aq (.ptr i82 [0] 0)) fun v85=>wv (az T .lss aq v85 (.int .i64 0)) fun v86=>brB (some v86)
 (J97 (.bool true) G84)
 (wv (ag T G84 aq (.ptr i82 [1] 1)) fun v87=>wv (az T .lss aq v87 (.int .i64 0)) fun v88=>J97 v88 G84)))));
 al P bd.n [v31,.func (.func gu.n) [] []] G23 fun v34 G35=>brB (some v34)
 (J98 (.bool true) G35)
 (al P bd.n [v33,.func (.func gu.n) [] []] G35 fun v36 G37=>J98 v36 G37))));
 wv (ag T G4 ay (.ptr i1 [0] 0)) fun v5=>wv (az T .lss ay v5 (.int .i64 0)) fun v6=>brB (some v6)
 (J99 (.bool true) G4)
 (wv (ag T G4 ay (.ptr i1 [0] 0)) fun v7=>wv (fU T G4 aj a2) fun v8=>wv (az T .gtr ay v7 v8) fun v9=>brB (some v9)
 (J99 (.bool true) G4)
 (wv (ag T G4 ay (.ptr i1 [1] 1)) fun v10=>wv (az T .lss ay v10 (.int .i64 0)) fun v11=>brB (some v11)
 (J99 (.bool true) G4)
 (wv (ag T G4 ay (.ptr i1 [1] 1)) fun v12=>wv (fU T G4 aj a3) fun v13=>wv (az T .gtr ay v12 v13) fun v14=>J99 v14 G4)))
def iM.an:Ann:=.two .nil (.two .nil (.two .nil (.two (.ord [(0,[]),(1,[]),(2,[]),(3,[]),(4,[]),(5,[]),(6,[]),(7,[]),(8,[]),(9,[])]) (.two .nil (.two .nil (.two (.ord [(0,[]),(1,[]),(3,[]),(4,[]),(2,[3,4]),(5,[]),(6,[]),(7,[]),(8,[]),(9,[]),(10,[]),(11,[]),(12,[])]) (.two (.ord [(0,[]),(2,[]),(4,[]),(5,[]),(1,[2]),(3,[]),(6,[]),(7,[]),(8,[]),(9,[])]) .nil)))))))
theorem iM.sound {a0 a1 a2 a3 a4:ah}(h:iM.S a0 a1 a2 a3 a4 G Q):al P iM.n [a0,a1,a2,a3,a4] G Q:=by
 have e:iM.S a0 a1 a2 a3 a4 G Q=awp cx iM.body iM.an (bG T [.cell 10 126,.tmp 11] Q) (cC [a0,a1,a2,a3,a4]) G:=by kernel_rfl
 refine aD cF Tryz.func73 ?_ ?_ ?_ (aH ?_ ?_) (by simp[Tryz.f73]) (e.mp h)<;>kernel_rfl
def iW.S (a0:ah) (G:ak) (Q:ah->ak->Prop):Prop:=
 br G (.own a0) fun i1 G2=>let J62:ah->ak->Prop:=(fun x12 G11=>brB (some x12)
 (Q (.bool false) G11)
 (br G11 (.map []) fun i13 G14=>br G14 (.map []) fun i15 G16=>gD T G16 lR (.map i15) (.bool true) (.int .i64 (-1)) fun G17=>gD T G17 lR (.map i15) (.bool false) (.int .i64 (-1)) fun G18=>wv (ag T G18 aw (.ptr i1 [2] 2)) fun v19=>wv (fU T G18 aw v19) fun v20=>∀ R21:List ah->ak->Prop,
 (∀ (x23 x24 x25 x26 x27:ah) (G22:ak),(wv (az T .lss ay x27 x26) fun v28=>brB (some v28)
 (wv (aO T aw x25 x27) fun v29=>wv (ag T G22 aT v29) fun v30=>br G22 (.own (jQ)) fun i31 G32=>wg (aF T G32 aT (.ptr i31 [] 0) v30) fun G33=>let J54:ah->ak->Prop:=(fun x46 G45=>brB (some x46)
 (Q (.bool false) G45)
 (wv (ag T G45 du (.ptr i31 [0] 0)) fun v47=>wv (ag T G45 aq (.ptr i31 [1] 1)) fun v48=>gD T G45 lR x24 v47 v48 fun G49=>wv (ag T G49 du (.ptr i31 [0] 0)) fun v50=>wv (jg T G49 lY x23 v50 false) fun v51=>wv (az T .add ay v51 (.int .i64 1)) fun v52=>gD T G49 lY x23 v50 v52 fun G53=>wv (az T .add ay x27 (.int .i64 1)) fun v55=>R21 [x23,x24,x25,x26,v55] G53));
 wv (ag T G33 aq (.ptr i31 [2] 2)) fun v34=>wv (az T .lss aq v34 (.int .i64 1)) fun v35=>brB (some v35)
 (J54 (.bool true) G33)
 (wv (ag T G33 aq (.ptr i31 [2] 2)) fun v36=>wv (az T .gtr aq v36 (.int .i64 1152921504606846976)) fun v37=>brB (some v37)
 (J54 (.bool true) G33)
 (wv (ag T G33 aq (.ptr i31 [1] 1)) fun v38=>wv (ag T G33 du (.ptr i31 [0] 0)) fun v39=>wv (jg T G33 lR x24 v39 false) fun v40=>wv (az T .leq aq v38 v40) fun v41=>brB (some v41)
 (J54 (.bool true) G33)
 (wv (ag T G33 du (.ptr i31 [0] 0)) fun v42=>brB (some v42)
 (wv (jg T G33 lY x23 (.bool false) false) fun v43=>wv (az T .gtr ay v43 (.int .i64 0)) fun v44=>J54 v44 G33)
 (J54 (.bool false) G33)))))
 (wv (jg T G22 lY x23 (.bool true) false) fun v56=>wv (az T .leq ay v56 (.int .i64 483)) fun v57=>brB (some v57)
 (wv (jg T G22 lY x23 (.bool false) false) fun v58=>wv (az T .leq ay v58 (.int .i64 483)) fun v59=>Q v59 G22)
 (Q (.bool false) G22)))->R21 [x23,x24,x25,x26,x27] G22) ->
 R21 [.map i13,.map i15,v19,v20,.int .i64 0] G18));
 wv (ag T G2 aq (.ptr i1 [0] 0)) fun v3=>wv (az T .lss aq v3 (.int .i64 0)) fun v4=>brB (some v4)
 (J62 (.bool true) G2)
 (wv (ag T G2 aq (.ptr i1 [0] 0)) fun v5=>wv (az T .gtr aq v5 (.int .i64 1152921504606846976)) fun v6=>brB (some v6)
 (J62 (.bool true) G2)
 (wv (ag T G2 aq (.ptr i1 [1] 1)) fun v7=>wv (az T .lss aq v7 (.int .i64 0)) fun v8=>brB (some v8)
 (J62 (.bool true) G2)
 (wv (ag T G2 aq (.ptr i1 [1] 1)) fun v9=>wv (az T .gtr aq v9 (.int .i64 1152921504606846976)) fun v10=>J62 v10 G2)))
def iW.an:Ann:=.two .nil (.two .nil (.two .nil (.two .nil (.two (.two .nil (.loop [3,4,29,30,31] [false,false,false,false,false] .nil)) .nil))))
theorem iW.sound {a0:ah}(h:iW.S a0 G Q):al P iW.n [a0] G Q:=by
 have e:iW.S a0 G Q=awp cx iW.body iW.an (bG T [.tmp 2] Q) (cC [a0]) G:=by kernel_rfl
 refine aD cF Tryz.func170 ?_ ?_ ?_ (aH ?_ ?_) (by simp[Tryz.f170]) (e.mp h)<;>kernel_rfl
def jV.S (G:ak) (Q:ah->ak->Prop):Prop:=
 wv (bj T fK []) fun v1=>br G (.own (v1)) fun i2 G3=>Q (.ptr i2 [] 0) G3
def jV.an:Ann:=.nil
theorem jV.sound (h:jV.S G Q):al P jV.n [] G Q:=by
 have e:jV.S G Q=awp cx jV.body jV.an (bG T [.tmp 0] Q) (cC []) G:=by kernel_rfl
 refine aD cF Tryz.func171 ?_ ?_ ?_ (aH ?_ ?_) (by simp[Tryz.f171]) (e.mp h)<;>kernel_rfl
def gh.S (a0 a1 a2:ah) (G:ak) (Q:ah->ak->Prop):Prop:=
 wv (lr a0) fun v1=>wv (bt T fK v1 1) fun v2=>wv (ag T G bD v2) fun v3=>wv (az T .neq bD v3 (.int .i64 0)) fun v4=>brB (some v4)
 (Q (.tuple []) G)
 (wv (az T .sub ay a2 (.int .i64 1)) fun v5=>∀ R6:List ah->ak->Prop,
 (∀ (x8 x9 x10:ah) (G7:ak),(wv (az T .geq ay x10 (.int .i64 0)) fun v11=>brB (some v11)
 (wv (lr x8) fun v12=>wv (bt T fK v12 0) fun v13=>wv (ag T G7 aR v13) fun v14=>wv (gv T G7 cm j1 x9) fun v15=>wv (az T .mul ay (.int .i64 8) x10) fun v16=>wv (az T .shr j1 v15 v16) fun v17=>wv (gv T G7 j1 cm v17) fun v18=>bu T aR 1 [(0,v18)] G7 fun v19 G20=>cn T G20 aR aR v14 v19 fun v21 G22=>wv (lr x8) fun v23=>wv (bt T fK v23 0) fun v24=>wg (aF T G22 aR v24 v21) fun G25=>wv (az T .sub ay x10 (.int .i64 1)) fun v26=>R6 [x8,x9,v26] G25)
 (Q (.tuple []) G7))->R6 [x8,x9,x10] G7) ->
 R6 [a0,a1,v5] G)
def gh.an:Ann:=.two .nil (.two .nil (.loop [0,1,6] [false,false,false] (.two .nil (.two (.ord [(0,[]),(1,[]),(2,[]),(3,[]),(4,[]),(5,[]),(6,[]),(7,[]),(8,[]),(9,[]),(10,[]),(11,[]),(12,[]),(13,[]),(14,[]),(15,[])]) .nil))))
theorem gh.sound {a0 a1 a2:ah}(h:gh.S a0 a1 a2 G Q):al P gh.n [a0,a1,a2] G Q:=by
 have e:gh.S a0 a1 a2 G Q=awp cx gh.body gh.an (bG T [] Q) (cC [a0,a1,a2]) G:=by kernel_rfl
 refine aD cF Tryz.func207 ?_ ?_ ?_ (aH ?_ ?_) (by simp[Tryz.f207]) (e.mp h)<;>kernel_rfl
def eo.S (a0 a1:ah) (G:ak) (Q:ah->ak->Prop):Prop:=
 al P gh.n [a0,a1,.int .i64 1] G fun v1 G2=>Q (.tuple []) G2
def eo.an:Ann:=.nil
theorem eo.sound {a0 a1:ah}(h:eo.S a0 a1 G Q):al P eo.n [a0,a1] G Q:=by
 have e:eo.S a0 a1 G Q=awp cx eo.body eo.an (bG T [] Q) (cC [a0,a1]) G:=by kernel_rfl
 refine aD cF Tryz.func172 ?_ ?_ ?_ (aH ?_ ?_) (by simp[Tryz.f172]) (e.mp h)<;>kernel_rfl
def fD.S (a0 a1 a2:ah) (G:ak) (Q:ah->ak->Prop):Prop:=
 wv (lr a0) fun v1=>wv (bt T fK v1 1) fun v2=>wv (ag T G bD v2) fun v3=>wv (az T .neq bD v3 (.int .i64 0)) fun v4=>brB (some v4)
 (Q (.tuple []) G)
 (wv (az T .sub ay a2 (.int .i64 1)) fun v5=>∀ R6:List ah->ak->Prop,
 (∀ (x8 x9 x10:ah) (G7:ak),(wv (az T .geq ay x10 (.int .i64 0)) fun v11=>brB (some v11)
 (wv (lr x8) fun v12=>wv (bt T fK v12 0) fun v13=>wv (ag T G7 aR v13) fun v14=>wv (az T .mul ay (.int .i64 8) x10) fun v15=>wv (az T .shr j1 x9 v15) fun v16=>wv (gv T G7 j1 cm v16) fun v17=>bu T aR 1 [(0,v17)] G7 fun v18 G19=>cn T G19 aR aR v14 v18 fun v20 G21=>wv (lr x8) fun v22=>wv (bt T fK v22 0) fun v23=>wg (aF T G21 aR v23 v20) fun G24=>wv (az T .sub ay x10 (.int .i64 1)) fun v25=>R6 [x8,x9,v25] G24)
 (Q (.tuple []) G7))->R6 [x8,x9,x10] G7) ->
 R6 [a0,a1,v5] G)
def fD.an:Ann:=.two .nil (.two .nil (.loop [0,1,6] [false,false,false] (.two .nil (.two (.ord [(0,[]),(1,[]),(2,[]),(3,[]),(4,[]),(5,[]),(6,[]),(7,[]),(8,[]),(9,[]),(10,[]),(11,[]),(12,[]),(13,[]),(14,[])]) .nil))))
theorem fD.sound {a0 a1 a2:ah}(h:fD.S a0 a1 a2 G Q):al P fD.n [a0,a1,a2] G Q:=by
 have e:fD.S a0 a1 a2 G Q=awp cx fD.body fD.an (bG T [] Q) (cC [a0,a1,a2]) G:=by kernel_rfl
 refine aD cF Tryz.func208 ?_ ?_ ?_ (aH ?_ ?_) (by simp[Tryz.f208]) (e.mp h)<;>kernel_rfl
def cB.S (a0 a1:ah) (G:ak) (Q:ah->ak->Prop):Prop:=
 wv (gv T G aq j1 a1) fun v1=>al P fD.n [a0,v1,.int .i64 8] G fun v2 G3=>Q (.tuple []) G3
def cB.an:Ann:=.nil
theorem cB.sound {a0 a1:ah}(h:cB.S a0 a1 G Q):al P cB.n [a0,a1] G Q:=by
 have e:cB.S a0 a1 G Q=awp cx cB.body cB.an (bG T [] Q) (cC [a0,a1]) G:=by kernel_rfl
 refine aD cF Tryz.func173 ?_ ?_ ?_ (aH ?_ ?_) (by simp[Tryz.f173]) (e.mp h)<;>kernel_rfl
def fF.S (a0 a1:ah) (G:ak) (Q:ah->ak->Prop):Prop:=
 wv (lr a0) fun v1=>wv (bt T fK v1 1) fun v2=>wv (ag T G bD v2) fun v3=>wv (az T .eql bD v3 (.int .i64 0)) fun v4=>brB (some v4)
 (wv (lr a0) fun v5=>wv (bt T fK v5 0) fun v6=>wv (ag T G aR v6) fun v7=>cn T G aR bH v7 a1 fun v8 G9=>wv (lr a0) fun v10=>wv (bt T fK v10 0) fun v11=>wg (aF T G9 aR v11 v8) fun G12=>Q (.tuple []) G12)
 (Q (.tuple []) G)
def fF.an:Ann:=.nil
theorem fF.sound {a0 a1:ah}(h:fF.S a0 a1 G Q):al P fF.n [a0,a1] G Q:=by
 have e:fF.S a0 a1 G Q=awp cx fF.body fF.an (bG T [] Q) (cC [a0,a1]) G:=by kernel_rfl
 refine aD cF Tryz.func209 ?_ ?_ ?_ (aH ?_ ?_) (by simp[Tryz.f209]) (e.mp h)<;>kernel_rfl
def dG.S (a0 a1:ah) (G:ak) (Q:ah->ak->Prop):Prop:=
 br G (.own a1) fun i1 G2=>wv (dV T ar (.ptr i1 [] 0) none none none) fun v3=>wv (gv T G2 aR bH v3) fun v4=>al P fF.n [a0,v4] G2 fun v5 G6=>Q (.tuple []) G6
def dG.an:Ann:=.nil
theorem dG.sound {a0 a1:ah}(h:dG.S a0 a1 G Q):al P dG.n [a0,a1] G Q:=by
 have e:dG.S a0 a1 G Q=awp cx dG.body dG.an (bG T [] Q) (cC [a0,a1]) G:=by kernel_rfl
 refine aD cF Tryz.func174 ?_ ?_ ?_ (aH ?_ ?_) (by simp[Tryz.f174]) (e.mp h)<;>kernel_rfl
def fE.S (a0 a1 a2:ah) (G:ak) (Q:ah->ak->Prop):Prop:=
 wv (lr a0) fun v1=>wv (bt T fK v1 1) fun v2=>wv (ag T G bD v2) fun v3=>wv (az T .neq bD v3 (.int .i64 0)) fun v4=>brB (some v4)
 (Q (.tuple []) G)
 (wv (az T .sub ay a2 (.int .i64 1)) fun v5=>∀ R6:List ah->ak->Prop,
 (∀ (x8 x9 x10:ah) (G7:ak),(wv (az T .geq ay x10 (.int .i64 0)) fun v11=>brB (some v11)
 (wv (lr x8) fun v12=>wv (bt T fK v12 0) fun v13=>wv (ag T G7 aR v13) fun v14=>wv (gv T G7 zH j1 x9) fun v15=>wv (az T .mul ay (.int .i64 8) x10) fun v16=>wv (az T .shr j1 v15 v16) fun v17=>wv (gv T G7 j1 cm v17) fun v18=>bu T aR 1 [(0,v18)] G7 fun v19 G20=>cn T G20 aR aR v14 v19 fun v21 G22=>wv (lr x8) fun v23=>wv (bt T fK v23 0) fun v24=>wg (aF T G22 aR v24 v21) fun G25=>wv (az T .sub ay x10 (.int .i64 1)) fun v26=>R6 [x8,x9,v26] G25)
 (Q (.tuple []) G7))->R6 [x8,x9,x10] G7) ->
 R6 [a0,a1,v5] G)
def fE.an:Ann:=.two .nil (.two .nil (.loop [0,1,6] [false,false,false] (.two .nil (.two (.ord [(0,[]),(1,[]),(2,[]),(3,[]),(4,[]),(5,[]),(6,[]),(7,[]),(8,[]),(9,[]),(10,[]),(11,[]),(12,[]),(13,[]),(14,[]),(15,[])]) .nil))))
theorem fE.sound {a0 a1 a2:ah}(h:fE.S a0 a1 a2 G Q):al P fE.n [a0,a1,a2] G Q:=by
 have e:fE.S a0 a1 a2 G Q=awp cx fE.body fE.an (bG T [] Q) (cC [a0,a1,a2]) G:=by kernel_rfl
 refine aD cF Tryz.func210 ?_ ?_ ?_ (aH ?_ ?_) (by simp[Tryz.f210]) (e.mp h)<;>kernel_rfl
def fV.S (a0 a1:ah) (G:ak) (Q:ah->ak->Prop):Prop:=
 al P fE.n [a0,a1,.int .i64 2] G fun v1 G2=>Q (.tuple []) G2
def fV.an:Ann:=.nil
theorem fV.sound {a0 a1:ah}(h:fV.S a0 a1 G Q):al P fV.n [a0,a1] G Q:=by
 have e:fV.S a0 a1 G Q=awp cx fV.body fV.an (bG T [] Q) (cC [a0,a1]) G:=by kernel_rfl
 refine aD cF Tryz.func175 ?_ ?_ ?_ (aH ?_ ?_) (by simp[Tryz.f175]) (e.mp h)<;>kernel_rfl
def fG.S (a0:ah) (G:ak) (Q:ah->ak->Prop):Prop:=
 wv (lr a0) fun v1=>wv (bt T fK v1 1) fun v2=>wv (ag T G bD v2) fun v3=>wv (az T .neq bD v3 (.int .i64 0)) fun v4=>brB (some v4)
 (wv (lr a0) fun v5=>wv (bt T fK v5 1) fun v6=>wv (ag T G bD v6) fun v7=>Q (.tuple [.str [],v7]) G)
 (wv (lr a0) fun v8=>wv (bt T fK v8 0) fun v9=>wv (ag T G aR v9) fun v10=>wv (gv T G aR bH v10) fun v11=>Q (.tuple [v11,.int .i64 0]) G)
def fG.an:Ann:=.two .nil (.two (.two .nil (.two (.two (.ord [(0,[]),(1,[]),(2,[]),(3,[]),(4,[]),(5,[])]) .nil) .nil)) .nil)
theorem fG.sound {a0:ah}(h:fG.S a0 G Q):al P fG.n [a0] G Q:=by
 have e:fG.S a0 G Q=awp cx fG.body fG.an (bG T [.tmp 2,.tmp 3] Q) (cC [a0]) G:=by kernel_rfl
 refine aD cF Tryz.func176 ?_ ?_ ?_ (aH ?_ ?_) (by simp[Tryz.f176]) (e.mp h)<;>kernel_rfl
def iN.S (a0 a1 a2 a3:ah) (G:ak) (Q:ah->ak->Prop):Prop:=
 br G (.own a2) fun i1 G2=>br G2 (.own a3) fun i3 G4=>let J71:ah->ak->Prop:=(fun x10 G9=>brB (some x10)
 (Q (.tuple [.str [],.int .i64 1]) G9)
 (wv (ag T G9 aX (.ptr i3 [] 0)) fun v11=>al P iW.n [v11] G9 fun v12 G13=>wv (vun .not v12) fun v14=>brB (some v14)
 (Q (.tuple [.str [],.int .i64 4]) G13)
 (al P jV.n [] G13 fun v15 G16=>wv (gv T G16 ay cm a0) fun v17=>al P eo.n [v15,v17] G16 fun v18 G19=>al P cB.n [v15,a1] G19 fun v20 G21=>wv (ag T G21 ar (.ptr i1 [] 0)) fun v22=>al P dG.n [v15,v22] G21 fun v23 G24=>wv (ag T G24 aq (.ptr i3 [0] 0)) fun v25=>al P cB.n [v15,v25] G24 fun v26 G27=>wv (ag T G27 aq (.ptr i3 [1] 1)) fun v28=>al P cB.n [v15,v28] G27 fun v29 G30=>wv (ag T G30 aw (.ptr i3 [2] 2)) fun v31=>wv (fU T G30 aw v31) fun v32=>wv (gv T G30 ay zH v32) fun v33=>al P fV.n [v15,v33] G30 fun v34 G35=>wv (ag T G35 aw (.ptr i3 [2] 2)) fun v36=>wv (fU T G35 aw v36) fun v37=>∀ R38:List ah->ak->Prop,
 (∀ (x40 x41 x42 x43:ah) (G39:ak),(wv (az T .lss ay x43 x42) fun v44=>brB (some v44)
 (wv (aO T aw x41 x43) fun v45=>wv (ag T G39 aT v45) fun v46=>br G39 (.own (jQ)) fun i47 G48=>wg (aF T G48 aT (.ptr i47 [] 0) v46) fun G49=>wv (ag T G49 du (.ptr i47 [0] 0)) fun v50=>let J65:ak->Prop:=(fun G55=>wv (ag T G55 aq (.ptr i47 [1] 1)) fun v56=>al P cB.n [x40,v56] G55 fun v57 G58=>wv (ag T G58 aq (.ptr i47 [2] 2)) fun v59=>al P cB.n [x40,v59] G58 fun v60 G61=>wv (ag T G61 ar (.ptr i47 [3] 3)) fun v62=>al P dG.n [x40,v62] G61 fun v63 G64=>wv (az T .add ay x43 (.int .i64 1)) fun v66=>R38 [x40,x41,x42,v66] G64);
 brB (some v50)
 (al P eo.n [x40,.int .u8 1] G49 fun v51 G52=>J65 G52)
 (al P eo.n [x40,.int .u8 0] G49 fun v53 G54=>J65 G54))
 (al P fG.n [x40] G39 fun v67 G68=>wv (aP v67 0) fun v69=>wv (aP v67 1) fun v70=>Q (.tuple [v69,v70]) G68))->R38 [x40,x41,x42,x43] G39) ->
 R38 [v15,v36,v37,.int .i64 0] G35)));
 wv (az T .lss ay a0 (.int .i64 0)) fun v5=>brB (some v5)
 (J71 (.bool true) G4)
 (wv (az T .gtr ay a0 (.int .i64 1)) fun v6=>brB (some v6)
 (J71 (.bool true) G4)
 (wv (az T .lss aq a1 (.int .i64 0)) fun v7=>brB (some v7)
 (J71 (.bool true) G4)
 (wv (az T .gtr aq a1 (.int .i64 281474976710655)) fun v8=>J71 v8 G4)))
def iN.an:Ann:=.two .nil (.two .nil (.two .nil (.two .nil (.two .nil (.two .nil (.two .nil (.two .nil (.two .nil (.two .nil (.two (.two .nil (.loop [10,56,57,58] [false,false,false,false] .nil)) .nil))))))))))
theorem iN.sound {a0 a1 a2 a3:ah}(h:iN.S a0 a1 a2 a3 G Q):al P iN.n [a0,a1,a2,a3] G Q:=by
 have e:iN.S a0 a1 a2 a3 G Q=awp cx iN.body iN.an (bG T [.tmp 8,.tmp 9] Q) (cC [a0,a1,a2,a3]) G:=by kernel_rfl
 refine aD cF Tryz.func115 ?_ ?_ ?_ (aH ?_ ?_) (by simp[Tryz.f115]) (e.mp h)<;>kernel_rfl
def jD.S (a0:ah) (G:ak) (Q:ah->ak->Prop):Prop:=
 br G (.own a0) fun i1 G2=>br G2 (.own (jJ)) fun i3 G4=>wv (ag T G4 aq (.ptr i1 [1] 1)) fun v5=>wv (ag T G4 aq (.ptr i1 [0] 0)) fun v6=>wv (bj T aX [(0,v5),(1,v6)]) fun v7=>br G4 (.own (jJ)) fun i8 G9=>wg (aF T G9 aX (.ptr i8 [] 0) v7) fun G10=>bu T om 2 [(0,.bool true),(1,.bool false)] G10 fun v11 G12=>wv (fU T G12 om v11) fun v13=>∀ R14:List ah->ak->Prop,
 (∀ (x16 x17 x18 x19 x20 x21:ah) (G15:ak),(wv (az T .lss ay x21 x20) fun v22=>brB (some v22)
 (wv (aO T om x19 x21) fun v23=>wv (ag T G15 du v23) fun v24=>wv (bt T aX x16 2) fun v25=>wv (ag T G15 aw v25) fun v26=>wv (fU T G15 aw v26) fun v27=>∀ R28:List ah->ak->Prop,
 (∀ (x30 x31 x32 x33 x34 x35 x36 x37 x38 x39:ah) (G29:ak),(wv (az T .lss ay x39 x38) fun v40=>brB (some v40)
 (wv (aO T aw x37 x39) fun v41=>wv (ag T G29 aT v41) fun v42=>br G29 (.own (jQ)) fun i43 G44=>wg (aF T G44 aT (.ptr i43 [] 0) v42) fun G45=>wv (ag T G45 du (.ptr i43 [0] 0)) fun v46=>wv (az T .neq du v46 x33) fun v47=>brB (some v47)
 (wg (aF T G45 du (.ptr i43 [0] 0) x33) fun G48=>wv (bt T aX x32 2) fun v49=>wv (ag T G48 aw v49) fun v50=>wv (ag T G48 aT (.ptr i43 [] 0)) fun v51=>bu T aw 1 [(0,v51)] G48 fun v52 G53=>cn T G53 aw aw v50 v52 fun v54 G55=>wv (bt T aX x32 2) fun v56=>wg (aF T G55 aw v56 v54) fun G57=>wv (az T .add ay x39 (.int .i64 1)) fun v61=>R28 [x30,x31,x32,x33,x34,x35,x36,x37,x38,v61] G57)
 (wv (az T .add ay x39 (.int .i64 1)) fun v62=>R28 [x30,x31,x32,x33,x34,x35,x36,x37,x38,v62] G45))
 (wv (az T .add ay x36 (.int .i64 1)) fun v63=>R14 [x30,x31,x32,x34,x35,v63] G29))->R28 [x30,x31,x32,x33,x34,x35,x36,x37,x38,x39] G29) ->
 R28 [x16,x17,x18,v24,x19,x20,x21,v26,v27,.int .i64 0] G15)
 (wv (ag T G15 aX x18) fun v64=>wg (aF T G15 aX x17 v64) fun G65=>wv (ag T G65 aX x17) fun v66=>Q v66 G65))->R14 [x16,x17,x18,x19,x20,x21] G15) ->
 R14 [.ptr i1 [] 0,.ptr i3 [] 0,.ptr i8 [] 0,v11,v13,.int .i64 0] G12
def jD.an:Ann:=.two .nil (.two .nil (.two (.two .nil (.loop [1,2,3,13,14,15] [false,false,false,false,false,false] (.two .nil (.two .nil (.two (.two .nil (.two .nil (.loop [1,2,3,5,13,14,15,20,21,22] [false,false,false,false,false,false,false,false,false,false] .nil))) .nil))))) .nil))
theorem jD.sound {a0:ah}(h:jD.S a0 G Q):al P jD.n [a0] G Q:=by
 have e:jD.S a0 G Q=awp cx jD.body jD.an (bG T [.cell 2 126] Q) (cC [a0]) G:=by kernel_rfl
 refine aD cF Tryz.func116 ?_ ?_ ?_ (aH ?_ ?_) (by simp[Tryz.f116]) (e.mp h)<;>kernel_rfl
def j5.S (a0 a1:ah) (G:ak) (Q:ah->ak->Prop):Prop:=
 br G (.own a0) fun i1 G2=>br G2 (.own (rJ)) fun i3 G4=>wv (dV T lF (.ptr i3 [] 0) none none none) fun v5=>wv (dV T ar (.ptr i1 [] 0) none none none) fun v6=>wI T G4 aR v5 v6 fun v7 G8=>∀ R9:List ah->ak->Prop,
 (∀ (x11 x12 x13:ah) (G10:ak),(wv (az T .lss ay x13 (.int .i64 64)) fun v14=>brB (some v14)
 (wv (aO T lF x12 x13) fun v15=>wv (ag T G10 cm v15) fun v16=>wv (az T .xor cm v16 x11) fun v17=>wv (aO T lF x12 x13) fun v18=>wg (aF T G10 cm v18 v17) fun G19=>wv (az T .add ay x13 (.int .i64 1)) fun v20=>R9 [x11,x12,v20] G19)
 (wv (dV T lF x12 none none none) fun v21=>wv (gv T G10 aR bH v21) fun v22=>Q v22 G10))->R9 [x11,x12,x13] G10) ->
 R9 [a1,.ptr i3 [] 0,.int .i64 0] G8
def j5.an:Ann:=.two .nil (.two .nil (.two (.ord [(0,[]),(1,[]),(2,[])]) (.two (.two .nil (.loop [1,5,10] [false,false,false] .nil)) .nil)))
theorem j5.sound {a0 a1:ah}(h:j5.S a0 a1 G Q):al P j5.n [a0,a1] G Q:=by
 have e:j5.S a0 a1 G Q=awp cx j5.body j5.an (bG T [.tmp 4] Q) (cC [a0,a1]) G:=by kernel_rfl
 refine aD cF Tryz.func211 ?_ ?_ ?_ (aH ?_ ?_) (by simp[Tryz.f211]) (e.mp h)<;>kernel_rfl
def l9.S (a0 a1:ah) (G:ak) (Q:ah->ak->Prop):Prop:=
 br G (.own a0) fun i1 G2=>br G2 (.own (dm)) fun i3 G4=>wv (ag T G4 ar (.ptr i1 [] 0)) fun v5=>al P j5.n [v5,.int .u8 54] G4 fun v6 G7=>bu T iE 2 [(0,v6),(1,a1)] G7 fun v8 G9=>al P jh.n [v8] G9 fun v10 G11=>br G11 (.own (dm)) fun i12 G13=>wg (aF T G13 ar (.ptr i12 [] 0) v10) fun G14=>wv (ag T G14 ar (.ptr i1 [] 0)) fun v15=>wv (dV T ar (.ptr i12 [] 0) none none none) fun v16=>wv (gv T G14 aR bH v16) fun v17=>al P j5.n [v15,.int .u8 92] G14 fun v18 G19=>(gv T G19 aR bH v16=some v17/\True)/\(bu T iE 2 [(0,v18),(1,v17)] G19 fun v20 G21=>al P jh.n [v20] G21 fun v22 G23=>wg (aF T G23 ar (.ptr i3 [] 0) v22) fun G24=>wv (ag T G24 ar (.ptr i3 [] 0)) fun v25=>Q v25 G24)
def l9.an:Ann:=.two .nil (.two .nil (.two (.ord [(0,[]),(2,[]),(3,[]),(1,[3]),(4,[]),(5,[]),(6,[])]) .nil))
theorem l9.sound {a0 a1:ah}(h:l9.S a0 a1 G Q):al P l9.n [a0,a1] G Q:=by
 have e:l9.S a0 a1 G Q=awp cx l9.body l9.an (bG T [.cell 4 23] Q) (cC [a0,a1]) G:=by kernel_rfl
 refine aD cF Tryz.func177 ?_ ?_ ?_ (aH ?_ ?_) (by simp[Tryz.f177]) (e.mp h)<;>kernel_rfl
def j3.S (a0 a1:ah) (G:ak) (Q:ah->ak->Prop):Prop:=
 br G (.own a0) fun i1 G2=>br G2 (.own (dm)) fun i3 G4=>wv (ag T G4 ar (.ptr i1 [] 0)) fun v5=>al P l9.n [v5,a1] G4 fun v6 G7=>wg (aF T G7 ar (.ptr i3 [] 0) v6) fun G8=>wv (ag T G8 ar (.ptr i3 [] 0)) fun v9=>Q v9 G8
def j3.an:Ann:=.nil
theorem j3.sound {a0 a1:ah}(h:j3.S a0 a1 G Q):al P j3.n [a0,a1] G Q:=by
 have e:j3.S a0 a1 G Q=awp cx j3.body j3.an (bG T [.cell 4 23] Q) (cC [a0,a1]) G:=by kernel_rfl
 refine aD cF Tryz.func117 ?_ ?_ ?_ (aH ?_ ?_) (by simp[Tryz.f117]) (e.mp h)<;>kernel_rfl
def jC.S (a0 a1:ah) (G:ak) (Q:ah->ak->Prop):Prop:=
 br G (.own a0) fun i1 G2=>br G2 (.own a1) fun i3 G4=>br G4 (.own (jF)) fun i5 G6=>wv (aO T cc (.ptr i3 [13] 16) (.int .i64 0)) fun v7=>wv (ag T G6 ar v7) fun v8=>br G6 (.own (dm)) fun i9 G10=>wg (aF T G10 ar (.ptr i9 [] 0) v8) fun G11=>wv (ag T G11 aq (.ptr i3 [7] 7)) fun v12=>wv (ag T G11 aq (.ptr i3 [8] 8)) fun v13=>wv (az T .neq aq v12 v13) fun v14=>let J49:ak->Prop:=(fun G18=>wv (ag T G18 aq (.ptr i3 [2] 2)) fun v19=>wv (ag T G18 aq (.ptr i3 [3] 3)) fun v20=>wv (ag T G18 aj (.ptr i3 [4] 4)) fun v21=>wv (ag T G18 aj (.ptr i3 [5] 5)) fun v22=>wv (ag T G18 aU (.ptr i3 [10] 11)) fun v23=>al P iM.n [v19,v20,v21,v22,v23] G18 fun v24 G25=>wv (aP v24 0) fun v26=>wv (aP v24 1) fun v27=>br G25 (.own (jJ)) fun i28 G29=>wg (aF T G29 aX (.ptr i28 [] 0) v26) fun G30=>wv (ag T G30 ay (.ptr i3 [0] 0)) fun v31=>wv (az T .sub ay (.int .i64 1) v31) fun v32=>wv (ag T G30 aq (.ptr i3 [7] 7)) fun v33=>wv (ag T G30 ar (.ptr i9 [] 0)) fun v34=>wv (ag T G30 aX (.ptr i28 [] 0)) fun v35=>al P jD.n [v35] G30 fun v36 G37=>(ag T G37 ar (.ptr i9 [] 0)=some v34/\ag T G37 aq (.ptr i3 [7] 7)=some v33/\ag T G37 ay (.ptr i3 [0] 0)=some v31/\True)/\(al P iN.n [v32,v33,v34,v36] G37 fun v38 G39=>wv (aP v38 0) fun v40=>wv (aP v38 1) fun v41=>wv (ag T G39 aq (.ptr i3 [7] 7)) fun v42=>wv (ag T G39 ar (.ptr i1 [4] 35)) fun v43=>al P j3.n [v43,v40] G39 fun v44 G45=>(ag T G45 aq (.ptr i3 [7] 7)=some v42/\True)/\(wv (bj T aW [(0,.int .i64 4),(3,v42),(5,v44)]) fun v46=>wg (aF T G45 aW (.ptr i5 [] 0) v46) fun G47=>wv (ag T G47 aW (.ptr i5 [] 0)) fun v48=>Q v48 G47)));
 brB (some v14)
 (wv (aO T cc (.ptr i3 [13] 16) (.int .i64 1)) fun v15=>wv (ag T G11 ar v15) fun v16=>wg (aF T G11 ar (.ptr i9 [] 0) v16) fun G17=>J49 G17)
 (J49 G11)
def jC.an:Ann:=.two .nil (.two .nil (.two .nil (.two .nil (.two (.ord [(0,[]),(1,[]),(2,[]),(3,[]),(4,[]),(5,[]),(6,[]),(7,[1,4,5]),(8,[]),(9,[]),(10,[]),(11,[]),(12,[]),(13,[])]) (.two (.ord [(0,[]),(1,[]),(2,[]),(3,[]),(4,[]),(5,[1]),(6,[]),(7,[])]) .nil)))))
theorem jC.sound {a0 a1:ah}(h:jC.S a0 a1 G Q):al P jC.n [a0,a1] G Q:=by
 have e:jC.S a0 a1 G Q=awp cx jC.body jC.an (bG T [.cell 4 48] Q) (cC [a0,a1]) G:=by kernel_rfl
 refine aD cF Tryz.func62 ?_ ?_ ?_ (aH ?_ ?_) (by simp[Tryz.f62]) (e.mp h)<;>kernel_rfl
def ach.S (a0 a1 a2:ah) (G:ak) (Q:ah->ak->Prop):Prop:=
 br G (.own a0) fun i1 G2=>br G2 (.own a1) fun i3 G4=>br G4 (.own a2) fun i5 G6=>wv (ag T G6 bU (.ptr i1 [] 0)) fun v7=>wv (ag T G6 aE (.ptr i3 [] 0)) fun v8=>wv (ag T G6 aW (.ptr i5 [] 0)) fun v9=>al P acu.n [v7,v8,v9] G6 fun v10 G11=>wv (az T .neq bD v10 (.int .i64 0)) fun v12=>brB (some v12)
 (Q (.tuple [.nilSlice,v10]) G11)
 (br G11 (.own (wN)) fun i13 G14=>al P acn.n [.bool true,.ptr i5 [] 0,.ptr i3 [] 0,.ptr i13 [] 0,.ptr i1 [] 0] G14 fun v15 G16=>wv (ag T G16 aq (.ptr i5 [3] 3)) fun v17=>wv (ag T G16 aq (.ptr i3 [7] 7)) fun v18=>wv (az T .eql aq v17 v18) fun v19=>let J43:ak->Prop:=(fun G34=>al P acn.n [.bool false,.ptr i5 [] 0,.ptr i3 [] 0,.ptr i13 [] 0,.ptr i1 [] 0] G34 fun v35 G36=>wv (ag T G36 ay (.ptr i3 [10,0] 11)) fun v37=>wv (ag T G36 aj (.ptr i3 [4] 4)) fun v38=>wv (fU T G36 aj v38) fun v39=>al P aco.n [v37,v39,.ptr i3 [] 0,.ptr i13 [] 0] G36 fun v40 G41=>wv (ag T G41 bR (.ptr i13 [] 0)) fun v42=>Q (.tuple [v42,.int .i64 0]) G41);
 brB (some v19)
 (wv (ag T G16 ay (.ptr i3 [11,0] 13)) fun v20=>wv (ag T G16 ay (.ptr i3 [10,0] 11)) fun v21=>al P aco.n [v20,v21,.ptr i3 [] 0,.ptr i13 [] 0] G16 fun v22 G23=>wv (ag T G23 bR (.ptr i13 [] 0)) fun v24=>wv (ag T G23 bU (.ptr i1 [] 0)) fun v25=>wv (ag T G23 aE (.ptr i3 [] 0)) fun v26=>al P jC.n [v25,v26] G23 fun v27 G28=>(ag T G28 bR (.ptr i13 [] 0)=some v24/\True)/\(bu T bR 1 [(0,v27)] G28 fun v29 G30=>cn T G30 bR bR v24 v29 fun v31 G32=>wg (aF T G32 bR (.ptr i13 [] 0) v31) fun G33=>J43 G33))
 (J43 G16))
def ach.an:Ann:=.two .nil (.two .nil (.two .nil (.two .nil (.two .nil (.two .nil (.two (.two .nil (.two (.two .nil (.ord [(0,[]),(1,[]),(2,[]),(3,[0]),(4,[]),(5,[]),(6,[])])) .nil)) .nil))))))
theorem ach.sound {a0 a1 a2:ah}(h:ach.S a0 a1 a2 G Q):al P ach.n [a0,a1,a2] G Q:=by
 have e:ach.S a0 a1 a2 G Q=awp cx ach.body ach.an (bG T [.tmp 6,.tmp 7] Q) (cC [a0,a1,a2]) G:=by kernel_rfl
 refine aD cF Tryz.func22 ?_ ?_ ?_ (aH ?_ ?_) (by simp[Tryz.f22]) (e.mp h)<;>kernel_rfl
def dB.S (a0 a1:ah) (G:ak) (Q:ah->ak->Prop):Prop:=
 br G (.own a0) fun i1 G2=>br G2 (.own (dm)) fun i3 G4=>wv (ag T G4 ar (.ptr i1 [] 0)) fun v5=>al P cI.n [v5,a1] G4 fun v6 G7=>wv (aP v6 0) fun v8=>wv (aP v6 1) fun v9=>br G7 (.own (dm)) fun i10 G11=>wg (aF T G11 ar (.ptr i10 [] 0) v8) fun G12=>wv (ag T G12 ar (.ptr i10 [] 0)) fun v13=>al P cA.n [v13] G12 fun v14 G15=>wg (aF T G15 ar (.ptr i3 [] 0) v14) fun G16=>wv (ag T G16 ar (.ptr i3 [] 0)) fun v17=>Q v17 G16
def dB.an:Ann:=.nil
theorem dB.sound {a0 a1:ah}(h:dB.S a0 a1 G Q):al P dB.n [a0,a1] G Q:=by
 have e:dB.S a0 a1 G Q=awp cx dB.body dB.an (bG T [.cell 4 23] Q) (cC [a0,a1]) G:=by kernel_rfl
 refine aD cF Tryz.func85 ?_ ?_ ?_ (aH ?_ ?_) (by simp[Tryz.f85]) (e.mp h)<;>kernel_rfl
def cQ.S (a0:ah) (G:ak) (Q:ah->ak->Prop):Prop:=
 br G (.own a0) fun i1 G2=>br G2 (.own (mP)) fun i3 G4=>br G4 (.own (mP)) fun i5 G6=>∀ R7:List ah->ak->Prop,
 (∀ (x9 x10 x11 x12:ah) (G8:ak),(wv (az T .lss ay x12 (.int .i64 2)) fun v13=>brB (some v13)
 (wv (bt T db x9 1) fun v14=>wv (ag T G8 aq v14) fun v15=>wv (az T .eql ay x12 (.int .i64 1)) fun v16=>let J52:ah->ak->Prop:=(fun x23 G22=>wv (bt T db x9 0) fun v24=>wv (ag T G22 aq v24) fun v25=>wv (bt T db x9 2) fun v26=>wv (aO T cc v26 x12) fun v27=>wv (ag T G22 ar v27) fun v28=>wv (bt T db x9 3) fun v29=>wv (aO T cc v29 x12) fun v30=>wv (ag T G22 ar v30) fun v31=>wv (az T .sub ay (.int .i64 1) x12) fun v32=>wv (bt T db x9 3) fun v33=>wv (aO T cc v33 v32) fun v34=>wv (ag T G22 ar v34) fun v35=>wv (az T .sub ay (.int .i64 1) x12) fun v36=>wv (bt T db x9 2) fun v37=>wv (aO T cc v37 v36) fun v38=>wv (ag T G22 ar v38) fun v39=>wv (az T .sub ay (.int .i64 1) x12) fun v40=>wv (bt T db x9 2) fun v41=>wv (aO T cc v41 v40) fun v42=>wv (ag T G22 ar v42) fun v43=>al P dB.n [v39,.int .i64 0] G22 fun v44 G45=>(ag T G45 ar v42=some v43/\ag T G45 ar v34=some v35/\ag T G45 ar v30=some v31/\ag T G45 ar v27=some v28/\ag T G45 aq v24=some v25/\True)/\(al P dB.n [v43,.int .i64 1] G45 fun v46 G47=>(ag T G47 ar v34=some v35/\ag T G47 ar v30=some v31/\ag T G47 ar v27=some v28/\ag T G47 aq v24=some v25/\True)/\(wv (bj T cc [(0,v44),(1,v46)]) fun v48=>wv (bj T bU [(0,x12),(1,v25),(2,x23),(3,v28),(4,v31),(5,v35),(6,v48),(7,.int .i64 4096)]) fun v49=>wv (aO T cJ x11 x12) fun v50=>wg (aF T G47 bU v50 v49) fun G51=>wv (az T .add ay x12 (.int .i64 1)) fun v53=>R7 [x9,x10,x11,v53] G51)));
 brB (some v16)
 (wv (bt T db x9 0) fun v17=>wv (ag T G8 aq v17) fun v18=>wv (bt T db x9 1) fun v19=>wv (ag T G8 aq v19) fun v20=>wv (az T .sub aq v18 v20) fun v21=>J52 v21 G8)
 (J52 v15 G8))
 (wv (ag T G8 cJ x11) fun v54=>wg (aF T G8 cJ x10 v54) fun G55=>wv (ag T G55 cJ x10) fun v56=>Q v56 G55))->R7 [x9,x10,x11,x12] G8) ->
 R7 [.ptr i1 [] 0,.ptr i3 [] 0,.ptr i5 [] 0,.int .i64 0] G6
def cQ.an:Ann:=.two .nil (.two .nil (.two (.two .nil (.loop [1,2,3,4] [false,false,false,false] (.two .nil (.two (.two .nil (.two .nil (.ord [(0,[]),(1,[]),(2,[]),(3,[]),(4,[]),(5,[]),(6,[]),(7,[]),(8,[]),(9,[]),(10,[]),(11,[]),(12,[]),(13,[]),(14,[]),(15,[]),(16,[]),(17,[]),(18,[]),(19,[]),(20,[]),(21,[]),(22,[]),(24,[]),(25,[]),(26,[]),(27,[]),(28,[]),(23,[3,8,12,17,28]),(29,[3,8,12,17]),(30,[]),(31,[]),(32,[]),(33,[])]))) .nil)))) .nil))
theorem cQ.sound {a0:ah}(h:cQ.S a0 G Q):al P cQ.n [a0] G Q:=by
 have e:cQ.S a0 G Q=awp cx cQ.body cQ.an (bG T [.cell 2 42] Q) (cC [a0]) G:=by kernel_rfl
 refine aD cF Tryz.func36 ?_ ?_ ?_ (aH ?_ ?_) (by simp[Tryz.f36]) (e.mp h)<;>kernel_rfl
def dK.S (a0:ah) (G:ak) (Q:ah->ak->Prop):Prop:=
 br G (.own a0) fun i1 G2=>br G2 (.own (hO)) fun i3 G4=>let J33:ah->ak->Prop:=(fun x19 G18=>brB (some x19)
 (wv (bj T aE []) fun v20=>wg (aF T G18 aE (.ptr i3 [] 0) v20) fun G21=>wv (ag T G21 aE (.ptr i3 [] 0)) fun v22=>Q (.tuple [v22,.int .i64 1]) G21)
 (wv (ag T G18 ay (.ptr i1 [0] 0)) fun v23=>wv (ag T G18 aq (.ptr i1 [1] 1)) fun v24=>wv (ag T G18 aq (.ptr i1 [2] 2)) fun v25=>wv (ag T G18 aq (.ptr i1 [1] 1)) fun v26=>wv (ag T G18 aq (.ptr i1 [2] 2)) fun v27=>wv (az T .sub aq v26 v27) fun v28=>wv (ag T G18 cc (.ptr i1 [6] 99)) fun v29=>wv (bj T aE [(0,v23),(1,v24),(2,v25),(3,v28),(13,v29),(17,.int .i64 (-1))]) fun v30=>wg (aF T G18 aE (.ptr i3 [] 0) v30) fun G31=>wv (ag T G31 aE (.ptr i3 [] 0)) fun v32=>Q (.tuple [v32,.int .i64 0]) G31));
 wv (ag T G4 ay (.ptr i1 [0] 0)) fun v5=>wv (az T .lss ay v5 (.int .i64 0)) fun v6=>brB (some v6)
 (J33 (.bool true) G4)
 (wv (ag T G4 ay (.ptr i1 [0] 0)) fun v7=>wv (az T .gtr ay v7 (.int .i64 1)) fun v8=>brB (some v8)
 (J33 (.bool true) G4)
 (wv (ag T G4 aq (.ptr i1 [1] 1)) fun v9=>wv (az T .lss aq v9 (.int .i64 1)) fun v10=>brB (some v10)
 (J33 (.bool true) G4)
 (wv (ag T G4 aq (.ptr i1 [1] 1)) fun v11=>wv (az T .gtr aq v11 (.int .i64 1152921504606846976)) fun v12=>brB (some v12)
 (J33 (.bool true) G4)
 (wv (ag T G4 aq (.ptr i1 [2] 2)) fun v13=>wv (az T .lss aq v13 (.int .i64 0)) fun v14=>brB (some v14)
 (J33 (.bool true) G4)
 (wv (ag T G4 aq (.ptr i1 [2] 2)) fun v15=>wv (ag T G4 aq (.ptr i1 [1] 1)) fun v16=>wv (az T .gtr aq v15 v16) fun v17=>J33 v17 G4)))))
def dK.an:Ann:=.nil
theorem dK.sound {a0:ah}(h:dK.S a0 G Q):al P dK.n [a0] G Q:=by
 have e:dK.S a0 G Q=awp cx dK.body dK.an (bG T [.cell 2 38,.tmp 3] Q) (cC [a0]) G:=by kernel_rfl
 refine aD cF Tryz.func38 ?_ ?_ ?_ (aH ?_ ?_) (by simp[Tryz.f38]) (e.mp h)<;>kernel_rfl
def acq.S (a0 a1:ah) (G:ak) (Q:ah->ak->Prop):Prop:=
 wv (fU T G bR a0) fun v1=>wv (fU T G bR a1) fun v2=>wv (az T .neq ay v1 v2) fun v3=>brB (some v3)
 (Q (.bool false) G)
 (∀ R4:List ah->ak->Prop,
 (∀ (x6 x7 x8:ah) (G5:ak),(wv (fU T G5 bR x6) fun v9=>wv (az T .lss ay x8 v9) fun v10=>brB (some v10)
 (wv (aO T bR x6 x8) fun v11=>wv (ag T G5 aW v11) fun v12=>wv (aO T bR x7 x8) fun v13=>wv (ag T G5 aW v13) fun v14=>wv (az T .neq aW v12 v14) fun v15=>brB (some v15)
 (Q (.bool false) G5)
 (wv (az T .add ay x8 (.int .i64 1)) fun v16=>R4 [x6,x7,v16] G5))
 (Q (.bool true) G5))->R4 [x6,x7,x8] G5) ->
 R4 [a0,a1,.int .i64 0] G)
def acq.an:Ann:=.two .nil (.two .nil (.two (.two .nil (.loop [0,1,5] [false,false,false] (.two .nil (.two (.two (.ord [(0,[]),(1,[]),(2,[]),(3,[]),(4,[]),(5,[]),(6,[]),(7,[]),(8,[])]) .nil) .nil)))) .nil))
theorem acq.sound {a0 a1:ah}(h:acq.S a0 a1 G Q):al P acq.n [a0,a1] G Q:=by
 have e:acq.S a0 a1 G Q=awp cx acq.body acq.an (bG T [.tmp 4] Q) (cC [a0,a1]) G:=by kernel_rfl
 refine aD cF Tryz.func42 ?_ ?_ ?_ (aH ?_ ?_) (by simp[Tryz.f42]) (e.mp h)<;>kernel_rfl
end Go.Esc.M
