import Derived.Test.YtkojimdacnohpaaGreatDoorT
set_option linter.unusedSimpArgs false
set_option linter.unusedVariables false
set_option maxRecDepth 100000
namespace Go.Esc.M
open Go Go.Esc Go.Proofs
variable {G:ak}{Q:ah->ak->Prop}
def aci.S (a0 a1 a2 a3 a4:ah) (G:ak) (Q:ah->ak->Prop):Prop:=
 br G (.own a0) fun i1 G2=>br G2 (.own a4) fun i3 G4=>al P acj.n [] G4 fun v5 G6=>wv (vun .not v5) fun v7=>brB (some v7)
 (Q (.bool false) G6)
 (wv (ag T G6 db (.ptr i1 [] 0)) fun v8=>al P fC.n [v8] G6 fun v9 G10=>wv (aP v9 0) fun v11=>wv (aP v9 1) fun v12=>wv (vun .not v12) fun v13=>brB (some v13)
 (Q (.bool true) G10)
 (∀ R14:List ah->ak->Prop,
 (∀ (x16 x17 x18 x19 x20 x21:ah) (G15:ak),(wv (fU T G15 jd x16) fun v22=>wv (az T .lss ay x21 v22) fun v23=>brB (some v23)
 (wv (aO T jd x16 x21) fun v24=>wv (ag T G15 ja v24) fun v25=>al P acp.n [x20,v25] G15 fun v26 G27=>wv (az T .add ay x21 (.int .i64 1)) fun v28=>R14 [x16,x17,x18,x19,x20,v28] G27)
 (wv (lr x20) fun v29=>wv (bt T bz v29 0) fun v30=>wv (aO T cJ v30 (.int .i64 0)) fun v31=>wv (ag T G15 bU v31) fun v32=>wv (lr x20) fun v33=>wv (bt T bz v33 1) fun v34=>wv (aO T gQ v34 (.int .i64 0)) fun v35=>wv (ag T G15 aE v35) fun v36=>br G15 (.own (rK)) fun i37 G38=>br G38 (.own (hO)) fun i39 G40=>wg (aF T G40 bU (.ptr i37 [] 0) v32) fun G41=>(ag T G41 aE v35=some v36/\True)/\(wg (aF T G41 aE (.ptr i39 [] 0) v36) fun G42=>wv (ag T G42 ar (.ptr i37 [3] 3)) fun v43=>wv (az T .sub aq x17 (.int .i64 1)) fun v44=>al P cI.n [v43,v44] G42 fun v45 G46=>wv (aP v45 0) fun v47=>wv (aP v45 1) fun v48=>br G46 (.own (dm)) fun i49 G50=>wg (aF T G50 ar (.ptr i49 [] 0) v47) fun G51=>let J124:ah->ak->Prop:=(fun x55 G54=>wv (az T .lss aq x17 (.int .i64 1)) fun v56=>let J123:ah->ak->Prop:=(fun x60 G59=>wv (ag T G59 bU (.ptr i37 [] 0)) fun v61=>wv (ag T G59 aE (.ptr i39 [] 0)) fun v62=>wv (ag T G59 ar (.ptr i49 [] 0)) fun v63=>wv (bj T aW [(0,.int .i64 6),(3,x18),(4,x17),(6,v63)]) fun v64=>al P bP.n [v62] G59 fun v65 G66=>(ag T G66 ar (.ptr i49 [] 0)=some v63/\ag T G66 bU (.ptr i37 [] 0)=some v61/\True)/\(al P ach.n [v61,v65,v64] G66 fun v67 G68=>wv (aP v67 0) fun v69=>wv (aP v67 1) fun v70=>wv (ag T G68 bU (.ptr i37 [] 0)) fun v71=>wv (ag T G68 aE (.ptr i39 [] 0)) fun v72=>wv (ag T G68 ar x19) fun v73=>wv (bj T aW [(0,.int .i64 6),(3,x18),(4,x17),(6,v73)]) fun v74=>al P bP.n [v72] G68 fun v75 G76=>(ag T G76 ar x19=some v73/\ag T G76 bU (.ptr i37 [] 0)=some v71/\True)/\(al P ach.n [v71,v75,v74] G76 fun v77 G78=>wv (aP v77 0) fun v79=>wv (aP v77 1) fun v80=>let J122:ah->ak->Prop:=(fun x87 G86=>brB (some x87)
 (Q (.bool false) G86)
 (wv (vun .not x60) fun v88=>brB (some v88)
 (wv (az T .eql bD v70 (.int .i64 100)) fun v89=>Q v89 G86)
 (wv (ag T G86 aq (.ptr i39 [6] 6)) fun v90=>wv (az T .gtr aq x17 v90) fun v91=>brB (some v91)
 (wv (az T .eql bD v70 (.int .i64 180)) fun v92=>Q v92 G86)
 (let J115:ah->ak->Prop:=(fun x103 G102=>brB (some x103)
 (wv (az T .eql bD v70 (.int .i64 90)) fun v104=>Q v104 G102)
 (wv (ag T G102 aq (.ptr i39 [7] 7)) fun v105=>wv (az T .eql aq x18 v105) fun v106=>brB (some v106)
 (wv (ag T G102 aq (.ptr i39 [7] 7)) fun v107=>wv (ag T G102 aq (.ptr i39 [8] 8)) fun v108=>wv (az T .eql aq v107 v108) fun v109=>brB (some v109)
 (wv (az T .eql bD v70 (.int .i64 90)) fun v113=>Q v113 G102)
 (wv (az T .eql bD v70 (.int .i64 0)) fun v120=>Q v120 G102))
 (wv (az T .eql bD v70 (.int .i64 0)) fun v121=>Q v121 G102)));
 wv (az T .lss aq x17 (.int .i64 0)) fun v93=>brB (some v93)
 (J115 (.bool true) G86)
 (wv (ag T G86 aq (.ptr i39 [6] 6)) fun v94=>wv (az T .sub aq v94 (.int .i64 1)) fun v95=>wv (az T .lss aq x17 v95) fun v96=>brB (some v96)
 (J115 (.bool true) G86)
 (wv (ag T G86 aq (.ptr i39 [7] 7)) fun v97=>wv (az T .lss aq x18 v97) fun v98=>brB (some v98)
 (J115 (.bool true) G86)
 (wv (ag T G86 aq (.ptr i39 [7] 7)) fun v99=>wv (az T .add aq v99 (.int .i64 1)) fun v100=>wv (az T .gtr aq x18 v100) fun v101=>J115 v101 G86)))))));
 wv (ag T G78 ar x19) fun v81=>wv (ag T G78 ar (.ptr i49 [] 0)) fun v82=>wv (az T .neq ar v81 v82) fun v83=>brB (some v83)
 (wv (az T .geq aq x17 (.int .i64 0)) fun v84=>brB (some v84)
 (wv (az T .neq bD v80 (.int .i64 100)) fun v85=>J122 v85 G78)
 (J122 (.bool false) G78))
 (J122 (.bool false) G78))));
 brB (some v56)
 (wv (bj T ar []) fun v57=>wg (aF T G54 ar (.ptr i49 [] 0) v57) fun G58=>J123 (.bool true) G58)
 (J123 x55 G54));
 wv (az T .leq aq x17 (.int .i64 281474976710655)) fun v52=>brB (some v52)
 (wv (az T .eql bD v48 (.int .i64 0)) fun v53=>J124 v53 G51)
 (J124 (.bool false) G51))))->R14 [x16,x17,x18,x19,x20,x21] G15) ->
 R14 [a1,a2,a3,.ptr i3 [] 0,v11,.int .i64 0] G10))
def aci.an:Ann:=.two .nil (.two .nil (.two .nil (.two .nil (.two (.two .nil (.loop [1,2,3,9,11,13] [false,false,false,false,false,false] .nil)) (.two (.ord [(0,[]),(1,[]),(2,[]),(3,[]),(4,[]),(5,[]),(6,[]),(7,[]),(8,[]),(9,[]),(10,[]),(11,[]),(12,[9]),(13,[])]) (.two .nil (.two .nil (.two .nil (.two (.ord [(0,[]),(1,[]),(3,[]),(4,[]),(5,[]),(6,[]),(2,[0,5]),(7,[]),(8,[]),(9,[]),(10,[]),(11,[]),(12,[])]) (.two (.ord [(0,[]),(1,[]),(3,[]),(4,[]),(5,[]),(6,[]),(2,[0,5]),(7,[]),(8,[]),(9,[]),(10,[]),(11,[]),(12,[])]) .nil))))))))))
theorem aci.sound {a0 a1 a2 a3 a4:ah}(h:aci.S a0 a1 a2 a3 a4 G Q):al P aci.n [a0,a1,a2,a3,a4] G Q:=by
 have e:aci.S a0 a1 a2 a3 a4 G Q=awp cx aci.body aci.an (bG T [.tmp 10] Q) (cC [a0,a1,a2,a3,a4]) G:=by kernel_rfl
 refine aD cF Tryz.func5 ?_ ?_ ?_ (aH ?_ ?_) (by simp[Tryz.f5]) (e.mp h)<;>kernel_rfl
end Go.Esc.M
