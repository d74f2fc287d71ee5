import Derived.Test.YtkojimdacnohpaaGreatDoorT
set_option linter.unusedSimpArgs false
set_option linter.unusedVariables false
set_option maxRecDepth 100000
namespace Go.Esc.M
open Go Go.Esc Go.Proofs
variable {G:ak}{Q:ah->ak->Prop}
def aaw.S (a0 a1 a2:ah) (G:ak) (Q:ah->ak->Prop):Prop:=
 br G (.own a0) fun i1 G2=>br G2 (.own a1) fun i3 G4=>br G4 (.own a2) fun i5 G6=>br G6 (.own (dw)) fun i7 G8=>wv (ag T G8 ay (.ptr i5 [0] 0)) fun v9=>wv (az T .eql ay v9 (.int .i64 1)) fun v10=>brB (some v10)
 (wv (ag T G8 aE (.ptr i3 [] 0)) fun v11=>wv (ag T G8 aq (.ptr i5 [2] 2)) fun v12=>wv (ag T G8 ar (.ptr i5 [4] 4)) fun v13=>al P gM.n [v11,v12,v13] G8 fun v14 G15=>wv (aP v14 0) fun v16=>wv (aP v14 1) fun v17=>wg (aF T G15 ax (.ptr i7 [] 0) v16) fun G18=>wv (ag T G18 ax (.ptr i7 [] 0)) fun v19=>Q (.tuple [v19,v17]) G18)
 (wv (az T .eql ay v9 (.int .i64 2)) fun v20=>brB (some v20)
 (wv (ag T G8 aE (.ptr i3 [] 0)) fun v21=>wv (ag T G8 aq (.ptr i5 [3] 3)) fun v22=>wv (ag T G8 ar (.ptr i5 [4] 4)) fun v23=>al P iT.n [v21,v22,v23] G8 fun v24 G25=>wv (aP v24 0) fun v26=>wv (aP v24 1) fun v27=>wg (aF T G25 ax (.ptr i7 [] 0) v26) fun G28=>wv (ag T G28 ax (.ptr i7 [] 0)) fun v29=>Q (.tuple [v29,v27]) G28)
 (wv (az T .eql ay v9 (.int .i64 3)) fun v30=>brB (some v30)
 (wv (ag T G8 aE (.ptr i3 [] 0)) fun v31=>wv (ag T G8 aq (.ptr i5 [3] 3)) fun v32=>wv (ag T G8 bH (.ptr i5 [5] 36)) fun v33=>al P iV.n [v31,v32,v33] G8 fun v34 G35=>wv (aP v34 0) fun v36=>wv (aP v34 1) fun v37=>wg (aF T G35 ax (.ptr i7 [] 0) v36) fun G38=>wv (ag T G38 ax (.ptr i7 [] 0)) fun v39=>Q (.tuple [v39,v37]) G38)
 (wv (az T .eql ay v9 (.int .i64 4)) fun v40=>brB (some v40)
 (wv (ag T G8 bU (.ptr i1 [] 0)) fun v41=>wv (ag T G8 aE (.ptr i3 [] 0)) fun v42=>al P jz.n [v41,v42] G8 fun v43 G44=>wv (aP v43 0) fun v45=>wv (aP v43 1) fun v46=>wg (aF T G44 ax (.ptr i7 [] 0) v45) fun G47=>wv (ag T G47 ax (.ptr i7 [] 0)) fun v48=>Q (.tuple [v48,v46]) G47)
 (wv (bj T ax []) fun v49=>wg (aF T G8 ax (.ptr i7 [] 0) v49) fun G50=>wv (ag T G50 ax (.ptr i7 [] 0)) fun v51=>Q (.tuple [v51,.int .i64 1]) G50))))
def aaw.an:Ann:=.nil
theorem aaw.sound {a0 a1 a2:ah}(h:aaw.S a0 a1 a2 G Q):al P aaw.n [a0,a1,a2] G Q:=by
 have e:aaw.S a0 a1 a2 G Q=awp cx aaw.body aaw.an (bG T [.cell 6 78,.tmp 7] Q) (cC [a0,a1,a2]) G:=by kernel_rfl
 refine aD cF Tryz.func26 ?_ ?_ ?_ (aH ?_ ?_) (by simp[Tryz.f26]) (e.mp h)<;>kernel_rfl
def aau.S (a0:ah) (G:ak) (Q:ah->ak->Prop):Prop:=
 br G (.own a0) fun i1 G2=>wv (ag T G2 aU (.ptr i1 [9] 9)) fun v3=>wv (ag T G2 aU (.ptr i1 [10] 11)) fun v4=>wv (ag T G2 aU (.ptr i1 [11] 13)) fun v5=>wv (bj T aax [(0,v3),(1,v4),(2,v5)]) fun v6=>br G2 (.own (aaH)) fun i7 G8=>wg (aF T G8 aax (.ptr i7 [] 0) v6) fun G9=>∀ R10:List ah->ak->Prop,
 (∀ (x12 x13 x14:ah) (G11:ak),(wv (az T .lss ay x14 (.int .i64 3)) fun v15=>brB (some v15)
 (wv (bt T aE x12 2) fun v16=>wv (ag T G11 aq v16) fun v17=>wv (bt T aE x12 3) fun v18=>wv (ag T G11 aq v18) fun v19=>wv (ag T G11 aE x12) fun v20=>wv (ag T G11 aE x12) fun v21=>wv (aO T aax x13 x14) fun v22=>wv (ag T G11 aU v22) fun v23=>al P bP.n [v20] G11 fun v24 G25=>(ag T G25 aU v22=some v23/\ag T G25 aE x12=some v21/\ag T G25 aq v18=some v19/\ag T G25 aq v16=some v17/\True)/\(wv (uV T aE v24 4) fun v26=>al P bP.n [v21] G25 fun v27 G28=>(ag T G28 aU v22=some v23/\ag T G28 aq v18=some v19/\ag T G28 aq v16=some v17/\True)/\(wv (uV T aE v27 5) fun v29=>al P iM.n [v17,v19,v26,v29,v23] G28 fun v30 G31=>wv (aP v30 0) fun v32=>wv (aP v30 1) fun v33=>br G31 (.own (jJ)) fun i34 G35=>wg (aF T G35 aX (.ptr i34 [] 0) v32) fun G36=>wv (ag T G36 aq (.ptr i34 [0] 0)) fun v37=>wv (ag T G36 aq (.ptr i34 [1] 1)) fun v38=>wv (az T .add aq v37 v38) fun v39=>∀ R40:List ah->ak->Prop,
 (∀ (x42 x43 x44 x45 x46 x47 x48:ah) (G41:ak),(wv (bt T aX x45 2) fun v49=>wv (ag T G41 aw v49) fun v50=>wv (fU T G41 aw v50) fun v51=>wv (az T .lss ay x48 v51) fun v52=>brB (some v52)
 (wv (bt T aX x45 2) fun v53=>wv (ag T G41 aw v53) fun v54=>wv (aO T aw v54 x48) fun v55=>wv (bt T aT v55 2) fun v56=>wv (ag T G41 aq v56) fun v57=>wv (az T .add aq x47 v57) fun v58=>wv (az T .add ay x48 (.int .i64 1)) fun v59=>R40 [x42,x43,x44,x45,x46,v58,v59] G41)
 (wv (az T .neq bD x46 (.int .i64 0)) fun v60=>brB (some v60)
 (Q (.bool false) G41)
 (wv (bt T aX x45 0) fun v61=>wv (ag T G41 aq v61) fun v62=>wv (az T .lss aq v62 (.int .i64 0)) fun v63=>brB (some v63)
 (Q (.bool false) G41)
 (wv (bt T aX x45 1) fun v64=>wv (ag T G41 aq v64) fun v65=>wv (az T .lss aq v65 (.int .i64 0)) fun v66=>brB (some v66)
 (Q (.bool false) G41)
 (wv (bt T aE x42 1) fun v67=>wv (ag T G41 aq v67) fun v68=>wv (az T .neq aq x47 v68) fun v69=>brB (some v69)
 (Q (.bool false) G41)
 (wv (az T .add ay x44 (.int .i64 1)) fun v77=>R10 [x42,x43,v77] G41))))))->R40 [x42,x43,x44,x45,x46,x47,x48] G41) ->
 R40 [x12,x13,x14,.ptr i34 [] 0,v33,v39,.int .i64 0] G36)))
 (Q (.bool true) G11))->R10 [x12,x13,x14] G11) ->
 R10 [.ptr i1 [] 0,.ptr i7 [] 0,.int .i64 0] G9
def aau.an:Ann:=.two .nil (.two .nil (.two (.two .nil (.loop [1,3,4] [false,false,false] (.two .nil (.two (.two (.ord [(0,[]),(1,[]),(2,[]),(3,[]),(4,[]),(7,[]),(10,[]),(11,[]),(12,[]),(5,[1,3,7,12]),(6,[]),(8,[1,3,12]),(9,[]),(13,[]),(14,[]),(15,[]),(16,[]),(17,[]),(18,[]),(19,[])]) (.two .nil (.two (.two .nil (.loop [1,3,4,5,6,7,8] [false,false,false,false,false,false,false] .nil)) .nil))) .nil)))) .nil))
theorem aau.sound {a0:ah}(h:aau.S a0 G Q):al P aau.n [a0] G Q:=by
 have e:aau.S a0 G Q=awp cx aau.body aau.an (bG T [.tmp 2] Q) (cC [a0]) G:=by kernel_rfl
 refine aD cF Tryz.func28 ?_ ?_ ?_ (aH ?_ ?_) (by simp[Tryz.f28]) (e.mp h)<;>kernel_rfl
def bV.S (a0 a1:ah) (G:ak) (Q:ah->ak->Prop):Prop:=
 wv (fU T G aj a0) fun v1=>wv (fU T G aj a1) fun v2=>wv (az T .neq ay v1 v2) fun v3=>brB (some v3)
 (Q (.bool false) G)
 (∀ R4:List ah->ak->Prop,
 (∀ (x6 x7 x8:ah) (G5:ak),(wv (fU T G5 aj x6) fun v9=>wv (az T .lss ay x8 v9) fun v10=>brB (some v10)
 (wv (aO T aj x6 x8) fun v11=>wv (ag T G5 aG v11) fun v12=>wv (aO T aj x7 x8) fun v13=>wv (ag T G5 aG v13) fun v14=>wv (az T .neq aG v12 v14) fun v15=>brB (some v15)
 (Q (.bool false) G5)
 (wv (az T .add ay x8 (.int .i64 1)) fun v16=>R4 [x6,x7,v16] G5))
 (Q (.bool true) G5))->R4 [x6,x7,x8] G5) ->
 R4 [a0,a1,.int .i64 0] G)
def bV.an:Ann:=.two .nil (.two .nil (.two (.two .nil (.loop [0,1,5] [false,false,false] (.two .nil (.two (.two (.ord [(0,[]),(1,[]),(2,[]),(3,[]),(4,[]),(5,[]),(6,[]),(7,[]),(8,[])]) .nil) .nil)))) .nil))
theorem bV.sound {a0 a1:ah}(h:bV.S a0 a1 G Q):al P bV.n [a0,a1] G Q:=by
 have e:bV.S a0 a1 G Q=awp cx bV.body bV.an (bG T [.tmp 4] Q) (cC [a0,a1]) G:=by kernel_rfl
 refine aD cF Tryz.func45 ?_ ?_ ?_ (aH ?_ ?_) (by simp[Tryz.f45]) (e.mp h)<;>kernel_rfl
def aat.S (a0 a1:ah) (G:ak) (Q:ah->ak->Prop):Prop:=
 br G (.own a0) fun i1 G2=>br G2 (.own a1) fun i3 G4=>wv (ag T G4 aq (.ptr i1 [7] 7)) fun v5=>wv (ag T G4 aq (.ptr i1 [8] 8)) fun v6=>wv (az T .eql aq v5 v6) fun v7=>brB (some v7)
 (wv (ag T G4 aq (.ptr i1 [7] 7)) fun v8=>wv (ag T G4 aq (.ptr i3 [6] 6)) fun v9=>wv (az T .eql aq v8 v9) fun v10=>brB (some v10)
 (wv (ag T G4 ay (.ptr i1 [10,0] 11)) fun v11=>wv (ag T G4 ay (.ptr i3 [9,1] 10)) fun v12=>wv (az T .eql ay v11 v12) fun v13=>brB (some v13)
 (wv (ag T G4 ay (.ptr i1 [10,1] 12)) fun v14=>wv (ag T G4 ay (.ptr i3 [9,0] 9)) fun v15=>wv (az T .eql ay v14 v15) fun v16=>brB (some v16)
 (wv (ag T G4 aj (.ptr i1 [4] 4)) fun v17=>wv (ag T G4 aj (.ptr i3 [5] 5)) fun v18=>al P bV.n [v17,v18] G4 fun v19 G20=>brB (some v19)
 (wv (ag T G20 aq (.ptr i1 [2] 2)) fun v21=>wv (ag T G20 aq (.ptr i3 [3] 3)) fun v22=>wv (az T .eql aq v21 v22) fun v23=>Q v23 G20)
 (Q (.bool false) G20))
 (Q (.bool false) G4))
 (Q (.bool false) G4))
 (Q (.bool false) G4))
 (Q (.bool false) G4)
def aat.an:Ann:=.nil
theorem aat.sound {a0 a1:ah}(h:aat.S a0 a1 G Q):al P aat.n [a0,a1] G Q:=by
 have e:aat.S a0 a1 G Q=awp cx aat.body aat.an (bG T [.tmp 4] Q) (cC [a0,a1]) G:=by kernel_rfl
 refine aD cF Tryz.func29 ?_ ?_ ?_ (aH ?_ ?_) (by simp[Tryz.f29]) (e.mp h)<;>kernel_rfl
def aav.S (a0 a1:ah) (G:ak) (Q:ah->ak->Prop):Prop:=
 br G (.own a0) fun i1 G2=>al P fy.n [] G2 fun v3 G4=>wv (vun .not v3) fun v5=>brB (some v5)
 (Q (.bool false) G4)
 (wv (ag T G4 db (.ptr i1 [] 0)) fun v6=>al P fC.n [v6] G4 fun v7 G8=>wv (aP v7 0) fun v9=>wv (aP v7 1) fun v10=>wv (vun .not v10) fun v11=>brB (some v11)
 (Q (.bool true) G8)
 (∀ R12:List ah->ak->Prop,
 (∀ (x14 x15 x16:ah) (G13:ak),(let J105:ah->ak->Prop:=(fun x33 G32=>brB (some x33)
 (wv (lr x15) fun v34=>wv (bt T bz v34 3) fun v35=>wv (ag T G32 bR v35) fun v36=>wv (fU T G32 bR v36) fun v37=>wv (az T .gtr ay v37 (.int .i64 0)) fun v38=>wv (bj T ja [(0,.int .i64 5),(1,v38)]) fun v39=>br G32 (.own (q7)) fun i40 G41=>wg (aF T G41 ja (.ptr i40 [] 0) v39) fun G42=>wv (fU T G42 jd x14) fun v43=>wv (az T .lss ay x16 v43) fun v44=>let J103:ak->Prop:=(fun G48=>wv (ag T G48 du (.ptr i40 [1] 1)) fun v49=>let J102:ah->ak->Prop:=(fun x51 G50=>wv (ag T G50 ay (.ptr i40 [0] 0)) fun v52=>wv (az T .eql ay v52 (.int .i64 5)) fun v53=>let J101:ak->Prop:=(fun G93=>wv (lr x15) fun v94=>wv (bt T bz v94 1) fun v95=>wv (aO T gQ v95 x51) fun v96=>wv (ag T G93 aE v96) fun v97=>al P aau.n [v97] G93 fun v98 G99=>wv (vun .not v98) fun v100=>brB (some v100)
 (Q (.bool false) G99)
 (wv (az T .add ay x16 (.int .i64 1)) fun v104=>R12 [x14,x15,v104] G99));
 brB (some v53)
 (wv (bj T ja []) fun v54=>al P df.n [x15,x51,v54] G50 fun v55 G56=>wv (aP v55 0) fun v57=>wv (aP v55 1) fun v58=>br G56 (.own (jF)) fun i59 G60=>wg (aF T G60 aW (.ptr i59 [] 0) v57) fun G61=>brB (some v58)
 (wv (ag T G61 aW (.ptr i59 [] 0)) fun v62=>al P aas.n [x15,x51,v62] G61 fun v63 G64=>wv (vun .not v63) fun v65=>brB (some v65)
 (Q (.bool false) G64)
 (J101 G64))
 (J101 G61))
 (wv (lr x15) fun v68=>wv (bt T bz v68 0) fun v69=>wv (aO T cJ v69 x51) fun v70=>wv (ag T G50 bU v70) fun v71=>wv (lr x15) fun v72=>wv (bt T bz v72 1) fun v73=>wv (aO T gQ v73 x51) fun v74=>wv (ag T G50 aE v74) fun v75=>wv (ag T G50 ja (.ptr i40 [] 0)) fun v76=>al P bP.n [v75] G50 fun v77 G78=>(ag T G78 ja (.ptr i40 [] 0)=some v76/\ag T G78 bU v70=some v71/\True)/\(al P aaw.n [v71,v77,v76] G78 fun v79 G80=>wv (aP v79 0) fun v81=>wv (aP v79 1) fun v82=>br G80 (.own (dw)) fun i83 G84=>wg (aF T G84 ax (.ptr i83 [] 0) v81) fun G85=>wv (az T .eql bD v82 (.int .i64 0)) fun v86=>brB (some v86)
 (wv (ag T G85 ax (.ptr i83 [] 0)) fun v87=>al P aar.n [x15,x51,v87] G85 fun v88 G89=>wv (vun .not v88) fun v90=>brB (some v90)
 (Q (.bool false) G89)
 (J101 G89))
 (J101 G85))));
 brB (some v49)
 (J102 (.int .i64 1) G48)
 (J102 (.int .i64 0) G48));
 brB (some v44)
 (wv (aO T jd x14 x16) fun v45=>wv (ag T G42 ja v45) fun v46=>wg (aF T G42 ja (.ptr i40 [] 0) v46) fun G47=>J103 G47)
 (J103 G42))
 (wv (lr x15) fun v106=>wv (bt T bz v106 2) fun v107=>wv (ag T G32 bR v107) fun v108=>wv (fU T G32 bR v108) fun v109=>wv (lr x15) fun v110=>wv (bt T bz v110 3) fun v111=>wv (ag T G32 bR v111) fun v112=>wv (fU T G32 bR v112) fun v113=>wv (az T .add ay v109 v113) fun v114=>wv (az T .gtr ay v114 (.int .i64 0)) fun v115=>brB (some v115)
 (Q (.bool true) G32)
 (wv (lr x15) fun v116=>wv (bt T bz v116 1) fun v117=>wv (aO T gQ v117 (.int .i64 0)) fun v118=>wv (ag T G32 aE v118) fun v119=>wv (lr x15) fun v120=>wv (bt T bz v120 1) fun v121=>wv (aO T gQ v121 (.int .i64 1)) fun v122=>wv (ag T G32 aE v122) fun v123=>al P aat.n [v119,v123] G32 fun v124 G125=>brB (some v124)
 (wv (lr x15) fun v126=>wv (bt T bz v126 1) fun v127=>wv (aO T gQ v127 (.int .i64 1)) fun v128=>wv (ag T G125 aE v128) fun v129=>wv (lr x15) fun v130=>wv (bt T bz v130 1) fun v131=>wv (aO T gQ v131 (.int .i64 0)) fun v132=>wv (ag T G125 aE v132) fun v133=>al P aat.n [v129,v133] G125 fun v134 G135=>Q v134 G135)
 (Q (.bool false) G125))));
 wv (fU T G13 jd x14) fun v17=>wv (az T .add ay v17 (.int .i64 4096)) fun v18=>wv (az T .lss ay x16 v18) fun v19=>brB (some v19)
 (wv (fU T G13 jd x14) fun v20=>wv (az T .lss ay x16 v20) fun v21=>brB (some v21)
 (J105 (.bool true) G13)
 (wv (lr x15) fun v22=>wv (bt T bz v22 2) fun v23=>wv (ag T G13 bR v23) fun v24=>wv (fU T G13 bR v24) fun v25=>wv (lr x15) fun v26=>wv (bt T bz v26 3) fun v27=>wv (ag T G13 bR v27) fun v28=>wv (fU T G13 bR v28) fun v29=>wv (az T .add ay v25 v29) fun v30=>wv (az T .gtr ay v30 (.int .i64 0)) fun v31=>J105 v31 G13))
 (J105 (.bool false) G13))->R12 [x14,x15,x16] G13) ->
 R12 [a1,v9,.int .i64 0] G8))
def aav.an:Ann:=.two .nil (.two .nil (.two .nil (.two .nil (.two (.two .nil (.loop [1,5,7] [false,false,false] (.two (.two (.ord [(0,[]),(1,[]),(2,[]),(3,[]),(4,[]),(5,[]),(6,[]),(7,[]),(8,[]),(9,[]),(10,[]),(11,[]),(12,[]),(13,[]),(14,[]),(15,[]),(16,[]),(17,[]),(18,[]),(19,[]),(20,[]),(21,[]),(22,[]),(23,[]),(24,[])]) .nil) (.two (.two .nil (.two .nil (.two .nil (.two .nil (.two (.two .nil (.two .nil (.two (.ord [(0,[]),(1,[]),(2,[]),(3,[]),(4,[]),(5,[]),(6,[]),(7,[]),(8,[]),(9,[]),(10,[]),(11,[]),(13,[]),(12,[5,13]),(14,[]),(15,[]),(16,[]),(17,[]),(18,[]),(19,[]),(20,[])]) .nil))) .nil))))) .nil)))) (.two (.two (.ord [(0,[]),(1,[]),(2,[]),(3,[]),(4,[]),(5,[]),(6,[]),(7,[]),(8,[]),(9,[]),(10,[]),(11,[])]) .nil) (.two (.ord [(0,[]),(1,[]),(2,[]),(3,[]),(4,[]),(5,[]),(6,[]),(7,[]),(8,[]),(9,[]),(10,[]),(11,[]),(12,[]),(13,[]),(14,[]),(15,[]),(16,[]),(17,[]),(18,[]),(19,[]),(20,[]),(21,[]),(22,[]),(23,[]),(24,[])]) .nil))))))
theorem aav.sound {a0 a1:ah}(h:aav.S a0 a1 G Q):al P aav.n [a0,a1] G Q:=by
 have e:aav.S a0 a1 G Q=awp cx aav.body aav.an (bG T [.tmp 4] Q) (cC [a0,a1]) G:=by kernel_rfl
 refine aD cF Tryz.func6 ?_ ?_ ?_ (aH ?_ ?_) (by simp[Tryz.f6]) (e.mp h)<;>kernel_rfl
end Go.Esc.M
