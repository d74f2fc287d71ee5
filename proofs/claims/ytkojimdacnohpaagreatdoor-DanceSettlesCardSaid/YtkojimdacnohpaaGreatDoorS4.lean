import Derived.Test.YtkojimdacnohpaaGreatDoorT
set_option linter.unusedSimpArgs false
set_option linter.unusedVariables false
set_option maxRecDepth 100000
namespace Go.Esc.M
open Go Go.Esc Go.Proofs
variable {G:ak}{Q:ah->ak->Prop}
def eM.S (a0 a1 a2:ah) (G:ak) (Q:ah->ak->Prop):Prop:=
 br G (.own a0) fun i1 G2=>br G2 (.own (dm)) fun i3 G4=>let J53:ah->ak->Prop:=(fun x12 G11=>brB (some x12)
 (wv (bj T ar []) fun v13=>wg (aF T G11 ar (.ptr i3 [] 0) v13) fun G14=>wv (ag T G14 ar (.ptr i3 [] 0)) fun v15=>Q (.tuple [v15,.int .i64 90]) G14)
 (al P cZ.n [a1] G11 fun v16 G17=>br G17 (.own (oY)) fun i18 G19=>wg (aF T G19 kB (.ptr i18 [] 0) v16) fun G20=>al P cZ.n [a2] G20 fun v21 G22=>br G22 (.own (oY)) fun i23 G24=>wg (aF T G24 kB (.ptr i23 [] 0) v21) fun G25=>wv (ag T G25 kB (.ptr i18 [] 0)) fun v26=>al P en.n [v26] G25 fun v27 G28=>∀ R29:List ah->ak->Prop,
 (∀ (x31 x32 x33 x34 x35 x36:ah) (G30:ak),(wv (az T .lss ay x36 (.int .i64 48)) fun v37=>brB (some v37)
 (wv (aO T kB x33 x36) fun v38=>wv (ag T G30 ay v38) fun v39=>wv (aO T kB x34 x36) fun v40=>wv (ag T G30 ay v40) fun v41=>wv (az T .neq ay v39 v41) fun v42=>brB (some v42)
 (wv (bj T ar []) fun v43=>wg (aF T G30 ar x32 v43) fun G44=>wv (ag T G44 ar x32) fun v45=>Q (.tuple [v45,.int .i64 5]) G44)
 (wv (az T .add ay x36 (.int .i64 1)) fun v46=>R29 [x31,x32,x33,x34,x35,v46] G30))
 (wv (ag T G30 ar x31) fun v47=>wv (ag T G30 kB x34) fun v48=>al P fe.n [v47,v48,x35] G30 fun v49 G50=>wg (aF T G50 ar x32 v49) fun G51=>wv (ag T G51 ar x32) fun v52=>Q (.tuple [v52,.int .i64 0]) G51))->R29 [x31,x32,x33,x34,x35,x36] G30) ->
 R29 [.ptr i1 [] 0,.ptr i3 [] 0,.ptr i18 [] 0,.ptr i23 [] 0,v27,v27] G28));
 al P dt.n [a1] G4 fun v5 G6=>wv (vun .not v5) fun v7=>brB (some v7)
 (J53 (.bool true) G6)
 (al P dt.n [a2] G6 fun v8 G9=>wv (vun .not v8) fun v10=>J53 v10 G9)
def eM.an:Ann:=.two .nil (.two .nil (.two .nil (.two .nil (.two .nil (.two (.two .nil (.loop [3,6,8,9,10,11] [false,false,false,false,false,false] (.two .nil (.two (.two (.ord [(0,[]),(1,[]),(2,[]),(3,[]),(4,[]),(5,[]),(6,[])]) .nil) .nil)))) .nil)))))
theorem eM.sound {a0 a1 a2:ah}(h:eM.S a0 a1 a2 G Q):al P eM.n [a0,a1,a2] G Q:=by
 have e:eM.S a0 a1 a2 G Q=awp cx eM.body eM.an (bG T [.cell 6 23,.tmp 7] Q) (cC [a0,a1,a2]) G:=by kernel_rfl
 refine aD cF Tryz.func105 ?_ ?_ ?_ (aH ?_ ?_) (by simp[Tryz.f105]) (e.mp h)<;>kernel_rfl
def fu.S (a0:ah) (G:ak) (Q:ah->ak->Prop):Prop:=
 al P dt.n [a0] G fun v1 G2=>wv (vun .not v1) fun v3=>brB (some v3)
 (Q (.tuple [.int .i64 0,.int .i64 90]) G2)
 (al P cZ.n [a0] G2 fun v4 G5=>al P en.n [v4] G5 fun v6 G7=>Q (.tuple [v6,.int .i64 0]) G7)
def fu.an:Ann:=.nil
theorem fu.sound {a0:ah}(h:fu.S a0 G Q):al P fu.n [a0] G Q:=by
 have e:fu.S a0 G Q=awp cx fu.body fu.an (bG T [.tmp 2,.tmp 3] Q) (cC [a0]) G:=by kernel_rfl
 refine aD cF Tryz.func184 ?_ ?_ ?_ (aH ?_ ?_) (by simp[Tryz.f184]) (e.mp h)<;>kernel_rfl
def fN.S (a0 a1 a2:ah) (G:ak) (Q:ah->ak->Prop):Prop:=
 br G (.own a2) fun i1 G2=>al P fq.n [a0,a1] G2 fun v3 G4=>wv (az T .neq bD v3 (.int .i64 0)) fun v5=>brB (some v5)
 (Q (.tuple [.nilSlice,v3]) G4)
 (al P fu.n [a1] G4 fun v6 G7=>wv (aP v6 0) fun v8=>wv (aP v6 1) fun v9=>∀ R10:List ah->ak->Prop,
 (∀ (x12 x13 x14 x15 x16 x17:ah) (G11:ak),(wv (az T .lss ay x17 (.int .i64 49)) fun v18=>brB (some v18)
 (al P gW.n [x12,x17] G11 fun v19 G20=>br G20 (.own (pW)) fun i21 G22=>wg (aF T G22 cz (.ptr i21 [] 0) v19) fun G23=>let J65:ah->ak->Prop:=(fun x27 G26=>let J64:ak->Prop:=(fun G43=>wv (az T .eql ay x17 x15) fun v44=>brB (some v44)
 (wv (ag T G43 ar x14) fun v45=>wv (bj T cz [(0,x13),(1,v45),(2,.bool true)]) fun v46=>wg (aF T G43 cz (.ptr i21 [] 0) v46) fun G47=>wv (ag T G47 cz (.ptr i21 [] 0)) fun v54=>bu T aV 1 [(0,v54)] G47 fun v55 G56=>cn T G56 aV aV x16 v55 fun v57 G58=>wv (az T .add ay x17 (.int .i64 1)) fun v69=>R10 [x12,x13,x14,x15,v57,v69] G58)
 (wv (ag T G43 cz (.ptr i21 [] 0)) fun v59=>bu T aV 1 [(0,v59)] G43 fun v60 G61=>cn T G61 aV aV x16 v60 fun v62 G63=>wv (az T .add ay x17 (.int .i64 1)) fun v70=>R10 [x12,x13,x14,x15,v62,v70] G63));
 brB (some x27)
 (wv (ag T G26 ar x14) fun v28=>wv (ag T G26 aq (.ptr i21 [0] 0)) fun v29=>al P eM.n [v28,x13,v29] G26 fun v30 G31=>wv (aP v30 0) fun v32=>wv (aP v30 1) fun v33=>br G31 (.own (dm)) fun i34 G35=>wg (aF T G35 ar (.ptr i34 [] 0) v32) fun G36=>wv (az T .neq bD v33 (.int .i64 0)) fun v37=>brB (some v37)
 (Q (.tuple [.nilSlice,.int .i64 100]) G36)
 (wv (ag T G36 ar (.ptr i34 [] 0)) fun v38=>wv (ag T G36 ar (.ptr i21 [1] 1)) fun v39=>wv (az T .neq ar v38 v39) fun v40=>brB (some v40)
 (Q (.tuple [.nilSlice,.int .i64 100]) G36)
 (J64 G36)))
 (J64 G26));
 wv (az T .lss ay x17 x15) fun v24=>brB (some v24)
 (wv (ag T G23 du (.ptr i21 [2] 33)) fun v25=>J65 v25 G23)
 (J65 (.bool false) G23))
 (Q (.tuple [x16,.int .i64 0]) G11))->R10 [x12,x13,x14,x15,x16,x17] G11) ->
 R10 [a0,a1,.ptr i1 [] 0,v8,.nilSlice,.int .i64 0] G7)
def fN.an:Ann:=.two .nil (.two .nil (.two .nil (.two .nil (.two .nil (.two (.two .nil (.loop [0,1,5,9,11,12] [false,false,false,false,false,false] .nil)) .nil)))))
theorem fN.sound {a0 a1 a2:ah}(h:fN.S a0 a1 a2 G Q):al P fN.n [a0,a1,a2] G Q:=by
 have e:fN.S a0 a1 a2 G Q=awp cx fN.body fN.an (bG T [.tmp 6,.tmp 7] Q) (cC [a0,a1,a2]) G:=by kernel_rfl
 refine aD cF Tryz.func129 ?_ ?_ ?_ (aH ?_ ?_) (by simp[Tryz.f129]) (e.mp h)<;>kernel_rfl
def dX.S (a0 a1:ah) (G:ak) (Q:ah->ak->Prop):Prop:=
 br G (.own a0) fun i1 G2=>br G2 (.own a1) fun i3 G4=>br G4 (.own (hO)) fun i5 G6=>wv (ag T G6 aE (.ptr i1 [] 0)) fun v7=>al P fL.n [v7] G6 fun v8 G9=>br G9 (.own (hO)) fun i10 G11=>wg (aF T G11 aE (.ptr i10 [] 0) v8) fun G12=>wv (ag T G12 aj (.ptr i1 [5] 5)) fun v13=>cn T G12 aj aj (.nilSlice) v13 fun v14 G15=>wg (aF T G15 aj (.ptr i10 [5] 5) v14) fun G16=>wv (ag T G16 ay (.ptr i3 [0] 0)) fun v17=>wv (az T .eql ay v17 (.int .i64 1)) fun v18=>brB (some v18)
 (wv (ag T G16 aj (.ptr i1 [4] 4)) fun v19=>wv (ag T G16 aj (.ptr i1 [5] 5)) fun v20=>wv (ag T G16 aG (.ptr i3 [1] 1)) fun v21=>bu T aj 1 [(0,v21)] G16 fun v22 G23=>al P ee.n [v19,v20,v22] G23 fun v24 G25=>wv (aP v24 0) fun v26=>wv (aP v24 1) fun v27=>wg (aF T G25 aj (.ptr i10 [4] 4) v26) fun G28=>wv (ag T G28 aE (.ptr i10 [] 0)) fun v29=>wg (aF T G28 aE (.ptr i5 [] 0) v29) fun G30=>wv (ag T G30 aE (.ptr i5 [] 0)) fun v31=>Q (.tuple [v31,v27]) G30)
 (wv (az T .eql ay v17 (.int .i64 2)) fun v32=>brB (some v32)
 (wv (ag T G16 aq (.ptr i3 [3] 38)) fun v33=>wg (aF T G16 aq (.ptr i10 [7] 7) v33) fun G34=>wv (ag T G34 aU (.ptr i3 [4] 39)) fun v35=>wg (aF T G34 aU (.ptr i10 [10] 11) v35) fun G36=>wg (aF T G36 du (.ptr i10 [12] 15) (.bool true)) fun G37=>let J64:ah->ak->Prop:=(fun x62 G61=>wv (ag T G61 aE (.ptr i5 [] 0)) fun v63=>Q (.tuple [v63,x62]) G61);
 wv (ag T G37 aE (.ptr i10 [] 0)) fun v38=>wv (ag T G37 aq (.ptr i1 [7] 7)) fun v39=>wv (ag T G37 aq (.ptr i1 [8] 8)) fun v40=>wv (az T .eql aq v39 v40) fun v41=>brB (some v41)
 (wv (ag T G37 aq (.ptr i3 [3] 38)) fun v42=>wv (ag T G37 aq (.ptr i1 [7] 7)) fun v43=>wv (az T .add aq v43 (.int .i64 1)) fun v44=>wv (az T .eql aq v42 v44) fun v45=>brB (some v45)
 (wv (ag T G37 ay (.ptr i3 [4,1] 40)) fun v46=>wv (ag T G37 ay (.ptr i1 [9,1] 10)) fun v47=>wv (az T .eql ay v46 v47) fun v48=>brB (some v48)
 (wv (ag T G37 ay (.ptr i3 [4,0] 39)) fun v49=>wv (ag T G37 ay (.ptr i1 [10,0] 11)) fun v50=>wv (az T .geq ay v49 v50) fun v51=>brB (some v51)
 (wv (ag T G37 ay (.ptr i3 [4,0] 39)) fun v52=>wv (ag T G37 aj (.ptr i1 [4] 4)) fun v53=>wv (fU T G37 aj v53) fun v54=>wv (az T .leq ay v52 v54) fun v55=>wg (aF T G37 aE (.ptr i5 [] 0) v38) fun G56=>(ag T G56 aj (.ptr i1 [4] 4)=some v53/\ag T G56 ay (.ptr i3 [4,0] 39)=some v52/\True)/\(J64 v55 G56))
 (wg (aF T G37 aE (.ptr i5 [] 0) v38) fun G57=>(True)/\(J64 (.bool false) G57)))
 (wg (aF T G37 aE (.ptr i5 [] 0) v38) fun G58=>(True)/\(J64 (.bool false) G58)))
 (wg (aF T G37 aE (.ptr i5 [] 0) v38) fun G59=>(True)/\(J64 (.bool false) G59)))
 (wg (aF T G37 aE (.ptr i5 [] 0) v38) fun G60=>(True)/\(J64 (.bool false) G60)))
 (wv (az T .eql ay v17 (.int .i64 3)) fun v65=>brB (some v65)
 (wv (ag T G16 aj (.ptr i1 [5] 5)) fun v66=>wv (ag T G16 ay (.ptr i1 [9,1] 10)) fun v67=>wv (ag T G16 aj (.ptr i1 [4] 4)) fun v68=>wv (ag T G16 aj (.ptr i3 [2] 37)) fun v69=>al P bQ.n [v66,v67] G16 fun v70 G71=>(ag T G71 aj (.ptr i3 [2] 37)=some v69/\ag T G71 aj (.ptr i1 [4] 4)=some v68/\True)/\(al P ee.n [v70,v68,v69] G71 fun v72 G73=>wv (aP v72 0) fun v74=>wv (aP v72 1) fun v75=>wg (aF T G73 aj (.ptr i10 [5] 5) v74) fun G76=>wv (ag T G76 aq (.ptr i3 [3] 38)) fun v77=>wg (aF T G76 aq (.ptr i10 [6] 6) v77) fun G78=>wv (ag T G78 ay (.ptr i1 [11,0] 13)) fun v79=>wv (fU T G78 aj v74) fun v80=>wv (bj T aU [(0,v79),(1,v80)]) fun v81=>wg (aF T G78 aU (.ptr i10 [9] 9) v81) fun G82=>wv (ag T G82 ar (.ptr i3 [5] 41)) fun v83=>wg (aF T G82 ar (.ptr i10 [14] 80) v83) fun G84=>wg (aF T G84 du (.ptr i10 [12] 15) (.bool false)) fun G85=>wv (ag T G85 aE (.ptr i10 [] 0)) fun v86=>brB (some v75)
 (wv (ag T G85 aq (.ptr i3 [3] 38)) fun v87=>wv (ag T G85 aq (.ptr i1 [6] 6)) fun v88=>wv (az T .add aq v88 (.int .i64 1)) fun v89=>wv (az T .eql aq v87 v89) fun v90=>wg (aF T G85 aE (.ptr i5 [] 0) v86) fun G91=>(ag T G91 aq (.ptr i1 [6] 6)=some v88/\ag T G91 aq (.ptr i3 [3] 38)=some v87/\True)/\(wv (ag T G91 aE (.ptr i5 [] 0)) fun v96=>Q (.tuple [v96,v90]) G91))
 (wg (aF T G85 aE (.ptr i5 [] 0) v86) fun G92=>(True)/\(wv (ag T G92 aE (.ptr i5 [] 0)) fun v97=>Q (.tuple [v97,.bool false]) G92))))
 (wv (az T .eql ay v17 (.int .i64 4)) fun v98=>brB (some v98)
 (wv (ag T G16 aV (.ptr i1 [15] 112)) fun v99=>wv (ag T G16 aq (.ptr i3 [3] 38)) fun v100=>wv (ag T G16 ar (.ptr i3 [6] 73)) fun v101=>al P fN.n [v99,v100,v101] G16 fun v102 G103=>wv (aP v102 0) fun v104=>wv (aP v102 1) fun v105=>wg (aF T G103 aV (.ptr i10 [15] 112) v104) fun G106=>wv (ag T G106 aq (.ptr i1 [8] 8)) fun v107=>wv (az T .add aq v107 (.int .i64 1)) fun v108=>wg (aF T G106 aq (.ptr i10 [8] 8) v108) fun G109=>wv (ag T G109 aU (.ptr i1 [10] 11)) fun v110=>wg (aF T G109 aU (.ptr i10 [11] 13) v110) fun G111=>wv (aO T cc (.ptr i1 [13] 16) (.int .i64 1)) fun v112=>wv (ag T G111 ar v112) fun v113=>wv (ag T G111 ar (.ptr i3 [7] 105)) fun v114=>wv (bj T cc [(0,v113),(1,v114)]) fun v115=>wg (aF T G111 cc (.ptr i10 [13] 16) v115) fun G116=>wv (ag T G116 aE (.ptr i10 [] 0)) fun v117=>wv (az T .eql bD v105 (.int .i64 0)) fun v118=>brB (some v118)
 (wv (ag T G116 aq (.ptr i1 [7] 7)) fun v119=>wv (ag T G116 aq (.ptr i1 [8] 8)) fun v120=>wv (az T .add aq v120 (.int .i64 1)) fun v121=>wv (az T .eql aq v119 v121) fun v122=>brB (some v122)
 (wv (ag T G116 aq (.ptr i3 [3] 38)) fun v123=>wv (ag T G116 aq (.ptr i1 [8] 8)) fun v124=>wv (az T .eql aq v123 v124) fun v125=>wg (aF T G116 aE (.ptr i5 [] 0) v117) fun G126=>(ag T G126 aq (.ptr i1 [8] 8)=some v124/\ag T G126 aq (.ptr i3 [3] 38)=some v123/\True)/\(wv (ag T G126 aE (.ptr i5 [] 0)) fun v132=>Q (.tuple [v132,v125]) G126))
 (wg (aF T G116 aE (.ptr i5 [] 0) v117) fun G127=>(True)/\(wv (ag T G127 aE (.ptr i5 [] 0)) fun v133=>Q (.tuple [v133,.bool false]) G127)))
 (wg (aF T G116 aE (.ptr i5 [] 0) v117) fun G128=>(True)/\(wv (ag T G128 aE (.ptr i5 [] 0)) fun v134=>Q (.tuple [v134,.bool false]) G128)))
 (wv (ag T G16 aE (.ptr i1 [] 0)) fun v135=>wg (aF T G16 aE (.ptr i5 [] 0) v135) fun G136=>wv (ag T G136 aE (.ptr i5 [] 0)) fun v137=>Q (.tuple [v137,.bool false]) G136))))
def dX.an:Ann:=.two .nil (.two .nil (.two .nil (.two (.two .nil (.two .nil (.two .nil (.two .nil (.two (.two .nil (.two .nil (.two .nil (.two (.ord [(0,[]),(1,[]),(2,[]),(3,[]),(4,[]),(5,[]),(6,[]),(7,[]),(8,[]),(9,[]),(10,[]),(11,[]),(12,[]),(13,[]),(14,[]),(15,[]),(16,[]),(17,[]),(18,[]),(19,[]),(20,[]),(21,[]),(22,[]),(23,[]),(24,[]),(25,[]),(26,[]),(27,[]),(28,[]),(29,[]),(30,[]),(31,[]),(32,[]),(33,[]),(34,[]),(35,[]),(36,[]),(37,[]),(38,[]),(39,[]),(40,[]),(41,[35,37]),(42,[])]) .nil)))) (.two .nil (.two (.two (.ord [(0,[]),(1,[]),(2,[]),(3,[]),(4,[]),(6,[]),(7,[]),(8,[]),(9,[]),(5,[7,9]),(10,[]),(11,[]),(12,[]),(13,[]),(14,[]),(15,[])]) (.two .nil (.two .nil (.two .nil (.two .nil (.two .nil (.two (.ord [(0,[]),(1,[]),(2,[]),(3,[]),(4,[]),(5,[]),(6,[]),(7,[]),(8,[]),(9,[]),(10,[4,6]),(11,[])]) .nil))))))) (.two .nil (.two (.two .nil (.two .nil (.two .nil (.two .nil (.two .nil (.two (.ord [(0,[]),(1,[]),(2,[]),(3,[]),(4,[]),(5,[]),(6,[]),(7,[]),(8,[]),(9,[]),(10,[]),(11,[]),(12,[]),(13,[]),(14,[]),(15,[]),(16,[]),(17,[]),(18,[13,15]),(19,[])]) .nil)))))) .nil))))))))) .nil)))
theorem dX.sound {a0 a1:ah}(h:dX.S a0 a1 G Q):al P dX.n [a0,a1] G Q:=by
 have e:dX.S a0 a1 G Q=awp cx dX.body dX.an (bG T [.cell 4 38,.tmp 5] Q) (cC [a0,a1]) G:=by kernel_rfl
 refine aD cF Tryz.func70 ?_ ?_ ?_ (aH ?_ ?_) (by simp[Tryz.f70]) (e.mp h)<;>kernel_rfl
def cl.S (a0 a1 a2:ah) (G:ak) (Q:ah->ak->Prop):Prop:=
 br G (.own a2) fun i1 G2=>wv (az T .eql ay a1 (.int .i64 0)) fun v3=>brB (some v3)
 (wv (lr a0) fun v4=>wv (bt T bz v4 3) fun v5=>wv (ag T G2 bR v5) fun v6=>wv (ag T G2 aW (.ptr i1 [] 0)) fun v7=>bu T bR 1 [(0,v7)] G2 fun v8 G9=>cn T G9 bR bR v6 v8 fun v10 G11=>wv (lr a0) fun v12=>wv (bt T bz v12 3) fun v13=>wg (aF T G11 bR v13 v10) fun G14=>Q (.tuple []) G14)
 (wv (lr a0) fun v15=>wv (bt T bz v15 2) fun v16=>wv (ag T G2 bR v16) fun v17=>wv (ag T G2 aW (.ptr i1 [] 0)) fun v18=>bu T bR 1 [(0,v18)] G2 fun v19 G20=>cn T G20 bR bR v17 v19 fun v21 G22=>wv (lr a0) fun v23=>wv (bt T bz v23 2) fun v24=>wg (aF T G22 bR v24 v21) fun G25=>Q (.tuple []) G25)
def cl.an:Ann:=.two .nil (.two (.two .nil (.two (.two (.ord [(0,[]),(1,[]),(2,[]),(3,[]),(4,[]),(5,[]),(6,[]),(7,[]),(8,[]),(9,[]),(10,[])]) .nil) .nil)) (.ord [(0,[]),(1,[]),(2,[]),(3,[]),(4,[]),(5,[]),(6,[]),(7,[]),(8,[]),(9,[]),(10,[])]))
theorem cl.sound {a0 a1 a2:ah}(h:cl.S a0 a1 a2 G Q):al P cl.n [a0,a1,a2] G Q:=by
 have e:cl.S a0 a1 a2 G Q=awp cx cl.body cl.an (bG T [] Q) (cC [a0,a1,a2]) G:=by kernel_rfl
 refine aD cF Tryz.func71 ?_ ?_ ?_ (aH ?_ ?_) (by simp[Tryz.f71]) (e.mp h)<;>kernel_rfl
def ec.S (a0:ah) (G:ak) (Q:ah->ak->Prop):Prop:=
 br G (.own a0) fun i1 G2=>br G2 (.own (jF)) fun i3 G4=>wv (ag T G4 ay (.ptr i1 [0] 0)) fun v5=>wv (ag T G4 aq (.ptr i1 [1] 1)) fun v6=>wv (ag T G4 aq (.ptr i1 [2] 2)) fun v7=>wv (ag T G4 ar (.ptr i1 [3] 3)) fun v8=>wv (ag T G4 bH (.ptr i1 [4] 35)) fun v9=>wv (bj T aW [(0,v5),(1,v6),(2,v7),(5,v8),(7,v9)]) fun v10=>wg (aF T G4 aW (.ptr i3 [] 0) v10) fun G11=>wv (ag T G11 aW (.ptr i3 [] 0)) fun v12=>Q v12 G11
def ec.an:Ann:=.nil
theorem ec.sound {a0:ah}(h:ec.S a0 G Q):al P ec.n [a0] G Q:=by
 have e:ec.S a0 G Q=awp cx ec.body ec.an (bG T [.cell 2 48] Q) (cC [a0]) G:=by kernel_rfl
 refine aD cF Tryz.func72 ?_ ?_ ?_ (aH ?_ ?_) (by simp[Tryz.f72]) (e.mp h)<;>kernel_rfl
def aar.S (a0 a1 a2:ah) (G:ak) (Q:ah->ak->Prop):Prop:=
 br G (.own a2) fun i1 G2=>wv (lr a0) fun v3=>wv (bt T bz v3 1) fun v4=>wv (aO T gQ v4 a1) fun v5=>wv (ag T G2 aE v5) fun v6=>wv (ag T G2 ax (.ptr i1 [] 0)) fun v7=>al P dX.n [v6,v7] G2 fun v8 G9=>wv (aP v8 0) fun v10=>wv (aP v8 1) fun v11=>br G9 (.own (hO)) fun i12 G13=>wg (aF T G13 aE (.ptr i12 [] 0) v10) fun G14=>wv (vun .not v11) fun v15=>brB (some v15)
 (Q (.bool false) G14)
 (wv (lr a0) fun v16=>wv (bt T bz v16 1) fun v17=>wv (aO T gQ v17 a1) fun v18=>wv (bt T aE v18 6) fun v19=>wv (ag T G14 aq v19) fun v20=>wv (ag T G14 aE (.ptr i12 [] 0)) fun v21=>wv (lr a0) fun v22=>wv (bt T bz v22 1) fun v23=>wv (aO T gQ v23 a1) fun v24=>wg (aF T G14 aE v24 v21) fun G25=>wv (ag T G25 ay (.ptr i1 [0] 0)) fun v26=>wv (az T .eql ay v26 (.int .i64 1)) fun v27=>brB (some v27)
 (wv (ag T G25 aG (.ptr i1 [1] 1)) fun v28=>al P ec.n [v28] G25 fun v29 G30=>al P cl.n [a0,a1,v29] G30 fun v31 G32=>Q (.bool true) G32)
 (wv (az T .eql ay v26 (.int .i64 2)) fun v33=>brB (some v33)
 (wv (lr a0) fun v34=>wv (bt T bz v34 0) fun v35=>wv (aO T cJ v35 a1) fun v36=>wv (ag T G25 bU v36) fun v37=>wv (ag T G25 aE (.ptr i12 [] 0)) fun v38=>al P bP.n [v38] G25 fun v39 G40=>(ag T G40 bU v36=some v37/\True)/\(al P jC.n [v37,v39] G40 fun v41 G42=>al P cl.n [a0,a1,v41] G42 fun v43 G44=>Q (.bool true) G44))
 (wv (az T .eql ay v26 (.int .i64 3)) fun v45=>brB (some v45)
 (wv (lr a0) fun v46=>wv (bt T bz v46 0) fun v47=>wv (aO T cJ v47 a1) fun v48=>wv (ag T G25 bU v48) fun v49=>al P iU.n [v49,v20] G25 fun v50 G51=>al P cl.n [a0,a1,v50] G51 fun v52 G53=>Q (.bool true) G53)
 (Q (.bool true) G25))))
def aar.an:Ann:=.two .nil (.two (.ord [(0,[]),(1,[]),(2,[]),(3,[]),(4,[]),(5,[]),(6,[]),(7,[]),(8,[]),(9,[]),(10,[]),(11,[]),(12,[]),(13,[])]) (.two .nil (.two .nil (.two (.ord [(0,[]),(1,[]),(2,[]),(3,[]),(4,[]),(5,[]),(6,[])]) (.two (.two .nil (.two .nil (.two .nil (.two .nil (.two (.ord [(0,[]),(1,[]),(2,[]),(3,[]),(4,[]),(5,[]),(6,[]),(7,[]),(8,[]),(9,[7]),(10,[]),(11,[])]) .nil))))) .nil)))))
theorem aar.sound {a0 a1 a2:ah}(h:aar.S a0 a1 a2 G Q):al P aar.n [a0,a1,a2] G Q:=by
 have e:aar.S a0 a1 a2 G Q=awp cx aar.body aar.an (bG T [.tmp 6] Q) (cC [a0,a1,a2]) G:=by kernel_rfl
 refine aD cF Tryz.func27 ?_ ?_ ?_ (aH ?_ ?_) (by simp[Tryz.f27]) (e.mp h)<;>kernel_rfl
def ij.S (a0 a1 a2:ah) (G:ak) (Q:ah->ak->Prop):Prop:=
 br G (.own (dv)) fun i1 G2=>wv (fU T G2 aj a0) fun v3=>∀ R4:List ah->ak->Prop,
 (∀ (x6 x7 x8 x9 x10 x11:ah) (G5:ak),(wv (az T .lss ay x11 x10) fun v12=>brB (some v12)
 (wv (aO T aj x9 x11) fun v13=>wv (ag T G5 aG v13) fun v14=>br G5 (.own (dv)) fun i15 G16=>wg (aF T G16 aG (.ptr i15 [] 0) v14) fun G17=>let J36:ah->ak->Prop:=(fun x32 G31=>brB (some x32)
 (wv (ag T G31 aG (.ptr i15 [] 0)) fun v33=>wg (aF T G31 aG x8 v33) fun G34=>wv (ag T G34 aG x8) fun v35=>Q (.tuple [v35,.bool true]) G34)
 (wv (az T .add ay x11 (.int .i64 1)) fun v37=>R4 [x6,x7,x8,x9,x10,v37] G31));
 wv (ag T G17 aq (.ptr i15 [1] 1)) fun v18=>wv (az T .eql aq v18 x6) fun v19=>brB (some v19)
 (wv (vun .not x7) fun v20=>brB (some v20)
 (wv (ag T G17 ay (.ptr i15 [0] 0)) fun v21=>wv (az T .eql ay v21 (.int .i64 1)) fun v22=>brB (some v22)
 (J36 (.bool true) G17)
 (brB (some x7)
 (wv (ag T G17 ay (.ptr i15 [0] 0)) fun v23=>wv (az T .eql ay v23 (.int .i64 2)) fun v24=>brB (some v24)
 (J36 (.bool true) G17)
 (wv (ag T G17 ay (.ptr i15 [0] 0)) fun v25=>wv (az T .eql ay v25 (.int .i64 3)) fun v26=>J36 v26 G17))
 (J36 (.bool false) G17)))
 (brB (some x7)
 (wv (ag T G17 ay (.ptr i15 [0] 0)) fun v27=>wv (az T .eql ay v27 (.int .i64 2)) fun v28=>brB (some v28)
 (J36 (.bool true) G17)
 (wv (ag T G17 ay (.ptr i15 [0] 0)) fun v29=>wv (az T .eql ay v29 (.int .i64 3)) fun v30=>J36 v30 G17))
 (J36 (.bool false) G17)))
 (J36 (.bool false) G17))
 (wv (bj T aG []) fun v38=>wg (aF T G5 aG x8 v38) fun G39=>wv (ag T G39 aG x8) fun v40=>Q (.tuple [v40,.bool false]) G39))->R4 [x6,x7,x8,x9,x10,x11] G5) ->
 R4 [a1,a2,.ptr i1 [] 0,a0,v3,.int .i64 0] G2
def ij.an:Ann:=.two .nil (.two (.two .nil (.loop [1,2,6,10,11,12] [false,false,false,false,false,false] .nil)) .nil)
theorem ij.sound {a0 a1 a2:ah}(h:ij.S a0 a1 a2 G Q):al P ij.n [a0,a1,a2] G Q:=by
 have e:ij.S a0 a1 a2 G Q=awp cx ij.body ij.an (bG T [.cell 6 76,.tmp 7] Q) (cC [a0,a1,a2]) G:=by kernel_rfl
 refine aD cF Tryz.func183 ?_ ?_ ?_ (aH ?_ ?_) (by simp[Tryz.f183]) (e.mp h)<;>kernel_rfl
def ik.S (a0 a1:ah) (G:ak) (Q:ah->ak->Prop):Prop:=
 br G (.own (dv)) fun i1 G2=>al P ij.n [a0,a1,.bool false] G2 fun v3 G4=>wv (aP v3 0) fun v5=>wv (aP v3 1) fun v6=>wg (aF T G4 aG (.ptr i1 [] 0) v5) fun G7=>wv (ag T G7 aG (.ptr i1 [] 0)) fun v8=>Q (.tuple [v8,v6]) G7
def ik.an:Ann:=.nil
theorem ik.sound {a0 a1:ah}(h:ik.S a0 a1 G Q):al P ik.n [a0,a1] G Q:=by
 have e:ik.S a0 a1 G Q=awp cx ik.body ik.an (bG T [.cell 4 76,.tmp 5] Q) (cC [a0,a1]) G:=by kernel_rfl
 refine aD cF Tryz.func126 ?_ ?_ ?_ (aH ?_ ?_) (by simp[Tryz.f126]) (e.mp h)<;>kernel_rfl
def j6.S (a0:ah) (G:ak) (Q:ah->ak->Prop):Prop:=
 br G (.own a0) fun i1 G2=>br G2 (.own (dm)) fun i3 G4=>wv (dV T ar (.ptr i1 [] 0) none none none) fun v5=>wv (gv T G4 aR bH v5) fun v6=>bu T iE 1 [(0,v6)] G4 fun v7 G8=>al P jh.n [v7] G8 fun v9 G10=>wg (aF T G10 ar (.ptr i3 [] 0) v9) fun G11=>wv (ag T G11 ar (.ptr i3 [] 0)) fun v12=>Q v12 G11
def j6.an:Ann:=.nil
theorem j6.sound {a0:ah}(h:j6.S a0 G Q):al P j6.n [a0] G Q:=by
 have e:j6.S a0 G Q=awp cx j6.body j6.an (bG T [.cell 2 23] Q) (cC [a0]) G:=by kernel_rfl
 refine aD cF Tryz.func127 ?_ ?_ ?_ (aH ?_ ?_) (by simp[Tryz.f127]) (e.mp h)<;>kernel_rfl
def gn.S (a0 a1:ah) (G:ak) (Q:ah->ak->Prop):Prop:=
 br G (.own (dv)) fun i1 G2=>al P ij.n [a0,a1,.bool true] G2 fun v3 G4=>wv (aP v3 0) fun v5=>wv (aP v3 1) fun v6=>wg (aF T G4 aG (.ptr i1 [] 0) v5) fun G7=>wv (ag T G7 aG (.ptr i1 [] 0)) fun v8=>Q (.tuple [v8,v6]) G7
def gn.an:Ann:=.nil
theorem gn.sound {a0 a1:ah}(h:gn.S a0 a1 G Q):al P gn.n [a0,a1] G Q:=by
 have e:gn.S a0 a1 G Q=awp cx gn.body gn.an (bG T [.cell 4 76,.tmp 5] Q) (cC [a0,a1]) G:=by kernel_rfl
 refine aD cF Tryz.func145 ?_ ?_ ?_ (aH ?_ ?_) (by simp[Tryz.f145]) (e.mp h)<;>kernel_rfl
def gJ.S (a0 a1:ah) (G:ak) (Q:ah->ak->Prop):Prop:=
 br G (.own a0) fun i1 G2=>br G2 (.own a1) fun i3 G4=>br G4 (.own (dw)) fun i5 G6=>wv (ag T G6 aE (.ptr i1 [] 0)) fun v7=>al P gC.n [v7] G6 fun v8 G9=>brB (some v8)
 (wv (bj T ax []) fun v10=>wg (aF T G9 ax (.ptr i5 [] 0) v10) fun G11=>wv (ag T G11 ax (.ptr i5 [] 0)) fun v12=>Q (.tuple [v12,.int .i64 220]) G11)
 (wv (ag T G9 aj (.ptr i1 [5] 5)) fun v13=>wv (ag T G9 aE (.ptr i1 [] 0)) fun v14=>wv (ag T G9 aq (.ptr i3 [1] 1)) fun v15=>al P fQ.n [v14] G9 fun v16 G17=>(ag T G17 aq (.ptr i3 [1] 1)=some v15/\ag T G17 aj (.ptr i1 [5] 5)=some v13/\True)/\(wv (uV T aU v16 1) fun v18=>al P gK.n [v13,v18] G17 fun v19 G20=>(ag T G20 aq (.ptr i3 [1] 1)=some v15/\True)/\(al P ik.n [v19,v15] G20 fun v21 G22=>wv (aP v21 0) fun v23=>wv (aP v21 1) fun v24=>br G22 (.own (dv)) fun i25 G26=>wg (aF T G26 aG (.ptr i25 [] 0) v23) fun G27=>wv (ag T G27 aj (.ptr i1 [4] 4)) fun v28=>wv (ag T G27 aq (.ptr i3 [1] 1)) fun v29=>al P gn.n [v28,v29] G27 fun v30 G31=>wv (aP v30 0) fun v32=>wv (aP v30 1) fun v33=>br G31 (.own (dv)) fun i34 G35=>wg (aF T G35 aG (.ptr i34 [] 0) v32) fun G36=>let J67:ah->ak->Prop:=(fun x52 G51=>brB (some x52)
 (wv (bj T ax []) fun v53=>wg (aF T G51 ax (.ptr i5 [] 0) v53) fun G54=>wv (ag T G54 ax (.ptr i5 [] 0)) fun v55=>Q (.tuple [v55,.int .i64 120]) G54)
 (wv (ag T G51 aE (.ptr i1 [] 0)) fun v56=>al P jy.n [v56] G51 fun v57 G58=>brB (some v57)
 (wv (bj T ax []) fun v59=>wg (aF T G58 ax (.ptr i5 [] 0) v59) fun G60=>wv (ag T G60 ax (.ptr i5 [] 0)) fun v61=>Q (.tuple [v61,.int .i64 6]) G60)
 (wv (ag T G58 aG (.ptr i3 [] 0)) fun v62=>al P jx.n [v62] G58 fun v63 G64=>wg (aF T G64 ax (.ptr i5 [] 0) v63) fun G65=>wv (ag T G65 ax (.ptr i5 [] 0)) fun v66=>Q (.tuple [v66,.int .i64 0]) G65)));
 wv (vun .not v24) fun v37=>brB (some v37)
 (J67 (.bool true) G36)
 (brB (some v33)
 (J67 (.bool true) G36)
 (wv (ag T G36 ay (.ptr i3 [0] 0)) fun v38=>wv (az T .eql ay v38 (.int .i64 2)) fun v39=>brB (some v39)
 (wv (ag T G36 ar (.ptr i3 [3] 3)) fun v40=>wv (ag T G36 ar (.ptr i25 [3] 3)) fun v41=>al P j6.n [v40] G36 fun v42 G43=>(ag T G43 ar (.ptr i25 [3] 3)=some v41/\True)/\(wv (az T .neq ar v42 v41) fun v44=>brB (some v44)
 (J67 (.bool true) G43)
 (wv (ag T G43 bH (.ptr i3 [4] 35)) fun v45=>wv (fU T G43 bH v45) fun v46=>wv (az T .gtr ay v46 (.int .i64 64)) fun v47=>J67 v47 G43)))
 (wv (ag T G36 bH (.ptr i3 [4] 35)) fun v48=>wv (fU T G36 bH v48) fun v49=>wv (az T .gtr ay v49 (.int .i64 64)) fun v50=>J67 v50 G36))))))
def gJ.an:Ann:=.two .nil (.two .nil (.two (.ord [(0,[]),(1,[]),(2,[]),(6,[]),(7,[]),(3,[1,7]),(4,[]),(5,[7]),(8,[]),(9,[]),(10,[]),(11,[]),(12,[]),(13,[]),(14,[])]) (.two .nil (.two (.two (.ord [(0,[]),(1,[]),(2,[]),(3,[]),(4,[]),(5,[]),(6,[]),(7,[]),(8,[]),(9,[]),(10,[]),(11,[]),(13,[]),(14,[]),(12,[14]),(15,[]),(16,[]),(17,[]),(18,[]),(19,[]),(20,[]),(21,[]),(22,[]),(23,[])]) .nil) .nil))))
theorem gJ.sound {a0 a1:ah}(h:gJ.S a0 a1 G Q):al P gJ.n [a0,a1] G Q:=by
 have e:gJ.S a0 a1 G Q=awp cx gJ.body gJ.an (bG T [.cell 4 78,.tmp 5] Q) (cC [a0,a1]) G:=by kernel_rfl
 refine aD cF Tryz.func82 ?_ ?_ ?_ (aH ?_ ?_) (by simp[Tryz.f82]) (e.mp h)<;>kernel_rfl
def iT.S (a0 a1 a2:ah) (G:ak) (Q:ah->ak->Prop):Prop:=
 br G (.own a0) fun i1 G2=>br G2 (.own a2) fun i3 G4=>br G4 (.own (dw)) fun i5 G6=>wv (ag T G6 aE (.ptr i1 [] 0)) fun v7=>wv (ag T G6 ar (.ptr i3 [] 0)) fun v8=>wv (bj T aG [(0,.int .i64 2),(1,a1),(3,v8)]) fun v9=>al P gJ.n [v7,v9] G6 fun v10 G11=>wv (aP v10 0) fun v12=>wv (aP v10 1) fun v13=>wg (aF T G11 ax (.ptr i5 [] 0) v12) fun G14=>wv (ag T G14 ax (.ptr i5 [] 0)) fun v15=>Q (.tuple [v15,v13]) G14
def iT.an:Ann:=.nil
theorem iT.sound {a0 a1 a2:ah}(h:iT.S a0 a1 a2 G Q):al P iT.n [a0,a1,a2] G Q:=by
 have e:iT.S a0 a1 a2 G Q=awp cx iT.body iT.an (bG T [.cell 6 78,.tmp 7] Q) (cC [a0,a1,a2]) G:=by kernel_rfl
 refine aD cF Tryz.func32 ?_ ?_ ?_ (aH ?_ ?_) (by simp[Tryz.f32]) (e.mp h)<;>kernel_rfl
def df.S (a0 a1 a2:ah) (G:ak) (Q:ah->ak->Prop):Prop:=
 br G (.own a2) fun i1 G2=>br G2 (.own (jF)) fun i3 G4=>wv (lr a0) fun v5=>wv (bt T bz v5 2) fun v6=>wv (ag T G4 bR v6) fun v7=>wv (az T .eql ay a1 (.int .i64 1)) fun v8=>let J53:ah->ak->Prop:=(fun x13 G12=>wv (fU T G12 bR x13) fun v14=>wv (az T .eql ay v14 (.int .i64 0)) fun v15=>brB (some v15)
 (wv (bj T aW []) fun v16=>wg (aF T G12 aW (.ptr i3 [] 0) v16) fun G17=>wv (ag T G17 aW (.ptr i3 [] 0)) fun v18=>Q (.tuple [v18,.bool false]) G17)
 (wv (aO T bR x13 (.int .i64 0)) fun v19=>wv (ag T G12 aW v19) fun v20=>br G12 (.own (jF)) fun i21 G22=>wg (aF T G22 aW (.ptr i21 [] 0) v20) fun G23=>wv (az T .eql ay a1 (.int .i64 1)) fun v24=>let J52:ak->Prop:=(fun G33=>wv (ag T G33 aq (.ptr i21 [3] 3)) fun v34=>wv (ag T G33 aq (.ptr i1 [6] 37)) fun v35=>wv (az T .add aq v34 v35) fun v36=>wg (aF T G33 aq (.ptr i21 [3] 3) v36) fun G37=>wv (ag T G37 bH (.ptr i1 [5] 36)) fun v38=>wv (az T .eql bH v38 (.str [98,101,110,100])) fun v39=>brB (some v39)
 (wv (ag T G37 ar (.ptr i1 [4] 4)) fun v40=>wg (aF T G37 ar (.ptr i21 [5] 5) v40) fun G41=>wv (ag T G41 aW (.ptr i21 [] 0)) fun v46=>wg (aF T G41 aW (.ptr i3 [] 0) v46) fun G47=>wv (ag T G47 aW (.ptr i3 [] 0)) fun v48=>Q (.tuple [v48,.bool true]) G47)
 (wv (ag T G37 aW (.ptr i21 [] 0)) fun v49=>wg (aF T G37 aW (.ptr i3 [] 0) v49) fun G50=>wv (ag T G50 aW (.ptr i3 [] 0)) fun v51=>Q (.tuple [v51,.bool true]) G50));
 brB (some v24)
 (wv (dV T bR x13 (some (.int .i64 1)) none none) fun v25=>wv (lr a0) fun v26=>wv (bt T bz v26 3) fun v27=>wg (aF T G23 bR v27 v25) fun G28=>J52 G28)
 (wv (dV T bR x13 (some (.int .i64 1)) none none) fun v29=>wv (lr a0) fun v30=>wv (bt T bz v30 2) fun v31=>wg (aF T G23 bR v31 v29) fun G32=>J52 G32)));
 brB (some v8)
 (wv (lr a0) fun v9=>wv (bt T bz v9 3) fun v10=>wv (ag T G4 bR v10) fun v11=>J53 v11 G4)
 (J53 v7 G4)
def df.an:Ann:=.nil
theorem df.sound {a0 a1 a2:ah}(h:df.S a0 a1 a2 G Q):al P df.n [a0,a1,a2] G Q:=by
 have e:df.S a0 a1 a2 G Q=awp cx df.body df.an (bG T [.cell 6 48,.tmp 7] Q) (cC [a0,a1,a2]) G:=by kernel_rfl
 refine aD cF Tryz.func24 ?_ ?_ ?_ (aH ?_ ?_) (by simp[Tryz.f24]) (e.mp h)<;>kernel_rfl
def jo.S (a0:ah) (G:ak) (Q:ah->ak->Prop):Prop:=
 wv (fU T G aj a0) fun v1=>∀ R2:List ah->ak->Prop,
 (∀ (x4 x5 x6 x7:ah) (G3:ak),(wv (az T .lss ay x7 x6) fun v8=>brB (some v8)
 (wv (aO T aj x5 x7) fun v9=>wv (ag T G3 aG v9) fun v10=>br G3 (.own (dv)) fun i11 G12=>wg (aF T G12 aG (.ptr i11 [] 0) v10) fun G13=>wv (ag T G13 ay (.ptr i11 [0] 0)) fun v14=>wv (az T .eql ay v14 (.int .i64 1)) fun v15=>brB (some v15)
 (wv (az T .add aq x4 (.int .i64 1)) fun v16=>wv (az T .add ay x7 (.int .i64 1)) fun v22=>R2 [v16,x5,x6,v22] G13)
 (wv (az T .add ay x7 (.int .i64 1)) fun v23=>R2 [x4,x5,x6,v23] G13))
 (Q x4 G3))->R2 [x4,x5,x6,x7] G3) ->
 R2 [.int .i64 0,a0,v1,.int .i64 0] G
def jo.an:Ann:=.two .nil (.two .nil (.two (.two .nil (.loop [3,6,7,8] [false,false,false,false] .nil)) .nil))
theorem jo.sound {a0:ah}(h:jo.S a0 G Q):al P jo.n [a0] G Q:=by
 have e:jo.S a0 G Q=awp cx jo.body jo.an (bG T [.tmp 2] Q) (cC [a0]) G:=by kernel_rfl
 refine aD cF Tryz.func182 ?_ ?_ ?_ (aH ?_ ?_) (by simp[Tryz.f182]) (e.mp h)<;>kernel_rfl
def jq.S (a0 a1 a2:ah) (G:ak) (Q:ah->ak->Prop):Prop:=
 br G (.own a2) fun i1 G2=>wv (fU T G2 aj a0) fun v3=>wv (az T .geq ay v3 (.int .i64 2048)) fun v4=>brB (some v4)
 (Q (.int .i64 6) G2)
 (wv (ag T G2 aG (.ptr i1 [] 0)) fun v5=>al P gj.n [v5] G2 fun v6 G7=>wv (vun .not v6) fun v8=>brB (some v8)
 (Q (.int .i64 120) G7)
 (wv (ag T G7 ay (.ptr i1 [0] 0)) fun v9=>wv (az T .eql ay v9 (.int .i64 1)) fun v10=>brB (some v10)
 (wv (ag T G7 aq (.ptr i1 [1] 1)) fun v11=>al P jo.n [a0] G7 fun v12 G13=>(ag T G13 aq (.ptr i1 [1] 1)=some v11/\True)/\(wv (az T .neq aq v11 v12) fun v14=>brB (some v14)
 (Q (.int .i64 120) G13)
 (Q (.int .i64 0) G13)))
 (wv (ag T G7 aq (.ptr i1 [1] 1)) fun v15=>al P ik.n [a1,v15] G7 fun v16 G17=>wv (aP v16 0) fun v18=>wv (aP v16 1) fun v19=>br G17 (.own (dv)) fun i20 G21=>wg (aF T G21 aG (.ptr i20 [] 0) v18) fun G22=>wv (ag T G22 aq (.ptr i1 [1] 1)) fun v23=>al P gn.n [a0,v23] G22 fun v24 G25=>wv (aP v24 0) fun v26=>wv (aP v24 1) fun v27=>br G25 (.own (dv)) fun i28 G29=>wg (aF T G29 aG (.ptr i28 [] 0) v26) fun G30=>wv (vun .not v19) fun v31=>brB (some v31)
 (Q (.int .i64 120) G30)
 (brB (some v27)
 (Q (.int .i64 120) G30)
 (wv (ag T G30 ay (.ptr i1 [0] 0)) fun v32=>wv (az T .eql ay v32 (.int .i64 2)) fun v33=>brB (some v33)
 (wv (dV T ar (.ptr i1 [3] 3) none none none) fun v34=>wv (gv T G30 aR bH v34) fun v35=>wv (ag T G30 ar (.ptr i20 [3] 3)) fun v36=>bu T iE 1 [(0,v35)] G30 fun v37 G38=>al P jh.n [v37] G38 fun v39 G40=>(ag T G40 ar (.ptr i20 [3] 3)=some v36/\True)/\(wv (az T .neq ar v39 v36) fun v41=>brB (some v41)
 (Q (.int .i64 120) G40)
 (Q (.int .i64 0) G40)))
 (Q (.int .i64 0) G30))))))
def jq.an:Ann:=.two .nil (.two .nil (.two .nil (.two (.two .nil (.two (.two (.two (.ord [(0,[]),(1,[]),(2,[]),(3,[1]),(4,[])]) .nil) .nil) .nil)) (.two .nil (.two .nil (.two (.two (.ord [(0,[]),(1,[]),(2,[]),(3,[]),(4,[]),(5,[]),(6,[]),(7,[]),(8,[]),(9,[]),(10,[]),(11,[]),(12,[]),(15,[]),(16,[]),(13,[]),(14,[16]),(17,[]),(18,[]),(19,[])]) .nil) .nil))))))
theorem jq.sound {a0 a1 a2:ah}(h:jq.S a0 a1 a2 G Q):al P jq.n [a0,a1,a2] G Q:=by
 have e:jq.S a0 a1 a2 G Q=awp cx jq.body jq.an (bG T [.tmp 6] Q) (cC [a0,a1,a2]) G:=by kernel_rfl
 refine aD cF Tryz.func125 ?_ ?_ ?_ (aH ?_ ?_) (by simp[Tryz.f125]) (e.mp h)<;>kernel_rfl
def jA.S (a0 a1:ah) (G:ak) (Q:ah->ak->Prop):Prop:=
 br G (.own a0) fun i1 G2=>br G2 (.own a1) fun i3 G4=>wv (ag T G4 aE (.ptr i1 [] 0)) fun v5=>al P fQ.n [v5] G4 fun v6 G7=>br G7 (.own (iP)) fun i8 G9=>wg (aF T G9 aU (.ptr i8 [] 0) v6) fun G10=>let J78:ak->Prop:=(fun G55=>wv (ag T G55 aj (.ptr i1 [4] 4)) fun v56=>wv (ag T G55 ay (.ptr i8 [0] 0)) fun v57=>wv (ag T G55 aq (.ptr i3 [1] 1)) fun v58=>al P gK.n [v56,v57] G55 fun v59 G60=>(ag T G60 aq (.ptr i3 [1] 1)=some v58/\True)/\(al P ik.n [v59,v58] G60 fun v61 G62=>wv (aP v61 0) fun v63=>wv (aP v61 1) fun v64=>br G62 (.own (dv)) fun i65 G66=>wg (aF T G66 aG (.ptr i65 [] 0) v63) fun G67=>wv (vun .not v64) fun v68=>brB (some v68)
 (Q (.int .i64 120) G67)
 (wv (ag T G67 ay (.ptr i3 [0] 0)) fun v69=>wv (az T .eql ay v69 (.int .i64 2)) fun v70=>brB (some v70)
 (wv (ag T G67 ar (.ptr i3 [3] 3)) fun v71=>wv (ag T G67 ar (.ptr i65 [3] 3)) fun v72=>al P j6.n [v71] G67 fun v73 G74=>(ag T G74 ar (.ptr i65 [3] 3)=some v72/\True)/\(wv (az T .neq ar v73 v72) fun v75=>brB (some v75)
 (Q (.int .i64 120) G74)
 (Q (.int .i64 0) G74)))
 (Q (.int .i64 0) G67))));
 wv (ag T G10 aE (.ptr i1 [] 0)) fun v11=>al P gC.n [v11] G10 fun v12 G13=>brB (some v12)
 (Q (.int .i64 220) G13)
 (wv (ag T G13 aj (.ptr i1 [5] 5)) fun v14=>wv (fU T G13 aj v14) fun v15=>wv (ag T G13 ay (.ptr i1 [9,1] 10)) fun v16=>wv (az T .sub ay v15 v16) fun v17=>wv (az T .geq ay v17 (.int .i64 512)) fun v18=>brB (some v18)
 (Q (.int .i64 131) G13)
 (wv (ag T G13 aj (.ptr i1 [5] 5)) fun v19=>wv (ag T G13 aj (.ptr i1 [4] 4)) fun v20=>wv (ag T G13 aG (.ptr i3 [] 0)) fun v21=>al P jq.n [v19,v20,v21] G13 fun v22 G23=>wv (az T .neq bD v22 (.int .i64 0)) fun v24=>brB (some v24)
 (Q (.int .i64 120) G23)
 (let J51:ah->ak->Prop:=(fun x34 G33=>brB (some x34)
 (Q (.int .i64 131) G33)
 (wv (ag T G33 ay (.ptr i3 [0] 0)) fun v35=>wv (az T .eql ay v35 (.int .i64 1)) fun v36=>brB (some v36)
 (wv (ag T G33 aq (.ptr i3 [2] 2)) fun v37=>wv (ag T G33 aE (.ptr i1 [] 0)) fun v38=>al P cR.n [v38] G33 fun v39 G40=>(ag T G40 aq (.ptr i3 [2] 2)=some v37/\True)/\(wv (az T .gtr aq v37 v39) fun v41=>brB (some v41)
 (Q (.int .i64 130) G40)
 (wv (ag T G40 ay (.ptr i3 [0] 0)) fun v46=>wv (az T .eql ay v46 (.int .i64 1)) fun v47=>brB (some v47)
 (Q (.int .i64 0) G40)
 (J78 G40))))
 (wv (ag T G33 ay (.ptr i3 [0] 0)) fun v48=>wv (az T .eql ay v48 (.int .i64 1)) fun v49=>brB (some v49)
 (Q (.int .i64 0) G33)
 (J78 G33))));
 wv (ag T G23 ay (.ptr i3 [0] 0)) fun v25=>wv (az T .eql ay v25 (.int .i64 1)) fun v26=>brB (some v26)
 (wv (ag T G23 aj (.ptr i1 [5] 5)) fun v27=>wv (ag T G23 aj (.ptr i1 [4] 4)) fun v28=>wv (ag T G23 ay (.ptr i8 [0] 0)) fun v29=>al P iL.n [v27,v28,v29] G23 fun v30 G31=>wv (az T .geq ay v30 (.int .i64 483)) fun v32=>J51 v32 G31)
 (J51 (.bool false) G23))))
def jA.an:Ann:=.two .nil (.two .nil (.two (.two .nil (.two .nil (.two .nil (.two .nil (.two .nil (.two .nil (.two .nil (.two .nil (.two (.ord [(0,[]),(1,[]),(2,[]),(3,[]),(4,[]),(5,[]),(6,[]),(7,[5]),(8,[]),(9,[]),(10,[])]) .nil))))))))) (.two (.ord [(0,[]),(1,[]),(2,[]),(3,[]),(5,[]),(6,[]),(4,[6]),(7,[]),(8,[]),(9,[]),(10,[]),(11,[]),(12,[]),(13,[])]) (.two (.two (.ord [(0,[]),(1,[]),(2,[]),(3,[]),(4,[]),(5,[]),(6,[]),(7,[]),(8,[]),(10,[]),(11,[]),(9,[11]),(12,[]),(13,[]),(14,[])]) .nil) .nil))))
theorem jA.sound {a0 a1:ah}(h:jA.S a0 a1 G Q):al P jA.n [a0,a1] G Q:=by
 have e:jA.S a0 a1 G Q=awp cx jA.body jA.an (bG T [.tmp 4] Q) (cC [a0,a1]) G:=by kernel_rfl
 refine aD cF Tryz.func68 ?_ ?_ ?_ (aH ?_ ?_) (by simp[Tryz.f68]) (e.mp h)<;>kernel_rfl
def dd.S (a0:ah) (G:ak) (Q:ah->ak->Prop):Prop:=
 br G (.own a0) fun i1 G2=>br G2 (.own (dv)) fun i3 G4=>wv (ag T G4 ay (.ptr i1 [0] 0)) fun v5=>wv (ag T G4 aq (.ptr i1 [1] 1)) fun v6=>wv (ag T G4 aq (.ptr i1 [2] 2)) fun v7=>wv (ag T G4 ar (.ptr i1 [5] 5)) fun v8=>wv (ag T G4 bH (.ptr i1 [7] 69)) fun v9=>wv (bj T aG [(0,v5),(1,v6),(2,v7),(3,v8),(4,v9)]) fun v10=>wg (aF T G4 aG (.ptr i3 [] 0) v10) fun G11=>wv (ag T G11 aG (.ptr i3 [] 0)) fun v12=>Q v12 G11
def dd.an:Ann:=.nil
theorem dd.sound {a0:ah}(h:dd.S a0 G Q):al P dd.n [a0] G Q:=by
 have e:dd.S a0 G Q=awp cx dd.body dd.an (bG T [.cell 2 76] Q) (cC [a0]) G:=by kernel_rfl
 refine aD cF Tryz.func69 ?_ ?_ ?_ (aH ?_ ?_) (by simp[Tryz.f69]) (e.mp h)<;>kernel_rfl
def aas.S (a0 a1 a2:ah) (G:ak) (Q:ah->ak->Prop):Prop:=
 br G (.own a2) fun i1 G2=>wv (lr a0) fun v3=>wv (bt T bz v3 1) fun v4=>wv (aO T gQ v4 a1) fun v5=>wv (ag T G2 aE v5) fun v6=>br G2 (.own (hO)) fun i7 G8=>wg (aF T G8 aE (.ptr i7 [] 0) v6) fun G9=>wv (ag T G9 ay (.ptr i1 [0] 0)) fun v10=>wv (az T .eql ay v10 (.int .i64 1)) fun v11=>let J64:ah->ak->Prop:=(fun x17 G16=>brB (some x17)
 (wv (ag T G16 aE (.ptr i7 [] 0)) fun v18=>wv (ag T G16 aW (.ptr i1 [] 0)) fun v19=>al P bP.n [v18] G16 fun v20 G21=>(ag T G21 aW (.ptr i1 [] 0)=some v19/\True)/\(al P dd.n [v19] G21 fun v22 G23=>al P jA.n [v20,v22] G23 fun v24 G25=>wv (ag T G25 aj (.ptr i7 [5] 5)) fun v26=>wv (ag T G25 aW (.ptr i1 [] 0)) fun v27=>wv (lr a0) fun v28=>wv (bt T bz v28 1) fun v29=>cn T G25 aj aj (.nilSlice) v26 fun v30 G31=>(ag T G31 aW (.ptr i1 [] 0)=some v27/\True)/\(al P dd.n [v27] G31 fun v32 G33=>bu T aj 1 [(0,v32)] G33 fun v34 G35=>cn T G35 aj aj v30 v34 fun v36 G37=>wv (aO T gQ v29 a1) fun v38=>wv (bt T aE v38 5) fun v39=>wg (aF T G37 aj v39 v36) fun G40=>wv (az T .eql bD v24 (.int .i64 0)) fun v41=>Q v41 G40)))
 (wv (az T .eql ay v10 (.int .i64 4)) fun v42=>brB (some v42)
 (wv (lr a0) fun v43=>wv (bt T bz v43 0) fun v44=>wv (aO T cJ v44 a1) fun v45=>wv (ag T G16 bU v45) fun v46=>wv (ag T G16 aE (.ptr i7 [] 0)) fun v47=>wv (ag T G16 aW (.ptr i1 [] 0)) fun v48=>al P bP.n [v47] G16 fun v49 G50=>(ag T G50 aW (.ptr i1 [] 0)=some v48/\ag T G50 bU v45=some v46/\True)/\(al P jB.n [v46,v49,v48] G50 fun v51 G52=>wv (aP v51 0) fun v53=>wv (aP v51 1) fun v54=>br G52 (.own (dw)) fun i55 G56=>wg (aF T G56 ax (.ptr i55 [] 0) v53) fun G57=>wv (az T .eql bD v54 (.int .i64 0)) fun v58=>brB (some v58)
 (wv (ag T G57 ax (.ptr i55 [] 0)) fun v59=>al P aar.n [a0,a1,v59] G57 fun v60 G61=>Q v60 G61)
 (Q (.bool false) G57)))
 (wv (ag T G16 aE (.ptr i7 [] 0)) fun v65=>wv (ag T G16 aW (.ptr i1 [] 0)) fun v66=>al P bP.n [v65] G16 fun v67 G68=>(ag T G68 aW (.ptr i1 [] 0)=some v66/\True)/\(al P gL.n [v67,v66] G68 fun v69 G70=>wv (aP v69 0) fun v71=>wv (aP v69 1) fun v72=>br G70 (.own (dw)) fun i73 G74=>wg (aF T G74 ax (.ptr i73 [] 0) v71) fun G75=>wv (az T .eql bD v72 (.int .i64 0)) fun v76=>brB (some v76)
 (wv (ag T G75 ax (.ptr i73 [] 0)) fun v77=>al P aar.n [a0,a1,v77] G75 fun v78 G79=>Q v78 G79)
 (Q (.bool false) G75)))));
 brB (some v11)
 (J64 v11 G9)
 (wv (az T .eql ay v10 (.int .i64 2)) fun v12=>brB (some v12)
 (J64 v12 G9)
 (wv (az T .eql ay v10 (.int .i64 3)) fun v13=>J64 v13 G9))
def aas.an:Ann:=.two .nil (.two .nil (.two (.two .nil (.two .nil (.two (.two (.ord [(0,[]),(2,[]),(1,[2]),(3,[]),(4,[]),(5,[])]) (.two (.ord [(0,[]),(1,[]),(2,[]),(3,[]),(5,[]),(9,[]),(10,[]),(4,[5]),(6,[]),(7,[]),(8,[]),(11,[]),(12,[]),(13,[])]) .nil)) (.two .nil (.two (.two (.ord [(0,[]),(1,[]),(2,[]),(3,[]),(4,[]),(5,[]),(6,[]),(8,[]),(7,[5,8]),(9,[]),(10,[]),(11,[]),(12,[]),(13,[]),(14,[]),(15,[])]) .nil) .nil))))) (.two (.ord [(0,[]),(2,[]),(1,[2]),(3,[]),(4,[]),(5,[]),(6,[]),(7,[]),(8,[]),(9,[])]) .nil)))
theorem aas.sound {a0 a1 a2:ah}(h:aas.S a0 a1 a2 G Q):al P aas.n [a0,a1,a2] G Q:=by
 have e:aas.S a0 a1 a2 G Q=awp cx aas.body aas.an (bG T [.tmp 6] Q) (cC [a0,a1,a2]) G:=by kernel_rfl
 refine aD cF Tryz.func25 ?_ ?_ ?_ (aH ?_ ?_) (by simp[Tryz.f25]) (e.mp h)<;>kernel_rfl
end Go.Esc.M
