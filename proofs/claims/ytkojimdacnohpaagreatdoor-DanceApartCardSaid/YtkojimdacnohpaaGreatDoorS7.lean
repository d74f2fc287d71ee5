import Derived.Test.YtkojimdacnohpaaGreatDoorT
set_option linter.unusedSimpArgs false
set_option linter.unusedVariables false
set_option maxRecDepth 100000
namespace Go.Esc.M
open Go Go.Esc Go.Proofs
variable {G:ak}{Q:ah->ak->Prop}
def cV.S (a0 a1 a2:ah) (G:ak) (Q:ah->ak->Prop):Prop:=
 br G (.own a2) fun i1 G2=>wv (lr a0) fun v3=>wv (bt T bz v3 1) fun v4=>wv (aO T gQ v4 a1) fun v5=>wv (ag T G2 aE v5) fun v6=>br G2 (.own (hO)) fun i7 G8=>wg (aF T G8 aE (.ptr i7 [] 0) v6) fun G9=>wv (ag T G9 ay (.ptr i1 [0] 0)) fun v10=>wv (az T .eql ay v10 (.int .i64 1)) fun v11=>let J52:ah->ak->Prop:=(fun x17 G16=>brB (some x17)
 (wv (ag T G16 aE (.ptr i7 [] 0)) fun v18=>wv (ag T G16 aW (.ptr i1 [] 0)) fun v19=>al P bP.n [v18] G16 fun v20 G21=>(ag T G21 aW (.ptr i1 [] 0)=some v19/\True)/\(al P dd.n [v19] G21 fun v22 G23=>al P jA.n [v20,v22] G23 fun v24 G25=>wv (ag T G25 aE (.ptr i7 [] 0)) fun v26=>wv (ag T G25 aW (.ptr i1 [] 0)) fun v27=>al P dd.n [v27] G25 fun v28 G29=>(ag T G29 aE (.ptr i7 [] 0)=some v26/\True)/\(al P fj.n [v26,v28] G29 fun v30 G31=>wv (az T .eql bD v30 (.int .i64 0)) fun v32=>brB (some v32)
 (wv (ag T G31 aj (.ptr i7 [5] 5)) fun v33=>wv (ag T G31 aW (.ptr i1 [] 0)) fun v34=>wv (lr a0) fun v35=>wv (bt T bz v35 1) fun v36=>cn T G31 aj aj (.nilSlice) v33 fun v37 G38=>(ag T G38 aW (.ptr i1 [] 0)=some v34/\True)/\(al P dd.n [v34] G38 fun v39 G40=>bu T aj 1 [(0,v39)] G40 fun v41 G42=>cn T G42 aj aj v37 v41 fun v43 G44=>wv (aO T gQ v36 a1) fun v45=>wv (bt T aE v45 5) fun v46=>wg (aF T G44 aj v46 v43) fun G47=>wv (az T .eql bD v24 v30) fun v50=>Q v50 G47))
 (wv (az T .eql bD v24 v30) fun v51=>Q v51 G31))))
 (wv (lr a0) fun v53=>wv (bt T bz v53 0) fun v54=>wv (aO T cJ v54 a1) fun v55=>wv (ag T G16 bU v55) fun v56=>wv (ag T G16 aE (.ptr i7 [] 0)) fun v57=>wv (ag T G16 aW (.ptr i1 [] 0)) fun v58=>al P bP.n [v57] G16 fun v59 G60=>(ag T G60 aW (.ptr i1 [] 0)=some v58/\ag T G60 bU v55=some v56/\True)/\(al P jB.n [v56,v59,v58] G60 fun v61 G62=>wv (aP v61 0) fun v63=>wv (aP v61 1) fun v64=>br G62 (.own (dw)) fun i65 G66=>wg (aF T G66 ax (.ptr i65 [] 0) v63) fun G67=>wv (lr a0) fun v68=>wv (bt T bz v68 0) fun v69=>wv (aO T cJ v69 a1) fun v70=>wv (ag T G67 bU v70) fun v71=>wv (ag T G67 aE (.ptr i7 [] 0)) fun v72=>wv (ag T G67 aW (.ptr i1 [] 0)) fun v73=>al P gb.n [v71,v72,v73] G67 fun v74 G75=>wv (aP v74 0) fun v76=>wv (aP v74 1) fun v77=>br G75 (.own (dw)) fun i78 G79=>wg (aF T G79 ax (.ptr i78 [] 0) v76) fun G80=>wv (ag T G80 aE (.ptr i7 [] 0)) fun v81=>wv (ag T G80 aW (.ptr i1 [] 0)) fun v82=>al P bP.n [v81] G80 fun v83 G84=>(ag T G84 aW (.ptr i1 [] 0)=some v82/\True)/\(al P gL.n [v83,v82] G84 fun v85 G86=>wv (aP v85 0) fun v87=>wv (aP v85 1) fun v88=>br G86 (.own (dw)) fun i89 G90=>wg (aF T G90 ax (.ptr i89 [] 0) v87) fun G91=>wv (ag T G91 aE (.ptr i7 [] 0)) fun v92=>wv (ag T G91 aW (.ptr i1 [] 0)) fun v93=>al P dW.n [v92,v93] G91 fun v94 G95=>wv (aP v94 0) fun v96=>wv (aP v94 1) fun v97=>br G95 (.own (dw)) fun i98 G99=>wg (aF T G99 ax (.ptr i98 [] 0) v96) fun G100=>let J133:ah->ak->Prop:=(fun x112 G111=>brB (some x112)
 (Q (.bool false) G111)
 (wv (az T .eql bD v77 (.int .i64 0)) fun v113=>brB (some v113)
 (wv (ag T G111 ax (.ptr i78 [] 0)) fun v114=>al P b9.n [a0,a1,v114] G111 fun v115 G116=>wv (az T .eql bD v97 (.int .i64 0)) fun v123=>brB (some v123)
 (wv (ag T G116 ax (.ptr i98 [] 0)) fun v124=>al P b9.n [a0,a1,v124] G116 fun v125 G126=>Q (.bool true) G126)
 (Q (.bool true) G116))
 (wv (az T .eql bD v97 (.int .i64 0)) fun v128=>brB (some v128)
 (wv (ag T G111 ax (.ptr i98 [] 0)) fun v129=>al P b9.n [a0,a1,v129] G111 fun v130 G131=>Q (.bool true) G131)
 (Q (.bool true) G111))));
 wv (ag T G100 ax (.ptr i65 [] 0)) fun v101=>wv (ag T G100 ax (.ptr i78 [] 0)) fun v102=>al P dP.n [v101,v64,v102,v77] G100 fun v103 G104=>wv (vun .not v103) fun v105=>brB (some v105)
 (J133 (.bool true) G104)
 (wv (ag T G104 ax (.ptr i89 [] 0)) fun v106=>wv (ag T G104 ax (.ptr i98 [] 0)) fun v107=>al P dP.n [v106,v88,v107,v97] G104 fun v108 G109=>wv (vun .not v108) fun v110=>J133 v110 G109)))));
 brB (some v11)
 (J52 v11 G9)
 (wv (az T .eql ay v10 (.int .i64 2)) fun v12=>brB (some v12)
 (J52 v12 G9)
 (wv (az T .eql ay v10 (.int .i64 3)) fun v13=>J52 v13 G9))
def cV.an:Ann:=.two .nil (.two .nil (.two (.two .nil (.two .nil (.two (.two (.ord [(0,[]),(2,[]),(1,[2]),(3,[]),(4,[]),(5,[])]) (.two (.ord [(0,[]),(1,[]),(2,[0]),(3,[]),(4,[])]) (.two (.two .nil (.two (.ord [(0,[]),(1,[]),(2,[]),(3,[]),(5,[]),(9,[]),(10,[]),(4,[5]),(6,[]),(7,[]),(8,[]),(11,[]),(12,[]),(13,[])]) .nil)) .nil))) .nil))) (.two (.ord [(0,[]),(1,[]),(2,[]),(3,[]),(4,[]),(5,[]),(6,[]),(8,[]),(7,[5,8]),(9,[]),(10,[]),(11,[]),(12,[]),(13,[]),(14,[]),(15,[])]) (.two (.ord [(0,[]),(1,[]),(2,[]),(3,[]),(4,[]),(5,[]),(6,[]),(7,[]),(8,[]),(9,[]),(10,[]),(11,[]),(12,[]),(13,[]),(14,[])]) (.two (.ord [(0,[]),(2,[]),(1,[2]),(3,[]),(4,[]),(5,[]),(6,[]),(7,[]),(8,[]),(9,[])]) .nil)))))
theorem cV.sound {a0 a1 a2:ah}(h:cV.S a0 a1 a2 G Q):al P cV.n [a0,a1,a2] G Q:=by
 have e:cV.S a0 a1 a2 G Q=awp cx cV.body cV.an (bG T [.tmp 6] Q) (cC [a0,a1,a2]) G:=by kernel_rfl
 refine aD cF Tryz.func91 ?_ ?_ ?_ (aH ?_ ?_) (by simp[Tryz.f91]) (e.mp h)<;>kernel_rfl
def de.S (a0 a1:ah) (G:ak) (Q:ah->ak->Prop):Prop:=
 br G (.own a1) fun i1 G2=>wv (ag T G2 du (.ptr i1 [1] 1)) fun v3=>let J150:ah->ak->Prop:=(fun x5 G4=>wv (lr a0) fun v6=>wv (bt T bz v6 1) fun v7=>wv (aO T gQ v7 x5) fun v8=>wv (ag T G4 aE v8) fun v9=>br G4 (.own (hO)) fun i10 G11=>wg (aF T G11 aE (.ptr i10 [] 0) v9) fun G12=>wv (lr a0) fun v13=>wv (bt T bz v13 0) fun v14=>wv (aO T cJ v14 x5) fun v15=>wv (ag T G12 bU v15) fun v16=>wv (ag T G12 aE (.ptr i10 [] 0)) fun v17=>al P dA.n [v16,v17] G12 fun v18 G19=>wv (vun .not v18) fun v20=>brB (some v20)
 (Q (.bool false) G19)
 (br G19 (.own (dw)) fun i21 G22=>br G22 (.own (dw)) fun i23 G24=>wv (ag T G24 ay (.ptr i1 [0] 0)) fun v25=>let J149:ah->ah->ak->Prop:=(fun x137 x138 G136=>wv (ag T G136 ax (.ptr i21 [] 0)) fun v139=>wv (ag T G136 ax (.ptr i23 [] 0)) fun v140=>al P dP.n [v139,x137,v140,x138] G136 fun v141 G142=>wv (vun .not v141) fun v143=>brB (some v143)
 (Q (.bool false) G142)
 (wv (az T .eql bD x138 (.int .i64 0)) fun v144=>brB (some v144)
 (wv (ag T G142 ax (.ptr i23 [] 0)) fun v145=>al P b9.n [a0,x5,v145] G142 fun v146 G147=>Q (.bool true) G147)
 (Q (.bool true) G142)));
 wv (az T .eql ay v25 (.int .i64 1)) fun v26=>brB (some v26)
 (wv (ag T G24 aE (.ptr i10 [] 0)) fun v27=>wv (ag T G24 aq (.ptr i1 [2] 2)) fun v28=>wv (ag T G24 ar (.ptr i1 [4] 4)) fun v29=>al P bP.n [v27] G24 fun v30 G31=>(ag T G31 ar (.ptr i1 [4] 4)=some v29/\ag T G31 aq (.ptr i1 [2] 2)=some v28/\True)/\(al P gM.n [v30,v28,v29] G31 fun v32 G33=>wv (aP v32 0) fun v34=>wv (aP v32 1) fun v35=>wg (aF T G33 ax (.ptr i21 [] 0) v34) fun G36=>wv (ag T G36 aE (.ptr i10 [] 0)) fun v37=>wv (ag T G36 aq (.ptr i1 [2] 2)) fun v38=>wv (ag T G36 ar (.ptr i1 [4] 4)) fun v39=>al P fh.n [v37,v38,v39] G36 fun v40 G41=>wv (aP v40 0) fun v42=>wv (aP v40 1) fun v43=>wg (aF T G41 ax (.ptr i23 [] 0) v42) fun G44=>J149 v35 v43 G44))
 (wv (az T .eql ay v25 (.int .i64 2)) fun v45=>brB (some v45)
 (wv (ag T G24 aE (.ptr i10 [] 0)) fun v46=>wv (ag T G24 aq (.ptr i1 [3] 3)) fun v47=>wv (ag T G24 ar (.ptr i1 [4] 4)) fun v48=>al P bP.n [v46] G24 fun v49 G50=>(ag T G50 ar (.ptr i1 [4] 4)=some v48/\ag T G50 aq (.ptr i1 [3] 3)=some v47/\True)/\(al P iT.n [v49,v47,v48] G50 fun v51 G52=>wv (aP v51 0) fun v53=>wv (aP v51 1) fun v54=>wg (aF T G52 ax (.ptr i21 [] 0) v53) fun G55=>wv (ag T G55 aE (.ptr i10 [] 0)) fun v56=>wv (ag T G55 aq (.ptr i1 [3] 3)) fun v57=>wv (ag T G55 ar (.ptr i1 [4] 4)) fun v58=>al P eJ.n [v56,v57,v58] G55 fun v59 G60=>wv (aP v59 0) fun v61=>wv (aP v59 1) fun v62=>wg (aF T G60 ax (.ptr i23 [] 0) v61) fun G63=>J149 v54 v62 G63))
 (wv (az T .eql ay v25 (.int .i64 3)) fun v64=>brB (some v64)
 (wv (ag T G24 aE (.ptr i10 [] 0)) fun v65=>wv (ag T G24 aq (.ptr i1 [3] 3)) fun v66=>wv (ag T G24 bH (.ptr i1 [5] 36)) fun v67=>al P bP.n [v65] G24 fun v68 G69=>(ag T G69 bH (.ptr i1 [5] 36)=some v67/\ag T G69 aq (.ptr i1 [3] 3)=some v66/\True)/\(al P iV.n [v68,v66,v67] G69 fun v70 G71=>wv (aP v70 0) fun v72=>wv (aP v70 1) fun v73=>wg (aF T G71 ax (.ptr i21 [] 0) v72) fun G74=>wv (ag T G74 aE (.ptr i10 [] 0)) fun v75=>wv (ag T G74 aq (.ptr i1 [3] 3)) fun v76=>wv (ag T G74 bH (.ptr i1 [5] 36)) fun v77=>al P eK.n [v75,v76,v77] G74 fun v78 G79=>wv (aP v78 0) fun v80=>wv (aP v78 1) fun v81=>wg (aF T G79 ax (.ptr i23 [] 0) v80) fun G82=>J149 v73 v81 G82))
 (wv (az T .eql ay v25 (.int .i64 4)) fun v83=>brB (some v83)
 (wv (lr a0) fun v84=>wv (bt T bz v84 0) fun v85=>wv (aO T cJ v85 x5) fun v86=>wv (ag T G24 bU v86) fun v87=>wv (ag T G24 aE (.ptr i10 [] 0)) fun v88=>al P bP.n [v88] G24 fun v89 G90=>(ag T G90 bU v86=some v87/\True)/\(al P jz.n [v87,v89] G90 fun v91 G92=>wv (aP v91 0) fun v93=>wv (aP v91 1) fun v94=>wg (aF T G92 ax (.ptr i21 [] 0) v93) fun G95=>wv (lr a0) fun v96=>wv (bt T bz v96 0) fun v97=>wv (aO T cJ v97 x5) fun v98=>wv (ag T G95 bU v98) fun v99=>wv (ag T G95 aE (.ptr i10 [] 0)) fun v100=>al P fZ.n [v99,v100] G95 fun v101 G102=>wv (aP v101 0) fun v103=>wv (aP v101 1) fun v104=>wg (aF T G102 ax (.ptr i23 [] 0) v103) fun G105=>J149 v94 v104 G105))
 (wv (az T .eql ay v25 (.int .i64 5)) fun v106=>brB (some v106)
 (wv (ag T G24 ja (.ptr i1 [] 0)) fun v107=>al P df.n [a0,x5,v107] G24 fun v108 G109=>wv (aP v108 0) fun v110=>wv (aP v108 1) fun v111=>br G109 (.own (jF)) fun i112 G113=>wg (aF T G113 aW (.ptr i112 [] 0) v110) fun G114=>wv (vun .not v111) fun v115=>brB (some v115)
 (Q (.bool true) G114)
 (wv (ag T G114 aW (.ptr i112 [] 0)) fun v116=>al P cV.n [a0,x5,v116] G114 fun v117 G118=>Q v117 G118))
 (wv (az T .eql ay v25 (.int .i64 6)) fun v121=>brB (some v121)
 (wv (lr a0) fun v122=>wv (bt T bz v122 1) fun v123=>wv (aO T gQ v123 x5) fun v124=>wv (bt T aE v124 16) fun v125=>wg (aF T G24 ay v125 (.int .i64 7)) fun G126=>Q (.bool true) G126)
 (Q (.bool true) G24))))))));
 brB (some v3)
 (J150 (.int .i64 1) G2)
 (J150 (.int .i64 0) G2)
def de.an:Ann:=.two .nil (.two .nil (.two .nil (.two .nil (.two (.two (.ord [(0,[]),(1,[]),(2,[]),(3,[]),(4,[]),(5,[]),(6,[]),(7,[]),(8,[])]) .nil) (.two .nil (.two .nil (.two (.two .nil (.two .nil (.two (.two (.ord [(0,[]),(2,[]),(3,[]),(4,[]),(5,[]),(1,[3,5]),(6,[]),(7,[]),(8,[]),(9,[]),(10,[]),(11,[])]) .nil) (.two .nil (.two (.two (.ord [(0,[]),(2,[]),(3,[]),(4,[]),(5,[]),(1,[3,5]),(6,[]),(7,[]),(8,[]),(9,[]),(10,[]),(11,[])]) .nil) (.two .nil (.two (.two (.ord [(0,[]),(2,[]),(3,[]),(4,[]),(5,[]),(1,[3,5]),(6,[]),(7,[]),(8,[]),(9,[]),(10,[]),(11,[])]) .nil) (.two .nil (.two (.two (.ord [(0,[]),(1,[]),(2,[]),(3,[]),(4,[]),(5,[]),(6,[]),(7,[5]),(8,[]),(9,[]),(10,[]),(11,[]),(12,[]),(13,[])]) (.ord [(0,[]),(1,[]),(2,[]),(3,[]),(4,[]),(5,[]),(6,[]),(7,[]),(8,[]),(9,[]),(10,[]),(11,[]),(12,[])])) .nil))))))))) .nil)))))))
theorem de.sound {a0 a1:ah}(h:de.S a0 a1 G Q):al P de.n [a0,a1] G Q:=by
 have e:de.S a0 a1 G Q=awp cx de.body de.an (bG T [.tmp 4] Q) (cC [a0,a1]) G:=by kernel_rfl
 refine aD cF Tryz.func39 ?_ ?_ ?_ (aH ?_ ?_) (by simp[Tryz.f39]) (e.mp h)<;>kernel_rfl
def aaq.S (a0 a1:ah) (G:ak) (Q:ah->ak->Prop):Prop:=
 br G (.own a0) fun i1 G2=>br G2 (.own (dm)) fun i3 G4=>wv (ag T G4 ar (.ptr i1 [] 0)) fun v5=>al P fc.n [v5,a1] G4 fun v6 G7=>wg (aF T G7 ar (.ptr i3 [] 0) v6) fun G8=>wv (ag T G8 ar (.ptr i3 [] 0)) fun v9=>Q v9 G8
def aaq.an:Ann:=.nil
theorem aaq.sound {a0 a1:ah}(h:aaq.S a0 a1 G Q):al P aaq.n [a0,a1] G Q:=by
 have e:aaq.S a0 a1 G Q=awp cx aaq.body aaq.an (bG T [.cell 4 23] Q) (cC [a0,a1]) G:=by kernel_rfl
 refine aD cF Tryz.func100 ?_ ?_ ?_ (aH ?_ ?_) (by simp[Tryz.f100]) (e.mp h)<;>kernel_rfl
def ab7.S (a0 a1:ah) (G:ak) (Q:ah->ak->Prop):Prop:=
 wv (lr a0) fun v1=>wv (bt T bz v1 1) fun v2=>wv (aO T gQ v2 a1) fun v3=>wv (ag T G aE v3) fun v4=>al P bP.n [v4] G fun v5 G6=>br G6 (.own (hO)) fun i7 G8=>wg (aF T G8 aE (.ptr i7 [] 0) v5) fun G9=>wv (ag T G9 aj (.ptr i7 [4] 4)) fun v10=>wv (fU T G9 aj v10) fun v11=>wv (ag T G9 aj (.ptr i7 [5] 5)) fun v12=>wv (fU T G9 aj v12) fun v13=>wv (bj T aG [(0,.int .i64 77)]) fun v14=>br G9 (.own (dv)) fun i15 G16=>wg (aF T G16 aG (.ptr i15 [] 0) v14) fun G17=>wv (ag T G17 aj (.ptr i7 [4] 4)) fun v18=>wv (ag T G17 aG (.ptr i15 [] 0)) fun v19=>bu T aj 1 [(0,v19)] G17 fun v20 G21=>cn T G21 aj aj v18 v20 fun v22 G23=>wv (dV T aj v22 none (some (v11)) none) fun v24=>wg (aF T G23 aj (.ptr i7 [4] 4) v24) fun G25=>wv (ag T G25 aj (.ptr i7 [5] 5)) fun v26=>wv (ag T G25 aG (.ptr i15 [] 0)) fun v27=>bu T aj 1 [(0,v27)] G25 fun v28 G29=>cn T G29 aj aj v26 v28 fun v30 G31=>wv (dV T aj v30 none (some (v13)) none) fun v32=>wg (aF T G31 aj (.ptr i7 [5] 5) v32) fun G33=>wv (ag T G33 aE (.ptr i7 [] 0)) fun v34=>al P bP.n [v34] G33 fun v35 G36=>br G36 (.own (hO)) fun i37 G38=>wg (aF T G38 aE (.ptr i37 [] 0) v35) fun G39=>wv (ag T G39 aE (.ptr i7 [] 0)) fun v40=>al P kH.n [v40] G39 fun v41 G42=>br G42 (.own (hO)) fun i43 G44=>wg (aF T G44 aE (.ptr i43 [] 0) v41) fun G45=>wv (ag T G45 aE (.ptr i7 [] 0)) fun v46=>al P kH.n [v46] G45 fun v47 G48=>br G48 (.own (hO)) fun i49 G50=>wg (aF T G50 aE (.ptr i49 [] 0) v47) fun G51=>wv (ag T G51 aE (.ptr i37 [] 0)) fun v52=>al P fL.n [v52] G51 fun v53 G54=>br G54 (.own (hO)) fun i55 G56=>wg (aF T G56 aE (.ptr i55 [] 0) v53) fun G57=>let J321:ah->ak->Prop:=(fun x69 G68=>brB (some x69)
 (Q (.bool false) G68)
 (∀ R70:List ah->ak->Prop,
 (∀ (x72 x73 x74 x75 x76 x77 x78 x79 x80 x81 x82:ah) (G71:ak),(wv (bt T aE x79 4) fun v83=>wv (ag T G71 aj v83) fun v84=>wv (fU T G71 aj v84) fun v85=>wv (az T .lss ay x82 v85) fun v86=>brB (some v86)
 (wv (bt T aE x79 4) fun v87=>wv (ag T G71 aj v87) fun v88=>wv (ag T G71 aG x77) fun v89=>wv (aO T aj v88 x82) fun v90=>wg (aF T G71 aG v90 v89) fun G91=>wv (az T .add ay x82 (.int .i64 1)) fun v92=>R70 [x72,x73,x74,x75,x76,x77,x78,x79,x80,x81,v92] G91)
 (∀ R93:List ah->ak->Prop,
 (∀ (x95 x96 x97 x98 x99 x100 x101 x102 x103 x104 x105:ah) (G94:ak),(wv (bt T aE x102 5) fun v106=>wv (ag T G94 aj v106) fun v107=>wv (fU T G94 aj v107) fun v108=>wv (az T .lss ay x105 v108) fun v109=>brB (some v109)
 (wv (bt T aE x102 5) fun v110=>wv (ag T G94 aj v110) fun v111=>wv (ag T G94 aG x100) fun v112=>wv (aO T aj v111 x105) fun v113=>wg (aF T G94 aG v113 v112) fun G114=>wv (az T .add ay x105 (.int .i64 1)) fun v115=>R93 [x95,x96,x97,x98,x99,x100,x101,x102,x103,x104,v115] G114)
 (∀ R116:List ah->ak->Prop,
 (∀ (x118 x119 x120 x121 x122 x123 x124 x125 x126 x127 x128:ah) (G117:ak),(wv (bt T aE x125 15) fun v129=>wv (ag T G117 aV v129) fun v130=>wv (fU T G117 aV v130) fun v131=>wv (az T .lss ay x128 v131) fun v132=>brB (some v132)
 (wv (bt T aE x125 15) fun v133=>wv (ag T G117 aV v133) fun v134=>wv (bj T cz [(0,.int .i64 (-1))]) fun v135=>wv (aO T aV v134 x128) fun v136=>wg (aF T G117 cz v136 v135) fun G137=>wv (az T .add ay x128 (.int .i64 1)) fun v138=>R116 [x118,x119,x120,x121,x122,x123,x124,x125,x126,x127,v138] G137)
 (wv (bt T aE x125 4) fun v139=>wv (ag T G117 aj v139) fun v140=>wv (ag T G117 aG x123) fun v141=>bu T aj 1 [(0,v141)] G117 fun v142 G143=>cn T G143 aj aj v140 v142 fun v144 G145=>wv (bt T aE x125 4) fun v146=>wg (aF T G145 aj v146 v144) fun G147=>wv (bt T aE x125 5) fun v148=>wv (ag T G147 aj v148) fun v149=>wv (ag T G147 aG x123) fun v150=>bu T aj 1 [(0,v150)] G147 fun v151 G152=>cn T G152 aj aj v149 v151 fun v153 G154=>wv (bt T aE x125 5) fun v155=>wg (aF T G154 aj v155 v153) fun G156=>wv (bt T aE x120 11) fun v157=>wv (bt T aU v157 0) fun v158=>wv (ag T G156 ay v158) fun v159=>wv (bt T aE x120 5) fun v160=>wv (ag T G156 aj v160) fun v161=>wv (fU T G156 aj v161) fun v162=>wv (bj T aU [(0,v159),(1,v162)]) fun v163=>br G156 (.own (iP)) fun i164 G165=>wg (aF T G165 aU (.ptr i164 [] 0) v163) fun G166=>wv (lr x118) fun v167=>wv (bt T bz v167 0) fun v168=>wv (aO T cJ v168 x119) fun v169=>wv (ag T G166 bU v169) fun v170=>wv (ag T G166 aE x124) fun v171=>wv (bt T aE x120 6) fun v172=>wv (ag T G166 aq v172) fun v173=>wv (az T .add aq v173 (.int .i64 1)) fun v174=>wv (ag T G166 aU (.ptr i164 [] 0)) fun v175=>al P ga.n [v170,v171,v174,v175] G166 fun v176 G177=>wv (aP v176 0) fun v178=>wv (aP v176 1) fun v179=>wv (bt T aE x120 6) fun v180=>wv (ag T G177 aq v180) fun v181=>wv (az T .add aq v181 (.int .i64 1)) fun v182=>wv (bj T aW [(0,.int .i64 4),(3,v182)]) fun v183=>br G177 (.own (jF)) fun i184 G185=>wg (aF T G185 aW (.ptr i184 [] 0) v183) fun G186=>let J320:ak->Prop:=(fun G195=>wv (lr x118) fun v196=>wv (bt T bz v196 0) fun v197=>wv (aO T cJ v197 x119) fun v198=>wv (ag T G195 bU v198) fun v199=>wv (ag T G195 aE x120) fun v200=>wv (ag T G195 aW (.ptr i184 [] 0)) fun v201=>al P jB.n [v199,v200,v201] G195 fun v202 G203=>wv (aP v202 0) fun v204=>wv (aP v202 1) fun v205=>br G203 (.own (dw)) fun i206 G207=>wg (aF T G207 ax (.ptr i206 [] 0) v204) fun G208=>wv (lr x118) fun v209=>wv (bt T bz v209 0) fun v210=>wv (aO T cJ v210 x119) fun v211=>wv (ag T G208 bU v211) fun v212=>wv (ag T G208 aE x120) fun v213=>wv (ag T G208 aW (.ptr i184 [] 0)) fun v214=>al P jB.n [v212,v213,v214] G208 fun v215 G216=>wv (aP v215 0) fun v217=>wv (aP v215 1) fun v218=>br G216 (.own (dw)) fun i219 G220=>wg (aF T G220 ax (.ptr i219 [] 0) v217) fun G221=>wv (lr x118) fun v222=>wv (bt T bz v222 0) fun v223=>wv (aO T cJ v223 x119) fun v224=>wv (ag T G221 bU v224) fun v225=>wv (ag T G221 aE x124) fun v226=>wv (ag T G221 aW (.ptr i184 [] 0)) fun v227=>al P gb.n [v225,v226,v227] G221 fun v228 G229=>wv (aP v228 0) fun v230=>wv (aP v228 1) fun v231=>br G229 (.own (dw)) fun i232 G233=>wg (aF T G233 ax (.ptr i232 [] 0) v230) fun G234=>let J319:ah->ak->Prop:=(fun x246 G245=>brB (some x246)
 (Q (.bool false) G245)
 (∀ R247:List ah->ak->Prop,
 (∀ (x249 x250 x251 x252 x253 x254 x255 x256 x257 x258 x259 x260 x261:ah) (G248:ak),(wv (bt T ax x256 2) fun v262=>wv (ag T G248 aj v262) fun v263=>wv (fU T G248 aj v263) fun v264=>wv (az T .lss ay x261 v264) fun v265=>brB (some v265)
 (wv (bt T ax x256 2) fun v266=>wv (ag T G248 aj v266) fun v267=>wv (ag T G248 aG x252) fun v268=>wv (aO T aj v267 x261) fun v269=>wg (aF T G248 aG v269 v268) fun G270=>wv (az T .add ay x261 (.int .i64 1)) fun v271=>R247 [x249,x250,x251,x252,x253,x254,x255,x256,x257,x258,x259,x260,v271] G270)
 (wv (bt T ax x256 2) fun v272=>wv (ag T G248 aj v272) fun v273=>wv (ag T G248 aG x252) fun v274=>bu T aj 1 [(0,v274)] G248 fun v275 G276=>cn T G276 aj aj v273 v275 fun v277 G278=>wv (bt T ax x256 2) fun v279=>wg (aF T G278 aj v279 v277) fun G280=>wv (bt T ax x256 2) fun v281=>wv (ag T G280 aj v281) fun v282=>wv (fU T G280 aj v282) fun v283=>wv (bt T ax x259 2) fun v284=>wv (ag T G280 aj v284) fun v285=>wv (fU T G280 aj v285) fun v286=>wv (az T .add ay v286 (.int .i64 1)) fun v287=>wv (az T .eql ay v283 v287) fun v288=>brB (some v288)
 (wv (ag T G280 ax x257) fun v289=>wv (ag T G280 ax x259) fun v290=>al P dP.n [v289,x258,v290,x260] G280 fun v291 G292=>brB (some v291)
 (wv (ag T G292 aE x254) fun v293=>wv (ag T G292 aE x255) fun v294=>al P cP.n [v293,v294] G292 fun v295 G296=>brB (some v295)
 (wv (ag T G296 aE x249) fun v297=>wv (ag T G296 aE x253) fun v298=>al P cP.n [v297,v298] G296 fun v299 G300=>brB (some v299)
 (wv (bt T aE x249 4) fun v301=>wv (ag T G300 aj v301) fun v302=>wv (az T .add ay x250 (.int .i64 1)) fun v303=>wv (dV T aj v302 none (some (v303)) none) fun v304=>wv (aO T aj v304 x250) fun v305=>wv (ag T G300 aG v305) fun v306=>wv (ag T G300 aG x252) fun v307=>wv (az T .eql aG v306 v307) fun v308=>brB (some v308)
 (wv (bt T aE x249 5) fun v309=>wv (ag T G300 aj v309) fun v310=>wv (az T .add ay x251 (.int .i64 1)) fun v311=>wv (dV T aj v310 none (some (v311)) none) fun v312=>wv (aO T aj v312 x251) fun v313=>wv (ag T G300 aG v313) fun v314=>wv (ag T G300 aG x252) fun v315=>wv (az T .eql aG v314 v315) fun v316=>Q v316 G300)
 (Q (.bool false) G300))
 (Q (.bool false) G300))
 (Q (.bool false) G296))
 (Q (.bool false) G292))
 (Q (.bool false) G280)))->R247 [x249,x250,x251,x252,x253,x254,x255,x256,x257,x258,x259,x260,x261] G248) ->
 R247 [x120,x121,x122,x123,x124,x126,x127,.ptr i206 [] 0,.ptr i219 [] 0,v218,.ptr i232 [] 0,v231,.int .i64 0] G245));
 wv (ag T G234 ax (.ptr i206 [] 0)) fun v235=>wv (ag T G234 ax (.ptr i232 [] 0)) fun v236=>al P dP.n [v235,v205,v236,v231] G234 fun v237 G238=>wv (vun .not v237) fun v239=>brB (some v239)
 (J319 (.bool true) G238)
 (wv (ag T G238 ax (.ptr i219 [] 0)) fun v240=>wv (ag T G238 ax (.ptr i232 [] 0)) fun v241=>al P dP.n [v240,v218,v241,v231] G238 fun v242 G243=>wv (vun .not v242) fun v244=>J319 v244 G243));
 brB (some v179)
 (wv (lr x118) fun v187=>wv (bt T bz v187 0) fun v188=>wv (aO T cJ v188 x119) fun v189=>wv (bt T bU v189 5) fun v190=>wv (ag T G186 ar v190) fun v191=>al P aaq.n [v191,v178] G186 fun v192 G193=>wg (aF T G193 ar (.ptr i184 [5] 5) v192) fun G194=>J320 G194)
 (J320 G186)))->R116 [x118,x119,x120,x121,x122,x123,x124,x125,x126,x127,x128] G117) ->
 R116 [x95,x96,x97,x98,x99,x100,x101,x102,x103,x104,.int .i64 0] G94))->R93 [x95,x96,x97,x98,x99,x100,x101,x102,x103,x104,x105] G94) ->
 R93 [x72,x73,x74,x75,x76,x77,x78,x79,x80,x81,.int .i64 0] G71))->R70 [x72,x73,x74,x75,x76,x77,x78,x79,x80,x81,x82] G71) ->
 R70 [a0,a1,.ptr i7 [] 0,v11,v13,.ptr i15 [] 0,.ptr i37 [] 0,.ptr i43 [] 0,.ptr i49 [] 0,.ptr i55 [] 0,.int .i64 0] G68));
 wv (ag T G57 aE (.ptr i43 [] 0)) fun v58=>wv (ag T G57 aE (.ptr i55 [] 0)) fun v59=>al P cP.n [v58,v59] G57 fun v60 G61=>wv (vun .not v60) fun v62=>brB (some v62)
 (J321 (.bool true) G61)
 (wv (ag T G61 aE (.ptr i49 [] 0)) fun v63=>wv (ag T G61 aE (.ptr i55 [] 0)) fun v64=>al P cP.n [v63,v64] G61 fun v65 G66=>wv (vun .not v65) fun v67=>J321 v67 G66)
def ab7.an:Ann:=.two .nil (.two .nil (.two (.ord [(0,[]),(1,[]),(2,[]),(3,[]),(4,[]),(5,[]),(6,[]),(7,[])]) (.two .nil (.two .nil (.two .nil (.two .nil (.two .nil (.two .nil (.two .nil (.two .nil (.two (.two .nil (.loop [0,1,5,6,7,8,9,10,11,12,13] [false,false,false,false,false,false,false,false,false,false,false] .nil)) (.two (.two .nil (.loop [0,1,5,6,7,8,9,10,11,12,14] [false,false,false,false,false,false,false,false,false,false,false] .nil)) (.two (.two .nil (.loop [0,1,5,6,7,8,9,10,11,12,15] [false,false,false,false,false,false,false,false,false,false,false] .nil)) (.two .nil (.two .nil (.two .nil (.two (.ord [(0,[]),(1,[]),(2,[]),(3,[]),(4,[]),(5,[]),(6,[]),(7,[]),(8,[]),(9,[]),(10,[]),(11,[]),(12,[]),(13,[]),(14,[]),(15,[]),(16,[])]) (.two .nil (.two .nil (.two (.ord [(0,[]),(1,[]),(2,[]),(3,[]),(4,[]),(5,[]),(6,[]),(7,[]),(8,[]),(9,[]),(10,[]),(11,[]),(12,[]),(13,[]),(14,[])]) (.two (.ord [(0,[]),(1,[]),(2,[]),(3,[]),(4,[]),(5,[]),(6,[]),(7,[]),(8,[]),(9,[]),(10,[]),(11,[]),(12,[]),(13,[]),(14,[])]) (.two (.ord [(0,[]),(1,[]),(2,[]),(3,[]),(4,[]),(5,[]),(6,[]),(7,[]),(8,[]),(9,[]),(10,[]),(11,[]),(12,[]),(13,[]),(14,[])]) (.two .nil (.two (.two .nil (.loop [5,6,7,8,9,11,12,20,22,23,24,25,26] [false,false,false,false,false,false,false,false,false,false,false,false,false] .nil)) (.two .nil (.two (.ord [(0,[]),(1,[]),(2,[]),(3,[]),(4,[]),(5,[]),(6,[]),(7,[]),(8,[]),(9,[]),(10,[]),(11,[]),(12,[]),(13,[]),(14,[]),(15,[]),(16,[]),(17,[]),(18,[]),(19,[]),(20,[]),(21,[]),(22,[]),(23,[]),(24,[]),(25,[]),(26,[]),(27,[]),(28,[]),(29,[]),(30,[]),(31,[]),(32,[]),(33,[]),(34,[]),(35,[]),(36,[]),(37,[]),(38,[]),(39,[]),(40,[]),(41,[]),(42,[]),(43,[]),(44,[]),(45,[]),(46,[]),(47,[]),(48,[]),(49,[])]) .nil))))))))))))))))))))))))))
theorem ab7.sound {a0 a1:ah}(h:ab7.S a0 a1 G Q):al P ab7.n [a0,a1] G Q:=by
 have e:ab7.S a0 a1 G Q=awp cx ab7.body ab7.an (bG T [.tmp 4] Q) (cC [a0,a1]) G:=by kernel_rfl
 refine aD cF Tryz.func41 ?_ ?_ ?_ (aH ?_ ?_) (by simp[Tryz.f41]) (e.mp h)<;>kernel_rfl
def aap.S (a0 a1:ah) (G:ak) (Q:ah->ak->Prop):Prop:=
 br G (.own a0) fun i1 G2=>al P fy.n [] G2 fun v3 G4=>wv (vun .not v3) fun v5=>brB (some v5)
 (Q (.bool false) G4)
 (wv (ag T G4 db (.ptr i1 [] 0)) fun v6=>al P fC.n [v6] G4 fun v7 G8=>wv (aP v7 0) fun v9=>wv (aP v7 1) fun v10=>wv (vun .not v10) fun v11=>brB (some v11)
 (Q (.bool true) G8)
 (∀ R12:List ah->ak->Prop,
 (∀ (x14 x15 x16:ah) (G13:ak),(wv (fU T G13 jd x14) fun v17=>wv (az T .lss ay x16 v17) fun v18=>brB (some v18)
 (wv (aO T jd x14 x16) fun v19=>wv (ag T G13 ja v19) fun v20=>al P de.n [x15,v20] G13 fun v21 G22=>wv (vun .not v21) fun v23=>brB (some v23)
 (Q (.bool false) G22)
 (∀ R24:List ah->ak->Prop,
 (∀ (x26 x27 x28 x29:ah) (G25:ak),(wv (az T .lss ay x29 (.int .i64 2)) fun v30=>brB (some v30)
 (al P ab7.n [x27,x29] G25 fun v31 G32=>wv (vun .not v31) fun v33=>brB (some v33)
 (Q (.bool false) G32)
 (wv (az T .add ay x29 (.int .i64 1)) fun v34=>R24 [x26,x27,x28,v34] G32))
 (wv (az T .add ay x28 (.int .i64 1)) fun v35=>R12 [x26,x27,v35] G25))->R24 [x26,x27,x28,x29] G25) ->
 R24 [x14,x15,x16,.int .i64 0] G22))
 (Q (.bool true) G13))->R12 [x14,x15,x16] G13) ->
 R12 [a1,v9,.int .i64 0] G8))
def aap.an:Ann:=.two .nil (.two .nil (.two .nil (.two .nil (.two (.two .nil (.loop [1,5,7] [false,false,false] (.two .nil (.two (.two .nil (.two .nil (.loop [1,5,7,8] [false,false,false,false] .nil))) .nil)))) .nil))))
theorem aap.sound {a0 a1:ah}(h:aap.S a0 a1 G Q):al P aap.n [a0,a1] G Q:=by
 have e:aap.S a0 a1 G Q=awp cx aap.body aap.an (bG T [.tmp 4] Q) (cC [a0,a1]) G:=by kernel_rfl
 refine aD cF Tryz.func9 ?_ ?_ ?_ (aH ?_ ?_) (by simp[Tryz.f9]) (e.mp h)<;>kernel_rfl
end Go.Esc.M
