import Derived.Test.YtkojimdacnohpaaGreatDoorT
set_option linter.unusedSimpArgs false
set_option linter.unusedVariables false
set_option maxRecDepth 100000
namespace Go.Esc.M
open Go Go.Esc Go.Proofs
variable {G:ak}{Q:ah->ak->Prop}
def cV.S (a0 a1 a2:ah) (G:ak) (Q:ah->ak->Prop):Prop:=
 br G (.own a2) fun i1 G2=>wv (lr a0) fun v3=>wv (bt T bz v3 1) fun v4=>wv (aO T gQ v4 a1) fun v5=>wv (ag T G2 aE v5) fun v6=>br G2 (.own (hO)) fun i7 G8=>wg (aF T G8 aE (.ptr i7 [] 0) v6) fun G9=>wv (ag T G9 ay (.ptr i1 [0] 0)) fun v10=>wv (az T .eql ay v10 (.int .i64 1)) fun v11=>let J52:ah->ak->Prop:=(fun x17 G16=>brB (some x17)
 (wv (ag T G16 aE (.ptr i7 [] 0)) fun v18=>wv (ag T G16 aW (.ptr i1 [] 0)) fun v19=>al P bP.n [v18] G16 fun v20 G21=>(ag T G21 aW (.ptr i1 [] 0)=some v19/\True)/\(al P dd.n [v19] G21 fun v22 G23=>al P jA.n [v20,v22] G23 fun v24 G25=>wv (ag T G25 aE (.ptr i7 [] 0)) fun v26=>wv (ag T G25 aW (.ptr i1 [] 0)) fun v27=>al P dd.n [v27] G25 fun v28 G29=>(ag T G29 aE (.ptr i7 [] 0)=some v26/\True)/\(al P fj.n [v26,v28] G29 fun v30 G31=>wv (az T .eql bD v30 (.int .i64 0)) fun v32=>brB (some v32)
 (wv (ag T G31 aj (.ptr i7 [5] 5)) fun v33=>wv (ag T G31 aW (.ptr i1 [] 0)) fun v34=>wv (lr a0) fun v35=>wv (bt T bz v35 1) fun v36=>cn T G31 aj aj (.nilSlice) v33 fun v37 G38=>(ag T G38 aW (.ptr i1 [] 0)=some v34/\True)/\(al P dd.n [v34] G38 fun v39 G40=>bu T aj 1 [(0,v39)] G40 fun v41 G42=>cn T G42 aj aj v37 v41 fun v43 G44=>wv (aO T gQ v36 a1) fun v45=>wv (bt T aE v45 5) fun v46=>wg (aF T G44 aj v46 v43) fun G47=>wv (az T .eql bD v24 v30) fun v50=>Q v50 G47))
 (wv (az T .eql bD v24 v30) fun v51=>Q v51 G31))))
 (wv (lr a0) fun v53=>wv (bt T bz v53 0) fun v54=>wv (aO T cJ v54 a1) fun v55=>wv (ag T G16 bU v55) fun v56=>wv (ag T G16 aE (.ptr i7 [] 0)) fun v57=>wv (ag T G16 aW (.ptr i1 [] 0)) fun v58=>al P bP.n [v57] G16 fun v59 G60=>(ag T G60 aW (.ptr i1 [] 0)=some v58/\ag T G60 bU v55=some v56/\True)/\(al P jB.n [v56,v59,v58] G60 fun v61 G62=>wv (aP v61 0) fun v63=>wv (aP v61 1) fun v64=>br G62 (.own (dw)) fun i65 G66=>wg (aF T G66 ax (.ptr i65 [] 0) v63) fun G67=>wv (lr a0) fun v68=>wv (bt T bz v68 0) fun v69=>wv (aO T cJ v69 a1) fun v70=>wv (ag T G67 bU v70) fun v71=>wv (ag T G67 aE (.ptr i7 [] 0)) fun v72=>wv (ag T G67 aW (.ptr i1 [] 0)) fun v73=>al P gb.n [v71,v72,v73] G67 fun v74 G75=>wv (aP v74 0) fun v76=>wv (aP v74 1) fun v77=>br G75 (.own (dw)) fun i78 G79=>wg (aF T G79 ax (.ptr i78 [] 0) v76) fun G80=>wv (ag T G80 aE (.ptr i7 [] 0)) fun v81=>wv (ag T G80 aW (.ptr i1 [] 0)) fun v82=>al P bP.n [v81] G80 fun v83 G84=>(ag T G84 aW (.ptr i1 [] 0)=some v82/\True)/\(al P gL.n [v83,v82] G84 fun v85 G86=>wv (aP v85 0) fun v87=>wv (aP v85 1) fun v88=>br G86 (.own (dw)) fun i89 G90=>wg (aF T G90 ax (.ptr i89 [] 0) v87) fun G91=>wv (ag T G91 aE (.ptr i7 [] 0)) fun v92=>wv (ag T G91 aW (.ptr i1 [] 0)) fun v93=>al P dW.n [v92,v93] G91 fun v94 G95=>wv (aP v94 0) fun v96=>wv (aP v94 1) fun v97=>br G95 (.own (dw)) fun i98 G99=>wg (aF T G99 ax (.ptr i98 [] 0) v96) fun G100=>let J133:ah->ak->Prop:=(fun x112 G111=>brB (some x112)
 (Q (.bool false) G111)
 (wv (az T .eql bD v77 (.int .i64 0)) fun v113=>brB (some v113)
 (wv (ag T G111 ax (.ptr i78 [] 0)) fun v114=>al P b9.n [a0,a1,v114] G111 fun v115 G116=>wv (az T .eql bD v97 (.int .i64 0)) fun v123=>brB (some v123)
 (wv (ag T G116 ax (.ptr i98 [] 0)) fun v124=>al P b9.n [a0,a1,v124] G116 fun v125 G126=>Q (.bool true) G126)
 (Q (.bool true) G116))
 (wv (az T .eql bD v97 (.int .i64 0)) fun v128=>brB (some v128)
 (wv (ag T G111 ax (.ptr i98 [] 0)) fun v129=>al P b9.n [a0,a1,v129] G111 fun v130 G131=>Q (.bool true) G131)
 (Q (.bool true) G111))));
 wv (ag T G100 ax (.ptr i65 [] 0)) fun v101=>wv (ag T G100 ax (.ptr i78 [] 0)) fun v102=>al P dP.n [v101,v64,v102,v77] G100 fun v103 G104=>wv (vun .not v103) fun v105=>brB (some v105)
 (J133 (.bool true) G104)
 (wv (ag T G104 ax (.ptr i89 [] 0)) fun v106=>wv (ag T G104 ax (.ptr i98 [] 0)) fun v107=>al P dP.n [v106,v88,v107,v97] G104 fun v108 G109=>wv (vun .not v108) fun v110=>J133 v110 G109)))));
 brB (some v11)
 (J52 v11 G9)
 (wv (az T .eql ay v10 (.int .i64 2)) fun v12=>brB (some v12)
 (J52 v12 G9)
 (wv (az T .eql ay v10 (.int .i64 3)) fun v13=>J52 v13 G9))
def cV.an:Ann:=.two .nil (.two .nil (.two (.two .nil (.two .nil (.two (.two (.ord [(0,[]),(2,[]),(1,[2]),(3,[]),(4,[]),(5,[])]) (.two (.ord [(0,[]),(1,[]),(2,[0]),(3,[]),(4,[])]) (.two (.two .nil (.two (.ord [(0,[]),(1,[]),(2,[]),(3,[]),(5,[]),(9,[]),(10,[]),(4,[5]),(6,[]),(7,[]),(8,[]),(11,[]),(12,[]),(13,[])]) .nil)) .nil))) .nil))) (.two (.ord [(0,[]),(1,[]),(2,[]),(3,[]),(4,[]),(5,[]),(6,[]),(8,[]),(7,[5,8]),(9,[]),(10,[]),(11,[]),(12,[]),(13,[]),(14,[]),(15,[])]) (.two (.ord [(0,[]),(1,[]),(2,[]),(3,[]),(4,[]),(5,[]),(6,[]),(7,[]),(8,[]),(9,[]),(10,[]),(11,[]),(12,[]),(13,[]),(14,[])]) (.two (.ord [(0,[]),(2,[]),(1,[2]),(3,[]),(4,[]),(5,[]),(6,[]),(7,[]),(8,[]),(9,[])]) .nil)))))
theorem cV.sound {a0 a1 a2:ah}(h:cV.S a0 a1 a2 G Q):al P cV.n [a0,a1,a2] G Q:=by
 have e:cV.S a0 a1 a2 G Q=awp cx cV.body cV.an (bG T [.tmp 6] Q) (cC [a0,a1,a2]) G:=by kernel_rfl
 refine aD cF Tryz.func91 ?_ ?_ ?_ (aH ?_ ?_) (by simp[Tryz.f91]) (e.mp h)<;>kernel_rfl
def de.S (a0 a1:ah) (G:ak) (Q:ah->ak->Prop):Prop:=
 br G (.own a1) fun i1 G2=>wv (ag T G2 du (.ptr i1 [1] 1)) fun v3=>let J150:ah->ak->Prop:=(fun x5 G4=>wv (lr a0) fun v6=>wv (bt T bz v6 1) fun v7=>wv (aO T gQ v7 x5) fun v8=>wv (ag T G4 aE v8) fun v9=>br G4 (.own (hO)) fun i10 G11=>wg (aF T G11 aE (.ptr i10 [] 0) v9) fun G12=>wv (lr a0) fun v13=>wv (bt T bz v13 0) fun v14=>wv (aO T cJ v14 x5) fun v15=>wv (ag T G12 bU v15) fun v16=>wv (ag T G12 aE (.ptr i10 [] 0)) fun v17=>al P dA.n [v16,v17] G12 fun v18 G19=>wv (vun .not v18) fun v20=>brB (some v20)
 (Q (.bool false) G19)
 (br G19 (.own (dw)) fun i21 G22=>br G22 (.own (dw)) fun i23 G24=>wv (ag T G24 ay (.ptr i1 [0] 0)) fun v25=>let J149:ah->ah->ak->Prop:=(fun x137 x138 G136=>wv (ag T G136 ax (.ptr i21 [] 0)) fun v139=>wv (ag T G136 ax (.ptr i23 [] 0)) fun v140=>al P dP.n [v139,x137,v140,x138] G136 fun v141 G142=>wv (vun .not v141) fun v143=>brB (some v143)
 (Q (.bool false) G142)
 (wv (az T .eql bD x138 (.int .i64 0)) fun v144=>brB (some v144)
 (wv (ag T G142 ax (.ptr i23 [] 0)) fun v145=>al P b9.n [a0,x5,v145] G142 fun v146 G147=>Q (.bool true) G147)
 (Q (.bool true) G142)));
 wv (az T .eql ay v25 (.int .i64 1)) fun v26=>brB (some v26)
 (wv (ag T G24 aE (.ptr i10 [] 0)) fun v27=>wv (ag T G24 aq (.ptr i1 [2] 2)) fun v28=>wv (ag T G24 ar (.ptr i1 [4] 4)) fun v29=>al P bP.n [v27] G24 fun v30 G31=>(ag T G31 ar (.ptr i1 [4] 4)=some v29/\ag T G31 aq (.ptr i1 [2] 2)=some v28/\True)/\(al P gM.n [v30,v28,v29] G31 fun v32 G33=>wv (aP v32 0) fun v34=>wv (aP v32 1) fun v35=>wg (aF T G33 ax (.ptr i21 [] 0) v34) fun G36=>wv (ag T G36 aE (.ptr i10 [] 0)) fun v37=>wv (ag T G36 aq (.ptr i1 [2] 2)) fun v38=>wv (ag T G36 ar (.ptr i1 [4] 4)) fun v39=>al P fh.n [v37,v38,v39] G36 fun v40 G41=>wv (aP v40 0) fun v42=>wv (aP v40 1) fun v43=>wg (aF T G41 ax (.ptr i23 [] 0) v42) fun G44=>J149 v35 v43 G44))
 (wv (az T .eql ay v25 (.int .i64 2)) fun v45=>brB (some v45)
 (wv (ag T G24 aE (.ptr i10 [] 0)) fun v46=>wv (ag T G24 aq (.ptr i1 [3] 3)) fun v47=>wv (ag T G24 ar (.ptr i1 [4] 4)) fun v48=>al P bP.n [v46] G24 fun v49 G50=>(ag T G50 ar (.ptr i1 [4] 4)=some v48/\ag T G50 aq (.ptr i1 [3] 3)=some v47/\True)/\(al P iT.n [v49,v47,v48] G50 fun v51 G52=>wv (aP v51 0) fun v53=>wv (aP v51 1) fun v54=>wg (aF T G52 ax (.ptr i21 [] 0) v53) fun G55=>wv (ag T G55 aE (.ptr i10 [] 0)) fun v56=>wv (ag T G55 aq (.ptr i1 [3] 3)) fun v57=>wv (ag T G55 ar (.ptr i1 [4] 4)) fun v58=>al P eJ.n [v56,v57,v58] G55 fun v59 G60=>wv (aP v59 0) fun v61=>wv (aP v59 1) fun v62=>wg (aF T G60 ax (.ptr i23 [] 0) v61) fun G63=>J149 v54 v62 G63))
 (wv (az T .eql ay v25 (.int .i64 3)) fun v64=>brB (some v64)
 (wv (ag T G24 aE (.ptr i10 [] 0)) fun v65=>wv (ag T G24 aq (.ptr i1 [3] 3)) fun v66=>wv (ag T G24 bH (.ptr i1 [5] 36)) fun v67=>al P bP.n [v65] G24 fun v68 G69=>(ag T G69 bH (.ptr i1 [5] 36)=some v67/\ag T G69 aq (.ptr i1 [3] 3)=some v66/\True)/\(al P iV.n [v68,v66,v67] G69 fun v70 G71=>wv (aP v70 0) fun v72=>wv (aP v70 1) fun v73=>wg (aF T G71 ax (.ptr i21 [] 0) v72) fun G74=>wv (ag T G74 aE (.ptr i10 [] 0)) fun v75=>wv (ag T G74 aq (.ptr i1 [3] 3)) fun v76=>wv (ag T G74 bH (.ptr i1 [5] 36)) fun v77=>al P eK.n [v75,v76,v77] G74 fun v78 G79=>wv (aP v78 0) fun v80=>wv (aP v78 1) fun v81=>wg (aF T G79 ax (.ptr i23 [] 0) v80) fun G82=>J149 v73 v81 G82))
 (wv (az T .eql ay v25 (.int .i64 4)) fun v83=>brB (some v83)
 (wv (lr a0) fun v84=>wv (bt T bz v84 0) fun v85=>wv (aO T cJ v85 x5) fun v86=>wv (ag T G24 bU v86) fun v87=>wv (ag T G24 aE (.ptr i10 [] 0)) fun v88=>al P bP.n [v88] G24 fun v89 G90=>(ag T G90 bU v86=some v87/\True)/\(al P jz.n [v87,v89] G90 fun v91 G92=>wv (aP v91 0) fun v93=>wv (aP v91 1) fun v94=>wg (aF T G92 ax (.ptr i21 [] 0) v93) fun G95=>wv (lr a0) fun v96=>wv (bt T bz v96 0) fun v97=>wv (aO T cJ v97 x5) fun v98=>wv (ag T G95 bU v98) fun v99=>wv (ag T G95 aE (.ptr i10 [] 0)) fun v100=>al P fZ.n [v99,v100] G95 fun v101 G102=>wv (aP v101 0) fun v103=>wv (aP v101 1) fun v104=>wg (aF T G102 ax (.ptr i23 [] 0) v103) fun G105=>J149 v94 v104 G105))
 (wv (az T .eql ay v25 (.int .i64 5)) fun v106=>brB (some v106)
 (wv (ag T G24 ja (.ptr i1 [] 0)) fun v107=>al P df.n [a0,x5,v107] G24 fun v108 G109=>wv (aP v108 0) fun v110=>wv (aP v108 1) fun v111=>br G109 (.own (jF)) fun i112 G113=>wg (aF T G113 aW (.ptr i112 [] 0) v110) fun G114=>wv (vun .not v111) fun v115=>brB (some v115)
 (Q (.bool true) G114)
 (wv (ag T G114 aW (.ptr i112 [] 0)) fun v116=>al P cV.n [a0,x5,v116] G114 fun v117 G118=>Q v117 G118))
 (wv (az T .eql ay v25 (.int .i64 6)) fun v121=>brB (some v121)
 (wv (lr a0) fun v122=>wv (bt T bz v122 1) fun v123=>wv (aO T gQ v123 x5) fun v124=>wv (bt T aE v124 16) fun v125=>wg (aF T G24 ay v125 (.int .i64 7)) fun G126=>Q (.bool true) G126)
 (Q (.bool true) G24))))))));
 brB (some v3)
 (J150 (.int .i64 1) G2)
 (J150 (.int .i64 0) G2)
def de.an:Ann:=.two .nil (.two .nil (.two .nil (.two .nil (.two (.two (.ord [(0,[]),(1,[]),(2,[]),(3,[]),(4,[]),(5,[]),(6,[]),(7,[]),(8,[])]) .nil) (.two .nil (.two .nil (.two (.two .nil (.two .nil (.two (.two (.ord [(0,[]),(2,[]),(3,[]),(4,[]),(5,[]),(1,[3,5]),(6,[]),(7,[]),(8,[]),(9,[]),(10,[]),(11,[])]) .nil) (.two .nil (.two (.two (.ord [(0,[]),(2,[]),(3,[]),(4,[]),(5,[]),(1,[3,5]),(6,[]),(7,[]),(8,[]),(9,[]),(10,[]),(11,[])]) .nil) (.two .nil (.two (.two (.ord [(0,[]),(2,[]),(3,[]),(4,[]),(5,[]),(1,[3,5]),(6,[]),(7,[]),(8,[]),(9,[]),(10,[]),(11,[])]) .nil) (.two .nil (.two (.two (.ord [(0,[]),(1,[]),(2,[]),(3,[]),(4,[]),(5,[]),(6,[]),(7,[5]),(8,[]),(9,[]),(10,[]),(11,[]),(12,[]),(13,[])]) (.ord [(0,[]),(1,[]),(2,[]),(3,[]),(4,[]),(5,[]),(6,[]),(7,[]),(8,[]),(9,[]),(10,[]),(11,[]),(12,[])])) .nil))))))))) .nil)))))))
theorem de.sound {a0 a1:ah}(h:de.S a0 a1 G Q):al P de.n [a0,a1] G Q:=by
 have e:de.S a0 a1 G Q=awp cx de.body de.an (bG T [.tmp 4] Q) (cC [a0,a1]) G:=by kernel_rfl
 refine aD cF Tryz.func39 ?_ ?_ ?_ (aH ?_ ?_) (by simp[Tryz.f39]) (e.mp h)<;>kernel_rfl
def eF.S (a0 a1:ah) (G:ak) (Q:ah->ak->Prop):Prop:=
 br G (.own a0) fun i1 G2=>al P fy.n [] G2 fun v3 G4=>wv (vun .not v3) fun v5=>brB (some v5)
 (Q (.bool false) G4)
 (wv (ag T G4 db (.ptr i1 [] 0)) fun v6=>al P cQ.n [v6] G4 fun v7 G8=>br G8 (.own (mP)) fun i9 G10=>wg (aF T G10 cJ (.ptr i9 [] 0) v7) fun G11=>∀ R12:List ah->ak->Prop,
 (∀ (x14 x15 x16 x17:ah) (G13:ak),(wv (az T .lss ay x17 (.int .i64 2)) fun v18=>brB (some v18)
 (wv (aO T cJ x16 x17) fun v19=>wv (ag T G13 bU v19) fun v20=>al P iv.n [v20] G13 fun v21 G22=>wv (aP v21 0) fun v23=>wv (aP v21 1) fun v24=>br G22 (.own (hO)) fun i25 G26=>wg (aF T G26 aE (.ptr i25 [] 0) v23) fun G27=>wv (aO T cJ x16 x17) fun v28=>wv (ag T G27 bU v28) fun v29=>al P dK.n [v29] G27 fun v30 G31=>wv (aP v30 0) fun v32=>wv (aP v30 1) fun v33=>br G31 (.own (hO)) fun i34 G35=>wg (aF T G35 aE (.ptr i34 [] 0) v32) fun G36=>wv (az T .neq bD v24 v33) fun v37=>brB (some v37)
 (Q (.bool false) G36)
 (wv (ag T G36 aE (.ptr i25 [] 0)) fun v38=>wv (ag T G36 aE (.ptr i34 [] 0)) fun v39=>al P cP.n [v38,v39] G36 fun v40 G41=>wv (vun .not v40) fun v42=>brB (some v42)
 (Q (.bool false) G41)
 (wv (az T .add ay x17 (.int .i64 1)) fun v47=>R12 [x14,x15,x16,v47] G41)))
 (wv (ag T G13 db x15) fun v48=>al P fC.n [v48] G13 fun v49 G50=>wv (aP v49 0) fun v51=>wv (aP v49 1) fun v52=>wv (vun .not v52) fun v53=>brB (some v53)
 (Q (.bool true) G50)
 (∀ R54:List ah->ak->Prop,
 (∀ (x56 x57 x58:ah) (G55:ak),(wv (fU T G55 jd x56) fun v59=>wv (az T .lss ay x58 v59) fun v60=>brB (some v60)
 (wv (aO T jd x56 x58) fun v61=>wv (ag T G55 ja v61) fun v62=>al P de.n [x57,v62] G55 fun v63 G64=>wv (vun .not v63) fun v65=>brB (some v65)
 (Q (.bool false) G64)
 (wv (az T .add ay x58 (.int .i64 1)) fun v66=>R54 [x56,x57,v66] G64))
 (wv (lr x57) fun v67=>wv (bt T bz v67 0) fun v68=>wv (aO T cJ v68 (.int .i64 0)) fun v69=>wv (ag T G55 bU v69) fun v70=>wv (lr x57) fun v71=>wv (bt T bz v71 1) fun v72=>wv (aO T gQ v72 (.int .i64 0)) fun v73=>wv (ag T G55 aE v73) fun v74=>al P dA.n [v70,v74] G55 fun v75 G76=>brB (some v75)
 (wv (lr x57) fun v77=>wv (bt T bz v77 0) fun v78=>wv (aO T cJ v78 (.int .i64 1)) fun v79=>wv (ag T G76 bU v79) fun v80=>wv (lr x57) fun v81=>wv (bt T bz v81 1) fun v82=>wv (aO T gQ v82 (.int .i64 1)) fun v83=>wv (ag T G76 aE v83) fun v84=>al P dA.n [v80,v84] G76 fun v85 G86=>Q v85 G86)
 (Q (.bool false) G76)))->R54 [x56,x57,x58] G55) ->
 R54 [x14,v51,.int .i64 0] G50)))->R12 [x14,x15,x16,x17] G13) ->
 R12 [a1,.ptr i1 [] 0,.ptr i9 [] 0,.int .i64 0] G11)
def eF.an:Ann:=.two .nil (.two .nil (.two .nil (.two (.two .nil (.loop [1,2,5,6] [false,false,false,false] .nil)) (.two .nil (.two .nil (.two (.two .nil (.loop [1,11,13] [false,false,false] .nil)) (.two (.ord [(0,[]),(1,[]),(2,[]),(3,[]),(4,[]),(5,[]),(6,[]),(7,[]),(8,[]),(9,[]),(10,[]),(11,[]),(12,[]),(13,[]),(14,[]),(15,[]),(16,[]),(17,[]),(18,[]),(19,[]),(20,[]),(21,[]),(22,[]),(23,[]),(24,[])]) .nil)))))))
theorem eF.sound {a0 a1:ah}(h:eF.S a0 a1 G Q):al P eF.n [a0,a1] G Q:=by
 have e:eF.S a0 a1 G Q=awp cx eF.body eF.an (bG T [.tmp 4] Q) (cC [a0,a1]) G:=by kernel_rfl
 refine aD cF Tryz.func8 ?_ ?_ ?_ (aH ?_ ?_) (by simp[Tryz.f8]) (e.mp h)<;>kernel_rfl
end Go.Esc.M
