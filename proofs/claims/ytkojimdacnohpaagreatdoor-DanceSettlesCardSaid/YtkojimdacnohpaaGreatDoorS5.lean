import Derived.Test.YtkojimdacnohpaaGreatDoorT
set_option linter.unusedSimpArgs false
set_option linter.unusedVariables false
set_option maxRecDepth 100000
namespace Go.Esc.M
open Go Go.Esc Go.Proofs
variable {G:ak}{Q:ah->ak->Prop}
def ad7.S (a0 a1:ah) (G:ak) (Q:ah->ak->Prop):Prop:=
 wv (az T .eql ay a1 (.int .i64 0)) fun v1=>let J94:ah->ak->Prop:=(fun x4 G3=>brB (some x4)
 (wv (az T .eql ay a1 (.int .i64 3)) fun v5=>let J31:ah->ak->Prop:=(fun x7 G6=>wv (lr a0) fun v8=>wv (bt T bz v8 0) fun v9=>wv (aO T cJ v9 x7) fun v10=>wv (ag T G6 bU v10) fun v11=>wv (lr a0) fun v12=>wv (bt T bz v12 1) fun v13=>wv (aO T gQ v13 x7) fun v14=>wv (ag T G6 aE v14) fun v15=>al P bP.n [v15] G6 fun v16 G17=>(ag T G17 bU v10=some v11/\True)/\(al P jz.n [v11,v16] G17 fun v18 G19=>wv (aP v18 0) fun v20=>wv (aP v18 1) fun v21=>br G19 (.own (dw)) fun i22 G23=>wg (aF T G23 ax (.ptr i22 [] 0) v20) fun G24=>wv (az T .eql bD v21 (.int .i64 0)) fun v25=>brB (some v25)
 (wv (ag T G24 ax (.ptr i22 [] 0)) fun v26=>al P aar.n [a0,x7,v26] G24 fun v27 G28=>Q v27 G28)
 (Q (.bool false) G24)));
 brB (some v5)
 (J31 (.int .i64 1) G3)
 (J31 (.int .i64 0) G3))
 (wv (az T .eql ay a1 (.int .i64 1)) fun v32=>let J93:ah->ak->Prop:=(fun x35 G34=>brB (some x35)
 (wv (az T .eql ay a1 (.int .i64 4)) fun v36=>let J78:ah->ak->Prop:=(fun x38 G37=>∀ R39:List ah->ak->Prop,
 (∀ (x41 x42 x43 x44:ah) (G40:ak),(wv (az T .lss ay x44 (.int .i64 4)) fun v45=>brB (some v45)
 (wv (bj T ja []) fun v46=>al P df.n [x41,x43,v46] G40 fun v47 G48=>wv (aP v47 0) fun v49=>wv (aP v47 1) fun v50=>br G48 (.own (jF)) fun i51 G52=>wg (aF T G52 aW (.ptr i51 [] 0) v49) fun G53=>brB (some v50)
 (wv (ag T G53 aW (.ptr i51 [] 0)) fun v54=>al P aas.n [x41,x43,v54] G53 fun v55 G56=>wv (vun .not v55) fun v57=>brB (some v57)
 (Q (.bool false) G56)
 (wv (az T .add ay x44 (.int .i64 1)) fun v62=>R39 [x41,x42,x43,v62] G56))
 (wv (az T .add ay x44 (.int .i64 1)) fun v63=>R39 [x41,x42,x43,v63] G53))
 (wv (az T .eql ay x42 (.int .i64 4)) fun v64=>brB (some v64)
 (wv (bj T ja []) fun v65=>al P df.n [x41,.int .i64 1,v65] G40 fun v66 G67=>wv (aP v66 0) fun v68=>wv (aP v66 1) fun v69=>br G67 (.own (jF)) fun i70 G71=>wg (aF T G71 aW (.ptr i70 [] 0) v68) fun G72=>brB (some v69)
 (wv (ag T G72 aW (.ptr i70 [] 0)) fun v73=>al P aas.n [x41,.int .i64 1,v73] G72 fun v74 G75=>Q v74 G75)
 (Q (.bool false) G72))
 (Q (.bool true) G40)))->R39 [x41,x42,x43,x44] G40) ->
 R39 [a0,a1,x38,.int .i64 0] G37);
 brB (some v36)
 (J78 (.int .i64 0) G34)
 (J78 (.int .i64 1) G34))
 (wv (az T .eql ay a1 (.int .i64 2)) fun v79=>brB (some v79)
 (wv (bj T ja []) fun v80=>al P df.n [a0,.int .i64 0,v80] G34 fun v81 G82=>wv (aP v81 0) fun v83=>wv (aP v81 1) fun v84=>br G82 (.own (jF)) fun i85 G86=>wg (aF T G86 aW (.ptr i85 [] 0) v83) fun G87=>brB (some v84)
 (wv (ag T G87 aW (.ptr i85 [] 0)) fun v88=>al P aas.n [a0,.int .i64 0,v88] G87 fun v89 G90=>Q v89 G90)
 (Q (.bool false) G87))
 (Q (.bool true) G34)));
 brB (some v32)
 (J93 v32 G3)
 (wv (az T .eql ay a1 (.int .i64 4)) fun v33=>J93 v33 G3)));
 brB (some v1)
 (J94 v1 G)
 (wv (az T .eql ay a1 (.int .i64 3)) fun v2=>J94 v2 G)
def ad7.an:Ann:=.two .nil (.two (.two .nil (.two .nil (.two (.two .nil (.two .nil (.two (.ord [(0,[]),(1,[]),(2,[]),(3,[]),(4,[]),(5,[]),(6,[]),(7,[]),(8,[]),(9,[]),(10,[]),(11,[]),(12,[5]),(13,[]),(14,[]),(15,[]),(16,[]),(17,[]),(18,[]),(19,[])]) .nil))) (.two .nil (.two (.two .nil (.two .nil (.two (.two .nil (.loop [0,1,8,9] [false,false,false,false] .nil)) .nil))) .nil))))) .nil)
theorem ad7.sound {a0 a1:ah}(h:ad7.S a0 a1 G Q):al P ad7.n [a0,a1] G Q:=by
 have e:ad7.S a0 a1 G Q=awp cx ad7.body ad7.an (bG T [.tmp 4] Q) (cC [a0,a1]) G:=by kernel_rfl
 refine aD cF Tryz.func33 ?_ ?_ ?_ (aH ?_ ?_) (by simp[Tryz.f33]) (e.mp h)<;>kernel_rfl
def iV.S (a0 a1 a2:ah) (G:ak) (Q:ah->ak->Prop):Prop:=
 br G (.own a0) fun i1 G2=>br G2 (.own (dw)) fun i3 G4=>wv (ag T G4 aE (.ptr i1 [] 0)) fun v5=>wv (bj T aG [(0,.int .i64 3),(1,a1),(4,a2)]) fun v6=>al P gJ.n [v5,v6] G4 fun v7 G8=>wv (aP v7 0) fun v9=>wv (aP v7 1) fun v10=>wg (aF T G8 ax (.ptr i3 [] 0) v9) fun G11=>wv (ag T G11 ax (.ptr i3 [] 0)) fun v12=>Q (.tuple [v12,v10]) G11
def iV.an:Ann:=.nil
theorem iV.sound {a0 a1 a2:ah}(h:iV.S a0 a1 a2 G Q):al P iV.n [a0,a1,a2] G Q:=by
 have e:iV.S a0 a1 a2 G Q=awp cx iV.body iV.an (bG T [.cell 6 78,.tmp 7] Q) (cC [a0,a1,a2]) G:=by kernel_rfl
 refine aD cF Tryz.func34 ?_ ?_ ?_ (aH ?_ ?_) (by simp[Tryz.f34]) (e.mp h)<;>kernel_rfl
def ad8.S (a0 a1 a2 a3 a4:ah) (G:ak) (Q:ah->ak->Prop):Prop:=
 br G (.own a0) fun i1 G2=>br G2 (.own a2) fun i3 G4=>br G4 (.own a3) fun i5 G6=>al P fy.n [] G6 fun v7 G8=>wv (vun .not v7) fun v9=>brB (some v9)
 (Q (.bool false) G8)
 (wv (ag T G8 db (.ptr i1 [] 0)) fun v10=>al P fC.n [v10] G8 fun v11 G12=>wv (aP v11 0) fun v13=>wv (aP v11 1) fun v14=>let J182:ah->ak->Prop:=(fun x20 G19=>brB (some x20)
 (Q (.bool true) G19)
 (wv (dV T ar (.ptr i3 [] 0) none none none) fun v21=>wv (gv T G19 aR bH v21) fun v22=>bu T iE 1 [(0,v22)] G19 fun v23 G24=>al P jh.n [v23] G24 fun v25 G26=>br G26 (.own (dm)) fun i27 G28=>wg (aF T G28 ar (.ptr i27 [] 0) v25) fun G29=>wv (lr v13) fun v30=>wv (bt T bz v30 1) fun v31=>wv (aO T gQ v31 (.int .i64 0)) fun v32=>wv (ag T G29 aE v32) fun v33=>wv (ag T G29 ar (.ptr i27 [] 0)) fun v34=>al P bP.n [v33] G29 fun v35 G36=>(ag T G36 ar (.ptr i27 [] 0)=some v34/\True)/\(al P gM.n [v35,a1,v34] G36 fun v37 G38=>wv (aP v37 0) fun v39=>wv (aP v37 1) fun v40=>br G38 (.own (dw)) fun i41 G42=>wg (aF T G42 ax (.ptr i41 [] 0) v39) fun G43=>let J181:ah->ak->Prop:=(fun x50 G49=>brB (some x50)
 (Q (.bool false) G49)
 (∀ R51:List ah->ak->Prop,
 (∀ (x53 x54 x55 x56 x57 x58 x59:ah) (G52:ak),(wv (az T .lss ay x59 (.int .i64 8)) fun v60=>brB (some v60)
 (wv (lr x56) fun v61=>wv (bt T bz v61 1) fun v62=>wv (aO T gQ v62 (.int .i64 1)) fun v63=>wv (ag T G52 aE v63) fun v64=>wv (ag T G52 ar x54) fun v65=>al P bP.n [v64] G52 fun v66 G67=>(ag T G67 ar x54=some v65/\True)/\(al P iT.n [v66,.int .i64 0,v65] G67 fun v68 G69=>wv (aP v68 0) fun v70=>wv (aP v68 1) fun v71=>wv (az T .lss ay x59 (.int .i64 5)) fun v72=>wv (az T .neq bD v71 (.int .i64 0)) fun v73=>wv (az T .neq du v72 v73) fun v74=>brB (some v74)
 (Q (.bool false) G69)
 (al P ad7.n [x56,x59] G69 fun v75 G76=>wv (vun .not v75) fun v77=>brB (some v77)
 (Q (.bool false) G76)
 (wv (az T .add ay x59 (.int .i64 1)) fun v78=>R51 [x53,x54,x55,x56,x57,x58,v78] G76))))
 (wv (lr x56) fun v79=>wv (bt T bz v79 1) fun v80=>wv (aO T gQ v80 (.int .i64 1)) fun v81=>wv (ag T G52 aE v81) fun v82=>wv (ag T G52 ar x55) fun v83=>al P bP.n [v82] G52 fun v84 G85=>(ag T G85 ar x55=some v83/\True)/\(al P iT.n [v84,.int .i64 0,v83] G85 fun v86 G87=>wv (aP v86 0) fun v88=>wv (aP v86 1) fun v89=>br G87 (.own (dw)) fun i90 G91=>wg (aF T G91 ax (.ptr i90 [] 0) v88) fun G92=>wv (lr x56) fun v93=>wv (bt T bz v93 1) fun v94=>wv (aO T gQ v94 (.int .i64 1)) fun v95=>wv (ag T G92 aE v95) fun v96=>wv (ag T G92 ar x54) fun v97=>al P bP.n [v96] G92 fun v98 G99=>(ag T G99 ar x54=some v97/\True)/\(al P iT.n [v98,.int .i64 1,v97] G99 fun v100 G101=>wv (aP v100 0) fun v102=>wv (aP v100 1) fun v103=>br G101 (.own (dw)) fun i104 G105=>wg (aF T G105 ax (.ptr i104 [] 0) v102) fun G106=>wv (lr x56) fun v107=>wv (bt T bz v107 1) fun v108=>wv (aO T gQ v108 (.int .i64 1)) fun v109=>wv (ag T G106 aE v109) fun v110=>al P bP.n [v110] G106 fun v111 G112=>al P iV.n [v111,.int .i64 0,x53] G112 fun v113 G114=>wv (aP v113 0) fun v115=>wv (aP v113 1) fun v116=>br G114 (.own (dw)) fun i117 G118=>wg (aF T G118 ax (.ptr i117 [] 0) v115) fun G119=>let J180:ah->ak->Prop:=(fun x134 G133=>brB (some x134)
 (Q (.bool false) G133)
 (wv (lr x56) fun v135=>wv (bt T bz v135 1) fun v136=>wv (aO T gQ v136 (.int .i64 1)) fun v137=>wv (ag T G133 aE v137) fun v138=>wv (ag T G133 ar x54) fun v139=>al P bP.n [v138] G133 fun v140 G141=>(ag T G141 ar x54=some v139/\True)/\(al P iT.n [v140,.int .i64 0,v139] G141 fun v142 G143=>wv (aP v142 0) fun v144=>wv (aP v142 1) fun v145=>wg (aF T G143 ax x58 v144) fun G146=>let J179:ah->ak->Prop:=(fun x153 G152=>brB (some x153)
 (Q (.bool false) G152)
 (wv (lr x56) fun v154=>wv (bt T bz v154 1) fun v155=>wv (aO T gQ v155 (.int .i64 1)) fun v156=>wv (ag T G152 aE v156) fun v157=>wv (ag T G152 ar x54) fun v158=>al P bP.n [v157] G152 fun v159 G160=>(ag T G160 ar x54=some v158/\True)/\(al P iT.n [v159,.int .i64 0,v158] G160 fun v161 G162=>wv (aP v161 0) fun v163=>wv (aP v161 1) fun v164=>wv (lr x56) fun v165=>wv (bt T bz v165 1) fun v166=>wv (aO T gQ v166 (.int .i64 1)) fun v167=>wv (ag T G162 aE v167) fun v168=>al P bP.n [v168] G162 fun v169 G170=>al P iV.n [v169,.int .i64 0,.str []] G170 fun v171 G172=>wv (aP v171 0) fun v173=>wv (aP v171 1) fun v174=>wv (az T .eql bD v164 (.int .i64 120)) fun v175=>brB (some v175)
 (wv (az T .eql bD v174 (.int .i64 120)) fun v176=>Q v176 G172)
 (Q (.bool false) G172))));
 wv (az T .neq bD v145 (.int .i64 0)) fun v147=>brB (some v147)
 (J179 (.bool true) G146)
 (wv (ag T G146 ax x58) fun v148=>al P aar.n [x56,.int .i64 1,v148] G146 fun v149 G150=>wv (vun .not v149) fun v151=>J179 v151 G150))));
 wv (az T .neq bD v103 (.int .i64 120)) fun v120=>brB (some v120)
 (J180 (.bool true) G119)
 (wv (az T .eql bD v116 (.int .i64 0)) fun v121=>wv (fU T G119 bH x53) fun v122=>wv (az T .leq ay v122 (.int .i64 64)) fun v123=>wv (az T .neq du v121 v123) fun v124=>brB (some v124)
 (J180 (.bool true) G119)
 (wv (az T .eql bD v89 (.int .i64 0)) fun v125=>wv (dV T ar x55 none none none) fun v126=>wv (gv T G119 aR bH v126) fun v127=>wv (ag T G119 ar x57) fun v128=>al P dJ.n [v127] G119 fun v129 G130=>(ag T G130 ar x57=some v128/\True)/\(wv (az T .eql ar v129 v128) fun v131=>wv (az T .neq du v125 v131) fun v132=>J180 v132 G130)))))))->R51 [x53,x54,x55,x56,x57,x58,x59] G52) ->
 R51 [a4,.ptr i3 [] 0,.ptr i5 [] 0,v13,.ptr i27 [] 0,.ptr i41 [] 0,.int .i64 0] G49));
 wv (az T .neq bD v40 (.int .i64 0)) fun v44=>brB (some v44)
 (J181 (.bool true) G43)
 (wv (ag T G43 ax (.ptr i41 [] 0)) fun v45=>al P aar.n [v13,.int .i64 0,v45] G43 fun v46 G47=>wv (vun .not v46) fun v48=>J181 v48 G47))));
 wv (vun .not v14) fun v15=>brB (some v15)
 (J182 (.bool true) G12)
 (wv (az T .lss aq a1 (.int .i64 1)) fun v16=>brB (some v16)
 (J182 (.bool true) G12)
 (wv (ag T G12 aq (.ptr i1 [1] 1)) fun v17=>wv (az T .gtr aq a1 v17) fun v18=>J182 v18 G12)))
def ad8.an:Ann:=.two .nil (.two .nil (.two .nil (.two .nil (.two .nil (.two (.ord [(0,[]),(1,[]),(2,[]),(3,[]),(4,[]),(6,[]),(7,[]),(5,[7]),(8,[]),(9,[]),(10,[]),(11,[]),(12,[]),(13,[]),(14,[])]) (.two .nil (.two (.two .nil (.loop [4,7,8,11,13,14,16] [false,false,false,false,false,false,false] (.two .nil (.two (.two (.ord [(0,[]),(1,[]),(2,[]),(3,[]),(4,[]),(6,[]),(5,[6]),(7,[]),(8,[]),(9,[]),(10,[]),(11,[])]) .nil) .nil)))) (.two (.ord [(0,[]),(1,[]),(2,[]),(3,[]),(4,[]),(6,[]),(5,[6]),(7,[]),(8,[]),(9,[]),(10,[]),(11,[]),(12,[]),(13,[])]) (.two (.ord [(0,[]),(1,[]),(2,[]),(3,[]),(4,[]),(6,[]),(5,[6]),(7,[]),(8,[]),(9,[]),(10,[]),(11,[]),(12,[]),(13,[])]) (.two .nil (.two (.two (.ord [(0,[]),(1,[]),(2,[]),(3,[]),(4,[]),(5,[]),(6,[]),(7,[]),(8,[]),(9,[]),(10,[]),(11,[]),(12,[]),(13,[]),(14,[]),(16,[]),(15,[16]),(17,[]),(18,[]),(19,[])]) .nil) (.two (.ord [(0,[]),(1,[]),(2,[]),(3,[]),(4,[]),(6,[]),(5,[6]),(7,[]),(8,[]),(9,[]),(10,[]),(11,[]),(12,[])]) (.two .nil (.two (.ord [(0,[]),(1,[]),(2,[]),(3,[]),(4,[]),(6,[]),(5,[6]),(7,[]),(8,[]),(9,[]),(10,[]),(11,[])]) .nil))))))))))))))
theorem ad8.sound {a0 a1 a2 a3 a4:ah}(h:ad8.S a0 a1 a2 a3 a4 G Q):al P ad8.n [a0,a1,a2,a3,a4] G Q:=by
 have e:ad8.S a0 a1 a2 a3 a4 G Q=awp cx ad8.body ad8.an (bG T [.tmp 10] Q) (cC [a0,a1,a2,a3,a4]) G:=by kernel_rfl
 refine aD cF Tryz.func7 ?_ ?_ ?_ (aH ?_ ?_) (by simp[Tryz.f7]) (e.mp h)<;>kernel_rfl
end Go.Esc.M
