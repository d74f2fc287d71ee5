import Derived.Test.YtkojimdacnohpaaGreatDoorT
set_option linter.unusedSimpArgs false
set_option linter.unusedVariables false
set_option maxRecDepth 100000
namespace Go.Esc.M
open Go Go.Esc Go.Proofs
variable {G:ak}{Q:ah->ak->Prop}
def iM.S (a0 a1 a2 a3 a4:ah) (G:ak) (Q:ah->ak->Prop):Prop:=
 br G (.own a4) fun i1 G2=>br G2 (.own (jJ)) fun i3 G4=>let J99:ah->ak->Prop:=(fun x16 G15=>brB (some x16)
 (wv (bj T aX []) fun v17=>wg (aF T G15 aX (.ptr i3 [] 0) v17) fun G18=>wv (ag T G18 aX (.ptr i3 [] 0)) fun v19=>Q (.tuple [v19,.int .i64 1]) G18)
 (bu T jf 2 [(0,a0),(1,a1)] G15 fun v20 G21=>al P jX.n [v20] G21 fun v22 G23=>wv (aP v22 0) fun v24=>wv (aP v22 1) fun v25=>wv (az T .neq bD v25 (.int .i64 0)) fun v26=>brB (some v26)
 (wv (bj T aX []) fun v27=>wg (aF T G23 aX (.ptr i3 [] 0) v27) fun G28=>wv (ag T G28 aX (.ptr i3 [] 0)) fun v29=>Q (.tuple [v29,.int .i64 1]) G28)
 (wv (ag T G23 ay (.ptr i1 [0] 0)) fun v30=>wv (dV T aj a2 none (some (v30)) none) fun v31=>wv (ag T G23 ay (.ptr i1 [1] 1)) fun v32=>wv (dV T aj a3 none (some (v32)) none) fun v33=>let J98:ah->ak->Prop:=(fun x39 G38=>brB (some x39)
 (wv (bj T aX []) fun v40=>wg (aF T G38 aX (.ptr i3 [] 0) v40) fun G41=>wv (ag T G41 aX (.ptr i3 [] 0)) fun v42=>Q (.tuple [v42,.int .i64 120]) G41)
 (al P dq.n [v33] G38 fun v43 G44=>wv (bj T bO []) fun v45=>al P cS.n [v45,a0] G44 fun v46 G47=>wv (bj T bO []) fun v48=>al P cS.n [v48,a1] G47 fun v49 G50=>al P iK.n [v31,v43,.bool true,v46,v49] G50 fun v51 G52=>wv (aP v51 0) fun v53=>wv (aP v51 1) fun v54=>wv (aP v51 2) fun v55=>br G52 (.own (kb)) fun i56 G57=>br G57 (.own (kb)) fun i58 G59=>wg (aF T G59 bO (.ptr i56 [] 0) v53) fun G60=>wg (aF T G60 bO (.ptr i58 [] 0) v54) fun G61=>wv (ag T G61 bO (.ptr i58 [] 0)) fun v62=>wv (ag T G61 bO (.ptr i56 [] 0)) fun v63=>al P dq.n [v31] G61 fun v64 G65=>(ag T G65 bO (.ptr i56 [] 0)=some v63/\ag T G65 bO (.ptr i58 [] 0)=some v62/\True)/\(al P iK.n [v33,v64,.bool false,v62,v63] G65 fun v66 G67=>wv (aP v66 0) fun v68=>wv (aP v66 1) fun v69=>wv (aP v66 2) fun v70=>wg (aF T G67 bO (.ptr i58 [] 0) v68) fun G71=>wg (aF T G71 bO (.ptr i56 [] 0) v69) fun G72=>wv (ag T G72 bO (.ptr i56 [] 0)) fun v73=>wv (ag T G72 bO (.ptr i58 [] 0)) fun v74=>al P dy.n [v73] G72 fun v75 G76=>(ag T G76 bO (.ptr i58 [] 0)=some v74/\True)/\(al P dy.n [v74] G76 fun v77 G78=>cn T G78 aw aw v55 v70 fun v79 G80=>wv (bj T aX [(0,v75),(1,v77),(2,v79)]) fun v81=>br G80 (.own (jJ)) fun i82 G83=>wg (aF T G83 aX (.ptr i82 [] 0) v81) fun G84=>let J97:ah->ak->Prop:=(fun x90 G89=>brB (some x90)
 (wv (bj T aX []) fun v91=>wg (aF T G89 aX (.ptr i3 [] 0) v91) fun G92=>wv (ag T G92 aX (.ptr i3 [] 0)) fun v93=>Q (.tuple [v93,.int .i64 130]) G92)
 (wv (ag T G89 aX (.ptr i82 [] 0)) fun v94=>wg (aF T G89 aX (.ptr i3 [] 0) v94) fun G95=>wv (ag T G95 aX (.ptr i3 [] 0)) fun v96=>Q (.tuple [v96,.int .i64 0]) G95));
 wv (ag T G84 aq (.ptr i82 [0] 0)) fun v85=>wv (az T .lss aq v85 (.int .i64 0)) fun v86=>brB (some v86)
 (J97 (.bool true) G84)
 (wv (ag T G84 aq (.ptr i82 [1] 1)) fun v87=>wv (az T .lss aq v87 (.int .i64 0)) fun v88=>J97 v88 G84)))));
 al P bd.n [v31,.func (.func gu.n) [] []] G23 fun v34 G35=>brB (some v34)
 (J98 (.bool true) G35)
 (al P bd.n [v33,.func (.func gu.n) [] []] G35 fun v36 G37=>J98 v36 G37))));
 wv (ag T G4 ay (.ptr i1 [0] 0)) fun v5=>wv (az T .lss ay v5 (.int .i64 0)) fun v6=>brB (some v6)
 (J99 (.bool true) G4)
 (wv (ag T G4 ay (.ptr i1 [0] 0)) fun v7=>wv (fU T G4 aj a2) fun v8=>wv (az T .gtr ay v7 v8) fun v9=>brB (some v9)
 (J99 (.bool true) G4)
 (wv (ag T G4 ay (.ptr i1 [1] 1)) fun v10=>wv (az T .lss ay v10 (.int .i64 0)) fun v11=>brB (some v11)
 (J99 (.bool true) G4)
 (wv (ag T G4 ay (.ptr i1 [1] 1)) fun v12=>wv (fU T G4 aj a3) fun v13=>wv (az T .gtr ay v12 v13) fun v14=>J99 v14 G4)))
def iM.an:Ann:=.two .nil (.two .nil (.two .nil (.two (.ord [(0,[]),(1,[]),(2,[]),(3,[]),(4,[]),(5,[]),(6,[]),(7,[]),(8,[]),(9,[])]) (.two .nil (.two .nil (.two (.ord [(0,[]),(1,[]),(3,[]),(4,[]),(2,[3,4]),(5,[]),(6,[]),(7,[]),(8,[]),(9,[]),(10,[]),(11,[]),(12,[])]) (.two (.ord [(0,[]),(2,[]),(4,[]),(5,[]),(1,[2]),(3,[]),(6,[]),(7,[]),(8,[]),(9,[])]) .nil)))))))
theorem iM.sound {a0 a1 a2 a3 a4:ah}(h:iM.S a0 a1 a2 a3 a4 G Q):al P iM.n [a0,a1,a2,a3,a4] G Q:=by
 have e:iM.S a0 a1 a2 a3 a4 G Q=awp cx iM.body iM.an (bG T [.cell 10 126,.tmp 11] Q) (cC [a0,a1,a2,a3,a4]) G:=by kernel_rfl
 refine aD cF Tryz.func73 ?_ ?_ ?_ (aH ?_ ?_) (by simp[Tryz.f73]) (e.mp h)<;>kernel_rfl
def iQ.S (a0:ah) (G:ak) (Q:ah->ak->Prop):Prop:=
 wv (az T .geq aq a0 (.int .i64 0)) fun v1=>brB (some v1)
 (wv (az T .leq aq a0 (.int .i64 281474976710655)) fun v2=>Q v2 G)
 (Q (.bool false) G)
def iQ.an:Ann:=.nil
theorem iQ.sound {a0:ah}(h:iQ.S a0 G Q):al P iQ.n [a0] G Q:=by
 have e:iQ.S a0 G Q=awp cx iQ.body iQ.an (bG T [.tmp 2] Q) (cC [a0]) G:=by kernel_rfl
 refine aD cF Tryz.func162 ?_ ?_ ?_ (aH ?_ ?_) (by simp[Tryz.f162]) (e.mp h)<;>kernel_rfl
def gS.S (a0:ah) (G:ak) (Q:ah->ak->Prop):Prop:=
 wv (az T .sub aq (.int .i64 281474976710655) a0) fun v1=>Q v1 G
def gS.an:Ann:=.nil
theorem gS.sound {a0:ah}(h:gS.S a0 G Q):al P gS.n [a0] G Q:=by
 have e:gS.S a0 G Q=awp cx gS.body gS.an (bG T [.tmp 2] Q) (cC [a0]) G:=by kernel_rfl
 refine aD cF Tryz.func163 ?_ ?_ ?_ (aH ?_ ?_) (by simp[Tryz.f163]) (e.mp h)<;>kernel_rfl
def gV.S (G:ak) (Q:ah->ak->Prop):Prop:=
 br G (.own (iy)) fun i1 G2=>wv (bj T bW [(0,.int .u32 1116352408),(1,.int .u32 1899447441),(2,.int .u32 3049323471),(3,.int .u32 3921009573),(4,.int .u32 961987163),(5,.int .u32 1508970993),(6,.int .u32 2453635748),(7,.int .u32 2870763221),(8,.int .u32 3624381080),(9,.int .u32 310598401),(10,.int .u32 607225278),(11,.int .u32 1426881987),(12,.int .u32 1925078388),(13,.int .u32 2162078206),(14,.int .u32 2614888103),(15,.int .u32 3248222580),(16,.int .u32 3835390401),(17,.int .u32 4022224774),(18,.int .u32 264347078),(19,.int .u32 604807628),(20,.int .u32 770255983),(21,.int .u32 1249150122),(22,.int .u32 1555081692),(23,.int .u32 1996064986),(24,.int .u32 2554220882),(25,.int .u32 2821834349),(26,.int .u32 2952996808),(27,.int .u32 3210313671),(28,.int .u32 3336571891),(29,.int .u32 3584528711),(30,.int .u32 113926993),(31,.int .u32 338241895),(32,.int .u32 666307205),(33,.int .u32 773529912),(34,.int .u32 1294757372),(35,.int .u32 1396182291),(36,.int .u32 1695183700),(37,.int .u32 1986661051),(38,.int .u32 2177026350),(39,.int .u32 2456956037),(40,.int .u32 2730485921),(41,.int .u32 2820302411),(42,.int .u32 3259730800),(43,.int .u32 3345764771),(44,.int .u32 3516065817),(45,.int .u32 3600352804),(46,.int .u32 4094571909),(47,.int .u32 275423344),(48,.int .u32 430227734),(49,.int .u32 506948616),(50,.int .u32 659060556),(51,.int .u32 883997877),(52,.int .u32 958139571),(53,.int .u32 1322822218),(54,.int .u32 1537002063),(55,.int .u32 1747873779),(56,.int .u32 1955562222),(57,.int .u32 2024104815),(58,.int .u32 2227730452),(59,.int .u32 2361852424),(60,.int .u32 2428436474),(61,.int .u32 2756734187),(62,.int .u32 3204031479),(63,.int .u32 3329325298)]) fun v3=>wg (aF T G2 bW (.ptr i1 [] 0) v3) fun G4=>wv (ag T G4 bW (.ptr i1 [] 0)) fun v5=>Q v5 G4
def gV.an:Ann:=.nil
theorem gV.sound (h:gV.S G Q):al P gV.n [] G Q:=by
 have e:gV.S G Q=awp cx gV.body gV.an (bG T [.cell 0 136] Q) (cC []) G:=by kernel_rfl
 refine aD cF Tryz.func75 ?_ ?_ ?_ (aH ?_ ?_) (by simp[Tryz.f75]) (e.mp h)<;>kernel_rfl
def bL.S (a0 a1:ah) (G:ak) (Q:ah->ak->Prop):Prop:=
 wv (gv T G ay mJ a1) fun v1=>wv (az T .and mJ v1 (.int .u64 31)) fun v2=>wv (az T .shl aJ a0 v2) fun v3=>wv (az T .sub mJ (.int .u64 32) v2) fun v4=>wv (az T .shr aJ a0 v4) fun v5=>wv (az T .or aJ v3 v5) fun v6=>Q v6 G
def bL.an:Ann:=.nil
theorem bL.sound {a0 a1:ah}(h:bL.S a0 a1 G Q):al P bL.n [a0,a1] G Q:=by
 have e:bL.S a0 a1 G Q=awp cx bL.body bL.an (bG T [.tmp 4] Q) (cC [a0,a1]) G:=by kernel_rfl
 refine aD cF Tryz.func141 ?_ ?_ ?_ (aH ?_ ?_) (by simp[Tryz.f141]) (e.mp h)<;>kernel_rfl
def iC.S (a0:ah) (G:ak) (Q:ah->ak->Prop):Prop:=
 br G (.own (iy)) fun i1 G2=>br G2 (.own (iy)) fun i3 G4=>∀ R5:List ah->ak->Prop,
 (∀ (x7 x8 x9 x10:ah) (G6:ak),(wv (az T .lss ay x10 (.int .i64 16)) fun v11=>brB (some v11)
 (∀ R12:List ah->ak->Prop,
 (∀ (x14 x15 x16 x17 x18 x19:ah) (G13:ak),(wv (az T .lss ay x19 (.int .i64 4)) fun v20=>brB (some v20)
 (wv (aO T bW x16 x17) fun v21=>wv (ag T G13 aJ v21) fun v22=>wv (az T .shl aJ v22 (.int .u64 8)) fun v23=>wv (az T .mul ay (.int .i64 4) x17) fun v24=>wv (az T .add ay v24 x19) fun v25=>wv (pz T bH x14 v25) fun v26=>wv (gv T G13 cm aJ v26) fun v27=>wv (az T .or aJ v23 v27) fun v28=>wv (aO T bW x16 x17) fun v29=>wg (aF T G13 aJ v29 v28) fun G30=>wv (az T .add ay x19 (.int .i64 1)) fun v31=>R12 [x14,x15,x16,x17,x18,v31] G30)
 (wv (az T .add ay x18 (.int .i64 1)) fun v32=>R5 [x14,x15,x16,v32] G13))->R12 [x14,x15,x16,x17,x18,x19] G13) ->
 R12 [x7,x8,x9,x10,x10,.int .i64 0] G6)
 (∀ R33:List ah->ak->Prop,
 (∀ (x35 x36 x37:ah) (G34:ak),(wv (az T .lss ay x37 (.int .i64 64)) fun v38=>brB (some v38)
 (wv (az T .sub ay x37 (.int .i64 15)) fun v39=>wv (aO T bW x36 v39) fun v40=>wv (ag T G34 aJ v40) fun v41=>wv (az T .sub ay x37 (.int .i64 2)) fun v42=>wv (aO T bW x36 v42) fun v43=>wv (ag T G34 aJ v43) fun v44=>al P bL.n [v41,.int .i64 (-7)] G34 fun v45 G46=>al P bL.n [v41,.int .i64 (-18)] G46 fun v47 G48=>wv (az T .xor aJ v45 v47) fun v49=>wv (az T .shr aJ v41 (.int .u64 3)) fun v50=>wv (az T .xor aJ v49 v50) fun v51=>al P bL.n [v44,.int .i64 (-17)] G48 fun v52 G53=>al P bL.n [v44,.int .i64 (-19)] G53 fun v54 G55=>wv (az T .xor aJ v52 v54) fun v56=>wv (az T .shr aJ v44 (.int .u64 10)) fun v57=>wv (az T .xor aJ v56 v57) fun v58=>wv (az T .sub ay x37 (.int .i64 16)) fun v59=>wv (aO T bW x36 v59) fun v60=>wv (ag T G55 aJ v60) fun v61=>wv (az T .add aJ v61 v51) fun v62=>wv (az T .sub ay x37 (.int .i64 7)) fun v63=>wv (aO T bW x36 v63) fun v64=>wv (ag T G55 aJ v64) fun v65=>wv (az T .add aJ v62 v65) fun v66=>wv (az T .add aJ v66 v58) fun v67=>wv (aO T bW x36 x37) fun v68=>wg (aF T G55 aJ v68 v67) fun G69=>wv (az T .add ay x37 (.int .i64 1)) fun v70=>R33 [x35,x36,v70] G69)
 (wv (ag T G34 bW x36) fun v71=>wg (aF T G34 bW x35 v71) fun G72=>wv (ag T G72 bW x35) fun v73=>Q v73 G72))->R33 [x35,x36,x37] G34) ->
 R33 [x8,x9,.int .i64 16] G6))->R5 [x7,x8,x9,x10] G6) ->
 R5 [a0,.ptr i1 [] 0,.ptr i3 [] 0,.int .i64 0] G4
def iC.an:Ann:=.two .nil (.two .nil (.two (.two .nil (.loop [0,2,3,11] [false,false,false,false] (.two .nil (.two .nil (.two (.two .nil (.two .nil (.loop [0,2,3,4,11,14] [false,false,false,false,false,false] (.two .nil (.two .nil (.two (.two .nil (.ord [(0,[]),(1,[]),(2,[]),(3,[]),(4,[]),(5,[]),(6,[]),(7,[]),(8,[]),(9,[]),(10,[]),(11,[]),(12,[]),(13,[]),(14,[])])) .nil)))))) .nil))))) (.two (.two .nil (.loop [2,3,6] [false,false,false] (.two .nil (.two (.two (.ord [(0,[]),(1,[]),(2,[]),(3,[]),(4,[]),(5,[]),(6,[]),(7,[]),(8,[]),(9,[])]) (.two .nil (.two .nil (.ord [(0,[]),(1,[]),(2,[]),(3,[]),(4,[]),(5,[]),(6,[]),(7,[]),(8,[]),(9,[]),(10,[]),(11,[]),(12,[]),(13,[]),(14,[]),(15,[])])))) .nil)))) .nil)))
theorem iC.sound {a0:ah}(h:iC.S a0 G Q):al P iC.n [a0] G Q:=by
 have e:iC.S a0 G Q=awp cx iC.body iC.an (bG T [.cell 2 136] Q) (cC [a0]) G:=by kernel_rfl
 refine aD cF Tryz.func140 ?_ ?_ ?_ (aH ?_ ?_) (by simp[Tryz.f140]) (e.mp h)<;>kernel_rfl
def jv.S (a0 a1 a2:ah) (G:ak) (Q:ah->ak->Prop):Prop:=
 br G (.own a0) fun i1 G2=>br G2 (.own (mw)) fun i3 G4=>wv (ag T G4 bn (.ptr i1 [] 0)) fun v5=>al P iC.n [a1] G4 fun v6 G7=>(ag T G7 bn (.ptr i1 [] 0)=some v5/\True)/\(br G7 (.own (iy)) fun i8 G9=>br G9 (.own (mw)) fun i10 G11=>wg (aF T G11 bW (.ptr i8 [] 0) v6) fun G12=>(ag T G12 bn (.ptr i1 [] 0)=some v5/\True)/\(wg (aF T G12 bn (.ptr i10 [] 0) v5) fun G13=>∀ R14:List ah->ak->Prop,
 (∀ (x16 x17 x18 x19 x20 x21:ah) (G15:ak),(wv (az T .lss ay x21 (.int .i64 64)) fun v22=>brB (some v22)
 (wv (aO T bn x20 (.int .i64 4)) fun v23=>wv (ag T G15 aJ v23) fun v24=>wv (aO T bn x20 (.int .i64 0)) fun v25=>wv (ag T G15 aJ v25) fun v26=>wv (aO T bn x20 (.int .i64 7)) fun v27=>wv (ag T G15 aJ v27) fun v28=>wv (aO T bn x20 (.int .i64 5)) fun v29=>wv (ag T G15 aJ v29) fun v30=>wv (az T .and aJ v24 v30) fun v31=>wv (vun .xor v24) fun v32=>wv (aO T bn x20 (.int .i64 6)) fun v33=>wv (ag T G15 aJ v33) fun v34=>wv (az T .and aJ v32 v34) fun v35=>wv (az T .xor aJ v31 v35) fun v36=>wv (lr x16) fun v37=>wv (aO T bW v37 x21) fun v38=>wv (ag T G15 aJ v38) fun v39=>wv (aO T bW x19 x21) fun v40=>wv (ag T G15 aJ v40) fun v41=>al P bL.n [v24,.int .i64 (-6)] G15 fun v42 G43=>(ag T G43 aJ v40=some v41/\ag T G43 aJ v38=some v39/\ag T G43 aJ v33=some v34/\ag T G43 aJ v29=some v30/\ag T G43 aJ v27=some v28/\True)/\(al P bL.n [v24,.int .i64 (-11)] G43 fun v44 G45=>(ag T G45 aJ v40=some v41/\ag T G45 aJ v38=some v39/\ag T G45 aJ v33=some v34/\ag T G45 aJ v29=some v30/\ag T G45 aJ v27=some v28/\True)/\(wv (az T .xor aJ v42 v44) fun v46=>al P bL.n [v24,.int .i64 (-25)] G45 fun v47 G48=>(ag T G48 aJ v40=some v41/\ag T G48 aJ v38=some v39/\ag T G48 aJ v33=some v34/\ag T G48 aJ v29=some v30/\ag T G48 aJ v27=some v28/\True)/\(wv (az T .xor aJ v46 v47) fun v49=>wv (az T .add aJ v28 v49) fun v50=>wv (az T .add aJ v50 v36) fun v51=>wv (az T .add aJ v51 v39) fun v52=>wv (az T .add aJ v52 v41) fun v53=>wv (aO T bn x20 (.int .i64 1)) fun v54=>wv (ag T G48 aJ v54) fun v55=>wv (az T .and aJ v26 v55) fun v56=>wv (aO T bn x20 (.int .i64 2)) fun v57=>wv (ag T G48 aJ v57) fun v58=>wv (az T .and aJ v26 v58) fun v59=>wv (az T .xor aJ v56 v59) fun v60=>wv (aO T bn x20 (.int .i64 1)) fun v61=>wv (ag T G48 aJ v61) fun v62=>wv (aO T bn x20 (.int .i64 2)) fun v63=>wv (ag T G48 aJ v63) fun v64=>wv (az T .and aJ v62 v64) fun v65=>wv (az T .xor aJ v60 v65) fun v66=>al P bL.n [v26,.int .i64 (-2)] G48 fun v67 G68=>(ag T G68 aJ v63=some v64/\ag T G68 aJ v61=some v62/\ag T G68 aJ v57=some v58/\ag T G68 aJ v54=some v55/\True)/\(al P bL.n [v26,.int .i64 (-13)] G68 fun v69 G70=>(ag T G70 aJ v63=some v64/\ag T G70 aJ v61=some v62/\ag T G70 aJ v57=some v58/\ag T G70 aJ v54=some v55/\True)/\(wv (az T .xor aJ v67 v69) fun v71=>al P bL.n [v26,.int .i64 (-22)] G70 fun v72 G73=>(ag T G73 aJ v63=some v64/\ag T G73 aJ v61=some v62/\ag T G73 aJ v57=some v58/\ag T G73 aJ v54=some v55/\True)/\(wv (az T .xor aJ v71 v72) fun v74=>wv (az T .add aJ v74 v66) fun v75=>wv (az T .add aJ v53 v75) fun v76=>wv (aO T bn x20 (.int .i64 1)) fun v77=>wv (ag T G73 aJ v77) fun v78=>wv (aO T bn x20 (.int .i64 2)) fun v79=>wv (ag T G73 aJ v79) fun v80=>wv (aO T bn x20 (.int .i64 3)) fun v81=>wv (ag T G73 aJ v81) fun v82=>wv (az T .add aJ v82 v53) fun v83=>wv (aO T bn x20 (.int .i64 5)) fun v84=>wv (ag T G73 aJ v84) fun v85=>wv (aO T bn x20 (.int .i64 6)) fun v86=>wv (ag T G73 aJ v86) fun v87=>wv (bj T bn [(0,v76),(1,v26),(2,v78),(3,v80),(4,v83),(5,v24),(6,v85),(7,v87)]) fun v88=>wg (aF T G73 bn x20 v88) fun G89=>wv (az T .add ay x21 (.int .i64 1)) fun v90=>R14 [x16,x17,x18,x19,x20,v90] G89)))))))
 (∀ R91:List ah->ak->Prop,
 (∀ (x93 x94 x95 x96:ah) (G92:ak),(wv (az T .lss ay x96 (.int .i64 8)) fun v97=>brB (some v97)
 (wv (aO T bn x95 x96) fun v98=>wv (ag T G92 aJ v98) fun v99=>wv (aO T bn x93 x96) fun v100=>wv (ag T G92 aJ v100) fun v101=>wv (az T .add aJ v99 v101) fun v102=>wv (aO T bn x95 x96) fun v103=>wg (aF T G92 aJ v103 v102) fun G104=>wv (az T .add ay x96 (.int .i64 1)) fun v105=>R91 [x93,x94,x95,v105] G104)
 (wv (ag T G92 bn x95) fun v106=>wg (aF T G92 bn x94 v106) fun G107=>wv (ag T G107 bn x94) fun v108=>Q v108 G107))->R91 [x93,x94,x95,x96] G92) ->
 R91 [x17,x18,x20,.int .i64 0] G15))->R14 [x16,x17,x18,x19,x20,x21] G15) ->
 R14 [a2,.ptr i1 [] 0,.ptr i3 [] 0,.ptr i8 [] 0,.ptr i10 [] 0,.int .i64 0] G13))
def jv.an:Ann:=.two .nil (.two (.ord [(0,[]),(2,[]),(1,[2]),(3,[]),(4,[]),(5,[2]),(6,[])]) (.two (.two .nil (.loop [2,3,6,7,8,18] [false,false,false,false,false,false] (.two .nil (.two .nil (.two (.two .nil (.two (.ord [(0,[]),(1,[]),(2,[]),(3,[]),(4,[]),(5,[])]) (.two (.ord [(0,[]),(1,[]),(2,[]),(4,[]),(7,[]),(11,[]),(12,[]),(13,[]),(14,[]),(15,[]),(16,[]),(17,[]),(18,[]),(19,[]),(20,[]),(22,[]),(23,[]),(24,[]),(25,[]),(26,[]),(28,[]),(29,[]),(30,[]),(3,[1,13,18,26,30]),(5,[1,13,18,26,30]),(6,[]),(8,[1,13,18,26,30]),(9,[]),(10,[]),(21,[]),(27,[]),(31,[]),(32,[])]) (.two (.ord [(0,[]),(2,[]),(5,[]),(8,[]),(9,[]),(10,[]),(11,[]),(12,[]),(13,[]),(14,[]),(15,[]),(16,[]),(17,[]),(18,[]),(19,[]),(20,[]),(21,[]),(22,[]),(1,[10,14,18,20]),(3,[10,14,18,20]),(4,[]),(6,[10,14,18,20]),(7,[]),(23,[]),(24,[])]) .nil)))) .nil))))) (.two (.two .nil (.loop [3,6,8,100] [false,false,false,false] (.two .nil (.two .nil (.two (.two .nil (.ord [(0,[]),(1,[]),(2,[]),(3,[]),(4,[]),(5,[]),(6,[]),(7,[]),(8,[])])) .nil))))) .nil)))
theorem jv.sound {a0 a1 a2:ah}(h:jv.S a0 a1 a2 G Q):al P jv.n [a0,a1,a2] G Q:=by
 have e:jv.S a0 a1 a2 G Q=awp cx jv.body jv.an (bG T [.cell 6 135] Q) (cC [a0,a1,a2]) G:=by kernel_rfl
 refine aD cF Tryz.func76 ?_ ?_ ?_ (aH ?_ ?_) (by simp[Tryz.f76]) (e.mp h)<;>kernel_rfl
def jh.S (a0:ah) (G:ak) (Q:ah->ak->Prop):Prop:=
 br G (.own (dm)) fun i1 G2=>al P strings_Join.n [a0,.str []] G2 fun v3 G4=>wv (fU T G4 bH v3) fun v5=>bu T aR 1 [(0,.int .u8 128)] G4 fun v6 G7=>∀ R8:List ah->ak->Prop,
 (∀ (x10 x11 x12 x13:ah) (G9:ak),(wv (fU T G9 aR x13) fun v14=>wv (az T .add ay x12 v14) fun v15=>wv (az T .rem ay v15 (.int .i64 64)) fun v16=>wv (az T .neq ay v16 (.int .i64 56)) fun v17=>brB (some v17)
 (bu T aR 1 [(0,.int .u8 0)] G9 fun v18 G19=>cn T G19 aR aR x13 v18 fun v20 G21=>R8 [x10,x11,x12,v20] G21)
 (∀ R22:List ah->ak->Prop,
 (∀ (x24 x25 x26 x27 x28:ah) (G23:ak),(wv (az T .lss ay x28 (.int .i64 8)) fun v29=>brB (some v29)
 (wv (az T .mul ay (.int .i64 8) x26) fun v30=>wv (gv T G23 ay j1 v30) fun v31=>wv (az T .mul ay (.int .i64 8) x28) fun v32=>wv (az T .sub ay (.int .i64 56) v32) fun v33=>wv (az T .shr j1 v31 v33) fun v34=>wv (gv T G23 j1 cm v34) fun v35=>bu T aR 1 [(0,v35)] G23 fun v36 G37=>cn T G37 aR aR x27 v36 fun v38 G39=>wv (az T .add ay x28 (.int .i64 1)) fun v40=>R22 [x24,x25,x26,v38,v40] G39)
 (wv (gv T G23 aR bH x27) fun v41=>wv (az T .add bH x25 v41) fun v42=>wv (bj T bn [(0,.int .u32 1779033703),(1,.int .u32 3144134277),(2,.int .u32 1013904242),(3,.int .u32 2773480762),(4,.int .u32 1359893119),(5,.int .u32 2600822924),(6,.int .u32 528734635),(7,.int .u32 1541459225)]) fun v43=>br G23 (.own (mw)) fun i44 G45=>wg (aF T G45 bn (.ptr i44 [] 0) v43) fun G46=>al P gV.n [] G46 fun v47 G48=>br G48 (.own (iy)) fun i49 G50=>wg (aF T G50 bW (.ptr i49 [] 0) v47) fun G51=>∀ R52:List ah->ak->Prop,
 (∀ (x54 x55 x56 x57:ah) (G53:ak),(wv (az T .neq bH x55 (.str [])) fun v58=>brB (some v58)
 (wv (ag T G53 bn x56) fun v59=>wv (dV T bH x55 none (some (.int .i64 64)) none) fun v60=>al P jv.n [v59,v60,x57] G53 fun v61 G62=>wg (aF T G62 bn x56 v61) fun G63=>wv (dV T bH x55 (some (.int .i64 64)) none none) fun v64=>R52 [x54,v64,x56,x57] G63)
 (br G53 (.own (dm)) fun i65 G66=>∀ R67:List ah->ak->Prop,
 (∀ (x69 x70 x71 x72:ah) (G68:ak),(wv (az T .lss ay x72 (.int .i64 32)) fun v73=>brB (some v73)
 (wv (az T .quo ay x72 (.int .i64 4)) fun v74=>wv (aO T bn x70 v74) fun v75=>wv (ag T G68 aJ v75) fun v76=>wv (az T .rem ay x72 (.int .i64 4)) fun v77=>wv (az T .mul ay (.int .i64 8) v77) fun v78=>wv (az T .sub ay (.int .i64 24) v78) fun v79=>wv (az T .shr aJ v76 v79) fun v80=>wv (gv T G68 aJ cm v80) fun v81=>wv (aO T ar x71 x72) fun v82=>wg (aF T G68 cm v82 v81) fun G83=>wv (az T .add ay x72 (.int .i64 1)) fun v84=>R67 [x69,x70,x71,v84] G83)
 (wv (ag T G68 ar x71) fun v85=>wg (aF T G68 ar x69 v85) fun G86=>wv (ag T G86 ar x69) fun v87=>Q v87 G86))->R67 [x69,x70,x71,x72] G68) ->
 R67 [x54,x56,.ptr i65 [] 0,.int .i64 0] G66))->R52 [x54,x55,x56,x57] G53) ->
 R52 [x24,v42,.ptr i44 [] 0,.ptr i49 [] 0] G51))->R22 [x24,x25,x26,x27,x28] G23) ->
 R22 [x10,x11,x12,x13,.int .i64 0] G9))->R8 [x10,x11,x12,x13] G9) ->
 R8 [.ptr i1 [] 0,v3,v5,v6] G7
def jh.an:Ann:=.two .nil (.two .nil (.two .nil (.two .nil (.two (.loop [2,3,4,5] [false,false,false,false] .nil) (.two (.two .nil (.loop [2,3,4,5,25] [false,false,false,false,false] .nil)) (.two .nil (.two .nil (.two .nil (.two (.loop [2,3,7,8] [false,false,false,false] (.two .nil (.two (.ord [(0,[]),(1,[]),(2,[]),(3,[]),(4,[])]) .nil))) (.two .nil (.two (.two .nil (.loop [2,7,9,54] [false,false,false,false] .nil)) .nil)))))))))))
theorem jh.sound {a0:ah}(h:jh.S a0 G Q):al P jh.n [a0] G Q:=by
 have e:jh.S a0 G Q=awp cx jh.body jh.an (bG T [.cell 2 23] Q) (cC [a0]) G:=by kernel_rfl
 refine aD cF Tryz.func30 ?_ ?_ ?_ (aH ?_ ?_) (by simp[Tryz.f30]) (e.mp h)<;>kernel_rfl
def iz.S (a0:ah) (G:ak) (Q:ah->ak->Prop):Prop:=
 br G (.own a0) fun i1 G2=>br G2 (.own (dm)) fun i3 G4=>wv (dV T ar (.ptr i1 [] 0) none none none) fun v5=>wv (gv T G4 aR bH v5) fun v6=>bu T iE 1 [(0,v6)] G4 fun v7 G8=>al P jh.n [v7] G8 fun v9 G10=>wg (aF T G10 ar (.ptr i3 [] 0) v9) fun G11=>wv (ag T G11 ar (.ptr i3 [] 0)) fun v12=>Q v12 G11
def iz.an:Ann:=.nil
theorem iz.sound {a0:ah}(h:iz.S a0 G Q):al P iz.n [a0] G Q:=by
 have e:iz.S a0 G Q=awp cx iz.body iz.an (bG T [.cell 2 23] Q) (cC [a0]) G:=by kernel_rfl
 refine aD cF Tryz.func114 ?_ ?_ ?_ (aH ?_ ?_) (by simp[Tryz.f114]) (e.mp h)<;>kernel_rfl
def j2.S (a0 a1 a2:ah) (G:ak) (Q:ah->ak->Prop):Prop:=
 br G (.own a0) fun i1 G2=>br G2 (.own (dm)) fun i3 G4=>∀ R5:List ah->ak->Prop,
 (∀ (x7 x8 x9 x10 x11 x12:ah) (G6:ak),(wv (az T .lss ay x12 x11) fun v13=>brB (some v13)
 (wv (az T .sub ay x8 (.int .i64 1)) fun v14=>wv (az T .sub ay v14 x12) fun v15=>wv (az T .shr aq x7 v15) fun v16=>wv (az T .and aq v16 (.int .i64 1)) fun v17=>wv (az T .eql aq v17 (.int .i64 1)) fun v18=>brB (some v18)
 (wv (az T .quo ay v15 (.int .i64 8)) fun v19=>wv (aO T ar x9 v19) fun v20=>wv (ag T G6 cm v20) fun v21=>wv (az T .rem ay v15 (.int .i64 8)) fun v22=>wv (az T .shl cm (.int .u8 1) v22) fun v23=>wv (az T .xor cm v21 v23) fun v24=>wv (aO T ar x9 v19) fun v25=>wg (aF T G6 cm v25 v24) fun G26=>wv (ag T G26 ar x9) fun v27=>al P iz.n [v27] G26 fun v28 G29=>wg (aF T G29 ar x9 v28) fun G30=>wv (az T .add ay x12 (.int .i64 1)) fun v34=>R5 [x7,x8,x9,x10,x11,v34] G30)
 (wv (az T .add ay x12 (.int .i64 1)) fun v35=>R5 [x7,x8,x9,x10,x11,v35] G6))
 (wv (ag T G6 ar x9) fun v36=>wg (aF T G6 ar x10 v36) fun G37=>wv (ag T G37 ar x10) fun v38=>Q v38 G37))->R5 [x7,x8,x9,x10,x11,x12] G6) ->
 R5 [a1,a2,.ptr i1 [] 0,.ptr i3 [] 0,a2,.int .i64 0] G4
def j2.an:Ann:=.two .nil (.two (.two .nil (.loop [1,2,3,6,9,10] [false,false,false,false,false,false] (.two .nil (.two .nil (.two (.two .nil (.two .nil (.two .nil (.two (.two (.ord [(0,[]),(1,[]),(2,[]),(3,[]),(4,[]),(5,[]),(6,[]),(7,[]),(8,[]),(9,[])]) .nil) .nil)))) .nil))))) .nil)
theorem j2.sound {a0 a1 a2:ah}(h:j2.S a0 a1 a2 G Q):al P j2.n [a0,a1,a2] G Q:=by
 have e:j2.S a0 a1 a2 G Q=awp cx j2.body j2.an (bG T [.cell 6 23] Q) (cC [a0,a1,a2]) G:=by kernel_rfl
 refine aD cF Tryz.func164 ?_ ?_ ?_ (aH ?_ ?_) (by simp[Tryz.f164]) (e.mp h)<;>kernel_rfl
def im.S (a0 a1:ah) (G:ak) (Q:ah->ak->Prop):Prop:=
 br G (.own a0) fun i1 G2=>br G2 (.own (dm)) fun i3 G4=>al P iQ.n [a1] G4 fun v5 G6=>wv (vun .not v5) fun v7=>brB (some v7)
 (wv (bj T ar []) fun v8=>wg (aF T G6 ar (.ptr i3 [] 0) v8) fun G9=>wv (ag T G9 ar (.ptr i3 [] 0)) fun v10=>Q (.tuple [v10,.int .i64 90]) G9)
 (wv (ag T G6 ar (.ptr i1 [] 0)) fun v11=>al P gS.n [a1] G6 fun v12 G13=>(ag T G13 ar (.ptr i1 [] 0)=some v11/\True)/\(al P j2.n [v11,v12,.int .i64 48] G13 fun v14 G15=>wg (aF T G15 ar (.ptr i3 [] 0) v14) fun G16=>wv (ag T G16 ar (.ptr i3 [] 0)) fun v17=>Q (.tuple [v17,.int .i64 0]) G16))
def im.an:Ann:=.two .nil (.two .nil (.two (.ord [(0,[]),(1,[]),(2,[0]),(3,[]),(4,[]),(5,[])]) .nil))
theorem im.sound {a0 a1:ah}(h:im.S a0 a1 G Q):al P im.n [a0,a1] G Q:=by
 have e:im.S a0 a1 G Q=awp cx im.body im.an (bG T [.cell 4 23,.tmp 5] Q) (cC [a0,a1]) G:=by kernel_rfl
 refine aD cF Tryz.func113 ?_ ?_ ?_ (aH ?_ ?_) (by simp[Tryz.f113]) (e.mp h)<;>kernel_rfl
def iW.S (a0:ah) (G:ak) (Q:ah->ak->Prop):Prop:=
 br G (.own a0) fun i1 G2=>let J62:ah->ak->Prop:=(fun x12 G11=>brB (some x12)
 (Q (.bool false) G11)
 (br G11 (.map []) fun i13 G14=>br G14 (.map []) fun i15 G16=>gD T G16 lR (.map i15) (.bool true) (.int .i64 (-1)) fun G17=>gD T G17 lR (.map i15) (.bool false) (.int .i64 (-1)) fun G18=>wv (ag T G18 aw (.ptr i1 [2] 2)) fun v19=>wv (fU T G18 aw v19) fun v20=>∀ R21:List ah->ak->Prop,
 (∀ (x23 x24 x25 x26 x27:ah) (G22:ak),(wv (az T .lss ay x27 x26) fun v28=>brB (some v28)
 (wv (aO T aw x25 x27) fun v29=>wv (ag T G22 aT v29) fun v30=>br G22 (.own (jQ)) fun i31 G32=>wg (aF T G32 aT (.ptr i31 [] 0) v30) fun G33=>let J54:ah->ak->Prop:=(fun x46 G45=>brB (some x46)
 (Q (.bool false) G45)
 (wv (ag T G45 du (.ptr i31 [0] 0)) fun v47=>wv (ag T G45 aq (.ptr i31 [1] 1)) fun v48=>gD T G45 lR x24 v47 v48 fun G49=>wv (ag T G49 du (.ptr i31 [0] 0)) fun v50=>wv (jg T G49 lY x23 v50 false) fun v51=>wv (az T .add ay v51 (.int .i64 1)) fun v52=>gD T G49 lY x23 v50 v52 fun G53=>wv (az T .add ay x27 (.int .i64 1)) fun v55=>R21 [x23,x24,x25,x26,v55] G53));
 wv (ag T G33 aq (.ptr i31 [2] 2)) fun v34=>wv (az T .lss aq v34 (.int .i64 1)) fun v35=>brB (some v35)
 (J54 (.bool true) G33)
 (wv (ag T G33 aq (.ptr i31 [2] 2)) fun v36=>wv (az T .gtr aq v36 (.int .i64 1152921504606846976)) fun v37=>brB (some v37)
 (J54 (.bool true) G33)
 (wv (ag T G33 aq (.ptr i31 [1] 1)) fun v38=>wv (ag T G33 du (.ptr i31 [0] 0)) fun v39=>wv (jg T G33 lR x24 v39 false) fun v40=>wv (az T .leq aq v38 v40) fun v41=>brB (some v41)
 (J54 (.bool true) G33)
 (wv (ag T G33 du (.ptr i31 [0] 0)) fun v42=>brB (some v42)
 (wv (jg T G33 lY x23 (.bool false) false) fun v43=>wv (az T .gtr ay v43 (.int .i64 0)) fun v44=>J54 v44 G33)
 (J54 (.bool false) G33)))))
 (wv (jg T G22 lY x23 (.bool true) false) fun v56=>wv (az T .leq ay v56 (.int .i64 483)) fun v57=>brB (some v57)
 (wv (jg T G22 lY x23 (.bool false) false) fun v58=>wv (az T .leq ay v58 (.int .i64 483)) fun v59=>Q v59 G22)
 (Q (.bool false) G22)))->R21 [x23,x24,x25,x26,x27] G22) ->
 R21 [.map i13,.map i15,v19,v20,.int .i64 0] G18));
 wv (ag T G2 aq (.ptr i1 [0] 0)) fun v3=>wv (az T .lss aq v3 (.int .i64 0)) fun v4=>brB (some v4)
 (J62 (.bool true) G2)
 (wv (ag T G2 aq (.ptr i1 [0] 0)) fun v5=>wv (az T .gtr aq v5 (.int .i64 1152921504606846976)) fun v6=>brB (some v6)
 (J62 (.bool true) G2)
 (wv (ag T G2 aq (.ptr i1 [1] 1)) fun v7=>wv (az T .lss aq v7 (.int .i64 0)) fun v8=>brB (some v8)
 (J62 (.bool true) G2)
 (wv (ag T G2 aq (.ptr i1 [1] 1)) fun v9=>wv (az T .gtr aq v9 (.int .i64 1152921504606846976)) fun v10=>J62 v10 G2)))
def iW.an:Ann:=.two .nil (.two .nil (.two .nil (.two .nil (.two (.two .nil (.loop [3,4,29,30,31] [false,false,false,false,false] .nil)) .nil))))
theorem iW.sound {a0:ah}(h:iW.S a0 G Q):al P iW.n [a0] G Q:=by
 have e:iW.S a0 G Q=awp cx iW.body iW.an (bG T [.tmp 2] Q) (cC [a0]) G:=by kernel_rfl
 refine aD cF Tryz.func170 ?_ ?_ ?_ (aH ?_ ?_) (by simp[Tryz.f170]) (e.mp h)<;>kernel_rfl
def jV.S (G:ak) (Q:ah->ak->Prop):Prop:=
 wv (bj T fK []) fun v1=>br G (.own (v1)) fun i2 G3=>Q (.ptr i2 [] 0) G3
def jV.an:Ann:=.nil
theorem jV.sound (h:jV.S G Q):al P jV.n [] G Q:=by
 have e:jV.S G Q=awp cx jV.body jV.an (bG T [.tmp 0] Q) (cC []) G:=by kernel_rfl
 refine aD cF Tryz.func171 ?_ ?_ ?_ (aH ?_ ?_) (by simp[Tryz.f171]) (e.mp h)<;>kernel_rfl
def gh.S (a0 a1 a2:ah) (G:ak) (Q:ah->ak->Prop):Prop:=
 wv (lr a0) fun v1=>wv (bt T fK v1 1) fun v2=>wv (ag T G bD v2) fun v3=>wv (az T .neq bD v3 (.int .i64 0)) fun v4=>brB (some v4)
 (Q (.tuple []) G)
 (wv (az T .sub ay a2 (.int .i64 1)) fun v5=>∀ R6:List ah->ak->Prop,
 (∀ (x8 x9 x10:ah) (G7:ak),(wv (az T .geq ay x10 (.int .i64 0)) fun v11=>brB (some v11)
 (wv (lr x8) fun v12=>wv (bt T fK v12 0) fun v13=>wv (ag T G7 aR v13) fun v14=>wv (gv T G7 cm j1 x9) fun v15=>wv (az T .mul ay (.int .i64 8) x10) fun v16=>wv (az T .shr j1 v15 v16) fun v17=>wv (gv T G7 j1 cm v17) fun v18=>bu T aR 1 [(0,v18)] G7 fun v19 G20=>cn T G20 aR aR v14 v19 fun v21 G22=>wv (lr x8) fun v23=>wv (bt T fK v23 0) fun v24=>wg (aF T G22 aR v24 v21) fun G25=>wv (az T .sub ay x10 (.int .i64 1)) fun v26=>R6 [x8,x9,v26] G25)
 (Q (.tuple []) G7))->R6 [x8,x9,x10] G7) ->
 R6 [a0,a1,v5] G)
def gh.an:Ann:=.two .nil (.two .nil (.loop [0,1,6] [false,false,false] (.two .nil (.two (.ord [(0,[]),(1,[]),(2,[]),(3,[]),(4,[]),(5,[]),(6,[]),(7,[]),(8,[]),(9,[]),(10,[]),(11,[]),(12,[]),(13,[]),(14,[]),(15,[])]) .nil))))
theorem gh.sound {a0 a1 a2:ah}(h:gh.S a0 a1 a2 G Q):al P gh.n [a0,a1,a2] G Q:=by
 have e:gh.S a0 a1 a2 G Q=awp cx gh.body gh.an (bG T [] Q) (cC [a0,a1,a2]) G:=by kernel_rfl
 refine aD cF Tryz.func207 ?_ ?_ ?_ (aH ?_ ?_) (by simp[Tryz.f207]) (e.mp h)<;>kernel_rfl
def eo.S (a0 a1:ah) (G:ak) (Q:ah->ak->Prop):Prop:=
 al P gh.n [a0,a1,.int .i64 1] G fun v1 G2=>Q (.tuple []) G2
def eo.an:Ann:=.nil
theorem eo.sound {a0 a1:ah}(h:eo.S a0 a1 G Q):al P eo.n [a0,a1] G Q:=by
 have e:eo.S a0 a1 G Q=awp cx eo.body eo.an (bG T [] Q) (cC [a0,a1]) G:=by kernel_rfl
 refine aD cF Tryz.func172 ?_ ?_ ?_ (aH ?_ ?_) (by simp[Tryz.f172]) (e.mp h)<;>kernel_rfl
def fD.S (a0 a1 a2:ah) (G:ak) (Q:ah->ak->Prop):Prop:=
 wv (lr a0) fun v1=>wv (bt T fK v1 1) fun v2=>wv (ag T G bD v2) fun v3=>wv (az T .neq bD v3 (.int .i64 0)) fun v4=>brB (some v4)
 (Q (.tuple []) G)
 (wv (az T .sub ay a2 (.int .i64 1)) fun v5=>∀ R6:List ah->ak->Prop,
 (∀ (x8 x9 x10:ah) (G7:ak),(wv (az T .geq ay x10 (.int .i64 0)) fun v11=>brB (some v11)
 (wv (lr x8) fun v12=>wv (bt T fK v12 0) fun v13=>wv (ag T G7 aR v13) fun v14=>wv (az T .mul ay (.int .i64 8) x10) fun v15=>wv (az T .shr j1 x9 v15) fun v16=>wv (gv T G7 j1 cm v16) fun v17=>bu T aR 1 [(0,v17)] G7 fun v18 G19=>cn T G19 aR aR v14 v18 fun v20 G21=>wv (lr x8) fun v22=>wv (bt T fK v22 0) fun v23=>wg (aF T G21 aR v23 v20) fun G24=>wv (az T .sub ay x10 (.int .i64 1)) fun v25=>R6 [x8,x9,v25] G24)
 (Q (.tuple []) G7))->R6 [x8,x9,x10] G7) ->
 R6 [a0,a1,v5] G)
def fD.an:Ann:=.two .nil (.two .nil (.loop [0,1,6] [false,false,false] (.two .nil (.two (.ord [(0,[]),(1,[]),(2,[]),(3,[]),(4,[]),(5,[]),(6,[]),(7,[]),(8,[]),(9,[]),(10,[]),(11,[]),(12,[]),(13,[]),(14,[])]) .nil))))
theorem fD.sound {a0 a1 a2:ah}(h:fD.S a0 a1 a2 G Q):al P fD.n [a0,a1,a2] G Q:=by
 have e:fD.S a0 a1 a2 G Q=awp cx fD.body fD.an (bG T [] Q) (cC [a0,a1,a2]) G:=by kernel_rfl
 refine aD cF Tryz.func208 ?_ ?_ ?_ (aH ?_ ?_) (by simp[Tryz.f208]) (e.mp h)<;>kernel_rfl
def cB.S (a0 a1:ah) (G:ak) (Q:ah->ak->Prop):Prop:=
 wv (gv T G aq j1 a1) fun v1=>al P fD.n [a0,v1,.int .i64 8] G fun v2 G3=>Q (.tuple []) G3
def cB.an:Ann:=.nil
theorem cB.sound {a0 a1:ah}(h:cB.S a0 a1 G Q):al P cB.n [a0,a1] G Q:=by
 have e:cB.S a0 a1 G Q=awp cx cB.body cB.an (bG T [] Q) (cC [a0,a1]) G:=by kernel_rfl
 refine aD cF Tryz.func173 ?_ ?_ ?_ (aH ?_ ?_) (by simp[Tryz.f173]) (e.mp h)<;>kernel_rfl
def fF.S (a0 a1:ah) (G:ak) (Q:ah->ak->Prop):Prop:=
 wv (lr a0) fun v1=>wv (bt T fK v1 1) fun v2=>wv (ag T G bD v2) fun v3=>wv (az T .eql bD v3 (.int .i64 0)) fun v4=>brB (some v4)
 (wv (lr a0) fun v5=>wv (bt T fK v5 0) fun v6=>wv (ag T G aR v6) fun v7=>cn T G aR bH v7 a1 fun v8 G9=>wv (lr a0) fun v10=>wv (bt T fK v10 0) fun v11=>wg (aF T G9 aR v11 v8) fun G12=>Q (.tuple []) G12)
 (Q (.tuple []) G)
def fF.an:Ann:=.nil
theorem fF.sound {a0 a1:ah}(h:fF.S a0 a1 G Q):al P fF.n [a0,a1] G Q:=by
 have e:fF.S a0 a1 G Q=awp cx fF.body fF.an (bG T [] Q) (cC [a0,a1]) G:=by kernel_rfl
 refine aD cF Tryz.func209 ?_ ?_ ?_ (aH ?_ ?_) (by simp[Tryz.f209]) (e.mp h)<;>kernel_rfl
def dG.S (a0 a1:ah) (G:ak) (Q:ah->ak->Prop):Prop:=
 br G (.own a1) fun i1 G2=>wv (dV T ar (.ptr i1 [] 0) none none none) fun v3=>wv (gv T G2 aR bH v3) fun v4=>al P fF.n [a0,v4] G2 fun v5 G6=>Q (.tuple []) G6
def dG.an:Ann:=.nil
theorem dG.sound {a0 a1:ah}(h:dG.S a0 a1 G Q):al P dG.n [a0,a1] G Q:=by
 have e:dG.S a0 a1 G Q=awp cx dG.body dG.an (bG T [] Q) (cC [a0,a1]) G:=by kernel_rfl
 refine aD cF Tryz.func174 ?_ ?_ ?_ (aH ?_ ?_) (by simp[Tryz.f174]) (e.mp h)<;>kernel_rfl
def fE.S (a0 a1 a2:ah) (G:ak) (Q:ah->ak->Prop):Prop:=
 wv (lr a0) fun v1=>wv (bt T fK v1 1) fun v2=>wv (ag T G bD v2) fun v3=>wv (az T .neq bD v3 (.int .i64 0)) fun v4=>brB (some v4)
 (Q (.tuple []) G)
 (wv (az T .sub ay a2 (.int .i64 1)) fun v5=>∀ R6:List ah->ak->Prop,
 (∀ (x8 x9 x10:ah) (G7:ak),(wv (az T .geq ay x10 (.int .i64 0)) fun v11=>brB (some v11)
 (wv (lr x8) fun v12=>wv (bt T fK v12 0) fun v13=>wv (ag T G7 aR v13) fun v14=>wv (gv T G7 zH j1 x9) fun v15=>wv (az T .mul ay (.int .i64 8) x10) fun v16=>wv (az T .shr j1 v15 v16) fun v17=>wv (gv T G7 j1 cm v17) fun v18=>bu T aR 1 [(0,v18)] G7 fun v19 G20=>cn T G20 aR aR v14 v19 fun v21 G22=>wv (lr x8) fun v23=>wv (bt T fK v23 0) fun v24=>wg (aF T G22 aR v24 v21) fun G25=>wv (az T .sub ay x10 (.int .i64 1)) fun v26=>R6 [x8,x9,v26] G25)
 (Q (.tuple []) G7))->R6 [x8,x9,x10] G7) ->
 R6 [a0,a1,v5] G)
def fE.an:Ann:=.two .nil (.two .nil (.loop [0,1,6] [false,false,false] (.two .nil (.two (.ord [(0,[]),(1,[]),(2,[]),(3,[]),(4,[]),(5,[]),(6,[]),(7,[]),(8,[]),(9,[]),(10,[]),(11,[]),(12,[]),(13,[]),(14,[]),(15,[])]) .nil))))
theorem fE.sound {a0 a1 a2:ah}(h:fE.S a0 a1 a2 G Q):al P fE.n [a0,a1,a2] G Q:=by
 have e:fE.S a0 a1 a2 G Q=awp cx fE.body fE.an (bG T [] Q) (cC [a0,a1,a2]) G:=by kernel_rfl
 refine aD cF Tryz.func210 ?_ ?_ ?_ (aH ?_ ?_) (by simp[Tryz.f210]) (e.mp h)<;>kernel_rfl
def fV.S (a0 a1:ah) (G:ak) (Q:ah->ak->Prop):Prop:=
 al P fE.n [a0,a1,.int .i64 2] G fun v1 G2=>Q (.tuple []) G2
def fV.an:Ann:=.nil
theorem fV.sound {a0 a1:ah}(h:fV.S a0 a1 G Q):al P fV.n [a0,a1] G Q:=by
 have e:fV.S a0 a1 G Q=awp cx fV.body fV.an (bG T [] Q) (cC [a0,a1]) G:=by kernel_rfl
 refine aD cF Tryz.func175 ?_ ?_ ?_ (aH ?_ ?_) (by simp[Tryz.f175]) (e.mp h)<;>kernel_rfl
def fG.S (a0:ah) (G:ak) (Q:ah->ak->Prop):Prop:=
 wv (lr a0) fun v1=>wv (bt T fK v1 1) fun v2=>wv (ag T G bD v2) fun v3=>wv (az T .neq bD v3 (.int .i64 0)) fun v4=>brB (some v4)
 (wv (lr a0) fun v5=>wv (bt T fK v5 1) fun v6=>wv (ag T G bD v6) fun v7=>Q (.tuple [.str [],v7]) G)
 (wv (lr a0) fun v8=>wv (bt T fK v8 0) fun v9=>wv (ag T G aR v9) fun v10=>wv (gv T G aR bH v10) fun v11=>Q (.tuple [v11,.int .i64 0]) G)
def fG.an:Ann:=.two .nil (.two (.two .nil (.two (.two (.ord [(0,[]),(1,[]),(2,[]),(3,[]),(4,[]),(5,[])]) .nil) .nil)) .nil)
theorem fG.sound {a0:ah}(h:fG.S a0 G Q):al P fG.n [a0] G Q:=by
 have e:fG.S a0 G Q=awp cx fG.body fG.an (bG T [.tmp 2,.tmp 3] Q) (cC [a0]) G:=by kernel_rfl
 refine aD cF Tryz.func176 ?_ ?_ ?_ (aH ?_ ?_) (by simp[Tryz.f176]) (e.mp h)<;>kernel_rfl
def iN.S (a0 a1 a2 a3:ah) (G:ak) (Q:ah->ak->Prop):Prop:=
 br G (.own a2) fun i1 G2=>br G2 (.own a3) fun i3 G4=>let J71:ah->ak->Prop:=(fun x10 G9=>brB (some x10)
 (Q (.tuple [.str [],.int .i64 1]) G9)
 (wv (ag T G9 aX (.ptr i3 [] 0)) fun v11=>al P iW.n [v11] G9 fun v12 G13=>wv (vun .not v12) fun v14=>brB (some v14)
 (Q (.tuple [.str [],.int .i64 4]) G13)
 (al P jV.n [] G13 fun v15 G16=>wv (gv T G16 ay cm a0) fun v17=>al P eo.n [v15,v17] G16 fun v18 G19=>al P cB.n [v15,a1] G19 fun v20 G21=>wv (ag T G21 ar (.ptr i1 [] 0)) fun v22=>al P dG.n [v15,v22] G21 fun v23 G24=>wv (ag T G24 aq (.ptr i3 [0] 0)) fun v25=>al P cB.n [v15,v25] G24 fun v26 G27=>wv (ag T G27 aq (.ptr i3 [1] 1)) fun v28=>al P cB.n [v15,v28] G27 fun v29 G30=>wv (ag T G30 aw (.ptr i3 [2] 2)) fun v31=>wv (fU T G30 aw v31) fun v32=>wv (gv T G30 ay zH v32) fun v33=>al P fV.n [v15,v33] G30 fun v34 G35=>wv (ag T G35 aw (.ptr i3 [2] 2)) fun v36=>wv (fU T G35 aw v36) fun v37=>∀ R38:List ah->ak->Prop,
 (∀ (x40 x41 x42 x43:ah) (G39:ak),(wv (az T .lss ay x43 x42) fun v44=>brB (some v44)
 (wv (aO T aw x41 x43) fun v45=>wv (ag T G39 aT v45) fun v46=>br G39 (.own (jQ)) fun i47 G48=>wg (aF T G48 aT (.ptr i47 [] 0) v46) fun G49=>wv (ag T G49 du (.ptr i47 [0] 0)) fun v50=>let J65:ak->Prop:=(fun G55=>wv (ag T G55 aq (.ptr i47 [1] 1)) fun v56=>al P cB.n [x40,v56] G55 fun v57 G58=>wv (ag T G58 aq (.ptr i47 [2] 2)) fun v59=>al P cB.n [x40,v59] G58 fun v60 G61=>wv (ag T G61 ar (.ptr i47 [3] 3)) fun v62=>al P dG.n [x40,v62] G61 fun v63 G64=>wv (az T .add ay x43 (.int .i64 1)) fun v66=>R38 [x40,x41,x42,v66] G64);
 brB (some v50)
 (al P eo.n [x40,.int .u8 1] G49 fun v51 G52=>J65 G52)
 (al P eo.n [x40,.int .u8 0] G49 fun v53 G54=>J65 G54))
 (al P fG.n [x40] G39 fun v67 G68=>wv (aP v67 0) fun v69=>wv (aP v67 1) fun v70=>Q (.tuple [v69,v70]) G68))->R38 [x40,x41,x42,x43] G39) ->
 R38 [v15,v36,v37,.int .i64 0] G35)));
 wv (az T .lss ay a0 (.int .i64 0)) fun v5=>brB (some v5)
 (J71 (.bool true) G4)
 (wv (az T .gtr ay a0 (.int .i64 1)) fun v6=>brB (some v6)
 (J71 (.bool true) G4)
 (wv (az T .lss aq a1 (.int .i64 0)) fun v7=>brB (some v7)
 (J71 (.bool true) G4)
 (wv (az T .gtr aq a1 (.int .i64 281474976710655)) fun v8=>J71 v8 G4)))
def iN.an:Ann:=.two .nil (.two .nil (.two .nil (.two .nil (.two .nil (.two .nil (.two .nil (.two .nil (.two .nil (.two .nil (.two (.two .nil (.loop [10,56,57,58] [false,false,false,false] .nil)) .nil))))))))))
theorem iN.sound {a0 a1 a2 a3:ah}(h:iN.S a0 a1 a2 a3 G Q):al P iN.n [a0,a1,a2,a3] G Q:=by
 have e:iN.S a0 a1 a2 a3 G Q=awp cx iN.body iN.an (bG T [.tmp 8,.tmp 9] Q) (cC [a0,a1,a2,a3]) G:=by kernel_rfl
 refine aD cF Tryz.func115 ?_ ?_ ?_ (aH ?_ ?_) (by simp[Tryz.f115]) (e.mp h)<;>kernel_rfl
def kG.S (a0 a1 a2 a3:ah) (G:ak) (Q:ah->ak->Prop):Prop:=
 br G (.own a0) fun i1 G2=>br G2 (.own a1) fun i3 G4=>br G4 (.own a3) fun i5 G6=>wv (ag T G6 ar (.ptr i1 [3] 3)) fun v7=>al P im.n [v7,a2] G6 fun v8 G9=>wv (aP v8 0) fun v10=>wv (aP v8 1) fun v11=>br G9 (.own (dm)) fun i12 G13=>wg (aF T G13 ar (.ptr i12 [] 0) v10) fun G14=>wv (az T .neq bD v11 (.int .i64 0)) fun v15=>brB (some v15)
 (Q (.tuple [.str [],.bool false]) G14)
 (wv (ag T G14 aq (.ptr i3 [2] 2)) fun v16=>wv (ag T G14 aq (.ptr i3 [3] 3)) fun v17=>wv (ag T G14 aj (.ptr i3 [4] 4)) fun v18=>wv (ag T G14 aj (.ptr i3 [5] 5)) fun v19=>wv (ag T G14 aU (.ptr i5 [] 0)) fun v20=>al P iM.n [v16,v17,v18,v19,v20] G14 fun v21 G22=>wv (aP v21 0) fun v23=>wv (aP v21 1) fun v24=>br G22 (.own (jJ)) fun i25 G26=>wg (aF T G26 aX (.ptr i25 [] 0) v23) fun G27=>wv (az T .neq bD v24 (.int .i64 0)) fun v28=>brB (some v28)
 (Q (.tuple [.str [],.bool false]) G27)
 (wv (ag T G27 ay (.ptr i3 [0] 0)) fun v29=>wv (ag T G27 ar (.ptr i12 [] 0)) fun v30=>wv (ag T G27 aX (.ptr i25 [] 0)) fun v31=>al P iz.n [v30] G27 fun v32 G33=>(ag T G33 aX (.ptr i25 [] 0)=some v31/\ag T G33 ay (.ptr i3 [0] 0)=some v29/\True)/\(al P iN.n [v29,a2,v32,v31] G33 fun v34 G35=>wv (aP v34 0) fun v36=>wv (aP v34 1) fun v37=>wv (az T .eql bD v37 (.int .i64 0)) fun v38=>Q (.tuple [v36,v38]) G35)))
def kG.an:Ann:=.two .nil (.two .nil (.two .nil (.two .nil (.two .nil (.two (.ord [(0,[]),(1,[]),(2,[]),(3,[]),(5,[]),(4,[1,5]),(6,[]),(7,[]),(8,[]),(9,[]),(10,[]),(11,[])]) .nil)))))
theorem kG.sound {a0 a1 a2 a3:ah}(h:kG.S a0 a1 a2 a3 G Q):al P kG.n [a0,a1,a2,a3] G Q:=by
 have e:kG.S a0 a1 a2 a3 G Q=awp cx kG.body kG.an (bG T [.tmp 8,.tmp 9] Q) (cC [a0,a1,a2,a3]) G:=by kernel_rfl
 refine aD cF Tryz.func120 ?_ ?_ ?_ (aH ?_ ?_) (by simp[Tryz.f120]) (e.mp h)<;>kernel_rfl
def j5.S (a0 a1:ah) (G:ak) (Q:ah->ak->Prop):Prop:=
 br G (.own a0) fun i1 G2=>br G2 (.own (rJ)) fun i3 G4=>wv (dV T lF (.ptr i3 [] 0) none none none) fun v5=>wv (dV T ar (.ptr i1 [] 0) none none none) fun v6=>wI T G4 aR v5 v6 fun v7 G8=>∀ R9:List ah->ak->Prop,
 (∀ (x11 x12 x13:ah) (G10:ak),(wv (az T .lss ay x13 (.int .i64 64)) fun v14=>brB (some v14)
 (wv (aO T lF x12 x13) fun v15=>wv (ag T G10 cm v15) fun v16=>wv (az T .xor cm v16 x11) fun v17=>wv (aO T lF x12 x13) fun v18=>wg (aF T G10 cm v18 v17) fun G19=>wv (az T .add ay x13 (.int .i64 1)) fun v20=>R9 [x11,x12,v20] G19)
 (wv (dV T lF x12 none none none) fun v21=>wv (gv T G10 aR bH v21) fun v22=>Q v22 G10))->R9 [x11,x12,x13] G10) ->
 R9 [a1,.ptr i3 [] 0,.int .i64 0] G8
def j5.an:Ann:=.two .nil (.two .nil (.two (.ord [(0,[]),(1,[]),(2,[])]) (.two (.two .nil (.loop [1,5,10] [false,false,false] .nil)) .nil)))
theorem j5.sound {a0 a1:ah}(h:j5.S a0 a1 G Q):al P j5.n [a0,a1] G Q:=by
 have e:j5.S a0 a1 G Q=awp cx j5.body j5.an (bG T [.tmp 4] Q) (cC [a0,a1]) G:=by kernel_rfl
 refine aD cF Tryz.func211 ?_ ?_ ?_ (aH ?_ ?_) (by simp[Tryz.f211]) (e.mp h)<;>kernel_rfl
end Go.Esc.M
