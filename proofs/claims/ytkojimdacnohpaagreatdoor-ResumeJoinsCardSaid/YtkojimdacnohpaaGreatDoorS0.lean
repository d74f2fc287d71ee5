import Derived.Test.YtkojimdacnohpaaGreatDoorT
set_option linter.unusedSimpArgs false
set_option linter.unusedVariables false
set_option maxRecDepth 100000
namespace Go.Esc.M
open Go Go.Esc Go.Proofs
variable {G:ak}{Q:ah->ak->Prop}
def iQ.S (a0:ah) (G:ak) (Q:ah->ak->Prop):Prop:=
 wv (az T .geq aq a0 (.int .i64 0)) fun v1=>brB (some v1)
 (wv (az T .leq aq a0 (.int .i64 281474976710655)) fun v2=>Q v2 G)
 (Q (.bool false) G)
def iQ.an:Ann:=.nil
theorem iQ.sound {a0:ah}(h:iQ.S a0 G Q):al P iQ.n [a0] G Q:=by
 have e:iQ.S a0 G Q=awp cx iQ.body iQ.an (bG T [.tmp 2] Q) (cC [a0]) G:=by kernel_rfl
 refine aD cF Tryz.func162 ?_ ?_ ?_ (aH ?_ ?_) (by simp[Tryz.f162]) (e.mp h)<;>kernel_rfl
def gS.S (a0:ah) (G:ak) (Q:ah->ak->Prop):Prop:=
 wv (az T .sub aq (.int .i64 281474976710655) a0) fun v1=>Q v1 G
def gS.an:Ann:=.nil
theorem gS.sound {a0:ah}(h:gS.S a0 G Q):al P gS.n [a0] G Q:=by
 have e:gS.S a0 G Q=awp cx gS.body gS.an (bG T [.tmp 2] Q) (cC [a0]) G:=by kernel_rfl
 refine aD cF Tryz.func163 ?_ ?_ ?_ (aH ?_ ?_) (by simp[Tryz.f163]) (e.mp h)<;>kernel_rfl
def dH.S (a0:ah) (G:ak) (Q:ah->ak->Prop):Prop:=
 wv (az T .eql j1 a0 (.int .u64 0)) fun v1=>brB (some v1)
 (Q (.int .i64 64) G)
 (wv (vun .neg a0) fun v2=>wv (az T .and j1 a0 v2) fun v3=>wv (az T .mul j1 v3 (.int .u64 285870213051353865)) fun v4=>wv (az T .shr j1 v4 (.int .u64 58)) fun v5=>wv (aO T lF (.ptr ⟨0,0,0⟩ [] 0) v5) fun v6=>wv (ag T G cm v6) fun v7=>wv (gv T G cm ay v7) fun v8=>Q v8 G)
def dH.an:Ann:=.nil
theorem dH.sound {a0:ah}(h:dH.S a0 G Q):al P dH.n [a0] G Q:=by
 have e:dH.S a0 G Q=awp cx dH.body dH.an (bG T [.tmp 2] Q) (cC [a0]) G:=by kernel_rfl
 refine aD cF Tryz.func202 ?_ ?_ ?_ (aH ?_ ?_) (by simp[Tryz.f202]) (e.mp h)<;>kernel_rfl
def jt.S (a0:ah) (G:ak) (Q:ah->ak->Prop):Prop:=
 al P iQ.n [a0] G fun v1 G2=>wv (vun .not v1) fun v3=>brB (some v3)
 (Q (.tuple [.int .i64 0,.int .i64 90]) G2)
 (al P gS.n [a0] G2 fun v4 G5=>wv (gv T G5 aq j1 v4) fun v6=>al P dH.n [v6] G5 fun v7 G8=>wv (qy (.int .i64 48) v7) fun v9=>Q (.tuple [v9,.int .i64 0]) G8)
def jt.an:Ann:=.nil
theorem jt.sound {a0:ah}(h:jt.S a0 G Q):al P jt.n [a0] G Q:=by
 have e:jt.S a0 G Q=awp cx jt.body jt.an (bG T [.tmp 2,.tmp 3] Q) (cC [a0]) G:=by kernel_rfl
 refine aD cF Tryz.func161 ?_ ?_ ?_ (aH ?_ ?_) (by simp[Tryz.f161]) (e.mp h)<;>kernel_rfl
def gV.S (G:ak) (Q:ah->ak->Prop):Prop:=
 br G (.own (iy)) fun i1 G2=>wv (bj T bW [(0,.int .u32 1116352408),(1,.int .u32 1899447441),(2,.int .u32 3049323471),(3,.int .u32 3921009573),(4,.int .u32 961987163),(5,.int .u32 1508970993),(6,.int .u32 2453635748),(7,.int .u32 2870763221),(8,.int .u32 3624381080),(9,.int .u32 310598401),(10,.int .u32 607225278),(11,.int .u32 1426881987),(12,.int .u32 1925078388),(13,.int .u32 2162078206),(14,.int .u32 2614888103),(15,.int .u32 3248222580),(16,.int .u32 3835390401),(17,.int .u32 4022224774),(18,.int .u32 264347078),(19,.int .u32 604807628),(20,.int .u32 770255983),(21,.int .u32 1249150122),(22,.int .u32 1555081692),(23,.int .u32 1996064986),(24,.int .u32 2554220882),(25,.int .u32 2821834349),(26,.int .u32 2952996808),(27,.int .u32 3210313671),(28,.int .u32 3336571891),(29,.int .u32 3584528711),(30,.int .u32 113926993),(31,.int .u32 338241895),(32,.int .u32 666307205),(33,.int .u32 773529912),(34,.int .u32 1294757372),(35,.int .u32 1396182291),(36,.int .u32 1695183700),(37,.int .u32 1986661051),(38,.int .u32 2177026350),(39,.int .u32 2456956037),(40,.int .u32 2730485921),(41,.int .u32 2820302411),(42,.int .u32 3259730800),(43,.int .u32 3345764771),(44,.int .u32 3516065817),(45,.int .u32 3600352804),(46,.int .u32 4094571909),(47,.int .u32 275423344),(48,.int .u32 430227734),(49,.int .u32 506948616),(50,.int .u32 659060556),(51,.int .u32 883997877),(52,.int .u32 958139571),(53,.int .u32 1322822218),(54,.int .u32 1537002063),(55,.int .u32 1747873779),(56,.int .u32 1955562222),(57,.int .u32 2024104815),(58,.int .u32 2227730452),(59,.int .u32 2361852424),(60,.int .u32 2428436474),(61,.int .u32 2756734187),(62,.int .u32 3204031479),(63,.int .u32 3329325298)]) fun v3=>wg (aF T G2 bW (.ptr i1 [] 0) v3) fun G4=>wv (ag T G4 bW (.ptr i1 [] 0)) fun v5=>Q v5 G4
def gV.an:Ann:=.nil
theorem gV.sound (h:gV.S G Q):al P gV.n [] G Q:=by
 have e:gV.S G Q=awp cx gV.body gV.an (bG T [.cell 0 136] Q) (cC []) G:=by kernel_rfl
 refine aD cF Tryz.func75 ?_ ?_ ?_ (aH ?_ ?_) (by simp[Tryz.f75]) (e.mp h)<;>kernel_rfl
def bL.S (a0 a1:ah) (G:ak) (Q:ah->ak->Prop):Prop:=
 wv (gv T G ay mJ a1) fun v1=>wv (az T .and mJ v1 (.int .u64 31)) fun v2=>wv (az T .shl aJ a0 v2) fun v3=>wv (az T .sub mJ (.int .u64 32) v2) fun v4=>wv (az T .shr aJ a0 v4) fun v5=>wv (az T .or aJ v3 v5) fun v6=>Q v6 G
def bL.an:Ann:=.nil
theorem bL.sound {a0 a1:ah}(h:bL.S a0 a1 G Q):al P bL.n [a0,a1] G Q:=by
 have e:bL.S a0 a1 G Q=awp cx bL.body bL.an (bG T [.tmp 4] Q) (cC [a0,a1]) G:=by kernel_rfl
 refine aD cF Tryz.func141 ?_ ?_ ?_ (aH ?_ ?_) (by simp[Tryz.f141]) (e.mp h)<;>kernel_rfl
def iC.S (a0:ah) (G:ak) (Q:ah->ak->Prop):Prop:=
 br G (.own (iy)) fun i1 G2=>br G2 (.own (iy)) fun i3 G4=>∀ R5:List ah->ak->Prop,
 (∀ (x7 x8 x9 x10:ah) (G6:ak),(wv (az T .lss ay x10 (.int .i64 16)) fun v11=>brB (some v11)
 (∀ R12:List ah->ak->Prop,
 (∀ (x14 x15 x16 x17 x18 x19:ah) (G13:ak),(wv (az T .lss ay x19 (.int .i64 4)) fun v20=>brB (some v20)
 (wv (aO T bW x16 x17) fun v21=>wv (ag T G13 aJ v21) fun v22=>wv (az T .shl aJ v22 (.int .u64 8)) fun v23=>wv (az T .mul ay (.int .i64 4) x17) fun v24=>wv (az T .add ay v24 x19) fun v25=>wv (pz T bH x14 v25) fun v26=>wv (gv T G13 cm aJ v26) fun v27=>wv (az T .or aJ v23 v27) fun v28=>wv (aO T bW x16 x17) fun v29=>wg (aF T G13 aJ v29 v28) fun G30=>wv (az T .add ay x19 (.int .i64 1)) fun v31=>R12 [x14,x15,x16,x17,x18,v31] G30)
 (wv (az T .add ay x18 (.int .i64 1)) fun v32=>R5 [x14,x15,x16,v32] G13))->R12 [x14,x15,x16,x17,x18,x19] G13) ->
 R12 [x7,x8,x9,x10,x10,.int .i64 0] G6)
 (∀ R33:List ah->ak->Prop,
 (∀ (x35 x36 x37:ah) (G34:ak),(wv (az T .lss ay x37 (.int .i64 64)) fun v38=>brB (some v38)
 (wv (az T .sub ay x37 (.int .i64 15)) fun v39=>wv (aO T bW x36 v39) fun v40=>wv (ag T G34 aJ v40) fun v41=>wv (az T .sub ay x37 (.int .i64 2)) fun v42=>wv (aO T bW x36 v42) fun v43=>wv (ag T G34 aJ v43) fun v44=>al P bL.n [v41,.int .i64 (-7)] G34 fun v45 G46=>al P bL.n [v41,.int .i64 (-18)] G46 fun v47 G48=>wv (az T .xor aJ v45 v47) fun v49=>wv (az T .shr aJ v41 (.int .u64 3)) fun v50=>wv (az T .xor aJ v49 v50) fun v51=>al P bL.n [v44,.int .i64 (-17)] G48 fun v52 G53=>al P bL.n [v44,.int .i64 (-19)] G53 fun v54 G55=>wv (az T .xor aJ v52 v54) fun v56=>wv (az T .shr aJ v44 (.int .u64 10)) fun v57=>wv (az T .xor aJ v56 v57) fun v58=>wv (az T .sub ay x37 (.int .i64 16)) fun v59=>wv (aO T bW x36 v59) fun v60=>wv (ag T G55 aJ v60) fun v61=>wv (az T .add aJ v61 v51) fun v62=>wv (az T .sub ay x37 (.int .i64 7)) fun v63=>wv (aO T bW x36 v63) fun v64=>wv (ag T G55 aJ v64) fun v65=>wv (az T .add aJ v62 v65) fun v66=>wv (az T .add aJ v66 v58) fun v67=>wv (aO T bW x36 x37) fun v68=>wg (aF T G55 aJ v68 v67) fun G69=>wv (az T .add ay x37 (.int .i64 1)) fun v70=>R33 [x35,x36,v70] G69)
 (wv (ag T G34 bW x36) fun v71=>wg (aF T G34 bW x35 v71) fun G72=>wv (ag T G72 bW x35) fun v73=>Q v73 G72))->R33 [x35,x36,x37] G34) ->
 R33 [x8,x9,.int .i64 16] G6))->R5 [x7,x8,x9,x10] G6) ->
 R5 [a0,.ptr i1 [] 0,.ptr i3 [] 0,.int .i64 0] G4
def iC.an:Ann:=.two .nil (.two .nil (.two (.two .nil (.loop [0,2,3,11] [false,false,false,false] (.two .nil (.two .nil (.two (.two .nil (.two .nil (.loop [0,2,3,4,11,14] [false,false,false,false,false,false] (.two .nil (.two .nil (.two (.two .nil (.ord [(0,[]),(1,[]),(2,[]),(3,[]),(4,[]),(5,[]),(6,[]),(7,[]),(8,[]),(9,[]),(10,[]),(11,[]),(12,[]),(13,[]),(14,[])])) .nil)))))) .nil))))) (.two (.two .nil (.loop [2,3,6] [false,false,false] (.two .nil (.two (.two (.ord [(0,[]),(1,[]),(2,[]),(3,[]),(4,[]),(5,[]),(6,[]),(7,[]),(8,[]),(9,[])]) (.two .nil (.two .nil (.ord [(0,[]),(1,[]),(2,[]),(3,[]),(4,[]),(5,[]),(6,[]),(7,[]),(8,[]),(9,[]),(10,[]),(11,[]),(12,[]),(13,[]),(14,[]),(15,[])])))) .nil)))) .nil)))
theorem iC.sound {a0:ah}(h:iC.S a0 G Q):al P iC.n [a0] G Q:=by
 have e:iC.S a0 G Q=awp cx iC.body iC.an (bG T [.cell 2 136] Q) (cC [a0]) G:=by kernel_rfl
 refine aD cF Tryz.func140 ?_ ?_ ?_ (aH ?_ ?_) (by simp[Tryz.f140]) (e.mp h)<;>kernel_rfl
def jv.S (a0 a1 a2:ah) (G:ak) (Q:ah->ak->Prop):Prop:=
 br G (.own a0) fun i1 G2=>br G2 (.own (mw)) fun i3 G4=>wv (ag T G4 bn (.ptr i1 [] 0)) fun v5=>al P iC.n [a1] G4 fun v6 G7=>(ag T G7 bn (.ptr i1 [] 0)=some v5/\True)/\(br G7 (.own (iy)) fun i8 G9=>br G9 (.own (mw)) fun i10 G11=>wg (aF T G11 bW (.ptr i8 [] 0) v6) fun G12=>(ag T G12 bn (.ptr i1 [] 0)=some v5/\True)/\(wg (aF T G12 bn (.ptr i10 [] 0) v5) fun G13=>∀ R14:List ah->ak->Prop,
 (∀ (x16 x17 x18 x19 x20 x21:ah) (G15:ak),(wv (az T .lss ay x21 (.int .i64 64)) fun v22=>brB (some v22)
 (wv (aO T bn x20 (.int .i64 4)) fun v23=>wv (ag T G15 aJ v23) fun v24=>wv (aO T bn x20 (.int .i64 0)) fun v25=>wv (ag T G15 aJ v25) fun v26=>wv (aO T bn x20 (.int .i64 7)) fun v27=>wv (ag T G15 aJ v27) fun v28=>wv (aO T bn x20 (.int .i64 5)) fun v29=>wv (ag T G15 aJ v29) fun v30=>wv (az T .and aJ v24 v30) fun v31=>wv (vun .xor v24) fun v32=>wv (aO T bn x20 (.int .i64 6)) fun v33=>wv (ag T G15 aJ v33) fun v34=>wv (az T .and aJ v32 v34) fun v35=>wv (az T .xor aJ v31 v35) fun v36=>wv (lr x16) fun v37=>wv (aO T bW v37 x21) fun v38=>wv (ag T G15 aJ v38) fun v39=>wv (aO T bW x19 x21) fun v40=>wv (ag T G15 aJ v40) fun v41=>al P bL.n [v24,.int .i64 (-6)] G15 fun v42 G43=>(ag T G43 aJ v40=some v41/\ag T G43 aJ v38=some v39/\ag T G43 aJ v33=some v34/\ag T G43 aJ v29=some v30/\ag T G43 aJ v27=some v28/\True)/\(al P bL.n [v24,.int .i64 (-11)] G43 fun v44 G45=>(ag T G45 aJ v40=some v41/\ag T G45 aJ v38=some v39/\ag T G45 aJ v33=some v34/\ag T G45 aJ v29=some v30/\ag T G45 aJ v27=some v28/\True)/\(wv (az T .xor aJ v42 v44) fun v46=>al P bL.n [v24,.int .i64 (-25)] G45 fun v47 G48=>(ag T G48 aJ v40=some v41/\ag T G48 aJ v38=some v39/\ag T G48 aJ v33=some v34/\ag T G48 aJ v29=some v30/\ag T G48 aJ v27=some v28/\True)/\(wv (az T .xor aJ v46 v47) fun v49=>wv (az T .add aJ v28 v49) fun v50=>wv (az T .add aJ v50 v36) fun v51=>wv (az T .add aJ v51 v39) fun v52=>wv (az T .add aJ v52 v41) fun v53=>wv (aO T bn x20 (.int .i64 1)) fun v54=>wv (ag T G48 aJ v54) fun v55=>wv (az T .and aJ v26 v55) fun v56=>wv (aO T bn x20 (.int .i64 2)) fun v57=>wv (ag T G48 aJ v57) fun v58=>wv (az T .and aJ v26 v58) fun v59=>wv (az T .xor aJ v56 v59) fun v60=>wv (aO T bn x20 (.int .i64 1)) fun v61=>wv (ag T G48 aJ v61) fun v62=>wv (aO T bn x20 (.int .i64 2)) fun v63=>wv (ag T G48 aJ v63) fun v64=>wv (az T .and aJ v62 v64) fun v65=>wv (az T .xor aJ v60 v65) fun v66=>al P bL.n [v26,.int .i64 (-2)] G48 fun v67 G68=>(ag T G68 aJ v63=some v64/\ag T G68 aJ v61=some v62/\ag T G68 aJ v57=some v58/\ag T G68 aJ v54=some v55/\True)/\(al P bL.n [v26,.int .i64 (-13)] G68 fun v69 G70=>(ag T G70 aJ v63=some v64/\ag T G70 aJ v61=some v62/\ag T G70 aJ v57=some v58/\ag T G70 aJ v54=some v55/\True)/\(wv (az T .xor aJ v67 v69) fun v71=>al P bL.n [v26,.int .i64 (-22)] G70 fun v72 G73=>(ag T G73 aJ v63=some v64/\ag T G73 aJ v61=some v62/\ag T G73 aJ v57=some v58/\ag T G73 aJ v54=some v55/\True)/\(wv (az T .xor aJ v71 v72) fun v74=>wv (az T .add aJ v74 v66) fun v75=>wv (az T .add aJ v53 v75) fun v76=>wv (aO T bn x20 (.int .i64 1)) fun v77=>wv (ag T G73 aJ v77) fun v78=>wv (aO T bn x20 (.int .i64 2)) fun v79=>wv (ag T G73 aJ v79) fun v80=>wv (aO T bn x20 (.int .i64 3)) fun v81=>wv (ag T G73 aJ v81) fun v82=>wv (az T .add aJ v82 v53) fun v83=>wv (aO T bn x20 (.int .i64 5)) fun v84=>wv (ag T G73 aJ v84) fun v85=>wv (aO T bn x20 (.int .i64 6)) fun v86=>wv (ag T G73 aJ v86) fun v87=>wv (bj T bn [(0,v76),(1,v26),(2,v78),(3,v80),(4,v83),(5,v24),(6,v85),(7,v87)]) fun v88=>wg (aF T G73 bn x20 v88) fun G89=>wv (az T .add ay x21 (.int .i64 1)) fun v90=>R14 [x16,x17,x18,x19,x20,v90] G89)))))))
 (∀ R91:List ah->ak->Prop,
 (∀ (x93 x94 x95 x96:ah) (G92:ak),(wv (az T .lss ay x96 (.int .i64 8)) fun v97=>brB (some v97)
 (wv (aO T bn x95 x96) fun v98=>wv (ag T G92 aJ v98) fun v99=>wv (aO T bn x93 x96) fun v100=>wv (ag T G92 aJ v100) fun v101=>wv (az T .add aJ v99 v101) fun v102=>wv (aO T bn x95 x96) fun v103=>wg (aF T G92 aJ v103 v102) fun G104=>wv (az T .add ay x96 (.int .i64 1)) fun v105=>R91 [x93,x94,x95,v105] G104)
 (wv (ag T G92 bn x95) fun v106=>wg (aF T G92 bn x94 v106) fun G107=>wv (ag T G107 bn x94) fun v108=>Q v108 G107))->R91 [x93,x94,x95,x96] G92) ->
 R91 [x17,x18,x20,.int .i64 0] G15))->R14 [x16,x17,x18,x19,x20,x21] G15) ->
 R14 [a2,.ptr i1 [] 0,.ptr i3 [] 0,.ptr i8 [] 0,.ptr i10 [] 0,.int .i64 0] G13))
def jv.an:Ann:=.two .nil (.two (.ord [(0,[]),(2,[]),(1,[2]),(3,[]),(4,[]),(5,[2]),(6,[])]) (.two (.two .nil (.loop [2,3,6,7,8,18] [false,false,false,false,false,false] (.two .nil (.two .nil (.two (.two .nil (.two (.ord [(0,[]),(1,[]),(2,[]),(3,[]),(4,[]),(5,[])]) (.two (.ord [(0,[]),(1,[]),(2,[]),(4,[]),(7,[]),(11,[]),(12,[]),(13,[]),(14,[]),(15,[]),(16,[]),(17,[]),(18,[]),(19,[]),(20,[]),(22,[]),(23,[]),(24,[]),(25,[]),(26,[]),(28,[]),(29,[]),(30,[]),(3,[1,13,18,26,30]),(5,[1,13,18,26,30]),(6,[]),(8,[1,13,18,26,30]),(9,[]),(10,[]),(21,[]),(27,[]),(31,[]),(32,[])]) (.two (.ord [(0,[]),(2,[]),(5,[]),(8,[]),(9,[]),(10,[]),(11,[]),(12,[]),(13,[]),(14,[]),(15,[]),(16,[]),(17,[]),(18,[]),(19,[]),(20,[]),(21,[]),(22,[]),(1,[10,14,18,20]),(3,[10,14,18,20]),(4,[]),(6,[10,14,18,20]),(7,[]),(23,[]),(24,[])]) .nil)))) .nil))))) (.two (.two .nil (.loop [3,6,8,100] [false,false,false,false] (.two .nil (.two .nil (.two (.two .nil (.ord [(0,[]),(1,[]),(2,[]),(3,[]),(4,[]),(5,[]),(6,[]),(7,[]),(8,[])])) .nil))))) .nil)))
theorem jv.sound {a0 a1 a2:ah}(h:jv.S a0 a1 a2 G Q):al P jv.n [a0,a1,a2] G Q:=by
 have e:jv.S a0 a1 a2 G Q=awp cx jv.body jv.an (bG T [.cell 6 135] Q) (cC [a0,a1,a2]) G:=by kernel_rfl
 refine aD cF Tryz.func76 ?_ ?_ ?_ (aH ?_ ?_) (by simp[Tryz.f76]) (e.mp h)<;>kernel_rfl
def jh.S (a0:ah) (G:ak) (Q:ah->ak->Prop):Prop:=
 br G (.own (dm)) fun i1 G2=>al P strings_Join.n [a0,.str []] G2 fun v3 G4=>wv (fU T G4 bH v3) fun v5=>bu T aR 1 [(0,.int .u8 128)] G4 fun v6 G7=>∀ R8:List ah->ak->Prop,
 (∀ (x10 x11 x12 x13:ah) (G9:ak),(wv (fU T G9 aR x13) fun v14=>wv (az T .add ay x12 v14) fun v15=>wv (az T .rem ay v15 (.int .i64 64)) fun v16=>wv (az T .neq ay v16 (.int .i64 56)) fun v17=>brB (some v17)
 (bu T aR 1 [(0,.int .u8 0)] G9 fun v18 G19=>cn T G19 aR aR x13 v18 fun v20 G21=>R8 [x10,x11,x12,v20] G21)
 (∀ R22:List ah->ak->Prop,
 (∀ (x24 x25 x26 x27 x28:ah) (G23:ak),(wv (az T .lss ay x28 (.int .i64 8)) fun v29=>brB (some v29)
 (wv (az T .mul ay (.int .i64 8) x26) fun v30=>wv (gv T G23 ay j1 v30) fun v31=>wv (az T .mul ay (.int .i64 8) x28) fun v32=>wv (az T .sub ay (.int .i64 56) v32) fun v33=>wv (az T .shr j1 v31 v33) fun v34=>wv (gv T G23 j1 cm v34) fun v35=>bu T aR 1 [(0,v35)] G23 fun v36 G37=>cn T G37 aR aR x27 v36 fun v38 G39=>wv (az T .add ay x28 (.int .i64 1)) fun v40=>R22 [x24,x25,x26,v38,v40] G39)
 (wv (gv T G23 aR bH x27) fun v41=>wv (az T .add bH x25 v41) fun v42=>wv (bj T bn [(0,.int .u32 1779033703),(1,.int .u32 3144134277),(2,.int .u32 1013904242),(3,.int .u32 2773480762),(4,.int .u32 1359893119),(5,.int .u32 2600822924),(6,.int .u32 528734635),(7,.int .u32 1541459225)]) fun v43=>br G23 (.own (mw)) fun i44 G45=>wg (aF T G45 bn (.ptr i44 [] 0) v43) fun G46=>al P gV.n [] G46 fun v47 G48=>br G48 (.own (iy)) fun i49 G50=>wg (aF T G50 bW (.ptr i49 [] 0) v47) fun G51=>∀ R52:List ah->ak->Prop,
 (∀ (x54 x55 x56 x57:ah) (G53:ak),(wv (az T .neq bH x55 (.str [])) fun v58=>brB (some v58)
 (wv (ag T G53 bn x56) fun v59=>wv (dV T bH x55 none (some (.int .i64 64)) none) fun v60=>al P jv.n [v59,v60,x57] G53 fun v61 G62=>wg (aF T G62 bn x56 v61) fun G63=>wv (dV T bH x55 (some (.int .i64 64)) none none) fun v64=>R52 [x54,v64,x56,x57] G63)
 (br G53 (.own (dm)) fun i65 G66=>∀ R67:List ah->ak->Prop,
 (∀ (x69 x70 x71 x72:ah) (G68:ak),(wv (az T .lss ay x72 (.int .i64 32)) fun v73=>brB (some v73)
 (wv (az T .quo ay x72 (.int .i64 4)) fun v74=>wv (aO T bn x70 v74) fun v75=>wv (ag T G68 aJ v75) fun v76=>wv (az T .rem ay x72 (.int .i64 4)) fun v77=>wv (az T .mul ay (.int .i64 8) v77) fun v78=>wv (az T .sub ay (.int .i64 24) v78) fun v79=>wv (az T .shr aJ v76 v79) fun v80=>wv (gv T G68 aJ cm v80) fun v81=>wv (aO T ar x71 x72) fun v82=>wg (aF T G68 cm v82 v81) fun G83=>wv (az T .add ay x72 (.int .i64 1)) fun v84=>R67 [x69,x70,x71,v84] G83)
 (wv (ag T G68 ar x71) fun v85=>wg (aF T G68 ar x69 v85) fun G86=>wv (ag T G86 ar x69) fun v87=>Q v87 G86))->R67 [x69,x70,x71,x72] G68) ->
 R67 [x54,x56,.ptr i65 [] 0,.int .i64 0] G66))->R52 [x54,x55,x56,x57] G53) ->
 R52 [x24,v42,.ptr i44 [] 0,.ptr i49 [] 0] G51))->R22 [x24,x25,x26,x27,x28] G23) ->
 R22 [x10,x11,x12,x13,.int .i64 0] G9))->R8 [x10,x11,x12,x13] G9) ->
 R8 [.ptr i1 [] 0,v3,v5,v6] G7
def jh.an:Ann:=.two .nil (.two .nil (.two .nil (.two .nil (.two (.loop [2,3,4,5] [false,false,false,false] .nil) (.two (.two .nil (.loop [2,3,4,5,25] [false,false,false,false,false] .nil)) (.two .nil (.two .nil (.two .nil (.two (.loop [2,3,7,8] [false,false,false,false] (.two .nil (.two (.ord [(0,[]),(1,[]),(2,[]),(3,[]),(4,[])]) .nil))) (.two .nil (.two (.two .nil (.loop [2,7,9,54] [false,false,false,false] .nil)) .nil)))))))))))
theorem jh.sound {a0:ah}(h:jh.S a0 G Q):al P jh.n [a0] G Q:=by
 have e:jh.S a0 G Q=awp cx jh.body jh.an (bG T [.cell 2 23] Q) (cC [a0]) G:=by kernel_rfl
 refine aD cF Tryz.func30 ?_ ?_ ?_ (aH ?_ ?_) (by simp[Tryz.f30]) (e.mp h)<;>kernel_rfl
def iz.S (a0:ah) (G:ak) (Q:ah->ak->Prop):Prop:=
 br G (.own a0) fun i1 G2=>br G2 (.own (dm)) fun i3 G4=>wv (dV T ar (.ptr i1 [] 0) none none none) fun v5=>wv (gv T G4 aR bH v5) fun v6=>bu T iE 1 [(0,v6)] G4 fun v7 G8=>al P jh.n [v7] G8 fun v9 G10=>wg (aF T G10 ar (.ptr i3 [] 0) v9) fun G11=>wv (ag T G11 ar (.ptr i3 [] 0)) fun v12=>Q v12 G11
def iz.an:Ann:=.nil
theorem iz.sound {a0:ah}(h:iz.S a0 G Q):al P iz.n [a0] G Q:=by
 have e:iz.S a0 G Q=awp cx iz.body iz.an (bG T [.cell 2 23] Q) (cC [a0]) G:=by kernel_rfl
 refine aD cF Tryz.func114 ?_ ?_ ?_ (aH ?_ ?_) (by simp[Tryz.f114]) (e.mp h)<;>kernel_rfl
def j2.S (a0 a1 a2:ah) (G:ak) (Q:ah->ak->Prop):Prop:=
 br G (.own a0) fun i1 G2=>br G2 (.own (dm)) fun i3 G4=>∀ R5:List ah->ak->Prop,
 (∀ (x7 x8 x9 x10 x11 x12:ah) (G6:ak),(wv (az T .lss ay x12 x11) fun v13=>brB (some v13)
 (wv (az T .sub ay x8 (.int .i64 1)) fun v14=>wv (az T .sub ay v14 x12) fun v15=>wv (az T .shr aq x7 v15) fun v16=>wv (az T .and aq v16 (.int .i64 1)) fun v17=>wv (az T .eql aq v17 (.int .i64 1)) fun v18=>brB (some v18)
 (wv (az T .quo ay v15 (.int .i64 8)) fun v19=>wv (aO T ar x9 v19) fun v20=>wv (ag T G6 cm v20) fun v21=>wv (az T .rem ay v15 (.int .i64 8)) fun v22=>wv (az T .shl cm (.int .u8 1) v22) fun v23=>wv (az T .xor cm v21 v23) fun v24=>wv (aO T ar x9 v19) fun v25=>wg (aF T G6 cm v25 v24) fun G26=>wv (ag T G26 ar x9) fun v27=>al P iz.n [v27] G26 fun v28 G29=>wg (aF T G29 ar x9 v28) fun G30=>wv (az T .add ay x12 (.int .i64 1)) fun v34=>R5 [x7,x8,x9,x10,x11,v34] G30)
 (wv (az T .add ay x12 (.int .i64 1)) fun v35=>R5 [x7,x8,x9,x10,x11,v35] G6))
 (wv (ag T G6 ar x9) fun v36=>wg (aF T G6 ar x10 v36) fun G37=>wv (ag T G37 ar x10) fun v38=>Q v38 G37))->R5 [x7,x8,x9,x10,x11,x12] G6) ->
 R5 [a1,a2,.ptr i1 [] 0,.ptr i3 [] 0,a2,.int .i64 0] G4
def j2.an:Ann:=.two .nil (.two (.two .nil (.loop [1,2,3,6,9,10] [false,false,false,false,false,false] (.two .nil (.two .nil (.two (.two .nil (.two .nil (.two .nil (.two (.two (.ord [(0,[]),(1,[]),(2,[]),(3,[]),(4,[]),(5,[]),(6,[]),(7,[]),(8,[]),(9,[])]) .nil) .nil)))) .nil))))) .nil)
theorem j2.sound {a0 a1 a2:ah}(h:j2.S a0 a1 a2 G Q):al P j2.n [a0,a1,a2] G Q:=by
 have e:j2.S a0 a1 a2 G Q=awp cx j2.body j2.an (bG T [.cell 6 23] Q) (cC [a0,a1,a2]) G:=by kernel_rfl
 refine aD cF Tryz.func164 ?_ ?_ ?_ (aH ?_ ?_) (by simp[Tryz.f164]) (e.mp h)<;>kernel_rfl
def ju.S (a0 a1 a2:ah) (G:ak) (Q:ah->ak->Prop):Prop:=
 br G (.own a0) fun i1 G2=>br G2 (.own (dm)) fun i3 G4=>al P jt.n [a1] G4 fun v5 G6=>wv (aP v5 0) fun v7=>wv (aP v5 1) fun v8=>let J28:ah->ak->Prop:=(fun x14 G13=>brB (some x14)
 (wv (bj T ar []) fun v15=>wg (aF T G13 ar (.ptr i3 [] 0) v15) fun G16=>wv (ag T G16 ar (.ptr i3 [] 0)) fun v17=>Q (.tuple [v17,.int .i64 90]) G16)
 (al P gS.n [a1] G13 fun v18 G19=>wv (az T .shr aq v18 v7) fun v20=>al P gS.n [a2] G19 fun v21 G22=>wv (az T .shr aq v21 v7) fun v23=>wv (az T .neq aq v20 v23) fun v24=>brB (some v24)
 (wv (bj T ar []) fun v25=>wg (aF T G22 ar (.ptr i3 [] 0) v25) fun G26=>wv (ag T G26 ar (.ptr i3 [] 0)) fun v27=>Q (.tuple [v27,.int .i64 5]) G26)
 (wv (ag T G22 ar (.ptr i1 [] 0)) fun v29=>al P gS.n [a2] G22 fun v30 G31=>(ag T G31 ar (.ptr i1 [] 0)=some v29/\True)/\(al P j2.n [v29,v30,v7] G31 fun v32 G33=>wg (aF T G33 ar (.ptr i3 [] 0) v32) fun G34=>wv (ag T G34 ar (.ptr i3 [] 0)) fun v35=>Q (.tuple [v35,.int .i64 0]) G34))));
 wv (az T .neq bD v8 (.int .i64 0)) fun v9=>brB (some v9)
 (J28 (.bool true) G6)
 (al P iQ.n [a2] G6 fun v10 G11=>wv (vun .not v10) fun v12=>J28 v12 G11)
def ju.an:Ann:=.two .nil (.two .nil (.two (.two .nil (.two .nil (.two (.ord [(0,[]),(2,[]),(4,[]),(6,[]),(1,[]),(3,[]),(5,[]),(7,[]),(8,[]),(9,[])]) .nil))) (.two (.ord [(0,[]),(1,[]),(3,[]),(2,[0]),(4,[]),(5,[]),(6,[])]) .nil)))
theorem ju.sound {a0 a1 a2:ah}(h:ju.S a0 a1 a2 G Q):al P ju.n [a0,a1,a2] G Q:=by
 have e:ju.S a0 a1 a2 G Q=awp cx ju.body ju.an (bG T [.cell 6 23,.tmp 7] Q) (cC [a0,a1,a2]) G:=by kernel_rfl
 refine aD cF Tryz.func102 ?_ ?_ ?_ (aH ?_ ?_) (by simp[Tryz.f102]) (e.mp h)<;>kernel_rfl
def acw.S (a0 a1:ah) (G:ak) (Q:ah->ak->Prop):Prop:=
 br G (.own (dm)) fun i1 G2=>wv (fU T G2 aV a0) fun v3=>wv (az T .gtr ay v3 (.int .i64 49)) fun v4=>brB (some v4)
 (wv (bj T ar []) fun v5=>wg (aF T G2 ar (.ptr i1 [] 0) v5) fun G6=>wv (ag T G6 ar (.ptr i1 [] 0)) fun v7=>Q (.tuple [v7,.int .i64 1]) G6)
 (let J52:ah->ak->Prop:=(fun x11 G10=>brB (some x11)
 (wv (bj T ar []) fun v12=>wg (aF T G10 ar (.ptr i1 [] 0) v12) fun G13=>wv (ag T G13 ar (.ptr i1 [] 0)) fun v14=>Q (.tuple [v14,.int .i64 90]) G13)
 (wv (fU T G10 aV a0) fun v15=>∀ R16:List ah->ak->Prop,
 (∀ (x18 x19 x20 x21 x22:ah) (G17:ak),(wv (az T .lss ay x22 x21) fun v23=>brB (some v23)
 (wv (aO T aV x18 x22) fun v24=>wv (bt T cz v24 2) fun v25=>wv (ag T G17 du v25) fun v26=>wv (vun .not v26) fun v27=>brB (some v27)
 (wv (az T .add ay x22 (.int .i64 1)) fun v47=>R16 [x18,x19,x20,x21,v47] G17)
 (wv (aO T aV x18 x22) fun v28=>wv (bt T cz v28 1) fun v29=>wv (ag T G17 ar v29) fun v30=>wv (aO T aV x18 x22) fun v31=>wv (bt T cz v31 0) fun v32=>wv (ag T G17 aq v32) fun v33=>al P ju.n [v30,v33,x19] G17 fun v34 G35=>wv (aP v34 0) fun v36=>wv (aP v34 1) fun v37=>br G35 (.own (dm)) fun i38 G39=>wg (aF T G39 ar (.ptr i38 [] 0) v36) fun G40=>wv (az T .eql bD v37 (.int .i64 0)) fun v41=>brB (some v41)
 (wv (ag T G40 ar (.ptr i38 [] 0)) fun v42=>wg (aF T G40 ar x20 v42) fun G43=>wv (ag T G43 ar x20) fun v44=>Q (.tuple [v44,.int .i64 0]) G43)
 (wv (az T .add ay x22 (.int .i64 1)) fun v48=>R16 [x18,x19,x20,x21,v48] G40)))
 (wv (bj T ar []) fun v49=>wg (aF T G17 ar x20 v49) fun G50=>wv (ag T G50 ar x20) fun v51=>Q (.tuple [v51,.int .i64 5]) G50))->R16 [x18,x19,x20,x21,x22] G17) ->
 R16 [a0,a1,.ptr i1 [] 0,v15,.int .i64 0] G10));
 wv (az T .lss aq a1 (.int .i64 0)) fun v8=>brB (some v8)
 (J52 (.bool true) G2)
 (wv (az T .gtr aq a1 (.int .i64 281474976710655)) fun v9=>J52 v9 G2))
def acw.an:Ann:=.two .nil (.two .nil (.two .nil (.two (.two .nil (.loop [0,1,4,21,22] [false,false,false,false,false] (.two .nil (.two .nil (.two (.two .nil (.two .nil (.two (.ord [(0,[]),(1,[]),(2,[]),(3,[]),(4,[]),(5,[]),(6,[]),(7,[]),(8,[]),(9,[]),(10,[]),(11,[]),(12,[]),(13,[]),(14,[]),(15,[]),(16,[]),(17,[])]) .nil))) .nil))))) .nil)))
theorem acw.sound {a0 a1:ah}(h:acw.S a0 a1 G Q):al P acw.n [a0,a1] G Q:=by
 have e:acw.S a0 a1 G Q=awp cx acw.body acw.an (bG T [.cell 4 23,.tmp 5] Q) (cC [a0,a1]) G:=by kernel_rfl
 refine aD cF Tryz.func43 ?_ ?_ ?_ (aH ?_ ?_) (by simp[Tryz.f43]) (e.mp h)<;>kernel_rfl
def acv.S (a0 a1:ah) (G:ak) (Q:ah->ak->Prop):Prop:=
 br G (.own a0) fun i1 G2=>br G2 (.own a1) fun i3 G4=>br G4 (.own (jF)) fun i5 G6=>wv (ag T G6 aq (.ptr i3 [6] 6)) fun v7=>wv (az T .add aq v7 (.int .i64 1)) fun v8=>wv (ag T G6 aq (.ptr i3 [8] 8)) fun v9=>wv (bj T aW [(0,.int .i64 6),(3,v8),(4,v9)]) fun v10=>br G6 (.own (jF)) fun i11 G12=>wg (aF T G12 aW (.ptr i11 [] 0) v10) fun G13=>wv (ag T G13 aq (.ptr i3 [8] 8)) fun v14=>wv (az T .gtr aq v14 (.int .i64 0)) fun v15=>brB (some v15)
 (wv (ag T G13 aV (.ptr i3 [15] 112)) fun v16=>wv (ag T G13 aq (.ptr i3 [8] 8)) fun v17=>wv (az T .sub aq v17 (.int .i64 1)) fun v18=>al P acw.n [v16,v18] G13 fun v19 G20=>wv (aP v19 0) fun v21=>wv (aP v19 1) fun v22=>wg (aF T G20 ar (.ptr i11 [6] 37) v21) fun G23=>wv (ag T G23 aW (.ptr i11 [] 0)) fun v28=>wg (aF T G23 aW (.ptr i5 [] 0) v28) fun G29=>wv (ag T G29 aW (.ptr i5 [] 0)) fun v30=>Q v30 G29)
 (wv (ag T G13 aW (.ptr i11 [] 0)) fun v31=>wg (aF T G13 aW (.ptr i5 [] 0) v31) fun G32=>wv (ag T G32 aW (.ptr i5 [] 0)) fun v33=>Q v33 G32)
def acv.an:Ann:=.nil
theorem acv.sound {a0 a1:ah}(h:acv.S a0 a1 G Q):al P acv.n [a0,a1] G Q:=by
 have e:acv.S a0 a1 G Q=awp cx acv.body acv.an (bG T [.cell 4 48] Q) (cC [a0,a1]) G:=by kernel_rfl
 refine aD cF Tryz.func13 ?_ ?_ ?_ (aH ?_ ?_) (by simp[Tryz.f13]) (e.mp h)<;>kernel_rfl
def dt.S (a0:ah) (G:ak) (Q:ah->ak->Prop):Prop:=
 wv (az T .geq aq a0 (.int .i64 0)) fun v1=>brB (some v1)
 (wv (az T .leq aq a0 (.int .i64 281474976710655)) fun v2=>Q v2 G)
 (Q (.bool false) G)
def dt.an:Ann:=.nil
theorem dt.sound {a0:ah}(h:dt.S a0 G Q):al P dt.n [a0] G Q:=by
 have e:dt.S a0 G Q=awp cx dt.body dt.an (bG T [.tmp 2] Q) (cC [a0]) G:=by kernel_rfl
 refine aD cF Tryz.func54 ?_ ?_ ?_ (aH ?_ ?_) (by simp[Tryz.f54]) (e.mp h)<;>kernel_rfl
def eO.S (a0:ah) (G:ak) (Q:ah->ak->Prop):Prop:=
 cn T G aR bH (.nilSlice) a0 fun v1 G2=>bu T aR 1 [(0,.int .u8 128)] G2 fun v3 G4=>cn T G4 aR aR v1 v3 fun v5 G6=>∀ R7:List ah->ak->Prop,
 (∀ (x9 x10:ah) (G8:ak),(wv (fU T G8 aR x10) fun v11=>wv (az T .rem ay v11 (.int .i64 64)) fun v12=>wv (az T .neq ay v12 (.int .i64 56)) fun v13=>brB (some v13)
 (bu T aR 1 [(0,.int .u8 0)] G8 fun v14 G15=>cn T G15 aR aR x10 v14 fun v16 G17=>R7 [x9,v16] G17)
 (∀ R18:List ah->ak->Prop,
 (∀ (x20 x21 x22:ah) (G19:ak),(wv (az T .geq ay x22 (.int .i64 0)) fun v23=>brB (some v23)
 (wv (fU T G19 bH x20) fun v24=>wv (az T .mul ay (.int .i64 8) v24) fun v25=>wv (az T .mul ay (.int .i64 8) x22) fun v26=>wv (az T .shr ay v25 v26) fun v27=>wv (gv T G19 ay cm v27) fun v28=>bu T aR 1 [(0,v28)] G19 fun v29 G30=>cn T G30 aR aR x21 v29 fun v31 G32=>wv (az T .sub ay x22 (.int .i64 1)) fun v33=>R18 [x20,v31,v33] G32)
 (Q x21 G19))->R18 [x20,x21,x22] G19) ->
 R18 [x9,x10,.int .i64 7] G8))->R7 [x9,x10] G8) ->
 R7 [a0,v5] G6
def eO.an:Ann:=.two .nil (.two .nil (.two .nil (.two .nil (.two (.loop [0,3] [false,false] .nil) (.two (.two .nil (.loop [0,3,4] [false,false,false] .nil)) .nil)))))
theorem eO.sound {a0:ah}(h:eO.S a0 G Q):al P eO.n [a0] G Q:=by
 have e:eO.S a0 G Q=awp cx eO.body eO.an (bG T [.tmp 2] Q) (cC [a0]) G:=by kernel_rfl
 refine aD cF Tryz.func83 ?_ ?_ ?_ (aH ?_ ?_) (by simp[Tryz.f83]) (e.mp h)<;>kernel_rfl
def eN.S (G:ak) (Q:ah->ak->Prop):Prop:=
 br G (.own (iy)) fun i1 G2=>wv (bj T bW [(0,.int .u32 1116352408),(1,.int .u32 1899447441),(2,.int .u32 3049323471),(3,.int .u32 3921009573),(4,.int .u32 961987163),(5,.int .u32 1508970993),(6,.int .u32 2453635748),(7,.int .u32 2870763221),(8,.int .u32 3624381080),(9,.int .u32 310598401),(10,.int .u32 607225278),(11,.int .u32 1426881987),(12,.int .u32 1925078388),(13,.int .u32 2162078206),(14,.int .u32 2614888103),(15,.int .u32 3248222580),(16,.int .u32 3835390401),(17,.int .u32 4022224774),(18,.int .u32 264347078),(19,.int .u32 604807628),(20,.int .u32 770255983),(21,.int .u32 1249150122),(22,.int .u32 1555081692),(23,.int .u32 1996064986),(24,.int .u32 2554220882),(25,.int .u32 2821834349),(26,.int .u32 2952996808),(27,.int .u32 3210313671),(28,.int .u32 3336571891),(29,.int .u32 3584528711),(30,.int .u32 113926993),(31,.int .u32 338241895),(32,.int .u32 666307205),(33,.int .u32 773529912),(34,.int .u32 1294757372),(35,.int .u32 1396182291),(36,.int .u32 1695183700),(37,.int .u32 1986661051),(38,.int .u32 2177026350),(39,.int .u32 2456956037),(40,.int .u32 2730485921),(41,.int .u32 2820302411),(42,.int .u32 3259730800),(43,.int .u32 3345764771),(44,.int .u32 3516065817),(45,.int .u32 3600352804),(46,.int .u32 4094571909),(47,.int .u32 275423344),(48,.int .u32 430227734),(49,.int .u32 506948616),(50,.int .u32 659060556),(51,.int .u32 883997877),(52,.int .u32 958139571),(53,.int .u32 1322822218),(54,.int .u32 1537002063),(55,.int .u32 1747873779),(56,.int .u32 1955562222),(57,.int .u32 2024104815),(58,.int .u32 2227730452),(59,.int .u32 2361852424),(60,.int .u32 2428436474),(61,.int .u32 2756734187),(62,.int .u32 3204031479),(63,.int .u32 3329325298)]) fun v3=>wg (aF T G2 bW (.ptr i1 [] 0) v3) fun G4=>wv (ag T G4 bW (.ptr i1 [] 0)) fun v5=>Q v5 G4
def eN.an:Ann:=.nil
theorem eN.sound (h:eN.S G Q):al P eN.n [] G Q:=by
 have e:eN.S G Q=awp cx eN.body eN.an (bG T [.cell 0 136] Q) (cC []) G:=by kernel_rfl
 refine aD cF Tryz.func146 ?_ ?_ ?_ (aH ?_ ?_) (by simp[Tryz.f146]) (e.mp h)<;>kernel_rfl
def bS.S (a0 a1:ah) (G:ak) (Q:ah->ak->Prop):Prop:=
 wv (az T .shr aJ a0 a1) fun v1=>wv (az T .sub ay (.int .i64 32) a1) fun v2=>wv (az T .shl aJ a0 v2) fun v3=>wv (az T .or aJ v1 v3) fun v4=>Q v4 G
def bS.an:Ann:=.two .nil (.two (.ord [(0,[]),(1,[]),(2,[]),(3,[]),(4,[]),(5,[]),(6,[]),(7,[]),(8,[])]) .nil)
theorem bS.sound {a0 a1:ah}(h:bS.S a0 a1 G Q):al P bS.n [a0,a1] G Q:=by
 have e:bS.S a0 a1 G Q=awp cx bS.body bS.an (bG T [.tmp 4] Q) (cC [a0,a1]) G:=by kernel_rfl
 refine aD cF Tryz.func147 ?_ ?_ ?_ (aH ?_ ?_) (by simp[Tryz.f147]) (e.mp h)<;>kernel_rfl
def fw.S (a0 a1 a2:ah) (G:ak) (Q:ah->ak->Prop):Prop:=
 br G (.own a0) fun i1 G2=>br G2 (.own (mw)) fun i3 G4=>al P eN.n [] G4 fun v5 G6=>br G6 (.own (iy)) fun i7 G8=>wg (aF T G8 bW (.ptr i7 [] 0) v5) fun G9=>br G9 (.own (iy)) fun i10 G11=>∀ R12:List ah->ak->Prop,
 (∀ (x14 x15 x16 x17 x18 x19 x20:ah) (G13:ak),(wv (az T .lss ay x20 (.int .i64 16)) fun v21=>brB (some v21)
 (wv (az T .mul ay (.int .i64 4) x20) fun v22=>wv (az T .add ay x15 v22) fun v23=>wv (aO T aR x14 v23) fun v24=>wv (ag T G13 cm v24) fun v25=>wv (gv T G13 cm aJ v25) fun v26=>wv (az T .shl aJ v26 (.int .u64 24)) fun v27=>wv (az T .add ay v23 (.int .i64 1)) fun v28=>wv (aO T aR x14 v28) fun v29=>wv (ag T G13 cm v29) fun v30=>wv (gv T G13 cm aJ v30) fun v31=>wv (az T .shl aJ v31 (.int .u64 16)) fun v32=>wv (az T .or aJ v27 v32) fun v33=>wv (az T .add ay v23 (.int .i64 2)) fun v34=>wv (aO T aR x14 v34) fun v35=>wv (ag T G13 cm v35) fun v36=>wv (gv T G13 cm aJ v36) fun v37=>wv (az T .shl aJ v37 (.int .u64 8)) fun v38=>wv (az T .or aJ v33 v38) fun v39=>wv (az T .add ay v23 (.int .i64 3)) fun v40=>wv (aO T aR x14 v40) fun v41=>wv (ag T G13 cm v41) fun v42=>wv (gv T G13 cm aJ v42) fun v43=>wv (az T .or aJ v39 v43) fun v44=>wv (aO T bW x19 x20) fun v45=>wg (aF T G13 aJ v45 v44) fun G46=>wv (az T .add ay x20 (.int .i64 1)) fun v47=>R12 [x14,x15,x16,x17,x18,x19,v47] G46)
 (∀ R48:List ah->ak->Prop,
 (∀ (x50 x51 x52 x53 x54:ah) (G49:ak),(wv (az T .lss ay x54 (.int .i64 64)) fun v55=>brB (some v55)
 (wv (az T .sub ay x54 (.int .i64 15)) fun v56=>wv (aO T bW x53 v56) fun v57=>wv (ag T G49 aJ v57) fun v58=>wv (az T .sub ay x54 (.int .i64 2)) fun v59=>wv (aO T bW x53 v59) fun v60=>wv (ag T G49 aJ v60) fun v61=>wv (az T .sub ay x54 (.int .i64 16)) fun v62=>wv (aO T bW x53 v62) fun v63=>wv (ag T G49 aJ v63) fun v64=>wv (az T .shr aJ v58 (.int .u64 3)) fun v65=>wv (az T .sub ay x54 (.int .i64 7)) fun v66=>wv (aO T bW x53 v66) fun v67=>wv (ag T G49 aJ v67) fun v68=>wv (az T .shr aJ v61 (.int .u64 10)) fun v69=>al P bS.n [v58,.int .i64 7] G49 fun v70 G71=>(ag T G71 aJ v67=some v68/\ag T G71 aJ v63=some v64/\True)/\(al P bS.n [v58,.int .i64 18] G71 fun v72 G73=>(ag T G73 aJ v67=some v68/\ag T G73 aJ v63=some v64/\True)/\(wv (az T .xor aJ v70 v72) fun v74=>wv (az T .xor aJ v74 v65) fun v75=>wv (az T .add aJ v64 v75) fun v76=>wv (az T .add aJ v76 v68) fun v77=>al P bS.n [v61,.int .i64 17] G73 fun v78 G79=>(ag T G79 aJ v67=some v68/\ag T G79 aJ v63=some v64/\True)/\(al P bS.n [v61,.int .i64 19] G79 fun v80 G81=>(ag T G81 aJ v67=some v68/\ag T G81 aJ v63=some v64/\True)/\(wv (az T .xor aJ v78 v80) fun v82=>wv (az T .xor aJ v82 v69) fun v83=>wv (az T .add aJ v77 v83) fun v84=>wv (aO T bW x53 x54) fun v85=>wg (aF T G81 aJ v85 v84) fun G86=>wv (az T .add ay x54 (.int .i64 1)) fun v87=>R48 [x50,x51,x52,x53,v87] G86)))))
 (wv (ag T G49 bn x50) fun v88=>br G49 (.own (mw)) fun i89 G90=>wg (aF T G90 bn (.ptr i89 [] 0) v88) fun G91=>∀ R92:List ah->ak->Prop,
 (∀ (x94 x95 x96 x97 x98 x99:ah) (G93:ak),(wv (az T .lss ay x99 (.int .i64 64)) fun v100=>brB (some v100)
 (wv (aO T bn x98 (.int .i64 0)) fun v101=>wv (ag T G93 aJ v101) fun v102=>wv (aO T bn x98 (.int .i64 4)) fun v103=>wv (ag T G93 aJ v103) fun v104=>wv (aO T bn x98 (.int .i64 7)) fun v105=>wv (ag T G93 aJ v105) fun v106=>wv (aO T bn x98 (.int .i64 5)) fun v107=>wv (ag T G93 aJ v107) fun v108=>wv (az T .and aJ v104 v108) fun v109=>wv (vun .xor v104) fun v110=>wv (aO T bn x98 (.int .i64 6)) fun v111=>wv (ag T G93 aJ v111) fun v112=>wv (az T .and aJ v110 v112) fun v113=>wv (az T .xor aJ v109 v113) fun v114=>wv (aO T bW x96 x99) fun v115=>wv (ag T G93 aJ v115) fun v116=>wv (aO T bW x97 x99) fun v117=>wv (ag T G93 aJ v117) fun v118=>al P bS.n [v104,.int .i64 6] G93 fun v119 G120=>(ag T G120 aJ v117=some v118/\ag T G120 aJ v115=some v116/\ag T G120 aJ v111=some v112/\ag T G120 aJ v107=some v108/\ag T G120 aJ v105=some v106/\True)/\(al P bS.n [v104,.int .i64 11] G120 fun v121 G122=>(ag T G122 aJ v117=some v118/\ag T G122 aJ v115=some v116/\ag T G122 aJ v111=some v112/\ag T G122 aJ v107=some v108/\ag T G122 aJ v105=some v106/\True)/\(wv (az T .xor aJ v119 v121) fun v123=>al P bS.n [v104,.int .i64 25] G122 fun v124 G125=>(ag T G125 aJ v117=some v118/\ag T G125 aJ v115=some v116/\ag T G125 aJ v111=some v112/\ag T G125 aJ v107=some v108/\ag T G125 aJ v105=some v106/\True)/\(wv (az T .xor aJ v123 v124) fun v126=>wv (az T .add aJ v106 v126) fun v127=>wv (az T .add aJ v127 v114) fun v128=>wv (az T .add aJ v128 v116) fun v129=>wv (az T .add aJ v129 v118) fun v130=>wv (aO T bn x98 (.int .i64 1)) fun v131=>wv (ag T G125 aJ v131) fun v132=>wv (az T .and aJ v102 v132) fun v133=>wv (aO T bn x98 (.int .i64 2)) fun v134=>wv (ag T G125 aJ v134) fun v135=>wv (az T .and aJ v102 v135) fun v136=>wv (az T .xor aJ v133 v136) fun v137=>wv (aO T bn x98 (.int .i64 1)) fun v138=>wv (ag T G125 aJ v138) fun v139=>wv (aO T bn x98 (.int .i64 2)) fun v140=>wv (ag T G125 aJ v140) fun v141=>wv (az T .and aJ v139 v141) fun v142=>wv (az T .xor aJ v137 v142) fun v143=>al P bS.n [v102,.int .i64 2] G125 fun v144 G145=>(ag T G145 aJ v140=some v141/\ag T G145 aJ v138=some v139/\ag T G145 aJ v134=some v135/\ag T G145 aJ v131=some v132/\True)/\(al P bS.n [v102,.int .i64 13] G145 fun v146 G147=>(ag T G147 aJ v140=some v141/\ag T G147 aJ v138=some v139/\ag T G147 aJ v134=some v135/\ag T G147 aJ v131=some v132/\True)/\(wv (az T .xor aJ v144 v146) fun v148=>al P bS.n [v102,.int .i64 22] G147 fun v149 G150=>(ag T G150 aJ v140=some v141/\ag T G150 aJ v138=some v139/\ag T G150 aJ v134=some v135/\ag T G150 aJ v131=some v132/\True)/\(wv (az T .xor aJ v148 v149) fun v151=>wv (az T .add aJ v151 v143) fun v152=>wv (az T .add aJ v130 v152) fun v153=>wv (aO T bn x98 (.int .i64 0)) fun v154=>wv (ag T G150 aJ v154) fun v155=>wv (aO T bn x98 (.int .i64 1)) fun v156=>wv (ag T G150 aJ v156) fun v157=>wv (aO T bn x98 (.int .i64 2)) fun v158=>wv (ag T G150 aJ v158) fun v159=>wv (aO T bn x98 (.int .i64 3)) fun v160=>wv (ag T G150 aJ v160) fun v161=>wv (az T .add aJ v161 v130) fun v162=>wv (aO T bn x98 (.int .i64 4)) fun v163=>wv (ag T G150 aJ v163) fun v164=>wv (aO T bn x98 (.int .i64 5)) fun v165=>wv (ag T G150 aJ v165) fun v166=>wv (aO T bn x98 (.int .i64 6)) fun v167=>wv (ag T G150 aJ v167) fun v168=>wv (bj T bn [(0,v153),(1,v155),(2,v157),(3,v159),(4,v162),(5,v164),(6,v166),(7,v168)]) fun v169=>wg (aF T G150 bn x98 v169) fun G170=>wv (az T .add ay x99 (.int .i64 1)) fun v171=>R92 [x94,x95,x96,x97,x98,v171] G170)))))))
 (∀ R172:List ah->ak->Prop,
 (∀ (x174 x175 x176 x177:ah) (G173:ak),(wv (az T .lss ay x177 (.int .i64 8)) fun v178=>brB (some v178)
 (wv (aO T bn x176 x177) fun v179=>wv (ag T G173 aJ v179) fun v180=>wv (aO T bn x174 x177) fun v181=>wv (ag T G173 aJ v181) fun v182=>wv (az T .add aJ v180 v182) fun v183=>wv (aO T bn x176 x177) fun v184=>wg (aF T G173 aJ v184 v183) fun G185=>wv (az T .add ay x177 (.int .i64 1)) fun v186=>R172 [x174,x175,x176,v186] G185)
 (wv (ag T G173 bn x176) fun v187=>wg (aF T G173 bn x175 v187) fun G188=>wv (ag T G188 bn x175) fun v189=>Q v189 G188))->R172 [x174,x175,x176,x177] G173) ->
 R172 [x94,x95,x98,.int .i64 0] G93))->R92 [x94,x95,x96,x97,x98,x99] G93) ->
 R92 [x50,x51,x52,x53,.ptr i89 [] 0,.int .i64 0] G91))->R48 [x50,x51,x52,x53,x54] G49) ->
 R48 [x16,x17,x18,x19,.int .i64 16] G13))->R12 [x14,x15,x16,x17,x18,x19,x20] G13) ->
 R12 [a1,a2,.ptr i1 [] 0,.ptr i3 [] 0,.ptr i7 [] 0,.ptr i10 [] 0,.int .i64 0] G11
def fw.an:Ann:=.two .nil (.two .nil (.two .nil (.two (.two .nil (.loop [1,2,3,6,7,8,9] [false,false,false,false,false,false,false] (.two .nil (.two (.two .nil (.ord [(0,[]),(1,[]),(2,[]),(3,[]),(4,[]),(5,[]),(6,[]),(7,[]),(8,[]),(9,[]),(10,[]),(11,[]),(12,[]),(13,[]),(14,[]),(15,[]),(16,[]),(17,[]),(18,[]),(19,[]),(20,[]),(21,[]),(22,[]),(23,[]),(24,[]),(25,[]),(26,[]),(27,[]),(28,[]),(29,[]),(30,[]),(31,[])])) .nil)))) (.two (.two .nil (.loop [3,6,7,8,11] [false,false,false,false,false] (.two .nil (.two (.two .nil (.two .nil (.ord [(0,[]),(1,[]),(2,[]),(3,[]),(4,[]),(5,[]),(7,[]),(10,[]),(11,[]),(14,[]),(15,[]),(16,[]),(17,[]),(19,[]),(21,[]),(24,[]),(25,[]),(6,[4,17]),(8,[4,17]),(9,[]),(12,[]),(13,[]),(18,[]),(20,[4,17]),(22,[4,17]),(23,[]),(26,[]),(27,[]),(28,[]),(29,[])]))) .nil)))) (.two .nil (.two (.two .nil (.loop [3,6,7,8,14,15] [false,false,false,false,false,false] (.two .nil (.two (.two .nil (.two .nil (.two (.ord [(0,[]),(1,[]),(2,[]),(4,[]),(7,[]),(11,[]),(12,[]),(13,[]),(14,[]),(15,[]),(16,[]),(17,[]),(18,[]),(19,[]),(20,[]),(22,[]),(23,[]),(24,[]),(26,[]),(27,[]),(28,[]),(3,[1,13,18,24,28]),(5,[1,13,18,24,28]),(6,[]),(8,[1,13,18,24,28]),(9,[]),(10,[]),(21,[]),(25,[]),(29,[]),(30,[])]) (.two (.ord [(0,[]),(2,[]),(5,[]),(8,[]),(9,[]),(10,[]),(11,[]),(12,[]),(13,[]),(14,[]),(15,[]),(16,[]),(17,[]),(18,[]),(19,[]),(20,[]),(21,[]),(22,[]),(1,[10,14,18,20]),(3,[10,14,18,20]),(4,[]),(6,[10,14,18,20]),(7,[]),(23,[]),(24,[])]) .nil)))) .nil)))) (.two (.two .nil (.loop [3,6,14,20] [false,false,false,false] (.two .nil (.two (.ord [(0,[]),(1,[]),(2,[]),(3,[]),(4,[]),(5,[]),(6,[]),(7,[]),(8,[]),(9,[])]) .nil)))) .nil)))))))
theorem fw.sound {a0 a1 a2:ah}(h:fw.S a0 a1 a2 G Q):al P fw.n [a0,a1,a2] G Q:=by
 have e:fw.S a0 a1 a2 G Q=awp cx fw.body fw.an (bG T [.cell 6 135] Q) (cC [a0,a1,a2]) G:=by kernel_rfl
 refine aD cF Tryz.func84 ?_ ?_ ?_ (aH ?_ ?_) (by simp[Tryz.f84]) (e.mp h)<;>kernel_rfl
def dJ.S (a0:ah) (G:ak) (Q:ah->ak->Prop):Prop:=
 br G (.own (dm)) fun i1 G2=>al P eO.n [a0] G2 fun v3 G4=>wv (bj T bn [(0,.int .u32 1779033703),(1,.int .u32 3144134277),(2,.int .u32 1013904242),(3,.int .u32 2773480762),(4,.int .u32 1359893119),(5,.int .u32 2600822924),(6,.int .u32 528734635),(7,.int .u32 1541459225)]) fun v5=>br G4 (.own (mw)) fun i6 G7=>wg (aF T G7 bn (.ptr i6 [] 0) v5) fun G8=>∀ R9:List ah->ak->Prop,
 (∀ (x11 x12 x13 x14:ah) (G10:ak),(wv (fU T G10 aR x12) fun v15=>wv (az T .lss ay x14 v15) fun v16=>brB (some v16)
 (wv (ag T G10 bn x13) fun v17=>al P fw.n [v17,x12,x14] G10 fun v18 G19=>wg (aF T G19 bn x13 v18) fun G20=>wv (az T .add ay x14 (.int .i64 64)) fun v21=>R9 [x11,x12,x13,v21] G20)
 (br G10 (.own (dm)) fun i22 G23=>∀ R24:List ah->ak->Prop,
 (∀ (x26 x27 x28 x29:ah) (G25:ak),(wv (az T .lss ay x29 (.int .i64 32)) fun v30=>brB (some v30)
 (wv (az T .quo ay x29 (.int .i64 4)) fun v31=>wv (aO T bn x27 v31) fun v32=>wv (ag T G25 aJ v32) fun v33=>wv (az T .rem ay x29 (.int .i64 4)) fun v34=>wv (az T .mul ay (.int .i64 8) v34) fun v35=>wv (az T .sub ay (.int .i64 24) v35) fun v36=>wv (az T .shr aJ v33 v36) fun v37=>wv (gv T G25 aJ cm v37) fun v38=>wv (aO T ar x28 x29) fun v39=>wg (aF T G25 cm v39 v38) fun G40=>wv (az T .add ay x29 (.int .i64 1)) fun v41=>R24 [x26,x27,x28,v41] G40)
 (wv (ag T G25 ar x28) fun v42=>wg (aF T G25 ar x26 v42) fun G43=>wv (ag T G43 ar x26) fun v44=>Q v44 G43))->R24 [x26,x27,x28,x29] G25) ->
 R24 [x11,x13,.ptr i22 [] 0,.int .i64 0] G23))->R9 [x11,x12,x13,x14] G10) ->
 R9 [.ptr i1 [] 0,v3,.ptr i6 [] 0,.int .i64 0] G8
def dJ.an:Ann:=.two .nil (.two .nil (.two .nil (.two (.two .nil (.loop [2,3,4,5] [false,false,false,false] .nil)) (.two .nil (.two (.two .nil (.loop [2,4,6,7] [false,false,false,false] .nil)) .nil)))))
theorem dJ.sound {a0:ah}(h:dJ.S a0 G Q):al P dJ.n [a0] G Q:=by
 have e:dJ.S a0 G Q=awp cx dJ.body dJ.an (bG T [.cell 2 23] Q) (cC [a0]) G:=by kernel_rfl
 refine aD cF Tryz.func35 ?_ ?_ ?_ (aH ?_ ?_) (by simp[Tryz.f35]) (e.mp h)<;>kernel_rfl
end Go.Esc.M
