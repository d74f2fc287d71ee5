import Derived.Test.YtkojimdacnohpaaGreatDoorT
set_option linter.unusedSimpArgs false
set_option linter.unusedVariables false
set_option maxRecDepth 100000
namespace Go.Esc.M
open Go Go.Esc Go.Proofs
variable {G:ak}{Q:ah->ak->Prop}
def dt.S (a0:ah) (G:ak) (Q:ah->ak->Prop):Prop:=
 wv (az T .geq aq a0 (.int .i64 0)) fun v1=>brB (some v1)
 (wv (az T .leq aq a0 (.int .i64 281474976710655)) fun v2=>Q v2 G)
 (Q (.bool false) G)
def dt.an:Ann:=.nil
theorem dt.sound {a0:ah}(h:dt.S a0 G Q):al P dt.n [a0] G Q:=by
 have e:dt.S a0 G Q=awp cx dt.body dt.an (bG T [.tmp 2] Q) (cC [a0]) G:=by kernel_rfl
 refine aD cF Tryz.func54 ?_ ?_ ?_ (aH ?_ ?_) (by simp[Tryz.f54]) (e.mp h)<;>kernel_rfl
def eO.S (a0:ah) (G:ak) (Q:ah->ak->Prop):Prop:=
 cn T G aR bH (.nilSlice) a0 fun v1 G2=>bu T aR 1 [(0,.int .u8 128)] G2 fun v3 G4=>cn T G4 aR aR v1 v3 fun v5 G6=>∀ R7:List ah->ak->Prop,
 (∀ (x9 x10:ah) (G8:ak),(wv (fU T G8 aR x10) fun v11=>wv (az T .rem ay v11 (.int .i64 64)) fun v12=>wv (az T .neq ay v12 (.int .i64 56)) fun v13=>brB (some v13)
 (bu T aR 1 [(0,.int .u8 0)] G8 fun v14 G15=>cn T G15 aR aR x10 v14 fun v16 G17=>R7 [x9,v16] G17)
 (∀ R18:List ah->ak->Prop,
 (∀ (x20 x21 x22:ah) (G19:ak),(wv (az T .geq ay x22 (.int .i64 0)) fun v23=>brB (some v23)
 (wv (fU T G19 bH x20) fun v24=>wv (az T .mul ay (.int .i64 8) v24) fun v25=>wv (az T .mul ay (.int .i64 8) x22) fun v26=>wv (az T .shr ay v25 v26) fun v27=>wv (gv T G19 ay cm v27) fun v28=>bu T aR 1 [(0,v28)] G19 fun v29 G30=>cn T G30 aR aR x21 v29 fun v31 G32=>wv (az T .sub ay x22 (.int .i64 1)) fun v33=>R18 [x20,v31,v33] G32)
 (Q x21 G19))->R18 [x20,x21,x22] G19) ->
 R18 [x9,x10,.int .i64 7] G8))->R7 [x9,x10] G8) ->
 R7 [a0,v5] G6
def eO.an:Ann:=.two .nil (.two .nil (.two .nil (.two .nil (.two (.loop [0,3] [false,false] .nil) (.two (.two .nil (.loop [0,3,4] [false,false,false] .nil)) .nil)))))
theorem eO.sound {a0:ah}(h:eO.S a0 G Q):al P eO.n [a0] G Q:=by
 have e:eO.S a0 G Q=awp cx eO.body eO.an (bG T [.tmp 2] Q) (cC [a0]) G:=by kernel_rfl
 refine aD cF Tryz.func83 ?_ ?_ ?_ (aH ?_ ?_) (by simp[Tryz.f83]) (e.mp h)<;>kernel_rfl
def eN.S (G:ak) (Q:ah->ak->Prop):Prop:=
 br G (.own (iy)) fun i1 G2=>wv (bj T bW [(0,.int .u32 1116352408),(1,.int .u32 1899447441),(2,.int .u32 3049323471),(3,.int .u32 3921009573),(4,.int .u32 961987163),(5,.int .u32 1508970993),(6,.int .u32 2453635748),(7,.int .u32 2870763221),(8,.int .u32 3624381080),(9,.int .u32 310598401),(10,.int .u32 607225278),(11,.int .u32 1426881987),(12,.int .u32 1925078388),(13,.int .u32 2162078206),(14,.int .u32 2614888103),(15,.int .u32 3248222580),(16,.int .u32 3835390401),(17,.int .u32 4022224774),(18,.int .u32 264347078),(19,.int .u32 604807628),(20,.int .u32 770255983),(21,.int .u32 1249150122),(22,.int .u32 1555081692),(23,.int .u32 1996064986),(24,.int .u32 2554220882),(25,.int .u32 2821834349),(26,.int .u32 2952996808),(27,.int .u32 3210313671),(28,.int .u32 3336571891),(29,.int .u32 3584528711),(30,.int .u32 113926993),(31,.int .u32 338241895),(32,.int .u32 666307205),(33,.int .u32 773529912),(34,.int .u32 1294757372),(35,.int .u32 1396182291),(36,.int .u32 1695183700),(37,.int .u32 1986661051),(38,.int .u32 2177026350),(39,.int .u32 2456956037),(40,.int .u32 2730485921),(41,.int .u32 2820302411),(42,.int .u32 3259730800),(43,.int .u32 3345764771),(44,.int .u32 3516065817),(45,.int .u32 3600352804),(46,.int .u32 4094571909),(47,.int .u32 275423344),(48,.int .u32 430227734),(49,.int .u32 506948616),(50,.int .u32 659060556),(51,.int .u32 883997877),(52,.int .u32 958139571),(53,.int .u32 1322822218),(54,.int .u32 1537002063),(55,.int .u32 1747873779),(56,.int .u32 1955562222),(57,.int .u32 2024104815),(58,.int .u32 2227730452),(59,.int .u32 2361852424),(60,.int .u32 2428436474),(61,.int .u32 2756734187),(62,.int .u32 3204031479),(63,.int .u32 3329325298)]) fun v3=>wg (aF T G2 bW (.ptr i1 [] 0) v3) fun G4=>wv (ag T G4 bW (.ptr i1 [] 0)) fun v5=>Q v5 G4
def eN.an:Ann:=.nil
theorem eN.sound (h:eN.S G Q):al P eN.n [] G Q:=by
 have e:eN.S G Q=awp cx eN.body eN.an (bG T [.cell 0 136] Q) (cC []) G:=by kernel_rfl
 refine aD cF Tryz.func146 ?_ ?_ ?_ (aH ?_ ?_) (by simp[Tryz.f146]) (e.mp h)<;>kernel_rfl
def bS.S (a0 a1:ah) (G:ak) (Q:ah->ak->Prop):Prop:=
 wv (az T .shr aJ a0 a1) fun v1=>wv (az T .sub ay (.int .i64 32) a1) fun v2=>wv (az T .shl aJ a0 v2) fun v3=>wv (az T .or aJ v1 v3) fun v4=>Q v4 G
def bS.an:Ann:=.two .nil (.two (.ord [(0,[]),(1,[]),(2,[]),(3,[]),(4,[]),(5,[]),(6,[]),(7,[]),(8,[])]) .nil)
theorem bS.sound {a0 a1:ah}(h:bS.S a0 a1 G Q):al P bS.n [a0,a1] G Q:=by
 have e:bS.S a0 a1 G Q=awp cx bS.body bS.an (bG T [.tmp 4] Q) (cC [a0,a1]) G:=by kernel_rfl
 refine aD cF Tryz.func147 ?_ ?_ ?_ (aH ?_ ?_) (by simp[Tryz.f147]) (e.mp h)<;>kernel_rfl
def fw.S (a0 a1 a2:ah) (G:ak) (Q:ah->ak->Prop):Prop:=
 br G (.own a0) fun i1 G2=>br G2 (.own (mw)) fun i3 G4=>al P eN.n [] G4 fun v5 G6=>br G6 (.own (iy)) fun i7 G8=>wg (aF T G8 bW (.ptr i7 [] 0) v5) fun G9=>br G9 (.own (iy)) fun i10 G11=>∀ R12:List ah->ak->Prop,
 (∀ (x14 x15 x16 x17 x18 x19 x20:ah) (G13:ak),(wv (az T .lss ay x20 (.int .i64 16)) fun v21=>brB (some v21)
 (wv (az T .mul ay (.int .i64 4) x20) fun v22=>wv (az T .add ay x15 v22) fun v23=>wv (aO T aR x14 v23) fun v24=>wv (ag T G13 cm v24) fun v25=>wv (gv T G13 cm aJ v25) fun v26=>wv (az T .shl aJ v26 (.int .u64 24)) fun v27=>wv (az T .add ay v23 (.int .i64 1)) fun v28=>wv (aO T aR x14 v28) fun v29=>wv (ag T G13 cm v29) fun v30=>wv (gv T G13 cm aJ v30) fun v31=>wv (az T .shl aJ v31 (.int .u64 16)) fun v32=>wv (az T .or aJ v27 v32) fun v33=>wv (az T .add ay v23 (.int .i64 2)) fun v34=>wv (aO T aR x14 v34) fun v35=>wv (ag T G13 cm v35) fun v36=>wv (gv T G13 cm aJ v36) fun v37=>wv (az T .shl aJ v37 (.int .u64 8)) fun v38=>wv (az T .or aJ v33 v38) fun v39=>wv (az T .add ay v23 (.int .i64 3)) fun v40=>wv (aO T aR x14 v40) fun v41=>wv (ag T G13 cm v41) fun v42=>wv (gv T G13 cm aJ v42) fun v43=>wv (az T .or aJ v39 v43) fun v44=>wv (aO T bW x19 x20) fun v45=>wg (aF T G13 aJ v45 v44) fun G46=>wv (az T .add ay x20 (.int .i64 1)) fun v47=>R12 [x14,x15,x16,x17,x18,x19,v47] G46)
 (∀ R48:List ah->ak->Prop,
 (∀ (x50 x51 x52 x53 x54:ah) (G49:ak),(wv (az T .lss ay x54 (.int .i64 64)) fun v55=>brB (some v55)
 (wv (az T .sub ay x54 (.int .i64 15)) fun v56=>wv (aO T bW x53 v56) fun v57=>wv (ag T G49 aJ v57) fun v58=>wv (az T .sub ay x54 (.int .i64 2)) fun v59=>wv (aO T bW x53 v59) fun v60=>wv (ag T G49 aJ v60) fun v61=>wv (az T .sub ay x54 (.int .i64 16)) fun v62=>wv (aO T bW x53 v62) fun v63=>wv (ag T G49 aJ v63) fun v64=>wv (az T .shr aJ v58 (.int .u64 3)) fun v65=>wv (az T .sub ay x54 (.int .i64 7)) fun v66=>wv (aO T bW x53 v66) fun v67=>wv (ag T G49 aJ v67) fun v68=>wv (az T .shr aJ v61 (.int .u64 10)) fun v69=>al P bS.n [v58,.int .i64 7] G49 fun v70 G71=>(ag T G71 aJ v67=some v68/\ag T G71 aJ v63=some v64/\True)/\(al P bS.n [v58,.int .i64 18] G71 fun v72 G73=>(ag T G73 aJ v67=some v68/\ag T G73 aJ v63=some v64/\True)/\(wv (az T .xor aJ v70 v72) fun v74=>wv (az T .xor aJ v74 v65) fun v75=>wv (az T .add aJ v64 v75) fun v76=>wv (az T .add aJ v76 v68) fun v77=>al P bS.n [v61,.int .i64 17] G73 fun v78 G79=>(ag T G79 aJ v67=some v68/\ag T G79 aJ v63=some v64/\True)/\(al P bS.n [v61,.int .i64 19] G79 fun v80 G81=>(ag T G81 aJ v67=some v68/\ag T G81 aJ v63=some v64/\True)/\(wv (az T .xor aJ v78 v80) fun v82=>wv (az T .xor aJ v82 v69) fun v83=>wv (az T .add aJ v77 v83) fun v84=>wv (aO T bW x53 x54) fun v85=>wg (aF T G81 aJ v85 v84) fun G86=>wv (az T .add ay x54 (.int .i64 1)) fun v87=>R48 [x50,x51,x52,x53,v87] G86)))))
 (wv (ag T G49 bn x50) fun v88=>br G49 (.own (mw)) fun i89 G90=>wg (aF T G90 bn (.ptr i89 [] 0) v88) fun G91=>∀ R92:List ah->ak->Prop,
 (∀ (x94 x95 x96 x97 x98 x99:ah) (G93:ak),(wv (az T .lss ay x99 (.int .i64 64)) fun v100=>brB (some v100)
 (wv (aO T bn x98 (.int .i64 0)) fun v101=>wv (ag T G93 aJ v101) fun v102=>wv (aO T bn x98 (.int .i64 4)) fun v103=>wv (ag T G93 aJ v103) fun v104=>wv (aO T bn x98 (.int .i64 7)) fun v105=>wv (ag T G93 aJ v105) fun v106=>wv (aO T bn x98 (.int .i64 5)) fun v107=>wv (ag T G93 aJ v107) fun v108=>wv (az T .and aJ v104 v108) fun v109=>wv (vun .xor v104) fun v110=>wv (aO T bn x98 (.int .i64 6)) fun v111=>wv (ag T G93 aJ v111) fun v112=>wv (az T .and aJ v110 v112) fun v113=>wv (az T .xor aJ v109 v113) fun v114=>wv (aO T bW x96 x99) fun v115=>wv (ag T G93 aJ v115) fun v116=>wv (aO T bW x97 x99) fun v117=>wv (ag T G93 aJ v117) fun v118=>al P bS.n [v104,.int .i64 6] G93 fun v119 G120=>(ag T G120 aJ v117=some v118/\ag T G120 aJ v115=some v116/\ag T G120 aJ v111=some v112/\ag T G120 aJ v107=some v108/\ag T G120 aJ v105=some v106/\True)/\(al P bS.n [v104,.int .i64 11] G120 fun v121 G122=>(ag T G122 aJ v117=some v118/\ag T G122 aJ v115=some v116/\ag T G122 aJ v111=some v112/\ag T G122 aJ v107=some v108/\ag T G122 aJ v105=some v106/\True)/\(wv (az T .xor aJ v119 v121) fun v123=>al P bS.n [v104,.int .i64 25] G122 fun v124 G125=>(ag T G125 aJ v117=some v118/\ag T G125 aJ v115=some v116/\ag T G125 aJ v111=some v112/\ag T G125 aJ v107=some v108/\ag T G125 aJ v105=some v106/\True)/\(wv (az T .xor aJ v123 v124) fun v126=>wv (az T .add aJ v106 v126) fun v127=>wv (az T .add aJ v127 v114) fun v128=>wv (az T .add aJ v128 v116) fun v129=>wv (az T .add aJ v129 v118) fun v130=>wv (aO T bn x98 (.int .i64 1)) fun v131=>wv (ag T G125 aJ v131) fun v132=>wv (az T .and aJ v102 v132) fun v133=>wv (aO T bn x98 (.int .i64 2)) fun v134=>wv (ag T G125 aJ v134) fun v135=>wv (az T .and aJ v102 v135) fun v136=>wv (az T .xor aJ v133 v136) fun v137=>wv (aO T bn x98 (.int .i64 1)) fun v138=>wv (ag T G125 aJ v138) fun v139=>wv (aO T bn x98 (.int .i64 2)) fun v140=>wv (ag T G125 aJ v140) fun v141=>wv (az T .and aJ v139 v141) fun v142=>wv (az T .xor aJ v137 v142) fun v143=>al P bS.n [v102,.int .i64 2] G125 fun v144 G145=>(ag T G145 aJ v140=some v141/\ag T G145 aJ v138=some v139/\ag T G145 aJ v134=some v135/\ag T G145 aJ v131=some v132/\True)/\(al P bS.n [v102,.int .i64 13] G145 fun v146 G147=>(ag T G147 aJ v140=some v141/\ag T G147 aJ v138=some v139/\ag T G147 aJ v134=some v135/\ag T G147 aJ v131=some v132/\True)/\(wv (az T .xor aJ v144 v146) fun v148=>al P bS.n [v102,.int .i64 22] G147 fun v149 G150=>(ag T G150 aJ v140=some v141/\ag T G150 aJ v138=some v139/\ag T G150 aJ v134=some v135/\ag T G150 aJ v131=some v132/\True)/\(wv (az T .xor aJ v148 v149) fun v151=>wv (az T .add aJ v151 v143) fun v152=>wv (az T .add aJ v130 v152) fun v153=>wv (aO T bn x98 (.int .i64 0)) fun v154=>wv (ag T G150 aJ v154) fun v155=>wv (aO T bn x98 (.int .i64 1)) fun v156=>wv (ag T G150 aJ v156) fun v157=>wv (aO T bn x98 (.int .i64 2)) fun v158=>wv (ag T G150 aJ v158) fun v159=>wv (aO T bn x98 (.int .i64 3)) fun v160=>wv (ag T G150 aJ v160) fun v161=>wv (az T .add aJ v161 v130) fun v162=>wv (aO T bn x98 (.int .i64 4)) fun v163=>wv (ag T G150 aJ v163) fun v164=>wv (aO T bn x98 (.int .i64 5)) fun v165=>wv (ag T G150 aJ v165) fun v166=>wv (aO T bn x98 (.int .i64 6)) fun v167=>wv (ag T G150 aJ v167) fun v168=>wv (bj T bn [(0,v153),(1,v155),(2,v157),(3,v159),(4,v162),(5,v164),(6,v166),(7,v168)]) fun v169=>wg (aF T G150 bn x98 v169) fun G170=>wv (az T .add ay x99 (.int .i64 1)) fun v171=>R92 [x94,x95,x96,x97,x98,v171] G170)))))))
 (∀ R172:List ah->ak->Prop,
 (∀ (x174 x175 x176 x177:ah) (G173:ak),(wv (az T .lss ay x177 (.int .i64 8)) fun v178=>brB (some v178)
 (wv (aO T bn x176 x177) fun v179=>wv (ag T G173 aJ v179) fun v180=>wv (aO T bn x174 x177) fun v181=>wv (ag T G173 aJ v181) fun v182=>wv (az T .add aJ v180 v182) fun v183=>wv (aO T bn x176 x177) fun v184=>wg (aF T G173 aJ v184 v183) fun G185=>wv (az T .add ay x177 (.int .i64 1)) fun v186=>R172 [x174,x175,x176,v186] G185)
 (wv (ag T G173 bn x176) fun v187=>wg (aF T G173 bn x175 v187) fun G188=>wv (ag T G188 bn x175) fun v189=>Q v189 G188))->R172 [x174,x175,x176,x177] G173) ->
 R172 [x94,x95,x98,.int .i64 0] G93))->R92 [x94,x95,x96,x97,x98,x99] G93) ->
 R92 [x50,x51,x52,x53,.ptr i89 [] 0,.int .i64 0] G91))->R48 [x50,x51,x52,x53,x54] G49) ->
 R48 [x16,x17,x18,x19,.int .i64 16] G13))->R12 [x14,x15,x16,x17,x18,x19,x20] G13) ->
 R12 [a1,a2,.ptr i1 [] 0,.ptr i3 [] 0,.ptr i7 [] 0,.ptr i10 [] 0,.int .i64 0] G11
def fw.an:Ann:=.two .nil (.two .nil (.two .nil (.two (.two .nil (.loop [1,2,3,6,7,8,9] [false,false,false,false,false,false,false] (.two .nil (.two (.two .nil (.ord [(0,[]),(1,[]),(2,[]),(3,[]),(4,[]),(5,[]),(6,[]),(7,[]),(8,[]),(9,[]),(10,[]),(11,[]),(12,[]),(13,[]),(14,[]),(15,[]),(16,[]),(17,[]),(18,[]),(19,[]),(20,[]),(21,[]),(22,[]),(23,[]),(24,[]),(25,[]),(26,[]),(27,[]),(28,[]),(29,[]),(30,[]),(31,[])])) .nil)))) (.two (.two .nil (.loop [3,6,7,8,11] [false,false,false,false,false] (.two .nil (.two (.two .nil (.two .nil (.ord [(0,[]),(1,[]),(2,[]),(3,[]),(4,[]),(5,[]),(7,[]),(10,[]),(11,[]),(14,[]),(15,[]),(16,[]),(17,[]),(19,[]),(21,[]),(24,[]),(25,[]),(6,[4,17]),(8,[4,17]),(9,[]),(12,[]),(13,[]),(18,[]),(20,[4,17]),(22,[4,17]),(23,[]),(26,[]),(27,[]),(28,[]),(29,[])]))) .nil)))) (.two .nil (.two (.two .nil (.loop [3,6,7,8,14,15] [false,false,false,false,false,false] (.two .nil (.two (.two .nil (.two .nil (.two (.ord [(0,[]),(1,[]),(2,[]),(4,[]),(7,[]),(11,[]),(12,[]),(13,[]),(14,[]),(15,[]),(16,[]),(17,[]),(18,[]),(19,[]),(20,[]),(22,[]),(23,[]),(24,[]),(26,[]),(27,[]),(28,[]),(3,[1,13,18,24,28]),(5,[1,13,18,24,28]),(6,[]),(8,[1,13,18,24,28]),(9,[]),(10,[]),(21,[]),(25,[]),(29,[]),(30,[])]) (.two (.ord [(0,[]),(2,[]),(5,[]),(8,[]),(9,[]),(10,[]),(11,[]),(12,[]),(13,[]),(14,[]),(15,[]),(16,[]),(17,[]),(18,[]),(19,[]),(20,[]),(21,[]),(22,[]),(1,[10,14,18,20]),(3,[10,14,18,20]),(4,[]),(6,[10,14,18,20]),(7,[]),(23,[]),(24,[])]) .nil)))) .nil)))) (.two (.two .nil (.loop [3,6,14,20] [false,false,false,false] (.two .nil (.two (.ord [(0,[]),(1,[]),(2,[]),(3,[]),(4,[]),(5,[]),(6,[]),(7,[]),(8,[]),(9,[])]) .nil)))) .nil)))))))
theorem fw.sound {a0 a1 a2:ah}(h:fw.S a0 a1 a2 G Q):al P fw.n [a0,a1,a2] G Q:=by
 have e:fw.S a0 a1 a2 G Q=awp cx fw.body fw.an (bG T [.cell 6 135] Q) (cC [a0,a1,a2]) G:=by kernel_rfl
 refine aD cF Tryz.func84 ?_ ?_ ?_ (aH ?_ ?_) (by simp[Tryz.f84]) (e.mp h)<;>kernel_rfl
def dJ.S (a0:ah) (G:ak) (Q:ah->ak->Prop):Prop:=
 br G (.own (dm)) fun i1 G2=>al P eO.n [a0] G2 fun v3 G4=>wv (bj T bn [(0,.int .u32 1779033703),(1,.int .u32 3144134277),(2,.int .u32 1013904242),(3,.int .u32 2773480762),(4,.int .u32 1359893119),(5,.int .u32 2600822924),(6,.int .u32 528734635),(7,.int .u32 1541459225)]) fun v5=>br G4 (.own (mw)) fun i6 G7=>wg (aF T G7 bn (.ptr i6 [] 0) v5) fun G8=>∀ R9:List ah->ak->Prop,
 (∀ (x11 x12 x13 x14:ah) (G10:ak),(wv (fU T G10 aR x12) fun v15=>wv (az T .lss ay x14 v15) fun v16=>brB (some v16)
 (wv (ag T G10 bn x13) fun v17=>al P fw.n [v17,x12,x14] G10 fun v18 G19=>wg (aF T G19 bn x13 v18) fun G20=>wv (az T .add ay x14 (.int .i64 64)) fun v21=>R9 [x11,x12,x13,v21] G20)
 (br G10 (.own (dm)) fun i22 G23=>∀ R24:List ah->ak->Prop,
 (∀ (x26 x27 x28 x29:ah) (G25:ak),(wv (az T .lss ay x29 (.int .i64 32)) fun v30=>brB (some v30)
 (wv (az T .quo ay x29 (.int .i64 4)) fun v31=>wv (aO T bn x27 v31) fun v32=>wv (ag T G25 aJ v32) fun v33=>wv (az T .rem ay x29 (.int .i64 4)) fun v34=>wv (az T .mul ay (.int .i64 8) v34) fun v35=>wv (az T .sub ay (.int .i64 24) v35) fun v36=>wv (az T .shr aJ v33 v36) fun v37=>wv (gv T G25 aJ cm v37) fun v38=>wv (aO T ar x28 x29) fun v39=>wg (aF T G25 cm v39 v38) fun G40=>wv (az T .add ay x29 (.int .i64 1)) fun v41=>R24 [x26,x27,x28,v41] G40)
 (wv (ag T G25 ar x28) fun v42=>wg (aF T G25 ar x26 v42) fun G43=>wv (ag T G43 ar x26) fun v44=>Q v44 G43))->R24 [x26,x27,x28,x29] G25) ->
 R24 [x11,x13,.ptr i22 [] 0,.int .i64 0] G23))->R9 [x11,x12,x13,x14] G10) ->
 R9 [.ptr i1 [] 0,v3,.ptr i6 [] 0,.int .i64 0] G8
def dJ.an:Ann:=.two .nil (.two .nil (.two .nil (.two (.two .nil (.loop [2,3,4,5] [false,false,false,false] .nil)) (.two .nil (.two (.two .nil (.loop [2,4,6,7] [false,false,false,false] .nil)) .nil)))))
theorem dJ.sound {a0:ah}(h:dJ.S a0 G Q):al P dJ.n [a0] G Q:=by
 have e:dJ.S a0 G Q=awp cx dJ.body dJ.an (bG T [.cell 2 23] Q) (cC [a0]) G:=by kernel_rfl
 refine aD cF Tryz.func35 ?_ ?_ ?_ (aH ?_ ?_) (by simp[Tryz.f35]) (e.mp h)<;>kernel_rfl
def fO.S (a0:ah) (G:ak) (Q:ah->ak->Prop):Prop:=
 br G (.own (dm)) fun i1 G2=>∀ R3:List ah->ak->Prop,
 (∀ (x5 x6 x7 x8:ah) (G4:ak),(wv (fU T G4 iE x5) fun v9=>wv (az T .lss ay x8 v9) fun v10=>brB (some v10)
 (wv (aO T iE x5 x8) fun v11=>wv (ag T G4 bH v11) fun v12=>wv (az T .add bH x7 v12) fun v13=>wv (az T .add ay x8 (.int .i64 1)) fun v14=>R3 [x5,x6,v13,v14] G4)
 (al P dJ.n [x7] G4 fun v15 G16=>wg (aF T G16 ar x6 v15) fun G17=>wv (ag T G17 ar x6) fun v18=>Q v18 G17))->R3 [x5,x6,x7,x8] G4) ->
 R3 [a0,.ptr i1 [] 0,.str [],.int .i64 0] G2
def fO.an:Ann:=.two .nil (.two .nil (.two (.two .nil (.loop [0,2,3,4] [false,false,false,false] .nil)) .nil))
theorem fO.sound {a0:ah}(h:fO.S a0 G Q):al P fO.n [a0] G Q:=by
 have e:fO.S a0 G Q=awp cx fO.body fO.an (bG T [.cell 2 23] Q) (cC [a0]) G:=by kernel_rfl
 refine aD cF Tryz.func169 ?_ ?_ ?_ (aH ?_ ?_) (by simp[Tryz.f169]) (e.mp h)<;>kernel_rfl
def cA.S (a0:ah) (G:ak) (Q:ah->ak->Prop):Prop:=
 br G (.own a0) fun i1 G2=>br G2 (.own (dm)) fun i3 G4=>wv (dV T ar (.ptr i1 [] 0) none none none) fun v5=>wv (gv T G4 aR bH v5) fun v6=>bu T iE 1 [(0,v6)] G4 fun v7 G8=>al P fO.n [v7] G8 fun v9 G10=>wg (aF T G10 ar (.ptr i3 [] 0) v9) fun G11=>wv (ag T G11 ar (.ptr i3 [] 0)) fun v12=>Q v12 G11
def cA.an:Ann:=.nil
theorem cA.sound {a0:ah}(h:cA.S a0 G Q):al P cA.n [a0] G Q:=by
 have e:cA.S a0 G Q=awp cx cA.body cA.an (bG T [.cell 2 23] Q) (cC [a0]) G:=by kernel_rfl
 refine aD cF Tryz.func111 ?_ ?_ ?_ (aH ?_ ?_) (by simp[Tryz.f111]) (e.mp h)<;>kernel_rfl
def fe.S (a0 a1 a2:ah) (G:ak) (Q:ah->ak->Prop):Prop:=
 br G (.own a0) fun i1 G2=>br G2 (.own a1) fun i3 G4=>br G4 (.own (dm)) fun i5 G6=>wv (az T .sub ay a2 (.int .i64 1)) fun v7=>∀ R8:List ah->ak->Prop,
 (∀ (x10 x11 x12 x13:ah) (G9:ak),(wv (az T .geq ay x13 (.int .i64 0)) fun v14=>brB (some v14)
 (wv (aO T kB x11 x13) fun v15=>wv (ag T G9 ay v15) fun v16=>wv (az T .eql ay v16 (.int .i64 1)) fun v17=>brB (some v17)
 (wv (az T .quo ay x13 (.int .i64 8)) fun v18=>wv (az T .quo ay x13 (.int .i64 8)) fun v19=>wv (aO T ar x10 v19) fun v20=>wv (ag T G9 cm v20) fun v21=>wv (az T .rem ay x13 (.int .i64 8)) fun v22=>wv (gv T G9 ay mJ v22) fun v23=>wv (az T .shl cm (.int .u8 1) v23) fun v24=>wv (az T .xor cm v21 v24) fun v25=>wv (aO T ar x10 v18) fun v26=>wg (aF T G9 cm v26 v25) fun G27=>wv (ag T G27 ar x10) fun v28=>al P cA.n [v28] G27 fun v29 G30=>wg (aF T G30 ar x10 v29) fun G31=>wv (az T .sub ay x13 (.int .i64 1)) fun v35=>R8 [x10,x11,x12,v35] G31)
 (wv (az T .sub ay x13 (.int .i64 1)) fun v36=>R8 [x10,x11,x12,v36] G9))
 (wv (ag T G9 ar x10) fun v37=>wg (aF T G9 ar x12 v37) fun G38=>wv (ag T G38 ar x12) fun v39=>Q v39 G38))->R8 [x10,x11,x12,x13] G9) ->
 R8 [.ptr i1 [] 0,.ptr i3 [] 0,.ptr i5 [] 0,v7] G6
def fe.an:Ann:=.two .nil (.two (.two .nil (.loop [3,4,6,7] [false,false,false,false] .nil)) .nil)
theorem fe.sound {a0 a1 a2:ah}(h:fe.S a0 a1 a2 G Q):al P fe.n [a0,a1,a2] G Q:=by
 have e:fe.S a0 a1 a2 G Q=awp cx fe.body fe.an (bG T [.cell 6 23] Q) (cC [a0,a1,a2]) G:=by kernel_rfl
 refine aD cF Tryz.func55 ?_ ?_ ?_ (aH ?_ ?_) (by simp[Tryz.f55]) (e.mp h)<;>kernel_rfl
def cZ.S (a0:ah) (G:ak) (Q:ah->ak->Prop):Prop:=
 br G (.own (oY)) fun i1 G2=>br G2 (.own (oY)) fun i3 G4=>wv (az T .sub aq (.int .i64 281474976710655) a0) fun v5=>∀ R6:List ah->ak->Prop,
 (∀ (x8 x9 x10 x11:ah) (G7:ak),(wv (az T .lss ay x11 (.int .i64 48)) fun v12=>brB (some v12)
 (wv (az T .rem aq x10 (.int .i64 2)) fun v13=>wv (aO T kB x9 x11) fun v14=>wg (aF T G7 ay v14 v13) fun G15=>wv (az T .quo aq x10 (.int .i64 2)) fun v16=>wv (az T .add ay x11 (.int .i64 1)) fun v17=>R6 [x8,x9,v16,v17] G15)
 (wv (ag T G7 kB x9) fun v18=>wg (aF T G7 kB x8 v18) fun G19=>wv (ag T G19 kB x8) fun v20=>Q v20 G19))->R6 [x8,x9,x10,x11] G7) ->
 R6 [.ptr i1 [] 0,.ptr i3 [] 0,v5,.int .i64 0] G4
def cZ.an:Ann:=.two .nil (.two .nil (.two .nil (.two (.two .nil (.loop [2,3,4,5] [false,false,false,false] .nil)) .nil)))
theorem cZ.sound {a0:ah}(h:cZ.S a0 G Q):al P cZ.n [a0] G Q:=by
 have e:cZ.S a0 G Q=awp cx cZ.body cZ.an (bG T [.cell 2 108] Q) (cC [a0]) G:=by kernel_rfl
 refine aD cF Tryz.func56 ?_ ?_ ?_ (aH ?_ ?_) (by simp[Tryz.f56]) (e.mp h)<;>kernel_rfl
def cI.S (a0 a1:ah) (G:ak) (Q:ah->ak->Prop):Prop:=
 br G (.own a0) fun i1 G2=>br G2 (.own (dm)) fun i3 G4=>al P dt.n [a1] G4 fun v5 G6=>wv (vun .not v5) fun v7=>brB (some v7)
 (wv (bj T ar []) fun v8=>wg (aF T G6 ar (.ptr i3 [] 0) v8) fun G9=>wv (ag T G9 ar (.ptr i3 [] 0)) fun v10=>Q (.tuple [v10,.int .i64 90]) G9)
 (wv (ag T G6 ar (.ptr i1 [] 0)) fun v11=>al P cZ.n [a1] G6 fun v12 G13=>(ag T G13 ar (.ptr i1 [] 0)=some v11/\True)/\(al P fe.n [v11,v12,.int .i64 48] G13 fun v14 G15=>wg (aF T G15 ar (.ptr i3 [] 0) v14) fun G16=>wv (ag T G16 ar (.ptr i3 [] 0)) fun v17=>Q (.tuple [v17,.int .i64 0]) G16))
def cI.an:Ann:=.two .nil (.two .nil (.two (.ord [(0,[]),(1,[]),(2,[0]),(3,[]),(4,[]),(5,[])]) .nil))
theorem cI.sound {a0 a1:ah}(h:cI.S a0 a1 G Q):al P cI.n [a0,a1] G Q:=by
 have e:cI.S a0 a1 G Q=awp cx cI.body cI.an (bG T [.cell 4 23,.tmp 5] Q) (cC [a0,a1]) G:=by kernel_rfl
 refine aD cF Tryz.func21 ?_ ?_ ?_ (aH ?_ ?_) (by simp[Tryz.f21]) (e.mp h)<;>kernel_rfl
def dB.S (a0 a1:ah) (G:ak) (Q:ah->ak->Prop):Prop:=
 br G (.own a0) fun i1 G2=>br G2 (.own (dm)) fun i3 G4=>wv (ag T G4 ar (.ptr i1 [] 0)) fun v5=>al P cI.n [v5,a1] G4 fun v6 G7=>wv (aP v6 0) fun v8=>wv (aP v6 1) fun v9=>br G7 (.own (dm)) fun i10 G11=>wg (aF T G11 ar (.ptr i10 [] 0) v8) fun G12=>wv (ag T G12 ar (.ptr i10 [] 0)) fun v13=>al P cA.n [v13] G12 fun v14 G15=>wg (aF T G15 ar (.ptr i3 [] 0) v14) fun G16=>wv (ag T G16 ar (.ptr i3 [] 0)) fun v17=>Q v17 G16
def dB.an:Ann:=.nil
theorem dB.sound {a0 a1:ah}(h:dB.S a0 a1 G Q):al P dB.n [a0,a1] G Q:=by
 have e:dB.S a0 a1 G Q=awp cx dB.body dB.an (bG T [.cell 4 23] Q) (cC [a0,a1]) G:=by kernel_rfl
 refine aD cF Tryz.func85 ?_ ?_ ?_ (aH ?_ ?_) (by simp[Tryz.f85]) (e.mp h)<;>kernel_rfl
def cQ.S (a0:ah) (G:ak) (Q:ah->ak->Prop):Prop:=
 br G (.own a0) fun i1 G2=>br G2 (.own (mP)) fun i3 G4=>br G4 (.own (mP)) fun i5 G6=>∀ R7:List ah->ak->Prop,
 (∀ (x9 x10 x11 x12:ah) (G8:ak),(wv (az T .lss ay x12 (.int .i64 2)) fun v13=>brB (some v13)
 (wv (bt T db x9 1) fun v14=>wv (ag T G8 aq v14) fun v15=>wv (az T .eql ay x12 (.int .i64 1)) fun v16=>let J52:ah->ak->Prop:=(fun x23 G22=>wv (bt T db x9 0) fun v24=>wv (ag T G22 aq v24) fun v25=>wv (bt T db x9 2) fun v26=>wv (aO T cc v26 x12) fun v27=>wv (ag T G22 ar v27) fun v28=>wv (bt T db x9 3) fun v29=>wv (aO T cc v29 x12) fun v30=>wv (ag T G22 ar v30) fun v31=>wv (az T .sub ay (.int .i64 1) x12) fun v32=>wv (bt T db x9 3) fun v33=>wv (aO T cc v33 v32) fun v34=>wv (ag T G22 ar v34) fun v35=>wv (az T .sub ay (.int .i64 1) x12) fun v36=>wv (bt T db x9 2) fun v37=>wv (aO T cc v37 v36) fun v38=>wv (ag T G22 ar v38) fun v39=>wv (az T .sub ay (.int .i64 1) x12) fun v40=>wv (bt T db x9 2) fun v41=>wv (aO T cc v41 v40) fun v42=>wv (ag T G22 ar v42) fun v43=>al P dB.n [v39,.int .i64 0] G22 fun v44 G45=>(ag T G45 ar v42=some v43/\ag T G45 ar v34=some v35/\ag T G45 ar v30=some v31/\ag T G45 ar v27=some v28/\ag T G45 aq v24=some v25/\True)/\(al P dB.n [v43,.int .i64 1] G45 fun v46 G47=>(ag T G47 ar v34=some v35/\ag T G47 ar v30=some v31/\ag T G47 ar v27=some v28/\ag T G47 aq v24=some v25/\True)/\(wv (bj T cc [(0,v44),(1,v46)]) fun v48=>wv (bj T bU [(0,x12),(1,v25),(2,x23),(3,v28),(4,v31),(5,v35),(6,v48),(7,.int .i64 4096)]) fun v49=>wv (aO T cJ x11 x12) fun v50=>wg (aF T G47 bU v50 v49) fun G51=>wv (az T .add ay x12 (.int .i64 1)) fun v53=>R7 [x9,x10,x11,v53] G51)));
 brB (some v16)
 (wv (bt T db x9 0) fun v17=>wv (ag T G8 aq v17) fun v18=>wv (bt T db x9 1) fun v19=>wv (ag T G8 aq v19) fun v20=>wv (az T .sub aq v18 v20) fun v21=>J52 v21 G8)
 (J52 v15 G8))
 (wv (ag T G8 cJ x11) fun v54=>wg (aF T G8 cJ x10 v54) fun G55=>wv (ag T G55 cJ x10) fun v56=>Q v56 G55))->R7 [x9,x10,x11,x12] G8) ->
 R7 [.ptr i1 [] 0,.ptr i3 [] 0,.ptr i5 [] 0,.int .i64 0] G6
def cQ.an:Ann:=.two .nil (.two .nil (.two (.two .nil (.loop [1,2,3,4] [false,false,false,false] (.two .nil (.two (.two .nil (.two .nil (.ord [(0,[]),(1,[]),(2,[]),(3,[]),(4,[]),(5,[]),(6,[]),(7,[]),(8,[]),(9,[]),(10,[]),(11,[]),(12,[]),(13,[]),(14,[]),(15,[]),(16,[]),(17,[]),(18,[]),(19,[]),(20,[]),(21,[]),(22,[]),(24,[]),(25,[]),(26,[]),(27,[]),(28,[]),(23,[3,8,12,17,28]),(29,[3,8,12,17]),(30,[]),(31,[]),(32,[]),(33,[])]))) .nil)))) .nil))
theorem cQ.sound {a0:ah}(h:cQ.S a0 G Q):al P cQ.n [a0] G Q:=by
 have e:cQ.S a0 G Q=awp cx cQ.body cQ.an (bG T [.cell 2 42] Q) (cC [a0]) G:=by kernel_rfl
 refine aD cF Tryz.func36 ?_ ?_ ?_ (aH ?_ ?_) (by simp[Tryz.f36]) (e.mp h)<;>kernel_rfl
def dK.S (a0:ah) (G:ak) (Q:ah->ak->Prop):Prop:=
 br G (.own a0) fun i1 G2=>br G2 (.own (hO)) fun i3 G4=>let J33:ah->ak->Prop:=(fun x19 G18=>brB (some x19)
 (wv (bj T aE []) fun v20=>wg (aF T G18 aE (.ptr i3 [] 0) v20) fun G21=>wv (ag T G21 aE (.ptr i3 [] 0)) fun v22=>Q (.tuple [v22,.int .i64 1]) G21)
 (wv (ag T G18 ay (.ptr i1 [0] 0)) fun v23=>wv (ag T G18 aq (.ptr i1 [1] 1)) fun v24=>wv (ag T G18 aq (.ptr i1 [2] 2)) fun v25=>wv (ag T G18 aq (.ptr i1 [1] 1)) fun v26=>wv (ag T G18 aq (.ptr i1 [2] 2)) fun v27=>wv (az T .sub aq v26 v27) fun v28=>wv (ag T G18 cc (.ptr i1 [6] 99)) fun v29=>wv (bj T aE [(0,v23),(1,v24),(2,v25),(3,v28),(13,v29),(17,.int .i64 (-1))]) fun v30=>wg (aF T G18 aE (.ptr i3 [] 0) v30) fun G31=>wv (ag T G31 aE (.ptr i3 [] 0)) fun v32=>Q (.tuple [v32,.int .i64 0]) G31));
 wv (ag T G4 ay (.ptr i1 [0] 0)) fun v5=>wv (az T .lss ay v5 (.int .i64 0)) fun v6=>brB (some v6)
 (J33 (.bool true) G4)
 (wv (ag T G4 ay (.ptr i1 [0] 0)) fun v7=>wv (az T .gtr ay v7 (.int .i64 1)) fun v8=>brB (some v8)
 (J33 (.bool true) G4)
 (wv (ag T G4 aq (.ptr i1 [1] 1)) fun v9=>wv (az T .lss aq v9 (.int .i64 1)) fun v10=>brB (some v10)
 (J33 (.bool true) G4)
 (wv (ag T G4 aq (.ptr i1 [1] 1)) fun v11=>wv (az T .gtr aq v11 (.int .i64 1152921504606846976)) fun v12=>brB (some v12)
 (J33 (.bool true) G4)
 (wv (ag T G4 aq (.ptr i1 [2] 2)) fun v13=>wv (az T .lss aq v13 (.int .i64 0)) fun v14=>brB (some v14)
 (J33 (.bool true) G4)
 (wv (ag T G4 aq (.ptr i1 [2] 2)) fun v15=>wv (ag T G4 aq (.ptr i1 [1] 1)) fun v16=>wv (az T .gtr aq v15 v16) fun v17=>J33 v17 G4)))))
def dK.an:Ann:=.nil
theorem dK.sound {a0:ah}(h:dK.S a0 G Q):al P dK.n [a0] G Q:=by
 have e:dK.S a0 G Q=awp cx dK.body dK.an (bG T [.cell 2 38,.tmp 3] Q) (cC [a0]) G:=by kernel_rfl
 refine aD cF Tryz.func38 ?_ ?_ ?_ (aH ?_ ?_) (by simp[Tryz.f38]) (e.mp h)<;>kernel_rfl
def fC.S (a0:ah) (G:ak) (Q:ah->ak->Prop):Prop:=
 br G (.own a0) fun i1 G2=>wv (ag T G2 db (.ptr i1 [] 0)) fun v3=>al P cQ.n [v3] G2 fun v4 G5=>wv (bj T bz [(0,v4)]) fun v6=>br G5 (.own (v6)) fun i7 G8=>∀ R9:List ah->ak->Prop,
 (∀ (x11 x12:ah) (G10:ak),(wv (az T .lss ay x12 (.int .i64 2)) fun v13=>brB (some v13)
 (wv (lr x11) fun v14=>wv (bt T bz v14 0) fun v15=>wv (aO T cJ v15 x12) fun v16=>wv (ag T G10 bU v16) fun v17=>al P dK.n [v17] G10 fun v18 G19=>wv (aP v18 0) fun v20=>wv (aP v18 1) fun v21=>br G19 (.own (hO)) fun i22 G23=>wg (aF T G23 aE (.ptr i22 [] 0) v20) fun G24=>wv (az T .neq bD v21 (.int .i64 0)) fun v25=>brB (some v25)
 (Q (.tuple [.nilPtr,.bool false]) G24)
 (wv (ag T G24 aE (.ptr i22 [] 0)) fun v26=>wv (lr x11) fun v27=>wv (bt T bz v27 1) fun v28=>wv (aO T gQ v28 x12) fun v29=>wg (aF T G24 aE v29 v26) fun G30=>wv (az T .add ay x12 (.int .i64 1)) fun v31=>R9 [x11,v31] G30))
 (Q (.tuple [x11,.bool true]) G10))->R9 [x11,x12] G10) ->
 R9 [.ptr i7 [] 0,.int .i64 0] G8
def fC.an:Ann:=.two .nil (.two .nil (.two (.two .nil (.loop [4,5] [false,false] (.two .nil (.two (.two .nil (.two .nil (.ord [(0,[]),(1,[]),(2,[]),(3,[]),(4,[]),(5,[]),(6,[])]))) .nil)))) .nil))
theorem fC.sound {a0:ah}(h:fC.S a0 G Q):al P fC.n [a0] G Q:=by
 have e:fC.S a0 G Q=awp cx fC.body fC.an (bG T [.tmp 2,.tmp 3] Q) (cC [a0]) G:=by kernel_rfl
 refine aD cF Tryz.func11 ?_ ?_ ?_ (aH ?_ ?_) (by simp[Tryz.f11]) (e.mp h)<;>kernel_rfl
def fQ.S (a0:ah) (G:ak) (Q:ah->ak->Prop):Prop:=
 br G (.own a0) fun i1 G2=>br G2 (.own (iP)) fun i3 G4=>wv (ag T G4 ay (.ptr i1 [9,0] 9)) fun v5=>wv (ag T G4 ay (.ptr i1 [11,0] 13)) fun v6=>wv (qy v5 v6) fun v7=>wv (ag T G4 ay (.ptr i1 [9,1] 10)) fun v8=>wv (ag T G4 ay (.ptr i1 [11,1] 14)) fun v9=>wv (qy v8 v9) fun v10=>wv (bj T aU [(0,v7),(1,v10)]) fun v11=>wg (aF T G4 aU (.ptr i3 [] 0) v11) fun G12=>wv (ag T G12 aU (.ptr i3 [] 0)) fun v13=>Q v13 G12
def fQ.an:Ann:=.nil
theorem fQ.sound {a0:ah}(h:fQ.S a0 G Q):al P fQ.n [a0] G Q:=by
 have e:fQ.S a0 G Q=awp cx fQ.body fQ.an (bG T [.cell 2 35] Q) (cC [a0]) G:=by kernel_rfl
 refine aD cF Tryz.func80 ?_ ?_ ?_ (aH ?_ ?_) (by simp[Tryz.f80]) (e.mp h)<;>kernel_rfl
def gj.S (a0:ah) (G:ak) (Q:ah->ak->Prop):Prop:=
 br G (.own a0) fun i1 G2=>let J37:ah->ak->Prop:=(fun x8 G7=>brB (some x8)
 (Q (.bool false) G7)
 (wv (ag T G7 ay (.ptr i1 [0] 0)) fun v9=>wv (az T .eql ay v9 (.int .i64 1)) fun v10=>brB (some v10)
 (wv (ag T G7 aq (.ptr i1 [2] 2)) fun v11=>wv (az T .geq aq v11 (.int .i64 1)) fun v12=>brB (some v12)
 (wv (ag T G7 aq (.ptr i1 [2] 2)) fun v13=>wv (az T .leq aq v13 (.int .i64 1152921504606846976)) fun v14=>brB (some v14)
 (wv (ag T G7 bH (.ptr i1 [4] 35)) fun v15=>wv (az T .eql bH v15 (.str [])) fun v16=>Q v16 G7)
 (Q (.bool false) G7))
 (Q (.bool false) G7))
 (wv (az T .eql ay v9 (.int .i64 2)) fun v19=>brB (some v19)
 (wv (ag T G7 aq (.ptr i1 [2] 2)) fun v20=>wv (az T .eql aq v20 (.int .i64 0)) fun v21=>brB (some v21)
 (wv (ag T G7 bH (.ptr i1 [4] 35)) fun v22=>wv (az T .eql bH v22 (.str [])) fun v23=>Q v23 G7)
 (Q (.bool false) G7))
 (wv (az T .eql ay v9 (.int .i64 3)) fun v26=>brB (some v26)
 (wv (ag T G7 aq (.ptr i1 [2] 2)) fun v27=>wv (az T .eql aq v27 (.int .i64 0)) fun v28=>brB (some v28)
 (wv (ag T G7 ar (.ptr i1 [3] 3)) fun v29=>wv (bj T ar []) fun v30=>wv (az T .eql ar v29 v30) fun v31=>brB (some v31)
 (wv (ag T G7 bH (.ptr i1 [4] 35)) fun v32=>wv (fU T G7 bH v32) fun v33=>wv (az T .leq ay v33 (.int .i64 64)) fun v34=>Q v34 G7)
 (Q (.bool false) G7))
 (Q (.bool false) G7))
 (Q (.bool false) G7)))));
 wv (ag T G2 aq (.ptr i1 [1] 1)) fun v3=>wv (az T .lss aq v3 (.int .i64 0)) fun v4=>brB (some v4)
 (J37 (.bool true) G2)
 (wv (ag T G2 aq (.ptr i1 [1] 1)) fun v5=>wv (az T .geq aq v5 (.int .i64 2048)) fun v6=>J37 v6 G2)
def gj.an:Ann:=.nil
theorem gj.sound {a0:ah}(h:gj.S a0 G Q):al P gj.n [a0] G Q:=by
 have e:gj.S a0 G Q=awp cx gj.body gj.an (bG T [.tmp 2] Q) (cC [a0]) G:=by kernel_rfl
 refine aD cF Tryz.func181 ?_ ?_ ?_ (aH ?_ ?_) (by simp[Tryz.f181]) (e.mp h)<;>kernel_rfl
def dq.S (a0:ah) (G:ak) (Q:ah->ak->Prop):Prop:=
 br G (.map []) fun i1 G2=>wv (fU T G2 aj a0) fun v3=>∀ R4:List ah->ak->Prop,
 (∀ (x6 x7 x8 x9:ah) (G5:ak),(wv (az T .lss ay x9 x8) fun v10=>brB (some v10)
 (wv (aO T aj x7 x9) fun v11=>wv (ag T G5 aG v11) fun v12=>br G5 (.own (dv)) fun i13 G14=>wg (aF T G14 aG (.ptr i13 [] 0) v12) fun G15=>wv (ag T G15 aq (.ptr i13 [1] 1)) fun v16=>wv (jg T G15 dU x6 v16 true) fun v17=>wv (aP v17 0) fun v18=>wv (aP v17 1) fun v19=>let J32:ah->ak->Prop:=(fun x27 G26=>brB (some x27)
 (wv (ag T G26 aq (.ptr i13 [1] 1)) fun v28=>wv (ag T G26 ay (.ptr i13 [0] 0)) fun v29=>gD T G26 dU x6 v28 v29 fun G30=>wv (az T .add ay x9 (.int .i64 1)) fun v35=>R4 [x6,x7,x8,v35] G30)
 (wv (az T .add ay x9 (.int .i64 1)) fun v36=>R4 [x6,x7,x8,v36] G26));
 wv (vun .not v19) fun v20=>brB (some v20)
 (wv (ag T G15 ay (.ptr i13 [0] 0)) fun v21=>wv (az T .neq ay v21 (.int .i64 1)) fun v22=>brB (some v22)
 (wv (ag T G15 aG (.ptr i13 [] 0)) fun v23=>al P gj.n [v23] G15 fun v24 G25=>J32 v24 G25)
 (J32 (.bool false) G15))
 (J32 (.bool false) G15))
 (Q x6 G5))->R4 [x6,x7,x8,x9] G5) ->
 R4 [.map i1,a0,v3,.int .i64 0] G2
def dq.an:Ann:=.two .nil (.two .nil (.two (.two .nil (.loop [3,9,10,11] [false,false,false,false] .nil)) .nil))
theorem dq.sound {a0:ah}(h:dq.S a0 G Q):al P dq.n [a0] G Q:=by
 have e:dq.S a0 G Q=awp cx dq.body dq.an (bG T [.tmp 2] Q) (cC [a0]) G:=by kernel_rfl
 refine aD cF Tryz.func134 ?_ ?_ ?_ (aH ?_ ?_) (by simp[Tryz.f134]) (e.mp h)<;>kernel_rfl
def cS.S (a0 a1:ah) (G:ak) (Q:ah->ak->Prop):Prop:=
 br G (.own a0) fun i1 G2=>br G2 (.own (kb)) fun i3 G4=>wv (ag T G4 aq (.ptr i1 [0] 0)) fun v5=>wv (az T .shr aq a1 (.int .u64 30)) fun v6=>wv (az T .add aq v5 v6) fun v7=>wv (ag T G4 aq (.ptr i1 [1] 1)) fun v8=>wv (az T .and aq a1 (.int .i64 1073741823)) fun v9=>wv (az T .add aq v8 v9) fun v10=>wv (bj T bO [(0,v7),(1,v10)]) fun v11=>wg (aF T G4 bO (.ptr i3 [] 0) v11) fun G12=>wv (ag T G12 bO (.ptr i3 [] 0)) fun v13=>Q v13 G12
def cS.an:Ann:=.nil
theorem cS.sound {a0 a1:ah}(h:cS.S a0 a1 G Q):al P cS.n [a0,a1] G Q:=by
 have e:cS.S a0 a1 G Q=awp cx cS.body cS.an (bG T [.cell 4 178] Q) (cC [a0,a1]) G:=by kernel_rfl
 refine aD cF Tryz.func135 ?_ ?_ ?_ (aH ?_ ?_) (by simp[Tryz.f135]) (e.mp h)<;>kernel_rfl
def dy.S (a0:ah) (G:ak) (Q:ah->ak->Prop):Prop:=
 br G (.own a0) fun i1 G2=>wv (ag T G2 aq (.ptr i1 [0] 0)) fun v3=>wv (ag T G2 aq (.ptr i1 [1] 1)) fun v4=>wv (az T .shr aq v4 (.int .u64 30)) fun v5=>wv (az T .add aq v3 v5) fun v6=>wv (az T .lss aq v6 (.int .i64 0)) fun v7=>brB (some v7)
 (Q (.int .i64 (-1)) G2)
 (wv (az T .gtr aq v6 (.int .i64 1073741824)) fun v8=>brB (some v8)
 (Q (.int .i64 1152921504606846977) G2)
 (wv (az T .shl aq v6 (.int .u64 30)) fun v9=>wv (ag T G2 aq (.ptr i1 [1] 1)) fun v10=>wv (az T .and aq v10 (.int .i64 1073741823)) fun v11=>wv (az T .or aq v9 v11) fun v12=>Q v12 G2))
def dy.an:Ann:=.nil
theorem dy.sound {a0:ah}(h:dy.S a0 G Q):al P dy.n [a0] G Q:=by
 have e:dy.S a0 G Q=awp cx dy.body dy.an (bG T [.tmp 2] Q) (cC [a0]) G:=by kernel_rfl
 refine aD cF Tryz.func136 ?_ ?_ ?_ (aH ?_ ?_) (by simp[Tryz.f136]) (e.mp h)<;>kernel_rfl
def gI.S (a0 a1:ah) (G:ak) (Q:ah->ak->Prop):Prop:=
 wv (zr a1 (.int .i64 0)) fun v1=>wv (fU T G aj a0) fun v2=>wv (qy v1 v2) fun v3=>wv (dV T aj a0 none (some (v3)) none) fun v4=>Q v4 G
def gI.an:Ann:=.nil
theorem gI.sound {a0 a1:ah}(h:gI.S a0 a1 G Q):al P gI.n [a0,a1] G Q:=by
 have e:gI.S a0 a1 G Q=awp cx gI.body gI.an (bG T [.tmp 4] Q) (cC [a0,a1]) G:=by kernel_rfl
 refine aD cF Tryz.func142 ?_ ?_ ?_ (aH ?_ ?_) (by simp[Tryz.f142]) (e.mp h)<;>kernel_rfl
def iq.S (a0 a1:ah) (G:ak) (Q:ah->ak->Prop):Prop:=
 wv (fU T G aj a0) fun v1=>∀ R2:List ah->ak->Prop,
 (∀ (x4 x5 x6 x7 x8:ah) (G3:ak),(wv (az T .lss ay x8 x7) fun v9=>brB (some v9)
 (wv (aO T aj x6 x8) fun v10=>wv (ag T G3 aG v10) fun v11=>br G3 (.own (dv)) fun i12 G13=>wg (aF T G13 aG (.ptr i12 [] 0) v11) fun G14=>let J32:ah->ak->Prop:=(fun x24 G23=>brB (some x24)
 (wv (ag T G23 aq (.ptr i12 [2] 2)) fun v25=>bu T jf 1 [(0,v25)] G23 fun v26 G27=>cn T G27 jf jf x5 v26 fun v28 G29=>wv (az T .add ay x8 (.int .i64 1)) fun v36=>R2 [x4,v28,x6,x7,v36] G29)
 (wv (az T .add ay x8 (.int .i64 1)) fun v37=>R2 [x4,x5,x6,x7,v37] G23));
 wv (ag T G14 ay (.ptr i12 [0] 0)) fun v15=>wv (az T .eql ay v15 (.int .i64 1)) fun v16=>brB (some v16)
 (wv (ag T G14 aG (.ptr i12 [] 0)) fun v17=>al P gj.n [v17] G14 fun v18 G19=>brB (some v18)
 (wv (ag T G19 aq (.ptr i12 [1] 1)) fun v20=>oS P x4 [v20] G19 fun v21 G22=>J32 v21 G22)
 (J32 (.bool false) G19))
 (J32 (.bool false) G14))
 (Q x5 G3))->R2 [x4,x5,x6,x7,x8] G3) ->
 R2 [a1,.nilSlice,a0,v1,.int .i64 0] G
def iq.an:Ann:=.two .nil (.two .nil (.two (.two .nil (.loop [1,5,8,9,10] [false,false,false,false,false] .nil)) .nil))
theorem iq.sound {a0 a1:ah}(h:iq.S a0 a1 G Q):al P iq.n [a0,a1] G Q:=by
 have e:iq.S a0 a1 G Q=awp cx iq.body iq.an (bG T [.tmp 4] Q) (cC [a0,a1]) G:=by kernel_rfl
 refine aD cF Tryz.func143 ?_ ?_ ?_ (aH ?_ ?_) (by simp[Tryz.f143]) (e.mp h)<;>kernel_rfl
def fX.S (a0 a1:ah) (G:ak) (Q:ah->ak->Prop):Prop:=
 wv (ag T G dU a1) fun v1=>wv (jg T G dU v1 a0 false) fun v2=>wv (az T .neq ay v2 (.int .i64 3)) fun v3=>Q v3 G
def fX.an:Ann:=.nil
theorem fX.sound {a0 a1:ah}(h:fX.S a0 a1 G Q):al P fX.n [a0,a1] G Q:=by
 have e:fX.S a0 a1 G Q=awp cx fX.body fX.an (bG T [.tmp 3] Q) (cC [a0,a1]) G:=by kernel_rfl
 refine aD cF Tryz.func178 ?_ ?_ ?_ (aH ?_ ?_) (by simp[Tryz.f178]) (e.mp h)<;>kernel_rfl
def ed.S (a0 a1:ah) (G:ak) (Q:ah->ak->Prop):Prop:=
 br G (.own a0) fun i1 G2=>br G2 (.own (kb)) fun i3 G4=>wv (ag T G4 aq (.ptr i1 [0] 0)) fun v5=>wv (az T .shr aq a1 (.int .u64 30)) fun v6=>wv (az T .sub aq v5 v6) fun v7=>wv (ag T G4 aq (.ptr i1 [1] 1)) fun v8=>wv (az T .and aq a1 (.int .i64 1073741823)) fun v9=>wv (az T .sub aq v8 v9) fun v10=>wv (bj T bO [(0,v7),(1,v10)]) fun v11=>wg (aF T G4 bO (.ptr i3 [] 0) v11) fun G12=>wv (ag T G12 bO (.ptr i3 [] 0)) fun v13=>Q v13 G12
def ed.an:Ann:=.nil
theorem ed.sound {a0 a1:ah}(h:ed.S a0 a1 G Q):al P ed.n [a0,a1] G Q:=by
 have e:ed.S a0 a1 G Q=awp cx ed.body ed.an (bG T [.cell 4 178] Q) (cC [a0,a1]) G:=by kernel_rfl
 refine aD cF Tryz.func179 ?_ ?_ ?_ (aH ?_ ?_) (by simp[Tryz.f179]) (e.mp h)<;>kernel_rfl
def fW.S (a0 a1:ah) (G:ak) (Q:ah->ak->Prop):Prop:=
 wv (ag T G dU a1) fun v1=>wv (jg T G dU v1 a0 false) fun v2=>wv (az T .eql ay v2 (.int .i64 2)) fun v3=>Q v3 G
def fW.an:Ann:=.nil
theorem fW.sound {a0 a1:ah}(h:fW.S a0 a1 G Q):al P fW.n [a0,a1] G Q:=by
 have e:fW.S a0 a1 G Q=awp cx fW.body fW.an (bG T [.tmp 3] Q) (cC [a0,a1]) G:=by kernel_rfl
 refine aD cF Tryz.func180 ?_ ?_ ?_ (aH ?_ ?_) (by simp[Tryz.f180]) (e.mp h)<;>kernel_rfl
end Go.Esc.M
