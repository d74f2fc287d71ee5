import Derived.Test.YtkojimdacnohpaaGreatDoorT
set_option linter.unusedSimpArgs false
set_option linter.unusedVariables false
set_option maxRecDepth 100000
namespace Go.Esc.M
open Go Go.Esc Go.Proofs
variable {G:ak}{Q:ah->ak->Prop}
def aga.S (a0 a1:ah) (G:ak) (Q:ah->ak->Prop):Prop:=
 br G (.own a1) fun i1 G2=>wv (lr a0) fun v3=>wv (bt T af6 v3 0) fun v4=>wv (ag T G2 af7 v4) fun v5=>wv (lr v5) fun v6=>wv (bt T bz v6 2) fun v7=>wv (ag T G2 bR v7) fun v8=>wv (fU T G2 bR v8) fun v9=>wv (lr a0) fun v10=>wv (bt T af6 v10 0) fun v11=>wv (ag T G2 af7 v11) fun v12=>wv (lr v12) fun v13=>wv (bt T bz v13 3) fun v14=>wv (ag T G2 bR v14) fun v15=>wv (fU T G2 bR v15) fun v16=>let J49:ah->ak->Prop:=(fun x22 G21=>let J48:ah->ah->ak->Prop:=(fun x38 x39 G37=>wv (lr a0) fun v40=>wv (bt T af6 v40 0) fun v41=>wv (ag T G37 af7 v41) fun v42=>wv (ag T G37 ja (.ptr i1 [] 0)) fun v43=>al P acp.n [v42,v43] G37 fun v44 G45=>al P af5.n [a0,x38,x39] G45 fun v46 G47=>Q (.tuple []) G47);
 brB (some x22)
 (wv (az T .sub ay v16 (.int .i64 1)) fun v23=>J48 v9 v23 G21)
 (wv (ag T G21 ay (.ptr i1 [0] 0)) fun v24=>wv (az T .eql ay v24 (.int .i64 5)) fun v25=>brB (some v25)
 (wv (ag T G21 du (.ptr i1 [1] 1)) fun v26=>wv (vun .not v26) fun v27=>brB (some v27)
 (wv (az T .gtr ay v9 (.int .i64 0)) fun v28=>brB (some v28)
 (wv (az T .sub ay v9 (.int .i64 1)) fun v34=>J48 v34 v16 G21)
 (J48 v9 v16 G21))
 (J48 v9 v16 G21))
 (J48 v9 v16 G21)));
 wv (ag T G2 ay (.ptr i1 [0] 0)) fun v17=>wv (az T .eql ay v17 (.int .i64 5)) fun v18=>brB (some v18)
 (wv (ag T G2 du (.ptr i1 [1] 1)) fun v19=>brB (some v19)
 (wv (az T .gtr ay v16 (.int .i64 0)) fun v20=>J49 v20 G2)
 (J49 (.bool false) G2))
 (J49 (.bool false) G2)
def aga.an:Ann:=.two .nil (.two (.ord [(0,[]),(1,[]),(2,[]),(3,[]),(4,[]),(5,[]),(6,[]),(7,[]),(8,[]),(9,[]),(10,[]),(11,[]),(12,[]),(13,[]),(14,[]),(15,[]),(16,[]),(17,[])]) (.two .nil (.two (.ord [(0,[]),(1,[]),(2,[]),(3,[]),(4,[]),(5,[])]) .nil)))
theorem aga.sound {a0 a1:ah}(h:aga.S a0 a1 G Q):al P aga.n [a0,a1] G Q:=by
 have e:aga.S a0 a1 G Q=awp cx aga.body aga.an (bG T [] Q) (cC [a0,a1]) G:=by kernel_rfl
 refine aD cF Tryz.func19 ?_ ?_ ?_ (aH ?_ ?_) (by simp[Tryz.f19]) (e.mp h)<;>kernel_rfl
def bP.S (a0:ah) (G:ak) (Q:ah->ak->Prop):Prop:=
 br G (.own a0) fun i1 G2=>br G2 (.own (hO)) fun i3 G4=>wv (ag T G4 aj (.ptr i1 [4] 4)) fun v5=>cn T G4 aj aj (.nilSlice) v5 fun v6 G7=>wg (aF T G7 aj (.ptr i1 [4] 4) v6) fun G8=>wv (ag T G8 aj (.ptr i1 [5] 5)) fun v9=>cn T G8 aj aj (.nilSlice) v9 fun v10 G11=>wg (aF T G11 aj (.ptr i1 [5] 5) v10) fun G12=>wv (ag T G12 aV (.ptr i1 [15] 112)) fun v13=>cn T G12 aV aV (.nilSlice) v13 fun v14 G15=>wg (aF T G15 aV (.ptr i1 [15] 112) v14) fun G16=>wv (ag T G16 aE (.ptr i1 [] 0)) fun v17=>wg (aF T G16 aE (.ptr i3 [] 0) v17) fun G18=>wv (ag T G18 aE (.ptr i3 [] 0)) fun v19=>Q v19 G18
def bP.an:Ann:=.nil
theorem bP.sound {a0:ah}(h:bP.S a0 G Q):al P bP.n [a0] G Q:=by
 have e:bP.S a0 G Q=awp cx bP.body bP.an (bG T [.cell 2 38] Q) (cC [a0]) G:=by kernel_rfl
 refine aD cF Tryz.func12 ?_ ?_ ?_ (aH ?_ ?_) (by simp[Tryz.f12]) (e.mp h)<;>kernel_rfl
def agd.S (a0 a1:ah) (G:ak) (Q:ah->ak->Prop):Prop:=
 ∀ R1:List ah->ak->Prop,
 (∀ (x3 x4 x5:ah) (G2:ak),(wv (fU T G2 bR x4) fun v6=>wv (az T .lss ay x5 v6) fun v7=>brB (some v7)
 (∀ R8:List ah->ak->Prop,
 (∀ (x10 x11 x12 x13 x14:ah) (G9:ak),(wv (fU T G9 bR x10) fun v15=>wv (az T .lss ay x14 v15) fun v16=>brB (some v16)
 (brB (some x13)
 (wv (az T .add ay x14 (.int .i64 1)) fun v27=>R8 [x10,x11,x12,.bool true,v27] G9)
 (wv (aO T bR x10 x14) fun v17=>wv (ag T G9 aW v17) fun v18=>wv (aO T bR x11 x12) fun v19=>wv (ag T G9 aW v19) fun v20=>wv (az T .eql aW v18 v20) fun v21=>wv (az T .add ay x14 (.int .i64 1)) fun v28=>R8 [x10,x11,x12,v21,v28] G9))
 (∀ R29:List ah->ak->Prop,
 (∀ (x31 x32 x33 x34 x35:ah) (G30:ak),(wv (az T .lss ay x35 x33) fun v36=>brB (some v36)
 (brB (some x34)
 (wv (aO T bR x32 x35) fun v37=>wv (ag T G30 aW v37) fun v38=>wv (aO T bR x32 x33) fun v39=>wv (ag T G30 aW v39) fun v40=>wv (az T .neq aW v38 v40) fun v41=>wv (az T .add ay x35 (.int .i64 1)) fun v47=>R29 [x31,x32,x33,v41,v47] G30)
 (wv (az T .add ay x35 (.int .i64 1)) fun v48=>R29 [x31,x32,x33,.bool false,v48] G30))
 (wv (vun .not x34) fun v49=>brB (some v49)
 (Q (.bool false) G30)
 (wv (az T .add ay x33 (.int .i64 1)) fun v50=>R1 [x31,x32,v50] G30)))->R29 [x31,x32,x33,x34,x35] G30) ->
 R29 [x10,x11,x12,x13,.int .i64 0] G9))->R8 [x10,x11,x12,x13,x14] G9) ->
 R8 [x3,x4,x5,.bool false,.int .i64 0] G2)
 (Q (.bool true) G2))->R1 [x3,x4,x5] G2) ->
 R1 [a0,a1,.int .i64 0] G
def agd.an:Ann:=.two .nil (.two (.two .nil (.loop [0,1,5] [false,false,false] (.two .nil (.two (.two .nil (.two (.two .nil (.loop [0,1,5,6,7] [false,false,false,false,false] (.two .nil (.two (.ord [(0,[]),(1,[]),(2,[]),(3,[]),(4,[]),(5,[]),(6,[]),(7,[]),(8,[]),(9,[]),(10,[]),(11,[]),(12,[])]) .nil)))) (.two (.two .nil (.loop [0,1,5,6,8] [false,false,false,false,false] (.two .nil (.two (.ord [(0,[]),(1,[]),(2,[]),(3,[]),(4,[]),(5,[]),(6,[]),(7,[]),(8,[]),(9,[]),(10,[]),(11,[]),(12,[])]) .nil)))) .nil))) .nil)))) .nil)
theorem agd.sound {a0 a1:ah}(h:agd.S a0 a1 G Q):al P agd.n [a0,a1] G Q:=by
 have e:agd.S a0 a1 G Q=awp cx agd.body agd.an (bG T [.tmp 4] Q) (cC [a0,a1]) G:=by kernel_rfl
 refine aD cF Tryz.func52 ?_ ?_ ?_ (aH ?_ ?_) (by simp[Tryz.f52]) (e.mp h)<;>kernel_rfl
def bV.S (a0 a1:ah) (G:ak) (Q:ah->ak->Prop):Prop:=
 wv (fU T G aj a0) fun v1=>wv (fU T G aj a1) fun v2=>wv (az T .neq ay v1 v2) fun v3=>brB (some v3)
 (Q (.bool false) G)
 (∀ R4:List ah->ak->Prop,
 (∀ (x6 x7 x8:ah) (G5:ak),(wv (fU T G5 aj x6) fun v9=>wv (az T .lss ay x8 v9) fun v10=>brB (some v10)
 (wv (aO T aj x6 x8) fun v11=>wv (ag T G5 aG v11) fun v12=>wv (aO T aj x7 x8) fun v13=>wv (ag T G5 aG v13) fun v14=>wv (az T .neq aG v12 v14) fun v15=>brB (some v15)
 (Q (.bool false) G5)
 (wv (az T .add ay x8 (.int .i64 1)) fun v16=>R4 [x6,x7,v16] G5))
 (Q (.bool true) G5))->R4 [x6,x7,x8] G5) ->
 R4 [a0,a1,.int .i64 0] G)
def bV.an:Ann:=.two .nil (.two .nil (.two (.two .nil (.loop [0,1,5] [false,false,false] (.two .nil (.two (.two (.ord [(0,[]),(1,[]),(2,[]),(3,[]),(4,[]),(5,[]),(6,[]),(7,[]),(8,[])]) .nil) .nil)))) .nil))
theorem bV.sound {a0 a1:ah}(h:bV.S a0 a1 G Q):al P bV.n [a0,a1] G Q:=by
 have e:bV.S a0 a1 G Q=awp cx bV.body bV.an (bG T [.tmp 4] Q) (cC [a0,a1]) G:=by kernel_rfl
 refine aD cF Tryz.func45 ?_ ?_ ?_ (aH ?_ ?_) (by simp[Tryz.f45]) (e.mp h)<;>kernel_rfl
def af8.S (a0:ah) (G:ak) (Q:ah->ak->Prop):Prop:=
 ∀ R1:List ah->ak->Prop,
 (∀ (x3 x4:ah) (G2:ak),(wv (az T .lss ay x4 (.int .i64 2)) fun v5=>brB (some v5)
 (wv (lr x3) fun v6=>wv (bt T af6 v6 0) fun v7=>wv (ag T G2 af7 v7) fun v8=>wv (lr v8) fun v9=>wv (bt T bz v9 1) fun v10=>wv (aO T gQ v10 x4) fun v11=>wv (ag T G2 aE v11) fun v12=>wv (lr x3) fun v13=>wv (bt T af6 v13 0) fun v14=>wv (ag T G2 af7 v14) fun v15=>wv (az T .sub ay (.int .i64 1) x4) fun v16=>wv (lr v15) fun v17=>wv (bt T bz v17 1) fun v18=>wv (aO T gQ v18 v16) fun v19=>wv (ag T G2 aE v19) fun v20=>br G2 (.own (hO)) fun i21 G22=>br G22 (.own (hO)) fun i23 G24=>wg (aF T G24 aE (.ptr i21 [] 0) v12) fun G25=>(ag T G25 aE v19=some v20/\ag T G25 af7 v14=some v15/\True)/\(wg (aF T G25 aE (.ptr i23 [] 0) v20) fun G26=>wv (ag T G26 aq (.ptr i21 [7] 7)) fun v27=>wv (ag T G26 aq (.ptr i21 [8] 8)) fun v28=>wv (az T .neq aq v27 v28) fun v29=>brB (some v29)
 (Q (.bool false) G26)
 (wv (ag T G26 aq (.ptr i21 [6] 6)) fun v30=>wv (ag T G26 aq (.ptr i23 [7] 7)) fun v31=>wv (az T .neq aq v30 v31) fun v32=>brB (some v32)
 (Q (.bool false) G26)
 (wv (ag T G26 aj (.ptr i21 [5] 5)) fun v33=>wv (ag T G26 aj (.ptr i23 [4] 4)) fun v34=>al P bV.n [v33,v34] G26 fun v35 G36=>wv (vun .not v35) fun v37=>brB (some v37)
 (Q (.bool false) G36)
 (wv (az T .add ay x4 (.int .i64 1)) fun v42=>R1 [x3,v42] G36)))))
 (Q (.bool true) G2))->R1 [x3,x4] G2) ->
 R1 [a0,.int .i64 0] G
def af8.an:Ann:=.two .nil (.two (.two .nil (.loop [0,3] [false,false] (.two .nil (.two (.two (.ord [(0,[]),(1,[]),(2,[]),(3,[]),(4,[]),(5,[]),(6,[]),(7,[]),(8,[]),(9,[]),(10,[]),(11,[]),(12,[]),(13,[]),(14,[]),(15,[]),(16,[]),(17,[]),(18,[]),(19,[]),(20,[]),(21,[12,18]),(22,[])]) .nil) .nil)))) .nil)
theorem af8.sound {a0:ah}(h:af8.S a0 G Q):al P af8.n [a0] G Q:=by
 have e:af8.S a0 G Q=awp cx af8.body af8.an (bG T [.tmp 2] Q) (cC [a0]) G:=by kernel_rfl
 refine aD cF Tryz.func53 ?_ ?_ ?_ (aH ?_ ?_) (by simp[Tryz.f53]) (e.mp h)<;>kernel_rfl
def af9.S (a0:ah) (G:ak) (Q:ah->ak->Prop):Prop:=
 wv (lr a0) fun v1=>wv (bt T af6 v1 0) fun v2=>wv (ag T G af7 v2) fun v3=>wv (lr v3) fun v4=>wv (bt T bz v4 2) fun v5=>wg (aF T G bR v5 (.nilSlice)) fun G6=>wv (lr v3) fun v7=>wv (bt T bz v7 3) fun v8=>wg (aF T G6 bR v8 (.nilSlice)) fun G9=>wv (lr v3) fun v10=>wv (bt T bz v10 1) fun v11=>wv (aO T gQ v11 (.int .i64 0)) fun v12=>wv (ag T G9 aE v12) fun v13=>wv (lr v3) fun v14=>wv (bt T bz v14 1) fun v15=>wv (aO T gQ v15 (.int .i64 1)) fun v16=>wv (ag T G9 aE v16) fun v17=>wv (lr v3) fun v18=>wv (bt T bz v18 1) fun v19=>wv (lr v3) fun v20=>wv (bt T bz v20 1) fun v21=>al P fL.n [v13] G9 fun v22 G23=>(ag T G23 aE v16=some v17/\True)/\(al P fL.n [v17] G23 fun v24 G25=>wv (aO T gQ v19 (.int .i64 0)) fun v26=>wg (aF T G25 aE v26 v22) fun G27=>wv (aO T gQ v21 (.int .i64 1)) fun v28=>wg (aF T G27 aE v28 v24) fun G29=>br G29 (.own (ago)) fun i30 G31=>∀ R32:List ah->ak->Prop,
 (∀ (x34 x35 x36 x37:ah) (G33:ak),(wv (az T .lss ay x37 (.int .i64 2)) fun v38=>brB (some v38)
 (wv (lr x35) fun v39=>wv (bt T bz v39 0) fun v40=>wv (aO T cJ v40 x37) fun v41=>wv (ag T G33 bU v41) fun v42=>wv (lr x35) fun v43=>wv (bt T bz v43 1) fun v44=>wv (aO T gQ v44 x37) fun v45=>wv (ag T G33 aE v45) fun v46=>al P bP.n [v46] G33 fun v47 G48=>(ag T G48 bU v41=some v42/\True)/\(al P acv.n [v42,v47] G48 fun v49 G50=>wv (aO T agi x36 x37) fun v51=>wg (aF T G50 aW v51 v49) fun G52=>wv (az T .add ay x37 (.int .i64 1)) fun v53=>R32 [x34,x35,x36,v53] G52))
 (br G33 (.own (agt)) fun i54 G55=>∀ R56:List ah->ak->Prop,
 (∀ (x58 x59 x60 x61 x62:ah) (G57:ak),(wv (az T .lss ay x62 (.int .i64 2)) fun v63=>brB (some v63)
 (wv (lr x59) fun v64=>wv (bt T bz v64 0) fun v65=>wv (aO T cJ v65 x62) fun v66=>wv (ag T G57 bU v66) fun v67=>wv (lr x59) fun v68=>wv (bt T bz v68 1) fun v69=>wv (aO T gQ v69 x62) fun v70=>wv (ag T G57 aE v70) fun v71=>wv (az T .sub ay (.int .i64 1) x62) fun v72=>wv (aO T agi x60 v72) fun v73=>wv (ag T G57 aW v73) fun v74=>al P bP.n [v71] G57 fun v75 G76=>(ag T G76 aW v73=some v74/\ag T G76 bU v66=some v67/\True)/\(al P ach.n [v67,v75,v74] G76 fun v77 G78=>wv (aP v77 0) fun v79=>wv (aP v77 1) fun v80=>wv (az T .neq bD v80 (.int .i64 0)) fun v81=>brB (some v81)
 (Q (.bool false) G78)
 (wv (lr x58) fun v82=>wv (bt T af6 v82 1) fun v83=>wv (aO T agc v83 x62) fun v84=>wv (ag T G78 bR v84) fun v85=>al P agd.n [v85,v79] G78 fun v86 G87=>wv (vun .not v86) fun v88=>brB (some v88)
 (Q (.bool false) G87)
 (wv (aO T agc x61 x62) fun v93=>wg (aF T G87 bR v93 v79) fun G94=>wv (az T .add ay x62 (.int .i64 1)) fun v97=>R56 [x58,x59,x60,x61,v97] G94))))
 (wv (aO T agc x61 (.int .i64 0)) fun v98=>wv (ag T G57 bR v98) fun v99=>wv (aO T agc x61 (.int .i64 1)) fun v100=>wv (ag T G57 bR v100) fun v101=>wv (lr x59) fun v102=>wv (bt T bz v102 3) fun v103=>wg (aF T G57 bR v103 v99) fun G104=>(ag T G104 bR v100=some v101/\True)/\(wv (lr x59) fun v105=>wv (bt T bz v105 2) fun v106=>wg (aF T G104 bR v106 v101) fun G107=>∀ R108:List ah->ak->Prop,
 (∀ (x110 x111 x112:ah) (G109:ak),(wv (lr x111) fun v113=>wv (bt T bz v113 2) fun v114=>wv (ag T G109 bR v114) fun v115=>wv (fU T G109 bR v115) fun v116=>wv (lr x111) fun v117=>wv (bt T bz v117 3) fun v118=>wv (ag T G109 bR v118) fun v119=>wv (fU T G109 bR v119) fun v120=>wv (az T .add ay v116 v120) fun v121=>wv (az T .gtr ay v121 (.int .i64 0)) fun v122=>brB (some v122)
 (wv (az T .and ay x112 (.int .i64 1)) fun v123=>wv (lr x111) fun v124=>wv (bt T bz v124 2) fun v125=>wv (ag T G109 bR v125) fun v126=>wv (fU T G109 bR v126) fun v127=>wv (lr x111) fun v128=>wv (bt T bz v128 3) fun v129=>wv (ag T G109 bR v129) fun v130=>wv (fU T G109 bR v130) fun v131=>wv (bj T ja []) fun v132=>al P df.n [x111,v123,v132] G109 fun v133 G134=>wv (aP v133 0) fun v135=>wv (aP v133 1) fun v136=>br G134 (.own (jF)) fun i137 G138=>wg (aF T G138 aW (.ptr i137 [] 0) v135) fun G139=>wv (vun .not v136) fun v140=>brB (some v140)
 (wv (az T .add ay x112 (.int .i64 1)) fun v167=>R108 [x110,x111,v167] G139)
 (wv (az T .eql ay v123 (.int .i64 0)) fun v141=>brB (some v141)
 (wv (az T .sub ay v127 (.int .i64 1)) fun v142=>wv (ag T G139 aW (.ptr i137 [] 0)) fun v153=>al P acm.n [x111,v123,v153] G139 fun v154 G155=>wv (vun .not v154) fun v156=>brB (some v156)
 (Q (.bool false) G155)
 (al P af5.n [x110,v142,v131] G155 fun v157 G158=>wv (az T .add ay x112 (.int .i64 1)) fun v168=>R108 [x110,x111,v168] G158))
 (wv (az T .sub ay v131 (.int .i64 1)) fun v143=>wv (ag T G139 aW (.ptr i137 [] 0)) fun v159=>al P acm.n [x111,v123,v159] G139 fun v160 G161=>wv (vun .not v160) fun v162=>brB (some v162)
 (Q (.bool false) G161)
 (al P af5.n [x110,v127,v143] G161 fun v163 G164=>wv (az T .add ay x112 (.int .i64 1)) fun v169=>R108 [x110,x111,v169] G164))))
 (al P af8.n [x110] G109 fun v170 G171=>Q v170 G171))->R108 [x110,x111,x112] G109) ->
 R108 [x58,x59,.int .i64 0] G107)))->R56 [x58,x59,x60,x61,x62] G57) ->
 R56 [x34,x35,x36,.ptr i54 [] 0,.int .i64 0] G55))->R32 [x34,x35,x36,x37] G33) ->
 R32 [a0,v3,.ptr i30 [] 0,.int .i64 0] G31)
def af9.an:Ann:=.two .nil (.two .nil (.two .nil (.two (.ord [(0,[]),(1,[]),(2,[]),(3,[]),(4,[]),(5,[]),(6,[]),(8,[]),(9,[]),(10,[]),(11,[]),(12,[]),(14,[]),(15,[]),(18,[]),(19,[]),(7,[12]),(13,[]),(16,[]),(17,[]),(20,[]),(21,[])]) (.two .nil (.two (.two .nil (.loop [0,3,4,5] [false,false,false,false] (.two .nil (.two (.ord [(0,[]),(1,[]),(2,[]),(3,[]),(4,[]),(5,[]),(6,[]),(7,[]),(8,[]),(9,[]),(10,[]),(11,[]),(12,[]),(13,[6]),(14,[]),(15,[]),(16,[])]) .nil)))) (.two .nil (.two (.two .nil (.loop [0,3,4,6,7] [false,false,false,false,false] (.two .nil (.two (.two (.ord [(0,[]),(1,[]),(2,[]),(3,[]),(4,[]),(5,[]),(6,[]),(7,[]),(8,[]),(9,[]),(10,[]),(11,[]),(13,[]),(14,[]),(15,[]),(16,[]),(12,[5,16]),(17,[]),(18,[]),(19,[]),(20,[]),(21,[]),(22,[])]) .nil) .nil)))) (.two (.ord [(0,[]),(1,[]),(2,[]),(3,[]),(4,[]),(5,[]),(6,[]),(7,[]),(8,[5]),(9,[]),(10,[]),(11,[])]) (.two (.two .nil (.loop [0,3,10] [false,false,false] (.two (.two (.ord [(0,[]),(1,[]),(2,[]),(3,[]),(4,[]),(5,[]),(6,[]),(7,[]),(8,[]),(9,[]),(10,[]),(11,[])]) .nil) (.two (.two .nil (.two (.ord [(0,[]),(1,[]),(2,[]),(3,[]),(4,[]),(5,[]),(6,[]),(7,[]),(8,[]),(9,[]),(10,[]),(11,[])]) .nil)) .nil)))) .nil)))))))))
theorem af9.sound {a0:ah}(h:af9.S a0 G Q):al P af9.n [a0] G Q:=by
 have e:af9.S a0 G Q=awp cx af9.body af9.an (bG T [.tmp 2] Q) (cC [a0]) G:=by kernel_rfl
 refine aD cF Tryz.func20 ?_ ?_ ?_ (aH ?_ ?_) (by simp[Tryz.f20]) (e.mp h)<;>kernel_rfl
def agb.S (a0 a1 a2:ah) (G:ak) (Q:ah->ak->Prop):Prop:=
 br G (.own a0) fun i1 G2=>al P acj.n [] G2 fun v3 G4=>wv (vun .not v3) fun v5=>brB (some v5)
 (Q (.bool false) G4)
 (wv (ag T G4 db (.ptr i1 [] 0)) fun v6=>al P fC.n [v6] G4 fun v7 G8=>wv (aP v7 0) fun v9=>wv (aP v7 1) fun v10=>wv (vun .not v10) fun v11=>brB (some v11)
 (Q (.bool true) G8)
 (wv (bj T af6 [(0,v9)]) fun v12=>br G8 (.own (v12)) fun i13 G14=>∀ R15:List ah->ak->Prop,
 (∀ (x17 x18 x19 x20:ah) (G16:ak),(wv (fU T G16 jd x17) fun v21=>wv (az T .lss ay x20 v21) fun v22=>brB (some v22)
 (wv (aO T jd x17 x20) fun v23=>wv (bt T ja v23 0) fun v24=>wv (ag T G16 ay v24) fun v25=>wv (az T .neq ay v25 (.int .i64 6)) fun v26=>let J53:ak->Prop:=(fun G31=>∀ R32:List ah->ak->Prop,
 (∀ (x34 x35 x36 x37 x38:ah) (G33:ak),(wv (fU T G33 agQ x35) fun v39=>wv (az T .lss ay x38 v39) fun v40=>brB (some v40)
 (wv (aO T agQ x35 x38) fun v41=>wv (ag T G33 ay v41) fun v42=>wv (az T .eql ay v42 x37) fun v43=>brB (some v43)
 (al P af9.n [x36] G33 fun v44 G45=>wv (vun .not v44) fun v46=>brB (some v46)
 (Q (.bool false) G45)
 (wv (az T .add ay x37 (.int .i64 1)) fun v60=>R15 [x34,x35,x36,v60] G45))
 (wv (az T .add ay x38 (.int .i64 1)) fun v47=>R32 [x34,x35,x36,x37,v47] G33))
 (wv (az T .add ay x37 (.int .i64 1)) fun v61=>R15 [x34,x35,x36,v61] G33))->R32 [x34,x35,x36,x37,x38] G33) ->
 R32 [x17,x18,x19,x20,.int .i64 0] G31);
 brB (some v26)
 (wv (aO T jd x17 x20) fun v27=>wv (ag T G16 ja v27) fun v28=>al P aga.n [x19,v28] G16 fun v29 G30=>J53 G30)
 (J53 G16))
 (al P af9.n [x19] G16 fun v62 G63=>Q v62 G63))->R15 [x17,x18,x19,x20] G16) ->
 R15 [a1,a2,.ptr i13 [] 0,.int .i64 0] G14))
def agb.an:Ann:=.two .nil (.two .nil (.two .nil (.two .nil (.two .nil (.two (.two .nil (.loop [1,2,9,10] [false,false,false,false] (.two .nil (.two (.two .nil (.two .nil (.loop [1,2,9,10,11] [false,false,false,false,false] .nil))) .nil)))) .nil)))))
theorem agb.sound {a0 a1 a2:ah}(h:agb.S a0 a1 a2 G Q):al P agb.n [a0,a1,a2] G Q:=by
 have e:agb.S a0 a1 a2 G Q=awp cx agb.body agb.an (bG T [.tmp 6] Q) (cC [a0,a1,a2]) G:=by kernel_rfl
 refine aD cF Tryz.func4 ?_ ?_ ?_ (aH ?_ ?_) (by simp[Tryz.f4]) (e.mp h)<;>kernel_rfl
end Go.Esc.M
