import Derived.Test.YtkojimdacnohpaaGreatDoorT
set_option linter.unusedSimpArgs false
set_option linter.unusedVariables false
namespace Go.Esc.M
open Go Go.Esc Go.Proofs
def cV.S (a0 a1 a2 a3 a4:ag) (G:ah) (Q:ag -> ah -> Prop):Prop :=
 br G (.own (a0)) fun i1 G2=>br G2 (.own (a4)) fun i3 G4=>al P ed.n [] G4 fun v5 G6=>wv (vun .not v5) fun v7=>brB (some v7)
 (Q (.bool false) G6)
 (wv (af T G6 dj (.ptr i1 [] 0)) fun v8=>al P ef.n [v8] G6 fun v9 G10=>wv (aW v9 0) fun v11=>wv (aW v9 1) fun v12=>wv (vun .not v12) fun v13=>brB (some v13)
 (Q (.bool true) G10)
 (∀ R14:List ag -> ah -> Prop,
 (∀ (x16 x17 x18 x19 x20 x21:ag) (G15:ah),(wv (gF T G15 iq x16) fun v22=>wv (aw T .lss au x21 v22) fun v23=>brB (some v23)
 (wv (aL T iq x16 x21) fun v24=>wv (af T G15 gJ v24) fun v25=>al P eU.n [x20,v25] G15 fun v26 G27=>wv (aw T .add au x21 (.int .i64 1)) fun v28=>R14 [x16,x17,x18,x19,x20,v28] G27)
 (wv (kH x20) fun v29=>wv (bx T bw v29 0) fun v30=>wv (aL T fD v30 (.int .i64 0)) fun v31=>wv (af T G15 cl v31) fun v32=>wv (kH x20) fun v33=>wv (bx T bw v33 1) fun v34=>wv (aL T gY v34 (.int .i64 0)) fun v35=>wv (af T G15 aJ v35) fun v36=>br G15 (.own (nz)) fun i37 G38=>br G38 (.own (iT)) fun i39 G40=>wg (ax T G40 cl (.ptr i37 [] 0) v32) fun G41=>(af T G41 aJ v35 = some v36 /\ True) /\ (wg (ax T G41 aJ (.ptr i39 [] 0) v36) fun G42=>wv (af T G42 aj (.ptr i37 [3] 3)) fun v43=>wv (aw T .sub ai x17 (.int .i64 1)) fun v44=>al P bJ.n [v43,v44] G42 fun v45 G46=>wv (aW v45 0) fun v47=>wv (aW v45 1) fun v48=>br G46 (.own (cI)) fun i49 G50=>wg (ax T G50 aj (.ptr i49 [] 0) v47) fun G51=>let J124:ag -> ah -> Prop:=(fun x55 G54=>wv (aw T .lss ai x17 (.int .i64 1)) fun v56=>let J123:ag -> ah -> Prop:=(fun x60 G59=>wv (af T G59 cl (.ptr i37 [] 0)) fun v61=>wv (af T G59 aJ (.ptr i39 [] 0)) fun v62=>wv (af T G59 aj (.ptr i49 [] 0)) fun v63=>wv (bk T aG [(0,.int .i64 6),(3,x18),(4,x17),(6,v63)]) fun v64=>al P dM.n [v62] G59 fun v65 G66=>(af T G66 aj (.ptr i49 [] 0) = some v63 /\ af T G66 cl (.ptr i37 [] 0) = some v61 /\ True) /\ (al P cW.n [v61,v65,v64] G66 fun v67 G68=>wv (aW v67 0) fun v69=>wv (aW v67 1) fun v70=>wv (af T G68 cl (.ptr i37 [] 0)) fun v71=>wv (af T G68 aJ (.ptr i39 [] 0)) fun v72=>wv (af T G68 aj x19) fun v73=>wv (bk T aG [(0,.int .i64 6),(3,x18),(4,x17),(6,v73)]) fun v74=>al P dM.n [v72] G68 fun v75 G76=>(af T G76 aj x19 = some v73 /\ af T G76 cl (.ptr i37 [] 0) = some v71 /\ True) /\ (al P cW.n [v71,v75,v74] G76 fun v77 G78=>wv (aW v77 0) fun v79=>wv (aW v77 1) fun v80=>let J122:ag -> ah -> Prop:=(fun x87 G86=>brB (some x87)
 (Q (.bool false) G86)
 (wv (vun .not x60) fun v88=>brB (some v88)
 (wv (aw T .eql bq v70 (.int .i64 100)) fun v89=>Q v89 G86)
 (wv (af T G86 ai (.ptr i39 [6] 6)) fun v90=>wv (aw T .gtr ai x17 v90) fun v91=>brB (some v91)
 (wv (aw T .eql bq v70 (.int .i64 180)) fun v92=>Q v92 G86)
 (let J115:ag -> ah -> Prop:=(fun x103 G102=>brB (some x103)
 (wv (aw T .eql bq v70 (.int .i64 90)) fun v104=>Q v104 G102)
 (wv (af T G102 ai (.ptr i39 [7] 7)) fun v105=>wv (aw T .eql ai x18 v105) fun v106=>brB (some v106)
 (wv (af T G102 ai (.ptr i39 [7] 7)) fun v107=>wv (af T G102 ai (.ptr i39 [8] 8)) fun v108=>wv (aw T .eql ai v107 v108) fun v109=>brB (some v109)
 (wv (aw T .eql bq v70 (.int .i64 90)) fun v113=>Q v113 G102)
 (wv (aw T .eql bq v70 (.int .i64 0)) fun v120=>Q v120 G102))
 (wv (aw T .eql bq v70 (.int .i64 0)) fun v121=>Q v121 G102)));
 wv (aw T .lss ai x17 (.int .i64 0)) fun v93=>brB (some v93)
 (J115 (.bool true) G86)
 (wv (af T G86 ai (.ptr i39 [6] 6)) fun v94=>wv (aw T .sub ai v94 (.int .i64 1)) fun v95=>wv (aw T .lss ai x17 v95) fun v96=>brB (some v96)
 (J115 (.bool true) G86)
 (wv (af T G86 ai (.ptr i39 [7] 7)) fun v97=>wv (aw T .lss ai x18 v97) fun v98=>brB (some v98)
 (J115 (.bool true) G86)
 (wv (af T G86 ai (.ptr i39 [7] 7)) fun v99=>wv (aw T .add ai v99 (.int .i64 1)) fun v100=>wv (aw T .gtr ai x18 v100) fun v101=>J115 v101 G86)))))));
 wv (af T G78 aj x19) fun v81=>wv (af T G78 aj (.ptr i49 [] 0)) fun v82=>wv (aw T .neq aj v81 v82) fun v83=>brB (some v83)
 (wv (aw T .geq ai x17 (.int .i64 0)) fun v84=>brB (some v84)
 (wv (aw T .neq bq v80 (.int .i64 100)) fun v85=>J122 v85 G78)
 (J122 (.bool false) G78))
 (J122 (.bool false) G78))));
 brB (some v56)
 (wv (bk T aj []) fun v57=>wg (ax T G54 aj (.ptr i49 [] 0) v57) fun G58=>J123 (.bool true) G58)
 (J123 x55 G54));
 wv (aw T .leq ai x17 (.int .i64 281474976710655)) fun v52=>brB (some v52)
 (wv (aw T .eql bq v48 (.int .i64 0)) fun v53=>J124 v53 G51)
 (J124 (.bool false) G51)))) -> R14 [x16,x17,x18,x19,x20,x21] G15) ->
 R14 [a1,a2,a3,.ptr i3 [] 0,v11,.int .i64 0] G10))
def cV.an:Ann:=.two (.nil) (.two (.nil) (.two (.nil) (.two (.nil) (.two (.two (.nil) (.loop [1,2,3,9,11,13] [false,false,false,false,false,false] (.nil))) (.two (.ord [(0,[]),(1,[]),(2,[]),(3,[]),(4,[]),(5,[]),(6,[]),(7,[]),(8,[]),(9,[]),(10,[]),(11,[]),(12,[9]),(13,[])]) (.two (.nil) (.two (.nil) (.two (.nil) (.two (.ord [(0,[]),(1,[]),(3,[]),(4,[]),(5,[]),(6,[]),(2,[0,5]),(7,[]),(8,[]),(9,[]),(10,[]),(11,[]),(12,[])]) (.two (.ord [(0,[]),(1,[]),(3,[]),(4,[]),(5,[]),(6,[]),(2,[0,5]),(7,[]),(8,[]),(9,[]),(10,[]),(11,[]),(12,[])]) (.nil)))))))))))
set_option maxRecDepth 100000 in
theorem cV.sound {a0 a1 a2 a3 a4:ag} {G:ah} {Q:ag -> ah -> Prop} (h:cV.S a0 a1 a2 a3 a4 G Q):al P cV.n [a0,a1,a2,a3,a4] G Q:=by
 have e:cV.S a0 a1 a2 a3 a4 G Q = awp cx (cV.body) cV.an (bK T [.tmp 10] Q) (dN [a0,a1,a2,a3,a4]) G:=by kernel_rfl
 exact ay dO (f:=cV.n) (fn:=Tryz.f5) (c:=cV.body) (an:=cV.an) Tryz.func5 (by kernel_rfl) (by kernel_rfl) (by kernel_rfl) (aF (by kernel_rfl) (by kernel_rfl)) (by simp [Tryz.f5]) (e ▸ h)
end Go.Esc.M
