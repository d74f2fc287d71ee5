import Derived.Test.YtkojimdacnohpaaGreatDoorT
set_option linter.unusedSimpArgs false
set_option linter.unusedVariables false
namespace Go.Esc.M
open Go Go.Esc Go.Proofs
def eP.S (a0 a1 a2:ag) (G:ah) (Q:ag -> ah -> Prop):Prop :=
 br G (.own (a0)) fun i1 G2=>br G2 (.own (a1)) fun i3 G4=>br G4 (.own (a2)) fun i5 G6=>br G6 (.own (iY)) fun i7 G8=>wv (af T G8 au (.ptr i3 [11,0] 13)) fun v9=>wv (af T G8 ak (.ptr i3 [5] 5)) fun v10=>wv (gF T G8 ak v10) fun v11=>wv (bk T bG [(0,v9),(1,v11)]) fun v12=>br G8 (.own (kG)) fun i13 G14=>wg (ax T G14 bG (.ptr i13 [] 0) v12) fun G15=>wv (af T G15 aJ (.ptr i3 [] 0)) fun v16=>al P bP.n [v16] G15 fun v17 G18=>brB (some v17)
 (wv (bk T aD []) fun v19=>wg (ax T G18 aD (.ptr i7 [] 0) v19) fun G20=>wv (af T G20 aD (.ptr i7 [] 0)) fun v21=>Q (.tuple [v21,.int .i64 220]) G20)
 (wv (af T G18 au (.ptr i5 [0] 0)) fun v22=>wv (aw T .neq au v22 (.int .i64 4)) fun v23=>brB (some v23)
 (wv (bk T aD []) fun v24=>wg (ax T G18 aD (.ptr i7 [] 0) v24) fun G25=>wv (af T G25 aD (.ptr i7 [] 0)) fun v26=>Q (.tuple [v26,.int .i64 160]) G25)
 (let J44:ag -> ah -> Prop:=(fun x34 G33=>brB (some x34)
 (wv (bk T aD []) fun v35=>wg (ax T G33 aD (.ptr i7 [] 0) v35) fun G36=>wv (af T G36 aD (.ptr i7 [] 0)) fun v37=>Q (.tuple [v37,.int .i64 90]) G36)
 (wv (af T G33 bG (.ptr i13 [] 0)) fun v38=>wv (af T G33 bG (.ptr i3 [9] 9)) fun v39=>wv (aw T .eql bG v38 v39) fun v40=>brB (some v40)
 (wv (bk T aD []) fun v41=>wg (ax T G33 aD (.ptr i7 [] 0) v41) fun G42=>wv (af T G42 aD (.ptr i7 [] 0)) fun v43=>Q (.tuple [v43,.int .i64 8]) G42)
 (wv (af T G33 cl (.ptr i1 [] 0)) fun v45=>wv (af T G33 aJ (.ptr i3 [] 0)) fun v46=>wv (af T G33 ai (.ptr i5 [3] 3)) fun v47=>wv (af T G33 bG (.ptr i13 [] 0)) fun v48=>al P eO.n [v45,v46,v47,v48] G33 fun v49 G50=>wv (aW v49 0) fun v51=>wv (aW v49 1) fun v52=>let J80:ag -> ah -> Prop:=(fun x66 G65=>brB (some x66)
 (wv (bk T aD []) fun v67=>wg (ax T G65 aD (.ptr i7 [] 0) v67) fun G68=>wv (af T G68 aD (.ptr i7 [] 0)) fun v69=>Q (.tuple [v69,.int .i64 110]) G68)
 (wv (af T G65 ai (.ptr i5 [3] 3)) fun v70=>wv (af T G65 ak (.ptr i3 [5] 5)) fun v71=>wv (af T G65 au (.ptr i3 [9,1] 10)) fun v72=>wv (fj T ak v71 (some (v72)) none none) fun v73=>wv (af T G65 aj (.ptr i5 [5] 5)) fun v74=>cc T G65 ak ak (.nilSlice) v73 fun v75 G76=>(af T G76 aj (.ptr i5 [5] 5) = some v74 /\ af T G76 ai (.ptr i5 [3] 3) = some v70 /\ True) /\ (wv (bk T aD [(0,.int .i64 3),(3,v70),(2,v75),(5,v74)]) fun v77=>wg (ax T G76 aD (.ptr i7 [] 0) v77) fun G78=>wv (af T G78 aD (.ptr i7 [] 0)) fun v79=>Q (.tuple [v79,.int .i64 0]) G78)));
 wv (vun .not v52) fun v53=>brB (some v53)
 (J80 (.bool true) G50)
 (wv (af T G50 aj (.ptr i1 [5] 67)) fun v54=>wv (af T G50 aj (.ptr i5 [5] 5)) fun v55=>al P dW.n [v54,v51,v55] G50 fun v56 G57=>wv (vun .not v56) fun v58=>brB (some v58)
 (J80 (.bool true) G57)
 (wv (af T G57 au (.ptr i3 [9,1] 10)) fun v59=>wv (aw T .lss au v59 (.int .i64 0)) fun v60=>brB (some v60)
 (J80 (.bool true) G57)
 (wv (af T G57 au (.ptr i3 [9,1] 10)) fun v61=>wv (af T G57 ak (.ptr i3 [5] 5)) fun v62=>wv (gF T G57 ak v62) fun v63=>wv (aw T .gtr au v61 v63) fun v64=>J80 v64 G57))))));
 wv (af T G18 ai (.ptr i5 [3] 3)) fun v27=>wv (af T G18 ai (.ptr i3 [6] 6)) fun v28=>wv (aw T .add ai v28 (.int .i64 1)) fun v29=>wv (aw T .neq ai v27 v29) fun v30=>brB (some v30)
 (J44 (.bool true) G18)
 (wv (af T G18 ai (.ptr i3 [6] 6)) fun v31=>wv (aw T .gtr ai v31 (.int .i64 281474976710653)) fun v32=>J44 v32 G18)))
def eP.an:Ann:=.two (.nil) (.two (.nil) (.two (.nil) (.two (.nil) (.two (.nil) (.two (.ord [(0,[]),(1,[]),(2,[]),(3,[]),(4,[]),(5,[]),(6,[]),(7,[]),(9,[]),(10,[]),(8,[1,10]),(11,[]),(12,[]),(13,[])]) (.nil))))))
set_option maxRecDepth 100000 in
theorem eP.sound {a0 a1 a2:ag} {G:ah} {Q:ag -> ah -> Prop} (h:eP.S a0 a1 a2 G Q):al P eP.n [a0,a1,a2] G Q:=by
 have e:eP.S a0 a1 a2 G Q = awp cx (eP.body) eP.an (bK T [.cell 6 78,.tmp 7] Q) (dN [a0,a1,a2]) G:=by kernel_rfl
 exact ay dO (f:=eP.n) (fn:=Tryz.f101) (c:=eP.body) (an:=eP.an) Tryz.func101 (by kernel_rfl) (by kernel_rfl) (by kernel_rfl) (aF (by kernel_rfl) (by kernel_rfl)) (by simp [Tryz.f101]) (e ▸ h)
def bV.S (a0:ag) (G:ah) (Q:ag -> ah -> Prop):Prop :=
 br G (.own (a0)) fun i1 G2=>br G2 (.own (kG)) fun i3 G4=>wv (af T G4 au (.ptr i1 [9,0] 9)) fun v5=>wv (af T G4 au (.ptr i1 [11,0] 13)) fun v6=>wv (uo v5 v6) fun v7=>wv (af T G4 au (.ptr i1 [9,1] 10)) fun v8=>wv (af T G4 au (.ptr i1 [11,1] 14)) fun v9=>wv (uo v8 v9) fun v10=>wv (bk T bG [(0,v7),(1,v10)]) fun v11=>wg (ax T G4 bG (.ptr i3 [] 0) v11) fun G12=>wv (af T G12 bG (.ptr i3 [] 0)) fun v13=>Q v13 G12
def bV.an:Ann:=.nil
set_option maxRecDepth 100000 in
theorem bV.sound {a0:ag} {G:ah} {Q:ag -> ah -> Prop} (h:bV.S a0 G Q):al P bV.n [a0] G Q:=by
 have e:bV.S a0 G Q = awp cx (bV.body) bV.an (bK T [.cell 2 35] Q) (dN [a0]) G:=by kernel_rfl
 exact ay dO (f:=bV.n) (fn:=Tryz.f93) (c:=bV.body) (an:=bV.an) Tryz.func93 (by kernel_rfl) (by kernel_rfl) (by kernel_rfl) (aF (by kernel_rfl) (by kernel_rfl)) (by simp [Tryz.f93]) (e ▸ h)
def bQ.S (a0 a1 a2:ag) (G:ah) (Q:ag -> ah -> Prop):Prop :=
 ∀ R1:List ag -> ah -> Prop,
 (∀ (x3 x4 x5 x6:ag) (G2:ah),(wv (gF T G2 ak x3) fun v7=>wv (aw T .lss au x6 v7) fun v8=>brB (some v8)
 (wv (aL T ak x3 x6) fun v9=>wv (bx T aI v9 1) fun v10=>wv (af T G2 ai v10) fun v11=>wv (aw T .eql ai v11 x4) fun v12=>brB (some v12)
 (wv (aL T ak x3 x6) fun v13=>wv (bx T aI v13 0) fun v14=>wv (af T G2 au v14) fun v15=>wv (aw T .neq au v15 (.int .i64 1)) fun v16=>brB (some v16)
 (wv (aw T .eql au x5 (.int .i64 0)) fun v17=>brB (some v17)
 (Q (.bool true) G2)
 (wv (aL T ak x3 x6) fun v18=>wv (bx T aI v18 0) fun v19=>wv (af T G2 au v19) fun v20=>wv (aw T .eql au v20 x5) fun v21=>brB (some v21)
 (Q (.bool true) G2)
 (wv (aw T .add au x6 (.int .i64 1)) fun v26=>R1 [x3,x4,x5,v26] G2)))
 (wv (aw T .add au x6 (.int .i64 1)) fun v27=>R1 [x3,x4,x5,v27] G2))
 (wv (aw T .add au x6 (.int .i64 1)) fun v28=>R1 [x3,x4,x5,v28] G2))
 (Q (.bool false) G2)) -> R1 [x3,x4,x5,x6] G2) ->
 R1 [a0,a1,a2,.int .i64 0] G
def bQ.an:Ann:=.two (.nil) (.two (.two (.nil) (.loop [0,1,2,7] [false,false,false,false] (.nil))) (.nil))
set_option maxRecDepth 100000 in
theorem bQ.sound {a0 a1 a2:ag} {G:ah} {Q:ag -> ah -> Prop} (h:bQ.S a0 a1 a2 G Q):al P bQ.n [a0,a1,a2] G Q:=by
 have e:bQ.S a0 a1 a2 G Q = awp cx (bQ.body) bQ.an (bK T [.tmp 6] Q) (dN [a0,a1,a2]) G:=by kernel_rfl
 exact ay dO (f:=bQ.n) (fn:=Tryz.f192) (c:=bQ.body) (an:=bQ.an) Tryz.func192 (by kernel_rfl) (by kernel_rfl) (by kernel_rfl) (aF (by kernel_rfl) (by kernel_rfl)) (by simp [Tryz.f192]) (e ▸ h)
def b6.S (a0 a1 a2 a3 a4:ag) (G:ah) (Q:ag -> ah -> Prop):Prop :=
 ∀ R1:List ag -> ah -> Prop,
 (∀ (x3 x4 x5 x6 x7 x8:ag) (G2:ah),(wv (gF T G2 ak x3) fun v9=>wv (aw T .lss au x8 v9) fun v10=>brB (some v10)
 (let J40:ag -> ah -> Prop:=(fun x38 G37=>wv (aw T .add au x8 (.int .i64 1)) fun v39=>R1 [x3,x4,x5,x6,x38,v39] G37);
 wv (aL T ak x3 x8) fun v11=>wv (bx T aI v11 0) fun v12=>wv (af T G2 au v12) fun v13=>wv (aw T .eql au v13 (.int .i64 1)) fun v14=>brB (some v14)
 (wv (aL T ak x3 x8) fun v15=>wv (bx T aI v15 1) fun v16=>wv (af T G2 ai v16) fun v17=>al P bB.n [x4,x6] G2 fun v18 G19=>(af T G19 ai v16 = some v17 /\ True) /\ (al P bQ.n [v18,v17,.int .i64 3] G19 fun v20 G21=>wv (vun .not v20) fun v22=>brB (some v22)
 (wv (aL T ak x3 x8) fun v31=>wv (bx T aI v31 2) fun v32=>wv (af T G21 ai v32) fun v33=>wv (aw T .sub ai x7 v33) fun v34=>J40 v34 G21)
 (J40 x7 G21)))
 (J40 x7 G2))
 (al P bB.n [x3,x5] G2 fun v41 G42=>∀ R43:List ag -> ah -> Prop,
 (∀ (x45 x46 x47 x48:ag) (G44:ah),(wv (gF T G44 ak x45) fun v49=>wv (aw T .lss au x48 v49) fun v50=>brB (some v50)
 (let J77:ag -> ah -> Prop:=(fun x75 G74=>wv (aw T .add au x48 (.int .i64 1)) fun v76=>R43 [x45,x75,x47,v76] G74);
 wv (aL T ak x45 x48) fun v51=>wv (bx T aI v51 0) fun v52=>wv (af T G44 au v52) fun v53=>wv (aw T .eql au v53 (.int .i64 1)) fun v54=>brB (some v54)
 (wv (aL T ak x45 x48) fun v55=>wv (bx T aI v55 1) fun v56=>wv (af T G44 ai v56) fun v57=>al P bQ.n [x47,v57,.int .i64 2] G44 fun v58 G59=>brB (some v58)
 (wv (aL T ak x45 x48) fun v68=>wv (bx T aI v68 2) fun v69=>wv (af T G59 ai v69) fun v70=>wv (aw T .add ai x46 v70) fun v71=>J77 v71 G59)
 (J77 x46 G59))
 (J77 x46 G44))
 (wv (Co x46 (.int .i64 0)) fun v78=>Q v78 G44)) -> R43 [x45,x46,x47,x48] G44) ->
 R43 [x4,x7,v41,.int .i64 0] G42)) -> R1 [x3,x4,x5,x6,x7,x8] G2) ->
 R1 [a1,a2,a3,a4,a0,.int .i64 0] G
def b6.an:Ann:=.two (.nil) (.two (.nil) (.two (.two (.nil) (.loop [1,2,3,4,11,12] [false,false,false,false,false,false] (.two (.nil) (.two (.two (.ord [(0,[]),(1,[]),(2,[]),(3,[]),(4,[]),(5,[]),(6,[]),(7,[]),(8,[]),(10,[]),(11,[]),(12,[]),(13,[]),(14,[]),(9,[14]),(15,[]),(16,[]),(17,[])]) (.nil)) (.nil))))) (.two (.nil) (.two (.two (.nil) (.loop [2,11,13,14] [false,false,false,false] (.nil))) (.nil)))))
set_option maxRecDepth 100000 in
theorem b6.sound {a0 a1 a2 a3 a4:ag} {G:ah} {Q:ag -> ah -> Prop} (h:b6.S a0 a1 a2 a3 a4 G Q):al P b6.n [a0,a1,a2,a3,a4] G Q:=by
 have e:b6.S a0 a1 a2 a3 a4 G Q = awp cx (b6.body) b6.an (bK T [.tmp 10] Q) (dN [a0,a1,a2,a3,a4]) G:=by kernel_rfl
 exact ay dO (f:=b6.n) (fn:=Tryz.f154) (c:=b6.body) (an:=b6.an) Tryz.func154 (by kernel_rfl) (by kernel_rfl) (by kernel_rfl) (aF (by kernel_rfl) (by kernel_rfl)) (by simp [Tryz.f154]) (e ▸ h)
def bM.S (a0:ag) (G:ah) (Q:ag -> ah -> Prop):Prop :=
 br G (.own (a0)) fun i1 G2=>wv (af T G2 aJ (.ptr i1 [] 0)) fun v3=>al P bV.n [v3] G2 fun v4 G5=>br G5 (.own (kG)) fun i6 G7=>wg (ax T G7 bG (.ptr i6 [] 0) v4) fun G8=>wv (af T G8 ai (.ptr i1 [3] 3)) fun v9=>wv (af T G8 ak (.ptr i1 [5] 5)) fun v10=>wv (af T G8 ak (.ptr i1 [4] 4)) fun v11=>wv (af T G8 au (.ptr i6 [1] 1)) fun v12=>wv (af T G8 au (.ptr i6 [0] 0)) fun v13=>al P b6.n [v9,v10,v11,v12,v13] G8 fun v14 G15=>Q v14 G15
def bM.an:Ann:=.nil
set_option maxRecDepth 100000 in
theorem bM.sound {a0:ag} {G:ah} {Q:ag -> ah -> Prop} (h:bM.S a0 G Q):al P bM.n [a0] G Q:=by
 have e:bM.S a0 G Q = awp cx (bM.body) bM.an (bK T [.tmp 2] Q) (dN [a0]) G:=by kernel_rfl
 exact ay dO (f:=bM.n) (fn:=Tryz.f95) (c:=bM.body) (an:=bM.an) Tryz.func95 (by kernel_rfl) (by kernel_rfl) (by kernel_rfl) (aF (by kernel_rfl) (by kernel_rfl)) (by simp [Tryz.f95]) (e ▸ h)
def dE.S (a0 a1:ag) (G:ah) (Q:ag -> ah -> Prop):Prop :=
 ∀ R1:List ag -> ah -> Prop,
 (∀ (x3 x4 x5 x6:ag) (G2:ah),(wv (gF T G2 ak x3) fun v7=>wv (aw T .lss au x6 v7) fun v8=>brB (some v8)
 (let J30:ag -> ah -> Prop:=(fun x28 G27=>wv (aw T .add au x6 (.int .i64 1)) fun v29=>R1 [x3,x4,x28,v29] G27);
 wv (aL T ak x3 x6) fun v9=>wv (bx T aI v9 0) fun v10=>wv (af T G2 au v10) fun v11=>wv (aw T .eql au v11 (.int .i64 1)) fun v12=>brB (some v12)
 (wv (aL T ak x3 x6) fun v13=>wv (bx T aI v13 1) fun v14=>wv (af T G2 ai v14) fun v15=>al P bQ.n [x4,v15,.int .i64 0] G2 fun v16 G17=>wv (vun .not v16) fun v18=>brB (some v18)
 (wv (aw T .add au x5 (.int .i64 1)) fun v24=>J30 v24 G17)
 (J30 x5 G17))
 (J30 x5 G2))
 (Q x5 G2)) -> R1 [x3,x4,x5,x6] G2) ->
 R1 [a0,a1,.int .i64 0,.int .i64 0] G
def dE.an:Ann:=.two (.nil) (.two (.nil) (.two (.two (.nil) (.loop [0,1,5,6] [false,false,false,false] (.nil))) (.nil)))
set_option maxRecDepth 100000 in
theorem dE.sound {a0 a1:ag} {G:ah} {Q:ag -> ah -> Prop} (h:dE.S a0 a1 G Q):al P dE.n [a0,a1] G Q:=by
 have e:dE.S a0 a1 G Q = awp cx (dE.body) dE.an (bK T [.tmp 4] Q) (dN [a0,a1]) G:=by kernel_rfl
 exact ay dO (f:=dE.n) (fn:=Tryz.f150) (c:=dE.body) (an:=dE.an) Tryz.func150 (by kernel_rfl) (by kernel_rfl) (by kernel_rfl) (aF (by kernel_rfl) (by kernel_rfl)) (by simp [Tryz.f150]) (e ▸ h)
def dF.S (a0 a1:ag) (G:ah) (Q:ag -> ah -> Prop):Prop :=
 br G (.own (gy)) fun i1 G2=>∀ R3:List ag -> ah -> Prop,
 (∀ (x5 x6 x7 x8:ag) (G4:ah),(wv (gF T G4 ak x5) fun v9=>wv (aw T .lss au x8 v9) fun v10=>brB (some v10)
 (wv (aL T ak x5 x8) fun v11=>wv (bx T aI v11 0) fun v12=>wv (af T G4 au v12) fun v13=>wv (aw T .eql au v13 (.int .i64 1)) fun v14=>brB (some v14)
 (wv (aL T ak x5 x8) fun v15=>wv (bx T aI v15 1) fun v16=>wv (af T G4 ai v16) fun v17=>wv (aw T .eql ai v17 x6) fun v18=>brB (some v18)
 (wv (aL T ak x5 x8) fun v25=>wv (af T G4 aI v25) fun v26=>wg (ax T G4 aI x7 v26) fun G27=>wv (af T G27 aI x7) fun v28=>Q (.tuple [v28,.bool true]) G27)
 (wv (aw T .add au x8 (.int .i64 1)) fun v31=>R3 [x5,x6,x7,v31] G4))
 (wv (aw T .add au x8 (.int .i64 1)) fun v32=>R3 [x5,x6,x7,v32] G4))
 (wv (bk T aI []) fun v33=>wg (ax T G4 aI x7 v33) fun G34=>wv (af T G34 aI x7) fun v35=>Q (.tuple [v35,.bool false]) G34)) -> R3 [x5,x6,x7,x8] G4) ->
 R3 [a0,a1,.ptr i1 [] 0,.int .i64 0] G2
def dF.an:Ann:=.two (.nil) (.two (.two (.nil) (.loop [0,1,4,6] [false,false,false,false] (.nil))) (.nil))
set_option maxRecDepth 100000 in
theorem dF.sound {a0 a1:ag} {G:ah} {Q:ag -> ah -> Prop} (h:dF.S a0 a1 G Q):al P dF.n [a0,a1] G Q:=by
 have e:dF.S a0 a1 G Q = awp cx (dF.body) dF.an (bK T [.cell 4 76,.tmp 5] Q) (dN [a0,a1]) G:=by kernel_rfl
 exact ay dO (f:=dF.n) (fn:=Tryz.f168) (c:=dF.body) (an:=dF.an) Tryz.func168 (by kernel_rfl) (by kernel_rfl) (by kernel_rfl) (aF (by kernel_rfl) (by kernel_rfl)) (by simp [Tryz.f168]) (e ▸ h)
def dT.S (a0 a1:ag) (G:ah) (Q:ag -> ah -> Prop):Prop :=
 br G (.own (a0)) fun i1 G2=>br G2 (.own (a1)) fun i3 G4=>wv (af T G4 aJ (.ptr i1 [] 0)) fun v5=>al P bV.n [v5] G4 fun v6 G7=>br G7 (.own (kG)) fun i8 G9=>wg (ax T G9 bG (.ptr i8 [] 0) v6) fun G10=>let J71:ah -> Prop:=(fun G57=>wv (af T G57 ak (.ptr i1 [4] 4)) fun v58=>wv (af T G57 au (.ptr i8 [0] 0)) fun v59=>wv (af T G57 ai (.ptr i3 [1] 1)) fun v60=>al P bB.n [v58,v59] G57 fun v61 G62=>(af T G62 ai (.ptr i3 [1] 1) = some v60 /\ True) /\ (al P dF.n [v61,v60] G62 fun v63 G64=>wv (aW v63 0) fun v65=>wv (aW v63 1) fun v66=>br G64 (.own (gy)) fun i67 G68=>wg (ax T G68 aI (.ptr i67 [] 0) v65) fun G69=>wv (vun .not v66) fun v70=>brB (some v70)
 (Q (.int .i64 120) G69)
 (Q (.int .i64 0) G69)));
 wv (af T G10 aJ (.ptr i1 [] 0)) fun v11=>al P bP.n [v11] G10 fun v12 G13=>brB (some v12)
 (Q (.int .i64 220) G13)
 (wv (af T G13 ak (.ptr i1 [5] 5)) fun v14=>wv (gF T G13 ak v14) fun v15=>wv (af T G13 au (.ptr i1 [9,1] 10)) fun v16=>wv (aw T .sub au v15 v16) fun v17=>wv (aw T .geq au v17 (.int .i64 512)) fun v18=>brB (some v18)
 (Q (.int .i64 131) G13)
 (wv (af T G13 ak (.ptr i1 [5] 5)) fun v19=>wv (af T G13 ak (.ptr i1 [4] 4)) fun v20=>wv (af T G13 aI (.ptr i3 [] 0)) fun v21=>al P dJ.n [v19,v20,v21] G13 fun v22 G23=>wv (aw T .neq bq v22 (.int .i64 0)) fun v24=>brB (some v24)
 (Q (.int .i64 120) G23)
 (let J53:ag -> ah -> Prop:=(fun x36 G35=>brB (some x36)
 (Q (.int .i64 131) G35)
 (wv (af T G35 au (.ptr i3 [0] 0)) fun v37=>wv (aw T .eql au v37 (.int .i64 1)) fun v38=>brB (some v38)
 (wv (af T G35 ai (.ptr i3 [2] 2)) fun v39=>wv (af T G35 aJ (.ptr i1 [] 0)) fun v40=>al P bM.n [v40] G35 fun v41 G42=>(af T G42 ai (.ptr i3 [2] 2) = some v39 /\ True) /\ (wv (aw T .gtr ai v39 v41) fun v43=>brB (some v43)
 (Q (.int .i64 130) G42)
 (wv (af T G42 au (.ptr i3 [0] 0)) fun v48=>wv (aw T .eql au v48 (.int .i64 1)) fun v49=>brB (some v49)
 (Q (.int .i64 0) G42)
 (J71 G42))))
 (wv (af T G35 au (.ptr i3 [0] 0)) fun v50=>wv (aw T .eql au v50 (.int .i64 1)) fun v51=>brB (some v51)
 (Q (.int .i64 0) G35)
 (J71 G35))));
 wv (af T G23 au (.ptr i3 [0] 0)) fun v25=>wv (aw T .eql au v25 (.int .i64 1)) fun v26=>brB (some v26)
 (wv (af T G23 ak (.ptr i1 [5] 5)) fun v27=>wv (af T G23 ak (.ptr i1 [4] 4)) fun v28=>wv (af T G23 au (.ptr i8 [0] 0)) fun v29=>al P bB.n [v28,v29] G23 fun v30 G31=>(af T G31 ak (.ptr i1 [5] 5) = some v27 /\ True) /\ (al P dE.n [v27,v30] G31 fun v32 G33=>wv (aw T .geq au v32 (.int .i64 483)) fun v34=>J53 v34 G33))
 (J53 (.bool false) G23))))
def dT.an:Ann:=.two (.nil) (.two (.nil) (.two (.two (.nil) (.two (.nil) (.two (.nil) (.two (.nil) (.two (.nil) (.two (.nil) (.two (.ord [(0,[]),(1,[]),(2,[]),(3,[]),(4,[]),(5,[]),(6,[]),(7,[]),(8,[]),(9,[]),(10,[5]),(11,[]),(12,[]),(13,[]),(14,[])]) (.two (.nil) (.two (.ord [(0,[]),(1,[]),(2,[]),(3,[]),(4,[]),(5,[]),(6,[]),(7,[5]),(8,[]),(9,[]),(10,[])]) (.nil)))))))))) (.two (.ord [(0,[]),(1,[]),(2,[]),(3,[]),(5,[]),(6,[]),(4,[6]),(7,[]),(8,[]),(9,[]),(10,[]),(11,[]),(12,[]),(13,[])]) (.nil))))
set_option maxRecDepth 100000 in
theorem dT.sound {a0 a1:ag} {G:ah} {Q:ag -> ah -> Prop} (h:dT.S a0 a1 G Q):al P dT.n [a0,a1] G Q:=by
 have e:dT.S a0 a1 G Q = awp cx (dT.body) dT.an (bK T [.tmp 4] Q) (dN [a0,a1]) G:=by kernel_rfl
 exact ay dO (f:=dT.n) (fn:=Tryz.f108) (c:=dT.body) (an:=dT.an) Tryz.func108 (by kernel_rfl) (by kernel_rfl) (by kernel_rfl) (aF (by kernel_rfl) (by kernel_rfl)) (by simp [Tryz.f108]) (e ▸ h)
def cM.S (a0 a1:ag) (G:ah) (Q:ag -> ah -> Prop):Prop :=
 br G (.own (a0)) fun i1 G2=>br G2 (.own (a1)) fun i3 G4=>br G4 (.own (iY)) fun i5 G6=>wv (af T G6 aJ (.ptr i1 [] 0)) fun v7=>al P bP.n [v7] G6 fun v8 G9=>brB (some v8)
 (wv (bk T aD []) fun v10=>wg (ax T G9 aD (.ptr i5 [] 0) v10) fun G11=>wv (af T G11 aD (.ptr i5 [] 0)) fun v12=>Q (.tuple [v12,.int .i64 220]) G11)
 (wv (af T G9 au (.ptr i3 [0] 0)) fun v13=>wv (aw T .neq au v13 (.int .i64 5)) fun v14=>brB (some v14)
 (wv (bk T aD []) fun v15=>wg (ax T G9 aD (.ptr i5 [] 0) v15) fun G16=>wv (af T G16 aD (.ptr i5 [] 0)) fun v17=>Q (.tuple [v17,.int .i64 160]) G16)
 (let J39:ag -> ah -> Prop:=(fun x26 G25=>brB (some x26)
 (wv (bk T aD []) fun v27=>wg (ax T G25 aD (.ptr i5 [] 0) v27) fun G28=>wv (af T G28 aD (.ptr i5 [] 0)) fun v29=>Q (.tuple [v29,.int .i64 90]) G28)
 (wv (af T G25 aj (.ptr i3 [6] 37)) fun v30=>wv (aL T cL (.ptr i1 [13] 16) (.int .i64 0)) fun v31=>wv (af T G25 aj v31) fun v32=>al P bW.n [v30] G25 fun v33 G34=>(af T G34 aj v31 = some v32 /\ True) /\ (wv (aw T .neq aj v33 v32) fun v35=>brB (some v35)
 (wv (bk T aD []) fun v36=>wg (ax T G34 aD (.ptr i5 [] 0) v36) fun G37=>wv (af T G37 aD (.ptr i5 [] 0)) fun v38=>Q (.tuple [v38,.int .i64 100]) G37)
 (wv (af T G34 bu (.ptr i1 [15] 112)) fun v40=>wv (af T G34 ai (.ptr i1 [8] 8)) fun v41=>wv (af T G34 aj (.ptr i3 [6] 37)) fun v42=>al P eH.n [v40,v41,v42] G34 fun v43 G44=>wv (aW v43 0) fun v45=>wv (aW v43 1) fun v46=>wv (aw T .neq bq v46 (.int .i64 0)) fun v47=>brB (some v47)
 (wv (bk T aD []) fun v48=>wg (ax T G44 aD (.ptr i5 [] 0) v48) fun G49=>wv (af T G49 aD (.ptr i5 [] 0)) fun v50=>Q (.tuple [v50,.int .i64 100]) G49)
 (wv (af T G44 ai (.ptr i1 [8] 8)) fun v51=>wv (af T G44 aj (.ptr i3 [6] 37)) fun v52=>wv (af T G44 aj (.ptr i3 [5] 5)) fun v53=>wv (bk T aD [(0,.int .i64 4),(3,v51),(6,v52),(7,v53)]) fun v54=>wg (ax T G44 aD (.ptr i5 [] 0) v54) fun G55=>wv (af T G55 aD (.ptr i5 [] 0)) fun v56=>Q (.tuple [v56,.int .i64 0]) G55)))));
 wv (af T G9 ai (.ptr i1 [7] 7)) fun v18=>wv (af T G9 ai (.ptr i1 [8] 8)) fun v19=>wv (aw T .add ai v19 (.int .i64 1)) fun v20=>wv (aw T .neq ai v18 v20) fun v21=>brB (some v21)
 (J39 (.bool true) G9)
 (wv (af T G9 ai (.ptr i3 [3] 3)) fun v22=>wv (af T G9 ai (.ptr i1 [8] 8)) fun v23=>wv (aw T .neq ai v22 v23) fun v24=>J39 v24 G9)))
def cM.an:Ann:=.two (.nil) (.two (.two (.nil) (.two (.nil) (.two (.nil) (.two (.nil) (.two (.nil) (.two (.nil) (.two (.ord [(0,[]),(1,[]),(3,[]),(4,[]),(5,[]),(2,[5]),(6,[]),(7,[])]) (.nil)))))))) (.nil))
set_option maxRecDepth 100000 in
theorem cM.sound {a0 a1:ag} {G:ah} {Q:ag -> ah -> Prop} (h:cM.S a0 a1 G Q):al P cM.n [a0,a1] G Q:=by
 have e:cM.S a0 a1 G Q = awp cx (cM.body) cM.an (bK T [.cell 4 78,.tmp 5] Q) (dN [a0,a1]) G:=by kernel_rfl
 exact ay dO (f:=cM.n) (fn:=Tryz.f109) (c:=cM.body) (an:=cM.an) Tryz.func109 (by kernel_rfl) (by kernel_rfl) (by kernel_rfl) (aF (by kernel_rfl) (by kernel_rfl)) (by simp [Tryz.f109]) (e ▸ h)
def ee.S (a0 a1 a2:ag) (G:ah) (Q:ag -> ah -> Prop):Prop :=
 br G (.own (a2)) fun i1 G2=>wv (kH a0) fun v3=>wv (bx T bw v3 1) fun v4=>wv (aL T gY v4 a1) fun v5=>wv (af T G2 aJ v5) fun v6=>br G2 (.own (iT)) fun i7 G8=>wg (ax T G8 aJ (.ptr i7 [] 0) v6) fun G9=>let J74:ag -> ah -> Prop:=(fun x17 G16=>brB (some x17)
 (wv (af T G16 aG (.ptr i1 [] 0)) fun v18=>al P dx.n [v18] G16 fun v19 G20=>br G20 (.own (gy)) fun i21 G22=>wg (ax T G22 aI (.ptr i21 [] 0) v19) fun G23=>wv (af T G23 aJ (.ptr i7 [] 0)) fun v24=>wv (af T G23 aI (.ptr i21 [] 0)) fun v25=>al P dT.n [v24,v25] G23 fun v26 G27=>wv (aw T .neq bq v26 (.int .i64 0)) fun v28=>brB (some v28)
 (Q (.bool false) G27)
 (wv (af T G27 ak (.ptr i7 [5] 5)) fun v29=>wv (af T G27 aI (.ptr i21 [] 0)) fun v30=>wv (kH a0) fun v31=>wv (bx T bw v31 1) fun v32=>cc T G27 ak ak (.nilSlice) v29 fun v33 G34=>(af T G34 aI (.ptr i21 [] 0) = some v30 /\ True) /\ (bh T ak 1 [(0,v30)] G34 fun v35 G36=>cc T G36 ak ak v33 v35 fun v37 G38=>wv (aL T gY v32 a1) fun v39=>wv (bx T aJ v39 5) fun v40=>wg (ax T G38 ak v40 v37) fun G41=>Q (.bool true) G41)))
 (wv (kH a0) fun v42=>wv (bx T bw v42 0) fun v43=>wv (aL T fD v43 a1) fun v44=>wv (af T G16 cl v44) fun v45=>wv (af T G16 aJ (.ptr i7 [] 0)) fun v46=>wv (af T G16 aG (.ptr i1 [] 0)) fun v47=>al P eP.n [v45,v46,v47] G16 fun v48 G49=>wv (aW v48 0) fun v50=>wv (aW v48 1) fun v51=>br G49 (.own (iY)) fun i52 G53=>wg (ax T G53 aD (.ptr i52 [] 0) v50) fun G54=>wv (aw T .eql bq v51 (.int .i64 0)) fun v55=>brB (some v55)
 (wv (af T G54 aD (.ptr i52 [] 0)) fun v56=>al P bO.n [a0,a1,v56] G54 fun v57 G58=>Q (.bool true) G58)
 (wv (af T G54 aJ (.ptr i7 [] 0)) fun v59=>wv (af T G54 aG (.ptr i1 [] 0)) fun v60=>al P cM.n [v59,v60] G54 fun v61 G62=>wv (aW v61 0) fun v63=>wv (aW v61 1) fun v64=>wg (ax T G62 aD (.ptr i52 [] 0) v63) fun G65=>wv (aw T .eql bq v64 (.int .i64 0)) fun v66=>brB (some v66)
 (wv (af T G65 aD (.ptr i52 [] 0)) fun v67=>al P bO.n [a0,a1,v67] G65 fun v68 G69=>wv (aw T .eql bq v64 (.int .i64 0)) fun v72=>Q v72 G69)
 (wv (aw T .eql bq v64 (.int .i64 0)) fun v73=>Q v73 G65))));
 wv (af T G9 au (.ptr i1 [0] 0)) fun v10=>wv (aw T .eql au v10 (.int .i64 1)) fun v11=>brB (some v11)
 (J74 (.bool true) G9)
 (wv (af T G9 au (.ptr i1 [0] 0)) fun v12=>wv (aw T .eql au v12 (.int .i64 2)) fun v13=>brB (some v13)
 (J74 (.bool true) G9)
 (wv (af T G9 au (.ptr i1 [0] 0)) fun v14=>wv (aw T .eql au v14 (.int .i64 3)) fun v15=>J74 v15 G9))
def ee.an:Ann:=.two (.nil) (.two (.nil) (.two (.two (.nil) (.two (.two (.nil) (.two (.nil) (.two (.ord [(0,[]),(1,[]),(2,[]),(3,[]),(5,[]),(8,[]),(9,[]),(4,[5]),(6,[]),(7,[]),(10,[]),(11,[]),(12,[])]) (.nil)))) (.nil))) (.two (.ord [(0,[]),(1,[]),(2,[]),(3,[]),(4,[]),(5,[]),(6,[]),(7,[]),(8,[]),(9,[]),(10,[]),(11,[]),(12,[]),(13,[]),(14,[])]) (.nil))))
set_option maxRecDepth 100000 in
theorem ee.sound {a0 a1 a2:ag} {G:ah} {Q:ag -> ah -> Prop} (h:ee.S a0 a1 a2 G Q):al P ee.n [a0,a1,a2] G Q:=by
 have e:ee.S a0 a1 a2 G Q = awp cx (ee.body) ee.an (bK T [.tmp 6] Q) (dN [a0,a1,a2]) G:=by kernel_rfl
 exact ay dO (f:=ee.n) (fn:=Tryz.f47) (c:=ee.body) (an:=ee.an) Tryz.func47 (by kernel_rfl) (by kernel_rfl) (by kernel_rfl) (aF (by kernel_rfl) (by kernel_rfl)) (by simp [Tryz.f47]) (e ▸ h)
def cr.S (a0:ag) (G:ah) (Q:ag -> ah -> Prop):Prop :=
 br G (.own (a0)) fun i1 G2=>wv (af T G2 aJ (.ptr i1 [] 0)) fun v3=>al P bV.n [v3] G2 fun v4 G5=>br G5 (.own (kG)) fun i6 G7=>wg (ax T G7 bG (.ptr i6 [] 0) v4) fun G8=>wv (af T G8 ai (.ptr i1 [2] 2)) fun v9=>wv (af T G8 ak (.ptr i1 [4] 4)) fun v10=>wv (af T G8 ak (.ptr i1 [5] 5)) fun v11=>wv (af T G8 au (.ptr i6 [0] 0)) fun v12=>wv (af T G8 au (.ptr i6 [1] 1)) fun v13=>al P b6.n [v9,v10,v11,v12,v13] G8 fun v14 G15=>Q v14 G15
def cr.an:Ann:=.nil
set_option maxRecDepth 100000 in
theorem cr.sound {a0:ag} {G:ah} {Q:ag -> ah -> Prop} (h:cr.S a0 G Q):al P cr.n [a0] G Q:=by
 have e:cr.S a0 G Q = awp cx (cr.body) cr.an (bK T [.tmp 2] Q) (dN [a0]) G:=by kernel_rfl
 exact ay dO (f:=cr.n) (fn:=Tryz.f94) (c:=cr.body) (an:=cr.an) Tryz.func94 (by kernel_rfl) (by kernel_rfl) (by kernel_rfl) (aF (by kernel_rfl) (by kernel_rfl)) (by simp [Tryz.f94]) (e ▸ h)
def cS.S (a0:ag) (G:ah) (Q:ag -> ah -> Prop):Prop :=
 br G (.own (a0)) fun i1 G2=>wv (af T G2 ak (.ptr i1 [4] 4)) fun v3=>wv (gF T G2 ak v3) fun v4=>wv (aw T .geq au v4 (.int .i64 2048)) fun v5=>brB (some v5)
 (Q (.bool true) G2)
 (wv (af T G2 ak (.ptr i1 [4] 4)) fun v6=>wv (gF T G2 ak v6) fun v7=>wv (af T G2 au (.ptr i1 [11,0] 13)) fun v8=>wv (aw T .sub au v7 v8) fun v9=>wv (aw T .geq au v9 (.int .i64 512)) fun v10=>Q v10 G2)
def cS.an:Ann:=.nil
set_option maxRecDepth 100000 in
theorem cS.sound {a0:ag} {G:ah} {Q:ag -> ah -> Prop} (h:cS.S a0 G Q):al P cS.n [a0] G Q:=by
 have e:cS.S a0 G Q = awp cx (cS.body) cS.an (bK T [.tmp 2] Q) (dN [a0]) G:=by kernel_rfl
 exact ay dO (f:=cS.n) (fn:=Tryz.f149) (c:=cS.body) (an:=cS.an) Tryz.func149 (by kernel_rfl) (by kernel_rfl) (by kernel_rfl) (aF (by kernel_rfl) (by kernel_rfl)) (by simp [Tryz.f149]) (e ▸ h)
def eM.S (a0:ag) (G:ah) (Q:ag -> ah -> Prop):Prop :=
 ∀ R1:List ag -> ah -> Prop,
 (∀ (x3 x4 x5:ag) (G2:ah),(wv (gF T G2 ak x3) fun v6=>wv (aw T .lss au x5 v6) fun v7=>brB (some v7)
 (wv (aL T ak x3 x5) fun v8=>wv (bx T aI v8 0) fun v9=>wv (af T G2 au v9) fun v10=>wv (aw T .eql au v10 (.int .i64 1)) fun v11=>brB (some v11)
 (wv (aw T .add ai x4 (.int .i64 1)) fun v12=>wv (aw T .add au x5 (.int .i64 1)) fun v18=>R1 [x3,v12,v18] G2)
 (wv (aw T .add au x5 (.int .i64 1)) fun v19=>R1 [x3,x4,v19] G2))
 (Q x4 G2)) -> R1 [x3,x4,x5] G2) ->
 R1 [a0,.int .i64 0,.int .i64 0] G
def eM.an:Ann:=.two (.nil) (.two (.nil) (.two (.two (.nil) (.loop [0,3,4] [false,false,false] (.nil))) (.nil)))
set_option maxRecDepth 100000 in
theorem eM.sound {a0:ag} {G:ah} {Q:ag -> ah -> Prop} (h:eM.S a0 G Q):al P eM.n [a0] G Q:=by
 have e:eM.S a0 G Q = awp cx (eM.body) eM.an (bK T [.tmp 2] Q) (dN [a0]) G:=by kernel_rfl
 exact ay dO (f:=eM.n) (fn:=Tryz.f151) (c:=eM.body) (an:=eM.an) Tryz.func151 (by kernel_rfl) (by kernel_rfl) (by kernel_rfl) (aF (by kernel_rfl) (by kernel_rfl)) (by simp [Tryz.f151]) (e ▸ h)
def dS.S (a0 a1 a2:ag) (G:ah) (Q:ag -> ah -> Prop):Prop :=
 br G (.own (a0)) fun i1 G2=>br G2 (.own (a2)) fun i3 G4=>br G4 (.own (iY)) fun i5 G6=>wv (af T G6 aJ (.ptr i1 [] 0)) fun v7=>al P bP.n [v7] G6 fun v8 G9=>brB (some v8)
 (wv (bk T aD []) fun v10=>wg (ax T G9 aD (.ptr i5 [] 0) v10) fun G11=>wv (af T G11 aD (.ptr i5 [] 0)) fun v12=>Q (.tuple [v12,.int .i64 220]) G11)
 (let J47:ag -> ah -> Prop:=(fun x16 G15=>brB (some x16)
 (wv (bk T aD []) fun v17=>wg (ax T G15 aD (.ptr i5 [] 0) v17) fun G18=>wv (af T G18 aD (.ptr i5 [] 0)) fun v19=>Q (.tuple [v19,.int .i64 80]) G18)
 (wv (af T G15 aJ (.ptr i1 [] 0)) fun v20=>al P cS.n [v20] G15 fun v21 G22=>brB (some v21)
 (wv (bk T aD []) fun v23=>wg (ax T G22 aD (.ptr i5 [] 0) v23) fun G24=>wv (af T G24 aD (.ptr i5 [] 0)) fun v25=>Q (.tuple [v25,.int .i64 6]) G24)
 (wv (af T G22 ak (.ptr i1 [4] 4)) fun v26=>wv (af T G22 ak (.ptr i1 [5] 5)) fun v27=>wv (af T G22 aJ (.ptr i1 [] 0)) fun v28=>al P bV.n [v28] G22 fun v29 G30=>(af T G30 ak (.ptr i1 [5] 5) = some v27 /\ af T G30 ak (.ptr i1 [4] 4) = some v26 /\ True) /\ (wv (ye T bG v29 1) fun v31=>al P bB.n [v27,v31] G30 fun v32 G33=>(af T G33 ak (.ptr i1 [4] 4) = some v26 /\ True) /\ (al P dE.n [v26,v32] G33 fun v34 G35=>wv (aw T .geq au v34 (.int .i64 483)) fun v36=>brB (some v36)
 (wv (bk T aD []) fun v37=>wg (ax T G35 aD (.ptr i5 [] 0) v37) fun G38=>wv (af T G38 aD (.ptr i5 [] 0)) fun v39=>Q (.tuple [v39,.int .i64 131]) G38)
 (wv (af T G35 aJ (.ptr i1 [] 0)) fun v40=>al P cr.n [v40] G35 fun v41 G42=>wv (aw T .gtr ai a1 v41) fun v43=>brB (some v43)
 (wv (bk T aD []) fun v44=>wg (ax T G42 aD (.ptr i5 [] 0) v44) fun G45=>wv (af T G45 aD (.ptr i5 [] 0)) fun v46=>Q (.tuple [v46,.int .i64 130]) G45)
 (wv (af T G42 ak (.ptr i1 [4] 4)) fun v48=>wv (af T G42 aj (.ptr i3 [] 0)) fun v49=>al P eM.n [v48] G42 fun v50 G51=>(af T G51 aj (.ptr i3 [] 0) = some v49 /\ True) /\ (wv (bk T aI [(0,.int .i64 1),(1,v50),(2,a1),(3,v49)]) fun v52=>wv (bk T aD [(0,.int .i64 1),(1,v52)]) fun v53=>wg (ax T G51 aD (.ptr i5 [] 0) v53) fun G54=>wv (af T G54 aD (.ptr i5 [] 0)) fun v55=>Q (.tuple [v55,.int .i64 0]) G54))))))));
 wv (aw T .lss ai a1 (.int .i64 1)) fun v13=>brB (some v13)
 (J47 (.bool true) G9)
 (wv (aw T .gtr ai a1 (.int .i64 1152921504606846976)) fun v14=>J47 v14 G9))
def dS.an:Ann:=.two (.nil) (.two (.two (.nil) (.two (.nil) (.two (.nil) (.two (.nil) (.two (.nil) (.two (.nil) (.two (.ord [(0,[]),(1,[]),(2,[]),(3,[]),(4,[]),(5,[1,3]),(6,[]),(7,[1]),(8,[]),(9,[]),(10,[])]) (.nil)))))))) (.two (.ord [(0,[]),(1,[]),(3,[]),(4,[]),(2,[4]),(5,[]),(6,[]),(7,[]),(8,[])]) (.nil)))
set_option maxRecDepth 100000 in
theorem dS.sound {a0 a1 a2:ag} {G:ah} {Q:ag -> ah -> Prop} (h:dS.S a0 a1 a2 G Q):al P dS.n [a0,a1,a2] G Q:=by
 have e:dS.S a0 a1 a2 G Q = awp cx (dS.body) dS.an (bK T [.cell 6 78,.tmp 7] Q) (dN [a0,a1,a2]) G:=by kernel_rfl
 exact ay dO (f:=dS.n) (fn:=Tryz.f87) (c:=dS.body) (an:=dS.an) Tryz.func87 (by kernel_rfl) (by kernel_rfl) (by kernel_rfl) (aF (by kernel_rfl) (by kernel_rfl)) (by simp [Tryz.f87]) (e ▸ h)
def b7.S (a0 a1:ag) (G:ah) (Q:ag -> ah -> Prop):Prop :=
 br G (.own (a0)) fun i1 G2=>br G2 (.own (gy)) fun i3 G4=>wv (af T G4 ak (.ptr i1 [5] 5)) fun v5=>wv (af T G4 aJ (.ptr i1 [] 0)) fun v6=>al P bV.n [v6] G4 fun v7 G8=>(af T G8 ak (.ptr i1 [5] 5) = some v5 /\ True) /\ (wv (ye T bG v7 1) fun v9=>al P bB.n [v5,v9] G8 fun v10 G11=>al P dF.n [v10,a1] G11 fun v12 G13=>wv (aW v12 0) fun v14=>wv (aW v12 1) fun v15=>br G13 (.own (gy)) fun i16 G17=>wg (ax T G17 aI (.ptr i16 [] 0) v14) fun G18=>wv (af T G18 aI (.ptr i16 [] 0)) fun v19=>brB (some v15)
 (wv (af T G18 ak (.ptr i1 [4] 4)) fun v20=>al P bQ.n [v20,a1,.int .i64 0] G18 fun v21 G22=>(af T G22 aI (.ptr i16 [] 0) = some v19 /\ True) /\ (wv (vun .not v21) fun v23=>wg (ax T G22 aI (.ptr i3 [] 0) v19) fun G24=>wv (af T G24 aI (.ptr i3 [] 0)) fun v29=>Q (.tuple [v29,v23]) G24))
 (wg (ax T G18 aI (.ptr i3 [] 0) v19) fun G25=>wv (af T G25 aI (.ptr i3 [] 0)) fun v30=>Q (.tuple [v30,.bool false]) G25))
def b7.an:Ann:=.two (.nil) (.two (.ord [(0,[]),(1,[]),(2,[]),(6,[]),(3,[1]),(4,[]),(5,[]),(7,[]),(8,[]),(9,[]),(10,[]),(11,[]),(12,[]),(13,[])]) (.two (.ord [(0,[]),(1,[]),(2,[]),(3,[]),(4,[]),(5,[]),(6,[0]),(7,[]),(8,[]),(9,[]),(10,[])]) (.nil)))
set_option maxRecDepth 100000 in
theorem b7.sound {a0 a1:ag} {G:ah} {Q:ag -> ah -> Prop} (h:b7.S a0 a1 G Q):al P b7.n [a0,a1] G Q:=by
 have e:b7.S a0 a1 G Q = awp cx (b7.body) b7.an (bK T [.cell 4 76,.tmp 5] Q) (dN [a0,a1]) G:=by kernel_rfl
 exact ay dO (f:=b7.n) (fn:=Tryz.f152) (c:=b7.body) (an:=b7.an) Tryz.func152 (by kernel_rfl) (by kernel_rfl) (by kernel_rfl) (aF (by kernel_rfl) (by kernel_rfl)) (by simp [Tryz.f152]) (e ▸ h)
def dp.S (a0 a1 a2:ag) (G:ah) (Q:ag -> ah -> Prop):Prop :=
 br G (.own (a0)) fun i1 G2=>br G2 (.own (a2)) fun i3 G4=>br G4 (.own (iY)) fun i5 G6=>wv (af T G6 aJ (.ptr i1 [] 0)) fun v7=>al P bP.n [v7] G6 fun v8 G9=>brB (some v8)
 (wv (bk T aD []) fun v10=>wg (ax T G9 aD (.ptr i5 [] 0) v10) fun G11=>wv (af T G11 aD (.ptr i5 [] 0)) fun v12=>Q (.tuple [v12,.int .i64 220]) G11)
 (wv (af T G9 aJ (.ptr i1 [] 0)) fun v13=>al P b7.n [v13,a1] G9 fun v14 G15=>wv (aW v14 0) fun v16=>wv (aW v14 1) fun v17=>br G15 (.own (gy)) fun i18 G19=>wg (ax T G19 aI (.ptr i18 [] 0) v16) fun G20=>let J44:ag -> ah -> Prop:=(fun x29 G28=>brB (some x29)
 (wv (bk T aD []) fun v30=>wg (ax T G28 aD (.ptr i5 [] 0) v30) fun G31=>wv (af T G31 aD (.ptr i5 [] 0)) fun v32=>Q (.tuple [v32,.int .i64 120]) G31)
 (wv (af T G28 aJ (.ptr i1 [] 0)) fun v33=>al P cS.n [v33] G28 fun v34 G35=>brB (some v34)
 (wv (bk T aD []) fun v36=>wg (ax T G35 aD (.ptr i5 [] 0) v36) fun G37=>wv (af T G37 aD (.ptr i5 [] 0)) fun v38=>Q (.tuple [v38,.int .i64 6]) G37)
 (wv (af T G35 aj (.ptr i3 [] 0)) fun v39=>wv (bk T aI [(0,.int .i64 2),(1,a1),(3,v39)]) fun v40=>wv (bk T aD [(0,.int .i64 1),(1,v40)]) fun v41=>wg (ax T G35 aD (.ptr i5 [] 0) v41) fun G42=>wv (af T G42 aD (.ptr i5 [] 0)) fun v43=>Q (.tuple [v43,.int .i64 0]) G42)));
 wv (vun .not v17) fun v21=>brB (some v21)
 (J44 (.bool true) G20)
 (wv (fj T aj (.ptr i3 [] 0) none none none) fun v22=>wv (gi T G20 aP bH v22) fun v23=>wv (af T G20 aj (.ptr i18 [3] 3)) fun v24=>al P cK.n [v23] G20 fun v25 G26=>(af T G26 aj (.ptr i18 [3] 3) = some v24 /\ True) /\ (wv (aw T .neq aj v25 v24) fun v27=>J44 v27 G26)))
def dp.an:Ann:=.two (.nil) (.two (.nil) (.two (.nil) (.two (.two (.ord [(0,[]),(1,[]),(2,[]),(3,[]),(4,[]),(6,[]),(7,[]),(5,[7]),(8,[]),(9,[])]) (.nil)) (.nil))))
set_option maxRecDepth 100000 in
theorem dp.sound {a0 a1 a2:ag} {G:ah} {Q:ag -> ah -> Prop} (h:dp.S a0 a1 a2 G Q):al P dp.n [a0,a1,a2] G Q:=by
 have e:dp.S a0 a1 a2 G Q = awp cx (dp.body) dp.an (bK T [.cell 6 78,.tmp 7] Q) (dN [a0,a1,a2]) G:=by kernel_rfl
 exact ay dO (f:=dp.n) (fn:=Tryz.f88) (c:=dp.body) (an:=dp.an) Tryz.func88 (by kernel_rfl) (by kernel_rfl) (by kernel_rfl) (aF (by kernel_rfl) (by kernel_rfl)) (by simp [Tryz.f88]) (e ▸ h)
def dr.S (a0 a1 a2:ag) (G:ah) (Q:ag -> ah -> Prop):Prop :=
 br G (.own (a0)) fun i1 G2=>br G2 (.own (iY)) fun i3 G4=>wv (af T G4 aJ (.ptr i1 [] 0)) fun v5=>al P bP.n [v5] G4 fun v6 G7=>brB (some v6)
 (wv (bk T aD []) fun v8=>wg (ax T G7 aD (.ptr i3 [] 0) v8) fun G9=>wv (af T G9 aD (.ptr i3 [] 0)) fun v10=>Q (.tuple [v10,.int .i64 220]) G9)
 (wv (af T G7 aJ (.ptr i1 [] 0)) fun v11=>al P b7.n [v11,a1] G7 fun v12 G13=>wv (aW v12 0) fun v14=>wv (aW v12 1) fun v15=>br G13 (.own (gy)) fun i16 G17=>wg (ax T G17 aI (.ptr i16 [] 0) v14) fun G18=>let J37:ag -> ah -> Prop:=(fun x23 G22=>brB (some x23)
 (wv (bk T aD []) fun v24=>wg (ax T G22 aD (.ptr i3 [] 0) v24) fun G25=>wv (af T G25 aD (.ptr i3 [] 0)) fun v26=>Q (.tuple [v26,.int .i64 120]) G25)
 (wv (af T G22 aJ (.ptr i1 [] 0)) fun v27=>al P cS.n [v27] G22 fun v28 G29=>brB (some v28)
 (wv (bk T aD []) fun v30=>wg (ax T G29 aD (.ptr i3 [] 0) v30) fun G31=>wv (af T G31 aD (.ptr i3 [] 0)) fun v32=>Q (.tuple [v32,.int .i64 6]) G31)
 (wv (bk T aI [(0,.int .i64 3),(1,a1),(4,a2)]) fun v33=>wv (bk T aD [(0,.int .i64 1),(1,v33)]) fun v34=>wg (ax T G29 aD (.ptr i3 [] 0) v34) fun G35=>wv (af T G35 aD (.ptr i3 [] 0)) fun v36=>Q (.tuple [v36,.int .i64 0]) G35)));
 wv (vun .not v15) fun v19=>brB (some v19)
 (J37 (.bool true) G18)
 (wv (gF T G18 bH a2) fun v20=>wv (aw T .gtr au v20 (.int .i64 64)) fun v21=>J37 v21 G18))
def dr.an:Ann:=.nil
set_option maxRecDepth 100000 in
theorem dr.sound {a0 a1 a2:ag} {G:ah} {Q:ag -> ah -> Prop} (h:dr.S a0 a1 a2 G Q):al P dr.n [a0,a1,a2] G Q:=by
 have e:dr.S a0 a1 a2 G Q = awp cx (dr.body) dr.an (bK T [.cell 6 78,.tmp 7] Q) (dN [a0,a1,a2]) G:=by kernel_rfl
 exact ay dO (f:=dr.n) (fn:=Tryz.f89) (c:=dr.body) (an:=dr.an) Tryz.func89 (by kernel_rfl) (by kernel_rfl) (by kernel_rfl) (aF (by kernel_rfl) (by kernel_rfl)) (by simp [Tryz.f89]) (e ▸ h)
def eN.S (a0 a1:ag) (G:ah) (Q:ag -> ah -> Prop):Prop :=
 br G (.own (a0)) fun i1 G2=>br G2 (.own (a1)) fun i3 G4=>br G4 (.own (iY)) fun i5 G6=>wv (af T G6 ak (.ptr i3 [4] 4)) fun v7=>wv (gF T G6 ak v7) fun v8=>wv (af T G6 au (.ptr i3 [9,1] 10)) fun v9=>wv (bk T bG [(0,v8),(1,v9)]) fun v10=>br G6 (.own (kG)) fun i11 G12=>wg (ax T G12 bG (.ptr i11 [] 0) v10) fun G13=>wv (af T G13 aJ (.ptr i3 [] 0)) fun v14=>al P bP.n [v14] G13 fun v15 G16=>brB (some v15)
 (wv (bk T aD []) fun v17=>wg (ax T G16 aD (.ptr i5 [] 0) v17) fun G18=>wv (af T G18 aD (.ptr i5 [] 0)) fun v19=>Q (.tuple [v19,.int .i64 220]) G18)
 (let J36:ag -> ah -> Prop:=(fun x27 G26=>brB (some x27)
 (wv (bk T aD []) fun v28=>wg (ax T G26 aD (.ptr i5 [] 0) v28) fun G29=>wv (af T G29 aD (.ptr i5 [] 0)) fun v30=>Q (.tuple [v30,.int .i64 8]) G29)
 (wv (af T G26 ai (.ptr i3 [7] 7)) fun v31=>wv (aw T .gtr ai v31 (.int .i64 281474976710653)) fun v32=>brB (some v32)
 (wv (bk T aD []) fun v33=>wg (ax T G26 aD (.ptr i5 [] 0) v33) fun G34=>wv (af T G34 aD (.ptr i5 [] 0)) fun v35=>Q (.tuple [v35,.int .i64 90]) G34)
 (wv (af T G26 ai (.ptr i3 [7] 7)) fun v37=>wv (aw T .add ai v37 (.int .i64 1)) fun v38=>wv (af T G26 bG (.ptr i11 [] 0)) fun v39=>wv (bk T aD [(0,.int .i64 2),(3,v38),(4,v39)]) fun v40=>wg (ax T G26 aD (.ptr i5 [] 0) v40) fun G41=>wv (af T G41 aD (.ptr i5 [] 0)) fun v42=>Q (.tuple [v42,.int .i64 0]) G41)));
 wv (af T G16 ai (.ptr i3 [7] 7)) fun v20=>wv (af T G16 ai (.ptr i3 [8] 8)) fun v21=>wv (aw T .neq ai v20 v21) fun v22=>brB (some v22)
 (J36 (.bool true) G16)
 (wv (af T G16 bG (.ptr i11 [] 0)) fun v23=>wv (af T G16 bG (.ptr i3 [10] 11)) fun v24=>wv (aw T .eql bG v23 v24) fun v25=>J36 v25 G16))
def eN.an:Ann:=.nil
set_option maxRecDepth 100000 in
theorem eN.sound {a0 a1:ag} {G:ah} {Q:ag -> ah -> Prop} (h:eN.S a0 a1 G Q):al P eN.n [a0,a1] G Q:=by
 have e:eN.S a0 a1 G Q = awp cx (eN.body) eN.an (bK T [.cell 4 78,.tmp 5] Q) (dN [a0,a1]) G:=by kernel_rfl
 exact ay dO (f:=eN.n) (fn:=Tryz.f90) (c:=eN.body) (an:=eN.an) Tryz.func90 (by kernel_rfl) (by kernel_rfl) (by kernel_rfl) (aF (by kernel_rfl) (by kernel_rfl)) (by simp [Tryz.f90]) (e ▸ h)
def eW.S (a0 a1 a2:ag) (G:ah) (Q:ag -> ah -> Prop):Prop :=
 br G (.own (a0)) fun i1 G2=>br G2 (.own (a1)) fun i3 G4=>br G4 (.own (a2)) fun i5 G6=>br G6 (.own (iY)) fun i7 G8=>wv (af T G8 au (.ptr i5 [0] 0)) fun v9=>wv (aw T .eql au v9 (.int .i64 1)) fun v10=>brB (some v10)
 (wv (af T G8 aJ (.ptr i3 [] 0)) fun v11=>wv (af T G8 ai (.ptr i5 [2] 2)) fun v12=>wv (af T G8 aj (.ptr i5 [4] 4)) fun v13=>al P dS.n [v11,v12,v13] G8 fun v14 G15=>wv (aW v14 0) fun v16=>wv (aW v14 1) fun v17=>wg (ax T G15 aD (.ptr i7 [] 0) v16) fun G18=>wv (af T G18 aD (.ptr i7 [] 0)) fun v19=>Q (.tuple [v19,v17]) G18)
 (wv (aw T .eql au v9 (.int .i64 2)) fun v20=>brB (some v20)
 (wv (af T G8 aJ (.ptr i3 [] 0)) fun v21=>wv (af T G8 ai (.ptr i5 [3] 3)) fun v22=>wv (af T G8 aj (.ptr i5 [4] 4)) fun v23=>al P dp.n [v21,v22,v23] G8 fun v24 G25=>wv (aW v24 0) fun v26=>wv (aW v24 1) fun v27=>wg (ax T G25 aD (.ptr i7 [] 0) v26) fun G28=>wv (af T G28 aD (.ptr i7 [] 0)) fun v29=>Q (.tuple [v29,v27]) G28)
 (wv (aw T .eql au v9 (.int .i64 3)) fun v30=>brB (some v30)
 (wv (af T G8 aJ (.ptr i3 [] 0)) fun v31=>wv (af T G8 ai (.ptr i5 [3] 3)) fun v32=>wv (af T G8 bH (.ptr i5 [5] 36)) fun v33=>al P dr.n [v31,v32,v33] G8 fun v34 G35=>wv (aW v34 0) fun v36=>wv (aW v34 1) fun v37=>wg (ax T G35 aD (.ptr i7 [] 0) v36) fun G38=>wv (af T G38 aD (.ptr i7 [] 0)) fun v39=>Q (.tuple [v39,v37]) G38)
 (wv (aw T .eql au v9 (.int .i64 4)) fun v40=>brB (some v40)
 (wv (af T G8 cl (.ptr i1 [] 0)) fun v41=>wv (af T G8 aJ (.ptr i3 [] 0)) fun v42=>al P eN.n [v41,v42] G8 fun v43 G44=>wv (aW v43 0) fun v45=>wv (aW v43 1) fun v46=>wg (ax T G44 aD (.ptr i7 [] 0) v45) fun G47=>wv (af T G47 aD (.ptr i7 [] 0)) fun v48=>Q (.tuple [v48,v46]) G47)
 (wv (bk T aD []) fun v49=>wg (ax T G8 aD (.ptr i7 [] 0) v49) fun G50=>wv (af T G50 aD (.ptr i7 [] 0)) fun v51=>Q (.tuple [v51,.int .i64 1]) G50))))
def eW.an:Ann:=.nil
set_option maxRecDepth 100000 in
theorem eW.sound {a0 a1 a2:ag} {G:ah} {Q:ag -> ah -> Prop} (h:eW.S a0 a1 a2 G Q):al P eW.n [a0,a1,a2] G Q:=by
 have e:eW.S a0 a1 a2 G Q = awp cx (eW.body) eW.an (bK T [.cell 6 78,.tmp 7] Q) (dN [a0,a1,a2]) G:=by kernel_rfl
 exact ay dO (f:=eW.n) (fn:=Tryz.f48) (c:=eW.body) (an:=eW.an) Tryz.func48 (by kernel_rfl) (by kernel_rfl) (by kernel_rfl) (aF (by kernel_rfl) (by kernel_rfl)) (by simp [Tryz.f48]) (e ▸ h)
def eU.S (a0 a1:ag) (G:ah) (Q:ag -> ah -> Prop):Prop :=
 br G (.own (a1)) fun i1 G2=>wv (af T G2 ey (.ptr i1 [1] 1)) fun v3=>let J41:ag -> ah -> Prop:=(fun x5 G4=>wv (af T G4 au (.ptr i1 [0] 0)) fun v6=>wv (aw T .eql au v6 (.int .i64 5)) fun v7=>brB (some v7)
 (wv (bk T gJ []) fun v8=>al P b9.n [a0,x5,v8] G4 fun v9 G10=>wv (aW v9 0) fun v11=>wv (aW v9 1) fun v12=>br G10 (.own (gE)) fun i13 G14=>wg (ax T G14 aG (.ptr i13 [] 0) v11) fun G15=>brB (some v12)
 (wv (af T G15 aG (.ptr i13 [] 0)) fun v16=>al P ee.n [a0,x5,v16] G15 fun v17 G18=>Q (.tuple []) G18)
 (Q (.tuple []) G15))
 (wv (kH a0) fun v20=>wv (bx T bw v20 0) fun v21=>wv (aL T fD v21 x5) fun v22=>wv (af T G4 cl v22) fun v23=>wv (kH a0) fun v24=>wv (bx T bw v24 1) fun v25=>wv (aL T gY v25 x5) fun v26=>wv (af T G4 aJ v26) fun v27=>wv (af T G4 gJ (.ptr i1 [] 0)) fun v28=>al P eW.n [v23,v27,v28] G4 fun v29 G30=>wv (aW v29 0) fun v31=>wv (aW v29 1) fun v32=>br G30 (.own (iY)) fun i33 G34=>wg (ax T G34 aD (.ptr i33 [] 0) v31) fun G35=>wv (aw T .eql bq v32 (.int .i64 0)) fun v36=>brB (some v36)
 (wv (af T G35 aD (.ptr i33 [] 0)) fun v37=>al P bO.n [a0,x5,v37] G35 fun v38 G39=>Q (.tuple []) G39)
 (Q (.tuple []) G35)));
 brB (some v3)
 (J41 (.int .i64 1) G2)
 (J41 (.int .i64 0) G2)
def eU.an:Ann:=.two (.nil) (.two (.nil) (.two (.nil) (.two (.nil) (.two (.ord [(0,[]),(1,[]),(2,[]),(3,[]),(4,[]),(5,[]),(6,[]),(7,[]),(8,[]),(9,[]),(10,[]),(11,[]),(12,[]),(13,[]),(14,[]),(15,[]),(16,[]),(17,[]),(18,[]),(19,[])]) (.nil)))))
set_option maxRecDepth 100000 in
theorem eU.sound {a0 a1:ag} {G:ah} {Q:ag -> ah -> Prop} (h:eU.S a0 a1 G Q):al P eU.n [a0,a1] G Q:=by
 have e:eU.S a0 a1 G Q = awp cx (eU.body) eU.an (bK T [] Q) (dN [a0,a1]) G:=by kernel_rfl
 exact ay dO (f:=eU.n) (fn:=Tryz.f18) (c:=eU.body) (an:=eU.an) Tryz.func18 (by kernel_rfl) (by kernel_rfl) (by kernel_rfl) (aF (by kernel_rfl) (by kernel_rfl)) (by simp [Tryz.f18]) (e ▸ h)
end Go.Esc.M
