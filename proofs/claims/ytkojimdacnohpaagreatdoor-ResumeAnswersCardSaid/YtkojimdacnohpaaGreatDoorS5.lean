import Derived.Test.YtkojimdacnohpaaGreatDoorT
set_option linter.unusedSimpArgs false
set_option linter.unusedVariables false
set_option maxRecDepth 100000
namespace Go.Esc.M
open Go Go.Esc Go.Proofs
def dJ.S (a0 a1 a2:ag) (G:ah) (Q:ag -> ah -> Prop):Prop :=
 br G (.own (a2)) fun i1 G2=>wv (gF T G2 ak a0) fun v3=>wv (aw T .geq au v3 (.int .i64 2048)) fun v4=>brB (some v4)
 (Q (.int .i64 6) G2)
 (wv (lq T G2 aI (.ptr i1 [] 0)) fun v5=>al P cy.n [v5] G2 fun v6 G7=>wv (vun .not v6) fun v8=>brB (some v8)
 (Q (.int .i64 120) G7)
 (wv (lq T G7 au (.ptr i1 [0] 0)) fun v9=>wv (aw T .eql au v9 (.int .i64 1)) fun v10=>brB (some v10)
 (wv (lq T G7 me (.ptr i1 [1] 1)) fun v11=>al P eT.n [a0] G7 fun v12 G13=>(lq T G13 me (.ptr i1 [1] 1) = some v11 /\ True) /\ (wv (aw T .neq me v11 v12) fun v14=>brB (some v14)
 (Q (.int .i64 120) G13)
 (Q (.int .i64 0) G13)))
 (wv (lq T G7 me (.ptr i1 [1] 1)) fun v15=>al P eR.n [a1,v15] G7 fun v16 G17=>wv (aW v16 0) fun v18=>wv (aW v16 1) fun v19=>br G17 (.own (gy)) fun i20 G21=>wg (ax T G21 aI (.ptr i20 [] 0) v18) fun G22=>wv (lq T G22 me (.ptr i1 [1] 1)) fun v23=>al P cP.n [a0,v23] G22 fun v24 G25=>wv (aW v24 0) fun v26=>wv (aW v24 1) fun v27=>br G25 (.own (gy)) fun i28 G29=>wg (ax T G29 aI (.ptr i28 [] 0) v26) fun G30=>let J46:ag -> ah -> Prop:=(fun x33 G32=>brB (some x33)
 (Q (.int .i64 120) G32)
 (wv (lq T G32 au (.ptr i1 [0] 0)) fun v34=>wv (aw T .eql au v34 (.int .i64 2)) fun v35=>brB (some v35)
 (wv (fj T aj (.ptr i1 [3] 3) none none none) fun v36=>wv (gi T G32 aP bH v36) fun v37=>wv (lq T G32 aj (.ptr i20 [3] 3)) fun v38=>bh T im 1 [(0,v37)] G32 fun v39 G40=>al P eI.n [v39] G40 fun v41 G42=>(lq T G42 aj (.ptr i20 [3] 3) = some v38 /\ True) /\ (wv (aw T .neq aj v41 v38) fun v43=>brB (some v43)
 (Q (.int .i64 120) G42)
 (Q (.int .i64 0) G42)))
 (Q (.int .i64 0) G32)));
 wv (vun .not v19) fun v31=>brB (some v31)
 (J46 (.bool true) G30)
 (J46 v27 G30))))
def dJ.an:Ann:=.two (.nil) (.two (.nil) (.two (.nil) (.two (.two (.nil) (.two (.two (.two (.ord [(0,[]),(1,[]),(2,[]),(3,[1]),(4,[])]) (.nil)) (.nil)) (.nil))) (.two (.nil) (.two (.nil) (.two (.nil) (.two (.two (.ord [(0,[]),(1,[]),(2,[]),(3,[]),(4,[]),(5,[]),(6,[]),(9,[]),(10,[]),(7,[]),(8,[10]),(11,[]),(12,[])]) (.nil)) (.nil))))))))
theorem dJ.sound {a0 a1 a2:ag} {G:ah} {Q:ag -> ah -> Prop} (h:dJ.S a0 a1 a2 G Q):al P dJ.n [a0,a1,a2] G Q:=by
 have e:dJ.S a0 a1 a2 G Q = awp cx (dJ.body) dJ.an (bK T [.tmp 6] Q) (dN [a0,a1,a2]) G:=by kernel_rfl
 refine ay dO (f:=dJ.n) (fn:=Tryz.f167) (c:=dJ.body) (an:=dJ.an) Tryz.func167 ?_ ?_ ?_ (aF ?_ ?_) (by simp [Tryz.f167]) (e ▸ h) <;> kernel_rfl
def c0.S (a0 a1 a2:ag) (G:ah) (Q:ag -> ah -> Prop):Prop :=
 cc T G ak ak (.nilSlice) a0 fun v1 G2=>∀ R3:List ag -> ah -> Prop,
 (∀ (x5 x6 x7 x8:ag) (G4:ah),(wv (gF T G4 ak x6) fun v9=>wv (aw T .lss au x8 v9) fun v10=>brB (some v10)
 (wv (aL T ak x6 x8) fun v11=>wv (lq T G4 aI v11) fun v12=>al P dJ.n [x7,x5,v12] G4 fun v13 G14=>wv (aw T .neq bq v13 (.int .i64 0)) fun v15=>brB (some v15)
 (Q (.tuple [.nilSlice,.bool false]) G14)
 (wv (aL T ak x6 x8) fun v16=>wv (lq T G14 aI v16) fun v17=>bh T ak 1 [(0,v17)] G14 fun v18 G19=>cc T G19 ak ak x7 v18 fun v20 G21=>wv (aw T .add au x8 (.int .i64 1)) fun v22=>R3 [x5,x6,v20,v22] G21))
 (Q (.tuple [x7,.bool true]) G4)) -> R3 [x5,x6,x7,x8] G4) ->
 R3 [a1,a2,v1,.int .i64 0] G2
def c0.an:Ann:=.two (.nil) (.two (.nil) (.two (.two (.nil) (.loop [1,2,8,9] [false,false,false,false] (.nil))) (.nil)))
theorem c0.sound {a0 a1 a2:ag} {G:ah} {Q:ag -> ah -> Prop} (h:c0.S a0 a1 a2 G Q):al P c0.n [a0,a1,a2] G Q:=by
 have e:c0.S a0 a1 a2 G Q = awp cx (c0.body) c0.an (bK T [.tmp 6,.tmp 7] Q) (dN [a0,a1,a2]) G:=by kernel_rfl
 refine ay dO (f:=c0.n) (fn:=Tryz.f128) (c:=c0.body) (an:=c0.an) Tryz.func128 ?_ ?_ ?_ (aF ?_ ?_) (by simp [Tryz.f128]) (e ▸ h) <;> kernel_rfl
def dY.S (a0:ag) (G:ah) (Q:ag -> ah -> Prop):Prop :=
 al P cw.n [a0] G fun v1 G2=>wv (vun .not v1) fun v3=>brB (some v3)
 (Q (.tuple [.int .i64 0,.int .i64 90]) G2)
 (al P cj.n [a0] G2 fun v4 G5=>al P dd.n [v4] G5 fun v6 G7=>Q (.tuple [v6,.int .i64 0]) G7)
def dY.an:Ann:=.nil
theorem dY.sound {a0:ag} {G:ah} {Q:ag -> ah -> Prop} (h:dY.S a0 G Q):al P dY.n [a0] G Q:=by
 have e:dY.S a0 G Q = awp cx (dY.body) dY.an (bK T [.tmp 2,.tmp 3] Q) (dN [a0]) G:=by kernel_rfl
 refine ay dO (f:=dY.n) (fn:=Tryz.f184) (c:=dY.body) (an:=dY.an) Tryz.func184 ?_ ?_ ?_ (aF ?_ ?_) (by simp [Tryz.f184]) (e ▸ h) <;> kernel_rfl
def eH.S (a0 a1 a2:ag) (G:ah) (Q:ag -> ah -> Prop):Prop :=
 br G (.own (a2)) fun i1 G2=>al P dX.n [a0,a1] G2 fun v3 G4=>wv (aw T .neq bq v3 (.int .i64 0)) fun v5=>brB (some v5)
 (Q (.tuple [.nilSlice,v3]) G4)
 (al P dY.n [a1] G4 fun v6 G7=>wv (aW v6 0) fun v8=>wv (aW v6 1) fun v9=>∀ R10:List ag -> ah -> Prop,
 (∀ (x12 x13 x14 x15 x16 x17:ag) (G11:ah),(wv (aw T .lss au x17 (.int .i64 49)) fun v18=>brB (some v18)
 (al P fM.n [x12,x17] G11 fun v19 G20=>br G20 (.own (pe)) fun i21 G22=>wg (ax T G22 ff (.ptr i21 [] 0) v19) fun G23=>let J65:ag -> ah -> Prop:=(fun x27 G26=>let J64:ah -> Prop:=(fun G43=>wv (aw T .eql au x17 x15) fun v44=>brB (some v44)
 (wv (lq T G43 aj x14) fun v45=>wv (bk T ff [(0,x13),(1,v45),(2,.bool true)]) fun v46=>wg (ax T G43 ff (.ptr i21 [] 0) v46) fun G47=>wv (lq T G47 ff (.ptr i21 [] 0)) fun v54=>bh T bu 1 [(0,v54)] G47 fun v55 G56=>cc T G56 bu bu x16 v55 fun v57 G58=>wv (aw T .add au x17 (.int .i64 1)) fun v69=>R10 [x12,x13,x14,x15,v57,v69] G58)
 (wv (lq T G43 ff (.ptr i21 [] 0)) fun v59=>bh T bu 1 [(0,v59)] G43 fun v60 G61=>cc T G61 bu bu x16 v60 fun v62 G63=>wv (aw T .add au x17 (.int .i64 1)) fun v70=>R10 [x12,x13,x14,x15,v62,v70] G63));
 brB (some x27)
 (wv (lq T G26 aj x14) fun v28=>wv (lq T G26 me (.ptr i21 [0] 0)) fun v29=>al P du.n [v28,x13,v29] G26 fun v30 G31=>wv (aW v30 0) fun v32=>wv (aW v30 1) fun v33=>br G31 (.own (cI)) fun i34 G35=>wg (ax T G35 aj (.ptr i34 [] 0) v32) fun G36=>wv (aw T .neq bq v33 (.int .i64 0)) fun v37=>brB (some v37)
 (Q (.tuple [.nilSlice,.int .i64 100]) G36)
 (wv (lq T G36 aj (.ptr i34 [] 0)) fun v38=>wv (lq T G36 aj (.ptr i21 [1] 1)) fun v39=>wv (aw T .neq aj v38 v39) fun v40=>brB (some v40)
 (Q (.tuple [.nilSlice,.int .i64 100]) G36)
 (J64 G36)))
 (J64 G26));
 wv (aw T .lss au x17 x15) fun v24=>brB (some v24)
 (wv (lq T G23 ey (.ptr i21 [2] 33)) fun v25=>J65 v25 G23)
 (J65 (.bool false) G23))
 (Q (.tuple [x16,.int .i64 0]) G11)) -> R10 [x12,x13,x14,x15,x16,x17] G11) ->
 R10 [a0,a1,.ptr i1 [] 0,v8,.nilSlice,.int .i64 0] G7)
def eH.an:Ann:=.two (.nil) (.two (.nil) (.two (.nil) (.two (.nil) (.two (.nil) (.two (.two (.nil) (.loop [0,1,5,9,11,12] [false,false,false,false,false,false] (.nil))) (.nil))))))
theorem eH.sound {a0 a1 a2:ag} {G:ah} {Q:ag -> ah -> Prop} (h:eH.S a0 a1 a2 G Q):al P eH.n [a0,a1,a2] G Q:=by
 have e:eH.S a0 a1 a2 G Q = awp cx (eH.body) eH.an (bK T [.tmp 6,.tmp 7] Q) (dN [a0,a1,a2]) G:=by kernel_rfl
 refine ay dO (f:=eH.n) (fn:=Tryz.f129) (c:=eH.body) (an:=eH.an) Tryz.func129 ?_ ?_ ?_ (aF ?_ ?_) (by simp [Tryz.f129]) (e ▸ h) <;> kernel_rfl
def cN.S (a0 a1:ag) (G:ah) (Q:ag -> ah -> Prop):Prop :=
 br G (.own (a0)) fun i1 G2=>br G2 (.own (a1)) fun i3 G4=>br G4 (.own (iT)) fun i5 G6=>wv (lq T G6 aJ (.ptr i1 [] 0)) fun v7=>al P fw.n [v7] G6 fun v8 G9=>br G9 (.own (iT)) fun i10 G11=>wg (ax T G11 aJ (.ptr i10 [] 0) v8) fun G12=>wv (lq T G12 ak (.ptr i1 [5] 5)) fun v13=>cc T G12 ak ak (.nilSlice) v13 fun v14 G15=>wg (ax T G15 ak (.ptr i10 [5] 5) v14) fun G16=>wv (lq T G16 au (.ptr i3 [0] 0)) fun v17=>wv (aw T .eql au v17 (.int .i64 1)) fun v18=>brB (some v18)
 (wv (lq T G16 ak (.ptr i1 [4] 4)) fun v19=>wv (lq T G16 ak (.ptr i1 [5] 5)) fun v20=>wv (lq T G16 aI (.ptr i3 [1] 1)) fun v21=>bh T ak 1 [(0,v21)] G16 fun v22 G23=>al P c0.n [v19,v20,v22] G23 fun v24 G25=>wv (aW v24 0) fun v26=>wv (aW v24 1) fun v27=>wg (ax T G25 ak (.ptr i10 [4] 4) v26) fun G28=>wv (lq T G28 aJ (.ptr i10 [] 0)) fun v29=>wg (ax T G28 aJ (.ptr i5 [] 0) v29) fun G30=>wv (lq T G30 aJ (.ptr i5 [] 0)) fun v31=>Q (.tuple [v31,v27]) G30)
 (wv (aw T .eql au v17 (.int .i64 2)) fun v32=>brB (some v32)
 (wv (lq T G16 me (.ptr i3 [3] 38)) fun v33=>wg (ax T G16 me (.ptr i10 [7] 7) v33) fun G34=>wv (lq T G34 bG (.ptr i3 [4] 39)) fun v35=>wg (ax T G34 bG (.ptr i10 [10] 11) v35) fun G36=>wg (ax T G36 ey (.ptr i10 [12] 15) (.bool true)) fun G37=>let J64:ag -> ah -> Prop:=(fun x62 G61=>wv (lq T G61 aJ (.ptr i5 [] 0)) fun v63=>Q (.tuple [v63,x62]) G61);
 wv (lq T G37 aJ (.ptr i10 [] 0)) fun v38=>wv (lq T G37 me (.ptr i1 [7] 7)) fun v39=>wv (lq T G37 me (.ptr i1 [8] 8)) fun v40=>wv (aw T .eql me v39 v40) fun v41=>brB (some v41)
 (wv (lq T G37 me (.ptr i3 [3] 38)) fun v42=>wv (lq T G37 me (.ptr i1 [7] 7)) fun v43=>wv (aw T .add me v43 (.int .i64 1)) fun v44=>wv (aw T .eql me v42 v44) fun v45=>brB (some v45)
 (wv (lq T G37 au (.ptr i3 [4,1] 40)) fun v46=>wv (lq T G37 au (.ptr i1 [9,1] 10)) fun v47=>wv (aw T .eql au v46 v47) fun v48=>brB (some v48)
 (wv (lq T G37 au (.ptr i3 [4,0] 39)) fun v49=>wv (lq T G37 au (.ptr i1 [10,0] 11)) fun v50=>wv (aw T .geq au v49 v50) fun v51=>brB (some v51)
 (wv (lq T G37 au (.ptr i3 [4,0] 39)) fun v52=>wv (lq T G37 ak (.ptr i1 [4] 4)) fun v53=>wv (gF T G37 ak v53) fun v54=>wv (aw T .leq au v52 v54) fun v55=>wg (ax T G37 aJ (.ptr i5 [] 0) v38) fun G56=>(lq T G56 ak (.ptr i1 [4] 4) = some v53 /\ lq T G56 au (.ptr i3 [4,0] 39) = some v52 /\ True) /\ (J64 v55 G56))
 (wg (ax T G37 aJ (.ptr i5 [] 0) v38) fun G57=>(True) /\ (J64 (.bool false) G57)))
 (wg (ax T G37 aJ (.ptr i5 [] 0) v38) fun G58=>(True) /\ (J64 (.bool false) G58)))
 (wg (ax T G37 aJ (.ptr i5 [] 0) v38) fun G59=>(True) /\ (J64 (.bool false) G59)))
 (wg (ax T G37 aJ (.ptr i5 [] 0) v38) fun G60=>(True) /\ (J64 (.bool false) G60)))
 (wv (aw T .eql au v17 (.int .i64 3)) fun v65=>brB (some v65)
 (wv (lq T G16 ak (.ptr i1 [5] 5)) fun v66=>wv (lq T G16 au (.ptr i1 [9,1] 10)) fun v67=>wv (lq T G16 ak (.ptr i1 [4] 4)) fun v68=>wv (lq T G16 ak (.ptr i3 [2] 37)) fun v69=>al P bB.n [v66,v67] G16 fun v70 G71=>(lq T G71 ak (.ptr i3 [2] 37) = some v69 /\ lq T G71 ak (.ptr i1 [4] 4) = some v68 /\ True) /\ (al P c0.n [v70,v68,v69] G71 fun v72 G73=>wv (aW v72 0) fun v74=>wv (aW v72 1) fun v75=>wg (ax T G73 ak (.ptr i10 [5] 5) v74) fun G76=>wv (lq T G76 me (.ptr i3 [3] 38)) fun v77=>wg (ax T G76 me (.ptr i10 [6] 6) v77) fun G78=>wv (lq T G78 au (.ptr i1 [11,0] 13)) fun v79=>wv (gF T G78 ak v74) fun v80=>wv (bk T bG [(0,v79),(1,v80)]) fun v81=>wg (ax T G78 bG (.ptr i10 [9] 9) v81) fun G82=>wv (lq T G82 aj (.ptr i3 [5] 41)) fun v83=>wg (ax T G82 aj (.ptr i10 [14] 80) v83) fun G84=>wg (ax T G84 ey (.ptr i10 [12] 15) (.bool false)) fun G85=>wv (lq T G85 aJ (.ptr i10 [] 0)) fun v86=>brB (some v75)
 (wv (lq T G85 me (.ptr i3 [3] 38)) fun v87=>wv (lq T G85 me (.ptr i1 [6] 6)) fun v88=>wv (aw T .add me v88 (.int .i64 1)) fun v89=>wv (aw T .eql me v87 v89) fun v90=>wg (ax T G85 aJ (.ptr i5 [] 0) v86) fun G91=>(lq T G91 me (.ptr i1 [6] 6) = some v88 /\ lq T G91 me (.ptr i3 [3] 38) = some v87 /\ True) /\ (wv (lq T G91 aJ (.ptr i5 [] 0)) fun v96=>Q (.tuple [v96,v90]) G91))
 (wg (ax T G85 aJ (.ptr i5 [] 0) v86) fun G92=>(True) /\ (wv (lq T G92 aJ (.ptr i5 [] 0)) fun v97=>Q (.tuple [v97,.bool false]) G92))))
 (wv (aw T .eql au v17 (.int .i64 4)) fun v98=>brB (some v98)
 (wv (lq T G16 bu (.ptr i1 [15] 112)) fun v99=>wv (lq T G16 me (.ptr i3 [3] 38)) fun v100=>wv (lq T G16 aj (.ptr i3 [6] 73)) fun v101=>al P eH.n [v99,v100,v101] G16 fun v102 G103=>wv (aW v102 0) fun v104=>wv (aW v102 1) fun v105=>wg (ax T G103 bu (.ptr i10 [15] 112) v104) fun G106=>wv (lq T G106 me (.ptr i1 [8] 8)) fun v107=>wv (aw T .add me v107 (.int .i64 1)) fun v108=>wg (ax T G106 me (.ptr i10 [8] 8) v108) fun G109=>wv (lq T G109 bG (.ptr i1 [10] 11)) fun v110=>wg (ax T G109 bG (.ptr i10 [11] 13) v110) fun G111=>wv (aL T cL (.ptr i1 [13] 16) (.int .i64 1)) fun v112=>wv (lq T G111 aj v112) fun v113=>wv (lq T G111 aj (.ptr i3 [7] 105)) fun v114=>wv (bk T cL [(0,v113),(1,v114)]) fun v115=>wg (ax T G111 cL (.ptr i10 [13] 16) v115) fun G116=>wv (lq T G116 aJ (.ptr i10 [] 0)) fun v117=>wv (aw T .eql bq v105 (.int .i64 0)) fun v118=>brB (some v118)
 (wv (lq T G116 me (.ptr i1 [7] 7)) fun v119=>wv (lq T G116 me (.ptr i1 [8] 8)) fun v120=>wv (aw T .add me v120 (.int .i64 1)) fun v121=>wv (aw T .eql me v119 v121) fun v122=>brB (some v122)
 (wv (lq T G116 me (.ptr i3 [3] 38)) fun v123=>wv (lq T G116 me (.ptr i1 [8] 8)) fun v124=>wv (aw T .eql me v123 v124) fun v125=>wg (ax T G116 aJ (.ptr i5 [] 0) v117) fun G126=>(lq T G126 me (.ptr i1 [8] 8) = some v124 /\ lq T G126 me (.ptr i3 [3] 38) = some v123 /\ True) /\ (wv (lq T G126 aJ (.ptr i5 [] 0)) fun v132=>Q (.tuple [v132,v125]) G126))
 (wg (ax T G116 aJ (.ptr i5 [] 0) v117) fun G127=>(True) /\ (wv (lq T G127 aJ (.ptr i5 [] 0)) fun v133=>Q (.tuple [v133,.bool false]) G127)))
 (wg (ax T G116 aJ (.ptr i5 [] 0) v117) fun G128=>(True) /\ (wv (lq T G128 aJ (.ptr i5 [] 0)) fun v134=>Q (.tuple [v134,.bool false]) G128)))
 (wv (lq T G16 aJ (.ptr i1 [] 0)) fun v135=>wg (ax T G16 aJ (.ptr i5 [] 0) v135) fun G136=>wv (lq T G136 aJ (.ptr i5 [] 0)) fun v137=>Q (.tuple [v137,.bool false]) G136))))
def cN.an:Ann:=.two (.nil) (.two (.nil) (.two (.nil) (.two (.two (.nil) (.two (.nil) (.two (.nil) (.two (.nil) (.two (.two (.nil) (.two (.nil) (.two (.nil) (.two (.ord [(0,[]),(1,[]),(2,[]),(3,[]),(4,[]),(5,[]),(6,[]),(7,[]),(8,[]),(9,[]),(10,[]),(11,[]),(12,[]),(13,[]),(14,[]),(15,[]),(16,[]),(17,[]),(18,[]),(19,[]),(20,[]),(21,[]),(22,[]),(23,[]),(24,[]),(25,[]),(26,[]),(27,[]),(28,[]),(29,[]),(30,[]),(31,[]),(32,[]),(33,[]),(34,[]),(35,[]),(36,[]),(37,[]),(38,[]),(39,[]),(40,[]),(41,[35,37]),(42,[])]) (.nil))))) (.two (.nil) (.two (.two (.ord [(0,[]),(1,[]),(2,[]),(3,[]),(4,[]),(6,[]),(7,[]),(8,[]),(9,[]),(5,[7,9]),(10,[]),(11,[]),(12,[]),(13,[]),(14,[]),(15,[])]) (.two (.nil) (.two (.nil) (.two (.nil) (.two (.nil) (.two (.nil) (.two (.ord [(0,[]),(1,[]),(2,[]),(3,[]),(4,[]),(5,[]),(6,[]),(7,[]),(8,[]),(9,[]),(10,[4,6]),(11,[])]) (.nil)))))))) (.two (.nil) (.two (.two (.nil) (.two (.nil) (.two (.nil) (.two (.nil) (.two (.nil) (.two (.ord [(0,[]),(1,[]),(2,[]),(3,[]),(4,[]),(5,[]),(6,[]),(7,[]),(8,[]),(9,[]),(10,[]),(11,[]),(12,[]),(13,[]),(14,[]),(15,[]),(16,[]),(17,[]),(18,[13,15]),(19,[])]) (.nil))))))) (.nil)))))))))) (.nil))))
theorem cN.sound {a0 a1:ag} {G:ah} {Q:ag -> ah -> Prop} (h:cN.S a0 a1 G Q):al P cN.n [a0,a1] G Q:=by
 have e:cN.S a0 a1 G Q = awp cx (cN.body) cN.an (bK T [.cell 4 38,.tmp 5] Q) (dN [a0,a1]) G:=by kernel_rfl
 refine ay dO (f:=cN.n) (fn:=Tryz.f70) (c:=cN.body) (an:=cN.an) Tryz.func70 ?_ ?_ ?_ (aF ?_ ?_) (by simp [Tryz.f70]) (e ▸ h) <;> kernel_rfl
def bL.S (a0 a1 a2:ag) (G:ah) (Q:ag -> ah -> Prop):Prop :=
 br G (.own (a2)) fun i1 G2=>wv (aw T .eql au a1 (.int .i64 0)) fun v3=>brB (some v3)
 (wv (kH a0) fun v4=>wv (bx T bw v4 3) fun v5=>wv (lq T G2 aR v5) fun v6=>wv (lq T G2 aG (.ptr i1 [] 0)) fun v7=>bh T aR 1 [(0,v7)] G2 fun v8 G9=>cc T G9 aR aR v6 v8 fun v10 G11=>wv (kH a0) fun v12=>wv (bx T bw v12 3) fun v13=>wg (ax T G11 aR v13 v10) fun G14=>Q (.tuple []) G14)
 (wv (kH a0) fun v15=>wv (bx T bw v15 2) fun v16=>wv (lq T G2 aR v16) fun v17=>wv (lq T G2 aG (.ptr i1 [] 0)) fun v18=>bh T aR 1 [(0,v18)] G2 fun v19 G20=>cc T G20 aR aR v17 v19 fun v21 G22=>wv (kH a0) fun v23=>wv (bx T bw v23 2) fun v24=>wg (ax T G22 aR v24 v21) fun G25=>Q (.tuple []) G25)
def bL.an:Ann:=.two (.nil) (.two (.two (.nil) (.two (.two (.ord [(0,[]),(1,[]),(2,[]),(3,[]),(4,[]),(5,[]),(6,[]),(7,[]),(8,[]),(9,[]),(10,[])]) (.nil)) (.nil))) (.ord [(0,[]),(1,[]),(2,[]),(3,[]),(4,[]),(5,[]),(6,[]),(7,[]),(8,[]),(9,[]),(10,[])]))
theorem bL.sound {a0 a1 a2:ag} {G:ah} {Q:ag -> ah -> Prop} (h:bL.S a0 a1 a2 G Q):al P bL.n [a0,a1,a2] G Q:=by
 have e:bL.S a0 a1 a2 G Q = awp cx (bL.body) bL.an (bK T [] Q) (dN [a0,a1,a2]) G:=by kernel_rfl
 refine ay dO (f:=bL.n) (fn:=Tryz.f71) (c:=bL.body) (an:=bL.an) Tryz.func71 ?_ ?_ ?_ (aF ?_ ?_) (by simp [Tryz.f71]) (e ▸ h) <;> kernel_rfl
def cQ.S (a0:ag) (G:ah) (Q:ag -> ah -> Prop):Prop :=
 br G (.own (a0)) fun i1 G2=>br G2 (.own (gE)) fun i3 G4=>wv (lq T G4 au (.ptr i1 [0] 0)) fun v5=>wv (lq T G4 me (.ptr i1 [1] 1)) fun v6=>wv (lq T G4 me (.ptr i1 [2] 2)) fun v7=>wv (lq T G4 aj (.ptr i1 [3] 3)) fun v8=>wv (lq T G4 bH (.ptr i1 [4] 35)) fun v9=>wv (bk T aG [(0,v5),(1,v6),(2,v7),(5,v8),(7,v9)]) fun v10=>wg (ax T G4 aG (.ptr i3 [] 0) v10) fun G11=>wv (lq T G11 aG (.ptr i3 [] 0)) fun v12=>Q v12 G11
def cQ.an:Ann:=.nil
theorem cQ.sound {a0:ag} {G:ah} {Q:ag -> ah -> Prop} (h:cQ.S a0 G Q):al P cQ.n [a0] G Q:=by
 have e:cQ.S a0 G Q = awp cx (cQ.body) cQ.an (bK T [.cell 2 48] Q) (dN [a0]) G:=by kernel_rfl
 refine ay dO (f:=cQ.n) (fn:=Tryz.f72) (c:=cQ.body) (an:=cQ.an) Tryz.func72 ?_ ?_ ?_ (aF ?_ ?_) (by simp [Tryz.f72]) (e ▸ h) <;> kernel_rfl
def bO.S (a0 a1 a2:ag) (G:ah) (Q:ag -> ah -> Prop):Prop :=
 br G (.own (a2)) fun i1 G2=>wv (kH a0) fun v3=>wv (bx T bw v3 1) fun v4=>wv (aL T gY v4 a1) fun v5=>wv (lq T G2 aJ v5) fun v6=>wv (lq T G2 aD (.ptr i1 [] 0)) fun v7=>al P cN.n [v6,v7] G2 fun v8 G9=>wv (aW v8 0) fun v10=>wv (aW v8 1) fun v11=>br G9 (.own (iT)) fun i12 G13=>wg (ax T G13 aJ (.ptr i12 [] 0) v10) fun G14=>wv (vun .not v11) fun v15=>brB (some v15)
 (Q (.tuple []) G14)
 (wv (kH a0) fun v16=>wv (bx T bw v16 1) fun v17=>wv (aL T gY v17 a1) fun v18=>wv (bx T aJ v18 6) fun v19=>wv (lq T G14 me v19) fun v20=>wv (lq T G14 aJ (.ptr i12 [] 0)) fun v21=>wv (kH a0) fun v22=>wv (bx T bw v22 1) fun v23=>wv (aL T gY v23 a1) fun v24=>wg (ax T G14 aJ v24 v21) fun G25=>wv (lq T G25 au (.ptr i1 [0] 0)) fun v26=>wv (aw T .eql au v26 (.int .i64 1)) fun v27=>brB (some v27)
 (wv (lq T G25 aI (.ptr i1 [1] 1)) fun v28=>al P cQ.n [v28] G25 fun v29 G30=>al P bL.n [a0,a1,v29] G30 fun v31 G32=>Q (.tuple []) G32)
 (wv (aw T .eql au v26 (.int .i64 2)) fun v33=>brB (some v33)
 (wv (kH a0) fun v34=>wv (bx T bw v34 0) fun v35=>wv (aL T fD v35 a1) fun v36=>wv (lq T G25 cl v36) fun v37=>wv (lq T G25 aJ (.ptr i12 [] 0)) fun v38=>al P dU.n [v37,v38] G25 fun v39 G40=>al P bL.n [a0,a1,v39] G40 fun v41 G42=>Q (.tuple []) G42)
 (wv (aw T .eql au v26 (.int .i64 3)) fun v43=>brB (some v43)
 (wv (kH a0) fun v44=>wv (bx T bw v44 0) fun v45=>wv (aL T fD v45 a1) fun v46=>wv (lq T G25 cl v46) fun v47=>al P dq.n [v47,v20] G25 fun v48 G49=>al P bL.n [a0,a1,v48] G49 fun v50 G51=>Q (.tuple []) G51)
 (Q (.tuple []) G25))))
def bO.an:Ann:=.two (.nil) (.two (.ord [(0,[]),(1,[]),(2,[]),(3,[]),(4,[]),(5,[]),(6,[]),(7,[]),(8,[]),(9,[]),(10,[]),(11,[]),(12,[]),(13,[])]) (.two (.nil) (.two (.nil) (.two (.ord [(0,[]),(1,[]),(2,[]),(3,[]),(4,[]),(5,[]),(6,[])]) (.two (.nil) (.two (.nil) (.two (.nil) (.two (.nil) (.two (.ord [(0,[]),(1,[]),(2,[]),(3,[]),(4,[]),(5,[]),(6,[]),(7,[]),(8,[]),(9,[]),(10,[])]) (.nil))))))))))
theorem bO.sound {a0 a1 a2:ag} {G:ah} {Q:ag -> ah -> Prop} (h:bO.S a0 a1 a2 G Q):al P bO.n [a0,a1,a2] G Q:=by
 have e:bO.S a0 a1 a2 G Q = awp cx (bO.body) bO.an (bK T [] Q) (dN [a0,a1,a2]) G:=by kernel_rfl
 refine ay dO (f:=bO.n) (fn:=Tryz.f49) (c:=bO.body) (an:=bO.an) Tryz.func49 ?_ ?_ ?_ (aF ?_ ?_) (by simp [Tryz.f49]) (e ▸ h) <;> kernel_rfl
def dx.S (a0:ag) (G:ah) (Q:ag -> ah -> Prop):Prop :=
 br G (.own (a0)) fun i1 G2=>br G2 (.own (gy)) fun i3 G4=>wv (lq T G4 au (.ptr i1 [0] 0)) fun v5=>wv (lq T G4 me (.ptr i1 [1] 1)) fun v6=>wv (lq T G4 me (.ptr i1 [2] 2)) fun v7=>wv (lq T G4 aj (.ptr i1 [5] 5)) fun v8=>wv (lq T G4 bH (.ptr i1 [7] 69)) fun v9=>wv (bk T aI [(0,v5),(1,v6),(2,v7),(3,v8),(4,v9)]) fun v10=>wg (ax T G4 aI (.ptr i3 [] 0) v10) fun G11=>wv (lq T G11 aI (.ptr i3 [] 0)) fun v12=>Q v12 G11
def dx.an:Ann:=.nil
theorem dx.sound {a0:ag} {G:ah} {Q:ag -> ah -> Prop} (h:dx.S a0 G Q):al P dx.n [a0] G Q:=by
 have e:dx.S a0 G Q = awp cx (dx.body) dx.an (bK T [.cell 2 76] Q) (dN [a0]) G:=by kernel_rfl
 refine ay dO (f:=dx.n) (fn:=Tryz.f69) (c:=dx.body) (an:=dx.an) Tryz.func69 ?_ ?_ ?_ (aF ?_ ?_) (by simp [Tryz.f69]) (e ▸ h) <;> kernel_rfl
def eO.S (a0 a1 a2 a3:ag) (G:ah) (Q:ag -> ah -> Prop):Prop :=
 br G (.own (a0)) fun i1 G2=>br G2 (.own (a1)) fun i3 G4=>br G4 (.own (a3)) fun i5 G6=>wv (lq T G6 aj (.ptr i1 [3] 3)) fun v7=>al P bJ.n [v7,a2] G6 fun v8 G9=>wv (aW v8 0) fun v10=>wv (aW v8 1) fun v11=>br G9 (.own (cI)) fun i12 G13=>wg (ax T G13 aj (.ptr i12 [] 0) v10) fun G14=>wv (aw T .neq bq v11 (.int .i64 0)) fun v15=>brB (some v15)
 (Q (.tuple [.str [],.bool false]) G14)
 (wv (lq T G14 me (.ptr i3 [2] 2)) fun v16=>wv (lq T G14 me (.ptr i3 [3] 3)) fun v17=>wv (lq T G14 ak (.ptr i3 [4] 4)) fun v18=>wv (lq T G14 ak (.ptr i3 [5] 5)) fun v19=>wv (lq T G14 bG (.ptr i5 [] 0)) fun v20=>al P dI.n [v16,v17,v18,v19,v20] G14 fun v21 G22=>wv (aW v21 0) fun v23=>wv (aW v21 1) fun v24=>br G22 (.own (iZ)) fun i25 G26=>wg (ax T G26 bc (.ptr i25 [] 0) v23) fun G27=>wv (aw T .neq bq v24 (.int .i64 0)) fun v28=>brB (some v28)
 (Q (.tuple [.str [],.bool false]) G27)
 (wv (lq T G27 au (.ptr i3 [0] 0)) fun v29=>wv (lq T G27 aj (.ptr i12 [] 0)) fun v30=>wv (lq T G27 bc (.ptr i25 [] 0)) fun v31=>al P bW.n [v30] G27 fun v32 G33=>(lq T G33 bc (.ptr i25 [] 0) = some v31 /\ lq T G33 au (.ptr i3 [0] 0) = some v29 /\ True) /\ (al P dG.n [v29,a2,v32,v31] G33 fun v34 G35=>wv (aW v34 0) fun v36=>wv (aW v34 1) fun v37=>wv (aw T .eql bq v37 (.int .i64 0)) fun v38=>Q (.tuple [v36,v38]) G35)))
def eO.an:Ann:=.two (.nil) (.two (.nil) (.two (.nil) (.two (.nil) (.two (.nil) (.two (.ord [(0,[]),(1,[]),(2,[]),(3,[]),(5,[]),(4,[1,5]),(6,[]),(7,[]),(8,[]),(9,[]),(10,[]),(11,[])]) (.nil))))))
theorem eO.sound {a0 a1 a2 a3:ag} {G:ah} {Q:ag -> ah -> Prop} (h:eO.S a0 a1 a2 a3 G Q):al P eO.n [a0,a1,a2,a3] G Q:=by
 have e:eO.S a0 a1 a2 a3 G Q = awp cx (eO.body) eO.an (bK T [.tmp 8,.tmp 9] Q) (dN [a0,a1,a2,a3]) G:=by kernel_rfl
 refine ay dO (f:=eO.n) (fn:=Tryz.f99) (c:=eO.body) (an:=eO.an) Tryz.func99 ?_ ?_ ?_ (aF ?_ ?_) (by simp [Tryz.f99]) (e ▸ h) <;> kernel_rfl
def bP.S (a0:ag) (G:ah) (Q:ag -> ah -> Prop):Prop :=
 br G (.own (a0)) fun i1 G2=>wv (lq T G2 au (.ptr i1 [16] 113)) fun v3=>wv (aw T .neq au v3 (.int .i64 0)) fun v4=>brB (some v4)
 (Q (.bool true) G2)
 (wv (lq T G2 me (.ptr i1 [17] 114)) fun v5=>wv (aw T .neq me v5 (.int .i64 (-1))) fun v6=>Q v6 G2)
def bP.an:Ann:=.nil
theorem bP.sound {a0:ag} {G:ah} {Q:ag -> ah -> Prop} (h:bP.S a0 G Q):al P bP.n [a0] G Q:=by
 have e:bP.S a0 G Q = awp cx (bP.body) bP.an (bK T [.tmp 2] Q) (dN [a0]) G:=by kernel_rfl
 refine ay dO (f:=bP.n) (fn:=Tryz.f148) (c:=bP.body) (an:=bP.an) Tryz.func148 ?_ ?_ ?_ (aF ?_ ?_) (by simp [Tryz.f148]) (e ▸ h) <;> kernel_rfl
def dW.S (a0 a1 a2:ag) (G:ah) (Q:ag -> ah -> Prop):Prop :=
 br G (.own (a0)) fun i1 G2=>br G2 (.own (a2)) fun i3 G4=>wv (lq T G4 aj (.ptr i1 [] 0)) fun v5=>al P dK.n [v5,a1] G4 fun v6 G7=>br G7 (.own (cI)) fun i8 G9=>wg (ax T G9 aj (.ptr i8 [] 0) v6) fun G10=>∀ R11:List ag -> ah -> Prop,
 (∀ (x13 x14 x15:ag) (G12:ah),(wv (aw T .lss au x15 (.int .i64 32)) fun v16=>brB (some v16)
 (wv (aL T aj x14 x15) fun v17=>wv (lq T G12 cg v17) fun v18=>wv (aL T aj x13 x15) fun v19=>wv (lq T G12 cg v19) fun v20=>wv (aw T .neq cg v18 v20) fun v21=>brB (some v21)
 (Q (.bool false) G12)
 (wv (aw T .add au x15 (.int .i64 1)) fun v22=>R11 [x13,x14,v22] G12))
 (Q (.bool true) G12)) -> R11 [x13,x14,x15] G12) ->
 R11 [.ptr i3 [] 0,.ptr i8 [] 0,.int .i64 0] G10
def dW.an:Ann:=.two (.nil) (.two (.nil) (.two (.two (.nil) (.loop [5,7,8] [false,false,false] (.two (.nil) (.two (.two (.ord [(0,[]),(1,[]),(2,[]),(3,[]),(4,[]),(5,[]),(6,[])]) (.nil)) (.nil))))) (.nil)))
theorem dW.sound {a0 a1 a2:ag} {G:ah} {Q:ag -> ah -> Prop} (h:dW.S a0 a1 a2 G Q):al P dW.n [a0,a1,a2] G Q:=by
 have e:dW.S a0 a1 a2 G Q = awp cx (dW.body) dW.an (bK T [.tmp 6] Q) (dN [a0,a1,a2]) G:=by kernel_rfl
 refine ay dO (f:=dW.n) (fn:=Tryz.f160) (c:=dW.body) (an:=dW.an) Tryz.func160 ?_ ?_ ?_ (aF ?_ ?_) (by simp [Tryz.f160]) (e ▸ h) <;> kernel_rfl
def eP.S (a0 a1 a2:ag) (G:ah) (Q:ag -> ah -> Prop):Prop :=
 br G (.own (a0)) fun i1 G2=>br G2 (.own (a1)) fun i3 G4=>br G4 (.own (a2)) fun i5 G6=>br G6 (.own (iY)) fun i7 G8=>wv (lq T G8 au (.ptr i3 [11,0] 13)) fun v9=>wv (lq T G8 ak (.ptr i3 [5] 5)) fun v10=>wv (gF T G8 ak v10) fun v11=>wv (bk T bG [(0,v9),(1,v11)]) fun v12=>br G8 (.own (kG)) fun i13 G14=>wg (ax T G14 bG (.ptr i13 [] 0) v12) fun G15=>wv (lq T G15 aJ (.ptr i3 [] 0)) fun v16=>al P bP.n [v16] G15 fun v17 G18=>brB (some v17)
 (wv (bk T aD []) fun v19=>wg (ax T G18 aD (.ptr i7 [] 0) v19) fun G20=>wv (lq T G20 aD (.ptr i7 [] 0)) fun v21=>Q (.tuple [v21,.int .i64 220]) G20)
 (wv (lq T G18 au (.ptr i5 [0] 0)) fun v22=>wv (aw T .neq au v22 (.int .i64 4)) fun v23=>brB (some v23)
 (wv (bk T aD []) fun v24=>wg (ax T G18 aD (.ptr i7 [] 0) v24) fun G25=>wv (lq T G25 aD (.ptr i7 [] 0)) fun v26=>Q (.tuple [v26,.int .i64 160]) G25)
 (let J44:ag -> ah -> Prop:=(fun x34 G33=>brB (some x34)
 (wv (bk T aD []) fun v35=>wg (ax T G33 aD (.ptr i7 [] 0) v35) fun G36=>wv (lq T G36 aD (.ptr i7 [] 0)) fun v37=>Q (.tuple [v37,.int .i64 90]) G36)
 (wv (lq T G33 bG (.ptr i13 [] 0)) fun v38=>wv (lq T G33 bG (.ptr i3 [9] 9)) fun v39=>wv (aw T .eql bG v38 v39) fun v40=>brB (some v40)
 (wv (bk T aD []) fun v41=>wg (ax T G33 aD (.ptr i7 [] 0) v41) fun G42=>wv (lq T G42 aD (.ptr i7 [] 0)) fun v43=>Q (.tuple [v43,.int .i64 8]) G42)
 (wv (lq T G33 cl (.ptr i1 [] 0)) fun v45=>wv (lq T G33 aJ (.ptr i3 [] 0)) fun v46=>wv (lq T G33 me (.ptr i5 [3] 3)) fun v47=>wv (lq T G33 bG (.ptr i13 [] 0)) fun v48=>al P eO.n [v45,v46,v47,v48] G33 fun v49 G50=>wv (aW v49 0) fun v51=>wv (aW v49 1) fun v52=>let J80:ag -> ah -> Prop:=(fun x66 G65=>brB (some x66)
 (wv (bk T aD []) fun v67=>wg (ax T G65 aD (.ptr i7 [] 0) v67) fun G68=>wv (lq T G68 aD (.ptr i7 [] 0)) fun v69=>Q (.tuple [v69,.int .i64 110]) G68)
 (wv (lq T G65 me (.ptr i5 [3] 3)) fun v70=>wv (lq T G65 ak (.ptr i3 [5] 5)) fun v71=>wv (lq T G65 au (.ptr i3 [9,1] 10)) fun v72=>wv (fj T ak v71 (some (v72)) none none) fun v73=>wv (lq T G65 aj (.ptr i5 [5] 5)) fun v74=>cc T G65 ak ak (.nilSlice) v73 fun v75 G76=>(lq T G76 aj (.ptr i5 [5] 5) = some v74 /\ lq T G76 me (.ptr i5 [3] 3) = some v70 /\ True) /\ (wv (bk T aD [(0,.int .i64 3),(3,v70),(2,v75),(5,v74)]) fun v77=>wg (ax T G76 aD (.ptr i7 [] 0) v77) fun G78=>wv (lq T G78 aD (.ptr i7 [] 0)) fun v79=>Q (.tuple [v79,.int .i64 0]) G78)));
 wv (vun .not v52) fun v53=>brB (some v53)
 (J80 (.bool true) G50)
 (wv (lq T G50 aj (.ptr i1 [5] 67)) fun v54=>wv (lq T G50 aj (.ptr i5 [5] 5)) fun v55=>al P dW.n [v54,v51,v55] G50 fun v56 G57=>wv (vun .not v56) fun v58=>brB (some v58)
 (J80 (.bool true) G57)
 (wv (lq T G57 au (.ptr i3 [9,1] 10)) fun v59=>wv (aw T .lss au v59 (.int .i64 0)) fun v60=>brB (some v60)
 (J80 (.bool true) G57)
 (wv (lq T G57 au (.ptr i3 [9,1] 10)) fun v61=>wv (lq T G57 ak (.ptr i3 [5] 5)) fun v62=>wv (gF T G57 ak v62) fun v63=>wv (aw T .gtr au v61 v63) fun v64=>J80 v64 G57))))));
 wv (lq T G18 me (.ptr i5 [3] 3)) fun v27=>wv (lq T G18 me (.ptr i3 [6] 6)) fun v28=>wv (aw T .add me v28 (.int .i64 1)) fun v29=>wv (aw T .neq me v27 v29) fun v30=>brB (some v30)
 (J44 (.bool true) G18)
 (wv (lq T G18 me (.ptr i3 [6] 6)) fun v31=>wv (aw T .gtr me v31 (.int .i64 281474976710653)) fun v32=>J44 v32 G18)))
def eP.an:Ann:=.two (.nil) (.two (.nil) (.two (.nil) (.two (.nil) (.two (.nil) (.two (.ord [(0,[]),(1,[]),(2,[]),(3,[]),(4,[]),(5,[]),(6,[]),(7,[]),(9,[]),(10,[]),(8,[1,10]),(11,[]),(12,[]),(13,[])]) (.nil))))))
theorem eP.sound {a0 a1 a2:ag} {G:ah} {Q:ag -> ah -> Prop} (h:eP.S a0 a1 a2 G Q):al P eP.n [a0,a1,a2] G Q:=by
 have e:eP.S a0 a1 a2 G Q = awp cx (eP.body) eP.an (bK T [.cell 6 78,.tmp 7] Q) (dN [a0,a1,a2]) G:=by kernel_rfl
 refine ay dO (f:=eP.n) (fn:=Tryz.f101) (c:=eP.body) (an:=eP.an) Tryz.func101 ?_ ?_ ?_ (aF ?_ ?_) (by simp [Tryz.f101]) (e ▸ h) <;> kernel_rfl
def bV.S (a0:ag) (G:ah) (Q:ag -> ah -> Prop):Prop :=
 br G (.own (a0)) fun i1 G2=>br G2 (.own (kG)) fun i3 G4=>wv (lq T G4 au (.ptr i1 [9,0] 9)) fun v5=>wv (lq T G4 au (.ptr i1 [11,0] 13)) fun v6=>wv (uo v5 v6) fun v7=>wv (lq T G4 au (.ptr i1 [9,1] 10)) fun v8=>wv (lq T G4 au (.ptr i1 [11,1] 14)) fun v9=>wv (uo v8 v9) fun v10=>wv (bk T bG [(0,v7),(1,v10)]) fun v11=>wg (ax T G4 bG (.ptr i3 [] 0) v11) fun G12=>wv (lq T G12 bG (.ptr i3 [] 0)) fun v13=>Q v13 G12
def bV.an:Ann:=.nil
theorem bV.sound {a0:ag} {G:ah} {Q:ag -> ah -> Prop} (h:bV.S a0 G Q):al P bV.n [a0] G Q:=by
 have e:bV.S a0 G Q = awp cx (bV.body) bV.an (bK T [.cell 2 35] Q) (dN [a0]) G:=by kernel_rfl
 refine ay dO (f:=bV.n) (fn:=Tryz.f93) (c:=bV.body) (an:=bV.an) Tryz.func93 ?_ ?_ ?_ (aF ?_ ?_) (by simp [Tryz.f93]) (e ▸ h) <;> kernel_rfl
def bQ.S (a0 a1 a2:ag) (G:ah) (Q:ag -> ah -> Prop):Prop :=
 ∀ R1:List ag -> ah -> Prop,
 (∀ (x3 x4 x5 x6:ag) (G2:ah),(wv (gF T G2 ak x3) fun v7=>wv (aw T .lss au x6 v7) fun v8=>brB (some v8)
 (wv (aL T ak x3 x6) fun v9=>wv (bx T aI v9 1) fun v10=>wv (lq T G2 me v10) fun v11=>wv (aw T .eql me v11 x4) fun v12=>brB (some v12)
 (wv (aL T ak x3 x6) fun v13=>wv (bx T aI v13 0) fun v14=>wv (lq T G2 au v14) fun v15=>wv (aw T .neq au v15 (.int .i64 1)) fun v16=>brB (some v16)
 (wv (aw T .eql au x5 (.int .i64 0)) fun v17=>brB (some v17)
 (Q (.bool true) G2)
 (wv (aL T ak x3 x6) fun v18=>wv (bx T aI v18 0) fun v19=>wv (lq T G2 au v19) fun v20=>wv (aw T .eql au v20 x5) fun v21=>brB (some v21)
 (Q (.bool true) G2)
 (wv (aw T .add au x6 (.int .i64 1)) fun v26=>R1 [x3,x4,x5,v26] G2)))
 (wv (aw T .add au x6 (.int .i64 1)) fun v27=>R1 [x3,x4,x5,v27] G2))
 (wv (aw T .add au x6 (.int .i64 1)) fun v28=>R1 [x3,x4,x5,v28] G2))
 (Q (.bool false) G2)) -> R1 [x3,x4,x5,x6] G2) ->
 R1 [a0,a1,a2,.int .i64 0] G
def bQ.an:Ann:=.two (.nil) (.two (.two (.nil) (.loop [0,1,2,7] [false,false,false,false] (.nil))) (.nil))
theorem bQ.sound {a0 a1 a2:ag} {G:ah} {Q:ag -> ah -> Prop} (h:bQ.S a0 a1 a2 G Q):al P bQ.n [a0,a1,a2] G Q:=by
 have e:bQ.S a0 a1 a2 G Q = awp cx (bQ.body) bQ.an (bK T [.tmp 6] Q) (dN [a0,a1,a2]) G:=by kernel_rfl
 refine ay dO (f:=bQ.n) (fn:=Tryz.f192) (c:=bQ.body) (an:=bQ.an) Tryz.func192 ?_ ?_ ?_ (aF ?_ ?_) (by simp [Tryz.f192]) (e ▸ h) <;> kernel_rfl
def b6.S (a0 a1 a2 a3 a4:ag) (G:ah) (Q:ag -> ah -> Prop):Prop :=
 ∀ R1:List ag -> ah -> Prop,
 (∀ (x3 x4 x5 x6 x7 x8:ag) (G2:ah),(wv (gF T G2 ak x3) fun v9=>wv (aw T .lss au x8 v9) fun v10=>brB (some v10)
 (let J40:ag -> ah -> Prop:=(fun x38 G37=>wv (aw T .add au x8 (.int .i64 1)) fun v39=>R1 [x3,x4,x5,x6,x38,v39] G37);
 wv (aL T ak x3 x8) fun v11=>wv (bx T aI v11 0) fun v12=>wv (lq T G2 au v12) fun v13=>wv (aw T .eql au v13 (.int .i64 1)) fun v14=>brB (some v14)
 (wv (aL T ak x3 x8) fun v15=>wv (bx T aI v15 1) fun v16=>wv (lq T G2 me v16) fun v17=>al P bB.n [x4,x6] G2 fun v18 G19=>(lq T G19 me v16 = some v17 /\ True) /\ (al P bQ.n [v18,v17,.int .i64 3] G19 fun v20 G21=>wv (vun .not v20) fun v22=>brB (some v22)
 (wv (aL T ak x3 x8) fun v31=>wv (bx T aI v31 2) fun v32=>wv (lq T G21 me v32) fun v33=>wv (aw T .sub me x7 v33) fun v34=>J40 v34 G21)
 (J40 x7 G21)))
 (J40 x7 G2))
 (al P bB.n [x3,x5] G2 fun v41 G42=>∀ R43:List ag -> ah -> Prop,
 (∀ (x45 x46 x47 x48:ag) (G44:ah),(wv (gF T G44 ak x45) fun v49=>wv (aw T .lss au x48 v49) fun v50=>brB (some v50)
 (let J77:ag -> ah -> Prop:=(fun x75 G74=>wv (aw T .add au x48 (.int .i64 1)) fun v76=>R43 [x45,x75,x47,v76] G74);
 wv (aL T ak x45 x48) fun v51=>wv (bx T aI v51 0) fun v52=>wv (lq T G44 au v52) fun v53=>wv (aw T .eql au v53 (.int .i64 1)) fun v54=>brB (some v54)
 (wv (aL T ak x45 x48) fun v55=>wv (bx T aI v55 1) fun v56=>wv (lq T G44 me v56) fun v57=>al P bQ.n [x47,v57,.int .i64 2] G44 fun v58 G59=>brB (some v58)
 (wv (aL T ak x45 x48) fun v68=>wv (bx T aI v68 2) fun v69=>wv (lq T G59 me v69) fun v70=>wv (aw T .add me x46 v70) fun v71=>J77 v71 G59)
 (J77 x46 G59))
 (J77 x46 G44))
 (wv (Co x46 (.int .i64 0)) fun v78=>Q v78 G44)) -> R43 [x45,x46,x47,x48] G44) ->
 R43 [x4,x7,v41,.int .i64 0] G42)) -> R1 [x3,x4,x5,x6,x7,x8] G2) ->
 R1 [a1,a2,a3,a4,a0,.int .i64 0] G
def b6.an:Ann:=.two (.nil) (.two (.nil) (.two (.two (.nil) (.loop [1,2,3,4,11,12] [false,false,false,false,false,false] (.two (.nil) (.two (.two (.ord [(0,[]),(1,[]),(2,[]),(3,[]),(4,[]),(5,[]),(6,[]),(7,[]),(8,[]),(10,[]),(11,[]),(12,[]),(13,[]),(14,[]),(9,[14]),(15,[]),(16,[]),(17,[])]) (.nil)) (.nil))))) (.two (.nil) (.two (.two (.nil) (.loop [2,11,13,14] [false,false,false,false] (.nil))) (.nil)))))
theorem b6.sound {a0 a1 a2 a3 a4:ag} {G:ah} {Q:ag -> ah -> Prop} (h:b6.S a0 a1 a2 a3 a4 G Q):al P b6.n [a0,a1,a2,a3,a4] G Q:=by
 have e:b6.S a0 a1 a2 a3 a4 G Q = awp cx (b6.body) b6.an (bK T [.tmp 10] Q) (dN [a0,a1,a2,a3,a4]) G:=by kernel_rfl
 refine ay dO (f:=b6.n) (fn:=Tryz.f154) (c:=b6.body) (an:=b6.an) Tryz.func154 ?_ ?_ ?_ (aF ?_ ?_) (by simp [Tryz.f154]) (e ▸ h) <;> kernel_rfl
def bM.S (a0:ag) (G:ah) (Q:ag -> ah -> Prop):Prop :=
 br G (.own (a0)) fun i1 G2=>wv (lq T G2 aJ (.ptr i1 [] 0)) fun v3=>al P bV.n [v3] G2 fun v4 G5=>br G5 (.own (kG)) fun i6 G7=>wg (ax T G7 bG (.ptr i6 [] 0) v4) fun G8=>wv (lq T G8 me (.ptr i1 [3] 3)) fun v9=>wv (lq T G8 ak (.ptr i1 [5] 5)) fun v10=>wv (lq T G8 ak (.ptr i1 [4] 4)) fun v11=>wv (lq T G8 au (.ptr i6 [1] 1)) fun v12=>wv (lq T G8 au (.ptr i6 [0] 0)) fun v13=>al P b6.n [v9,v10,v11,v12,v13] G8 fun v14 G15=>Q v14 G15
def bM.an:Ann:=.nil
theorem bM.sound {a0:ag} {G:ah} {Q:ag -> ah -> Prop} (h:bM.S a0 G Q):al P bM.n [a0] G Q:=by
 have e:bM.S a0 G Q = awp cx (bM.body) bM.an (bK T [.tmp 2] Q) (dN [a0]) G:=by kernel_rfl
 refine ay dO (f:=bM.n) (fn:=Tryz.f95) (c:=bM.body) (an:=bM.an) Tryz.func95 ?_ ?_ ?_ (aF ?_ ?_) (by simp [Tryz.f95]) (e ▸ h) <;> kernel_rfl
def dE.S (a0 a1:ag) (G:ah) (Q:ag -> ah -> Prop):Prop :=
 ∀ R1:List ag -> ah -> Prop,
 (∀ (x3 x4 x5 x6:ag) (G2:ah),(wv (gF T G2 ak x3) fun v7=>wv (aw T .lss au x6 v7) fun v8=>brB (some v8)
 (let J30:ag -> ah -> Prop:=(fun x28 G27=>wv (aw T .add au x6 (.int .i64 1)) fun v29=>R1 [x3,x4,x28,v29] G27);
 wv (aL T ak x3 x6) fun v9=>wv (bx T aI v9 0) fun v10=>wv (lq T G2 au v10) fun v11=>wv (aw T .eql au v11 (.int .i64 1)) fun v12=>brB (some v12)
 (wv (aL T ak x3 x6) fun v13=>wv (bx T aI v13 1) fun v14=>wv (lq T G2 me v14) fun v15=>al P bQ.n [x4,v15,.int .i64 0] G2 fun v16 G17=>wv (vun .not v16) fun v18=>brB (some v18)
 (wv (aw T .add au x5 (.int .i64 1)) fun v24=>J30 v24 G17)
 (J30 x5 G17))
 (J30 x5 G2))
 (Q x5 G2)) -> R1 [x3,x4,x5,x6] G2) ->
 R1 [a0,a1,.int .i64 0,.int .i64 0] G
def dE.an:Ann:=.two (.nil) (.two (.nil) (.two (.two (.nil) (.loop [0,1,5,6] [false,false,false,false] (.nil))) (.nil)))
theorem dE.sound {a0 a1:ag} {G:ah} {Q:ag -> ah -> Prop} (h:dE.S a0 a1 G Q):al P dE.n [a0,a1] G Q:=by
 have e:dE.S a0 a1 G Q = awp cx (dE.body) dE.an (bK T [.tmp 4] Q) (dN [a0,a1]) G:=by kernel_rfl
 refine ay dO (f:=dE.n) (fn:=Tryz.f150) (c:=dE.body) (an:=dE.an) Tryz.func150 ?_ ?_ ?_ (aF ?_ ?_) (by simp [Tryz.f150]) (e ▸ h) <;> kernel_rfl
def dF.S (a0 a1:ag) (G:ah) (Q:ag -> ah -> Prop):Prop :=
 br G (.own (gy)) fun i1 G2=>∀ R3:List ag -> ah -> Prop,
 (∀ (x5 x6 x7 x8:ag) (G4:ah),(wv (gF T G4 ak x5) fun v9=>wv (aw T .lss au x8 v9) fun v10=>brB (some v10)
 (wv (aL T ak x5 x8) fun v11=>wv (bx T aI v11 0) fun v12=>wv (lq T G4 au v12) fun v13=>wv (aw T .eql au v13 (.int .i64 1)) fun v14=>brB (some v14)
 (wv (aL T ak x5 x8) fun v15=>wv (bx T aI v15 1) fun v16=>wv (lq T G4 me v16) fun v17=>wv (aw T .eql me v17 x6) fun v18=>brB (some v18)
 (wv (aL T ak x5 x8) fun v25=>wv (lq T G4 aI v25) fun v26=>wg (ax T G4 aI x7 v26) fun G27=>wv (lq T G27 aI x7) fun v28=>Q (.tuple [v28,.bool true]) G27)
 (wv (aw T .add au x8 (.int .i64 1)) fun v31=>R3 [x5,x6,x7,v31] G4))
 (wv (aw T .add au x8 (.int .i64 1)) fun v32=>R3 [x5,x6,x7,v32] G4))
 (wv (bk T aI []) fun v33=>wg (ax T G4 aI x7 v33) fun G34=>wv (lq T G34 aI x7) fun v35=>Q (.tuple [v35,.bool false]) G34)) -> R3 [x5,x6,x7,x8] G4) ->
 R3 [a0,a1,.ptr i1 [] 0,.int .i64 0] G2
def dF.an:Ann:=.two (.nil) (.two (.two (.nil) (.loop [0,1,4,6] [false,false,false,false] (.nil))) (.nil))
theorem dF.sound {a0 a1:ag} {G:ah} {Q:ag -> ah -> Prop} (h:dF.S a0 a1 G Q):al P dF.n [a0,a1] G Q:=by
 have e:dF.S a0 a1 G Q = awp cx (dF.body) dF.an (bK T [.cell 4 76,.tmp 5] Q) (dN [a0,a1]) G:=by kernel_rfl
 refine ay dO (f:=dF.n) (fn:=Tryz.f168) (c:=dF.body) (an:=dF.an) Tryz.func168 ?_ ?_ ?_ (aF ?_ ?_) (by simp [Tryz.f168]) (e ▸ h) <;> kernel_rfl
def dT.S (a0 a1:ag) (G:ah) (Q:ag -> ah -> Prop):Prop :=
 br G (.own (a0)) fun i1 G2=>br G2 (.own (a1)) fun i3 G4=>wv (lq T G4 aJ (.ptr i1 [] 0)) fun v5=>al P bV.n [v5] G4 fun v6 G7=>br G7 (.own (kG)) fun i8 G9=>wg (ax T G9 bG (.ptr i8 [] 0) v6) fun G10=>let J71:ah -> Prop:=(fun G57=>wv (lq T G57 ak (.ptr i1 [4] 4)) fun v58=>wv (lq T G57 au (.ptr i8 [0] 0)) fun v59=>wv (lq T G57 me (.ptr i3 [1] 1)) fun v60=>al P bB.n [v58,v59] G57 fun v61 G62=>(lq T G62 me (.ptr i3 [1] 1) = some v60 /\ True) /\ (al P dF.n [v61,v60] G62 fun v63 G64=>wv (aW v63 0) fun v65=>wv (aW v63 1) fun v66=>br G64 (.own (gy)) fun i67 G68=>wg (ax T G68 aI (.ptr i67 [] 0) v65) fun G69=>wv (vun .not v66) fun v70=>brB (some v70)
 (Q (.int .i64 120) G69)
 (Q (.int .i64 0) G69)));
 wv (lq T G10 aJ (.ptr i1 [] 0)) fun v11=>al P bP.n [v11] G10 fun v12 G13=>brB (some v12)
 (Q (.int .i64 220) G13)
 (wv (lq T G13 ak (.ptr i1 [5] 5)) fun v14=>wv (gF T G13 ak v14) fun v15=>wv (lq T G13 au (.ptr i1 [9,1] 10)) fun v16=>wv (aw T .sub au v15 v16) fun v17=>wv (aw T .geq au v17 (.int .i64 512)) fun v18=>brB (some v18)
 (Q (.int .i64 131) G13)
 (wv (lq T G13 ak (.ptr i1 [5] 5)) fun v19=>wv (lq T G13 ak (.ptr i1 [4] 4)) fun v20=>wv (lq T G13 aI (.ptr i3 [] 0)) fun v21=>al P dJ.n [v19,v20,v21] G13 fun v22 G23=>wv (aw T .neq bq v22 (.int .i64 0)) fun v24=>brB (some v24)
 (Q (.int .i64 120) G23)
 (let J53:ag -> ah -> Prop:=(fun x36 G35=>brB (some x36)
 (Q (.int .i64 131) G35)
 (wv (lq T G35 au (.ptr i3 [0] 0)) fun v37=>wv (aw T .eql au v37 (.int .i64 1)) fun v38=>brB (some v38)
 (wv (lq T G35 me (.ptr i3 [2] 2)) fun v39=>wv (lq T G35 aJ (.ptr i1 [] 0)) fun v40=>al P bM.n [v40] G35 fun v41 G42=>(lq T G42 me (.ptr i3 [2] 2) = some v39 /\ True) /\ (wv (aw T .gtr me v39 v41) fun v43=>brB (some v43)
 (Q (.int .i64 130) G42)
 (wv (lq T G42 au (.ptr i3 [0] 0)) fun v48=>wv (aw T .eql au v48 (.int .i64 1)) fun v49=>brB (some v49)
 (Q (.int .i64 0) G42)
 (J71 G42))))
 (wv (lq T G35 au (.ptr i3 [0] 0)) fun v50=>wv (aw T .eql au v50 (.int .i64 1)) fun v51=>brB (some v51)
 (Q (.int .i64 0) G35)
 (J71 G35))));
 wv (lq T G23 au (.ptr i3 [0] 0)) fun v25=>wv (aw T .eql au v25 (.int .i64 1)) fun v26=>brB (some v26)
 (wv (lq T G23 ak (.ptr i1 [5] 5)) fun v27=>wv (lq T G23 ak (.ptr i1 [4] 4)) fun v28=>wv (lq T G23 au (.ptr i8 [0] 0)) fun v29=>al P bB.n [v28,v29] G23 fun v30 G31=>(lq T G31 ak (.ptr i1 [5] 5) = some v27 /\ True) /\ (al P dE.n [v27,v30] G31 fun v32 G33=>wv (aw T .geq au v32 (.int .i64 483)) fun v34=>J53 v34 G33))
 (J53 (.bool false) G23))))
def dT.an:Ann:=.two (.nil) (.two (.nil) (.two (.two (.nil) (.two (.nil) (.two (.nil) (.two (.nil) (.two (.nil) (.two (.nil) (.two (.ord [(0,[]),(1,[]),(2,[]),(3,[]),(4,[]),(5,[]),(6,[]),(7,[]),(8,[]),(9,[]),(10,[5]),(11,[]),(12,[]),(13,[]),(14,[])]) (.two (.nil) (.two (.ord [(0,[]),(1,[]),(2,[]),(3,[]),(4,[]),(5,[]),(6,[]),(7,[5]),(8,[]),(9,[]),(10,[])]) (.nil)))))))))) (.two (.ord [(0,[]),(1,[]),(2,[]),(3,[]),(5,[]),(6,[]),(4,[6]),(7,[]),(8,[]),(9,[]),(10,[]),(11,[]),(12,[]),(13,[])]) (.nil))))
theorem dT.sound {a0 a1:ag} {G:ah} {Q:ag -> ah -> Prop} (h:dT.S a0 a1 G Q):al P dT.n [a0,a1] G Q:=by
 have e:dT.S a0 a1 G Q = awp cx (dT.body) dT.an (bK T [.tmp 4] Q) (dN [a0,a1]) G:=by kernel_rfl
 refine ay dO (f:=dT.n) (fn:=Tryz.f108) (c:=dT.body) (an:=dT.an) Tryz.func108 ?_ ?_ ?_ (aF ?_ ?_) (by simp [Tryz.f108]) (e ▸ h) <;> kernel_rfl
def cM.S (a0 a1:ag) (G:ah) (Q:ag -> ah -> Prop):Prop :=
 br G (.own (a0)) fun i1 G2=>br G2 (.own (a1)) fun i3 G4=>br G4 (.own (iY)) fun i5 G6=>wv (lq T G6 aJ (.ptr i1 [] 0)) fun v7=>al P bP.n [v7] G6 fun v8 G9=>brB (some v8)
 (wv (bk T aD []) fun v10=>wg (ax T G9 aD (.ptr i5 [] 0) v10) fun G11=>wv (lq T G11 aD (.ptr i5 [] 0)) fun v12=>Q (.tuple [v12,.int .i64 220]) G11)
 (wv (lq T G9 au (.ptr i3 [0] 0)) fun v13=>wv (aw T .neq au v13 (.int .i64 5)) fun v14=>brB (some v14)
 (wv (bk T aD []) fun v15=>wg (ax T G9 aD (.ptr i5 [] 0) v15) fun G16=>wv (lq T G16 aD (.ptr i5 [] 0)) fun v17=>Q (.tuple [v17,.int .i64 160]) G16)
 (let J39:ag -> ah -> Prop:=(fun x26 G25=>brB (some x26)
 (wv (bk T aD []) fun v27=>wg (ax T G25 aD (.ptr i5 [] 0) v27) fun G28=>wv (lq T G28 aD (.ptr i5 [] 0)) fun v29=>Q (.tuple [v29,.int .i64 90]) G28)
 (wv (lq T G25 aj (.ptr i3 [6] 37)) fun v30=>wv (aL T cL (.ptr i1 [13] 16) (.int .i64 0)) fun v31=>wv (lq T G25 aj v31) fun v32=>al P bW.n [v30] G25 fun v33 G34=>(lq T G34 aj v31 = some v32 /\ True) /\ (wv (aw T .neq aj v33 v32) fun v35=>brB (some v35)
 (wv (bk T aD []) fun v36=>wg (ax T G34 aD (.ptr i5 [] 0) v36) fun G37=>wv (lq T G37 aD (.ptr i5 [] 0)) fun v38=>Q (.tuple [v38,.int .i64 100]) G37)
 (wv (lq T G34 bu (.ptr i1 [15] 112)) fun v40=>wv (lq T G34 me (.ptr i1 [8] 8)) fun v41=>wv (lq T G34 aj (.ptr i3 [6] 37)) fun v42=>al P eH.n [v40,v41,v42] G34 fun v43 G44=>wv (aW v43 0) fun v45=>wv (aW v43 1) fun v46=>wv (aw T .neq bq v46 (.int .i64 0)) fun v47=>brB (some v47)
 (wv (bk T aD []) fun v48=>wg (ax T G44 aD (.ptr i5 [] 0) v48) fun G49=>wv (lq T G49 aD (.ptr i5 [] 0)) fun v50=>Q (.tuple [v50,.int .i64 100]) G49)
 (wv (lq T G44 me (.ptr i1 [8] 8)) fun v51=>wv (lq T G44 aj (.ptr i3 [6] 37)) fun v52=>wv (lq T G44 aj (.ptr i3 [5] 5)) fun v53=>wv (bk T aD [(0,.int .i64 4),(3,v51),(6,v52),(7,v53)]) fun v54=>wg (ax T G44 aD (.ptr i5 [] 0) v54) fun G55=>wv (lq T G55 aD (.ptr i5 [] 0)) fun v56=>Q (.tuple [v56,.int .i64 0]) G55)))));
 wv (lq T G9 me (.ptr i1 [7] 7)) fun v18=>wv (lq T G9 me (.ptr i1 [8] 8)) fun v19=>wv (aw T .add me v19 (.int .i64 1)) fun v20=>wv (aw T .neq me v18 v20) fun v21=>brB (some v21)
 (J39 (.bool true) G9)
 (wv (lq T G9 me (.ptr i3 [3] 3)) fun v22=>wv (lq T G9 me (.ptr i1 [8] 8)) fun v23=>wv (aw T .neq me v22 v23) fun v24=>J39 v24 G9)))
def cM.an:Ann:=.two (.nil) (.two (.two (.nil) (.two (.nil) (.two (.nil) (.two (.nil) (.two (.nil) (.two (.nil) (.two (.ord [(0,[]),(1,[]),(3,[]),(4,[]),(5,[]),(2,[5]),(6,[]),(7,[])]) (.nil)))))))) (.nil))
theorem cM.sound {a0 a1:ag} {G:ah} {Q:ag -> ah -> Prop} (h:cM.S a0 a1 G Q):al P cM.n [a0,a1] G Q:=by
 have e:cM.S a0 a1 G Q = awp cx (cM.body) cM.an (bK T [.cell 4 78,.tmp 5] Q) (dN [a0,a1]) G:=by kernel_rfl
 refine ay dO (f:=cM.n) (fn:=Tryz.f109) (c:=cM.body) (an:=cM.an) Tryz.func109 ?_ ?_ ?_ (aF ?_ ?_) (by simp [Tryz.f109]) (e ▸ h) <;> kernel_rfl
end Go.Esc.M
