import Derived.Test.YtkojimdacnohpaaGreatDoorT
set_option linter.unusedSimpArgs false
set_option linter.unusedVariables false
namespace Go.Esc.M
open Go Go.Esc Go.Proofs
def cO.S (a0 a1:ag) (G:ah) (Q:ag -> ah -> Prop):Prop :=
 ∀ R1:List ag -> ah -> Prop,
 (∀ (x3 x4 x5:ag) (G2:ah),(wv (gF T G2 ak x3) fun v6=>wv (aw T .lss au x5 v6) fun v7=>brB (some v7)
 (let J25:ag -> ah -> Prop:=(fun x21 G20=>brB (some x21)
 (wv (aL T ak x3 x5) fun v22=>wv (bx T aI v22 0) fun v23=>wv (af T G20 au v23) fun v24=>Q v24 G20)
 (wv (aw T .add au x5 (.int .i64 1)) fun v26=>R1 [x3,x4,v26] G20));
 wv (aL T ak x3 x5) fun v8=>wv (bx T aI v8 0) fun v9=>wv (af T G2 au v9) fun v10=>wv (aw T .neq au v10 (.int .i64 1)) fun v11=>brB (some v11)
 (wv (aL T ak x3 x5) fun v12=>wv (bx T aI v12 1) fun v13=>wv (af T G2 ai v13) fun v14=>wv (aw T .eql ai v14 x4) fun v15=>brB (some v15)
 (wv (aL T ak x3 x5) fun v16=>wv (af T G2 aI v16) fun v17=>al P cy.n [v17] G2 fun v18 G19=>J25 v18 G19)
 (J25 (.bool false) G2))
 (J25 (.bool false) G2))
 (Q (.int .i64 0) G2)) -> R1 [x3,x4,x5] G2) ->
 R1 [a0,a1,.int .i64 0] G
def cO.an:Ann:=.two (.nil) (.two (.two (.nil) (.loop [0,1,5] [false,false,false] (.nil))) (.nil))
set_option maxRecDepth 100000 in
theorem cO.sound {a0 a1:ag} {G:ah} {Q:ag -> ah -> Prop} (h:cO.S a0 a1 G Q):al P cO.n [a0,a1] G Q:=by
 have e:cO.S a0 a1 G Q = awp cx (cO.body) cO.an (bK T [.tmp 4] Q) (dN [a0,a1]) G:=by kernel_rfl
 exact ay dO (f:=cO.n) (fn:=Tryz.f218) (c:=cO.body) (an:=cO.an) Tryz.func218 (by kernel_rfl) (by kernel_rfl) (by kernel_rfl) (aF (by kernel_rfl) (by kernel_rfl)) (by simp [Tryz.f218]) (e ▸ h)
def dc.S (a0 a1:ag) (G:ah) (Q:ag -> ah -> Prop):Prop :=
 br G (.own (a0)) fun i1 G2=>br G2 (.own (iJ)) fun i3 G4=>wv (aw T .eql ai a1 (.int .i64 1152921504606846976)) fun v5=>brB (some v5)
 (wv (af T G4 ai (.ptr i1 [0] 0)) fun v6=>wv (aw T .sub ai v6 (.int .i64 1)) fun v7=>wv (af T G4 ai (.ptr i1 [1] 1)) fun v8=>wv (bk T aY [(0,v7),(1,v8)]) fun v9=>wg (ax T G4 aY (.ptr i3 [] 0) v9) fun G10=>wv (af T G10 aY (.ptr i3 [] 0)) fun v11=>Q v11 G10)
 (wv (af T G4 ai (.ptr i1 [1] 1)) fun v12=>wv (aw T .sub ai v12 a1) fun v13=>wg (ax T G4 ai (.ptr i1 [1] 1) v13) fun G14=>wv (af T G14 ai (.ptr i1 [1] 1)) fun v15=>wv (aw T .lss ai v15 (.int .i64 0)) fun v16=>brB (some v16)
 (wv (af T G14 ai (.ptr i1 [0] 0)) fun v17=>wv (aw T .sub ai v17 (.int .i64 1)) fun v18=>wv (af T G14 ai (.ptr i1 [1] 1)) fun v19=>wv (aw T .add ai v19 (.int .i64 1152921504606846976)) fun v20=>wv (bk T aY [(0,v18),(1,v20)]) fun v21=>wg (ax T G14 aY (.ptr i3 [] 0) v21) fun G22=>wv (af T G22 aY (.ptr i3 [] 0)) fun v23=>Q v23 G22)
 (wv (af T G14 aY (.ptr i1 [] 0)) fun v24=>wg (ax T G14 aY (.ptr i3 [] 0) v24) fun G25=>wv (af T G25 aY (.ptr i3 [] 0)) fun v26=>Q v26 G25))
def dc.an:Ann:=.nil
set_option maxRecDepth 100000 in
theorem dc.sound {a0 a1:ag} {G:ah} {Q:ag -> ah -> Prop} (h:dc.S a0 a1 G Q):al P dc.n [a0,a1] G Q:=by
 have e:dc.S a0 a1 G Q = awp cx (dc.body) dc.an (bK T [.cell 4 231] Q) (dN [a0,a1]) G:=by kernel_rfl
 exact ay dO (f:=dc.n) (fn:=Tryz.f219) (c:=dc.body) (an:=dc.an) Tryz.func219 (by kernel_rfl) (by kernel_rfl) (by kernel_rfl) (aF (by kernel_rfl) (by kernel_rfl)) (by simp [Tryz.f219]) (e ▸ h)
def dt.S (a0 a1:ag) (G:ah) (Q:ag -> ah -> Prop):Prop :=
 br G (.own (a1)) fun i1 G2=>∀ R3:List ag -> ah -> Prop,
 (∀ (x5 x6 x7 x8 x9:ag) (G4:ah),(wv (gF T G4 aq x5) fun v10=>wv (aw T .lss au x9 v10) fun v11=>brB (some v11)
 (let J47:ag -> ah -> Prop:=(fun x20 G19=>brB (some x20)
 (wv (af T G19 aU x6) fun v21=>bh T aq 1 [(0,v21)] G19 fun v22 G23=>cc T G23 aq aq x7 v22 fun v24 G25=>wv (aL T aq x5 x9) fun v35=>wv (af T G25 aU v35) fun v36=>bh T aq 1 [(0,v36)] G25 fun v37 G38=>cc T G38 aq aq v24 v37 fun v39 G40=>wv (aw T .add au x9 (.int .i64 1)) fun v52=>R3 [x5,x6,v39,.bool true,v52] G40)
 (wv (aL T aq x5 x9) fun v41=>wv (af T G19 aU v41) fun v42=>bh T aq 1 [(0,v42)] G19 fun v43 G44=>cc T G44 aq aq x7 v43 fun v45 G46=>wv (aw T .add au x9 (.int .i64 1)) fun v53=>R3 [x5,x6,v45,x8,v53] G46));
 wv (vun .not x8) fun v12=>brB (some v12)
 (wv (aL T aq x5 x9) fun v13=>wv (bx T aU v13 1) fun v14=>wv (af T G4 ai v14) fun v15=>wv (bx T aU x6 1) fun v16=>wv (af T G4 ai v16) fun v17=>wv (aw T .gtr ai v15 v17) fun v18=>J47 v18 G4)
 (J47 (.bool false) G4))
 (wv (vun .not x8) fun v54=>brB (some v54)
 (wv (af T G4 aU x6) fun v55=>bh T aq 1 [(0,v55)] G4 fun v56 G57=>cc T G57 aq aq x7 v56 fun v58 G59=>Q v58 G59)
 (Q x7 G4))) -> R3 [x5,x6,x7,x8,x9] G4) ->
 R3 [a0,.ptr i1 [] 0,.nilSlice,.bool false,.int .i64 0] G2
def dt.an:Ann:=.two (.nil) (.two (.nil) (.two (.nil) (.two (.two (.nil) (.loop [0,3,5,6,7] [false,false,false,false,false] (.two (.nil) (.two (.two (.two (.ord [(0,[]),(1,[]),(2,[]),(3,[]),(4,[]),(5,[]),(6,[]),(7,[]),(8,[]),(9,[]),(10,[]),(11,[])]) (.nil)) (.nil)) (.nil))))) (.nil))))
set_option maxRecDepth 100000 in
theorem dt.sound {a0 a1:ag} {G:ah} {Q:ag -> ah -> Prop} (h:dt.S a0 a1 G Q):al P dt.n [a0,a1] G Q:=by
 have e:dt.S a0 a1 G Q = awp cx (dt.body) dt.an (bK T [.tmp 4] Q) (dN [a0,a1]) G:=by kernel_rfl
 exact ay dO (f:=dt.n) (fn:=Tryz.f220) (c:=dt.body) (an:=dt.an) Tryz.func220 (by kernel_rfl) (by kernel_rfl) (by kernel_rfl) (aF (by kernel_rfl) (by kernel_rfl)) (by simp [Tryz.f220]) (e ▸ h)
def dH.S (a0 a1 a2 a3 a4:ag) (G:ah) (Q:ag -> ah -> Prop):Prop :=
 br G (.own (a0)) fun i1 G2=>br G2 (.own (a1)) fun i3 G4=>br G4 (.own (iJ)) fun i5 G6=>br G6 (.own (iJ)) fun i7 G8=>∀ R9:List ag -> ah -> Prop,
 (∀ (x11 x12 x13 x14 x15 x16 x17 x18 x19:ag) (G10:ah),(wv (gF T G10 ak x11) fun v20=>wv (aw T .lss au x19 v20) fun v21=>brB (some v21)
 (let J64:ag -> ah -> Prop:=(fun x62 G61=>wv (aw T .add au x19 (.int .i64 1)) fun v63=>R9 [x11,x12,x13,x14,x15,x16,x17,x62,v63] G61);
 wv (aL T ak x11 x19) fun v22=>wv (af T G10 aI v22) fun v23=>br G10 (.own (gy)) fun i24 G25=>wg (ax T G25 aI (.ptr i24 [] 0) v23) fun G26=>wv (af T G26 au (.ptr i24 [0] 0)) fun v27=>wv (aw T .neq au v27 (.int .i64 1)) fun v28=>brB (some v28)
 (J64 x18 G26)
 (wv (af T G26 ai (.ptr i24 [1] 1)) fun v29=>al P cO.n [x12,v29] G26 fun v30 G31=>wv (aw T .eql au v30 (.int .i64 2)) fun v32=>brB (some v32)
 (wv (af T G31 aY x14) fun v33=>wv (af T G31 ai (.ptr i24 [2] 2)) fun v34=>al P dc.n [v33,v34] G31 fun v35 G36=>wg (ax T G36 aY x14 v35) fun G37=>wv (af T G37 aY x15) fun v38=>wv (af T G37 ai (.ptr i24 [2] 2)) fun v39=>al P cU.n [v38,v39] G37 fun v40 G41=>wg (ax T G41 aY x15 v40) fun G42=>J64 x18 G42)
 (wv (aw T .eql au v30 (.int .i64 0)) fun v43=>brB (some v43)
 (wv (af T G31 aY x14) fun v44=>wv (af T G31 ai (.ptr i24 [2] 2)) fun v45=>al P dc.n [v44,v45] G31 fun v46 G47=>wg (ax T G47 aY x14 v46) fun G48=>wv (af T G48 ai (.ptr i24 [1] 1)) fun v49=>wv (af T G48 ai (.ptr i24 [2] 2)) fun v50=>wv (af T G48 aj (.ptr i24 [3] 3)) fun v51=>wv (bk T aU [(0,x13),(1,v49),(2,v50),(3,v51)]) fun v52=>al P dt.n [x18,v52] G48 fun v53 G54=>J64 v53 G54)
 (J64 x18 G31))))
 (wv (af T G10 aY x14) fun v65=>wv (af T G10 aY x15) fun v66=>wg (ax T G10 aY x16 v65) fun G67=>(af T G67 aY x15 = some v66 /\ True) /\ (wg (ax T G67 aY x17 v66) fun G68=>wv (af T G68 aY x16) fun v69=>wv (af T G68 aY x17) fun v70=>Q (.tuple [v69,v70,x18]) G68))) -> R9 [x11,x12,x13,x14,x15,x16,x17,x18,x19] G10) ->
 R9 [a2,a3,a4,.ptr i1 [] 0,.ptr i3 [] 0,.ptr i5 [] 0,.ptr i7 [] 0,.nilSlice,.int .i64 0] G8
def dH.an:Ann:=.two (.nil) (.two (.nil) (.two (.two (.nil) (.loop [2,3,4,5,6,10,11,13,14] [false,false,false,false,false,false,false,false,false] (.nil))) (.two (.ord [(0,[]),(1,[]),(2,[]),(3,[1]),(4,[]),(5,[])]) (.nil))))
set_option maxRecDepth 100000 in
theorem dH.sound {a0 a1 a2 a3 a4:ag} {G:ah} {Q:ag -> ah -> Prop} (h:dH.S a0 a1 a2 a3 a4 G Q):al P dH.n [a0,a1,a2,a3,a4] G Q:=by
 have e:dH.S a0 a1 a2 a3 a4 G Q = awp cx (dH.body) dH.an (bK T [.cell 10 231,.cell 11 231,.tmp 12] Q) (dN [a0,a1,a2,a3,a4]) G:=by kernel_rfl
 exact ay dO (f:=dH.n) (fn:=Tryz.f197) (c:=dH.body) (an:=dH.an) Tryz.func197 (by kernel_rfl) (by kernel_rfl) (by kernel_rfl) (aF (by kernel_rfl) (by kernel_rfl)) (by simp [Tryz.f197]) (e ▸ h)
def eG.S (a0:ag) (G:ah) (Q:ag -> ah -> Prop):Prop :=
 br G (.own (a0)) fun i1 G2=>wv (af T G2 ai (.ptr i1 [0] 0)) fun v3=>wv (aw T .lss ai v3 (.int .i64 0)) fun v4=>brB (some v4)
 (Q (.int .i64 0) G2)
 (wv (af T G2 ai (.ptr i1 [0] 0)) fun v5=>wv (aw T .gtr ai v5 (.int .i64 0)) fun v6=>brB (some v6)
 (Q (.int .i64 1152921504606846976) G2)
 (wv (af T G2 ai (.ptr i1 [1] 1)) fun v7=>Q v7 G2))
def eG.an:Ann:=.nil
set_option maxRecDepth 100000 in
theorem eG.sound {a0:ag} {G:ah} {Q:ag -> ah -> Prop} (h:eG.S a0 G Q):al P eG.n [a0] G Q:=by
 have e:eG.S a0 G Q = awp cx (eG.body) eG.an (bK T [.tmp 2] Q) (dN [a0]) G:=by kernel_rfl
 exact ay dO (f:=eG.n) (fn:=Tryz.f199) (c:=eG.body) (an:=eG.an) Tryz.func199 (by kernel_rfl) (by kernel_rfl) (by kernel_rfl) (aF (by kernel_rfl) (by kernel_rfl)) (by simp [Tryz.f199]) (e ▸ h)
def dI.S (a0 a1 a2 a3 a4:ag) (G:ah) (Q:ag -> ah -> Prop):Prop :=
 br G (.own (a4)) fun i1 G2=>br G2 (.own (iZ)) fun i3 G4=>let J93:ag -> ah -> Prop:=(fun x26 G25=>brB (some x26)
 (wv (bk T bc []) fun v27=>wg (ax T G25 bc (.ptr i3 [] 0) v27) fun G28=>wv (af T G28 bc (.ptr i3 [] 0)) fun v29=>Q (.tuple [v29,.int .i64 1]) G28)
 (wv (af T G25 au (.ptr i1 [0] 0)) fun v30=>wv (fj T ak a2 none (some (v30)) none) fun v31=>wv (af T G25 au (.ptr i1 [1] 1)) fun v32=>wv (fj T ak a3 none (some (v32)) none) fun v33=>let J92:ag -> ah -> Prop:=(fun x41 G40=>brB (some x41)
 (wv (bk T bc []) fun v42=>wg (ax T G40 bc (.ptr i3 [] 0) v42) fun G43=>wv (af T G43 bc (.ptr i3 [] 0)) fun v44=>Q (.tuple [v44,.int .i64 120]) G43)
 (wv (bk T aY []) fun v45=>al P cU.n [v45,a0] G40 fun v46 G47=>wv (bk T aY []) fun v48=>al P cU.n [v48,a1] G47 fun v49 G50=>al P dH.n [v46,v49,v31,v33,.bool true] G50 fun v51 G52=>wv (aW v51 0) fun v53=>wv (aW v51 1) fun v54=>wv (aW v51 2) fun v55=>br G52 (.own (iJ)) fun i56 G57=>br G57 (.own (iJ)) fun i58 G59=>wg (ax T G59 aY (.ptr i56 [] 0) v53) fun G60=>wg (ax T G60 aY (.ptr i58 [] 0) v54) fun G61=>wv (af T G61 aY (.ptr i58 [] 0)) fun v62=>wv (af T G61 aY (.ptr i56 [] 0)) fun v63=>al P dH.n [v62,v63,v33,v31,.bool false] G61 fun v64 G65=>wv (aW v64 0) fun v66=>wv (aW v64 1) fun v67=>wv (aW v64 2) fun v68=>wg (ax T G65 aY (.ptr i58 [] 0) v66) fun G69=>wg (ax T G69 aY (.ptr i56 [] 0) v67) fun G70=>let J91:ag -> ah -> Prop:=(fun x76 G75=>brB (some x76)
 (wv (bk T bc []) fun v77=>wg (ax T G75 bc (.ptr i3 [] 0) v77) fun G78=>wv (af T G78 bc (.ptr i3 [] 0)) fun v79=>Q (.tuple [v79,.int .i64 130]) G78)
 (wv (af T G75 aY (.ptr i56 [] 0)) fun v80=>wv (af T G75 aY (.ptr i58 [] 0)) fun v81=>al P eG.n [v80] G75 fun v82 G83=>(af T G83 aY (.ptr i58 [] 0) = some v81 /\ True) /\ (al P eG.n [v81] G83 fun v84 G85=>cc T G85 aq aq v55 v68 fun v86 G87=>wv (bk T bc [(0,v82),(1,v84),(2,v86)]) fun v88=>wg (ax T G87 bc (.ptr i3 [] 0) v88) fun G89=>wv (af T G89 bc (.ptr i3 [] 0)) fun v90=>Q (.tuple [v90,.int .i64 0]) G89)));
 wv (af T G70 ai (.ptr i56 [0] 0)) fun v71=>wv (aw T .lss ai v71 (.int .i64 0)) fun v72=>brB (some v72)
 (J91 (.bool true) G70)
 (wv (af T G70 ai (.ptr i58 [0] 0)) fun v73=>wv (aw T .lss ai v73 (.int .i64 0)) fun v74=>J91 v74 G70)));
 al P db.n [v31] G25 fun v34 G35=>wv (vun .not v34) fun v36=>brB (some v36)
 (J92 (.bool true) G35)
 (al P db.n [v33] G35 fun v37 G38=>wv (vun .not v37) fun v39=>J92 v39 G38)));
 wv (af T G4 au (.ptr i1 [0] 0)) fun v5=>wv (aw T .lss au v5 (.int .i64 0)) fun v6=>brB (some v6)
 (J93 (.bool true) G4)
 (wv (af T G4 au (.ptr i1 [0] 0)) fun v7=>wv (gF T G4 ak a2) fun v8=>wv (aw T .gtr au v7 v8) fun v9=>brB (some v9)
 (J93 (.bool true) G4)
 (wv (af T G4 au (.ptr i1 [1] 1)) fun v10=>wv (aw T .lss au v10 (.int .i64 0)) fun v11=>brB (some v11)
 (J93 (.bool true) G4)
 (wv (af T G4 au (.ptr i1 [1] 1)) fun v12=>wv (gF T G4 ak a3) fun v13=>wv (aw T .gtr au v12 v13) fun v14=>brB (some v14)
 (J93 (.bool true) G4)
 (al P cm.n [a0] G4 fun v15 G16=>wv (vun .not v15) fun v17=>brB (some v17)
 (J93 (.bool true) G16)
 (al P cm.n [a1] G16 fun v18 G19=>wv (vun .not v18) fun v20=>brB (some v20)
 (J93 (.bool true) G19)
 (wv (aw T .add ai a0 a1) fun v21=>al P cm.n [v21] G19 fun v22 G23=>wv (vun .not v22) fun v24=>J93 v24 G23))))))
def dI.an:Ann:=.two (.nil) (.two (.nil) (.two (.nil) (.two (.nil) (.two (.nil) (.two (.nil) (.two (.nil) (.two (.nil) (.two (.ord [(0,[]),(2,[]),(4,[]),(5,[]),(1,[2]),(3,[]),(6,[]),(7,[]),(8,[]),(9,[])]) (.nil)))))))))
set_option maxRecDepth 100000 in
theorem dI.sound {a0 a1 a2 a3 a4:ag} {G:ah} {Q:ag -> ah -> Prop} (h:dI.S a0 a1 a2 a3 a4 G Q):al P dI.n [a0,a1,a2,a3,a4] G Q:=by
 have e:dI.S a0 a1 a2 a3 a4 G Q = awp cx (dI.body) dI.an (bK T [.cell 10 126,.tmp 11] Q) (dN [a0,a1,a2,a3,a4]) G:=by kernel_rfl
 exact ay dO (f:=dI.n) (fn:=Tryz.f158) (c:=dI.body) (an:=dI.an) Tryz.func158 (by kernel_rfl) (by kernel_rfl) (by kernel_rfl) (aF (by kernel_rfl) (by kernel_rfl)) (by simp [Tryz.f158]) (e ▸ h)
def da.S (a0 a1:ag) (G:ah) (Q:ag -> ah -> Prop):Prop :=
 ∀ R1:List ag -> ah -> Prop,
 (∀ (x3 x4 x5 x6:ag) (G2:ah),(wv (gF T G2 aq x3) fun v7=>wv (aw T .lss au x6 v7) fun v8=>brB (some v8)
 (wv (aL T aq x3 x6) fun v9=>wv (bx T aU v9 0) fun v10=>wv (af T G2 ey v10) fun v11=>wv (aw T .eql ey v11 x4) fun v12=>brB (some v12)
 (wv (aw T .add au x5 (.int .i64 1)) fun v13=>wv (aw T .add au x6 (.int .i64 1)) fun v19=>R1 [x3,x4,v13,v19] G2)
 (wv (aw T .add au x6 (.int .i64 1)) fun v20=>R1 [x3,x4,x5,v20] G2))
 (Q x5 G2)) -> R1 [x3,x4,x5,x6] G2) ->
 R1 [a0,a1,.int .i64 0,.int .i64 0] G
def da.an:Ann:=.two (.nil) (.two (.nil) (.two (.two (.nil) (.loop [0,1,5,6] [false,false,false,false] (.nil))) (.nil)))
set_option maxRecDepth 100000 in
theorem da.sound {a0 a1:ag} {G:ah} {Q:ag -> ah -> Prop} (h:da.S a0 a1 G Q):al P da.n [a0,a1] G Q:=by
 have e:da.S a0 a1 G Q = awp cx (da.body) da.an (bK T [.tmp 4] Q) (dN [a0,a1]) G:=by kernel_rfl
 exact ay dO (f:=da.n) (fn:=Tryz.f221) (c:=da.body) (an:=da.an) Tryz.func221 (by kernel_rfl) (by kernel_rfl) (by kernel_rfl) (aF (by kernel_rfl) (by kernel_rfl)) (by simp [Tryz.f221]) (e ▸ h)
def dV.S (a0:ag) (G:ah) (Q:ag -> ah -> Prop):Prop :=
 br G (.own (a0)) fun i1 G2=>let J85:ag -> ah -> Prop:=(fun x20 G19=>brB (some x20)
 (Q (.bool false) G19)
 (∀ R21:List ag -> ah -> Prop,
 (∀ (x23 x24:ag) (G22:ah),(wv (bx T bc x23 2) fun v25=>wv (af T G22 aq v25) fun v26=>wv (gF T G22 aq v26) fun v27=>wv (aw T .lss au x24 v27) fun v28=>brB (some v28)
 (wv (bx T bc x23 2) fun v29=>wv (af T G22 aq v29) fun v30=>wv (aL T aq v30 x24) fun v31=>wv (af T G22 aU v31) fun v32=>br G22 (.own (iX)) fun i33 G34=>wg (ax T G34 aU (.ptr i33 [] 0) v32) fun G35=>let J83:ag -> ah -> Prop:=(fun x43 G42=>brB (some x43)
 (Q (.bool false) G42)
 (∀ R44:List ag -> ah -> Prop,
 (∀ (x46 x47 x48 x49:ag) (G45:ah),(wv (aw T .lss au x49 x47) fun v50=>brB (some v50)
 (let J82:ah -> Prop:=(fun G80=>wv (aw T .add au x49 (.int .i64 1)) fun v81=>R44 [x46,x47,x48,v81] G80);
 wv (bx T bc x46 2) fun v51=>wv (af T G45 aq v51) fun v52=>wv (aL T aq v52 x49) fun v53=>wv (af T G45 aU v53) fun v54=>br G45 (.own (iX)) fun i55 G56=>wg (ax T G56 aU (.ptr i55 [] 0) v54) fun G57=>wv (bx T aU x48 0) fun v58=>wv (af T G57 ey v58) fun v59=>brB (some v59)
 (wv (af T G57 ey (.ptr i55 [0] 0)) fun v60=>wv (vun .not v60) fun v61=>brB (some v61)
 (Q (.bool false) G57)
 (wv (bx T aU x48 0) fun v62=>wv (af T G57 ey v62) fun v63=>wv (af T G57 ey (.ptr i55 [0] 0)) fun v64=>wv (aw T .eql ey v63 v64) fun v65=>brB (some v65)
 (wv (af T G57 ai (.ptr i55 [1] 1)) fun v66=>wv (bx T aU x48 1) fun v67=>wv (af T G57 ai v67) fun v68=>wv (aw T .geq ai v66 v68) fun v69=>brB (some v69)
 (Q (.bool false) G57)
 (J82 G57))
 (J82 G57)))
 (wv (bx T aU x48 0) fun v70=>wv (af T G57 ey v70) fun v71=>wv (af T G57 ey (.ptr i55 [0] 0)) fun v72=>wv (aw T .eql ey v71 v72) fun v73=>brB (some v73)
 (wv (af T G57 ai (.ptr i55 [1] 1)) fun v74=>wv (bx T aU x48 1) fun v75=>wv (af T G57 ai v75) fun v76=>wv (aw T .geq ai v74 v76) fun v77=>brB (some v77)
 (Q (.bool false) G57)
 (J82 G57))
 (J82 G57)))
 (wv (aw T .add au x47 (.int .i64 1)) fun v84=>R21 [x46,v84] G45)) -> R44 [x46,x47,x48,x49] G45) ->
 R44 [x23,x24,.ptr i33 [] 0,.int .i64 0] G42));
 wv (af T G35 ai (.ptr i33 [1] 1)) fun v36=>wv (aw T .lss ai v36 (.int .i64 0)) fun v37=>brB (some v37)
 (J83 (.bool true) G35)
 (wv (af T G35 ai (.ptr i33 [2] 2)) fun v38=>wv (aw T .lss ai v38 (.int .i64 1)) fun v39=>brB (some v39)
 (J83 (.bool true) G35)
 (wv (af T G35 ai (.ptr i33 [2] 2)) fun v40=>wv (aw T .gtr ai v40 (.int .i64 1152921504606846976)) fun v41=>J83 v41 G35)))
 (Q (.bool true) G22)) -> R21 [x23,x24] G22) ->
 R21 [.ptr i1 [] 0,.int .i64 0] G19));
 wv (af T G2 ai (.ptr i1 [0] 0)) fun v3=>wv (aw T .lss ai v3 (.int .i64 0)) fun v4=>brB (some v4)
 (J85 (.bool true) G2)
 (wv (af T G2 ai (.ptr i1 [0] 0)) fun v5=>wv (aw T .gtr ai v5 (.int .i64 1152921504606846976)) fun v6=>brB (some v6)
 (J85 (.bool true) G2)
 (wv (af T G2 ai (.ptr i1 [1] 1)) fun v7=>wv (aw T .lss ai v7 (.int .i64 0)) fun v8=>brB (some v8)
 (J85 (.bool true) G2)
 (wv (af T G2 ai (.ptr i1 [1] 1)) fun v9=>wv (aw T .gtr ai v9 (.int .i64 1152921504606846976)) fun v10=>brB (some v10)
 (J85 (.bool true) G2)
 (wv (af T G2 aq (.ptr i1 [2] 2)) fun v11=>al P da.n [v11,.bool true] G2 fun v12 G13=>wv (aw T .gtr au v12 (.int .i64 483)) fun v14=>brB (some v14)
 (J85 (.bool true) G13)
 (wv (af T G13 aq (.ptr i1 [2] 2)) fun v15=>al P da.n [v15,.bool false] G13 fun v16 G17=>wv (aw T .gtr au v16 (.int .i64 483)) fun v18=>J85 v18 G17)))))
def dV.an:Ann:=.two (.nil) (.two (.nil) (.two (.two (.nil) (.loop [1,3] [false,false] (.two (.nil) (.two (.two (.nil) (.two (.nil) (.two (.nil) (.loop [1,3,4,5] [false,false,false,false] (.nil))))) (.nil))))) (.nil)))
set_option maxRecDepth 100000 in
theorem dV.sound {a0:ag} {G:ah} {Q:ag -> ah -> Prop} (h:dV.S a0 G Q):al P dV.n [a0] G Q:=by
 have e:dV.S a0 G Q = awp cx (dV.body) dV.an (bK T [.tmp 2] Q) (dN [a0]) G:=by kernel_rfl
 exact ay dO (f:=dV.n) (fn:=Tryz.f200) (c:=dV.body) (an:=dV.an) Tryz.func200 (by kernel_rfl) (by kernel_rfl) (by kernel_rfl) (aF (by kernel_rfl) (by kernel_rfl)) (by simp [Tryz.f200]) (e ▸ h)
def b5.S (a0 a1 a2:ag) (G:ah) (Q:ag -> ah -> Prop):Prop :=
 wv (aw T .sub au a2 (.int .i64 1)) fun v1=>∀ R2:List ag -> ah -> Prop,
 (∀ (x4 x5 x6:ag) (G3:ah),(wv (aw T .geq au x6 (.int .i64 0)) fun v7=>brB (some v7)
 (wv (aw T .mul au (.int .i64 8) x6) fun v8=>wv (aw T .shr ai x5 v8) fun v9=>wv (gi T G3 ai cg v9) fun v10=>bh T aP 1 [(0,v10)] G3 fun v11 G12=>cc T G12 aP aP x4 v11 fun v13 G14=>wv (aw T .sub au x6 (.int .i64 1)) fun v15=>R2 [v13,x5,v15] G14)
 (Q x4 G3)) -> R2 [x4,x5,x6] G3) ->
 R2 [a0,a1,v1] G
def b5.an:Ann:=.two (.nil) (.two (.two (.nil) (.loop [0,1,7] [false,false,false] (.nil))) (.nil))
set_option maxRecDepth 100000 in
theorem b5.sound {a0 a1 a2:ag} {G:ah} {Q:ag -> ah -> Prop} (h:b5.S a0 a1 a2 G Q):al P b5.n [a0,a1,a2] G Q:=by
 have e:b5.S a0 a1 a2 G Q = awp cx (b5.body) b5.an (bK T [.tmp 6] Q) (dN [a0,a1,a2]) G:=by kernel_rfl
 exact ay dO (f:=b5.n) (fn:=Tryz.f201) (c:=b5.body) (an:=b5.an) Tryz.func201 (by kernel_rfl) (by kernel_rfl) (by kernel_rfl) (aF (by kernel_rfl) (by kernel_rfl)) (by simp [Tryz.f201]) (e ▸ h)
def dG.S (a0 a1 a2 a3:ag) (G:ah) (Q:ag -> ah -> Prop):Prop :=
 br G (.own (a2)) fun i1 G2=>br G2 (.own (a3)) fun i3 G4=>let J68:ag -> ah -> Prop:=(fun x10 G9=>brB (some x10)
 (Q (.tuple [.str [],.int .i64 1]) G9)
 (wv (af T G9 bc (.ptr i3 [] 0)) fun v11=>al P dV.n [v11] G9 fun v12 G13=>wv (vun .not v12) fun v14=>brB (some v14)
 (Q (.tuple [.str [],.int .i64 4]) G13)
 (wv (gi T G13 au cg a0) fun v15=>bh T aP 1 [(0,v15)] G13 fun v16 G17=>al P b5.n [v16,a1,.int .i64 8] G17 fun v18 G19=>wv (fj T aj (.ptr i1 [] 0) none none none) fun v20=>cc T G19 aP aP v18 v20 fun v21 G22=>wv (af T G22 ai (.ptr i3 [0] 0)) fun v23=>al P b5.n [v21,v23,.int .i64 8] G22 fun v24 G25=>wv (af T G25 ai (.ptr i3 [1] 1)) fun v26=>al P b5.n [v24,v26,.int .i64 8] G25 fun v27 G28=>wv (af T G28 aq (.ptr i3 [2] 2)) fun v29=>wv (gF T G28 aq v29) fun v30=>al P b5.n [v27,v30,.int .i64 2] G28 fun v31 G32=>∀ R33:List ag -> ah -> Prop,
 (∀ (x35 x36 x37:ag) (G34:ah),(wv (bx T bc x35 2) fun v38=>wv (af T G34 aq v38) fun v39=>wv (gF T G34 aq v39) fun v40=>wv (aw T .lss au x37 v40) fun v41=>brB (some v41)
 (wv (bx T bc x35 2) fun v42=>wv (af T G34 aq v42) fun v43=>wv (aL T aq v43 x37) fun v44=>wv (af T G34 aU v44) fun v45=>br G34 (.own (iX)) fun i46 G47=>wg (ax T G47 aU (.ptr i46 [] 0) v45) fun G48=>wv (af T G48 ey (.ptr i46 [0] 0)) fun v49=>let J65:ag -> ah -> Prop:=(fun x51 G50=>bh T aP 1 [(0,x51)] G50 fun v52 G53=>cc T G53 aP aP x36 v52 fun v54 G55=>wv (af T G55 ai (.ptr i46 [1] 1)) fun v56=>al P b5.n [v54,v56,.int .i64 8] G55 fun v57 G58=>wv (af T G58 ai (.ptr i46 [2] 2)) fun v59=>al P b5.n [v57,v59,.int .i64 8] G58 fun v60 G61=>wv (fj T aj (.ptr i46 [3] 3) none none none) fun v62=>cc T G61 aP aP v60 v62 fun v63 G64=>wv (aw T .add au x37 (.int .i64 1)) fun v66=>R33 [x35,v63,v66] G64);
 brB (some v49)
 (J65 (.int .u8 1) G48)
 (J65 (.int .u8 0) G48))
 (wv (gi T G34 aP bH x36) fun v67=>Q (.tuple [v67,.int .i64 0]) G34)) -> R33 [x35,x36,x37] G34) ->
 R33 [.ptr i3 [] 0,v31,.int .i64 0] G32)));
 wv (aw T .lss au a0 (.int .i64 0)) fun v5=>brB (some v5)
 (J68 (.bool true) G4)
 (wv (aw T .gtr au a0 (.int .i64 1)) fun v6=>brB (some v6)
 (J68 (.bool true) G4)
 (wv (aw T .lss ai a1 (.int .i64 0)) fun v7=>brB (some v7)
 (J68 (.bool true) G4)
 (wv (aw T .gtr ai a1 (.int .i64 281474976710655)) fun v8=>J68 v8 G4)))
def dG.an:Ann:=.two (.nil) (.two (.nil) (.two (.nil) (.two (.nil) (.two (.nil) (.two (.nil) (.two (.nil) (.two (.nil) (.two (.nil) (.two (.two (.nil) (.loop [7,10,11] [false,false,false] (.nil))) (.nil))))))))))
set_option maxRecDepth 100000 in
theorem dG.sound {a0 a1 a2 a3:ag} {G:ah} {Q:ag -> ah -> Prop} (h:dG.S a0 a1 a2 a3 G Q):al P dG.n [a0,a1,a2,a3] G Q:=by
 have e:dG.S a0 a1 a2 a3 G Q = awp cx (dG.body) dG.an (bK T [.tmp 8,.tmp 9] Q) (dN [a0,a1,a2,a3]) G:=by kernel_rfl
 exact ay dO (f:=dG.n) (fn:=Tryz.f159) (c:=dG.body) (an:=dG.an) Tryz.func159 (by kernel_rfl) (by kernel_rfl) (by kernel_rfl) (aF (by kernel_rfl) (by kernel_rfl)) (by simp [Tryz.f159]) (e ▸ h)
def eQ.S (a0:ag) (G:ah) (Q:ag -> ah -> Prop):Prop :=
 br G (.own (a0)) fun i1 G2=>br G2 (.own (iZ)) fun i3 G4=>wv (af T G4 ai (.ptr i1 [1] 1)) fun v5=>wv (af T G4 ai (.ptr i1 [0] 0)) fun v6=>wv (bk T bc [(0,v5),(1,v6)]) fun v7=>br G4 (.own (iZ)) fun i8 G9=>wg (ax T G9 bc (.ptr i8 [] 0) v7) fun G10=>∀ R11:List ag -> ah -> Prop,
 (∀ (x13 x14 x15 x16:ag) (G12:ah),(wv (aw T .lss au x16 (.int .i64 2)) fun v17=>brB (some v17)
 (∀ R18:List ag -> ah -> Prop,
 (∀ (x20 x21 x22 x23 x24:ag) (G19:ah),(wv (bx T bc x20 2) fun v25=>wv (af T G19 aq v25) fun v26=>wv (gF T G19 aq v26) fun v27=>wv (aw T .lss au x24 v27) fun v28=>brB (some v28)
 (wv (bx T bc x20 2) fun v29=>wv (af T G19 aq v29) fun v30=>wv (aL T aq v30 x24) fun v31=>wv (af T G19 aU v31) fun v32=>br G19 (.own (iX)) fun i33 G34=>wg (ax T G34 aU (.ptr i33 [] 0) v32) fun G35=>wv (af T G35 ey (.ptr i33 [0] 0)) fun v36=>wv (aw T .eql au x23 (.int .i64 1)) fun v37=>wv (aw T .eql ey v36 v37) fun v38=>brB (some v38)
 (wv (af T G35 ey (.ptr i33 [0] 0)) fun v39=>wv (vun .not v39) fun v40=>wg (ax T G35 ey (.ptr i33 [0] 0) v40) fun G41=>wv (bx T bc x22 2) fun v42=>wv (af T G41 aq v42) fun v43=>wv (af T G41 aU (.ptr i33 [] 0)) fun v44=>bh T aq 1 [(0,v44)] G41 fun v45 G46=>cc T G46 aq aq v43 v45 fun v47 G48=>wv (bx T bc x22 2) fun v49=>wg (ax T G48 aq v49 v47) fun G50=>wv (aw T .add au x24 (.int .i64 1)) fun v54=>R18 [x20,x21,x22,x23,v54] G50)
 (wv (aw T .add au x24 (.int .i64 1)) fun v55=>R18 [x20,x21,x22,x23,v55] G35))
 (wv (aw T .add au x23 (.int .i64 1)) fun v56=>R11 [x20,x21,x22,v56] G19)) -> R18 [x20,x21,x22,x23,x24] G19) ->
 R18 [x13,x14,x15,x16,.int .i64 0] G12)
 (wv (af T G12 bc x15) fun v57=>wg (ax T G12 bc x14 v57) fun G58=>wv (af T G58 bc x14) fun v59=>Q v59 G58)) -> R11 [x13,x14,x15,x16] G12) ->
 R11 [.ptr i1 [] 0,.ptr i3 [] 0,.ptr i8 [] 0,.int .i64 0] G10
def eQ.an:Ann:=.two (.nil) (.two (.nil) (.two (.two (.nil) (.loop [1,2,3,4] [false,false,false,false] (.two (.nil) (.two (.two (.nil) (.loop [1,2,3,4,5] [false,false,false,false,false] (.nil))) (.nil))))) (.nil)))
set_option maxRecDepth 100000 in
theorem eQ.sound {a0:ag} {G:ah} {Q:ag -> ah -> Prop} (h:eQ.S a0 G Q):al P eQ.n [a0] G Q:=by
 have e:eQ.S a0 G Q = awp cx (eQ.body) eQ.an (bK T [.cell 2 126] Q) (dN [a0]) G:=by kernel_rfl
 exact ay dO (f:=eQ.n) (fn:=Tryz.f193) (c:=eQ.body) (an:=eQ.an) Tryz.func193 (by kernel_rfl) (by kernel_rfl) (by kernel_rfl) (aF (by kernel_rfl) (by kernel_rfl)) (by simp [Tryz.f193]) (e ▸ h)
def dm.S (a0 a1 a2:ag) (G:ah) (Q:ag -> ah -> Prop):Prop :=
 br G (.own (a0)) fun i1 G2=>br G2 (.own (a2)) fun i3 G4=>wv (aL T cL (.ptr i1 [13] 16) (.int .i64 0)) fun v5=>wv (af T G4 aj v5) fun v6=>br G4 (.own (cI)) fun i7 G8=>wg (ax T G8 aj (.ptr i7 [] 0) v6) fun G9=>wv (af T G9 ai (.ptr i1 [8] 8)) fun v10=>wv (aw T .neq ai a1 v10) fun v11=>let J40:ah -> Prop:=(fun G15=>wv (af T G15 ai (.ptr i1 [2] 2)) fun v16=>wv (af T G15 ai (.ptr i1 [3] 3)) fun v17=>wv (af T G15 ak (.ptr i1 [4] 4)) fun v18=>wv (af T G15 ak (.ptr i1 [5] 5)) fun v19=>wv (af T G15 bG (.ptr i3 [] 0)) fun v20=>al P dI.n [v16,v17,v18,v19,v20] G15 fun v21 G22=>wv (aW v21 0) fun v23=>wv (aW v21 1) fun v24=>br G22 (.own (iZ)) fun i25 G26=>wg (ax T G26 bc (.ptr i25 [] 0) v23) fun G27=>wv (aw T .neq bq v24 (.int .i64 0)) fun v28=>brB (some v28)
 (Q (.tuple [.str [],.bool false]) G27)
 (wv (af T G27 au (.ptr i1 [0] 0)) fun v29=>wv (aw T .sub au (.int .i64 1) v29) fun v30=>wv (af T G27 aj (.ptr i7 [] 0)) fun v31=>wv (af T G27 bc (.ptr i25 [] 0)) fun v32=>al P eQ.n [v32] G27 fun v33 G34=>(af T G34 aj (.ptr i7 [] 0) = some v31 /\ af T G34 au (.ptr i1 [0] 0) = some v29 /\ True) /\ (al P dG.n [v30,a1,v31,v33] G34 fun v35 G36=>wv (aW v35 0) fun v37=>wv (aW v35 1) fun v38=>wv (aw T .eql bq v38 (.int .i64 0)) fun v39=>Q (.tuple [v37,v39]) G36)));
 brB (some v11)
 (wv (aL T cL (.ptr i1 [13] 16) (.int .i64 1)) fun v12=>wv (af T G9 aj v12) fun v13=>wg (ax T G9 aj (.ptr i7 [] 0) v13) fun G14=>J40 G14)
 (J40 G9)
def dm.an:Ann:=.two (.nil) (.two (.nil) (.two (.nil) (.two (.nil) (.two (.nil) (.two (.ord [(0,[]),(1,[]),(2,[]),(3,[]),(4,[]),(5,[]),(6,[1,4]),(7,[]),(8,[]),(9,[]),(10,[]),(11,[]),(12,[])]) (.nil))))))
set_option maxRecDepth 100000 in
theorem dm.sound {a0 a1 a2:ag} {G:ah} {Q:ag -> ah -> Prop} (h:dm.S a0 a1 a2 G Q):al P dm.n [a0,a1,a2] G Q:=by
 have e:dm.S a0 a1 a2 G Q = awp cx (dm.body) dm.an (bK T [.tmp 6,.tmp 7] Q) (dN [a0,a1,a2]) G:=by kernel_rfl
 exact ay dO (f:=dm.n) (fn:=Tryz.f155) (c:=dm.body) (an:=dm.an) Tryz.func155 (by kernel_rfl) (by kernel_rfl) (by kernel_rfl) (aF (by kernel_rfl) (by kernel_rfl)) (by simp [Tryz.f155]) (e ▸ h)
def eJ.S (a0 a1:ag) (G:ah) (Q:ag -> ah -> Prop):Prop :=
 br G (.own (a0)) fun i1 G2=>∀ R3:List ag -> ah -> Prop,
 (∀ (x5 x6 x7 x8:ag) (G4:ah),(wv (aw T .lss au x8 (.int .i64 64)) fun v9=>brB (some v9)
 (wv (aw T .lss au x8 (.int .i64 32)) fun v10=>brB (some v10)
 (wv (aL T aj x6 x8) fun v11=>wv (af T G4 cg v11) fun v12=>wv (aw T .xor cg v12 x5) fun v20=>bh T aP 1 [(0,v20)] G4 fun v21 G22=>cc T G22 aP aP x7 v21 fun v23 G24=>wv (aw T .add au x8 (.int .i64 1)) fun v33=>R3 [x5,x6,v23,v33] G24)
 (wv (aw T .xor cg (.int .u8 0) x5) fun v25=>bh T aP 1 [(0,v25)] G4 fun v26 G27=>cc T G27 aP aP x7 v26 fun v28 G29=>wv (aw T .add au x8 (.int .i64 1)) fun v34=>R3 [x5,x6,v28,v34] G29))
 (wv (gi T G4 aP bH x7) fun v35=>Q v35 G4)) -> R3 [x5,x6,x7,x8] G4) ->
 R3 [a1,.ptr i1 [] 0,.nilSlice,.int .i64 0] G2
def eJ.an:Ann:=.two (.nil) (.two (.nil) (.two (.two (.nil) (.loop [1,2,5,6] [false,false,false,false] (.nil))) (.nil)))
set_option maxRecDepth 100000 in
theorem eJ.sound {a0 a1:ag} {G:ah} {Q:ag -> ah -> Prop} (h:eJ.S a0 a1 G Q):al P eJ.n [a0,a1] G Q:=by
 have e:eJ.S a0 a1 G Q = awp cx (eJ.body) eJ.an (bK T [.tmp 4] Q) (dN [a0,a1]) G:=by kernel_rfl
 exact ay dO (f:=eJ.n) (fn:=Tryz.f216) (c:=eJ.body) (an:=eJ.an) Tryz.func216 (by kernel_rfl) (by kernel_rfl) (by kernel_rfl) (aF (by kernel_rfl) (by kernel_rfl)) (by simp [Tryz.f216]) (e ▸ h)
def ec.S (a0:ag) (G:ah) (Q:ag -> ah -> Prop):Prop :=
 br G (.own (a0)) fun i1 G2=>∀ R3:List ag -> ah -> Prop,
 (∀ (x5 x6 x7:ag) (G4:ah),(wv (aw T .lss au x7 (.int .i64 32)) fun v8=>brB (some v8)
 (wv (aL T aj x5 x7) fun v9=>wv (af T G4 cg v9) fun v10=>bh T aP 1 [(0,v10)] G4 fun v11 G12=>cc T G12 aP aP x6 v11 fun v13 G14=>wv (aw T .add au x7 (.int .i64 1)) fun v15=>R3 [x5,v13,v15] G14)
 (wv (gi T G4 aP bH x6) fun v16=>Q v16 G4)) -> R3 [x5,x6,x7] G4) ->
 R3 [.ptr i1 [] 0,.nilSlice,.int .i64 0] G2
def ec.an:Ann:=.two (.nil) (.two (.nil) (.two (.two (.nil) (.loop [1,3,4] [false,false,false] (.nil))) (.nil)))
set_option maxRecDepth 100000 in
theorem ec.sound {a0:ag} {G:ah} {Q:ag -> ah -> Prop} (h:ec.S a0 G Q):al P ec.n [a0] G Q:=by
 have e:ec.S a0 G Q = awp cx (ec.body) ec.an (bK T [.tmp 2] Q) (dN [a0]) G:=by kernel_rfl
 exact ay dO (f:=ec.n) (fn:=Tryz.f217) (c:=ec.body) (an:=ec.an) Tryz.func217 (by kernel_rfl) (by kernel_rfl) (by kernel_rfl) (aF (by kernel_rfl) (by kernel_rfl)) (by simp [Tryz.f217]) (e ▸ h)
def fx.S (a0 a1:ag) (G:ah) (Q:ag -> ah -> Prop):Prop :=
 br G (.own (a0)) fun i1 G2=>br G2 (.own (cI)) fun i3 G4=>wv (af T G4 aj (.ptr i1 [] 0)) fun v5=>wv (af T G4 aj (.ptr i1 [] 0)) fun v6=>al P eJ.n [v5,.int .u8 92] G4 fun v7 G8=>(af T G8 aj (.ptr i1 [] 0) = some v6 /\ True) /\ (al P eJ.n [v6,.int .u8 54] G8 fun v9 G10=>wv (aw T .add bH v9 a1) fun v11=>al P cK.n [v11] G10 fun v12 G13=>al P ec.n [v12] G13 fun v14 G15=>wv (aw T .add bH v7 v14) fun v16=>al P cK.n [v16] G15 fun v17 G18=>wg (ax T G18 aj (.ptr i3 [] 0) v17) fun G19=>wv (af T G19 aj (.ptr i3 [] 0)) fun v20=>Q v20 G19)
def fx.an:Ann:=.two (.nil) (.two (.ord [(0,[]),(2,[]),(4,[]),(1,[2]),(3,[]),(5,[]),(6,[]),(7,[]),(8,[]),(9,[]),(10,[])]) (.nil))
set_option maxRecDepth 100000 in
theorem fx.sound {a0 a1:ag} {G:ah} {Q:ag -> ah -> Prop} (h:fx.S a0 a1 G Q):al P fx.n [a0,a1] G Q:=by
 have e:fx.S a0 a1 G Q = awp cx (fx.body) fx.an (bK T [.cell 4 23] Q) (dN [a0,a1]) G:=by kernel_rfl
 exact ay dO (f:=fx.n) (fn:=Tryz.f194) (c:=fx.body) (an:=fx.an) Tryz.func194 (by kernel_rfl) (by kernel_rfl) (by kernel_rfl) (aF (by kernel_rfl) (by kernel_rfl)) (by simp [Tryz.f194]) (e ▸ h)
def dK.S (a0 a1:ag) (G:ah) (Q:ag -> ah -> Prop):Prop :=
 br G (.own (a0)) fun i1 G2=>br G2 (.own (cI)) fun i3 G4=>wv (af T G4 aj (.ptr i1 [] 0)) fun v5=>al P fx.n [v5,a1] G4 fun v6 G7=>wg (ax T G7 aj (.ptr i3 [] 0) v6) fun G8=>wv (af T G8 aj (.ptr i3 [] 0)) fun v9=>Q v9 G8
def dK.an:Ann:=.nil
set_option maxRecDepth 100000 in
theorem dK.sound {a0 a1:ag} {G:ah} {Q:ag -> ah -> Prop} (h:dK.S a0 a1 G Q):al P dK.n [a0,a1] G Q:=by
 have e:dK.S a0 a1 G Q = awp cx (dK.body) dK.an (bK T [.cell 4 23] Q) (dN [a0,a1]) G:=by kernel_rfl
 exact ay dO (f:=dK.n) (fn:=Tryz.f156) (c:=dK.body) (an:=dK.an) Tryz.func156 (by kernel_rfl) (by kernel_rfl) (by kernel_rfl) (aF (by kernel_rfl) (by kernel_rfl)) (by simp [Tryz.f156]) (e ▸ h)
def dU.S (a0 a1:ag) (G:ah) (Q:ag -> ah -> Prop):Prop :=
 br G (.own (a0)) fun i1 G2=>br G2 (.own (a1)) fun i3 G4=>br G4 (.own (gE)) fun i5 G6=>wv (af T G6 aJ (.ptr i3 [] 0)) fun v7=>wv (af T G6 ai (.ptr i3 [7] 7)) fun v8=>wv (af T G6 bG (.ptr i3 [10] 11)) fun v9=>al P dm.n [v7,v8,v9] G6 fun v10 G11=>wv (aW v10 0) fun v12=>wv (aW v10 1) fun v13=>wv (vun .not v13) fun v14=>brB (some v14)
 (wv (bk T aG []) fun v15=>wg (ax T G11 aG (.ptr i5 [] 0) v15) fun G16=>wv (af T G16 aG (.ptr i5 [] 0)) fun v17=>Q v17 G16)
 (wv (af T G11 ai (.ptr i3 [7] 7)) fun v18=>wv (af T G11 aj (.ptr i1 [4] 35)) fun v19=>al P dK.n [v19,v12] G11 fun v20 G21=>(af T G21 ai (.ptr i3 [7] 7) = some v18 /\ True) /\ (wv (bk T aG [(0,.int .i64 4),(3,v18),(5,v20)]) fun v22=>wg (ax T G21 aG (.ptr i5 [] 0) v22) fun G23=>wv (af T G23 aG (.ptr i5 [] 0)) fun v24=>Q v24 G23))
def dU.an:Ann:=.two (.nil) (.two (.nil) (.two (.nil) (.two (.ord [(0,[]),(1,[]),(2,[]),(3,[]),(4,[]),(5,[1]),(6,[]),(7,[])]) (.nil))))
set_option maxRecDepth 100000 in
theorem dU.sound {a0 a1:ag} {G:ah} {Q:ag -> ah -> Prop} (h:dU.S a0 a1 G Q):al P dU.n [a0,a1] G Q:=by
 have e:dU.S a0 a1 G Q = awp cx (dU.body) dU.an (bK T [.cell 4 48] Q) (dN [a0,a1]) G:=by kernel_rfl
 exact ay dO (f:=dU.n) (fn:=Tryz.f96) (c:=dU.body) (an:=dU.an) Tryz.func96 (by kernel_rfl) (by kernel_rfl) (by kernel_rfl) (aF (by kernel_rfl) (by kernel_rfl)) (by simp [Tryz.f96]) (e ▸ h)
def dq.S (a0 a1:ag) (G:ah) (Q:ag -> ah -> Prop):Prop :=
 br G (.own (a0)) fun i1 G2=>br G2 (.own (gE)) fun i3 G4=>let J36:ag -> ah -> Prop:=(fun x8 G7=>brB (some x8)
 (wv (bk T aG []) fun v9=>wg (ax T G7 aG (.ptr i3 [] 0) v9) fun G10=>wv (af T G10 aG (.ptr i3 [] 0)) fun v11=>Q v11 G10)
 (wv (af T G7 aj (.ptr i1 [3] 3)) fun v12=>al P bJ.n [v12,a1] G7 fun v13 G14=>wv (aW v13 0) fun v15=>wv (aW v13 1) fun v16=>br G14 (.own (cI)) fun i17 G18=>wg (ax T G18 aj (.ptr i17 [] 0) v15) fun G19=>wv (af T G19 aj (.ptr i1 [3] 3)) fun v20=>wv (aw T .add ai a1 (.int .i64 2)) fun v21=>al P bJ.n [v20,v21] G19 fun v22 G23=>wv (aW v22 0) fun v24=>wv (aW v22 1) fun v25=>br G23 (.own (cI)) fun i26 G27=>wg (ax T G27 aj (.ptr i26 [] 0) v24) fun G28=>wv (af T G28 aj (.ptr i17 [] 0)) fun v29=>wv (af T G28 aj (.ptr i26 [] 0)) fun v30=>al P bW.n [v30] G28 fun v31 G32=>(af T G32 aj (.ptr i17 [] 0) = some v29 /\ True) /\ (wv (bk T aG [(0,.int .i64 5),(3,a1),(6,v29),(5,v31)]) fun v33=>wg (ax T G32 aG (.ptr i3 [] 0) v33) fun G34=>wv (af T G34 aG (.ptr i3 [] 0)) fun v35=>Q v35 G34)));
 wv (aw T .lss ai a1 (.int .i64 0)) fun v5=>brB (some v5)
 (J36 (.bool true) G4)
 (wv (aw T .gtr ai a1 (.int .i64 281474976710653)) fun v6=>J36 v6 G4)
def dq.an:Ann:=.two (.nil) (.two (.nil) (.two (.nil) (.two (.nil) (.two (.ord [(0,[]),(1,[]),(2,[]),(3,[1]),(4,[]),(5,[])]) (.nil)))))
set_option maxRecDepth 100000 in
theorem dq.sound {a0 a1:ag} {G:ah} {Q:ag -> ah -> Prop} (h:dq.S a0 a1 G Q):al P dq.n [a0,a1] G Q:=by
 have e:dq.S a0 a1 G Q = awp cx (dq.body) dq.an (bK T [.cell 4 48] Q) (dN [a0,a1]) G:=by kernel_rfl
 exact ay dO (f:=dq.n) (fn:=Tryz.f98) (c:=dq.body) (an:=dq.an) Tryz.func98 (by kernel_rfl) (by kernel_rfl) (by kernel_rfl) (aF (by kernel_rfl) (by kernel_rfl)) (by simp [Tryz.f98]) (e ▸ h)
def bO.S (a0 a1 a2:ag) (G:ah) (Q:ag -> ah -> Prop):Prop :=
 br G (.own (a2)) fun i1 G2=>wv (kH a0) fun v3=>wv (bx T bw v3 1) fun v4=>wv (aL T gY v4 a1) fun v5=>wv (af T G2 aJ v5) fun v6=>wv (af T G2 aD (.ptr i1 [] 0)) fun v7=>al P cN.n [v6,v7] G2 fun v8 G9=>wv (aW v8 0) fun v10=>wv (aW v8 1) fun v11=>br G9 (.own (iT)) fun i12 G13=>wg (ax T G13 aJ (.ptr i12 [] 0) v10) fun G14=>wv (vun .not v11) fun v15=>brB (some v15)
 (Q (.tuple []) G14)
 (wv (kH a0) fun v16=>wv (bx T bw v16 1) fun v17=>wv (aL T gY v17 a1) fun v18=>wv (bx T aJ v18 6) fun v19=>wv (af T G14 ai v19) fun v20=>wv (af T G14 aJ (.ptr i12 [] 0)) fun v21=>wv (kH a0) fun v22=>wv (bx T bw v22 1) fun v23=>wv (aL T gY v23 a1) fun v24=>wg (ax T G14 aJ v24 v21) fun G25=>wv (af T G25 au (.ptr i1 [0] 0)) fun v26=>wv (aw T .eql au v26 (.int .i64 1)) fun v27=>brB (some v27)
 (wv (af T G25 aI (.ptr i1 [1] 1)) fun v28=>al P cQ.n [v28] G25 fun v29 G30=>al P bL.n [a0,a1,v29] G30 fun v31 G32=>Q (.tuple []) G32)
 (wv (aw T .eql au v26 (.int .i64 2)) fun v33=>brB (some v33)
 (wv (kH a0) fun v34=>wv (bx T bw v34 0) fun v35=>wv (aL T fD v35 a1) fun v36=>wv (af T G25 cl v36) fun v37=>wv (af T G25 aJ (.ptr i12 [] 0)) fun v38=>al P dU.n [v37,v38] G25 fun v39 G40=>al P bL.n [a0,a1,v39] G40 fun v41 G42=>Q (.tuple []) G42)
 (wv (aw T .eql au v26 (.int .i64 3)) fun v43=>brB (some v43)
 (wv (kH a0) fun v44=>wv (bx T bw v44 0) fun v45=>wv (aL T fD v45 a1) fun v46=>wv (af T G25 cl v46) fun v47=>al P dq.n [v47,v20] G25 fun v48 G49=>al P bL.n [a0,a1,v48] G49 fun v50 G51=>Q (.tuple []) G51)
 (Q (.tuple []) G25))))
def bO.an:Ann:=.two (.nil) (.two (.ord [(0,[]),(1,[]),(2,[]),(3,[]),(4,[]),(5,[]),(6,[]),(7,[]),(8,[]),(9,[]),(10,[]),(11,[]),(12,[]),(13,[])]) (.two (.nil) (.two (.nil) (.two (.ord [(0,[]),(1,[]),(2,[]),(3,[]),(4,[]),(5,[]),(6,[])]) (.two (.nil) (.two (.nil) (.two (.nil) (.two (.nil) (.two (.ord [(0,[]),(1,[]),(2,[]),(3,[]),(4,[]),(5,[]),(6,[]),(7,[]),(8,[]),(9,[]),(10,[])]) (.nil))))))))))
set_option maxRecDepth 100000 in
theorem bO.sound {a0 a1 a2:ag} {G:ah} {Q:ag -> ah -> Prop} (h:bO.S a0 a1 a2 G Q):al P bO.n [a0,a1,a2] G Q:=by
 have e:bO.S a0 a1 a2 G Q = awp cx (bO.body) bO.an (bK T [] Q) (dN [a0,a1,a2]) G:=by kernel_rfl
 exact ay dO (f:=bO.n) (fn:=Tryz.f49) (c:=bO.body) (an:=bO.an) Tryz.func49 (by kernel_rfl) (by kernel_rfl) (by kernel_rfl) (aF (by kernel_rfl) (by kernel_rfl)) (by simp [Tryz.f49]) (e ▸ h)
def dx.S (a0:ag) (G:ah) (Q:ag -> ah -> Prop):Prop :=
 br G (.own (a0)) fun i1 G2=>br G2 (.own (gy)) fun i3 G4=>wv (af T G4 au (.ptr i1 [0] 0)) fun v5=>wv (af T G4 ai (.ptr i1 [1] 1)) fun v6=>wv (af T G4 ai (.ptr i1 [2] 2)) fun v7=>wv (af T G4 aj (.ptr i1 [5] 5)) fun v8=>wv (af T G4 bH (.ptr i1 [7] 69)) fun v9=>wv (bk T aI [(0,v5),(1,v6),(2,v7),(3,v8),(4,v9)]) fun v10=>wg (ax T G4 aI (.ptr i3 [] 0) v10) fun G11=>wv (af T G11 aI (.ptr i3 [] 0)) fun v12=>Q v12 G11
def dx.an:Ann:=.nil
set_option maxRecDepth 100000 in
theorem dx.sound {a0:ag} {G:ah} {Q:ag -> ah -> Prop} (h:dx.S a0 G Q):al P dx.n [a0] G Q:=by
 have e:dx.S a0 G Q = awp cx (dx.body) dx.an (bK T [.cell 2 76] Q) (dN [a0]) G:=by kernel_rfl
 exact ay dO (f:=dx.n) (fn:=Tryz.f69) (c:=dx.body) (an:=dx.an) Tryz.func69 (by kernel_rfl) (by kernel_rfl) (by kernel_rfl) (aF (by kernel_rfl) (by kernel_rfl)) (by simp [Tryz.f69]) (e ▸ h)
def eO.S (a0 a1 a2 a3:ag) (G:ah) (Q:ag -> ah -> Prop):Prop :=
 br G (.own (a0)) fun i1 G2=>br G2 (.own (a1)) fun i3 G4=>br G4 (.own (a3)) fun i5 G6=>wv (af T G6 aj (.ptr i1 [3] 3)) fun v7=>al P bJ.n [v7,a2] G6 fun v8 G9=>wv (aW v8 0) fun v10=>wv (aW v8 1) fun v11=>br G9 (.own (cI)) fun i12 G13=>wg (ax T G13 aj (.ptr i12 [] 0) v10) fun G14=>wv (aw T .neq bq v11 (.int .i64 0)) fun v15=>brB (some v15)
 (Q (.tuple [.str [],.bool false]) G14)
 (wv (af T G14 ai (.ptr i3 [2] 2)) fun v16=>wv (af T G14 ai (.ptr i3 [3] 3)) fun v17=>wv (af T G14 ak (.ptr i3 [4] 4)) fun v18=>wv (af T G14 ak (.ptr i3 [5] 5)) fun v19=>wv (af T G14 bG (.ptr i5 [] 0)) fun v20=>al P dI.n [v16,v17,v18,v19,v20] G14 fun v21 G22=>wv (aW v21 0) fun v23=>wv (aW v21 1) fun v24=>br G22 (.own (iZ)) fun i25 G26=>wg (ax T G26 bc (.ptr i25 [] 0) v23) fun G27=>wv (aw T .neq bq v24 (.int .i64 0)) fun v28=>brB (some v28)
 (Q (.tuple [.str [],.bool false]) G27)
 (wv (af T G27 au (.ptr i3 [0] 0)) fun v29=>wv (af T G27 aj (.ptr i12 [] 0)) fun v30=>wv (af T G27 bc (.ptr i25 [] 0)) fun v31=>al P bW.n [v30] G27 fun v32 G33=>(af T G33 bc (.ptr i25 [] 0) = some v31 /\ af T G33 au (.ptr i3 [0] 0) = some v29 /\ True) /\ (al P dG.n [v29,a2,v32,v31] G33 fun v34 G35=>wv (aW v34 0) fun v36=>wv (aW v34 1) fun v37=>wv (aw T .eql bq v37 (.int .i64 0)) fun v38=>Q (.tuple [v36,v38]) G35)))
def eO.an:Ann:=.two (.nil) (.two (.nil) (.two (.nil) (.two (.nil) (.two (.nil) (.two (.ord [(0,[]),(1,[]),(2,[]),(3,[]),(5,[]),(4,[1,5]),(6,[]),(7,[]),(8,[]),(9,[]),(10,[]),(11,[])]) (.nil))))))
set_option maxRecDepth 100000 in
theorem eO.sound {a0 a1 a2 a3:ag} {G:ah} {Q:ag -> ah -> Prop} (h:eO.S a0 a1 a2 a3 G Q):al P eO.n [a0,a1,a2,a3] G Q:=by
 have e:eO.S a0 a1 a2 a3 G Q = awp cx (eO.body) eO.an (bK T [.tmp 8,.tmp 9] Q) (dN [a0,a1,a2,a3]) G:=by kernel_rfl
 exact ay dO (f:=eO.n) (fn:=Tryz.f99) (c:=eO.body) (an:=eO.an) Tryz.func99 (by kernel_rfl) (by kernel_rfl) (by kernel_rfl) (aF (by kernel_rfl) (by kernel_rfl)) (by simp [Tryz.f99]) (e ▸ h)
def bP.S (a0:ag) (G:ah) (Q:ag -> ah -> Prop):Prop :=
 br G (.own (a0)) fun i1 G2=>wv (af T G2 au (.ptr i1 [16] 113)) fun v3=>wv (aw T .neq au v3 (.int .i64 0)) fun v4=>brB (some v4)
 (Q (.bool true) G2)
 (wv (af T G2 ai (.ptr i1 [17] 114)) fun v5=>wv (aw T .neq ai v5 (.int .i64 (-1))) fun v6=>Q v6 G2)
def bP.an:Ann:=.nil
set_option maxRecDepth 100000 in
theorem bP.sound {a0:ag} {G:ah} {Q:ag -> ah -> Prop} (h:bP.S a0 G Q):al P bP.n [a0] G Q:=by
 have e:bP.S a0 G Q = awp cx (bP.body) bP.an (bK T [.tmp 2] Q) (dN [a0]) G:=by kernel_rfl
 exact ay dO (f:=bP.n) (fn:=Tryz.f148) (c:=bP.body) (an:=bP.an) Tryz.func148 (by kernel_rfl) (by kernel_rfl) (by kernel_rfl) (aF (by kernel_rfl) (by kernel_rfl)) (by simp [Tryz.f148]) (e ▸ h)
def dW.S (a0 a1 a2:ag) (G:ah) (Q:ag -> ah -> Prop):Prop :=
 br G (.own (a0)) fun i1 G2=>br G2 (.own (a2)) fun i3 G4=>wv (af T G4 aj (.ptr i1 [] 0)) fun v5=>al P dK.n [v5,a1] G4 fun v6 G7=>br G7 (.own (cI)) fun i8 G9=>wg (ax T G9 aj (.ptr i8 [] 0) v6) fun G10=>∀ R11:List ag -> ah -> Prop,
 (∀ (x13 x14 x15:ag) (G12:ah),(wv (aw T .lss au x15 (.int .i64 32)) fun v16=>brB (some v16)
 (wv (aL T aj x14 x15) fun v17=>wv (af T G12 cg v17) fun v18=>wv (aL T aj x13 x15) fun v19=>wv (af T G12 cg v19) fun v20=>wv (aw T .neq cg v18 v20) fun v21=>brB (some v21)
 (Q (.bool false) G12)
 (wv (aw T .add au x15 (.int .i64 1)) fun v22=>R11 [x13,x14,v22] G12))
 (Q (.bool true) G12)) -> R11 [x13,x14,x15] G12) ->
 R11 [.ptr i3 [] 0,.ptr i8 [] 0,.int .i64 0] G10
def dW.an:Ann:=.two (.nil) (.two (.nil) (.two (.two (.nil) (.loop [5,7,8] [false,false,false] (.two (.nil) (.two (.two (.ord [(0,[]),(1,[]),(2,[]),(3,[]),(4,[]),(5,[]),(6,[])]) (.nil)) (.nil))))) (.nil)))
set_option maxRecDepth 100000 in
theorem dW.sound {a0 a1 a2:ag} {G:ah} {Q:ag -> ah -> Prop} (h:dW.S a0 a1 a2 G Q):al P dW.n [a0,a1,a2] G Q:=by
 have e:dW.S a0 a1 a2 G Q = awp cx (dW.body) dW.an (bK T [.tmp 6] Q) (dN [a0,a1,a2]) G:=by kernel_rfl
 exact ay dO (f:=dW.n) (fn:=Tryz.f160) (c:=dW.body) (an:=dW.an) Tryz.func160 (by kernel_rfl) (by kernel_rfl) (by kernel_rfl) (aF (by kernel_rfl) (by kernel_rfl)) (by simp [Tryz.f160]) (e ▸ h)
end Go.Esc.M
