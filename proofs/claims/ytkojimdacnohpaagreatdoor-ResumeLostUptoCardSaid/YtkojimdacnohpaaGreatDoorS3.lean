import Derived.Test.YtkojimdacnohpaaGreatDoorT
set_option linter.unusedSimpArgs false
set_option linter.unusedVariables false
namespace Go.Esc.M
open Go Go.Esc Go.Proofs
def ed.S (G:ah) (Q:ag -> ah -> Prop):Prop :=
 wv (bk T dj [(0,.int .i64 1000),(1,.int .i64 700)]) fun v1=>al P cu.n [v1] G fun v2 G3=>wv (oE T fD v2 (.int .i64 0)) fun v4=>br G3 (.own (nz)) fun i5 G6=>wg (ax T G6 cl (.ptr i5 [] 0) v4) fun G7=>wv (af T G7 cl (.ptr i5 [] 0)) fun v8=>al P cH.n [v8] G7 fun v9 G10=>wv (aW v9 0) fun v11=>wv (aW v9 1) fun v12=>br G10 (.own (iT)) fun i13 G14=>wg (ax T G14 aJ (.ptr i13 [] 0) v11) fun G15=>wv (af T G15 aj (.ptr i5 [3] 3)) fun v16=>al P bJ.n [v16,.int .i64 0] G15 fun v17 G18=>wv (aW v17 0) fun v19=>wv (aW v17 1) fun v20=>br G18 (.own (cI)) fun i21 G22=>wg (ax T G22 aj (.ptr i21 [] 0) v19) fun G23=>wv (af T G23 cl (.ptr i5 [] 0)) fun v24=>wv (af T G23 aJ (.ptr i13 [] 0)) fun v25=>al P gz.n [v24,v25] G23 fun v26 G27=>br G27 (.own (gE)) fun i28 G29=>wg (ax T G29 aG (.ptr i28 [] 0) v26) fun G30=>wv (af T G30 cl (.ptr i5 [] 0)) fun v31=>wv (af T G30 aJ (.ptr i13 [] 0)) fun v32=>wv (bk T aG [(0,.int .i64 6),(3,.int .i64 1)]) fun v33=>al P cW.n [v31,v32,v33] G30 fun v34 G35=>wv (aW v34 0) fun v36=>wv (aW v34 1) fun v37=>wv (af T G35 cl (.ptr i5 [] 0)) fun v38=>wv (af T G35 aJ (.ptr i13 [] 0)) fun v39=>wv (bk T aG [(0,.int .i64 6),(3,.int .i64 2)]) fun v40=>al P cW.n [v38,v39,v40] G35 fun v41 G42=>wv (aW v41 0) fun v43=>wv (aW v41 1) fun v44=>wv (af T G42 cl (.ptr i5 [] 0)) fun v45=>wv (af T G42 aJ (.ptr i13 [] 0)) fun v46=>wv (bk T aG [(0,.int .i64 6),(3,.int .i64 1),(4,.int .i64 1)]) fun v47=>al P cW.n [v45,v46,v47] G42 fun v48 G49=>wv (aW v48 0) fun v50=>wv (aW v48 1) fun v51=>wv (af T G49 cl (.ptr i5 [] 0)) fun v52=>wv (af T G49 aJ (.ptr i13 [] 0)) fun v53=>wv (af T G49 aj (.ptr i21 [] 0)) fun v54=>wv (bk T aG [(0,.int .i64 6),(3,.int .i64 1),(4,.int .i64 1),(6,v54)]) fun v55=>al P cW.n [v52,v53,v55] G49 fun v56 G57=>wv (aW v56 0) fun v58=>wv (aW v56 1) fun v59=>wv (bk T aI [(0,.int .i64 1),(2,.int .i64 5)]) fun v60=>bh T ak 1 [(0,v60)] G57 fun v61 G62=>wg (ax T G62 ak (.ptr i13 [4] 4) v61) fun G63=>wv (af T G63 cl (.ptr i5 [] 0)) fun v64=>wv (af T G63 aJ (.ptr i13 [] 0)) fun v65=>wv (bk T aG [(0,.int .i64 6),(3,.int .i64 1)]) fun v66=>al P cW.n [v64,v65,v66] G63 fun v67 G68=>wv (aW v67 0) fun v69=>wv (aW v67 1) fun v70=>wv (af T G68 aG (.ptr i28 [] 0)) fun v71=>wv (bk T aG [(0,.int .i64 6),(3,.int .i64 1)]) fun v72=>wv (aw T .eql aG v71 v72) fun v73=>brB (some v73)
 (wv (aw T .eql bq v37 (.int .i64 0)) fun v74=>brB (some v74)
 (wv (aw T .eql bq v44 (.int .i64 90)) fun v75=>brB (some v75)
 (wv (aw T .eql bq v51 (.int .i64 100)) fun v76=>brB (some v76)
 (wv (aw T .eql bq v59 (.int .i64 180)) fun v77=>brB (some v77)
 (wv (aw T .eql bq v70 (.int .i64 0)) fun v78=>brB (some v78)
 (wv (bk T aG [(0,.int .i64 1),(2,.int .i64 5)]) fun v79=>bh T aR 1 [(0,v79)] G68 fun v80 G81=>al P eV.n [v69,v80] G81 fun v82 G83=>Q v82 G83)
 (Q (.bool false) G68))
 (Q (.bool false) G68))
 (Q (.bool false) G68))
 (Q (.bool false) G68))
 (Q (.bool false) G68))
 (Q (.bool false) G68)
def ed.an:Ann:=.nil
set_option maxRecDepth 100000 in
theorem ed.sound {G:ah} {Q:ag -> ah -> Prop} (h:ed.S G Q):al P ed.n [] G Q:=by
 have e:ed.S G Q = awp cx (ed.body) ed.an (bK T [.tmp 0] Q) (dN []) G:=by kernel_rfl
 exact ay dO (f:=ed.n) (fn:=Tryz.f10) (c:=ed.body) (an:=ed.an) Tryz.func10 (by kernel_rfl) (by kernel_rfl) (by kernel_rfl) (aF (by kernel_rfl) (by kernel_rfl)) (by simp [Tryz.f10]) (e ▸ h)
def ef.S (a0:ag) (G:ah) (Q:ag -> ah -> Prop):Prop :=
 br G (.own (a0)) fun i1 G2=>wv (af T G2 dj (.ptr i1 [] 0)) fun v3=>al P cu.n [v3] G2 fun v4 G5=>wv (bk T bw [(0,v4)]) fun v6=>br G5 (.own (v6)) fun i7 G8=>∀ R9:List ag -> ah -> Prop,
 (∀ (x11 x12:ag) (G10:ah),(wv (aw T .lss au x12 (.int .i64 2)) fun v13=>brB (some v13)
 (wv (kH x11) fun v14=>wv (bx T bw v14 0) fun v15=>wv (aL T fD v15 x12) fun v16=>wv (af T G10 cl v16) fun v17=>al P cH.n [v17] G10 fun v18 G19=>wv (aW v18 0) fun v20=>wv (aW v18 1) fun v21=>br G19 (.own (iT)) fun i22 G23=>wg (ax T G23 aJ (.ptr i22 [] 0) v20) fun G24=>wv (aw T .neq bq v21 (.int .i64 0)) fun v25=>brB (some v25)
 (Q (.tuple [.nilPtr,.bool false]) G24)
 (wv (af T G24 aJ (.ptr i22 [] 0)) fun v26=>wv (kH x11) fun v27=>wv (bx T bw v27 1) fun v28=>wv (aL T gY v28 x12) fun v29=>wg (ax T G24 aJ v29 v26) fun G30=>wv (aw T .add au x12 (.int .i64 1)) fun v31=>R9 [x11,v31] G30))
 (Q (.tuple [x11,.bool true]) G10)) -> R9 [x11,x12] G10) ->
 R9 [.ptr i7 [] 0,.int .i64 0] G8
def ef.an:Ann:=.two (.nil) (.two (.nil) (.two (.two (.nil) (.loop [4,5] [false,false] (.two (.nil) (.two (.two (.nil) (.two (.nil) (.ord [(0,[]),(1,[]),(2,[]),(3,[]),(4,[]),(5,[]),(6,[])]))) (.nil))))) (.nil)))
set_option maxRecDepth 100000 in
theorem ef.sound {a0:ag} {G:ah} {Q:ag -> ah -> Prop} (h:ef.S a0 G Q):al P ef.n [a0] G Q:=by
 have e:ef.S a0 G Q = awp cx (ef.body) ef.an (bK T [.tmp 2,.tmp 3] Q) (dN [a0]) G:=by kernel_rfl
 exact ay dO (f:=ef.n) (fn:=Tryz.f11) (c:=ef.body) (an:=ef.an) Tryz.func11 (by kernel_rfl) (by kernel_rfl) (by kernel_rfl) (aF (by kernel_rfl) (by kernel_rfl)) (by simp [Tryz.f11]) (e ▸ h)
def dM.S (a0:ag) (G:ah) (Q:ag -> ah -> Prop):Prop :=
 br G (.own (a0)) fun i1 G2=>br G2 (.own (iT)) fun i3 G4=>wv (af T G4 ak (.ptr i1 [4] 4)) fun v5=>cc T G4 ak ak (.nilSlice) v5 fun v6 G7=>wg (ax T G7 ak (.ptr i1 [4] 4) v6) fun G8=>wv (af T G8 ak (.ptr i1 [5] 5)) fun v9=>cc T G8 ak ak (.nilSlice) v9 fun v10 G11=>wg (ax T G11 ak (.ptr i1 [5] 5) v10) fun G12=>wv (af T G12 bu (.ptr i1 [15] 112)) fun v13=>cc T G12 bu bu (.nilSlice) v13 fun v14 G15=>wg (ax T G15 bu (.ptr i1 [15] 112) v14) fun G16=>wv (af T G16 aJ (.ptr i1 [] 0)) fun v17=>wg (ax T G16 aJ (.ptr i3 [] 0) v17) fun G18=>wv (af T G18 aJ (.ptr i3 [] 0)) fun v19=>Q v19 G18
def dM.an:Ann:=.nil
set_option maxRecDepth 100000 in
theorem dM.sound {a0:ag} {G:ah} {Q:ag -> ah -> Prop} (h:dM.S a0 G Q):al P dM.n [a0] G Q:=by
 have e:dM.S a0 G Q = awp cx (dM.body) dM.an (bK T [.cell 2 38] Q) (dN [a0]) G:=by kernel_rfl
 exact ay dO (f:=dM.n) (fn:=Tryz.f12) (c:=dM.body) (an:=dM.an) Tryz.func12 (by kernel_rfl) (by kernel_rfl) (by kernel_rfl) (aF (by kernel_rfl) (by kernel_rfl)) (by simp [Tryz.f12]) (e ▸ h)
def b9.S (a0 a1 a2:ag) (G:ah) (Q:ag -> ah -> Prop):Prop :=
 br G (.own (a2)) fun i1 G2=>br G2 (.own (gE)) fun i3 G4=>wv (kH a0) fun v5=>wv (bx T bw v5 2) fun v6=>wv (af T G4 aR v6) fun v7=>wv (aw T .eql au a1 (.int .i64 1)) fun v8=>let J53:ag -> ah -> Prop:=(fun x13 G12=>wv (gF T G12 aR x13) fun v14=>wv (aw T .eql au v14 (.int .i64 0)) fun v15=>brB (some v15)
 (wv (bk T aG []) fun v16=>wg (ax T G12 aG (.ptr i3 [] 0) v16) fun G17=>wv (af T G17 aG (.ptr i3 [] 0)) fun v18=>Q (.tuple [v18,.bool false]) G17)
 (wv (aL T aR x13 (.int .i64 0)) fun v19=>wv (af T G12 aG v19) fun v20=>br G12 (.own (gE)) fun i21 G22=>wg (ax T G22 aG (.ptr i21 [] 0) v20) fun G23=>wv (aw T .eql au a1 (.int .i64 1)) fun v24=>let J52:ah -> Prop:=(fun G33=>wv (af T G33 ai (.ptr i21 [3] 3)) fun v34=>wv (af T G33 ai (.ptr i1 [6] 37)) fun v35=>wv (aw T .add ai v34 v35) fun v36=>wg (ax T G33 ai (.ptr i21 [3] 3) v36) fun G37=>wv (af T G37 bH (.ptr i1 [5] 36)) fun v38=>wv (aw T .eql bH v38 (.str [98,101,110,100])) fun v39=>brB (some v39)
 (wv (af T G37 aj (.ptr i1 [4] 4)) fun v40=>wg (ax T G37 aj (.ptr i21 [5] 5) v40) fun G41=>wv (af T G41 aG (.ptr i21 [] 0)) fun v46=>wg (ax T G41 aG (.ptr i3 [] 0) v46) fun G47=>wv (af T G47 aG (.ptr i3 [] 0)) fun v48=>Q (.tuple [v48,.bool true]) G47)
 (wv (af T G37 aG (.ptr i21 [] 0)) fun v49=>wg (ax T G37 aG (.ptr i3 [] 0) v49) fun G50=>wv (af T G50 aG (.ptr i3 [] 0)) fun v51=>Q (.tuple [v51,.bool true]) G50));
 brB (some v24)
 (wv (fj T aR x13 (some (.int .i64 1)) none none) fun v25=>wv (kH a0) fun v26=>wv (bx T bw v26 3) fun v27=>wg (ax T G23 aR v27 v25) fun G28=>J52 G28)
 (wv (fj T aR x13 (some (.int .i64 1)) none none) fun v29=>wv (kH a0) fun v30=>wv (bx T bw v30 2) fun v31=>wg (ax T G23 aR v31 v29) fun G32=>J52 G32)));
 brB (some v8)
 (wv (kH a0) fun v9=>wv (bx T bw v9 3) fun v10=>wv (af T G4 aR v10) fun v11=>J53 v11 G4)
 (J53 v7 G4)
def b9.an:Ann:=.nil
set_option maxRecDepth 100000 in
theorem b9.sound {a0 a1 a2:ag} {G:ah} {Q:ag -> ah -> Prop} (h:b9.S a0 a1 a2 G Q):al P b9.n [a0,a1,a2] G Q:=by
 have e:b9.S a0 a1 a2 G Q = awp cx (b9.body) b9.an (bK T [.cell 6 48,.tmp 7] Q) (dN [a0,a1,a2]) G:=by kernel_rfl
 exact ay dO (f:=b9.n) (fn:=Tryz.f24) (c:=b9.body) (an:=b9.an) Tryz.func24 (by kernel_rfl) (by kernel_rfl) (by kernel_rfl) (aF (by kernel_rfl) (by kernel_rfl)) (by simp [Tryz.f24]) (e ▸ h)
def bB.S (a0 a1:ag) (G:ah) (Q:ag -> ah -> Prop):Prop :=
 wv (aw T .lss au a1 (.int .i64 0)) fun v1=>brB (some v1)
 (wv (gF T G ak a0) fun v12=>wv (aw T .gtr au (.int .i64 0) v12) fun v13=>brB (some v13)
 (wv (gF T G ak a0) fun v14=>wv (fj T ak a0 none (some (v14)) none) fun v18=>Q v18 G)
 (wv (fj T ak a0 none (some (.int .i64 0)) none) fun v19=>Q v19 G))
 (wv (gF T G ak a0) fun v20=>wv (aw T .gtr au a1 v20) fun v21=>brB (some v21)
 (wv (gF T G ak a0) fun v22=>wv (fj T ak a0 none (some (v22)) none) fun v26=>Q v26 G)
 (wv (fj T ak a0 none (some (a1)) none) fun v27=>Q v27 G))
def bB.an:Ann:=.nil
set_option maxRecDepth 100000 in
theorem bB.sound {a0 a1:ag} {G:ah} {Q:ag -> ah -> Prop} (h:bB.S a0 a1 G Q):al P bB.n [a0,a1] G Q:=by
 have e:bB.S a0 a1 G Q = awp cx (bB.body) bB.an (bK T [.tmp 4] Q) (dN [a0,a1]) G:=by kernel_rfl
 exact ay dO (f:=bB.n) (fn:=Tryz.f110) (c:=bB.body) (an:=bB.an) Tryz.func110 (by kernel_rfl) (by kernel_rfl) (by kernel_rfl) (aF (by kernel_rfl) (by kernel_rfl)) (by simp [Tryz.f110]) (e ▸ h)
def fw.S (a0:ag) (G:ah) (Q:ag -> ah -> Prop):Prop :=
 br G (.own (a0)) fun i1 G2=>br G2 (.own (iT)) fun i3 G4=>wv (af T G4 ak (.ptr i1 [4] 4)) fun v5=>cc T G4 ak ak (.nilSlice) v5 fun v6 G7=>wg (ax T G7 ak (.ptr i1 [4] 4) v6) fun G8=>wv (af T G8 ak (.ptr i1 [5] 5)) fun v9=>wv (af T G8 au (.ptr i1 [9,1] 10)) fun v10=>al P bB.n [v9,v10] G8 fun v11 G12=>cc T G12 ak ak (.nilSlice) v11 fun v13 G14=>wg (ax T G14 ak (.ptr i1 [5] 5) v13) fun G15=>wv (af T G15 bu (.ptr i1 [15] 112)) fun v16=>cc T G15 bu bu (.nilSlice) v16 fun v17 G18=>wg (ax T G18 bu (.ptr i1 [15] 112) v17) fun G19=>wv (af T G19 aJ (.ptr i1 [] 0)) fun v20=>wg (ax T G19 aJ (.ptr i3 [] 0) v20) fun G21=>wv (af T G21 aJ (.ptr i3 [] 0)) fun v22=>Q v22 G21
def fw.an:Ann:=.nil
set_option maxRecDepth 100000 in
theorem fw.sound {a0:ag} {G:ah} {Q:ag -> ah -> Prop} (h:fw.S a0 G Q):al P fw.n [a0] G Q:=by
 have e:fw.S a0 G Q = awp cx (fw.body) fw.an (bK T [.cell 2 38] Q) (dN [a0]) G:=by kernel_rfl
 exact ay dO (f:=fw.n) (fn:=Tryz.f51) (c:=fw.body) (an:=fw.an) Tryz.func51 (by kernel_rfl) (by kernel_rfl) (by kernel_rfl) (aF (by kernel_rfl) (by kernel_rfl)) (by simp [Tryz.f51]) (e ▸ h)
def cy.S (a0:ag) (G:ah) (Q:ag -> ah -> Prop):Prop :=
 br G (.own (a0)) fun i1 G2=>wv (bk T aj []) fun v3=>br G2 (.own (cI)) fun i4 G5=>wg (ax T G5 aj (.ptr i4 [] 0) v3) fun G6=>let J41:ag -> ah -> Prop:=(fun x12 G11=>brB (some x12)
 (Q (.bool false) G11)
 (wv (af T G11 au (.ptr i1 [0] 0)) fun v13=>wv (aw T .eql au v13 (.int .i64 1)) fun v14=>brB (some v14)
 (wv (af T G11 ai (.ptr i1 [2] 2)) fun v15=>wv (aw T .geq ai v15 (.int .i64 1)) fun v16=>brB (some v16)
 (wv (af T G11 ai (.ptr i1 [2] 2)) fun v17=>wv (aw T .leq ai v17 (.int .i64 1152921504606846976)) fun v18=>brB (some v18)
 (wv (af T G11 bH (.ptr i1 [4] 35)) fun v19=>wv (aw T .eql bH v19 (.str [])) fun v20=>Q v20 G11)
 (Q (.bool false) G11))
 (Q (.bool false) G11))
 (wv (aw T .eql au v13 (.int .i64 2)) fun v23=>brB (some v23)
 (wv (af T G11 ai (.ptr i1 [2] 2)) fun v24=>wv (aw T .eql ai v24 (.int .i64 0)) fun v25=>brB (some v25)
 (wv (af T G11 bH (.ptr i1 [4] 35)) fun v26=>wv (aw T .eql bH v26 (.str [])) fun v27=>Q v27 G11)
 (Q (.bool false) G11))
 (wv (aw T .eql au v13 (.int .i64 3)) fun v30=>brB (some v30)
 (wv (af T G11 ai (.ptr i1 [2] 2)) fun v31=>wv (aw T .eql ai v31 (.int .i64 0)) fun v32=>brB (some v32)
 (wv (af T G11 aj (.ptr i1 [3] 3)) fun v33=>wv (af T G11 aj (.ptr i4 [] 0)) fun v34=>wv (aw T .eql aj v33 v34) fun v35=>brB (some v35)
 (wv (af T G11 bH (.ptr i1 [4] 35)) fun v36=>wv (gF T G11 bH v36) fun v37=>wv (aw T .leq au v37 (.int .i64 64)) fun v38=>Q v38 G11)
 (Q (.bool false) G11))
 (Q (.bool false) G11))
 (Q (.bool false) G11)))));
 wv (af T G6 ai (.ptr i1 [1] 1)) fun v7=>wv (aw T .lss ai v7 (.int .i64 0)) fun v8=>brB (some v8)
 (J41 (.bool true) G6)
 (wv (af T G6 ai (.ptr i1 [1] 1)) fun v9=>wv (aw T .geq ai v9 (.int .i64 2048)) fun v10=>J41 v10 G6)
def cy.an:Ann:=.nil
set_option maxRecDepth 100000 in
theorem cy.sound {a0:ag} {G:ah} {Q:ag -> ah -> Prop} (h:cy.S a0 G Q):al P cy.n [a0] G Q:=by
 have e:cy.S a0 G Q = awp cx (cy.body) cy.an (bK T [.tmp 2] Q) (dN [a0]) G:=by kernel_rfl
 exact ay dO (f:=cy.n) (fn:=Tryz.f203) (c:=cy.body) (an:=cy.an) Tryz.func203 (by kernel_rfl) (by kernel_rfl) (by kernel_rfl) (aF (by kernel_rfl) (by kernel_rfl)) (by simp [Tryz.f203]) (e ▸ h)
def eT.S (a0:ag) (G:ah) (Q:ag -> ah -> Prop):Prop :=
 ∀ R1:List ag -> ah -> Prop,
 (∀ (x3 x4 x5:ag) (G2:ah),(wv (gF T G2 ak x3) fun v6=>wv (aw T .lss au x5 v6) fun v7=>brB (some v7)
 (wv (aL T ak x3 x5) fun v8=>wv (bx T aI v8 0) fun v9=>wv (af T G2 au v9) fun v10=>wv (aw T .eql au v10 (.int .i64 1)) fun v11=>brB (some v11)
 (wv (aw T .add ai x4 (.int .i64 1)) fun v12=>wv (aw T .add au x5 (.int .i64 1)) fun v18=>R1 [x3,v12,v18] G2)
 (wv (aw T .add au x5 (.int .i64 1)) fun v19=>R1 [x3,x4,v19] G2))
 (Q x4 G2)) -> R1 [x3,x4,x5] G2) ->
 R1 [a0,.int .i64 0,.int .i64 0] G
def eT.an:Ann:=.two (.nil) (.two (.nil) (.two (.two (.nil) (.loop [0,3,4] [false,false,false] (.nil))) (.nil)))
set_option maxRecDepth 100000 in
theorem eT.sound {a0:ag} {G:ah} {Q:ag -> ah -> Prop} (h:eT.S a0 G Q):al P eT.n [a0] G Q:=by
 have e:eT.S a0 G Q = awp cx (eT.body) eT.an (bK T [.tmp 2] Q) (dN [a0]) G:=by kernel_rfl
 exact ay dO (f:=eT.n) (fn:=Tryz.f204) (c:=eT.body) (an:=eT.an) Tryz.func204 (by kernel_rfl) (by kernel_rfl) (by kernel_rfl) (aF (by kernel_rfl) (by kernel_rfl)) (by simp [Tryz.f204]) (e ▸ h)
def eR.S (a0 a1:ag) (G:ah) (Q:ag -> ah -> Prop):Prop :=
 br G (.own (gy)) fun i1 G2=>∀ R3:List ag -> ah -> Prop,
 (∀ (x5 x6 x7 x8:ag) (G4:ah),(wv (gF T G4 ak x5) fun v9=>wv (aw T .lss au x8 v9) fun v10=>brB (some v10)
 (wv (aL T ak x5 x8) fun v11=>wv (bx T aI v11 0) fun v12=>wv (af T G4 au v12) fun v13=>wv (aw T .eql au v13 (.int .i64 1)) fun v14=>brB (some v14)
 (wv (aL T ak x5 x8) fun v15=>wv (bx T aI v15 1) fun v16=>wv (af T G4 ai v16) fun v17=>wv (aw T .eql ai v17 x6) fun v18=>brB (some v18)
 (wv (aL T ak x5 x8) fun v25=>wv (af T G4 aI v25) fun v26=>wg (ax T G4 aI x7 v26) fun G27=>wv (af T G27 aI x7) fun v28=>Q (.tuple [v28,.bool true]) G27)
 (wv (aw T .add au x8 (.int .i64 1)) fun v31=>R3 [x5,x6,x7,v31] G4))
 (wv (aw T .add au x8 (.int .i64 1)) fun v32=>R3 [x5,x6,x7,v32] G4))
 (wv (bk T aI []) fun v33=>wg (ax T G4 aI x7 v33) fun G34=>wv (af T G34 aI x7) fun v35=>Q (.tuple [v35,.bool false]) G34)) -> R3 [x5,x6,x7,x8] G4) ->
 R3 [a0,a1,.ptr i1 [] 0,.int .i64 0] G2
def eR.an:Ann:=.two (.nil) (.two (.two (.nil) (.loop [0,1,4,6] [false,false,false,false] (.nil))) (.nil))
set_option maxRecDepth 100000 in
theorem eR.sound {a0 a1:ag} {G:ah} {Q:ag -> ah -> Prop} (h:eR.S a0 a1 G Q):al P eR.n [a0,a1] G Q:=by
 have e:eR.S a0 a1 G Q = awp cx (eR.body) eR.an (bK T [.cell 4 76,.tmp 5] Q) (dN [a0,a1]) G:=by kernel_rfl
 exact ay dO (f:=eR.n) (fn:=Tryz.f205) (c:=eR.body) (an:=eR.an) Tryz.func205 (by kernel_rfl) (by kernel_rfl) (by kernel_rfl) (aF (by kernel_rfl) (by kernel_rfl)) (by simp [Tryz.f205]) (e ▸ h)
def cP.S (a0 a1:ag) (G:ah) (Q:ag -> ah -> Prop):Prop :=
 br G (.own (gy)) fun i1 G2=>∀ R3:List ag -> ah -> Prop,
 (∀ (x5 x6 x7 x8:ag) (G4:ah),(wv (gF T G4 ak x5) fun v9=>wv (aw T .lss au x8 v9) fun v10=>brB (some v10)
 (let J33:ag -> ah -> Prop:=(fun x28 G27=>brB (some x28)
 (wv (aL T ak x5 x8) fun v29=>wv (af T G27 aI v29) fun v30=>wg (ax T G27 aI x7 v30) fun G31=>wv (af T G31 aI x7) fun v32=>Q (.tuple [v32,.bool true]) G31)
 (wv (aw T .add au x8 (.int .i64 1)) fun v34=>R3 [x5,x6,x7,v34] G27));
 wv (aL T ak x5 x8) fun v11=>wv (bx T aI v11 0) fun v12=>wv (af T G4 au v12) fun v13=>wv (aw T .eql au v13 (.int .i64 2)) fun v14=>brB (some v14)
 (wv (aL T ak x5 x8) fun v15=>wv (bx T aI v15 1) fun v16=>wv (af T G4 ai v16) fun v17=>wv (aw T .eql ai v17 x6) fun v18=>J33 v18 G4)
 (wv (aL T ak x5 x8) fun v19=>wv (bx T aI v19 0) fun v20=>wv (af T G4 au v20) fun v21=>wv (aw T .eql au v21 (.int .i64 3)) fun v22=>brB (some v22)
 (wv (aL T ak x5 x8) fun v23=>wv (bx T aI v23 1) fun v24=>wv (af T G4 ai v24) fun v25=>wv (aw T .eql ai v25 x6) fun v26=>J33 v26 G4)
 (J33 (.bool false) G4)))
 (wv (bk T aI []) fun v35=>wg (ax T G4 aI x7 v35) fun G36=>wv (af T G36 aI x7) fun v37=>Q (.tuple [v37,.bool false]) G36)) -> R3 [x5,x6,x7,x8] G4) ->
 R3 [a0,a1,.ptr i1 [] 0,.int .i64 0] G2
def cP.an:Ann:=.two (.nil) (.two (.two (.nil) (.loop [0,1,4,6] [false,false,false,false] (.nil))) (.nil))
set_option maxRecDepth 100000 in
theorem cP.sound {a0 a1:ag} {G:ah} {Q:ag -> ah -> Prop} (h:cP.S a0 a1 G Q):al P cP.n [a0,a1] G Q:=by
 have e:cP.S a0 a1 G Q = awp cx (cP.body) cP.an (bK T [.cell 4 76,.tmp 5] Q) (dN [a0,a1]) G:=by kernel_rfl
 exact ay dO (f:=cP.n) (fn:=Tryz.f206) (c:=cP.body) (an:=cP.an) Tryz.func206 (by kernel_rfl) (by kernel_rfl) (by kernel_rfl) (aF (by kernel_rfl) (by kernel_rfl)) (by simp [Tryz.f206]) (e ▸ h)
def dJ.S (a0 a1 a2:ag) (G:ah) (Q:ag -> ah -> Prop):Prop :=
 br G (.own (a2)) fun i1 G2=>wv (gF T G2 ak a0) fun v3=>wv (aw T .geq au v3 (.int .i64 2048)) fun v4=>brB (some v4)
 (Q (.int .i64 6) G2)
 (wv (af T G2 aI (.ptr i1 [] 0)) fun v5=>al P cy.n [v5] G2 fun v6 G7=>wv (vun .not v6) fun v8=>brB (some v8)
 (Q (.int .i64 120) G7)
 (wv (af T G7 au (.ptr i1 [0] 0)) fun v9=>wv (aw T .eql au v9 (.int .i64 1)) fun v10=>brB (some v10)
 (wv (af T G7 ai (.ptr i1 [1] 1)) fun v11=>al P eT.n [a0] G7 fun v12 G13=>(af T G13 ai (.ptr i1 [1] 1) = some v11 /\ True) /\ (wv (aw T .neq ai v11 v12) fun v14=>brB (some v14)
 (Q (.int .i64 120) G13)
 (Q (.int .i64 0) G13)))
 (wv (af T G7 ai (.ptr i1 [1] 1)) fun v15=>al P eR.n [a1,v15] G7 fun v16 G17=>wv (aW v16 0) fun v18=>wv (aW v16 1) fun v19=>br G17 (.own (gy)) fun i20 G21=>wg (ax T G21 aI (.ptr i20 [] 0) v18) fun G22=>wv (af T G22 ai (.ptr i1 [1] 1)) fun v23=>al P cP.n [a0,v23] G22 fun v24 G25=>wv (aW v24 0) fun v26=>wv (aW v24 1) fun v27=>br G25 (.own (gy)) fun i28 G29=>wg (ax T G29 aI (.ptr i28 [] 0) v26) fun G30=>let J46:ag -> ah -> Prop:=(fun x33 G32=>brB (some x33)
 (Q (.int .i64 120) G32)
 (wv (af T G32 au (.ptr i1 [0] 0)) fun v34=>wv (aw T .eql au v34 (.int .i64 2)) fun v35=>brB (some v35)
 (wv (fj T aj (.ptr i1 [3] 3) none none none) fun v36=>wv (gi T G32 aP bH v36) fun v37=>wv (af T G32 aj (.ptr i20 [3] 3)) fun v38=>bh T im 1 [(0,v37)] G32 fun v39 G40=>al P eI.n [v39] G40 fun v41 G42=>(af T G42 aj (.ptr i20 [3] 3) = some v38 /\ True) /\ (wv (aw T .neq aj v41 v38) fun v43=>brB (some v43)
 (Q (.int .i64 120) G42)
 (Q (.int .i64 0) G42)))
 (Q (.int .i64 0) G32)));
 wv (vun .not v19) fun v31=>brB (some v31)
 (J46 (.bool true) G30)
 (J46 v27 G30))))
def dJ.an:Ann:=.two (.nil) (.two (.nil) (.two (.nil) (.two (.two (.nil) (.two (.two (.two (.ord [(0,[]),(1,[]),(2,[]),(3,[1]),(4,[])]) (.nil)) (.nil)) (.nil))) (.two (.nil) (.two (.nil) (.two (.nil) (.two (.two (.ord [(0,[]),(1,[]),(2,[]),(3,[]),(4,[]),(5,[]),(6,[]),(9,[]),(10,[]),(7,[]),(8,[10]),(11,[]),(12,[])]) (.nil)) (.nil))))))))
set_option maxRecDepth 100000 in
theorem dJ.sound {a0 a1 a2:ag} {G:ah} {Q:ag -> ah -> Prop} (h:dJ.S a0 a1 a2 G Q):al P dJ.n [a0,a1,a2] G Q:=by
 have e:dJ.S a0 a1 a2 G Q = awp cx (dJ.body) dJ.an (bK T [.tmp 6] Q) (dN [a0,a1,a2]) G:=by kernel_rfl
 exact ay dO (f:=dJ.n) (fn:=Tryz.f167) (c:=dJ.body) (an:=dJ.an) Tryz.func167 (by kernel_rfl) (by kernel_rfl) (by kernel_rfl) (aF (by kernel_rfl) (by kernel_rfl)) (by simp [Tryz.f167]) (e ▸ h)
def c0.S (a0 a1 a2:ag) (G:ah) (Q:ag -> ah -> Prop):Prop :=
 cc T G ak ak (.nilSlice) a0 fun v1 G2=>∀ R3:List ag -> ah -> Prop,
 (∀ (x5 x6 x7 x8:ag) (G4:ah),(wv (gF T G4 ak x6) fun v9=>wv (aw T .lss au x8 v9) fun v10=>brB (some v10)
 (wv (aL T ak x6 x8) fun v11=>wv (af T G4 aI v11) fun v12=>al P dJ.n [x7,x5,v12] G4 fun v13 G14=>wv (aw T .neq bq v13 (.int .i64 0)) fun v15=>brB (some v15)
 (Q (.tuple [.nilSlice,.bool false]) G14)
 (wv (aL T ak x6 x8) fun v16=>wv (af T G14 aI v16) fun v17=>bh T ak 1 [(0,v17)] G14 fun v18 G19=>cc T G19 ak ak x7 v18 fun v20 G21=>wv (aw T .add au x8 (.int .i64 1)) fun v22=>R3 [x5,x6,v20,v22] G21))
 (Q (.tuple [x7,.bool true]) G4)) -> R3 [x5,x6,x7,x8] G4) ->
 R3 [a1,a2,v1,.int .i64 0] G2
def c0.an:Ann:=.two (.nil) (.two (.nil) (.two (.two (.nil) (.loop [1,2,8,9] [false,false,false,false] (.nil))) (.nil)))
set_option maxRecDepth 100000 in
theorem c0.sound {a0 a1 a2:ag} {G:ah} {Q:ag -> ah -> Prop} (h:c0.S a0 a1 a2 G Q):al P c0.n [a0,a1,a2] G Q:=by
 have e:c0.S a0 a1 a2 G Q = awp cx (c0.body) c0.an (bK T [.tmp 6,.tmp 7] Q) (dN [a0,a1,a2]) G:=by kernel_rfl
 exact ay dO (f:=c0.n) (fn:=Tryz.f128) (c:=c0.body) (an:=c0.an) Tryz.func128 (by kernel_rfl) (by kernel_rfl) (by kernel_rfl) (aF (by kernel_rfl) (by kernel_rfl)) (by simp [Tryz.f128]) (e ▸ h)
def dX.S (a0 a1:ag) (G:ah) (Q:ag -> ah -> Prop):Prop :=
 wv (gF T G bu a0) fun v1=>wv (aw T .gtr au v1 (.int .i64 49)) fun v2=>brB (some v2)
 (Q (.int .i64 1) G)
 (wv (aw T .lss ai a1 (.int .i64 0)) fun v3=>brB (some v3)
 (Q (.int .i64 90) G)
 (wv (aw T .gtr ai a1 (.int .i64 281474976710655)) fun v4=>brB (some v4)
 (Q (.int .i64 90) G)
 (Q (.int .i64 0) G)))
def dX.an:Ann:=.nil
set_option maxRecDepth 100000 in
theorem dX.sound {a0 a1:ag} {G:ah} {Q:ag -> ah -> Prop} (h:dX.S a0 a1 G Q):al P dX.n [a0,a1] G Q:=by
 have e:dX.S a0 a1 G Q = awp cx (dX.body) dX.an (bK T [.tmp 4] Q) (dN [a0,a1]) G:=by kernel_rfl
 exact ay dO (f:=dX.n) (fn:=Tryz.f103) (c:=dX.body) (an:=dX.an) Tryz.func103 (by kernel_rfl) (by kernel_rfl) (by kernel_rfl) (aF (by kernel_rfl) (by kernel_rfl)) (by simp [Tryz.f103]) (e ▸ h)
def fM.S (a0 a1:ag) (G:ah) (Q:ag -> ah -> Prop):Prop :=
 br G (.own (pe)) fun i1 G2=>let J17:ag -> ah -> Prop:=(fun x9 G8=>brB (some x9)
 (wv (aL T bu a0 a1) fun v10=>wv (af T G8 ff v10) fun v11=>wg (ax T G8 ff (.ptr i1 [] 0) v11) fun G12=>wv (af T G12 ff (.ptr i1 [] 0)) fun v13=>Q v13 G12)
 (wv (bk T ff []) fun v14=>wg (ax T G8 ff (.ptr i1 [] 0) v14) fun G15=>wv (af T G15 ff (.ptr i1 [] 0)) fun v16=>Q v16 G15));
 wv (gF T G2 bu a0) fun v3=>wv (aw T .lss au a1 v3) fun v4=>brB (some v4)
 (wv (aL T bu a0 a1) fun v5=>wv (bx T ff v5 2) fun v6=>wv (af T G2 ey v6) fun v7=>J17 v7 G2)
 (J17 (.bool false) G2)
def fM.an:Ann:=.nil
set_option maxRecDepth 100000 in
theorem fM.sound {a0 a1:ag} {G:ah} {Q:ag -> ah -> Prop} (h:fM.S a0 a1 G Q):al P fM.n [a0,a1] G Q:=by
 have e:fM.S a0 a1 G Q = awp cx (fM.body) fM.an (bK T [.cell 4 100] Q) (dN [a0,a1]) G:=by kernel_rfl
 exact ay dO (f:=fM.n) (fn:=Tryz.f104) (c:=fM.body) (an:=fM.an) Tryz.func104 (by kernel_rfl) (by kernel_rfl) (by kernel_rfl) (aF (by kernel_rfl) (by kernel_rfl)) (by simp [Tryz.f104]) (e ▸ h)
def dd.S (a0:ag) (G:ah) (Q:ag -> ah -> Prop):Prop :=
 br G (.own (a0)) fun i1 G2=>∀ R3:List ag -> ah -> Prop,
 (∀ (x5 x6:ag) (G4:ah),(wv (aw T .lss au x6 (.int .i64 48)) fun v7=>brB (some v7)
 (wv (aL T jE x5 x6) fun v8=>wv (af T G4 au v8) fun v9=>wv (aw T .eql au v9 (.int .i64 1)) fun v10=>brB (some v10)
 (Q x6 G4)
 (wv (aw T .add au x6 (.int .i64 1)) fun v11=>R3 [x5,v11] G4))
 (Q (.int .i64 48) G4)) -> R3 [x5,x6] G4) ->
 R3 [.ptr i1 [] 0,.int .i64 0] G2
def dd.an:Ann:=.two (.nil) (.two (.two (.nil) (.loop [1,3] [false,false] (.nil))) (.nil))
set_option maxRecDepth 100000 in
theorem dd.sound {a0:ag} {G:ah} {Q:ag -> ah -> Prop} (h:dd.S a0 G Q):al P dd.n [a0] G Q:=by
 have e:dd.S a0 G Q = awp cx (dd.body) dd.an (bK T [.tmp 2] Q) (dN [a0]) G:=by kernel_rfl
 exact ay dO (f:=dd.n) (fn:=Tryz.f165) (c:=dd.body) (an:=dd.an) Tryz.func165 (by kernel_rfl) (by kernel_rfl) (by kernel_rfl) (aF (by kernel_rfl) (by kernel_rfl)) (by simp [Tryz.f165]) (e ▸ h)
def du.S (a0 a1 a2:ag) (G:ah) (Q:ag -> ah -> Prop):Prop :=
 br G (.own (a0)) fun i1 G2=>br G2 (.own (cI)) fun i3 G4=>let J53:ag -> ah -> Prop:=(fun x12 G11=>brB (some x12)
 (wv (bk T aj []) fun v13=>wg (ax T G11 aj (.ptr i3 [] 0) v13) fun G14=>wv (af T G14 aj (.ptr i3 [] 0)) fun v15=>Q (.tuple [v15,.int .i64 90]) G14)
 (al P cj.n [a1] G11 fun v16 G17=>br G17 (.own (nS)) fun i18 G19=>wg (ax T G19 jE (.ptr i18 [] 0) v16) fun G20=>al P cj.n [a2] G20 fun v21 G22=>br G22 (.own (nS)) fun i23 G24=>wg (ax T G24 jE (.ptr i23 [] 0) v21) fun G25=>wv (af T G25 jE (.ptr i18 [] 0)) fun v26=>al P dd.n [v26] G25 fun v27 G28=>∀ R29:List ag -> ah -> Prop,
 (∀ (x31 x32 x33 x34 x35 x36:ag) (G30:ah),(wv (aw T .lss au x36 (.int .i64 48)) fun v37=>brB (some v37)
 (wv (aL T jE x33 x36) fun v38=>wv (af T G30 au v38) fun v39=>wv (aL T jE x34 x36) fun v40=>wv (af T G30 au v40) fun v41=>wv (aw T .neq au v39 v41) fun v42=>brB (some v42)
 (wv (bk T aj []) fun v43=>wg (ax T G30 aj x32 v43) fun G44=>wv (af T G44 aj x32) fun v45=>Q (.tuple [v45,.int .i64 5]) G44)
 (wv (aw T .add au x36 (.int .i64 1)) fun v46=>R29 [x31,x32,x33,x34,x35,v46] G30))
 (wv (af T G30 aj x31) fun v47=>wv (af T G30 jE x34) fun v48=>al P dL.n [v47,v48,x35] G30 fun v49 G50=>wg (ax T G50 aj x32 v49) fun G51=>wv (af T G51 aj x32) fun v52=>Q (.tuple [v52,.int .i64 0]) G51)) -> R29 [x31,x32,x33,x34,x35,x36] G30) ->
 R29 [.ptr i1 [] 0,.ptr i3 [] 0,.ptr i18 [] 0,.ptr i23 [] 0,v27,v27] G28));
 al P cw.n [a1] G4 fun v5 G6=>wv (vun .not v5) fun v7=>brB (some v7)
 (J53 (.bool true) G6)
 (al P cw.n [a2] G6 fun v8 G9=>wv (vun .not v8) fun v10=>J53 v10 G9)
def du.an:Ann:=.two (.nil) (.two (.nil) (.two (.nil) (.two (.nil) (.two (.nil) (.two (.two (.nil) (.loop [3,6,8,9,10,11] [false,false,false,false,false,false] (.two (.nil) (.two (.two (.ord [(0,[]),(1,[]),(2,[]),(3,[]),(4,[]),(5,[]),(6,[])]) (.nil)) (.nil))))) (.nil))))))
set_option maxRecDepth 100000 in
theorem du.sound {a0 a1 a2:ag} {G:ah} {Q:ag -> ah -> Prop} (h:du.S a0 a1 a2 G Q):al P du.n [a0,a1,a2] G Q:=by
 have e:du.S a0 a1 a2 G Q = awp cx (du.body) du.an (bK T [.cell 6 23,.tmp 7] Q) (dN [a0,a1,a2]) G:=by kernel_rfl
 exact ay dO (f:=du.n) (fn:=Tryz.f105) (c:=du.body) (an:=du.an) Tryz.func105 (by kernel_rfl) (by kernel_rfl) (by kernel_rfl) (aF (by kernel_rfl) (by kernel_rfl)) (by simp [Tryz.f105]) (e ▸ h)
def dY.S (a0:ag) (G:ah) (Q:ag -> ah -> Prop):Prop :=
 al P cw.n [a0] G fun v1 G2=>wv (vun .not v1) fun v3=>brB (some v3)
 (Q (.tuple [.int .i64 0,.int .i64 90]) G2)
 (al P cj.n [a0] G2 fun v4 G5=>al P dd.n [v4] G5 fun v6 G7=>Q (.tuple [v6,.int .i64 0]) G7)
def dY.an:Ann:=.nil
set_option maxRecDepth 100000 in
theorem dY.sound {a0:ag} {G:ah} {Q:ag -> ah -> Prop} (h:dY.S a0 G Q):al P dY.n [a0] G Q:=by
 have e:dY.S a0 G Q = awp cx (dY.body) dY.an (bK T [.tmp 2,.tmp 3] Q) (dN [a0]) G:=by kernel_rfl
 exact ay dO (f:=dY.n) (fn:=Tryz.f184) (c:=dY.body) (an:=dY.an) Tryz.func184 (by kernel_rfl) (by kernel_rfl) (by kernel_rfl) (aF (by kernel_rfl) (by kernel_rfl)) (by simp [Tryz.f184]) (e ▸ h)
def eH.S (a0 a1 a2:ag) (G:ah) (Q:ag -> ah -> Prop):Prop :=
 br G (.own (a2)) fun i1 G2=>al P dX.n [a0,a1] G2 fun v3 G4=>wv (aw T .neq bq v3 (.int .i64 0)) fun v5=>brB (some v5)
 (Q (.tuple [.nilSlice,v3]) G4)
 (al P dY.n [a1] G4 fun v6 G7=>wv (aW v6 0) fun v8=>wv (aW v6 1) fun v9=>∀ R10:List ag -> ah -> Prop,
 (∀ (x12 x13 x14 x15 x16 x17:ag) (G11:ah),(wv (aw T .lss au x17 (.int .i64 49)) fun v18=>brB (some v18)
 (al P fM.n [x12,x17] G11 fun v19 G20=>br G20 (.own (pe)) fun i21 G22=>wg (ax T G22 ff (.ptr i21 [] 0) v19) fun G23=>let J65:ag -> ah -> Prop:=(fun x27 G26=>let J64:ah -> Prop:=(fun G43=>wv (aw T .eql au x17 x15) fun v44=>brB (some v44)
 (wv (af T G43 aj x14) fun v45=>wv (bk T ff [(0,x13),(1,v45),(2,.bool true)]) fun v46=>wg (ax T G43 ff (.ptr i21 [] 0) v46) fun G47=>wv (af T G47 ff (.ptr i21 [] 0)) fun v54=>bh T bu 1 [(0,v54)] G47 fun v55 G56=>cc T G56 bu bu x16 v55 fun v57 G58=>wv (aw T .add au x17 (.int .i64 1)) fun v69=>R10 [x12,x13,x14,x15,v57,v69] G58)
 (wv (af T G43 ff (.ptr i21 [] 0)) fun v59=>bh T bu 1 [(0,v59)] G43 fun v60 G61=>cc T G61 bu bu x16 v60 fun v62 G63=>wv (aw T .add au x17 (.int .i64 1)) fun v70=>R10 [x12,x13,x14,x15,v62,v70] G63));
 brB (some x27)
 (wv (af T G26 aj x14) fun v28=>wv (af T G26 ai (.ptr i21 [0] 0)) fun v29=>al P du.n [v28,x13,v29] G26 fun v30 G31=>wv (aW v30 0) fun v32=>wv (aW v30 1) fun v33=>br G31 (.own (cI)) fun i34 G35=>wg (ax T G35 aj (.ptr i34 [] 0) v32) fun G36=>wv (aw T .neq bq v33 (.int .i64 0)) fun v37=>brB (some v37)
 (Q (.tuple [.nilSlice,.int .i64 100]) G36)
 (wv (af T G36 aj (.ptr i34 [] 0)) fun v38=>wv (af T G36 aj (.ptr i21 [1] 1)) fun v39=>wv (aw T .neq aj v38 v39) fun v40=>brB (some v40)
 (Q (.tuple [.nilSlice,.int .i64 100]) G36)
 (J64 G36)))
 (J64 G26));
 wv (aw T .lss au x17 x15) fun v24=>brB (some v24)
 (wv (af T G23 ey (.ptr i21 [2] 33)) fun v25=>J65 v25 G23)
 (J65 (.bool false) G23))
 (Q (.tuple [x16,.int .i64 0]) G11)) -> R10 [x12,x13,x14,x15,x16,x17] G11) ->
 R10 [a0,a1,.ptr i1 [] 0,v8,.nilSlice,.int .i64 0] G7)
def eH.an:Ann:=.two (.nil) (.two (.nil) (.two (.nil) (.two (.nil) (.two (.nil) (.two (.two (.nil) (.loop [0,1,5,9,11,12] [false,false,false,false,false,false] (.nil))) (.nil))))))
set_option maxRecDepth 100000 in
theorem eH.sound {a0 a1 a2:ag} {G:ah} {Q:ag -> ah -> Prop} (h:eH.S a0 a1 a2 G Q):al P eH.n [a0,a1,a2] G Q:=by
 have e:eH.S a0 a1 a2 G Q = awp cx (eH.body) eH.an (bK T [.tmp 6,.tmp 7] Q) (dN [a0,a1,a2]) G:=by kernel_rfl
 exact ay dO (f:=eH.n) (fn:=Tryz.f129) (c:=eH.body) (an:=eH.an) Tryz.func129 (by kernel_rfl) (by kernel_rfl) (by kernel_rfl) (aF (by kernel_rfl) (by kernel_rfl)) (by simp [Tryz.f129]) (e ▸ h)
def cN.S (a0 a1:ag) (G:ah) (Q:ag -> ah -> Prop):Prop :=
 br G (.own (a0)) fun i1 G2=>br G2 (.own (a1)) fun i3 G4=>br G4 (.own (iT)) fun i5 G6=>wv (af T G6 aJ (.ptr i1 [] 0)) fun v7=>al P fw.n [v7] G6 fun v8 G9=>br G9 (.own (iT)) fun i10 G11=>wg (ax T G11 aJ (.ptr i10 [] 0) v8) fun G12=>wv (af T G12 ak (.ptr i1 [5] 5)) fun v13=>cc T G12 ak ak (.nilSlice) v13 fun v14 G15=>wg (ax T G15 ak (.ptr i10 [5] 5) v14) fun G16=>wv (af T G16 au (.ptr i3 [0] 0)) fun v17=>wv (aw T .eql au v17 (.int .i64 1)) fun v18=>brB (some v18)
 (wv (af T G16 ak (.ptr i1 [4] 4)) fun v19=>wv (af T G16 ak (.ptr i1 [5] 5)) fun v20=>wv (af T G16 aI (.ptr i3 [1] 1)) fun v21=>bh T ak 1 [(0,v21)] G16 fun v22 G23=>al P c0.n [v19,v20,v22] G23 fun v24 G25=>wv (aW v24 0) fun v26=>wv (aW v24 1) fun v27=>wg (ax T G25 ak (.ptr i10 [4] 4) v26) fun G28=>wv (af T G28 aJ (.ptr i10 [] 0)) fun v29=>wg (ax T G28 aJ (.ptr i5 [] 0) v29) fun G30=>wv (af T G30 aJ (.ptr i5 [] 0)) fun v31=>Q (.tuple [v31,v27]) G30)
 (wv (aw T .eql au v17 (.int .i64 2)) fun v32=>brB (some v32)
 (wv (af T G16 ai (.ptr i3 [3] 38)) fun v33=>wg (ax T G16 ai (.ptr i10 [7] 7) v33) fun G34=>wv (af T G34 bG (.ptr i3 [4] 39)) fun v35=>wg (ax T G34 bG (.ptr i10 [10] 11) v35) fun G36=>wg (ax T G36 ey (.ptr i10 [12] 15) (.bool true)) fun G37=>let J64:ag -> ah -> Prop:=(fun x62 G61=>wv (af T G61 aJ (.ptr i5 [] 0)) fun v63=>Q (.tuple [v63,x62]) G61);
 wv (af T G37 aJ (.ptr i10 [] 0)) fun v38=>wv (af T G37 ai (.ptr i1 [7] 7)) fun v39=>wv (af T G37 ai (.ptr i1 [8] 8)) fun v40=>wv (aw T .eql ai v39 v40) fun v41=>brB (some v41)
 (wv (af T G37 ai (.ptr i3 [3] 38)) fun v42=>wv (af T G37 ai (.ptr i1 [7] 7)) fun v43=>wv (aw T .add ai v43 (.int .i64 1)) fun v44=>wv (aw T .eql ai v42 v44) fun v45=>brB (some v45)
 (wv (af T G37 au (.ptr i3 [4,1] 40)) fun v46=>wv (af T G37 au (.ptr i1 [9,1] 10)) fun v47=>wv (aw T .eql au v46 v47) fun v48=>brB (some v48)
 (wv (af T G37 au (.ptr i3 [4,0] 39)) fun v49=>wv (af T G37 au (.ptr i1 [10,0] 11)) fun v50=>wv (aw T .geq au v49 v50) fun v51=>brB (some v51)
 (wv (af T G37 au (.ptr i3 [4,0] 39)) fun v52=>wv (af T G37 ak (.ptr i1 [4] 4)) fun v53=>wv (gF T G37 ak v53) fun v54=>wv (aw T .leq au v52 v54) fun v55=>wg (ax T G37 aJ (.ptr i5 [] 0) v38) fun G56=>(af T G56 ak (.ptr i1 [4] 4) = some v53 /\ af T G56 au (.ptr i3 [4,0] 39) = some v52 /\ True) /\ (J64 v55 G56))
 (wg (ax T G37 aJ (.ptr i5 [] 0) v38) fun G57=>(True) /\ (J64 (.bool false) G57)))
 (wg (ax T G37 aJ (.ptr i5 [] 0) v38) fun G58=>(True) /\ (J64 (.bool false) G58)))
 (wg (ax T G37 aJ (.ptr i5 [] 0) v38) fun G59=>(True) /\ (J64 (.bool false) G59)))
 (wg (ax T G37 aJ (.ptr i5 [] 0) v38) fun G60=>(True) /\ (J64 (.bool false) G60)))
 (wv (aw T .eql au v17 (.int .i64 3)) fun v65=>brB (some v65)
 (wv (af T G16 ak (.ptr i1 [5] 5)) fun v66=>wv (af T G16 au (.ptr i1 [9,1] 10)) fun v67=>wv (af T G16 ak (.ptr i1 [4] 4)) fun v68=>wv (af T G16 ak (.ptr i3 [2] 37)) fun v69=>al P bB.n [v66,v67] G16 fun v70 G71=>(af T G71 ak (.ptr i3 [2] 37) = some v69 /\ af T G71 ak (.ptr i1 [4] 4) = some v68 /\ True) /\ (al P c0.n [v70,v68,v69] G71 fun v72 G73=>wv (aW v72 0) fun v74=>wv (aW v72 1) fun v75=>wg (ax T G73 ak (.ptr i10 [5] 5) v74) fun G76=>wv (af T G76 ai (.ptr i3 [3] 38)) fun v77=>wg (ax T G76 ai (.ptr i10 [6] 6) v77) fun G78=>wv (af T G78 au (.ptr i1 [11,0] 13)) fun v79=>wv (gF T G78 ak v74) fun v80=>wv (bk T bG [(0,v79),(1,v80)]) fun v81=>wg (ax T G78 bG (.ptr i10 [9] 9) v81) fun G82=>wv (af T G82 aj (.ptr i3 [5] 41)) fun v83=>wg (ax T G82 aj (.ptr i10 [14] 80) v83) fun G84=>wg (ax T G84 ey (.ptr i10 [12] 15) (.bool false)) fun G85=>wv (af T G85 aJ (.ptr i10 [] 0)) fun v86=>brB (some v75)
 (wv (af T G85 ai (.ptr i3 [3] 38)) fun v87=>wv (af T G85 ai (.ptr i1 [6] 6)) fun v88=>wv (aw T .add ai v88 (.int .i64 1)) fun v89=>wv (aw T .eql ai v87 v89) fun v90=>wg (ax T G85 aJ (.ptr i5 [] 0) v86) fun G91=>(af T G91 ai (.ptr i1 [6] 6) = some v88 /\ af T G91 ai (.ptr i3 [3] 38) = some v87 /\ True) /\ (wv (af T G91 aJ (.ptr i5 [] 0)) fun v96=>Q (.tuple [v96,v90]) G91))
 (wg (ax T G85 aJ (.ptr i5 [] 0) v86) fun G92=>(True) /\ (wv (af T G92 aJ (.ptr i5 [] 0)) fun v97=>Q (.tuple [v97,.bool false]) G92))))
 (wv (aw T .eql au v17 (.int .i64 4)) fun v98=>brB (some v98)
 (wv (af T G16 bu (.ptr i1 [15] 112)) fun v99=>wv (af T G16 ai (.ptr i3 [3] 38)) fun v100=>wv (af T G16 aj (.ptr i3 [6] 73)) fun v101=>al P eH.n [v99,v100,v101] G16 fun v102 G103=>wv (aW v102 0) fun v104=>wv (aW v102 1) fun v105=>wg (ax T G103 bu (.ptr i10 [15] 112) v104) fun G106=>wv (af T G106 ai (.ptr i1 [8] 8)) fun v107=>wv (aw T .add ai v107 (.int .i64 1)) fun v108=>wg (ax T G106 ai (.ptr i10 [8] 8) v108) fun G109=>wv (af T G109 bG (.ptr i1 [10] 11)) fun v110=>wg (ax T G109 bG (.ptr i10 [11] 13) v110) fun G111=>wv (aL T cL (.ptr i1 [13] 16) (.int .i64 1)) fun v112=>wv (af T G111 aj v112) fun v113=>wv (af T G111 aj (.ptr i3 [7] 105)) fun v114=>wv (bk T cL [(0,v113),(1,v114)]) fun v115=>wg (ax T G111 cL (.ptr i10 [13] 16) v115) fun G116=>wv (af T G116 aJ (.ptr i10 [] 0)) fun v117=>wv (aw T .eql bq v105 (.int .i64 0)) fun v118=>brB (some v118)
 (wv (af T G116 ai (.ptr i1 [7] 7)) fun v119=>wv (af T G116 ai (.ptr i1 [8] 8)) fun v120=>wv (aw T .add ai v120 (.int .i64 1)) fun v121=>wv (aw T .eql ai v119 v121) fun v122=>brB (some v122)
 (wv (af T G116 ai (.ptr i3 [3] 38)) fun v123=>wv (af T G116 ai (.ptr i1 [8] 8)) fun v124=>wv (aw T .eql ai v123 v124) fun v125=>wg (ax T G116 aJ (.ptr i5 [] 0) v117) fun G126=>(af T G126 ai (.ptr i1 [8] 8) = some v124 /\ af T G126 ai (.ptr i3 [3] 38) = some v123 /\ True) /\ (wv (af T G126 aJ (.ptr i5 [] 0)) fun v132=>Q (.tuple [v132,v125]) G126))
 (wg (ax T G116 aJ (.ptr i5 [] 0) v117) fun G127=>(True) /\ (wv (af T G127 aJ (.ptr i5 [] 0)) fun v133=>Q (.tuple [v133,.bool false]) G127)))
 (wg (ax T G116 aJ (.ptr i5 [] 0) v117) fun G128=>(True) /\ (wv (af T G128 aJ (.ptr i5 [] 0)) fun v134=>Q (.tuple [v134,.bool false]) G128)))
 (wv (af T G16 aJ (.ptr i1 [] 0)) fun v135=>wg (ax T G16 aJ (.ptr i5 [] 0) v135) fun G136=>wv (af T G136 aJ (.ptr i5 [] 0)) fun v137=>Q (.tuple [v137,.bool false]) G136))))
def cN.an:Ann:=.two (.nil) (.two (.nil) (.two (.nil) (.two (.two (.nil) (.two (.nil) (.two (.nil) (.two (.nil) (.two (.two (.nil) (.two (.nil) (.two (.nil) (.two (.ord [(0,[]),(1,[]),(2,[]),(3,[]),(4,[]),(5,[]),(6,[]),(7,[]),(8,[]),(9,[]),(10,[]),(11,[]),(12,[]),(13,[]),(14,[]),(15,[]),(16,[]),(17,[]),(18,[]),(19,[]),(20,[]),(21,[]),(22,[]),(23,[]),(24,[]),(25,[]),(26,[]),(27,[]),(28,[]),(29,[]),(30,[]),(31,[]),(32,[]),(33,[]),(34,[]),(35,[]),(36,[]),(37,[]),(38,[]),(39,[]),(40,[]),(41,[35,37]),(42,[])]) (.nil))))) (.two (.nil) (.two (.two (.ord [(0,[]),(1,[]),(2,[]),(3,[]),(4,[]),(6,[]),(7,[]),(8,[]),(9,[]),(5,[7,9]),(10,[]),(11,[]),(12,[]),(13,[]),(14,[]),(15,[])]) (.two (.nil) (.two (.nil) (.two (.nil) (.two (.nil) (.two (.nil) (.two (.ord [(0,[]),(1,[]),(2,[]),(3,[]),(4,[]),(5,[]),(6,[]),(7,[]),(8,[]),(9,[]),(10,[4,6]),(11,[])]) (.nil)))))))) (.two (.nil) (.two (.two (.nil) (.two (.nil) (.two (.nil) (.two (.nil) (.two (.nil) (.two (.ord [(0,[]),(1,[]),(2,[]),(3,[]),(4,[]),(5,[]),(6,[]),(7,[]),(8,[]),(9,[]),(10,[]),(11,[]),(12,[]),(13,[]),(14,[]),(15,[]),(16,[]),(17,[]),(18,[13,15]),(19,[])]) (.nil))))))) (.nil)))))))))) (.nil))))
set_option maxRecDepth 100000 in
theorem cN.sound {a0 a1:ag} {G:ah} {Q:ag -> ah -> Prop} (h:cN.S a0 a1 G Q):al P cN.n [a0,a1] G Q:=by
 have e:cN.S a0 a1 G Q = awp cx (cN.body) cN.an (bK T [.cell 4 38,.tmp 5] Q) (dN [a0,a1]) G:=by kernel_rfl
 exact ay dO (f:=cN.n) (fn:=Tryz.f70) (c:=cN.body) (an:=cN.an) Tryz.func70 (by kernel_rfl) (by kernel_rfl) (by kernel_rfl) (aF (by kernel_rfl) (by kernel_rfl)) (by simp [Tryz.f70]) (e ▸ h)
def bL.S (a0 a1 a2:ag) (G:ah) (Q:ag -> ah -> Prop):Prop :=
 br G (.own (a2)) fun i1 G2=>wv (aw T .eql au a1 (.int .i64 0)) fun v3=>brB (some v3)
 (wv (kH a0) fun v4=>wv (bx T bw v4 3) fun v5=>wv (af T G2 aR v5) fun v6=>wv (af T G2 aG (.ptr i1 [] 0)) fun v7=>bh T aR 1 [(0,v7)] G2 fun v8 G9=>cc T G9 aR aR v6 v8 fun v10 G11=>wv (kH a0) fun v12=>wv (bx T bw v12 3) fun v13=>wg (ax T G11 aR v13 v10) fun G14=>Q (.tuple []) G14)
 (wv (kH a0) fun v15=>wv (bx T bw v15 2) fun v16=>wv (af T G2 aR v16) fun v17=>wv (af T G2 aG (.ptr i1 [] 0)) fun v18=>bh T aR 1 [(0,v18)] G2 fun v19 G20=>cc T G20 aR aR v17 v19 fun v21 G22=>wv (kH a0) fun v23=>wv (bx T bw v23 2) fun v24=>wg (ax T G22 aR v24 v21) fun G25=>Q (.tuple []) G25)
def bL.an:Ann:=.two (.nil) (.two (.two (.nil) (.two (.two (.ord [(0,[]),(1,[]),(2,[]),(3,[]),(4,[]),(5,[]),(6,[]),(7,[]),(8,[]),(9,[]),(10,[])]) (.nil)) (.nil))) (.ord [(0,[]),(1,[]),(2,[]),(3,[]),(4,[]),(5,[]),(6,[]),(7,[]),(8,[]),(9,[]),(10,[])]))
set_option maxRecDepth 100000 in
theorem bL.sound {a0 a1 a2:ag} {G:ah} {Q:ag -> ah -> Prop} (h:bL.S a0 a1 a2 G Q):al P bL.n [a0,a1,a2] G Q:=by
 have e:bL.S a0 a1 a2 G Q = awp cx (bL.body) bL.an (bK T [] Q) (dN [a0,a1,a2]) G:=by kernel_rfl
 exact ay dO (f:=bL.n) (fn:=Tryz.f71) (c:=bL.body) (an:=bL.an) Tryz.func71 (by kernel_rfl) (by kernel_rfl) (by kernel_rfl) (aF (by kernel_rfl) (by kernel_rfl)) (by simp [Tryz.f71]) (e ▸ h)
def cQ.S (a0:ag) (G:ah) (Q:ag -> ah -> Prop):Prop :=
 br G (.own (a0)) fun i1 G2=>br G2 (.own (gE)) fun i3 G4=>wv (af T G4 au (.ptr i1 [0] 0)) fun v5=>wv (af T G4 ai (.ptr i1 [1] 1)) fun v6=>wv (af T G4 ai (.ptr i1 [2] 2)) fun v7=>wv (af T G4 aj (.ptr i1 [3] 3)) fun v8=>wv (af T G4 bH (.ptr i1 [4] 35)) fun v9=>wv (bk T aG [(0,v5),(1,v6),(2,v7),(5,v8),(7,v9)]) fun v10=>wg (ax T G4 aG (.ptr i3 [] 0) v10) fun G11=>wv (af T G11 aG (.ptr i3 [] 0)) fun v12=>Q v12 G11
def cQ.an:Ann:=.nil
set_option maxRecDepth 100000 in
theorem cQ.sound {a0:ag} {G:ah} {Q:ag -> ah -> Prop} (h:cQ.S a0 G Q):al P cQ.n [a0] G Q:=by
 have e:cQ.S a0 G Q = awp cx (cQ.body) cQ.an (bK T [.cell 2 48] Q) (dN [a0]) G:=by kernel_rfl
 exact ay dO (f:=cQ.n) (fn:=Tryz.f72) (c:=cQ.body) (an:=cQ.an) Tryz.func72 (by kernel_rfl) (by kernel_rfl) (by kernel_rfl) (aF (by kernel_rfl) (by kernel_rfl)) (by simp [Tryz.f72]) (e ▸ h)
def cm.S (a0:ag) (G:ah) (Q:ag -> ah -> Prop):Prop :=
 wv (aw T .geq ai a0 (.int .i64 0)) fun v1=>brB (some v1)
 (wv (aw T .leq ai a0 (.int .i64 1152921504606846976)) fun v2=>Q v2 G)
 (Q (.bool false) G)
def cm.an:Ann:=.nil
set_option maxRecDepth 100000 in
theorem cm.sound {a0:ag} {G:ah} {Q:ag -> ah -> Prop} (h:cm.S a0 G Q):al P cm.n [a0] G Q:=by
 have e:cm.S a0 G Q = awp cx (cm.body) cm.an (bK T [.tmp 2] Q) (dN [a0]) G:=by kernel_rfl
 exact ay dO (f:=cm.n) (fn:=Tryz.f195) (c:=cm.body) (an:=cm.an) Tryz.func195 (by kernel_rfl) (by kernel_rfl) (by kernel_rfl) (aF (by kernel_rfl) (by kernel_rfl)) (by simp [Tryz.f195]) (e ▸ h)
def db.S (a0:ag) (G:ah) (Q:ag -> ah -> Prop):Prop :=
 ∀ R1:List ag -> ah -> Prop,
 (∀ (x3 x4:ag) (G2:ah),(wv (gF T G2 ak x3) fun v5=>wv (aw T .lss au x4 v5) fun v6=>brB (some v6)
 (wv (aL T ak x3 x4) fun v7=>wv (af T G2 aI v7) fun v8=>al P cy.n [v8] G2 fun v9 G10=>wv (vun .not v9) fun v11=>brB (some v11)
 (Q (.bool false) G10)
 (wv (aw T .add au x4 (.int .i64 1)) fun v12=>R1 [x3,v12] G10))
 (Q (.bool true) G2)) -> R1 [x3,x4] G2) ->
 R1 [a0,.int .i64 0] G
def db.an:Ann:=.two (.nil) (.two (.two (.nil) (.loop [0,3] [false,false] (.nil))) (.nil))
set_option maxRecDepth 100000 in
theorem db.sound {a0:ag} {G:ah} {Q:ag -> ah -> Prop} (h:db.S a0 G Q):al P db.n [a0] G Q:=by
 have e:db.S a0 G Q = awp cx (db.body) db.an (bK T [.tmp 2] Q) (dN [a0]) G:=by kernel_rfl
 exact ay dO (f:=db.n) (fn:=Tryz.f196) (c:=db.body) (an:=db.an) Tryz.func196 (by kernel_rfl) (by kernel_rfl) (by kernel_rfl) (aF (by kernel_rfl) (by kernel_rfl)) (by simp [Tryz.f196]) (e ▸ h)
def cU.S (a0 a1:ag) (G:ah) (Q:ag -> ah -> Prop):Prop :=
 br G (.own (a0)) fun i1 G2=>br G2 (.own (iJ)) fun i3 G4=>wv (aw T .eql ai a1 (.int .i64 1152921504606846976)) fun v5=>brB (some v5)
 (wv (af T G4 ai (.ptr i1 [0] 0)) fun v6=>wv (aw T .add ai v6 (.int .i64 1)) fun v7=>wv (af T G4 ai (.ptr i1 [1] 1)) fun v8=>wv (bk T aY [(0,v7),(1,v8)]) fun v9=>wg (ax T G4 aY (.ptr i3 [] 0) v9) fun G10=>wv (af T G10 aY (.ptr i3 [] 0)) fun v11=>Q v11 G10)
 (wv (af T G4 ai (.ptr i1 [1] 1)) fun v12=>wv (aw T .add ai v12 a1) fun v13=>wg (ax T G4 ai (.ptr i1 [1] 1) v13) fun G14=>wv (af T G14 ai (.ptr i1 [1] 1)) fun v15=>wv (aw T .geq ai v15 (.int .i64 1152921504606846976)) fun v16=>brB (some v16)
 (wv (af T G14 ai (.ptr i1 [0] 0)) fun v17=>wv (aw T .add ai v17 (.int .i64 1)) fun v18=>wv (af T G14 ai (.ptr i1 [1] 1)) fun v19=>wv (aw T .sub ai v19 (.int .i64 1152921504606846976)) fun v20=>wv (bk T aY [(0,v18),(1,v20)]) fun v21=>wg (ax T G14 aY (.ptr i3 [] 0) v21) fun G22=>wv (af T G22 aY (.ptr i3 [] 0)) fun v23=>Q v23 G22)
 (wv (af T G14 aY (.ptr i1 [] 0)) fun v24=>wg (ax T G14 aY (.ptr i3 [] 0) v24) fun G25=>wv (af T G25 aY (.ptr i3 [] 0)) fun v26=>Q v26 G25))
def cU.an:Ann:=.nil
set_option maxRecDepth 100000 in
theorem cU.sound {a0 a1:ag} {G:ah} {Q:ag -> ah -> Prop} (h:cU.S a0 a1 G Q):al P cU.n [a0,a1] G Q:=by
 have e:cU.S a0 a1 G Q = awp cx (cU.body) cU.an (bK T [.cell 4 231] Q) (dN [a0,a1]) G:=by kernel_rfl
 exact ay dO (f:=cU.n) (fn:=Tryz.f198) (c:=cU.body) (an:=cU.an) Tryz.func198 (by kernel_rfl) (by kernel_rfl) (by kernel_rfl) (aF (by kernel_rfl) (by kernel_rfl)) (by simp [Tryz.f198]) (e ▸ h)
end Go.Esc.M
