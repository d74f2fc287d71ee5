import Derived.Test.YtkojimdacnohpaaGreatDoorT
set_option linter.unusedSimpArgs false
set_option linter.unusedVariables false
set_option maxRecDepth 100000
namespace Go.Esc.M
open Go Go.Esc Go.Proofs
variable {G:ak}{Q:ah->ak->Prop}
def b9.S (a0 a1 a2:ah) (G:ak) (Q:ah->ak->Prop):Prop:=
 br G (.own a2) fun i1 G2=>wv (lr a0) fun v3=>wv (bt T bz v3 1) fun v4=>wv (aO T gQ v4 a1) fun v5=>wv (ag T G2 aE v5) fun v6=>wv (ag T G2 ax (.ptr i1 [] 0)) fun v7=>al P dX.n [v6,v7] G2 fun v8 G9=>wv (aP v8 0) fun v10=>wv (aP v8 1) fun v11=>br G9 (.own (hO)) fun i12 G13=>wg (aF T G13 aE (.ptr i12 [] 0) v10) fun G14=>wv (vun .not v11) fun v15=>brB (some v15)
 (Q (.tuple []) G14)
 (wv (lr a0) fun v16=>wv (bt T bz v16 1) fun v17=>wv (aO T gQ v17 a1) fun v18=>wv (bt T aE v18 6) fun v19=>wv (ag T G14 aq v19) fun v20=>wv (ag T G14 aE (.ptr i12 [] 0)) fun v21=>wv (lr a0) fun v22=>wv (bt T bz v22 1) fun v23=>wv (aO T gQ v23 a1) fun v24=>wg (aF T G14 aE v24 v21) fun G25=>wv (ag T G25 ay (.ptr i1 [0] 0)) fun v26=>wv (az T .eql ay v26 (.int .i64 1)) fun v27=>brB (some v27)
 (wv (ag T G25 aG (.ptr i1 [1] 1)) fun v28=>al P ec.n [v28] G25 fun v29 G30=>al P cl.n [a0,a1,v29] G30 fun v31 G32=>Q (.tuple []) G32)
 (wv (az T .eql ay v26 (.int .i64 2)) fun v33=>brB (some v33)
 (wv (lr a0) fun v34=>wv (bt T bz v34 0) fun v35=>wv (aO T cJ v35 a1) fun v36=>wv (ag T G25 bU v36) fun v37=>wv (ag T G25 aE (.ptr i12 [] 0)) fun v38=>al P ef.n [v37,v38] G25 fun v39 G40=>al P cl.n [a0,a1,v39] G40 fun v41 G42=>Q (.tuple []) G42)
 (wv (az T .eql ay v26 (.int .i64 3)) fun v43=>brB (some v43)
 (wv (lr a0) fun v44=>wv (bt T bz v44 0) fun v45=>wv (aO T cJ v45 a1) fun v46=>wv (ag T G25 bU v46) fun v47=>al P dF.n [v47,v20] G25 fun v48 G49=>al P cl.n [a0,a1,v48] G49 fun v50 G51=>Q (.tuple []) G51)
 (Q (.tuple []) G25))))
def b9.an:Ann:=.two .nil (.two (.ord [(0,[]),(1,[]),(2,[]),(3,[]),(4,[]),(5,[]),(6,[]),(7,[]),(8,[]),(9,[]),(10,[]),(11,[]),(12,[]),(13,[])]) (.two .nil (.two .nil (.two (.ord [(0,[]),(1,[]),(2,[]),(3,[]),(4,[]),(5,[]),(6,[])]) (.two .nil (.two .nil (.two .nil (.two .nil (.two (.ord [(0,[]),(1,[]),(2,[]),(3,[]),(4,[]),(5,[]),(6,[]),(7,[]),(8,[]),(9,[]),(10,[])]) .nil)))))))))
theorem b9.sound {a0 a1 a2:ah}(h:b9.S a0 a1 a2 G Q):al P b9.n [a0,a1,a2] G Q:=by
 have e:b9.S a0 a1 a2 G Q=awp cx b9.body b9.an (bG T [] Q) (cC [a0,a1,a2]) G:=by kernel_rfl
 refine aD cF Tryz.func49 ?_ ?_ ?_ (aH ?_ ?_) (by simp[Tryz.f49]) (e.mp h)<;>kernel_rfl
def cd.S (a0:ah) (G:ak) (Q:ah->ak->Prop):Prop:=
 br G (.own a0) fun i1 G2=>wv (ag T G2 ay (.ptr i1 [16] 113)) fun v3=>wv (az T .neq ay v3 (.int .i64 0)) fun v4=>brB (some v4)
 (Q (.bool true) G2)
 (wv (ag T G2 aq (.ptr i1 [17] 114)) fun v5=>wv (az T .neq aq v5 (.int .i64 (-1))) fun v6=>Q v6 G2)
def cd.an:Ann:=.nil
theorem cd.sound {a0:ah}(h:cd.S a0 G Q):al P cd.n [a0] G Q:=by
 have e:cd.S a0 G Q=awp cx cd.body cd.an (bG T [.tmp 2] Q) (cC [a0]) G:=by kernel_rfl
 refine aD cF Tryz.func148 ?_ ?_ ?_ (aH ?_ ?_) (by simp[Tryz.f148]) (e.mp h)<;>kernel_rfl
def dN.S (a0:ah) (G:ak) (Q:ah->ak->Prop):Prop:=
 br G (.own a0) fun i1 G2=>wv (ag T G2 aj (.ptr i1 [4] 4)) fun v3=>wv (fU T G2 aj v3) fun v4=>wv (az T .geq ay v4 (.int .i64 2048)) fun v5=>brB (some v5)
 (Q (.bool true) G2)
 (wv (ag T G2 aj (.ptr i1 [4] 4)) fun v6=>wv (fU T G2 aj v6) fun v7=>wv (ag T G2 ay (.ptr i1 [11,0] 13)) fun v8=>wv (az T .sub ay v7 v8) fun v9=>wv (az T .geq ay v9 (.int .i64 512)) fun v10=>Q v10 G2)
def dN.an:Ann:=.nil
theorem dN.sound {a0:ah}(h:dN.S a0 G Q):al P dN.n [a0] G Q:=by
 have e:dN.S a0 G Q=awp cx dN.body dN.an (bG T [.tmp 2] Q) (cC [a0]) G:=by kernel_rfl
 refine aD cF Tryz.func149 ?_ ?_ ?_ (aH ?_ ?_) (by simp[Tryz.f149]) (e.mp h)<;>kernel_rfl
def eT.S (a0 a1:ah) (G:ak) (Q:ah->ak->Prop):Prop:=
 ∀ R1:List ah->ak->Prop,
 (∀ (x3 x4 x5 x6:ah) (G2:ak),(wv (fU T G2 aj x3) fun v7=>wv (az T .lss ay x6 v7) fun v8=>brB (some v8)
 (let J30:ah->ak->Prop:=(fun x28 G27=>wv (az T .add ay x6 (.int .i64 1)) fun v29=>R1 [x3,x4,x28,v29] G27);
 wv (aO T aj x3 x6) fun v9=>wv (bt T aG v9 0) fun v10=>wv (ag T G2 ay v10) fun v11=>wv (az T .eql ay v11 (.int .i64 1)) fun v12=>brB (some v12)
 (wv (aO T aj x3 x6) fun v13=>wv (bt T aG v13 1) fun v14=>wv (ag T G2 aq v14) fun v15=>al P cq.n [x4,v15,.int .i64 0] G2 fun v16 G17=>wv (vun .not v16) fun v18=>brB (some v18)
 (wv (az T .add ay x5 (.int .i64 1)) fun v24=>J30 v24 G17)
 (J30 x5 G17))
 (J30 x5 G2))
 (Q x5 G2))->R1 [x3,x4,x5,x6] G2) ->
 R1 [a0,a1,.int .i64 0,.int .i64 0] G
def eT.an:Ann:=.two .nil (.two .nil (.two (.two .nil (.loop [0,1,5,6] [false,false,false,false] .nil)) .nil))
theorem eT.sound {a0 a1:ah}(h:eT.S a0 a1 G Q):al P eT.n [a0,a1] G Q:=by
 have e:eT.S a0 a1 G Q=awp cx eT.body eT.an (bG T [.tmp 4] Q) (cC [a0,a1]) G:=by kernel_rfl
 refine aD cF Tryz.func150 ?_ ?_ ?_ (aH ?_ ?_) (by simp[Tryz.f150]) (e.mp h)<;>kernel_rfl
def fY.S (a0:ah) (G:ak) (Q:ah->ak->Prop):Prop:=
 ∀ R1:List ah->ak->Prop,
 (∀ (x3 x4 x5:ah) (G2:ak),(wv (fU T G2 aj x3) fun v6=>wv (az T .lss ay x5 v6) fun v7=>brB (some v7)
 (wv (aO T aj x3 x5) fun v8=>wv (bt T aG v8 0) fun v9=>wv (ag T G2 ay v9) fun v10=>wv (az T .eql ay v10 (.int .i64 1)) fun v11=>brB (some v11)
 (wv (az T .add aq x4 (.int .i64 1)) fun v12=>wv (az T .add ay x5 (.int .i64 1)) fun v18=>R1 [x3,v12,v18] G2)
 (wv (az T .add ay x5 (.int .i64 1)) fun v19=>R1 [x3,x4,v19] G2))
 (Q x4 G2))->R1 [x3,x4,x5] G2) ->
 R1 [a0,.int .i64 0,.int .i64 0] G
def fY.an:Ann:=.two .nil (.two .nil (.two (.two .nil (.loop [0,3,4] [false,false,false] .nil)) .nil))
theorem fY.sound {a0:ah}(h:fY.S a0 G Q):al P fY.n [a0] G Q:=by
 have e:fY.S a0 G Q=awp cx fY.body fY.an (bG T [.tmp 2] Q) (cC [a0]) G:=by kernel_rfl
 refine aD cF Tryz.func151 ?_ ?_ ?_ (aH ?_ ?_) (by simp[Tryz.f151]) (e.mp h)<;>kernel_rfl
def fh.S (a0 a1 a2:ah) (G:ak) (Q:ah->ak->Prop):Prop:=
 br G (.own a0) fun i1 G2=>br G2 (.own a2) fun i3 G4=>br G4 (.own (dw)) fun i5 G6=>wv (ag T G6 aE (.ptr i1 [] 0)) fun v7=>al P cd.n [v7] G6 fun v8 G9=>brB (some v8)
 (wv (bj T ax []) fun v10=>wg (aF T G9 ax (.ptr i5 [] 0) v10) fun G11=>wv (ag T G11 ax (.ptr i5 [] 0)) fun v12=>Q (.tuple [v12,.int .i64 220]) G11)
 (let J47:ah->ak->Prop:=(fun x16 G15=>brB (some x16)
 (wv (bj T ax []) fun v17=>wg (aF T G15 ax (.ptr i5 [] 0) v17) fun G18=>wv (ag T G18 ax (.ptr i5 [] 0)) fun v19=>Q (.tuple [v19,.int .i64 80]) G18)
 (wv (ag T G15 aE (.ptr i1 [] 0)) fun v20=>al P dN.n [v20] G15 fun v21 G22=>brB (some v21)
 (wv (bj T ax []) fun v23=>wg (aF T G22 ax (.ptr i5 [] 0) v23) fun G24=>wv (ag T G24 ax (.ptr i5 [] 0)) fun v25=>Q (.tuple [v25,.int .i64 6]) G24)
 (wv (ag T G22 aj (.ptr i1 [4] 4)) fun v26=>wv (ag T G22 aj (.ptr i1 [5] 5)) fun v27=>wv (ag T G22 aE (.ptr i1 [] 0)) fun v28=>al P cg.n [v28] G22 fun v29 G30=>(ag T G30 aj (.ptr i1 [5] 5)=some v27/\ag T G30 aj (.ptr i1 [4] 4)=some v26/\True)/\(wv (uV T aU v29 1) fun v31=>al P bQ.n [v27,v31] G30 fun v32 G33=>(ag T G33 aj (.ptr i1 [4] 4)=some v26/\True)/\(al P eT.n [v26,v32] G33 fun v34 G35=>wv (az T .geq ay v34 (.int .i64 483)) fun v36=>brB (some v36)
 (wv (bj T ax []) fun v37=>wg (aF T G35 ax (.ptr i5 [] 0) v37) fun G38=>wv (ag T G38 ax (.ptr i5 [] 0)) fun v39=>Q (.tuple [v39,.int .i64 131]) G38)
 (wv (ag T G35 aE (.ptr i1 [] 0)) fun v40=>al P cO.n [v40] G35 fun v41 G42=>wv (az T .gtr aq a1 v41) fun v43=>brB (some v43)
 (wv (bj T ax []) fun v44=>wg (aF T G42 ax (.ptr i5 [] 0) v44) fun G45=>wv (ag T G45 ax (.ptr i5 [] 0)) fun v46=>Q (.tuple [v46,.int .i64 130]) G45)
 (wv (ag T G42 aj (.ptr i1 [4] 4)) fun v48=>wv (ag T G42 ar (.ptr i3 [] 0)) fun v49=>al P fY.n [v48] G42 fun v50 G51=>(ag T G51 ar (.ptr i3 [] 0)=some v49/\True)/\(wv (bj T aG [(0,.int .i64 1),(1,v50),(2,a1),(3,v49)]) fun v52=>wv (bj T ax [(0,.int .i64 1),(1,v52)]) fun v53=>wg (aF T G51 ax (.ptr i5 [] 0) v53) fun G54=>wv (ag T G54 ax (.ptr i5 [] 0)) fun v55=>Q (.tuple [v55,.int .i64 0]) G54))))))));
 wv (az T .lss aq a1 (.int .i64 1)) fun v13=>brB (some v13)
 (J47 (.bool true) G9)
 (wv (az T .gtr aq a1 (.int .i64 1152921504606846976)) fun v14=>J47 v14 G9))
def fh.an:Ann:=.two .nil (.two (.two .nil (.two .nil (.two .nil (.two .nil (.two .nil (.two .nil (.two (.ord [(0,[]),(1,[]),(2,[]),(3,[]),(4,[]),(5,[1,3]),(6,[]),(7,[1]),(8,[]),(9,[]),(10,[])]) .nil))))))) (.two (.ord [(0,[]),(1,[]),(3,[]),(4,[]),(2,[4]),(5,[]),(6,[]),(7,[]),(8,[])]) .nil))
theorem fh.sound {a0 a1 a2:ah}(h:fh.S a0 a1 a2 G Q):al P fh.n [a0,a1,a2] G Q:=by
 have e:fh.S a0 a1 a2 G Q=awp cx fh.body fh.an (bG T [.cell 6 78,.tmp 7] Q) (cC [a0,a1,a2]) G:=by kernel_rfl
 refine aD cF Tryz.func87 ?_ ?_ ?_ (aH ?_ ?_) (by simp[Tryz.f87]) (e.mp h)<;>kernel_rfl
def eU.S (a0 a1:ah) (G:ak) (Q:ah->ak->Prop):Prop:=
 br G (.own (dv)) fun i1 G2=>∀ R3:List ah->ak->Prop,
 (∀ (x5 x6 x7 x8:ah) (G4:ak),(wv (fU T G4 aj x5) fun v9=>wv (az T .lss ay x8 v9) fun v10=>brB (some v10)
 (wv (aO T aj x5 x8) fun v11=>wv (bt T aG v11 0) fun v12=>wv (ag T G4 ay v12) fun v13=>wv (az T .eql ay v13 (.int .i64 1)) fun v14=>brB (some v14)
 (wv (aO T aj x5 x8) fun v15=>wv (bt T aG v15 1) fun v16=>wv (ag T G4 aq v16) fun v17=>wv (az T .eql aq v17 x6) fun v18=>brB (some v18)
 (wv (aO T aj x5 x8) fun v25=>wv (ag T G4 aG v25) fun v26=>wg (aF T G4 aG x7 v26) fun G27=>wv (ag T G27 aG x7) fun v28=>Q (.tuple [v28,.bool true]) G27)
 (wv (az T .add ay x8 (.int .i64 1)) fun v31=>R3 [x5,x6,x7,v31] G4))
 (wv (az T .add ay x8 (.int .i64 1)) fun v32=>R3 [x5,x6,x7,v32] G4))
 (wv (bj T aG []) fun v33=>wg (aF T G4 aG x7 v33) fun G34=>wv (ag T G34 aG x7) fun v35=>Q (.tuple [v35,.bool false]) G34))->R3 [x5,x6,x7,x8] G4) ->
 R3 [a0,a1,.ptr i1 [] 0,.int .i64 0] G2
def eU.an:Ann:=.two .nil (.two (.two .nil (.loop [0,1,4,6] [false,false,false,false] .nil)) .nil)
theorem eU.sound {a0 a1:ah}(h:eU.S a0 a1 G Q):al P eU.n [a0,a1] G Q:=by
 have e:eU.S a0 a1 G Q=awp cx eU.body eU.an (bG T [.cell 4 76,.tmp 5] Q) (cC [a0,a1]) G:=by kernel_rfl
 refine aD cF Tryz.func168 ?_ ?_ ?_ (aH ?_ ?_) (by simp[Tryz.f168]) (e.mp h)<;>kernel_rfl
def cN.S (a0 a1:ah) (G:ak) (Q:ah->ak->Prop):Prop:=
 br G (.own a0) fun i1 G2=>br G2 (.own (dv)) fun i3 G4=>wv (ag T G4 aj (.ptr i1 [5] 5)) fun v5=>wv (ag T G4 aE (.ptr i1 [] 0)) fun v6=>al P cg.n [v6] G4 fun v7 G8=>(ag T G8 aj (.ptr i1 [5] 5)=some v5/\True)/\(wv (uV T aU v7 1) fun v9=>al P bQ.n [v5,v9] G8 fun v10 G11=>al P eU.n [v10,a1] G11 fun v12 G13=>wv (aP v12 0) fun v14=>wv (aP v12 1) fun v15=>br G13 (.own (dv)) fun i16 G17=>wg (aF T G17 aG (.ptr i16 [] 0) v14) fun G18=>wv (ag T G18 aG (.ptr i16 [] 0)) fun v19=>brB (some v15)
 (wv (ag T G18 aj (.ptr i1 [4] 4)) fun v20=>al P cq.n [v20,a1,.int .i64 0] G18 fun v21 G22=>(ag T G22 aG (.ptr i16 [] 0)=some v19/\True)/\(wv (vun .not v21) fun v23=>wg (aF T G22 aG (.ptr i3 [] 0) v19) fun G24=>wv (ag T G24 aG (.ptr i3 [] 0)) fun v29=>Q (.tuple [v29,v23]) G24))
 (wg (aF T G18 aG (.ptr i3 [] 0) v19) fun G25=>wv (ag T G25 aG (.ptr i3 [] 0)) fun v30=>Q (.tuple [v30,.bool false]) G25))
def cN.an:Ann:=.two .nil (.two (.ord [(0,[]),(1,[]),(2,[]),(6,[]),(3,[1]),(4,[]),(5,[]),(7,[]),(8,[]),(9,[]),(10,[]),(11,[]),(12,[]),(13,[])]) (.two (.ord [(0,[]),(1,[]),(2,[]),(3,[]),(4,[]),(5,[]),(6,[0]),(7,[]),(8,[]),(9,[]),(10,[])]) .nil))
theorem cN.sound {a0 a1:ah}(h:cN.S a0 a1 G Q):al P cN.n [a0,a1] G Q:=by
 have e:cN.S a0 a1 G Q=awp cx cN.body cN.an (bG T [.cell 4 76,.tmp 5] Q) (cC [a0,a1]) G:=by kernel_rfl
 refine aD cF Tryz.func152 ?_ ?_ ?_ (aH ?_ ?_) (by simp[Tryz.f152]) (e.mp h)<;>kernel_rfl
def eJ.S (a0 a1 a2:ah) (G:ak) (Q:ah->ak->Prop):Prop:=
 br G (.own a0) fun i1 G2=>br G2 (.own a2) fun i3 G4=>br G4 (.own (dw)) fun i5 G6=>wv (ag T G6 aE (.ptr i1 [] 0)) fun v7=>al P cd.n [v7] G6 fun v8 G9=>brB (some v8)
 (wv (bj T ax []) fun v10=>wg (aF T G9 ax (.ptr i5 [] 0) v10) fun G11=>wv (ag T G11 ax (.ptr i5 [] 0)) fun v12=>Q (.tuple [v12,.int .i64 220]) G11)
 (wv (ag T G9 aE (.ptr i1 [] 0)) fun v13=>al P cN.n [v13,a1] G9 fun v14 G15=>wv (aP v14 0) fun v16=>wv (aP v14 1) fun v17=>br G15 (.own (dv)) fun i18 G19=>wg (aF T G19 aG (.ptr i18 [] 0) v16) fun G20=>let J44:ah->ak->Prop:=(fun x29 G28=>brB (some x29)
 (wv (bj T ax []) fun v30=>wg (aF T G28 ax (.ptr i5 [] 0) v30) fun G31=>wv (ag T G31 ax (.ptr i5 [] 0)) fun v32=>Q (.tuple [v32,.int .i64 120]) G31)
 (wv (ag T G28 aE (.ptr i1 [] 0)) fun v33=>al P dN.n [v33] G28 fun v34 G35=>brB (some v34)
 (wv (bj T ax []) fun v36=>wg (aF T G35 ax (.ptr i5 [] 0) v36) fun G37=>wv (ag T G37 ax (.ptr i5 [] 0)) fun v38=>Q (.tuple [v38,.int .i64 6]) G37)
 (wv (ag T G35 ar (.ptr i3 [] 0)) fun v39=>wv (bj T aG [(0,.int .i64 2),(1,a1),(3,v39)]) fun v40=>wv (bj T ax [(0,.int .i64 1),(1,v40)]) fun v41=>wg (aF T G35 ax (.ptr i5 [] 0) v41) fun G42=>wv (ag T G42 ax (.ptr i5 [] 0)) fun v43=>Q (.tuple [v43,.int .i64 0]) G42)));
 wv (vun .not v17) fun v21=>brB (some v21)
 (J44 (.bool true) G20)
 (wv (dV T ar (.ptr i3 [] 0) none none none) fun v22=>wv (gv T G20 aR bH v22) fun v23=>wv (ag T G20 ar (.ptr i18 [3] 3)) fun v24=>al P dJ.n [v23] G20 fun v25 G26=>(ag T G26 ar (.ptr i18 [3] 3)=some v24/\True)/\(wv (az T .neq ar v25 v24) fun v27=>J44 v27 G26)))
def eJ.an:Ann:=.two .nil (.two .nil (.two .nil (.two (.two (.ord [(0,[]),(1,[]),(2,[]),(3,[]),(4,[]),(6,[]),(7,[]),(5,[7]),(8,[]),(9,[])]) .nil) .nil)))
theorem eJ.sound {a0 a1 a2:ah}(h:eJ.S a0 a1 a2 G Q):al P eJ.n [a0,a1,a2] G Q:=by
 have e:eJ.S a0 a1 a2 G Q=awp cx eJ.body eJ.an (bG T [.cell 6 78,.tmp 7] Q) (cC [a0,a1,a2]) G:=by kernel_rfl
 refine aD cF Tryz.func88 ?_ ?_ ?_ (aH ?_ ?_) (by simp[Tryz.f88]) (e.mp h)<;>kernel_rfl
def eK.S (a0 a1 a2:ah) (G:ak) (Q:ah->ak->Prop):Prop:=
 br G (.own a0) fun i1 G2=>br G2 (.own (dw)) fun i3 G4=>wv (ag T G4 aE (.ptr i1 [] 0)) fun v5=>al P cd.n [v5] G4 fun v6 G7=>brB (some v6)
 (wv (bj T ax []) fun v8=>wg (aF T G7 ax (.ptr i3 [] 0) v8) fun G9=>wv (ag T G9 ax (.ptr i3 [] 0)) fun v10=>Q (.tuple [v10,.int .i64 220]) G9)
 (wv (ag T G7 aE (.ptr i1 [] 0)) fun v11=>al P cN.n [v11,a1] G7 fun v12 G13=>wv (aP v12 0) fun v14=>wv (aP v12 1) fun v15=>br G13 (.own (dv)) fun i16 G17=>wg (aF T G17 aG (.ptr i16 [] 0) v14) fun G18=>let J37:ah->ak->Prop:=(fun x23 G22=>brB (some x23)
 (wv (bj T ax []) fun v24=>wg (aF T G22 ax (.ptr i3 [] 0) v24) fun G25=>wv (ag T G25 ax (.ptr i3 [] 0)) fun v26=>Q (.tuple [v26,.int .i64 120]) G25)
 (wv (ag T G22 aE (.ptr i1 [] 0)) fun v27=>al P dN.n [v27] G22 fun v28 G29=>brB (some v28)
 (wv (bj T ax []) fun v30=>wg (aF T G29 ax (.ptr i3 [] 0) v30) fun G31=>wv (ag T G31 ax (.ptr i3 [] 0)) fun v32=>Q (.tuple [v32,.int .i64 6]) G31)
 (wv (bj T aG [(0,.int .i64 3),(1,a1),(4,a2)]) fun v33=>wv (bj T ax [(0,.int .i64 1),(1,v33)]) fun v34=>wg (aF T G29 ax (.ptr i3 [] 0) v34) fun G35=>wv (ag T G35 ax (.ptr i3 [] 0)) fun v36=>Q (.tuple [v36,.int .i64 0]) G35)));
 wv (vun .not v15) fun v19=>brB (some v19)
 (J37 (.bool true) G18)
 (wv (fU T G18 bH a2) fun v20=>wv (az T .gtr ay v20 (.int .i64 64)) fun v21=>J37 v21 G18))
def eK.an:Ann:=.nil
theorem eK.sound {a0 a1 a2:ah}(h:eK.S a0 a1 a2 G Q):al P eK.n [a0,a1,a2] G Q:=by
 have e:eK.S a0 a1 a2 G Q=awp cx eK.body eK.an (bG T [.cell 6 78,.tmp 7] Q) (cC [a0,a1,a2]) G:=by kernel_rfl
 refine aD cF Tryz.func89 ?_ ?_ ?_ (aH ?_ ?_) (by simp[Tryz.f89]) (e.mp h)<;>kernel_rfl
def fZ.S (a0 a1:ah) (G:ak) (Q:ah->ak->Prop):Prop:=
 br G (.own a0) fun i1 G2=>br G2 (.own a1) fun i3 G4=>br G4 (.own (dw)) fun i5 G6=>wv (ag T G6 aj (.ptr i3 [4] 4)) fun v7=>wv (fU T G6 aj v7) fun v8=>wv (ag T G6 ay (.ptr i3 [9,1] 10)) fun v9=>wv (bj T aU [(0,v8),(1,v9)]) fun v10=>br G6 (.own (iP)) fun i11 G12=>wg (aF T G12 aU (.ptr i11 [] 0) v10) fun G13=>wv (ag T G13 aE (.ptr i3 [] 0)) fun v14=>al P cd.n [v14] G13 fun v15 G16=>brB (some v15)
 (wv (bj T ax []) fun v17=>wg (aF T G16 ax (.ptr i5 [] 0) v17) fun G18=>wv (ag T G18 ax (.ptr i5 [] 0)) fun v19=>Q (.tuple [v19,.int .i64 220]) G18)
 (let J36:ah->ak->Prop:=(fun x27 G26=>brB (some x27)
 (wv (bj T ax []) fun v28=>wg (aF T G26 ax (.ptr i5 [] 0) v28) fun G29=>wv (ag T G29 ax (.ptr i5 [] 0)) fun v30=>Q (.tuple [v30,.int .i64 8]) G29)
 (wv (ag T G26 aq (.ptr i3 [7] 7)) fun v31=>wv (az T .gtr aq v31 (.int .i64 281474976710653)) fun v32=>brB (some v32)
 (wv (bj T ax []) fun v33=>wg (aF T G26 ax (.ptr i5 [] 0) v33) fun G34=>wv (ag T G34 ax (.ptr i5 [] 0)) fun v35=>Q (.tuple [v35,.int .i64 90]) G34)
 (wv (ag T G26 aq (.ptr i3 [7] 7)) fun v37=>wv (az T .add aq v37 (.int .i64 1)) fun v38=>wv (ag T G26 aU (.ptr i11 [] 0)) fun v39=>wv (bj T ax [(0,.int .i64 2),(3,v38),(4,v39)]) fun v40=>wg (aF T G26 ax (.ptr i5 [] 0) v40) fun G41=>wv (ag T G41 ax (.ptr i5 [] 0)) fun v42=>Q (.tuple [v42,.int .i64 0]) G41)));
 wv (ag T G16 aq (.ptr i3 [7] 7)) fun v20=>wv (ag T G16 aq (.ptr i3 [8] 8)) fun v21=>wv (az T .neq aq v20 v21) fun v22=>brB (some v22)
 (J36 (.bool true) G16)
 (wv (ag T G16 aU (.ptr i11 [] 0)) fun v23=>wv (ag T G16 aU (.ptr i3 [10] 11)) fun v24=>wv (az T .eql aU v23 v24) fun v25=>J36 v25 G16))
def fZ.an:Ann:=.nil
theorem fZ.sound {a0 a1:ah}(h:fZ.S a0 a1 G Q):al P fZ.n [a0,a1] G Q:=by
 have e:fZ.S a0 a1 G Q=awp cx fZ.body fZ.an (bG T [.cell 4 78,.tmp 5] Q) (cC [a0,a1]) G:=by kernel_rfl
 refine aD cF Tryz.func90 ?_ ?_ ?_ (aH ?_ ?_) (by simp[Tryz.f90]) (e.mp h)<;>kernel_rfl
def jo.S (a0:ah) (G:ak) (Q:ah->ak->Prop):Prop:=
 wv (fU T G aj a0) fun v1=>∀ R2:List ah->ak->Prop,
 (∀ (x4 x5 x6 x7:ah) (G3:ak),(wv (az T .lss ay x7 x6) fun v8=>brB (some v8)
 (wv (aO T aj x5 x7) fun v9=>wv (ag T G3 aG v9) fun v10=>br G3 (.own (dv)) fun i11 G12=>wg (aF T G12 aG (.ptr i11 [] 0) v10) fun G13=>wv (ag T G13 ay (.ptr i11 [0] 0)) fun v14=>wv (az T .eql ay v14 (.int .i64 1)) fun v15=>brB (some v15)
 (wv (az T .add aq x4 (.int .i64 1)) fun v16=>wv (az T .add ay x7 (.int .i64 1)) fun v22=>R2 [v16,x5,x6,v22] G13)
 (wv (az T .add ay x7 (.int .i64 1)) fun v23=>R2 [x4,x5,x6,v23] G13))
 (Q x4 G3))->R2 [x4,x5,x6,x7] G3) ->
 R2 [.int .i64 0,a0,v1,.int .i64 0] G
def jo.an:Ann:=.two .nil (.two .nil (.two (.two .nil (.loop [3,6,7,8] [false,false,false,false] .nil)) .nil))
theorem jo.sound {a0:ah}(h:jo.S a0 G Q):al P jo.n [a0] G Q:=by
 have e:jo.S a0 G Q=awp cx jo.body jo.an (bG T [.tmp 2] Q) (cC [a0]) G:=by kernel_rfl
 refine aD cF Tryz.func182 ?_ ?_ ?_ (aH ?_ ?_) (by simp[Tryz.f182]) (e.mp h)<;>kernel_rfl
def jq.S (a0 a1 a2:ah) (G:ak) (Q:ah->ak->Prop):Prop:=
 br G (.own a2) fun i1 G2=>wv (fU T G2 aj a0) fun v3=>wv (az T .geq ay v3 (.int .i64 2048)) fun v4=>brB (some v4)
 (Q (.int .i64 6) G2)
 (wv (ag T G2 aG (.ptr i1 [] 0)) fun v5=>al P gj.n [v5] G2 fun v6 G7=>wv (vun .not v6) fun v8=>brB (some v8)
 (Q (.int .i64 120) G7)
 (wv (ag T G7 ay (.ptr i1 [0] 0)) fun v9=>wv (az T .eql ay v9 (.int .i64 1)) fun v10=>brB (some v10)
 (wv (ag T G7 aq (.ptr i1 [1] 1)) fun v11=>al P jo.n [a0] G7 fun v12 G13=>(ag T G13 aq (.ptr i1 [1] 1)=some v11/\True)/\(wv (az T .neq aq v11 v12) fun v14=>brB (some v14)
 (Q (.int .i64 120) G13)
 (Q (.int .i64 0) G13)))
 (wv (ag T G7 aq (.ptr i1 [1] 1)) fun v15=>al P ik.n [a1,v15] G7 fun v16 G17=>wv (aP v16 0) fun v18=>wv (aP v16 1) fun v19=>br G17 (.own (dv)) fun i20 G21=>wg (aF T G21 aG (.ptr i20 [] 0) v18) fun G22=>wv (ag T G22 aq (.ptr i1 [1] 1)) fun v23=>al P gn.n [a0,v23] G22 fun v24 G25=>wv (aP v24 0) fun v26=>wv (aP v24 1) fun v27=>br G25 (.own (dv)) fun i28 G29=>wg (aF T G29 aG (.ptr i28 [] 0) v26) fun G30=>wv (vun .not v19) fun v31=>brB (some v31)
 (Q (.int .i64 120) G30)
 (brB (some v27)
 (Q (.int .i64 120) G30)
 (wv (ag T G30 ay (.ptr i1 [0] 0)) fun v32=>wv (az T .eql ay v32 (.int .i64 2)) fun v33=>brB (some v33)
 (wv (dV T ar (.ptr i1 [3] 3) none none none) fun v34=>wv (gv T G30 aR bH v34) fun v35=>wv (ag T G30 ar (.ptr i20 [3] 3)) fun v36=>bu T iE 1 [(0,v35)] G30 fun v37 G38=>al P jh.n [v37] G38 fun v39 G40=>(ag T G40 ar (.ptr i20 [3] 3)=some v36/\True)/\(wv (az T .neq ar v39 v36) fun v41=>brB (some v41)
 (Q (.int .i64 120) G40)
 (Q (.int .i64 0) G40)))
 (Q (.int .i64 0) G30))))))
def jq.an:Ann:=.two .nil (.two .nil (.two .nil (.two (.two .nil (.two (.two (.two (.ord [(0,[]),(1,[]),(2,[]),(3,[1]),(4,[])]) .nil) .nil) .nil)) (.two .nil (.two .nil (.two (.two (.ord [(0,[]),(1,[]),(2,[]),(3,[]),(4,[]),(5,[]),(6,[]),(7,[]),(8,[]),(9,[]),(10,[]),(11,[]),(12,[]),(15,[]),(16,[]),(13,[]),(14,[16]),(17,[]),(18,[]),(19,[])]) .nil) .nil))))))
theorem jq.sound {a0 a1 a2:ah}(h:jq.S a0 a1 a2 G Q):al P jq.n [a0,a1,a2] G Q:=by
 have e:jq.S a0 a1 a2 G Q=awp cx jq.body jq.an (bG T [.tmp 6] Q) (cC [a0,a1,a2]) G:=by kernel_rfl
 refine aD cF Tryz.func125 ?_ ?_ ?_ (aH ?_ ?_) (by simp[Tryz.f125]) (e.mp h)<;>kernel_rfl
def jA.S (a0 a1:ah) (G:ak) (Q:ah->ak->Prop):Prop:=
 br G (.own a0) fun i1 G2=>br G2 (.own a1) fun i3 G4=>wv (ag T G4 aE (.ptr i1 [] 0)) fun v5=>al P fQ.n [v5] G4 fun v6 G7=>br G7 (.own (iP)) fun i8 G9=>wg (aF T G9 aU (.ptr i8 [] 0) v6) fun G10=>let J78:ak->Prop:=(fun G55=>wv (ag T G55 aj (.ptr i1 [4] 4)) fun v56=>wv (ag T G55 ay (.ptr i8 [0] 0)) fun v57=>wv (ag T G55 aq (.ptr i3 [1] 1)) fun v58=>al P gK.n [v56,v57] G55 fun v59 G60=>(ag T G60 aq (.ptr i3 [1] 1)=some v58/\True)/\(al P ik.n [v59,v58] G60 fun v61 G62=>wv (aP v61 0) fun v63=>wv (aP v61 1) fun v64=>br G62 (.own (dv)) fun i65 G66=>wg (aF T G66 aG (.ptr i65 [] 0) v63) fun G67=>wv (vun .not v64) fun v68=>brB (some v68)
 (Q (.int .i64 120) G67)
 (wv (ag T G67 ay (.ptr i3 [0] 0)) fun v69=>wv (az T .eql ay v69 (.int .i64 2)) fun v70=>brB (some v70)
 (wv (ag T G67 ar (.ptr i3 [3] 3)) fun v71=>wv (ag T G67 ar (.ptr i65 [3] 3)) fun v72=>al P j6.n [v71] G67 fun v73 G74=>(ag T G74 ar (.ptr i65 [3] 3)=some v72/\True)/\(wv (az T .neq ar v73 v72) fun v75=>brB (some v75)
 (Q (.int .i64 120) G74)
 (Q (.int .i64 0) G74)))
 (Q (.int .i64 0) G67))));
 wv (ag T G10 aE (.ptr i1 [] 0)) fun v11=>al P gC.n [v11] G10 fun v12 G13=>brB (some v12)
 (Q (.int .i64 220) G13)
 (wv (ag T G13 aj (.ptr i1 [5] 5)) fun v14=>wv (fU T G13 aj v14) fun v15=>wv (ag T G13 ay (.ptr i1 [9,1] 10)) fun v16=>wv (az T .sub ay v15 v16) fun v17=>wv (az T .geq ay v17 (.int .i64 512)) fun v18=>brB (some v18)
 (Q (.int .i64 131) G13)
 (wv (ag T G13 aj (.ptr i1 [5] 5)) fun v19=>wv (ag T G13 aj (.ptr i1 [4] 4)) fun v20=>wv (ag T G13 aG (.ptr i3 [] 0)) fun v21=>al P jq.n [v19,v20,v21] G13 fun v22 G23=>wv (az T .neq bD v22 (.int .i64 0)) fun v24=>brB (some v24)
 (Q (.int .i64 120) G23)
 (let J51:ah->ak->Prop:=(fun x34 G33=>brB (some x34)
 (Q (.int .i64 131) G33)
 (wv (ag T G33 ay (.ptr i3 [0] 0)) fun v35=>wv (az T .eql ay v35 (.int .i64 1)) fun v36=>brB (some v36)
 (wv (ag T G33 aq (.ptr i3 [2] 2)) fun v37=>wv (ag T G33 aE (.ptr i1 [] 0)) fun v38=>al P cR.n [v38] G33 fun v39 G40=>(ag T G40 aq (.ptr i3 [2] 2)=some v37/\True)/\(wv (az T .gtr aq v37 v39) fun v41=>brB (some v41)
 (Q (.int .i64 130) G40)
 (wv (ag T G40 ay (.ptr i3 [0] 0)) fun v46=>wv (az T .eql ay v46 (.int .i64 1)) fun v47=>brB (some v47)
 (Q (.int .i64 0) G40)
 (J78 G40))))
 (wv (ag T G33 ay (.ptr i3 [0] 0)) fun v48=>wv (az T .eql ay v48 (.int .i64 1)) fun v49=>brB (some v49)
 (Q (.int .i64 0) G33)
 (J78 G33))));
 wv (ag T G23 ay (.ptr i3 [0] 0)) fun v25=>wv (az T .eql ay v25 (.int .i64 1)) fun v26=>brB (some v26)
 (wv (ag T G23 aj (.ptr i1 [5] 5)) fun v27=>wv (ag T G23 aj (.ptr i1 [4] 4)) fun v28=>wv (ag T G23 ay (.ptr i8 [0] 0)) fun v29=>al P iL.n [v27,v28,v29] G23 fun v30 G31=>wv (az T .geq ay v30 (.int .i64 483)) fun v32=>J51 v32 G31)
 (J51 (.bool false) G23))))
def jA.an:Ann:=.two .nil (.two .nil (.two (.two .nil (.two .nil (.two .nil (.two .nil (.two .nil (.two .nil (.two .nil (.two .nil (.two (.ord [(0,[]),(1,[]),(2,[]),(3,[]),(4,[]),(5,[]),(6,[]),(7,[5]),(8,[]),(9,[]),(10,[])]) .nil))))))))) (.two (.ord [(0,[]),(1,[]),(2,[]),(3,[]),(5,[]),(6,[]),(4,[6]),(7,[]),(8,[]),(9,[]),(10,[]),(11,[]),(12,[]),(13,[])]) (.two (.two (.ord [(0,[]),(1,[]),(2,[]),(3,[]),(4,[]),(5,[]),(6,[]),(7,[]),(8,[]),(10,[]),(11,[]),(9,[11]),(12,[]),(13,[]),(14,[])]) .nil) .nil))))
theorem jA.sound {a0 a1:ah}(h:jA.S a0 a1 G Q):al P jA.n [a0,a1] G Q:=by
 have e:jA.S a0 a1 G Q=awp cx jA.body jA.an (bG T [.tmp 4] Q) (cC [a0,a1]) G:=by kernel_rfl
 refine aD cF Tryz.func68 ?_ ?_ ?_ (aH ?_ ?_) (by simp[Tryz.f68]) (e.mp h)<;>kernel_rfl
def dd.S (a0:ah) (G:ak) (Q:ah->ak->Prop):Prop:=
 br G (.own a0) fun i1 G2=>br G2 (.own (dv)) fun i3 G4=>wv (ag T G4 ay (.ptr i1 [0] 0)) fun v5=>wv (ag T G4 aq (.ptr i1 [1] 1)) fun v6=>wv (ag T G4 aq (.ptr i1 [2] 2)) fun v7=>wv (ag T G4 ar (.ptr i1 [5] 5)) fun v8=>wv (ag T G4 bH (.ptr i1 [7] 69)) fun v9=>wv (bj T aG [(0,v5),(1,v6),(2,v7),(3,v8),(4,v9)]) fun v10=>wg (aF T G4 aG (.ptr i3 [] 0) v10) fun G11=>wv (ag T G11 aG (.ptr i3 [] 0)) fun v12=>Q v12 G11
def dd.an:Ann:=.nil
theorem dd.sound {a0:ah}(h:dd.S a0 G Q):al P dd.n [a0] G Q:=by
 have e:dd.S a0 G Q=awp cx dd.body dd.an (bG T [.cell 2 76] Q) (cC [a0]) G:=by kernel_rfl
 refine aD cF Tryz.func69 ?_ ?_ ?_ (aH ?_ ?_) (by simp[Tryz.f69]) (e.mp h)<;>kernel_rfl
def dg.S (a0 a1:ah) (G:ak) (Q:ah->ak->Prop):Prop:=
 br G (.own a0) fun i1 G2=>br G2 (.own a1) fun i3 G4=>wv (ag T G4 ay (.ptr i1 [0] 0)) fun v5=>wv (ag T G4 ay (.ptr i3 [0] 0)) fun v6=>wv (az T .eql ay v5 v6) fun v7=>brB (some v7)
 (wv (ag T G4 aG (.ptr i1 [1] 1)) fun v8=>wv (ag T G4 aG (.ptr i3 [1] 1)) fun v9=>wv (az T .eql aG v8 v9) fun v10=>brB (some v10)
 (wv (ag T G4 aj (.ptr i1 [2] 37)) fun v11=>wv (ag T G4 aj (.ptr i3 [2] 37)) fun v12=>al P bV.n [v11,v12] G4 fun v13 G14=>brB (some v13)
 (wv (ag T G14 aq (.ptr i1 [3] 38)) fun v15=>wv (ag T G14 aq (.ptr i3 [3] 38)) fun v16=>wv (az T .eql aq v15 v16) fun v17=>brB (some v17)
 (wv (ag T G14 aU (.ptr i1 [4] 39)) fun v18=>wv (ag T G14 aU (.ptr i3 [4] 39)) fun v19=>wv (az T .eql aU v18 v19) fun v20=>brB (some v20)
 (wv (ag T G14 ar (.ptr i1 [5] 41)) fun v21=>wv (ag T G14 ar (.ptr i3 [5] 41)) fun v22=>wv (az T .eql ar v21 v22) fun v23=>brB (some v23)
 (wv (ag T G14 ar (.ptr i1 [6] 73)) fun v24=>wv (ag T G14 ar (.ptr i3 [6] 73)) fun v25=>wv (az T .eql ar v24 v25) fun v26=>brB (some v26)
 (wv (ag T G14 ar (.ptr i1 [7] 105)) fun v27=>wv (ag T G14 ar (.ptr i3 [7] 105)) fun v28=>wv (az T .eql ar v27 v28) fun v29=>brB (some v29)
 (wv (ag T G14 ay (.ptr i1 [8] 137)) fun v30=>wv (ag T G14 ay (.ptr i3 [8] 137)) fun v31=>wv (az T .eql ay v30 v31) fun v32=>Q v32 G14)
 (Q (.bool false) G14))
 (Q (.bool false) G14))
 (Q (.bool false) G14))
 (Q (.bool false) G14))
 (Q (.bool false) G14))
 (Q (.bool false) G14))
 (Q (.bool false) G4))
 (Q (.bool false) G4)
def dg.an:Ann:=.nil
theorem dg.sound {a0 a1:ah}(h:dg.S a0 a1 G Q):al P dg.n [a0,a1] G Q:=by
 have e:dg.S a0 a1 G Q=awp cx dg.body dg.an (bG T [.tmp 4] Q) (cC [a0,a1]) G:=by kernel_rfl
 refine aD cF Tryz.func153 ?_ ?_ ?_ (aH ?_ ?_) (by simp[Tryz.f153]) (e.mp h)<;>kernel_rfl
def dP.S (a0 a1 a2 a3:ah) (G:ak) (Q:ah->ak->Prop):Prop:=
 br G (.own a0) fun i1 G2=>br G2 (.own a2) fun i3 G4=>wv (az T .eql bD a1 a3) fun v5=>brB (some v5)
 (wv (ag T G4 ax (.ptr i1 [] 0)) fun v6=>wv (ag T G4 ax (.ptr i3 [] 0)) fun v7=>al P dg.n [v6,v7] G4 fun v8 G9=>Q v8 G9)
 (Q (.bool false) G4)
def dP.an:Ann:=.nil
theorem dP.sound {a0 a1 a2 a3:ah}(h:dP.S a0 a1 a2 a3 G Q):al P dP.n [a0,a1,a2,a3] G Q:=by
 have e:dP.S a0 a1 a2 a3 G Q=awp cx dP.body dP.an (bG T [.tmp 8] Q) (cC [a0,a1,a2,a3]) G:=by kernel_rfl
 refine aD cF Tryz.func92 ?_ ?_ ?_ (aH ?_ ?_) (by simp[Tryz.f92]) (e.mp h)<;>kernel_rfl
def ga.S (a0 a1 a2 a3:ah) (G:ak) (Q:ah->ak->Prop):Prop:=
 br G (.own a0) fun i1 G2=>br G2 (.own a1) fun i3 G4=>br G4 (.own a3) fun i5 G6=>wv (ag T G6 ar (.ptr i1 [3] 3)) fun v7=>al P cI.n [v7,a2] G6 fun v8 G9=>wv (aP v8 0) fun v10=>wv (aP v8 1) fun v11=>br G9 (.own (dm)) fun i12 G13=>wg (aF T G13 ar (.ptr i12 [] 0) v10) fun G14=>wv (az T .neq bD v11 (.int .i64 0)) fun v15=>brB (some v15)
 (Q (.tuple [.str [],.bool false]) G14)
 (wv (ag T G14 aq (.ptr i3 [2] 2)) fun v16=>wv (ag T G14 aq (.ptr i3 [3] 3)) fun v17=>wv (ag T G14 aj (.ptr i3 [4] 4)) fun v18=>wv (ag T G14 aj (.ptr i3 [5] 5)) fun v19=>wv (ag T G14 aU (.ptr i5 [] 0)) fun v20=>al P eZ.n [v16,v17,v18,v19,v20] G14 fun v21 G22=>wv (aP v21 0) fun v23=>wv (aP v21 1) fun v24=>br G22 (.own (jJ)) fun i25 G26=>wg (aF T G26 aX (.ptr i25 [] 0) v23) fun G27=>wv (az T .neq bD v24 (.int .i64 0)) fun v28=>brB (some v28)
 (Q (.tuple [.str [],.bool false]) G27)
 (wv (ag T G27 ay (.ptr i3 [0] 0)) fun v29=>wv (ag T G27 ar (.ptr i12 [] 0)) fun v30=>wv (ag T G27 aX (.ptr i25 [] 0)) fun v31=>al P cA.n [v30] G27 fun v32 G33=>(ag T G33 aX (.ptr i25 [] 0)=some v31/\ag T G33 ay (.ptr i3 [0] 0)=some v29/\True)/\(al P eV.n [v29,a2,v32,v31] G33 fun v34 G35=>wv (aP v34 0) fun v36=>wv (aP v34 1) fun v37=>wv (az T .eql bD v37 (.int .i64 0)) fun v38=>Q (.tuple [v36,v38]) G35)))
def ga.an:Ann:=.two .nil (.two .nil (.two .nil (.two .nil (.two .nil (.two (.ord [(0,[]),(1,[]),(2,[]),(3,[]),(5,[]),(4,[1,5]),(6,[]),(7,[]),(8,[]),(9,[]),(10,[]),(11,[])]) .nil)))))
theorem ga.sound {a0 a1 a2 a3:ah}(h:ga.S a0 a1 a2 a3 G Q):al P ga.n [a0,a1,a2,a3] G Q:=by
 have e:ga.S a0 a1 a2 a3 G Q=awp cx ga.body ga.an (bG T [.tmp 8,.tmp 9] Q) (cC [a0,a1,a2,a3]) G:=by kernel_rfl
 refine aD cF Tryz.func99 ?_ ?_ ?_ (aH ?_ ?_) (by simp[Tryz.f99]) (e.mp h)<;>kernel_rfl
def fl.S (a0 a1 a2:ah) (G:ak) (Q:ah->ak->Prop):Prop:=
 br G (.own a0) fun i1 G2=>br G2 (.own a2) fun i3 G4=>wv (ag T G4 ar (.ptr i1 [] 0)) fun v5=>al P fc.n [v5,a1] G4 fun v6 G7=>br G7 (.own (dm)) fun i8 G9=>wg (aF T G9 ar (.ptr i8 [] 0) v6) fun G10=>∀ R11:List ah->ak->Prop,
 (∀ (x13 x14 x15:ah) (G12:ak),(wv (az T .lss ay x15 (.int .i64 32)) fun v16=>brB (some v16)
 (wv (aO T ar x14 x15) fun v17=>wv (ag T G12 cm v17) fun v18=>wv (aO T ar x13 x15) fun v19=>wv (ag T G12 cm v19) fun v20=>wv (az T .neq cm v18 v20) fun v21=>brB (some v21)
 (Q (.bool false) G12)
 (wv (az T .add ay x15 (.int .i64 1)) fun v22=>R11 [x13,x14,v22] G12))
 (Q (.bool true) G12))->R11 [x13,x14,x15] G12) ->
 R11 [.ptr i3 [] 0,.ptr i8 [] 0,.int .i64 0] G10
def fl.an:Ann:=.two .nil (.two .nil (.two (.two .nil (.loop [5,7,8] [false,false,false] (.two .nil (.two (.two (.ord [(0,[]),(1,[]),(2,[]),(3,[]),(4,[]),(5,[]),(6,[])]) .nil) .nil)))) .nil))
theorem fl.sound {a0 a1 a2:ah}(h:fl.S a0 a1 a2 G Q):al P fl.n [a0,a1,a2] G Q:=by
 have e:fl.S a0 a1 a2 G Q=awp cx fl.body fl.an (bG T [.tmp 6] Q) (cC [a0,a1,a2]) G:=by kernel_rfl
 refine aD cF Tryz.func160 ?_ ?_ ?_ (aH ?_ ?_) (by simp[Tryz.f160]) (e.mp h)<;>kernel_rfl
def gb.S (a0 a1 a2:ah) (G:ak) (Q:ah->ak->Prop):Prop:=
 br G (.own a0) fun i1 G2=>br G2 (.own a1) fun i3 G4=>br G4 (.own a2) fun i5 G6=>br G6 (.own (dw)) fun i7 G8=>wv (ag T G8 ay (.ptr i3 [11,0] 13)) fun v9=>wv (ag T G8 aj (.ptr i3 [5] 5)) fun v10=>wv (fU T G8 aj v10) fun v11=>wv (bj T aU [(0,v9),(1,v11)]) fun v12=>br G8 (.own (iP)) fun i13 G14=>wg (aF T G14 aU (.ptr i13 [] 0) v12) fun G15=>wv (ag T G15 aE (.ptr i3 [] 0)) fun v16=>al P cd.n [v16] G15 fun v17 G18=>brB (some v17)
 (wv (bj T ax []) fun v19=>wg (aF T G18 ax (.ptr i7 [] 0) v19) fun G20=>wv (ag T G20 ax (.ptr i7 [] 0)) fun v21=>Q (.tuple [v21,.int .i64 220]) G20)
 (wv (ag T G18 ay (.ptr i5 [0] 0)) fun v22=>wv (az T .neq ay v22 (.int .i64 4)) fun v23=>brB (some v23)
 (wv (bj T ax []) fun v24=>wg (aF T G18 ax (.ptr i7 [] 0) v24) fun G25=>wv (ag T G25 ax (.ptr i7 [] 0)) fun v26=>Q (.tuple [v26,.int .i64 160]) G25)
 (let J44:ah->ak->Prop:=(fun x34 G33=>brB (some x34)
 (wv (bj T ax []) fun v35=>wg (aF T G33 ax (.ptr i7 [] 0) v35) fun G36=>wv (ag T G36 ax (.ptr i7 [] 0)) fun v37=>Q (.tuple [v37,.int .i64 90]) G36)
 (wv (ag T G33 aU (.ptr i13 [] 0)) fun v38=>wv (ag T G33 aU (.ptr i3 [9] 9)) fun v39=>wv (az T .eql aU v38 v39) fun v40=>brB (some v40)
 (wv (bj T ax []) fun v41=>wg (aF T G33 ax (.ptr i7 [] 0) v41) fun G42=>wv (ag T G42 ax (.ptr i7 [] 0)) fun v43=>Q (.tuple [v43,.int .i64 8]) G42)
 (wv (ag T G33 bU (.ptr i1 [] 0)) fun v45=>wv (ag T G33 aE (.ptr i3 [] 0)) fun v46=>wv (ag T G33 aq (.ptr i5 [3] 3)) fun v47=>wv (ag T G33 aU (.ptr i13 [] 0)) fun v48=>al P ga.n [v45,v46,v47,v48] G33 fun v49 G50=>wv (aP v49 0) fun v51=>wv (aP v49 1) fun v52=>let J80:ah->ak->Prop:=(fun x66 G65=>brB (some x66)
 (wv (bj T ax []) fun v67=>wg (aF T G65 ax (.ptr i7 [] 0) v67) fun G68=>wv (ag T G68 ax (.ptr i7 [] 0)) fun v69=>Q (.tuple [v69,.int .i64 110]) G68)
 (wv (ag T G65 aq (.ptr i5 [3] 3)) fun v70=>wv (ag T G65 aj (.ptr i3 [5] 5)) fun v71=>wv (ag T G65 ay (.ptr i3 [9,1] 10)) fun v72=>wv (dV T aj v71 (some (v72)) none none) fun v73=>wv (ag T G65 ar (.ptr i5 [5] 5)) fun v74=>cn T G65 aj aj (.nilSlice) v73 fun v75 G76=>(ag T G76 ar (.ptr i5 [5] 5)=some v74/\ag T G76 aq (.ptr i5 [3] 3)=some v70/\True)/\(wv (bj T ax [(0,.int .i64 3),(3,v70),(2,v75),(5,v74)]) fun v77=>wg (aF T G76 ax (.ptr i7 [] 0) v77) fun G78=>wv (ag T G78 ax (.ptr i7 [] 0)) fun v79=>Q (.tuple [v79,.int .i64 0]) G78)));
 wv (vun .not v52) fun v53=>brB (some v53)
 (J80 (.bool true) G50)
 (wv (ag T G50 ar (.ptr i1 [5] 67)) fun v54=>wv (ag T G50 ar (.ptr i5 [5] 5)) fun v55=>al P fl.n [v54,v51,v55] G50 fun v56 G57=>wv (vun .not v56) fun v58=>brB (some v58)
 (J80 (.bool true) G57)
 (wv (ag T G57 ay (.ptr i3 [9,1] 10)) fun v59=>wv (az T .lss ay v59 (.int .i64 0)) fun v60=>brB (some v60)
 (J80 (.bool true) G57)
 (wv (ag T G57 ay (.ptr i3 [9,1] 10)) fun v61=>wv (ag T G57 aj (.ptr i3 [5] 5)) fun v62=>wv (fU T G57 aj v62) fun v63=>wv (az T .gtr ay v61 v63) fun v64=>J80 v64 G57))))));
 wv (ag T G18 aq (.ptr i5 [3] 3)) fun v27=>wv (ag T G18 aq (.ptr i3 [6] 6)) fun v28=>wv (az T .add aq v28 (.int .i64 1)) fun v29=>wv (az T .neq aq v27 v29) fun v30=>brB (some v30)
 (J44 (.bool true) G18)
 (wv (ag T G18 aq (.ptr i3 [6] 6)) fun v31=>wv (az T .gtr aq v31 (.int .i64 281474976710653)) fun v32=>J44 v32 G18)))
def gb.an:Ann:=.two .nil (.two .nil (.two .nil (.two .nil (.two .nil (.two (.ord [(0,[]),(1,[]),(2,[]),(3,[]),(4,[]),(5,[]),(6,[]),(7,[]),(9,[]),(10,[]),(8,[1,10]),(11,[]),(12,[]),(13,[])]) .nil)))))
theorem gb.sound {a0 a1 a2:ah}(h:gb.S a0 a1 a2 G Q):al P gb.n [a0,a1,a2] G Q:=by
 have e:gb.S a0 a1 a2 G Q=awp cx gb.body gb.an (bG T [.cell 6 78,.tmp 7] Q) (cC [a0,a1,a2]) G:=by kernel_rfl
 refine aD cF Tryz.func101 ?_ ?_ ?_ (aH ?_ ?_) (by simp[Tryz.f101]) (e.mp h)<;>kernel_rfl
def fj.S (a0 a1:ah) (G:ak) (Q:ah->ak->Prop):Prop:=
 br G (.own a0) fun i1 G2=>br G2 (.own a1) fun i3 G4=>wv (ag T G4 aE (.ptr i1 [] 0)) fun v5=>al P cg.n [v5] G4 fun v6 G7=>br G7 (.own (iP)) fun i8 G9=>wg (aF T G9 aU (.ptr i8 [] 0) v6) fun G10=>let J71:ak->Prop:=(fun G57=>wv (ag T G57 aj (.ptr i1 [4] 4)) fun v58=>wv (ag T G57 ay (.ptr i8 [0] 0)) fun v59=>wv (ag T G57 aq (.ptr i3 [1] 1)) fun v60=>al P bQ.n [v58,v59] G57 fun v61 G62=>(ag T G62 aq (.ptr i3 [1] 1)=some v60/\True)/\(al P eU.n [v61,v60] G62 fun v63 G64=>wv (aP v63 0) fun v65=>wv (aP v63 1) fun v66=>br G64 (.own (dv)) fun i67 G68=>wg (aF T G68 aG (.ptr i67 [] 0) v65) fun G69=>wv (vun .not v66) fun v70=>brB (some v70)
 (Q (.int .i64 120) G69)
 (Q (.int .i64 0) G69)));
 wv (ag T G10 aE (.ptr i1 [] 0)) fun v11=>al P cd.n [v11] G10 fun v12 G13=>brB (some v12)
 (Q (.int .i64 220) G13)
 (wv (ag T G13 aj (.ptr i1 [5] 5)) fun v14=>wv (fU T G13 aj v14) fun v15=>wv (ag T G13 ay (.ptr i1 [9,1] 10)) fun v16=>wv (az T .sub ay v15 v16) fun v17=>wv (az T .geq ay v17 (.int .i64 512)) fun v18=>brB (some v18)
 (Q (.int .i64 131) G13)
 (wv (ag T G13 aj (.ptr i1 [5] 5)) fun v19=>wv (ag T G13 aj (.ptr i1 [4] 4)) fun v20=>wv (ag T G13 aG (.ptr i3 [] 0)) fun v21=>al P fa.n [v19,v20,v21] G13 fun v22 G23=>wv (az T .neq bD v22 (.int .i64 0)) fun v24=>brB (some v24)
 (Q (.int .i64 120) G23)
 (let J53:ah->ak->Prop:=(fun x36 G35=>brB (some x36)
 (Q (.int .i64 131) G35)
 (wv (ag T G35 ay (.ptr i3 [0] 0)) fun v37=>wv (az T .eql ay v37 (.int .i64 1)) fun v38=>brB (some v38)
 (wv (ag T G35 aq (.ptr i3 [2] 2)) fun v39=>wv (ag T G35 aE (.ptr i1 [] 0)) fun v40=>al P b5.n [v40] G35 fun v41 G42=>(ag T G42 aq (.ptr i3 [2] 2)=some v39/\True)/\(wv (az T .gtr aq v39 v41) fun v43=>brB (some v43)
 (Q (.int .i64 130) G42)
 (wv (ag T G42 ay (.ptr i3 [0] 0)) fun v48=>wv (az T .eql ay v48 (.int .i64 1)) fun v49=>brB (some v49)
 (Q (.int .i64 0) G42)
 (J71 G42))))
 (wv (ag T G35 ay (.ptr i3 [0] 0)) fun v50=>wv (az T .eql ay v50 (.int .i64 1)) fun v51=>brB (some v51)
 (Q (.int .i64 0) G35)
 (J71 G35))));
 wv (ag T G23 ay (.ptr i3 [0] 0)) fun v25=>wv (az T .eql ay v25 (.int .i64 1)) fun v26=>brB (some v26)
 (wv (ag T G23 aj (.ptr i1 [5] 5)) fun v27=>wv (ag T G23 aj (.ptr i1 [4] 4)) fun v28=>wv (ag T G23 ay (.ptr i8 [0] 0)) fun v29=>al P bQ.n [v28,v29] G23 fun v30 G31=>(ag T G31 aj (.ptr i1 [5] 5)=some v27/\True)/\(al P eT.n [v27,v30] G31 fun v32 G33=>wv (az T .geq ay v32 (.int .i64 483)) fun v34=>J53 v34 G33))
 (J53 (.bool false) G23))))
def fj.an:Ann:=.two .nil (.two .nil (.two (.two .nil (.two .nil (.two .nil (.two .nil (.two .nil (.two .nil (.two (.ord [(0,[]),(1,[]),(2,[]),(3,[]),(4,[]),(5,[]),(6,[]),(7,[]),(8,[]),(9,[]),(10,[5]),(11,[]),(12,[]),(13,[]),(14,[])]) (.two .nil (.two (.ord [(0,[]),(1,[]),(2,[]),(3,[]),(4,[]),(5,[]),(6,[]),(7,[5]),(8,[]),(9,[]),(10,[])]) .nil))))))))) (.two (.ord [(0,[]),(1,[]),(2,[]),(3,[]),(5,[]),(6,[]),(4,[6]),(7,[]),(8,[]),(9,[]),(10,[]),(11,[]),(12,[]),(13,[])]) .nil)))
theorem fj.sound {a0 a1:ah}(h:fj.S a0 a1 G Q):al P fj.n [a0,a1] G Q:=by
 have e:fj.S a0 a1 G Q=awp cx fj.body fj.an (bG T [.tmp 4] Q) (cC [a0,a1]) G:=by kernel_rfl
 refine aD cF Tryz.func108 ?_ ?_ ?_ (aH ?_ ?_) (by simp[Tryz.f108]) (e.mp h)<;>kernel_rfl
def dW.S (a0 a1:ah) (G:ak) (Q:ah->ak->Prop):Prop:=
 br G (.own a0) fun i1 G2=>br G2 (.own a1) fun i3 G4=>br G4 (.own (dw)) fun i5 G6=>wv (ag T G6 aE (.ptr i1 [] 0)) fun v7=>al P cd.n [v7] G6 fun v8 G9=>brB (some v8)
 (wv (bj T ax []) fun v10=>wg (aF T G9 ax (.ptr i5 [] 0) v10) fun G11=>wv (ag T G11 ax (.ptr i5 [] 0)) fun v12=>Q (.tuple [v12,.int .i64 220]) G11)
 (wv (ag T G9 ay (.ptr i3 [0] 0)) fun v13=>wv (az T .neq ay v13 (.int .i64 5)) fun v14=>brB (some v14)
 (wv (bj T ax []) fun v15=>wg (aF T G9 ax (.ptr i5 [] 0) v15) fun G16=>wv (ag T G16 ax (.ptr i5 [] 0)) fun v17=>Q (.tuple [v17,.int .i64 160]) G16)
 (let J39:ah->ak->Prop:=(fun x26 G25=>brB (some x26)
 (wv (bj T ax []) fun v27=>wg (aF T G25 ax (.ptr i5 [] 0) v27) fun G28=>wv (ag T G28 ax (.ptr i5 [] 0)) fun v29=>Q (.tuple [v29,.int .i64 90]) G28)
 (wv (ag T G25 ar (.ptr i3 [6] 37)) fun v30=>wv (aO T cc (.ptr i1 [13] 16) (.int .i64 0)) fun v31=>wv (ag T G25 ar v31) fun v32=>al P cA.n [v30] G25 fun v33 G34=>(ag T G34 ar v31=some v32/\True)/\(wv (az T .neq ar v33 v32) fun v35=>brB (some v35)
 (wv (bj T ax []) fun v36=>wg (aF T G34 ax (.ptr i5 [] 0) v36) fun G37=>wv (ag T G37 ax (.ptr i5 [] 0)) fun v38=>Q (.tuple [v38,.int .i64 100]) G37)
 (wv (ag T G34 aV (.ptr i1 [15] 112)) fun v40=>wv (ag T G34 aq (.ptr i1 [8] 8)) fun v41=>wv (ag T G34 ar (.ptr i3 [6] 37)) fun v42=>al P fN.n [v40,v41,v42] G34 fun v43 G44=>wv (aP v43 0) fun v45=>wv (aP v43 1) fun v46=>wv (az T .neq bD v46 (.int .i64 0)) fun v47=>brB (some v47)
 (wv (bj T ax []) fun v48=>wg (aF T G44 ax (.ptr i5 [] 0) v48) fun G49=>wv (ag T G49 ax (.ptr i5 [] 0)) fun v50=>Q (.tuple [v50,.int .i64 100]) G49)
 (wv (ag T G44 aq (.ptr i1 [8] 8)) fun v51=>wv (ag T G44 ar (.ptr i3 [6] 37)) fun v52=>wv (ag T G44 ar (.ptr i3 [5] 5)) fun v53=>wv (bj T ax [(0,.int .i64 4),(3,v51),(6,v52),(7,v53)]) fun v54=>wg (aF T G44 ax (.ptr i5 [] 0) v54) fun G55=>wv (ag T G55 ax (.ptr i5 [] 0)) fun v56=>Q (.tuple [v56,.int .i64 0]) G55)))));
 wv (ag T G9 aq (.ptr i1 [7] 7)) fun v18=>wv (ag T G9 aq (.ptr i1 [8] 8)) fun v19=>wv (az T .add aq v19 (.int .i64 1)) fun v20=>wv (az T .neq aq v18 v20) fun v21=>brB (some v21)
 (J39 (.bool true) G9)
 (wv (ag T G9 aq (.ptr i3 [3] 3)) fun v22=>wv (ag T G9 aq (.ptr i1 [8] 8)) fun v23=>wv (az T .neq aq v22 v23) fun v24=>J39 v24 G9)))
def dW.an:Ann:=.two .nil (.two (.two .nil (.two .nil (.two .nil (.two .nil (.two .nil (.two .nil (.two (.ord [(0,[]),(1,[]),(3,[]),(4,[]),(5,[]),(2,[5]),(6,[]),(7,[])]) .nil))))))) .nil)
theorem dW.sound {a0 a1:ah}(h:dW.S a0 a1 G Q):al P dW.n [a0,a1] G Q:=by
 have e:dW.S a0 a1 G Q=awp cx dW.body dW.an (bG T [.cell 4 78,.tmp 5] Q) (cC [a0,a1]) G:=by kernel_rfl
 refine aD cF Tryz.func109 ?_ ?_ ?_ (aH ?_ ?_) (by simp[Tryz.f109]) (e.mp h)<;>kernel_rfl
end Go.Esc.M
