import Derived.Test.YtkojimdacnohpaaGreatDoorT
set_option linter.unusedSimpArgs false
set_option linter.unusedVariables false
set_option maxRecDepth 100000
namespace Go.Esc.M
open Go Go.Esc Go.Proofs
variable {G:ak}{Q:ah->ak->Prop}
def eI.S (a0 a1 a2:ah) (G:ak) (Q:ah->ak->Prop):Prop:=
 br G (.own a0) fun i1 G2=>br G2 (.own a2) fun i3 G4=>wv (aO T cc (.ptr i1 [13] 16) (.int .i64 0)) fun v5=>wv (ag T G4 ar v5) fun v6=>br G4 (.own (dm)) fun i7 G8=>wg (aF T G8 ar (.ptr i7 [] 0) v6) fun G9=>wv (ag T G9 aq (.ptr i1 [8] 8)) fun v10=>wv (az T .neq aq a1 v10) fun v11=>let J40:ak->Prop:=(fun G15=>wv (ag T G15 aq (.ptr i1 [2] 2)) fun v16=>wv (ag T G15 aq (.ptr i1 [3] 3)) fun v17=>wv (ag T G15 aj (.ptr i1 [4] 4)) fun v18=>wv (ag T G15 aj (.ptr i1 [5] 5)) fun v19=>wv (ag T G15 aU (.ptr i3 [] 0)) fun v20=>al P eZ.n [v16,v17,v18,v19,v20] G15 fun v21 G22=>wv (aP v21 0) fun v23=>wv (aP v21 1) fun v24=>br G22 (.own (jJ)) fun i25 G26=>wg (aF T G26 aX (.ptr i25 [] 0) v23) fun G27=>wv (az T .neq bD v24 (.int .i64 0)) fun v28=>brB (some v28)
 (Q (.tuple [.str [],.bool false]) G27)
 (wv (ag T G27 ay (.ptr i1 [0] 0)) fun v29=>wv (az T .sub ay (.int .i64 1) v29) fun v30=>wv (ag T G27 ar (.ptr i7 [] 0)) fun v31=>wv (ag T G27 aX (.ptr i25 [] 0)) fun v32=>al P gd.n [v32] G27 fun v33 G34=>(ag T G34 ar (.ptr i7 [] 0)=some v31/\ag T G34 ay (.ptr i1 [0] 0)=some v29/\True)/\(al P eV.n [v30,a1,v31,v33] G34 fun v35 G36=>wv (aP v35 0) fun v37=>wv (aP v35 1) fun v38=>wv (az T .eql bD v38 (.int .i64 0)) fun v39=>Q (.tuple [v37,v39]) G36)));
 brB (some v11)
 (wv (aO T cc (.ptr i1 [13] 16) (.int .i64 1)) fun v12=>wv (ag T G9 ar v12) fun v13=>wg (aF T G9 ar (.ptr i7 [] 0) v13) fun G14=>J40 G14)
 (J40 G9)
def eI.an:Ann:=.two .nil (.two .nil (.two .nil (.two .nil (.two .nil (.two (.ord [(0,[]),(1,[]),(2,[]),(3,[]),(4,[]),(5,[]),(6,[1,4]),(7,[]),(8,[]),(9,[]),(10,[]),(11,[]),(12,[])]) .nil)))))
theorem eI.sound {a0 a1 a2:ah}(h:eI.S a0 a1 a2 G Q):al P eI.n [a0,a1,a2] G Q:=by
 have e:eI.S a0 a1 a2 G Q=awp cx eI.body eI.an (bG T [.tmp 6,.tmp 7] Q) (cC [a0,a1,a2]) G:=by kernel_rfl
 refine aD cF Tryz.func155 ?_ ?_ ?_ (aH ?_ ?_) (by simp[Tryz.f155]) (e.mp h)<;>kernel_rfl
def fP.S (a0 a1:ah) (G:ak) (Q:ah->ak->Prop):Prop:=
 br G (.own a0) fun i1 G2=>∀ R3:List ah->ak->Prop,
 (∀ (x5 x6 x7 x8:ah) (G4:ak),(wv (az T .lss ay x8 (.int .i64 64)) fun v9=>brB (some v9)
 (wv (az T .lss ay x8 (.int .i64 32)) fun v10=>brB (some v10)
 (wv (aO T ar x6 x8) fun v11=>wv (ag T G4 cm v11) fun v12=>wv (az T .xor cm v12 x5) fun v20=>bu T aR 1 [(0,v20)] G4 fun v21 G22=>cn T G22 aR aR x7 v21 fun v23 G24=>wv (az T .add ay x8 (.int .i64 1)) fun v33=>R3 [x5,x6,v23,v33] G24)
 (wv (az T .xor cm (.int .u8 0) x5) fun v25=>bu T aR 1 [(0,v25)] G4 fun v26 G27=>cn T G27 aR aR x7 v26 fun v28 G29=>wv (az T .add ay x8 (.int .i64 1)) fun v34=>R3 [x5,x6,v28,v34] G29))
 (wv (gv T G4 aR bH x7) fun v35=>Q v35 G4))->R3 [x5,x6,x7,x8] G4) ->
 R3 [a1,.ptr i1 [] 0,.nilSlice,.int .i64 0] G2
def fP.an:Ann:=.two .nil (.two .nil (.two (.two .nil (.loop [1,2,5,6] [false,false,false,false] .nil)) .nil))
theorem fP.sound {a0 a1:ah}(h:fP.S a0 a1 G Q):al P fP.n [a0,a1] G Q:=by
 have e:fP.S a0 a1 G Q=awp cx fP.body fP.an (bG T [.tmp 4] Q) (cC [a0,a1]) G:=by kernel_rfl
 refine aD cF Tryz.func216 ?_ ?_ ?_ (aH ?_ ?_) (by simp[Tryz.f216]) (e.mp h)<;>kernel_rfl
def fx.S (a0:ah) (G:ak) (Q:ah->ak->Prop):Prop:=
 br G (.own a0) fun i1 G2=>∀ R3:List ah->ak->Prop,
 (∀ (x5 x6 x7:ah) (G4:ak),(wv (az T .lss ay x7 (.int .i64 32)) fun v8=>brB (some v8)
 (wv (aO T ar x5 x7) fun v9=>wv (ag T G4 cm v9) fun v10=>bu T aR 1 [(0,v10)] G4 fun v11 G12=>cn T G12 aR aR x6 v11 fun v13 G14=>wv (az T .add ay x7 (.int .i64 1)) fun v15=>R3 [x5,v13,v15] G14)
 (wv (gv T G4 aR bH x6) fun v16=>Q v16 G4))->R3 [x5,x6,x7] G4) ->
 R3 [.ptr i1 [] 0,.nilSlice,.int .i64 0] G2
def fx.an:Ann:=.two .nil (.two .nil (.two (.two .nil (.loop [1,3,4] [false,false,false] .nil)) .nil))
theorem fx.sound {a0:ah}(h:fx.S a0 G Q):al P fx.n [a0] G Q:=by
 have e:fx.S a0 G Q=awp cx fx.body fx.an (bG T [.tmp 2] Q) (cC [a0]) G:=by kernel_rfl
 refine aD cF Tryz.func217 ?_ ?_ ?_ (aH ?_ ?_) (by simp[Tryz.f217]) (e.mp h)<;>kernel_rfl
def gB.S (a0 a1:ah) (G:ak) (Q:ah->ak->Prop):Prop:=
 br G (.own a0) fun i1 G2=>br G2 (.own (dm)) fun i3 G4=>wv (ag T G4 ar (.ptr i1 [] 0)) fun v5=>wv (ag T G4 ar (.ptr i1 [] 0)) fun v6=>al P fP.n [v5,.int .u8 92] G4 fun v7 G8=>(ag T G8 ar (.ptr i1 [] 0)=some v6/\True)/\(al P fP.n [v6,.int .u8 54] G8 fun v9 G10=>wv (az T .add bH v9 a1) fun v11=>al P dJ.n [v11] G10 fun v12 G13=>al P fx.n [v12] G13 fun v14 G15=>wv (az T .add bH v7 v14) fun v16=>al P dJ.n [v16] G15 fun v17 G18=>wg (aF T G18 ar (.ptr i3 [] 0) v17) fun G19=>wv (ag T G19 ar (.ptr i3 [] 0)) fun v20=>Q v20 G19)
def gB.an:Ann:=.two .nil (.two (.ord [(0,[]),(2,[]),(4,[]),(1,[2]),(3,[]),(5,[]),(6,[]),(7,[]),(8,[]),(9,[]),(10,[])]) .nil)
theorem gB.sound {a0 a1:ah}(h:gB.S a0 a1 G Q):al P gB.n [a0,a1] G Q:=by
 have e:gB.S a0 a1 G Q=awp cx gB.body gB.an (bG T [.cell 4 23] Q) (cC [a0,a1]) G:=by kernel_rfl
 refine aD cF Tryz.func194 ?_ ?_ ?_ (aH ?_ ?_) (by simp[Tryz.f194]) (e.mp h)<;>kernel_rfl
def fc.S (a0 a1:ah) (G:ak) (Q:ah->ak->Prop):Prop:=
 br G (.own a0) fun i1 G2=>br G2 (.own (dm)) fun i3 G4=>wv (ag T G4 ar (.ptr i1 [] 0)) fun v5=>al P gB.n [v5,a1] G4 fun v6 G7=>wg (aF T G7 ar (.ptr i3 [] 0) v6) fun G8=>wv (ag T G8 ar (.ptr i3 [] 0)) fun v9=>Q v9 G8
def fc.an:Ann:=.nil
theorem fc.sound {a0 a1:ah}(h:fc.S a0 a1 G Q):al P fc.n [a0,a1] G Q:=by
 have e:fc.S a0 a1 G Q=awp cx fc.body fc.an (bG T [.cell 4 23] Q) (cC [a0,a1]) G:=by kernel_rfl
 refine aD cF Tryz.func156 ?_ ?_ ?_ (aH ?_ ?_) (by simp[Tryz.f156]) (e.mp h)<;>kernel_rfl
def ef.S (a0 a1:ah) (G:ak) (Q:ah->ak->Prop):Prop:=
 br G (.own a0) fun i1 G2=>br G2 (.own a1) fun i3 G4=>br G4 (.own (jF)) fun i5 G6=>wv (ag T G6 aE (.ptr i3 [] 0)) fun v7=>wv (ag T G6 aq (.ptr i3 [7] 7)) fun v8=>wv (ag T G6 aU (.ptr i3 [10] 11)) fun v9=>al P eI.n [v7,v8,v9] G6 fun v10 G11=>wv (aP v10 0) fun v12=>wv (aP v10 1) fun v13=>wv (vun .not v13) fun v14=>brB (some v14)
 (wv (bj T aW []) fun v15=>wg (aF T G11 aW (.ptr i5 [] 0) v15) fun G16=>wv (ag T G16 aW (.ptr i5 [] 0)) fun v17=>Q v17 G16)
 (wv (ag T G11 aq (.ptr i3 [7] 7)) fun v18=>wv (ag T G11 ar (.ptr i1 [4] 35)) fun v19=>al P fc.n [v19,v12] G11 fun v20 G21=>(ag T G21 aq (.ptr i3 [7] 7)=some v18/\True)/\(wv (bj T aW [(0,.int .i64 4),(3,v18),(5,v20)]) fun v22=>wg (aF T G21 aW (.ptr i5 [] 0) v22) fun G23=>wv (ag T G23 aW (.ptr i5 [] 0)) fun v24=>Q v24 G23))
def ef.an:Ann:=.two .nil (.two .nil (.two .nil (.two (.ord [(0,[]),(1,[]),(2,[]),(3,[]),(4,[]),(5,[1]),(6,[]),(7,[])]) .nil)))
theorem ef.sound {a0 a1:ah}(h:ef.S a0 a1 G Q):al P ef.n [a0,a1] G Q:=by
 have e:ef.S a0 a1 G Q=awp cx ef.body ef.an (bG T [.cell 4 48] Q) (cC [a0,a1]) G:=by kernel_rfl
 refine aD cF Tryz.func96 ?_ ?_ ?_ (aH ?_ ?_) (by simp[Tryz.f96]) (e.mp h)<;>kernel_rfl
def bC.S (a0:ah) (G:ak) (Q:ah->ak->Prop):Prop:=
 wv (az T .eql aV a0 (.nilSlice)) fun v1=>brB (some v1)
 (Q (.nilSlice) G)
 (bu T aV 0 [] G fun v2 G3=>cn T G3 aV aV v2 a0 fun v4 G5=>Q v4 G5)
def bC.an:Ann:=.nil
theorem bC.sound {a0:ah}(h:bC.S a0 G Q):al P bC.n [a0] G Q:=by
 have e:bC.S a0 G Q=awp cx bC.body bC.an (bG T [.tmp 2] Q) (cC [a0]) G:=by kernel_rfl
 refine aD cF Tryz.func157 ?_ ?_ ?_ (aH ?_ ?_) (by simp[Tryz.f157]) (e.mp h)<;>kernel_rfl
def kH.S (a0:ah) (G:ak) (Q:ah->ak->Prop):Prop:=
 br G (.own a0) fun i1 G2=>br G2 (.own (hO)) fun i3 G4=>wv (ag T G4 aj (.ptr i1 [4] 4)) fun v5=>wv (ag T G4 aj (.ptr i1 [5] 5)) fun v6=>wv (ag T G4 ay (.ptr i1 [9,1] 10)) fun v7=>wv (ag T G4 aV (.ptr i1 [15] 112)) fun v8=>al P bk.n [v5] G4 fun v9 G10=>(ag T G10 aV (.ptr i1 [15] 112)=some v8/\ag T G10 ay (.ptr i1 [9,1] 10)=some v7/\ag T G10 aj (.ptr i1 [5] 5)=some v6/\True)/\(al P gK.n [v6,v7] G10 fun v11 G12=>(ag T G12 aV (.ptr i1 [15] 112)=some v8/\True)/\(al P bk.n [v11] G12 fun v13 G14=>(ag T G14 aV (.ptr i1 [15] 112)=some v8/\True)/\(al P bC.n [v8] G14 fun v15 G16=>wg (aF T G16 aj (.ptr i1 [4] 4) v9) fun G17=>wg (aF T G17 aj (.ptr i1 [5] 5) v13) fun G18=>wg (aF T G18 aV (.ptr i1 [15] 112) v15) fun G19=>wv (ag T G19 aE (.ptr i1 [] 0)) fun v20=>wg (aF T G19 aE (.ptr i3 [] 0) v20) fun G21=>wv (ag T G21 aE (.ptr i3 [] 0)) fun v22=>Q v22 G21)))
def kH.an:Ann:=.two .nil (.two (.ord [(0,[]),(1,[]),(3,[]),(4,[]),(5,[]),(6,[]),(7,[]),(10,[]),(11,[]),(2,[4,7,11]),(13,[]),(8,[11]),(9,[11]),(12,[]),(14,[]),(15,[]),(16,[]),(17,[]),(18,[])]) .nil)
theorem kH.sound {a0:ah}(h:kH.S a0 G Q):al P kH.n [a0] G Q:=by
 have e:kH.S a0 G Q=awp cx kH.body kH.an (bG T [.cell 2 38] Q) (cC [a0]) G:=by kernel_rfl
 refine aD cF Tryz.func97 ?_ ?_ ?_ (aH ?_ ?_) (by simp[Tryz.f97]) (e.mp h)<;>kernel_rfl
def dF.S (a0 a1:ah) (G:ak) (Q:ah->ak->Prop):Prop:=
 br G (.own a0) fun i1 G2=>br G2 (.own (jF)) fun i3 G4=>let J36:ah->ak->Prop:=(fun x8 G7=>brB (some x8)
 (wv (bj T aW []) fun v9=>wg (aF T G7 aW (.ptr i3 [] 0) v9) fun G10=>wv (ag T G10 aW (.ptr i3 [] 0)) fun v11=>Q v11 G10)
 (wv (ag T G7 ar (.ptr i1 [3] 3)) fun v12=>al P cI.n [v12,a1] G7 fun v13 G14=>wv (aP v13 0) fun v15=>wv (aP v13 1) fun v16=>br G14 (.own (dm)) fun i17 G18=>wg (aF T G18 ar (.ptr i17 [] 0) v15) fun G19=>wv (ag T G19 ar (.ptr i1 [3] 3)) fun v20=>wv (az T .add aq a1 (.int .i64 2)) fun v21=>al P cI.n [v20,v21] G19 fun v22 G23=>wv (aP v22 0) fun v24=>wv (aP v22 1) fun v25=>br G23 (.own (dm)) fun i26 G27=>wg (aF T G27 ar (.ptr i26 [] 0) v24) fun G28=>wv (ag T G28 ar (.ptr i17 [] 0)) fun v29=>wv (ag T G28 ar (.ptr i26 [] 0)) fun v30=>al P cA.n [v30] G28 fun v31 G32=>(ag T G32 ar (.ptr i17 [] 0)=some v29/\True)/\(wv (bj T aW [(0,.int .i64 5),(3,a1),(6,v29),(5,v31)]) fun v33=>wg (aF T G32 aW (.ptr i3 [] 0) v33) fun G34=>wv (ag T G34 aW (.ptr i3 [] 0)) fun v35=>Q v35 G34)));
 wv (az T .lss aq a1 (.int .i64 0)) fun v5=>brB (some v5)
 (J36 (.bool true) G4)
 (wv (az T .gtr aq a1 (.int .i64 281474976710653)) fun v6=>J36 v6 G4)
def dF.an:Ann:=.two .nil (.two .nil (.two .nil (.two .nil (.two (.ord [(0,[]),(1,[]),(2,[]),(3,[1]),(4,[]),(5,[])]) .nil))))
theorem dF.sound {a0 a1:ah}(h:dF.S a0 a1 G Q):al P dF.n [a0,a1] G Q:=by
 have e:dF.S a0 a1 G Q=awp cx dF.body dF.an (bG T [.cell 4 48] Q) (cC [a0,a1]) G:=by kernel_rfl
 refine aD cF Tryz.func98 ?_ ?_ ?_ (aH ?_ ?_) (by simp[Tryz.f98]) (e.mp h)<;>kernel_rfl
def dA.S (a0 a1:ah) (G:ak) (Q:ah->ak->Prop):Prop:=
 br G (.own a0) fun i1 G2=>br G2 (.own a1) fun i3 G4=>wv (ag T G4 bU (.ptr i1 [] 0)) fun v5=>wv (ag T G4 aE (.ptr i3 [] 0)) fun v6=>al P bP.n [v6] G4 fun v7 G8=>(ag T G8 bU (.ptr i1 [] 0)=some v5/\True)/\(al P jC.n [v5,v7] G8 fun v9 G10=>br G10 (.own (jF)) fun i11 G12=>wg (aF T G12 aW (.ptr i11 [] 0) v9) fun G13=>wv (ag T G13 aE (.ptr i3 [] 0)) fun v14=>wv (ag T G13 aE (.ptr i3 [] 0)) fun v15=>al P bP.n [v14] G13 fun v16 G17=>(ag T G17 aE (.ptr i3 [] 0)=some v15/\True)/\(al P fQ.n [v16] G17 fun v18 G19=>(ag T G19 aE (.ptr i3 [] 0)=some v15/\True)/\(al P cg.n [v15] G19 fun v20 G21=>wv (az T .eql aU v18 v20) fun v22=>brB (some v22)
 (wv (ag T G21 aE (.ptr i3 [] 0)) fun v23=>wv (ag T G21 aE (.ptr i3 [] 0)) fun v24=>al P bP.n [v23] G21 fun v25 G26=>(ag T G26 aE (.ptr i3 [] 0)=some v24/\True)/\(al P eG.n [v25] G26 fun v27 G28=>(ag T G28 aE (.ptr i3 [] 0)=some v24/\True)/\(al P cO.n [v24] G28 fun v29 G30=>wv (az T .eql aq v27 v29) fun v31=>brB (some v31)
 (wv (ag T G30 aE (.ptr i3 [] 0)) fun v32=>wv (ag T G30 aE (.ptr i3 [] 0)) fun v33=>al P bP.n [v32] G30 fun v34 G35=>(ag T G35 aE (.ptr i3 [] 0)=some v33/\True)/\(al P cR.n [v34] G35 fun v36 G37=>(ag T G37 aE (.ptr i3 [] 0)=some v33/\True)/\(al P b5.n [v33] G37 fun v38 G39=>wv (az T .eql aq v36 v38) fun v40=>brB (some v40)
 (wv (ag T G39 aW (.ptr i11 [] 0)) fun v41=>wv (ag T G39 bU (.ptr i1 [] 0)) fun v42=>wv (ag T G39 aE (.ptr i3 [] 0)) fun v43=>al P ef.n [v42,v43] G39 fun v44 G45=>(ag T G45 aW (.ptr i11 [] 0)=some v41/\True)/\(wv (az T .eql aW v41 v44) fun v46=>brB (some v46)
 (wv (ag T G45 aE (.ptr i3 [] 0)) fun v47=>wv (ag T G45 aE (.ptr i3 [] 0)) fun v48=>al P bP.n [v47] G45 fun v49 G50=>(ag T G50 aE (.ptr i3 [] 0)=some v48/\True)/\(al P kH.n [v49] G50 fun v51 G52=>(ag T G52 aE (.ptr i3 [] 0)=some v48/\True)/\(al P fL.n [v48] G52 fun v53 G54=>al P cP.n [v51,v53] G54 fun v55 G56=>brB (some v55)
 (wv (ag T G56 bU (.ptr i1 [] 0)) fun v57=>wv (ag T G56 aq (.ptr i3 [6] 6)) fun v58=>wv (ag T G56 bU (.ptr i1 [] 0)) fun v59=>wv (ag T G56 aq (.ptr i3 [6] 6)) fun v60=>al P iU.n [v57,v58] G56 fun v61 G62=>(ag T G62 aq (.ptr i3 [6] 6)=some v60/\ag T G62 bU (.ptr i1 [] 0)=some v59/\True)/\(al P dF.n [v59,v60] G62 fun v63 G64=>wv (az T .eql aW v61 v63) fun v65=>Q v65 G64))
 (Q (.bool false) G56))))
 (Q (.bool false) G45)))
 (Q (.bool false) G39))))
 (Q (.bool false) G30))))
 (Q (.bool false) G21))))
def dA.an:Ann:=.two .nil (.two (.ord [(0,[]),(1,[]),(2,[0]),(3,[]),(4,[]),(5,[])]) (.two (.ord [(0,[]),(3,[]),(1,[3]),(2,[3]),(4,[]),(5,[]),(6,[]),(7,[]),(10,[]),(8,[10]),(9,[10]),(11,[]),(12,[]),(13,[]),(14,[]),(15,[]),(18,[]),(16,[18]),(17,[18]),(19,[]),(20,[]),(21,[]),(22,[]),(23,[]),(24,[]),(25,[]),(26,[23]),(27,[]),(28,[]),(29,[]),(30,[]),(33,[]),(31,[33]),(32,[33]),(34,[]),(35,[]),(36,[]),(37,[]),(38,[]),(39,[]),(40,[]),(42,[]),(43,[]),(44,[]),(41,[42,44]),(45,[]),(46,[]),(47,[]),(48,[])]) .nil))
theorem dA.sound {a0 a1:ah}(h:dA.S a0 a1 G Q):al P dA.n [a0,a1] G Q:=by
 have e:dA.S a0 a1 G Q=awp cx dA.body dA.an (bG T [.tmp 4] Q) (cC [a0,a1]) G:=by kernel_rfl
 refine aD cF Tryz.func40 ?_ ?_ ?_ (aH ?_ ?_) (by simp[Tryz.f40]) (e.mp h)<;>kernel_rfl
def gg.S (a0:ah) (G:ak) (Q:ah->ak->Prop):Prop:=
 ∀ R1:List ah->ak->Prop,
 (∀ (x3 x4 x5:ah) (G2:ak),(wv (fU T G2 aj x3) fun v6=>wv (az T .lss ay x5 v6) fun v7=>brB (some v7)
 (wv (aO T aj x3 x5) fun v8=>wv (bt T aG v8 0) fun v9=>wv (ag T G2 ay v9) fun v10=>wv (az T .eql ay v10 (.int .i64 1)) fun v11=>brB (some v11)
 (wv (az T .add aq x4 (.int .i64 1)) fun v12=>wv (az T .add ay x5 (.int .i64 1)) fun v18=>R1 [x3,v12,v18] G2)
 (wv (az T .add ay x5 (.int .i64 1)) fun v19=>R1 [x3,x4,v19] G2))
 (Q x4 G2))->R1 [x3,x4,x5] G2) ->
 R1 [a0,.int .i64 0,.int .i64 0] G
def gg.an:Ann:=.two .nil (.two .nil (.two (.two .nil (.loop [0,3,4] [false,false,false] .nil)) .nil))
theorem gg.sound {a0:ah}(h:gg.S a0 G Q):al P gg.n [a0] G Q:=by
 have e:gg.S a0 G Q=awp cx gg.body gg.an (bG T [.tmp 2] Q) (cC [a0]) G:=by kernel_rfl
 refine aD cF Tryz.func204 ?_ ?_ ?_ (aH ?_ ?_) (by simp[Tryz.f204]) (e.mp h)<;>kernel_rfl
def gf.S (a0 a1:ah) (G:ak) (Q:ah->ak->Prop):Prop:=
 br G (.own (dv)) fun i1 G2=>∀ R3:List ah->ak->Prop,
 (∀ (x5 x6 x7 x8:ah) (G4:ak),(wv (fU T G4 aj x5) fun v9=>wv (az T .lss ay x8 v9) fun v10=>brB (some v10)
 (wv (aO T aj x5 x8) fun v11=>wv (bt T aG v11 0) fun v12=>wv (ag T G4 ay v12) fun v13=>wv (az T .eql ay v13 (.int .i64 1)) fun v14=>brB (some v14)
 (wv (aO T aj x5 x8) fun v15=>wv (bt T aG v15 1) fun v16=>wv (ag T G4 aq v16) fun v17=>wv (az T .eql aq v17 x6) fun v18=>brB (some v18)
 (wv (aO T aj x5 x8) fun v25=>wv (ag T G4 aG v25) fun v26=>wg (aF T G4 aG x7 v26) fun G27=>wv (ag T G27 aG x7) fun v28=>Q (.tuple [v28,.bool true]) G27)
 (wv (az T .add ay x8 (.int .i64 1)) fun v31=>R3 [x5,x6,x7,v31] G4))
 (wv (az T .add ay x8 (.int .i64 1)) fun v32=>R3 [x5,x6,x7,v32] G4))
 (wv (bj T aG []) fun v33=>wg (aF T G4 aG x7 v33) fun G34=>wv (ag T G34 aG x7) fun v35=>Q (.tuple [v35,.bool false]) G34))->R3 [x5,x6,x7,x8] G4) ->
 R3 [a0,a1,.ptr i1 [] 0,.int .i64 0] G2
def gf.an:Ann:=.two .nil (.two (.two .nil (.loop [0,1,4,6] [false,false,false,false] .nil)) .nil)
theorem gf.sound {a0 a1:ah}(h:gf.S a0 a1 G Q):al P gf.n [a0,a1] G Q:=by
 have e:gf.S a0 a1 G Q=awp cx gf.body gf.an (bG T [.cell 4 76,.tmp 5] Q) (cC [a0,a1]) G:=by kernel_rfl
 refine aD cF Tryz.func205 ?_ ?_ ?_ (aH ?_ ?_) (by simp[Tryz.f205]) (e.mp h)<;>kernel_rfl
def dZ.S (a0 a1:ah) (G:ak) (Q:ah->ak->Prop):Prop:=
 br G (.own (dv)) fun i1 G2=>∀ R3:List ah->ak->Prop,
 (∀ (x5 x6 x7 x8:ah) (G4:ak),(wv (fU T G4 aj x5) fun v9=>wv (az T .lss ay x8 v9) fun v10=>brB (some v10)
 (let J33:ah->ak->Prop:=(fun x28 G27=>brB (some x28)
 (wv (aO T aj x5 x8) fun v29=>wv (ag T G27 aG v29) fun v30=>wg (aF T G27 aG x7 v30) fun G31=>wv (ag T G31 aG x7) fun v32=>Q (.tuple [v32,.bool true]) G31)
 (wv (az T .add ay x8 (.int .i64 1)) fun v34=>R3 [x5,x6,x7,v34] G27));
 wv (aO T aj x5 x8) fun v11=>wv (bt T aG v11 0) fun v12=>wv (ag T G4 ay v12) fun v13=>wv (az T .eql ay v13 (.int .i64 2)) fun v14=>brB (some v14)
 (wv (aO T aj x5 x8) fun v15=>wv (bt T aG v15 1) fun v16=>wv (ag T G4 aq v16) fun v17=>wv (az T .eql aq v17 x6) fun v18=>J33 v18 G4)
 (wv (aO T aj x5 x8) fun v19=>wv (bt T aG v19 0) fun v20=>wv (ag T G4 ay v20) fun v21=>wv (az T .eql ay v21 (.int .i64 3)) fun v22=>brB (some v22)
 (wv (aO T aj x5 x8) fun v23=>wv (bt T aG v23 1) fun v24=>wv (ag T G4 aq v24) fun v25=>wv (az T .eql aq v25 x6) fun v26=>J33 v26 G4)
 (J33 (.bool false) G4)))
 (wv (bj T aG []) fun v35=>wg (aF T G4 aG x7 v35) fun G36=>wv (ag T G36 aG x7) fun v37=>Q (.tuple [v37,.bool false]) G36))->R3 [x5,x6,x7,x8] G4) ->
 R3 [a0,a1,.ptr i1 [] 0,.int .i64 0] G2
def dZ.an:Ann:=.two .nil (.two (.two .nil (.loop [0,1,4,6] [false,false,false,false] .nil)) .nil)
theorem dZ.sound {a0 a1:ah}(h:dZ.S a0 a1 G Q):al P dZ.n [a0,a1] G Q:=by
 have e:dZ.S a0 a1 G Q=awp cx dZ.body dZ.an (bG T [.cell 4 76,.tmp 5] Q) (cC [a0,a1]) G:=by kernel_rfl
 refine aD cF Tryz.func206 ?_ ?_ ?_ (aH ?_ ?_) (by simp[Tryz.f206]) (e.mp h)<;>kernel_rfl
def fa.S (a0 a1 a2:ah) (G:ak) (Q:ah->ak->Prop):Prop:=
 br G (.own a2) fun i1 G2=>wv (fU T G2 aj a0) fun v3=>wv (az T .geq ay v3 (.int .i64 2048)) fun v4=>brB (some v4)
 (Q (.int .i64 6) G2)
 (wv (ag T G2 aG (.ptr i1 [] 0)) fun v5=>al P dz.n [v5] G2 fun v6 G7=>wv (vun .not v6) fun v8=>brB (some v8)
 (Q (.int .i64 120) G7)
 (wv (ag T G7 ay (.ptr i1 [0] 0)) fun v9=>wv (az T .eql ay v9 (.int .i64 1)) fun v10=>brB (some v10)
 (wv (ag T G7 aq (.ptr i1 [1] 1)) fun v11=>al P gg.n [a0] G7 fun v12 G13=>(ag T G13 aq (.ptr i1 [1] 1)=some v11/\True)/\(wv (az T .neq aq v11 v12) fun v14=>brB (some v14)
 (Q (.int .i64 120) G13)
 (Q (.int .i64 0) G13)))
 (wv (ag T G7 aq (.ptr i1 [1] 1)) fun v15=>al P gf.n [a1,v15] G7 fun v16 G17=>wv (aP v16 0) fun v18=>wv (aP v16 1) fun v19=>br G17 (.own (dv)) fun i20 G21=>wg (aF T G21 aG (.ptr i20 [] 0) v18) fun G22=>wv (ag T G22 aq (.ptr i1 [1] 1)) fun v23=>al P dZ.n [a0,v23] G22 fun v24 G25=>wv (aP v24 0) fun v26=>wv (aP v24 1) fun v27=>br G25 (.own (dv)) fun i28 G29=>wg (aF T G29 aG (.ptr i28 [] 0) v26) fun G30=>let J46:ah->ak->Prop:=(fun x33 G32=>brB (some x33)
 (Q (.int .i64 120) G32)
 (wv (ag T G32 ay (.ptr i1 [0] 0)) fun v34=>wv (az T .eql ay v34 (.int .i64 2)) fun v35=>brB (some v35)
 (wv (dV T ar (.ptr i1 [3] 3) none none none) fun v36=>wv (gv T G32 aR bH v36) fun v37=>wv (ag T G32 ar (.ptr i20 [3] 3)) fun v38=>bu T iE 1 [(0,v37)] G32 fun v39 G40=>al P fO.n [v39] G40 fun v41 G42=>(ag T G42 ar (.ptr i20 [3] 3)=some v38/\True)/\(wv (az T .neq ar v41 v38) fun v43=>brB (some v43)
 (Q (.int .i64 120) G42)
 (Q (.int .i64 0) G42)))
 (Q (.int .i64 0) G32)));
 wv (vun .not v19) fun v31=>brB (some v31)
 (J46 (.bool true) G30)
 (J46 v27 G30))))
def fa.an:Ann:=.two .nil (.two .nil (.two .nil (.two (.two .nil (.two (.two (.two (.ord [(0,[]),(1,[]),(2,[]),(3,[1]),(4,[])]) .nil) .nil) .nil)) (.two .nil (.two .nil (.two .nil (.two (.two (.ord [(0,[]),(1,[]),(2,[]),(3,[]),(4,[]),(5,[]),(6,[]),(9,[]),(10,[]),(7,[]),(8,[10]),(11,[]),(12,[])]) .nil) .nil)))))))
theorem fa.sound {a0 a1 a2:ah}(h:fa.S a0 a1 a2 G Q):al P fa.n [a0,a1,a2] G Q:=by
 have e:fa.S a0 a1 a2 G Q=awp cx fa.body fa.an (bG T [.tmp 6] Q) (cC [a0,a1,a2]) G:=by kernel_rfl
 refine aD cF Tryz.func167 ?_ ?_ ?_ (aH ?_ ?_) (by simp[Tryz.f167]) (e.mp h)<;>kernel_rfl
def ee.S (a0 a1 a2:ah) (G:ak) (Q:ah->ak->Prop):Prop:=
 cn T G aj aj (.nilSlice) a0 fun v1 G2=>∀ R3:List ah->ak->Prop,
 (∀ (x5 x6 x7 x8:ah) (G4:ak),(wv (fU T G4 aj x6) fun v9=>wv (az T .lss ay x8 v9) fun v10=>brB (some v10)
 (wv (aO T aj x6 x8) fun v11=>wv (ag T G4 aG v11) fun v12=>al P fa.n [x7,x5,v12] G4 fun v13 G14=>wv (az T .neq bD v13 (.int .i64 0)) fun v15=>brB (some v15)
 (Q (.tuple [.nilSlice,.bool false]) G14)
 (wv (aO T aj x6 x8) fun v16=>wv (ag T G14 aG v16) fun v17=>bu T aj 1 [(0,v17)] G14 fun v18 G19=>cn T G19 aj aj x7 v18 fun v20 G21=>wv (az T .add ay x8 (.int .i64 1)) fun v22=>R3 [x5,x6,v20,v22] G21))
 (Q (.tuple [x7,.bool true]) G4))->R3 [x5,x6,x7,x8] G4) ->
 R3 [a1,a2,v1,.int .i64 0] G2
def ee.an:Ann:=.two .nil (.two .nil (.two (.two .nil (.loop [1,2,8,9] [false,false,false,false] .nil)) .nil))
theorem ee.sound {a0 a1 a2:ah}(h:ee.S a0 a1 a2 G Q):al P ee.n [a0,a1,a2] G Q:=by
 have e:ee.S a0 a1 a2 G Q=awp cx ee.body ee.an (bG T [.tmp 6,.tmp 7] Q) (cC [a0,a1,a2]) G:=by kernel_rfl
 refine aD cF Tryz.func128 ?_ ?_ ?_ (aH ?_ ?_) (by simp[Tryz.f128]) (e.mp h)<;>kernel_rfl
def fq.S (a0 a1:ah) (G:ak) (Q:ah->ak->Prop):Prop:=
 wv (fU T G aV a0) fun v1=>wv (az T .gtr ay v1 (.int .i64 49)) fun v2=>brB (some v2)
 (Q (.int .i64 1) G)
 (wv (az T .lss aq a1 (.int .i64 0)) fun v3=>brB (some v3)
 (Q (.int .i64 90) G)
 (wv (az T .gtr aq a1 (.int .i64 281474976710655)) fun v4=>brB (some v4)
 (Q (.int .i64 90) G)
 (Q (.int .i64 0) G)))
def fq.an:Ann:=.nil
theorem fq.sound {a0 a1:ah}(h:fq.S a0 a1 G Q):al P fq.n [a0,a1] G Q:=by
 have e:fq.S a0 a1 G Q=awp cx fq.body fq.an (bG T [.tmp 4] Q) (cC [a0,a1]) G:=by kernel_rfl
 refine aD cF Tryz.func103 ?_ ?_ ?_ (aH ?_ ?_) (by simp[Tryz.f103]) (e.mp h)<;>kernel_rfl
def gW.S (a0 a1:ah) (G:ak) (Q:ah->ak->Prop):Prop:=
 br G (.own (pW)) fun i1 G2=>let J17:ah->ak->Prop:=(fun x9 G8=>brB (some x9)
 (wv (aO T aV a0 a1) fun v10=>wv (ag T G8 cz v10) fun v11=>wg (aF T G8 cz (.ptr i1 [] 0) v11) fun G12=>wv (ag T G12 cz (.ptr i1 [] 0)) fun v13=>Q v13 G12)
 (wv (bj T cz []) fun v14=>wg (aF T G8 cz (.ptr i1 [] 0) v14) fun G15=>wv (ag T G15 cz (.ptr i1 [] 0)) fun v16=>Q v16 G15));
 wv (fU T G2 aV a0) fun v3=>wv (az T .lss ay a1 v3) fun v4=>brB (some v4)
 (wv (aO T aV a0 a1) fun v5=>wv (bt T cz v5 2) fun v6=>wv (ag T G2 du v6) fun v7=>J17 v7 G2)
 (J17 (.bool false) G2)
def gW.an:Ann:=.nil
theorem gW.sound {a0 a1:ah}(h:gW.S a0 a1 G Q):al P gW.n [a0,a1] G Q:=by
 have e:gW.S a0 a1 G Q=awp cx gW.body gW.an (bG T [.cell 4 100] Q) (cC [a0,a1]) G:=by kernel_rfl
 refine aD cF Tryz.func104 ?_ ?_ ?_ (aH ?_ ?_) (by simp[Tryz.f104]) (e.mp h)<;>kernel_rfl
def en.S (a0:ah) (G:ak) (Q:ah->ak->Prop):Prop:=
 br G (.own a0) fun i1 G2=>∀ R3:List ah->ak->Prop,
 (∀ (x5 x6:ah) (G4:ak),(wv (az T .lss ay x6 (.int .i64 48)) fun v7=>brB (some v7)
 (wv (aO T kB x5 x6) fun v8=>wv (ag T G4 ay v8) fun v9=>wv (az T .eql ay v9 (.int .i64 1)) fun v10=>brB (some v10)
 (Q x6 G4)
 (wv (az T .add ay x6 (.int .i64 1)) fun v11=>R3 [x5,v11] G4))
 (Q (.int .i64 48) G4))->R3 [x5,x6] G4) ->
 R3 [.ptr i1 [] 0,.int .i64 0] G2
def en.an:Ann:=.two .nil (.two (.two .nil (.loop [1,3] [false,false] .nil)) .nil)
theorem en.sound {a0:ah}(h:en.S a0 G Q):al P en.n [a0] G Q:=by
 have e:en.S a0 G Q=awp cx en.body en.an (bG T [.tmp 2] Q) (cC [a0]) G:=by kernel_rfl
 refine aD cF Tryz.func165 ?_ ?_ ?_ (aH ?_ ?_) (by simp[Tryz.f165]) (e.mp h)<;>kernel_rfl
def eM.S (a0 a1 a2:ah) (G:ak) (Q:ah->ak->Prop):Prop:=
 br G (.own a0) fun i1 G2=>br G2 (.own (dm)) fun i3 G4=>let J53:ah->ak->Prop:=(fun x12 G11=>brB (some x12)
 (wv (bj T ar []) fun v13=>wg (aF T G11 ar (.ptr i3 [] 0) v13) fun G14=>wv (ag T G14 ar (.ptr i3 [] 0)) fun v15=>Q (.tuple [v15,.int .i64 90]) G14)
 (al P cZ.n [a1] G11 fun v16 G17=>br G17 (.own (oY)) fun i18 G19=>wg (aF T G19 kB (.ptr i18 [] 0) v16) fun G20=>al P cZ.n [a2] G20 fun v21 G22=>br G22 (.own (oY)) fun i23 G24=>wg (aF T G24 kB (.ptr i23 [] 0) v21) fun G25=>wv (ag T G25 kB (.ptr i18 [] 0)) fun v26=>al P en.n [v26] G25 fun v27 G28=>∀ R29:List ah->ak->Prop,
 (∀ (x31 x32 x33 x34 x35 x36:ah) (G30:ak),(wv (az T .lss ay x36 (.int .i64 48)) fun v37=>brB (some v37)
 (wv (aO T kB x33 x36) fun v38=>wv (ag T G30 ay v38) fun v39=>wv (aO T kB x34 x36) fun v40=>wv (ag T G30 ay v40) fun v41=>wv (az T .neq ay v39 v41) fun v42=>brB (some v42)
 (wv (bj T ar []) fun v43=>wg (aF T G30 ar x32 v43) fun G44=>wv (ag T G44 ar x32) fun v45=>Q (.tuple [v45,.int .i64 5]) G44)
 (wv (az T .add ay x36 (.int .i64 1)) fun v46=>R29 [x31,x32,x33,x34,x35,v46] G30))
 (wv (ag T G30 ar x31) fun v47=>wv (ag T G30 kB x34) fun v48=>al P fe.n [v47,v48,x35] G30 fun v49 G50=>wg (aF T G50 ar x32 v49) fun G51=>wv (ag T G51 ar x32) fun v52=>Q (.tuple [v52,.int .i64 0]) G51))->R29 [x31,x32,x33,x34,x35,x36] G30) ->
 R29 [.ptr i1 [] 0,.ptr i3 [] 0,.ptr i18 [] 0,.ptr i23 [] 0,v27,v27] G28));
 al P dt.n [a1] G4 fun v5 G6=>wv (vun .not v5) fun v7=>brB (some v7)
 (J53 (.bool true) G6)
 (al P dt.n [a2] G6 fun v8 G9=>wv (vun .not v8) fun v10=>J53 v10 G9)
def eM.an:Ann:=.two .nil (.two .nil (.two .nil (.two .nil (.two .nil (.two (.two .nil (.loop [3,6,8,9,10,11] [false,false,false,false,false,false] (.two .nil (.two (.two (.ord [(0,[]),(1,[]),(2,[]),(3,[]),(4,[]),(5,[]),(6,[])]) .nil) .nil)))) .nil)))))
theorem eM.sound {a0 a1 a2:ah}(h:eM.S a0 a1 a2 G Q):al P eM.n [a0,a1,a2] G Q:=by
 have e:eM.S a0 a1 a2 G Q=awp cx eM.body eM.an (bG T [.cell 6 23,.tmp 7] Q) (cC [a0,a1,a2]) G:=by kernel_rfl
 refine aD cF Tryz.func105 ?_ ?_ ?_ (aH ?_ ?_) (by simp[Tryz.f105]) (e.mp h)<;>kernel_rfl
def fu.S (a0:ah) (G:ak) (Q:ah->ak->Prop):Prop:=
 al P dt.n [a0] G fun v1 G2=>wv (vun .not v1) fun v3=>brB (some v3)
 (Q (.tuple [.int .i64 0,.int .i64 90]) G2)
 (al P cZ.n [a0] G2 fun v4 G5=>al P en.n [v4] G5 fun v6 G7=>Q (.tuple [v6,.int .i64 0]) G7)
def fu.an:Ann:=.nil
theorem fu.sound {a0:ah}(h:fu.S a0 G Q):al P fu.n [a0] G Q:=by
 have e:fu.S a0 G Q=awp cx fu.body fu.an (bG T [.tmp 2,.tmp 3] Q) (cC [a0]) G:=by kernel_rfl
 refine aD cF Tryz.func184 ?_ ?_ ?_ (aH ?_ ?_) (by simp[Tryz.f184]) (e.mp h)<;>kernel_rfl
def fN.S (a0 a1 a2:ah) (G:ak) (Q:ah->ak->Prop):Prop:=
 br G (.own a2) fun i1 G2=>al P fq.n [a0,a1] G2 fun v3 G4=>wv (az T .neq bD v3 (.int .i64 0)) fun v5=>brB (some v5)
 (Q (.tuple [.nilSlice,v3]) G4)
 (al P fu.n [a1] G4 fun v6 G7=>wv (aP v6 0) fun v8=>wv (aP v6 1) fun v9=>∀ R10:List ah->ak->Prop,
 (∀ (x12 x13 x14 x15 x16 x17:ah) (G11:ak),(wv (az T .lss ay x17 (.int .i64 49)) fun v18=>brB (some v18)
 (al P gW.n [x12,x17] G11 fun v19 G20=>br G20 (.own (pW)) fun i21 G22=>wg (aF T G22 cz (.ptr i21 [] 0) v19) fun G23=>let J65:ah->ak->Prop:=(fun x27 G26=>let J64:ak->Prop:=(fun G43=>wv (az T .eql ay x17 x15) fun v44=>brB (some v44)
 (wv (ag T G43 ar x14) fun v45=>wv (bj T cz [(0,x13),(1,v45),(2,.bool true)]) fun v46=>wg (aF T G43 cz (.ptr i21 [] 0) v46) fun G47=>wv (ag T G47 cz (.ptr i21 [] 0)) fun v54=>bu T aV 1 [(0,v54)] G47 fun v55 G56=>cn T G56 aV aV x16 v55 fun v57 G58=>wv (az T .add ay x17 (.int .i64 1)) fun v69=>R10 [x12,x13,x14,x15,v57,v69] G58)
 (wv (ag T G43 cz (.ptr i21 [] 0)) fun v59=>bu T aV 1 [(0,v59)] G43 fun v60 G61=>cn T G61 aV aV x16 v60 fun v62 G63=>wv (az T .add ay x17 (.int .i64 1)) fun v70=>R10 [x12,x13,x14,x15,v62,v70] G63));
 brB (some x27)
 (wv (ag T G26 ar x14) fun v28=>wv (ag T G26 aq (.ptr i21 [0] 0)) fun v29=>al P eM.n [v28,x13,v29] G26 fun v30 G31=>wv (aP v30 0) fun v32=>wv (aP v30 1) fun v33=>br G31 (.own (dm)) fun i34 G35=>wg (aF T G35 ar (.ptr i34 [] 0) v32) fun G36=>wv (az T .neq bD v33 (.int .i64 0)) fun v37=>brB (some v37)
 (Q (.tuple [.nilSlice,.int .i64 100]) G36)
 (wv (ag T G36 ar (.ptr i34 [] 0)) fun v38=>wv (ag T G36 ar (.ptr i21 [1] 1)) fun v39=>wv (az T .neq ar v38 v39) fun v40=>brB (some v40)
 (Q (.tuple [.nilSlice,.int .i64 100]) G36)
 (J64 G36)))
 (J64 G26));
 wv (az T .lss ay x17 x15) fun v24=>brB (some v24)
 (wv (ag T G23 du (.ptr i21 [2] 33)) fun v25=>J65 v25 G23)
 (J65 (.bool false) G23))
 (Q (.tuple [x16,.int .i64 0]) G11))->R10 [x12,x13,x14,x15,x16,x17] G11) ->
 R10 [a0,a1,.ptr i1 [] 0,v8,.nilSlice,.int .i64 0] G7)
def fN.an:Ann:=.two .nil (.two .nil (.two .nil (.two .nil (.two .nil (.two (.two .nil (.loop [0,1,5,9,11,12] [false,false,false,false,false,false] .nil)) .nil)))))
theorem fN.sound {a0 a1 a2:ah}(h:fN.S a0 a1 a2 G Q):al P fN.n [a0,a1,a2] G Q:=by
 have e:fN.S a0 a1 a2 G Q=awp cx fN.body fN.an (bG T [.tmp 6,.tmp 7] Q) (cC [a0,a1,a2]) G:=by kernel_rfl
 refine aD cF Tryz.func129 ?_ ?_ ?_ (aH ?_ ?_) (by simp[Tryz.f129]) (e.mp h)<;>kernel_rfl
def dX.S (a0 a1:ah) (G:ak) (Q:ah->ak->Prop):Prop:=
 br G (.own a0) fun i1 G2=>br G2 (.own a1) fun i3 G4=>br G4 (.own (hO)) fun i5 G6=>wv (ag T G6 aE (.ptr i1 [] 0)) fun v7=>al P fL.n [v7] G6 fun v8 G9=>br G9 (.own (hO)) fun i10 G11=>wg (aF T G11 aE (.ptr i10 [] 0) v8) fun G12=>wv (ag T G12 aj (.ptr i1 [5] 5)) fun v13=>cn T G12 aj aj (.nilSlice) v13 fun v14 G15=>wg (aF T G15 aj (.ptr i10 [5] 5) v14) fun G16=>wv (ag T G16 ay (.ptr i3 [0] 0)) fun v17=>wv (az T .eql ay v17 (.int .i64 1)) fun v18=>brB (some v18)
 (wv (ag T G16 aj (.ptr i1 [4] 4)) fun v19=>wv (ag T G16 aj (.ptr i1 [5] 5)) fun v20=>wv (ag T G16 aG (.ptr i3 [1] 1)) fun v21=>bu T aj 1 [(0,v21)] G16 fun v22 G23=>al P ee.n [v19,v20,v22] G23 fun v24 G25=>wv (aP v24 0) fun v26=>wv (aP v24 1) fun v27=>wg (aF T G25 aj (.ptr i10 [4] 4) v26) fun G28=>wv (ag T G28 aE (.ptr i10 [] 0)) fun v29=>wg (aF T G28 aE (.ptr i5 [] 0) v29) fun G30=>wv (ag T G30 aE (.ptr i5 [] 0)) fun v31=>Q (.tuple [v31,v27]) G30)
 (wv (az T .eql ay v17 (.int .i64 2)) fun v32=>brB (some v32)
 (wv (ag T G16 aq (.ptr i3 [3] 38)) fun v33=>wg (aF T G16 aq (.ptr i10 [7] 7) v33) fun G34=>wv (ag T G34 aU (.ptr i3 [4] 39)) fun v35=>wg (aF T G34 aU (.ptr i10 [10] 11) v35) fun G36=>wg (aF T G36 du (.ptr i10 [12] 15) (.bool true)) fun G37=>let J64:ah->ak->Prop:=(fun x62 G61=>wv (ag T G61 aE (.ptr i5 [] 0)) fun v63=>Q (.tuple [v63,x62]) G61);
 wv (ag T G37 aE (.ptr i10 [] 0)) fun v38=>wv (ag T G37 aq (.ptr i1 [7] 7)) fun v39=>wv (ag T G37 aq (.ptr i1 [8] 8)) fun v40=>wv (az T .eql aq v39 v40) fun v41=>brB (some v41)
 (wv (ag T G37 aq (.ptr i3 [3] 38)) fun v42=>wv (ag T G37 aq (.ptr i1 [7] 7)) fun v43=>wv (az T .add aq v43 (.int .i64 1)) fun v44=>wv (az T .eql aq v42 v44) fun v45=>brB (some v45)
 (wv (ag T G37 ay (.ptr i3 [4,1] 40)) fun v46=>wv (ag T G37 ay (.ptr i1 [9,1] 10)) fun v47=>wv (az T .eql ay v46 v47) fun v48=>brB (some v48)
 (wv (ag T G37 ay (.ptr i3 [4,0] 39)) fun v49=>wv (ag T G37 ay (.ptr i1 [10,0] 11)) fun v50=>wv (az T .geq ay v49 v50) fun v51=>brB (some v51)
 (wv (ag T G37 ay (.ptr i3 [4,0] 39)) fun v52=>wv (ag T G37 aj (.ptr i1 [4] 4)) fun v53=>wv (fU T G37 aj v53) fun v54=>wv (az T .leq ay v52 v54) fun v55=>wg (aF T G37 aE (.ptr i5 [] 0) v38) fun G56=>(ag T G56 aj (.ptr i1 [4] 4)=some v53/\ag T G56 ay (.ptr i3 [4,0] 39)=some v52/\True)/\(J64 v55 G56))
 (wg (aF T G37 aE (.ptr i5 [] 0) v38) fun G57=>(True)/\(J64 (.bool false) G57)))
 (wg (aF T G37 aE (.ptr i5 [] 0) v38) fun G58=>(True)/\(J64 (.bool false) G58)))
 (wg (aF T G37 aE (.ptr i5 [] 0) v38) fun G59=>(True)/\(J64 (.bool false) G59)))
 (wg (aF T G37 aE (.ptr i5 [] 0) v38) fun G60=>(True)/\(J64 (.bool false) G60)))
 (wv (az T .eql ay v17 (.int .i64 3)) fun v65=>brB (some v65)
 (wv (ag T G16 aj (.ptr i1 [5] 5)) fun v66=>wv (ag T G16 ay (.ptr i1 [9,1] 10)) fun v67=>wv (ag T G16 aj (.ptr i1 [4] 4)) fun v68=>wv (ag T G16 aj (.ptr i3 [2] 37)) fun v69=>al P bQ.n [v66,v67] G16 fun v70 G71=>(ag T G71 aj (.ptr i3 [2] 37)=some v69/\ag T G71 aj (.ptr i1 [4] 4)=some v68/\True)/\(al P ee.n [v70,v68,v69] G71 fun v72 G73=>wv (aP v72 0) fun v74=>wv (aP v72 1) fun v75=>wg (aF T G73 aj (.ptr i10 [5] 5) v74) fun G76=>wv (ag T G76 aq (.ptr i3 [3] 38)) fun v77=>wg (aF T G76 aq (.ptr i10 [6] 6) v77) fun G78=>wv (ag T G78 ay (.ptr i1 [11,0] 13)) fun v79=>wv (fU T G78 aj v74) fun v80=>wv (bj T aU [(0,v79),(1,v80)]) fun v81=>wg (aF T G78 aU (.ptr i10 [9] 9) v81) fun G82=>wv (ag T G82 ar (.ptr i3 [5] 41)) fun v83=>wg (aF T G82 ar (.ptr i10 [14] 80) v83) fun G84=>wg (aF T G84 du (.ptr i10 [12] 15) (.bool false)) fun G85=>wv (ag T G85 aE (.ptr i10 [] 0)) fun v86=>brB (some v75)
 (wv (ag T G85 aq (.ptr i3 [3] 38)) fun v87=>wv (ag T G85 aq (.ptr i1 [6] 6)) fun v88=>wv (az T .add aq v88 (.int .i64 1)) fun v89=>wv (az T .eql aq v87 v89) fun v90=>wg (aF T G85 aE (.ptr i5 [] 0) v86) fun G91=>(ag T G91 aq (.ptr i1 [6] 6)=some v88/\ag T G91 aq (.ptr i3 [3] 38)=some v87/\True)/\(wv (ag T G91 aE (.ptr i5 [] 0)) fun v96=>Q (.tuple [v96,v90]) G91))
 (wg (aF T G85 aE (.ptr i5 [] 0) v86) fun G92=>(True)/\(wv (ag T G92 aE (.ptr i5 [] 0)) fun v97=>Q (.tuple [v97,.bool false]) G92))))
 (wv (az T .eql ay v17 (.int .i64 4)) fun v98=>brB (some v98)
 (wv (ag T G16 aV (.ptr i1 [15] 112)) fun v99=>wv (ag T G16 aq (.ptr i3 [3] 38)) fun v100=>wv (ag T G16 ar (.ptr i3 [6] 73)) fun v101=>al P fN.n [v99,v100,v101] G16 fun v102 G103=>wv (aP v102 0) fun v104=>wv (aP v102 1) fun v105=>wg (aF T G103 aV (.ptr i10 [15] 112) v104) fun G106=>wv (ag T G106 aq (.ptr i1 [8] 8)) fun v107=>wv (az T .add aq v107 (.int .i64 1)) fun v108=>wg (aF T G106 aq (.ptr i10 [8] 8) v108) fun G109=>wv (ag T G109 aU (.ptr i1 [10] 11)) fun v110=>wg (aF T G109 aU (.ptr i10 [11] 13) v110) fun G111=>wv (aO T cc (.ptr i1 [13] 16) (.int .i64 1)) fun v112=>wv (ag T G111 ar v112) fun v113=>wv (ag T G111 ar (.ptr i3 [7] 105)) fun v114=>wv (bj T cc [(0,v113),(1,v114)]) fun v115=>wg (aF T G111 cc (.ptr i10 [13] 16) v115) fun G116=>wv (ag T G116 aE (.ptr i10 [] 0)) fun v117=>wv (az T .eql bD v105 (.int .i64 0)) fun v118=>brB (some v118)
 (wv (ag T G116 aq (.ptr i1 [7] 7)) fun v119=>wv (ag T G116 aq (.ptr i1 [8] 8)) fun v120=>wv (az T .add aq v120 (.int .i64 1)) fun v121=>wv (az T .eql aq v119 v121) fun v122=>brB (some v122)
 (wv (ag T G116 aq (.ptr i3 [3] 38)) fun v123=>wv (ag T G116 aq (.ptr i1 [8] 8)) fun v124=>wv (az T .eql aq v123 v124) fun v125=>wg (aF T G116 aE (.ptr i5 [] 0) v117) fun G126=>(ag T G126 aq (.ptr i1 [8] 8)=some v124/\ag T G126 aq (.ptr i3 [3] 38)=some v123/\True)/\(wv (ag T G126 aE (.ptr i5 [] 0)) fun v132=>Q (.tuple [v132,v125]) G126))
 (wg (aF T G116 aE (.ptr i5 [] 0) v117) fun G127=>(True)/\(wv (ag T G127 aE (.ptr i5 [] 0)) fun v133=>Q (.tuple [v133,.bool false]) G127)))
 (wg (aF T G116 aE (.ptr i5 [] 0) v117) fun G128=>(True)/\(wv (ag T G128 aE (.ptr i5 [] 0)) fun v134=>Q (.tuple [v134,.bool false]) G128)))
 (wv (ag T G16 aE (.ptr i1 [] 0)) fun v135=>wg (aF T G16 aE (.ptr i5 [] 0) v135) fun G136=>wv (ag T G136 aE (.ptr i5 [] 0)) fun v137=>Q (.tuple [v137,.bool false]) G136))))
def dX.an:Ann:=.two .nil (.two .nil (.two .nil (.two (.two .nil (.two .nil (.two .nil (.two .nil (.two (.two .nil (.two .nil (.two .nil (.two (.ord [(0,[]),(1,[]),(2,[]),(3,[]),(4,[]),(5,[]),(6,[]),(7,[]),(8,[]),(9,[]),(10,[]),(11,[]),(12,[]),(13,[]),(14,[]),(15,[]),(16,[]),(17,[]),(18,[]),(19,[]),(20,[]),(21,[]),(22,[]),(23,[]),(24,[]),(25,[]),(26,[]),(27,[]),(28,[]),(29,[]),(30,[]),(31,[]),(32,[]),(33,[]),(34,[]),(35,[]),(36,[]),(37,[]),(38,[]),(39,[]),(40,[]),(41,[35,37]),(42,[])]) .nil)))) (.two .nil (.two (.two (.ord [(0,[]),(1,[]),(2,[]),(3,[]),(4,[]),(6,[]),(7,[]),(8,[]),(9,[]),(5,[7,9]),(10,[]),(11,[]),(12,[]),(13,[]),(14,[]),(15,[])]) (.two .nil (.two .nil (.two .nil (.two .nil (.two .nil (.two (.ord [(0,[]),(1,[]),(2,[]),(3,[]),(4,[]),(5,[]),(6,[]),(7,[]),(8,[]),(9,[]),(10,[4,6]),(11,[])]) .nil))))))) (.two .nil (.two (.two .nil (.two .nil (.two .nil (.two .nil (.two .nil (.two (.ord [(0,[]),(1,[]),(2,[]),(3,[]),(4,[]),(5,[]),(6,[]),(7,[]),(8,[]),(9,[]),(10,[]),(11,[]),(12,[]),(13,[]),(14,[]),(15,[]),(16,[]),(17,[]),(18,[13,15]),(19,[])]) .nil)))))) .nil))))))))) .nil)))
theorem dX.sound {a0 a1:ah}(h:dX.S a0 a1 G Q):al P dX.n [a0,a1] G Q:=by
 have e:dX.S a0 a1 G Q=awp cx dX.body dX.an (bG T [.cell 4 38,.tmp 5] Q) (cC [a0,a1]) G:=by kernel_rfl
 refine aD cF Tryz.func70 ?_ ?_ ?_ (aH ?_ ?_) (by simp[Tryz.f70]) (e.mp h)<;>kernel_rfl
def cl.S (a0 a1 a2:ah) (G:ak) (Q:ah->ak->Prop):Prop:=
 br G (.own a2) fun i1 G2=>wv (az T .eql ay a1 (.int .i64 0)) fun v3=>brB (some v3)
 (wv (lr a0) fun v4=>wv (bt T bz v4 3) fun v5=>wv (ag T G2 bR v5) fun v6=>wv (ag T G2 aW (.ptr i1 [] 0)) fun v7=>bu T bR 1 [(0,v7)] G2 fun v8 G9=>cn T G9 bR bR v6 v8 fun v10 G11=>wv (lr a0) fun v12=>wv (bt T bz v12 3) fun v13=>wg (aF T G11 bR v13 v10) fun G14=>Q (.tuple []) G14)
 (wv (lr a0) fun v15=>wv (bt T bz v15 2) fun v16=>wv (ag T G2 bR v16) fun v17=>wv (ag T G2 aW (.ptr i1 [] 0)) fun v18=>bu T bR 1 [(0,v18)] G2 fun v19 G20=>cn T G20 bR bR v17 v19 fun v21 G22=>wv (lr a0) fun v23=>wv (bt T bz v23 2) fun v24=>wg (aF T G22 bR v24 v21) fun G25=>Q (.tuple []) G25)
def cl.an:Ann:=.two .nil (.two (.two .nil (.two (.two (.ord [(0,[]),(1,[]),(2,[]),(3,[]),(4,[]),(5,[]),(6,[]),(7,[]),(8,[]),(9,[]),(10,[])]) .nil) .nil)) (.ord [(0,[]),(1,[]),(2,[]),(3,[]),(4,[]),(5,[]),(6,[]),(7,[]),(8,[]),(9,[]),(10,[])]))
theorem cl.sound {a0 a1 a2:ah}(h:cl.S a0 a1 a2 G Q):al P cl.n [a0,a1,a2] G Q:=by
 have e:cl.S a0 a1 a2 G Q=awp cx cl.body cl.an (bG T [] Q) (cC [a0,a1,a2]) G:=by kernel_rfl
 refine aD cF Tryz.func71 ?_ ?_ ?_ (aH ?_ ?_) (by simp[Tryz.f71]) (e.mp h)<;>kernel_rfl
def ec.S (a0:ah) (G:ak) (Q:ah->ak->Prop):Prop:=
 br G (.own a0) fun i1 G2=>br G2 (.own (jF)) fun i3 G4=>wv (ag T G4 ay (.ptr i1 [0] 0)) fun v5=>wv (ag T G4 aq (.ptr i1 [1] 1)) fun v6=>wv (ag T G4 aq (.ptr i1 [2] 2)) fun v7=>wv (ag T G4 ar (.ptr i1 [3] 3)) fun v8=>wv (ag T G4 bH (.ptr i1 [4] 35)) fun v9=>wv (bj T aW [(0,v5),(1,v6),(2,v7),(5,v8),(7,v9)]) fun v10=>wg (aF T G4 aW (.ptr i3 [] 0) v10) fun G11=>wv (ag T G11 aW (.ptr i3 [] 0)) fun v12=>Q v12 G11
def ec.an:Ann:=.nil
theorem ec.sound {a0:ah}(h:ec.S a0 G Q):al P ec.n [a0] G Q:=by
 have e:ec.S a0 G Q=awp cx ec.body ec.an (bG T [.cell 2 48] Q) (cC [a0]) G:=by kernel_rfl
 refine aD cF Tryz.func72 ?_ ?_ ?_ (aH ?_ ?_) (by simp[Tryz.f72]) (e.mp h)<;>kernel_rfl
end Go.Esc.M
