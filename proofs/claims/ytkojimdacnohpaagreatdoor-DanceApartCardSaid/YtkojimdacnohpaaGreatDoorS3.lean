import Derived.Test.YtkojimdacnohpaaGreatDoorT
set_option linter.unusedSimpArgs false
set_option linter.unusedVariables false
set_option maxRecDepth 100000
namespace Go.Esc.M
open Go Go.Esc Go.Proofs
variable {G:ak}{Q:ah->ak->Prop}
def l9.S (a0 a1:ah) (G:ak) (Q:ah->ak->Prop):Prop:=
 br G (.own a0) fun i1 G2=>br G2 (.own (dm)) fun i3 G4=>wv (ag T G4 ar (.ptr i1 [] 0)) fun v5=>al P j5.n [v5,.int .u8 54] G4 fun v6 G7=>bu T iE 2 [(0,v6),(1,a1)] G7 fun v8 G9=>al P jh.n [v8] G9 fun v10 G11=>br G11 (.own (dm)) fun i12 G13=>wg (aF T G13 ar (.ptr i12 [] 0) v10) fun G14=>wv (ag T G14 ar (.ptr i1 [] 0)) fun v15=>wv (dV T ar (.ptr i12 [] 0) none none none) fun v16=>wv (gv T G14 aR bH v16) fun v17=>al P j5.n [v15,.int .u8 92] G14 fun v18 G19=>(gv T G19 aR bH v16=some v17/\True)/\(bu T iE 2 [(0,v18),(1,v17)] G19 fun v20 G21=>al P jh.n [v20] G21 fun v22 G23=>wg (aF T G23 ar (.ptr i3 [] 0) v22) fun G24=>wv (ag T G24 ar (.ptr i3 [] 0)) fun v25=>Q v25 G24)
def l9.an:Ann:=.two .nil (.two .nil (.two (.ord [(0,[]),(2,[]),(3,[]),(1,[3]),(4,[]),(5,[]),(6,[])]) .nil))
theorem l9.sound {a0 a1:ah}(h:l9.S a0 a1 G Q):al P l9.n [a0,a1] G Q:=by
 have e:l9.S a0 a1 G Q=awp cx l9.body l9.an (bG T [.cell 4 23] Q) (cC [a0,a1]) G:=by kernel_rfl
 refine aD cF Tryz.func177 ?_ ?_ ?_ (aH ?_ ?_) (by simp[Tryz.f177]) (e.mp h)<;>kernel_rfl
def j3.S (a0 a1:ah) (G:ak) (Q:ah->ak->Prop):Prop:=
 br G (.own a0) fun i1 G2=>br G2 (.own (dm)) fun i3 G4=>wv (ag T G4 ar (.ptr i1 [] 0)) fun v5=>al P l9.n [v5,a1] G4 fun v6 G7=>wg (aF T G7 ar (.ptr i3 [] 0) v6) fun G8=>wv (ag T G8 ar (.ptr i3 [] 0)) fun v9=>Q v9 G8
def j3.an:Ann:=.nil
theorem j3.sound {a0 a1:ah}(h:j3.S a0 a1 G Q):al P j3.n [a0,a1] G Q:=by
 have e:j3.S a0 a1 G Q=awp cx j3.body j3.an (bG T [.cell 4 23] Q) (cC [a0,a1]) G:=by kernel_rfl
 refine aD cF Tryz.func117 ?_ ?_ ?_ (aH ?_ ?_) (by simp[Tryz.f117]) (e.mp h)<;>kernel_rfl
def jT.S (a0 a1 a2:ah) (G:ak) (Q:ah->ak->Prop):Prop:=
 br G (.own a0) fun i1 G2=>br G2 (.own a2) fun i3 G4=>wv (ag T G4 ar (.ptr i1 [] 0)) fun v5=>wv (ag T G4 ar (.ptr i3 [] 0)) fun v6=>al P j3.n [v5,a1] G4 fun v7 G8=>(ag T G8 ar (.ptr i3 [] 0)=some v6/\True)/\(wv (az T .eql ar v7 v6) fun v9=>Q v9 G8)
def jT.an:Ann:=.two .nil (.two (.ord [(0,[]),(1,[]),(3,[]),(2,[3]),(4,[]),(5,[])]) .nil)
theorem jT.sound {a0 a1 a2:ah}(h:jT.S a0 a1 a2 G Q):al P jT.n [a0,a1,a2] G Q:=by
 have e:jT.S a0 a1 a2 G Q=awp cx jT.body jT.an (bG T [.tmp 6] Q) (cC [a0,a1,a2]) G:=by kernel_rfl
 refine aD cF Tryz.func121 ?_ ?_ ?_ (aH ?_ ?_) (by simp[Tryz.f121]) (e.mp h)<;>kernel_rfl
def gK.S (a0 a1:ah) (G:ak) (Q:ah->ak->Prop):Prop:=
 wv (zr a1 (.int .i64 0)) fun v1=>wv (fU T G aj a0) fun v2=>wv (qy v1 v2) fun v3=>wv (dV T aj a0 none (some (v3)) none) fun v4=>Q v4 G
def gK.an:Ann:=.nil
theorem gK.sound {a0 a1:ah}(h:gK.S a0 a1 G Q):al P gK.n [a0,a1] G Q:=by
 have e:gK.S a0 a1 G Q=awp cx gK.body gK.an (bG T [.tmp 4] Q) (cC [a0,a1]) G:=by kernel_rfl
 refine aD cF Tryz.func122 ?_ ?_ ?_ (aH ?_ ?_) (by simp[Tryz.f122]) (e.mp h)<;>kernel_rfl
def bk.S (a0:ah) (G:ak) (Q:ah->ak->Prop):Prop:=
 wv (az T .eql aj a0 (.nilSlice)) fun v1=>brB (some v1)
 (Q (.nilSlice) G)
 (bu T aj 0 [] G fun v2 G3=>cn T G3 aj aj v2 a0 fun v4 G5=>Q v4 G5)
def bk.an:Ann:=.nil
theorem bk.sound {a0:ah}(h:bk.S a0 G Q):al P bk.n [a0] G Q:=by
 have e:bk.S a0 G Q=awp cx bk.body bk.an (bG T [.tmp 2] Q) (cC [a0]) G:=by kernel_rfl
 refine aD cF Tryz.func123 ?_ ?_ ?_ (aH ?_ ?_) (by simp[Tryz.f123]) (e.mp h)<;>kernel_rfl
def jB.S (a0 a1 a2:ah) (G:ak) (Q:ah->ak->Prop):Prop:=
 br G (.own a0) fun i1 G2=>br G2 (.own a1) fun i3 G4=>br G4 (.own a2) fun i5 G6=>br G6 (.own (dw)) fun i7 G8=>wv (ag T G8 ay (.ptr i3 [11,0] 13)) fun v9=>wv (ag T G8 aj (.ptr i3 [5] 5)) fun v10=>wv (fU T G8 aj v10) fun v11=>wv (bj T aU [(0,v9),(1,v11)]) fun v12=>br G8 (.own (iP)) fun i13 G14=>wg (aF T G14 aU (.ptr i13 [] 0) v12) fun G15=>wv (ag T G15 aE (.ptr i3 [] 0)) fun v16=>al P gC.n [v16] G15 fun v17 G18=>brB (some v17)
 (wv (bj T ax []) fun v19=>wg (aF T G18 ax (.ptr i7 [] 0) v19) fun G20=>wv (ag T G20 ax (.ptr i7 [] 0)) fun v21=>Q (.tuple [v21,.int .i64 220]) G20)
 (wv (ag T G18 ay (.ptr i5 [0] 0)) fun v22=>wv (az T .neq ay v22 (.int .i64 4)) fun v23=>brB (some v23)
 (wv (bj T ax []) fun v24=>wg (aF T G18 ax (.ptr i7 [] 0) v24) fun G25=>wv (ag T G25 ax (.ptr i7 [] 0)) fun v26=>Q (.tuple [v26,.int .i64 160]) G25)
 (let J44:ah->ak->Prop:=(fun x34 G33=>brB (some x34)
 (wv (bj T ax []) fun v35=>wg (aF T G33 ax (.ptr i7 [] 0) v35) fun G36=>wv (ag T G36 ax (.ptr i7 [] 0)) fun v37=>Q (.tuple [v37,.int .i64 90]) G36)
 (wv (ag T G33 aU (.ptr i13 [] 0)) fun v38=>wv (ag T G33 aU (.ptr i3 [9] 9)) fun v39=>wv (az T .eql aU v38 v39) fun v40=>brB (some v40)
 (wv (bj T ax []) fun v41=>wg (aF T G33 ax (.ptr i7 [] 0) v41) fun G42=>wv (ag T G42 ax (.ptr i7 [] 0)) fun v43=>Q (.tuple [v43,.int .i64 8]) G42)
 (wv (ag T G33 bU (.ptr i1 [] 0)) fun v45=>wv (ag T G33 aE (.ptr i3 [] 0)) fun v46=>wv (ag T G33 aq (.ptr i5 [3] 3)) fun v47=>wv (ag T G33 aU (.ptr i13 [] 0)) fun v48=>al P kG.n [v45,v46,v47,v48] G33 fun v49 G50=>wv (aP v49 0) fun v51=>wv (aP v49 1) fun v52=>let J78:ah->ak->Prop:=(fun x60 G59=>brB (some x60)
 (wv (bj T ax []) fun v61=>wg (aF T G59 ax (.ptr i7 [] 0) v61) fun G62=>wv (ag T G62 ax (.ptr i7 [] 0)) fun v63=>Q (.tuple [v63,.int .i64 110]) G62)
 (wv (ag T G59 aj (.ptr i3 [5] 5)) fun v64=>wv (ag T G59 ay (.ptr i3 [9,1] 10)) fun v65=>al P gK.n [v64,v65] G59 fun v66 G67=>wv (fU T G67 aj v66) fun v68=>wv (ag T G67 aq (.ptr i5 [3] 3)) fun v69=>wv (ag T G67 aj (.ptr i3 [5] 5)) fun v70=>wv (dV T aj v70 (some (v68)) none none) fun v71=>wv (ag T G67 ar (.ptr i5 [5] 5)) fun v72=>al P bk.n [v71] G67 fun v73 G74=>(ag T G74 ar (.ptr i5 [5] 5)=some v72/\ag T G74 aq (.ptr i5 [3] 3)=some v69/\True)/\(wv (bj T ax [(0,.int .i64 3),(3,v69),(2,v73),(5,v72)]) fun v75=>wg (aF T G74 ax (.ptr i7 [] 0) v75) fun G76=>wv (ag T G76 ax (.ptr i7 [] 0)) fun v77=>Q (.tuple [v77,.int .i64 0]) G76)));
 wv (vun .not v52) fun v53=>brB (some v53)
 (J78 (.bool true) G50)
 (wv (ag T G50 ar (.ptr i1 [5] 67)) fun v54=>wv (ag T G50 ar (.ptr i5 [5] 5)) fun v55=>al P jT.n [v54,v51,v55] G50 fun v56 G57=>wv (vun .not v56) fun v58=>J78 v58 G57))));
 wv (ag T G18 aq (.ptr i3 [6] 6)) fun v27=>wv (az T .gtr aq v27 (.int .i64 281474976710653)) fun v28=>brB (some v28)
 (J44 (.bool true) G18)
 (wv (ag T G18 aq (.ptr i5 [3] 3)) fun v29=>wv (ag T G18 aq (.ptr i3 [6] 6)) fun v30=>wv (az T .add aq v30 (.int .i64 1)) fun v31=>wv (az T .neq aq v29 v31) fun v32=>J44 v32 G18)))
def jB.an:Ann:=.two .nil (.two .nil (.two .nil (.two .nil (.two .nil (.two .nil (.two (.ord [(0,[]),(1,[]),(2,[]),(3,[]),(4,[]),(5,[]),(7,[]),(8,[]),(6,[1,8]),(9,[]),(10,[]),(11,[])]) .nil))))))
theorem jB.sound {a0 a1 a2:ah}(h:jB.S a0 a1 a2 G Q):al P jB.n [a0,a1,a2] G Q:=by
 have e:jB.S a0 a1 a2 G Q=awp cx jB.body jB.an (bG T [.cell 6 78,.tmp 7] Q) (cC [a0,a1,a2]) G:=by kernel_rfl
 refine aD cF Tryz.func66 ?_ ?_ ?_ (aH ?_ ?_) (by simp[Tryz.f66]) (e.mp h)<;>kernel_rfl
def dH.S (a0:ah) (G:ak) (Q:ah->ak->Prop):Prop:=
 wv (az T .eql j1 a0 (.int .u64 0)) fun v1=>brB (some v1)
 (Q (.int .i64 64) G)
 (wv (vun .neg a0) fun v2=>wv (az T .and j1 a0 v2) fun v3=>wv (az T .mul j1 v3 (.int .u64 285870213051353865)) fun v4=>wv (az T .shr j1 v4 (.int .u64 58)) fun v5=>wv (aO T lF (.ptr ⟨0,0,0⟩ [] 0) v5) fun v6=>wv (ag T G cm v6) fun v7=>wv (gv T G cm ay v7) fun v8=>Q v8 G)
def dH.an:Ann:=.nil
theorem dH.sound {a0:ah}(h:dH.S a0 G Q):al P dH.n [a0] G Q:=by
 have e:dH.S a0 G Q=awp cx dH.body dH.an (bG T [.tmp 2] Q) (cC [a0]) G:=by kernel_rfl
 refine aD cF Tryz.func202 ?_ ?_ ?_ (aH ?_ ?_) (by simp[Tryz.f202]) (e.mp h)<;>kernel_rfl
def jt.S (a0:ah) (G:ak) (Q:ah->ak->Prop):Prop:=
 al P iQ.n [a0] G fun v1 G2=>wv (vun .not v1) fun v3=>brB (some v3)
 (Q (.tuple [.int .i64 0,.int .i64 90]) G2)
 (al P gS.n [a0] G2 fun v4 G5=>wv (gv T G5 aq j1 v4) fun v6=>al P dH.n [v6] G5 fun v7 G8=>wv (qy (.int .i64 48) v7) fun v9=>Q (.tuple [v9,.int .i64 0]) G8)
def jt.an:Ann:=.nil
theorem jt.sound {a0:ah}(h:jt.S a0 G Q):al P jt.n [a0] G Q:=by
 have e:jt.S a0 G Q=awp cx jt.body jt.an (bG T [.tmp 2,.tmp 3] Q) (cC [a0]) G:=by kernel_rfl
 refine aD cF Tryz.func161 ?_ ?_ ?_ (aH ?_ ?_) (by simp[Tryz.f161]) (e.mp h)<;>kernel_rfl
def ju.S (a0 a1 a2:ah) (G:ak) (Q:ah->ak->Prop):Prop:=
 br G (.own a0) fun i1 G2=>br G2 (.own (dm)) fun i3 G4=>al P jt.n [a1] G4 fun v5 G6=>wv (aP v5 0) fun v7=>wv (aP v5 1) fun v8=>let J28:ah->ak->Prop:=(fun x14 G13=>brB (some x14)
 (wv (bj T ar []) fun v15=>wg (aF T G13 ar (.ptr i3 [] 0) v15) fun G16=>wv (ag T G16 ar (.ptr i3 [] 0)) fun v17=>Q (.tuple [v17,.int .i64 90]) G16)
 (al P gS.n [a1] G13 fun v18 G19=>wv (az T .shr aq v18 v7) fun v20=>al P gS.n [a2] G19 fun v21 G22=>wv (az T .shr aq v21 v7) fun v23=>wv (az T .neq aq v20 v23) fun v24=>brB (some v24)
 (wv (bj T ar []) fun v25=>wg (aF T G22 ar (.ptr i3 [] 0) v25) fun G26=>wv (ag T G26 ar (.ptr i3 [] 0)) fun v27=>Q (.tuple [v27,.int .i64 5]) G26)
 (wv (ag T G22 ar (.ptr i1 [] 0)) fun v29=>al P gS.n [a2] G22 fun v30 G31=>(ag T G31 ar (.ptr i1 [] 0)=some v29/\True)/\(al P j2.n [v29,v30,v7] G31 fun v32 G33=>wg (aF T G33 ar (.ptr i3 [] 0) v32) fun G34=>wv (ag T G34 ar (.ptr i3 [] 0)) fun v35=>Q (.tuple [v35,.int .i64 0]) G34))));
 wv (az T .neq bD v8 (.int .i64 0)) fun v9=>brB (some v9)
 (J28 (.bool true) G6)
 (al P iQ.n [a2] G6 fun v10 G11=>wv (vun .not v10) fun v12=>J28 v12 G11)
def ju.an:Ann:=.two .nil (.two .nil (.two (.two .nil (.two .nil (.two (.ord [(0,[]),(2,[]),(4,[]),(6,[]),(1,[]),(3,[]),(5,[]),(7,[]),(8,[]),(9,[])]) .nil))) (.two (.ord [(0,[]),(1,[]),(3,[]),(2,[0]),(4,[]),(5,[]),(6,[])]) .nil)))
theorem ju.sound {a0 a1 a2:ah}(h:ju.S a0 a1 a2 G Q):al P ju.n [a0,a1,a2] G Q:=by
 have e:ju.S a0 a1 a2 G Q=awp cx ju.body ju.an (bG T [.cell 6 23,.tmp 7] Q) (cC [a0,a1,a2]) G:=by kernel_rfl
 refine aD cF Tryz.func102 ?_ ?_ ?_ (aH ?_ ?_) (by simp[Tryz.f102]) (e.mp h)<;>kernel_rfl
def kC.S (a0 a1 a2:ah) (G:ak) (Q:ah->ak->Prop):Prop:=
 br G (.own a2) fun i1 G2=>wv (fU T G2 aV a0) fun v3=>wv (az T .gtr ay v3 (.int .i64 49)) fun v4=>brB (some v4)
 (Q (.tuple [.nilSlice,.int .i64 1]) G2)
 (al P jt.n [a1] G2 fun v5 G6=>wv (aP v5 0) fun v7=>wv (aP v5 1) fun v8=>wv (az T .neq bD v8 (.int .i64 0)) fun v9=>brB (some v9)
 (Q (.tuple [.nilSlice,.int .i64 90]) G6)
 (lg T aV (.int .i64 49) (.int .i64 49) G6 fun v10 G11=>wv (fU T G11 aV a0) fun v12=>∀ R13:List ah->ak->Prop,
 (∀ (x15 x16 x17 x18 x19 x20 x21:ah) (G14:ak),(wv (az T .lss ay x21 x20) fun v22=>brB (some v22)
 (wv (aO T aV x15 x21) fun v23=>wv (bt T cz v23 2) fun v24=>wv (ag T G14 du v24) fun v25=>wv (vun .not v25) fun v26=>brB (some v26)
 (wv (az T .add ay x21 (.int .i64 1)) fun v53=>R13 [x15,x16,x17,x18,x19,x20,v53] G14)
 (wv (aO T aV x15 x21) fun v27=>wv (ag T G14 cz v27) fun v28=>wv (aO T aV x19 x21) fun v29=>wg (aF T G14 cz v29 v28) fun G30=>wv (az T .geq ay x21 x18) fun v31=>brB (some v31)
 (wv (az T .add ay x21 (.int .i64 1)) fun v54=>R13 [x15,x16,x17,x18,x19,x20,v54] G30)
 (wv (ag T G30 ar x17) fun v32=>wv (aO T aV x15 x21) fun v33=>wv (bt T cz v33 0) fun v34=>wv (ag T G30 aq v34) fun v35=>al P ju.n [v32,x16,v35] G30 fun v36 G37=>wv (aP v36 0) fun v38=>wv (aP v36 1) fun v39=>br G37 (.own (dm)) fun i40 G41=>wg (aF T G41 ar (.ptr i40 [] 0) v38) fun G42=>wv (az T .neq bD v39 (.int .i64 0)) fun v43=>brB (some v43)
 (Q (.tuple [.nilSlice,.int .i64 100]) G42)
 (wv (ag T G42 ar (.ptr i40 [] 0)) fun v44=>wv (aO T aV x15 x21) fun v45=>wv (bt T cz v45 1) fun v46=>wv (ag T G42 ar v46) fun v47=>wv (az T .neq ar v44 v47) fun v48=>brB (some v48)
 (Q (.tuple [.nilSlice,.int .i64 100]) G42)
 (wv (az T .add ay x21 (.int .i64 1)) fun v55=>R13 [x15,x16,x17,x18,x19,x20,v55] G42)))))
 (wv (ag T G14 ar x17) fun v56=>wv (bj T cz [(0,x16),(1,v56),(2,.bool true)]) fun v57=>wv (aO T aV x19 x18) fun v58=>wg (aF T G14 cz v58 v57) fun G59=>Q (.tuple [x19,.int .i64 0]) G59))->R13 [x15,x16,x17,x18,x19,x20,x21] G14) ->
 R13 [a0,a1,.ptr i1 [] 0,v7,v10,v12,.int .i64 0] G11))
def kC.an:Ann:=.two .nil (.two .nil (.two .nil (.two .nil (.two .nil (.two (.two .nil (.loop [0,1,5,8,10,26,27] [false,false,false,false,false,false,false] (.two .nil (.two .nil (.two (.two .nil (.two .nil (.two .nil (.two .nil (.two (.ord [(0,[]),(1,[]),(2,[]),(3,[]),(4,[]),(5,[]),(6,[]),(7,[]),(8,[]),(9,[]),(10,[]),(11,[]),(12,[]),(13,[])]) (.two (.ord [(0,[]),(1,[]),(2,[]),(3,[]),(4,[]),(5,[]),(6,[]),(7,[]),(8,[]),(9,[]),(10,[])]) .nil)))))) .nil))))) .nil)))))
theorem kC.sound {a0 a1 a2:ah}(h:kC.S a0 a1 a2 G Q):al P kC.n [a0,a1,a2] G Q:=by
 have e:kC.S a0 a1 a2 G Q=awp cx kC.body kC.an (bG T [.tmp 6,.tmp 7] Q) (cC [a0,a1,a2]) G:=by kernel_rfl
 refine aD cF Tryz.func124 ?_ ?_ ?_ (aH ?_ ?_) (by simp[Tryz.f124]) (e.mp h)<;>kernel_rfl
def gL.S (a0 a1:ah) (G:ak) (Q:ah->ak->Prop):Prop:=
 br G (.own a0) fun i1 G2=>br G2 (.own a1) fun i3 G4=>br G4 (.own (dw)) fun i5 G6=>wv (ag T G6 aE (.ptr i1 [] 0)) fun v7=>al P gC.n [v7] G6 fun v8 G9=>brB (some v8)
 (wv (bj T ax []) fun v10=>wg (aF T G9 ax (.ptr i5 [] 0) v10) fun G11=>wv (ag T G11 ax (.ptr i5 [] 0)) fun v12=>Q (.tuple [v12,.int .i64 220]) G11)
 (wv (ag T G9 ay (.ptr i3 [0] 0)) fun v13=>wv (az T .neq ay v13 (.int .i64 5)) fun v14=>brB (some v14)
 (wv (bj T ax []) fun v15=>wg (aF T G9 ax (.ptr i5 [] 0) v15) fun G16=>wv (ag T G16 ax (.ptr i5 [] 0)) fun v17=>Q (.tuple [v17,.int .i64 160]) G16)
 (let J42:ah->ak->Prop:=(fun x29 G28=>brB (some x29)
 (wv (bj T ax []) fun v30=>wg (aF T G28 ax (.ptr i5 [] 0) v30) fun G31=>wv (ag T G31 ax (.ptr i5 [] 0)) fun v32=>Q (.tuple [v32,.int .i64 90]) G31)
 (wv (ag T G28 ar (.ptr i3 [6] 37)) fun v33=>wv (aO T cc (.ptr i1 [13] 16) (.int .i64 0)) fun v34=>wv (ag T G28 ar v34) fun v35=>al P iz.n [v33] G28 fun v36 G37=>(ag T G37 ar v34=some v35/\True)/\(wv (az T .neq ar v36 v35) fun v38=>brB (some v38)
 (wv (bj T ax []) fun v39=>wg (aF T G37 ax (.ptr i5 [] 0) v39) fun G40=>wv (ag T G40 ax (.ptr i5 [] 0)) fun v41=>Q (.tuple [v41,.int .i64 100]) G40)
 (wv (ag T G37 aV (.ptr i1 [15] 112)) fun v43=>wv (ag T G37 aq (.ptr i1 [8] 8)) fun v44=>wv (ag T G37 ar (.ptr i3 [6] 37)) fun v45=>al P kC.n [v43,v44,v45] G37 fun v46 G47=>wv (aP v46 0) fun v48=>wv (aP v46 1) fun v49=>wv (az T .neq bD v49 (.int .i64 0)) fun v50=>brB (some v50)
 (wv (bj T ax []) fun v51=>wg (aF T G47 ax (.ptr i5 [] 0) v51) fun G52=>wv (ag T G52 ax (.ptr i5 [] 0)) fun v53=>Q (.tuple [v53,.int .i64 100]) G52)
 (wv (ag T G47 aq (.ptr i1 [8] 8)) fun v54=>wv (ag T G47 ar (.ptr i3 [6] 37)) fun v55=>wv (ag T G47 ar (.ptr i3 [5] 5)) fun v56=>wv (bj T ax [(0,.int .i64 4),(3,v54),(6,v55),(7,v56)]) fun v57=>wg (aF T G47 ax (.ptr i5 [] 0) v57) fun G58=>wv (ag T G58 ax (.ptr i5 [] 0)) fun v59=>Q (.tuple [v59,.int .i64 0]) G58)))));
 wv (ag T G9 aq (.ptr i1 [7] 7)) fun v18=>wv (ag T G9 aq (.ptr i1 [8] 8)) fun v19=>wv (az T .eql aq v18 v19) fun v20=>brB (some v20)
 (J42 (.bool true) G9)
 (wv (ag T G9 aq (.ptr i1 [7] 7)) fun v21=>wv (az T .sub aq v21 (.int .i64 1)) fun v22=>wv (ag T G9 aq (.ptr i1 [8] 8)) fun v23=>wv (az T .neq aq v22 v23) fun v24=>brB (some v24)
 (J42 (.bool true) G9)
 (wv (ag T G9 aq (.ptr i3 [3] 3)) fun v25=>wv (ag T G9 aq (.ptr i1 [8] 8)) fun v26=>wv (az T .neq aq v25 v26) fun v27=>J42 v27 G9))))
def gL.an:Ann:=.two .nil (.two (.two .nil (.two .nil (.two .nil (.two .nil (.two .nil (.two .nil (.two (.ord [(0,[]),(1,[]),(3,[]),(4,[]),(5,[]),(2,[5]),(6,[]),(7,[])]) .nil))))))) .nil)
theorem gL.sound {a0 a1:ah}(h:gL.S a0 a1 G Q):al P gL.n [a0,a1] G Q:=by
 have e:gL.S a0 a1 G Q=awp cx gL.body gL.an (bG T [.cell 4 78,.tmp 5] Q) (cC [a0,a1]) G:=by kernel_rfl
 refine aD cF Tryz.func67 ?_ ?_ ?_ (aH ?_ ?_) (by simp[Tryz.f67]) (e.mp h)<;>kernel_rfl
def fy.S (G:ak) (Q:ah->ak->Prop):Prop:=
 wv (bj T db [(0,.int .i64 1000),(1,.int .i64 700)]) fun v1=>al P cQ.n [v1] G fun v2 G3=>wv (pz T cJ v2 (.int .i64 0)) fun v4=>br G3 (.own (rK)) fun i5 G6=>wg (aF T G6 bU (.ptr i5 [] 0) v4) fun G7=>wv (ag T G7 bU (.ptr i5 [] 0)) fun v8=>al P iv.n [v8] G7 fun v9 G10=>wv (aP v9 0) fun v11=>wv (aP v9 1) fun v12=>br G10 (.own (hO)) fun i13 G14=>wg (aF T G14 aE (.ptr i13 [] 0) v11) fun G15=>wv (bj T bU []) fun v16=>al P iv.n [v16] G15 fun v17 G18=>wv (aP v17 0) fun v19=>wv (aP v17 1) fun v20=>br G18 (.own (hO)) fun i21 G22=>wg (aF T G22 aE (.ptr i21 [] 0) v19) fun G23=>let J111:ah->ak->Prop:=(fun x41 G40=>brB (some x41)
 (Q (.bool false) G40)
 (wv (ag T G40 aE (.ptr i13 [] 0)) fun v42=>wv (bj T ar []) fun v43=>al P gM.n [v42,.int .i64 701,v43] G40 fun v44 G45=>wv (aP v44 0) fun v46=>wv (aP v44 1) fun v47=>br G45 (.own (dw)) fun i48 G49=>wg (aF T G49 ax (.ptr i48 [] 0) v46) fun G50=>wv (ag T G50 aE (.ptr i13 [] 0)) fun v51=>wv (bj T ar []) fun v52=>al P gM.n [v51,.int .i64 0,v52] G50 fun v53 G54=>wv (aP v53 0) fun v55=>wv (aP v53 1) fun v56=>br G54 (.own (dw)) fun i57 G58=>wg (aF T G58 ax (.ptr i57 [] 0) v55) fun G59=>wv (ag T G59 aE (.ptr i13 [] 0)) fun v60=>wv (bj T ar [(0,.int .u8 1)]) fun v61=>al P gM.n [v60,.int .i64 600,v61] G59 fun v62 G63=>wv (aP v62 0) fun v64=>wv (aP v62 1) fun v65=>br G63 (.own (dw)) fun i66 G67=>wg (aF T G67 ax (.ptr i66 [] 0) v64) fun G68=>wv (ag T G68 bU (.ptr i5 [] 0)) fun v69=>wv (ag T G68 aE (.ptr i13 [] 0)) fun v70=>al P jz.n [v69,v70] G68 fun v71 G72=>wv (aP v71 0) fun v73=>wv (aP v71 1) fun v74=>br G72 (.own (dw)) fun i75 G76=>wg (aF T G76 ax (.ptr i75 [] 0) v73) fun G77=>wv (ag T G77 bU (.ptr i5 [] 0)) fun v78=>wv (ag T G77 aE (.ptr i13 [] 0)) fun v79=>wv (bj T aW [(0,.int .i64 4),(3,.int .i64 2)]) fun v80=>al P jB.n [v78,v79,v80] G77 fun v81 G82=>wv (aP v81 0) fun v83=>wv (aP v81 1) fun v84=>br G82 (.own (dw)) fun i85 G86=>wg (aF T G86 ax (.ptr i85 [] 0) v83) fun G87=>wv (ag T G87 aE (.ptr i13 [] 0)) fun v88=>wv (bj T aW [(0,.int .i64 5)]) fun v89=>al P gL.n [v88,v89] G87 fun v90 G91=>wv (aP v90 0) fun v92=>wv (aP v90 1) fun v93=>br G91 (.own (dw)) fun i94 G95=>wg (aF T G95 ax (.ptr i94 [] 0) v92) fun G96=>wv (az T .eql bD v47 (.int .i64 130)) fun v97=>brB (some v97)
 (wv (az T .eql bD v56 (.int .i64 80)) fun v98=>brB (some v98)
 (wv (az T .eql bD v65 (.int .i64 0)) fun v99=>brB (some v99)
 (wv (ag T G96 ay (.ptr i66 [0] 0)) fun v100=>wv (az T .eql ay v100 (.int .i64 1)) fun v101=>brB (some v101)
 (wv (ag T G96 aG (.ptr i66 [1] 1)) fun v102=>wv (bj T ar [(0,.int .u8 1)]) fun v103=>wv (bj T aG [(0,.int .i64 1),(2,.int .i64 600),(3,v103)]) fun v104=>wv (az T .eql aG v102 v104) fun v105=>brB (some v105)
 (wv (az T .eql bD v74 (.int .i64 8)) fun v106=>brB (some v106)
 (wv (az T .eql bD v84 (.int .i64 90)) fun v107=>brB (some v107)
 (wv (az T .eql bD v93 (.int .i64 90)) fun v108=>Q v108 G96)
 (Q (.bool false) G96))
 (Q (.bool false) G96))
 (Q (.bool false) G96))
 (Q (.bool false) G96))
 (Q (.bool false) G96))
 (Q (.bool false) G96))
 (Q (.bool false) G96)));
 wv (az T .neq bD v12 (.int .i64 0)) fun v24=>brB (some v24)
 (J111 (.bool true) G23)
 (wv (az T .neq bD v20 (.int .i64 1)) fun v25=>brB (some v25)
 (J111 (.bool true) G23)
 (wv (ag T G23 aq (.ptr i13 [2] 2)) fun v26=>wv (az T .neq aq v26 (.int .i64 700)) fun v27=>brB (some v27)
 (J111 (.bool true) G23)
 (wv (ag T G23 aq (.ptr i13 [3] 3)) fun v28=>wv (az T .neq aq v28 (.int .i64 300)) fun v29=>brB (some v29)
 (J111 (.bool true) G23)
 (wv (ag T G23 aq (.ptr i13 [17] 114)) fun v30=>wv (az T .neq aq v30 (.int .i64 (-1))) fun v31=>brB (some v31)
 (J111 (.bool true) G23)
 (wv (ag T G23 aE (.ptr i13 [] 0)) fun v32=>al P eG.n [v32] G23 fun v33 G34=>wv (az T .neq aq v33 (.int .i64 700)) fun v35=>brB (some v35)
 (J111 (.bool true) G34)
 (wv (ag T G34 aE (.ptr i13 [] 0)) fun v36=>al P cR.n [v36] G34 fun v37 G38=>wv (az T .neq aq v37 (.int .i64 300)) fun v39=>J111 v39 G38))))))
def fy.an:Ann:=.nil
theorem fy.sound (h:fy.S G Q):al P fy.n [] G Q:=by
 have e:fy.S G Q=awp cx fy.body fy.an (bG T [.tmp 0] Q) (cC []) G:=by kernel_rfl
 refine aD cF Tryz.func23 ?_ ?_ ?_ (aH ?_ ?_) (by simp[Tryz.f23]) (e.mp h)<;>kernel_rfl
def bP.S (a0:ah) (G:ak) (Q:ah->ak->Prop):Prop:=
 br G (.own a0) fun i1 G2=>br G2 (.own (hO)) fun i3 G4=>wv (ag T G4 aj (.ptr i1 [4] 4)) fun v5=>cn T G4 aj aj (.nilSlice) v5 fun v6 G7=>wg (aF T G7 aj (.ptr i1 [4] 4) v6) fun G8=>wv (ag T G8 aj (.ptr i1 [5] 5)) fun v9=>cn T G8 aj aj (.nilSlice) v9 fun v10 G11=>wg (aF T G11 aj (.ptr i1 [5] 5) v10) fun G12=>wv (ag T G12 aV (.ptr i1 [15] 112)) fun v13=>cn T G12 aV aV (.nilSlice) v13 fun v14 G15=>wg (aF T G15 aV (.ptr i1 [15] 112) v14) fun G16=>wv (ag T G16 aE (.ptr i1 [] 0)) fun v17=>wg (aF T G16 aE (.ptr i3 [] 0) v17) fun G18=>wv (ag T G18 aE (.ptr i3 [] 0)) fun v19=>Q v19 G18
def bP.an:Ann:=.nil
theorem bP.sound {a0:ah}(h:bP.S a0 G Q):al P bP.n [a0] G Q:=by
 have e:bP.S a0 G Q=awp cx bP.body bP.an (bG T [.cell 2 38] Q) (cC [a0]) G:=by kernel_rfl
 refine aD cF Tryz.func12 ?_ ?_ ?_ (aH ?_ ?_) (by simp[Tryz.f12]) (e.mp h)<;>kernel_rfl
def df.S (a0 a1 a2:ah) (G:ak) (Q:ah->ak->Prop):Prop:=
 br G (.own a2) fun i1 G2=>br G2 (.own (jF)) fun i3 G4=>wv (lr a0) fun v5=>wv (bt T bz v5 2) fun v6=>wv (ag T G4 bR v6) fun v7=>wv (az T .eql ay a1 (.int .i64 1)) fun v8=>let J53:ah->ak->Prop:=(fun x13 G12=>wv (fU T G12 bR x13) fun v14=>wv (az T .eql ay v14 (.int .i64 0)) fun v15=>brB (some v15)
 (wv (bj T aW []) fun v16=>wg (aF T G12 aW (.ptr i3 [] 0) v16) fun G17=>wv (ag T G17 aW (.ptr i3 [] 0)) fun v18=>Q (.tuple [v18,.bool false]) G17)
 (wv (aO T bR x13 (.int .i64 0)) fun v19=>wv (ag T G12 aW v19) fun v20=>br G12 (.own (jF)) fun i21 G22=>wg (aF T G22 aW (.ptr i21 [] 0) v20) fun G23=>wv (az T .eql ay a1 (.int .i64 1)) fun v24=>let J52:ak->Prop:=(fun G33=>wv (ag T G33 aq (.ptr i21 [3] 3)) fun v34=>wv (ag T G33 aq (.ptr i1 [6] 37)) fun v35=>wv (az T .add aq v34 v35) fun v36=>wg (aF T G33 aq (.ptr i21 [3] 3) v36) fun G37=>wv (ag T G37 bH (.ptr i1 [5] 36)) fun v38=>wv (az T .eql bH v38 (.str [98,101,110,100])) fun v39=>brB (some v39)
 (wv (ag T G37 ar (.ptr i1 [4] 4)) fun v40=>wg (aF T G37 ar (.ptr i21 [5] 5) v40) fun G41=>wv (ag T G41 aW (.ptr i21 [] 0)) fun v46=>wg (aF T G41 aW (.ptr i3 [] 0) v46) fun G47=>wv (ag T G47 aW (.ptr i3 [] 0)) fun v48=>Q (.tuple [v48,.bool true]) G47)
 (wv (ag T G37 aW (.ptr i21 [] 0)) fun v49=>wg (aF T G37 aW (.ptr i3 [] 0) v49) fun G50=>wv (ag T G50 aW (.ptr i3 [] 0)) fun v51=>Q (.tuple [v51,.bool true]) G50));
 brB (some v24)
 (wv (dV T bR x13 (some (.int .i64 1)) none none) fun v25=>wv (lr a0) fun v26=>wv (bt T bz v26 3) fun v27=>wg (aF T G23 bR v27 v25) fun G28=>J52 G28)
 (wv (dV T bR x13 (some (.int .i64 1)) none none) fun v29=>wv (lr a0) fun v30=>wv (bt T bz v30 2) fun v31=>wg (aF T G23 bR v31 v29) fun G32=>J52 G32)));
 brB (some v8)
 (wv (lr a0) fun v9=>wv (bt T bz v9 3) fun v10=>wv (ag T G4 bR v10) fun v11=>J53 v11 G4)
 (J53 v7 G4)
def df.an:Ann:=.nil
theorem df.sound {a0 a1 a2:ah}(h:df.S a0 a1 a2 G Q):al P df.n [a0,a1,a2] G Q:=by
 have e:df.S a0 a1 a2 G Q=awp cx df.body df.an (bG T [.cell 6 48,.tmp 7] Q) (cC [a0,a1,a2]) G:=by kernel_rfl
 refine aD cF Tryz.func24 ?_ ?_ ?_ (aH ?_ ?_) (by simp[Tryz.f24]) (e.mp h)<;>kernel_rfl
def ij.S (a0 a1 a2:ah) (G:ak) (Q:ah->ak->Prop):Prop:=
 br G (.own (dv)) fun i1 G2=>wv (fU T G2 aj a0) fun v3=>∀ R4:List ah->ak->Prop,
 (∀ (x6 x7 x8 x9 x10 x11:ah) (G5:ak),(wv (az T .lss ay x11 x10) fun v12=>brB (some v12)
 (wv (aO T aj x9 x11) fun v13=>wv (ag T G5 aG v13) fun v14=>br G5 (.own (dv)) fun i15 G16=>wg (aF T G16 aG (.ptr i15 [] 0) v14) fun G17=>let J36:ah->ak->Prop:=(fun x32 G31=>brB (some x32)
 (wv (ag T G31 aG (.ptr i15 [] 0)) fun v33=>wg (aF T G31 aG x8 v33) fun G34=>wv (ag T G34 aG x8) fun v35=>Q (.tuple [v35,.bool true]) G34)
 (wv (az T .add ay x11 (.int .i64 1)) fun v37=>R4 [x6,x7,x8,x9,x10,v37] G31));
 wv (ag T G17 aq (.ptr i15 [1] 1)) fun v18=>wv (az T .eql aq v18 x6) fun v19=>brB (some v19)
 (wv (vun .not x7) fun v20=>brB (some v20)
 (wv (ag T G17 ay (.ptr i15 [0] 0)) fun v21=>wv (az T .eql ay v21 (.int .i64 1)) fun v22=>brB (some v22)
 (J36 (.bool true) G17)
 (brB (some x7)
 (wv (ag T G17 ay (.ptr i15 [0] 0)) fun v23=>wv (az T .eql ay v23 (.int .i64 2)) fun v24=>brB (some v24)
 (J36 (.bool true) G17)
 (wv (ag T G17 ay (.ptr i15 [0] 0)) fun v25=>wv (az T .eql ay v25 (.int .i64 3)) fun v26=>J36 v26 G17))
 (J36 (.bool false) G17)))
 (brB (some x7)
 (wv (ag T G17 ay (.ptr i15 [0] 0)) fun v27=>wv (az T .eql ay v27 (.int .i64 2)) fun v28=>brB (some v28)
 (J36 (.bool true) G17)
 (wv (ag T G17 ay (.ptr i15 [0] 0)) fun v29=>wv (az T .eql ay v29 (.int .i64 3)) fun v30=>J36 v30 G17))
 (J36 (.bool false) G17)))
 (J36 (.bool false) G17))
 (wv (bj T aG []) fun v38=>wg (aF T G5 aG x8 v38) fun G39=>wv (ag T G39 aG x8) fun v40=>Q (.tuple [v40,.bool false]) G39))->R4 [x6,x7,x8,x9,x10,x11] G5) ->
 R4 [a1,a2,.ptr i1 [] 0,a0,v3,.int .i64 0] G2
def ij.an:Ann:=.two .nil (.two (.two .nil (.loop [1,2,6,10,11,12] [false,false,false,false,false,false] .nil)) .nil)
theorem ij.sound {a0 a1 a2:ah}(h:ij.S a0 a1 a2 G Q):al P ij.n [a0,a1,a2] G Q:=by
 have e:ij.S a0 a1 a2 G Q=awp cx ij.body ij.an (bG T [.cell 6 76,.tmp 7] Q) (cC [a0,a1,a2]) G:=by kernel_rfl
 refine aD cF Tryz.func183 ?_ ?_ ?_ (aH ?_ ?_) (by simp[Tryz.f183]) (e.mp h)<;>kernel_rfl
def ik.S (a0 a1:ah) (G:ak) (Q:ah->ak->Prop):Prop:=
 br G (.own (dv)) fun i1 G2=>al P ij.n [a0,a1,.bool false] G2 fun v3 G4=>wv (aP v3 0) fun v5=>wv (aP v3 1) fun v6=>wg (aF T G4 aG (.ptr i1 [] 0) v5) fun G7=>wv (ag T G7 aG (.ptr i1 [] 0)) fun v8=>Q (.tuple [v8,v6]) G7
def ik.an:Ann:=.nil
theorem ik.sound {a0 a1:ah}(h:ik.S a0 a1 G Q):al P ik.n [a0,a1] G Q:=by
 have e:ik.S a0 a1 G Q=awp cx ik.body ik.an (bG T [.cell 4 76,.tmp 5] Q) (cC [a0,a1]) G:=by kernel_rfl
 refine aD cF Tryz.func126 ?_ ?_ ?_ (aH ?_ ?_) (by simp[Tryz.f126]) (e.mp h)<;>kernel_rfl
def j6.S (a0:ah) (G:ak) (Q:ah->ak->Prop):Prop:=
 br G (.own a0) fun i1 G2=>br G2 (.own (dm)) fun i3 G4=>wv (dV T ar (.ptr i1 [] 0) none none none) fun v5=>wv (gv T G4 aR bH v5) fun v6=>bu T iE 1 [(0,v6)] G4 fun v7 G8=>al P jh.n [v7] G8 fun v9 G10=>wg (aF T G10 ar (.ptr i3 [] 0) v9) fun G11=>wv (ag T G11 ar (.ptr i3 [] 0)) fun v12=>Q v12 G11
def j6.an:Ann:=.nil
theorem j6.sound {a0:ah}(h:j6.S a0 G Q):al P j6.n [a0] G Q:=by
 have e:j6.S a0 G Q=awp cx j6.body j6.an (bG T [.cell 2 23] Q) (cC [a0]) G:=by kernel_rfl
 refine aD cF Tryz.func127 ?_ ?_ ?_ (aH ?_ ?_) (by simp[Tryz.f127]) (e.mp h)<;>kernel_rfl
def gn.S (a0 a1:ah) (G:ak) (Q:ah->ak->Prop):Prop:=
 br G (.own (dv)) fun i1 G2=>al P ij.n [a0,a1,.bool true] G2 fun v3 G4=>wv (aP v3 0) fun v5=>wv (aP v3 1) fun v6=>wg (aF T G4 aG (.ptr i1 [] 0) v5) fun G7=>wv (ag T G7 aG (.ptr i1 [] 0)) fun v8=>Q (.tuple [v8,v6]) G7
def gn.an:Ann:=.nil
theorem gn.sound {a0 a1:ah}(h:gn.S a0 a1 G Q):al P gn.n [a0,a1] G Q:=by
 have e:gn.S a0 a1 G Q=awp cx gn.body gn.an (bG T [.cell 4 76,.tmp 5] Q) (cC [a0,a1]) G:=by kernel_rfl
 refine aD cF Tryz.func145 ?_ ?_ ?_ (aH ?_ ?_) (by simp[Tryz.f145]) (e.mp h)<;>kernel_rfl
def gJ.S (a0 a1:ah) (G:ak) (Q:ah->ak->Prop):Prop:=
 br G (.own a0) fun i1 G2=>br G2 (.own a1) fun i3 G4=>br G4 (.own (dw)) fun i5 G6=>wv (ag T G6 aE (.ptr i1 [] 0)) fun v7=>al P gC.n [v7] G6 fun v8 G9=>brB (some v8)
 (wv (bj T ax []) fun v10=>wg (aF T G9 ax (.ptr i5 [] 0) v10) fun G11=>wv (ag T G11 ax (.ptr i5 [] 0)) fun v12=>Q (.tuple [v12,.int .i64 220]) G11)
 (wv (ag T G9 aj (.ptr i1 [5] 5)) fun v13=>wv (ag T G9 aE (.ptr i1 [] 0)) fun v14=>wv (ag T G9 aq (.ptr i3 [1] 1)) fun v15=>al P fQ.n [v14] G9 fun v16 G17=>(ag T G17 aq (.ptr i3 [1] 1)=some v15/\ag T G17 aj (.ptr i1 [5] 5)=some v13/\True)/\(wv (uV T aU v16 1) fun v18=>al P gK.n [v13,v18] G17 fun v19 G20=>(ag T G20 aq (.ptr i3 [1] 1)=some v15/\True)/\(al P ik.n [v19,v15] G20 fun v21 G22=>wv (aP v21 0) fun v23=>wv (aP v21 1) fun v24=>br G22 (.own (dv)) fun i25 G26=>wg (aF T G26 aG (.ptr i25 [] 0) v23) fun G27=>wv (ag T G27 aj (.ptr i1 [4] 4)) fun v28=>wv (ag T G27 aq (.ptr i3 [1] 1)) fun v29=>al P gn.n [v28,v29] G27 fun v30 G31=>wv (aP v30 0) fun v32=>wv (aP v30 1) fun v33=>br G31 (.own (dv)) fun i34 G35=>wg (aF T G35 aG (.ptr i34 [] 0) v32) fun G36=>let J67:ah->ak->Prop:=(fun x52 G51=>brB (some x52)
 (wv (bj T ax []) fun v53=>wg (aF T G51 ax (.ptr i5 [] 0) v53) fun G54=>wv (ag T G54 ax (.ptr i5 [] 0)) fun v55=>Q (.tuple [v55,.int .i64 120]) G54)
 (wv (ag T G51 aE (.ptr i1 [] 0)) fun v56=>al P jy.n [v56] G51 fun v57 G58=>brB (some v57)
 (wv (bj T ax []) fun v59=>wg (aF T G58 ax (.ptr i5 [] 0) v59) fun G60=>wv (ag T G60 ax (.ptr i5 [] 0)) fun v61=>Q (.tuple [v61,.int .i64 6]) G60)
 (wv (ag T G58 aG (.ptr i3 [] 0)) fun v62=>al P jx.n [v62] G58 fun v63 G64=>wg (aF T G64 ax (.ptr i5 [] 0) v63) fun G65=>wv (ag T G65 ax (.ptr i5 [] 0)) fun v66=>Q (.tuple [v66,.int .i64 0]) G65)));
 wv (vun .not v24) fun v37=>brB (some v37)
 (J67 (.bool true) G36)
 (brB (some v33)
 (J67 (.bool true) G36)
 (wv (ag T G36 ay (.ptr i3 [0] 0)) fun v38=>wv (az T .eql ay v38 (.int .i64 2)) fun v39=>brB (some v39)
 (wv (ag T G36 ar (.ptr i3 [3] 3)) fun v40=>wv (ag T G36 ar (.ptr i25 [3] 3)) fun v41=>al P j6.n [v40] G36 fun v42 G43=>(ag T G43 ar (.ptr i25 [3] 3)=some v41/\True)/\(wv (az T .neq ar v42 v41) fun v44=>brB (some v44)
 (J67 (.bool true) G43)
 (wv (ag T G43 bH (.ptr i3 [4] 35)) fun v45=>wv (fU T G43 bH v45) fun v46=>wv (az T .gtr ay v46 (.int .i64 64)) fun v47=>J67 v47 G43)))
 (wv (ag T G36 bH (.ptr i3 [4] 35)) fun v48=>wv (fU T G36 bH v48) fun v49=>wv (az T .gtr ay v49 (.int .i64 64)) fun v50=>J67 v50 G36))))))
def gJ.an:Ann:=.two .nil (.two .nil (.two (.ord [(0,[]),(1,[]),(2,[]),(6,[]),(7,[]),(3,[1,7]),(4,[]),(5,[7]),(8,[]),(9,[]),(10,[]),(11,[]),(12,[]),(13,[]),(14,[])]) (.two .nil (.two (.two (.ord [(0,[]),(1,[]),(2,[]),(3,[]),(4,[]),(5,[]),(6,[]),(7,[]),(8,[]),(9,[]),(10,[]),(11,[]),(13,[]),(14,[]),(12,[14]),(15,[]),(16,[]),(17,[]),(18,[]),(19,[]),(20,[]),(21,[]),(22,[]),(23,[])]) .nil) .nil))))
theorem gJ.sound {a0 a1:ah}(h:gJ.S a0 a1 G Q):al P gJ.n [a0,a1] G Q:=by
 have e:gJ.S a0 a1 G Q=awp cx gJ.body gJ.an (bG T [.cell 4 78,.tmp 5] Q) (cC [a0,a1]) G:=by kernel_rfl
 refine aD cF Tryz.func82 ?_ ?_ ?_ (aH ?_ ?_) (by simp[Tryz.f82]) (e.mp h)<;>kernel_rfl
def iT.S (a0 a1 a2:ah) (G:ak) (Q:ah->ak->Prop):Prop:=
 br G (.own a0) fun i1 G2=>br G2 (.own a2) fun i3 G4=>br G4 (.own (dw)) fun i5 G6=>wv (ag T G6 aE (.ptr i1 [] 0)) fun v7=>wv (ag T G6 ar (.ptr i3 [] 0)) fun v8=>wv (bj T aG [(0,.int .i64 2),(1,a1),(3,v8)]) fun v9=>al P gJ.n [v7,v9] G6 fun v10 G11=>wv (aP v10 0) fun v12=>wv (aP v10 1) fun v13=>wg (aF T G11 ax (.ptr i5 [] 0) v12) fun G14=>wv (ag T G14 ax (.ptr i5 [] 0)) fun v15=>Q (.tuple [v15,v13]) G14
def iT.an:Ann:=.nil
theorem iT.sound {a0 a1 a2:ah}(h:iT.S a0 a1 a2 G Q):al P iT.n [a0,a1,a2] G Q:=by
 have e:iT.S a0 a1 a2 G Q=awp cx iT.body iT.an (bG T [.cell 6 78,.tmp 7] Q) (cC [a0,a1,a2]) G:=by kernel_rfl
 refine aD cF Tryz.func32 ?_ ?_ ?_ (aH ?_ ?_) (by simp[Tryz.f32]) (e.mp h)<;>kernel_rfl
def iV.S (a0 a1 a2:ah) (G:ak) (Q:ah->ak->Prop):Prop:=
 br G (.own a0) fun i1 G2=>br G2 (.own (dw)) fun i3 G4=>wv (ag T G4 aE (.ptr i1 [] 0)) fun v5=>wv (bj T aG [(0,.int .i64 3),(1,a1),(4,a2)]) fun v6=>al P gJ.n [v5,v6] G4 fun v7 G8=>wv (aP v7 0) fun v9=>wv (aP v7 1) fun v10=>wg (aF T G8 ax (.ptr i3 [] 0) v9) fun G11=>wv (ag T G11 ax (.ptr i3 [] 0)) fun v12=>Q (.tuple [v12,v10]) G11
def iV.an:Ann:=.nil
theorem iV.sound {a0 a1 a2:ah}(h:iV.S a0 a1 a2 G Q):al P iV.n [a0,a1,a2] G Q:=by
 have e:iV.S a0 a1 a2 G Q=awp cx iV.body iV.an (bG T [.cell 6 78,.tmp 7] Q) (cC [a0,a1,a2]) G:=by kernel_rfl
 refine aD cF Tryz.func34 ?_ ?_ ?_ (aH ?_ ?_) (by simp[Tryz.f34]) (e.mp h)<;>kernel_rfl
def bV.S (a0 a1:ah) (G:ak) (Q:ah->ak->Prop):Prop:=
 wv (fU T G aj a0) fun v1=>wv (fU T G aj a1) fun v2=>wv (az T .neq ay v1 v2) fun v3=>brB (some v3)
 (Q (.bool false) G)
 (∀ R4:List ah->ak->Prop,
 (∀ (x6 x7 x8:ah) (G5:ak),(wv (fU T G5 aj x6) fun v9=>wv (az T .lss ay x8 v9) fun v10=>brB (some v10)
 (wv (aO T aj x6 x8) fun v11=>wv (ag T G5 aG v11) fun v12=>wv (aO T aj x7 x8) fun v13=>wv (ag T G5 aG v13) fun v14=>wv (az T .neq aG v12 v14) fun v15=>brB (some v15)
 (Q (.bool false) G5)
 (wv (az T .add ay x8 (.int .i64 1)) fun v16=>R4 [x6,x7,v16] G5))
 (Q (.bool true) G5))->R4 [x6,x7,x8] G5) ->
 R4 [a0,a1,.int .i64 0] G)
def bV.an:Ann:=.two .nil (.two .nil (.two (.two .nil (.loop [0,1,5] [false,false,false] (.two .nil (.two (.two (.ord [(0,[]),(1,[]),(2,[]),(3,[]),(4,[]),(5,[]),(6,[]),(7,[]),(8,[])]) .nil) .nil)))) .nil))
theorem bV.sound {a0 a1:ah}(h:bV.S a0 a1 G Q):al P bV.n [a0,a1] G Q:=by
 have e:bV.S a0 a1 G Q=awp cx bV.body bV.an (bG T [.tmp 4] Q) (cC [a0,a1]) G:=by kernel_rfl
 refine aD cF Tryz.func45 ?_ ?_ ?_ (aH ?_ ?_) (by simp[Tryz.f45]) (e.mp h)<;>kernel_rfl
def cP.S (a0 a1:ah) (G:ak) (Q:ah->ak->Prop):Prop:=
 br G (.own a0) fun i1 G2=>br G2 (.own a1) fun i3 G4=>wv (ag T G4 aV (.ptr i1 [15] 112)) fun v5=>wv (fU T G4 aV v5) fun v6=>wv (ag T G4 aV (.ptr i3 [15] 112)) fun v7=>wv (fU T G4 aV v7) fun v8=>wv (az T .neq ay v6 v8) fun v9=>brB (some v9)
 (Q (.bool false) G4)
 (∀ R10:List ah->ak->Prop,
 (∀ (x12 x13 x14:ah) (G11:ak),(wv (bt T aE x12 15) fun v15=>wv (ag T G11 aV v15) fun v16=>wv (fU T G11 aV v16) fun v17=>wv (az T .lss ay x14 v17) fun v18=>brB (some v18)
 (wv (bt T aE x12 15) fun v19=>wv (ag T G11 aV v19) fun v20=>wv (aO T aV v20 x14) fun v21=>wv (ag T G11 cz v21) fun v22=>wv (bt T aE x13 15) fun v23=>wv (ag T G11 aV v23) fun v24=>wv (aO T aV v24 x14) fun v25=>wv (ag T G11 cz v25) fun v26=>wv (az T .neq cz v22 v26) fun v27=>brB (some v27)
 (Q (.bool false) G11)
 (wv (az T .add ay x14 (.int .i64 1)) fun v28=>R10 [x12,x13,v28] G11))
 (wv (bt T aE x12 0) fun v29=>wv (ag T G11 ay v29) fun v30=>wv (bt T aE x13 0) fun v31=>wv (ag T G11 ay v31) fun v32=>wv (az T .eql ay v30 v32) fun v33=>brB (some v33)
 (wv (bt T aE x12 1) fun v34=>wv (ag T G11 aq v34) fun v35=>wv (bt T aE x13 1) fun v36=>wv (ag T G11 aq v36) fun v37=>wv (az T .eql aq v35 v37) fun v38=>brB (some v38)
 (wv (bt T aE x12 2) fun v39=>wv (ag T G11 aq v39) fun v40=>wv (bt T aE x13 2) fun v41=>wv (ag T G11 aq v41) fun v42=>wv (az T .eql aq v40 v42) fun v43=>brB (some v43)
 (wv (bt T aE x12 3) fun v44=>wv (ag T G11 aq v44) fun v45=>wv (bt T aE x13 3) fun v46=>wv (ag T G11 aq v46) fun v47=>wv (az T .eql aq v45 v47) fun v48=>brB (some v48)
 (wv (bt T aE x12 4) fun v49=>wv (ag T G11 aj v49) fun v50=>wv (bt T aE x13 4) fun v51=>wv (ag T G11 aj v51) fun v52=>al P bV.n [v50,v52] G11 fun v53 G54=>brB (some v53)
 (wv (bt T aE x12 5) fun v55=>wv (ag T G54 aj v55) fun v56=>wv (bt T aE x13 5) fun v57=>wv (ag T G54 aj v57) fun v58=>al P bV.n [v56,v58] G54 fun v59 G60=>brB (some v59)
 (wv (bt T aE x12 6) fun v61=>wv (ag T G60 aq v61) fun v62=>wv (bt T aE x13 6) fun v63=>wv (ag T G60 aq v63) fun v64=>wv (az T .eql aq v62 v64) fun v65=>brB (some v65)
 (wv (bt T aE x12 7) fun v66=>wv (ag T G60 aq v66) fun v67=>wv (bt T aE x13 7) fun v68=>wv (ag T G60 aq v68) fun v69=>wv (az T .eql aq v67 v69) fun v70=>brB (some v70)
 (wv (bt T aE x12 8) fun v71=>wv (ag T G60 aq v71) fun v72=>wv (bt T aE x13 8) fun v73=>wv (ag T G60 aq v73) fun v74=>wv (az T .eql aq v72 v74) fun v75=>brB (some v75)
 (wv (bt T aE x12 9) fun v76=>wv (ag T G60 aU v76) fun v77=>wv (bt T aE x13 9) fun v78=>wv (ag T G60 aU v78) fun v79=>wv (az T .eql aU v77 v79) fun v80=>brB (some v80)
 (wv (bt T aE x12 10) fun v81=>wv (ag T G60 aU v81) fun v82=>wv (bt T aE x13 10) fun v83=>wv (ag T G60 aU v83) fun v84=>wv (az T .eql aU v82 v84) fun v85=>brB (some v85)
 (wv (bt T aE x12 11) fun v86=>wv (ag T G60 aU v86) fun v87=>wv (bt T aE x13 11) fun v88=>wv (ag T G60 aU v88) fun v89=>wv (az T .eql aU v87 v89) fun v90=>brB (some v90)
 (wv (bt T aE x12 12) fun v91=>wv (ag T G60 du v91) fun v92=>wv (bt T aE x13 12) fun v93=>wv (ag T G60 du v93) fun v94=>wv (az T .eql du v92 v94) fun v95=>brB (some v95)
 (wv (bt T aE x12 13) fun v96=>wv (ag T G60 cc v96) fun v97=>wv (bt T aE x13 13) fun v98=>wv (ag T G60 cc v98) fun v99=>wv (az T .eql cc v97 v99) fun v100=>brB (some v100)
 (wv (bt T aE x12 14) fun v101=>wv (ag T G60 ar v101) fun v102=>wv (bt T aE x13 14) fun v103=>wv (ag T G60 ar v103) fun v104=>wv (az T .eql ar v102 v104) fun v105=>brB (some v105)
 (wv (bt T aE x12 16) fun v106=>wv (ag T G60 ay v106) fun v107=>wv (bt T aE x13 16) fun v108=>wv (ag T G60 ay v108) fun v109=>wv (az T .eql ay v107 v109) fun v110=>brB (some v110)
 (wv (bt T aE x12 17) fun v111=>wv (ag T G60 aq v111) fun v112=>wv (bt T aE x13 17) fun v113=>wv (ag T G60 aq v113) fun v114=>wv (az T .eql aq v112 v114) fun v115=>Q v115 G60)
 (Q (.bool false) G60))
 (Q (.bool false) G60))
 (Q (.bool false) G60))
 (Q (.bool false) G60))
 (Q (.bool false) G60))
 (Q (.bool false) G60))
 (Q (.bool false) G60))
 (Q (.bool false) G60))
 (Q (.bool false) G60))
 (Q (.bool false) G60))
 (Q (.bool false) G60))
 (Q (.bool false) G54))
 (Q (.bool false) G11))
 (Q (.bool false) G11))
 (Q (.bool false) G11))
 (Q (.bool false) G11)))->R10 [x12,x13,x14] G11) ->
 R10 [.ptr i1 [] 0,.ptr i3 [] 0,.int .i64 0] G4)
def cP.an:Ann:=.two .nil (.two .nil (.two (.two .nil (.loop [2,3,5] [false,false,false] (.two .nil (.two (.two (.ord [(0,[]),(1,[]),(2,[]),(3,[]),(4,[]),(5,[]),(6,[]),(7,[]),(8,[]),(9,[]),(10,[])]) .nil) .nil)))) .nil))
theorem cP.sound {a0 a1:ah}(h:cP.S a0 a1 G Q):al P cP.n [a0,a1] G Q:=by
 have e:cP.S a0 a1 G Q=awp cx cP.body cP.an (bG T [.tmp 4] Q) (cC [a0,a1]) G:=by kernel_rfl
 refine aD cF Tryz.func15 ?_ ?_ ?_ (aH ?_ ?_) (by simp[Tryz.f15]) (e.mp h)<;>kernel_rfl
def bQ.S (a0 a1:ah) (G:ak) (Q:ah->ak->Prop):Prop:=
 wv (az T .lss ay a1 (.int .i64 0)) fun v1=>brB (some v1)
 (wv (fU T G aj a0) fun v12=>wv (az T .gtr ay (.int .i64 0) v12) fun v13=>brB (some v13)
 (wv (fU T G aj a0) fun v14=>wv (dV T aj a0 none (some (v14)) none) fun v18=>Q v18 G)
 (wv (dV T aj a0 none (some (.int .i64 0)) none) fun v19=>Q v19 G))
 (wv (fU T G aj a0) fun v20=>wv (az T .gtr ay a1 v20) fun v21=>brB (some v21)
 (wv (fU T G aj a0) fun v22=>wv (dV T aj a0 none (some (v22)) none) fun v26=>Q v26 G)
 (wv (dV T aj a0 none (some (a1)) none) fun v27=>Q v27 G))
def bQ.an:Ann:=.nil
theorem bQ.sound {a0 a1:ah}(h:bQ.S a0 a1 G Q):al P bQ.n [a0,a1] G Q:=by
 have e:bQ.S a0 a1 G Q=awp cx bQ.body bQ.an (bG T [.tmp 4] Q) (cC [a0,a1]) G:=by kernel_rfl
 refine aD cF Tryz.func110 ?_ ?_ ?_ (aH ?_ ?_) (by simp[Tryz.f110]) (e.mp h)<;>kernel_rfl
def fL.S (a0:ah) (G:ak) (Q:ah->ak->Prop):Prop:=
 br G (.own a0) fun i1 G2=>br G2 (.own (hO)) fun i3 G4=>wv (ag T G4 aj (.ptr i1 [4] 4)) fun v5=>cn T G4 aj aj (.nilSlice) v5 fun v6 G7=>wg (aF T G7 aj (.ptr i1 [4] 4) v6) fun G8=>wv (ag T G8 aj (.ptr i1 [5] 5)) fun v9=>wv (ag T G8 ay (.ptr i1 [9,1] 10)) fun v10=>al P bQ.n [v9,v10] G8 fun v11 G12=>cn T G12 aj aj (.nilSlice) v11 fun v13 G14=>wg (aF T G14 aj (.ptr i1 [5] 5) v13) fun G15=>wv (ag T G15 aV (.ptr i1 [15] 112)) fun v16=>cn T G15 aV aV (.nilSlice) v16 fun v17 G18=>wg (aF T G18 aV (.ptr i1 [15] 112) v17) fun G19=>wv (ag T G19 aE (.ptr i1 [] 0)) fun v20=>wg (aF T G19 aE (.ptr i3 [] 0) v20) fun G21=>wv (ag T G21 aE (.ptr i3 [] 0)) fun v22=>Q v22 G21
def fL.an:Ann:=.nil
theorem fL.sound {a0:ah}(h:fL.S a0 G Q):al P fL.n [a0] G Q:=by
 have e:fL.S a0 G Q=awp cx fL.body fL.an (bG T [.cell 2 38] Q) (cC [a0]) G:=by kernel_rfl
 refine aD cF Tryz.func51 ?_ ?_ ?_ (aH ?_ ?_) (by simp[Tryz.f51]) (e.mp h)<;>kernel_rfl
end Go.Esc.M
