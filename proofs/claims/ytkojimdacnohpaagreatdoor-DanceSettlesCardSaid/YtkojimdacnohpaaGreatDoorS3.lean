import Derived.Test.YtkojimdacnohpaaGreatDoorT
set_option linter.unusedSimpArgs false
set_option linter.unusedVariables false
set_option maxRecDepth 100000
namespace Go.Esc.M
open Go Go.Esc Go.Proofs
variable {G:ak}{Q:ah->ak->Prop}
def l9.S (a0 a1:ah) (G:ak) (Q:ah->ak->Prop):Prop:=
 br G (.own a0) fun i1 G2=>br G2 (.own (dm)) fun i3 G4=>wv (ag T G4 ar (.ptr i1 [] 0)) fun v5=>al P j5.n [v5,.int .u8 54] G4 fun v6 G7=>bu T iE 2 [(0,v6),(1,a1)] G7 fun v8 G9=>al P jh.n [v8] G9 fun v10 G11=>br G11 (.own (dm)) fun i12 G13=>wg (aF T G13 ar (.ptr i12 [] 0) v10) fun G14=>wv (ag T G14 ar (.ptr i1 [] 0)) fun v15=>wv (dV T ar (.ptr i12 [] 0) none none none) fun v16=>wv (gv T G14 aR bH v16) fun v17=>al P j5.n [v15,.int .u8 92] G14 fun v18 G19=>(gv T G19 aR bH v16=some v17/\True)/\(bu T iE 2 [(0,v18),(1,v17)] G19 fun v20 G21=>al P jh.n [v20] G21 fun v22 G23=>wg (aF T G23 ar (.ptr i3 [] 0) v22) fun G24=>wv (ag T G24 ar (.ptr i3 [] 0)) fun v25=>Q v25 G24)
def l9.an:Ann:=.two .nil (.two .nil (.two (.ord [(0,[]),(2,[]),(3,[]),(1,[3]),(4,[]),(5,[]),(6,[])]) .nil))
theorem l9.sound {a0 a1:ah}(h:l9.S a0 a1 G Q):al P l9.n [a0,a1] G Q:=by
 have e:l9.S a0 a1 G Q=awp cx l9.body l9.an (bG T [.cell 4 23] Q) (cC [a0,a1]) G:=by kernel_rfl
 refine aD cF Tryz.func177 ?_ ?_ ?_ (aH ?_ ?_) (by simp[Tryz.f177]) (e.mp h)<;>kernel_rfl
def j3.S (a0 a1:ah) (G:ak) (Q:ah->ak->Prop):Prop:=
 br G (.own a0) fun i1 G2=>br G2 (.own (dm)) fun i3 G4=>wv (ag T G4 ar (.ptr i1 [] 0)) fun v5=>al P l9.n [v5,a1] G4 fun v6 G7=>wg (aF T G7 ar (.ptr i3 [] 0) v6) fun G8=>wv (ag T G8 ar (.ptr i3 [] 0)) fun v9=>Q v9 G8
def j3.an:Ann:=.nil
theorem j3.sound {a0 a1:ah}(h:j3.S a0 a1 G Q):al P j3.n [a0,a1] G Q:=by
 have e:j3.S a0 a1 G Q=awp cx j3.body j3.an (bG T [.cell 4 23] Q) (cC [a0,a1]) G:=by kernel_rfl
 refine aD cF Tryz.func117 ?_ ?_ ?_ (aH ?_ ?_) (by simp[Tryz.f117]) (e.mp h)<;>kernel_rfl
def jT.S (a0 a1 a2:ah) (G:ak) (Q:ah->ak->Prop):Prop:=
 br G (.own a0) fun i1 G2=>br G2 (.own a2) fun i3 G4=>wv (ag T G4 ar (.ptr i1 [] 0)) fun v5=>wv (ag T G4 ar (.ptr i3 [] 0)) fun v6=>al P j3.n [v5,a1] G4 fun v7 G8=>(ag T G8 ar (.ptr i3 [] 0)=some v6/\True)/\(wv (az T .eql ar v7 v6) fun v9=>Q v9 G8)
def jT.an:Ann:=.two .nil (.two (.ord [(0,[]),(1,[]),(3,[]),(2,[3]),(4,[]),(5,[])]) .nil)
theorem jT.sound {a0 a1 a2:ah}(h:jT.S a0 a1 a2 G Q):al P jT.n [a0,a1,a2] G Q:=by
 have e:jT.S a0 a1 a2 G Q=awp cx jT.body jT.an (bG T [.tmp 6] Q) (cC [a0,a1,a2]) G:=by kernel_rfl
 refine aD cF Tryz.func121 ?_ ?_ ?_ (aH ?_ ?_) (by simp[Tryz.f121]) (e.mp h)<;>kernel_rfl
def gK.S (a0 a1:ah) (G:ak) (Q:ah->ak->Prop):Prop:=
 wv (zr a1 (.int .i64 0)) fun v1=>wv (fU T G aj a0) fun v2=>wv (qy v1 v2) fun v3=>wv (dV T aj a0 none (some (v3)) none) fun v4=>Q v4 G
def gK.an:Ann:=.nil
theorem gK.sound {a0 a1:ah}(h:gK.S a0 a1 G Q):al P gK.n [a0,a1] G Q:=by
 have e:gK.S a0 a1 G Q=awp cx gK.body gK.an (bG T [.tmp 4] Q) (cC [a0,a1]) G:=by kernel_rfl
 refine aD cF Tryz.func122 ?_ ?_ ?_ (aH ?_ ?_) (by simp[Tryz.f122]) (e.mp h)<;>kernel_rfl
def bk.S (a0:ah) (G:ak) (Q:ah->ak->Prop):Prop:=
 wv (az T .eql aj a0 (.nilSlice)) fun v1=>brB (some v1)
 (Q (.nilSlice) G)
 (bu T aj 0 [] G fun v2 G3=>cn T G3 aj aj v2 a0 fun v4 G5=>Q v4 G5)
def bk.an:Ann:=.nil
theorem bk.sound {a0:ah}(h:bk.S a0 G Q):al P bk.n [a0] G Q:=by
 have e:bk.S a0 G Q=awp cx bk.body bk.an (bG T [.tmp 2] Q) (cC [a0]) G:=by kernel_rfl
 refine aD cF Tryz.func123 ?_ ?_ ?_ (aH ?_ ?_) (by simp[Tryz.f123]) (e.mp h)<;>kernel_rfl
def jB.S (a0 a1 a2:ah) (G:ak) (Q:ah->ak->Prop):Prop:=
 br G (.own a0) fun i1 G2=>br G2 (.own a1) fun i3 G4=>br G4 (.own a2) fun i5 G6=>br G6 (.own (dw)) fun i7 G8=>wv (ag T G8 ay (.ptr i3 [11,0] 13)) fun v9=>wv (ag T G8 aj (.ptr i3 [5] 5)) fun v10=>wv (fU T G8 aj v10) fun v11=>wv (bj T aU [(0,v9),(1,v11)]) fun v12=>br G8 (.own (iP)) fun i13 G14=>wg (aF T G14 aU (.ptr i13 [] 0) v12) fun G15=>wv (ag T G15 aE (.ptr i3 [] 0)) fun v16=>al P gC.n [v16] G15 fun v17 G18=>brB (some v17)
 (wv (bj T ax []) fun v19=>wg (aF T G18 ax (.ptr i7 [] 0) v19) fun G20=>wv (ag T G20 ax (.ptr i7 [] 0)) fun v21=>Q (.tuple [v21,.int .i64 220]) G20)
 (wv (ag T G18 ay (.ptr i5 [0] 0)) fun v22=>wv (az T .neq ay v22 (.int .i64 4)) fun v23=>brB (some v23)
 (wv (bj T ax []) fun v24=>wg (aF T G18 ax (.ptr i7 [] 0) v24) fun G25=>wv (ag T G25 ax (.ptr i7 [] 0)) fun v26=>Q (.tuple [v26,.int .i64 160]) G25)
 (let J44:ah->ak->Prop:=(fun x34 G33=>brB (some x34)
 (wv (bj T ax []) fun v35=>wg (aF T G33 ax (.ptr i7 [] 0) v35) fun G36=>wv (ag T G36 ax (.ptr i7 [] 0)) fun v37=>Q (.tuple [v37,.int .i64 90]) G36)
 (wv (ag T G33 aU (.ptr i13 [] 0)) fun v38=>wv (ag T G33 aU (.ptr i3 [9] 9)) fun v39=>wv (az T .eql aU v38 v39) fun v40=>brB (some v40)
 (wv (bj T ax []) fun v41=>wg (aF T G33 ax (.ptr i7 [] 0) v41) fun G42=>wv (ag T G42 ax (.ptr i7 [] 0)) fun v43=>Q (.tuple [v43,.int .i64 8]) G42)
 (wv (ag T G33 bU (.ptr i1 [] 0)) fun v45=>wv (ag T G33 aE (.ptr i3 [] 0)) fun v46=>wv (ag T G33 aq (.ptr i5 [3] 3)) fun v47=>wv (ag T G33 aU (.ptr i13 [] 0)) fun v48=>al P kG.n [v45,v46,v47,v48] G33 fun v49 G50=>wv (aP v49 0) fun v51=>wv (aP v49 1) fun v52=>let J78:ah->ak->Prop:=(fun x60 G59=>brB (some x60)
 (wv (bj T ax []) fun v61=>wg (aF T G59 ax (.ptr i7 [] 0) v61) fun G62=>wv (ag T G62 ax (.ptr i7 [] 0)) fun v63=>Q (.tuple [v63,.int .i64 110]) G62)
 (wv (ag T G59 aj (.ptr i3 [5] 5)) fun v64=>wv (ag T G59 ay (.ptr i3 [9,1] 10)) fun v65=>al P gK.n [v64,v65] G59 fun v66 G67=>wv (fU T G67 aj v66) fun v68=>wv (ag T G67 aq (.ptr i5 [3] 3)) fun v69=>wv (ag T G67 aj (.ptr i3 [5] 5)) fun v70=>wv (dV T aj v70 (some (v68)) none none) fun v71=>wv (ag T G67 ar (.ptr i5 [5] 5)) fun v72=>al P bk.n [v71] G67 fun v73 G74=>(ag T G74 ar (.ptr i5 [5] 5)=some v72/\ag T G74 aq (.ptr i5 [3] 3)=some v69/\True)/\(wv (bj T ax [(0,.int .i64 3),(3,v69),(2,v73),(5,v72)]) fun v75=>wg (aF T G74 ax (.ptr i7 [] 0) v75) fun G76=>wv (ag T G76 ax (.ptr i7 [] 0)) fun v77=>Q (.tuple [v77,.int .i64 0]) G76)));
 wv (vun .not v52) fun v53=>brB (some v53)
 (J78 (.bool true) G50)
 (wv (ag T G50 ar (.ptr i1 [5] 67)) fun v54=>wv (ag T G50 ar (.ptr i5 [5] 5)) fun v55=>al P jT.n [v54,v51,v55] G50 fun v56 G57=>wv (vun .not v56) fun v58=>J78 v58 G57))));
 wv (ag T G18 aq (.ptr i3 [6] 6)) fun v27=>wv (az T .gtr aq v27 (.int .i64 281474976710653)) fun v28=>brB (some v28)
 (J44 (.bool true) G18)
 (wv (ag T G18 aq (.ptr i5 [3] 3)) fun v29=>wv (ag T G18 aq (.ptr i3 [6] 6)) fun v30=>wv (az T .add aq v30 (.int .i64 1)) fun v31=>wv (az T .neq aq v29 v31) fun v32=>J44 v32 G18)))
def jB.an:Ann:=.two .nil (.two .nil (.two .nil (.two .nil (.two .nil (.two .nil (.two (.ord [(0,[]),(1,[]),(2,[]),(3,[]),(4,[]),(5,[]),(7,[]),(8,[]),(6,[1,8]),(9,[]),(10,[]),(11,[])]) .nil))))))
theorem jB.sound {a0 a1 a2:ah}(h:jB.S a0 a1 a2 G Q):al P jB.n [a0,a1,a2] G Q:=by
 have e:jB.S a0 a1 a2 G Q=awp cx jB.body jB.an (bG T [.cell 6 78,.tmp 7] Q) (cC [a0,a1,a2]) G:=by kernel_rfl
 refine aD cF Tryz.func66 ?_ ?_ ?_ (aH ?_ ?_) (by simp[Tryz.f66]) (e.mp h)<;>kernel_rfl
def dH.S (a0:ah) (G:ak) (Q:ah->ak->Prop):Prop:=
 wv (az T .eql j1 a0 (.int .u64 0)) fun v1=>brB (some v1)
 (Q (.int .i64 64) G)
 (wv (vun .neg a0) fun v2=>wv (az T .and j1 a0 v2) fun v3=>wv (az T .mul j1 v3 (.int .u64 285870213051353865)) fun v4=>wv (az T .shr j1 v4 (.int .u64 58)) fun v5=>wv (aO T lF (.ptr ⟨0,0,0⟩ [] 0) v5) fun v6=>wv (ag T G cm v6) fun v7=>wv (gv T G cm ay v7) fun v8=>Q v8 G)
def dH.an:Ann:=.nil
theorem dH.sound {a0:ah}(h:dH.S a0 G Q):al P dH.n [a0] G Q:=by
 have e:dH.S a0 G Q=awp cx dH.body dH.an (bG T [.tmp 2] Q) (cC [a0]) G:=by kernel_rfl
 refine aD cF Tryz.func202 ?_ ?_ ?_ (aH ?_ ?_) (by simp[Tryz.f202]) (e.mp h)<;>kernel_rfl
def jt.S (a0:ah) (G:ak) (Q:ah->ak->Prop):Prop:=
 al P iQ.n [a0] G fun v1 G2=>wv (vun .not v1) fun v3=>brB (some v3)
 (Q (.tuple [.int .i64 0,.int .i64 90]) G2)
 (al P gS.n [a0] G2 fun v4 G5=>wv (gv T G5 aq j1 v4) fun v6=>al P dH.n [v6] G5 fun v7 G8=>wv (qy (.int .i64 48) v7) fun v9=>Q (.tuple [v9,.int .i64 0]) G8)
def jt.an:Ann:=.nil
theorem jt.sound {a0:ah}(h:jt.S a0 G Q):al P jt.n [a0] G Q:=by
 have e:jt.S a0 G Q=awp cx jt.body jt.an (bG T [.tmp 2,.tmp 3] Q) (cC [a0]) G:=by kernel_rfl
 refine aD cF Tryz.func161 ?_ ?_ ?_ (aH ?_ ?_) (by simp[Tryz.f161]) (e.mp h)<;>kernel_rfl
def ju.S (a0 a1 a2:ah) (G:ak) (Q:ah->ak->Prop):Prop:=
 br G (.own a0) fun i1 G2=>br G2 (.own (dm)) fun i3 G4=>al P jt.n [a1] G4 fun v5 G6=>wv (aP v5 0) fun v7=>wv (aP v5 1) fun v8=>let J28:ah->ak->Prop:=(fun x14 G13=>brB (some x14)
 (wv (bj T ar []) fun v15=>wg (aF T G13 ar (.ptr i3 [] 0) v15) fun G16=>wv (ag T G16 ar (.ptr i3 [] 0)) fun v17=>Q (.tuple [v17,.int .i64 90]) G16)
 (al P gS.n [a1] G13 fun v18 G19=>wv (az T .shr aq v18 v7) fun v20=>al P gS.n [a2] G19 fun v21 G22=>wv (az T .shr aq v21 v7) fun v23=>wv (az T .neq aq v20 v23) fun v24=>brB (some v24)
 (wv (bj T ar []) fun v25=>wg (aF T G22 ar (.ptr i3 [] 0) v25) fun G26=>wv (ag T G26 ar (.ptr i3 [] 0)) fun v27=>Q (.tuple [v27,.int .i64 5]) G26)
 (wv (ag T G22 ar (.ptr i1 [] 0)) fun v29=>al P gS.n [a2] G22 fun v30 G31=>(ag T G31 ar (.ptr i1 [] 0)=some v29/\True)/\(al P j2.n [v29,v30,v7] G31 fun v32 G33=>wg (aF T G33 ar (.ptr i3 [] 0) v32) fun G34=>wv (ag T G34 ar (.ptr i3 [] 0)) fun v35=>Q (.tuple [v35,.int .i64 0]) G34))));
 wv (az T .neq bD v8 (.int .i64 0)) fun v9=>brB (some v9)
 (J28 (.bool true) G6)
 (al P iQ.n [a2] G6 fun v10 G11=>wv (vun .not v10) fun v12=>J28 v12 G11)
def ju.an:Ann:=.two .nil (.two .nil (.two (.two .nil (.two .nil (.two (.ord [(0,[]),(2,[]),(4,[]),(6,[]),(1,[]),(3,[]),(5,[]),(7,[]),(8,[]),(9,[])]) .nil))) (.two (.ord [(0,[]),(1,[]),(3,[]),(2,[0]),(4,[]),(5,[]),(6,[])]) .nil)))
theorem ju.sound {a0 a1 a2:ah}(h:ju.S a0 a1 a2 G Q):al P ju.n [a0,a1,a2] G Q:=by
 have e:ju.S a0 a1 a2 G Q=awp cx ju.body ju.an (bG T [.cell 6 23,.tmp 7] Q) (cC [a0,a1,a2]) G:=by kernel_rfl
 refine aD cF Tryz.func102 ?_ ?_ ?_ (aH ?_ ?_) (by simp[Tryz.f102]) (e.mp h)<;>kernel_rfl
def kC.S (a0 a1 a2:ah) (G:ak) (Q:ah->ak->Prop):Prop:=
 br G (.own a2) fun i1 G2=>wv (fU T G2 aV a0) fun v3=>wv (az T .gtr ay v3 (.int .i64 49)) fun v4=>brB (some v4)
 (Q (.tuple [.nilSlice,.int .i64 1]) G2)
 (al P jt.n [a1] G2 fun v5 G6=>wv (aP v5 0) fun v7=>wv (aP v5 1) fun v8=>wv (az T .neq bD v8 (.int .i64 0)) fun v9=>brB (some v9)
 (Q (.tuple [.nilSlice,.int .i64 90]) G6)
 (lg T aV (.int .i64 49) (.int .i64 49) G6 fun v10 G11=>wv (fU T G11 aV a0) fun v12=>∀ R13:List ah->ak->Prop,
 (∀ (x15 x16 x17 x18 x19 x20 x21:ah) (G14:ak),(wv (az T .lss ay x21 x20) fun v22=>brB (some v22)
 (wv (aO T aV x15 x21) fun v23=>wv (bt T cz v23 2) fun v24=>wv (ag T G14 du v24) fun v25=>wv (vun .not v25) fun v26=>brB (some v26)
 (wv (az T .add ay x21 (.int .i64 1)) fun v53=>R13 [x15,x16,x17,x18,x19,x20,v53] G14)
 (wv (aO T aV x15 x21) fun v27=>wv (ag T G14 cz v27) fun v28=>wv (aO T aV x19 x21) fun v29=>wg (aF T G14 cz v29 v28) fun G30=>wv (az T .geq ay x21 x18) fun v31=>brB (some v31)
 (wv (az T .add ay x21 (.int .i64 1)) fun v54=>R13 [x15,x16,x17,x18,x19,x20,v54] G30)
 (wv (ag T G30 ar x17) fun v32=>wv (aO T aV x15 x21) fun v33=>wv (bt T cz v33 0) fun v34=>wv (ag T G30 aq v34) fun v35=>al P ju.n [v32,x16,v35] G30 fun v36 G37=>wv (aP v36 0) fun v38=>wv (aP v36 1) fun v39=>br G37 (.own (dm)) fun i40 G41=>wg (aF T G41 ar (.ptr i40 [] 0) v38) fun G42=>wv (az T .neq bD v39 (.int .i64 0)) fun v43=>brB (some v43)
 (Q (.tuple [.nilSlice,.int .i64 100]) G42)
 (wv (ag T G42 ar (.ptr i40 [] 0)) fun v44=>wv (aO T aV x15 x21) fun v45=>wv (bt T cz v45 1) fun v46=>wv (ag T G42 ar v46) fun v47=>wv (az T .neq ar v44 v47) fun v48=>brB (some v48)
 (Q (.tuple [.nilSlice,.int .i64 100]) G42)
 (wv (az T .add ay x21 (.int .i64 1)) fun v55=>R13 [x15,x16,x17,x18,x19,x20,v55] G42)))))
 (wv (ag T G14 ar x17) fun v56=>wv (bj T cz [(0,x16),(1,v56),(2,.bool true)]) fun v57=>wv (aO T aV x19 x18) fun v58=>wg (aF T G14 cz v58 v57) fun G59=>Q (.tuple [x19,.int .i64 0]) G59))->R13 [x15,x16,x17,x18,x19,x20,x21] G14) ->
 R13 [a0,a1,.ptr i1 [] 0,v7,v10,v12,.int .i64 0] G11))
def kC.an:Ann:=.two .nil (.two .nil (.two .nil (.two .nil (.two .nil (.two (.two .nil (.loop [0,1,5,8,10,26,27] [false,false,false,false,false,false,false] (.two .nil (.two .nil (.two (.two .nil (.two .nil (.two .nil (.two .nil (.two (.ord [(0,[]),(1,[]),(2,[]),(3,[]),(4,[]),(5,[]),(6,[]),(7,[]),(8,[]),(9,[]),(10,[]),(11,[]),(12,[]),(13,[])]) (.two (.ord [(0,[]),(1,[]),(2,[]),(3,[]),(4,[]),(5,[]),(6,[]),(7,[]),(8,[]),(9,[]),(10,[])]) .nil)))))) .nil))))) .nil)))))
theorem kC.sound {a0 a1 a2:ah}(h:kC.S a0 a1 a2 G Q):al P kC.n [a0,a1,a2] G Q:=by
 have e:kC.S a0 a1 a2 G Q=awp cx kC.body kC.an (bG T [.tmp 6,.tmp 7] Q) (cC [a0,a1,a2]) G:=by kernel_rfl
 refine aD cF Tryz.func124 ?_ ?_ ?_ (aH ?_ ?_) (by simp[Tryz.f124]) (e.mp h)<;>kernel_rfl
def gL.S (a0 a1:ah) (G:ak) (Q:ah->ak->Prop):Prop:=
 br G (.own a0) fun i1 G2=>br G2 (.own a1) fun i3 G4=>br G4 (.own (dw)) fun i5 G6=>wv (ag T G6 aE (.ptr i1 [] 0)) fun v7=>al P gC.n [v7] G6 fun v8 G9=>brB (some v8)
 (wv (bj T ax []) fun v10=>wg (aF T G9 ax (.ptr i5 [] 0) v10) fun G11=>wv (ag T G11 ax (.ptr i5 [] 0)) fun v12=>Q (.tuple [v12,.int .i64 220]) G11)
 (wv (ag T G9 ay (.ptr i3 [0] 0)) fun v13=>wv (az T .neq ay v13 (.int .i64 5)) fun v14=>brB (some v14)
 (wv (bj T ax []) fun v15=>wg (aF T G9 ax (.ptr i5 [] 0) v15) fun G16=>wv (ag T G16 ax (.ptr i5 [] 0)) fun v17=>Q (.tuple [v17,.int .i64 160]) G16)
 (let J42:ah->ak->Prop:=(fun x29 G28=>brB (some x29)
 (wv (bj T ax []) fun v30=>wg (aF T G28 ax (.ptr i5 [] 0) v30) fun G31=>wv (ag T G31 ax (.ptr i5 [] 0)) fun v32=>Q (.tuple [v32,.int .i64 90]) G31)
 (wv (ag T G28 ar (.ptr i3 [6] 37)) fun v33=>wv (aO T cc (.ptr i1 [13] 16) (.int .i64 0)) fun v34=>wv (ag T G28 ar v34) fun v35=>al P iz.n [v33] G28 fun v36 G37=>(ag T G37 ar v34=some v35/\True)/\(wv (az T .neq ar v36 v35) fun v38=>brB (some v38)
 (wv (bj T ax []) fun v39=>wg (aF T G37 ax (.ptr i5 [] 0) v39) fun G40=>wv (ag T G40 ax (.ptr i5 [] 0)) fun v41=>Q (.tuple [v41,.int .i64 100]) G40)
 (wv (ag T G37 aV (.ptr i1 [15] 112)) fun v43=>wv (ag T G37 aq (.ptr i1 [8] 8)) fun v44=>wv (ag T G37 ar (.ptr i3 [6] 37)) fun v45=>al P kC.n [v43,v44,v45] G37 fun v46 G47=>wv (aP v46 0) fun v48=>wv (aP v46 1) fun v49=>wv (az T .neq bD v49 (.int .i64 0)) fun v50=>brB (some v50)
 (wv (bj T ax []) fun v51=>wg (aF T G47 ax (.ptr i5 [] 0) v51) fun G52=>wv (ag T G52 ax (.ptr i5 [] 0)) fun v53=>Q (.tuple [v53,.int .i64 100]) G52)
 (wv (ag T G47 aq (.ptr i1 [8] 8)) fun v54=>wv (ag T G47 ar (.ptr i3 [6] 37)) fun v55=>wv (ag T G47 ar (.ptr i3 [5] 5)) fun v56=>wv (bj T ax [(0,.int .i64 4),(3,v54),(6,v55),(7,v56)]) fun v57=>wg (aF T G47 ax (.ptr i5 [] 0) v57) fun G58=>wv (ag T G58 ax (.ptr i5 [] 0)) fun v59=>Q (.tuple [v59,.int .i64 0]) G58)))));
 wv (ag T G9 aq (.ptr i1 [7] 7)) fun v18=>wv (ag T G9 aq (.ptr i1 [8] 8)) fun v19=>wv (az T .eql aq v18 v19) fun v20=>brB (some v20)
 (J42 (.bool true) G9)
 (wv (ag T G9 aq (.ptr i1 [7] 7)) fun v21=>wv (az T .sub aq v21 (.int .i64 1)) fun v22=>wv (ag T G9 aq (.ptr i1 [8] 8)) fun v23=>wv (az T .neq aq v22 v23) fun v24=>brB (some v24)
 (J42 (.bool true) G9)
 (wv (ag T G9 aq (.ptr i3 [3] 3)) fun v25=>wv (ag T G9 aq (.ptr i1 [8] 8)) fun v26=>wv (az T .neq aq v25 v26) fun v27=>J42 v27 G9))))
def gL.an:Ann:=.two .nil (.two (.two .nil (.two .nil (.two .nil (.two .nil (.two .nil (.two .nil (.two (.ord [(0,[]),(1,[]),(3,[]),(4,[]),(5,[]),(2,[5]),(6,[]),(7,[])]) .nil))))))) .nil)
theorem gL.sound {a0 a1:ah}(h:gL.S a0 a1 G Q):al P gL.n [a0,a1] G Q:=by
 have e:gL.S a0 a1 G Q=awp cx gL.body gL.an (bG T [.cell 4 78,.tmp 5] Q) (cC [a0,a1]) G:=by kernel_rfl
 refine aD cF Tryz.func67 ?_ ?_ ?_ (aH ?_ ?_) (by simp[Tryz.f67]) (e.mp h)<;>kernel_rfl
def fy.S (G:ak) (Q:ah->ak->Prop):Prop:=
 wv (bj T db [(0,.int .i64 1000),(1,.int .i64 700)]) fun v1=>al P cQ.n [v1] G fun v2 G3=>wv (pz T cJ v2 (.int .i64 0)) fun v4=>br G3 (.own (rK)) fun i5 G6=>wg (aF T G6 bU (.ptr i5 [] 0) v4) fun G7=>wv (ag T G7 bU (.ptr i5 [] 0)) fun v8=>al P iv.n [v8] G7 fun v9 G10=>wv (aP v9 0) fun v11=>wv (aP v9 1) fun v12=>br G10 (.own (hO)) fun i13 G14=>wg (aF T G14 aE (.ptr i13 [] 0) v11) fun G15=>wv (bj T bU []) fun v16=>al P iv.n [v16] G15 fun v17 G18=>wv (aP v17 0) fun v19=>wv (aP v17 1) fun v20=>br G18 (.own (hO)) fun i21 G22=>wg (aF T G22 aE (.ptr i21 [] 0) v19) fun G23=>let J111:ah->ak->Prop:=(fun x41 G40=>brB (some x41)
 (Q (.bool false) G40)
 (wv (ag T G40 aE (.ptr i13 [] 0)) fun v42=>wv (bj T ar []) fun v43=>al P gM.n [v42,.int .i64 701,v43] G40 fun v44 G45=>wv (aP v44 0) fun v46=>wv (aP v44 1) fun v47=>br G45 (.own (dw)) fun i48 G49=>wg (aF T G49 ax (.ptr i48 [] 0) v46) fun G50=>wv (ag T G50 aE (.ptr i13 [] 0)) fun v51=>wv (bj T ar []) fun v52=>al P gM.n [v51,.int .i64 0,v52] G50 fun v53 G54=>wv (aP v53 0) fun v55=>wv (aP v53 1) fun v56=>br G54 (.own (dw)) fun i57 G58=>wg (aF T G58 ax (.ptr i57 [] 0) v55) fun G59=>wv (ag T G59 aE (.ptr i13 [] 0)) fun v60=>wv (bj T ar [(0,.int .u8 1)]) fun v61=>al P gM.n [v60,.int .i64 600,v61] G59 fun v62 G63=>wv (aP v62 0) fun v64=>wv (aP v62 1) fun v65=>br G63 (.own (dw)) fun i66 G67=>wg (aF T G67 ax (.ptr i66 [] 0) v64) fun G68=>wv (ag T G68 bU (.ptr i5 [] 0)) fun v69=>wv (ag T G68 aE (.ptr i13 [] 0)) fun v70=>al P jz.n [v69,v70] G68 fun v71 G72=>wv (aP v71 0) fun v73=>wv (aP v71 1) fun v74=>br G72 (.own (dw)) fun i75 G76=>wg (aF T G76 ax (.ptr i75 [] 0) v73) fun G77=>wv (ag T G77 bU (.ptr i5 [] 0)) fun v78=>wv (ag T G77 aE (.ptr i13 [] 0)) fun v79=>wv (bj T aW [(0,.int .i64 4),(3,.int .i64 2)]) fun v80=>al P jB.n [v78,v79,v80] G77 fun v81 G82=>wv (aP v81 0) fun v83=>wv (aP v81 1) fun v84=>br G82 (.own (dw)) fun i85 G86=>wg (aF T G86 ax (.ptr i85 [] 0) v83) fun G87=>wv (ag T G87 aE (.ptr i13 [] 0)) fun v88=>wv (bj T aW [(0,.int .i64 5)]) fun v89=>al P gL.n [v88,v89] G87 fun v90 G91=>wv (aP v90 0) fun v92=>wv (aP v90 1) fun v93=>br G91 (.own (dw)) fun i94 G95=>wg (aF T G95 ax (.ptr i94 [] 0) v92) fun G96=>wv (az T .eql bD v47 (.int .i64 130)) fun v97=>brB (some v97)
 (wv (az T .eql bD v56 (.int .i64 80)) fun v98=>brB (some v98)
 (wv (az T .eql bD v65 (.int .i64 0)) fun v99=>brB (some v99)
 (wv (ag T G96 ay (.ptr i66 [0] 0)) fun v100=>wv (az T .eql ay v100 (.int .i64 1)) fun v101=>brB (some v101)
 (wv (ag T G96 aG (.ptr i66 [1] 1)) fun v102=>wv (bj T ar [(0,.int .u8 1)]) fun v103=>wv (bj T aG [(0,.int .i64 1),(2,.int .i64 600),(3,v103)]) fun v104=>wv (az T .eql aG v102 v104) fun v105=>brB (some v105)
 (wv (az T .eql bD v74 (.int .i64 8)) fun v106=>brB (some v106)
 (wv (az T .eql bD v84 (.int .i64 90)) fun v107=>brB (some v107)
 (wv (az T .eql bD v93 (.int .i64 90)) fun v108=>Q v108 G96)
 (Q (.bool false) G96))
 (Q (.bool false) G96))
 (Q (.bool false) G96))
 (Q (.bool false) G96))
 (Q (.bool false) G96))
 (Q (.bool false) G96))
 (Q (.bool false) G96)));
 wv (az T .neq bD v12 (.int .i64 0)) fun v24=>brB (some v24)
 (J111 (.bool true) G23)
 (wv (az T .neq bD v20 (.int .i64 1)) fun v25=>brB (some v25)
 (J111 (.bool true) G23)
 (wv (ag T G23 aq (.ptr i13 [2] 2)) fun v26=>wv (az T .neq aq v26 (.int .i64 700)) fun v27=>brB (some v27)
 (J111 (.bool true) G23)
 (wv (ag T G23 aq (.ptr i13 [3] 3)) fun v28=>wv (az T .neq aq v28 (.int .i64 300)) fun v29=>brB (some v29)
 (J111 (.bool true) G23)
 (wv (ag T G23 aq (.ptr i13 [17] 114)) fun v30=>wv (az T .neq aq v30 (.int .i64 (-1))) fun v31=>brB (some v31)
 (J111 (.bool true) G23)
 (wv (ag T G23 aE (.ptr i13 [] 0)) fun v32=>al P eG.n [v32] G23 fun v33 G34=>wv (az T .neq aq v33 (.int .i64 700)) fun v35=>brB (some v35)
 (J111 (.bool true) G34)
 (wv (ag T G34 aE (.ptr i13 [] 0)) fun v36=>al P cR.n [v36] G34 fun v37 G38=>wv (az T .neq aq v37 (.int .i64 300)) fun v39=>J111 v39 G38))))))
def fy.an:Ann:=.nil
theorem fy.sound (h:fy.S G Q):al P fy.n [] G Q:=by
 have e:fy.S G Q=awp cx fy.body fy.an (bG T [.tmp 0] Q) (cC []) G:=by kernel_rfl
 refine aD cF Tryz.func23 ?_ ?_ ?_ (aH ?_ ?_) (by simp[Tryz.f23]) (e.mp h)<;>kernel_rfl
def iU.S (a0 a1:ah) (G:ak) (Q:ah->ak->Prop):Prop:=
 br G (.own a0) fun i1 G2=>br G2 (.own (jF)) fun i3 G4=>let J36:ah->ak->Prop:=(fun x8 G7=>brB (some x8)
 (wv (bj T aW []) fun v9=>wg (aF T G7 aW (.ptr i3 [] 0) v9) fun G10=>wv (ag T G10 aW (.ptr i3 [] 0)) fun v11=>Q v11 G10)
 (wv (ag T G7 ar (.ptr i1 [3] 3)) fun v12=>al P im.n [v12,a1] G7 fun v13 G14=>wv (aP v13 0) fun v15=>wv (aP v13 1) fun v16=>br G14 (.own (dm)) fun i17 G18=>wg (aF T G18 ar (.ptr i17 [] 0) v15) fun G19=>wv (ag T G19 ar (.ptr i1 [3] 3)) fun v20=>wv (az T .add aq a1 (.int .i64 2)) fun v21=>al P im.n [v20,v21] G19 fun v22 G23=>wv (aP v22 0) fun v24=>wv (aP v22 1) fun v25=>br G23 (.own (dm)) fun i26 G27=>wg (aF T G27 ar (.ptr i26 [] 0) v24) fun G28=>wv (ag T G28 ar (.ptr i17 [] 0)) fun v29=>wv (ag T G28 ar (.ptr i26 [] 0)) fun v30=>al P iz.n [v30] G28 fun v31 G32=>(ag T G32 ar (.ptr i17 [] 0)=some v29/\True)/\(wv (bj T aW [(0,.int .i64 5),(3,a1),(6,v29),(5,v31)]) fun v33=>wg (aF T G32 aW (.ptr i3 [] 0) v33) fun G34=>wv (ag T G34 aW (.ptr i3 [] 0)) fun v35=>Q v35 G34)));
 wv (az T .lss aq a1 (.int .i64 0)) fun v5=>brB (some v5)
 (J36 (.bool true) G4)
 (wv (az T .gtr aq a1 (.int .i64 281474976710653)) fun v6=>J36 v6 G4)
def iU.an:Ann:=.two .nil (.two .nil (.two .nil (.two .nil (.two (.ord [(0,[]),(1,[]),(2,[]),(3,[1]),(4,[]),(5,[])]) .nil))))
theorem iU.sound {a0 a1:ah}(h:iU.S a0 a1 G Q):al P iU.n [a0,a1] G Q:=by
 have e:iU.S a0 a1 G Q=awp cx iU.body iU.an (bG T [.cell 4 48] Q) (cC [a0,a1]) G:=by kernel_rfl
 refine aD cF Tryz.func61 ?_ ?_ ?_ (aH ?_ ?_) (by simp[Tryz.f61]) (e.mp h)<;>kernel_rfl
def jD.S (a0:ah) (G:ak) (Q:ah->ak->Prop):Prop:=
 br G (.own a0) fun i1 G2=>br G2 (.own (jJ)) fun i3 G4=>wv (ag T G4 aq (.ptr i1 [1] 1)) fun v5=>wv (ag T G4 aq (.ptr i1 [0] 0)) fun v6=>wv (bj T aX [(0,v5),(1,v6)]) fun v7=>br G4 (.own (jJ)) fun i8 G9=>wg (aF T G9 aX (.ptr i8 [] 0) v7) fun G10=>bu T om 2 [(0,.bool true),(1,.bool false)] G10 fun v11 G12=>wv (fU T G12 om v11) fun v13=>∀ R14:List ah->ak->Prop,
 (∀ (x16 x17 x18 x19 x20 x21:ah) (G15:ak),(wv (az T .lss ay x21 x20) fun v22=>brB (some v22)
 (wv (aO T om x19 x21) fun v23=>wv (ag T G15 du v23) fun v24=>wv (bt T aX x16 2) fun v25=>wv (ag T G15 aw v25) fun v26=>wv (fU T G15 aw v26) fun v27=>∀ R28:List ah->ak->Prop,
 (∀ (x30 x31 x32 x33 x34 x35 x36 x37 x38 x39:ah) (G29:ak),(wv (az T .lss ay x39 x38) fun v40=>brB (some v40)
 (wv (aO T aw x37 x39) fun v41=>wv (ag T G29 aT v41) fun v42=>br G29 (.own (jQ)) fun i43 G44=>wg (aF T G44 aT (.ptr i43 [] 0) v42) fun G45=>wv (ag T G45 du (.ptr i43 [0] 0)) fun v46=>wv (az T .neq du v46 x33) fun v47=>brB (some v47)
 (wg (aF T G45 du (.ptr i43 [0] 0) x33) fun G48=>wv (bt T aX x32 2) fun v49=>wv (ag T G48 aw v49) fun v50=>wv (ag T G48 aT (.ptr i43 [] 0)) fun v51=>bu T aw 1 [(0,v51)] G48 fun v52 G53=>cn T G53 aw aw v50 v52 fun v54 G55=>wv (bt T aX x32 2) fun v56=>wg (aF T G55 aw v56 v54) fun G57=>wv (az T .add ay x39 (.int .i64 1)) fun v61=>R28 [x30,x31,x32,x33,x34,x35,x36,x37,x38,v61] G57)
 (wv (az T .add ay x39 (.int .i64 1)) fun v62=>R28 [x30,x31,x32,x33,x34,x35,x36,x37,x38,v62] G45))
 (wv (az T .add ay x36 (.int .i64 1)) fun v63=>R14 [x30,x31,x32,x34,x35,v63] G29))->R28 [x30,x31,x32,x33,x34,x35,x36,x37,x38,x39] G29) ->
 R28 [x16,x17,x18,v24,x19,x20,x21,v26,v27,.int .i64 0] G15)
 (wv (ag T G15 aX x18) fun v64=>wg (aF T G15 aX x17 v64) fun G65=>wv (ag T G65 aX x17) fun v66=>Q v66 G65))->R14 [x16,x17,x18,x19,x20,x21] G15) ->
 R14 [.ptr i1 [] 0,.ptr i3 [] 0,.ptr i8 [] 0,v11,v13,.int .i64 0] G12
def jD.an:Ann:=.two .nil (.two .nil (.two (.two .nil (.loop [1,2,3,13,14,15] [false,false,false,false,false,false] (.two .nil (.two .nil (.two (.two .nil (.two .nil (.loop [1,2,3,5,13,14,15,20,21,22] [false,false,false,false,false,false,false,false,false,false] .nil))) .nil))))) .nil))
theorem jD.sound {a0:ah}(h:jD.S a0 G Q):al P jD.n [a0] G Q:=by
 have e:jD.S a0 G Q=awp cx jD.body jD.an (bG T [.cell 2 126] Q) (cC [a0]) G:=by kernel_rfl
 refine aD cF Tryz.func116 ?_ ?_ ?_ (aH ?_ ?_) (by simp[Tryz.f116]) (e.mp h)<;>kernel_rfl
def jC.S (a0 a1:ah) (G:ak) (Q:ah->ak->Prop):Prop:=
 br G (.own a0) fun i1 G2=>br G2 (.own a1) fun i3 G4=>br G4 (.own (jF)) fun i5 G6=>wv (aO T cc (.ptr i3 [13] 16) (.int .i64 0)) fun v7=>wv (ag T G6 ar v7) fun v8=>br G6 (.own (dm)) fun i9 G10=>wg (aF T G10 ar (.ptr i9 [] 0) v8) fun G11=>wv (ag T G11 aq (.ptr i3 [7] 7)) fun v12=>wv (ag T G11 aq (.ptr i3 [8] 8)) fun v13=>wv (az T .neq aq v12 v13) fun v14=>let J49:ak->Prop:=(fun G18=>wv (ag T G18 aq (.ptr i3 [2] 2)) fun v19=>wv (ag T G18 aq (.ptr i3 [3] 3)) fun v20=>wv (ag T G18 aj (.ptr i3 [4] 4)) fun v21=>wv (ag T G18 aj (.ptr i3 [5] 5)) fun v22=>wv (ag T G18 aU (.ptr i3 [10] 11)) fun v23=>al P iM.n [v19,v20,v21,v22,v23] G18 fun v24 G25=>wv (aP v24 0) fun v26=>wv (aP v24 1) fun v27=>br G25 (.own (jJ)) fun i28 G29=>wg (aF T G29 aX (.ptr i28 [] 0) v26) fun G30=>wv (ag T G30 ay (.ptr i3 [0] 0)) fun v31=>wv (az T .sub ay (.int .i64 1) v31) fun v32=>wv (ag T G30 aq (.ptr i3 [7] 7)) fun v33=>wv (ag T G30 ar (.ptr i9 [] 0)) fun v34=>wv (ag T G30 aX (.ptr i28 [] 0)) fun v35=>al P jD.n [v35] G30 fun v36 G37=>(ag T G37 ar (.ptr i9 [] 0)=some v34/\ag T G37 aq (.ptr i3 [7] 7)=some v33/\ag T G37 ay (.ptr i3 [0] 0)=some v31/\True)/\(al P iN.n [v32,v33,v34,v36] G37 fun v38 G39=>wv (aP v38 0) fun v40=>wv (aP v38 1) fun v41=>wv (ag T G39 aq (.ptr i3 [7] 7)) fun v42=>wv (ag T G39 ar (.ptr i1 [4] 35)) fun v43=>al P j3.n [v43,v40] G39 fun v44 G45=>(ag T G45 aq (.ptr i3 [7] 7)=some v42/\True)/\(wv (bj T aW [(0,.int .i64 4),(3,v42),(5,v44)]) fun v46=>wg (aF T G45 aW (.ptr i5 [] 0) v46) fun G47=>wv (ag T G47 aW (.ptr i5 [] 0)) fun v48=>Q v48 G47)));
 brB (some v14)
 (wv (aO T cc (.ptr i3 [13] 16) (.int .i64 1)) fun v15=>wv (ag T G11 ar v15) fun v16=>wg (aF T G11 ar (.ptr i9 [] 0) v16) fun G17=>J49 G17)
 (J49 G11)
def jC.an:Ann:=.two .nil (.two .nil (.two .nil (.two .nil (.two (.ord [(0,[]),(1,[]),(2,[]),(3,[]),(4,[]),(5,[]),(6,[]),(7,[1,4,5]),(8,[]),(9,[]),(10,[]),(11,[]),(12,[]),(13,[])]) (.two (.ord [(0,[]),(1,[]),(2,[]),(3,[]),(4,[]),(5,[1]),(6,[]),(7,[])]) .nil)))))
theorem jC.sound {a0 a1:ah}(h:jC.S a0 a1 G Q):al P jC.n [a0,a1] G Q:=by
 have e:jC.S a0 a1 G Q=awp cx jC.body jC.an (bG T [.cell 4 48] Q) (cC [a0,a1]) G:=by kernel_rfl
 refine aD cF Tryz.func62 ?_ ?_ ?_ (aH ?_ ?_) (by simp[Tryz.f62]) (e.mp h)<;>kernel_rfl
def bQ.S (a0 a1:ah) (G:ak) (Q:ah->ak->Prop):Prop:=
 wv (az T .lss ay a1 (.int .i64 0)) fun v1=>brB (some v1)
 (wv (fU T G aj a0) fun v12=>wv (az T .gtr ay (.int .i64 0) v12) fun v13=>brB (some v13)
 (wv (fU T G aj a0) fun v14=>wv (dV T aj a0 none (some (v14)) none) fun v18=>Q v18 G)
 (wv (dV T aj a0 none (some (.int .i64 0)) none) fun v19=>Q v19 G))
 (wv (fU T G aj a0) fun v20=>wv (az T .gtr ay a1 v20) fun v21=>brB (some v21)
 (wv (fU T G aj a0) fun v22=>wv (dV T aj a0 none (some (v22)) none) fun v26=>Q v26 G)
 (wv (dV T aj a0 none (some (a1)) none) fun v27=>Q v27 G))
def bQ.an:Ann:=.nil
theorem bQ.sound {a0 a1:ah}(h:bQ.S a0 a1 G Q):al P bQ.n [a0,a1] G Q:=by
 have e:bQ.S a0 a1 G Q=awp cx bQ.body bQ.an (bG T [.tmp 4] Q) (cC [a0,a1]) G:=by kernel_rfl
 refine aD cF Tryz.func110 ?_ ?_ ?_ (aH ?_ ?_) (by simp[Tryz.f110]) (e.mp h)<;>kernel_rfl
def fL.S (a0:ah) (G:ak) (Q:ah->ak->Prop):Prop:=
 br G (.own a0) fun i1 G2=>br G2 (.own (hO)) fun i3 G4=>wv (ag T G4 aj (.ptr i1 [4] 4)) fun v5=>cn T G4 aj aj (.nilSlice) v5 fun v6 G7=>wg (aF T G7 aj (.ptr i1 [4] 4) v6) fun G8=>wv (ag T G8 aj (.ptr i1 [5] 5)) fun v9=>wv (ag T G8 ay (.ptr i1 [9,1] 10)) fun v10=>al P bQ.n [v9,v10] G8 fun v11 G12=>cn T G12 aj aj (.nilSlice) v11 fun v13 G14=>wg (aF T G14 aj (.ptr i1 [5] 5) v13) fun G15=>wv (ag T G15 aV (.ptr i1 [15] 112)) fun v16=>cn T G15 aV aV (.nilSlice) v16 fun v17 G18=>wg (aF T G18 aV (.ptr i1 [15] 112) v17) fun G19=>wv (ag T G19 aE (.ptr i1 [] 0)) fun v20=>wg (aF T G19 aE (.ptr i3 [] 0) v20) fun G21=>wv (ag T G21 aE (.ptr i3 [] 0)) fun v22=>Q v22 G21
def fL.an:Ann:=.nil
theorem fL.sound {a0:ah}(h:fL.S a0 G Q):al P fL.n [a0] G Q:=by
 have e:fL.S a0 G Q=awp cx fL.body fL.an (bG T [.cell 2 38] Q) (cC [a0]) G:=by kernel_rfl
 refine aD cF Tryz.func51 ?_ ?_ ?_ (aH ?_ ?_) (by simp[Tryz.f51]) (e.mp h)<;>kernel_rfl
def dz.S (a0:ah) (G:ak) (Q:ah->ak->Prop):Prop:=
 br G (.own a0) fun i1 G2=>wv (bj T ar []) fun v3=>br G2 (.own (dm)) fun i4 G5=>wg (aF T G5 ar (.ptr i4 [] 0) v3) fun G6=>let J41:ah->ak->Prop:=(fun x12 G11=>brB (some x12)
 (Q (.bool false) G11)
 (wv (ag T G11 ay (.ptr i1 [0] 0)) fun v13=>wv (az T .eql ay v13 (.int .i64 1)) fun v14=>brB (some v14)
 (wv (ag T G11 aq (.ptr i1 [2] 2)) fun v15=>wv (az T .geq aq v15 (.int .i64 1)) fun v16=>brB (some v16)
 (wv (ag T G11 aq (.ptr i1 [2] 2)) fun v17=>wv (az T .leq aq v17 (.int .i64 1152921504606846976)) fun v18=>brB (some v18)
 (wv (ag T G11 bH (.ptr i1 [4] 35)) fun v19=>wv (az T .eql bH v19 (.str [])) fun v20=>Q v20 G11)
 (Q (.bool false) G11))
 (Q (.bool false) G11))
 (wv (az T .eql ay v13 (.int .i64 2)) fun v23=>brB (some v23)
 (wv (ag T G11 aq (.ptr i1 [2] 2)) fun v24=>wv (az T .eql aq v24 (.int .i64 0)) fun v25=>brB (some v25)
 (wv (ag T G11 bH (.ptr i1 [4] 35)) fun v26=>wv (az T .eql bH v26 (.str [])) fun v27=>Q v27 G11)
 (Q (.bool false) G11))
 (wv (az T .eql ay v13 (.int .i64 3)) fun v30=>brB (some v30)
 (wv (ag T G11 aq (.ptr i1 [2] 2)) fun v31=>wv (az T .eql aq v31 (.int .i64 0)) fun v32=>brB (some v32)
 (wv (ag T G11 ar (.ptr i1 [3] 3)) fun v33=>wv (ag T G11 ar (.ptr i4 [] 0)) fun v34=>wv (az T .eql ar v33 v34) fun v35=>brB (some v35)
 (wv (ag T G11 bH (.ptr i1 [4] 35)) fun v36=>wv (fU T G11 bH v36) fun v37=>wv (az T .leq ay v37 (.int .i64 64)) fun v38=>Q v38 G11)
 (Q (.bool false) G11))
 (Q (.bool false) G11))
 (Q (.bool false) G11)))));
 wv (ag T G6 aq (.ptr i1 [1] 1)) fun v7=>wv (az T .lss aq v7 (.int .i64 0)) fun v8=>brB (some v8)
 (J41 (.bool true) G6)
 (wv (ag T G6 aq (.ptr i1 [1] 1)) fun v9=>wv (az T .geq aq v9 (.int .i64 2048)) fun v10=>J41 v10 G6)
def dz.an:Ann:=.nil
theorem dz.sound {a0:ah}(h:dz.S a0 G Q):al P dz.n [a0] G Q:=by
 have e:dz.S a0 G Q=awp cx dz.body dz.an (bG T [.tmp 2] Q) (cC [a0]) G:=by kernel_rfl
 refine aD cF Tryz.func203 ?_ ?_ ?_ (aH ?_ ?_) (by simp[Tryz.f203]) (e.mp h)<;>kernel_rfl
def gg.S (a0:ah) (G:ak) (Q:ah->ak->Prop):Prop:=
 ∀ R1:List ah->ak->Prop,
 (∀ (x3 x4 x5:ah) (G2:ak),(wv (fU T G2 aj x3) fun v6=>wv (az T .lss ay x5 v6) fun v7=>brB (some v7)
 (wv (aO T aj x3 x5) fun v8=>wv (bt T aG v8 0) fun v9=>wv (ag T G2 ay v9) fun v10=>wv (az T .eql ay v10 (.int .i64 1)) fun v11=>brB (some v11)
 (wv (az T .add aq x4 (.int .i64 1)) fun v12=>wv (az T .add ay x5 (.int .i64 1)) fun v18=>R1 [x3,v12,v18] G2)
 (wv (az T .add ay x5 (.int .i64 1)) fun v19=>R1 [x3,x4,v19] G2))
 (Q x4 G2))->R1 [x3,x4,x5] G2) ->
 R1 [a0,.int .i64 0,.int .i64 0] G
def gg.an:Ann:=.two .nil (.two .nil (.two (.two .nil (.loop [0,3,4] [false,false,false] .nil)) .nil))
theorem gg.sound {a0:ah}(h:gg.S a0 G Q):al P gg.n [a0] G Q:=by
 have e:gg.S a0 G Q=awp cx gg.body gg.an (bG T [.tmp 2] Q) (cC [a0]) G:=by kernel_rfl
 refine aD cF Tryz.func204 ?_ ?_ ?_ (aH ?_ ?_) (by simp[Tryz.f204]) (e.mp h)<;>kernel_rfl
def gf.S (a0 a1:ah) (G:ak) (Q:ah->ak->Prop):Prop:=
 br G (.own (dv)) fun i1 G2=>∀ R3:List ah->ak->Prop,
 (∀ (x5 x6 x7 x8:ah) (G4:ak),(wv (fU T G4 aj x5) fun v9=>wv (az T .lss ay x8 v9) fun v10=>brB (some v10)
 (wv (aO T aj x5 x8) fun v11=>wv (bt T aG v11 0) fun v12=>wv (ag T G4 ay v12) fun v13=>wv (az T .eql ay v13 (.int .i64 1)) fun v14=>brB (some v14)
 (wv (aO T aj x5 x8) fun v15=>wv (bt T aG v15 1) fun v16=>wv (ag T G4 aq v16) fun v17=>wv (az T .eql aq v17 x6) fun v18=>brB (some v18)
 (wv (aO T aj x5 x8) fun v25=>wv (ag T G4 aG v25) fun v26=>wg (aF T G4 aG x7 v26) fun G27=>wv (ag T G27 aG x7) fun v28=>Q (.tuple [v28,.bool true]) G27)
 (wv (az T .add ay x8 (.int .i64 1)) fun v31=>R3 [x5,x6,x7,v31] G4))
 (wv (az T .add ay x8 (.int .i64 1)) fun v32=>R3 [x5,x6,x7,v32] G4))
 (wv (bj T aG []) fun v33=>wg (aF T G4 aG x7 v33) fun G34=>wv (ag T G34 aG x7) fun v35=>Q (.tuple [v35,.bool false]) G34))->R3 [x5,x6,x7,x8] G4) ->
 R3 [a0,a1,.ptr i1 [] 0,.int .i64 0] G2
def gf.an:Ann:=.two .nil (.two (.two .nil (.loop [0,1,4,6] [false,false,false,false] .nil)) .nil)
theorem gf.sound {a0 a1:ah}(h:gf.S a0 a1 G Q):al P gf.n [a0,a1] G Q:=by
 have e:gf.S a0 a1 G Q=awp cx gf.body gf.an (bG T [.cell 4 76,.tmp 5] Q) (cC [a0,a1]) G:=by kernel_rfl
 refine aD cF Tryz.func205 ?_ ?_ ?_ (aH ?_ ?_) (by simp[Tryz.f205]) (e.mp h)<;>kernel_rfl
def dZ.S (a0 a1:ah) (G:ak) (Q:ah->ak->Prop):Prop:=
 br G (.own (dv)) fun i1 G2=>∀ R3:List ah->ak->Prop,
 (∀ (x5 x6 x7 x8:ah) (G4:ak),(wv (fU T G4 aj x5) fun v9=>wv (az T .lss ay x8 v9) fun v10=>brB (some v10)
 (let J33:ah->ak->Prop:=(fun x28 G27=>brB (some x28)
 (wv (aO T aj x5 x8) fun v29=>wv (ag T G27 aG v29) fun v30=>wg (aF T G27 aG x7 v30) fun G31=>wv (ag T G31 aG x7) fun v32=>Q (.tuple [v32,.bool true]) G31)
 (wv (az T .add ay x8 (.int .i64 1)) fun v34=>R3 [x5,x6,x7,v34] G27));
 wv (aO T aj x5 x8) fun v11=>wv (bt T aG v11 0) fun v12=>wv (ag T G4 ay v12) fun v13=>wv (az T .eql ay v13 (.int .i64 2)) fun v14=>brB (some v14)
 (wv (aO T aj x5 x8) fun v15=>wv (bt T aG v15 1) fun v16=>wv (ag T G4 aq v16) fun v17=>wv (az T .eql aq v17 x6) fun v18=>J33 v18 G4)
 (wv (aO T aj x5 x8) fun v19=>wv (bt T aG v19 0) fun v20=>wv (ag T G4 ay v20) fun v21=>wv (az T .eql ay v21 (.int .i64 3)) fun v22=>brB (some v22)
 (wv (aO T aj x5 x8) fun v23=>wv (bt T aG v23 1) fun v24=>wv (ag T G4 aq v24) fun v25=>wv (az T .eql aq v25 x6) fun v26=>J33 v26 G4)
 (J33 (.bool false) G4)))
 (wv (bj T aG []) fun v35=>wg (aF T G4 aG x7 v35) fun G36=>wv (ag T G36 aG x7) fun v37=>Q (.tuple [v37,.bool false]) G36))->R3 [x5,x6,x7,x8] G4) ->
 R3 [a0,a1,.ptr i1 [] 0,.int .i64 0] G2
def dZ.an:Ann:=.two .nil (.two (.two .nil (.loop [0,1,4,6] [false,false,false,false] .nil)) .nil)
theorem dZ.sound {a0 a1:ah}(h:dZ.S a0 a1 G Q):al P dZ.n [a0,a1] G Q:=by
 have e:dZ.S a0 a1 G Q=awp cx dZ.body dZ.an (bG T [.cell 4 76,.tmp 5] Q) (cC [a0,a1]) G:=by kernel_rfl
 refine aD cF Tryz.func206 ?_ ?_ ?_ (aH ?_ ?_) (by simp[Tryz.f206]) (e.mp h)<;>kernel_rfl
def fa.S (a0 a1 a2:ah) (G:ak) (Q:ah->ak->Prop):Prop:=
 br G (.own a2) fun i1 G2=>wv (fU T G2 aj a0) fun v3=>wv (az T .geq ay v3 (.int .i64 2048)) fun v4=>brB (some v4)
 (Q (.int .i64 6) G2)
 (wv (ag T G2 aG (.ptr i1 [] 0)) fun v5=>al P dz.n [v5] G2 fun v6 G7=>wv (vun .not v6) fun v8=>brB (some v8)
 (Q (.int .i64 120) G7)
 (wv (ag T G7 ay (.ptr i1 [0] 0)) fun v9=>wv (az T .eql ay v9 (.int .i64 1)) fun v10=>brB (some v10)
 (wv (ag T G7 aq (.ptr i1 [1] 1)) fun v11=>al P gg.n [a0] G7 fun v12 G13=>(ag T G13 aq (.ptr i1 [1] 1)=some v11/\True)/\(wv (az T .neq aq v11 v12) fun v14=>brB (some v14)
 (Q (.int .i64 120) G13)
 (Q (.int .i64 0) G13)))
 (wv (ag T G7 aq (.ptr i1 [1] 1)) fun v15=>al P gf.n [a1,v15] G7 fun v16 G17=>wv (aP v16 0) fun v18=>wv (aP v16 1) fun v19=>br G17 (.own (dv)) fun i20 G21=>wg (aF T G21 aG (.ptr i20 [] 0) v18) fun G22=>wv (ag T G22 aq (.ptr i1 [1] 1)) fun v23=>al P dZ.n [a0,v23] G22 fun v24 G25=>wv (aP v24 0) fun v26=>wv (aP v24 1) fun v27=>br G25 (.own (dv)) fun i28 G29=>wg (aF T G29 aG (.ptr i28 [] 0) v26) fun G30=>let J46:ah->ak->Prop:=(fun x33 G32=>brB (some x33)
 (Q (.int .i64 120) G32)
 (wv (ag T G32 ay (.ptr i1 [0] 0)) fun v34=>wv (az T .eql ay v34 (.int .i64 2)) fun v35=>brB (some v35)
 (wv (dV T ar (.ptr i1 [3] 3) none none none) fun v36=>wv (gv T G32 aR bH v36) fun v37=>wv (ag T G32 ar (.ptr i20 [3] 3)) fun v38=>bu T iE 1 [(0,v37)] G32 fun v39 G40=>al P fO.n [v39] G40 fun v41 G42=>(ag T G42 ar (.ptr i20 [3] 3)=some v38/\True)/\(wv (az T .neq ar v41 v38) fun v43=>brB (some v43)
 (Q (.int .i64 120) G42)
 (Q (.int .i64 0) G42)))
 (Q (.int .i64 0) G32)));
 wv (vun .not v19) fun v31=>brB (some v31)
 (J46 (.bool true) G30)
 (J46 v27 G30))))
def fa.an:Ann:=.two .nil (.two .nil (.two .nil (.two (.two .nil (.two (.two (.two (.ord [(0,[]),(1,[]),(2,[]),(3,[1]),(4,[])]) .nil) .nil) .nil)) (.two .nil (.two .nil (.two .nil (.two (.two (.ord [(0,[]),(1,[]),(2,[]),(3,[]),(4,[]),(5,[]),(6,[]),(9,[]),(10,[]),(7,[]),(8,[10]),(11,[]),(12,[])]) .nil) .nil)))))))
theorem fa.sound {a0 a1 a2:ah}(h:fa.S a0 a1 a2 G Q):al P fa.n [a0,a1,a2] G Q:=by
 have e:fa.S a0 a1 a2 G Q=awp cx fa.body fa.an (bG T [.tmp 6] Q) (cC [a0,a1,a2]) G:=by kernel_rfl
 refine aD cF Tryz.func167 ?_ ?_ ?_ (aH ?_ ?_) (by simp[Tryz.f167]) (e.mp h)<;>kernel_rfl
def ee.S (a0 a1 a2:ah) (G:ak) (Q:ah->ak->Prop):Prop:=
 cn T G aj aj (.nilSlice) a0 fun v1 G2=>∀ R3:List ah->ak->Prop,
 (∀ (x5 x6 x7 x8:ah) (G4:ak),(wv (fU T G4 aj x6) fun v9=>wv (az T .lss ay x8 v9) fun v10=>brB (some v10)
 (wv (aO T aj x6 x8) fun v11=>wv (ag T G4 aG v11) fun v12=>al P fa.n [x7,x5,v12] G4 fun v13 G14=>wv (az T .neq bD v13 (.int .i64 0)) fun v15=>brB (some v15)
 (Q (.tuple [.nilSlice,.bool false]) G14)
 (wv (aO T aj x6 x8) fun v16=>wv (ag T G14 aG v16) fun v17=>bu T aj 1 [(0,v17)] G14 fun v18 G19=>cn T G19 aj aj x7 v18 fun v20 G21=>wv (az T .add ay x8 (.int .i64 1)) fun v22=>R3 [x5,x6,v20,v22] G21))
 (Q (.tuple [x7,.bool true]) G4))->R3 [x5,x6,x7,x8] G4) ->
 R3 [a1,a2,v1,.int .i64 0] G2
def ee.an:Ann:=.two .nil (.two .nil (.two (.two .nil (.loop [1,2,8,9] [false,false,false,false] .nil)) .nil))
theorem ee.sound {a0 a1 a2:ah}(h:ee.S a0 a1 a2 G Q):al P ee.n [a0,a1,a2] G Q:=by
 have e:ee.S a0 a1 a2 G Q=awp cx ee.body ee.an (bG T [.tmp 6,.tmp 7] Q) (cC [a0,a1,a2]) G:=by kernel_rfl
 refine aD cF Tryz.func128 ?_ ?_ ?_ (aH ?_ ?_) (by simp[Tryz.f128]) (e.mp h)<;>kernel_rfl
def fq.S (a0 a1:ah) (G:ak) (Q:ah->ak->Prop):Prop:=
 wv (fU T G aV a0) fun v1=>wv (az T .gtr ay v1 (.int .i64 49)) fun v2=>brB (some v2)
 (Q (.int .i64 1) G)
 (wv (az T .lss aq a1 (.int .i64 0)) fun v3=>brB (some v3)
 (Q (.int .i64 90) G)
 (wv (az T .gtr aq a1 (.int .i64 281474976710655)) fun v4=>brB (some v4)
 (Q (.int .i64 90) G)
 (Q (.int .i64 0) G)))
def fq.an:Ann:=.nil
theorem fq.sound {a0 a1:ah}(h:fq.S a0 a1 G Q):al P fq.n [a0,a1] G Q:=by
 have e:fq.S a0 a1 G Q=awp cx fq.body fq.an (bG T [.tmp 4] Q) (cC [a0,a1]) G:=by kernel_rfl
 refine aD cF Tryz.func103 ?_ ?_ ?_ (aH ?_ ?_) (by simp[Tryz.f103]) (e.mp h)<;>kernel_rfl
def gW.S (a0 a1:ah) (G:ak) (Q:ah->ak->Prop):Prop:=
 br G (.own (pW)) fun i1 G2=>let J17:ah->ak->Prop:=(fun x9 G8=>brB (some x9)
 (wv (aO T aV a0 a1) fun v10=>wv (ag T G8 cz v10) fun v11=>wg (aF T G8 cz (.ptr i1 [] 0) v11) fun G12=>wv (ag T G12 cz (.ptr i1 [] 0)) fun v13=>Q v13 G12)
 (wv (bj T cz []) fun v14=>wg (aF T G8 cz (.ptr i1 [] 0) v14) fun G15=>wv (ag T G15 cz (.ptr i1 [] 0)) fun v16=>Q v16 G15));
 wv (fU T G2 aV a0) fun v3=>wv (az T .lss ay a1 v3) fun v4=>brB (some v4)
 (wv (aO T aV a0 a1) fun v5=>wv (bt T cz v5 2) fun v6=>wv (ag T G2 du v6) fun v7=>J17 v7 G2)
 (J17 (.bool false) G2)
def gW.an:Ann:=.nil
theorem gW.sound {a0 a1:ah}(h:gW.S a0 a1 G Q):al P gW.n [a0,a1] G Q:=by
 have e:gW.S a0 a1 G Q=awp cx gW.body gW.an (bG T [.cell 4 100] Q) (cC [a0,a1]) G:=by kernel_rfl
 refine aD cF Tryz.func104 ?_ ?_ ?_ (aH ?_ ?_) (by simp[Tryz.f104]) (e.mp h)<;>kernel_rfl
def en.S (a0:ah) (G:ak) (Q:ah->ak->Prop):Prop:=
 br G (.own a0) fun i1 G2=>∀ R3:List ah->ak->Prop,
 (∀ (x5 x6:ah) (G4:ak),(wv (az T .lss ay x6 (.int .i64 48)) fun v7=>brB (some v7)
 (wv (aO T kB x5 x6) fun v8=>wv (ag T G4 ay v8) fun v9=>wv (az T .eql ay v9 (.int .i64 1)) fun v10=>brB (some v10)
 (Q x6 G4)
 (wv (az T .add ay x6 (.int .i64 1)) fun v11=>R3 [x5,v11] G4))
 (Q (.int .i64 48) G4))->R3 [x5,x6] G4) ->
 R3 [.ptr i1 [] 0,.int .i64 0] G2
def en.an:Ann:=.two .nil (.two (.two .nil (.loop [1,3] [false,false] .nil)) .nil)
theorem en.sound {a0:ah}(h:en.S a0 G Q):al P en.n [a0] G Q:=by
 have e:en.S a0 G Q=awp cx en.body en.an (bG T [.tmp 2] Q) (cC [a0]) G:=by kernel_rfl
 refine aD cF Tryz.func165 ?_ ?_ ?_ (aH ?_ ?_) (by simp[Tryz.f165]) (e.mp h)<;>kernel_rfl
end Go.Esc.M
