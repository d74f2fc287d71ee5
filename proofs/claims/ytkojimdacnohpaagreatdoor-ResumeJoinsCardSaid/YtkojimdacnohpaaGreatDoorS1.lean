import Derived.Test.YtkojimdacnohpaaGreatDoorT
set_option linter.unusedSimpArgs false
set_option linter.unusedVariables false
set_option maxRecDepth 100000
namespace Go.Esc.M
open Go Go.Esc Go.Proofs
variable {G:ak}{Q:ah->ak->Prop}
def fO.S (a0:ah) (G:ak) (Q:ah->ak->Prop):Prop:=
 br G (.own (dm)) fun i1 G2=>∀ R3:List ah->ak->Prop,
 (∀ (x5 x6 x7 x8:ah) (G4:ak),(wv (fU T G4 iE x5) fun v9=>wv (az T .lss ay x8 v9) fun v10=>brB (some v10)
 (wv (aO T iE x5 x8) fun v11=>wv (ag T G4 bH v11) fun v12=>wv (az T .add bH x7 v12) fun v13=>wv (az T .add ay x8 (.int .i64 1)) fun v14=>R3 [x5,x6,v13,v14] G4)
 (al P dJ.n [x7] G4 fun v15 G16=>wg (aF T G16 ar x6 v15) fun G17=>wv (ag T G17 ar x6) fun v18=>Q v18 G17))->R3 [x5,x6,x7,x8] G4) ->
 R3 [a0,.ptr i1 [] 0,.str [],.int .i64 0] G2
def fO.an:Ann:=.two .nil (.two .nil (.two (.two .nil (.loop [0,2,3,4] [false,false,false,false] .nil)) .nil))
theorem fO.sound {a0:ah}(h:fO.S a0 G Q):al P fO.n [a0] G Q:=by
 have e:fO.S a0 G Q=awp cx fO.body fO.an (bG T [.cell 2 23] Q) (cC [a0]) G:=by kernel_rfl
 refine aD cF Tryz.func169 ?_ ?_ ?_ (aH ?_ ?_) (by simp[Tryz.f169]) (e.mp h)<;>kernel_rfl
def cA.S (a0:ah) (G:ak) (Q:ah->ak->Prop):Prop:=
 br G (.own a0) fun i1 G2=>br G2 (.own (dm)) fun i3 G4=>wv (dV T ar (.ptr i1 [] 0) none none none) fun v5=>wv (gv T G4 aR bH v5) fun v6=>bu T iE 1 [(0,v6)] G4 fun v7 G8=>al P fO.n [v7] G8 fun v9 G10=>wg (aF T G10 ar (.ptr i3 [] 0) v9) fun G11=>wv (ag T G11 ar (.ptr i3 [] 0)) fun v12=>Q v12 G11
def cA.an:Ann:=.nil
theorem cA.sound {a0:ah}(h:cA.S a0 G Q):al P cA.n [a0] G Q:=by
 have e:cA.S a0 G Q=awp cx cA.body cA.an (bG T [.cell 2 23] Q) (cC [a0]) G:=by kernel_rfl
 refine aD cF Tryz.func111 ?_ ?_ ?_ (aH ?_ ?_) (by simp[Tryz.f111]) (e.mp h)<;>kernel_rfl
def fe.S (a0 a1 a2:ah) (G:ak) (Q:ah->ak->Prop):Prop:=
 br G (.own a0) fun i1 G2=>br G2 (.own a1) fun i3 G4=>br G4 (.own (dm)) fun i5 G6=>wv (az T .sub ay a2 (.int .i64 1)) fun v7=>∀ R8:List ah->ak->Prop,
 (∀ (x10 x11 x12 x13:ah) (G9:ak),(wv (az T .geq ay x13 (.int .i64 0)) fun v14=>brB (some v14)
 (wv (aO T kB x11 x13) fun v15=>wv (ag T G9 ay v15) fun v16=>wv (az T .eql ay v16 (.int .i64 1)) fun v17=>brB (some v17)
 (wv (az T .quo ay x13 (.int .i64 8)) fun v18=>wv (az T .quo ay x13 (.int .i64 8)) fun v19=>wv (aO T ar x10 v19) fun v20=>wv (ag T G9 cm v20) fun v21=>wv (az T .rem ay x13 (.int .i64 8)) fun v22=>wv (gv T G9 ay mJ v22) fun v23=>wv (az T .shl cm (.int .u8 1) v23) fun v24=>wv (az T .xor cm v21 v24) fun v25=>wv (aO T ar x10 v18) fun v26=>wg (aF T G9 cm v26 v25) fun G27=>wv (ag T G27 ar x10) fun v28=>al P cA.n [v28] G27 fun v29 G30=>wg (aF T G30 ar x10 v29) fun G31=>wv (az T .sub ay x13 (.int .i64 1)) fun v35=>R8 [x10,x11,x12,v35] G31)
 (wv (az T .sub ay x13 (.int .i64 1)) fun v36=>R8 [x10,x11,x12,v36] G9))
 (wv (ag T G9 ar x10) fun v37=>wg (aF T G9 ar x12 v37) fun G38=>wv (ag T G38 ar x12) fun v39=>Q v39 G38))->R8 [x10,x11,x12,x13] G9) ->
 R8 [.ptr i1 [] 0,.ptr i3 [] 0,.ptr i5 [] 0,v7] G6
def fe.an:Ann:=.two .nil (.two (.two .nil (.loop [3,4,6,7] [false,false,false,false] .nil)) .nil)
theorem fe.sound {a0 a1 a2:ah}(h:fe.S a0 a1 a2 G Q):al P fe.n [a0,a1,a2] G Q:=by
 have e:fe.S a0 a1 a2 G Q=awp cx fe.body fe.an (bG T [.cell 6 23] Q) (cC [a0,a1,a2]) G:=by kernel_rfl
 refine aD cF Tryz.func55 ?_ ?_ ?_ (aH ?_ ?_) (by simp[Tryz.f55]) (e.mp h)<;>kernel_rfl
def cZ.S (a0:ah) (G:ak) (Q:ah->ak->Prop):Prop:=
 br G (.own (oY)) fun i1 G2=>br G2 (.own (oY)) fun i3 G4=>wv (az T .sub aq (.int .i64 281474976710655) a0) fun v5=>∀ R6:List ah->ak->Prop,
 (∀ (x8 x9 x10 x11:ah) (G7:ak),(wv (az T .lss ay x11 (.int .i64 48)) fun v12=>brB (some v12)
 (wv (az T .rem aq x10 (.int .i64 2)) fun v13=>wv (aO T kB x9 x11) fun v14=>wg (aF T G7 ay v14 v13) fun G15=>wv (az T .quo aq x10 (.int .i64 2)) fun v16=>wv (az T .add ay x11 (.int .i64 1)) fun v17=>R6 [x8,x9,v16,v17] G15)
 (wv (ag T G7 kB x9) fun v18=>wg (aF T G7 kB x8 v18) fun G19=>wv (ag T G19 kB x8) fun v20=>Q v20 G19))->R6 [x8,x9,x10,x11] G7) ->
 R6 [.ptr i1 [] 0,.ptr i3 [] 0,v5,.int .i64 0] G4
def cZ.an:Ann:=.two .nil (.two .nil (.two .nil (.two (.two .nil (.loop [2,3,4,5] [false,false,false,false] .nil)) .nil)))
theorem cZ.sound {a0:ah}(h:cZ.S a0 G Q):al P cZ.n [a0] G Q:=by
 have e:cZ.S a0 G Q=awp cx cZ.body cZ.an (bG T [.cell 2 108] Q) (cC [a0]) G:=by kernel_rfl
 refine aD cF Tryz.func56 ?_ ?_ ?_ (aH ?_ ?_) (by simp[Tryz.f56]) (e.mp h)<;>kernel_rfl
def cI.S (a0 a1:ah) (G:ak) (Q:ah->ak->Prop):Prop:=
 br G (.own a0) fun i1 G2=>br G2 (.own (dm)) fun i3 G4=>al P dt.n [a1] G4 fun v5 G6=>wv (vun .not v5) fun v7=>brB (some v7)
 (wv (bj T ar []) fun v8=>wg (aF T G6 ar (.ptr i3 [] 0) v8) fun G9=>wv (ag T G9 ar (.ptr i3 [] 0)) fun v10=>Q (.tuple [v10,.int .i64 90]) G9)
 (wv (ag T G6 ar (.ptr i1 [] 0)) fun v11=>al P cZ.n [a1] G6 fun v12 G13=>(ag T G13 ar (.ptr i1 [] 0)=some v11/\True)/\(al P fe.n [v11,v12,.int .i64 48] G13 fun v14 G15=>wg (aF T G15 ar (.ptr i3 [] 0) v14) fun G16=>wv (ag T G16 ar (.ptr i3 [] 0)) fun v17=>Q (.tuple [v17,.int .i64 0]) G16))
def cI.an:Ann:=.two .nil (.two .nil (.two (.ord [(0,[]),(1,[]),(2,[0]),(3,[]),(4,[]),(5,[])]) .nil))
theorem cI.sound {a0 a1:ah}(h:cI.S a0 a1 G Q):al P cI.n [a0,a1] G Q:=by
 have e:cI.S a0 a1 G Q=awp cx cI.body cI.an (bG T [.cell 4 23,.tmp 5] Q) (cC [a0,a1]) G:=by kernel_rfl
 refine aD cF Tryz.func21 ?_ ?_ ?_ (aH ?_ ?_) (by simp[Tryz.f21]) (e.mp h)<;>kernel_rfl
def im.S (a0 a1:ah) (G:ak) (Q:ah->ak->Prop):Prop:=
 br G (.own a0) fun i1 G2=>br G2 (.own (dm)) fun i3 G4=>al P iQ.n [a1] G4 fun v5 G6=>wv (vun .not v5) fun v7=>brB (some v7)
 (wv (bj T ar []) fun v8=>wg (aF T G6 ar (.ptr i3 [] 0) v8) fun G9=>wv (ag T G9 ar (.ptr i3 [] 0)) fun v10=>Q (.tuple [v10,.int .i64 90]) G9)
 (wv (ag T G6 ar (.ptr i1 [] 0)) fun v11=>al P gS.n [a1] G6 fun v12 G13=>(ag T G13 ar (.ptr i1 [] 0)=some v11/\True)/\(al P j2.n [v11,v12,.int .i64 48] G13 fun v14 G15=>wg (aF T G15 ar (.ptr i3 [] 0) v14) fun G16=>wv (ag T G16 ar (.ptr i3 [] 0)) fun v17=>Q (.tuple [v17,.int .i64 0]) G16))
def im.an:Ann:=.two .nil (.two .nil (.two (.ord [(0,[]),(1,[]),(2,[0]),(3,[]),(4,[]),(5,[])]) .nil))
theorem im.sound {a0 a1:ah}(h:im.S a0 a1 G Q):al P im.n [a0,a1] G Q:=by
 have e:im.S a0 a1 G Q=awp cx im.body im.an (bG T [.cell 4 23,.tmp 5] Q) (cC [a0,a1]) G:=by kernel_rfl
 refine aD cF Tryz.func113 ?_ ?_ ?_ (aH ?_ ?_) (by simp[Tryz.f113]) (e.mp h)<;>kernel_rfl
def acs.S (a0 a1:ah) (G:ak) (Q:ah->ak->Prop):Prop:=
 br G (.own a0) fun i1 G2=>br G2 (.own a1) fun i3 G4=>wv (ag T G4 aq (.ptr i3 [4] 4)) fun v5=>wv (az T .gtr aq v5 (.int .i64 0)) fun v6=>brB (some v6)
 (wv (ag T G4 ar (.ptr i1 [3] 3)) fun v7=>wv (ag T G4 aq (.ptr i3 [4] 4)) fun v8=>wv (az T .sub aq v8 (.int .i64 1)) fun v9=>al P im.n [v7,v9] G4 fun v10 G11=>wv (aP v10 0) fun v12=>wv (aP v10 1) fun v13=>br G11 (.own (dm)) fun i14 G15=>wg (aF T G15 ar (.ptr i14 [] 0) v12) fun G16=>wv (ag T G16 aq (.ptr i3 [4] 4)) fun v17=>wv (az T .leq aq v17 (.int .i64 281474976710655)) fun v18=>brB (some v18)
 (wv (az T .eql bD v13 (.int .i64 0)) fun v19=>brB (some v19)
 (wv (ag T G16 ar (.ptr i14 [] 0)) fun v20=>wv (ag T G16 ar (.ptr i3 [6] 37)) fun v21=>wv (az T .eql ar v20 v21) fun v22=>Q v22 G16)
 (Q (.bool false) G16))
 (Q (.bool false) G16))
 (wv (ag T G4 aq (.ptr i3 [4] 4)) fun v25=>wv (az T .eql aq v25 (.int .i64 0)) fun v26=>brB (some v26)
 (wv (ag T G4 ar (.ptr i3 [6] 37)) fun v27=>wv (bj T ar []) fun v28=>wv (az T .eql ar v27 v28) fun v29=>Q v29 G4)
 (Q (.bool true) G4))
def acs.an:Ann:=.nil
theorem acs.sound {a0 a1:ah}(h:acs.S a0 a1 G Q):al P acs.n [a0,a1] G Q:=by
 have e:acs.S a0 a1 G Q=awp cx acs.body acs.an (bG T [.tmp 4] Q) (cC [a0,a1]) G:=by kernel_rfl
 refine aD cF Tryz.func112 ?_ ?_ ?_ (aH ?_ ?_) (by simp[Tryz.f112]) (e.mp h)<;>kernel_rfl
def acu.S (a0 a1 a2:ah) (G:ak) (Q:ah->ak->Prop):Prop:=
 br G (.own a0) fun i1 G2=>br G2 (.own a1) fun i3 G4=>br G4 (.own a2) fun i5 G6=>wv (ag T G6 ay (.ptr i5 [0] 0)) fun v7=>wv (az T .neq ay v7 (.int .i64 6)) fun v8=>brB (some v8)
 (Q (.int .i64 160) G6)
 (wv (ag T G6 bU (.ptr i1 [] 0)) fun v9=>wv (ag T G6 aW (.ptr i5 [] 0)) fun v10=>al P acs.n [v9,v10] G6 fun v11 G12=>wv (vun .not v11) fun v13=>brB (some v13)
 (Q (.int .i64 100) G12)
 (wv (ag T G12 aq (.ptr i5 [4] 4)) fun v14=>wv (ag T G12 aq (.ptr i3 [6] 6)) fun v15=>wv (az T .gtr aq v14 v15) fun v16=>brB (some v16)
 (Q (.int .i64 180) G12)
 (let J42:ah->ak->Prop:=(fun x27 G26=>brB (some x27)
 (Q (.int .i64 90) G26)
 (wv (ag T G26 aq (.ptr i5 [3] 3)) fun v28=>wv (ag T G26 aq (.ptr i3 [7] 7)) fun v29=>wv (az T .add aq v29 (.int .i64 1)) fun v30=>wv (az T .neq aq v28 v30) fun v31=>brB (some v31)
 (wv (ag T G26 aq (.ptr i5 [3] 3)) fun v32=>wv (ag T G26 aq (.ptr i3 [7] 7)) fun v33=>wv (az T .neq aq v32 v33) fun v34=>brB (some v34)
 (Q (.int .i64 90) G26)
 (wv (ag T G26 aq (.ptr i3 [7] 7)) fun v35=>wv (ag T G26 aq (.ptr i3 [8] 8)) fun v36=>wv (az T .add aq v36 (.int .i64 1)) fun v37=>wv (az T .neq aq v35 v37) fun v38=>brB (some v38)
 (Q (.int .i64 90) G26)
 (Q (.int .i64 0) G26)))
 (Q (.int .i64 0) G26)));
 wv (ag T G12 aq (.ptr i5 [4] 4)) fun v17=>wv (az T .lss aq v17 (.int .i64 0)) fun v18=>brB (some v18)
 (J42 (.bool true) G12)
 (wv (ag T G12 aq (.ptr i5 [4] 4)) fun v19=>wv (ag T G12 aq (.ptr i3 [6] 6)) fun v20=>wv (az T .neq aq v19 v20) fun v21=>brB (some v21)
 (wv (ag T G12 aq (.ptr i5 [4] 4)) fun v22=>wv (ag T G12 aq (.ptr i3 [6] 6)) fun v23=>wv (az T .sub aq v23 (.int .i64 1)) fun v24=>wv (az T .neq aq v22 v24) fun v25=>J42 v25 G12)
 (J42 (.bool false) G12)))))
def acu.an:Ann:=.nil
theorem acu.sound {a0 a1 a2:ah}(h:acu.S a0 a1 a2 G Q):al P acu.n [a0,a1,a2] G Q:=by
 have e:acu.S a0 a1 a2 G Q=awp cx acu.body acu.an (bG T [.tmp 6] Q) (cC [a0,a1,a2]) G:=by kernel_rfl
 refine aD cF Tryz.func57 ?_ ?_ ?_ (aH ?_ ?_) (by simp[Tryz.f57]) (e.mp h)<;>kernel_rfl
def acA.S (a0:ah) (G:ak) (Q:ah->ak->Prop):Prop:=
 br G (.own a0) fun i1 G2=>br G2 (.own (jF)) fun i3 G4=>wv (ag T G4 ay (.ptr i1 [0] 0)) fun v5=>wv (ag T G4 aq (.ptr i1 [1] 1)) fun v6=>wv (ag T G4 aq (.ptr i1 [2] 2)) fun v7=>wv (ag T G4 ar (.ptr i1 [3] 3)) fun v8=>wv (ag T G4 bH (.ptr i1 [4] 35)) fun v9=>wv (bj T aW [(0,v5),(1,v6),(2,v7),(5,v8),(7,v9)]) fun v10=>wg (aF T G4 aW (.ptr i3 [] 0) v10) fun G11=>wv (ag T G11 aW (.ptr i3 [] 0)) fun v12=>Q v12 G11
def acA.an:Ann:=.nil
theorem acA.sound {a0:ah}(h:acA.S a0 G Q):al P acA.n [a0] G Q:=by
 have e:acA.S a0 G Q=awp cx acA.body acA.an (bG T [.cell 2 48] Q) (cC [a0]) G:=by kernel_rfl
 refine aD cF Tryz.func59 ?_ ?_ ?_ (aH ?_ ?_) (by simp[Tryz.f59]) (e.mp h)<;>kernel_rfl
def aco.S (a0 a1 a2 a3:ah) (G:ak) (Q:ah->ak->Prop):Prop:=
 wv (zr a0 (.int .i64 0)) fun v1=>∀ R2:List ah->ak->Prop,
 (∀ (x4 x5 x6 x7:ah) (G3:ak),(wv (bt T aE x5 4) fun v8=>wv (ag T G3 aj v8) fun v9=>wv (fU T G3 aj v9) fun v10=>wv (qy x4 v10) fun v11=>wv (az T .lss ay x7 v11) fun v12=>brB (some v12)
 (wv (ag T G3 bR x6) fun v13=>wv (bt T aE x5 4) fun v14=>wv (ag T G3 aj v14) fun v15=>wv (aO T aj v15 x7) fun v16=>wv (ag T G3 aG v16) fun v17=>al P acA.n [v17] G3 fun v18 G19=>(ag T G19 bR x6=some v13/\True)/\(bu T bR 1 [(0,v18)] G19 fun v20 G21=>cn T G21 bR bR v13 v20 fun v22 G23=>wg (aF T G23 bR x6 v22) fun G24=>wv (az T .add ay x7 (.int .i64 1)) fun v25=>R2 [x4,x5,x6,v25] G24))
 (Q (.tuple []) G3))->R2 [x4,x5,x6,x7] G3) ->
 R2 [a1,a2,a3,v1] G
def aco.an:Ann:=.two .nil (.loop [1,2,3,6] [false,false,false,false] (.two .nil (.two (.ord [(0,[]),(1,[]),(2,[]),(3,[]),(4,[]),(5,[]),(6,[0]),(7,[]),(8,[]),(9,[])]) .nil)))
theorem aco.sound {a0 a1 a2 a3:ah}(h:aco.S a0 a1 a2 a3 G Q):al P aco.n [a0,a1,a2,a3] G Q:=by
 have e:aco.S a0 a1 a2 a3 G Q=awp cx aco.body aco.an (bG T [] Q) (cC [a0,a1,a2,a3]) G:=by kernel_rfl
 refine aD cF Tryz.func58 ?_ ?_ ?_ (aH ?_ ?_) (by simp[Tryz.f58]) (e.mp h)<;>kernel_rfl
def iU.S (a0 a1:ah) (G:ak) (Q:ah->ak->Prop):Prop:=
 br G (.own a0) fun i1 G2=>br G2 (.own (jF)) fun i3 G4=>let J36:ah->ak->Prop:=(fun x8 G7=>brB (some x8)
 (wv (bj T aW []) fun v9=>wg (aF T G7 aW (.ptr i3 [] 0) v9) fun G10=>wv (ag T G10 aW (.ptr i3 [] 0)) fun v11=>Q v11 G10)
 (wv (ag T G7 ar (.ptr i1 [3] 3)) fun v12=>al P im.n [v12,a1] G7 fun v13 G14=>wv (aP v13 0) fun v15=>wv (aP v13 1) fun v16=>br G14 (.own (dm)) fun i17 G18=>wg (aF T G18 ar (.ptr i17 [] 0) v15) fun G19=>wv (ag T G19 ar (.ptr i1 [3] 3)) fun v20=>wv (az T .add aq a1 (.int .i64 2)) fun v21=>al P im.n [v20,v21] G19 fun v22 G23=>wv (aP v22 0) fun v24=>wv (aP v22 1) fun v25=>br G23 (.own (dm)) fun i26 G27=>wg (aF T G27 ar (.ptr i26 [] 0) v24) fun G28=>wv (ag T G28 ar (.ptr i17 [] 0)) fun v29=>wv (ag T G28 ar (.ptr i26 [] 0)) fun v30=>al P iz.n [v30] G28 fun v31 G32=>(ag T G32 ar (.ptr i17 [] 0)=some v29/\True)/\(wv (bj T aW [(0,.int .i64 5),(3,a1),(6,v29),(5,v31)]) fun v33=>wg (aF T G32 aW (.ptr i3 [] 0) v33) fun G34=>wv (ag T G34 aW (.ptr i3 [] 0)) fun v35=>Q v35 G34)));
 wv (az T .lss aq a1 (.int .i64 0)) fun v5=>brB (some v5)
 (J36 (.bool true) G4)
 (wv (az T .gtr aq a1 (.int .i64 281474976710653)) fun v6=>J36 v6 G4)
def iU.an:Ann:=.two .nil (.two .nil (.two .nil (.two .nil (.two (.ord [(0,[]),(1,[]),(2,[]),(3,[1]),(4,[]),(5,[])]) .nil))))
theorem iU.sound {a0 a1:ah}(h:iU.S a0 a1 G Q):al P iU.n [a0,a1] G Q:=by
 have e:iU.S a0 a1 G Q=awp cx iU.body iU.an (bG T [.cell 4 48] Q) (cC [a0,a1]) G:=by kernel_rfl
 refine aD cF Tryz.func61 ?_ ?_ ?_ (aH ?_ ?_) (by simp[Tryz.f61]) (e.mp h)<;>kernel_rfl
def acn.S (a0 a1 a2 a3 a4:ah) (G:ak) (Q:ah->ak->Prop):Prop:=
 let J24:ah->ak->Prop:=(fun x11 G10=>brB (some x11)
 (wv (ag T G10 bR a3) fun v12=>wv (ag T G10 bU a4) fun v13=>wv (bt T aW a1 4) fun v14=>wv (ag T G10 aq v14) fun v15=>al P iU.n [v13,v15] G10 fun v16 G17=>(ag T G17 bR a3=some v12/\True)/\(bu T bR 1 [(0,v16)] G17 fun v18 G19=>cn T G19 bR bR v12 v18 fun v20 G21=>wg (aF T G21 bR a3 v20) fun G22=>Q (.tuple []) G22))
 (Q (.tuple []) G10));
 wv (bt T aW a1 4) fun v1=>wv (ag T G aq v1) fun v2=>wv (bt T aE a2 6) fun v3=>wv (ag T G aq v3) fun v4=>wv (az T .sub aq v4 (.int .i64 1)) fun v5=>wv (az T .eql aq v2 v5) fun v6=>brB (some v6)
 (wv (bt T aE a2 12) fun v7=>wv (ag T G du v7) fun v8=>wv (az T .eql du v8 a0) fun v9=>J24 v9 G)
 (J24 (.bool false) G)
def acn.an:Ann:=.two .nil (.two (.ord [(0,[]),(1,[]),(2,[]),(3,[]),(4,[0]),(5,[]),(6,[]),(7,[])]) .nil)
theorem acn.sound {a0 a1 a2 a3 a4:ah}(h:acn.S a0 a1 a2 a3 a4 G Q):al P acn.n [a0,a1,a2,a3,a4] G Q:=by
 have e:acn.S a0 a1 a2 a3 a4 G Q=awp cx acn.body acn.an (bG T [] Q) (cC [a0,a1,a2,a3,a4]) G:=by kernel_rfl
 refine aD cF Tryz.func60 ?_ ?_ ?_ (aH ?_ ?_) (by simp[Tryz.f60]) (e.mp h)<;>kernel_rfl
def gk.S (a0:ah) (G:ak) (Q:ah->ak->Prop):Prop:=
 wv (az T .geq aq a0 (.int .i64 0)) fun v1=>brB (some v1)
 (wv (az T .leq aq a0 (.int .i64 1152921504606846976)) fun v2=>Q v2 G)
 (Q (.bool false) G)
def gk.an:Ann:=.nil
theorem gk.sound {a0:ah}(h:gk.S a0 G Q):al P gk.n [a0] G Q:=by
 have e:gk.S a0 G Q=awp cx gk.body gk.an (bG T [.tmp 2] Q) (cC [a0]) G:=by kernel_rfl
 refine aD cF Tryz.func86 ?_ ?_ ?_ (aH ?_ ?_) (by simp[Tryz.f86]) (e.mp h)<;>kernel_rfl
def jE.S (a0 a1:ah) (G:ak) (Q:ah->ak->Prop):Prop:=
 al P gk.n [a0] G fun v1 G2=>wv (vun .not v1) fun v3=>brB (some v3)
 (Q (.tuple [.int .i64 0,.int .i64 80]) G2)
 (al P gk.n [a1] G2 fun v4 G5=>wv (vun .not v4) fun v6=>brB (some v6)
 (Q (.tuple [.int .i64 0,.int .i64 80]) G5)
 (wv (az T .add aq a0 a1) fun v7=>al P gk.n [v7] G5 fun v8 G9=>wv (vun .not v8) fun v10=>brB (some v10)
 (Q (.tuple [.int .i64 0,.int .i64 80]) G9)
 (wv (az T .add aq a0 a1) fun v14=>Q (.tuple [v14,.int .i64 0]) G9)))
def jE.an:Ann:=.nil
theorem jE.sound {a0 a1:ah}(h:jE.S a0 a1 G Q):al P jE.n [a0,a1] G Q:=by
 have e:jE.S a0 a1 G Q=awp cx jE.body jE.an (bG T [.tmp 4,.tmp 5] Q) (cC [a0,a1]) G:=by kernel_rfl
 refine aD cF Tryz.func185 ?_ ?_ ?_ (aH ?_ ?_) (by simp[Tryz.f185]) (e.mp h)<;>kernel_rfl
def jX.S (a0:ah) (G:ak) (Q:ah->ak->Prop):Prop:=
 wv (fU T G jf a0) fun v1=>∀ R2:List ah->ak->Prop,
 (∀ (x4 x5 x6 x7:ah) (G3:ak),(wv (az T .lss ay x7 x6) fun v8=>brB (some v8)
 (wv (aO T jf x5 x7) fun v9=>wv (ag T G3 aq v9) fun v10=>al P jE.n [x4,v10] G3 fun v11 G12=>wv (aP v11 0) fun v13=>wv (aP v11 1) fun v14=>wv (az T .neq bD v14 (.int .i64 0)) fun v15=>brB (some v15)
 (Q (.tuple [.int .i64 0,v14]) G12)
 (wv (az T .add ay x7 (.int .i64 1)) fun v16=>R2 [v13,x5,x6,v16] G12))
 (Q (.tuple [x4,.int .i64 0]) G3))->R2 [x4,x5,x6,x7] G3) ->
 R2 [.int .i64 0,a0,v1,.int .i64 0] G
def jX.an:Ann:=.two .nil (.two .nil (.two (.two .nil (.loop [4,8,9,10] [false,false,false,false] .nil)) .nil))
theorem jX.sound {a0:ah}(h:jX.S a0 G Q):al P jX.n [a0] G Q:=by
 have e:jX.S a0 G Q=awp cx jX.body jX.an (bG T [.tmp 2,.tmp 3] Q) (cC [a0]) G:=by kernel_rfl
 refine aD cF Tryz.func130 ?_ ?_ ?_ (aH ?_ ?_) (by simp[Tryz.f130]) (e.mp h)<;>kernel_rfl
def bx.S (a0 a1:ah) (G:ak) (Q:ah->ak->Prop):Prop:=
 wv (fU T G aj a0) fun v1=>∀ R2:List ah->ak->Prop,
 (∀ (x4 x5 x6 x7:ah) (G3:ak),(wv (az T .lss ay x7 x6) fun v8=>brB (some v8)
 (wv (aO T aj x4 x7) fun v9=>wv (ag T G3 aG v9) fun v10=>oS P x5 [v10] G3 fun v11 G12=>brB (some v11)
 (Q x7 G12)
 (wv (az T .add ay x7 (.int .i64 1)) fun v13=>R2 [x4,x5,x6,v13] G12))
 (Q (.int .i64 (-1)) G3))->R2 [x4,x5,x6,x7] G3) ->
 R2 [a0,a1,v1,.int .i64 0] G
def bx.an:Ann:=.two .nil (.two (.two .nil (.loop [0,1,7,8] [false,false,false,false] .nil)) .nil)
theorem bx.sound {a0 a1:ah}(h:bx.S a0 a1 G Q):al P bx.n [a0,a1] G Q:=by
 have e:bx.S a0 a1 G Q=awp cx bx.body bx.an (bG T [.tmp 4] Q) (cC [a0,a1]) G:=by kernel_rfl
 refine aD cF Tryz.func186 ?_ ?_ ?_ (aH ?_ ?_) (by simp[Tryz.f186]) (e.mp h)<;>kernel_rfl
def bd.S (a0 a1:ah) (G:ak) (Q:ah->ak->Prop):Prop:=
 al P bx.n [a0,a1] G fun v1 G2=>wv (az T .geq ay v1 (.int .i64 0)) fun v3=>Q v3 G2
def bd.an:Ann:=.nil
theorem bd.sound {a0 a1:ah}(h:bd.S a0 a1 G Q):al P bd.n [a0,a1] G Q:=by
 have e:bd.S a0 a1 G Q=awp cx bd.body bd.an (bG T [.tmp 4] Q) (cC [a0,a1]) G:=by kernel_rfl
 refine aD cF Tryz.func131 ?_ ?_ ?_ (aH ?_ ?_) (by simp[Tryz.f131]) (e.mp h)<;>kernel_rfl
def gj.S (a0:ah) (G:ak) (Q:ah->ak->Prop):Prop:=
 br G (.own a0) fun i1 G2=>let J37:ah->ak->Prop:=(fun x8 G7=>brB (some x8)
 (Q (.bool false) G7)
 (wv (ag T G7 ay (.ptr i1 [0] 0)) fun v9=>wv (az T .eql ay v9 (.int .i64 1)) fun v10=>brB (some v10)
 (wv (ag T G7 aq (.ptr i1 [2] 2)) fun v11=>wv (az T .geq aq v11 (.int .i64 1)) fun v12=>brB (some v12)
 (wv (ag T G7 aq (.ptr i1 [2] 2)) fun v13=>wv (az T .leq aq v13 (.int .i64 1152921504606846976)) fun v14=>brB (some v14)
 (wv (ag T G7 bH (.ptr i1 [4] 35)) fun v15=>wv (az T .eql bH v15 (.str [])) fun v16=>Q v16 G7)
 (Q (.bool false) G7))
 (Q (.bool false) G7))
 (wv (az T .eql ay v9 (.int .i64 2)) fun v19=>brB (some v19)
 (wv (ag T G7 aq (.ptr i1 [2] 2)) fun v20=>wv (az T .eql aq v20 (.int .i64 0)) fun v21=>brB (some v21)
 (wv (ag T G7 bH (.ptr i1 [4] 35)) fun v22=>wv (az T .eql bH v22 (.str [])) fun v23=>Q v23 G7)
 (Q (.bool false) G7))
 (wv (az T .eql ay v9 (.int .i64 3)) fun v26=>brB (some v26)
 (wv (ag T G7 aq (.ptr i1 [2] 2)) fun v27=>wv (az T .eql aq v27 (.int .i64 0)) fun v28=>brB (some v28)
 (wv (ag T G7 ar (.ptr i1 [3] 3)) fun v29=>wv (bj T ar []) fun v30=>wv (az T .eql ar v29 v30) fun v31=>brB (some v31)
 (wv (ag T G7 bH (.ptr i1 [4] 35)) fun v32=>wv (fU T G7 bH v32) fun v33=>wv (az T .leq ay v33 (.int .i64 64)) fun v34=>Q v34 G7)
 (Q (.bool false) G7))
 (Q (.bool false) G7))
 (Q (.bool false) G7)))));
 wv (ag T G2 aq (.ptr i1 [1] 1)) fun v3=>wv (az T .lss aq v3 (.int .i64 0)) fun v4=>brB (some v4)
 (J37 (.bool true) G2)
 (wv (ag T G2 aq (.ptr i1 [1] 1)) fun v5=>wv (az T .geq aq v5 (.int .i64 2048)) fun v6=>J37 v6 G2)
def gj.an:Ann:=.nil
theorem gj.sound {a0:ah}(h:gj.S a0 G Q):al P gj.n [a0] G Q:=by
 have e:gj.S a0 G Q=awp cx gj.body gj.an (bG T [.tmp 2] Q) (cC [a0]) G:=by kernel_rfl
 refine aD cF Tryz.func181 ?_ ?_ ?_ (aH ?_ ?_) (by simp[Tryz.f181]) (e.mp h)<;>kernel_rfl
def gu.S (a0:ah) (G:ak) (Q:ah->ak->Prop):Prop:=
 br G (.own a0) fun i1 G2=>wv (ag T G2 aG (.ptr i1 [] 0)) fun v3=>al P gj.n [v3] G2 fun v4 G5=>wv (vun .not v4) fun v6=>Q v6 G5
def gu.an:Ann:=.nil
theorem gu.sound {a0:ah}(h:gu.S a0 G Q):al P gu.n [a0] G Q:=by
 have e:gu.S a0 G Q=awp cx gu.body gu.an (bG T [.tmp 2] Q) (cC [a0]) G:=by kernel_rfl
 refine aD cF Tryz.func132 ?_ ?_ ?_ (aH ?_ ?_) (by simp[Tryz.f132]) (e.mp h)<;>kernel_rfl
def cS.S (a0 a1:ah) (G:ak) (Q:ah->ak->Prop):Prop:=
 br G (.own a0) fun i1 G2=>br G2 (.own (kb)) fun i3 G4=>wv (ag T G4 aq (.ptr i1 [0] 0)) fun v5=>wv (az T .shr aq a1 (.int .u64 30)) fun v6=>wv (az T .add aq v5 v6) fun v7=>wv (ag T G4 aq (.ptr i1 [1] 1)) fun v8=>wv (az T .and aq a1 (.int .i64 1073741823)) fun v9=>wv (az T .add aq v8 v9) fun v10=>wv (bj T bO [(0,v7),(1,v10)]) fun v11=>wg (aF T G4 bO (.ptr i3 [] 0) v11) fun G12=>wv (ag T G12 bO (.ptr i3 [] 0)) fun v13=>Q v13 G12
def cS.an:Ann:=.nil
theorem cS.sound {a0 a1:ah}(h:cS.S a0 a1 G Q):al P cS.n [a0,a1] G Q:=by
 have e:cS.S a0 a1 G Q=awp cx cS.body cS.an (bG T [.cell 4 178] Q) (cC [a0,a1]) G:=by kernel_rfl
 refine aD cF Tryz.func135 ?_ ?_ ?_ (aH ?_ ?_) (by simp[Tryz.f135]) (e.mp h)<;>kernel_rfl
def ed.S (a0 a1:ah) (G:ak) (Q:ah->ak->Prop):Prop:=
 br G (.own a0) fun i1 G2=>br G2 (.own (kb)) fun i3 G4=>wv (ag T G4 aq (.ptr i1 [0] 0)) fun v5=>wv (az T .shr aq a1 (.int .u64 30)) fun v6=>wv (az T .sub aq v5 v6) fun v7=>wv (ag T G4 aq (.ptr i1 [1] 1)) fun v8=>wv (az T .and aq a1 (.int .i64 1073741823)) fun v9=>wv (az T .sub aq v8 v9) fun v10=>wv (bj T bO [(0,v7),(1,v10)]) fun v11=>wg (aF T G4 bO (.ptr i3 [] 0) v11) fun G12=>wv (ag T G12 bO (.ptr i3 [] 0)) fun v13=>Q v13 G12
def ed.an:Ann:=.nil
theorem ed.sound {a0 a1:ah}(h:ed.S a0 a1 G Q):al P ed.n [a0,a1] G Q:=by
 have e:ed.S a0 a1 G Q=awp cx ed.body ed.an (bG T [.cell 4 178] Q) (cC [a0,a1]) G:=by kernel_rfl
 refine aD cF Tryz.func179 ?_ ?_ ?_ (aH ?_ ?_) (by simp[Tryz.f179]) (e.mp h)<;>kernel_rfl
def bh.S (a0 a1 a2 a3:ah) (G:ak) (Q:ah->ak->Prop):Prop:=
 wv (az T .add ay a1 (.int .i64 1)) fun v1=>∀ R2:List ah->ak->Prop,
 (∀ (x4 x5 x6 x7 x8:ah) (G3:ak),(wv (az T .lss ay x8 x6) fun v9=>brB (some v9)
 (∀ R10:List ah->ak->Prop,
 (∀ (x12 x13 x14 x15 x16 x17:ah) (G11:ak),(let J40:ah->ak->Prop:=(fun x28 G27=>brB (some x28)
 (wv (az T .sub ay x17 (.int .i64 1)) fun v29=>wv (az T .sub ay x17 (.int .i64 1)) fun v30=>wv (aO T aw x12 v30) fun v31=>wv (ag T G27 aT v31) fun v32=>wv (aO T aw x12 x17) fun v33=>wv (ag T G27 aT v33) fun v34=>wv (aO T aw x12 x17) fun v35=>wg (aF T G27 aT v35 v32) fun G36=>wv (aO T aw x12 v29) fun v37=>wg (aF T G36 aT v37 v34) fun G38=>wv (az T .sub ay x17 (.int .i64 1)) fun v39=>R10 [x12,x13,x14,x15,x16,v39] G38)
 (wv (az T .add ay x16 (.int .i64 1)) fun v41=>R2 [x12,x13,x14,x15,v41] G27));
 wv (az T .gtr ay x17 x13) fun v18=>brB (some v18)
 (wv (aO T aw x12 x17) fun v19=>wv (ag T G11 aT v19) fun v20=>wv (az T .sub ay x17 (.int .i64 1)) fun v21=>wv (aO T aw x12 v21) fun v22=>wv (ag T G11 aT v22) fun v23=>oS P x15 [v20,v23] G11 fun v24 G25=>wv (az T .lss ay v24 (.int .i64 0)) fun v26=>J40 v26 G25)
 (J40 (.bool false) G11))->R10 [x12,x13,x14,x15,x16,x17] G11) ->
 R10 [x4,x5,x6,x7,x8,x8] G3)
 (Q (.tuple []) G3))->R2 [x4,x5,x6,x7,x8] G3) ->
 R2 [a0,a1,a2,a3,v1] G
def bh.an:Ann:=.two .nil (.loop [0,1,2,3,8] [false,false,false,false,false] (.two .nil (.two (.two .nil (.loop [0,1,2,3,8,9] [false,false,false,false,false,false] (.two (.two (.ord [(0,[]),(1,[]),(2,[]),(3,[]),(4,[]),(5,[]),(6,[]),(7,[]),(8,[]),(9,[]),(10,[]),(11,[]),(12,[]),(13,[]),(14,[]),(15,[]),(16,[])]) .nil) (.two (.ord [(0,[]),(1,[]),(2,[]),(3,[]),(4,[]),(5,[]),(6,[]),(7,[]),(8,[]),(9,[]),(10,[]),(11,[]),(12,[]),(13,[]),(14,[]),(15,[]),(16,[]),(17,[])]) .nil)))) .nil)))
theorem bh.sound {a0 a1 a2 a3:ah}(h:bh.S a0 a1 a2 a3 G Q):al P bh.n [a0,a1,a2,a3] G Q:=by
 have e:bh.S a0 a1 a2 a3 G Q=awp cx bh.body bh.an (bG T [] Q) (cC [a0,a1,a2,a3]) G:=by kernel_rfl
 refine aD cF Tryz.func222 ?_ ?_ ?_ (aH ?_ ?_) (by simp[Tryz.f222]) (e.mp h)<;>kernel_rfl
def bA.S (a0 a1 a2 a3 a4:ah) (G:ak) (Q:ah->ak->Prop):Prop:=
 ∀ R1:List ah->ak->Prop,
 (∀ (x3 x4 x5 x6 x7:ah) (G2:ak),(wv (az T .lss ay x7 x6) fun v8=>brB (some v8)
 (wv (az T .add ay x4 x7) fun v9=>wv (az T .add ay x5 x7) fun v10=>wv (az T .add ay x5 x7) fun v11=>wv (aO T aw x3 v11) fun v12=>wv (ag T G2 aT v12) fun v13=>wv (az T .add ay x4 x7) fun v14=>wv (aO T aw x3 v14) fun v15=>wv (ag T G2 aT v15) fun v16=>wv (aO T aw x3 v9) fun v17=>wg (aF T G2 aT v17 v13) fun G18=>wv (aO T aw x3 v10) fun v19=>wg (aF T G18 aT v19 v16) fun G20=>wv (az T .add ay x7 (.int .i64 1)) fun v21=>R1 [x3,x4,x5,x6,v21] G20)
 (Q (.tuple []) G2))->R1 [x3,x4,x5,x6,x7] G2) ->
 R1 [a0,a1,a2,a3,.int .i64 0] G
def bA.an:Ann:=.two .nil (.loop [0,1,2,3,10] [false,false,false,false,false] (.two .nil (.two (.ord [(0,[]),(1,[]),(2,[]),(3,[]),(4,[]),(5,[]),(6,[]),(7,[]),(8,[]),(9,[]),(10,[]),(11,[]),(12,[]),(13,[]),(14,[]),(15,[]),(16,[]),(17,[]),(18,[]),(19,[]),(20,[]),(21,[]),(22,[]),(23,[])]) .nil)))
theorem bA.sound {a0 a1 a2 a3 a4:ah}(h:bA.S a0 a1 a2 a3 a4 G Q):al P bA.n [a0,a1,a2,a3,a4] G Q:=by
 have e:bA.S a0 a1 a2 a3 a4 G Q=awp cx bA.body bA.an (bG T [] Q) (cC [a0,a1,a2,a3,a4]) G:=by kernel_rfl
 refine aD cF Tryz.func225 ?_ ?_ ?_ (aH ?_ ?_) (by simp[Tryz.f225]) (e.mp h)<;>kernel_rfl
def bK.S (a0 a1 a2 a3 a4:ah) (G:ak) (Q:ah->ak->Prop):Prop:=
 wv (az T .sub ay a2 a1) fun v1=>wv (az T .sub ay a3 a2) fun v2=>∀ R3:List ah->ak->Prop,
 (∀ (x5 x6 x7 x8 x9:ah) (G4:ak),(wv (az T .neq ay x8 x9) fun v10=>brB (some v10)
 (wv (az T .gtr ay x8 x9) fun v11=>brB (some v11)
 (wv (az T .sub ay x6 x8) fun v12=>al P bA.n [x5,v12,x6,x9,x7] G4 fun v13 G14=>wv (az T .sub ay x8 x9) fun v15=>R3 [x5,x6,x7,v15,x9] G14)
 (wv (az T .sub ay x6 x8) fun v16=>wv (az T .add ay x6 x9) fun v17=>wv (az T .sub ay v17 x8) fun v18=>al P bA.n [x5,v16,v18,x8,x7] G4 fun v19 G20=>wv (az T .sub ay x9 x8) fun v21=>R3 [x5,x6,x7,x8,v21] G20))
 (wv (az T .sub ay x6 x8) fun v28=>al P bA.n [x5,v28,x6,x8,x7] G4 fun v29 G30=>Q (.tuple []) G30))->R3 [x5,x6,x7,x8,x9] G4) ->
 R3 [a0,a2,a4,v1,v2] G
def bK.an:Ann:=.two .nil (.two .nil (.two (.loop [0,2,4,10,11] [false,false,false,false,false] .nil) .nil))
theorem bK.sound {a0 a1 a2 a3 a4:ah}(h:bK.S a0 a1 a2 a3 a4 G Q):al P bK.n [a0,a1,a2,a3,a4] G Q:=by
 have e:bK.S a0 a1 a2 a3 a4 G Q=awp cx bK.body bK.an (bG T [] Q) (cC [a0,a1,a2,a3,a4]) G:=by kernel_rfl
 refine aD cF Tryz.func224 ?_ ?_ ?_ (aH ?_ ?_) (by simp[Tryz.f224]) (e.mp h)<;>kernel_rfl
def aY.S (a0 a1 a2 a3 a4:ah) (G:ak) (Q:ah->ak->Prop):Prop:=
 wv (az T .sub ay a2 a1) fun v1=>wv (az T .eql ay v1 (.int .i64 1)) fun v2=>brB (some v2)
 (∀ R3:List ah->ak->Prop,
 (∀ (x5 x6 x7 x8 x9:ah) (G4:ak),(wv (az T .lss ay x8 x9) fun v10=>brB (some v10)
 (wv (az T .add ay x8 x9) fun v11=>wv (gv T G4 ay mJ v11) fun v12=>wv (az T .shr mJ v12 (.int .u64 1)) fun v13=>wv (gv T G4 mJ ay v13) fun v14=>wv (aO T aw x5 v14) fun v15=>wv (ag T G4 aT v15) fun v16=>wv (aO T aw x5 x6) fun v17=>wv (ag T G4 aT v17) fun v18=>oS P x7 [v16,v18] G4 fun v19 G20=>wv (az T .lss ay v19 (.int .i64 0)) fun v21=>brB (some v21)
 (wv (az T .add ay v14 (.int .i64 1)) fun v22=>R3 [x5,x6,x7,v22,x9] G20)
 (R3 [x5,x6,x7,x8,v14] G20))
 (∀ R29:List ah->ak->Prop,
 (∀ (x31 x32 x33:ah) (G30:ak),(wv (az T .sub ay x32 (.int .i64 1)) fun v34=>wv (az T .lss ay x33 v34) fun v35=>brB (some v35)
 (wv (az T .add ay x33 (.int .i64 1)) fun v36=>wv (az T .add ay x33 (.int .i64 1)) fun v37=>wv (aO T aw x31 v37) fun v38=>wv (ag T G30 aT v38) fun v39=>wv (aO T aw x31 x33) fun v40=>wv (ag T G30 aT v40) fun v41=>wv (aO T aw x31 x33) fun v42=>wg (aF T G30 aT v42 v39) fun G43=>wv (aO T aw x31 v36) fun v44=>wg (aF T G43 aT v44 v41) fun G45=>wv (az T .add ay x33 (.int .i64 1)) fun v46=>R29 [x31,x32,v46] G45)
 (Q (.tuple []) G30))->R29 [x31,x32,x33] G30) ->
 R29 [x5,x8,x6] G4))->R3 [x5,x6,x7,x8,x9] G4) ->
 R3 [a0,a1,a4,a2,a3] G)
 (wv (az T .sub ay a3 a2) fun v47=>wv (az T .eql ay v47 (.int .i64 1)) fun v48=>brB (some v48)
 (∀ R49:List ah->ak->Prop,
 (∀ (x51 x52 x53 x54 x55:ah) (G50:ak),(wv (az T .lss ay x54 x55) fun v56=>brB (some v56)
 (wv (az T .add ay x54 x55) fun v57=>wv (gv T G50 ay mJ v57) fun v58=>wv (az T .shr mJ v58 (.int .u64 1)) fun v59=>wv (gv T G50 mJ ay v59) fun v60=>wv (aO T aw x51 x52) fun v61=>wv (ag T G50 aT v61) fun v62=>wv (aO T aw x51 v60) fun v63=>wv (ag T G50 aT v63) fun v64=>oS P x53 [v62,v64] G50 fun v65 G66=>wv (az T .lss ay v65 (.int .i64 0)) fun v67=>wv (vun .not v67) fun v68=>brB (some v68)
 (wv (az T .add ay v60 (.int .i64 1)) fun v69=>R49 [x51,x52,x53,v69,x55] G66)
 (R49 [x51,x52,x53,x54,v60] G66))
 (∀ R76:List ah->ak->Prop,
 (∀ (x78 x79 x80:ah) (G77:ak),(wv (az T .gtr ay x80 x79) fun v81=>brB (some v81)
 (wv (az T .sub ay x80 (.int .i64 1)) fun v82=>wv (az T .sub ay x80 (.int .i64 1)) fun v83=>wv (aO T aw x78 v83) fun v84=>wv (ag T G77 aT v84) fun v85=>wv (aO T aw x78 x80) fun v86=>wv (ag T G77 aT v86) fun v87=>wv (aO T aw x78 x80) fun v88=>wg (aF T G77 aT v88 v85) fun G89=>wv (aO T aw x78 v82) fun v90=>wg (aF T G89 aT v90 v87) fun G91=>wv (az T .sub ay x80 (.int .i64 1)) fun v92=>R76 [x78,x79,v92] G91)
 (Q (.tuple []) G77))->R76 [x78,x79,x80] G77) ->
 R76 [x51,x54,x52] G50))->R49 [x51,x52,x53,x54,x55] G50) ->
 R49 [a0,a2,a4,a1,a2] G)
 (wv (az T .add ay a1 a3) fun v93=>wv (gv T G ay mJ v93) fun v94=>wv (az T .shr mJ v94 (.int .u64 1)) fun v95=>wv (gv T G mJ ay v95) fun v96=>wv (az T .add ay v96 a2) fun v97=>wv (az T .gtr ay a2 v96) fun v98=>let J185:ah->ah->ak->Prop:=(fun x101 x102 G100=>wv (az T .sub ay v97 (.int .i64 1)) fun v103=>∀ R104:List ah->ak->Prop,
 (∀ (x106 x107 x108 x109 x110 x111 x112 x113 x114 x115:ah) (G105:ak),(wv (az T .lss ay x113 x114) fun v116=>brB (some v116)
 (wv (az T .add ay x113 x114) fun v117=>wv (gv T G105 ay mJ v117) fun v118=>wv (az T .shr mJ v118 (.int .u64 1)) fun v119=>wv (gv T G105 mJ ay v119) fun v120=>wv (az T .sub ay x115 v120) fun v121=>wv (aO T aw x106 v121) fun v122=>wv (ag T G105 aT v122) fun v123=>wv (aO T aw x106 v120) fun v124=>wv (ag T G105 aT v124) fun v125=>oS P x110 [v123,v125] G105 fun v126 G127=>wv (az T .lss ay v126 (.int .i64 0)) fun v128=>wv (vun .not v128) fun v129=>brB (some v129)
 (wv (az T .add ay v120 (.int .i64 1)) fun v130=>R104 [x106,x107,x108,x109,x110,x111,x112,v130,x114,x115] G127)
 (R104 [x106,x107,x108,x109,x110,x111,x112,x113,v120,x115] G127))
 (wv (az T .sub ay x112 x113) fun v137=>let J184:ah->ak->Prop:=(fun x141 G140=>let J183:ak->Prop:=(fun G144=>let J182:ah->ak->Prop:=(fun x148 G147=>brB (some x148)
 (al P aY.n [x106,x107,x113,x111,x110] G147 fun v149 G150=>wv (az T .lss ay x111 v137) fun v162=>brB (some v162)
 (wv (az T .lss ay v137 x109) fun v163=>brB (some v163)
 (al P aY.n [x106,x111,v137,x109,x110] G150 fun v169 G170=>Q (.tuple []) G170)
 (Q (.tuple []) G150))
 (Q (.tuple []) G150))
 (wv (az T .lss ay x111 v137) fun v172=>brB (some v172)
 (wv (az T .lss ay v137 x109) fun v173=>brB (some v173)
 (al P aY.n [x106,x111,v137,x109,x110] G147 fun v179 G180=>Q (.tuple []) G180)
 (Q (.tuple []) G147))
 (Q (.tuple []) G147)));
 wv (az T .lss ay x107 x113) fun v145=>brB (some v145)
 (wv (az T .lss ay x113 x111) fun v146=>J182 v146 G144)
 (J182 (.bool false) G144));
 brB (some x141)
 (al P bK.n [x106,x113,x108,v137,x110] G140 fun v142 G143=>J183 G143)
 (J183 G140));
 wv (az T .lss ay x113 x108) fun v138=>brB (some v138)
 (wv (az T .lss ay x108 v137) fun v139=>J184 v139 G105)
 (J184 (.bool false) G105)))->R104 [x106,x107,x108,x109,x110,x111,x112,x113,x114,x115] G105) ->
 R104 [a0,a1,a2,a3,a4,v96,v97,x101,x102,v103] G100);
 brB (some v98)
 (wv (az T .sub ay v97 a3) fun v99=>J185 v99 v96 G)
 (J185 a1 a2 G)))
def aY.an:Ann:=.two (.two .nil (.two (.two .nil (.two .nil (.two (.loop [0,1,4,10,11] [false,false,false,false,false] (.two .nil (.two .nil (.two (.ord [(0,[]),(1,[]),(2,[]),(3,[]),(4,[]),(5,[]),(6,[]),(7,[]),(8,[]),(9,[]),(10,[])]) .nil)))) (.two (.two .nil (.loop [0,10,13] [false,false,false] (.two .nil (.two (.ord [(0,[]),(1,[]),(2,[]),(3,[]),(4,[]),(5,[]),(6,[]),(7,[]),(8,[]),(9,[]),(10,[]),(11,[]),(12,[]),(13,[]),(14,[]),(15,[]),(16,[]),(17,[])]) .nil)))) .nil)))) .nil)) (.two (.two .nil (.two (.two .nil (.two .nil (.two (.loop [0,2,4,14,15] [false,false,false,false,false] (.two .nil (.two .nil (.two (.ord [(0,[]),(1,[]),(2,[]),(3,[]),(4,[]),(5,[]),(6,[]),(7,[]),(8,[]),(9,[]),(10,[]),(11,[])]) .nil)))) (.two (.two .nil (.loop [0,14,17] [false,false,false] (.two .nil (.two (.ord [(0,[]),(1,[]),(2,[]),(3,[]),(4,[]),(5,[]),(6,[]),(7,[]),(8,[]),(9,[]),(10,[]),(11,[]),(12,[]),(13,[]),(14,[]),(15,[]),(16,[]),(17,[])]) .nil)))) .nil)))) .nil)) (.two .nil (.two .nil (.two .nil (.two .nil (.two .nil (.two (.loop [0,1,2,3,4,18,19,20,21,22] [false,false,false,false,false,false,false,false,false,false] (.two .nil (.two .nil (.two (.ord [(0,[]),(1,[]),(2,[]),(3,[]),(4,[]),(5,[]),(6,[]),(7,[]),(8,[]),(9,[]),(10,[]),(11,[]),(12,[]),(13,[])]) .nil)))) .nil)))))))
theorem aY.sound {a0 a1 a2 a3 a4:ah}(h:aY.S a0 a1 a2 a3 a4 G Q):al P aY.n [a0,a1,a2,a3,a4] G Q:=by
 have e:aY.S a0 a1 a2 a3 a4 G Q=awp cx aY.body aY.an (bG T [] Q) (cC [a0,a1,a2,a3,a4]) G:=by kernel_rfl
 refine aD cF Tryz.func223 ?_ ?_ ?_ (aH ?_ ?_) (by simp[Tryz.f223]) (e.mp h)<;>kernel_rfl
def bJ.S (a0 a1 a2:ah) (G:ak) (Q:ah->ak->Prop):Prop:=
 ∀ R1:List ah->ak->Prop,
 (∀ (x3 x4 x5 x6 x7 x8:ah) (G2:ak),(wv (az T .leq ay x8 x4) fun v9=>brB (some v9)
 (al P bh.n [x3,x7,x8,x5] G2 fun v10 G11=>wv (az T .add ay x8 x6) fun v12=>R1 [x3,x4,x5,x6,x8,v12] G11)
 (al P bh.n [x3,x7,x4,x5] G2 fun v13 G14=>∀ R15:List ah->ak->Prop,
 (∀ (x17 x18 x19 x20:ah) (G16:ak),(wv (az T .lss ay x20 x18) fun v21=>brB (some v21)
 (wv (az T .mul ay (.int .i64 2) x20) fun v22=>∀ R23:List ah->ak->Prop,
 (∀ (x25 x26 x27 x28 x29 x30:ah) (G24:ak),(wv (az T .leq ay x30 x26) fun v31=>brB (some v31)
 (wv (az T .add ay x29 x28) fun v32=>al P aY.n [x25,x29,v32,x30,x27] G24 fun v33 G34=>wv (az T .mul ay (.int .i64 2) x28) fun v35=>wv (az T .add ay x30 v35) fun v36=>R23 [x25,x26,x27,x28,x30,v36] G34)
 (wv (az T .add ay x29 x28) fun v37=>wv (az T .lss ay v37 x26) fun v38=>brB (some v38)
 (al P aY.n [x25,x29,v37,x26,x27] G24 fun v39 G40=>wv (az T .mul ay x28 (.int .i64 2)) fun v43=>R15 [x25,x26,x27,v43] G40)
 (wv (az T .mul ay x28 (.int .i64 2)) fun v44=>R15 [x25,x26,x27,v44] G24)))->R23 [x25,x26,x27,x28,x29,x30] G24) ->
 R23 [x17,x18,x19,x20,.int .i64 0,v22] G16)
 (Q (.tuple []) G16))->R15 [x17,x18,x19,x20] G16) ->
 R15 [x3,x4,x5,x6] G14))->R1 [x3,x4,x5,x6,x7,x8] G2) ->
 R1 [a0,a1,a2,.int .i64 20,.int .i64 0,.int .i64 20] G
def bJ.an:Ann:=.two .nil (.two .nil (.two (.loop [0,1,2,6,7,8] [false,false,false,false,false,false] .nil) (.two .nil (.loop [0,1,2,6] [false,false,false,false] (.two .nil (.two .nil (.two (.loop [0,1,2,6,7,8] [false,false,false,false,false,false] .nil) .nil)))))))
theorem bJ.sound {a0 a1 a2:ah}(h:bJ.S a0 a1 a2 G Q):al P bJ.n [a0,a1,a2] G Q:=by
 have e:bJ.S a0 a1 a2 G Q=awp cx bJ.body bJ.an (bG T [] Q) (cC [a0,a1,a2]) G:=by kernel_rfl
 refine aD cF Tryz.func212 ?_ ?_ ?_ (aH ?_ ?_) (by simp[Tryz.f212]) (e.mp h)<;>kernel_rfl
def bc.S (a0 a1:ah) (G:ak) (Q:ah->ak->Prop):Prop:=
 wv (fU T G aw a0) fun v1=>al P bJ.n [a0,v1,a1] G fun v2 G3=>Q (.tuple []) G3
def bc.an:Ann:=.nil
theorem bc.sound {a0 a1:ah}(h:bc.S a0 a1 G Q):al P bc.n [a0,a1] G Q:=by
 have e:bc.S a0 a1 G Q=awp cx bc.body bc.an (bG T [] Q) (cC [a0,a1]) G:=by kernel_rfl
 refine aD cF Tryz.func187 ?_ ?_ ?_ (aH ?_ ?_) (by simp[Tryz.f187]) (e.mp h)<;>kernel_rfl
def fR.S (a0:ah) (G:ak) (Q:ah->ak->Prop):Prop:=
 wv (az T .neq aq a0 a0) fun v1=>Q v1 G
def fR.an:Ann:=.nil
theorem fR.sound {a0:ah}(h:fR.S a0 G Q):al P fR.n [a0] G Q:=by
 have e:fR.S a0 G Q=awp cx fR.body fR.an (bG T [.tmp 2] Q) (cC [a0]) G:=by kernel_rfl
 refine aD cF Tryz.func213 ?_ ?_ ?_ (aH ?_ ?_) (by simp[Tryz.f213]) (e.mp h)<;>kernel_rfl
def fH.S (a0 a1:ah) (G:ak) (Q:ah->ak->Prop):Prop:=
 al P fR.n [a0] G fun v1 G2=>al P fR.n [a1] G2 fun v3 G4=>brB (some v1)
 (brB (some v3)
 (Q (.int .i64 0) G4)
 (Q (.int .i64 (-1)) G4))
 (brB (some v3)
 (Q (.int .i64 1) G4)
 (wv (az T .lss aq a0 a1) fun v5=>brB (some v5)
 (Q (.int .i64 (-1)) G4)
 (wv (az T .gtr aq a0 a1) fun v6=>brB (some v6)
 (Q (.int .i64 1) G4)
 (Q (.int .i64 0) G4))))
def fH.an:Ann:=.nil
theorem fH.sound {a0 a1:ah}(h:fH.S a0 a1 G Q):al P fH.n [a0,a1] G Q:=by
 have e:fH.S a0 a1 G Q=awp cx fH.body fH.an (bG T [.tmp 4] Q) (cC [a0,a1]) G:=by kernel_rfl
 refine aD cF Tryz.func189 ?_ ?_ ?_ (aH ?_ ?_) (by simp[Tryz.f189]) (e.mp h)<;>kernel_rfl
def hI.S (a0 a1:ah) (G:ak) (Q:ah->ak->Prop):Prop:=
 br G (.own a0) fun i1 G2=>br G2 (.own a1) fun i3 G4=>wv (ag T G4 aq (.ptr i1 [1] 1)) fun v5=>wv (ag T G4 aq (.ptr i3 [1] 1)) fun v6=>al P fH.n [v5,v6] G4 fun v7 G8=>Q v7 G8
def hI.an:Ann:=.nil
theorem hI.sound {a0 a1:ah}(h:hI.S a0 a1 G Q):al P hI.n [a0,a1] G Q:=by
 have e:hI.S a0 a1 G Q=awp cx hI.body hI.an (bG T [.tmp 4] Q) (cC [a0,a1]) G:=by kernel_rfl
 refine aD cF Tryz.func188 ?_ ?_ ?_ (aH ?_ ?_) (by simp[Tryz.f188]) (e.mp h)<;>kernel_rfl
end Go.Esc.M
