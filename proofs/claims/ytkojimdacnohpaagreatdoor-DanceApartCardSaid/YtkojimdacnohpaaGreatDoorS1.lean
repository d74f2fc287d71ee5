import Derived.Test.YtkojimdacnohpaaGreatDoorT
set_option linter.unusedSimpArgs false
set_option linter.unusedVariables false
set_option maxRecDepth 100000
namespace Go.Esc.M
open Go Go.Esc Go.Proofs
variable {G:ak}{Q:ah->ak->Prop}
def eR.S (a0 a1 a2 a3:ah) (G:ak) (Q:ah->ak->Prop):Prop:=
 br G (.own a3) fun i1 G2=>wv (az T .lss aq a0 (.int .i64 0)) fun v3=>brB (some v3)
 (Q (.int .i64 0) G2)
 (wv (ag T G2 ay (.ptr i1 [1] 1)) fun v4=>wv (ag T G2 ay (.ptr i1 [0] 0)) fun v5=>al P gI.n [a2,v4] G2 fun v6 G7=>(ag T G7 ay (.ptr i1 [0] 0)=some v5/\True)/\(al P dq.n [v6] G7 fun v8 G9=>(ag T G9 ay (.ptr i1 [0] 0)=some v5/\True)/\(al P gI.n [a1,v5] G9 fun v10 G11=>al P dq.n [v10] G11 fun v12 G13=>br G13 (.own (k6)) fun i14 G15=>br G15 (.own (k6)) fun i16 G17=>wg (aF T G17 dU (.ptr i14 [] 0) v8) fun G18=>wg (aF T G18 dU (.ptr i16 [] 0) v12) fun G19=>wv (bj T bO []) fun v20=>wv (qy a0 (.int .i64 1152921504606846976)) fun v21=>al P cS.n [v20,v21] G19 fun v22 G23=>br G23 (.own (kb)) fun i24 G25=>wg (aF T G25 bO (.ptr i24 [] 0) v22) fun G26=>al P iq.n [a1,.func (.func fX.n) [] [.ptr i14 [] 0]] G26 fun v27 G28=>wv (fU T G28 jf v27) fun v29=>∀ R30:List ah->ak->Prop,
 (∀ (x32 x33 x34 x35 x36 x37:ah) (G31:ak),(wv (az T .lss ay x37 x36) fun v38=>brB (some v38)
 (wv (aO T jf x35 x37) fun v39=>wv (ag T G31 aq v39) fun v40=>wv (ag T G31 bO x34) fun v41=>al P ed.n [v41,v40] G31 fun v42 G43=>wg (aF T G43 bO x34 v42) fun G44=>wv (az T .add ay x37 (.int .i64 1)) fun v45=>R30 [x32,x33,x34,x35,x36,v45] G44)
 (al P iq.n [x32,.func (.func fW.n) [] [x33]] G31 fun v46 G47=>wv (fU T G47 jf v46) fun v48=>∀ R49:List ah->ak->Prop,
 (∀ (x51 x52 x53 x54:ah) (G50:ak),(wv (az T .lss ay x54 x53) fun v55=>brB (some v55)
 (wv (aO T jf x52 x54) fun v56=>wv (ag T G50 aq v56) fun v57=>wv (ag T G50 bO x51) fun v58=>al P cS.n [v58,v57] G50 fun v59 G60=>wg (aF T G60 bO x51 v59) fun G61=>wv (az T .add ay x54 (.int .i64 1)) fun v62=>R49 [x51,x52,x53,v62] G61)
 (wv (ag T G50 bO x51) fun v63=>al P dy.n [v63] G50 fun v64 G65=>wv (zr v64 (.int .i64 0)) fun v66=>wv (qy v66 (.int .i64 1152921504606846976)) fun v67=>Q v67 G65))->R49 [x51,x52,x53,x54] G50) ->
 R49 [x34,v46,v48,.int .i64 0] G47))->R30 [x32,x33,x34,x35,x36,x37] G31) ->
 R30 [a2,.ptr i16 [] 0,.ptr i24 [] 0,v27,v29,.int .i64 0] G28)))
def eR.an:Ann:=.two .nil (.two .nil (.two (.ord [(0,[]),(1,[]),(2,[]),(5,[]),(6,[]),(7,[]),(3,[7]),(4,[7]),(8,[]),(9,[]),(10,[]),(11,[]),(12,[]),(13,[])]) (.two .nil (.two (.two .nil (.loop [2,10,11,34,35,36] [false,false,false,false,false,false] .nil)) (.two (.two .nil (.loop [11,46,47,48] [false,false,false,false] .nil)) .nil)))))
theorem eR.sound {a0 a1 a2 a3:ah}(h:eR.S a0 a1 a2 a3 G Q):al P eR.n [a0,a1,a2,a3] G Q:=by
 have e:eR.S a0 a1 a2 a3 G Q=awp cx eR.body eR.an (bG T [.tmp 8] Q) (cC [a0,a1,a2,a3]) G:=by kernel_rfl
 refine aD cF Tryz.func118 ?_ ?_ ?_ (aH ?_ ?_) (by simp[Tryz.f118]) (e.mp h)<;>kernel_rfl
def eG.S (a0:ah) (G:ak) (Q:ah->ak->Prop):Prop:=
 br G (.own a0) fun i1 G2=>wv (ag T G2 aq (.ptr i1 [2] 2)) fun v3=>wv (ag T G2 aj (.ptr i1 [4] 4)) fun v4=>wv (ag T G2 aj (.ptr i1 [5] 5)) fun v5=>wv (ag T G2 aE (.ptr i1 [] 0)) fun v6=>al P fQ.n [v6] G2 fun v7 G8=>(ag T G8 aj (.ptr i1 [5] 5)=some v5/\ag T G8 aj (.ptr i1 [4] 4)=some v4/\ag T G8 aq (.ptr i1 [2] 2)=some v3/\True)/\(al P eR.n [v3,v4,v5,v7] G8 fun v9 G10=>Q v9 G10)
def eG.an:Ann:=.two .nil (.two (.ord [(0,[]),(1,[]),(2,[]),(3,[]),(4,[]),(5,[]),(6,[]),(7,[1,3,5]),(8,[]),(9,[])]) .nil)
theorem eG.sound {a0:ah}(h:eG.S a0 G Q):al P eG.n [a0] G Q:=by
 have e:eG.S a0 G Q=awp cx eG.body eG.an (bG T [.tmp 2] Q) (cC [a0]) G:=by kernel_rfl
 refine aD cF Tryz.func63 ?_ ?_ ?_ (aH ?_ ?_) (by simp[Tryz.f63]) (e.mp h)<;>kernel_rfl
def gC.S (a0:ah) (G:ak) (Q:ah->ak->Prop):Prop:=
 br G (.own a0) fun i1 G2=>wv (ag T G2 ay (.ptr i1 [16] 113)) fun v3=>wv (az T .neq ay v3 (.int .i64 0)) fun v4=>brB (some v4)
 (Q (.bool true) G2)
 (wv (ag T G2 aq (.ptr i1 [17] 114)) fun v5=>wv (az T .neq aq v5 (.int .i64 (-1))) fun v6=>Q v6 G2)
def gC.an:Ann:=.nil
theorem gC.sound {a0:ah}(h:gC.S a0 G Q):al P gC.n [a0] G Q:=by
 have e:gC.S a0 G Q=awp cx gC.body gC.an (bG T [.tmp 2] Q) (cC [a0]) G:=by kernel_rfl
 refine aD cF Tryz.func77 ?_ ?_ ?_ (aH ?_ ?_) (by simp[Tryz.f77]) (e.mp h)<;>kernel_rfl
def jy.S (a0:ah) (G:ak) (Q:ah->ak->Prop):Prop:=
 br G (.own a0) fun i1 G2=>wv (ag T G2 aj (.ptr i1 [4] 4)) fun v3=>wv (fU T G2 aj v3) fun v4=>wv (az T .geq ay v4 (.int .i64 2048)) fun v5=>brB (some v5)
 (Q (.bool true) G2)
 (wv (ag T G2 aj (.ptr i1 [4] 4)) fun v6=>wv (fU T G2 aj v6) fun v7=>wv (ag T G2 ay (.ptr i1 [11,0] 13)) fun v8=>wv (az T .sub ay v7 v8) fun v9=>wv (az T .geq ay v9 (.int .i64 512)) fun v10=>Q v10 G2)
def jy.an:Ann:=.nil
theorem jy.sound {a0:ah}(h:jy.S a0 G Q):al P jy.n [a0] G Q:=by
 have e:jy.S a0 G Q=awp cx jy.body jy.an (bG T [.tmp 2] Q) (cC [a0]) G:=by kernel_rfl
 refine aD cF Tryz.func78 ?_ ?_ ?_ (aH ?_ ?_) (by simp[Tryz.f78]) (e.mp h)<;>kernel_rfl
def jc.S (a0 a1:ah) (G:ak) (Q:ah->ak->Prop):Prop:=
 wv (ag T G dU a1) fun v1=>wv (jg T G dU v1 a0 false) fun v2=>wv (az T .eql ay v2 (.int .i64 0)) fun v3=>Q v3 G
def jc.an:Ann:=.nil
theorem jc.sound {a0 a1:ah}(h:jc.S a0 a1 G Q):al P jc.n [a0,a1] G Q:=by
 have e:jc.S a0 a1 G Q=awp cx jc.body jc.an (bG T [.tmp 3] Q) (cC [a0,a1]) G:=by kernel_rfl
 refine aD cF Tryz.func144 ?_ ?_ ?_ (aH ?_ ?_) (by simp[Tryz.f144]) (e.mp h)<;>kernel_rfl
def iL.S (a0 a1 a2:ah) (G:ak) (Q:ah->ak->Prop):Prop:=
 al P gI.n [a1,a2] G fun v1 G2=>al P dq.n [v1] G2 fun v3 G4=>br G4 (.own (k6)) fun i5 G6=>wg (aF T G6 dU (.ptr i5 [] 0) v3) fun G7=>al P iq.n [a0,.func (.func jc.n) [] [.ptr i5 [] 0]] G7 fun v8 G9=>wv (fU T G9 jf v8) fun v10=>Q v10 G9
def iL.an:Ann:=.nil
theorem iL.sound {a0 a1 a2:ah}(h:iL.S a0 a1 a2 G Q):al P iL.n [a0,a1,a2] G Q:=by
 have e:iL.S a0 a1 a2 G Q=awp cx iL.body iL.an (bG T [.tmp 6] Q) (cC [a0,a1,a2]) G:=by kernel_rfl
 refine aD cF Tryz.func79 ?_ ?_ ?_ (aH ?_ ?_) (by simp[Tryz.f79]) (e.mp h)<;>kernel_rfl
def jx.S (a0:ah) (G:ak) (Q:ah->ak->Prop):Prop:=
 br G (.own a0) fun i1 G2=>br G2 (.own (dw)) fun i3 G4=>wv (ag T G4 aG (.ptr i1 [] 0)) fun v5=>wv (bj T ax [(0,.int .i64 1),(1,v5)]) fun v6=>wg (aF T G4 ax (.ptr i3 [] 0) v6) fun G7=>wv (ag T G7 ax (.ptr i3 [] 0)) fun v8=>Q v8 G7
def jx.an:Ann:=.nil
theorem jx.sound {a0:ah}(h:jx.S a0 G Q):al P jx.n [a0] G Q:=by
 have e:jx.S a0 G Q=awp cx jx.body jx.an (bG T [.cell 2 78] Q) (cC [a0]) G:=by kernel_rfl
 refine aD cF Tryz.func81 ?_ ?_ ?_ (aH ?_ ?_) (by simp[Tryz.f81]) (e.mp h)<;>kernel_rfl
def gM.S (a0 a1 a2:ah) (G:ak) (Q:ah->ak->Prop):Prop:=
 br G (.own a0) fun i1 G2=>br G2 (.own a2) fun i3 G4=>br G4 (.own (dw)) fun i5 G6=>wv (ag T G6 aE (.ptr i1 [] 0)) fun v7=>al P gC.n [v7] G6 fun v8 G9=>brB (some v8)
 (wv (bj T ax []) fun v10=>wg (aF T G9 ax (.ptr i5 [] 0) v10) fun G11=>wv (ag T G11 ax (.ptr i5 [] 0)) fun v12=>Q (.tuple [v12,.int .i64 220]) G11)
 (let J45:ah->ak->Prop:=(fun x16 G15=>brB (some x16)
 (wv (bj T ax []) fun v17=>wg (aF T G15 ax (.ptr i5 [] 0) v17) fun G18=>wv (ag T G18 ax (.ptr i5 [] 0)) fun v19=>Q (.tuple [v19,.int .i64 80]) G18)
 (wv (ag T G15 aE (.ptr i1 [] 0)) fun v20=>al P jy.n [v20] G15 fun v21 G22=>brB (some v21)
 (wv (bj T ax []) fun v23=>wg (aF T G22 ax (.ptr i5 [] 0) v23) fun G24=>wv (ag T G24 ax (.ptr i5 [] 0)) fun v25=>Q (.tuple [v25,.int .i64 6]) G24)
 (wv (ag T G22 aj (.ptr i1 [4] 4)) fun v26=>wv (ag T G22 aj (.ptr i1 [5] 5)) fun v27=>wv (ag T G22 aE (.ptr i1 [] 0)) fun v28=>al P fQ.n [v28] G22 fun v29 G30=>(ag T G30 aj (.ptr i1 [5] 5)=some v27/\ag T G30 aj (.ptr i1 [4] 4)=some v26/\True)/\(wv (uV T aU v29 1) fun v31=>al P iL.n [v26,v27,v31] G30 fun v32 G33=>wv (az T .geq ay v32 (.int .i64 483)) fun v34=>brB (some v34)
 (wv (bj T ax []) fun v35=>wg (aF T G33 ax (.ptr i5 [] 0) v35) fun G36=>wv (ag T G36 ax (.ptr i5 [] 0)) fun v37=>Q (.tuple [v37,.int .i64 131]) G36)
 (wv (ag T G33 aE (.ptr i1 [] 0)) fun v38=>al P eG.n [v38] G33 fun v39 G40=>wv (az T .gtr aq a1 v39) fun v41=>brB (some v41)
 (wv (bj T ax []) fun v42=>wg (aF T G40 ax (.ptr i5 [] 0) v42) fun G43=>wv (ag T G43 ax (.ptr i5 [] 0)) fun v44=>Q (.tuple [v44,.int .i64 130]) G43)
 (wv (ag T G40 aj (.ptr i1 [4] 4)) fun v46=>wv (fU T G40 aj v46) fun v47=>∀ R48:List ah->ak->Prop,
 (∀ (x50 x51 x52 x53 x54 x55 x56:ah) (G49:ak),(wv (az T .lss ay x56 x55) fun v57=>brB (some v57)
 (wv (aO T aj x54 x56) fun v58=>wv (ag T G49 aG v58) fun v59=>br G49 (.own (dv)) fun i60 G61=>wg (aF T G61 aG (.ptr i60 [] 0) v59) fun G62=>wv (ag T G62 ay (.ptr i60 [0] 0)) fun v63=>wv (az T .eql ay v63 (.int .i64 1)) fun v64=>brB (some v64)
 (wv (az T .add aq x53 (.int .i64 1)) fun v65=>wv (az T .add ay x56 (.int .i64 1)) fun v71=>R48 [x50,x51,x52,v65,x54,x55,v71] G62)
 (wv (az T .add ay x56 (.int .i64 1)) fun v72=>R48 [x50,x51,x52,x53,x54,x55,v72] G62))
 (wv (ag T G49 ar x51) fun v73=>wv (bj T aG [(0,.int .i64 1),(1,x53),(2,x50),(3,v73)]) fun v74=>al P jx.n [v74] G49 fun v75 G76=>wg (aF T G76 ax x52 v75) fun G77=>wv (ag T G77 ax x52) fun v78=>Q (.tuple [v78,.int .i64 0]) G77))->R48 [x50,x51,x52,x53,x54,x55,x56] G49) ->
 R48 [a1,.ptr i3 [] 0,.ptr i5 [] 0,.int .i64 0,v46,v47,.int .i64 0] G40))))));
 wv (az T .lss aq a1 (.int .i64 1)) fun v13=>brB (some v13)
 (J45 (.bool true) G9)
 (wv (az T .gtr aq a1 (.int .i64 1152921504606846976)) fun v14=>J45 v14 G9))
def gM.an:Ann:=.two .nil (.two (.two .nil (.two .nil (.two .nil (.two .nil (.two .nil (.two .nil (.two (.ord [(0,[]),(1,[]),(2,[]),(3,[]),(4,[]),(5,[1,3]),(6,[]),(7,[]),(8,[]),(9,[])]) .nil))))))) (.two .nil (.two (.two .nil (.loop [1,5,6,8,45,46,47] [false,false,false,false,false,false,false] .nil)) .nil)))
theorem gM.sound {a0 a1 a2:ah}(h:gM.S a0 a1 a2 G Q):al P gM.n [a0,a1,a2] G Q:=by
 have e:gM.S a0 a1 a2 G Q=awp cx gM.body gM.an (bG T [.cell 6 78,.tmp 7] Q) (cC [a0,a1,a2]) G:=by kernel_rfl
 refine aD cF Tryz.func31 ?_ ?_ ?_ (aH ?_ ?_) (by simp[Tryz.f31]) (e.mp h)<;>kernel_rfl
def gk.S (a0:ah) (G:ak) (Q:ah->ak->Prop):Prop:=
 wv (az T .geq aq a0 (.int .i64 0)) fun v1=>brB (some v1)
 (wv (az T .leq aq a0 (.int .i64 1152921504606846976)) fun v2=>Q v2 G)
 (Q (.bool false) G)
def gk.an:Ann:=.nil
theorem gk.sound {a0:ah}(h:gk.S a0 G Q):al P gk.n [a0] G Q:=by
 have e:gk.S a0 G Q=awp cx gk.body gk.an (bG T [.tmp 2] Q) (cC [a0]) G:=by kernel_rfl
 refine aD cF Tryz.func86 ?_ ?_ ?_ (aH ?_ ?_) (by simp[Tryz.f86]) (e.mp h)<;>kernel_rfl
def iv.S (a0:ah) (G:ak) (Q:ah->ak->Prop):Prop:=
 br G (.own a0) fun i1 G2=>br G2 (.own (hO)) fun i3 G4=>let J35:ah->ak->Prop:=(fun x21 G20=>brB (some x21)
 (wv (bj T aE []) fun v22=>wg (aF T G20 aE (.ptr i3 [] 0) v22) fun G23=>wv (ag T G23 aE (.ptr i3 [] 0)) fun v24=>Q (.tuple [v24,.int .i64 1]) G23)
 (wv (ag T G20 ay (.ptr i1 [0] 0)) fun v25=>wv (ag T G20 aq (.ptr i1 [1] 1)) fun v26=>wv (ag T G20 aq (.ptr i1 [2] 2)) fun v27=>wv (ag T G20 aq (.ptr i1 [1] 1)) fun v28=>wv (ag T G20 aq (.ptr i1 [2] 2)) fun v29=>wv (az T .sub aq v28 v29) fun v30=>wv (ag T G20 cc (.ptr i1 [6] 99)) fun v31=>wv (bj T aE [(0,v25),(1,v26),(2,v27),(3,v30),(13,v31),(17,.int .i64 (-1))]) fun v32=>wg (aF T G20 aE (.ptr i3 [] 0) v32) fun G33=>wv (ag T G33 aE (.ptr i3 [] 0)) fun v34=>Q (.tuple [v34,.int .i64 0]) G33));
 wv (ag T G4 ay (.ptr i1 [0] 0)) fun v5=>wv (az T .lss ay v5 (.int .i64 0)) fun v6=>brB (some v6)
 (J35 (.bool true) G4)
 (wv (ag T G4 ay (.ptr i1 [0] 0)) fun v7=>wv (az T .gtr ay v7 (.int .i64 1)) fun v8=>brB (some v8)
 (J35 (.bool true) G4)
 (wv (ag T G4 aq (.ptr i1 [1] 1)) fun v9=>wv (az T .lss aq v9 (.int .i64 1)) fun v10=>brB (some v10)
 (J35 (.bool true) G4)
 (wv (ag T G4 aq (.ptr i1 [1] 1)) fun v11=>al P gk.n [v11] G4 fun v12 G13=>wv (vun .not v12) fun v14=>brB (some v14)
 (J35 (.bool true) G13)
 (wv (ag T G13 aq (.ptr i1 [2] 2)) fun v15=>wv (az T .lss aq v15 (.int .i64 0)) fun v16=>brB (some v16)
 (J35 (.bool true) G13)
 (wv (ag T G13 aq (.ptr i1 [2] 2)) fun v17=>wv (ag T G13 aq (.ptr i1 [1] 1)) fun v18=>wv (az T .gtr aq v17 v18) fun v19=>J35 v19 G13)))))
def iv.an:Ann:=.nil
theorem iv.sound {a0:ah}(h:iv.S a0 G Q):al P iv.n [a0] G Q:=by
 have e:iv.S a0 G Q=awp cx iv.body iv.an (bG T [.cell 2 38,.tmp 3] Q) (cC [a0]) G:=by kernel_rfl
 refine aD cF Tryz.func37 ?_ ?_ ?_ (aH ?_ ?_) (by simp[Tryz.f37]) (e.mp h)<;>kernel_rfl
def iS.S (a0:ah) (G:ak) (Q:ah->ak->Prop):Prop:=
 br G (.own a0) fun i1 G2=>br G2 (.own (iP)) fun i3 G4=>wv (ag T G4 ay (.ptr i1 [1] 1)) fun v5=>wv (ag T G4 ay (.ptr i1 [0] 0)) fun v6=>wv (bj T aU [(0,v5),(1,v6)]) fun v7=>wg (aF T G4 aU (.ptr i3 [] 0) v7) fun G8=>wv (ag T G8 aU (.ptr i3 [] 0)) fun v9=>Q v9 G8
def iS.an:Ann:=.nil
theorem iS.sound {a0:ah}(h:iS.S a0 G Q):al P iS.n [a0] G Q:=by
 have e:iS.S a0 G Q=awp cx iS.body iS.an (bG T [.cell 2 35] Q) (cC [a0]) G:=by kernel_rfl
 refine aD cF Tryz.func119 ?_ ?_ ?_ (aH ?_ ?_) (by simp[Tryz.f119]) (e.mp h)<;>kernel_rfl
def cR.S (a0:ah) (G:ak) (Q:ah->ak->Prop):Prop:=
 br G (.own a0) fun i1 G2=>wv (ag T G2 aq (.ptr i1 [3] 3)) fun v3=>wv (ag T G2 aj (.ptr i1 [5] 5)) fun v4=>wv (ag T G2 aj (.ptr i1 [4] 4)) fun v5=>wv (ag T G2 aE (.ptr i1 [] 0)) fun v6=>al P fQ.n [v6] G2 fun v7 G8=>(ag T G8 aj (.ptr i1 [4] 4)=some v5/\ag T G8 aj (.ptr i1 [5] 5)=some v4/\ag T G8 aq (.ptr i1 [3] 3)=some v3/\True)/\(al P iS.n [v7] G8 fun v9 G10=>(ag T G10 aj (.ptr i1 [4] 4)=some v5/\ag T G10 aj (.ptr i1 [5] 5)=some v4/\ag T G10 aq (.ptr i1 [3] 3)=some v3/\True)/\(al P eR.n [v3,v4,v5,v9] G10 fun v11 G12=>Q v11 G12))
def cR.an:Ann:=.two .nil (.two (.ord [(0,[]),(1,[]),(2,[]),(3,[]),(4,[]),(5,[]),(6,[]),(7,[1,3,5]),(8,[1,3,5]),(9,[]),(10,[])]) .nil)
theorem cR.sound {a0:ah}(h:cR.S a0 G Q):al P cR.n [a0] G Q:=by
 have e:cR.S a0 G Q=awp cx cR.body cR.an (bG T [.tmp 2] Q) (cC [a0]) G:=by kernel_rfl
 refine aD cF Tryz.func64 ?_ ?_ ?_ (aH ?_ ?_) (by simp[Tryz.f64]) (e.mp h)<;>kernel_rfl
def jz.S (a0 a1:ah) (G:ak) (Q:ah->ak->Prop):Prop:=
 br G (.own a0) fun i1 G2=>br G2 (.own a1) fun i3 G4=>br G4 (.own (dw)) fun i5 G6=>wv (ag T G6 aj (.ptr i3 [4] 4)) fun v7=>wv (fU T G6 aj v7) fun v8=>wv (ag T G6 ay (.ptr i3 [9,1] 10)) fun v9=>wv (bj T aU [(0,v8),(1,v9)]) fun v10=>br G6 (.own (iP)) fun i11 G12=>wg (aF T G12 aU (.ptr i11 [] 0) v10) fun G13=>wv (ag T G13 aE (.ptr i3 [] 0)) fun v14=>al P gC.n [v14] G13 fun v15 G16=>brB (some v15)
 (wv (bj T ax []) fun v17=>wg (aF T G16 ax (.ptr i5 [] 0) v17) fun G18=>wv (ag T G18 ax (.ptr i5 [] 0)) fun v19=>Q (.tuple [v19,.int .i64 220]) G18)
 (let J36:ah->ak->Prop:=(fun x27 G26=>brB (some x27)
 (wv (bj T ax []) fun v28=>wg (aF T G26 ax (.ptr i5 [] 0) v28) fun G29=>wv (ag T G29 ax (.ptr i5 [] 0)) fun v30=>Q (.tuple [v30,.int .i64 8]) G29)
 (wv (ag T G26 aq (.ptr i3 [7] 7)) fun v31=>wv (az T .gtr aq v31 (.int .i64 281474976710653)) fun v32=>brB (some v32)
 (wv (bj T ax []) fun v33=>wg (aF T G26 ax (.ptr i5 [] 0) v33) fun G34=>wv (ag T G34 ax (.ptr i5 [] 0)) fun v35=>Q (.tuple [v35,.int .i64 90]) G34)
 (wv (ag T G26 aq (.ptr i3 [7] 7)) fun v37=>wv (az T .add aq v37 (.int .i64 1)) fun v38=>wv (ag T G26 aU (.ptr i11 [] 0)) fun v39=>wv (bj T ax [(0,.int .i64 2),(3,v38),(4,v39)]) fun v40=>wg (aF T G26 ax (.ptr i5 [] 0) v40) fun G41=>wv (ag T G41 ax (.ptr i5 [] 0)) fun v42=>Q (.tuple [v42,.int .i64 0]) G41)));
 wv (ag T G16 aq (.ptr i3 [7] 7)) fun v20=>wv (ag T G16 aq (.ptr i3 [8] 8)) fun v21=>wv (az T .neq aq v20 v21) fun v22=>brB (some v22)
 (J36 (.bool true) G16)
 (wv (ag T G16 aU (.ptr i11 [] 0)) fun v23=>wv (ag T G16 aU (.ptr i3 [10] 11)) fun v24=>wv (az T .eql aU v23 v24) fun v25=>J36 v25 G16))
def jz.an:Ann:=.nil
theorem jz.sound {a0 a1:ah}(h:jz.S a0 a1 G Q):al P jz.n [a0,a1] G Q:=by
 have e:jz.S a0 a1 G Q=awp cx jz.body jz.an (bG T [.cell 4 78,.tmp 5] Q) (cC [a0,a1]) G:=by kernel_rfl
 refine aD cF Tryz.func65 ?_ ?_ ?_ (aH ?_ ?_) (by simp[Tryz.f65]) (e.mp h)<;>kernel_rfl
def jE.S (a0 a1:ah) (G:ak) (Q:ah->ak->Prop):Prop:=
 al P gk.n [a0] G fun v1 G2=>wv (vun .not v1) fun v3=>brB (some v3)
 (Q (.tuple [.int .i64 0,.int .i64 80]) G2)
 (al P gk.n [a1] G2 fun v4 G5=>wv (vun .not v4) fun v6=>brB (some v6)
 (Q (.tuple [.int .i64 0,.int .i64 80]) G5)
 (wv (az T .add aq a0 a1) fun v7=>al P gk.n [v7] G5 fun v8 G9=>wv (vun .not v8) fun v10=>brB (some v10)
 (Q (.tuple [.int .i64 0,.int .i64 80]) G9)
 (wv (az T .add aq a0 a1) fun v14=>Q (.tuple [v14,.int .i64 0]) G9)))
def jE.an:Ann:=.nil
theorem jE.sound {a0 a1:ah}(h:jE.S a0 a1 G Q):al P jE.n [a0,a1] G Q:=by
 have e:jE.S a0 a1 G Q=awp cx jE.body jE.an (bG T [.tmp 4,.tmp 5] Q) (cC [a0,a1]) G:=by kernel_rfl
 refine aD cF Tryz.func185 ?_ ?_ ?_ (aH ?_ ?_) (by simp[Tryz.f185]) (e.mp h)<;>kernel_rfl
def jX.S (a0:ah) (G:ak) (Q:ah->ak->Prop):Prop:=
 wv (fU T G jf a0) fun v1=>∀ R2:List ah->ak->Prop,
 (∀ (x4 x5 x6 x7:ah) (G3:ak),(wv (az T .lss ay x7 x6) fun v8=>brB (some v8)
 (wv (aO T jf x5 x7) fun v9=>wv (ag T G3 aq v9) fun v10=>al P jE.n [x4,v10] G3 fun v11 G12=>wv (aP v11 0) fun v13=>wv (aP v11 1) fun v14=>wv (az T .neq bD v14 (.int .i64 0)) fun v15=>brB (some v15)
 (Q (.tuple [.int .i64 0,v14]) G12)
 (wv (az T .add ay x7 (.int .i64 1)) fun v16=>R2 [v13,x5,x6,v16] G12))
 (Q (.tuple [x4,.int .i64 0]) G3))->R2 [x4,x5,x6,x7] G3) ->
 R2 [.int .i64 0,a0,v1,.int .i64 0] G
def jX.an:Ann:=.two .nil (.two .nil (.two (.two .nil (.loop [4,8,9,10] [false,false,false,false] .nil)) .nil))
theorem jX.sound {a0:ah}(h:jX.S a0 G Q):al P jX.n [a0] G Q:=by
 have e:jX.S a0 G Q=awp cx jX.body jX.an (bG T [.tmp 2,.tmp 3] Q) (cC [a0]) G:=by kernel_rfl
 refine aD cF Tryz.func130 ?_ ?_ ?_ (aH ?_ ?_) (by simp[Tryz.f130]) (e.mp h)<;>kernel_rfl
def bx.S (a0 a1:ah) (G:ak) (Q:ah->ak->Prop):Prop:=
 wv (fU T G aj a0) fun v1=>∀ R2:List ah->ak->Prop,
 (∀ (x4 x5 x6 x7:ah) (G3:ak),(wv (az T .lss ay x7 x6) fun v8=>brB (some v8)
 (wv (aO T aj x4 x7) fun v9=>wv (ag T G3 aG v9) fun v10=>oS P x5 [v10] G3 fun v11 G12=>brB (some v11)
 (Q x7 G12)
 (wv (az T .add ay x7 (.int .i64 1)) fun v13=>R2 [x4,x5,x6,v13] G12))
 (Q (.int .i64 (-1)) G3))->R2 [x4,x5,x6,x7] G3) ->
 R2 [a0,a1,v1,.int .i64 0] G
def bx.an:Ann:=.two .nil (.two (.two .nil (.loop [0,1,7,8] [false,false,false,false] .nil)) .nil)
theorem bx.sound {a0 a1:ah}(h:bx.S a0 a1 G Q):al P bx.n [a0,a1] G Q:=by
 have e:bx.S a0 a1 G Q=awp cx bx.body bx.an (bG T [.tmp 4] Q) (cC [a0,a1]) G:=by kernel_rfl
 refine aD cF Tryz.func186 ?_ ?_ ?_ (aH ?_ ?_) (by simp[Tryz.f186]) (e.mp h)<;>kernel_rfl
def bd.S (a0 a1:ah) (G:ak) (Q:ah->ak->Prop):Prop:=
 al P bx.n [a0,a1] G fun v1 G2=>wv (az T .geq ay v1 (.int .i64 0)) fun v3=>Q v3 G2
def bd.an:Ann:=.nil
theorem bd.sound {a0 a1:ah}(h:bd.S a0 a1 G Q):al P bd.n [a0,a1] G Q:=by
 have e:bd.S a0 a1 G Q=awp cx bd.body bd.an (bG T [.tmp 4] Q) (cC [a0,a1]) G:=by kernel_rfl
 refine aD cF Tryz.func131 ?_ ?_ ?_ (aH ?_ ?_) (by simp[Tryz.f131]) (e.mp h)<;>kernel_rfl
def gu.S (a0:ah) (G:ak) (Q:ah->ak->Prop):Prop:=
 br G (.own a0) fun i1 G2=>wv (ag T G2 aG (.ptr i1 [] 0)) fun v3=>al P gj.n [v3] G2 fun v4 G5=>wv (vun .not v4) fun v6=>Q v6 G5
def gu.an:Ann:=.nil
theorem gu.sound {a0:ah}(h:gu.S a0 G Q):al P gu.n [a0] G Q:=by
 have e:gu.S a0 G Q=awp cx gu.body gu.an (bG T [.tmp 2] Q) (cC [a0]) G:=by kernel_rfl
 refine aD cF Tryz.func132 ?_ ?_ ?_ (aH ?_ ?_) (by simp[Tryz.f132]) (e.mp h)<;>kernel_rfl
def bh.S (a0 a1 a2 a3:ah) (G:ak) (Q:ah->ak->Prop):Prop:=
 wv (az T .add ay a1 (.int .i64 1)) fun v1=>∀ R2:List ah->ak->Prop,
 (∀ (x4 x5 x6 x7 x8:ah) (G3:ak),(wv (az T .lss ay x8 x6) fun v9=>brB (some v9)
 (∀ R10:List ah->ak->Prop,
 (∀ (x12 x13 x14 x15 x16 x17:ah) (G11:ak),(let J40:ah->ak->Prop:=(fun x28 G27=>brB (some x28)
 (wv (az T .sub ay x17 (.int .i64 1)) fun v29=>wv (az T .sub ay x17 (.int .i64 1)) fun v30=>wv (aO T aw x12 v30) fun v31=>wv (ag T G27 aT v31) fun v32=>wv (aO T aw x12 x17) fun v33=>wv (ag T G27 aT v33) fun v34=>wv (aO T aw x12 x17) fun v35=>wg (aF T G27 aT v35 v32) fun G36=>wv (aO T aw x12 v29) fun v37=>wg (aF T G36 aT v37 v34) fun G38=>wv (az T .sub ay x17 (.int .i64 1)) fun v39=>R10 [x12,x13,x14,x15,x16,v39] G38)
 (wv (az T .add ay x16 (.int .i64 1)) fun v41=>R2 [x12,x13,x14,x15,v41] G27));
 wv (az T .gtr ay x17 x13) fun v18=>brB (some v18)
 (wv (aO T aw x12 x17) fun v19=>wv (ag T G11 aT v19) fun v20=>wv (az T .sub ay x17 (.int .i64 1)) fun v21=>wv (aO T aw x12 v21) fun v22=>wv (ag T G11 aT v22) fun v23=>oS P x15 [v20,v23] G11 fun v24 G25=>wv (az T .lss ay v24 (.int .i64 0)) fun v26=>J40 v26 G25)
 (J40 (.bool false) G11))->R10 [x12,x13,x14,x15,x16,x17] G11) ->
 R10 [x4,x5,x6,x7,x8,x8] G3)
 (Q (.tuple []) G3))->R2 [x4,x5,x6,x7,x8] G3) ->
 R2 [a0,a1,a2,a3,v1] G
def bh.an:Ann:=.two .nil (.loop [0,1,2,3,8] [false,false,false,false,false] (.two .nil (.two (.two .nil (.loop [0,1,2,3,8,9] [false,false,false,false,false,false] (.two (.two (.ord [(0,[]),(1,[]),(2,[]),(3,[]),(4,[]),(5,[]),(6,[]),(7,[]),(8,[]),(9,[]),(10,[]),(11,[]),(12,[]),(13,[]),(14,[]),(15,[]),(16,[])]) .nil) (.two (.ord [(0,[]),(1,[]),(2,[]),(3,[]),(4,[]),(5,[]),(6,[]),(7,[]),(8,[]),(9,[]),(10,[]),(11,[]),(12,[]),(13,[]),(14,[]),(15,[]),(16,[]),(17,[])]) .nil)))) .nil)))
theorem bh.sound {a0 a1 a2 a3:ah}(h:bh.S a0 a1 a2 a3 G Q):al P bh.n [a0,a1,a2,a3] G Q:=by
 have e:bh.S a0 a1 a2 a3 G Q=awp cx bh.body bh.an (bG T [] Q) (cC [a0,a1,a2,a3]) G:=by kernel_rfl
 refine aD cF Tryz.func222 ?_ ?_ ?_ (aH ?_ ?_) (by simp[Tryz.f222]) (e.mp h)<;>kernel_rfl
def bA.S (a0 a1 a2 a3 a4:ah) (G:ak) (Q:ah->ak->Prop):Prop:=
 ∀ R1:List ah->ak->Prop,
 (∀ (x3 x4 x5 x6 x7:ah) (G2:ak),(wv (az T .lss ay x7 x6) fun v8=>brB (some v8)
 (wv (az T .add ay x4 x7) fun v9=>wv (az T .add ay x5 x7) fun v10=>wv (az T .add ay x5 x7) fun v11=>wv (aO T aw x3 v11) fun v12=>wv (ag T G2 aT v12) fun v13=>wv (az T .add ay x4 x7) fun v14=>wv (aO T aw x3 v14) fun v15=>wv (ag T G2 aT v15) fun v16=>wv (aO T aw x3 v9) fun v17=>wg (aF T G2 aT v17 v13) fun G18=>wv (aO T aw x3 v10) fun v19=>wg (aF T G18 aT v19 v16) fun G20=>wv (az T .add ay x7 (.int .i64 1)) fun v21=>R1 [x3,x4,x5,x6,v21] G20)
 (Q (.tuple []) G2))->R1 [x3,x4,x5,x6,x7] G2) ->
 R1 [a0,a1,a2,a3,.int .i64 0] G
def bA.an:Ann:=.two .nil (.loop [0,1,2,3,10] [false,false,false,false,false] (.two .nil (.two (.ord [(0,[]),(1,[]),(2,[]),(3,[]),(4,[]),(5,[]),(6,[]),(7,[]),(8,[]),(9,[]),(10,[]),(11,[]),(12,[]),(13,[]),(14,[]),(15,[]),(16,[]),(17,[]),(18,[]),(19,[]),(20,[]),(21,[]),(22,[]),(23,[])]) .nil)))
theorem bA.sound {a0 a1 a2 a3 a4:ah}(h:bA.S a0 a1 a2 a3 a4 G Q):al P bA.n [a0,a1,a2,a3,a4] G Q:=by
 have e:bA.S a0 a1 a2 a3 a4 G Q=awp cx bA.body bA.an (bG T [] Q) (cC [a0,a1,a2,a3,a4]) G:=by kernel_rfl
 refine aD cF Tryz.func225 ?_ ?_ ?_ (aH ?_ ?_) (by simp[Tryz.f225]) (e.mp h)<;>kernel_rfl
def bK.S (a0 a1 a2 a3 a4:ah) (G:ak) (Q:ah->ak->Prop):Prop:=
 wv (az T .sub ay a2 a1) fun v1=>wv (az T .sub ay a3 a2) fun v2=>∀ R3:List ah->ak->Prop,
 (∀ (x5 x6 x7 x8 x9:ah) (G4:ak),(wv (az T .neq ay x8 x9) fun v10=>brB (some v10)
 (wv (az T .gtr ay x8 x9) fun v11=>brB (some v11)
 (wv (az T .sub ay x6 x8) fun v12=>al P bA.n [x5,v12,x6,x9,x7] G4 fun v13 G14=>wv (az T .sub ay x8 x9) fun v15=>R3 [x5,x6,x7,v15,x9] G14)
 (wv (az T .sub ay x6 x8) fun v16=>wv (az T .add ay x6 x9) fun v17=>wv (az T .sub ay v17 x8) fun v18=>al P bA.n [x5,v16,v18,x8,x7] G4 fun v19 G20=>wv (az T .sub ay x9 x8) fun v21=>R3 [x5,x6,x7,x8,v21] G20))
 (wv (az T .sub ay x6 x8) fun v28=>al P bA.n [x5,v28,x6,x8,x7] G4 fun v29 G30=>Q (.tuple []) G30))->R3 [x5,x6,x7,x8,x9] G4) ->
 R3 [a0,a2,a4,v1,v2] G
def bK.an:Ann:=.two .nil (.two .nil (.two (.loop [0,2,4,10,11] [false,false,false,false,false] .nil) .nil))
theorem bK.sound {a0 a1 a2 a3 a4:ah}(h:bK.S a0 a1 a2 a3 a4 G Q):al P bK.n [a0,a1,a2,a3,a4] G Q:=by
 have e:bK.S a0 a1 a2 a3 a4 G Q=awp cx bK.body bK.an (bG T [] Q) (cC [a0,a1,a2,a3,a4]) G:=by kernel_rfl
 refine aD cF Tryz.func224 ?_ ?_ ?_ (aH ?_ ?_) (by simp[Tryz.f224]) (e.mp h)<;>kernel_rfl
def aY.S (a0 a1 a2 a3 a4:ah) (G:ak) (Q:ah->ak->Prop):Prop:=
 wv (az T .sub ay a2 a1) fun v1=>wv (az T .eql ay v1 (.int .i64 1)) fun v2=>brB (some v2)
 (∀ R3:List ah->ak->Prop,
 (∀ (x5 x6 x7 x8 x9:ah) (G4:ak),(wv (az T .lss ay x8 x9) fun v10=>brB (some v10)
 (wv (az T .add ay x8 x9) fun v11=>wv (gv T G4 ay mJ v11) fun v12=>wv (az T .shr mJ v12 (.int .u64 1)) fun v13=>wv (gv T G4 mJ ay v13) fun v14=>wv (aO T aw x5 v14) fun v15=>wv (ag T G4 aT v15) fun v16=>wv (aO T aw x5 x6) fun v17=>wv (ag T G4 aT v17) fun v18=>oS P x7 [v16,v18] G4 fun v19 G20=>wv (az T .lss ay v19 (.int .i64 0)) fun v21=>brB (some v21)
 (wv (az T .add ay v14 (.int .i64 1)) fun v22=>R3 [x5,x6,x7,v22,x9] G20)
 (R3 [x5,x6,x7,x8,v14] G20))
 (∀ R29:List ah->ak->Prop,
 (∀ (x31 x32 x33:ah) (G30:ak),(wv (az T .sub ay x32 (.int .i64 1)) fun v34=>wv (az T .lss ay x33 v34) fun v35=>brB (some v35)
 (wv (az T .add ay x33 (.int .i64 1)) fun v36=>wv (az T .add ay x33 (.int .i64 1)) fun v37=>wv (aO T aw x31 v37) fun v38=>wv (ag T G30 aT v38) fun v39=>wv (aO T aw x31 x33) fun v40=>wv (ag T G30 aT v40) fun v41=>wv (aO T aw x31 x33) fun v42=>wg (aF T G30 aT v42 v39) fun G43=>wv (aO T aw x31 v36) fun v44=>wg (aF T G43 aT v44 v41) fun G45=>wv (az T .add ay x33 (.int .i64 1)) fun v46=>R29 [x31,x32,v46] G45)
 (Q (.tuple []) G30))->R29 [x31,x32,x33] G30) ->
 R29 [x5,x8,x6] G4))->R3 [x5,x6,x7,x8,x9] G4) ->
 R3 [a0,a1,a4,a2,a3] G)
 (wv (az T .sub ay a3 a2) fun v47=>wv (az T .eql ay v47 (.int .i64 1)) fun v48=>brB (some v48)
 (∀ R49:List ah->ak->Prop,
 (∀ (x51 x52 x53 x54 x55:ah) (G50:ak),(wv (az T .lss ay x54 x55) fun v56=>brB (some v56)
 (wv (az T .add ay x54 x55) fun v57=>wv (gv T G50 ay mJ v57) fun v58=>wv (az T .shr mJ v58 (.int .u64 1)) fun v59=>wv (gv T G50 mJ ay v59) fun v60=>wv (aO T aw x51 x52) fun v61=>wv (ag T G50 aT v61) fun v62=>wv (aO T aw x51 v60) fun v63=>wv (ag T G50 aT v63) fun v64=>oS P x53 [v62,v64] G50 fun v65 G66=>wv (az T .lss ay v65 (.int .i64 0)) fun v67=>wv (vun .not v67) fun v68=>brB (some v68)
 (wv (az T .add ay v60 (.int .i64 1)) fun v69=>R49 [x51,x52,x53,v69,x55] G66)
 (R49 [x51,x52,x53,x54,v60] G66))
 (∀ R76:List ah->ak->Prop,
 (∀ (x78 x79 x80:ah) (G77:ak),(wv (az T .gtr ay x80 x79) fun v81=>brB (some v81)
 (wv (az T .sub ay x80 (.int .i64 1)) fun v82=>wv (az T .sub ay x80 (.int .i64 1)) fun v83=>wv (aO T aw x78 v83) fun v84=>wv (ag T G77 aT v84) fun v85=>wv (aO T aw x78 x80) fun v86=>wv (ag T G77 aT v86) fun v87=>wv (aO T aw x78 x80) fun v88=>wg (aF T G77 aT v88 v85) fun G89=>wv (aO T aw x78 v82) fun v90=>wg (aF T G89 aT v90 v87) fun G91=>wv (az T .sub ay x80 (.int .i64 1)) fun v92=>R76 [x78,x79,v92] G91)
 (Q (.tuple []) G77))->R76 [x78,x79,x80] G77) ->
 R76 [x51,x54,x52] G50))->R49 [x51,x52,x53,x54,x55] G50) ->
 R49 [a0,a2,a4,a1,a2] G)
 (wv (az T .add ay a1 a3) fun v93=>wv (gv T G ay mJ v93) fun v94=>wv (az T .shr mJ v94 (.int .u64 1)) fun v95=>wv (gv T G mJ ay v95) fun v96=>wv (az T .add ay v96 a2) fun v97=>wv (az T .gtr ay a2 v96) fun v98=>let J185:ah->ah->ak->Prop:=(fun x101 x102 G100=>wv (az T .sub ay v97 (.int .i64 1)) fun v103=>∀ R104:List ah->ak->Prop,
 (∀ (x106 x107 x108 x109 x110 x111 x112 x113 x114 x115:ah) (G105:ak),(wv (az T .lss ay x113 x114) fun v116=>brB (some v116)
 (wv (az T .add ay x113 x114) fun v117=>wv (gv T G105 ay mJ v117) fun v118=>wv (az T .shr mJ v118 (.int .u64 1)) fun v119=>wv (gv T G105 mJ ay v119) fun v120=>wv (az T .sub ay x115 v120) fun v121=>wv (aO T aw x106 v121) fun v122=>wv (ag T G105 aT v122) fun v123=>wv (aO T aw x106 v120) fun v124=>wv (ag T G105 aT v124) fun v125=>oS P x110 [v123,v125] G105 fun v126 G127=>wv (az T .lss ay v126 (.int .i64 0)) fun v128=>wv (vun .not v128) fun v129=>brB (some v129)
 (wv (az T .add ay v120 (.int .i64 1)) fun v130=>R104 [x106,x107,x108,x109,x110,x111,x112,v130,x114,x115] G127)
 (R104 [x106,x107,x108,x109,x110,x111,x112,x113,v120,x115] G127))
 (wv (az T .sub ay x112 x113) fun v137=>let J184:ah->ak->Prop:=(fun x141 G140=>let J183:ak->Prop:=(fun G144=>let J182:ah->ak->Prop:=(fun x148 G147=>brB (some x148)
 (al P aY.n [x106,x107,x113,x111,x110] G147 fun v149 G150=>wv (az T .lss ay x111 v137) fun v162=>brB (some v162)
 (wv (az T .lss ay v137 x109) fun v163=>brB (some v163)
 (al P aY.n [x106,x111,v137,x109,x110] G150 fun v169 G170=>Q (.tuple []) G170)
 (Q (.tuple []) G150))
 (Q (.tuple []) G150))
 (wv (az T .lss ay x111 v137) fun v172=>brB (some v172)
 (wv (az T .lss ay v137 x109) fun v173=>brB (some v173)
 (al P aY.n [x106,x111,v137,x109,x110] G147 fun v179 G180=>Q (.tuple []) G180)
 (Q (.tuple []) G147))
 (Q (.tuple []) G147)));
 wv (az T .lss ay x107 x113) fun v145=>brB (some v145)
 (wv (az T .lss ay x113 x111) fun v146=>J182 v146 G144)
 (J182 (.bool false) G144));
 brB (some x141)
 (al P bK.n [x106,x113,x108,v137,x110] G140 fun v142 G143=>J183 G143)
 (J183 G140));
 wv (az T .lss ay x113 x108) fun v138=>brB (some v138)
 (wv (az T .lss ay x108 v137) fun v139=>J184 v139 G105)
 (J184 (.bool false) G105)))->R104 [x106,x107,x108,x109,x110,x111,x112,x113,x114,x115] G105) ->
 R104 [a0,a1,a2,a3,a4,v96,v97,x101,x102,v103] G100);
 brB (some v98)
 (wv (az T .sub ay v97 a3) fun v99=>J185 v99 v96 G)
 (J185 a1 a2 G)))
def aY.an:Ann:=.two (.two .nil (.two (.two .nil (.two .nil (.two (.loop [0,1,4,10,11] [false,false,false,false,false] (.two .nil (.two .nil (.two (.ord [(0,[]),(1,[]),(2,[]),(3,[]),(4,[]),(5,[]),(6,[]),(7,[]),(8,[]),(9,[]),(10,[])]) .nil)))) (.two (.two .nil (.loop [0,10,13] [false,false,false] (.two .nil (.two (.ord [(0,[]),(1,[]),(2,[]),(3,[]),(4,[]),(5,[]),(6,[]),(7,[]),(8,[]),(9,[]),(10,[]),(11,[]),(12,[]),(13,[]),(14,[]),(15,[]),(16,[]),(17,[])]) .nil)))) .nil)))) .nil)) (.two (.two .nil (.two (.two .nil (.two .nil (.two (.loop [0,2,4,14,15] [false,false,false,false,false] (.two .nil (.two .nil (.two (.ord [(0,[]),(1,[]),(2,[]),(3,[]),(4,[]),(5,[]),(6,[]),(7,[]),(8,[]),(9,[]),(10,[]),(11,[])]) .nil)))) (.two (.two .nil (.loop [0,14,17] [false,false,false] (.two .nil (.two (.ord [(0,[]),(1,[]),(2,[]),(3,[]),(4,[]),(5,[]),(6,[]),(7,[]),(8,[]),(9,[]),(10,[]),(11,[]),(12,[]),(13,[]),(14,[]),(15,[]),(16,[]),(17,[])]) .nil)))) .nil)))) .nil)) (.two .nil (.two .nil (.two .nil (.two .nil (.two .nil (.two (.loop [0,1,2,3,4,18,19,20,21,22] [false,false,false,false,false,false,false,false,false,false] (.two .nil (.two .nil (.two (.ord [(0,[]),(1,[]),(2,[]),(3,[]),(4,[]),(5,[]),(6,[]),(7,[]),(8,[]),(9,[]),(10,[]),(11,[]),(12,[]),(13,[])]) .nil)))) .nil)))))))
theorem aY.sound {a0 a1 a2 a3 a4:ah}(h:aY.S a0 a1 a2 a3 a4 G Q):al P aY.n [a0,a1,a2,a3,a4] G Q:=by
 have e:aY.S a0 a1 a2 a3 a4 G Q=awp cx aY.body aY.an (bG T [] Q) (cC [a0,a1,a2,a3,a4]) G:=by kernel_rfl
 refine aD cF Tryz.func223 ?_ ?_ ?_ (aH ?_ ?_) (by simp[Tryz.f223]) (e.mp h)<;>kernel_rfl
def bJ.S (a0 a1 a2:ah) (G:ak) (Q:ah->ak->Prop):Prop:=
 ∀ R1:List ah->ak->Prop,
 (∀ (x3 x4 x5 x6 x7 x8:ah) (G2:ak),(wv (az T .leq ay x8 x4) fun v9=>brB (some v9)
 (al P bh.n [x3,x7,x8,x5] G2 fun v10 G11=>wv (az T .add ay x8 x6) fun v12=>R1 [x3,x4,x5,x6,x8,v12] G11)
 (al P bh.n [x3,x7,x4,x5] G2 fun v13 G14=>∀ R15:List ah->ak->Prop,
 (∀ (x17 x18 x19 x20:ah) (G16:ak),(wv (az T .lss ay x20 x18) fun v21=>brB (some v21)
 (wv (az T .mul ay (.int .i64 2) x20) fun v22=>∀ R23:List ah->ak->Prop,
 (∀ (x25 x26 x27 x28 x29 x30:ah) (G24:ak),(wv (az T .leq ay x30 x26) fun v31=>brB (some v31)
 (wv (az T .add ay x29 x28) fun v32=>al P aY.n [x25,x29,v32,x30,x27] G24 fun v33 G34=>wv (az T .mul ay (.int .i64 2) x28) fun v35=>wv (az T .add ay x30 v35) fun v36=>R23 [x25,x26,x27,x28,x30,v36] G34)
 (wv (az T .add ay x29 x28) fun v37=>wv (az T .lss ay v37 x26) fun v38=>brB (some v38)
 (al P aY.n [x25,x29,v37,x26,x27] G24 fun v39 G40=>wv (az T .mul ay x28 (.int .i64 2)) fun v43=>R15 [x25,x26,x27,v43] G40)
 (wv (az T .mul ay x28 (.int .i64 2)) fun v44=>R15 [x25,x26,x27,v44] G24)))->R23 [x25,x26,x27,x28,x29,x30] G24) ->
 R23 [x17,x18,x19,x20,.int .i64 0,v22] G16)
 (Q (.tuple []) G16))->R15 [x17,x18,x19,x20] G16) ->
 R15 [x3,x4,x5,x6] G14))->R1 [x3,x4,x5,x6,x7,x8] G2) ->
 R1 [a0,a1,a2,.int .i64 20,.int .i64 0,.int .i64 20] G
def bJ.an:Ann:=.two .nil (.two .nil (.two (.loop [0,1,2,6,7,8] [false,false,false,false,false,false] .nil) (.two .nil (.loop [0,1,2,6] [false,false,false,false] (.two .nil (.two .nil (.two (.loop [0,1,2,6,7,8] [false,false,false,false,false,false] .nil) .nil)))))))
theorem bJ.sound {a0 a1 a2:ah}(h:bJ.S a0 a1 a2 G Q):al P bJ.n [a0,a1,a2] G Q:=by
 have e:bJ.S a0 a1 a2 G Q=awp cx bJ.body bJ.an (bG T [] Q) (cC [a0,a1,a2]) G:=by kernel_rfl
 refine aD cF Tryz.func212 ?_ ?_ ?_ (aH ?_ ?_) (by simp[Tryz.f212]) (e.mp h)<;>kernel_rfl
def bc.S (a0 a1:ah) (G:ak) (Q:ah->ak->Prop):Prop:=
 wv (fU T G aw a0) fun v1=>al P bJ.n [a0,v1,a1] G fun v2 G3=>Q (.tuple []) G3
def bc.an:Ann:=.nil
theorem bc.sound {a0 a1:ah}(h:bc.S a0 a1 G Q):al P bc.n [a0,a1] G Q:=by
 have e:bc.S a0 a1 G Q=awp cx bc.body bc.an (bG T [] Q) (cC [a0,a1]) G:=by kernel_rfl
 refine aD cF Tryz.func187 ?_ ?_ ?_ (aH ?_ ?_) (by simp[Tryz.f187]) (e.mp h)<;>kernel_rfl
def fR.S (a0:ah) (G:ak) (Q:ah->ak->Prop):Prop:=
 wv (az T .neq aq a0 a0) fun v1=>Q v1 G
def fR.an:Ann:=.nil
theorem fR.sound {a0:ah}(h:fR.S a0 G Q):al P fR.n [a0] G Q:=by
 have e:fR.S a0 G Q=awp cx fR.body fR.an (bG T [.tmp 2] Q) (cC [a0]) G:=by kernel_rfl
 refine aD cF Tryz.func213 ?_ ?_ ?_ (aH ?_ ?_) (by simp[Tryz.f213]) (e.mp h)<;>kernel_rfl
def fH.S (a0 a1:ah) (G:ak) (Q:ah->ak->Prop):Prop:=
 al P fR.n [a0] G fun v1 G2=>al P fR.n [a1] G2 fun v3 G4=>brB (some v1)
 (brB (some v3)
 (Q (.int .i64 0) G4)
 (Q (.int .i64 (-1)) G4))
 (brB (some v3)
 (Q (.int .i64 1) G4)
 (wv (az T .lss aq a0 a1) fun v5=>brB (some v5)
 (Q (.int .i64 (-1)) G4)
 (wv (az T .gtr aq a0 a1) fun v6=>brB (some v6)
 (Q (.int .i64 1) G4)
 (Q (.int .i64 0) G4))))
def fH.an:Ann:=.nil
theorem fH.sound {a0 a1:ah}(h:fH.S a0 a1 G Q):al P fH.n [a0,a1] G Q:=by
 have e:fH.S a0 a1 G Q=awp cx fH.body fH.an (bG T [.tmp 4] Q) (cC [a0,a1]) G:=by kernel_rfl
 refine aD cF Tryz.func189 ?_ ?_ ?_ (aH ?_ ?_) (by simp[Tryz.f189]) (e.mp h)<;>kernel_rfl
def hI.S (a0 a1:ah) (G:ak) (Q:ah->ak->Prop):Prop:=
 br G (.own a0) fun i1 G2=>br G2 (.own a1) fun i3 G4=>wv (ag T G4 aq (.ptr i1 [1] 1)) fun v5=>wv (ag T G4 aq (.ptr i3 [1] 1)) fun v6=>al P fH.n [v5,v6] G4 fun v7 G8=>Q v7 G8
def hI.an:Ann:=.nil
theorem hI.sound {a0 a1:ah}(h:hI.S a0 a1 G Q):al P hI.n [a0,a1] G Q:=by
 have e:hI.S a0 a1 G Q=awp cx hI.body hI.an (bG T [.tmp 4] Q) (cC [a0,a1]) G:=by kernel_rfl
 refine aD cF Tryz.func188 ?_ ?_ ?_ (aH ?_ ?_) (by simp[Tryz.f188]) (e.mp h)<;>kernel_rfl
def iK.S (a0 a1 a2 a3 a4:ah) (G:ak) (Q:ah->ak->Prop):Prop:=
 br G (.own a3) fun i1 G2=>br G2 (.own a4) fun i3 G4=>br G4 (.own (kb)) fun i5 G6=>br G6 (.own (kb)) fun i7 G8=>wv (fU T G8 aj a0) fun v9=>∀ R10:List ah->ak->Prop,
 (∀ (x12 x13 x14 x15 x16 x17 x18 x19 x20 x21:ah) (G11:ak),(wv (az T .lss ay x21 x20) fun v22=>brB (some v22)
 (let J62:ah->ak->Prop:=(fun x60 G59=>wv (az T .add ay x21 (.int .i64 1)) fun v61=>R10 [x12,x13,x14,x15,x16,x17,x60,x19,x20,v61] G59);
 wv (aO T aj x19 x21) fun v23=>wv (ag T G11 aG v23) fun v24=>br G11 (.own (dv)) fun i25 G26=>wg (aF T G26 aG (.ptr i25 [] 0) v24) fun G27=>let J58:ah->ak->Prop:=(fun x34 G33=>brB (some x34)
 (J62 x18 G33)
 (wv (ag T G33 bO x14) fun v35=>wv (ag T G33 aq (.ptr i25 [2] 2)) fun v36=>al P ed.n [v35,v36] G33 fun v37 G38=>wg (aF T G38 bO x14 v37) fun G39=>wv (ag T G39 aq (.ptr i25 [1] 1)) fun v40=>wv (jg T G39 dU x12 v40 false) fun v41=>wv (az T .eql ay v41 (.int .i64 2)) fun v42=>brB (some v42)
 (wv (ag T G39 bO x15) fun v43=>wv (ag T G39 aq (.ptr i25 [2] 2)) fun v44=>al P cS.n [v43,v44] G39 fun v45 G46=>wg (aF T G46 bO x15 v45) fun G47=>J62 x18 G47)
 (wv (ag T G39 aq (.ptr i25 [1] 1)) fun v48=>wv (ag T G39 aq (.ptr i25 [2] 2)) fun v49=>wv (ag T G39 ar (.ptr i25 [3] 3)) fun v50=>wv (bj T aT [(0,x13),(1,v48),(2,v49),(3,v50)]) fun v51=>bu T aw 1 [(0,v51)] G39 fun v52 G53=>cn T G53 aw aw x18 v52 fun v54 G55=>J62 v54 G55)));
 wv (ag T G27 ay (.ptr i25 [0] 0)) fun v28=>wv (az T .neq ay v28 (.int .i64 1)) fun v29=>brB (some v29)
 (J58 (.bool true) G27)
 (wv (ag T G27 aq (.ptr i25 [1] 1)) fun v30=>wv (jg T G27 dU x12 v30 false) fun v31=>wv (az T .eql ay v31 (.int .i64 3)) fun v32=>J58 v32 G27))
 (al P bc.n [x18,.func (.func hI.n) [] []] G11 fun v63 G64=>wv (ag T G64 bO x14) fun v65=>wv (ag T G64 bO x15) fun v66=>wg (aF T G64 bO x16 v65) fun G67=>(ag T G67 bO x15=some v66/\True)/\(wg (aF T G67 bO x17 v66) fun G68=>wv (ag T G68 bO x16) fun v69=>wv (ag T G68 bO x17) fun v70=>Q (.tuple [v69,v70,x18]) G68)))->R10 [x12,x13,x14,x15,x16,x17,x18,x19,x20,x21] G11) ->
 R10 [a1,a2,.ptr i1 [] 0,.ptr i3 [] 0,.ptr i5 [] 0,.ptr i7 [] 0,.nilSlice,a0,v9,.int .i64 0] G8
def iK.an:Ann:=.two .nil (.two .nil (.two (.two .nil (.loop [1,2,8,9,10,11,13,16,17,18] [false,false,false,false,false,false,false,false,false,false] .nil)) (.two .nil (.two (.ord [(0,[]),(1,[]),(2,[]),(3,[1]),(4,[]),(5,[])]) .nil))))
theorem iK.sound {a0 a1 a2 a3 a4:ah}(h:iK.S a0 a1 a2 a3 a4 G Q):al P iK.n [a0,a1,a2,a3,a4] G Q:=by
 have e:iK.S a0 a1 a2 a3 a4 G Q=awp cx iK.body iK.an (bG T [.cell 10 178,.cell 11 178,.tmp 12] Q) (cC [a0,a1,a2,a3,a4]) G:=by kernel_rfl
 refine aD cF Tryz.func133 ?_ ?_ ?_ (aH ?_ ?_) (by simp[Tryz.f133]) (e.mp h)<;>kernel_rfl
end Go.Esc.M
