import Derived.Test.YtkojimdacnohpaaGreatDoorT
set_option linter.unusedSimpArgs false
set_option linter.unusedVariables false
set_option maxRecDepth 100000
namespace Go.Esc.M
open Go Go.Esc Go.Proofs
variable {G:ak}{Q:ah->ak->Prop}
def iU.S (a0 a1:ah) (G:ak) (Q:ah->ak->Prop):Prop:=
 br G (.own a0) fun i1 G2=>br G2 (.own (jF)) fun i3 G4=>let J36:ah->ak->Prop:=(fun x8 G7=>brB (some x8)
 (wv (bj T aW []) fun v9=>wg (aF T G7 aW (.ptr i3 [] 0) v9) fun G10=>wv (ag T G10 aW (.ptr i3 [] 0)) fun v11=>Q v11 G10)
 (wv (ag T G7 ar (.ptr i1 [3] 3)) fun v12=>al P im.n [v12,a1] G7 fun v13 G14=>wv (aP v13 0) fun v15=>wv (aP v13 1) fun v16=>br G14 (.own (dm)) fun i17 G18=>wg (aF T G18 ar (.ptr i17 [] 0) v15) fun G19=>wv (ag T G19 ar (.ptr i1 [3] 3)) fun v20=>wv (az T .add aq a1 (.int .i64 2)) fun v21=>al P im.n [v20,v21] G19 fun v22 G23=>wv (aP v22 0) fun v24=>wv (aP v22 1) fun v25=>br G23 (.own (dm)) fun i26 G27=>wg (aF T G27 ar (.ptr i26 [] 0) v24) fun G28=>wv (ag T G28 ar (.ptr i17 [] 0)) fun v29=>wv (ag T G28 ar (.ptr i26 [] 0)) fun v30=>al P iz.n [v30] G28 fun v31 G32=>(ag T G32 ar (.ptr i17 [] 0)=some v29/\True)/\(wv (bj T aW [(0,.int .i64 5),(3,a1),(6,v29),(5,v31)]) fun v33=>wg (aF T G32 aW (.ptr i3 [] 0) v33) fun G34=>wv (ag T G34 aW (.ptr i3 [] 0)) fun v35=>Q v35 G34)));
 wv (az T .lss aq a1 (.int .i64 0)) fun v5=>brB (some v5)
 (J36 (.bool true) G4)
 (wv (az T .gtr aq a1 (.int .i64 281474976710653)) fun v6=>J36 v6 G4)
def iU.an:Ann:=.two .nil (.two .nil (.two .nil (.two .nil (.two (.ord [(0,[]),(1,[]),(2,[]),(3,[1]),(4,[]),(5,[])]) .nil))))
theorem iU.sound {a0 a1:ah}(h:iU.S a0 a1 G Q):al P iU.n [a0,a1] G Q:=by
 have e:iU.S a0 a1 G Q=awp cx iU.body iU.an (bG T [.cell 4 48] Q) (cC [a0,a1]) G:=by kernel_rfl
 refine aD cF Tryz.func61 ?_ ?_ ?_ (aH ?_ ?_) (by simp[Tryz.f61]) (e.mp h)<;>kernel_rfl
def jD.S (a0:ah) (G:ak) (Q:ah->ak->Prop):Prop:=
 br G (.own a0) fun i1 G2=>br G2 (.own (jJ)) fun i3 G4=>wv (ag T G4 aq (.ptr i1 [1] 1)) fun v5=>wv (ag T G4 aq (.ptr i1 [0] 0)) fun v6=>wv (bj T aX [(0,v5),(1,v6)]) fun v7=>br G4 (.own (jJ)) fun i8 G9=>wg (aF T G9 aX (.ptr i8 [] 0) v7) fun G10=>bu T om 2 [(0,.bool true),(1,.bool false)] G10 fun v11 G12=>wv (fU T G12 om v11) fun v13=>∀ R14:List ah->ak->Prop,
 (∀ (x16 x17 x18 x19 x20 x21:ah) (G15:ak),(wv (az T .lss ay x21 x20) fun v22=>brB (some v22)
 (wv (aO T om x19 x21) fun v23=>wv (ag T G15 du v23) fun v24=>wv (bt T aX x16 2) fun v25=>wv (ag T G15 aw v25) fun v26=>wv (fU T G15 aw v26) fun v27=>∀ R28:List ah->ak->Prop,
 (∀ (x30 x31 x32 x33 x34 x35 x36 x37 x38 x39:ah) (G29:ak),(wv (az T .lss ay x39 x38) fun v40=>brB (some v40)
 (wv (aO T aw x37 x39) fun v41=>wv (ag T G29 aT v41) fun v42=>br G29 (.own (jQ)) fun i43 G44=>wg (aF T G44 aT (.ptr i43 [] 0) v42) fun G45=>wv (ag T G45 du (.ptr i43 [0] 0)) fun v46=>wv (az T .neq du v46 x33) fun v47=>brB (some v47)
 (wg (aF T G45 du (.ptr i43 [0] 0) x33) fun G48=>wv (bt T aX x32 2) fun v49=>wv (ag T G48 aw v49) fun v50=>wv (ag T G48 aT (.ptr i43 [] 0)) fun v51=>bu T aw 1 [(0,v51)] G48 fun v52 G53=>cn T G53 aw aw v50 v52 fun v54 G55=>wv (bt T aX x32 2) fun v56=>wg (aF T G55 aw v56 v54) fun G57=>wv (az T .add ay x39 (.int .i64 1)) fun v61=>R28 [x30,x31,x32,x33,x34,x35,x36,x37,x38,v61] G57)
 (wv (az T .add ay x39 (.int .i64 1)) fun v62=>R28 [x30,x31,x32,x33,x34,x35,x36,x37,x38,v62] G45))
 (wv (az T .add ay x36 (.int .i64 1)) fun v63=>R14 [x30,x31,x32,x34,x35,v63] G29))->R28 [x30,x31,x32,x33,x34,x35,x36,x37,x38,x39] G29) ->
 R28 [x16,x17,x18,v24,x19,x20,x21,v26,v27,.int .i64 0] G15)
 (wv (ag T G15 aX x18) fun v64=>wg (aF T G15 aX x17 v64) fun G65=>wv (ag T G65 aX x17) fun v66=>Q v66 G65))->R14 [x16,x17,x18,x19,x20,x21] G15) ->
 R14 [.ptr i1 [] 0,.ptr i3 [] 0,.ptr i8 [] 0,v11,v13,.int .i64 0] G12
def jD.an:Ann:=.two .nil (.two .nil (.two (.two .nil (.loop [1,2,3,13,14,15] [false,false,false,false,false,false] (.two .nil (.two .nil (.two (.two .nil (.two .nil (.loop [1,2,3,5,13,14,15,20,21,22] [false,false,false,false,false,false,false,false,false,false] .nil))) .nil))))) .nil))
theorem jD.sound {a0:ah}(h:jD.S a0 G Q):al P jD.n [a0] G Q:=by
 have e:jD.S a0 G Q=awp cx jD.body jD.an (bG T [.cell 2 126] Q) (cC [a0]) G:=by kernel_rfl
 refine aD cF Tryz.func116 ?_ ?_ ?_ (aH ?_ ?_) (by simp[Tryz.f116]) (e.mp h)<;>kernel_rfl
def jC.S (a0 a1:ah) (G:ak) (Q:ah->ak->Prop):Prop:=
 br G (.own a0) fun i1 G2=>br G2 (.own a1) fun i3 G4=>br G4 (.own (jF)) fun i5 G6=>wv (aO T cc (.ptr i3 [13] 16) (.int .i64 0)) fun v7=>wv (ag T G6 ar v7) fun v8=>br G6 (.own (dm)) fun i9 G10=>wg (aF T G10 ar (.ptr i9 [] 0) v8) fun G11=>wv (ag T G11 aq (.ptr i3 [7] 7)) fun v12=>wv (ag T G11 aq (.ptr i3 [8] 8)) fun v13=>wv (az T .neq aq v12 v13) fun v14=>let J49:ak->Prop:=(fun G18=>wv (ag T G18 aq (.ptr i3 [2] 2)) fun v19=>wv (ag T G18 aq (.ptr i3 [3] 3)) fun v20=>wv (ag T G18 aj (.ptr i3 [4] 4)) fun v21=>wv (ag T G18 aj (.ptr i3 [5] 5)) fun v22=>wv (ag T G18 aU (.ptr i3 [10] 11)) fun v23=>al P iM.n [v19,v20,v21,v22,v23] G18 fun v24 G25=>wv (aP v24 0) fun v26=>wv (aP v24 1) fun v27=>br G25 (.own (jJ)) fun i28 G29=>wg (aF T G29 aX (.ptr i28 [] 0) v26) fun G30=>wv (ag T G30 ay (.ptr i3 [0] 0)) fun v31=>wv (az T .sub ay (.int .i64 1) v31) fun v32=>wv (ag T G30 aq (.ptr i3 [7] 7)) fun v33=>wv (ag T G30 ar (.ptr i9 [] 0)) fun v34=>wv (ag T G30 aX (.ptr i28 [] 0)) fun v35=>al P jD.n [v35] G30 fun v36 G37=>(ag T G37 ar (.ptr i9 [] 0)=some v34/\ag T G37 aq (.ptr i3 [7] 7)=some v33/\ag T G37 ay (.ptr i3 [0] 0)=some v31/\True)/\(al P iN.n [v32,v33,v34,v36] G37 fun v38 G39=>wv (aP v38 0) fun v40=>wv (aP v38 1) fun v41=>wv (ag T G39 aq (.ptr i3 [7] 7)) fun v42=>wv (ag T G39 ar (.ptr i1 [4] 35)) fun v43=>al P j3.n [v43,v40] G39 fun v44 G45=>(ag T G45 aq (.ptr i3 [7] 7)=some v42/\True)/\(wv (bj T aW [(0,.int .i64 4),(3,v42),(5,v44)]) fun v46=>wg (aF T G45 aW (.ptr i5 [] 0) v46) fun G47=>wv (ag T G47 aW (.ptr i5 [] 0)) fun v48=>Q v48 G47)));
 brB (some v14)
 (wv (aO T cc (.ptr i3 [13] 16) (.int .i64 1)) fun v15=>wv (ag T G11 ar v15) fun v16=>wg (aF T G11 ar (.ptr i9 [] 0) v16) fun G17=>J49 G17)
 (J49 G11)
def jC.an:Ann:=.two .nil (.two .nil (.two .nil (.two .nil (.two (.ord [(0,[]),(1,[]),(2,[]),(3,[]),(4,[]),(5,[]),(6,[]),(7,[1,4,5]),(8,[]),(9,[]),(10,[]),(11,[]),(12,[]),(13,[])]) (.two (.ord [(0,[]),(1,[]),(2,[]),(3,[]),(4,[]),(5,[1]),(6,[]),(7,[])]) .nil)))))
theorem jC.sound {a0 a1:ah}(h:jC.S a0 a1 G Q):al P jC.n [a0,a1] G Q:=by
 have e:jC.S a0 a1 G Q=awp cx jC.body jC.an (bG T [.cell 4 48] Q) (cC [a0,a1]) G:=by kernel_rfl
 refine aD cF Tryz.func62 ?_ ?_ ?_ (aH ?_ ?_) (by simp[Tryz.f62]) (e.mp h)<;>kernel_rfl
def cg.S (a0:ah) (G:ak) (Q:ah->ak->Prop):Prop:=
 br G (.own a0) fun i1 G2=>br G2 (.own (iP)) fun i3 G4=>wv (ag T G4 ay (.ptr i1 [9,0] 9)) fun v5=>wv (ag T G4 ay (.ptr i1 [11,0] 13)) fun v6=>wv (qy v5 v6) fun v7=>wv (ag T G4 ay (.ptr i1 [9,1] 10)) fun v8=>wv (ag T G4 ay (.ptr i1 [11,1] 14)) fun v9=>wv (qy v8 v9) fun v10=>wv (bj T aU [(0,v7),(1,v10)]) fun v11=>wg (aF T G4 aU (.ptr i3 [] 0) v11) fun G12=>wv (ag T G12 aU (.ptr i3 [] 0)) fun v13=>Q v13 G12
def cg.an:Ann:=.nil
theorem cg.sound {a0:ah}(h:cg.S a0 G Q):al P cg.n [a0] G Q:=by
 have e:cg.S a0 G Q=awp cx cg.body cg.an (bG T [.cell 2 35] Q) (cC [a0]) G:=by kernel_rfl
 refine aD cF Tryz.func93 ?_ ?_ ?_ (aH ?_ ?_) (by simp[Tryz.f93]) (e.mp h)<;>kernel_rfl
def cq.S (a0 a1 a2:ah) (G:ak) (Q:ah->ak->Prop):Prop:=
 ∀ R1:List ah->ak->Prop,
 (∀ (x3 x4 x5 x6:ah) (G2:ak),(wv (fU T G2 aj x3) fun v7=>wv (az T .lss ay x6 v7) fun v8=>brB (some v8)
 (wv (aO T aj x3 x6) fun v9=>wv (bt T aG v9 1) fun v10=>wv (ag T G2 aq v10) fun v11=>wv (az T .eql aq v11 x4) fun v12=>brB (some v12)
 (wv (aO T aj x3 x6) fun v13=>wv (bt T aG v13 0) fun v14=>wv (ag T G2 ay v14) fun v15=>wv (az T .neq ay v15 (.int .i64 1)) fun v16=>brB (some v16)
 (wv (az T .eql ay x5 (.int .i64 0)) fun v17=>brB (some v17)
 (Q (.bool true) G2)
 (wv (aO T aj x3 x6) fun v18=>wv (bt T aG v18 0) fun v19=>wv (ag T G2 ay v19) fun v20=>wv (az T .eql ay v20 x5) fun v21=>brB (some v21)
 (Q (.bool true) G2)
 (wv (az T .add ay x6 (.int .i64 1)) fun v26=>R1 [x3,x4,x5,v26] G2)))
 (wv (az T .add ay x6 (.int .i64 1)) fun v27=>R1 [x3,x4,x5,v27] G2))
 (wv (az T .add ay x6 (.int .i64 1)) fun v28=>R1 [x3,x4,x5,v28] G2))
 (Q (.bool false) G2))->R1 [x3,x4,x5,x6] G2) ->
 R1 [a0,a1,a2,.int .i64 0] G
def cq.an:Ann:=.two .nil (.two (.two .nil (.loop [0,1,2,7] [false,false,false,false] .nil)) .nil)
theorem cq.sound {a0 a1 a2:ah}(h:cq.S a0 a1 a2 G Q):al P cq.n [a0,a1,a2] G Q:=by
 have e:cq.S a0 a1 a2 G Q=awp cx cq.body cq.an (bG T [.tmp 6] Q) (cC [a0,a1,a2]) G:=by kernel_rfl
 refine aD cF Tryz.func192 ?_ ?_ ?_ (aH ?_ ?_) (by simp[Tryz.f192]) (e.mp h)<;>kernel_rfl
def cM.S (a0 a1 a2 a3 a4:ah) (G:ak) (Q:ah->ak->Prop):Prop:=
 ∀ R1:List ah->ak->Prop,
 (∀ (x3 x4 x5 x6 x7 x8:ah) (G2:ak),(wv (fU T G2 aj x3) fun v9=>wv (az T .lss ay x8 v9) fun v10=>brB (some v10)
 (let J40:ah->ak->Prop:=(fun x38 G37=>wv (az T .add ay x8 (.int .i64 1)) fun v39=>R1 [x3,x4,x5,x6,x38,v39] G37);
 wv (aO T aj x3 x8) fun v11=>wv (bt T aG v11 0) fun v12=>wv (ag T G2 ay v12) fun v13=>wv (az T .eql ay v13 (.int .i64 1)) fun v14=>brB (some v14)
 (wv (aO T aj x3 x8) fun v15=>wv (bt T aG v15 1) fun v16=>wv (ag T G2 aq v16) fun v17=>al P bQ.n [x4,x6] G2 fun v18 G19=>(ag T G19 aq v16=some v17/\True)/\(al P cq.n [v18,v17,.int .i64 3] G19 fun v20 G21=>wv (vun .not v20) fun v22=>brB (some v22)
 (wv (aO T aj x3 x8) fun v31=>wv (bt T aG v31 2) fun v32=>wv (ag T G21 aq v32) fun v33=>wv (az T .sub aq x7 v33) fun v34=>J40 v34 G21)
 (J40 x7 G21)))
 (J40 x7 G2))
 (al P bQ.n [x3,x5] G2 fun v41 G42=>∀ R43:List ah->ak->Prop,
 (∀ (x45 x46 x47 x48:ah) (G44:ak),(wv (fU T G44 aj x45) fun v49=>wv (az T .lss ay x48 v49) fun v50=>brB (some v50)
 (let J77:ah->ak->Prop:=(fun x75 G74=>wv (az T .add ay x48 (.int .i64 1)) fun v76=>R43 [x45,x75,x47,v76] G74);
 wv (aO T aj x45 x48) fun v51=>wv (bt T aG v51 0) fun v52=>wv (ag T G44 ay v52) fun v53=>wv (az T .eql ay v53 (.int .i64 1)) fun v54=>brB (some v54)
 (wv (aO T aj x45 x48) fun v55=>wv (bt T aG v55 1) fun v56=>wv (ag T G44 aq v56) fun v57=>al P cq.n [x47,v57,.int .i64 2] G44 fun v58 G59=>brB (some v58)
 (wv (aO T aj x45 x48) fun v68=>wv (bt T aG v68 2) fun v69=>wv (ag T G59 aq v69) fun v70=>wv (az T .add aq x46 v70) fun v71=>J77 v71 G59)
 (J77 x46 G59))
 (J77 x46 G44))
 (wv (zr x46 (.int .i64 0)) fun v78=>Q v78 G44))->R43 [x45,x46,x47,x48] G44) ->
 R43 [x4,x7,v41,.int .i64 0] G42))->R1 [x3,x4,x5,x6,x7,x8] G2) ->
 R1 [a1,a2,a3,a4,a0,.int .i64 0] G
def cM.an:Ann:=.two .nil (.two .nil (.two (.two .nil (.loop [1,2,3,4,11,12] [false,false,false,false,false,false] (.two .nil (.two (.two (.ord [(0,[]),(1,[]),(2,[]),(3,[]),(4,[]),(5,[]),(6,[]),(7,[]),(8,[]),(10,[]),(11,[]),(12,[]),(13,[]),(14,[]),(9,[14]),(15,[]),(16,[]),(17,[])]) .nil) .nil)))) (.two .nil (.two (.two .nil (.loop [2,11,13,14] [false,false,false,false] .nil)) .nil))))
theorem cM.sound {a0 a1 a2 a3 a4:ah}(h:cM.S a0 a1 a2 a3 a4 G Q):al P cM.n [a0,a1,a2,a3,a4] G Q:=by
 have e:cM.S a0 a1 a2 a3 a4 G Q=awp cx cM.body cM.an (bG T [.tmp 10] Q) (cC [a0,a1,a2,a3,a4]) G:=by kernel_rfl
 refine aD cF Tryz.func154 ?_ ?_ ?_ (aH ?_ ?_) (by simp[Tryz.f154]) (e.mp h)<;>kernel_rfl
def cO.S (a0:ah) (G:ak) (Q:ah->ak->Prop):Prop:=
 br G (.own a0) fun i1 G2=>wv (ag T G2 aE (.ptr i1 [] 0)) fun v3=>al P cg.n [v3] G2 fun v4 G5=>br G5 (.own (iP)) fun i6 G7=>wg (aF T G7 aU (.ptr i6 [] 0) v4) fun G8=>wv (ag T G8 aq (.ptr i1 [2] 2)) fun v9=>wv (ag T G8 aj (.ptr i1 [4] 4)) fun v10=>wv (ag T G8 aj (.ptr i1 [5] 5)) fun v11=>wv (ag T G8 ay (.ptr i6 [0] 0)) fun v12=>wv (ag T G8 ay (.ptr i6 [1] 1)) fun v13=>al P cM.n [v9,v10,v11,v12,v13] G8 fun v14 G15=>Q v14 G15
def cO.an:Ann:=.nil
theorem cO.sound {a0:ah}(h:cO.S a0 G Q):al P cO.n [a0] G Q:=by
 have e:cO.S a0 G Q=awp cx cO.body cO.an (bG T [.tmp 2] Q) (cC [a0]) G:=by kernel_rfl
 refine aD cF Tryz.func94 ?_ ?_ ?_ (aH ?_ ?_) (by simp[Tryz.f94]) (e.mp h)<;>kernel_rfl
def b5.S (a0:ah) (G:ak) (Q:ah->ak->Prop):Prop:=
 br G (.own a0) fun i1 G2=>wv (ag T G2 aE (.ptr i1 [] 0)) fun v3=>al P cg.n [v3] G2 fun v4 G5=>br G5 (.own (iP)) fun i6 G7=>wg (aF T G7 aU (.ptr i6 [] 0) v4) fun G8=>wv (ag T G8 aq (.ptr i1 [3] 3)) fun v9=>wv (ag T G8 aj (.ptr i1 [5] 5)) fun v10=>wv (ag T G8 aj (.ptr i1 [4] 4)) fun v11=>wv (ag T G8 ay (.ptr i6 [1] 1)) fun v12=>wv (ag T G8 ay (.ptr i6 [0] 0)) fun v13=>al P cM.n [v9,v10,v11,v12,v13] G8 fun v14 G15=>Q v14 G15
def b5.an:Ann:=.nil
theorem b5.sound {a0:ah}(h:b5.S a0 G Q):al P b5.n [a0] G Q:=by
 have e:b5.S a0 G Q=awp cx b5.body b5.an (bG T [.tmp 2] Q) (cC [a0]) G:=by kernel_rfl
 refine aD cF Tryz.func95 ?_ ?_ ?_ (aH ?_ ?_) (by simp[Tryz.f95]) (e.mp h)<;>kernel_rfl
def dc.S (a0:ah) (G:ak) (Q:ah->ak->Prop):Prop:=
 wv (az T .geq aq a0 (.int .i64 0)) fun v1=>brB (some v1)
 (wv (az T .leq aq a0 (.int .i64 1152921504606846976)) fun v2=>Q v2 G)
 (Q (.bool false) G)
def dc.an:Ann:=.nil
theorem dc.sound {a0:ah}(h:dc.S a0 G Q):al P dc.n [a0] G Q:=by
 have e:dc.S a0 G Q=awp cx dc.body dc.an (bG T [.tmp 2] Q) (cC [a0]) G:=by kernel_rfl
 refine aD cF Tryz.func195 ?_ ?_ ?_ (aH ?_ ?_) (by simp[Tryz.f195]) (e.mp h)<;>kernel_rfl
def dz.S (a0:ah) (G:ak) (Q:ah->ak->Prop):Prop:=
 br G (.own a0) fun i1 G2=>wv (bj T ar []) fun v3=>br G2 (.own (dm)) fun i4 G5=>wg (aF T G5 ar (.ptr i4 [] 0) v3) fun G6=>let J41:ah->ak->Prop:=(fun x12 G11=>brB (some x12)
 (Q (.bool false) G11)
 (wv (ag T G11 ay (.ptr i1 [0] 0)) fun v13=>wv (az T .eql ay v13 (.int .i64 1)) fun v14=>brB (some v14)
 (wv (ag T G11 aq (.ptr i1 [2] 2)) fun v15=>wv (az T .geq aq v15 (.int .i64 1)) fun v16=>brB (some v16)
 (wv (ag T G11 aq (.ptr i1 [2] 2)) fun v17=>wv (az T .leq aq v17 (.int .i64 1152921504606846976)) fun v18=>brB (some v18)
 (wv (ag T G11 bH (.ptr i1 [4] 35)) fun v19=>wv (az T .eql bH v19 (.str [])) fun v20=>Q v20 G11)
 (Q (.bool false) G11))
 (Q (.bool false) G11))
 (wv (az T .eql ay v13 (.int .i64 2)) fun v23=>brB (some v23)
 (wv (ag T G11 aq (.ptr i1 [2] 2)) fun v24=>wv (az T .eql aq v24 (.int .i64 0)) fun v25=>brB (some v25)
 (wv (ag T G11 bH (.ptr i1 [4] 35)) fun v26=>wv (az T .eql bH v26 (.str [])) fun v27=>Q v27 G11)
 (Q (.bool false) G11))
 (wv (az T .eql ay v13 (.int .i64 3)) fun v30=>brB (some v30)
 (wv (ag T G11 aq (.ptr i1 [2] 2)) fun v31=>wv (az T .eql aq v31 (.int .i64 0)) fun v32=>brB (some v32)
 (wv (ag T G11 ar (.ptr i1 [3] 3)) fun v33=>wv (ag T G11 ar (.ptr i4 [] 0)) fun v34=>wv (az T .eql ar v33 v34) fun v35=>brB (some v35)
 (wv (ag T G11 bH (.ptr i1 [4] 35)) fun v36=>wv (fU T G11 bH v36) fun v37=>wv (az T .leq ay v37 (.int .i64 64)) fun v38=>Q v38 G11)
 (Q (.bool false) G11))
 (Q (.bool false) G11))
 (Q (.bool false) G11)))));
 wv (ag T G6 aq (.ptr i1 [1] 1)) fun v7=>wv (az T .lss aq v7 (.int .i64 0)) fun v8=>brB (some v8)
 (J41 (.bool true) G6)
 (wv (ag T G6 aq (.ptr i1 [1] 1)) fun v9=>wv (az T .geq aq v9 (.int .i64 2048)) fun v10=>J41 v10 G6)
def dz.an:Ann:=.nil
theorem dz.sound {a0:ah}(h:dz.S a0 G Q):al P dz.n [a0] G Q:=by
 have e:dz.S a0 G Q=awp cx dz.body dz.an (bG T [.tmp 2] Q) (cC [a0]) G:=by kernel_rfl
 refine aD cF Tryz.func203 ?_ ?_ ?_ (aH ?_ ?_) (by simp[Tryz.f203]) (e.mp h)<;>kernel_rfl
def eh.S (a0:ah) (G:ak) (Q:ah->ak->Prop):Prop:=
 ∀ R1:List ah->ak->Prop,
 (∀ (x3 x4:ah) (G2:ak),(wv (fU T G2 aj x3) fun v5=>wv (az T .lss ay x4 v5) fun v6=>brB (some v6)
 (wv (aO T aj x3 x4) fun v7=>wv (ag T G2 aG v7) fun v8=>al P dz.n [v8] G2 fun v9 G10=>wv (vun .not v9) fun v11=>brB (some v11)
 (Q (.bool false) G10)
 (wv (az T .add ay x4 (.int .i64 1)) fun v12=>R1 [x3,v12] G10))
 (Q (.bool true) G2))->R1 [x3,x4] G2) ->
 R1 [a0,.int .i64 0] G
def eh.an:Ann:=.two .nil (.two (.two .nil (.loop [0,3] [false,false] .nil)) .nil)
theorem eh.sound {a0:ah}(h:eh.S a0 G Q):al P eh.n [a0] G Q:=by
 have e:eh.S a0 G Q=awp cx eh.body eh.an (bG T [.tmp 2] Q) (cC [a0]) G:=by kernel_rfl
 refine aD cF Tryz.func196 ?_ ?_ ?_ (aH ?_ ?_) (by simp[Tryz.f196]) (e.mp h)<;>kernel_rfl
def dO.S (a0 a1:ah) (G:ak) (Q:ah->ak->Prop):Prop:=
 br G (.own a0) fun i1 G2=>br G2 (.own (jn)) fun i3 G4=>wv (az T .eql aq a1 (.int .i64 1152921504606846976)) fun v5=>brB (some v5)
 (wv (ag T G4 aq (.ptr i1 [0] 0)) fun v6=>wv (az T .add aq v6 (.int .i64 1)) fun v7=>wv (ag T G4 aq (.ptr i1 [1] 1)) fun v8=>wv (bj T aZ [(0,v7),(1,v8)]) fun v9=>wg (aF T G4 aZ (.ptr i3 [] 0) v9) fun G10=>wv (ag T G10 aZ (.ptr i3 [] 0)) fun v11=>Q v11 G10)
 (wv (ag T G4 aq (.ptr i1 [1] 1)) fun v12=>wv (az T .add aq v12 a1) fun v13=>wg (aF T G4 aq (.ptr i1 [1] 1) v13) fun G14=>wv (ag T G14 aq (.ptr i1 [1] 1)) fun v15=>wv (az T .geq aq v15 (.int .i64 1152921504606846976)) fun v16=>brB (some v16)
 (wv (ag T G14 aq (.ptr i1 [0] 0)) fun v17=>wv (az T .add aq v17 (.int .i64 1)) fun v18=>wv (ag T G14 aq (.ptr i1 [1] 1)) fun v19=>wv (az T .sub aq v19 (.int .i64 1152921504606846976)) fun v20=>wv (bj T aZ [(0,v18),(1,v20)]) fun v21=>wg (aF T G14 aZ (.ptr i3 [] 0) v21) fun G22=>wv (ag T G22 aZ (.ptr i3 [] 0)) fun v23=>Q v23 G22)
 (wv (ag T G14 aZ (.ptr i1 [] 0)) fun v24=>wg (aF T G14 aZ (.ptr i3 [] 0) v24) fun G25=>wv (ag T G25 aZ (.ptr i3 [] 0)) fun v26=>Q v26 G25))
def dO.an:Ann:=.nil
theorem dO.sound {a0 a1:ah}(h:dO.S a0 a1 G Q):al P dO.n [a0,a1] G Q:=by
 have e:dO.S a0 a1 G Q=awp cx dO.body dO.an (bG T [.cell 4 231] Q) (cC [a0,a1]) G:=by kernel_rfl
 refine aD cF Tryz.func198 ?_ ?_ ?_ (aH ?_ ?_) (by simp[Tryz.f198]) (e.mp h)<;>kernel_rfl
def dY.S (a0 a1:ah) (G:ak) (Q:ah->ak->Prop):Prop:=
 ∀ R1:List ah->ak->Prop,
 (∀ (x3 x4 x5:ah) (G2:ak),(wv (fU T G2 aj x3) fun v6=>wv (az T .lss ay x5 v6) fun v7=>brB (some v7)
 (let J25:ah->ak->Prop:=(fun x21 G20=>brB (some x21)
 (wv (aO T aj x3 x5) fun v22=>wv (bt T aG v22 0) fun v23=>wv (ag T G20 ay v23) fun v24=>Q v24 G20)
 (wv (az T .add ay x5 (.int .i64 1)) fun v26=>R1 [x3,x4,v26] G20));
 wv (aO T aj x3 x5) fun v8=>wv (bt T aG v8 0) fun v9=>wv (ag T G2 ay v9) fun v10=>wv (az T .neq ay v10 (.int .i64 1)) fun v11=>brB (some v11)
 (wv (aO T aj x3 x5) fun v12=>wv (bt T aG v12 1) fun v13=>wv (ag T G2 aq v13) fun v14=>wv (az T .eql aq v14 x4) fun v15=>brB (some v15)
 (wv (aO T aj x3 x5) fun v16=>wv (ag T G2 aG v16) fun v17=>al P dz.n [v17] G2 fun v18 G19=>J25 v18 G19)
 (J25 (.bool false) G2))
 (J25 (.bool false) G2))
 (Q (.int .i64 0) G2))->R1 [x3,x4,x5] G2) ->
 R1 [a0,a1,.int .i64 0] G
def dY.an:Ann:=.two .nil (.two (.two .nil (.loop [0,1,5] [false,false,false] .nil)) .nil)
theorem dY.sound {a0 a1:ah}(h:dY.S a0 a1 G Q):al P dY.n [a0,a1] G Q:=by
 have e:dY.S a0 a1 G Q=awp cx dY.body dY.an (bG T [.tmp 4] Q) (cC [a0,a1]) G:=by kernel_rfl
 refine aD cF Tryz.func218 ?_ ?_ ?_ (aH ?_ ?_) (by simp[Tryz.f218]) (e.mp h)<;>kernel_rfl
def ek.S (a0 a1:ah) (G:ak) (Q:ah->ak->Prop):Prop:=
 br G (.own a0) fun i1 G2=>br G2 (.own (jn)) fun i3 G4=>wv (az T .eql aq a1 (.int .i64 1152921504606846976)) fun v5=>brB (some v5)
 (wv (ag T G4 aq (.ptr i1 [0] 0)) fun v6=>wv (az T .sub aq v6 (.int .i64 1)) fun v7=>wv (ag T G4 aq (.ptr i1 [1] 1)) fun v8=>wv (bj T aZ [(0,v7),(1,v8)]) fun v9=>wg (aF T G4 aZ (.ptr i3 [] 0) v9) fun G10=>wv (ag T G10 aZ (.ptr i3 [] 0)) fun v11=>Q v11 G10)
 (wv (ag T G4 aq (.ptr i1 [1] 1)) fun v12=>wv (az T .sub aq v12 a1) fun v13=>wg (aF T G4 aq (.ptr i1 [1] 1) v13) fun G14=>wv (ag T G14 aq (.ptr i1 [1] 1)) fun v15=>wv (az T .lss aq v15 (.int .i64 0)) fun v16=>brB (some v16)
 (wv (ag T G14 aq (.ptr i1 [0] 0)) fun v17=>wv (az T .sub aq v17 (.int .i64 1)) fun v18=>wv (ag T G14 aq (.ptr i1 [1] 1)) fun v19=>wv (az T .add aq v19 (.int .i64 1152921504606846976)) fun v20=>wv (bj T aZ [(0,v18),(1,v20)]) fun v21=>wg (aF T G14 aZ (.ptr i3 [] 0) v21) fun G22=>wv (ag T G22 aZ (.ptr i3 [] 0)) fun v23=>Q v23 G22)
 (wv (ag T G14 aZ (.ptr i1 [] 0)) fun v24=>wg (aF T G14 aZ (.ptr i3 [] 0) v24) fun G25=>wv (ag T G25 aZ (.ptr i3 [] 0)) fun v26=>Q v26 G25))
def ek.an:Ann:=.nil
theorem ek.sound {a0 a1:ah}(h:ek.S a0 a1 G Q):al P ek.n [a0,a1] G Q:=by
 have e:ek.S a0 a1 G Q=awp cx ek.body ek.an (bG T [.cell 4 231] Q) (cC [a0,a1]) G:=by kernel_rfl
 refine aD cF Tryz.func219 ?_ ?_ ?_ (aH ?_ ?_) (by simp[Tryz.f219]) (e.mp h)<;>kernel_rfl
def eL.S (a0 a1:ah) (G:ak) (Q:ah->ak->Prop):Prop:=
 br G (.own a1) fun i1 G2=>∀ R3:List ah->ak->Prop,
 (∀ (x5 x6 x7 x8 x9:ah) (G4:ak),(wv (fU T G4 aw x5) fun v10=>wv (az T .lss ay x9 v10) fun v11=>brB (some v11)
 (let J47:ah->ak->Prop:=(fun x20 G19=>brB (some x20)
 (wv (ag T G19 aT x6) fun v21=>bu T aw 1 [(0,v21)] G19 fun v22 G23=>cn T G23 aw aw x7 v22 fun v24 G25=>wv (aO T aw x5 x9) fun v35=>wv (ag T G25 aT v35) fun v36=>bu T aw 1 [(0,v36)] G25 fun v37 G38=>cn T G38 aw aw v24 v37 fun v39 G40=>wv (az T .add ay x9 (.int .i64 1)) fun v52=>R3 [x5,x6,v39,.bool true,v52] G40)
 (wv (aO T aw x5 x9) fun v41=>wv (ag T G19 aT v41) fun v42=>bu T aw 1 [(0,v42)] G19 fun v43 G44=>cn T G44 aw aw x7 v43 fun v45 G46=>wv (az T .add ay x9 (.int .i64 1)) fun v53=>R3 [x5,x6,v45,x8,v53] G46));
 wv (vun .not x8) fun v12=>brB (some v12)
 (wv (aO T aw x5 x9) fun v13=>wv (bt T aT v13 1) fun v14=>wv (ag T G4 aq v14) fun v15=>wv (bt T aT x6 1) fun v16=>wv (ag T G4 aq v16) fun v17=>wv (az T .gtr aq v15 v17) fun v18=>J47 v18 G4)
 (J47 (.bool false) G4))
 (wv (vun .not x8) fun v54=>brB (some v54)
 (wv (ag T G4 aT x6) fun v55=>bu T aw 1 [(0,v55)] G4 fun v56 G57=>cn T G57 aw aw x7 v56 fun v58 G59=>Q v58 G59)
 (Q x7 G4)))->R3 [x5,x6,x7,x8,x9] G4) ->
 R3 [a0,.ptr i1 [] 0,.nilSlice,.bool false,.int .i64 0] G2
def eL.an:Ann:=.two .nil (.two .nil (.two .nil (.two (.two .nil (.loop [0,3,5,6,7] [false,false,false,false,false] (.two .nil (.two (.two (.two (.ord [(0,[]),(1,[]),(2,[]),(3,[]),(4,[]),(5,[]),(6,[]),(7,[]),(8,[]),(9,[]),(10,[]),(11,[])]) .nil) .nil) .nil)))) .nil)))
theorem eL.sound {a0 a1:ah}(h:eL.S a0 a1 G Q):al P eL.n [a0,a1] G Q:=by
 have e:eL.S a0 a1 G Q=awp cx eL.body eL.an (bG T [.tmp 4] Q) (cC [a0,a1]) G:=by kernel_rfl
 refine aD cF Tryz.func220 ?_ ?_ ?_ (aH ?_ ?_) (by simp[Tryz.f220]) (e.mp h)<;>kernel_rfl
def eW.S (a0 a1 a2 a3 a4:ah) (G:ak) (Q:ah->ak->Prop):Prop:=
 br G (.own a0) fun i1 G2=>br G2 (.own a1) fun i3 G4=>br G4 (.own (jn)) fun i5 G6=>br G6 (.own (jn)) fun i7 G8=>∀ R9:List ah->ak->Prop,
 (∀ (x11 x12 x13 x14 x15 x16 x17 x18 x19:ah) (G10:ak),(wv (fU T G10 aj x11) fun v20=>wv (az T .lss ay x19 v20) fun v21=>brB (some v21)
 (let J64:ah->ak->Prop:=(fun x62 G61=>wv (az T .add ay x19 (.int .i64 1)) fun v63=>R9 [x11,x12,x13,x14,x15,x16,x17,x62,v63] G61);
 wv (aO T aj x11 x19) fun v22=>wv (ag T G10 aG v22) fun v23=>br G10 (.own (dv)) fun i24 G25=>wg (aF T G25 aG (.ptr i24 [] 0) v23) fun G26=>wv (ag T G26 ay (.ptr i24 [0] 0)) fun v27=>wv (az T .neq ay v27 (.int .i64 1)) fun v28=>brB (some v28)
 (J64 x18 G26)
 (wv (ag T G26 aq (.ptr i24 [1] 1)) fun v29=>al P dY.n [x12,v29] G26 fun v30 G31=>wv (az T .eql ay v30 (.int .i64 2)) fun v32=>brB (some v32)
 (wv (ag T G31 aZ x14) fun v33=>wv (ag T G31 aq (.ptr i24 [2] 2)) fun v34=>al P ek.n [v33,v34] G31 fun v35 G36=>wg (aF T G36 aZ x14 v35) fun G37=>wv (ag T G37 aZ x15) fun v38=>wv (ag T G37 aq (.ptr i24 [2] 2)) fun v39=>al P dO.n [v38,v39] G37 fun v40 G41=>wg (aF T G41 aZ x15 v40) fun G42=>J64 x18 G42)
 (wv (az T .eql ay v30 (.int .i64 0)) fun v43=>brB (some v43)
 (wv (ag T G31 aZ x14) fun v44=>wv (ag T G31 aq (.ptr i24 [2] 2)) fun v45=>al P ek.n [v44,v45] G31 fun v46 G47=>wg (aF T G47 aZ x14 v46) fun G48=>wv (ag T G48 aq (.ptr i24 [1] 1)) fun v49=>wv (ag T G48 aq (.ptr i24 [2] 2)) fun v50=>wv (ag T G48 ar (.ptr i24 [3] 3)) fun v51=>wv (bj T aT [(0,x13),(1,v49),(2,v50),(3,v51)]) fun v52=>al P eL.n [x18,v52] G48 fun v53 G54=>J64 v53 G54)
 (J64 x18 G31))))
 (wv (ag T G10 aZ x14) fun v65=>wv (ag T G10 aZ x15) fun v66=>wg (aF T G10 aZ x16 v65) fun G67=>(ag T G67 aZ x15=some v66/\True)/\(wg (aF T G67 aZ x17 v66) fun G68=>wv (ag T G68 aZ x16) fun v69=>wv (ag T G68 aZ x17) fun v70=>Q (.tuple [v69,v70,x18]) G68)))->R9 [x11,x12,x13,x14,x15,x16,x17,x18,x19] G10) ->
 R9 [a2,a3,a4,.ptr i1 [] 0,.ptr i3 [] 0,.ptr i5 [] 0,.ptr i7 [] 0,.nilSlice,.int .i64 0] G8
def eW.an:Ann:=.two .nil (.two .nil (.two (.two .nil (.loop [2,3,4,5,6,10,11,13,14] [false,false,false,false,false,false,false,false,false] .nil)) (.two (.ord [(0,[]),(1,[]),(2,[]),(3,[1]),(4,[]),(5,[])]) .nil)))
theorem eW.sound {a0 a1 a2 a3 a4:ah}(h:eW.S a0 a1 a2 a3 a4 G Q):al P eW.n [a0,a1,a2,a3,a4] G Q:=by
 have e:eW.S a0 a1 a2 a3 a4 G Q=awp cx eW.body eW.an (bG T [.cell 10 231,.cell 11 231,.tmp 12] Q) (cC [a0,a1,a2,a3,a4]) G:=by kernel_rfl
 refine aD cF Tryz.func197 ?_ ?_ ?_ (aH ?_ ?_) (by simp[Tryz.f197]) (e.mp h)<;>kernel_rfl
def fM.S (a0:ah) (G:ak) (Q:ah->ak->Prop):Prop:=
 br G (.own a0) fun i1 G2=>wv (ag T G2 aq (.ptr i1 [0] 0)) fun v3=>wv (az T .lss aq v3 (.int .i64 0)) fun v4=>brB (some v4)
 (Q (.int .i64 0) G2)
 (wv (ag T G2 aq (.ptr i1 [0] 0)) fun v5=>wv (az T .gtr aq v5 (.int .i64 0)) fun v6=>brB (some v6)
 (Q (.int .i64 1152921504606846976) G2)
 (wv (ag T G2 aq (.ptr i1 [1] 1)) fun v7=>Q v7 G2))
def fM.an:Ann:=.nil
theorem fM.sound {a0:ah}(h:fM.S a0 G Q):al P fM.n [a0] G Q:=by
 have e:fM.S a0 G Q=awp cx fM.body fM.an (bG T [.tmp 2] Q) (cC [a0]) G:=by kernel_rfl
 refine aD cF Tryz.func199 ?_ ?_ ?_ (aH ?_ ?_) (by simp[Tryz.f199]) (e.mp h)<;>kernel_rfl
def eZ.S (a0 a1 a2 a3 a4:ah) (G:ak) (Q:ah->ak->Prop):Prop:=
 br G (.own a4) fun i1 G2=>br G2 (.own (jJ)) fun i3 G4=>let J93:ah->ak->Prop:=(fun x26 G25=>brB (some x26)
 (wv (bj T aX []) fun v27=>wg (aF T G25 aX (.ptr i3 [] 0) v27) fun G28=>wv (ag T G28 aX (.ptr i3 [] 0)) fun v29=>Q (.tuple [v29,.int .i64 1]) G28)
 (wv (ag T G25 ay (.ptr i1 [0] 0)) fun v30=>wv (dV T aj a2 none (some (v30)) none) fun v31=>wv (ag T G25 ay (.ptr i1 [1] 1)) fun v32=>wv (dV T aj a3 none (some (v32)) none) fun v33=>let J92:ah->ak->Prop:=(fun x41 G40=>brB (some x41)
 (wv (bj T aX []) fun v42=>wg (aF T G40 aX (.ptr i3 [] 0) v42) fun G43=>wv (ag T G43 aX (.ptr i3 [] 0)) fun v44=>Q (.tuple [v44,.int .i64 120]) G43)
 (wv (bj T aZ []) fun v45=>al P dO.n [v45,a0] G40 fun v46 G47=>wv (bj T aZ []) fun v48=>al P dO.n [v48,a1] G47 fun v49 G50=>al P eW.n [v46,v49,v31,v33,.bool true] G50 fun v51 G52=>wv (aP v51 0) fun v53=>wv (aP v51 1) fun v54=>wv (aP v51 2) fun v55=>br G52 (.own (jn)) fun i56 G57=>br G57 (.own (jn)) fun i58 G59=>wg (aF T G59 aZ (.ptr i56 [] 0) v53) fun G60=>wg (aF T G60 aZ (.ptr i58 [] 0) v54) fun G61=>wv (ag T G61 aZ (.ptr i58 [] 0)) fun v62=>wv (ag T G61 aZ (.ptr i56 [] 0)) fun v63=>al P eW.n [v62,v63,v33,v31,.bool false] G61 fun v64 G65=>wv (aP v64 0) fun v66=>wv (aP v64 1) fun v67=>wv (aP v64 2) fun v68=>wg (aF T G65 aZ (.ptr i58 [] 0) v66) fun G69=>wg (aF T G69 aZ (.ptr i56 [] 0) v67) fun G70=>let J91:ah->ak->Prop:=(fun x76 G75=>brB (some x76)
 (wv (bj T aX []) fun v77=>wg (aF T G75 aX (.ptr i3 [] 0) v77) fun G78=>wv (ag T G78 aX (.ptr i3 [] 0)) fun v79=>Q (.tuple [v79,.int .i64 130]) G78)
 (wv (ag T G75 aZ (.ptr i56 [] 0)) fun v80=>wv (ag T G75 aZ (.ptr i58 [] 0)) fun v81=>al P fM.n [v80] G75 fun v82 G83=>(ag T G83 aZ (.ptr i58 [] 0)=some v81/\True)/\(al P fM.n [v81] G83 fun v84 G85=>cn T G85 aw aw v55 v68 fun v86 G87=>wv (bj T aX [(0,v82),(1,v84),(2,v86)]) fun v88=>wg (aF T G87 aX (.ptr i3 [] 0) v88) fun G89=>wv (ag T G89 aX (.ptr i3 [] 0)) fun v90=>Q (.tuple [v90,.int .i64 0]) G89)));
 wv (ag T G70 aq (.ptr i56 [0] 0)) fun v71=>wv (az T .lss aq v71 (.int .i64 0)) fun v72=>brB (some v72)
 (J91 (.bool true) G70)
 (wv (ag T G70 aq (.ptr i58 [0] 0)) fun v73=>wv (az T .lss aq v73 (.int .i64 0)) fun v74=>J91 v74 G70)));
 al P eh.n [v31] G25 fun v34 G35=>wv (vun .not v34) fun v36=>brB (some v36)
 (J92 (.bool true) G35)
 (al P eh.n [v33] G35 fun v37 G38=>wv (vun .not v37) fun v39=>J92 v39 G38)));
 wv (ag T G4 ay (.ptr i1 [0] 0)) fun v5=>wv (az T .lss ay v5 (.int .i64 0)) fun v6=>brB (some v6)
 (J93 (.bool true) G4)
 (wv (ag T G4 ay (.ptr i1 [0] 0)) fun v7=>wv (fU T G4 aj a2) fun v8=>wv (az T .gtr ay v7 v8) fun v9=>brB (some v9)
 (J93 (.bool true) G4)
 (wv (ag T G4 ay (.ptr i1 [1] 1)) fun v10=>wv (az T .lss ay v10 (.int .i64 0)) fun v11=>brB (some v11)
 (J93 (.bool true) G4)
 (wv (ag T G4 ay (.ptr i1 [1] 1)) fun v12=>wv (fU T G4 aj a3) fun v13=>wv (az T .gtr ay v12 v13) fun v14=>brB (some v14)
 (J93 (.bool true) G4)
 (al P dc.n [a0] G4 fun v15 G16=>wv (vun .not v15) fun v17=>brB (some v17)
 (J93 (.bool true) G16)
 (al P dc.n [a1] G16 fun v18 G19=>wv (vun .not v18) fun v20=>brB (some v20)
 (J93 (.bool true) G19)
 (wv (az T .add aq a0 a1) fun v21=>al P dc.n [v21] G19 fun v22 G23=>wv (vun .not v22) fun v24=>J93 v24 G23))))))
def eZ.an:Ann:=.two .nil (.two .nil (.two .nil (.two .nil (.two .nil (.two .nil (.two .nil (.two .nil (.two (.ord [(0,[]),(2,[]),(4,[]),(5,[]),(1,[2]),(3,[]),(6,[]),(7,[]),(8,[]),(9,[])]) .nil))))))))
theorem eZ.sound {a0 a1 a2 a3 a4:ah}(h:eZ.S a0 a1 a2 a3 a4 G Q):al P eZ.n [a0,a1,a2,a3,a4] G Q:=by
 have e:eZ.S a0 a1 a2 a3 a4 G Q=awp cx eZ.body eZ.an (bG T [.cell 10 126,.tmp 11] Q) (cC [a0,a1,a2,a3,a4]) G:=by kernel_rfl
 refine aD cF Tryz.func158 ?_ ?_ ?_ (aH ?_ ?_) (by simp[Tryz.f158]) (e.mp h)<;>kernel_rfl
def eg.S (a0 a1:ah) (G:ak) (Q:ah->ak->Prop):Prop:=
 ∀ R1:List ah->ak->Prop,
 (∀ (x3 x4 x5 x6:ah) (G2:ak),(wv (fU T G2 aw x3) fun v7=>wv (az T .lss ay x6 v7) fun v8=>brB (some v8)
 (wv (aO T aw x3 x6) fun v9=>wv (bt T aT v9 0) fun v10=>wv (ag T G2 du v10) fun v11=>wv (az T .eql du v11 x4) fun v12=>brB (some v12)
 (wv (az T .add ay x5 (.int .i64 1)) fun v13=>wv (az T .add ay x6 (.int .i64 1)) fun v19=>R1 [x3,x4,v13,v19] G2)
 (wv (az T .add ay x6 (.int .i64 1)) fun v20=>R1 [x3,x4,x5,v20] G2))
 (Q x5 G2))->R1 [x3,x4,x5,x6] G2) ->
 R1 [a0,a1,.int .i64 0,.int .i64 0] G
def eg.an:Ann:=.two .nil (.two .nil (.two (.two .nil (.loop [0,1,5,6] [false,false,false,false] .nil)) .nil))
theorem eg.sound {a0 a1:ah}(h:eg.S a0 a1 G Q):al P eg.n [a0,a1] G Q:=by
 have e:eg.S a0 a1 G Q=awp cx eg.body eg.an (bG T [.tmp 4] Q) (cC [a0,a1]) G:=by kernel_rfl
 refine aD cF Tryz.func221 ?_ ?_ ?_ (aH ?_ ?_) (by simp[Tryz.f221]) (e.mp h)<;>kernel_rfl
def fk.S (a0:ah) (G:ak) (Q:ah->ak->Prop):Prop:=
 br G (.own a0) fun i1 G2=>let J85:ah->ak->Prop:=(fun x20 G19=>brB (some x20)
 (Q (.bool false) G19)
 (∀ R21:List ah->ak->Prop,
 (∀ (x23 x24:ah) (G22:ak),(wv (bt T aX x23 2) fun v25=>wv (ag T G22 aw v25) fun v26=>wv (fU T G22 aw v26) fun v27=>wv (az T .lss ay x24 v27) fun v28=>brB (some v28)
 (wv (bt T aX x23 2) fun v29=>wv (ag T G22 aw v29) fun v30=>wv (aO T aw v30 x24) fun v31=>wv (ag T G22 aT v31) fun v32=>br G22 (.own (jQ)) fun i33 G34=>wg (aF T G34 aT (.ptr i33 [] 0) v32) fun G35=>let J83:ah->ak->Prop:=(fun x43 G42=>brB (some x43)
 (Q (.bool false) G42)
 (∀ R44:List ah->ak->Prop,
 (∀ (x46 x47 x48 x49:ah) (G45:ak),(wv (az T .lss ay x49 x47) fun v50=>brB (some v50)
 (let J82:ak->Prop:=(fun G80=>wv (az T .add ay x49 (.int .i64 1)) fun v81=>R44 [x46,x47,x48,v81] G80);
 wv (bt T aX x46 2) fun v51=>wv (ag T G45 aw v51) fun v52=>wv (aO T aw v52 x49) fun v53=>wv (ag T G45 aT v53) fun v54=>br G45 (.own (jQ)) fun i55 G56=>wg (aF T G56 aT (.ptr i55 [] 0) v54) fun G57=>wv (bt T aT x48 0) fun v58=>wv (ag T G57 du v58) fun v59=>brB (some v59)
 (wv (ag T G57 du (.ptr i55 [0] 0)) fun v60=>wv (vun .not v60) fun v61=>brB (some v61)
 (Q (.bool false) G57)
 (wv (bt T aT x48 0) fun v62=>wv (ag T G57 du v62) fun v63=>wv (ag T G57 du (.ptr i55 [0] 0)) fun v64=>wv (az T .eql du v63 v64) fun v65=>brB (some v65)
 (wv (ag T G57 aq (.ptr i55 [1] 1)) fun v66=>wv (bt T aT x48 1) fun v67=>wv (ag T G57 aq v67) fun v68=>wv (az T .geq aq v66 v68) fun v69=>brB (some v69)
 (Q (.bool false) G57)
 (J82 G57))
 (J82 G57)))
 (wv (bt T aT x48 0) fun v70=>wv (ag T G57 du v70) fun v71=>wv (ag T G57 du (.ptr i55 [0] 0)) fun v72=>wv (az T .eql du v71 v72) fun v73=>brB (some v73)
 (wv (ag T G57 aq (.ptr i55 [1] 1)) fun v74=>wv (bt T aT x48 1) fun v75=>wv (ag T G57 aq v75) fun v76=>wv (az T .geq aq v74 v76) fun v77=>brB (some v77)
 (Q (.bool false) G57)
 (J82 G57))
 (J82 G57)))
 (wv (az T .add ay x47 (.int .i64 1)) fun v84=>R21 [x46,v84] G45))->R44 [x46,x47,x48,x49] G45) ->
 R44 [x23,x24,.ptr i33 [] 0,.int .i64 0] G42));
 wv (ag T G35 aq (.ptr i33 [1] 1)) fun v36=>wv (az T .lss aq v36 (.int .i64 0)) fun v37=>brB (some v37)
 (J83 (.bool true) G35)
 (wv (ag T G35 aq (.ptr i33 [2] 2)) fun v38=>wv (az T .lss aq v38 (.int .i64 1)) fun v39=>brB (some v39)
 (J83 (.bool true) G35)
 (wv (ag T G35 aq (.ptr i33 [2] 2)) fun v40=>wv (az T .gtr aq v40 (.int .i64 1152921504606846976)) fun v41=>J83 v41 G35)))
 (Q (.bool true) G22))->R21 [x23,x24] G22) ->
 R21 [.ptr i1 [] 0,.int .i64 0] G19));
 wv (ag T G2 aq (.ptr i1 [0] 0)) fun v3=>wv (az T .lss aq v3 (.int .i64 0)) fun v4=>brB (some v4)
 (J85 (.bool true) G2)
 (wv (ag T G2 aq (.ptr i1 [0] 0)) fun v5=>wv (az T .gtr aq v5 (.int .i64 1152921504606846976)) fun v6=>brB (some v6)
 (J85 (.bool true) G2)
 (wv (ag T G2 aq (.ptr i1 [1] 1)) fun v7=>wv (az T .lss aq v7 (.int .i64 0)) fun v8=>brB (some v8)
 (J85 (.bool true) G2)
 (wv (ag T G2 aq (.ptr i1 [1] 1)) fun v9=>wv (az T .gtr aq v9 (.int .i64 1152921504606846976)) fun v10=>brB (some v10)
 (J85 (.bool true) G2)
 (wv (ag T G2 aw (.ptr i1 [2] 2)) fun v11=>al P eg.n [v11,.bool true] G2 fun v12 G13=>wv (az T .gtr ay v12 (.int .i64 483)) fun v14=>brB (some v14)
 (J85 (.bool true) G13)
 (wv (ag T G13 aw (.ptr i1 [2] 2)) fun v15=>al P eg.n [v15,.bool false] G13 fun v16 G17=>wv (az T .gtr ay v16 (.int .i64 483)) fun v18=>J85 v18 G17)))))
def fk.an:Ann:=.two .nil (.two .nil (.two (.two .nil (.loop [1,3] [false,false] (.two .nil (.two (.two .nil (.two .nil (.two .nil (.loop [1,3,4,5] [false,false,false,false] .nil)))) .nil)))) .nil))
theorem fk.sound {a0:ah}(h:fk.S a0 G Q):al P fk.n [a0] G Q:=by
 have e:fk.S a0 G Q=awp cx fk.body fk.an (bG T [.tmp 2] Q) (cC [a0]) G:=by kernel_rfl
 refine aD cF Tryz.func200 ?_ ?_ ?_ (aH ?_ ?_) (by simp[Tryz.f200]) (e.mp h)<;>kernel_rfl
def cH.S (a0 a1 a2:ah) (G:ak) (Q:ah->ak->Prop):Prop:=
 wv (az T .sub ay a2 (.int .i64 1)) fun v1=>∀ R2:List ah->ak->Prop,
 (∀ (x4 x5 x6:ah) (G3:ak),(wv (az T .geq ay x6 (.int .i64 0)) fun v7=>brB (some v7)
 (wv (az T .mul ay (.int .i64 8) x6) fun v8=>wv (az T .shr aq x5 v8) fun v9=>wv (gv T G3 aq cm v9) fun v10=>bu T aR 1 [(0,v10)] G3 fun v11 G12=>cn T G12 aR aR x4 v11 fun v13 G14=>wv (az T .sub ay x6 (.int .i64 1)) fun v15=>R2 [v13,x5,v15] G14)
 (Q x4 G3))->R2 [x4,x5,x6] G3) ->
 R2 [a0,a1,v1] G
def cH.an:Ann:=.two .nil (.two (.two .nil (.loop [0,1,7] [false,false,false] .nil)) .nil)
theorem cH.sound {a0 a1 a2:ah}(h:cH.S a0 a1 a2 G Q):al P cH.n [a0,a1,a2] G Q:=by
 have e:cH.S a0 a1 a2 G Q=awp cx cH.body cH.an (bG T [.tmp 6] Q) (cC [a0,a1,a2]) G:=by kernel_rfl
 refine aD cF Tryz.func201 ?_ ?_ ?_ (aH ?_ ?_) (by simp[Tryz.f201]) (e.mp h)<;>kernel_rfl
def eV.S (a0 a1 a2 a3:ah) (G:ak) (Q:ah->ak->Prop):Prop:=
 br G (.own a2) fun i1 G2=>br G2 (.own a3) fun i3 G4=>let J68:ah->ak->Prop:=(fun x10 G9=>brB (some x10)
 (Q (.tuple [.str [],.int .i64 1]) G9)
 (wv (ag T G9 aX (.ptr i3 [] 0)) fun v11=>al P fk.n [v11] G9 fun v12 G13=>wv (vun .not v12) fun v14=>brB (some v14)
 (Q (.tuple [.str [],.int .i64 4]) G13)
 (wv (gv T G13 ay cm a0) fun v15=>bu T aR 1 [(0,v15)] G13 fun v16 G17=>al P cH.n [v16,a1,.int .i64 8] G17 fun v18 G19=>wv (dV T ar (.ptr i1 [] 0) none none none) fun v20=>cn T G19 aR aR v18 v20 fun v21 G22=>wv (ag T G22 aq (.ptr i3 [0] 0)) fun v23=>al P cH.n [v21,v23,.int .i64 8] G22 fun v24 G25=>wv (ag T G25 aq (.ptr i3 [1] 1)) fun v26=>al P cH.n [v24,v26,.int .i64 8] G25 fun v27 G28=>wv (ag T G28 aw (.ptr i3 [2] 2)) fun v29=>wv (fU T G28 aw v29) fun v30=>al P cH.n [v27,v30,.int .i64 2] G28 fun v31 G32=>∀ R33:List ah->ak->Prop,
 (∀ (x35 x36 x37:ah) (G34:ak),(wv (bt T aX x35 2) fun v38=>wv (ag T G34 aw v38) fun v39=>wv (fU T G34 aw v39) fun v40=>wv (az T .lss ay x37 v40) fun v41=>brB (some v41)
 (wv (bt T aX x35 2) fun v42=>wv (ag T G34 aw v42) fun v43=>wv (aO T aw v43 x37) fun v44=>wv (ag T G34 aT v44) fun v45=>br G34 (.own (jQ)) fun i46 G47=>wg (aF T G47 aT (.ptr i46 [] 0) v45) fun G48=>wv (ag T G48 du (.ptr i46 [0] 0)) fun v49=>let J65:ah->ak->Prop:=(fun x51 G50=>bu T aR 1 [(0,x51)] G50 fun v52 G53=>cn T G53 aR aR x36 v52 fun v54 G55=>wv (ag T G55 aq (.ptr i46 [1] 1)) fun v56=>al P cH.n [v54,v56,.int .i64 8] G55 fun v57 G58=>wv (ag T G58 aq (.ptr i46 [2] 2)) fun v59=>al P cH.n [v57,v59,.int .i64 8] G58 fun v60 G61=>wv (dV T ar (.ptr i46 [3] 3) none none none) fun v62=>cn T G61 aR aR v60 v62 fun v63 G64=>wv (az T .add ay x37 (.int .i64 1)) fun v66=>R33 [x35,v63,v66] G64);
 brB (some v49)
 (J65 (.int .u8 1) G48)
 (J65 (.int .u8 0) G48))
 (wv (gv T G34 aR bH x36) fun v67=>Q (.tuple [v67,.int .i64 0]) G34))->R33 [x35,x36,x37] G34) ->
 R33 [.ptr i3 [] 0,v31,.int .i64 0] G32)));
 wv (az T .lss ay a0 (.int .i64 0)) fun v5=>brB (some v5)
 (J68 (.bool true) G4)
 (wv (az T .gtr ay a0 (.int .i64 1)) fun v6=>brB (some v6)
 (J68 (.bool true) G4)
 (wv (az T .lss aq a1 (.int .i64 0)) fun v7=>brB (some v7)
 (J68 (.bool true) G4)
 (wv (az T .gtr aq a1 (.int .i64 281474976710655)) fun v8=>J68 v8 G4)))
def eV.an:Ann:=.two .nil (.two .nil (.two .nil (.two .nil (.two .nil (.two .nil (.two .nil (.two .nil (.two .nil (.two (.two .nil (.loop [7,10,11] [false,false,false] .nil)) .nil)))))))))
theorem eV.sound {a0 a1 a2 a3:ah}(h:eV.S a0 a1 a2 a3 G Q):al P eV.n [a0,a1,a2,a3] G Q:=by
 have e:eV.S a0 a1 a2 a3 G Q=awp cx eV.body eV.an (bG T [.tmp 8,.tmp 9] Q) (cC [a0,a1,a2,a3]) G:=by kernel_rfl
 refine aD cF Tryz.func159 ?_ ?_ ?_ (aH ?_ ?_) (by simp[Tryz.f159]) (e.mp h)<;>kernel_rfl
def gd.S (a0:ah) (G:ak) (Q:ah->ak->Prop):Prop:=
 br G (.own a0) fun i1 G2=>br G2 (.own (jJ)) fun i3 G4=>wv (ag T G4 aq (.ptr i1 [1] 1)) fun v5=>wv (ag T G4 aq (.ptr i1 [0] 0)) fun v6=>wv (bj T aX [(0,v5),(1,v6)]) fun v7=>br G4 (.own (jJ)) fun i8 G9=>wg (aF T G9 aX (.ptr i8 [] 0) v7) fun G10=>∀ R11:List ah->ak->Prop,
 (∀ (x13 x14 x15 x16:ah) (G12:ak),(wv (az T .lss ay x16 (.int .i64 2)) fun v17=>brB (some v17)
 (∀ R18:List ah->ak->Prop,
 (∀ (x20 x21 x22 x23 x24:ah) (G19:ak),(wv (bt T aX x20 2) fun v25=>wv (ag T G19 aw v25) fun v26=>wv (fU T G19 aw v26) fun v27=>wv (az T .lss ay x24 v27) fun v28=>brB (some v28)
 (wv (bt T aX x20 2) fun v29=>wv (ag T G19 aw v29) fun v30=>wv (aO T aw v30 x24) fun v31=>wv (ag T G19 aT v31) fun v32=>br G19 (.own (jQ)) fun i33 G34=>wg (aF T G34 aT (.ptr i33 [] 0) v32) fun G35=>wv (ag T G35 du (.ptr i33 [0] 0)) fun v36=>wv (az T .eql ay x23 (.int .i64 1)) fun v37=>wv (az T .eql du v36 v37) fun v38=>brB (some v38)
 (wv (ag T G35 du (.ptr i33 [0] 0)) fun v39=>wv (vun .not v39) fun v40=>wg (aF T G35 du (.ptr i33 [0] 0) v40) fun G41=>wv (bt T aX x22 2) fun v42=>wv (ag T G41 aw v42) fun v43=>wv (ag T G41 aT (.ptr i33 [] 0)) fun v44=>bu T aw 1 [(0,v44)] G41 fun v45 G46=>cn T G46 aw aw v43 v45 fun v47 G48=>wv (bt T aX x22 2) fun v49=>wg (aF T G48 aw v49 v47) fun G50=>wv (az T .add ay x24 (.int .i64 1)) fun v54=>R18 [x20,x21,x22,x23,v54] G50)
 (wv (az T .add ay x24 (.int .i64 1)) fun v55=>R18 [x20,x21,x22,x23,v55] G35))
 (wv (az T .add ay x23 (.int .i64 1)) fun v56=>R11 [x20,x21,x22,v56] G19))->R18 [x20,x21,x22,x23,x24] G19) ->
 R18 [x13,x14,x15,x16,.int .i64 0] G12)
 (wv (ag T G12 aX x15) fun v57=>wg (aF T G12 aX x14 v57) fun G58=>wv (ag T G58 aX x14) fun v59=>Q v59 G58))->R11 [x13,x14,x15,x16] G12) ->
 R11 [.ptr i1 [] 0,.ptr i3 [] 0,.ptr i8 [] 0,.int .i64 0] G10
def gd.an:Ann:=.two .nil (.two .nil (.two (.two .nil (.loop [1,2,3,4] [false,false,false,false] (.two .nil (.two (.two .nil (.loop [1,2,3,4,5] [false,false,false,false,false] .nil)) .nil)))) .nil))
theorem gd.sound {a0:ah}(h:gd.S a0 G Q):al P gd.n [a0] G Q:=by
 have e:gd.S a0 G Q=awp cx gd.body gd.an (bG T [.cell 2 126] Q) (cC [a0]) G:=by kernel_rfl
 refine aD cF Tryz.func193 ?_ ?_ ?_ (aH ?_ ?_) (by simp[Tryz.f193]) (e.mp h)<;>kernel_rfl
end Go.Esc.M
