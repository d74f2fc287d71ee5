import Derived.Test.YtkojimdacnohpaaGreatDoorT
set_option linter.unusedSimpArgs false
set_option linter.unusedVariables false
set_option maxRecDepth 100000
namespace Go.Esc.M
open Go Go.Esc Go.Proofs
def dV.S (a0:ag) (G:ah) (Q:ag -> ah -> Prop):Prop :=
 br G (.own (a0)) fun i1 G2=>let J85:ag -> ah -> Prop:=(fun x20 G19=>brB (some x20)
 (Q (.bool false) G19)
 (∀ R21:List ag -> ah -> Prop,
 (∀ (x23 x24:ag) (G22:ah),(wv (bx T bc x23 2) fun v25=>wv (lq T G22 aq v25) fun v26=>wv (gF T G22 aq v26) fun v27=>wv (aw T .lss au x24 v27) fun v28=>brB (some v28)
 (wv (bx T bc x23 2) fun v29=>wv (lq T G22 aq v29) fun v30=>wv (aL T aq v30 x24) fun v31=>wv (lq T G22 aU v31) fun v32=>br G22 (.own (iX)) fun i33 G34=>wg (ax T G34 aU (.ptr i33 [] 0) v32) fun G35=>let J83:ag -> ah -> Prop:=(fun x43 G42=>brB (some x43)
 (Q (.bool false) G42)
 (∀ R44:List ag -> ah -> Prop,
 (∀ (x46 x47 x48 x49:ag) (G45:ah),(wv (aw T .lss au x49 x47) fun v50=>brB (some v50)
 (let J82:ah -> Prop:=(fun G80=>wv (aw T .add au x49 (.int .i64 1)) fun v81=>R44 [x46,x47,x48,v81] G80);
 wv (bx T bc x46 2) fun v51=>wv (lq T G45 aq v51) fun v52=>wv (aL T aq v52 x49) fun v53=>wv (lq T G45 aU v53) fun v54=>br G45 (.own (iX)) fun i55 G56=>wg (ax T G56 aU (.ptr i55 [] 0) v54) fun G57=>wv (bx T aU x48 0) fun v58=>wv (lq T G57 ey v58) fun v59=>brB (some v59)
 (wv (lq T G57 ey (.ptr i55 [0] 0)) fun v60=>wv (vun .not v60) fun v61=>brB (some v61)
 (Q (.bool false) G57)
 (wv (bx T aU x48 0) fun v62=>wv (lq T G57 ey v62) fun v63=>wv (lq T G57 ey (.ptr i55 [0] 0)) fun v64=>wv (aw T .eql ey v63 v64) fun v65=>brB (some v65)
 (wv (lq T G57 me (.ptr i55 [1] 1)) fun v66=>wv (bx T aU x48 1) fun v67=>wv (lq T G57 me v67) fun v68=>wv (aw T .geq me v66 v68) fun v69=>brB (some v69)
 (Q (.bool false) G57)
 (J82 G57))
 (J82 G57)))
 (wv (bx T aU x48 0) fun v70=>wv (lq T G57 ey v70) fun v71=>wv (lq T G57 ey (.ptr i55 [0] 0)) fun v72=>wv (aw T .eql ey v71 v72) fun v73=>brB (some v73)
 (wv (lq T G57 me (.ptr i55 [1] 1)) fun v74=>wv (bx T aU x48 1) fun v75=>wv (lq T G57 me v75) fun v76=>wv (aw T .geq me v74 v76) fun v77=>brB (some v77)
 (Q (.bool false) G57)
 (J82 G57))
 (J82 G57)))
 (wv (aw T .add au x47 (.int .i64 1)) fun v84=>R21 [x46,v84] G45)) -> R44 [x46,x47,x48,x49] G45) ->
 R44 [x23,x24,.ptr i33 [] 0,.int .i64 0] G42));
 wv (lq T G35 me (.ptr i33 [1] 1)) fun v36=>wv (aw T .lss me v36 (.int .i64 0)) fun v37=>brB (some v37)
 (J83 (.bool true) G35)
 (wv (lq T G35 me (.ptr i33 [2] 2)) fun v38=>wv (aw T .lss me v38 (.int .i64 1)) fun v39=>brB (some v39)
 (J83 (.bool true) G35)
 (wv (lq T G35 me (.ptr i33 [2] 2)) fun v40=>wv (aw T .gtr me v40 (.int .i64 1152921504606846976)) fun v41=>J83 v41 G35)))
 (Q (.bool true) G22)) -> R21 [x23,x24] G22) ->
 R21 [.ptr i1 [] 0,.int .i64 0] G19));
 wv (lq T G2 me (.ptr i1 [0] 0)) fun v3=>wv (aw T .lss me v3 (.int .i64 0)) fun v4=>brB (some v4)
 (J85 (.bool true) G2)
 (wv (lq T G2 me (.ptr i1 [0] 0)) fun v5=>wv (aw T .gtr me v5 (.int .i64 1152921504606846976)) fun v6=>brB (some v6)
 (J85 (.bool true) G2)
 (wv (lq T G2 me (.ptr i1 [1] 1)) fun v7=>wv (aw T .lss me v7 (.int .i64 0)) fun v8=>brB (some v8)
 (J85 (.bool true) G2)
 (wv (lq T G2 me (.ptr i1 [1] 1)) fun v9=>wv (aw T .gtr me v9 (.int .i64 1152921504606846976)) fun v10=>brB (some v10)
 (J85 (.bool true) G2)
 (wv (lq T G2 aq (.ptr i1 [2] 2)) fun v11=>al P da.n [v11,.bool true] G2 fun v12 G13=>wv (aw T .gtr au v12 (.int .i64 483)) fun v14=>brB (some v14)
 (J85 (.bool true) G13)
 (wv (lq T G13 aq (.ptr i1 [2] 2)) fun v15=>al P da.n [v15,.bool false] G13 fun v16 G17=>wv (aw T .gtr au v16 (.int .i64 483)) fun v18=>J85 v18 G17)))))
def dV.an:Ann:=.two (.nil) (.two (.nil) (.two (.two (.nil) (.loop [1,3] [false,false] (.two (.nil) (.two (.two (.nil) (.two (.nil) (.two (.nil) (.loop [1,3,4,5] [false,false,false,false] (.nil))))) (.nil))))) (.nil)))
theorem dV.sound {a0:ag} {G:ah} {Q:ag -> ah -> Prop} (h:dV.S a0 G Q):al P dV.n [a0] G Q:=by
 have e:dV.S a0 G Q = awp cx (dV.body) dV.an (bK T [.tmp 2] Q) (dN [a0]) G:=by kernel_rfl
 refine ay dO (f:=dV.n) (fn:=Tryz.f200) (c:=dV.body) (an:=dV.an) Tryz.func200 ?_ ?_ ?_ (aF ?_ ?_) (by simp [Tryz.f200]) (e ▸ h) <;> kernel_rfl
def b5.S (a0 a1 a2:ag) (G:ah) (Q:ag -> ah -> Prop):Prop :=
 wv (aw T .sub au a2 (.int .i64 1)) fun v1=>∀ R2:List ag -> ah -> Prop,
 (∀ (x4 x5 x6:ag) (G3:ah),(wv (aw T .geq au x6 (.int .i64 0)) fun v7=>brB (some v7)
 (wv (aw T .mul au (.int .i64 8) x6) fun v8=>wv (aw T .shr me x5 v8) fun v9=>wv (gi T G3 me cg v9) fun v10=>bh T aP 1 [(0,v10)] G3 fun v11 G12=>cc T G12 aP aP x4 v11 fun v13 G14=>wv (aw T .sub au x6 (.int .i64 1)) fun v15=>R2 [v13,x5,v15] G14)
 (Q x4 G3)) -> R2 [x4,x5,x6] G3) ->
 R2 [a0,a1,v1] G
def b5.an:Ann:=.two (.nil) (.two (.two (.nil) (.loop [0,1,7] [false,false,false] (.nil))) (.nil))
theorem b5.sound {a0 a1 a2:ag} {G:ah} {Q:ag -> ah -> Prop} (h:b5.S a0 a1 a2 G Q):al P b5.n [a0,a1,a2] G Q:=by
 have e:b5.S a0 a1 a2 G Q = awp cx (b5.body) b5.an (bK T [.tmp 6] Q) (dN [a0,a1,a2]) G:=by kernel_rfl
 refine ay dO (f:=b5.n) (fn:=Tryz.f201) (c:=b5.body) (an:=b5.an) Tryz.func201 ?_ ?_ ?_ (aF ?_ ?_) (by simp [Tryz.f201]) (e ▸ h) <;> kernel_rfl
def dG.S (a0 a1 a2 a3:ag) (G:ah) (Q:ag -> ah -> Prop):Prop :=
 br G (.own (a2)) fun i1 G2=>br G2 (.own (a3)) fun i3 G4=>let J68:ag -> ah -> Prop:=(fun x10 G9=>brB (some x10)
 (Q (.tuple [.str [],.int .i64 1]) G9)
 (wv (lq T G9 bc (.ptr i3 [] 0)) fun v11=>al P dV.n [v11] G9 fun v12 G13=>wv (vun .not v12) fun v14=>brB (some v14)
 (Q (.tuple [.str [],.int .i64 4]) G13)
 (wv (gi T G13 au cg a0) fun v15=>bh T aP 1 [(0,v15)] G13 fun v16 G17=>al P b5.n [v16,a1,.int .i64 8] G17 fun v18 G19=>wv (fj T aj (.ptr i1 [] 0) none none none) fun v20=>cc T G19 aP aP v18 v20 fun v21 G22=>wv (lq T G22 me (.ptr i3 [0] 0)) fun v23=>al P b5.n [v21,v23,.int .i64 8] G22 fun v24 G25=>wv (lq T G25 me (.ptr i3 [1] 1)) fun v26=>al P b5.n [v24,v26,.int .i64 8] G25 fun v27 G28=>wv (lq T G28 aq (.ptr i3 [2] 2)) fun v29=>wv (gF T G28 aq v29) fun v30=>al P b5.n [v27,v30,.int .i64 2] G28 fun v31 G32=>∀ R33:List ag -> ah -> Prop,
 (∀ (x35 x36 x37:ag) (G34:ah),(wv (bx T bc x35 2) fun v38=>wv (lq T G34 aq v38) fun v39=>wv (gF T G34 aq v39) fun v40=>wv (aw T .lss au x37 v40) fun v41=>brB (some v41)
 (wv (bx T bc x35 2) fun v42=>wv (lq T G34 aq v42) fun v43=>wv (aL T aq v43 x37) fun v44=>wv (lq T G34 aU v44) fun v45=>br G34 (.own (iX)) fun i46 G47=>wg (ax T G47 aU (.ptr i46 [] 0) v45) fun G48=>wv (lq T G48 ey (.ptr i46 [0] 0)) fun v49=>let J65:ag -> ah -> Prop:=(fun x51 G50=>bh T aP 1 [(0,x51)] G50 fun v52 G53=>cc T G53 aP aP x36 v52 fun v54 G55=>wv (lq T G55 me (.ptr i46 [1] 1)) fun v56=>al P b5.n [v54,v56,.int .i64 8] G55 fun v57 G58=>wv (lq T G58 me (.ptr i46 [2] 2)) fun v59=>al P b5.n [v57,v59,.int .i64 8] G58 fun v60 G61=>wv (fj T aj (.ptr i46 [3] 3) none none none) fun v62=>cc T G61 aP aP v60 v62 fun v63 G64=>wv (aw T .add au x37 (.int .i64 1)) fun v66=>R33 [x35,v63,v66] G64);
 brB (some v49)
 (J65 (.int .u8 1) G48)
 (J65 (.int .u8 0) G48))
 (wv (gi T G34 aP bH x36) fun v67=>Q (.tuple [v67,.int .i64 0]) G34)) -> R33 [x35,x36,x37] G34) ->
 R33 [.ptr i3 [] 0,v31,.int .i64 0] G32)));
 wv (aw T .lss au a0 (.int .i64 0)) fun v5=>brB (some v5)
 (J68 (.bool true) G4)
 (wv (aw T .gtr au a0 (.int .i64 1)) fun v6=>brB (some v6)
 (J68 (.bool true) G4)
 (wv (aw T .lss me a1 (.int .i64 0)) fun v7=>brB (some v7)
 (J68 (.bool true) G4)
 (wv (aw T .gtr me a1 (.int .i64 281474976710655)) fun v8=>J68 v8 G4)))
def dG.an:Ann:=.two (.nil) (.two (.nil) (.two (.nil) (.two (.nil) (.two (.nil) (.two (.nil) (.two (.nil) (.two (.nil) (.two (.nil) (.two (.two (.nil) (.loop [7,10,11] [false,false,false] (.nil))) (.nil))))))))))
theorem dG.sound {a0 a1 a2 a3:ag} {G:ah} {Q:ag -> ah -> Prop} (h:dG.S a0 a1 a2 a3 G Q):al P dG.n [a0,a1,a2,a3] G Q:=by
 have e:dG.S a0 a1 a2 a3 G Q = awp cx (dG.body) dG.an (bK T [.tmp 8,.tmp 9] Q) (dN [a0,a1,a2,a3]) G:=by kernel_rfl
 refine ay dO (f:=dG.n) (fn:=Tryz.f159) (c:=dG.body) (an:=dG.an) Tryz.func159 ?_ ?_ ?_ (aF ?_ ?_) (by simp [Tryz.f159]) (e ▸ h) <;> kernel_rfl
def eQ.S (a0:ag) (G:ah) (Q:ag -> ah -> Prop):Prop :=
 br G (.own (a0)) fun i1 G2=>br G2 (.own (iZ)) fun i3 G4=>wv (lq T G4 me (.ptr i1 [1] 1)) fun v5=>wv (lq T G4 me (.ptr i1 [0] 0)) fun v6=>wv (bk T bc [(0,v5),(1,v6)]) fun v7=>br G4 (.own (iZ)) fun i8 G9=>wg (ax T G9 bc (.ptr i8 [] 0) v7) fun G10=>∀ R11:List ag -> ah -> Prop,
 (∀ (x13 x14 x15 x16:ag) (G12:ah),(wv (aw T .lss au x16 (.int .i64 2)) fun v17=>brB (some v17)
 (∀ R18:List ag -> ah -> Prop,
 (∀ (x20 x21 x22 x23 x24:ag) (G19:ah),(wv (bx T bc x20 2) fun v25=>wv (lq T G19 aq v25) fun v26=>wv (gF T G19 aq v26) fun v27=>wv (aw T .lss au x24 v27) fun v28=>brB (some v28)
 (wv (bx T bc x20 2) fun v29=>wv (lq T G19 aq v29) fun v30=>wv (aL T aq v30 x24) fun v31=>wv (lq T G19 aU v31) fun v32=>br G19 (.own (iX)) fun i33 G34=>wg (ax T G34 aU (.ptr i33 [] 0) v32) fun G35=>wv (lq T G35 ey (.ptr i33 [0] 0)) fun v36=>wv (aw T .eql au x23 (.int .i64 1)) fun v37=>wv (aw T .eql ey v36 v37) fun v38=>brB (some v38)
 (wv (lq T G35 ey (.ptr i33 [0] 0)) fun v39=>wv (vun .not v39) fun v40=>wg (ax T G35 ey (.ptr i33 [0] 0) v40) fun G41=>wv (bx T bc x22 2) fun v42=>wv (lq T G41 aq v42) fun v43=>wv (lq T G41 aU (.ptr i33 [] 0)) fun v44=>bh T aq 1 [(0,v44)] G41 fun v45 G46=>cc T G46 aq aq v43 v45 fun v47 G48=>wv (bx T bc x22 2) fun v49=>wg (ax T G48 aq v49 v47) fun G50=>wv (aw T .add au x24 (.int .i64 1)) fun v54=>R18 [x20,x21,x22,x23,v54] G50)
 (wv (aw T .add au x24 (.int .i64 1)) fun v55=>R18 [x20,x21,x22,x23,v55] G35))
 (wv (aw T .add au x23 (.int .i64 1)) fun v56=>R11 [x20,x21,x22,v56] G19)) -> R18 [x20,x21,x22,x23,x24] G19) ->
 R18 [x13,x14,x15,x16,.int .i64 0] G12)
 (wv (lq T G12 bc x15) fun v57=>wg (ax T G12 bc x14 v57) fun G58=>wv (lq T G58 bc x14) fun v59=>Q v59 G58)) -> R11 [x13,x14,x15,x16] G12) ->
 R11 [.ptr i1 [] 0,.ptr i3 [] 0,.ptr i8 [] 0,.int .i64 0] G10
def eQ.an:Ann:=.two (.nil) (.two (.nil) (.two (.two (.nil) (.loop [1,2,3,4] [false,false,false,false] (.two (.nil) (.two (.two (.nil) (.loop [1,2,3,4,5] [false,false,false,false,false] (.nil))) (.nil))))) (.nil)))
theorem eQ.sound {a0:ag} {G:ah} {Q:ag -> ah -> Prop} (h:eQ.S a0 G Q):al P eQ.n [a0] G Q:=by
 have e:eQ.S a0 G Q = awp cx (eQ.body) eQ.an (bK T [.cell 2 126] Q) (dN [a0]) G:=by kernel_rfl
 refine ay dO (f:=eQ.n) (fn:=Tryz.f193) (c:=eQ.body) (an:=eQ.an) Tryz.func193 ?_ ?_ ?_ (aF ?_ ?_) (by simp [Tryz.f193]) (e ▸ h) <;> kernel_rfl
def dm.S (a0 a1 a2:ag) (G:ah) (Q:ag -> ah -> Prop):Prop :=
 br G (.own (a0)) fun i1 G2=>br G2 (.own (a2)) fun i3 G4=>wv (aL T cL (.ptr i1 [13] 16) (.int .i64 0)) fun v5=>wv (lq T G4 aj v5) fun v6=>br G4 (.own (cI)) fun i7 G8=>wg (ax T G8 aj (.ptr i7 [] 0) v6) fun G9=>wv (lq T G9 me (.ptr i1 [8] 8)) fun v10=>wv (aw T .neq me a1 v10) fun v11=>let J40:ah -> Prop:=(fun G15=>wv (lq T G15 me (.ptr i1 [2] 2)) fun v16=>wv (lq T G15 me (.ptr i1 [3] 3)) fun v17=>wv (lq T G15 ak (.ptr i1 [4] 4)) fun v18=>wv (lq T G15 ak (.ptr i1 [5] 5)) fun v19=>wv (lq T G15 bG (.ptr i3 [] 0)) fun v20=>al P dI.n [v16,v17,v18,v19,v20] G15 fun v21 G22=>wv (aW v21 0) fun v23=>wv (aW v21 1) fun v24=>br G22 (.own (iZ)) fun i25 G26=>wg (ax T G26 bc (.ptr i25 [] 0) v23) fun G27=>wv (aw T .neq bq v24 (.int .i64 0)) fun v28=>brB (some v28)
 (Q (.tuple [.str [],.bool false]) G27)
 (wv (lq T G27 au (.ptr i1 [0] 0)) fun v29=>wv (aw T .sub au (.int .i64 1) v29) fun v30=>wv (lq T G27 aj (.ptr i7 [] 0)) fun v31=>wv (lq T G27 bc (.ptr i25 [] 0)) fun v32=>al P eQ.n [v32] G27 fun v33 G34=>(lq T G34 aj (.ptr i7 [] 0) = some v31 /\ lq T G34 au (.ptr i1 [0] 0) = some v29 /\ True) /\ (al P dG.n [v30,a1,v31,v33] G34 fun v35 G36=>wv (aW v35 0) fun v37=>wv (aW v35 1) fun v38=>wv (aw T .eql bq v38 (.int .i64 0)) fun v39=>Q (.tuple [v37,v39]) G36)));
 brB (some v11)
 (wv (aL T cL (.ptr i1 [13] 16) (.int .i64 1)) fun v12=>wv (lq T G9 aj v12) fun v13=>wg (ax T G9 aj (.ptr i7 [] 0) v13) fun G14=>J40 G14)
 (J40 G9)
def dm.an:Ann:=.two (.nil) (.two (.nil) (.two (.nil) (.two (.nil) (.two (.nil) (.two (.ord [(0,[]),(1,[]),(2,[]),(3,[]),(4,[]),(5,[]),(6,[1,4]),(7,[]),(8,[]),(9,[]),(10,[]),(11,[]),(12,[])]) (.nil))))))
theorem dm.sound {a0 a1 a2:ag} {G:ah} {Q:ag -> ah -> Prop} (h:dm.S a0 a1 a2 G Q):al P dm.n [a0,a1,a2] G Q:=by
 have e:dm.S a0 a1 a2 G Q = awp cx (dm.body) dm.an (bK T [.tmp 6,.tmp 7] Q) (dN [a0,a1,a2]) G:=by kernel_rfl
 refine ay dO (f:=dm.n) (fn:=Tryz.f155) (c:=dm.body) (an:=dm.an) Tryz.func155 ?_ ?_ ?_ (aF ?_ ?_) (by simp [Tryz.f155]) (e ▸ h) <;> kernel_rfl
def eJ.S (a0 a1:ag) (G:ah) (Q:ag -> ah -> Prop):Prop :=
 br G (.own (a0)) fun i1 G2=>∀ R3:List ag -> ah -> Prop,
 (∀ (x5 x6 x7 x8:ag) (G4:ah),(wv (aw T .lss au x8 (.int .i64 64)) fun v9=>brB (some v9)
 (wv (aw T .lss au x8 (.int .i64 32)) fun v10=>brB (some v10)
 (wv (aL T aj x6 x8) fun v11=>wv (lq T G4 cg v11) fun v12=>wv (aw T .xor cg v12 x5) fun v20=>bh T aP 1 [(0,v20)] G4 fun v21 G22=>cc T G22 aP aP x7 v21 fun v23 G24=>wv (aw T .add au x8 (.int .i64 1)) fun v33=>R3 [x5,x6,v23,v33] G24)
 (wv (aw T .xor cg (.int .u8 0) x5) fun v25=>bh T aP 1 [(0,v25)] G4 fun v26 G27=>cc T G27 aP aP x7 v26 fun v28 G29=>wv (aw T .add au x8 (.int .i64 1)) fun v34=>R3 [x5,x6,v28,v34] G29))
 (wv (gi T G4 aP bH x7) fun v35=>Q v35 G4)) -> R3 [x5,x6,x7,x8] G4) ->
 R3 [a1,.ptr i1 [] 0,.nilSlice,.int .i64 0] G2
def eJ.an:Ann:=.two (.nil) (.two (.nil) (.two (.two (.nil) (.loop [1,2,5,6] [false,false,false,false] (.nil))) (.nil)))
theorem eJ.sound {a0 a1:ag} {G:ah} {Q:ag -> ah -> Prop} (h:eJ.S a0 a1 G Q):al P eJ.n [a0,a1] G Q:=by
 have e:eJ.S a0 a1 G Q = awp cx (eJ.body) eJ.an (bK T [.tmp 4] Q) (dN [a0,a1]) G:=by kernel_rfl
 refine ay dO (f:=eJ.n) (fn:=Tryz.f216) (c:=eJ.body) (an:=eJ.an) Tryz.func216 ?_ ?_ ?_ (aF ?_ ?_) (by simp [Tryz.f216]) (e ▸ h) <;> kernel_rfl
def ec.S (a0:ag) (G:ah) (Q:ag -> ah -> Prop):Prop :=
 br G (.own (a0)) fun i1 G2=>∀ R3:List ag -> ah -> Prop,
 (∀ (x5 x6 x7:ag) (G4:ah),(wv (aw T .lss au x7 (.int .i64 32)) fun v8=>brB (some v8)
 (wv (aL T aj x5 x7) fun v9=>wv (lq T G4 cg v9) fun v10=>bh T aP 1 [(0,v10)] G4 fun v11 G12=>cc T G12 aP aP x6 v11 fun v13 G14=>wv (aw T .add au x7 (.int .i64 1)) fun v15=>R3 [x5,v13,v15] G14)
 (wv (gi T G4 aP bH x6) fun v16=>Q v16 G4)) -> R3 [x5,x6,x7] G4) ->
 R3 [.ptr i1 [] 0,.nilSlice,.int .i64 0] G2
def ec.an:Ann:=.two (.nil) (.two (.nil) (.two (.two (.nil) (.loop [1,3,4] [false,false,false] (.nil))) (.nil)))
theorem ec.sound {a0:ag} {G:ah} {Q:ag -> ah -> Prop} (h:ec.S a0 G Q):al P ec.n [a0] G Q:=by
 have e:ec.S a0 G Q = awp cx (ec.body) ec.an (bK T [.tmp 2] Q) (dN [a0]) G:=by kernel_rfl
 refine ay dO (f:=ec.n) (fn:=Tryz.f217) (c:=ec.body) (an:=ec.an) Tryz.func217 ?_ ?_ ?_ (aF ?_ ?_) (by simp [Tryz.f217]) (e ▸ h) <;> kernel_rfl
def fx.S (a0 a1:ag) (G:ah) (Q:ag -> ah -> Prop):Prop :=
 br G (.own (a0)) fun i1 G2=>br G2 (.own (cI)) fun i3 G4=>wv (lq T G4 aj (.ptr i1 [] 0)) fun v5=>wv (lq T G4 aj (.ptr i1 [] 0)) fun v6=>al P eJ.n [v5,.int .u8 92] G4 fun v7 G8=>(lq T G8 aj (.ptr i1 [] 0) = some v6 /\ True) /\ (al P eJ.n [v6,.int .u8 54] G8 fun v9 G10=>wv (aw T .add bH v9 a1) fun v11=>al P cK.n [v11] G10 fun v12 G13=>al P ec.n [v12] G13 fun v14 G15=>wv (aw T .add bH v7 v14) fun v16=>al P cK.n [v16] G15 fun v17 G18=>wg (ax T G18 aj (.ptr i3 [] 0) v17) fun G19=>wv (lq T G19 aj (.ptr i3 [] 0)) fun v20=>Q v20 G19)
def fx.an:Ann:=.two (.nil) (.two (.ord [(0,[]),(2,[]),(4,[]),(1,[2]),(3,[]),(5,[]),(6,[]),(7,[]),(8,[]),(9,[]),(10,[])]) (.nil))
theorem fx.sound {a0 a1:ag} {G:ah} {Q:ag -> ah -> Prop} (h:fx.S a0 a1 G Q):al P fx.n [a0,a1] G Q:=by
 have e:fx.S a0 a1 G Q = awp cx (fx.body) fx.an (bK T [.cell 4 23] Q) (dN [a0,a1]) G:=by kernel_rfl
 refine ay dO (f:=fx.n) (fn:=Tryz.f194) (c:=fx.body) (an:=fx.an) Tryz.func194 ?_ ?_ ?_ (aF ?_ ?_) (by simp [Tryz.f194]) (e ▸ h) <;> kernel_rfl
def dK.S (a0 a1:ag) (G:ah) (Q:ag -> ah -> Prop):Prop :=
 br G (.own (a0)) fun i1 G2=>br G2 (.own (cI)) fun i3 G4=>wv (lq T G4 aj (.ptr i1 [] 0)) fun v5=>al P fx.n [v5,a1] G4 fun v6 G7=>wg (ax T G7 aj (.ptr i3 [] 0) v6) fun G8=>wv (lq T G8 aj (.ptr i3 [] 0)) fun v9=>Q v9 G8
def dK.an:Ann:=.nil
theorem dK.sound {a0 a1:ag} {G:ah} {Q:ag -> ah -> Prop} (h:dK.S a0 a1 G Q):al P dK.n [a0,a1] G Q:=by
 have e:dK.S a0 a1 G Q = awp cx (dK.body) dK.an (bK T [.cell 4 23] Q) (dN [a0,a1]) G:=by kernel_rfl
 refine ay dO (f:=dK.n) (fn:=Tryz.f156) (c:=dK.body) (an:=dK.an) Tryz.func156 ?_ ?_ ?_ (aF ?_ ?_) (by simp [Tryz.f156]) (e ▸ h) <;> kernel_rfl
def dU.S (a0 a1:ag) (G:ah) (Q:ag -> ah -> Prop):Prop :=
 br G (.own (a0)) fun i1 G2=>br G2 (.own (a1)) fun i3 G4=>br G4 (.own (gE)) fun i5 G6=>wv (lq T G6 aJ (.ptr i3 [] 0)) fun v7=>wv (lq T G6 me (.ptr i3 [7] 7)) fun v8=>wv (lq T G6 bG (.ptr i3 [10] 11)) fun v9=>al P dm.n [v7,v8,v9] G6 fun v10 G11=>wv (aW v10 0) fun v12=>wv (aW v10 1) fun v13=>wv (vun .not v13) fun v14=>brB (some v14)
 (wv (bk T aG []) fun v15=>wg (ax T G11 aG (.ptr i5 [] 0) v15) fun G16=>wv (lq T G16 aG (.ptr i5 [] 0)) fun v17=>Q v17 G16)
 (wv (lq T G11 me (.ptr i3 [7] 7)) fun v18=>wv (lq T G11 aj (.ptr i1 [4] 35)) fun v19=>al P dK.n [v19,v12] G11 fun v20 G21=>(lq T G21 me (.ptr i3 [7] 7) = some v18 /\ True) /\ (wv (bk T aG [(0,.int .i64 4),(3,v18),(5,v20)]) fun v22=>wg (ax T G21 aG (.ptr i5 [] 0) v22) fun G23=>wv (lq T G23 aG (.ptr i5 [] 0)) fun v24=>Q v24 G23))
def dU.an:Ann:=.two (.nil) (.two (.nil) (.two (.nil) (.two (.ord [(0,[]),(1,[]),(2,[]),(3,[]),(4,[]),(5,[1]),(6,[]),(7,[])]) (.nil))))
theorem dU.sound {a0 a1:ag} {G:ah} {Q:ag -> ah -> Prop} (h:dU.S a0 a1 G Q):al P dU.n [a0,a1] G Q:=by
 have e:dU.S a0 a1 G Q = awp cx (dU.body) dU.an (bK T [.cell 4 48] Q) (dN [a0,a1]) G:=by kernel_rfl
 refine ay dO (f:=dU.n) (fn:=Tryz.f96) (c:=dU.body) (an:=dU.an) Tryz.func96 ?_ ?_ ?_ (aF ?_ ?_) (by simp [Tryz.f96]) (e ▸ h) <;> kernel_rfl
def dq.S (a0 a1:ag) (G:ah) (Q:ag -> ah -> Prop):Prop :=
 br G (.own (a0)) fun i1 G2=>br G2 (.own (gE)) fun i3 G4=>let J36:ag -> ah -> Prop:=(fun x8 G7=>brB (some x8)
 (wv (bk T aG []) fun v9=>wg (ax T G7 aG (.ptr i3 [] 0) v9) fun G10=>wv (lq T G10 aG (.ptr i3 [] 0)) fun v11=>Q v11 G10)
 (wv (lq T G7 aj (.ptr i1 [3] 3)) fun v12=>al P bJ.n [v12,a1] G7 fun v13 G14=>wv (aW v13 0) fun v15=>wv (aW v13 1) fun v16=>br G14 (.own (cI)) fun i17 G18=>wg (ax T G18 aj (.ptr i17 [] 0) v15) fun G19=>wv (lq T G19 aj (.ptr i1 [3] 3)) fun v20=>wv (aw T .add me a1 (.int .i64 2)) fun v21=>al P bJ.n [v20,v21] G19 fun v22 G23=>wv (aW v22 0) fun v24=>wv (aW v22 1) fun v25=>br G23 (.own (cI)) fun i26 G27=>wg (ax T G27 aj (.ptr i26 [] 0) v24) fun G28=>wv (lq T G28 aj (.ptr i17 [] 0)) fun v29=>wv (lq T G28 aj (.ptr i26 [] 0)) fun v30=>al P bW.n [v30] G28 fun v31 G32=>(lq T G32 aj (.ptr i17 [] 0) = some v29 /\ True) /\ (wv (bk T aG [(0,.int .i64 5),(3,a1),(6,v29),(5,v31)]) fun v33=>wg (ax T G32 aG (.ptr i3 [] 0) v33) fun G34=>wv (lq T G34 aG (.ptr i3 [] 0)) fun v35=>Q v35 G34)));
 wv (aw T .lss me a1 (.int .i64 0)) fun v5=>brB (some v5)
 (J36 (.bool true) G4)
 (wv (aw T .gtr me a1 (.int .i64 281474976710653)) fun v6=>J36 v6 G4)
def dq.an:Ann:=.two (.nil) (.two (.nil) (.two (.nil) (.two (.nil) (.two (.ord [(0,[]),(1,[]),(2,[]),(3,[1]),(4,[]),(5,[])]) (.nil)))))
theorem dq.sound {a0 a1:ag} {G:ah} {Q:ag -> ah -> Prop} (h:dq.S a0 a1 G Q):al P dq.n [a0,a1] G Q:=by
 have e:dq.S a0 a1 G Q = awp cx (dq.body) dq.an (bK T [.cell 4 48] Q) (dN [a0,a1]) G:=by kernel_rfl
 refine ay dO (f:=dq.n) (fn:=Tryz.f98) (c:=dq.body) (an:=dq.an) Tryz.func98 ?_ ?_ ?_ (aF ?_ ?_) (by simp [Tryz.f98]) (e ▸ h) <;> kernel_rfl
def LU.S (a0 a1:ag) (G:ah) (Q:ag -> ah -> Prop):Prop :=
 br G (.own (a0)) fun i1 G2=>br G2 (.own (a1)) fun i3 G4=>wv (lq T G4 me (.ptr i3 [4] 4)) fun v5=>wv (aw T .lss me v5 (.int .i64 0)) fun v6=>brB (some v6)
 (Q (.bool true) G4)
 (wv (lq T G4 me (.ptr i3 [4] 4)) fun v7=>wv (aw T .eql me v7 (.int .i64 0)) fun v8=>brB (some v8)
 (wv (lq T G4 aj (.ptr i3 [6] 37)) fun v9=>wv (bk T aj []) fun v10=>wv (aw T .eql aj v9 v10) fun v11=>Q v11 G4)
 (wv (lq T G4 aj (.ptr i1 [3] 3)) fun v12=>wv (lq T G4 me (.ptr i3 [4] 4)) fun v13=>wv (aw T .sub me v13 (.int .i64 1)) fun v14=>al P bJ.n [v12,v14] G4 fun v15 G16=>wv (aW v15 0) fun v17=>wv (aW v15 1) fun v18=>br G16 (.own (cI)) fun i19 G20=>wg (ax T G20 aj (.ptr i19 [] 0) v17) fun G21=>wv (aw T .eql bq v18 (.int .i64 0)) fun v22=>brB (some v22)
 (wv (lq T G21 me (.ptr i3 [4] 4)) fun v23=>wv (aw T .leq me v23 (.int .i64 281474976710655)) fun v24=>brB (some v24)
 (wv (lq T G21 aj (.ptr i19 [] 0)) fun v25=>wv (lq T G21 aj (.ptr i3 [6] 37)) fun v26=>wv (aw T .eql aj v25 v26) fun v27=>Q v27 G21)
 (Q (.bool false) G21))
 (Q (.bool false) G21)))
def LU.an:Ann:=.nil
theorem LU.sound {a0 a1:ag} {G:ah} {Q:ag -> ah -> Prop} (h:LU.S a0 a1 G Q):al P LU.n [a0,a1] G Q:=by
 have e:LU.S a0 a1 G Q = awp cx (LU.body) LU.an (bK T [.tmp 4] Q) (dN [a0,a1]) G:=by kernel_rfl
 refine ay dO (f:=LU.n) (fn:=Tryz.f106) (c:=LU.body) (an:=LU.an) Tryz.func106 ?_ ?_ ?_ (aF ?_ ?_) (by simp [Tryz.f106]) (e ▸ h) <;> kernel_rfl
def LZ.S (a0:ag) (G:ah) (Q:ag -> ah -> Prop):Prop :=
 br G (.own (a0)) fun i1 G2=>br G2 (.own (gE)) fun i3 G4=>wv (lq T G4 au (.ptr i1 [0] 0)) fun v5=>wv (lq T G4 me (.ptr i1 [1] 1)) fun v6=>wv (lq T G4 me (.ptr i1 [2] 2)) fun v7=>wv (lq T G4 aj (.ptr i1 [3] 3)) fun v8=>wv (lq T G4 bH (.ptr i1 [4] 35)) fun v9=>wv (bk T aG [(0,v5),(1,v6),(2,v7),(5,v8),(7,v9)]) fun v10=>wg (ax T G4 aG (.ptr i3 [] 0) v10) fun G11=>wv (lq T G11 aG (.ptr i3 [] 0)) fun v12=>Q v12 G11
def LZ.an:Ann:=.nil
theorem LZ.sound {a0:ag} {G:ah} {Q:ag -> ah -> Prop} (h:LZ.S a0 G Q):al P LZ.n [a0] G Q:=by
 have e:LZ.S a0 G Q = awp cx (LZ.body) LZ.an (bK T [.cell 2 48] Q) (dN [a0]) G:=by kernel_rfl
 refine ay dO (f:=LZ.n) (fn:=Tryz.f166) (c:=LZ.body) (an:=LZ.an) Tryz.func166 ?_ ?_ ?_ (aF ?_ ?_) (by simp [Tryz.f166]) (e ▸ h) <;> kernel_rfl
def xh.S (a0 a1 a2 a3:ag) (G:ah) (Q:ag -> ah -> Prop):Prop :=
 ∀ R1:List ag -> ah -> Prop,
 (∀ (x3 x4 x5 x6:ag) (G2:ah),(let J28:ag -> ah -> Prop:=(fun x11 G10=>brB (some x11)
 (wv (aw T .geq au x6 (.int .i64 0)) fun v12=>brB (some v12)
 (wv (aL T ak x4 x6) fun v13=>wv (lq T G10 aI v13) fun v14=>al P LZ.n [v14] G10 fun v15 G16=>bh T aR 1 [(0,v15)] G16 fun v17 G18=>cc T G18 aR aR x3 v17 fun v19 G20=>wv (aw T .add au x6 (.int .i64 1)) fun v26=>R1 [v19,x4,x5,v26] G20)
 (wv (aw T .add au x6 (.int .i64 1)) fun v27=>R1 [x3,x4,x5,v27] G10))
 (Q x3 G10));
 wv (aw T .lss au x6 x5) fun v7=>brB (some v7)
 (wv (gF T G2 ak x4) fun v8=>wv (aw T .lss au x6 v8) fun v9=>J28 v9 G2)
 (J28 (.bool false) G2)) -> R1 [x3,x4,x5,x6] G2) ->
 R1 [a0,a1,a3,a2] G
def xh.an:Ann:=.two (.nil) (.two (.two (.nil) (.loop [0,1,3,9] [false,false,false,false] (.nil))) (.nil))
theorem xh.sound {a0 a1 a2 a3:ag} {G:ah} {Q:ag -> ah -> Prop} (h:xh.S a0 a1 a2 a3 G Q):al P xh.n [a0,a1,a2,a3] G Q:=by
 have e:xh.S a0 a1 a2 a3 G Q = awp cx (xh.body) xh.an (bK T [.tmp 8] Q) (dN [a0,a1,a2,a3]) G:=by kernel_rfl
 refine ay dO (f:=xh.n) (fn:=Tryz.f107) (c:=xh.body) (an:=xh.an) Tryz.func107 ?_ ?_ ?_ (aF ?_ ?_) (by simp [Tryz.f107]) (e ▸ h) <;> kernel_rfl
def LS.S (a0 a1 a2:ag) (G:ah) (Q:ag -> ah -> Prop):Prop :=
 br G (.own (a0)) fun i1 G2=>br G2 (.own (a1)) fun i3 G4=>br G4 (.own (a2)) fun i5 G6=>wv (lq T G6 au (.ptr i5 [0] 0)) fun v7=>wv (aw T .neq au v7 (.int .i64 6)) fun v8=>brB (some v8)
 (Q (.tuple [.nilSlice,.int .i64 160]) G6)
 (wv (lq T G6 cl (.ptr i1 [] 0)) fun v9=>wv (lq T G6 aG (.ptr i5 [] 0)) fun v10=>al P LU.n [v9,v10] G6 fun v11 G12=>wv (vun .not v11) fun v13=>brB (some v13)
 (Q (.tuple [.nilSlice,.int .i64 100]) G12)
 (wv (lq T G12 me (.ptr i5 [4] 4)) fun v14=>wv (lq T G12 me (.ptr i3 [6] 6)) fun v15=>wv (aw T .gtr me v14 v15) fun v16=>brB (some v16)
 (Q (.tuple [.nilSlice,.int .i64 180]) G12)
 (let J106:ag -> ah -> Prop:=(fun x24 G23=>brB (some x24)
 (Q (.tuple [.nilSlice,.int .i64 90]) G23)
 (let J105:ag -> ah -> Prop:=(fun x33 G32=>let J104:ag -> ah -> Prop:=(fun x40 G39=>brB (some x40)
 (Q (.tuple [.nilSlice,.int .i64 90]) G39)
 (let J103:ag -> ah -> Prop:=(fun x47 G46=>let J102:ag -> ah -> Prop:=(fun x58 G57=>let J101:ag -> ah -> Prop:=(fun x73 G72=>let J100:ag -> ah -> Prop:=(fun x81 G80=>let J99:ag -> ah -> Prop:=(fun x92 G91=>wv (lq T G91 ak (.ptr i3 [4] 4)) fun v93=>wv (lq T G91 au (.ptr i3 [10,0] 11)) fun v94=>wv (lq T G91 ak (.ptr i3 [4] 4)) fun v95=>wv (gF T G91 ak v95) fun v96=>al P xh.n [x92,v93,v94,v96] G91 fun v97 G98=>Q (.tuple [v97,.int .i64 0]) G98);
 brB (some x81)
 (wv (lq T G80 cl (.ptr i1 [] 0)) fun v82=>wv (lq T G80 me (.ptr i3 [6] 6)) fun v83=>wv (aw T .sub me v83 (.int .i64 1)) fun v84=>al P dq.n [v82,v84] G80 fun v85 G86=>bh T aR 1 [(0,v85)] G86 fun v87 G88=>cc T G88 aR aR x73 v87 fun v89 G90=>J99 v89 G90)
 (J99 x73 G80));
 wv (lq T G72 me (.ptr i5 [4] 4)) fun v74=>wv (lq T G72 me (.ptr i3 [6] 6)) fun v75=>wv (aw T .sub me v75 (.int .i64 1)) fun v76=>wv (aw T .eql me v74 v76) fun v77=>brB (some v77)
 (wv (lq T G72 ey (.ptr i3 [12] 15)) fun v78=>wv (vun .not v78) fun v79=>J100 v79 G72)
 (J100 (.bool false) G72));
 brB (some x33)
 (wv (lq T G57 ak (.ptr i3 [4] 4)) fun v59=>wv (lq T G57 au (.ptr i3 [11,0] 13)) fun v60=>wv (lq T G57 au (.ptr i3 [10,0] 11)) fun v61=>al P xh.n [x58,v59,v60,v61] G57 fun v62 G63=>wv (lq T G63 cl (.ptr i1 [] 0)) fun v64=>wv (lq T G63 aJ (.ptr i3 [] 0)) fun v65=>al P dU.n [v64,v65] G63 fun v66 G67=>bh T aR 1 [(0,v66)] G67 fun v68 G69=>cc T G69 aR aR v62 v68 fun v70 G71=>J101 v70 G71)
 (J101 x58 G57));
 brB (some x47)
 (wv (lq T G46 cl (.ptr i1 [] 0)) fun v48=>wv (lq T G46 me (.ptr i3 [6] 6)) fun v49=>wv (aw T .sub me v49 (.int .i64 1)) fun v50=>al P dq.n [v48,v50] G46 fun v51 G52=>bh T aR 1 [(0,v51)] G52 fun v53 G54=>cc T G54 aR aR (.nilSlice) v53 fun v55 G56=>J102 v55 G56)
 (J102 (.nilSlice) G46));
 wv (lq T G39 me (.ptr i5 [4] 4)) fun v41=>wv (lq T G39 me (.ptr i3 [6] 6)) fun v42=>wv (aw T .sub me v42 (.int .i64 1)) fun v43=>wv (aw T .eql me v41 v43) fun v44=>brB (some v44)
 (wv (lq T G39 ey (.ptr i3 [12] 15)) fun v45=>J103 v45 G39)
 (J103 (.bool false) G39)));
 wv (vun .not x33) fun v34=>brB (some v34)
 (wv (lq T G32 me (.ptr i5 [3] 3)) fun v35=>wv (lq T G32 me (.ptr i3 [7] 7)) fun v36=>wv (aw T .add me v36 (.int .i64 1)) fun v37=>wv (aw T .neq me v35 v37) fun v38=>J104 v38 G32)
 (J104 (.bool false) G32));
 wv (lq T G23 me (.ptr i5 [3] 3)) fun v25=>wv (lq T G23 me (.ptr i3 [7] 7)) fun v26=>wv (aw T .eql me v25 v26) fun v27=>brB (some v27)
 (wv (lq T G23 me (.ptr i3 [7] 7)) fun v28=>wv (lq T G23 me (.ptr i3 [8] 8)) fun v29=>wv (aw T .add me v29 (.int .i64 1)) fun v30=>wv (aw T .eql me v28 v30) fun v31=>J105 v31 G23)
 (J105 (.bool false) G23)));
 wv (lq T G12 me (.ptr i5 [4] 4)) fun v17=>wv (aw T .lss me v17 (.int .i64 0)) fun v18=>brB (some v18)
 (J106 (.bool true) G12)
 (wv (lq T G12 me (.ptr i5 [4] 4)) fun v19=>wv (lq T G12 me (.ptr i3 [6] 6)) fun v20=>wv (aw T .sub me v20 (.int .i64 1)) fun v21=>wv (aw T .lss me v19 v21) fun v22=>J106 v22 G12))))
def LS.an:Ann:=.nil
theorem LS.sound {a0 a1 a2:ag} {G:ah} {Q:ag -> ah -> Prop} (h:LS.S a0 a1 a2 G Q):al P LS.n [a0,a1,a2] G Q:=by
 have e:LS.S a0 a1 a2 G Q = awp cx (LS.body) LS.an (bK T [.tmp 6,.tmp 7] Q) (dN [a0,a1,a2]) G:=by kernel_rfl
 refine ay dO (f:=LS.n) (fn:=Tryz.f46) (c:=LS.body) (an:=LS.an) Tryz.func46 ?_ ?_ ?_ (aF ?_ ?_) (by simp [Tryz.f46]) (e ▸ h) <;> kernel_rfl
def xp.S (a0 a1 a2:ag) (G:ah) (Q:ag -> ah -> Prop):Prop :=
 br G (.own (a0)) fun i1 G2=>br G2 (.own (a1)) fun i3 G4=>br G4 (.own (a2)) fun i5 G6=>wv (lq T G6 aJ (.ptr i3 [] 0)) fun v7=>al P dM.n [v7] G6 fun v8 G9=>br G9 (.own (iT)) fun i10 G11=>wg (ax T G11 aJ (.ptr i10 [] 0) v8) fun G12=>wv (lq T G12 cl (.ptr i1 [] 0)) fun v13=>wv (lq T G12 aJ (.ptr i10 [] 0)) fun v14=>wv (lq T G12 aG (.ptr i5 [] 0)) fun v15=>al P cW.n [v13,v14,v15] G12 fun v16 G17=>wv (aW v16 0) fun v18=>wv (aW v16 1) fun v19=>wv (lq T G17 cl (.ptr i1 [] 0)) fun v20=>wv (lq T G17 aJ (.ptr i10 [] 0)) fun v21=>wv (lq T G17 aG (.ptr i5 [] 0)) fun v22=>al P cW.n [v20,v21,v22] G17 fun v23 G24=>wv (aW v23 0) fun v25=>wv (aW v23 1) fun v26=>wv (lq T G24 cl (.ptr i1 [] 0)) fun v27=>wv (lq T G24 aJ (.ptr i3 [] 0)) fun v28=>wv (lq T G24 aG (.ptr i5 [] 0)) fun v29=>al P LS.n [v27,v28,v29] G24 fun v30 G31=>wv (aW v30 0) fun v32=>wv (aW v30 1) fun v33=>let J80:ag -> ah -> Prop:=(fun x48 G47=>brB (some x48)
 (Q (.bool false) G47)
 (∀ R49:List ag -> ah -> Prop,
 (∀ (x51 x52 x53 x54 x55 x56:ag) (G50:ah),(wv (gF T G50 aR x53) fun v57=>wv (aw T .lss au x56 v57) fun v58=>brB (some v58)
 (wv (bk T aG [(0,.int .i64 (-1))]) fun v59=>wv (aL T aR x53 x56) fun v60=>wg (ax T G50 aG v60 v59) fun G61=>wv (aw T .add au x56 (.int .i64 1)) fun v62=>R49 [x51,x52,x53,x54,x55,v62] G61)
 (wv (bk T aG [(0,.int .i64 (-2))]) fun v63=>bh T aR 1 [(0,v63)] G50 fun v64 G65=>cc T G65 aR aR x53 v64 fun v66 G67=>wv (gF T G67 aR v66) fun v68=>wv (gF T G67 aR x55) fun v69=>wv (aw T .add au v69 (.int .i64 1)) fun v70=>wv (aw T .eql au v68 v70) fun v71=>brB (some v71)
 (al P eV.n [x54,x55] G67 fun v72 G73=>brB (some v72)
 (wv (lq T G73 aJ x52) fun v74=>wv (lq T G73 aJ x51) fun v75=>al P xe.n [v74,v75] G73 fun v76 G77=>Q v76 G77)
 (Q (.bool false) G73))
 (Q (.bool false) G67))) -> R49 [x51,x52,x53,x54,x55,x56] G50) ->
 R49 [.ptr i3 [] 0,.ptr i10 [] 0,v18,v25,v32,.int .i64 0] G47));
 al P eV.n [v18,v32] G31 fun v34 G35=>wv (vun .not v34) fun v36=>brB (some v36)
 (J80 (.bool true) G35)
 (al P eV.n [v25,v32] G35 fun v37 G38=>wv (vun .not v37) fun v39=>brB (some v39)
 (J80 (.bool true) G38)
 (wv (aw T .neq bq v19 v33) fun v40=>brB (some v40)
 (J80 (.bool true) G38)
 (wv (aw T .neq bq v26 v33) fun v41=>brB (some v41)
 (J80 (.bool true) G38)
 (wv (lq T G38 aJ (.ptr i10 [] 0)) fun v42=>wv (lq T G38 aJ (.ptr i3 [] 0)) fun v43=>al P xe.n [v42,v43] G38 fun v44 G45=>wv (vun .not v44) fun v46=>J80 v46 G45))))
def xp.an:Ann:=.two (.nil) (.two (.nil) (.two (.nil) (.two (.nil) (.two (.nil) (.two (.nil) (.two (.two (.nil) (.loop [4,7,8,10,12,14] [false,false,false,false,false,false] (.nil))) (.nil)))))))
theorem xp.sound {a0 a1 a2:ag} {G:ah} {Q:ag -> ah -> Prop} (h:xp.S a0 a1 a2 G Q):al P xp.n [a0,a1,a2] G Q:=by
 have e:xp.S a0 a1 a2 G Q = awp cx (xp.body) xp.an (bK T [.tmp 6] Q) (dN [a0,a1,a2]) G:=by kernel_rfl
 refine ay dO (f:=xp.n) (fn:=Tryz.f16) (c:=xp.body) (an:=xp.an) Tryz.func16 ?_ ?_ ?_ (aF ?_ ?_) (by simp [Tryz.f16]) (e ▸ h) <;> kernel_rfl
def LX.S (a0 a1 a2:ag) (G:ah) (Q:ag -> ah -> Prop):Prop :=
 br G (.own (a0)) fun i1 G2=>br G2 (.own (a1)) fun i3 G4=>br G4 (.own (a2)) fun i5 G6=>br G6 (.own (gE)) fun i7 G8=>wv (lq T G8 me (.ptr i1 [3] 3)) fun v9=>wv (lq T G8 me (.ptr i3 [0] 0)) fun v10=>wv (aw T .add me v9 v10) fun v11=>wg (ax T G8 me (.ptr i1 [3] 3) v11) fun G12=>wv (lq T G12 me (.ptr i1 [4] 4)) fun v13=>wv (lq T G12 me (.ptr i3 [1] 1)) fun v14=>wv (aw T .add me v13 v14) fun v15=>wg (ax T G12 me (.ptr i1 [4] 4) v15) fun G16=>wv (lq T G16 ey (.ptr i3 [2] 2)) fun v17=>let J46:ah -> Prop:=(fun G20=>wv (lq T G20 ey (.ptr i3 [4] 35)) fun v21=>let J45:ah -> Prop:=(fun G30=>wv (lq T G30 au (.ptr i3 [5] 36)) fun v31=>wv (aw T .neq au v31 (.int .i64 0)) fun v32=>brB (some v32)
 (wv (lq T G30 au (.ptr i3 [5] 36)) fun v33=>wg (ax T G30 au (.ptr i1 [0] 0) v33) fun G34=>wv (lq T G34 aG (.ptr i1 [] 0)) fun v39=>wg (ax T G34 aG (.ptr i7 [] 0) v39) fun G40=>wv (lq T G40 aG (.ptr i7 [] 0)) fun v41=>Q v41 G40)
 (wv (lq T G30 aG (.ptr i1 [] 0)) fun v42=>wg (ax T G30 aG (.ptr i7 [] 0) v42) fun G43=>wv (lq T G43 aG (.ptr i7 [] 0)) fun v44=>Q v44 G43));
 brB (some v21)
 (wv (lq T G20 aj (.ptr i5 [3] 3)) fun v22=>wv (lq T G20 me (.ptr i1 [4] 4)) fun v23=>wv (aw T .sub me v23 (.int .i64 1)) fun v24=>al P bJ.n [v22,v24] G20 fun v25 G26=>wv (aW v25 0) fun v27=>wv (aW v25 1) fun v28=>wg (ax T G26 aj (.ptr i1 [6] 37) v27) fun G29=>J45 G29)
 (J45 G20));
 brB (some v17)
 (wv (lq T G16 aj (.ptr i3 [3] 3)) fun v18=>wg (ax T G16 aj (.ptr i1 [6] 37) v18) fun G19=>J46 G19)
 (J46 G16)
def LX.an:Ann:=.nil
theorem LX.sound {a0 a1 a2:ag} {G:ah} {Q:ag -> ah -> Prop} (h:LX.S a0 a1 a2 G Q):al P LX.n [a0,a1,a2] G Q:=by
 have e:LX.S a0 a1 a2 G Q = awp cx (LX.body) LX.an (bK T [.cell 6 48] Q) (dN [a0,a1,a2]) G:=by kernel_rfl
 refine ay dO (f:=LX.n) (fn:=Tryz.f17) (c:=LX.body) (an:=LX.an) Tryz.func17 ?_ ?_ ?_ (aF ?_ ?_) (by simp [Tryz.f17]) (e ▸ h) <;> kernel_rfl
def b9.S (a0 a1 a2:ag) (G:ah) (Q:ag -> ah -> Prop):Prop :=
 br G (.own (a2)) fun i1 G2=>br G2 (.own (gE)) fun i3 G4=>wv (kH a0) fun v5=>wv (bx T bw v5 2) fun v6=>wv (lq T G4 aR v6) fun v7=>wv (aw T .eql au a1 (.int .i64 1)) fun v8=>let J53:ag -> ah -> Prop:=(fun x13 G12=>wv (gF T G12 aR x13) fun v14=>wv (aw T .eql au v14 (.int .i64 0)) fun v15=>brB (some v15)
 (wv (bk T aG []) fun v16=>wg (ax T G12 aG (.ptr i3 [] 0) v16) fun G17=>wv (lq T G17 aG (.ptr i3 [] 0)) fun v18=>Q (.tuple [v18,.bool false]) G17)
 (wv (aL T aR x13 (.int .i64 0)) fun v19=>wv (lq T G12 aG v19) fun v20=>br G12 (.own (gE)) fun i21 G22=>wg (ax T G22 aG (.ptr i21 [] 0) v20) fun G23=>wv (aw T .eql au a1 (.int .i64 1)) fun v24=>let J52:ah -> Prop:=(fun G33=>wv (lq T G33 me (.ptr i21 [3] 3)) fun v34=>wv (lq T G33 me (.ptr i1 [6] 37)) fun v35=>wv (aw T .add me v34 v35) fun v36=>wg (ax T G33 me (.ptr i21 [3] 3) v36) fun G37=>wv (lq T G37 bH (.ptr i1 [5] 36)) fun v38=>wv (aw T .eql bH v38 (.str [98,101,110,100])) fun v39=>brB (some v39)
 (wv (lq T G37 aj (.ptr i1 [4] 4)) fun v40=>wg (ax T G37 aj (.ptr i21 [5] 5) v40) fun G41=>wv (lq T G41 aG (.ptr i21 [] 0)) fun v46=>wg (ax T G41 aG (.ptr i3 [] 0) v46) fun G47=>wv (lq T G47 aG (.ptr i3 [] 0)) fun v48=>Q (.tuple [v48,.bool true]) G47)
 (wv (lq T G37 aG (.ptr i21 [] 0)) fun v49=>wg (ax T G37 aG (.ptr i3 [] 0) v49) fun G50=>wv (lq T G50 aG (.ptr i3 [] 0)) fun v51=>Q (.tuple [v51,.bool true]) G50));
 brB (some v24)
 (wv (fj T aR x13 (some (.int .i64 1)) none none) fun v25=>wv (kH a0) fun v26=>wv (bx T bw v26 3) fun v27=>wg (ax T G23 aR v27 v25) fun G28=>J52 G28)
 (wv (fj T aR x13 (some (.int .i64 1)) none none) fun v29=>wv (kH a0) fun v30=>wv (bx T bw v30 2) fun v31=>wg (ax T G23 aR v31 v29) fun G32=>J52 G32)));
 brB (some v8)
 (wv (kH a0) fun v9=>wv (bx T bw v9 3) fun v10=>wv (lq T G4 aR v10) fun v11=>J53 v11 G4)
 (J53 v7 G4)
def b9.an:Ann:=.nil
theorem b9.sound {a0 a1 a2:ag} {G:ah} {Q:ag -> ah -> Prop} (h:b9.S a0 a1 a2 G Q):al P b9.n [a0,a1,a2] G Q:=by
 have e:b9.S a0 a1 a2 G Q = awp cx (b9.body) b9.an (bK T [.cell 6 48,.tmp 7] Q) (dN [a0,a1,a2]) G:=by kernel_rfl
 refine ay dO (f:=b9.n) (fn:=Tryz.f24) (c:=b9.body) (an:=b9.an) Tryz.func24 ?_ ?_ ?_ (aF ?_ ?_) (by simp [Tryz.f24]) (e ▸ h) <;> kernel_rfl
def bB.S (a0 a1:ag) (G:ah) (Q:ag -> ah -> Prop):Prop :=
 wv (aw T .lss au a1 (.int .i64 0)) fun v1=>brB (some v1)
 (wv (gF T G ak a0) fun v12=>wv (aw T .gtr au (.int .i64 0) v12) fun v13=>brB (some v13)
 (wv (gF T G ak a0) fun v14=>wv (fj T ak a0 none (some (v14)) none) fun v18=>Q v18 G)
 (wv (fj T ak a0 none (some (.int .i64 0)) none) fun v19=>Q v19 G))
 (wv (gF T G ak a0) fun v20=>wv (aw T .gtr au a1 v20) fun v21=>brB (some v21)
 (wv (gF T G ak a0) fun v22=>wv (fj T ak a0 none (some (v22)) none) fun v26=>Q v26 G)
 (wv (fj T ak a0 none (some (a1)) none) fun v27=>Q v27 G))
def bB.an:Ann:=.nil
theorem bB.sound {a0 a1:ag} {G:ah} {Q:ag -> ah -> Prop} (h:bB.S a0 a1 G Q):al P bB.n [a0,a1] G Q:=by
 have e:bB.S a0 a1 G Q = awp cx (bB.body) bB.an (bK T [.tmp 4] Q) (dN [a0,a1]) G:=by kernel_rfl
 refine ay dO (f:=bB.n) (fn:=Tryz.f110) (c:=bB.body) (an:=bB.an) Tryz.func110 ?_ ?_ ?_ (aF ?_ ?_) (by simp [Tryz.f110]) (e ▸ h) <;> kernel_rfl
def fw.S (a0:ag) (G:ah) (Q:ag -> ah -> Prop):Prop :=
 br G (.own (a0)) fun i1 G2=>br G2 (.own (iT)) fun i3 G4=>wv (lq T G4 ak (.ptr i1 [4] 4)) fun v5=>cc T G4 ak ak (.nilSlice) v5 fun v6 G7=>wg (ax T G7 ak (.ptr i1 [4] 4) v6) fun G8=>wv (lq T G8 ak (.ptr i1 [5] 5)) fun v9=>wv (lq T G8 au (.ptr i1 [9,1] 10)) fun v10=>al P bB.n [v9,v10] G8 fun v11 G12=>cc T G12 ak ak (.nilSlice) v11 fun v13 G14=>wg (ax T G14 ak (.ptr i1 [5] 5) v13) fun G15=>wv (lq T G15 bu (.ptr i1 [15] 112)) fun v16=>cc T G15 bu bu (.nilSlice) v16 fun v17 G18=>wg (ax T G18 bu (.ptr i1 [15] 112) v17) fun G19=>wv (lq T G19 aJ (.ptr i1 [] 0)) fun v20=>wg (ax T G19 aJ (.ptr i3 [] 0) v20) fun G21=>wv (lq T G21 aJ (.ptr i3 [] 0)) fun v22=>Q v22 G21
def fw.an:Ann:=.nil
theorem fw.sound {a0:ag} {G:ah} {Q:ag -> ah -> Prop} (h:fw.S a0 G Q):al P fw.n [a0] G Q:=by
 have e:fw.S a0 G Q = awp cx (fw.body) fw.an (bK T [.cell 2 38] Q) (dN [a0]) G:=by kernel_rfl
 refine ay dO (f:=fw.n) (fn:=Tryz.f51) (c:=fw.body) (an:=fw.an) Tryz.func51 ?_ ?_ ?_ (aF ?_ ?_) (by simp [Tryz.f51]) (e ▸ h) <;> kernel_rfl
def eT.S (a0:ag) (G:ah) (Q:ag -> ah -> Prop):Prop :=
 ∀ R1:List ag -> ah -> Prop,
 (∀ (x3 x4 x5:ag) (G2:ah),(wv (gF T G2 ak x3) fun v6=>wv (aw T .lss au x5 v6) fun v7=>brB (some v7)
 (wv (aL T ak x3 x5) fun v8=>wv (bx T aI v8 0) fun v9=>wv (lq T G2 au v9) fun v10=>wv (aw T .eql au v10 (.int .i64 1)) fun v11=>brB (some v11)
 (wv (aw T .add me x4 (.int .i64 1)) fun v12=>wv (aw T .add au x5 (.int .i64 1)) fun v18=>R1 [x3,v12,v18] G2)
 (wv (aw T .add au x5 (.int .i64 1)) fun v19=>R1 [x3,x4,v19] G2))
 (Q x4 G2)) -> R1 [x3,x4,x5] G2) ->
 R1 [a0,.int .i64 0,.int .i64 0] G
def eT.an:Ann:=.two (.nil) (.two (.nil) (.two (.two (.nil) (.loop [0,3,4] [false,false,false] (.nil))) (.nil)))
theorem eT.sound {a0:ag} {G:ah} {Q:ag -> ah -> Prop} (h:eT.S a0 G Q):al P eT.n [a0] G Q:=by
 have e:eT.S a0 G Q = awp cx (eT.body) eT.an (bK T [.tmp 2] Q) (dN [a0]) G:=by kernel_rfl
 refine ay dO (f:=eT.n) (fn:=Tryz.f204) (c:=eT.body) (an:=eT.an) Tryz.func204 ?_ ?_ ?_ (aF ?_ ?_) (by simp [Tryz.f204]) (e ▸ h) <;> kernel_rfl
def eR.S (a0 a1:ag) (G:ah) (Q:ag -> ah -> Prop):Prop :=
 br G (.own (gy)) fun i1 G2=>∀ R3:List ag -> ah -> Prop,
 (∀ (x5 x6 x7 x8:ag) (G4:ah),(wv (gF T G4 ak x5) fun v9=>wv (aw T .lss au x8 v9) fun v10=>brB (some v10)
 (wv (aL T ak x5 x8) fun v11=>wv (bx T aI v11 0) fun v12=>wv (lq T G4 au v12) fun v13=>wv (aw T .eql au v13 (.int .i64 1)) fun v14=>brB (some v14)
 (wv (aL T ak x5 x8) fun v15=>wv (bx T aI v15 1) fun v16=>wv (lq T G4 me v16) fun v17=>wv (aw T .eql me v17 x6) fun v18=>brB (some v18)
 (wv (aL T ak x5 x8) fun v25=>wv (lq T G4 aI v25) fun v26=>wg (ax T G4 aI x7 v26) fun G27=>wv (lq T G27 aI x7) fun v28=>Q (.tuple [v28,.bool true]) G27)
 (wv (aw T .add au x8 (.int .i64 1)) fun v31=>R3 [x5,x6,x7,v31] G4))
 (wv (aw T .add au x8 (.int .i64 1)) fun v32=>R3 [x5,x6,x7,v32] G4))
 (wv (bk T aI []) fun v33=>wg (ax T G4 aI x7 v33) fun G34=>wv (lq T G34 aI x7) fun v35=>Q (.tuple [v35,.bool false]) G34)) -> R3 [x5,x6,x7,x8] G4) ->
 R3 [a0,a1,.ptr i1 [] 0,.int .i64 0] G2
def eR.an:Ann:=.two (.nil) (.two (.two (.nil) (.loop [0,1,4,6] [false,false,false,false] (.nil))) (.nil))
theorem eR.sound {a0 a1:ag} {G:ah} {Q:ag -> ah -> Prop} (h:eR.S a0 a1 G Q):al P eR.n [a0,a1] G Q:=by
 have e:eR.S a0 a1 G Q = awp cx (eR.body) eR.an (bK T [.cell 4 76,.tmp 5] Q) (dN [a0,a1]) G:=by kernel_rfl
 refine ay dO (f:=eR.n) (fn:=Tryz.f205) (c:=eR.body) (an:=eR.an) Tryz.func205 ?_ ?_ ?_ (aF ?_ ?_) (by simp [Tryz.f205]) (e ▸ h) <;> kernel_rfl
def cP.S (a0 a1:ag) (G:ah) (Q:ag -> ah -> Prop):Prop :=
 br G (.own (gy)) fun i1 G2=>∀ R3:List ag -> ah -> Prop,
 (∀ (x5 x6 x7 x8:ag) (G4:ah),(wv (gF T G4 ak x5) fun v9=>wv (aw T .lss au x8 v9) fun v10=>brB (some v10)
 (let J33:ag -> ah -> Prop:=(fun x28 G27=>brB (some x28)
 (wv (aL T ak x5 x8) fun v29=>wv (lq T G27 aI v29) fun v30=>wg (ax T G27 aI x7 v30) fun G31=>wv (lq T G31 aI x7) fun v32=>Q (.tuple [v32,.bool true]) G31)
 (wv (aw T .add au x8 (.int .i64 1)) fun v34=>R3 [x5,x6,x7,v34] G27));
 wv (aL T ak x5 x8) fun v11=>wv (bx T aI v11 0) fun v12=>wv (lq T G4 au v12) fun v13=>wv (aw T .eql au v13 (.int .i64 2)) fun v14=>brB (some v14)
 (wv (aL T ak x5 x8) fun v15=>wv (bx T aI v15 1) fun v16=>wv (lq T G4 me v16) fun v17=>wv (aw T .eql me v17 x6) fun v18=>J33 v18 G4)
 (wv (aL T ak x5 x8) fun v19=>wv (bx T aI v19 0) fun v20=>wv (lq T G4 au v20) fun v21=>wv (aw T .eql au v21 (.int .i64 3)) fun v22=>brB (some v22)
 (wv (aL T ak x5 x8) fun v23=>wv (bx T aI v23 1) fun v24=>wv (lq T G4 me v24) fun v25=>wv (aw T .eql me v25 x6) fun v26=>J33 v26 G4)
 (J33 (.bool false) G4)))
 (wv (bk T aI []) fun v35=>wg (ax T G4 aI x7 v35) fun G36=>wv (lq T G36 aI x7) fun v37=>Q (.tuple [v37,.bool false]) G36)) -> R3 [x5,x6,x7,x8] G4) ->
 R3 [a0,a1,.ptr i1 [] 0,.int .i64 0] G2
def cP.an:Ann:=.two (.nil) (.two (.two (.nil) (.loop [0,1,4,6] [false,false,false,false] (.nil))) (.nil))
theorem cP.sound {a0 a1:ag} {G:ah} {Q:ag -> ah -> Prop} (h:cP.S a0 a1 G Q):al P cP.n [a0,a1] G Q:=by
 have e:cP.S a0 a1 G Q = awp cx (cP.body) cP.an (bK T [.cell 4 76,.tmp 5] Q) (dN [a0,a1]) G:=by kernel_rfl
 refine ay dO (f:=cP.n) (fn:=Tryz.f206) (c:=cP.body) (an:=cP.an) Tryz.func206 ?_ ?_ ?_ (aF ?_ ?_) (by simp [Tryz.f206]) (e ▸ h) <;> kernel_rfl
end Go.Esc.M
