import Derived.Test.YtkojimdacnohpaaGreatDoorT
set_option linter.unusedSimpArgs false
set_option linter.unusedVariables false
set_option maxRecDepth 100000
namespace Go.Esc.M
open Go Go.Esc Go.Proofs
def eI.S (a0:ag) (G:ah) (Q:ag -> ah -> Prop):Prop :=
 br G (.own (cI)) fun i1 G2=>∀ R3:List ag -> ah -> Prop,
 (∀ (x5 x6 x7 x8:ag) (G4:ah),(wv (gF T G4 im x5) fun v9=>wv (aw T .lss au x8 v9) fun v10=>brB (some v10)
 (wv (aL T im x5 x8) fun v11=>wv (lq T G4 bH v11) fun v12=>wv (aw T .add bH x7 v12) fun v13=>wv (aw T .add au x8 (.int .i64 1)) fun v14=>R3 [x5,x6,v13,v14] G4)
 (al P cK.n [x7] G4 fun v15 G16=>wg (ax T G16 aj x6 v15) fun G17=>wv (lq T G17 aj x6) fun v18=>Q v18 G17)) -> R3 [x5,x6,x7,x8] G4) ->
 R3 [a0,.ptr i1 [] 0,.str [],.int .i64 0] G2
def eI.an:Ann:=.two (.nil) (.two (.nil) (.two (.two (.nil) (.loop [0,2,3,4] [false,false,false,false] (.nil))) (.nil)))
theorem eI.sound {a0:ag} {G:ah} {Q:ag -> ah -> Prop} (h:eI.S a0 G Q):al P eI.n [a0] G Q:=by
 have e:eI.S a0 G Q = awp cx (eI.body) eI.an (bK T [.cell 2 23] Q) (dN [a0]) G:=by kernel_rfl
 refine ay dO (f:=eI.n) (fn:=Tryz.f169) (c:=eI.body) (an:=eI.an) Tryz.func169 ?_ ?_ ?_ (aF ?_ ?_) (by simp [Tryz.f169]) (e ▸ h) <;> kernel_rfl
def bW.S (a0:ag) (G:ah) (Q:ag -> ah -> Prop):Prop :=
 br G (.own (a0)) fun i1 G2=>br G2 (.own (cI)) fun i3 G4=>wv (fj T aj (.ptr i1 [] 0) none none none) fun v5=>wv (gi T G4 aP bH v5) fun v6=>bh T im 1 [(0,v6)] G4 fun v7 G8=>al P eI.n [v7] G8 fun v9 G10=>wg (ax T G10 aj (.ptr i3 [] 0) v9) fun G11=>wv (lq T G11 aj (.ptr i3 [] 0)) fun v12=>Q v12 G11
def bW.an:Ann:=.nil
theorem bW.sound {a0:ag} {G:ah} {Q:ag -> ah -> Prop} (h:bW.S a0 G Q):al P bW.n [a0] G Q:=by
 have e:bW.S a0 G Q = awp cx (bW.body) bW.an (bK T [.cell 2 23] Q) (dN [a0]) G:=by kernel_rfl
 refine ay dO (f:=bW.n) (fn:=Tryz.f111) (c:=bW.body) (an:=bW.an) Tryz.func111 ?_ ?_ ?_ (aF ?_ ?_) (by simp [Tryz.f111]) (e ▸ h) <;> kernel_rfl
def dL.S (a0 a1 a2:ag) (G:ah) (Q:ag -> ah -> Prop):Prop :=
 br G (.own (a0)) fun i1 G2=>br G2 (.own (a1)) fun i3 G4=>br G4 (.own (cI)) fun i5 G6=>wv (aw T .sub au a2 (.int .i64 1)) fun v7=>∀ R8:List ag -> ah -> Prop,
 (∀ (x10 x11 x12 x13:ag) (G9:ah),(wv (aw T .geq au x13 (.int .i64 0)) fun v14=>brB (some v14)
 (wv (aL T jE x11 x13) fun v15=>wv (lq T G9 au v15) fun v16=>wv (aw T .eql au v16 (.int .i64 1)) fun v17=>brB (some v17)
 (wv (aw T .quo au x13 (.int .i64 8)) fun v18=>wv (aw T .quo au x13 (.int .i64 8)) fun v19=>wv (aL T aj x10 v19) fun v20=>wv (lq T G9 cg v20) fun v21=>wv (aw T .rem au x13 (.int .i64 8)) fun v22=>wv (gi T G9 au kQ v22) fun v23=>wv (aw T .shl cg (.int .u8 1) v23) fun v24=>wv (aw T .xor cg v21 v24) fun v25=>wv (aL T aj x10 v18) fun v26=>wg (ax T G9 cg v26 v25) fun G27=>wv (lq T G27 aj x10) fun v28=>al P bW.n [v28] G27 fun v29 G30=>wg (ax T G30 aj x10 v29) fun G31=>wv (aw T .sub au x13 (.int .i64 1)) fun v35=>R8 [x10,x11,x12,v35] G31)
 (wv (aw T .sub au x13 (.int .i64 1)) fun v36=>R8 [x10,x11,x12,v36] G9))
 (wv (lq T G9 aj x10) fun v37=>wg (ax T G9 aj x12 v37) fun G38=>wv (lq T G38 aj x12) fun v39=>Q v39 G38)) -> R8 [x10,x11,x12,x13] G9) ->
 R8 [.ptr i1 [] 0,.ptr i3 [] 0,.ptr i5 [] 0,v7] G6
def dL.an:Ann:=.two (.nil) (.two (.two (.nil) (.loop [3,4,6,7] [false,false,false,false] (.nil))) (.nil))
theorem dL.sound {a0 a1 a2:ag} {G:ah} {Q:ag -> ah -> Prop} (h:dL.S a0 a1 a2 G Q):al P dL.n [a0,a1,a2] G Q:=by
 have e:dL.S a0 a1 a2 G Q = awp cx (dL.body) dL.an (bK T [.cell 6 23] Q) (dN [a0,a1,a2]) G:=by kernel_rfl
 refine ay dO (f:=dL.n) (fn:=Tryz.f55) (c:=dL.body) (an:=dL.an) Tryz.func55 ?_ ?_ ?_ (aF ?_ ?_) (by simp [Tryz.f55]) (e ▸ h) <;> kernel_rfl
def cj.S (a0:ag) (G:ah) (Q:ag -> ah -> Prop):Prop :=
 br G (.own (nS)) fun i1 G2=>br G2 (.own (nS)) fun i3 G4=>wv (aw T .sub me (.int .i64 281474976710655) a0) fun v5=>∀ R6:List ag -> ah -> Prop,
 (∀ (x8 x9 x10 x11:ag) (G7:ah),(wv (aw T .lss au x11 (.int .i64 48)) fun v12=>brB (some v12)
 (wv (aw T .rem me x10 (.int .i64 2)) fun v13=>wv (aL T jE x9 x11) fun v14=>wg (ax T G7 au v14 v13) fun G15=>wv (aw T .quo me x10 (.int .i64 2)) fun v16=>wv (aw T .add au x11 (.int .i64 1)) fun v17=>R6 [x8,x9,v16,v17] G15)
 (wv (lq T G7 jE x9) fun v18=>wg (ax T G7 jE x8 v18) fun G19=>wv (lq T G19 jE x8) fun v20=>Q v20 G19)) -> R6 [x8,x9,x10,x11] G7) ->
 R6 [.ptr i1 [] 0,.ptr i3 [] 0,v5,.int .i64 0] G4
def cj.an:Ann:=.two (.nil) (.two (.nil) (.two (.nil) (.two (.two (.nil) (.loop [2,3,4,5] [false,false,false,false] (.nil))) (.nil))))
theorem cj.sound {a0:ag} {G:ah} {Q:ag -> ah -> Prop} (h:cj.S a0 G Q):al P cj.n [a0] G Q:=by
 have e:cj.S a0 G Q = awp cx (cj.body) cj.an (bK T [.cell 2 108] Q) (dN [a0]) G:=by kernel_rfl
 refine ay dO (f:=cj.n) (fn:=Tryz.f56) (c:=cj.body) (an:=cj.an) Tryz.func56 ?_ ?_ ?_ (aF ?_ ?_) (by simp [Tryz.f56]) (e ▸ h) <;> kernel_rfl
def bJ.S (a0 a1:ag) (G:ah) (Q:ag -> ah -> Prop):Prop :=
 br G (.own (a0)) fun i1 G2=>br G2 (.own (cI)) fun i3 G4=>al P cw.n [a1] G4 fun v5 G6=>wv (vun .not v5) fun v7=>brB (some v7)
 (wv (bk T aj []) fun v8=>wg (ax T G6 aj (.ptr i3 [] 0) v8) fun G9=>wv (lq T G9 aj (.ptr i3 [] 0)) fun v10=>Q (.tuple [v10,.int .i64 90]) G9)
 (wv (lq T G6 aj (.ptr i1 [] 0)) fun v11=>al P cj.n [a1] G6 fun v12 G13=>(lq T G13 aj (.ptr i1 [] 0) = some v11 /\ True) /\ (al P dL.n [v11,v12,.int .i64 48] G13 fun v14 G15=>wg (ax T G15 aj (.ptr i3 [] 0) v14) fun G16=>wv (lq T G16 aj (.ptr i3 [] 0)) fun v17=>Q (.tuple [v17,.int .i64 0]) G16))
def bJ.an:Ann:=.two (.nil) (.two (.nil) (.two (.ord [(0,[]),(1,[]),(2,[0]),(3,[]),(4,[]),(5,[])]) (.nil)))
theorem bJ.sound {a0 a1:ag} {G:ah} {Q:ag -> ah -> Prop} (h:bJ.S a0 a1 G Q):al P bJ.n [a0,a1] G Q:=by
 have e:bJ.S a0 a1 G Q = awp cx (bJ.body) bJ.an (bK T [.cell 4 23,.tmp 5] Q) (dN [a0,a1]) G:=by kernel_rfl
 refine ay dO (f:=bJ.n) (fn:=Tryz.f21) (c:=bJ.body) (an:=bJ.an) Tryz.func21 ?_ ?_ ?_ (aF ?_ ?_) (by simp [Tryz.f21]) (e ▸ h) <;> kernel_rfl
def gj.S (a0 a1:ag) (G:ah) (Q:ag -> ah -> Prop):Prop :=
 br G (.own (a0)) fun i1 G2=>br G2 (.own (cI)) fun i3 G4=>al P gH.n [a1] G4 fun v5 G6=>wv (vun .not v5) fun v7=>brB (some v7)
 (wv (bk T aj []) fun v8=>wg (ax T G6 aj (.ptr i3 [] 0) v8) fun G9=>wv (lq T G9 aj (.ptr i3 [] 0)) fun v10=>Q (.tuple [v10,.int .i64 90]) G9)
 (wv (lq T G6 aj (.ptr i1 [] 0)) fun v11=>al P fU.n [a1] G6 fun v12 G13=>(lq T G13 aj (.ptr i1 [] 0) = some v11 /\ True) /\ (al P iG.n [v11,v12,.int .i64 48] G13 fun v14 G15=>wg (ax T G15 aj (.ptr i3 [] 0) v14) fun G16=>wv (lq T G16 aj (.ptr i3 [] 0)) fun v17=>Q (.tuple [v17,.int .i64 0]) G16))
def gj.an:Ann:=.two (.nil) (.two (.nil) (.two (.ord [(0,[]),(1,[]),(2,[0]),(3,[]),(4,[]),(5,[])]) (.nil)))
theorem gj.sound {a0 a1:ag} {G:ah} {Q:ag -> ah -> Prop} (h:gj.S a0 a1 G Q):al P gj.n [a0,a1] G Q:=by
 have e:gj.S a0 a1 G Q = awp cx (gj.body) gj.an (bK T [.cell 4 23,.tmp 5] Q) (dN [a0,a1]) G:=by kernel_rfl
 refine ay dO (f:=gj.n) (fn:=Tryz.f113) (c:=gj.body) (an:=gj.an) Tryz.func113 ?_ ?_ ?_ (aF ?_ ?_) (by simp [Tryz.f113]) (e ▸ h) <;> kernel_rfl
def gb.S (a0 a1:ag) (G:ah) (Q:ag -> ah -> Prop):Prop :=
 br G (.own (a0)) fun i1 G2=>br G2 (.own (a1)) fun i3 G4=>wv (lq T G4 me (.ptr i3 [4] 4)) fun v5=>wv (aw T .gtr me v5 (.int .i64 0)) fun v6=>brB (some v6)
 (wv (lq T G4 aj (.ptr i1 [3] 3)) fun v7=>wv (lq T G4 me (.ptr i3 [4] 4)) fun v8=>wv (aw T .sub me v8 (.int .i64 1)) fun v9=>al P gj.n [v7,v9] G4 fun v10 G11=>wv (aW v10 0) fun v12=>wv (aW v10 1) fun v13=>br G11 (.own (cI)) fun i14 G15=>wg (ax T G15 aj (.ptr i14 [] 0) v12) fun G16=>wv (lq T G16 me (.ptr i3 [4] 4)) fun v17=>wv (aw T .leq me v17 (.int .i64 281474976710655)) fun v18=>brB (some v18)
 (wv (aw T .eql bq v13 (.int .i64 0)) fun v19=>brB (some v19)
 (wv (lq T G16 aj (.ptr i14 [] 0)) fun v20=>wv (lq T G16 aj (.ptr i3 [6] 37)) fun v21=>wv (aw T .eql aj v20 v21) fun v22=>Q v22 G16)
 (Q (.bool false) G16))
 (Q (.bool false) G16))
 (wv (lq T G4 me (.ptr i3 [4] 4)) fun v25=>wv (aw T .eql me v25 (.int .i64 0)) fun v26=>brB (some v26)
 (wv (lq T G4 aj (.ptr i3 [6] 37)) fun v27=>wv (bk T aj []) fun v28=>wv (aw T .eql aj v27 v28) fun v29=>Q v29 G4)
 (Q (.bool true) G4))
def gb.an:Ann:=.nil
theorem gb.sound {a0 a1:ag} {G:ah} {Q:ag -> ah -> Prop} (h:gb.S a0 a1 G Q):al P gb.n [a0,a1] G Q:=by
 have e:gb.S a0 a1 G Q = awp cx (gb.body) gb.an (bK T [.tmp 4] Q) (dN [a0,a1]) G:=by kernel_rfl
 refine ay dO (f:=gb.n) (fn:=Tryz.f112) (c:=gb.body) (an:=gb.an) Tryz.func112 ?_ ?_ ?_ (aF ?_ ?_) (by simp [Tryz.f112]) (e ▸ h) <;> kernel_rfl
def gd.S (a0 a1 a2:ag) (G:ah) (Q:ag -> ah -> Prop):Prop :=
 br G (.own (a0)) fun i1 G2=>br G2 (.own (a1)) fun i3 G4=>br G4 (.own (a2)) fun i5 G6=>wv (lq T G6 au (.ptr i5 [0] 0)) fun v7=>wv (aw T .neq au v7 (.int .i64 6)) fun v8=>brB (some v8)
 (Q (.int .i64 160) G6)
 (wv (lq T G6 cl (.ptr i1 [] 0)) fun v9=>wv (lq T G6 aG (.ptr i5 [] 0)) fun v10=>al P gb.n [v9,v10] G6 fun v11 G12=>wv (vun .not v11) fun v13=>brB (some v13)
 (Q (.int .i64 100) G12)
 (wv (lq T G12 me (.ptr i5 [4] 4)) fun v14=>wv (lq T G12 me (.ptr i3 [6] 6)) fun v15=>wv (aw T .gtr me v14 v15) fun v16=>brB (some v16)
 (Q (.int .i64 180) G12)
 (let J42:ag -> ah -> Prop:=(fun x27 G26=>brB (some x27)
 (Q (.int .i64 90) G26)
 (wv (lq T G26 me (.ptr i5 [3] 3)) fun v28=>wv (lq T G26 me (.ptr i3 [7] 7)) fun v29=>wv (aw T .add me v29 (.int .i64 1)) fun v30=>wv (aw T .neq me v28 v30) fun v31=>brB (some v31)
 (wv (lq T G26 me (.ptr i5 [3] 3)) fun v32=>wv (lq T G26 me (.ptr i3 [7] 7)) fun v33=>wv (aw T .neq me v32 v33) fun v34=>brB (some v34)
 (Q (.int .i64 90) G26)
 (wv (lq T G26 me (.ptr i3 [7] 7)) fun v35=>wv (lq T G26 me (.ptr i3 [8] 8)) fun v36=>wv (aw T .add me v36 (.int .i64 1)) fun v37=>wv (aw T .neq me v35 v37) fun v38=>brB (some v38)
 (Q (.int .i64 90) G26)
 (Q (.int .i64 0) G26)))
 (Q (.int .i64 0) G26)));
 wv (lq T G12 me (.ptr i5 [4] 4)) fun v17=>wv (aw T .lss me v17 (.int .i64 0)) fun v18=>brB (some v18)
 (J42 (.bool true) G12)
 (wv (lq T G12 me (.ptr i5 [4] 4)) fun v19=>wv (lq T G12 me (.ptr i3 [6] 6)) fun v20=>wv (aw T .neq me v19 v20) fun v21=>brB (some v21)
 (wv (lq T G12 me (.ptr i5 [4] 4)) fun v22=>wv (lq T G12 me (.ptr i3 [6] 6)) fun v23=>wv (aw T .sub me v23 (.int .i64 1)) fun v24=>wv (aw T .neq me v22 v24) fun v25=>J42 v25 G12)
 (J42 (.bool false) G12)))))
def gd.an:Ann:=.nil
theorem gd.sound {a0 a1 a2:ag} {G:ah} {Q:ag -> ah -> Prop} (h:gd.S a0 a1 a2 G Q):al P gd.n [a0,a1,a2] G Q:=by
 have e:gd.S a0 a1 a2 G Q = awp cx (gd.body) gd.an (bK T [.tmp 6] Q) (dN [a0,a1,a2]) G:=by kernel_rfl
 refine ay dO (f:=gd.n) (fn:=Tryz.f57) (c:=gd.body) (an:=gd.an) Tryz.func57 ?_ ?_ ?_ (aF ?_ ?_) (by simp [Tryz.f57]) (e ▸ h) <;> kernel_rfl
def lR.S (a0:ag) (G:ah) (Q:ag -> ah -> Prop):Prop :=
 br G (.own (a0)) fun i1 G2=>br G2 (.own (gE)) fun i3 G4=>wv (lq T G4 au (.ptr i1 [0] 0)) fun v5=>wv (lq T G4 me (.ptr i1 [1] 1)) fun v6=>wv (lq T G4 me (.ptr i1 [2] 2)) fun v7=>wv (lq T G4 aj (.ptr i1 [3] 3)) fun v8=>wv (lq T G4 bH (.ptr i1 [4] 35)) fun v9=>wv (bk T aG [(0,v5),(1,v6),(2,v7),(5,v8),(7,v9)]) fun v10=>wg (ax T G4 aG (.ptr i3 [] 0) v10) fun G11=>wv (lq T G11 aG (.ptr i3 [] 0)) fun v12=>Q v12 G11
def lR.an:Ann:=.nil
theorem lR.sound {a0:ag} {G:ah} {Q:ag -> ah -> Prop} (h:lR.S a0 G Q):al P lR.n [a0] G Q:=by
 have e:lR.S a0 G Q = awp cx (lR.body) lR.an (bK T [.cell 2 48] Q) (dN [a0]) G:=by kernel_rfl
 refine ay dO (f:=lR.n) (fn:=Tryz.f59) (c:=lR.body) (an:=lR.an) Tryz.func59 ?_ ?_ ?_ (aF ?_ ?_) (by simp [Tryz.f59]) (e ▸ h) <;> kernel_rfl
def eE.S (a0 a1 a2 a3:ag) (G:ah) (Q:ag -> ah -> Prop):Prop :=
 wv (Co a0 (.int .i64 0)) fun v1=>∀ R2:List ag -> ah -> Prop,
 (∀ (x4 x5 x6 x7:ag) (G3:ah),(wv (bx T aJ x5 4) fun v8=>wv (lq T G3 ak v8) fun v9=>wv (gF T G3 ak v9) fun v10=>wv (uo x4 v10) fun v11=>wv (aw T .lss au x7 v11) fun v12=>brB (some v12)
 (wv (lq T G3 aR x6) fun v13=>wv (bx T aJ x5 4) fun v14=>wv (lq T G3 ak v14) fun v15=>wv (aL T ak v15 x7) fun v16=>wv (lq T G3 aI v16) fun v17=>al P lR.n [v17] G3 fun v18 G19=>(lq T G19 aR x6 = some v13 /\ True) /\ (bh T aR 1 [(0,v18)] G19 fun v20 G21=>cc T G21 aR aR v13 v20 fun v22 G23=>wg (ax T G23 aR x6 v22) fun G24=>wv (aw T .add au x7 (.int .i64 1)) fun v25=>R2 [x4,x5,x6,v25] G24))
 (Q (.tuple []) G3)) -> R2 [x4,x5,x6,x7] G3) ->
 R2 [a1,a2,a3,v1] G
def eE.an:Ann:=.two (.nil) (.loop [1,2,3,6] [false,false,false,false] (.two (.nil) (.two (.ord [(0,[]),(1,[]),(2,[]),(3,[]),(4,[]),(5,[]),(6,[0]),(7,[]),(8,[]),(9,[])]) (.nil))))
theorem eE.sound {a0 a1 a2 a3:ag} {G:ah} {Q:ag -> ah -> Prop} (h:eE.S a0 a1 a2 a3 G Q):al P eE.n [a0,a1,a2,a3] G Q:=by
 have e:eE.S a0 a1 a2 a3 G Q = awp cx (eE.body) eE.an (bK T [] Q) (dN [a0,a1,a2,a3]) G:=by kernel_rfl
 refine ay dO (f:=eE.n) (fn:=Tryz.f58) (c:=eE.body) (an:=eE.an) Tryz.func58 ?_ ?_ ?_ (aF ?_ ?_) (by simp [Tryz.f58]) (e ▸ h) <;> kernel_rfl
def gB.S (a0 a1:ag) (G:ah) (Q:ag -> ah -> Prop):Prop :=
 br G (.own (a0)) fun i1 G2=>br G2 (.own (gE)) fun i3 G4=>let J36:ag -> ah -> Prop:=(fun x8 G7=>brB (some x8)
 (wv (bk T aG []) fun v9=>wg (ax T G7 aG (.ptr i3 [] 0) v9) fun G10=>wv (lq T G10 aG (.ptr i3 [] 0)) fun v11=>Q v11 G10)
 (wv (lq T G7 aj (.ptr i1 [3] 3)) fun v12=>al P gj.n [v12,a1] G7 fun v13 G14=>wv (aW v13 0) fun v15=>wv (aW v13 1) fun v16=>br G14 (.own (cI)) fun i17 G18=>wg (ax T G18 aj (.ptr i17 [] 0) v15) fun G19=>wv (lq T G19 aj (.ptr i1 [3] 3)) fun v20=>wv (aw T .add me a1 (.int .i64 2)) fun v21=>al P gj.n [v20,v21] G19 fun v22 G23=>wv (aW v22 0) fun v24=>wv (aW v22 1) fun v25=>br G23 (.own (cI)) fun i26 G27=>wg (ax T G27 aj (.ptr i26 [] 0) v24) fun G28=>wv (lq T G28 aj (.ptr i17 [] 0)) fun v29=>wv (lq T G28 aj (.ptr i26 [] 0)) fun v30=>al P gZ.n [v30] G28 fun v31 G32=>(lq T G32 aj (.ptr i17 [] 0) = some v29 /\ True) /\ (wv (bk T aG [(0,.int .i64 5),(3,a1),(6,v29),(5,v31)]) fun v33=>wg (ax T G32 aG (.ptr i3 [] 0) v33) fun G34=>wv (lq T G34 aG (.ptr i3 [] 0)) fun v35=>Q v35 G34)));
 wv (aw T .lss me a1 (.int .i64 0)) fun v5=>brB (some v5)
 (J36 (.bool true) G4)
 (wv (aw T .gtr me a1 (.int .i64 281474976710653)) fun v6=>J36 v6 G4)
def gB.an:Ann:=.two (.nil) (.two (.nil) (.two (.nil) (.two (.nil) (.two (.ord [(0,[]),(1,[]),(2,[]),(3,[1]),(4,[]),(5,[])]) (.nil)))))
theorem gB.sound {a0 a1:ag} {G:ah} {Q:ag -> ah -> Prop} (h:gB.S a0 a1 G Q):al P gB.n [a0,a1] G Q:=by
 have e:gB.S a0 a1 G Q = awp cx (gB.body) gB.an (bK T [.cell 4 48] Q) (dN [a0,a1]) G:=by kernel_rfl
 refine ay dO (f:=gB.n) (fn:=Tryz.f61) (c:=gB.body) (an:=gB.an) Tryz.func61 ?_ ?_ ?_ (aF ?_ ?_) (by simp [Tryz.f61]) (e ▸ h) <;> kernel_rfl
def eC.S (a0 a1 a2 a3 a4:ag) (G:ah) (Q:ag -> ah -> Prop):Prop :=
 let J24:ag -> ah -> Prop:=(fun x11 G10=>brB (some x11)
 (wv (lq T G10 aR a3) fun v12=>wv (lq T G10 cl a4) fun v13=>wv (bx T aG a1 4) fun v14=>wv (lq T G10 me v14) fun v15=>al P gB.n [v13,v15] G10 fun v16 G17=>(lq T G17 aR a3 = some v12 /\ True) /\ (bh T aR 1 [(0,v16)] G17 fun v18 G19=>cc T G19 aR aR v12 v18 fun v20 G21=>wg (ax T G21 aR a3 v20) fun G22=>Q (.tuple []) G22))
 (Q (.tuple []) G10));
 wv (bx T aG a1 4) fun v1=>wv (lq T G me v1) fun v2=>wv (bx T aJ a2 6) fun v3=>wv (lq T G me v3) fun v4=>wv (aw T .sub me v4 (.int .i64 1)) fun v5=>wv (aw T .eql me v2 v5) fun v6=>brB (some v6)
 (wv (bx T aJ a2 12) fun v7=>wv (lq T G ey v7) fun v8=>wv (aw T .eql ey v8 a0) fun v9=>J24 v9 G)
 (J24 (.bool false) G)
def eC.an:Ann:=.two (.nil) (.two (.ord [(0,[]),(1,[]),(2,[]),(3,[]),(4,[0]),(5,[]),(6,[]),(7,[])]) (.nil))
theorem eC.sound {a0 a1 a2 a3 a4:ag} {G:ah} {Q:ag -> ah -> Prop} (h:eC.S a0 a1 a2 a3 a4 G Q):al P eC.n [a0,a1,a2,a3,a4] G Q:=by
 have e:eC.S a0 a1 a2 a3 a4 G Q = awp cx (eC.body) eC.an (bK T [] Q) (dN [a0,a1,a2,a3,a4]) G:=by kernel_rfl
 refine ay dO (f:=eC.n) (fn:=Tryz.f60) (c:=eC.body) (an:=eC.an) Tryz.func60 ?_ ?_ ?_ (aF ?_ ?_) (by simp [Tryz.f60]) (e ▸ h) <;> kernel_rfl
def fI.S (a0:ag) (G:ah) (Q:ag -> ah -> Prop):Prop :=
 wv (aw T .geq me a0 (.int .i64 0)) fun v1=>brB (some v1)
 (wv (aw T .leq me a0 (.int .i64 1152921504606846976)) fun v2=>Q v2 G)
 (Q (.bool false) G)
def fI.an:Ann:=.nil
theorem fI.sound {a0:ag} {G:ah} {Q:ag -> ah -> Prop} (h:fI.S a0 G Q):al P fI.n [a0] G Q:=by
 have e:fI.S a0 G Q = awp cx (fI.body) fI.an (bK T [.tmp 2] Q) (dN [a0]) G:=by kernel_rfl
 refine ay dO (f:=fI.n) (fn:=Tryz.f86) (c:=fI.body) (an:=fI.an) Tryz.func86 ?_ ?_ ?_ (aF ?_ ?_) (by simp [Tryz.f86]) (e ▸ h) <;> kernel_rfl
def gW.S (a0 a1:ag) (G:ah) (Q:ag -> ah -> Prop):Prop :=
 al P fI.n [a0] G fun v1 G2=>wv (vun .not v1) fun v3=>brB (some v3)
 (Q (.tuple [.int .i64 0,.int .i64 80]) G2)
 (al P fI.n [a1] G2 fun v4 G5=>wv (vun .not v4) fun v6=>brB (some v6)
 (Q (.tuple [.int .i64 0,.int .i64 80]) G5)
 (wv (aw T .add me a0 a1) fun v7=>al P fI.n [v7] G5 fun v8 G9=>wv (vun .not v8) fun v10=>brB (some v10)
 (Q (.tuple [.int .i64 0,.int .i64 80]) G9)
 (wv (aw T .add me a0 a1) fun v14=>Q (.tuple [v14,.int .i64 0]) G9)))
def gW.an:Ann:=.nil
theorem gW.sound {a0 a1:ag} {G:ah} {Q:ag -> ah -> Prop} (h:gW.S a0 a1 G Q):al P gW.n [a0,a1] G Q:=by
 have e:gW.S a0 a1 G Q = awp cx (gW.body) gW.an (bK T [.tmp 4,.tmp 5] Q) (dN [a0,a1]) G:=by kernel_rfl
 refine ay dO (f:=gW.n) (fn:=Tryz.f185) (c:=gW.body) (an:=gW.an) Tryz.func185 ?_ ?_ ?_ (aF ?_ ?_) (by simp [Tryz.f185]) (e ▸ h) <;> kernel_rfl
def iz.S (a0:ag) (G:ah) (Q:ag -> ah -> Prop):Prop :=
 wv (gF T G nW a0) fun v1=>∀ R2:List ag -> ah -> Prop,
 (∀ (x4 x5 x6 x7:ag) (G3:ah),(wv (aw T .lss au x7 x6) fun v8=>brB (some v8)
 (wv (aL T nW x5 x7) fun v9=>wv (lq T G3 me v9) fun v10=>al P gW.n [x4,v10] G3 fun v11 G12=>wv (aW v11 0) fun v13=>wv (aW v11 1) fun v14=>wv (aw T .neq bq v14 (.int .i64 0)) fun v15=>brB (some v15)
 (Q (.tuple [.int .i64 0,v14]) G12)
 (wv (aw T .add au x7 (.int .i64 1)) fun v16=>R2 [v13,x5,x6,v16] G12))
 (Q (.tuple [x4,.int .i64 0]) G3)) -> R2 [x4,x5,x6,x7] G3) ->
 R2 [.int .i64 0,a0,v1,.int .i64 0] G
def iz.an:Ann:=.two (.nil) (.two (.nil) (.two (.two (.nil) (.loop [4,8,9,10] [false,false,false,false] (.nil))) (.nil)))
theorem iz.sound {a0:ag} {G:ah} {Q:ag -> ah -> Prop} (h:iz.S a0 G Q):al P iz.n [a0] G Q:=by
 have e:iz.S a0 G Q = awp cx (iz.body) iz.an (bK T [.tmp 2,.tmp 3] Q) (dN [a0]) G:=by kernel_rfl
 refine ay dO (f:=iz.n) (fn:=Tryz.f130) (c:=iz.body) (an:=iz.an) Tryz.func130 ?_ ?_ ?_ (aF ?_ ?_) (by simp [Tryz.f130]) (e ▸ h) <;> kernel_rfl
def aZ.S (a0 a1:ag) (G:ah) (Q:ag -> ah -> Prop):Prop :=
 wv (gF T G ak a0) fun v1=>∀ R2:List ag -> ah -> Prop,
 (∀ (x4 x5 x6 x7:ag) (G3:ah),(wv (aw T .lss au x7 x6) fun v8=>brB (some v8)
 (wv (aL T ak x4 x7) fun v9=>wv (lq T G3 aI v9) fun v10=>oL P x5 [v10] G3 fun v11 G12=>brB (some v11)
 (Q x7 G12)
 (wv (aw T .add au x7 (.int .i64 1)) fun v13=>R2 [x4,x5,x6,v13] G12))
 (Q (.int .i64 (-1)) G3)) -> R2 [x4,x5,x6,x7] G3) ->
 R2 [a0,a1,v1,.int .i64 0] G
def aZ.an:Ann:=.two (.nil) (.two (.two (.nil) (.loop [0,1,7,8] [false,false,false,false] (.nil))) (.nil))
theorem aZ.sound {a0 a1:ag} {G:ah} {Q:ag -> ah -> Prop} (h:aZ.S a0 a1 G Q):al P aZ.n [a0,a1] G Q:=by
 have e:aZ.S a0 a1 G Q = awp cx (aZ.body) aZ.an (bK T [.tmp 4] Q) (dN [a0,a1]) G:=by kernel_rfl
 refine ay dO (f:=aZ.n) (fn:=Tryz.f186) (c:=aZ.body) (an:=aZ.an) Tryz.func186 ?_ ?_ ?_ (aF ?_ ?_) (by simp [Tryz.f186]) (e ▸ h) <;> kernel_rfl
def aO.S (a0 a1:ag) (G:ah) (Q:ag -> ah -> Prop):Prop :=
 al P aZ.n [a0,a1] G fun v1 G2=>wv (aw T .geq au v1 (.int .i64 0)) fun v3=>Q v3 G2
def aO.an:Ann:=.nil
theorem aO.sound {a0 a1:ag} {G:ah} {Q:ag -> ah -> Prop} (h:aO.S a0 a1 G Q):al P aO.n [a0,a1] G Q:=by
 have e:aO.S a0 a1 G Q = awp cx (aO.body) aO.an (bK T [.tmp 4] Q) (dN [a0,a1]) G:=by kernel_rfl
 refine ay dO (f:=aO.n) (fn:=Tryz.f131) (c:=aO.body) (an:=aO.an) Tryz.func131 ?_ ?_ ?_ (aF ?_ ?_) (by simp [Tryz.f131]) (e ▸ h) <;> kernel_rfl
def fX.S (a0:ag) (G:ah) (Q:ag -> ah -> Prop):Prop :=
 br G (.own (a0)) fun i1 G2=>let J37:ag -> ah -> Prop:=(fun x8 G7=>brB (some x8)
 (Q (.bool false) G7)
 (wv (lq T G7 au (.ptr i1 [0] 0)) fun v9=>wv (aw T .eql au v9 (.int .i64 1)) fun v10=>brB (some v10)
 (wv (lq T G7 me (.ptr i1 [2] 2)) fun v11=>wv (aw T .geq me v11 (.int .i64 1)) fun v12=>brB (some v12)
 (wv (lq T G7 me (.ptr i1 [2] 2)) fun v13=>wv (aw T .leq me v13 (.int .i64 1152921504606846976)) fun v14=>brB (some v14)
 (wv (lq T G7 bH (.ptr i1 [4] 35)) fun v15=>wv (aw T .eql bH v15 (.str [])) fun v16=>Q v16 G7)
 (Q (.bool false) G7))
 (Q (.bool false) G7))
 (wv (aw T .eql au v9 (.int .i64 2)) fun v19=>brB (some v19)
 (wv (lq T G7 me (.ptr i1 [2] 2)) fun v20=>wv (aw T .eql me v20 (.int .i64 0)) fun v21=>brB (some v21)
 (wv (lq T G7 bH (.ptr i1 [4] 35)) fun v22=>wv (aw T .eql bH v22 (.str [])) fun v23=>Q v23 G7)
 (Q (.bool false) G7))
 (wv (aw T .eql au v9 (.int .i64 3)) fun v26=>brB (some v26)
 (wv (lq T G7 me (.ptr i1 [2] 2)) fun v27=>wv (aw T .eql me v27 (.int .i64 0)) fun v28=>brB (some v28)
 (wv (lq T G7 aj (.ptr i1 [3] 3)) fun v29=>wv (bk T aj []) fun v30=>wv (aw T .eql aj v29 v30) fun v31=>brB (some v31)
 (wv (lq T G7 bH (.ptr i1 [4] 35)) fun v32=>wv (gF T G7 bH v32) fun v33=>wv (aw T .leq au v33 (.int .i64 64)) fun v34=>Q v34 G7)
 (Q (.bool false) G7))
 (Q (.bool false) G7))
 (Q (.bool false) G7)))));
 wv (lq T G2 me (.ptr i1 [1] 1)) fun v3=>wv (aw T .lss me v3 (.int .i64 0)) fun v4=>brB (some v4)
 (J37 (.bool true) G2)
 (wv (lq T G2 me (.ptr i1 [1] 1)) fun v5=>wv (aw T .geq me v5 (.int .i64 2048)) fun v6=>J37 v6 G2)
def fX.an:Ann:=.nil
theorem fX.sound {a0:ag} {G:ah} {Q:ag -> ah -> Prop} (h:fX.S a0 G Q):al P fX.n [a0] G Q:=by
 have e:fX.S a0 G Q = awp cx (fX.body) fX.an (bK T [.tmp 2] Q) (dN [a0]) G:=by kernel_rfl
 refine ay dO (f:=fX.n) (fn:=Tryz.f181) (c:=fX.body) (an:=fX.an) Tryz.func181 ?_ ?_ ?_ (aF ?_ ?_) (by simp [Tryz.f181]) (e ▸ h) <;> kernel_rfl
def fq.S (a0:ag) (G:ah) (Q:ag -> ah -> Prop):Prop :=
 br G (.own (a0)) fun i1 G2=>wv (lq T G2 aI (.ptr i1 [] 0)) fun v3=>al P fX.n [v3] G2 fun v4 G5=>wv (vun .not v4) fun v6=>Q v6 G5
def fq.an:Ann:=.nil
theorem fq.sound {a0:ag} {G:ah} {Q:ag -> ah -> Prop} (h:fq.S a0 G Q):al P fq.n [a0] G Q:=by
 have e:fq.S a0 G Q = awp cx (fq.body) fq.an (bK T [.tmp 2] Q) (dN [a0]) G:=by kernel_rfl
 refine ay dO (f:=fq.n) (fn:=Tryz.f132) (c:=fq.body) (an:=fq.an) Tryz.func132 ?_ ?_ ?_ (aF ?_ ?_) (by simp [Tryz.f132]) (e ▸ h) <;> kernel_rfl
def cR.S (a0 a1:ag) (G:ah) (Q:ag -> ah -> Prop):Prop :=
 br G (.own (a0)) fun i1 G2=>br G2 (.own (ka)) fun i3 G4=>wv (lq T G4 me (.ptr i1 [0] 0)) fun v5=>wv (aw T .shr me a1 (.int .u64 30)) fun v6=>wv (aw T .add me v5 v6) fun v7=>wv (lq T G4 me (.ptr i1 [1] 1)) fun v8=>wv (aw T .and me a1 (.int .i64 1073741823)) fun v9=>wv (aw T .add me v8 v9) fun v10=>wv (bk T ck [(0,v7),(1,v10)]) fun v11=>wg (ax T G4 ck (.ptr i3 [] 0) v11) fun G12=>wv (lq T G12 ck (.ptr i3 [] 0)) fun v13=>Q v13 G12
def cR.an:Ann:=.nil
theorem cR.sound {a0 a1:ag} {G:ah} {Q:ag -> ah -> Prop} (h:cR.S a0 a1 G Q):al P cR.n [a0,a1] G Q:=by
 have e:cR.S a0 a1 G Q = awp cx (cR.body) cR.an (bK T [.cell 4 178] Q) (dN [a0,a1]) G:=by kernel_rfl
 refine ay dO (f:=cR.n) (fn:=Tryz.f135) (c:=cR.body) (an:=cR.an) Tryz.func135 ?_ ?_ ?_ (aF ?_ ?_) (by simp [Tryz.f135]) (e ▸ h) <;> kernel_rfl
def dR.S (a0 a1:ag) (G:ah) (Q:ag -> ah -> Prop):Prop :=
 br G (.own (a0)) fun i1 G2=>br G2 (.own (ka)) fun i3 G4=>wv (lq T G4 me (.ptr i1 [0] 0)) fun v5=>wv (aw T .shr me a1 (.int .u64 30)) fun v6=>wv (aw T .sub me v5 v6) fun v7=>wv (lq T G4 me (.ptr i1 [1] 1)) fun v8=>wv (aw T .and me a1 (.int .i64 1073741823)) fun v9=>wv (aw T .sub me v8 v9) fun v10=>wv (bk T ck [(0,v7),(1,v10)]) fun v11=>wg (ax T G4 ck (.ptr i3 [] 0) v11) fun G12=>wv (lq T G12 ck (.ptr i3 [] 0)) fun v13=>Q v13 G12
def dR.an:Ann:=.nil
theorem dR.sound {a0 a1:ag} {G:ah} {Q:ag -> ah -> Prop} (h:dR.S a0 a1 G Q):al P dR.n [a0,a1] G Q:=by
 have e:dR.S a0 a1 G Q = awp cx (dR.body) dR.an (bK T [.cell 4 178] Q) (dN [a0,a1]) G:=by kernel_rfl
 refine ay dO (f:=dR.n) (fn:=Tryz.f179) (c:=dR.body) (an:=dR.an) Tryz.func179 ?_ ?_ ?_ (aF ?_ ?_) (by simp [Tryz.f179]) (e ▸ h) <;> kernel_rfl
def aV.S (a0 a1 a2 a3:ag) (G:ah) (Q:ag -> ah -> Prop):Prop :=
 wv (aw T .add au a1 (.int .i64 1)) fun v1=>∀ R2:List ag -> ah -> Prop,
 (∀ (x4 x5 x6 x7 x8:ag) (G3:ah),(wv (aw T .lss au x8 x6) fun v9=>brB (some v9)
 (∀ R10:List ag -> ah -> Prop,
 (∀ (x12 x13 x14 x15 x16 x17:ag) (G11:ah),(let J40:ag -> ah -> Prop:=(fun x28 G27=>brB (some x28)
 (wv (aw T .sub au x17 (.int .i64 1)) fun v29=>wv (aw T .sub au x17 (.int .i64 1)) fun v30=>wv (aL T aq x12 v30) fun v31=>wv (lq T G27 aU v31) fun v32=>wv (aL T aq x12 x17) fun v33=>wv (lq T G27 aU v33) fun v34=>wv (aL T aq x12 x17) fun v35=>wg (ax T G27 aU v35 v32) fun G36=>wv (aL T aq x12 v29) fun v37=>wg (ax T G36 aU v37 v34) fun G38=>wv (aw T .sub au x17 (.int .i64 1)) fun v39=>R10 [x12,x13,x14,x15,x16,v39] G38)
 (wv (aw T .add au x16 (.int .i64 1)) fun v41=>R2 [x12,x13,x14,x15,v41] G27));
 wv (aw T .gtr au x17 x13) fun v18=>brB (some v18)
 (wv (aL T aq x12 x17) fun v19=>wv (lq T G11 aU v19) fun v20=>wv (aw T .sub au x17 (.int .i64 1)) fun v21=>wv (aL T aq x12 v21) fun v22=>wv (lq T G11 aU v22) fun v23=>oL P x15 [v20,v23] G11 fun v24 G25=>wv (aw T .lss au v24 (.int .i64 0)) fun v26=>J40 v26 G25)
 (J40 (.bool false) G11)) -> R10 [x12,x13,x14,x15,x16,x17] G11) ->
 R10 [x4,x5,x6,x7,x8,x8] G3)
 (Q (.tuple []) G3)) -> R2 [x4,x5,x6,x7,x8] G3) ->
 R2 [a0,a1,a2,a3,v1] G
def aV.an:Ann:=.two (.nil) (.loop [0,1,2,3,8] [false,false,false,false,false] (.two (.nil) (.two (.two (.nil) (.loop [0,1,2,3,8,9] [false,false,false,false,false,false] (.two (.two (.ord [(0,[]),(1,[]),(2,[]),(3,[]),(4,[]),(5,[]),(6,[]),(7,[]),(8,[]),(9,[]),(10,[]),(11,[]),(12,[]),(13,[]),(14,[]),(15,[]),(16,[])]) (.nil)) (.two (.ord [(0,[]),(1,[]),(2,[]),(3,[]),(4,[]),(5,[]),(6,[]),(7,[]),(8,[]),(9,[]),(10,[]),(11,[]),(12,[]),(13,[]),(14,[]),(15,[]),(16,[]),(17,[])]) (.nil))))) (.nil))))
theorem aV.sound {a0 a1 a2 a3:ag} {G:ah} {Q:ag -> ah -> Prop} (h:aV.S a0 a1 a2 a3 G Q):al P aV.n [a0,a1,a2,a3] G Q:=by
 have e:aV.S a0 a1 a2 a3 G Q = awp cx (aV.body) aV.an (bK T [] Q) (dN [a0,a1,a2,a3]) G:=by kernel_rfl
 refine ay dO (f:=aV.n) (fn:=Tryz.f222) (c:=aV.body) (an:=aV.an) Tryz.func222 ?_ ?_ ?_ (aF ?_ ?_) (by simp [Tryz.f222]) (e ▸ h) <;> kernel_rfl
def bd.S (a0 a1 a2 a3 a4:ag) (G:ah) (Q:ag -> ah -> Prop):Prop :=
 ∀ R1:List ag -> ah -> Prop,
 (∀ (x3 x4 x5 x6 x7:ag) (G2:ah),(wv (aw T .lss au x7 x6) fun v8=>brB (some v8)
 (wv (aw T .add au x4 x7) fun v9=>wv (aw T .add au x5 x7) fun v10=>wv (aw T .add au x5 x7) fun v11=>wv (aL T aq x3 v11) fun v12=>wv (lq T G2 aU v12) fun v13=>wv (aw T .add au x4 x7) fun v14=>wv (aL T aq x3 v14) fun v15=>wv (lq T G2 aU v15) fun v16=>wv (aL T aq x3 v9) fun v17=>wg (ax T G2 aU v17 v13) fun G18=>wv (aL T aq x3 v10) fun v19=>wg (ax T G18 aU v19 v16) fun G20=>wv (aw T .add au x7 (.int .i64 1)) fun v21=>R1 [x3,x4,x5,x6,v21] G20)
 (Q (.tuple []) G2)) -> R1 [x3,x4,x5,x6,x7] G2) ->
 R1 [a0,a1,a2,a3,.int .i64 0] G
def bd.an:Ann:=.two (.nil) (.loop [0,1,2,3,10] [false,false,false,false,false] (.two (.nil) (.two (.ord [(0,[]),(1,[]),(2,[]),(3,[]),(4,[]),(5,[]),(6,[]),(7,[]),(8,[]),(9,[]),(10,[]),(11,[]),(12,[]),(13,[]),(14,[]),(15,[]),(16,[]),(17,[]),(18,[]),(19,[]),(20,[]),(21,[]),(22,[]),(23,[])]) (.nil))))
theorem bd.sound {a0 a1 a2 a3 a4:ag} {G:ah} {Q:ag -> ah -> Prop} (h:bd.S a0 a1 a2 a3 a4 G Q):al P bd.n [a0,a1,a2,a3,a4] G Q:=by
 have e:bd.S a0 a1 a2 a3 a4 G Q = awp cx (bd.body) bd.an (bK T [] Q) (dN [a0,a1,a2,a3,a4]) G:=by kernel_rfl
 refine ay dO (f:=bd.n) (fn:=Tryz.f225) (c:=bd.body) (an:=bd.an) Tryz.func225 ?_ ?_ ?_ (aF ?_ ?_) (by simp [Tryz.f225]) (e ▸ h) <;> kernel_rfl
def bn.S (a0 a1 a2 a3 a4:ag) (G:ah) (Q:ag -> ah -> Prop):Prop :=
 wv (aw T .sub au a2 a1) fun v1=>wv (aw T .sub au a3 a2) fun v2=>∀ R3:List ag -> ah -> Prop,
 (∀ (x5 x6 x7 x8 x9:ag) (G4:ah),(wv (aw T .neq au x8 x9) fun v10=>brB (some v10)
 (wv (aw T .gtr au x8 x9) fun v11=>brB (some v11)
 (wv (aw T .sub au x6 x8) fun v12=>al P bd.n [x5,v12,x6,x9,x7] G4 fun v13 G14=>wv (aw T .sub au x8 x9) fun v15=>R3 [x5,x6,x7,v15,x9] G14)
 (wv (aw T .sub au x6 x8) fun v16=>wv (aw T .add au x6 x9) fun v17=>wv (aw T .sub au v17 x8) fun v18=>al P bd.n [x5,v16,v18,x8,x7] G4 fun v19 G20=>wv (aw T .sub au x9 x8) fun v21=>R3 [x5,x6,x7,x8,v21] G20))
 (wv (aw T .sub au x6 x8) fun v28=>al P bd.n [x5,v28,x6,x8,x7] G4 fun v29 G30=>Q (.tuple []) G30)) -> R3 [x5,x6,x7,x8,x9] G4) ->
 R3 [a0,a2,a4,v1,v2] G
def bn.an:Ann:=.two (.nil) (.two (.nil) (.two (.loop [0,2,4,10,11] [false,false,false,false,false] (.nil)) (.nil)))
theorem bn.sound {a0 a1 a2 a3 a4:ag} {G:ah} {Q:ag -> ah -> Prop} (h:bn.S a0 a1 a2 a3 a4 G Q):al P bn.n [a0,a1,a2,a3,a4] G Q:=by
 have e:bn.S a0 a1 a2 a3 a4 G Q = awp cx (bn.body) bn.an (bK T [] Q) (dN [a0,a1,a2,a3,a4]) G:=by kernel_rfl
 refine ay dO (f:=bn.n) (fn:=Tryz.f224) (c:=bn.body) (an:=bn.an) Tryz.func224 ?_ ?_ ?_ (aF ?_ ?_) (by simp [Tryz.f224]) (e ▸ h) <;> kernel_rfl
def aT.S (a0 a1 a2 a3 a4:ag) (G:ah) (Q:ag -> ah -> Prop):Prop :=
 wv (aw T .sub au a2 a1) fun v1=>wv (aw T .eql au v1 (.int .i64 1)) fun v2=>brB (some v2)
 (∀ R3:List ag -> ah -> Prop,
 (∀ (x5 x6 x7 x8 x9:ag) (G4:ah),(wv (aw T .lss au x8 x9) fun v10=>brB (some v10)
 (wv (aw T .add au x8 x9) fun v11=>wv (gi T G4 au kQ v11) fun v12=>wv (aw T .shr kQ v12 (.int .u64 1)) fun v13=>wv (gi T G4 kQ au v13) fun v14=>wv (aL T aq x5 v14) fun v15=>wv (lq T G4 aU v15) fun v16=>wv (aL T aq x5 x6) fun v17=>wv (lq T G4 aU v17) fun v18=>oL P x7 [v16,v18] G4 fun v19 G20=>wv (aw T .lss au v19 (.int .i64 0)) fun v21=>brB (some v21)
 (wv (aw T .add au v14 (.int .i64 1)) fun v22=>R3 [x5,x6,x7,v22,x9] G20)
 (R3 [x5,x6,x7,x8,v14] G20))
 (∀ R29:List ag -> ah -> Prop,
 (∀ (x31 x32 x33:ag) (G30:ah),(wv (aw T .sub au x32 (.int .i64 1)) fun v34=>wv (aw T .lss au x33 v34) fun v35=>brB (some v35)
 (wv (aw T .add au x33 (.int .i64 1)) fun v36=>wv (aw T .add au x33 (.int .i64 1)) fun v37=>wv (aL T aq x31 v37) fun v38=>wv (lq T G30 aU v38) fun v39=>wv (aL T aq x31 x33) fun v40=>wv (lq T G30 aU v40) fun v41=>wv (aL T aq x31 x33) fun v42=>wg (ax T G30 aU v42 v39) fun G43=>wv (aL T aq x31 v36) fun v44=>wg (ax T G43 aU v44 v41) fun G45=>wv (aw T .add au x33 (.int .i64 1)) fun v46=>R29 [x31,x32,v46] G45)
 (Q (.tuple []) G30)) -> R29 [x31,x32,x33] G30) ->
 R29 [x5,x8,x6] G4)) -> R3 [x5,x6,x7,x8,x9] G4) ->
 R3 [a0,a1,a4,a2,a3] G)
 (wv (aw T .sub au a3 a2) fun v47=>wv (aw T .eql au v47 (.int .i64 1)) fun v48=>brB (some v48)
 (∀ R49:List ag -> ah -> Prop,
 (∀ (x51 x52 x53 x54 x55:ag) (G50:ah),(wv (aw T .lss au x54 x55) fun v56=>brB (some v56)
 (wv (aw T .add au x54 x55) fun v57=>wv (gi T G50 au kQ v57) fun v58=>wv (aw T .shr kQ v58 (.int .u64 1)) fun v59=>wv (gi T G50 kQ au v59) fun v60=>wv (aL T aq x51 x52) fun v61=>wv (lq T G50 aU v61) fun v62=>wv (aL T aq x51 v60) fun v63=>wv (lq T G50 aU v63) fun v64=>oL P x53 [v62,v64] G50 fun v65 G66=>wv (aw T .lss au v65 (.int .i64 0)) fun v67=>wv (vun .not v67) fun v68=>brB (some v68)
 (wv (aw T .add au v60 (.int .i64 1)) fun v69=>R49 [x51,x52,x53,v69,x55] G66)
 (R49 [x51,x52,x53,x54,v60] G66))
 (∀ R76:List ag -> ah -> Prop,
 (∀ (x78 x79 x80:ag) (G77:ah),(wv (aw T .gtr au x80 x79) fun v81=>brB (some v81)
 (wv (aw T .sub au x80 (.int .i64 1)) fun v82=>wv (aw T .sub au x80 (.int .i64 1)) fun v83=>wv (aL T aq x78 v83) fun v84=>wv (lq T G77 aU v84) fun v85=>wv (aL T aq x78 x80) fun v86=>wv (lq T G77 aU v86) fun v87=>wv (aL T aq x78 x80) fun v88=>wg (ax T G77 aU v88 v85) fun G89=>wv (aL T aq x78 v82) fun v90=>wg (ax T G89 aU v90 v87) fun G91=>wv (aw T .sub au x80 (.int .i64 1)) fun v92=>R76 [x78,x79,v92] G91)
 (Q (.tuple []) G77)) -> R76 [x78,x79,x80] G77) ->
 R76 [x51,x54,x52] G50)) -> R49 [x51,x52,x53,x54,x55] G50) ->
 R49 [a0,a2,a4,a1,a2] G)
 (wv (aw T .add au a1 a3) fun v93=>wv (gi T G au kQ v93) fun v94=>wv (aw T .shr kQ v94 (.int .u64 1)) fun v95=>wv (gi T G kQ au v95) fun v96=>wv (aw T .add au v96 a2) fun v97=>wv (aw T .gtr au a2 v96) fun v98=>let J185:ag -> ag -> ah -> Prop:=(fun x101 x102 G100=>wv (aw T .sub au v97 (.int .i64 1)) fun v103=>∀ R104:List ag -> ah -> Prop,
 (∀ (x106 x107 x108 x109 x110 x111 x112 x113 x114 x115:ag) (G105:ah),(wv (aw T .lss au x113 x114) fun v116=>brB (some v116)
 (wv (aw T .add au x113 x114) fun v117=>wv (gi T G105 au kQ v117) fun v118=>wv (aw T .shr kQ v118 (.int .u64 1)) fun v119=>wv (gi T G105 kQ au v119) fun v120=>wv (aw T .sub au x115 v120) fun v121=>wv (aL T aq x106 v121) fun v122=>wv (lq T G105 aU v122) fun v123=>wv (aL T aq x106 v120) fun v124=>wv (lq T G105 aU v124) fun v125=>oL P x110 [v123,v125] G105 fun v126 G127=>wv (aw T .lss au v126 (.int .i64 0)) fun v128=>wv (vun .not v128) fun v129=>brB (some v129)
 (wv (aw T .add au v120 (.int .i64 1)) fun v130=>R104 [x106,x107,x108,x109,x110,x111,x112,v130,x114,x115] G127)
 (R104 [x106,x107,x108,x109,x110,x111,x112,x113,v120,x115] G127))
 (wv (aw T .sub au x112 x113) fun v137=>let J184:ag -> ah -> Prop:=(fun x141 G140=>let J183:ah -> Prop:=(fun G144=>let J182:ag -> ah -> Prop:=(fun x148 G147=>brB (some x148)
 (al P aT.n [x106,x107,x113,x111,x110] G147 fun v149 G150=>wv (aw T .lss au x111 v137) fun v162=>brB (some v162)
 (wv (aw T .lss au v137 x109) fun v163=>brB (some v163)
 (al P aT.n [x106,x111,v137,x109,x110] G150 fun v169 G170=>Q (.tuple []) G170)
 (Q (.tuple []) G150))
 (Q (.tuple []) G150))
 (wv (aw T .lss au x111 v137) fun v172=>brB (some v172)
 (wv (aw T .lss au v137 x109) fun v173=>brB (some v173)
 (al P aT.n [x106,x111,v137,x109,x110] G147 fun v179 G180=>Q (.tuple []) G180)
 (Q (.tuple []) G147))
 (Q (.tuple []) G147)));
 wv (aw T .lss au x107 x113) fun v145=>brB (some v145)
 (wv (aw T .lss au x113 x111) fun v146=>J182 v146 G144)
 (J182 (.bool false) G144));
 brB (some x141)
 (al P bn.n [x106,x113,x108,v137,x110] G140 fun v142 G143=>J183 G143)
 (J183 G140));
 wv (aw T .lss au x113 x108) fun v138=>brB (some v138)
 (wv (aw T .lss au x108 v137) fun v139=>J184 v139 G105)
 (J184 (.bool false) G105))) -> R104 [x106,x107,x108,x109,x110,x111,x112,x113,x114,x115] G105) ->
 R104 [a0,a1,a2,a3,a4,v96,v97,x101,x102,v103] G100);
 brB (some v98)
 (wv (aw T .sub au v97 a3) fun v99=>J185 v99 v96 G)
 (J185 a1 a2 G)))
def aT.an:Ann:=.two (.two (.nil) (.two (.two (.nil) (.two (.nil) (.two (.loop [0,1,4,10,11] [false,false,false,false,false] (.two (.nil) (.two (.nil) (.two (.ord [(0,[]),(1,[]),(2,[]),(3,[]),(4,[]),(5,[]),(6,[]),(7,[]),(8,[]),(9,[]),(10,[])]) (.nil))))) (.two (.two (.nil) (.loop [0,10,13] [false,false,false] (.two (.nil) (.two (.ord [(0,[]),(1,[]),(2,[]),(3,[]),(4,[]),(5,[]),(6,[]),(7,[]),(8,[]),(9,[]),(10,[]),(11,[]),(12,[]),(13,[]),(14,[]),(15,[]),(16,[]),(17,[])]) (.nil))))) (.nil))))) (.nil))) (.two (.two (.nil) (.two (.two (.nil) (.two (.nil) (.two (.loop [0,2,4,14,15] [false,false,false,false,false] (.two (.nil) (.two (.nil) (.two (.ord [(0,[]),(1,[]),(2,[]),(3,[]),(4,[]),(5,[]),(6,[]),(7,[]),(8,[]),(9,[]),(10,[]),(11,[])]) (.nil))))) (.two (.two (.nil) (.loop [0,14,17] [false,false,false] (.two (.nil) (.two (.ord [(0,[]),(1,[]),(2,[]),(3,[]),(4,[]),(5,[]),(6,[]),(7,[]),(8,[]),(9,[]),(10,[]),(11,[]),(12,[]),(13,[]),(14,[]),(15,[]),(16,[]),(17,[])]) (.nil))))) (.nil))))) (.nil))) (.two (.nil) (.two (.nil) (.two (.nil) (.two (.nil) (.two (.nil) (.two (.loop [0,1,2,3,4,18,19,20,21,22] [false,false,false,false,false,false,false,false,false,false] (.two (.nil) (.two (.nil) (.two (.ord [(0,[]),(1,[]),(2,[]),(3,[]),(4,[]),(5,[]),(6,[]),(7,[]),(8,[]),(9,[]),(10,[]),(11,[]),(12,[]),(13,[])]) (.nil))))) (.nil))))))))
theorem aT.sound {a0 a1 a2 a3 a4:ag} {G:ah} {Q:ag -> ah -> Prop} (h:aT.S a0 a1 a2 a3 a4 G Q):al P aT.n [a0,a1,a2,a3,a4] G Q:=by
 have e:aT.S a0 a1 a2 a3 a4 G Q = awp cx (aT.body) aT.an (bK T [] Q) (dN [a0,a1,a2,a3,a4]) G:=by kernel_rfl
 refine ay dO (f:=aT.n) (fn:=Tryz.f223) (c:=aT.body) (an:=aT.an) Tryz.func223 ?_ ?_ ?_ (aF ?_ ?_) (by simp [Tryz.f223]) (e ▸ h) <;> kernel_rfl
def bm.S (a0 a1 a2:ag) (G:ah) (Q:ag -> ah -> Prop):Prop :=
 ∀ R1:List ag -> ah -> Prop,
 (∀ (x3 x4 x5 x6 x7 x8:ag) (G2:ah),(wv (aw T .leq au x8 x4) fun v9=>brB (some v9)
 (al P aV.n [x3,x7,x8,x5] G2 fun v10 G11=>wv (aw T .add au x8 x6) fun v12=>R1 [x3,x4,x5,x6,x8,v12] G11)
 (al P aV.n [x3,x7,x4,x5] G2 fun v13 G14=>∀ R15:List ag -> ah -> Prop,
 (∀ (x17 x18 x19 x20:ag) (G16:ah),(wv (aw T .lss au x20 x18) fun v21=>brB (some v21)
 (wv (aw T .mul au (.int .i64 2) x20) fun v22=>∀ R23:List ag -> ah -> Prop,
 (∀ (x25 x26 x27 x28 x29 x30:ag) (G24:ah),(wv (aw T .leq au x30 x26) fun v31=>brB (some v31)
 (wv (aw T .add au x29 x28) fun v32=>al P aT.n [x25,x29,v32,x30,x27] G24 fun v33 G34=>wv (aw T .mul au (.int .i64 2) x28) fun v35=>wv (aw T .add au x30 v35) fun v36=>R23 [x25,x26,x27,x28,x30,v36] G34)
 (wv (aw T .add au x29 x28) fun v37=>wv (aw T .lss au v37 x26) fun v38=>brB (some v38)
 (al P aT.n [x25,x29,v37,x26,x27] G24 fun v39 G40=>wv (aw T .mul au x28 (.int .i64 2)) fun v43=>R15 [x25,x26,x27,v43] G40)
 (wv (aw T .mul au x28 (.int .i64 2)) fun v44=>R15 [x25,x26,x27,v44] G24))) -> R23 [x25,x26,x27,x28,x29,x30] G24) ->
 R23 [x17,x18,x19,x20,.int .i64 0,v22] G16)
 (Q (.tuple []) G16)) -> R15 [x17,x18,x19,x20] G16) ->
 R15 [x3,x4,x5,x6] G14)) -> R1 [x3,x4,x5,x6,x7,x8] G2) ->
 R1 [a0,a1,a2,.int .i64 20,.int .i64 0,.int .i64 20] G
def bm.an:Ann:=.two (.nil) (.two (.nil) (.two (.loop [0,1,2,6,7,8] [false,false,false,false,false,false] (.nil)) (.two (.nil) (.loop [0,1,2,6] [false,false,false,false] (.two (.nil) (.two (.nil) (.two (.loop [0,1,2,6,7,8] [false,false,false,false,false,false] (.nil)) (.nil))))))))
theorem bm.sound {a0 a1 a2:ag} {G:ah} {Q:ag -> ah -> Prop} (h:bm.S a0 a1 a2 G Q):al P bm.n [a0,a1,a2] G Q:=by
 have e:bm.S a0 a1 a2 G Q = awp cx (bm.body) bm.an (bK T [] Q) (dN [a0,a1,a2]) G:=by kernel_rfl
 refine ay dO (f:=bm.n) (fn:=Tryz.f212) (c:=bm.body) (an:=bm.an) Tryz.func212 ?_ ?_ ?_ (aF ?_ ?_) (by simp [Tryz.f212]) (e ▸ h) <;> kernel_rfl
def aN.S (a0 a1:ag) (G:ah) (Q:ag -> ah -> Prop):Prop :=
 wv (gF T G aq a0) fun v1=>al P bm.n [a0,v1,a1] G fun v2 G3=>Q (.tuple []) G3
def aN.an:Ann:=.nil
theorem aN.sound {a0 a1:ag} {G:ah} {Q:ag -> ah -> Prop} (h:aN.S a0 a1 G Q):al P aN.n [a0,a1] G Q:=by
 have e:aN.S a0 a1 G Q = awp cx (aN.body) aN.an (bK T [] Q) (dN [a0,a1]) G:=by kernel_rfl
 refine ay dO (f:=aN.n) (fn:=Tryz.f187) (c:=aN.body) (an:=aN.an) Tryz.func187 ?_ ?_ ?_ (aF ?_ ?_) (by simp [Tryz.f187]) (e ▸ h) <;> kernel_rfl
def eK.S (a0:ag) (G:ah) (Q:ag -> ah -> Prop):Prop :=
 wv (aw T .neq me a0 a0) fun v1=>Q v1 G
def eK.an:Ann:=.nil
theorem eK.sound {a0:ag} {G:ah} {Q:ag -> ah -> Prop} (h:eK.S a0 G Q):al P eK.n [a0] G Q:=by
 have e:eK.S a0 G Q = awp cx (eK.body) eK.an (bK T [.tmp 2] Q) (dN [a0]) G:=by kernel_rfl
 refine ay dO (f:=eK.n) (fn:=Tryz.f213) (c:=eK.body) (an:=eK.an) Tryz.func213 ?_ ?_ ?_ (aF ?_ ?_) (by simp [Tryz.f213]) (e ▸ h) <;> kernel_rfl
def eo.S (a0 a1:ag) (G:ah) (Q:ag -> ah -> Prop):Prop :=
 al P eK.n [a0] G fun v1 G2=>al P eK.n [a1] G2 fun v3 G4=>brB (some v1)
 (brB (some v3)
 (Q (.int .i64 0) G4)
 (Q (.int .i64 (-1)) G4))
 (brB (some v3)
 (Q (.int .i64 1) G4)
 (wv (aw T .lss me a0 a1) fun v5=>brB (some v5)
 (Q (.int .i64 (-1)) G4)
 (wv (aw T .gtr me a0 a1) fun v6=>brB (some v6)
 (Q (.int .i64 1) G4)
 (Q (.int .i64 0) G4))))
def eo.an:Ann:=.nil
theorem eo.sound {a0 a1:ag} {G:ah} {Q:ag -> ah -> Prop} (h:eo.S a0 a1 G Q):al P eo.n [a0,a1] G Q:=by
 have e:eo.S a0 a1 G Q = awp cx (eo.body) eo.an (bK T [.tmp 4] Q) (dN [a0,a1]) G:=by kernel_rfl
 refine ay dO (f:=eo.n) (fn:=Tryz.f189) (c:=eo.body) (an:=eo.an) Tryz.func189 ?_ ?_ ?_ (aF ?_ ?_) (by simp [Tryz.f189]) (e ▸ h) <;> kernel_rfl
def fP.S (a0 a1:ag) (G:ah) (Q:ag -> ah -> Prop):Prop :=
 br G (.own (a0)) fun i1 G2=>br G2 (.own (a1)) fun i3 G4=>wv (lq T G4 me (.ptr i1 [1] 1)) fun v5=>wv (lq T G4 me (.ptr i3 [1] 1)) fun v6=>al P eo.n [v5,v6] G4 fun v7 G8=>Q v7 G8
def fP.an:Ann:=.nil
theorem fP.sound {a0 a1:ag} {G:ah} {Q:ag -> ah -> Prop} (h:fP.S a0 a1 G Q):al P fP.n [a0,a1] G Q:=by
 have e:fP.S a0 a1 G Q = awp cx (fP.body) fP.an (bK T [.tmp 4] Q) (dN [a0,a1]) G:=by kernel_rfl
 refine ay dO (f:=fP.n) (fn:=Tryz.f188) (c:=fP.body) (an:=fP.an) Tryz.func188 ?_ ?_ ?_ (aF ?_ ?_) (by simp [Tryz.f188]) (e ▸ h) <;> kernel_rfl
end Go.Esc.M
