import Derived.Test.YtkojimdacnohpaaGreatDoorT
set_option linter.unusedSimpArgs false
set_option linter.unusedVariables false
set_option maxRecDepth 100000
namespace Go.Esc.M
open Go Go.Esc Go.Proofs
def gH.S (a0:ag) (G:ah) (Q:ag -> ah -> Prop):Prop :=
 wv (aw T .geq me a0 (.int .i64 0)) fun v1=>brB (some v1)
 (wv (aw T .leq me a0 (.int .i64 281474976710655)) fun v2=>Q v2 G)
 (Q (.bool false) G)
def gH.an:Ann:=.nil
theorem gH.sound {a0:ag} {G:ah} {Q:ag -> ah -> Prop} (h:gH.S a0 G Q):al P gH.n [a0] G Q:=by
 have e:gH.S a0 G Q = awp cx (gH.body) gH.an (bK T [.tmp 2] Q) (dN [a0]) G:=by kernel_rfl
 refine ay dO (f:=gH.n) (fn:=Tryz.f162) (c:=gH.body) (an:=gH.an) Tryz.func162 ?_ ?_ ?_ (aF ?_ ?_) (by simp [Tryz.f162]) (e ▸ h) <;> kernel_rfl
def fU.S (a0:ag) (G:ah) (Q:ag -> ah -> Prop):Prop :=
 wv (aw T .sub me (.int .i64 281474976710655) a0) fun v1=>Q v1 G
def fU.an:Ann:=.nil
theorem fU.sound {a0:ag} {G:ah} {Q:ag -> ah -> Prop} (h:fU.S a0 G Q):al P fU.n [a0] G Q:=by
 have e:fU.S a0 G Q = awp cx (fU.body) fU.an (bK T [.tmp 2] Q) (dN [a0]) G:=by kernel_rfl
 refine ay dO (f:=fU.n) (fn:=Tryz.f163) (c:=fU.body) (an:=fU.an) Tryz.func163 ?_ ?_ ?_ (aF ?_ ?_) (by simp [Tryz.f163]) (e ▸ h) <;> kernel_rfl
def cC.S (a0:ag) (G:ah) (Q:ag -> ah -> Prop):Prop :=
 wv (aw T .eql jd a0 (.int .u64 0)) fun v1=>brB (some v1)
 (Q (.int .i64 64) G)
 (wv (vun .neg a0) fun v2=>wv (aw T .and jd a0 v2) fun v3=>wv (aw T .mul jd v3 (.int .u64 285870213051353865)) fun v4=>wv (aw T .shr jd v4 (.int .u64 58)) fun v5=>wv (aL T j5 (.ptr ⟨0,0,0⟩ [] 0) v5) fun v6=>wv (lq T G cg v6) fun v7=>wv (gi T G cg au v7) fun v8=>Q v8 G)
def cC.an:Ann:=.nil
theorem cC.sound {a0:ag} {G:ah} {Q:ag -> ah -> Prop} (h:cC.S a0 G Q):al P cC.n [a0] G Q:=by
 have e:cC.S a0 G Q = awp cx (cC.body) cC.an (bK T [.tmp 2] Q) (dN [a0]) G:=by kernel_rfl
 refine ay dO (f:=cC.n) (fn:=Tryz.f202) (c:=cC.body) (an:=cC.an) Tryz.func202 ?_ ?_ ?_ (aF ?_ ?_) (by simp [Tryz.f202]) (e ▸ h) <;> kernel_rfl
def iv.S (a0:ag) (G:ah) (Q:ag -> ah -> Prop):Prop :=
 al P gH.n [a0] G fun v1 G2=>wv (vun .not v1) fun v3=>brB (some v3)
 (Q (.tuple [.int .i64 0,.int .i64 90]) G2)
 (al P fU.n [a0] G2 fun v4 G5=>wv (gi T G5 me jd v4) fun v6=>al P cC.n [v6] G5 fun v7 G8=>wv (uo (.int .i64 48) v7) fun v9=>Q (.tuple [v9,.int .i64 0]) G8)
def iv.an:Ann:=.nil
theorem iv.sound {a0:ag} {G:ah} {Q:ag -> ah -> Prop} (h:iv.S a0 G Q):al P iv.n [a0] G Q:=by
 have e:iv.S a0 G Q = awp cx (iv.body) iv.an (bK T [.tmp 2,.tmp 3] Q) (dN [a0]) G:=by kernel_rfl
 refine ay dO (f:=iv.n) (fn:=Tryz.f161) (c:=iv.body) (an:=iv.an) Tryz.func161 ?_ ?_ ?_ (aF ?_ ?_) (by simp [Tryz.f161]) (e ▸ h) <;> kernel_rfl
def fL.S (G:ah) (Q:ag -> ah -> Prop):Prop :=
 br G (.own (gK)) fun i1 G2=>wv (bk T bT [(0,.int .u32 1116352408),(1,.int .u32 1899447441),(2,.int .u32 3049323471),(3,.int .u32 3921009573),(4,.int .u32 961987163),(5,.int .u32 1508970993),(6,.int .u32 2453635748),(7,.int .u32 2870763221),(8,.int .u32 3624381080),(9,.int .u32 310598401),(10,.int .u32 607225278),(11,.int .u32 1426881987),(12,.int .u32 1925078388),(13,.int .u32 2162078206),(14,.int .u32 2614888103),(15,.int .u32 3248222580),(16,.int .u32 3835390401),(17,.int .u32 4022224774),(18,.int .u32 264347078),(19,.int .u32 604807628),(20,.int .u32 770255983),(21,.int .u32 1249150122),(22,.int .u32 1555081692),(23,.int .u32 1996064986),(24,.int .u32 2554220882),(25,.int .u32 2821834349),(26,.int .u32 2952996808),(27,.int .u32 3210313671),(28,.int .u32 3336571891),(29,.int .u32 3584528711),(30,.int .u32 113926993),(31,.int .u32 338241895),(32,.int .u32 666307205),(33,.int .u32 773529912),(34,.int .u32 1294757372),(35,.int .u32 1396182291),(36,.int .u32 1695183700),(37,.int .u32 1986661051),(38,.int .u32 2177026350),(39,.int .u32 2456956037),(40,.int .u32 2730485921),(41,.int .u32 2820302411),(42,.int .u32 3259730800),(43,.int .u32 3345764771),(44,.int .u32 3516065817),(45,.int .u32 3600352804),(46,.int .u32 4094571909),(47,.int .u32 275423344),(48,.int .u32 430227734),(49,.int .u32 506948616),(50,.int .u32 659060556),(51,.int .u32 883997877),(52,.int .u32 958139571),(53,.int .u32 1322822218),(54,.int .u32 1537002063),(55,.int .u32 1747873779),(56,.int .u32 1955562222),(57,.int .u32 2024104815),(58,.int .u32 2227730452),(59,.int .u32 2361852424),(60,.int .u32 2428436474),(61,.int .u32 2756734187),(62,.int .u32 3204031479),(63,.int .u32 3329325298)]) fun v3=>wg (ax T G2 bT (.ptr i1 [] 0) v3) fun G4=>wv (lq T G4 bT (.ptr i1 [] 0)) fun v5=>Q v5 G4
def fL.an:Ann:=.nil
theorem fL.sound {G:ah} {Q:ag -> ah -> Prop} (h:fL.S G Q):al P fL.n [] G Q:=by
 have e:fL.S G Q = awp cx (fL.body) fL.an (bK T [.cell 0 136] Q) (dN []) G:=by kernel_rfl
 refine ay dO (f:=fL.n) (fn:=Tryz.f75) (c:=fL.body) (an:=fL.an) Tryz.func75 ?_ ?_ ?_ (aF ?_ ?_) (by simp [Tryz.f75]) (e ▸ h) <;> kernel_rfl
def bt.S (a0 a1:ag) (G:ah) (Q:ag -> ah -> Prop):Prop :=
 wv (gi T G au kQ a1) fun v1=>wv (aw T .and kQ v1 (.int .u64 31)) fun v2=>wv (aw T .shl az a0 v2) fun v3=>wv (aw T .sub kQ (.int .u64 32) v2) fun v4=>wv (aw T .shr az a0 v4) fun v5=>wv (aw T .or az v3 v5) fun v6=>Q v6 G
def bt.an:Ann:=.nil
theorem bt.sound {a0 a1:ag} {G:ah} {Q:ag -> ah -> Prop} (h:bt.S a0 a1 G Q):al P bt.n [a0,a1] G Q:=by
 have e:bt.S a0 a1 G Q = awp cx (bt.body) bt.an (bK T [.tmp 4] Q) (dN [a0,a1]) G:=by kernel_rfl
 refine ay dO (f:=bt.n) (fn:=Tryz.f141) (c:=bt.body) (an:=bt.an) Tryz.func141 ?_ ?_ ?_ (aF ?_ ?_) (by simp [Tryz.f141]) (e ▸ h) <;> kernel_rfl
def gf.S (a0:ag) (G:ah) (Q:ag -> ah -> Prop):Prop :=
 br G (.own (gK)) fun i1 G2=>br G2 (.own (gK)) fun i3 G4=>∀ R5:List ag -> ah -> Prop,
 (∀ (x7 x8 x9 x10:ag) (G6:ah),(wv (aw T .lss au x10 (.int .i64 16)) fun v11=>brB (some v11)
 (∀ R12:List ag -> ah -> Prop,
 (∀ (x14 x15 x16 x17 x18 x19:ag) (G13:ah),(wv (aw T .lss au x19 (.int .i64 4)) fun v20=>brB (some v20)
 (wv (aL T bT x16 x17) fun v21=>wv (lq T G13 az v21) fun v22=>wv (aw T .shl az v22 (.int .u64 8)) fun v23=>wv (aw T .mul au (.int .i64 4) x17) fun v24=>wv (aw T .add au v24 x19) fun v25=>wv (oE T bH x14 v25) fun v26=>wv (gi T G13 cg az v26) fun v27=>wv (aw T .or az v23 v27) fun v28=>wv (aL T bT x16 x17) fun v29=>wg (ax T G13 az v29 v28) fun G30=>wv (aw T .add au x19 (.int .i64 1)) fun v31=>R12 [x14,x15,x16,x17,x18,v31] G30)
 (wv (aw T .add au x18 (.int .i64 1)) fun v32=>R5 [x14,x15,x16,v32] G13)) -> R12 [x14,x15,x16,x17,x18,x19] G13) ->
 R12 [x7,x8,x9,x10,x10,.int .i64 0] G6)
 (∀ R33:List ag -> ah -> Prop,
 (∀ (x35 x36 x37:ag) (G34:ah),(wv (aw T .lss au x37 (.int .i64 64)) fun v38=>brB (some v38)
 (wv (aw T .sub au x37 (.int .i64 15)) fun v39=>wv (aL T bT x36 v39) fun v40=>wv (lq T G34 az v40) fun v41=>wv (aw T .sub au x37 (.int .i64 2)) fun v42=>wv (aL T bT x36 v42) fun v43=>wv (lq T G34 az v43) fun v44=>al P bt.n [v41,.int .i64 (-7)] G34 fun v45 G46=>al P bt.n [v41,.int .i64 (-18)] G46 fun v47 G48=>wv (aw T .xor az v45 v47) fun v49=>wv (aw T .shr az v41 (.int .u64 3)) fun v50=>wv (aw T .xor az v49 v50) fun v51=>al P bt.n [v44,.int .i64 (-17)] G48 fun v52 G53=>al P bt.n [v44,.int .i64 (-19)] G53 fun v54 G55=>wv (aw T .xor az v52 v54) fun v56=>wv (aw T .shr az v44 (.int .u64 10)) fun v57=>wv (aw T .xor az v56 v57) fun v58=>wv (aw T .sub au x37 (.int .i64 16)) fun v59=>wv (aL T bT x36 v59) fun v60=>wv (lq T G55 az v60) fun v61=>wv (aw T .add az v61 v51) fun v62=>wv (aw T .sub au x37 (.int .i64 7)) fun v63=>wv (aL T bT x36 v63) fun v64=>wv (lq T G55 az v64) fun v65=>wv (aw T .add az v62 v65) fun v66=>wv (aw T .add az v66 v58) fun v67=>wv (aL T bT x36 x37) fun v68=>wg (ax T G55 az v68 v67) fun G69=>wv (aw T .add au x37 (.int .i64 1)) fun v70=>R33 [x35,x36,v70] G69)
 (wv (lq T G34 bT x36) fun v71=>wg (ax T G34 bT x35 v71) fun G72=>wv (lq T G72 bT x35) fun v73=>Q v73 G72)) -> R33 [x35,x36,x37] G34) ->
 R33 [x8,x9,.int .i64 16] G6)) -> R5 [x7,x8,x9,x10] G6) ->
 R5 [a0,.ptr i1 [] 0,.ptr i3 [] 0,.int .i64 0] G4
def gf.an:Ann:=.two (.nil) (.two (.nil) (.two (.two (.nil) (.loop [0,2,3,11] [false,false,false,false] (.two (.nil) (.two (.nil) (.two (.two (.nil) (.two (.nil) (.loop [0,2,3,4,11,14] [false,false,false,false,false,false] (.two (.nil) (.two (.nil) (.two (.two (.nil) (.ord [(0,[]),(1,[]),(2,[]),(3,[]),(4,[]),(5,[]),(6,[]),(7,[]),(8,[]),(9,[]),(10,[]),(11,[]),(12,[]),(13,[]),(14,[])])) (.nil))))))) (.nil)))))) (.two (.two (.nil) (.loop [2,3,6] [false,false,false] (.two (.nil) (.two (.two (.ord [(0,[]),(1,[]),(2,[]),(3,[]),(4,[]),(5,[]),(6,[]),(7,[]),(8,[]),(9,[])]) (.two (.nil) (.two (.nil) (.ord [(0,[]),(1,[]),(2,[]),(3,[]),(4,[]),(5,[]),(6,[]),(7,[]),(8,[]),(9,[]),(10,[]),(11,[]),(12,[]),(13,[]),(14,[]),(15,[])])))) (.nil))))) (.nil))))
theorem gf.sound {a0:ag} {G:ah} {Q:ag -> ah -> Prop} (h:gf.S a0 G Q):al P gf.n [a0] G Q:=by
 have e:gf.S a0 G Q = awp cx (gf.body) gf.an (bK T [.cell 2 136] Q) (dN [a0]) G:=by kernel_rfl
 refine ay dO (f:=gf.n) (fn:=Tryz.f140) (c:=gf.body) (an:=gf.an) Tryz.func140 ?_ ?_ ?_ (aF ?_ ?_) (by simp [Tryz.f140]) (e ▸ h) <;> kernel_rfl
def gR.S (a0 a1 a2:ag) (G:ah) (Q:ag -> ah -> Prop):Prop :=
 br G (.own (a0)) fun i1 G2=>br G2 (.own (kF)) fun i3 G4=>wv (lq T G4 bg (.ptr i1 [] 0)) fun v5=>al P gf.n [a1] G4 fun v6 G7=>(lq T G7 bg (.ptr i1 [] 0) = some v5 /\ True) /\ (br G7 (.own (gK)) fun i8 G9=>br G9 (.own (kF)) fun i10 G11=>wg (ax T G11 bT (.ptr i8 [] 0) v6) fun G12=>(lq T G12 bg (.ptr i1 [] 0) = some v5 /\ True) /\ (wg (ax T G12 bg (.ptr i10 [] 0) v5) fun G13=>∀ R14:List ag -> ah -> Prop,
 (∀ (x16 x17 x18 x19 x20 x21:ag) (G15:ah),(wv (aw T .lss au x21 (.int .i64 64)) fun v22=>brB (some v22)
 (wv (aL T bg x20 (.int .i64 4)) fun v23=>wv (lq T G15 az v23) fun v24=>wv (aL T bg x20 (.int .i64 0)) fun v25=>wv (lq T G15 az v25) fun v26=>wv (aL T bg x20 (.int .i64 7)) fun v27=>wv (lq T G15 az v27) fun v28=>wv (aL T bg x20 (.int .i64 5)) fun v29=>wv (lq T G15 az v29) fun v30=>wv (aw T .and az v24 v30) fun v31=>wv (vun .xor v24) fun v32=>wv (aL T bg x20 (.int .i64 6)) fun v33=>wv (lq T G15 az v33) fun v34=>wv (aw T .and az v32 v34) fun v35=>wv (aw T .xor az v31 v35) fun v36=>wv (kH x16) fun v37=>wv (aL T bT v37 x21) fun v38=>wv (lq T G15 az v38) fun v39=>wv (aL T bT x19 x21) fun v40=>wv (lq T G15 az v40) fun v41=>al P bt.n [v24,.int .i64 (-6)] G15 fun v42 G43=>(lq T G43 az v40 = some v41 /\ lq T G43 az v38 = some v39 /\ lq T G43 az v33 = some v34 /\ lq T G43 az v29 = some v30 /\ lq T G43 az v27 = some v28 /\ True) /\ (al P bt.n [v24,.int .i64 (-11)] G43 fun v44 G45=>(lq T G45 az v40 = some v41 /\ lq T G45 az v38 = some v39 /\ lq T G45 az v33 = some v34 /\ lq T G45 az v29 = some v30 /\ lq T G45 az v27 = some v28 /\ True) /\ (wv (aw T .xor az v42 v44) fun v46=>al P bt.n [v24,.int .i64 (-25)] G45 fun v47 G48=>(lq T G48 az v40 = some v41 /\ lq T G48 az v38 = some v39 /\ lq T G48 az v33 = some v34 /\ lq T G48 az v29 = some v30 /\ lq T G48 az v27 = some v28 /\ True) /\ (wv (aw T .xor az v46 v47) fun v49=>wv (aw T .add az v28 v49) fun v50=>wv (aw T .add az v50 v36) fun v51=>wv (aw T .add az v51 v39) fun v52=>wv (aw T .add az v52 v41) fun v53=>wv (aL T bg x20 (.int .i64 1)) fun v54=>wv (lq T G48 az v54) fun v55=>wv (aw T .and az v26 v55) fun v56=>wv (aL T bg x20 (.int .i64 2)) fun v57=>wv (lq T G48 az v57) fun v58=>wv (aw T .and az v26 v58) fun v59=>wv (aw T .xor az v56 v59) fun v60=>wv (aL T bg x20 (.int .i64 1)) fun v61=>wv (lq T G48 az v61) fun v62=>wv (aL T bg x20 (.int .i64 2)) fun v63=>wv (lq T G48 az v63) fun v64=>wv (aw T .and az v62 v64) fun v65=>wv (aw T .xor az v60 v65) fun v66=>al P bt.n [v26,.int .i64 (-2)] G48 fun v67 G68=>(lq T G68 az v63 = some v64 /\ lq T G68 az v61 = some v62 /\ lq T G68 az v57 = some v58 /\ lq T G68 az v54 = some v55 /\ True) /\ (al P bt.n [v26,.int .i64 (-13)] G68 fun v69 G70=>(lq T G70 az v63 = some v64 /\ lq T G70 az v61 = some v62 /\ lq T G70 az v57 = some v58 /\ lq T G70 az v54 = some v55 /\ True) /\ (wv (aw T .xor az v67 v69) fun v71=>al P bt.n [v26,.int .i64 (-22)] G70 fun v72 G73=>(lq T G73 az v63 = some v64 /\ lq T G73 az v61 = some v62 /\ lq T G73 az v57 = some v58 /\ lq T G73 az v54 = some v55 /\ True) /\ (wv (aw T .xor az v71 v72) fun v74=>wv (aw T .add az v74 v66) fun v75=>wv (aw T .add az v53 v75) fun v76=>wv (aL T bg x20 (.int .i64 1)) fun v77=>wv (lq T G73 az v77) fun v78=>wv (aL T bg x20 (.int .i64 2)) fun v79=>wv (lq T G73 az v79) fun v80=>wv (aL T bg x20 (.int .i64 3)) fun v81=>wv (lq T G73 az v81) fun v82=>wv (aw T .add az v82 v53) fun v83=>wv (aL T bg x20 (.int .i64 5)) fun v84=>wv (lq T G73 az v84) fun v85=>wv (aL T bg x20 (.int .i64 6)) fun v86=>wv (lq T G73 az v86) fun v87=>wv (bk T bg [(0,v76),(1,v26),(2,v78),(3,v80),(4,v83),(5,v24),(6,v85),(7,v87)]) fun v88=>wg (ax T G73 bg x20 v88) fun G89=>wv (aw T .add au x21 (.int .i64 1)) fun v90=>R14 [x16,x17,x18,x19,x20,v90] G89)))))))
 (∀ R91:List ag -> ah -> Prop,
 (∀ (x93 x94 x95 x96:ag) (G92:ah),(wv (aw T .lss au x96 (.int .i64 8)) fun v97=>brB (some v97)
 (wv (aL T bg x95 x96) fun v98=>wv (lq T G92 az v98) fun v99=>wv (aL T bg x93 x96) fun v100=>wv (lq T G92 az v100) fun v101=>wv (aw T .add az v99 v101) fun v102=>wv (aL T bg x95 x96) fun v103=>wg (ax T G92 az v103 v102) fun G104=>wv (aw T .add au x96 (.int .i64 1)) fun v105=>R91 [x93,x94,x95,v105] G104)
 (wv (lq T G92 bg x95) fun v106=>wg (ax T G92 bg x94 v106) fun G107=>wv (lq T G107 bg x94) fun v108=>Q v108 G107)) -> R91 [x93,x94,x95,x96] G92) ->
 R91 [x17,x18,x20,.int .i64 0] G15)) -> R14 [x16,x17,x18,x19,x20,x21] G15) ->
 R14 [a2,.ptr i1 [] 0,.ptr i3 [] 0,.ptr i8 [] 0,.ptr i10 [] 0,.int .i64 0] G13))
def gR.an:Ann:=.two (.nil) (.two (.ord [(0,[]),(2,[]),(1,[2]),(3,[]),(4,[]),(5,[2]),(6,[])]) (.two (.two (.nil) (.loop [2,3,6,7,8,18] [false,false,false,false,false,false] (.two (.nil) (.two (.nil) (.two (.two (.nil) (.two (.ord [(0,[]),(1,[]),(2,[]),(3,[]),(4,[]),(5,[])]) (.two (.ord [(0,[]),(1,[]),(2,[]),(4,[]),(7,[]),(11,[]),(12,[]),(13,[]),(14,[]),(15,[]),(16,[]),(17,[]),(18,[]),(19,[]),(20,[]),(22,[]),(23,[]),(24,[]),(25,[]),(26,[]),(28,[]),(29,[]),(30,[]),(3,[1,13,18,26,30]),(5,[1,13,18,26,30]),(6,[]),(8,[1,13,18,26,30]),(9,[]),(10,[]),(21,[]),(27,[]),(31,[]),(32,[])]) (.two (.ord [(0,[]),(2,[]),(5,[]),(8,[]),(9,[]),(10,[]),(11,[]),(12,[]),(13,[]),(14,[]),(15,[]),(16,[]),(17,[]),(18,[]),(19,[]),(20,[]),(21,[]),(22,[]),(1,[10,14,18,20]),(3,[10,14,18,20]),(4,[]),(6,[10,14,18,20]),(7,[]),(23,[]),(24,[])]) (.nil))))) (.nil)))))) (.two (.two (.nil) (.loop [3,6,8,100] [false,false,false,false] (.two (.nil) (.two (.nil) (.two (.two (.nil) (.ord [(0,[]),(1,[]),(2,[]),(3,[]),(4,[]),(5,[]),(6,[]),(7,[]),(8,[])])) (.nil)))))) (.nil))))
theorem gR.sound {a0 a1 a2:ag} {G:ah} {Q:ag -> ah -> Prop} (h:gR.S a0 a1 a2 G Q):al P gR.n [a0,a1,a2] G Q:=by
 have e:gR.S a0 a1 a2 G Q = awp cx (gR.body) gR.an (bK T [.cell 6 135] Q) (dN [a0,a1,a2]) G:=by kernel_rfl
 refine ay dO (f:=gR.n) (fn:=Tryz.f76) (c:=gR.body) (an:=gR.an) Tryz.func76 ?_ ?_ ?_ (aF ?_ ?_) (by simp [Tryz.f76]) (e ▸ h) <;> kernel_rfl
def iK.S (a0:ag) (G:ah) (Q:ag -> ah -> Prop):Prop :=
 br G (.own (cI)) fun i1 G2=>al P strings_Join.n [a0,.str []] G2 fun v3 G4=>wv (gF T G4 bH v3) fun v5=>bh T aP 1 [(0,.int .u8 128)] G4 fun v6 G7=>∀ R8:List ag -> ah -> Prop,
 (∀ (x10 x11 x12 x13:ag) (G9:ah),(wv (gF T G9 aP x13) fun v14=>wv (aw T .add au x12 v14) fun v15=>wv (aw T .rem au v15 (.int .i64 64)) fun v16=>wv (aw T .neq au v16 (.int .i64 56)) fun v17=>brB (some v17)
 (bh T aP 1 [(0,.int .u8 0)] G9 fun v18 G19=>cc T G19 aP aP x13 v18 fun v20 G21=>R8 [x10,x11,x12,v20] G21)
 (∀ R22:List ag -> ah -> Prop,
 (∀ (x24 x25 x26 x27 x28:ag) (G23:ah),(wv (aw T .lss au x28 (.int .i64 8)) fun v29=>brB (some v29)
 (wv (aw T .mul au (.int .i64 8) x26) fun v30=>wv (gi T G23 au jd v30) fun v31=>wv (aw T .mul au (.int .i64 8) x28) fun v32=>wv (aw T .sub au (.int .i64 56) v32) fun v33=>wv (aw T .shr jd v31 v33) fun v34=>wv (gi T G23 jd cg v34) fun v35=>bh T aP 1 [(0,v35)] G23 fun v36 G37=>cc T G37 aP aP x27 v36 fun v38 G39=>wv (aw T .add au x28 (.int .i64 1)) fun v40=>R22 [x24,x25,x26,v38,v40] G39)
 (wv (gi T G23 aP bH x27) fun v41=>wv (aw T .add bH x25 v41) fun v42=>wv (bk T bg [(0,.int .u32 1779033703),(1,.int .u32 3144134277),(2,.int .u32 1013904242),(3,.int .u32 2773480762),(4,.int .u32 1359893119),(5,.int .u32 2600822924),(6,.int .u32 528734635),(7,.int .u32 1541459225)]) fun v43=>br G23 (.own (kF)) fun i44 G45=>wg (ax T G45 bg (.ptr i44 [] 0) v43) fun G46=>al P fL.n [] G46 fun v47 G48=>br G48 (.own (gK)) fun i49 G50=>wg (ax T G50 bT (.ptr i49 [] 0) v47) fun G51=>∀ R52:List ag -> ah -> Prop,
 (∀ (x54 x55 x56 x57:ag) (G53:ah),(wv (aw T .neq bH x55 (.str [])) fun v58=>brB (some v58)
 (wv (lq T G53 bg x56) fun v59=>wv (fj T bH x55 none (some (.int .i64 64)) none) fun v60=>al P gR.n [v59,v60,x57] G53 fun v61 G62=>wg (ax T G62 bg x56 v61) fun G63=>wv (fj T bH x55 (some (.int .i64 64)) none none) fun v64=>R52 [x54,v64,x56,x57] G63)
 (br G53 (.own (cI)) fun i65 G66=>∀ R67:List ag -> ah -> Prop,
 (∀ (x69 x70 x71 x72:ag) (G68:ah),(wv (aw T .lss au x72 (.int .i64 32)) fun v73=>brB (some v73)
 (wv (aw T .quo au x72 (.int .i64 4)) fun v74=>wv (aL T bg x70 v74) fun v75=>wv (lq T G68 az v75) fun v76=>wv (aw T .rem au x72 (.int .i64 4)) fun v77=>wv (aw T .mul au (.int .i64 8) v77) fun v78=>wv (aw T .sub au (.int .i64 24) v78) fun v79=>wv (aw T .shr az v76 v79) fun v80=>wv (gi T G68 az cg v80) fun v81=>wv (aL T aj x71 x72) fun v82=>wg (ax T G68 cg v82 v81) fun G83=>wv (aw T .add au x72 (.int .i64 1)) fun v84=>R67 [x69,x70,x71,v84] G83)
 (wv (lq T G68 aj x71) fun v85=>wg (ax T G68 aj x69 v85) fun G86=>wv (lq T G86 aj x69) fun v87=>Q v87 G86)) -> R67 [x69,x70,x71,x72] G68) ->
 R67 [x54,x56,.ptr i65 [] 0,.int .i64 0] G66)) -> R52 [x54,x55,x56,x57] G53) ->
 R52 [x24,v42,.ptr i44 [] 0,.ptr i49 [] 0] G51)) -> R22 [x24,x25,x26,x27,x28] G23) ->
 R22 [x10,x11,x12,x13,.int .i64 0] G9)) -> R8 [x10,x11,x12,x13] G9) ->
 R8 [.ptr i1 [] 0,v3,v5,v6] G7
def iK.an:Ann:=.two (.nil) (.two (.nil) (.two (.nil) (.two (.nil) (.two (.loop [2,3,4,5] [false,false,false,false] (.nil)) (.two (.two (.nil) (.loop [2,3,4,5,25] [false,false,false,false,false] (.nil))) (.two (.nil) (.two (.nil) (.two (.nil) (.two (.loop [2,3,7,8] [false,false,false,false] (.two (.nil) (.two (.ord [(0,[]),(1,[]),(2,[]),(3,[]),(4,[])]) (.nil)))) (.two (.nil) (.two (.two (.nil) (.loop [2,7,9,54] [false,false,false,false] (.nil))) (.nil))))))))))))
theorem iK.sound {a0:ag} {G:ah} {Q:ag -> ah -> Prop} (h:iK.S a0 G Q):al P iK.n [a0] G Q:=by
 have e:iK.S a0 G Q = awp cx (iK.body) iK.an (bK T [.cell 2 23] Q) (dN [a0]) G:=by kernel_rfl
 refine ay dO (f:=iK.n) (fn:=Tryz.f30) (c:=iK.body) (an:=iK.an) Tryz.func30 ?_ ?_ ?_ (aF ?_ ?_) (by simp [Tryz.f30]) (e ▸ h) <;> kernel_rfl
def gZ.S (a0:ag) (G:ah) (Q:ag -> ah -> Prop):Prop :=
 br G (.own (a0)) fun i1 G2=>br G2 (.own (cI)) fun i3 G4=>wv (fj T aj (.ptr i1 [] 0) none none none) fun v5=>wv (gi T G4 aP bH v5) fun v6=>bh T im 1 [(0,v6)] G4 fun v7 G8=>al P iK.n [v7] G8 fun v9 G10=>wg (ax T G10 aj (.ptr i3 [] 0) v9) fun G11=>wv (lq T G11 aj (.ptr i3 [] 0)) fun v12=>Q v12 G11
def gZ.an:Ann:=.nil
theorem gZ.sound {a0:ag} {G:ah} {Q:ag -> ah -> Prop} (h:gZ.S a0 G Q):al P gZ.n [a0] G Q:=by
 have e:gZ.S a0 G Q = awp cx (gZ.body) gZ.an (bK T [.cell 2 23] Q) (dN [a0]) G:=by kernel_rfl
 refine ay dO (f:=gZ.n) (fn:=Tryz.f114) (c:=gZ.body) (an:=gZ.an) Tryz.func114 ?_ ?_ ?_ (aF ?_ ?_) (by simp [Tryz.f114]) (e ▸ h) <;> kernel_rfl
def iG.S (a0 a1 a2:ag) (G:ah) (Q:ag -> ah -> Prop):Prop :=
 br G (.own (a0)) fun i1 G2=>br G2 (.own (cI)) fun i3 G4=>∀ R5:List ag -> ah -> Prop,
 (∀ (x7 x8 x9 x10 x11 x12:ag) (G6:ah),(wv (aw T .lss au x12 x11) fun v13=>brB (some v13)
 (wv (aw T .sub au x8 (.int .i64 1)) fun v14=>wv (aw T .sub au v14 x12) fun v15=>wv (aw T .shr me x7 v15) fun v16=>wv (aw T .and me v16 (.int .i64 1)) fun v17=>wv (aw T .eql me v17 (.int .i64 1)) fun v18=>brB (some v18)
 (wv (aw T .quo au v15 (.int .i64 8)) fun v19=>wv (aL T aj x9 v19) fun v20=>wv (lq T G6 cg v20) fun v21=>wv (aw T .rem au v15 (.int .i64 8)) fun v22=>wv (aw T .shl cg (.int .u8 1) v22) fun v23=>wv (aw T .xor cg v21 v23) fun v24=>wv (aL T aj x9 v19) fun v25=>wg (ax T G6 cg v25 v24) fun G26=>wv (lq T G26 aj x9) fun v27=>al P gZ.n [v27] G26 fun v28 G29=>wg (ax T G29 aj x9 v28) fun G30=>wv (aw T .add au x12 (.int .i64 1)) fun v34=>R5 [x7,x8,x9,x10,x11,v34] G30)
 (wv (aw T .add au x12 (.int .i64 1)) fun v35=>R5 [x7,x8,x9,x10,x11,v35] G6))
 (wv (lq T G6 aj x9) fun v36=>wg (ax T G6 aj x10 v36) fun G37=>wv (lq T G37 aj x10) fun v38=>Q v38 G37)) -> R5 [x7,x8,x9,x10,x11,x12] G6) ->
 R5 [a1,a2,.ptr i1 [] 0,.ptr i3 [] 0,a2,.int .i64 0] G4
def iG.an:Ann:=.two (.nil) (.two (.two (.nil) (.loop [1,2,3,6,9,10] [false,false,false,false,false,false] (.two (.nil) (.two (.nil) (.two (.two (.nil) (.two (.nil) (.two (.nil) (.two (.two (.ord [(0,[]),(1,[]),(2,[]),(3,[]),(4,[]),(5,[]),(6,[]),(7,[]),(8,[]),(9,[])]) (.nil)) (.nil))))) (.nil)))))) (.nil))
theorem iG.sound {a0 a1 a2:ag} {G:ah} {Q:ag -> ah -> Prop} (h:iG.S a0 a1 a2 G Q):al P iG.n [a0,a1,a2] G Q:=by
 have e:iG.S a0 a1 a2 G Q = awp cx (iG.body) iG.an (bK T [.cell 6 23] Q) (dN [a0,a1,a2]) G:=by kernel_rfl
 refine ay dO (f:=iG.n) (fn:=Tryz.f164) (c:=iG.body) (an:=iG.an) Tryz.func164 ?_ ?_ ?_ (aF ?_ ?_) (by simp [Tryz.f164]) (e ▸ h) <;> kernel_rfl
def gM.S (a0 a1 a2:ag) (G:ah) (Q:ag -> ah -> Prop):Prop :=
 br G (.own (a0)) fun i1 G2=>br G2 (.own (cI)) fun i3 G4=>al P iv.n [a1] G4 fun v5 G6=>wv (aW v5 0) fun v7=>wv (aW v5 1) fun v8=>let J28:ag -> ah -> Prop:=(fun x14 G13=>brB (some x14)
 (wv (bk T aj []) fun v15=>wg (ax T G13 aj (.ptr i3 [] 0) v15) fun G16=>wv (lq T G16 aj (.ptr i3 [] 0)) fun v17=>Q (.tuple [v17,.int .i64 90]) G16)
 (al P fU.n [a1] G13 fun v18 G19=>wv (aw T .shr me v18 v7) fun v20=>al P fU.n [a2] G19 fun v21 G22=>wv (aw T .shr me v21 v7) fun v23=>wv (aw T .neq me v20 v23) fun v24=>brB (some v24)
 (wv (bk T aj []) fun v25=>wg (ax T G22 aj (.ptr i3 [] 0) v25) fun G26=>wv (lq T G26 aj (.ptr i3 [] 0)) fun v27=>Q (.tuple [v27,.int .i64 5]) G26)
 (wv (lq T G22 aj (.ptr i1 [] 0)) fun v29=>al P fU.n [a2] G22 fun v30 G31=>(lq T G31 aj (.ptr i1 [] 0) = some v29 /\ True) /\ (al P iG.n [v29,v30,v7] G31 fun v32 G33=>wg (ax T G33 aj (.ptr i3 [] 0) v32) fun G34=>wv (lq T G34 aj (.ptr i3 [] 0)) fun v35=>Q (.tuple [v35,.int .i64 0]) G34))));
 wv (aw T .neq bq v8 (.int .i64 0)) fun v9=>brB (some v9)
 (J28 (.bool true) G6)
 (al P gH.n [a2] G6 fun v10 G11=>wv (vun .not v10) fun v12=>J28 v12 G11)
def gM.an:Ann:=.two (.nil) (.two (.nil) (.two (.two (.nil) (.two (.nil) (.two (.ord [(0,[]),(2,[]),(4,[]),(6,[]),(1,[]),(3,[]),(5,[]),(7,[]),(8,[]),(9,[])]) (.nil)))) (.two (.ord [(0,[]),(1,[]),(3,[]),(2,[0]),(4,[]),(5,[]),(6,[])]) (.nil))))
theorem gM.sound {a0 a1 a2:ag} {G:ah} {Q:ag -> ah -> Prop} (h:gM.S a0 a1 a2 G Q):al P gM.n [a0,a1,a2] G Q:=by
 have e:gM.S a0 a1 a2 G Q = awp cx (gM.body) gM.an (bK T [.cell 6 23,.tmp 7] Q) (dN [a0,a1,a2]) G:=by kernel_rfl
 refine ay dO (f:=gM.n) (fn:=Tryz.f102) (c:=gM.body) (an:=gM.an) Tryz.func102 ?_ ?_ ?_ (aF ?_ ?_) (by simp [Tryz.f102]) (e ▸ h) <;> kernel_rfl
def iV.S (a0 a1:ag) (G:ah) (Q:ag -> ah -> Prop):Prop :=
 br G (.own (cI)) fun i1 G2=>wv (gF T G2 bu a0) fun v3=>wv (aw T .gtr au v3 (.int .i64 49)) fun v4=>brB (some v4)
 (wv (bk T aj []) fun v5=>wg (ax T G2 aj (.ptr i1 [] 0) v5) fun G6=>wv (lq T G6 aj (.ptr i1 [] 0)) fun v7=>Q (.tuple [v7,.int .i64 1]) G6)
 (let J52:ag -> ah -> Prop:=(fun x11 G10=>brB (some x11)
 (wv (bk T aj []) fun v12=>wg (ax T G10 aj (.ptr i1 [] 0) v12) fun G13=>wv (lq T G13 aj (.ptr i1 [] 0)) fun v14=>Q (.tuple [v14,.int .i64 90]) G13)
 (wv (gF T G10 bu a0) fun v15=>∀ R16:List ag -> ah -> Prop,
 (∀ (x18 x19 x20 x21 x22:ag) (G17:ah),(wv (aw T .lss au x22 x21) fun v23=>brB (some v23)
 (wv (aL T bu x18 x22) fun v24=>wv (bx T ff v24 2) fun v25=>wv (lq T G17 ey v25) fun v26=>wv (vun .not v26) fun v27=>brB (some v27)
 (wv (aw T .add au x22 (.int .i64 1)) fun v47=>R16 [x18,x19,x20,x21,v47] G17)
 (wv (aL T bu x18 x22) fun v28=>wv (bx T ff v28 1) fun v29=>wv (lq T G17 aj v29) fun v30=>wv (aL T bu x18 x22) fun v31=>wv (bx T ff v31 0) fun v32=>wv (lq T G17 me v32) fun v33=>al P gM.n [v30,v33,x19] G17 fun v34 G35=>wv (aW v34 0) fun v36=>wv (aW v34 1) fun v37=>br G35 (.own (cI)) fun i38 G39=>wg (ax T G39 aj (.ptr i38 [] 0) v36) fun G40=>wv (aw T .eql bq v37 (.int .i64 0)) fun v41=>brB (some v41)
 (wv (lq T G40 aj (.ptr i38 [] 0)) fun v42=>wg (ax T G40 aj x20 v42) fun G43=>wv (lq T G43 aj x20) fun v44=>Q (.tuple [v44,.int .i64 0]) G43)
 (wv (aw T .add au x22 (.int .i64 1)) fun v48=>R16 [x18,x19,x20,x21,v48] G40)))
 (wv (bk T aj []) fun v49=>wg (ax T G17 aj x20 v49) fun G50=>wv (lq T G50 aj x20) fun v51=>Q (.tuple [v51,.int .i64 5]) G50)) -> R16 [x18,x19,x20,x21,x22] G17) ->
 R16 [a0,a1,.ptr i1 [] 0,v15,.int .i64 0] G10));
 wv (aw T .lss me a1 (.int .i64 0)) fun v8=>brB (some v8)
 (J52 (.bool true) G2)
 (wv (aw T .gtr me a1 (.int .i64 281474976710655)) fun v9=>J52 v9 G2))
def iV.an:Ann:=.two (.nil) (.two (.nil) (.two (.nil) (.two (.two (.nil) (.loop [0,1,4,21,22] [false,false,false,false,false] (.two (.nil) (.two (.nil) (.two (.two (.nil) (.two (.nil) (.two (.ord [(0,[]),(1,[]),(2,[]),(3,[]),(4,[]),(5,[]),(6,[]),(7,[]),(8,[]),(9,[]),(10,[]),(11,[]),(12,[]),(13,[]),(14,[]),(15,[]),(16,[]),(17,[])]) (.nil)))) (.nil)))))) (.nil))))
theorem iV.sound {a0 a1:ag} {G:ah} {Q:ag -> ah -> Prop} (h:iV.S a0 a1 G Q):al P iV.n [a0,a1] G Q:=by
 have e:iV.S a0 a1 G Q = awp cx (iV.body) iV.an (bK T [.cell 4 23,.tmp 5] Q) (dN [a0,a1]) G:=by kernel_rfl
 refine ay dO (f:=iV.n) (fn:=Tryz.f43) (c:=iV.body) (an:=iV.an) Tryz.func43 ?_ ?_ ?_ (aF ?_ ?_) (by simp [Tryz.f43]) (e ▸ h) <;> kernel_rfl
def gz.S (a0 a1:ag) (G:ah) (Q:ag -> ah -> Prop):Prop :=
 br G (.own (a0)) fun i1 G2=>br G2 (.own (a1)) fun i3 G4=>br G4 (.own (gE)) fun i5 G6=>wv (lq T G6 me (.ptr i3 [6] 6)) fun v7=>wv (aw T .add me v7 (.int .i64 1)) fun v8=>wv (lq T G6 me (.ptr i3 [8] 8)) fun v9=>wv (bk T aG [(0,.int .i64 6),(3,v8),(4,v9)]) fun v10=>br G6 (.own (gE)) fun i11 G12=>wg (ax T G12 aG (.ptr i11 [] 0) v10) fun G13=>wv (lq T G13 me (.ptr i3 [8] 8)) fun v14=>wv (aw T .gtr me v14 (.int .i64 0)) fun v15=>brB (some v15)
 (wv (lq T G13 bu (.ptr i3 [15] 112)) fun v16=>wv (lq T G13 me (.ptr i3 [8] 8)) fun v17=>wv (aw T .sub me v17 (.int .i64 1)) fun v18=>al P iV.n [v16,v18] G13 fun v19 G20=>wv (aW v19 0) fun v21=>wv (aW v19 1) fun v22=>wg (ax T G20 aj (.ptr i11 [6] 37) v21) fun G23=>wv (lq T G23 aG (.ptr i11 [] 0)) fun v28=>wg (ax T G23 aG (.ptr i5 [] 0) v28) fun G29=>wv (lq T G29 aG (.ptr i5 [] 0)) fun v30=>Q v30 G29)
 (wv (lq T G13 aG (.ptr i11 [] 0)) fun v31=>wg (ax T G13 aG (.ptr i5 [] 0) v31) fun G32=>wv (lq T G32 aG (.ptr i5 [] 0)) fun v33=>Q v33 G32)
def gz.an:Ann:=.nil
theorem gz.sound {a0 a1:ag} {G:ah} {Q:ag -> ah -> Prop} (h:gz.S a0 a1 G Q):al P gz.n [a0,a1] G Q:=by
 have e:gz.S a0 a1 G Q = awp cx (gz.body) gz.an (bK T [.cell 4 48] Q) (dN [a0,a1]) G:=by kernel_rfl
 refine ay dO (f:=gz.n) (fn:=Tryz.f13) (c:=gz.body) (an:=gz.an) Tryz.func13 ?_ ?_ ?_ (aF ?_ ?_) (by simp [Tryz.f13]) (e ▸ h) <;> kernel_rfl
def cw.S (a0:ag) (G:ah) (Q:ag -> ah -> Prop):Prop :=
 wv (aw T .geq me a0 (.int .i64 0)) fun v1=>brB (some v1)
 (wv (aw T .leq me a0 (.int .i64 281474976710655)) fun v2=>Q v2 G)
 (Q (.bool false) G)
def cw.an:Ann:=.nil
theorem cw.sound {a0:ag} {G:ah} {Q:ag -> ah -> Prop} (h:cw.S a0 G Q):al P cw.n [a0] G Q:=by
 have e:cw.S a0 G Q = awp cx (cw.body) cw.an (bK T [.tmp 2] Q) (dN [a0]) G:=by kernel_rfl
 refine ay dO (f:=cw.n) (fn:=Tryz.f54) (c:=cw.body) (an:=cw.an) Tryz.func54 ?_ ?_ ?_ (aF ?_ ?_) (by simp [Tryz.f54]) (e ▸ h) <;> kernel_rfl
def dw.S (a0:ag) (G:ah) (Q:ag -> ah -> Prop):Prop :=
 cc T G aP bH (.nilSlice) a0 fun v1 G2=>bh T aP 1 [(0,.int .u8 128)] G2 fun v3 G4=>cc T G4 aP aP v1 v3 fun v5 G6=>∀ R7:List ag -> ah -> Prop,
 (∀ (x9 x10:ag) (G8:ah),(wv (gF T G8 aP x10) fun v11=>wv (aw T .rem au v11 (.int .i64 64)) fun v12=>wv (aw T .neq au v12 (.int .i64 56)) fun v13=>brB (some v13)
 (bh T aP 1 [(0,.int .u8 0)] G8 fun v14 G15=>cc T G15 aP aP x10 v14 fun v16 G17=>R7 [x9,v16] G17)
 (∀ R18:List ag -> ah -> Prop,
 (∀ (x20 x21 x22:ag) (G19:ah),(wv (aw T .geq au x22 (.int .i64 0)) fun v23=>brB (some v23)
 (wv (gF T G19 bH x20) fun v24=>wv (aw T .mul au (.int .i64 8) v24) fun v25=>wv (aw T .mul au (.int .i64 8) x22) fun v26=>wv (aw T .shr au v25 v26) fun v27=>wv (gi T G19 au cg v27) fun v28=>bh T aP 1 [(0,v28)] G19 fun v29 G30=>cc T G30 aP aP x21 v29 fun v31 G32=>wv (aw T .sub au x22 (.int .i64 1)) fun v33=>R18 [x20,v31,v33] G32)
 (Q x21 G19)) -> R18 [x20,x21,x22] G19) ->
 R18 [x9,x10,.int .i64 7] G8)) -> R7 [x9,x10] G8) ->
 R7 [a0,v5] G6
def dw.an:Ann:=.two (.nil) (.two (.nil) (.two (.nil) (.two (.nil) (.two (.loop [0,3] [false,false] (.nil)) (.two (.two (.nil) (.loop [0,3,4] [false,false,false] (.nil))) (.nil))))))
theorem dw.sound {a0:ag} {G:ah} {Q:ag -> ah -> Prop} (h:dw.S a0 G Q):al P dw.n [a0] G Q:=by
 have e:dw.S a0 G Q = awp cx (dw.body) dw.an (bK T [.tmp 2] Q) (dN [a0]) G:=by kernel_rfl
 refine ay dO (f:=dw.n) (fn:=Tryz.f83) (c:=dw.body) (an:=dw.an) Tryz.func83 ?_ ?_ ?_ (aF ?_ ?_) (by simp [Tryz.f83]) (e ▸ h) <;> kernel_rfl
def dv.S (G:ah) (Q:ag -> ah -> Prop):Prop :=
 br G (.own (gK)) fun i1 G2=>wv (bk T bT [(0,.int .u32 1116352408),(1,.int .u32 1899447441),(2,.int .u32 3049323471),(3,.int .u32 3921009573),(4,.int .u32 961987163),(5,.int .u32 1508970993),(6,.int .u32 2453635748),(7,.int .u32 2870763221),(8,.int .u32 3624381080),(9,.int .u32 310598401),(10,.int .u32 607225278),(11,.int .u32 1426881987),(12,.int .u32 1925078388),(13,.int .u32 2162078206),(14,.int .u32 2614888103),(15,.int .u32 3248222580),(16,.int .u32 3835390401),(17,.int .u32 4022224774),(18,.int .u32 264347078),(19,.int .u32 604807628),(20,.int .u32 770255983),(21,.int .u32 1249150122),(22,.int .u32 1555081692),(23,.int .u32 1996064986),(24,.int .u32 2554220882),(25,.int .u32 2821834349),(26,.int .u32 2952996808),(27,.int .u32 3210313671),(28,.int .u32 3336571891),(29,.int .u32 3584528711),(30,.int .u32 113926993),(31,.int .u32 338241895),(32,.int .u32 666307205),(33,.int .u32 773529912),(34,.int .u32 1294757372),(35,.int .u32 1396182291),(36,.int .u32 1695183700),(37,.int .u32 1986661051),(38,.int .u32 2177026350),(39,.int .u32 2456956037),(40,.int .u32 2730485921),(41,.int .u32 2820302411),(42,.int .u32 3259730800),(43,.int .u32 3345764771),(44,.int .u32 3516065817),(45,.int .u32 3600352804),(46,.int .u32 4094571909),(47,.int .u32 275423344),(48,.int .u32 430227734),(49,.int .u32 506948616),(50,.int .u32 659060556),(51,.int .u32 883997877),(52,.int .u32 958139571),(53,.int .u32 1322822218),(54,.int .u32 1537002063),(55,.int .u32 1747873779),(56,.int .u32 1955562222),(57,.int .u32 2024104815),(58,.int .u32 2227730452),(59,.int .u32 2361852424),(60,.int .u32 2428436474),(61,.int .u32 2756734187),(62,.int .u32 3204031479),(63,.int .u32 3329325298)]) fun v3=>wg (ax T G2 bT (.ptr i1 [] 0) v3) fun G4=>wv (lq T G4 bT (.ptr i1 [] 0)) fun v5=>Q v5 G4
def dv.an:Ann:=.nil
theorem dv.sound {G:ah} {Q:ag -> ah -> Prop} (h:dv.S G Q):al P dv.n [] G Q:=by
 have e:dv.S G Q = awp cx (dv.body) dv.an (bK T [.cell 0 136] Q) (dN []) G:=by kernel_rfl
 refine ay dO (f:=dv.n) (fn:=Tryz.f146) (c:=dv.body) (an:=dv.an) Tryz.func146 ?_ ?_ ?_ (aF ?_ ?_) (by simp [Tryz.f146]) (e ▸ h) <;> kernel_rfl
def bF.S (a0 a1:ag) (G:ah) (Q:ag -> ah -> Prop):Prop :=
 wv (aw T .shr az a0 a1) fun v1=>wv (aw T .sub au (.int .i64 32) a1) fun v2=>wv (aw T .shl az a0 v2) fun v3=>wv (aw T .or az v1 v3) fun v4=>Q v4 G
def bF.an:Ann:=.two (.nil) (.two (.ord [(0,[]),(1,[]),(2,[]),(3,[]),(4,[]),(5,[]),(6,[]),(7,[]),(8,[])]) (.nil))
theorem bF.sound {a0 a1:ag} {G:ah} {Q:ag -> ah -> Prop} (h:bF.S a0 a1 G Q):al P bF.n [a0,a1] G Q:=by
 have e:bF.S a0 a1 G Q = awp cx (bF.body) bF.an (bK T [.tmp 4] Q) (dN [a0,a1]) G:=by kernel_rfl
 refine ay dO (f:=bF.n) (fn:=Tryz.f147) (c:=bF.body) (an:=bF.an) Tryz.func147 ?_ ?_ ?_ (aF ?_ ?_) (by simp [Tryz.f147]) (e ▸ h) <;> kernel_rfl
def dZ.S (a0 a1 a2:ag) (G:ah) (Q:ag -> ah -> Prop):Prop :=
 br G (.own (a0)) fun i1 G2=>br G2 (.own (kF)) fun i3 G4=>al P dv.n [] G4 fun v5 G6=>br G6 (.own (gK)) fun i7 G8=>wg (ax T G8 bT (.ptr i7 [] 0) v5) fun G9=>br G9 (.own (gK)) fun i10 G11=>∀ R12:List ag -> ah -> Prop,
 (∀ (x14 x15 x16 x17 x18 x19 x20:ag) (G13:ah),(wv (aw T .lss au x20 (.int .i64 16)) fun v21=>brB (some v21)
 (wv (aw T .mul au (.int .i64 4) x20) fun v22=>wv (aw T .add au x15 v22) fun v23=>wv (aL T aP x14 v23) fun v24=>wv (lq T G13 cg v24) fun v25=>wv (gi T G13 cg az v25) fun v26=>wv (aw T .shl az v26 (.int .u64 24)) fun v27=>wv (aw T .add au v23 (.int .i64 1)) fun v28=>wv (aL T aP x14 v28) fun v29=>wv (lq T G13 cg v29) fun v30=>wv (gi T G13 cg az v30) fun v31=>wv (aw T .shl az v31 (.int .u64 16)) fun v32=>wv (aw T .or az v27 v32) fun v33=>wv (aw T .add au v23 (.int .i64 2)) fun v34=>wv (aL T aP x14 v34) fun v35=>wv (lq T G13 cg v35) fun v36=>wv (gi T G13 cg az v36) fun v37=>wv (aw T .shl az v37 (.int .u64 8)) fun v38=>wv (aw T .or az v33 v38) fun v39=>wv (aw T .add au v23 (.int .i64 3)) fun v40=>wv (aL T aP x14 v40) fun v41=>wv (lq T G13 cg v41) fun v42=>wv (gi T G13 cg az v42) fun v43=>wv (aw T .or az v39 v43) fun v44=>wv (aL T bT x19 x20) fun v45=>wg (ax T G13 az v45 v44) fun G46=>wv (aw T .add au x20 (.int .i64 1)) fun v47=>R12 [x14,x15,x16,x17,x18,x19,v47] G46)
 (∀ R48:List ag -> ah -> Prop,
 (∀ (x50 x51 x52 x53 x54:ag) (G49:ah),(wv (aw T .lss au x54 (.int .i64 64)) fun v55=>brB (some v55)
 (wv (aw T .sub au x54 (.int .i64 15)) fun v56=>wv (aL T bT x53 v56) fun v57=>wv (lq T G49 az v57) fun v58=>wv (aw T .sub au x54 (.int .i64 2)) fun v59=>wv (aL T bT x53 v59) fun v60=>wv (lq T G49 az v60) fun v61=>wv (aw T .sub au x54 (.int .i64 16)) fun v62=>wv (aL T bT x53 v62) fun v63=>wv (lq T G49 az v63) fun v64=>wv (aw T .shr az v58 (.int .u64 3)) fun v65=>wv (aw T .sub au x54 (.int .i64 7)) fun v66=>wv (aL T bT x53 v66) fun v67=>wv (lq T G49 az v67) fun v68=>wv (aw T .shr az v61 (.int .u64 10)) fun v69=>al P bF.n [v58,.int .i64 7] G49 fun v70 G71=>(lq T G71 az v67 = some v68 /\ lq T G71 az v63 = some v64 /\ True) /\ (al P bF.n [v58,.int .i64 18] G71 fun v72 G73=>(lq T G73 az v67 = some v68 /\ lq T G73 az v63 = some v64 /\ True) /\ (wv (aw T .xor az v70 v72) fun v74=>wv (aw T .xor az v74 v65) fun v75=>wv (aw T .add az v64 v75) fun v76=>wv (aw T .add az v76 v68) fun v77=>al P bF.n [v61,.int .i64 17] G73 fun v78 G79=>(lq T G79 az v67 = some v68 /\ lq T G79 az v63 = some v64 /\ True) /\ (al P bF.n [v61,.int .i64 19] G79 fun v80 G81=>(lq T G81 az v67 = some v68 /\ lq T G81 az v63 = some v64 /\ True) /\ (wv (aw T .xor az v78 v80) fun v82=>wv (aw T .xor az v82 v69) fun v83=>wv (aw T .add az v77 v83) fun v84=>wv (aL T bT x53 x54) fun v85=>wg (ax T G81 az v85 v84) fun G86=>wv (aw T .add au x54 (.int .i64 1)) fun v87=>R48 [x50,x51,x52,x53,v87] G86)))))
 (wv (lq T G49 bg x50) fun v88=>br G49 (.own (kF)) fun i89 G90=>wg (ax T G90 bg (.ptr i89 [] 0) v88) fun G91=>∀ R92:List ag -> ah -> Prop,
 (∀ (x94 x95 x96 x97 x98 x99:ag) (G93:ah),(wv (aw T .lss au x99 (.int .i64 64)) fun v100=>brB (some v100)
 (wv (aL T bg x98 (.int .i64 0)) fun v101=>wv (lq T G93 az v101) fun v102=>wv (aL T bg x98 (.int .i64 4)) fun v103=>wv (lq T G93 az v103) fun v104=>wv (aL T bg x98 (.int .i64 7)) fun v105=>wv (lq T G93 az v105) fun v106=>wv (aL T bg x98 (.int .i64 5)) fun v107=>wv (lq T G93 az v107) fun v108=>wv (aw T .and az v104 v108) fun v109=>wv (vun .xor v104) fun v110=>wv (aL T bg x98 (.int .i64 6)) fun v111=>wv (lq T G93 az v111) fun v112=>wv (aw T .and az v110 v112) fun v113=>wv (aw T .xor az v109 v113) fun v114=>wv (aL T bT x96 x99) fun v115=>wv (lq T G93 az v115) fun v116=>wv (aL T bT x97 x99) fun v117=>wv (lq T G93 az v117) fun v118=>al P bF.n [v104,.int .i64 6] G93 fun v119 G120=>(lq T G120 az v117 = some v118 /\ lq T G120 az v115 = some v116 /\ lq T G120 az v111 = some v112 /\ lq T G120 az v107 = some v108 /\ lq T G120 az v105 = some v106 /\ True) /\ (al P bF.n [v104,.int .i64 11] G120 fun v121 G122=>(lq T G122 az v117 = some v118 /\ lq T G122 az v115 = some v116 /\ lq T G122 az v111 = some v112 /\ lq T G122 az v107 = some v108 /\ lq T G122 az v105 = some v106 /\ True) /\ (wv (aw T .xor az v119 v121) fun v123=>al P bF.n [v104,.int .i64 25] G122 fun v124 G125=>(lq T G125 az v117 = some v118 /\ lq T G125 az v115 = some v116 /\ lq T G125 az v111 = some v112 /\ lq T G125 az v107 = some v108 /\ lq T G125 az v105 = some v106 /\ True) /\ (wv (aw T .xor az v123 v124) fun v126=>wv (aw T .add az v106 v126) fun v127=>wv (aw T .add az v127 v114) fun v128=>wv (aw T .add az v128 v116) fun v129=>wv (aw T .add az v129 v118) fun v130=>wv (aL T bg x98 (.int .i64 1)) fun v131=>wv (lq T G125 az v131) fun v132=>wv (aw T .and az v102 v132) fun v133=>wv (aL T bg x98 (.int .i64 2)) fun v134=>wv (lq T G125 az v134) fun v135=>wv (aw T .and az v102 v135) fun v136=>wv (aw T .xor az v133 v136) fun v137=>wv (aL T bg x98 (.int .i64 1)) fun v138=>wv (lq T G125 az v138) fun v139=>wv (aL T bg x98 (.int .i64 2)) fun v140=>wv (lq T G125 az v140) fun v141=>wv (aw T .and az v139 v141) fun v142=>wv (aw T .xor az v137 v142) fun v143=>al P bF.n [v102,.int .i64 2] G125 fun v144 G145=>(lq T G145 az v140 = some v141 /\ lq T G145 az v138 = some v139 /\ lq T G145 az v134 = some v135 /\ lq T G145 az v131 = some v132 /\ True) /\ (al P bF.n [v102,.int .i64 13] G145 fun v146 G147=>(lq T G147 az v140 = some v141 /\ lq T G147 az v138 = some v139 /\ lq T G147 az v134 = some v135 /\ lq T G147 az v131 = some v132 /\ True) /\ (wv (aw T .xor az v144 v146) fun v148=>al P bF.n [v102,.int .i64 22] G147 fun v149 G150=>(lq T G150 az v140 = some v141 /\ lq T G150 az v138 = some v139 /\ lq T G150 az v134 = some v135 /\ lq T G150 az v131 = some v132 /\ True) /\ (wv (aw T .xor az v148 v149) fun v151=>wv (aw T .add az v151 v143) fun v152=>wv (aw T .add az v130 v152) fun v153=>wv (aL T bg x98 (.int .i64 0)) fun v154=>wv (lq T G150 az v154) fun v155=>wv (aL T bg x98 (.int .i64 1)) fun v156=>wv (lq T G150 az v156) fun v157=>wv (aL T bg x98 (.int .i64 2)) fun v158=>wv (lq T G150 az v158) fun v159=>wv (aL T bg x98 (.int .i64 3)) fun v160=>wv (lq T G150 az v160) fun v161=>wv (aw T .add az v161 v130) fun v162=>wv (aL T bg x98 (.int .i64 4)) fun v163=>wv (lq T G150 az v163) fun v164=>wv (aL T bg x98 (.int .i64 5)) fun v165=>wv (lq T G150 az v165) fun v166=>wv (aL T bg x98 (.int .i64 6)) fun v167=>wv (lq T G150 az v167) fun v168=>wv (bk T bg [(0,v153),(1,v155),(2,v157),(3,v159),(4,v162),(5,v164),(6,v166),(7,v168)]) fun v169=>wg (ax T G150 bg x98 v169) fun G170=>wv (aw T .add au x99 (.int .i64 1)) fun v171=>R92 [x94,x95,x96,x97,x98,v171] G170)))))))
 (∀ R172:List ag -> ah -> Prop,
 (∀ (x174 x175 x176 x177:ag) (G173:ah),(wv (aw T .lss au x177 (.int .i64 8)) fun v178=>brB (some v178)
 (wv (aL T bg x176 x177) fun v179=>wv (lq T G173 az v179) fun v180=>wv (aL T bg x174 x177) fun v181=>wv (lq T G173 az v181) fun v182=>wv (aw T .add az v180 v182) fun v183=>wv (aL T bg x176 x177) fun v184=>wg (ax T G173 az v184 v183) fun G185=>wv (aw T .add au x177 (.int .i64 1)) fun v186=>R172 [x174,x175,x176,v186] G185)
 (wv (lq T G173 bg x176) fun v187=>wg (ax T G173 bg x175 v187) fun G188=>wv (lq T G188 bg x175) fun v189=>Q v189 G188)) -> R172 [x174,x175,x176,x177] G173) ->
 R172 [x94,x95,x98,.int .i64 0] G93)) -> R92 [x94,x95,x96,x97,x98,x99] G93) ->
 R92 [x50,x51,x52,x53,.ptr i89 [] 0,.int .i64 0] G91)) -> R48 [x50,x51,x52,x53,x54] G49) ->
 R48 [x16,x17,x18,x19,.int .i64 16] G13)) -> R12 [x14,x15,x16,x17,x18,x19,x20] G13) ->
 R12 [a1,a2,.ptr i1 [] 0,.ptr i3 [] 0,.ptr i7 [] 0,.ptr i10 [] 0,.int .i64 0] G11
def dZ.an:Ann:=.two (.nil) (.two (.nil) (.two (.nil) (.two (.two (.nil) (.loop [1,2,3,6,7,8,9] [false,false,false,false,false,false,false] (.two (.nil) (.two (.two (.nil) (.ord [(0,[]),(1,[]),(2,[]),(3,[]),(4,[]),(5,[]),(6,[]),(7,[]),(8,[]),(9,[]),(10,[]),(11,[]),(12,[]),(13,[]),(14,[]),(15,[]),(16,[]),(17,[]),(18,[]),(19,[]),(20,[]),(21,[]),(22,[]),(23,[]),(24,[]),(25,[]),(26,[]),(27,[]),(28,[]),(29,[]),(30,[]),(31,[])])) (.nil))))) (.two (.two (.nil) (.loop [3,6,7,8,11] [false,false,false,false,false] (.two (.nil) (.two (.two (.nil) (.two (.nil) (.ord [(0,[]),(1,[]),(2,[]),(3,[]),(4,[]),(5,[]),(7,[]),(10,[]),(11,[]),(14,[]),(15,[]),(16,[]),(17,[]),(19,[]),(21,[]),(24,[]),(25,[]),(6,[4,17]),(8,[4,17]),(9,[]),(12,[]),(13,[]),(18,[]),(20,[4,17]),(22,[4,17]),(23,[]),(26,[]),(27,[]),(28,[]),(29,[])]))) (.nil))))) (.two (.nil) (.two (.two (.nil) (.loop [3,6,7,8,14,15] [false,false,false,false,false,false] (.two (.nil) (.two (.two (.nil) (.two (.nil) (.two (.ord [(0,[]),(1,[]),(2,[]),(4,[]),(7,[]),(11,[]),(12,[]),(13,[]),(14,[]),(15,[]),(16,[]),(17,[]),(18,[]),(19,[]),(20,[]),(22,[]),(23,[]),(24,[]),(26,[]),(27,[]),(28,[]),(3,[1,13,18,24,28]),(5,[1,13,18,24,28]),(6,[]),(8,[1,13,18,24,28]),(9,[]),(10,[]),(21,[]),(25,[]),(29,[]),(30,[])]) (.two (.ord [(0,[]),(2,[]),(5,[]),(8,[]),(9,[]),(10,[]),(11,[]),(12,[]),(13,[]),(14,[]),(15,[]),(16,[]),(17,[]),(18,[]),(19,[]),(20,[]),(21,[]),(22,[]),(1,[10,14,18,20]),(3,[10,14,18,20]),(4,[]),(6,[10,14,18,20]),(7,[]),(23,[]),(24,[])]) (.nil))))) (.nil))))) (.two (.two (.nil) (.loop [3,6,14,20] [false,false,false,false] (.two (.nil) (.two (.ord [(0,[]),(1,[]),(2,[]),(3,[]),(4,[]),(5,[]),(6,[]),(7,[]),(8,[]),(9,[])]) (.nil))))) (.nil))))))))
theorem dZ.sound {a0 a1 a2:ag} {G:ah} {Q:ag -> ah -> Prop} (h:dZ.S a0 a1 a2 G Q):al P dZ.n [a0,a1,a2] G Q:=by
 have e:dZ.S a0 a1 a2 G Q = awp cx (dZ.body) dZ.an (bK T [.cell 6 135] Q) (dN [a0,a1,a2]) G:=by kernel_rfl
 refine ay dO (f:=dZ.n) (fn:=Tryz.f84) (c:=dZ.body) (an:=dZ.an) Tryz.func84 ?_ ?_ ?_ (aF ?_ ?_) (by simp [Tryz.f84]) (e ▸ h) <;> kernel_rfl
def cK.S (a0:ag) (G:ah) (Q:ag -> ah -> Prop):Prop :=
 br G (.own (cI)) fun i1 G2=>al P dw.n [a0] G2 fun v3 G4=>wv (bk T bg [(0,.int .u32 1779033703),(1,.int .u32 3144134277),(2,.int .u32 1013904242),(3,.int .u32 2773480762),(4,.int .u32 1359893119),(5,.int .u32 2600822924),(6,.int .u32 528734635),(7,.int .u32 1541459225)]) fun v5=>br G4 (.own (kF)) fun i6 G7=>wg (ax T G7 bg (.ptr i6 [] 0) v5) fun G8=>∀ R9:List ag -> ah -> Prop,
 (∀ (x11 x12 x13 x14:ag) (G10:ah),(wv (gF T G10 aP x12) fun v15=>wv (aw T .lss au x14 v15) fun v16=>brB (some v16)
 (wv (lq T G10 bg x13) fun v17=>al P dZ.n [v17,x12,x14] G10 fun v18 G19=>wg (ax T G19 bg x13 v18) fun G20=>wv (aw T .add au x14 (.int .i64 64)) fun v21=>R9 [x11,x12,x13,v21] G20)
 (br G10 (.own (cI)) fun i22 G23=>∀ R24:List ag -> ah -> Prop,
 (∀ (x26 x27 x28 x29:ag) (G25:ah),(wv (aw T .lss au x29 (.int .i64 32)) fun v30=>brB (some v30)
 (wv (aw T .quo au x29 (.int .i64 4)) fun v31=>wv (aL T bg x27 v31) fun v32=>wv (lq T G25 az v32) fun v33=>wv (aw T .rem au x29 (.int .i64 4)) fun v34=>wv (aw T .mul au (.int .i64 8) v34) fun v35=>wv (aw T .sub au (.int .i64 24) v35) fun v36=>wv (aw T .shr az v33 v36) fun v37=>wv (gi T G25 az cg v37) fun v38=>wv (aL T aj x28 x29) fun v39=>wg (ax T G25 cg v39 v38) fun G40=>wv (aw T .add au x29 (.int .i64 1)) fun v41=>R24 [x26,x27,x28,v41] G40)
 (wv (lq T G25 aj x28) fun v42=>wg (ax T G25 aj x26 v42) fun G43=>wv (lq T G43 aj x26) fun v44=>Q v44 G43)) -> R24 [x26,x27,x28,x29] G25) ->
 R24 [x11,x13,.ptr i22 [] 0,.int .i64 0] G23)) -> R9 [x11,x12,x13,x14] G10) ->
 R9 [.ptr i1 [] 0,v3,.ptr i6 [] 0,.int .i64 0] G8
def cK.an:Ann:=.two (.nil) (.two (.nil) (.two (.nil) (.two (.two (.nil) (.loop [2,3,4,5] [false,false,false,false] (.nil))) (.two (.nil) (.two (.two (.nil) (.loop [2,4,6,7] [false,false,false,false] (.nil))) (.nil))))))
theorem cK.sound {a0:ag} {G:ah} {Q:ag -> ah -> Prop} (h:cK.S a0 G Q):al P cK.n [a0] G Q:=by
 have e:cK.S a0 G Q = awp cx (cK.body) cK.an (bK T [.cell 2 23] Q) (dN [a0]) G:=by kernel_rfl
 refine ay dO (f:=cK.n) (fn:=Tryz.f35) (c:=cK.body) (an:=cK.an) Tryz.func35 ?_ ?_ ?_ (aF ?_ ?_) (by simp [Tryz.f35]) (e ▸ h) <;> kernel_rfl
end Go.Esc.M
