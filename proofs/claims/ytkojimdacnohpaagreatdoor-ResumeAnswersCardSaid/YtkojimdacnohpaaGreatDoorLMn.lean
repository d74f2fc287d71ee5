import Derived.Test.YtkojimdacnohpaaGreatDoorLFv
import Derived.Test.YtkojimdacnohpaaGreatDoorLFb
set_option maxHeartbeats 8000000
set_option linter.unusedSimpArgs false
set_option linter.unusedVariables false
set_option maxRecDepth 20000
namespace Go.Esc.M
open Go Go.Esc
theorem ur (t:Int):t / 1152921504606846976 < 0 ↔ t < 0:=by omega
theorem uC {f:aK -> Bool} {l:List aK} (hv:∀ u ∈ l,dC u = true) (hf:∀ u,f u = true -> u.kind = 1) (hlen:l.length ≤ 1048576):0 ≤ gm f l /\ gm f l ≤ 1208925819614629174706176:=by
 have:=qU (f:=f) (l:=l) fun u hu h=>by
  have h1:=(kO (hv u hu)).2.2
  have h2:=hf u h
  constructor <;> omega
 omega
theorem Fl {r:List aK} (u:aK) (h:stays r u = true):u.kind = 1:=by simp [stays] at h; exact h.1
theorem H4 {r:List aK} (u:aK) (h:jF r u = true):u.kind = 1:=by simp [jF] at h; exact h.1
section
variable {F0:List AId} {G0 G:ah} {ps:List LP} {Q:ag -> ah -> Prop}
theorem cm.use {a:Int} (hQ:Q (.bool (decide (amt a))) G):al P cm.n [.int .i64 a] G Q:=by
 refine cm.sound ?_
 unfold cm.S
 rw [gq,aa,aE]
 refine ⟨fun h=>?_,fun h=>?_⟩
 ·rw [jl,aa]
  have e:decide (amt a) = decide (a ≤ 1152921504606846976):=decide_eq_decide.2 ⟨fun hh=>hh.2,fun hh=>⟨h,hh⟩⟩
  rw [e] at hQ
  exact hQ
 ·have e:decide (amt a) = false:=decide_eq_false fun hh=>h hh.1
  rw [e] at hQ
  exact hQ
theorem dI.use {v w:ag} {bo bp co cp:Int} {ours jA:List aK} (hl:iu 36 G v (ours.map aK.av)) (hp:iu 36 G w (jA.map aK.av)) (hok:∀ u ∈ ours,u.ok) (hok2:∀ u ∈ jA,u.ok) (hlen:ours.length ≤ 1048576) (hlen2:jA.length ≤ 1048576)
  (hQ:∀ x G',Sp [] G [bj 35 x ((k8 bo bp ours jA co cp).l.map ba.av)] G' -> Q (.tuple [gn (k8 bo bp ours jA co cp).o (k8 bo bp ours jA co cp).q x,.int .i64 (k8 bo bp ours jA co cp).e]) G') :
  al P dI.n [.int .i64 bo,.int .i64 bp,v,w,bR co cp] G Q:=by
 refine dI.sound ?_
 unfold dI.S
 rw [Jh,xK]
 obtain ⟨F,hF⟩:∃ F,F = k8 bo bp ours jA co cp:=⟨_,rfl⟩
 rw [<- hF] at hQ
 intro i1 f1
 have s1:=(Sp.nil G).row f1 (bR co cp)
 intro i3 f3
 have s3:=s1.row f3 (gn 0 0 .nilSlice)
 revert s3
 generalize ah.upd _ i3 _ = G4
 intro s3 J93
 have no:∀ (e:Int) (G2:ah) (j:Nat) (ps:List LP),Sp [] G ps G2 -> ps[j]? = some (ar i3 (gn 0 0 .nilSlice)) -> F = .no e -> wv (bk T bc []) fun v17=>wg (ax T G2 bc (.ptr i3 [] 0) v17) fun G18=>wv (lq T G18 bc (.ptr i3 [] 0)) fun v19=>Q (.tuple [v19,.int .i64 e]) G18:=by
  intro e G2 j ps s hj he
  refine ae (v:=gn 0 0 .nilSlice) rfl ?_
  refine my (i:=j) s hj rfl qp fun G18 s18=>?_
  refine ae (ig (i:=j) s18 (by rw [List.getElem?_set_self (List.getElem?_eq_some_iff.1 hj).1]) qp).2.2.2 ?_
  have:=hQ .nilSlice G18
  rw [he] at this
  exact this (((Sp.nil G).tmp s18.ch).nd 35)
 have bad:¬ (inC co cp ours jA /\ amt bo /\ amt bp /\ amt (bo + bp)) -> J93 (.bool true) G4:=by
  intro h
  simp -zeta only [J93,aX]
  exact no 1 G4 0 _ s3 rfl (by rw [hF]; unfold k8; rw [if_neg h])
 have kA:inC co cp ours jA -> (amt bo /\ amt bp /\ amt (bo + bp)) -> J93 (.bool false) G4:=by
  intro hC hA
  simp -zeta only [J93,aM]
  have hFM:F = foldM bo bp (ours.take co.toNat) (jA.take cp.toNat):=by rw [hF]; unfold k8; rw [if_pos ⟨hC,hA⟩]
  obtain ⟨c1,c2,c3,c4⟩:=hC
  obtain ⟨l1,l2,_⟩:=kU (ar.own (i:=1) s3 rfl)
  refine ae l1 ?_
  obtain ⟨va,ea,ca⟩:=iu.take (ie:=dA) (k:=.i64) (m:=co.toNat) (x:=co) cn rfl fC hl (by omega) (by rw [List.length_map]; omega)
  refine ae ea ?_
  refine ae l2 ?_
  obtain ⟨vb,eb,cb⟩:=iu.take (ie:=dA) (k:=.i64) (m:=cp.toNat) (x:=cp) cn rfl fC hp (by omega) (by rw [List.length_map]; omega)
  refine ae eb ?_
  rw [<- List.map_take] at ca cb
  obtain ⟨A,hAd⟩:∃ A,A = ours.take co.toNat:=⟨_,rfl⟩
  obtain ⟨B,hBd⟩:∃ A,A = jA.take cp.toNat:=⟨_,rfl⟩
  rw [<- hAd] at ca hFM
  rw [<- hBd] at cb hFM
  have okA:∀ u ∈ A,u.ok:=by rw [hAd]; exact fun u hu=>hok u (List.mem_of_mem_take hu)
  have okB:∀ u ∈ B,u.ok:=by rw [hBd]; exact fun u hu=>hok2 u (List.mem_of_mem_take hu)
  have lA:A.length ≤ 1048576:=by rw [hAd,List.length_take]; omega
  have lB:B.length ≤ 1048576:=by rw [hBd,List.length_take]; omega
  have iA:fV 36 G va (A.map aK.av):=ca.jf
  have iB:fV 36 G vb (B.map aK.av):=cb.jf
  intro J92
  have s3:Sp [] G [ar i3 (gn 0 0 .nilSlice),ar i1 (bR co cp)] G4:=s3
  have bad2:∀ G2,Sp [] G [ar i3 (gn 0 0 .nilSlice),ar i1 (bR co cp)] G2 -> (lL A = false \/ lL B = false) -> J92 (.bool true) G2:=by
   intro G2 s2 h
   simp -zeta only [J92,aX]
   exact no 120 G2 0 _ s2 rfl (by rw [hFM,AG h])
  have good2:∀ G2,Sp [] G [ar i3 (gn 0 0 .nilSlice),ar i1 (bR co cp)] G2 -> ¬ (lL A = false \/ lL B = false) -> J92 (.bool false) G2:=by
   intro G2 s2 h
   have vA:lL A = true:=by
    cases hh:lL A with
    | true=>rfl
    | false=>exact absurd (.inl hh) h
   have vB:lL B = true:=by
    cases hh:lL B with
    | true=>rfl
    | false=>exact absurd (.inr hh) h
   have aA:=pb vA
   have aB:=pb vB
   have m1:=uC (f:=stays B) aA Fl lA
   have m2:=uC (f:=jF B) aA H4 lA
   have m3:=uC (f:=stays A) aB Fl lB
   have m4:=uC (f:=jF A) aB H4 lB
   obtain ⟨⟨ho1,ho2⟩,⟨hp1,hp2⟩,hs1,hs2⟩:=hA
   simp -zeta only [J92,aM]
   refine ae (v:=wdR 0) rfl ?_
   refine cU.use ⟨by decide,by decide⟩ ⟨ho1,ho2⟩ fun G47 c47=>?_
   have s47:=s2.tmp c47
   refine ae (v:=wdR 0) rfl ?_
   refine cU.use ⟨by decide,by decide⟩ ⟨hp1,hp2⟩ fun G50 c50=>?_
   have s50:=s47.tmp c50
   rw [Int.zero_add,Int.zero_add]
   refine dH.use (iA.ch' s50.ch) (iB.ch' s50.ch) okA okB aA lA lB ⟨by omega,by omega⟩ ⟨by omega,by omega⟩ fun w1 G52 t52=>?_
   obtain ⟨F52,o52,k52⟩:=t52.out
   have s52:=s50.new o52 k52
   refine ae (Jr _ _ _) ?_
   refine ae (Jq _ _ _) ?_
   refine ae (Jp _ _ _) ?_
   intro i56 f56
   have s57:=s52.row f56 (bR 0 0)
   intro i58 f58
   have s59:=s57.row f58 (bR 0 0)
   refine jk (i:=1) s59 rfl fun G60 s60=>?_
   refine jk (i:=0) s60 rfl fun G61 s61=>?_
   have s61:Sp [] G [ar i58 (wdR (bp + gm (jF B) A)),ar i56 (wdR (bo - gm (stays B) A)),bj 35 w1 ((jO (hJ true (opens B) A)).map ba.av),ar i3 (gn 0 0 .nilSlice),ar i1 (bR co cp)] G61:=s61
   refine ae (dD (ar.own (i:=0) s61 rfl) b8 rfl).2.2 ?_
   refine ae (dD (ar.own (i:=1) s61 rfl) b8 rfl).2.2 ?_
   refine dH.use (iB.ch' s61.ch) (iA.ch' s61.ch) okB okA aB lB lA ⟨by omega,by omega⟩ ⟨by omega,by omega⟩ fun w2 G65 t65=>?_
   obtain ⟨F65,o65,k65⟩:=t65.out
   have s65:=s61.new o65 k65
   refine ae (Jr _ _ _) ?_
   refine ae (Jq _ _ _) ?_
   refine ae (Jp _ _ _) ?_
   have eY:bp + gm (jF B) A - gm (stays A) B = mT bp A B:=rfl
   have eX:bo - gm (stays B) A + gm (jF A) B = ml bo A B:=rfl
   rw [eY,eX]
   obtain ⟨X,hX⟩:∃ X,X = ml bo A B:=⟨_,rfl⟩
   obtain ⟨Y,hY⟩:∃ Y,Y = mT bp A B:=⟨_,rfl⟩
   have hfl:=BS (bo:=bo) (bp:=bp) aA aB hs2
   have hlow:=AF (bo:=bo) (bp:=bp) h
   have hfine:=zg (bo:=bo) (bp:=bp) h
   have bX:small X:=by rw [hX]; unfold ml small; omega
   have bY:small Y:=by rw [hY]; unfold mT small; omega
   rw [<- hX,<- hY] at hfl hlow hfine ⊢
   refine jk (i:=1) s65 rfl fun G69 s69=>?_
   refine jk (i:=2) s69 rfl fun G70 s70=>?_
   have s70:Sp [] G [bj 35 w2 ((jO (hJ false (opens A) B)).map ba.av),ar i58 (wdR Y),ar i56 (wdR X),bj 35 w1 ((jO (hJ true (opens B) A)).map ba.av),ar i3 (gn 0 0 .nilSlice),ar i1 (bR co cp)] G70:=s70
   intro J91
   have low:(X < 0 \/ Y < 0) -> J91 (.bool true) G70:=by
    intro hh
    simp -zeta only [J91,aX]
    exact no 130 G70 4 _ s70 rfl (by rw [hFM,hlow hh])
   have fine:¬ (X < 0 \/ Y < 0) -> J91 (.bool false) G70:=by
    intro hh
    simp -zeta only [J91,aM]
    have cX:=(qL (t:=X) (by omega) (hfl.1 (by omega))).2
    have cY:=(qL (t:=Y) (by omega) (hfl.2 (by omega))).2
    refine ae (dD (ar.own (i:=2) s70 rfl) b8 rfl).2.2 ?_
    refine ae (dD (ar.own (i:=1) s70 rfl) b8 rfl).2.2 ?_
    refine eG.use bX fun G83 c83=>?_
    have s83:=s70.tmp c83
    refine ⟨⟨(dD (ar.own (i:=1) s83 rfl) b8 rfl).2.2,trivial⟩,?_⟩
    refine eG.use bY fun G85 c85=>?_
    have s85:=s83.tmp c85
    rw [cX,cY]
    have hlo:=vZ A B
    unfold nJ at hlo
    rw [List.length_append] at hlo
    refine AD (i:=3) s85 rfl (bj.own (i:=0) s85 rfl).is (rQ (qm okB)) (by omega) fun w3 G87 s87=>?_
    have s87:Sp [] G [bj 35 w2 ((jO (hJ false (opens A) B)).map ba.av),ar i58 (wdR Y),ar i56 (wdR X),bj 35 w3 ((nJ A B).map ba.av),ar i3 (gn 0 0 .nilSlice),ar i1 (bR co cp)] G87:=s87
    have lw3:=(bj.own (i:=3) s87 rfl).leaf
    refine ae (AQ lw3.1) ?_
    refine my (i:=4) s87 rfl rfl lw3 fun G89 s89=>?_
    refine ae (ig (i:=4) s89 rfl lw3).2.2.2 ?_
    have hF2:F = ⟨X,Y,nJ A B,0⟩:=by rw [hFM,hfine hh]
    rw [hF2] at hQ
    refine hQ w3 G89 ?_
    exact ((((s89.erase 0).erase 0).erase 0).erase 1).erase 1
   refine ae (dD (ar.own (i:=2) s70 rfl) b8 rfl).1 ?_
   rw [aH,aa]
   by_cases h1:X / 1152921504606846976 < 0
   ·rw [decide_eq_true h1,aX]
    exact low (.inl ((ur X).1 h1))
   ·rw [decide_eq_false h1,aM]
    refine ae (dD (ar.own (i:=1) s70 rfl) b8 rfl).1 ?_
    rw [aH,aa]
    by_cases h2:Y / 1152921504606846976 < 0
    ·rw [decide_eq_true h2]
     exact low (.inr ((ur Y).1 h2))
    ·rw [decide_eq_false h2]
     exact fine fun hh=>hh.elim (fun q=>h1 ((ur X).2 q)) (fun q=>h2 ((ur Y).2 q))
  refine db.use (iA.ch' s3.ch) okA lA fun G35 c35=>?_
  have s35:=s3.tmp c35
  rw [fN,aa]
  cases vA:lL A with
  | false=>exact bad2 _ s35 (.inl vA)
  | true=>
   rw [Bool.not_true,aM]
   refine db.use (iB.ch' s35.ch) okB lB fun G37 c37=>?_
   have s37:=s35.tmp c37
   rw [fN,aa]
   cases vB:lL B with
   | false=>exact bad2 _ s37 (.inr vB)
   | true=>exact good2 _ s37 (by rw [vA,vB]; simp)
 obtain ⟨l1,l2,_⟩:=kU (ar.own (i:=1) s3 rfl)
 refine ae l1 ?_
 rw [aH,aa,aE]
 refine ⟨fun h=>bad fun hh=>by have:=hh.1.1; omega,fun h1=>?_⟩
 refine ae l1 ?_
 refine ae (fy (hl.jf.ch' s3.ch)) ?_
 rw [de,aa,aE]
 refine ⟨fun h=>bad fun hh=>by have:=hh.1.2.1; omega,fun h2=>?_⟩
 refine ae l2 ?_
 rw [aH,aa,aE]
 refine ⟨fun h=>bad fun hh=>by have:=hh.1.2.2.1; omega,fun h3=>?_⟩
 refine ae l2 ?_
 refine ae (fy (hp.jf.ch' s3.ch)) ?_
 rw [de,aa,aE]
 refine ⟨fun h=>bad fun hh=>by have:=hh.1.2.2.2; omega,fun h4=>?_⟩
 have hC:inC co cp ours jA:=⟨by omega,by omega,by omega,by omega⟩
 refine cm.use ?_
 rw [fN,aa,fg]
 refine ⟨fun h=>bad fun hh=>h hh.2.1,fun h5=>?_⟩
 refine cm.use ?_
 rw [fN,aa,fg]
 refine ⟨fun h=>bad fun hh=>h hh.2.2.1,fun h6=>?_⟩
 obtain ⟨h51,h52⟩:=h5
 obtain ⟨h61,h62⟩:=h6
 rw [wi,i64_in (by omega) (by omega),aa]
 refine cm.use ?_
 rw [fN,aa]
 by_cases h7:amt (bo + bp)
 ·rw [decide_eq_true h7]
  exact kA hC ⟨⟨h51,h52⟩,⟨h61,h62⟩,h7⟩
 ·rw [decide_eq_false h7]
  exact bad fun hh=>h7 hh.2.2.2
end
end Go.Esc.M
namespace Go.Esc.M
open Go Go.Esc
structure bA where
 kind:Int
 id:Int
 amount:Int
 index:Int
 next:Int
 hash:List UInt8
 secret:List UInt8
 note:List UInt8
 deriving DecidableEq
def bA.cs (u:bA):List ag:=[.int .i64 u.kind,.int .i64 u.id,.int .i64 u.amount,.int .i64 u.index,.int .i64 u.next,.agg (u.hash.map u8v),.agg (u.secret.map u8v),.str u.note]
def bA.av (u:bA):ag:=.agg u.cs
def bA.zero:bA:=⟨0,0,0,0,0,h0,h0,[]⟩
structure bA.ok (u:bA):Prop where
 kind:I64 u.kind
 id:I64 u.id
 amount:I64 u.amount
 index:I64 u.index
 next:I64 u.next
 hash:u.hash.length = 32
 secret:u.secret.length = 32
 note:u.note.length ≤ 9223372036854775807
theorem bA.bD:bA.zero.ok:=⟨cD,cD,cD,cD,cD,rfl,rfl,by decide⟩
theorem bA.sz {u:bA} (h:u.ok):Esc.sz u.av = 70:=by simp [bA.av,bA.cs,Esc.sz,szs,szh h.hash,szh h.secret]
theorem bA.fits {u:bA} (h:u.ok):fa fe u.av = true:=by
 have h1:=bA.sz h
 have h2:u.av.isAgg = true:=rfl
 simp [fa,h1,h2,fe,j4.isAgg]
theorem bA.okv (u:bA):Esc.okv u.av = true:=by simp [bA.av,bA.cs,Esc.okv,kT,jx]
theorem AZ:gE = bA.zero.av:=rfl
section
variable {F0:List AId} {G0 G:ah} {ps:List LP} {i:Nat} {id:AId} {u:bA} {Q:ag -> ah -> Prop}
theorem gL (hs:Sp F0 G0 ps G) (hi:ps[i]? = some (ar id u.av)) (h:u.ok) :
  lq T G au (.ptr id [0] 0) = some (.int .i64 u.kind) /\ lq T G me (.ptr id [1] 1) = some (.int .i64 u.id) /\ lq T G me (.ptr id [2] 2) = some (.int .i64 u.amount) /\ lq T G me (.ptr id [3] 3) = some (.int .i64 u.index) ∧
  lq T G me (.ptr id [4] 4) = some (.int .i64 u.next) /\ lq T G aj (.ptr id [5] 5) = some (.agg (u.hash.map u8v)) /\ lq T G aj (.ptr id [6] 37) = some (.agg (u.secret.map u8v)) /\ lq T G bH (.ptr id [7] 69) = some (.str u.note) /\ lq T G aG (.ptr id [] 0) = some u.av:=by
 have hg:=ar.own hs hi
 refine ⟨dQ (c:=.int .i64 u.kind) hg rfl rfl rfl hO rfl,dQ (c:=.int .i64 u.id) hg rfl rfl rfl cA rfl,dQ (c:=.int .i64 u.amount) hg rfl rfl rfl cA rfl,dQ (c:=.int .i64 u.index) hg rfl rfl rfl cA rfl,dQ (c:=.int .i64 u.next) hg rfl rfl rfl cA rfl,
  dQ (c:=.agg (u.hash.map u8v)) hg rfl rfl rfl cd (gu h.hash),dQ (c:=.agg (u.secret.map u8v)) hg rfl ?_ rfl cd (gu h.secret),dQ (c:=.str u.note) hg rfl ?_ rfl fZ rfl,cJ dB hg (bA.fits h)⟩
 ·simp [bA.cs,szs,Esc.sz,szh h.hash]
 ·simp [bA.cs,szs,Esc.sz,szh h.hash,szh h.secret]
theorem k7 {u':bA} (hs:Sp F0 G0 ps G) (hi:ps[i]? = some (ar id u.av)) (h:u.ok) (h':u'.ok) {K:ah -> Prop} (hK:∀ G',Sp F0 G0 (ps.set i (ar id u'.av)) G' -> K G'):wg (ax T G aG (.ptr id [] 0) u'.av) K:=by
 refine fK (il dB (ar.own hs hi) (bA.fits h') (by rw [bA.sz h,bA.sz h']) (bA.okv _)) ?_
 exact hK _ (Sp.setRow hs hi _)
theorem Gv (n:Int) (hs:Sp F0 G0 ps G) (hi:ps[i]? = some (ar id u.av)) {K:ah -> Prop} (hK:∀ G',Sp F0 G0 (ps.set i (ar id ({ u with index:=n }:bA).av)) G' -> K G'):wg (ax T G me (.ptr id [3] 3) (.int .i64 n)) K:=by
 refine fK (km (c:=.int .i64 n) (u:=.int .i64 u.index) (ar.own hs hi) rfl rfl cA rfl rfl rfl) ?_
 exact hK _ (Sp.setRow hs hi _)
theorem MF (n:Int) (hs:Sp F0 G0 ps G) (hi:ps[i]? = some (ar id u.av)) {K:ah -> Prop} (hK:∀ G',Sp F0 G0 (ps.set i (ar id ({ u with next:=n }:bA).av)) G' -> K G'):wg (ax T G me (.ptr id [4] 4) (.int .i64 n)) K:=by
 refine fK (km (c:=.int .i64 n) (u:=.int .i64 u.next) (ar.own hs hi) rfl rfl cA rfl rfl rfl) ?_
 exact hK _ (Sp.setRow hs hi _)
theorem Ig {n:List UInt8} (hn:n.length = 32) (h:u.ok) (hs:Sp F0 G0 ps G) (hi:ps[i]? = some (ar id u.av)) {K:ah -> Prop} (hK:∀ G',Sp F0 G0 (ps.set i (ar id ({ u with hash:=n }:bA).av)) G' -> K G'):wg (ax T G aj (.ptr id [5] 5) (.agg (n.map u8v))) K:=by
 refine fK (km (c:=.agg (n.map u8v)) (u:=.agg (u.hash.map u8v)) (ar.own hs hi) rfl rfl cd (gu hn) (by simp [Esc.sz,szh hn,szh h.hash]) (by simp [Esc.okv,jx])) ?_
 exact hK _ (Sp.setRow hs hi _)
theorem Em {n:List UInt8} (hn:n.length = 32) (h:u.ok) (hs:Sp F0 G0 ps G) (hi:ps[i]? = some (ar id u.av)) {K:ah -> Prop} (hK:∀ G',Sp F0 G0 (ps.set i (ar id ({ u with secret:=n }:bA).av)) G' -> K G'):wg (ax T G aj (.ptr id [6] 37) (.agg (n.map u8v))) K:=by
 refine fK (km (c:=.agg (n.map u8v)) (u:=.agg (u.secret.map u8v)) (ar.own hs hi) (by simp [bA.cs,szs,Esc.sz,szh h.hash]) rfl cd (gu hn) (by simp [Esc.sz,szh hn,szh h.secret]) (by simp [Esc.okv,jx])) ?_
 exact hK _ (Sp.setRow hs hi _)
def zZ (m:bA):aK:=⟨m.kind,m.id,m.amount,m.hash,m.note⟩
def oy (u:aK):bA:=⟨u.kind,u.id,u.amount,0,0,u.hash,h0,u.note⟩
theorem uq {m:bA} (h:m.ok):(zZ m).ok:=LJ h.kind h.id h.amount h.hash h.note
theorem nH {u:aK} (h:u.ok):(oy u).ok:=⟨h.kind,h.id,h.amount,cD,cD,h.hash,rfl,h.note⟩
end
end Go.Esc.M
namespace Go.Esc.M
open Go Go.Esc
section
variable {F0:List AId} {G0 G:ah} {ps:List LP} {i:Nat} {id:AId} {u:bA} {Q:ag -> ah -> Prop}
theorem Ll {pl:Nat -> Option (Nat × Nat)} (e0:pl 0 = some (0,1)) (e1:pl 1 = some (1,1)) (e2:pl 2 = some (2,1)) (e5:pl 5 = some (5,32)) (e7:pl 7 = some (69,1)) {k m n:Int} {s:List UInt8} {zh zs h:ag} (hz:sz zh = 32) (hzs:sz zs = 32) (hh:sz h = 32) :
  Md pl [.int .i64 0,.int .i64 0,.int .i64 0,.int .i64 0,.int .i64 0,zh,zs,.str []] [(0,.int .i64 k),(1,.int .i64 m),(2,.int .i64 n),(5,h),(7,.str s)] = some [.int .i64 k,.int .i64 m,.int .i64 n,.int .i64 0,.int .i64 0,h,zs,.str s]:=by
 simp [Md,e0,e1,e2,e5,e7,sz,szs,hh,hz,hzs]
theorem Hd {u:aK} (h:u.ok):bk T aG [(0,.int .i64 u.kind),(1,.int .i64 u.id),(2,.int .i64 u.amount),(5,.agg (u.hash.map u8v)),(7,.str u.note)] = some (oy u).av:=by
 have h1:sz (.agg (u.hash.map u8v)) = 32:=by rw [sz,gv (n:=1) (ji u.hash)]; simp [h.hash]
 obtain ⟨zs,hzz,hzs⟩:∃ zs,ag.agg (h0.map u8v) = zs /\ sz zs = 32:=⟨_,rfl,rfl⟩
 have hz:gE = .agg [.int .i64 0,.int .i64 0,.int .i64 0,.int .i64 0,.int .i64 0,zs,zs,.str []]:=by rw [<- hzz]; rfl
 have hf:=Ll (pl:=places T [(au,0),(me,1),(me,2),(me,3),(me,4),(aj,5),(aj,37),(bH,69)]) rfl rfl rfl rfl rfl (k:=u.kind) (m:=u.id) (n:=u.amount) (s:=u.note) hzs hzs h1
 have ha:[(au,0),(me,1),(me,2),(me,3),(me,4),(aj,5),(aj,37),(bH,69)].all (fun g=>(T g.1).isSome) = true:=rfl
 unfold bk
 have e1:fe.desc = .struct [(au,0),(me,1),(me,2),(me,3),(me,4),(aj,5),(aj,37),(bH,69)]:=rfl
 have e2:fe.zero = .agg [.int .i64 0,.int .i64 0,.int .i64 0,.int .i64 0,.int .i64 0,zs,zs,.str []]:=hz
 simp only [dB,e1,e2,ha,if_true,hf]
 simp only [oy,bA.av,bA.cs,hzz]
theorem lR.use {u:aK} (h:u.ok) (hQ:∀ G',Ch [] G [] G' -> Q (oy u).av G'):al P lR.n [u.av] G Q:=by
 refine lR.sound ?_
 unfold lR.S
 rw [AZ]
 intro i1 f1
 have s1:=(Sp.nil G).row f1 u.av
 intro i3 f3
 have s3:=s1.row f3 bA.zero.av
 obtain ⟨l0,l1,l2,l3,l4,_⟩:=dh (i:=1) s3 rfl h
 refine ae l0 ?_
 refine ae l1 ?_
 refine ae l2 ?_
 refine ae l3 ?_
 refine ae l4 ?_
 refine ae (Hd h) ?_
 refine k7 (i:=0) s3 rfl bA.bD (nH h) fun G11 s11=>?_
 refine ae (gL (i:=0) s11 rfl (nH h)).2.2.2.2.2.2.2.2 ?_
 exact hQ _ s11.ch
end
end Go.Esc.M
namespace Go.Esc.M
open Go Go.Esc
theorem JW {p p':bA} (h:p.ok) (h':p'.ok):eqF T (mN T 8) [(au,0),(me,1),(me,2),(me,3),(me,4),(aj,5),(aj,37),(bH,69)] p.cs p'.cs 0 = some (decide (p = p')):=by
 have z1:=gu h.hash
 have z2:=gu h'.hash
 have z3:=gu h.secret
 have z4:=gu h'.secret
 have q2:∀ m n:Int,mN T 8 me (.int .i64 m) (.int .i64 n) = some (decide (m = n)):=fun m n=>by
  rw [mN]; simp only [cA]; rfl
 have q1:∀ m n:Int,mN T 8 au (.int .i64 m) (.int .i64 n) = some (decide (m = n)):=fun m n=>by
  rw [mN]; simp only [hO]; rfl
 have q4:∀ m n:List UInt8,mN T 8 bH (.str m) (.str n) = some (decide (m = n)):=fun m n=>by
  rw [mN]; simp only [fZ]; rfl
 have v1:∀ m:Int,fa mf (.int .i64 m) = true:=fun m=>rfl
 have v2:∀ m:Int,fa jy (.int .i64 m) = true:=fun m=>rfl
 have v4:∀ m:List UInt8,fa iO (.str m) = true:=fun m=>rfl
 have s1:mf.size = 1:=rfl
 have s2:jy.size = 1:=rfl
 have s3:fE.size = 32:=rfl
 have q3:=Cq h.hash h'.hash
 have q5:=Cq h.secret h'.secret
 obtain ⟨a,b,c,d,e,f,g,i⟩:=p
 obtain ⟨a',b',c',d',e',f',g',i'⟩:=p'
 dsimp only at z1 z2 z3 z4 q3 q5
 simp only [bA.cs,eqF,hO,cA,cd,fZ,v1,v2,v4,z1,z2,z3,z4,s1,s2,s3,Nat.zero_add,q1,q2,q3,q4,q5,beq_self_eq_true,Bool.and_self,Nat.reduceAdd,if_true]
 by_cases h1:a = a'
 ·subst h1
  by_cases h2:b = b'
  ·subst h2
   by_cases h3:c = c'
   ·subst h3
    by_cases h4:d = d'
    ·subst h4
     by_cases h5:e = e'
     ·subst h5
      by_cases h6:f = f'
      ·subst h6
       by_cases h7:g = g'
       ·subst h7
        by_cases h8:i = i'
        ·subst h8; simp
        ·simp [h8]
       ·simp [h7]
      ·simp [h6]
     ·simp [h5]
    ·simp [h4]
   ·simp [h3]
  ·simp [h2]
 ·simp [h1]
theorem E7 {p p':bA} (h:p.ok) (h':p'.ok):mN T 9 aG p.av p'.av = some (decide (p = p')):=by
 rw [<- JW h h',mN]
 have e1:fe.desc = .struct [(au,0),(me,1),(me,2),(me,3),(me,4),(aj,5),(aj,37),(bH,69)]:=rfl
 simp only [dB,e1]
 rfl
theorem Ga {p p':bA} (h:p.ok) (h':p'.ok):aw T .eql aG p.av p'.av = some (.bool (decide (p = p'))):=by
 have:=E7 h h'
 unfold bA.av at this ⊢
 simp only [aw,this]
theorem F9 {p p':bA} (h:p.ok) (h':p'.ok):aw T .neq aG p.av p'.av = some (.bool (!decide (p = p'))):=by
 have:=E7 h h'
 unfold bA.av at this ⊢
 simp only [aw,this]
section
variable {F0:List AId} {G0 G:ah} {ps:List LP} {Q:ag -> ah -> Prop}
end
end Go.Esc.M
namespace Go.Esc.M
open Go Go.Esc
def isK (m:bA):Prop:=m.kind = 1 \/ m.kind = 2 \/ m.kind = 3
instance (m:bA):Decidable (isK m):=inferInstanceAs (Decidable (_ \/ _ \/ _))
section
variable {F0:List AId} {G0 G:ah} {ps:List LP} {Q:ag -> ah -> Prop}
end
end Go.Esc.M
namespace Go.Esc.M
open Go Go.Esc
section
variable {F0:List AId} {G0 G:ah} {ps:List LP} {Q:ag -> ah -> Prop}
theorem LZ.use {u:aK} (h:u.ok) (hQ:∀ G',Ch [] G [] G' -> Q (oy u).av G'):al P LZ.n [u.av] G Q:=by
 refine LZ.sound ?_
 unfold LZ.S
 rw [AZ]
 intro i1 f1
 have s1:=(Sp.nil G).row f1 u.av
 intro i3 f3
 have s3:=s1.row f3 bA.zero.av
 obtain ⟨l0,l1,l2,l3,l4,_⟩:=dh (i:=1) s3 rfl h
 refine ae l0 ?_
 refine ae l1 ?_
 refine ae l2 ?_
 refine ae l3 ?_
 refine ae l4 ?_
 refine ae (Hd h) ?_
 refine k7 (i:=0) s3 rfl bA.bD (nH h) fun G11 s11=>?_
 refine ae (gL (i:=0) s11 rfl (nH h)).2.2.2.2.2.2.2.2 ?_
 exact hQ _ s11.ch
end
end Go.Esc.M
namespace Go.Esc.M
open Go Go.Esc
section
variable {F0:List AId} {G0 G:ah} {ps:List LP} {Q:ag -> ah -> Prop}
end
end Go.Esc.M
namespace Go.Esc.M
open Go Go.Esc
section
variable {F0:List AId} {G0 G:ah} {ps:List LP} {Q:ag -> ah -> Prop}
end
end Go.Esc.M
namespace Go.Esc.M
open Go Go.Esc
end Go.Esc.M
namespace Go.Esc.M
open Go Go.Esc
end Go.Esc.M
namespace Go.Esc.M
open Go Go.Esc
section
variable {F0:List AId} {G0 G:ah} {ps:List LP} {Q:ag -> ah -> Prop}
end
end Go.Esc.M
namespace Go.Esc.M
open Go Go.Esc
section
variable {F0:List AId} {G0 G:ah} {ps:List LP} {Q:ag -> ah -> Prop}
end
end Go.Esc.M
namespace Go.Esc.M
open Go Go.Esc
end Go.Esc.M
namespace Go.Esc.M
open Go Go.Esc
section
variable {F0:List AId} {G0 G:ah} {ps:List LP} {Q:ag -> ah -> Prop}
end
end Go.Esc.M
namespace Go.Esc.M
open Go Go.Esc
section
variable {F0:List AId} {G0 G:ah} {ps:List LP} {Q:ag -> ah -> Prop}
end
end Go.Esc.M
