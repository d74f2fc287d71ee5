import Derived.Test.YtkojimdacnohpaaGreatDoorLFv
import Derived.Test.YtkojimdacnohpaaGreatDoorLFb
set_option maxHeartbeats 8000000
set_option linter.unusedSimpArgs false
set_option linter.unusedVariables false
set_option maxRecDepth 20000
namespace Go.Esc.M
open Go Go.Esc
theorem vG (t:Int):t/1152921504606846976<0 ↔ t<0:=by omega
theorem vQ {f:aL->Bool}{l:List aL}(hv:∀ u∈l,dp u=true) (hf:∀ u,f u=true->u.kind=1) (hlen:l.length≤1048576):0≤gG f l/\gG f l≤1208925819614629174706176:=by
 have:=rX (f:=f) (l:=l) fun u hu h=>by
  have h1:=(lW (hv u hu)).2.2;have h2:=hf u h;constructor<;>omega
 omega
theorem GB {r:List aL}(u:aL) (h:stays r u=true):u.kind=1:=by simp[stays]at h;exact h.1
theorem I9 {r:List aL}(u:aL) (h:kD r u=true):u.kind=1:=by simp[kD]at h;exact h.1
section
variable {F0:List AId}{G0 G:ak}{ps:List LP}{Q:ah->ak->Prop}
theorem dc.use {a:Int}(hQ:Q (.bool (decide (amt a))) G):al P dc.n [.int .i64 a] G Q:=by
 refine dc.sound ?_;unfold dc.S;rw[fI,aa,aI];refine⟨fun h=>?_,fun h=>?_⟩
 ·rw[kQ,aa];have e:decide (amt a)=decide (a≤1152921504606846976):=decide_eq_decide.2 ⟨fun hh=>hh.2,fun hh=>⟨h,hh⟩⟩;rw[e]at hQ;exact hQ
 ·have e:decide (amt a)=false:=dF_ fun hh=>h hh.1;rw[e]at hQ;exact hQ
theorem eZ.use {v w:ah}{bo bp co cp:Int}{ours kA:List aL}(hl:hJ 36 G v (ours.map aL.av)) (hp:hJ 36 G w (kA.map aL.av)) (hok:∀ u∈ours,u.ok) (hok2:∀ u∈kA,u.ok) (hlen:ours.length≤1048576) (hlen2:kA.length≤1048576)
  (hQ:∀ x G',Sp [] G [bm 35 x ((mN bo bp ours kA co cp).l.map ba.av)] G'->Q (.tuple [gH (mN bo bp ours kA co cp).o (mN bo bp ours kA co cp).q x,.int .i64 (mN bo bp ours kA co cp).e]) G') :
  al P eZ.n [.int .i64 bo,.int .i64 bp,v,w,bE co cp] G Q:=by
 refine eZ.sound ?_;unfold eZ.S;rw[J5,y4];obtain⟨F,hF⟩:∃ F,F=mN bo bp ours kA co cp:=⟨_,rfl⟩;rw[<- hF]at hQ;intro i1 f1;have s1:=(Sp.nil G).row f1 (bE co cp);intro i3 f3;have s3:=s1.row f3 (gH 0 0 .nilSlice);revert s3;generalize ak.upd _ i3 _=G4;intro s3 J93;have no:∀ (e:Int) (G2:ak) (j:Nat) (ps:List LP),Sp [] G ps G2->ps[j]?=some (au i3 (gH 0 0 .nilSlice))->F=.no e->wv (bj T aX []) fun v17=>wg (aF T G2 aX (.ptr i3 [] 0) v17) fun G18=>wv (ag T G18 aX (.ptr i3 [] 0)) fun v19=>Q (.tuple [v19,.int .i64 e]) G18:=by
  intro e G2 j ps s hj he;refine ae (v:=gH 0 0 .nilSlice) rfl ?_;refine nN (i:=j) s hj rfl rl fun G18 s18=>?_;refine ae (iI (i:=j) s18 (by rw[List.getElem?_set_self (List.getElem?_eq_some_iff.1 hj).1]) rl).2.2.2 ?_;have:=hQ .nilSlice G18;rw[he]at this;exact this (((Sp.nil G).tmp s18.ch).nz 35)
 have bad:¬ (inC co cp ours kA/\amt bo/\amt bp/\amt (bo+bp))->J93 (.bool true) G4:=by
  intro h;simp -zeta only [J93,aN];exact no 1 G4 0 _ s3 rfl (by rw[hF];unfold mN;rw[if_neg h])
 have lK:inC co cp ours kA->(amt bo/\amt bp/\amt (bo+bp))->J93 (.bool false) G4:=by
  intro hC hA;simp -zeta only [J93,aK];have hFM:F=foldM bo bp (ours.take co.toNat) (kA.take cp.toNat):=by rw[hF];unfold mN;rw[if_pos ⟨hC,hA⟩]
  obtain⟨c1,c2,c3,c4⟩:=hC;obtain⟨l1,l2,_⟩:=jW (au.own (i:=1) s3 rfl);refine ae l1 ?_;obtain⟨va,ea,ca⟩:=hJ.take (ie:=cG) (k:=.i64) (m:=co.toNat) (x:=co) bT rfl dE hl (by omega) (by rw[List.length_map];omega);refine ae ea ?_;refine ae l2 ?_;obtain⟨vb,eb,cb⟩:=hJ.take (ie:=cG) (k:=.i64) (m:=cp.toNat) (x:=cp) bT rfl dE hp (by omega) (by rw[List.length_map];omega);refine ae eb ?_;rw[<- List.map_take]at ca cb;obtain⟨A,hAd⟩:∃ A,A=ours.take co.toNat:=⟨_,rfl⟩;obtain⟨B,hBd⟩:∃ A,A=kA.take cp.toNat:=⟨_,rfl⟩;rw[<- hAd]at ca hFM;rw[<- hBd]at cb hFM;have okA:∀ u∈A,u.ok:=by rw[hAd];exact fun u hu=>hok u (List.mem_of_mem_take hu)
  have okB:∀ u∈B,u.ok:=by rw[hBd];exact fun u hu=>hok2 u (List.mem_of_mem_take hu)
  have lA:A.length≤1048576:=by rw[hAd,List.length_take];omega
  have lB:B.length≤1048576:=by rw[hBd,List.length_take];omega
  have iA:ff 36 G va (A.map aL.av):=ca.gZ;have iB:ff 36 G vb (B.map aL.av):=cb.gZ;intro J92;have s3:Sp [] G [au i3 (gH 0 0 .nilSlice),au i1 (bE co cp)] G4:=s3;have bad2:∀ G2,Sp [] G [au i3 (gH 0 0 .nilSlice),au i1 (bE co cp)] G2->(nm A=false\/nm B=false)->J92 (.bool true) G2:=by
   intro G2 s2 h;simp -zeta only [J92,aN];exact no 120 G2 0 _ s2 rfl (by rw[hFM,Cd h])
  have good2:∀ G2,Sp [] G [au i3 (gH 0 0 .nilSlice),au i1 (bE co cp)] G2->¬ (nm A=false\/nm B=false)->J92 (.bool false) G2:=by
   intro G2 s2 h;have vA:nm A=true:=by
    cases hh:nm A with
    | true=>rfl
    | false=>exact absurd (.inl hh) h
   have vB:nm B=true:=by
    cases hh:nm B with
    | true=>rfl
    | false=>exact absurd (.inr hh) h
   have aA:=pU vA;have aB:=pU vB;have m1:=vQ (f:=stays B) aA GB lA;have m2:=vQ (f:=kD B) aA I9 lA;have m3:=vQ (f:=stays A) aB GB lB;have m4:=vQ (f:=kD A) aB I9 lB;obtain⟨⟨ho1,ho2⟩,⟨hp1,hp2⟩,hs1,hs2⟩:=hA;simp -zeta only [J92,aK];refine ae (v:=wdR 0) rfl ?_;refine dO.use ⟨by decide,by decide⟩ ⟨ho1,ho2⟩ fun G47 c47=>?_;have s47:=s2.tmp c47;refine ae (v:=wdR 0) rfl ?_;refine dO.use ⟨by decide,by decide⟩ ⟨hp1,hp2⟩ fun G50 c50=>?_;have s50:=s47.tmp c50;rw[Int.zero_add,Int.zero_add];refine eW.use (iA.ch' s50.ch) (iB.ch' s50.ch) okA okB aA lA lB ⟨by omega,by omega⟩ ⟨by omega,by omega⟩ fun w1 G52 t52=>?_;obtain⟨F52,o52,k52⟩:=t52.out;have s52:=s50.new o52 k52;refine ae (Kg _ _ _) ?_;refine ae (Kf _ _ _) ?_;refine ae (Ke _ _ _) ?_;intro i56 f56;have s57:=s52.row f56 (bE 0 0);intro i58 f58;have s59:=s57.row f58 (bE 0 0);refine kc (i:=1) s59 rfl fun G60 s60=>?_;refine kc (i:=0) s60 rfl fun G61 s61=>?_;have s61:Sp [] G [au i58 (wdR (bp+gG (kD B) A)),au i56 (wdR (bo-gG (stays B) A)),bm 35 w1 ((kS (iX true (opens B) A)).map ba.av),au i3 (gH 0 0 .nilSlice),au i1 (bE co cp)] G61:=s61;refine ae (dj (au.own (i:=0) s61 rfl) ck rfl).2.2 ?_;refine ae (dj (au.own (i:=1) s61 rfl) ck rfl).2.2 ?_;refine eW.use (iB.ch' s61.ch) (iA.ch' s61.ch) okB okA aB lB lA ⟨by omega,by omega⟩ ⟨by omega,by omega⟩ fun w2 G65 t65=>?_;obtain⟨F65,o65,k65⟩:=t65.out;have s65:=s61.new o65 k65;refine ae (Kg _ _ _) ?_;refine ae (Kf _ _ _) ?_;refine ae (Ke _ _ _) ?_;have eY:bp+gG (kD B) A-gG (stays A) B=n0 bp A B:=rfl;have eX:bo-gG (stays B) A+gG (kD A) B=nH bo A B:=rfl;rw[eY,eX];obtain⟨X,hX⟩:∃ X,X=nH bo A B:=⟨_,rfl⟩;obtain⟨Y,hY⟩:∃ Y,Y=n0 bp A B:=⟨_,rfl⟩;have hfl:=C8 (bo:=bo) (bp:=bp) aA aB hs2;have hlow:=Cc (bo:=bo) (bp:=bp) h;have hfine:=Az (bo:=bo) (bp:=bp) h;have bX:small X:=(by rw[hX];unfold nH small;omega);have bY:small Y:=(by rw[hY];unfold n0 small;omega);rw[<- hX,<- hY]at hfl hlow hfine ⊢;refine kc (i:=1) s65 rfl fun G69 s69=>?_;refine kc (i:=2) s69 rfl fun G70 s70=>?_;have s70:Sp [] G [bm 35 w2 ((kS (iX false (opens A) B)).map ba.av),au i58 (wdR Y),au i56 (wdR X),bm 35 w1 ((kS (iX true (opens B) A)).map ba.av),au i3 (gH 0 0 .nilSlice),au i1 (bE co cp)] G70:=s70;intro J91;have low:(X<0\/Y<0)->J91 (.bool true) G70:=by
    intro hh;simp -zeta only [J91,aN];exact no 130 G70 4 _ s70 rfl (by rw[hFM,hlow hh])
   have fine:¬ (X<0\/Y<0)->J91 (.bool false) G70:=by
    intro hh;simp -zeta only [J91,aK];have cX:=(rN (t:=X) (by omega) (hfl.1 (by omega))).2;have cY:=(rN (t:=Y) (by omega) (hfl.2 (by omega))).2;refine ae (dj (au.own (i:=2) s70 rfl) ck rfl).2.2 ?_;refine ae (dj (au.own (i:=1) s70 rfl) ck rfl).2.2 ?_;refine fM.use bX fun G83 c83=>?_;have s83:=s70.tmp c83;refine⟨⟨(dj (au.own (i:=1) s83 rfl) ck rfl).2.2,trivial⟩,?_⟩;refine fM.use bY fun G85 c85=>?_;have s85:=s83.tmp c85;rw[cX,cY];have hlo:=xE A B;unfold oN at hlo;rw[List.length_append]at hlo;refine Cb (i:=3) s85 rfl (bm.own (i:=0) s85 rfl).is (tm (ri okB)) (by omega) fun w3 G87 s87=>?_;have s87:Sp [] G [bm 35 w2 ((kS (iX false (opens A) B)).map ba.av),au i58 (wdR Y),au i56 (wdR X),bm 35 w3 ((oN A B).map ba.av),au i3 (gH 0 0 .nilSlice),au i1 (bE co cp)] G87:=s87;have lw3:=(bm.own (i:=3) s87 rfl).leaf;refine ae (Co lw3.1) ?_;refine nN (i:=4) s87 rfl rfl lw3 fun G89 s89=>?_;refine ae (iI (i:=4) s89 rfl lw3).2.2.2 ?_;have hF2:F=⟨X,Y,oN A B,0⟩:=(by rw[hFM,hfine hh]);rw[hF2]at hQ;refine hQ w3 G89 ?_;exact ((((s89.erase 0).erase 0).erase 0).erase 1).erase 1
   refine ae (dj (au.own (i:=2) s70 rfl) ck rfl).1 ?_;rw[aM,aa];by_cases h1:X/1152921504606846976<0
   ·rw[dT_ h1,aN];exact low (.inl ((vG X).1 h1))
   ·rw[dF_ h1,aK];refine ae (dj (au.own (i:=1) s70 rfl) ck rfl).1 ?_;rw[aM,aa];by_cases h2:Y/1152921504606846976<0
    ·rw[dT_ h2];exact low (.inr ((vG Y).1 h2))
    ·rw[dF_ h2];exact fine fun hh=>hh.elim (fun q=>h1 ((vG X).2 q)) (fun q=>h2 ((vG Y).2 q))
  refine eh.use (iA.ch' s3.ch) okA lA fun G35 c35=>?_;have s35:=s3.tmp c35;rw[dx,aa];cases vA:nm A with
  | false=>exact bad2 _ s35 (.inl vA)
  | true=>
   rw[Bool.not_true,aK];refine eh.use (iB.ch' s35.ch) okB lB fun G37 c37=>?_;have s37:=s35.tmp c37;rw[dx,aa];cases vB:nm B with
   | false=>exact bad2 _ s37 (.inr vB)
   | true=>exact good2 _ s37 (by rw[vA,vB];simp)
 obtain⟨l1,l2,_⟩:=jW (au.own (i:=1) s3 rfl);refine ae l1 ?_;rw[aM,aa,aI];refine⟨fun h=>bad fun hh=>by have:=hh.1.1;omega,fun h1=>?_⟩;refine ae l1 ?_;refine ae (dh (hl.gZ.ch' s3.ch)) ?_;rw[da,aa,aI];refine⟨fun h=>bad fun hh=>by have:=hh.1.2.1;omega,fun h2=>?_⟩;refine ae l2 ?_;rw[aM,aa,aI];refine⟨fun h=>bad fun hh=>by have:=hh.1.2.2.1;omega,fun h3=>?_⟩;refine ae l2 ?_;refine ae (dh (hp.gZ.ch' s3.ch)) ?_;rw[da,aa,aI];refine⟨fun h=>bad fun hh=>by have:=hh.1.2.2.2;omega,fun h4=>?_⟩;have hC:inC co cp ours kA:=⟨by omega,by omega,by omega,by omega⟩;refine dc.use ?_;rw[dx,aa,dC];refine⟨fun h=>bad fun hh=>h hh.2.1,fun h5=>?_⟩;refine dc.use ?_;rw[dx,aa,dC];refine⟨fun h=>bad fun hh=>h hh.2.2.1,fun h6=>?_⟩;obtain⟨h51,h52⟩:=h5;obtain⟨h61,h62⟩:=h6;rw[bg,i64_in (by omega) (by omega),aa];refine dc.use ?_;rw[dx,aa];by_cases h7:amt (bo+bp)
 ·rw[dT_ h7];exact lK hC ⟨⟨h51,h52⟩,⟨h61,h62⟩,h7⟩
 ·rw[dF_ h7];exact bad fun hh=>h7 hh.2.2.2
end
end Go.Esc.M
namespace Go.Esc.M
open Go Go.Esc
structure cr where
 kind:Int
 id:Int
 amount:Int
 index:Int
 next:Int
 hash:List UInt8
 secret:List UInt8
 note:List UInt8
 deriving DecidableEq
def cr.cs (u:cr):List ah:=[.int .i64 u.kind,.int .i64 u.id,.int .i64 u.amount,.int .i64 u.index,.int .i64 u.next,.agg (u.hash.map u8v),.agg (u.secret.map u8v),.str u.note]
def cr.av (u:cr):ah:=.agg u.cs
def cr.zero:cr:=⟨0,0,0,0,0,h0,h0,[]⟩
structure cr.ok (u:cr):Prop where
 kind:I64 u.kind
 id:I64 u.id
 amount:I64 u.amount
 index:I64 u.index
 next:I64 u.next
 hash:u.hash.length=32
 secret:u.secret.length=32
 note:u.note.length≤9223372036854775807
theorem cr.bq:cr.zero.ok:=⟨cL,cL,cL,cL,cL,rfl,rfl,by decide⟩
theorem cr.sz {u:cr}(h:u.ok):Esc.sz u.av=70:=by simp[cr.av,cr.cs,Esc.sz,szs,szh h.hash,szh h.secret]
theorem cr.fits {u:cr}(h:u.ok):dD il u.av=true:=by
 have h1:=cr.sz h;have h2:u.av.isAgg=true:=rfl;simp[dD,h1,h2,il,kZ.isAgg]
theorem cr.okv (u:cr):Esc.okv u.av=true:=by simp[cr.av,cr.cs,Esc.okv,mz,kM]
theorem EW:jF=cr.zero.av:=rfl
section
variable {F0:List AId}{G0 G:ak}{ps:List LP}{i:Nat}{id:AId}{u:cr}{Q:ah->ak->Prop}
theorem gx (hs:Sp F0 G0 ps G) (hi:ps[i]?=some (au id u.av)) (h:u.ok) :
  ag T G ay (.ptr id [0] 0)=some (.int .i64 u.kind)/\ag T G aq (.ptr id [1] 1)=some (.int .i64 u.id)/\ag T G aq (.ptr id [2] 2)=some (.int .i64 u.amount)/\ag T G aq (.ptr id [3] 3)=some (.int .i64 u.index) ∧
  ag T G aq (.ptr id [4] 4)=some (.int .i64 u.next)/\ag T G ar (.ptr id [5] 5)=some (.agg (u.hash.map u8v))/\ag T G ar (.ptr id [6] 37)=some (.agg (u.secret.map u8v))/\ag T G bH (.ptr id [7] 69)=some (.str u.note)/\ag T G aW (.ptr id [] 0)=some u.av:=by
 have hg:=au.own hs hi;refine⟨dI (c:=.int .i64 u.kind) hg rfl rfl rfl iD rfl,dI (c:=.int .i64 u.id) hg rfl rfl rfl cu rfl,dI (c:=.int .i64 u.amount) hg rfl rfl rfl cu rfl,dI (c:=.int .i64 u.index) hg rfl rfl rfl cu rfl,dI (c:=.int .i64 u.next) hg rfl rfl rfl cu rfl,
  dI (c:=.agg (u.hash.map u8v)) hg rfl rfl rfl bZ (gm h.hash),dI (c:=.agg (u.secret.map u8v)) hg rfl ?_ rfl bZ (gm h.secret),dI (c:=.str u.note) hg rfl ?_ rfl fS rfl,cj eQ hg (cr.fits h)⟩
 ·simp[cr.cs,szs,Esc.sz,szh h.hash]
 ·simp[cr.cs,szs,Esc.sz,szh h.hash,szh h.secret]
theorem nK {u':cr}(hs:Sp F0 G0 ps G) (hi:ps[i]?=some (au id u.av)) (h:u.ok) (h':u'.ok) {K:ak->Prop}(hK:∀ G',Sp F0 G0 (ps.set i (au id u'.av)) G'->K G'):wg (aF T G aW (.ptr id [] 0) u'.av) K:=by
 refine fg (ig eQ (au.own hs hi) (cr.fits h') (by rw[cr.sz h,cr.sz h']) (cr.okv _)) ?_;exact hK _ (Sp.setRow hs hi _)
theorem HM (n:Int) (hs:Sp F0 G0 ps G) (hi:ps[i]?=some (au id u.av)) {K:ak->Prop}(hK:∀ G',Sp F0 G0 (ps.set i (au id ({ u with index:=n }:cr).av)) G'->K G'):wg (aF T G aq (.ptr id [3] 3) (.int .i64 n)) K:=by
 refine fg (mG (c:=.int .i64 n) (u:=.int .i64 u.index) (au.own hs hi) rfl rfl cu rfl rfl rfl) ?_;exact hK _ (Sp.setRow hs hi _)
theorem Jg {n:List UInt8}(hn:n.length=32) (h:u.ok) (hs:Sp F0 G0 ps G) (hi:ps[i]?=some (au id u.av)) {K:ak->Prop}(hK:∀ G',Sp F0 G0 (ps.set i (au id ({ u with hash:=n }:cr).av)) G'->K G'):wg (aF T G ar (.ptr id [5] 5) (.agg (n.map u8v))) K:=by
 refine fg (mG (c:=.agg (n.map u8v)) (u:=.agg (u.hash.map u8v)) (au.own hs hi) rfl rfl bZ (gm hn) (by simp[Esc.sz,szh hn,szh h.hash]) (by simp[Esc.okv,kM])) ?_;exact hK _ (Sp.setRow hs hi _)
def Bw (m:cr):aL:=⟨m.kind,m.id,m.amount,m.hash,m.note⟩
def GL (u:aL):cr:=⟨u.kind,u.id,u.amount,0,0,u.hash,h0,u.note⟩
theorem vF {m:cr}(h:m.ok):(Bw m).ok:=MI h.kind h.id h.amount h.hash h.note
theorem vY {u:aL}(h:u.ok):(GL u).ok:=⟨h.kind,h.id,h.amount,cL,cL,h.hash,rfl,h.note⟩
end
end Go.Esc.M
namespace Go.Esc.M
open Go Go.Esc
section
variable {F0:List AId}{G0 G:ak}{ps:List LP}{i:Nat}{id:AId}{u:cr}{Q:ah->ak->Prop}
end
end Go.Esc.M
namespace Go.Esc.M
open Go Go.Esc
theorem KM {p p':cr}(h:p.ok) (h':p'.ok):eqF T (kV T 8) [(ay,0),(aq,1),(aq,2),(aq,3),(aq,4),(ar,5),(ar,37),(bH,69)] p.cs p'.cs 0=some (decide (p=p')):=by
 have z1:=gm h.hash;have z2:=gm h'.hash;have z3:=gm h.secret;have z4:=gm h'.secret;have q2:∀ m n:Int,kV T 8 aq (.int .i64 m) (.int .i64 n)=some (decide (m=n)):=fun m n=>by
  rw[kV];simp only[cu];rfl
 have q1:∀ m n:Int,kV T 8 ay (.int .i64 m) (.int .i64 n)=some (decide (m=n)):=fun m n=>by
  rw[kV];simp only[iD];rfl
 have q4:∀ m n:List UInt8,kV T 8 bH (.str m) (.str n)=some (decide (m=n)):=fun m n=>by
  rw[kV];simp only[fS];rfl
 have v1:∀ m:Int,dD nc (.int .i64 m)=true:=fun m=>rfl;have v2:∀ m:Int,dD iZ (.int .i64 m)=true:=fun m=>rfl;have v4:∀ m:List UInt8,dD iO (.str m)=true:=fun m=>rfl;have s1:nc.size=1:=rfl;have s2:iZ.size=1:=rfl;have s3:dQ.size=32:=rfl;have q3:=zu h.hash h'.hash;have q5:=zu h.secret h'.secret;obtain⟨a,b,c,d,e,f,g,i⟩:=p;obtain⟨a',b',c',d',e',f',g',i'⟩:=p';dsimp only at z1 z2 z3 z4 q3 q5;simp only[cr.cs,eqF,iD,cu,bZ,fS,v1,v2,v4,z1,z2,z3,z4,s1,s2,s3,Nat.zero_add,q1,q2,q3,q4,q5,beq_self_eq_true,Bool.and_self,Nat.reduceAdd,if_true];by_cases h1:a=a'
 ·subst h1;by_cases h2:b=b'
  ·subst h2;by_cases h3:c=c'
   ·subst h3;by_cases h4:d=d'
    ·subst h4;by_cases h5:e=e'
     ·subst h5;by_cases h6:f=f'
      ·subst h6;by_cases h7:g=g'
       ·subst h7;by_cases h8:i=i'
        ·subst h8;simp
        ·simp[h8]
       ·simp[h7]
      ·simp[h6]
     ·simp[h5]
    ·simp[h4]
   ·simp[h3]
  ·simp[h2]
 ·simp[h1]
theorem Kd {p p':cr}(h:p.ok) (h':p'.ok):kV T 9 aW p.av p'.av=some (decide (p=p')):=by
 rw[<- KM h h',kV];have e1:il.desc=.struct [(ay,0),(aq,1),(aq,2),(aq,3),(aq,4),(ar,5),(ar,37),(bH,69)]:=rfl;simp only[eQ,e1];rfl
theorem Bt {p p':cr}(h:p.ok) (h':p'.ok):az T .eql aW p.av p'.av=some (.bool (decide (p=p'))):=by
 have:=Kd h h';unfold cr.av at this ⊢;simp only[az,this]
section
variable {F0:List AId}{G0 G:ak}{ps:List LP}{Q:ah->ak->Prop}
end
end Go.Esc.M
namespace Go.Esc.M
open Go Go.Esc
def isK (m:cr):Prop:=m.kind=1\/m.kind=2\/m.kind=3
instance (m:cr):Decidable (isK m):=inferInstanceAs (Decidable (_\/_\/_))
section
variable {F0:List AId}{G0 G:ak}{ps:List LP}{Q:ah->ak->Prop}
end
end Go.Esc.M
namespace Go.Esc.M
open Go Go.Esc
section
variable {F0:List AId}{G0 G:ak}{ps:List LP}{Q:ah->ak->Prop}
end
end Go.Esc.M
namespace Go.Esc.M
open Go Go.Esc
section
variable {F0:List AId}{G0 G:ak}{ps:List LP}{Q:ah->ak->Prop}
end
end Go.Esc.M
namespace Go.Esc.M
open Go Go.Esc
section
variable {F0:List AId}{G0 G:ak}{ps:List LP}{Q:ah->ak->Prop}
end
end Go.Esc.M
namespace Go.Esc.M
open Go Go.Esc
end Go.Esc.M
namespace Go.Esc.M
open Go Go.Esc
end Go.Esc.M
namespace Go.Esc.M
open Go Go.Esc
section
variable {F0:List AId}{G0 G:ak}{ps:List LP}{Q:ah->ak->Prop}
end
end Go.Esc.M
namespace Go.Esc.M
open Go Go.Esc
section
variable {F0:List AId}{G0 G:ak}{ps:List LP}{Q:ah->ak->Prop}
end
end Go.Esc.M
namespace Go.Esc.M
open Go Go.Esc
end Go.Esc.M
namespace Go.Esc.M
open Go Go.Esc
section
variable {F0:List AId}{G0 G:ak}{ps:List LP}{Q:ah->ak->Prop}
end
end Go.Esc.M
namespace Go.Esc.M
open Go Go.Esc
section
variable {F0:List AId}{G0 G:ak}{ps:List LP}{Q:ah->ak->Prop}
end
end Go.Esc.M
namespace Go.Esc.M
open Go Go.Esc
def hx:List UInt8:=[49,50,51,52,53,54,55,56,57,48,49,50,51,52,53,54,55,56,57,48,49,50,51,52,53,54,55,56,57,48,49,50]
def b4:List UInt8:=[4,0,0,0,0,0,0,1,2]++hx
def m4:cr:=⟨4,0,0,258,0,hx,h0,[]⟩
def m7:cr:=⟨7,0,0,3,0,h0,h0,[]⟩
section
variable {F0:List AId}{G0 G:ak}{ps:List LP}{Q:ah->ak->Prop}
end
end Go.Esc.M
