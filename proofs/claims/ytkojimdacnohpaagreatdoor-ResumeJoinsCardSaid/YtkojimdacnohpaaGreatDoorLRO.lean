import Derived.Test.YtkojimdacnohpaaGreatDoorLDe
import Derived.Test.YtkojimdacnohpaaGreatDoorLHc
set_option maxHeartbeats 1000000
set_option linter.unusedSimpArgs false
set_option linter.unusedVariables false
set_option maxRecDepth 20000
namespace Go.Esc.M
open Go Go.Esc
def mark:ba:=⟨false,-77,0,z32⟩
structure MN (w v:ah) (l:List ba):Prop where
 own:∀ {G:ak},Own 35 G v ((l++[mark]).map ba.av)->Own 35 G w (l.map ba.av)
 back:dV T aw w none (some (.int .i64 ((l.length+1:Nat):Int))) none=some v
section
variable {F0:List AId}{G0 G:ak}{ps:List LP}{Q:ah->ak->Prop}
end
end Go.Esc.M
namespace Go.Esc.M
open Go Go.Esc
theorem aii {T:Tbl}{t:TypeId}(a:Int) {m M:Int}(k:Nat) (hk:k≤63) (hm:m=((2 ^ k-1:Nat):Int)) (hM:M=((2 ^ k:Nat):Int)):az T .and t (.int .i64 a) (.int .i64 m)=some (.int .i64 (a % M)):=by
 subst hm hM;rw[sY,EM a k hk]
def mk (n:Int) (p:ba):ba:=⟨p.ours,n+1+p.id % 4,1+p.amount % 576460752303423488,p.hash⟩
section
variable {F0:List AId}{G0 G:ak}{ps:List LP}{Q:ah->ak->Prop}
end
end Go.Esc.M
namespace Go.Esc.M
open Go Go.Esc
def Asc:Int->List ba->Prop
 | _,[]=>True
 | n,p::l=>n<p.id/\1≤p.amount/\p.amount≤jb/\Asc p.id l
theorem K3:∀ (l:List ba) (lt lf:Int) (ct:Nat) (r:List ba),Asc lt l->(∀ p∈l,p.ours=true)->∃ lt',mR lt lf ct 0 (l++r)=mR lt' lf (ct+l.length) 0 r
 | [],lt,lf,ct,r,_,_=>⟨lt,rfl⟩
 | p::l,lt,lf,ct,r,h,ho=>by
  obtain⟨h1,h2,h3,h4⟩:=h;have e:p.ours=true:=ho p (by simp);obtain⟨lt',h5⟩:=K3 l p.id lf (ct+1) r h4 fun q hq=>ho q (by simp[hq]);refine⟨lt',?_⟩;rw[List.cons_append,mR,e,cond_true,if_neg (by omega),cond_true,h5,List.length_cons,show ct+1+l.length=ct+(l.length+1) by omega]
theorem K4:∀ (l:List ba) (lt lf:Int) (ct cf:Nat),Asc lf l->(∀ p∈l,p.ours=false)->mR lt lf ct cf l=some (ct,cf+l.length)
 | [],lt,lf,ct,cf,_,_=>rfl
 | p::l,lt,lf,ct,cf,h,ho=>by
  obtain⟨h1,h2,h3,h4⟩:=h;have e:p.ours=false:=ho p (by simp);rw[mR,e,cond_false,if_neg (by simp only[Bool.false_eq_true,false_and,or_false];omega),cond_false,K4 l lt p.id ct (cf+1) h4 fun q hq=>ho q (by simp[hq]),List.length_cons,show cf+1+l.length=cf+(l.length+1) by omega]
def side (b:Bool) (l:List ba):List ba:=l.map (fun p=>{ p with ours:=b })
theorem vJ (b:Bool) (l m:List ba):kW b (l++m)=kW b l++kW b m:=by simp[kW]
section
variable {F0:List AId}{G0 G:ak}{ps:List LP}{Q:ah->ak->Prop}
end
end Go.Esc.M
namespace Go.Esc.M
open Go Go.Esc
def m1:ba:=⟨false,-1,0,z32⟩
def m2:ba:=⟨false,-2,0,z32⟩
section
variable {F0:List AId}{G0 G:ak}{ps:List LP}{Q:ah->ak->Prop}
theorem Kr {i j:Nat}{v:ah}{l:List ba}{p:ba}(hs:Sp F0 G0 ps G) (hi:ps[i]?=some (bm 35 v (l.map ba.av))) (hj:j<l.length) (hp:p.ok) :
  ∃ a,aO T aw v (.int .i64 (j:Int))=some a/\∀ K:ak->Prop,(∀ G',Sp F0 G0 (ps.set i (bm 35 v ((l.set j p).map ba.av))) G'->K G')->wg (aF T G aT a p.av) K:=by
 have ho:=bm.own hs hi;rcases ho with ⟨_,h⟩|⟨id,len,cap,cs,rfl,hg,hc,hl,hu,he⟩
 ·rw[List.map_eq_nil_iff]at h;rw[h]at hj;simp at hj
 ·have hlen:len=l.length:=by
   have:=congrArg List.length he;simp only[List.length_map,List.length_take]at this;omega
  obtain⟨a,ha,hst⟩:=GI (T:=T) (t:=aw) (e:=aT) (i:=b8) (ie:=dS) (cap:=cap) (k:=.i64) (c:=p.av) cy rfl eP hg hu (show j<len by omega) (by omega) (ba.sz hp) rfl (ba.okv p);refine⟨a,ha,fun K hK=>fg hst (hK _ ?_)⟩;refine hs.call hi (bm 35 (.slice id [] 0 0 len cap) ((l.set j p).map ba.av)) fun F h k=>?_;obtain⟨_,rfl⟩:=h;refine k _ _ ⟨.inr ⟨id,len,cap,cs.set j p.av,rfl,ak.dR _ _ _,by rw[List.length_set];exact hc,hl,CG hu (ba.sz hp),?_⟩,rfl⟩ (sZ hg (by simp));rw[List.map_set,he,List.take_set]
end
end Go.Esc.M
namespace Go.Esc.M
open Go Go.Esc
structure aL where
 kind:Int
 id:Int
 amount:Int
 hash:List UInt8
 note:List UInt8
 deriving DecidableEq
def h0:List UInt8:=List.replicate 32 0
theorem oe:h0.length=32:=rfl
def aL.cs (u:aL):List ah:=[.int .i64 u.kind,.int .i64 u.id,.int .i64 u.amount,.agg (u.hash.map u8v),.str u.note]
def aL.av (u:aL):ah:=.agg u.cs
def aL.zero:aL:=⟨0,0,0,h0,[]⟩
structure aL.ok (u:aL):Prop where
 kind:I64 u.kind
 id:I64 u.id
 amount:I64 u.amount
 hash:u.hash.length=32
 note:u.note.length≤9223372036854775807
theorem aL.bq:aL.zero.ok:=⟨⟨by decide,by decide⟩,⟨by decide,by decide⟩,⟨by decide,by decide⟩,rfl,by decide⟩
theorem szh {h:List UInt8}(hl:h.length=32):szs (h.map u8v)=32:=by rw[gX (n:=1) (kd h)];simp[hl]
theorem aL.sz {u:aL}(h:u.ok):Esc.sz u.av=36:=by simp[aL.av,aL.cs,Esc.sz,szs,szh h.hash]
theorem aL.fits {u:aL}(h:u.ok):dD cG u.av=true:=by
 have h1:=aL.sz h;have h2:u.av.isAgg=true:=rfl;simp[dD,h1,h2,cG,kZ.isAgg]
theorem aL.okv (u:aL):Esc.okv u.av=true:=by simp[aL.av,aL.cs,Esc.okv,mz,kM]
theorem gm {h:List UInt8}(hl:h.length=32):dD dQ (.agg (h.map u8v))=true:=by simp[dD,Esc.sz,szh hl,dQ,ah.isAgg,kZ.isAgg]
section
variable {F0:List AId}{G0 G:ak}{ps:List LP}{i:Nat}{id:AId}{u:aL}
theorem bF (hs:Sp F0 G0 ps G) (hi:ps[i]?=some (au id u.av)) (h:u.ok) :
  ag T G ay (.ptr id [0] 0)=some (.int .i64 u.kind)/\ag T G aq (.ptr id [1] 1)=some (.int .i64 u.id)/\ag T G aq (.ptr id [2] 2)=some (.int .i64 u.amount)/\ag T G ar (.ptr id [3] 3)=some (.agg (u.hash.map u8v))/\ag T G bH (.ptr id [4] 35)=some (.str u.note)/\ag T G aG (.ptr id [] 0)=some u.av:=by
 have hg:=au.own hs hi;refine⟨dI (c:=.int .i64 u.kind) hg rfl rfl rfl iD rfl,dI (c:=.int .i64 u.id) hg rfl rfl rfl cu rfl,dI (c:=.int .i64 u.amount) hg rfl rfl rfl cu rfl,dI (c:=.agg (u.hash.map u8v)) hg rfl rfl rfl bZ (gm h.hash),dI (c:=.str u.note) hg rfl ?_ rfl fS rfl,cj dE hg (aL.fits h)⟩;simp[aL.cs,szs,Esc.sz,szh h.hash]
theorem jY {u':aL}(hs:Sp F0 G0 ps G) (hi:ps[i]?=some (au id u.av)) (h:u.ok) (h':u'.ok) {K:ak->Prop}(hK:∀ G',Sp F0 G0 (ps.set i (au id u'.av)) G'->K G'):wg (aF T G aG (.ptr id [] 0) u'.av) K:=by
 refine fg (ig dE (au.own hs hi) (aL.fits h') (by rw[aL.sz h,aL.sz h']) (aL.okv _)) ?_;exact hK _ (Sp.setRow hs hi _)
end
def Ek:Int:=1152921504606846976
def dp (u:aL):Bool:=
 decide (0≤u.id) && (decide (u.id<2048) && (if u.kind=1 then decide (1≤u.amount) && (decide (u.amount≤Ek) && decide (u.note=[]))
  else if u.kind=2 then decide (u.amount=0) && decide (u.note=[])
  else if u.kind=3 then decide (u.amount=0) && (decide (u.hash=h0) && decide (u.note.length≤64)) else false))
section
variable {G:ak}{Q:ah->ak->Prop}
theorem ED:bj T ar []=some (.agg (h0.map u8v)):=rfl
theorem Ev {a b:List UInt8}(ha:a.length=32) (hb:b.length=32):az T .eql ar (.agg (a.map u8v)) (.agg (b.map u8v))=some (.bool (decide (a=b))):=
 wT (i:=dQ) (ie:=gi) (n:=32) bZ rfl cW rfl rfl ha hb
theorem qg {a b:List UInt8}(ha:a.length=32) (hb:b.length=32):az T .neq ar (.agg (a.map u8v)) (.agg (b.map u8v))=some (.bool (!decide (a=b))):=
 Bu (i:=dQ) (ie:=gi) (n:=32) bZ rfl cW rfl rfl ha hb
theorem gj.use {u:aL}(h:u.ok) (hQ:∀ G',Ch [] G [] G'->Q (.bool (dp u)) G'):al P gj.n [u.av] G Q:=by
 refine gj.sound ?_;unfold gj.S;obtain⟨mA,hmA⟩:∃ m,m=(1152921504606846976:Int):=⟨_,rfl⟩;rw[<- hmA];have hmax:Ek=mA:=by rw[hmA];rfl
 unfold dp at hQ;rw[hmax]at hQ;clear hmax hmA;intro i1 f1;have s1:=(Sp.nil G).row f1 u.av;obtain⟨l0,l1,l2,l3,l4,_⟩:=bF (i:=0) s1 rfl h;have hQ:=hQ _ s1.ch;revert hQ l0 l1 l2 l3 l4;generalize G.upd i1 (.own u.av)=G2;intro l0 l1 l2 l3 l4 hQ J37;have bad:(decide (0≤u.id) && decide (u.id<2048))=false->J37 (.bool true) G2:=by
  intro hb;simp -zeta only [J37,aN];rw[<- Bool.and_assoc,hb,Bool.false_and]at hQ;exact hQ
 have lK:0≤u.id->u.id<2048->J37 (.bool false) G2:=by
  intro h0 h1;rw[dT_ h0,dT_ h1,Bool.true_and,Bool.true_and]at hQ;simp -zeta only [J37,aK];rw[l0,aa,bB,aa,aI];refine⟨fun hk=>?_,fun hk1=>?_⟩
  ·rw[if_pos hk]at hQ;rw[l2,aa,fI,aa,aI];refine⟨fun ha=>?_,fun ha=>by rwa [dF_ ha,Bool.false_and]at hQ⟩;rw[dT_ ha,Bool.true_and]at hQ;rw[aa,kQ,aa,aI];refine⟨fun hb=>?_,fun hb=>by rwa [dF_ hb,Bool.false_and]at hQ⟩;rw[dT_ hb,Bool.true_and]at hQ;rw[l4,aa,pL,aa];exact hQ
  rw[if_neg hk1]at hQ;rw[bB,aa,aI];refine⟨fun hk=>?_,fun hk2=>?_⟩
  ·rw[if_pos hk]at hQ;rw[l2,aa,bB,aa,aI];refine⟨fun ha=>?_,fun ha=>by rwa [dF_ ha,Bool.false_and]at hQ⟩;rw[dT_ ha,Bool.true_and]at hQ;rw[l4,aa,pL,aa];exact hQ
  rw[if_neg hk2]at hQ;rw[bB,aa,aI];refine⟨fun hk=>?_,fun hk3=>?_⟩
  ·rw[if_pos hk]at hQ;rw[l2,aa,bB,aa,aI];refine⟨fun ha=>?_,fun ha=>by rwa [dF_ ha,Bool.false_and]at hQ⟩;rw[dT_ ha,Bool.true_and]at hQ;rw[l3,aa,ED,aa,Ev h.hash oe,aa,aI];refine⟨fun hb=>?_,fun hb=>by rwa [dF_ hb,Bool.false_and]at hQ⟩;rw[dT_ hb,Bool.true_and]at hQ;rw[l4,aa];show wv (some (.int .i64 (u.note.length:Nat))) _;rw[aa,kQ,aa];have:decide (((u.note.length:Nat):Int)≤64)=decide (u.note.length≤64):=(by rw[decide_eq_decide];omega);rw[this];exact hQ
  ·rwa [if_neg hk3]at hQ
 rw[l1,aa,aM,aa,aI];refine⟨fun hb=>bad (by rw[dF_ (by omega),Bool.false_and]),fun h0=>?_⟩;rw[aa,fI,aa];by_cases h1:(2048:Int)≤u.id
 ·rw[dT_ h1];exact bad (by rw[dF_ (show ¬ u.id<2048 by omega),Bool.and_false])
 ·rw[dF_ h1];exact lK (by omega) (by omega)
theorem dz.use {u:aL}(h:u.ok) (hQ:∀ G',Ch [] G [] G'->Q (.bool (dp u)) G'):al P dz.n [u.av] G Q:=by
 refine dz.sound ?_;unfold dz.S;obtain⟨mA,hmA⟩:∃ m,m=(1152921504606846976:Int):=⟨_,rfl⟩;rw[<- hmA];have hmax:Ek=mA:=by rw[hmA];rfl
 unfold dp at hQ;rw[hmax]at hQ;clear hmax hmA;rw[mF];intro i1 f1;have s1:=(Sp.nil G).row f1 u.av;refine ae ED ?_;intro i4 f4;have s4:=s1.row f4 (.agg ((List.replicate 32 (0:UInt8)).map u8v));refine sq (i:=0) (h':=h0) s4 rfl Lg oe fun G2 s6=>?_;obtain⟨l0,l1,l2,l3,l4,_⟩:=bF (i:=1) s6 rfl h;have l5:=bM oe (au.own (i:=0) s6 rfl);have hQ:=hQ _ s6.ch;revert l0 l1 l2 l3 l4 l5 hQ;intro l0 l1 l2 l3 l4 l5 hQ J41;have bad:(decide (0≤u.id) && decide (u.id<2048))=false->J41 (.bool true) G2:=by
  intro hb;simp -zeta only [J41,aN];rw[<- Bool.and_assoc,hb,Bool.false_and]at hQ;exact hQ
 have lK:0≤u.id->u.id<2048->J41 (.bool false) G2:=by
  intro h0 h1;rw[dT_ h0,dT_ h1,Bool.true_and,Bool.true_and]at hQ;simp -zeta only [J41,aK];rw[l0,aa,bB,aa,aI];refine⟨fun hk=>?_,fun hk1=>?_⟩
  ·rw[if_pos hk]at hQ;rw[l2,aa,fI,aa,aI];refine⟨fun ha=>?_,fun ha=>by rwa [dF_ ha,Bool.false_and]at hQ⟩;rw[dT_ ha,Bool.true_and]at hQ;rw[aa,kQ,aa,aI];refine⟨fun hb=>?_,fun hb=>by rwa [dF_ hb,Bool.false_and]at hQ⟩;rw[dT_ hb,Bool.true_and]at hQ;rw[l4,aa,pL,aa];exact hQ
  rw[if_neg hk1]at hQ;rw[bB,aa,aI];refine⟨fun hk=>?_,fun hk2=>?_⟩
  ·rw[if_pos hk]at hQ;rw[l2,aa,bB,aa,aI];refine⟨fun ha=>?_,fun ha=>by rwa [dF_ ha,Bool.false_and]at hQ⟩;rw[dT_ ha,Bool.true_and]at hQ;rw[l4,aa,pL,aa];exact hQ
  rw[if_neg hk2]at hQ;rw[bB,aa,aI];refine⟨fun hk=>?_,fun hk3=>?_⟩
  ·rw[if_pos hk]at hQ;rw[l2,aa,bB,aa,aI];refine⟨fun ha=>?_,fun ha=>by rwa [dF_ ha,Bool.false_and]at hQ⟩;rw[dT_ ha,Bool.true_and]at hQ;rw[l3,aa,l5,aa,Ev h.hash oe,aa,aI];refine⟨fun hb=>?_,fun hb=>by rwa [dF_ hb,Bool.false_and]at hQ⟩;rw[dT_ hb,Bool.true_and]at hQ;rw[l4,aa];show wv (some (.int .i64 (u.note.length:Nat))) _;rw[aa,kQ,aa];have:decide (((u.note.length:Nat):Int)≤64)=decide (u.note.length≤64):=(by rw[decide_eq_decide];omega);rw[this];exact hQ
  ·rwa [if_neg hk3]at hQ
 rw[l1,aa,aM,aa,aI];refine⟨fun hb=>bad (by rw[dF_ (by omega),Bool.false_and]),fun h0=>?_⟩;rw[aa,fI,aa];by_cases h1:(2048:Int)≤u.id
 ·rw[dT_ h1];exact bad (by rw[dF_ (show ¬ u.id<2048 by omega),Bool.and_false])
 ·rw[dF_ h1];exact lK (by omega) (by omega)
end
end Go.Esc.M
namespace Go.Esc
open Go Go.RowKit
def bE (a b:Int):ah:=.agg [.int .i64 a,.int .i64 b]
def bw (v:ah):Prop:=sz v=1/\v.isAgg=false/\okv v=true
theorem bw.nil:bw .nilSlice:=⟨rfl,rfl,rfl⟩
theorem rW:∀ l:List ah,szs l=(l.map sz).sum
 | []=>rfl
 | v::l=>by rw[po,rW l];simp
theorem kF {v:ah}{ti:TI}(h:bw v) (ht:(Nat.beq ti.size 1 && !ti.desc.isAgg)=true):dD ti v=true:=by
 simp only[Bool.and_eq_true,Bool.not_eq_true']at ht;have:=Nat.eq_of_beq_eq_true ht.1;simp[dD,h.1,h.2.1,this,ht.2]
section
variable {T:Tbl}{G:ak}{id:AId}{cs ds:List ah}{ss ss2:List Nat}{k j o o2 oo:Nat}{c u:ah}{t:TypeId}{ti:TI}
theorem pA (h:cs.map sz=ss) (ho:(ss.take k).sum=o):szs (cs.take k)=o:=by
 rw[rW,List.map_take,h,ho]
theorem ld1 (hg:G id=some (.own (.agg cs))) (hs:cs.map sz=ss) (ho:(ss.take k).sum=o) (hc:cs[k]?=some c) (ht:T t=some ti) (hf:dD ti c=true):ag T G t (.ptr id [k] o)=some c:=
 dI hg rfl (pA hs ho) hc ht hf
theorem ld2 (hg:G id=some (.own (.agg cs))) (hs:cs.map sz=ss) (ho:(ss.take k).sum=o) (hc:cs[k]?=some (.agg ds)) (hs2:ds.map sz=ss2) (ho2:(ss2.take j).sum=o2) (hc2:ds[j]?=some c) (hoo:o+o2=oo) (ht:T t=some ti) (hf:dD ti c=true) :
  ag T G t (.ptr id [k,j] oo)=some c:=by
 subst hoo;have e1:=pA hs ho;have e2:=pA hs2 ho2;simp[ag,nI,hg,mQ,sub,e1,e2,hc,hc2,ht,hf]
theorem st1 (hg:G id=some (.own (.agg cs))) (hs:cs.map sz=ss) (ho:(ss.take k).sum=o) (hc:cs[k]?=some u) (ht:T t=some ti) (hf:dD ti c=true) (hsz:sz u=sz c) (hok:okv c=true) :
  aF T G t (.ptr id [k] o) c=some (G.upd id (.own (.agg (cs.set k c)))):=mG hg (pA hs ho) hc ht hf hsz hok
theorem st2 (hg:G id=some (.own (.agg cs))) (hs:cs.map sz=ss) (ho:(ss.take k).sum=o) (hc:cs[k]?=some (.agg ds)) (hs2:ds.map sz=ss2) (ho2:(ss2.take j).sum=o2) (hc2:ds[j]?=some u) (hoo:o+o2=oo) (ht:T t=some ti) (hf:dD ti c=true) (hsz:sz u=sz c) (hok:okv c=true) :
  aF T G t (.ptr id [k,j] oo) c=some (G.upd id (.own (.agg (cs.set k (.agg (ds.set j c)))))):=by
 subst hoo;have e1:=pA hs ho;have e2:=pA hs2 ho2;simp[aF,hg,sub,e1,e2,hc,hc2,ht,hf,hsz,hok,putAt]
end
end Go.Esc
namespace Go.Esc.M
open Go Go.Esc
def mT (a b:List UInt8):ah:=.agg [.agg (a.map u8v),.agg (b.map u8v)]
theorem su {a b:List UInt8}(ha:a.length=32) (hb:b.length=32):dD mr (mT a b)=true:=by
 simp[dD,mT,Esc.sz,szs,szh ha,szh hb,mr,ah.isAgg,kZ.isAgg]
end Go.Esc.M
namespace Go.Esc.M
open Go Go.Esc
structure StM where
 side:Int
 cap:Int
 bo:Int
 bp:Int
 loc:Int
 rem:Int
 ack:Int
 atA:Int
 atB:Int
 sgnA:Int
 sgnB:Int
 heldA:Int
 heldB:Int
 behind:Bool
 ptsA:List UInt8
 ptsB:List UInt8
 sig:List UInt8
 failed:Int
 closed:Int
def StM.cs (s:StM) (v_ours v_peers v_shelf:ah):List ah:=[.int .i64 s.side,.int .i64 s.cap,.int .i64 s.bo,.int .i64 s.bp,v_ours,v_peers,.int .i64 s.loc,.int .i64 s.rem,.int .i64 s.ack,.agg [.int .i64 s.atA,.int .i64 s.atB],.agg [.int .i64 s.sgnA,.int .i64 s.sgnB],.agg [.int .i64 s.heldA,.int .i64 s.heldB],.bool s.behind,.agg [.agg (s.ptsA.map u8v),.agg (s.ptsB.map u8v)],.agg (s.sig.map u8v),v_shelf,.int .i64 s.failed,.int .i64 s.closed]
def StM.av (s:StM) (v_ours v_peers v_shelf:ah):ah:=.agg (s.cs v_ours v_peers v_shelf)
structure StM.ok (s:StM):Prop where
 side:I64 s.side
 cap:I64 s.cap
 bo:I64 s.bo
 bp:I64 s.bp
 loc:I64 s.loc
 rem:I64 s.rem
 ack:I64 s.ack
 atA:I64 s.atA
 atB:I64 s.atB
 sgnA:I64 s.sgnA
 sgnB:I64 s.sgnB
 heldA:I64 s.heldA
 heldB:I64 s.heldB
 ptsA:s.ptsA.length=32
 ptsB:s.ptsB.length=32
 sig:s.sig.length=32
 failed:I64 s.failed
 closed:I64 s.closed
theorem StM.szl {s:StM}{v_ours v_peers v_shelf:ah}(h:s.ok) (l:bw v_ours/\bw v_peers/\bw v_shelf):(s.cs v_ours v_peers v_shelf).map Esc.sz=[1,1,1,1,1,1,1,1,1,2,2,2,1,64,32,1,1,1]:=by
 simp[StM.cs,Esc.sz,szs,szh h.ptsA,szh h.ptsB,szh h.sig,l.1.1,l.2.1.1,l.2.2.1]
theorem StM.sz {s:StM}{v_ours v_peers v_shelf:ah}(h:s.ok) (l:bw v_ours/\bw v_peers/\bw v_shelf):Esc.sz (s.av v_ours v_peers v_shelf)=115:=by
 have e:=StM.szl h l;rw[StM.av,Esc.sz,rW,e];rfl
theorem StM.fits {s:StM}{v_ours v_peers v_shelf:ah}(h:s.ok) (l:bw v_ours/\bw v_peers/\bw v_shelf):dD oG (s.av v_ours v_peers v_shelf)=true:=by
 have h1:=StM.sz h l;have h2:(s.av v_ours v_peers v_shelf).isAgg=true:=rfl;simp[dD,h1,h2,oG,kZ.isAgg]
theorem StM.okv {s:StM}{v_ours v_peers v_shelf:ah}(l:bw v_ours/\bw v_peers/\bw v_shelf):Esc.okv (s.av v_ours v_peers v_shelf)=true:=by
 simp[StM.av,StM.cs,Esc.okv,mz,kM,l.1.2.2,l.2.1.2.2,l.2.2.2.2]
section
variable {F0:List AId}{G0 G:ak}{ps:List LP}{i:Nat}{id:AId}{s:StM}{K:ak->Prop}{v_ours v_peers v_shelf:ah}
theorem St.lJ (hg:G id=some (.own (s.av v_ours v_peers v_shelf))) (h:s.ok) (l:bw v_ours/\bw v_peers/\bw v_shelf):ag T G ay (.ptr id [0] 0)=some (.int .i64 s.side):=ld1 hg (StM.szl h l) rfl rfl iD rfl
theorem St.mL (hg:G id=some (.own (s.av v_ours v_peers v_shelf))) (h:s.ok) (l:bw v_ours/\bw v_peers/\bw v_shelf):ag T G aq (.ptr id [1] 1)=some (.int .i64 s.cap):=ld1 hg (StM.szl h l) rfl rfl cu rfl
theorem St.uM (hg:G id=some (.own (s.av v_ours v_peers v_shelf))) (h:s.ok) (l:bw v_ours/\bw v_peers/\bw v_shelf):ag T G aq (.ptr id [2] 2)=some (.int .i64 s.bo):=ld1 hg (StM.szl h l) rfl rfl cu rfl
theorem St.tC (hg:G id=some (.own (s.av v_ours v_peers v_shelf))) (h:s.ok) (l:bw v_ours/\bw v_peers/\bw v_shelf):ag T G aq (.ptr id [3] 3)=some (.int .i64 s.bp):=ld1 hg (StM.szl h l) rfl rfl cu rfl
theorem St.dM (hg:G id=some (.own (s.av v_ours v_peers v_shelf))) (h:s.ok) (l:bw v_ours/\bw v_peers/\bw v_shelf):ag T G aj (.ptr id [4] 4)=some (v_ours):=ld1 hg (StM.szl h l) rfl rfl bT (kF l.1 rfl)
theorem St.eH (hg:G id=some (.own (s.av v_ours v_peers v_shelf))) (h:s.ok) (l:bw v_ours/\bw v_peers/\bw v_shelf):ag T G aj (.ptr id [5] 5)=some (v_peers):=ld1 hg (StM.szl h l) rfl rfl bT (kF l.2.1 rfl)
theorem St.qb (hg:G id=some (.own (s.av v_ours v_peers v_shelf))) (h:s.ok) (l:bw v_ours/\bw v_peers/\bw v_shelf):ag T G aq (.ptr id [6] 6)=some (.int .i64 s.loc):=ld1 hg (StM.szl h l) rfl rfl cu rfl
theorem St.mn (hg:G id=some (.own (s.av v_ours v_peers v_shelf))) (h:s.ok) (l:bw v_ours/\bw v_peers/\bw v_shelf):ag T G aq (.ptr id [7] 7)=some (.int .i64 s.rem):=ld1 hg (StM.szl h l) rfl rfl cu rfl
theorem St.mS (hg:G id=some (.own (s.av v_ours v_peers v_shelf))) (h:s.ok) (l:bw v_ours/\bw v_peers/\bw v_shelf):ag T G aq (.ptr id [8] 8)=some (.int .i64 s.ack):=ld1 hg (StM.szl h l) rfl rfl cu rfl
theorem St.GV (hg:G id=some (.own (s.av v_ours v_peers v_shelf))) (h:s.ok) (l:bw v_ours/\bw v_peers/\bw v_shelf):ag T G aU (.ptr id [9] 9)=some (bE s.atA s.atB):=ld1 hg (StM.szl h l) rfl rfl cK rfl
theorem St.Jr (hg:G id=some (.own (s.av v_ours v_peers v_shelf))) (h:s.ok) (l:bw v_ours/\bw v_peers/\bw v_shelf):ag T G ay (.ptr id [9,0] 9)=some (.int .i64 s.atA):=ld2 hg (StM.szl h l) rfl rfl (ss2:=[1,1]) rfl rfl rfl rfl iD rfl
theorem St.od (hg:G id=some (.own (s.av v_ours v_peers v_shelf))) (h:s.ok) (l:bw v_ours/\bw v_peers/\bw v_shelf):ag T G ay (.ptr id [9,1] 10)=some (.int .i64 s.atB):=ld2 hg (StM.szl h l) rfl rfl (ss2:=[1,1]) rfl rfl rfl rfl iD rfl
theorem St.vr (hg:G id=some (.own (s.av v_ours v_peers v_shelf))) (h:s.ok) (l:bw v_ours/\bw v_peers/\bw v_shelf):ag T G aU (.ptr id [10] 11)=some (bE s.sgnA s.sgnB):=ld1 hg (StM.szl h l) rfl rfl cK rfl
theorem St.KB (hg:G id=some (.own (s.av v_ours v_peers v_shelf))) (h:s.ok) (l:bw v_ours/\bw v_peers/\bw v_shelf):ag T G ay (.ptr id [10,0] 11)=some (.int .i64 s.sgnA):=ld2 hg (StM.szl h l) rfl rfl (ss2:=[1,1]) rfl rfl rfl rfl iD rfl
theorem St.qc (hg:G id=some (.own (s.av v_ours v_peers v_shelf))) (h:s.ok) (l:bw v_ours/\bw v_peers/\bw v_shelf):ag T G ay (.ptr id [11,0] 13)=some (.int .i64 s.heldA):=ld2 hg (StM.szl h l) rfl rfl (ss2:=[1,1]) rfl rfl rfl rfl iD rfl
theorem St.En (hg:G id=some (.own (s.av v_ours v_peers v_shelf))) (h:s.ok) (l:bw v_ours/\bw v_peers/\bw v_shelf):ag T G ay (.ptr id [11,1] 14)=some (.int .i64 s.heldB):=ld2 hg (StM.szl h l) rfl rfl (ss2:=[1,1]) rfl rfl rfl rfl iD rfl
theorem St.B3 (hg:G id=some (.own (s.av v_ours v_peers v_shelf))) (h:s.ok) (l:bw v_ours/\bw v_peers/\bw v_shelf):ag T G du (.ptr id [12] 15)=some (.bool s.behind):=ld1 hg (StM.szl h l) rfl rfl lL rfl
theorem St.Am (hg:G id=some (.own (s.av v_ours v_peers v_shelf))) (h:s.ok) (l:bw v_ours/\bw v_peers/\bw v_shelf):ag T G cc (.ptr id [13] 16)=some (mT s.ptsA s.ptsB):=ld1 hg (StM.szl h l) rfl rfl mf (su h.ptsA h.ptsB)
theorem St.sg (hg:G id=some (.own (s.av v_ours v_peers v_shelf))) (h:s.ok) (l:bw v_ours/\bw v_peers/\bw v_shelf):ag T G ar (.ptr id [13,0] 16)=some (.agg (s.ptsA.map u8v)):=ld2 hg (StM.szl h l) rfl rfl (ss2:=[32,32]) (by simp[Esc.sz,szh h.ptsA,szh h.ptsB]) rfl rfl rfl bZ (gm h.ptsA)
theorem St.zb (hg:G id=some (.own (s.av v_ours v_peers v_shelf))) (h:s.ok) (l:bw v_ours/\bw v_peers/\bw v_shelf):ag T G ar (.ptr id [13,1] 48)=some (.agg (s.ptsB.map u8v)):=ld2 hg (StM.szl h l) rfl rfl (ss2:=[32,32]) (by simp[Esc.sz,szh h.ptsA,szh h.ptsB]) rfl rfl rfl bZ (gm h.ptsB)
theorem St.xB (hg:G id=some (.own (s.av v_ours v_peers v_shelf))) (h:s.ok) (l:bw v_ours/\bw v_peers/\bw v_shelf):ag T G ar (.ptr id [14] 80)=some (.agg (s.sig.map u8v)):=ld1 hg (StM.szl h l) rfl rfl bZ (gm h.sig)
theorem St.l6 (hg:G id=some (.own (s.av v_ours v_peers v_shelf))) (h:s.ok) (l:bw v_ours/\bw v_peers/\bw v_shelf):ag T G aV (.ptr id [15] 112)=some (v_shelf):=ld1 hg (StM.szl h l) rfl rfl gz (kF l.2.2 rfl)
theorem St.uf (hg:G id=some (.own (s.av v_ours v_peers v_shelf))) (h:s.ok) (l:bw v_ours/\bw v_peers/\bw v_shelf):ag T G ay (.ptr id [16] 113)=some (.int .i64 s.failed):=ld1 hg (StM.szl h l) rfl rfl iD rfl
theorem St.rz (hg:G id=some (.own (s.av v_ours v_peers v_shelf))) (h:s.ok) (l:bw v_ours/\bw v_peers/\bw v_shelf):ag T G aq (.ptr id [17] 114)=some (.int .i64 s.closed):=ld1 hg (StM.szl h l) rfl rfl cu rfl
theorem St.ld (hg:G id=some (.own (s.av v_ours v_peers v_shelf))) (h:s.ok) (l:bw v_ours/\bw v_peers/\bw v_shelf):ag T G aE (.ptr id [] 0)=some (s.av v_ours v_peers v_shelf):=cj na hg (StM.fits h l)
theorem St.tT (hs:Sp F0 G0 ps G) (hi:ps[i]?=some (au id (s.av v_ours v_peers v_shelf))) (h:s.ok) (l:bw v_ours/\bw v_peers/\bw v_shelf) {x:ah}(hx:bw x) (hK:∀ G',Sp F0 G0 (ps.set i (au id (s.av x v_peers v_shelf))) G'->K G'):wg (aF T G aj (.ptr id [4] 4) x) K:=
 fg (st1 (au.own hs hi) (StM.szl h l) rfl rfl bT (kF hx rfl) (by rw[l.1.1,hx.1]) hx.2.2) (hK _ (Sp.setRow hs hi _))
theorem St.tg (hs:Sp F0 G0 ps G) (hi:ps[i]?=some (au id (s.av v_ours v_peers v_shelf))) (h:s.ok) (l:bw v_ours/\bw v_peers/\bw v_shelf) {x:ah}(hx:bw x) (hK:∀ G',Sp F0 G0 (ps.set i (au id (s.av v_ours x v_shelf))) G'->K G'):wg (aF T G aj (.ptr id [5] 5) x) K:=
 fg (st1 (au.own hs hi) (StM.szl h l) rfl rfl bT (kF hx rfl) (by rw[l.2.1.1,hx.1]) hx.2.2) (hK _ (Sp.setRow hs hi _))
theorem St.Lx (hs:Sp F0 G0 ps G) (hi:ps[i]?=some (au id (s.av v_ours v_peers v_shelf))) (h:s.ok) (l:bw v_ours/\bw v_peers/\bw v_shelf) (x:Int) (hK:∀ G',Sp F0 G0 (ps.set i (au id (({ s with loc:=x }:StM).av v_ours v_peers v_shelf))) G'->K G'):wg (aF T G aq (.ptr id [6] 6) (.int .i64 x)) K:=
 fg (st1 (au.own hs hi) (StM.szl h l) rfl rfl cu rfl rfl rfl) (hK _ (Sp.setRow hs hi _))
theorem St.Lw (hs:Sp F0 G0 ps G) (hi:ps[i]?=some (au id (s.av v_ours v_peers v_shelf))) (h:s.ok) (l:bw v_ours/\bw v_peers/\bw v_shelf) (x:Int) (hK:∀ G',Sp F0 G0 (ps.set i (au id (({ s with rem:=x }:StM).av v_ours v_peers v_shelf))) G'->K G'):wg (aF T G aq (.ptr id [7] 7) (.int .i64 x)) K:=
 fg (st1 (au.own hs hi) (StM.szl h l) rfl rfl cu rfl rfl rfl) (hK _ (Sp.setRow hs hi _))
theorem St.Ly (hs:Sp F0 G0 ps G) (hi:ps[i]?=some (au id (s.av v_ours v_peers v_shelf))) (h:s.ok) (l:bw v_ours/\bw v_peers/\bw v_shelf) (x:Int) (hK:∀ G',Sp F0 G0 (ps.set i (au id (({ s with ack:=x }:StM).av v_ours v_peers v_shelf))) G'->K G'):wg (aF T G aq (.ptr id [8] 8) (.int .i64 x)) K:=
 fg (st1 (au.own hs hi) (StM.szl h l) rfl rfl cu rfl rfl rfl) (hK _ (Sp.setRow hs hi _))
theorem St.Mf (hs:Sp F0 G0 ps G) (hi:ps[i]?=some (au id (s.av v_ours v_peers v_shelf))) (h:s.ok) (l:bw v_ours/\bw v_peers/\bw v_shelf) (x y:Int) (hK:∀ G',Sp F0 G0 (ps.set i (au id (({ s with atA:=x,atB:=y }:StM).av v_ours v_peers v_shelf))) G'->K G'):wg (aF T G aU (.ptr id [9] 9) (bE x y)) K:=
 fg (st1 (au.own hs hi) (StM.szl h l) rfl rfl cK rfl rfl rfl) (hK _ (Sp.setRow hs hi _))
theorem St.Lv (hs:Sp F0 G0 ps G) (hi:ps[i]?=some (au id (s.av v_ours v_peers v_shelf))) (h:s.ok) (l:bw v_ours/\bw v_peers/\bw v_shelf) (x y:Int) (hK:∀ G',Sp F0 G0 (ps.set i (au id (({ s with sgnA:=x,sgnB:=y }:StM).av v_ours v_peers v_shelf))) G'->K G'):wg (aF T G aU (.ptr id [10] 11) (bE x y)) K:=
 fg (st1 (au.own hs hi) (StM.szl h l) rfl rfl cK rfl rfl rfl) (hK _ (Sp.setRow hs hi _))
theorem St.Kl (hs:Sp F0 G0 ps G) (hi:ps[i]?=some (au id (s.av v_ours v_peers v_shelf))) (h:s.ok) (l:bw v_ours/\bw v_peers/\bw v_shelf) (x y:Int) (hK:∀ G',Sp F0 G0 (ps.set i (au id (({ s with heldA:=x,heldB:=y }:StM).av v_ours v_peers v_shelf))) G'->K G'):wg (aF T G aU (.ptr id [11] 13) (bE x y)) K:=
 fg (st1 (au.own hs hi) (StM.szl h l) rfl rfl cK rfl rfl rfl) (hK _ (Sp.setRow hs hi _))
theorem St.BE (hs:Sp F0 G0 ps G) (hi:ps[i]?=some (au id (s.av v_ours v_peers v_shelf))) (h:s.ok) (l:bw v_ours/\bw v_peers/\bw v_shelf) (x:Bool) (hK:∀ G',Sp F0 G0 (ps.set i (au id (({ s with behind:=x }:StM).av v_ours v_peers v_shelf))) G'->K G'):wg (aF T G du (.ptr id [12] 15) (.bool x)) K:=
 fg (st1 (au.own hs hi) (StM.szl h l) rfl rfl lL rfl rfl rfl) (hK _ (Sp.setRow hs hi _))
theorem St.IU (hs:Sp F0 G0 ps G) (hi:ps[i]?=some (au id (s.av v_ours v_peers v_shelf))) (h:s.ok) (l:bw v_ours/\bw v_peers/\bw v_shelf) {x y:List UInt8}(hx:x.length=32) (hy:y.length=32) (hK:∀ G',Sp F0 G0 (ps.set i (au id (({ s with ptsA:=x,ptsB:=y }:StM).av v_ours v_peers v_shelf))) G'->K G'):wg (aF T G cc (.ptr id [13] 16) (mT x y)) K:=
 fg (st1 (au.own hs hi) (StM.szl h l) rfl rfl mf (su hx hy) (by simp[mT,Esc.sz,szs,szh hx,szh hy,szh h.ptsA,szh h.ptsB]) (by simp[mT,Esc.okv,mz,kM])) (hK _ (Sp.setRow hs hi _))
theorem St.IQ (hs:Sp F0 G0 ps G) (hi:ps[i]?=some (au id (s.av v_ours v_peers v_shelf))) (h:s.ok) (l:bw v_ours/\bw v_peers/\bw v_shelf) {x:List UInt8}(hx:x.length=32) (hK:∀ G',Sp F0 G0 (ps.set i (au id (({ s with sig:=x }:StM).av v_ours v_peers v_shelf))) G'->K G'):wg (aF T G ar (.ptr id [14] 80) (.agg (x.map u8v))) K:=
 fg (st1 (au.own hs hi) (StM.szl h l) rfl rfl bZ (gm hx) (by simp[Esc.sz,szh hx,szh h.sig]) (by simp[Esc.okv,kM])) (hK _ (Sp.setRow hs hi _))
theorem St.vO (hs:Sp F0 G0 ps G) (hi:ps[i]?=some (au id (s.av v_ours v_peers v_shelf))) (h:s.ok) (l:bw v_ours/\bw v_peers/\bw v_shelf) {x:ah}(hx:bw x) (hK:∀ G',Sp F0 G0 (ps.set i (au id (s.av v_ours v_peers x))) G'->K G'):wg (aF T G aV (.ptr id [15] 112) x) K:=
 fg (st1 (au.own hs hi) (StM.szl h l) rfl rfl gz (kF hx rfl) (by rw[l.2.2.1,hx.1]) hx.2.2) (hK _ (Sp.setRow hs hi _))
theorem St.st (hs:Sp F0 G0 ps G) (hi:ps[i]?=some (au id (s.av v_ours v_peers v_shelf))) (h:s.ok) (l:bw v_ours/\bw v_peers/\bw v_shelf) {s':StM}{w_ours w_peers w_shelf:ah}(h':s'.ok) (m:bw w_ours/\bw w_peers/\bw w_shelf) (hK:∀ G',Sp F0 G0 (ps.set i (au id (s'.av w_ours w_peers w_shelf))) G'->K G'):wg (aF T G aE (.ptr id [] 0) (s'.av w_ours w_peers w_shelf)) K:=
 fg (ig na (au.own hs hi) (StM.fits h' m) (by rw[StM.sz h l,StM.sz h' m]) (StM.okv m)) (hK _ (Sp.setRow hs hi _))
theorem St.nw {s':StM}{w_ours w_peers w_shelf:ah}(hs:Sp F0 G0 ps G) (h':s'.ok) (m:bw w_ours/\bw w_peers/\bw w_shelf) {K:AId->ak->Prop}(hK:∀ i G',Sp F0 G0 (au i (s'.av w_ours w_peers w_shelf)::ps) G'->K i G'):br G (.own hO) fun i G2=>wg (aF T G2 aE (.ptr i [] 0) (s'.av w_ours w_peers w_shelf)) fun G3=>K i G3:=
 jL hs na (StM.fits h' m) (by rw[StM.sz h' m];rfl) (StM.okv m) hK
end
end Go.Esc.M
namespace Go.Esc.M
open Go Go.Esc
structure RcM where
 kind:Int
 upd:aL
 index:Int
 cntA:Int
 cntB:Int
 sig:List UInt8
 secret:List UInt8
 point:List UInt8
 code:Int
 deriving DecidableEq
def RcM.cs (s:RcM) (v_upds:ah):List ah:=[.int .i64 s.kind,s.upd.av,v_upds,.int .i64 s.index,.agg [.int .i64 s.cntA,.int .i64 s.cntB],.agg (s.sig.map u8v),.agg (s.secret.map u8v),.agg (s.point.map u8v),.int .i64 s.code]
def RcM.av (s:RcM) (v_upds:ah):ah:=.agg (s.cs v_upds)
structure RcM.ok (s:RcM):Prop where
 kind:I64 s.kind
 upd:s.upd.ok
 index:I64 s.index
 cntA:I64 s.cntA
 cntB:I64 s.cntB
 sig:s.sig.length=32
 secret:s.secret.length=32
 point:s.point.length=32
 code:I64 s.code
theorem RcM.szl {s:RcM}{v_upds:ah}(h:s.ok) (l:bw v_upds):(s.cs v_upds).map Esc.sz=[1,36,1,1,2,32,32,32,1]:=by
 simp[RcM.cs,Esc.sz,szs,aL.sz h.upd,szh h.sig,szh h.secret,szh h.point,l.1]
theorem RcM.sz {s:RcM}{v_upds:ah}(h:s.ok) (l:bw v_upds):Esc.sz (s.av v_upds)=138:=by
 have e:=RcM.szl h l;rw[RcM.av,Esc.sz,rW,e];rfl
theorem RcM.fits {s:RcM}{v_upds:ah}(h:s.ok) (l:bw v_upds):dD nY (s.av v_upds)=true:=by
 have h1:=RcM.sz h l;have h2:(s.av v_upds).isAgg=true:=rfl;simp[dD,h1,h2,nY,kZ.isAgg]
theorem RcM.okv {s:RcM}{v_upds:ah}(l:bw v_upds):Esc.okv (s.av v_upds)=true:=by
 simp[RcM.av,RcM.cs,Esc.okv,mz,kM,l.2.2,aL.okv _]
section
variable {F0:List AId}{G0 G:ak}{ps:List LP}{i:Nat}{id:AId}{s:RcM}{K:ak->Prop}{v_upds:ah}
theorem Rc.sj (hg:G id=some (.own (s.av v_upds))) (h:s.ok) (l:bw v_upds):ag T G ay (.ptr id [0] 0)=some (.int .i64 s.kind):=ld1 hg (RcM.szl h l) rfl rfl iD rfl
theorem Rc.Al (hg:G id=some (.own (s.av v_upds))) (h:s.ok) (l:bw v_upds):ag T G aG (.ptr id [1] 1)=some (s.upd.av):=ld1 hg (RcM.szl h l) rfl rfl dE (aL.fits h.upd)
theorem Rc.za (hg:G id=some (.own (s.av v_upds))) (h:s.ok) (l:bw v_upds):ag T G aj (.ptr id [2] 37)=some (v_upds):=ld1 hg (RcM.szl h l) rfl rfl bT (kF l rfl)
theorem Rc.ni (hg:G id=some (.own (s.av v_upds))) (h:s.ok) (l:bw v_upds):ag T G aq (.ptr id [3] 38)=some (.int .i64 s.index):=ld1 hg (RcM.szl h l) rfl rfl cu rfl
theorem Rc.FE (hg:G id=some (.own (s.av v_upds))) (h:s.ok) (l:bw v_upds):ag T G aU (.ptr id [4] 39)=some (bE s.cntA s.cntB):=ld1 hg (RcM.szl h l) rfl rfl cK rfl
theorem Rc.C5 (hg:G id=some (.own (s.av v_upds))) (h:s.ok) (l:bw v_upds):ag T G ay (.ptr id [4,0] 39)=some (.int .i64 s.cntA):=ld2 hg (RcM.szl h l) rfl rfl (ss2:=[1,1]) rfl rfl rfl rfl iD rfl
theorem Rc.KC (hg:G id=some (.own (s.av v_upds))) (h:s.ok) (l:bw v_upds):ag T G ay (.ptr id [4,1] 40)=some (.int .i64 s.cntB):=ld2 hg (RcM.szl h l) rfl rfl (ss2:=[1,1]) rfl rfl rfl rfl iD rfl
theorem Rc.xB (hg:G id=some (.own (s.av v_upds))) (h:s.ok) (l:bw v_upds):ag T G ar (.ptr id [5] 41)=some (.agg (s.sig.map u8v)):=ld1 hg (RcM.szl h l) rfl rfl bZ (gm h.sig)
theorem Rc.xC (hg:G id=some (.own (s.av v_upds))) (h:s.ok) (l:bw v_upds):ag T G ar (.ptr id [6] 73)=some (.agg (s.secret.map u8v)):=ld1 hg (RcM.szl h l) rfl rfl bZ (gm h.secret)
theorem Rc.An (hg:G id=some (.own (s.av v_upds))) (h:s.ok) (l:bw v_upds):ag T G ar (.ptr id [7] 105)=some (.agg (s.point.map u8v)):=ld1 hg (RcM.szl h l) rfl rfl bZ (gm h.point)
theorem Rc.ld (hg:G id=some (.own (s.av v_upds))) (h:s.ok) (l:bw v_upds):ag T G ax (.ptr id [] 0)=some (s.av v_upds):=cj pK hg (RcM.fits h l)
theorem Rc.IQ (hs:Sp F0 G0 ps G) (hi:ps[i]?=some (au id (s.av v_upds))) (h:s.ok) (l:bw v_upds) {x:List UInt8}(hx:x.length=32) (hK:∀ G',Sp F0 G0 (ps.set i (au id (({ s with sig:=x }:RcM).av v_upds))) G'->K G'):wg (aF T G ar (.ptr id [5] 41) (.agg (x.map u8v))) K:=
 fg (st1 (au.own hs hi) (RcM.szl h l) rfl rfl bZ (gm hx) (by simp[Esc.sz,szh hx,szh h.sig]) (by simp[Esc.okv,kM])) (hK _ (Sp.setRow hs hi _))
theorem Rc.st (hs:Sp F0 G0 ps G) (hi:ps[i]?=some (au id (s.av v_upds))) (h:s.ok) (l:bw v_upds) {s':RcM}{w_upds:ah}(h':s'.ok) (m:bw w_upds) (hK:∀ G',Sp F0 G0 (ps.set i (au id (s'.av w_upds))) G'->K G'):wg (aF T G ax (.ptr id [] 0) (s'.av w_upds)) K:=
 fg (ig pK (au.own hs hi) (RcM.fits h' m) (by rw[RcM.sz h l,RcM.sz h' m]) (RcM.okv m)) (hK _ (Sp.setRow hs hi _))
theorem Rc.nw {s':RcM}{w_upds:ah}(hs:Sp F0 G0 ps G) (h':s'.ok) (m:bw w_upds) {K:AId->ak->Prop}(hK:∀ i G',Sp F0 G0 (au i (s'.av w_upds)::ps) G'->K i G'):br G (.own dw) fun i G2=>wg (aF T G2 ax (.ptr i [] 0) (s'.av w_upds)) fun G3=>K i G3:=
 jL hs pK (RcM.fits h' m) (by rw[RcM.sz h' m];rfl) (RcM.okv m) hK
end
end Go.Esc.M
namespace Go.Esc.M
open Go Go.Esc
structure CfM where
 side:Int
 cap:Int
 ours:Int
 seed:List UInt8
 key:List UInt8
 pkey:List UInt8
 ptsA:List UInt8
 ptsB:List UInt8
 seg:Int
def CfM.cs (s:CfM):List ah:=[.int .i64 s.side,.int .i64 s.cap,.int .i64 s.ours,.agg (s.seed.map u8v),.agg (s.key.map u8v),.agg (s.pkey.map u8v),.agg [.agg (s.ptsA.map u8v),.agg (s.ptsB.map u8v)],.int .i64 s.seg]
def CfM.av (s:CfM):ah:=.agg (s.cs )
structure CfM.ok (s:CfM):Prop where
 side:I64 s.side
 cap:I64 s.cap
 ours:I64 s.ours
 seed:s.seed.length=32
 key:s.key.length=32
 pkey:s.pkey.length=32
 ptsA:s.ptsA.length=32
 ptsB:s.ptsB.length=32
 seg:I64 s.seg
theorem CfM.szl {s:CfM}(h:s.ok):(s.cs ).map Esc.sz=[1,1,1,32,32,32,64,1]:=by
 simp[CfM.cs,Esc.sz,szs,szh h.seed,szh h.key,szh h.pkey,szh h.ptsA,szh h.ptsB]
theorem CfM.sz {s:CfM}(h:s.ok):Esc.sz (s.av )=164:=by
 have e:=CfM.szl h;rw[CfM.av,Esc.sz,rW,e];rfl
theorem CfM.fits {s:CfM}(h:s.ok):dD nt (s.av )=true:=by
 have h1:=CfM.sz h;have h2:(s.av ).isAgg=true:=rfl;simp[dD,h1,h2,nt,kZ.isAgg]
theorem CfM.okv {s:CfM}:Esc.okv (s.av )=true:=by
 simp[CfM.av,CfM.cs,Esc.okv,mz,kM]
section
variable {F0:List AId}{G0 G:ak}{ps:List LP}{i:Nat}{id:AId}{s:CfM}{K:ak->Prop}
theorem Cf.lJ (hg:G id=some (.own (s.av ))) (h:s.ok):ag T G ay (.ptr id [0] 0)=some (.int .i64 s.side):=ld1 hg (CfM.szl h ) rfl rfl iD rfl
theorem Cf.mL (hg:G id=some (.own (s.av ))) (h:s.ok):ag T G aq (.ptr id [1] 1)=some (.int .i64 s.cap):=ld1 hg (CfM.szl h ) rfl rfl cu rfl
theorem Cf.dM (hg:G id=some (.own (s.av ))) (h:s.ok):ag T G aq (.ptr id [2] 2)=some (.int .i64 s.ours):=ld1 hg (CfM.szl h ) rfl rfl cu rfl
theorem Cf.ue (hg:G id=some (.own (s.av ))) (h:s.ok):ag T G ar (.ptr id [3] 3)=some (.agg (s.seed.map u8v)):=ld1 hg (CfM.szl h ) rfl rfl bZ (gm h.seed)
theorem Cf.Jq (hg:G id=some (.own (s.av ))) (h:s.ok):ag T G ar (.ptr id [4] 35)=some (.agg (s.key.map u8v)):=ld1 hg (CfM.szl h ) rfl rfl bZ (gm h.key)
theorem Cf.GR (hg:G id=some (.own (s.av ))) (h:s.ok):ag T G ar (.ptr id [5] 67)=some (.agg (s.pkey.map u8v)):=ld1 hg (CfM.szl h ) rfl rfl bZ (gm h.pkey)
theorem Cf.Am (hg:G id=some (.own (s.av ))) (h:s.ok):ag T G cc (.ptr id [6] 99)=some (mT s.ptsA s.ptsB):=ld1 hg (CfM.szl h ) rfl rfl mf (su h.ptsA h.ptsB)
theorem Cf.sg (hg:G id=some (.own (s.av ))) (h:s.ok):ag T G ar (.ptr id [6,0] 99)=some (.agg (s.ptsA.map u8v)):=ld2 hg (CfM.szl h ) rfl rfl (ss2:=[32,32]) (by simp[Esc.sz,szh h.ptsA,szh h.ptsB]) rfl rfl rfl bZ (gm h.ptsA)
theorem Cf.zb (hg:G id=some (.own (s.av ))) (h:s.ok):ag T G ar (.ptr id [6,1] 131)=some (.agg (s.ptsB.map u8v)):=ld2 hg (CfM.szl h ) rfl rfl (ss2:=[32,32]) (by simp[Esc.sz,szh h.ptsA,szh h.ptsB]) rfl rfl rfl bZ (gm h.ptsB)
theorem Cf.ld (hg:G id=some (.own (s.av ))) (h:s.ok):ag T G bU (.ptr id [] 0)=some (s.av ):=cj kp hg (CfM.fits h )
theorem Cf.tT (hs:Sp F0 G0 ps G) (hi:ps[i]?=some (au id (s.av ))) (h:s.ok) (x:Int) (hK:∀ G',Sp F0 G0 (ps.set i (au id (({ s with ours:=x }:CfM).av ))) G'->K G'):wg (aF T G aq (.ptr id [2] 2) (.int .i64 x)) K:=
 fg (st1 (au.own hs hi) (CfM.szl h ) rfl rfl cu rfl rfl rfl) (hK _ (Sp.setRow hs hi _))
theorem Cf.IU (hs:Sp F0 G0 ps G) (hi:ps[i]?=some (au id (s.av ))) (h:s.ok) {x y:List UInt8}(hx:x.length=32) (hy:y.length=32) (hK:∀ G',Sp F0 G0 (ps.set i (au id (({ s with ptsA:=x,ptsB:=y }:CfM).av ))) G'->K G'):wg (aF T G cc (.ptr id [6] 99) (mT x y)) K:=
 fg (st1 (au.own hs hi) (CfM.szl h ) rfl rfl mf (su hx hy) (by simp[mT,Esc.sz,szs,szh hx,szh hy,szh h.ptsA,szh h.ptsB]) (by simp[mT,Esc.okv,mz,kM])) (hK _ (Sp.setRow hs hi _))
theorem Cf.st (hs:Sp F0 G0 ps G) (hi:ps[i]?=some (au id (s.av ))) (h:s.ok) {s':CfM}(h':s'.ok) (hK:∀ G',Sp F0 G0 (ps.set i (au id (s'.av ))) G'->K G'):wg (aF T G bU (.ptr id [] 0) (s'.av )) K:=
 fg (ig kp (au.own hs hi) (CfM.fits h' ) (by rw[CfM.sz h ,CfM.sz h' ]) (CfM.okv )) (hK _ (Sp.setRow hs hi _))
theorem Cf.nw {s':CfM}(hs:Sp F0 G0 ps G) (h':s'.ok) {K:AId->ak->Prop}(hK:∀ i G',Sp F0 G0 (au i (s'.av )::ps) G'->K i G'):br G (.own rK) fun i G2=>wg (aF T G2 bU (.ptr i [] 0) (s'.av )) fun G3=>K i G3:=
 jL hs kp (CfM.fits h' ) (by rw[CfM.sz h' ];rfl) (CfM.okv ) hK
end
end Go.Esc.M
namespace Go.Esc.M
open Go Go.Esc
structure DlM where
 cap:Int
 ours:Int
 seedsA:List UInt8
 seedsB:List UInt8
 keysA:List UInt8
 keysB:List UInt8
def DlM.cs (s:DlM):List ah:=[.int .i64 s.cap,.int .i64 s.ours,.agg [.agg (s.seedsA.map u8v),.agg (s.seedsB.map u8v)],.agg [.agg (s.keysA.map u8v),.agg (s.keysB.map u8v)]]
def DlM.av (s:DlM):ah:=.agg (s.cs )
structure DlM.ok (s:DlM):Prop where
 cap:I64 s.cap
 ours:I64 s.ours
 seedsA:s.seedsA.length=32
 seedsB:s.seedsB.length=32
 keysA:s.keysA.length=32
 keysB:s.keysB.length=32
theorem DlM.szl {s:DlM}(h:s.ok):(s.cs ).map Esc.sz=[1,1,64,64]:=by
 simp[DlM.cs,Esc.sz,szs,szh h.seedsA,szh h.seedsB,szh h.keysA,szh h.keysB]
theorem DlM.sz {s:DlM}(h:s.ok):Esc.sz (s.av )=130:=by
 have e:=DlM.szl h;rw[DlM.av,Esc.sz,rW,e];rfl
theorem DlM.fits {s:DlM}(h:s.ok):dD lC (s.av )=true:=by
 have h1:=DlM.sz h;have h2:(s.av ).isAgg=true:=rfl;simp[dD,h1,h2,lC,kZ.isAgg]
theorem DlM.okv {s:DlM}:Esc.okv (s.av )=true:=by
 simp[DlM.av,DlM.cs,Esc.okv,mz,kM]
section
variable {F0:List AId}{G0 G:ak}{ps:List LP}{i:Nat}{id:AId}{s:DlM}{K:ak->Prop}
theorem Dl.mL (hg:G id=some (.own (s.av ))) (h:s.ok):ag T G aq (.ptr id [0] 0)=some (.int .i64 s.cap):=ld1 hg (DlM.szl h ) rfl rfl cu rfl
theorem Dl.dM (hg:G id=some (.own (s.av ))) (h:s.ok):ag T G aq (.ptr id [1] 1)=some (.int .i64 s.ours):=ld1 hg (DlM.szl h ) rfl rfl cu rfl
theorem Dl.pS (hg:G id=some (.own (s.av ))) (h:s.ok):ag T G ar (.ptr id [2,0] 2)=some (.agg (s.seedsA.map u8v)):=ld2 hg (DlM.szl h ) rfl rfl (ss2:=[32,32]) (by simp[Esc.sz,szh h.seedsA,szh h.seedsB]) rfl rfl rfl bZ (gm h.seedsA)
theorem Dl.pR (hg:G id=some (.own (s.av ))) (h:s.ok):ag T G ar (.ptr id [2,1] 34)=some (.agg (s.seedsB.map u8v)):=ld2 hg (DlM.szl h ) rfl rfl (ss2:=[32,32]) (by simp[Esc.sz,szh h.seedsA,szh h.seedsB]) rfl rfl rfl bZ (gm h.seedsB)
theorem Dl.ry (hg:G id=some (.own (s.av ))) (h:s.ok):ag T G ar (.ptr id [3,0] 66)=some (.agg (s.keysA.map u8v)):=ld2 hg (DlM.szl h ) rfl rfl (ss2:=[32,32]) (by simp[Esc.sz,szh h.keysA,szh h.keysB]) rfl rfl rfl bZ (gm h.keysA)
theorem Dl.ru (hg:G id=some (.own (s.av ))) (h:s.ok):ag T G ar (.ptr id [3,1] 98)=some (.agg (s.keysB.map u8v)):=ld2 hg (DlM.szl h ) rfl rfl (ss2:=[32,32]) (by simp[Esc.sz,szh h.keysA,szh h.keysB]) rfl rfl rfl bZ (gm h.keysB)
theorem Dl.ld (hg:G id=some (.own (s.av ))) (h:s.ok):ag T G db (.ptr id [] 0)=some (s.av ):=cj nf hg (DlM.fits h )
theorem Dl.tT (hs:Sp F0 G0 ps G) (hi:ps[i]?=some (au id (s.av ))) (h:s.ok) (x:Int) (hK:∀ G',Sp F0 G0 (ps.set i (au id (({ s with ours:=x }:DlM).av ))) G'->K G'):wg (aF T G aq (.ptr id [1] 1) (.int .i64 x)) K:=
 fg (st1 (au.own hs hi) (DlM.szl h ) rfl rfl cu rfl rfl rfl) (hK _ (Sp.setRow hs hi _))
theorem Dl.st (hs:Sp F0 G0 ps G) (hi:ps[i]?=some (au id (s.av ))) (h:s.ok) {s':DlM}(h':s'.ok) (hK:∀ G',Sp F0 G0 (ps.set i (au id (s'.av ))) G'->K G'):wg (aF T G db (.ptr id [] 0) (s'.av )) K:=
 fg (ig nf (au.own hs hi) (DlM.fits h' ) (by rw[DlM.sz h ,DlM.sz h' ]) (DlM.okv )) (hK _ (Sp.setRow hs hi _))
theorem Dl.nw {s':DlM}(hs:Sp F0 G0 ps G) (h':s'.ok) {K:AId->ak->Prop}(hK:∀ i G',Sp F0 G0 (au i (s'.av )::ps) G'->K i G'):br G (.own pV) fun i G2=>wg (aF T G2 db (.ptr i [] 0) (s'.av )) fun G3=>K i G3:=
 jL hs nf (DlM.fits h' ) (by rw[DlM.sz h' ];rfl) (DlM.okv ) hK
end
end Go.Esc.M
namespace Go.Esc.M
open Go Go.Esc
structure jj where
 kind:Int
 side:Bool
 amount:Int
 id:Int
 hash:List UInt8
 note:List UInt8
 index:Int
def jj.cs (s:jj):List ah:=[.int .i64 s.kind,.bool s.side,.int .i64 s.amount,.int .i64 s.id,.agg (s.hash.map u8v),.str s.note,.int .i64 s.index]
def jj.av (s:jj):ah:=.agg (s.cs )
structure jj.ok (s:jj):Prop where
 kind:I64 s.kind
 amount:I64 s.amount
 id:I64 s.id
 hash:s.hash.length=32
 note:s.note.length≤9223372036854775807
 index:I64 s.index
theorem jj.szl {s:jj}(h:s.ok):(s.cs ).map Esc.sz=[1,1,1,1,32,1,1]:=by
 simp[jj.cs,Esc.sz,szs,szh h.hash]
theorem jj.sz {s:jj}(h:s.ok):Esc.sz (s.av )=38:=by
 have e:=jj.szl h;rw[jj.av,Esc.sz,rW,e];rfl
theorem jj.fits {s:jj}(h:s.ok):dD kh (s.av )=true:=by
 have h1:=jj.sz h;have h2:(s.av ).isAgg=true:=rfl;simp[dD,h1,h2,kh,kZ.isAgg]
theorem jj.okv {s:jj}:Esc.okv (s.av )=true:=by
 simp[jj.av,jj.cs,Esc.okv,mz,kM]
section
variable {F0:List AId}{G0 G:ak}{ps:List LP}{i:Nat}{id:AId}{s:jj}{K:ak->Prop}
theorem Oq.sj (hg:G id=some (.own (s.av ))) (h:s.ok):ag T G ay (.ptr id [0] 0)=some (.int .i64 s.kind):=ld1 hg (jj.szl h ) rfl rfl iD rfl
theorem Oq.lJ (hg:G id=some (.own (s.av ))) (h:s.ok):ag T G du (.ptr id [1] 1)=some (.bool s.side):=ld1 hg (jj.szl h ) rfl rfl lL rfl
theorem Oq.xD (hg:G id=some (.own (s.av ))) (h:s.ok):ag T G aq (.ptr id [2] 2)=some (.int .i64 s.amount):=ld1 hg (jj.szl h ) rfl rfl cu rfl
theorem Oq.B0 (hg:G id=some (.own (s.av ))) (h:s.ok):ag T G aq (.ptr id [3] 3)=some (.int .i64 s.id):=ld1 hg (jj.szl h ) rfl rfl cu rfl
theorem Oq.sk (hg:G id=some (.own (s.av ))) (h:s.ok):ag T G ar (.ptr id [4] 4)=some (.agg (s.hash.map u8v)):=ld1 hg (jj.szl h ) rfl rfl bZ (gm h.hash)
theorem Oq.zc (hg:G id=some (.own (s.av ))) (h:s.ok):ag T G bH (.ptr id [5] 36)=some (.str s.note):=ld1 hg (jj.szl h ) rfl rfl fS rfl
theorem Oq.ni (hg:G id=some (.own (s.av ))) (h:s.ok):ag T G aq (.ptr id [6] 37)=some (.int .i64 s.index):=ld1 hg (jj.szl h ) rfl rfl cu rfl
theorem Oq.ld (hg:G id=some (.own (s.av ))) (h:s.ok):ag T G ja (.ptr id [] 0)=some (s.av ):=cj kI hg (jj.fits h )
theorem Oq.st (hs:Sp F0 G0 ps G) (hi:ps[i]?=some (au id (s.av ))) (h:s.ok) {s':jj}(h':s'.ok) (hK:∀ G',Sp F0 G0 (ps.set i (au id (s'.av ))) G'->K G'):wg (aF T G ja (.ptr id [] 0) (s'.av )) K:=
 fg (ig kI (au.own hs hi) (jj.fits h' ) (by rw[jj.sz h ,jj.sz h' ]) (jj.okv )) (hK _ (Sp.setRow hs hi _))
theorem Oq.nw {s':jj}(hs:Sp F0 G0 ps G) (h':s'.ok) {K:AId->ak->Prop}(hK:∀ i G',Sp F0 G0 (au i (s'.av )::ps) G'->K i G'):br G (.own q7) fun i G2=>wg (aF T G2 ja (.ptr i [] 0) (s'.av )) fun G3=>K i G3:=
 jL hs kI (jj.fits h' ) (by rw[jj.sz h' ];rfl) (jj.okv ) hK
end
end Go.Esc.M
