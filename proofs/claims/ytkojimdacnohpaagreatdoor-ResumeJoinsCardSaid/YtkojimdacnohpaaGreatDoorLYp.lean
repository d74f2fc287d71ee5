import Derived.Test.YtkojimdacnohpaaGreatDoorLYb
import Derived.Test.YtkojimdacnohpaaGreatDoorLWc
import Derived.Test.YtkojimdacnohpaaGreatDoorLSe
set_option maxHeartbeats 1000000
set_option linter.unusedSimpArgs false
set_option linter.unusedVariables false
set_option maxRecDepth 20000
namespace Go.Esc.M
open Go Go.Esc
structure Sync (f g:StF):Prop where
 p:f.p=g.o
 loc:f.s.loc=g.s.rem
 atA:f.s.atA=g.s.sgnB
 atB:f.s.atB=g.s.sgnA
 ack:f.s.ack=g.s.loc
 heldA:f.s.heldA=g.s.atB
 heldB:f.s.heldB=g.s.atA
structure ab3 (c d:CfM) (f g:StF) (q:List cr):Prop where
 takes:aaG c d f q
 sync:Sync (aay f q) g
structure Ends (c d:CfM) (f g:StF):Prop where
 key:c.pkey=d.key
 seed:d.seed.length=32
 side:f.s.side=1-g.s.side
 bo:f.s.bo=g.s.bp
 bp:f.s.bp=g.s.bo
theorem abd {rm:Bool}{id:Int}{l Y:List aL}{a b:Int}(ha:0≤a) (hab:a≤b) (hb:b≤(l.length:Nat)) (h:(ey rm id (cw l a)).isSome=true):ey rm id (cw (l++Y) b)=ey rm id (cw l a):=by
 unfold cw at h ⊢;rw[List.take_append_of_le_length (by omega),<- rV (show a.toNat≤b.toNat by omega)];exact yu h
section
variable {c d:CfM}{F G f g:StF}{Y:List aL}
theorem abF {u:aL}(I:iY F) (J:iY g) (S:Sync F g) (hk:uO F.s=false) (hbp:F.s.bp=g.s.bo) (hY:F.o=g.p++Y) (hfull:yr g=false) (hn:kJ g.o g.p u=0)
  (ha:u.kind=1->kX g.o g.p g.s.heldB<483/\u.amount≤SB g.s.bo g.o g.p g.s.atA.toNat g.s.heldB.toNat)
  (hr:u.kind≠1->(ey false u.id (cw g.p g.s.heldB)).isSome=true/\(u.kind=2->sha u.hash=((ey false u.id (cw g.p g.s.heldB)).getD aL.zero).hash)):vu F u=0:=by
 have a0:=J.a0;have a1:=J.a1;have a2:=J.a2;have a3:=J.a3;have b0:=J.b0;have b1:=J.b1;have b2:=J.b2;have b3:=J.b3;have hlo:=J.lo;unfold vu;rw[if_neg (by rw[hk];decide),S.p,S.atB,if_neg];rotate_left
 ·intro hh;have hh2:¬ 512≤IntKind.i64.wrap ((g.o.length:Int)-g.s.heldA):=by
   unfold yr at hfull;simp only[Bool.or_eq_false_iff,decide_eq_false_iff_not]at hfull;exact hfull.2
  rw[i64_in (by omega) (by omega)]at hh hh2;omega
 rw[hY,if_neg (fun hh=>hh (vn hn)),I.fA,S.atA];by_cases h1:u.kind=1
 ·rw[if_pos h1];obtain⟨h2,h3⟩:=ha h1;have e:kX g.o (g.p++Y) g.s.sgnB=kX g.o g.p g.s.sgnB:=by
   unfold kX cw;rw[List.take_append_of_le_length (by omega)]
  rw[e,if_neg (by have:=Ab (o:=g.o) (p:=g.p) b0 b1;omega),I.xk.1,hbp,S.p,S.heldB,S.atA,hY,if_neg];have:=abq (base:=g.s.bo) (mine:=g.o) (others:=g.p) (Y:=Y) (fm:=g.s.atA.toNat) (a:=g.s.heldB.toNat) (b:=g.s.sgnB.toNat) J.vo (by rw[<- hY];exact I.vo) (by omega) (by omega);omega
 ·rw[if_neg h1];obtain⟨h2,h3⟩:=hr h1;have e:=abd (Y:=Y) b0 b1 (show g.s.sgnB≤(g.p.length:Nat) by omega) h2;rw[e,if_neg (by rw[h2];decide),if_neg fun hh=>hh.2 (h3 hh.1)]
theorem abS (I:iY F) (J:iY g) (S:Sync F g) (E:Ends c d F g) (K:aaK c g) (hk:uO F.s=false) (hY:F.o=g.p++Y) (hseed:c.seed.length=32) (h0:(p6 g).2=0) :
  (mU c F (tI d (yG g (p6 g).1))).e=0/\(tI d (yG g (p6 g).1)).kind=4/\(tI d (yG g (p6 g).1)).index=g.s.rem+1:=by
 obtain⟨e,hr,hs,_,hra⟩:=J.sign h0;have h1:¬ ((g.o.length:Int)=g.s.sgnA/\g.s.atB=g.s.sgnB)/\g.s.rem≤281474976710653:=by
  unfold p6 at h0;split at h0
  ·cases h0
  split at h0
  ·cases h0
  rename_i h2;split at h0
  ·cases h0
  rename_i h3;exact⟨fun h=>h2 (.inr h),by omega⟩
 obtain⟨h1,h2⟩:=h1;rw[e];refine⟨?_,rfl,rfl⟩;have a0:=J.a0;have a1:=J.a1;have a2:=J.a2;have a3:=J.a3;have b0:=J.b0;have b1:=J.b1;have b2:=J.b2;have b3:=J.b3;have k0:=J.ack0;have hside:=J.side;obtain⟨m1,m2,m3⟩:=J.stands (n:=g.o.length) (m:=g.s.atB.toNat) (by omega) (Nat.le_refl _) (by omega) (by omega);rw[Int.toNat_of_nonneg (show 0≤g.s.atB by omega)]at m1;have hl:F.p.length=g.o.length:=by rw[S.p]
 have ho:F.o.length=g.p.length+Y.length:=by rw[hY,List.length_append]
 obtain⟨n1,n2,n3⟩:=I.stands (n:=F.s.heldA.toNat) (m:=F.p.length) (by have:=I.a1;omega) (by rw[S.heldA];omega) (by have:=I.b1;have:=I.b2;have:=I.b3;omega) (Nat.le_refl _);rw[Int.toNat_of_nonneg (show 0≤F.s.heldA by have:=I.a0;have:=I.a1;omega)]at n1;have ev:foldM F.s.bo F.s.bp (F.o.take F.s.heldA.toNat) (F.p.take F.p.length)=foldM g.s.bp g.s.bo (g.p.take g.s.atB.toNat) (g.o.take g.o.length):=by
  rw[E.bo,E.bp,S.heldA,S.p,hY,List.take_append_of_le_length (by omega)]
 have ht:=abj g.s.bo g.s.bp (g.o.take g.o.length) (g.p.take g.s.atB.toNat);obtain⟨M,hM⟩:∃ M,M=foldM g.s.bo g.s.bp (g.o.take g.o.length) (g.p.take g.s.atB.toNat):=⟨_,rfl⟩;rw[ev]at n1 n2 n3;obtain⟨N,hN⟩:∃ N,N=foldM g.s.bp g.s.bo (g.p.take g.s.atB.toNat) (g.o.take g.o.length):=⟨_,rfl⟩;rw[<- hN]at n1 n2 n3 ht;rw[<- hM]at m1 ht;obtain⟨_,t1,t2,t3⟩:=ht;obtain⟨g',hg'⟩:∃ g',g'=yG g ({ RcM.zero with kind:=2,index:=g.s.rem+1,cntA:=(g.o.length:Nat),cntB:=g.s.atB }):=⟨_,rfl⟩;obtain⟨pt,hpt⟩:∃ pt,pt=pB c.seed (g.s.ack+1):=⟨_,rfl⟩;have hag:tI d (yG g ({ RcM.zero with kind:=2,index:=g.s.rem+1,cntA:=(g.o.length:Nat),cntB:=g.s.atB }))={ cr.zero with kind:=4,index:=g.s.rem+1,hash:=mac d.key (oI F.s.side (g.s.rem+1) pt N.o N.q N.l).1 }:=by
  have f1:kx (yG g { RcM.zero with kind:=2,index:=g.s.rem+1,cntA:=(g.o.length:Nat),cntB:=g.s.atB }) (g.o.length:Nat) g.s.atB=M:=m1;have f2:IntKind.i64.wrap (1-g.s.side)=F.s.side:=by
   rw[i64_in (by omega) (by omega),E.side]
  have f3:(if g.s.rem+1≠g.s.ack then g.s.ptsB else g.s.ptsA)=pt:=by
   rw[if_pos (by omega),K.b,hpt]
  show ({ cr.zero with kind:=4,index:=g.s.rem+1,hash:=mac d.key (oI (IntKind.i64.wrap (1-g.s.side)) (g.s.rem+1) (if g.s.rem+1≠g.s.ack then g.s.ptsB else g.s.ptsA) (kx (yG g { RcM.zero with kind:=2,index:=g.s.rem+1,cntA:=(g.o.length:Nat),cntB:=g.s.atB }) (g.o.length:Nat) g.s.atB).q (kx (yG g { RcM.zero with kind:=2,index:=g.s.rem+1,cntA:=(g.o.length:Nat),cntB:=g.s.atB }) (g.o.length:Nat) g.s.atB).o (pE (kx (yG g { RcM.zero with kind:=2,index:=g.s.rem+1,cntA:=(g.o.length:Nat),cntB:=g.s.atB }) (g.o.length:Nat) g.s.atB).l)).1 }:cr)=_;rw[f1,f2,f3,t1,t2,t3]
 rw[hag];have hok:okN (g.s.rem+1)=true:=GJ.2 ⟨by omega,by omega⟩;obtain⟨sec,hsec⟩:∃ sec,sec=jS c.seed (g.s.rem+1):=⟨_,rfl⟩;have hs2:sec.2=0:=by
  rw[hsec];unfold jS;rw[hok,cond_true]
 have hpt2:pt=sha sec.1:=by
  rw[hpt,hsec,show g.s.ack+1=g.s.rem+1 by omega];rfl
 have hown:yV c F (g.s.rem+1) F.s.heldA (F.p.length:Nat)=((oI F.s.side (g.s.rem+1) pt N.o N.q N.l).1,decide ((oI F.s.side (g.s.rem+1) pt N.o N.q N.l).2=0)):=by
  unfold yV;rw[<- hsec,if_neg (fun h=>h hs2),n1,if_neg (fun h=>h n2),<- hpt2]
 have htx:(oI F.s.side (g.s.rem+1) pt N.o N.q N.l).2=0:=by
  unfold oI;rw[if_neg,n3,cond_true];unfold qZ vZ;rw[E.side];omega
 have hpl:(F.p.length:Int)=(g.o.length:Int):=by rw[hl]
 unfold mU;rw[if_neg (by rw[hk];decide),if_neg (fun h=>h rfl)];rw[if_neg];rotate_left
 ·show ¬ (281474976710653<F.s.loc\/g.s.rem+1≠F.s.loc+1);rw[S.loc];omega
 rw[if_neg (by rw[S.heldA,S.atA,S.atB,hpl];exact fun h=>h1 ⟨h.2,h.1⟩)];show (if (yV c F (g.s.rem+1) F.s.heldA (F.p.length:Nat)).2=false\/mac c.pkey (yV c F (g.s.rem+1) F.s.heldA (F.p.length:Nat)).1≠mac d.key (oI F.s.side (g.s.rem+1) pt N.o N.q N.l).1 then noC 110 else _).e=0;rw[hown,if_neg];rintro (h|h)
 ·have h:decide ((oI F.s.side (g.s.rem+1) pt N.o N.q N.l).2=0)=false:=h;rw[htx]at h;cases h
 ·exact h (by rw[E.key])
theorem abV {n:Int}(I:iY F) (K:aaK d F) (hn:F.s.ack=n) (h0:0≤n) (h1:n≤281474976710653) (hr:F.s.rem=n+1) (hd:d.seed.length=32):(qC d n).kind=5/\(qC d n).ok/\(jR F (qC d n)).2=0:=by
 obtain⟨m,hm⟩:∃ m,m=qC d n:=⟨_,rfl⟩;have he:=aa2 (d:=d) h0 h1;rw[<- hm]at he ⊢;have e1:m.kind=5:=by rw[he]
 have e2:m.index=n:=by rw[he]
 have e3:m.secret=(jS d.seed n).1:=by rw[he]
 have e4:m.hash=pB d.seed (n+2):=by rw[he]
 have hsl:=mZ hd n;refine⟨e1,?_,?_⟩
 ·refine⟨?_,?_,?_,?_,?_,?_,?_,?_⟩
  ·rw[e1];exact iu 5 (by decide) (by decide)
  ·rw[he];exact cL
  ·rw[he];exact cL
  ·rw[e2];exact iu n (by omega) (by omega)
  ·rw[he];exact cL
  ·rw[e4];exact mK _ _
  ·rw[e3];exact hsl
  ·rw[he];simp[cr.zero]
 obtain⟨sec,hsec⟩:∃ sec,sec=(jS d.seed n).1:=⟨_,rfl⟩;have hpt:F.s.ptsA=sha sec:=by rw[K.a,hn,hsec];rfl
 obtain⟨k,hk⟩:∃ k:Nat,n=(k:Int):=⟨n.toNat,by omega⟩;have hsh:=K.h;rw[hn,hk,Int.toNat_natCast]at hsh;have hput:=(aa9 hsh (by omega)).1;rw[<- hk,<- hsec]at hput;rw[<- hsec]at e3;unfold jR;rw[if_neg (by rw[K.live];decide),if_neg (fun h=>h e1)];rw[if_neg];rotate_left
 ·rw[i64_in (by omega) (by omega)];omega
 rw[e3,hpt,if_neg (fun h=>h rfl),hn,hput,if_neg (fun h=>h rfl)]
end
end Go.Esc.M
namespace Go.Esc.M
open Go Go.Esc
structure aaB (c d:CfM) (f g:StF) (q r:List cr):Prop where
 I:iY f
 J:iY g
 K:aaK d f
 H:aaK c g
 E:Ends c d f g
 D:Ends d c g f
 L:ab3 c d f g q
 M:ab3 d c g f r
theorem aaB.swap {c d:CfM}{f g:StF}{q r:List cr}(h:aaB c d f g q r):aaB d c g f r q:=⟨h.J,h.I,h.H,h.K,h.D,h.E,h.M,h.L⟩
theorem Ends.abr {c d:CfM}{f g F:StF}(h:Ends c d f g) (o:aaZ f F):Ends c d F g:=⟨h.key,h.seed,o.side.trans h.side,o.bo.trans h.bo,o.bp.trans h.bp⟩
theorem Ends.ab0 {c d:CfM}{f g F:StF}(h:Ends d c g f) (o:aaZ f F):Ends d c g F:=⟨h.key,h.seed,by rw[o.side];exact h.side,by rw[o.bp];exact h.bo,by rw[o.bo];exact h.bp⟩
def abg (c:CfM) (f:StF) (m:cr):List cr:=if isU m then [] else if m.kind=4 then [qC c f.s.loc] else []
section
variable {c d:CfM}{f g:StF}{q r:List cr}{m:cr}
theorem aaB.ahead (h:aaB c d f g q r):∃ Y,(aay g r).o=f.p++Y:=by
 have o1:=aaA h.L.takes h.I h.K;have o2:=aaA h.M.takes h.J h.H;obtain⟨Y,hY⟩:=o1.p;exact⟨Y,by rw[o2.o,<- h.L.sync.p,hY]⟩
theorem aaB.comes (h:aaB c d f g (m::q) r):aaF c d f m/\aaB c d (rcv f m) g q (r++abg c f m):=by
 obtain⟨ht,hq⟩:=h.L.takes;obtain⟨I',K'⟩:=ht.next h.I h.K
 have o1:=ht.abr h.I;have S:=h.M.sync;refine⟨ht,⟨I',h.J,K',h.H,h.E.abr o1,h.D.ab0 o1,⟨hq,h.L.sync⟩,?_⟩⟩;unfold abg;by_cases h1:isU m
 ·have e:rcv f m=abY f (Bw m):=by unfold rcv;rw[if_pos h1]
  rw[if_pos h1,List.append_nil,e];exact⟨h.M.takes,⟨S.p,S.loc,S.atA,S.atB,S.ack,S.heldA,S.heldB⟩⟩
 rw[if_neg h1];by_cases h4:m.kind=4
 ·have e:rcv f m=yy f m.index m.hash:=by unfold rcv;rw[if_neg h1,if_pos h4]
  rw[if_pos h4];have o3:=aaA hq I' K';have S2:=h.L.sync;rw[aaJ]at S2;obtain⟨_,_,_,_,_,hix⟩:=h.I.came (c:=c) ht.ok (ht.came h4);rw[e]at I' o3 S2 ⊢;obtain⟨aiN,KG⟩:=aaI h.M.takes h.J h.H;have ais:=aaA h.M.takes h.J h.H;obtain⟨F,hF⟩:∃ F,F=aay (yy f m.index m.hash) q:=⟨_,rfl⟩;obtain⟨G,hG⟩:∃ G,G=aay g r:=⟨_,rfl⟩;rw[<- hF]at o3 S2;rw[<- hG]at aiN KG ais S;have l0:=h.I.loc0;have l1:=I'.loc1;have l1:m.index≤281474976710654:=l1;have x1:=o3.loc;have x1:m.index≤F.s.loc:=x1;have x2:=S2.loc;have x3:=ais.rem;have x4:=aiN.rem;have x5:=S.ack;have hsame:=o3.at_ (show F.s.loc=m.index by omega);have y1:F.s.atA=f.s.heldA:=hsame.1;have y2:F.s.atB=(f.p.length:Nat):=hsame.2;have z1:=S2.atA;have z2:=S2.atB;have w1:=ais.sgnA;have w2:=ais.sgnB;obtain⟨k5,adN,kr⟩:=abV (d:=c) (n:=f.s.loc) aiN KG x5 l0 (by omega) (by omega) h.D.seed;obtain⟨ad6,hmr⟩:∃ ad6,ad6=qC c f.s.loc:=⟨_,rfl⟩;have hmr2:ad6=qC c G.s.ack:=by rw[x5];exact hmr
  rw[<- hmr]at k5 adN kr ⊢;have n1:¬ isU ad6:=by unfold isU;omega
  have tk:aaF d c G ad6:=⟨adN,fun hh=>absurd hh n1,fun hh=>by omega,fun _ _=>⟨kr,hmr2⟩⟩;have er:rcv G ad6=uQ G (abW G ad6):=by unfold rcv;rw[if_neg n1,if_neg (by omega)]
  refine⟨aaL h.M.takes (by rw[<- hG];exact tk),?_⟩;rw[aaP,<- hG,er];refine⟨S.p,S.loc,S.atA,S.atB,?_,?_,?_⟩
  ·show G.s.ack+1=m.index;omega
  ·show G.s.sgnA=(f.p.length:Nat);omega
  ·show G.s.sgnB=f.s.heldA;omega
 ·have e:rcv f m=uQ f (abW f m):=by unfold rcv;rw[if_neg h1,if_neg h4]
  rw[if_neg h4,List.append_nil,e];exact⟨h.M.takes,⟨S.p,S.loc,S.atA,S.atB,S.ack,S.heldA,S.heldB⟩⟩
theorem abc (I:iY f) {a:Int}{h:List UInt8}(h0:(n8 f a h).2=0):yr f=false/\kX f.o f.p f.s.heldB<483/\a≤SB f.s.bo f.o f.p f.s.atA.toNat f.s.heldB.toNat/\(n8 f a h).1=pe ⟨1,((j7 f.o:Nat):Int),a,h,[]⟩:=by
 unfold n8 at h0 ⊢;split at h0
 ·cases h0
 rename_i h1;rw[if_neg h1];split at h0
 ·cases h0
 rename_i h2;rw[if_neg h2];split at h0
 ·cases h0
 rename_i h3;rw[if_neg h3];split at h0
 ·cases h0
 rename_i h4;rw[if_neg h4];split at h0
 ·cases h0
 rename_i h5;rw[if_neg h5];rw[I.fB]at h4;rw[I.xl.1]at h5;exact⟨(Bool.not_eq_true _).mp h3,by omega,by omega,rfl⟩
theorem aa0 (I:iY f) {u:aL}(h0:(j4 f u).2=0):yr f=false/\(ey false u.id (cw f.p f.s.heldB)).isSome=true/\(u.kind=2->sha u.hash=((ey false u.id (cw f.p f.s.heldB)).getD aL.zero).hash):=by
 unfold j4 at h0;split at h0
 ·cases h0
 split at h0
 ·cases h0
 rename_i h2;split at h0
 ·cases h0
 rename_i h3;have h2:tA f u=true:=(Bool.not_eq_false _).mp h2;unfold tA at h2;simp only[Bool.and_eq_true,Bool.not_eq_true',Bool.or_eq_true,decide_eq_true_eq,decide_eq_false_iff_not]at h2;obtain⟨k1,k2,k3,k4⟩:=h2;rw[I.fB]at k1 k3;exact⟨(Bool.not_eq_true _).mp h3,k1,fun h=>k3.resolve_left fun hn=>hn h⟩
theorem aaB.abU (h:aaB c d f g q r) {u:aL}(hu:u.ok) (I':iY (q6 f u)) (hk:u.kind=1\/u.kind=2\/u.kind=3) (hfull:yr f=false) (hn:kJ f.o f.p u=0)
  (ha:u.kind=1->kX f.o f.p f.s.heldB<483/\u.amount≤SB f.s.bo f.o f.p f.s.atA.toNat f.s.heldB.toNat)
  (hr:u.kind≠1->(ey false u.id (cw f.p f.s.heldB)).isSome=true/\(u.kind=2->sha u.hash=((ey false u.id (cw f.p f.s.heldB)).getD aL.zero).hash)) :
  aaB c d (q6 f u) g q (r++[GL u]):=by
 have S:=h.M.sync;have S2:=h.L.sync;obtain⟨a,b,_⟩:=aaT (w:=u) h.L.takes h.I I' h.K;obtain⟨aiN,KG⟩:=aaI h.M.takes h.J h.H;have ais:=aaA h.M.takes h.J h.H;obtain⟨Y,hY⟩:=h.ahead;have hb:(aay g r).s.bp=f.s.bo:=by rw[ais.bp,h.D.bp]
 have hh:=abF aiN h.I S KG.live hb hY hfull hn ha hr;have n1:isU (GL u):=hk;have tk:aaF d c (aay g r) (GL u):=⟨vY hu,fun _=>hh,fun h4=>by have h4:u.kind=4:=h4;omega,fun h1=>absurd n1 h1⟩;refine⟨I',h.J,⟨h.K.a,h.K.b,h.K.h,h.K.failed,h.K.closed⟩,h.H,⟨h.E.key,h.E.seed,h.E.side,h.E.bo,h.E.bp⟩,⟨h.D.key,h.D.seed,h.D.side,h.D.bo,h.D.bp⟩,⟨a,?_⟩,⟨aaL h.M.takes tk,?_⟩⟩
 ·rw[b];exact⟨S2.p,S2.loc,S2.atA,S2.atB,S2.ack,S2.heldA,S2.heldB⟩
 ·have e:rcv (aay g r) (GL u)=abY (aay g r) u:=by unfold rcv;rw[if_pos n1];rfl
  rw[aaP,e];refine⟨?_,S.loc,S.atA,S.atB,S.ack,S.heldA,S.heldB⟩;show (aay g r).p++[u]=f.o++[u];rw[S.p]
theorem aaB.abZ (h:aaB c d f g q r) (hc:c.ok) (h0:(p6 f).2=0):aaB c d (yG f (p6 f).1) g q (r++[tI c (yG f (p6 f).1)]):=by
 have S:=h.M.sync;have S2:=h.L.sync;obtain⟨aiM,aiV⟩:=aaI h.L.takes h.I h.K;have aiw:=aaA h.L.takes h.I h.K;obtain⟨aiN,KG⟩:=aaI h.M.takes h.J h.H;have ais:=aaA h.M.takes h.J h.H;obtain⟨Y,hY⟩:=h.ahead;obtain⟨k1,k2,k3⟩:=abS aiN h.I S (h.D.abr ais) h.K KG.live hY h.E.seed h0;obtain⟨e,hr,hs,_,hra⟩:=h.I.sign h0;have hok:(tI c (yG f (p6 f).1)).ok:=by
  have:=I0 (c:=c) (f:=f) (f':=yG f (p6 f).1) (r:=(p6 f).1) hc (by rw[e];exact hr) h.I.ok (by rw[e];exact hs.ok);unfold sL at this;rw[if_neg (by rw[e];show ¬ (2:Int)=1;decide),if_pos (by rw[e])]at this;exact this _ (by simp)
 have hack:(aay f q).s.ack=f.s.ack:=by
  have:=aiw.ack;have:=aiw.rem;have:=aiM.rem;omega
 obtain⟨a,z,b⟩:=aa1 (r:=(p6 f).1) true h.L.takes h.I h.K hack;have hb:aaV (yG f (p6 f).1) true=yG f (p6 f).1:=rfl;rw[hb]at a b;obtain⟨m,hm⟩:∃ m,m=tI c (yG f (p6 f).1):=⟨_,rfl⟩;rw[<- hm]at k1 k2 k3 hok ⊢;have n1:¬ isU m:=by unfold isU;omega
 have tk:aaF d c (aay g r) m:=⟨hok,fun hh=>absurd hh n1,fun _=>k1,fun _ hh=>absurd k2 hh⟩;have i1:(p6 f).1.index=f.s.rem+1:=by rw[e]
 have i2:(p6 f).1.cntA=(f.o.length:Nat):=by rw[e]
 have i3:(p6 f).1.cntB=f.s.atB:=by rw[e]
 refine⟨by rw[e];exact hs,h.J,⟨h.K.a,h.K.b,h.K.h,h.K.failed,h.K.closed⟩,h.H,⟨h.E.key,h.E.seed,h.E.side,h.E.bo,h.E.bp⟩,⟨h.D.key,h.D.seed,h.D.side,h.D.bo,h.D.bp⟩,⟨a,?_⟩,⟨aaL h.M.takes tk,?_⟩⟩
 ·rw[b];exact⟨S2.p,S2.loc,S2.atA,S2.atB,S2.ack,S2.heldA,S2.heldB⟩
 ·have er:rcv (aay g r) m=yy (aay g r) m.index m.hash:=by unfold rcv;rw[if_neg n1,if_pos k2]
  rw[aaP,er];refine⟨S.p,?_,?_,?_,S.ack,S.heldA,S.heldB⟩
  ·show m.index=(p6 f).1.index;rw[k3,i1]
  ·show (aay g r).s.heldA=(p6 f).1.cntB;rw[S.heldA,i3]
  ·show (((aay g r).p.length:Nat):Int)=(p6 f).1.cntA;rw[S.p,i2]
theorem aaB.call (h:aaB c d f g q r) (hc:c.ok) {o:jj}(ho:o.ok) (h0:(lD f o).2=0):aaB c d (tF f o) g q (r++sL c f (tF f o) (lD f o).1):=by
 obtain⟨I',ha⟩:=h.I.tF ho h0;have rem:∀ u:aL,u.ok->u.kind=2\/u.kind=3->lD f o=j4 f u->tF f o=q6 f (lD f o).1.upd->(dp u=true\/64<u.note.length\/u.id<0\/2048≤u.id)->aaB c d (tF f o) g q (r++sL c f (tF f o) (lD f o).1):=by
  intro u hu hk he hF hv;rw[he]at h0;obtain⟨f1,f2,f3⟩:=aa0 h.I h0;obtain⟨e,hs,ha⟩:=h.I.y9 hu hv (by omega) h0;rw[hF,he,e];have hsm:sL c f (q6 f (pe u).upd) (pe u)=[GL u]:=rfl;show aaB c d (q6 f u) g q (r++sL c f (q6 f (pe u).upd) (pe u));rw[hsm];refine h.abU hu hs (.inr hk) f1 ?_ (fun hh=>by omega) fun _=>⟨f2,f3⟩;rcases ha with ⟨_,hh,_⟩|⟨hh,_⟩|⟨hh,_⟩|⟨hh,_⟩
  ·exact hh
  ·cases hh
  ·cases hh
  ·cases hh
 by_cases h1:o.kind=1
 ·have he:lD f o=n8 f o.amount o.hash:=by unfold lD;rw[if_pos h1]
  have hF:tF f o=q6 f (lD f o).1.upd:=by unfold tF;rw[if_neg (by omega)]
  rw[he]at h0;obtain⟨f1,f2,f3,f4⟩:=abc h.I h0;obtain⟨u,e,hu,hk,hs,ha,_⟩:=h.I.offer ho.hash h0;rw[hF,he,e];have eu:u=⟨1,((j7 f.o:Nat):Int),o.amount,o.hash,[]⟩:=by
   rw[e]at f4;exact congrArg RcM.upd f4
  have hsm:sL c f (q6 f (pe u).upd) (pe u)=[GL u]:=rfl;show aaB c d (q6 f u) g q (r++sL c f (q6 f (pe u).upd) (pe u));rw[hsm];refine h.abU hu hs (.inl hk) f1 ?_ (fun _=>⟨f2,by rw[eu];exact f3⟩) fun hh=>absurd hk hh;rcases ha with ⟨_,hh,_⟩|⟨hh,_⟩|⟨hh,_⟩|⟨hh,_⟩
  ·exact hh
  ·cases hh
  ·cases hh
  ·cases hh
 by_cases h2:o.kind=2
 ·exact rem ⟨2,o.id,0,o.hash,[]⟩ (IB ho) (.inl rfl) (by unfold lD;rw[if_neg h1,if_pos h2]) (by unfold tF;rw[if_neg (by omega)]) (Gr _ _)
 by_cases h3:o.kind=3
 ·exact rem ⟨3,o.id,0,M.h0,o.note⟩ (Iy ho) (.inr rfl) (by unfold lD;rw[if_neg h1,if_neg h2,if_pos h3]) (by unfold tF;rw[if_neg (by omega)]) (Gq _ _)
 by_cases h4:o.kind=4
 ·have he:lD f o=p6 f:=by unfold lD;rw[if_neg h1,if_neg h2,if_neg h3,if_pos h4]
  have hF:tF f o=yG f (lD f o).1:=by unfold tF;rw[if_pos h4]
  rw[hF];rw[he]at h0 ⊢;obtain⟨e,_⟩:=h.I.sign h0;have hsm:sL c f (yG f (p6 f).1) (p6 f).1=[tI c (yG f (p6 f).1)]:=by
   unfold sL;rw[if_neg (by rw[e];show ¬ (2:Int)=1;decide),if_pos (by rw[e])]
  rw[hsm];exact h.abZ hc h0
 ·exfalso;unfold lD at h0;rw[if_neg h1,if_neg h2,if_neg h3,if_neg h4]at h0;cases h0
end
def aaO (t:me):Prop:=aaB (t.c false) (t.c true) (t.f false) (t.f true) (t.q false) (t.q true)
theorem aaO.at_ {t:me}(h:aaO t) (s:Bool):aaB (t.c s) (t.c (!s)) (t.f s) (t.f (!s)) (t.q s) (t.q (!s)):=by
 cases s
 ·exact h
 ·exact h.swap
theorem aaO.of {t:me}(s:Bool) (h:aaB (t.c s) (t.c (!s)) (t.f s) (t.f (!s)) (t.q s) (t.q (!s))):aaO t:=by
 cases s
 ·exact h
 ·exact h.swap
theorem abL {d:DlM}(hd:d.ok) (hb:∀ s,¬ nF (AL d s)):aaO (Ig d):=by
 have aiG:iY (tc (FW d)):=iY.start (Dd hd) (hb false);have aiP:iY (tc (FV d)):=iY.start (Dc hd) (hb true);have e0:mm (FW d)=({ StM.zero with side:=0,cap:=d.cap,bo:=d.ours,bp:=d.cap-d.ours,ptsA:=pB d.seedsB 0,ptsB:=pB d.seedsB 1,closed:=-1 },0):=by
  unfold mm;rw[if_neg (show ¬ nF (FW d) from hb false)];rfl
 have hw:IntKind.i64.wrap (d.cap-d.ours)=d.cap-d.ours:=by
  have h0:=hb false;unfold nF at h0;have h1:¬ right (FW d).cap=false:=fun hh=>h0 (.inr (.inr (.inr (.inl hh))));have h2:=lZ.1 (show right d.cap=true from (Bool.not_eq_false _).mp h1);have h3:¬ d.ours<0:=fun hh=>h0 (.inr (.inr (.inr (.inr (.inl hh)))));have h4:¬ d.cap<d.ours:=fun hh=>h0 (.inr (.inr (.inr (.inr (.inr hh)))));exact i64_in (by omega) (by omega)
 have e1:mm (FV d)=({ StM.zero with side:=1,cap:=d.cap,bo:=d.cap-d.ours,bp:=d.ours,ptsA:=pB d.seedsA 0,ptsB:=pB d.seedsA 1,closed:=-1 },0):=by
  unfold mm;rw[if_neg (show ¬ nF (FV d) from hb true)];show (({ StM.zero with side:=1,cap:=d.cap,bo:=IntKind.i64.wrap (d.cap-d.ours),bp:=d.cap-IntKind.i64.wrap (d.cap-d.ours),ptsA:=pB d.seedsA 0,ptsB:=pB d.seedsA 1,closed:=-1 }:StM),(0:Int))=_;rw[hw,show d.cap-(d.cap-d.ours)=d.ours by omega]
 show aaB (FW d) (FV d) (tc (FW d)) (tc (FV d)) [] [];unfold tc at aiG aiP ⊢;rw[e0]at aiG;rw[e1]at aiP;rw[e0,e1];exact⟨aiG,aiP,⟨rfl,rfl,aba _,rfl,rfl⟩,⟨rfl,rfl,aba _,rfl,rfl⟩,⟨rfl,hd.seedsB,rfl,rfl,rfl⟩,⟨rfl,hd.seedsA,rfl,rfl,rfl⟩,⟨trivial,⟨rfl,rfl,rfl,rfl,rfl,rfl,rfl⟩⟩,⟨trivial,⟨rfl,rfl,rfl,rfl,rfl,rfl,rfl⟩⟩⟩
end Go.Esc.M
namespace Go.Esc.M
open Go Go.Esc
theorem ahV {root:List UInt8}{L:List b6}{n:Nat}(h:abz root L (n+1)) (hn:n<281474976710655):ac8 L (n:Int)=jS root (n:Int):=by
 obtain⟨hno,hpn⟩:=aa5 (i:=n) (by omega);have hs:jS root (n:Int)=(mj (pl (n:Int)) 48 root,0):=by
  unfold jS;rw[hno,cond_true]
 obtain⟨j,hj⟩:∃ j,j=level (pl (n:Int)):=⟨_,rfl⟩;have hf:=h.all n (by omega);rw[<- hj]at hf;obtain⟨i,hi,he,hl,hm⟩:=h.slot j hf;have hin:i=n:=by have:=hm n (by omega) hj.symm;omega
 subst hin;have tell:agP (i:Int) (atS L j):=by
  refine⟨hf,?_⟩;rw[he];show (kN (mj (pl (i:Int)) 48 root) (i:Int) (i:Int)).2=0;rw[ahw hno]
 obtain⟨k,_,⟨t1,t2⟩,_,t4⟩:=ahK tell;obtain⟨m,k1,k2,k3,_⟩:=h.slot k t1;rw[k2]at t2 t4;have t2:(kN (mj (pl (m:Int)) 48 root) (m:Int) (i:Int)).2=0:=t2;have t4:ac3 (i:Int) L=((kN (mj (pl (m:Int)) 48 root) (m:Int) (i:Int)).1,0):=t4;obtain⟨d1,_,d3,d4⟩:=ahA (ahv t2);have hv:=abI (a:=pl (m:Int)) (b:=pl (i:Int)) (k:=level (pl (m:Int))) (n:=48-level (pl (m:Int))) (x:=root) (BZ _) d3;have hle:=rq (pl (m:Int));rw[show level (pl (m:Int))+(48-level (pl (m:Int)))=48 by omega]at hv;rw[d4,hv]at t4;unfold ac8;have:=h.len;rw[if_neg (by omega),if_pos hno,t4,hs]
def agf (f:StF):StF:=⟨f.s,f.o,cw f.p f.s.atB,f.h⟩
def ag8 (y:StF):List cr:=(y.p.drop y.s.atB.toNat).map GL
section
variable {c d:CfM}{f g x y:StF}{q r us:List cr}{m:cr}{u:aL}
theorem agm:∀ {q:List cr}{f:StF},aaG c d f (q++r) ↔ aaG c d f q/\aaG c d (aay f q) r
 | [],f=>⟨fun h=>⟨trivial,h⟩,fun h=>h.2⟩
 | m::q,f=>by
  show (aaF c d f m/\aaG c d (rcv f m) (q++r)) ↔ (aaF c d f m/\aaG c d (rcv f m) q)/\_;rw[agm (q:=q) (f:=rcv f m),and_assoc];rfl
theorem agp (f:StF) (a b:List cr):aay f (a++b)=aay (aay f a) b:=by
 unfold aay;rw[List.foldl_append]
theorem ag6:∀ {us:List cr}{x:StF},(∀ m∈us,isU m)->aay x us=⟨x.s,x.o,x.p++us.map Bw,x.h⟩
 | [],x,_=>by simp[aay]
 | m::us,x,h=>by
  have e:rcv x m=abY x (Bw m):=by unfold rcv;rw[if_pos (h m (by simp))]
  rw[aaJ,e,ag6 fun y hy=>h y (by simp[hy])];unfold abY;simp
theorem agR:∀ r:List cr,(∀ m∈r,isU m)\/∃ us m r2,r=us++m::r2/\(∀ x∈us,isU x)/\¬ isU m
 | []=>.inl (by simp)
 | m::r=>by
  by_cases h:isU m
  ·rcases agR r with h2|⟨us,m2,r2,e,h3,h4⟩
   ·exact .inl fun x hx=>by
     rcases List.mem_cons.1 hx with rfl|hx
     ·exact h
     ·exact h2 x hx
   ·refine .inr ⟨m::us,m2,r2,by rw[e];rfl,fun x hx=>?_,h4⟩;rcases List.mem_cons.1 hx with rfl|hx
    ·exact h
    ·exact h3 x hx
  ·exact .inr ⟨[],m,r,rfl,by simp,h⟩
def ag7 (r:List cr):Option cr:=r.reverse.find? fun m=>!decide (isU m)
def aho (r:List cr) (b:Bool):Prop:=∀ m,ag7 r=some m->(m.kind=4->b=true)/\(m.kind=5->b=false)
theorem ahe (h:∀ x∈us,isU x):ag7 us=none:=by
 unfold ag7;rw[List.find?_eq_none];intro x hx;rw[dT_ (h x (List.mem_reverse.1 hx))];decide
theorem agv {a:List cr}(hm:¬ isU m) (h:∀ x∈us,isU x):ag7 (a++m::us)=some m:=by
 have e:=ahe h;unfold ag7 at e ⊢;rw[List.reverse_append,List.reverse_cons,List.append_assoc,List.find?_append,e];rw[Option.none_or,List.singleton_append,List.find?_cons_of_pos];rw[dF_ hm];rfl
theorem ahZ {b:Bool}(h:aho r b) (hm:isU m):aho (r++[m]) b:=by
 intro x hx;refine h x ?_;unfold ag7 at hx ⊢;rw[List.reverse_append,List.reverse_singleton,List.singleton_append,List.find?_cons_of_neg]at hx
 ·exact hx
 ·rw[dT_ hm];decide
theorem aht {b:Bool}(hm:¬ isU m) (hb:(m.kind=4->b=true)/\(m.kind=5->b=false)):aho (r++[m]) b:=by
 intro x hx;rw[agv hm (us:=[]) (by simp)]at hx;injection hx with hx;subst hx;exact hb
theorem ahJ {b:Bool}(h:aho (m::r) b):aho r b:=by
 intro x hx;refine h x ?_;unfold ag7 at hx ⊢;rw[List.reverse_cons,List.find?_append,hx];rfl
theorem ah0 (b:Bool):aho [] b:=fun m hm=>by cases hm
theorem agF (I:iY f):iY (agf f):=I.cut
theorem ahh (k:aaK d f):aaK d (agf f):=⟨k.a,k.b,k.h,k.failed,k.closed⟩
theorem ahF (I:iY x) (h:∀ m∈us,isU m):agf (aay x us)=agf x:=by
 rw[ag6 h];unfold agf cw;have:=I.b3;have:=I.b0;have:=I.b1;have:=I.b2;congr 1;show (x.p++us.map Bw).take x.s.atB.toNat=x.p.take x.s.atB.toNat;exact List.take_append_of_le_length (by omega)
theorem ahu (I:iY y) (hk:uO y.s=false) {n:Nat}(h1:y.s.atB.toNat≤n) (h2:y.p[n]?=some u) (hn:(y.p.length:Int)≤y.s.atB+512):vu ⟨y.s,y.o,y.p.take n,y.h⟩ u=0:=by
 have a0:=I.a0;have a1:=I.a1;have a2:=I.a2;have a3:=I.a3;have b0:=I.b0;have b1:=I.b1;have b2:=I.b2;have b3:=I.b3;have hlt:=(List.getElem?_eq_some_iff.1 h2).1;have hlp:=I.lp;have hg:=I.gp n u h2;have hlen:(y.p.take n).length=n:=by rw[List.length_take];omega
 obtain⟨hv,k1,k2⟩:=nG hg;have hn2:=vn (Y:=y.o.drop y.s.atA.toNat) hg;rw[List.take_append_drop]at hn2;have hfa:mM y.s=y.s.atA:=I.fA;have hfb:mD y.s=y.s.heldB:=I.fB;have hsn:y.p.take (n+1)=y.p.take n++[u]:=by rw[List.take_add_one,h2];rfl
 unfold vu;rw[if_neg (by show ¬ uO y.s=true;rw[hk];decide),if_neg];rotate_left
 ·show ¬ 512≤IntKind.i64.wrap (((y.p.take n).length:Int)-y.s.atB);rw[hlen,i64_in (by omega) (by omega)];omega
 rw[if_neg (show ¬ kJ (y.p.take n) y.o u≠0 from fun hh=>hh hn2)];show (if u.kind=1 then (if 483≤kX (y.p.take n) y.o (mM y.s) then 131 else if th ⟨y.s,y.o,y.p.take n,y.h⟩ < u.amount then 130 else 0)
  else if (ey false u.id (cw y.o (mM y.s))).isSome=false then 120
  else if u.kind=2/\sha u.hash≠((ey false u.id (cw y.o (mM y.s))).getD aL.zero).hash then 120 else (0:Int))=0
 rw[hfa];by_cases hk1:u.kind=1
 ·rw[if_pos hk1];have hst:jH u.id (y.o.take y.s.atA.toNat)=0:=by
   refine Classical.byContradiction fun hne=>?_;obtain⟨w,w1,w2,w3,_⟩:=tX hne;have w0:w∈y.o:=List.mem_of_mem_take w1;obtain⟨z,z1,z2,z3⟩:=Au I.go w w0 w2;obtain⟨j,hj⟩:=List.getElem?_of_mem z1;have hjl:=(List.getElem?_eq_some_iff.1 hj).1;rw[List.length_take]at hjl;rw[List.getElem?_take_of_lt (by omega)]at hj;have:=FF (ui I.gp) hj h2 z2 hk1 (z3.trans w3);omega
  have hop:kX (y.p.take (n+1)) y.o y.s.atA=kX (y.p.take n) y.o y.s.atA+1:=by
   rw[hsn];unfold kX ml cw;rw[List.length_map,List.length_map,List.filter_append,List.length_append,List.filter_cons_of_pos]
   ·rfl
   simp[hk1,hv,hst]
  have hle:kX (y.p.take (n+1)) y.o y.s.atA≤kX y.p y.o y.s.atA:=by
   unfold kX ml;rw[List.length_map,List.length_map];exact (List.Sublist.filter _ (List.take_sublist _ _)).length_le
  have:=I.np;rw[if_neg (by omega)];have hsp:th ⟨y.s,y.o,y.p.take n,y.h⟩=AJ (SB y.s.bp (y.p.take n) y.o y.s.heldB.toNat y.s.atA.toNat):=by
   have:=DW (base:=y.s.bp) (mine:=y.p.take n) (others:=y.o) (fm:=y.s.heldB.toNat) (fo:=y.s.atA.toNat) (fun u hu=>I.vp u (List.mem_of_mem_take hu)) I.vo I.bp (by have:=I.cap;have:=I.capm;have:=I.bo;omega);rw[Int.toNat_of_nonneg b0,Int.toNat_of_nonneg a0]at this;unfold th;show xj y.s.bp (y.p.take n) y.o (mD y.s) (mM y.s)=_;rw[hfb,hfa,this]
  have hsb:u.amount≤SB y.s.bp (y.p.take n) y.o y.s.heldB.toNat y.s.atA.toNat:=by
   have h0:=I.sp;unfold SB at h0 ⊢;have e1:(y.p.take n).take y.s.heldB.toNat=y.p.take y.s.heldB.toNat:=by
    rw[List.take_take,Nat.min_eq_left (by omega)]
   rw[e1];have e2:=CL (f:=stays (y.o.take y.s.atA.toNat)) (fun u hu=>ra (I.vp u hu)) (n+1);have e3:=pM (f:=stays (y.o.take y.s.atA.toNat)) h2;have e4:stays (y.o.take y.s.atA.toNat) u=true:=by
    unfold stays;rw[dT_ hk1,hst];rfl
   rw[if_pos e4]at e3;omega
  rw[hsp];have hnn:=ra hv;have hvs:=(lW hv).2.2;have:u.amount≤AJ (SB y.s.bp (y.p.take n) y.o y.s.heldB.toNat y.s.atA.toNat):=by
   unfold AJ;split
   ·omega
   ·split<;>omega
  rw[if_neg (by omega)]
 ·rw[if_neg hk1];obtain⟨f1,f2,f3⟩:=k2 hk1;unfold cw;rw[if_neg (by rw[f1];decide),if_neg];rintro⟨c1,c2⟩;unfold kJ at hg;rw[if_neg (by omega),if_neg (by rw[hv];decide),if_neg hk1,if_neg (by rw[f1];decide),if_neg (by rw[f2];decide),if_pos ⟨c1,c2⟩]at hg;cases hg
theorem ahH (I:iY y) (k:aaK d y) (hn:(y.p.length:Int)≤y.s.atB+512):aaG c d (agf y) (ag8 y)/\aay (agf y) (ag8 y)=y:=by
 have b0:=I.b0;have b1:=I.b1;have b2:=I.b2;have b3:=I.b3;have key:∀ (n:Nat) (l:List aL),y.s.atB.toNat≤n->n≤y.p.length->l=y.p.drop n->aaG c d ⟨y.s,y.o,y.p.take n,y.h⟩ (l.map GL)/\aay ⟨y.s,y.o,y.p.take n,y.h⟩ (l.map GL)=y:=by
  intro n l;induction l generalizing n with
  | nil=>
   intro h1 h2 h3;refine⟨trivial,?_⟩;have:y.p.length≤n:=by
    have:=congrArg List.length h3;rw[List.length_drop]at this;simp at this;omega
   show (⟨y.s,y.o,y.p.take n,y.h⟩:StF)=y;rw[List.take_of_length_le this]
  | cons u l ih=>
   intro h1 h2 h3;have hu:y.p[n]?=some u:=by
    have:(y.p.drop n)[0]?=some u:=by rw[<- h3];rfl
    rwa [List.getElem?_drop,Nat.add_zero]at this
   have hl:l=y.p.drop (n+1):=by
    have:=congrArg List.tail h3;rw[List.tail_cons,List.tail_drop]at this;exact this
   have hlt:=(List.getElem?_eq_some_iff.1 hu).1;have hm:u∈y.p:=List.mem_of_getElem? hu;have hv:=(lW (I.vp u hm)).2.2;have hU:isU (GL u):=by
    show u.kind=1\/u.kind=2\/u.kind=3;omega
   have tk:aaF c d ⟨y.s,y.o,y.p.take n,y.h⟩ (GL u):=⟨vY (I.okp u hm),fun _=>ahu I k.live h1 hu hn,fun h4=>by have h4:u.kind=4:=h4;omega,fun h=>absurd hU h⟩;have e:rcv ⟨y.s,y.o,y.p.take n,y.h⟩ (GL u)=⟨y.s,y.o,y.p.take (n+1),y.h⟩:=by
    unfold rcv;rw[if_pos hU,List.take_add_one,hu];rfl
   obtain⟨i1,i2⟩:=ih (n+1) (by omega) (by omega) hl;rw[<- e]at i1 i2;exact⟨⟨tk,i1⟩,i2⟩
 exact key y.s.atB.toNat _ (Nat.le_refl _) (by omega) rfl
theorem aib (h:aaF c d x m) (h1:¬ isU m) (h4:m.kind≠4):aaF c d (agf x) m/\rcv (agf x) m=agf (rcv x m):=by
 refine⟨⟨h.ok,fun hh=>absurd hh h1,fun hh=>absurd hh h4,h.rev⟩,?_⟩;unfold rcv;rw[if_neg h1,if_neg h4,if_neg h1,if_neg h4];rfl
theorem ah2 (h4:m.kind=4):agf (rcv x m)=rcv x m:=by
 have e:rcv x m=yy x m.index m.hash:=by
  unfold rcv;rw[if_neg (by unfold isU;omega),if_pos h4]
 rw[e];unfold agf yy cw;congr 1;show x.p.take (((x.p.length:Nat):Int)).toNat=x.p;rw[Int.toNat_natCast,List.take_length]
end
end Go.Esc.M
namespace Go.Esc.M
open Go Go.Esc
section
variable {c d:CfM}{f g x y F:StF}{q r us out:List cr}{m:cr}{u:aL}{Y:List aL}
theorem ahI (I:iY F) (J:iY f) (E:Ends d c F f) (K:aaK d f) (hp:F.p=f.o.take f.s.sgnA.toNat) (hh:F.s.heldA=f.s.sgnB) (ho:F.o=f.p++Y) (hr:f.s.rem=f.s.ack+1) (hF:F.s.loc+1=f.s.rem) :
  ∃ tx,yV d F f.s.rem F.s.heldA (F.p.length:Nat)=(tx,true)/\tI c f={ cr.zero with kind:=4,index:=f.s.rem,hash:=mac c.key tx }:=by
 have a0:=J.a0;have a1:=J.a1;have a2:=J.a2;have a3:=J.a3;have b0:=J.b0;have b1:=J.b1;have b2:=J.b2;have b3:=J.b3;have k0:=J.ack0;have k1:=J.rem1;have hside:=J.side;have hlen:F.p.length=f.s.sgnA.toNat:=by rw[hp,List.length_take];omega
 have hlo:F.o.length=f.p.length+Y.length:=by rw[ho,List.length_append]
 obtain⟨m1,m2,m3⟩:=J.stands (n:=f.s.sgnA.toNat) (m:=f.s.sgnB.toNat) (by omega) (by omega) (by omega) (by omega);rw[Int.toNat_of_nonneg (show 0≤f.s.sgnB by omega),Int.toNat_of_nonneg (show 0≤f.s.sgnA by omega)]at m1;obtain⟨n1,n2,n3⟩:=I.stands (n:=F.s.heldA.toNat) (m:=F.p.length) (by have:=I.a1;omega) (by rw[hh];omega) (by have:=I.b1;have:=I.b2;have:=I.b3;omega) (Nat.le_refl _);rw[Int.toNat_of_nonneg (show 0≤F.s.heldA by omega)]at n1;have ev:foldM F.s.bo F.s.bp (F.o.take F.s.heldA.toNat) (F.p.take F.p.length)=foldM f.s.bp f.s.bo (f.p.take f.s.sgnB.toNat) (f.o.take f.s.sgnA.toNat):=by
  rw[E.bo,E.bp,hh,List.take_length,hp,ho,List.take_append_of_le_length (by omega)]
 have ht:=abj f.s.bo f.s.bp (f.o.take f.s.sgnA.toNat) (f.p.take f.s.sgnB.toNat);obtain⟨M,hM⟩:∃ M,M=foldM f.s.bo f.s.bp (f.o.take f.s.sgnA.toNat) (f.p.take f.s.sgnB.toNat):=⟨_,rfl⟩;rw[ev]at n1 n2 n3;obtain⟨N,hN⟩:∃ N,N=foldM f.s.bp f.s.bo (f.p.take f.s.sgnB.toNat) (f.o.take f.s.sgnA.toNat):=⟨_,rfl⟩;rw[<- hN]at n1 n2 n3 ht;rw[<- hM]at m1 ht;obtain⟨_,t1,t2,t3⟩:=ht;obtain⟨pt,hpt⟩:∃ pt,pt=pB d.seed (f.s.ack+1):=⟨_,rfl⟩;have hok:okN f.s.rem=true:=GJ.2 ⟨by omega,by omega⟩;obtain⟨sec,hsec⟩:∃ sec,sec=jS d.seed f.s.rem:=⟨_,rfl⟩;have hs2:sec.2=0:=by
  rw[hsec];unfold jS;rw[hok,cond_true]
 have hpt2:pt=sha sec.1:=by
  rw[hpt,hsec,show f.s.ack+1=f.s.rem by omega];rfl
 have htx:(oI F.s.side f.s.rem pt N.o N.q N.l).2=0:=by
  unfold oI;rw[if_neg,n3,cond_true];unfold qZ vZ;rw[E.side];omega
 refine⟨(oI F.s.side f.s.rem pt N.o N.q N.l).1,?_,?_⟩
 ·unfold yV;rw[<- hsec,if_neg (fun h=>h hs2),n1,if_neg (fun h=>h n2),<- hpt2,dT_ htx]
 ·have f2:IntKind.i64.wrap (1-f.s.side)=F.s.side:=by
   rw[i64_in (by omega) (by omega),E.side]
  have f3:(if f.s.rem≠f.s.ack then f.s.ptsB else f.s.ptsA)=pt:=by
   rw[if_pos (by omega),K.b,hpt]
  unfold tI;rw[f2,f3,m1,t1,t2,t3]
theorem ahB (I:iY F) (J:iY f) (E:Ends d c F f) (K:aaK d f) (hp:F.p=f.o.take f.s.sgnA.toNat) (hh:F.s.heldA=f.s.sgnB) (ho:F.o=f.p++Y) (hr:f.s.rem=f.s.ack+1) (hF:F.s.loc+1=f.s.rem)
  (ht:aaF d c F m) (h4:m.kind=4):aaF d c F (tI c f)/\rcv F (tI c f)=rcv F m:=by
 obtain⟨tx,e1,e2⟩:=ahI I J E K hp hh ho hr hF;have h0:=ht.came h4;have hix:=(I.came (c:=d) ht.ok h0).2.2.2.2.2;have hok:=xT (c:=c) J.ok;obtain⟨a,ha⟩:∃ a,a=tI c f:=⟨_,rfl⟩;rw[<- ha]at e2 hok ⊢;have afJ:a.kind=4:=by rw[e2]
 have ia:a.index=F.s.loc+1:=by rw[e2];exact hF.symm
 have hm:m.index=f.s.rem:=by omega
 unfold mU at h0;split at h0
 ·cases h0
 rename_i h1;split at h0
 ·cases h0
 split at h0
 ·cases h0
 rename_i h3;split at h0
 ·cases h0
 rename_i h5;split at h0
 ·cases h0
 rename_i h6;rw[hm,e1]at h6;have hmac:mac d.pkey tx=m.hash:=Classical.byContradiction fun hn=>h6 (.inr hn);have hash:a.hash=m.hash:=by rw[e2,<- hmac,E.key]
 have n1:¬ isU a:=by unfold isU;omega
 refine⟨⟨hok,fun hh=>absurd hh n1,fun _=>?_,fun _ hh=>absurd afJ hh⟩,?_⟩
 ·unfold mU;rw[if_neg h1,if_neg (fun hh=>hh afJ),if_neg (by rw[ia];rintro (h | h);exact h3 (.inl h);exact h rfl),if_neg h5,if_neg];rw[show a.index=f.s.rem by omega,e1];rintro (h|h)
  ·cases h
  ·rw[hash]at h;exact h hmac
 ·unfold rcv;rw[if_neg n1,if_pos afJ,if_neg (by unfold isU;omega),if_pos h4,hash,ia,hix]
def ahj (c d:CfM) (x:StF) (r out:List cr):Prop:=aaG d c (agf x) out/\aay (agf x) out=aay x r
theorem agz (I:iY x) (k:aaK c x) (hq:aaG d c x us) (hu:∀ m∈us,isU m) (hn:((aay x us).p.length:Int)≤(aay x us).s.atB+512):ahj c d x us (ag8 (aay x us)):=by
 obtain⟨I',k'⟩:=aaI hq I k;obtain⟨a,b⟩:=ahH (c:=d) I' k' hn;rw[ahF I hu]at a b;exact⟨a,b⟩
theorem ag2 (I:iY x) (hu:∀ m∈us,isU m) (ht:aaF d c (aay x us) m) (h1:¬ isU m) (h4:m.kind≠4) (h:ahj c d (rcv (aay x us) m) r out):ahj c d x (us++m::r) (m::out):=by
 obtain⟨a,b⟩:=aib ht h1 h4;rw[ahF I hu]at a b;refine⟨⟨a,by rw[b];exact h.1⟩,?_⟩;rw[aaJ,b,agp,aaJ];exact h.2
theorem ag3 {a:cr}(I:iY x) (k:aaK c x) (hq:aaG d c x us) (hu:∀ m∈us,isU m) (hn:((aay x us).p.length:Int)≤(aay x us).s.atB+512) (ha:aaF d c (aay x us) a) (he:rcv (aay x us) a=rcv (aay x us) m) (h4:m.kind=4) (h:ahj c d (rcv (aay x us) m) r out) :
  ahj c d x (us++m::r) (ag8 (aay x us)++a::out):=by
 obtain⟨p1,p2⟩:=agz I k hq hu hn;obtain⟨h1,h2⟩:=h;rw[ah2 h4]at h1 h2;refine⟨agm.2 ⟨p1,?_⟩,?_⟩
 ·rw[p2];exact⟨ha,by rw[he];exact h1⟩
 ·rw[agp,p2,aaJ,he,agp,aaJ];exact h2
theorem aia (J:iY y):∀ m∈ag8 y,isU m:=by
 intro m hm;unfold ag8 at hm;obtain⟨u,hu,rfl⟩:=List.mem_map.1 hm;have:=(lW (J.vp u (List.mem_of_mem_drop hu))).2.2;show u.kind=1\/u.kind=2\/u.kind=3;omega
theorem agE (I:iY x) (ht:aaF c d x m) (h1:¬ isU m):m.kind=4\/m.kind=5:=by
 by_cases h4:m.kind=4
 ·exact .inl h4
 ·exact .inr (I.y8 ht.ok (ht.rev h1 h4).1).2.2.2.2.1
theorem agx (I:iY x) (ht:aaF c d x m):(isU m->(rcv x m).s=x.s)/\(m.kind=4->(rcv x m).s.loc=x.s.loc+1/\(rcv x m).s.ack=x.s.ack/\(rcv x m).s.atA=x.s.heldA/\(rcv x m).s.atB=(x.p.length:Nat)/\(rcv x m).p=x.p/\(rcv x m).s.heldA=x.s.heldA/\(rcv x m).s.heldB=x.s.heldB)/\(m.kind=5->(rcv x m).s.loc=x.s.loc/\(rcv x m).s.ack=x.s.ack+1/\(rcv x m).s.atA=x.s.atA/\(rcv x m).s.atB=x.s.atB):=by
 refine⟨fun h=>?_,fun h=>?_,fun h=>?_⟩
 ·unfold rcv;rw[if_pos h];rfl
 ·have:=(I.came (c:=c) ht.ok (ht.came h)).2.2.2.2.2;unfold rcv;rw[if_neg (by unfold isU;omega),if_pos h];exact⟨this,rfl,rfl,rfl,rfl,rfl,rfl⟩
 ·unfold rcv;rw[if_neg (by unfold isU;omega),if_neg (by omega)];exact⟨rfl,rfl,rfl,rfl⟩
theorem agC (h:∀ m∈us,isU m):(aay x us).s=x.s/\(aay x us).o=x.o:=by
 rw[ag6 h];exact⟨rfl,rfl⟩
theorem ahi (I:iY f):tI c (agf f)=tI c f:=by
 have e:kx (agf f) f.s.sgnA f.s.sgnB=kx f f.s.sgnA f.s.sgnB:=by
  have b0:=I.b0;have b1:=I.b1;have b2:=I.b2;have b3:=I.b3;obtain⟨_,e1⟩:=I.book.taken (n:=f.s.sgnA.toNat) (m:=f.s.sgnB.toNat) (by have:=I.a0;have:=I.a1;have:=I.a2;omega) (by have:=I.a3;omega) (by omega) (by omega);obtain⟨_,e2⟩:=(agF I).book.taken (n:=f.s.sgnA.toNat) (m:=f.s.sgnB.toNat) (by show f.s.atA.toNat≤_;have:=I.a0;have:=I.a1;have:=I.a2;omega) (by show _≤f.o.length;have:=I.a3;omega) (by show f.s.heldB.toNat≤_;omega) (by show _≤(cw f.p f.s.atB).length;unfold cw;rw[List.length_take];omega);have e3:(cw f.p f.s.atB).take f.s.sgnB.toNat=f.p.take f.s.sgnB.toNat:=by
   unfold cw;rw[List.take_take,Nat.min_eq_left (by omega)]
  rw[Int.toNat_of_nonneg (show 0≤f.s.sgnB by omega),Int.toNat_of_nonneg (show 0≤f.s.sgnA by have:=I.a0;have:=I.a1;have:=I.a2;omega)]at e1 e2;have e2:kx (agf f) f.s.sgnA f.s.sgnB=foldM f.s.bo f.s.bp (f.o.take f.s.sgnA.toNat) ((cw f.p f.s.atB).take f.s.sgnB.toNat):=e2;rw[e2,e3];exact e1.symm
 unfold tI;show ({ cr.zero with kind:=4,index:=f.s.rem,hash:=mac c.key (oI (IntKind.i64.wrap (1-f.s.side)) f.s.rem (if f.s.rem≠f.s.ack then f.s.ptsB else f.s.ptsA) (kx (agf f) f.s.sgnA f.s.sgnB).q (kx (agf f) f.s.sgnA f.s.sgnB).o (pE (kx (agf f) f.s.sgnA f.s.sgnB).l)).1 }:cr)=_;rw[e]
def agN (c:CfM) (f:StF) (n:Int) (b:Bool):List cr:=if n=f.s.loc-1/\f.s.behind=b then [qC c n] else []
def agJ (c:CfM) (f:StF) (n:Int) (aaa:Bool):List cr:=
 ((agN c f n true++(bif aaa then ((f.o.take f.s.sgnA.toNat).drop f.s.heldA.toNat).map GL++[tI c f] else []))++agN c f n false)++(f.o.drop f.s.sgnA.toNat).map GL
theorem ahN (I:iY f) {i n:Int}{z:List UInt8}(aaa:Bool) (hn:0≤n) (hp:acx c { cr.zero with kind:=6,index:=i,next:=n,secret:=z }=true) (h1:n≤f.s.loc) (h2:f.s.loc-1≤n)
  (h3:if aaa=true then i=f.s.rem/\f.s.rem=f.s.ack+1 else i=f.s.rem+1):acz c (agf f) { cr.zero with kind:=6,index:=i,next:=n,secret:=z }=(agJ c f n aaa,0):=by
 have l0:=I.loc0;have l1:=I.loc1;have k0:=I.ack0;have k1:=I.rem1;have k2:=I.rem;have a0:=I.a0;have a1:=I.a1;have a2:=I.a2;have a3:=I.a3;have hlo:=I.lo;have w1:IntKind.i64.wrap (f.s.loc-1)=f.s.loc-1:=i64_in (by omega) (by omega);have w2:IntKind.i64.wrap (f.s.rem+1)=f.s.rem+1:=i64_in (by omega) (by omega);have w3:IntKind.i64.wrap (f.s.ack+1)=f.s.ack+1:=i64_in (by omega) (by omega);obtain⟨m,hm⟩:∃ m,m=({ cr.zero with kind:=6,index:=i,next:=n,secret:=z }:cr):=⟨_,rfl⟩;rw[<- hm]at hp ⊢;have m1:m.kind=6:=by rw[hm]
 have m2:m.index=i:=by rw[hm]
 have m3:m.next=n:=by rw[hm]
 have hj:acy c (agf f) m=0:=by
  unfold acy;show (if m.kind≠6 then 160 else if acx c m=false then 100 else if f.s.loc<m.next then 180
   else if m.next<0\/(m.next≠f.s.loc/\m.next≠IntKind.i64.wrap (f.s.loc-1)) then 90
   else if m.index≠IntKind.i64.wrap (f.s.rem+1)/\(m.index≠f.s.rem\/f.s.rem≠IntKind.i64.wrap (f.s.ack+1)) then 90 else (0:Int))=0
  rw[w1,w2,w3,m2,m3,if_neg (fun h=>h m1),if_neg (by rw[hp];decide),if_neg (by omega),if_neg (by omega),if_neg];cases aaa with
  | true=>rw[if_pos rfl]at h3;omega
  | false=>rw[if_neg (by decide)]at h3;omega
 have hr:∀ b,ac0 c (agf f) m b=agN c f n b:=by
  intro b;unfold ac0 agN;show (if m.next=IntKind.i64.wrap (f.s.loc-1)/\f.s.behind=b then [qC c m.next] else [])=_;rw[w1,m3]
 have hu:∀ a b:Int,0≤a->b≤(f.o.length:Nat)->acL (agf f).o a b=((f.o.take b.toNat).drop a.toNat).map GL:=by
  intro a b ha hb;unfold acL;show ((f.o.take (min b (f.o.length:Nat)).toNat).drop (max a 0).toNat).map GL=_;rw[Int.min_eq_left hb,Int.max_eq_left ha]
 unfold acz agJ;rw[hj,if_neg (fun h=>h rfl),hr,hr,ahi I];show (((agN c f n true++if m.index=f.s.rem then acL (agf f).o f.s.heldA f.s.sgnA++[tI c f] else [])++agN c f n false)++acL (agf f).o f.s.sgnA (f.o.length:Nat),(0:Int))=_;rw[hu _ _ (by omega) (by omega),hu _ _ (by omega) (Int.le_refl _),Int.toNat_natCast,List.take_length,m2];cases aaa with
 | true=>
  rw[if_pos rfl]at h3;rw[if_pos h3.1];rfl
 | false=>
  rw[if_neg (by decide)]at h3;rw[if_neg (by omega)];rfl
end
end Go.Esc.M
namespace Go.Esc.M
open Go Go.Esc
section
variable {c d:CfM}{f g x y F:StF}{q r us out:List cr}{m:cr}{u:aL}{Y:List aL}
structure Told (c d:CfM) (f g:StF) (out:List cr):Prop where
 aaa:∃ b,out=agJ c f g.s.ack b/\(b=true->f.s.rem=f.s.ack+1)/\(if b=true then g.s.loc+1=f.s.rem/\f.s.rem=f.s.ack+1 else g.s.loc+1=f.s.rem+1)
 lo:g.s.ack≤f.s.loc
 hi:f.s.loc-1≤g.s.ack
 link:ab3 d c (agf g) (agf f) out
 last:aho out f.s.behind
theorem ahT {G:StF}(S:Sync G f):Sync G (agf f):=⟨S.p,S.loc,S.atA,S.atB,S.ack,S.heldA,S.heldB⟩
theorem ahl {G:StF}{n k:Nat}{l:List aL}(hp:G.p=l.take n) (hn:G.s.atB.toNat=k):ag8 G=((l.take n).drop k).map GL:=by
 unfold ag8;rw[hp,hn]
theorem aaB.told (h:aaB c d f g q r) (hl:aho r f.s.behind) (hn:(f.o.length:Int)≤f.s.heldA+512):∃ out,Told c d f g out:=by
 obtain⟨aiM,aiV⟩:=aaI h.L.takes h.I h.K;have aiw:=aaA h.L.takes h.I h.K;obtain⟨aiN,KG⟩:=aaI h.M.takes h.J h.H;have ais:=aaA h.M.takes h.J h.H;obtain⟨Y,hY⟩:=h.ahead;have S:=h.M.sync;have S2:=h.L.sync;have n1:=S.ack;have n2:=S.loc;have n3:=ais.ack;have ail:=ais.loc;have aim:=ais.rem;have aip:=aiN.rem;have ain:=h.J.rem;have ait:=aiw.rem;have aio:=aiM.rem;have n10:=h.I.rem;have n11:=S2.ack;have n12:=aiw.ack;have a0:=h.I.a0;have a1:=h.I.a1;have a2:=h.I.a2;have a3:=h.I.a3;have b0:=h.I.b0;have b1:=h.I.b1;have b2:=h.I.b2;have b3:=h.I.b3;have hGp:=S.p;have hGa:=S.atB;have hGa2:=S.atA;obtain⟨G,hG⟩:∃ G,G=aay g r:=⟨_,rfl⟩;rw[<- hG]at aiN KG ais hY S n1 n2 n3 ail aim aip hGp hGa hGa2;have hupsG:ag8 G=(f.o.drop f.s.sgnA.toNat).map GL:=by
  unfold ag8;rw[hGp,hGa]
 have hbG:(G.p.length:Int)≤G.s.atB+512:=by rw[hGp,hGa];omega
 have com:∀ {a b:List cr}{C:cr},r=a++C::b->C.kind=4->(∀ x∈b,x.kind≠4) ->
   f.s.rem=f.s.ack+1/\g.s.loc+1=f.s.rem/\iY (aay g a)/\aaK c (aay g a)/\aaF d c (aay g a) C/\aaG d c g a/\aaG d c (rcv (aay g a) C) b/\(aay g a).p=f.o.take f.s.sgnA.toNat/\(aay g a).s.atB=f.s.heldA/\((aay g a).p.length:Int)≤(aay g a).s.atB+512/\aaF d c (aay g a) (tI c f)/\rcv (aay g a) (tI c f)=rcv (aay g a) C:=by
  intro a b C hr hC hb;have hq:=h.M.takes;rw[hr]at hq;obtain⟨q1,q2,q3⟩:=agm.1 hq;obtain⟨aiO,aiW⟩:=aaI q1 h.J h.H;have aiu:=aaA q1 h.J h.H;have aiy:=(agx aiO q2).2.1 hC;obtain⟨aiL,aiU⟩:=q2.next aiO aiW
  have air:=aaA q3 aiL aiU;have hGb:aay (rcv (aay g a) C) b=G:=by
   rw[hG,hr,agp,aaJ]
  rw[hGb]at air;have hloc:∀ {b:List cr}{x:StF},aaG d c x b->iY x->aaK c x->(∀ y∈b,y.kind≠4)->(aay x b).s.loc=x.s.loc:=by
   intro b;induction b with
   | nil=>intro x _ _ _ _;rfl
   | cons y b ih=>
    intro x hq I K hy;obtain⟨I',K'⟩:=hq.1.next I K
    rw[aaJ,ih hq.2 I' K' fun z hz=>hy z (by simp[hz])];have num:=agx I hq.1;by_cases h1:isU y
    ·rw[num.1 h1]
    ·exact (num.2.2 ((agE I hq.1 h1).resolve_left (hy y (by simp)))).1
  have hl2:=hloc q3 aiL aiU hb;rw[hGb]at hl2;have hXl:=aiu.loc;have x1:=aiy.1;have x2:=aiy.2.2.1;have x3:=aiy.2.2.2.1;have hat:=air.at_ hl2;have hXloc:(aay g a).s.loc=g.s.loc:=by omega
  have hrem:f.s.rem=g.s.loc+1:=by omega
  have hack:f.s.rem=f.s.ack+1:=by omega
  have hheld:=aiw.held (by omega);have hXat:=aiu.at_ hXloc;have y1:=S2.heldA;have e1:(aay g a).s.atB=f.s.heldA:=by omega
  have e2:(aay g a).s.heldA=f.s.sgnB:=by omega
  have hXlen:((aay g a).p.length:Int)=f.s.sgnA:=by omega
  have e3:(aay g a).p=f.o.take f.s.sgnA.toNat:=by
   obtain⟨Z,hZ⟩:=air.p;have:(rcv (aay g a) C).p=(aay g a).p:=aiy.2.2.2.2.1;rw[this,hGp]at hZ;rw[hZ,show f.s.sgnA.toNat=(aay g a).p.length by omega,List.take_left'];rfl
  have EX:=h.D.abr aiu;have hXo:(aay g a).o=f.p++Y:=by rw[aiu.o,<- ais.o];exact hY
  obtain⟨t1,t2⟩:=ahB aiO h.I EX h.K e3 e2 hXo hack (by omega) q2 hC;exact⟨hack,by omega,aiO,aiW,q2,q1,q3,e3,e1,by omega,t1,t2⟩
 have rev:∀ {a b:List cr}{R:cr},r=a++R::b->R.kind=5->R=qC c (aay g a).s.ack/\g.s.ack+1≤f.s.loc/\(aay g a).s.ack=g.s.ack/\aaF d c (aay g a) R/\aaG d c g a/\aaG d c (rcv (aay g a) R) b:=by
  intro a b R hr hR;have hq:=h.M.takes;rw[hr]at hq;obtain⟨q1,q2,q3⟩:=agm.1 hq;obtain⟨aiO,aiW⟩:=aaI q1 h.J h.H;have aiu:=aaA q1 h.J h.H;have aij:=(agx aiO q2).2.2 hR;obtain⟨aiL,aiU⟩:=q2.next aiO aiW
  have air:=aaA q3 aiL aiU;have hGb:aay (rcv (aay g a) R) b=G:=by
   rw[hG,hr,agp,aaJ]
  rw[hGb]at air;have n1U:¬ isU R:=by unfold isU;omega
  have:=aiu.ack;have:=air.ack;refine⟨(q2.rev n1U (by omega)).2,by omega,by omega,q2,q1,q3⟩
 have h4U:∀ {m:cr},m.kind=4->¬ isU m:=fun h=>by unfold isU;omega
 have h5U:∀ {m:cr},m.kind=5->¬ isU m:=fun h=>by unfold isU;omega
 have hU4:∀ {l:List cr},(∀ x∈l,isU x)->∀ x∈l,x.kind≠4:=fun h x hx h4=>h4U h4 (h x hx);have lo:g.s.ack≤f.s.loc:=by omega
 have hi:f.s.loc-1≤g.s.ack:=by omega
 have link:∀ {out:List cr},ahj c d g r out->ab3 d c (agf g) (agf f) out:=by
  intro out hp;exact⟨hp.1,by rw[hp.2,<- hG];exact ahT S⟩
 have alU:∀ m∈(f.o.drop f.s.sgnA.toNat).map GL,isU m:=by rw[<- hupsG];exact aia aiN
 have revP_no:∀ {b:Bool},g.s.ack=f.s.loc->agN c f g.s.ack b=[]:=by
  intro b hh;unfold agN;rw[if_neg (by omega)]
 have revP_yes:∀ {b:Bool},g.s.ack+1≤f.s.loc->agN c f g.s.ack b=if f.s.behind=b then [qC c g.s.ack] else []:=by
  intro b hh;unfold agN;by_cases hb:f.s.behind=b
  ·rw[if_pos ⟨by omega,hb⟩,if_pos hb]
  ·rw[if_neg (fun h=>hb h.2),if_neg hb]
 rcases agR r with hall|⟨us,m,r2,hr,hus,hm⟩
 ·
  have e:=agC (x:=g) hall;rw[<- hG]at e;have hp:=agz h.J h.H h.M.takes hall (by rw[<- hG];exact hbG);rw[<- hG,hupsG]at hp;have hloc:G.s.loc=g.s.loc:=by rw[e.1]
  have hack:G.s.ack=g.s.ack:=by rw[e.1]
  have hout:agJ c f g.s.ack false=(f.o.drop f.s.sgnA.toNat).map GL:=by
   unfold agJ;rw[revP_no (by omega),revP_no (by omega)];rfl
  refine⟨_,⟨false,hout.symm,fun hh=>(by cases hh),by rw[if_neg (by decide)];omega⟩,lo,hi,link hp,fun m hm=>?_⟩;rw[ahe alU]at hm;cases hm
 ·have hqr:=h.M.takes;rw[hr]at hqr;obtain⟨q1,q2,q3⟩:=agm.1 hqr;obtain⟨aiO,aiW⟩:=aaI q1 h.J h.H;have eX:=agC (x:=g) hus;obtain⟨aiP,aiX⟩:=q2.next aiO aiW
  have numX:=agx aiO q2;have o1:=aaA q3 aiP aiX;have hG1:aay (rcv (aay g us) m) r2=G:=by rw[hG,hr,agp,aaJ]
  rw[hG1]at o1;have ol:=o1.loc;have oa:=o1.ack;have x1:(aay g us).s.loc=g.s.loc:=by rw[eX.1]
  have x2:(aay g us).s.ack=g.s.ack:=by rw[eX.1]
  rcases agE aiO q2 hm with h4|h5
  ·
   have num:=numX.2.1 h4;rcases agR r2 with hall|⟨us2,m2,r3,hr2,hus2,hm2⟩
   ·
    obtain⟨w1,w2,_,_,_,_,_,w7,aiF,aiC,w10,w11⟩:=com hr h4 (hU4 hall);have hp2:=agz aiP aiX q3 hall (by rw[hG1];exact hbG);rw[hG1,hupsG]at hp2;have hp:=ag3 h.J h.H q1 hus aiC w10 w11 h4 hp2;rw[<- hr,ahl w7 (by rw[aiF])]at hp;have e2:=agC (x:=rcv (aay g us) m) hall;rw[hG1]at e2;have hack:G.s.ack=g.s.ack:=by
     rw[e2.1];have:=num.2.1;omega
    have hout:agJ c f g.s.ack true=((f.o.take f.s.sgnA.toNat).drop f.s.heldA.toNat).map GL++tI c f::(f.o.drop f.s.sgnA.toNat).map GL:=by
     unfold agJ;rw[revP_no (by omega),revP_no (by omega)];simp
    refine⟨_,⟨true,hout.symm,fun _=>w1,by rw[if_pos rfl];exact⟨w2,w1⟩⟩,lo,hi,link hp,fun x hx=>?_⟩;rw[agv (h4U (m:=tI c f) rfl) alU]at hx;injection hx with hx;subst hx;have hb:=hl m (by rw[hr,agv hm hall]);exact⟨fun _=>hb.1 h4,fun hh=>by cases hh⟩
   ·obtain⟨p1,p2,p3⟩:=agm.1 (by rw[hr2]at q3;exact q3);obtain⟨aiQ,aiY⟩:=aaI p1 aiP aiX;have e2:=agC (x:=rcv (aay g us) m) hus2;have numY:=agx aiQ p2;obtain⟨aiR,aiZ⟩:=p2.next aiQ aiY
    have o3:=aaA p3 aiR aiZ;have hG3:aay (rcv (aay (rcv (aay g us) m) us2) m2) r3=G:=(by rw[<- hG1,hr2,agp,aaJ]);rw[hG3]at o3;have ol3:=o3.loc;have oa3:=o3.ack;rcases agE aiQ p2 hm2 with k4|k5
    ·exfalso;have n2':=(numY.2.1 k4).1;rw[e2.1]at n2';have:=num.1;omega
    ·
     have n2':=numY.2.2 k5;rw[e2.1]at n2';have v1:=num.1;have v2:=num.2.1;have hall3:∀ x∈r3,isU x:=by
      rcases agR r3 with ha|⟨us3,m3,r4,hr3,hus3,hm3⟩
      ·exact ha
      ·exfalso;obtain⟨z1,z2,z3⟩:=agm.1 (by rw[hr3]at p3;exact p3);obtain⟨aiS,ai0⟩:=aaI z1 aiR aiZ;have e3:=agC (x:=rcv (aay (rcv (aay g us) m) us2) m2) hus3;obtain⟨aiT,ai1⟩:=z2.next aiS ai0
       have aiv:=aaA z3 aiT ai1;have hG5:aay (rcv (aay (rcv (aay (rcv (aay g us) m) us2) m2) us3) m3) r4=G:=(by rw[<- hG3,hr3,agp,aaJ]);rw[hG5]at aiv;have:=aiv.loc;have:=aiv.ack;rcases agE aiS z2 hm3 with ad0|aaf
       ·have n3':=((agx aiS z2).2.1 ad0).1;rw[e3.1]at n3';omega
       ·have n3':=((agx aiS z2).2.2 aaf).2.1;rw[e3.1]at n3';omega
     have hb4:∀ x∈r2,x.kind≠4:=by
      intro x hx;rw[hr2]at hx;rcases List.mem_append.1 hx with hx|hx
      ·exact hU4 hus2 x hx
      ·rcases List.mem_cons.1 hx with rfl|hx
       ·omega
       ·exact hU4 hall3 x hx
     obtain⟨w1,w2,_,_,_,_,_,w7,aiF,aiC,w10,w11⟩:=com hr h4 hb4;have hr':r=(us++m::us2)++m2::r3:=(by rw[hr,hr2,List.append_assoc];rfl);obtain⟨R1,R2,R3,_⟩:=rev hr' k5;have hp3:=agz aiR aiZ p3 hall3 (by rw[hG3];exact hbG);rw[hG3,hupsG]at hp3;have hp2:=ag2 aiP hus2 p2 hm2 (by omega) hp3;rw[<- hr2]at hp2;have hp:=ag3 h.J h.H q1 hus aiC w10 w11 h4 hp2;rw[<- hr,ahl w7 (by rw[aiF])]at hp;have hb:=hl m2 (by rw[hr',agv hm2 hall3]);have hbf:f.s.behind=false:=hb.2 k5;have hout:agJ c f g.s.ack true=((f.o.take f.s.sgnA.toNat).drop f.s.heldA.toNat).map GL++tI c f::m2::(f.o.drop f.s.sgnA.toNat).map GL:=by
      unfold agJ;rw[revP_yes R2,revP_yes R2,hbf,if_neg (by decide),if_pos rfl,R1,R3];simp
     refine⟨_,⟨true,hout.symm,fun _=>w1,by rw[if_pos rfl];exact⟨w2,w1⟩⟩,lo,hi,link hp,fun x hx=>?_⟩;rw[show ((f.o.take f.s.sgnA.toNat).drop f.s.heldA.toNat).map GL++tI c f::m2::(f.o.drop f.s.sgnA.toNat).map GL=(((f.o.take f.s.sgnA.toNat).drop f.s.heldA.toNat).map GL++[tI c f])++m2::(f.o.drop f.s.sgnA.toNat).map GL by simp,agv hm2 alU]at hx;injection hx with hx;subst hx;exact⟨fun hh=>by omega,fun _=>hbf⟩
  ·
   have num:=numX.2.2 h5;rcases agR r2 with hall|⟨us2,m2,r3,hr2,hus2,hm2⟩
   ·
    obtain⟨R1,R2,R3,_⟩:=rev hr h5;have hp2:=agz aiP aiX q3 hall (by rw[hG1];exact hbG);rw[hG1,hupsG]at hp2;have hp:=ag2 h.J hus q2 hm (by omega) hp2;rw[<- hr]at hp;have e2:=agC (x:=rcv (aay g us) m) hall;rw[hG1]at e2;have hloc:G.s.loc=g.s.loc:=by
     rw[e2.1];have:=num.1;omega
    have hb:=hl m (by rw[hr,agv hm hall]);have hbf:f.s.behind=false:=hb.2 h5;have hout:agJ c f g.s.ack false=m::(f.o.drop f.s.sgnA.toNat).map GL:=by
     unfold agJ;rw[revP_yes R2,revP_yes R2,hbf,if_neg (by decide),if_pos rfl,R1,R3];simp
    refine⟨_,⟨false,hout.symm,fun hh=>(by cases hh),by rw[if_neg (by decide)];omega⟩,lo,hi,link hp,fun x hx=>?_⟩;have:=agv (a:=[]) hm alU;rw[List.nil_append]at this;rw[this]at hx;injection hx with hx;subst hx;exact⟨fun hh=>by omega,fun _=>hbf⟩
   ·obtain⟨p1,p2,p3⟩:=agm.1 (by rw[hr2]at q3;exact q3);obtain⟨aiQ,aiY⟩:=aaI p1 aiP aiX;have e2:=agC (x:=rcv (aay g us) m) hus2;have numY:=agx aiQ p2;obtain⟨aiR,aiZ⟩:=p2.next aiQ aiY
    have o3:=aaA p3 aiR aiZ;have hG3:aay (rcv (aay (rcv (aay g us) m) us2) m2) r3=G:=(by rw[<- hG1,hr2,agp,aaJ]);rw[hG3]at o3;have ol3:=o3.loc;have oa3:=o3.ack;rcases agE aiQ p2 hm2 with k4|k5
    ·
     have n2':=numY.2.1 k4;rw[e2.1]at n2';have v1:=num.1;have v2:=num.2.1;have hall3:∀ x∈r3,isU x:=by
      rcases agR r3 with ha|⟨us3,m3,r4,hr3,hus3,hm3⟩
      ·exact ha
      ·exfalso;obtain⟨z1,z2,z3⟩:=agm.1 (by rw[hr3]at p3;exact p3);obtain⟨aiS,ai0⟩:=aaI z1 aiR aiZ;have e3:=agC (x:=rcv (aay (rcv (aay g us) m) us2) m2) hus3;obtain⟨aiT,ai1⟩:=z2.next aiS ai0
       have aiv:=aaA z3 aiT ai1;have hG5:aay (rcv (aay (rcv (aay (rcv (aay g us) m) us2) m2) us3) m3) r4=G:=(by rw[<- hG3,hr3,agp,aaJ]);rw[hG5]at aiv;have:=aiv.loc;have:=aiv.ack;rcases agE aiS z2 hm3 with ad0|aaf
       ·have n3':=((agx aiS z2).2.1 ad0).1;rw[e3.1]at n3';omega
       ·have n3':=((agx aiS z2).2.2 aaf).2.1;rw[e3.1]at n3';omega
     have hr':r=(us++m::us2)++m2::r3:=(by rw[hr,hr2,List.append_assoc];rfl);obtain⟨w1,w2,_,_,_,_,_,w7,aiF,aiC,w10,w11⟩:=com hr' k4 (hU4 hall3);have hXX:aay g (us++m::us2)=aay (rcv (aay g us) m) us2:=(by rw[agp,aaJ]);rw[hXX]at w7 aiF aiC w10 w11;obtain⟨R1,R2,R3,_⟩:=rev hr h5;have hp3:=agz aiR aiZ p3 hall3 (by rw[hG3];exact hbG);rw[hG3,hupsG]at hp3;have hp2:=ag3 aiP aiX p1 hus2 aiC w10 w11 k4 hp3;rw[<- hr2,ahl w7 (by rw[aiF])]at hp2;have hp:=ag2 h.J hus q2 hm (by omega) hp2;rw[<- hr]at hp;have hb:=hl m2 (by rw[hr',agv hm2 hall3]);have hbf:f.s.behind=true:=hb.1 k4;have hout:agJ c f g.s.ack true=m::(((f.o.take f.s.sgnA.toNat).drop f.s.heldA.toNat).map GL++tI c f::(f.o.drop f.s.sgnA.toNat).map GL):=by
      unfold agJ;rw[revP_yes R2,revP_yes R2,hbf,if_pos rfl,if_neg (by decide),R1,R3];simp
     refine⟨_,⟨true,hout.symm,fun _=>w1,by rw[if_pos rfl];exact⟨w2,w1⟩⟩,lo,hi,link hp,fun x hx=>?_⟩;rw[<- List.cons_append,agv (h4U (m:=tI c f) rfl) alU]at hx;injection hx with hx;subst hx;exact⟨fun _=>hbf,fun hh=>by cases hh⟩
    ·exfalso;have n2':=(numY.2.2 k5).2.1;rw[e2.1]at n2';have:=num.2.1;omega
end
end Go.Esc.M
namespace Go.Esc.M
open Go Go.Esc
section
variable {c d:CfM}{f f' g x y F:StF}{q r us out S S':List cr}{m:cr}{u:aL}{Y:List aL}
theorem agV (I:iY f) (I':iY f') (h1:f'.s.side=f.s.side) (h2:f'.s.bo=f.s.bo) (h3:f'.s.bp=f.s.bp) (h4:f'.s.rem=f.s.rem) (h5:f'.s.ack=f.s.ack) (h6:f'.s.sgnA=f.s.sgnA) (h7:f'.s.sgnB=f.s.sgnB) (h8:f'.s.ptsA=f.s.ptsA) (h9:f'.s.ptsB=f.s.ptsB)
  (ho:f'.o.take f.s.sgnA.toNat=f.o.take f.s.sgnA.toNat) (hp:f'.p.take f.s.sgnB.toNat=f.p.take f.s.sgnB.toNat):tI c f'=tI c f:=by
 have st:∀ {f:StF},iY f->kx f f.s.sgnA f.s.sgnB=foldM f.s.bo f.s.bp (f.o.take f.s.sgnA.toNat) (f.p.take f.s.sgnB.toNat):=by
  intro f I;have:=I.a0;have:=I.a1;have:=I.a2;have:=I.a3;have:=I.b0;have:=I.b1;have:=I.b2;have:=I.b3;have e:=(I.stands (n:=f.s.sgnA.toNat) (m:=f.s.sgnB.toNat) (by omega) (by omega) (by omega) (by omega)).1
  rwa [Int.toNat_of_nonneg (show 0≤f.s.sgnA by omega),Int.toNat_of_nonneg (show 0≤f.s.sgnB by omega)]at e
 have e1:=st I;have e2:=st I';unfold tI;rw[e1,e2,h1,h2,h3,h4,h5,h6,h7,h8,h9,ho,hp]
structure One (c:CfM) (f:StF) (r S:List cr):Prop where
 last:aho r f.s.behind
 near:(f.o.length:Int)≤f.s.heldA+512
 ho:∀ u∈f.o,GL u∈S
 hc:f.s.rem=f.s.ack+1->tI c f∈S
 hr:1≤f.s.loc->qC c (f.s.loc-1)∈S
 len:S.length≤mea f
 few:r.length≤mea f+4
 ok:∀ m∈S,m.ok
theorem agA {S:List cr}{m:cr}(h:m∈S) (T:List cr):m∈S++T:=List.mem_append.2 (.inl h)
theorem ahm {S T:List cr}(h:∀ m∈S,m.ok) (k:∀ m∈T,m.ok):∀ m∈S++T,m.ok:=fun m hm=>(List.mem_append.1 hm).elim (h m) (k m)
theorem One.pop (h:One c f (m::r) S):One c f r S:=⟨ahJ h.last,h.near,h.ho,h.hc,h.hr,h.len,by have:=h.few;simp at this;omega,h.ok⟩
theorem One.comes (h:One c f r S) (I:iY f) (k:aaK d f) (hc:c.ok) (ht:aaF c d f m):One c (rcv f m) (r++abg c f m) (S++abg c f m):=by
 obtain⟨I',_⟩:=ht.next I k
 unfold abg;by_cases h1:isU m
 ·have e:rcv f m=abY f (Bw m):=by unfold rcv;rw[if_pos h1]
  rw[if_pos h1,List.append_nil,List.append_nil];rw[e]at I' ⊢;refine⟨h.last,h.near,h.ho,fun hh=>?_,h.hr,h.len,h.few,h.ok⟩;have:=agV (c:=c) I I' rfl rfl rfl rfl rfl rfl rfl rfl rfl rfl (by
   show (f.p++[Bw m]).take f.s.sgnB.toNat=f.p.take f.s.sgnB.toNat
   exact nu f.p _ (by have:=I.b2;have:=I.b3;omega))
  rw[this];exact h.hc hh
 ·rw[if_neg h1];by_cases h4:m.kind=4
  ·have e:rcv f m=yy f m.index m.hash:=(by unfold rcv;rw[if_neg h1,if_pos h4]);have hm:=Jj (c:=c) I (ht.came h4);have hix:=(I.came (c:=c) ht.ok (ht.came h4)).2.2.2.2.2;rw[if_pos h4];rw[e]at I' ⊢;obtain⟨R,hR⟩:∃ R,R=qC c f.s.loc:=⟨_,rfl⟩;have hRo:R.ok:=(by rw[hR];exact ve hc I.ok.loc);have l0:=I.loc0;have l1:=I'.loc1;have l1:m.index≤281474976710654:=l1;have adT:R.kind=5:=(by rw[hR,aa2 l0 (by omega)]);rw[<- hR];refine⟨aht (by unfold isU;omega) ⟨fun hh=>by omega,fun _=>rfl⟩,h.near,fun u hu=>agA (h.ho u hu) _,fun hh=>?_,fun _=>?_,?_,?_,ahm h.ok (by simpa using hRo)⟩
   ·have:=agV (c:=c) I I' rfl rfl rfl rfl rfl rfl rfl rfl rfl rfl rfl;rw[this];exact agA (h.hc hh) _
   ·show qC c (m.index-1)∈S++[R];rw[show m.index-1=f.s.loc by omega,<- hR];simp
   ·have:=h.len;rw[List.length_append,List.length_singleton];omega
   ·have:=h.few;rw[List.length_append,List.length_singleton];omega
  ·have e:rcv f m=uQ f (abW f m):=(by unfold rcv;rw[if_neg h1,if_neg h4]);obtain⟨_,_,_,_,_,_,hrem,_,_⟩:=I.y8 ht.ok (ht.rev h1 h4).1;rw[if_neg h4,List.append_nil,List.append_nil,e];refine⟨h.last,?_,h.ho,fun hh=>?_,h.hr,h.len,h.few,h.ok⟩
   ·show (f.o.length:Int)≤f.s.sgnA+512;have:=h.near;have:=I.a2;omega
   ·have hh:f.s.rem=f.s.ack+1+1:=hh;omega
theorem ahX (h:yr f=false) (I:iY f):(f.o.length:Int)<f.s.heldA+512:=by
 have:=I.lo;have:=I.a0;have:=I.a1;have:=I.a2;have:=I.a3;unfold yr at h;simp only[Bool.or_eq_false_iff,decide_eq_false_iff_not]at h;have h2:=h.2;rw[i64_in (by omega) (by omega)]at h2;omega
theorem One.call (h:One c f r S) (I:iY f) {o:jj}(ho:o.ok) (hc:c.ok) (h0:(lD f o).2=0):One c (tF f o) (r++sL c f (tF f o) (lD f o).1) (S++sL c f (tF f o) (lD f o).1):=by
 obtain⟨I',_⟩:=I.tF ho h0;have hm:=Jk I h0;have ours:∀ u:aL,u.ok->u.kind=1\/u.kind=2\/u.kind=3->yr f=false->tF f o=q6 f u->sL c f (tF f o) (lD f o).1=[GL u]->One c (tF f o) (r++sL c f (tF f o) (lD f o).1) (S++sL c f (tF f o) (lD f o).1):=by
  intro u hu hk hf hF hs;rw[hs];rw[hF]at I' hm ⊢;have hU:isU (GL u):=hk;refine⟨ahZ h.last hU,?_,fun w hw=>?_,fun hh=>?_,fun hh=>agA (h.hr hh) _,?_,?_,ahm h.ok (by simpa using vY hu)⟩
  ·show ((f.o++[u]).length:Int)≤f.s.heldA+512;have:=ahX hf I;rw[List.length_append,List.length_singleton];omega
  ·rcases List.mem_append.1 hw with hw|hw
   ·exact agA (h.ho w hw) _
   ·have:w=u:=(by simpa using hw);subst this;simp
  ·have:=agV (c:=c) I I' rfl rfl rfl rfl rfl rfl rfl rfl rfl (by
    show (f.o++[u]).take f.s.sgnA.toNat=f.o.take f.s.sgnA.toNat
    exact nu f.o _ (by have:=I.a3;omega)) rfl
   rw[this];exact agA (h.hc hh) _
  ·have:=h.len;rw[List.length_append,List.length_singleton];omega
  ·have:=h.few;rw[List.length_append,List.length_singleton];omega
 have rem:∀ u:aL,u.ok->u.kind=2\/u.kind=3->lD f o=j4 f u->tF f o=q6 f (lD f o).1.upd->(dp u=true\/64<u.note.length\/u.id<0\/2048≤u.id)->One c (tF f o) (r++sL c f (tF f o) (lD f o).1) (S++sL c f (tF f o) (lD f o).1):=by
  intro u hu hk he hF hv;rw[he]at h0;obtain⟨f1,_,_⟩:=aa0 I h0;obtain⟨e,_,_⟩:=I.y9 hu hv (by omega) h0;rw[he,e]at hF;refine ours u hu (.inr hk) f1 hF ?_;rw[he,e];rfl
 by_cases h1:o.kind=1
 ·have he:lD f o=n8 f o.amount o.hash:=by unfold lD;rw[if_pos h1]
  have hF:tF f o=q6 f (lD f o).1.upd:=by unfold tF;rw[if_neg (by omega)]
  rw[he]at h0;obtain⟨f1,_,_,_⟩:=abc I h0;obtain⟨u,e,hu,hk,_,_,_⟩:=I.offer ho.hash h0;rw[he,e]at hF;refine ours u hu (.inl hk) f1 hF ?_;rw[he,e];rfl
 by_cases h2:o.kind=2
 ·exact rem ⟨2,o.id,0,o.hash,[]⟩ (IB ho) (.inl rfl) (by unfold lD;rw[if_neg h1,if_pos h2]) (by unfold tF;rw[if_neg (by omega)]) (Gr _ _)
 by_cases h3:o.kind=3
 ·exact rem ⟨3,o.id,0,M.h0,o.note⟩ (Iy ho) (.inr rfl) (by unfold lD;rw[if_neg h1,if_neg h2,if_pos h3]) (by unfold tF;rw[if_neg (by omega)]) (Gq _ _)
 by_cases h4:o.kind=4
 ·have he:lD f o=p6 f:=by unfold lD;rw[if_neg h1,if_neg h2,if_neg h3,if_pos h4]
  have hF:tF f o=yG f (lD f o).1:=by unfold tF;rw[if_pos h4]
  rw[he]at h0 hF;obtain⟨e,_⟩:=I.sign h0;have hsm:sL c f (tF f o) (lD f o).1=[tI c (tF f o)]:=by
   unfold sL;rw[he,if_neg (by rw[e];show ¬ (2:Int)=1;decide),if_pos (by rw[e])]
  rw[hsm];have ha:=xT (c:=c) I'.ok;have adO:(tI c (tF f o)).kind=4:=rfl;rw[hF]at I' hm ha adO ⊢;obtain⟨A,hA⟩:∃ A,A=tI c (yG f (p6 f).1):=⟨_,rfl⟩;rw[<- hA]at ha adO ⊢;refine⟨aht (by unfold isU;omega) ⟨fun _=>rfl,fun hh=>by omega⟩,h.near,fun w hw=>agA (h.ho w hw) _,fun hh=>?_,fun hh=>agA (h.hr hh) _,?_,?_,ahm h.ok (by simpa using ha)⟩
  ·rw[<- hA];simp
  ·have:=h.len;rw[List.length_append,List.length_singleton];omega
  ·have:=h.few;rw[List.length_append,List.length_singleton];omega
 ·exfalso;unfold lD at h0;rw[if_neg h1,if_neg h2,if_neg h3,if_neg h4]at h0;cases h0
theorem ah4 {n:Int}{b:Bool}(h:One c f r S) (hn:0≤n) (hb:b=true->f.s.rem=f.s.ack+1):∀ m∈agJ c f n b,m∈S:=by
 have hrev:∀ x,∀ m∈agN c f n x,m∈S:=by
  intro x m hm;unfold agN at hm;split at hm
  ·rename_i hh;have:m=qC c n:=(by simpa using hm);rw[this,hh.1];exact h.hr (by omega)
  ·cases hm
 have hup:∀ {l:List aL},(∀ u∈l,u∈f.o)->∀ m∈l.map GL,m∈S:=by
  intro l hl m hm;obtain⟨u,hu,rfl⟩:=List.mem_map.1 hm;exact h.ho u (hl u hu)
 intro m hm;unfold agJ at hm;rcases List.mem_append.1 hm with hm|hm
 ·rcases List.mem_append.1 hm with hm|hm
  ·rcases List.mem_append.1 hm with hm|hm
   ·exact hrev _ m hm
   ·cases b with
    | false=>cases hm
    | true=>
     rcases List.mem_append.1 hm with hm|hm
     ·exact hup (fun u hu=>List.mem_of_mem_take (List.mem_of_mem_drop hu)) m hm
     ·have:m=tI c f:=(by simpa using hm);rw[this];exact h.hc (hb rfl)
  ·exact hrev _ m hm
 ·exact hup (fun u hu=>List.mem_of_mem_drop hu) m hm
theorem ahx (I:iY f):(f.o.map GL).Pairwise (·≠·):=by
 rw[List.pairwise_map,List.pairwise_iff_getElem];intro i j hi hj hij he;have ei:=List.getElem?_eq_getElem hi;have ej:=List.getElem?_eq_getElem hj;have hk:f.o[i].kind=f.o[j].kind:=congrArg cr.kind he;have hd:f.o[i].id=f.o[j].id:=congrArg cr.id he;by_cases h1:f.o[i].kind=1
 ·have:=FF (ui I.go) ei ej h1 (by omega) hd;omega
 ·have:=sr I.go i j _ _ ei ej h1 (by omega) hd;omega
theorem ahD {n:Int}{b:Bool}(I:iY f) (hn:0≤n):(agJ c f n b).Pairwise (·≠·):=by
 have hU:∀ {l:List aL},(∀ u∈l,u∈f.o)->∀ m∈l.map GL,isU m:=by
  intro l hl m hm;obtain⟨u,hu,rfl⟩:=List.mem_map.1 hm;have:=(lW (I.vo u (hl u hu))).2.2;show u.kind=1\/u.kind=2\/u.kind=3;omega
 have l1:=I.loc1;have hrev:∀ x,∀ m∈agN c f n x,m.kind=5/\f.s.behind=x:=by
  intro x m hm;unfold agN at hm;split at hm
  ·rename_i hh;have:m=qC c n:=(by simpa using hm);rw[this,aa2 hn (by omega)];exact⟨rfl,hh.2⟩
  ·cases hm
 have hrp:∀ x,(agN c f n x).Pairwise (·≠·):=by
  intro x;unfold agN;split
  ·simp
  ·simp
 have hnd:=ahx I;have a2:=I.a2;have a1:=I.a1;have a0:=I.a0;have hsub:(f.o.take f.s.sgnA.toNat).drop f.s.heldA.toNat++f.o.drop f.s.sgnA.toNat=f.o.drop f.s.heldA.toNat:=by
  have:f.o.drop f.s.heldA.toNat=(f.o.take f.s.sgnA.toNat++f.o.drop f.s.sgnA.toNat).drop f.s.heldA.toNat:=by rw[List.take_append_drop]
  rw[this,List.drop_append];have hl:(f.o.take f.s.sgnA.toNat).length=f.s.sgnA.toNat:=by rw[List.length_take];have:=I.a3;omega
  rw[hl,show f.s.heldA.toNat-f.s.sgnA.toNat=0 by omega,List.drop_zero]
 have hnd2:(((f.o.take f.s.sgnA.toNat).drop f.s.heldA.toNat).map GL++(f.o.drop f.s.sgnA.toNat).map GL).Pairwise (·≠·):=by
  rw[<- List.map_append,hsub,List.map_drop];exact List.Pairwise.sublist (List.drop_sublist _ _) hnd
 obtain⟨d1,d2,d3⟩:=List.pairwise_append.1 hnd2;have U1:=hU (l:=(f.o.take f.s.sgnA.toNat).drop f.s.heldA.toNat) fun u hu=>List.mem_of_mem_take (List.mem_of_mem_drop hu);have U2:=hU (l:=f.o.drop f.s.sgnA.toNat) fun u hu=>List.mem_of_mem_drop hu;have ne5:∀ {a b:cr},a.kind=5->isU b->a≠b:=by
  intro a b h1 h2 e;rw[e]at h1;unfold isU at h2;omega
 have ne5':∀ {a b:cr},isU a->b.kind=5->a≠b:=fun h1 h2 e=>ne5 h2 h1 e.symm;have adO:(tI c f).kind=4:=rfl;unfold agJ;obtain⟨A,hA⟩:∃ A,A=tI c f:=⟨_,rfl⟩;rw[<- hA]at adO ⊢;have ne4:∀ {b:cr},isU b->A≠b:=by
  intro b h2 e;rw[<- e]at h2;unfold isU at h2;omega
 have ne45:∀ {b:cr},b.kind=5->A≠b:=by
  intro b h2 e;rw[<- e]at h2;omega
 have mid:(bif b then ((f.o.take f.s.sgnA.toNat).drop f.s.heldA.toNat).map GL++[A] else []).Pairwise (·≠·)/\∀ x∈(bif b then ((f.o.take f.s.sgnA.toNat).drop f.s.heldA.toNat).map GL++[A] else []),x=A\/(isU x/\x∈((f.o.take f.s.sgnA.toNat).drop f.s.heldA.toNat).map GL):=by
  cases b with
  | false=>exact⟨List.Pairwise.nil,fun x hx=>by cases hx⟩
  | true=>
   refine⟨List.pairwise_append.2 ⟨d1,List.pairwise_singleton _ _,fun x hx y hy=>?_⟩,fun x hx=>?_⟩
   ·have:y=A:=(by simpa using hy);rw[this];exact fun e=>ne4 (U1 x hx) e.symm
   ·rcases List.mem_append.1 hx with hx|hx
    ·exact .inr ⟨U1 x hx,hx⟩
    ·exact .inl (by simpa using hx)
 obtain⟨mp,ad5⟩:=mid;refine List.pairwise_append.2 ⟨List.pairwise_append.2 ⟨List.pairwise_append.2 ⟨hrp _,mp,fun x hx y hy=>?_⟩,hrp _,fun x hx y hy=>?_⟩,d2,fun x hx y hy=>?_⟩
 ·rcases ad5 y hy with rfl|⟨h1,_⟩
  ·exact fun e=>ne45 (hrev _ x hx).1 e.symm
  ·exact ne5 (hrev _ x hx).1 h1
 ·rcases List.mem_append.1 hx with hx|hx
  ·exfalso;have e1:=(hrev _ x hx).2;have e2:=(hrev _ y hy).2;rw[e1]at e2;cases e2
  ·rcases ad5 x hx with rfl|⟨h1,_⟩
   ·exact ne45 (hrev _ y hy).1
   ·exact ne5' h1 (hrev _ y hy).1
 ·rcases List.mem_append.1 hx with hx|hx
  ·rcases List.mem_append.1 hx with hx|hx
   ·exact ne5 (hrev _ x hx).1 (U2 y hy)
   ·rcases ad5 x hx with rfl|⟨_,h1⟩
    ·exact ne4 (U2 y hy)
    ·exact d3 x h1 y hy
  ·exact ne5 (hrev _ x hx).1 (U2 y hy)
theorem ah5 {n:Int}{b:Bool}(I:iY f):(agJ c f n b).length≤f.o.length+3:=by
 have hr:∀ x,(agN c f n x).length≤1:=by
  intro x;unfold agN;split<;>simp
 have h1:=hr true;have h2:=hr false;have:=I.a2;have:=I.a3;unfold agJ;rw[List.length_append,List.length_append,List.length_append,List.length_map,List.length_drop];cases b with
 | false=>simp;omega
 | true=>
  simp only[cond_true,List.length_append,List.length_map,List.length_drop,List.length_take,List.length_singleton];omega
theorem ahn (J:iY g) (K:aaK c g) (hc:c.seed.length=32):acG (agf g)={ cr.zero with kind:=6,index:=g.s.loc+1,next:=g.s.ack,secret:=(acG (agf g)).secret }/\acx c { cr.zero with kind:=6,index:=g.s.loc+1,next:=g.s.ack,secret:=(acG (agf g)).secret }=true:=by
 have l0:=J.loc0;have l1:=J.loc1;have k0:=J.ack0;have k1:=J.rem1;have k2:=J.rem;have hs:(acG (agf g)).secret=if 0<g.s.ack then (ac8 g.h (g.s.ack-1)).1 else h0:=rfl;refine⟨?_,?_⟩
 ·show ({ cr.zero with kind:=6,index:=IntKind.i64.wrap (g.s.loc+1),next:=g.s.ack,secret:=if 0<g.s.ack then (ac8 g.h (g.s.ack-1)).1 else h0 }:cr)=_;rw[i64_in (by omega) (by omega),hs]
 ·rw[hs];obtain⟨z,hz⟩:∃ z,z=(if 0<g.s.ack then (ac8 g.h (g.s.ack-1)).1 else h0):=⟨_,rfl⟩;rw[<- hz];unfold acx;show (if 0<g.s.ack then decide (g.s.ack≤281474976710655) && (decide ((jS c.seed (g.s.ack-1)).2=0) && decide ((jS c.seed (g.s.ack-1)).1=z)) else if g.s.ack=0 then decide (z=h0) else true)=true;by_cases hp:0<g.s.ack
  ·rw[if_pos hp]at hz ⊢;obtain⟨n,hn⟩:∃ n:Nat,g.s.ack=((n+1:Nat):Int):=⟨(g.s.ack-1).toNat,by omega⟩;have hsh:=K.h;rw[hn,Int.toNat_natCast]at hsh;have hg:=ahV hsh (by omega);have e:g.s.ack-1=(n:Int):=(by omega);rw[e,hg]at hz;have hok:okN (n:Int)=true:=GJ.2 ⟨by omega,by omega⟩;have h2:(jS c.seed (n:Int)).2=0:=by
    unfold jS;rw[hok,cond_true]
   rw[e,dT_ (by omega),dT_ h2,dT_ hz.symm];rfl
  ·rw[if_neg hp]at hz ⊢;rw[if_pos (by omega),dT_ hz]
end
end Go.Esc.M
namespace Go.Esc.M
open Go Go.Esc
def agn (tb:AId) (v:Bool->ah):ah:=.agg [.ptr tb [] 0,.agg [v false,v true]]
abbrev agI (x tb:AId) (t:me) (S:Bool->List cr) (v:Bool->ah):List LP:=
 [au x (agn tb v),bm 70 (v false) ((S false).map cr.av),bm 70 (v true) ((S true).map cr.av),jP tb t]
def age (x tb:AId) (t:me) (S:Bool->List cr):LP where
 p:=fun G F=>∃ v Fs,Sps (agI x tb t S v) Fs G/\F=Fs.flatten
 rows:=by
  rintro G F ⟨v,Fs,h,rfl⟩
  exact h.rows
 loc:=by
  rintro G G' F ⟨v,Fs,h,rfl⟩ hs
  exact⟨v,Fs,h.same hs,rfl⟩
section
variable {F0:List AId}{G0 G:ak}{ps:List LP}{Q:ah->ak->Prop}{x tb:AId}{t:me}{S:Bool->List cr}{v:Bool->ah}
theorem age.open {F:List AId}(h:(age x tb t S).p G F):∃ v,Sp F G (agI x tb t S v) G:=by
 obtain⟨v,Fs,h,rfl⟩:=h;exact⟨v,Fs,h,Ch.refl _ _⟩
theorem age.close {F:List AId}(h:Sp F G0 (agI x tb t S v) G):∃ F',(age x tb t S).p G F'/\Ch F G0 F' G:=by
 obtain⟨Fs,h1,h2⟩:=h;exact⟨Fs.flatten,⟨v,Fs,h1,rfl⟩,h2⟩
theorem agr:bt T af6 (.ptr x [] 0) 0=some (.ptr x [0] 0):=rfl
theorem agX:bt T af6 (.ptr x [] 0) 1=some (.ptr x [1] 1):=rfl
theorem agh:lr (.ptr x [] 0)=some (.ptr x [] 0):=rfl
theorem agY (s:Bool):aO T agc (.ptr x [1] 1) (.int .i64 (bI s))=some (.ptr x [1,bN s] (1+bN s)):=by cases s<;>rfl
structure agL (G:ak) (x tb:AId) (t:me) (S:Bool->List cr) (v:Bool->ah):Prop where
 g:G x=some (.own (agn tb v))
 lv:∀ s,bw (v s)
 is:∀ s,ff 70 G (v s) ((S s).map cr.av)
 tb:∃ l w,pw G tb t l w
theorem Sp.line (h:Sp F0 G0 (agI x tb t S v++ps) G):agL G x tb t S v:=by
 have a1:=bm.own (i:=1) h rfl;have a2:=bm.own (i:=2) h rfl;obtain⟨F1,hF1⟩:=h.get (i:=3) rfl;exact⟨au.own (i:=0) h rfl,fun s=>by cases s;exact a1.leaf;exact a2.leaf,fun s=>by cases s;exact a1.is;exact a2.is,jP.at_ hF1⟩
theorem agL.szl (h:agL G x tb t S v):[ah.ptr tb [] 0,.agg [v false,v true]].map Esc.sz=[1,2]:=by simp[Esc.sz,szs,(h.lv false).1,(h.lv true).1]
theorem agL.szs (h:agL G x tb t S v):[v false,v true].map Esc.sz=[1,1]:=by simp[(h.lv false).1,(h.lv true).1]
theorem agL.ldT (h:agL G x tb t S v):ag T G af7 (.ptr x [0] 0)=some (.ptr tb [] 0):=ld1 h.g h.szl rfl rfl agK rfl
theorem agL.ldS (h:agL G x tb t S v) (s:Bool):ag T G bR (.ptr x [1,bN s] (1+bN s))=some (v s):=by
 cases s
 ·exact ld2 h.g h.szl rfl rfl h.szs rfl rfl rfl gP (kF (h.lv false) rfl)
 ·exact ld2 h.g h.szl rfl rfl h.szs rfl rfl rfl gP (kF (h.lv true) rfl)
theorem ahd {m:cr}{s:Bool}{K:ak->Prop}(h:Sp F0 G0 (agI x tb t S v++ps) G) (hm:m.ok) (hl:(S s).length≤100000000) (hK:∀ v' G',Sp F0 G0 (agI x tb t (mg S s (S s++[m])) v'++ps) G'->K G') :
  bu T bR 1 [(0,m.av)] G fun v28 G29=>cn T G29 bR bR (v s) v28 fun v30 G31=>wv (aO T agc (.ptr x [1] 1) (.int .i64 (bI s))) fun v32=>wg (aF T G31 bR v32 v30) fun G33=>K G33:=by
 have a:=Sp.line h;have e:(S s).map cr.av++[m.av]=(S s++[m]).map cr.av:=by rw[List.map_append];rfl
 cases s
 ·refine wm (T:=T) (ts:=bR) (e:=aW) (si:=iJ) (ie:=il) (i:=1) gP rfl eQ rfl (by decide) h rfl (cr.sz hm) (cr.okv m) (by decide) (by rw[List.length_map];simp only[il];omega) fun y G31 s31=>?_;refine ae (agY false) ?_;have hy:=(bm.own (i:=1) s31 rfl).leaf;refine fg (st2 (au.own (i:=0) s31 rfl) a.szl rfl rfl a.szs rfl rfl rfl gP (kF hy rfl) (by rw[(a.lv false).1,hy.1]) hy.2.2) ?_;rw[e]at s31;exact hK (mg v false y) _ (Sp.setRow (j:=0) s31 rfl (agn tb (mg v false y)))
 ·refine wm (T:=T) (ts:=bR) (e:=aW) (si:=iJ) (ie:=il) (i:=2) gP rfl eQ rfl (by decide) h rfl (cr.sz hm) (cr.okv m) (by decide) (by rw[List.length_map];simp only[il];omega) fun y G31 s31=>?_;refine ae (agY true) ?_;have hy:=(bm.own (i:=2) s31 rfl).leaf;refine fg (st2 (au.own (i:=0) s31 rfl) a.szl rfl rfl a.szs rfl rfl rfl gP (kF hy rfl) (by rw[(a.lv true).1,hy.1]) hy.2.2) ?_;rw[e]at s31;exact hK (mg v true y) _ (Sp.setRow (j:=0) s31 rfl (agn tb (mg v true y)))
def agu (t:me) (S:Bool->List cr) (a b:Nat):Bool->List cr:=fun s=>S s++(t.q (!s)).drop (bif s then a else b)
theorem ahb {l:List cr}{a j:Nat}{m:cr}(h:l[a+j]?=some m):(l.drop a).take (j+1)=(l.drop a).take j++[m]:=by
 rw[List.take_add_one,List.getElem?_drop,h];rfl
theorem af5.use {F:List AId}{n a b:Nat}(h:(age x tb t S).p G F) (k:kK t n) (hn:n≤1000000) (hS:∀ s,(S s).length≤1000000) (ha:a≤(t.q false).length) (hb:b≤(t.q true).length)
  (hQ:∀ F' G',(age x tb t (agu t S a b)).p G' F'->Ch F G F' G'->Q (.tuple []) G'):al P af5.n [.ptr x [] 0,.int .i64 (a:Int),.int .i64 (b:Int)] G Q:=by
 refine af5.sound ?_;unfold af5.S;obtain⟨v,s0⟩:=age.open h;have hq:=k.n;have hq0:=hq false;have hq1:=hq true;have hS1:=hS true;have hS0:=hS false;intro R1 hR1;have second:∀ (i j:Nat) (v:Bool->ah) (G2:ak) (R:List ah->ak->Prop),i+j=(t.q true).length-b->(∀ (x37 x38:ah) (G36:ak),(wv (lr x37) fun v39=>wv (bt T af6 v39 0) fun v40=>wv (ag T G36 af7 v40) fun v41=>wv (lr v41) fun v42=>wv (bt T bz v42 3) fun v43=>wv (ag T G36 bR v43) fun v44=>wv (fU T G36 bR v44) fun v45=>wv (az T .lss ay x38 v45) fun v46=>brB (some v46)
   (wv (lr x37) fun v47=>wv (bt T af6 v47 1) fun v48=>wv (aO T agc v48 (.int .i64 0)) fun v49=>wv (ag T G36 bR v49) fun v50=>wv (lr x37) fun v51=>wv (bt T af6 v51 0) fun v52=>wv (ag T G36 af7 v52) fun v53=>wv (lr v53) fun v54=>wv (bt T bz v54 3) fun v55=>wv (ag T G36 bR v55) fun v56=>wv (aO T bR v56 x38) fun v57=>wv (ag T G36 aW v57) fun v58=>wv (lr x37) fun v59=>wv (bt T af6 v59 1) fun v60=>bu T bR 1 [(0,v58)] G36 fun v61 G62=>cn T G62 bR bR v50 v61 fun v63 G64=>wv (aO T agc v60 (.int .i64 0)) fun v65=>wg (aF T G64 bR v65 v63) fun G66=>wv (az T .add ay x38 (.int .i64 1)) fun v67=>R [x37,v67] G66)
   (Q (.tuple []) G36))->R [x37,x38] G36) ->
   Sp F G (agI x tb t (mg (mg S true (S true++(t.q false).drop a)) false (S false++((t.q true).drop b).take j)) v) G2->R [.ptr x [] 0,.int .i64 ((b+j:Nat):Int)] G2:=by
  intro i;induction i with
  | zero=>
   intro j v G2 R hij hR s2;obtain⟨l,w,aiA⟩:=(Sp.line (ps:=[]) s2).tb;have lA:=Sp.line (ps:=[]) s2;refine hR _ _ _ ?_;refine ae agh ?_;refine ae agr ?_;refine ae lA.ldT ?_;refine ae jm ?_;refine ae CJ ?_;refine ae (aiA.ldQ k true) ?_;refine ae (Jf (aiA.q true).is) ?_;rw[aM,aa,dF_ (by omega),aK];have e:mg (mg S true (S true++(t.q false).drop a)) false (S false++((t.q true).drop b).take j)=agu t S a b:=by
    funext s;cases s
    ·show S false++((t.q true).drop b).take j=S false++(t.q true).drop b;rw[List.take_of_length_le (by rw[List.length_drop];omega)]
    ·rfl
   rw[e]at s2;obtain⟨F',q1,q2⟩:=age.close s2;exact hQ F' G2 q1 q2
  | succ i ih=>
   intro j v G2 R hij hR s2;obtain⟨l,w,aiA⟩:=(Sp.line (ps:=[]) s2).tb;have lA:=Sp.line (ps:=[]) s2;obtain⟨m,hm⟩:∃ m,(t.q true)[b+j]?=some m:=⟨_,List.getElem?_eq_getElem (by omega)⟩;have hmo:m.ok:=k.q true m (List.mem_of_getElem? hm);obtain⟨p,p1,p2⟩:=KA (aiA.q true).is hm;refine hR _ _ _ ?_;refine ae agh ?_;refine ae agr ?_;refine ae lA.ldT ?_;refine ae jm ?_;refine ae CJ ?_;refine ae (aiA.ldQ k true) ?_;refine ae (Jf (aiA.q true).is) ?_;rw[aM,aa,dT_ (by omega),aN];refine ae agh ?_;refine ae agX ?_;refine ae (agY false) ?_;refine ae (lA.ldS false) ?_;refine ae agh ?_;refine ae agr ?_;refine ae lA.ldT ?_;refine ae jm ?_;refine ae CJ ?_;refine ae (aiA.ldQ k true) ?_;refine ae p1 ?_;refine ae p2 ?_;refine ae agh ?_;refine ae agX ?_;refine ahd (s:=false) (ps:=[]) s2 hmo (by show (S false++((t.q true).drop b).take j).length≤_;rw[List.length_append,List.length_take,List.length_drop];omega) fun v' G3 s3=>?_;rw[bg,i64_in (by omega) (by omega),aa];have e:mg (mg (mg S true (S true++(t.q false).drop a)) false (S false++((t.q true).drop b).take j)) false ((mg (mg S true (S true++(t.q false).drop a)) false (S false++((t.q true).drop b).take j)) false++[m])=mg (mg S true (S true++(t.q false).drop a)) false (S false++((t.q true).drop b).take (j+1)):=by
    funext s;cases s
    ·show (S false++((t.q true).drop b).take j)++[m]=S false++((t.q true).drop b).take (j+1);rw[ahb hm,List.append_assoc]
    ·rfl
   rw[e]at s3;have:=ih (j+1) v' G3 R (by omega) hR s3;rw[show ((b+(j+1):Nat):Int)=((b+j:Nat):Int)+1 by omega]at this;exact this
 have first:∀ (i j:Nat) (v:Bool->ah) (G2:ak),i+j=(t.q false).length-a->Sp F G (agI x tb t (mg S true (S true++((t.q false).drop a).take j)) v) G2->R1 [.ptr x [] 0,.int .i64 (b:Int),.int .i64 ((a+j:Nat):Int)] G2:=by
  intro i;induction i with
  | zero=>
   intro j v G2 hij s2;obtain⟨l,w,aiA⟩:=(Sp.line (ps:=[]) s2).tb;have lA:=Sp.line (ps:=[]) s2;refine hR1 _ _ _ _ ?_;refine ae agh ?_;refine ae agr ?_;refine ae lA.ldT ?_;refine ae jm ?_;refine ae CK ?_;refine ae (aiA.ldQ k false) ?_;refine ae (Jf (aiA.q false).is) ?_;rw[aM,aa,dF_ (by omega),aK];rw[List.take_of_length_le (by rw[List.length_drop];omega)]at s2;intro R35 hR35;have e:mg (mg S true (S true++(t.q false).drop a)) false (S false++((t.q true).drop b).take 0)=mg S true (S true++(t.q false).drop a):=by
    funext s;cases s
    ·show S false++[]=S false;rw[List.append_nil]
    ·rfl
   refine second ((t.q true).length-b) 0 v G2 R35 (by omega) hR35 ?_;rw[e];exact s2
  | succ i ih=>
   intro j v G2 hij s2;obtain⟨l,w,aiA⟩:=(Sp.line (ps:=[]) s2).tb;have lA:=Sp.line (ps:=[]) s2;obtain⟨m,hm⟩:∃ m,(t.q false)[a+j]?=some m:=⟨_,List.getElem?_eq_getElem (by omega)⟩;have hmo:m.ok:=k.q false m (List.mem_of_getElem? hm);obtain⟨p,p1,p2⟩:=KA (aiA.q false).is hm;refine hR1 _ _ _ _ ?_;refine ae agh ?_;refine ae agr ?_;refine ae lA.ldT ?_;refine ae jm ?_;refine ae CK ?_;refine ae (aiA.ldQ k false) ?_;refine ae (Jf (aiA.q false).is) ?_;rw[aM,aa,dT_ (by omega),aN];refine ae agh ?_;refine ae agX ?_;refine ae (agY true) ?_;refine ae (lA.ldS true) ?_;refine ae agh ?_;refine ae agr ?_;refine ae lA.ldT ?_;refine ae jm ?_;refine ae CK ?_;refine ae (aiA.ldQ k false) ?_;refine ae p1 ?_;refine ae p2 ?_;refine ae agh ?_;refine ae agX ?_;refine ahd (s:=true) (ps:=[]) s2 hmo (by show (S true++((t.q false).drop a).take j).length≤_;rw[List.length_append,List.length_take,List.length_drop];omega) fun v' G3 s3=>?_;rw[bg,i64_in (by omega) (by omega),aa];have e:mg (mg S true (S true++((t.q false).drop a).take j)) true ((mg S true (S true++((t.q false).drop a).take j)) true++[m])=mg S true (S true++((t.q false).drop a).take (j+1)):=by
    funext s;cases s
    ·rfl
    ·show (S true++((t.q false).drop a).take j)++[m]=S true++((t.q false).drop a).take (j+1);rw[ahb hm,List.append_assoc]
   rw[e]at s3;have:=ih (j+1) v' G3 (by omega) s3;rw[show ((a+(j+1):Nat):Int)=((a+j:Nat):Int)+1 by omega]at this;exact this
 have e0:mg S true (S true++((t.q false).drop a).take 0)=S:=by
  funext s;cases s
  ·rfl
  ·show S true++[]=S true;rw[List.append_nil]
 have:=first ((t.q false).length-a) 0 v G (by omega) (by rw[e0];exact s0)
 exact this
theorem af8.use {F:List AId}{n:Nat}(h:(age x tb t S).p G F) (k:kK t n) (m0:Sync (t.f false) (t.f true)) (m1:Sync (t.f true) (t.f false)) (hQ:∀ F' G',(age x tb t S).p G' F'->Ch F G F' G'->Q (.bool true) G') :
  al P af8.n [.ptr x [] 0] G Q:=by
 refine af8.sound ?_;unfold af8.S;intro R1 hR;have step:∀ (s:Bool) (G2:ak),Sp F G [age x tb t S] G2->(∀ G3,Sp F G [age x tb t S] G3->R1 [.ptr x [] 0,.int .i64 (bI s+1)] G3)->R1 [.ptr x [] 0,.int .i64 (bI s)] G2:=by
  intro s G2 s2 next
  obtain⟨F1,hF1⟩:=s2.get (i:=0) rfl;obtain⟨v,s3⟩:=age.open hF1;have lA:=Sp.line (ps:=[]) s3;obtain⟨l,w,aiA⟩:=lA.tb;have I:=k.f s;have J:=k.f (!s);have hs:=I.ok;have hs2:=J.ok;have hl:bw (l s).o/\bw (l s).p/\bw (l s).h:=aiA.lv s;have hl2:bw (l (!s)).o/\bw (l (!s)).p/\bw (l (!s)).h:=aiA.lv (!s);have ms:Sync (t.f s) (t.f (!s))/\Sync (t.f (!s)) (t.f s):=by
   cases s
   ·exact⟨m0,m1⟩
   ·exact⟨m1,m0⟩
  refine hR _ _ _ ?_;rw[aM,aa,dT_ (by cases s<;>decide),aN];refine ae agh ?_;refine ae agr ?_;refine ae lA.ldT ?_;refine ae jm ?_;refine ae qO ?_;refine ae (qM s) ?_;refine ae (aiA.ldS k s) ?_;refine ae agh ?_;refine ae agr ?_;refine ae lA.ldT ?_;refine ae (v:=.int .i64 (bI (!s))) (by cases s<;>rfl) ?_;refine ae jm ?_;refine ae qO ?_;refine ae (qM (!s)) ?_;refine ae (aiA.ldS k (!s)) ?_;rw[EV];intro i21 f21;have s22:=(Sp.nil G2).row f21 (StM.zero.av .nilSlice .nilSlice .nilSlice);intro i23 f23;have s24:=s22.row f23 (StM.zero.av .nilSlice .nilSlice .nilSlice);revert s24;generalize ak.upd _ i23 _=G24;intro s24;refine St.st (i:=1) s24 rfl StM.bq lv0 hs hl fun G25 s25=>?_;have s25:Sp [] G2 [au i23 (StM.zero.av .nilSlice .nilSlice .nilSlice),au i21 ((t.f s).s.av (l s).o (l s).p (l s).h)] G25:=s25;have aiB:=aiA.mv s25.ch;have lB:ag T G25 af7 (.ptr x [0] 0)=some (.ptr tb [] 0):=by
   have s26:=s2.tmp s25.ch;obtain⟨F2,hF2⟩:=s26.get (i:=0) rfl;obtain⟨v2,s27⟩:=age.open hF2;exact (Sp.line (ps:=[]) s27).ldT
  refine⟨⟨aiB.ldS k (!s),lB,trivial⟩,?_⟩;refine St.st (i:=0) s25 rfl StM.bq lv0 hs2 hl2 fun G26 s26=>?_;have s26:Sp [] G2 [au i23 ((t.f (!s)).s.av (l (!s)).o (l (!s)).p (l (!s)).h),au i21 ((t.f s).s.av (l s).o (l s).p (l s).h)] G26:=s26;have hf:=au.own (i:=1) s26 rfl;have hg:=au.own (i:=0) s26 rfl;have aiK:=aiA.mv s26.ch;refine ae (St.mn hf hs hl) ?_;refine ae (St.mS hf hs hl) ?_;rw[cD,aa,dC];refine⟨fun hne=>absurd (by rw[ms.1.ack,ms.2.loc]) hne,fun _=>?_⟩;refine ae (St.qb hf hs hl) ?_;refine ae (St.mn hg hs2 hl2) ?_;rw[cD,aa,dC];refine⟨fun hne=>absurd ms.1.loc hne,fun _=>?_⟩;refine ae (St.eH hf hs hl) ?_;refine ae (St.dM hg hs2 hl2) ?_;have:=I.lp;have:=J.lo;refine bV.use (aiK.p s).gZ (aiK.o (!s)).gZ I.okp J.oko (by omega) (by omega) ?_;rw[dT_ ms.1.p,dx,aa,Bool.not_true,aK,bg,aa];have e:IntKind.i64.wrap (bI s+1)=bI s+1:=by cases s<;>rfl
  rw[e];exact next G26 (s2.tmp s26.ch)
 have s0:Sp F G [age x tb t S] G:=Sp.one h (Ch.refl _ _);refine step false G s0 fun G2 s2=>?_;refine step true G2 s2 fun G3 s3=>?_;refine hR _ _ _ ?_;rw[aM,aa,dF_ (by decide),aK];obtain⟨F',q1,q2⟩:=s3.out;exact hQ F' G3 q1 q2
theorem agd.use {v w:ah}{a b:List cr}(ha:ff 70 G v (a.map cr.av)) (hb:ff 70 G w (b.map cr.av)) (oa:∀ m∈a,m.ok) (ob:∀ m∈b,m.ok) (la:a.length≤100000000) (lb:b.length≤100000000) (hm:∀ m∈b,m∈a) (hd:b.Pairwise (·≠·))
  (hQ:Q (.bool true) G):al P agd.n [v,w] G Q:=by
 refine agd.sound ?_;unfold agd.S;intro R1 hR1;have loop:∀ (n i:Nat),n+i=b.length->R1 [v,w,.int .i64 (i:Int)] G:=by
  intro n;induction n with
  | zero=>
   intro i hi;refine hR1 _ _ _ _ ?_;refine ae (Jf hb) ?_;rw[aM,aa,dF_ (by omega),aK];exact hQ
  | succ n ih=>
   intro i hi;refine hR1 _ _ _ _ ?_;refine ae (Jf hb) ?_;rw[aM,aa,dT_ (by omega),aN];obtain⟨u,hu⟩:∃ u,b[i]?=some u:=⟨_,List.getElem?_eq_getElem (by omega)⟩;have huo:=ob u (List.mem_of_getElem? hu);obtain⟨pu,pu1,pu2⟩:=KA hb hu;intro R8 hR8;have l8:∀ (n k:Nat) (aiz:Bool),n+k=a.length->(aiz=true ↔ u∈a.take k)->R8 [v,w,.int .i64 (i:Int),.bool aiz,.int .i64 (k:Int)] G:=by
    intro n;induction n with
    | zero=>
     intro k aiz hk hth;refine hR8 _ _ _ _ _ _ ?_;refine ae (Jf ha) ?_;rw[aM,aa,dF_ (by omega),aK];have ht:aiz=true:=hth.2 (by rw[List.take_of_length_le (by omega)];exact hm u (List.mem_of_getElem? hu));subst ht;intro R29 hR29;have l29:∀ (n k:Nat),n+k=i->R29 [v,w,.int .i64 (i:Int),.bool true,.int .i64 (k:Int)] G:=by
      intro n;induction n with
      | zero=>
       intro k hk;refine hR29 _ _ _ _ _ _ ?_;rw[aM,aa,dF_ (by omega),aK,dx,aa,Bool.not_true,aK,bg,i64_in (by omega) (by omega),aa];exact ih (i+1) (by omega)
      | succ n ih2=>
       intro k hk;obtain⟨z,hz⟩:∃ z,b[k]?=some z:=⟨_,List.getElem?_eq_getElem (by omega)⟩;obtain⟨aix,pz1,pz2⟩:=KA hb hz;refine hR29 _ _ _ _ _ _ ?_;rw[aM,aa,dT_ (by omega),aN,aN];refine ae pz1 ?_;refine ae pz2 ?_;refine ae pu1 ?_;refine ae pu2 ?_;have hne:z≠u:=by
        obtain⟨e1,e2⟩:=List.getElem?_eq_some_iff.1 hz;obtain⟨e3,e4⟩:=List.getElem?_eq_some_iff.1 hu;have:=(List.pairwise_iff_getElem.1 hd) k i e1 e3 (by omega)
        rwa [e2,e4]at this
       rw[ac5 (ob z (List.mem_of_getElem? hz)) huo,aa,dF_ hne,Bool.not_false,bg,i64_in (by omega) (by omega),aa];exact ih2 (k+1) (by omega)
     exact l29 i 0 (by omega)
    | succ n ih2=>
     intro k aiz hk hth;obtain⟨z,hz⟩:∃ z,a[k]?=some z:=⟨_,List.getElem?_eq_getElem (by omega)⟩;obtain⟨aix,pz1,pz2⟩:=KA ha hz;refine hR8 _ _ _ _ _ _ ?_;refine ae (Jf ha) ?_;rw[aM,aa,dT_ (by omega),aN];have et:a.take (k+1)=a.take k++[z]:=(by rw[List.take_add_one,hz];rfl);cases aiz with
     | true=>
      rw[aN,bg,i64_in (by omega) (by omega),aa];exact ih2 (k+1) true (by omega) ⟨fun _=>by rw[et];exact List.mem_append.2 (.inl (hth.1 rfl)),fun _=>rfl⟩
     | false=>
      rw[aK];refine ae pz1 ?_;refine ae pz2 ?_;refine ae pu1 ?_;refine ae pu2 ?_;rw[Bt (oa z (List.mem_of_getElem? hz)) huo,aa,bg,i64_in (by omega) (by omega),aa];refine ih2 (k+1) _ (by omega) ?_;rw[et,decide_eq_true_eq];constructor
      ·intro e;rw[<- e];simp
      ·intro e;rcases List.mem_append.1 e with e|e
       ·have:=hth.2 e;cases this
       ·have:u=z:=(by simpa using e);exact this.symm
   exact l8 a.length 0 false (by omega) ⟨fun h=>(by cases h),fun h=>(by rw[List.take_zero]at h;cases h)⟩
 exact loop b.length 0 (by omega)
end
end Go.Esc.M
namespace Go.Esc.M
open Go Go.Esc
structure Duo (c d:CfM) (f g:StF) (q r S S':List cr):Prop where
 P:aaB c d f g q r
 A:One c f r S
 B:One d g q S'
section
variable {c d:CfM}{f g:StF}{q r S S' out:List cr}{m:cr}
theorem Duo.swap (h:Duo c d f g q r S S'):Duo d c g f r q S' S:=⟨h.P.swap,h.B,h.A⟩
theorem Duo.comes (h:Duo c d f g (m::q) r S S') (hc:c.ok):aaF c d f m/\Duo c d (rcv f m) g q (r++abg c f m) (S++abg c f m) S':=by
 obtain⟨ht,P'⟩:=h.P.comes;exact⟨ht,P',h.A.comes h.P.I h.P.K hc ht,h.B.pop⟩
theorem Duo.call (h:Duo c d f g q r S S') (hc:c.ok) {o:jj}(ho:o.ok) (h0:(lD f o).2=0):Duo c d (tF f o) g q (r++sL c f (tF f o) (lD f o).1) (S++sL c f (tF f o) (lD f o).1) S':=
 ⟨h.P.call hc ho h0,h.A.call h.P.I ho hc h0,h.B⟩
theorem Told.answer (h:Told c d f g out) (I:iY f) (J:iY g) (K:aaK c g) (hc:c.seed.length=32):acz c (agf f) (acG (agf g))=(out,0):=by
 obtain⟨b,e,_,h3⟩:=h.aaa;obtain⟨e1,e2⟩:=ahn J K hc;have hn:(0:Int)≤g.s.ack:=J.ack0;rw[e1,ahN I b hn e2 h.lo h.hi h3,e]
theorem Told.mem (h:Told c d f g out) (J:iY g) (A:One c f r S):∀ m∈out,m∈S:=by
 obtain⟨b,e,h2,_⟩:=h.aaa;rw[e];exact ah4 A J.ack0 h2
theorem Told.nodup (h:Told c d f g out) (I:iY f) (J:iY g):out.Pairwise (·≠·):=by
 obtain⟨b,e,_,_⟩:=h.aaa;rw[e];exact ahD I J.ack0
theorem Told.len (h:Told c d f g out) (I:iY f):out.length≤f.o.length+3:=by
 obtain⟨b,e,_,_⟩:=h.aaa;rw[e];exact ah5 I
theorem One.cut (h:One c f r S) (I:iY f) (ht:Told c d f g out):One c (agf f) out S:=by
 refine⟨ht.last,h.near,h.ho,fun hh=>?_,h.hr,h.len,?_,h.ok⟩
 ·rw[ahi I];exact h.hc hh
 ·have:=ht.len I;show out.length≤f.o.length+f.s.sgnA.toNat+f.s.sgnB.toNat+f.s.atA.toNat+f.s.atB.toNat+4;omega
theorem Duo.join (h:Duo c d f g q r S S'):∃ o0 o1,Told c d f g o0/\Told d c g f o1/\Duo c d (agf f) (agf g) o1 o0 S S':=by
 obtain⟨o0,t0⟩:=h.P.told h.A.last h.A.near;obtain⟨o1,t1⟩:=h.P.swap.told h.B.last h.B.near;have E:=h.P.E;have D:=h.P.D;exact⟨o0,o1,t0,t1,⟨agF h.P.I,agF h.P.J,ahh h.P.K,ahh h.P.H,⟨E.key,E.seed,E.side,E.bo,E.bp⟩,⟨D.key,D.seed,D.side,D.bo,D.bp⟩,t1.link,t0.link⟩,h.A.cut h.P.I t0,h.B.cut h.P.J t1⟩
theorem aha:∀ {q:List cr}{f:StF},aaG c d f q->∀ m∈q,m.ok
 | [],_,_,m,hm=>by cases hm
 | a::q,f,h,m,hm=>by
  rcases List.mem_cons.1 hm with rfl|hm
  ·exact h.1.ok
  ·exact aha h.2 m hm
end
def agw (t:me) (S:Bool->List cr):Prop:=Duo (t.c false) (t.c true) (t.f false) (t.f true) (t.q false) (t.q true) (S false) (S true)
theorem agw.at_ {t:me}{S:Bool->List cr}(h:agw t S) (s:Bool):Duo (t.c s) (t.c (!s)) (t.f s) (t.f (!s)) (t.q s) (t.q (!s)) (S s) (S (!s)):=by
 cases s
 ·exact h
 ·exact h.swap
theorem agw.of {t:me}{S:Bool->List cr}(s:Bool) (h:Duo (t.c s) (t.c (!s)) (t.f s) (t.f (!s)) (t.q s) (t.q (!s)) (S s) (S (!s))):agw t S:=by
 cases s
 ·exact h
 ·exact h.swap
theorem agw.tab {t:me}{S:Bool->List cr}(h:agw t S) (hc:∀ s,(t.c s).ok):kK t 10244:=by
 refine⟨hc,fun s=>(h.at_ s).P.I,fun s=>aha (h.at_ s).P.L.takes,fun s=>?_⟩;have h1:=(h.at_ s).B.few;have h2:=LG (h.at_ s).P.J;omega
theorem agw.len {t:me}{S:Bool->List cr}(h:agw t S) (s:Bool):(S s).length≤10240:=Nat.le_trans (h.at_ s).A.len (LG (h.at_ s).P.I)
def agU (t:me) (s:Bool) (f:StF) (q new:List cr):me:=⟨t.c,mg t.f s f,mg (mg t.q s q) (!s) (t.q (!s)++new)⟩
section
variable {t:me}{S:Bool->List cr}{s:Bool}{f:StF}{q new:List cr}{m:cr}{r:RcM}
theorem ah8:uD t s r f=agU t s f (t.q s) (sL (t.c s) (t.f s) f r):=by
 unfold uD agU oW kq;congr 1;funext b;cases s<;>cases b<;>rfl
theorem ahs:uD (oW t s q) s r f=agU t s f q (sL (t.c s) (t.f s) f r):=by
 unfold uD agU oW kq;congr 1;funext b;cases s<;>cases b<;>rfl
theorem ahR:kq (oW t s q) s f=agU t s f q []:=by
 unfold agU oW kq;congr 1;funext b;cases s<;>cases b<;>simp[mg]
theorem ahr (h:Duo (t.c s) (t.c (!s)) f (t.f (!s)) q (t.q (!s)++new) (S s++new) (S (!s))):agw (agU t s f q new) (mg S s (S s++new)):=by
 refine agw.of s ?_;cases s
 ·exact h
 ·exact h
theorem ahc {a b:Nat}(h1:(bif s then a else b)=(t.q (!s)).length) (h2:(bif s then b else a)=q.length):agu (agU t s f q new) S a b=mg S s (S s++new):=by
 have e1:(t.q (!s)++new).drop (t.q (!s)).length=new:=by rw[List.drop_left'];rfl
 have e2:q.drop q.length=[]:=List.drop_length;funext x;cases s
 ·cases x
  ·show S false++(t.q true++new).drop b=S false++new;rw[show b=(t.q true).length from h1];rw[show (t.q true++new).drop (t.q true).length=new from e1]
  ·show S true++q.drop a=S true;rw[show a=q.length from h2,e2,List.append_nil]
 ·cases x
  ·show S false++q.drop b=S false;rw[show b=q.length from h2,e2,List.append_nil]
  ·show S true++(t.q false++new).drop a=S true++new;rw[show a=(t.q false).length from h1];rw[show (t.q false++new).drop (t.q false).length=new from e1]
theorem ahM (I:iY (t.f s)) (ht:aaF (t.c s) (t.c (!s)) (t.f s) m):sD (oW t s q) s m=(agU t s (rcv (t.f s) m) q (abg (t.c s) (t.f s) m),true):=by
 unfold sD rcv abg;have aad:(oW t s q).f s=t.f s:=rfl;have aac:(oW t s q).c s=t.c s:=rfl;rw[aad,aac];by_cases h1:isU m
 ·rw[if_pos (show m.kind=1\/m.kind=2\/m.kind=3 from h1),if_pos (ht.upd h1),if_pos h1,if_pos h1,<- ahR];rfl
 rw[if_neg (show ¬ (m.kind=1\/m.kind=2\/m.kind=3) from h1),if_neg h1,if_neg h1];by_cases h4:m.kind=4
 ·rw[if_pos (ht.came h4),if_pos h4,if_pos h4,ahs];rfl
 ·obtain⟨hr,_⟩:=ht.rev h1 h4;obtain⟨e,_⟩:=I.y8 ht.ok hr;rw[if_neg (fun hh=>h4 (I.came (c:=t.c s) ht.ok hh).2.2.2.2.1),if_pos hr,if_neg h4,if_neg h4,ahs,e];rfl
theorem ag5 (h:agw t S) (hc:∀ s,(t.c s).ok) (hq:t.q s=m::q):aaF (t.c s) (t.c (!s)) (t.f s) m/\sD (oW t s q) s m=(agU t s (rcv (t.f s) m) q (abg (t.c s) (t.f s) m),true)/\agw (agU t s (rcv (t.f s) m) q (abg (t.c s) (t.f s) m)) (mg S s (S s++abg (t.c s) (t.f s) m)):=by
 have D:=h.at_ s;rw[hq]at D;obtain⟨ht,D'⟩:=D.comes (hc s);exact⟨ht,ahM D.P.I ht,ahr D'⟩
def agk (t:me) (o:jj) (s:Bool):Nat:=if o.kind=5/\o.side=s/\0<(t.q s).length then (t.q s).length-1 else (t.q s).length
theorem ag9 (h:agw t S) (hc:∀ s,(t.c s).ok) {o:jj}(ho:o.ok):agw (stepT t o) (agu (stepT t o) S (agk t o false) (agk t o true))/\∀ s,agk t o s≤((stepT t o).q s).length:=by
 have none:stepT t o=t->(∀ s,agk t o s=(t.q s).length)->agw (stepT t o) (agu (stepT t o) S (agk t o false) (agk t o true))/\∀ s,agk t o s≤((stepT t o).q s).length:=by
  intro he ho;rw[he];have e:agu t S (agk t o false) (agk t o true)=S:=by
   funext s;unfold agu;cases s
   ·show S false++(t.q true).drop (agk t o true)=S false;rw[ho true,List.drop_length,List.append_nil]
   ·show S true++(t.q false).drop (agk t o false)=S true;rw[ho false,List.drop_length,List.append_nil]
  rw[e];exact⟨h,fun s=>by rw[ho s];exact Nat.le_refl _⟩
 have some:∀ {f:StF}{q new:List cr},stepT t o=agU t o.side f q new->agk t o (!o.side)=(t.q (!o.side)).length->agk t o o.side=q.length->agw (agU t o.side f q new) (mg S o.side (S o.side++new))->agw (stepT t o) (agu (stepT t o) S (agk t o false) (agk t o true))/\∀ s,agk t o s≤((stepT t o).q s).length:=by
  intro f q new he h1 h2 ht;rw[he];have e:agu (agU t o.side f q new) S (agk t o false) (agk t o true)=mg S o.side (S o.side++new):=by
   refine ahc ?_ ?_
   ·cases hs:o.side
    ·rw[hs]at h1;exact h1
    ·rw[hs]at h1;exact h1
   ·cases hs:o.side
    ·rw[hs]at h2;exact h2
    ·rw[hs]at h2;exact h2
  rw[e];refine⟨ht,fun s=>?_⟩;by_cases hs:s=o.side
  ·subst hs;rw[h2];show q.length≤(mg (mg t.q o.side q) (!o.side) (t.q (!o.side)++new) o.side).length;rw[qF _ _ (by cases o.side<;>decide),ox];exact Nat.le_refl _
  ·have:s=!o.side:=(by cases s<;>cases hh:o.side<;>simp_all);subst this;rw[h1];show _≤(mg (mg t.q o.side q) (!o.side) (t.q (!o.side)++new) (!o.side)).length;rw[ox,List.length_append];omega
 have hne:(!o.side)≠o.side:=by cases o.side<;>decide
 by_cases h5:o.kind=5
 ·cases hq:t.q o.side with
  | nil=>
   refine none (by unfold stepT;rw[if_pos h5,hq]) fun s=>?_;unfold agk;by_cases hs:o.side=s
   ·subst hs;rw[hq,if_neg (by simp)]
   ·rw[if_neg (fun hh=>hs hh.2.1)]
  | cons m q=>
   obtain⟨ht,e,hT⟩:=ag5 h hc hq;refine some (by unfold stepT;rw[if_pos h5,hq];show (sD (oW t o.side q) o.side m).1=_;rw[e]) ?_ ?_ hT
   ·unfold agk;rw[if_neg (fun hh=>hne hh.2.1.symm)]
   ·unfold agk;rw[hq,if_pos ⟨h5,rfl,by simp⟩];simp
 ·by_cases h0:(lD (t.f o.side) o).2=0
  ·have D:=(h.at_ o.side).call (hc o.side) ho h0;refine some (q:=t.q o.side) (by unfold stepT;rw[if_neg h5,if_pos h0,ah8]) ?_ ?_ (ahr D)
   ·unfold agk;rw[if_neg (fun hh=>h5 hh.1)]
   ·unfold agk;rw[if_neg (fun hh=>h5 hh.1)]
  ·refine none (by unfold stepT;rw[if_neg h5,if_neg h0]) fun s=>?_;unfold agk;rw[if_neg (fun hh=>h5 hh.1)]
theorem ahS {d:DlM}(hd:d.ok) (hb:∀ s,¬ nF (AL d s)):agw (Ig d) (fun _=>[]):=by
 have P:aaO (Ig d):=abL hd hb;have one:∀ s,One (AL d s) (tc (AL d s)) [] []:=by
  intro s;have e:tc (AL d s)=⟨(mm (AL d s)).1,[],[],[]⟩:=rfl;have e2:(mm (AL d s)).1={ StM.zero with side:=(AL d s).side,cap:=(AL d s).cap,bo:=(AL d s).ours,bp:=(AL d s).cap-(AL d s).ours,ptsA:=(AL d s).ptsA,ptsB:=(AL d s).ptsB,closed:=-1 }:=by
   unfold mm;rw[if_neg (hb s)]
  rw[e,e2];exact⟨ah0 _,by show ((0:Nat):Int)≤0+512;decide,fun u hu=>(by cases hu),fun hh=>(by cases hh),fun hh=>absurd hh (by show ¬ (1:Int)≤0;decide),Nat.zero_le _,Nat.zero_le _,fun m hm=>(by cases hm)⟩
 exact⟨P,one false,one true⟩
end
section
variable {F0:List AId}{G0 G:ak}{ps:List LP}{Q:ah->ak->Prop}{x tb:AId}{t:me}{S:Bool->List cr}{v:Bool->ah}
theorem aga.use {F:List AId}{o:jj}(h:(age x tb t S).p G F) (hc:∀ s,(t.c s).ok) (T0:agw t S) (ho:o.ok)
  (hQ:∀ F' G',(age x tb (stepT t o) (agu (stepT t o) S (agk t o false) (agk t o true))).p G' F'->Ch F G F' G'->Q (.tuple []) G'):al P aga.n [.ptr x [] 0,o.av] G Q:=by
 refine aga.sound ?_;unfold aga.S;have k:=T0.tab hc;obtain⟨T1,hold⟩:=ag9 T0 hc ho;have k2:=ade k ho;have hn0:=k.n false;have hn1:=k.n true;intro i1 f1;have s1:=(Sp.nil G).row f1 o.av;revert s1;generalize ak.upd _ i1 _=G2;intro s1;have S1:Sp F G [age x tb t S,au i1 o.av] G2:=Sp.with h s1;obtain⟨F1,hF1⟩:=S1.get (i:=0) rfl;obtain⟨v,s2⟩:=age.open hF1;have lA:=Sp.line (ps:=[]) s2;obtain⟨l,w,aiA⟩:=lA.tb;have hg:=au.own (i:=0) s1 rfl;refine ae agh ?_;refine ae agr ?_;refine ae lA.ldT ?_;refine ae jm ?_;refine ae CK ?_;refine ae (aiA.ldQ k false) ?_;refine ae (Jf (aiA.q false).is) ?_;refine ae agh ?_;refine ae agr ?_;refine ae lA.ldT ?_;refine ae jm ?_;refine ae CJ ?_;refine ae (aiA.ldQ k true) ?_;refine ae (Jf (aiA.q true).is) ?_;intro J49;have last:∀ a b:Int,a=(agk t o false:Nat)->b=(agk t o true:Nat) ->
   (wv (lr (.ptr x [] 0)) fun v40=>wv (bt T af6 v40 0) fun v41=>wv (ag T G2 af7 v41) fun v42=>wv (ag T G2 ja (.ptr i1 [] 0)) fun v43=>al P acp.n [v42,v43] G2 fun v44 G45=>al P af5.n [.ptr x [] 0,.int .i64 a,.int .i64 b] G45 fun v46 G47=>Q (.tuple []) G47):=by
  intro a b ha hb;subst ha;subst hb;refine ae agh ?_;refine ae agr ?_;refine ae lA.ldT ?_;refine ae (Oq.ld hg ho) ?_;refine S1.call (i:=0) rfl (age x tb (stepT t o) S) fun F2 h2 kk=>?_;obtain⟨v2,s3⟩:=age.open h2;refine s3.call (i:=3) rfl (jP tb (stepT t o)) fun aiH h3 kk3=>?_;refine acp.use h3 k (by omega) ho fun F4 G45 h4 c4=>?_;have s5:=kk3 F4 G45 h4 c4;obtain⟨F5,h5,c5⟩:=age.close s5;have S5:=kk F5 G45 h5 c5;refine S5.call (i:=0) rfl (age x tb (stepT t o) (agu (stepT t o) S (agk t o false) (agk t o true))) fun aiI h6 kk6=>?_;refine af5.use h6 k2 (by omega) (fun s=>by have:=T0.len s;omega) (hold false) (hold true) fun aiJ G47 h7 c7=>?_;have S7:=kk6 aiJ G47 h7 c7;have S8:Sp F G [age x tb (stepT t o) (agu (stepT t o) S (agk t o false) (agk t o true))] G47:=S7.erase 1;obtain⟨F',q1,q2⟩:=S8.out;exact hQ F' G47 q1 q2
 have yes:o.kind=5/\o.side=true/\0<(t.q true).length->J49 (.bool true) G2:=by
  intro hh;simp -zeta only [J49,aN];rw[b7,i64_in (by omega) (by omega),aa];refine last _ _ ?_ ?_
  ·unfold agk;rw[if_neg (fun h=>by have:=h.2.1;rw[hh.2.1]at this;cases this)]
  ·unfold agk;rw[if_pos hh];omega
 have no:¬ (o.kind=5/\o.side=true/\0<(t.q true).length)->J49 (.bool false) G2:=by
  intro hh;simp -zeta only [J49,aK];have et:((t.q true).length:Int)=(agk t o true:Nat):=by
   unfold agk;rw[if_neg hh]
  refine ae (Oq.sj hg ho) ?_;rw[bB,aa,aI];refine⟨fun h5=>?_,fun h5=>?_⟩
  ·refine ae (Oq.lJ hg ho) ?_;rw[dx,aa];cases hs:o.side with
   | true=>
    rw[Bool.not_true,aK];refine last _ _ ?_ et;unfold agk;rw[if_neg (fun h=>by have:=h.2.1;rw[hs]at this;cases this)]
   | false=>
    rw[Bool.not_false,aN,da,aa,aI];refine⟨fun hp=>?_,fun hp=>?_⟩
    ·rw[b7,i64_in (by omega) (by omega),aa];refine last _ _ ?_ et;unfold agk;rw[if_pos ⟨h5,hs,by omega⟩];omega
    ·refine last _ _ ?_ et;unfold agk;rw[if_neg (fun h=>by have:=h.2.2;omega)]
  ·refine last _ _ ?_ et;unfold agk;rw[if_neg (fun h=>h5 h.1)]
 refine ae (Oq.sj hg ho) ?_;rw[bB,aa,aI];refine⟨fun h5=>?_,fun h5=>no fun hh=>h5 hh.1⟩;refine ae (Oq.lJ hg ho) ?_;cases hs:o.side with
 | true=>
  rw[aN,da,aa];by_cases hp:((t.q true).length:Int) > 0
  ·rw[dT_ hp];exact yes ⟨h5,hs,by omega⟩
  ·rw[dF_ hp];exact no fun hh=>hp (by have:=hh.2.2;omega)
 | false=>
  rw[aK];exact no fun hh=>by have:=hh.2.1;rw[hs]at this;cases this
end
end Go.Esc.M
