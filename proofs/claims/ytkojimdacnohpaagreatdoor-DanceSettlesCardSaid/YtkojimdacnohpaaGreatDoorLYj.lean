import Derived.Test.YtkojimdacnohpaaGreatDoorLYa
set_option maxHeartbeats 8000000
set_option linter.unusedSimpArgs false
set_option linter.unusedVariables false
set_option maxRecDepth 20000
namespace Go.Esc.M
open Go Go.Esc
theorem iY.stands {f:StF}(I:iY f) {n m:Nat}(h1:f.s.atA.toNat≤n) (h2:n≤f.o.length) (h3:f.s.heldB.toNat≤m) (h4:m≤f.p.length) :
  kx f n m=foldM f.s.bo f.s.bp (f.o.take n) (f.p.take m)/\(foldM f.s.bo f.s.bp (f.o.take n) (f.p.take m)).e=0/\lG (foldM f.s.bo f.s.bp (f.o.take n) (f.p.take m)).o (foldM f.s.bo f.s.bp (f.o.take n) (f.p.take m)).q (foldM f.s.bo f.s.bp (f.o.take n) (f.p.take m)).l=true:=by
 obtain⟨e1,e2⟩:=I.book.taken h1 h2 h3 h4
 rw[e2]at e1
 refine⟨e2,e1,(vc _ _ _).2 ?_⟩
 obtain⟨va,vb,x0,y0,he⟩:=HX e1
 have hl:=C8 (bo:=f.s.bo) (bp:=f.s.bp) va vb (by have:=I.cap;have:=I.capm;omega)
 have hc:=abJ (f.o.take n) (f.p.take m)
 have c1:=aa3 (o:=f.o) (p:=f.p) (a:=f.s.heldB) (n:=n) (m:=m) h3 I.vo
 have c2:=aa3 (o:=f.p) (p:=f.o) (a:=f.s.atA) (n:=m) (m:=n) h1 I.vp
 have:=I.no
 have:=I.np
 have hx:=hl.1 y0
 have hy:=hl.2 x0
 rw[he]
 refine⟨x0,by unfold jb;exact hx,y0,by unfold jb;exact hy,?_,?_,abG va vb ?_ ?_⟩
 ·show cnt true (oN (f.o.take n) (f.p.take m))≤483
  rw[hc.1];omega
 ·show cnt false (oN (f.o.take n) (f.p.take m))≤483
  rw[hc.2];omega
 ·exact ui (aaX I.go n)
 ·exact ui (aaX I.gp m)
def isU (m:cr):Prop:=m.kind=1\/m.kind=2\/m.kind=3
instance (m:cr):Decidable (isU m):=by unfold isU;infer_instance
def abW (f:StF) (m:cr):RcM:={ RcM.zero with kind:=4,index:=f.s.ack,secret:=m.secret,point:=m.hash }
def abY (f:StF) (u:aL):StF:=⟨f.s,f.o,f.p++[u],f.h⟩
def rcv (f:StF) (m:cr):StF:=if isU m then abY f (Bw m) else if m.kind=4 then yy f m.index m.hash else uQ f (abW f m)
def aay (f:StF) (q:List cr):StF:=q.foldl rcv f
theorem aaJ (f:StF) (m:cr) (q:List cr):aay f (m::q)=aay (rcv f m) q:=rfl
theorem aaP (f:StF) (q:List cr) (m:cr):aay f (q++[m])=rcv (aay f q) m:=by
 unfold aay
 rw[List.foldl_append]
 rfl
structure aaF (c d:CfM) (f:StF) (m:cr):Prop where
 ok:m.ok
 upd:isU m->vu f (Bw m)=0
 came:m.kind=4->(mU c f m).e=0
 rev:¬ isU m->m.kind≠4->(jR f m).2=0/\m=qC d f.s.ack
def aaG (c d:CfM):StF->List cr->Prop
 | _,[]=>True
 | f,m::q=>aaF c d f m/\aaG c d (rcv f m) q
theorem aaL {c d:CfM}:∀ {q:List cr}{f:StF}{m:cr},aaG c d f q->aaF c d (aay f q) m->aaG c d f (q++[m])
 | [],_,_,_,h2=>⟨h2,trivial⟩
 | _::_,_,_,h1,h2=>⟨h1.1,aaL h1.2 h2⟩
structure aaK (d:CfM) (f:StF):Prop where
 a:f.s.ptsA=pB d.seed f.s.ack
 b:f.s.ptsB=pB d.seed (f.s.ack+1)
 h:abz d.seed f.h f.s.ack.toNat
 failed:f.s.failed=0
 closed:f.s.closed=-1
theorem aaK.live {d:CfM}{f:StF}(h:aaK d f):uO f.s=false:=by
 unfold uO
 rw[h.failed,h.closed]
 rfl
theorem aa2 {d:CfM}{n:Int}(h0:0≤n) (h1:n≤281474976710653):qC d n={ cr.zero with kind:=5,index:=n,secret:=(jS d.seed n).1,hash:=pB d.seed (n+2) }:=by
 unfold qC
 rw[if_neg (by omega)]
 rfl
section
variable {c d:CfM}{f:StF}{m:cr}
theorem aaF.next (h:aaF c d f m) (I:iY f) (k:aaK d f):iY (rcv f m)/\aaK d (rcv f m):=by
 unfold rcv
 by_cases h1:isU m
 ·rw[if_pos h1]
  exact⟨(I.heard (vF h.ok) (h.upd h1)).1,⟨k.a,k.b,k.h,k.failed,k.closed⟩⟩
 ·rw[if_neg h1]
  by_cases h4:m.kind=4
  ·rw[if_pos h4]
   obtain⟨_,_,hs,_⟩:=I.came (c:=c) h.ok (h.came h4)
   exact⟨hs,⟨k.a,k.b,k.h,k.failed,k.closed⟩⟩
  ·rw[if_neg h4]
   obtain⟨hr,hm⟩:=h.rev h1 h4
   obtain⟨_,_,hs,_,_,_,hrem,_,_⟩:=I.y8 h.ok hr
   refine⟨hs,?_⟩
   have h0:=I.ack0
   have h9:=I.rem1
   by_cases hb:f.s.ack≤281474976710653
   ·obtain⟨x,hx⟩:∃ x,x=qC d f.s.ack:=⟨_,rfl⟩
    have he:=aa2 (d:=d) h0 hb
    rw[<- hx]at hm he
    have e1:m.secret=(jS d.seed f.s.ack).1:=by rw[hm,he]
    have e2:m.hash=pB d.seed (f.s.ack+2):=by rw[hm,he]
    obtain⟨n,hn⟩:∃ n:Nat,f.s.ack=(n:Int):=⟨f.s.ack.toNat,by omega⟩
    have hsh:=k.h
    rw[hn,Int.toNat_natCast]at hsh
    refine⟨k.b,?_,?_,k.failed,k.closed⟩
    ·show m.hash=pB d.seed (f.s.ack+1+1)
     rw[e2]
     congr 1
     omega
    ·show abz d.seed (tw f.h f.s.ack m.secret).1 (f.s.ack+1).toNat
     rw[e1,hn,show ((n:Int)+1).toNat=n+1 by omega]
     exact (aa9 hsh (by omega)).2
   ·exfalso
    have e:qC d f.s.ack=cr.zero:=by
     unfold qC
     rw[if_pos (by omega)]
    rw[e]at hm
    have hk:m.kind=5:=(I.y8 h.ok hr).2.2.2.2.1
    rw[hm]at hk
    cases hk
theorem aaI:∀ {q:List cr}{f:StF},aaG c d f q->iY f->aaK d f->iY (aay f q)/\aaK d (aay f q)
 | [],_,_,I,k=>⟨I,k⟩
 | _::_,_,h,I,k=>by
  obtain⟨I',k'⟩:=h.1.next I k
  have:=aaI h.2 I' k'
  exact this
structure aaZ (f g:StF):Prop where
 o:g.o=f.o
 side:g.s.side=f.s.side
 bo:g.s.bo=f.s.bo
 bp:g.s.bp=f.s.bp
 rem:g.s.rem=f.s.rem
 sgnA:g.s.sgnA=f.s.sgnA
 sgnB:g.s.sgnB=f.s.sgnB
 p:∃ Y,g.p=f.p++Y
 loc:f.s.loc≤g.s.loc
 at_:g.s.loc=f.s.loc->g.s.atA=f.s.atA/\g.s.atB=f.s.atB
 ack:f.s.ack≤g.s.ack
 held:g.s.ack=f.s.ack->g.s.heldA=f.s.heldA/\g.s.heldB=f.s.heldB
theorem aaZ.refl (f:StF):aaZ f f:=⟨rfl,rfl,rfl,rfl,rfl,rfl,rfl,⟨[],by simp⟩,Int.le_refl _,fun _=>⟨rfl,rfl⟩,Int.le_refl _,fun _=>⟨rfl,rfl⟩⟩
theorem aaZ.trans {f g e:StF}(h:aaZ f g) (k:aaZ g e):aaZ f e:=by
 obtain⟨Y,hY⟩:=h.p
 obtain⟨Z,hZ⟩:=k.p
 refine⟨k.o.trans h.o,k.side.trans h.side,k.bo.trans h.bo,k.bp.trans h.bp,k.rem.trans h.rem,k.sgnA.trans h.sgnA,k.sgnB.trans h.sgnB,⟨Y++Z,by rw[hZ,hY,List.append_assoc]⟩,Int.le_trans h.loc k.loc,fun e=>?_,Int.le_trans h.ack k.ack,fun e=>?_⟩
 ·have h1:=h.loc
  have h2:=k.loc
  have a:=h.at_ (by omega)
  have b:=k.at_ (by omega)
  exact⟨b.1.trans a.1,b.2.trans a.2⟩
 ·have h1:=h.ack
  have h2:=k.ack
  have a:=h.held (by omega)
  have b:=k.held (by omega)
  exact⟨b.1.trans a.1,b.2.trans a.2⟩
theorem aaF.abr (h:aaF c d f m) (I:iY f):aaZ f (rcv f m):=by
 unfold rcv
 by_cases h1:isU m
 ·rw[if_pos h1]
  exact⟨rfl,rfl,rfl,rfl,rfl,rfl,rfl,⟨_,rfl⟩,Int.le_refl _,fun _=>⟨rfl,rfl⟩,Int.le_refl _,fun _=>⟨rfl,rfl⟩⟩
 ·rw[if_neg h1]
  by_cases h4:m.kind=4
  ·rw[if_pos h4]
   obtain⟨_,_,_,_,_,hi⟩:=I.came (c:=c) h.ok (h.came h4)
   refine⟨rfl,rfl,rfl,rfl,rfl,rfl,rfl,⟨[],(List.append_nil _).symm⟩,?_,fun e=>?_,Int.le_refl _,fun _=>⟨rfl,rfl⟩⟩
   ·show f.s.loc≤m.index;omega
   ·have e:m.index=f.s.loc:=e
    omega
  ·rw[if_neg h4]
   refine⟨rfl,rfl,rfl,rfl,rfl,rfl,rfl,⟨[],(List.append_nil _).symm⟩,Int.le_refl _,fun _=>⟨rfl,rfl⟩,?_,fun e=>?_⟩
   ·show f.s.ack≤f.s.ack+1;omega
   ·have e:f.s.ack+1=f.s.ack:=e
    omega
theorem aaA:∀ {q:List cr}{f:StF},aaG c d f q->iY f->aaK d f->aaZ f (aay f q)
 | [],f,_,_,_=>aaZ.refl f
 | _::_,_,h,I,k=>by
  obtain⟨I',k'⟩:=h.1.next I k
  have:=aaA h.2 I' k'
  exact (h.1.abr I).trans this
theorem abt {w:aL}{ca cb:Int}(h:ca≤(f.o.length:Nat)):mN f.s.bo f.s.bp (f.o++[w]) f.p ca cb=mN f.s.bo f.s.bp f.o f.p ca cb\/ca<0:=by
 by_cases h0:ca<0
 ·exact .inr h0
 refine .inl ?_
 have e:inC ca cb (f.o++[w]) f.p ↔ inC ca cb f.o f.p:=by
  unfold inC
  rw[List.length_append,List.length_singleton]
  constructor
  ·rintro⟨a,b,c⟩;exact⟨a,h,c⟩
  ·rintro⟨a,b,c⟩;exact⟨a,by omega,c⟩
 unfold mN
 rw[nu f.o w (by omega)]
 by_cases hi:inC ca cb f.o f.p/\amt f.s.bo/\amt f.s.bp/\amt (f.s.bo+f.s.bp)
 ·rw[if_pos hi,if_pos ⟨e.2 hi.1,hi.2⟩]
 ·rw[if_neg hi,if_neg fun hh=>hi ⟨e.1 hh.1,hh.2⟩]
theorem abq {base:Int}{mine others Y:List aL}{fm a b:Nat}(v0:∀ u∈mine,dp u=true) (v1:∀ u∈others++Y,dp u=true) (hab:a≤b) (hb:b≤others.length):SB base mine others fm a≤SB base mine (others++Y) fm b:=by
 unfold SB
 rw[List.take_append_of_le_length hb,oq]
 have h1:=Gz (f:=kD (mine.take fm)) (l:=Y) fun u hu=>ra (v1 u (by simp[hu]))
 have h2:gG (stays (others.take b)) mine≤gG (stays (others.take a)) mine:=by
  refine tS (fun u hu=>ra (v0 u hu)) fun u hu h=>?_
  unfold stays at h ⊢
  simp only[Bool.and_eq_true,decide_eq_true_eq,Bool.not_eq_true',decide_eq_false_iff_not]at h ⊢
  refine⟨h.1,fun h3=>h.2 ?_⟩
  rw[pP hab (by rw[h3];decide)]
  exact h3
 omega
theorem abh {u w:aL}(I:iY f) (J:iY (q6 f w)) (h:vu f u=0):vu (q6 f w) u=0:=by
 have hA:f.s.atA.toNat≤f.o.length:=toNat_le (by have:=I.a1;have:=I.a2;have:=I.a3;omega)
 have e1:(f.o++[w]).take f.s.atA.toNat=f.o.take f.s.atA.toNat:=nu f.o w hA
 unfold vu at h ⊢
 split at h
 ·cases h
 rename_i h1
 rw[if_neg (show ¬ uO (q6 f w).s=true from h1)]
 split at h
 ·cases h
 rename_i h2
 rw[if_neg (show ¬ 512≤IntKind.i64.wrap (((q6 f w).p.length:Int)-(q6 f w).s.atB) from h2)]
 split at h
 ·cases h
 rename_i h3
 have h3:kJ f.p f.o u=0:=Classical.byContradiction h3
 rw[if_neg (show ¬ kJ (q6 f w).p (q6 f w).o u≠0 from fun hh=>hh (vn h3)),J.fA]
 rw[I.fA]at h
 have e2:cw (q6 f w).o (q6 f w).s.atA=cw f.o f.s.atA:=e1
 by_cases hk:u.kind=1
 ·rw[if_pos hk]at h ⊢
  have e3:kX (q6 f w).p (q6 f w).o (q6 f w).s.atA=kX f.p f.o f.s.atA:=by unfold kX;rw[e2];rfl
  rw[e3]
  split at h
  ·cases h
  rename_i h4
  rw[if_neg h4]
  split at h
  ·cases h
  rename_i h5
  rw[I.xk.1]at h5
  rw[J.xk.1]
  have hg:=abq (base:=f.s.bp) (mine:=f.p) (others:=f.o) (Y:=[w]) (fm:=f.s.heldB.toNat) (a:=f.s.atA.toNat) (b:=f.s.atA.toNat) I.vp J.vo (Nat.le_refl _) hA
  rw[if_neg]
  show ¬ SB f.s.bp f.p (f.o++[w]) f.s.heldB.toNat f.s.atA.toNat<u.amount
  omega
 ·rw[if_neg hk]at h ⊢
  rw[e2]
  exact h
theorem abC {w:aL}{n ca cb:Int}(h0:0≤ca) (h:ca≤(f.o.length:Nat)):yV c (q6 f w) n ca cb=yV c f n ca cb:=by
 have e:kx (q6 f w) ca cb=kx f ca cb:=(abt (w:=w) (cb:=cb) h).resolve_right (by omega)
 unfold yV
 rw[e]
 rfl
theorem abv {w:aL}(I:iY f):mU c (q6 f w) m=mU c f m:=by
 have e:=abC (c:=c) (w:=w) (n:=m.index) (cb:=(f.p.length:Nat)) (f:=f) (ca:=f.s.heldA) (by have:=I.a0;have:=I.a1;omega) (by have:=I.a2;have:=I.a3;omega)
 unfold mU
 rw[show yV c (q6 f w) m.index (q6 f w).s.heldA ((q6 f w).p.length:Nat)=yV c f m.index f.s.heldA (f.p.length:Nat) from e]
 rfl
theorem aaW {w:aL}:rcv (q6 f w) m=q6 (rcv f m) w:=by
 unfold rcv
 by_cases h1:isU m
 ·rw[if_pos h1,if_pos h1];rfl
 ·rw[if_neg h1,if_neg h1]
  by_cases h4:m.kind=4
  ·rw[if_pos h4,if_pos h4];rfl
  ·rw[if_neg h4,if_neg h4];rfl
theorem aaT {w:aL}:∀ {q:List cr}{f:StF},aaG c d f q->iY f->iY (q6 f w)->aaK d f->aaG c d (q6 f w) q/\aay (q6 f w) q=q6 (aay f q) w/\iY (q6 (aay f q) w)
 | [],_,_,_,J,_=>⟨trivial,rfl,J⟩
 | m::q,f,h,I,J,k=>by
  obtain⟨I',k'⟩:=h.1.next I k
  have ht:aaF c d (q6 f w) m:=by
   refine⟨h.1.ok,fun hu=>abh I J (h.1.upd hu),fun h4=>?_,h.1.rev⟩
   rw[abv I]
   exact h.1.came h4
  have J':=(ht.next J ⟨k.a,k.b,k.h,k.failed,k.closed⟩).1
  rw[aaW]at J'
  obtain⟨a,b,e⟩:=aaT h.2 I' J' k'
  exact⟨⟨ht,by rw[aaW];exact a⟩,by rw[aaJ,aaW];exact b,e⟩
def aaV (f:StF) (b:Bool):StF:=⟨{ f.s with behind:=b },f.o,f.p,f.h⟩
theorem abK {r:RcM}{b:Bool}:mU c (aaV (yG f r) b) m=mU c f m:=by
 unfold mU
 rw[show yV c (aaV (yG f r) b) m.index (aaV (yG f r) b).s.heldA ((aaV (yG f r) b).p.length:Nat)=yV c f m.index f.s.heldA (f.p.length:Nat) from rfl]
 rfl
theorem aa1 {r:RcM}:∀ {q:List cr}{f:StF}(b:Bool),aaG c d f q->iY f->aaK d f->(aay f q).s.ack=f.s.ack->aaG c d (aaV (yG f r) b) q/\∃ b',aay (aaV (yG f r) b) q=aaV (yG (aay f q) r) b'
 | [],_,b,_,_,_,_=>⟨trivial,b,rfl⟩
 | m::q,f,b,h,I,k,he=>by
  obtain⟨I',k'⟩:=h.1.next I k
  have o1:=h.1.abr I
  have o2:=aaA h.2 I' k'
  have e1:(rcv f m).s.ack=f.s.ack:=by
   have a:=o1.ack
   have b:=o2.ack
   rw[aaJ]at he
   omega
  have hn:isU m\/m.kind=4:=by
   refine Classical.byContradiction fun hh=>?_
   have h1:¬ isU m:=fun x=>hh (.inl x)
   have h4:m.kind≠4:=fun x=>hh (.inr x)
   unfold rcv at e1
   rw[if_neg h1,if_neg h4]at e1
   have e1:f.s.ack+1=f.s.ack:=e1
   omega
  obtain⟨b',er⟩:∃ b',rcv (aaV (yG f r) b) m=aaV (yG (rcv f m) r) b':=by
   unfold rcv
   by_cases h1:isU m
   ·rw[if_pos h1,if_pos h1];exact⟨b,rfl⟩
   ·rw[if_neg h1,if_neg h1,if_pos (hn.resolve_left h1),if_pos (hn.resolve_left h1)];exact⟨false,rfl⟩
  have ht:aaF c d (aaV (yG f r) b) m:=by
   refine⟨h.1.ok,fun hu=>h.1.upd hu,fun h4=>?_,fun h1 h4=>absurd hn (fun x=>x.elim h1 h4)⟩
   rw[abK]
   exact h.1.came h4
  obtain⟨a,z,e⟩:=aa1 (r:=r) b' h.2 I' k' (by rw[aaJ]at he;omega)
  exact⟨⟨ht,by rw[er];exact a⟩,z,by rw[aaJ,er];exact e⟩
end
end Go.Esc.M
namespace Go.Esc.M
open Go Go.Esc
structure Sync (f g:StF):Prop where
 p:f.p=g.o
 loc:f.s.loc=g.s.rem
 atA:f.s.atA=g.s.sgnB
 atB:f.s.atB=g.s.sgnA
 ack:f.s.ack=g.s.loc
 heldA:f.s.heldA=g.s.atB
 heldB:f.s.heldB=g.s.atA
structure ab3 (c d:CfM) (f g:StF) (q:List cr):Prop where
 takes:aaG c d f q
 sync:Sync (aay f q) g
structure Ends (c d:CfM) (f g:StF):Prop where
 key:c.pkey=d.key
 seed:d.seed.length=32
 side:f.s.side=1-g.s.side
 bo:f.s.bo=g.s.bp
 bp:f.s.bp=g.s.bo
theorem abd {rm:Bool}{id:Int}{l Y:List aL}{a b:Int}(ha:0≤a) (hab:a≤b) (hb:b≤(l.length:Nat)) (h:(ey rm id (cw l a)).isSome=true):ey rm id (cw (l++Y) b)=ey rm id (cw l a):=by
 unfold cw at h ⊢
 rw[List.take_append_of_le_length (by omega),<- rV (show a.toNat≤b.toNat by omega)]
 exact yu h
section
variable {c d:CfM}{F G f g:StF}{Y:List aL}
theorem abF {u:aL}(I:iY F) (J:iY g) (S:Sync F g) (hk:uO F.s=false) (hbp:F.s.bp=g.s.bo) (hY:F.o=g.p++Y) (hfull:yr g=false) (hn:kJ g.o g.p u=0)
  (ha:u.kind=1->kX g.o g.p g.s.heldB<483/\u.amount≤SB g.s.bo g.o g.p g.s.atA.toNat g.s.heldB.toNat)
  (hr:u.kind≠1->(ey false u.id (cw g.p g.s.heldB)).isSome=true/\(u.kind=2->sha u.hash=((ey false u.id (cw g.p g.s.heldB)).getD aL.zero).hash)):vu F u=0:=by
 have a0:=J.a0
 have a1:=J.a1
 have a2:=J.a2
 have a3:=J.a3
 have b0:=J.b0
 have b1:=J.b1
 have b2:=J.b2
 have b3:=J.b3
 have hlo:=J.lo
 unfold vu
 rw[if_neg (by rw[hk];decide),S.p,S.atB,if_neg]
 rotate_left
 ·intro hh
  have hh2:¬ 512≤IntKind.i64.wrap ((g.o.length:Int)-g.s.heldA):=by
   unfold yr at hfull
   simp only[Bool.or_eq_false_iff,decide_eq_false_iff_not]at hfull
   exact hfull.2
  rw[i64_in (by omega) (by omega)]at hh hh2
  omega
 rw[hY,if_neg (fun hh=>hh (vn hn)),I.fA,S.atA]
 by_cases h1:u.kind=1
 ·rw[if_pos h1]
  obtain⟨h2,h3⟩:=ha h1
  have e:kX g.o (g.p++Y) g.s.sgnB=kX g.o g.p g.s.sgnB:=by
   unfold kX cw
   rw[List.take_append_of_le_length (by omega)]
  rw[e,if_neg (by have:=Ab (o:=g.o) (p:=g.p) b0 b1;omega),I.xk.1,hbp,S.p,S.heldB,S.atA,hY,if_neg]
  have:=abq (base:=g.s.bo) (mine:=g.o) (others:=g.p) (Y:=Y) (fm:=g.s.atA.toNat) (a:=g.s.heldB.toNat) (b:=g.s.sgnB.toNat) J.vo (by rw[<- hY];exact I.vo) (by omega) (by omega)
  omega
 ·rw[if_neg h1]
  obtain⟨h2,h3⟩:=hr h1
  have e:=abd (Y:=Y) b0 b1 (show g.s.sgnB≤(g.p.length:Nat) by omega) h2
  rw[e,if_neg (by rw[h2];decide),if_neg fun hh=>hh.2 (h3 hh.1)]
theorem abS (I:iY F) (J:iY g) (S:Sync F g) (E:Ends c d F g) (K:aaK c g) (hk:uO F.s=false) (hY:F.o=g.p++Y) (hseed:c.seed.length=32) (h0:(p6 g).2=0) :
  (mU c F (tI d (yG g (p6 g).1))).e=0/\(tI d (yG g (p6 g).1)).kind=4/\(tI d (yG g (p6 g).1)).index=g.s.rem+1:=by
 obtain⟨e,hr,hs,_,hra⟩:=J.sign h0
 have h1:¬ ((g.o.length:Int)=g.s.sgnA/\g.s.atB=g.s.sgnB)/\g.s.rem≤281474976710653:=by
  unfold p6 at h0
  split at h0
  ·cases h0
  split at h0
  ·cases h0
  rename_i h2
  split at h0
  ·cases h0
  rename_i h3
  exact⟨fun h=>h2 (.inr h),by omega⟩
 obtain⟨h1,h2⟩:=h1
 rw[e]
 refine⟨?_,rfl,rfl⟩
 have a0:=J.a0
 have a1:=J.a1
 have a2:=J.a2
 have a3:=J.a3
 have b0:=J.b0
 have b1:=J.b1
 have b2:=J.b2
 have b3:=J.b3
 have k0:=J.ack0
 have hside:=J.side
 obtain⟨m1,m2,m3⟩:=J.stands (n:=g.o.length) (m:=g.s.atB.toNat) (by omega) (Nat.le_refl _) (by omega) (by omega)
 rw[Int.toNat_of_nonneg (show 0≤g.s.atB by omega)]at m1
 have hl:F.p.length=g.o.length:=by rw[S.p]
 have ho:F.o.length=g.p.length+Y.length:=by rw[hY,List.length_append]
 obtain⟨n1,n2,n3⟩:=I.stands (n:=F.s.heldA.toNat) (m:=F.p.length) (by have:=I.a1;omega) (by rw[S.heldA];omega) (by have:=I.b1;have:=I.b2;have:=I.b3;omega) (Nat.le_refl _)
 rw[Int.toNat_of_nonneg (show 0≤F.s.heldA by have:=I.a0;have:=I.a1;omega)]at n1
 have ev:foldM F.s.bo F.s.bp (F.o.take F.s.heldA.toNat) (F.p.take F.p.length)=foldM g.s.bp g.s.bo (g.p.take g.s.atB.toNat) (g.o.take g.o.length):=by
  rw[E.bo,E.bp,S.heldA,S.p,hY,List.take_append_of_le_length (by omega)]
 have ht:=abj g.s.bo g.s.bp (g.o.take g.o.length) (g.p.take g.s.atB.toNat)
 obtain⟨M,hM⟩:∃ M,M=foldM g.s.bo g.s.bp (g.o.take g.o.length) (g.p.take g.s.atB.toNat):=⟨_,rfl⟩
 rw[ev]at n1 n2 n3
 obtain⟨N,hN⟩:∃ N,N=foldM g.s.bp g.s.bo (g.p.take g.s.atB.toNat) (g.o.take g.o.length):=⟨_,rfl⟩
 rw[<- hN]at n1 n2 n3 ht
 rw[<- hM]at m1 ht
 obtain⟨_,t1,t2,t3⟩:=ht
 obtain⟨g',hg'⟩:∃ g',g'=yG g ({ RcM.zero with kind:=2,index:=g.s.rem+1,cntA:=(g.o.length:Nat),cntB:=g.s.atB }):=⟨_,rfl⟩
 obtain⟨pt,hpt⟩:∃ pt,pt=pB c.seed (g.s.ack+1):=⟨_,rfl⟩
 have hag:tI d (yG g ({ RcM.zero with kind:=2,index:=g.s.rem+1,cntA:=(g.o.length:Nat),cntB:=g.s.atB }))={ cr.zero with kind:=4,index:=g.s.rem+1,hash:=mac d.key (oI F.s.side (g.s.rem+1) pt N.o N.q N.l).1 }:=by
  have f1:kx (yG g { RcM.zero with kind:=2,index:=g.s.rem+1,cntA:=(g.o.length:Nat),cntB:=g.s.atB }) (g.o.length:Nat) g.s.atB=M:=m1
  have f2:IntKind.i64.wrap (1-g.s.side)=F.s.side:=by
   rw[i64_in (by omega) (by omega),E.side]
  have f3:(if g.s.rem+1≠g.s.ack then g.s.ptsB else g.s.ptsA)=pt:=by
   rw[if_pos (by omega),K.b,hpt]
  show ({ cr.zero with kind:=4,index:=g.s.rem+1,hash:=mac d.key (oI (IntKind.i64.wrap (1-g.s.side)) (g.s.rem+1) (if g.s.rem+1≠g.s.ack then g.s.ptsB else g.s.ptsA) (kx (yG g { RcM.zero with kind:=2,index:=g.s.rem+1,cntA:=(g.o.length:Nat),cntB:=g.s.atB }) (g.o.length:Nat) g.s.atB).q (kx (yG g { RcM.zero with kind:=2,index:=g.s.rem+1,cntA:=(g.o.length:Nat),cntB:=g.s.atB }) (g.o.length:Nat) g.s.atB).o (pE (kx (yG g { RcM.zero with kind:=2,index:=g.s.rem+1,cntA:=(g.o.length:Nat),cntB:=g.s.atB }) (g.o.length:Nat) g.s.atB).l)).1 }:cr)=_
  rw[f1,f2,f3,t1,t2,t3]
 rw[hag]
 have hok:okN (g.s.rem+1)=true:=GJ.2 ⟨by omega,by omega⟩
 obtain⟨sec,hsec⟩:∃ sec,sec=jS c.seed (g.s.rem+1):=⟨_,rfl⟩
 have hs2:sec.2=0:=by
  rw[hsec]
  unfold jS
  rw[hok,cond_true]
 have hpt2:pt=sha sec.1:=by
  rw[hpt,hsec,show g.s.ack+1=g.s.rem+1 by omega]
  rfl
 have hown:yV c F (g.s.rem+1) F.s.heldA (F.p.length:Nat)=((oI F.s.side (g.s.rem+1) pt N.o N.q N.l).1,decide ((oI F.s.side (g.s.rem+1) pt N.o N.q N.l).2=0)):=by
  unfold yV
  rw[<- hsec,if_neg (fun h=>h hs2),n1,if_neg (fun h=>h n2),<- hpt2]
 have htx:(oI F.s.side (g.s.rem+1) pt N.o N.q N.l).2=0:=by
  unfold oI
  rw[if_neg,n3,cond_true]
  unfold qZ vZ
  rw[E.side]
  omega
 have hpl:(F.p.length:Int)=(g.o.length:Int):=by rw[hl]
 unfold mU
 rw[if_neg (by rw[hk];decide),if_neg (fun h=>h rfl)]
 rw[if_neg]
 rotate_left
 ·show ¬ (281474976710653<F.s.loc\/g.s.rem+1≠F.s.loc+1)
  rw[S.loc]
  omega
 rw[if_neg (by rw[S.heldA,S.atA,S.atB,hpl];exact fun h=>h1 ⟨h.2,h.1⟩)]
 show (if (yV c F (g.s.rem+1) F.s.heldA (F.p.length:Nat)).2=false\/mac c.pkey (yV c F (g.s.rem+1) F.s.heldA (F.p.length:Nat)).1≠mac d.key (oI F.s.side (g.s.rem+1) pt N.o N.q N.l).1 then noC 110 else _).e=0
 rw[hown,if_neg]
 rintro (h|h)
 ·have h:decide ((oI F.s.side (g.s.rem+1) pt N.o N.q N.l).2=0)=false:=h
  rw[htx]at h
  cases h
 ·exact h (by rw[E.key])
theorem abV {n:Int}(I:iY F) (K:aaK d F) (hn:F.s.ack=n) (h0:0≤n) (h1:n≤281474976710653) (hr:F.s.rem=n+1) (hd:d.seed.length=32):(qC d n).kind=5/\(qC d n).ok/\(jR F (qC d n)).2=0:=by
 obtain⟨m,hm⟩:∃ m,m=qC d n:=⟨_,rfl⟩
 have he:=aa2 (d:=d) h0 h1
 rw[<- hm]at he ⊢
 have e1:m.kind=5:=by rw[he]
 have e2:m.index=n:=by rw[he]
 have e3:m.secret=(jS d.seed n).1:=by rw[he]
 have e4:m.hash=pB d.seed (n+2):=by rw[he]
 have hsl:=mZ hd n
 refine⟨e1,?_,?_⟩
 ·refine⟨?_,?_,?_,?_,?_,?_,?_,?_⟩
  ·rw[e1];exact iu 5 (by decide) (by decide)
  ·rw[he];exact cL
  ·rw[he];exact cL
  ·rw[e2];exact iu n (by omega) (by omega)
  ·rw[he];exact cL
  ·rw[e4];exact mK _ _
  ·rw[e3];exact hsl
  ·rw[he];simp[cr.zero]
 obtain⟨sec,hsec⟩:∃ sec,sec=(jS d.seed n).1:=⟨_,rfl⟩
 have hpt:F.s.ptsA=sha sec:=by rw[K.a,hn,hsec];rfl
 obtain⟨k,hk⟩:∃ k:Nat,n=(k:Int):=⟨n.toNat,by omega⟩
 have hsh:=K.h
 rw[hn,hk,Int.toNat_natCast]at hsh
 have hput:=(aa9 hsh (by omega)).1
 rw[<- hk,<- hsec]at hput
 rw[<- hsec]at e3
 unfold jR
 rw[if_neg (by rw[K.live];decide),if_neg (fun h=>h e1)]
 rw[if_neg]
 rotate_left
 ·rw[i64_in (by omega) (by omega)]
  omega
 rw[e3,hpt,if_neg (fun h=>h rfl),hn,hput,if_neg (fun h=>h rfl)]
end
end Go.Esc.M
namespace Go.Esc.M
open Go Go.Esc
structure aaB (c d:CfM) (f g:StF) (q r:List cr):Prop where
 I:iY f
 J:iY g
 K:aaK d f
 H:aaK c g
 E:Ends c d f g
 D:Ends d c g f
 L:ab3 c d f g q
 M:ab3 d c g f r
theorem aaB.swap {c d:CfM}{f g:StF}{q r:List cr}(h:aaB c d f g q r):aaB d c g f r q:=⟨h.J,h.I,h.H,h.K,h.D,h.E,h.M,h.L⟩
theorem Ends.abr {c d:CfM}{f g F:StF}(h:Ends c d f g) (o:aaZ f F):Ends c d F g:=⟨h.key,h.seed,o.side.trans h.side,o.bo.trans h.bo,o.bp.trans h.bp⟩
theorem Ends.ab0 {c d:CfM}{f g F:StF}(h:Ends d c g f) (o:aaZ f F):Ends d c g F:=⟨h.key,h.seed,by rw[o.side];exact h.side,by rw[o.bp];exact h.bo,by rw[o.bo];exact h.bp⟩
def abg (c:CfM) (f:StF) (m:cr):List cr:=if isU m then [] else if m.kind=4 then [qC c f.s.loc] else []
section
variable {c d:CfM}{f g:StF}{q r:List cr}{m:cr}
theorem aaB.ahead (h:aaB c d f g q r):∃ Y,(aay g r).o=f.p++Y:=by
 have o1:=aaA h.L.takes h.I h.K
 have o2:=aaA h.M.takes h.J h.H
 obtain⟨Y,hY⟩:=o1.p
 exact⟨Y,by rw[o2.o,<- h.L.sync.p,hY]⟩
theorem aaB.comes (h:aaB c d f g (m::q) r):aaF c d f m/\aaB c d (rcv f m) g q (r++abg c f m):=by
 obtain⟨ht,hq⟩:=h.L.takes
 obtain⟨I',K'⟩:=ht.next h.I h.K
 have o1:=ht.abr h.I
 have S:=h.M.sync
 refine⟨ht,⟨I',h.J,K',h.H,h.E.abr o1,h.D.ab0 o1,⟨hq,h.L.sync⟩,?_⟩⟩
 unfold abg
 by_cases h1:isU m
 ·have e:rcv f m=abY f (Bw m):=by unfold rcv;rw[if_pos h1]
  rw[if_pos h1,List.append_nil,e]
  exact⟨h.M.takes,⟨S.p,S.loc,S.atA,S.atB,S.ack,S.heldA,S.heldB⟩⟩
 rw[if_neg h1]
 by_cases h4:m.kind=4
 ·have e:rcv f m=yy f m.index m.hash:=by unfold rcv;rw[if_neg h1,if_pos h4]
  rw[if_pos h4]
  have o3:=aaA hq I' K'
  have S2:=h.L.sync
  rw[aaJ]at S2
  obtain⟨_,_,_,_,_,hix⟩:=h.I.came (c:=c) ht.ok (ht.came h4)
  rw[e]at I' o3 S2 ⊢
  obtain⟨ad4,KG⟩:=aaI h.M.takes h.J h.H
  have adO:=aaA h.M.takes h.J h.H
  obtain⟨F,hF⟩:∃ F,F=aay (yy f m.index m.hash) q:=⟨_,rfl⟩
  obtain⟨G,hG⟩:∃ G,G=aay g r:=⟨_,rfl⟩
  rw[<- hF]at o3 S2
  rw[<- hG]at ad4 KG adO S
  have l0:=h.I.loc0
  have l1:=I'.loc1
  have l1:m.index≤281474976710654:=l1
  have x1:=o3.loc
  have x1:m.index≤F.s.loc:=x1
  have x2:=S2.loc
  have x3:=adO.rem
  have x4:=ad4.rem
  have x5:=S.ack
  have hsame:=o3.at_ (show F.s.loc=m.index by omega)
  have y1:F.s.atA=f.s.heldA:=hsame.1
  have y2:F.s.atB=(f.p.length:Nat):=hsame.2
  have z1:=S2.atA
  have z2:=S2.atB
  have w1:=adO.sgnA
  have w2:=adO.sgnB
  obtain⟨k5,adH,kr⟩:=abV (d:=c) (n:=f.s.loc) ad4 KG x5 l0 (by omega) (by omega) h.D.seed
  obtain⟨adK,hmr⟩:∃ adK,adK=qC c f.s.loc:=⟨_,rfl⟩
  have hmr2:adK=qC c G.s.ack:=by rw[x5];exact hmr
  rw[<- hmr]at k5 adH kr ⊢
  have n1:¬ isU adK:=by unfold isU;omega
  have tk:aaF d c G adK:=⟨adH,fun hh=>absurd hh n1,fun hh=>by omega,fun _ _=>⟨kr,hmr2⟩⟩
  have er:rcv G adK=uQ G (abW G adK):=by unfold rcv;rw[if_neg n1,if_neg (by omega)]
  refine⟨aaL h.M.takes (by rw[<- hG];exact tk),?_⟩
  rw[aaP,<- hG,er]
  refine⟨S.p,S.loc,S.atA,S.atB,?_,?_,?_⟩
  ·show G.s.ack+1=m.index;omega
  ·show G.s.sgnA=(f.p.length:Nat);omega
  ·show G.s.sgnB=f.s.heldA;omega
 ·have e:rcv f m=uQ f (abW f m):=by unfold rcv;rw[if_neg h1,if_neg h4]
  rw[if_neg h4,List.append_nil,e]
  exact⟨h.M.takes,⟨S.p,S.loc,S.atA,S.atB,S.ack,S.heldA,S.heldB⟩⟩
theorem abc (I:iY f) {a:Int}{h:List UInt8}(h0:(n8 f a h).2=0):yr f=false/\kX f.o f.p f.s.heldB<483/\a≤SB f.s.bo f.o f.p f.s.atA.toNat f.s.heldB.toNat/\(n8 f a h).1=pe ⟨1,((j7 f.o:Nat):Int),a,h,[]⟩:=by
 unfold n8 at h0 ⊢
 split at h0
 ·cases h0
 rename_i h1
 rw[if_neg h1]
 split at h0
 ·cases h0
 rename_i h2
 rw[if_neg h2]
 split at h0
 ·cases h0
 rename_i h3
 rw[if_neg h3]
 split at h0
 ·cases h0
 rename_i h4
 rw[if_neg h4]
 split at h0
 ·cases h0
 rename_i h5
 rw[if_neg h5]
 rw[I.fB]at h4
 rw[I.xl.1]at h5
 exact⟨(Bool.not_eq_true _).mp h3,by omega,by omega,rfl⟩
theorem aa0 (I:iY f) {u:aL}(h0:(j4 f u).2=0):yr f=false/\(ey false u.id (cw f.p f.s.heldB)).isSome=true/\(u.kind=2->sha u.hash=((ey false u.id (cw f.p f.s.heldB)).getD aL.zero).hash):=by
 unfold j4 at h0
 split at h0
 ·cases h0
 split at h0
 ·cases h0
 rename_i h2
 split at h0
 ·cases h0
 rename_i h3
 have h2:tA f u=true:=(Bool.not_eq_false _).mp h2
 unfold tA at h2
 simp only[Bool.and_eq_true,Bool.not_eq_true',Bool.or_eq_true,decide_eq_true_eq,decide_eq_false_iff_not]at h2
 obtain⟨k1,k2,k3,k4⟩:=h2
 rw[I.fB]at k1 k3
 exact⟨(Bool.not_eq_true _).mp h3,k1,fun h=>k3.resolve_left fun hn=>hn h⟩
theorem aaB.abU (h:aaB c d f g q r) {u:aL}(hu:u.ok) (I':iY (q6 f u)) (hk:u.kind=1\/u.kind=2\/u.kind=3) (hfull:yr f=false) (hn:kJ f.o f.p u=0)
  (ha:u.kind=1->kX f.o f.p f.s.heldB<483/\u.amount≤SB f.s.bo f.o f.p f.s.atA.toNat f.s.heldB.toNat)
  (hr:u.kind≠1->(ey false u.id (cw f.p f.s.heldB)).isSome=true/\(u.kind=2->sha u.hash=((ey false u.id (cw f.p f.s.heldB)).getD aL.zero).hash)) :
  aaB c d (q6 f u) g q (r++[GL u]):=by
 have S:=h.M.sync
 have S2:=h.L.sync
 obtain⟨a,b,_⟩:=aaT (w:=u) h.L.takes h.I I' h.K
 obtain⟨ad4,KG⟩:=aaI h.M.takes h.J h.H
 have adO:=aaA h.M.takes h.J h.H
 obtain⟨Y,hY⟩:=h.ahead
 have hb:(aay g r).s.bp=f.s.bo:=by rw[adO.bp,h.D.bp]
 have hh:=abF ad4 h.I S KG.live hb hY hfull hn ha hr
 have n1:isU (GL u):=hk
 have tk:aaF d c (aay g r) (GL u):=⟨vY hu,fun _=>hh,fun h4=>by have h4:u.kind=4:=h4;omega,fun h1=>absurd n1 h1⟩
 refine⟨I',h.J,⟨h.K.a,h.K.b,h.K.h,h.K.failed,h.K.closed⟩,h.H,⟨h.E.key,h.E.seed,h.E.side,h.E.bo,h.E.bp⟩,⟨h.D.key,h.D.seed,h.D.side,h.D.bo,h.D.bp⟩,⟨a,?_⟩,⟨aaL h.M.takes tk,?_⟩⟩
 ·rw[b]
  exact⟨S2.p,S2.loc,S2.atA,S2.atB,S2.ack,S2.heldA,S2.heldB⟩
 ·have e:rcv (aay g r) (GL u)=abY (aay g r) u:=by unfold rcv;rw[if_pos n1];rfl
  rw[aaP,e]
  refine⟨?_,S.loc,S.atA,S.atB,S.ack,S.heldA,S.heldB⟩
  show (aay g r).p++[u]=f.o++[u]
  rw[S.p]
theorem aaB.abZ (h:aaB c d f g q r) (hc:c.ok) (h0:(p6 f).2=0):aaB c d (yG f (p6 f).1) g q (r++[tI c (yG f (p6 f).1)]):=by
 have S:=h.M.sync
 have S2:=h.L.sync
 obtain⟨ad3,ad6⟩:=aaI h.L.takes h.I h.K
 have adN:=aaA h.L.takes h.I h.K
 obtain⟨ad4,KG⟩:=aaI h.M.takes h.J h.H
 have adO:=aaA h.M.takes h.J h.H
 obtain⟨Y,hY⟩:=h.ahead
 obtain⟨k1,k2,k3⟩:=abS ad4 h.I S (h.D.abr adO) h.K KG.live hY h.E.seed h0
 obtain⟨e,hr,hs,_,hra⟩:=h.I.sign h0
 have hok:(tI c (yG f (p6 f).1)).ok:=by
  have:=I0 (c:=c) (f:=f) (f':=yG f (p6 f).1) (r:=(p6 f).1) hc (by rw[e];exact hr) h.I.ok (by rw[e];exact hs.ok)
  unfold sL at this
  rw[if_neg (by rw[e];show ¬ (2:Int)=1;decide),if_pos (by rw[e])]at this
  exact this _ (by simp)
 have hack:(aay f q).s.ack=f.s.ack:=by
  have:=adN.ack
  have:=adN.rem
  have:=ad3.rem
  omega
 obtain⟨a,z,b⟩:=aa1 (r:=(p6 f).1) true h.L.takes h.I h.K hack
 have hb:aaV (yG f (p6 f).1) true=yG f (p6 f).1:=rfl
 rw[hb]at a b
 obtain⟨m,hm⟩:∃ m,m=tI c (yG f (p6 f).1):=⟨_,rfl⟩
 rw[<- hm]at k1 k2 k3 hok ⊢
 have n1:¬ isU m:=by unfold isU;omega
 have tk:aaF d c (aay g r) m:=⟨hok,fun hh=>absurd hh n1,fun _=>k1,fun _ hh=>absurd k2 hh⟩
 have i1:(p6 f).1.index=f.s.rem+1:=by rw[e]
 have i2:(p6 f).1.cntA=(f.o.length:Nat):=by rw[e]
 have i3:(p6 f).1.cntB=f.s.atB:=by rw[e]
 refine⟨by rw[e];exact hs,h.J,⟨h.K.a,h.K.b,h.K.h,h.K.failed,h.K.closed⟩,h.H,⟨h.E.key,h.E.seed,h.E.side,h.E.bo,h.E.bp⟩,⟨h.D.key,h.D.seed,h.D.side,h.D.bo,h.D.bp⟩,⟨a,?_⟩,⟨aaL h.M.takes tk,?_⟩⟩
 ·rw[b]
  exact⟨S2.p,S2.loc,S2.atA,S2.atB,S2.ack,S2.heldA,S2.heldB⟩
 ·have er:rcv (aay g r) m=yy (aay g r) m.index m.hash:=by unfold rcv;rw[if_neg n1,if_pos k2]
  rw[aaP,er]
  refine⟨S.p,?_,?_,?_,S.ack,S.heldA,S.heldB⟩
  ·show m.index=(p6 f).1.index
   rw[k3,i1]
  ·show (aay g r).s.heldA=(p6 f).1.cntB
   rw[S.heldA,i3]
  ·show (((aay g r).p.length:Nat):Int)=(p6 f).1.cntA
   rw[S.p,i2]
theorem aaB.call (h:aaB c d f g q r) (hc:c.ok) {o:jj}(ho:o.ok) (h0:(lD f o).2=0):aaB c d (tF f o) g q (r++sL c f (tF f o) (lD f o).1):=by
 obtain⟨I',ha⟩:=h.I.tF ho h0
 have rem:∀ u:aL,u.ok->u.kind=2\/u.kind=3->lD f o=j4 f u->tF f o=q6 f (lD f o).1.upd->(dp u=true\/64<u.note.length\/u.id<0\/2048≤u.id)->aaB c d (tF f o) g q (r++sL c f (tF f o) (lD f o).1):=by
  intro u hu hk he hF hv
  rw[he]at h0
  obtain⟨f1,f2,f3⟩:=aa0 h.I h0
  obtain⟨e,hs,ha⟩:=h.I.y9 hu hv (by omega) h0
  rw[hF,he,e]
  have hsm:sL c f (q6 f (pe u).upd) (pe u)=[GL u]:=rfl
  show aaB c d (q6 f u) g q (r++sL c f (q6 f (pe u).upd) (pe u))
  rw[hsm]
  refine h.abU hu hs (.inr hk) f1 ?_ (fun hh=>by omega) fun _=>⟨f2,f3⟩
  rcases ha with ⟨_,hh,_⟩|⟨hh,_⟩|⟨hh,_⟩|⟨hh,_⟩
  ·exact hh
  ·cases hh
  ·cases hh
  ·cases hh
 by_cases h1:o.kind=1
 ·have he:lD f o=n8 f o.amount o.hash:=by unfold lD;rw[if_pos h1]
  have hF:tF f o=q6 f (lD f o).1.upd:=by unfold tF;rw[if_neg (by omega)]
  rw[he]at h0
  obtain⟨f1,f2,f3,f4⟩:=abc h.I h0
  obtain⟨u,e,hu,hk,hs,ha,_⟩:=h.I.offer ho.hash h0
  rw[hF,he,e]
  have eu:u=⟨1,((j7 f.o:Nat):Int),o.amount,o.hash,[]⟩:=by
   rw[e]at f4
   exact congrArg RcM.upd f4
  have hsm:sL c f (q6 f (pe u).upd) (pe u)=[GL u]:=rfl
  show aaB c d (q6 f u) g q (r++sL c f (q6 f (pe u).upd) (pe u))
  rw[hsm]
  refine h.abU hu hs (.inl hk) f1 ?_ (fun _=>⟨f2,by rw[eu];exact f3⟩) fun hh=>absurd hk hh
  rcases ha with ⟨_,hh,_⟩|⟨hh,_⟩|⟨hh,_⟩|⟨hh,_⟩
  ·exact hh
  ·cases hh
  ·cases hh
  ·cases hh
 by_cases h2:o.kind=2
 ·exact rem ⟨2,o.id,0,o.hash,[]⟩ (IB ho) (.inl rfl) (by unfold lD;rw[if_neg h1,if_pos h2]) (by unfold tF;rw[if_neg (by omega)]) (Gr _ _)
 by_cases h3:o.kind=3
 ·exact rem ⟨3,o.id,0,M.h0,o.note⟩ (Iy ho) (.inr rfl) (by unfold lD;rw[if_neg h1,if_neg h2,if_pos h3]) (by unfold tF;rw[if_neg (by omega)]) (Gq _ _)
 by_cases h4:o.kind=4
 ·have he:lD f o=p6 f:=by unfold lD;rw[if_neg h1,if_neg h2,if_neg h3,if_pos h4]
  have hF:tF f o=yG f (lD f o).1:=by unfold tF;rw[if_pos h4]
  rw[hF]
  rw[he]at h0 ⊢
  obtain⟨e,_⟩:=h.I.sign h0
  have hsm:sL c f (yG f (p6 f).1) (p6 f).1=[tI c (yG f (p6 f).1)]:=by
   unfold sL
   rw[if_neg (by rw[e];show ¬ (2:Int)=1;decide),if_pos (by rw[e])]
  rw[hsm]
  exact h.abZ hc h0
 ·exfalso
  unfold lD at h0
  rw[if_neg h1,if_neg h2,if_neg h3,if_neg h4]at h0
  cases h0
end
def aaO (t:me):Prop:=aaB (t.c false) (t.c true) (t.f false) (t.f true) (t.q false) (t.q true)
theorem aaO.at_ {t:me}(h:aaO t) (s:Bool):aaB (t.c s) (t.c (!s)) (t.f s) (t.f (!s)) (t.q s) (t.q (!s)):=by
 cases s
 ·exact h
 ·exact h.swap
theorem aaO.of {t:me}(s:Bool) (h:aaB (t.c s) (t.c (!s)) (t.f s) (t.f (!s)) (t.q s) (t.q (!s))):aaO t:=by
 cases s
 ·exact h
 ·exact h.swap
theorem aaY {t:me}{s:Bool}{r:RcM}{f':StF}(h:aaB (t.c s) (t.c (!s)) f' (t.f (!s)) (t.q s) (t.q (!s)++sL (t.c s) (t.f s) f' r)):aaO (uD t s r f'):=by
 refine aaO.of s ?_
 cases s
 ·exact h
 ·exact h
theorem aby {t:me}(h:aaO t) {n:Nat}(k:kK t n) {s:Bool}{o:jj}(ho:o.ok) (h0:(lD (t.f s) o).2=0):aaO (uD t s (lD (t.f s) o).1 (tF (t.f s) o)):=aaY ((h.at_ s).call (k.c s) ho h0)
theorem abk {t:me}(h:aaO t) {s:Bool}{m:cr}{q:List cr}(hq:t.q s=m::q):(sD (oW t s q) s m).2=true/\aaO (sD (oW t s q) s m).1/\aaF (t.c s) (t.c (!s)) (t.f s) m:=by
 have P:=h.at_ s
 rw[hq]at P
 obtain⟨ht,P'⟩:=P.comes
 have I:=P.I
 have ef:(oW t s q).f s=t.f s:=rfl
 have ady:(oW t s q).c s=t.c s:=rfl
 have e1:(oW t s q).q s=q:=ox _ _ _
 have e2:(oW t s q).q (!s)=t.q (!s):=qF _ _ (by cases s<;>decide)
 unfold sD
 rw[ef,ady]
 unfold rcv abg at P'
 by_cases h1:isU m
 ·rw[if_pos h1,if_pos h1,List.append_nil]at P'
  rw[if_pos (show m.kind=1\/m.kind=2\/m.kind=3 from h1),if_pos (ht.upd h1)]
  refine⟨rfl,aaO.of s ?_,ht⟩
  cases s
  ·exact P'
  ·exact P'
 rw[if_neg h1,if_neg h1]at P'
 rw[if_neg (show ¬ (m.kind=1\/m.kind=2\/m.kind=3) from h1)]
 by_cases h4:m.kind=4
 ·rw[if_pos h4,if_pos h4]at P'
  rw[if_pos (ht.came h4)]
  refine⟨rfl,aaY ?_,ht⟩
  rw[e1,e2]
  exact P'
 ·rw[if_neg h4,if_neg h4,List.append_nil]at P'
  obtain⟨hr,_⟩:=ht.rev h1 h4
  rw[if_neg (fun hh=>h4 (I.came (c:=t.c s) ht.ok hh).2.2.2.2.1),if_pos hr]
  obtain⟨e,_⟩:=I.y8 ht.ok hr
  refine⟨rfl,aaY ?_,ht⟩
  rw[e1,e2,e]
  show aaB _ _ _ _ _ (t.q (!s)++[])
  rw[List.append_nil]
  exact P'
theorem abL {d:DlM}(hd:d.ok) (hb:∀ s,¬ nF (AL d s)):aaO (Ig d):=by
 have adY:iY (tc (FW d)):=iY.start (Dd hd) (hb false)
 have ad5:iY (tc (FV d)):=iY.start (Dc hd) (hb true)
 have e0:mm (FW d)=({ StM.zero with side:=0,cap:=d.cap,bo:=d.ours,bp:=d.cap-d.ours,ptsA:=pB d.seedsB 0,ptsB:=pB d.seedsB 1,closed:=-1 },0):=by
  unfold mm
  rw[if_neg (show ¬ nF (FW d) from hb false)]
  rfl
 have hw:IntKind.i64.wrap (d.cap-d.ours)=d.cap-d.ours:=by
  have h0:=hb false
  unfold nF at h0
  have h1:¬ right (FW d).cap=false:=fun hh=>h0 (.inr (.inr (.inr (.inl hh))))
  have h2:=lZ.1 (show right d.cap=true from (Bool.not_eq_false _).mp h1)
  have h3:¬ d.ours<0:=fun hh=>h0 (.inr (.inr (.inr (.inr (.inl hh)))))
  have h4:¬ d.cap<d.ours:=fun hh=>h0 (.inr (.inr (.inr (.inr (.inr hh)))))
  exact i64_in (by omega) (by omega)
 have e1:mm (FV d)=({ StM.zero with side:=1,cap:=d.cap,bo:=d.cap-d.ours,bp:=d.ours,ptsA:=pB d.seedsA 0,ptsB:=pB d.seedsA 1,closed:=-1 },0):=by
  unfold mm
  rw[if_neg (show ¬ nF (FV d) from hb true)]
  show (({ StM.zero with side:=1,cap:=d.cap,bo:=IntKind.i64.wrap (d.cap-d.ours),bp:=d.cap-IntKind.i64.wrap (d.cap-d.ours),ptsA:=pB d.seedsA 0,ptsB:=pB d.seedsA 1,closed:=-1 }:StM),(0:Int))=_
  rw[hw,show d.cap-(d.cap-d.ours)=d.ours by omega]
 show aaB (FW d) (FV d) (tc (FW d)) (tc (FV d)) [] []
 unfold tc at adY ad5 ⊢
 rw[e0]at adY
 rw[e1]at ad5
 rw[e0,e1]
 exact⟨adY,ad5,⟨rfl,rfl,aba _,rfl,rfl⟩,⟨rfl,rfl,aba _,rfl,rfl⟩,⟨rfl,hd.seedsB,rfl,rfl,rfl⟩,⟨rfl,hd.seedsA,rfl,rfl,rfl⟩,⟨trivial,⟨rfl,rfl,rfl,rfl,rfl,rfl,rfl⟩⟩,⟨trivial,⟨rfl,rfl,rfl,rfl,rfl,rfl,rfl⟩⟩⟩
end Go.Esc.M
namespace Go.Esc.M
open Go Go.Esc
section
variable {F0:List AId}{G0 G:ak}{ps:List LP}{Q:ah->ak->Prop}{tb:AId}{t:me}{l:Bool->Ls}{w:Bool->ah}
theorem aar.use {F:List AId}{n:Nat}{s:Bool}{r:RcM}{lu:List aL}{v:ah}{f':StF}(h:(jP tb t).p G F) (k:kK t n) (hn:n≤99999999) (hr:r.ok) (hv:bw v) (hl:ff 36 G v (lu.map aL.av)) (okl:∀ u∈lu,u.ok) (hll:lu.length≤4096)
  (ap:Bb (t.f s) r lu f') (I:iY f') (hQ:∀ F' G',(jP tb (uD t s r f')).p G' F'->Ch F G F' G'->Q (.bool true) G') :
  al P aar.n [.ptr tb [] 0,.int .i64 (bI s),r.av v] G Q:=by
 refine aar.sound ?_
 unfold aar.S
 obtain⟨l,w,a⟩:=jP.at_ h
 have J:=k.f s
 have hlo:=J.lo
 have hlp:=J.lp
 intro i1 f1
 have s1:=(Sp.nil G).row f1 (r.av v)
 refine ae jm ?_
 refine ae qO ?_
 refine ae (qM s) ?_
 refine ae ((a.mv s1.ch).ldS k s) ?_
 refine ae (Rc.ld (au.own (i:=0) s1 rfl) hr hv) ?_
 refine dX.use ((a.mv s1.ch).IV k s) hr hv (hl.ch' s1.ch) okl hll (by omega) (by omega) J.lh ap fun wo wp wh G9 t9=>?_
 have s9:Sp [] G [bm 34 wh (f'.h.map b6.av),bm 36 wp (f'.p.map aL.av),bm 36 wo (f'.o.map aL.av),au i1 (r.av v)] G9:=u9 s1 t9
 have lx:Ls.lv ⟨wo,wp,wh⟩:=⟨(bm.own (i:=2) s9 rfl).leaf,(bm.own (i:=1) s9 rfl).leaf,(bm.own (i:=0) s9 rfl).leaf⟩
 refine ae (tv0 _ _) ?_
 refine ae (tv1 _ _) ?_
 refine St.nw s9 I.ok lx fun i12 G14 s14=>?_
 have s14:Sp [] G [au i12 (f'.s.av wo wp wh),bm 34 wh (f'.h.map b6.av),bm 36 wp (f'.p.map aL.av),bm 36 wo (f'.o.map aL.av),au i1 (r.av v)] G14:=s14
 rw[dx,aa,Bool.not_true,aK]
 refine ae jm ?_
 refine ae qO ?_
 refine ae (qM s) ?_
 refine ae (Kh s) ?_
 refine ae ((a.mv s14.ch).Mo k s) ?_
 refine ae (St.ld (au.own (i:=0) s14 rfl) I.ok lx) ?_
 refine ae jm ?_
 refine ae qO ?_
 refine ae (qM s) ?_
 obtain⟨l',w',S14⟩:=Sp.BS (Sp.with h s14)
 refine DS k S14 s I.ok (x:=⟨wo,wp,wh⟩) lx fun G25 s25=>?_
 have hS:ka G25 f' wo wp wh:=by
  have b1:=bm.own (i:=12) s25 rfl
  have b2:=bm.own (i:=11) s25 rfl
  have b3:=bm.own (i:=10) s25 rfl
  have:=I.lo
  have:=I.lp
  have:=I.lh
  exact⟨I.ok,Own.nj b1,Own.nj b2,Own.nj b3,I.oko,I.okp,I.okh,by omega,by omega,by omega⟩
 have S25:=DR (ps:=[au i12 (f'.s.av wo wp wh),bm 34 wh (f'.h.map b6.av),bm 36 wp (f'.p.map aL.av),bm 36 wo (f'.o.map aL.av),au i1 (r.av v)]) (x:=⟨wo,wp,wh⟩) (i:=3) (j:=2) (m:=1) (xs:=[0,4]) s25 rfl rfl rfl (by decide) (by intro y hy;simp at hy ⊢;omega)
 have S25:Sp F G [jP tb (kq t s f'),au i12 (f'.s.av wo wp wh),au i1 (r.av v)] G25:=S25
 have k':=sT k (s:=s) I
 have hqq:(kq t s f').q=t.q:=rfl
 have fin:∀ {G2:ak}{m:cr}{K:ah->ak->Prop},Sp F G [jP tb (kq t s f'),au i12 (f'.s.av wo wp wh),au i1 (r.av v)] G2->m.ok->sL (t.c s) (t.f s) f' r=[m]->(∀ F' G',(jP tb (uD t s r f')).p G' F'->Ch F G F' G'->K (.tuple []) G') ->
   al P cl.n [.ptr tb [] 0,.int .i64 (bI s),m.av] G2 K:=by
  intro G2 m K sp hm he hK
  have ep:uD t s r f'=oW (kq t s f') (!s) ((kq t s f').q (!s)++[m]):=by unfold uD;rw[he];rfl
  refine sp.call (i:=0) rfl (jP tb (uD t s r f')) fun F1 h1 kk=>?_
  refine cl.use h1 k' (by omega) hm fun F2 G3 h2 c2=>?_
  rw[<- ep]at h2
  have s3:=kk F2 G3 h2 c2
  have s4:Sp F G [jP tb (uD t s r f')] G3:=(s3.erase 1).erase 1
  obtain⟨F',q1,q2⟩:=s4.out
  exact hK F' G3 q1 q2
 have hr1:=au.own (i:=2) S25 rfl
 refine ae (Rc.sj hr1 hr hv) ?_
 rw[bB,aa,aI]
 refine⟨fun hk=>?_,fun hk1=>?_⟩
 ·refine ae (Rc.Al hr1 hr hv) ?_
  refine ec.use hr.upd fun G30 c30=>?_
  exact fin (S25.tmp c30) (vY hr.upd) (by unfold sL;rw[if_pos hk]) hQ
 ·rw[bB,aa,aI]
  refine⟨fun hk=>?_,fun hk2=>?_⟩
  ·obtain⟨F1,hF1⟩:=S25.get (i:=0) rfl
   obtain⟨l2,w2,a2⟩:=jP.at_ hF1
   refine ae jm ?_
   refine ae qP ?_
   refine ae (qN s) ?_
   refine ae (a2.ldC k' s) ?_
   refine ae (St.ld (au.own (i:=1) S25 rfl) I.ok lx) ?_
   refine bP.use hS fun yo yp yh G40 t40=>?_
   have c40:=t40.ch
   refine⟨⟨(a2.mv c40).ldC k' s,trivial⟩,?_⟩
   refine jC.use (ka.copy (i:=2) (j:=1) (k:=0) hS t40 rfl rfl rfl) (k.c s) fun G42 c42=>?_
   exact fin ((S25.tmp c40).tmp c42) (xT I.ok) (by unfold sL;rw[if_neg hk1,if_pos hk];rfl) hQ
  ·rw[bB,aa,aI]
   refine⟨fun hk=>?_,fun hk3=>?_⟩
   ·obtain⟨F1,hF1⟩:=S25.get (i:=0) rfl
    obtain⟨l2,w2,a2⟩:=jP.at_ hF1
    refine ae jm ?_
    refine ae qP ?_
    refine ae (qN s) ?_
    refine ae (a2.ldC k' s) ?_
    refine iU.use (k.c s) fun G49 c49=>?_
    exact fin (S25.tmp c49) (ve (k.c s) J.ok.loc) (by unfold sL;rw[if_neg hk1,if_neg hk2,if_pos hk];rfl) hQ
   ·have ep:uD t s r f'=kq t s f':=by
     unfold uD sL
     rw[if_neg hk1,if_neg hk2,if_neg hk3,List.append_nil]
     exact EZ (kq t s f') (!s)
    rw[ep]at hQ
    have s4:Sp F G [jP tb (kq t s f')] G25:=(S25.erase 1).erase 1
    obtain⟨F',q1,q2⟩:=s4.out
    exact hQ F' G25 q1 q2
theorem aas.use {F:List AId}{n:Nat}{s:Bool}{m:cr}{d:CfM}(hT:Tab G) (h:(jP tb t).p G F) (k:kK t n) (hn:n≤99999999) (ht:aaF (t.c s) d (t.f s) m)
  (hQ:∀ F' G',(jP tb (sD t s m).1).p G' F'->Ch F G F' G'->Q (.bool true) G'):al P aas.n [.ptr tb [] 0,.int .i64 (bI s),m.av] G Q:=by
 refine aas.sound ?_
 unfold aas.S
 obtain⟨l,w,a⟩:=jP.at_ h
 have I:=k.f s
 have hm:=ht.ok
 have hlo:=I.lo
 have hlp:=I.lp
 have hso:=I.ok
 have hl:bw (l s).o/\bw (l s).p/\bw (l s).h:=a.lv s
 have hS:=a.IV k s
 intro i1 f1
 have s1:=(Sp.nil G).row f1 m.av
 refine ae jm ?_
 refine ae qO ?_
 refine ae (qM s) ?_
 refine ae ((a.mv s1.ch).ldS k s) ?_
 refine St.nw s1 hso hl fun i7 G9 s9=>?_
 have s9:Sp [] G [au i7 ((t.f s).s.av (l s).o (l s).p (l s).h),au i1 m.av] G9:=s9
 have a9:=a.mv s9.ch
 have hg:=gx (i:=1) s9 rfl hm
 refine ae hg.1 ?_
 rw[bB,aa]
 intro J64
 have h1:isU m->J64 (.bool true) G9:=by
  intro hk
  have h0:=ht.upd hk
  unfold sD at hQ
  rw[if_pos (show m.kind=1\/m.kind=2\/m.kind=3 from hk),if_pos h0]at hQ
  have hu:=vF hm
  obtain⟨u,hue⟩:∃ u,Bw m=u:=⟨_,rfl⟩
  rw[hue]at hu hQ h0
  simp -zeta only [J64,aN]
  refine ae (St.ld (au.own (i:=0) s9 rfl) hso hl) ?_
  refine ae (gx (i:=1) s9 rfl hm).2.2.2.2.2.2.2.2 ?_
  refine bP.use (hS.mv s9.ch) fun wo wp wh G21 t21=>?_
  have s21:Sp [] G [bm 34 wh ((t.f s).h.map b6.av),bm 36 wp ((t.f s).p.map aL.av),bm 36 wo ((t.f s).o.map aL.av),au i7 ((t.f s).s.av (l s).o (l s).p (l s).h),au i1 m.av] G21:=u9 s9 t21
  refine⟨⟨(gx (i:=4) s21 rfl hm).2.2.2.2.2.2.2.2,trivial⟩,?_⟩
  refine dd.use hm fun G23 c23=>?_
  rw[hue]
  have s23:=s21.tmp c23
  refine jA.use (ka.copy (i:=2) (j:=1) (k:=0) hS s23 rfl rfl rfl) hu fun G25 c25=>?_
  have s25:=s23.tmp c25
  have hS25:=hS.mv s25.ch
  refine ae (St.eH (au.own (i:=3) s25 rfl) hso hl) ?_
  refine ae (gx (i:=4) s25 rfl hm).2.2.2.2.2.2.2.2 ?_
  refine ae jm ?_
  refine ae qO ?_
  refine Jz s25 hS25.p.gZ I.okp (by omega) fun v30 G31 s31=>?_
  refine⟨⟨(gx (i:=5) s31 rfl hm).2.2.2.2.2.2.2.2,trivial⟩,?_⟩
  refine dd.use hm fun G33 c33=>?_
  rw[hue]
  have s33:=s31.tmp c33
  refine Jy (i:=0) s33 rfl hu (by omega) fun v36 G37 s37=>?_
  refine ae (qM s) ?_
  refine ae (Hx s) ?_
  have S37:Sp F G [jP tb t,bm 36 v36 (((t.f s).p++[u]).map aL.av)] G37:=(Sp.with h s37).take 2
  refine IG S37 k fun G40 S40=>?_
  rw[bB,aa,dT_ h0]
  obtain⟨F',q1,q2⟩:=S40.out
  exact hQ F' G40 q1 q2
 have put:∀ {G2:ak}{ps:List LP}{r:RcM}{lu:List aL}{v:ah}{f':StF}{K:ah->ak->Prop},Sp F G (jP tb t::ps) G2->r.ok->bw v->ff 36 G2 v (lu.map aL.av)->(∀ u∈lu,u.ok)->lu.length≤4096->Bb (t.f s) r lu f'->iY f' ->
   (∀ F' G',(jP tb (uD t s r f')).p G' F'->Ch F G F' G'->K (.bool true) G')->al P aar.n [.ptr tb [] 0,.int .i64 (bI s),r.av v] G2 K:=by
  intro G2 ps r lu v f' K sp hr hv hlu ok1 hll ap I' hK
  have sp1:Sp F G [jP tb t] G2:=sp.take 1
  refine sp1.call (i:=0) rfl (jP tb (uD t s r f')) fun F1 h1 kk=>?_
  refine aar.use h1 k hn hr hv hlu ok1 hll ap I' fun F2 G3 h2 c2=>?_
  obtain⟨F',q1,q2⟩:=(kk F2 G3 h2 c2).out
  exact hK F' G3 q1 q2
 have h2:¬ isU m->J64 (.bool false) G9:=by
  intro hk
  unfold sD at hQ
  rw[if_neg (show ¬ (m.kind=1\/m.kind=2\/m.kind=3) from hk)]at hQ
  simp -zeta only [J64,aK]
  rw[bB,aa,aI]
  refine⟨fun h4=>?_,fun h4=>?_⟩
  ·have h0:=ht.came h4
   rw[if_pos h0]at hQ
   refine ae jm ?_
   refine ae qP ?_
   refine ae (qN s) ?_
   refine ae (a9.ldC k s) ?_
   refine ae (St.ld (au.own (i:=0) s9 rfl) hso hl) ?_
   refine ae (gx (i:=1) s9 rfl hm).2.2.2.2.2.2.2.2 ?_
   refine bP.use (hS.mv s9.ch) fun wo wp wh G50 t50=>?_
   have s50:Sp [] G [bm 34 wh ((t.f s).h.map b6.av),bm 36 wp ((t.f s).p.map aL.av),bm 36 wo ((t.f s).o.map aL.av),au i7 ((t.f s).s.av (l s).o (l s).p (l s).h),au i1 m.av] G50:=u9 s9 t50
   refine⟨⟨(gx (i:=4) s50 rfl hm).2.2.2.2.2.2.2.2,(a.mv s50.ch).ldC k s,trivial⟩,?_⟩
   refine jB.use (ka.copy (i:=2) (j:=1) (k:=0) hS s50 rfl rfl rfl) (k.c s) hm fun w51 G52 t52=>?_
   have s52:=u9 s50 t52
   have lw:=(bm.own (i:=0) s52 rfl).leaf
   obtain⟨e,c2,c3,c4,_⟩:=I.came (c:=t.c s) hm h0
   generalize mU (t.c s) (t.f s) m=X at hQ s52 lw h0 e
   have hco:X.r.ok:=by rw[e];exact c2
   refine ae (tv0 _ _) ?_
   refine ae (tv1 _ _) ?_
   refine Rc.nw s52 hco lw fun i55 G57 s57=>?_
   rw[bB,aa,dT_ h0,aN]
   refine ae (Rc.ld (au.own (i:=0) s57 rfl) hco lw) ?_
   subst e
   refine put (Sp.with h s57) c2 lw (bm.own (i:=1) s57 rfl).is (fun u hu=>I.okp u (List.mem_of_mem_drop hu)) (by rw[List.length_drop];omega) c4 c3 fun F' G' q1 q2=>?_
   exact hQ F' G' q1 q2
  ·obtain⟨h0,_⟩:=ht.rev hk h4
   rw[if_neg (fun hh=>h4 (I.came (c:=t.c s) hm hh).2.2.2.2.1),if_pos h0]at hQ
   refine ae (St.ld (au.own (i:=0) s9 rfl) hso hl) ?_
   refine ae (gx (i:=1) s9 rfl hm).2.2.2.2.2.2.2.2 ?_
   refine bP.use (hS.mv s9.ch) fun wo wp wh G68 t68=>?_
   have s68:Sp [] G [bm 34 wh ((t.f s).h.map b6.av),bm 36 wp ((t.f s).p.map aL.av),bm 36 wo ((t.f s).o.map aL.av),au i7 ((t.f s).s.av (l s).o (l s).p (l s).h),au i1 m.av] G68:=u9 s9 t68
   refine⟨⟨(gx (i:=4) s68 rfl hm).2.2.2.2.2.2.2.2,trivial⟩,?_⟩
   refine gL.use (hT.mono s68.ro) (ka.copy (i:=2) (j:=1) (k:=0) hS s68 rfl rfl rfl) hm fun G70 c70=>?_
   have s70:=s68.tmp c70
   have hap:iY (uQ (t.f s) (jR (t.f s) m).1)/\Bb (t.f s) (jR (t.f s) m).1 [] (uQ (t.f s) (jR (t.f s) m).1)/\(jR (t.f s) m).1.ok:=by
    obtain⟨e,h2,h3,h4,_⟩:=I.y8 hm h0
    rw[e];exact⟨h3,h4,h2⟩
   generalize jR (t.f s) m=Y at hQ hap h0
   obtain⟨p1,p2,hro⟩:=hap
   refine ae (tr0 _) ?_
   refine ae (tr1 _) ?_
   refine Rc.nw s70 hro bw.nil fun i73 G75 s75=>?_
   rw[bB,aa,dT_ h0,aN]
   refine ae (Rc.ld (au.own (i:=0) s75 rfl) hro bw.nil) ?_
   refine put (lu:=[]) (Sp.with h s75) hro bw.nil (.inr ⟨rfl,rfl⟩) (fun u hu=>by cases hu) (by simp) p2 p1 fun F' G' q1 q2=>?_
   exact hQ F' G' q1 q2
 rw[aI]
 refine⟨fun e1=>by rw[dT_ e1];exact h1 (.inl e1),fun e1=>?_⟩
 rw[bB,aa,aI]
 refine⟨fun e2=>by rw[dT_ e2];exact h1 (.inr (.inl e2)),fun e2=>?_⟩
 rw[bB,aa]
 by_cases e3:m.kind=3
 ·rw[dT_ e3]
  exact h1 (.inr (.inr e3))
 ·rw[dF_ e3]
  exact h2 (by rintro (h | h | h);exact e1 h;exact e2 h;exact e3 h)
end
end Go.Esc.M
namespace Go.Esc.M
open Go Go.Esc
structure Good (t:me):Prop where
 k:kK t 10240
 adz:Few t
 bo:aaO t
def dlT (t:me) (s:Bool):me:=match t.q s with
 | []=>t
 | m::q=>(sD (oW t s q) s m).1
theorem ad9 {t:me}{s:Bool}(h:t.q s=[]):dlT t s=t:=by unfold dlT;rw[h]
theorem aee {t:me}{s:Bool}{m:cr}{q:List cr}(h:t.q s=m::q):dlT t s=(sD (oW t s q) s m).1:=by unfold dlT;rw[h]
def dl4 (t:me) (s:Bool):me:=dlT (dlT (dlT (dlT t s) s) s) s
def aec (t:me) (s:Bool):me:=uD t s (p6 (t.f s)).1 (yG (t.f s) (p6 (t.f s)).1)
theorem aea {t:me}(h:Good t) {s:Bool}{m:cr}{q:List cr}(hq:t.q s=m::q):kK (oW t s q) 10240/\Few (oW t s q)/\aaF (t.c s) (t.c (!s)) (t.f s) m/\Good (dlT t s):=by
 obtain⟨c1,c2,c3⟩:=abk h.bo hq
 have adG:=h.k.q s
 rw[hq]at adG
 have adM:=h.k.n s
 rw[hq,List.length_cons]at adM
 have k2:=vD h.k (s:=s) (Nat.le_refl _) (fun x hx=>adG x (List.mem_cons_of_mem _ hx)) (by omega)
 have fe2:Few (oW t s q):=H2 h.adz (by rw[hq];simp)
 have fe3:=H4 k2 fe2 (s:=s) c3.ok
 refine⟨k2,fe2,c3,?_⟩
 rw[aee hq]
 exact⟨LN (H6 k2 c3.ok) fe3,fe3,c2⟩
theorem aeb {t:me}(h:Good t) (s:Bool):Good (dlT t s):=by
 cases hq:t.q s with
 | nil=>rw[ad9 hq];exact h
 | cons m q=>exact (aea h hq).2.2.2
theorem aeh {t:me}(h:Good t) {s:Bool}{o:jj}(ho:o.ok) (h0:(lD (t.f s) o).2=0):Good (uD t s (lD (t.f s) o).1 (tF (t.f s) o)):=by
 have hf:=JF h.k h.adz (s:=s) (o:=o) h0
 have hk:=CR h.k (s:=s) (EA (h.k.f s) ho) ((h.k.f s).tF ho h0).1
 exact⟨LN hk hf,hf,aby h.bo h.k ho h0⟩
def op4:jj:={ jj.zero with kind:=4 }
theorem aeI:op4.ok:=⟨iu 4 (by decide) (by decide),cL,cL,rfl,by simp[op4,jj.zero],cL⟩
theorem call4 (f:StF):lD f op4=p6 f/\tF f op4=yG f (p6 f).1:=by
 have hk:op4.kind=4:=rfl
 have e:lD f op4=p6 f:=by unfold lD;rw[if_neg (by decide),if_neg (by decide),if_neg (by decide),if_pos hk]
 refine⟨e,?_⟩
 unfold tF
 rw[if_pos hk,e]
theorem aem {t:me}(h:Good t) {s:Bool}(h0:(p6 (t.f s)).2=0):Good (aec t s):=by
 obtain⟨e1,e2⟩:=call4 (t.f s)
 have:=aeh h aeI (s:=s) (by rw[e1];exact h0)
 rw[e1,e2]at this
 exact this
def aeB (t:me) (k:Nat) (t':me):Prop:=
 if k=0 then (p6 (t.f false)).2=0/\t'=aec t false
 else if k=1 then t'=dl4 t true
 else if k=2 then t.q false≠[]/\t'=dlT t false
 else if k=3 then (p6 (t.f true)).2=0/\t'=aec t true
 else if k=4 then (dl4 t false).q true≠[]/\t'=dlT (dl4 t false) true
 else t'=t
section
variable {F0:List AId}{G0 G:ak}{ps:List LP}{Q:ah->ak->Prop}{tb:AId}{t:me}{l:Bool->Ls}{w:Bool->ah}
theorem aef {s:Bool}{x:Int}{A B:AId->ak->Prop}(hx:x=bI s) (hs:Sp F0 G0 [jP tb t] G) (h:Good t)
  (hA:∀ m q,t.q s=m::q->∀ i G',Sp F0 G0 [au i m.av,jP tb (oW t s q)] G'->A i G') (hB:t.q s=[]->∀ i G',Sp F0 G0 [jP tb t] G'->B i G') :
  wv (bj T ja []) fun v46=>al P df.n [.ptr tb [] 0,.int .i64 x,v46] G fun v47 G48=>wv (aP v47 0) fun v49=>wv (aP v47 1) fun v50=>br G48 (.own (jF)) fun i51 G52=>wg (aF T G52 aW (.ptr i51 [] 0) v49) fun G53=>brB (some v50) (A i51 G53) (B i51 G53):=by
 subst hx
 refine ae abw ?_
 have k:=h.k
 cases hq:t.q s with
 | nil=>
  obtain⟨F2,hF2⟩:=hs.get (i:=0) rfl
  refine df.use hF2 k (by omega) jj.bq (fun _ G56 c56=>?_) fun m ms he=>?_
  ·refine ae (tv0 _ _) ?_
   refine ae (tv1 _ _) ?_
   refine Kz (hs.tmp c56) cr.bq fun i59 G61 s61=>?_
   rw[aK]
   exact hB hq i59 G61 (s61.erase 0)
  ·rw[hq]at he
   cases he
 | cons m ms=>
  obtain⟨_,_,c3,_⟩:=aea h hq
  have hm:=c3.ok
  refine hs.call (i:=0) rfl (jP tb (oW t s ms)) fun F2 h2 kk=>?_
  refine df.use h2 k (by omega) jj.bq (fun he=>by rw[hq]at he;cases he) fun m' ms' he adZ G56 h3 c3'=>?_
  rw[hq]at he
  injection he with e1 e2
  subst e1
  subst e2
  rw[abl hm]
  have s56:=kk adZ G56 h3 c3'
  refine ae (tv0 _ _) ?_
  refine ae (tv1 _ _) ?_
  refine Kz s56 hm fun i59 G61 s61=>?_
  rw[aN]
  exact hA m ms hq i59 G61 s61
theorem ael {s:Bool}{x:Int}{m:cr}{q:List cr}{i:AId}{K:ah->ak->Prop}(hx:x=bI s) (hT:Tab G) (hs:Sp F0 G0 [au i m.av,jP tb (oW t s q)] G) (h:Good t) (hq:t.q s=m::q) (hK:∀ G',Sp F0 G0 [jP tb (dlT t s)] G'->K (.bool true) G') :
  wv (ag T G aW (.ptr i [] 0)) fun v54=>al P aas.n [.ptr tb [] 0,.int .i64 x,v54] G K:=by
 subst hx
 obtain⟨k2,fe2,c3,_⟩:=aea h hq
 refine ae (gx (i:=0) hs rfl c3.ok).2.2.2.2.2.2.2.2 ?_
 refine hs.call (i:=1) rfl (jP tb (sD (oW t s q) s m).1) fun F4 h4 kk4=>?_
 refine aas.use (d:=t.c (!s)) hT h4 k2 (by omega) c3 fun F5 G64 h5 c5=>?_
 have s64:=kk4 F5 G64 h5 c5
 refine hK G64 ?_
 rw[aee hq]
 exact s64.erase 0
theorem ad7.use {F:List AId}{k:Nat}{t':me}(hT:Tab G) (h:(jP tb t).p G F) (g:Good t) (hk:k<8) (hr:aeB t k t') (hQ:∀ F' G',(jP tb t').p G' F'->Ch F G F' G'->Q (.bool true) G') :
  al P ad7.n [.ptr tb [] 0,.int .i64 (k:Int)] G Q:=by
 refine ad7.sound ?_
 unfold ad7.S
 have s0:Sp F G [jP tb t] G:=Sp.one h (Ch.refl _ _)
 have out:∀ {G2:ak},Sp F G [jP tb t'] G2->Q (.bool true) G2:=by
  intro G2 sp
  obtain⟨F',q1,q2⟩:=sp.out
  exact hQ F' G2 q1 q2
 rw[bB,aa]
 intro J94
 have sign:∀ (s:Bool) (x:Int),x=bI s->(p6 (t.f s)).2=0->t'=aec t s->(wv (lr (.ptr tb [] 0)) fun v8=>wv (bt T bz v8 0) fun v9=>wv (aO T cJ v9 (.int .i64 x)) fun v10=>wv (ag T G bU v10) fun v11=>wv (lr (.ptr tb [] 0)) fun v12=>wv (bt T bz v12 1) fun v13=>wv (aO T gQ v13 (.int .i64 x)) fun v14=>wv (ag T G aE v14) fun v15=>al P bP.n [v15] G fun v16 G17=>(ag T G17 bU v10=some v11/\True)/\(al P jz.n [v11,v16] G17 fun v18 G19=>wv (aP v18 0) fun v20=>wv (aP v18 1) fun v21=>br G19 (.own (dw)) fun i22 G23=>wg (aF T G23 ax (.ptr i22 [] 0) v20) fun G24=>wv (az T .eql bD v21 (.int .i64 0)) fun v25=>brB (some v25)
 (wv (ag T G24 ax (.ptr i22 [] 0)) fun v26=>al P aar.n [.ptr tb [] 0,.int .i64 x,v26] G24 fun v27 G28=>Q v27 G28)
 (Q (.bool false) G24))):=by
  intro s x hx h0 he
  subst hx
  obtain⟨lv,wq,a⟩:=jP.at_ h
  have I:=g.k.f s
  obtain⟨e,hro,hs,ha,_⟩:=I.sign h0
  refine ae jm ?_
  refine ae qP ?_
  refine ae (qN s) ?_
  refine ae (a.ldC g.k s) ?_
  refine ae jm ?_
  refine ae qO ?_
  refine ae (qM s) ?_
  refine ae (a.ldS g.k s) ?_
  refine bP.use (a.IV g.k s) fun wo wp wh G17 t17=>?_
  have c17:=t17.ch
  refine⟨⟨(a.mv c17).ldC g.k s,trivial⟩,?_⟩
  refine jz.use (ka.copy (i:=2) (j:=1) (k:=0) (a.IV g.k s) t17 rfl rfl rfl) fun G19 c19=>?_
  have s19:Sp F G [jP tb t] G19:=(s0.tmp c17).tmp c19
  have hr0:(p6 (t.f s)).1.ok:=by rw[e];exact hro
  have hs':iY (yG (t.f s) (p6 (t.f s)).1):=by rw[e];exact hs
  have ha':Bb (t.f s) (p6 (t.f s)).1 [] (yG (t.f s) (p6 (t.f s)).1):=by rw[e];exact ha
  unfold aec at he
  generalize p6 (t.f s)=X at h0 hr0 hs' ha' he
  refine ae (tr0 _) ?_
  refine ae (tr1 _) ?_
  refine Rc.nw s19 hr0 bw.nil fun i22 G24 s24=>?_
  rw[bB,aa,dT_ h0,aN]
  refine ae (Rc.ld (au.own (i:=0) s24 rfl) hr0 bw.nil) ?_
  have s24:Sp F G [au i22 (X.1.av .nilSlice),jP tb t] G24:=s24
  refine s24.call (i:=1) rfl (jP tb t') fun F1 h1 kk=>?_
  refine aar.use (lu:=[]) h1 g.k (by omega) hr0 bw.nil (.inr ⟨rfl,rfl⟩) (fun u hu=>by cases hu) (by simp) ha' hs' fun F2 G3 h2 c2=>?_
  rw[<- he]at h2
  exact out ((kk F2 G3 h2 c2).erase 0)
 have hTm:∀ {G2:ak}{ps:List LP},Sp F G ps G2->Tab G2:=fun sp=>hT.mono sp.ro
 unfold aeB at hr
 have n3:((k:Int)=3) ↔ k=3:=by omega
 have adP:((k:Int)=0) ↔ k=0:=by omega
 have n1:((k:Int)=1) ↔ k=1:=by omega
 have n2:((k:Int)=2) ↔ k=2:=by omega
 have adL:((k:Int)=4) ↔ k=4:=by omega
 have first:(k=0\/k=3)->J94 (.bool true) G:=by
  intro hk2
  simp -zeta only [J94,aN]
  rw[bB,aa]
  intro J31
  rcases hk2 with h0|h3
  ·rw[if_pos h0]at hr
   rw[dF_ (by omega),aK]
   simp -zeta only [J31]
   exact sign false 0 rfl hr.1 hr.2
  ·rw[if_neg (by omega),if_neg (by omega),if_neg (by omega),if_pos h3]at hr
   rw[dT_ (by omega),aN]
   simp -zeta only [J31]
   exact sign true 1 rfl hr.1 hr.2
 have rest:¬ (k=0\/k=3)->J94 (.bool false) G:=by
  intro hk2
  simp -zeta only [J94,aK]
  rw[bB,aa]
  intro J93
  have hears:(k=1\/k=4)->J93 (.bool true) G:=by
   intro hk3
   simp -zeta only [J93,aN]
   rw[bB,aa]
   intro J78
   have go:∀ (s:Bool) (x:Int),x=bI s->(s=true ↔ k=1)->J78 (.int .i64 x) G:=by
    intro s x hx hs
    simp -zeta only [J78]
    intro R39 hR
    have loop:∀ (n j:Nat) (t1:me) (G40:ak),n+j=4->Sp F G [jP tb t1] G40->Good t1->(∀ t2 G2,Sp F G [jP tb t2] G2->Good t2->t2=(Nat.rec t1 (fun _ x=>dlT x s) n:me)->R39 [.ptr tb [] 0,.int .i64 (k:Int),.int .i64 x,.int .i64 4] G2)->R39 [.ptr tb [] 0,.int .i64 (k:Int),.int .i64 x,.int .i64 (j:Int)] G40:=by
     intro n
     induction n with
     | zero=>
      intro j t1 G40 hj s40 g1 hend
      have:j=4:=by omega
      subst this
      exact hend t1 G40 s40 g1 rfl
     | succ n ih=>
      intro j t1 G40 hj s40 g1 hend
      have shift:∀ n:Nat,(Nat.rec (dlT t1 s) (fun _ x=>dlT x s) n:me)=(Nat.rec t1 (fun _ x=>dlT x s) (n+1):me):=by
       intro n
       induction n with
       | zero=>rfl
       | succ n ih=>exact congrArg (fun x=>dlT x s) ih
      refine hR _ _ _ _ _ ?_
      rw[aM,aa,dT_ (by omega),aN]
      refine aef (s:=s) hx s40 g1 (fun m q hq i G53 s53=>?_) fun hq i G53 s53=>?_
      ·refine ael hx (hTm s53) s53 g1 hq fun G56 s56=>?_
       rw[dx,aa,Bool.not_true,aK,bg,i64_in (by omega) (by omega),aa]
       exact ih (j+1) _ G56 (by omega) s56 (aeb g1 s) fun t2 G2 s2 g2 e2=>hend t2 G2 s2 g2 (by rw[e2];exact shift n)
      ·rw[bg,i64_in (by omega) (by omega),aa]
       refine ih (j+1) _ G53 (by omega) s53 g1 fun t2 G2 s2 g2 e2=>hend t2 G2 s2 g2 ?_
       rw[e2,<- shift n,ad9 hq]
    refine loop 4 0 t G rfl s0 g fun t2 G2 s2 g2 e2=>?_
    have e2:t2=dl4 t s:=e2
    refine hR _ _ _ _ _ ?_
    rw[aM,aa,dF_ (by decide),aK,bB,aa]
    by_cases h1:k=1
    ·have hs1:=hs.2 h1
     subst hs1
     rw[if_neg (by omega),if_pos h1]at hr
     rw[dF_ (by omega),aK]
     refine out ?_
     rw[hr,<- e2]
     exact s2
    ·have hs1:s=false:=by
      cases s with
      | false=>rfl
      | true=>exact absurd (hs.1 rfl) h1
     subst hs1
     have h4:k=4:=hk3.resolve_left h1
     rw[if_neg (by omega),if_neg (by omega),if_neg (by omega),if_neg (by omega),if_pos h4,<- e2]at hr
     rw[dT_ (by omega),aN]
     refine aef (s:=true) rfl s2 g2 (fun m q hq i G53 s53=>?_) fun hq i G53 s53=>absurd hq hr.1
     refine ael rfl (hTm s53) s53 g2 hq fun G56 s56=>?_
     refine out ?_
     rw[hr.2]
     exact s56
   by_cases h4:k=4
   ·rw[dT_ (by omega),aN]
    exact go false 0 rfl ⟨fun h=>(by cases h),fun h=>(by omega)⟩
   ·rw[dF_ (by omega),aK]
    exact go true 1 rfl ⟨fun _=>by omega,fun _=>rfl⟩
  have ends:¬ (k=1\/k=4)->J93 (.bool false) G:=by
   intro hk3
   simp -zeta only [J93,aK]
   rw[if_neg (by omega),if_neg (by omega)]at hr
   rw[bB,aa]
   by_cases h2:k=2
   ·rw[if_pos h2]at hr
    rw[dT_ (by omega),aN]
    refine aef (s:=false) rfl s0 g (fun m q hq i G53 s53=>?_) fun hq i G53 s53=>absurd hq hr.1
    refine ael rfl (hTm s53) s53 g hq fun G56 s56=>?_
    refine out ?_
    rw[hr.2]
    exact s56
   ·rw[if_neg h2,if_neg (by omega),if_neg (by omega)]at hr
    rw[dF_ (by omega),aK]
    refine out ?_
    rw[hr]
    exact s0
  by_cases h1:k=1
  ·rw[dT_ (by omega),aN]
   exact hears (.inl h1)
  ·rw[dF_ (by omega),aK,bB,aa]
   by_cases h4:k=4
   ·rw[dT_ (by omega)]
    exact hears (.inr h4)
   ·rw[dF_ (by omega)]
    exact ends (by omega)
 by_cases h0:k=0
 ·rw[dT_ (by omega),aN]
  exact first (.inl h0)
 ·rw[dF_ (by omega),aK,bB,aa]
  by_cases h3:k=3
  ·rw[dT_ (by omega)]
   exact first (.inr h3)
  ·rw[dF_ (by omega)]
   exact rest (by omega)
end
end Go.Esc.M
namespace Go.Esc.M
open Go Go.Esc
def mkT (c:Bool->CfM) (x y:StF) (a b:List cr):me:=⟨c,fun s=>bif s then y else x,fun s=>bif s then b else a⟩
section
variable {c:Bool->CfM}{x y:StF}{a b q:List cr}{r:RcM}{f:StF}{m:cr}
theorem aej:uD (mkT c x y a b) false r f=mkT c f y a (b++sL (c false) x f r):=by
 unfold uD oW kq mkT
 congr 1
 ·funext s;cases s<;>rfl
 ·funext s;cases s<;>rfl
theorem aeo:uD (mkT c x y a b) true r f=mkT c x f (a++sL (c true) y f r) b:=by
 unfold uD oW kq mkT
 congr 1
 ·funext s;cases s<;>rfl
 ·funext s;cases s<;>rfl
theorem aeD:oW (mkT c x y a b) false q=mkT c x y q b:=by
 unfold oW mkT
 congr 1
 funext s;cases s<;>rfl
theorem aeC:oW (mkT c x y a b) true q=mkT c x y a q:=by
 unfold oW mkT
 congr 1
 funext s;cases s<;>rfl
theorem aeF {u:StF}:kq (mkT c x y a b) false u=mkT c u y a b:=by
 unfold kq mkT
 congr 1
 funext s;cases s<;>rfl
theorem aeE {u:StF}:kq (mkT c x y a b) true u=mkT c x u a b:=by
 unfold kq mkT
 congr 1
 funext s;cases s<;>rfl
theorem aeJ (t:me):t=mkT t.c (t.f false) (t.f true) (t.q false) (t.q true):=by
 unfold mkT
 cases t
 congr 1
 ·funext s;cases s<;>rfl
 ·funext s;cases s<;>rfl
theorem aeA (h:Good (mkT c x y (m::q) b)):dlT (mkT c x y (m::q) b) false=mkT c (rcv x m) y q (b++abg (c false) x m)/\aaF (c false) (c true) x m:=by
 obtain⟨_,_,ht,_⟩:=aea h (s:=false) (m:=m) (q:=q) rfl
 have ht:aaF (c false) (c true) x m:=ht
 refine⟨?_,ht⟩
 have I:iY x:=h.k.f false
 rw[aee (s:=false) (m:=m) (q:=q) rfl,aeD]
 unfold sD rcv abg
 show (if m.kind=1\/m.kind=2\/m.kind=3 then (if vu x (Bw m)=0 then (kq (mkT c x y q b) false ⟨x.s,x.o,x.p++[Bw m],x.h⟩,true) else (mkT c x y q b,false)) else if (mU (c false) x m).e=0 then (uD (mkT c x y q b) false (AO m) (yy x m.index m.hash),true) else if (jR x m).2=0 then (uD (mkT c x y q b) false (jR x m).1 (uQ x (jR x m).1),true) else (mkT c x y q b,false)).1=_
 by_cases h1:isU m
 ·rw[if_pos (show m.kind=1\/m.kind=2\/m.kind=3 from h1),if_pos (ht.upd h1),if_pos h1,if_pos h1,List.append_nil,aeF]
  rfl
 rw[if_neg (show ¬ (m.kind=1\/m.kind=2\/m.kind=3) from h1),if_neg h1,if_neg h1]
 by_cases h4:m.kind=4
 ·rw[if_pos (ht.came h4),if_pos h4,if_pos h4,aej]
  rfl
 ·obtain⟨hr,_⟩:=ht.rev h1 h4
  obtain⟨e,_⟩:=I.y8 ht.ok hr
  rw[if_neg (fun hh=>h4 (I.came (c:=c false) ht.ok hh).2.2.2.2.1),if_pos hr,if_neg h4,if_neg h4,aej,e]
  rfl
theorem aer (h:Good (mkT c x y a (m::q))):dlT (mkT c x y a (m::q)) true=mkT c x (rcv y m) (a++abg (c true) y m) q/\aaF (c true) (c false) y m:=by
 obtain⟨_,_,ht,_⟩:=aea h (s:=true) (m:=m) (q:=q) rfl
 have ht:aaF (c true) (c false) y m:=ht
 refine⟨?_,ht⟩
 have I:iY y:=h.k.f true
 rw[aee (s:=true) (m:=m) (q:=q) rfl,aeC]
 unfold sD rcv abg
 show (if m.kind=1\/m.kind=2\/m.kind=3 then (if vu y (Bw m)=0 then (kq (mkT c x y a q) true ⟨y.s,y.o,y.p++[Bw m],y.h⟩,true) else (mkT c x y a q,false)) else if (mU (c true) y m).e=0 then (uD (mkT c x y a q) true (AO m) (yy y m.index m.hash),true) else if (jR y m).2=0 then (uD (mkT c x y a q) true (jR y m).1 (uQ y (jR y m).1),true) else (mkT c x y a q,false)).1=_
 by_cases h1:isU m
 ·rw[if_pos (show m.kind=1\/m.kind=2\/m.kind=3 from h1),if_pos (ht.upd h1),if_pos h1,if_pos h1,List.append_nil,aeE]
  rfl
 rw[if_neg (show ¬ (m.kind=1\/m.kind=2\/m.kind=3) from h1),if_neg h1,if_neg h1]
 by_cases h4:m.kind=4
 ·rw[if_pos (ht.came h4),if_pos h4,if_pos h4,aeo]
  rfl
 ·obtain⟨hr,_⟩:=ht.rev h1 h4
  obtain⟨e,_⟩:=I.y8 ht.ok hr
  rw[if_neg (fun hh=>h4 (I.came (c:=c true) ht.ok hh).2.2.2.2.1),if_pos hr,if_neg h4,if_neg h4,aeo,e]
  rfl
theorem aez (I:iY x) (h0:(p6 x).2=0):aec (mkT c x y a b) false=mkT c (yG x (p6 x).1) y a (b++[tI (c false) (yG x (p6 x).1)]):=by
 obtain⟨e,_⟩:=I.sign h0
 unfold aec
 rw[aej]
 show mkT c (yG x (p6 x).1) y a (b++sL (c false) x (yG x (p6 x).1) (p6 x).1)=_
 have hs:sL (c false) x (yG x (p6 x).1) (p6 x).1=[tI (c false) (yG x (p6 x).1)]:=by
  unfold sL
  rw[if_neg (by rw[e];show ¬ (2:Int)=1;decide),if_pos (by rw[e])]
 rw[hs]
theorem aey (I:iY y) (h0:(p6 y).2=0):aec (mkT c x y a b) true=mkT c x (yG y (p6 y).1) (a++[tI (c true) (yG y (p6 y).1)]) b:=by
 obtain⟨e,_⟩:=I.sign h0
 unfold aec
 rw[aeo]
 show mkT c x (yG y (p6 y).1) (a++sL (c true) y (yG y (p6 y).1) (p6 y).1) b=_
 have hs:sL (c true) y (yG y (p6 y).1) (p6 y).1=[tI (c true) (yG y (p6 y).1)]:=by
  unfold sL
  rw[if_neg (by rw[e];show ¬ (2:Int)=1;decide),if_pos (by rw[e])]
 rw[hs]
end
theorem aet {f:StF}(hl:uO f.s=false) (h1:f.s.rem=f.s.ack) (h2:¬ ((f.o.length:Int)=f.s.sgnA/\f.s.atB=f.s.sgnB)) (h3:f.s.rem≤281474976710653):(p6 f).2=0/\(p6 f).1.index=f.s.rem+1/\(p6 f).1.cntA=(f.o.length:Nat)/\(p6 f).1.cntB=f.s.atB:=by
 unfold p6
 rw[if_neg (by rw[hl];decide),if_neg (by rintro (h | h);exact h h1;exact h2 h),if_neg (by omega)]
 exact⟨rfl,rfl,rfl,rfl⟩
theorem aen {f:StF}{u:aL}(hl:uO f.s=false) (hx:mD f.s=0):(j4 f u).2=120:=by
 have hm:tA f u=false:=by
  unfold tA cw
  rw[hx]
  rfl
 unfold j4
 rw[if_neg (by rw[hl];decide),if_pos hm]
 rfl
theorem aek {f:StF}{u v:aL}(hl:uO f.s=false) (hx:mD f.s=1) (hp:f.p=[u]) (ho:f.o=[]) (h0:f.s.heldA=0) (hk:u.kind=1) (hi:u.id=0) :
  (j4 f v).2=if v.id=0/\(v.kind=2->sha v.hash=u.hash)/\v.note.length≤64 then 0 else 120:=by
 have hfull:yr f=false:=by
  unfold yr
  rw[ho,h0]
  rfl
 have hfn:cw f.p 1=[u]:=by rw[hp];rfl
 unfold j4
 rw[if_neg (by rw[hl];decide)]
 have hm:tA f v=true ↔ v.id=0/\(v.kind=2->sha v.hash=u.hash)/\v.note.length≤64:=by
  unfold tA
  rw[hx,hfn,ho]
  by_cases hv:v.id=0
  ·have e:ey false v.id [u]=some u:=by
    unfold ey
    rw[List.find?_cons_of_pos]
    unfold uE
    rw[hk,hi,hv]
    rfl
   rw[e]
   show (true && (!false && ((!decide (v.kind=2) || decide (sha v.hash=u.hash)) && decide (v.note.length≤64))))=true ↔ _
   simp only[Bool.and_eq_true,Bool.or_eq_true,Bool.not_eq_true',decide_eq_true_eq,decide_eq_false_iff_not,Bool.not_false,true_and]
   constructor
   ·rintro⟨h1,h2⟩
    exact⟨hv,fun hk=>h1.resolve_left fun hn=>hn hk,h2⟩
   ·rintro⟨_,h1,h2⟩
    refine⟨?_,h2⟩
    by_cases hk2:v.kind=2
    ·exact .inr (h1 hk2)
    ·exact .inl hk2
  ·have e:ey false v.id [u]=none:=by
    unfold ey
    rw[List.find?_cons_of_neg]
    ·rfl
    unfold uE
    rw[hi,dF_ (fun h=>hv h.symm),Bool.false_and]
    decide
   rw[e]
   constructor
   ·intro h
    cases h
   ·intro h
    exact absurd h.1 hv
 by_cases hv:v.id=0/\(v.kind=2->sha v.hash=u.hash)/\v.note.length≤64
 ·rw[if_pos hv,if_neg (by rw[hm.2 hv];decide),if_neg (by rw[hfull];decide)]
 ·have:tA f v=false:=by
   cases h:tA f v with
   | false=>rfl
   | true=>exact absurd (hm.1 h) hv
  rw[if_neg hv,if_pos this]
  rfl
theorem aei {f:StF}{u v:aL}(hl:uO f.s=false) (ho:f.o=[u]) (hk:u.kind=2) (hi:u.id=v.id):(j4 f v).2=120:=by
 have hm:tA f v=false:=by
  have e:(ey true v.id f.o).isSome=true:=by
   rw[ho]
   unfold ey
   rw[List.find?_cons_of_pos]
   ·rfl
   unfold uE
   rw[hk,hi,dT_ rfl]
   rfl
  unfold tA
  rw[e]
  show ((ey false v.id (cw f.p (mD f.s))).isSome && (false && _))=false
  rw[Bool.false_and,Bool.and_false]
 unfold j4
 rw[if_neg (by rw[hl];decide),if_pos hm]
 rfl
structure aeL (c:Bool->CfM) (h:List UInt8) (u:aL) (t0:me) (T:Nat->me):Prop where
 lK:∀ k,k≤8->Good (T k)
 turn:∀ k,k<8->aeB (T k) k (T (k+1))
 live:∀ k,k≤8->uO ((T k).f true).s=false
 early:∀ k,k<5->mD ((T k).f true).s=0
 late:∀ k,5≤k->k≤8->mD ((T k).f true).s=1/\((T k).f true).p=[u]/\((T k).f true).o=[]/\((T k).f true).s.heldA=0
theorem aeH {f:StF}{m:cr}(h:m.kind=4):rcv f m=yy f m.index m.hash:=by
 unfold rcv
 rw[if_neg (by unfold isU;omega),if_pos h]
theorem aeG {f:StF}{m:cr}(h:m.kind=5):rcv f m=uQ f (abW f m):=by
 unfold rcv
 rw[if_neg (by unfold isU;omega),if_neg (by omega)]
theorem aev {c:CfM}{f:StF}{m:cr}(h:m.kind=4):abg c f m=[qC c f.s.loc]:=by
 unfold abg
 rw[if_neg (by unfold isU;omega),if_pos h]
theorem aeu {c:CfM}{f:StF}{m:cr}(h:m.kind=5):abg c f m=[]:=by
 unfold abg
 rw[if_neg (by unfold isU;omega),if_neg (by omega)]
theorem aep {c:CfM}:(qC c 0).kind=5:=by
 rw[aa2 (by decide) (by decide)]
theorem aex {c:Bool->CfM}{x y:StF}{u:aL}{h:List UInt8}(hx:x=⟨{ x.s with loc:=0,rem:=0,ack:=0,atA:=0,atB:=0,sgnA:=0,sgnB:=0,heldA:=0,heldB:=0,failed:=0,closed:=-1 },[],[],[]⟩) (hy:y=⟨{ y.s with loc:=0,rem:=0,ack:=0,atA:=0,atB:=0,sgnA:=0,sgnB:=0,heldA:=0,heldB:=0,failed:=0,closed:=-1 },[],[],[]⟩)
  (hk:u.kind=1) (g:Good (mkT c (q6 x u) y [] [GL u])):∃ T,T 0=mkT c (q6 x u) y [] [GL u]/\aeL c h u (mkT c (q6 x u) y [] [GL u]) T:=by
 have xs:x.s.loc=0/\x.s.rem=0/\x.s.ack=0/\x.s.atA=0/\x.s.atB=0/\x.s.sgnA=0/\x.s.sgnB=0/\x.s.heldA=0/\x.s.heldB=0/\x.s.failed=0/\x.s.closed=-1/\x.o=[]:=by rw[hx];exact⟨rfl,rfl,rfl,rfl,rfl,rfl,rfl,rfl,rfl,rfl,rfl,rfl⟩
 have ys:y.s.loc=0/\y.s.rem=0/\y.s.ack=0/\y.s.atA=0/\y.s.atB=0/\y.s.sgnA=0/\y.s.sgnB=0/\y.s.heldA=0/\y.s.heldB=0/\y.s.failed=0/\y.s.closed=-1/\y.o=[]/\y.p=[]:=by rw[hy];exact⟨rfl,rfl,rfl,rfl,rfl,rfl,rfl,rfl,rfl,rfl,rfl,rfl,rfl⟩
 obtain⟨x1,x2,x3,x4,x5,x6,x7,x8,x9,x10,x11,x12⟩:=xs
 obtain⟨y1,y2,y3,y4,adV,adW,ad2,adQ,adR,y10,y11,y12,y13⟩:=ys
 have adB:∀ f:StF,f.s.failed=x.s.failed->f.s.closed=x.s.closed->uO f.s=false:=by
  intro f h1 h2
  unfold uO
  rw[h1,h2,x10,x11]
  rfl
 have adx:∀ f:StF,f.s.failed=y.s.failed->f.s.closed=y.s.closed->uO f.s=false:=by
  intro f h1 h2
  unfold uO
  rw[h1,h2,y10,y11]
  rfl
 obtain⟨X1,hX1⟩:∃ X,X=q6 x u:=⟨_,rfl⟩
 have lX1:X1.o.length=1:=by rw[hX1];show (x.o++[u]).length=1;rw[x12];rfl
 have sX1:X1.s=x.s:=by rw[hX1];rfl
 rw[<- hX1]at g ⊢
 obtain⟨adP,i1,i2,i3⟩:=aet (f:=X1) (adB _ (by rw[sX1]) (by rw[sX1])) (by rw[sX1];omega) (by rw[sX1,lX1];omega) (by rw[sX1];omega)
 have g1:=aem g (s:=false) adP
 have e1:=aez (c:=c) (x:=X1) (y:=y) (a:=[]) (b:=[GL u]) (g.k.f false) adP
 rw[e1]at g1
 obtain⟨X2,hX2⟩:∃ X,X=yG X1 (p6 X1).1:=⟨_,rfl⟩
 have X2s:X2.s.loc=0/\X2.s.failed=0/\X2.s.closed=-1/\X2.s.sgnA=1:=by rw[hX2];refine⟨?_,?_,?_,?_⟩;(show X1.s.loc=0;rw[sX1,x1]);(show X1.s.failed=0;rw[sX1,x10]);(show X1.s.closed=-1;rw[sX1,x11]);(show (p6 X1).1.cntA=1;rw[i2,lX1];rfl)
 rw[<- hX2]at g1 e1
 obtain⟨C0,hC0⟩:∃ C,C=tI (c false) X2:=⟨_,rfl⟩
 have kC0:C0.kind=4:=by rw[hC0];rfl
 rw[<- hC0]at g1 e1
 have g1:Good (mkT c X2 y [] [GL u,C0]):=g1
 have e2:=(aer g1).1
 have n1:isU (GL u):=.inl hk
 have r2:rcv y (GL u)=abY y u:=by unfold rcv;rw[if_pos n1];rfl
 have q2:abg (c true) y (GL u)=[]:=by unfold abg;rw[if_pos n1]
 rw[r2,q2,List.append_nil]at e2
 obtain⟨Y1,hY1⟩:∃ Y,Y=abY y u:=⟨_,rfl⟩
 have Y1s:Y1.s=y.s/\Y1.p=[u]/\Y1.o=[]:=by rw[hY1];exact⟨rfl,by show y.p++[u]=[u];rw[y13];rfl,y12⟩
 rw[<- hY1]at e2
 have g2:=aeb g1 true
 rw[e2]at g2
 have e3:=(aer g2).1
 rw[aeH kC0,aev kC0,Y1s.1,y1,List.nil_append]at e3
 obtain⟨Y2,hY2⟩:∃ Y,Y=yy Y1 C0.index C0.hash:=⟨_,rfl⟩
 have Y2s:Y2.p=[u]/\Y2.o=[]/\Y2.s.atB=1/\Y2.s.heldA=0/\Y2.s.heldB=0/\Y2.s.rem=0/\Y2.s.ack=0/\Y2.s.sgnA=0/\Y2.s.sgnB=0/\Y2.s.failed=0/\Y2.s.closed=-1:=by
  rw[hY2]
  refine⟨Y1s.2.1,Y1s.2.2,?_,?_,?_,?_,?_,?_,?_,?_,?_⟩
  ·show ((Y1.p.length:Nat):Int)=1;rw[Y1s.2.1];rfl
  ·show Y1.s.heldA=0;rw[Y1s.1,adQ]
  ·show Y1.s.heldB=0;rw[Y1s.1,adR]
  ·show Y1.s.rem=0;rw[Y1s.1,y2]
  ·show Y1.s.ack=0;rw[Y1s.1,y3]
  ·show Y1.s.sgnA=0;rw[Y1s.1,adW]
  ·show Y1.s.sgnB=0;rw[Y1s.1,ad2]
  ·show Y1.s.failed=0;rw[Y1s.1,y10]
  ·show Y1.s.closed=-1;rw[Y1s.1,y11]
 rw[<- hY2]at e3
 obtain⟨R1,hR1⟩:∃ R,R=qC (c true) 0:=⟨_,rfl⟩
 have kR1:R1.kind=5:=by rw[hR1];exact aep
 rw[<- hR1]at e3
 have g3:=aeb g2 true
 rw[e3]at g3
 have e4:dl4 (mkT c X2 y [] [GL u,C0]) true=mkT c X2 Y2 [R1] []:=by
  unfold dl4
  rw[e2,e3,ad9 (s:=true) rfl,ad9 (s:=true) rfl]
 have e5:=(aeA g3).1
 rw[aeG kR1,aeu kR1,List.append_nil]at e5
 obtain⟨X3,hX3⟩:∃ X,X=uQ X2 (abW X2 R1):=⟨_,rfl⟩
 have X3s:X3.s.loc=0:=by rw[hX3];exact X2s.1
 rw[<- hX3]at e5
 have g4:=aeb g3 false
 rw[e5]at g4
 obtain⟨a1,a2,a3,a4,a5,a6,a7,a8,a9,a10,a11⟩:=Y2s
 obtain⟨n2,adD,adE,adF⟩:=aet (f:=Y2) (adx _ (by rw[a10,y10]) (by rw[a11,y11])) (by omega) (by omega) (by omega)
 have g5:=aem g4 (s:=true) n2
 have e6:=aey (c:=c) (x:=X3) (y:=Y2) (a:=[]) (b:=[]) (g4.k.f true) n2
 rw[e6]at g5
 obtain⟨Y3,hY3⟩:∃ Y,Y=yG Y2 (p6 Y2).1:=⟨_,rfl⟩
 have Y3s:Y3.p=[u]/\Y3.o=[]/\Y3.s.atB=1/\Y3.s.heldA=0/\Y3.s.heldB=0/\Y3.s.sgnA=0/\Y3.s.sgnB=1/\Y3.s.failed=0/\Y3.s.closed=-1:=by
  rw[hY3]
  refine⟨a1,a2,a3,a4,a5,?_,?_,a10,a11⟩
  ·show (p6 Y2).1.cntA=0;rw[adE,a2];rfl
  ·show (p6 Y2).1.cntB=1;rw[adF,a3]
 rw[<- hY3]at g5 e6
 obtain⟨C1,hC1⟩:∃ C,C=tI (c true) Y3:=⟨_,rfl⟩
 have kC1:C1.kind=4:=by rw[hC1];rfl
 rw[<- hC1]at g5 e6
 have g5:Good (mkT c X3 Y3 [C1] []):=g5
 have e6:aec (mkT c X3 Y2 [] []) true=mkT c X3 Y3 [C1] []:=e6
 have e7:=(aeA g5).1
 rw[aeH kC1,aev kC1,X3s,List.nil_append]at e7
 obtain⟨X4,hX4⟩:∃ X,X=yy X3 C1.index C1.hash:=⟨_,rfl⟩
 rw[<- hX4]at e7
 obtain⟨R0,hR0⟩:∃ R,R=qC (c false) 0:=⟨_,rfl⟩
 have kR0:R0.kind=5:=by rw[hR0];exact aep
 rw[<- hR0]at e7
 have g6:=aeb g5 false
 rw[e7]at g6
 have e8:dl4 (mkT c X3 Y3 [C1] []) false=mkT c X4 Y3 [] [R0]:=by
  unfold dl4
  rw[e7,ad9 (s:=false) rfl,ad9 (s:=false) rfl,ad9 (s:=false) rfl]
 have e9:=(aer g6).1
 rw[aeG kR0,aeu kR0,List.append_nil]at e9
 obtain⟨Y4,hY4⟩:∃ Y,Y=uQ Y3 (abW Y3 R0):=⟨_,rfl⟩
 have Y4s:Y4.p=[u]/\Y4.o=[]/\Y4.s.atB=1/\Y4.s.heldA=0/\Y4.s.heldB=1/\Y4.s.failed=0/\Y4.s.closed=-1:=by
  rw[hY4]
  obtain⟨b1,b2,b3,b4,b5,adv,adw,adA,b9⟩:=Y3s
  exact⟨b1,b2,b3,adv,adw,adA,b9⟩
 rw[<- hY4]at e9
 have g7:=aeb g6 true
 rw[e9]at g7
 have fx:∀ {f:StF},f.s.heldB=0->f.s.atB=0\/f.s.atB=1->mD f.s=0:=by
  intro f h1 h2
  unfold mD
  split<;>omega
 have fY4:mD Y4.s=1:=by
  unfold mD
  rw[Y4s.2.2.1,Y4s.2.2.2.2.1]
  rfl
 let T:Nat->me:=fun k=>match k with
  | 0=>mkT c X1 y [] [GL u]
  | 1=>mkT c X2 y [] [GL u,C0]
  | 2=>mkT c X2 Y2 [R1] []
  | 3=>mkT c X3 Y2 [] []
  | 4=>mkT c X3 Y3 [C1] []
  | _=>mkT c X4 Y4 [] []
 refine⟨T,rfl,⟨fun k hk=>?_,fun k hk=>?_,fun k hk=>?_,fun k hk=>?_,fun k hk hk8=>?_⟩⟩
 ·match k,hk with
  | 0,_=>exact g
  | 1,_=>exact g1
  | 2,_=>exact g3
  | 3,_=>exact g4
  | 4,_=>exact g5
  | k+5,_=>exact g7
 ·match k,hk with
  | 0,_=>exact⟨adP,e1.symm⟩
  | 1,_=>exact e4.symm
  | 2,_=>exact⟨by show [R1]≠[];simp,e5.symm⟩
  | 3,_=>exact⟨n2,e6.symm⟩
  | 4,_=>exact⟨by show (dl4 (mkT c X3 Y3 [C1] []) false).q true≠[];rw[e8];show [R0]≠[];simp,by show mkT c X4 Y4 [] []=dlT (dl4 (mkT c X3 Y3 [C1] []) false) true;rw[e8];exact e9.symm⟩
  | k+5,_=>exact rfl
 ·match k,hk with
  | 0,_=>exact adx _ rfl rfl
  | 1,_=>exact adx _ rfl rfl
  | 2,_=>exact adx Y2 (by rw[a10,y10]) (by rw[a11,y11])
  | 3,_=>exact adx Y2 (by rw[a10,y10]) (by rw[a11,y11])
  | 4,_=>exact adx Y3 (by rw[Y3s.2.2.2.2.2.2.2.1,y10]) (by rw[Y3s.2.2.2.2.2.2.2.2,y11])
  | k+5,_=>exact adx Y4 (by rw[Y4s.2.2.2.2.2.1,y10]) (by rw[Y4s.2.2.2.2.2.2,y11])
 ·match k,hk with
  | 0,_=>exact fx adR (.inl adV)
  | 1,_=>exact fx adR (.inl adV)
  | 2,_=>exact fx a5 (.inr a3)
  | 3,_=>exact fx a5 (.inr a3)
  | 4,_=>exact fx Y3s.2.2.2.2.1 (.inr Y3s.2.2.1)
  | k+5,hk=>exact absurd hk (by omega)
 ·match k,hk with
  | k+5,_=>exact⟨fY4,Y4s.1,Y4s.2.1,Y4s.2.2.2.1⟩
  | 0,hk | 1,hk | 2,hk | 3,hk | 4,hk=>exact absurd hk (by omega)
end Go.Esc.M
namespace Go.Esc.M
open Go Go.Esc
theorem aed {c:CfM}(h:¬ nF c):tc c=⟨{ (tc c).s with loc:=0,rem:=0,ack:=0,atA:=0,atB:=0,sgnA:=0,sgnB:=0,heldA:=0,heldB:=0,failed:=0,closed:=-1 },[],[],[]⟩/\(tc c).s.bo=c.ours/\(tc c).s.cap=c.cap:=by
 unfold tc mm
 rw[if_neg h]
 exact⟨rfl,rfl,rfl⟩
theorem aeq {c:CfM}(hc:c.ok) (h:¬ nF c) {a:Int}{x:List UInt8}(h1:1≤a) (h2:a≤c.ours):n8 (tc c) a x=(pe ⟨1,0,a,x,[]⟩,0):=by
 have I:iY (tc c):=iY.start hc h
 obtain⟨e,eb,ady⟩:=aed h
 have hcm:=I.capm
 have hcp:=I.cap
 have hbp:=I.bp
 obtain⟨f,hf⟩:∃ f,f=tc c:=⟨_,rfl⟩
 rw[<- hf]at I e eb ady hcm hcp hbp ⊢
 have s1:f.s.failed=0:=by rw[e]
 have s2:f.s.closed=-1:=by rw[e]
 have s3:f.o=[]:=by rw[e]
 have s4:f.p=[]:=by rw[e]
 have s5:f.s.heldA=0:=by rw[e]
 have hd:uO f.s=false:=by
  unfold uO
  rw[s1,s2]
  rfl
 have hfull:yr f=false:=by
  unfold yr
  rw[s3,s5]
  rfl
 have hop:kX f.o f.p (mD f.s)=0:=by
  unfold kX ml
  rw[s3]
  rfl
 have hsp:tj f=c.ours:=by
  rw[I.xl.1]
  unfold SB
  rw[s3,s4,eb]
  unfold gG
  simp
 unfold n8
 rw[if_neg (by rw[hd];decide),if_neg (by omega),if_neg (by rw[hfull];decide),if_neg (by omega),if_neg (by omega),s3]
 rfl
theorem aes {d:DlM}:(AL d false).ours=d.ours:=rfl
theorem aew (s:List UInt8) (G:ak):fU T G bH (.str s)=some (.int .i64 (s.length:Nat)):=rfl
theorem aeK (f:StF) (a:Int) (h:List UInt8):lD f { jj.zero with kind:=1,amount:=a,hash:=h }=n8 f a h/\tF f { jj.zero with kind:=1,amount:=a,hash:=h }=q6 f (n8 f a h).1.upd:=⟨rfl,rfl⟩
theorem call2 (f:StF) (h:List UInt8):lD f { jj.zero with kind:=2,hash:=h }=j4 f ⟨2,0,0,h,[]⟩/\tF f { jj.zero with kind:=2,hash:=h }=q6 f (j4 f ⟨2,0,0,h,[]⟩).1.upd:=⟨rfl,rfl⟩
abbrev stL (i41 i27 tb i5 i3 i1:AId) (r:RcM) (h oth pre:List UInt8) (d:DlM) (t:me):List LP:=
 [au i41 (r.av .nilSlice),au i27 (.agg (h.map u8v)),jP tb t,au i5 (.agg (oth.map u8v)),au i3 (.agg (pre.map u8v)),au i1 d.av]
theorem aeg {G:ak}{d am pre oth note:ah}{m1 m2 m3 m4 m5:Nat}(hT:Tab G) (h1:wt T G reachBytes 6 db d m1) (h2:wt T G reachBytes 6 aq am m2) (h3:wt T G reachBytes 6 ar pre m3) (h4:wt T G reachBytes 6 ar oth m4) (h5:wt T G reachBytes 6 bH note m5) :
  al P ad8.n [d,am,pre,oth,note] G fun v _=>v=.bool true:=by
 obtain⟨d,rfl,hd⟩:=Kb h1
 obtain⟨am,rfl,adS,_⟩:=wQ cu rfl h2
 obtain⟨pre,rfl,lp,_⟩:=Cw bZ rfl cW rfl h3
 obtain⟨oth,rfl,lo,_⟩:=Cw bZ rfl cW rfl h4
 obtain⟨note,rfl,_,hnl,_⟩:=Lj fS rfl h5
 have adS:=vt.1 adS
 refine ad8.sound ?_
 unfold ad8.S
 intro i1 f1
 have s1:=(Sp.nil G).row f1 d.av
 intro i3 f3
 have s3:=s1.row f3 (.agg (pre.map u8v))
 intro i5 f5
 have s5:=s3.row f5 (.agg (oth.map u8v))
 revert s5
 generalize ak.upd _ i5 _=G6
 intro s5
 refine fy.use (hT.mono s5.ro) fun G8 c8=>?_
 have s8:Sp [] G [au i5 (.agg (oth.map u8v)),au i3 (.agg (pre.map u8v)),au i1 d.av] G8:=s5.tmp c8
 rw[dx,aa,Bool.not_true,aK]
 refine ae (Dl.ld (au.own (i:=2) s8 rfl) hd) ?_
 refine fC.use hd (fun _ G12 c12=>?_) fun hb tb G12 t12=>?_
 ·refine ae (tv0 _ _) ?_
  refine ae (tv1 _ _) ?_
  intro J182
  rw[dx,aa,Bool.not_false,aN]
  simp -zeta only [J182,aN]
 refine ae (tv0 _ _) ?_
 refine ae (tv1 _ _) ?_
 intro J182
 rw[dx,aa,Bool.not_true,aK,aM,aa,aI]
 have s12:Sp [] G [jP tb (Ig d),au i5 (.agg (oth.map u8v)),au i3 (.agg (pre.map u8v)),au i1 d.av] G12:=u9 s8 t12
 refine⟨fun _=>by simp -zeta only [J182,aN],fun ha1=>?_⟩
 refine ae (Dl.dM (au.own (i:=3) s12 rfl) hd) ?_
 rw[da,aa]
 by_cases ha2:am > d.ours
 ·rw[dT_ ha2]
  simp -zeta only [J182,aN]
 rw[dF_ ha2]
 simp -zeta only [J182,aK]
 clear J182
 have k0:=(KU hd hb).more (show 0≤10240 by decide)
 have g0:Good (Ig d):=⟨k0,KJ d,abL hd hb⟩
 have hsl:dV T ar (.ptr i3 [] 0) none none none=some (.slice i3 [] 0 0 32 32):=by simp[dV,bZ,dQ,cW,j8,lH]
 refine ae hsl ?_
 have hxs:ff 1 G12 (.slice i3 [] 0 0 32 32) (pre.map u8v):=qR (au.own (i:=2) s12 rfl) lp
 refine ae (km (si:=fJ) (ie:=gi) (di:=iO) eC rfl cW rfl fS rfl hxs) ?_
 refine CW s12 fun v23 G24 s24=>?_
 refine jh.use (xs:=[pre]) (Own.nj (bm.own (i:=0) s24 rfl)) (by simp) (by simp;omega) fun G26 c26=>?_
 have s26:=s24.tmp c26
 have e1:[pre].flatten=pre:=by simp
 rw[e1]
 have lh:(sha pre).length=32:=je _
 obtain⟨h,hh⟩:∃ h,h=sha pre:=⟨_,rfl⟩
 rw[<- hh]at lh ⊢
 have hfh:dD dQ (.agg (h.map u8v))=true:=gm lh
 refine jL s26 bZ hfh (by rw[mF];show Esc.sz (.agg (h0.map u8v))=_;rw[Esc.sz,Esc.sz,szh oe,szh lh]) (by simp[Esc.okv,kM]) fun i27 G29 s29=>?_
 have s29:Sp [] G [au i27 (.agg (h.map u8v)),bm 1 v23 ([pre].map .str),jP tb (Ig d),au i5 (.agg (oth.map u8v)),au i3 (.agg (pre.map u8v)),au i1 d.av] G29:=s29
 have s29:Sp [] G [au i27 (.agg (h.map u8v)),jP tb (Ig d),au i5 (.agg (oth.map u8v)),au i3 (.agg (pre.map u8v)),au i1 d.av] G29:=s29.erase 1
 have hb0:¬ nF (AL d false):=hb false
 have hof:=aeq (Db hd false) hb0 (a:=am) (x:=h) (by omega) (by rw[aes];omega)
 obtain⟨u,hu⟩:∃ u,u=(⟨1,0,am,h,[]⟩:aL):=⟨_,rfl⟩
 rw[<- hu]at hof
 have huo:u.ok:=by rw[hu];exact⟨iu 1 (by decide) (by decide),cL,adS,lh,by simp⟩
 have huk:u.kind=1:=by rw[hu]
 have hui:u.id=0:=by rw[hu]
 have huh:u.hash=h:=by rw[hu]
 obtain⟨t0,ht0⟩:∃ t,t=Ig d:=⟨_,rfl⟩
 have e0:t0=mkT (AL d) (tc (AL d false)) (tc (AL d true)) [] []:=by
  rw[ht0,aeJ (Ig d)]
  rfl
 have ef0:t0.f false=tc (AL d false):=by rw[e0];rfl
 rw[<- ht0]at s29 g0
 obtain⟨F1,hF1⟩:=s29.get (i:=1) rfl
 obtain⟨lv,wq,a⟩:=jP.at_ hF1
 refine ae jm ?_
 refine ae qO ?_
 refine ae (qM false) ?_
 refine ae (a.ldS g0.k false) ?_
 refine ae (bM lh (au.own (i:=0) s29 rfl)) ?_
 refine bP.use (a.IV g0.k false) fun wo wp wh G36 t36=>?_
 have s36:=s29.tmp t36.ch
 refine⟨⟨bM lh (au.own (i:=0) s36 rfl),trivial⟩,?_⟩
 refine gM.use (ka.copy (i:=2) (j:=1) (k:=0) (a.IV g0.k false) t36 rfl rfl rfl) lh fun G38 c38=>?_
 rw[ef0,hof]
 have s38:=s36.tmp c38
 have hro:=iR huo
 refine ae (tr0 _) ?_
 refine ae (tr1 _) ?_
 refine Rc.nw s38 hro bw.nil fun i41 G43 s43=>?_
 have s43:Sp [] G [au i41 ((pe u).av .nilSlice),au i27 (.agg (h.map u8v)),jP tb t0,au i5 (.agg (oth.map u8v)),au i3 (.agg (pre.map u8v)),au i1 d.av] G43:=s43
 intro J181
 have hop1:({ jj.zero with kind:=1,amount:=am,hash:=h }:jj).ok:=⟨iu 1 (by decide) (by decide),adS,cL,lh,by simp[jj.zero],cL⟩
 obtain⟨c1,c2⟩:=aeK (tc (AL d false)) am h
 rw[hof]at c1 c2
 have g1:Good (uD t0 false (pe u) (q6 (tc (AL d false)) u)):=by
  have:=aeh g0 hop1 (s:=false) (by rw[ef0,c1])
  rw[ef0,c1,c2]at this
  exact this
 have ap0:Bb (t0.f false) (pe u) [] (q6 (tc (AL d false)) u)/\iY (q6 (tc (AL d false)) u):=by
  have I:=g0.k.f false
  have:=I.tF hop1 (by rw[ef0,c1])
  rw[ef0,c1,c2]at this
  rw[ef0]
  exact⟨this.2,this.1⟩
 have em:uD t0 false (pe u) (q6 (tc (AL d false)) u)=mkT (AL d) (q6 (tc (AL d false)) u) (tc (AL d true)) [] [GL u]:=by
  rw[e0,aej]
  rfl
 rw[cD,aa,dC]
 refine⟨fun hne=>absurd rfl hne,fun _=>?_⟩
 refine ae (Rc.ld (au.own (i:=0) s43 rfl) hro bw.nil) ?_
 refine s43.call (i:=2) rfl (jP tb (uD t0 false (pe u) (q6 (tc (AL d false)) u))) fun F2 h2 kk=>?_
 refine aar.use (s:=false) (lu:=[]) h2 g0.k (by omega) hro bw.nil (.inr ⟨rfl,rfl⟩) (fun u hu=>by cases hu) (by simp) ap0.1 ap0.2 fun adZ G47 h3 c3=>?_
 have s47:=kk adZ G47 h3 c3
 rw[em]at s47 g1
 obtain⟨TT,hT0,W⟩:=aex (h:=h) (aed hb0).1 (aed (hb true)).1 huk g1
 rw[<- hT0]at s47
 have s47:Sp [] G [au i41 ((pe u).av .nilSlice),au i27 (.agg (h.map u8v)),jP tb (TT 0),au i5 (.agg (oth.map u8v)),au i3 (.agg (pre.map u8v)),au i1 d.av] G47:=s47
 clear s43 s38 s36 s29 s26 s24 s12 s8 s5 s3 s1 kk h3 h2 hF1 a em g1 ap0 g0 e0 ef0 c1 c2 hof
 rw[dx,aa,Bool.not_true]
 simp -zeta only [J181,aK]
 clear J181
 intro R51 hR
 have settle:∀ {t:me}{r:RcM}{G1:ak}{K:ah->ak->Prop}{ix:AId}{hs:List UInt8}{id:Int},Good t->Sp [] G (stL i41 i27 tb i5 i3 i1 r h oth pre d t) G1->(∀ {r:RcM}{t:me}{G2:ak},Sp [] G (stL i41 i27 tb i5 i3 i1 r h oth pre d t) G2->ag T G2 ar (.ptr ix [] 0)=some (.agg (hs.map u8v)))->hs.length=32->I64 id ->
   (∀ G2,Sp [] G (stL i41 i27 tb i5 i3 i1 r h oth pre d t) G2->K (w8 (j4 (t.f true) ⟨2,id,0,hs,[]⟩)) G2) ->
   wv (lr (.ptr tb [] 0)) fun v61=>wv (bt T bz v61 1) fun v62=>wv (aO T gQ v62 (.int .i64 1)) fun v63=>wv (ag T G1 aE v63) fun v64=>wv (ag T G1 ar (.ptr ix [] 0)) fun v65=>al P bP.n [v64] G1 fun v66 G67=>(ag T G67 ar (.ptr ix [] 0)=some v65/\True)/\(al P iT.n [v66,.int .i64 id,v65] G67 K):=by
  intro t r G1 K ix hs id g s hld hl hid hK
  obtain⟨F1,hF1⟩:=s.get (i:=2) rfl
  obtain⟨lv,wq,a⟩:=jP.at_ hF1
  refine ae jm ?_
  refine ae qO ?_
  refine ae (qM true) ?_
  refine ae (a.ldS g.k true) ?_
  refine ae (hld s) ?_
  refine bP.use (a.IV g.k true) fun wo wp wh G2 t2=>?_
  have s2:=s.tmp t2.ch
  refine⟨⟨hld s2,trivial⟩,?_⟩
  refine iT.use (ka.copy (i:=2) (j:=1) (k:=0) (a.IV g.k true) t2 rfl rfl rfl) hid hl fun G3 c3=>?_
  exact hK G3 (s2.tmp c3)
 have refuse:∀ {t:me}{r:RcM}{G1:ak}{K:ah->ak->Prop}{x:List UInt8},Good t->Sp [] G (stL i41 i27 tb i5 i3 i1 r h oth pre d t) G1->x.length≤9223372036854775807 ->
   (∀ G2,Sp [] G (stL i41 i27 tb i5 i3 i1 r h oth pre d t) G2->K (w8 (j4 (t.f true) ⟨3,0,0,h0,x⟩)) G2) ->
   wv (lr (.ptr tb [] 0)) fun v61=>wv (bt T bz v61 1) fun v62=>wv (aO T gQ v62 (.int .i64 1)) fun v63=>wv (ag T G1 aE v63) fun v64=>al P bP.n [v64] G1 fun v66 G67=>al P iV.n [v66,.int .i64 0,.str x] G67 K:=by
  intro t r G1 K x g s hx hK
  obtain⟨F1,hF1⟩:=s.get (i:=2) rfl
  obtain⟨lv,wq,a⟩:=jP.at_ hF1
  refine ae jm ?_
  refine ae qO ?_
  refine ae (qM true) ?_
  refine ae (a.ldS g.k true) ?_
  refine bP.use (a.IV g.k true) fun wo wp wh G2 t2=>?_
  have s2:=s.tmp t2.ch
  refine iV.use (ka.copy (i:=2) (j:=1) (k:=0) (a.IV g.k true) t2 rfl rfl rfl) cL hx fun G3 c3=>?_
  exact hK G3 (s2.tmp c3)
 have ld3:∀ {r:RcM}{t:me}{G2:ak},Sp [] G (stL i41 i27 tb i5 i3 i1 r h oth pre d t) G2->ag T G2 ar (.ptr i3 [] 0)=some (.agg (pre.map u8v)):=fun s=>bM lp (au.own (i:=4) s rfl)
 have ld5:∀ {r:RcM}{t:me}{G2:ak},Sp [] G (stL i41 i27 tb i5 i3 i1 r h oth pre d t) G2->ag T G2 ar (.ptr i5 [] 0)=some (.agg (oth.map u8v)):=fun s=>bM lo (au.own (i:=3) s rfl)
 have rok:∀ {f:StF}{id:Int}{hs:List UInt8},I64 id->hs.length=32->(j4 f ⟨2,id,0,hs,[]⟩).1.ok:=fun hi hl=>qD ⟨iu 2 (by decide) (by decide),hi,cL,hl,by simp⟩
 have rok3:∀ {f:StF}{x:List UInt8},x.length≤9223372036854775807->(j4 f ⟨3,0,0,h0,x⟩).1.ok:=fun hx=>qD ⟨iu 3 (by decide) (by decide),cL,cL,rfl,hx⟩
 have i641:I64 1:=iu 1 (by decide) (by decide)
 have hnl:note.length≤9223372036854775807:=Nat.le_trans hnl (by decide)
 have loop:∀ (n k:Nat) (G52:ak),n+k=8->Sp [] G (stL i41 i27 tb i5 i3 i1 (pe u) h oth pre d (TT k)) G52->R51 [.str note,.ptr i3 [] 0,.ptr i5 [] 0,.ptr tb [] 0,.ptr i27 [] 0,.ptr i41 [] 0,.int .i64 (k:Int)] G52:=by
  intro n
  induction n with
  | succ n ih=>
   intro k G52 hk s52
   have g:=W.lK k (by omega)
   refine hR _ _ _ _ _ _ _ _ ?_
   rw[aM,aa,dT_ (by omega),aN]
   refine settle g s52 ld3 lp cL fun G69 s69=>?_
   have hX:((j4 ((TT k).f true) ⟨2,0,0,pre,[]⟩).2=0) ↔ 5≤k:=by
    by_cases h5:k<5
    ·rw[aen (W.live k (by omega)) (W.early k h5)]
     exact⟨fun hh=>(by cases hh),fun hh=>(by omega)⟩
    ·obtain⟨z1,z2,z3,z4⟩:=W.late k (by omega) (by omega)
     rw[aek (W.live k (by omega)) z1 z2 z3 z4 huk hui,if_pos ⟨rfl,fun _=>by rw[huh];exact hh.symm,by simp⟩]
     exact⟨fun _=>by omega,fun _=>rfl⟩
   generalize j4 ((TT k).f true) ⟨2,0,0,pre,[]⟩=X at hX
   refine ae (tr0 _) ?_
   refine ae (tr1 _) ?_
   rw[aM,aa,cD,aa,Ht lL rfl,aa]
   have hbb:(!(decide ((k:Int)<5) == !decide (X.2=0)))=false:=by
    by_cases h5:k<5
    ·rw[dT_ (show (k:Int)<5 by omega),dF_ (fun hh=>by have:=hX.1 hh;omega)]
     rfl
    ·rw[dF_ (show ¬ (k:Int)<5 by omega),dT_ (hX.2 (by omega))]
     rfl
   rw[hbb,aK]
   refine s69.call (i:=2) rfl (jP tb (TT (k+1))) fun F4 h4 kk4=>?_
   refine ad7.use (hT.mono s69.ro) h4 g (by omega) (W.turn k (by omega)) fun F5 G76 h5 c5=>?_
   have s76:=kk4 F5 G76 h5 c5
   rw[dx,aa,Bool.not_true,aK,bg,i64_in (by omega) (by omega),aa]
   exact ih (k+1) G76 (by omega) s76
  | zero=>
   intro k G52 hk s52
   have e8:k=8:=by omega
   subst e8
   have g:=W.lK 8 (by omega)
   have live:=W.live 8 (by omega)
   obtain⟨z1,z2,z3,z4⟩:=W.late 8 (by omega) (by omega)
   have one:=fun v=>aek (v:=v) live z1 z2 z3 z4 huk hui
   obtain⟨t8,ht8⟩:∃ t,t=TT 8:=⟨_,rfl⟩
   rw[<- ht8]at s52 g live z1 z2 z3 z4 one
   refine hR _ _ _ _ _ _ _ _ ?_
   rw[aM,aa,dF_ (by decide),aK]
   refine settle g s52 ld5 lo cL fun G87 s87=>?_
   have x1:=one ⟨2,0,0,oth,[]⟩
   have o1:=rok (f:=t8.f true) (id:=0) (hs:=oth) cL lo
   generalize j4 (t8.f true) ⟨2,0,0,oth,[]⟩=X1 at x1 o1
   refine ae (tr0 _) ?_
   refine ae (tr1 _) ?_
   refine Rc.nw s87 o1 bw.nil fun i90 G92 s92=>?_
   have s92:=s92.erase 0
   refine settle g s92 ld3 lp i641 fun G101 s101=>?_
   have x2:=one ⟨2,1,0,pre,[]⟩
   have o2:=rok (f:=t8.f true) (id:=1) (hs:=pre) i641 lp
   generalize j4 (t8.f true) ⟨2,1,0,pre,[]⟩=X2 at x2 o2
   have x2:X2.2=120:=by
    rw[x2,if_neg (by rintro⟨hh,_⟩;cases hh)]
   refine ae (tr0 _) ?_
   refine ae (tr1 _) ?_
   refine Rc.nw s101 o2 bw.nil fun i104 G106 s106=>?_
   have s106:=s106.erase 0
   refine refuse g s106 hnl fun G114 s114=>?_
   have x3:=one ⟨3,0,0,h0,note⟩
   have o3:=rok3 (f:=t8.f true) (x:=note) hnl
   generalize j4 (t8.f true) ⟨3,0,0,h0,note⟩=X3 at x3 o3
   refine ae (tr0 _) ?_
   refine ae (tr1 _) ?_
   refine Rc.nw s114 o3 bw.nil fun i117 G119 s119=>?_
   have s119:Sp [] G (stL i41 i27 tb i5 i3 i1 (pe u) h oth pre d t8) G119:=s119.erase 0
   intro J180
   have hv2:(⟨2,0,0,pre,[]⟩:aL).ok:=⟨iu 2 (by decide) (by decide),cL,cL,lp,by simp⟩
   have lK:∀ G133,Sp [] G (stL i41 i27 tb i5 i3 i1 (pe u) h oth pre d t8) G133->J180 (.bool false) G133:=by
    intro G133 s133
    simp -zeta only [J180,aK]
    refine settle g s133 ld3 lp cL fun G143 s143=>?_
    have x4:=one ⟨2,0,0,pre,[]⟩
    rw[if_pos ⟨rfl,fun _=>by rw[huh];exact hh.symm,by simp⟩]at x4
    have hop2:({ jj.zero with kind:=2,hash:=pre }:jj).ok:=⟨iu 2 (by decide) (by decide),cL,cL,lp,by simp[jj.zero],cL⟩
    obtain⟨c1,c2⟩:=call2 (t8.f true) pre
    have I:=g.k.f true
    obtain⟨e,hs,ha⟩:=I.y9 hv2 (Gr _ _) (by show (2:Int)≠1;decide) x4
    have g9:=aeh g hop2 (s:=true) (by rw[c1];exact x4)
    rw[c1,c2,e]at g9
    rw[e]
    have g9:Good (uD t8 true (pe ⟨2,0,0,pre,[]⟩) (q6 (t8.f true) ⟨2,0,0,pre,[]⟩)):=g9
    have ro:=iR hv2
    obtain⟨u2,hu2⟩:∃ x,x=(⟨2,0,0,pre,[]⟩:aL):=⟨_,rfl⟩
    rw[<- hu2]at g9 hs ha ro ⊢
    have k2:u2.kind=2:=by rw[hu2]
    have id2:u2.id=0:=by rw[hu2]
    refine ae (tr0 _) ?_
    refine ae (tr1 _) ?_
    refine Rc.st (i:=0) s143 rfl hro bw.nil ro bw.nil fun G146 s146=>?_
    have s146:Sp [] G (stL i41 i27 tb i5 i3 i1 (pe u2) h oth pre d t8) G146:=s146
    intro J179
    rw[cD,aa,dC]
    refine⟨fun hne=>absurd rfl hne,fun _=>?_⟩
    refine ae (Rc.ld (au.own (i:=0) s146 rfl) ro bw.nil) ?_
    obtain⟨t9,ht9⟩:∃ t,t=uD t8 true (pe u2) (q6 (t8.f true) u2):=⟨_,rfl⟩
    have ef9:t9.f true=q6 (t8.f true) u2:=by rw[ht9];rfl
    refine s146.call (i:=2) rfl (jP tb t9) fun ad0 h6 kk6=>?_
    refine aar.use (s:=true) (lu:=[]) h6 g.k (by omega) ro bw.nil (.inr ⟨rfl,rfl⟩) (fun u hu=>by cases hu) (by simp) ha hs fun ad1 G150 h7 c7=>?_
    rw[<- ht9]at h7 g9
    have s150:Sp [] G (stL i41 i27 tb i5 i3 i1 (pe u2) h oth pre d t9) G150:=kk6 ad1 G150 h7 c7
    rw[dx,aa,Bool.not_true]
    simp -zeta only [J179,aK]
    have o9:(t9.f true).o=[u2]:=by rw[ef9];show (t8.f true).o++[u2]=[u2];rw[z3];rfl
    have adI:uO (t9.f true).s=false:=by rw[ef9];exact live
    refine settle g9 s150 ld3 lp cL fun G162 s162=>?_
    have y1:=aei (v:=⟨2,0,0,pre,[]⟩) adI o9 k2 (by rw[id2])
    generalize j4 (t9.f true) ⟨2,0,0,pre,[]⟩=X5 at y1
    refine ae (tr0 _) ?_
    refine ae (tr1 _) ?_
    refine refuse g9 s162 (x:=[]) (by simp) fun G172 s172=>?_
    have y2:=aei (v:=⟨3,0,0,h0,[]⟩) adI o9 k2 (by rw[id2])
    generalize j4 (t9.f true) ⟨3,0,0,h0,[]⟩=X6 at y2
    refine ae (tr0 _) ?_
    refine ae (tr1 _) ?_
    rw[bB,aa,dT_ y1,aN,bB,aa,dT_ y2]
   rw[cD,aa,dC]
   refine⟨fun hne=>absurd x2 hne,fun _=>?_⟩
   rw[bB,aa]
   refine ae (aew _ _) ?_
   rw[kQ,aa,Ht lL rfl,aa]
   have hb1:(!(decide (X3.2=0) == decide (((note.length:Nat):Int)≤64)))=false:=by
    by_cases h64:note.length≤64
    ·rw[if_pos ⟨rfl,fun hh=>(by cases hh),h64⟩]at x3
     rw[dT_ x3,dT_ (by omega)]
     rfl
    ·rw[if_neg (fun hh=>h64 hh.2.2)]at x3
     rw[dF_ (by rw[x3];decide),dF_ (by omega)]
     rfl
   rw[hb1,aK,bB,aa]
   have hsl:dV T ar (.ptr i5 [] 0) none none none=some (.slice i5 [] 0 0 32 32):=by simp[dV,bZ,dQ,cW,j8,lH]
   refine ae hsl ?_
   have hxs:ff 1 G119 (.slice i5 [] 0 0 32 32) (oth.map u8v):=qR (au.own (i:=3) s119 rfl) lo
   refine ae (km (si:=fJ) (ie:=gi) (di:=iO) eC rfl cW rfl fS rfl hxs) ?_
   refine ae (bM lh (au.own (i:=1) s119 rfl)) ?_
   refine dJ.use (by omega) fun G130 c130=>?_
   have s130:=s119.tmp c130
   refine⟨⟨bM lh (au.own (i:=1) s130 rfl),trivial⟩,?_⟩
   rw[Ev (je _) lh,aa,Ht lL rfl,aa]
   have hb2:(!(decide (X1.2=0) == decide (sha oth=h)))=false:=by
    by_cases he:sha oth=h
    ·rw[if_pos ⟨rfl,fun _=>by rw[huh];exact he,by simp⟩]at x1
     rw[dT_ x1,dT_ he]
     rfl
    ·rw[if_neg (fun hh=>he (by rw[<- huh];exact hh.2.1 rfl))]at x1
     rw[dF_ (by rw[x1];decide),dF_ he]
     rfl
   rw[hb2]
   exact lK G130 s130
 exact loop 8 0 G47 rfl s47
end Go.Esc.M
