import Derived.Test.YtkojimdacnohpaaGreatDoorLPa
import Derived.Test.YtkojimdacnohpaaGreatDoorLSf
import Derived.Test.YtkojimdacnohpaaGreatDoorLFt
import Derived.Test.YtkojimdacnohpaaGreatDoorLFg
import Derived.Test.YtkojimdacnohpaaGreatDoorLRS
import Derived.Test.YtkojimdacnohpaaGreatDoorLDc
import Derived.Test.YtkojimdacnohpaaGreatDoorLMd
import Derived.Test.YtkojimdacnohpaaGreatDoorLVg
set_option maxHeartbeats 2000000
set_option linter.unusedSimpArgs false
set_option linter.unusedVariables false
set_option maxRecDepth 20000
namespace Go.Esc.M
open Go Go.Esc
def u5M:aL:=⟨1,0,5,h0,[]⟩
def g15 (a b:List UInt8):StF:=⟨s15 a b,[u5M],[],[]⟩
section
variable {F0:List AId}{G0 G:ak}{ps:List LP}{Q:ah->ak->Prop}
theorem dK.use {c:CfM}(hc:c.ok) (hQ:∀ G',Ch [] G [] G'->Q (.tuple [(mm c).1.av .nilSlice .nilSlice .nilSlice,.int .i64 (mm c).2]) G'):al P dK.n [c.av] G Q:=by
 refine dK.sound ?_
 unfold dK.S
 rw[EV]
 have hok:=pN hc
 intro i1 f1
 have s1:=(Sp.nil G).row f1 c.av
 intro i3 f3
 have s3:=s1.row f3 (StM.zero.av .nilSlice .nilSlice .nilSlice)
 revert s3
 generalize ak.upd _ i3 _=G4
 intro s3
 have hg:=au.own (i:=1) s3 rfl
 intro J35
 have bad:nF c->J35 (.bool true) G4:=by
  intro hb
  unfold mm at hQ
  rw[if_pos hb]at hQ
  simp -zeta only [J35,aN]
  refine ae (v:=StM.zero.av .nilSlice .nilSlice .nilSlice) rfl ?_
  refine St.st (i:=0) s3 rfl StM.bq lv0 StM.bq lv0 fun G23 s23=>?_
  refine ae (St.ld (au.own (i:=0) s23 rfl) StM.bq lv0) ?_
  exact hQ _ s23.ch
 have lK:¬ nF c->J35 (.bool false) G4:=by
  intro hb
  have h2:right c.cap=true:=by
   have h1:¬ right c.cap=false:=fun hh=>hb (.inr (.inr (.inr (.inl hh))))
   simpa using h1
  have h3:=lZ.1 h2
  have h4:¬ c.ours<0:=fun hh=>hb (.inr (.inr (.inr (.inr (.inl hh)))))
  have h5:¬ c.cap<c.ours:=fun hh=>hb (.inr (.inr (.inr (.inr (.inr hh)))))
  unfold mm at hQ hok
  rw[if_neg hb]at hQ hok
  simp -zeta only [J35,aK]
  refine ae (Cf.lJ hg hc) ?_
  refine ae (Cf.mL hg hc) ?_
  refine ae (Cf.dM hg hc) ?_
  refine ae (Cf.mL hg hc) ?_
  refine ae (Cf.dM hg hc) ?_
  rw[b7,i64_in (by omega) (by omega),aa]
  refine ae (Cf.Am hg hc) ?_
  refine ae (yB hc.ptsA hc.ptsB) ?_
  refine St.st (i:=0) s3 rfl StM.bq lv0 hok lv0 fun G33 s33=>?_
  refine ae (St.ld (au.own (i:=0) s33 rfl) hok lv0) ?_
  exact hQ _ s33.ch
 refine ae (Cf.lJ hg hc) ?_
 rw[aM,aa,aI]
 refine⟨fun h=>bad (.inl h),fun h1=>?_⟩
 refine ae (Cf.lJ hg hc) ?_
 rw[da,aa,aI]
 refine⟨fun h=>bad (.inr (.inl h)),fun h2=>?_⟩
 refine ae (Cf.mL hg hc) ?_
 rw[aM,aa,aI]
 refine⟨fun h=>bad (.inr (.inr (.inl h))),fun h3=>?_⟩
 refine ae (Cf.mL hg hc) ?_
 rw[da,aa,aI]
 have hr:right c.cap=decide (c.cap≤1152921504606846976):=by
  cases hh:right c.cap with
  | true=>rw[dT_ (lZ.1 hh).2]
  | false=>
   by_cases h:c.cap≤1152921504606846976
   ·rw[lZ.2 ⟨by omega,h⟩]at hh;cases hh
   ·rw[dF_ h]
 refine⟨fun h=>bad (.inr (.inr (.inr (.inl (by rw[hr,dF_ (by omega)]))))),fun h4=>?_⟩
 have h4:right c.cap=true:=by rw[hr,dT_ (by omega)]
 refine ae (Cf.dM hg hc) ?_
 rw[aM,aa,aI]
 refine⟨fun h=>bad (.inr (.inr (.inr (.inr (.inl h))))),fun h5=>?_⟩
 refine ae (Cf.dM hg hc) ?_
 refine ae (Cf.mL hg hc) ?_
 rw[da,aa]
 by_cases h6:c.cap<c.ours
 ·rw[dT_ h6]
  exact bad (.inr (.inr (.inr (.inr (.inr h6)))))
 ·rw[dF_ h6]
  exact lK (by rintro (h | h | h | h | h | h);exact h1 h;exact h2 h;exact h3 h;(rw[h4]at h;cases h);exact h5 h;exact h6 h)
theorem bV.use {v w:ah}{a b:List aL}(ha:ff 36 G v (a.map aL.av)) (hb:ff 36 G w (b.map aL.av)) (oa:∀ m∈a,m.ok) (ob:∀ m∈b,m.ok) (la:a.length≤1000000000) (lb:b.length≤1000000000)
  (hQ:Q (.bool (decide (a=b))) G):al P bV.n [v,w] G Q:=by
 refine bV.sound ?_
 unfold bV.S
 refine ae (dh ha) ?_
 refine ae (dh hb) ?_
 rw[cD,aa,dC]
 refine⟨fun h1=>?_,fun h1=>?_⟩
 ·rw[dF_ (fun h=>h1 (by rw[h]))]at hQ
  exact hQ
 have hlen:a.length=b.length:=by omega
 intro R hR
 have loop:∀ (n j:Nat),a.length-j=n->j≤a.length->a.take j=b.take j->R [v,w,.int .i64 (j:Int)] G:=by
  intro n
  induction n with
  | zero=>
   intro j hn hj he
   refine hR _ _ _ _ ?_
   refine ae (dh ha) ?_
   rw[aM,aa,aI]
   refine⟨fun h=>absurd h (by omega),fun _=>?_⟩
   have hjl:j=a.length:=by omega
   rw[hjl,List.take_length,hlen,List.take_length]at he
   rw[dT_ he]at hQ
   exact hQ
  | succ n ih=>
   intro j hn hj he
   obtain⟨x,hx⟩:∃ x,a[j]?=some x:=⟨_,List.getElem?_eq_getElem (by omega)⟩
   obtain⟨y,hy⟩:∃ y,b[j]?=some y:=⟨_,List.getElem?_eq_getElem (by omega)⟩
   refine hR _ _ _ _ ?_
   refine ae (dh ha) ?_
   rw[aM,aa,aI]
   refine⟨fun _=>?_,fun h=>absurd (by omega) h⟩
   obtain⟨p,p1,p2⟩:=nD ha hx
   obtain⟨q,q1,q2⟩:=nD hb hy
   refine ae p1 ?_
   refine ae p2 ?_
   refine ae q1 ?_
   refine ae q2 ?_
   rw[Hs (oa x (List.mem_of_getElem? hx)) (ob y (List.mem_of_getElem? hy)),aa,dC]
   refine⟨fun h2=>?_,fun h2=>?_⟩
   ·rw[dF_ (fun h=>h2 (by rw[h,hy]at hx;exact (Option.some.inj hx).symm))]at hQ
    exact hQ
   ·rw[bg,i64_in (by omega) (by omega),aa]
    refine ih (j+1) (by omega) (by omega) ?_
    rw[List.take_add_one,List.take_add_one,he,hx,hy,h2]
 exact loop a.length 0 rfl (by omega) rfl
end
end Go.Esc.M
namespace Go.Esc.M
open Go Go.Esc
def oL (l:List aL) (id k:Int):Bool:=l.any fun u=>decide (u.id=id) && (!decide (u.kind=1) && (decide (k=0) || decide (u.kind=k)))
def o7 (l others:List aL):Prop:=∀ (j:Nat) (u:aL),l[j]?=some u->kJ (l.take j) others u=0
def Bx (l:List aL):Prop:=∀ (i j:Nat) (u w:aL),l[i]?=some u->l[j]?=some w->u.kind≠1->w.kind≠1->u.id=w.id->i=j
theorem yu {rm:Bool}{id:Int}{X Y:List aL}(h:(ey rm id X).isSome=true):ey rm id (X++Y)=ey rm id X:=by
 unfold ey at h ⊢
 rw[List.find?_append]
 cases hx:List.find? (uE rm id) X with
 | none=>rw[hx]at h;cases h
 | some a=>rfl
theorem vn {A X Y:List aL}{u:aL}(h:kJ A X u=0):kJ A (X++Y) u=0:=by
 unfold kJ at h ⊢
 split at h
 ·cases h
 rename_i h1
 rw[if_neg h1]
 split at h
 ·cases h
 rename_i h2
 rw[if_neg h2]
 split at h
 ·rename_i h3
  rw[if_pos h3]
  exact h
 rename_i h3
 rw[if_neg h3]
 split at h
 ·cases h
 rename_i h4
 have h4':(ey false u.id X).isSome=true:=(Bool.not_eq_false _).mp h4
 rw[yu h4',if_neg h4]
 exact h
theorem FH {l X Y:List aL}(h:o7 l X):o7 l (X++Y):=fun j u hj=>vn (h j u hj)
theorem aaX {l X:List aL}(h:o7 l X) (n:Nat):o7 (l.take n) X:=by
 intro j u hj
 have hl:j<n:=by
  have:=(List.getElem?_eq_some_iff.1 hj).1
  rw[List.length_take]at this
  omega
 rw[List.getElem?_take_of_lt hl]at hj
 rw[List.take_take,Nat.min_eq_left (by omega)]
 exact h j u hj
theorem B8 {l m:List aL}{a b:Nat}(h:o7 l (m.take a)) (hab:a≤b):o7 l (m.take b):=by
 rw[<- rV hab]
 exact FH h
theorem At {l X:List aL}{u:aL}(h:o7 l X) (hu:kJ l X u=0):o7 (l++[u]) X:=by
 intro j w hj
 by_cases hl:j<l.length
 ·rw[List.getElem?_append_left hl]at hj
  rw[List.take_append_of_le_length (by omega)]
  exact h j w hj
 ·have hb:=(List.getElem?_eq_some_iff.1 hj).1
  rw[List.length_append,List.length_singleton]at hb
  have e:j=l.length:=by omega
  subst e
  rw[List.getElem?_append_right (by omega)]at hj
  simp at hj
  subst hj
  rw[List.take_append_of_le_length (Nat.le_refl _),List.take_length]
  exact hu
section
variable {l X:List aL} (h:o7 l X)
include h
theorem tD:∀ u∈l,dp u=true:=by
 intro u hu
 obtain⟨j,hj⟩:=List.getElem?_of_mem hu
 exact (nG (h j u hj)).1
theorem B7:l.length≤2048:=by
 refine Classical.byContradiction fun hn=>?_
 obtain⟨u,hu⟩:∃ u,l[2048]?=some u:=⟨_,List.getElem?_eq_getElem (by omega)⟩
 have:=h 2048 u hu
 unfold kJ at this
 rw[if_pos (by rw[List.length_take];omega)]at this
 cases this
theorem ui:rA l:=by
 intro j u hj hk
 exact (nG (h j u hj)).2.1 hk
theorem Au:∀ u∈l,u.kind≠1->∃ w∈X,w.kind=1/\w.id=u.id:=by
 intro u hu hk
 obtain⟨j,hj⟩:=List.getElem?_of_mem hu
 obtain⟨b,_,h2,h3,h4⟩:=sv ((nG (h j u hj)).2.2 hk).1
 exact⟨b,h2,h3,h4⟩
theorem sr:Bx l:=by
 have key:∀ {i j:Nat}{u w:aL},l[i]?=some u->l[j]?=some w->u.kind≠1->w.kind≠1->u.id=w.id->i<j->False:=by
  intro i j u w hi hj hu hw he hlt
  have h1:=((nG (h j w hj)).2.2 hw).2.1
  have hv:∀ a∈l.take j,dp a=true:=fun a ha=>tD h a (List.mem_of_mem_take ha)
  refine AB hv h1 u ?_ hu he
  refine List.mem_of_getElem? (i:=i) ?_
  rw[List.getElem?_take_of_lt hlt]
  exact hi
 intro i j u w hi hj hu hw he
 rcases Nat.lt_trichotomy i j with h1|h1|h1
 ·exact (key hi hj hu hw he h1).elim
 ·exact h1
 ·exact (key hj hi hw hu he.symm h1).elim
end
theorem tO {l:List aL}(h:Bx l) (n:Nat):Bx (l.take n):=by
 intro i j u w hi hj
 have li:=(List.getElem?_eq_some_iff.1 hi).1
 have lj:=(List.getElem?_eq_some_iff.1 hj).1
 rw[List.length_take]at li lj
 rw[List.getElem?_take_of_lt (by omega)]at hi hj
 exact h i j u w hi hj
theorem tX {id:Int}:∀ {l:List aL},jH id l≠0->∃ u∈l,u.kind≠1/\u.id=id/\u.kind=jH id l
 | [],h=>absurd rfl h
 | u::l,h=>by
  by_cases hr:m8 id u=true
  ·have e:jH id (u::l)=u.kind:=if_pos hr
   simp only[m8,Bool.and_eq_true,decide_eq_true_eq]at hr
   exact⟨u,by simp,hr.1,hr.2.1,e.symm⟩
  ·have e:jH id (u::l)=jH id l:=if_neg hr
   rw[e]at h ⊢
   obtain⟨w,h1,h2⟩:=tX h
   exact⟨w,by simp[h1],h2⟩
theorem GF {id:Int}{l:List aL}(hv:∀ u∈l,dp u=true) {u:aL}(hu:u∈l) (hk:u.kind≠1) (hi:u.id=id):jH id l≠0:=by
 induction l with
 | nil=>cases hu
 | cons w l ih=>
  by_cases hr:m8 id w=true
  ·have e:jH id (w::l)=w.kind:=if_pos hr
   rw[e];exact sn hr
  ·have e:jH id (w::l)=jH id l:=if_neg hr
   rw[e]
   rcases List.mem_cons.1 hu with rfl|hu
   ·exact absurd (by simp[m8,hk,hi,hv u (by simp)]) hr
   ·exact ih (fun x hx=>hv x (by simp[hx])) hu
theorem tW {l:List aL}{id k:Int}:oL l id k=true ↔ ∃ u∈l,u.id=id/\u.kind≠1/\(k=0\/u.kind=k):=by
 unfold oL
 rw[List.any_eq_true]
 simp only[Bool.and_eq_true,Bool.or_eq_true,decide_eq_true_eq,Bool.not_eq_true',decide_eq_false_iff_not]
theorem K5 {l:List aL}(hv:∀ u∈l,dp u=true) (hu:Bx l) (id:Int) {k:Int}(hk:k≠0):oL l id k=decide (jH id l=k):=by
 by_cases h:jH id l=k
 ·rw[dT_ h]
  obtain⟨u,h1,h2,h3,h4⟩:=tX (id:=id) (l:=l) (by rw[h];exact hk)
  exact tW.2 ⟨u,h1,h3,h2,.inr (h4.trans h)⟩
 ·rw[dF_ h,Bool.eq_false_iff]
  intro hr
  obtain⟨u,h1,h2,h3,h4⟩:=tW.1 hr
  have h5:u.kind=k:=h4.resolve_left hk
  obtain⟨w,k1,k2,k3,k4⟩:=tX (GF hv h1 h3 h2)
  obtain⟨i,hi⟩:=List.getElem?_of_mem h1
  obtain⟨j,hj⟩:=List.getElem?_of_mem k1
  have:=hu i j u w hi hj h3 k2 (h2.trans k3.symm)
  subst this
  rw[hi]at hj
  injection hj with hj
  subst hj
  exact h (k4.symm.trans h5)
def CN (r:List aL) (u:aL):Bool:=decide (u.kind=1) && !oL r u.id 3
def GH (r:List aL) (u:aL):Bool:=decide (u.kind=1) && oL r u.id 2
theorem GC {r:List aL}(hv:∀ u∈r,dp u=true) (hu:Bx r):CN r=stays r:=by
 funext u
 unfold CN stays
 rw[K5 hv hu _ (by decide)]
theorem Ja {r:List aL}(hv:∀ u∈r,dp u=true) (hu:Bx r):GH r=kD r:=by
 funext u
 unfold GH kD
 rw[K5 hv hu _ (by decide)]
def tl (base:Int) (own other:List aL) (fo fp:Int):Int:=base-gG (CN (cw other fp)) own+gG (GH (cw own fo)) other
structure iY (f:StF):Prop where
 ok:f.s.ok
 oko:∀ u∈f.o,u.ok
 okp:∀ u∈f.p,u.ok
 okh:∀ x∈f.h,x.ok
 lh:f.h.length≤49
 a0:0≤f.s.atA
 a1:f.s.atA≤f.s.heldA
 a2:f.s.heldA≤f.s.sgnA
 a3:f.s.sgnA≤f.o.length
 b0:0≤f.s.heldB
 b1:f.s.heldB≤f.s.sgnB
 b2:f.s.sgnB≤f.s.atB
 b3:f.s.atB≤f.p.length
 go:o7 f.o (f.p.take f.s.heldB.toNat)
 gp:o7 f.p (f.o.take f.s.atA.toNat)
 so:0≤SB f.s.bo f.o f.p f.s.atA.toNat f.s.heldB.toNat
 sp:0≤SB f.s.bp f.p f.o f.s.heldB.toNat f.s.atA.toNat
 no:kX f.o f.p f.s.heldB≤483
 np:kX f.p f.o f.s.atA≤483
 bo:0≤f.s.bo
 bp:0≤f.s.bp
 cap:f.s.bo+f.s.bp=f.s.cap
 capm:f.s.cap≤1152921504606846976
 side:f.s.side=0\/f.s.side=1
 loc0:0≤f.s.loc
 loc1:f.s.loc≤281474976710654
 ack0:0≤f.s.ack
 rem:f.s.rem=f.s.ack\/f.s.rem=f.s.ack+1
 rem1:f.s.rem≤281474976710654
section
variable {f:StF} (I:iY f)
include I
theorem iY.fA:mM f.s=f.s.atA:=by unfold mM;have:=I.a1;split<;>omega
theorem iY.fB:mD f.s=f.s.heldB:=by unfold mD;have:=I.b1;have:=I.b2;split<;>omega
theorem iY.vo:∀ u∈f.o,dp u=true:=tD I.go
theorem iY.vp:∀ u∈f.p,dp u=true:=tD I.gp
theorem iY.lo:f.o.length≤2048:=B7 I.go
theorem iY.lp:f.p.length≤2048:=B7 I.gp
theorem iY.book:oX f.s.bo f.s.bp f.o f.p f.s.atA.toNat f.s.heldB.toNat:=
 ⟨I.oko,I.okp,I.vo,I.vp,by have:=I.a1;have:=I.a2;have:=I.a3;have:=I.a0;omega,by have:=I.b0;have:=I.b1;have:=I.b2;have:=I.b3;omega,I.lo,I.lp,ui I.go,ui I.gp,Au I.go,Au I.gp,I.so,I.sp,I.bo,I.bp,by have:=I.cap;have:=I.capm;omega⟩
theorem iY.xl:tj f=SB f.s.bo f.o f.p f.s.atA.toNat f.s.heldB.toNat/\tl f.s.bo f.o f.p (mM f.s) (mD f.s)=SB f.s.bo f.o f.p f.s.atA.toNat f.s.heldB.toNat:=by
 have hb:=I.book
 have h1:=Hm hb
 have hA:((f.s.atA.toNat:Nat):Int)=f.s.atA:=Int.toNat_of_nonneg I.a0
 have hB:((f.s.heldB.toNat:Nat):Int)=f.s.heldB:=Int.toNat_of_nonneg I.b0
 refine⟨?_,?_⟩
 ·unfold tj
  rw[I.fA,I.fB]
  have:=DW (base:=f.s.bo) (mine:=f.o) (others:=f.p) (fm:=f.s.atA.toNat) (fo:=f.s.heldB.toNat) I.vo I.vp I.bo (by have:=I.cap;have:=I.capm;have:=I.bp;omega)
  rw[hA,hB]at this
  rw[this]
  have h0:=I.so
  have:=I.cap;have:=I.capm
  unfold AJ
  split
  ·omega
  ·split<;>omega
 ·unfold tl SB cw
  rw[I.fA,I.fB,GC (fun u hu=>I.vp u (List.mem_of_mem_take hu)) (tO (sr I.gp) _),Ja (fun u hu=>I.vo u (List.mem_of_mem_take hu)) (tO (sr I.go) _)]
theorem iY.xk:th f=SB f.s.bp f.p f.o f.s.heldB.toNat f.s.atA.toNat/\tl f.s.bp f.p f.o (mD f.s) (mM f.s)=SB f.s.bp f.p f.o f.s.heldB.toNat f.s.atA.toNat:=by
 have hb:=I.book.swap
 have h1:=Hm hb
 have hA:((f.s.atA.toNat:Nat):Int)=f.s.atA:=Int.toNat_of_nonneg I.a0
 have hB:((f.s.heldB.toNat:Nat):Int)=f.s.heldB:=Int.toNat_of_nonneg I.b0
 refine⟨?_,?_⟩
 ·unfold th
  rw[I.fA,I.fB]
  have:=DW (base:=f.s.bp) (mine:=f.p) (others:=f.o) (fm:=f.s.heldB.toNat) (fo:=f.s.atA.toNat) I.vp I.vo I.bp (by have:=I.cap;have:=I.capm;have:=I.bo;omega)
  rw[hA,hB]at this
  rw[this]
  have h0:=I.sp
  have:=I.cap;have:=I.capm
  unfold AJ
  split
  ·omega
  ·split<;>omega
 ·unfold tl SB cw
  rw[I.fA,I.fB,GC (fun u hu=>I.vo u (List.mem_of_mem_take hu)) (tO (sr I.go) _),Ja (fun u hu=>I.vp u (List.mem_of_mem_take hu)) (tO (sr I.gp) _)]
end
end Go.Esc.M
namespace Go.Esc.M
open Go Go.Esc
section
variable {F0:List AId}{G0 G:ak}{ps:List LP}{Q:ah->ak->Prop}
theorem bQ.use {v:ah}{l:List aL}{n:Int}(hl:hJ 36 G v (l.map aL.av)) (hlen:l.length≤1048576) (hQ:∀ w,hJ 36 G w ((cw l n).map aL.av)->Q w G):al P bQ.n [v,.int .i64 n] G Q:=by
 refine bQ.sound ?_
 unfold bQ.S
 have tk:∀ m:Nat,m≤l.length->l.take m=cw l n->∃ w,dV T aj v none (some (.int .i64 (m:Int))) none=some w/\hJ 36 G w ((cw l n).map aL.av):=by
  intro m hm he
  obtain⟨w,e1,e2⟩:=hJ.take (ie:=cG) (k:=.i64) (m:=m) bT rfl dE hl rfl (by rw[List.length_map];exact hm)
  refine⟨w,e1,?_⟩
  rw[<- he,List.map_take]
  exact e2
 unfold cw at tk hQ
 rw[aM,aa,aI]
 refine⟨fun h0=>?_,fun h0=>?_⟩
 ·refine ae (dh hl.gZ) ?_
  rw[da,aa,dF_ (by omega),aK]
  obtain⟨w,e1,e2⟩:=tk 0 (by omega) (by rw[show n.toNat=0 by omega])
  refine ae e1 ?_
  exact hQ w e2
 ·refine ae (dh hl.gZ) ?_
  rw[da,aa,aI]
  refine⟨fun h1=>?_,fun h1=>?_⟩
  ·refine ae (dh hl.gZ) ?_
   obtain⟨w,e1,e2⟩:=tk l.length (Nat.le_refl _) (by rw[List.take_length,List.take_of_length_le (by omega)])
   refine ae e1 ?_
   exact hQ w e2
  ·obtain⟨w,e1,e2⟩:=tk n.toNat (by omega) rfl
   rw[Int.toNat_of_nonneg (by omega)]at e1
   refine ae e1 ?_
   exact hQ w e2
end
end Go.Esc.M
namespace Go.Esc.M
open Go Go.Esc
end Go.Esc.M
namespace Go.Esc.M
open Go Go.Esc
section
variable {F0:List AId}{G0 G:ak}{ps:List LP}{Q:ah->ak->Prop}
theorem fL.use {f:StF}{vo vp vh:ah}(hS:ka G f vo vp vh) (hQ:∀ wo wp wh G',Sp [] G [bm 34 wh (f.h.map b6.av),bm 36 wp ((cw f.p f.s.atB).map aL.av),bm 36 wo (f.o.map aL.av)] G'->Q (f.s.av wo wp wh) G'):al P fL.n [f.s.av vo vp vh] G Q:=by
 have ho:=hS.ok
 have hl:=hS.lv
 have hlp:=hS.lp
 have hlo:=hS.lo
 have hlh:=hS.lh
 refine fL.sound ?_
 unfold fL.S
 rw[EV]
 intro i1 f1
 have s1:=(Sp.nil G).row f1 (f.s.av vo vp vh)
 intro i3 f3
 have s3:=s1.row f3 (StM.zero.av .nilSlice .nilSlice .nilSlice)
 revert s3
 generalize ak.upd _ i3 _=G4
 intro s3
 have grow:∀ {ps:List LP}{G1:ak}{x:ah}{l:List aL}{K:ah->ak->Prop},Sp [] G ps G1->ff 36 G1 x (l.map aL.av)->(∀ u∈l,u.ok)->l.length≤1048576->(∀ w G2,Sp [] G (bm 36 w (l.map aL.av)::ps) G2->K w G2)->cn T G1 aj aj .nilSlice x K:=by
  intro ps G1 x l K s hx hok hlen hK
  refine uN (T:=T) (ts:=aj) (e:=aG) (si:=dL) (ie:=cG) (tx:=aj) (xi:=dL) (i:=0) (vs:=[]) (xs:=l.map aL.av) bT rfl dE rfl (by decide) bT (.inr ⟨_,rfl⟩) (s.nz 36) rfl hx.elems (nW hok).1 (nW hok).2 (by rw[show cG.bytes=72 from rfl,List.length_map];simp;omega) fun w G5 s5=>?_
  exact hK w G5 s5
 refine ae (St.dM (au.own (i:=1) s3 rfl) ho hl) ?_
 refine grow s3 (hS.o.gZ.ch' s3.ch) hS.oko hS.lo fun wo G7 s7=>?_
 have lo:bw wo:=(bm.own (i:=0) s7 rfl).leaf
 refine St.tT (i:=2) s7 rfl ho hl lo fun G8 s8=>?_
 have l8:bw wo/\bw vp/\bw vh:=⟨lo,hl.2.1,hl.2.2⟩
 refine ae (St.eH (au.own (i:=2) s8 rfl) ho l8) ?_
 refine ae (St.od (au.own (i:=2) s8 rfl) ho l8) ?_
 refine bQ.use (hS.p.mv s8.ch) hS.lp fun w hw=>?_
 have hfl:=jU f.p f.s.atB
 refine grow s8 hw.gZ (mu hS.okp) (by omega) fun wp G14 s14=>?_
 have lp:bw wp:=(bm.own (i:=0) s14 rfl).leaf
 refine St.tg (i:=3) s14 rfl ho l8 lp fun G15 s15=>?_
 have l15:bw wo/\bw wp/\bw vh:=⟨lo,lp,hl.2.2⟩
 refine ae (St.l6 (au.own (i:=3) s15 rfl) ho l15) ?_
 refine uN (T:=T) (ts:=aV) (e:=cz) (si:=jr) (ie:=kv) (tx:=aV) (xi:=jr) (i:=0) (vs:=[]) (xs:=f.h.map b6.av) gz rfl jN rfl (by decide) gz (.inr ⟨_,rfl⟩) (s15.nz 34) rfl (hS.h.gZ.ch' s15.ch).elems (wV hS.okh) (sa f.h) (by rw[show kv.bytes=48 from rfl,List.length_map];simp;omega) fun wh G18 s18=>?_
 have lh:bw wh:=(bm.own (i:=0) s18 rfl).leaf
 refine St.vO (i:=4) s18 rfl ho l15 lh fun G19 s19=>?_
 refine ae (St.ld (au.own (i:=4) s19 rfl) ho ⟨lo,lp,lh⟩) ?_
 refine St.st (i:=3) s19 rfl StM.bq lv0 ho ⟨lo,lp,lh⟩ fun G21 s21=>?_
 refine ae (St.ld (au.own (i:=3) s21 rfl) ho ⟨lo,lp,lh⟩) ?_
 exact hQ wo wp wh G21 ((s21.erase 3).erase 3)
end
end Go.Esc.M
namespace Go.Esc.M
open Go Go.Esc
section
variable {F0:List AId}{G0 G:ak}{ps:List LP}{Q:ah->ak->Prop}
end
end Go.Esc.M
