import Derived.Test.YtkojimdacnohpaaGreatDoorLNd
import Derived.Test.YtkojimdacnohpaaGreatDoorLFb
import Derived.Test.YtkojimdacnohpaaGreatDoorLMq
import Derived.Test.YtkojimdacnohpaaGreatDoorLVf
import Derived.Test.YtkojimdacnohpaaGreatDoorLSd
import Derived.Test.YtkojimdacnohpaaGreatDoorLFw
import Derived.Test.YtkojimdacnohpaaGreatDoorLDk
set_option maxHeartbeats 4000000
set_option linter.unusedSimpArgs false
set_option linter.unusedVariables false
set_option maxRecDepth 20000
namespace Go.Esc.M
open Go Go.Esc
def d15:DlM:=⟨1000,700,h0,h0,h0,h0⟩
theorem FO:d15.ok:=⟨iu 1000 (by decide) (by decide),iu 700 (by decide) (by decide),rfl,rfl,rfl,rfl⟩
def c15 (a b:List UInt8):CfM:=⟨0,1000,700,h0,h0,h0,a,b,4096⟩
def s15 (a b:List UInt8):StM:={ StM.zero with side:=0,cap:=1000,bo:=700,bp:=300,ptsA:=a,ptsB:=b,closed:=-1 }
def f15 (a b:List UInt8):StF:=⟨s15 a b,[],[],[]⟩
def h1M:List UInt8:=1::List.replicate 31 0
def u15:aL:=⟨1,0,600,h1M,[]⟩
theorem zy:u15.ok:=⟨iu 1 (by decide) (by decide),cL,iu 600 (by decide) (by decide),rfl,by decide⟩
theorem IP (a b:List UInt8):mm (c15 a b)=(s15 a b,0):=rfl
theorem IL:mm CfM.zero=(StM.zero,1):=rfl
theorem HB (a b:List UInt8):tj (f15 a b)=700:=rfl
theorem HA (a b:List UInt8):th (f15 a b)=300:=rfl
theorem Kv (a b:List UInt8):n8 (f15 a b) 701 h0=noR 130:=rfl
theorem Ku (a b:List UInt8):n8 (f15 a b) 0 h0=noR 80:=rfl
theorem Kt (a b:List UInt8):n8 (f15 a b) 600 h1M=(pe u15,0):=rfl
theorem Kn (a b:List UInt8):p6 (f15 a b)=noR 8:=rfl
theorem KS (a b:List UInt8):mU (c15 a b) (f15 a b) { cr.zero with kind:=4,index:=2 }=noC 90:=rfl
theorem LB (a b:List UInt8):jR (f15 a b) { cr.zero with kind:=5 }=noR 90:=rfl
section
variable {F0:List AId}{G0 G:ak}{ps:List LP}{Q:ah->ak->Prop}
theorem f15_in {a b:List UInt8}(ha:a.length=32) (hb:b.length=32) (G:ak):ka G (f15 a b) .nilSlice .nilSlice .nilSlice:=
 ⟨⟨cL,iu 1000 (by decide) (by decide),iu 700 (by decide) (by decide),iu 300 (by decide) (by decide),cL,cL,cL,cL,cL,cL,cL,cL,cL,ha,hb,rfl,cL,iu (-1) (by decide) (by decide)⟩,hJ.nil,hJ.nil,hJ.nil,by simp[f15],by simp[f15],by simp[f15],by simp[f15],by simp[f15],by simp[f15]⟩
theorem JL {a b:CfM}(ha:a.ok) (hb:b.ok):pz T cJ (nU a b) (.int .i64 0)=some a.av:=by
 have h1:Esc.uni 164 [a.av,b.av]=true:=by simp[Esc.uni,CfM.sz ha,CfM.sz hb]
 have h2:=CfM.fits ha
 simp only[pz,nU,mW,show jO.desc=.array 2 bU from rfl,kp]
 have h3:Esc.uni nt.size [a.av,b.av]=true:=h1
 simp[h2,h3]
theorem LI:({ cr.zero with kind:=4,index:=2 }:cr).ok:=⟨iu 4 (by decide) (by decide),cL,cL,iu 2 (by decide) (by decide),cL,rfl,rfl,by simp[cr.zero]⟩
theorem LH:({ cr.zero with kind:=5 }:cr).ok:=⟨iu 5 (by decide) (by decide),cL,cL,cL,cL,rfl,rfl,by simp[cr.zero]⟩
theorem fy.use (hT:Tab G) (hQ:∀ G',Ch [] G [] G'->Q (.bool true) G'):al P fy.n [] G Q:=by
 refine fy.sound ?_
 unfold fy.S
 refine ae (v:=d15.av) rfl ?_
 refine cQ.use FO fun G3 c3=>?_
 have s3:=(Sp.nil G).tmp c3
 obtain⟨x,hx⟩:∃ z,z=pB h0 0:=⟨_,rfl⟩
 obtain⟨y,hy⟩:∃ z,z=pB h0 1:=⟨_,rfl⟩
 have lx:x.length=32:=by rw[hx];exact mK _ _
 have ly:y.length=32:=by rw[hy];exact mK _ _
 have e0:FW d15=c15 x y:=by rw[hx,hy];rfl
 obtain⟨C1,hC1⟩:∃ C,C=FV d15:=⟨_,rfl⟩
 rw[e0,<- hC1]
 have hc:(c15 x y).ok:=by rw[<- e0];exact Dd FO
 have hS:=f15_in lx ly
 have hso:=(hS G).ok
 refine ae (JL hc (by rw[hC1];exact Dc FO)) ?_
 refine Cf.nw s3 hc fun i5 G7 s7=>?_
 refine ae (Cf.ld (au.own (i:=0) s7 rfl) hc) ?_
 refine iv.use hc fun G10 c10=>?_
 have s10:=s7.tmp c10
 rw[IP]
 refine ae (tv0 _ _) ?_
 refine ae (tv1 _ _) ?_
 refine St.nw s10 hso lv0 fun i13 G15 s15=>?_
 refine ae (v:=CfM.zero.av) rfl ?_
 refine iv.use CfM.bq fun G18 c18=>?_
 have s18:=s15.tmp c18
 rw[IL]
 refine ae (tv0 _ _) ?_
 refine ae (tv1 _ _) ?_
 refine St.nw s18 StM.bq lv0 fun i21 G23 s23=>?_
 have s23:Sp [] G [au i21 (StM.zero.av .nilSlice .nilSlice .nilSlice),au i13 ((f15 x y).s.av .nilSlice .nilSlice .nilSlice),au i5 (c15 x y).av] G23:=s23
 intro J111
 have go:∀ G2,Sp [] G [au i21 (StM.zero.av .nilSlice .nilSlice .nilSlice),au i13 ((f15 x y).s.av .nilSlice .nilSlice .nilSlice),au i5 (c15 x y).av] G2->J111 (.bool false) G2:=by
  intro G40 s40
  simp -zeta only [J111,aK]
  refine ae (St.ld (au.own (i:=1) s40 rfl) hso lv0) ?_
  refine ae (v:=.agg (h0.map u8v)) rfl ?_
  refine gM.use (hS _) oe fun G45 c45=>?_
  have s45:=s40.tmp c45
  rw[Kv]
  refine ae (tr0 _) ?_
  refine ae (tr1 _) ?_
  refine Rc.nw s45 RcM.bq bw.nil fun i48 G50 s50=>?_
  refine ae (St.ld (au.own (i:=2) s50 rfl) hso lv0) ?_
  refine ae (v:=.agg (h0.map u8v)) rfl ?_
  refine gM.use (hS _) oe fun G54 c54=>?_
  have s54:=s50.tmp c54
  rw[Ku]
  refine ae (tr0 _) ?_
  refine ae (tr1 _) ?_
  refine Rc.nw s54 RcM.bq bw.nil fun i57 G59 s59=>?_
  refine ae (St.ld (au.own (i:=3) s59 rfl) hso lv0) ?_
  refine ae (v:=.agg (h1M.map u8v)) rfl ?_
  refine gM.use (hS _) (by rfl) fun G63 c63=>?_
  have s63:=s59.tmp c63
  rw[Kt]
  refine ae (tr0 _) ?_
  refine ae (tr1 _) ?_
  refine Rc.nw s63 (iR zy) bw.nil fun i66 G68 s68=>?_
  refine ae (Cf.ld (au.own (i:=5) s68 rfl) hc) ?_
  refine ae (St.ld (au.own (i:=4) s68 rfl) hso lv0) ?_
  refine jz.use (hS _) fun G72 c72=>?_
  have s72:=s68.tmp c72
  rw[Kn]
  refine ae (tr0 _) ?_
  refine ae (tr1 _) ?_
  refine Rc.nw s72 RcM.bq bw.nil fun i75 G77 s77=>?_
  refine ae (Cf.ld (au.own (i:=6) s77 rfl) hc) ?_
  refine ae (St.ld (au.own (i:=5) s77 rfl) hso lv0) ?_
  refine ae (v:=({ cr.zero with kind:=4,index:=2 }:cr).av) rfl ?_
  refine jB.use (hS _) hc LI fun w G82 t82=>?_
  rw[KS]at t82 ⊢
  have s82:=s77.tmp t82.ch
  have lw:bw w:=(bm.own (i:=0) t82 rfl).leaf
  refine ae (tv0 _ _) ?_
  refine ae (tv1 _ _) ?_
  refine Rc.nw s82 RcM.bq lw fun i85 G87 s87=>?_
  refine ae (St.ld (au.own (i:=6) s87 rfl) hso lv0) ?_
  refine ae (v:=({ cr.zero with kind:=5 }:cr).av) rfl ?_
  refine gL.use (hT.mono s87.ro) (hS _) LH fun G91 c91=>?_
  have s91:=s87.tmp c91
  rw[LB]
  refine ae (tr0 _) ?_
  refine ae (tr1 _) ?_
  refine Rc.nw s91 RcM.bq bw.nil fun i94 G96 s96=>?_
  have e3:∀ n:Int,az T .eql bD (.int .i64 n) (.int .i64 n)=some (.bool true):=fun n=>ez0
  refine ae (e3 130) ?_
  rw[aN]
  refine ae (e3 80) ?_
  rw[aN]
  refine ae (e3 0) ?_
  rw[aN]
  have hg:=au.own (i:=3) s96 rfl
  refine ae (Rc.sj hg (iR zy) bw.nil) ?_
  refine ae (v:=.bool true) rfl ?_
  rw[aN]
  refine ae (Rc.Al hg (iR zy) bw.nil) ?_
  refine ae (v:=.agg (h1M.map u8v)) rfl ?_
  refine ae (v:=u15.av) rfl ?_
  refine ae (v:=.bool true) ?_ ?_
  ·show az T .eql aG u15.av u15.av=_
   rw[Bs zy zy,dT_ rfl]
  rw[aN]
  refine ae (e3 8) ?_
  rw[aN]
  refine ae (e3 90) ?_
  rw[aN]
  refine ae (e3 90) ?_
  exact hQ _ s96.ch
 have ne:∀ {t:TypeId} (n:Int),az T .neq t (.int .i64 n) (.int .i64 n)=some (.bool false):=fun n=>nz0
 refine ae (ne 0) ?_
 rw[aK]
 refine ae (ne 1) ?_
 rw[aK]
 have hg:=au.own (i:=1) s23 rfl
 refine ae (St.uM hg hso lv0) ?_
 refine ae (ne 700) ?_
 rw[aK]
 refine ae (St.tC hg hso lv0) ?_
 refine ae (ne 300) ?_
 rw[aK]
 refine ae (St.rz hg hso lv0) ?_
 refine ae (ne (-1)) ?_
 rw[aK]
 refine ae (St.ld hg hso lv0) ?_
 refine eG.use (hS _) fun G34 c34=>?_
 have s34:=s23.tmp c34
 rw[HB]
 refine ae (ne 700) ?_
 rw[aK]
 refine ae (St.ld (au.own (i:=1) s34 rfl) hso lv0) ?_
 refine cR.use (hS _) fun G38 c38=>?_
 have s38:=s34.tmp c38
 rw[HA]
 refine ae (ne 300) ?_
 exact go _ s38
end
theorem Du {G:ak}{R d:Nat}{v:ah}{m:Nat}(h:wt T G R (d+3) cc v m):∃ a b:List UInt8,v=mT a b/\a.length=32/\b.length=32:=by
 rw[wt]at h
 simp only[mf,show mr.desc=.array 2 ar from rfl]at h
 obtain⟨cs,ms,rfl,hl,hw,_⟩:=h
 match cs,ms,hl,hw with
 | [a,b],[m1,m2],_,⟨h1,h2,_⟩=>
  obtain⟨x,rfl,lx,_⟩:=Cw bZ rfl cW rfl h1
  obtain⟨y,rfl,ly,_⟩:=Cw bZ rfl cW rfl h2
  exact⟨x,y,rfl,lx,ly⟩
end Go.Esc.M
namespace Go.Esc.M
open Go Go.Esc
theorem ve {c:CfM}(hc:c.ok) {n:Int}(hn:I64 n):(qC c n).ok:=by
 unfold qC
 split
 ·exact cr.bq
 ·exact⟨iu 5 (by decide) (by decide),cL,cL,hn,cL,je _,mZ hc.seed n,by simp[cr.zero]⟩
theorem xT {c:CfM}{f:StF}(h:f.s.ok):(tI c f).ok:=by
 unfold tI
 exact⟨iu 4 (by decide) (by decide),cL,cL,h.rem,cL,gU _,rfl,by simp[cr.zero]⟩
section
variable {F0:List AId}{G0 G:ak}{ps:List LP}{Q:ah->ak->Prop}
theorem Kz {u:cr}{K:AId->ak->Prop}(hs:Sp F0 G0 ps G) (hu:u.ok) (hK:∀ i G',Sp F0 G0 (au i u.av::ps) G'->K i G'):br G (.own jF) fun i G2=>wg (aF T G2 aW (.ptr i [] 0) u.av) fun G3=>K i G3:=
 jL hs eQ (cr.fits hu) (by rw[cr.sz hu];rfl) (cr.okv u) hK
end
end Go.Esc.M
namespace Go.Esc.M
open Go Go.Esc
def u5M:aL:=⟨1,0,5,h0,[]⟩
def g15 (a b:List UInt8):StF:=⟨s15 a b,[u5M],[],[]⟩
section
variable {F0:List AId}{G0 G:ak}{ps:List LP}{Q:ah->ak->Prop}
theorem dK.use {c:CfM}(hc:c.ok) (hQ:∀ G',Ch [] G [] G'->Q (.tuple [(mm c).1.av .nilSlice .nilSlice .nilSlice,.int .i64 (mm c).2]) G'):al P dK.n [c.av] G Q:=by
 refine dK.sound ?_
 unfold dK.S
 rw[EV]
 have hok:=pN hc
 intro i1 f1
 have s1:=(Sp.nil G).row f1 c.av
 intro i3 f3
 have s3:=s1.row f3 (StM.zero.av .nilSlice .nilSlice .nilSlice)
 revert s3
 generalize ak.upd _ i3 _=G4
 intro s3
 have hg:=au.own (i:=1) s3 rfl
 intro J35
 have bad:nF c->J35 (.bool true) G4:=by
  intro hb
  unfold mm at hQ
  rw[if_pos hb]at hQ
  simp -zeta only [J35,aN]
  refine ae (v:=StM.zero.av .nilSlice .nilSlice .nilSlice) rfl ?_
  refine St.st (i:=0) s3 rfl StM.bq lv0 StM.bq lv0 fun G23 s23=>?_
  refine ae (St.ld (au.own (i:=0) s23 rfl) StM.bq lv0) ?_
  exact hQ _ s23.ch
 have lK:¬ nF c->J35 (.bool false) G4:=by
  intro hb
  have h2:right c.cap=true:=by
   have h1:¬ right c.cap=false:=fun hh=>hb (.inr (.inr (.inr (.inl hh))))
   simpa using h1
  have h3:=lZ.1 h2
  have h4:¬ c.ours<0:=fun hh=>hb (.inr (.inr (.inr (.inr (.inl hh)))))
  have h5:¬ c.cap<c.ours:=fun hh=>hb (.inr (.inr (.inr (.inr (.inr hh)))))
  unfold mm at hQ hok
  rw[if_neg hb]at hQ hok
  simp -zeta only [J35,aK]
  refine ae (Cf.lJ hg hc) ?_
  refine ae (Cf.mL hg hc) ?_
  refine ae (Cf.dM hg hc) ?_
  refine ae (Cf.mL hg hc) ?_
  refine ae (Cf.dM hg hc) ?_
  rw[b7,i64_in (by omega) (by omega),aa]
  refine ae (Cf.Am hg hc) ?_
  refine ae (yB hc.ptsA hc.ptsB) ?_
  refine St.st (i:=0) s3 rfl StM.bq lv0 hok lv0 fun G33 s33=>?_
  refine ae (St.ld (au.own (i:=0) s33 rfl) hok lv0) ?_
  exact hQ _ s33.ch
 refine ae (Cf.lJ hg hc) ?_
 rw[aM,aa,aI]
 refine⟨fun h=>bad (.inl h),fun h1=>?_⟩
 refine ae (Cf.lJ hg hc) ?_
 rw[da,aa,aI]
 refine⟨fun h=>bad (.inr (.inl h)),fun h2=>?_⟩
 refine ae (Cf.mL hg hc) ?_
 rw[aM,aa,aI]
 refine⟨fun h=>bad (.inr (.inr (.inl h))),fun h3=>?_⟩
 refine ae (Cf.mL hg hc) ?_
 rw[da,aa,aI]
 have hr:right c.cap=decide (c.cap≤1152921504606846976):=by
  cases hh:right c.cap with
  | true=>rw[dT_ (lZ.1 hh).2]
  | false=>
   by_cases h:c.cap≤1152921504606846976
   ·rw[lZ.2 ⟨by omega,h⟩]at hh;cases hh
   ·rw[dF_ h]
 refine⟨fun h=>bad (.inr (.inr (.inr (.inl (by rw[hr,dF_ (by omega)]))))),fun h4=>?_⟩
 have h4:right c.cap=true:=by rw[hr,dT_ (by omega)]
 refine ae (Cf.dM hg hc) ?_
 rw[aM,aa,aI]
 refine⟨fun h=>bad (.inr (.inr (.inr (.inr (.inl h))))),fun h5=>?_⟩
 refine ae (Cf.dM hg hc) ?_
 refine ae (Cf.mL hg hc) ?_
 rw[da,aa]
 by_cases h6:c.cap<c.ours
 ·rw[dT_ h6]
  exact bad (.inr (.inr (.inr (.inr (.inr h6)))))
 ·rw[dF_ h6]
  exact lK (by rintro (h | h | h | h | h | h);exact h1 h;exact h2 h;exact h3 h;(rw[h4]at h;cases h);exact h5 h;exact h6 h)
end
end Go.Esc.M
namespace Go.Esc.M
open Go Go.Esc
def oL (l:List aL) (id k:Int):Bool:=l.any fun u=>decide (u.id=id) && (!decide (u.kind=1) && (decide (k=0) || decide (u.kind=k)))
def o7 (l others:List aL):Prop:=∀ (j:Nat) (u:aL),l[j]?=some u->kJ (l.take j) others u=0
def Bx (l:List aL):Prop:=∀ (i j:Nat) (u w:aL),l[i]?=some u->l[j]?=some w->u.kind≠1->w.kind≠1->u.id=w.id->i=j
theorem yu {rm:Bool}{id:Int}{X Y:List aL}(h:(ey rm id X).isSome=true):ey rm id (X++Y)=ey rm id X:=by
 unfold ey at h ⊢
 rw[List.find?_append]
 cases hx:List.find? (uE rm id) X with
 | none=>rw[hx]at h;cases h
 | some a=>rfl
theorem vn {A X Y:List aL}{u:aL}(h:kJ A X u=0):kJ A (X++Y) u=0:=by
 unfold kJ at h ⊢
 split at h
 ·cases h
 rename_i h1
 rw[if_neg h1]
 split at h
 ·cases h
 rename_i h2
 rw[if_neg h2]
 split at h
 ·rename_i h3
  rw[if_pos h3]
  exact h
 rename_i h3
 rw[if_neg h3]
 split at h
 ·cases h
 rename_i h4
 have h4':(ey false u.id X).isSome=true:=(Bool.not_eq_false _).mp h4
 rw[yu h4',if_neg h4]
 exact h
theorem FH {l X Y:List aL}(h:o7 l X):o7 l (X++Y):=fun j u hj=>vn (h j u hj)
theorem aaX {l X:List aL}(h:o7 l X) (n:Nat):o7 (l.take n) X:=by
 intro j u hj
 have hl:j<n:=by
  have:=(List.getElem?_eq_some_iff.1 hj).1
  rw[List.length_take]at this
  omega
 rw[List.getElem?_take_of_lt hl]at hj
 rw[List.take_take,Nat.min_eq_left (by omega)]
 exact h j u hj
theorem B8 {l m:List aL}{a b:Nat}(h:o7 l (m.take a)) (hab:a≤b):o7 l (m.take b):=by
 rw[<- rV hab]
 exact FH h
theorem At {l X:List aL}{u:aL}(h:o7 l X) (hu:kJ l X u=0):o7 (l++[u]) X:=by
 intro j w hj
 by_cases hl:j<l.length
 ·rw[List.getElem?_append_left hl]at hj
  rw[List.take_append_of_le_length (by omega)]
  exact h j w hj
 ·have hb:=(List.getElem?_eq_some_iff.1 hj).1
  rw[List.length_append,List.length_singleton]at hb
  have e:j=l.length:=by omega
  subst e
  rw[List.getElem?_append_right (by omega)]at hj
  simp at hj
  subst hj
  rw[List.take_append_of_le_length (Nat.le_refl _),List.take_length]
  exact hu
section
variable {l X:List aL} (h:o7 l X)
include h
theorem tD:∀ u∈l,dp u=true:=by
 intro u hu
 obtain⟨j,hj⟩:=List.getElem?_of_mem hu
 exact (nG (h j u hj)).1
theorem B7:l.length≤2048:=by
 refine Classical.byContradiction fun hn=>?_
 obtain⟨u,hu⟩:∃ u,l[2048]?=some u:=⟨_,List.getElem?_eq_getElem (by omega)⟩
 have:=h 2048 u hu
 unfold kJ at this
 rw[if_pos (by rw[List.length_take];omega)]at this
 cases this
theorem ui:rA l:=by
 intro j u hj hk
 exact (nG (h j u hj)).2.1 hk
theorem Au:∀ u∈l,u.kind≠1->∃ w∈X,w.kind=1/\w.id=u.id:=by
 intro u hu hk
 obtain⟨j,hj⟩:=List.getElem?_of_mem hu
 obtain⟨b,_,h2,h3,h4⟩:=sv ((nG (h j u hj)).2.2 hk).1
 exact⟨b,h2,h3,h4⟩
theorem sr:Bx l:=by
 have key:∀ {i j:Nat}{u w:aL},l[i]?=some u->l[j]?=some w->u.kind≠1->w.kind≠1->u.id=w.id->i<j->False:=by
  intro i j u w hi hj hu hw he hlt
  have h1:=((nG (h j w hj)).2.2 hw).2.1
  have hv:∀ a∈l.take j,dp a=true:=fun a ha=>tD h a (List.mem_of_mem_take ha)
  refine AB hv h1 u ?_ hu he
  refine List.mem_of_getElem? (i:=i) ?_
  rw[List.getElem?_take_of_lt hlt]
  exact hi
 intro i j u w hi hj hu hw he
 rcases Nat.lt_trichotomy i j with h1|h1|h1
 ·exact (key hi hj hu hw he h1).elim
 ·exact h1
 ·exact (key hj hi hw hu he.symm h1).elim
end
theorem tO {l:List aL}(h:Bx l) (n:Nat):Bx (l.take n):=by
 intro i j u w hi hj
 have li:=(List.getElem?_eq_some_iff.1 hi).1
 have lj:=(List.getElem?_eq_some_iff.1 hj).1
 rw[List.length_take]at li lj
 rw[List.getElem?_take_of_lt (by omega)]at hi hj
 exact h i j u w hi hj
theorem tX {id:Int}:∀ {l:List aL},jH id l≠0->∃ u∈l,u.kind≠1/\u.id=id/\u.kind=jH id l
 | [],h=>absurd rfl h
 | u::l,h=>by
  by_cases hr:m8 id u=true
  ·have e:jH id (u::l)=u.kind:=if_pos hr
   simp only[m8,Bool.and_eq_true,decide_eq_true_eq]at hr
   exact⟨u,by simp,hr.1,hr.2.1,e.symm⟩
  ·have e:jH id (u::l)=jH id l:=if_neg hr
   rw[e]at h ⊢
   obtain⟨w,h1,h2⟩:=tX h
   exact⟨w,by simp[h1],h2⟩
theorem GF {id:Int}{l:List aL}(hv:∀ u∈l,dp u=true) {u:aL}(hu:u∈l) (hk:u.kind≠1) (hi:u.id=id):jH id l≠0:=by
 induction l with
 | nil=>cases hu
 | cons w l ih=>
  by_cases hr:m8 id w=true
  ·have e:jH id (w::l)=w.kind:=if_pos hr
   rw[e];exact sn hr
  ·have e:jH id (w::l)=jH id l:=if_neg hr
   rw[e]
   rcases List.mem_cons.1 hu with rfl|hu
   ·exact absurd (by simp[m8,hk,hi,hv u (by simp)]) hr
   ·exact ih (fun x hx=>hv x (by simp[hx])) hu
theorem tW {l:List aL}{id k:Int}:oL l id k=true ↔ ∃ u∈l,u.id=id/\u.kind≠1/\(k=0\/u.kind=k):=by
 unfold oL
 rw[List.any_eq_true]
 simp only[Bool.and_eq_true,Bool.or_eq_true,decide_eq_true_eq,Bool.not_eq_true',decide_eq_false_iff_not]
theorem K5 {l:List aL}(hv:∀ u∈l,dp u=true) (hu:Bx l) (id:Int) {k:Int}(hk:k≠0):oL l id k=decide (jH id l=k):=by
 by_cases h:jH id l=k
 ·rw[dT_ h]
  obtain⟨u,h1,h2,h3,h4⟩:=tX (id:=id) (l:=l) (by rw[h];exact hk)
  exact tW.2 ⟨u,h1,h3,h2,.inr (h4.trans h)⟩
 ·rw[dF_ h,Bool.eq_false_iff]
  intro hr
  obtain⟨u,h1,h2,h3,h4⟩:=tW.1 hr
  have h5:u.kind=k:=h4.resolve_left hk
  obtain⟨w,k1,k2,k3,k4⟩:=tX (GF hv h1 h3 h2)
  obtain⟨i,hi⟩:=List.getElem?_of_mem h1
  obtain⟨j,hj⟩:=List.getElem?_of_mem k1
  have:=hu i j u w hi hj h3 k2 (h2.trans k3.symm)
  subst this
  rw[hi]at hj
  injection hj with hj
  subst hj
  exact h (k4.symm.trans h5)
def CN (r:List aL) (u:aL):Bool:=decide (u.kind=1) && !oL r u.id 3
def GH (r:List aL) (u:aL):Bool:=decide (u.kind=1) && oL r u.id 2
theorem GC {r:List aL}(hv:∀ u∈r,dp u=true) (hu:Bx r):CN r=stays r:=by
 funext u
 unfold CN stays
 rw[K5 hv hu _ (by decide)]
theorem Ja {r:List aL}(hv:∀ u∈r,dp u=true) (hu:Bx r):GH r=kD r:=by
 funext u
 unfold GH kD
 rw[K5 hv hu _ (by decide)]
def tl (base:Int) (own other:List aL) (fo fp:Int):Int:=base-gG (CN (cw other fp)) own+gG (GH (cw own fo)) other
structure iY (f:StF):Prop where
 ok:f.s.ok
 oko:∀ u∈f.o,u.ok
 okp:∀ u∈f.p,u.ok
 okh:∀ x∈f.h,x.ok
 lh:f.h.length≤49
 a0:0≤f.s.atA
 a1:f.s.atA≤f.s.heldA
 a2:f.s.heldA≤f.s.sgnA
 a3:f.s.sgnA≤f.o.length
 b0:0≤f.s.heldB
 b1:f.s.heldB≤f.s.sgnB
 b2:f.s.sgnB≤f.s.atB
 b3:f.s.atB≤f.p.length
 go:o7 f.o (f.p.take f.s.heldB.toNat)
 gp:o7 f.p (f.o.take f.s.atA.toNat)
 so:0≤SB f.s.bo f.o f.p f.s.atA.toNat f.s.heldB.toNat
 sp:0≤SB f.s.bp f.p f.o f.s.heldB.toNat f.s.atA.toNat
 no:kX f.o f.p f.s.heldB≤483
 np:kX f.p f.o f.s.atA≤483
 bo:0≤f.s.bo
 bp:0≤f.s.bp
 cap:f.s.bo+f.s.bp=f.s.cap
 capm:f.s.cap≤1152921504606846976
 side:f.s.side=0\/f.s.side=1
 loc0:0≤f.s.loc
 loc1:f.s.loc≤281474976710654
 ack0:0≤f.s.ack
 rem:f.s.rem=f.s.ack\/f.s.rem=f.s.ack+1
 rem1:f.s.rem≤281474976710654
section
variable {f:StF} (I:iY f)
include I
theorem iY.fA:mM f.s=f.s.atA:=by unfold mM;have:=I.a1;split<;>omega
theorem iY.fB:mD f.s=f.s.heldB:=by unfold mD;have:=I.b1;have:=I.b2;split<;>omega
theorem iY.vo:∀ u∈f.o,dp u=true:=tD I.go
theorem iY.vp:∀ u∈f.p,dp u=true:=tD I.gp
theorem iY.lo:f.o.length≤2048:=B7 I.go
theorem iY.lp:f.p.length≤2048:=B7 I.gp
theorem iY.book:oX f.s.bo f.s.bp f.o f.p f.s.atA.toNat f.s.heldB.toNat:=
 ⟨I.oko,I.okp,I.vo,I.vp,by have:=I.a1;have:=I.a2;have:=I.a3;have:=I.a0;omega,by have:=I.b0;have:=I.b1;have:=I.b2;have:=I.b3;omega,I.lo,I.lp,ui I.go,ui I.gp,Au I.go,Au I.gp,I.so,I.sp,I.bo,I.bp,by have:=I.cap;have:=I.capm;omega⟩
theorem iY.xl:tj f=SB f.s.bo f.o f.p f.s.atA.toNat f.s.heldB.toNat/\tl f.s.bo f.o f.p (mM f.s) (mD f.s)=SB f.s.bo f.o f.p f.s.atA.toNat f.s.heldB.toNat:=by
 have hb:=I.book
 have h1:=Hm hb
 have hA:((f.s.atA.toNat:Nat):Int)=f.s.atA:=Int.toNat_of_nonneg I.a0
 have hB:((f.s.heldB.toNat:Nat):Int)=f.s.heldB:=Int.toNat_of_nonneg I.b0
 refine⟨?_,?_⟩
 ·unfold tj
  rw[I.fA,I.fB]
  have:=DW (base:=f.s.bo) (mine:=f.o) (others:=f.p) (fm:=f.s.atA.toNat) (fo:=f.s.heldB.toNat) I.vo I.vp I.bo (by have:=I.cap;have:=I.capm;have:=I.bp;omega)
  rw[hA,hB]at this
  rw[this]
  have h0:=I.so
  have:=I.cap;have:=I.capm
  unfold AJ
  split
  ·omega
  ·split<;>omega
 ·unfold tl SB cw
  rw[I.fA,I.fB,GC (fun u hu=>I.vp u (List.mem_of_mem_take hu)) (tO (sr I.gp) _),Ja (fun u hu=>I.vo u (List.mem_of_mem_take hu)) (tO (sr I.go) _)]
theorem iY.xk:th f=SB f.s.bp f.p f.o f.s.heldB.toNat f.s.atA.toNat/\tl f.s.bp f.p f.o (mD f.s) (mM f.s)=SB f.s.bp f.p f.o f.s.heldB.toNat f.s.atA.toNat:=by
 have hb:=I.book.swap
 have h1:=Hm hb
 have hA:((f.s.atA.toNat:Nat):Int)=f.s.atA:=Int.toNat_of_nonneg I.a0
 have hB:((f.s.heldB.toNat:Nat):Int)=f.s.heldB:=Int.toNat_of_nonneg I.b0
 refine⟨?_,?_⟩
 ·unfold th
  rw[I.fA,I.fB]
  have:=DW (base:=f.s.bp) (mine:=f.p) (others:=f.o) (fm:=f.s.heldB.toNat) (fo:=f.s.atA.toNat) I.vp I.vo I.bp (by have:=I.cap;have:=I.capm;have:=I.bo;omega)
  rw[hA,hB]at this
  rw[this]
  have h0:=I.sp
  have:=I.cap;have:=I.capm
  unfold AJ
  split
  ·omega
  ·split<;>omega
 ·unfold tl SB cw
  rw[I.fA,I.fB,GC (fun u hu=>I.vo u (List.mem_of_mem_take hu)) (tO (sr I.go) _),Ja (fun u hu=>I.vp u (List.mem_of_mem_take hu)) (tO (sr I.gp) _)]
end
end Go.Esc.M
namespace Go.Esc.M
open Go Go.Esc
section
variable {F0:List AId}{G0 G:ak}{ps:List LP}{Q:ah->ak->Prop}
theorem bQ.use {v:ah}{l:List aL}{n:Int}(hl:hJ 36 G v (l.map aL.av)) (hlen:l.length≤1048576) (hQ:∀ w,hJ 36 G w ((cw l n).map aL.av)->Q w G):al P bQ.n [v,.int .i64 n] G Q:=by
 refine bQ.sound ?_
 unfold bQ.S
 have tk:∀ m:Nat,m≤l.length->l.take m=cw l n->∃ w,dV T aj v none (some (.int .i64 (m:Int))) none=some w/\hJ 36 G w ((cw l n).map aL.av):=by
  intro m hm he
  obtain⟨w,e1,e2⟩:=hJ.take (ie:=cG) (k:=.i64) (m:=m) bT rfl dE hl rfl (by rw[List.length_map];exact hm)
  refine⟨w,e1,?_⟩
  rw[<- he,List.map_take]
  exact e2
 unfold cw at tk hQ
 rw[aM,aa,aI]
 refine⟨fun h0=>?_,fun h0=>?_⟩
 ·refine ae (dh hl.gZ) ?_
  rw[da,aa,dF_ (by omega),aK]
  obtain⟨w,e1,e2⟩:=tk 0 (by omega) (by rw[show n.toNat=0 by omega])
  refine ae e1 ?_
  exact hQ w e2
 ·refine ae (dh hl.gZ) ?_
  rw[da,aa,aI]
  refine⟨fun h1=>?_,fun h1=>?_⟩
  ·refine ae (dh hl.gZ) ?_
   obtain⟨w,e1,e2⟩:=tk l.length (Nat.le_refl _) (by rw[List.take_length,List.take_of_length_le (by omega)])
   refine ae e1 ?_
   exact hQ w e2
  ·obtain⟨w,e1,e2⟩:=tk n.toNat (by omega) rfl
   rw[Int.toNat_of_nonneg (by omega)]at e1
   refine ae e1 ?_
   exact hQ w e2
end
end Go.Esc.M
namespace Go.Esc.M
open Go Go.Esc
end Go.Esc.M
