import Derived.Test.YtkojimdacnohpaaGreatDoorLDj
import Derived.Test.YtkojimdacnohpaaGreatDoorLDb
import Derived.Test.YtkojimdacnohpaaGreatDoorLHa
import Derived.Test.YtkojimdacnohpaaGreatDoorLCx
set_option linter.unusedSimpArgs false
set_option linter.unusedVariables false
set_option maxRecDepth 20000
namespace Go.Esc.M
open Go Go.Esc
def m1:ba:=⟨false,-1,0,z32⟩
def m2:ba:=⟨false,-2,0,z32⟩
section
variable {F0:List AId} {G0 G:ah} {ps:List LP} {Q:ag -> ah -> Prop}
theorem JC {i j:Nat} {v:ag} {l:List ba} {p:ba} (hs:Sp F0 G0 ps G) (hi:ps[i]? = some (bj 35 v (l.map ba.av))) (hj:j < l.length) (hp:p.ok) :
  ∃ a,aL T aq v (.int .i64 (j:Int)) = some a /\ ∀ K:ah -> Prop,(∀ G',Sp F0 G0 (ps.set i (bj 35 v ((l.set j p).map ba.av))) G' -> K G') -> wg (ax T G aU a p.av) K:=by
 have ho:=bj.own hs hi
 rcases ho with ⟨_,h⟩ | ⟨id,len,cap,cs,rfl,hg,hc,hl,hu,he⟩
 ·rw [List.map_eq_nil_iff] at h
  rw [h] at hj
  simp at hj
 ·have hlen:len = l.length:=by
   have:=congrArg List.length he
   simp only [List.length_map,List.length_take] at this
   omega
  obtain ⟨a,ha,hst⟩:=JD (T:=T) (t:=aq) (e:=aU) (i:=bU) (ie:=eB) (cap:=cap) (k:=.i64) (c:=p.av) cq rfl fk hg hu (show j < len by omega) (by omega) (ba.sz hp) rfl (ba.okv p)
  refine ⟨a,ha,fun K hK=>fK hst (hK _ ?_)⟩
  refine hs.call hi (bj 35 (.slice id [] 0 0 len cap) ((l.set j p).map ba.av)) fun F h k=>?_
  obtain ⟨_,rfl⟩:=h
  refine k _ _ ⟨.inr ⟨id,len,cap,cs.set j p.av,rfl,ah.fc _ _ _,by rw [List.length_set]; exact hc,hl,Fb hu (ba.sz hp),?_⟩,rfl⟩ (tG hg (by simp))
  rw [List.map_set,he,List.take_set]
end
end Go.Esc.M
set_option linter.unusedSimpArgs false
set_option linter.unusedVariables false
set_option maxRecDepth 20000
namespace Go.Esc.M
open Go Go.Esc
structure aK where
 kind:Int
 id:Int
 amount:Int
 hash:List UInt8
 note:List UInt8
 deriving DecidableEq
def h0:List UInt8:=List.replicate 32 0
theorem mL:h0.length = 32:=rfl
def aK.cs (u:aK):List ag:=[.int .i64 u.kind,.int .i64 u.id,.int .i64 u.amount,.agg (u.hash.map u8v),.str u.note]
def aK.av (u:aK):ag:=.agg u.cs
def aK.zero:aK:=⟨0,0,0,h0,[]⟩
structure aK.ok (u:aK):Prop where
 kind:I64 u.kind
 id:I64 u.id
 amount:I64 u.amount
 hash:u.hash.length = 32
 note:u.note.length ≤ 9223372036854775807
theorem aK.bD:aK.zero.ok:=⟨⟨by decide,by decide⟩,⟨by decide,by decide⟩,⟨by decide,by decide⟩,rfl,by decide⟩
theorem szh {h:List UInt8} (hl:h.length = 32):szs (h.map u8v) = 32:=by rw [gv (n:=1) (ji h)]; simp [hl]
theorem aK.sz {u:aK} (h:u.ok):Esc.sz u.av = 36:=by simp [aK.av,aK.cs,Esc.sz,szs,szh h.hash]
theorem aK.fits {u:aK} (h:u.ok):fa dA u.av = true:=by
 have h1:=aK.sz h
 have h2:u.av.isAgg = true:=rfl
 simp [fa,h1,h2,dA,j4.isAgg]
theorem aK.okv (u:aK):Esc.okv u.av = true:=by simp [aK.av,aK.cs,Esc.okv,kT,jx]
theorem gu {h:List UInt8} (hl:h.length = 32):fa fE (.agg (h.map u8v)) = true:=by simp [fa,Esc.sz,szh hl,fE,ag.isAgg,j4.isAgg]
section
variable {F0:List AId} {G0 G:ah} {ps:List LP} {i:Nat} {id:AId} {u:aK}
theorem dh (hs:Sp F0 G0 ps G) (hi:ps[i]? = some (ar id u.av)) (h:u.ok) :
  af T G au (.ptr id [0] 0) = some (.int .i64 u.kind) /\ af T G ai (.ptr id [1] 1) = some (.int .i64 u.id) /\ af T G ai (.ptr id [2] 2) = some (.int .i64 u.amount) /\ af T G aj (.ptr id [3] 3) = some (.agg (u.hash.map u8v)) /\ af T G bH (.ptr id [4] 35) = some (.str u.note) /\ af T G aI (.ptr id [] 0) = some u.av:=by
 have hg:=ar.own hs hi
 refine ⟨dQ (c:=.int .i64 u.kind) hg rfl rfl rfl hO rfl,dQ (c:=.int .i64 u.id) hg rfl rfl rfl cA rfl,dQ (c:=.int .i64 u.amount) hg rfl rfl rfl cA rfl,dQ (c:=.agg (u.hash.map u8v)) hg rfl rfl rfl cd (gu h.hash),dQ (c:=.str u.note) hg rfl ?_ rfl fZ rfl,cJ fC hg (aK.fits h)⟩
 simp [aK.cs,szs,Esc.sz,szh h.hash]
theorem kY {u':aK} (hs:Sp F0 G0 ps G) (hi:ps[i]? = some (ar id u.av)) (h:u.ok) (h':u'.ok) {K:ah -> Prop} (hK:∀ G',Sp F0 G0 (ps.set i (ar id u'.av)) G' -> K G'):wg (ax T G aI (.ptr id [] 0) u'.av) K:=by
 refine fK (il fC (ar.own hs hi) (aK.fits h') (by rw [aK.sz h,aK.sz h']) (aK.okv _)) ?_
 exact hK _ (Sp.setRow hs hi _)
end
def C7:Int:=1152921504606846976
def dC (u:aK):Bool :=
 decide (0 ≤ u.id) && (decide (u.id < 2048) && (if u.kind = 1 then decide (1 ≤ u.amount) && (decide (u.amount ≤ C7) && decide (u.note = []))
  else if u.kind = 2 then decide (u.amount = 0) && decide (u.note = [])
  else if u.kind = 3 then decide (u.amount = 0) && (decide (u.hash = h0) && decide (u.note.length ≤ 64)) else false))
section
variable {G:ah} {Q:ag -> ah -> Prop}
theorem Dt:bk T aj [] = some (.agg (h0.map u8v)):=rfl
theorem Df {a b:List UInt8} (ha:a.length = 32) (hb:b.length = 32):aw T .eql aj (.agg (a.map u8v)) (.agg (b.map u8v)) = some (.bool (decide (a = b))) :=
 zX (i:=fE) (ie:=fY) (n:=32) cd rfl dz rfl rfl ha hb
theorem uW {a b:List UInt8} (ha:a.length = 32) (hb:b.length = 32):aw T .neq aj (.agg (a.map u8v)) (.agg (b.map u8v)) = some (.bool (!decide (a = b))) :=
 zW (i:=fE) (ie:=fY) (n:=32) cd rfl dz rfl rfl ha hb
set_option maxHeartbeats 1000000 in
theorem fX.use {u:aK} (h:u.ok) (hQ:∀ G',Ch [] G [] G' -> Q (.bool (dC u)) G'):al P fX.n [u.av] G Q:=by
 refine fX.sound ?_
 unfold fX.S
 obtain ⟨mA,hmA⟩:∃ m,m = (1152921504606846976:Int):=⟨_,rfl⟩
 rw [<- hmA]
 have hmax:C7 = mA:=by rw [hmA]; rfl
 unfold dC at hQ
 rw [hmax] at hQ
 clear hmax hmA
 intro i1 f1
 have s1:=(Sp.nil G).row f1 u.av
 obtain ⟨l0,l1,l2,l3,l4,_⟩:=dh (i:=0) s1 rfl h
 have hQ:=hQ _ s1.ch
 revert hQ l0 l1 l2 l3 l4
 generalize G.upd i1 (.own u.av) = G2
 intro l0 l1 l2 l3 l4 hQ J37
 have bad:(decide (0 ≤ u.id) && decide (u.id < 2048)) = false -> J37 (.bool true) G2:=by
  intro hb
  simp -zeta only [J37,aX]
  rw [<- Bool.and_assoc,hb,Bool.false_and] at hQ
  exact hQ
 have kA:0 ≤ u.id -> u.id < 2048 -> J37 (.bool false) G2:=by
  intro h0 h1
  rw [decide_eq_true h0,decide_eq_true h1,Bool.true_and,Bool.true_and] at hQ
  simp -zeta only [J37,aM]
  rw [l0,aa,bC,aa,aE]
  refine ⟨fun hk=>?_,fun hk1=>?_⟩
  ·rw [if_pos hk] at hQ
   rw [l2,aa,gq,aa,aE]
   refine ⟨fun ha=>?_,fun ha=>by rwa [decide_eq_false ha,Bool.false_and] at hQ⟩
   rw [decide_eq_true ha,Bool.true_and] at hQ
   rw [aa,jl,aa,aE]
   refine ⟨fun hb=>?_,fun hb=>by rwa [decide_eq_false hb,Bool.false_and] at hQ⟩
   rw [decide_eq_true hb,Bool.true_and] at hQ
   rw [l4,aa,oW,aa]
   exact hQ
  rw [if_neg hk1] at hQ
  rw [bC,aa,aE]
  refine ⟨fun hk=>?_,fun hk2=>?_⟩
  ·rw [if_pos hk] at hQ
   rw [l2,aa,bC,aa,aE]
   refine ⟨fun ha=>?_,fun ha=>by rwa [decide_eq_false ha,Bool.false_and] at hQ⟩
   rw [decide_eq_true ha,Bool.true_and] at hQ
   rw [l4,aa,oW,aa]
   exact hQ
  rw [if_neg hk2] at hQ
  rw [bC,aa,aE]
  refine ⟨fun hk=>?_,fun hk3=>?_⟩
  ·rw [if_pos hk] at hQ
   rw [l2,aa,bC,aa,aE]
   refine ⟨fun ha=>?_,fun ha=>by rwa [decide_eq_false ha,Bool.false_and] at hQ⟩
   rw [decide_eq_true ha,Bool.true_and] at hQ
   rw [l3,aa,Dt,aa,Df h.hash mL,aa,aE]
   refine ⟨fun hb=>?_,fun hb=>by rwa [decide_eq_false hb,Bool.false_and] at hQ⟩
   rw [decide_eq_true hb,Bool.true_and] at hQ
   rw [l4,aa]
   show wv (some (.int .i64 (u.note.length:Nat))) _
   rw [aa,jl,aa]
   have:decide (((u.note.length:Nat):Int) ≤ 64) = decide (u.note.length ≤ 64):=by rw [decide_eq_decide]; omega
   rw [this]
   exact hQ
  ·rwa [if_neg hk3] at hQ
 rw [l1,aa,aH,aa,aE]
 refine ⟨fun hb=>bad (by rw [decide_eq_false (by omega),Bool.false_and]),fun h0=>?_⟩
 rw [aa,gq,aa]
 by_cases h1:(2048:Int) ≤ u.id
 ·rw [decide_eq_true h1]
  exact bad (by rw [decide_eq_false (show ¬ u.id < 2048 by omega),Bool.and_false])
 ·rw [decide_eq_false h1]
  exact kA (by omega) (by omega)
set_option maxHeartbeats 1000000 in
theorem cy.use {u:aK} (h:u.ok) (hQ:∀ G',Ch [] G [] G' -> Q (.bool (dC u)) G'):al P cy.n [u.av] G Q:=by
 refine cy.sound ?_
 unfold cy.S
 obtain ⟨mA,hmA⟩:∃ m,m = (1152921504606846976:Int):=⟨_,rfl⟩
 rw [<- hmA]
 have hmax:C7 = mA:=by rw [hmA]; rfl
 unfold dC at hQ
 rw [hmax] at hQ
 clear hmax hmA
 rw [kM]
 intro i1 f1
 have s1:=(Sp.nil G).row f1 u.av
 refine ae Dt ?_
 intro i4 f4
 have s4:=s1.row f4 (.agg ((List.replicate 32 (0:UInt8)).map u8v))
 refine pw (i:=0) (h':=h0) s4 rfl Kp mL fun G2 s6=>?_
 obtain ⟨l0,l1,l2,l3,l4,_⟩:=dh (i:=1) s6 rfl h
 have l5:=bE mL (ar.own (i:=0) s6 rfl)
 have hQ:=hQ _ s6.ch
 revert l0 l1 l2 l3 l4 l5 hQ
 intro l0 l1 l2 l3 l4 l5 hQ J41
 have bad:(decide (0 ≤ u.id) && decide (u.id < 2048)) = false -> J41 (.bool true) G2:=by
  intro hb
  simp -zeta only [J41,aX]
  rw [<- Bool.and_assoc,hb,Bool.false_and] at hQ
  exact hQ
 have kA:0 ≤ u.id -> u.id < 2048 -> J41 (.bool false) G2:=by
  intro h0 h1
  rw [decide_eq_true h0,decide_eq_true h1,Bool.true_and,Bool.true_and] at hQ
  simp -zeta only [J41,aM]
  rw [l0,aa,bC,aa,aE]
  refine ⟨fun hk=>?_,fun hk1=>?_⟩
  ·rw [if_pos hk] at hQ
   rw [l2,aa,gq,aa,aE]
   refine ⟨fun ha=>?_,fun ha=>by rwa [decide_eq_false ha,Bool.false_and] at hQ⟩
   rw [decide_eq_true ha,Bool.true_and] at hQ
   rw [aa,jl,aa,aE]
   refine ⟨fun hb=>?_,fun hb=>by rwa [decide_eq_false hb,Bool.false_and] at hQ⟩
   rw [decide_eq_true hb,Bool.true_and] at hQ
   rw [l4,aa,oW,aa]
   exact hQ
  rw [if_neg hk1] at hQ
  rw [bC,aa,aE]
  refine ⟨fun hk=>?_,fun hk2=>?_⟩
  ·rw [if_pos hk] at hQ
   rw [l2,aa,bC,aa,aE]
   refine ⟨fun ha=>?_,fun ha=>by rwa [decide_eq_false ha,Bool.false_and] at hQ⟩
   rw [decide_eq_true ha,Bool.true_and] at hQ
   rw [l4,aa,oW,aa]
   exact hQ
  rw [if_neg hk2] at hQ
  rw [bC,aa,aE]
  refine ⟨fun hk=>?_,fun hk3=>?_⟩
  ·rw [if_pos hk] at hQ
   rw [l2,aa,bC,aa,aE]
   refine ⟨fun ha=>?_,fun ha=>by rwa [decide_eq_false ha,Bool.false_and] at hQ⟩
   rw [decide_eq_true ha,Bool.true_and] at hQ
   rw [l3,aa,l5,aa,Df h.hash mL,aa,aE]
   refine ⟨fun hb=>?_,fun hb=>by rwa [decide_eq_false hb,Bool.false_and] at hQ⟩
   rw [decide_eq_true hb,Bool.true_and] at hQ
   rw [l4,aa]
   show wv (some (.int .i64 (u.note.length:Nat))) _
   rw [aa,jl,aa]
   have:decide (((u.note.length:Nat):Int) ≤ 64) = decide (u.note.length ≤ 64):=by rw [decide_eq_decide]; omega
   rw [this]
   exact hQ
  ·rwa [if_neg hk3] at hQ
 rw [l1,aa,aH,aa,aE]
 refine ⟨fun hb=>bad (by rw [decide_eq_false (by omega),Bool.false_and]),fun h0=>?_⟩
 rw [aa,gq,aa]
 by_cases h1:(2048:Int) ≤ u.id
 ·rw [decide_eq_true h1]
  exact bad (by rw [decide_eq_false (show ¬ u.id < 2048 by omega),Bool.and_false])
 ·rw [decide_eq_false h1]
  exact kA (by omega) (by omega)
end
end Go.Esc.M
set_option linter.unusedSimpArgs false
set_option linter.unusedVariables false
set_option maxRecDepth 20000
namespace Go.Esc
open Go Go.RowKit
def bR (a b:Int):ag:=.agg [.int .i64 a,.int .i64 b]
def bz (v:ag):Prop:=sz v = 1 /\ v.isAgg = false /\ okv v = true
theorem bz.nil:bz .nilSlice:=⟨rfl,rfl,rfl⟩
theorem qT:∀ l:List ag,szs l = (l.map sz).sum
 | []=>rfl
 | v :: l=>by rw [ou,qT l]; simp
theorem jg {v:ag} {ti:TI} (h:bz v) (ht:(Nat.beq ti.size 1 && !ti.desc.isAgg) = true):fa ti v = true:=by
 simp only [Bool.and_eq_true,Bool.not_eq_true'] at ht
 have:=Nat.eq_of_beq_eq_true ht.1
 simp [fa,h.1,h.2.1,this,ht.2]
section
variable {T:Tbl} {G:ah} {id:AId} {cs ds:List ag} {ss ss2:List Nat} {k j o o2 oo:Nat} {c u:ag} {t:TypeId} {ti:TI}
theorem oG (h:cs.map sz = ss) (ho:(ss.take k).sum = o):szs (cs.take k) = o:=by
 rw [qT,List.map_take,h,ho]
theorem ld1 (hg:G id = some (.own (.agg cs))) (hs:cs.map sz = ss) (ho:(ss.take k).sum = o) (hc:cs[k]? = some c) (ht:T t = some ti) (hf:fa ti c = true):af T G t (.ptr id [k] o) = some c :=
 dQ hg rfl (oG hs ho) hc ht hf
theorem ld2 (hg:G id = some (.own (.agg cs))) (hs:cs.map sz = ss) (ho:(ss.take k).sum = o) (hc:cs[k]? = some (.agg ds)) (hs2:ds.map sz = ss2) (ho2:(ss2.take j).sum = o2) (hc2:ds[j]? = some c) (hoo:o + o2 = oo) (ht:T t = some ti) (hf:fa ti c = true) :
  af T G t (.ptr id [k,j] oo) = some c:=by
 subst hoo
 have e1:=oG hs ho
 have e2:=oG hs2 ho2
 simp [af,mo,hg,kZ,sub,e1,e2,hc,hc2,ht,hf]
theorem st1 (hg:G id = some (.own (.agg cs))) (hs:cs.map sz = ss) (ho:(ss.take k).sum = o) (hc:cs[k]? = some u) (ht:T t = some ti) (hf:fa ti c = true) (hsz:sz u = sz c) (hok:okv c = true) :
  ax T G t (.ptr id [k] o) c = some (G.upd id (.own (.agg (cs.set k c)))):=km hg (oG hs ho) hc ht hf hsz hok
theorem st2 (hg:G id = some (.own (.agg cs))) (hs:cs.map sz = ss) (ho:(ss.take k).sum = o) (hc:cs[k]? = some (.agg ds)) (hs2:ds.map sz = ss2) (ho2:(ss2.take j).sum = o2) (hc2:ds[j]? = some u) (hoo:o + o2 = oo) (ht:T t = some ti) (hf:fa ti c = true) (hsz:sz u = sz c) (hok:okv c = true) :
  ax T G t (.ptr id [k,j] oo) c = some (G.upd id (.own (.agg (cs.set k (.agg (ds.set j c)))))):=by
 subst hoo
 have e1:=oG hs ho
 have e2:=oG hs2 ho2
 simp [ax,hg,sub,e1,e2,hc,hc2,ht,hf,hsz,hok,putAt]
end
end Go.Esc
namespace Go.Esc.M
open Go Go.Esc
def mj (a b:List UInt8):ag:=.agg [.agg (a.map u8v),.agg (b.map u8v)]
theorem rk {a b:List UInt8} (ha:a.length = 32) (hb:b.length = 32):fa kE (mj a b) = true:=by
 simp [fa,mj,Esc.sz,szs,szh ha,szh hb,kE,ag.isAgg,j4.isAgg]
end Go.Esc.M
set_option linter.unusedSimpArgs false
set_option linter.unusedVariables false
set_option maxRecDepth 20000
namespace Go.Esc.M
open Go Go.Esc
structure StM where
 side:Int
 cap:Int
 bo:Int
 bp:Int
 loc:Int
 rem:Int
 ack:Int
 atA:Int
 atB:Int
 sgnA:Int
 sgnB:Int
 heldA:Int
 heldB:Int
 behind:Bool
 ptsA:List UInt8
 ptsB:List UInt8
 sig:List UInt8
 failed:Int
 closed:Int
def StM.cs (s:StM) (v_ours v_peers v_shelf:ag):List ag:=[.int .i64 s.side,.int .i64 s.cap,.int .i64 s.bo,.int .i64 s.bp,v_ours,v_peers,.int .i64 s.loc,.int .i64 s.rem,.int .i64 s.ack,.agg [.int .i64 s.atA,.int .i64 s.atB],.agg [.int .i64 s.sgnA,.int .i64 s.sgnB],.agg [.int .i64 s.heldA,.int .i64 s.heldB],.bool s.behind,.agg [.agg (s.ptsA.map u8v),.agg (s.ptsB.map u8v)],.agg (s.sig.map u8v),v_shelf,.int .i64 s.failed,.int .i64 s.closed]
def StM.av (s:StM) (v_ours v_peers v_shelf:ag):ag:=.agg (s.cs v_ours v_peers v_shelf)
structure StM.ok (s:StM):Prop where
 side:I64 s.side
 cap:I64 s.cap
 bo:I64 s.bo
 bp:I64 s.bp
 loc:I64 s.loc
 rem:I64 s.rem
 ack:I64 s.ack
 atA:I64 s.atA
 atB:I64 s.atB
 sgnA:I64 s.sgnA
 sgnB:I64 s.sgnB
 heldA:I64 s.heldA
 heldB:I64 s.heldB
 ptsA:s.ptsA.length = 32
 ptsB:s.ptsB.length = 32
 sig:s.sig.length = 32
 failed:I64 s.failed
 closed:I64 s.closed
theorem StM.szl {s:StM} {v_ours v_peers v_shelf:ag} (h:s.ok) (l:bz v_ours /\ bz v_peers /\ bz v_shelf):(s.cs v_ours v_peers v_shelf).map Esc.sz = [1,1,1,1,1,1,1,1,1,2,2,2,1,64,32,1,1,1]:=by
 simp [StM.cs,Esc.sz,szs,szh h.ptsA,szh h.ptsB,szh h.sig,l.1.1,l.2.1.1,l.2.2.1]
theorem StM.sz {s:StM} {v_ours v_peers v_shelf:ag} (h:s.ok) (l:bz v_ours /\ bz v_peers /\ bz v_shelf):Esc.sz (s.av v_ours v_peers v_shelf) = 115:=by
 have e:=StM.szl h l
 rw [StM.av,Esc.sz,qT,e]; rfl
theorem StM.fits {s:StM} {v_ours v_peers v_shelf:ag} (h:s.ok) (l:bz v_ours /\ bz v_peers /\ bz v_shelf):fa nA (s.av v_ours v_peers v_shelf) = true:=by
 have h1:=StM.sz h l
 have h2:(s.av v_ours v_peers v_shelf).isAgg = true:=rfl
 simp [fa,h1,h2,nA,j4.isAgg]
theorem StM.okv {s:StM} {v_ours v_peers v_shelf:ag} (l:bz v_ours /\ bz v_peers /\ bz v_shelf):Esc.okv (s.av v_ours v_peers v_shelf) = true:=by
 simp [StM.av,StM.cs,Esc.okv,kT,jx,l.1.2.2,l.2.1.2.2,l.2.2.2.2]
section
variable {F0:List AId} {G0 G:ah} {ps:List LP} {i:Nat} {id:AId} {s:StM} {K:ah -> Prop} {v_ours v_peers v_shelf:ag}
theorem St.m8 (hg:G id = some (.own (s.av v_ours v_peers v_shelf))) (h:s.ok) (l:bz v_ours /\ bz v_peers /\ bz v_shelf):af T G au (.ptr id [0] 0) = some (.int .i64 s.side):=ld1 hg (StM.szl h l) rfl rfl hO rfl
theorem St.nI (hg:G id = some (.own (s.av v_ours v_peers v_shelf))) (h:s.ok) (l:bz v_ours /\ bz v_peers /\ bz v_shelf):af T G ai (.ptr id [1] 1) = some (.int .i64 s.cap):=ld1 hg (StM.szl h l) rfl rfl cA rfl
theorem St.FE (hg:G id = some (.own (s.av v_ours v_peers v_shelf))) (h:s.ok) (l:bz v_ours /\ bz v_peers /\ bz v_shelf):af T G ai (.ptr id [2] 2) = some (.int .i64 s.bo):=ld1 hg (StM.szl h l) rfl rfl cA rfl
theorem St.FD (hg:G id = some (.own (s.av v_ours v_peers v_shelf))) (h:s.ok) (l:bz v_ours /\ bz v_peers /\ bz v_shelf):af T G ai (.ptr id [3] 3) = some (.int .i64 s.bp):=ld1 hg (StM.szl h l) rfl rfl cA rfl
theorem St.gG (hg:G id = some (.own (s.av v_ours v_peers v_shelf))) (h:s.ok) (l:bz v_ours /\ bz v_peers /\ bz v_shelf):af T G ak (.ptr id [4] 4) = some (v_ours):=ld1 hg (StM.szl h l) rfl rfl cn (jg l.1 rfl)
theorem St.iP (hg:G id = some (.own (s.av v_ours v_peers v_shelf))) (h:s.ok) (l:bz v_ours /\ bz v_peers /\ bz v_shelf):af T G ak (.ptr id [5] 5) = some (v_peers):=ld1 hg (StM.szl h l) rfl rfl cn (jg l.2.1 rfl)
theorem St.pq (hg:G id = some (.own (s.av v_ours v_peers v_shelf))) (h:s.ok) (l:bz v_ours /\ bz v_peers /\ bz v_shelf):af T G ai (.ptr id [6] 6) = some (.int .i64 s.loc):=ld1 hg (StM.szl h l) rfl rfl cA rfl
theorem St.kq (hg:G id = some (.own (s.av v_ours v_peers v_shelf))) (h:s.ok) (l:bz v_ours /\ bz v_peers /\ bz v_shelf):af T G ai (.ptr id [7] 7) = some (.int .i64 s.rem):=ld1 hg (StM.szl h l) rfl rfl cA rfl
theorem St.mi (hg:G id = some (.own (s.av v_ours v_peers v_shelf))) (h:s.ok) (l:bz v_ours /\ bz v_peers /\ bz v_shelf):af T G ai (.ptr id [8] 8) = some (.int .i64 s.ack):=ld1 hg (StM.szl h l) rfl rfl cA rfl
theorem St.Lh (hg:G id = some (.own (s.av v_ours v_peers v_shelf))) (h:s.ok) (l:bz v_ours /\ bz v_peers /\ bz v_shelf):af T G bG (.ptr id [9] 9) = some (bR s.atA s.atB):=ld1 hg (StM.szl h l) rfl rfl fR rfl
theorem St.KN (hg:G id = some (.own (s.av v_ours v_peers v_shelf))) (h:s.ok) (l:bz v_ours /\ bz v_peers /\ bz v_shelf):af T G au (.ptr id [9,0] 9) = some (.int .i64 s.atA):=ld2 hg (StM.szl h l) rfl rfl (ss2:=[1,1]) rfl rfl rfl rfl hO rfl
theorem St.rf (hg:G id = some (.own (s.av v_ours v_peers v_shelf))) (h:s.ok) (l:bz v_ours /\ bz v_peers /\ bz v_shelf):af T G au (.ptr id [9,1] 10) = some (.int .i64 s.atB):=ld2 hg (StM.szl h l) rfl rfl (ss2:=[1,1]) rfl rfl rfl rfl hO rfl
theorem St.BL (hg:G id = some (.own (s.av v_ours v_peers v_shelf))) (h:s.ok) (l:bz v_ours /\ bz v_peers /\ bz v_shelf):af T G bG (.ptr id [10] 11) = some (bR s.sgnA s.sgnB):=ld1 hg (StM.szl h l) rfl rfl fR rfl
theorem St.BK (hg:G id = some (.own (s.av v_ours v_peers v_shelf))) (h:s.ok) (l:bz v_ours /\ bz v_peers /\ bz v_shelf):af T G au (.ptr id [10,0] 11) = some (.int .i64 s.sgnA):=ld2 hg (StM.szl h l) rfl rfl (ss2:=[1,1]) rfl rfl rfl rfl hO rfl
theorem St.r7 (hg:G id = some (.own (s.av v_ours v_peers v_shelf))) (h:s.ok) (l:bz v_ours /\ bz v_peers /\ bz v_shelf):af T G au (.ptr id [11,0] 13) = some (.int .i64 s.heldA):=ld2 hg (StM.szl h l) rfl rfl (ss2:=[1,1]) rfl rfl rfl rfl hO rfl
theorem St.Iw (hg:G id = some (.own (s.av v_ours v_peers v_shelf))) (h:s.ok) (l:bz v_ours /\ bz v_peers /\ bz v_shelf):af T G au (.ptr id [11,1] 14) = some (.int .i64 s.heldB):=ld2 hg (StM.szl h l) rfl rfl (ss2:=[1,1]) rfl rfl rfl rfl hO rfl
theorem St.GC (hg:G id = some (.own (s.av v_ours v_peers v_shelf))) (h:s.ok) (l:bz v_ours /\ bz v_peers /\ bz v_shelf):af T G ey (.ptr id [12] 15) = some (.bool s.behind):=ld1 hg (StM.szl h l) rfl rfl kC rfl
theorem St.It (hg:G id = some (.own (s.av v_ours v_peers v_shelf))) (h:s.ok) (l:bz v_ours /\ bz v_peers /\ bz v_shelf):af T G cL (.ptr id [13] 16) = some (mj s.ptsA s.ptsB):=ld1 hg (StM.szl h l) rfl rfl lg (rk h.ptsA h.ptsB)
theorem St.uS (hg:G id = some (.own (s.av v_ours v_peers v_shelf))) (h:s.ok) (l:bz v_ours /\ bz v_peers /\ bz v_shelf):af T G aj (.ptr id [13,0] 16) = some (.agg (s.ptsA.map u8v)):=ld2 hg (StM.szl h l) rfl rfl (ss2:=[32,32]) (by simp [Esc.sz,szh h.ptsA,szh h.ptsB]) rfl rfl rfl cd (gu h.ptsA)
theorem St.xR (hg:G id = some (.own (s.av v_ours v_peers v_shelf))) (h:s.ok) (l:bz v_ours /\ bz v_peers /\ bz v_shelf):af T G aj (.ptr id [13,1] 48) = some (.agg (s.ptsB.map u8v)):=ld2 hg (StM.szl h l) rfl rfl (ss2:=[32,32]) (by simp [Esc.sz,szh h.ptsA,szh h.ptsB]) rfl rfl rfl cd (gu h.ptsB)
theorem St.Is (hg:G id = some (.own (s.av v_ours v_peers v_shelf))) (h:s.ok) (l:bz v_ours /\ bz v_peers /\ bz v_shelf):af T G aj (.ptr id [14] 80) = some (.agg (s.sig.map u8v)):=ld1 hg (StM.szl h l) rfl rfl cd (gu h.sig)
theorem St.r6 (hg:G id = some (.own (s.av v_ours v_peers v_shelf))) (h:s.ok) (l:bz v_ours /\ bz v_peers /\ bz v_shelf):af T G bu (.ptr id [15] 112) = some (v_shelf):=ld1 hg (StM.szl h l) rfl rfl iL (jg l.2.2 rfl)
theorem St.GA (hg:G id = some (.own (s.av v_ours v_peers v_shelf))) (h:s.ok) (l:bz v_ours /\ bz v_peers /\ bz v_shelf):af T G au (.ptr id [16] 113) = some (.int .i64 s.failed):=ld1 hg (StM.szl h l) rfl rfl hO rfl
theorem St.GB (hg:G id = some (.own (s.av v_ours v_peers v_shelf))) (h:s.ok) (l:bz v_ours /\ bz v_peers /\ bz v_shelf):af T G ai (.ptr id [17] 114) = some (.int .i64 s.closed):=ld1 hg (StM.szl h l) rfl rfl cA rfl
theorem St.ld (hg:G id = some (.own (s.av v_ours v_peers v_shelf))) (h:s.ok) (l:bz v_ours /\ bz v_peers /\ bz v_shelf):af T G aJ (.ptr id [] 0) = some (s.av v_ours v_peers v_shelf):=cJ lE hg (StM.fits h l)
theorem St.sE (hs:Sp F0 G0 ps G) (hi:ps[i]? = some (ar id (s.av v_ours v_peers v_shelf))) (h:s.ok) (l:bz v_ours /\ bz v_peers /\ bz v_shelf) {x:ag} (hx:bz x) (hK:∀ G',Sp F0 G0 (ps.set i (ar id (s.av x v_peers v_shelf))) G' -> K G'):wg (ax T G ak (.ptr id [4] 4) x) K :=
 fK (st1 (ar.own hs hi) (StM.szl h l) rfl rfl cn (jg hx rfl) (by rw [l.1.1,hx.1]) hx.2.2) (hK _ (Sp.setRow hs hi _))
theorem St.uz (hs:Sp F0 G0 ps G) (hi:ps[i]? = some (ar id (s.av v_ours v_peers v_shelf))) (h:s.ok) (l:bz v_ours /\ bz v_peers /\ bz v_shelf) {x:ag} (hx:bz x) (hK:∀ G',Sp F0 G0 (ps.set i (ar id (s.av v_ours x v_shelf))) G' -> K G'):wg (ax T G ak (.ptr id [5] 5) x) K :=
 fK (st1 (ar.own hs hi) (StM.szl h l) rfl rfl cn (jg hx rfl) (by rw [l.2.1.1,hx.1]) hx.2.2) (hK _ (Sp.setRow hs hi _))
theorem St.KF (hs:Sp F0 G0 ps G) (hi:ps[i]? = some (ar id (s.av v_ours v_peers v_shelf))) (h:s.ok) (l:bz v_ours /\ bz v_peers /\ bz v_shelf) (x:Int) (hK:∀ G',Sp F0 G0 (ps.set i (ar id (({ s with loc:=x }:StM).av v_ours v_peers v_shelf))) G' -> K G'):wg (ax T G ai (.ptr id [6] 6) (.int .i64 x)) K :=
 fK (st1 (ar.own hs hi) (StM.szl h l) rfl rfl cA rfl rfl rfl) (hK _ (Sp.setRow hs hi _))
theorem St.KE (hs:Sp F0 G0 ps G) (hi:ps[i]? = some (ar id (s.av v_ours v_peers v_shelf))) (h:s.ok) (l:bz v_ours /\ bz v_peers /\ bz v_shelf) (x:Int) (hK:∀ G',Sp F0 G0 (ps.set i (ar id (({ s with rem:=x }:StM).av v_ours v_peers v_shelf))) G' -> K G'):wg (ax T G ai (.ptr id [7] 7) (.int .i64 x)) K :=
 fK (st1 (ar.own hs hi) (StM.szl h l) rfl rfl cA rfl rfl rfl) (hK _ (Sp.setRow hs hi _))
theorem St.KG (hs:Sp F0 G0 ps G) (hi:ps[i]? = some (ar id (s.av v_ours v_peers v_shelf))) (h:s.ok) (l:bz v_ours /\ bz v_peers /\ bz v_shelf) (x:Int) (hK:∀ G',Sp F0 G0 (ps.set i (ar id (({ s with ack:=x }:StM).av v_ours v_peers v_shelf))) G' -> K G'):wg (ax T G ai (.ptr id [8] 8) (.int .i64 x)) K :=
 fK (st1 (ar.own hs hi) (StM.szl h l) rfl rfl cA rfl rfl rfl) (hK _ (Sp.setRow hs hi _))
theorem St.K7 (hs:Sp F0 G0 ps G) (hi:ps[i]? = some (ar id (s.av v_ours v_peers v_shelf))) (h:s.ok) (l:bz v_ours /\ bz v_peers /\ bz v_shelf) (x y:Int) (hK:∀ G',Sp F0 G0 (ps.set i (ar id (({ s with atA:=x,atB:=y }:StM).av v_ours v_peers v_shelf))) G' -> K G'):wg (ax T G bG (.ptr id [9] 9) (bR x y)) K :=
 fK (st1 (ar.own hs hi) (StM.szl h l) rfl rfl fR rfl rfl rfl) (hK _ (Sp.setRow hs hi _))
theorem St.KD (hs:Sp F0 G0 ps G) (hi:ps[i]? = some (ar id (s.av v_ours v_peers v_shelf))) (h:s.ok) (l:bz v_ours /\ bz v_peers /\ bz v_shelf) (x y:Int) (hK:∀ G',Sp F0 G0 (ps.set i (ar id (({ s with sgnA:=x,sgnB:=y }:StM).av v_ours v_peers v_shelf))) G' -> K G'):wg (ax T G bG (.ptr id [10] 11) (bR x y)) K :=
 fK (st1 (ar.own hs hi) (StM.szl h l) rfl rfl fR rfl rfl rfl) (hK _ (Sp.setRow hs hi _))
theorem St.Jw (hs:Sp F0 G0 ps G) (hi:ps[i]? = some (ar id (s.av v_ours v_peers v_shelf))) (h:s.ok) (l:bz v_ours /\ bz v_peers /\ bz v_shelf) (x y:Int) (hK:∀ G',Sp F0 G0 (ps.set i (ar id (({ s with heldA:=x,heldB:=y }:StM).av v_ours v_peers v_shelf))) G' -> K G'):wg (ax T G bG (.ptr id [11] 13) (bR x y)) K :=
 fK (st1 (ar.own hs hi) (StM.szl h l) rfl rfl fR rfl rfl rfl) (hK _ (Sp.setRow hs hi _))
theorem St.Ae (hs:Sp F0 G0 ps G) (hi:ps[i]? = some (ar id (s.av v_ours v_peers v_shelf))) (h:s.ok) (l:bz v_ours /\ bz v_peers /\ bz v_shelf) (x:Bool) (hK:∀ G',Sp F0 G0 (ps.set i (ar id (({ s with behind:=x }:StM).av v_ours v_peers v_shelf))) G' -> K G'):wg (ax T G ey (.ptr id [12] 15) (.bool x)) K :=
 fK (st1 (ar.own hs hi) (StM.szl h l) rfl rfl kC rfl rfl rfl) (hK _ (Sp.setRow hs hi _))
theorem St.HO (hs:Sp F0 G0 ps G) (hi:ps[i]? = some (ar id (s.av v_ours v_peers v_shelf))) (h:s.ok) (l:bz v_ours /\ bz v_peers /\ bz v_shelf) {x y:List UInt8} (hx:x.length = 32) (hy:y.length = 32) (hK:∀ G',Sp F0 G0 (ps.set i (ar id (({ s with ptsA:=x,ptsB:=y }:StM).av v_ours v_peers v_shelf))) G' -> K G'):wg (ax T G cL (.ptr id [13] 16) (mj x y)) K :=
 fK (st1 (ar.own hs hi) (StM.szl h l) rfl rfl lg (rk hx hy) (by simp [mj,Esc.sz,szs,szh hx,szh hy,szh h.ptsA,szh h.ptsB]) (by simp [mj,Esc.okv,kT,jx])) (hK _ (Sp.setRow hs hi _))
theorem St.HN (hs:Sp F0 G0 ps G) (hi:ps[i]? = some (ar id (s.av v_ours v_peers v_shelf))) (h:s.ok) (l:bz v_ours /\ bz v_peers /\ bz v_shelf) {x:List UInt8} (hx:x.length = 32) (hK:∀ G',Sp F0 G0 (ps.set i (ar id (({ s with sig:=x }:StM).av v_ours v_peers v_shelf))) G' -> K G'):wg (ax T G aj (.ptr id [14] 80) (.agg (x.map u8v))) K :=
 fK (st1 (ar.own hs hi) (StM.szl h l) rfl rfl cd (gu hx) (by simp [Esc.sz,szh hx,szh h.sig]) (by simp [Esc.okv,jx])) (hK _ (Sp.setRow hs hi _))
theorem St.yv (hs:Sp F0 G0 ps G) (hi:ps[i]? = some (ar id (s.av v_ours v_peers v_shelf))) (h:s.ok) (l:bz v_ours /\ bz v_peers /\ bz v_shelf) {x:ag} (hx:bz x) (hK:∀ G',Sp F0 G0 (ps.set i (ar id (s.av v_ours v_peers x))) G' -> K G'):wg (ax T G bu (.ptr id [15] 112) x) K :=
 fK (st1 (ar.own hs hi) (StM.szl h l) rfl rfl iL (jg hx rfl) (by rw [l.2.2.1,hx.1]) hx.2.2) (hK _ (Sp.setRow hs hi _))
theorem St.st (hs:Sp F0 G0 ps G) (hi:ps[i]? = some (ar id (s.av v_ours v_peers v_shelf))) (h:s.ok) (l:bz v_ours /\ bz v_peers /\ bz v_shelf) {s':StM} {w_ours w_peers w_shelf:ag} (h':s'.ok) (m:bz w_ours /\ bz w_peers /\ bz w_shelf) (hK:∀ G',Sp F0 G0 (ps.set i (ar id (s'.av w_ours w_peers w_shelf))) G' -> K G'):wg (ax T G aJ (.ptr id [] 0) (s'.av w_ours w_peers w_shelf)) K :=
 fK (il lE (ar.own hs hi) (StM.fits h' m) (by rw [StM.sz h l,StM.sz h' m]) (StM.okv m)) (hK _ (Sp.setRow hs hi _))
theorem St.nw {s':StM} {w_ours w_peers w_shelf:ag} (hs:Sp F0 G0 ps G) (h':s'.ok) (m:bz w_ours /\ bz w_peers /\ bz w_shelf) {K:AId -> ah -> Prop} (hK:∀ i G',Sp F0 G0 (ar i (s'.av w_ours w_peers w_shelf) :: ps) G' -> K i G'):br G (.own iT) fun i G2=>wg (ax T G2 aJ (.ptr i [] 0) (s'.av w_ours w_peers w_shelf)) fun G3=>K i G3 :=
 jQ hs lE (StM.fits h' m) (by rw [StM.sz h' m]; rfl) (StM.okv m) hK
end
end Go.Esc.M
set_option linter.unusedSimpArgs false
set_option linter.unusedVariables false
set_option maxRecDepth 20000
namespace Go.Esc.M
open Go Go.Esc
structure RcM where
 kind:Int
 upd:aK
 index:Int
 cntA:Int
 cntB:Int
 sig:List UInt8
 secret:List UInt8
 point:List UInt8
 code:Int
 deriving DecidableEq
def RcM.cs (s:RcM) (v_upds:ag):List ag:=[.int .i64 s.kind,s.upd.av,v_upds,.int .i64 s.index,.agg [.int .i64 s.cntA,.int .i64 s.cntB],.agg (s.sig.map u8v),.agg (s.secret.map u8v),.agg (s.point.map u8v),.int .i64 s.code]
def RcM.av (s:RcM) (v_upds:ag):ag:=.agg (s.cs v_upds)
structure RcM.ok (s:RcM):Prop where
 kind:I64 s.kind
 upd:s.upd.ok
 index:I64 s.index
 cntA:I64 s.cntA
 cntB:I64 s.cntB
 sig:s.sig.length = 32
 secret:s.secret.length = 32
 point:s.point.length = 32
 code:I64 s.code
theorem RcM.szl {s:RcM} {v_upds:ag} (h:s.ok) (l:bz v_upds):(s.cs v_upds).map Esc.sz = [1,36,1,1,2,32,32,32,1]:=by
 simp [RcM.cs,Esc.sz,szs,aK.sz h.upd,szh h.sig,szh h.secret,szh h.point,l.1]
theorem RcM.sz {s:RcM} {v_upds:ag} (h:s.ok) (l:bz v_upds):Esc.sz (s.av v_upds) = 138:=by
 have e:=RcM.szl h l
 rw [RcM.av,Esc.sz,qT,e]; rfl
theorem RcM.fits {s:RcM} {v_upds:ag} (h:s.ok) (l:bz v_upds):fa mQ (s.av v_upds) = true:=by
 have h1:=RcM.sz h l
 have h2:(s.av v_upds).isAgg = true:=rfl
 simp [fa,h1,h2,mQ,j4.isAgg]
theorem RcM.okv {s:RcM} {v_upds:ag} (l:bz v_upds):Esc.okv (s.av v_upds) = true:=by
 simp [RcM.av,RcM.cs,Esc.okv,kT,jx,l.2.2,aK.okv _]
section
variable {F0:List AId} {G0 G:ah} {ps:List LP} {i:Nat} {id:AId} {s:RcM} {K:ah -> Prop} {v_upds:ag}
theorem Rc.uT (hg:G id = some (.own (s.av v_upds))) (h:s.ok) (l:bz v_upds):af T G au (.ptr id [0] 0) = some (.int .i64 s.kind):=ld1 hg (RcM.szl h l) rfl rfl hO rfl
theorem Rc.Ir (hg:G id = some (.own (s.av v_upds))) (h:s.ok) (l:bz v_upds):af T G aI (.ptr id [1] 1) = some (s.upd.av):=ld1 hg (RcM.szl h l) rfl rfl fC (aK.fits h.upd)
theorem Rc.FB (hg:G id = some (.own (s.av v_upds))) (h:s.ok) (l:bz v_upds):af T G ak (.ptr id [2] 37) = some (v_upds):=ld1 hg (RcM.szl h l) rfl rfl cn (jg l rfl)
theorem Rc.mS (hg:G id = some (.own (s.av v_upds))) (h:s.ok) (l:bz v_upds):af T G ai (.ptr id [3] 38) = some (.int .i64 s.index):=ld1 hg (RcM.szl h l) rfl rfl cA rfl
theorem Rc.KM (hg:G id = some (.own (s.av v_upds))) (h:s.ok) (l:bz v_upds):af T G bG (.ptr id [4] 39) = some (bR s.cntA s.cntB):=ld1 hg (RcM.szl h l) rfl rfl fR rfl
theorem Rc.BN (hg:G id = some (.own (s.av v_upds))) (h:s.ok) (l:bz v_upds):af T G au (.ptr id [4,0] 39) = some (.int .i64 s.cntA):=ld2 hg (RcM.szl h l) rfl rfl (ss2:=[1,1]) rfl rfl rfl rfl hO rfl
theorem Rc.JM (hg:G id = some (.own (s.av v_upds))) (h:s.ok) (l:bz v_upds):af T G au (.ptr id [4,1] 40) = some (.int .i64 s.cntB):=ld2 hg (RcM.szl h l) rfl rfl (ss2:=[1,1]) rfl rfl rfl rfl hO rfl
theorem Rc.Is (hg:G id = some (.own (s.av v_upds))) (h:s.ok) (l:bz v_upds):af T G aj (.ptr id [5] 41) = some (.agg (s.sig.map u8v)):=ld1 hg (RcM.szl h l) rfl rfl cd (gu h.sig)
theorem Rc.Gz (hg:G id = some (.own (s.av v_upds))) (h:s.ok) (l:bz v_upds):af T G aj (.ptr id [6] 73) = some (.agg (s.secret.map u8v)):=ld1 hg (RcM.szl h l) rfl rfl cd (gu h.secret)
theorem Rc.Iu (hg:G id = some (.own (s.av v_upds))) (h:s.ok) (l:bz v_upds):af T G aj (.ptr id [7] 105) = some (.agg (s.point.map u8v)):=ld1 hg (RcM.szl h l) rfl rfl cd (gu h.point)
theorem Rc.ld (hg:G id = some (.own (s.av v_upds))) (h:s.ok) (l:bz v_upds):af T G aD (.ptr id [] 0) = some (s.av v_upds):=cJ oV hg (RcM.fits h l)
theorem Rc.HN (hs:Sp F0 G0 ps G) (hi:ps[i]? = some (ar id (s.av v_upds))) (h:s.ok) (l:bz v_upds) {x:List UInt8} (hx:x.length = 32) (hK:∀ G',Sp F0 G0 (ps.set i (ar id (({ s with sig:=x }:RcM).av v_upds))) G' -> K G'):wg (ax T G aj (.ptr id [5] 41) (.agg (x.map u8v))) K :=
 fK (st1 (ar.own hs hi) (RcM.szl h l) rfl rfl cd (gu hx) (by simp [Esc.sz,szh hx,szh h.sig]) (by simp [Esc.okv,jx])) (hK _ (Sp.setRow hs hi _))
theorem Rc.st (hs:Sp F0 G0 ps G) (hi:ps[i]? = some (ar id (s.av v_upds))) (h:s.ok) (l:bz v_upds) {s':RcM} {w_upds:ag} (h':s'.ok) (m:bz w_upds) (hK:∀ G',Sp F0 G0 (ps.set i (ar id (s'.av w_upds))) G' -> K G'):wg (ax T G aD (.ptr id [] 0) (s'.av w_upds)) K :=
 fK (il oV (ar.own hs hi) (RcM.fits h' m) (by rw [RcM.sz h l,RcM.sz h' m]) (RcM.okv m)) (hK _ (Sp.setRow hs hi _))
theorem Rc.nw {s':RcM} {w_upds:ag} (hs:Sp F0 G0 ps G) (h':s'.ok) (m:bz w_upds) {K:AId -> ah -> Prop} (hK:∀ i G',Sp F0 G0 (ar i (s'.av w_upds) :: ps) G' -> K i G'):br G (.own iY) fun i G2=>wg (ax T G2 aD (.ptr i [] 0) (s'.av w_upds)) fun G3=>K i G3 :=
 jQ hs oV (RcM.fits h' m) (by rw [RcM.sz h' m]; rfl) (RcM.okv m) hK
end
end Go.Esc.M
set_option linter.unusedSimpArgs false
set_option linter.unusedVariables false
set_option maxRecDepth 20000
namespace Go.Esc.M
open Go Go.Esc
structure CfM where
 side:Int
 cap:Int
 ours:Int
 seed:List UInt8
 key:List UInt8
 pkey:List UInt8
 ptsA:List UInt8
 ptsB:List UInt8
 seg:Int
def CfM.cs (s:CfM):List ag:=[.int .i64 s.side,.int .i64 s.cap,.int .i64 s.ours,.agg (s.seed.map u8v),.agg (s.key.map u8v),.agg (s.pkey.map u8v),.agg [.agg (s.ptsA.map u8v),.agg (s.ptsB.map u8v)],.int .i64 s.seg]
def CfM.av (s:CfM):ag:=.agg (s.cs )
structure CfM.ok (s:CfM):Prop where
 side:I64 s.side
 cap:I64 s.cap
 ours:I64 s.ours
 seed:s.seed.length = 32
 key:s.key.length = 32
 pkey:s.pkey.length = 32
 ptsA:s.ptsA.length = 32
 ptsB:s.ptsB.length = 32
 seg:I64 s.seg
theorem CfM.szl {s:CfM} (h:s.ok):(s.cs ).map Esc.sz = [1,1,1,32,32,32,64,1]:=by
 simp [CfM.cs,Esc.sz,szs,szh h.seed,szh h.key,szh h.pkey,szh h.ptsA,szh h.ptsB]
theorem CfM.sz {s:CfM} (h:s.ok):Esc.sz (s.av ) = 164:=by
 have e:=CfM.szl h
 rw [CfM.av,Esc.sz,qT,e]; rfl
theorem CfM.fits {s:CfM} (h:s.ok):fa lN (s.av ) = true:=by
 have h1:=CfM.sz h
 have h2:(s.av ).isAgg = true:=rfl
 simp [fa,h1,h2,lN,j4.isAgg]
theorem CfM.okv {s:CfM}:Esc.okv (s.av ) = true:=by
 simp [CfM.av,CfM.cs,Esc.okv,kT,jx]
section
variable {F0:List AId} {G0 G:ah} {ps:List LP} {i:Nat} {id:AId} {s:CfM} {K:ah -> Prop}
theorem Cf.m8 (hg:G id = some (.own (s.av ))) (h:s.ok):af T G au (.ptr id [0] 0) = some (.int .i64 s.side):=ld1 hg (CfM.szl h ) rfl rfl hO rfl
theorem Cf.nI (hg:G id = some (.own (s.av ))) (h:s.ok):af T G ai (.ptr id [1] 1) = some (.int .i64 s.cap):=ld1 hg (CfM.szl h ) rfl rfl cA rfl
theorem Cf.gG (hg:G id = some (.own (s.av ))) (h:s.ok):af T G ai (.ptr id [2] 2) = some (.int .i64 s.ours):=ld1 hg (CfM.szl h ) rfl rfl cA rfl
theorem Cf.pT (hg:G id = some (.own (s.av ))) (h:s.ok):af T G aj (.ptr id [3] 3) = some (.agg (s.seed.map u8v)):=ld1 hg (CfM.szl h ) rfl rfl cd (gu h.seed)
theorem Cf.Iv (hg:G id = some (.own (s.av ))) (h:s.ok):af T G aj (.ptr id [4] 35) = some (.agg (s.key.map u8v)):=ld1 hg (CfM.szl h ) rfl rfl cd (gu h.key)
theorem Cf.JL (hg:G id = some (.own (s.av ))) (h:s.ok):af T G aj (.ptr id [5] 67) = some (.agg (s.pkey.map u8v)):=ld1 hg (CfM.szl h ) rfl rfl cd (gu h.pkey)
theorem Cf.It (hg:G id = some (.own (s.av ))) (h:s.ok):af T G cL (.ptr id [6] 99) = some (mj s.ptsA s.ptsB):=ld1 hg (CfM.szl h ) rfl rfl lg (rk h.ptsA h.ptsB)
theorem Cf.uS (hg:G id = some (.own (s.av ))) (h:s.ok):af T G aj (.ptr id [6,0] 99) = some (.agg (s.ptsA.map u8v)):=ld2 hg (CfM.szl h ) rfl rfl (ss2:=[32,32]) (by simp [Esc.sz,szh h.ptsA,szh h.ptsB]) rfl rfl rfl cd (gu h.ptsA)
theorem Cf.xR (hg:G id = some (.own (s.av ))) (h:s.ok):af T G aj (.ptr id [6,1] 131) = some (.agg (s.ptsB.map u8v)):=ld2 hg (CfM.szl h ) rfl rfl (ss2:=[32,32]) (by simp [Esc.sz,szh h.ptsA,szh h.ptsB]) rfl rfl rfl cd (gu h.ptsB)
theorem Cf.ld (hg:G id = some (.own (s.av ))) (h:s.ok):af T G cl (.ptr id [] 0) = some (s.av ):=cJ j9 hg (CfM.fits h )
theorem Cf.sE (hs:Sp F0 G0 ps G) (hi:ps[i]? = some (ar id (s.av ))) (h:s.ok) (x:Int) (hK:∀ G',Sp F0 G0 (ps.set i (ar id (({ s with ours:=x }:CfM).av ))) G' -> K G'):wg (ax T G ai (.ptr id [2] 2) (.int .i64 x)) K :=
 fK (st1 (ar.own hs hi) (CfM.szl h ) rfl rfl cA rfl rfl rfl) (hK _ (Sp.setRow hs hi _))
theorem Cf.HO (hs:Sp F0 G0 ps G) (hi:ps[i]? = some (ar id (s.av ))) (h:s.ok) {x y:List UInt8} (hx:x.length = 32) (hy:y.length = 32) (hK:∀ G',Sp F0 G0 (ps.set i (ar id (({ s with ptsA:=x,ptsB:=y }:CfM).av ))) G' -> K G'):wg (ax T G cL (.ptr id [6] 99) (mj x y)) K :=
 fK (st1 (ar.own hs hi) (CfM.szl h ) rfl rfl lg (rk hx hy) (by simp [mj,Esc.sz,szs,szh hx,szh hy,szh h.ptsA,szh h.ptsB]) (by simp [mj,Esc.okv,kT,jx])) (hK _ (Sp.setRow hs hi _))
theorem Cf.st (hs:Sp F0 G0 ps G) (hi:ps[i]? = some (ar id (s.av ))) (h:s.ok) {s':CfM} (h':s'.ok) (hK:∀ G',Sp F0 G0 (ps.set i (ar id (s'.av ))) G' -> K G'):wg (ax T G cl (.ptr id [] 0) (s'.av )) K :=
 fK (il j9 (ar.own hs hi) (CfM.fits h' ) (by rw [CfM.sz h ,CfM.sz h' ]) (CfM.okv )) (hK _ (Sp.setRow hs hi _))
theorem Cf.nw {s':CfM} (hs:Sp F0 G0 ps G) (h':s'.ok) {K:AId -> ah -> Prop} (hK:∀ i G',Sp F0 G0 (ar i (s'.av ) :: ps) G' -> K i G'):br G (.own nz) fun i G2=>wg (ax T G2 cl (.ptr i [] 0) (s'.av )) fun G3=>K i G3 :=
 jQ hs j9 (CfM.fits h' ) (by rw [CfM.sz h' ]; rfl) (CfM.okv ) hK
end
end Go.Esc.M
set_option linter.unusedSimpArgs false
set_option linter.unusedVariables false
set_option maxRecDepth 20000
namespace Go.Esc.M
open Go Go.Esc
structure DlM where
 cap:Int
 ours:Int
 seedsA:List UInt8
 seedsB:List UInt8
 keysA:List UInt8
 keysB:List UInt8
def DlM.cs (s:DlM):List ag:=[.int .i64 s.cap,.int .i64 s.ours,.agg [.agg (s.seedsA.map u8v),.agg (s.seedsB.map u8v)],.agg [.agg (s.keysA.map u8v),.agg (s.keysB.map u8v)]]
def DlM.av (s:DlM):ag:=.agg (s.cs )
structure DlM.ok (s:DlM):Prop where
 cap:I64 s.cap
 ours:I64 s.ours
 seedsA:s.seedsA.length = 32
 seedsB:s.seedsB.length = 32
 keysA:s.keysA.length = 32
 keysB:s.keysB.length = 32
theorem DlM.szl {s:DlM} (h:s.ok):(s.cs ).map Esc.sz = [1,1,64,64]:=by
 simp [DlM.cs,Esc.sz,szs,szh h.seedsA,szh h.seedsB,szh h.keysA,szh h.keysB]
theorem DlM.sz {s:DlM} (h:s.ok):Esc.sz (s.av ) = 130:=by
 have e:=DlM.szl h
 rw [DlM.av,Esc.sz,qT,e]; rfl
theorem DlM.fits {s:DlM} (h:s.ok):fa j2 (s.av ) = true:=by
 have h1:=DlM.sz h
 have h2:(s.av ).isAgg = true:=rfl
 simp [fa,h1,h2,j2,j4.isAgg]
theorem DlM.okv {s:DlM}:Esc.okv (s.av ) = true:=by
 simp [DlM.av,DlM.cs,Esc.okv,kT,jx]
section
variable {F0:List AId} {G0 G:ah} {ps:List LP} {i:Nat} {id:AId} {s:DlM} {K:ah -> Prop}
theorem Dl.nI (hg:G id = some (.own (s.av ))) (h:s.ok):af T G ai (.ptr id [0] 0) = some (.int .i64 s.cap):=ld1 hg (DlM.szl h ) rfl rfl cA rfl
theorem Dl.gG (hg:G id = some (.own (s.av ))) (h:s.ok):af T G ai (.ptr id [1] 1) = some (.int .i64 s.ours):=ld1 hg (DlM.szl h ) rfl rfl cA rfl
theorem Dl.o6 (hg:G id = some (.own (s.av ))) (h:s.ok):af T G aj (.ptr id [2,0] 2) = some (.agg (s.seedsA.map u8v)):=ld2 hg (DlM.szl h ) rfl rfl (ss2:=[32,32]) (by simp [Esc.sz,szh h.seedsA,szh h.seedsB]) rfl rfl rfl cd (gu h.seedsA)
theorem Dl.o5 (hg:G id = some (.own (s.av ))) (h:s.ok):af T G aj (.ptr id [2,1] 34) = some (.agg (s.seedsB.map u8v)):=ld2 hg (DlM.szl h ) rfl rfl (ss2:=[32,32]) (by simp [Esc.sz,szh h.seedsA,szh h.seedsB]) rfl rfl rfl cd (gu h.seedsB)
theorem Dl.qx (hg:G id = some (.own (s.av ))) (h:s.ok):af T G aj (.ptr id [3,0] 66) = some (.agg (s.keysA.map u8v)):=ld2 hg (DlM.szl h ) rfl rfl (ss2:=[32,32]) (by simp [Esc.sz,szh h.keysA,szh h.keysB]) rfl rfl rfl cd (gu h.keysA)
theorem Dl.qw (hg:G id = some (.own (s.av ))) (h:s.ok):af T G aj (.ptr id [3,1] 98) = some (.agg (s.keysB.map u8v)):=ld2 hg (DlM.szl h ) rfl rfl (ss2:=[32,32]) (by simp [Esc.sz,szh h.keysA,szh h.keysB]) rfl rfl rfl cd (gu h.keysB)
theorem Dl.ld (hg:G id = some (.own (s.av ))) (h:s.ok):af T G dj (.ptr id [] 0) = some (s.av ):=cJ lJ hg (DlM.fits h )
theorem Dl.sE (hs:Sp F0 G0 ps G) (hi:ps[i]? = some (ar id (s.av ))) (h:s.ok) (x:Int) (hK:∀ G',Sp F0 G0 (ps.set i (ar id (({ s with ours:=x }:DlM).av ))) G' -> K G'):wg (ax T G ai (.ptr id [1] 1) (.int .i64 x)) K :=
 fK (st1 (ar.own hs hi) (DlM.szl h ) rfl rfl cA rfl rfl rfl) (hK _ (Sp.setRow hs hi _))
theorem Dl.st (hs:Sp F0 G0 ps G) (hi:ps[i]? = some (ar id (s.av ))) (h:s.ok) {s':DlM} (h':s'.ok) (hK:∀ G',Sp F0 G0 (ps.set i (ar id (s'.av ))) G' -> K G'):wg (ax T G dj (.ptr id [] 0) (s'.av )) K :=
 fK (il lJ (ar.own hs hi) (DlM.fits h' ) (by rw [DlM.sz h ,DlM.sz h' ]) (DlM.okv )) (hK _ (Sp.setRow hs hi _))
theorem Dl.nw {s':DlM} (hs:Sp F0 G0 ps G) (h':s'.ok) {K:AId -> ah -> Prop} (hK:∀ i G',Sp F0 G0 (ar i (s'.av ) :: ps) G' -> K i G'):br G (.own pc) fun i G2=>wg (ax T G2 dj (.ptr i [] 0) (s'.av )) fun G3=>K i G3 :=
 jQ hs lJ (DlM.fits h' ) (by rw [DlM.sz h' ]; rfl) (DlM.okv ) hK
end
end Go.Esc.M
set_option linter.unusedSimpArgs false
set_option linter.unusedVariables false
set_option maxRecDepth 20000
namespace Go.Esc.M
open Go Go.Esc
structure ik where
 kind:Int
 side:Bool
 amount:Int
 id:Int
 hash:List UInt8
 note:List UInt8
 index:Int
def ik.cs (s:ik):List ag:=[.int .i64 s.kind,.bool s.side,.int .i64 s.amount,.int .i64 s.id,.agg (s.hash.map u8v),.str s.note,.int .i64 s.index]
def ik.av (s:ik):ag:=.agg (s.cs )
structure ik.ok (s:ik):Prop where
 kind:I64 s.kind
 amount:I64 s.amount
 id:I64 s.id
 hash:s.hash.length = 32
 note:s.note.length ≤ 9223372036854775807
 index:I64 s.index
theorem ik.szl {s:ik} (h:s.ok):(s.cs ).map Esc.sz = [1,1,1,1,32,1,1]:=by
 simp [ik.cs,Esc.sz,szs,szh h.hash]
theorem ik.sz {s:ik} (h:s.ok):Esc.sz (s.av ) = 38:=by
 have e:=ik.szl h
 rw [ik.av,Esc.sz,qT,e]; rfl
theorem ik.fits {s:ik} (h:s.ok):fa jU (s.av ) = true:=by
 have h1:=ik.sz h
 have h2:(s.av ).isAgg = true:=rfl
 simp [fa,h1,h2,jU,j4.isAgg]
theorem ik.okv {s:ik}:Esc.okv (s.av ) = true:=by
 simp [ik.av,ik.cs,Esc.okv,kT,jx]
section
variable {F0:List AId} {G0 G:ah} {ps:List LP} {i:Nat} {id:AId} {s:ik} {K:ah -> Prop}
theorem Oq.uT (hg:G id = some (.own (s.av ))) (h:s.ok):af T G au (.ptr id [0] 0) = some (.int .i64 s.kind):=ld1 hg (ik.szl h ) rfl rfl hO rfl
theorem Oq.m8 (hg:G id = some (.own (s.av ))) (h:s.ok):af T G ey (.ptr id [1] 1) = some (.bool s.side):=ld1 hg (ik.szl h ) rfl rfl kC rfl
theorem Oq.GD (hg:G id = some (.own (s.av ))) (h:s.ok):af T G ai (.ptr id [2] 2) = some (.int .i64 s.amount):=ld1 hg (ik.szl h ) rfl rfl cA rfl
theorem Oq.Ki (hg:G id = some (.own (s.av ))) (h:s.ok):af T G ai (.ptr id [3] 3) = some (.int .i64 s.id):=ld1 hg (ik.szl h ) rfl rfl cA rfl
theorem Oq.BM (hg:G id = some (.own (s.av ))) (h:s.ok):af T G aj (.ptr id [4] 4) = some (.agg (s.hash.map u8v)):=ld1 hg (ik.szl h ) rfl rfl cd (gu h.hash)
theorem Oq.FC (hg:G id = some (.own (s.av ))) (h:s.ok):af T G bH (.ptr id [5] 36) = some (.str s.note):=ld1 hg (ik.szl h ) rfl rfl fZ rfl
theorem Oq.mS (hg:G id = some (.own (s.av ))) (h:s.ok):af T G ai (.ptr id [6] 37) = some (.int .i64 s.index):=ld1 hg (ik.szl h ) rfl rfl cA rfl
theorem Oq.ld (hg:G id = some (.own (s.av ))) (h:s.ok):af T G gJ (.ptr id [] 0) = some (s.av ):=cJ jH hg (ik.fits h )
theorem Oq.st (hs:Sp F0 G0 ps G) (hi:ps[i]? = some (ar id (s.av ))) (h:s.ok) {s':ik} (h':s'.ok) (hK:∀ G',Sp F0 G0 (ps.set i (ar id (s'.av ))) G' -> K G'):wg (ax T G gJ (.ptr id [] 0) (s'.av )) K :=
 fK (il jH (ar.own hs hi) (ik.fits h' ) (by rw [ik.sz h ,ik.sz h' ]) (ik.okv )) (hK _ (Sp.setRow hs hi _))
theorem Oq.nw {s':ik} (hs:Sp F0 G0 ps G) (h':s'.ok) {K:AId -> ah -> Prop} (hK:∀ i G',Sp F0 G0 (ar i (s'.av ) :: ps) G' -> K i G'):br G (.own qf) fun i G2=>wg (ax T G2 gJ (.ptr i [] 0) (s'.av )) fun G3=>K i G3 :=
 jQ hs jH (ik.fits h' ) (by rw [ik.sz h' ]; rfl) (ik.okv ) hK
end
end Go.Esc.M
set_option linter.unusedSimpArgs false
set_option linter.unusedVariables false
set_option maxRecDepth 20000
namespace Go.Esc.M
open Go Go.Esc
theorem kO {u:aK} (h:dC u = true):0 ≤ u.id /\ u.id < 2048 /\ ((u.kind = 1 /\ 1 ≤ u.amount /\ u.amount ≤ 1152921504606846976 /\ u.note = []) \/ (u.kind = 2 /\ u.amount = 0 /\ u.note = []) \/ (u.kind = 3 /\ u.amount = 0 /\ u.hash = h0 /\ u.note.length ≤ 64)):=by
 unfold dC C7 at h
 simp only [Bool.and_eq_true,decide_eq_true_eq] at h
 obtain ⟨h1,h2,h3⟩:=h
 refine ⟨h1,h2,?_⟩
 split at h3
 ·simp only [Bool.and_eq_true,decide_eq_true_eq] at h3
  rename_i hk
  exact .inl ⟨hk,h3.1,h3.2.1,h3.2.2⟩
 split at h3
 ·simp only [Bool.and_eq_true,decide_eq_true_eq] at h3
  rename_i hk
  exact .inr (.inl ⟨hk,h3.1,h3.2⟩)
 split at h3
 ·simp only [Bool.and_eq_true,decide_eq_true_eq] at h3
  rename_i hk
  exact .inr (.inr ⟨hk,h3.1,h3.2.1,h3.2.2⟩)
 ·cases h3
section
variable {F0:List AId} {G0 G:ah} {ps:List LP} {Q:ag -> ah -> Prop}
theorem Gi {i:AId} {u:aK} (h:u.ok) (hg:G i = some (.own u.av)):∃ x,fj T aj (.ptr i [3] 3) none none none = some x /\ fV 1 G x (u.hash.map u8v):=by
 have e1:T aj = some fE:=cd
 have e2:fE.desc = .array 32 cg:=rfl
 refine ⟨.slice i [3] 0 3 32 32,by simp [fj,e1,e2,dz,jh,j7,fY],.inl ⟨_,_,_,_,_,_,rfl,?_⟩⟩
 have hh:=h.hash
 have ha:kg G 1 i [3] 0 3 = some (u.hash.map u8v):=by
  simp [kg,mo,hg,kZ,aK.av,aK.cs,sub,szs,Esc.sz,ji]
 rw [fT,ha]
 simp [hh,List.take_of_length_le]
end
end Go.Esc.M
