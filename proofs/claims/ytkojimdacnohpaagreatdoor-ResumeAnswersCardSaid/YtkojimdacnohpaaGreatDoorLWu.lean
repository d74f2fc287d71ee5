import Derived.Test.YtkojimdacnohpaaGreatDoorLWf
import Derived.Test.YtkojimdacnohpaaGreatDoorLUe
import Derived.Test.YtkojimdacnohpaaGreatDoorLMn
import Derived.Test.YtkojimdacnohpaaGreatDoorLWa
set_option maxHeartbeats 4000000
set_option linter.unusedSimpArgs false
set_option linter.unusedVariables false
set_option maxRecDepth 20000
namespace Go.Esc.M
open Go Go.Esc
theorem yP {o p:List aK} {a b:Int} (ha:0 ≤ a) (h:a ≤ b):kp o p b ≤ kp o p a:=by
 unfold kp qE dP
 rw [List.length_map,List.length_map,<- List.countP_eq_length_filter,<- List.countP_eq_length_filter]
 refine List.countP_mono_left fun u hu ho=>?_
 simp only [Bool.and_eq_true,decide_eq_true_eq] at ho ⊢
 refine ⟨ho.1,ho.2.1,?_⟩
 refine Classical.byContradiction fun hne=>?_
 have:=oZ (id:=u.id) (l:=p) (show a.toNat ≤ b.toNat by omega) hne
 rw [this] at ho
 exact hne ho.2.2
theorem yO (o p:List aK) (u:aK) (a:Int):kp (o ++ [u]) p a ≤ kp o p a + (if u.kind = 1 then 1 else 0):=by
 unfold kp qE
 rw [List.length_map,List.length_map,List.filter_append,List.length_append]
 refine Nat.add_le_add_left ?_ _
 simp only [List.filter_cons,List.filter_nil]
 by_cases h:u.kind = 1
 ·rw [if_pos h]
  split <;> simp
 ·rw [if_neg h,decide_eq_false h,Bool.false_and]
  simp
theorem yY {A X:List aK} {u:aK} (h:jW A X u = 0):A.length < 2048:=by
 refine Classical.byContradiction fun hn=>?_
 unfold jW at h
 rw [if_pos (by omega)] at h
 cases h
theorem toNat_le {a:Int} {n:Nat} (h:a ≤ (n:Int)):a.toNat ≤ n:=by omega
theorem iC.ours {f:StF} (I:iC f) {u:aK} (hu:u.ok) (hn:jW f.o (f.p.take f.s.heldB.toNat) u = 0) (ha:u.kind = 1 -> u.amount ≤ SB f.s.bo f.o f.p f.s.atA.toNat f.s.heldB.toNat /\ kp f.o f.p f.s.heldB < 483):iC (sj f u):=by
 have hlt:=yY hn
 obtain ⟨hv,h1,h2⟩:=mh hn
 have hA:f.s.atA.toNat ≤ f.o.length:=toNat_le (by have:=I.a1; have:=I.a2; have:=I.a3; omega)
 have e1:(f.o ++ [u]).take f.s.atA.toNat = f.o.take f.s.atA.toNat:=lO f.o u hA
 have hb:nQ f.s.bo f.s.bp (f.o ++ [u]) f.p f.s.atA.toNat f.s.heldB.toNat:=by
  by_cases hk:u.kind = 1
  ·exact I.book.add hlt hk (h1 hk) hu hv (ha hk).1
  ·obtain ⟨b,_,b2,b3,b4⟩:=rl (h2 hk).1
   exact I.book.rem hlt hk ⟨b,b2,b3,b4⟩ hu hv
 refine ⟨I.ok,qt I.oko hu,I.okp,I.okh,I.lh,I.a0,I.a1,I.a2,?_,I.b0,I.b1,I.b2,I.b3,y9 I.go hn,?_,hb.s0,hb.s1,?_,?_,I.bo,I.bp,I.cap,I.capm,I.side,I.loc0,I.loc1,I.ack0,I.rem,I.rem1⟩
 ·show f.s.sgnA ≤ ((f.o ++ [u]).length:Nat)
  rw [List.length_append]; have:=I.a3; omega
 ·show n0 f.p ((f.o ++ [u]).take f.s.atA.toNat)
  rw [e1]; exact I.gp
 ·show kp (f.o ++ [u]) f.p f.s.heldB ≤ 483
  have:=yO f.o f.p u f.s.heldB
  by_cases hk:u.kind = 1
  ·rw [if_pos hk] at this; have:=(ha hk).2; omega
  ·rw [if_neg hk] at this; have:=I.no; omega
 ·show kp f.p (f.o ++ [u]) f.s.atA ≤ 483
  have e:kp f.p (f.o ++ [u]) f.s.atA = kp f.p f.o f.s.atA:=by unfold kp dP; rw [e1]
  rw [e]; exact I.np
theorem iC.jA {f:StF} (I:iC f) {u:aK} (hu:u.ok) (hn:jW f.p (f.o.take f.s.atA.toNat) u = 0) (ha:u.kind = 1 -> u.amount ≤ SB f.s.bp f.p f.o f.s.heldB.toNat f.s.atA.toNat /\ kp f.p f.o f.s.atA < 483):iC ⟨f.s,f.o,f.p ++ [u],f.h⟩:=by
 have hlt:=yY hn
 obtain ⟨hv,h1,h2⟩:=mh hn
 have hB:f.s.heldB.toNat ≤ f.p.length:=toNat_le (by have:=I.b1; have:=I.b2; have:=I.b3; omega)
 have e1:(f.p ++ [u]).take f.s.heldB.toNat = f.p.take f.s.heldB.toNat:=lO f.p u hB
 have hb:nQ f.s.bp f.s.bo (f.p ++ [u]) f.o f.s.heldB.toNat f.s.atA.toNat:=by
  by_cases hk:u.kind = 1
  ·exact I.book.swap.add hlt hk (h1 hk) hu hv (ha hk).1
  ·obtain ⟨b,_,b2,b3,b4⟩:=rl (h2 hk).1
   exact I.book.swap.rem hlt hk ⟨b,b2,b3,b4⟩ hu hv
 refine ⟨I.ok,I.oko,qt I.okp hu,I.okh,I.lh,I.a0,I.a1,I.a2,I.a3,I.b0,I.b1,I.b2,?_,?_,y9 I.gp hn,hb.s1,hb.s0,?_,?_,I.bo,I.bp,I.cap,I.capm,I.side,I.loc0,I.loc1,I.ack0,I.rem,I.rem1⟩
 ·show f.s.atB ≤ ((f.p ++ [u]).length:Nat)
  rw [List.length_append]; have:=I.b3; omega
 ·show n0 f.o ((f.p ++ [u]).take f.s.heldB.toNat)
  rw [e1]; exact I.go
 ·show kp f.o (f.p ++ [u]) f.s.heldB ≤ 483
  have e:kp f.o (f.p ++ [u]) f.s.heldB = kp f.o f.p f.s.heldB:=by unfold kp dP; rw [e1]
  rw [e]; exact I.no
 ·show kp (f.p ++ [u]) f.o f.s.atA ≤ 483
  have:=yO f.p f.o u f.s.atA
  by_cases hk:u.kind = 1
  ·rw [if_pos hk] at this; have:=(ha hk).2; omega
  ·rw [if_neg hk] at this; have:=I.np; omega
theorem iC.offer {f:StF} (I:iC f) {a:Int} {h:List UInt8} (hh:h.length = 32) (h0:(q9 f a h).2 = 0) :
  ∃ u,q9 f a h = (pR u,0) /\ u.ok /\ u.kind = 1 /\ iC (sj f u) /\ zE f (pR u) [] (sj f u) /\ u.note = []:=by
 unfold q9 at h0 ⊢
 split at h0
 ·cases h0
 rename_i h1
 rw [if_neg h1]
 split at h0
 ·cases h0
 rename_i h2
 rw [if_neg h2]
 split at h0
 ·cases h0
 rename_i h3
 rw [if_neg h3]
 split at h0
 ·cases h0
 rename_i h4
 rw [if_neg h4]
 split at h0
 ·cases h0
 rename_i h5
 rw [if_neg h5]
 have hlo:=I.lo
 have hal:=zB f.o
 have hfu:f.o.length < 2048:=by
  refine Classical.byContradiction fun hn=>h3 ?_
  unfold AE
  rw [decide_eq_true (by omega),Bool.true_or]
 rw [I.fB] at h4
 rw [I.vO.1] at h5
 have hu:(⟨1,((jR f.o:Nat):Int),a,h,[]⟩:aK).ok:=⟨gQ 1 (by decide) (by decide),gQ ((jR f.o:Nat):Int) (by omega) (by omega),gQ a (by omega) (by omega),hh,by simp⟩
 have hv:dC ⟨1,((jR f.o:Nat):Int),a,h,[]⟩ = true:=by
  unfold dC C7
  simp only [if_pos,Bool.and_eq_true,decide_eq_true_eq]
  refine ⟨by omega,by omega,by omega,by omega,trivial⟩
 have hn:∀ X,jW f.o X ⟨1,((jR f.o:Nat):Int),a,h,[]⟩ = 0:=by
  intro X
  unfold jW
  rw [if_neg (by omega),if_neg (by rw [hv]; decide),if_pos rfl]
  exact if_pos rfl
 refine ⟨_,rfl,hu,rfl,I.ours hu (hn _) fun _=>⟨by show a ≤ _; omega,by omega⟩,.inl ⟨rfl,hn _,rfl⟩,rfl⟩
theorem iC.xO {f:StF} (I:iC f) {u:aK} (hu:u.ok) (hv:dC u = true \/ 64 < u.note.length \/ u.id < 0 \/ 2048 ≤ u.id) (hk:u.kind ≠ 1) (h0:(lK f u).2 = 0) :
  lK f u = (pR u,0) /\ iC (sj f u) /\ zE f (pR u) [] (sj f u):=by
 unfold lK at h0 ⊢
 split at h0
 ·cases h0
 rename_i h1
 rw [if_neg h1]
 split at h0
 ·cases h0
 rename_i h2
 rw [if_neg h2]
 split at h0
 ·cases h0
 rename_i h3
 rw [if_neg h3]
 have hfu:f.o.length < 2048:=by
  refine Classical.byContradiction fun hn=>h3 ?_
  unfold AE
  rw [decide_eq_true (by omega),Bool.true_or]
 have h2:tZ f u = true:=(Bool.not_eq_false _).mp h2
 unfold tZ at h2
 simp only [Bool.and_eq_true,Bool.not_eq_true',Bool.or_eq_true,decide_eq_true_eq,decide_eq_false_iff_not] at h2
 obtain ⟨k1,k2,k3,k4⟩:=h2
 rw [I.fB] at k1 k3
 obtain ⟨b,_,b2,b3,b4⟩:=rl k1
 have hvb:=kO (I.vp b (List.mem_of_mem_take b2))
 have hv:dC u = true:=by
  rcases hv with hv | hv | hv | hv
  ·exact hv
  ·omega
  ·omega
  ·omega
 have hn:jW f.o (f.p.take f.s.heldB.toNat) u = 0:=by
  unfold jW
  rw [if_neg (by omega),if_neg (by rw [hv]; decide),if_neg hk,if_neg (by rw [show (fW false u.id (f.p.take f.s.heldB.toNat)).isSome = true from k1]; decide),if_neg (by rw [k2]; decide),if_neg]
  rintro ⟨c1,c2⟩
  rcases k3 with k3 | k3
  ·exact k3 c1
  ·exact c2 k3
 refine ⟨rfl,I.ours hu hn fun h=>absurd h hk,.inl ⟨rfl,?_,rfl⟩⟩
 have:=tY (Y:=f.p.drop f.s.heldB.toNat) hn
 rwa [List.take_append_drop] at this
theorem iC.sign {f:StF} (I:iC f) (h0:(uB f).2 = 0) :
  uB f = ({ RcM.zero with kind:=2,index:=f.s.rem + 1,cntA:=(f.o.length:Nat),cntB:=f.s.atB },0) /\ ({ RcM.zero with kind:=2,index:=f.s.rem + 1,cntA:=(f.o.length:Nat),cntB:=f.s.atB }:RcM).ok ∧
  iC (xn f { RcM.zero with kind:=2,index:=f.s.rem + 1,cntA:=(f.o.length:Nat),cntB:=f.s.atB }) /\ zE f { RcM.zero with kind:=2,index:=f.s.rem + 1,cntA:=(f.o.length:Nat),cntB:=f.s.atB } [] (xn f { RcM.zero with kind:=2,index:=f.s.rem + 1,cntA:=(f.o.length:Nat),cntB:=f.s.atB }) /\ f.s.rem = f.s.ack:=by
 unfold uB at h0 ⊢
 split at h0
 ·cases h0
 rename_i h1
 rw [if_neg h1]
 split at h0
 ·cases h0
 rename_i h2
 rw [if_neg h2]
 split at h0
 ·cases h0
 rename_i h3
 rw [if_neg h3]
 have hra:f.s.rem = f.s.ack:=Classical.byContradiction fun hn=>h2 (.inl hn)
 have ha:=I.ack0
 have hlo:=I.lo
 have h4:=I.a2
 have h5:=I.a3
 have h6:=I.b1
 have h7:=I.b2
 have h8:=I.b3
 have hrok:({ RcM.zero with kind:=2,index:=f.s.rem + 1,cntA:=(f.o.length:Nat),cntB:=f.s.atB }:RcM).ok :=
  ⟨gQ 2 (by decide) (by decide),aK.bD,gQ (f.s.rem + 1) (by omega) (by omega),gQ (f.o.length:Nat) (by omega) (by omega),I.ok.atB,rfl,rfl,rfl,cD⟩
 have ho:=I.ok
 have hok:(xn f { RcM.zero with kind:=2,index:=f.s.rem + 1,cntA:=(f.o.length:Nat),cntB:=f.s.atB }).s.ok:=⟨ho.side,ho.cap,ho.bo,ho.bp,ho.loc,hrok.index,ho.ack,ho.atA,ho.atB,hrok.cntA,ho.atB,ho.heldA,ho.heldB,ho.ptsA,ho.ptsB,ho.sig,ho.failed,ho.closed⟩
 refine ⟨rfl,hrok,⟨hok,I.oko,I.okp,I.okh,I.lh,I.a0,I.a1,?_,?_,I.b0,?_,?_,I.b3,I.go,I.gp,I.so,I.sp,I.no,I.np,I.bo,I.bp,I.cap,I.capm,I.side,I.loc0,I.loc1,I.ack0,?_,?_⟩,.inr (.inl ⟨rfl,hra,rfl,rfl,h5,Int.le_refl _,rfl⟩),hra⟩
 ·show f.s.heldA ≤ (f.o.length:Nat); omega
 ·show ((f.o.length:Nat):Int) ≤ (f.o.length:Nat); omega
 ·show f.s.heldB ≤ f.s.atB; omega
 ·show f.s.atB ≤ f.s.atB; omega
 ·exact .inr (by show f.s.rem + 1 = f.s.ack + 1; omega)
 ·show f.s.rem + 1 ≤ _; omega
theorem Ez {p:List aK} {n:Int}:dP p n ++ p.drop (dP p n).length = p:=by
 unfold dP
 rw [List.length_take]
 by_cases h:n.toNat ≤ p.length
 ·rw [Nat.min_eq_left h,List.take_append_drop]
 ·rw [Nat.min_eq_right (by omega),List.take_of_length_le (by omega),List.drop_length,List.append_nil]
def Mp (f:StF) (i:Int) (sig:List UInt8):StF:=⟨{ f.s with loc:=i,atA:=f.s.heldA,atB:=(f.p.length:Nat),sig:=sig,behind:=false },f.o,f.p,f.h⟩
def AM (m:bA):RcM:={ RcM.zero with kind:=3,index:=m.index,sig:=m.hash }
theorem iC.came {f:StF} (I:iC f) {c:CfM} {m:bA} (hm:m.ok) (h0:(oB c f m).e = 0) :
  oB c f m = ⟨AM m,f.p.drop (dP f.p f.s.atB).length,0⟩ /\ (AM m).ok /\ iC (Mp f m.index m.hash) /\ zE f (AM m) (f.p.drop (dP f.p f.s.atB).length) (Mp f m.index m.hash) /\ m.kind = 4 /\ m.index = f.s.loc + 1:=by
 unfold oB at h0 ⊢
 split at h0
 ·cases h0
 rename_i h1
 rw [if_neg h1]
 split at h0
 ·cases h0
 rename_i h2
 rw [if_neg h2]
 split at h0
 ·cases h0
 rename_i h3
 rw [if_neg h3]
 split at h0
 ·cases h0
 rename_i h4
 rw [if_neg h4]
 split at h0
 ·cases h0
 rename_i h5
 rw [if_neg h5]
 have h6:=I.a0
 have h7:=I.a1
 have h8:=I.a2
 have h9:=I.a3
 have b0:=I.b0
 have b1:=I.b1
 have b2:=I.b2
 have b3:=I.b3
 have hl0:=I.loc0
 have hlp:=I.lp
 have hk:m.kind = 4:=Classical.byContradiction fun hn=>h2 hn
 have hix:m.index = f.s.loc + 1:=Classical.byContradiction fun hn=>h3 (.inr hn)
 have hlc:f.s.loc ≤ 281474976710653:=Classical.byContradiction fun hn=>h3 (.inl (by omega))
 have ho:=I.ok
 have hrok:(AM m).ok:=⟨gQ 3 (by decide) (by decide),aK.bD,hm.index,cD,cD,hm.hash,rfl,rfl,cD⟩
 have hok:(Mp f m.index m.hash).s.ok:=⟨ho.side,ho.cap,ho.bo,ho.bp,hm.index,ho.rem,ho.ack,ho.heldA,gQ (f.p.length:Nat) (by omega) (by omega),ho.sgnA,ho.sgnB,ho.heldA,ho.heldB,ho.ptsA,ho.ptsB,hm.hash,ho.failed,ho.closed⟩
 have hfix:=I.book.fix (g:=f.s.heldA.toNat) (by omega) (by omega)
 have hap:wB f (AM m) (f.p.drop (dP f.p f.s.atB).length) = Mp f m.index m.hash:=by
  unfold wB Mp
  rw [Ez]
  rfl
 refine ⟨rfl,hrok,⟨hok,I.oko,I.okp,I.okh,I.lh,?_,?_,I.a2,I.a3,I.b0,I.b1,?_,?_,I.go,Az I.gp (by show f.s.atA.toNat ≤ f.s.heldA.toNat; omega),hfix.s0,hfix.s1,I.no,?_,I.bo,I.bp,I.cap,I.capm,I.side,?_,?_,I.ack0,I.rem,I.rem1⟩,.inr (.inr (.inl ⟨rfl,fun j u hj=>?_,hix,hap.symm⟩)),hk,hix⟩
 ·show 0 ≤ f.s.heldA; omega
 ·show f.s.heldA ≤ f.s.heldA; omega
 ·show f.s.sgnB ≤ (f.p.length:Nat); omega
 ·show ((f.p.length:Nat):Int) ≤ (f.p.length:Nat); omega
 ·exact Nat.le_trans (yP I.a0 I.a1) I.np
 ·show 0 ≤ m.index; omega
 ·show m.index ≤ _; omega
 ·have hn:(dP f.p f.s.atB).length = f.s.atB.toNat:=by unfold dP; rw [List.length_take]; omega
  rw [hn] at hj ⊢
  rw [List.getElem?_drop] at hj
  have e:dP f.p f.s.atB ++ (f.p.drop f.s.atB.toNat).take j = f.p.take (f.s.atB.toNat + j):=by
   unfold dP
   rw [List.take_add]
  rw [e]
  have:=tY (Y:=f.o.drop f.s.atA.toNat) (I.gp _ u hj)
  rwa [List.take_append_drop] at this
theorem iC.Ms {f:StF} (I:iC f) {m:bA} (hm:m.ok) (h0:(jz f m).2 = 0) :
  jz f m = ({ RcM.zero with kind:=4,index:=f.s.ack,secret:=m.secret,point:=m.hash },0) /\ ({ RcM.zero with kind:=4,index:=f.s.ack,secret:=m.secret,point:=m.hash }:RcM).ok ∧
  iC (tD f { RcM.zero with kind:=4,index:=f.s.ack,secret:=m.secret,point:=m.hash }) /\ zE f { RcM.zero with kind:=4,index:=f.s.ack,secret:=m.secret,point:=m.hash } [] (tD f { RcM.zero with kind:=4,index:=f.s.ack,secret:=m.secret,point:=m.hash }) /\ m.kind = 5 /\ m.index = f.s.ack /\ f.s.rem = f.s.ack + 1 /\ sha m.secret = f.s.ptsA /\ (uG f.h f.s.ack m.secret).2 = 0:=by
 unfold jz at h0 ⊢
 have hrem:=I.rem
 have hrem1:=I.rem1
 have hack:=I.ack0
 split at h0
 ·cases h0
 rename_i h1
 rw [if_neg h1]
 split at h0
 ·cases h0
 rename_i h2
 rw [if_neg h2]
 split at h0
 ·cases h0
 rename_i h3
 rw [if_neg h3]
 split at h0
 ·cases h0
 rename_i h4
 rw [if_neg h4]
 split at h0
 ·cases h0
 rename_i h5
 rw [if_neg h5]
 rw [i64_in (n:=f.s.rem - 1) (by omega) (by omega)] at h3
 have b0:=I.b0
 have b1:=I.b1
 have b2:=I.b2
 have b3:=I.b3
 have a1:=I.a1
 have a2:=I.a2
 have ho:=I.ok
 have hput:(uG f.h f.s.ack m.secret).2 = 0:=Classical.byContradiction fun hn=>h5 hn
 have hsh:sha m.secret = f.s.ptsA:=Classical.byContradiction fun hn=>h4 hn
 have hk:m.kind = 5:=Classical.byContradiction fun hn=>h2 hn
 have hra:f.s.rem = f.s.ack + 1:=by omega
 have hix:m.index = f.s.ack:=by omega
 have hrok:({ RcM.zero with kind:=4,index:=f.s.ack,secret:=m.secret,point:=m.hash }:RcM).ok:=⟨gQ 4 (by decide) (by decide),aK.bD,ho.ack,cD,cD,rfl,hm.secret,hm.hash,cD⟩
 have hok:(tD f { RcM.zero with kind:=4,index:=f.s.ack,secret:=m.secret,point:=m.hash }).s.ok:=⟨ho.side,ho.cap,ho.bo,ho.bp,ho.loc,ho.rem,gQ (f.s.ack + 1) (by omega) (by omega),ho.atA,ho.atB,ho.sgnA,ho.sgnB,ho.sgnA,ho.sgnB,ho.ptsB,hm.hash,ho.sig,ho.failed,ho.closed⟩
 have hfix:=(I.book.swap.fix (g:=f.s.sgnB.toNat) (by omega) (by omega)).swap
 refine ⟨rfl,hrok,⟨hok,I.oko,I.okp,JB I.okh hm.secret,HY _ _ _,I.a0,?_,?_,I.a3,?_,?_,I.b2,I.b3,Az I.go (by show f.s.heldB.toNat ≤ f.s.sgnB.toNat; omega),I.gp,hfix.s0,hfix.s1,?_,I.np,I.bo,I.bp,I.cap,I.capm,I.side,I.loc0,I.loc1,?_,?_,I.rem1⟩,.inr (.inr (.inr ⟨rfl,hput,hra,rfl,rfl⟩)),hk,hix,hra,hsh,hput⟩
 ·show f.s.atA ≤ f.s.sgnA; omega
 ·show f.s.sgnA ≤ f.s.sgnA; omega
 ·show 0 ≤ f.s.sgnB; omega
 ·show f.s.sgnB ≤ f.s.sgnB; omega
 ·exact Nat.le_trans (yP I.b0 I.b1) I.no
 ·show 0 ≤ f.s.ack + 1; omega
 ·exact .inl hra
theorem iC.heard {f:StF} (I:iC f) {u:aK} (hu:u.ok) (h0:y8 f u = 0):iC ⟨f.s,f.o,f.p ++ [u],f.h⟩ /\ jW f.p (f.o.take f.s.atA.toNat) u = 0:=by
 unfold y8 at h0
 split at h0
 ·cases h0
 rename_i h1
 split at h0
 ·cases h0
 rename_i h2
 split at h0
 ·cases h0
 rename_i h3
 have h3:jW f.p f.o u = 0:=Classical.byContradiction fun hn=>h3 hn
 have hlt:=yY h3
 obtain ⟨hv,k1,k2⟩:=mh h3
 rw [I.fA] at h0
 by_cases hk:u.kind = 1
 ·rw [if_pos hk] at h0
  split at h0
  ·cases h0
  rename_i h4
  split at h0
  ·cases h0
  rename_i h5
  rw [I.vM.1] at h5
  have hn:jW f.p (f.o.take f.s.atA.toNat) u = 0:=by
   unfold jW
   rw [if_neg (by omega),if_neg (by rw [hv]; decide),if_pos hk,if_pos (k1 hk)]
  exact ⟨I.jA hu hn fun _=>⟨by omega,by omega⟩,hn⟩
 ·rw [if_neg hk] at h0
  split at h0
  ·cases h0
  rename_i h4
  split at h0
  ·cases h0
  rename_i h5
  have hn:jW f.p (f.o.take f.s.atA.toNat) u = 0:=by
   unfold jW
   rw [if_neg (by omega),if_neg (by rw [hv]; decide),if_neg hk,if_neg (show ¬ (fW false u.id (f.o.take f.s.atA.toNat)).isSome = false from h4),if_neg (by rw [(k2 hk).2.1]; decide)]
   exact if_neg h5
  exact ⟨I.jA hu hn fun h=>absurd h hk,hn⟩
theorem iC.fail {f:StF} (I:iC f) {n:Int} (hn:I64 n):iC ⟨{ f.s with failed:=n },f.o,f.p,f.h⟩:=by
 have ho:=I.ok
 exact ⟨⟨ho.side,ho.cap,ho.bo,ho.bp,ho.loc,ho.rem,ho.ack,ho.atA,ho.atB,ho.sgnA,ho.sgnB,ho.heldA,ho.heldB,ho.ptsA,ho.ptsB,ho.sig,hn,ho.closed⟩,I.oko,I.okp,I.okh,I.lh,I.a0,I.a1,I.a2,I.a3,I.b0,I.b1,I.b2,I.b3,I.go,I.gp,I.so,I.sp,I.no,I.np,I.bo,I.bp,I.cap,I.capm,I.side,I.loc0,I.loc1,I.ack0,I.rem,I.rem1⟩
theorem iC.start {c:CfM} (hc:c.ok) (h:¬ nc c):iC ⟨(nb c).1,[],[],[]⟩:=by
 have hok:=vL hc
 have h2:right c.cap = true:=by
  have h1:¬ right c.cap = false:=fun hh=>h (.inr (.inr (.inr (.inl hh))))
  simpa using h1
 have h3:=kR.1 h2
 have h0:¬ c.side < 0:=fun hh=>h (.inl hh)
 have h1:¬ 1 < c.side:=fun hh=>h (.inr (.inl hh))
 have h4:¬ c.ours < 0:=fun hh=>h (.inr (.inr (.inr (.inr (.inl hh)))))
 have h5:¬ c.cap < c.ours:=fun hh=>h (.inr (.inr (.inr (.inr (.inr hh)))))
 have h6:¬ c.cap < 1:=fun hh=>h (.inr (.inr (.inl hh)))
 unfold nb at hok ⊢
 rw [if_neg h] at hok ⊢
 have nn:∀ {X:List aK},n0 [] X:=fun {X} j u hj=>by simp at hj
 have e0:∀ {a:Int} {n m:Nat},SB a [] [] n m = a:=by intro a n m; simp [SB,gm]
 have on:∀ {a:Int},kp [] [] a ≤ 483:=by intro a; simp [kp,qE]
 have z0:(0:Int) ≤ 0:=by decide
 have z1:(0:Int) ≤ 281474976710654:=by decide
 refine ⟨hok,by simp,by simp,by simp,by simp,z0,z0,z0,z0,z0,z0,z0,z0,nn,nn,?_,?_,on,on,?_,?_,?_,?_,?_,z0,z1,z0,.inl rfl,z1⟩
 ·show 0 ≤ SB c.ours [] [] 0 0; rw [e0]; omega
 ·show 0 ≤ SB (c.cap - c.ours) [] [] 0 0; rw [e0]; omega
 ·show 0 ≤ c.ours; omega
 ·show 0 ≤ c.cap - c.ours; omega
 ·show c.ours + (c.cap - c.ours) = c.cap; omega
 ·show c.cap ≤ _; omega
 ·show c.side = 0 \/ c.side = 1; omega
end Go.Esc.M
set_option linter.unusedSectionVars false
namespace Go.Esc
open Go Go.RowKit
def Qu (n:Nat) (G:ah) (v:ag) (vs:List ag):Prop :=
 (v = .nilSlice /\ vs = []) \/ ∃ id k len cap cs,v = .slice id [] k (k * n) len cap /\ G id = some (.own (.agg cs)) /\ k + cap ≤ cs.length /\ len ≤ cap /\ uni n cs = true /\ vs = (cs.drop k).take len
theorem Qu.is {n:Nat} {G:ah} {v:ag} {vs:List ag} (h:Qu n G v vs):fV n G v vs:=by
 rcases h with h | ⟨id,k,len,cap,cs,rfl,hg,hc,hl,hu,rfl⟩
 ·exact .inr h
 ·refine .inl ⟨_,_,_,_,_,_,rfl,?_⟩
  have h1:kg G n id [] k (k * n) = some cs:=by simp [kg,mo,hg,kZ,sub,hu]
  simp only [fT,h1]
  rw [if_pos (by omega)]
theorem Qu.leaf {n:Nat} {G:ah} {v:ag} {vs:List ag} (h:Qu n G v vs):sz v = 1 /\ v.isAgg = false /\ okv v = true:=by
 rcases h with ⟨rfl,_⟩ | ⟨_,_,_,_,_,rfl,_⟩ <;> exact ⟨rfl,rfl,rfl⟩
theorem Qu.own {n:Nat} {G:ah} {v:ag} {vs:List ag} (h:Own n G v vs):Qu n G v vs:=by
 rcases h with h | ⟨id,len,cap,cs,rfl,hg,hc,hl,hu,rfl⟩
 ·exact .inl h
 ·exact .inr ⟨id,0,len,cap,cs,by rw [Nat.zero_mul],hg,by omega,hl,hu,by rw [List.drop_zero]⟩
def QuL (n:Nat) (v:ag) (vs:List ag):LP where
 p:=fun G F=>Qu n G v vs /\ F = (rowOf v).toList
 rows:=by
  rintro G F ⟨h,rfl⟩ j hj
  rcases h with ⟨rfl,_⟩ | ⟨id,k,len,cap,cs,rfl,hg,_⟩
  ·simp [rowOf] at hj
  ·simp [rowOf] at hj; subst hj; simp [hg]
 loc:=by
  rintro G G' F ⟨h,rfl⟩ hs
  refine ⟨?_,rfl⟩
  rcases h with h | ⟨id,k,len,cap,cs,rfl,hg,h⟩
  ·exact .inl h
  ·exact .inr ⟨id,k,len,cap,cs,rfl,by rw [hs id (by simp [rowOf])]; exact hg,h⟩
section
variable {F0:List AId} {G0 G:ah} {ps:List LP}
theorem QuL.qu {i n:Nat} {v:ag} {vs:List ag} (h:Sp F0 G0 ps G) (hi:ps[i]? = some (QuL n v vs)):Qu n G v vs:=by
 obtain ⟨F,h,_⟩:=h.get hi
 exact h
theorem bj.qu {i n:Nat} {v:ag} {vs:List ag} (h:Sp F0 G0 ps G) (hi:ps[i]? = some (bj n v vs)):Sp F0 G0 (ps.set i (QuL n v vs)) G :=
 h.call hi (QuL n v vs) fun F ⟨ho,hF⟩ k=>k F G ⟨Qu.own ho,hF⟩ (Ch.refl _ _)
variable {T:Tbl} {ts e:TypeId} {si ie:TI} (ht:T ts = some si) (hd:si.desc = .slice e) (he:T e = some ie)
include ht hd he in
theorem Qu.rest {v x:ag} {vs:List ag} (h:Qu ie.size G v (x :: vs)):∃ w,fj T ts v (some (.int .i64 1)) none none = some w /\ Qu ie.size G w vs /\ (rowOf w = rowOf v):=by
 rcases h with ⟨_,h⟩ | ⟨id,k,len,cap,cs,rfl,hg,hc,hl,hu,hv⟩
 ·cases h
 ·have hlen:1 ≤ len:=by
   have:=congrArg List.length hv
   rw [List.length_cons,List.length_take] at this
   omega
  have h1:jh len cap (some (.int .i64 1)) none none = some (1,len,cap):=by
   have:=pO (k:=.i64) (m:=1) (len:=len) (cap:=cap) hlen hl
   simpa using this
  have e1:vs = (cs.drop (k + 1)).take (len - 1):=by
   obtain ⟨m,rfl⟩:∃ m,len = m + 1:=⟨len - 1,by omega⟩
   rw [List.drop_eq_getElem_cons (show k < cs.length by omega),List.take_succ_cons] at hv
   injection hv with _ h2
  refine ⟨.slice id [] (if cap = 1 then k else k + 1) (if cap = 1 then k * ie.size else k * ie.size + 1 * ie.size) (len - 1) (cap - 1),?_,?_,rfl⟩
  ·simp only [fj,ht,hd,he,h1]
  ·by_cases hcm:cap = 1
   ·rw [if_pos hcm,if_pos hcm]
    refine .inr ⟨id,k,len - 1,cap - 1,cs,rfl,hg,by omega,by omega,hu,?_⟩
    rw [e1,show len - 1 = 0 by omega,List.take_zero,List.take_zero]
   ·rw [if_neg hcm,if_neg hcm]
    exact .inr ⟨id,k + 1,len - 1,cap - 1,cs,by rw [Nat.add_mul],hg,by omega,by omega,hu,e1⟩
variable (hz:sz ie.zero = ie.size) (hb:ie.bytes ≠ 0)
include ht hd he hz hb in
theorem Kj {i:Nat} {s:ag} {vs:List ag} {c:ag} {K:ag -> ah -> Prop} (hs:Sp F0 G0 ps G) (hi:ps[i]? = some (QuL ie.size s vs)) (hc:sz c = ie.size) (hok:okv c = true) (hie:ie.size ≤ 16777216) (hl:(vs.length + 1) * ie.bytes ≤ 140737488355328)
  (hK:∀ s' G',Sp F0 G0 (ps.set i (QuL ie.size s' (vs ++ [c]))) G' -> K s' G'):bh T ts 1 [(0,c)] G fun v G'=>cc T G' ts ts s v K:=by
 refine B3 ht hd he hz hs hc hie fun x G1 s1=>?_
 have hx:=(bj.own (i:=0) s1 rfl).is.elems
 have hi1:(bj ie.size x [c] :: ps)[i + 1]? = some (QuL ie.size s vs):=by simpa using hi
 have hq:=QuL.qu s1 hi1
 have hu1:uni ie.size [c] = true:=by simp [Esc.uni,hc]
 have fin:∀ s' G2,Sp F0 G0 ((bj ie.size x [c] :: ps).set (i + 1) (QuL ie.size s' (vs ++ [c]))) G2 -> K s' G2:=fun s' G2 h=>hK s' G2 (by simpa using h.erase 0)
 refine ⟨?_⟩
 unfold qH
 simp only [ht,hd,he,hx]
 refine ⟨.inr ⟨e,rfl⟩,?_⟩
 have hgrow:∀ olds:List ag,uni ie.size olds = true -> olds = vs -> grow ie G1 olds [c] K:=by
  intro olds huo ho
  subst ho
  refine ⟨by simpa using hl,hb,fun id cap hf hle hcap=>fin _ _ ?_⟩
  refine s1.call hi1 (QuL ie.size (.slice id [] 0 0 (olds.length + [c].length) cap) (olds ++ [c])) fun F h k=>k [id] _ ⟨.inr ⟨id,0,olds.length + 1,cap,olds ++ [c] ++ List.replicate (cap - (olds.length + [c].length)) ie.zero,by simp,ah.fc _ _ _,by simp at hle ⊢; omega,by simpa using hle,kP (kP huo hu1) (mO hz),?_⟩,rfl⟩ ?_
  ·rw [List.drop_zero,List.take_left' (by simp)]
  ·obtain ⟨_,rfl⟩:=h
   exact ⟨n6.of_le (hf.le _),fun j o hj _=>hf.le _ _ _ hj,fun j hj=>by simp at hj; subst hj; exact .inr hf.none⟩
 rcases hq with ⟨rfl,rfl⟩ | ⟨id,k,len,cap,cs,rfl,hg,hcap,hlc,hun,hv⟩
 ·exact hgrow [] rfl rfl
 ·have hvl:vs.length = len:=by rw [hv,List.length_take,List.length_drop]; omega
  have harr:kg G1 ie.size id [] k (k * ie.size) = some cs:=by simp [kg,mo,hg,kZ,sub,hun]
  refine ⟨fun hle=>?_,fun hlt=>?_⟩
  ·simp only [lay,harr]
   have hle:len + 1 ≤ cap:=by simpa using hle
   refine ⟨by simp; omega,by simp [kT,hok],hu1,?_⟩
   have hput:p6 G1 id [] ie.size k (k * ie.size) (cs.take (k + len) ++ [c] ++ cs.drop (k + len + [c].length)) = some (G1.upd id (.own (.agg (cs.take (k + len) ++ [c] ++ cs.drop (k + len + [c].length))))):=by
    simp [p6,hg,sub,putAt]
   rw [hput]
   refine fin _ _ (s1.call hi1 (QuL ie.size (.slice id [] k (k * ie.size) (len + [c].length) cap) (vs ++ [c])) fun F h k2=>?_)
   obtain ⟨_,rfl⟩:=h
   refine k2 _ _ ⟨.inr ⟨id,k,len + 1,cap,_,by simp,ah.fc _ _ _,?_,hle,kP (kP (jc hun _) hu1) (pg hun _),?_⟩,rfl⟩ (by simpa [rowOf] using Go.Esc.M.tG hg (by simp))
   ·simp only [List.length_append,List.length_take,List.length_drop,List.length_singleton]
    omega
   ·have e1:cs.take (k + len) ++ [c] ++ cs.drop (k + len + [c].length) = cs.take k ++ (((cs.drop k).take len ++ [c]) ++ cs.drop (k + len + [c].length)):=by
     rw [List.take_add]; simp
    rw [e1,List.drop_left' (by rw [List.length_take]; omega),hv,List.take_left']
    rw [List.length_append,List.length_take,List.length_drop,List.length_singleton]
    omega
  ·have hse:fT G1 ie.size (.slice id [] k (k * ie.size) len cap) = some vs:=by
    simp only [fT,harr]
    rw [if_pos (by omega),hv]
   rw [hse]
   exact hgrow vs (by rw [hv]; exact jc (pg hun _) _) rfl
end
end Go.Esc
namespace Go.Esc.M
open Go Go.Esc
def bN (s:Bool):Nat:=bif s then 1 else 0
def bI (s:Bool):Int:=(bN s:Nat)
def kV {α:Type} (g:Bool -> α) (s:Bool) (x:α):Bool -> α:=fun t=>if t = s then x else g t
theorem sK {α:Type} (g:Bool -> α) (s:Bool) (x:α):kV g s x s = x:=if_pos rfl
theorem xP {α:Type} (g:Bool -> α) {s t:Bool} (x:α) (h:t ≠ s):kV g s x t = g t:=if_neg h
structure lT where
 c:Bool -> CfM
 f:Bool -> StF
 q:Bool -> List bA
structure Ls where
 o:ag
 p:ag
 h:ag
def Ls.lv (l:Ls):Prop:=bz l.o /\ bz l.p /\ bz l.h
def ot (t:lT) (l:Bool -> Ls) (w:Bool -> ag):ag :=
 .agg [.agg [(t.c false).av,(t.c true).av],.agg [(t.f false).s.av (l false).o (l false).p (l false).h,(t.f true).s.av (l true).o (l true).p (l true).h],w false,w true]
abbrev mR (tb:AId) (t:lT) (l:Bool -> Ls) (w:Bool -> ag):List LP :=
 [ar tb (ot t l w),bj 36 (l false).o ((t.f false).o.map aK.av),bj 36 (l false).p ((t.f false).p.map aK.av),bj 34 (l false).h ((t.f false).h.map cB.av),bj 36 (l true).o ((t.f true).o.map aK.av),bj 36 (l true).p ((t.f true).p.map aK.av),bj 34 (l true).h ((t.f true).h.map cB.av),
  QuL 70 (w false) ((t.q false).map bA.av),QuL 70 (w true) ((t.q true).map bA.av)]
structure kx (t:lT) (n:Nat):Prop where
 c:∀ s,(t.c s).ok
 f:∀ s,iC (t.f s)
 q:∀ s,∀ m ∈ t.q s,m.ok
 n:∀ s,(t.q s).length ≤ n
def iR (tb:AId) (t:lT):LP where
 p:=fun G F=>∃ l w Fs,Sps (mR tb t l w) Fs G /\ F = Fs.flatten
 rows:=by
  rintro G F ⟨l,w,Fs,h,rfl⟩
  exact h.rows
 loc:=by
  rintro G G' F ⟨l,w,Fs,h,rfl⟩ hs
  exact ⟨l,w,Fs,h.same hs,rfl⟩
section
variable {F0:List AId} {G0 G:ah} {ps:List LP} {Q:ag -> ah -> Prop} {tb:AId} {t:lT} {l:Bool -> Ls} {w:Bool -> ag}
theorem iR.open {F:List AId} (h:(iR tb t).p G F):∃ l w,Sp F G (mR tb t l w) G:=by
 obtain ⟨l,w,Fs,h,rfl⟩:=h
 exact ⟨l,w,Fs,h,Ch.refl _ _⟩
theorem Sp.with {p:LP} {F:List AId} (h:p.p G0 F) (s:Sp [] G0 ps G):Sp F G0 (p :: ps) G:=by
 obtain ⟨Fs,h1,h2⟩:=s
 have hs:∀ j ∈ F,G j = G0 j:=fun j hj=>h2.same (E:=F) (p.rows h) (by simp) j hj
 refine ⟨F :: Fs,⟨p.loc h hs,fun j hj hm=>?_,h1⟩,⟨h2.ro,fun j o hj _=>h2.others j o hj (by simp),fun j hj=>?_⟩⟩
 ·rcases h2.row j hm with h' | h'
  ·simp at h'
  ·have:=p.rows h j hj
   rw [h'] at this; cases this
 ·have hj:j ∈ F \/ j ∈ Fs.flatten:=by simpa using hj
  rcases hj with hj | hj
  ·exact .inl hj
  ·rcases h2.row j hj with h' | h'
   ·simp at h'
   ·exact .inr h'
theorem LP.mv {p:LP} {F E:List AId} {G':ah} (h:p.p G F) (hc:Ch [] G E G'):p.p G' F:=p.loc h fun j hj=>hc.same (E:=F) (p.rows h) (by simp) j hj
structure oD (G:ah) (tb:AId) (t:lT) (l:Bool -> Ls) (w:Bool -> ag):Prop where
 g:G tb = some (.own (ot t l w))
 lv:∀ s,(l s).lv
 lw:∀ s,bz (w s)
 o:∀ s,iu 36 G (l s).o ((t.f s).o.map aK.av)
 p:∀ s,iu 36 G (l s).p ((t.f s).p.map aK.av)
 h:∀ s,iu 34 G (l s).h ((t.f s).h.map cB.av)
 q:∀ s,Qu 70 G (w s) ((t.q s).map bA.av)
theorem Sp.tab {i:Nat} (s:Sp F0 G0 ps G) (e:ps = mR tb t l w):oD G tb t l w:=by
 subst e
 have a1:=bj.own (i:=1) s rfl
 have a2:=bj.own (i:=2) s rfl
 have a3:=bj.own (i:=3) s rfl
 have a4:=bj.own (i:=4) s rfl
 have a5:=bj.own (i:=5) s rfl
 have a6:=bj.own (i:=6) s rfl
 have a7:=QuL.qu (i:=7) s rfl
 have a8:=QuL.qu (i:=8) s rfl
 refine ⟨ar.own (i:=0) s rfl,fun s=>?_,fun s=>?_,fun s=>?_,fun s=>?_,fun s=>?_,fun s=>?_⟩
 ·cases s
  ·exact ⟨a1.leaf,a2.leaf,a3.leaf⟩
  ·exact ⟨a4.leaf,a5.leaf,a6.leaf⟩
 ·cases s
  ·exact a7.leaf
  ·exact a8.leaf
 ·cases s
  ·exact Own.nM a1
  ·exact Own.nM a4
 ·cases s
  ·exact Own.nM a2
  ·exact Own.nM a5
 ·cases s
  ·exact Own.nM a3
  ·exact Own.nM a6
 ·cases s
  ·exact a7
  ·exact a8
theorem Qu.ch' {n:Nat} {G G':ah} {E:List AId} {v:ag} {vs:List ag} (h:Qu n G v vs) (hc:Ch [] G E G'):Qu n G' v vs:=by
 rcases h with h | ⟨id,k,len,cap,cs,rfl,hg,h⟩
 ·exact .inl h
 ·exact .inr ⟨id,k,len,cap,cs,rfl,hc.others _ _ hg (by simp),h⟩
theorem oD.mv {G':ah} {E:List AId} (h:oD G tb t l w) (hc:Ch [] G E G'):oD G' tb t l w :=
 ⟨hc.others _ _ h.g (by simp),h.lv,h.lw,fun s=>(h.o s).mv hc.drop,fun s=>(h.p s).mv hc.drop,fun s=>(h.h s).mv hc.drop,fun s=>Qu.ch' (h.q s) hc⟩
theorem oD.D5 {n:Nat} (h:oD G tb t l w) (k:kx t n) (s:Bool):kW G (t.f s) (l s).o (l s).p (l s).h:=by
 have I:=k.f s
 have:=I.lo
 have:=I.lp
 have:=I.lh
 exact ⟨I.ok,h.o s,h.p s,h.h s,I.oko,I.okp,I.okh,by omega,by omega,by omega⟩
def aC (tb:AId) (s:Bool):ag:=.ptr tb [0,bN s] (0 + bN s * 164)
def aS (tb:AId) (s:Bool):ag:=.ptr tb [1,bN s] (328 + bN s * 115)
def aQ (tb:AId) (s:Bool):ag:=.ptr tb [2 + bN s] (558 + bN s)
theorem jv:kH (.ptr tb [] 0) = some (.ptr tb [] 0):=rfl
theorem vI:bx T bw (.ptr tb [] 0) 0 = some (.ptr tb [0] 0):=rfl
theorem rN:bx T bw (.ptr tb [] 0) 1 = some (.ptr tb [1] 328):=rfl
theorem Bk:bx T bw (.ptr tb [] 0) 2 = some (aQ tb false):=rfl
theorem Bj:bx T bw (.ptr tb [] 0) 3 = some (aQ tb true):=rfl
theorem vH (s:Bool):aL T fD (.ptr tb [0] 0) (.int .i64 (bI s)) = some (aC tb s):=by cases s <;> rfl
theorem rM (s:Bool):aL T gY (.ptr tb [1] 328) (.int .i64 (bI s)) = some (aS tb s):=by cases s <;> rfl
section
variable {n:Nat} (h:oD G tb t l w) (k:kx t n)
include h k
theorem oD.szl:[ag.agg [(t.c false).av,(t.c true).av],.agg [(t.f false).s.av (l false).o (l false).p (l false).h,(t.f true).s.av (l true).o (l true).p (l true).h],w false,w true].map Esc.sz = [328,230,1,1]:=by
 simp [Esc.sz,szs,CfM.sz (k.c false),CfM.sz (k.c true),StM.sz (k.f false).ok (h.lv false),StM.sz (k.f true).ok (h.lv true),(h.lw false).1,(h.lw true).1]
theorem oD.szC:[(t.c false).av,(t.c true).av].map Esc.sz = [164,164]:=by simp [CfM.sz (k.c false),CfM.sz (k.c true)]
theorem oD.szS:[(t.f false).s.av (l false).o (l false).p (l false).h,(t.f true).s.av (l true).o (l true).p (l true).h].map Esc.sz = [115,115]:=by simp [StM.sz (k.f false).ok (h.lv false),StM.sz (k.f true).ok (h.lv true)]
theorem oD.ldC (s:Bool):lq T G cl (aC tb s) = some (t.c s).av:=by
 cases s
 ·exact ld2 h.g (h.szl k) rfl rfl (h.szC k) rfl rfl rfl j9 (CfM.fits (k.c false))
 ·exact ld2 h.g (h.szl k) rfl rfl (h.szC k) rfl rfl rfl j9 (CfM.fits (k.c true))
theorem oD.ldS (s:Bool):lq T G aJ (aS tb s) = some ((t.f s).s.av (l s).o (l s).p (l s).h):=by
 cases s
 ·exact ld2 h.g (h.szl k) rfl rfl (h.szS k) rfl rfl rfl lE (StM.fits (k.f false).ok (h.lv false))
 ·exact ld2 h.g (h.szl k) rfl rfl (h.szS k) rfl rfl rfl lE (StM.fits (k.f true).ok (h.lv true))
theorem oD.ldQ (s:Bool):lq T G aR (aQ tb s) = some (w s):=by
 cases s
 ·exact ld1 h.g (h.szl k) rfl rfl zc (jg (h.lw false) rfl)
 ·exact ld1 h.g (h.szl k) rfl rfl zc (jg (h.lw true) rfl)
end
end
end Go.Esc.M
namespace Go.Esc
open Go Go.RowKit
theorem Sps.at_ {G:ah}:∀ {ps:List LP} {Fs:List (List AId)},Sps ps Fs G -> ∀ {i:Nat} {p:LP},ps[i]? = some p -> ∃ F,Fs[i]? = some F /\ p.p G F
 | [],_,_,_,_,hi=>by simp at hi
 | _ :: _,[],h,_,_,_=>h.elim
 | q :: ps,E :: Fs,h,0,p,hi=>by
  simp at hi
  subst hi
  exact ⟨E,rfl,h.1⟩
 | q :: ps,E :: Fs,h,i + 1,p,hi=>by
  obtain ⟨F,h1,h2⟩:=Sps.at_ h.2.2 (i:=i) (p:=p) (by simpa using hi)
  exact ⟨F,by simpa using h1,h2⟩
theorem yZ {Fs:List (List AId)} {i:Nat} {F:List AId} (h:Fs[i]? = some F):∀ j ∈ F,j ∈ Fs.flatten:=fun j hj=>List.mem_flatten.2 ⟨F,List.mem_of_getElem? h,hj⟩
theorem Sps.dis {G:ah}:∀ {ps:List LP} {Fs:List (List AId)},Sps ps Fs G -> ∀ {i k:Nat} {F E:List AId},Fs[i]? = some F -> Fs[k]? = some E -> i ≠ k -> ∀ j ∈ F,j ∉ E
 | [],[],_,_,_,_,_,hi,_,_=>by simp at hi
 | [],_ :: _,h,_,_,_,_,_,_,_=>h.elim
 | _ :: _,[],h,_,_,_,_,_,_,_=>h.elim
 | q :: ps,X :: Fs,h,0,0,F,E,_,_,hne=>absurd rfl hne
 | q :: ps,X :: Fs,h,0,k + 1,F,E,hi,hk,_=>by
  simp at hi
  subst hi
  intro j hj hm
  exact h.2.1 j hj (yZ (i:=k) (by simpa using hk) j hm)
 | q :: ps,X :: Fs,h,i + 1,0,F,E,hi,hk,_=>by
  simp at hk
  subst hk
  intro j hj hm
  exact h.2.1 j hm (yZ (i:=i) (by simpa using hi) j hj)
 | q :: ps,X :: Fs,h,i + 1,k + 1,F,E,hi,hk,hne=>Sps.dis h.2.2 (i:=i) (k:=k) (by simpa using hi) (by simpa using hk) (by omega)
def sel {α:Type} (js:List Nat) (l:List α):List α:=js.filterMap fun j=>l[j]?
theorem Sps.pick {G:ah} {ps:List LP} {Fs:List (List AId)} (h:Sps ps Fs G):∀ {js:List Nat},js.Nodup -> (∀ j ∈ js,j < ps.length) -> Sps (sel js ps) (sel js Fs) G /\ ∀ x ∈ (sel js Fs).flatten,∃ j ∈ js,∃ F,Fs[j]? = some F /\ x ∈ F
 | [],_,_=>⟨trivial,by simp [sel]⟩
 | j :: js,hn,hl=>by
  obtain ⟨hn1,hn2⟩:=List.nodup_cons.1 hn
  obtain ⟨ih1,ih2⟩:=Sps.pick h hn2 fun k hk=>hl k (by simp [hk])
  obtain ⟨p,hp⟩:∃ p,ps[j]? = some p:=⟨_,List.getElem?_eq_getElem (hl j (by simp))⟩
  obtain ⟨F,hF,hpF⟩:=h.at_ hp
  have e1:sel (j :: js) ps = p :: sel js ps:=by simp [sel,hp]
  have e2:sel (j :: js) Fs = F :: sel js Fs:=by simp [sel,hF]
  rw [e1,e2]
  refine ⟨⟨hpF,fun x hx hm=>?_,ih1⟩,fun x hx=>?_⟩
  ·obtain ⟨k,hk,E,hE,hxE⟩:=ih2 x hm
   exact h.dis hF hE (fun e=>hn1 (e ▸ hk)) x hx hxE
  ·have hx:x ∈ F \/ x ∈ (sel js Fs).flatten:=by simpa using hx
   rcases hx with hx | hx
   ·exact ⟨j,by simp,F,hF,hx⟩
   ·obtain ⟨k,hk,E,hE,hxE⟩:=ih2 x hx
    exact ⟨k,by simp [hk],E,hE,hxE⟩
theorem Sps.cat {G:ah}:∀ {qs ps:List LP} {Gs Fs:List (List AId)},Sps qs Gs G -> Sps ps Fs G -> (∀ j ∈ Gs.flatten,j ∉ Fs.flatten) -> Sps (qs ++ ps) (Gs ++ Fs) G
 | [],ps,[],Fs,_,h,_=>h
 | [],_,_ :: _,_,h,_,_=>h.elim
 | _ :: _,_,[],_,h,_,_=>h.elim
 | q :: qs,ps,E :: Gs,Fs,t,h,hd=>by
  obtain ⟨t1,t2,t3⟩:=t
  refine ⟨t1,fun j hj hm=>?_,Sps.cat t3 h fun j hj=>hd j (by simp only [List.flatten_cons,List.mem_append]; exact .inr hj)⟩
  have hm:j ∈ (Gs ++ Fs).flatten:=hm
  rw [List.flatten_append,List.mem_append] at hm
  rcases hm with hm | hm
  ·exact t2 j hj hm
  ·exact hd j (by simp only [List.flatten_cons,List.mem_append]; exact .inl hj) hm
theorem Sps.split {G:ah}:∀ {qs ps:List LP} {Fs:List (List AId)},Sps (qs ++ ps) Fs G -> ∃ Gs Es,Fs = Gs ++ Es /\ Sps qs Gs G /\ Sps ps Es G /\ ∀ j ∈ Gs.flatten,j ∉ Es.flatten
 | [],ps,Fs,h=>⟨[],Fs,rfl,trivial,h,by simp⟩
 | _ :: _,_,[],h=>h.elim
 | q :: qs,ps,F :: Fs,h=>by
  obtain ⟨h1,h2,h3⟩:=h
  obtain ⟨Gs,Es,rfl,k1,k2,k3⟩:=Sps.split h3
  refine ⟨F :: Gs,Es,rfl,⟨h1,fun j hj hm=>h2 j hj (by rw [List.flatten_append]; exact List.mem_append.2 (.inl hm)),k1⟩,k2,fun j hj hm=>?_⟩
  have hj:j ∈ F \/ j ∈ Gs.flatten:=by simpa using hj
  rcases hj with hj | hj
  ·exact h2 j hj (by rw [List.flatten_append]; exact List.mem_append.2 (.inr hm))
  ·exact k3 j hj hm
section
variable {F0:List AId} {G0 G:ah} {ps:List LP}
theorem Sp.pick (h:Sp F0 G0 ps G) (js:List Nat) (hn:js.Nodup) (hl:∀ j ∈ js,j < ps.length):Sp F0 G0 (sel js ps) G:=by
 obtain ⟨Fs,h1,h2⟩:=h
 obtain ⟨k1,k2⟩:=h1.pick hn hl
 refine ⟨_,k1,h2.ro,h2.others,fun j hj=>h2.row j ?_⟩
 obtain ⟨k,_,F,hF,hm⟩:=k2 j hj
 exact yZ hF j hm
end
end Go.Esc
namespace Go.Esc.M
open Go Go.Esc
section
variable {F0:List AId} {G0 G:ah} {ps:List LP} {Q:ag -> ah -> Prop} {tb:AId} {t:lT} {l:Bool -> Ls} {w:Bool -> ag}
theorem Sp.CX (h:Sp F0 G0 (iR tb t :: ps) G):∃ l w,Sp F0 G0 (mR tb t l w ++ ps) G:=by
 obtain ⟨Fs,h1,h2⟩:=h
 cases Fs with
 | nil=>exact h1.elim
 | cons F Fs=>
  obtain ⟨⟨l,w,Es,hE,rfl⟩,h3,h4⟩:=h1
  refine ⟨l,w,Es ++ Fs,Sps.cat hE h4 h3,h2.ro,h2.others,fun j hj=>h2.row j ?_⟩
  rw [List.flatten_append] at hj
  simpa using hj
theorem Sp.se (h:Sp F0 G0 (mR tb t l w ++ ps) G):Sp F0 G0 (iR tb t :: ps) G:=by
 obtain ⟨Fs,h1,h2⟩:=h
 obtain ⟨Gs,Es,rfl,k1,k2,k3⟩:=h1.split
 refine ⟨Gs.flatten :: Es,⟨⟨l,w,Gs,k1,rfl⟩,k3,k2⟩,h2.ro,h2.others,fun j hj=>h2.row j ?_⟩
 rw [List.flatten_append]
 simpa using hj
theorem Sp.D1 (s:Sp F0 G0 (mR tb t l w ++ ps) G):oD G tb t l w:=by
 have a1:=bj.own (i:=1) s rfl
 have a2:=bj.own (i:=2) s rfl
 have a3:=bj.own (i:=3) s rfl
 have a4:=bj.own (i:=4) s rfl
 have a5:=bj.own (i:=5) s rfl
 have a6:=bj.own (i:=6) s rfl
 have a7:=QuL.qu (i:=7) s rfl
 have a8:=QuL.qu (i:=8) s rfl
 refine ⟨ar.own (i:=0) s rfl,fun s=>?_,fun s=>?_,fun s=>?_,fun s=>?_,fun s=>?_,fun s=>?_⟩
 ·cases s
  ·exact ⟨a1.leaf,a2.leaf,a3.leaf⟩
  ·exact ⟨a4.leaf,a5.leaf,a6.leaf⟩
 ·cases s
  ·exact a7.leaf
  ·exact a8.leaf
 ·cases s
  ·exact Own.nM a1
  ·exact Own.nM a4
 ·cases s
  ·exact Own.nM a2
  ·exact Own.nM a5
 ·cases s
  ·exact Own.nM a3
  ·exact Own.nM a6
 ·cases s
  ·exact a7
  ·exact a8
theorem iR.at_ {F:List AId} (h:(iR tb t).p G F):∃ l w,oD G tb t l w:=by
 obtain ⟨l,w,s⟩:=iR.open h
 exact ⟨l,w,Sp.D1 (ps:=[]) (by simpa using s)⟩
def kl (t:lT) (s:Bool) (f:StF):lT:=⟨t.c,kV t.f s f,t.q⟩
def og (t:lT) (s:Bool) (q:List bA):lT:=⟨t.c,t.f,kV t.q s q⟩
section
variable {n:Nat} (k:kx t n)
include k
theorem CF (h:Sp F0 G0 (mR tb t l w ++ ps) G) (s:Bool) {x:ag} (hx:bz x) {K:ah -> Prop}
  (hK:∀ G',Sp F0 G0 (ar tb (ot t l (kV w s x)) :: ((mR tb t l w).drop 1 ++ ps)) G' -> K G'):wg (ax T G aR (aQ tb s) x) K:=by
 have a:=Sp.D1 h
 cases s
 ·exact fK (st1 a.g (a.szl k) rfl rfl zc (jg hx rfl) (by rw [(a.lw false).1,hx.1]) hx.2.2) (hK _ (Sp.setRow (j:=0) h rfl (ot t l (kV w false x))))
 ·exact fK (st1 a.g (a.szl k) rfl rfl zc (jg hx rfl) (by rw [(a.lw true).1,hx.1]) hx.2.2) (hK _ (Sp.setRow (j:=0) h rfl (ot t l (kV w true x))))
theorem CE (h:Sp F0 G0 (mR tb t l w ++ ps) G) (s:Bool) {f:StF} (hf:f.s.ok) {x:Ls} (hx:x.lv) {K:ah -> Prop}
  (hK:∀ G',Sp F0 G0 (ar tb (ot (kl t s f) (kV l s x) w) :: ((mR tb t l w).drop 1 ++ ps)) G' -> K G'):wg (ax T G aJ (aS tb s) (f.s.av x.o x.p x.h)) K:=by
 have a:=Sp.D1 h
 cases s
 ·exact fK (st2 a.g (a.szl k) rfl rfl (a.szS k) rfl rfl rfl lE (StM.fits hf hx) (by rw [StM.sz (k.f false).ok (a.lv false),StM.sz hf hx]) (StM.okv hx)) (hK _ (Sp.setRow (j:=0) h rfl (ot (kl t false f) (kV l false x) w)))
 ·exact fK (st2 a.g (a.szl k) rfl rfl (a.szS k) rfl rfl rfl lE (StM.fits hf hx) (by rw [StM.sz (k.f true).ok (a.lv true),StM.sz hf hx]) (StM.okv hx)) (hK _ (Sp.setRow (j:=0) h rfl (ot (kl t true f) (kV l true x) w)))
end
theorem CD {s:Bool} {f:StF} {x:Ls} {i j m:Nat} {xs:List Nat} (h:Sp F0 G0 (ar tb (ot (kl t s f) (kV l s x) w) :: ((mR tb t l w).drop 1 ++ ps)) G) (ho:ps[i]? = some (bj 36 x.o (f.o.map aK.av))) (hp:ps[j]? = some (bj 36 x.p (f.p.map aK.av))) (hh:ps[m]? = some (bj 34 x.h (f.h.map cB.av)))
  (hn:(i :: j :: m :: xs).Nodup) (hl:∀ y ∈ xs,y < ps.length):Sp F0 G0 (iR tb (kl t s f) :: sel xs ps) G:=by
 have li:=(List.getElem?_eq_some_iff.1 ho).1
 have lj:=(List.getElem?_eq_some_iff.1 hp).1
 have lm:=(List.getElem?_eq_some_iff.1 hh).1
 have hlen:(ar tb (ot (kl t s f) (kV l s x) w) :: ((mR tb t l w).drop 1 ++ ps)).length = 9 + ps.length:=by simp; omega
 have at9:∀ y,(ar tb (ot (kl t s f) (kV l s x) w) :: ((mR tb t l w).drop 1 ++ ps))[9 + y]? = ps[y]?:=by
  intro y
  rw [show 9 + y = (8 + y) + 1 by omega,List.getElem?_cons_succ,List.getElem?_append_right (by simp),]
  simp
 obtain ⟨hn1,hn2⟩:=List.nodup_cons.1 hn
 obtain ⟨hn3,hn4⟩:=List.nodup_cons.1 hn2
 obtain ⟨hn5,hn6⟩:=List.nodup_cons.1 hn4
 simp only [List.mem_cons,not_or] at hn1 hn3
 have hsel:sel (xs.map (9 + ·)) (ar tb (ot (kl t s f) (kV l s x) w) :: ((mR tb t l w).drop 1 ++ ps)) = sel xs ps:=by
  unfold sel
  rw [List.filterMap_map]
  congr 1
  funext y
  exact at9 y
 have hnx:(xs.map (9 + ·)).Nodup:=by
  unfold List.Nodup
  rw [List.pairwise_map]
  exact List.Pairwise.imp (fun h e=>h (by omega)) hn6
 have hx9:∀ y ∈ xs.map (9 + ·),9 ≤ y /\ y < 9 + ps.length /\ y ≠ 9 + i /\ y ≠ 9 + j /\ y ≠ 9 + m:=by
  intro y hy
  obtain ⟨z,hz,rfl⟩:=List.mem_map.1 hy
  have:=hl z hz
  refine ⟨by omega,by omega,fun e=>?_,fun e=>?_,fun e=>?_⟩
  ·exact hn1.2.2 (by rwa [show i = z by omega])
  ·exact hn3.2 (by rwa [show j = z by omega])
  ·exact hn5 (by rwa [show m = z by omega])
 cases s
 ·have h2:=Sp.pick h (0 :: (9 + i) :: (9 + j) :: (9 + m) :: 4 :: 5 :: 6 :: 7 :: 8 :: xs.map (9 + ·)) (by
   simp only [List.nodup_cons,List.mem_cons,not_or]
   refine ⟨⟨by omega,by omega,by omega,by omega,by omega,by omega,by omega,by omega,fun hy=>?_⟩,⟨by omega,by omega,by omega,by omega,by omega,by omega,by omega,fun hy=>?_⟩,⟨by omega,by omega,by omega,by omega,by omega,by omega,fun hy=>?_⟩,⟨by omega,by omega,by omega,by omega,by omega,fun hy=>?_⟩,⟨by omega,by omega,by omega,by omega,fun hy=>?_⟩,⟨by omega,by omega,by omega,fun hy=>?_⟩,⟨by omega,by omega,fun hy=>?_⟩,⟨by omega,fun hy=>?_⟩,⟨fun hy=>?_,hnx⟩⟩ <;> (have:=hx9 _ hy; omega)) (by
   intro y hy
   rw [hlen]
   simp only [List.mem_cons] at hy
   rcases hy with rfl | rfl | rfl | rfl | rfl | rfl | rfl | rfl | rfl | hy <;> first | omega | (have:=hx9 _ hy; omega))
  refine Sp.se (l:=kV l false x) (w:=w) ?_
  have e:sel (0 :: (9 + i) :: (9 + j) :: (9 + m) :: 4 :: 5 :: 6 :: 7 :: 8 :: xs.map (9 + ·)) (ar tb (ot (kl t false f) (kV l false x) w) :: ((mR tb t l w).drop 1 ++ ps)) = mR tb (kl t false f) (kV l false x) w ++ sel xs ps:=by
   rw [<- hsel]
   unfold sel
   simp only [List.filterMap_cons,at9,ho,hp,hh]
   rfl
  rw [<- e]
  exact h2
 ·have h2:=Sp.pick h (0 :: 1 :: 2 :: 3 :: (9 + i) :: (9 + j) :: (9 + m) :: 7 :: 8 :: xs.map (9 + ·)) (by
   simp only [List.nodup_cons,List.mem_cons,not_or]
   refine ⟨⟨by omega,by omega,by omega,by omega,by omega,by omega,by omega,by omega,fun hy=>?_⟩,⟨by omega,by omega,by omega,by omega,by omega,by omega,by omega,fun hy=>?_⟩,⟨by omega,by omega,by omega,by omega,by omega,by omega,fun hy=>?_⟩,⟨by omega,by omega,by omega,by omega,by omega,fun hy=>?_⟩,⟨by omega,by omega,by omega,by omega,fun hy=>?_⟩,⟨by omega,by omega,by omega,fun hy=>?_⟩,⟨by omega,by omega,fun hy=>?_⟩,⟨by omega,fun hy=>?_⟩,⟨fun hy=>?_,hnx⟩⟩ <;> (have:=hx9 _ hy; omega)) (by
   intro y hy
   rw [hlen]
   simp only [List.mem_cons] at hy
   rcases hy with rfl | rfl | rfl | rfl | rfl | rfl | rfl | rfl | rfl | hy <;> first | omega | (have:=hx9 _ hy; omega))
  refine Sp.se (l:=kV l true x) (w:=w) ?_
  have e:sel (0 :: 1 :: 2 :: 3 :: (9 + i) :: (9 + j) :: (9 + m) :: 7 :: 8 :: xs.map (9 + ·)) (ar tb (ot (kl t true f) (kV l true x) w) :: ((mR tb t l w).drop 1 ++ ps)) = mR tb (kl t true f) (kV l true x) w ++ sel xs ps:=by
   rw [<- hsel]
   unfold sel
   simp only [List.filterMap_cons,at9,ho,hp,hh]
   rfl
  rw [<- e]
  exact h2
theorem uk {n:Nat} (k:kx t n) {s:Bool} {f:StF} (hf:iC f):kx (kl t s f) n :=
 ⟨k.c,fun r=>by
  by_cases h:r = s
  ·subst h; show iC (kV t.f r f r); rw [sK]; exact hf
  ·show iC (kV t.f s f r); rw [xP _ _ h]; exact k.f r,k.q,k.n⟩
theorem yc {n m:Nat} (k:kx t n) (hnm:n ≤ m) {s:Bool} {q:List bA} (hq:∀ x ∈ q,x.ok) (hl:q.length ≤ m):kx (og t s q) m :=
 ⟨k.c,k.f,fun r=>by
  by_cases h:r = s
  ·subst h; show ∀ x ∈ kV t.q r q r,x.ok; rw [sK]; exact hq
  ·show ∀ x ∈ kV t.q s q r,x.ok; rw [xP _ _ h]; exact k.q r,fun r=>by
  by_cases h:r = s
  ·subst h; show (kV t.q r q r).length ≤ m; rw [sK]; exact hl
  ·show (kV t.q s q r).length ≤ m; rw [xP _ _ h]; exact Nat.le_trans (k.n r) hnm⟩
theorem cQ.use {u:aK} (h:u.ok) (hQ:∀ G',Ch [] G [] G' -> Q (oy u).av G'):al P cQ.n [u.av] G Q:=by
 refine cQ.sound ?_
 unfold cQ.S
 rw [AZ]
 intro i1 f1
 have s1:=(Sp.nil G).row f1 u.av
 intro i3 f3
 have s3:=s1.row f3 bA.zero.av
 obtain ⟨u0,u1,u2,u3,u4,_⟩:=dh (i:=1) s3 rfl h
 refine ae u0 ?_
 refine ae u1 ?_
 refine ae u2 ?_
 refine ae u3 ?_
 refine ae u4 ?_
 refine ae (n5 (r:=oy u) (fun p hp=>?_) rfl) ?_
 ·simp only [List.mem_cons,List.not_mem_nil,or_false] at hp
  rcases hp with rfl | rfl | rfl | rfl | rfl
  ·rfl
  ·rfl
  ·rfl
  ·exact mK h.hash
  ·rfl
 refine k7 (i:=0) s3 rfl bA.bD (nH h) fun G11 s11=>?_
 refine ae (cJ dB (ar.own (i:=0) s11 rfl) (bA.fits (nH h))) ?_
 exact hQ _ s11.ch
theorem dx.use {m:bA} (h:m.ok) (hQ:∀ G',Ch [] G [] G' -> Q (zZ m).av G'):al P dx.n [m.av] G Q:=by
 refine dx.sound ?_
 unfold dx.S
 rw [DL]
 intro i1 f1
 have s1:=(Sp.nil G).row f1 m.av
 intro i3 f3
 have s3:=s1.row f3 aK.zero.av
 obtain ⟨m0,m1,m2,_,_,m5,_,m7,_⟩:=gL (i:=1) s3 rfl h
 refine ae m0 ?_
 refine ae m1 ?_
 refine ae m2 ?_
 refine ae m5 ?_
 refine ae m7 ?_
 refine ae ((jK (zs:=aK.zero.cs) fC rfl rfl rfl (n9 rfl) fun p hp=>?_).trans (rfl:_ = some (zZ m).av)) ?_
 ·simp only [List.mem_cons,List.not_mem_nil,or_false] at hp
  rcases hp with rfl | rfl | rfl | rfl | rfl
  ·rfl
  ·rfl
  ·rfl
  ·exact mK h.hash
  ·rfl
 refine kY (i:=0) s3 rfl aK.bD (uq h) fun G11 s11=>?_
 refine ae (dh (i:=0) s11 rfl (uq h)).2.2.2.2.2 ?_
 exact hQ _ s11.ch
theorem KW {s:Bool} {t:TypeId}:aw T .eql t (.int .i64 (bI s)) (.int .i64 0) = some (.bool (!s)):=by cases s <;> rfl
theorem KV {s:Bool} {t:TypeId}:aw T .eql t (.int .i64 (bI s)) (.int .i64 1) = some (.bool s):=by cases s <;> rfl
theorem bL.use {F:List AId} {n:Nat} {s:Bool} {m:bA} (h:(iR tb t).p G F) (k:kx t n) (hn:n ≤ 100000000) (hm:m.ok) (hQ:∀ F' G',(iR tb (og t (!s) (t.q (!s) ++ [m]))).p G' F' -> Ch F G F' G' -> Q (.tuple []) G') :
  al P bL.n [.ptr tb [] 0,.int .i64 (bI s),m.av] G Q:=by
 refine bL.sound ?_
 unfold bL.S
 intro i1 f1
 have s1:=(Sp.nil G).row f1 m.av
 obtain ⟨l,w,s2⟩:=Sp.CX (Sp.with h s1)
 have a:=Sp.D1 s2
 have hl:∀ r,(t.q r).length ≤ 100000000:=fun r=>Nat.le_trans (k.n r) hn
 have fin:∀ (w':Bool -> ag) (G':ah),Sp F G (mR tb (og t (!s) (t.q (!s) ++ [m])) l w' ++ [ar i1 m.av]) G' -> Q (.tuple []) G':=by
  intro w' G' sp
  have s5:=Sp.se sp
  have s6:Sp F G [iR tb (og t (!s) (t.q (!s) ++ [m]))] G':=s5.erase 1
  obtain ⟨F',h1,h2⟩:=s6.out
  exact hQ F' G' h1 h2
 rw [KW,aa]
 cases s
 ·rw [Bool.not_false,aX]
  refine ae jv ?_
  refine ae Bj ?_
  refine ae (a.ldQ k true) ?_
  refine ae (gL (i:=9) s2 rfl hm).2.2.2.2.2.2.2.2 ?_
  refine Kj (T:=T) (ts:=aR) (e:=aG) (si:=fO) (ie:=fe) (i:=8) zc rfl dB rfl (by decide) s2 rfl (bA.sz hm) (bA.okv m) (by decide) (by rw [List.length_map]; have:=hl true; simp only [fe]; omega) fun x G11 s11=>?_
  refine ae jv ?_
  refine ae Bj ?_
  have hx:=(QuL.qu (i:=8) s11 rfl).leaf
  have g11:=ar.own (i:=0) s11 rfl
  refine fK (st1 g11 (a.szl k) rfl rfl zc (jg hx rfl) (by rw [(a.lw true).1,hx.1]) hx.2.2) ?_
  have s14:=Sp.setRow (j:=0) s11 rfl (ot t l (kV w true x))
  refine fin (kV w true x) _ ?_
  have e:(t.q true).map bA.av ++ [m.av] = (t.q true ++ [m]).map bA.av:=by rw [List.map_append]; rfl
  rw [e] at s14
  exact s14
 ·rw [Bool.not_true,aM]
  refine ae jv ?_
  refine ae Bk ?_
  refine ae (a.ldQ k false) ?_
  refine ae (gL (i:=9) s2 rfl hm).2.2.2.2.2.2.2.2 ?_
  refine Kj (T:=T) (ts:=aR) (e:=aG) (si:=fO) (ie:=fe) (i:=7) zc rfl dB rfl (by decide) s2 rfl (bA.sz hm) (bA.okv m) (by decide) (by rw [List.length_map]; have:=hl false; simp only [fe]; omega) fun x G11 s11=>?_
  refine ae jv ?_
  refine ae Bk ?_
  have hx:=(QuL.qu (i:=7) s11 rfl).leaf
  have g11:=ar.own (i:=0) s11 rfl
  refine fK (st1 g11 (a.szl k) rfl rfl zc (jg hx rfl) (by rw [(a.lw false).1,hx.1]) hx.2.2) ?_
  have s14:=Sp.setRow (j:=0) s11 rfl (ot t l (kV w false x))
  refine fin (kV w false x) _ ?_
  have e:(t.q false).map bA.av ++ [m.av] = (t.q false ++ [m]).map bA.av:=by rw [List.map_append]; rfl
  rw [e] at s14
  exact s14
end
end Go.Esc.M
namespace Go.Esc
open Go Go.RowKit
section
variable {F0:List AId} {G0 G:ah} {ps:List LP}
theorem yx {G':ah} {qs:List LP} (h:Sp F0 G0 ps G) (t:Sp [] G qs G'):Sp F0 G0 (qs ++ ps) G':=by
 obtain ⟨Fs,h1,h2⟩:=h
 obtain ⟨Gs,t1,t2⟩:=t
 refine ⟨Gs ++ Fs,Sps.cat t1 (h1.same fun j hj=>t2.same (E:=Fs.flatten) h1.rows (by simp) j hj) fun j hj hm=>?_,h2.trans ?_⟩
 ·rcases t2.row j hj with h' | h'
  ·simp at h'
  ·have:=h1.rows j hm
   rw [h'] at this; cases this
 ·have:=t2.more (E:=Fs.flatten)
  simpa using this
end
end Go.Esc
namespace Go.Esc.M
open Go Go.Esc
section
variable {T:Tbl} {G:ah} {id:AId} {cs ds es:List ag} {ss ss2 ss3:List Nat} {k j m o o2 o3 oo:Nat} {c u:ag} {t:TypeId} {ti:TI}
theorem ld3 (hg:G id = some (.own (.agg cs))) (hs:cs.map sz = ss) (ho:(ss.take k).sum = o) (hc:cs[k]? = some (.agg ds)) (hs2:ds.map sz = ss2) (ho2:(ss2.take j).sum = o2) (hc2:ds[j]? = some (.agg es)) (hs3:es.map sz = ss3) (ho3:(ss3.take m).sum = o3) (hc3:es[m]? = some c)
  (hoo:o + (o2 + o3) = oo) (ht:T t = some ti) (hf:fa ti c = true):lq T G t (.ptr id [k,j,m] oo) = some c:=by
 subst hoo
 have e1:=oG hs ho
 have e2:=oG hs2 ho2
 have e3:=oG hs3 ho3
 simp [lq,mo,hg,kZ,sub,e1,e2,e3,hc,hc2,hc3,ht,hf]
theorem st3 (hg:G id = some (.own (.agg cs))) (hs:cs.map sz = ss) (ho:(ss.take k).sum = o) (hc:cs[k]? = some (.agg ds)) (hs2:ds.map sz = ss2) (ho2:(ss2.take j).sum = o2) (hc2:ds[j]? = some (.agg es)) (hs3:es.map sz = ss3) (ho3:(ss3.take m).sum = o3) (hc3:es[m]? = some u)
  (hoo:o + (o2 + o3) = oo) (ht:T t = some ti) (hf:fa ti c = true) (hsz:sz u = sz c) (hok:okv c = true) :
  ax T G t (.ptr id [k,j,m] oo) c = some (G.upd id (.own (.agg (cs.set k (.agg (ds.set j (.agg (es.set m c)))))))):=by
 subst hoo
 have e1:=oG hs ho
 have e2:=oG hs2 ho2
 have e3:=oG hs3 ho3
 simp [ax,hg,sub,e1,e2,e3,hc,hc2,hc3,ht,hf,hsz,hok,putAt]
end
def tw (c:CfM) (f f':StF) (r:RcM):List bA :=
 if r.kind = 1 then [oy r.upd] else if r.kind = 2 then [qd c f'] else if r.kind = 3 then [pP c f.s.loc] else []
def uF (t:lT) (s:Bool) (r:RcM) (f':StF):lT:=og (kl t s f') (!s) (t.q (!s) ++ tw (t.c s) (t.f s) f' r)
def zw (m:bA) (o:ik):bA:={ m with index:=IntKind.i64.wrap (m.index + o.index),hash:=if o.note = [98,101,110,100] then o.hash else m.hash }
theorem I3 {m:bA} {o:ik} (h:m.ok) (ho:o.ok):(zw m o).ok:=by
 refine ⟨h.kind,h.id,h.amount,IC _,h.next,?_,h.secret,h.note⟩
 show (if o.note = [98,101,110,100] then o.hash else m.hash).length = 32
 split
 ·exact ho.hash
 ·exact h.hash
theorem DP (t:lT) (s:Bool):og t s (t.q s) = t:=by
 have:kV t.q s (t.q s) = t.q:=by
  funext r
  by_cases h:r = s
  ·subst h; rw [sK]
  ·rw [xP _ _ h]
 show (⟨t.c,t.f,kV t.q s (t.q s)⟩:lT) = t
 rw [this]
theorem HS {c:CfM} {f f':StF} {r:RcM} (hc:c.ok) (hr:r.ok) (h:f.s.ok) (h':f'.s.ok):∀ m ∈ tw c f f' r,m.ok:=by
 intro m hm
 unfold tw at hm
 split at hm
 ·rw [List.mem_singleton.1 hm]; exact nH hr.upd
 split at hm
 ·rw [List.mem_singleton.1 hm]; exact wC h'
 split at hm
 ·rw [List.mem_singleton.1 hm]; exact tR hc h.loc
 ·cases hm
theorem Gl (c:CfM) (f f':StF) (r:RcM):(tw c f f' r).length ≤ 1:=by
 unfold tw
 split
 ·simp
 split
 ·simp
 split <;> simp
theorem Bv {t:lT} {n:Nat} (k:kx t n) {s:Bool} {r:RcM} {f':StF} (hr:r.ok) (I:iC f'):kx (uF t s r f') (n + 1):=by
 refine yc (uk k I) (by omega) (fun m hm=>?_) ?_
 ·rcases List.mem_append.1 hm with hm | hm
  ·exact k.q _ m hm
  ·exact HS (k.c s) hr (k.f s).ok I.ok m hm
 ·rw [List.length_append]
  have:=k.n (!s)
  have:=Gl (t.c s) (t.f s) f' r
  omega
section
variable {F0:List AId} {G0 G:ah} {ps:List LP} {Q:ag -> ah -> Prop} {tb:AId} {t:lT} {l:Bool -> Ls} {w:Bool -> ag}
theorem JK {v:ag} {l:List bA} {j:Nat} {u:bA} (h:fV 70 G v (l.map bA.av)) (hj:l[j]? = some u):∃ a,aL T aR v (.int .i64 (j:Int)) = some a /\ lq T G aG a = some u.av :=
 h.at_ (k:=.i64) (i:=fO) (ie:=fe) (T:=T) (t:=aR) (e:=aG) zc rfl dB (by rw [List.getElem?_map,hj]; rfl) rfl
theorem Ie {v:ag} {l:List bA} (h:fV 70 G v (l.map bA.av)):gF T G aR v = some (.int .i64 (l.length:Nat)):=by
 rw [h.len (i:=fO) zc rfl,List.length_map]
theorem Js (s:Bool):bx T aJ (aS tb s) 6 = some (.ptr tb [1,bN s,6] (328 + (bN s * 115 + 6))):=by cases s <;> rfl
theorem oD.Li {n:Nat} (h:oD G tb t l w) (k:kx t n) (s:Bool):lq T G me (.ptr tb [1,bN s,6] (328 + (bN s * 115 + 6))) = some (.int .i64 (t.f s).s.loc):=by
 cases s
 ·exact ld3 h.g (h.szl k) rfl rfl (h.szS k) rfl rfl (StM.szl (k.f false).ok (h.lv false)) rfl rfl rfl cA rfl
 ·exact ld3 h.g (h.szl k) rfl rfl (h.szS k) rfl rfl (StM.szl (k.f true).ok (h.lv true)) rfl rfl rfl cA rfl
theorem HI {l':Bool -> Ls} {w':Bool -> ag} (h:ot t l w = ot t l' w'):w = w':=by
 unfold ot at h
 injection h with h
 injection h with _ h
 injection h with _ h
 injection h with h1 h
 injection h with h2 _
 funext s
 cases s
 ·exact h1
 ·exact h2
theorem bO.use {F:List AId} {n:Nat} {s:Bool} {r:RcM} {lu:List aK} {v:ag} {f':StF} (h:(iR tb t).p G F) (k:kx t n) (hn:n ≤ 99999999) (hr:r.ok) (hv:bz v) (hl:fV 36 G v (lu.map aK.av)) (okl:∀ u ∈ lu,u.ok) (hll:lu.length ≤ 4096)
  (ap:zE (t.f s) r lu f') (I:iC f') (hQ:∀ F' G',(iR tb (uF t s r f')).p G' F' -> Ch F G F' G' -> Q (.tuple []) G') :
  al P bO.n [.ptr tb [] 0,.int .i64 (bI s),r.av v] G Q:=by
 refine bO.sound ?_
 unfold bO.S
 obtain ⟨l,w,a⟩:=iR.at_ h
 have J:=k.f s
 have hlo:=J.lo
 have hlp:=J.lp
 intro i1 f1
 have s1:=(Sp.nil G).row f1 (r.av v)
 refine ae jv ?_
 refine ae rN ?_
 refine ae (rM s) ?_
 refine ae ((a.mv s1.ch).ldS k s) ?_
 refine ae (Rc.ld (ar.own (i:=0) s1 rfl) hr hv) ?_
 refine cN.use ((a.mv s1.ch).D5 k s) hr hv (hl.ch' s1.ch) okl hll (by omega) (by omega) J.lh ap fun wo wp wh G9 t9=>?_
 have s9:Sp [] G [bj 34 wh (f'.h.map cB.av),bj 36 wp (f'.p.map aK.av),bj 36 wo (f'.o.map aK.av),ar i1 (r.av v)] G9:=yx s1 t9
 have lx:Ls.lv ⟨wo,wp,wh⟩:=⟨(bj.own (i:=2) s9 rfl).leaf,(bj.own (i:=1) s9 rfl).leaf,(bj.own (i:=0) s9 rfl).leaf⟩
 refine ae (tv0 _ _) ?_
 refine ae (tv1 _ _) ?_
 refine St.nw s9 I.ok lx fun i12 G14 s14=>?_
 have s14:Sp [] G [ar i12 (f'.s.av wo wp wh),bj 34 wh (f'.h.map cB.av),bj 36 wp (f'.p.map aK.av),bj 36 wo (f'.o.map aK.av),ar i1 (r.av v)] G14:=s14
 rw [fN,aa,Bool.not_true,aM]
 refine ae jv ?_
 refine ae rN ?_
 refine ae (rM s) ?_
 refine ae (Js s) ?_
 refine ae ((a.mv s14.ch).Li k s) ?_
 refine ae (St.ld (ar.own (i:=0) s14 rfl) I.ok lx) ?_
 refine ae jv ?_
 refine ae rN ?_
 refine ae (rM s) ?_
 obtain ⟨l',w',S14⟩:=Sp.CX (Sp.with h s14)
 refine CE k S14 s I.ok (x:=⟨wo,wp,wh⟩) lx fun G25 s25=>?_
 have hS:kW G25 f' wo wp wh:=by
  have b1:=bj.own (i:=12) s25 rfl
  have b2:=bj.own (i:=11) s25 rfl
  have b3:=bj.own (i:=10) s25 rfl
  have:=I.lo
  have:=I.lp
  have:=I.lh
  exact ⟨I.ok,Own.nM b1,Own.nM b2,Own.nM b3,I.oko,I.okp,I.okh,by omega,by omega,by omega⟩
 have S25:=CD (ps:=[ar i12 (f'.s.av wo wp wh),bj 34 wh (f'.h.map cB.av),bj 36 wp (f'.p.map aK.av),bj 36 wo (f'.o.map aK.av),ar i1 (r.av v)]) (x:=⟨wo,wp,wh⟩) (i:=3) (j:=2) (m:=1) (xs:=[0,4]) s25 rfl rfl rfl (by decide) (by intro y hy; simp at hy ⊢; omega)
 have S25:Sp F G [iR tb (kl t s f'),ar i12 (f'.s.av wo wp wh),ar i1 (r.av v)] G25:=S25
 have k':=uk k (s:=s) I
 have hqq:(kl t s f').q = t.q:=rfl
 have fin:∀ {G2:ah} {m:bA} {K:ag -> ah -> Prop},Sp F G [iR tb (kl t s f'),ar i12 (f'.s.av wo wp wh),ar i1 (r.av v)] G2 -> m.ok -> tw (t.c s) (t.f s) f' r = [m] -> (∀ F' G',(iR tb (uF t s r f')).p G' F' -> Ch F G F' G' -> K (.tuple []) G') ->
   al P bL.n [.ptr tb [] 0,.int .i64 (bI s),m.av] G2 K:=by
  intro G2 m K sp hm he hK
  have ep:uF t s r f' = og (kl t s f') (!s) ((kl t s f').q (!s) ++ [m]):=by unfold uF; rw [he]; rfl
  refine sp.call (i:=0) rfl (iR tb (uF t s r f')) fun F1 h1 kk=>?_
  refine bL.use h1 k' (by omega) hm fun F2 G3 h2 c2=>?_
  rw [<- ep] at h2
  have s3:=kk F2 G3 h2 c2
  have s4:Sp F G [iR tb (uF t s r f')] G3:=(s3.erase 1).erase 1
  obtain ⟨F',q1,q2⟩:=s4.out
  exact hK F' G3 q1 q2
 have hr1:=ar.own (i:=2) S25 rfl
 refine ae (Rc.uT hr1 hr hv) ?_
 rw [bC,aa,aE]
 refine ⟨fun hk=>?_,fun hk1=>?_⟩
 ·refine ae (Rc.Ir hr1 hr hv) ?_
  refine cQ.use hr.upd fun G30 c30=>?_
  exact fin (S25.tmp c30) (nH hr.upd) (by unfold tw; rw [if_pos hk]) hQ
 ·rw [bC,aa,aE]
  refine ⟨fun hk=>?_,fun hk2=>?_⟩
  ·obtain ⟨F1,hF1⟩:=S25.get (i:=0) rfl
   obtain ⟨l2,w2,a2⟩:=iR.at_ hF1
   refine ae jv ?_
   refine ae vI ?_
   refine ae (vH s) ?_
   refine ae (a2.ldC k' s) ?_
   refine ae (St.ld (ar.own (i:=1) S25 rfl) I.ok lx) ?_
   refine dU.use hS I (k.c s) fun G40 c40=>?_
   exact fin (S25.tmp c40) (wC I.ok) (by unfold tw; rw [if_neg hk1,if_pos hk]; rfl) hQ
  ·rw [bC,aa,aE]
   refine ⟨fun hk=>?_,fun hk3=>?_⟩
   ·obtain ⟨F1,hF1⟩:=S25.get (i:=0) rfl
    obtain ⟨l2,w2,a2⟩:=iR.at_ hF1
    refine ae jv ?_
    refine ae vI ?_
    refine ae (vH s) ?_
    refine ae (a2.ldC k' s) ?_
    refine dq.use (k.c s) fun G49 c49=>?_
    exact fin (S25.tmp c49) (tR (k.c s) J.ok.loc) (by unfold tw; rw [if_neg hk1,if_neg hk2,if_pos hk]; rfl) hQ
   ·have ep:uF t s r f' = kl t s f':=by
     unfold uF tw
     rw [if_neg hk1,if_neg hk2,if_neg hk3,List.append_nil]
     exact DP (kl t s f') (!s)
    rw [ep] at hQ
    have s4:Sp F G [iR tb (kl t s f')] G25:=(S25.erase 1).erase 1
    obtain ⟨F',q1,q2⟩:=s4.out
    exact hQ F' G25 q1 q2
theorem b9.use {F:List AId} {n:Nat} {s:Bool} {o:ik} (h:(iR tb t).p G F) (k:kx t n) (hn:n ≤ 99999999) (ho:o.ok) (hQ0:t.q s = [] -> ∀ G',Ch [] G [] G' -> Q (.tuple [bA.zero.av,.bool false]) G')
  (hQ1:∀ m ms,t.q s = m :: ms -> ∀ F' G',(iR tb (og t s ms)).p G' F' -> Ch F G F' G' -> Q (.tuple [(zw m o).av,.bool true]) G') :
  al P b9.n [.ptr tb [] 0,.int .i64 (bI s),o.av] G Q:=by
 refine b9.sound ?_
 unfold b9.S
 obtain ⟨l,w,a⟩:=iR.at_ h
 rw [AZ]
 intro i1 f1
 have s1:=(Sp.nil G).row f1 o.av
 intro i3 f3
 have s3:=s1.row f3 bA.zero.av
 revert s3
 generalize ah.upd _ i3 _ = G4
 intro s3
 rw [<- AZ]
 have a4:=a.mv s3.ch
 refine ae jv ?_
 refine ae Bk ?_
 refine ae (a4.ldQ k false) ?_
 rw [KV,aa]
 intro J53
 have go:J53 (w s) G4:=by
  simp -zeta only [J53]
  have hq:=a4.q s
  have hls:=k.n s
  refine ae (Ie hq.is) ?_
  rw [bC,aa,aE]
  refine ⟨fun h0=>?_,fun h0=>?_⟩
  ·have he:t.q s = []:=List.length_eq_zero_iff.1 (by omega)
   refine ae (v:=bA.zero.av) rfl ?_
   refine k7 (i:=0) s3 rfl bA.bD bA.bD fun G17 s17=>?_
   refine ae (cJ dB (ar.own (i:=0) s17 rfl) (bA.fits bA.bD)) ?_
   exact hQ0 he _ s17.ch
  ·obtain ⟨m,ms,he⟩:∃ m ms,t.q s = m :: ms:=by
    cases hc:t.q s with
    | nil=>rw [hc] at h0; exact absurd rfl h0
    | cons m ms=>exact ⟨m,ms,rfl⟩
   have hm:m.ok:=k.q s m (by rw [he]; simp)
   obtain ⟨p,p1,p2⟩:=JK (j:=0) (u:=m) hq.is (by rw [he]; rfl)
   refine ae p1 ?_
   refine ae p2 ?_
   refine Ib s3 hm fun i21 G23 s23=>?_
   have s23:Sp [] G [ar i21 m.av,ar i3 bA.zero.av,ar i1 o.av] G23:=s23
   rw [aa]
   have hQ1:=hQ1 m ms he
   intro J52
   have last:∀ G33,Sp F G [iR tb (og t s ms),ar i21 m.av,ar i3 bA.zero.av,ar i1 o.av] G33 -> J52 G33:=by
    intro G33 S33
    simp -zeta only [J52]
    refine ae (gL (i:=1) S33 rfl hm).2.2.2.1 ?_
    refine ae (Oq.mS (ar.own (i:=3) S33 rfl) ho) ?_
    rw [wi,aa]
    refine Gv _ (i:=1) S33 rfl fun G37 S37=>?_
    have hm1:({ m with index:=IntKind.i64.wrap (m.index + o.index) }:bA).ok:=⟨hm.kind,hm.id,hm.amount,IC _,hm.next,hm.hash,hm.secret,hm.note⟩
    have fin:∀ {G2:ah} {x:bA},Sp F G [iR tb (og t s ms),ar i21 x.av,ar i3 bA.zero.av,ar i1 o.av] G2 -> x = zw m o -> wv (lq T G2 aG (.ptr i21 [] 0)) fun v46=>wg (ax T G2 aG (.ptr i3 [] 0) v46) fun G47=>wv (lq T G47 aG (.ptr i3 [] 0)) fun v48=>Q (.tuple [v48,.bool true]) G47:=by
     intro G2 x S2 hx
     have hxo:x.ok:=by rw [hx]; exact I3 hm ho
     refine ae (gL (i:=1) S2 rfl hxo).2.2.2.2.2.2.2.2 ?_
     refine k7 (i:=2) S2 rfl bA.bD hxo fun G47 S47=>?_
     refine ae (cJ dB (ar.own (i:=2) S47 rfl) (bA.fits hxo)) ?_
     rw [hx]
     have S48:Sp F G [iR tb (og t s ms)] G47:=((S47.erase 1).erase 1).erase 1
     obtain ⟨F',q1,q2⟩:=S48.out
     exact hQ1 F' G47 q1 q2
    refine ae (Oq.FC (ar.own (i:=3) S37 rfl) ho) ?_
    rw [oW,aa,aE]
    refine ⟨fun hb=>?_,fun hb=>?_⟩
    ·refine ae (Oq.BM (ar.own (i:=3) S37 rfl) ho) ?_
     refine Ig ho.hash hm1 (i:=1) S37 rfl fun G41 S41=>?_
     exact fin S41 (by unfold zw; rw [if_pos hb])
    ·exact fin S37 (by unfold zw; rw [if_neg hb])
   obtain ⟨l',w',S23⟩:=Sp.CX (Sp.with h s23)
   have ew:w = w':=by
    have g1:=(a.mv s23.ch).g
    have g2:=(Sp.D1 S23).g
    rw [g1] at g2
    injection g2 with g2
    injection g2 with g2
    exact HI g2
   subst ew
   have hq23:=(Sp.D1 S23).q s
   rw [he] at hq23
   obtain ⟨x,x1,x2,x3⟩:=Qu.rest (T:=T) (ts:=aR) (e:=aG) (si:=fO) (ie:=fe) (vs:=ms.map bA.av) zc rfl dB hq23
   have lx:=x2.leaf
   cases s
   ·rw [aM]
    refine ae x1 ?_
    refine ae jv ?_
    refine ae Bk ?_
    refine CF k S23 false lx fun G28 S28=>?_
    refine last _ ?_
    have S29:=S28.call (i:=7) rfl (QuL 70 x (ms.map bA.av)) (X:=Sp F G (ar tb (ot t l' (kV w false x)) :: (((mR tb t l' w).drop 1 ++ [ar i21 m.av,ar i3 bA.zero.av,ar i1 o.av]).set 6 (QuL 70 x (ms.map bA.av)))) G28) fun F1 hF1 kk=>by
     obtain ⟨qq,rfl⟩:=hF1
     rw [he] at qq
     obtain ⟨y,y1,y2,y3⟩:=Qu.rest (T:=T) (ts:=aR) (e:=aG) (si:=fO) (ie:=fe) (vs:=ms.map bA.av) zc rfl dB qq
     rw [x1] at y1
     injection y1 with y1
     subst y1
     exact kk _ G28 ⟨y2,rfl⟩ (by rw [y3]; exact Ch.refl _ _)
    exact Sp.se (t:=og t false ms) (l:=l') (w:=kV w false x) S29
   ·rw [aX]
    refine ae x1 ?_
    refine ae jv ?_
    refine ae Bj ?_
    refine CF k S23 true lx fun G28 S28=>?_
    refine last _ ?_
    have S29:=S28.call (i:=8) rfl (QuL 70 x (ms.map bA.av)) (X:=Sp F G (ar tb (ot t l' (kV w true x)) :: (((mR tb t l' w).drop 1 ++ [ar i21 m.av,ar i3 bA.zero.av,ar i1 o.av]).set 7 (QuL 70 x (ms.map bA.av)))) G28) fun F1 hF1 kk=>by
     obtain ⟨qq,rfl⟩:=hF1
     rw [he] at qq
     obtain ⟨y,y1,y2,y3⟩:=Qu.rest (T:=T) (ts:=aR) (e:=aG) (si:=fO) (ie:=fe) (vs:=ms.map bA.av) zc rfl dB qq
     rw [x1] at y1
     injection y1 with y1
     subst y1
     exact kk _ G28 ⟨y2,rfl⟩ (by rw [y3]; exact Ch.refl _ _)
    exact Sp.se (t:=og t true ms) (l:=l') (w:=kV w true x) S29
 cases s
 ·rw [aM]
  exact go
 ·rw [aX]
  refine ae jv ?_
  refine ae Bj ?_
  refine ae (a4.ldQ k true) ?_
  exact go
end
end Go.Esc.M
namespace Go.Esc.M
open Go Go.Esc
def xV:StF:=⟨StM.zero,[],[],[]⟩
theorem iC.zero:iC xV:=by
 have nn:∀ {X:List aK},n0 [] X:=fun {X} j u hj=>by simp at hj
 have e0:∀ {a:Int} {n m:Nat},SB a [] [] n m = a:=by intro a n m; simp [SB,gm]
 have on:∀ {a:Int},kp [] [] a ≤ 483:=by intro a; simp [kp,qE]
 have z0:(0:Int) ≤ 0:=by decide
 have z1:(0:Int) ≤ 281474976710654:=by decide
 have z2:(0:Int) ≤ 1152921504606846976:=by decide
 refine ⟨StM.bD,by simp [xV],by simp [xV],by simp [xV],by simp [xV],z0,z0,z0,z0,z0,z0,z0,z0,nn,nn,?_,?_,on,on,z0,z0,rfl,z2,.inl rfl,z0,z1,z0,.inl rfl,z1⟩
 ·show 0 ≤ SB 0 [] [] 0 0; rw [e0]; omega
 ·show 0 ≤ SB 0 [] [] 0 0; rw [e0]; omega
def BW (d:DlM) (s:Bool):CfM:=bif s then GX d else GY d
theorem FO {d:DlM} (h:d.ok) (s:Bool):(BW d s).ok:=by
 cases s
 ·exact BZ h
 ·exact BX h
def rO (c:CfM):StF:=⟨(nb c).1,[],[],[]⟩
def Dy (c:Bool -> CfM):lT:=⟨c,fun _=>xV,fun _=>[]⟩
def KU (c:Bool -> CfM):lT:=⟨c,fun s=>rO (c s),fun _=>[]⟩
def Hi (d:DlM):lT:=KU (BW d)
theorem FV {c:Bool -> CfM} (h:∀ s,(c s).ok):kx (Dy c) 0:={ c:=h,f:=fun _=>iC.zero,q:=fun s m hm=>absurd hm List.not_mem_nil,n:=fun s=>Nat.le_refl 0 }
theorem J5 {c:Bool -> CfM} (h:∀ s,(c s).ok) (hb:∀ s,¬ nc (c s)):kx (KU c) 0:={ c:=h,f:=fun s=>iC.start (h s) (hb s),q:=fun s m hm=>absurd hm List.not_mem_nil,n:=fun s=>Nat.le_refl 0 }
theorem J4 {d:DlM} (h:d.ok) (hb:∀ s,¬ nc (BW d s)):kx (Hi d) 0:=J5 (FO h) hb
theorem J6 (c:Bool -> CfM):kl (kl (Dy c) false (rO (c false))) true (rO (c true)) = KU c:=by
 show (⟨c,kV (kV (fun _=>xV) false (rO (c false))) true (rO (c true)),fun _=>[]⟩:lT) = ⟨c,fun s=>rO (c s),fun _=>[]⟩
 congr 1
 funext s
 cases s <;> rfl
def Fv:Bool -> Ls:=fun _=>⟨.nilSlice,.nilSlice,.nilSlice⟩
def JH:Bool -> ag:=fun _=>.nilSlice
theorem GZ {c:Bool -> CfM} (hc:∀ s,(c s).ok):bk T bw [(0,qb (c false) (c true))] = some (ot (Dy c) Fv JH):=by
 have hcz:Esc.sz (qb (c false) (c true)) = Esc.sz (qb CfM.zero CfM.zero):=by
  simp [qb,Esc.sz,szs,CfM.sz (hc false),CfM.sz (hc true),CfM.sz CfM.bD]
 refine (jK (zs:=[qb CfM.zero CfM.zero,.agg [StM.zero.av .nilSlice .nilSlice .nilSlice,StM.zero.av .nilSlice .nilSlice .nilSlice],.nilSlice,.nilSlice]) tv rfl rfl rfl (n9 rfl) fun p hp=>?_).trans rfl
 rw [List.mem_singleton.1 hp]
 exact congrArg some hcz.symm
section
variable {F0:List AId} {G0 G:ah} {ps:List LP} {Q:ag -> ah -> Prop} {tb:AId} {t:lT} {l:Bool -> Ls} {w:Bool -> ag}
theorem JJ {c:Bool -> CfM} {K:AId -> ah -> Prop} (h:Sp F0 G0 ps G) (hK:∀ i G',Sp F0 G0 (iR i (Dy c) :: ps) G' -> K i G'):br G (.own (ot (Dy c) Fv JH)) K:=by
 intro i f
 have s7:=((((((((h.nd 70).nd 70).nd 34).nd 36).nd 36).nd 34).nd 36).nd 36).row f (ot (Dy c) Fv JH)
 have s8:=bj.qu (i:=7) s7 rfl
 have s9:=bj.qu (i:=8) s8 rfl
 exact hK i _ (Sp.se (t:=Dy c) (l:=Fv) (w:=JH) (ps:=ps) s9)
theorem zx {tb:AId} {c:Bool -> CfM} {t:lT} {s:Bool} {K:ah -> Prop} {R:ah -> Prop} (h:Sp F0 G0 [iR tb t] G) (k:kx t 0) (hco:(c s).ok) (hc:t.c s = c s)
  (bad:nc (c s) -> ∀ i G',Sp F0 G0 [ar i ((nb (c s)).1.av .nilSlice .nilSlice .nilSlice),iR tb t] G' -> K G')
  (kA:¬ nc (c s) -> ∀ G',Sp F0 G0 [iR tb (kl t s (rO (c s)))] G' -> R G') :
  wv (kH (.ptr tb [] 0)) fun v14=>wv (bx T bw v14 0) fun v15=>wv (aL T fD v15 (.int .i64 (bI s))) fun v16=>wv (lq T G cl v16) fun v17=>al P cH.n [v17] G fun v18 G19=>wv (aW v18 0) fun v20=>wv (aW v18 1) fun v21=>br G19 (.own (iT)) fun i22 G23=>wg (ax T G23 aJ (.ptr i22 [] 0) v20) fun G24=>wv (aw T .neq bq v21 (.int .i64 0)) fun v25=>brB (some v25)
 (K G24)
 (wv (lq T G24 aJ (.ptr i22 [] 0)) fun v26=>wv (kH (.ptr tb [] 0)) fun v27=>wv (bx T bw v27 1) fun v28=>wv (aL T gY v28 (.int .i64 (bI s))) fun v29=>wg (ax T G24 aJ v29 v26) fun G30=>R G30):=by
 obtain ⟨F1,hF1⟩:=h.get (i:=0) rfl
 obtain ⟨l,w,a⟩:=iR.at_ hF1
 refine ae jv ?_
 refine ae vI ?_
 refine ae (vH s) ?_
 refine ae (a.ldC k s) ?_
 rw [hc]
 have hok:=vL hco
 have hes:(nb (c s)).2 = if nc (c s) then 1 else 0:=by unfold nb; split <;> rfl
 have hf:rO (c s) = ⟨(nb (c s)).1,[],[],[]⟩:=rfl
 rw [hf] at kA
 refine cH.use hco fun G19 c19=>?_
 have S19:Sp F0 G0 [iR tb t] G19:=h.tmp c19
 generalize nb (c s) = X at hok hes kA bad
 obtain ⟨X,e⟩:=X
 simp only at hok hes kA bad
 refine ae (tv0 _ _) ?_
 refine ae (tv1 _ _) ?_
 refine St.nw S19 hok lv0 fun i22 G24 s24=>?_
 rw [dy,aa,fg]
 refine ⟨fun h0=>?_,fun h0=>?_⟩
 ·refine bad ?_ i22 G24 s24
  refine Classical.byContradiction fun hn=>h0 ?_
  rw [if_neg hn] at hes
  exact hes
 ·have hn:¬ nc (c s):=by
   intro hh
   have h0:e = 0:=h0
   rw [if_pos hh,h0] at hes
   exact absurd hes (by decide)
  refine ae (St.ld (ar.own (i:=0) s24 rfl) hok lv0) ?_
  refine ae jv ?_
  refine ae rN ?_
  refine ae (rM s) ?_
  have s25:=Sp.pick (((s24.nd 34).nd 36).nd 36) [4,0,1,2] (by decide) (by intro y hy; simp at hy ⊢; omega)
  have s25:Sp F0 G0 [iR tb t,bj 36 .nilSlice [],bj 36 .nilSlice [],bj 34 .nilSlice []] G24:=s25
  obtain ⟨l',w',S25⟩:=Sp.CX s25
  refine CE k S25 s (f:=⟨X,[],[],[]⟩) hok (x:=⟨.nilSlice,.nilSlice,.nilSlice⟩) lv0 fun G30 s30=>?_
  have S30:=CD (f:=⟨X,[],[],[]⟩) (ps:=[bj 36 .nilSlice [],bj 36 .nilSlice [],bj 34 .nilSlice []]) (x:=⟨.nilSlice,.nilSlice,.nilSlice⟩) (i:=0) (j:=1) (m:=2) (xs:=[]) s30 rfl rfl rfl (by decide) (by intro y hy; cases hy)
  exact kA hn G30 S30
theorem ef.use {d:DlM} (hd:d.ok) (hQ0:(∃ s,nc (BW d s)) -> ∀ G',Ch [] G [] G' -> Q (.tuple [.nilPtr,.bool false]) G')
  (hQ1:(∀ s,¬ nc (BW d s)) -> ∀ tb G',Sp [] G [iR tb (Hi d)] G' -> Q (.tuple [.ptr tb [] 0,.bool true]) G'):al P ef.n [d.av] G Q:=by
 refine ef.sound ?_
 unfold ef.S
 intro i1 f1
 have s1:=(Sp.nil G).row f1 d.av
 refine ae (Dl.ld (ar.own (i:=0) s1 rfl) hd) ?_
 refine cu.use hd fun G5 c5=>?_
 have s5:Sp [] G [ar i1 d.av] G5:=s1.tmp c5
 have hok:=FO hd
 unfold Hi at hQ1
 have e0:GY d = BW d false:=rfl
 have e1:GX d = BW d true:=rfl
 rw [e0,e1]
 clear e0 e1
 generalize BW d = c at *
 refine ae (GZ hok) ?_
 refine JJ s5 fun i7 G8 S8=>?_
 have S8:Sp [] G [iR i7 (Dy c)] G8:=S8.erase 1
 intro R9 hR
 refine hR _ _ _ ?_
 rw [aH,aa,decide_eq_true (by decide),aX]
 refine zx (s:=false) (R:=fun G30=>wv (aw T .add au (.int .i64 0) (.int .i64 1)) fun v31=>R9 [.ptr i7 [] 0,v31] G30) S8 (FV hok) (hok false) rfl (fun h i G' s=>hQ0 ⟨_,h⟩ G' s.ch) fun h0 G2 S2=>?_
 rw [wi,i64_in (by decide) (by decide),aa]
 refine hR _ _ _ ?_
 rw [aH,aa,decide_eq_true (by decide),aX]
 refine zx (s:=true) (R:=fun G30=>wv (aw T .add au (.int .i64 1) (.int .i64 1)) fun v31=>R9 [.ptr i7 [] 0,v31] G30) S2 (uk (FV hok) (iC.start (hok false) h0)) (hok true) rfl (fun h i G' s=>hQ0 ⟨_,h⟩ G' s.ch) fun h1 G3 S3=>?_
 rw [J6] at S3
 rw [wi,i64_in (by decide) (by decide),aa]
 refine hR _ _ _ ?_
 rw [aH,aa,decide_eq_false (by decide),aM]
 exact hQ1 (fun s=>by cases s; exact h0; exact h1) i7 G3 S3
def mU (f:StF) (o:ik):RcM × Int :=
 if o.kind = 1 then q9 f o.amount o.hash else if o.kind = 2 then lK f ⟨2,o.id,0,o.hash,[]⟩ else if o.kind = 3 then lK f ⟨3,o.id,0,h0,o.note⟩ else if o.kind = 4 then uB f else noR 1
theorem zok:RcM.zero.ok:=RcM.bD
theorem Ia {f:StF} {a:Int} {h:List UInt8} (h0:(q9 f a h).2 ≠ 0):(q9 f a h).1 = RcM.zero:=by
 unfold q9 at h0 ⊢
 split
 ·rfl
 split
 ·rfl
 split
 ·rfl
 split
 ·rfl
 split
 ·rfl
 ·rename_i h1 h2 h3 h4 h5
  rw [if_neg h1,if_neg h2,if_neg h3,if_neg h4,if_neg h5] at h0
  exact absurd rfl h0
theorem Jz {f:StF} (h0:(uB f).2 ≠ 0):(uB f).1 = RcM.zero:=by
 unfold uB at h0 ⊢
 split
 ·rfl
 split
 ·rfl
 split
 ·rfl
 ·rename_i h1 h2 h3
  rw [if_neg h1,if_neg h2,if_neg h3] at h0
  exact absurd rfl h0
theorem Ee {f:StF} {m:bA} (h0:(jz f m).2 ≠ 0):(jz f m).1 = RcM.zero:=by
 unfold jz at h0 ⊢
 split
 ·rfl
 split
 ·rfl
 split
 ·rfl
 split
 ·rfl
 split
 ·rfl
 ·rename_i h1 h2 h3 h4 h5
  rw [if_neg h1,if_neg h2,if_neg h3,if_neg h4,if_neg h5] at h0
  exact absurd rfl h0
theorem J2 {c:CfM} {f:StF} {m:bA} (h0:(oB c f m).e ≠ 0):(oB c f m).r = RcM.zero /\ (oB c f m).l = []:=by
 unfold oB at h0 ⊢
 split
 ·exact ⟨rfl,rfl⟩
 split
 ·exact ⟨rfl,rfl⟩
 split
 ·exact ⟨rfl,rfl⟩
 split
 ·exact ⟨rfl,rfl⟩
 split
 ·exact ⟨rfl,rfl⟩
 ·rename_i h1 h2 h3 h4 h5
  rw [if_neg h1,if_neg h2,if_neg h3,if_neg h4,if_neg h5] at h0
  exact absurd rfl h0
theorem HC {o:ik} (ho:o.ok):(⟨2,o.id,0,o.hash,[]⟩:aK).ok:=⟨gQ 2 (by decide) (by decide),ho.id,cD,ho.hash,by simp⟩
theorem Hz {o:ik} (ho:o.ok):(⟨3,o.id,0,h0,o.note⟩:aK).ok:=⟨gQ 3 (by decide) (by decide),ho.id,cD,rfl,ho.note⟩
theorem Fa (i:Int) (h:List UInt8):dC ⟨2,i,0,h,[]⟩ = true \/ 64 < (⟨2,i,0,h,[]⟩:aK).note.length \/ (⟨2,i,0,h,[]⟩:aK).id < 0 \/ 2048 ≤ (⟨2,i,0,h,[]⟩:aK).id:=by
 show dC ⟨2,i,0,h,[]⟩ = true \/ 64 < ([]:List UInt8).length \/ i < 0 \/ 2048 ≤ i
 by_cases h1:i < 0
 ·exact .inr (.inr (.inl h1))
 by_cases h2:2048 ≤ i
 ·exact .inr (.inr (.inr h2))
 refine .inl ?_
 unfold dC
 simp
 omega
theorem E9 (i:Int) (n:List UInt8):dC ⟨3,i,0,h0,n⟩ = true \/ 64 < (⟨3,i,0,h0,n⟩:aK).note.length \/ (⟨3,i,0,h0,n⟩:aK).id < 0 \/ 2048 ≤ (⟨3,i,0,h0,n⟩:aK).id:=by
 show dC ⟨3,i,0,h0,n⟩ = true \/ 64 < n.length \/ i < 0 \/ 2048 ≤ i
 by_cases h1:i < 0
 ·exact .inr (.inr (.inl h1))
 by_cases h2:2048 ≤ i
 ·exact .inr (.inr (.inr h2))
 by_cases h3:64 < n.length
 ·exact .inr (.inl h3)
 refine .inl ?_
 unfold dC
 simp
 omega
theorem iC.call {f:StF} (I:iC f) {o:ik} (ho:o.ok) (h0:(mU f o).2 = 0):∃ f',iC f' /\ (mU f o).1.ok /\ zE f (mU f o).1 [] f':=by
 unfold mU at h0 ⊢
 split at h0
 ·rename_i h1
  rw [if_pos h1]
  obtain ⟨u,e,hu,_,hs,ha,_⟩:=I.offer ho.hash h0
  rw [e]
  exact ⟨_,hs,lG hu,ha⟩
 rename_i h1
 rw [if_neg h1]
 split at h0
 ·rename_i h2
  rw [if_pos h2]
  obtain ⟨e,hs,ha⟩:=I.xO (HC ho) (Fa _ _) (by show (2:Int) ≠ 1; decide) h0
  rw [e]
  exact ⟨_,hs,lG (HC ho),ha⟩
 rename_i h2
 rw [if_neg h2]
 split at h0
 ·rename_i h3
  rw [if_pos h3]
  obtain ⟨e,hs,ha⟩:=I.xO (Hz ho) (E9 _ _) (by show (3:Int) ≠ 1; decide) h0
  rw [e]
  exact ⟨_,hs,lG (Hz ho),ha⟩
 rename_i h3
 rw [if_neg h3]
 split at h0
 ·rename_i h4
  rw [if_pos h4]
  obtain ⟨e,hr,hs,ha,_⟩:=I.sign h0
  rw [e]
  exact ⟨_,hs,hr,ha⟩
 ·cases h0
theorem yF {f:StF} {u:aK} (h0:(lK f u).2 ≠ 0):(lK f u).1 = RcM.zero:=by
 unfold lK at h0 ⊢
 split
 ·rfl
 split
 ·rfl
 split
 ·rfl
 ·rename_i h1 h2 h3
  rw [if_neg h1,if_neg h2,if_neg h3] at h0
  exact absurd rfl h0
theorem J3 {f:StF} {o:ik} (h0:(mU f o).2 ≠ 0):(mU f o).1 = RcM.zero:=by
 unfold mU at h0 ⊢
 split at h0
 ·rename_i h1; rw [if_pos h1]; exact Ia h0
 rename_i h1
 rw [if_neg h1]
 split at h0
 ·rename_i h1; rw [if_pos h1]; exact yF h0
 rename_i h1
 rw [if_neg h1]
 split at h0
 ·rename_i h1; rw [if_pos h1]; exact yF h0
 rename_i h1
 rw [if_neg h1]
 split at h0
 ·rename_i h1; rw [if_pos h1]; exact Jz h0
 rename_i h1
 rw [if_neg h1]
 rfl
theorem zq {f:StF} (I:iC f) {o:ik} (ho:o.ok):(mU f o).1.ok:=by
 by_cases h:(mU f o).2 = 0
 ·obtain ⟨_,_,h,_⟩:=I.call ho h
  exact h
 ·rw [J3 h]; exact zok
theorem eW.use {f:StF} {c:CfM} {o:ik} {vo vp vh:ag} (hS:kW G f vo vp vh) (I:iC f) (hc:c.ok) (ho:o.ok) (hQ:∀ G',Ch [] G [] G' -> Q (zN (mU f o)) G'):al P eW.n [c.av,f.s.av vo vp vh,o.av] G Q:=by
 have hs:=hS.ok
 have hl:=hS.lv
 have hok:=zq I ho
 refine eW.sound ?_
 unfold eW.S
 rw [DM]
 intro i1 f1
 have s1:=(Sp.nil G).row f1 c.av
 intro i3 f3
 have s3:=s1.row f3 (f.s.av vo vp vh)
 intro i5 f5
 have s5:=s3.row f5 o.av
 intro i7 f7
 have s7:=s5.row f7 (RcM.zero.av .nilSlice)
 revert s7
 generalize ah.upd _ i7 _ = G8
 intro s7
 have hS7:=hS.mv s7.ch
 have hg:=ar.own (i:=1) s7 rfl
 have hf:=ar.own (i:=2) s7 rfl
 have fin:∀ {x:RcM × Int} {G2:ah},mU f o = x -> Ch [] G8 [] G2 -> wv (aW (zN x) 0) fun v16=>wv (aW (zN x) 1) fun v17=>wg (ax T G2 aD (.ptr i7 [] 0) v16) fun G18=>wv (lq T G18 aD (.ptr i7 [] 0)) fun v19=>Q (.tuple [v19,v17]) G18:=by
  intro x G2 hx c2
  rw [hx] at hok hQ
  have s2:=s7.tmp c2
  refine ae (tr0 _) ?_
  refine ae (tr1 _) ?_
  refine Rc.st (i:=0) s2 rfl zok bz.nil hok bz.nil fun G3 s3=>?_
  refine ae (Rc.ld (ar.own (i:=0) s3 rfl) hok bz.nil) ?_
  exact hQ G3 s3.ch
 unfold mU at fin
 refine ae (Oq.uT hg ho) ?_
 rw [bC,aa,aE]
 refine ⟨fun h1=>?_,fun ha=>?_⟩
 ·refine ae (St.ld hf hs hl) ?_
  refine ae (Oq.GD hg ho) ?_
  refine ae (Oq.BM hg ho) ?_
  refine dS.use hS7 I ho.hash fun G15 c15=>?_
  exact fin (if_pos h1) c15
 rw [if_neg ha] at fin
 rw [bC,aa,aE]
 refine ⟨fun h1=>?_,fun hb=>?_⟩
 ·refine ae (St.ld hf hs hl) ?_
  refine ae (Oq.Ki hg ho) ?_
  refine ae (Oq.BM hg ho) ?_
  refine dp.use hS7 I ho.id ho.hash fun G15 c15=>?_
  exact fin (if_pos h1) c15
 rw [if_neg hb] at fin
 rw [bC,aa,aE]
 refine ⟨fun h1=>?_,fun hcc=>?_⟩
 ·refine ae (St.ld hf hs hl) ?_
  refine ae (Oq.Ki hg ho) ?_
  refine ae (Oq.FC hg ho) ?_
  refine dr.use hS7 I ho.id ho.note fun G15 c15=>?_
  exact fin (if_pos h1) c15
 rw [if_neg hcc] at fin
 rw [bC,aa,aE]
 refine ⟨fun h1=>?_,fun hd=>?_⟩
 ·refine ae (Cf.ld (ar.own (i:=3) s7 rfl) hc) ?_
  refine ae (St.ld hf hs hl) ?_
  refine eN.use hS7 fun G15 c15=>?_
  exact fin (if_pos h1) c15
 rw [if_neg hd] at fin
 refine ae AO ?_
 refine Rc.st (i:=0) s7 rfl zok bz.nil zok bz.nil fun G50 s50=>?_
 refine ae (Rc.ld (ar.own (i:=0) s50 rfl) zok bz.nil) ?_
 have e:mU f o = noR 1:=by unfold mU; rw [if_neg ha,if_neg hb,if_neg hcc,if_neg hd]
 rw [e] at hQ
 exact hQ G50 s50.ch
end
end Go.Esc.M
namespace Go.Esc.M
open Go Go.Esc
def ik.zero:ik:=⟨0,false,0,0,h0,[],0⟩
theorem ik.bD:ik.zero.ok:=⟨cD,cD,cD,rfl,by simp [ik.zero],cD⟩
theorem Hc:bk T gJ [] = some ik.zero.av:=rfl
theorem EO {m:bA} (h:m.ok):zw m ik.zero = m:=by
 have h1:=h.index
 unfold zw
 have e:ik.zero.index = 0:=rfl
 have e2:¬ ik.zero.note = [98,101,110,100]:=by decide
 rw [e,if_neg e2,Int.add_zero,i64_in h1.1 h1.2]
def zr (f:StF) (o:ik):StF:=if o.kind = 4 then xn f (mU f o).1 else sj f (mU f o).1.upd
theorem iC.zr {f:StF} (I:iC f) {o:ik} (ho:o.ok) (h0:(mU f o).2 = 0):iC (zr f o) /\ zE f (mU f o).1 [] (zr f o):=by
 unfold M.zr
 unfold mU at h0 ⊢
 split at h0
 ·rename_i h1
  rw [if_pos h1,if_neg (by omega)]
  obtain ⟨u,e,hu,_,hs,ha,_⟩:=I.offer ho.hash h0
  rw [e]
  exact ⟨hs,ha⟩
 rename_i h1
 rw [if_neg h1]
 split at h0
 ·rename_i h2
  rw [if_pos h2,if_neg (by omega)]
  obtain ⟨e,hs,ha⟩:=I.xO (HC ho) (Fa _ _) (by show (2:Int) ≠ 1; decide) h0
  rw [e]
  exact ⟨hs,ha⟩
 rename_i h2
 rw [if_neg h2]
 split at h0
 ·rename_i h3
  rw [if_pos h3,if_neg (by omega)]
  obtain ⟨e,hs,ha⟩:=I.xO (Hz ho) (E9 _ _) (by show (3:Int) ≠ 1; decide) h0
  rw [e]
  exact ⟨hs,ha⟩
 rename_i h3
 rw [if_neg h3]
 split at h0
 ·rename_i h4
  rw [if_pos h4,if_pos h4]
  obtain ⟨e,hr,hs,ha,_⟩:=I.sign h0
  rw [e]
  exact ⟨hs,ha⟩
 ·cases h0
def sc (t:lT) (s:Bool) (m:bA):lT × Bool :=
 if m.kind = 1 \/ m.kind = 2 \/ m.kind = 3 then (if y8 (t.f s) (zZ m) = 0 then (kl t s ⟨(t.f s).s,(t.f s).o,(t.f s).p ++ [zZ m],(t.f s).h⟩,true) else (t,false))
 else if (oB (t.c s) (t.f s) m).e = 0 then (uF t s (AM m) (Mp (t.f s) m.index m.hash),true)
 else if (jz (t.f s) m).2 = 0 then (uF t s (jz (t.f s) m).1 (tD (t.f s) (jz (t.f s) m).1),true) else (t,false)
theorem kx.more {t:lT} {n m:Nat} (k:kx t n) (h:n ≤ m):kx t m:={ c:=k.c,f:=k.f,q:=k.q,n:=fun s=>Nat.le_trans (k.n s) h }
theorem GS {t:lT} {n:Nat} (k:kx t n) {s:Bool} {m:bA} (hm:m.ok):kx (sc t s m).1 (n + 1):=by
 have I:=k.f s
 unfold sc
 split
 ·split
  ·rename_i h
   exact (uk k (I.heard (uq hm) h).1).more (by omega)
  ·exact k.more (by omega)
 split
 ·rename_i h
  obtain ⟨_,h2,h3,_⟩:=I.came (c:=t.c s) hm h
  exact Bv k h2 h3
 split
 ·rename_i h
  obtain ⟨e,h2,h3,_⟩:=I.Ms hm h
  rw [e]
  exact Bv k h2 h3
 ·exact k.more (by omega)
section
variable {F0:List AId} {G0 G:ah} {ps:List LP} {Q:ag -> ah -> Prop} {tb:AId} {t:lT} {l:Bool -> Ls} {w:Bool -> ag}
theorem Sp.one {p:LP} {F:List AId} (h:p.p G F) (c:Ch F0 G0 F G):Sp F0 G0 [p] G:=⟨[F],⟨h,by simp,trivial⟩,by simpa using c⟩
theorem Gf (s:Bool):bx T aJ (aS tb s) 5 = some (.ptr tb [1,bN s,5] (328 + (bN s * 115 + 5))):=by cases s <;> rfl
theorem HH {n:Nat} {s:Bool} {x:ag} {q:List aK} {K:ah -> Prop} (h:Sp F0 G0 [iR tb t,bj 36 x (q.map aK.av)] G) (k:kx t n)
  (hK:∀ G',Sp F0 G0 [iR tb (kl t s ⟨(t.f s).s,(t.f s).o,q,(t.f s).h⟩)] G' -> K G'):wg (ax T G ak (.ptr tb [1,bN s,5] (328 + (bN s * 115 + 5))) x) K:=by
 obtain ⟨l,w,h2⟩:=Sp.CX h
 have a:=Sp.D1 h2
 have hx:=(bj.own (i:=9) h2 rfl).leaf
 cases s
 ·refine fK (st3 a.g (a.szl k) rfl rfl (a.szS k) rfl rfl (StM.szl (k.f false).ok (a.lv false)) rfl rfl rfl cn (jg hx rfl) (by rw [(a.lv false).2.1.1,hx.1]) hx.2.2) (hK _ ?_)
  have h3:=Sp.setRow (j:=0) h2 rfl (ot (kl t false ⟨(t.f false).s,(t.f false).o,q,(t.f false).h⟩) (kV l false ⟨(l false).o,x,(l false).h⟩) w)
  have h4:=Sp.pick h3 [0,1,9,3,4,5,6,7,8] (by decide) (by intro y hy; simp at hy ⊢; omega)
  exact Sp.se (ps:=[]) (t:=kl t false ⟨(t.f false).s,(t.f false).o,q,(t.f false).h⟩) (l:=kV l false ⟨(l false).o,x,(l false).h⟩) (w:=w) h4
 ·refine fK (st3 a.g (a.szl k) rfl rfl (a.szS k) rfl rfl (StM.szl (k.f true).ok (a.lv true)) rfl rfl rfl cn (jg hx rfl) (by rw [(a.lv true).2.1.1,hx.1]) hx.2.2) (hK _ ?_)
  have h3:=Sp.setRow (j:=0) h2 rfl (ot (kl t true ⟨(t.f true).s,(t.f true).o,q,(t.f true).h⟩) (kV l true ⟨(l true).o,x,(l true).h⟩) w)
  have h4:=Sp.pick h3 [0,1,2,3,4,9,6,7,8] (by decide) (by intro y hy; simp at hy ⊢; omega)
  exact Sp.se (ps:=[]) (t:=kl t true ⟨(t.f true).s,(t.f true).o,q,(t.f true).h⟩) (l:=kV l true ⟨(l true).o,x,(l true).h⟩) (w:=w) h4
theorem ee.use {F:List AId} {n:Nat} {s:Bool} {m:bA} (h:(iR tb t).p G F) (k:kx t n) (hn:n ≤ 99999999) (hm:m.ok)
  (hQ:∀ F' G',(iR tb (sc t s m).1).p G' F' -> Ch F G F' G' -> Q (.bool (sc t s m).2) G'):al P ee.n [.ptr tb [] 0,.int .i64 (bI s),m.av] G Q:=by
 refine ee.sound ?_
 unfold ee.S
 obtain ⟨l,w,a⟩:=iR.at_ h
 have I:=k.f s
 have hlo:=I.lo
 have hlp:=I.lp
 have hso:=I.ok
 have hl:=a.lv s
 intro i1 f1
 have s1:=(Sp.nil G).row f1 m.av
 refine ae jv ?_
 refine ae rN ?_
 refine ae (rM s) ?_
 refine ae ((a.mv s1.ch).ldS k s) ?_
 refine St.nw s1 hso hl fun i7 G9 s9=>?_
 have s9:Sp [] G [ar i7 ((t.f s).s.av (l s).o (l s).p (l s).h),ar i1 m.av] G9:=s9
 have a9:=a.mv s9.ch
 have hS9:=a9.D5 k s
 have S9:Sp F G [iR tb t,ar i7 ((t.f s).s.av (l s).o (l s).p (l s).h),ar i1 m.av] G9:=Sp.with h s9
 have same:∀ {G2:ah} {ps:List LP},Sp F G (iR tb t :: ps) G2 -> ∃ F',(iR tb t).p G2 F' /\ Ch F G F' G2:=by
  intro G2 ps sp
  have s4:Sp F G [iR tb t] G2:=sp.take 1
  exact s4.out
 intro J74
 have h1:(m.kind = 1 \/ m.kind = 2 \/ m.kind = 3) -> J74 (.bool true) G9:=by
  intro hk
  unfold sc at hQ
  rw [if_pos hk] at hQ
  have hu:=uq hm
  obtain ⟨u,hue⟩:∃ u,zZ m = u:=⟨_,rfl⟩
  rw [hue] at hu hQ
  simp -zeta only [J74,aX]
  refine ae (gL (i:=1) s9 rfl hm).2.2.2.2.2.2.2.2 ?_
  refine dx.use hm fun G20 c20=>?_
  rw [hue]
  have s20:=s9.tmp c20
  refine C3 s20 hu fun i21 G23 s23=>?_
  have s23:Sp [] G [ar i21 u.av,ar i7 ((t.f s).s.av (l s).o (l s).p (l s).h),ar i1 m.av] G23:=s23
  refine ae (St.ld (ar.own (i:=1) s23 rfl) hso hl) ?_
  refine ae (dh (i:=0) s23 rfl hu).2.2.2.2.2 ?_
  refine dT.use ((a.mv s23.ch).D5 k s) I hu fun G27 c27=>?_
  have s27:=s23.tmp c27
  have s27:Sp [] G [ar i21 u.av,ar i7 ((t.f s).s.av (l s).o (l s).p (l s).h),ar i1 m.av] G27:=s27
  rw [dy,aa,fg]
  refine ⟨fun h0=>?_,fun h0=>?_⟩
  ·rw [if_neg h0] at hQ
   obtain ⟨F',q1,q2⟩:=same (Sp.with h s27)
   exact hQ F' G27 q1 q2
  ·rw [if_pos h0] at hQ
   have hS27:=(a.mv s27.ch).D5 k s
   refine ae (St.iP (ar.own (i:=1) s27 rfl) hso hl) ?_
   refine ae (dh (i:=0) s27 rfl hu).2.2.2.2.2 ?_
   refine ae jv ?_
   refine ae rN ?_
   refine IG s27 hS27.p.jf I.okp (by omega) fun v33 G34 s34=>?_
   refine ⟨⟨(dh (i:=1) s34 rfl hu).2.2.2.2.2,trivial⟩,?_⟩
   refine IF (i:=0) s34 rfl hu (by omega) fun v37 G38 s38=>?_
   refine ae (rM s) ?_
   refine ae (Gf s) ?_
   have S38:Sp F G [iR tb t,bj 36 v37 (((t.f s).p ++ [u]).map aK.av)] G38:=(Sp.with h s38).take 2
   refine HH S38 k fun G41 S41=>?_
   obtain ⟨F',q1,q2⟩:=S41.out
   exact hQ F' G41 q1 q2
 have put:∀ {G2:ah} {ps:List LP} {r:RcM} {lu:List aK} {v:ag} {f':StF} {K:ag -> ah -> Prop},Sp F G (iR tb t :: ps) G2 -> r.ok -> bz v -> fV 36 G2 v (lu.map aK.av) -> (∀ u ∈ lu,u.ok) -> lu.length ≤ 4096 -> zE (t.f s) r lu f' -> iC f' ->
   (∀ F' G',(iR tb (uF t s r f')).p G' F' -> Ch F G F' G' -> K (.tuple []) G') -> al P bO.n [.ptr tb [] 0,.int .i64 (bI s),r.av v] G2 K:=by
  intro G2 ps r lu v f' K sp hr hv hlu ok1 hll ap I' hK
  have sp1:Sp F G [iR tb t] G2:=sp.take 1
  refine sp1.call (i:=0) rfl (iR tb (uF t s r f')) fun F1 h1 kk=>?_
  refine bO.use h1 k hn hr hv hlu ok1 hll ap I' fun F2 G3 h2 c2=>?_
  obtain ⟨F',q1,q2⟩:=(kk F2 G3 h2 c2).out
  exact hK F' G3 q1 q2
 have h2:¬ (m.kind = 1 \/ m.kind = 2 \/ m.kind = 3) -> J74 (.bool false) G9:=by
  intro hk
  unfold sc at hQ
  rw [if_neg hk] at hQ
  simp -zeta only [J74,aM]
  refine ae jv ?_
  refine ae vI ?_
  refine ae (vH s) ?_
  refine ae (a9.ldC k s) ?_
  refine ae (St.ld (ar.own (i:=0) s9 rfl) hso hl) ?_
  refine ae (gL (i:=1) s9 rfl hm).2.2.2.2.2.2.2.2 ?_
  refine eP.use hS9 I (k.c s) hm fun w48 G49 t49=>?_
  have s49:Sp [] G [bj 36 w48 ((oB (t.c s) (t.f s) m).l.map aK.av),ar i7 ((t.f s).s.av (l s).o (l s).p (l s).h),ar i1 m.av] G49:=yx s9 t49
  have lw:=(bj.own (i:=0) s49 rfl).leaf
  have hco:(oB (t.c s) (t.f s) m).r.ok:=by
   by_cases h0:(oB (t.c s) (t.f s) m).e = 0
   ·obtain ⟨e,h2,_⟩:=I.came (c:=t.c s) hm h0
    rw [e]; exact h2
   ·rw [(J2 h0).1]; exact zok
  have hcc:=fun h0=>I.came (c:=t.c s) hm h0
  generalize oB (t.c s) (t.f s) m = X at hQ s49 lw hco hcc
  refine ae (tv0 _ _) ?_
  refine ae (tv1 _ _) ?_
  refine Rc.nw s49 hco lw fun i52 G54 s54=>?_
  have s54:Sp [] G [ar i52 (X.r.av w48),bj 36 w48 (X.l.map aK.av),ar i7 ((t.f s).s.av (l s).o (l s).p (l s).h),ar i1 m.av] G54:=s54
  rw [bC,aa,aE]
  refine ⟨fun h0=>?_,fun h0=>?_⟩
  ·rw [if_pos h0] at hQ
   obtain ⟨e,c2,c3,c4,_⟩:=hcc h0
   refine ae (Rc.ld (ar.own (i:=0) s54 rfl) hco lw) ?_
   subst e
   refine put (Sp.with h s54) c2 lw (bj.own (i:=1) s54 rfl).is (fun u hu=>I.okp u (List.mem_of_mem_drop hu)) (by rw [List.length_drop]; omega) c4 c3 fun F' G' q1 q2=>?_
   exact hQ F' G' q1 q2
  ·rw [if_neg h0] at hQ
   refine ae (St.ld (ar.own (i:=2) s54 rfl) hso hl) ?_
   refine ae (gL (i:=3) s54 rfl hm).2.2.2.2.2.2.2.2 ?_
   refine cM.use ((a.mv s54.ch).D5 k s) I hm fun G62 c62=>?_
   have s62:=s54.tmp c62
   have s62:Sp [] G [ar i52 (X.r.av w48),bj 36 w48 (X.l.map aK.av),ar i7 ((t.f s).s.av (l s).o (l s).p (l s).h),ar i1 m.av] G62:=s62
   have hro:(jz (t.f s) m).1.ok:=by
    by_cases h0:(jz (t.f s) m).2 = 0
    ·obtain ⟨e,h2,_⟩:=I.Ms hm h0
     rw [e]; exact h2
    ·rw [Ee h0]; exact zok
   have hrr:=fun h0=>I.Ms hm h0
   have hap:(jz (t.f s) m).2 = 0 -> iC (tD (t.f s) (jz (t.f s) m).1) /\ zE (t.f s) (jz (t.f s) m).1 [] (tD (t.f s) (jz (t.f s) m).1):=by
    intro h0
    obtain ⟨e,h2,h3,h4,_⟩:=hrr h0
    rw [e]; exact ⟨h3,h4⟩
   clear hrr
   generalize jz (t.f s) m = Y at hQ hro hap
   refine ae (tr0 _) ?_
   refine ae (tr1 _) ?_
   refine Rc.st (i:=0) s62 rfl hco lw hro bz.nil fun G65 s65=>?_
   rw [bC,aa,aE]
   refine ⟨fun h0=>?_,fun h0=>?_⟩
   ·rw [if_pos h0] at hQ
    refine ae (Rc.ld (ar.own (i:=0) s65 rfl) hro bz.nil) ?_
    refine put (lu:=[]) (Sp.with h s65) hro bz.nil (.inr ⟨rfl,rfl⟩) (fun u hu=>by cases hu) (by simp) (hap h0).2 (hap h0).1 fun F' G' q1 q2=>?_
    rw [aa,decide_eq_true h0]
    exact hQ F' G' q1 q2
   ·rw [if_neg h0] at hQ
    rw [aa,decide_eq_false h0]
    obtain ⟨F',q1,q2⟩:=same (Sp.with h s65)
    exact hQ F' G65 q1 q2
 have hg:=gL (i:=1) s9 rfl hm
 refine ae hg.1 ?_
 rw [bC,aa,aE]
 refine ⟨fun e=>h1 (.inl e),fun e1=>?_⟩
 refine ae hg.1 ?_
 rw [bC,aa,aE]
 refine ⟨fun e=>h1 (.inr (.inl e)),fun e2=>?_⟩
 refine ae hg.1 ?_
 rw [bC,aa]
 by_cases e3:m.kind = 3
 ·rw [decide_eq_true e3]
  exact h1 (.inr (.inr e3))
 ·rw [decide_eq_false e3]
  exact h2 (by rintro (h | h | h); exact e1 h; exact e2 h; exact e3 h)
def stepT (t:lT) (o:ik):lT :=
 if o.kind = 5 then match t.q o.side with
  | []=>t
  | m :: ms=>(sc (og t o.side ms) o.side m).1
 else if (mU (t.f o.side) o).2 = 0 then uF t o.side (mU (t.f o.side) o).1 (zr (t.f o.side) o) else t
theorem HL {t:lT} {n:Nat} (k:kx t n) {o:ik} (ho:o.ok):kx (stepT t o) (n + 1):=by
 unfold stepT
 split
 ·have hq:=k.q o.side
  have hn:=k.n o.side
  split
  ·exact k.more (by omega)
  ·rename_i m ms e
   rw [e] at hq hn
   refine GS (yc k (Nat.le_refl n) (fun x hx=>hq x (List.mem_cons_of_mem _ hx)) ?_) (hq m (by simp))
   simp only [List.length_cons] at hn
   omega
 split
 ·rename_i h
  exact Bv k (zq (k.f o.side) ho) ((k.f o.side).zr ho h).1
 ·exact k.more (by omega)
theorem eU.use {F:List AId} {n:Nat} {o:ik} (h:(iR tb t).p G F) (k:kx t n) (hn:n ≤ 99999999) (ho:o.ok)
  (hQ:∀ F' G',(iR tb (stepT t o)).p G' F' -> Ch F G F' G' -> Q (.tuple []) G'):al P eU.n [.ptr tb [] 0,o.av] G Q:=by
 refine eU.sound ?_
 unfold eU.S
 obtain ⟨l,w,a⟩:=iR.at_ h
 intro i1 f1
 have s1:=(Sp.nil G).row f1 o.av
 revert s1
 generalize ah.upd _ i1 _ = G2
 intro s1
 have S1:Sp F G [iR tb t,ar i1 o.av] G2:=Sp.with h s1
 have hg:=ar.own (i:=0) s1 rfl
 have same:∀ {t':lT} {G2:ah} {ps:List LP},Sp F G (iR tb t' :: ps) G2 -> ∃ F',(iR tb t').p G2 F' /\ Ch F G F' G2:=by
  intro t' G2 ps sp
  have s4:Sp F G [iR tb t'] G2:=sp.take 1
  exact s4.out
 refine ae (Oq.m8 hg ho) ?_
 intro J41
 have go:J41 (.int .i64 (bI o.side)) G2:=by
  unfold stepT at hQ
  simp -zeta only [J41]
  refine ae (Oq.uT hg ho) ?_
  rw [bC,aa,aE]
  refine ⟨fun h5=>?_,fun h5=>?_⟩
  ·rw [if_pos h5] at hQ
   refine ae Hc ?_
   obtain ⟨F1,h1,c1⟩:=same S1
   refine b9.use h1 k hn ik.bD (fun e G10 c10=>?_) fun m ms e F' G10 h10 c10=>?_
   ·rw [e] at hQ
    have hQ:∀ F' G',(iR tb t).p G' F' -> Ch F G F' G' -> Q (.tuple []) G':=hQ
    have S10:Sp F G [iR tb t,ar i1 o.av] G10:=S1.tmp c10
    refine ae (tv0 _ _) ?_
    refine ae (tv1 _ _) ?_
    refine Ib S10 bA.bD fun i13 G15 s15=>?_
    rw [aM]
    obtain ⟨F',q1,q2⟩:=same (s15.erase 0)
    exact hQ F' G15 q1 q2
   ·rw [e] at hQ
    have hQ:∀ F' G',(iR tb (sc (og t o.side ms) o.side m).1).p G' F' -> Ch F G F' G' -> Q (.tuple []) G':=hQ
    have hm:m.ok:=k.q o.side m (by rw [e]; simp)
    have k':kx (og t o.side ms) n:=by
     have hq:=k.q o.side
     have hl:=k.n o.side
     rw [e] at hq hl
     simp only [List.length_cons] at hl
     exact yc k (Nat.le_refl n) (fun x hx=>hq x (List.mem_cons_of_mem _ hx)) (by omega)
    rw [EO hm]
    have S10:Sp F G [iR tb (og t o.side ms)] G10:=Sp.one h10 (c1.trans c10)
    refine ae (tv0 _ _) ?_
    refine ae (tv1 _ _) ?_
    refine Ib S10 hm fun i13 G15 s15=>?_
    rw [aX]
    refine ae (gL (i:=0) s15 rfl hm).2.2.2.2.2.2.2.2 ?_
    obtain ⟨F5,h5',c5⟩:=same (s15.erase 0)
    refine ee.use h5' k' hn hm fun F' G18 q1 q2=>?_
    exact hQ F' G18 q1 (c5.trans q2)
  ·rw [if_neg h5] at hQ
   have a2:=a.mv s1.ch
   have I:=k.f o.side
   have hok:=zq I ho
   have hcf:=fun h0=>I.zr ho h0
   refine ae jv ?_
   refine ae vI ?_
   refine ae (vH _) ?_
   refine ae (a2.ldC k _) ?_
   refine ae jv ?_
   refine ae rN ?_
   refine ae (rM _) ?_
   refine ae (a2.ldS k _) ?_
   refine ae (Oq.ld hg ho) ?_
   refine eW.use (a2.D5 k _) I (k.c _) ho fun G30 c30=>?_
   have S30:Sp F G [iR tb t,ar i1 o.av] G30:=S1.tmp c30
   refine ae (tr0 _) ?_
   refine ae (tr1 _) ?_
   refine Rc.nw S30 hok bz.nil fun i33 G35 s35=>?_
   obtain ⟨F1,h1,c1⟩:=same (s35.erase 0)
   rw [bC,aa,aE]
   refine ⟨fun h0=>?_,fun h0=>?_⟩
   ·rw [if_pos h0] at hQ
    refine ae (Rc.ld (ar.own (i:=0) s35 rfl) hok bz.nil) ?_
    refine bO.use (lu:=[]) h1 k hn hok bz.nil (.inr ⟨rfl,rfl⟩) (fun u hu=>by cases hu) (by simp) (hcf h0).2 (hcf h0).1 fun F' G' q1 q2=>?_
    exact hQ F' G' q1 (c1.trans q2)
   ·rw [if_neg h0] at hQ
    exact hQ F1 G35 h1 c1
 cases hs:o.side with
 | false=>
  rw [hs] at go
  rw [aM]
  exact go
 | true=>
  rw [hs] at go
  rw [aX]
  exact go
end
end Go.Esc.M
namespace Go.Esc.M
open Go Go.Esc
def mea (f:StF):Nat:=f.o.length + f.s.sgnA.toNat + f.s.sgnB.toNat + f.s.atA.toNat + f.s.atB.toNat
theorem M8 {f:StF} (I:iC f):mea f ≤ 10240:=by
 have:=I.lo
 have:=I.lp
 have:=I.a0
 have:=I.a1
 have:=I.a2
 have:=I.a3
 have:=I.b0
 have:=I.b1
 have:=I.b2
 have:=I.b3
 unfold mea
 omega
def Few (t:lT):Prop:=∀ s,(t.q (!s)).length ≤ mea (t.f s)
theorem M9 {t:lT} {n:Nat} (k:kx t n) (h:Few t):kx t 10240 :=
 { c:=k.c,f:=k.f,q:=k.q,n:=fun s=>by have h1:=h (!s); rw [Bool.not_not] at h1; exact Nat.le_trans h1 (M8 (k.f (!s))) }
theorem M0 {t:lT} {s:Bool} {f:StF} (h:Few t) (hm:mea (t.f s) ≤ mea f):Few (kl t s f):=by
 intro r
 show (t.q (!r)).length ≤ mea (kV t.f s f r)
 by_cases e:r = s
 ·subst e
  rw [sK]
  exact Nat.le_trans (h r) hm
 ·rw [xP _ _ e]
  exact h r
theorem MZ {t:lT} {s:Bool} {q:List bA} (h:Few t) (hq:q.length ≤ (t.q s).length):Few (og t s q):=by
 intro r
 show (kV t.q s q (!r)).length ≤ mea (t.f r)
 by_cases e:(!r) = s
 ·rw [e,sK]
  have:=h r
  rw [e] at this
  omega
 ·rw [xP _ _ e]
  exact h r
theorem MX {t:lT} {s:Bool} {r:RcM} {f':StF} (h:Few t) (hm:(tw (t.c s) (t.f s) f' r).length + mea (t.f s) ≤ mea f'):Few (uF t s r f'):=by
 intro x
 show (kV t.q (!s) (t.q (!s) ++ tw (t.c s) (t.f s) f' r) (!x)).length ≤ mea (kV t.f s f' x)
 by_cases e:x = s
 ·subst e
  rw [sK,sK,List.length_append]
  have:=h x
  omega
 ·have e2:(!x) ≠ (!s):=fun hh=>e (by cases x <;> cases s <;> simp_all)
  rw [xP _ _ e,xP _ _ e2]
  exact h x
theorem M5 {f:StF} (I:iC f) {o:ik} (h0:(mU f o).2 = 0):1 + mea f ≤ mea (zr f o):=by
 have ho:∀ u,1 + mea f ≤ mea (sj f u):=by
  intro u
  unfold mea sj
  simp only [List.length_append,List.length_singleton]
  omega
 unfold zr
 by_cases h4:o.kind = 4
 ·rw [if_pos h4]
  have e:mU f o = uB f:=by unfold mU; rw [if_neg (by omega),if_neg (by omega),if_neg (by omega),if_pos h4]
  rw [e] at h0 ⊢
  unfold uB at h0 ⊢
  split at h0
  ·cases h0
  rename_i h1
  rw [if_neg h1]
  split at h0
  ·cases h0
  rename_i h2
  rw [if_neg h2]
  split at h0
  ·cases h0
  rename_i h3
  rw [if_neg h3]
  have h5:¬ ((f.o.length:Int) = f.s.sgnA /\ f.s.atB = f.s.sgnB):=fun h=>h2 (.inr h)
  have:=I.a0
  have:=I.a1
  have:=I.a2
  have:=I.a3
  have:=I.b0
  have:=I.b1
  have:=I.b2
  show 1 + mea f ≤ f.o.length + ((f.o.length:Nat):Int).toNat + f.s.atB.toNat + f.s.atA.toNat + f.s.atB.toNat
  unfold mea
  omega
 ·rw [if_neg h4]
  exact ho _
theorem M4 {c:CfM} {f:StF} (I:iC f) {m:bA} (h0:(oB c f m).e = 0):1 + mea f ≤ mea (Mp f m.index m.hash):=by
 unfold oB at h0
 split at h0
 ·cases h0
 split at h0
 ·cases h0
 split at h0
 ·cases h0
 split at h0
 ·cases h0
 rename_i h4
 have:=I.a0
 have:=I.a1
 have:=I.b0
 have:=I.b1
 have:=I.b2
 have:=I.b3
 show 1 + mea f ≤ f.o.length + f.s.sgnA.toNat + f.s.sgnB.toNat + f.s.heldA.toNat + ((f.p.length:Nat):Int).toNat
 unfold mea
 omega
theorem M3 {t:lT} {n:Nat} (k:kx t n) (h:Few t) {s:Bool} {m:bA} (hm:m.ok):Few (sc t s m).1:=by
 have I:=k.f s
 unfold sc
 split
 ·split
  ·exact M0 h (Nat.le_refl _)
  ·exact h
 split
 ·rename_i h0
  refine MX h ?_
  have:=M4 (c:=t.c s) I h0
  have:=Gl (t.c s) (t.f s) (Mp (t.f s) m.index m.hash) (AM m)
  omega
 split
 ·rename_i h0
  obtain ⟨e,_⟩:=I.Ms hm h0
  rw [e]
  refine MX h ?_
  show 0 + mea (t.f s) ≤ mea (t.f s)
  omega
 ·exact h
theorem M6 {t:lT} {n:Nat} (k:kx t n) (h:Few t) {s:Bool} {o:ik} (h0:(mU (t.f s) o).2 = 0):Few (uF t s (mU (t.f s) o).1 (zr (t.f s) o)):=by
 refine MX h ?_
 have:=M5 (k.f s) h0
 have:=Gl (t.c s) (t.f s) (zr (t.f s) o) (mU (t.f s) o).1
 omega
theorem MY {t:lT} {n:Nat} (k:kx t n) (h:Few t) {o:ik} (ho:o.ok):Few (stepT t o):=by
 unfold stepT
 split
 ·have hq:=k.q o.side
  have hn:=k.n o.side
  split
  ·exact h
  ·rename_i m ms e
   rw [e] at hq hn
   refine M3 (yc k (Nat.le_refl n) (fun x hx=>hq x (List.mem_cons_of_mem _ hx)) (by simp only [List.length_cons] at hn; omega)) (MZ h (by rw [e]; simp)) (hq m (by simp))
 split
 ·rename_i h0
  exact M6 k h h0
 ·exact h
theorem M7 (d:DlM):Few (Hi d):=fun s=>Nat.zero_le _
end Go.Esc.M
