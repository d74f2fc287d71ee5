import Derived.Test.YtkojimdacnohpaaGreatDoorLFg
set_option linter.unusedSimpArgs false
set_option linter.unusedVariables false
set_option maxRecDepth 20000
namespace Go.Esc.M
open Go Go.Esc
theorem HJ (A B C:List ba) (u v:ba):((A ++ u :: (B ++ v :: C)).set A.length v).set (A.length + (B.length + 1)) u = A ++ v :: (B ++ u :: C):=by
 rw [List.set_append_right _ _ (by omega),Nat.sub_self,List.set_cons_zero,List.set_append_right _ _ (by omega),Nat.add_sub_cancel_left,List.set_cons_succ,List.set_append_right _ _ (by omega),Nat.sub_self,List.set_cons_zero]
section
variable {F0:List AId} {G0 G:ah} {ps:List LP} {Q:ag -> ah -> Prop}
set_option maxHeartbeats 1000000 in
theorem vJ.use {v:ag} {X U M V Y:List ba} {a b n:Int} {f:ag} (hok:∀ p ∈ X ++ (U ++ (M ++ (V ++ Y))),p.ok) (hlen:(X ++ (U ++ (M ++ (V ++ Y)))).length ≤ 1048576) (hUV:U.length = V.length) (ha:a = (X.length:Int)) (hb:b = ((X.length + (U.length + M.length):Nat):Int)) (hn:n = (U.length:Int))
  (hs:Sp F0 G0 (bj 35 v ((X ++ (U ++ (M ++ (V ++ Y)))).map ba.av) :: ps) G)
  (hQ:∀ G',Sp F0 G0 (bj 35 v ((X ++ (V ++ (M ++ (U ++ Y)))).map ba.av) :: ps) G' -> Q (.tuple []) G') :
  al P bd.n [v,.int .i64 a,.int .i64 b,.int .i64 n,f] G Q:=by
 refine bd.sound ?_
 unfold bd.S
 subst ha hb hn
 simp only [List.length_append] at hlen
 intro R hR
 have loop:∀ (U2 V2 U1 V1:List ba) (G':ah),U = U1 ++ U2 -> V = V1 ++ V2 -> U2.length = V2.length -> Sp F0 G0 (bj 35 v ((X ++ ((V1 ++ U2) ++ (M ++ ((U1 ++ V2) ++ Y)))).map ba.av) :: ps) G' ->
   R [v,.int .i64 (X.length:Int),.int .i64 ((X.length + (U.length + M.length):Nat):Int),.int .i64 (U.length:Int),.int .i64 (U1.length:Int)] G':=by
  intro U2
  induction U2 with
  | nil=>
   intro V2 U1 V1 G' hU hV hl sp
   have hV2:V2 = []:=List.length_eq_zero_iff.1 (by simpa using hl.symm)
   subst hV2
   rw [List.append_nil] at hU hV
   subst hU hV
   refine hR _ _ _ _ _ _ ?_
   rw [aH,aa,decide_eq_false (by omega),aM]
   refine hQ _ ?_
   simpa using sp
  | cons u U2 ih=>
   intro V2 U1 V1 G' hU hV hl sp
   cases V2 with
   | nil=>simp at hl
   | cons w V2=>
    have hUl:=congrArg List.length hU
    have hVl:=congrArg List.length hV
    simp only [List.length_append,List.length_cons] at hUl hVl hl
    have huo:u.ok:=hok u (by rw [hU]; simp)
    have hwo:w.ok:=hok w (by rw [hV]; simp)
    refine hR _ _ _ _ _ _ ?_
    rw [aH,aa,decide_eq_true (by omega),aX]
    rw [bf,i64_in (by omega) (by omega),aa]
    rw [bf,i64_in (by omega) (by omega),aa,aa]
    have e0:X ++ ((V1 ++ u :: U2) ++ (M ++ ((U1 ++ w :: V2) ++ Y))) = (X ++ V1) ++ u :: ((U2 ++ M ++ U1) ++ w :: (V2 ++ Y)):=by simp
    rw [e0] at sp
    have hA:(X ++ V1).length = X.length + U1.length:=by rw [List.length_append]; omega
    have hB:(U2 ++ M ++ U1).length = U2.length + M.length + U1.length:=by simp; omega
    have hsl:=(bj.own (i:=0) sp rfl).is
    have g1:=get_at (X ++ V1) ((U2 ++ M ++ U1) ++ w :: (V2 ++ Y)) u
    have g2:((X ++ V1) ++ u :: ((U2 ++ M ++ U1) ++ w :: (V2 ++ Y)))[(X ++ V1).length + ((U2 ++ M ++ U1).length + 1)]? = some w:=by
     rw [List.getElem?_append_right (by omega),Nat.add_sub_cancel_left,List.getElem?_cons_succ]
     exact get_at (U2 ++ M ++ U1) (V2 ++ Y) w
    obtain ⟨p1,e1,e2⟩:=kX (x:=((X.length + (U.length + M.length):Nat):Int) + (U1.length:Int)) hsl (by rw [hA,hB]; omega) g2
    refine ae e1 ?_
    refine ae e2 ?_
    rw [aa]
    obtain ⟨p2,e3,e4⟩:=kX (x:=(X.length:Int) + (U1.length:Int)) hsl (by rw [hA]; omega) g1
    refine ae e3 ?_
    refine ae e4 ?_
    obtain ⟨p3,e5,e6⟩:=sL (i:=0) (p:=w) (j:=(X ++ V1).length) (x:=(X.length:Int) + (U1.length:Int)) (by rw [hA]; omega) sp rfl (by simp) hwo
    refine ae e5 ?_
    refine e6 _ fun G18 s18=>?_
    have s18:Sp F0 G0 (bj 35 v ((((X ++ V1) ++ u :: ((U2 ++ M ++ U1) ++ w :: (V2 ++ Y))).set (X ++ V1).length w).map ba.av) :: ps) G18:=s18
    obtain ⟨p4,e7,e8⟩:=sL (i:=0) (p:=u) (j:=(X ++ V1).length + ((U2 ++ M ++ U1).length + 1)) (x:=((X.length + (U.length + M.length):Nat):Int) + (U1.length:Int)) (by rw [hA,hB]; omega) s18 rfl (by simp; omega) huo
    refine ae e7 ?_
    refine e8 _ fun G20 s20=>?_
    have s20:Sp F0 G0 (bj 35 v (((((X ++ V1) ++ u :: ((U2 ++ M ++ U1) ++ w :: (V2 ++ Y))).set (X ++ V1).length w).set ((X ++ V1).length + ((U2 ++ M ++ U1).length + 1)) u).map ba.av) :: ps) G20:=s20
    rw [HJ] at s20
    rw [bf,i64_in (by omega) (by omega),aa]
    have e9:(X ++ V1) ++ w :: ((U2 ++ M ++ U1) ++ u :: (V2 ++ Y)) = X ++ (((V1 ++ [w]) ++ U2) ++ (M ++ (((U1 ++ [u]) ++ V2) ++ Y))):=by simp
    rw [e9] at s20
    have:=ih V2 (U1 ++ [u]) (V1 ++ [w]) G20 (by rw [hU]; simp) (by rw [hV]; simp) (by omega) s20
    have e10:((U1 ++ [u]).length:Int) = (U1.length:Int) + 1:=by simp
    rw [e10] at this
    exact this
 exact loop U V [] [] G rfl rfl hUV (by simpa using hs)
set_option maxHeartbeats 2000000 in
theorem rotate.use {v:ag} {X U V Y:List ba} {a m b:Int} {f:ag} (hok:∀ p ∈ X ++ (U ++ (V ++ Y)),p.ok) (hlen:(X ++ (U ++ (V ++ Y))).length ≤ 1048576) (hU:U ≠ []) (hV:V ≠ []) (ha:a = (X.length:Int)) (hm:m = ((X.length + U.length:Nat):Int)) (hb:b = ((X.length + U.length + V.length:Nat):Int))
  (hs:Sp F0 G0 (bj 35 v ((X ++ (U ++ (V ++ Y))).map ba.av) :: ps) G)
  (hQ:∀ G',Sp F0 G0 (bj 35 v ((X ++ (V ++ (U ++ Y))).map ba.av) :: ps) G' -> Q (.tuple []) G') :
  al P bn.n [v,.int .i64 a,.int .i64 m,.int .i64 b,f] G Q:=by
 refine bn.sound ?_
 unfold bn.S
 subst ha hm hb
 simp only [List.length_append] at hlen
 have hU1:0 < U.length:=List.length_pos_iff.2 hU
 have hV1:0 < V.length:=List.length_pos_iff.2 hV
 rw [bS,i64_in (by omega) (by omega),aa]
 rw [bS,i64_in (by omega) (by omega),aa]
 intro R hR
 have loop:∀ (n:Nat) (A Pp Rr B:List ba) (G':ah),Pp.length + Rr.length ≤ n -> 0 < Pp.length -> 0 < Rr.length -> A.length + Pp.length = U.length -> A ++ (Rr ++ (Pp ++ B)) = V ++ U -> (∀ p ∈ A ++ (Pp ++ (Rr ++ B)),p.ok) ->
   Sp F0 G0 (bj 35 v ((X ++ (A ++ (Pp ++ (Rr ++ (B ++ Y))))).map ba.av) :: ps) G' -> R [v,.int .i64 ((X.length + U.length:Nat):Int),f,.int .i64 (Pp.length:Int),.int .i64 (Rr.length:Int)] G':=by
  intro n
  induction n with
  | zero=>intro A Pp Rr B G' hn h1 h2; omega
  | succ n ih=>
   intro A Pp Rr B G' hn h1 h2 hA ht ho sp
   have htl:=congrArg List.length ht
   simp only [List.length_append] at htl
   have hYo:∀ p ∈ Y,p.ok:=fun p hp=>hok p (by simp [hp])
   have hXo:∀ p ∈ X,p.ok:=fun p hp=>hok p (by simp [hp])
   refine hR _ _ _ _ _ _ ?_
   rw [dy,aa]
   by_cases he:(Pp.length:Int) = (Rr.length:Int)
   ·rw [decide_eq_true he,Bool.not_true,aM]
    rw [bS,i64_in (by omega) (by omega),aa]
    have e0:X ++ (A ++ (Pp ++ (Rr ++ (B ++ Y)))) = (X ++ A) ++ (Pp ++ ([] ++ (Rr ++ (B ++ Y)))):=by simp
    rw [e0] at sp
    refine vJ.use (X:=X ++ A) (U:=Pp) (M:=[]) (V:=Rr) (Y:=B ++ Y) ?_ ?_ (by omega) ?_ ?_ rfl sp fun G30 s30=>?_
    ·intro p hp
     simp only [List.mem_append] at hp ho hXo hYo
     rcases hp with (h | h) | h | h | h | h | h
     ·exact hXo p h
     ·exact ho p (.inl h)
     ·exact ho p (.inr (.inl h))
     ·cases h
     ·exact ho p (.inr (.inr (.inl h)))
     ·exact ho p (.inr (.inr (.inr h)))
     ·exact hYo p h
    ·simp only [List.length_append,List.length_nil]; omega
    ·rw [List.length_append]; omega
    ·simp only [List.length_append,List.length_nil]; omega
    ·refine hQ _ ?_
     have e1:(X ++ A) ++ (Rr ++ ([] ++ (Pp ++ (B ++ Y)))) = X ++ ((A ++ (Rr ++ (Pp ++ B))) ++ Y):=by simp
     rw [e1,ht] at s30
     simpa using s30
   ·rw [decide_eq_false he,Bool.not_false,aX]
    rw [de,aa,aE]
    refine ⟨fun hgt=>?_,fun hle=>?_⟩
    ·rw [bS,i64_in (by omega) (by omega),aa]
     have hsp:Pp = Pp.take Rr.length ++ Pp.drop Rr.length:=(List.take_append_drop _ _).symm
     obtain ⟨P1,hP1⟩:∃ x,x = Pp.take Rr.length:=⟨_,rfl⟩
     obtain ⟨P2,hP2⟩:∃ x,x = Pp.drop Rr.length:=⟨_,rfl⟩
     rw [<- hP1,<- hP2] at hsp
     have hl1:P1.length = Rr.length:=by rw [hP1,List.length_take]; omega
     have hl2:P2.length = Pp.length - Rr.length:=by rw [hP2,List.length_drop]
     have hl3:Pp.length = P1.length + P2.length:=by omega
     have e0:X ++ (A ++ (Pp ++ (Rr ++ (B ++ Y)))) = (X ++ A) ++ (P1 ++ (P2 ++ (Rr ++ (B ++ Y)))):=by rw [hsp]; simp
     rw [e0] at sp
     rw [hsp] at ho ht
     refine vJ.use (X:=X ++ A) (U:=P1) (M:=P2) (V:=Rr) (Y:=B ++ Y) ?_ ?_ hl1 ?_ ?_ (by omega) sp fun G14 s14=>?_
     ·intro p hp
      simp only [List.mem_append] at hp ho hXo hYo
      rcases hp with (h | h) | h | h | h | h | h
      ·exact hXo p h
      ·exact ho p (.inl h)
      ·exact ho p (.inr (.inl (.inl h)))
      ·exact ho p (.inr (.inl (.inr h)))
      ·exact ho p (.inr (.inr (.inl h)))
      ·exact ho p (.inr (.inr (.inr h)))
      ·exact hYo p h
     ·simp only [List.length_append]; omega
     ·rw [List.length_append]; omega
     ·simp only [List.length_append]; omega
     ·rw [bS,i64_in (by omega) (by omega),aa]
      have e1:(X ++ A) ++ (Rr ++ (P2 ++ (P1 ++ (B ++ Y)))) = X ++ ((A ++ Rr) ++ (P2 ++ (P1 ++ (B ++ Y)))):=by simp
      rw [e1] at s14
      have:=ih (A ++ Rr) P2 P1 B G14 (by omega) (by omega) (by omega) (by rw [List.length_append]; omega) (by rw [<- ht]; simp) (by
       intro p hp
       simp only [List.mem_append] at hp ho
       rcases hp with (h | h) | h | h | h
       ·exact ho p (.inl h)
       ·exact ho p (.inr (.inr (.inl h)))
       ·exact ho p (.inr (.inl (.inr h)))
       ·exact ho p (.inr (.inl (.inl h)))
       ·exact ho p (.inr (.inr (.inr h)))) s14
      have e2:(Pp.length:Int) - (Rr.length:Int) = (P2.length:Int):=by omega
      rw [e2,<- hl1]
      exact this
    ·rw [bS,i64_in (by omega) (by omega),aa]
     rw [bf,i64_in (by omega) (by omega),aa]
     rw [bS,i64_in (by omega) (by omega),aa]
     have hsp:Rr = Rr.take (Rr.length - Pp.length) ++ Rr.drop (Rr.length - Pp.length):=(List.take_append_drop _ _).symm
     obtain ⟨R1,hR1⟩:∃ x,x = Rr.take (Rr.length - Pp.length):=⟨_,rfl⟩
     obtain ⟨R2,hR2⟩:∃ x,x = Rr.drop (Rr.length - Pp.length):=⟨_,rfl⟩
     rw [<- hR1,<- hR2] at hsp
     have hl1:R1.length = Rr.length - Pp.length:=by rw [hR1,List.length_take]; omega
     have hl2:R2.length = Pp.length:=by rw [hR2,List.length_drop]; omega
     have hl3:Rr.length = R1.length + R2.length:=by omega
     have e0:X ++ (A ++ (Pp ++ (Rr ++ (B ++ Y)))) = (X ++ A) ++ (Pp ++ (R1 ++ (R2 ++ (B ++ Y)))):=by rw [hsp]; simp
     rw [e0] at sp
     rw [hsp] at ho ht
     refine vJ.use (X:=X ++ A) (U:=Pp) (M:=R1) (V:=R2) (Y:=B ++ Y) ?_ ?_ hl2.symm ?_ ?_ rfl sp fun G20 s20=>?_
     ·intro p hp
      simp only [List.mem_append] at hp ho hXo hYo
      rcases hp with (h | h) | h | h | h | h | h
      ·exact hXo p h
      ·exact ho p (.inl h)
      ·exact ho p (.inr (.inl h))
      ·exact ho p (.inr (.inr (.inl (.inl h))))
      ·exact ho p (.inr (.inr (.inl (.inr h))))
      ·exact ho p (.inr (.inr (.inr h)))
      ·exact hYo p h
     ·simp only [List.length_append]; omega
     ·rw [List.length_append]; omega
     ·simp only [List.length_append]; omega
     ·rw [bS,i64_in (by omega) (by omega),aa]
      have e1:(X ++ A) ++ (R2 ++ (R1 ++ (Pp ++ (B ++ Y)))) = X ++ (A ++ (R2 ++ (R1 ++ ((Pp ++ B) ++ Y)))):=by simp
      rw [e1] at s20
      have:=ih A R2 R1 (Pp ++ B) G20 (by omega) (by omega) (by omega) (by omega) (by rw [<- ht]; simp) (by
       intro p hp
       simp only [List.mem_append] at hp ho
       rcases hp with h | h | h | h | h
       ·exact ho p (.inl h)
       ·exact ho p (.inr (.inr (.inl (.inr h))))
       ·exact ho p (.inr (.inr (.inl (.inl h))))
       ·exact ho p (.inr (.inl h))
       ·exact ho p (.inr (.inr (.inr h)))) s20
      have e2:(Rr.length:Int) - (Pp.length:Int) = (R1.length:Int):=by omega
      rw [e2,<- hl2]
      exact this
 have e1:((X.length + U.length:Nat):Int) - (X.length:Int) = (U.length:Int):=by omega
 have e2:((X.length + U.length + V.length:Nat):Int) - ((X.length + U.length:Nat):Int) = (V.length:Int):=by omega
 rw [e1,e2]
 refine loop (U.length + V.length) [] U V [] G (Nat.le_refl _) hU1 hV1 (by simp) (by simp) (fun p hp=>hok p (by simp at hp ⊢; rcases hp with h | h <;> simp [h])) (by simpa using hs)
end
end Go.Esc.M
set_option linter.unusedSimpArgs false
set_option linter.unusedVariables false
set_option maxRecDepth 20000
namespace Go.Esc.M
open Go Go.Esc
theorem nY {B:List ba} (h:fJ B) {i j:Nat} {x y:ba} (hij:i ≤ j) (hi:B[i]? = some x) (hj:B[j]? = some y):x.id ≤ y.id:=by
 obtain ⟨h1,rfl⟩:=List.getElem?_eq_some_iff.1 hi
 obtain ⟨h2,rfl⟩:=List.getElem?_eq_some_iff.1 hj
 by_cases he:i = j
 ·subst he; exact Int.le_refl _
 ·exact (List.pairwise_iff_getElem.1 h) i j h1 h2 (by omega)
theorem jI {a b:List ba}:fJ (a ++ b) ↔ fJ a /\ fJ b /\ ∀ x ∈ a,∀ y ∈ b,x.id ≤ y.id:=List.pairwise_append
theorem Ij {A1 U V B2 S1 S2:List ba} (hA:fJ (A1 ++ U)) (hB:fJ (V ++ B2)) (h1:∀ x ∈ A1,∀ y ∈ B2,x.id ≤ y.id) (h2:∀ x ∈ V,∀ y ∈ U,x.id < y.id) (hs1:ga S1 (A1 ++ V)) (ho1:fJ S1) (hs2:ga S2 (U ++ B2)) (ho2:fJ S2) :
  ga (S1 ++ S2) ((A1 ++ U) ++ (V ++ B2)) /\ fJ (S1 ++ S2):=by
 obtain ⟨_,_,a3⟩:=jI.1 hA
 obtain ⟨_,_,b3⟩:=jI.1 hB
 refine ⟨?_,jI.2 ⟨ho1,ho2,fun x hx y hy=>?_⟩⟩
 ·refine (ga.append hs1 hs2).trans ?_
  have:=ga.append (ga.append (ga.refl A1) (ga.swap (a:=V) (b:=U) (fun x hx y hy=>by have:=h2 x hx y hy; omega))) (ga.refl B2)
  simpa using this
 ·have hx:=hs1.mem.1 hx
  have hy:=hs2.mem.1 hy
  rcases List.mem_append.1 hx with hx | hx <;> rcases List.mem_append.1 hy with hy | hy
  ·exact a3 x hx y hy
  ·exact h1 x hx y hy
  ·have:=h2 x hx y hy; omega
  ·exact b3 x hx y hy
theorem H9 {p:ba} {B1 B2:List ba} (hB:fJ (B1 ++ B2)) (h1:∀ q ∈ B1,q.id < p.id) (h2:∀ q ∈ B2,p.id ≤ q.id):ga (B1 ++ p :: B2) ([p] ++ (B1 ++ B2)) /\ fJ (B1 ++ p :: B2):=by
 obtain ⟨b1,b2,b3⟩:=jI.1 hB
 refine ⟨?_,jI.2 ⟨b1,List.pairwise_cons.2 ⟨h2,b2⟩,fun x hx y hy=>?_⟩⟩
 ·have:=ga.append (ga.swap (a:=B1) (b:=[p]) (fun x hx y hy=>by rw [List.mem_singleton.1 hy]; have:=h1 x hx; omega)) (ga.refl B2)
  simpa using this
 ·rcases List.mem_cons.1 hy with rfl | hy
  ·have:=h1 x hx; omega
  ·exact b3 x hx y hy
theorem Gu {q:ba} {A1 A2:List ba} (hA:fJ (A1 ++ A2)) (h1:∀ p ∈ A1,p.id ≤ q.id) (h2:∀ p ∈ A2,q.id < p.id):ga (A1 ++ q :: A2) ((A1 ++ A2) ++ [q]) /\ fJ (A1 ++ q :: A2):=by
 obtain ⟨a1,a2,a3⟩:=jI.1 hA
 refine ⟨?_,jI.2 ⟨a1,List.pairwise_cons.2 ⟨fun x hx=>by have:=h2 x hx; omega,a2⟩,fun x hx y hy=>?_⟩⟩
 ·have:=ga.append (ga.refl A1) (ga.swap (a:=[q]) (b:=A2) (fun x hx y hy=>by rw [List.mem_singleton.1 hx]; have:=h2 y hy; omega))
  simpa using this
 ·rcases List.mem_cons.1 hy with rfl | hy
  ·exact h1 x hx
  ·exact a3 x hx y hy
theorem Fq {B:List ba} {lo:Nat} (hlo:lo ≤ B.length) {P1 P2:ba -> Prop} (h1:∀ k x,k < lo -> B[k]? = some x -> P1 x) (h2:∀ k x,lo ≤ k -> B[k]? = some x -> P2 x):∃ B1 B2,B = B1 ++ B2 /\ B1.length = lo /\ (∀ x ∈ B1,P1 x) /\ ∀ x ∈ B2,P2 x:=by
 refine ⟨B.take lo,B.drop lo,(List.take_append_drop _ _).symm,by rw [List.length_take]; omega,fun x hx=>?_,fun x hx=>?_⟩
 ·obtain ⟨k,hk⟩:=List.mem_iff_getElem?.1 hx
  have hkl:=(List.getElem?_eq_some_iff.1 hk).1
  rw [List.length_take] at hkl
  rw [List.getElem?_take_of_lt (by omega)] at hk
  exact h1 k x (by omega) hk
 ·obtain ⟨k,hk⟩:=List.mem_iff_getElem?.1 hx
  rw [List.getElem?_drop] at hk
  exact h2 (lo + k) x (by omega) hk
section
variable {F0:List AId} {G0 G:ah} {ps:List LP} {Q:ag -> ah -> Prop}
theorem FH {n:Nat} {x:Int} {K:ag -> Prop} (hx:x = (n:Int)) (hn:n ≤ 1099511627776) (hK:K (.int .i64 ((n / 2:Nat):Int))) :
  wv (gi T G au kQ (.int .i64 x)) fun v12=>wv (aw T .shr kQ v12 (.int .u64 1)) fun v13=>wv (gi T G kQ au v13) K:=by
 subst hx
 refine ae (v:=.int .u64 (n:Int)) (by rw [iF hO B7 rfl,u64_in (by omega) (by omega)]) ?_
 refine ae (v:=.int .u64 ((n / 2:Nat):Int)) ?_ ?_
 ·rw [l9 _ _ _ _ _ _ (by decide)]
  have h1:min (1:Int).toNat IntKind.u64.bits = 1:=by decide
  have h2:(2:Int) ^ 1 = 2:=by decide
  rw [h1,h2,Int.fdiv_eq_ediv_of_nonneg _ (by decide)]
  rfl
 refine ae (v:=.int .i64 ((n / 2:Nat):Int)) (by rw [iF B7 hO rfl,i64_in (by omega) (by omega)]) hK
theorem Gp {v:ag} {A B:List ba} {u p:ba} {y z:Int} {K:ah -> Prop} (hu:u.ok) (hp:p.ok) (hy:y = (A.length:Int)) (hz:z = ((A.length + 1:Nat):Int)) (hs:Sp F0 G0 (bj 35 v ((A ++ u :: p :: B).map ba.av) :: ps) G)
  (hK:∀ G',Sp F0 G0 (bj 35 v ((A ++ p :: u :: B).map ba.av) :: ps) G' -> K G') :
  wv (aL T aq v (.int .i64 z)) fun v31=>wv (af T G aU v31) fun v32=>wv (aL T aq v (.int .i64 y)) fun v33=>wv (af T G aU v33) fun v34=>wv (aL T aq v (.int .i64 y)) fun v35=>wg (ax T G aU v35 v32) fun G36=>wv (aL T aq v (.int .i64 z)) fun v37=>wg (ax T G36 aU v37 v34) K:=by
 have hsl:=(bj.own (i:=0) hs rfl).is
 have g1:(A ++ u :: p :: B)[A.length]? = some u:=get_at A (p :: B) u
 have g2:(A ++ u :: p :: B)[A.length + 1]? = some p:=by
  rw [List.getElem?_append_right (by omega),Nat.add_sub_cancel_left]
  rfl
 obtain ⟨b,e3,e4⟩:=kX hsl hz g2
 refine ae e3 ?_
 refine ae e4 ?_
 obtain ⟨a,e1,e2⟩:=kX hsl hy g1
 refine ae e1 ?_
 refine ae e2 ?_
 obtain ⟨d,e7,e8⟩:=sL (i:=0) (p:=p) hy hs rfl (by simp) hp
 refine ae e7 ?_
 refine e8 _ fun G36 s36=>?_
 have s36:Sp F0 G0 (bj 35 v (((A ++ u :: p :: B).set A.length p).map ba.av) :: ps) G36:=s36
 obtain ⟨c,e5,e6⟩:=sL (i:=0) (p:=u) hz s36 rfl (by simp) hu
 refine ae e5 ?_
 refine e6 _ fun G38 s38=>?_
 have s38:Sp F0 G0 (bj 35 v ((((A ++ u :: p :: B).set A.length p).set (A.length + 1) u).map ba.av) :: ps) G38:=s38
 have e:((A ++ u :: p :: B).set A.length p).set (A.length + 1) u = A ++ p :: u :: B:=by
  rw [List.set_append_right _ _ (by omega),Nat.sub_self,List.set_cons_zero,List.set_append_right _ _ (by omega),Nat.add_sub_cancel_left]
  rfl
 rw [e] at s38
 exact hK _ s38
end
end Go.Esc.M
set_option linter.unusedSimpArgs false
set_option linter.unusedVariables false
set_option maxRecDepth 20000
namespace Go.Esc.M
open Go Go.Esc
theorem BR {X A B Y:List ba} {k:Nat} {x:ba} (h:A[k]? = some x):(X ++ (A ++ (B ++ Y)))[X.length + k]? = some x:=by
 have hk:=(List.getElem?_eq_some_iff.1 h).1
 rw [List.getElem?_append_right (by omega),Nat.add_sub_cancel_left,List.getElem?_append_left hk]
 exact h
theorem ze {X A B Y:List ba} {k:Nat} {x:ba} (h:B[k]? = some x):(X ++ (A ++ (B ++ Y)))[X.length + A.length + k]? = some x:=by
 have hk:=(List.getElem?_eq_some_iff.1 h).1
 rw [List.getElem?_append_right (by omega),List.getElem?_append_right (by omega),show X.length + A.length + k - X.length - A.length = k by omega,List.getElem?_append_left hk]
 exact h
theorem xN {B:List ba} {k:Nat} (h:k < B.length):∃ x,B[k]? = some x:=⟨_,List.getElem?_eq_getElem h⟩
theorem Fg {A:List ba} (h:fJ A) {k:Nat} {x z:ba} (hz:A[k]? = some z) (hx:x ∈ A.take (k + 1)):x.id ≤ z.id:=by
 obtain ⟨i,hi⟩:=List.mem_iff_getElem?.1 hx
 have hil:=(List.getElem?_eq_some_iff.1 hi).1
 rw [List.length_take] at hil
 rw [List.getElem?_take_of_lt (by omega)] at hi
 exact nY h (by omega) hi hz
theorem FL {A:List ba} (h:fJ A) {k:Nat} {x z:ba} (hz:A[k]? = some z) (hx:x ∈ A.drop k):z.id ≤ x.id:=by
 obtain ⟨i,hi⟩:=List.mem_iff_getElem?.1 hx
 rw [List.getElem?_drop] at hi
 exact nY h (by omega) hz hi
section
variable {F0:List AId} {G0:ah} {ps:List LP}
set_option maxHeartbeats 8000000 in
theorem CH.use:∀ (N:Nat) {v:ag} {X A B Y:List ba} {a m b:Int} {G:ah} {Q:ag -> ah -> Prop},A.length + B.length ≤ N -> (∀ p ∈ X ++ (A ++ (B ++ Y)),p.ok) -> (X ++ (A ++ (B ++ Y))).length ≤ 1048576 -> A ≠ [] -> B ≠ [] -> fJ A -> fJ B ->
  a = (X.length:Int) -> m = ((X.length + A.length:Nat):Int) -> b = ((X.length + A.length + B.length:Nat):Int) -> Sp F0 G0 (bj 35 v ((X ++ (A ++ (B ++ Y))).map ba.av) :: ps) G ->
  (∀ S G',ga S (A ++ B) -> fJ S -> Sp F0 G0 (bj 35 v ((X ++ (S ++ Y)).map ba.av) :: ps) G' -> Q (.tuple []) G') ->
  al P aT.n [v,.int .i64 a,.int .i64 m,.int .i64 b,tu] G Q:=by
 intro N
 induction N with
 | zero=>
  intro v X A B Y a m b G Q hN hok hlen hA hB
  have:=List.length_pos_iff.2 hA
  omega
 | succ N ihN=>
  intro v X A B Y a m b G Q hN hok hlen hA hB hsA hsB ha hm hb hs hQ
  have hA1:=List.length_pos_iff.2 hA
  have hB1:=List.length_pos_iff.2 hB
  refine aT.sound ?_
  unfold aT.S
  subst ha hm hb
  simp only [List.length_append] at hlen
  have okA:∀ x ∈ A,x.ok:=fun x hx=>hok x (by simp [hx])
  have okB:∀ x ∈ B,x.ok:=fun x hx=>hok x (by simp [hx])
  have okX:∀ x ∈ X,x.ok:=fun x hx=>hok x (by simp [hx])
  have okY:∀ x ∈ Y,x.ok:=fun x hx=>hok x (by simp [hx])
  rw [bS,i64_in (by omega) (by omega),aa,bC,aa,aE]
  refine ⟨fun hone=>?_,fun hne1=>?_⟩
  ·
   obtain ⟨p,rfl⟩:∃ p,A = [p]:=by
    match A,hone with
    | [p],_=>exact ⟨p,rfl⟩
    | [],h=>exact absurd rfl hA
    | _ :: _ :: _,h=>exfalso; simp only [List.length_cons] at h; omega
   have hpo:=okA p (by simp)
   simp only [List.length_singleton] at *
   intro R hR
   have loop:∀ (n lo hi:Nat) (G':ah),hi - lo ≤ n -> lo ≤ hi -> hi ≤ B.length -> (∀ k x,k < lo -> B[k]? = some x -> x.id < p.id) -> (∀ k x,hi ≤ k -> B[k]? = some x -> p.id ≤ x.id) -> Sp F0 G0 (bj 35 v ((X ++ ([p] ++ (B ++ Y))).map ba.av) :: ps) G' ->
     R [v,.int .i64 (X.length:Int),tu,.int .i64 ((X.length + 1 + lo:Nat):Int),.int .i64 ((X.length + 1 + hi:Nat):Int)] G':=by
    intro n
    induction n with
    | zero=>
     intro lo hi G' hn h1 h2 hl hh sp
     have he:lo = hi:=by omega
     subst he
     refine hR _ _ _ _ _ _ ?_
     rw [aH,aa,decide_eq_false (by omega),aM]
     obtain ⟨B1,B2,hBe,hB1l,hl1,hl2⟩:=Fq h2 (P1:=fun x=>x.id < p.id) (P2:=fun x=>p.id ≤ x.id) hl hh
     rw [hBe] at hsB hQ sp okB
     obtain ⟨hst,hso⟩:=H9 hsB hl1 hl2
     intro R2 hR2
     have loop2:∀ (E D:List ba) (G':ah),B1 = D ++ E -> Sp F0 G0 (bj 35 v (((X ++ D) ++ p :: (E ++ (B2 ++ Y))).map ba.av) :: ps) G' -> R2 [v,.int .i64 ((X.length + 1 + lo:Nat):Int),.int .i64 ((X.length + D.length:Nat):Int)] G':=by
      intro E
      induction E with
      | nil=>
       intro D G' hD sp
       rw [List.append_nil] at hD
       subst hD
       refine hR2 _ _ _ _ ?_
       rw [bS,i64_in (by omega) (by omega),aa,aH,aa,decide_eq_false (by omega),aM]
       refine hQ _ _ hst hso ?_
       simpa using sp
      | cons u E ih=>
       intro D G' hD sp
       have hDl:=congrArg List.length hD
       simp only [List.length_append,List.length_cons] at hDl
       have huo:u.ok:=okB u (by rw [hD]; simp)
       refine hR2 _ _ _ _ ?_
       rw [bS,i64_in (by omega) (by omega),aa,aH,aa,decide_eq_true (by omega),aX]
       rw [bf,i64_in (by omega) (by omega),aa,aa]
       refine Gp (A:=X ++ D) (B:=E ++ (B2 ++ Y)) hpo huo (by rw [List.length_append]) (by rw [List.length_append]; omega) sp fun G45 s45=>?_
       rw [aa]
       have e:(X ++ D) ++ u :: p :: (E ++ (B2 ++ Y)) = (X ++ (D ++ [u])) ++ p :: (E ++ (B2 ++ Y)):=by simp
       rw [e] at s45
       have:=ih (D ++ [u]) G45 (by rw [hD]; simp) s45
       have e2:((X.length + (D ++ [u]).length:Nat):Int) = ((X.length + D.length:Nat):Int) + 1:=by simp; omega
       rw [e2] at this
       exact this
     have:=loop2 B1 [] G' rfl (by simpa using sp)
     simpa using this
    | succ n ih=>
     intro lo hi G' hn h1 h2 hl hh sp
     by_cases he:lo = hi
     ·exact ih lo hi G' (by omega) h1 h2 hl hh sp
     ·refine hR _ _ _ _ _ _ ?_
      rw [aH,aa,decide_eq_true (by omega),aX]
      rw [bf,i64_in (by omega) (by omega),aa]
      refine FH (n:=X.length + 1 + lo + (X.length + 1 + hi)) (by omega) (by omega) ?_
      obtain ⟨md,hmd⟩:∃ md,md = (lo + hi) / 2:=⟨_,rfl⟩
      have hh2:(X.length + 1 + lo + (X.length + 1 + hi)) / 2 = X.length + 1 + md:=by omega
      rw [hh2]
      obtain ⟨x,hx⟩:=xN (B:=B) (k:=md) (by omega)
      have hxo:=okB x (List.mem_of_getElem? hx)
      have hsl:=(bj.own (i:=0) sp rfl).is
      have g1:=ze (X:=X) (A:=[p]) (Y:=Y) hx
      have g2:=BR (X:=X) (A:=[p]) (B:=B) (Y:=Y) (k:=0) (x:=p) rfl
      obtain ⟨c1,e1,e2⟩:=kX (x:=((X.length + 1 + md:Nat):Int)) hsl (by simp) g1
      refine ae e1 ?_
      refine ae e2 ?_
      obtain ⟨c2,e3,e4⟩:=kX (x:=(X.length:Int)) hsl (by simp) g2
      refine ae e3 ?_
      refine ae e4 ?_
      refine u9 hxo hpo fun G20 c20=>?_
      have s20:=sp.tmp c20
      rw [aH,aa,vc,aE]
      refine ⟨fun hlt=>?_,fun hnl=>?_⟩
      ·rw [bf,i64_in (by omega) (by omega),aa]
       have:=ih (md + 1) hi G20 (by omega) (by omega) h2 (fun k y hk hy=>by
        have:=nY hsB (show k ≤ md by omega) hy hx
        omega) hh s20
       have e5:((X.length + 1 + md:Nat):Int) + 1 = ((X.length + 1 + (md + 1):Nat):Int):=by omega
       rw [e5]
       exact this
      ·exact ih lo md G20 (by omega) (by omega) (by omega) hl (fun k y hk hy=>by
        have:=nY hsB hk hx hy
        omega) s20
   have:=loop B.length 0 B.length G (by omega) (by omega) (by omega) (fun k x hk=>by omega) (fun k x hk hx=>by
    have:=(List.getElem?_eq_some_iff.1 hx).1
    omega) hs
   simpa using this
  ·rw [bS,i64_in (by omega) (by omega),aa,bC,aa,aE]
   refine ⟨fun hone=>?_,fun hne2=>?_⟩
   ·
    obtain ⟨q,rfl⟩:∃ p,B = [p]:=by
     match B,hone with
     | [p],_=>exact ⟨p,rfl⟩
     | [],h=>exact absurd rfl hB
     | _ :: _ :: _,h=>exfalso; simp only [List.length_cons] at h; omega
    have hqo:=okB q (by simp)
    simp only [List.length_singleton] at *
    intro R hR
    have loop:∀ (n lo hi:Nat) (G':ah),hi - lo ≤ n -> lo ≤ hi -> hi ≤ A.length -> (∀ k x,k < lo -> A[k]? = some x -> x.id ≤ q.id) -> (∀ k x,hi ≤ k -> A[k]? = some x -> q.id < x.id) -> Sp F0 G0 (bj 35 v ((X ++ (A ++ ([q] ++ Y))).map ba.av) :: ps) G' ->
      R [v,.int .i64 ((X.length + A.length:Nat):Int),tu,.int .i64 ((X.length + lo:Nat):Int),.int .i64 ((X.length + hi:Nat):Int)] G':=by
     intro n
     induction n with
     | zero=>
      intro lo hi G' hn h1 h2 hl hh sp
      have he:lo = hi:=by omega
      subst he
      refine hR _ _ _ _ _ _ ?_
      rw [aH,aa,decide_eq_false (by omega),aM]
      obtain ⟨A1,A2,hAe,hA1l,hl1,hl2⟩:=Fq h2 (P1:=fun x=>x.id ≤ q.id) (P2:=fun x=>q.id < x.id) hl hh
      have hAle:=congrArg List.length hAe
      rw [List.length_append] at hAle
      rw [hAe] at hsA hQ sp okA
      obtain ⟨hst,hso⟩:=Gu hsA hl1 hl2
      intro R2 hR2
      have loop2:∀ (n:Nat) (D E:List ba) (G':ah),D.length = n -> A2 = D ++ E -> Sp F0 G0 (bj 35 v (((X ++ (A1 ++ D)) ++ q :: (E ++ Y)).map ba.av) :: ps) G' -> R2 [v,.int .i64 ((X.length + lo:Nat):Int),.int .i64 ((X.length + lo + D.length:Nat):Int)] G':=by
       intro n
       induction n with
       | zero=>
        intro D E G' hDl hD sp
        have:D = []:=List.length_eq_zero_iff.1 hDl
        subst this
        rw [List.nil_append] at hD
        subst hD
        refine hR2 _ _ _ _ ?_
        rw [de,aa,decide_eq_false (by simp),aM]
        refine hQ _ _ hst hso ?_
        simpa using sp
       | succ n ih=>
        intro D E G' hDl hD sp
        obtain ⟨W,u,rfl⟩:∃ W u,D = W ++ [u]:=⟨D.dropLast,D.getLast (by intro h; rw [h] at hDl; simp at hDl),(List.dropLast_concat_getLast _).symm⟩
        have hWl:W.length = n:=by simpa using hDl
        have hDle:=congrArg List.length hD
        simp only [List.length_append,List.length_singleton] at hDle
        have hUl:(W ++ [u]).length = W.length + 1:=by simp
        have huo:u.ok:=okA u (by rw [hD]; simp)
        rw [hUl]
        refine hR2 _ _ _ _ ?_
        rw [de,aa,decide_eq_true (by omega),aX]
        rw [bS,i64_in (by omega) (by omega),aa,aa]
        have e0:(X ++ (A1 ++ (W ++ [u]))) ++ q :: (E ++ Y) = (X ++ (A1 ++ W)) ++ u :: q :: (E ++ Y):=by simp
        rw [e0] at sp
        refine CT (A:=X ++ (A1 ++ W)) (B:=E ++ Y) huo hqo (by simp only [List.length_append]; omega) (by simp only [List.length_append]; omega) sp fun G91 s91=>?_
        rw [aa]
        have e1:(X ++ (A1 ++ W)) ++ q :: u :: (E ++ Y) = (X ++ (A1 ++ W)) ++ q :: ((u :: E) ++ Y):=by simp
        rw [e1] at s91
        have:=ih W (u :: E) G91 hWl (by rw [hD]; simp) s91
        have e2:((X.length + lo + (W.length + 1):Nat):Int) - 1 = ((X.length + lo + W.length:Nat):Int):=by omega
        rw [e2]
        exact this
      have:=loop2 A2.length A2 [] G' rfl (by simp) (by simpa using sp)
      have e3:((X.length + A.length:Nat):Int) = ((X.length + lo + A2.length:Nat):Int):=by omega
      rw [e3]
      exact this
     | succ n ih=>
      intro lo hi G' hn h1 h2 hl hh sp
      by_cases he:lo = hi
      ·exact ih lo hi G' (by omega) h1 h2 hl hh sp
      ·refine hR _ _ _ _ _ _ ?_
       rw [aH,aa,decide_eq_true (by omega),aX]
       rw [bf,i64_in (by omega) (by omega),aa]
       refine FH (n:=X.length + lo + (X.length + hi)) (by omega) (by omega) ?_
       obtain ⟨md,hmd⟩:∃ md,md = (lo + hi) / 2:=⟨_,rfl⟩
       have hh2:(X.length + lo + (X.length + hi)) / 2 = X.length + md:=by omega
       rw [hh2]
       obtain ⟨x,hx⟩:=xN (B:=A) (k:=md) (by omega)
       have hxo:=okA x (List.mem_of_getElem? hx)
       have hsl:=(bj.own (i:=0) sp rfl).is
       have g1:=BR (X:=X) (B:=[q]) (Y:=Y) hx
       have g2:=ze (X:=X) (A:=A) (B:=[q]) (Y:=Y) (k:=0) (x:=q) rfl
       obtain ⟨c2,e3,e4⟩:=kX (x:=((X.length + A.length:Nat):Int)) hsl (by simp) g2
       refine ae e3 ?_
       refine ae e4 ?_
       obtain ⟨c1,e1,e2⟩:=kX (x:=((X.length + md:Nat):Int)) hsl rfl g1
       refine ae e1 ?_
       refine ae e2 ?_
       refine u9 hqo hxo fun G20 c20=>?_
       have s20:=sp.tmp c20
       rw [aH,aa,vc,fN,aa]
       by_cases hlt:q.id < x.id
       ·rw [decide_eq_true hlt,Bool.not_true,aM]
        exact ih lo md G20 (by omega) (by omega) (by omega) hl (fun k y hk hy=>by
         have:=nY hsA hk hx hy
         omega) s20
       ·rw [decide_eq_false hlt,Bool.not_false,aX]
        rw [bf,i64_in (by omega) (by omega),aa]
        have:=ih (md + 1) hi G20 (by omega) (by omega) h2 (fun k y hk hy=>by
         have:=nY hsA (show k ≤ md by omega) hy hx
         omega) hh s20
        have e5:((X.length + md:Nat):Int) + 1 = ((X.length + (md + 1):Nat):Int):=by omega
        rw [e5]
        exact this
    have:=loop A.length 0 A.length G (by omega) (by omega) (by omega) (fun k x hk=>by omega) (fun k x hk hx=>by
     have:=(List.getElem?_eq_some_iff.1 hx).1
     omega) hs
    simpa using this
   ·
    obtain ⟨h,hhe⟩:∃ h,h = (A.length + B.length) / 2:=⟨_,rfl⟩
    have hA2:2 ≤ A.length:=by omega
    have hB2:2 ≤ B.length:=by omega
    rw [bf,i64_in (by omega) (by omega),aa]
    refine FH (n:=X.length + (X.length + A.length + B.length)) (by omega) (by omega) ?_
    have hmid:(X.length + (X.length + A.length + B.length)) / 2 = X.length + h:=by omega
    rw [hmid,bf,i64_in (by omega) (by omega),aa]
    refine ae (v:=.bool (decide (((X.length + A.length:Nat):Int) > ((X.length + h:Nat):Int)))) (by rw [de]) ?_
    intro J185
    have core:∀ (σ0 ρ0:Nat),σ0 ≤ ρ0 -> ρ0 ≤ h -> ρ0 ≤ A.length -> h ≤ σ0 + B.length -> (σ0 = 0 \/ h = σ0 + B.length) -> (ρ0 = A.length \/ ρ0 = h) -> J185 (.int .i64 ((X.length + σ0:Nat):Int)) (.int .i64 ((X.length + ρ0:Nat):Int)) G:=by
     intro σ0 ρ0 c1 c2 c3 c4 c5 c6
     simp -zeta only [J185]
     rw [bS,i64_in (by omega) (by omega),aa]
     intro R hR
     have loop:∀ (n σ ρ:Nat) (G':ah),ρ - σ ≤ n -> σ0 ≤ σ -> σ ≤ ρ -> ρ ≤ ρ0 -> (∀ x ∈ A.take σ,∀ y ∈ B.drop (h - σ),x.id ≤ y.id) -> (∀ x ∈ B.take (h - ρ),∀ y ∈ A.drop ρ,x.id < y.id) -> Sp F0 G0 (bj 35 v ((X ++ (A ++ (B ++ Y))).map ba.av) :: ps) G' ->
       R [v,.int .i64 (X.length:Int),.int .i64 ((X.length + A.length:Nat):Int),.int .i64 ((X.length + A.length + B.length:Nat):Int),tu,.int .i64 ((X.length + h:Nat):Int),.int .i64 (((X.length + h:Nat):Int) + ((X.length + A.length:Nat):Int)),.int .i64 ((X.length + σ:Nat):Int),.int .i64 ((X.length + ρ:Nat):Int),.int .i64 (((X.length + h:Nat):Int) + ((X.length + A.length:Nat):Int) - 1)] G':=by
      intro n
      induction n with
      | zero=>
       intro σ ρ G' hn k1 k2 k3 i1 i2 sp
       have he:σ = ρ:=by omega
       subst he
       refine hR _ _ _ _ _ _ _ _ _ _ _ ?_
       rw [aH,aa,decide_eq_false (by omega),aM]
       obtain ⟨A1,hA1⟩:∃ x,x = A.take σ:=⟨_,rfl⟩
       obtain ⟨U,hU⟩:∃ x,x = A.drop σ:=⟨_,rfl⟩
       obtain ⟨V,hV⟩:∃ x,x = B.take (h - σ):=⟨_,rfl⟩
       obtain ⟨B2,hB2⟩:∃ x,x = B.drop (h - σ):=⟨_,rfl⟩
       have hAe:A = A1 ++ U:=by rw [hA1,hU,List.take_append_drop]
       have hBe:B = V ++ B2:=by rw [hV,hB2,List.take_append_drop]
       have lA1:A1.length = σ:=by rw [hA1,List.length_take]; omega
       have lU:U.length = A.length - σ:=by rw [hU,List.length_drop]
       have lV:V.length = h - σ:=by rw [hV,List.length_take]; omega
       have lB2:B2.length = B.length - (h - σ):=by rw [hB2,List.length_drop]
       rw [<- hA1,<- hB2] at i1
       rw [<- hV,<- hU] at i2
       have hsA':=hsA
       have hsB':=hsB
       rw [hAe] at hsA'
       rw [hBe] at hsB'
       obtain ⟨sA1,sU,_⟩:=jI.1 hsA'
       obtain ⟨sV,sB2,_⟩:=jI.1 hsB'
       have okA1:∀ x ∈ A1,x.ok:=fun x hx=>okA x (by rw [hAe]; simp [hx])
       have okU:∀ x ∈ U,x.ok:=fun x hx=>okA x (by rw [hAe]; simp [hx])
       have okV:∀ x ∈ V,x.ok:=fun x hx=>okB x (by rw [hBe]; simp [hx])
       have okB2:∀ x ∈ B2,x.ok:=fun x hx=>okB x (by rw [hBe]; simp [hx])
       have hQ':∀ S1 S2 G',ga S1 (A1 ++ V) -> fJ S1 -> ga S2 (U ++ B2) -> fJ S2 -> Sp F0 G0 (bj 35 v ((X ++ (S1 ++ (S2 ++ Y))).map ba.av) :: ps) G' -> Q (.tuple []) G':=by
        intro S1 S2 G' q1 q2 q3 q4 sp
        obtain ⟨r1,r2⟩:=Ij hsA' hsB' i1 i2 q1 q2 q3 q4
        rw [<- hAe,<- hBe] at r1
        exact hQ _ _ r1 r2 (by simpa using sp)
       rw [bS,i64_in (by omega) (by omega),aa]
       have eend:((X.length + h:Nat):Int) + ((X.length + A.length:Nat):Int) - ((X.length + σ:Nat):Int) = ((X.length + A.length + (h - σ):Nat):Int):=by omega
       rw [eend]
       have fin:∀ (S1:List ba) (G1:ah),ga S1 (A1 ++ V) -> fJ S1 -> Sp F0 G0 (bj 35 v ((X ++ (S1 ++ (U ++ (B2 ++ Y)))).map ba.av) :: ps) G1 ->
         wv (aw T .lss au (.int .i64 ((X.length + h:Nat):Int)) (.int .i64 ((X.length + A.length + (h - σ):Nat):Int))) fun v162=>brB (some v162)
          (wv (aw T .lss au (.int .i64 ((X.length + A.length + (h - σ):Nat):Int)) (.int .i64 ((X.length + A.length + B.length:Nat):Int))) fun v163=>brB (some v163)
           (al P aT.n [v,.int .i64 ((X.length + h:Nat):Int),.int .i64 ((X.length + A.length + (h - σ):Nat):Int),.int .i64 ((X.length + A.length + B.length:Nat):Int),tu] G1 fun v169 G170=>Q (.tuple []) G170)
           (Q (.tuple []) G1))
          (Q (.tuple []) G1):=by
        intro S1 G1 q1 q2 sp1
        have lS1:=q1.length
        rw [List.length_append] at lS1
        have okS1:∀ x ∈ S1,x.ok:=fun x hx=>by
         rcases List.mem_append.1 (q1.mem.1 hx) with hx | hx
         ·exact okA1 x hx
         ·exact okV x hx
        have noU:U = [] -> Q (.tuple []) G1:=fun hu=>hQ' S1 (U ++ B2) G1 q1 q2 (ga.refl _) (by rw [hu]; simpa using sB2) (by simpa using sp1)
        have noB:B2 = [] -> Q (.tuple []) G1:=fun hu=>hQ' S1 (U ++ B2) G1 q1 q2 (ga.refl _) (by rw [hu]; simpa using sU) (by simpa using sp1)
        rw [aH,aa,aE]
        refine ⟨fun hlt=>?_,fun hge=>noU (List.length_eq_zero_iff.1 (by omega))⟩
        rw [aH,aa,aE]
        refine ⟨fun hlt2=>?_,fun hge=>noB (List.length_eq_zero_iff.1 (by omega))⟩
        refine ihN (X:=X ++ S1) (A:=U) (B:=B2) (Y:=Y) (by omega) ?_ ?_ (fun e=>by rw [e] at lU; simp at lU; omega) (fun e=>by rw [e] at lB2; simp at lB2; omega) sU sB2 (by rw [List.length_append]; omega) (by rw [List.length_append]; omega) (by rw [List.length_append]; omega) (by simpa using sp1) fun S2 G2 q3 q4 sp2=>?_
        ·intro x hx
         simp only [List.mem_append] at hx
         rcases hx with (hx | hx) | hx | hx | hx
         ·exact okX x hx
         ·exact okS1 x hx
         ·exact okU x hx
         ·exact okB2 x hx
         ·exact okY x hx
        ·simp only [List.length_append]; omega
        ·exact hQ' S1 S2 G2 q1 q2 q3 q4 (by simpa using sp2)
       intro J184
       have j184:∀ (bb:Bool) (G1:ah),(bb = false -> U = [] \/ V = []) -> (bb = true -> U ≠ [] /\ V ≠ []) -> Sp F0 G0 (bj 35 v ((X ++ (A ++ (B ++ Y))).map ba.av) :: ps) G1 -> J184 (.bool bb) G1:=by
        intro bb G1 hb0 hb1 sp1
        simp -zeta only [J184]
        intro J183
        have j183:∀ G2,Sp F0 G0 (bj 35 v ((X ++ (A1 ++ (V ++ (U ++ (B2 ++ Y))))).map ba.av) :: ps) G2 -> J183 G2:=by
         intro G2 sp2
         simp -zeta only [J183]
         intro J182
         have no:(A1 = [] \/ V = []) -> J182 (.bool false) G2:=by
          intro hor
          simp -zeta only [J182,aM]
          refine fin (A1 ++ V) G2 (ga.refl _) ?_ (by simpa using sp2)
          rcases hor with e | e
          ·rw [e]; simpa using sV
          ·rw [e]; simpa using sA1
         rw [aH,aa,aE]
         refine ⟨fun hlt=>?_,fun hge=>no (.inl (List.length_eq_zero_iff.1 (by omega)))⟩
         rw [aH,aa]
         by_cases hlt2:((X.length + σ:Nat):Int) < ((X.length + h:Nat):Int)
         ·rw [decide_eq_true hlt2]
          simp -zeta only [J182,aX]
          refine ihN (X:=X) (A:=A1) (B:=V) (Y:=U ++ (B2 ++ Y)) (by omega) ?_ ?_ (fun e=>by rw [e] at lA1; simp at lA1; omega) (fun e=>by rw [e] at lV; simp at lV; omega) sA1 sV rfl (by omega) (by omega) sp2 fun S1 G3 q1 q2 sp3=>?_
          ·intro x hx
           simp only [List.mem_append] at hx
           rcases hx with hx | hx | hx | hx | hx | hx
           ·exact okX x hx
           ·exact okA1 x hx
           ·exact okV x hx
           ·exact okU x hx
           ·exact okB2 x hx
           ·exact okY x hx
          ·simp only [List.length_append]; omega
          ·exact fin S1 G3 q1 q2 sp3
         ·rw [decide_eq_false hlt2]
          exact no (.inr (List.length_eq_zero_iff.1 (by omega)))
        cases bb with
        | false=>
         rw [aM]
         refine j183 G1 ?_
         rw [hAe,hBe] at sp1
         rcases hb0 rfl with e | e
         ·rw [e] at sp1 ⊢; simpa using sp1
         ·rw [e] at sp1 ⊢; simpa using sp1
        | true=>
         rw [aX]
         obtain ⟨hUn,hVn⟩:=hb1 rfl
         rw [hAe,hBe] at sp1
         refine rotate.use (X:=X ++ A1) (U:=U) (V:=V) (Y:=B2 ++ Y) ?_ ?_ hUn hVn (by rw [List.length_append]; omega) (by rw [List.length_append]; omega) (by rw [List.length_append]; omega) (by simpa using sp1) fun G2 sp2=>?_
         ·intro x hx
          simp only [List.mem_append] at hx
          rcases hx with (hx | hx) | hx | hx | hx | hx
          ·exact okX x hx
          ·exact okA1 x hx
          ·exact okU x hx
          ·exact okV x hx
          ·exact okB2 x hx
          ·exact okY x hx
         ·simp only [List.length_append]; omega
         ·exact j183 G2 (by simpa using sp2)
       rw [aH,aa,aE]
       refine ⟨fun hlt=>?_,fun hge=>j184 false G' (fun _=>.inl (List.length_eq_zero_iff.1 (by omega))) (fun e=>by cases e) sp⟩
       rw [aH,aa]
       by_cases hlt2:((X.length + A.length:Nat):Int) < ((X.length + A.length + (h - σ):Nat):Int)
       ·rw [decide_eq_true hlt2]
        exact j184 true G' (fun e=>by cases e) (fun _=>⟨fun e=>by rw [e] at lU; simp at lU; omega,fun e=>by rw [e] at lV; simp at lV; omega⟩) sp
       ·rw [decide_eq_false hlt2]
        exact j184 false G' (fun _=>.inr (List.length_eq_zero_iff.1 (by omega))) (fun e=>by cases e) sp
      | succ n ih=>
       intro σ ρ G' hn k1 k2 k3 i1 i2 sp
       by_cases he:σ = ρ
       ·exact ih σ ρ G' (by omega) k1 k2 k3 i1 i2 sp
       ·refine hR _ _ _ _ _ _ _ _ _ _ _ ?_
        rw [aH,aa,decide_eq_true (by omega),aX]
        rw [bf,i64_in (by omega) (by omega),aa]
        refine FH (n:=X.length + σ + (X.length + ρ)) (by omega) (by omega) ?_
        obtain ⟨κ,hκ⟩:∃ κ,κ = (σ + ρ) / 2:=⟨_,rfl⟩
        have hh2:(X.length + σ + (X.length + ρ)) / 2 = X.length + κ:=by omega
        rw [hh2]
        rw [bS,i64_in (by omega) (by omega),aa]
        obtain ⟨x,hx⟩:=xN (B:=A) (k:=κ) (by omega)
        obtain ⟨y,hy⟩:=xN (B:=B) (k:=h - 1 - κ) (by omega)
        have hxo:=okA x (List.mem_of_getElem? hx)
        have hyo:=okB y (List.mem_of_getElem? hy)
        have hsl:=(bj.own (i:=0) sp rfl).is
        have g1:=BR (X:=X) (B:=B) (Y:=Y) hx
        have g2:=ze (X:=X) (A:=A) (Y:=Y) hy
        obtain ⟨c7,e1,e2⟩:=kX (x:=((X.length + h:Nat):Int) + ((X.length + A.length:Nat):Int) - 1 - ((X.length + κ:Nat):Int)) hsl (by omega) g2
        refine ae e1 ?_
        refine ae e2 ?_
        obtain ⟨c8,e3,e4⟩:=kX (x:=((X.length + κ:Nat):Int)) hsl rfl g1
        refine ae e3 ?_
        refine ae e4 ?_
        refine u9 hyo hxo fun G127 c127=>?_
        have s127:=sp.tmp c127
        rw [aH,aa,vc,fN,aa]
        by_cases hlt:y.id < x.id
        ·rw [decide_eq_true hlt,Bool.not_true,aM]
         refine ih σ κ G127 (by omega) k1 (by omega) (by omega) i1 (fun u hu w hw=>?_) s127
         have hk:h - κ = h - 1 - κ + 1:=by omega
         rw [hk] at hu
         have h5:=Fg hsB hy hu
         have h6:=FL hsA hx hw
         omega
        ·rw [decide_eq_false hlt,Bool.not_false,aX]
         rw [bf,i64_in (by omega) (by omega),aa]
         have:=ih (κ + 1) ρ G127 (by omega) (by omega) (by omega) k3 (fun u hu w hw=>by
          have hk:h - (κ + 1) = h - 1 - κ:=by omega
          rw [hk] at hw
          have h5:=Fg hsA hx hu
          have h6:=FL hsB hy hw
          omega) i2 s127
         have e5:((X.length + κ:Nat):Int) + 1 = ((X.length + (κ + 1):Nat):Int):=by omega
         rw [e5]
         exact this
     refine loop (ρ0 - σ0) σ0 ρ0 G (Nat.le_refl _) (Nat.le_refl _) c1 (Nat.le_refl _) ?_ ?_ hs
     ·rcases c5 with e | e
      ·subst e; intro x hx; simp at hx
      ·intro x hx y hy
       rw [List.drop_eq_nil_of_le (by omega)] at hy
       cases hy
     ·rcases c6 with e | e
      ·intro x hx y hy
       rw [List.drop_eq_nil_of_le (by omega)] at hy
       cases hy
      ·subst e
       intro x hx
       rw [Nat.sub_self] at hx
       simp at hx
    rw [aE]
    refine ⟨fun hgt=>?_,fun hle=>?_⟩
    ·rw [bS,i64_in (by omega) (by omega),aa]
     have:=core (h - B.length) h (by omega) (by omega) (by omega) (by omega) (.inr (by omega)) (.inr rfl)
     have e:((X.length + h:Nat):Int) + ((X.length + A.length:Nat):Int) - ((X.length + A.length + B.length:Nat):Int) = ((X.length + (h - B.length):Nat):Int):=by omega
     rw [e]
     exact this
    ·have:=core 0 A.length (by omega) (by omega) (by omega) (by omega) (.inl rfl) (.inl rfl)
     simpa using this
end
end Go.Esc.M
set_option linter.unusedSimpArgs false
set_option linter.unusedVariables false
set_option maxRecDepth 20000
namespace Go.Esc.M
open Go Go.Esc
def Blk (s:Nat) (l:List ba):Prop:=∀ i,fJ ((l.drop (i * s)).take s)
theorem FT (s:Nat):Blk s []:=fun i=>by simp [fJ]
theorem sg {s c:Nat} {X S:List ba} (h:Blk s X) (hl:X.length = c * s) (hS:S.length ≤ s) (ho:fJ S):Blk s (X ++ S):=by
 intro i
 by_cases h1:i < c
 ·have e:c * s = i * s + s + (c - i - 1) * s:=by
   have:c = i + 1 + (c - i - 1):=by omega
   conv=>lhs; rw [this]
   rw [Nat.add_mul,Nat.add_mul,Nat.one_mul]
  rw [List.drop_append_of_le_length (by omega),List.take_append_of_le_length (by rw [List.length_drop]; omega)]
  exact h i
 ·by_cases h2:i = c
  ·subst h2
   rw [<- hl,List.drop_left,List.take_of_length_le hS]
   exact ho
  ·have e:i * s = c * s + s + (i - c - 1) * s:=by
    have:i = c + 1 + (i - c - 1):=by omega
    conv=>lhs; rw [this]
    rw [Nat.add_mul,Nat.add_mul,Nat.one_mul]
   rw [List.drop_eq_nil_of_le (by rw [List.length_append]; omega)]
   simp [fJ]
theorem I1 {s c:Nat} {l:List ba} (h:Blk s l):Blk s (l.drop (c * s)):=fun i=>by
 rw [List.drop_drop,<- Nat.add_mul]
 exact h _
theorem B5 {s:Nat} {l:List ba} (h:Blk s l) (hl:l.length ≤ s):fJ l:=by
 have:=h 0
 rw [Nat.zero_mul,List.drop_zero,List.take_of_length_le hl] at this
 exact this
theorem wz {s:Nat} {P T:List ba} (h:Blk s (P ++ T)) (hP:P.length = s):fJ P /\ Blk s T:=by
 constructor
 ·have:=h 0
  rw [Nat.zero_mul,List.drop_zero,<- hP,List.take_left] at this
  exact this
 ·have:=I1 (c:=1) h
  rw [Nat.one_mul,<- hP,List.drop_left] at this
  rw [hP] at this
  exact this
section
variable {F0:List AId} {G0 G:ah} {ps:List LP} {Q:ag -> ah -> Prop}
set_option maxHeartbeats 4000000 in
theorem KC.use {v:ag} {L:List ba} (hok:∀ p ∈ L,p.ok) (hlen:L.length ≤ 1048576) (hs:Sp F0 G0 (bj 35 v (L.map ba.av) :: ps) G)
  (hQ:∀ S G',ga S L -> fJ S -> Sp F0 G0 (bj 35 v (S.map ba.av) :: ps) G' -> Q (.tuple []) G') :
  al P bm.n [v,.int .i64 (L.length:Int),tu] G Q:=by
 refine bm.sound ?_
 unfold bm.S
 have okS:∀ {S:List ba},ga S L -> ∀ p ∈ S,p.ok:=fun h p hp=>hok p (h.mem.1 hp)
 have last:∀ (c:Nat) (X T0:List ba) (G':ah),T0.length < 20 -> X.length = c * 20 -> Blk 20 X -> ga (X ++ T0) L -> Sp F0 G0 (bj 35 v ((X ++ T0).map ba.av) :: ps) G' -> ∀ R1:List ag -> ah -> Prop,(∀ (x3 x4 x5 x6 x7 x8:ag) (G2:ah),(wv (aw T .leq au x8 x4) fun v9=>brB (some v9)   (al P aV.n [x3,x7,x8,x5] G2 fun v10 G11=>wv (aw T .add au x8 x6) fun v12=>R1 [x3,x4,x5,x6,x8,v12] G11)   (al P aV.n [x3,x7,x4,x5] G2 fun v13 G14=>∀ R15:List ag -> ah -> Prop,  (∀ (x17 x18 x19 x20:ag) (G16:ah),(wv (aw T .lss au x20 x18) fun v21=>brB (some v21)   (wv (aw T .mul au (.int .i64 2) x20) fun v22=>∀ R23:List ag -> ah -> Prop,  (∀ (x25 x26 x27 x28 x29 x30:ag) (G24:ah),(wv (aw T .leq au x30 x26) fun v31=>brB (some v31)   (wv (aw T .add au x29 x28) fun v32=>al P aT.n [x25,x29,v32,x30,x27] G24 fun v33 G34=>wv (aw T .mul au (.int .i64 2) x28) fun v35=>wv (aw T .add au x30 v35) fun v36=>R23 [x25,x26,x27,x28,x30,v36] G34)   (wv (aw T .add au x29 x28) fun v37=>wv (aw T .lss au v37 x26) fun v38=>brB (some v38)   (al P aT.n [x25,x29,v37,x26,x27] G24 fun v39 G40=>wv (aw T .mul au x28 (.int .i64 2)) fun v43=>R15 [x25,x26,x27,v43] G40)   (wv (aw T .mul au x28 (.int .i64 2)) fun v44=>R15 [x25,x26,x27,v44] G24))) -> R23 [x25,x26,x27,x28,x29,x30] G24) ->   R23 [x17,x18,x19,x20,.int .i64 0,v22] G16)   (Q (.tuple []) G16)) -> R15 [x17,x18,x19,x20] G16) ->   R15 [x3,x4,x5,x6] G14)) -> R1 [x3,x4,x5,x6,x7,x8] G2) -> R1 [v,.int .i64 (L.length:Int),tu,.int .i64 20,.int .i64 (X.length:Int),.int .i64 ((X.length + 20:Nat):Int)] G':=by
  intro c X T0 G' h20 hX hb hst sp R hR
  have hL:=hst.length
  rw [List.length_append] at hL
  refine hR _ _ _ _ _ _ _ ?_
  rw [jl,aa,decide_eq_false (by omega),aM]
  refine Aw.use (X:=X) (S:=T0) (Y:=[]) (fun p hp=>okS hst p (by simpa using hp)) (by simp only [List.length_append,List.length_nil]; omega) rfl (by omega) (by simpa using sp) fun S' G1 q1 q2 sp1=>?_
  have lS:=q1.length
  have hM:Blk 20 (X ++ S'):=sg hb hX (by omega) q2
  have hMst:ga (X ++ S') L:=(ga.append (ga.refl X) q1).trans hst
  have sp1:Sp F0 G0 (bj 35 v ((X ++ S').map ba.av) :: ps) G1:=by simpa using sp1
  intro R15 hR15
  have outer:∀ (n bs:Nat) (M:List ba) (G':ah),L.length - bs ≤ n -> 1 ≤ bs -> bs ≤ 2097152 -> Blk bs M -> ga M L -> Sp F0 G0 (bj 35 v (M.map ba.av) :: ps) G' -> R15 [v,.int .i64 (L.length:Int),tu,.int .i64 (bs:Int)] G':=by
   intro n
   induction n with
   | zero=>
    intro bs M G' hn h1 h2 hb hst sp
    refine hR15 _ _ _ _ _ ?_
    rw [aH,aa,decide_eq_false (by omega),aM]
    exact hQ M G' hst (B5 hb (by rw [hst.length]; omega)) sp
   | succ n ihn=>
    intro bs M G' hn h1 h2 hb hst sp
    have hML:=hst.length
    by_cases hbl:L.length ≤ bs
    ·exact ihn bs M G' (by omega) h1 h2 hb hst sp
    ·refine hR15 _ _ _ _ _ ?_
     rw [aH,aa,decide_eq_true (by omega),aX]
     rw [jL,i64_in (by omega) (by omega),aa]
     intro R23 hR23
     have inner:∀ (k c:Nat) (X T0:List ba) (G':ah),T0.length ≤ k -> X.length = c * (2 * bs) -> Blk (2 * bs) X -> Blk bs T0 -> ga (X ++ T0) L -> Sp F0 G0 (bj 35 v ((X ++ T0).map ba.av) :: ps) G' ->
       R23 [v,.int .i64 (L.length:Int),tu,.int .i64 (bs:Int),.int .i64 (X.length:Int),.int .i64 ((X.length + 2 * bs:Nat):Int)] G':=by
      intro k
      have fin:∀ (c:Nat) (X T0:List ba) (G':ah),T0.length < 2 * bs -> X.length = c * (2 * bs) -> Blk (2 * bs) X -> Blk bs T0 -> ga (X ++ T0) L -> Sp F0 G0 (bj 35 v ((X ++ T0).map ba.av) :: ps) G' ->
        R23 [v,.int .i64 (L.length:Int),tu,.int .i64 (bs:Int),.int .i64 (X.length:Int),.int .i64 ((X.length + 2 * bs:Nat):Int)] G':=by
       intro c X T0 G' hlt hX hbX hbT hst sp
       have hL:=hst.length
       rw [List.length_append] at hL
       refine hR23 _ _ _ _ _ _ _ ?_
       rw [jl,aa,decide_eq_false (by omega),aM]
       rw [bf,i64_in (by omega) (by omega),aa,aH,aa,aE]
       refine ⟨fun hlt2=>?_,fun hge=>?_⟩
       ·obtain ⟨P,hP⟩:∃ x,x = T0.take bs:=⟨_,rfl⟩
        obtain ⟨T1,hT1⟩:∃ x,x = T0.drop bs:=⟨_,rfl⟩
        have hT:T0 = P ++ T1:=by rw [hP,hT1,List.take_append_drop]
        have lP:P.length = bs:=by rw [hP,List.length_take]; omega
        have lT1:T1.length = T0.length - bs:=by rw [hT1,List.length_drop]
        rw [hT] at sp hst hbT
        obtain ⟨sP,bT1⟩:=wz hbT lP
        refine CH.use (P.length + T1.length) (X:=X) (A:=P) (B:=T1) (Y:=[]) (Nat.le_refl _) (fun p hp=>okS hst p (by simpa using hp)) (by simp only [List.length_append,List.length_nil]; omega) (fun e=>by rw [e] at lP; simp at lP; omega) (fun e=>by rw [e] at lT1; simp at lT1; omega) sP (B5 bT1 (by omega)) rfl (by omega) (by omega) (by simpa using sp) fun S G1 q1 q2 sp1=>?_
        have lS:=q1.length
        rw [List.length_append] at lS
        rw [jL,i64_in (by omega) (by omega),aa]
        have:=ihn (2 * bs) (X ++ S) G1 (by omega) (by omega) (by omega) (sg hbX hX (by omega) q2) ((ga.append (ga.refl X) q1).trans hst) (by simpa using sp1)
        have e:((2 * bs:Nat):Int) = (bs:Int) * 2:=by omega
        rw [e] at this
        exact this
       ·rw [jL,i64_in (by omega) (by omega),aa]
        have:=ihn (2 * bs) (X ++ T0) G' (by omega) (by omega) (by omega) (sg hbX hX (by omega) (B5 hbT (by omega))) hst sp
        have e:((2 * bs:Nat):Int) = (bs:Int) * 2:=by omega
        rw [e] at this
        exact this
      induction k with
      | zero=>
       intro c X T0 G' hk
       exact fin c X T0 G' (by omega)
      | succ k ihk=>
       intro c X T0 G' hk hX hbX hbT hst sp
       by_cases hlt:T0.length < 2 * bs
       ·exact fin c X T0 G' hlt hX hbX hbT hst sp
       ·have hL:=hst.length
        rw [List.length_append] at hL
        refine hR23 _ _ _ _ _ _ _ ?_
        rw [jl,aa,decide_eq_true (by omega),aX]
        rw [bf,i64_in (by omega) (by omega),aa]
        obtain ⟨P,hP⟩:∃ x,x = T0.take bs:=⟨_,rfl⟩
        obtain ⟨T1,hT1⟩:∃ x,x = (T0.drop bs).take bs:=⟨_,rfl⟩
        obtain ⟨T2,hT2⟩:∃ x,x = (T0.drop bs).drop bs:=⟨_,rfl⟩
        have hT:T0 = P ++ (T1 ++ T2):=by rw [hT1,hT2,List.take_append_drop,hP,List.take_append_drop]
        have lP:P.length = bs:=by rw [hP,List.length_take]; omega
        have lT1:T1.length = bs:=by rw [hT1,List.length_take,List.length_drop]; omega
        have lT2:T2.length = T0.length - bs - bs:=by rw [hT2,List.length_drop,List.length_drop]
        rw [hT] at sp hst hbT
        obtain ⟨sP,bT1⟩:=wz hbT lP
        obtain ⟨sT1,bT2⟩:=wz bT1 lT1
        refine CH.use (P.length + T1.length) (X:=X) (A:=P) (B:=T1) (Y:=T2) (Nat.le_refl _) (fun p hp=>okS hst p (by simpa using hp)) (by simp only [List.length_append]; omega) (fun e=>by rw [e] at lP; simp at lP; omega) (fun e=>by rw [e] at lT1; simp at lT1; omega) sP sT1 rfl (by omega) (by omega) (by simpa using sp) fun S G1 q1 q2 sp1=>?_
        have lS:=q1.length
        rw [List.length_append] at lS
        rw [jL,i64_in (by omega) (by omega),aa]
        rw [bf,i64_in (by omega) (by omega),aa]
        have e1:(X ++ S).length = X.length + 2 * bs:=by rw [List.length_append]; omega
        have:=ihk (c + 1) (X ++ S) T2 G1 (by omega) (by rw [e1,hX,Nat.add_mul]; omega) (sg hbX hX (by omega) q2) bT2 (by
         refine ga.trans ?_ hst
         have:=ga.append (ga.refl X) (ga.append q1 (ga.refl T2))
         simpa using this) (by simpa using sp1)
        rw [e1] at this
        have e2:((X.length + 2 * bs:Nat):Int) + 2 * (bs:Int) = ((X.length + 2 * bs + 2 * bs:Nat):Int):=by omega
        rw [e2]
        exact this
     have:=inner M.length 0 [] M G' (Nat.le_refl _) (by simp) (FT _) hb (by simpa using hst) (by simpa using sp)
     have e:(2 * (bs:Int)) = ((([]:List ba).length + 2 * bs:Nat):Int):=by simp
     rw [e]
     exact this
  exact outer L.length 20 (X ++ S') G1 (by omega) (by decide) (by decide) hM hMst sp1
 intro R hR
 have loop:∀ (n c:Nat) (X T0:List ba) (G':ah),T0.length ≤ n -> X.length = c * 20 -> Blk 20 X -> ga (X ++ T0) L -> Sp F0 G0 (bj 35 v ((X ++ T0).map ba.av) :: ps) G' ->
   R [v,.int .i64 (L.length:Int),tu,.int .i64 20,.int .i64 (X.length:Int),.int .i64 ((X.length + 20:Nat):Int)] G':=by
  intro n
  induction n with
  | zero=>
   intro c X T0 G' hn hX hb hst sp
   exact last c X T0 G' (by omega) hX hb hst sp R hR
  | succ n ih=>
   intro c X T0 G' hn hX hb hst sp
   have hL:=hst.length
   rw [List.length_append] at hL
   by_cases h20:20 ≤ T0.length
   ·refine hR _ _ _ _ _ _ _ ?_
    rw [jl,aa,decide_eq_true (by omega),aX]
    obtain ⟨P,hP⟩:∃ x,x = T0.take 20:=⟨_,rfl⟩
    obtain ⟨T1,hT1⟩:∃ x,x = T0.drop 20:=⟨_,rfl⟩
    have hT:T0 = P ++ T1:=by rw [hP,hT1,List.take_append_drop]
    have lP:P.length = 20:=by rw [hP,List.length_take]; omega
    have lT1:T1.length = T0.length - 20:=by rw [hT1,List.length_drop]
    rw [hT] at sp hst
    refine Aw.use (X:=X) (S:=P) (Y:=T1) (fun p hp=>okS hst p (by simpa using hp)) (by simp only [List.length_append]; omega) rfl (by rw [lP]) (by simpa using sp) fun S' G1 q1 q2 sp1=>?_
    rw [bf,i64_in (by omega) (by omega),aa]
    have lS:=q1.length
    have e1:(X ++ S').length = X.length + 20:=by rw [List.length_append,lS,lP]
    have:=ih (c + 1) (X ++ S') T1 G1 (by omega) (by rw [e1,hX]; omega) (sg hb hX (by omega) q2) (by
     refine ga.trans ?_ hst
     have:=ga.append (ga.refl X) (ga.append q1 (ga.refl T1))
     simpa using this) sp1
    rw [e1] at this
    exact this
   ·exact last c X T0 G' (by omega) hX hb hst sp R hR
 have:=loop L.length 0 [] L G (Nat.le_refl _) (by simp) (FT 20) (ga.refl _) (by simpa using hs)
 simpa using this
theorem D8.use {v:ag} {L:List ba} (hok:∀ p ∈ L,p.ok) (hlen:L.length ≤ 1048576) (hs:Sp F0 G0 (bj 35 v (L.map ba.av) :: ps) G)
  (hQ:∀ G',Sp F0 G0 (bj 35 v ((jO L).map ba.av) :: ps) G' -> Q (.tuple []) G') :
  al P aN.n [v,tu] G Q:=by
 refine aN.sound ?_
 unfold aN.S
 refine ae (v:=.int .i64 (L.length:Nat)) ?_ ?_
 ·rw [(bj.own (i:=0) hs rfl).is.len (i:=bU) cq rfl,List.length_map]
 refine KC.use hok hlen hs fun S G' q1 q2 sp=>?_
 rw [Jx q1 q2] at sp
 exact hQ G' sp
end
end Go.Esc.M
set_option linter.unusedSimpArgs false
set_option linter.unusedVariables false
set_option maxRecDepth 20000
namespace Go.Esc.M
open Go Go.Esc
def stays (r:List aK) (u:aK):Bool:=decide (u.kind = 1) && !decide (je u.id r = 3)
def jF (r:List aK) (u:aK):Bool:=decide (u.kind = 1) && decide (je u.id r = 2)
def opens (r:List aK) (u:aK):Bool:=stays r u && !decide (je u.id r = 2)
def gm (f:aK -> Bool) (l:List aK):Int:=((l.filter f).map (·.amount)).sum
def CS (mine:Bool) (u:aK):ba:=⟨mine,u.id,u.amount,u.hash⟩
def hJ (mine:Bool) (f:aK -> Bool) (l:List aK):List ba:=(l.filter f).map (CS mine)
theorem oX {f:aK -> Bool} {l:List aK} {j:Nat} {u:aK} (h:l[j]? = some u):gm f (l.take (j + 1)) = gm f (l.take j) + if f u = true then u.amount else 0:=by
 unfold gm
 rw [List.take_add_one,h,List.filter_append,List.map_append,List.sum_append]
 congr 1
 simp only [Option.toList_some,List.filter_cons,List.filter_nil]
 split <;> simp
theorem yK {mine:Bool} {f:aK -> Bool} {l:List aK} {j:Nat} {u:aK} (h:l[j]? = some u):hJ mine f (l.take (j + 1)) = hJ mine f (l.take j) ++ if f u = true then [CS mine u] else []:=by
 unfold hJ
 rw [List.take_add_one,h,List.filter_append,List.map_append]
 congr 1
 simp only [Option.toList_some,List.filter_cons,List.filter_nil]
 split <;> simp
theorem qn (mine:Bool) (f:aK -> Bool) (l:List aK):(hJ mine f l).length ≤ l.length:=by
 unfold hJ
 rw [List.length_map]
 exact List.length_filter_le _ _
theorem uJ {mine:Bool} {u:aK} (h:u.ok):(CS mine u).ok:=⟨h.id,h.amount,h.hash⟩
theorem qm {mine:Bool} {f:aK -> Bool} {l:List aK} (h:∀ u ∈ l,u.ok):∀ p ∈ hJ mine f l,p.ok:=by
 intro p hp
 obtain ⟨u,hu,rfl⟩:=List.mem_map.1 hp
 exact uJ (h u (List.mem_filter.1 hu).1)
section
variable {F0:List AId} {G0 G:ah} {ps:List LP} {Q:ag -> ah -> Prop}
set_option maxHeartbeats 4000000 in
theorem gD.use {n:Nat} {v:ag} {l r:List aK} {mid:AId} {es:List (Int × Int)} {mine:Bool} {u1 l1 u2 l2:Int} (hl:fV 36 G v (l.map aK.av)) (hok:∀ u ∈ l,u.ok) (hval:∀ u ∈ l,dC u = true) (hlen:l.length ≤ 1048576) (hm:G mid = some (.map (oR es))) (hes:∀ id,oO es id = Ek (je id r)) (hw1:Wd n u1 l1) (hw2:Wd n u2 l2) (hn:n ≤ 16777216)
  (hQ:∀ a b c d w G',Wd (n + l.length) a b -> Wd (n + l.length) c d -> om a b = om u1 l1 - gm (stays r) l -> om c d = om u2 l2 + gm (jF r) l -> Sp [] G [bj 35 w ((jO (hJ mine (opens r) l)).map ba.av)] G' -> Q (.tuple [bR a b,bR c d,w]) G') :
  al P gD.n [v,.map mid,.bool mine,bR u1 l1,bR u2 l2] G Q:=by
 refine gD.sound ?_
 unfold gD.S
 rw [E0]
 intro i1 f1
 have s1:=(Sp.nil G).row f1 (bR u1 l1)
 intro i3 f3
 have s3:=s1.row f3 (bR u2 l2)
 intro i5 f5
 have s5:=s3.row f5 (bR 0 0)
 intro i7 f7
 have s7:=s5.row f7 (bR 0 0)
 refine ae (fy (hl.ch' s7.ch)) ?_
 intro R hR
 have loop:∀ (k j:Nat) (a b c d:Int) (w:ag) (G':ah),l.length - j = k -> j ≤ l.length -> Wd (n + j) a b -> Wd (n + j) c d -> om a b = om u1 l1 - gm (stays r) (l.take j) -> om c d = om u2 l2 + gm (jF r) (l.take j) ->
   Sp [] G [bj 35 w ((hJ mine (opens r) (l.take j)).map ba.av),ar i7 (bR 0 0),ar i5 (bR 0 0),ar i3 (bR c d),ar i1 (bR a b)] G' ->
   R [.map mid,.bool mine,.ptr i1 [] 0,.ptr i3 [] 0,.ptr i5 [] 0,.ptr i7 [] 0,w,v,.int .i64 (l.length:Int),.int .i64 (j:Int)] G':=by
  intro k
  induction k with
  | zero=>
   intro j a b c d w G' hk hj w1 w2 t1 t2 sp
   have hjl:j = l.length:=by omega
   subst hjl
   rw [List.take_length] at t1 t2 sp
   refine hR _ _ _ _ _ _ _ _ _ _ _ ?_
   rw [aH,aa,decide_eq_false (by omega),aM]
   have hpl:=qn mine (opens r) l
   refine D8.use (qm hok) (by omega) sp fun G64 s64=>?_
   refine ae (dD (ar.own (i:=4) s64 rfl) fG rfl).2.2 ?_
   refine ae (dD (ar.own (i:=3) s64 rfl) fG rfl).2.2 ?_
   refine kN (i:=2) s64 rfl fun G67 s67=>?_
   refine ⟨⟨(dD (ar.own (i:=3) s67 rfl) fG rfl).2.2,trivial⟩,?_⟩
   refine kN (i:=1) s67 rfl fun G68 s68=>?_
   refine ae (dD (ar.own (i:=2) s68 rfl) fG rfl).2.2 ?_
   refine ae (dD (ar.own (i:=1) s68 rfl) fG rfl).2.2 ?_
   exact hQ _ _ _ _ _ _ w1 w2 t1 t2 ((((s68.erase 1).erase 1).erase 1).erase 1)
  | succ k ih=>
   intro j a b c d w G' hk hj w1 w2 t1 t2 sp
   obtain ⟨u,hu⟩:∃ u,l[j]? = some u:=⟨_,List.getElem?_eq_getElem (by omega)⟩
   have huo:=hok u (List.mem_of_getElem? hu)
   have huv:=hval u (List.mem_of_getElem? hu)
   have n1:=oX (f:=stays r) hu
   have n2:=oX (f:=jF r) hu
   have n3:=yK (mine:=mine) (f:=opens r) hu
   refine hR _ _ _ _ _ _ _ _ _ _ _ ?_
   rw [aH,aa,decide_eq_true (by omega),aX]
   have ev:aw T .add au (.int .i64 (j:Int)) (.int .i64 1) = some (.int .i64 ((j + 1:Nat):Int)):=by
    rw [bf,i64_in (by omega) (by omega)]
    rfl
   have wmono:∀ {x y:Int},Wd (n + j) x y -> Wd (n + (j + 1)) x y:=fun h=>⟨by have:=h.u1; omega,by have:=h.u2; omega,by have:=h.l1; omega,by have:=h.l2; omega⟩
   intro J62
   obtain ⟨p,e1,e2⟩:=oF (hl.ch' sp.ch) hu
   refine ae e1 ?_
   refine ae e2 ?_
   refine C3 sp huo fun i25 G27 s27=>?_
   intro J58
   have look:∀ {G2:ah},Ch [] G [] G2 -> ja T G2 ju (.map mid) (.int .i64 u.id) false = some (.int .i64 (je u.id r)):=fun hc=>by
    rw [HU (KQ hc hm),hes]
    congr 2
    unfold Ek
    split
    ·rename_i h; rw [h]; rfl
    ·rfl
   have skip:∀ G33,Sp [] G [ar i25 u.av,bj 35 w ((hJ mine (opens r) (l.take j)).map ba.av),ar i7 (bR 0 0),ar i5 (bR 0 0),ar i3 (bR c d),ar i1 (bR a b)] G33 -> stays r u = false -> J58 (.bool true) G33:=by
    intro G33 s33 hst
    simp -zeta only [J58,aX,J62]
    have hp:jF r u = false:=by
     unfold stays at hst; unfold jF
     by_cases hk:u.kind = 1
     ·rw [decide_eq_true hk,Bool.true_and] at hst ⊢
      have h3:je u.id r = 3:=by simpa using hst
      rw [h3]; rfl
     ·rw [decide_eq_false hk]; rfl
    have ho:opens r u = false:=by unfold opens; rw [hst]; rfl
    rw [hst] at n1; rw [hp] at n2; rw [ho] at n3
    refine ae ev (ih (j + 1) a b c d w G33 (by omega) (by omega) (wmono w1) (wmono w2) (by rw [t1,n1]; simp) (by rw [t2,n2]; simp) ?_)
    rw [n3]
    simpa using s33.erase 0
   have take:∀ G33,Sp [] G [ar i25 u.av,bj 35 w ((hJ mine (opens r) (l.take j)).map ba.av),ar i7 (bR 0 0),ar i5 (bR 0 0),ar i3 (bR c d),ar i1 (bR a b)] G33 -> u.kind = 1 -> ¬ je u.id r = 3 -> J58 (.bool false) G33:=by
    intro G33 s33 hk h3
    simp -zeta only [J58,aM]
    have hst:stays r u = true:=by simp [stays,hk,h3]
    rw [hst] at n1
    have ham:amt u.amount:=by
     have:=(kO huv).2.2
     constructor <;> omega
    refine ae (dD (ar.own (i:=5) s33 rfl) fG rfl).2.2 ?_
    refine ae (dh (i:=0) s33 rfl huo).2.2.1 ?_
    refine dR.use w1 (by omega) ham fun a' b' G38 c38 wd ht=>?_
    have s38:=s33.tmp c38
    refine kN (i:=5) s38 rfl fun G39 s39=>?_
    obtain ⟨q0,q1,q2,q3,q4,q5⟩:=dh (i:=0) s39 rfl huo
    refine ae q1 ?_
    refine ae (look s39.ch) ?_
    have ht1:om a' b' = om u1 l1 - gm (stays r) (l.take (j + 1)):=by rw [ht,t1,n1]; simp; omega
    rw [bC,aa,aE]
    refine ⟨fun h2=>?_,fun h2=>?_⟩
    ·have hp:jF r u = true:=by simp [jF,hk,h2]
     have ho:opens r u = false:=by simp [opens,h2]
     rw [hp] at n2; rw [ho] at n3
     refine ae (dD (ar.own (i:=4) s39 rfl) fG rfl).2.2 ?_
     refine ae q2 ?_
     refine cR.use w2 (by omega) ham fun c' d' G46 c46 wd2 ht2=>?_
     have s46:=s39.tmp c46
     refine kN (i:=4) s46 rfl fun G47 s47=>?_
     simp -zeta only [J62]
     refine ae ev (ih (j + 1) a' b' c' d' w G47 (by omega) (by omega) wd wd2 ht1 (by rw [ht2,t2,n2]; simp; omega) ?_)
     rw [n3]
     simpa using s47.erase 0
    ·have hp:jF r u = false:=by simp [jF,h2]
     have ho:opens r u = true:=by simp [opens,hst,h2]
     rw [hp] at n2; rw [ho] at n3
     refine ae q1 ?_
     refine ae q2 ?_
     refine ae q3 ?_
     refine ae (AP (p:=CS mine u) (uJ huo)) ?_
     have hal:=qn mine (opens r) (l.take j)
     rw [List.length_take] at hal
     have hb:eB.bytes = 56:=rfl
     refine uY (T:=T) (ts:=aq) (e:=aU) (si:=bU) (ie:=eB) (i:=1) (c:=(CS mine u).av) cq rfl fk rfl (by decide) s39 rfl (ba.sz (uJ huo)) (ba.okv _) (by decide) ?_ fun w' G55 s55=>?_
     ·rw [hb,List.length_map]; omega
     simp -zeta only [J62]
     refine ae ev (ih (j + 1) a' b' c d w' G55 (by omega) (by omega) wd (wmono w2) ht1 (by rw [t2,n2]; simp) ?_)
     rw [n3]
     have s:Sp [] G [bj 35 w' ((hJ mine (opens r) (l.take j)).map ba.av ++ [(CS mine u).av]),ar i7 (bR 0 0),ar i5 (bR 0 0),ar i3 (bR c d),ar i1 (bR a' b')] G55:=s55.erase 0
     simpa using s
   obtain ⟨q0,q1,q2,q3,q4,q5⟩:=dh (i:=0) s27 rfl huo
   refine ae q0 ?_
   rw [dy,aa]
   by_cases hk1:u.kind = 1
   ·rw [decide_eq_true hk1,Bool.not_true,aM]
    refine ae q1 ?_
    refine ae (look s27.ch) ?_
    rw [bC,aa]
    by_cases h3:je u.id r = 3
    ·rw [decide_eq_true h3]
     exact skip _ s27 (by simp [stays,h3])
    ·rw [decide_eq_false h3]
     exact take _ s27 hk1 h3
   ·rw [decide_eq_false hk1,Bool.not_false,aX]
    exact skip _ s27 (by simp [stays,hk1])
 exact loop l.length 0 u1 l1 u2 l2 .nilSlice _ rfl (by omega) hw1 hw2 (by simp [gm]) (by simp [gm]) (s7.nd 35)
end
end Go.Esc.M
set_option linter.unusedSimpArgs false
set_option linter.unusedVariables false
set_option maxRecDepth 20000
namespace Go.Esc.M
open Go Go.Esc
def lL (l:List aK):Bool:=l.all dC
theorem AX {l:List aK} {j:Nat} {u:aK} (hu:l[j]? = some u) (h:∀ x ∈ l.take j,dC x = true) (hv:dC u = true):∀ x ∈ l.take (j + 1),dC x = true:=by
 intro x hx
 rw [List.take_add_one,hu] at hx
 rcases List.mem_append.1 hx with hx | hx
 ·exact h x hx
 ·have:x = u:=by simpa using hx
  rw [this]; exact hv
theorem FW {l:List aK} {j:Nat} {u:aK} (hu:l[j]? = some u) (hv:dC u = false):lL l = false:=by
 refine Bool.eq_false_iff.2 fun h=>?_
 have:=List.all_eq_true.1 h u (List.mem_of_getElem? hu)
 rw [hv] at this
 cases this
section
variable {F0:List AId} {G0 G:ah} {ps:List LP} {Q:ag -> ah -> Prop}
theorem fq.use {u:aK} (h:u.ok) (hQ:∀ G',Ch [] G [] G' -> Q (.bool (!dC u)) G'):al P fq.n [u.av] G Q:=by
 refine fq.sound ?_
 unfold fq.S
 intro i1 f1
 have s1:=(Sp.nil G).row f1 u.av
 refine ae (dh (i:=0) s1 rfl h).2.2.2.2.2 ?_
 refine fX.use h fun G5 c5=>?_
 have s5:=s1.tmp c5
 rw [fN,aa]
 exact hQ _ s5.ch
def Lj:ag:=.func (.func fq.n) [] []
theorem contains.use {v:ag} {l:List aK} (hl:fV 36 G v (l.map aK.av)) (hok:∀ u ∈ l,u.ok) (hlen:l.length ≤ 1048576) (hQ:∀ G',Ch [] G [] G' -> Q (.bool (!lL l)) G'):al P aO.n [v,Lj] G Q:=by
 refine aO.sound ?_
 unfold aO.S
 refine aZ.sound ?_
 unfold aZ.S
 refine ae (fy hl) ?_
 intro R hR
 have loop:∀ (m j:Nat) (G':ah),l.length - j = m -> j ≤ l.length -> (∀ x ∈ l.take j,dC x = true) -> Ch [] G [] G' -> R [v,Lj,.int .i64 (l.length:Int),.int .i64 (j:Int)] G':=by
  intro m
  induction m with
  | zero=>
   intro j G' hm hj h0 hc
   refine hR _ _ _ _ _ ?_
   rw [aH,aa,decide_eq_false (by omega),aM]
   rw [List.take_of_length_le (by omega)] at h0
   have:lL l = true:=List.all_eq_true.2 h0
   rw [this] at hQ
   refine ae (v:=.bool false) rfl ?_
   exact hQ _ hc
  | succ m ih=>
   intro j G' hm hj h0 hc
   obtain ⟨u,hu⟩:∃ u,l[j]? = some u:=⟨_,List.getElem?_eq_getElem (by omega)⟩
   have huo:=hok u (List.mem_of_getElem? hu)
   refine hR _ _ _ _ _ ?_
   rw [aH,aa,decide_eq_true (by omega),aX]
   obtain ⟨a,e1,e2⟩:=oF (hl.ch' hc) hu
   refine ae e1 ?_
   refine ae e2 ?_
   refine fq.use huo fun G12 c12=>?_
   have c12:Ch [] G [] G12:=hc.trans c12
   cases hv:dC u with
   | true=>
    rw [Bool.not_true,aM,bf,i64_in (by omega) (by omega),aa]
    exact ih (j + 1) G12 (by omega) (by omega) (AX hu h0 hv) c12
   | false=>
    rw [Bool.not_false,aX]
    rw [FW hu hv] at hQ
    refine ae (v:=.bool true) (by rw [gq,decide_eq_true (by omega)]) ?_
    exact hQ _ c12
 exact loop l.length 0 G rfl (by omega) (by simp) (Ch.refl _ _)
theorem db.use {v:ag} {l:List aK} (hl:fV 36 G v (l.map aK.av)) (hok:∀ u ∈ l,u.ok) (hlen:l.length ≤ 1048576) (hQ:∀ G',Ch [] G [] G' -> Q (.bool (lL l)) G'):al P db.n [v] G Q:=by
 refine db.sound ?_
 unfold db.S
 intro R hR
 have loop:∀ (m j:Nat) (G':ah),l.length - j = m -> j ≤ l.length -> (∀ x ∈ l.take j,dC x = true) -> Ch [] G [] G' -> R [v,.int .i64 (j:Int)] G':=by
  intro m
  induction m with
  | zero=>
   intro j G' hm hj h0 hc
   refine hR _ _ _ ?_
   refine ae (fy (hl.ch' hc)) ?_
   rw [aH,aa,decide_eq_false (by omega),aM]
   rw [List.take_of_length_le (by omega)] at h0
   have:lL l = true:=List.all_eq_true.2 h0
   rw [this] at hQ
   exact hQ _ hc
  | succ m ih=>
   intro j G' hm hj h0 hc
   obtain ⟨u,hu⟩:∃ u,l[j]? = some u:=⟨_,List.getElem?_eq_getElem (by omega)⟩
   have huo:=hok u (List.mem_of_getElem? hu)
   refine hR _ _ _ ?_
   refine ae (fy (hl.ch' hc)) ?_
   rw [aH,aa,decide_eq_true (by omega),aX]
   obtain ⟨a,e1,e2⟩:=oF (hl.ch' hc) hu
   refine ae e1 ?_
   refine ae e2 ?_
   refine cy.use huo fun G12 c12=>?_
   have c12:Ch [] G [] G12:=hc.trans c12
   rw [fN,aa]
   cases hv:dC u with
   | true=>
    rw [Bool.not_true,aM,bf,i64_in (by omega) (by omega),aa]
    exact ih (j + 1) G12 (by omega) (by omega) (AX hu h0 hv) c12
   | false=>
    rw [Bool.not_false,aX]
    rw [FW hu hv] at hQ
    exact hQ _ c12
 exact loop l.length 0 G rfl (by omega) (by simp) (Ch.refl _ _)
end
end Go.Esc.M
set_option linter.unusedSimpArgs false
set_option linter.unusedVariables false
set_option maxRecDepth 20000
namespace Go.Esc.M
open Go Go.Esc
section
variable {F0:List AId} {G0 G:ah} {ps:List LP} {Q:ag -> ah -> Prop}
end
end Go.Esc.M
set_option linter.unusedSimpArgs false
set_option linter.unusedVariables false
set_option maxRecDepth 20000
namespace Go.Esc.M
open Go Go.Esc
theorem rX (p:ba):∀ {a:List ba} (b:List ba),(∀ q ∈ a,¬ p.id < q.id) -> gX (a ++ b) p = a ++ gX b p
 | [],b,_=>rfl
 | q :: a,b,h=>by
  have hq:=h q (by simp)
  rw [List.cons_append,List.cons_append,gX,if_neg hq,rX p b fun x hx=>h x (by simp [hx])]
theorem wQ (p:ba):∀ {a:List ba} (b:List ba),(∃ q ∈ a,p.id < q.id) -> gX (a ++ b) p = gX a p ++ b
 | [],b,h=>by obtain ⟨q,hq,_⟩:=h; cases hq
 | q :: a,b,h=>by
  by_cases hq:p.id < q.id
  ·rw [List.cons_append,gX,if_pos hq,gX,if_pos hq]; rfl
  ·have:∃ x ∈ a,p.id < x.id:=by
    obtain ⟨x,hx,hlt⟩:=h
    rcases List.mem_cons.1 hx with rfl | hx
    ·exact absurd hlt hq
    ·exact ⟨x,hx,hlt⟩
   rw [List.cons_append,gX,if_neg hq,gX,if_neg hq,wQ p b this]; rfl
theorem Ej (p:ba) {a:List ba} (h:∀ q ∈ a,¬ p.id < q.id):gX a p = a ++ [p]:=by
 have:=rX p [] h
 rw [List.append_nil] at this
 exact this
theorem yJ (p:ba):∀ a:List ba,(gX a p).length = a.length + 1
 | []=>rfl
 | x :: a=>by
  rw [gX]
  split
  ·rfl
  ·rw [List.length_cons,yJ p a,List.length_cons]
section
variable {F0:List AId} {G0 G:ah} {ps:List LP} {Q:ag -> ah -> Prop}
theorem H0 {v:ag} {l:List ba} {j:Nat} {p:ba} {x:Int} (h:fV 35 G v (l.map ba.av)) (hx:x = (j:Int)) (hj:l[j]? = some p):∃ a b,aL T aq v (.int .i64 x) = some a /\ bx T aU a 1 = some b /\ af T G ai b = some (.int .i64 p.id):=by
 subst hx
 exact fV.fld (k:=.i64) (cs:=[.bool p.ours,.int .i64 p.id,.int .i64 p.amount,.agg (p.hash.map u8v)]) (i:=bU) (ie:=eB) cq rfl fk (fs:=[(ey,0),(ai,1),(ai,2),(aj,3)]) (f:=1) (o:=1) rfl rfl cA (by decide) h (by rw [List.getElem?_map,hj]; rfl) rfl rfl rfl
theorem uX {i:Nat} {v:ag} {l:List ba} {p:ba} {K:ag -> ah -> Prop} (hs:Sp F0 G0 ps G) (hi:ps[i]? = some (bj 35 v (l.map ba.av))) (ho:p.ok) (hl:l.length ≤ 2097152) (hK:∀ v' G',Sp F0 G0 (ps.set i (bj 35 v' ((l ++ [p]).map ba.av))) G' -> K v' G') :
  bh T aq 1 [(0,p.av)] G fun w G'=>cc T G' aq aq v w K:=by
 have hb:eB.bytes = 56:=rfl
 refine uY (ie:=eB) cq rfl fk rfl (by decide) hs hi (ba.sz ho) (ba.okv p) (by decide) (by rw [hb,List.length_map]; omega) fun s' G' h=>hK s' G' ?_
 rw [List.map_append]
 exact h
set_option maxHeartbeats 1000000 in
theorem dt.use {v:ag} {l:List ba} {p:ba} (hl:fV 35 G v (l.map ba.av)) (hok:∀ q ∈ l,q.ok) (hp:p.ok) (hlen:l.length ≤ 1048576) (hQ:∀ w G',Sp [] G [bj 35 w ((gX l p).map ba.av)] G' -> Q w G'):al P dt.n [v,p.av] G Q:=by
 refine dt.sound ?_
 unfold dt.S
 intro i1 f1
 have s1:=(Sp.nil G).row f1 p.av
 intro R hR
 have loop:∀ (m j:Nat) (w:ag) (dn:Bool) (out:List ba) (G':ah),l.length - j = m -> j ≤ l.length -> (dn = false -> out = l.take j /\ ∀ q ∈ l.take j,¬ p.id < q.id) -> (dn = true -> out = gX (l.take j) p /\ ∃ q ∈ l.take j,p.id < q.id) -> Sp [] G [bj 35 w (out.map ba.av),ar i1 p.av] G' ->
   R [v,.ptr i1 [] 0,w,.bool dn,.int .i64 (j:Int)] G':=by
  intro m
  induction m with
  | zero=>
   intro j w dn out G' hm hj h0 h1 sp
   refine hR _ _ _ _ _ _ ?_
   have hll:gF T G' aq v = some (.int .i64 (l.length:Nat)):=by rw [(hl.ch' sp.ch).len (i:=bU) cq rfl,List.length_map]
   refine ae hll ?_
   rw [aH,aa,decide_eq_false (by omega),aM,fN,aa]
   rw [List.take_of_length_le (by omega)] at h0 h1
   cases dn with
   | false=>
    obtain ⟨rfl,h0⟩:=h0 rfl
    rw [Bool.not_false,aX]
    refine ae (cJ fk (ar.own (i:=1) sp rfl) (ba.fits hp)) ?_
    refine uX (i:=0) sp rfl hp (by omega) fun w' G59 s59=>?_
    have s:=s59.erase 1
    rw [<- Ej p h0] at s
    exact hQ _ _ s
   | true=>
    obtain ⟨rfl,_⟩:=h1 rfl
    rw [Bool.not_true,aM]
    exact hQ _ _ (sp.erase 1)
  | succ m ih=>
   intro j w dn out G' hm hj h0 h1 sp
   obtain ⟨x,hx⟩:∃ x,l[j]? = some x:=⟨_,List.getElem?_eq_getElem (by omega)⟩
   have hxo:=hok x (List.mem_of_getElem? hx)
   have htk:l.take (j + 1) = l.take j ++ [x]:=by rw [List.take_add_one,hx]; rfl
   refine hR _ _ _ _ _ _ ?_
   have hll:gF T G' aq v = some (.int .i64 (l.length:Nat)):=by rw [(hl.ch' sp.ch).len (i:=bU) cq rfl,List.length_map]
   refine ae hll ?_
   rw [aH,aa,decide_eq_true (by omega),aX]
   have ev:aw T .add au (.int .i64 (j:Int)) (.int .i64 1) = some (.int .i64 ((j + 1:Nat):Int)):=by
    rw [bf,i64_in (by omega) (by omega)]
    rfl
   intro J47
   have hol:out.length ≤ 1048577:=by
    cases dn with
    | false=>rw [(h0 rfl).1,List.length_take]; omega
    | true=>rw [(h1 rfl).1,yJ,List.length_take]; omega
   have p9:(dn = false -> ¬ p.id < x.id) -> J47 (.bool false) G':=by
    intro hk
    simp -zeta only [J47,aM]
    obtain ⟨a,e1,e2⟩:=kX (hl.ch' sp.ch) rfl hx
    refine ae e1 ?_
    refine ae e2 ?_
    refine uX (i:=0) sp rfl hxo (by omega) fun w' G46 s46=>?_
    refine ae ev (ih (j + 1) w' dn (out ++ [x]) G46 (by omega) (by omega) (fun hd=>?_) (fun hd=>?_) s46)
    ·obtain ⟨e,h⟩:=h0 hd
     rw [htk,e]
     refine ⟨rfl,fun q hq=>?_⟩
     rcases List.mem_append.1 hq with hq | hq
     ·exact h q hq
     ·rw [List.mem_singleton.1 hq]; exact hk hd
    ·obtain ⟨e,h⟩:=h1 hd
     rw [htk,e,wQ p [x] h]
     obtain ⟨q,hq,hlt⟩:=h
     exact ⟨rfl,q,by simp [hq],hlt⟩
   rw [fN,aa]
   cases dn with
   | true=>
    rw [Bool.not_true,aM]
    exact p9 (fun h=>by cases h)
   | false=>
    rw [Bool.not_false,aX]
    obtain ⟨a,b,e1,e2,e3⟩:=H0 (hl.ch' sp.ch) rfl hx
    refine ae e1 ?_
    refine ae e2 ?_
    refine ae e3 ?_
    refine ae (v:=.ptr i1 [1] 1) rfl ?_
    refine ae (ba.fld hp (ar.own (i:=1) sp rfl)).2.1 ?_
    rw [de,aa]
    by_cases hlt:x.id > p.id
    ·rw [decide_eq_true hlt]
     simp -zeta only [J47,aX]
     obtain ⟨e,h⟩:=h0 rfl
     refine ae (cJ fk (ar.own (i:=1) sp rfl) (ba.fits hp)) ?_
     refine uX (i:=0) sp rfl hp (by omega) fun w' G25 s25=>?_
     obtain ⟨a,e1,e2⟩:=kX (hl.ch' s25.ch) rfl hx
     refine ae e1 ?_
     refine ae e2 ?_
     refine uX (i:=0) s25 rfl hxo (by rw [List.length_append,List.length_singleton]; omega) fun w2 G40 s40=>?_
     refine ae ev (ih (j + 1) w2 true (out ++ [p] ++ [x]) G40 (by omega) (by omega) (fun hd=>by cases hd) (fun _=>?_) s40)
     rw [htk,rX p [x] h,e,gX,if_pos hlt]
     exact ⟨by simp,x,by simp,hlt⟩
    ·rw [decide_eq_false hlt]
     exact p9 (fun _=>hlt)
 exact loop l.length 0 .nilSlice false [] _ rfl (by omega) (fun _=>⟨rfl,by simp⟩) (fun h=>by cases h) (s1.nd 35)
end
end Go.Esc.M
set_option linter.unusedSimpArgs false
set_option linter.unusedVariables false
set_option maxRecDepth 20000
namespace Go.Esc.M
open Go Go.Esc
theorem vS (id:Int):∀ l:List aK,je id l = 0 \/ je id l = 2 \/ je id l = 3
 | []=>.inl rfl
 | u :: l=>by
  unfold je
  split
  ·rename_i h
   simp only [lr,Bool.and_eq_true,decide_eq_true_eq] at h
   have:=(kO h.2.2).2.2
   omega
  ·exact vS id l
theorem D9 (l:List ba) (p:ba):jO (l ++ [p]) = gX (jO l) p:=by
 unfold jO
 rw [List.foldl_append]
 rfl
theorem vQ (l:List ba):(jO l).length = l.length:=(uA l).1.length
theorem rQ {l:List ba} (h:∀ p ∈ l,p.ok):∀ p ∈ jO l,p.ok:=fun p hp=>h p ((uA l).1.mem.1 hp)
theorem qU {f:aK -> Bool} {l:List aK} (hv:∀ u ∈ l,f u = true -> amt u.amount):0 ≤ gm f l /\ gm f l ≤ (l.length:Int) * 1152921504606846976:=by
 unfold gm
 have h1:=Gh (A:=(l.filter f).map (·.amount)) (fun a ha=>by
  obtain ⟨u,hu,rfl⟩:=List.mem_map.1 ha
  obtain ⟨h1,h2⟩:=List.mem_filter.1 hu
  exact hv u h1 h2)
 have h2:=List.length_filter_le f l
 rw [List.length_map] at h1
 omega
end Go.Esc.M
set_option linter.unusedSimpArgs false
set_option linter.unusedVariables false
set_option maxRecDepth 20000
namespace Go.Esc.M
open Go Go.Esc
section
variable {F0:List AId} {G0 G:ah} {ps:List LP} {Q:ag -> ah -> Prop}
def Ii (t:Int):Prop:=-1298074214633706907132624082305024 ≤ t /\ t ≤ 1298074214633706907132624082305024
set_option maxHeartbeats 4000000 in
theorem dH.use {v w:ag} {l r:List aK} {mine:Bool} {t1 t2:Int} (hl:fV 36 G v (l.map aK.av)) (hr:fV 36 G w (r.map aK.av)) (hok:∀ u ∈ l,u.ok) (hok2:∀ u ∈ r,u.ok) (hval:∀ u ∈ l,dC u = true) (hlen:l.length ≤ 1048576) (hlen2:r.length ≤ 1048576) (ht1:Ii t1) (ht2:Ii t2)
  (hQ:∀ x G',Sp [] G [bj 35 x ((jO (hJ mine (opens r) l)).map ba.av)] G' -> Q (.tuple [wdR (t1 - gm (stays r) l),wdR (t2 + gm (jF r) l),x]) G') :
  al P dH.n [wdR t1,wdR t2,v,w,.bool mine] G Q:=by
 refine dH.sound ?_
 unfold dH.S
 rw [xK]
 intro i1 f1
 have s1:=(Sp.nil G).row f1 (wdR t1)
 intro i3 f3
 have s3:=s1.row f3 (wdR t2)
 intro i5 f5
 have s5:=s3.row f5 (bR 0 0)
 intro i7 f7
 have s7:=s5.row f7 (bR 0 0)
 have ham:∀ u ∈ l,u.kind = 1 -> amt u.amount:=fun u hu hk=>by
  have:=(kO (hval u hu)).2.2
  constructor <;> omega
 have sm:∀ (j:Nat),small (t1 - gm (stays r) (l.take j)) /\ small (t2 + gm (jF r) (l.take j)):=fun j=>by
  obtain ⟨a1,a2⟩:=ht1
  obtain ⟨b1,b2⟩:=ht2
  have hm:∀ u ∈ l.take j,u ∈ l:=fun u hu=>List.mem_of_mem_take hu
  have h1:=qU (f:=stays r) (l:=l.take j) (fun u hu hf=>ham u (hm u hu) (by simp [stays] at hf; exact hf.1))
  have h2:=qU (f:=jF r) (l:=l.take j) (fun u hu hf=>ham u (hm u hu) (by simp [jF] at hf; exact hf.1))
  have h3:(l.take j).length ≤ 1048576:=by rw [List.length_take]; omega
  unfold small
  constructor <;> constructor <;> omega
 intro R hR
 have loop:∀ (k j:Nat) (x:ag) (G':ah),l.length - j = k -> j ≤ l.length ->
   Sp [] G [bj 35 x ((jO (hJ mine (opens r) (l.take j))).map ba.av),ar i7 (bR 0 0),ar i5 (bR 0 0),ar i3 (wdR (t2 + gm (jF r) (l.take j))),ar i1 (wdR (t1 - gm (stays r) (l.take j)))] G' ->
   R [v,w,.bool mine,.ptr i1 [] 0,.ptr i3 [] 0,.ptr i5 [] 0,.ptr i7 [] 0,x,.int .i64 (j:Int)] G':=by
  intro k
  induction k with
  | zero=>
   intro j x G' hk hj sp
   have hjl:j = l.length:=by omega
   subst hjl
   rw [List.take_length] at sp
   refine hR _ _ _ _ _ _ _ _ _ _ ?_
   refine ae (fy (hl.ch' sp.ch)) ?_
   rw [aH,aa,decide_eq_false (by omega),aM]
   refine ae (dD (ar.own (i:=4) sp rfl) b8 rfl).2.2 ?_
   refine ae (dD (ar.own (i:=3) sp rfl) b8 rfl).2.2 ?_
   refine jk (i:=2) sp rfl fun G67 s67=>?_
   refine ⟨⟨(dD (ar.own (i:=3) s67 rfl) b8 rfl).2.2,trivial⟩,?_⟩
   refine jk (i:=1) s67 rfl fun G68 s68=>?_
   refine ae (dD (ar.own (i:=2) s68 rfl) b8 rfl).2.2 ?_
   refine ae (dD (ar.own (i:=1) s68 rfl) b8 rfl).2.2 ?_
   exact hQ _ _ ((((s68.erase 1).erase 1).erase 1).erase 1)
  | succ k ih=>
   intro j x G' hk hj sp
   obtain ⟨u,hu⟩:∃ u,l[j]? = some u:=⟨_,List.getElem?_eq_getElem (by omega)⟩
   have huo:=hok u (List.mem_of_getElem? hu)
   have n1:=oX (f:=stays r) hu
   have n2:=oX (f:=jF r) hu
   have n3:=yK (mine:=mine) (f:=opens r) hu
   have hsm:=sm j
   refine hR _ _ _ _ _ _ _ _ _ _ ?_
   refine ae (fy (hl.ch' sp.ch)) ?_
   rw [aH,aa,decide_eq_true (by omega),aX]
   have ev:aw T .add au (.int .i64 (j:Int)) (.int .i64 1) = some (.int .i64 ((j + 1:Nat):Int)):=by
    rw [bf,i64_in (by omega) (by omega)]
    rfl
   intro J64
   obtain ⟨p,e1,e2⟩:=oF (hl.ch' sp.ch) hu
   refine ae e1 ?_
   refine ae e2 ?_
   refine C3 sp huo fun i24 G26 s26=>?_
   have go:∀ (x':ag) (G2:ah),Sp [] G [bj 35 x' ((jO (hJ mine (opens r) (l.take (j + 1)))).map ba.av),ar i7 (bR 0 0),ar i5 (bR 0 0),ar i3 (wdR (t2 + gm (jF r) (l.take (j + 1)))),ar i1 (wdR (t1 - gm (stays r) (l.take (j + 1))))] G2 -> J64 x' G2:=by
    intro x' G2 s
    simp -zeta only [J64]
    exact ae ev (ih (j + 1) x' G2 (by omega) (by omega) s)
   have skip:∀ G33,Sp [] G [ar i24 u.av,bj 35 x ((jO (hJ mine (opens r) (l.take j))).map ba.av),ar i7 (bR 0 0),ar i5 (bR 0 0),ar i3 (wdR (t2 + gm (jF r) (l.take j))),ar i1 (wdR (t1 - gm (stays r) (l.take j)))] G33 -> stays r u = false -> J64 x G33:=by
    intro G33 s33 hst
    have hp:jF r u = false:=by
     unfold stays at hst; unfold jF
     by_cases hk:u.kind = 1
     ·rw [decide_eq_true hk,Bool.true_and] at hst ⊢
      have h3:je u.id r = 3:=by simpa using hst
      rw [h3]; rfl
     ·rw [decide_eq_false hk]; rfl
    have ho:opens r u = false:=by unfold opens; rw [hst]; rfl
    rw [hst] at n1; rw [hp] at n2; rw [ho] at n3
    refine go x G33 ?_
    rw [n1,n2,n3]
    simpa using s33.erase 0
   obtain ⟨q0,q1,q2,q3,q4,q5⟩:=dh (i:=0) s26 rfl huo
   refine ae q0 ?_
   rw [dy,aa]
   by_cases hk1:u.kind = 1
   ·rw [decide_eq_true hk1,Bool.not_true,aM]
    have hamt:=ham u (List.mem_of_getElem? hu) hk1
    refine ae q1 ?_
    refine cO.use (hr.ch' s26.ch) hok2 hlen2 fun G31 c31=>?_
    have s31:=s26.tmp c31
    rw [bC,aa,aE]
    refine ⟨fun h2=>?_,fun h2=>?_⟩
    ·have hst:stays r u = true:=by simp [stays,hk1,h2]
     have hp:jF r u = true:=by simp [jF,hk1,h2]
     have ho:opens r u = false:=by simp [opens,h2]
     rw [hst] at n1; rw [hp] at n2; rw [ho] at n3
     refine ae (dD (ar.own (i:=5) s31 rfl) b8 rfl).2.2 ?_
     refine ae (dh (i:=0) s31 rfl huo).2.2.1 ?_
     refine dc.use hsm.1 hamt fun G36 c36=>?_
     have s36:=s31.tmp c36
     refine jk (i:=5) s36 rfl fun G37 s37=>?_
     refine ae (dD (ar.own (i:=4) s37 rfl) b8 rfl).2.2 ?_
     refine ae (dh (i:=0) s37 rfl huo).2.2.1 ?_
     refine cU.use hsm.2 hamt fun G41 c41=>?_
     have s41:=s37.tmp c41
     refine jk (i:=4) s41 rfl fun G42 s42=>?_
     refine go x G42 ?_
     rw [n1,n2,n3]
     simp only [Bool.false_eq_true,if_false,if_true,List.append_nil]
     have e1:t1 - (gm (stays r) (l.take j) + u.amount) = t1 - gm (stays r) (l.take j) - u.amount:=by omega
     have e2:t2 + (gm (jF r) (l.take j) + u.amount) = t2 + gm (jF r) (l.take j) + u.amount:=by omega
     rw [e1,e2]
     exact s42.erase 0
    ·rw [bC,aa,aE]
     have hp:jF r u = false:=by simp [jF,h2]
     rw [hp] at n2
     refine ⟨fun h0=>?_,fun h0=>?_⟩
     ·have hst:stays r u = true:=by simp [stays,hk1,h0]
      have ho:opens r u = true:=by simp [opens,hst,h2]
      rw [hst] at n1; rw [ho] at n3
      refine ae (dD (ar.own (i:=5) s31 rfl) b8 rfl).2.2 ?_
      refine ae (dh (i:=0) s31 rfl huo).2.2.1 ?_
      refine dc.use hsm.1 hamt fun G47 c47=>?_
      have s47:=s31.tmp c47
      refine jk (i:=5) s47 rfl fun G48 s48=>?_
      obtain ⟨r0,r1,r2,r3,_,_⟩:=dh (i:=0) s48 rfl huo
      refine ae r1 ?_
      refine ae r2 ?_
      refine ae r3 ?_
      refine ae (AP (p:=CS mine u) (uJ huo)) ?_
      have hpl:=qn mine (opens r) (l.take j)
      rw [List.length_take] at hpl
      refine dt.use (bj.own (i:=1) s48 rfl).is (rQ (qm fun u hu=>hok u (List.mem_of_mem_take hu))) (uJ huo) (by rw [vQ]; omega) fun x' G54 t54=>?_
      obtain ⟨F54,o54,k54⟩:=t54.out
      have s54:=s48.new o54 k54
      refine go x' G54 ?_
      rw [n1,n2,n3]
      simp only [Bool.false_eq_true,if_false,if_true,Int.add_zero]
      rw [D9]
      have e1:t1 - (gm (stays r) (l.take j) + u.amount) = t1 - gm (stays r) (l.take j) - u.amount:=by omega
      rw [e1]
      exact (s54.erase 1).erase 1
     ·have h3:je u.id r = 3:=by
       have:=vS u.id r
       omega
      exact skip _ s31 (by simp [stays,h3])
   ·rw [decide_eq_false hk1,Bool.not_false,aX]
    exact skip _ s26 (by simp [stays,hk1])
 exact loop l.length 0 .nilSlice _ rfl (by omega) (by simpa [gm,hJ,jO] using s7.nd 35)
end
end Go.Esc.M
set_option linter.unusedSimpArgs false
set_option linter.unusedVariables false
set_option maxRecDepth 20000
namespace Go.Esc.M
open Go Go.Esc
theorem Ad {f g h:aK -> Bool}:∀ {l:List aK},(∀ u ∈ l,f u = (g u || h u) /\ (g u && h u) = false) -> gm f l = gm g l + gm h l
 | [],_=>rfl
 | u :: l,hl=>by
  have ih:=Ad (f:=f) (g:=g) (h:=h) (l:=l) fun x hx=>hl x (by simp [hx])
  obtain ⟨h1,h2⟩:=hl u (by simp)
  unfold gm at ih ⊢
  cases hg:g u <;> cases hh:h u <;> rw [hg,hh] at h1 h2 <;> simp [h1,hg,hh] at h2 ⊢ <;> omega
theorem pN (r l:List aK):gm (stays r) l = gm (jF r) l + gm (opens r) l:=by
 refine Ad fun u _=>?_
 unfold opens stays jF
 by_cases h2:je u.id r = 2
 ·simp [h2]
 ·simp [h2]
def ml (bo:Int) (a b:List aK):Int:=bo - gm (stays b) a + gm (jF a) b
def mT (bp:Int) (a b:List aK):Int:=bp + gm (jF b) a - gm (stays a) b
def nJ (a b:List aK):List ba:=jO (hJ true (opens b) a) ++ jO (hJ false (opens a) b)
structure FoldM where
 o:Int
 q:Int
 l:List ba
 e:Int
def FoldM.no (e:Int):FoldM:=⟨0,0,[],e⟩
def foldM (bo bp:Int) (a b:List aK):FoldM :=
 if lL a = false \/ lL b = false then .no 120
 else if ml bo a b < 0 \/ mT bp a b < 0 then .no 130
 else ⟨ml bo a b,mT bp a b,nJ a b,0⟩
def inC (co cp:Int) (ours jA:List aK):Prop:=0 ≤ co /\ co ≤ ours.length /\ 0 ≤ cp /\ cp ≤ jA.length
instance (co cp:Int) (ours jA:List aK):Decidable (inC co cp ours jA):=by unfold inC; infer_instance
instance (a:Int):Decidable (amt a):=by unfold amt; infer_instance
def k8 (bo bp:Int) (ours jA:List aK) (co cp:Int):FoldM :=
 if inC co cp ours jA /\ amt bo /\ amt bp /\ amt (bo + bp) then foldM bo bp (ours.take co.toNat) (jA.take cp.toNat) else .no 1
theorem pb {l:List aK} (h:lL l = true):∀ u ∈ l,dC u = true:=fun u hu=>List.all_eq_true.1 h u hu
theorem q8 {r l:List aK} (hv:∀ u ∈ l,dC u = true):0 ≤ gm (opens r) l:=by
 refine (qU fun u hu hf=>?_).1
 have:=(kO (hv u hu)).2.2
 have hk:u.kind = 1:=by simp [opens,stays] at hf; exact hf.1.1
 constructor <;> omega
theorem IH {bo bp:Int} {a b:List aK}:ml bo a b + mT bp a b + gm (opens b) a + gm (opens a) b = bo + bp:=by
 have h1:=pN b a
 have h2:=pN a b
 unfold ml mT
 omega
theorem BS {bo bp:Int} {a b:List aK} (ha:∀ u ∈ a,dC u = true) (hb:∀ u ∈ b,dC u = true) (h:bo + bp ≤ 1152921504606846976) :
  (0 ≤ mT bp a b -> ml bo a b ≤ 1152921504606846976) /\ (0 ≤ ml bo a b -> mT bp a b ≤ 1152921504606846976):=by
 have h1:=IH (bo:=bo) (bp:=bp) (a:=a) (b:=b)
 have h2:=q8 (r:=b) ha
 have h3:=q8 (r:=a) hb
 constructor <;> intro _ <;> omega
theorem qL {t:Int} (h0:0 ≤ t) (h1:t ≤ 1152921504606846976):pY t = t /\ Dm t = t:=by
 unfold pY Dm
 rw [if_neg (by omega),if_pos (by omega),if_neg (by omega)]
 refine ⟨rfl,?_⟩
 split <;> omega
theorem sr (t:Int):pY t < 0 ↔ t < 0:=by
 unfold pY
 split
 ·omega
 ·split <;> omega
theorem IJ {a b:List aK} (ha:∀ u ∈ a,u.ok) (hb:∀ u ∈ b,u.ok):∀ p ∈ nJ a b,p.ok:=by
 intro p hp
 rcases List.mem_append.1 hp with hp | hp
 ·exact rQ (qm ha) p hp
 ·exact rQ (qm hb) p hp
theorem vZ (a b:List aK):(nJ a b).length ≤ a.length + b.length:=by
 unfold nJ
 rw [List.length_append,vQ,vQ]
 have:=qn true (opens b) a
 have:=qn false (opens a) b
 omega
theorem IK {bo bp:Int} {a b:List aK} (ha:∀ u ∈ a,u.ok) (hb:∀ u ∈ b,u.ok):∀ p ∈ (foldM bo bp a b).l,p.ok:=by
 intro p hp
 unfold foldM at hp
 split at hp
 ·cases hp
 ·split at hp
  ·cases hp
  ·exact IJ ha hb p hp
theorem GP (bo bp:Int) (a b:List aK):(foldM bo bp a b).l.length ≤ a.length + b.length:=by
 unfold foldM
 split
 ·simp [FoldM.no]
 ·split
  ·simp [FoldM.no]
  ·exact vZ a b
theorem II {bo bp:Int} {a b:List aK} {co cp:Int} (ha:∀ u ∈ a,u.ok) (hb:∀ u ∈ b,u.ok):∀ p ∈ (k8 bo bp a b co cp).l,p.ok:=by
 intro p hp
 unfold k8 at hp
 split at hp
 ·exact IK (fun u hu=>ha u (List.mem_of_mem_take hu)) (fun u hu=>hb u (List.mem_of_mem_take hu)) p hp
 ·cases hp
theorem GN (bo bp:Int) (a b:List aK) (co cp:Int):(k8 bo bp a b co cp).l.length ≤ a.length + b.length:=by
 unfold k8
 split
 ·have:=GP bo bp (a.take co.toNat) (b.take cp.toNat)
  rw [List.length_take,List.length_take] at this
  omega
 ·simp [FoldM.no]
end Go.Esc.M
