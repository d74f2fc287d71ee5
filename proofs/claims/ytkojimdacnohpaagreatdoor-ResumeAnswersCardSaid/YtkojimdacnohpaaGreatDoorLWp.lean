import Derived.Test.YtkojimdacnohpaaGreatDoorLWu
import Derived.Test.YtkojimdacnohpaaGreatDoorLUe
set_option maxHeartbeats 2000000
set_option linter.unusedSimpArgs false
set_option linter.unusedVariables false
set_option maxRecDepth 20000
namespace Go.Esc.M
open Go Go.Esc
theorem Jl {G:ah} {R d:Nat} {v:ag} {m:Nat} (h:wt T G R (d + 3) gJ v m):∃ o:ik,v = o.av /\ o.ok:=by
 obtain ⟨cs,ms,rfl,hf,rfl⟩:=vr jH rfl h
 obtain ⟨c1,cs,m1,ms,rfl,rfl,h1,hf⟩:=l6 hf
 obtain ⟨c2,cs,m2,ms,rfl,rfl,h2,hf⟩:=l6 hf
 obtain ⟨c3,cs,m3,ms,rfl,rfl,h3,hf⟩:=l6 hf
 obtain ⟨c4,cs,m4,ms,rfl,rfl,h4,hf⟩:=l6 hf
 obtain ⟨c5,cs,m5,ms,rfl,rfl,h5,hf⟩:=l6 hf
 obtain ⟨c6,cs,m6,ms,rfl,rfl,h6,hf⟩:=l6 hf
 obtain ⟨c7,cs,m7,ms,rfl,rfl,h7,hf⟩:=l6 hf
 obtain ⟨rfl,rfl⟩:=E4 hf
 obtain ⟨a1,rfl,w1,_⟩:=rI hO rfl h1
 obtain ⟨a2,rfl,_⟩:=Jk kC rfl h2
 obtain ⟨a3,rfl,w3,_⟩:=rI cA rfl h3
 obtain ⟨a4,rfl,w4,_⟩:=rI cA rfl h4
 obtain ⟨a5,rfl,w5,_⟩:=xL cd rfl dz rfl h5
 obtain ⟨a6,rfl,hR,hn,_⟩:=Ks fZ rfl h6
 obtain ⟨a7,rfl,w7,_⟩:=rI cA rfl h7
 exact ⟨⟨a1,a2,a3,a4,a5,a6,a7⟩,rfl,⟨ri.1 w1,ri.1 w3,ri.1 w4,w5,hn,ri.1 w7⟩⟩
theorem Jm {G:ah} {R d:Nat} {v:ag} {m:Nat} (h:wt T G R (d + 4) iq v m):∃ l:List ik,rG 38 G v (l.map ik.av) /\ (∀ u ∈ l,u.ok) /\ l.length ≤ R:=by
 obtain ⟨xs,ms,hro,hall,hms,hR,_⟩:=K4 ik.av (fun u m=>u.ok /\ 1 ≤ m) mM rfl jH (fun c m h=>by
  obtain ⟨u,hu,ho⟩:=Jl h
  obtain ⟨_,ms,_,_,e⟩:=vr jH rfl h
  exact ⟨u,hu,ho,by omega⟩) h
 have e:jU.bytes = 88:=rfl
 rw [e] at hR
 refine ⟨xs,hro,fun u hu=>?_,by omega⟩
 obtain ⟨m,hm,_⟩:=hall.mem hu
 exact hm.1
theorem Jn {G:ah} {R d:Nat} {v:ag} {m:Nat} (h:wt T G R (d + 4) dj v m):∃ x:DlM,v = x.av /\ x.ok:=by
 obtain ⟨cs,ms,rfl,hf,rfl⟩:=vr lJ rfl h
 obtain ⟨c1,cs,m1,ms,rfl,rfl,h1,hf⟩:=l6 hf
 obtain ⟨c2,cs,m2,ms,rfl,rfl,h2,hf⟩:=l6 hf
 obtain ⟨c3,cs,m3,ms,rfl,rfl,h3,hf⟩:=l6 hf
 obtain ⟨c4,cs,m4,ms,rfl,rfl,h4,hf⟩:=l6 hf
 obtain ⟨rfl,rfl⟩:=E4 hf
 obtain ⟨a1,rfl,w1,_⟩:=rI cA rfl h1
 obtain ⟨a2,rfl,w2,_⟩:=rI cA rfl h2
 obtain ⟨a3,b3,rfl,w3,w3'⟩:=Cd h3
 obtain ⟨a4,b4,rfl,w4,w4'⟩:=Cd h4
 exact ⟨⟨a1,a2,a3,b3,a4,b4⟩,rfl,⟨ri.1 w1,ri.1 w2,w3,w3',w4,w4'⟩⟩
theorem KB {G:ah} {v:ag} {l:List ik} {j:Nat} {u:ik} (h:fV 38 G v (l.map ik.av)) (hj:l[j]? = some u):∃ a,aL T iq v (.int .i64 (j:Int)) = some a /\ lq T G gJ a = some u.av :=
 h.at_ (k:=.i64) (i:=jM) (ie:=jU) (T:=T) (t:=iq) (e:=gJ) mM rfl jH (by rw [List.getElem?_map,hj]; rfl) rfl
theorem Fk {G:ah} {v:ag} {l:List ik} (h:fV 38 G v (l.map ik.av)):gF T G iq v = some (.int .i64 (l.length:Nat)):=by
 rw [h.len (i:=jM) mM rfl,List.length_map]
end Go.Esc.M
namespace Go.Esc.M
open Go Go.Esc
section
variable {F0:List AId} {G0 G:ah} {ps:List LP} {Q:ag -> ah -> Prop}
theorem LU.use {c:CfM} {m:bA} (hc:c.ok) (hm:m.ok) (hQ:∀ G',Ch [] G [] G' -> Q (.bool (lW c m)) G'):al P LU.n [c.av,m.av] G Q:=by
 refine LU.sound ?_
 unfold LU.S
 unfold lW at hQ
 intro i1 f1
 have s1:=(Sp.nil G).row f1 c.av
 intro i3 f3
 have s3:=s1.row f3 m.av
 revert s3
 generalize ah.upd _ i3 _ = G4
 intro s3
 obtain ⟨_,_,_,_,m4,_,m6,_,_⟩:=gL (i:=0) s3 rfl hm
 refine ae m4 ?_
 rw [aH,aa,aE]
 refine ⟨fun h1=>?_,fun h1=>?_⟩
 ·rw [if_neg (by omega),if_neg (by omega)] at hQ
  exact hQ _ s3.ch
 refine ae m4 ?_
 rw [bC,aa,aE]
 refine ⟨fun h2=>?_,fun h2=>?_⟩
 ·rw [if_neg (by omega),if_pos h2] at hQ
  refine ae m6 ?_
  refine ae (v:=.agg (h0.map u8v)) rfl ?_
  refine ae (Ax hm.secret (by rfl)) ?_
  exact hQ _ s3.ch
 rw [if_pos (by omega)] at hQ
 refine ae (Cf.pT (ar.own (i:=1) s3 rfl) hc) ?_
 refine ae m4 ?_
 have hn:=hm.next
 rw [bS,i64_in (by have:=hn.1; omega) (by have:=hn.2; omega),aa]
 refine bJ.use hc.seed fun G16 c16=>?_
 have s16:=s3.tmp c16
 have hx:=kc hc.seed (m.next - 1)
 generalize fH c.seed (m.next - 1) = X at hx hQ
 refine ae (hi0 _) ?_
 refine ae (hi1 _) ?_
 refine mZ s16 hx fun i19 G21 s21=>?_
 obtain ⟨_,_,_,_,m4,_,m6,_,_⟩:=gL (i:=1) s21 rfl hm
 rw [bC,aa,aE]
 refine ⟨fun h3=>?_,fun h3=>?_⟩
 ·rw [decide_eq_true h3,Bool.true_and] at hQ
  refine ae m4 ?_
  rw [jl,aa,aE]
  refine ⟨fun h4=>?_,fun h4=>?_⟩
  ·rw [decide_eq_true h4,Bool.true_and] at hQ
   refine ae (bE hx (ar.own (i:=0) s21 rfl)) ?_
   refine ae m6 ?_
   refine ae (Ax hx hm.secret) ?_
   exact hQ _ s21.ch
  ·rw [decide_eq_false h4,Bool.false_and] at hQ
   exact hQ _ s21.ch
 ·rw [decide_eq_false h3,Bool.false_and,Bool.and_false] at hQ
  exact hQ _ s21.ch
theorem LV.use {f:StF} {c:CfM} {vo vp vh:ag} (hS:kW G f vo vp vh) (hc:c.ok) (hQ:∀ G',Ch [] G [] G' -> Q (uc f).av G'):al P LV.n [c.av,f.s.av vo vp vh] G Q:=by
 have ho:=hS.ok
 have hl:=hS.lv
 have hok:=GI hS
 refine LV.sound ?_
 unfold LV.S
 rw [AZ]
 intro i1 f1
 have s1:=(Sp.nil G).row f1 c.av
 intro i3 f3
 have s3:=s1.row f3 (f.s.av vo vp vh)
 intro i5 f5
 have s5:=s3.row f5 bA.zero.av
 revert s5
 generalize ah.upd _ i5 _ = G6
 intro s5
 have hg:=ar.own (i:=1) s5 rfl
 refine ae (St.pq hg ho hl) ?_
 rw [wi,aa]
 refine ae (St.mi hg ho hl) ?_
 refine ae Ds ?_
 have hok0:({ bA.zero with kind:=6,index:=IntKind.i64.wrap (f.s.loc + 1),next:=f.s.ack }:bA).ok:=⟨gQ 6 (by decide) (by decide),cD,cD,IC _,ho.ack,rfl,rfl,by simp [bA.zero]⟩
 refine Ib s5 hok0 fun i11 G13 s13=>?_
 have hg:=ar.own (i:=2) s13 rfl
 refine ae (St.mi hg ho hl) ?_
 rw [de,aa,aE]
 have fin:∀ {G2:ah} {m:bA},Sp [] G [ar i11 m.av,ar i5 bA.zero.av,ar i3 (f.s.av vo vp vh),ar i1 c.av] G2 -> m = uc f ->
   wv (lq T G2 aG (.ptr i11 [] 0)) fun v28=>wg (ax T G2 aG (.ptr i5 [] 0) v28) fun G29=>wv (lq T G29 aG (.ptr i5 [] 0)) fun v30=>Q v30 G29:=by
  intro G2 m s hm
  subst hm
  refine ae (cJ dB (ar.own (i:=0) s rfl) (bA.fits hok)) ?_
  refine k7 (i:=1) s rfl bA.bD hok fun G29 s29=>?_
  refine ae (cJ dB (ar.own (i:=1) s29 rfl) (bA.fits hok)) ?_
  exact hQ _ s29.ch
 refine ⟨fun h1=>?_,fun h1=>?_⟩
 ·refine ae (St.r6 hg ho hl) ?_
  refine ae (St.mi hg ho hl) ?_
  have ha:=ho.ack
  rw [bS,i64_in (by have:=ha.1; omega) (by have:=ha.2; omega),aa]
  refine LY.use (hS.h.jf.ch' s13.ch) hS.okh hS.lh fun G20 c20=>?_
  have s20:=s13.tmp c20
  refine ae (hi0 _) ?_
  refine ae (hi1 _) ?_
  refine Em (i:=0) (Dg hS.okh) hok0 s20 rfl fun G23 s23=>?_
  exact fin s23 (by unfold uc; rw [if_pos h1])
 ·exact fin s13 (by unfold uc; rw [if_neg h1]; rfl)
theorem Mu {v:ag} {l:List bA} {i:Nat} {u:bA} {K:ag -> ah -> Prop} (hs:Sp F0 G0 ps G) (hi:ps[i]? = some (bj 70 v (l.map bA.av))) (hu:u.ok) (hl:l.length ≤ 1000000) (hK:∀ w G',Sp F0 G0 (ps.set i (bj 70 w ((l ++ [u]).map bA.av))) G' -> K w G') :
  bh T aR 1 [(0,u.av)] G fun v2 G'=>cc T G' aR aR v v2 K :=
 uY (T:=T) (ts:=aR) (e:=aG) (si:=fO) (ie:=fe) (i:=i) (vs:=l.map bA.av) zc rfl dB rfl (by decide) hs hi (bA.sz hu) (bA.okv _) (by decide) (by rw [List.length_map]; simp only [fe]; omega) fun w G' s=>hK w G' (by rw [List.map_append]; exact s)
theorem xh.use {x v:ag} {L:List bA} {l:List aK} {a b:Int} {rest:List LP} (hl:fV 36 G0 v (l.map aK.av)) (hok:∀ u ∈ l,u.ok) (h0:0 ≤ a) (ha:I64 a) (hlen:L.length + l.length ≤ 1000000)
  (s:Sp [] G0 (bj 70 x (L.map bA.av) :: rest) G) (hQ:∀ x' G',Sp [] G0 (bj 70 x' ((L ++ wL l a b).map bA.av) :: rest) G' -> Q x' G'):al P xh.n [x,v,.int .i64 a,.int .i64 b] G Q:=by
 refine xh.sound ?_
 unfold xh.S
 obtain ⟨M,hM⟩:∃ M:Nat,M = (min b (l.length:Nat)).toNat:=⟨_,rfl⟩
 obtain ⟨A,hA⟩:∃ A:Nat,a = (A:Int):=⟨a.toNat,by omega⟩
 subst hA
 have hA2:(A:Int) ≤ 9223372036854775807:=by have:=ha.2; omega
 unfold wL at hQ
 rw [<- hM,show (max (A:Int) 0).toNat = A by omega] at hQ
 have hML:M ≤ l.length:=by omega
 intro R hR
 have loop:∀ (n j:Nat) (x:ag) (G':ah),M - j = n -> A ≤ j -> (j:Int) ≤ 9223372036854775807 -> Sp [] G0 (bj 70 x ((L ++ ((l.take (min j M)).drop A).map oy).map bA.av) :: rest) G' -> R [x,v,.int .i64 b,.int .i64 (j:Nat)] G':=by
  intro n
  induction n with
  | zero=>
   intro j x G' hn hj hj2 s
   refine hR _ _ _ _ _ ?_
   rw [show min j M = M by omega] at s
   intro J28
   have out:J28 (.bool false) G':=by
    simp -zeta only [J28,aM]
    exact hQ x G' s
   rw [aH,aa,aE]
   refine ⟨fun h1=>?_,fun _=>out⟩
   refine ae (fy (hl.ch' s.ch)) ?_
   rw [aH,aa,decide_eq_false (by omega)]
   exact out
  | succ n ih=>
   intro j x G' hn hj hj2 s
   obtain ⟨u,hu⟩:∃ u,l[j]? = some u:=⟨_,List.getElem?_eq_getElem (by omega)⟩
   have huo:=hok u (List.mem_of_getElem? hu)
   refine hR _ _ _ _ _ ?_
   intro J28
   rw [aH,aa,decide_eq_true (by omega),aX]
   refine ae (fy (hl.ch' s.ch)) ?_
   rw [aH,aa,decide_eq_true (by omega)]
   simp -zeta only [J28,aX]
   rw [gq,aa,decide_eq_true (by omega),aX]
   obtain ⟨at_,a1,a2⟩:=oF (hl.ch' s.ch) hu
   refine ae a1 ?_
   refine ae a2 ?_
   refine LZ.use huo fun G16 c16=>?_
   have s16:=s.tmp c16
   refine Mu (i:=0) s16 rfl (nH huo) (by rw [List.length_append,List.length_map,List.length_drop,List.length_take]; omega) fun w G20 s20=>?_
   rw [wi,i64_in (by omega) (by omega),aa]
   refine ih (j + 1) w G20 (by omega) (by omega) (by omega) ?_
   rw [show min (j + 1) M = j + 1 by omega]
   rw [show min j M = j by omega,List.append_assoc] at s20
   have e:((l.take (j + 1)).drop A).map oy = ((l.take j).drop A).map oy ++ [oy u]:=by
    rw [List.take_add_one,hu,List.drop_append_of_le_length (by rw [List.length_take]; omega),List.map_append]
    rfl
   rw [e]
   exact s20
 refine loop _ A x G rfl (Nat.le_refl A) hA2 ?_
 rw [List.drop_eq_nil_of_le (by rw [List.length_take]; omega),List.map_nil,List.append_nil]
 exact s
theorem MQ {c:CfM} {f:StF} {m:bA} {e:Int} (h:lY c f m = e) (he:e ≠ 0):mC c f m = ([],e):=by
 unfold mC
 rw [h,if_pos he]
theorem MU {c:CfM} {f:StF} {m:bA} (h:lY c f m = 0):mC c f m =
  (((Ef c f m true ++ (if m.index = f.s.rem then wL f.o f.s.heldA f.s.sgnA ++ [qd c f] else [])) ++ Ef c f m false) ++ wL f.o f.s.sgnA (f.o.length:Nat),0):=by
 unfold mC
 rw [h,if_neg (fun hh=>hh rfl)]
theorem LS.use {f:StF} {c:CfM} {m:bA} {vo vp vh:ag} (hS:kW G f vo vp vh) (I:iC f) (hc:c.ok) (hm:m.ok) (hQ:∀ w G',Sp [] G [bj 70 w ((mC c f m).1.map bA.av)] G' -> Q (.tuple [w,.int .i64 (mC c f m).2]) G'):al P LS.n [c.av,f.s.av vo vp vh,m.av] G Q:=by
 have ho:=hS.ok
 have hl:=hS.lv
 have hlo:=I.lo
 have l0:=I.loc0
 have l1:=I.loc1
 have r0:=I.ack0
 have r1:=I.rem
 have r2:=I.rem1
 obtain ⟨RV,hRV⟩:∃ x,x = pP c m.next:=⟨_,rfl⟩
 obtain ⟨B,hB⟩:∃ x,x = qd c f:=⟨_,rfl⟩
 have okR:RV.ok:=by rw [hRV]; exact tR hc hm.next
 have okB:B.ok:=by rw [hB]; exact wC ho
 have aok:=fun (h:lY c f m = 0)=>MU h
 have aer:=fun {e:Int} (h:lY c f m = e) (he:e ≠ 0)=>MQ h he
 have rv0:∀ b,Ef c f m b = if m.next = f.s.loc - 1 /\ f.s.behind = b then [RV] else []:=by
  intro b
  unfold Ef
  rw [i64_in (n:=f.s.loc - 1) (by omega) (by omega),hRV]
 obtain ⟨RT,hRT⟩:∃ x,x = Ef c f m true:=⟨_,rfl⟩
 obtain ⟨RF,hRF⟩:∃ x,x = Ef c f m false:=⟨_,rfl⟩
 obtain ⟨U1,hU1⟩:∃ x,x = wL f.o f.s.heldA f.s.sgnA:=⟨_,rfl⟩
 obtain ⟨D,hD⟩:∃ x,x = wL f.o f.s.sgnA (f.o.length:Nat):=⟨_,rfl⟩
 have hlu:U1.length ≤ 2048:=by rw [hU1]; have:=Gc f.o f.s.heldA f.s.sgnA; omega
 have rvT:RT = if m.next = f.s.loc - 1 /\ f.s.behind = true then [RV] else []:=by rw [hRT]; exact rv0 true
 have rvF:RF = if m.next = f.s.loc - 1 /\ f.s.behind = false then [RV] else []:=by rw [hRF]; exact rv0 false
 rw [<- hRT,<- hRF,<- hU1,<- hD,<- hB] at aok
 clear rv0 hRT hRF
 generalize mC c f m = AN at aok aer hQ
 refine LS.sound ?_
 unfold LS.S
 intro i1 f1
 have s1:=(Sp.nil G).row f1 c.av
 intro i3 f3
 have s3:=s1.row f3 (f.s.av vo vp vh)
 intro i5 f5
 have s5:=s3.row f5 m.av
 revert s5
 generalize ah.upd _ i5 _ = G6
 intro s5
 have bad:∀ {e:Int} {ps:List LP} {G':ah},lY c f m = e -> e ≠ 0 -> Sp [] G ps G' -> Q (.tuple [.nilSlice,.int .i64 e]) G':=by
  intro e ps G' h he s
  rw [aer h he] at hQ
  exact hQ .nilSlice G' ((s.take 0).nd 70)
 have m0:=gL (i:=0) s5 rfl hm
 refine ae m0.1 ?_
 rw [dy,aa,fg]
 refine ⟨fun h1=>bad (by unfold lY; rw [if_pos h1]) (by decide) s5,fun h1=>?_⟩
 refine ae (Cf.ld (ar.own (i:=2) s5 rfl) hc) ?_
 refine ae m0.2.2.2.2.2.2.2.2 ?_
 refine LU.use hc hm fun G12 c12=>?_
 have s12:=s5.tmp c12
 have s12:Sp [] G [ar i5 m.av,ar i3 (f.s.av vo vp vh),ar i1 c.av] G12:=s12
 rw [fN,aa]
 cases hp:lW c m with
 | false=>
  rw [Bool.not_false,aX]
  exact bad (by unfold lY; rw [if_neg (fun hh=>hh h1),if_pos hp]) (by decide) s12
 | true=>
 rw [Bool.not_true,aM]
 have hj:lY c f m = if f.s.loc < m.next then 180 else if m.next < 0 \/ (m.next ≠ f.s.loc /\ m.next ≠ f.s.loc - 1) then 90 else if m.index ≠ f.s.rem + 1 /\ (m.index ≠ f.s.rem \/ f.s.rem ≠ f.s.ack + 1) then 90 else 0:=by
  unfold lY
  rw [if_neg (fun hh=>hh h1),if_neg (by rw [hp]; decide),i64_in (n:=f.s.loc - 1) (by omega) (by omega),i64_in (n:=f.s.rem + 1) (by omega) (by omega),i64_in (n:=f.s.ack + 1) (by omega) (by omega)]
 have mm:=gL (i:=0) s12 rfl hm
 have hg:=ar.own (i:=1) s12 rfl
 refine ae mm.2.2.2.2.1 ?_
 refine ae (St.pq hg ho hl) ?_
 rw [de,aa,aE]
 refine ⟨fun h2=>bad (by rw [hj,if_pos h2]) (by decide) s12,fun h2=>?_⟩
 rw [if_neg h2] at hj
 intro J106
 have b106:(m.next < 0 \/ (m.next ≠ f.s.loc /\ m.next ≠ f.s.loc - 1)) -> J106 (.bool true) G12:=by
  intro h
  simp -zeta only [J106,aX]
  exact bad (by rw [hj,if_pos h]) (by decide) s12
 have g106:¬ (m.next < 0 \/ (m.next ≠ f.s.loc /\ m.next ≠ f.s.loc - 1)) -> J106 (.bool false) G12:=by
  intro h
  rw [if_neg h] at hj
  simp -zeta only [J106,aM]
  intro J105
  have p105:∀ b:Bool,(b = true ↔ (m.index = f.s.rem /\ f.s.rem = f.s.ack + 1)) -> J105 (.bool b) G12:=by
   intro b hb
   simp -zeta only [J105]
   intro J104
   have b104:(m.index ≠ f.s.rem + 1 /\ (m.index ≠ f.s.rem \/ f.s.rem ≠ f.s.ack + 1)) -> J104 (.bool true) G12:=by
    intro h
    simp -zeta only [J104,aX]
    exact bad (by rw [hj,if_pos h]) (by decide) s12
   have g104:¬ (m.index ≠ f.s.rem + 1 /\ (m.index ≠ f.s.rem \/ f.s.rem ≠ f.s.ack + 1)) -> J104 (.bool false) G12:=by
    intro h
    rw [if_neg h] at hj
    rw [aok hj] at hQ
    have hbi:b = true ↔ m.index = f.s.rem:=by rw [hb]; omega
    simp -zeta only [J104,aM]
    intro J103
    have p103:∀ d:Bool,(d = true ↔ (m.next = f.s.loc - 1 /\ f.s.behind = true)) -> J103 (.bool d) G12:=by
     intro d hd
     simp -zeta only [J103]
     intro J102
     have p102:∀ (x:ag) (L:List bA) (G57:ah),L.length ≤ 10 -> L = RT -> Sp [] G [bj 70 x (L.map bA.av),ar i5 m.av,ar i3 (f.s.av vo vp vh),ar i1 c.av] G57 -> J102 x G57:=by
      intro x L G57 hL he s57
      rw [<- he] at hQ
      simp -zeta only [J102]
      intro J101
      have p101:∀ (x:ag) (L':List bA) (G72:ah),L'.length ≤ 5000 -> L' = L ++ (if m.index = f.s.rem then U1 ++ [B] else []) -> Sp [] G [bj 70 x (L'.map bA.av),ar i5 m.av,ar i3 (f.s.av vo vp vh),ar i1 c.av] G72 -> J101 x G72:=by
       intro x L' G72 hL' he' s72
       rw [<- he'] at hQ
       simp -zeta only [J101]
       intro J100
       have p100:∀ e:Bool,(e = true ↔ (m.next = f.s.loc - 1 /\ f.s.behind = false)) -> J100 (.bool e) G72:=by
        intro e hee
        simp -zeta only [J100]
        intro J99
        have p99:∀ (x:ag) (L2:List bA) (G91:ah),L2.length ≤ 6000 -> L2 = L' ++ RF -> Sp [] G [bj 70 x (L2.map bA.av),ar i5 m.av,ar i3 (f.s.av vo vp vh),ar i1 c.av] G91 -> J99 x G91:=by
         intro x L2 G91 hL2 he2 s91
         rw [<- he2] at hQ
         simp -zeta only [J99]
         have hg:=ar.own (i:=2) s91 rfl
         refine ae (St.gG hg ho hl) ?_
         refine ae (St.BK hg ho hl) ?_
         refine ae (St.gG hg ho hl) ?_
         refine ae (fy (hS.mv s91.ch).o.jf) ?_
         refine xh.use hS.o.jf I.oko (by have:=I.a0; have:=I.a1; have:=I.a2; omega) ho.sgnA (by omega) s91 fun x' G98 s98=>?_
         rw [<- hD] at s98
         exact hQ x' G98 (s98.take 1)
        cases e with
        | true=>
         obtain ⟨h1,h2⟩:=hee.1 rfl
         rw [aX]
         have hg:=ar.own (i:=2) s72 rfl
         refine ae (Cf.ld (ar.own (i:=3) s72 rfl) hc) ?_
         refine ae (St.pq hg ho hl) ?_
         rw [bS,i64_in (by omega) (by omega),aa,<- h1]
         refine dq.use hc fun G86 c86=>?_
         rw [<- hRV]
         have s86:=s72.tmp c86
         refine Mu (i:=0) s86 rfl okR (by omega) fun w G90 s90=>?_
         refine p99 w _ G90 (by rw [List.length_append,List.length_singleton]; omega) ?_ s90
         rw [rvF,if_pos ⟨h1,h2⟩]
        | false=>
         rw [aM]
         refine p99 x L' G72 (by omega) ?_ s72
         rw [rvF,if_neg (fun h=>by have:=hee.2 h; cases this),List.append_nil]
       have mm:=gL (i:=1) s72 rfl hm
       have hg:=ar.own (i:=2) s72 rfl
       refine ae mm.2.2.2.2.1 ?_
       refine ae (St.pq hg ho hl) ?_
       rw [bS,i64_in (by omega) (by omega),aa,bC,aa,aE]
       refine ⟨fun h1=>?_,fun h1=>p100 false (by simp [h1])⟩
       refine ae (St.GC hg ho hl) ?_
       rw [fN,aa]
       exact p100 _ (by simp [h1])
      cases b with
      | true=>
       have hi:=hbi.1 rfl
       rw [aX]
       have hg:=ar.own (i:=2) s57 rfl
       refine ae (St.gG hg ho hl) ?_
       refine ae (St.r7 hg ho hl) ?_
       refine ae (St.BK hg ho hl) ?_
       refine xh.use hS.o.jf I.oko (by have:=I.a0; have:=I.a1; omega) ho.heldA (by omega) s57 fun x' G63 s63=>?_
       rw [<- hU1] at s63
       refine ae (Cf.ld (ar.own (i:=3) s63 rfl) hc) ?_
       refine ae (St.ld (ar.own (i:=2) s63 rfl) ho hl) ?_
       refine dU.use (hS.mv s63.ch) I hc fun G67 c67=>?_
       rw [<- hB]
       have s67:=s63.tmp c67
       refine Mu (i:=0) s67 rfl okB (by rw [List.length_append]; omega) fun w G71 s71=>?_
       refine p101 w _ G71 (by rw [List.length_append,List.length_append,List.length_singleton]; omega) ?_ s71
       rw [if_pos hi,List.append_assoc]
      | false=>
       rw [aM]
       refine p101 x L G57 (by omega) ?_ s57
       rw [if_neg (fun h=>by have:=hbi.2 h; cases this),List.append_nil]
     cases d with
     | true=>
      obtain ⟨h1,h2⟩:=hd.1 rfl
      rw [aX]
      refine ae (Cf.ld (ar.own (i:=2) s12 rfl) hc) ?_
      refine ae (St.pq hg ho hl) ?_
      rw [bS,i64_in (by omega) (by omega),aa,<- h1]
      refine dq.use hc fun G52 c52=>?_
      rw [<- hRV]
      have s52:=(s12.tmp c52).nd 70
      refine Mu (i:=0) (l:=[]) s52 rfl okR (by simp) fun w G56 s56=>?_
      refine p102 w _ G56 (by simp) ?_ s56
      rw [rvT,if_pos ⟨h1,h2⟩]
      rfl
     | false=>
      rw [aM]
      refine p102 .nilSlice [] G12 (by simp) ?_ (s12.nd 70)
      rw [rvT,if_neg (fun h=>by have:=hd.2 h; cases this)]
    refine ae mm.2.2.2.2.1 ?_
    refine ae (St.pq hg ho hl) ?_
    rw [bS,i64_in (by omega) (by omega),aa,bC,aa,aE]
    refine ⟨fun h1=>?_,fun h1=>p103 false (by simp [h1])⟩
    refine ae (St.GC hg ho hl) ?_
    exact p103 _ (by simp [h1])
   rw [fN,aa]
   cases b with
   | true=>
    rw [Bool.not_true,aM]
    exact g104 (by have:=hb.1 rfl; omega)
   | false=>
    have hnb:¬ (m.index = f.s.rem /\ f.s.rem = f.s.ack + 1):=fun h=>by have:=hb.2 h; cases this
    rw [Bool.not_false,aX]
    refine ae mm.2.2.2.1 ?_
    refine ae (St.kq hg ho hl) ?_
    rw [wi,i64_in (by omega) (by omega),aa,dy,aa]
    by_cases h3:m.index = f.s.rem + 1
    ·rw [decide_eq_true h3]
     exact g104 (by omega)
    ·rw [decide_eq_false h3]
     exact b104 (by omega)
  refine ae mm.2.2.2.1 ?_
  refine ae (St.kq hg ho hl) ?_
  rw [bC,aa,aE]
  refine ⟨fun h3=>?_,fun h3=>p105 false (by simp [h3])⟩
  refine ae (St.kq hg ho hl) ?_
  refine ae (St.mi hg ho hl) ?_
  rw [wi,i64_in (by omega) (by omega),aa,bC,aa]
  exact p105 _ (by simp [h3])
 refine ae mm.2.2.2.2.1 ?_
 rw [aH,aa,aE]
 refine ⟨fun h3=>b106 (.inl h3),fun h3=>?_⟩
 refine ae mm.2.2.2.2.1 ?_
 refine ae (St.pq hg ho hl) ?_
 rw [bS,i64_in (by omega) (by omega),aa,aH,aa]
 by_cases h4:m.next < f.s.loc - 1
 ·rw [decide_eq_true h4]
  exact b106 (by omega)
 ·rw [decide_eq_false h4]
  exact g106 (by omega)
end
end Go.Esc.M
namespace Go.Esc.M
open Go Go.Esc
section
variable {F0:List AId} {G0 G:ah} {ps:List LP} {Q:ag -> ah -> Prop}
theorem LX.use {m:bA} {b:BeM} {c:CfM} (hm:m.ok) (hb:b.ok) (hc:c.ok) (hQ:∀ m':bA,m'.ok -> ∀ G',Ch [] G [] G' -> Q m'.av G'):al P LX.n [m.av,b.av,c.av] G Q:=by
 refine LX.sound ?_
 unfold LX.S
 rw [AZ]
 intro i1 f1
 have s1:=(Sp.nil G).row f1 m.av
 intro i3 f3
 have s3:=s1.row f3 b.av
 intro i5 f5
 have s5:=s3.row f5 c.av
 intro i7 f7
 have s7:=s5.row f7 bA.zero.av
 revert s7
 generalize ah.upd _ i7 _ = G8
 intro s7
 have fin:∀ {M:bA} {G2:ah},M.ok -> Sp [] G [ar i7 bA.zero.av,ar i5 c.av,ar i3 b.av,ar i1 M.av] G2 ->
   wv (lq T G2 aG (.ptr i1 [] 0)) fun v39=>wg (ax T G2 aG (.ptr i7 [] 0) v39) fun G40=>wv (lq T G40 aG (.ptr i7 [] 0)) fun v41=>Q v41 G40:=by
  intro M G2 hM s
  refine ae (cJ dB (ar.own (i:=3) s rfl) (bA.fits hM)) ?_
  refine k7 (i:=0) s rfl bA.bD hM fun G40 s40=>?_
  refine ae (cJ dB (ar.own (i:=0) s40 rfl) (bA.fits hM)) ?_
  exact hQ M hM _ s40.ch
 refine ae (gL (i:=3) s7 rfl hm).2.2.2.1 ?_
 refine ae (Bq.mS (ar.own (i:=2) s7 rfl) hb) ?_
 rw [wi,aa]
 refine Gv _ (i:=3) s7 rfl fun G12 s12=>?_
 have h12:({ m with index:=IntKind.i64.wrap (m.index + b.index) }:bA).ok:=⟨hm.kind,hm.id,hm.amount,IC _,hm.next,hm.hash,hm.secret,hm.note⟩
 generalize ({ m with index:=IntKind.i64.wrap (m.index + b.index) }:bA) = M1 at s12 h12
 have s12:Sp [] G [ar i7 bA.zero.av,ar i5 c.av,ar i3 b.av,ar i1 M1.av] G12:=s12
 refine ae (gL (i:=3) s12 rfl h12).2.2.2.2.1 ?_
 refine ae (Bq.ML (ar.own (i:=2) s12 rfl) hb) ?_
 rw [wi,aa]
 refine MF _ (i:=3) s12 rfl fun G16 s16=>?_
 have h16:({ M1 with next:=IntKind.i64.wrap (M1.next + b.next) }:bA).ok:=⟨h12.kind,h12.id,h12.amount,h12.index,IC _,h12.hash,h12.secret,h12.note⟩
 generalize ({ M1 with next:=IntKind.i64.wrap (M1.next + b.next) }:bA) = M2 at s16 h16
 have s16:Sp [] G [ar i7 bA.zero.av,ar i5 c.av,ar i3 b.av,ar i1 M2.av] G16:=s16
 refine ae (Bq.MG (ar.own (i:=2) s16 rfl) hb) ?_
 intro J46
 have p46:∀ {M:bA} {G2:ah},M.ok -> Sp [] G [ar i7 bA.zero.av,ar i5 c.av,ar i3 b.av,ar i1 M.av] G2 -> J46 G2:=by
  intro M G20 hM s20
  simp -zeta only [J46]
  refine ae (Bq.MM (ar.own (i:=2) s20 rfl) hb) ?_
  intro J45
  have p45:∀ {M:bA} {G2:ah},M.ok -> Sp [] G [ar i7 bA.zero.av,ar i5 c.av,ar i3 b.av,ar i1 M.av] G2 -> J45 G2:=by
   intro M G30 hM s30
   simp -zeta only [J45]
   have hg:=ar.own (i:=2) s30 rfl
   refine ae (Bq.uT hg hb) ?_
   rw [dy,aa,fg]
   refine ⟨fun _=>?_,fun _=>fin hM s30⟩
   refine ae (Bq.uT hg hb) ?_
   refine fK (km (c:=.int .i64 b.kind) (u:=.int .i64 M.kind) (ar.own (i:=3) s30 rfl) rfl rfl hO rfl rfl rfl) ?_
   have h34:({ M with kind:=b.kind }:bA).ok:=⟨hb.kind,hM.id,hM.amount,hM.index,hM.next,hM.hash,hM.secret,hM.note⟩
   exact fin h34 (Sp.setRow (j:=3) s30 rfl ({ M with kind:=b.kind }:bA).av)
  cases b.mine with
  | false=>
   rw [aM]
   exact p45 hM s20
  | true=>
   rw [aX]
   refine ae (Cf.pT (ar.own (i:=1) s20 rfl) hc) ?_
   refine ae (gL (i:=3) s20 rfl hM).2.2.2.2.1 ?_
   rw [bS,aa]
   refine bJ.use hc.seed fun G26 c26=>?_
   have s26:=s20.tmp c26
   have hx:=kc hc.seed (IntKind.i64.wrap (M.next - 1))
   generalize fH c.seed (IntKind.i64.wrap (M.next - 1)) = X at hx
   refine ae (hi0 _) ?_
   refine ae (hi1 _) ?_
   refine Em (i:=3) hx hM s26 rfl fun G29 s29=>?_
   exact p45 (M:={ M with secret:=X.1 }) ⟨hM.kind,hM.id,hM.amount,hM.index,hM.next,hM.hash,hx,hM.note⟩ s29
 cases b.other with
 | false=>
  rw [aM]
  exact p46 h16 s16
 | true=>
  rw [aX]
  refine ae (Bq.Gz (ar.own (i:=2) s16 rfl) hb) ?_
  refine Em (i:=3) hb.secret h16 s16 rfl fun G19 s19=>?_
  exact p46 (M:={ M2 with secret:=b.secret }) ⟨h16.kind,h16.id,h16.amount,h16.index,h16.next,h16.hash,hb.secret,h16.note⟩ s19
theorem Mq {n:Nat} {cs:List ag} (h:uni n cs = true):∀ x ∈ cs,sz x = n:=by
 intro x hx
 unfold Esc.uni at h
 simpa using List.all_eq_true.1 h x hx
theorem Fb {n j:Nat} {cs:List ag} {c:ag} (h:uni n cs = true) (hc:sz c = n):uni n (cs.set j c) = true:=by
 unfold Esc.uni
 refine List.all_eq_true.2 fun x hx=>?_
 rcases List.mem_or_eq_of_mem_set hx with hx | rfl
 ·simpa using Mq h x hx
 ·simpa using hc
theorem Mx {n:Nat}:∀ {cs:List ag} {j:Nat},uni n cs = true -> j ≤ cs.length -> ((cs.map sz).take j).sum = j * n
 | cs,0,_,_=>by simp
 | [],j + 1,_,hj=>by simp at hj
 | c :: cs,j + 1,h,hj=>by
  have h1:=Mq h c (by simp)
  have h2:uni n cs = true:=by
   unfold Esc.uni at h ⊢
   simp only [List.all_cons,Bool.and_eq_true] at h
   exact h.2
  have:=Mx (cs:=cs) (j:=j) h2 (by simpa using hj)
  rw [List.map_cons,List.take_succ_cons,List.sum_cons,this,h1,Nat.succ_mul,Nat.add_comm]
theorem MW {i j:Nat} {v:ag} {l:List bA} {u:bA} (hs:Sp F0 G0 ps G) (hi:ps[i]? = some (bj 70 v (l.map bA.av))) (hj:j < l.length) (hu:u.ok) :
  ∃ a,aL T aR v (.int .i64 (j:Int)) = some a /\ ∀ {K:ah -> Prop},(∀ G',Sp F0 G0 (ps.set i (bj 70 v ((l.set j u).map bA.av))) G' -> K G') -> wg (ax T G aG a u.av) K:=by
 have ho:=bj.own hs hi
 rcases ho with ⟨_,h⟩ | ⟨id,len,cap,cs,rfl,hg,hc,hl,hun,hv⟩
 ·rw [List.map_eq_nil_iff] at h
  rw [h] at hj
  simp at hj
 ·have hlen:l.length = len:=by
   have:=congrArg List.length hv
   rw [List.length_map,List.length_take] at this
   omega
  refine ⟨.ptr id [0 + j] (0 + j * 70),?_,fun {K} hK=>?_⟩
  ·simp only [aL,zc,show fO.desc = .slice aG from rfl,dB]
   rw [if_pos ⟨by omega,by omega⟩]
   rfl
  ·rw [Nat.zero_add,Nat.zero_add]
   have hjc:j < cs.length:=by omega
   refine fK (st1 (u:=cs[j]) hg rfl (Mx hun (by omega)) (List.getElem?_eq_getElem hjc) dB (bA.fits hu) (by rw [Mq hun _ (List.getElem_mem hjc),bA.sz hu]) (bA.okv u)) (hK _ ?_)
   refine hs.call hi (bj 70 (.slice id [] 0 0 len cap) ((l.set j u).map bA.av)) fun F h k2=>?_
   obtain ⟨_,rfl⟩:=h
   refine k2 _ _ ⟨.inr ⟨id,len,cap,cs.set j u.av,rfl,ah.fc _ _ _,by rw [List.length_set]; exact hc,hl,Fb hun (bA.sz hu),?_⟩,rfl⟩ (by simpa [rowOf] using Go.Esc.M.tG hg (by simp))
   rw [List.map_set,hv,List.take_set]
def m1M:bA:={ bA.zero with kind:=-1 }
def m2M:bA:={ bA.zero with kind:=-2 }
theorem MS:m1M.ok:=⟨gQ (-1) (by decide) (by decide),cD,cD,cD,cD,rfl,rfl,by simp [m1M,bA.zero]⟩
theorem MR:m2M.ok:=⟨gQ (-2) (by decide) (by decide),cD,cD,cD,cD,rfl,rfl,by simp [m2M,bA.zero]⟩
theorem MI:bk T aG [(0,.int .i64 (-1))] = some m1M.av:=rfl
theorem MH:bk T aG [(0,.int .i64 (-2))] = some m2M.av:=rfl
theorem Mv {c:CfM} {f:StF} {m:bA} (hc:c.ok) (I:iC f) (hm:m.ok):∀ x ∈ (mC c f m).1,x.ok:=by
 intro x hx
 unfold mC at hx
 split at hx
 ·cases hx
 ·simp only [List.mem_append] at hx
  rcases hx with ((hx | hx) | hx) | hx
  ·exact My hc hm x hx
  ·split at hx
   ·rcases List.mem_append.1 hx with hx | hx
    ·exact Mt I.oko _ _ x hx
    ·rw [List.mem_singleton.1 hx]; exact wC I.ok
   ·cases hx
  ·exact My hc hm x hx
  ·exact Mt I.oko _ _ x hx
theorem xp.use {f:StF} {c:CfM} {m:bA} {vo vp vh:ag} (hS:kW G f vo vp vh) (I:iC f) (hc:c.ok) (hm:m.ok) (hQ:∀ G',Ch [] G [] G' -> Q (.bool true) G'):al P xp.n [c.av,f.s.av vo vp vh,m.av] G Q:=by
 have ho:=hS.ok
 have hl:=hS.lv
 have aok:=Mv hc I hm
 have alen:=Mw (f:=f) (c:=c) (m:=m)
 have hlo:=I.lo
 obtain ⟨AN,hAN⟩:∃ x,x = mC c f m:=⟨_,rfl⟩
 rw [<- hAN] at aok alen
 refine xp.sound ?_
 unfold xp.S
 intro i1 f1
 have s1:=(Sp.nil G).row f1 c.av
 intro i3 f3
 have s3:=s1.row f3 (f.s.av vo vp vh)
 intro i5 f5
 have s5:=s3.row f5 m.av
 revert s5
 generalize ah.upd _ i5 _ = G6
 intro s5
 refine ae (St.ld (ar.own (i:=1) s5 rfl) ho hl) ?_
 refine dM.use (hS.mv s5.ch) fun wo wp wh G9 t9=>?_
 have s9:Sp [] G [bj 34 wh (f.h.map cB.av),bj 36 wp (f.p.map aK.av),bj 36 wo (f.o.map aK.av),ar i5 m.av,ar i3 (f.s.av vo vp vh),ar i1 c.av] G9:=yx s5 t9
 have lC:bz wo /\ bz wp /\ bz wh:=⟨(bj.own (i:=2) s9 rfl).leaf,(bj.own (i:=1) s9 rfl).leaf,(bj.own (i:=0) s9 rfl).leaf⟩
 refine St.nw s9 ho lC fun i10 G12 s12=>?_
 have s12:Sp [] G [ar i10 (f.s.av wo wp wh),bj 34 wh (f.h.map cB.av),bj 36 wp (f.p.map aK.av),bj 36 wo (f.o.map aK.av),ar i5 m.av,ar i3 (f.s.av vo vp vh),ar i1 c.av] G12:=s12
 refine ae (Cf.ld (ar.own (i:=6) s12 rfl) hc) ?_
 refine ae (St.ld (ar.own (i:=0) s12 rfl) ho lC) ?_
 refine ae (gL (i:=4) s12 rfl hm).2.2.2.2.2.2.2.2 ?_
 refine cW.use (kW.copy (i:=3) (j:=2) (k:=1) hS s12 rfl rfl rfl) hc hm fun w16 G17 t17=>?_
 rw [<- hAN] at t17 ⊢
 have s17:Sp [] G [bj 70 w16 (AN.1.map bA.av),ar i10 (f.s.av wo wp wh),bj 34 wh (f.h.map cB.av),bj 36 wp (f.p.map aK.av),bj 36 wo (f.o.map aK.av),ar i5 m.av,ar i3 (f.s.av vo vp vh),ar i1 c.av] G17:=yx s12 t17
 refine ae (tv0 _ _) ?_
 refine ae (tv1 _ _) ?_
 refine ae (Cf.ld (ar.own (i:=7) s17 rfl) hc) ?_
 refine ae (St.ld (ar.own (i:=1) s17 rfl) ho lC) ?_
 refine ae (gL (i:=5) s17 rfl hm).2.2.2.2.2.2.2.2 ?_
 refine cW.use (kW.copy (i:=4) (j:=3) (k:=2) hS s17 rfl rfl rfl) hc hm fun w23 G24 t24=>?_
 rw [<- hAN] at t24 ⊢
 have s24:Sp [] G [bj 70 w23 (AN.1.map bA.av),bj 70 w16 (AN.1.map bA.av),ar i10 (f.s.av wo wp wh),bj 34 wh (f.h.map cB.av),bj 36 wp (f.p.map aK.av),bj 36 wo (f.o.map aK.av),ar i5 m.av,ar i3 (f.s.av vo vp vh),ar i1 c.av] G24:=yx s17 t24
 refine ae (tv0 _ _) ?_
 refine ae (tv1 _ _) ?_
 refine ae (Cf.ld (ar.own (i:=8) s24 rfl) hc) ?_
 refine ae (St.ld (ar.own (i:=7) s24 rfl) ho hl) ?_
 refine ae (gL (i:=6) s24 rfl hm).2.2.2.2.2.2.2.2 ?_
 refine LS.use (hS.mv s24.ch) I hc hm fun w30 G31 t31=>?_
 rw [<- hAN] at t31 ⊢
 have s31:Sp [] G [bj 70 w30 (AN.1.map bA.av),bj 70 w23 (AN.1.map bA.av),bj 70 w16 (AN.1.map bA.av),ar i10 (f.s.av wo wp wh),bj 34 wh (f.h.map cB.av),bj 36 wp (f.p.map aK.av),bj 36 wo (f.o.map aK.av),ar i5 m.av,ar i3 (f.s.av vo vp vh),ar i1 c.av] G31:=yx s24 t31
 refine ae (tv0 _ _) ?_
 refine ae (tv1 _ _) ?_
 clear hAN t17 t24 t31
 generalize AN.1 = A at aok alen s31
 generalize AN.2 = e
 intro J80
 have go:∀ G47,Sp [] G [bj 70 w30 (A.map bA.av),bj 70 w23 (A.map bA.av),bj 70 w16 (A.map bA.av),ar i10 (f.s.av wo wp wh),bj 34 wh (f.h.map cB.av),bj 36 wp (f.p.map aK.av),bj 36 wo (f.o.map aK.av),ar i5 m.av,ar i3 (f.s.av vo vp vh),ar i1 c.av] G47 -> J80 (.bool false) G47:=by
  intro G47 s47
  simp -zeta only [J80,aM]
  intro R49 hR
  have loop:∀ (n j:Nat) (Bs:List bA) (G50:ah),n + j = A.length -> Bs.length = A.length ->
    Sp [] G [bj 70 w30 (A.map bA.av),bj 70 w23 (A.map bA.av),bj 70 w16 (Bs.map bA.av),ar i10 (f.s.av wo wp wh),bj 34 wh (f.h.map cB.av),bj 36 wp (f.p.map aK.av),bj 36 wo (f.o.map aK.av),ar i5 m.av,ar i3 (f.s.av vo vp vh),ar i1 c.av] G50 ->
    R49 [.ptr i3 [] 0,.ptr i10 [] 0,w16,w23,w30,.int .i64 (j:Nat)] G50:=by
   intro n
   induction n with
   | zero=>
    intro j Bs G50 hj hB s50
    refine hR _ _ _ _ _ _ _ ?_
    refine ae (Ie (bj.own (i:=2) s50 rfl).is) ?_
    rw [aH,aa,decide_eq_false (by omega),aM]
    refine ae MH ?_
    refine Mu (i:=2) s50 rfl MR (by omega) fun w G67 s67=>?_
    refine ae (Ie (bj.own (i:=2) s67 rfl).is) ?_
    refine ae (Ie (bj.own (i:=0) s67 rfl).is) ?_
    rw [wi,i64_in (by omega) (by omega),aa,bC,aa,decide_eq_true (by rw [List.length_append,List.length_singleton,hB]; omega),aX]
    refine eV.use (bj.own (i:=1) s67 rfl).is (bj.own (i:=0) s67 rfl).is aok aok (by omega) (by omega) ?_
    rw [decide_eq_true rfl,aX]
    refine ae (St.ld (ar.own (i:=3) s67 rfl) ho lC) ?_
    refine ae (St.ld (ar.own (i:=8) s67 rfl) ho hl) ?_
    refine xe.same (kW.copy (i:=6) (j:=5) (k:=4) hS s67 rfl rfl rfl) (hS.mv s67.ch) fun G77 c77=>?_
    exact hQ _ (s67.tmp c77).ch
   | succ n ih=>
    intro j Bs G50 hj hB s50
    refine hR _ _ _ _ _ _ _ ?_
    refine ae (Ie (bj.own (i:=2) s50 rfl).is) ?_
    rw [aH,aa,decide_eq_true (by omega),aX]
    refine ae MI ?_
    obtain ⟨a,a1,a2⟩:=MW (i:=2) (j:=j) s50 rfl (by omega) MS
    refine ae a1 ?_
    refine a2 fun G61 s61=>?_
    rw [wi,i64_in (by omega) (by omega),aa]
    exact ih (j + 1) (Bs.set j m1M) G61 (by omega) (by rw [List.length_set]; exact hB) s61
  exact loop A.length 0 A G47 (by omega) rfl s47
 refine eV.use (bj.own (i:=2) s31 rfl).is (bj.own (i:=0) s31 rfl).is aok aok (by omega) (by omega) ?_
 rw [decide_eq_true rfl,fN,aa,Bool.not_true,aM]
 refine eV.use (bj.own (i:=1) s31 rfl).is (bj.own (i:=0) s31 rfl).is aok aok (by omega) (by omega) ?_
 rw [decide_eq_true rfl,fN,aa,Bool.not_true,aM,dy,aa,fg]
 refine ⟨fun h=>absurd rfl h,fun _=>?_⟩
 rw [aa,fg]
 refine ⟨fun h=>absurd rfl h,fun _=>?_⟩
 refine ae (St.ld (ar.own (i:=3) s31 rfl) ho lC) ?_
 refine ae (St.ld (ar.own (i:=8) s31 rfl) ho hl) ?_
 refine xe.same (kW.copy (i:=6) (j:=5) (k:=4) hS s31 rfl rfl rfl) (hS.mv s31.ch) fun G45 c45=>?_
 rw [fN,aa,Bool.not_true]
 exact go G45 (s31.tmp c45)
end
end Go.Esc.M
namespace Go.Esc.M
open Go Go.Esc
theorem MJ {G:ah} {R d:Nat} {v:ag} {m:Nat} (h:wt T G R (d + 3) L9 v m):∃ o:BeM,v = o.av /\ o.ok:=by
 obtain ⟨cs,ms,rfl,hf,rfl⟩:=vr Ma rfl h
 obtain ⟨c1,cs,m1,ms,rfl,rfl,h1,hf⟩:=l6 hf
 obtain ⟨c2,cs,m2,ms,rfl,rfl,h2,hf⟩:=l6 hf
 obtain ⟨c3,cs,m3,ms,rfl,rfl,h3,hf⟩:=l6 hf
 obtain ⟨c4,cs,m4,ms,rfl,rfl,h4,hf⟩:=l6 hf
 obtain ⟨c5,cs,m5,ms,rfl,rfl,h5,hf⟩:=l6 hf
 obtain ⟨c6,cs,m6,ms,rfl,rfl,h6,hf⟩:=l6 hf
 obtain ⟨rfl,rfl⟩:=E4 hf
 obtain ⟨a1,rfl,w1,_⟩:=rI cA rfl h1
 obtain ⟨a2,rfl,w2,_⟩:=rI cA rfl h2
 obtain ⟨a3,rfl,_⟩:=Jk kC rfl h3
 obtain ⟨a4,rfl,w4,_⟩:=xL cd rfl dz rfl h4
 obtain ⟨a5,rfl,_⟩:=Jk kC rfl h5
 obtain ⟨a6,rfl,w6,_⟩:=rI hO rfl h6
 exact ⟨⟨a1,a2,a3,a4,a5,a6⟩,rfl,⟨ri.1 w1,ri.1 w2,w4,ri.1 w6⟩⟩
theorem MC {G:ah} {R d:Nat} {v:ag} {m:Nat} (h:wt T G R (d + 4) L8 v m):∃ l:List BeM,rG 37 G v (l.map BeM.av) /\ (∀ u ∈ l,u.ok) /\ l.length ≤ m:=by
 obtain ⟨xs,ms,hro,hall,hms,hR,_⟩:=K4 BeM.av (fun u m=>u.ok /\ 1 ≤ m) Me rfl Ma (fun c m h=>by
  obtain ⟨u,hu,ho⟩:=MJ h
  obtain ⟨_,ms,_,_,e⟩:=vr Ma rfl h
  exact ⟨u,hu,ho,by omega⟩) h
 have hlen:=hall.length fun c m h=>h.2
 refine ⟨xs,hro,fun u hu=>?_,by omega⟩
 obtain ⟨m,hm,_⟩:=hall.mem hu
 exact hm.1
theorem MT {G:ah} {v:ag} {l:List BeM} {j:Nat} {u:BeM} (h:fV 37 G v (l.map BeM.av)) (hj:l[j]? = some u):∃ a,aL T L8 v (.int .i64 (j:Int)) = some a /\ lq T G L9 a = some u.av :=
 h.at_ (k:=.i64) (i:=Mb) (ie:=Mc) (T:=T) (t:=L8) (e:=L9) Me rfl Ma (by rw [List.getElem?_map,hj]; rfl) rfl
theorem MP {G:ah} {v:ag} {l:List BeM} (h:fV 37 G v (l.map BeM.av)):gF T G L8 v = some (.int .i64 (l.length:Nat)):=by
 rw [h.len (i:=Mb) Me rfl,List.length_map]
theorem Mo {s:Bool}:aw T .sub au (.int .i64 1) (.int .i64 (bI s)) = some (.int .i64 (bI (!s))):=by cases s <;> rfl
theorem MV {s:Bool}:aw T .add au (.int .i64 (bI s)) (.int .i64 1) = some (.int .i64 (bI s + 1)):=by cases s <;> rfl
theorem Mk {G:ah} {d ops bs:ag} {m1 m2 m3:Nat} (hT:Tab G) (h1:wt T G reachBytes 6 dj d m1) (h2:wt T G reachBytes 6 iq ops m2) (h3:wt T G reachBytes 6 L8 bs m3) :
  al P xo.n [d,ops,bs] G fun v _=>v = .bool true:=by
 obtain ⟨d,rfl,hd⟩:=Jn h1
 obtain ⟨l,hro,hok,hlen⟩:=Jm h2
 have hlen:l.length ≤ 140737488351232:=hlen
 obtain ⟨b,hrb,hokb,hlenb⟩:=MC h3
 refine xo.sound ?_
 unfold xo.S
 intro i1 f1
 have s1:=(Sp.nil G).row f1 d.av
 revert s1
 generalize ah.upd _ i1 _ = G2
 intro s1
 refine ed.use (hT.mono s1.ro) fun G4 c4=>?_
 have s4:Sp [] G [ar i1 d.av] G4:=s1.tmp c4
 rw [fN,aa,Bool.not_true,aM]
 refine ae (Dl.ld (ar.own (i:=0) s4 rfl) hd) ?_
 refine ef.use hd (fun _ G8 c8=>?_) fun hb tb G8 t8=>?_
 ·refine ae (tv0 _ _) ?_
  refine ae (tv1 _ _) ?_
  rw [fN,aa,Bool.not_false,aX]
 ·refine ae (tv0 _ _) ?_
  refine ae (tv1 _ _) ?_
  rw [fN,aa,Bool.not_true,aM]
  have s8:Sp [] G [iR tb (Hi d),ar i1 d.av] G8:=yx s4 t8
  have s8:Sp [] G [iR tb (Hi d)] G8:=s8.take 1
  have k0:=(J4 hd hb).more (show 0 ≤ 10240 by decide)
  have f0:=M7 d
  generalize Hi d = t0 at s8 k0 f0
  intro R12 hR12
  have loop:∀ (n j:Nat) (t:lT) (G13:ah),n + j = l.length + 1 -> kx t 10240 -> Few t -> Sp [] G [iR tb t] G13 -> R12 [ops,bs,.ptr tb [] 0,.int .i64 (j:Nat)] G13:=by
   intro n
   induction n with
   | zero=>
    intro j t G13 hj k hf s13
    refine hR12 _ _ _ _ _ ?_
    refine ae (Fk (hro.cap.jf.ch' s13.ch)) ?_
    rw [jl,aa,decide_eq_false (by omega),aM]
   | succ n ih=>
    intro j t G13 hj k hf s13
    refine hR12 _ _ _ _ _ ?_
    refine ae (Fk (hro.cap.jf.ch' s13.ch)) ?_
    rw [jl,aa,decide_eq_true (by omega),aX]
    intro R20 hR20
    have fin:∀ G21,Sp [] G [iR tb t] G21 -> R20 [ops,bs,.ptr tb [] 0,.int .i64 (j:Nat),.int .i64 2] G21:=by
     intro G21 s21
     refine hR20 _ _ _ _ _ _ ?_
     rw [aH,aa,decide_eq_false (by decide),aM]
     refine ae (Fk (hro.cap.jf.ch' s21.ch)) ?_
     rw [aH,aa,aE]
     refine ⟨fun hlt=>?_,fun hlt=>?_⟩
     ·obtain ⟨o,ho⟩:∃ o,l[j]? = some o:=⟨_,List.getElem?_eq_getElem (by omega)⟩
      have hoo:=hok o (List.mem_of_getElem? ho)
      obtain ⟨a,a1,a2⟩:=KB (hro.cap.jf.ch' s21.ch) ho
      refine ae a1 ?_
      refine ae a2 ?_
      refine s21.call (i:=0) rfl (iR tb (stepT t o)) fun F1 h1 kk=>?_
      refine eU.use h1 k (by omega) hoo fun F2 G120 h2 c2=>?_
      rw [wi,i64_in (by omega) (by omega),aa]
      exact ih (j + 1) (stepT t o) G120 (by omega) (M9 (HL k hoo) (MY k hf hoo)) (MY k hf hoo) (kk F2 G120 h2 c2)
     ·rw [wi,i64_in (by omega) (by omega),aa]
      exact ih (j + 1) t G21 (by omega) k hf s21
    have one:∀ (s:Bool) (G21:ah),Sp [] G [iR tb t] G21 -> (∀ G',Sp [] G [iR tb t] G' -> R20 [ops,bs,.ptr tb [] 0,.int .i64 (j:Nat),.int .i64 (bI s + 1)] G') -> R20 [ops,bs,.ptr tb [] 0,.int .i64 (j:Nat),.int .i64 (bI s)] G21:=by
     intro s G21 s21 next
     obtain ⟨F1,hF1⟩:=s21.get (i:=0) rfl
     obtain ⟨lv,wq,a⟩:=iR.at_ hF1
     have I:=k.f s
     have ho:=I.ok
     have hl:bz (lv s).o /\ bz (lv s).p /\ bz (lv s).h:=a.lv s
     have hS:=a.D5 k s
     have J:=k.f (!s)
     have hS':=a.D5 k (!s)
     have hc':=k.c (!s)
     have hTG:=hT.mono s21.ro
     refine hR20 _ _ _ _ _ _ ?_
     rw [aH,aa,decide_eq_true (by cases s <;> decide),aX]
     refine ae jv ?_
     refine ae rN ?_
     refine ae (rM s) ?_
     refine ae (a.ldS k s) ?_
     refine dM.use hS fun wo wp wh G33 t33=>?_
     have lC:bz wo /\ bz wp /\ bz wh:=⟨(bj.own (i:=2) t33 rfl).leaf,(bj.own (i:=1) t33 rfl).leaf,(bj.own (i:=0) t33 rfl).leaf⟩
     refine St.nw t33 ho lC fun i34 G36 s36=>?_
     have a36:=a.mv s36.ch
     refine ae jv ?_
     refine ae vI ?_
     refine ae (vH s) ?_
     refine ae (a36.ldC k s) ?_
     refine ae (St.ld (ar.own (i:=0) s36 rfl) ho lC) ?_
     refine gz.use (hTG.mono s36.ro) (kW.copy (i:=3) (j:=2) (k:=1) hS s36 rfl rfl rfl) (k.c s) fun G43 c43=>?_
     have s43:=s36.tmp c43
     have hio:=GI hS
     obtain ⟨hi,hhi⟩:∃ x,uc (t.f s) = x:=⟨_,rfl⟩
     rw [hhi] at hio ⊢
     refine Ib s43 hio fun i44 G46 s46=>?_
     have a46:=a.mv s46.ch
     have hS46:=hS.mv s46.ch
     have nxt:∀ {G':ah},Ch [] G21 [] G' -> wv (aw T .add au (.int .i64 (bI s)) (.int .i64 1)) fun v113=>R20 [ops,bs,.ptr tb [] 0,.int .i64 (j:Nat),v113] G':=by
      intro G' c
      rw [MV,aa]
      exact next G' (s21.tmp c)
     intro J110
     have p110:∀ G81,Sp [] G21 [ar i44 hi.av] G81 -> J110 (.bool false) G81:=by
      intro G81 s81
      simp -zeta only [J110,aM]
      have a81:=a.mv s81.ch
      refine ae (MP (hrb.cap.jf.ch' (s21.tmp s81.ch).ch)) ?_
      rw [aH,aa,aE]
      refine ⟨fun hlt=>?_,fun _=>nxt s81.ch⟩
      obtain ⟨o,ho'⟩:∃ o,b[j]? = some o:=⟨_,List.getElem?_eq_getElem (by omega)⟩
      have hoo:=hokb o (List.mem_of_getElem? ho')
      refine ae Mo ?_
      refine ae jv ?_
      refine ae vI ?_
      refine ae (vH (!s)) ?_
      refine ae (a81.ldC k (!s)) ?_
      refine ae Mo ?_
      refine ae jv ?_
      refine ae rN ?_
      refine ae (rM (!s)) ?_
      refine ae (a81.ldS k (!s)) ?_
      refine ae (gL (i:=0) s81 rfl hio).2.2.2.2.2.2.2.2 ?_
      obtain ⟨ad,a1,a2⟩:=MT (hrb.cap.jf.ch' (s21.tmp s81.ch).ch) ho'
      refine ae a1 ?_
      refine ae a2 ?_
      refine ae Mo ?_
      refine ae jv ?_
      refine ae vI ?_
      refine ae (vH (!s)) ?_
      refine ae (a81.ldC k (!s)) ?_
      refine LX.use hio hoo hc' fun m' hm' G104 c104=>?_
      have s104:=s81.tmp c104
      have a104:=a.mv s104.ch
      refine ⟨⟨a104.ldS k (!s),a104.ldC k (!s),trivial⟩,?_⟩
      refine xp.use (hS'.mv s104.ch) J hc' hm' fun G106 c106=>?_
      rw [fN,aa,Bool.not_true,aM]
      exact nxt (s104.tmp c106).ch
     refine ae (gL (i:=0) s46 rfl hio).2.2.2.2.2.2.2.2 ?_
     refine ae jv ?_
     refine ae vI ?_
     refine ae (vH s) ?_
     refine ae (a46.ldC k s) ?_
     refine ae jv ?_
     refine ae rN ?_
     refine ae (rM s) ?_
     refine ae (a46.ldS k s) ?_
     refine LV.use hS46 (k.c s) fun G57 c57=>?_
     rw [hhi]
     have s57:=s46.tmp c57
     refine ⟨⟨(gL (i:=0) s57 rfl hio).2.2.2.2.2.2.2.2,trivial⟩,?_⟩
     refine ae (F9 hio hio) ?_
     rw [decide_eq_true rfl,Bool.not_true,aM]
     refine ae (St.ld (ar.own (i:=1) s57 rfl) ho lC) ?_
     refine ae jv ?_
     refine ae rN ?_
     refine ae (rM s) ?_
     refine ae ((a.mv s57.ch).ldS k s) ?_
     refine xe.same (kW.copy (i:=4) (j:=3) (k:=2) hS s57 rfl rfl rfl) (hS.mv s57.ch) fun G65 c65=>?_
     rw [fN,aa,Bool.not_true,aM]
     have s65:=s57.tmp c65
     have a65:=a.mv s65.ch
     refine ae Mo ?_
     refine ae jv ?_
     refine ae vI ?_
     refine ae (vH (!s)) ?_
     refine ae (a65.ldC k (!s)) ?_
     refine ae Mo ?_
     refine ae jv ?_
     refine ae rN ?_
     refine ae (rM (!s)) ?_
     refine ae (a65.ldS k (!s)) ?_
     refine ae (gL (i:=0) s65 rfl hio).2.2.2.2.2.2.2.2 ?_
     refine xp.use (hS'.mv s65.ch) J hc' hio fun G79 c79=>?_
     rw [fN,aa,Bool.not_true]
     exact p110 G79 ((s65.tmp c79).take 1)
    refine one false G13 s13 fun G' s'=>?_
    refine one true G' s' fun G'' s''=>?_
    exact fin G'' s''
  exact loop (l.length + 1) 0 t0 G8 (by omega) k0 f0 s8
end Go.Esc.M
