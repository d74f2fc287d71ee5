import Derived.Test.YtkojimdacnohpaaGreatDoorLNe
import Derived.Test.YtkojimdacnohpaaGreatDoorLMe
import Derived.Test.YtkojimdacnohpaaGreatDoorLNa
import Derived.Test.YtkojimdacnohpaaGreatDoorLVc
import Derived.Test.YtkojimdacnohpaaGreatDoorLFg
import Derived.Test.YtkojimdacnohpaaGreatDoorLDj
set_option linter.unusedSimpArgs false
set_option linter.unusedVariables false
set_option maxRecDepth 20000
namespace Go.Esc.M
open Go Go.Esc
def uc (f:StF):bA:={ bA.zero with kind:=6,index:=IntKind.i64.wrap (f.s.loc + 1),next:=f.s.ack,secret:=if 0 < f.s.ack then (GK f.h (f.s.ack - 1)).1 else h0 }
def lW (c:CfM) (m:bA):Bool :=
 if 0 < m.next then decide (m.next ≤ 281474976710655) && (decide ((fH c.seed (m.next - 1)).2 = 0) && decide ((fH c.seed (m.next - 1)).1 = m.secret))
 else if m.next = 0 then decide (m.secret = h0) else true
def lY (c:CfM) (f:StF) (m:bA):Int :=
 if m.kind ≠ 6 then 160 else if lW c m = false then 100 else if f.s.loc < m.next then 180
 else if m.next < 0 \/ (m.next ≠ f.s.loc /\ m.next ≠ IntKind.i64.wrap (f.s.loc - 1)) then 90
 else if m.index ≠ IntKind.i64.wrap (f.s.rem + 1) /\ (m.index ≠ f.s.rem \/ f.s.rem ≠ IntKind.i64.wrap (f.s.ack + 1)) then 90 else 0
def wL (l:List aK) (a b:Int):List bA:=((l.take (min b (l.length:Nat)).toNat).drop (max a 0).toNat).map oy
def Ef (c:CfM) (f:StF) (m:bA) (b:Bool):List bA:=if m.next = IntKind.i64.wrap (f.s.loc - 1) /\ f.s.behind = b then [pP c m.next] else []
def mC (c:CfM) (f:StF) (m:bA):List bA × Int :=
 if lY c f m ≠ 0 then ([],lY c f m) else
  (((Ef c f m true ++ (if m.index = f.s.rem then wL f.o f.s.heldA f.s.sgnA ++ [qd c f] else [])) ++ Ef c f m false) ++ wL f.o f.s.sgnA (f.o.length:Nat),0)
theorem GI {f:StF} {G:ah} {vo vp vh:ag} (hS:kW G f vo vp vh):(uc f).ok:=by
 refine ⟨gQ 6 (by decide) (by decide),cD,cD,IC _,hS.ok.ack,rfl,?_,by simp [uc,bA.zero]⟩
 show (if 0 < f.s.ack then (GK f.h (f.s.ack - 1)).1 else h0).length = 32
 split
 ·exact Dg hS.okh
 ·rfl
theorem tR {c:CfM} (hc:c.ok) {n:Int} (hn:I64 n):(pP c n).ok:=by
 unfold pP
 split
 ·exact bA.bD
 ·exact ⟨gQ 5 (by decide) (by decide),cD,cD,hn,cD,kd _,kc hc.seed n,by simp [bA.zero]⟩
theorem wC {c:CfM} {f:StF} (h:f.s.ok):(qd c f).ok:=by
 unfold qd
 exact ⟨gQ 4 (by decide) (by decide),cD,cD,h.rem,cD,gI _,rfl,by simp [bA.zero]⟩
theorem Gc (l:List aK) (a b:Int):(wL l a b).length ≤ l.length:=by
 unfold wL
 rw [List.length_map,List.length_drop,List.length_take]
 omega
theorem CN (c:CfM) (f:StF) (m:bA) (b:Bool):(Ef c f m b).length ≤ 1:=by
 unfold Ef; split <;> simp
section
variable {F0:List AId} {G0 G:ah} {ps:List LP} {Q:ag -> ah -> Prop}
theorem Ds {a b:Int}:bk T aG [(0,.int .i64 6),(3,.int .i64 a),(4,.int .i64 b)] = some (bA.av { bA.zero with kind:=6,index:=a,next:=b }) :=
 n5 (fun p hp=>by
  simp only [List.mem_cons,List.not_mem_nil,or_false] at hp
  rcases hp with rfl | rfl | rfl <;> rfl) rfl
theorem Ib {u:bA} {K:AId -> ah -> Prop} (hs:Sp F0 G0 ps G) (hu:u.ok) (hK:∀ i G',Sp F0 G0 (ar i u.av :: ps) G' -> K i G'):br G (.own gE) fun i G2=>wg (ax T G2 aG (.ptr i [] 0) u.av) fun G3=>K i G3 :=
 jQ hs dB (bA.fits hu) (by rw [bA.sz hu]; rfl) (bA.okv u) hK
set_option maxHeartbeats 2000000 in
theorem gz.use {f:StF} {c:CfM} {vo vp vh:ag} (hT:Tab G) (hS:kW G f vo vp vh) (hc:c.ok) (hQ:∀ G',Ch [] G [] G' -> Q (uc f).av G'):al P gz.n [c.av,f.s.av vo vp vh] G Q:=by
 have ho:=hS.ok
 have hl:=hS.lv
 have hok:=GI hS
 refine gz.sound ?_
 unfold gz.S
 rw [AZ]
 intro i1 f1
 have s1:=(Sp.nil G).row f1 c.av
 intro i3 f3
 have s3:=s1.row f3 (f.s.av vo vp vh)
 intro i5 f5
 have s5:=s3.row f5 bA.zero.av
 revert s5
 generalize ah.upd _ i5 _ = G6
 intro s5
 have hg:=ar.own (i:=1) s5 rfl
 refine ae (St.pq hg ho hl) ?_
 rw [bf,aa]
 refine ae (St.mi hg ho hl) ?_
 refine ae Ds ?_
 have hok0:({ bA.zero with kind:=6,index:=IntKind.i64.wrap (f.s.loc + 1),next:=f.s.ack }:bA).ok:=⟨gQ 6 (by decide) (by decide),cD,cD,IC _,ho.ack,rfl,rfl,by simp [bA.zero]⟩
 refine Ib s5 hok0 fun i11 G13 s13=>?_
 have hg:=ar.own (i:=2) s13 rfl
 refine ae (St.mi hg ho hl) ?_
 rw [de,aa,aE]
 have fin:∀ {G2:ah} {m:bA},Sp [] G [ar i11 m.av,ar i5 bA.zero.av,ar i3 (f.s.av vo vp vh),ar i1 c.av] G2 -> m = uc f ->
   wv (af T G2 aG (.ptr i11 [] 0)) fun v28=>wg (ax T G2 aG (.ptr i5 [] 0) v28) fun G29=>wv (af T G29 aG (.ptr i5 [] 0)) fun v30=>Q v30 G29:=by
  intro G2 m s hm
  subst hm
  refine ae (cJ dB (ar.own (i:=0) s rfl) (bA.fits hok)) ?_
  refine k7 (i:=1) s rfl bA.bD hok fun G29 s29=>?_
  refine ae (cJ dB (ar.own (i:=1) s29 rfl) (bA.fits hok)) ?_
  exact hQ _ s29.ch
 refine ⟨fun h1=>?_,fun h1=>?_⟩
 ·refine ae (St.r6 hg ho hl) ?_
  refine ae (St.mi hg ho hl) ?_
  have ha:=ho.ack
  rw [bS,i64_in (by have:=ha.1; omega) (by have:=ha.2; omega),aa]
  refine iV.use (hT.mono s13.ro) (hS.h.jf.ch' s13.ch) hS.okh hS.lh fun G20 c20=>?_
  have s20:=s13.tmp c20
  refine ae (hi0 _) ?_
  refine ae (hi1 _) ?_
  refine Em (i:=0) (Dg hS.okh) hok0 s20 rfl fun G23 s23=>?_
  exact fin s23 (by unfold uc; rw [if_pos h1])
 ·exact fin s13 (by unfold uc; rw [if_neg h1]; rfl)
theorem gb.use {c:CfM} {m:bA} (hc:c.ok) (hm:m.ok) (hQ:∀ G',Ch [] G [] G' -> Q (.bool (lW c m)) G'):al P gb.n [c.av,m.av] G Q:=by
 refine gb.sound ?_
 unfold gb.S
 unfold lW at hQ
 intro i1 f1
 have s1:=(Sp.nil G).row f1 c.av
 intro i3 f3
 have s3:=s1.row f3 m.av
 revert s3
 generalize ah.upd _ i3 _ = G4
 intro s3
 obtain ⟨_,_,_,_,m4,_,m6,_,_⟩:=gL (i:=0) s3 rfl hm
 refine ae m4 ?_
 rw [de,aa,aE]
 refine ⟨fun h1=>?_,fun h1=>?_⟩
 ·rw [if_pos h1] at hQ
  refine ae (Cf.pT (ar.own (i:=1) s3 rfl) hc) ?_
  refine ae m4 ?_
  have hn:=hm.next
  rw [bS,i64_in (by have:=hn.1; omega) (by have:=hn.2; omega),aa]
  refine gj.use hc.seed fun G11 c11=>?_
  have s11:=s3.tmp c11
  have hx:=kc hc.seed (m.next - 1)
  obtain ⟨X,hX⟩:∃ X,X = fH c.seed (m.next - 1):=⟨_,rfl⟩
  rw [<- hX] at hQ hx ⊢
  refine ae (hi0 _) ?_
  refine ae (hi1 _) ?_
  refine mZ s11 hx fun i14 G16 s16=>?_
  obtain ⟨_,_,_,_,m4,_,m6,_,_⟩:=gL (i:=1) s16 rfl hm
  refine ae m4 ?_
  rw [jl,aa,aE]
  refine ⟨fun h2=>?_,fun h2=>?_⟩
  ·rw [decide_eq_true h2,Bool.true_and] at hQ
   rw [bC,aa,aE]
   refine ⟨fun h3=>?_,fun h3=>?_⟩
   ·rw [decide_eq_true h3,Bool.true_and] at hQ
    refine ae (bE hx (ar.own (i:=0) s16 rfl)) ?_
    refine ae m6 ?_
    refine ae (Ax hx hm.secret) ?_
    exact hQ _ s16.ch
   ·rw [decide_eq_false h3,Bool.false_and] at hQ
    exact hQ _ s16.ch
  ·rw [decide_eq_false h2,Bool.false_and] at hQ
   exact hQ _ s16.ch
 ·rw [if_neg h1] at hQ
  refine ae m4 ?_
  rw [bC,aa,aE]
  refine ⟨fun h2=>?_,fun h2=>?_⟩
  ·rw [if_pos h2] at hQ
   refine ae m6 ?_
   refine ae (v:=.agg (h0.map u8v)) rfl ?_
   refine ae (Ax hm.secret (by rfl)) ?_
   exact hQ _ s3.ch
  ·rw [if_neg h2] at hQ
   exact hQ _ s3.ch
set_option maxHeartbeats 2000000 in
theorem gd.use {f:StF} {c:CfM} {m:bA} {vo vp vh:ag} (hS:kW G f vo vp vh) (hc:c.ok) (hm:m.ok) (hQ:∀ G',Ch [] G [] G' -> Q (.int .i64 (lY c f m)) G'):al P gd.n [c.av,f.s.av vo vp vh,m.av] G Q:=by
 have ho:=hS.ok
 have hl:=hS.lv
 refine gd.sound ?_
 unfold gd.S
 unfold lY at hQ
 intro i1 f1
 have s1:=(Sp.nil G).row f1 c.av
 intro i3 f3
 have s3:=s1.row f3 (f.s.av vo vp vh)
 intro i5 f5
 have s5:=s3.row f5 m.av
 revert s5
 generalize ah.upd _ i5 _ = G6
 intro s5
 obtain ⟨m0,_,_,_,_,_,_,_,mw⟩:=gL (i:=0) s5 rfl hm
 refine ae m0 ?_
 rw [dy,aa,fg]
 refine ⟨fun h1=>?_,fun h1=>?_⟩
 ·rw [if_pos h1] at hQ
  exact hQ _ s5.ch
 rw [if_neg (fun hh=>hh h1)] at hQ
 refine ae (Cf.ld (ar.own (i:=2) s5 rfl) hc) ?_
 refine ae mw ?_
 refine gb.use hc hm fun G12 c12=>?_
 have s12:=s5.tmp c12
 rw [fN,aa]
 cases hp:lW c m with
 | false=>
  rw [hp,if_pos rfl] at hQ
  rw [Bool.not_false,aX]
  exact hQ _ s12.ch
 | true=>
 rw [hp,if_neg (by decide)] at hQ
 rw [Bool.not_true,aM]
 have s12:Sp [] G [ar i5 m.av,ar i3 (f.s.av vo vp vh),ar i1 c.av] G12:=s12
 obtain ⟨m0,_,_,m3,m4,_,_,_,mw⟩:=gL (i:=0) s12 rfl hm
 have hg:=ar.own (i:=1) s12 rfl
 refine ae m4 ?_
 refine ae (St.pq hg ho hl) ?_
 rw [de,aa,aE]
 refine ⟨fun h2=>?_,fun h2=>?_⟩
 ·rw [if_pos h2] at hQ
  exact hQ _ s12.ch
 rw [if_neg h2] at hQ
 intro J42
 have bad:(m.next < 0 \/ (m.next ≠ f.s.loc /\ m.next ≠ IntKind.i64.wrap (f.s.loc - 1))) -> J42 (.bool true) G12:=by
  intro hb
  rw [if_pos hb] at hQ
  simp -zeta only [J42,aX]
  exact hQ _ s12.ch
 have kA:¬ (m.next < 0 \/ (m.next ≠ f.s.loc /\ m.next ≠ IntKind.i64.wrap (f.s.loc - 1))) -> J42 (.bool false) G12:=by
  intro hb
  rw [if_neg hb] at hQ
  simp -zeta only [J42,aM]
  refine ae m3 ?_
  refine ae (St.kq hg ho hl) ?_
  rw [bf,aa,dy,aa,fg]
  refine ⟨fun h3=>?_,fun h3=>?_⟩
  ·refine ae m3 ?_
   refine ae (St.kq hg ho hl) ?_
   rw [dy,aa,fg]
   refine ⟨fun h4=>?_,fun h4=>?_⟩
   ·rw [if_pos ⟨h3,.inl h4⟩] at hQ
    exact hQ _ s12.ch
   ·refine ae (St.kq hg ho hl) ?_
    refine ae (St.mi hg ho hl) ?_
    rw [bf,aa,dy,aa,fg]
    refine ⟨fun h5=>?_,fun h5=>?_⟩
    ·rw [if_pos ⟨h3,.inr h5⟩] at hQ
     exact hQ _ s12.ch
    ·rw [if_neg (by rintro ⟨_,h | h⟩; exact h h4; exact h h5)] at hQ
     exact hQ _ s12.ch
  ·rw [if_neg (by rintro ⟨h,_⟩; exact h h3)] at hQ
   exact hQ _ s12.ch
 refine ae m4 ?_
 rw [aH,aa,aE]
 refine ⟨fun h3=>bad (.inl h3),fun h3=>?_⟩
 refine ae m4 ?_
 refine ae (St.pq hg ho hl) ?_
 rw [dy,aa,fg]
 refine ⟨fun h4=>?_,fun h4=>kA (by rintro (h | ⟨h,_⟩); exact h3 h; exact h h4)⟩
 refine ae m4 ?_
 refine ae (St.pq hg ho hl) ?_
 rw [bS,aa,dy,aa]
 by_cases h5:m.next = IntKind.i64.wrap (f.s.loc - 1)
 ·rw [decide_eq_true h5]
  exact kA (by rintro (h | ⟨_,h⟩); exact h3 h; exact h h5)
 ·rw [decide_eq_false h5]
  exact bad (.inr ⟨h4,h5⟩)
theorem BA {o:AId} {w:ag} {l:List bA} {x:bA} {rest:List LP} {K:ah -> Prop} (hs:Sp F0 G0 (ar o w :: bj 70 w (l.map bA.av) :: rest) G) (hx:x.ok) (hlen:l.length ≤ 100000000)
  (hK:∀ w' G',Sp F0 G0 (ar o w' :: bj 70 w' ((l ++ [x]).map bA.av) :: rest) G' -> K G') :
  bh T aR 1 [(0,x.av)] G fun v G1=>cc T G1 aR aR w v fun v2 G2=>wg (ax T G2 aR (.ptr o [] 0) v2) K:=by
 refine uY (T:=T) (ts:=aR) (e:=aG) (si:=fO) (ie:=fe) (i:=1) (vs:=l.map bA.av) ez rfl dB rfl (by decide) hs rfl (bA.sz hx) (bA.okv x) (by decide) (by rw [List.length_map]; simp only [fe]; omega) fun w' G' s'=>?_
 have s':Sp F0 G0 (ar o w :: bj 70 w' (l.map bA.av ++ [x.av]) :: rest) G':=s'
 have lw:=(bj.own (i:=1) hs rfl).leaf
 have lw':=(bj.own (i:=1) s' rfl).leaf
 refine fK (il ez (ar.own (i:=0) s' rfl) (jg lw' rfl) (by rw [lw.1,lw'.1]) lw'.2.2) ?_
 refine hK w' _ ?_
 rw [List.map_append]
 exact Sp.setRow (j:=0) s' rfl _
theorem nZ {o:AId} {w:ag} {i:Nat} (hs:Sp F0 G0 ps G) (hi:ps[i]? = some (ar o w)) (hw:bz w):af T G aR (.ptr o [] 0) = some w :=
 cJ ez (ar.own hs hi) (jg hw rfl)
def Hx (a b:Int):Int:=if a < b then b else a
def Cl (a b:Int):Int:=if b < a then b else a
set_option maxHeartbeats 4000000 in
theorem eE.use {f:StF} {c:CfM} {m:bA} {vo vp vh w:ag} {l:List bA} {o i1 i3 i5:AId} {a b:Int} (hS:kW G0 f vo vp vh)
  (hs:Sp [] G0 [ar o w,bj 70 w (l.map bA.av),ar i5 m.av,ar i3 (f.s.av vo vp vh),ar i1 c.av] G) (hlen:l.length + f.o.length ≤ 100000000) (ha:I64 a) (hb:I64 b)
  (hQ:∀ w' G',Sp [] G0 [ar o w',bj 70 w' ((l ++ wL f.o a b).map bA.av),ar i5 m.av,ar i3 (f.s.av vo vp vh),ar i1 c.av] G' -> Q (.tuple []) G') :
  al P eE.n [.int .i64 a,.int .i64 b,.ptr i3 [] 0,.ptr o [] 0] G Q:=by
 have ho:=hS.ok
 have hl:=hS.lv
 refine eE.sound ?_
 unfold eE.S
 refine ae (v:=.int .i64 (Hx a 0)) rfl ?_
 have hlo:=hS.lo
 obtain ⟨A,hA⟩:∃ A:Nat,Hx a 0 = (A:Int) /\ A = (max a 0).toNat:=⟨(max a 0).toNat,by unfold Hx; split <;> omega,rfl⟩
 have hA2:(A:Int) ≤ 9223372036854775807:=by have:=ha.2; omega
 rw [hA.1]
 obtain ⟨M,hM⟩:∃ M:Nat,M = (min b (f.o.length:Nat)).toNat:=⟨_,rfl⟩
 have hML:M ≤ f.o.length:=by omega
 unfold wL at hQ
 rw [<- hA.2,<- hM] at hQ
 intro R hR
 have loop:∀ (n j:Nat) (w:ag) (G':ah),M - j = n -> A ≤ j -> (j:Int) ≤ 9223372036854775807 ->
   Sp [] G0 [ar o w,bj 70 w ((l ++ ((f.o.take (min j M)).drop A).map oy).map bA.av),ar i5 m.av,ar i3 (f.s.av vo vp vh),ar i1 c.av] G' ->
   R [.int .i64 b,.ptr i3 [] 0,.ptr o [] 0,.int .i64 (j:Int)] G':=by
  intro n
  induction n with
  | zero=>
   intro j w G' hn hj hjm s
   have hS':=hS.mv s.ch
   refine hR _ _ _ _ _ ?_
   have hg:=ar.own (i:=3) s rfl
   refine ae (v:=.ptr i3 [4] 4) rfl ?_
   refine ae (St.gG hg ho hl) ?_
   refine ae (fy hS'.o.jf) ?_
   refine ae (v:=.int .i64 (Cl b (f.o.length:Nat))) rfl ?_
   rw [aH,aa,aE]
   refine ⟨fun h=>absurd h (by unfold Cl; split <;> omega),fun _=>?_⟩
   rw [show min j M = M by omega] at s
   exact hQ w G' s
  | succ n ih=>
   intro j w G' hn hj hjm s
   have hS':=hS.mv s.ch
   obtain ⟨u,hu⟩:∃ u,f.o[j]? = some u:=⟨_,List.getElem?_eq_getElem (by omega)⟩
   have huo:=hS.oko u (List.mem_of_getElem? hu)
   refine hR _ _ _ _ _ ?_
   have hg:=ar.own (i:=3) s rfl
   refine ae (v:=.ptr i3 [4] 4) rfl ?_
   refine ae (St.gG hg ho hl) ?_
   refine ae (fy hS'.o.jf) ?_
   refine ae (v:=.int .i64 (Cl b (f.o.length:Nat))) rfl ?_
   rw [aH,aa,aE]
   refine ⟨fun _=>?_,fun h=>absurd (show (j:Int) < Cl b (f.o.length:Nat) by unfold Cl; split <;> omega) h⟩
   have lw:=(bj.own (i:=1) s rfl).leaf
   refine ae (nZ (i:=0) s rfl lw) ?_
   refine ae (v:=.ptr i3 [4] 4) rfl ?_
   refine ae (St.gG hg ho hl) ?_
   obtain ⟨at_,ha1,ha2⟩:=oF hS'.o.jf hu
   refine ae ha1 ?_
   refine ae ha2 ?_
   refine lR.use huo fun G19 c19=>?_
   have s19:=s.tmp c19
   refine ⟨⟨nZ (i:=0) s19 rfl lw,trivial⟩,?_⟩
   have hll:(l ++ ((f.o.take (min j M)).drop A).map oy).length ≤ 100000000:=by
    rw [List.length_append,List.length_map,List.length_drop,List.length_take]
    omega
   refine BA s19 (nH huo) hll fun w' G24 s24=>?_
   rw [bf,i64_in (by omega) (by omega),aa]
   refine ih (j + 1) w' G24 (by omega) (by omega) (by omega) ?_
   rw [show min (j + 1) M = j + 1 by omega]
   rw [show min j M = j by omega,List.append_assoc] at s24
   have e:((f.o.take (j + 1)).drop A).map oy = ((f.o.take j).drop A).map oy ++ [oy u]:=by
    rw [List.take_add_one,hu,List.drop_append_of_le_length (by rw [List.length_take]; omega),List.map_append]
    rfl
   rw [e]
   exact s24
 by_cases hAM:A ≤ M
 ·refine loop (M - A) A w G rfl (by omega) (by omega) ?_
  rw [show min A M = A by omega,List.drop_eq_nil_of_le (by rw [List.length_take]; omega),List.map_nil,List.append_nil]
  exact hs
 ·refine loop 0 A w G (by omega) (by omega) (by omega) ?_
  rw [List.drop_eq_nil_of_le (by rw [List.length_take]; omega),List.map_nil,List.append_nil]
  exact hs
theorem eC.use {f:StF} {c:CfM} {m:bA} {vo vp vh w:ag} {l:List bA} {o i1 i3 i5:AId} {b:Bool} (hS:kW G0 f vo vp vh) (hc:c.ok) (hm:m.ok)
  (hs:Sp [] G0 [ar o w,bj 70 w (l.map bA.av),ar i5 m.av,ar i3 (f.s.av vo vp vh),ar i1 c.av] G) (hlen:l.length ≤ 100000000)
  (hQ:∀ w' G',Sp [] G0 [ar o w',bj 70 w' ((l ++ Ef c f m b).map bA.av),ar i5 m.av,ar i3 (f.s.av vo vp vh),ar i1 c.av] G' -> Q (.tuple []) G') :
  al P eC.n [.bool b,.ptr i5 [] 0,.ptr i3 [] 0,.ptr o [] 0,.ptr i1 [] 0] G Q:=by
 have ho:=hS.ok
 have hl:=hS.lv
 refine eC.sound ?_
 unfold eC.S
 unfold Ef at hQ
 intro J24
 have bad:¬ (m.next = IntKind.i64.wrap (f.s.loc - 1) /\ f.s.behind = b) -> J24 (.bool false) G:=by
  intro hb
  rw [if_neg hb,List.append_nil] at hQ
  simp -zeta only [J24,aM]
  exact hQ _ _ hs
 have kA:(m.next = IntKind.i64.wrap (f.s.loc - 1) /\ f.s.behind = b) -> J24 (.bool true) G:=by
  intro hb
  rw [if_pos hb] at hQ
  simp -zeta only [J24,aX]
  have lw:=(bj.own (i:=1) hs rfl).leaf
  refine ae (nZ (i:=0) hs rfl lw) ?_
  refine ae (Cf.ld (ar.own (i:=4) hs rfl) hc) ?_
  refine ae (v:=.ptr i5 [4] 4) rfl ?_
  refine ae (gL (i:=2) hs rfl hm).2.2.2.2.1 ?_
  refine gB.use hc fun G17 c17=>?_
  have s17:=hs.tmp c17
  refine ⟨⟨nZ (i:=0) s17 rfl lw,trivial⟩,?_⟩
  refine BA s17 (tR hc hm.next) hlen fun w' G22 s22=>?_
  exact hQ w' G22 s22
 refine ae (v:=.ptr i5 [4] 4) rfl ?_
 refine ae (gL (i:=2) hs rfl hm).2.2.2.2.1 ?_
 refine ae (v:=.ptr i3 [6] 6) rfl ?_
 have hg:=ar.own (i:=3) hs rfl
 refine ae (St.pq hg ho hl) ?_
 rw [bS,aa,bC,aa,aE]
 refine ⟨fun h1=>?_,fun h1=>bad fun h=>h1 h.1⟩
 refine ae (v:=.ptr i3 [12] 15) rfl ?_
 refine ae (St.GC hg ho hl) ?_
 refine ae (v:=.bool (f.s.behind == b)) rfl ?_
 cases hb:(f.s.behind == b) with
 | true=>exact kA ⟨h1,by simpa using hb⟩
 | false=>exact bad fun h=>by rw [h.2] at hb; simp at hb
set_option maxHeartbeats 4000000 in
theorem cW.use {f:StF} {c:CfM} {m:bA} {vo vp vh:ag} (hS:kW G f vo vp vh) (hc:c.ok) (hm:m.ok) (hQ:∀ w G',Sp [] G [bj 70 w ((mC c f m).1.map bA.av)] G' -> Q (.tuple [w,.int .i64 (mC c f m).2]) G'):al P cW.n [c.av,f.s.av vo vp vh,m.av] G Q:=by
 have ho:=hS.ok
 have hl:=hS.lv
 have hlo:=hS.lo
 refine cW.sound ?_
 unfold cW.S
 rw [show nR = .nilSlice from rfl]
 unfold mC at hQ
 have hAok:(qd c f).ok:=wC ho
 obtain ⟨B,hB⟩:∃ B,B = qd c f:=⟨_,rfl⟩
 rw [<- hB] at hQ hAok
 intro i1 f1
 have s1:=(Sp.nil G).row f1 c.av
 intro i3 f3
 have s3:=s1.row f3 (f.s.av vo vp vh)
 intro i5 f5
 have s5:=s3.row f5 m.av
 revert s5
 generalize ah.upd _ i5 _ = G6
 intro s5
 refine ae (Cf.ld (ar.own (i:=2) s5 rfl) hc) ?_
 refine ae (St.ld (ar.own (i:=1) s5 rfl) ho hl) ?_
 refine ae (gL (i:=0) s5 rfl hm).2.2.2.2.2.2.2.2 ?_
 refine gd.use (hS.mv s5.ch) hc hm fun G11 c11=>?_
 have s11:=s5.tmp c11
 have s11:Sp [] G [ar i5 m.av,ar i3 (f.s.av vo vp vh),ar i1 c.av] G11:=s11
 rw [dy,aa,fg]
 refine ⟨fun h1=>?_,fun h1=>?_⟩
 ·rw [if_pos h1] at hQ
  exact hQ _ _ (((s11.erase 0).erase 0 |>.erase 0).nd 70)
 rw [if_neg (fun hh=>hh h1)] at hQ
 have s12:=s11.nd 70
 intro i13 f13
 have s13:=s12.row f13 .nilSlice
 revert s13
 generalize ah.upd _ i13 _ = G14
 intro s13
 have s13:Sp [] G [ar i13 .nilSlice,bj 70 .nilSlice (([]:List bA).map bA.av),ar i5 m.av,ar i3 (f.s.av vo vp vh),ar i1 c.av] G14:=s13
 refine eC.use (l:=[]) hS hc hm s13 (by simp) fun w15 G16 s16=>?_
 have l16:=CN c f m true
 rw [List.nil_append] at s16
 obtain ⟨L,hL⟩:∃ L,L = Ef c f m true:=⟨_,rfl⟩
 rw [<- hL] at s16 l16 hQ
 refine ae (gL (i:=2) s16 rfl hm).2.2.2.1 ?_
 refine ae (St.kq (ar.own (i:=3) s16 rfl) ho hl) ?_
 rw [bC,aa]
 intro J43
 have go:∀ (L2:List bA) (w:ag) (G34:ah),L2.length ≤ 50000000 -> L2 = L ++ (if m.index = f.s.rem then wL f.o f.s.heldA f.s.sgnA ++ [B] else []) ->
   Sp [] G [ar i13 w,bj 70 w (L2.map bA.av),ar i5 m.av,ar i3 (f.s.av vo vp vh),ar i1 c.av] G34 -> J43 G34:=by
  intro L2 w G34 h2 he s34
  rw [<- he] at hQ
  simp -zeta only [J43]
  refine eC.use hS hc hm s34 (by omega) fun w36 G36 s36=>?_
  have l36:=CN c f m false
  have hg:=ar.own (i:=3) s36 rfl
  refine ae (St.BK hg ho hl) ?_
  refine ae (St.gG hg ho hl) ?_
  refine ae (fy (hS.mv s36.ch).o.jf) ?_
  refine eE.use hS s36 (by rw [List.length_append]; omega) ho.sgnA (gQ _ (by omega) (by omega)) fun w41 G41 s41=>?_
  refine ae (nZ (i:=0) s41 rfl (bj.own (i:=1) s41 rfl).leaf) ?_
  exact hQ _ _ ((((s41.erase 0).erase 1).erase 1).erase 1)
 by_cases h2:m.index = f.s.rem
 ·rw [decide_eq_true h2,aX]
  have hg:=ar.own (i:=3) s16 rfl
  refine ae (St.r7 hg ho hl) ?_
  refine ae (St.BK hg ho hl) ?_
  refine eE.use hS s16 (by omega) ho.heldA ho.sgnA fun w23 G23 s23=>?_
  have l23:=Gc f.o f.s.heldA f.s.sgnA
  have lw:=(bj.own (i:=1) s23 rfl).leaf
  refine ae (nZ (i:=0) s23 rfl lw) ?_
  refine ae (Cf.ld (ar.own (i:=4) s23 rfl) hc) ?_
  refine ae (St.ld (ar.own (i:=3) s23 rfl) ho hl) ?_
  refine gS.use (hS.mv s23.ch) hc fun G28 c28=>?_
  rw [<- hB]
  have s28:=s23.tmp c28
  have s28:Sp [] G [ar i13 w23,bj 70 w23 ((L ++ wL f.o f.s.heldA f.s.sgnA).map bA.av),ar i5 m.av,ar i3 (f.s.av vo vp vh),ar i1 c.av] G28:=s28
  refine ⟨⟨nZ (i:=0) s28 rfl lw,trivial⟩,?_⟩
  refine BA s28 hAok (by rw [List.length_append]; omega) fun w33 G33 s33=>?_
  refine go _ _ _ ?_ ?_ s33
  ·rw [List.length_append,List.length_append,List.length_singleton]; omega
  ·rw [if_pos h2,List.append_assoc]
 ·rw [decide_eq_false h2,aM]
  refine go L _ _ (by omega) ?_ s16
  rw [if_neg h2,List.append_nil]
end
end Go.Esc.M
set_option linter.unusedSimpArgs false
set_option linter.unusedVariables false
set_option maxRecDepth 20000
namespace Go.Esc.M
open Go Go.Esc
def zR:bA:={ bA.zero with kind:=6,index:=1 }
def JQ:bA:={ bA.zero with kind:=6,index:=2 }
def r8 (x:List UInt8):bA:={ bA.zero with kind:=6,index:=1,next:=1,secret:=x }
def u5M:aK:=⟨1,0,5,h0,[]⟩
theorem Bg:u5M.ok:=⟨gQ 1 (by decide) (by decide),cD,gQ 5 (by decide) (by decide),rfl,by decide⟩
theorem sT:zR.ok:=⟨gQ 6 (by decide) (by decide),cD,cD,gQ 1 (by decide) (by decide),cD,rfl,rfl,by simp [zR,bA.zero]⟩
theorem JP:JQ.ok:=⟨gQ 6 (by decide) (by decide),cD,cD,gQ 2 (by decide) (by decide),cD,rfl,rfl,by simp [JQ,bA.zero]⟩
theorem FG {x:List UInt8} (h:x.length = 32):(r8 x).ok:=⟨gQ 6 (by decide) (by decide),cD,cD,gQ 1 (by decide) (by decide),gQ 1 (by decide) (by decide),rfl,h,by simp [r8,bA.zero]⟩
def g15 (a b:List UInt8):StF:=⟨s15 a b,[u5M],[],[]⟩
theorem IE (a b:List UInt8):uc (f15 a b) = zR:=rfl
theorem Lr (a b:List UInt8):mC (c15 a b) (f15 a b) zR = ([],0):=rfl
theorem Lq (a b:List UInt8):mC (c15 a b) (f15 a b) JQ = ([],90):=rfl
theorem Ln (a b:List UInt8):mC (c15 a b) (g15 a b) zR = ([oy u5M],0):=rfl
theorem La:∃ x:List UInt8,fH h0 0 = (x,0) /\ x.length = 32 /\ x ≠ h0:=by
 have hl:=kc mL 0
 have e:fH h0 0 = (kf (pl 0) 48 h0,0):=by
  unfold fH
  rw [show okN 0 = true from by decide,cond_true]
 rw [e] at hl
 refine ⟨_,e,hl,fun h=>?_⟩
 have hp:pl 0 = 2 ^ 48 - 1:=by decide
 have hz:h0 = jD:=by decide
 have:=JU
 rw [<- hp,<- hz,h] at this
 exact absurd this (by decide)
theorem HZ {a b x y:List UInt8} (h:fH h0 0 = (x,0)):lW (c15 a b) (r8 y) = decide (x = y):=by
 unfold lW
 rw [if_pos (show (0:Int) < (r8 y).next from (by decide:(0:Int) < 1))]
 have e:(r8 y).next - 1 = 0:=rfl
 rw [e,show (c15 a b).seed = h0 from rfl,h,decide_eq_true (show (r8 y).next ≤ 281474976710655 from (by decide:(1:Int) ≤ 281474976710655)),Bool.true_and,decide_eq_true (show (0:Int) = 0 from rfl),Bool.true_and]
 rfl
theorem Lp {a b x:List UInt8} (h:fH h0 0 = (x,0)) (hx:x ≠ h0):mC (c15 a b) (f15 a b) (r8 h0) = ([],100):=by
 have hp:lW (c15 a b) (r8 h0) = false:=by rw [HZ h,decide_eq_false hx]
 have hj:lY (c15 a b) (f15 a b) (r8 h0) = 100:=by
  unfold lY
  rw [if_neg (show ¬ (r8 h0).kind ≠ 6 from fun hh=>hh rfl),if_pos hp]
 unfold mC
 rw [hj,if_pos (by decide)]
theorem Lo {a b x:List UInt8} (h:fH h0 0 = (x,0)):mC (c15 a b) (f15 a b) (r8 x) = ([],180):=by
 have hp:lW (c15 a b) (r8 x) = true:=by rw [HZ h,decide_eq_true rfl]
 have hj:lY (c15 a b) (f15 a b) (r8 x) = 180:=by
  unfold lY
  rw [if_neg (show ¬ (r8 x).kind ≠ 6 from fun hh=>hh rfl),if_neg (by rw [hp]; decide),if_pos (show (f15 a b).s.loc < (r8 x).next from (by decide:(0:Int) < 1))]
 unfold mC
 rw [hj,if_pos (by decide)]
section
variable {F0:List AId} {G0 G:ah} {ps:List LP} {Q:ag -> ah -> Prop}
theorem He {x:List UInt8} (h:x.length = 32):bk T aG [(0,.int .i64 6),(3,.int .i64 1),(4,.int .i64 1),(6,.agg (x.map u8v))] = some (r8 x).av :=
 n5 (fun p hp=>by
  simp only [List.mem_cons,List.not_mem_nil,or_false] at hp
  rcases hp with rfl | rfl | rfl | rfl
  ·rfl
  ·rfl
  ·rfl
  ·exact mK h) rfl
set_option maxHeartbeats 2000000 in
theorem cH.use {c:CfM} (hc:c.ok) (hQ:∀ G',Ch [] G [] G' -> Q (.tuple [(nb c).1.av .nilSlice .nilSlice .nilSlice,.int .i64 (nb c).2]) G'):al P cH.n [c.av] G Q:=by
 refine cH.sound ?_
 unfold cH.S
 rw [F6]
 have hok:=vL hc
 intro i1 f1
 have s1:=(Sp.nil G).row f1 c.av
 intro i3 f3
 have s3:=s1.row f3 (StM.zero.av .nilSlice .nilSlice .nilSlice)
 revert s3
 generalize ah.upd _ i3 _ = G4
 intro s3
 have hg:=ar.own (i:=1) s3 rfl
 intro J35
 have bad:nc c -> J35 (.bool true) G4:=by
  intro hb
  unfold nb at hQ
  rw [if_pos hb] at hQ
  simp -zeta only [J35,aX]
  refine ae (v:=StM.zero.av .nilSlice .nilSlice .nilSlice) rfl ?_
  refine St.st (i:=0) s3 rfl StM.bD lv0 StM.bD lv0 fun G23 s23=>?_
  refine ae (St.ld (ar.own (i:=0) s23 rfl) StM.bD lv0) ?_
  exact hQ _ s23.ch
 have kA:¬ nc c -> J35 (.bool false) G4:=by
  intro hb
  have h2:right c.cap = true:=by
   have h1:¬ right c.cap = false:=fun hh=>hb (.inr (.inr (.inr (.inl hh))))
   simpa using h1
  have h3:=kR.1 h2
  have h4:¬ c.ours < 0:=fun hh=>hb (.inr (.inr (.inr (.inr (.inl hh)))))
  have h5:¬ c.cap < c.ours:=fun hh=>hb (.inr (.inr (.inr (.inr (.inr hh)))))
  unfold nb at hQ hok
  rw [if_neg hb] at hQ hok
  simp -zeta only [J35,aM]
  refine ae (Cf.m8 hg hc) ?_
  refine ae (Cf.nI hg hc) ?_
  refine ae (Cf.gG hg hc) ?_
  refine ae (Cf.nI hg hc) ?_
  refine ae (Cf.gG hg hc) ?_
  rw [bS,i64_in (by omega) (by omega),aa]
  refine ae (Cf.It hg hc) ?_
  refine ae (Dq hc.ptsA hc.ptsB) ?_
  refine St.st (i:=0) s3 rfl StM.bD lv0 hok lv0 fun G33 s33=>?_
  refine ae (St.ld (ar.own (i:=0) s33 rfl) hok lv0) ?_
  exact hQ _ s33.ch
 refine ae (Cf.m8 hg hc) ?_
 rw [aH,aa,aE]
 refine ⟨fun h=>bad (.inl h),fun h1=>?_⟩
 refine ae (Cf.m8 hg hc) ?_
 rw [de,aa,aE]
 refine ⟨fun h=>bad (.inr (.inl h)),fun h2=>?_⟩
 refine ae (Cf.nI hg hc) ?_
 rw [aH,aa,aE]
 refine ⟨fun h=>bad (.inr (.inr (.inl h))),fun h3=>?_⟩
 refine ae (Cf.nI hg hc) ?_
 rw [de,aa,aE]
 have hr:right c.cap = decide (c.cap ≤ 1152921504606846976):=by
  cases hh:right c.cap with
  | true=>rw [decide_eq_true (kR.1 hh).2]
  | false=>
   by_cases h:c.cap ≤ 1152921504606846976
   ·rw [kR.2 ⟨by omega,h⟩] at hh; cases hh
   ·rw [decide_eq_false h]
 refine ⟨fun h=>bad (.inr (.inr (.inr (.inl (by rw [hr,decide_eq_false (by omega)]))))),fun h4=>?_⟩
 have h4:right c.cap = true:=by rw [hr,decide_eq_true (by omega)]
 refine ae (Cf.gG hg hc) ?_
 rw [aH,aa,aE]
 refine ⟨fun h=>bad (.inr (.inr (.inr (.inr (.inl h))))),fun h5=>?_⟩
 refine ae (Cf.gG hg hc) ?_
 refine ae (Cf.nI hg hc) ?_
 rw [de,aa]
 by_cases h6:c.cap < c.ours
 ·rw [decide_eq_true h6]
  exact bad (.inr (.inr (.inr (.inr (.inr h6)))))
 ·rw [decide_eq_false h6]
  exact kA (by rintro (h | h | h | h | h | h); exact h1 h; exact h2 h; exact h3 h; (rw [h4] at h; cases h); exact h5 h; exact h6 h)
theorem Ih {v:ag} {l:List bA} {j:Nat} {u:bA} (h:fV 70 G v (l.map bA.av)) (hj:l[j]? = some u):∃ a,aL T aR v (.int .i64 (j:Int)) = some a /\ af T G aG a = some u.av :=
 h.at_ (k:=.i64) (i:=fO) (ie:=fe) (T:=T) (t:=aR) (e:=aG) ez rfl dB (by rw [List.getElem?_map,hj]; rfl) rfl
theorem xQ {v:ag} {l:List bA} (h:fV 70 G v (l.map bA.av)):gF T G aR v = some (.int .i64 (l.length:Nat)):=by
 rw [h.len (i:=fO) ez rfl,List.length_map]
theorem eV.use {v w:ag} {a b:List bA} (ha:fV 70 G v (a.map bA.av)) (hb:fV 70 G w (b.map bA.av)) (oa:∀ m ∈ a,m.ok) (ob:∀ m ∈ b,m.ok) (la:a.length ≤ 1000000000) (lb:b.length ≤ 1000000000)
  (hQ:Q (.bool (decide (a = b))) G):al P eV.n [v,w] G Q:=by
 refine eV.sound ?_
 unfold eV.S
 refine ae (xQ ha) ?_
 refine ae (xQ hb) ?_
 rw [dy,aa,fg]
 refine ⟨fun h1=>?_,fun h1=>?_⟩
 ·rw [decide_eq_false (fun h=>h1 (by rw [h]))] at hQ
  exact hQ
 have hlen:a.length = b.length:=by omega
 intro R hR
 have loop:∀ (n j:Nat),a.length - j = n -> j ≤ a.length -> a.take j = b.take j -> R [v,w,.int .i64 (j:Int)] G:=by
  intro n
  induction n with
  | zero=>
   intro j hn hj he
   refine hR _ _ _ _ ?_
   refine ae (xQ ha) ?_
   rw [aH,aa,aE]
   refine ⟨fun h=>absurd h (by omega),fun _=>?_⟩
   have hjl:j = a.length:=by omega
   rw [hjl,List.take_length,hlen,List.take_length] at he
   rw [decide_eq_true he] at hQ
   exact hQ
  | succ n ih=>
   intro j hn hj he
   obtain ⟨x,hx⟩:∃ x,a[j]? = some x:=⟨_,List.getElem?_eq_getElem (by omega)⟩
   obtain ⟨y,hy⟩:∃ y,b[j]? = some y:=⟨_,List.getElem?_eq_getElem (by omega)⟩
   refine hR _ _ _ _ ?_
   refine ae (xQ ha) ?_
   rw [aH,aa,aE]
   refine ⟨fun _=>?_,fun h=>absurd (by omega) h⟩
   obtain ⟨p,p1,p2⟩:=Ih ha hx
   obtain ⟨q,q1,q2⟩:=Ih hb hy
   refine ae p1 ?_
   refine ae p2 ?_
   refine ae q1 ?_
   refine ae q2 ?_
   rw [F9 (oa x (List.mem_of_getElem? hx)) (ob y (List.mem_of_getElem? hy)),aa,fg]
   refine ⟨fun h2=>?_,fun h2=>?_⟩
   ·rw [decide_eq_false (fun h=>h2 (by rw [h,hy] at hx; exact (Option.some.inj hx).symm))] at hQ
    exact hQ
   ·rw [bf,i64_in (by omega) (by omega),aa]
    refine ih (j + 1) (by omega) (by omega) ?_
    rw [List.take_add_one,List.take_add_one,he,hx,hy,h2]
 exact loop a.length 0 rfl (by omega) rfl
theorem KO {a b:List UInt8} {v:ag} (ha:a.length = 32) (hb:b.length = 32) {ps:List LP} {G0 G:ah} {i:Nat} (s:Sp F0 G0 ps G) (hi:ps[i]? = some (bj 36 v ([u5M].map aK.av))):kW G (g15 a b) v .nilSlice .nilSlice :=
 ⟨(f15_in ha hb G).ok,Own.nM (bj.own s hi),iu.nil,iu.nil,by intro u hu; rw [List.mem_singleton.1 hu]; exact Bg,by simp [g15],by simp [g15],by simp [g15],by simp [g15],by simp [g15]⟩
set_option maxHeartbeats 8000000 in
theorem ed.use (hT:Tab G) (hQ:∀ G',Ch [] G [] G' -> Q (.bool true) G'):al P ed.n [] G Q:=by
 refine ed.sound ?_
 unfold ed.S
 refine ae (v:=d15.av) rfl ?_
 refine cu.use ED fun G3 c3=>?_
 have s3:=(Sp.nil G).tmp c3
 obtain ⟨x,hx⟩:∃ z,z = oH h0 0:=⟨_,rfl⟩
 obtain ⟨y,hy⟩:∃ z,z = oH h0 1:=⟨_,rfl⟩
 have lx:x.length = 32:=by rw [hx]; exact kS _ _
 have ly:y.length = 32:=by rw [hy]; exact kS _ _
 have e0:GY d15 = c15 x y:=by rw [hx,hy]; rfl
 obtain ⟨C1,hC1⟩:∃ C,C = GX d15:=⟨_,rfl⟩
 rw [e0,<- hC1]
 have hc:(c15 x y).ok:=by rw [<- e0]; exact BZ ED
 have hS:=f15_in lx ly
 have hso:=(hS G).ok
 refine ae (IW hc (by rw [hC1]; exact BX ED)) ?_
 refine Cf.nw s3 hc fun i5 G7 s7=>?_
 refine ae (Cf.ld (ar.own (i:=0) s7 rfl) hc) ?_
 refine cH.use hc fun G10 c10=>?_
 have s10:=s7.tmp c10
 rw [HM]
 refine ae (tv0 _ _) ?_
 refine ae (tv1 _ _) ?_
 refine St.nw s10 hso lv0 fun i13 G15 s15=>?_
 refine ae (Cf.pT (ar.own (i:=1) s15 rfl) hc) ?_
 obtain ⟨X,hX,lX,nX⟩:=La
 refine bJ.use mL fun G18 c18=>?_
 have s18:=s15.tmp c18
 rw [show (c15 x y).seed = h0 from rfl]
 rw [hX]
 refine ae (hi0 _) ?_
 refine ae (hi1 _) ?_
 refine mZ s18 lX fun i21 G23 s23=>?_
 refine ae (Cf.ld (ar.own (i:=2) s23 rfl) hc) ?_
 refine ae (St.ld (ar.own (i:=1) s23 rfl) hso lv0) ?_
 refine gz.use (hT.mono s23.ro) (hS _) hc fun G27 c27=>?_
 have s27:=s23.tmp c27
 rw [IE]
 refine Ib s27 sT fun i28 G30 s30=>?_
 have s30:Sp [] G [ar i28 zR.av,ar i21 (.agg (X.map u8v)),ar i13 ((f15 x y).s.av .nilSlice .nilSlice .nilSlice),ar i5 (c15 x y).av] G30:=s30
 have ans:∀ {ps:List LP} {G1:ah} {m:bA} {e:Int} {K:ag -> ah -> Prop},Sp [] G ps G1 -> m.ok -> mC (c15 x y) (f15 x y) m = ([],e) -> (∀ v G2,Sp [] G ps G2 -> K (.tuple [v,.int .i64 e]) G2) ->
   al P cW.n [(c15 x y).av,(f15 x y).s.av .nilSlice .nilSlice .nilSlice,m.av] G1 K:=by
  intro ps G1 m e K s hm he hK
  refine cW.use (hS _) hc hm fun w G2 t=>?_
  rw [he]
  exact hK w G2 (s.tmp t.ch)
 refine ae (Cf.ld (ar.own (i:=3) s30 rfl) hc) ?_
 refine ae (St.ld (ar.own (i:=2) s30 rfl) hso lv0) ?_
 refine ae (v:=zR.av) rfl ?_
 refine ans s30 sT (Lr x y) fun v34 G35 s35=>?_
 refine ae (tv0 _ _) ?_
 refine ae (tv1 _ _) ?_
 refine ae (Cf.ld (ar.own (i:=3) s35 rfl) hc) ?_
 refine ae (St.ld (ar.own (i:=2) s35 rfl) hso lv0) ?_
 refine ae (v:=JQ.av) rfl ?_
 refine ans s35 JP (Lq x y) fun v41 G42 s42=>?_
 refine ae (tv0 _ _) ?_
 refine ae (tv1 _ _) ?_
 refine ae (Cf.ld (ar.own (i:=3) s42 rfl) hc) ?_
 refine ae (St.ld (ar.own (i:=2) s42 rfl) hso lv0) ?_
 refine ae (v:=(r8 h0).av) rfl ?_
 refine ans s42 (FG mL) (Lp hX nX) fun v48 G49 s49=>?_
 refine ae (tv0 _ _) ?_
 refine ae (tv1 _ _) ?_
 refine ae (Cf.ld (ar.own (i:=3) s49 rfl) hc) ?_
 refine ae (St.ld (ar.own (i:=2) s49 rfl) hso lv0) ?_
 refine ae (bE lX (ar.own (i:=1) s49 rfl)) ?_
 refine ae (He lX) ?_
 refine ans s49 (FG lX) (Lo hX) fun v56 G57 s57=>?_
 refine ae (tv0 _ _) ?_
 refine ae (tv1 _ _) ?_
 refine ae (v:=u5M.av) rfl ?_
 refine B4 (T:=T) (ts:=ak) (e:=aI) (si:=fl) (ie:=dA) (n:=1) (l:=[u5M].map aK.av) cn rfl fC rfl rfl rfl rfl (by simp [aK.sz Bg,dA]) (by decide) s57 fun v61 G62 s62=>?_
 have l61:bz v61:=(bj.own (i:=0) s62 rfl).leaf
 refine St.sE (i:=3) s62 rfl hso lv0 l61 fun G63 s63=>?_
 have s63:Sp [] G [bj 36 v61 ([u5M].map aK.av),ar i28 zR.av,ar i21 (.agg (X.map u8v)),ar i13 ((f15 x y).s.av v61 .nilSlice .nilSlice),ar i5 (c15 x y).av] G63:=s63
 refine ae (Cf.ld (ar.own (i:=4) s63 rfl) hc) ?_
 refine ae (St.ld (ar.own (i:=3) s63 rfl) hso ⟨l61,bz.nil,bz.nil⟩) ?_
 refine ae (v:=zR.av) rfl ?_
 refine cW.use (f:=g15 x y) (KO lx ly s63 (i:=0) rfl) hc sT fun w G68 t68=>?_
 rw [Ln] at t68 ⊢
 obtain ⟨F68,o68,c68⟩:=t68.out
 have s68:=s63.new o68 c68
 refine ae (tv0 _ _) ?_
 refine ae (tv1 _ _) ?_
 refine ae (gL (i:=2) s68 rfl sT).2.2.2.2.2.2.2.2 ?_
 refine ae (v:=zR.av) rfl ?_
 refine ae (Ga sT sT) ?_
 rw [decide_eq_true rfl,aX]
 have e3:∀ n:Int,aw T .eql bq (.int .i64 n) (.int .i64 n) = some (.bool true):=fun n=>ez0
 refine ae (e3 0) ?_
 rw [aX]
 refine ae (e3 90) ?_
 rw [aX]
 refine ae (e3 100) ?_
 rw [aX]
 refine ae (e3 180) ?_
 rw [aX]
 refine ae (e3 0) ?_
 rw [aX]
 refine ae (v:=(oy u5M).av) rfl ?_
 refine B4 (T:=T) (ts:=aR) (e:=aG) (si:=fO) (ie:=fe) (n:=1) (l:=[oy u5M].map bA.av) ez rfl dB rfl rfl rfl rfl (by simp [bA.sz (nH Bg),fe]) (by decide) s68 fun v80 G81 s81=>?_
 have ok1:∀ m ∈ [oy u5M],m.ok:=by intro m hm; rw [List.mem_singleton.1 hm]; exact nH Bg
 refine eV.use (bj.own (i:=1) s81 rfl).is (bj.own (i:=0) s81 rfl).is ok1 ok1 (by simp) (by simp) ?_
 rw [decide_eq_true rfl]
 exact hQ _ s81.ch
end
end Go.Esc.M
set_option linter.unusedSimpArgs false
set_option linter.unusedVariables false
set_option maxRecDepth 20000
namespace Go.Esc.M
open Go Go.Esc
def nF (l:List aK) (id k:Int):Bool:=l.any fun u=>decide (u.id = id) && (!decide (u.kind = 1) && (decide (k = 0) || decide (u.kind = k)))
def n0 (l others:List aK):Prop:=∀ (j:Nat) (u:aK),l[j]? = some u -> jW (l.take j) others u = 0
def z6 (l:List aK):Prop:=∀ (i j:Nat) (u w:aK),l[i]? = some u -> l[j]? = some w -> u.kind ≠ 1 -> w.kind ≠ 1 -> u.id = w.id -> i = j
theorem w6 {rm:Bool} {id:Int} {X Y:List aK} (h:(fW rm id X).isSome = true):fW rm id (X ++ Y) = fW rm id X:=by
 unfold fW at h ⊢
 rw [List.find?_append]
 cases hx:List.find? (vY rm id) X with
 | none=>rw [hx] at h; cases h
 | some a=>rfl
theorem tY {A X Y:List aK} {u:aK} (h:jW A X u = 0):jW A (X ++ Y) u = 0:=by
 unfold jW at h ⊢
 split at h
 ·cases h
 rename_i h1
 rw [if_neg h1]
 split at h
 ·cases h
 rename_i h2
 rw [if_neg h2]
 split at h
 ·rename_i h3
  rw [if_pos h3]
  exact h
 rename_i h3
 rw [if_neg h3]
 split at h
 ·cases h
 rename_i h4
 have h4':(fW false u.id X).isSome = true:=(Bool.not_eq_false _).mp h4
 rw [w6 h4',if_neg h4]
 exact h
theorem Eu {l X Y:List aK} (h:n0 l X):n0 l (X ++ Y):=fun j u hj=>tY (h j u hj)
theorem Az {l m:List aK} {a b:Nat} (h:n0 l (m.take a)) (hab:a ≤ b):n0 l (m.take b):=by
 rw [<- qS hab]
 exact Eu h
theorem y9 {l X:List aK} {u:aK} (h:n0 l X) (hu:jW l X u = 0):n0 (l ++ [u]) X:=by
 intro j w hj
 by_cases hl:j < l.length
 ·rw [List.getElem?_append_left hl] at hj
  rw [List.take_append_of_le_length (by omega)]
  exact h j w hj
 ·have hb:=(List.getElem?_eq_some_iff.1 hj).1
  rw [List.length_append,List.length_singleton] at hb
  have e:j = l.length:=by omega
  subst e
  rw [List.getElem?_append_right (by omega)] at hj
  simp at hj
  subst hj
  rw [List.take_append_of_le_length (Nat.le_refl _),List.take_length]
  exact hu
section
variable {l X:List aK} (h:n0 l X)
include h
theorem r9:∀ u ∈ l,dC u = true:=by
 intro u hu
 obtain ⟨j,hj⟩:=List.getElem?_of_mem hu
 exact (mh (h j u hj)).1
theorem Ay:l.length ≤ 2048:=by
 refine Classical.byContradiction fun hn=>?_
 obtain ⟨u,hu⟩:∃ u,l[2048]? = some u:=⟨_,List.getElem?_eq_getElem (by omega)⟩
 have:=h 2048 u hu
 unfold jW at this
 rw [if_pos (by rw [List.length_take]; omega)] at this
 cases this
theorem sW:qy l:=by
 intro j u hj hk
 exact (mh (h j u hj)).2.1 hk
theorem za:∀ u ∈ l,u.kind ≠ 1 -> ∃ w ∈ X,w.kind = 1 /\ w.id = u.id:=by
 intro u hu hk
 obtain ⟨j,hj⟩:=List.getElem?_of_mem hu
 obtain ⟨b,_,h2,h3,h4⟩:=rl ((mh (h j u hj)).2.2 hk).1
 exact ⟨b,h2,h3,h4⟩
theorem rj:z6 l:=by
 have key:∀ {i j:Nat} {u w:aK},l[i]? = some u -> l[j]? = some w -> u.kind ≠ 1 -> w.kind ≠ 1 -> u.id = w.id -> i < j -> False:=by
  intro i j u w hi hj hu hw he hlt
  have h1:=((mh (h j w hj)).2.2 hw).2.1
  have hv:∀ a ∈ l.take j,dC a = true:=fun a ha=>r9 h a (List.mem_of_mem_take ha)
  refine zj hv h1 u ?_ hu he
  refine List.mem_of_getElem? (i:=i) ?_
  rw [List.getElem?_take_of_lt hlt]
  exact hi
 intro i j u w hi hj hu hw he
 rcases Nat.lt_trichotomy i j with h1 | h1 | h1
 ·exact (key hi hj hu hw he h1).elim
 ·exact h1
 ·exact (key hj hi hw hu he.symm h1).elim
end
theorem su {l:List aK} (h:z6 l) (n:Nat):z6 (l.take n):=by
 intro i j u w hi hj
 have li:=(List.getElem?_eq_some_iff.1 hi).1
 have lj:=(List.getElem?_eq_some_iff.1 hj).1
 rw [List.length_take] at li lj
 rw [List.getElem?_take_of_lt (by omega)] at hi hj
 exact h i j u w hi hj
theorem sJ {id:Int}:∀ {l:List aK},je id l ≠ 0 -> ∃ u ∈ l,u.kind ≠ 1 /\ u.id = id /\ u.kind = je id l
 | [],h=>absurd rfl h
 | u :: l,h=>by
  by_cases hr:lr id u = true
  ·have e:je id (u :: l) = u.kind:=if_pos hr
   simp only [lr,Bool.and_eq_true,decide_eq_true_eq] at hr
   exact ⟨u,by simp,hr.1,hr.2.1,e.symm⟩
  ·have e:je id (u :: l) = je id l:=if_neg hr
   rw [e] at h ⊢
   obtain ⟨w,h1,h2⟩:=sJ h
   exact ⟨w,by simp [h1],h2⟩
theorem Fp {id:Int} {l:List aK} (hv:∀ u ∈ l,dC u = true) {u:aK} (hu:u ∈ l) (hk:u.kind ≠ 1) (hi:u.id = id):je id l ≠ 0:=by
 induction l with
 | nil=>cases hu
 | cons w l ih=>
  by_cases hr:lr id w = true
  ·have e:je id (w :: l) = w.kind:=if_pos hr
   rw [e]; exact rh hr
  ·have e:je id (w :: l) = je id l:=if_neg hr
   rw [e]
   rcases List.mem_cons.1 hu with rfl | hu
   ·exact absurd (by simp [lr,hk,hi,hv u (by simp)]) hr
   ·exact ih (fun x hx=>hv x (by simp [hx])) hu
theorem sI {l:List aK} {id k:Int}:nF l id k = true ↔ ∃ u ∈ l,u.id = id /\ u.kind ≠ 1 /\ (k = 0 \/ u.kind = k):=by
 unfold nF
 rw [List.any_eq_true]
 simp only [Bool.and_eq_true,Bool.or_eq_true,decide_eq_true_eq,Bool.not_eq_true',decide_eq_false_iff_not]
theorem Lc {l:List aK} (hv:∀ u ∈ l,dC u = true) (id:Int):nF l id 0 = !decide (je id l = 0):=by
 by_cases h:je id l = 0
 ·rw [decide_eq_true h,Bool.not_true,Bool.eq_false_iff]
  intro hr
  obtain ⟨u,h1,h2,h3,_⟩:=sI.1 hr
  exact Fp hv h1 h3 h2 h
 ·rw [decide_eq_false h,Bool.not_false]
  obtain ⟨u,h1,h2,h3,_⟩:=sJ h
  exact sI.2 ⟨u,h1,h3,h2,.inl rfl⟩
theorem Ke {l:List aK} (hv:∀ u ∈ l,dC u = true) (hu:z6 l) (id:Int) {k:Int} (hk:k ≠ 0):nF l id k = decide (je id l = k):=by
 by_cases h:je id l = k
 ·rw [decide_eq_true h]
  obtain ⟨u,h1,h2,h3,h4⟩:=sJ (id:=id) (l:=l) (by rw [h]; exact hk)
  exact sI.2 ⟨u,h1,h3,h2,.inr (h4.trans h)⟩
 ·rw [decide_eq_false h,Bool.eq_false_iff]
  intro hr
  obtain ⟨u,h1,h2,h3,h4⟩:=sI.1 hr
  have h5:u.kind = k:=h4.resolve_left hk
  obtain ⟨w,k1,k2,k3,k4⟩:=sJ (Fp hv h1 h3 h2)
  obtain ⟨i,hi⟩:=List.getElem?_of_mem h1
  obtain ⟨j,hj⟩:=List.getElem?_of_mem k1
  have:=hu i j u w hi hj h3 k2 (h2.trans k3.symm)
  subst this
  rw [hi] at hj
  injection hj with hj
  subst hj
  exact h (k4.symm.trans h5)
theorem yE {l:List aK} (hv:∀ u ∈ l,dC u = true) (id:Int):(fW true id l).isSome = nF l id 0:=by
 rw [<- Ev hv]
 unfold Kl nF
 congr 1
 funext u
 cases decide (u.id = id) <;> cases decide (u.kind = 1) <;> rfl
def Bp (r:List aK) (u:aK):Bool:=decide (u.kind = 1) && !nF r u.id 3
def Fu (r:List aK) (u:aK):Bool:=decide (u.kind = 1) && nF r u.id 2
def BC (r:List aK) (u:aK):Bool:=decide (u.kind = 1) && !nF r u.id 0
theorem Fm {r:List aK} (hv:∀ u ∈ r,dC u = true) (hu:z6 r):Bp r = stays r:=by
 funext u
 unfold Bp stays
 rw [Ke hv hu _ (by decide)]
theorem H5 {r:List aK} (hv:∀ u ∈ r,dC u = true) (hu:z6 r):Fu r = jF r:=by
 funext u
 unfold Fu jF
 rw [Ke hv hu _ (by decide)]
def rP (base:Int) (own other:List aK) (fo fp:Int):Int:=base - gm (Bp (dP other fp)) own + gm (Fu (dP own fo)) other
def tB (own other:List aK):Nat:=(own.filter (BC other)).length
theorem yQ {own other:List aK} (hv:∀ u ∈ own,dC u = true) (hv2:∀ u ∈ other,dC u = true) (fp:Int):tB own (dP other fp) = kp own other fp:=by
 unfold tB kp qE
 rw [List.length_map]
 congr 1
 refine List.filter_congr fun u hu=>?_
 rw [hv u hu,Bool.true_and]
 unfold BC
 rw [Lc (l:=dP other fp) (fun x hx=>hv2 x (List.mem_of_mem_take hx)),Bool.not_not]
structure iC (f:StF):Prop where
 ok:f.s.ok
 oko:∀ u ∈ f.o,u.ok
 okp:∀ u ∈ f.p,u.ok
 okh:∀ x ∈ f.h,x.ok
 lh:f.h.length ≤ 49
 a0:0 ≤ f.s.atA
 a1:f.s.atA ≤ f.s.heldA
 a2:f.s.heldA ≤ f.s.sgnA
 a3:f.s.sgnA ≤ f.o.length
 b0:0 ≤ f.s.heldB
 b1:f.s.heldB ≤ f.s.sgnB
 b2:f.s.sgnB ≤ f.s.atB
 b3:f.s.atB ≤ f.p.length
 go:n0 f.o (f.p.take f.s.heldB.toNat)
 gp:n0 f.p (f.o.take f.s.atA.toNat)
 so:0 ≤ SB f.s.bo f.o f.p f.s.atA.toNat f.s.heldB.toNat
 sp:0 ≤ SB f.s.bp f.p f.o f.s.heldB.toNat f.s.atA.toNat
 no:kp f.o f.p f.s.heldB ≤ 483
 np:kp f.p f.o f.s.atA ≤ 483
 bo:0 ≤ f.s.bo
 bp:0 ≤ f.s.bp
 cap:f.s.bo + f.s.bp = f.s.cap
 capm:f.s.cap ≤ 1152921504606846976
 side:f.s.side = 0 \/ f.s.side = 1
 loc0:0 ≤ f.s.loc
 loc1:f.s.loc ≤ 281474976710654
 ack0:0 ≤ f.s.ack
 rem:f.s.rem = f.s.ack \/ f.s.rem = f.s.ack + 1
 rem1:f.s.rem ≤ 281474976710654
section
variable {f:StF} (I:iC f)
include I
theorem iC.fA:nK f.s = f.s.atA:=by unfold nK; have:=I.a1; split <;> omega
theorem iC.fB:ng f.s = f.s.heldB:=by unfold ng; have:=I.b1; have:=I.b2; split <;> omega
theorem iC.vo:∀ u ∈ f.o,dC u = true:=r9 I.go
theorem iC.vp:∀ u ∈ f.p,dC u = true:=r9 I.gp
theorem iC.lo:f.o.length ≤ 2048:=Ay I.go
theorem iC.lp:f.p.length ≤ 2048:=Ay I.gp
theorem iC.book:nQ f.s.bo f.s.bp f.o f.p f.s.atA.toNat f.s.heldB.toNat :=
 ⟨I.oko,I.okp,I.vo,I.vp,by have:=I.a1; have:=I.a2; have:=I.a3; have:=I.a0; omega,by have:=I.b0; have:=I.b1; have:=I.b2; have:=I.b3; omega,I.lo,I.lp,sW I.go,sW I.gp,za I.go,za I.gp,I.so,I.sp,I.bo,I.bp,by have:=I.cap; have:=I.capm; omega⟩
theorem iC.vO:vP f = SB f.s.bo f.o f.p f.s.atA.toNat f.s.heldB.toNat /\ rP f.s.bo f.o f.p (nK f.s) (ng f.s) = SB f.s.bo f.o f.p f.s.atA.toNat f.s.heldB.toNat:=by
 have hb:=I.book
 have h1:=FX hb
 have hA:((f.s.atA.toNat:Nat):Int) = f.s.atA:=Int.toNat_of_nonneg I.a0
 have hB:((f.s.heldB.toNat:Nat):Int) = f.s.heldB:=Int.toNat_of_nonneg I.b0
 refine ⟨?_,?_⟩
 ·unfold vP
  rw [I.fA,I.fB]
  have:=CI (base:=f.s.bo) (mine:=f.o) (others:=f.p) (fm:=f.s.atA.toNat) (fo:=f.s.heldB.toNat) I.vo I.vp I.bo (by have:=I.cap; have:=I.capm; have:=I.bp; omega)
  rw [hA,hB] at this
  rw [this]
  have h0:=I.so
  have:=I.cap; have:=I.capm
  unfold Dm
  split
  ·omega
  ·split <;> omega
 ·unfold rP SB dP
  rw [I.fA,I.fB,Fm (fun u hu=>I.vp u (List.mem_of_mem_take hu)) (su (rj I.gp) _),H5 (fun u hu=>I.vo u (List.mem_of_mem_take hu)) (su (rj I.go) _)]
theorem iC.vM:vN f = SB f.s.bp f.p f.o f.s.heldB.toNat f.s.atA.toNat /\ rP f.s.bp f.p f.o (ng f.s) (nK f.s) = SB f.s.bp f.p f.o f.s.heldB.toNat f.s.atA.toNat:=by
 have hb:=I.book.swap
 have h1:=FX hb
 have hA:((f.s.atA.toNat:Nat):Int) = f.s.atA:=Int.toNat_of_nonneg I.a0
 have hB:((f.s.heldB.toNat:Nat):Int) = f.s.heldB:=Int.toNat_of_nonneg I.b0
 refine ⟨?_,?_⟩
 ·unfold vN
  rw [I.fA,I.fB]
  have:=CI (base:=f.s.bp) (mine:=f.p) (others:=f.o) (fm:=f.s.heldB.toNat) (fo:=f.s.atA.toNat) I.vp I.vo I.bp (by have:=I.cap; have:=I.capm; have:=I.bo; omega)
  rw [hA,hB] at this
  rw [this]
  have h0:=I.sp
  have:=I.cap; have:=I.capm
  unfold Dm
  split
  ·omega
  ·split <;> omega
 ·unfold rP SB dP
  rw [I.fA,I.fB,Fm (fun u hu=>I.vo u (List.mem_of_mem_take hu)) (su (rj I.go) _),H5 (fun u hu=>I.vp u (List.mem_of_mem_take hu)) (su (rj I.gp) _)]
theorem iC.D7:0 ≤ vP f /\ vP f ≤ 1152921504606846976:=by
 have h1:=FX I.book
 have h2:=I.so
 have:=I.cap; have:=I.capm
 rw [I.vO.1]; omega
theorem iC.D6:0 ≤ vN f /\ vN f ≤ 1152921504606846976:=by
 have h1:=FX I.book.swap
 have h2:=I.sp
 have:=I.cap; have:=I.capm
 rw [I.vM.1]; omega
end
end Go.Esc.M
set_option linter.unusedSimpArgs false
set_option linter.unusedVariables false
set_option maxRecDepth 20000
namespace Go.Esc.M
open Go Go.Esc
theorem xZ (a b:Int):IntKind.i64.wrap (IntKind.i64.wrap a - b) = IntKind.i64.wrap (a - b):=by
 simp only [IntKind.wrap,IntKind.bits,IntKind.signed]
 simp
 split <;> split <;> split <;> omega
theorem DO (a b:Int):IntKind.i64.wrap (IntKind.i64.wrap a + b) = IntKind.i64.wrap (a + b):=by
 have:=xZ a (-b)
 rwa [Int.sub_neg,Int.sub_neg] at this
section
variable {F0:List AId} {G0 G:ah} {ps:List LP} {Q:ag -> ah -> Prop}
theorem bP.use {f:StF} {vo vp vh:ag} (h:kW G f vo vp vh) (hQ:∀ G',Ch [] G [] G' -> Q (.bool (xg f.s)) G'):al P bP.n [f.s.av vo vp vh] G Q:=by
 have ho:=h.ok
 have hl:=h.lv
 refine bP.sound ?_
 unfold bP.S
 intro i1 f1
 have s1:=(Sp.nil G).row f1 (f.s.av vo vp vh)
 have hg:=ar.own (i:=0) s1 rfl
 have hQ:=hQ _ s1.ch
 unfold xg at hQ
 refine ae (St.GA hg ho hl) ?_
 rw [dy,aa]
 by_cases h1:f.s.failed = 0
 ·rw [decide_eq_true h1,Bool.not_true,Bool.false_or] at hQ
  rw [decide_eq_true h1,Bool.not_true,aM]
  refine ae (St.GB hg ho hl) ?_
  rw [dy,aa]
  exact hQ
 ·rw [decide_eq_false h1,Bool.not_false,Bool.true_or] at hQ
  rw [decide_eq_false h1,Bool.not_false,aX]
  exact hQ
theorem cS.use {f:StF} {vo vp vh:ag} (h:kW G f vo vp vh) (hQ:∀ G',Ch [] G [] G' -> Q (.bool (AE f)) G'):al P cS.n [f.s.av vo vp vh] G Q:=by
 have ho:=h.ok
 have hl:=h.lv
 refine cS.sound ?_
 unfold cS.S
 intro i1 f1
 have s1:=(Sp.nil G).row f1 (f.s.av vo vp vh)
 have hg:=ar.own (i:=0) s1 rfl
 have hQ:=hQ _ s1.ch
 unfold AE at hQ
 refine ae (St.gG hg ho hl) ?_
 refine ae (fy (h.o.jf.ch' s1.ch)) ?_
 rw [gq,aa]
 by_cases h1:2048 ≤ f.o.length
 ·rw [decide_eq_true h1,Bool.true_or] at hQ
  rw [decide_eq_true (by omega),aX]
  exact hQ
 ·rw [decide_eq_false h1,Bool.false_or] at hQ
  rw [decide_eq_false (by omega),aM]
  refine ae (St.gG hg ho hl) ?_
  refine ae (fy (h.o.jf.ch' s1.ch)) ?_
  refine ae (St.r7 hg ho hl) ?_
  rw [bS,aa,gq,aa]
  exact hQ
theorem bV.use {f:StF} {vo vp vh:ag} (h:kW G f vo vp vh) (hQ:∀ G',Ch [] G [] G' -> Q (bR (nK f.s) (ng f.s)) G'):al P bV.n [f.s.av vo vp vh] G Q:=by
 have ho:=h.ok
 have hl:=h.lv
 refine bV.sound ?_
 unfold bV.S
 intro i1 f1
 have s1:=(Sp.nil G).row f1 (f.s.av vo vp vh)
 intro i3 f3
 have zC:kG = bR 0 0:=rfl
 rw [zC]
 have s3:=s1.row f3 (bR 0 0)
 revert s3
 generalize ah.upd _ i3 _ = G4
 intro s3
 have hg:=ar.own (i:=1) s3 rfl
 refine ae (St.KN hg ho hl) ?_
 refine ae (St.r7 hg ho hl) ?_
 refine ae (v:=.int .i64 (nK f.s)) rfl ?_
 refine ae (St.rf hg ho hl) ?_
 refine ae (St.Iw hg ho hl) ?_
 refine ae (v:=.int .i64 (ng f.s)) rfl ?_
 refine ae (v:=bR (nK f.s) (ng f.s)) rfl ?_
 refine fK (il (c:=bR (nK f.s) (ng f.s)) fR (ar.own (i:=0) s3 rfl) rfl rfl rfl) ?_
 have s4:=Sp.setRow (j:=0) s3 rfl (bR (nK f.s) (ng f.s))
 refine ae (cJ fR (ar.own (i:=0) s4 rfl) rfl) ?_
 exact hQ _ s4.ch
theorem bB.use {v:ag} {l:List aK} {n:Int} (hl:iu 36 G v (l.map aK.av)) (hlen:l.length ≤ 1048576) (hQ:∀ w,iu 36 G w ((dP l n).map aK.av) -> Q w G):al P bB.n [v,.int .i64 n] G Q:=by
 refine bB.sound ?_
 unfold bB.S
 have tk:∀ m:Nat,m ≤ l.length -> l.take m = dP l n -> ∃ w,fj T ak v none (some (.int .i64 (m:Int))) none = some w /\ iu 36 G w ((dP l n).map aK.av):=by
  intro m hm he
  obtain ⟨w,e1,e2⟩:=iu.take (ie:=dA) (k:=.i64) (m:=m) cn rfl fC hl rfl (by rw [List.length_map]; exact hm)
  refine ⟨w,e1,?_⟩
  rw [<- he,List.map_take]
  exact e2
 unfold dP at tk hQ
 rw [aH,aa,aE]
 refine ⟨fun h0=>?_,fun h0=>?_⟩
 ·refine ae (fy hl.jf) ?_
  rw [de,aa,decide_eq_false (by omega),aM]
  obtain ⟨w,e1,e2⟩:=tk 0 (by omega) (by rw [show n.toNat = 0 by omega])
  refine ae e1 ?_
  exact hQ w e2
 ·refine ae (fy hl.jf) ?_
  rw [de,aa,aE]
  refine ⟨fun h1=>?_,fun h1=>?_⟩
  ·refine ae (fy hl.jf) ?_
   obtain ⟨w,e1,e2⟩:=tk l.length (Nat.le_refl _) (by rw [List.take_length,List.take_of_length_le (by omega)])
   refine ae e1 ?_
   exact hQ w e2
  ·obtain ⟨w,e1,e2⟩:=tk n.toNat (by omega) rfl
   rw [Int.toNat_of_nonneg (by omega)] at e1
   refine ae e1 ?_
   exact hQ w e2
set_option maxHeartbeats 1000000 in
theorem bQ.use {v:ag} {l:List aK} {id k:Int} (hl:fV 36 G v (l.map aK.av)) (hlen:l.length ≤ 1048576) (hQ:Q (.bool (nF l id k)) G):al P bQ.n [v,.int .i64 id,.int .i64 k] G Q:=by
 refine bQ.sound ?_
 unfold bQ.S
 intro R hR
 have loop:∀ (n j:Nat),l.length - j = n -> j ≤ l.length -> nF (l.drop j) id k = nF l id k -> R [v,.int .i64 id,.int .i64 k,.int .i64 (j:Int)] G:=by
  intro n
  induction n with
  | zero=>
   intro j hn hj he
   have:j = l.length:=by omega
   subst this
   rw [List.drop_length] at he
   refine hR _ _ _ _ _ ?_
   refine ae (fy hl) ?_
   rw [aH,aa,aE]
   refine ⟨fun h=>absurd h (by omega),fun _=>?_⟩
   rw [<- he] at hQ
   exact hQ
  | succ n ih=>
   intro j hn hj he
   obtain ⟨u,hu⟩:∃ u,l[j]? = some u:=⟨_,List.getElem?_eq_getElem (by omega)⟩
   obtain ⟨a0,b0,ha0,hb0,hl0⟩:=jb (f:=0) (o:=0) (tf:=au) (fi:=mf) hl hu rfl hO (by decide) rfl rfl rfl
   obtain ⟨a1,b1,ha1,hb1,hl1⟩:=jb (f:=1) (o:=1) (tf:=ai) (fi:=jy) hl hu rfl cA (by decide) rfl rfl rfl
   have hdr:l.drop j = u :: l.drop (j + 1):=by
    obtain ⟨hx,rfl⟩:=List.getElem?_eq_some_iff.1 hu
    exact List.drop_eq_getElem_cons hx
   have hrem:nF (l.drop j) id k = ((decide (u.id = id) && (!decide (u.kind = 1) && (decide (k = 0) || decide (u.kind = k)))) || nF (l.drop (j + 1)) id k):=by rw [hdr]; rfl
   have next:(decide (u.id = id) && (!decide (u.kind = 1) && (decide (k = 0) || decide (u.kind = k)))) = false -> wv (aw T .add au (.int .i64 (j:Int)) (.int .i64 1)) fun v31=>R [v,.int .i64 id,.int .i64 k,v31] G:=by
    intro h
    rw [h,Bool.false_or] at hrem
    rw [bf,aa,i64_in (by omega) (by omega)]
    exact ih (j + 1) (by omega) (by omega) (hrem ▸ he)
   have hit:(decide (u.id = id) && (!decide (u.kind = 1) && (decide (k = 0) || decide (u.kind = k)))) = true -> Q (.bool true) G:=by
    intro h
    rw [h,Bool.true_or] at hrem
    rw [<- he,hrem] at hQ
    exact hQ
   refine hR _ _ _ _ _ ?_
   refine ae (fy hl) ?_
   rw [aH,aa,aE]
   refine ⟨fun _=>?_,fun h=>absurd (by omega) h⟩
   refine ae ha1 ?_
   refine ae hb1 ?_
   refine ae hl1 ?_
   rw [bC,aa,aE]
   refine ⟨fun hid=>?_,fun hid=>next (by rw [decide_eq_false hid,Bool.false_and])⟩
   refine ae ha0 ?_
   refine ae hb0 ?_
   refine ae hl0 ?_
   rw [dy,aa,fg]
   refine ⟨fun hk=>?_,fun hk=>next (by rw [decide_eq_true hk]; simp)⟩
   rw [bC,aa,aE]
   refine ⟨fun h0=>hit (by rw [decide_eq_true hid,decide_eq_false hk,decide_eq_true h0]; rfl),fun h0=>?_⟩
   refine ae ha0 ?_
   refine ae hb0 ?_
   refine ae hl0 ?_
   rw [bC,aa,aE]
   refine ⟨fun h1=>hit (by rw [decide_eq_true hid,decide_eq_false hk,decide_eq_true h1,Bool.or_true]; rfl),fun h1=>next (by rw [decide_eq_false h1,decide_eq_false h0]; simp)⟩
 exact loop _ 0 rfl (by omega) (by simp)
set_option maxHeartbeats 1000000 in
theorem dF.use {v:ag} {l:List aK} {id:Int} (hl:fV 36 G v (l.map aK.av)) (hok:∀ u ∈ l,u.ok) (hlen:l.length ≤ 9223372036854775807) (hQ:∀ G',Ch [] G [] G' -> Q (H8 (fW false id l)) G') :
  al P dF.n [v,.int .i64 id] G Q:=by
 refine dF.sound ?_
 unfold dF.S
 rw [DL]
 intro i1 f1
 have s1:=(Sp.nil G).row f1 aK.zero.av
 revert s1
 generalize ah.upd _ i1 (.own aK.zero.av) = G2
 intro s1 R hR
 have loop:∀ (n j:Nat),l.length - j = n -> j ≤ l.length -> fW false id (l.drop j) = fW false id l -> R [v,.int .i64 id,.ptr i1 [] 0,.int .i64 (j:Int)] G2:=by
  intro n
  induction n with
  | zero=>
   intro j hn hj he
   have:j = l.length:=by omega
   subst this
   rw [List.drop_length] at he
   refine hR _ _ _ _ _ ?_
   refine ae (fy (hl.ch' s1.ch)) ?_
   rw [aH,aa,aE]
   refine ⟨fun h=>absurd h (by omega),fun _=>?_⟩
   rw [ug,aa]
   refine kY (i:=0) s1 rfl aK.bD aK.bD fun G2 s2=>?_
   refine ae (dh (i:=0) s2 rfl aK.bD).2.2.2.2.2 ?_
   have:=hQ _ s2.ch
   rw [<- he] at this
   exact this
  | succ n ih=>
   intro j hn hj he
   obtain ⟨u,hu⟩:∃ u,l[j]? = some u:=⟨_,List.getElem?_eq_getElem (by omega)⟩
   have huo:=hok u (List.mem_of_getElem? hu)
   obtain ⟨a,ha,hla⟩:=oF (hl.ch' s1.ch) hu
   obtain ⟨a0,b0,ha0,hb0,hl0⟩:=jb (f:=0) (o:=0) (tf:=au) (fi:=mf) (hl.ch' s1.ch) hu rfl hO (by decide) rfl rfl rfl
   obtain ⟨a1,b1,ha1,hb1,hl1⟩:=jb (f:=1) (o:=1) (tf:=ai) (fi:=jy) (hl.ch' s1.ch) hu rfl cA (by decide) rfl rfl rfl
   have hdr:l.drop j = u :: l.drop (j + 1):=by
    obtain ⟨hx,rfl⟩:=List.getElem?_eq_some_iff.1 hu
    exact List.drop_eq_getElem_cons hx
   rw [hdr,fW,List.find?_cons] at he
   have next:vY false id u = false -> wv (aw T .add au (.int .i64 (j:Int)) (.int .i64 1)) fun v31=>R [v,.int .i64 id,.ptr i1 [] 0,v31] G2:=by
    intro h
    rw [h] at he
    rw [bf,aa,i64_in (by omega) (by omega)]
    exact ih (j + 1) (by omega) (by omega) he
   unfold vY at next he
   refine hR _ _ _ _ _ ?_
   refine ae (fy (hl.ch' s1.ch)) ?_
   rw [aH,aa,aE]
   refine ⟨fun _=>?_,fun h=>absurd (by omega) h⟩
   refine ae ha0 ?_
   refine ae hb0 ?_
   refine ae hl0 ?_
   rw [bC,aa,aE]
   refine ⟨fun hk=>?_,fun hk=>next (by rw [cond_false,decide_eq_false hk,Bool.and_false])⟩
   refine ae ha1 ?_
   refine ae hb1 ?_
   refine ae hl1 ?_
   rw [bC,aa,aE]
   refine ⟨fun hid=>?_,fun hid=>next (by rw [decide_eq_false hid,Bool.false_and])⟩
   rw [cond_false,decide_eq_true hid,decide_eq_true hk] at he
   refine ae ha ?_
   refine ae hla ?_
   refine kY (i:=0) s1 rfl aK.bD huo fun G2 s2=>?_
   refine ae (dh (i:=0) s2 rfl huo).2.2.2.2.2 ?_
   have:=hQ _ s2.ch
   rw [<- he] at this
   exact this
 exact loop _ 0 rfl (by omega) (by simp)
theorem eM.use {v:ag} {l:List aK} (hl:fV 36 G v (l.map aK.av)) (hlen:l.length ≤ 1048576) (hQ:Q (.int .i64 ((jR l:Nat):Int)) G):al P eM.n [v] G Q:=by
 refine eM.sound ?_
 unfold eM.S
 intro R hR
 have loop:∀ (n j:Nat),l.length - j = n -> j ≤ l.length -> R [v,.int .i64 ((jR (l.take j):Nat):Int),.int .i64 (j:Int)] G:=by
  intro n
  induction n with
  | zero=>
   intro j hn hj
   have:j = l.length:=by omega
   subst this
   rw [List.take_length]
   refine hR _ _ _ _ ?_
   refine ae (fy hl) ?_
   rw [aH,aa,aE]
   exact ⟨fun h=>absurd h (by omega),fun _=>hQ⟩
  | succ n ih=>
   intro j hn hj
   obtain ⟨u,hu⟩:∃ u,l[j]? = some u:=⟨_,List.getElem?_eq_getElem (by omega)⟩
   obtain ⟨a0,b0,ha0,hb0,hl0⟩:=jb (f:=0) (o:=0) (tf:=au) (fi:=mf) hl hu rfl hO (by decide) rfl rfl rfl
   have hle:=zB (l.take j)
   rw [List.length_take] at hle
   have hst:jR (l.take (j + 1)) = jR (l.take j) + jR [u]:=by rw [List.take_add_one,hu,oU]; rfl
   refine hR _ _ _ _ ?_
   refine ae (fy hl) ?_
   rw [aH,aa,aE]
   refine ⟨fun _=>?_,fun h=>absurd (by omega) h⟩
   refine ae ha0 ?_
   refine ae hb0 ?_
   refine ae hl0 ?_
   rw [bC,aa,aE]
   refine ⟨fun hk=>?_,fun hk=>?_⟩
   ·have e1:jR [u] = 1:=by simp [jR,hk]
    rw [bf,i64_in (by omega) (by omega),aa,bf,i64_in (by omega) (by omega),aa]
    have:=ih (j + 1) (by omega) (by omega)
    rw [hst,e1] at this
    exact this
   ·have e1:jR [u] = 0:=by simp [jR,hk]
    rw [bf,i64_in (by omega) (by omega),aa]
    have:=ih (j + 1) (by omega) (by omega)
    rw [hst,e1] at this
    exact this
 exact loop _ 0 rfl (by omega)
set_option maxHeartbeats 1000000 in
theorem dE.use {v w:ag} {own other:List aK} (hl:fV 36 G v (own.map aK.av)) (ho:fV 36 G w (other.map aK.av)) (hlen:own.length ≤ 1048576) (hlen2:other.length ≤ 1048576) (hQ:Q (.int .i64 ((tB own other:Nat):Int)) G):al P dE.n [v,w] G Q:=by
 refine dE.sound ?_
 unfold dE.S
 intro R hR
 have loop:∀ (n j:Nat),own.length - j = n -> j ≤ own.length -> R [v,w,.int .i64 ((tB (own.take j) other:Nat):Int),.int .i64 (j:Int)] G:=by
  intro n
  induction n with
  | zero=>
   intro j hn hj
   have:j = own.length:=by omega
   subst this
   rw [List.take_length]
   refine hR _ _ _ _ _ ?_
   refine ae (fy hl) ?_
   rw [aH,aa,aE]
   exact ⟨fun h=>absurd h (by omega),fun _=>hQ⟩
  | succ n ih=>
   intro j hn hj
   obtain ⟨u,hu⟩:∃ u,own[j]? = some u:=⟨_,List.getElem?_eq_getElem (by omega)⟩
   obtain ⟨a0,b0,ha0,hb0,hl0⟩:=jb (f:=0) (o:=0) (tf:=au) (fi:=mf) hl hu rfl hO (by decide) rfl rfl rfl
   obtain ⟨a1,b1,ha1,hb1,hl1⟩:=jb (f:=1) (o:=1) (tf:=ai) (fi:=jy) hl hu rfl cA (by decide) rfl rfl rfl
   have hle:tB (own.take j) other ≤ j:=by
    unfold tB
    refine Nat.le_trans (List.length_filter_le _ _) ?_
    rw [List.length_take]; omega
   have hst:tB (own.take (j + 1)) other = tB (own.take j) other + if BC other u = true then 1 else 0:=by
    unfold tB
    rw [List.take_add_one,hu,List.filter_append,List.length_append]
    congr 1
    simp only [Option.toList_some,List.filter_cons,List.filter_nil]
    split <;> rfl
   unfold BC at hst
   refine hR _ _ _ _ _ ?_
   refine ae (fy hl) ?_
   rw [aH,aa,aE]
   refine ⟨fun _=>?_,fun h=>absurd (by omega) h⟩
   intro J30
   have go:∀ x:Int,x = ((tB (own.take (j + 1)) other:Nat):Int) -> J30 (.int .i64 x) G:=by
    intro x hx
    simp -zeta only [J30]
    rw [bf,i64_in (by omega) (by omega),aa,hx]
    exact ih (j + 1) (by omega) (by omega)
   refine ae ha0 ?_
   refine ae hb0 ?_
   refine ae hl0 ?_
   rw [bC,aa,aE]
   refine ⟨fun hk=>?_,fun hk=>go _ (by rw [hst,decide_eq_false hk,Bool.false_and]; rfl)⟩
   rw [decide_eq_true hk,Bool.true_and] at hst
   refine ae ha1 ?_
   refine ae hb1 ?_
   refine ae hl1 ?_
   refine bQ.use ho hlen2 ?_
   rw [fN,aa,iE]
   refine ⟨fun h=>?_,fun h=>go _ (by rw [hst,h]; rfl)⟩
   rw [h,if_pos rfl] at hst
   rw [bf,i64_in (by omega) (by omega),aa]
   exact go _ (by rw [hst]; omega)
 exact loop _ 0 rfl (by omega)
set_option maxHeartbeats 2000000 in
theorem b6.use {v w:ag} {own other:List aK} {base fo fp:Int} (hl:iu 36 G v (own.map aK.av)) (ho:iu 36 G w (other.map aK.av)) (hlen:own.length ≤ 1048576) (hlen2:other.length ≤ 1048576) (hb:I64 base)
  (h0:0 ≤ rP base own other fo fp) (h1:rP base own other fo fp ≤ 1152921504606846976) (hQ:Q (.int .i64 (rP base own other fo fp)) G):al P b6.n [.int .i64 base,v,w,.int .i64 fo,.int .i64 fp] G Q:=by
 refine b6.sound ?_
 unfold b6.S
 unfold rP at h0 h1 hQ
 have hfl:=mm other fp
 have hfo:=mm own fo
 obtain ⟨S,hS⟩:∃ S,S = Bp (dP other fp):=⟨_,rfl⟩
 obtain ⟨D,hD⟩:∃ D,D = Fu (dP own fo):=⟨_,rfl⟩
 rw [<- hS,<- hD] at h0 h1 hQ
 intro R1 hR1
 have two:R1 [v,w,.int .i64 fo,.int .i64 fp,.int .i64 (IntKind.i64.wrap (base - gm S own)),.int .i64 (own.length:Nat)] G:=by
  refine hR1 _ _ _ _ _ _ _ ?_
  refine ae (fy hl.jf) ?_
  rw [aH,aa,aE]
  refine ⟨fun h=>absurd h (by omega),fun _=>?_⟩
  refine bB.use hl hlen fun x hx=>?_
  intro R hR
  have loop:∀ (n j:Nat),other.length - j = n -> j ≤ other.length -> R [w,.int .i64 (IntKind.i64.wrap (base - gm S own + gm D (other.take j))),x,.int .i64 (j:Int)] G:=by
   intro n
   induction n with
   | zero=>
    intro j hn hj
    have:j = other.length:=by omega
    subst this
    rw [List.take_length]
    refine hR _ _ _ _ _ ?_
    refine ae (fy ho.jf) ?_
    rw [aH,aa,aE]
    refine ⟨fun h=>absurd h (by omega),fun _=>?_⟩
    rw [i64_in (by omega) (by omega)]
    refine ae (v:=.int .i64 (base - gm S own + gm D other)) ?_ hQ
    show (some (ag.int .i64 (if base - gm S own + gm D other < 0 then 0 else base - gm S own + gm D other))) = _
    rw [if_neg (by omega)]
   | succ n ih=>
    intro j hn hj
    obtain ⟨u,hu⟩:∃ u,other[j]? = some u:=⟨_,List.getElem?_eq_getElem (by omega)⟩
    obtain ⟨a0,b0,ha0,hb0,hl0⟩:=jb (f:=0) (o:=0) (tf:=au) (fi:=mf) ho.jf hu rfl hO (by decide) rfl rfl rfl
    obtain ⟨a1,b1,ha1,hb1,hl1⟩:=jb (f:=1) (o:=1) (tf:=ai) (fi:=jy) ho.jf hu rfl cA (by decide) rfl rfl rfl
    obtain ⟨a2,b2,ha2,hb2,hl2⟩:=jb (f:=2) (o:=2) (tf:=ai) (fi:=jy) ho.jf hu rfl cA (by decide) rfl rfl rfl
    have hst:=oX (f:=D) hu
    have eD:D u = (decide (u.kind = 1) && nF (dP own fo) u.id 2):=by rw [hD]; rfl
    refine hR _ _ _ _ _ ?_
    refine ae (fy ho.jf) ?_
    rw [aH,aa,aE]
    refine ⟨fun _=>?_,fun h=>absurd (by omega) h⟩
    intro J77
    have go:∀ y:Int,y = IntKind.i64.wrap (base - gm S own + gm D (other.take (j + 1))) -> J77 (.int .i64 y) G:=by
     intro y hy
     simp -zeta only [J77]
     rw [bf,i64_in (by omega) (by omega),aa,hy]
     exact ih (j + 1) (by omega) (by omega)
    refine ae ha0 ?_
    refine ae hb0 ?_
    refine ae hl0 ?_
    rw [bC,aa,aE]
    refine ⟨fun hk=>?_,fun hk=>go _ (by rw [hst,eD,decide_eq_false hk]; simp)⟩
    rw [decide_eq_true hk,Bool.true_and] at eD
    refine ae ha1 ?_
    refine ae hb1 ?_
    refine ae hl1 ?_
    refine bQ.use hx.jf (by omega) ?_
    rw [iE]
    refine ⟨fun h=>?_,fun h=>go _ (by rw [hst,eD,h]; simp)⟩
    refine ae ha2 ?_
    refine ae hb2 ?_
    refine ae hl2 ?_
    rw [bf,aa,DO]
    exact go _ (by rw [hst,eD,h,if_pos rfl]; congr 1; omega)
  have:=loop other.length 0 (by omega) (by omega)
  have e0:gm D (other.take 0) = 0:=rfl
  rw [e0,Int.add_zero] at this
  exact this
 have loop:∀ (n j:Nat),own.length - j = n -> j ≤ own.length -> R1 [v,w,.int .i64 fo,.int .i64 fp,.int .i64 (IntKind.i64.wrap (base - gm S (own.take j))),.int .i64 (j:Int)] G:=by
  intro n
  induction n with
  | zero=>
   intro j hn hj
   have:j = own.length:=by omega
   subst this
   rw [List.take_length]
   exact two
  | succ n ih=>
   intro j hn hj
   obtain ⟨u,hu⟩:∃ u,own[j]? = some u:=⟨_,List.getElem?_eq_getElem (by omega)⟩
   obtain ⟨a0,b0,ha0,hb0,hl0⟩:=jb (f:=0) (o:=0) (tf:=au) (fi:=mf) hl.jf hu rfl hO (by decide) rfl rfl rfl
   obtain ⟨a1,b1,ha1,hb1,hl1⟩:=jb (f:=1) (o:=1) (tf:=ai) (fi:=jy) hl.jf hu rfl cA (by decide) rfl rfl rfl
   obtain ⟨a2,b2,ha2,hb2,hl2⟩:=jb (f:=2) (o:=2) (tf:=ai) (fi:=jy) hl.jf hu rfl cA (by decide) rfl rfl rfl
   have hst:=oX (f:=S) hu
   have eS:S u = (decide (u.kind = 1) && !nF (dP other fp) u.id 3):=by rw [hS]; rfl
   refine hR1 _ _ _ _ _ _ _ ?_
   refine ae (fy hl.jf) ?_
   rw [aH,aa,aE]
   refine ⟨fun _=>?_,fun h=>absurd (by omega) h⟩
   intro J40
   have go:∀ y:Int,y = IntKind.i64.wrap (base - gm S (own.take (j + 1))) -> J40 (.int .i64 y) G:=by
    intro y hy
    simp -zeta only [J40]
    rw [bf,i64_in (by omega) (by omega),aa,hy]
    exact ih (j + 1) (by omega) (by omega)
   refine ae ha0 ?_
   refine ae hb0 ?_
   refine ae hl0 ?_
   rw [bC,aa,aE]
   refine ⟨fun hk=>?_,fun hk=>go _ (by rw [hst,eS,decide_eq_false hk]; simp)⟩
   rw [decide_eq_true hk,Bool.true_and] at eS
   refine ae ha1 ?_
   refine ae hb1 ?_
   refine ae hl1 ?_
   refine bB.use ho hlen2 fun x hx=>?_
   refine ⟨⟨hl1,trivial⟩,?_⟩
   refine bQ.use hx.jf (by omega) ?_
   rw [fN,aa,<- eS,iE]
   refine ⟨fun h=>?_,fun h=>go _ (by rw [hst,h]; simp)⟩
   refine ae ha2 ?_
   refine ae hb2 ?_
   refine ae hl2 ?_
   rw [bS,aa,xZ]
   exact go _ (by rw [hst,h,if_pos rfl]; congr 1; omega)
 have:=loop own.length 0 (by omega) (by omega)
 have e0:gm S (own.take 0) = 0:=rfl
 rw [e0,Int.sub_zero,i64_in hb.1 hb.2] at this
 exact this
theorem cr.use {f:StF} {vo vp vh:ag} (h:kW G f vo vp vh) (I:iC f) (hQ:∀ G',Ch [] G [] G' -> Q (.int .i64 (vP f)) G'):al P cr.n [f.s.av vo vp vh] G Q:=by
 have ho:=h.ok
 have hl:=h.lv
 refine cr.sound ?_
 unfold cr.S
 intro i1 f1
 have s1:=(Sp.nil G).row f1 (f.s.av vo vp vh)
 refine ae (St.ld (ar.own (i:=0) s1 rfl) ho hl) ?_
 refine bV.use (h.mv s1.ch) fun G5 c5=>?_
 have s5:=s1.tmp c5
 refine jQ (c:=bR (nK f.s) (ng f.s)) s5 fR rfl rfl rfl fun i6 G8 s8=>?_
 have hg:=ar.own (i:=1) s8 rfl
 refine ae (St.FE hg ho hl) ?_
 refine ae (St.gG hg ho hl) ?_
 refine ae (St.iP hg ho hl) ?_
 refine ae (kU (ar.own (i:=0) s8 rfl)).1 ?_
 refine ae (kU (ar.own (i:=0) s8 rfl)).2.1 ?_
 obtain ⟨e1,e2⟩:=I.vO
 have hr:=I.D7
 rw [e1] at hr hQ
 refine b6.use (h.o.mv s8.ch) (h.p.mv s8.ch) h.lo h.lp ho.bo (by rw [e2]; exact hr.1) (by rw [e2]; exact hr.2) ?_
 rw [e2]
 exact hQ _ s8.ch
theorem bM.use {f:StF} {vo vp vh:ag} (h:kW G f vo vp vh) (I:iC f) (hQ:∀ G',Ch [] G [] G' -> Q (.int .i64 (vN f)) G'):al P bM.n [f.s.av vo vp vh] G Q:=by
 have ho:=h.ok
 have hl:=h.lv
 refine bM.sound ?_
 unfold bM.S
 intro i1 f1
 have s1:=(Sp.nil G).row f1 (f.s.av vo vp vh)
 refine ae (St.ld (ar.own (i:=0) s1 rfl) ho hl) ?_
 refine bV.use (h.mv s1.ch) fun G5 c5=>?_
 have s5:=s1.tmp c5
 refine jQ (c:=bR (nK f.s) (ng f.s)) s5 fR rfl rfl rfl fun i6 G8 s8=>?_
 have hg:=ar.own (i:=1) s8 rfl
 refine ae (St.FD hg ho hl) ?_
 refine ae (St.iP hg ho hl) ?_
 refine ae (St.gG hg ho hl) ?_
 refine ae (kU (ar.own (i:=0) s8 rfl)).2.1 ?_
 refine ae (kU (ar.own (i:=0) s8 rfl)).1 ?_
 obtain ⟨e1,e2⟩:=I.vM
 have hr:=I.D6
 rw [e1] at hr hQ
 refine b6.use (h.p.mv s8.ch) (h.o.mv s8.ch) h.lp h.lo ho.bp (by rw [e2]; exact hr.1) (by rw [e2]; exact hr.2) ?_
 rw [e2]
 exact hQ _ s8.ch
end
end Go.Esc.M
set_option linter.unusedSimpArgs false
set_option linter.unusedVariables false
set_option maxRecDepth 20000
namespace Go.Esc.M
open Go Go.Esc
theorem Asc.LA:∀ {l:List ba} {m n:Int},m ≤ n -> Asc n l -> Asc m l
 | [],_,_,_,_=>trivial
 | p :: l,m,n,h,k=>⟨by have:=k.1; omega,k.2⟩
theorem wP {p:ba}:∀ {l:List ba},(∀ q ∈ l,¬ p.id < q.id) -> gX l p = l ++ [p]
 | [],_=>rfl
 | q :: l,h=>by
  have ih:=wP (p:=p) (l:=l) fun x hx=>h x (by simp [hx])
  unfold gX
  rw [if_neg (h q (by simp)),ih]
  rfl
theorem Af:∀ {l acc:List ba} {n:Int},Asc n l -> (∀ q ∈ acc,q.id ≤ n) -> l.foldl gX acc = acc ++ l
 | [],acc,n,_,_=>by simp
 | p :: l,acc,n,h,hq=>by
  obtain ⟨h1,_,_,h4⟩:=h
  rw [List.foldl_cons,wP fun q hm=>by have:=hq q hm; omega]
  rw [Af h4 fun q hm=>?_,List.append_assoc]
  ·rfl
  ·rcases List.mem_append.1 hm with hm | hm
   ·have:=hq q hm; omega
   ·rw [List.mem_singleton.1 hm]; exact Int.le_refl _
theorem CK {l:List ba} {n:Int} (h:Asc n l):jO l = l:=by
 have:=Af (acc:=[]) h (by simp)
 simpa [jO] using this
theorem CR {l:List aK} (hi:qy l) (hv:∀ u ∈ l,dC u = true) (m:Bool) (f:aK -> Bool) (hf:∀ u,f u = true -> u.kind = 1):Asc (-1) (hJ m f l):=by
 have key:∀ (n j:Nat),l.length - j = n -> j ≤ l.length -> Asc (((jR (l.take j):Nat):Int) - 1) (hJ m f (l.drop j)):=by
  intro n
  induction n with
  | zero=>
   intro j hn hj
   rw [List.drop_of_length_le (by omega)]
   trivial
  | succ n ih=>
   intro j hn hj
   obtain ⟨u,hu⟩:∃ u,l[j]? = some u:=⟨_,List.getElem?_eq_getElem (by omega)⟩
   have hdr:l.drop j = u :: l.drop (j + 1):=by
    obtain ⟨hx,rfl⟩:=List.getElem?_eq_some_iff.1 hu
    exact List.drop_eq_getElem_cons hx
   have ih:=ih (j + 1) (by omega) (by omega)
   have hst:jR (l.take (j + 1)) = jR (l.take j) + jR [u]:=by rw [List.take_add_one,hu,oU]; rfl
   rw [hdr]
   cases hfu:f u with
   | true=>
    have hk:=hf u hfu
    have e1:jR [u] = 1:=by simp [jR,hk]
    have hid:=hi j u hu hk
    have hval:=(kO (hv u (List.mem_of_getElem? hu))).2.2
    have e:hJ m f (u :: l.drop (j + 1)) = CS m u :: hJ m f (l.drop (j + 1)):=by simp [hJ,hfu]
    rw [e]
    refine ⟨by show _ < u.id; omega,by show 1 ≤ u.amount; omega,by show u.amount ≤ ij; unfold ij; omega,?_⟩
    show Asc u.id _
    rw [hst,e1] at ih
    rw [hid]
    have:(((jR (l.take j) + 1:Nat):Int) - 1) = ((jR (l.take j):Nat):Int):=by omega
    rw [this] at ih
    exact ih
   | false=>
    have e:hJ m f (u :: l.drop (j + 1)) = hJ m f (l.drop (j + 1)):=by simp [hJ,hfu]
    rw [e]
    exact Asc.LA (by omega) ih
 have:=key l.length 0 (by omega) (by omega)
 exact this
theorem Ao {o p:List aK} (vo:∀ u ∈ o,dC u = true) (vp:∀ u ∈ p,dC u = true) {fb:Int} (h0:0 ≤ fb) {n m:Nat} (hm:fb ≤ (m:Int)):((o.take n).filter (opens (p.take m))).length ≤ kp o p fb:=by
 have h1:((o.take n).filter (opens (p.take m))).length ≤ (o.filter (opens (p.take m))).length:=(List.Sublist.filter _ (List.take_sublist _ _)).length_le
 refine Nat.le_trans h1 ?_
 unfold kp qE
 rw [List.length_map,<- List.countP_eq_length_filter,<- List.countP_eq_length_filter]
 refine List.countP_mono_left fun u hu ho=>?_
 simp only [opens,stays,Bool.and_eq_true,decide_eq_true_eq,Bool.not_eq_true',decide_eq_false_iff_not] at ho ⊢
 refine ⟨ho.1.1,vo u hu,?_⟩
 refine Classical.byContradiction fun hne=>?_
 have hle:fb.toNat ≤ m:=by omega
 have:=oZ (id:=u.id) (l:=p) hle hne
 have h3:=vS u.id (p.take m)
 have h4:je u.id (p.take fb.toNat) ≠ 0:=hne
 rw [<- this] at h4
 rcases h3 with h3 | h3 | h3
 ·exact h4 h3
 ·exact ho.2 h3
 ·exact ho.1.2 h3
theorem zf {o p:List aK} (io:qy o) (ip:qy p) (vo:∀ u ∈ o,dC u = true) (vp:∀ u ∈ p,dC u = true) {x y:Int} (hx:0 ≤ x /\ x ≤ ij) (hy:0 ≤ y /\ y ≤ ij)
  (h1:(o.filter (opens p)).length ≤ 483) (h2:(p.filter (opens o)).length ≤ 483):j6 x y (nJ o p) = true:=by
 have a1:=CR io vo true (opens p) fun u hu=>by simp [opens,stays] at hu; exact hu.1.1
 have a2:=CR ip vp false (opens o) fun u hu=>by simp [opens,stays] at hu; exact hu.1.1
 unfold nJ
 rw [CK a1,CK a2]
 have o1:∀ q ∈ hJ true (opens p) o,q.ours = true:=by
  intro q hq
  obtain ⟨u,_,rfl⟩:=List.mem_map.1 hq
  rfl
 have o2:∀ q ∈ hJ false (opens o) p,q.ours = false:=by
  intro q hq
  obtain ⟨u,_,rfl⟩:=List.mem_map.1 hq
  rfl
 obtain ⟨lt,e1⟩:=Kc _ (-1) (-1) 0 (hJ false (opens o) p) a1 o1
 have e2:=Kd _ lt (-1) (0 + (hJ true (opens p) o).length) 0 a2 o2
 unfold j6
 rw [e1,e2,decide_eq_true hx.1,decide_eq_true hx.2,decide_eq_true hy.1,decide_eq_true hy.2]
 have l1:(hJ true (opens p) o).length = (o.filter (opens p)).length:=by unfold hJ; rw [List.length_map]
 have l2:(hJ false (opens o) p).length = (p.filter (opens o)).length:=by unfold hJ; rw [List.length_map]
 simp only [few,l1,l2,Bool.true_and,Bool.and_eq_true,decide_eq_true_eq]
 omega
theorem y7 {l:List aK} (h:qy l) (n:Nat):qy (l.take n):=by
 intro j u hj hk
 have hl:=(List.getElem?_eq_some_iff.1 hj).1
 rw [List.length_take] at hl
 rw [List.getElem?_take_of_lt (by omega)] at hj
 rw [List.take_take,Nat.min_eq_left (by omega)]
 exact h j u hj hk
theorem iC.Km {f:StF} (I:iC f) {a b:Int} (ha:f.s.atA ≤ a) (ha2:a ≤ f.o.length) (hb:f.s.heldB ≤ b) (hb2:b ≤ f.p.length) :
  (jC f a b).e = 0 /\ j6 (jC f a b).o (jC f a b).q (jC f a b).l = true /\ j6 (jC f a b).q (jC f a b).o (oN (jC f a b).l) = true /\ jC f a b = foldM f.s.bo f.s.bp (f.o.take a.toNat) (f.p.take b.toNat):=by
 have a0:=I.a0
 have b0:=I.b0
 obtain ⟨h1,h2⟩:=I.book.taken (n:=a.toNat) (m:=b.toNat) (by omega) (by omega) (by omega) (by omega)
 rw [Int.toNat_of_nonneg (by omega),Int.toNat_of_nonneg (by omega)] at h1 h2
 have e:jC f a b = foldM f.s.bo f.s.bp (f.o.take a.toNat) (f.p.take b.toNat):=h2
 have h1':(foldM f.s.bo f.s.bp (f.o.take a.toNat) (f.p.take b.toNat)).e = 0:=by rw [<- h2]; exact h1
 obtain ⟨v1,v2,x0,y0,hm⟩:=GO h1'
 obtain ⟨l1,l2⟩:=BS (bo:=f.s.bo) (bp:=f.s.bp) v1 v2 (by have:=I.cap; have:=I.capm; omega)
 have io:=y7 (sW I.go) a.toNat
 have ip:=y7 (sW I.gp) b.toNat
 have c1:((f.o.take a.toNat).filter (opens (f.p.take b.toNat))).length ≤ 483:=Nat.le_trans (Ao I.vo I.vp I.b0 (by omega)) I.no
 have c2:((f.p.take b.toNat).filter (opens (f.o.take a.toNat))).length ≤ 483:=Nat.le_trans (Ao I.vp I.vo I.a0 (by omega)) I.np
 refine ⟨h1,?_,?_,e⟩
 ·rw [e,hm]
  exact zf io ip v1 v2 ⟨x0,l1 y0⟩ ⟨y0,l2 x0⟩ c1 c2
 ·rw [e,hm]
  show j6 (mT _ _ _) (ml _ _ _) (oN (nJ _ _)) = true
  rw [D0]
  exact zf ip io v2 v1 ⟨y0,l2 x0⟩ ⟨x0,l1 y0⟩ c2 c1
theorem HE {ow ix x y:Int} {pt:List UInt8} {l:List ba} (h0:ow = 0 \/ ow = 1) (h1:0 ≤ ix) (h2:ix ≤ 281474976710655) (hs:j6 x y l = true):nC ow ix pt x y l = (ux ow ix pt x y l,0):=by
 unfold nC
 rw [if_neg (by unfold qc uM; omega),hs]
 rfl
end Go.Esc.M
