import Derived.Test.YtkojimdacnohpaaGreatDoorLNa
import Derived.Test.YtkojimdacnohpaaGreatDoorLMe
import Derived.Test.YtkojimdacnohpaaGreatDoorLUj
import Derived.Test.YtkojimdacnohpaaGreatDoorLDj
import Derived.Test.YtkojimdacnohpaaGreatDoorLCx
import Derived.Test.YtkojimdacnohpaaGreatDoorLVc
import Derived.Test.YtkojimdacnohpaaGreatDoorLUb
set_option linter.unusedSimpArgs false
set_option linter.unusedVariables false
set_option maxRecDepth 20000
namespace Go.Esc.M
open Go Go.Esc
def zN (x:RcM × Int):ag:=.tuple [x.1.av .nilSlice,.int .i64 x.2]
theorem tr0 (x:RcM × Int):aW (zN x) 0 = some (x.1.av .nilSlice):=rfl
theorem tr1 (x:RcM × Int):aW (zN x) 1 = some (.int .i64 x.2):=rfl
def noR (e:Int):RcM × Int:=(RcM.zero,e)
def q9 (f:StF) (a:Int) (h:List UInt8):RcM × Int :=
 if xg f.s = true then noR 220 else if a < 1 \/ 1152921504606846976 < a then noR 80 else if AE f = true then noR 6
 else if 483 ≤ kp f.o f.p (ng f.s) then noR 131 else if vP f < a then noR 130 else (pR ⟨1,((jR f.o:Nat):Int),a,h,[]⟩,0)
def tZ (f:StF) (u:aK):Bool :=
 (fW false u.id (dP f.p (ng f.s))).isSome && (!(fW true u.id f.o).isSome && ((!decide (u.kind = 2) || decide (sha u.hash = ((fW false u.id (dP f.p (ng f.s))).getD aK.zero).hash)) && decide (u.note.length ≤ 64)))
def lK (f:StF) (u:aK):RcM × Int :=
 if xg f.s = true then noR 220 else if tZ f u = false then noR 120 else if AE f = true then noR 6 else (pR u,0)
def uB (f:StF):RcM × Int :=
 if xg f.s = true then noR 220 else if f.s.rem ≠ f.s.ack \/ ((f.o.length:Int) = f.s.sgnA /\ f.s.atB = f.s.sgnB) then noR 8 else if 281474976710653 < f.s.rem then noR 90
 else ({ RcM.zero with kind:=2,index:=f.s.rem + 1,cntA:=(f.o.length:Nat),cntB:=f.s.atB },0)
def y8 (f:StF) (u:aK):Int :=
 if xg f.s = true then 220 else if 512 ≤ IntKind.i64.wrap ((f.p.length:Int) - f.s.atB) then 131 else if jW f.p f.o u ≠ 0 then 120
 else if u.kind = 1 then (if 483 ≤ kp f.p f.o (nK f.s) then 131 else if vN f < u.amount then 130 else 0)
 else if (fW false u.id (dP f.o (nK f.s))).isSome = false then 120
 else if u.kind = 2 /\ sha u.hash ≠ ((fW false u.id (dP f.o (nK f.s))).getD aK.zero).hash then 120 else 0
theorem Ft {t:TypeId} (a b c d:Int):aw T .eql bG (bR a b) (bR c d) = some (.bool (decide (a = c /\ b = d))):=by
 have:mN T 9 bG (bR a b) (bR c d) = some (decide (a = c) && decide (b = d)):=by
  by_cases h1:a = c <;> by_cases h2:b = d <;> simp [bR,mN,eqF,fR,n7,hO,mf,h1,h2,fa,sz,szs,ag.isAgg,j4.isAgg]
 simp [aw,bR] at this ⊢
 rw [this]
section
variable {F0:List AId} {G0 G:ah} {ps:List LP} {Q:ag -> ah -> Prop}
theorem Hg {x y:Int} {h:List UInt8} (hl:h.length = 32):bk T aI [(0,.int .i64 1),(1,.int .i64 x),(2,.int .i64 y),(3,.agg (h.map u8v))] = some (aK.av ⟨1,x,y,h,[]⟩):=by
 refine (jK (zs:=aK.zero.cs) fC rfl rfl rfl (n9 rfl) fun p hp=>?_).trans rfl
 simp only [List.mem_cons,List.not_mem_nil,or_false] at hp
 rcases hp with rfl | rfl | rfl | rfl
 ·rfl
 ·rfl
 ·rfl
 ·show some (Esc.sz (.agg (h0.map u8v))) = some (Esc.sz (.agg (h.map u8v)))
  rw [Esc.sz,Esc.sz,szh hl,szh mL]
theorem Hf {x:Int} {h:List UInt8} (hl:h.length = 32):bk T aI [(0,.int .i64 2),(1,.int .i64 x),(3,.agg (h.map u8v))] = some (aK.av ⟨2,x,0,h,[]⟩):=by
 refine (jK (zs:=aK.zero.cs) fC rfl rfl rfl (n9 rfl) fun p hp=>?_).trans rfl
 simp only [List.mem_cons,List.not_mem_nil,or_false] at hp
 rcases hp with rfl | rfl | rfl
 ·rfl
 ·rfl
 ·show some (Esc.sz (.agg (h0.map u8v))) = some (Esc.sz (.agg (h.map u8v)))
  rw [Esc.sz,Esc.sz,szh hl,szh mL]
theorem EM (x:Int) (n:List UInt8):bk T aI [(0,.int .i64 3),(1,.int .i64 x),(4,.str n)] = some (aK.av ⟨3,x,0,h0,n⟩):=by
 refine (jK (zs:=aK.zero.cs) fC rfl rfl rfl (n9 rfl) fun p hp=>?_).trans rfl
 simp only [List.mem_cons,List.not_mem_nil,or_false] at hp
 rcases hp with rfl | rfl | rfl <;> rfl
theorem Ha {x a b:Int}:bk T aD [(0,.int .i64 2),(3,.int .i64 x),(4,bR a b)] = some (({ RcM.zero with kind:=2,index:=x,cntA:=a,cntB:=b }:RcM).av .nilSlice):=by
 refine vd (fun p hp=>?_) rfl
 simp only [List.mem_cons,List.not_mem_nil,or_false] at hp
 rcases hp with rfl | rfl | rfl <;> rfl
end
end Go.Esc.M
set_option linter.unusedSimpArgs false
set_option linter.unusedVariables false
set_option maxRecDepth 20000
namespace Go.Esc.M
open Go Go.Esc
theorem kc {s:List UInt8} (h:s.length = 32) (n:Int):(fH s n).1.length = 32:=by
 unfold fH
 cases okN n
 ·rfl
 ·exact kK 48 h
theorem vG {ow ix o q:Int} {pt:List UInt8} {l:List ba} (hp:pt.length = 32) (hl:∀ p ∈ l,p.ok):(nC ow ix pt o q l).1.length ≤ 1000000:=by
 unfold nC
 split
 ·simp
 ·cases hs:j6 o q l with
  | false=>simp
  | true=>
   have h1:=p5 hs
   have h2:∀ m:List ba,(∀ p ∈ m,p.ok) -> (m.flatMap ba.bytes).length = 49 * m.length:=by
    intro m hm
    induction m with
    | nil=>rfl
    | cons p m ih=>rw [List.flatMap_cons,List.length_append,ba.re (hm p (by simp)),ih (fun p hp=>hm p (by simp [hp])),List.length_cons]; omega
   simp only [cond_true,ux,List.length_append,hI,hp,h2 l hl]
   omega
def jC (f:StF) (ca cb:Int):FoldM:=k8 f.s.bo f.s.bp f.o f.p ca cb
theorem sa {G:ah} {f:StF} {vo vp vh:ag} (h:kW G f vo vp vh) (ca cb:Int):∀ p ∈ (jC f ca cb).l,p.ok:=II h.oko h.okp
theorem wa (f:StF) (ca cb:Int):(jC f ca cb).l.length ≤ f.o.length + f.p.length:=GN _ _ _ _ _ _
def CW (c:CfM) (f:StF) (n ca cb:Int):List UInt8 × Bool :=
 if (fH c.seed n).2 ≠ 0 then ([],false) else if (jC f ca cb).e ≠ 0 then ([],false)
 else ((nC f.s.side n (sha (fH c.seed n).1) (jC f ca cb).o (jC f ca cb).q (jC f ca cb).l).1,decide ((nC f.s.side n (sha (fH c.seed n).1) (jC f ca cb).o (jC f ca cb).q (jC f ca cb).l).2 = 0))
theorem H7 {c:CfM} {f:StF} {n ca cb:Int} (hf:∀ p ∈ (jC f ca cb).l,p.ok):(CW c f n ca cb).1.length ≤ 1000000:=by
 unfold CW
 split
 ·simp
 ·split
  ·simp
  ·exact vG (kd _) hf
structure Ko where
 r:RcM
 l:List aK
 e:Int
def noC (e:Int):Ko:=⟨RcM.zero,[],e⟩
def oB (c:CfM) (f:StF) (m:bA):Ko :=
 if xg f.s = true then noC 220 else if m.kind ≠ 4 then noC 160 else if 281474976710653 < f.s.loc \/ m.index ≠ f.s.loc + 1 then noC 90
 else if f.s.heldA = f.s.atA /\ (f.p.length:Int) = f.s.atB then noC 8
 else if (CW c f m.index f.s.heldA (f.p.length:Nat)).2 = false \/ mac c.pkey (CW c f m.index f.s.heldA (f.p.length:Nat)).1 ≠ m.hash then noC 110
 else ⟨{ RcM.zero with kind:=3,index:=m.index,sig:=m.hash },f.p.drop (dP f.p f.s.atB).length,0⟩
def pP (c:CfM) (n:Int):bA :=
 if n < 0 \/ 281474976710653 < n then bA.zero else { bA.zero with kind:=5,index:=n,secret:=(fH c.seed n).1,hash:=sha (fH c.seed (n + 2)).1 }
def jz (f:StF) (m:bA):RcM × Int :=
 if xg f.s = true then noR 220 else if m.kind ≠ 5 then noR 160 else if f.s.rem = f.s.ack \/ IntKind.i64.wrap (f.s.rem - 1) ≠ f.s.ack \/ m.index ≠ f.s.ack then noR 90
 else if sha m.secret ≠ f.s.ptsA then noR 100 else if (uG f.h f.s.ack m.secret).2 ≠ 0 then noR 100
 else ({ RcM.zero with kind:=4,index:=f.s.ack,secret:=m.secret,point:=m.hash },0)
def qd (c:CfM) (f:StF):bA :=
 { bA.zero with kind:=4,index:=f.s.rem,hash:=mac c.key (nC (IntKind.i64.wrap (1 - f.s.side)) f.s.rem (if f.s.rem ≠ f.s.ack then f.s.ptsB else f.s.ptsA) (jC f f.s.sgnA f.s.sgnB).q (jC f f.s.sgnA f.s.sgnB).o (oN (jC f f.s.sgnA f.s.sgnB).l)).1 }
def StM.zero:StM:=⟨0,0,0,0,0,0,0,0,0,0,0,0,0,false,h0,h0,h0,0,0⟩
theorem StM.bD:StM.zero.ok:=⟨cD,cD,cD,cD,cD,cD,cD,cD,cD,cD,cD,cD,cD,rfl,rfl,rfl,cD,cD⟩
theorem lv0:bz .nilSlice /\ bz .nilSlice /\ bz .nilSlice:=⟨bz.nil,bz.nil,bz.nil⟩
theorem F6:iT = StM.zero.av .nilSlice .nilSlice .nilSlice:=rfl
def nc (c:CfM):Prop:=c.side < 0 \/ 1 < c.side \/ c.cap < 1 \/ right c.cap = false \/ c.ours < 0 \/ c.cap < c.ours
instance (c:CfM):Decidable (nc c):=by unfold nc; infer_instance
def nb (c:CfM):StM × Int:=if nc c then (StM.zero,1) else ({ StM.zero with side:=c.side,cap:=c.cap,bo:=c.ours,bp:=c.cap - c.ours,ptsA:=c.ptsA,ptsB:=c.ptsB,closed:=-1 },0)
section
variable {F0:List AId} {G0 G:ah} {ps:List LP} {Q:ag -> ah -> Prop}
theorem EN {x:Int} {h:List UInt8} {w:ag} (hl:h.length = 32) (hw:bz w):bk T aD [(0,.int .i64 3),(3,.int .i64 x),(2,w),(5,.agg (h.map u8v))] = some (({ RcM.zero with kind:=3,index:=x,sig:=h }:RcM).av w):=by
 refine vd (fun p hp=>?_) rfl
 simp only [List.mem_cons,List.not_mem_nil,or_false] at hp
 rcases hp with rfl | rfl | rfl | rfl
 ·rfl
 ·rfl
 ·show some 1 = some (Esc.sz w)
  rw [hw.1]
 ·show some (Esc.sz (.agg (h0.map u8v))) = some (Esc.sz (.agg (h.map u8v)))
  rw [Esc.sz,Esc.sz,szh hl,szh mL]
theorem n5 {parts:List (Nat × ag)} {r:bA} (hs:∀ p ∈ parts,bA.zero.cs[p.1]?.map Esc.sz = some (Esc.sz p.2)) (he:pk bA.zero.cs parts = r.cs):bk T aG parts = some r.av:=by
 refine (jK (zs:=bA.zero.cs) dB rfl rfl rfl (n9 rfl) hs).trans ?_
 rw [he]; rfl
theorem mK {h:List UInt8} (hl:h.length = 32):some (Esc.sz (.agg (h0.map u8v))) = some (Esc.sz (.agg (h.map u8v))):=by rw [Esc.sz,Esc.sz,szh hl,szh mL]
theorem xk {x:Int} {h:List UInt8} (hl:h.length = 32):bk T aG [(0,.int .i64 4),(3,.int .i64 x),(5,.agg (h.map u8v))] = some (bA.av { bA.zero with kind:=4,index:=x,hash:=h }):=by
 refine n5 (fun p hp=>?_) rfl
 simp only [List.mem_cons,List.not_mem_nil,or_false] at hp
 rcases hp with rfl | rfl | rfl
 ·rfl
 ·rfl
 ·exact mK hl
set_option maxHeartbeats 2000000 in
theorem gB.use {c:CfM} {n:Int} (hc:c.ok) (hQ:∀ G',Ch [] G [] G' -> Q (pP c n).av G'):al P gB.n [c.av,.int .i64 n] G Q:=by
 refine gB.sound ?_
 unfold gB.S
 rw [AZ]
 unfold pP at hQ
 intro i1 f1
 have s1:=(Sp.nil G).row f1 c.av
 intro i3 f3
 have s3:=s1.row f3 bA.zero.av
 revert s3
 generalize ah.upd _ i3 _ = G4
 intro s3 J36
 have bad:(n < 0 \/ 281474976710653 < n) -> J36 (.bool true) G4:=by
  intro hb
  rw [if_pos hb] at hQ
  simp -zeta only [J36,aX]
  refine ae (v:=bA.zero.av) rfl ?_
  refine k7 (i:=0) s3 rfl bA.bD bA.bD fun G10 s10=>?_
  refine ae (cJ dB (ar.own (i:=0) s10 rfl) (bA.fits bA.bD)) ?_
  exact hQ _ s10.ch
 have kA:¬ (n < 0 \/ 281474976710653 < n) -> J36 (.bool false) G4:=by
  intro hb
  rw [if_neg hb] at hQ
  simp -zeta only [J36,aM]
  have hx:=kc hc.seed n
  have hy:=kc hc.seed (n + 2)
  refine ae (Cf.pT (ar.own (i:=1) s3 rfl) hc) ?_
  refine gj.use hc.seed fun G14 c14=>?_
  have s14:=s3.tmp c14
  refine ae (hi0 _) ?_
  refine ae (hi1 _) ?_
  refine mZ s14 hx fun i17 G19 s19=>?_
  refine ae (Cf.pT (ar.own (i:=2) s19 rfl) hc) ?_
  rw [bf,i64_in (by omega) (by omega),aa]
  refine gj.use hc.seed fun G23 c23=>?_
  have s23:=s19.tmp c23
  refine ae (hi0 _) ?_
  refine ae (hi1 _) ?_
  refine mZ s23 hy fun i26 G28 s28=>?_
  refine ae (bE hx (ar.own (i:=1) s28 rfl)) ?_
  refine ae (bE hy (ar.own (i:=0) s28 rfl)) ?_
  refine gZ.use hy fun G32 c32=>?_
  have s32:=s28.tmp c32
  refine ⟨⟨bE hx (ar.own (i:=1) s32 rfl),trivial⟩,?_⟩
  have hz:(sha (fH c.seed (n + 2)).1).length = 32:=kd _
  have hok:({ bA.zero with kind:=5,index:=n,secret:=(fH c.seed n).1,hash:=sha (fH c.seed (n + 2)).1 }:bA).ok:=⟨gQ 5 (by decide) (by decide),cD,cD,gQ n (by omega) (by omega),cD,hz,hx,by simp [bA.zero]⟩
  refine ae (n5 (r:={ bA.zero with kind:=5,index:=n,secret:=(fH c.seed n).1,hash:=sha (fH c.seed (n + 2)).1 }) (fun p hp=>?_) rfl) ?_
  ·simp only [List.mem_cons,List.not_mem_nil,or_false] at hp
   rcases hp with rfl | rfl | rfl | rfl
   ·rfl
   ·rfl
   ·exact mK hx
   ·exact mK hz
  refine k7 (i:=2) s32 rfl bA.bD hok fun G34 s34=>?_
  refine ae (cJ dB (ar.own (i:=2) s34 rfl) (bA.fits hok)) ?_
  exact hQ _ s34.ch
 rw [aH,aa,aE]
 refine ⟨fun h1=>bad (.inl h1),fun h1=>?_⟩
 rw [de,aa]
 by_cases h2:281474976710653 < n
 ·rw [decide_eq_true h2]
  exact bad (.inr h2)
 ·rw [decide_eq_false h2]
  exact kA (by omega)
set_option maxHeartbeats 4000000 in
theorem gS.use {f:StF} {c:CfM} {vo vp vh:ag} (hS:kW G f vo vp vh) (hc:c.ok) (hQ:∀ G',Ch [] G [] G' -> Q (qd c f).av G'):al P gS.n [c.av,f.s.av vo vp vh] G Q:=by
 have ho:=hS.ok
 have hl:=hS.lv
 have hlo:=hS.lo
 have hlp:=hS.lp
 refine gS.sound ?_
 unfold gS.S
 rw [AZ]
 unfold qd at hQ
 intro i1 f1
 have s1:=(Sp.nil G).row f1 c.av
 intro i3 f3
 have s3:=s1.row f3 (f.s.av vo vp vh)
 intro i5 f5
 have s5:=s3.row f5 bA.zero.av
 revert s5
 generalize ah.upd _ i5 _ = G6
 intro s5
 have hg:=ar.own (i:=1) s5 rfl
 refine ae (v:=.ptr i3 [13,0] 16) rfl ?_
 refine ae (St.uS hg ho hl) ?_
 refine mZ s5 ho.ptsA fun i9 G11 s11=>?_
 have hg:=ar.own (i:=2) s11 rfl
 refine ae (St.kq hg ho hl) ?_
 refine ae (St.mi hg ho hl) ?_
 rw [dy,aa]
 obtain ⟨pt,hpt⟩:∃ pt,pt = if f.s.rem ≠ f.s.ack then f.s.ptsB else f.s.ptsA:=⟨_,rfl⟩
 rw [<- hpt] at hQ
 have hp32:pt.length = 32:=by
  rw [hpt]; split
  ·exact ho.ptsB
  ·exact ho.ptsA
 intro J49
 have go:∀ G2,Sp [] G [ar i9 (.agg (pt.map u8v)),ar i5 bA.zero.av,ar i3 (f.s.av vo vp vh),ar i1 c.av] G2 -> J49 G2:=by
  intro G18 s18
  simp -zeta only [J49]
  have hg:=ar.own (i:=2) s18 rfl
  refine ae (St.FE hg ho hl) ?_
  refine ae (St.FD hg ho hl) ?_
  refine ae (St.gG hg ho hl) ?_
  refine ae (St.iP hg ho hl) ?_
  refine ae (St.BL hg ho hl) ?_
  refine gP.use (hS.o.mv s18.ch) (hS.p.mv s18.ch) hS.oko hS.okp hS.lo hS.lp fun x G25 t25=>?_
  have hFok:=sa hS f.s.sgnA f.s.sgnB
  have hFlen:=wa f f.s.sgnA f.s.sgnB
  unfold jC at hQ hFok hFlen
  obtain ⟨F,hF⟩:∃ F,F = k8 f.s.bo f.s.bp f.o f.p f.s.sgnA f.s.sgnB:=⟨_,rfl⟩
  rw [<- hF] at hQ hFok hFlen t25 ⊢
  obtain ⟨F25,o25,c25⟩:=t25.out
  have s25:=s18.new o25 c25
  have lx:=(bj.own (i:=0) s25 rfl).leaf
  refine ae (tv0 _ _) ?_
  refine ae (tv1 _ _) ?_
  obtain ⟨w1,w2,w3⟩:=sS (o:=F.o) (q:=F.q) lx
  refine jQ s25 mG w1 (by rw [w2]; rfl) w3 fun i28 G30 s30=>?_
  have hg:=ar.own (i:=4) s30 rfl
  refine ae (St.m8 hg ho hl) ?_
  rw [bS,aa]
  refine ae (St.kq hg ho hl) ?_
  refine ae (bE hp32 (ar.own (i:=2) s30 rfl)) ?_
  refine ae (ig (i:=0) s30 rfl lx).2.2.2 ?_
  refine gU.use (bj.own (i:=1) s30 rfl).is hFok (by omega) fun y G37 t37=>?_
  obtain ⟨F37,o37,c37⟩:=t37.out
  have s37:=s30.new o37 c37
  have hg:=ar.own (i:=5) s37 rfl
  refine ⟨⟨bE hp32 (ar.own (i:=3) s37 rfl),St.kq hg ho hl,St.m8 hg ho hl,trivial⟩,?_⟩
  have hTok:=yo hFok
  refine gV.use hp32 (bj.own (i:=0) s37 rfl).is hTok (by rw [oS]; omega) fun G39 c39=>?_
  have s39:=s37.tmp c39
  have htl:=vG (ow:=IntKind.i64.wrap (1 - f.s.side)) (ix:=f.s.rem) (o:=F.q) (q:=F.o) hp32 hTok
  obtain ⟨W,hW⟩:∃ W,W = nC (IntKind.i64.wrap (1 - f.s.side)) f.s.rem pt F.q F.o (oN F.l):=⟨_,rfl⟩
  rw [<- hW] at hQ htl ⊢
  refine ae (tv0 _ _) ?_
  refine ae (tv1 _ _) ?_
  have hg:=ar.own (i:=5) s39 rfl
  refine ae (St.kq hg ho hl) ?_
  refine ae (Cf.Iv (ar.own (i:=6) s39 rfl) hc) ?_
  refine iW.use hc.key (by omega) fun G45 c45=>?_
  have s45:=s39.tmp c45
  refine ⟨⟨St.kq (ar.own (i:=5) s45 rfl) ho hl,trivial⟩,?_⟩
  have hz:(mac c.key W.1).length = 32:=gI _
  revert hQ hz
  generalize mac c.key W.1 = Z
  intro hQ hz
  have hok:({ bA.zero with kind:=4,index:=f.s.rem,hash:=Z }:bA).ok:=⟨gQ 4 (by decide) (by decide),cD,cD,ho.rem,cD,hz,rfl,by simp [bA.zero]⟩
  refine ae (xk hz) ?_
  refine k7 (i:=4) s45 rfl bA.bD hok fun G47 s47=>?_
  refine ae (cJ dB (ar.own (i:=4) s47 rfl) (bA.fits hok)) ?_
  exact hQ _ s47.ch
 by_cases h1:f.s.rem = f.s.ack
 ·rw [if_neg (fun hh=>hh h1)] at hpt
  rw [decide_eq_true h1,Bool.not_true,aM]
  rw [<- hpt] at s11
  exact go _ s11
 ·rw [if_pos h1] at hpt
  rw [decide_eq_false h1,Bool.not_false,aX]
  refine ae (v:=.ptr i3 [13,1] 48) rfl ?_
  refine ae (St.xR hg ho hl) ?_
  refine pw (i:=0) s11 rfl ho.ptsA ho.ptsB fun G17 s17=>?_
  rw [<- hpt] at s17
  exact go _ s17
theorem Hb {x:Int} {a b:List UInt8} (ha:a.length = 32) (hb:b.length = 32):bk T aD [(0,.int .i64 4),(3,.int .i64 x),(6,.agg (a.map u8v)),(7,.agg (b.map u8v))] = some (({ RcM.zero with kind:=4,index:=x,secret:=a,point:=b }:RcM).av .nilSlice):=by
 refine vd (fun p hp=>?_) rfl
 simp only [List.mem_cons,List.not_mem_nil,or_false] at hp
 rcases hp with rfl | rfl | rfl | rfl
 ·rfl
 ·rfl
 ·exact mK ha
 ·exact mK hb
end
end Go.Esc.M
set_option linter.unusedSimpArgs false
set_option linter.unusedVariables false
set_option maxRecDepth 20000
namespace Go.Esc.M
open Go Go.Esc
def stZ:List ag:=StM.zero.cs .nilSlice .nilSlice .nilSlice
theorem IY {parts:List (Nat × ag)} {r:StM} {a b c:ag} (hs:∀ p ∈ parts,stZ[p.1]?.map Esc.sz = some (Esc.sz p.2)) (he:pk stZ parts = r.cs a b c):bk T aJ parts = some (r.av a b c):=by
 refine (jK (zs:=stZ) lE rfl rfl rfl (n9 rfl) hs).trans ?_
 rw [he]; rfl
theorem CG {a b c d:List UInt8} (ha:a.length = 32) (hb:b.length = 32) (hc:c.length = 32) (hd:d.length = 32):some (Esc.sz (mj a b)) = some (Esc.sz (mj c d)):=by
 simp [mj,Esc.sz,szs,szh ha,szh hb,szh hc,szh hd]
theorem Dq {a b c d:Int} {x y:List UInt8} (hx:x.length = 32) (hy:y.length = 32):bk T aJ [(0,.int .i64 a),(1,.int .i64 b),(2,.int .i64 c),(3,.int .i64 d),(13,mj x y),(17,.int .i64 (-1))] = some (({ StM.zero with side:=a,cap:=b,bo:=c,bp:=d,ptsA:=x,ptsB:=y,closed:=-1 }:StM).av .nilSlice .nilSlice .nilSlice):=by
 refine IY (fun p hp=>?_) rfl
 simp only [List.mem_cons,List.not_mem_nil,or_false] at hp
 rcases hp with rfl | rfl | rfl | rfl | rfl | rfl
 ·rfl
 ·rfl
 ·rfl
 ·rfl
 ·exact CG mL mL hx hy
 ·rfl
theorem vL {c:CfM} (h:c.ok):(nb c).1.ok:=by
 unfold nb
 by_cases hb:nc c
 ·rw [if_pos hb]; exact StM.bD
 ·rw [if_neg hb]
  have h1:¬ right c.cap = false:=fun hh=>hb (.inr (.inr (.inr (.inl hh))))
  have h2:right c.cap = true:=by simpa using h1
  have h3:=kR.1 h2
  have h4:¬ c.ours < 0:=fun hh=>hb (.inr (.inr (.inr (.inr (.inl hh)))))
  have h5:¬ c.cap < c.ours:=fun hh=>hb (.inr (.inr (.inr (.inr (.inr hh)))))
  exact ⟨h.side,h.cap,h.ours,gQ (c.cap - c.ours) (by omega) (by omega),cD,cD,cD,cD,cD,cD,cD,cD,cD,h.ptsA,h.ptsB,rfl,cD,gQ (-1) (by decide) (by decide)⟩
section
variable {F0:List AId} {G0 G:ah} {ps:List LP} {Q:ag -> ah -> Prop}
theorem dM.use {f:StF} {vo vp vh:ag} (hS:kW G f vo vp vh) (hQ:∀ wo wp wh G',Sp [] G [bj 34 wh (f.h.map cB.av),bj 36 wp (f.p.map aK.av),bj 36 wo (f.o.map aK.av)] G' -> Q (f.s.av wo wp wh) G'):al P dM.n [f.s.av vo vp vh] G Q:=by
 have ho:=hS.ok
 have hl:=hS.lv
 have hlo:=hS.lo
 have hlp:=hS.lp
 have hlh:=hS.lh
 refine dM.sound ?_
 unfold dM.S
 rw [F6]
 intro i1 f1
 have s1:=(Sp.nil G).row f1 (f.s.av vo vp vh)
 intro i3 f3
 have s3:=s1.row f3 (StM.zero.av .nilSlice .nilSlice .nilSlice)
 revert s3
 generalize ah.upd _ i3 _ = G4
 intro s3
 refine ae (St.gG (ar.own (i:=1) s3 rfl) ho hl) ?_
 have grow:∀ {ps:List LP} {G1:ah} {x:ag} {l:List aK} {K:ag -> ah -> Prop},Sp [] G ps G1 -> fV 36 G x (l.map aK.av) -> (∀ u ∈ l,u.ok) -> l.length ≤ 1048576 -> (∀ w G2,Sp [] G (bj 36 w (l.map aK.av) :: ps) G2 -> K w G2) -> cc T G1 ak ak .nilSlice x K:=by
  intro ps G1 x l K s hx hok hlen hK
  refine wZ (T:=T) (ts:=ak) (e:=aI) (si:=fl) (ie:=dA) (tx:=ak) (xi:=fl) (i:=0) (vs:=[]) (xs:=l.map aK.av) cn rfl fC rfl (by decide) cn (.inr ⟨_,rfl⟩) (s.nd 36) rfl (hx.ch' s.ch).elems (oj hok).1 (oj hok).2 (by rw [show dA.bytes = 72 from rfl,List.length_map]; simp; omega) fun w G5 s5=>?_
  exact hK w G5 s5
 refine grow s3 hS.o.jf hS.oko hS.lo fun wo G7 s7=>?_
 have lo:bz wo:=(bj.own (i:=0) s7 rfl).leaf
 refine St.sE (i:=2) s7 rfl ho hl lo fun G8 s8=>?_
 refine ae (St.iP (ar.own (i:=2) s8 rfl) ho ⟨lo,hl.2.1,hl.2.2⟩) ?_
 refine grow s8 hS.p.jf hS.okp hS.lp fun wp G11 s11=>?_
 have lp:bz wp:=(bj.own (i:=0) s11 rfl).leaf
 refine St.uz (i:=3) s11 rfl ho ⟨lo,hl.2.1,hl.2.2⟩ lp fun G12 s12=>?_
 refine ae (St.r6 (ar.own (i:=3) s12 rfl) ho ⟨lo,lp,hl.2.2⟩) ?_
 refine wZ (T:=T) (ts:=bu) (e:=ff) (si:=jN) (ie:=kI) (tx:=bu) (xi:=jN) (i:=0) (vs:=[]) (xs:=f.h.map cB.av) iL rfl ky rfl (by decide) iL (.inr ⟨_,rfl⟩) (s12.nd 34) rfl (hS.h.jf.ch' s12.ch).elems (z7 hS.okh) (tV f.h) (by rw [show kI.bytes = 48 from rfl,List.length_map]; simp; omega) fun wh G15 s15=>?_
 have lh:bz wh:=(bj.own (i:=0) s15 rfl).leaf
 refine St.yv (i:=4) s15 rfl ho ⟨lo,lp,hl.2.2⟩ lh fun G16 s16=>?_
 refine ae (St.ld (ar.own (i:=4) s16 rfl) ho ⟨lo,lp,lh⟩) ?_
 refine St.st (i:=3) s16 rfl StM.bD lv0 ho ⟨lo,lp,lh⟩ fun G18 s18=>?_
 refine ae (St.ld (ar.own (i:=3) s18 rfl) ho ⟨lo,lp,lh⟩) ?_
 exact hQ wo wp wh G18 ((s18.erase 3).erase 3)
theorem kW.copy {f:StF} {vo vp vh wo wp wh:ag} {G1:ah} {i j k:Nat} (hS:kW G f vo vp vh) (s:Sp F0 G0 ps G1) (ho:ps[i]? = some (bj 36 wo (f.o.map aK.av))) (hp:ps[j]? = some (bj 36 wp (f.p.map aK.av))) (hh:ps[k]? = some (bj 34 wh (f.h.map cB.av))):kW G1 f wo wp wh :=
 ⟨hS.ok,Own.nM (bj.own s ho),Own.nM (bj.own s hp),Own.nM (bj.own s hh),hS.oko,hS.okp,hS.okh,hS.lo,hS.lp,hS.lh⟩
def oH (s:List UInt8) (n:Int):List UInt8:=sha (fH s n).1
theorem kS (s:List UInt8) (n:Int):(oH s n).length = 32:=kd _
theorem cz.use {s:List UInt8} {n:Int} (hs:s.length = 32) (hQ:∀ G',Ch [] G [] G' -> Q (.agg ((oH s n).map u8v)) G'):al P cz.n [.agg (s.map u8v),.int .i64 n] G Q:=by
 refine cz.sound ?_
 unfold cz.S
 rw [kM]
 intro i1 f1
 have s1:=(Sp.nil G).row f1 (.agg (s.map u8v))
 intro i3 f3
 have s3:=s1.row f3 (.agg ((List.replicate 32 (0:UInt8)).map u8v))
 rw [<- kM]
 refine ae (bE hs (ar.own (i:=1) s3 rfl)) ?_
 refine bJ.use hs fun G7 c7=>?_
 have s7:=s3.tmp c7
 have hx:=kc hs n
 refine ae (hi0 _) ?_
 refine ae (hi1 _) ?_
 refine mZ s7 hx fun i10 G12 s12=>?_
 refine ae (bE hx (ar.own (i:=0) s12 rfl)) ?_
 refine bW.use hx fun G15 c15=>?_
 have s15:=s12.tmp c15
 have hz:(sha (fH s n).1).length = 32:=kd _
 refine pw (i:=1) s15 rfl (by simp) hz fun G16 s16=>?_
 refine ae (bE hz (ar.own (i:=1) s16 rfl)) ?_
 exact hQ _ s16.ch
def qb (a b:CfM):ag:=.agg [a.av,b.av]
def CfM.zero:CfM:=⟨0,0,0,h0,h0,h0,h0,h0,0⟩
theorem CfM.bD:CfM.zero.ok:=⟨cD,cD,cD,rfl,rfl,rfl,rfl,rfl,cD⟩
def cfZ:List ag:=CfM.zero.cs
theorem FP {a b:CfM} (ha:a.ok) (hb:b.ok):[a.av,b.av].map Esc.sz = [164,164]:=by simp [CfM.sz ha,CfM.sz hb]
theorem zp {a b:CfM} (ha:a.ok) (hb:b.ok):fa jV (qb a b) = true:=by
 simp [fa,qb,Esc.sz,szs,CfM.sz ha,CfM.sz hb,jV,ag.isAgg,j4.isAgg]
theorem IX {a b:CfM} (ha:a.ok) (hb:b.ok):Esc.sz (qb a b) = 328:=by simp [qb,Esc.sz,szs,CfM.sz ha,CfM.sz hb]
theorem J0 (a b:CfM):Esc.okv (qb a b) = true:=by simp [qb,Esc.okv,kT,CfM.okv]
theorem Lz:mn = qb CfM.zero CfM.zero:=rfl
theorem Du {a b c:Int} {x y z p q:List UInt8} (hx:x.length = 32) (hy:y.length = 32) (hz:z.length = 32) (hp:p.length = 32) (hq:q.length = 32) :
  bk T cl [(0,.int .i64 a),(1,.int .i64 b),(2,.int .i64 c),(3,.agg (x.map u8v)),(4,.agg (y.map u8v)),(5,.agg (z.map u8v)),(6,mj p q),(7,.int .i64 4096)] = some (CfM.av ⟨a,b,c,x,y,z,p,q,4096⟩):=by
 refine (jK (zs:=cfZ) j9 rfl rfl rfl (n9 rfl) fun r hr=>?_).trans rfl
 simp only [List.mem_cons,List.not_mem_nil,or_false] at hr
 rcases hr with rfl | rfl | rfl | rfl | rfl | rfl | rfl | rfl
 ·rfl
 ·rfl
 ·rfl
 ·exact mK hx
 ·exact mK hy
 ·exact mK hz
 ·exact CG mL mL hp hq
 ·rfl
theorem zv {p q:List UInt8} (hp:p.length = 32) (hq:q.length = 32):bk T cL [(0,.agg (p.map u8v)),(1,.agg (q.map u8v))] = some (mj p q):=by
 refine (Dv (zs:=[.agg (h0.map u8v),.agg (h0.map u8v)]) lg rfl cd rfl ?_ fun r hr=>?_).trans rfl
 ·simp [Esc.uni,Esc.sz,szh mL,fE]
 ·simp only [List.mem_cons,List.not_mem_nil,or_false] at hr
  rcases hr with rfl | rfl
  ·exact mK hp
  ·exact mK hq
def GY (d:DlM):CfM:=⟨0,d.cap,d.ours,d.seedsA,d.keysA,d.keysB,oH d.seedsB 0,oH d.seedsB 1,4096⟩
def GX (d:DlM):CfM:=⟨1,d.cap,IntKind.i64.wrap (d.cap - d.ours),d.seedsB,d.keysB,d.keysA,oH d.seedsA 0,oH d.seedsA 1,4096⟩
theorem BZ {d:DlM} (h:d.ok):(GY d).ok:=⟨cD,h.cap,h.ours,h.seedsA,h.keysA,h.keysB,kS _ _,kS _ _,gQ 4096 (by decide) (by decide)⟩
theorem BX {d:DlM} (h:d.ok):(GX d).ok:=⟨gQ 1 (by decide) (by decide),h.cap,IC _,h.seedsB,h.keysB,h.keysA,kS _ _,kS _ _,gQ 4096 (by decide) (by decide)⟩
set_option maxHeartbeats 4000000 in
theorem cu.use {d:DlM} (hd:d.ok) (hQ:∀ G',Ch [] G [] G' -> Q (qb (GY d) (GX d)) G'):al P cu.n [d.av] G Q:=by
 refine cu.sound ?_
 unfold cu.S
 rw [Lz]
 intro i1 f1
 have s1:=(Sp.nil G).row f1 d.av
 intro i3 f3
 have s3:=s1.row f3 (qb CfM.zero CfM.zero)
 intro i5 f5
 have s5:=s3.row f5 (qb CfM.zero CfM.zero)
 revert s5
 generalize ah.upd _ i5 _ = G6
 intro s5
 have o0:=BZ hd
 have o1:=BX hd
 obtain ⟨C0,hC0⟩:∃ C,C = GY d:=⟨_,rfl⟩
 obtain ⟨C1,hC1⟩:∃ C,C = GX d:=⟨_,rfl⟩
 obtain ⟨b0,hb0⟩:∃ z,z = oH d.seedsB 0:=⟨_,rfl⟩
 obtain ⟨b1,hb1⟩:∃ z,z = oH d.seedsB 1:=⟨_,rfl⟩
 obtain ⟨a0,ha0⟩:∃ z,z = oH d.seedsA 0:=⟨_,rfl⟩
 obtain ⟨a1,ha1⟩:∃ z,z = oH d.seedsA 1:=⟨_,rfl⟩
 have lb0:b0.length = 32:=by rw [hb0]; exact kS _ _
 have lb1:b1.length = 32:=by rw [hb1]; exact kS _ _
 have la0:a0.length = 32:=by rw [ha0]; exact kS _ _
 have la1:a1.length = 32:=by rw [ha1]; exact kS _ _
 have e0:C0 = ⟨0,d.cap,d.ours,d.seedsA,d.keysA,d.keysB,b0,b1,4096⟩:=by rw [hC0,hb0,hb1]; rfl
 have e1:C1 = ⟨1,d.cap,IntKind.i64.wrap (d.cap - d.ours),d.seedsB,d.keysB,d.keysA,a0,a1,4096⟩:=by rw [hC1,ha0,ha1]; rfl
 rw [<- hC0,<- hC1] at hQ
 rw [<- hC0] at o0
 rw [<- hC1] at o1
 have zo:=CfM.bD
 intro R7 hR7
 refine hR7 _ _ _ _ _ ?_
 rw [aH,aa,decide_eq_true (by decide),aX]
 have hg:=ar.own (i:=2) s5 rfl
 refine ae (v:=.ptr i1 [1] 1) rfl ?_
 refine ae (Dl.gG hg hd) ?_
 rw [bC,aa,decide_eq_false (by decide)]
 intro J52
 rw [aM]
 simp -zeta only [J52]
 refine ae (v:=.ptr i1 [0] 0) rfl ?_
 refine ae (Dl.nI hg hd) ?_
 refine ae (v:=.ptr i1 [2] 2) rfl ?_
 refine ae (v:=.ptr i1 [2,0] 2) rfl ?_
 refine ae (Dl.o6 hg hd) ?_
 refine ae (v:=.ptr i1 [3] 66) rfl ?_
 refine ae (v:=.ptr i1 [3,0] 66) rfl ?_
 refine ae (Dl.qx hg hd) ?_
 rw [bS,i64_in (by decide) (by decide),aa]
 refine ae (v:=.ptr i1 [3] 66) rfl ?_
 refine ae (v:=.ptr i1 [3,1] 98) rfl ?_
 refine ae (Dl.qw hg hd) ?_
 rw [aa]
 refine ae (v:=.ptr i1 [2] 2) rfl ?_
 refine ae (v:=.ptr i1 [2,1] 34) rfl ?_
 refine ae (Dl.o5 hg hd) ?_
 rw [aa]
 refine ae (v:=.ptr i1 [2] 2) rfl ?_
 refine ae (v:=.ptr i1 [2,1] 34) rfl ?_
 refine ae (Dl.o5 hg hd) ?_
 refine cz.use hd.seedsB fun G45 c45=>?_
 rw [<- hb0]
 have s45:=s5.tmp c45
 have hg:=ar.own (i:=2) s45 rfl
 refine ⟨⟨Dl.o5 hg hd,Dl.qw hg hd,Dl.qx hg hd,Dl.o6 hg hd,Dl.nI hg hd,trivial⟩,?_⟩
 refine cz.use hd.seedsB fun G47 c47=>?_
 rw [<- hb1]
 have s47:=s45.tmp c47
 have hg:=ar.own (i:=2) s47 rfl
 refine ⟨⟨Dl.qw hg hd,Dl.qx hg hd,Dl.o6 hg hd,Dl.nI hg hd,trivial⟩,?_⟩
 refine ae (zv lb0 lb1) ?_
 refine ae (Du hd.seedsA hd.keysA hd.keysB lb0 lb1) ?_
 rw [<- e0]
 refine ae (v:=.ptr i5 [0] 0) rfl ?_
 refine fK (st1 (c:=C0.av) (ar.own (i:=0) s47 rfl) (FP zo zo) rfl rfl j9 (CfM.fits o0) (by rw [CfM.sz o0,CfM.sz zo]) (CfM.okv)) ?_
 have s51:=Sp.setRow (j:=0) s47 rfl (qb C0 CfM.zero)
 revert s51
 show Sp [] G _ (ah.upd G47 i5 (.own (.agg ([CfM.zero.av,CfM.zero.av].set 0 C0.av)))) -> _
 generalize ah.upd G47 i5 _ = G51
 intro s51
 refine ae (v:=.int .i64 1) rfl ?_
 refine hR7 _ _ _ _ _ ?_
 rw [aH,aa,decide_eq_true (by decide),aX]
 have hg:=ar.own (i:=2) s51 rfl
 refine ae (v:=.ptr i1 [1] 1) rfl ?_
 refine ae (Dl.gG hg hd) ?_
 rw [bC,aa,decide_eq_true (by decide)]
 intro J52
 rw [aX]
 refine ae (v:=.ptr i1 [0] 0) rfl ?_
 refine ae (Dl.nI hg hd) ?_
 refine ae (v:=.ptr i1 [1] 1) rfl ?_
 refine ae (Dl.gG hg hd) ?_
 rw [bS,aa]
 simp -zeta only [J52]
 refine ae (v:=.ptr i1 [0] 0) rfl ?_
 refine ae (Dl.nI hg hd) ?_
 refine ae (v:=.ptr i1 [2] 2) rfl ?_
 refine ae (v:=.ptr i1 [2,1] 34) rfl ?_
 refine ae (Dl.o5 hg hd) ?_
 refine ae (v:=.ptr i1 [3] 66) rfl ?_
 refine ae (v:=.ptr i1 [3,1] 98) rfl ?_
 refine ae (Dl.qw hg hd) ?_
 rw [bS,i64_in (n:=1 - 1) (by decide) (by decide),aa]
 refine ae (v:=.ptr i1 [3] 66) rfl ?_
 refine ae (v:=.ptr i1 [3,0] 66) rfl ?_
 refine ae (Dl.qx hg hd) ?_
 rw [aa]
 refine ae (v:=.ptr i1 [2] 2) rfl ?_
 refine ae (v:=.ptr i1 [2,0] 2) rfl ?_
 refine ae (Dl.o6 hg hd) ?_
 rw [aa]
 refine ae (v:=.ptr i1 [2] 2) rfl ?_
 refine ae (v:=.ptr i1 [2,0] 2) rfl ?_
 refine ae (Dl.o6 hg hd) ?_
 refine cz.use hd.seedsA fun G45 c45=>?_
 rw [<- ha0]
 have s45:=s51.tmp c45
 have hg:=ar.own (i:=2) s45 rfl
 refine ⟨⟨Dl.o6 hg hd,Dl.qx hg hd,Dl.qw hg hd,Dl.o5 hg hd,Dl.nI hg hd,trivial⟩,?_⟩
 refine cz.use hd.seedsA fun G47 c47=>?_
 rw [<- ha1]
 have s47:=s45.tmp c47
 have hg:=ar.own (i:=2) s47 rfl
 refine ⟨⟨Dl.qx hg hd,Dl.qw hg hd,Dl.o5 hg hd,Dl.nI hg hd,trivial⟩,?_⟩
 refine ae (zv la0 la1) ?_
 refine ae (Du hd.seedsB hd.keysB hd.keysA la0 la1) ?_
 rw [<- e1]
 refine ae (v:=.ptr i5 [1] 164) rfl ?_
 refine fK (st1 (c:=C1.av) (ar.own (i:=0) s47 rfl) (FP o0 zo) rfl rfl j9 (CfM.fits o1) (by rw [CfM.sz o1,CfM.sz zo]) (CfM.okv)) ?_
 have s51:=Sp.setRow (j:=0) s47 rfl (qb C0 C1)
 revert s51
 show Sp [] G _ (ah.upd G47 i5 (.own (.agg ([C0.av,CfM.zero.av].set 1 C1.av)))) -> _
 generalize ah.upd G47 i5 _ = G51
 intro s51
 refine ae (v:=.int .i64 2) rfl ?_
 refine hR7 _ _ _ _ _ ?_
 rw [aH,aa,decide_eq_false (by decide),aM]
 refine ae (cJ mF (ar.own (i:=0) s51 rfl) (zp o0 o1)) ?_
 refine fK (il (c:=qb C0 C1) mF (ar.own (i:=1) s51 rfl) (zp o0 o1) (by rw [IX zo zo,IX o0 o1]) (J0 _ _)) ?_
 have s55:=Sp.setRow (j:=1) s51 rfl (qb C0 C1)
 refine ae (cJ mF (ar.own (i:=1) s55 rfl) (zp o0 o1)) ?_
 exact hQ _ s55.ch
end
end Go.Esc.M
set_option linter.unusedSimpArgs false
set_option linter.unusedVariables false
set_option maxRecDepth 20000
namespace Go.Esc.M
open Go Go.Esc
def d15:DlM:=⟨1000,700,h0,h0,h0,h0⟩
theorem ED:d15.ok:=⟨gQ 1000 (by decide) (by decide),gQ 700 (by decide) (by decide),rfl,rfl,rfl,rfl⟩
def c15 (a b:List UInt8):CfM:=⟨0,1000,700,h0,h0,h0,a,b,4096⟩
def s15 (a b:List UInt8):StM:={ StM.zero with side:=0,cap:=1000,bo:=700,bp:=300,ptsA:=a,ptsB:=b,closed:=-1 }
def f15 (a b:List UInt8):StF:=⟨s15 a b,[],[],[]⟩
theorem HM (a b:List UInt8):nb (c15 a b) = (s15 a b,0):=rfl
section
variable {F0:List AId} {G0 G:ah} {ps:List LP} {Q:ag -> ah -> Prop}
theorem f15_in {a b:List UInt8} (ha:a.length = 32) (hb:b.length = 32) (G:ah):kW G (f15 a b) .nilSlice .nilSlice .nilSlice :=
 ⟨⟨cD,gQ 1000 (by decide) (by decide),gQ 700 (by decide) (by decide),gQ 300 (by decide) (by decide),cD,cD,cD,cD,cD,cD,cD,cD,cD,ha,hb,rfl,cD,gQ (-1) (by decide) (by decide)⟩,iu.nil,iu.nil,iu.nil,by simp [f15],by simp [f15],by simp [f15],by simp [f15],by simp [f15],by simp [f15]⟩
theorem IW {a b:CfM} (ha:a.ok) (hb:b.ok):oE T fD (qb a b) (.int .i64 0) = some a.av:=by
 have h1:Esc.uni 164 [a.av,b.av] = true:=by simp [Esc.uni,CfM.sz ha,CfM.sz hb]
 have h2:=CfM.fits ha
 simp only [oE,qb,mF,show jV.desc = .array 2 cl from rfl,j9]
 have h3:Esc.uni lN.size [a.av,b.av] = true:=h1
 simp [h2,h3]
end
theorem Cd {G:ah} {R d:Nat} {v:ag} {m:Nat} (h:wt T G R (d + 3) cL v m):∃ a b:List UInt8,v = mj a b /\ a.length = 32 /\ b.length = 32:=by
 rw [wt] at h
 simp only [lg,show kE.desc = .array 2 aj from rfl] at h
 obtain ⟨cs,ms,rfl,hl,hw,_⟩:=h
 match cs,ms,hl,hw with
 | [a,b],[m1,m2],_,⟨h1,h2,_⟩=>
  obtain ⟨x,rfl,lx,_⟩:=xL cd rfl dz rfl h1
  obtain ⟨y,rfl,ly,_⟩:=xL cd rfl dz rfl h2
  exact ⟨x,y,rfl,lx,ly⟩
end Go.Esc.M
