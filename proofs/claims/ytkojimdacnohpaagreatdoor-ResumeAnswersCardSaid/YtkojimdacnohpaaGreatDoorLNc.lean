import Derived.Test.YtkojimdacnohpaaGreatDoorLMn
import Derived.Test.YtkojimdacnohpaaGreatDoorLHb
import Derived.Test.YtkojimdacnohpaaGreatDoorLUe
import Derived.Test.YtkojimdacnohpaaGreatDoorLSe
import Derived.Test.YtkojimdacnohpaaGreatDoorLFv
import Derived.Test.YtkojimdacnohpaaGreatDoorLFb
import Derived.Test.YtkojimdacnohpaaGreatDoorLPw
set_option maxHeartbeats 4000000
set_option linter.unusedSimpArgs false
set_option linter.unusedVariables false
set_option maxRecDepth 20000
namespace Go.Esc.M
open Go Go.Esc
def hx:List UInt8:=[49,50,51,52,53,54,55,56,57,48,49,50,51,52,53,54,55,56,57,48,49,50,51,52,53,54,55,56,57,48,49,50]
def b4:List UInt8:=[4,0,0,0,0,0,0,1,2] ++ hx
def m4:bA:=⟨4,0,0,258,0,hx,h0,[]⟩
def m7:bA:=⟨7,0,0,3,0,h0,h0,[]⟩
section
variable {F0:List AId} {G0 G:ah} {ps:List LP} {Q:ag -> ah -> Prop}
end
end Go.Esc.M
namespace Go.Esc.M
open Go Go.Esc
end Go.Esc.M
namespace Go.Esc.M
open Go Go.Esc
end Go.Esc.M
namespace Go.Esc.M
open Go Go.Esc
end Go.Esc.M
namespace Go.Esc.M
open Go Go.Esc
section
variable {F0:List AId} {G0 G:ah} {ps:List LP} {Q:ag -> ah -> Prop}
end
end Go.Esc.M
namespace Go.Esc.M
open Go Go.Esc
structure StF where
 s:StM
 o:List aK
 p:List aK
 h:List cB
structure kW (G:ah) (f:StF) (vo vp vh:ag):Prop where
 ok:f.s.ok
 o:iu 36 G vo (f.o.map aK.av)
 p:iu 36 G vp (f.p.map aK.av)
 h:iu 34 G vh (f.h.map cB.av)
 oko:∀ u ∈ f.o,u.ok
 okp:∀ u ∈ f.p,u.ok
 okh:∀ x ∈ f.h,x.ok
 lo:f.o.length ≤ 1048576
 lp:f.p.length ≤ 1048576
 lh:f.h.length * 48 ≤ 140737488351232
theorem B0 {n:Nat} {G:ah} {v:ag} {vs:List ag} (h:iu n G v vs):bz v:=by
 rcases h with ⟨_,_,_,_,_,_,rfl,_⟩ | ⟨rfl,_⟩ <;> exact ⟨rfl,rfl,rfl⟩
theorem kW.lv {G:ah} {f:StF} {vo vp vh:ag} (h:kW G f vo vp vh):bz vo /\ bz vp /\ bz vh:=⟨B0 h.o,B0 h.p,B0 h.h⟩
theorem kW.mv {G G':ah} {E:List AId} {f:StF} {vo vp vh:ag} (h:kW G f vo vp vh) (hc:Ch [] G E G'):kW G' f vo vp vh :=
 ⟨h.ok,h.o.mv hc,h.p.mv hc,h.h.mv hc,h.oko,h.okp,h.okh,h.lo,h.lp,h.lh⟩
def nK (s:StM):Int:=if s.heldA < s.atA then s.heldA else s.atA
def ng (s:StM):Int:=if s.heldB < s.atB then s.heldB else s.atB
def xg (s:StM):Bool:=!decide (s.failed = 0) || !decide (s.closed = -1)
def AE (f:StF):Bool:=decide (2048 ≤ f.o.length) || decide (512 ≤ IntKind.i64.wrap ((f.o.length:Int) - f.s.heldA))
def vP (f:StF):Int:=Mr f.s.bo f.o f.p (nK f.s) (ng f.s)
def vN (f:StF):Int:=Mr f.s.bp f.p f.o (ng f.s) (nK f.s)
def RcM.zero:RcM:=⟨0,aK.zero,0,0,0,h0,h0,h0,0⟩
theorem RcM.bD:RcM.zero.ok:=⟨cD,aK.bD,cD,cD,cD,rfl,rfl,rfl,cD⟩
def rcZ:List ag:=RcM.zero.cs .nilSlice
theorem DM:iY = RcM.zero.av .nilSlice:=rfl
theorem vd {parts:List (Nat × ag)} {r:RcM} {v:ag} (hs:∀ p ∈ parts,rcZ[p.1]?.map Esc.sz = some (Esc.sz p.2)) (he:pk rcZ parts = r.cs v):bk T aD parts = some (r.av v):=by
 refine (jK (zs:=rcZ) oV rfl rfl rfl (n9 rfl) hs).trans ?_
 rw [he]; rfl
theorem AO:bk T aD [] = some (RcM.zero.av .nilSlice):=rfl
def pR (u:aK):RcM:={ RcM.zero with kind:=1,upd:=u }
theorem gQ (n:Int) (h0:-9223372036854775808 ≤ n) (h1:n ≤ 9223372036854775807):I64 n:=⟨h0,h1⟩
theorem lG {u:aK} (h:u.ok):(pR u).ok:=⟨gQ 1 (by decide) (by decide),h,cD,cD,cD,rfl,rfl,rfl,cD⟩
section
variable {F0:List AId} {G0 G:ah} {ps:List LP} {Q:ag -> ah -> Prop}
theorem uf {u:aK} (h:u.ok):bk T aD [(0,.int .i64 1),(1,u.av)] = some ((pR u).av .nilSlice):=by
 refine vd (fun p hp=>?_) rfl
 simp only [List.mem_cons,List.not_mem_nil,or_false] at hp
 rcases hp with rfl | rfl
 ·rfl
 ·show some (Esc.sz aK.zero.av) = some (Esc.sz u.av)
  rw [aK.sz h,aK.sz aK.bD]
theorem nu {j:Nat} {i:AId} {e:Int} {v:ag} {r:RcM} (s:Sp F0 G ps G0) (hj:ps[j]? = some (ar i (r.av v))) (hr:r.ok) (hv:bz v) (hQ:∀ G',Sp F0 G (ps.set j (ar i (RcM.zero.av .nilSlice))) G' -> Q (.tuple [RcM.zero.av .nilSlice,.int .i64 e]) G') :
  wv (bk T aD []) fun v17=>wg (ax T G0 aD (.ptr i [] 0) v17) fun G18=>wv (lq T G18 aD (.ptr i [] 0)) fun v19=>Q (.tuple [v19,.int .i64 e]) G18:=by
 refine ae AO ?_
 refine Rc.st s hj hr hv RcM.bD bz.nil fun G18 s18=>?_
 refine ae (Rc.ld (ar.own (i:=j) s18 (by rw [List.getElem?_set_self (List.getElem?_eq_some_iff.1 hj).1])) RcM.bD bz.nil) ?_
 exact hQ G18 s18
end
end Go.Esc.M
namespace Go.Esc.M
open Go Go.Esc
def zN (x:RcM × Int):ag:=.tuple [x.1.av .nilSlice,.int .i64 x.2]
theorem tr0 (x:RcM × Int):aW (zN x) 0 = some (x.1.av .nilSlice):=rfl
theorem tr1 (x:RcM × Int):aW (zN x) 1 = some (.int .i64 x.2):=rfl
def noR (e:Int):RcM × Int:=(RcM.zero,e)
def q9 (f:StF) (a:Int) (h:List UInt8):RcM × Int :=
 if xg f.s = true then noR 220 else if a < 1 \/ 1152921504606846976 < a then noR 80 else if AE f = true then noR 6
 else if 483 ≤ kp f.o f.p (ng f.s) then noR 131 else if vP f < a then noR 130 else (pR ⟨1,((jR f.o:Nat):Int),a,h,[]⟩,0)
def tZ (f:StF) (u:aK):Bool :=
 (fW false u.id (dP f.p (ng f.s))).isSome && (!(fW true u.id f.o).isSome && ((!decide (u.kind = 2) || decide (sha u.hash = ((fW false u.id (dP f.p (ng f.s))).getD aK.zero).hash)) && decide (u.note.length ≤ 64)))
def lK (f:StF) (u:aK):RcM × Int :=
 if xg f.s = true then noR 220 else if tZ f u = false then noR 120 else if AE f = true then noR 6 else (pR u,0)
def uB (f:StF):RcM × Int :=
 if xg f.s = true then noR 220 else if f.s.rem ≠ f.s.ack \/ ((f.o.length:Int) = f.s.sgnA /\ f.s.atB = f.s.sgnB) then noR 8 else if 281474976710653 < f.s.rem then noR 90
 else ({ RcM.zero with kind:=2,index:=f.s.rem + 1,cntA:=(f.o.length:Nat),cntB:=f.s.atB },0)
def y8 (f:StF) (u:aK):Int :=
 if xg f.s = true then 220 else if 512 ≤ IntKind.i64.wrap ((f.p.length:Int) - f.s.atB) then 131 else if jW f.p f.o u ≠ 0 then 120
 else if u.kind = 1 then (if 483 ≤ kp f.p f.o (nK f.s) then 131 else if vN f < u.amount then 130 else 0)
 else if (fW false u.id (dP f.o (nK f.s))).isSome = false then 120
 else if u.kind = 2 /\ sha u.hash ≠ ((fW false u.id (dP f.o (nK f.s))).getD aK.zero).hash then 120 else 0
theorem Ft {t:TypeId} (a b c d:Int):aw T .eql bG (bR a b) (bR c d) = some (.bool (decide (a = c /\ b = d))):=by
 have:mN T 9 bG (bR a b) (bR c d) = some (decide (a = c) && decide (b = d)):=by
  by_cases h1:a = c <;> by_cases h2:b = d <;> simp [bR,mN,eqF,fR,n7,hO,mf,h1,h2,fa,sz,szs,ag.isAgg,j4.isAgg]
 simp [aw,bR] at this ⊢
 rw [this]
section
variable {F0:List AId} {G0 G:ah} {ps:List LP} {Q:ag -> ah -> Prop}
theorem Hg {x y:Int} {h:List UInt8} (hl:h.length = 32):bk T aI [(0,.int .i64 1),(1,.int .i64 x),(2,.int .i64 y),(3,.agg (h.map u8v))] = some (aK.av ⟨1,x,y,h,[]⟩):=by
 refine (jK (zs:=aK.zero.cs) fC rfl rfl rfl (n9 rfl) fun p hp=>?_).trans rfl
 simp only [List.mem_cons,List.not_mem_nil,or_false] at hp
 rcases hp with rfl | rfl | rfl | rfl
 ·rfl
 ·rfl
 ·rfl
 ·show some (Esc.sz (.agg (h0.map u8v))) = some (Esc.sz (.agg (h.map u8v)))
  rw [Esc.sz,Esc.sz,szh hl,szh mL]
theorem Hf {x:Int} {h:List UInt8} (hl:h.length = 32):bk T aI [(0,.int .i64 2),(1,.int .i64 x),(3,.agg (h.map u8v))] = some (aK.av ⟨2,x,0,h,[]⟩):=by
 refine (jK (zs:=aK.zero.cs) fC rfl rfl rfl (n9 rfl) fun p hp=>?_).trans rfl
 simp only [List.mem_cons,List.not_mem_nil,or_false] at hp
 rcases hp with rfl | rfl | rfl
 ·rfl
 ·rfl
 ·show some (Esc.sz (.agg (h0.map u8v))) = some (Esc.sz (.agg (h.map u8v)))
  rw [Esc.sz,Esc.sz,szh hl,szh mL]
theorem EM (x:Int) (n:List UInt8):bk T aI [(0,.int .i64 3),(1,.int .i64 x),(4,.str n)] = some (aK.av ⟨3,x,0,h0,n⟩):=by
 refine (jK (zs:=aK.zero.cs) fC rfl rfl rfl (n9 rfl) fun p hp=>?_).trans rfl
 simp only [List.mem_cons,List.not_mem_nil,or_false] at hp
 rcases hp with rfl | rfl | rfl <;> rfl
theorem Ha {x a b:Int}:bk T aD [(0,.int .i64 2),(3,.int .i64 x),(4,bR a b)] = some (({ RcM.zero with kind:=2,index:=x,cntA:=a,cntB:=b }:RcM).av .nilSlice):=by
 refine vd (fun p hp=>?_) rfl
 simp only [List.mem_cons,List.not_mem_nil,or_false] at hp
 rcases hp with rfl | rfl | rfl <;> rfl
end
end Go.Esc.M
namespace Go.Esc.M
open Go Go.Esc
theorem kc {s:List UInt8} (h:s.length = 32) (n:Int):(fH s n).1.length = 32:=by
 unfold fH
 cases okN n
 ·rfl
 ·exact kK 48 h
theorem vG {ow ix o q:Int} {pt:List UInt8} {l:List ba} (hp:pt.length = 32) (hl:∀ p ∈ l,p.ok):(nC ow ix pt o q l).1.length ≤ 1000000:=by
 unfold nC
 split
 ·simp
 ·cases hs:j6 o q l with
  | false=>simp
  | true=>
   have h1:=p5 hs
   have h2:∀ m:List ba,(∀ p ∈ m,p.ok) -> (m.flatMap ba.bytes).length = 49 * m.length:=by
    intro m hm
    induction m with
    | nil=>rfl
    | cons p m ih=>rw [List.flatMap_cons,List.length_append,ba.re (hm p (by simp)),ih (fun p hp=>hm p (by simp [hp])),List.length_cons]; omega
   simp only [cond_true,ux,List.length_append,hI,hp,h2 l hl]
   omega
def jC (f:StF) (ca cb:Int):FoldM:=k8 f.s.bo f.s.bp f.o f.p ca cb
theorem sa {G:ah} {f:StF} {vo vp vh:ag} (h:kW G f vo vp vh) (ca cb:Int):∀ p ∈ (jC f ca cb).l,p.ok:=II h.oko h.okp
theorem wa (f:StF) (ca cb:Int):(jC f ca cb).l.length ≤ f.o.length + f.p.length:=GN _ _ _ _ _ _
def CW (c:CfM) (f:StF) (n ca cb:Int):List UInt8 × Bool :=
 if (fH c.seed n).2 ≠ 0 then ([],false) else if (jC f ca cb).e ≠ 0 then ([],false)
 else ((nC f.s.side n (sha (fH c.seed n).1) (jC f ca cb).o (jC f ca cb).q (jC f ca cb).l).1,decide ((nC f.s.side n (sha (fH c.seed n).1) (jC f ca cb).o (jC f ca cb).q (jC f ca cb).l).2 = 0))
theorem H7 {c:CfM} {f:StF} {n ca cb:Int} (hf:∀ p ∈ (jC f ca cb).l,p.ok):(CW c f n ca cb).1.length ≤ 1000000:=by
 unfold CW
 split
 ·simp
 ·split
  ·simp
  ·exact vG (kd _) hf
structure Ko where
 r:RcM
 l:List aK
 e:Int
def noC (e:Int):Ko:=⟨RcM.zero,[],e⟩
def oB (c:CfM) (f:StF) (m:bA):Ko :=
 if xg f.s = true then noC 220 else if m.kind ≠ 4 then noC 160 else if 281474976710653 < f.s.loc \/ m.index ≠ f.s.loc + 1 then noC 90
 else if f.s.heldA = f.s.atA /\ (f.p.length:Int) = f.s.atB then noC 8
 else if (CW c f m.index f.s.heldA (f.p.length:Nat)).2 = false \/ mac c.pkey (CW c f m.index f.s.heldA (f.p.length:Nat)).1 ≠ m.hash then noC 110
 else ⟨{ RcM.zero with kind:=3,index:=m.index,sig:=m.hash },f.p.drop (dP f.p f.s.atB).length,0⟩
def pP (c:CfM) (n:Int):bA :=
 if n < 0 \/ 281474976710653 < n then bA.zero else { bA.zero with kind:=5,index:=n,secret:=(fH c.seed n).1,hash:=sha (fH c.seed (n + 2)).1 }
def jz (f:StF) (m:bA):RcM × Int :=
 if xg f.s = true then noR 220 else if m.kind ≠ 5 then noR 160 else if f.s.rem = f.s.ack \/ IntKind.i64.wrap (f.s.rem - 1) ≠ f.s.ack \/ m.index ≠ f.s.ack then noR 90
 else if sha m.secret ≠ f.s.ptsA then noR 100 else if (uG f.h f.s.ack m.secret).2 ≠ 0 then noR 100
 else ({ RcM.zero with kind:=4,index:=f.s.ack,secret:=m.secret,point:=m.hash },0)
def qd (c:CfM) (f:StF):bA :=
 { bA.zero with kind:=4,index:=f.s.rem,hash:=mac c.key (nC (IntKind.i64.wrap (1 - f.s.side)) f.s.rem (if f.s.rem ≠ f.s.ack then f.s.ptsB else f.s.ptsA) (jC f f.s.sgnA f.s.sgnB).q (jC f f.s.sgnA f.s.sgnB).o (oN (jC f f.s.sgnA f.s.sgnB).l)).1 }
def StM.zero:StM:=⟨0,0,0,0,0,0,0,0,0,0,0,0,0,false,h0,h0,h0,0,0⟩
theorem StM.bD:StM.zero.ok:=⟨cD,cD,cD,cD,cD,cD,cD,cD,cD,cD,cD,cD,cD,rfl,rfl,rfl,cD,cD⟩
theorem lv0:bz .nilSlice /\ bz .nilSlice /\ bz .nilSlice:=⟨bz.nil,bz.nil,bz.nil⟩
theorem F6:iT = StM.zero.av .nilSlice .nilSlice .nilSlice:=rfl
def nc (c:CfM):Prop:=c.side < 0 \/ 1 < c.side \/ c.cap < 1 \/ right c.cap = false \/ c.ours < 0 \/ c.cap < c.ours
instance (c:CfM):Decidable (nc c):=by unfold nc; infer_instance
def nb (c:CfM):StM × Int:=if nc c then (StM.zero,1) else ({ StM.zero with side:=c.side,cap:=c.cap,bo:=c.ours,bp:=c.cap - c.ours,ptsA:=c.ptsA,ptsB:=c.ptsB,closed:=-1 },0)
section
variable {F0:List AId} {G0 G:ah} {ps:List LP} {Q:ag -> ah -> Prop}
theorem EN {x:Int} {h:List UInt8} {w:ag} (hl:h.length = 32) (hw:bz w):bk T aD [(0,.int .i64 3),(3,.int .i64 x),(2,w),(5,.agg (h.map u8v))] = some (({ RcM.zero with kind:=3,index:=x,sig:=h }:RcM).av w):=by
 refine vd (fun p hp=>?_) rfl
 simp only [List.mem_cons,List.not_mem_nil,or_false] at hp
 rcases hp with rfl | rfl | rfl | rfl
 ·rfl
 ·rfl
 ·show some 1 = some (Esc.sz w)
  rw [hw.1]
 ·show some (Esc.sz (.agg (h0.map u8v))) = some (Esc.sz (.agg (h.map u8v)))
  rw [Esc.sz,Esc.sz,szh hl,szh mL]
theorem n5 {parts:List (Nat × ag)} {r:bA} (hs:∀ p ∈ parts,bA.zero.cs[p.1]?.map Esc.sz = some (Esc.sz p.2)) (he:pk bA.zero.cs parts = r.cs):bk T aG parts = some r.av:=by
 refine (jK (zs:=bA.zero.cs) dB rfl rfl rfl (n9 rfl) hs).trans ?_
 rw [he]; rfl
theorem mK {h:List UInt8} (hl:h.length = 32):some (Esc.sz (.agg (h0.map u8v))) = some (Esc.sz (.agg (h.map u8v))):=by rw [Esc.sz,Esc.sz,szh hl,szh mL]
theorem xk {x:Int} {h:List UInt8} (hl:h.length = 32):bk T aG [(0,.int .i64 4),(3,.int .i64 x),(5,.agg (h.map u8v))] = some (bA.av { bA.zero with kind:=4,index:=x,hash:=h }):=by
 refine n5 (fun p hp=>?_) rfl
 simp only [List.mem_cons,List.not_mem_nil,or_false] at hp
 rcases hp with rfl | rfl | rfl
 ·rfl
 ·rfl
 ·exact mK hl
theorem gB.use {c:CfM} {n:Int} (hc:c.ok) (hQ:∀ G',Ch [] G [] G' -> Q (pP c n).av G'):al P gB.n [c.av,.int .i64 n] G Q:=by
 refine gB.sound ?_
 unfold gB.S
 rw [AZ]
 unfold pP at hQ
 intro i1 f1
 have s1:=(Sp.nil G).row f1 c.av
 intro i3 f3
 have s3:=s1.row f3 bA.zero.av
 revert s3
 generalize ah.upd _ i3 _ = G4
 intro s3 J36
 have bad:(n < 0 \/ 281474976710653 < n) -> J36 (.bool true) G4:=by
  intro hb
  rw [if_pos hb] at hQ
  simp -zeta only [J36,aX]
  refine ae (v:=bA.zero.av) rfl ?_
  refine k7 (i:=0) s3 rfl bA.bD bA.bD fun G10 s10=>?_
  refine ae (cJ dB (ar.own (i:=0) s10 rfl) (bA.fits bA.bD)) ?_
  exact hQ _ s10.ch
 have kA:¬ (n < 0 \/ 281474976710653 < n) -> J36 (.bool false) G4:=by
  intro hb
  rw [if_neg hb] at hQ
  simp -zeta only [J36,aM]
  have hx:=kc hc.seed n
  have hy:=kc hc.seed (n + 2)
  refine ae (Cf.pT (ar.own (i:=1) s3 rfl) hc) ?_
  refine gj.use hc.seed fun G14 c14=>?_
  have s14:=s3.tmp c14
  refine ae (hi0 _) ?_
  refine ae (hi1 _) ?_
  refine mZ s14 hx fun i17 G19 s19=>?_
  refine ae (Cf.pT (ar.own (i:=2) s19 rfl) hc) ?_
  rw [wi,i64_in (by omega) (by omega),aa]
  refine gj.use hc.seed fun G23 c23=>?_
  have s23:=s19.tmp c23
  refine ae (hi0 _) ?_
  refine ae (hi1 _) ?_
  refine mZ s23 hy fun i26 G28 s28=>?_
  refine ae (bE hx (ar.own (i:=1) s28 rfl)) ?_
  refine ae (bE hy (ar.own (i:=0) s28 rfl)) ?_
  refine gZ.use hy fun G32 c32=>?_
  have s32:=s28.tmp c32
  refine ⟨⟨bE hx (ar.own (i:=1) s32 rfl),trivial⟩,?_⟩
  have hz:(sha (fH c.seed (n + 2)).1).length = 32:=kd _
  have hok:({ bA.zero with kind:=5,index:=n,secret:=(fH c.seed n).1,hash:=sha (fH c.seed (n + 2)).1 }:bA).ok:=⟨gQ 5 (by decide) (by decide),cD,cD,gQ n (by omega) (by omega),cD,hz,hx,by simp [bA.zero]⟩
  refine ae (n5 (r:={ bA.zero with kind:=5,index:=n,secret:=(fH c.seed n).1,hash:=sha (fH c.seed (n + 2)).1 }) (fun p hp=>?_) rfl) ?_
  ·simp only [List.mem_cons,List.not_mem_nil,or_false] at hp
   rcases hp with rfl | rfl | rfl | rfl
   ·rfl
   ·rfl
   ·exact mK hx
   ·exact mK hz
  refine k7 (i:=2) s32 rfl bA.bD hok fun G34 s34=>?_
  refine ae (cJ dB (ar.own (i:=2) s34 rfl) (bA.fits hok)) ?_
  exact hQ _ s34.ch
 rw [aH,aa,aE]
 refine ⟨fun h1=>bad (.inl h1),fun h1=>?_⟩
 rw [de,aa]
 by_cases h2:281474976710653 < n
 ·rw [decide_eq_true h2]
  exact bad (.inr h2)
 ·rw [decide_eq_false h2]
  exact kA (by omega)
theorem gS.use {f:StF} {c:CfM} {vo vp vh:ag} (hS:kW G f vo vp vh) (hc:c.ok) (hQ:∀ G',Ch [] G [] G' -> Q (qd c f).av G'):al P gS.n [c.av,f.s.av vo vp vh] G Q:=by
 have ho:=hS.ok
 have hl:=hS.lv
 have hlo:=hS.lo
 have hlp:=hS.lp
 refine gS.sound ?_
 unfold gS.S
 rw [AZ]
 unfold qd at hQ
 intro i1 f1
 have s1:=(Sp.nil G).row f1 c.av
 intro i3 f3
 have s3:=s1.row f3 (f.s.av vo vp vh)
 intro i5 f5
 have s5:=s3.row f5 bA.zero.av
 revert s5
 generalize ah.upd _ i5 _ = G6
 intro s5
 have hg:=ar.own (i:=1) s5 rfl
 refine ae (v:=.ptr i3 [13,0] 16) rfl ?_
 refine ae (St.uS hg ho hl) ?_
 refine mZ s5 ho.ptsA fun i9 G11 s11=>?_
 have hg:=ar.own (i:=2) s11 rfl
 refine ae (St.kq hg ho hl) ?_
 refine ae (St.mi hg ho hl) ?_
 rw [dy,aa]
 obtain ⟨pt,hpt⟩:∃ pt,pt = if f.s.rem ≠ f.s.ack then f.s.ptsB else f.s.ptsA:=⟨_,rfl⟩
 rw [<- hpt] at hQ
 have hp32:pt.length = 32:=by
  rw [hpt]; split
  ·exact ho.ptsB
  ·exact ho.ptsA
 intro J49
 have go:∀ G2,Sp [] G [ar i9 (.agg (pt.map u8v)),ar i5 bA.zero.av,ar i3 (f.s.av vo vp vh),ar i1 c.av] G2 -> J49 G2:=by
  intro G18 s18
  simp -zeta only [J49]
  have hg:=ar.own (i:=2) s18 rfl
  refine ae (St.FE hg ho hl) ?_
  refine ae (St.FD hg ho hl) ?_
  refine ae (St.gG hg ho hl) ?_
  refine ae (St.iP hg ho hl) ?_
  refine ae (St.BL hg ho hl) ?_
  refine gP.use (hS.o.mv s18.ch) (hS.p.mv s18.ch) hS.oko hS.okp hS.lo hS.lp fun x G25 t25=>?_
  have hFok:=sa hS f.s.sgnA f.s.sgnB
  have hFlen:=wa f f.s.sgnA f.s.sgnB
  unfold jC at hQ hFok hFlen
  obtain ⟨F,hF⟩:∃ F,F = k8 f.s.bo f.s.bp f.o f.p f.s.sgnA f.s.sgnB:=⟨_,rfl⟩
  rw [<- hF] at hQ hFok hFlen t25 ⊢
  obtain ⟨F25,o25,c25⟩:=t25.out
  have s25:=s18.new o25 c25
  have lx:=(bj.own (i:=0) s25 rfl).leaf
  refine ae (tv0 _ _) ?_
  refine ae (tv1 _ _) ?_
  obtain ⟨w1,w2,w3⟩:=sS (o:=F.o) (q:=F.q) lx
  refine jQ s25 mG w1 (by rw [w2]; rfl) w3 fun i28 G30 s30=>?_
  have hg:=ar.own (i:=4) s30 rfl
  refine ae (St.m8 hg ho hl) ?_
  rw [bS,aa]
  refine ae (St.kq hg ho hl) ?_
  refine ae (bE hp32 (ar.own (i:=2) s30 rfl)) ?_
  refine ae (ig (i:=0) s30 rfl lx).2.2.2 ?_
  refine gU.use (bj.own (i:=1) s30 rfl).is hFok (by omega) fun y G37 t37=>?_
  obtain ⟨F37,o37,c37⟩:=t37.out
  have s37:=s30.new o37 c37
  have hg:=ar.own (i:=5) s37 rfl
  refine ⟨⟨bE hp32 (ar.own (i:=3) s37 rfl),St.kq hg ho hl,St.m8 hg ho hl,trivial⟩,?_⟩
  have hTok:=yo hFok
  refine gV.use hp32 (bj.own (i:=0) s37 rfl).is hTok (by rw [oS]; omega) fun G39 c39=>?_
  have s39:=s37.tmp c39
  have htl:=vG (ow:=IntKind.i64.wrap (1 - f.s.side)) (ix:=f.s.rem) (o:=F.q) (q:=F.o) hp32 hTok
  obtain ⟨W,hW⟩:∃ W,W = nC (IntKind.i64.wrap (1 - f.s.side)) f.s.rem pt F.q F.o (oN F.l):=⟨_,rfl⟩
  rw [<- hW] at hQ htl ⊢
  refine ae (tv0 _ _) ?_
  refine ae (tv1 _ _) ?_
  have hg:=ar.own (i:=5) s39 rfl
  refine ae (St.kq hg ho hl) ?_
  refine ae (Cf.Iv (ar.own (i:=6) s39 rfl) hc) ?_
  refine iW.use hc.key (by omega) fun G45 c45=>?_
  have s45:=s39.tmp c45
  refine ⟨⟨St.kq (ar.own (i:=5) s45 rfl) ho hl,trivial⟩,?_⟩
  have hz:(mac c.key W.1).length = 32:=gI _
  revert hQ hz
  generalize mac c.key W.1 = Z
  intro hQ hz
  have hok:({ bA.zero with kind:=4,index:=f.s.rem,hash:=Z }:bA).ok:=⟨gQ 4 (by decide) (by decide),cD,cD,ho.rem,cD,hz,rfl,by simp [bA.zero]⟩
  refine ae (xk hz) ?_
  refine k7 (i:=4) s45 rfl bA.bD hok fun G47 s47=>?_
  refine ae (cJ dB (ar.own (i:=4) s47 rfl) (bA.fits hok)) ?_
  exact hQ _ s47.ch
 by_cases h1:f.s.rem = f.s.ack
 ·rw [if_neg (fun hh=>hh h1)] at hpt
  rw [decide_eq_true h1,Bool.not_true,aM]
  rw [<- hpt] at s11
  exact go _ s11
 ·rw [if_pos h1] at hpt
  rw [decide_eq_false h1,Bool.not_false,aX]
  refine ae (v:=.ptr i3 [13,1] 48) rfl ?_
  refine ae (St.xR hg ho hl) ?_
  refine pw (i:=0) s11 rfl ho.ptsA ho.ptsB fun G17 s17=>?_
  rw [<- hpt] at s17
  exact go _ s17
theorem Hb {x:Int} {a b:List UInt8} (ha:a.length = 32) (hb:b.length = 32):bk T aD [(0,.int .i64 4),(3,.int .i64 x),(6,.agg (a.map u8v)),(7,.agg (b.map u8v))] = some (({ RcM.zero with kind:=4,index:=x,secret:=a,point:=b }:RcM).av .nilSlice):=by
 refine vd (fun p hp=>?_) rfl
 simp only [List.mem_cons,List.not_mem_nil,or_false] at hp
 rcases hp with rfl | rfl | rfl | rfl
 ·rfl
 ·rfl
 ·exact mK ha
 ·exact mK hb
end
end Go.Esc.M
