import Derived.Test.YtkojimdacnohpaaGreatDoorLNc
import Derived.Test.YtkojimdacnohpaaGreatDoorLUe
import Derived.Test.YtkojimdacnohpaaGreatDoorLSd
import Derived.Test.YtkojimdacnohpaaGreatDoorLFb
import Derived.Test.YtkojimdacnohpaaGreatDoorLMn
import Derived.Test.YtkojimdacnohpaaGreatDoorLSe
import Derived.Test.YtkojimdacnohpaaGreatDoorLFv
set_option maxHeartbeats 8000000
set_option linter.unusedSimpArgs false
set_option linter.unusedVariables false
set_option maxRecDepth 20000
namespace Go.Esc.M
open Go Go.Esc
def stZ:List ag:=StM.zero.cs .nilSlice .nilSlice .nilSlice
theorem IY {parts:List (Nat × ag)} {r:StM} {a b c:ag} (hs:∀ p ∈ parts,stZ[p.1]?.map Esc.sz = some (Esc.sz p.2)) (he:pk stZ parts = r.cs a b c):bk T aJ parts = some (r.av a b c):=by
 refine (jK (zs:=stZ) lE rfl rfl rfl (n9 rfl) hs).trans ?_
 rw [he]; rfl
theorem CG {a b c d:List UInt8} (ha:a.length = 32) (hb:b.length = 32) (hc:c.length = 32) (hd:d.length = 32):some (Esc.sz (mj a b)) = some (Esc.sz (mj c d)):=by
 simp [mj,Esc.sz,szs,szh ha,szh hb,szh hc,szh hd]
theorem Dq {a b c d:Int} {x y:List UInt8} (hx:x.length = 32) (hy:y.length = 32):bk T aJ [(0,.int .i64 a),(1,.int .i64 b),(2,.int .i64 c),(3,.int .i64 d),(13,mj x y),(17,.int .i64 (-1))] = some (({ StM.zero with side:=a,cap:=b,bo:=c,bp:=d,ptsA:=x,ptsB:=y,closed:=-1 }:StM).av .nilSlice .nilSlice .nilSlice):=by
 refine IY (fun p hp=>?_) rfl
 simp only [List.mem_cons,List.not_mem_nil,or_false] at hp
 rcases hp with rfl | rfl | rfl | rfl | rfl | rfl
 ·rfl
 ·rfl
 ·rfl
 ·rfl
 ·exact CG mL mL hx hy
 ·rfl
theorem vL {c:CfM} (h:c.ok):(nb c).1.ok:=by
 unfold nb
 by_cases hb:nc c
 ·rw [if_pos hb]; exact StM.bD
 ·rw [if_neg hb]
  have h1:¬ right c.cap = false:=fun hh=>hb (.inr (.inr (.inr (.inl hh))))
  have h2:right c.cap = true:=by simpa using h1
  have h3:=kR.1 h2
  have h4:¬ c.ours < 0:=fun hh=>hb (.inr (.inr (.inr (.inr (.inl hh)))))
  have h5:¬ c.cap < c.ours:=fun hh=>hb (.inr (.inr (.inr (.inr (.inr hh)))))
  exact ⟨h.side,h.cap,h.ours,gQ (c.cap - c.ours) (by omega) (by omega),cD,cD,cD,cD,cD,cD,cD,cD,cD,h.ptsA,h.ptsB,rfl,cD,gQ (-1) (by decide) (by decide)⟩
section
variable {F0:List AId} {G0 G:ah} {ps:List LP} {Q:ag -> ah -> Prop}
theorem dM.use {f:StF} {vo vp vh:ag} (hS:kW G f vo vp vh) (hQ:∀ wo wp wh G',Sp [] G [bj 34 wh (f.h.map cB.av),bj 36 wp (f.p.map aK.av),bj 36 wo (f.o.map aK.av)] G' -> Q (f.s.av wo wp wh) G'):al P dM.n [f.s.av vo vp vh] G Q:=by
 have ho:=hS.ok
 have hl:=hS.lv
 have hlo:=hS.lo
 have hlp:=hS.lp
 have hlh:=hS.lh
 refine dM.sound ?_
 unfold dM.S
 rw [F6]
 intro i1 f1
 have s1:=(Sp.nil G).row f1 (f.s.av vo vp vh)
 intro i3 f3
 have s3:=s1.row f3 (StM.zero.av .nilSlice .nilSlice .nilSlice)
 revert s3
 generalize ah.upd _ i3 _ = G4
 intro s3
 refine ae (St.gG (ar.own (i:=1) s3 rfl) ho hl) ?_
 have grow:∀ {ps:List LP} {G1:ah} {x:ag} {l:List aK} {K:ag -> ah -> Prop},Sp [] G ps G1 -> fV 36 G x (l.map aK.av) -> (∀ u ∈ l,u.ok) -> l.length ≤ 1048576 -> (∀ w G2,Sp [] G (bj 36 w (l.map aK.av) :: ps) G2 -> K w G2) -> cc T G1 ak ak .nilSlice x K:=by
  intro ps G1 x l K s hx hok hlen hK
  refine wZ (T:=T) (ts:=ak) (e:=aI) (si:=fl) (ie:=dA) (tx:=ak) (xi:=fl) (i:=0) (vs:=[]) (xs:=l.map aK.av) cn rfl fC rfl (by decide) cn (.inr ⟨_,rfl⟩) (s.nd 36) rfl (hx.ch' s.ch).elems (oj hok).1 (oj hok).2 (by rw [show dA.bytes = 72 from rfl,List.length_map]; simp; omega) fun w G5 s5=>?_
  exact hK w G5 s5
 refine grow s3 hS.o.jf hS.oko hS.lo fun wo G7 s7=>?_
 have lo:bz wo:=(bj.own (i:=0) s7 rfl).leaf
 refine St.sE (i:=2) s7 rfl ho hl lo fun G8 s8=>?_
 refine ae (St.iP (ar.own (i:=2) s8 rfl) ho ⟨lo,hl.2.1,hl.2.2⟩) ?_
 refine grow s8 hS.p.jf hS.okp hS.lp fun wp G11 s11=>?_
 have lp:bz wp:=(bj.own (i:=0) s11 rfl).leaf
 refine St.uz (i:=3) s11 rfl ho ⟨lo,hl.2.1,hl.2.2⟩ lp fun G12 s12=>?_
 refine ae (St.r6 (ar.own (i:=3) s12 rfl) ho ⟨lo,lp,hl.2.2⟩) ?_
 refine wZ (T:=T) (ts:=bu) (e:=ff) (si:=jN) (ie:=kI) (tx:=bu) (xi:=jN) (i:=0) (vs:=[]) (xs:=f.h.map cB.av) iL rfl ky rfl (by decide) iL (.inr ⟨_,rfl⟩) (s12.nd 34) rfl (hS.h.jf.ch' s12.ch).elems (z7 hS.okh) (tV f.h) (by rw [show kI.bytes = 48 from rfl,List.length_map]; simp; omega) fun wh G15 s15=>?_
 have lh:bz wh:=(bj.own (i:=0) s15 rfl).leaf
 refine St.yv (i:=4) s15 rfl ho ⟨lo,lp,hl.2.2⟩ lh fun G16 s16=>?_
 refine ae (St.ld (ar.own (i:=4) s16 rfl) ho ⟨lo,lp,lh⟩) ?_
 refine St.st (i:=3) s16 rfl StM.bD lv0 ho ⟨lo,lp,lh⟩ fun G18 s18=>?_
 refine ae (St.ld (ar.own (i:=3) s18 rfl) ho ⟨lo,lp,lh⟩) ?_
 exact hQ wo wp wh G18 ((s18.erase 3).erase 3)
theorem kW.copy {f:StF} {vo vp vh wo wp wh:ag} {G1:ah} {i j k:Nat} (hS:kW G f vo vp vh) (s:Sp F0 G0 ps G1) (ho:ps[i]? = some (bj 36 wo (f.o.map aK.av))) (hp:ps[j]? = some (bj 36 wp (f.p.map aK.av))) (hh:ps[k]? = some (bj 34 wh (f.h.map cB.av))):kW G1 f wo wp wh :=
 ⟨hS.ok,Own.nM (bj.own s ho),Own.nM (bj.own s hp),Own.nM (bj.own s hh),hS.oko,hS.okp,hS.okh,hS.lo,hS.lp,hS.lh⟩
def oH (s:List UInt8) (n:Int):List UInt8:=sha (fH s n).1
theorem kS (s:List UInt8) (n:Int):(oH s n).length = 32:=kd _
theorem cz.use {s:List UInt8} {n:Int} (hs:s.length = 32) (hQ:∀ G',Ch [] G [] G' -> Q (.agg ((oH s n).map u8v)) G'):al P cz.n [.agg (s.map u8v),.int .i64 n] G Q:=by
 refine cz.sound ?_
 unfold cz.S
 rw [kM]
 intro i1 f1
 have s1:=(Sp.nil G).row f1 (.agg (s.map u8v))
 intro i3 f3
 have s3:=s1.row f3 (.agg ((List.replicate 32 (0:UInt8)).map u8v))
 rw [<- kM]
 refine ae (bE hs (ar.own (i:=1) s3 rfl)) ?_
 refine bJ.use hs fun G7 c7=>?_
 have s7:=s3.tmp c7
 have hx:=kc hs n
 refine ae (hi0 _) ?_
 refine ae (hi1 _) ?_
 refine mZ s7 hx fun i10 G12 s12=>?_
 refine ae (bE hx (ar.own (i:=0) s12 rfl)) ?_
 refine bW.use hx fun G15 c15=>?_
 have s15:=s12.tmp c15
 have hz:(sha (fH s n).1).length = 32:=kd _
 refine pw (i:=1) s15 rfl (by simp) hz fun G16 s16=>?_
 refine ae (bE hz (ar.own (i:=1) s16 rfl)) ?_
 exact hQ _ s16.ch
def qb (a b:CfM):ag:=.agg [a.av,b.av]
def CfM.zero:CfM:=⟨0,0,0,h0,h0,h0,h0,h0,0⟩
theorem CfM.bD:CfM.zero.ok:=⟨cD,cD,cD,rfl,rfl,rfl,rfl,rfl,cD⟩
def cfZ:List ag:=CfM.zero.cs
theorem FP {a b:CfM} (ha:a.ok) (hb:b.ok):[a.av,b.av].map Esc.sz = [164,164]:=by simp [CfM.sz ha,CfM.sz hb]
theorem zp {a b:CfM} (ha:a.ok) (hb:b.ok):fa jV (qb a b) = true:=by
 simp [fa,qb,Esc.sz,szs,CfM.sz ha,CfM.sz hb,jV,ag.isAgg,j4.isAgg]
theorem IX {a b:CfM} (ha:a.ok) (hb:b.ok):Esc.sz (qb a b) = 328:=by simp [qb,Esc.sz,szs,CfM.sz ha,CfM.sz hb]
theorem J0 (a b:CfM):Esc.okv (qb a b) = true:=by simp [qb,Esc.okv,kT,CfM.okv]
theorem Lz:mn = qb CfM.zero CfM.zero:=rfl
theorem Du {a b c:Int} {x y z p q:List UInt8} (hx:x.length = 32) (hy:y.length = 32) (hz:z.length = 32) (hp:p.length = 32) (hq:q.length = 32) :
  bk T cl [(0,.int .i64 a),(1,.int .i64 b),(2,.int .i64 c),(3,.agg (x.map u8v)),(4,.agg (y.map u8v)),(5,.agg (z.map u8v)),(6,mj p q),(7,.int .i64 4096)] = some (CfM.av ⟨a,b,c,x,y,z,p,q,4096⟩):=by
 refine (jK (zs:=cfZ) j9 rfl rfl rfl (n9 rfl) fun r hr=>?_).trans rfl
 simp only [List.mem_cons,List.not_mem_nil,or_false] at hr
 rcases hr with rfl | rfl | rfl | rfl | rfl | rfl | rfl | rfl
 ·rfl
 ·rfl
 ·rfl
 ·exact mK hx
 ·exact mK hy
 ·exact mK hz
 ·exact CG mL mL hp hq
 ·rfl
theorem zv {p q:List UInt8} (hp:p.length = 32) (hq:q.length = 32):bk T cL [(0,.agg (p.map u8v)),(1,.agg (q.map u8v))] = some (mj p q):=by
 refine (Dv (zs:=[.agg (h0.map u8v),.agg (h0.map u8v)]) lg rfl cd rfl ?_ fun r hr=>?_).trans rfl
 ·simp [Esc.uni,Esc.sz,szh mL,fE]
 ·simp only [List.mem_cons,List.not_mem_nil,or_false] at hr
  rcases hr with rfl | rfl
  ·exact mK hp
  ·exact mK hq
def GY (d:DlM):CfM:=⟨0,d.cap,d.ours,d.seedsA,d.keysA,d.keysB,oH d.seedsB 0,oH d.seedsB 1,4096⟩
def GX (d:DlM):CfM:=⟨1,d.cap,IntKind.i64.wrap (d.cap - d.ours),d.seedsB,d.keysB,d.keysA,oH d.seedsA 0,oH d.seedsA 1,4096⟩
theorem BZ {d:DlM} (h:d.ok):(GY d).ok:=⟨cD,h.cap,h.ours,h.seedsA,h.keysA,h.keysB,kS _ _,kS _ _,gQ 4096 (by decide) (by decide)⟩
theorem BX {d:DlM} (h:d.ok):(GX d).ok:=⟨gQ 1 (by decide) (by decide),h.cap,IC _,h.seedsB,h.keysB,h.keysA,kS _ _,kS _ _,gQ 4096 (by decide) (by decide)⟩
theorem cu.use {d:DlM} (hd:d.ok) (hQ:∀ G',Ch [] G [] G' -> Q (qb (GY d) (GX d)) G'):al P cu.n [d.av] G Q:=by
 refine cu.sound ?_
 unfold cu.S
 rw [Lz]
 intro i1 f1
 have s1:=(Sp.nil G).row f1 d.av
 intro i3 f3
 have s3:=s1.row f3 (qb CfM.zero CfM.zero)
 intro i5 f5
 have s5:=s3.row f5 (qb CfM.zero CfM.zero)
 revert s5
 generalize ah.upd _ i5 _ = G6
 intro s5
 have o0:=BZ hd
 have o1:=BX hd
 obtain ⟨C0,hC0⟩:∃ C,C = GY d:=⟨_,rfl⟩
 obtain ⟨C1,hC1⟩:∃ C,C = GX d:=⟨_,rfl⟩
 obtain ⟨b0,hb0⟩:∃ z,z = oH d.seedsB 0:=⟨_,rfl⟩
 obtain ⟨b1,hb1⟩:∃ z,z = oH d.seedsB 1:=⟨_,rfl⟩
 obtain ⟨a0,ha0⟩:∃ z,z = oH d.seedsA 0:=⟨_,rfl⟩
 obtain ⟨a1,ha1⟩:∃ z,z = oH d.seedsA 1:=⟨_,rfl⟩
 have lb0:b0.length = 32:=by rw [hb0]; exact kS _ _
 have lb1:b1.length = 32:=by rw [hb1]; exact kS _ _
 have la0:a0.length = 32:=by rw [ha0]; exact kS _ _
 have la1:a1.length = 32:=by rw [ha1]; exact kS _ _
 have e0:C0 = ⟨0,d.cap,d.ours,d.seedsA,d.keysA,d.keysB,b0,b1,4096⟩:=by rw [hC0,hb0,hb1]; rfl
 have e1:C1 = ⟨1,d.cap,IntKind.i64.wrap (d.cap - d.ours),d.seedsB,d.keysB,d.keysA,a0,a1,4096⟩:=by rw [hC1,ha0,ha1]; rfl
 rw [<- hC0,<- hC1] at hQ
 rw [<- hC0] at o0
 rw [<- hC1] at o1
 have zo:=CfM.bD
 intro R7 hR7
 refine hR7 _ _ _ _ _ ?_
 rw [aH,aa,decide_eq_true (by decide),aX]
 have hg:=ar.own (i:=2) s5 rfl
 refine ae (v:=.ptr i1 [1] 1) rfl ?_
 refine ae (Dl.gG hg hd) ?_
 rw [bC,aa,decide_eq_false (by decide)]
 intro J52
 rw [aM]
 simp -zeta only [J52]
 refine ae (v:=.ptr i1 [0] 0) rfl ?_
 refine ae (Dl.nI hg hd) ?_
 refine ae (v:=.ptr i1 [2] 2) rfl ?_
 refine ae (v:=.ptr i1 [2,0] 2) rfl ?_
 refine ae (Dl.o6 hg hd) ?_
 refine ae (v:=.ptr i1 [3] 66) rfl ?_
 refine ae (v:=.ptr i1 [3,0] 66) rfl ?_
 refine ae (Dl.qx hg hd) ?_
 rw [bS,i64_in (by decide) (by decide),aa]
 refine ae (v:=.ptr i1 [3] 66) rfl ?_
 refine ae (v:=.ptr i1 [3,1] 98) rfl ?_
 refine ae (Dl.qw hg hd) ?_
 rw [aa]
 refine ae (v:=.ptr i1 [2] 2) rfl ?_
 refine ae (v:=.ptr i1 [2,1] 34) rfl ?_
 refine ae (Dl.o5 hg hd) ?_
 rw [aa]
 refine ae (v:=.ptr i1 [2] 2) rfl ?_
 refine ae (v:=.ptr i1 [2,1] 34) rfl ?_
 refine ae (Dl.o5 hg hd) ?_
 refine cz.use hd.seedsB fun G45 c45=>?_
 rw [<- hb0]
 have s45:=s5.tmp c45
 have hg:=ar.own (i:=2) s45 rfl
 refine ⟨⟨Dl.o5 hg hd,Dl.qw hg hd,Dl.qx hg hd,Dl.o6 hg hd,Dl.nI hg hd,trivial⟩,?_⟩
 refine cz.use hd.seedsB fun G47 c47=>?_
 rw [<- hb1]
 have s47:=s45.tmp c47
 have hg:=ar.own (i:=2) s47 rfl
 refine ⟨⟨Dl.qw hg hd,Dl.qx hg hd,Dl.o6 hg hd,Dl.nI hg hd,trivial⟩,?_⟩
 refine ae (zv lb0 lb1) ?_
 refine ae (Du hd.seedsA hd.keysA hd.keysB lb0 lb1) ?_
 rw [<- e0]
 refine ae (v:=.ptr i5 [0] 0) rfl ?_
 refine fK (st1 (c:=C0.av) (ar.own (i:=0) s47 rfl) (FP zo zo) rfl rfl j9 (CfM.fits o0) (by rw [CfM.sz o0,CfM.sz zo]) (CfM.okv)) ?_
 have s51:=Sp.setRow (j:=0) s47 rfl (qb C0 CfM.zero)
 revert s51
 show Sp [] G _ (ah.upd G47 i5 (.own (.agg ([CfM.zero.av,CfM.zero.av].set 0 C0.av)))) -> _
 generalize ah.upd G47 i5 _ = G51
 intro s51
 refine ae (v:=.int .i64 1) rfl ?_
 refine hR7 _ _ _ _ _ ?_
 rw [aH,aa,decide_eq_true (by decide),aX]
 have hg:=ar.own (i:=2) s51 rfl
 refine ae (v:=.ptr i1 [1] 1) rfl ?_
 refine ae (Dl.gG hg hd) ?_
 rw [bC,aa,decide_eq_true (by decide)]
 intro J52
 rw [aX]
 refine ae (v:=.ptr i1 [0] 0) rfl ?_
 refine ae (Dl.nI hg hd) ?_
 refine ae (v:=.ptr i1 [1] 1) rfl ?_
 refine ae (Dl.gG hg hd) ?_
 rw [bS,aa]
 simp -zeta only [J52]
 refine ae (v:=.ptr i1 [0] 0) rfl ?_
 refine ae (Dl.nI hg hd) ?_
 refine ae (v:=.ptr i1 [2] 2) rfl ?_
 refine ae (v:=.ptr i1 [2,1] 34) rfl ?_
 refine ae (Dl.o5 hg hd) ?_
 refine ae (v:=.ptr i1 [3] 66) rfl ?_
 refine ae (v:=.ptr i1 [3,1] 98) rfl ?_
 refine ae (Dl.qw hg hd) ?_
 rw [bS,i64_in (n:=1 - 1) (by decide) (by decide),aa]
 refine ae (v:=.ptr i1 [3] 66) rfl ?_
 refine ae (v:=.ptr i1 [3,0] 66) rfl ?_
 refine ae (Dl.qx hg hd) ?_
 rw [aa]
 refine ae (v:=.ptr i1 [2] 2) rfl ?_
 refine ae (v:=.ptr i1 [2,0] 2) rfl ?_
 refine ae (Dl.o6 hg hd) ?_
 rw [aa]
 refine ae (v:=.ptr i1 [2] 2) rfl ?_
 refine ae (v:=.ptr i1 [2,0] 2) rfl ?_
 refine ae (Dl.o6 hg hd) ?_
 refine cz.use hd.seedsA fun G45 c45=>?_
 rw [<- ha0]
 have s45:=s51.tmp c45
 have hg:=ar.own (i:=2) s45 rfl
 refine ⟨⟨Dl.o6 hg hd,Dl.qx hg hd,Dl.qw hg hd,Dl.o5 hg hd,Dl.nI hg hd,trivial⟩,?_⟩
 refine cz.use hd.seedsA fun G47 c47=>?_
 rw [<- ha1]
 have s47:=s45.tmp c47
 have hg:=ar.own (i:=2) s47 rfl
 refine ⟨⟨Dl.qx hg hd,Dl.qw hg hd,Dl.o5 hg hd,Dl.nI hg hd,trivial⟩,?_⟩
 refine ae (zv la0 la1) ?_
 refine ae (Du hd.seedsB hd.keysB hd.keysA la0 la1) ?_
 rw [<- e1]
 refine ae (v:=.ptr i5 [1] 164) rfl ?_
 refine fK (st1 (c:=C1.av) (ar.own (i:=0) s47 rfl) (FP o0 zo) rfl rfl j9 (CfM.fits o1) (by rw [CfM.sz o1,CfM.sz zo]) (CfM.okv)) ?_
 have s51:=Sp.setRow (j:=0) s47 rfl (qb C0 C1)
 revert s51
 show Sp [] G _ (ah.upd G47 i5 (.own (.agg ([C0.av,CfM.zero.av].set 1 C1.av)))) -> _
 generalize ah.upd G47 i5 _ = G51
 intro s51
 refine ae (v:=.int .i64 2) rfl ?_
 refine hR7 _ _ _ _ _ ?_
 rw [aH,aa,decide_eq_false (by decide),aM]
 refine ae (cJ mF (ar.own (i:=0) s51 rfl) (zp o0 o1)) ?_
 refine fK (il (c:=qb C0 C1) mF (ar.own (i:=1) s51 rfl) (zp o0 o1) (by rw [IX zo zo,IX o0 o1]) (J0 _ _)) ?_
 have s55:=Sp.setRow (j:=1) s51 rfl (qb C0 C1)
 refine ae (cJ mF (ar.own (i:=1) s55 rfl) (zp o0 o1)) ?_
 exact hQ _ s55.ch
end
end Go.Esc.M
namespace Go.Esc.M
open Go Go.Esc
def d15:DlM:=⟨1000,700,h0,h0,h0,h0⟩
theorem ED:d15.ok:=⟨gQ 1000 (by decide) (by decide),gQ 700 (by decide) (by decide),rfl,rfl,rfl,rfl⟩
def c15 (a b:List UInt8):CfM:=⟨0,1000,700,h0,h0,h0,a,b,4096⟩
def s15 (a b:List UInt8):StM:={ StM.zero with side:=0,cap:=1000,bo:=700,bp:=300,ptsA:=a,ptsB:=b,closed:=-1 }
def f15 (a b:List UInt8):StF:=⟨s15 a b,[],[],[]⟩
theorem HM (a b:List UInt8):nb (c15 a b) = (s15 a b,0):=rfl
section
variable {F0:List AId} {G0 G:ah} {ps:List LP} {Q:ag -> ah -> Prop}
theorem f15_in {a b:List UInt8} (ha:a.length = 32) (hb:b.length = 32) (G:ah):kW G (f15 a b) .nilSlice .nilSlice .nilSlice :=
 ⟨⟨cD,gQ 1000 (by decide) (by decide),gQ 700 (by decide) (by decide),gQ 300 (by decide) (by decide),cD,cD,cD,cD,cD,cD,cD,cD,cD,ha,hb,rfl,cD,gQ (-1) (by decide) (by decide)⟩,iu.nil,iu.nil,iu.nil,by simp [f15],by simp [f15],by simp [f15],by simp [f15],by simp [f15],by simp [f15]⟩
theorem IW {a b:CfM} (ha:a.ok) (hb:b.ok):oE T fD (qb a b) (.int .i64 0) = some a.av:=by
 have h1:Esc.uni 164 [a.av,b.av] = true:=by simp [Esc.uni,CfM.sz ha,CfM.sz hb]
 have h2:=CfM.fits ha
 simp only [oE,qb,mF,show jV.desc = .array 2 cl from rfl,j9]
 have h3:Esc.uni lN.size [a.av,b.av] = true:=h1
 simp [h2,h3]
end
theorem Cd {G:ah} {R d:Nat} {v:ag} {m:Nat} (h:wt T G R (d + 3) cL v m):∃ a b:List UInt8,v = mj a b /\ a.length = 32 /\ b.length = 32:=by
 rw [wt] at h
 simp only [lg,show kE.desc = .array 2 aj from rfl] at h
 obtain ⟨cs,ms,rfl,hl,hw,_⟩:=h
 match cs,ms,hl,hw with
 | [a,b],[m1,m2],_,⟨h1,h2,_⟩=>
  obtain ⟨x,rfl,lx,_⟩:=xL cd rfl dz rfl h1
  obtain ⟨y,rfl,ly,_⟩:=xL cd rfl dz rfl h2
  exact ⟨x,y,rfl,lx,ly⟩
end Go.Esc.M
namespace Go.Esc.M
open Go Go.Esc
def uc (f:StF):bA:={ bA.zero with kind:=6,index:=IntKind.i64.wrap (f.s.loc + 1),next:=f.s.ack,secret:=if 0 < f.s.ack then (GK f.h (f.s.ack - 1)).1 else h0 }
def lW (c:CfM) (m:bA):Bool :=
 if 0 < m.next then decide (m.next ≤ 281474976710655) && (decide ((fH c.seed (m.next - 1)).2 = 0) && decide ((fH c.seed (m.next - 1)).1 = m.secret))
 else if m.next = 0 then decide (m.secret = h0) else true
def lY (c:CfM) (f:StF) (m:bA):Int :=
 if m.kind ≠ 6 then 160 else if lW c m = false then 100 else if f.s.loc < m.next then 180
 else if m.next < 0 \/ (m.next ≠ f.s.loc /\ m.next ≠ IntKind.i64.wrap (f.s.loc - 1)) then 90
 else if m.index ≠ IntKind.i64.wrap (f.s.rem + 1) /\ (m.index ≠ f.s.rem \/ f.s.rem ≠ IntKind.i64.wrap (f.s.ack + 1)) then 90 else 0
def wL (l:List aK) (a b:Int):List bA:=((l.take (min b (l.length:Nat)).toNat).drop (max a 0).toNat).map oy
def Ef (c:CfM) (f:StF) (m:bA) (b:Bool):List bA:=if m.next = IntKind.i64.wrap (f.s.loc - 1) /\ f.s.behind = b then [pP c m.next] else []
def mC (c:CfM) (f:StF) (m:bA):List bA × Int :=
 if lY c f m ≠ 0 then ([],lY c f m) else
  (((Ef c f m true ++ (if m.index = f.s.rem then wL f.o f.s.heldA f.s.sgnA ++ [qd c f] else [])) ++ Ef c f m false) ++ wL f.o f.s.sgnA (f.o.length:Nat),0)
theorem GI {f:StF} {G:ah} {vo vp vh:ag} (hS:kW G f vo vp vh):(uc f).ok:=by
 refine ⟨gQ 6 (by decide) (by decide),cD,cD,IC _,hS.ok.ack,rfl,?_,by simp [uc,bA.zero]⟩
 show (if 0 < f.s.ack then (GK f.h (f.s.ack - 1)).1 else h0).length = 32
 split
 ·exact Dg hS.okh
 ·rfl
theorem tR {c:CfM} (hc:c.ok) {n:Int} (hn:I64 n):(pP c n).ok:=by
 unfold pP
 split
 ·exact bA.bD
 ·exact ⟨gQ 5 (by decide) (by decide),cD,cD,hn,cD,kd _,kc hc.seed n,by simp [bA.zero]⟩
theorem wC {c:CfM} {f:StF} (h:f.s.ok):(qd c f).ok:=by
 unfold qd
 exact ⟨gQ 4 (by decide) (by decide),cD,cD,h.rem,cD,gI _,rfl,by simp [bA.zero]⟩
theorem Mt {l:List aK} (h:∀ u ∈ l,u.ok) (a b:Int):∀ m ∈ wL l a b,m.ok:=by
 intro m hm
 obtain ⟨u,hu,rfl⟩:=List.mem_map.1 hm
 exact nH (h u (List.mem_of_mem_take (List.mem_of_mem_drop hu)))
theorem Gc (l:List aK) (a b:Int):(wL l a b).length ≤ l.length:=by
 unfold wL
 rw [List.length_map,List.length_drop,List.length_take]
 omega
theorem My {c:CfM} {f:StF} {m:bA} {b:Bool} (hc:c.ok) (hm:m.ok):∀ x ∈ Ef c f m b,x.ok:=by
 intro x hx
 unfold Ef at hx
 split at hx
 ·rw [List.mem_singleton.1 hx]; exact tR hc hm.next
 ·cases hx
theorem CN (c:CfM) (f:StF) (m:bA) (b:Bool):(Ef c f m b).length ≤ 1:=by
 unfold Ef; split <;> simp
section
variable {F0:List AId} {G0 G:ah} {ps:List LP} {Q:ag -> ah -> Prop}
theorem Ds {a b:Int}:bk T aG [(0,.int .i64 6),(3,.int .i64 a),(4,.int .i64 b)] = some (bA.av { bA.zero with kind:=6,index:=a,next:=b }) :=
 n5 (fun p hp=>by
  simp only [List.mem_cons,List.not_mem_nil,or_false] at hp
  rcases hp with rfl | rfl | rfl <;> rfl) rfl
theorem Ib {u:bA} {K:AId -> ah -> Prop} (hs:Sp F0 G0 ps G) (hu:u.ok) (hK:∀ i G',Sp F0 G0 (ar i u.av :: ps) G' -> K i G'):br G (.own gE) fun i G2=>wg (ax T G2 aG (.ptr i [] 0) u.av) fun G3=>K i G3 :=
 jQ hs dB (bA.fits hu) (by rw [bA.sz hu]; rfl) (bA.okv u) hK
theorem gz.use {f:StF} {c:CfM} {vo vp vh:ag} (hT:Tab G) (hS:kW G f vo vp vh) (hc:c.ok) (hQ:∀ G',Ch [] G [] G' -> Q (uc f).av G'):al P gz.n [c.av,f.s.av vo vp vh] G Q:=by
 have ho:=hS.ok
 have hl:=hS.lv
 have hok:=GI hS
 refine gz.sound ?_
 unfold gz.S
 rw [AZ]
 intro i1 f1
 have s1:=(Sp.nil G).row f1 c.av
 intro i3 f3
 have s3:=s1.row f3 (f.s.av vo vp vh)
 intro i5 f5
 have s5:=s3.row f5 bA.zero.av
 revert s5
 generalize ah.upd _ i5 _ = G6
 intro s5
 have hg:=ar.own (i:=1) s5 rfl
 refine ae (St.pq hg ho hl) ?_
 rw [wi,aa]
 refine ae (St.mi hg ho hl) ?_
 refine ae Ds ?_
 have hok0:({ bA.zero with kind:=6,index:=IntKind.i64.wrap (f.s.loc + 1),next:=f.s.ack }:bA).ok:=⟨gQ 6 (by decide) (by decide),cD,cD,IC _,ho.ack,rfl,rfl,by simp [bA.zero]⟩
 refine Ib s5 hok0 fun i11 G13 s13=>?_
 have hg:=ar.own (i:=2) s13 rfl
 refine ae (St.mi hg ho hl) ?_
 rw [de,aa,aE]
 have fin:∀ {G2:ah} {m:bA},Sp [] G [ar i11 m.av,ar i5 bA.zero.av,ar i3 (f.s.av vo vp vh),ar i1 c.av] G2 -> m = uc f ->
   wv (lq T G2 aG (.ptr i11 [] 0)) fun v28=>wg (ax T G2 aG (.ptr i5 [] 0) v28) fun G29=>wv (lq T G29 aG (.ptr i5 [] 0)) fun v30=>Q v30 G29:=by
  intro G2 m s hm
  subst hm
  refine ae (cJ dB (ar.own (i:=0) s rfl) (bA.fits hok)) ?_
  refine k7 (i:=1) s rfl bA.bD hok fun G29 s29=>?_
  refine ae (cJ dB (ar.own (i:=1) s29 rfl) (bA.fits hok)) ?_
  exact hQ _ s29.ch
 refine ⟨fun h1=>?_,fun h1=>?_⟩
 ·refine ae (St.r6 hg ho hl) ?_
  refine ae (St.mi hg ho hl) ?_
  have ha:=ho.ack
  rw [bS,i64_in (by have:=ha.1; omega) (by have:=ha.2; omega),aa]
  refine iV.use (hT.mono s13.ro) (hS.h.jf.ch' s13.ch) hS.okh hS.lh fun G20 c20=>?_
  have s20:=s13.tmp c20
  refine ae (hi0 _) ?_
  refine ae (hi1 _) ?_
  refine Em (i:=0) (Dg hS.okh) hok0 s20 rfl fun G23 s23=>?_
  exact fin s23 (by unfold uc; rw [if_pos h1])
 ·exact fin s13 (by unfold uc; rw [if_neg h1]; rfl)
theorem gb.use {c:CfM} {m:bA} (hc:c.ok) (hm:m.ok) (hQ:∀ G',Ch [] G [] G' -> Q (.bool (lW c m)) G'):al P gb.n [c.av,m.av] G Q:=by
 refine gb.sound ?_
 unfold gb.S
 unfold lW at hQ
 intro i1 f1
 have s1:=(Sp.nil G).row f1 c.av
 intro i3 f3
 have s3:=s1.row f3 m.av
 revert s3
 generalize ah.upd _ i3 _ = G4
 intro s3
 obtain ⟨_,_,_,_,m4,_,m6,_,_⟩:=gL (i:=0) s3 rfl hm
 refine ae m4 ?_
 rw [de,aa,aE]
 refine ⟨fun h1=>?_,fun h1=>?_⟩
 ·rw [if_pos h1] at hQ
  refine ae (Cf.pT (ar.own (i:=1) s3 rfl) hc) ?_
  refine ae m4 ?_
  have hn:=hm.next
  rw [bS,i64_in (by have:=hn.1; omega) (by have:=hn.2; omega),aa]
  refine gj.use hc.seed fun G11 c11=>?_
  have s11:=s3.tmp c11
  have hx:=kc hc.seed (m.next - 1)
  obtain ⟨X,hX⟩:∃ X,X = fH c.seed (m.next - 1):=⟨_,rfl⟩
  rw [<- hX] at hQ hx ⊢
  refine ae (hi0 _) ?_
  refine ae (hi1 _) ?_
  refine mZ s11 hx fun i14 G16 s16=>?_
  obtain ⟨_,_,_,_,m4,_,m6,_,_⟩:=gL (i:=1) s16 rfl hm
  refine ae m4 ?_
  rw [jl,aa,aE]
  refine ⟨fun h2=>?_,fun h2=>?_⟩
  ·rw [decide_eq_true h2,Bool.true_and] at hQ
   rw [bC,aa,aE]
   refine ⟨fun h3=>?_,fun h3=>?_⟩
   ·rw [decide_eq_true h3,Bool.true_and] at hQ
    refine ae (bE hx (ar.own (i:=0) s16 rfl)) ?_
    refine ae m6 ?_
    refine ae (Ax hx hm.secret) ?_
    exact hQ _ s16.ch
   ·rw [decide_eq_false h3,Bool.false_and] at hQ
    exact hQ _ s16.ch
  ·rw [decide_eq_false h2,Bool.false_and] at hQ
   exact hQ _ s16.ch
 ·rw [if_neg h1] at hQ
  refine ae m4 ?_
  rw [bC,aa,aE]
  refine ⟨fun h2=>?_,fun h2=>?_⟩
  ·rw [if_pos h2] at hQ
   refine ae m6 ?_
   refine ae (v:=.agg (h0.map u8v)) rfl ?_
   refine ae (Ax hm.secret (by rfl)) ?_
   exact hQ _ s3.ch
  ·rw [if_neg h2] at hQ
   exact hQ _ s3.ch
theorem gd.use {f:StF} {c:CfM} {m:bA} {vo vp vh:ag} (hS:kW G f vo vp vh) (hc:c.ok) (hm:m.ok) (hQ:∀ G',Ch [] G [] G' -> Q (.int .i64 (lY c f m)) G'):al P gd.n [c.av,f.s.av vo vp vh,m.av] G Q:=by
 have ho:=hS.ok
 have hl:=hS.lv
 refine gd.sound ?_
 unfold gd.S
 unfold lY at hQ
 intro i1 f1
 have s1:=(Sp.nil G).row f1 c.av
 intro i3 f3
 have s3:=s1.row f3 (f.s.av vo vp vh)
 intro i5 f5
 have s5:=s3.row f5 m.av
 revert s5
 generalize ah.upd _ i5 _ = G6
 intro s5
 obtain ⟨m0,_,_,_,_,_,_,_,mw⟩:=gL (i:=0) s5 rfl hm
 refine ae m0 ?_
 rw [dy,aa,fg]
 refine ⟨fun h1=>?_,fun h1=>?_⟩
 ·rw [if_pos h1] at hQ
  exact hQ _ s5.ch
 rw [if_neg (fun hh=>hh h1)] at hQ
 refine ae (Cf.ld (ar.own (i:=2) s5 rfl) hc) ?_
 refine ae mw ?_
 refine gb.use hc hm fun G12 c12=>?_
 have s12:=s5.tmp c12
 rw [fN,aa]
 cases hp:lW c m with
 | false=>
  rw [hp,if_pos rfl] at hQ
  rw [Bool.not_false,aX]
  exact hQ _ s12.ch
 | true=>
 rw [hp,if_neg (by decide)] at hQ
 rw [Bool.not_true,aM]
 have s12:Sp [] G [ar i5 m.av,ar i3 (f.s.av vo vp vh),ar i1 c.av] G12:=s12
 obtain ⟨m0,_,_,m3,m4,_,_,_,mw⟩:=gL (i:=0) s12 rfl hm
 have hg:=ar.own (i:=1) s12 rfl
 refine ae m4 ?_
 refine ae (St.pq hg ho hl) ?_
 rw [de,aa,aE]
 refine ⟨fun h2=>?_,fun h2=>?_⟩
 ·rw [if_pos h2] at hQ
  exact hQ _ s12.ch
 rw [if_neg h2] at hQ
 intro J42
 have bad:(m.next < 0 \/ (m.next ≠ f.s.loc /\ m.next ≠ IntKind.i64.wrap (f.s.loc - 1))) -> J42 (.bool true) G12:=by
  intro hb
  rw [if_pos hb] at hQ
  simp -zeta only [J42,aX]
  exact hQ _ s12.ch
 have kA:¬ (m.next < 0 \/ (m.next ≠ f.s.loc /\ m.next ≠ IntKind.i64.wrap (f.s.loc - 1))) -> J42 (.bool false) G12:=by
  intro hb
  rw [if_neg hb] at hQ
  simp -zeta only [J42,aM]
  refine ae m3 ?_
  refine ae (St.kq hg ho hl) ?_
  rw [wi,aa,dy,aa,fg]
  refine ⟨fun h3=>?_,fun h3=>?_⟩
  ·refine ae m3 ?_
   refine ae (St.kq hg ho hl) ?_
   rw [dy,aa,fg]
   refine ⟨fun h4=>?_,fun h4=>?_⟩
   ·rw [if_pos ⟨h3,.inl h4⟩] at hQ
    exact hQ _ s12.ch
   ·refine ae (St.kq hg ho hl) ?_
    refine ae (St.mi hg ho hl) ?_
    rw [wi,aa,dy,aa,fg]
    refine ⟨fun h5=>?_,fun h5=>?_⟩
    ·rw [if_pos ⟨h3,.inr h5⟩] at hQ
     exact hQ _ s12.ch
    ·rw [if_neg (by rintro ⟨_,h | h⟩; exact h h4; exact h h5)] at hQ
     exact hQ _ s12.ch
  ·rw [if_neg (by rintro ⟨h,_⟩; exact h h3)] at hQ
   exact hQ _ s12.ch
 refine ae m4 ?_
 rw [aH,aa,aE]
 refine ⟨fun h3=>bad (.inl h3),fun h3=>?_⟩
 refine ae m4 ?_
 refine ae (St.pq hg ho hl) ?_
 rw [dy,aa,fg]
 refine ⟨fun h4=>?_,fun h4=>kA (by rintro (h | ⟨h,_⟩); exact h3 h; exact h h4)⟩
 refine ae m4 ?_
 refine ae (St.pq hg ho hl) ?_
 rw [bS,aa,dy,aa]
 by_cases h5:m.next = IntKind.i64.wrap (f.s.loc - 1)
 ·rw [decide_eq_true h5]
  exact kA (by rintro (h | ⟨_,h⟩); exact h3 h; exact h h5)
 ·rw [decide_eq_false h5]
  exact bad (.inr ⟨h4,h5⟩)
theorem BA {o:AId} {w:ag} {l:List bA} {x:bA} {rest:List LP} {K:ah -> Prop} (hs:Sp F0 G0 (ar o w :: bj 70 w (l.map bA.av) :: rest) G) (hx:x.ok) (hlen:l.length ≤ 100000000)
  (hK:∀ w' G',Sp F0 G0 (ar o w' :: bj 70 w' ((l ++ [x]).map bA.av) :: rest) G' -> K G') :
  bh T aR 1 [(0,x.av)] G fun v G1=>cc T G1 aR aR w v fun v2 G2=>wg (ax T G2 aR (.ptr o [] 0) v2) K:=by
 refine uY (T:=T) (ts:=aR) (e:=aG) (si:=fO) (ie:=fe) (i:=1) (vs:=l.map bA.av) zc rfl dB rfl (by decide) hs rfl (bA.sz hx) (bA.okv x) (by decide) (by rw [List.length_map]; simp only [fe]; omega) fun w' G' s'=>?_
 have s':Sp F0 G0 (ar o w :: bj 70 w' (l.map bA.av ++ [x.av]) :: rest) G':=s'
 have lw:=(bj.own (i:=1) hs rfl).leaf
 have lw':=(bj.own (i:=1) s' rfl).leaf
 refine fK (il zc (ar.own (i:=0) s' rfl) (jg lw' rfl) (by rw [lw.1,lw'.1]) lw'.2.2) ?_
 refine hK w' _ ?_
 rw [List.map_append]
 exact Sp.setRow (j:=0) s' rfl _
theorem nZ {o:AId} {w:ag} {i:Nat} (hs:Sp F0 G0 ps G) (hi:ps[i]? = some (ar o w)) (hw:bz w):lq T G aR (.ptr o [] 0) = some w :=
 cJ zc (ar.own hs hi) (jg hw rfl)
def Hx (a b:Int):Int:=if a < b then b else a
def Cl (a b:Int):Int:=if b < a then b else a
theorem eE.use {f:StF} {c:CfM} {m:bA} {vo vp vh w:ag} {l:List bA} {o i1 i3 i5:AId} {a b:Int} (hS:kW G0 f vo vp vh)
  (hs:Sp [] G0 [ar o w,bj 70 w (l.map bA.av),ar i5 m.av,ar i3 (f.s.av vo vp vh),ar i1 c.av] G) (hlen:l.length + f.o.length ≤ 100000000) (ha:I64 a) (hb:I64 b)
  (hQ:∀ w' G',Sp [] G0 [ar o w',bj 70 w' ((l ++ wL f.o a b).map bA.av),ar i5 m.av,ar i3 (f.s.av vo vp vh),ar i1 c.av] G' -> Q (.tuple []) G') :
  al P eE.n [.int .i64 a,.int .i64 b,.ptr i3 [] 0,.ptr o [] 0] G Q:=by
 have ho:=hS.ok
 have hl:=hS.lv
 refine eE.sound ?_
 unfold eE.S
 refine ae (v:=.int .i64 (Hx a 0)) rfl ?_
 have hlo:=hS.lo
 obtain ⟨A,hA⟩:∃ A:Nat,Hx a 0 = (A:Int) /\ A = (max a 0).toNat:=⟨(max a 0).toNat,by unfold Hx; split <;> omega,rfl⟩
 have hA2:(A:Int) ≤ 9223372036854775807:=by have:=ha.2; omega
 rw [hA.1]
 obtain ⟨M,hM⟩:∃ M:Nat,M = (min b (f.o.length:Nat)).toNat:=⟨_,rfl⟩
 have hML:M ≤ f.o.length:=by omega
 unfold wL at hQ
 rw [<- hA.2,<- hM] at hQ
 intro R hR
 have loop:∀ (n j:Nat) (w:ag) (G':ah),M - j = n -> A ≤ j -> (j:Int) ≤ 9223372036854775807 ->
   Sp [] G0 [ar o w,bj 70 w ((l ++ ((f.o.take (min j M)).drop A).map oy).map bA.av),ar i5 m.av,ar i3 (f.s.av vo vp vh),ar i1 c.av] G' ->
   R [.int .i64 b,.ptr i3 [] 0,.ptr o [] 0,.int .i64 (j:Int)] G':=by
  intro n
  induction n with
  | zero=>
   intro j w G' hn hj hjm s
   have hS':=hS.mv s.ch
   refine hR _ _ _ _ _ ?_
   have hg:=ar.own (i:=3) s rfl
   refine ae (v:=.ptr i3 [4] 4) rfl ?_
   refine ae (St.gG hg ho hl) ?_
   refine ae (fy hS'.o.jf) ?_
   refine ae (v:=.int .i64 (Cl b (f.o.length:Nat))) rfl ?_
   rw [aH,aa,aE]
   refine ⟨fun h=>absurd h (by unfold Cl; split <;> omega),fun _=>?_⟩
   rw [show min j M = M by omega] at s
   exact hQ w G' s
  | succ n ih=>
   intro j w G' hn hj hjm s
   have hS':=hS.mv s.ch
   obtain ⟨u,hu⟩:∃ u,f.o[j]? = some u:=⟨_,List.getElem?_eq_getElem (by omega)⟩
   have huo:=hS.oko u (List.mem_of_getElem? hu)
   refine hR _ _ _ _ _ ?_
   have hg:=ar.own (i:=3) s rfl
   refine ae (v:=.ptr i3 [4] 4) rfl ?_
   refine ae (St.gG hg ho hl) ?_
   refine ae (fy hS'.o.jf) ?_
   refine ae (v:=.int .i64 (Cl b (f.o.length:Nat))) rfl ?_
   rw [aH,aa,aE]
   refine ⟨fun _=>?_,fun h=>absurd (show (j:Int) < Cl b (f.o.length:Nat) by unfold Cl; split <;> omega) h⟩
   have lw:=(bj.own (i:=1) s rfl).leaf
   refine ae (nZ (i:=0) s rfl lw) ?_
   refine ae (v:=.ptr i3 [4] 4) rfl ?_
   refine ae (St.gG hg ho hl) ?_
   obtain ⟨at_,ha1,ha2⟩:=oF hS'.o.jf hu
   refine ae ha1 ?_
   refine ae ha2 ?_
   refine lR.use huo fun G19 c19=>?_
   have s19:=s.tmp c19
   refine ⟨⟨nZ (i:=0) s19 rfl lw,trivial⟩,?_⟩
   have hll:(l ++ ((f.o.take (min j M)).drop A).map oy).length ≤ 100000000:=by
    rw [List.length_append,List.length_map,List.length_drop,List.length_take]
    omega
   refine BA s19 (nH huo) hll fun w' G24 s24=>?_
   rw [wi,i64_in (by omega) (by omega),aa]
   refine ih (j + 1) w' G24 (by omega) (by omega) (by omega) ?_
   rw [show min (j + 1) M = j + 1 by omega]
   rw [show min j M = j by omega,List.append_assoc] at s24
   have e:((f.o.take (j + 1)).drop A).map oy = ((f.o.take j).drop A).map oy ++ [oy u]:=by
    rw [List.take_add_one,hu,List.drop_append_of_le_length (by rw [List.length_take]; omega),List.map_append]
    rfl
   rw [e]
   exact s24
 by_cases hAM:A ≤ M
 ·refine loop (M - A) A w G rfl (by omega) (by omega) ?_
  rw [show min A M = A by omega,List.drop_eq_nil_of_le (by rw [List.length_take]; omega),List.map_nil,List.append_nil]
  exact hs
 ·refine loop 0 A w G (by omega) (by omega) (by omega) ?_
  rw [List.drop_eq_nil_of_le (by rw [List.length_take]; omega),List.map_nil,List.append_nil]
  exact hs
theorem eC.use {f:StF} {c:CfM} {m:bA} {vo vp vh w:ag} {l:List bA} {o i1 i3 i5:AId} {b:Bool} (hS:kW G0 f vo vp vh) (hc:c.ok) (hm:m.ok)
  (hs:Sp [] G0 [ar o w,bj 70 w (l.map bA.av),ar i5 m.av,ar i3 (f.s.av vo vp vh),ar i1 c.av] G) (hlen:l.length ≤ 100000000)
  (hQ:∀ w' G',Sp [] G0 [ar o w',bj 70 w' ((l ++ Ef c f m b).map bA.av),ar i5 m.av,ar i3 (f.s.av vo vp vh),ar i1 c.av] G' -> Q (.tuple []) G') :
  al P eC.n [.bool b,.ptr i5 [] 0,.ptr i3 [] 0,.ptr o [] 0,.ptr i1 [] 0] G Q:=by
 have ho:=hS.ok
 have hl:=hS.lv
 refine eC.sound ?_
 unfold eC.S
 unfold Ef at hQ
 intro J24
 have bad:¬ (m.next = IntKind.i64.wrap (f.s.loc - 1) /\ f.s.behind = b) -> J24 (.bool false) G:=by
  intro hb
  rw [if_neg hb,List.append_nil] at hQ
  simp -zeta only [J24,aM]
  exact hQ _ _ hs
 have kA:(m.next = IntKind.i64.wrap (f.s.loc - 1) /\ f.s.behind = b) -> J24 (.bool true) G:=by
  intro hb
  rw [if_pos hb] at hQ
  simp -zeta only [J24,aX]
  have lw:=(bj.own (i:=1) hs rfl).leaf
  refine ae (nZ (i:=0) hs rfl lw) ?_
  refine ae (Cf.ld (ar.own (i:=4) hs rfl) hc) ?_
  refine ae (v:=.ptr i5 [4] 4) rfl ?_
  refine ae (gL (i:=2) hs rfl hm).2.2.2.2.1 ?_
  refine gB.use hc fun G17 c17=>?_
  have s17:=hs.tmp c17
  refine ⟨⟨nZ (i:=0) s17 rfl lw,trivial⟩,?_⟩
  refine BA s17 (tR hc hm.next) hlen fun w' G22 s22=>?_
  exact hQ w' G22 s22
 refine ae (v:=.ptr i5 [4] 4) rfl ?_
 refine ae (gL (i:=2) hs rfl hm).2.2.2.2.1 ?_
 refine ae (v:=.ptr i3 [6] 6) rfl ?_
 have hg:=ar.own (i:=3) hs rfl
 refine ae (St.pq hg ho hl) ?_
 rw [bS,aa,bC,aa,aE]
 refine ⟨fun h1=>?_,fun h1=>bad fun h=>h1 h.1⟩
 refine ae (v:=.ptr i3 [12] 15) rfl ?_
 refine ae (St.GC hg ho hl) ?_
 refine ae (v:=.bool (f.s.behind == b)) rfl ?_
 cases hb:(f.s.behind == b) with
 | true=>exact kA ⟨h1,by simpa using hb⟩
 | false=>exact bad fun h=>by rw [h.2] at hb; simp at hb
theorem cW.use {f:StF} {c:CfM} {m:bA} {vo vp vh:ag} (hS:kW G f vo vp vh) (hc:c.ok) (hm:m.ok) (hQ:∀ w G',Sp [] G [bj 70 w ((mC c f m).1.map bA.av)] G' -> Q (.tuple [w,.int .i64 (mC c f m).2]) G'):al P cW.n [c.av,f.s.av vo vp vh,m.av] G Q:=by
 have ho:=hS.ok
 have hl:=hS.lv
 have hlo:=hS.lo
 refine cW.sound ?_
 unfold cW.S
 rw [show nR = .nilSlice from rfl]
 unfold mC at hQ
 have hAok:(qd c f).ok:=wC ho
 obtain ⟨B,hB⟩:∃ B,B = qd c f:=⟨_,rfl⟩
 rw [<- hB] at hQ hAok
 intro i1 f1
 have s1:=(Sp.nil G).row f1 c.av
 intro i3 f3
 have s3:=s1.row f3 (f.s.av vo vp vh)
 intro i5 f5
 have s5:=s3.row f5 m.av
 revert s5
 generalize ah.upd _ i5 _ = G6
 intro s5
 refine ae (Cf.ld (ar.own (i:=2) s5 rfl) hc) ?_
 refine ae (St.ld (ar.own (i:=1) s5 rfl) ho hl) ?_
 refine ae (gL (i:=0) s5 rfl hm).2.2.2.2.2.2.2.2 ?_
 refine gd.use (hS.mv s5.ch) hc hm fun G11 c11=>?_
 have s11:=s5.tmp c11
 have s11:Sp [] G [ar i5 m.av,ar i3 (f.s.av vo vp vh),ar i1 c.av] G11:=s11
 rw [dy,aa,fg]
 refine ⟨fun h1=>?_,fun h1=>?_⟩
 ·rw [if_pos h1] at hQ
  exact hQ _ _ (((s11.erase 0).erase 0 |>.erase 0).nd 70)
 rw [if_neg (fun hh=>hh h1)] at hQ
 have s12:=s11.nd 70
 intro i13 f13
 have s13:=s12.row f13 .nilSlice
 revert s13
 generalize ah.upd _ i13 _ = G14
 intro s13
 have s13:Sp [] G [ar i13 .nilSlice,bj 70 .nilSlice (([]:List bA).map bA.av),ar i5 m.av,ar i3 (f.s.av vo vp vh),ar i1 c.av] G14:=s13
 refine eC.use (l:=[]) hS hc hm s13 (by simp) fun w15 G16 s16=>?_
 have l16:=CN c f m true
 rw [List.nil_append] at s16
 obtain ⟨L,hL⟩:∃ L,L = Ef c f m true:=⟨_,rfl⟩
 rw [<- hL] at s16 l16 hQ
 refine ae (gL (i:=2) s16 rfl hm).2.2.2.1 ?_
 refine ae (St.kq (ar.own (i:=3) s16 rfl) ho hl) ?_
 rw [bC,aa]
 intro J43
 have go:∀ (L2:List bA) (w:ag) (G34:ah),L2.length ≤ 50000000 -> L2 = L ++ (if m.index = f.s.rem then wL f.o f.s.heldA f.s.sgnA ++ [B] else []) ->
   Sp [] G [ar i13 w,bj 70 w (L2.map bA.av),ar i5 m.av,ar i3 (f.s.av vo vp vh),ar i1 c.av] G34 -> J43 G34:=by
  intro L2 w G34 h2 he s34
  rw [<- he] at hQ
  simp -zeta only [J43]
  refine eC.use hS hc hm s34 (by omega) fun w36 G36 s36=>?_
  have l36:=CN c f m false
  have hg:=ar.own (i:=3) s36 rfl
  refine ae (St.BK hg ho hl) ?_
  refine ae (St.gG hg ho hl) ?_
  refine ae (fy (hS.mv s36.ch).o.jf) ?_
  refine eE.use hS s36 (by rw [List.length_append]; omega) ho.sgnA (gQ _ (by omega) (by omega)) fun w41 G41 s41=>?_
  refine ae (nZ (i:=0) s41 rfl (bj.own (i:=1) s41 rfl).leaf) ?_
  exact hQ _ _ ((((s41.erase 0).erase 1).erase 1).erase 1)
 by_cases h2:m.index = f.s.rem
 ·rw [decide_eq_true h2,aX]
  have hg:=ar.own (i:=3) s16 rfl
  refine ae (St.r7 hg ho hl) ?_
  refine ae (St.BK hg ho hl) ?_
  refine eE.use hS s16 (by omega) ho.heldA ho.sgnA fun w23 G23 s23=>?_
  have l23:=Gc f.o f.s.heldA f.s.sgnA
  have lw:=(bj.own (i:=1) s23 rfl).leaf
  refine ae (nZ (i:=0) s23 rfl lw) ?_
  refine ae (Cf.ld (ar.own (i:=4) s23 rfl) hc) ?_
  refine ae (St.ld (ar.own (i:=3) s23 rfl) ho hl) ?_
  refine gS.use (hS.mv s23.ch) hc fun G28 c28=>?_
  rw [<- hB]
  have s28:=s23.tmp c28
  have s28:Sp [] G [ar i13 w23,bj 70 w23 ((L ++ wL f.o f.s.heldA f.s.sgnA).map bA.av),ar i5 m.av,ar i3 (f.s.av vo vp vh),ar i1 c.av] G28:=s28
  refine ⟨⟨nZ (i:=0) s28 rfl lw,trivial⟩,?_⟩
  refine BA s28 hAok (by rw [List.length_append]; omega) fun w33 G33 s33=>?_
  refine go _ _ _ ?_ ?_ s33
  ·rw [List.length_append,List.length_append,List.length_singleton]; omega
  ·rw [if_pos h2,List.append_assoc]
 ·rw [decide_eq_false h2,aM]
  refine go L _ _ (by omega) ?_ s16
  rw [if_neg h2,List.append_nil]
theorem Mw {f:StF} {c:CfM} {m:bA}:(mC c f m).1.length ≤ 2 * f.o.length + 3:=by
 unfold mC
 split
 ·simp
 ·have h1:=CN c f m true
  have h2:=CN c f m false
  have h3:=Gc f.o f.s.heldA f.s.sgnA
  have h4:=Gc f.o f.s.sgnA (f.o.length:Nat)
  simp only [List.length_append]
  split
  ·simp only [List.length_append,List.length_singleton]; omega
  ·simp only [List.length_nil]; omega
end
end Go.Esc.M
namespace Go.Esc.M
open Go Go.Esc
def zR:bA:={ bA.zero with kind:=6,index:=1 }
def JQ:bA:={ bA.zero with kind:=6,index:=2 }
def r8 (x:List UInt8):bA:={ bA.zero with kind:=6,index:=1,next:=1,secret:=x }
def u5M:aK:=⟨1,0,5,h0,[]⟩
theorem Bg:u5M.ok:=⟨gQ 1 (by decide) (by decide),cD,gQ 5 (by decide) (by decide),rfl,by decide⟩
theorem sT:zR.ok:=⟨gQ 6 (by decide) (by decide),cD,cD,gQ 1 (by decide) (by decide),cD,rfl,rfl,by simp [zR,bA.zero]⟩
theorem JP:JQ.ok:=⟨gQ 6 (by decide) (by decide),cD,cD,gQ 2 (by decide) (by decide),cD,rfl,rfl,by simp [JQ,bA.zero]⟩
theorem FG {x:List UInt8} (h:x.length = 32):(r8 x).ok:=⟨gQ 6 (by decide) (by decide),cD,cD,gQ 1 (by decide) (by decide),gQ 1 (by decide) (by decide),rfl,h,by simp [r8,bA.zero]⟩
def g15 (a b:List UInt8):StF:=⟨s15 a b,[u5M],[],[]⟩
theorem IE (a b:List UInt8):uc (f15 a b) = zR:=rfl
theorem Lr (a b:List UInt8):mC (c15 a b) (f15 a b) zR = ([],0):=rfl
theorem Lq (a b:List UInt8):mC (c15 a b) (f15 a b) JQ = ([],90):=rfl
theorem Ln (a b:List UInt8):mC (c15 a b) (g15 a b) zR = ([oy u5M],0):=rfl
theorem La:∃ x:List UInt8,fH h0 0 = (x,0) /\ x.length = 32 /\ x ≠ h0:=by
 have hl:=kc mL 0
 have e:fH h0 0 = (kf (pl 0) 48 h0,0):=by
  unfold fH
  rw [show okN 0 = true from by decide,cond_true]
 rw [e] at hl
 refine ⟨_,e,hl,fun h=>?_⟩
 have hp:pl 0 = 2 ^ 48 - 1:=by decide
 have hz:h0 = jD:=by decide
 have:=JU
 rw [<- hp,<- hz,h] at this
 exact absurd this (by decide)
theorem HZ {a b x y:List UInt8} (h:fH h0 0 = (x,0)):lW (c15 a b) (r8 y) = decide (x = y):=by
 unfold lW
 rw [if_pos (show (0:Int) < (r8 y).next from (by decide:(0:Int) < 1))]
 have e:(r8 y).next - 1 = 0:=rfl
 rw [e,show (c15 a b).seed = h0 from rfl,h,decide_eq_true (show (r8 y).next ≤ 281474976710655 from (by decide:(1:Int) ≤ 281474976710655)),Bool.true_and,decide_eq_true (show (0:Int) = 0 from rfl),Bool.true_and]
 rfl
theorem Lp {a b x:List UInt8} (h:fH h0 0 = (x,0)) (hx:x ≠ h0):mC (c15 a b) (f15 a b) (r8 h0) = ([],100):=by
 have hp:lW (c15 a b) (r8 h0) = false:=by rw [HZ h,decide_eq_false hx]
 have hj:lY (c15 a b) (f15 a b) (r8 h0) = 100:=by
  unfold lY
  rw [if_neg (show ¬ (r8 h0).kind ≠ 6 from fun hh=>hh rfl),if_pos hp]
 unfold mC
 rw [hj,if_pos (by decide)]
theorem Lo {a b x:List UInt8} (h:fH h0 0 = (x,0)):mC (c15 a b) (f15 a b) (r8 x) = ([],180):=by
 have hp:lW (c15 a b) (r8 x) = true:=by rw [HZ h,decide_eq_true rfl]
 have hj:lY (c15 a b) (f15 a b) (r8 x) = 180:=by
  unfold lY
  rw [if_neg (show ¬ (r8 x).kind ≠ 6 from fun hh=>hh rfl),if_neg (by rw [hp]; decide),if_pos (show (f15 a b).s.loc < (r8 x).next from (by decide:(0:Int) < 1))]
 unfold mC
 rw [hj,if_pos (by decide)]
section
variable {F0:List AId} {G0 G:ah} {ps:List LP} {Q:ag -> ah -> Prop}
theorem He {x:List UInt8} (h:x.length = 32):bk T aG [(0,.int .i64 6),(3,.int .i64 1),(4,.int .i64 1),(6,.agg (x.map u8v))] = some (r8 x).av :=
 n5 (fun p hp=>by
  simp only [List.mem_cons,List.not_mem_nil,or_false] at hp
  rcases hp with rfl | rfl | rfl | rfl
  ·rfl
  ·rfl
  ·rfl
  ·exact mK h) rfl
theorem cH.use {c:CfM} (hc:c.ok) (hQ:∀ G',Ch [] G [] G' -> Q (.tuple [(nb c).1.av .nilSlice .nilSlice .nilSlice,.int .i64 (nb c).2]) G'):al P cH.n [c.av] G Q:=by
 refine cH.sound ?_
 unfold cH.S
 rw [F6]
 have hok:=vL hc
 intro i1 f1
 have s1:=(Sp.nil G).row f1 c.av
 intro i3 f3
 have s3:=s1.row f3 (StM.zero.av .nilSlice .nilSlice .nilSlice)
 revert s3
 generalize ah.upd _ i3 _ = G4
 intro s3
 have hg:=ar.own (i:=1) s3 rfl
 intro J35
 have bad:nc c -> J35 (.bool true) G4:=by
  intro hb
  unfold nb at hQ
  rw [if_pos hb] at hQ
  simp -zeta only [J35,aX]
  refine ae (v:=StM.zero.av .nilSlice .nilSlice .nilSlice) rfl ?_
  refine St.st (i:=0) s3 rfl StM.bD lv0 StM.bD lv0 fun G23 s23=>?_
  refine ae (St.ld (ar.own (i:=0) s23 rfl) StM.bD lv0) ?_
  exact hQ _ s23.ch
 have kA:¬ nc c -> J35 (.bool false) G4:=by
  intro hb
  have h2:right c.cap = true:=by
   have h1:¬ right c.cap = false:=fun hh=>hb (.inr (.inr (.inr (.inl hh))))
   simpa using h1
  have h3:=kR.1 h2
  have h4:¬ c.ours < 0:=fun hh=>hb (.inr (.inr (.inr (.inr (.inl hh)))))
  have h5:¬ c.cap < c.ours:=fun hh=>hb (.inr (.inr (.inr (.inr (.inr hh)))))
  unfold nb at hQ hok
  rw [if_neg hb] at hQ hok
  simp -zeta only [J35,aM]
  refine ae (Cf.m8 hg hc) ?_
  refine ae (Cf.nI hg hc) ?_
  refine ae (Cf.gG hg hc) ?_
  refine ae (Cf.nI hg hc) ?_
  refine ae (Cf.gG hg hc) ?_
  rw [bS,i64_in (by omega) (by omega),aa]
  refine ae (Cf.It hg hc) ?_
  refine ae (Dq hc.ptsA hc.ptsB) ?_
  refine St.st (i:=0) s3 rfl StM.bD lv0 hok lv0 fun G33 s33=>?_
  refine ae (St.ld (ar.own (i:=0) s33 rfl) hok lv0) ?_
  exact hQ _ s33.ch
 refine ae (Cf.m8 hg hc) ?_
 rw [aH,aa,aE]
 refine ⟨fun h=>bad (.inl h),fun h1=>?_⟩
 refine ae (Cf.m8 hg hc) ?_
 rw [de,aa,aE]
 refine ⟨fun h=>bad (.inr (.inl h)),fun h2=>?_⟩
 refine ae (Cf.nI hg hc) ?_
 rw [aH,aa,aE]
 refine ⟨fun h=>bad (.inr (.inr (.inl h))),fun h3=>?_⟩
 refine ae (Cf.nI hg hc) ?_
 rw [de,aa,aE]
 have hr:right c.cap = decide (c.cap ≤ 1152921504606846976):=by
  cases hh:right c.cap with
  | true=>rw [decide_eq_true (kR.1 hh).2]
  | false=>
   by_cases h:c.cap ≤ 1152921504606846976
   ·rw [kR.2 ⟨by omega,h⟩] at hh; cases hh
   ·rw [decide_eq_false h]
 refine ⟨fun h=>bad (.inr (.inr (.inr (.inl (by rw [hr,decide_eq_false (by omega)]))))),fun h4=>?_⟩
 have h4:right c.cap = true:=by rw [hr,decide_eq_true (by omega)]
 refine ae (Cf.gG hg hc) ?_
 rw [aH,aa,aE]
 refine ⟨fun h=>bad (.inr (.inr (.inr (.inr (.inl h))))),fun h5=>?_⟩
 refine ae (Cf.gG hg hc) ?_
 refine ae (Cf.nI hg hc) ?_
 rw [de,aa]
 by_cases h6:c.cap < c.ours
 ·rw [decide_eq_true h6]
  exact bad (.inr (.inr (.inr (.inr (.inr h6)))))
 ·rw [decide_eq_false h6]
  exact kA (by rintro (h | h | h | h | h | h); exact h1 h; exact h2 h; exact h3 h; (rw [h4] at h; cases h); exact h5 h; exact h6 h)
theorem Ih {v:ag} {l:List bA} {j:Nat} {u:bA} (h:fV 70 G v (l.map bA.av)) (hj:l[j]? = some u):∃ a,aL T aR v (.int .i64 (j:Int)) = some a /\ lq T G aG a = some u.av :=
 h.at_ (k:=.i64) (i:=fO) (ie:=fe) (T:=T) (t:=aR) (e:=aG) zc rfl dB (by rw [List.getElem?_map,hj]; rfl) rfl
theorem xQ {v:ag} {l:List bA} (h:fV 70 G v (l.map bA.av)):gF T G aR v = some (.int .i64 (l.length:Nat)):=by
 rw [h.len (i:=fO) zc rfl,List.length_map]
theorem eV.use {v w:ag} {a b:List bA} (ha:fV 70 G v (a.map bA.av)) (hb:fV 70 G w (b.map bA.av)) (oa:∀ m ∈ a,m.ok) (ob:∀ m ∈ b,m.ok) (la:a.length ≤ 1000000000) (lb:b.length ≤ 1000000000)
  (hQ:Q (.bool (decide (a = b))) G):al P eV.n [v,w] G Q:=by
 refine eV.sound ?_
 unfold eV.S
 refine ae (xQ ha) ?_
 refine ae (xQ hb) ?_
 rw [dy,aa,fg]
 refine ⟨fun h1=>?_,fun h1=>?_⟩
 ·rw [decide_eq_false (fun h=>h1 (by rw [h]))] at hQ
  exact hQ
 have hlen:a.length = b.length:=by omega
 intro R hR
 have loop:∀ (n j:Nat),a.length - j = n -> j ≤ a.length -> a.take j = b.take j -> R [v,w,.int .i64 (j:Int)] G:=by
  intro n
  induction n with
  | zero=>
   intro j hn hj he
   refine hR _ _ _ _ ?_
   refine ae (xQ ha) ?_
   rw [aH,aa,aE]
   refine ⟨fun h=>absurd h (by omega),fun _=>?_⟩
   have hjl:j = a.length:=by omega
   rw [hjl,List.take_length,hlen,List.take_length] at he
   rw [decide_eq_true he] at hQ
   exact hQ
  | succ n ih=>
   intro j hn hj he
   obtain ⟨x,hx⟩:∃ x,a[j]? = some x:=⟨_,List.getElem?_eq_getElem (by omega)⟩
   obtain ⟨y,hy⟩:∃ y,b[j]? = some y:=⟨_,List.getElem?_eq_getElem (by omega)⟩
   refine hR _ _ _ _ ?_
   refine ae (xQ ha) ?_
   rw [aH,aa,aE]
   refine ⟨fun _=>?_,fun h=>absurd (by omega) h⟩
   obtain ⟨p,p1,p2⟩:=Ih ha hx
   obtain ⟨q,q1,q2⟩:=Ih hb hy
   refine ae p1 ?_
   refine ae p2 ?_
   refine ae q1 ?_
   refine ae q2 ?_
   rw [F9 (oa x (List.mem_of_getElem? hx)) (ob y (List.mem_of_getElem? hy)),aa,fg]
   refine ⟨fun h2=>?_,fun h2=>?_⟩
   ·rw [decide_eq_false (fun h=>h2 (by rw [h,hy] at hx; exact (Option.some.inj hx).symm))] at hQ
    exact hQ
   ·rw [wi,i64_in (by omega) (by omega),aa]
    refine ih (j + 1) (by omega) (by omega) ?_
    rw [List.take_add_one,List.take_add_one,he,hx,hy,h2]
 exact loop a.length 0 rfl (by omega) rfl
theorem xd.use {v w:ag} {a b:List aK} (ha:fV 36 G v (a.map aK.av)) (hb:fV 36 G w (b.map aK.av)) (oa:∀ m ∈ a,m.ok) (ob:∀ m ∈ b,m.ok) (la:a.length ≤ 1000000000) (lb:b.length ≤ 1000000000)
  (hQ:Q (.bool (decide (a = b))) G):al P xd.n [v,w] G Q:=by
 refine xd.sound ?_
 unfold xd.S
 refine ae (fy ha) ?_
 refine ae (fy hb) ?_
 rw [dy,aa,fg]
 refine ⟨fun h1=>?_,fun h1=>?_⟩
 ·rw [decide_eq_false (fun h=>h1 (by rw [h]))] at hQ
  exact hQ
 have hlen:a.length = b.length:=by omega
 intro R hR
 have loop:∀ (n j:Nat),a.length - j = n -> j ≤ a.length -> a.take j = b.take j -> R [v,w,.int .i64 (j:Int)] G:=by
  intro n
  induction n with
  | zero=>
   intro j hn hj he
   refine hR _ _ _ _ ?_
   refine ae (fy ha) ?_
   rw [aH,aa,aE]
   refine ⟨fun h=>absurd h (by omega),fun _=>?_⟩
   have hjl:j = a.length:=by omega
   rw [hjl,List.take_length,hlen,List.take_length] at he
   rw [decide_eq_true he] at hQ
   exact hQ
  | succ n ih=>
   intro j hn hj he
   obtain ⟨x,hx⟩:∃ x,a[j]? = some x:=⟨_,List.getElem?_eq_getElem (by omega)⟩
   obtain ⟨y,hy⟩:∃ y,b[j]? = some y:=⟨_,List.getElem?_eq_getElem (by omega)⟩
   refine hR _ _ _ _ ?_
   refine ae (fy ha) ?_
   rw [aH,aa,aE]
   refine ⟨fun _=>?_,fun h=>absurd (by omega) h⟩
   obtain ⟨p,p1,p2⟩:=oF ha hx
   obtain ⟨q,q1,q2⟩:=oF hb hy
   refine ae p1 ?_
   refine ae p2 ?_
   refine ae q1 ?_
   refine ae q2 ?_
   rw [MA (oa x (List.mem_of_getElem? hx)) (ob y (List.mem_of_getElem? hy)),aa,fg]
   refine ⟨fun h2=>?_,fun h2=>?_⟩
   ·rw [decide_eq_false (fun h=>h2 (by rw [h,hy] at hx; exact (Option.some.inj hx).symm))] at hQ
    exact hQ
   ·rw [wi,i64_in (by omega) (by omega),aa]
    refine ih (j + 1) (by omega) (by omega) ?_
    rw [List.take_add_one,List.take_add_one,he,hx,hy,h2]
 exact loop a.length 0 rfl (by omega) rfl
theorem Ml (a b:Int):aw T .eql bG (bR a b) (bR a b) = some (.bool true):=by
 rw [Ft (t:=bG)]; simp
theorem MN {a b:List UInt8} (ha:a.length = 32) (hb:b.length = 32):aw T .eql cL (mj a b) (mj a b) = some (.bool true):=by
 have e1:∀ {x:List UInt8},x.length = 32 -> mN T 8 aj (.agg (x.map u8v)) (.agg (x.map u8v)) = some true:=fun {x} hx=>by
  rw [yf cd rfl dz,BT dz rfl rfl 6 32 x x hx hx]; simp
 have f1:fa fE (.agg (a.map u8v)) = true:=gu ha
 have f2:fa fE (.agg (b.map u8v)) = true:=gu hb
 simp only [aw,mj,yf lg rfl cd,eqA,f1,f2,e1 ha,e1 hb,Bool.and_self,if_true]
theorem xe.same {f:StF} {vo vp vh wo wp wh:ag} (h1:kW G f vo vp vh) (h2:kW G f wo wp wh) (hQ:∀ G',Ch [] G [] G' -> Q (.bool true) G'):al P xe.n [f.s.av vo vp vh,f.s.av wo wp wh] G Q:=by
 have ho:=h1.ok
 have hl:=h1.lv
 have hm:=h2.lv
 have hlh:=h1.lh
 have hlo:=h1.lo
 have hlp:=h1.lp
 refine xe.sound ?_
 unfold xe.S
 intro i1 f1
 have s1:=(Sp.nil G).row f1 (f.s.av vo vp vh)
 intro i3 f3
 have s3:=s1.row f3 (f.s.av wo wp wh)
 revert s3
 generalize ah.upd _ i3 _ = G4
 intro s3
 have k1:=h1.mv s3.ch
 have k2:=h2.mv s3.ch
 have hg:=ar.own (i:=1) s3 rfl
 have hk:=ar.own (i:=0) s3 rfl
 have ez:∀ {t:TypeId} (n:Int),aw T .eql t (.int .i64 n) (.int .i64 n) = some (.bool true):=fun n=>ez0
 have eb:∀ {t:TypeId} (b:Bool),aw T .eql ey (.bool b) (.bool b) = some (.bool true):=fun b=>by cases b <;> rfl
 refine ae (St.r6 hg ho hl) ?_
 refine ae (sF k1.h.jf) ?_
 refine ae (St.r6 hk ho hm) ?_
 refine ae (sF k2.h.jf) ?_
 rw [dy,aa,decide_eq_true rfl,Bool.not_true,aM]
 intro R hR
 have loop:∀ (n j:Nat),f.h.length - j = n -> j ≤ f.h.length -> R [.ptr i1 [] 0,.ptr i3 [] 0,.int .i64 (j:Int)] G4:=by
  intro n
  induction n with
  | zero=>
   intro j hn hj
   refine hR _ _ _ _ ?_
   refine ae (v:=.ptr i1 [15] 112) rfl ?_
   refine ae (St.r6 hg ho hl) ?_
   refine ae (sF k1.h.jf) ?_
   rw [aH,aa,aE]
   refine ⟨fun h=>absurd h (by omega),fun _=>?_⟩
   refine ae (v:=.ptr i1 [0] 0) rfl ?_
   refine ae (St.m8 hg ho hl) ?_
   refine ae (v:=.ptr i3 [0] 0) rfl ?_
   refine ae (St.m8 hk ho hm) ?_
   refine ae (ez _) ?_
   rw [aX]
   refine ae (v:=.ptr i1 [1] 1) rfl ?_
   refine ae (St.nI hg ho hl) ?_
   refine ae (v:=.ptr i3 [1] 1) rfl ?_
   refine ae (St.nI hk ho hm) ?_
   refine ae (ez _) ?_
   rw [aX]
   refine ae (v:=.ptr i1 [2] 2) rfl ?_
   refine ae (St.FE hg ho hl) ?_
   refine ae (v:=.ptr i3 [2] 2) rfl ?_
   refine ae (St.FE hk ho hm) ?_
   refine ae (ez _) ?_
   rw [aX]
   refine ae (v:=.ptr i1 [3] 3) rfl ?_
   refine ae (St.FD hg ho hl) ?_
   refine ae (v:=.ptr i3 [3] 3) rfl ?_
   refine ae (St.FD hk ho hm) ?_
   refine ae (ez _) ?_
   rw [aX]
   refine ae (v:=.ptr i1 [4] 4) rfl ?_
   refine ae (St.gG hg ho hl) ?_
   refine ae (v:=.ptr i3 [4] 4) rfl ?_
   refine ae (St.gG hk ho hm) ?_
   refine xd.use k1.o.jf k2.o.jf h1.oko h1.oko (by omega) (by omega) ?_
   rw [decide_eq_true rfl,aX]
   refine ae (v:=.ptr i1 [5] 5) rfl ?_
   refine ae (St.iP hg ho hl) ?_
   refine ae (v:=.ptr i3 [5] 5) rfl ?_
   refine ae (St.iP hk ho hm) ?_
   refine xd.use k1.p.jf k2.p.jf h1.okp h1.okp (by omega) (by omega) ?_
   rw [decide_eq_true rfl,aX]
   refine ae (v:=.ptr i1 [6] 6) rfl ?_
   refine ae (St.pq hg ho hl) ?_
   refine ae (v:=.ptr i3 [6] 6) rfl ?_
   refine ae (St.pq hk ho hm) ?_
   refine ae (ez _) ?_
   rw [aX]
   refine ae (v:=.ptr i1 [7] 7) rfl ?_
   refine ae (St.kq hg ho hl) ?_
   refine ae (v:=.ptr i3 [7] 7) rfl ?_
   refine ae (St.kq hk ho hm) ?_
   refine ae (ez _) ?_
   rw [aX]
   refine ae (v:=.ptr i1 [8] 8) rfl ?_
   refine ae (St.mi hg ho hl) ?_
   refine ae (v:=.ptr i3 [8] 8) rfl ?_
   refine ae (St.mi hk ho hm) ?_
   refine ae (ez _) ?_
   rw [aX]
   refine ae (v:=.ptr i1 [9] 9) rfl ?_
   refine ae (St.Lh hg ho hl) ?_
   refine ae (v:=.ptr i3 [9] 9) rfl ?_
   refine ae (St.Lh hk ho hm) ?_
   refine ae (Ml _ _) ?_
   rw [aX]
   refine ae (v:=.ptr i1 [10] 11) rfl ?_
   refine ae (St.BL hg ho hl) ?_
   refine ae (v:=.ptr i3 [10] 11) rfl ?_
   refine ae (St.BL hk ho hm) ?_
   refine ae (Ml _ _) ?_
   rw [aX]
   refine ae (v:=.ptr i1 [11] 13) rfl ?_
   refine ae (St.Mz hg ho hl) ?_
   refine ae (v:=.ptr i3 [11] 13) rfl ?_
   refine ae (St.Mz hk ho hm) ?_
   refine ae (Ml _ _) ?_
   rw [aX]
   refine ae (v:=.ptr i1 [12] 15) rfl ?_
   refine ae (St.GC hg ho hl) ?_
   refine ae (v:=.ptr i3 [12] 15) rfl ?_
   refine ae (St.GC hk ho hm) ?_
   refine ae (eb (t:=ey) _) ?_
   rw [aX]
   refine ae (v:=.ptr i1 [13] 16) rfl ?_
   refine ae (St.It hg ho hl) ?_
   refine ae (v:=.ptr i3 [13] 16) rfl ?_
   refine ae (St.It hk ho hm) ?_
   refine ae (MN ho.ptsA ho.ptsB) ?_
   rw [aX]
   refine ae (v:=.ptr i1 [14] 80) rfl ?_
   refine ae (St.Is hg ho hl) ?_
   refine ae (v:=.ptr i3 [14] 80) rfl ?_
   refine ae (St.Is hk ho hm) ?_
   refine ae (Ax ho.sig ho.sig) ?_
   rw [decide_eq_true rfl,aX]
   refine ae (v:=.ptr i1 [16] 113) rfl ?_
   refine ae (St.GA hg ho hl) ?_
   refine ae (v:=.ptr i3 [16] 113) rfl ?_
   refine ae (St.GA hk ho hm) ?_
   refine ae (ez _) ?_
   rw [aX]
   refine ae (v:=.ptr i1 [17] 114) rfl ?_
   refine ae (St.GB hg ho hl) ?_
   refine ae (v:=.ptr i3 [17] 114) rfl ?_
   refine ae (St.GB hk ho hm) ?_
   refine ae (ez _) ?_
   exact hQ _ s3.ch
  | succ n ih=>
   intro j hn hj
   obtain ⟨u,hu⟩:∃ u,f.h[j]? = some u:=⟨_,List.getElem?_eq_getElem (by omega)⟩
   have huo:=h1.okh u (List.mem_of_getElem? hu)
   refine hR _ _ _ _ ?_
   refine ae (v:=.ptr i1 [15] 112) rfl ?_
   refine ae (St.r6 hg ho hl) ?_
   refine ae (sF k1.h.jf) ?_
   rw [aH,aa,aE]
   refine ⟨fun _=>?_,fun h=>absurd (by omega) h⟩
   refine ae (v:=.ptr i1 [15] 112) rfl ?_
   refine ae (St.r6 hg ho hl) ?_
   obtain ⟨a,a1,a2⟩:=Jy k1.h.jf rfl hu
   obtain ⟨b,b1,b2⟩:=Jy k2.h.jf rfl hu
   refine ae a1 ?_
   refine ae a2 ?_
   refine ae (v:=.ptr i3 [15] 112) rfl ?_
   refine ae (St.r6 hk ho hm) ?_
   refine ae b1 ?_
   refine ae b2 ?_
   rw [ME huo huo,aa,decide_eq_true rfl,Bool.not_true,aM]
   rw [wi,i64_in (by omega) (by omega),aa]
   exact ih (j + 1) (by omega) (by omega)
 exact loop f.h.length 0 rfl (by omega)
theorem KO {a b:List UInt8} {v:ag} (ha:a.length = 32) (hb:b.length = 32) {ps:List LP} {G0 G:ah} {i:Nat} (s:Sp F0 G0 ps G) (hi:ps[i]? = some (bj 36 v ([u5M].map aK.av))):kW G (g15 a b) v .nilSlice .nilSlice :=
 ⟨(f15_in ha hb G).ok,Own.nM (bj.own s hi),iu.nil,iu.nil,by intro u hu; rw [List.mem_singleton.1 hu]; exact Bg,by simp [g15],by simp [g15],by simp [g15],by simp [g15],by simp [g15]⟩
theorem ed.use (hT:Tab G) (hQ:∀ G',Ch [] G [] G' -> Q (.bool true) G'):al P ed.n [] G Q:=by
 refine ed.sound ?_
 unfold ed.S
 refine ae (v:=d15.av) rfl ?_
 refine cu.use ED fun G3 c3=>?_
 have s3:=(Sp.nil G).tmp c3
 obtain ⟨x,hx⟩:∃ z,z = oH h0 0:=⟨_,rfl⟩
 obtain ⟨y,hy⟩:∃ z,z = oH h0 1:=⟨_,rfl⟩
 have lx:x.length = 32:=by rw [hx]; exact kS _ _
 have ly:y.length = 32:=by rw [hy]; exact kS _ _
 have e0:GY d15 = c15 x y:=by rw [hx,hy]; rfl
 obtain ⟨C1,hC1⟩:∃ C,C = GX d15:=⟨_,rfl⟩
 rw [e0,<- hC1]
 have hc:(c15 x y).ok:=by rw [<- e0]; exact BZ ED
 have hS:=f15_in lx ly
 have hso:=(hS G).ok
 refine ae (IW hc (by rw [hC1]; exact BX ED)) ?_
 refine Cf.nw s3 hc fun i5 G7 s7=>?_
 refine ae (Cf.ld (ar.own (i:=0) s7 rfl) hc) ?_
 refine cH.use hc fun G10 c10=>?_
 have s10:=s7.tmp c10
 rw [HM]
 refine ae (tv0 _ _) ?_
 refine ae (tv1 _ _) ?_
 refine St.nw s10 hso lv0 fun i13 G15 s15=>?_
 refine ae (Cf.pT (ar.own (i:=1) s15 rfl) hc) ?_
 obtain ⟨X,hX,lX,nX⟩:=La
 refine bJ.use mL fun G18 c18=>?_
 have s18:=s15.tmp c18
 rw [show (c15 x y).seed = h0 from rfl]
 rw [hX]
 refine ae (hi0 _) ?_
 refine ae (hi1 _) ?_
 refine mZ s18 lX fun i21 G23 s23=>?_
 refine ae (Cf.ld (ar.own (i:=2) s23 rfl) hc) ?_
 refine ae (St.ld (ar.own (i:=1) s23 rfl) hso lv0) ?_
 refine gz.use (hT.mono s23.ro) (hS _) hc fun G27 c27=>?_
 have s27:=s23.tmp c27
 rw [IE]
 refine Ib s27 sT fun i28 G30 s30=>?_
 have s30:Sp [] G [ar i28 zR.av,ar i21 (.agg (X.map u8v)),ar i13 ((f15 x y).s.av .nilSlice .nilSlice .nilSlice),ar i5 (c15 x y).av] G30:=s30
 have ans:∀ {ps:List LP} {G1:ah} {m:bA} {e:Int} {K:ag -> ah -> Prop},Sp [] G ps G1 -> m.ok -> mC (c15 x y) (f15 x y) m = ([],e) -> (∀ v G2,Sp [] G ps G2 -> K (.tuple [v,.int .i64 e]) G2) ->
   al P cW.n [(c15 x y).av,(f15 x y).s.av .nilSlice .nilSlice .nilSlice,m.av] G1 K:=by
  intro ps G1 m e K s hm he hK
  refine cW.use (hS _) hc hm fun w G2 t=>?_
  rw [he]
  exact hK w G2 (s.tmp t.ch)
 refine ae (Cf.ld (ar.own (i:=3) s30 rfl) hc) ?_
 refine ae (St.ld (ar.own (i:=2) s30 rfl) hso lv0) ?_
 refine ae (v:=zR.av) rfl ?_
 refine ans s30 sT (Lr x y) fun v34 G35 s35=>?_
 refine ae (tv0 _ _) ?_
 refine ae (tv1 _ _) ?_
 refine ae (Cf.ld (ar.own (i:=3) s35 rfl) hc) ?_
 refine ae (St.ld (ar.own (i:=2) s35 rfl) hso lv0) ?_
 refine ae (v:=JQ.av) rfl ?_
 refine ans s35 JP (Lq x y) fun v41 G42 s42=>?_
 refine ae (tv0 _ _) ?_
 refine ae (tv1 _ _) ?_
 refine ae (Cf.ld (ar.own (i:=3) s42 rfl) hc) ?_
 refine ae (St.ld (ar.own (i:=2) s42 rfl) hso lv0) ?_
 refine ae (v:=(r8 h0).av) rfl ?_
 refine ans s42 (FG mL) (Lp hX nX) fun v48 G49 s49=>?_
 refine ae (tv0 _ _) ?_
 refine ae (tv1 _ _) ?_
 refine ae (Cf.ld (ar.own (i:=3) s49 rfl) hc) ?_
 refine ae (St.ld (ar.own (i:=2) s49 rfl) hso lv0) ?_
 refine ae (bE lX (ar.own (i:=1) s49 rfl)) ?_
 refine ae (He lX) ?_
 refine ans s49 (FG lX) (Lo hX) fun v56 G57 s57=>?_
 refine ae (tv0 _ _) ?_
 refine ae (tv1 _ _) ?_
 refine ae (v:=u5M.av) rfl ?_
 refine B4 (T:=T) (ts:=ak) (e:=aI) (si:=fl) (ie:=dA) (n:=1) (l:=[u5M].map aK.av) cn rfl fC rfl rfl rfl rfl (by simp [aK.sz Bg,dA]) (by decide) s57 fun v61 G62 s62=>?_
 have l61:bz v61:=(bj.own (i:=0) s62 rfl).leaf
 refine St.sE (i:=3) s62 rfl hso lv0 l61 fun G63 s63=>?_
 have s63:Sp [] G [bj 36 v61 ([u5M].map aK.av),ar i28 zR.av,ar i21 (.agg (X.map u8v)),ar i13 ((f15 x y).s.av v61 .nilSlice .nilSlice),ar i5 (c15 x y).av] G63:=s63
 refine ae (Cf.ld (ar.own (i:=4) s63 rfl) hc) ?_
 refine ae (St.ld (ar.own (i:=3) s63 rfl) hso ⟨l61,bz.nil,bz.nil⟩) ?_
 refine ae (v:=zR.av) rfl ?_
 refine cW.use (f:=g15 x y) (KO lx ly s63 (i:=0) rfl) hc sT fun w G68 t68=>?_
 rw [Ln] at t68 ⊢
 obtain ⟨F68,o68,c68⟩:=t68.out
 have s68:=s63.new o68 c68
 refine ae (tv0 _ _) ?_
 refine ae (tv1 _ _) ?_
 refine ae (gL (i:=2) s68 rfl sT).2.2.2.2.2.2.2.2 ?_
 refine ae (v:=zR.av) rfl ?_
 refine ae (Ga sT sT) ?_
 rw [decide_eq_true rfl,aX]
 have e3:∀ n:Int,aw T .eql bq (.int .i64 n) (.int .i64 n) = some (.bool true):=fun n=>ez0
 refine ae (e3 0) ?_
 rw [aX]
 refine ae (e3 90) ?_
 rw [aX]
 refine ae (e3 100) ?_
 rw [aX]
 refine ae (e3 180) ?_
 rw [aX]
 refine ae (e3 0) ?_
 rw [aX]
 refine ae (v:=(oy u5M).av) rfl ?_
 refine B4 (T:=T) (ts:=aR) (e:=aG) (si:=fO) (ie:=fe) (n:=1) (l:=[oy u5M].map bA.av) zc rfl dB rfl rfl rfl rfl (by simp [bA.sz (nH Bg),fe]) (by decide) s68 fun v80 G81 s81=>?_
 have ok1:∀ m ∈ [oy u5M],m.ok:=by intro m hm; rw [List.mem_singleton.1 hm]; exact nH Bg
 refine eV.use (bj.own (i:=1) s81 rfl).is (bj.own (i:=0) s81 rfl).is ok1 ok1 (by simp) (by simp) ?_
 rw [decide_eq_true rfl]
 exact hQ _ s81.ch
end
end Go.Esc.M
namespace Go.Esc.M
open Go Go.Esc
def nF (l:List aK) (id k:Int):Bool:=l.any fun u=>decide (u.id = id) && (!decide (u.kind = 1) && (decide (k = 0) || decide (u.kind = k)))
def n0 (l others:List aK):Prop:=∀ (j:Nat) (u:aK),l[j]? = some u -> jW (l.take j) others u = 0
def z6 (l:List aK):Prop:=∀ (i j:Nat) (u w:aK),l[i]? = some u -> l[j]? = some w -> u.kind ≠ 1 -> w.kind ≠ 1 -> u.id = w.id -> i = j
theorem Mn {rm:Bool} {id:Int} {X Y:List aK} (h:(fW rm id X).isSome = true):fW rm id (X ++ Y) = fW rm id X:=by
 unfold fW at h ⊢
 rw [List.find?_append]
 cases hx:List.find? (vY rm id) X with
 | none=>rw [hx] at h; cases h
 | some a=>rfl
theorem tY {A X Y:List aK} {u:aK} (h:jW A X u = 0):jW A (X ++ Y) u = 0:=by
 unfold jW at h ⊢
 split at h
 ·cases h
 rename_i h1
 rw [if_neg h1]
 split at h
 ·cases h
 rename_i h2
 rw [if_neg h2]
 split at h
 ·rename_i h3
  rw [if_pos h3]
  exact h
 rename_i h3
 rw [if_neg h3]
 split at h
 ·cases h
 rename_i h4
 have h4':(fW false u.id X).isSome = true:=(Bool.not_eq_false _).mp h4
 rw [Mn h4',if_neg h4]
 exact h
theorem Eu {l X Y:List aK} (h:n0 l X):n0 l (X ++ Y):=fun j u hj=>tY (h j u hj)
theorem Az {l m:List aK} {a b:Nat} (h:n0 l (m.take a)) (hab:a ≤ b):n0 l (m.take b):=by
 rw [<- qS hab]
 exact Eu h
theorem y9 {l X:List aK} {u:aK} (h:n0 l X) (hu:jW l X u = 0):n0 (l ++ [u]) X:=by
 intro j w hj
 by_cases hl:j < l.length
 ·rw [List.getElem?_append_left hl] at hj
  rw [List.take_append_of_le_length (by omega)]
  exact h j w hj
 ·have hb:=(List.getElem?_eq_some_iff.1 hj).1
  rw [List.length_append,List.length_singleton] at hb
  have e:j = l.length:=by omega
  subst e
  rw [List.getElem?_append_right (by omega)] at hj
  simp at hj
  subst hj
  rw [List.take_append_of_le_length (Nat.le_refl _),List.take_length]
  exact hu
section
variable {l X:List aK} (h:n0 l X)
include h
theorem r9:∀ u ∈ l,dC u = true:=by
 intro u hu
 obtain ⟨j,hj⟩:=List.getElem?_of_mem hu
 exact (mh (h j u hj)).1
theorem Ay:l.length ≤ 2048:=by
 refine Classical.byContradiction fun hn=>?_
 obtain ⟨u,hu⟩:∃ u,l[2048]? = some u:=⟨_,List.getElem?_eq_getElem (by omega)⟩
 have:=h 2048 u hu
 unfold jW at this
 rw [if_pos (by rw [List.length_take]; omega)] at this
 cases this
theorem sW:qy l:=by
 intro j u hj hk
 exact (mh (h j u hj)).2.1 hk
theorem za:∀ u ∈ l,u.kind ≠ 1 -> ∃ w ∈ X,w.kind = 1 /\ w.id = u.id:=by
 intro u hu hk
 obtain ⟨j,hj⟩:=List.getElem?_of_mem hu
 obtain ⟨b,_,h2,h3,h4⟩:=rl ((mh (h j u hj)).2.2 hk).1
 exact ⟨b,h2,h3,h4⟩
theorem rj:z6 l:=by
 have key:∀ {i j:Nat} {u w:aK},l[i]? = some u -> l[j]? = some w -> u.kind ≠ 1 -> w.kind ≠ 1 -> u.id = w.id -> i < j -> False:=by
  intro i j u w hi hj hu hw he hlt
  have h1:=((mh (h j w hj)).2.2 hw).2.1
  have hv:∀ a ∈ l.take j,dC a = true:=fun a ha=>r9 h a (List.mem_of_mem_take ha)
  refine zj hv h1 u ?_ hu he
  refine List.mem_of_getElem? (i:=i) ?_
  rw [List.getElem?_take_of_lt hlt]
  exact hi
 intro i j u w hi hj hu hw he
 rcases Nat.lt_trichotomy i j with h1 | h1 | h1
 ·exact (key hi hj hu hw he h1).elim
 ·exact h1
 ·exact (key hj hi hw hu he.symm h1).elim
end
theorem su {l:List aK} (h:z6 l) (n:Nat):z6 (l.take n):=by
 intro i j u w hi hj
 have li:=(List.getElem?_eq_some_iff.1 hi).1
 have lj:=(List.getElem?_eq_some_iff.1 hj).1
 rw [List.length_take] at li lj
 rw [List.getElem?_take_of_lt (by omega)] at hi hj
 exact h i j u w hi hj
theorem sJ {id:Int}:∀ {l:List aK},je id l ≠ 0 -> ∃ u ∈ l,u.kind ≠ 1 /\ u.id = id /\ u.kind = je id l
 | [],h=>absurd rfl h
 | u :: l,h=>by
  by_cases hr:lr id u = true
  ·have e:je id (u :: l) = u.kind:=if_pos hr
   simp only [lr,Bool.and_eq_true,decide_eq_true_eq] at hr
   exact ⟨u,by simp,hr.1,hr.2.1,e.symm⟩
  ·have e:je id (u :: l) = je id l:=if_neg hr
   rw [e] at h ⊢
   obtain ⟨w,h1,h2⟩:=sJ h
   exact ⟨w,by simp [h1],h2⟩
theorem Fp {id:Int} {l:List aK} (hv:∀ u ∈ l,dC u = true) {u:aK} (hu:u ∈ l) (hk:u.kind ≠ 1) (hi:u.id = id):je id l ≠ 0:=by
 induction l with
 | nil=>cases hu
 | cons w l ih=>
  by_cases hr:lr id w = true
  ·have e:je id (w :: l) = w.kind:=if_pos hr
   rw [e]; exact rh hr
  ·have e:je id (w :: l) = je id l:=if_neg hr
   rw [e]
   rcases List.mem_cons.1 hu with rfl | hu
   ·exact absurd (by simp [lr,hk,hi,hv u (by simp)]) hr
   ·exact ih (fun x hx=>hv x (by simp [hx])) hu
theorem sI {l:List aK} {id k:Int}:nF l id k = true ↔ ∃ u ∈ l,u.id = id /\ u.kind ≠ 1 /\ (k = 0 \/ u.kind = k):=by
 unfold nF
 rw [List.any_eq_true]
 simp only [Bool.and_eq_true,Bool.or_eq_true,decide_eq_true_eq,Bool.not_eq_true',decide_eq_false_iff_not]
theorem Lc {l:List aK} (hv:∀ u ∈ l,dC u = true) (id:Int):nF l id 0 = !decide (je id l = 0):=by
 by_cases h:je id l = 0
 ·rw [decide_eq_true h,Bool.not_true,Bool.eq_false_iff]
  intro hr
  obtain ⟨u,h1,h2,h3,_⟩:=sI.1 hr
  exact Fp hv h1 h3 h2 h
 ·rw [decide_eq_false h,Bool.not_false]
  obtain ⟨u,h1,h2,h3,_⟩:=sJ h
  exact sI.2 ⟨u,h1,h3,h2,.inl rfl⟩
theorem Ke {l:List aK} (hv:∀ u ∈ l,dC u = true) (hu:z6 l) (id:Int) {k:Int} (hk:k ≠ 0):nF l id k = decide (je id l = k):=by
 by_cases h:je id l = k
 ·rw [decide_eq_true h]
  obtain ⟨u,h1,h2,h3,h4⟩:=sJ (id:=id) (l:=l) (by rw [h]; exact hk)
  exact sI.2 ⟨u,h1,h3,h2,.inr (h4.trans h)⟩
 ·rw [decide_eq_false h,Bool.eq_false_iff]
  intro hr
  obtain ⟨u,h1,h2,h3,h4⟩:=sI.1 hr
  have h5:u.kind = k:=h4.resolve_left hk
  obtain ⟨w,k1,k2,k3,k4⟩:=sJ (Fp hv h1 h3 h2)
  obtain ⟨i,hi⟩:=List.getElem?_of_mem h1
  obtain ⟨j,hj⟩:=List.getElem?_of_mem k1
  have:=hu i j u w hi hj h3 k2 (h2.trans k3.symm)
  subst this
  rw [hi] at hj
  injection hj with hj
  subst hj
  exact h (k4.symm.trans h5)
theorem yE {l:List aK} (hv:∀ u ∈ l,dC u = true) (id:Int):(fW true id l).isSome = nF l id 0:=by
 rw [<- Ev hv]
 unfold Kl nF
 congr 1
 funext u
 cases decide (u.id = id) <;> cases decide (u.kind = 1) <;> rfl
def Bp (r:List aK) (u:aK):Bool:=decide (u.kind = 1) && !nF r u.id 3
def Fu (r:List aK) (u:aK):Bool:=decide (u.kind = 1) && nF r u.id 2
def BC (r:List aK) (u:aK):Bool:=decide (u.kind = 1) && !nF r u.id 0
theorem Fm {r:List aK} (hv:∀ u ∈ r,dC u = true) (hu:z6 r):Bp r = stays r:=by
 funext u
 unfold Bp stays
 rw [Ke hv hu _ (by decide)]
theorem H5 {r:List aK} (hv:∀ u ∈ r,dC u = true) (hu:z6 r):Fu r = jF r:=by
 funext u
 unfold Fu jF
 rw [Ke hv hu _ (by decide)]
def rP (base:Int) (own other:List aK) (fo fp:Int):Int:=base - gm (Bp (dP other fp)) own + gm (Fu (dP own fo)) other
def tB (own other:List aK):Nat:=(own.filter (BC other)).length
theorem yQ {own other:List aK} (hv:∀ u ∈ own,dC u = true) (hv2:∀ u ∈ other,dC u = true) (fp:Int):tB own (dP other fp) = kp own other fp:=by
 unfold tB kp qE
 rw [List.length_map]
 congr 1
 refine List.filter_congr fun u hu=>?_
 rw [hv u hu,Bool.true_and]
 unfold BC
 rw [Lc (l:=dP other fp) (fun x hx=>hv2 x (List.mem_of_mem_take hx)),Bool.not_not]
structure iC (f:StF):Prop where
 ok:f.s.ok
 oko:∀ u ∈ f.o,u.ok
 okp:∀ u ∈ f.p,u.ok
 okh:∀ x ∈ f.h,x.ok
 lh:f.h.length ≤ 49
 a0:0 ≤ f.s.atA
 a1:f.s.atA ≤ f.s.heldA
 a2:f.s.heldA ≤ f.s.sgnA
 a3:f.s.sgnA ≤ f.o.length
 b0:0 ≤ f.s.heldB
 b1:f.s.heldB ≤ f.s.sgnB
 b2:f.s.sgnB ≤ f.s.atB
 b3:f.s.atB ≤ f.p.length
 go:n0 f.o (f.p.take f.s.heldB.toNat)
 gp:n0 f.p (f.o.take f.s.atA.toNat)
 so:0 ≤ SB f.s.bo f.o f.p f.s.atA.toNat f.s.heldB.toNat
 sp:0 ≤ SB f.s.bp f.p f.o f.s.heldB.toNat f.s.atA.toNat
 no:kp f.o f.p f.s.heldB ≤ 483
 np:kp f.p f.o f.s.atA ≤ 483
 bo:0 ≤ f.s.bo
 bp:0 ≤ f.s.bp
 cap:f.s.bo + f.s.bp = f.s.cap
 capm:f.s.cap ≤ 1152921504606846976
 side:f.s.side = 0 \/ f.s.side = 1
 loc0:0 ≤ f.s.loc
 loc1:f.s.loc ≤ 281474976710654
 ack0:0 ≤ f.s.ack
 rem:f.s.rem = f.s.ack \/ f.s.rem = f.s.ack + 1
 rem1:f.s.rem ≤ 281474976710654
section
variable {f:StF} (I:iC f)
include I
theorem iC.fA:nK f.s = f.s.atA:=by unfold nK; have:=I.a1; split <;> omega
theorem iC.fB:ng f.s = f.s.heldB:=by unfold ng; have:=I.b1; have:=I.b2; split <;> omega
theorem iC.vo:∀ u ∈ f.o,dC u = true:=r9 I.go
theorem iC.vp:∀ u ∈ f.p,dC u = true:=r9 I.gp
theorem iC.lo:f.o.length ≤ 2048:=Ay I.go
theorem iC.lp:f.p.length ≤ 2048:=Ay I.gp
theorem iC.book:nQ f.s.bo f.s.bp f.o f.p f.s.atA.toNat f.s.heldB.toNat :=
 ⟨I.oko,I.okp,I.vo,I.vp,by have:=I.a1; have:=I.a2; have:=I.a3; have:=I.a0; omega,by have:=I.b0; have:=I.b1; have:=I.b2; have:=I.b3; omega,I.lo,I.lp,sW I.go,sW I.gp,za I.go,za I.gp,I.so,I.sp,I.bo,I.bp,by have:=I.cap; have:=I.capm; omega⟩
theorem iC.vO:vP f = SB f.s.bo f.o f.p f.s.atA.toNat f.s.heldB.toNat /\ rP f.s.bo f.o f.p (nK f.s) (ng f.s) = SB f.s.bo f.o f.p f.s.atA.toNat f.s.heldB.toNat:=by
 have hb:=I.book
 have h1:=FX hb
 have hA:((f.s.atA.toNat:Nat):Int) = f.s.atA:=Int.toNat_of_nonneg I.a0
 have hB:((f.s.heldB.toNat:Nat):Int) = f.s.heldB:=Int.toNat_of_nonneg I.b0
 refine ⟨?_,?_⟩
 ·unfold vP
  rw [I.fA,I.fB]
  have:=CI (base:=f.s.bo) (mine:=f.o) (others:=f.p) (fm:=f.s.atA.toNat) (fo:=f.s.heldB.toNat) I.vo I.vp I.bo (by have:=I.cap; have:=I.capm; have:=I.bp; omega)
  rw [hA,hB] at this
  rw [this]
  have h0:=I.so
  have:=I.cap; have:=I.capm
  unfold Dm
  split
  ·omega
  ·split <;> omega
 ·unfold rP SB dP
  rw [I.fA,I.fB,Fm (fun u hu=>I.vp u (List.mem_of_mem_take hu)) (su (rj I.gp) _),H5 (fun u hu=>I.vo u (List.mem_of_mem_take hu)) (su (rj I.go) _)]
theorem iC.vM:vN f = SB f.s.bp f.p f.o f.s.heldB.toNat f.s.atA.toNat /\ rP f.s.bp f.p f.o (ng f.s) (nK f.s) = SB f.s.bp f.p f.o f.s.heldB.toNat f.s.atA.toNat:=by
 have hb:=I.book.swap
 have h1:=FX hb
 have hA:((f.s.atA.toNat:Nat):Int) = f.s.atA:=Int.toNat_of_nonneg I.a0
 have hB:((f.s.heldB.toNat:Nat):Int) = f.s.heldB:=Int.toNat_of_nonneg I.b0
 refine ⟨?_,?_⟩
 ·unfold vN
  rw [I.fA,I.fB]
  have:=CI (base:=f.s.bp) (mine:=f.p) (others:=f.o) (fm:=f.s.heldB.toNat) (fo:=f.s.atA.toNat) I.vp I.vo I.bp (by have:=I.cap; have:=I.capm; have:=I.bo; omega)
  rw [hA,hB] at this
  rw [this]
  have h0:=I.sp
  have:=I.cap; have:=I.capm
  unfold Dm
  split
  ·omega
  ·split <;> omega
 ·unfold rP SB dP
  rw [I.fA,I.fB,Fm (fun u hu=>I.vo u (List.mem_of_mem_take hu)) (su (rj I.go) _),H5 (fun u hu=>I.vp u (List.mem_of_mem_take hu)) (su (rj I.gp) _)]
theorem iC.D7:0 ≤ vP f /\ vP f ≤ 1152921504606846976:=by
 have h1:=FX I.book
 have h2:=I.so
 have:=I.cap; have:=I.capm
 rw [I.vO.1]; omega
theorem iC.D6:0 ≤ vN f /\ vN f ≤ 1152921504606846976:=by
 have h1:=FX I.book.swap
 have h2:=I.sp
 have:=I.cap; have:=I.capm
 rw [I.vM.1]; omega
end
end Go.Esc.M
