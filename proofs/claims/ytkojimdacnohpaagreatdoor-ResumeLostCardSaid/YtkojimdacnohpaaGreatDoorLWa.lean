import Derived.Test.YtkojimdacnohpaaGreatDoorLNc
import Derived.Test.YtkojimdacnohpaaGreatDoorLUe
import Derived.Test.YtkojimdacnohpaaGreatDoorLSd
import Derived.Test.YtkojimdacnohpaaGreatDoorLFb
import Derived.Test.YtkojimdacnohpaaGreatDoorLMo
import Derived.Test.YtkojimdacnohpaaGreatDoorLSe
import Derived.Test.YtkojimdacnohpaaGreatDoorLFv
set_option maxHeartbeats 8000000
set_option linter.unusedSimpArgs false
set_option linter.unusedVariables false
set_option maxRecDepth 20000
namespace Go.Esc.M
open Go Go.Esc
def stZ:List ah:=StM.zero.cs .nilSlice .nilSlice .nilSlice
theorem JO {parts:List (Nat×ah)}{r:StM}{a b c:ah}(hs:∀ p∈parts,stZ[p.1]?.map Esc.sz=some (Esc.sz p.2)) (he:p7 stZ parts=r.cs a b c):bj T aE parts=some (r.av a b c):=by
 refine (kO (zs:=stZ) na rfl rfl rfl (pf rfl) hs).trans ?_
 rw[he];rfl
theorem DU {a b c d:List UInt8}(ha:a.length=32) (hb:b.length=32) (hc:c.length=32) (hd:d.length=32):some (Esc.sz (mT a b))=some (Esc.sz (mT c d)):=by
 simp[mT,Esc.sz,szs,szh ha,szh hb,szh hc,szh hd]
theorem yB {a b c d:Int}{x y:List UInt8}(hx:x.length=32) (hy:y.length=32):bj T aE [(0,.int .i64 a),(1,.int .i64 b),(2,.int .i64 c),(3,.int .i64 d),(13,mT x y),(17,.int .i64 (-1))]=some (({ StM.zero with side:=a,cap:=b,bo:=c,bp:=d,ptsA:=x,ptsB:=y,closed:=-1 }:StM).av .nilSlice .nilSlice .nilSlice):=by
 refine JO (fun p hp=>?_) rfl
 simp only[List.mem_cons,List.not_mem_nil,or_false]at hp
 rcases hp with rfl|rfl|rfl|rfl|rfl|rfl
 ·rfl
 ·rfl
 ·rfl
 ·rfl
 ·exact DU oe oe hx hy
 ·rfl
theorem pN {c:CfM}(h:c.ok):(mm c).1.ok:=by
 unfold mm
 by_cases hb:nF c
 ·rw[if_pos hb];exact StM.bq
 ·rw[if_neg hb]
  have h1:¬ right c.cap=false:=fun hh=>hb (.inr (.inr (.inr (.inl hh))))
  have h2:right c.cap=true:=by simpa using h1
  have h3:=lZ.1 h2
  have h4:¬ c.ours<0:=fun hh=>hb (.inr (.inr (.inr (.inr (.inl hh)))))
  have h5:¬ c.cap<c.ours:=fun hh=>hb (.inr (.inr (.inr (.inr (.inr hh)))))
  exact⟨h.side,h.cap,h.ours,iu (c.cap-c.ours) (by omega) (by omega),cL,cL,cL,cL,cL,cL,cL,cL,cL,h.ptsA,h.ptsB,rfl,cL,iu (-1) (by decide) (by decide)⟩
section
variable {F0:List AId}{G0 G:ak}{ps:List LP}{Q:ah->ak->Prop}
theorem bP.use {f:StF}{vo vp vh:ah}(hS:ka G f vo vp vh) (hQ:∀ wo wp wh G',Sp [] G [bm 34 wh (f.h.map b6.av),bm 36 wp (f.p.map aL.av),bm 36 wo (f.o.map aL.av)] G'->Q (f.s.av wo wp wh) G'):al P bP.n [f.s.av vo vp vh] G Q:=by
 have ho:=hS.ok
 have hl:=hS.lv
 have hlo:=hS.lo
 have hlp:=hS.lp
 have hlh:=hS.lh
 refine bP.sound ?_
 unfold bP.S
 rw[EV]
 intro i1 f1
 have s1:=(Sp.nil G).row f1 (f.s.av vo vp vh)
 intro i3 f3
 have s3:=s1.row f3 (StM.zero.av .nilSlice .nilSlice .nilSlice)
 revert s3
 generalize ak.upd _ i3 _=G4
 intro s3
 refine ae (St.dM (au.own (i:=1) s3 rfl) ho hl) ?_
 have grow:∀ {ps:List LP}{G1:ak}{x:ah}{l:List aL}{K:ah->ak->Prop},Sp [] G ps G1->ff 36 G x (l.map aL.av)->(∀ u∈l,u.ok)->l.length≤1048576->(∀ w G2,Sp [] G (bm 36 w (l.map aL.av)::ps) G2->K w G2)->cn T G1 aj aj .nilSlice x K:=by
  intro ps G1 x l K s hx hok hlen hK
  refine uN (T:=T) (ts:=aj) (e:=aG) (si:=dL) (ie:=cG) (tx:=aj) (xi:=dL) (i:=0) (vs:=[]) (xs:=l.map aL.av) bT rfl dE rfl (by decide) bT (.inr ⟨_,rfl⟩) (s.nz 36) rfl (hx.ch' s.ch).elems (nW hok).1 (nW hok).2 (by rw[show cG.bytes=72 from rfl,List.length_map];simp;omega) fun w G5 s5=>?_
  exact hK w G5 s5
 refine grow s3 hS.o.gZ hS.oko hS.lo fun wo G7 s7=>?_
 have lo:bw wo:=(bm.own (i:=0) s7 rfl).leaf
 refine St.tT (i:=2) s7 rfl ho hl lo fun G8 s8=>?_
 refine ae (St.eH (au.own (i:=2) s8 rfl) ho ⟨lo,hl.2.1,hl.2.2⟩) ?_
 refine grow s8 hS.p.gZ hS.okp hS.lp fun wp G11 s11=>?_
 have lp:bw wp:=(bm.own (i:=0) s11 rfl).leaf
 refine St.tg (i:=3) s11 rfl ho ⟨lo,hl.2.1,hl.2.2⟩ lp fun G12 s12=>?_
 refine ae (St.l6 (au.own (i:=3) s12 rfl) ho ⟨lo,lp,hl.2.2⟩) ?_
 refine uN (T:=T) (ts:=aV) (e:=cz) (si:=jr) (ie:=kv) (tx:=aV) (xi:=jr) (i:=0) (vs:=[]) (xs:=f.h.map b6.av) gz rfl jN rfl (by decide) gz (.inr ⟨_,rfl⟩) (s12.nz 34) rfl (hS.h.gZ.ch' s12.ch).elems (wV hS.okh) (sa f.h) (by rw[show kv.bytes=48 from rfl,List.length_map];simp;omega) fun wh G15 s15=>?_
 have lh:bw wh:=(bm.own (i:=0) s15 rfl).leaf
 refine St.vO (i:=4) s15 rfl ho ⟨lo,lp,hl.2.2⟩ lh fun G16 s16=>?_
 refine ae (St.ld (au.own (i:=4) s16 rfl) ho ⟨lo,lp,lh⟩) ?_
 refine St.st (i:=3) s16 rfl StM.bq lv0 ho ⟨lo,lp,lh⟩ fun G18 s18=>?_
 refine ae (St.ld (au.own (i:=3) s18 rfl) ho ⟨lo,lp,lh⟩) ?_
 exact hQ wo wp wh G18 ((s18.erase 3).erase 3)
theorem ka.copy {f:StF}{vo vp vh wo wp wh:ah}{G1:ak}{i j k:Nat}(hS:ka G f vo vp vh) (s:Sp F0 G0 ps G1) (ho:ps[i]?=some (bm 36 wo (f.o.map aL.av))) (hp:ps[j]?=some (bm 36 wp (f.p.map aL.av))) (hh:ps[k]?=some (bm 34 wh (f.h.map b6.av))):ka G1 f wo wp wh:=
 ⟨hS.ok,Own.nj (bm.own s ho),Own.nj (bm.own s hp),Own.nj (bm.own s hh),hS.oko,hS.okp,hS.okh,hS.lo,hS.lp,hS.lh⟩
def pB (s:List UInt8) (n:Int):List UInt8:=sha (jS s n).1
theorem mK (s:List UInt8) (n:Int):(pB s n).length=32:=je _
theorem dB.use {s:List UInt8}{n:Int}(hs:s.length=32) (hQ:∀ G',Ch [] G [] G'->Q (.agg ((pB s n).map u8v)) G'):al P dB.n [.agg (s.map u8v),.int .i64 n] G Q:=by
 refine dB.sound ?_
 unfold dB.S
 rw[mF]
 intro i1 f1
 have s1:=(Sp.nil G).row f1 (.agg (s.map u8v))
 intro i3 f3
 have s3:=s1.row f3 (.agg ((List.replicate 32 (0:UInt8)).map u8v))
 rw[<- mF]
 refine ae (bM hs (au.own (i:=1) s3 rfl)) ?_
 refine cI.use hs fun G7 c7=>?_
 have s7:=s3.tmp c7
 have hx:=mZ hs n
 refine ae (hi0 _) ?_
 refine ae (hi1 _) ?_
 refine pg s7 hx fun i10 G12 s12=>?_
 refine ae (bM hx (au.own (i:=0) s12 rfl)) ?_
 refine cA.use hx fun G15 c15=>?_
 have s15:=s12.tmp c15
 have hz:(sha (jS s n).1).length=32:=je _
 refine sq (i:=1) s15 rfl (by simp) hz fun G16 s16=>?_
 refine ae (bM hz (au.own (i:=1) s16 rfl)) ?_
 exact hQ _ s16.ch
def nU (a b:CfM):ah:=.agg [a.av,b.av]
def CfM.zero:CfM:=⟨0,0,0,h0,h0,h0,h0,h0,0⟩
theorem CfM.bq:CfM.zero.ok:=⟨cL,cL,cL,rfl,rfl,rfl,rfl,rfl,cL⟩
def cfZ:List ah:=CfM.zero.cs
theorem He {a b:CfM}(ha:a.ok) (hb:b.ok):[a.av,b.av].map Esc.sz=[164,164]:=by simp[CfM.sz ha,CfM.sz hb]
theorem AM {a b:CfM}(ha:a.ok) (hb:b.ok):dD jO (nU a b)=true:=by
 simp[dD,nU,Esc.sz,szs,CfM.sz ha,CfM.sz hb,jO,ah.isAgg,kZ.isAgg]
theorem JM {a b:CfM}(ha:a.ok) (hb:b.ok):Esc.sz (nU a b)=328:=by simp[nU,Esc.sz,szs,CfM.sz ha,CfM.sz hb]
theorem KQ (a b:CfM):Esc.okv (nU a b)=true:=by simp[nU,Esc.okv,mz,CfM.okv]
theorem My:mP=nU CfM.zero CfM.zero:=rfl
theorem EE {a b c:Int}{x y z p q:List UInt8}(hx:x.length=32) (hy:y.length=32) (hz:z.length=32) (hp:p.length=32) (hq:q.length=32) :
  bj T bU [(0,.int .i64 a),(1,.int .i64 b),(2,.int .i64 c),(3,.agg (x.map u8v)),(4,.agg (y.map u8v)),(5,.agg (z.map u8v)),(6,mT p q),(7,.int .i64 4096)]=some (CfM.av ⟨a,b,c,x,y,z,p,q,4096⟩):=by
 refine (kO (zs:=cfZ) kp rfl rfl rfl (pf rfl) fun r hr=>?_).trans rfl
 simp only[List.mem_cons,List.not_mem_nil,or_false]at hr
 rcases hr with rfl|rfl|rfl|rfl|rfl|rfl|rfl|rfl
 ·rfl
 ·rfl
 ·rfl
 ·exact oJ hx
 ·exact oJ hy
 ·exact oJ hz
 ·exact DU oe oe hp hq
 ·rfl
theorem AR {p q:List UInt8}(hp:p.length=32) (hq:q.length=32):bj T cc [(0,.agg (p.map u8v)),(1,.agg (q.map u8v))]=some (mT p q):=by
 refine (EF (zs:=[.agg (h0.map u8v),.agg (h0.map u8v)]) mf rfl bZ rfl ?_ fun r hr=>?_).trans rfl
 ·simp[Esc.uni,Esc.sz,szh oe,dQ]
 ·simp only[List.mem_cons,List.not_mem_nil,or_false]at hr
  rcases hr with rfl|rfl
  ·exact oJ hp
  ·exact oJ hq
def FW (d:DlM):CfM:=⟨0,d.cap,d.ours,d.seedsA,d.keysA,d.keysB,pB d.seedsB 0,pB d.seedsB 1,4096⟩
def FV (d:DlM):CfM:=⟨1,d.cap,IntKind.i64.wrap (d.cap-d.ours),d.seedsB,d.keysB,d.keysA,pB d.seedsA 0,pB d.seedsA 1,4096⟩
theorem Dd {d:DlM}(h:d.ok):(FW d).ok:=⟨cL,h.cap,h.ours,h.seedsA,h.keysA,h.keysB,mK _ _,mK _ _,iu 4096 (by decide) (by decide)⟩
theorem Dc {d:DlM}(h:d.ok):(FV d).ok:=⟨iu 1 (by decide) (by decide),h.cap,LM _,h.seedsB,h.keysB,h.keysA,mK _ _,mK _ _,iu 4096 (by decide) (by decide)⟩
theorem cQ.use {d:DlM}(hd:d.ok) (hQ:∀ G',Ch [] G [] G'->Q (nU (FW d) (FV d)) G'):al P cQ.n [d.av] G Q:=by
 refine cQ.sound ?_
 unfold cQ.S
 rw[My]
 intro i1 f1
 have s1:=(Sp.nil G).row f1 d.av
 intro i3 f3
 have s3:=s1.row f3 (nU CfM.zero CfM.zero)
 intro i5 f5
 have s5:=s3.row f5 (nU CfM.zero CfM.zero)
 revert s5
 generalize ak.upd _ i5 _=G6
 intro s5
 have o0:=Dd hd
 have o1:=Dc hd
 obtain⟨C0,hC0⟩:∃ C,C=FW d:=⟨_,rfl⟩
 obtain⟨C1,hC1⟩:∃ C,C=FV d:=⟨_,rfl⟩
 obtain⟨b0,hb0⟩:∃ z,z=pB d.seedsB 0:=⟨_,rfl⟩
 obtain⟨b1,hb1⟩:∃ z,z=pB d.seedsB 1:=⟨_,rfl⟩
 obtain⟨a0,ha0⟩:∃ z,z=pB d.seedsA 0:=⟨_,rfl⟩
 obtain⟨a1,ha1⟩:∃ z,z=pB d.seedsA 1:=⟨_,rfl⟩
 have lb0:b0.length=32:=by rw[hb0];exact mK _ _
 have lb1:b1.length=32:=by rw[hb1];exact mK _ _
 have la0:a0.length=32:=by rw[ha0];exact mK _ _
 have la1:a1.length=32:=by rw[ha1];exact mK _ _
 have e0:C0=⟨0,d.cap,d.ours,d.seedsA,d.keysA,d.keysB,b0,b1,4096⟩:=by rw[hC0,hb0,hb1];rfl
 have e1:C1=⟨1,d.cap,IntKind.i64.wrap (d.cap-d.ours),d.seedsB,d.keysB,d.keysA,a0,a1,4096⟩:=by rw[hC1,ha0,ha1];rfl
 rw[<- hC0,<- hC1]at hQ
 rw[<- hC0]at o0
 rw[<- hC1]at o1
 have zo:=CfM.bq
 intro R7 hR7
 refine hR7 _ _ _ _ _ ?_
 rw[aM,aa,dT_ (by decide),aN]
 have hg:=au.own (i:=2) s5 rfl
 refine ae (v:=.ptr i1 [1] 1) rfl ?_
 refine ae (Dl.dM hg hd) ?_
 rw[bB,aa,dF_ (by decide)]
 intro J52
 rw[aK]
 simp -zeta only [J52]
 refine ae (v:=.ptr i1 [0] 0) rfl ?_
 refine ae (Dl.mL hg hd) ?_
 refine ae (v:=.ptr i1 [2] 2) rfl ?_
 refine ae (v:=.ptr i1 [2,0] 2) rfl ?_
 refine ae (Dl.pS hg hd) ?_
 refine ae (v:=.ptr i1 [3] 66) rfl ?_
 refine ae (v:=.ptr i1 [3,0] 66) rfl ?_
 refine ae (Dl.ry hg hd) ?_
 rw[b7,i64_in (by decide) (by decide),aa]
 refine ae (v:=.ptr i1 [3] 66) rfl ?_
 refine ae (v:=.ptr i1 [3,1] 98) rfl ?_
 refine ae (Dl.ru hg hd) ?_
 rw[aa]
 refine ae (v:=.ptr i1 [2] 2) rfl ?_
 refine ae (v:=.ptr i1 [2,1] 34) rfl ?_
 refine ae (Dl.pR hg hd) ?_
 rw[aa]
 refine ae (v:=.ptr i1 [2] 2) rfl ?_
 refine ae (v:=.ptr i1 [2,1] 34) rfl ?_
 refine ae (Dl.pR hg hd) ?_
 refine dB.use hd.seedsB fun G45 c45=>?_
 rw[<- hb0]
 have s45:=s5.tmp c45
 have hg:=au.own (i:=2) s45 rfl
 refine⟨⟨Dl.pR hg hd,Dl.ru hg hd,Dl.ry hg hd,Dl.pS hg hd,Dl.mL hg hd,trivial⟩,?_⟩
 refine dB.use hd.seedsB fun G47 c47=>?_
 rw[<- hb1]
 have s47:=s45.tmp c47
 have hg:=au.own (i:=2) s47 rfl
 refine⟨⟨Dl.ru hg hd,Dl.ry hg hd,Dl.pS hg hd,Dl.mL hg hd,trivial⟩,?_⟩
 refine ae (AR lb0 lb1) ?_
 refine ae (EE hd.seedsA hd.keysA hd.keysB lb0 lb1) ?_
 rw[<- e0]
 refine ae (v:=.ptr i5 [0] 0) rfl ?_
 refine fg (st1 (c:=C0.av) (au.own (i:=0) s47 rfl) (He zo zo) rfl rfl kp (CfM.fits o0) (by rw[CfM.sz o0,CfM.sz zo]) (CfM.okv)) ?_
 have s51:=Sp.setRow (j:=0) s47 rfl (nU C0 CfM.zero)
 revert s51
 show Sp [] G _ (ak.upd G47 i5 (.own (.agg ([CfM.zero.av,CfM.zero.av].set 0 C0.av))))->_
 generalize ak.upd G47 i5 _=G51
 intro s51
 refine ae (v:=.int .i64 1) rfl ?_
 refine hR7 _ _ _ _ _ ?_
 rw[aM,aa,dT_ (by decide),aN]
 have hg:=au.own (i:=2) s51 rfl
 refine ae (v:=.ptr i1 [1] 1) rfl ?_
 refine ae (Dl.dM hg hd) ?_
 rw[bB,aa,dT_ (by decide)]
 intro J52
 rw[aN]
 refine ae (v:=.ptr i1 [0] 0) rfl ?_
 refine ae (Dl.mL hg hd) ?_
 refine ae (v:=.ptr i1 [1] 1) rfl ?_
 refine ae (Dl.dM hg hd) ?_
 rw[b7,aa]
 simp -zeta only [J52]
 refine ae (v:=.ptr i1 [0] 0) rfl ?_
 refine ae (Dl.mL hg hd) ?_
 refine ae (v:=.ptr i1 [2] 2) rfl ?_
 refine ae (v:=.ptr i1 [2,1] 34) rfl ?_
 refine ae (Dl.pR hg hd) ?_
 refine ae (v:=.ptr i1 [3] 66) rfl ?_
 refine ae (v:=.ptr i1 [3,1] 98) rfl ?_
 refine ae (Dl.ru hg hd) ?_
 rw[b7,i64_in (n:=1-1) (by decide) (by decide),aa]
 refine ae (v:=.ptr i1 [3] 66) rfl ?_
 refine ae (v:=.ptr i1 [3,0] 66) rfl ?_
 refine ae (Dl.ry hg hd) ?_
 rw[aa]
 refine ae (v:=.ptr i1 [2] 2) rfl ?_
 refine ae (v:=.ptr i1 [2,0] 2) rfl ?_
 refine ae (Dl.pS hg hd) ?_
 rw[aa]
 refine ae (v:=.ptr i1 [2] 2) rfl ?_
 refine ae (v:=.ptr i1 [2,0] 2) rfl ?_
 refine ae (Dl.pS hg hd) ?_
 refine dB.use hd.seedsA fun G45 c45=>?_
 rw[<- ha0]
 have s45:=s51.tmp c45
 have hg:=au.own (i:=2) s45 rfl
 refine⟨⟨Dl.pS hg hd,Dl.ry hg hd,Dl.ru hg hd,Dl.pR hg hd,Dl.mL hg hd,trivial⟩,?_⟩
 refine dB.use hd.seedsA fun G47 c47=>?_
 rw[<- ha1]
 have s47:=s45.tmp c47
 have hg:=au.own (i:=2) s47 rfl
 refine⟨⟨Dl.ry hg hd,Dl.ru hg hd,Dl.pR hg hd,Dl.mL hg hd,trivial⟩,?_⟩
 refine ae (AR la0 la1) ?_
 refine ae (EE hd.seedsB hd.keysB hd.keysA la0 la1) ?_
 rw[<- e1]
 refine ae (v:=.ptr i5 [1] 164) rfl ?_
 refine fg (st1 (c:=C1.av) (au.own (i:=0) s47 rfl) (He o0 zo) rfl rfl kp (CfM.fits o1) (by rw[CfM.sz o1,CfM.sz zo]) (CfM.okv)) ?_
 have s51:=Sp.setRow (j:=0) s47 rfl (nU C0 C1)
 revert s51
 show Sp [] G _ (ak.upd G47 i5 (.own (.agg ([C0.av,CfM.zero.av].set 1 C1.av))))->_
 generalize ak.upd G47 i5 _=G51
 intro s51
 refine ae (v:=.int .i64 2) rfl ?_
 refine hR7 _ _ _ _ _ ?_
 rw[aM,aa,dF_ (by decide),aK]
 refine ae (cj mW (au.own (i:=0) s51 rfl) (AM o0 o1)) ?_
 refine fg (ig (c:=nU C0 C1) mW (au.own (i:=1) s51 rfl) (AM o0 o1) (by rw[JM zo zo,JM o0 o1]) (KQ _ _)) ?_
 have s55:=Sp.setRow (j:=1) s51 rfl (nU C0 C1)
 refine ae (cj mW (au.own (i:=1) s55 rfl) (AM o0 o1)) ?_
 exact hQ _ s55.ch
end
end Go.Esc.M
namespace Go.Esc.M
open Go Go.Esc
def d15:DlM:=⟨1000,700,h0,h0,h0,h0⟩
theorem FO:d15.ok:=⟨iu 1000 (by decide) (by decide),iu 700 (by decide) (by decide),rfl,rfl,rfl,rfl⟩
def c15 (a b:List UInt8):CfM:=⟨0,1000,700,h0,h0,h0,a,b,4096⟩
def s15 (a b:List UInt8):StM:={ StM.zero with side:=0,cap:=1000,bo:=700,bp:=300,ptsA:=a,ptsB:=b,closed:=-1 }
def f15 (a b:List UInt8):StF:=⟨s15 a b,[],[],[]⟩
theorem IP (a b:List UInt8):mm (c15 a b)=(s15 a b,0):=rfl
section
variable {F0:List AId}{G0 G:ak}{ps:List LP}{Q:ah->ak->Prop}
theorem f15_in {a b:List UInt8}(ha:a.length=32) (hb:b.length=32) (G:ak):ka G (f15 a b) .nilSlice .nilSlice .nilSlice:=
 ⟨⟨cL,iu 1000 (by decide) (by decide),iu 700 (by decide) (by decide),iu 300 (by decide) (by decide),cL,cL,cL,cL,cL,cL,cL,cL,cL,ha,hb,rfl,cL,iu (-1) (by decide) (by decide)⟩,hJ.nil,hJ.nil,hJ.nil,by simp[f15],by simp[f15],by simp[f15],by simp[f15],by simp[f15],by simp[f15]⟩
theorem JL {a b:CfM}(ha:a.ok) (hb:b.ok):pz T cJ (nU a b) (.int .i64 0)=some a.av:=by
 have h1:Esc.uni 164 [a.av,b.av]=true:=by simp[Esc.uni,CfM.sz ha,CfM.sz hb]
 have h2:=CfM.fits ha
 simp only[pz,nU,mW,show jO.desc=.array 2 bU from rfl,kp]
 have h3:Esc.uni nt.size [a.av,b.av]=true:=h1
 simp[h2,h3]
end
theorem Du {G:ak}{R d:Nat}{v:ah}{m:Nat}(h:wt T G R (d+3) cc v m):∃ a b:List UInt8,v=mT a b/\a.length=32/\b.length=32:=by
 rw[wt]at h
 simp only[mf,show mr.desc=.array 2 ar from rfl]at h
 obtain⟨cs,ms,rfl,hl,hw,_⟩:=h
 match cs,ms,hl,hw with
 | [a,b],[m1,m2],_,⟨h1,h2,_⟩=>
  obtain⟨x,rfl,lx,_⟩:=Cw bZ rfl cW rfl h1
  obtain⟨y,rfl,ly,_⟩:=Cw bZ rfl cW rfl h2
  exact⟨x,y,rfl,lx,ly⟩
end Go.Esc.M
namespace Go.Esc.M
open Go Go.Esc
def acG (f:StF):cr:={ cr.zero with kind:=6,index:=IntKind.i64.wrap (f.s.loc+1),next:=f.s.ack,secret:=if 0<f.s.ack then (ac8 f.h (f.s.ack-1)).1 else h0 }
def acx (c:CfM) (m:cr):Bool:=
 if 0<m.next then decide (m.next≤281474976710655) && (decide ((jS c.seed (m.next-1)).2=0) && decide ((jS c.seed (m.next-1)).1=m.secret))
 else if m.next=0 then decide (m.secret=h0) else true
def acy (c:CfM) (f:StF) (m:cr):Int:=
 if m.kind≠6 then 160 else if acx c m=false then 100 else if f.s.loc<m.next then 180
 else if m.next<0\/(m.next≠f.s.loc/\m.next≠IntKind.i64.wrap (f.s.loc-1)) then 90
 else if m.index≠IntKind.i64.wrap (f.s.rem+1)/\(m.index≠f.s.rem\/f.s.rem≠IntKind.i64.wrap (f.s.ack+1)) then 90 else 0
def acL (l:List aL) (a b:Int):List cr:=((l.take (min b (l.length:Nat)).toNat).drop (max a 0).toNat).map GL
def ac0 (c:CfM) (f:StF) (m:cr) (b:Bool):List cr:=if m.next=IntKind.i64.wrap (f.s.loc-1)/\f.s.behind=b then [qC c m.next] else []
def acz (c:CfM) (f:StF) (m:cr):List cr×Int:=
 if acy c f m≠0 then ([],acy c f m) else
  (((ac0 c f m true++(if m.index=f.s.rem then acL f.o f.s.heldA f.s.sgnA++[tI c f] else []))++ac0 c f m false)++acL f.o f.s.sgnA (f.o.length:Nat),0)
theorem ac7 {f:StF}{G:ak}{vo vp vh:ah}(hS:ka G f vo vp vh):(acG f).ok:=by
 refine⟨iu 6 (by decide) (by decide),cL,cL,LM _,hS.ok.ack,rfl,?_,by simp[acG,cr.zero]⟩
 show (if 0<f.s.ack then (ac8 f.h (f.s.ack-1)).1 else h0).length=32
 split
 ·exact acW hS.okh
 ·rfl
theorem ve {c:CfM}(hc:c.ok) {n:Int}(hn:I64 n):(qC c n).ok:=by
 unfold qC
 split
 ·exact cr.bq
 ·exact⟨iu 5 (by decide) (by decide),cL,cL,hn,cL,je _,mZ hc.seed n,by simp[cr.zero]⟩
theorem xT {c:CfM}{f:StF}(h:f.s.ok):(tI c f).ok:=by
 unfold tI
 exact⟨iu 4 (by decide) (by decide),cL,cL,h.rem,cL,gU _,rfl,by simp[cr.zero]⟩
theorem ac6 (l:List aL) (a b:Int):(acL l a b).length≤l.length:=by
 unfold acL
 rw[List.length_map,List.length_drop,List.length_take]
 omega
theorem acV (c:CfM) (f:StF) (m:cr) (b:Bool):(ac0 c f m b).length≤1:=by
 unfold ac0;split<;>simp
section
variable {F0:List AId}{G0 G:ak}{ps:List LP}{Q:ah->ak->Prop}
theorem acZ {a b:Int}:bj T aW [(0,.int .i64 6),(3,.int .i64 a),(4,.int .i64 b)]=some (cr.av { cr.zero with kind:=6,index:=a,next:=b }):=
 uo (fun p hp=>by
  simp only[List.mem_cons,List.not_mem_nil,or_false]at hp
  rcases hp with rfl|rfl|rfl<;>rfl) rfl
theorem Kz {u:cr}{K:AId->ak->Prop}(hs:Sp F0 G0 ps G) (hu:u.ok) (hK:∀ i G',Sp F0 G0 (au i u.av::ps) G'->K i G'):br G (.own jF) fun i G2=>wg (aF T G2 aW (.ptr i [] 0) u.av) fun G3=>K i G3:=
 jL hs eQ (cr.fits hu) (by rw[cr.sz hu];rfl) (cr.okv u) hK
theorem acv.use {f:StF}{c:CfM}{vo vp vh:ah}(hT:Tab G) (hS:ka G f vo vp vh) (hc:c.ok) (hQ:∀ G',Ch [] G [] G'->Q (acG f).av G'):al P acv.n [c.av,f.s.av vo vp vh] G Q:=by
 have ho:=hS.ok
 have hl:=hS.lv
 have hok:=ac7 hS
 refine acv.sound ?_
 unfold acv.S
 rw[EW]
 intro i1 f1
 have s1:=(Sp.nil G).row f1 c.av
 intro i3 f3
 have s3:=s1.row f3 (f.s.av vo vp vh)
 intro i5 f5
 have s5:=s3.row f5 cr.zero.av
 revert s5
 generalize ak.upd _ i5 _=G6
 intro s5
 have hg:=au.own (i:=1) s5 rfl
 refine ae (St.qb hg ho hl) ?_
 rw[bg,aa]
 refine ae (St.mS hg ho hl) ?_
 refine ae acZ ?_
 have hok0:({ cr.zero with kind:=6,index:=IntKind.i64.wrap (f.s.loc+1),next:=f.s.ack }:cr).ok:=⟨iu 6 (by decide) (by decide),cL,cL,LM _,ho.ack,rfl,rfl,by simp[cr.zero]⟩
 refine Kz s5 hok0 fun i11 G13 s13=>?_
 have hg:=au.own (i:=2) s13 rfl
 refine ae (St.mS hg ho hl) ?_
 rw[da,aa,aI]
 have fin:∀ {G2:ak}{m:cr},Sp [] G [au i11 m.av,au i5 cr.zero.av,au i3 (f.s.av vo vp vh),au i1 c.av] G2->m=acG f ->
   wv (ag T G2 aW (.ptr i11 [] 0)) fun v28=>wg (aF T G2 aW (.ptr i5 [] 0) v28) fun G29=>wv (ag T G29 aW (.ptr i5 [] 0)) fun v30=>Q v30 G29:=by
  intro G2 m s hm
  subst hm
  refine ae (cj eQ (au.own (i:=0) s rfl) (cr.fits hok)) ?_
  refine nK (i:=1) s rfl cr.bq hok fun G29 s29=>?_
  refine ae (cj eQ (au.own (i:=1) s29 rfl) (cr.fits hok)) ?_
  exact hQ _ s29.ch
 refine⟨fun h1=>?_,fun h1=>?_⟩
 ·refine ae (St.l6 hg ho hl) ?_
  refine ae (St.mS hg ho hl) ?_
  have ha:=ho.ack
  rw[b7,i64_in (by have:=ha.1;omega) (by have:=ha.2;omega),aa]
  refine acw.use (hT.mono s13.ro) (hS.h.gZ.ch' s13.ch) hS.okh hS.lh fun G20 c20=>?_
  have s20:=s13.tmp c20
  refine ae (hi0 _) ?_
  refine ae (hi1 _) ?_
  refine ac2 (i:=0) (acW hS.okh) hok0 s20 rfl fun G23 s23=>?_
  exact fin s23 (by unfold acG;rw[if_pos h1])
 ·exact fin s13 (by unfold acG;rw[if_neg h1];rfl)
theorem acs.use {c:CfM}{m:cr}(hc:c.ok) (hm:m.ok) (hQ:∀ G',Ch [] G [] G'->Q (.bool (acx c m)) G'):al P acs.n [c.av,m.av] G Q:=by
 refine acs.sound ?_
 unfold acs.S
 unfold acx at hQ
 intro i1 f1
 have s1:=(Sp.nil G).row f1 c.av
 intro i3 f3
 have s3:=s1.row f3 m.av
 revert s3
 generalize ak.upd _ i3 _=G4
 intro s3
 obtain⟨_,_,_,_,m4,_,m6,_,_⟩:=gx (i:=0) s3 rfl hm
 refine ae m4 ?_
 rw[da,aa,aI]
 refine⟨fun h1=>?_,fun h1=>?_⟩
 ·rw[if_pos h1]at hQ
  refine ae (Cf.ue (au.own (i:=1) s3 rfl) hc) ?_
  refine ae m4 ?_
  have hn:=hm.next
  rw[b7,i64_in (by have:=hn.1;omega) (by have:=hn.2;omega),aa]
  refine im.use hc.seed fun G11 c11=>?_
  have s11:=s3.tmp c11
  have hx:=mZ hc.seed (m.next-1)
  obtain⟨X,hX⟩:∃ X,X=jS c.seed (m.next-1):=⟨_,rfl⟩
  rw[<- hX]at hQ hx ⊢
  refine ae (hi0 _) ?_
  refine ae (hi1 _) ?_
  refine pg s11 hx fun i14 G16 s16=>?_
  obtain⟨_,_,_,_,m4,_,m6,_,_⟩:=gx (i:=1) s16 rfl hm
  refine ae m4 ?_
  rw[kQ,aa,aI]
  refine⟨fun h2=>?_,fun h2=>?_⟩
  ·rw[dT_ h2,Bool.true_and]at hQ
   rw[bB,aa,aI]
   refine⟨fun h3=>?_,fun h3=>?_⟩
   ·rw[dT_ h3,Bool.true_and]at hQ
    refine ae (bM hx (au.own (i:=0) s16 rfl)) ?_
    refine ae m6 ?_
    refine ae (uh hx hm.secret) ?_
    exact hQ _ s16.ch
   ·rw[dF_ h3,Bool.false_and]at hQ
    exact hQ _ s16.ch
  ·rw[dF_ h2,Bool.false_and]at hQ
   exact hQ _ s16.ch
 ·rw[if_neg h1]at hQ
  refine ae m4 ?_
  rw[bB,aa,aI]
  refine⟨fun h2=>?_,fun h2=>?_⟩
  ·rw[if_pos h2]at hQ
   refine ae m6 ?_
   refine ae (v:=.agg (h0.map u8v)) rfl ?_
   refine ae (uh hm.secret (by rfl)) ?_
   exact hQ _ s3.ch
  ·rw[if_neg h2]at hQ
   exact hQ _ s3.ch
theorem acu.use {f:StF}{c:CfM}{m:cr}{vo vp vh:ah}(hS:ka G f vo vp vh) (hc:c.ok) (hm:m.ok) (hQ:∀ G',Ch [] G [] G'->Q (.int .i64 (acy c f m)) G'):al P acu.n [c.av,f.s.av vo vp vh,m.av] G Q:=by
 have ho:=hS.ok
 have hl:=hS.lv
 refine acu.sound ?_
 unfold acu.S
 unfold acy at hQ
 intro i1 f1
 have s1:=(Sp.nil G).row f1 c.av
 intro i3 f3
 have s3:=s1.row f3 (f.s.av vo vp vh)
 intro i5 f5
 have s5:=s3.row f5 m.av
 revert s5
 generalize ak.upd _ i5 _=G6
 intro s5
 obtain⟨m0,_,_,_,_,_,_,_,ab9⟩:=gx (i:=0) s5 rfl hm
 refine ae m0 ?_
 rw[cD,aa,dC]
 refine⟨fun h1=>?_,fun h1=>?_⟩
 ·rw[if_pos h1]at hQ
  exact hQ _ s5.ch
 rw[if_neg (fun hh=>hh h1)]at hQ
 refine ae (Cf.ld (au.own (i:=2) s5 rfl) hc) ?_
 refine ae ab9 ?_
 refine acs.use hc hm fun G12 c12=>?_
 have s12:=s5.tmp c12
 rw[dx,aa]
 cases hp:acx c m with
 | false=>
  rw[hp,if_pos rfl]at hQ
  rw[Bool.not_false,aN]
  exact hQ _ s12.ch
 | true=>
 rw[hp,if_neg (by decide)]at hQ
 rw[Bool.not_true,aK]
 have s12:Sp [] G [au i5 m.av,au i3 (f.s.av vo vp vh),au i1 c.av] G12:=s12
 obtain⟨m0,_,_,m3,m4,_,_,_,ab9⟩:=gx (i:=0) s12 rfl hm
 have hg:=au.own (i:=1) s12 rfl
 refine ae m4 ?_
 refine ae (St.qb hg ho hl) ?_
 rw[da,aa,aI]
 refine⟨fun h2=>?_,fun h2=>?_⟩
 ·rw[if_pos h2]at hQ
  exact hQ _ s12.ch
 rw[if_neg h2]at hQ
 intro J42
 have bad:(m.next<0\/(m.next≠f.s.loc/\m.next≠IntKind.i64.wrap (f.s.loc-1)))->J42 (.bool true) G12:=by
  intro hb
  rw[if_pos hb]at hQ
  simp -zeta only [J42,aN]
  exact hQ _ s12.ch
 have lK:¬ (m.next<0\/(m.next≠f.s.loc/\m.next≠IntKind.i64.wrap (f.s.loc-1)))->J42 (.bool false) G12:=by
  intro hb
  rw[if_neg hb]at hQ
  simp -zeta only [J42,aK]
  refine ae m3 ?_
  refine ae (St.mn hg ho hl) ?_
  rw[bg,aa,cD,aa,dC]
  refine⟨fun h3=>?_,fun h3=>?_⟩
  ·refine ae m3 ?_
   refine ae (St.mn hg ho hl) ?_
   rw[cD,aa,dC]
   refine⟨fun h4=>?_,fun h4=>?_⟩
   ·rw[if_pos ⟨h3,.inl h4⟩]at hQ
    exact hQ _ s12.ch
   ·refine ae (St.mn hg ho hl) ?_
    refine ae (St.mS hg ho hl) ?_
    rw[bg,aa,cD,aa,dC]
    refine⟨fun h5=>?_,fun h5=>?_⟩
    ·rw[if_pos ⟨h3,.inr h5⟩]at hQ
     exact hQ _ s12.ch
    ·rw[if_neg (by rintro⟨_,h | h⟩;exact h h4;exact h h5)]at hQ
     exact hQ _ s12.ch
  ·rw[if_neg (by rintro⟨h,_⟩;exact h h3)]at hQ
   exact hQ _ s12.ch
 refine ae m4 ?_
 rw[aM,aa,aI]
 refine⟨fun h3=>bad (.inl h3),fun h3=>?_⟩
 refine ae m4 ?_
 refine ae (St.qb hg ho hl) ?_
 rw[cD,aa,dC]
 refine⟨fun h4=>?_,fun h4=>lK (by rintro (h | ⟨h,_⟩);exact h3 h;exact h h4)⟩
 refine ae m4 ?_
 refine ae (St.qb hg ho hl) ?_
 rw[b7,aa,cD,aa]
 by_cases h5:m.next=IntKind.i64.wrap (f.s.loc-1)
 ·rw[dT_ h5]
  exact lK (by rintro (h | ⟨_,h⟩);exact h3 h;exact h h5)
 ·rw[dF_ h5]
  exact bad (.inr ⟨h4,h5⟩)
theorem acS {o:AId}{w:ah}{l:List cr}{x:cr}{rest:List LP}{K:ak->Prop}(hs:Sp F0 G0 (au o w::bm 70 w (l.map cr.av)::rest) G) (hx:x.ok) (hlen:l.length≤100000000)
  (hK:∀ w' G',Sp F0 G0 (au o w'::bm 70 w' ((l++[x]).map cr.av)::rest) G'->K G') :
  bu T bR 1 [(0,x.av)] G fun v G1=>cn T G1 bR bR w v fun v2 G2=>wg (aF T G2 bR (.ptr o [] 0) v2) K:=by
 refine wm (T:=T) (ts:=bR) (e:=aW) (si:=iJ) (ie:=il) (i:=1) (vs:=l.map cr.av) gP rfl eQ rfl (by decide) hs rfl (cr.sz hx) (cr.okv x) (by decide) (by rw[List.length_map];simp only[il];omega) fun w' G' s'=>?_
 have s':Sp F0 G0 (au o w::bm 70 w' (l.map cr.av++[x.av])::rest) G':=s'
 have lw:=(bm.own (i:=1) hs rfl).leaf
 have lw':=(bm.own (i:=1) s' rfl).leaf
 refine fg (ig gP (au.own (i:=0) s' rfl) (kF lw' rfl) (by rw[lw.1,lw'.1]) lw'.2.2) ?_
 refine hK w' _ ?_
 rw[List.map_append]
 exact Sp.setRow (j:=0) s' rfl _
theorem acB {o:AId}{w:ah}{i:Nat}(hs:Sp F0 G0 ps G) (hi:ps[i]?=some (au o w)) (hw:bw w):ag T G bR (.ptr o [] 0)=some w:=
 cj gP (au.own hs hi) (kF hw rfl)
def adb (a b:Int):Int:=if a<b then b else a
def acU (a b:Int):Int:=if b<a then b else a
theorem aco.use {f:StF}{c:CfM}{m:cr}{vo vp vh w:ah}{l:List cr}{o i1 i3 i5:AId}{a b:Int}(hS:ka G0 f vo vp vh)
  (hs:Sp [] G0 [au o w,bm 70 w (l.map cr.av),au i5 m.av,au i3 (f.s.av vo vp vh),au i1 c.av] G) (hlen:l.length+f.o.length≤100000000) (ha:I64 a) (hb:I64 b)
  (hQ:∀ w' G',Sp [] G0 [au o w',bm 70 w' ((l++acL f.o a b).map cr.av),au i5 m.av,au i3 (f.s.av vo vp vh),au i1 c.av] G'->Q (.tuple []) G') :
  al P aco.n [.int .i64 a,.int .i64 b,.ptr i3 [] 0,.ptr o [] 0] G Q:=by
 have ho:=hS.ok
 have hl:=hS.lv
 refine aco.sound ?_
 unfold aco.S
 refine ae (v:=.int .i64 (adb a 0)) rfl ?_
 have hlo:=hS.lo
 obtain⟨A,hA⟩:∃ A:Nat,adb a 0=(A:Int)/\A=(max a 0).toNat:=⟨(max a 0).toNat,by unfold adb;split<;>omega,rfl⟩
 have hA2:(A:Int)≤9223372036854775807:=by have:=ha.2;omega
 rw[hA.1]
 obtain⟨M,hM⟩:∃ M:Nat,M=(min b (f.o.length:Nat)).toNat:=⟨_,rfl⟩
 have hML:M≤f.o.length:=by omega
 unfold acL at hQ
 rw[<- hA.2,<- hM]at hQ
 intro R hR
 have loop:∀ (n j:Nat) (w:ah) (G':ak),M-j=n->A≤j->(j:Int)≤9223372036854775807 ->
   Sp [] G0 [au o w,bm 70 w ((l++((f.o.take (min j M)).drop A).map GL).map cr.av),au i5 m.av,au i3 (f.s.av vo vp vh),au i1 c.av] G' ->
   R [.int .i64 b,.ptr i3 [] 0,.ptr o [] 0,.int .i64 (j:Int)] G':=by
  intro n
  induction n with
  | zero=>
   intro j w G' hn hj hjm s
   have hS':=hS.mv s.ch
   refine hR _ _ _ _ _ ?_
   have hg:=au.own (i:=3) s rfl
   refine ae (v:=.ptr i3 [4] 4) rfl ?_
   refine ae (St.dM hg ho hl) ?_
   refine ae (dh hS'.o.gZ) ?_
   refine ae (v:=.int .i64 (acU b (f.o.length:Nat))) rfl ?_
   rw[aM,aa,aI]
   refine⟨fun h=>absurd h (by unfold acU;split<;>omega),fun _=>?_⟩
   rw[show min j M=M by omega]at s
   exact hQ w G' s
  | succ n ih=>
   intro j w G' hn hj hjm s
   have hS':=hS.mv s.ch
   obtain⟨u,hu⟩:∃ u,f.o[j]?=some u:=⟨_,List.getElem?_eq_getElem (by omega)⟩
   have huo:=hS.oko u (List.mem_of_getElem? hu)
   refine hR _ _ _ _ _ ?_
   have hg:=au.own (i:=3) s rfl
   refine ae (v:=.ptr i3 [4] 4) rfl ?_
   refine ae (St.dM hg ho hl) ?_
   refine ae (dh hS'.o.gZ) ?_
   refine ae (v:=.int .i64 (acU b (f.o.length:Nat))) rfl ?_
   rw[aM,aa,aI]
   refine⟨fun _=>?_,fun h=>absurd (show (j:Int)<acU b (f.o.length:Nat) by unfold acU;split<;>omega) h⟩
   have lw:=(bm.own (i:=1) s rfl).leaf
   refine ae (acB (i:=0) s rfl lw) ?_
   refine ae (v:=.ptr i3 [4] 4) rfl ?_
   refine ae (St.dM hg ho hl) ?_
   obtain⟨at_,ha1,ha2⟩:=nD hS'.o.gZ hu
   refine ae ha1 ?_
   refine ae ha2 ?_
   refine acA.use huo fun G19 c19=>?_
   have s19:=s.tmp c19
   refine⟨⟨acB (i:=0) s19 rfl lw,trivial⟩,?_⟩
   have hll:(l++((f.o.take (min j M)).drop A).map GL).length≤100000000:=by
    rw[List.length_append,List.length_map,List.length_drop,List.length_take]
    omega
   refine acS s19 (vY huo) hll fun w' G24 s24=>?_
   rw[bg,i64_in (by omega) (by omega),aa]
   refine ih (j+1) w' G24 (by omega) (by omega) (by omega) ?_
   rw[show min (j+1) M=j+1 by omega]
   rw[show min j M=j by omega,List.append_assoc]at s24
   have e:((f.o.take (j+1)).drop A).map GL=((f.o.take j).drop A).map GL++[GL u]:=by
    rw[List.take_add_one,hu,List.drop_append_of_le_length (by rw[List.length_take];omega),List.map_append]
    rfl
   rw[e]
   exact s24
 by_cases hAM:A≤M
 ·refine loop (M-A) A w G rfl (by omega) (by omega) ?_
  rw[show min A M=A by omega,List.drop_eq_nil_of_le (by rw[List.length_take];omega),List.map_nil,List.append_nil]
  exact hs
 ·refine loop 0 A w G (by omega) (by omega) (by omega) ?_
  rw[List.drop_eq_nil_of_le (by rw[List.length_take];omega),List.map_nil,List.append_nil]
  exact hs
theorem acn.use {f:StF}{c:CfM}{m:cr}{vo vp vh w:ah}{l:List cr}{o i1 i3 i5:AId}{b:Bool}(hS:ka G0 f vo vp vh) (hc:c.ok) (hm:m.ok)
  (hs:Sp [] G0 [au o w,bm 70 w (l.map cr.av),au i5 m.av,au i3 (f.s.av vo vp vh),au i1 c.av] G) (hlen:l.length≤100000000)
  (hQ:∀ w' G',Sp [] G0 [au o w',bm 70 w' ((l++ac0 c f m b).map cr.av),au i5 m.av,au i3 (f.s.av vo vp vh),au i1 c.av] G'->Q (.tuple []) G') :
  al P acn.n [.bool b,.ptr i5 [] 0,.ptr i3 [] 0,.ptr o [] 0,.ptr i1 [] 0] G Q:=by
 have ho:=hS.ok
 have hl:=hS.lv
 refine acn.sound ?_
 unfold acn.S
 unfold ac0 at hQ
 intro J24
 have bad:¬ (m.next=IntKind.i64.wrap (f.s.loc-1)/\f.s.behind=b)->J24 (.bool false) G:=by
  intro hb
  rw[if_neg hb,List.append_nil]at hQ
  simp -zeta only [J24,aK]
  exact hQ _ _ hs
 have lK:(m.next=IntKind.i64.wrap (f.s.loc-1)/\f.s.behind=b)->J24 (.bool true) G:=by
  intro hb
  rw[if_pos hb]at hQ
  simp -zeta only [J24,aN]
  have lw:=(bm.own (i:=1) hs rfl).leaf
  refine ae (acB (i:=0) hs rfl lw) ?_
  refine ae (Cf.ld (au.own (i:=4) hs rfl) hc) ?_
  refine ae (v:=.ptr i5 [4] 4) rfl ?_
  refine ae (gx (i:=2) hs rfl hm).2.2.2.2.1 ?_
  refine iU.use hc fun G17 c17=>?_
  have s17:=hs.tmp c17
  refine⟨⟨acB (i:=0) s17 rfl lw,trivial⟩,?_⟩
  refine acS s17 (ve hc hm.next) hlen fun w' G22 s22=>?_
  exact hQ w' G22 s22
 refine ae (v:=.ptr i5 [4] 4) rfl ?_
 refine ae (gx (i:=2) hs rfl hm).2.2.2.2.1 ?_
 refine ae (v:=.ptr i3 [6] 6) rfl ?_
 have hg:=au.own (i:=3) hs rfl
 refine ae (St.qb hg ho hl) ?_
 rw[b7,aa,bB,aa,aI]
 refine⟨fun h1=>?_,fun h1=>bad fun h=>h1 h.1⟩
 refine ae (v:=.ptr i3 [12] 15) rfl ?_
 refine ae (St.B3 hg ho hl) ?_
 refine ae (v:=.bool (f.s.behind == b)) rfl ?_
 cases hb:(f.s.behind == b) with
 | true=>exact lK ⟨h1,by simpa using hb⟩
 | false=>exact bad fun h=>by rw[h.2]at hb;simp at hb
theorem ach.use {f:StF}{c:CfM}{m:cr}{vo vp vh:ah}(hS:ka G f vo vp vh) (hc:c.ok) (hm:m.ok) (hQ:∀ w G',Sp [] G [bm 70 w ((acz c f m).1.map cr.av)] G'->Q (.tuple [w,.int .i64 (acz c f m).2]) G'):al P ach.n [c.av,f.s.av vo vp vh,m.av] G Q:=by
 have ho:=hS.ok
 have hl:=hS.lv
 have hlo:=hS.lo
 refine ach.sound ?_
 unfold ach.S
 rw[show wN=.nilSlice from rfl]
 unfold acz at hQ
 have hAok:(tI c f).ok:=xT ho
 obtain⟨B,hB⟩:∃ B,B=tI c f:=⟨_,rfl⟩
 rw[<- hB]at hQ hAok
 intro i1 f1
 have s1:=(Sp.nil G).row f1 c.av
 intro i3 f3
 have s3:=s1.row f3 (f.s.av vo vp vh)
 intro i5 f5
 have s5:=s3.row f5 m.av
 revert s5
 generalize ak.upd _ i5 _=G6
 intro s5
 refine ae (Cf.ld (au.own (i:=2) s5 rfl) hc) ?_
 refine ae (St.ld (au.own (i:=1) s5 rfl) ho hl) ?_
 refine ae (gx (i:=0) s5 rfl hm).2.2.2.2.2.2.2.2 ?_
 refine acu.use (hS.mv s5.ch) hc hm fun G11 c11=>?_
 have s11:=s5.tmp c11
 have s11:Sp [] G [au i5 m.av,au i3 (f.s.av vo vp vh),au i1 c.av] G11:=s11
 rw[cD,aa,dC]
 refine⟨fun h1=>?_,fun h1=>?_⟩
 ·rw[if_pos h1]at hQ
  exact hQ _ _ (((s11.erase 0).erase 0 |>.erase 0).nz 70)
 rw[if_neg (fun hh=>hh h1)]at hQ
 have s12:=s11.nz 70
 intro i13 f13
 have s13:=s12.row f13 .nilSlice
 revert s13
 generalize ak.upd _ i13 _=G14
 intro s13
 have s13:Sp [] G [au i13 .nilSlice,bm 70 .nilSlice (([]:List cr).map cr.av),au i5 m.av,au i3 (f.s.av vo vp vh),au i1 c.av] G14:=s13
 refine acn.use (l:=[]) hS hc hm s13 (by simp) fun w15 G16 s16=>?_
 have l16:=acV c f m true
 rw[List.nil_append]at s16
 obtain⟨L,hL⟩:∃ L,L=ac0 c f m true:=⟨_,rfl⟩
 rw[<- hL]at s16 l16 hQ
 refine ae (gx (i:=2) s16 rfl hm).2.2.2.1 ?_
 refine ae (St.mn (au.own (i:=3) s16 rfl) ho hl) ?_
 rw[bB,aa]
 intro J43
 have go:∀ (L2:List cr) (w:ah) (G34:ak),L2.length≤50000000->L2=L++(if m.index=f.s.rem then acL f.o f.s.heldA f.s.sgnA++[B] else []) ->
   Sp [] G [au i13 w,bm 70 w (L2.map cr.av),au i5 m.av,au i3 (f.s.av vo vp vh),au i1 c.av] G34->J43 G34:=by
  intro L2 w G34 h2 he s34
  rw[<- he]at hQ
  simp -zeta only [J43]
  refine acn.use hS hc hm s34 (by omega) fun w36 G36 s36=>?_
  have l36:=acV c f m false
  have hg:=au.own (i:=3) s36 rfl
  refine ae (St.KB hg ho hl) ?_
  refine ae (St.dM hg ho hl) ?_
  refine ae (dh (hS.mv s36.ch).o.gZ) ?_
  refine aco.use hS s36 (by rw[List.length_append];omega) ho.sgnA (iu _ (by omega) (by omega)) fun w41 G41 s41=>?_
  refine ae (acB (i:=0) s41 rfl (bm.own (i:=1) s41 rfl).leaf) ?_
  exact hQ _ _ ((((s41.erase 0).erase 1).erase 1).erase 1)
 by_cases h2:m.index=f.s.rem
 ·rw[dT_ h2,aN]
  have hg:=au.own (i:=3) s16 rfl
  refine ae (St.qc hg ho hl) ?_
  refine ae (St.KB hg ho hl) ?_
  refine aco.use hS s16 (by omega) ho.heldA ho.sgnA fun w23 G23 s23=>?_
  have l23:=ac6 f.o f.s.heldA f.s.sgnA
  have lw:=(bm.own (i:=1) s23 rfl).leaf
  refine ae (acB (i:=0) s23 rfl lw) ?_
  refine ae (Cf.ld (au.own (i:=4) s23 rfl) hc) ?_
  refine ae (St.ld (au.own (i:=3) s23 rfl) ho hl) ?_
  refine jC.use (hS.mv s23.ch) hc fun G28 c28=>?_
  rw[<- hB]
  have s28:=s23.tmp c28
  have s28:Sp [] G [au i13 w23,bm 70 w23 ((L++acL f.o f.s.heldA f.s.sgnA).map cr.av),au i5 m.av,au i3 (f.s.av vo vp vh),au i1 c.av] G28:=s28
  refine⟨⟨acB (i:=0) s28 rfl lw,trivial⟩,?_⟩
  refine acS s28 hAok (by rw[List.length_append];omega) fun w33 G33 s33=>?_
  refine go _ _ _ ?_ ?_ s33
  ·rw[List.length_append,List.length_append,List.length_singleton];omega
  ·rw[if_pos h2,List.append_assoc]
 ·rw[dF_ h2,aK]
  refine go L _ _ (by omega) ?_ s16
  rw[if_neg h2,List.append_nil]
end
end Go.Esc.M
namespace Go.Esc.M
open Go Go.Esc
def acO:cr:={ cr.zero with kind:=6,index:=1 }
def adl:cr:={ cr.zero with kind:=6,index:=2 }
def acD (x:List UInt8):cr:={ cr.zero with kind:=6,index:=1,next:=1,secret:=x }
def u5M:aL:=⟨1,0,5,h0,[]⟩
theorem acQ:u5M.ok:=⟨iu 1 (by decide) (by decide),cL,iu 5 (by decide) (by decide),rfl,by decide⟩
theorem acE:acO.ok:=⟨iu 6 (by decide) (by decide),cL,cL,iu 1 (by decide) (by decide),cL,rfl,rfl,by simp[acO,cr.zero]⟩
theorem adk:adl.ok:=⟨iu 6 (by decide) (by decide),cL,cL,iu 2 (by decide) (by decide),cL,rfl,rfl,by simp[adl,cr.zero]⟩
theorem ac4 {x:List UInt8}(h:x.length=32):(acD x).ok:=⟨iu 6 (by decide) (by decide),cL,cL,iu 1 (by decide) (by decide),iu 1 (by decide) (by decide),rfl,h,by simp[acD,cr.zero]⟩
def g15 (a b:List UInt8):StF:=⟨s15 a b,[u5M],[],[]⟩
theorem adi (a b:List UInt8):acG (f15 a b)=acO:=rfl
theorem adu (a b:List UInt8):acz (c15 a b) (f15 a b) acO=([],0):=rfl
theorem adt (a b:List UInt8):acz (c15 a b) (f15 a b) adl=([],90):=rfl
theorem adq (a b:List UInt8):acz (c15 a b) (g15 a b) acO=([GL u5M],0):=rfl
theorem ado:∃ x:List UInt8,jS h0 0=(x,0)/\x.length=32/\x≠h0:=by
 have hl:=mZ oe 0
 have e:jS h0 0=(mj (pl 0) 48 h0,0):=by
  unfold jS
  rw[show okN 0=true from by decide,cond_true]
 rw[e]at hl
 refine⟨_,e,hl,fun h=>?_⟩
 have hp:pl 0=2 ^ 48-1:=by decide
 have hz:h0=mE:=by decide
 have:=adm
 rw[<- hp,<- hz,h]at this
 exact absurd this (by decide)
theorem adf {a b x y:List UInt8}(h:jS h0 0=(x,0)):acx (c15 a b) (acD y)=decide (x=y):=by
 unfold acx
 rw[if_pos (show (0:Int)<(acD y).next from (by decide:(0:Int)<1))]
 have e:(acD y).next-1=0:=rfl
 rw[e,show (c15 a b).seed=h0 from rfl,h,dT_ (show (acD y).next≤281474976710655 from (by decide:(1:Int)≤281474976710655)),Bool.true_and,dT_ (show (0:Int)=0 from rfl),Bool.true_and]
 rfl
theorem ads {a b x:List UInt8}(h:jS h0 0=(x,0)) (hx:x≠h0):acz (c15 a b) (f15 a b) (acD h0)=([],100):=by
 have hp:acx (c15 a b) (acD h0)=false:=by rw[adf h,dF_ hx]
 have hj:acy (c15 a b) (f15 a b) (acD h0)=100:=by
  unfold acy
  rw[if_neg (show ¬ (acD h0).kind≠6 from fun hh=>hh rfl),if_pos hp]
 unfold acz
 rw[hj,if_pos (by decide)]
theorem adr {a b x:List UInt8}(h:jS h0 0=(x,0)):acz (c15 a b) (f15 a b) (acD x)=([],180):=by
 have hp:acx (c15 a b) (acD x)=true:=by rw[adf h,dT_ rfl]
 have hj:acy (c15 a b) (f15 a b) (acD x)=180:=by
  unfold acy
  rw[if_neg (show ¬ (acD x).kind≠6 from fun hh=>hh rfl),if_neg (by rw[hp];decide),if_pos (show (f15 a b).s.loc<(acD x).next from (by decide:(0:Int)<1))]
 unfold acz
 rw[hj,if_pos (by decide)]
section
variable {F0:List AId}{G0 G:ak}{ps:List LP}{Q:ah->ak->Prop}
theorem ada {x:List UInt8}(h:x.length=32):bj T aW [(0,.int .i64 6),(3,.int .i64 1),(4,.int .i64 1),(6,.agg (x.map u8v))]=some (acD x).av:=
 uo (fun p hp=>by
  simp only[List.mem_cons,List.not_mem_nil,or_false]at hp
  rcases hp with rfl|rfl|rfl|rfl
  ·rfl
  ·rfl
  ·rfl
  ·exact oJ h) rfl
theorem dK.use {c:CfM}(hc:c.ok) (hQ:∀ G',Ch [] G [] G'->Q (.tuple [(mm c).1.av .nilSlice .nilSlice .nilSlice,.int .i64 (mm c).2]) G'):al P dK.n [c.av] G Q:=by
 refine dK.sound ?_
 unfold dK.S
 rw[EV]
 have hok:=pN hc
 intro i1 f1
 have s1:=(Sp.nil G).row f1 c.av
 intro i3 f3
 have s3:=s1.row f3 (StM.zero.av .nilSlice .nilSlice .nilSlice)
 revert s3
 generalize ak.upd _ i3 _=G4
 intro s3
 have hg:=au.own (i:=1) s3 rfl
 intro J35
 have bad:nF c->J35 (.bool true) G4:=by
  intro hb
  unfold mm at hQ
  rw[if_pos hb]at hQ
  simp -zeta only [J35,aN]
  refine ae (v:=StM.zero.av .nilSlice .nilSlice .nilSlice) rfl ?_
  refine St.st (i:=0) s3 rfl StM.bq lv0 StM.bq lv0 fun G23 s23=>?_
  refine ae (St.ld (au.own (i:=0) s23 rfl) StM.bq lv0) ?_
  exact hQ _ s23.ch
 have lK:¬ nF c->J35 (.bool false) G4:=by
  intro hb
  have h2:right c.cap=true:=by
   have h1:¬ right c.cap=false:=fun hh=>hb (.inr (.inr (.inr (.inl hh))))
   simpa using h1
  have h3:=lZ.1 h2
  have h4:¬ c.ours<0:=fun hh=>hb (.inr (.inr (.inr (.inr (.inl hh)))))
  have h5:¬ c.cap<c.ours:=fun hh=>hb (.inr (.inr (.inr (.inr (.inr hh)))))
  unfold mm at hQ hok
  rw[if_neg hb]at hQ hok
  simp -zeta only [J35,aK]
  refine ae (Cf.lJ hg hc) ?_
  refine ae (Cf.mL hg hc) ?_
  refine ae (Cf.dM hg hc) ?_
  refine ae (Cf.mL hg hc) ?_
  refine ae (Cf.dM hg hc) ?_
  rw[b7,i64_in (by omega) (by omega),aa]
  refine ae (Cf.Am hg hc) ?_
  refine ae (yB hc.ptsA hc.ptsB) ?_
  refine St.st (i:=0) s3 rfl StM.bq lv0 hok lv0 fun G33 s33=>?_
  refine ae (St.ld (au.own (i:=0) s33 rfl) hok lv0) ?_
  exact hQ _ s33.ch
 refine ae (Cf.lJ hg hc) ?_
 rw[aM,aa,aI]
 refine⟨fun h=>bad (.inl h),fun h1=>?_⟩
 refine ae (Cf.lJ hg hc) ?_
 rw[da,aa,aI]
 refine⟨fun h=>bad (.inr (.inl h)),fun h2=>?_⟩
 refine ae (Cf.mL hg hc) ?_
 rw[aM,aa,aI]
 refine⟨fun h=>bad (.inr (.inr (.inl h))),fun h3=>?_⟩
 refine ae (Cf.mL hg hc) ?_
 rw[da,aa,aI]
 have hr:right c.cap=decide (c.cap≤1152921504606846976):=by
  cases hh:right c.cap with
  | true=>rw[dT_ (lZ.1 hh).2]
  | false=>
   by_cases h:c.cap≤1152921504606846976
   ·rw[lZ.2 ⟨by omega,h⟩]at hh;cases hh
   ·rw[dF_ h]
 refine⟨fun h=>bad (.inr (.inr (.inr (.inl (by rw[hr,dF_ (by omega)]))))),fun h4=>?_⟩
 have h4:right c.cap=true:=by rw[hr,dT_ (by omega)]
 refine ae (Cf.dM hg hc) ?_
 rw[aM,aa,aI]
 refine⟨fun h=>bad (.inr (.inr (.inr (.inr (.inl h))))),fun h5=>?_⟩
 refine ae (Cf.dM hg hc) ?_
 refine ae (Cf.mL hg hc) ?_
 rw[da,aa]
 by_cases h6:c.cap<c.ours
 ·rw[dT_ h6]
  exact bad (.inr (.inr (.inr (.inr (.inr h6)))))
 ·rw[dF_ h6]
  exact lK (by rintro (h | h | h | h | h | h);exact h1 h;exact h2 h;exact h3 h;(rw[h4]at h;cases h);exact h5 h;exact h6 h)
theorem adg {v:ah}{l:List cr}{j:Nat}{u:cr}(h:ff 70 G v (l.map cr.av)) (hj:l[j]?=some u):∃ a,aO T bR v (.int .i64 (j:Int))=some a/\ag T G aW a=some u.av:=
 h.at_ (k:=.i64) (i:=iJ) (ie:=il) (T:=T) (t:=bR) (e:=aW) gP rfl eQ (by rw[List.getElem?_map,hj];rfl) rfl
theorem acM {v:ah}{l:List cr}(h:ff 70 G v (l.map cr.av)):fU T G bR v=some (.int .i64 (l.length:Nat)):=by
 rw[h.len (i:=iJ) gP rfl,List.length_map]
theorem acq.use {v w:ah}{a b:List cr}(ha:ff 70 G v (a.map cr.av)) (hb:ff 70 G w (b.map cr.av)) (oa:∀ m∈a,m.ok) (ob:∀ m∈b,m.ok) (la:a.length≤1000000000) (lb:b.length≤1000000000)
  (hQ:Q (.bool (decide (a=b))) G):al P acq.n [v,w] G Q:=by
 refine acq.sound ?_
 unfold acq.S
 refine ae (acM ha) ?_
 refine ae (acM hb) ?_
 rw[cD,aa,dC]
 refine⟨fun h1=>?_,fun h1=>?_⟩
 ·rw[dF_ (fun h=>h1 (by rw[h]))]at hQ
  exact hQ
 have hlen:a.length=b.length:=by omega
 intro R hR
 have loop:∀ (n j:Nat),a.length-j=n->j≤a.length->a.take j=b.take j->R [v,w,.int .i64 (j:Int)] G:=by
  intro n
  induction n with
  | zero=>
   intro j hn hj he
   refine hR _ _ _ _ ?_
   refine ae (acM ha) ?_
   rw[aM,aa,aI]
   refine⟨fun h=>absurd h (by omega),fun _=>?_⟩
   have hjl:j=a.length:=by omega
   rw[hjl,List.take_length,hlen,List.take_length]at he
   rw[dT_ he]at hQ
   exact hQ
  | succ n ih=>
   intro j hn hj he
   obtain⟨x,hx⟩:∃ x,a[j]?=some x:=⟨_,List.getElem?_eq_getElem (by omega)⟩
   obtain⟨y,hy⟩:∃ y,b[j]?=some y:=⟨_,List.getElem?_eq_getElem (by omega)⟩
   refine hR _ _ _ _ ?_
   refine ae (acM ha) ?_
   rw[aM,aa,aI]
   refine⟨fun _=>?_,fun h=>absurd (by omega) h⟩
   obtain⟨p,p1,p2⟩:=adg ha hx
   obtain⟨q,q1,q2⟩:=adg hb hy
   refine ae p1 ?_
   refine ae p2 ?_
   refine ae q1 ?_
   refine ae q2 ?_
   rw[ac5 (oa x (List.mem_of_getElem? hx)) (ob y (List.mem_of_getElem? hy)),aa,dC]
   refine⟨fun h2=>?_,fun h2=>?_⟩
   ·rw[dF_ (fun h=>h2 (by rw[h,hy]at hx;exact (Option.some.inj hx).symm))]at hQ
    exact hQ
   ·rw[bg,i64_in (by omega) (by omega),aa]
    refine ih (j+1) (by omega) (by omega) ?_
    rw[List.take_add_one,List.take_add_one,he,hx,hy,h2]
 exact loop a.length 0 rfl (by omega) rfl
theorem adn {a b:List UInt8}{v:ah}(ha:a.length=32) (hb:b.length=32) {ps:List LP}{G0 G:ak}{i:Nat}(s:Sp F0 G0 ps G) (hi:ps[i]?=some (bm 36 v ([u5M].map aL.av))):ka G (g15 a b) v .nilSlice .nilSlice:=
 ⟨(f15_in ha hb G).ok,Own.nj (bm.own s hi),hJ.nil,hJ.nil,by intro u hu;rw[List.mem_singleton.1 hu];exact acQ,by simp[g15],by simp[g15],by simp[g15],by simp[g15],by simp[g15]⟩
theorem acj.use (hT:Tab G) (hQ:∀ G',Ch [] G [] G'->Q (.bool true) G'):al P acj.n [] G Q:=by
 refine acj.sound ?_
 unfold acj.S
 refine ae (v:=d15.av) rfl ?_
 refine cQ.use FO fun G3 c3=>?_
 have s3:=(Sp.nil G).tmp c3
 obtain⟨x,hx⟩:∃ z,z=pB h0 0:=⟨_,rfl⟩
 obtain⟨y,hy⟩:∃ z,z=pB h0 1:=⟨_,rfl⟩
 have lx:x.length=32:=by rw[hx];exact mK _ _
 have ly:y.length=32:=by rw[hy];exact mK _ _
 have e0:FW d15=c15 x y:=by rw[hx,hy];rfl
 obtain⟨C1,hC1⟩:∃ C,C=FV d15:=⟨_,rfl⟩
 rw[e0,<- hC1]
 have hc:(c15 x y).ok:=by rw[<- e0];exact Dd FO
 have hS:=f15_in lx ly
 have hso:=(hS G).ok
 refine ae (JL hc (by rw[hC1];exact Dc FO)) ?_
 refine Cf.nw s3 hc fun i5 G7 s7=>?_
 refine ae (Cf.ld (au.own (i:=0) s7 rfl) hc) ?_
 refine dK.use hc fun G10 c10=>?_
 have s10:=s7.tmp c10
 rw[IP]
 refine ae (tv0 _ _) ?_
 refine ae (tv1 _ _) ?_
 refine St.nw s10 hso lv0 fun i13 G15 s15=>?_
 refine ae (Cf.ue (au.own (i:=1) s15 rfl) hc) ?_
 obtain⟨X,hX,ab6,aca⟩:=ado
 refine cI.use oe fun G18 c18=>?_
 have s18:=s15.tmp c18
 rw[show (c15 x y).seed=h0 from rfl]
 rw[hX]
 refine ae (hi0 _) ?_
 refine ae (hi1 _) ?_
 refine pg s18 ab6 fun i21 G23 s23=>?_
 refine ae (Cf.ld (au.own (i:=2) s23 rfl) hc) ?_
 refine ae (St.ld (au.own (i:=1) s23 rfl) hso lv0) ?_
 refine acv.use (hT.mono s23.ro) (hS _) hc fun G27 c27=>?_
 have s27:=s23.tmp c27
 rw[adi]
 refine Kz s27 acE fun i28 G30 s30=>?_
 have s30:Sp [] G [au i28 acO.av,au i21 (.agg (X.map u8v)),au i13 ((f15 x y).s.av .nilSlice .nilSlice .nilSlice),au i5 (c15 x y).av] G30:=s30
 have ans:∀ {ps:List LP}{G1:ak}{m:cr}{e:Int}{K:ah->ak->Prop},Sp [] G ps G1->m.ok->acz (c15 x y) (f15 x y) m=([],e)->(∀ v G2,Sp [] G ps G2->K (.tuple [v,.int .i64 e]) G2) ->
   al P ach.n [(c15 x y).av,(f15 x y).s.av .nilSlice .nilSlice .nilSlice,m.av] G1 K:=by
  intro ps G1 m e K s hm he hK
  refine ach.use (hS _) hc hm fun w G2 t=>?_
  rw[he]
  exact hK w G2 (s.tmp t.ch)
 refine ae (Cf.ld (au.own (i:=3) s30 rfl) hc) ?_
 refine ae (St.ld (au.own (i:=2) s30 rfl) hso lv0) ?_
 refine ae (v:=acO.av) rfl ?_
 refine ans s30 acE (adu x y) fun v34 G35 s35=>?_
 refine ae (tv0 _ _) ?_
 refine ae (tv1 _ _) ?_
 refine ae (Cf.ld (au.own (i:=3) s35 rfl) hc) ?_
 refine ae (St.ld (au.own (i:=2) s35 rfl) hso lv0) ?_
 refine ae (v:=adl.av) rfl ?_
 refine ans s35 adk (adt x y) fun v41 G42 s42=>?_
 refine ae (tv0 _ _) ?_
 refine ae (tv1 _ _) ?_
 refine ae (Cf.ld (au.own (i:=3) s42 rfl) hc) ?_
 refine ae (St.ld (au.own (i:=2) s42 rfl) hso lv0) ?_
 refine ae (v:=(acD h0).av) rfl ?_
 refine ans s42 (ac4 oe) (ads hX aca) fun v48 G49 s49=>?_
 refine ae (tv0 _ _) ?_
 refine ae (tv1 _ _) ?_
 refine ae (Cf.ld (au.own (i:=3) s49 rfl) hc) ?_
 refine ae (St.ld (au.own (i:=2) s49 rfl) hso lv0) ?_
 refine ae (bM ab6 (au.own (i:=1) s49 rfl)) ?_
 refine ae (ada ab6) ?_
 refine ans s49 (ac4 ab6) (adr hX) fun v56 G57 s57=>?_
 refine ae (tv0 _ _) ?_
 refine ae (tv1 _ _) ?_
 refine ae (v:=u5M.av) rfl ?_
 refine Dg (T:=T) (ts:=aj) (e:=aG) (si:=dL) (ie:=cG) (n:=1) (l:=[u5M].map aL.av) bT rfl dE rfl rfl rfl rfl (by simp[aL.sz acQ,cG]) (by decide) s57 fun v61 G62 s62=>?_
 have l61:bw v61:=(bm.own (i:=0) s62 rfl).leaf
 refine St.tT (i:=3) s62 rfl hso lv0 l61 fun G63 s63=>?_
 have s63:Sp [] G [bm 36 v61 ([u5M].map aL.av),au i28 acO.av,au i21 (.agg (X.map u8v)),au i13 ((f15 x y).s.av v61 .nilSlice .nilSlice),au i5 (c15 x y).av] G63:=s63
 refine ae (Cf.ld (au.own (i:=4) s63 rfl) hc) ?_
 refine ae (St.ld (au.own (i:=3) s63 rfl) hso ⟨l61,bw.nil,bw.nil⟩) ?_
 refine ae (v:=acO.av) rfl ?_
 refine ach.use (f:=g15 x y) (adn lx ly s63 (i:=0) rfl) hc acE fun w G68 t68=>?_
 rw[adq]at t68 ⊢
 obtain⟨F68,o68,c68⟩:=t68.out
 have s68:=s63.new o68 c68
 refine ae (tv0 _ _) ?_
 refine ae (tv1 _ _) ?_
 refine ae (gx (i:=2) s68 rfl acE).2.2.2.2.2.2.2.2 ?_
 refine ae (v:=acO.av) rfl ?_
 refine ae (Bt acE acE) ?_
 rw[dT_ rfl,aN]
 have e3:∀ n:Int,az T .eql bD (.int .i64 n) (.int .i64 n)=some (.bool true):=fun n=>ez0
 refine ae (e3 0) ?_
 rw[aN]
 refine ae (e3 90) ?_
 rw[aN]
 refine ae (e3 100) ?_
 rw[aN]
 refine ae (e3 180) ?_
 rw[aN]
 refine ae (e3 0) ?_
 rw[aN]
 refine ae (v:=(GL u5M).av) rfl ?_
 refine Dg (T:=T) (ts:=bR) (e:=aW) (si:=iJ) (ie:=il) (n:=1) (l:=[GL u5M].map cr.av) gP rfl eQ rfl rfl rfl rfl (by simp[cr.sz (vY acQ),il]) (by decide) s68 fun v80 G81 s81=>?_
 have ok1:∀ m∈[GL u5M],m.ok:=by intro m hm;rw[List.mem_singleton.1 hm];exact vY acQ
 refine acq.use (bm.own (i:=1) s81 rfl).is (bm.own (i:=0) s81 rfl).is ok1 ok1 (by simp) (by simp) ?_
 rw[dT_ rfl]
 exact hQ _ s81.ch
end
end Go.Esc.M
namespace Go.Esc.M
open Go Go.Esc
def oL (l:List aL) (id k:Int):Bool:=l.any fun u=>decide (u.id=id) && (!decide (u.kind=1) && (decide (k=0) || decide (u.kind=k)))
def o7 (l others:List aL):Prop:=∀ (j:Nat) (u:aL),l[j]?=some u->kJ (l.take j) others u=0
def Bx (l:List aL):Prop:=∀ (i j:Nat) (u w:aL),l[i]?=some u->l[j]?=some w->u.kind≠1->w.kind≠1->u.id=w.id->i=j
theorem yu {rm:Bool}{id:Int}{X Y:List aL}(h:(ey rm id X).isSome=true):ey rm id (X++Y)=ey rm id X:=by
 unfold ey at h ⊢
 rw[List.find?_append]
 cases hx:List.find? (uE rm id) X with
 | none=>rw[hx]at h;cases h
 | some a=>rfl
theorem vn {A X Y:List aL}{u:aL}(h:kJ A X u=0):kJ A (X++Y) u=0:=by
 unfold kJ at h ⊢
 split at h
 ·cases h
 rename_i h1
 rw[if_neg h1]
 split at h
 ·cases h
 rename_i h2
 rw[if_neg h2]
 split at h
 ·rename_i h3
  rw[if_pos h3]
  exact h
 rename_i h3
 rw[if_neg h3]
 split at h
 ·cases h
 rename_i h4
 have h4':(ey false u.id X).isSome=true:=(Bool.not_eq_false _).mp h4
 rw[yu h4',if_neg h4]
 exact h
theorem FH {l X Y:List aL}(h:o7 l X):o7 l (X++Y):=fun j u hj=>vn (h j u hj)
theorem B8 {l m:List aL}{a b:Nat}(h:o7 l (m.take a)) (hab:a≤b):o7 l (m.take b):=by
 rw[<- rV hab]
 exact FH h
theorem At {l X:List aL}{u:aL}(h:o7 l X) (hu:kJ l X u=0):o7 (l++[u]) X:=by
 intro j w hj
 by_cases hl:j<l.length
 ·rw[List.getElem?_append_left hl]at hj
  rw[List.take_append_of_le_length (by omega)]
  exact h j w hj
 ·have hb:=(List.getElem?_eq_some_iff.1 hj).1
  rw[List.length_append,List.length_singleton]at hb
  have e:j=l.length:=by omega
  subst e
  rw[List.getElem?_append_right (by omega)]at hj
  simp at hj
  subst hj
  rw[List.take_append_of_le_length (Nat.le_refl _),List.take_length]
  exact hu
section
variable {l X:List aL} (h:o7 l X)
include h
theorem tD:∀ u∈l,dp u=true:=by
 intro u hu
 obtain⟨j,hj⟩:=List.getElem?_of_mem hu
 exact (nG (h j u hj)).1
theorem B7:l.length≤2048:=by
 refine Classical.byContradiction fun hn=>?_
 obtain⟨u,hu⟩:∃ u,l[2048]?=some u:=⟨_,List.getElem?_eq_getElem (by omega)⟩
 have:=h 2048 u hu
 unfold kJ at this
 rw[if_pos (by rw[List.length_take];omega)]at this
 cases this
theorem ui:rA l:=by
 intro j u hj hk
 exact (nG (h j u hj)).2.1 hk
theorem Au:∀ u∈l,u.kind≠1->∃ w∈X,w.kind=1/\w.id=u.id:=by
 intro u hu hk
 obtain⟨j,hj⟩:=List.getElem?_of_mem hu
 obtain⟨b,_,h2,h3,h4⟩:=sv ((nG (h j u hj)).2.2 hk).1
 exact⟨b,h2,h3,h4⟩
theorem sr:Bx l:=by
 have key:∀ {i j:Nat}{u w:aL},l[i]?=some u->l[j]?=some w->u.kind≠1->w.kind≠1->u.id=w.id->i<j->False:=by
  intro i j u w hi hj hu hw he hlt
  have h1:=((nG (h j w hj)).2.2 hw).2.1
  have hv:∀ a∈l.take j,dp a=true:=fun a ha=>tD h a (List.mem_of_mem_take ha)
  refine AB hv h1 u ?_ hu he
  refine List.mem_of_getElem? (i:=i) ?_
  rw[List.getElem?_take_of_lt hlt]
  exact hi
 intro i j u w hi hj hu hw he
 rcases Nat.lt_trichotomy i j with h1|h1|h1
 ·exact (key hi hj hu hw he h1).elim
 ·exact h1
 ·exact (key hj hi hw hu he.symm h1).elim
end
theorem tO {l:List aL}(h:Bx l) (n:Nat):Bx (l.take n):=by
 intro i j u w hi hj
 have li:=(List.getElem?_eq_some_iff.1 hi).1
 have lj:=(List.getElem?_eq_some_iff.1 hj).1
 rw[List.length_take]at li lj
 rw[List.getElem?_take_of_lt (by omega)]at hi hj
 exact h i j u w hi hj
theorem tX {id:Int}:∀ {l:List aL},jH id l≠0->∃ u∈l,u.kind≠1/\u.id=id/\u.kind=jH id l
 | [],h=>absurd rfl h
 | u::l,h=>by
  by_cases hr:m8 id u=true
  ·have e:jH id (u::l)=u.kind:=if_pos hr
   simp only[m8,Bool.and_eq_true,decide_eq_true_eq]at hr
   exact⟨u,by simp,hr.1,hr.2.1,e.symm⟩
  ·have e:jH id (u::l)=jH id l:=if_neg hr
   rw[e]at h ⊢
   obtain⟨w,h1,h2⟩:=tX h
   exact⟨w,by simp[h1],h2⟩
theorem GF {id:Int}{l:List aL}(hv:∀ u∈l,dp u=true) {u:aL}(hu:u∈l) (hk:u.kind≠1) (hi:u.id=id):jH id l≠0:=by
 induction l with
 | nil=>cases hu
 | cons w l ih=>
  by_cases hr:m8 id w=true
  ·have e:jH id (w::l)=w.kind:=if_pos hr
   rw[e];exact sn hr
  ·have e:jH id (w::l)=jH id l:=if_neg hr
   rw[e]
   rcases List.mem_cons.1 hu with rfl|hu
   ·exact absurd (by simp[m8,hk,hi,hv u (by simp)]) hr
   ·exact ih (fun x hx=>hv x (by simp[hx])) hu
theorem tW {l:List aL}{id k:Int}:oL l id k=true ↔ ∃ u∈l,u.id=id/\u.kind≠1/\(k=0\/u.kind=k):=by
 unfold oL
 rw[List.any_eq_true]
 simp only[Bool.and_eq_true,Bool.or_eq_true,decide_eq_true_eq,Bool.not_eq_true',decide_eq_false_iff_not]
theorem Mj {l:List aL}(hv:∀ u∈l,dp u=true) (id:Int):oL l id 0=!decide (jH id l=0):=by
 by_cases h:jH id l=0
 ·rw[dT_ h,Bool.not_true,Bool.eq_false_iff]
  intro hr
  obtain⟨u,h1,h2,h3,_⟩:=tW.1 hr
  exact GF hv h1 h3 h2 h
 ·rw[dF_ h,Bool.not_false]
  obtain⟨u,h1,h2,h3,_⟩:=tX h
  exact tW.2 ⟨u,h1,h3,h2,.inl rfl⟩
theorem K5 {l:List aL}(hv:∀ u∈l,dp u=true) (hu:Bx l) (id:Int) {k:Int}(hk:k≠0):oL l id k=decide (jH id l=k):=by
 by_cases h:jH id l=k
 ·rw[dT_ h]
  obtain⟨u,h1,h2,h3,h4⟩:=tX (id:=id) (l:=l) (by rw[h];exact hk)
  exact tW.2 ⟨u,h1,h3,h2,.inr (h4.trans h)⟩
 ·rw[dF_ h,Bool.eq_false_iff]
  intro hr
  obtain⟨u,h1,h2,h3,h4⟩:=tW.1 hr
  have h5:u.kind=k:=h4.resolve_left hk
  obtain⟨w,k1,k2,k3,k4⟩:=tX (GF hv h1 h3 h2)
  obtain⟨i,hi⟩:=List.getElem?_of_mem h1
  obtain⟨j,hj⟩:=List.getElem?_of_mem k1
  have:=hu i j u w hi hj h3 k2 (h2.trans k3.symm)
  subst this
  rw[hi]at hj
  injection hj with hj
  subst hj
  exact h (k4.symm.trans h5)
theorem zR {l:List aL}(hv:∀ u∈l,dp u=true) (id:Int):(ey true id l).isSome=oL l id 0:=by
 rw[<- FI hv]
 unfold Lb oL
 congr 1
 funext u
 cases decide (u.id=id)<;>cases decide (u.kind=1)<;>rfl
def CN (r:List aL) (u:aL):Bool:=decide (u.kind=1) && !oL r u.id 3
def GH (r:List aL) (u:aL):Bool:=decide (u.kind=1) && oL r u.id 2
def CV (r:List aL) (u:aL):Bool:=decide (u.kind=1) && !oL r u.id 0
theorem GC {r:List aL}(hv:∀ u∈r,dp u=true) (hu:Bx r):CN r=stays r:=by
 funext u
 unfold CN stays
 rw[K5 hv hu _ (by decide)]
theorem Ja {r:List aL}(hv:∀ u∈r,dp u=true) (hu:Bx r):GH r=kD r:=by
 funext u
 unfold GH kD
 rw[K5 hv hu _ (by decide)]
def tl (base:Int) (own other:List aL) (fo fp:Int):Int:=base-gG (CN (cw other fp)) own+gG (GH (cw own fo)) other
def uL (own other:List aL):Nat:=(own.filter (CV other)).length
theorem Ac {own other:List aL}(hv:∀ u∈own,dp u=true) (hv2:∀ u∈other,dp u=true) (fp:Int):uL own (cw other fp)=kX own other fp:=by
 unfold uL kX ml
 rw[List.length_map]
 congr 1
 refine List.filter_congr fun u hu=>?_
 rw[hv u hu,Bool.true_and]
 unfold CV
 rw[Mj (l:=cw other fp) (fun x hx=>hv2 x (List.mem_of_mem_take hx)),Bool.not_not]
structure iY (f:StF):Prop where
 ok:f.s.ok
 oko:∀ u∈f.o,u.ok
 okp:∀ u∈f.p,u.ok
 okh:∀ x∈f.h,x.ok
 lh:f.h.length≤49
 a0:0≤f.s.atA
 a1:f.s.atA≤f.s.heldA
 a2:f.s.heldA≤f.s.sgnA
 a3:f.s.sgnA≤f.o.length
 b0:0≤f.s.heldB
 b1:f.s.heldB≤f.s.sgnB
 b2:f.s.sgnB≤f.s.atB
 b3:f.s.atB≤f.p.length
 go:o7 f.o (f.p.take f.s.heldB.toNat)
 gp:o7 f.p (f.o.take f.s.atA.toNat)
 so:0≤SB f.s.bo f.o f.p f.s.atA.toNat f.s.heldB.toNat
 sp:0≤SB f.s.bp f.p f.o f.s.heldB.toNat f.s.atA.toNat
 no:kX f.o f.p f.s.heldB≤483
 np:kX f.p f.o f.s.atA≤483
 bo:0≤f.s.bo
 bp:0≤f.s.bp
 cap:f.s.bo+f.s.bp=f.s.cap
 capm:f.s.cap≤1152921504606846976
 side:f.s.side=0\/f.s.side=1
 loc0:0≤f.s.loc
 loc1:f.s.loc≤281474976710654
 ack0:0≤f.s.ack
 rem:f.s.rem=f.s.ack\/f.s.rem=f.s.ack+1
 rem1:f.s.rem≤281474976710654
section
variable {f:StF} (I:iY f)
include I
theorem iY.fA:mM f.s=f.s.atA:=by unfold mM;have:=I.a1;split<;>omega
theorem iY.fB:mD f.s=f.s.heldB:=by unfold mD;have:=I.b1;have:=I.b2;split<;>omega
theorem iY.vo:∀ u∈f.o,dp u=true:=tD I.go
theorem iY.vp:∀ u∈f.p,dp u=true:=tD I.gp
theorem iY.lo:f.o.length≤2048:=B7 I.go
theorem iY.lp:f.p.length≤2048:=B7 I.gp
theorem iY.book:oX f.s.bo f.s.bp f.o f.p f.s.atA.toNat f.s.heldB.toNat:=
 ⟨I.oko,I.okp,I.vo,I.vp,by have:=I.a1;have:=I.a2;have:=I.a3;have:=I.a0;omega,by have:=I.b0;have:=I.b1;have:=I.b2;have:=I.b3;omega,I.lo,I.lp,ui I.go,ui I.gp,Au I.go,Au I.gp,I.so,I.sp,I.bo,I.bp,by have:=I.cap;have:=I.capm;omega⟩
theorem iY.xl:tj f=SB f.s.bo f.o f.p f.s.atA.toNat f.s.heldB.toNat/\tl f.s.bo f.o f.p (mM f.s) (mD f.s)=SB f.s.bo f.o f.p f.s.atA.toNat f.s.heldB.toNat:=by
 have hb:=I.book
 have h1:=Hm hb
 have hA:((f.s.atA.toNat:Nat):Int)=f.s.atA:=Int.toNat_of_nonneg I.a0
 have hB:((f.s.heldB.toNat:Nat):Int)=f.s.heldB:=Int.toNat_of_nonneg I.b0
 refine⟨?_,?_⟩
 ·unfold tj
  rw[I.fA,I.fB]
  have:=DW (base:=f.s.bo) (mine:=f.o) (others:=f.p) (fm:=f.s.atA.toNat) (fo:=f.s.heldB.toNat) I.vo I.vp I.bo (by have:=I.cap;have:=I.capm;have:=I.bp;omega)
  rw[hA,hB]at this
  rw[this]
  have h0:=I.so
  have:=I.cap;have:=I.capm
  unfold AJ
  split
  ·omega
  ·split<;>omega
 ·unfold tl SB cw
  rw[I.fA,I.fB,GC (fun u hu=>I.vp u (List.mem_of_mem_take hu)) (tO (sr I.gp) _),Ja (fun u hu=>I.vo u (List.mem_of_mem_take hu)) (tO (sr I.go) _)]
theorem iY.xk:th f=SB f.s.bp f.p f.o f.s.heldB.toNat f.s.atA.toNat/\tl f.s.bp f.p f.o (mD f.s) (mM f.s)=SB f.s.bp f.p f.o f.s.heldB.toNat f.s.atA.toNat:=by
 have hb:=I.book.swap
 have h1:=Hm hb
 have hA:((f.s.atA.toNat:Nat):Int)=f.s.atA:=Int.toNat_of_nonneg I.a0
 have hB:((f.s.heldB.toNat:Nat):Int)=f.s.heldB:=Int.toNat_of_nonneg I.b0
 refine⟨?_,?_⟩
 ·unfold th
  rw[I.fA,I.fB]
  have:=DW (base:=f.s.bp) (mine:=f.p) (others:=f.o) (fm:=f.s.heldB.toNat) (fo:=f.s.atA.toNat) I.vp I.vo I.bp (by have:=I.cap;have:=I.capm;have:=I.bo;omega)
  rw[hA,hB]at this
  rw[this]
  have h0:=I.sp
  have:=I.cap;have:=I.capm
  unfold AJ
  split
  ·omega
  ·split<;>omega
 ·unfold tl SB cw
  rw[I.fA,I.fB,GC (fun u hu=>I.vo u (List.mem_of_mem_take hu)) (tO (sr I.go) _),Ja (fun u hu=>I.vp u (List.mem_of_mem_take hu)) (tO (sr I.gp) _)]
theorem iY.Fh:0≤tj f/\tj f≤1152921504606846976:=by
 have h1:=Hm I.book
 have h2:=I.so
 have:=I.cap;have:=I.capm
 rw[I.xl.1];omega
theorem iY.Fg:0≤th f/\th f≤1152921504606846976:=by
 have h1:=Hm I.book.swap
 have h2:=I.sp
 have:=I.cap;have:=I.capm
 rw[I.xk.1];omega
end
end Go.Esc.M
