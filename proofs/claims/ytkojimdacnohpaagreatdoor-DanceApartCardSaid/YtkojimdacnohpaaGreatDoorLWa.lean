import Derived.Test.YtkojimdacnohpaaGreatDoorLNc
import Derived.Test.YtkojimdacnohpaaGreatDoorLUe
import Derived.Test.YtkojimdacnohpaaGreatDoorLSd
import Derived.Test.YtkojimdacnohpaaGreatDoorLFb
import Derived.Test.YtkojimdacnohpaaGreatDoorLMo
import Derived.Test.YtkojimdacnohpaaGreatDoorLSe
import Derived.Test.YtkojimdacnohpaaGreatDoorLFv
set_option maxHeartbeats 4000000
set_option linter.unusedSimpArgs false
set_option linter.unusedVariables false
set_option maxRecDepth 20000
namespace Go.Esc.M
open Go Go.Esc
def stZ:List ah:=StM.zero.cs .nilSlice .nilSlice .nilSlice
theorem JO {parts:List (Nat×ah)}{r:StM}{a b c:ah}(hs:∀ p∈parts,stZ[p.1]?.map Esc.sz=some (Esc.sz p.2)) (he:p7 stZ parts=r.cs a b c):bj T aE parts=some (r.av a b c):=by
 refine (kO (zs:=stZ) na rfl rfl rfl (pf rfl) hs).trans ?_;rw[he];rfl
theorem DU {a b c d:List UInt8}(ha:a.length=32) (hb:b.length=32) (hc:c.length=32) (hd:d.length=32):some (Esc.sz (mT a b))=some (Esc.sz (mT c d)):=by
 simp[mT,Esc.sz,szs,szh ha,szh hb,szh hc,szh hd]
theorem yB {a b c d:Int}{x y:List UInt8}(hx:x.length=32) (hy:y.length=32):bj T aE [(0,.int .i64 a),(1,.int .i64 b),(2,.int .i64 c),(3,.int .i64 d),(13,mT x y),(17,.int .i64 (-1))]=some (({ StM.zero with side:=a,cap:=b,bo:=c,bp:=d,ptsA:=x,ptsB:=y,closed:=-1 }:StM).av .nilSlice .nilSlice .nilSlice):=by
 refine JO (fun p hp=>?_) rfl;simp only[List.mem_cons,List.not_mem_nil,or_false]at hp;rcases hp with rfl|rfl|rfl|rfl|rfl|rfl
 ·rfl
 ·rfl
 ·rfl
 ·rfl
 ·exact DU oe oe hx hy
 ·rfl
theorem pN {c:CfM}(h:c.ok):(mm c).1.ok:=by
 unfold mm;by_cases hb:nF c
 ·rw[if_pos hb];exact StM.bq
 ·rw[if_neg hb];have h1:¬ right c.cap=false:=fun hh=>hb (.inr (.inr (.inr (.inl hh))));have h2:right c.cap=true:=by simpa using h1
  have h3:=lZ.1 h2;have h4:¬ c.ours<0:=fun hh=>hb (.inr (.inr (.inr (.inr (.inl hh)))));have h5:¬ c.cap<c.ours:=fun hh=>hb (.inr (.inr (.inr (.inr (.inr hh)))));exact⟨h.side,h.cap,h.ours,iu (c.cap-c.ours) (by omega) (by omega),cL,cL,cL,cL,cL,cL,cL,cL,cL,h.ptsA,h.ptsB,rfl,cL,iu (-1) (by decide) (by decide)⟩
section
variable {F0:List AId}{G0 G:ak}{ps:List LP}{Q:ah->ak->Prop}
theorem iv.use {c:CfM}(hc:c.ok) (hQ:∀ G',Ch [] G [] G'->Q (.tuple [(mm c).1.av .nilSlice .nilSlice .nilSlice,.int .i64 (mm c).2]) G'):al P iv.n [c.av] G Q:=by
 refine iv.sound ?_;unfold iv.S;rw[EV];have hok:=pN hc;intro i1 f1;have s1:=(Sp.nil G).row f1 c.av;intro i3 f3;have s3:=s1.row f3 (StM.zero.av .nilSlice .nilSlice .nilSlice);revert s3;generalize ak.upd _ i3 _=G4;intro s3;have hg:=au.own (i:=1) s3 rfl;intro J35;have bad:nF c->J35 (.bool true) G4:=by
  intro hb;unfold mm at hQ;rw[if_pos hb]at hQ;simp -zeta only [J35,aN];refine ae (v:=StM.zero.av .nilSlice .nilSlice .nilSlice) rfl ?_;refine St.st (i:=0) s3 rfl StM.bq lv0 StM.bq lv0 fun G23 s23=>?_;refine ae (St.ld (au.own (i:=0) s23 rfl) StM.bq lv0) ?_;exact hQ _ s23.ch
 have lK:¬ nF c->J35 (.bool false) G4:=by
  intro hb;have h2:right c.cap=true:=by
   have h1:¬ right c.cap=false:=fun hh=>hb (.inr (.inr (.inr (.inl hh))));simpa using h1
  have h3:=lZ.1 h2;have h4:¬ c.ours<0:=fun hh=>hb (.inr (.inr (.inr (.inr (.inl hh)))));have h5:¬ c.cap<c.ours:=fun hh=>hb (.inr (.inr (.inr (.inr (.inr hh)))));unfold mm at hQ hok;rw[if_neg hb]at hQ hok;simp -zeta only [J35,aK];refine ae (Cf.lJ hg hc) ?_;refine ae (Cf.mL hg hc) ?_;refine ae (Cf.dM hg hc) ?_;refine ae (Cf.mL hg hc) ?_;refine ae (Cf.dM hg hc) ?_;rw[b7,i64_in (by omega) (by omega),aa];refine ae (Cf.Am hg hc) ?_;refine ae (yB hc.ptsA hc.ptsB) ?_;refine St.st (i:=0) s3 rfl StM.bq lv0 hok lv0 fun G33 s33=>?_;refine ae (St.ld (au.own (i:=0) s33 rfl) hok lv0) ?_;exact hQ _ s33.ch
 refine ae (Cf.lJ hg hc) ?_;rw[aM,aa,aI];refine⟨fun h=>bad (.inl h),fun h1=>?_⟩;refine ae (Cf.lJ hg hc) ?_;rw[da,aa,aI];refine⟨fun h=>bad (.inr (.inl h)),fun h2=>?_⟩;refine ae (Cf.mL hg hc) ?_;rw[aM,aa,aI];refine⟨fun h=>bad (.inr (.inr (.inl h))),fun h3=>?_⟩;refine ae (Cf.mL hg hc) ?_;refine gk.use ?_;rw[dx,aa];cases h4:right c.cap with
 | false=>exact bad (.inr (.inr (.inr (.inl h4))))
 | true=>
  rw[Bool.not_true,aK];refine ae (Cf.dM hg hc) ?_;rw[aM,aa,aI];refine⟨fun h=>bad (.inr (.inr (.inr (.inr (.inl h))))),fun h5=>?_⟩;refine ae (Cf.dM hg hc) ?_;refine ae (Cf.mL hg hc) ?_;rw[da,aa];by_cases h6:c.cap<c.ours
  ·rw[dT_ h6];exact bad (.inr (.inr (.inr (.inr (.inr h6)))))
  ·rw[dF_ h6];exact lK (by rintro (h | h | h | h | h | h);exact h1 h;exact h2 h;exact h3 h;(rw[h4]at h;cases h);exact h5 h;exact h6 h)
theorem bP.use {f:StF}{vo vp vh:ah}(hS:ka G f vo vp vh) (hQ:∀ wo wp wh G',Sp [] G [bm 34 wh (f.h.map b6.av),bm 36 wp (f.p.map aL.av),bm 36 wo (f.o.map aL.av)] G'->Q (f.s.av wo wp wh) G'):al P bP.n [f.s.av vo vp vh] G Q:=by
 have ho:=hS.ok;have hl:=hS.lv;have hlo:=hS.lo;have hlp:=hS.lp;have hlh:=hS.lh;refine bP.sound ?_;unfold bP.S;rw[EV];intro i1 f1;have s1:=(Sp.nil G).row f1 (f.s.av vo vp vh);intro i3 f3;have s3:=s1.row f3 (StM.zero.av .nilSlice .nilSlice .nilSlice);revert s3;generalize ak.upd _ i3 _=G4;intro s3;refine ae (St.dM (au.own (i:=1) s3 rfl) ho hl) ?_;have grow:∀ {ps:List LP}{G1:ak}{x:ah}{l:List aL}{K:ah->ak->Prop},Sp [] G ps G1->ff 36 G x (l.map aL.av)->(∀ u∈l,u.ok)->l.length≤1048576->(∀ w G2,Sp [] G (bm 36 w (l.map aL.av)::ps) G2->K w G2)->cn T G1 aj aj .nilSlice x K:=by
  intro ps G1 x l K s hx hok hlen hK;refine uN (T:=T) (ts:=aj) (e:=aG) (si:=dL) (ie:=cG) (tx:=aj) (xi:=dL) (i:=0) (vs:=[]) (xs:=l.map aL.av) bT rfl dE rfl (by decide) bT (.inr ⟨_,rfl⟩) (s.nz 36) rfl (hx.ch' s.ch).elems (nW hok).1 (nW hok).2 (by rw[show cG.bytes=72 from rfl,List.length_map];simp;omega) fun w G5 s5=>?_;exact hK w G5 s5
 refine grow s3 hS.o.gZ hS.oko hS.lo fun wo G7 s7=>?_;have lo:bw wo:=(bm.own (i:=0) s7 rfl).leaf;refine St.tT (i:=2) s7 rfl ho hl lo fun G8 s8=>?_;refine ae (St.eH (au.own (i:=2) s8 rfl) ho ⟨lo,hl.2.1,hl.2.2⟩) ?_;refine grow s8 hS.p.gZ hS.okp hS.lp fun wp G11 s11=>?_;have lp:bw wp:=(bm.own (i:=0) s11 rfl).leaf;refine St.tg (i:=3) s11 rfl ho ⟨lo,hl.2.1,hl.2.2⟩ lp fun G12 s12=>?_;refine ae (St.l6 (au.own (i:=3) s12 rfl) ho ⟨lo,lp,hl.2.2⟩) ?_;refine uN (T:=T) (ts:=aV) (e:=cz) (si:=jr) (ie:=kv) (tx:=aV) (xi:=jr) (i:=0) (vs:=[]) (xs:=f.h.map b6.av) gz rfl jN rfl (by decide) gz (.inr ⟨_,rfl⟩) (s12.nz 34) rfl (hS.h.gZ.ch' s12.ch).elems (wV hS.okh) (sa f.h) (by rw[show kv.bytes=48 from rfl,List.length_map];simp;omega) fun wh G15 s15=>?_;have lh:bw wh:=(bm.own (i:=0) s15 rfl).leaf;refine St.vO (i:=4) s15 rfl ho ⟨lo,lp,hl.2.2⟩ lh fun G16 s16=>?_;refine ae (St.ld (au.own (i:=4) s16 rfl) ho ⟨lo,lp,lh⟩) ?_;refine St.st (i:=3) s16 rfl StM.bq lv0 ho ⟨lo,lp,lh⟩ fun G18 s18=>?_;refine ae (St.ld (au.own (i:=3) s18 rfl) ho ⟨lo,lp,lh⟩) ?_;exact hQ wo wp wh G18 ((s18.erase 3).erase 3)
theorem ka.copy {f:StF}{vo vp vh wo wp wh:ah}{G1:ak}{i j k:Nat}(hS:ka G f vo vp vh) (s:Sp F0 G0 ps G1) (ho:ps[i]?=some (bm 36 wo (f.o.map aL.av))) (hp:ps[j]?=some (bm 36 wp (f.p.map aL.av))) (hh:ps[k]?=some (bm 34 wh (f.h.map b6.av))):ka G1 f wo wp wh:=
 ⟨hS.ok,Own.nj (bm.own s ho),Own.nj (bm.own s hp),Own.nj (bm.own s hh),hS.oko,hS.okp,hS.okh,hS.lo,hS.lp,hS.lh⟩
def pB (s:List UInt8) (n:Int):List UInt8:=sha (jS s n).1
theorem mK (s:List UInt8) (n:Int):(pB s n).length=32:=je _
theorem dB.use {s:List UInt8}{n:Int}(hs:s.length=32) (hQ:∀ G',Ch [] G [] G'->Q (.agg ((pB s n).map u8v)) G'):al P dB.n [.agg (s.map u8v),.int .i64 n] G Q:=by
 refine dB.sound ?_;unfold dB.S;rw[mF];intro i1 f1;have s1:=(Sp.nil G).row f1 (.agg (s.map u8v));intro i3 f3;have s3:=s1.row f3 (.agg ((List.replicate 32 (0:UInt8)).map u8v));rw[<- mF];refine ae (bM hs (au.own (i:=1) s3 rfl)) ?_;refine cI.use hs fun G7 c7=>?_;have s7:=s3.tmp c7;have hx:=mZ hs n;refine ae (hi0 _) ?_;refine ae (hi1 _) ?_;refine pg s7 hx fun i10 G12 s12=>?_;refine ae (bM hx (au.own (i:=0) s12 rfl)) ?_;refine cA.use hx fun G15 c15=>?_;have s15:=s12.tmp c15;have hz:(sha (jS s n).1).length=32:=je _;refine sq (i:=1) s15 rfl (by simp) hz fun G16 s16=>?_;refine ae (bM hz (au.own (i:=1) s16 rfl)) ?_;exact hQ _ s16.ch
def nU (a b:CfM):ah:=.agg [a.av,b.av]
def CfM.zero:CfM:=⟨0,0,0,h0,h0,h0,h0,h0,0⟩
theorem CfM.bq:CfM.zero.ok:=⟨cL,cL,cL,rfl,rfl,rfl,rfl,rfl,cL⟩
def cfZ:List ah:=CfM.zero.cs
theorem He {a b:CfM}(ha:a.ok) (hb:b.ok):[a.av,b.av].map Esc.sz=[164,164]:=by simp[CfM.sz ha,CfM.sz hb]
theorem AM {a b:CfM}(ha:a.ok) (hb:b.ok):dD jO (nU a b)=true:=by
 simp[dD,nU,Esc.sz,szs,CfM.sz ha,CfM.sz hb,jO,ah.isAgg,kZ.isAgg]
theorem JM {a b:CfM}(ha:a.ok) (hb:b.ok):Esc.sz (nU a b)=328:=by simp[nU,Esc.sz,szs,CfM.sz ha,CfM.sz hb]
theorem KQ (a b:CfM):Esc.okv (nU a b)=true:=by simp[nU,Esc.okv,mz,CfM.okv]
theorem My:mP=nU CfM.zero CfM.zero:=rfl
theorem EE {a b c:Int}{x y z p q:List UInt8}(hx:x.length=32) (hy:y.length=32) (hz:z.length=32) (hp:p.length=32) (hq:q.length=32) :
  bj T bU [(0,.int .i64 a),(1,.int .i64 b),(2,.int .i64 c),(3,.agg (x.map u8v)),(4,.agg (y.map u8v)),(5,.agg (z.map u8v)),(6,mT p q),(7,.int .i64 4096)]=some (CfM.av ⟨a,b,c,x,y,z,p,q,4096⟩):=by
 refine (kO (zs:=cfZ) kp rfl rfl rfl (pf rfl) fun r hr=>?_).trans rfl;simp only[List.mem_cons,List.not_mem_nil,or_false]at hr;rcases hr with rfl|rfl|rfl|rfl|rfl|rfl|rfl|rfl
 ·rfl
 ·rfl
 ·rfl
 ·exact oJ hx
 ·exact oJ hy
 ·exact oJ hz
 ·exact DU oe oe hp hq
 ·rfl
theorem AR {p q:List UInt8}(hp:p.length=32) (hq:q.length=32):bj T cc [(0,.agg (p.map u8v)),(1,.agg (q.map u8v))]=some (mT p q):=by
 refine (EF (zs:=[.agg (h0.map u8v),.agg (h0.map u8v)]) mf rfl bZ rfl ?_ fun r hr=>?_).trans rfl
 ·simp[Esc.uni,Esc.sz,szh oe,dQ]
 ·simp only[List.mem_cons,List.not_mem_nil,or_false]at hr;rcases hr with rfl|rfl
  ·exact oJ hp
  ·exact oJ hq
def FW (d:DlM):CfM:=⟨0,d.cap,d.ours,d.seedsA,d.keysA,d.keysB,pB d.seedsB 0,pB d.seedsB 1,4096⟩
def FV (d:DlM):CfM:=⟨1,d.cap,IntKind.i64.wrap (d.cap-d.ours),d.seedsB,d.keysB,d.keysA,pB d.seedsA 0,pB d.seedsA 1,4096⟩
theorem Dd {d:DlM}(h:d.ok):(FW d).ok:=⟨cL,h.cap,h.ours,h.seedsA,h.keysA,h.keysB,mK _ _,mK _ _,iu 4096 (by decide) (by decide)⟩
theorem Dc {d:DlM}(h:d.ok):(FV d).ok:=⟨iu 1 (by decide) (by decide),h.cap,LM _,h.seedsB,h.keysB,h.keysA,mK _ _,mK _ _,iu 4096 (by decide) (by decide)⟩
theorem cQ.use {d:DlM}(hd:d.ok) (hQ:∀ G',Ch [] G [] G'->Q (nU (FW d) (FV d)) G'):al P cQ.n [d.av] G Q:=by
 refine cQ.sound ?_;unfold cQ.S;rw[My];intro i1 f1;have s1:=(Sp.nil G).row f1 d.av;intro i3 f3;have s3:=s1.row f3 (nU CfM.zero CfM.zero);intro i5 f5;have s5:=s3.row f5 (nU CfM.zero CfM.zero);revert s5;generalize ak.upd _ i5 _=G6;intro s5;have o0:=Dd hd;have o1:=Dc hd;obtain⟨C0,hC0⟩:∃ C,C=FW d:=⟨_,rfl⟩;obtain⟨C1,hC1⟩:∃ C,C=FV d:=⟨_,rfl⟩;obtain⟨b0,hb0⟩:∃ z,z=pB d.seedsB 0:=⟨_,rfl⟩;obtain⟨b1,hb1⟩:∃ z,z=pB d.seedsB 1:=⟨_,rfl⟩;obtain⟨a0,ha0⟩:∃ z,z=pB d.seedsA 0:=⟨_,rfl⟩;obtain⟨a1,ha1⟩:∃ z,z=pB d.seedsA 1:=⟨_,rfl⟩;have lb0:b0.length=32:=by rw[hb0];exact mK _ _
 have lb1:b1.length=32:=by rw[hb1];exact mK _ _
 have la0:a0.length=32:=by rw[ha0];exact mK _ _
 have la1:a1.length=32:=by rw[ha1];exact mK _ _
 have e0:C0=⟨0,d.cap,d.ours,d.seedsA,d.keysA,d.keysB,b0,b1,4096⟩:=by rw[hC0,hb0,hb1];rfl
 have e1:C1=⟨1,d.cap,IntKind.i64.wrap (d.cap-d.ours),d.seedsB,d.keysB,d.keysA,a0,a1,4096⟩:=by rw[hC1,ha0,ha1];rfl
 rw[<- hC0,<- hC1]at hQ;rw[<- hC0]at o0;rw[<- hC1]at o1;have zo:=CfM.bq;intro R7 hR7;refine hR7 _ _ _ _ _ ?_;rw[aM,aa,dT_ (by decide),aN];have hg:=au.own (i:=2) s5 rfl;refine ae (v:=.ptr i1 [1] 1) rfl ?_;refine ae (Dl.dM hg hd) ?_;rw[bB,aa,dF_ (by decide)];intro J52;rw[aK];simp -zeta only [J52];refine ae (v:=.ptr i1 [0] 0) rfl ?_;refine ae (Dl.mL hg hd) ?_;refine ae (v:=.ptr i1 [2] 2) rfl ?_;refine ae (v:=.ptr i1 [2,0] 2) rfl ?_;refine ae (Dl.pS hg hd) ?_;refine ae (v:=.ptr i1 [3] 66) rfl ?_;refine ae (v:=.ptr i1 [3,0] 66) rfl ?_;refine ae (Dl.ry hg hd) ?_;rw[b7,i64_in (by decide) (by decide),aa];refine ae (v:=.ptr i1 [3] 66) rfl ?_;refine ae (v:=.ptr i1 [3,1] 98) rfl ?_;refine ae (Dl.ru hg hd) ?_;rw[aa];refine ae (v:=.ptr i1 [2] 2) rfl ?_;refine ae (v:=.ptr i1 [2,1] 34) rfl ?_;refine ae (Dl.pR hg hd) ?_;rw[aa];refine ae (v:=.ptr i1 [2] 2) rfl ?_;refine ae (v:=.ptr i1 [2,1] 34) rfl ?_;refine ae (Dl.pR hg hd) ?_;refine dB.use hd.seedsB fun G45 c45=>?_;rw[<- hb0];have s45:=s5.tmp c45;have hg:=au.own (i:=2) s45 rfl;refine⟨⟨Dl.pR hg hd,Dl.ru hg hd,Dl.ry hg hd,Dl.pS hg hd,Dl.mL hg hd,trivial⟩,?_⟩;refine dB.use hd.seedsB fun G47 c47=>?_;rw[<- hb1];have s47:=s45.tmp c47;have hg:=au.own (i:=2) s47 rfl;refine⟨⟨Dl.ru hg hd,Dl.ry hg hd,Dl.pS hg hd,Dl.mL hg hd,trivial⟩,?_⟩;refine ae (AR lb0 lb1) ?_;refine ae (EE hd.seedsA hd.keysA hd.keysB lb0 lb1) ?_;rw[<- e0];refine ae (v:=.ptr i5 [0] 0) rfl ?_;refine fg (st1 (c:=C0.av) (au.own (i:=0) s47 rfl) (He zo zo) rfl rfl kp (CfM.fits o0) (by rw[CfM.sz o0,CfM.sz zo]) (CfM.okv)) ?_;have s51:=Sp.setRow (j:=0) s47 rfl (nU C0 CfM.zero);revert s51;show Sp [] G _ (ak.upd G47 i5 (.own (.agg ([CfM.zero.av,CfM.zero.av].set 0 C0.av))))->_;generalize ak.upd G47 i5 _=G51;intro s51;refine ae (v:=.int .i64 1) rfl ?_;refine hR7 _ _ _ _ _ ?_;rw[aM,aa,dT_ (by decide),aN];have hg:=au.own (i:=2) s51 rfl;refine ae (v:=.ptr i1 [1] 1) rfl ?_;refine ae (Dl.dM hg hd) ?_;rw[bB,aa,dT_ (by decide)];intro J52;rw[aN];refine ae (v:=.ptr i1 [0] 0) rfl ?_;refine ae (Dl.mL hg hd) ?_;refine ae (v:=.ptr i1 [1] 1) rfl ?_;refine ae (Dl.dM hg hd) ?_;rw[b7,aa];simp -zeta only [J52];refine ae (v:=.ptr i1 [0] 0) rfl ?_;refine ae (Dl.mL hg hd) ?_;refine ae (v:=.ptr i1 [2] 2) rfl ?_;refine ae (v:=.ptr i1 [2,1] 34) rfl ?_;refine ae (Dl.pR hg hd) ?_;refine ae (v:=.ptr i1 [3] 66) rfl ?_;refine ae (v:=.ptr i1 [3,1] 98) rfl ?_;refine ae (Dl.ru hg hd) ?_;rw[b7,i64_in (n:=1-1) (by decide) (by decide),aa];refine ae (v:=.ptr i1 [3] 66) rfl ?_;refine ae (v:=.ptr i1 [3,0] 66) rfl ?_;refine ae (Dl.ry hg hd) ?_;rw[aa];refine ae (v:=.ptr i1 [2] 2) rfl ?_;refine ae (v:=.ptr i1 [2,0] 2) rfl ?_;refine ae (Dl.pS hg hd) ?_;rw[aa];refine ae (v:=.ptr i1 [2] 2) rfl ?_;refine ae (v:=.ptr i1 [2,0] 2) rfl ?_;refine ae (Dl.pS hg hd) ?_;refine dB.use hd.seedsA fun G45 c45=>?_;rw[<- ha0];have s45:=s51.tmp c45;have hg:=au.own (i:=2) s45 rfl;refine⟨⟨Dl.pS hg hd,Dl.ry hg hd,Dl.ru hg hd,Dl.pR hg hd,Dl.mL hg hd,trivial⟩,?_⟩;refine dB.use hd.seedsA fun G47 c47=>?_;rw[<- ha1];have s47:=s45.tmp c47;have hg:=au.own (i:=2) s47 rfl;refine⟨⟨Dl.ry hg hd,Dl.ru hg hd,Dl.pR hg hd,Dl.mL hg hd,trivial⟩,?_⟩;refine ae (AR la0 la1) ?_;refine ae (EE hd.seedsB hd.keysB hd.keysA la0 la1) ?_;rw[<- e1];refine ae (v:=.ptr i5 [1] 164) rfl ?_;refine fg (st1 (c:=C1.av) (au.own (i:=0) s47 rfl) (He o0 zo) rfl rfl kp (CfM.fits o1) (by rw[CfM.sz o1,CfM.sz zo]) (CfM.okv)) ?_;have s51:=Sp.setRow (j:=0) s47 rfl (nU C0 C1);revert s51;show Sp [] G _ (ak.upd G47 i5 (.own (.agg ([C0.av,CfM.zero.av].set 1 C1.av))))->_;generalize ak.upd G47 i5 _=G51;intro s51;refine ae (v:=.int .i64 2) rfl ?_;refine hR7 _ _ _ _ _ ?_;rw[aM,aa,dF_ (by decide),aK];refine ae (cj mW (au.own (i:=0) s51 rfl) (AM o0 o1)) ?_;refine fg (ig (c:=nU C0 C1) mW (au.own (i:=1) s51 rfl) (AM o0 o1) (by rw[JM zo zo,JM o0 o1]) (KQ _ _)) ?_;have s55:=Sp.setRow (j:=1) s51 rfl (nU C0 C1);refine ae (cj mW (au.own (i:=1) s55 rfl) (AM o0 o1)) ?_;exact hQ _ s55.ch
end
end Go.Esc.M
namespace Go.Esc.M
open Go Go.Esc
def d15:DlM:=⟨1000,700,h0,h0,h0,h0⟩
theorem FO:d15.ok:=⟨iu 1000 (by decide) (by decide),iu 700 (by decide) (by decide),rfl,rfl,rfl,rfl⟩
def c15 (a b:List UInt8):CfM:=⟨0,1000,700,h0,h0,h0,a,b,4096⟩
def s15 (a b:List UInt8):StM:={ StM.zero with side:=0,cap:=1000,bo:=700,bp:=300,ptsA:=a,ptsB:=b,closed:=-1 }
def f15 (a b:List UInt8):StF:=⟨s15 a b,[],[],[]⟩
def h1M:List UInt8:=1::List.replicate 31 0
def u15:aL:=⟨1,0,600,h1M,[]⟩
theorem zy:u15.ok:=⟨iu 1 (by decide) (by decide),cL,iu 600 (by decide) (by decide),rfl,by decide⟩
theorem IP (a b:List UInt8):mm (c15 a b)=(s15 a b,0):=rfl
theorem IL:mm CfM.zero=(StM.zero,1):=rfl
theorem HB (a b:List UInt8):tj (f15 a b)=700:=rfl
theorem HA (a b:List UInt8):th (f15 a b)=300:=rfl
theorem Kv (a b:List UInt8):n8 (f15 a b) 701 h0=noR 130:=rfl
theorem Ku (a b:List UInt8):n8 (f15 a b) 0 h0=noR 80:=rfl
theorem Kt (a b:List UInt8):n8 (f15 a b) 600 h1M=(pe u15,0):=rfl
theorem Kn (a b:List UInt8):p6 (f15 a b)=noR 8:=rfl
theorem KS (a b:List UInt8):mU (c15 a b) (f15 a b) { cr.zero with kind:=4,index:=2 }=noC 90:=rfl
theorem LB (a b:List UInt8):jR (f15 a b) { cr.zero with kind:=5 }=noR 90:=rfl
section
variable {F0:List AId}{G0 G:ak}{ps:List LP}{Q:ah->ak->Prop}
theorem f15_in {a b:List UInt8}(ha:a.length=32) (hb:b.length=32) (G:ak):ka G (f15 a b) .nilSlice .nilSlice .nilSlice:=
 ⟨⟨cL,iu 1000 (by decide) (by decide),iu 700 (by decide) (by decide),iu 300 (by decide) (by decide),cL,cL,cL,cL,cL,cL,cL,cL,cL,ha,hb,rfl,cL,iu (-1) (by decide) (by decide)⟩,hJ.nil,hJ.nil,hJ.nil,by simp[f15],by simp[f15],by simp[f15],by simp[f15],by simp[f15],by simp[f15]⟩
theorem JL {a b:CfM}(ha:a.ok) (hb:b.ok):pz T cJ (nU a b) (.int .i64 0)=some a.av:=by
 have h1:Esc.uni 164 [a.av,b.av]=true:=by simp[Esc.uni,CfM.sz ha,CfM.sz hb]
 have h2:=CfM.fits ha;simp only[pz,nU,mW,show jO.desc=.array 2 bU from rfl,kp];have h3:Esc.uni nt.size [a.av,b.av]=true:=h1;simp[h2,h3]
theorem LI:({ cr.zero with kind:=4,index:=2 }:cr).ok:=⟨iu 4 (by decide) (by decide),cL,cL,iu 2 (by decide) (by decide),cL,rfl,rfl,by simp[cr.zero]⟩
theorem LH:({ cr.zero with kind:=5 }:cr).ok:=⟨iu 5 (by decide) (by decide),cL,cL,cL,cL,rfl,rfl,by simp[cr.zero]⟩
theorem fy.use (hT:Tab G) (hQ:∀ G',Ch [] G [] G'->Q (.bool true) G'):al P fy.n [] G Q:=by
 refine fy.sound ?_;unfold fy.S;refine ae (v:=d15.av) rfl ?_;refine cQ.use FO fun G3 c3=>?_;have s3:=(Sp.nil G).tmp c3;obtain⟨x,hx⟩:∃ z,z=pB h0 0:=⟨_,rfl⟩;obtain⟨y,hy⟩:∃ z,z=pB h0 1:=⟨_,rfl⟩;have lx:x.length=32:=by rw[hx];exact mK _ _
 have ly:y.length=32:=by rw[hy];exact mK _ _
 have e0:FW d15=c15 x y:=by rw[hx,hy];rfl
 obtain⟨C1,hC1⟩:∃ C,C=FV d15:=⟨_,rfl⟩;rw[e0,<- hC1];have hc:(c15 x y).ok:=by rw[<- e0];exact Dd FO
 have hS:=f15_in lx ly;have hso:=(hS G).ok;refine ae (JL hc (by rw[hC1];exact Dc FO)) ?_;refine Cf.nw s3 hc fun i5 G7 s7=>?_;refine ae (Cf.ld (au.own (i:=0) s7 rfl) hc) ?_;refine iv.use hc fun G10 c10=>?_;have s10:=s7.tmp c10;rw[IP];refine ae (tv0 _ _) ?_;refine ae (tv1 _ _) ?_;refine St.nw s10 hso lv0 fun i13 G15 s15=>?_;refine ae (v:=CfM.zero.av) rfl ?_;refine iv.use CfM.bq fun G18 c18=>?_;have s18:=s15.tmp c18;rw[IL];refine ae (tv0 _ _) ?_;refine ae (tv1 _ _) ?_;refine St.nw s18 StM.bq lv0 fun i21 G23 s23=>?_;have s23:Sp [] G [au i21 (StM.zero.av .nilSlice .nilSlice .nilSlice),au i13 ((f15 x y).s.av .nilSlice .nilSlice .nilSlice),au i5 (c15 x y).av] G23:=s23;intro J111;have go:∀ G2,Sp [] G [au i21 (StM.zero.av .nilSlice .nilSlice .nilSlice),au i13 ((f15 x y).s.av .nilSlice .nilSlice .nilSlice),au i5 (c15 x y).av] G2->J111 (.bool false) G2:=by
  intro G40 s40;simp -zeta only [J111,aK];refine ae (St.ld (au.own (i:=1) s40 rfl) hso lv0) ?_;refine ae (v:=.agg (h0.map u8v)) rfl ?_;refine gM.use (hS _) oe fun G45 c45=>?_;have s45:=s40.tmp c45;rw[Kv];refine ae (tr0 _) ?_;refine ae (tr1 _) ?_;refine Rc.nw s45 RcM.bq bw.nil fun i48 G50 s50=>?_;refine ae (St.ld (au.own (i:=2) s50 rfl) hso lv0) ?_;refine ae (v:=.agg (h0.map u8v)) rfl ?_;refine gM.use (hS _) oe fun G54 c54=>?_;have s54:=s50.tmp c54;rw[Ku];refine ae (tr0 _) ?_;refine ae (tr1 _) ?_;refine Rc.nw s54 RcM.bq bw.nil fun i57 G59 s59=>?_;refine ae (St.ld (au.own (i:=3) s59 rfl) hso lv0) ?_;refine ae (v:=.agg (h1M.map u8v)) rfl ?_;refine gM.use (hS _) (by rfl) fun G63 c63=>?_;have s63:=s59.tmp c63;rw[Kt];refine ae (tr0 _) ?_;refine ae (tr1 _) ?_;refine Rc.nw s63 (iR zy) bw.nil fun i66 G68 s68=>?_;refine ae (Cf.ld (au.own (i:=5) s68 rfl) hc) ?_;refine ae (St.ld (au.own (i:=4) s68 rfl) hso lv0) ?_;refine jz.use (hS _) fun G72 c72=>?_;have s72:=s68.tmp c72;rw[Kn];refine ae (tr0 _) ?_;refine ae (tr1 _) ?_;refine Rc.nw s72 RcM.bq bw.nil fun i75 G77 s77=>?_;refine ae (Cf.ld (au.own (i:=6) s77 rfl) hc) ?_;refine ae (St.ld (au.own (i:=5) s77 rfl) hso lv0) ?_;refine ae (v:=({ cr.zero with kind:=4,index:=2 }:cr).av) rfl ?_;refine jB.use (hS _) hc LI fun w G82 t82=>?_;rw[KS]at t82 ⊢;have s82:=s77.tmp t82.ch;have lw:bw w:=(bm.own (i:=0) t82 rfl).leaf;refine ae (tv0 _ _) ?_;refine ae (tv1 _ _) ?_;refine Rc.nw s82 RcM.bq lw fun i85 G87 s87=>?_;refine ae (St.ld (au.own (i:=6) s87 rfl) hso lv0) ?_;refine ae (v:=({ cr.zero with kind:=5 }:cr).av) rfl ?_;refine gL.use (hT.mono s87.ro) (hS _) LH fun G91 c91=>?_;have s91:=s87.tmp c91;rw[LB];refine ae (tr0 _) ?_;refine ae (tr1 _) ?_;refine Rc.nw s91 RcM.bq bw.nil fun i94 G96 s96=>?_;have e3:∀ n:Int,az T .eql bD (.int .i64 n) (.int .i64 n)=some (.bool true):=fun n=>ez0;refine ae (e3 130) ?_;rw[aN];refine ae (e3 80) ?_;rw[aN];refine ae (e3 0) ?_;rw[aN];have hg:=au.own (i:=3) s96 rfl;refine ae (Rc.sj hg (iR zy) bw.nil) ?_;refine ae (v:=.bool true) rfl ?_;rw[aN];refine ae (Rc.Al hg (iR zy) bw.nil) ?_;refine ae (v:=.agg (h1M.map u8v)) rfl ?_;refine ae (v:=u15.av) rfl ?_;refine ae (v:=.bool true) ?_ ?_
  ·show az T .eql aG u15.av u15.av=_;rw[Bs zy zy,dT_ rfl]
  rw[aN];refine ae (e3 8) ?_;rw[aN];refine ae (e3 90) ?_;rw[aN];refine ae (e3 90) ?_;exact hQ _ s96.ch
 have ne:∀ {t:TypeId} (n:Int),az T .neq t (.int .i64 n) (.int .i64 n)=some (.bool false):=fun n=>nz0;refine ae (ne 0) ?_;rw[aK];refine ae (ne 1) ?_;rw[aK];have hg:=au.own (i:=1) s23 rfl;refine ae (St.uM hg hso lv0) ?_;refine ae (ne 700) ?_;rw[aK];refine ae (St.tC hg hso lv0) ?_;refine ae (ne 300) ?_;rw[aK];refine ae (St.rz hg hso lv0) ?_;refine ae (ne (-1)) ?_;rw[aK];refine ae (St.ld hg hso lv0) ?_;refine eG.use (hS _) fun G34 c34=>?_;have s34:=s23.tmp c34;rw[HB];refine ae (ne 700) ?_;rw[aK];refine ae (St.ld (au.own (i:=1) s34 rfl) hso lv0) ?_;refine cR.use (hS _) fun G38 c38=>?_;have s38:=s34.tmp c38;rw[HA];refine ae (ne 300) ?_;exact go _ s38
end
theorem Du {G:ak}{R d:Nat}{v:ah}{m:Nat}(h:wt T G R (d+3) cc v m):∃ a b:List UInt8,v=mT a b/\a.length=32/\b.length=32:=by
 rw[wt]at h;simp only[mf,show mr.desc=.array 2 ar from rfl]at h;obtain⟨cs,ms,rfl,hl,hw,_⟩:=h
 match cs,ms,hl,hw with
 | [a,b],[m1,m2],_,⟨h1,h2,_⟩=>
  obtain⟨x,rfl,lx,_⟩:=Cw bZ rfl cW rfl h1;obtain⟨y,rfl,ly,_⟩:=Cw bZ rfl cW rfl h2;exact⟨x,y,rfl,lx,ly⟩
end Go.Esc.M
namespace Go.Esc.M
open Go Go.Esc
theorem ve {c:CfM}(hc:c.ok) {n:Int}(hn:I64 n):(qC c n).ok:=by
 unfold qC;split
 ·exact cr.bq
 ·exact⟨iu 5 (by decide) (by decide),cL,cL,hn,cL,je _,mZ hc.seed n,by simp[cr.zero]⟩
theorem xT {c:CfM}{f:StF}(h:f.s.ok):(tI c f).ok:=by
 unfold tI;exact⟨iu 4 (by decide) (by decide),cL,cL,h.rem,cL,gU _,rfl,by simp[cr.zero]⟩
section
variable {F0:List AId}{G0 G:ak}{ps:List LP}{Q:ah->ak->Prop}
theorem Kz {u:cr}{K:AId->ak->Prop}(hs:Sp F0 G0 ps G) (hu:u.ok) (hK:∀ i G',Sp F0 G0 (au i u.av::ps) G'->K i G'):br G (.own jF) fun i G2=>wg (aF T G2 aW (.ptr i [] 0) u.av) fun G3=>K i G3:=
 jL hs eQ (cr.fits hu) (by rw[cr.sz hu];rfl) (cr.okv u) hK
end
end Go.Esc.M
namespace Go.Esc.M
open Go Go.Esc
def u5M:aL:=⟨1,0,5,h0,[]⟩
def g15 (a b:List UInt8):StF:=⟨s15 a b,[u5M],[],[]⟩
section
variable {F0:List AId}{G0 G:ak}{ps:List LP}{Q:ah->ak->Prop}
theorem dK.use {c:CfM}(hc:c.ok) (hQ:∀ G',Ch [] G [] G'->Q (.tuple [(mm c).1.av .nilSlice .nilSlice .nilSlice,.int .i64 (mm c).2]) G'):al P dK.n [c.av] G Q:=by
 refine dK.sound ?_;unfold dK.S;rw[EV];have hok:=pN hc;intro i1 f1;have s1:=(Sp.nil G).row f1 c.av;intro i3 f3;have s3:=s1.row f3 (StM.zero.av .nilSlice .nilSlice .nilSlice);revert s3;generalize ak.upd _ i3 _=G4;intro s3;have hg:=au.own (i:=1) s3 rfl;intro J35;have bad:nF c->J35 (.bool true) G4:=by
  intro hb;unfold mm at hQ;rw[if_pos hb]at hQ;simp -zeta only [J35,aN];refine ae (v:=StM.zero.av .nilSlice .nilSlice .nilSlice) rfl ?_;refine St.st (i:=0) s3 rfl StM.bq lv0 StM.bq lv0 fun G23 s23=>?_;refine ae (St.ld (au.own (i:=0) s23 rfl) StM.bq lv0) ?_;exact hQ _ s23.ch
 have lK:¬ nF c->J35 (.bool false) G4:=by
  intro hb;have h2:right c.cap=true:=by
   have h1:¬ right c.cap=false:=fun hh=>hb (.inr (.inr (.inr (.inl hh))));simpa using h1
  have h3:=lZ.1 h2;have h4:¬ c.ours<0:=fun hh=>hb (.inr (.inr (.inr (.inr (.inl hh)))));have h5:¬ c.cap<c.ours:=fun hh=>hb (.inr (.inr (.inr (.inr (.inr hh)))));unfold mm at hQ hok;rw[if_neg hb]at hQ hok;simp -zeta only [J35,aK];refine ae (Cf.lJ hg hc) ?_;refine ae (Cf.mL hg hc) ?_;refine ae (Cf.dM hg hc) ?_;refine ae (Cf.mL hg hc) ?_;refine ae (Cf.dM hg hc) ?_;rw[b7,i64_in (by omega) (by omega),aa];refine ae (Cf.Am hg hc) ?_;refine ae (yB hc.ptsA hc.ptsB) ?_;refine St.st (i:=0) s3 rfl StM.bq lv0 hok lv0 fun G33 s33=>?_;refine ae (St.ld (au.own (i:=0) s33 rfl) hok lv0) ?_;exact hQ _ s33.ch
 refine ae (Cf.lJ hg hc) ?_;rw[aM,aa,aI];refine⟨fun h=>bad (.inl h),fun h1=>?_⟩;refine ae (Cf.lJ hg hc) ?_;rw[da,aa,aI];refine⟨fun h=>bad (.inr (.inl h)),fun h2=>?_⟩;refine ae (Cf.mL hg hc) ?_;rw[aM,aa,aI];refine⟨fun h=>bad (.inr (.inr (.inl h))),fun h3=>?_⟩;refine ae (Cf.mL hg hc) ?_;rw[da,aa,aI];have hr:right c.cap=decide (c.cap≤1152921504606846976):=by
  cases hh:right c.cap with
  | true=>rw[dT_ (lZ.1 hh).2]
  | false=>
   by_cases h:c.cap≤1152921504606846976
   ·rw[lZ.2 ⟨by omega,h⟩]at hh;cases hh
   ·rw[dF_ h]
 refine⟨fun h=>bad (.inr (.inr (.inr (.inl (by rw[hr,dF_ (by omega)]))))),fun h4=>?_⟩;have h4:right c.cap=true:=by rw[hr,dT_ (by omega)]
 refine ae (Cf.dM hg hc) ?_;rw[aM,aa,aI];refine⟨fun h=>bad (.inr (.inr (.inr (.inr (.inl h))))),fun h5=>?_⟩;refine ae (Cf.dM hg hc) ?_;refine ae (Cf.mL hg hc) ?_;rw[da,aa];by_cases h6:c.cap<c.ours
 ·rw[dT_ h6];exact bad (.inr (.inr (.inr (.inr (.inr h6)))))
 ·rw[dF_ h6];exact lK (by rintro (h | h | h | h | h | h);exact h1 h;exact h2 h;exact h3 h;(rw[h4]at h;cases h);exact h5 h;exact h6 h)
theorem bV.use {v w:ah}{a b:List aL}(ha:ff 36 G v (a.map aL.av)) (hb:ff 36 G w (b.map aL.av)) (oa:∀ m∈a,m.ok) (ob:∀ m∈b,m.ok) (la:a.length≤1000000000) (lb:b.length≤1000000000)
  (hQ:Q (.bool (decide (a=b))) G):al P bV.n [v,w] G Q:=by
 refine bV.sound ?_;unfold bV.S;refine ae (dh ha) ?_;refine ae (dh hb) ?_;rw[cD,aa,dC];refine⟨fun h1=>?_,fun h1=>?_⟩
 ·rw[dF_ (fun h=>h1 (by rw[h]))]at hQ;exact hQ
 have hlen:a.length=b.length:=by omega
 intro R hR;have loop:∀ (n j:Nat),a.length-j=n->j≤a.length->a.take j=b.take j->R [v,w,.int .i64 (j:Int)] G:=by
  intro n;induction n with
  | zero=>
   intro j hn hj he;refine hR _ _ _ _ ?_;refine ae (dh ha) ?_;rw[aM,aa,aI];refine⟨fun h=>absurd h (by omega),fun _=>?_⟩;have hjl:j=a.length:=(by omega);rw[hjl,List.take_length,hlen,List.take_length]at he;rw[dT_ he]at hQ;exact hQ
  | succ n ih=>
   intro j hn hj he;obtain⟨x,hx⟩:∃ x,a[j]?=some x:=⟨_,List.getElem?_eq_getElem (by omega)⟩;obtain⟨y,hy⟩:∃ y,b[j]?=some y:=⟨_,List.getElem?_eq_getElem (by omega)⟩;refine hR _ _ _ _ ?_;refine ae (dh ha) ?_;rw[aM,aa,aI];refine⟨fun _=>?_,fun h=>absurd (by omega) h⟩;obtain⟨p,p1,p2⟩:=nD ha hx;obtain⟨q,q1,q2⟩:=nD hb hy;refine ae p1 ?_;refine ae p2 ?_;refine ae q1 ?_;refine ae q2 ?_;rw[Hs (oa x (List.mem_of_getElem? hx)) (ob y (List.mem_of_getElem? hy)),aa,dC];refine⟨fun h2=>?_,fun h2=>?_⟩
   ·rw[dF_ (fun h=>h2 (by rw[h,hy]at hx;exact (Option.some.inj hx).symm))]at hQ;exact hQ
   ·rw[bg,i64_in (by omega) (by omega),aa];refine ih (j+1) (by omega) (by omega) ?_;rw[List.take_add_one,List.take_add_one,he,hx,hy,h2]
 exact loop a.length 0 rfl (by omega) rfl
theorem xw (a b:Int):az T .eql aU (bE a b) (bE a b)=some (.bool true):=by
 rw[r6 (t:=aU)];simp
theorem KG {a b:List UInt8}(ha:a.length=32) (hb:b.length=32):az T .eql cc (mT a b) (mT a b)=some (.bool true):=by
 have e1:∀ {x:List UInt8},x.length=32->kV T 8 ar (.agg (x.map u8v)) (.agg (x.map u8v))=some true:=fun {x} hx=>by
  rw[q8 bZ rfl cW,xL cW rfl rfl 6 32 x x hx hx];simp
 have f1:dD dQ (.agg (a.map u8v))=true:=gm ha;have f2:dD dQ (.agg (b.map u8v))=true:=gm hb;simp only[az,mT,q8 mf rfl bZ,eqA,f1,f2,e1 ha,e1 hb,Bool.and_self,if_true]
theorem cP.same {f:StF}{vo vp vh wo wp wh:ah}(h1:ka G f vo vp vh) (h2:ka G f wo wp wh) (hQ:∀ G',Ch [] G [] G'->Q (.bool true) G'):al P cP.n [f.s.av vo vp vh,f.s.av wo wp wh] G Q:=by
 have ho:=h1.ok;have hl:=h1.lv;have hm:=h2.lv;have hlh:=h1.lh;have hlo:=h1.lo;have hlp:=h1.lp;refine cP.sound ?_;unfold cP.S;intro i1 f1;have s1:=(Sp.nil G).row f1 (f.s.av vo vp vh);intro i3 f3;have s3:=s1.row f3 (f.s.av wo wp wh);revert s3;generalize ak.upd _ i3 _=G4;intro s3;have k1:=h1.mv s3.ch;have k2:=h2.mv s3.ch;have hg:=au.own (i:=1) s3 rfl;have hk:=au.own (i:=0) s3 rfl;have ez:∀ {t:TypeId} (n:Int),az T .eql t (.int .i64 n) (.int .i64 n)=some (.bool true):=fun n=>ez0;have eb:∀ {t:TypeId} (b:Bool),az T .eql du (.bool b) (.bool b)=some (.bool true):=fun b=>by cases b<;>rfl
 refine ae (St.l6 hg ho hl) ?_;refine ae (ot k1.h.gZ) ?_;refine ae (St.l6 hk ho hm) ?_;refine ae (ot k2.h.gZ) ?_;rw[cD,aa,dT_ rfl,Bool.not_true,aK];intro R hR;have loop:∀ (n j:Nat),f.h.length-j=n->j≤f.h.length->R [.ptr i1 [] 0,.ptr i3 [] 0,.int .i64 (j:Int)] G4:=by
  intro n;induction n with
  | zero=>
   intro j hn hj;refine hR _ _ _ _ ?_;refine ae (v:=.ptr i1 [15] 112) rfl ?_;refine ae (St.l6 hg ho hl) ?_;refine ae (ot k1.h.gZ) ?_;rw[aM,aa,aI];refine⟨fun h=>absurd h (by omega),fun _=>?_⟩;refine ae (v:=.ptr i1 [0] 0) rfl ?_;refine ae (St.lJ hg ho hl) ?_;refine ae (v:=.ptr i3 [0] 0) rfl ?_;refine ae (St.lJ hk ho hm) ?_;refine ae (ez _) ?_;rw[aN];refine ae (v:=.ptr i1 [1] 1) rfl ?_;refine ae (St.mL hg ho hl) ?_;refine ae (v:=.ptr i3 [1] 1) rfl ?_;refine ae (St.mL hk ho hm) ?_;refine ae (ez _) ?_;rw[aN];refine ae (v:=.ptr i1 [2] 2) rfl ?_;refine ae (St.uM hg ho hl) ?_;refine ae (v:=.ptr i3 [2] 2) rfl ?_;refine ae (St.uM hk ho hm) ?_;refine ae (ez _) ?_;rw[aN];refine ae (v:=.ptr i1 [3] 3) rfl ?_;refine ae (St.tC hg ho hl) ?_;refine ae (v:=.ptr i3 [3] 3) rfl ?_;refine ae (St.tC hk ho hm) ?_;refine ae (ez _) ?_;rw[aN];refine ae (v:=.ptr i1 [4] 4) rfl ?_;refine ae (St.dM hg ho hl) ?_;refine ae (v:=.ptr i3 [4] 4) rfl ?_;refine ae (St.dM hk ho hm) ?_;refine bV.use k1.o.gZ k2.o.gZ h1.oko h1.oko (by omega) (by omega) ?_;rw[dT_ rfl,aN];refine ae (v:=.ptr i1 [5] 5) rfl ?_;refine ae (St.eH hg ho hl) ?_;refine ae (v:=.ptr i3 [5] 5) rfl ?_;refine ae (St.eH hk ho hm) ?_;refine bV.use k1.p.gZ k2.p.gZ h1.okp h1.okp (by omega) (by omega) ?_;rw[dT_ rfl,aN];refine ae (v:=.ptr i1 [6] 6) rfl ?_;refine ae (St.qb hg ho hl) ?_;refine ae (v:=.ptr i3 [6] 6) rfl ?_;refine ae (St.qb hk ho hm) ?_;refine ae (ez _) ?_;rw[aN];refine ae (v:=.ptr i1 [7] 7) rfl ?_;refine ae (St.mn hg ho hl) ?_;refine ae (v:=.ptr i3 [7] 7) rfl ?_;refine ae (St.mn hk ho hm) ?_;refine ae (ez _) ?_;rw[aN];refine ae (v:=.ptr i1 [8] 8) rfl ?_;refine ae (St.mS hg ho hl) ?_;refine ae (v:=.ptr i3 [8] 8) rfl ?_;refine ae (St.mS hk ho hm) ?_;refine ae (ez _) ?_;rw[aN];refine ae (v:=.ptr i1 [9] 9) rfl ?_;refine ae (St.GV hg ho hl) ?_;refine ae (v:=.ptr i3 [9] 9) rfl ?_;refine ae (St.GV hk ho hm) ?_;refine ae (xw _ _) ?_;rw[aN];refine ae (v:=.ptr i1 [10] 11) rfl ?_;refine ae (St.vr hg ho hl) ?_;refine ae (v:=.ptr i3 [10] 11) rfl ?_;refine ae (St.vr hk ho hm) ?_;refine ae (xw _ _) ?_;rw[aN];refine ae (v:=.ptr i1 [11] 13) rfl ?_;refine ae (St.GS hg ho hl) ?_;refine ae (v:=.ptr i3 [11] 13) rfl ?_;refine ae (St.GS hk ho hm) ?_;refine ae (xw _ _) ?_;rw[aN];refine ae (v:=.ptr i1 [12] 15) rfl ?_;refine ae (St.B3 hg ho hl) ?_;refine ae (v:=.ptr i3 [12] 15) rfl ?_;refine ae (St.B3 hk ho hm) ?_;refine ae (eb (t:=du) _) ?_;rw[aN];refine ae (v:=.ptr i1 [13] 16) rfl ?_;refine ae (St.Am hg ho hl) ?_;refine ae (v:=.ptr i3 [13] 16) rfl ?_;refine ae (St.Am hk ho hm) ?_;refine ae (KG ho.ptsA ho.ptsB) ?_;rw[aN];refine ae (v:=.ptr i1 [14] 80) rfl ?_;refine ae (St.xB hg ho hl) ?_;refine ae (v:=.ptr i3 [14] 80) rfl ?_;refine ae (St.xB hk ho hm) ?_;refine ae (uh ho.sig ho.sig) ?_;rw[dT_ rfl,aN];refine ae (v:=.ptr i1 [16] 113) rfl ?_;refine ae (St.uf hg ho hl) ?_;refine ae (v:=.ptr i3 [16] 113) rfl ?_;refine ae (St.uf hk ho hm) ?_;refine ae (ez _) ?_;rw[aN];refine ae (v:=.ptr i1 [17] 114) rfl ?_;refine ae (St.rz hg ho hl) ?_;refine ae (v:=.ptr i3 [17] 114) rfl ?_;refine ae (St.rz hk ho hm) ?_;refine ae (ez _) ?_;exact hQ _ s3.ch
  | succ n ih=>
   intro j hn hj;obtain⟨u,hu⟩:∃ u,f.h[j]?=some u:=⟨_,List.getElem?_eq_getElem (by omega)⟩;have huo:=h1.okh u (List.mem_of_getElem? hu);refine hR _ _ _ _ ?_;refine ae (v:=.ptr i1 [15] 112) rfl ?_;refine ae (St.l6 hg ho hl) ?_;refine ae (ot k1.h.gZ) ?_;rw[aM,aa,aI];refine⟨fun _=>?_,fun h=>absurd (by omega) h⟩;refine ae (v:=.ptr i1 [15] 112) rfl ?_;refine ae (St.l6 hg ho hl) ?_;obtain⟨a,a1,a2⟩:=y7 k1.h.gZ rfl hu;obtain⟨b,b1,b2⟩:=y7 k2.h.gZ rfl hu;refine ae a1 ?_;refine ae a2 ?_;refine ae (v:=.ptr i3 [15] 112) rfl ?_;refine ae (St.l6 hk ho hm) ?_;refine ae b1 ?_;refine ae b2 ?_;rw[IW huo huo,aa,dT_ rfl,Bool.not_true,aK];rw[bg,i64_in (by omega) (by omega),aa];exact ih (j+1) (by omega) (by omega)
 exact loop f.h.length 0 rfl (by omega)
end
end Go.Esc.M
namespace Go.Esc.M
open Go Go.Esc
def oL (l:List aL) (id k:Int):Bool:=l.any fun u=>decide (u.id=id) && (!decide (u.kind=1) && (decide (k=0) || decide (u.kind=k)))
def o7 (l others:List aL):Prop:=∀ (j:Nat) (u:aL),l[j]?=some u->kJ (l.take j) others u=0
def Bx (l:List aL):Prop:=∀ (i j:Nat) (u w:aL),l[i]?=some u->l[j]?=some w->u.kind≠1->w.kind≠1->u.id=w.id->i=j
theorem yu {rm:Bool}{id:Int}{X Y:List aL}(h:(ey rm id X).isSome=true):ey rm id (X++Y)=ey rm id X:=by
 unfold ey at h ⊢;rw[List.find?_append];cases hx:List.find? (uE rm id) X with
 | none=>rw[hx]at h;cases h
 | some a=>rfl
theorem vn {A X Y:List aL}{u:aL}(h:kJ A X u=0):kJ A (X++Y) u=0:=by
 unfold kJ at h ⊢;split at h
 ·cases h
 rename_i h1;rw[if_neg h1];split at h
 ·cases h
 rename_i h2;rw[if_neg h2];split at h
 ·rename_i h3;rw[if_pos h3];exact h
 rename_i h3;rw[if_neg h3];split at h
 ·cases h
 rename_i h4;have h4':(ey false u.id X).isSome=true:=(Bool.not_eq_false _).mp h4;rw[yu h4',if_neg h4];exact h
theorem FH {l X Y:List aL}(h:o7 l X):o7 l (X++Y):=fun j u hj=>vn (h j u hj)
theorem B8 {l m:List aL}{a b:Nat}(h:o7 l (m.take a)) (hab:a≤b):o7 l (m.take b):=by
 rw[<- rV hab];exact FH h
theorem At {l X:List aL}{u:aL}(h:o7 l X) (hu:kJ l X u=0):o7 (l++[u]) X:=by
 intro j w hj;by_cases hl:j<l.length
 ·rw[List.getElem?_append_left hl]at hj;rw[List.take_append_of_le_length (by omega)];exact h j w hj
 ·have hb:=(List.getElem?_eq_some_iff.1 hj).1;rw[List.length_append,List.length_singleton]at hb;have e:j=l.length:=by omega
  subst e;rw[List.getElem?_append_right (by omega)]at hj;simp at hj;subst hj;rw[List.take_append_of_le_length (Nat.le_refl _),List.take_length];exact hu
section
variable {l X:List aL} (h:o7 l X)
include h
theorem tD:∀ u∈l,dp u=true:=by
 intro u hu;obtain⟨j,hj⟩:=List.getElem?_of_mem hu;exact (nG (h j u hj)).1
theorem B7:l.length≤2048:=by
 refine Classical.byContradiction fun hn=>?_;obtain⟨u,hu⟩:∃ u,l[2048]?=some u:=⟨_,List.getElem?_eq_getElem (by omega)⟩;have:=h 2048 u hu;unfold kJ at this;rw[if_pos (by rw[List.length_take];omega)]at this;cases this
theorem ui:rA l:=by
 intro j u hj hk;exact (nG (h j u hj)).2.1 hk
theorem Au:∀ u∈l,u.kind≠1->∃ w∈X,w.kind=1/\w.id=u.id:=by
 intro u hu hk;obtain⟨j,hj⟩:=List.getElem?_of_mem hu;obtain⟨b,_,h2,h3,h4⟩:=sv ((nG (h j u hj)).2.2 hk).1;exact⟨b,h2,h3,h4⟩
theorem sr:Bx l:=by
 have key:∀ {i j:Nat}{u w:aL},l[i]?=some u->l[j]?=some w->u.kind≠1->w.kind≠1->u.id=w.id->i<j->False:=by
  intro i j u w hi hj hu hw he hlt;have h1:=((nG (h j w hj)).2.2 hw).2.1;have hv:∀ a∈l.take j,dp a=true:=fun a ha=>tD h a (List.mem_of_mem_take ha);refine AB hv h1 u ?_ hu he;refine List.mem_of_getElem? (i:=i) ?_;rw[List.getElem?_take_of_lt hlt];exact hi
 intro i j u w hi hj hu hw he;rcases Nat.lt_trichotomy i j with h1|h1|h1
 ·exact (key hi hj hu hw he h1).elim
 ·exact h1
 ·exact (key hj hi hw hu he.symm h1).elim
end
theorem tO {l:List aL}(h:Bx l) (n:Nat):Bx (l.take n):=by
 intro i j u w hi hj;have li:=(List.getElem?_eq_some_iff.1 hi).1;have lj:=(List.getElem?_eq_some_iff.1 hj).1;rw[List.length_take]at li lj;rw[List.getElem?_take_of_lt (by omega)]at hi hj;exact h i j u w hi hj
theorem tX {id:Int}:∀ {l:List aL},jH id l≠0->∃ u∈l,u.kind≠1/\u.id=id/\u.kind=jH id l
 | [],h=>absurd rfl h
 | u::l,h=>by
  by_cases hr:m8 id u=true
  ·have e:jH id (u::l)=u.kind:=if_pos hr;simp only[m8,Bool.and_eq_true,decide_eq_true_eq]at hr;exact⟨u,by simp,hr.1,hr.2.1,e.symm⟩
  ·have e:jH id (u::l)=jH id l:=if_neg hr;rw[e]at h ⊢;obtain⟨w,h1,h2⟩:=tX h;exact⟨w,by simp[h1],h2⟩
theorem GF {id:Int}{l:List aL}(hv:∀ u∈l,dp u=true) {u:aL}(hu:u∈l) (hk:u.kind≠1) (hi:u.id=id):jH id l≠0:=by
 induction l with
 | nil=>cases hu
 | cons w l ih=>
  by_cases hr:m8 id w=true
  ·have e:jH id (w::l)=w.kind:=if_pos hr;rw[e];exact sn hr
  ·have e:jH id (w::l)=jH id l:=if_neg hr;rw[e];rcases List.mem_cons.1 hu with rfl|hu
   ·exact absurd (by simp[m8,hk,hi,hv u (by simp)]) hr
   ·exact ih (fun x hx=>hv x (by simp[hx])) hu
theorem tW {l:List aL}{id k:Int}:oL l id k=true ↔ ∃ u∈l,u.id=id/\u.kind≠1/\(k=0\/u.kind=k):=by
 unfold oL;rw[List.any_eq_true];simp only[Bool.and_eq_true,Bool.or_eq_true,decide_eq_true_eq,Bool.not_eq_true',decide_eq_false_iff_not]
theorem Mj {l:List aL}(hv:∀ u∈l,dp u=true) (id:Int):oL l id 0=!decide (jH id l=0):=by
 by_cases h:jH id l=0
 ·rw[dT_ h,Bool.not_true,Bool.eq_false_iff];intro hr;obtain⟨u,h1,h2,h3,_⟩:=tW.1 hr;exact GF hv h1 h3 h2 h
 ·rw[dF_ h,Bool.not_false];obtain⟨u,h1,h2,h3,_⟩:=tX h;exact tW.2 ⟨u,h1,h3,h2,.inl rfl⟩
theorem K5 {l:List aL}(hv:∀ u∈l,dp u=true) (hu:Bx l) (id:Int) {k:Int}(hk:k≠0):oL l id k=decide (jH id l=k):=by
 by_cases h:jH id l=k
 ·rw[dT_ h];obtain⟨u,h1,h2,h3,h4⟩:=tX (id:=id) (l:=l) (by rw[h];exact hk);exact tW.2 ⟨u,h1,h3,h2,.inr (h4.trans h)⟩
 ·rw[dF_ h,Bool.eq_false_iff];intro hr;obtain⟨u,h1,h2,h3,h4⟩:=tW.1 hr;have h5:u.kind=k:=h4.resolve_left hk;obtain⟨w,k1,k2,k3,k4⟩:=tX (GF hv h1 h3 h2);obtain⟨i,hi⟩:=List.getElem?_of_mem h1;obtain⟨j,hj⟩:=List.getElem?_of_mem k1;have:=hu i j u w hi hj h3 k2 (h2.trans k3.symm);subst this;rw[hi]at hj;injection hj with hj;subst hj;exact h (k4.symm.trans h5)
theorem zR {l:List aL}(hv:∀ u∈l,dp u=true) (id:Int):(ey true id l).isSome=oL l id 0:=by
 rw[<- FI hv];unfold Lb oL;congr 1;funext u;cases decide (u.id=id)<;>cases decide (u.kind=1)<;>rfl
def CN (r:List aL) (u:aL):Bool:=decide (u.kind=1) && !oL r u.id 3
def GH (r:List aL) (u:aL):Bool:=decide (u.kind=1) && oL r u.id 2
def CV (r:List aL) (u:aL):Bool:=decide (u.kind=1) && !oL r u.id 0
theorem GC {r:List aL}(hv:∀ u∈r,dp u=true) (hu:Bx r):CN r=stays r:=by
 funext u;unfold CN stays;rw[K5 hv hu _ (by decide)]
theorem Ja {r:List aL}(hv:∀ u∈r,dp u=true) (hu:Bx r):GH r=kD r:=by
 funext u;unfold GH kD;rw[K5 hv hu _ (by decide)]
def tl (base:Int) (own other:List aL) (fo fp:Int):Int:=base-gG (CN (cw other fp)) own+gG (GH (cw own fo)) other
def uL (own other:List aL):Nat:=(own.filter (CV other)).length
theorem Ac {own other:List aL}(hv:∀ u∈own,dp u=true) (hv2:∀ u∈other,dp u=true) (fp:Int):uL own (cw other fp)=kX own other fp:=by
 unfold uL kX ml;rw[List.length_map];congr 1;refine List.filter_congr fun u hu=>?_;rw[hv u hu,Bool.true_and];unfold CV;rw[Mj (l:=cw other fp) (fun x hx=>hv2 x (List.mem_of_mem_take hx)),Bool.not_not]
structure iY (f:StF):Prop where
 ok:f.s.ok
 oko:∀ u∈f.o,u.ok
 okp:∀ u∈f.p,u.ok
 okh:∀ x∈f.h,x.ok
 lh:f.h.length≤49
 a0:0≤f.s.atA
 a1:f.s.atA≤f.s.heldA
 a2:f.s.heldA≤f.s.sgnA
 a3:f.s.sgnA≤f.o.length
 b0:0≤f.s.heldB
 b1:f.s.heldB≤f.s.sgnB
 b2:f.s.sgnB≤f.s.atB
 b3:f.s.atB≤f.p.length
 go:o7 f.o (f.p.take f.s.heldB.toNat)
 gp:o7 f.p (f.o.take f.s.atA.toNat)
 so:0≤SB f.s.bo f.o f.p f.s.atA.toNat f.s.heldB.toNat
 sp:0≤SB f.s.bp f.p f.o f.s.heldB.toNat f.s.atA.toNat
 no:kX f.o f.p f.s.heldB≤483
 np:kX f.p f.o f.s.atA≤483
 bo:0≤f.s.bo
 bp:0≤f.s.bp
 cap:f.s.bo+f.s.bp=f.s.cap
 capm:f.s.cap≤1152921504606846976
 side:f.s.side=0\/f.s.side=1
 loc0:0≤f.s.loc
 loc1:f.s.loc≤281474976710654
 ack0:0≤f.s.ack
 rem:f.s.rem=f.s.ack\/f.s.rem=f.s.ack+1
 rem1:f.s.rem≤281474976710654
section
variable {f:StF} (I:iY f)
include I
theorem iY.fA:mM f.s=f.s.atA:=by unfold mM;have:=I.a1;split<;>omega
theorem iY.fB:mD f.s=f.s.heldB:=by unfold mD;have:=I.b1;have:=I.b2;split<;>omega
theorem iY.vo:∀ u∈f.o,dp u=true:=tD I.go
theorem iY.vp:∀ u∈f.p,dp u=true:=tD I.gp
theorem iY.lo:f.o.length≤2048:=B7 I.go
theorem iY.lp:f.p.length≤2048:=B7 I.gp
theorem iY.book:oX f.s.bo f.s.bp f.o f.p f.s.atA.toNat f.s.heldB.toNat:=
 ⟨I.oko,I.okp,I.vo,I.vp,by have:=I.a1;have:=I.a2;have:=I.a3;have:=I.a0;omega,by have:=I.b0;have:=I.b1;have:=I.b2;have:=I.b3;omega,I.lo,I.lp,ui I.go,ui I.gp,Au I.go,Au I.gp,I.so,I.sp,I.bo,I.bp,by have:=I.cap;have:=I.capm;omega⟩
theorem iY.xl:tj f=SB f.s.bo f.o f.p f.s.atA.toNat f.s.heldB.toNat/\tl f.s.bo f.o f.p (mM f.s) (mD f.s)=SB f.s.bo f.o f.p f.s.atA.toNat f.s.heldB.toNat:=by
 have hb:=I.book;have h1:=Hm hb;have hA:((f.s.atA.toNat:Nat):Int)=f.s.atA:=Int.toNat_of_nonneg I.a0;have hB:((f.s.heldB.toNat:Nat):Int)=f.s.heldB:=Int.toNat_of_nonneg I.b0;refine⟨?_,?_⟩
 ·unfold tj;rw[I.fA,I.fB];have:=DW (base:=f.s.bo) (mine:=f.o) (others:=f.p) (fm:=f.s.atA.toNat) (fo:=f.s.heldB.toNat) I.vo I.vp I.bo (by have:=I.cap;have:=I.capm;have:=I.bp;omega);rw[hA,hB]at this;rw[this];have h0:=I.so;have:=I.cap;have:=I.capm;unfold AJ;split
  ·omega
  ·split<;>omega
 ·unfold tl SB cw;rw[I.fA,I.fB,GC (fun u hu=>I.vp u (List.mem_of_mem_take hu)) (tO (sr I.gp) _),Ja (fun u hu=>I.vo u (List.mem_of_mem_take hu)) (tO (sr I.go) _)]
theorem iY.xk:th f=SB f.s.bp f.p f.o f.s.heldB.toNat f.s.atA.toNat/\tl f.s.bp f.p f.o (mD f.s) (mM f.s)=SB f.s.bp f.p f.o f.s.heldB.toNat f.s.atA.toNat:=by
 have hb:=I.book.swap;have h1:=Hm hb;have hA:((f.s.atA.toNat:Nat):Int)=f.s.atA:=Int.toNat_of_nonneg I.a0;have hB:((f.s.heldB.toNat:Nat):Int)=f.s.heldB:=Int.toNat_of_nonneg I.b0;refine⟨?_,?_⟩
 ·unfold th;rw[I.fA,I.fB];have:=DW (base:=f.s.bp) (mine:=f.p) (others:=f.o) (fm:=f.s.heldB.toNat) (fo:=f.s.atA.toNat) I.vp I.vo I.bp (by have:=I.cap;have:=I.capm;have:=I.bo;omega);rw[hA,hB]at this;rw[this];have h0:=I.sp;have:=I.cap;have:=I.capm;unfold AJ;split
  ·omega
  ·split<;>omega
 ·unfold tl SB cw;rw[I.fA,I.fB,GC (fun u hu=>I.vo u (List.mem_of_mem_take hu)) (tO (sr I.go) _),Ja (fun u hu=>I.vp u (List.mem_of_mem_take hu)) (tO (sr I.gp) _)]
theorem iY.Fh:0≤tj f/\tj f≤1152921504606846976:=by
 have h1:=Hm I.book;have h2:=I.so;have:=I.cap;have:=I.capm;rw[I.xl.1];omega
theorem iY.Fg:0≤th f/\th f≤1152921504606846976:=by
 have h1:=Hm I.book.swap;have h2:=I.sp;have:=I.cap;have:=I.capm;rw[I.xk.1];omega
end
end Go.Esc.M
