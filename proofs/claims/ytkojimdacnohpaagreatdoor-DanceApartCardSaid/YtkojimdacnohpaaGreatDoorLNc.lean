import Derived.Test.YtkojimdacnohpaaGreatDoorLMo
import Derived.Test.YtkojimdacnohpaaGreatDoorLHb
import Derived.Test.YtkojimdacnohpaaGreatDoorLUe
import Derived.Test.YtkojimdacnohpaaGreatDoorLSe
import Derived.Test.YtkojimdacnohpaaGreatDoorLFv
import Derived.Test.YtkojimdacnohpaaGreatDoorLFb
import Derived.Test.YtkojimdacnohpaaGreatDoorLPw
set_option maxHeartbeats 4000000
set_option linter.unusedSimpArgs false
set_option linter.unusedVariables false
set_option maxRecDepth 20000
namespace Go.Esc.M
open Go Go.Esc
end Go.Esc.M
namespace Go.Esc.M
open Go Go.Esc
end Go.Esc.M
namespace Go.Esc.M
open Go Go.Esc
end Go.Esc.M
namespace Go.Esc.M
open Go Go.Esc
section
variable {F0:List AId}{G0 G:ak}{ps:List LP}{Q:ah->ak->Prop}
end
end Go.Esc.M
namespace Go.Esc.M
open Go Go.Esc
structure StF where
 s:StM
 o:List aL
 p:List aL
 h:List b6
structure ka (G:ak) (f:StF) (vo vp vh:ah):Prop where
 ok:f.s.ok
 o:hJ 36 G vo (f.o.map aL.av)
 p:hJ 36 G vp (f.p.map aL.av)
 h:hJ 34 G vh (f.h.map b6.av)
 oko:∀ u∈f.o,u.ok
 okp:∀ u∈f.p,u.ok
 okh:∀ x∈f.h,x.ok
 lo:f.o.length≤1048576
 lp:f.p.length≤1048576
 lh:f.h.length*48≤140737488351232
theorem De {n:Nat}{G:ak}{v:ah}{vs:List ah}(h:hJ n G v vs):bw v:=by
 rcases h with ⟨_,_,_,_,_,_,rfl,_⟩|⟨rfl,_⟩<;>exact⟨rfl,rfl,rfl⟩
theorem ka.lv {G:ak}{f:StF}{vo vp vh:ah}(h:ka G f vo vp vh):bw vo/\bw vp/\bw vh:=⟨De h.o,De h.p,De h.h⟩
theorem ka.mv {G G':ak}{E:List AId}{f:StF}{vo vp vh:ah}(h:ka G f vo vp vh) (hc:Ch [] G E G'):ka G' f vo vp vh:=
 ⟨h.ok,h.o.mv hc,h.p.mv hc,h.h.mv hc,h.oko,h.okp,h.okh,h.lo,h.lp,h.lh⟩
def mM (s:StM):Int:=if s.heldA<s.atA then s.heldA else s.atA
def mD (s:StM):Int:=if s.heldB<s.atB then s.heldB else s.atB
def uO (s:StM):Bool:=!decide (s.failed=0) || !decide (s.closed=-1)
def yr (f:StF):Bool:=decide (2048≤f.o.length) || decide (512≤IntKind.i64.wrap ((f.o.length:Int)-f.s.heldA))
def tj (f:StF):Int:=xj f.s.bo f.o f.p (mM f.s) (mD f.s)
def th (f:StF):Int:=xj f.s.bp f.p f.o (mD f.s) (mM f.s)
def RcM.zero:RcM:=⟨0,aL.zero,0,0,0,h0,h0,h0,0⟩
theorem RcM.bq:RcM.zero.ok:=⟨cL,aL.bq,cL,cL,cL,rfl,rfl,rfl,cL⟩
def rcZ:List ah:=RcM.zero.cs .nilSlice
theorem uU:dw=RcM.zero.av .nilSlice:=rfl
theorem wC {parts:List (Nat×ah)}{r:RcM}{v:ah}(hs:∀ p∈parts,rcZ[p.1]?.map Esc.sz=some (Esc.sz p.2)) (he:p7 rcZ parts=r.cs v):bj T ax parts=some (r.av v):=by
 refine (kO (zs:=rcZ) pK rfl rfl rfl (pf rfl) hs).trans ?_;rw[he];rfl
theorem Ic:bj T ax []=some (RcM.zero.av .nilSlice):=rfl
def pe (u:aL):RcM:={ RcM.zero with kind:=1,upd:=u }
theorem iu (n:Int) (h0:-9223372036854775808≤n) (h1:n≤9223372036854775807):I64 n:=⟨h0,h1⟩
theorem iR {u:aL}(h:u.ok):(pe u).ok:=⟨iu 1 (by decide) (by decide),h,cL,cL,cL,rfl,rfl,rfl,cL⟩
section
variable {F0:List AId}{G0 G:ak}{ps:List LP}{Q:ah->ak->Prop}
theorem sE {u:aL}(h:u.ok):bj T ax [(0,.int .i64 1),(1,u.av)]=some ((pe u).av .nilSlice):=by
 refine wC (fun p hp=>?_) rfl;simp only[List.mem_cons,List.not_mem_nil,or_false]at hp;rcases hp with rfl|rfl
 ·rfl
 ·show some (Esc.sz aL.zero.av)=some (Esc.sz u.av);rw[aL.sz h,aL.sz aL.bq]
theorem kz {j:Nat}{i:AId}{e:Int}{v:ah}{r:RcM}(s:Sp F0 G ps G0) (hj:ps[j]?=some (au i (r.av v))) (hr:r.ok) (hv:bw v) (hQ:∀ G',Sp F0 G (ps.set j (au i (RcM.zero.av .nilSlice))) G'->Q (.tuple [RcM.zero.av .nilSlice,.int .i64 e]) G') :
  wv (bj T ax []) fun v17=>wg (aF T G0 ax (.ptr i [] 0) v17) fun G18=>wv (ag T G18 ax (.ptr i [] 0)) fun v19=>Q (.tuple [v19,.int .i64 e]) G18:=by
 refine ae Ic ?_;refine Rc.st s hj hr hv RcM.bq bw.nil fun G18 s18=>?_;refine ae (Rc.ld (au.own (i:=j) s18 (by rw[List.getElem?_set_self (List.getElem?_eq_some_iff.1 hj).1])) RcM.bq bw.nil) ?_;exact hQ G18 s18
theorem fQ.use {f:StF}{vo vp vh:ah}(h:ka G f vo vp vh) (hQ:∀ G',Ch [] G [] G'->Q (bE (mM f.s) (mD f.s)) G'):al P fQ.n [f.s.av vo vp vh] G Q:=by
 have ho:=h.ok;have hl:=h.lv;refine fQ.sound ?_;unfold fQ.S;intro i1 f1;have s1:=(Sp.nil G).row f1 (f.s.av vo vp vh);intro i3 f3;have zC:iP=bE 0 0:=rfl;rw[zC];have s3:=s1.row f3 (bE 0 0);revert s3;generalize ak.upd _ i3 _=G4;intro s3;have hg:=au.own (i:=1) s3 rfl;refine ae (St.Jr hg ho hl) ?_;refine ae (St.qc hg ho hl) ?_;refine ae (v:=.int .i64 (mM f.s)) rfl ?_;refine ae (St.od hg ho hl) ?_;refine ae (St.En hg ho hl) ?_;refine ae (v:=.int .i64 (mD f.s)) rfl ?_;refine ae (v:=bE (mM f.s) (mD f.s)) rfl ?_;refine fg (ig (c:=bE (mM f.s) (mD f.s)) cK (au.own (i:=0) s3 rfl) rfl rfl rfl) ?_;have s4:=Sp.setRow (j:=0) s3 rfl (bE (mM f.s) (mD f.s));refine ae (cj cK (au.own (i:=0) s4 rfl) rfl) ?_;exact hQ _ s4.ch
theorem iS.use {a b:Int}(hQ:∀ G',Ch [] G [] G'->Q (bE b a) G'):al P iS.n [bE a b] G Q:=by
 refine iS.sound ?_;unfold iS.S;intro i1 f1;have s1:=(Sp.nil G).row f1 (bE a b);intro i3 f3;have zC:iP=bE 0 0:=rfl;rw[zC];have s3:=s1.row f3 (bE 0 0);revert s3;generalize ak.upd _ i3 _=G4;intro s3;obtain⟨l1,l2,_⟩:=jW (au.own (i:=1) s3 rfl);refine ae l2 ?_;refine ae l1 ?_;refine ae (v:=bE b a) rfl ?_;refine fg (ig (c:=bE b a) cK (au.own (i:=0) s3 rfl) rfl rfl rfl) ?_;have s4:=Sp.setRow (j:=0) s3 rfl (bE b a);refine ae (cj cK (au.own (i:=0) s4 rfl) rfl) ?_;exact hQ _ s4.ch
theorem eG.use {f:StF}{vo vp vh:ah}(h:ka G f vo vp vh) (hQ:∀ G',Ch [] G [] G'->Q (.int .i64 (tj f)) G'):al P eG.n [f.s.av vo vp vh] G Q:=by
 have ho:=h.ok;have hl:=h.lv;refine eG.sound ?_;unfold eG.S;intro i1 f1;have s1:=(Sp.nil G).row f1 (f.s.av vo vp vh);have hg:=au.own (i:=0) s1 rfl;refine ae (St.uM hg ho hl) ?_;refine ae (St.dM hg ho hl) ?_;refine ae (St.eH hg ho hl) ?_;refine ae (St.ld hg ho hl) ?_;refine fQ.use (h.mv s1.ch) fun G8 c8=>?_;have s8:=s1.tmp c8;have hg:=au.own (i:=0) s8 rfl;refine⟨⟨St.eH hg ho hl,St.dM hg ho hl,St.uM hg ho hl,trivial⟩,?_⟩;refine eR.use (h.o.mv s8.ch) (h.p.mv s8.ch) h.oko h.okp h.lo h.lp fun G10 c10=>?_;exact hQ _ (s8.tmp c10).ch
theorem cR.use {f:StF}{vo vp vh:ah}(h:ka G f vo vp vh) (hQ:∀ G',Ch [] G [] G'->Q (.int .i64 (th f)) G'):al P cR.n [f.s.av vo vp vh] G Q:=by
 have ho:=h.ok;have hl:=h.lv;refine cR.sound ?_;unfold cR.S;intro i1 f1;have s1:=(Sp.nil G).row f1 (f.s.av vo vp vh);have hg:=au.own (i:=0) s1 rfl;refine ae (St.tC hg ho hl) ?_;refine ae (St.eH hg ho hl) ?_;refine ae (St.dM hg ho hl) ?_;refine ae (St.ld hg ho hl) ?_;refine fQ.use (h.mv s1.ch) fun G8 c8=>?_;have s8:=s1.tmp c8;have hg:=au.own (i:=0) s8 rfl;refine⟨⟨St.dM hg ho hl,St.eH hg ho hl,St.tC hg ho hl,trivial⟩,?_⟩;refine iS.use fun G10 c10=>?_;have s10:=s8.tmp c10;have hg:=au.own (i:=0) s10 rfl;refine⟨⟨St.dM hg ho hl,St.eH hg ho hl,St.tC hg ho hl,trivial⟩,?_⟩;refine eR.use (h.p.mv s10.ch) (h.o.mv s10.ch) h.okp h.oko h.lp h.lo fun G12 c12=>?_;exact hQ _ (s10.tmp c12).ch
theorem gC.use {f:StF}{vo vp vh:ah}(h:ka G f vo vp vh) (hQ:∀ G',Ch [] G [] G'->Q (.bool (uO f.s)) G'):al P gC.n [f.s.av vo vp vh] G Q:=by
 have ho:=h.ok;have hl:=h.lv;refine gC.sound ?_;unfold gC.S;intro i1 f1;have s1:=(Sp.nil G).row f1 (f.s.av vo vp vh);have hg:=au.own (i:=0) s1 rfl;have hQ:=hQ _ s1.ch;unfold uO at hQ;refine ae (St.uf hg ho hl) ?_;rw[cD,aa];by_cases h1:f.s.failed=0
 ·rw[dT_ h1,Bool.not_true,Bool.false_or]at hQ;rw[dT_ h1,Bool.not_true,aK];refine ae (St.rz hg ho hl) ?_;rw[cD,aa];exact hQ
 ·rw[dF_ h1,Bool.not_false,Bool.true_or]at hQ;rw[dF_ h1,Bool.not_false,aN];exact hQ
theorem jy.use {f:StF}{vo vp vh:ah}(h:ka G f vo vp vh) (hQ:∀ G',Ch [] G [] G'->Q (.bool (yr f)) G'):al P jy.n [f.s.av vo vp vh] G Q:=by
 have ho:=h.ok;have hl:=h.lv;refine jy.sound ?_;unfold jy.S;intro i1 f1;have s1:=(Sp.nil G).row f1 (f.s.av vo vp vh);have hg:=au.own (i:=0) s1 rfl;have hQ:=hQ _ s1.ch;unfold yr at hQ;refine ae (St.dM hg ho hl) ?_;refine ae (dh (h.o.gZ.ch' s1.ch)) ?_;rw[fI,aa];by_cases h1:2048≤f.o.length
 ·rw[dT_ h1,Bool.true_or]at hQ;rw[dT_ (by omega),aN];exact hQ
 ·rw[dF_ h1,Bool.false_or]at hQ;rw[dF_ (by omega),aK];refine ae (St.dM hg ho hl) ?_;refine ae (dh (h.o.gZ.ch' s1.ch)) ?_;refine ae (St.qc hg ho hl) ?_;rw[b7,aa,fI,aa];exact hQ
theorem jx.use {u:aL}(h:u.ok) (hQ:∀ G',Ch [] G [] G'->Q ((pe u).av .nilSlice) G'):al P jx.n [u.av] G Q:=by
 refine jx.sound ?_;unfold jx.S;rw[uU];intro i1 f1;have s1:=(Sp.nil G).row f1 u.av;intro i3 f3;have s3:=s1.row f3 (RcM.zero.av .nilSlice);refine ae (bF (i:=1) s3 rfl h).2.2.2.2.2 ?_;refine ae (sE h) ?_;refine Rc.st (i:=0) s3 rfl RcM.bq bw.nil (iR h) bw.nil fun G7 s7=>?_;refine ae (Rc.ld (au.own (i:=0) s7 rfl) (iR h) bw.nil) ?_;exact hQ _ s7.ch
theorem j6.use {x:List UInt8}(hx:x.length=32) (hQ:∀ G',Ch [] G [] G'->Q (.agg ((sha x).map u8v)) G'):al P j6.n [.agg (x.map u8v)] G Q:=by
 refine j6.sound ?_;unfold j6.S;rw[mF];intro i1 f1;have s1:=(Sp.nil G).row f1 (.agg (x.map u8v));intro i3 f3;have s3:=s1.row f3 (.agg ((List.replicate 32 (0:UInt8)).map u8v));have hsl:dV T ar (.ptr i1 [] 0) none none none=some (.slice i1 [] 0 0 32 32):=by simp[dV,bZ,dQ,cW,j8,lH]
 refine ae hsl ?_;have hxs:ff 1 _ (.slice i1 [] 0 0 32 32) (x.map u8v):=qR (au.own (i:=1) s3 rfl) hx;refine ae (km (si:=fJ) (ie:=gi) (di:=iO) eC rfl cW rfl fS rfl hxs) ?_;refine CW s3 fun v7 G8 s8=>?_;refine jh.use (xs:=[x]) (Own.nj (bm.own (i:=0) s8 rfl)) (by simp) (by simp;omega) fun G10 c10=>?_;have s10:=s8.tmp c10;have e1:[x].flatten=x:=by simp
 rw[e1];have hS:(sha x).length=32:=je _;refine fg (gA (by simp) hS (au.own (i:=1) s10 rfl)) ?_;have s11:=Sp.setRow (j:=1) s10 rfl (.agg ((sha x).map u8v));refine ae (bM hS (au.own (i:=1) s11 rfl)) ?_;exact hQ _ s11.ch
theorem gK.use {v:ah}{l:List aL}{n:Int}(hl:hJ 36 G v (l.map aL.av)) (hlen:l.length≤1048576) (hQ:∀ w,hJ 36 G w ((cw l n).map aL.av)->Q w G):al P gK.n [v,.int .i64 n] G Q:=by
 refine gK.sound ?_;unfold gK.S;refine ae (v:=.int .i64 (if n<0 then 0 else n)) rfl ?_;refine ae (dh hl.gZ) ?_;obtain⟨m,hm,hml,he⟩:∃ m:Nat,(if ((l.length:Nat):Int)<(if n<0 then 0 else n) then ((l.length:Nat):Int) else (if n<0 then 0 else n))=(m:Int)/\m≤l.length/\l.take m=cw l n:=by
  unfold cw;by_cases h0:n<0
  ·refine⟨0,?_,by omega,?_⟩
   ·rw[if_pos h0,if_neg (by omega)];rfl
   ·rw[show n.toNat=0 by omega]
  ·by_cases h1:((l.length:Nat):Int)<n
   ·refine⟨l.length,?_,by omega,?_⟩
    ·rw[if_neg h0,if_pos h1]
    ·rw[List.take_length,List.take_of_length_le (by omega)]
   ·refine⟨n.toNat,?_,by omega,rfl⟩;rw[if_neg h0,if_neg h1];omega
 refine ae (v:=.int .i64 (m:Int)) (by rw[<- hm];rfl) ?_;obtain⟨w,e1,e2⟩:=hJ.take (ie:=cG) (k:=.i64) (m:=m) bT rfl dE hl rfl (by rw[List.length_map];exact hml);refine ae e1 ?_;refine hQ w ?_;rw[<- he,List.map_take];exact e2
end
end Go.Esc.M
namespace Go.Esc.M
open Go Go.Esc
def w8 (x:RcM×Int):ah:=.tuple [x.1.av .nilSlice,.int .i64 x.2]
theorem tr0 (x:RcM×Int):aP (w8 x) 0=some (x.1.av .nilSlice):=rfl
theorem tr1 (x:RcM×Int):aP (w8 x) 1=some (.int .i64 x.2):=rfl
def noR (e:Int):RcM×Int:=(RcM.zero,e)
def n8 (f:StF) (a:Int) (h:List UInt8):RcM×Int:=
 if uO f.s=true then noR 220 else if a<1\/1152921504606846976<a then noR 80 else if yr f=true then noR 6
 else if 483≤kX f.o f.p (mD f.s) then noR 131 else if tj f<a then noR 130 else (pe ⟨1,((j7 f.o:Nat):Int),a,h,[]⟩,0)
def tA (f:StF) (u:aL):Bool:=
 (ey false u.id (cw f.p (mD f.s))).isSome && (!(ey true u.id f.o).isSome && ((!decide (u.kind=2) || decide (sha u.hash=((ey false u.id (cw f.p (mD f.s))).getD aL.zero).hash)) && decide (u.note.length≤64)))
def j4 (f:StF) (u:aL):RcM×Int:=
 if uO f.s=true then noR 220 else if tA f u=false then noR 120 else if yr f=true then noR 6 else (pe u,0)
def p6 (f:StF):RcM×Int:=
 if uO f.s=true then noR 220 else if f.s.rem≠f.s.ack\/((f.o.length:Int)=f.s.sgnA/\f.s.atB=f.s.sgnB) then noR 8 else if 281474976710653<f.s.rem then noR 90
 else ({ RcM.zero with kind:=2,index:=f.s.rem+1,cntA:=(f.o.length:Nat),cntB:=f.s.atB },0)
def vu (f:StF) (u:aL):Int:=
 if uO f.s=true then 220 else if 512≤IntKind.i64.wrap ((f.p.length:Int)-f.s.atB) then 131 else if kJ f.p f.o u≠0 then 120
 else if u.kind=1 then (if 483≤kX f.p f.o (mM f.s) then 131 else if th f<u.amount then 130 else 0)
 else if (ey false u.id (cw f.o (mM f.s))).isSome=false then 120
 else if u.kind=2/\sha u.hash≠((ey false u.id (cw f.o (mM f.s))).getD aL.zero).hash then 120 else 0
theorem r6 {t:TypeId}(a b c d:Int):az T .eql aU (bE a b) (bE c d)=some (.bool (decide (a=c/\b=d))):=by
 have:kV T 9 aU (bE a b) (bE c d)=some (decide (a=c) && decide (b=d)):=by
  by_cases h1:a=c<;>by_cases h2:b=d<;>simp[bE,kV,eqF,cK,pb,iD,nc,h1,h2,dD,sz,szs,ah.isAgg,kZ.isAgg]
 simp[az,bE]at this ⊢;rw[this]
section
variable {F0:List AId}{G0 G:ak}{ps:List LP}{Q:ah->ak->Prop}
theorem Cq {x y:Int}{h:List UInt8}(hl:h.length=32):bj T aG [(0,.int .i64 1),(1,.int .i64 x),(2,.int .i64 y),(3,.agg (h.map u8v))]=some (aL.av ⟨1,x,y,h,[]⟩):=by
 refine (kO (zs:=aL.zero.cs) dE rfl rfl rfl (pf rfl) fun p hp=>?_).trans rfl;simp only[List.mem_cons,List.not_mem_nil,or_false]at hp;rcases hp with rfl|rfl|rfl|rfl
 ·rfl
 ·rfl
 ·rfl
 ·show some (Esc.sz (.agg (h0.map u8v)))=some (Esc.sz (.agg (h.map u8v)));rw[Esc.sz,Esc.sz,szh hl,szh oe]
theorem Cp {x:Int}{h:List UInt8}(hl:h.length=32):bj T aG [(0,.int .i64 2),(1,.int .i64 x),(3,.agg (h.map u8v))]=some (aL.av ⟨2,x,0,h,[]⟩):=by
 refine (kO (zs:=aL.zero.cs) dE rfl rfl rfl (pf rfl) fun p hp=>?_).trans rfl;simp only[List.mem_cons,List.not_mem_nil,or_false]at hp;rcases hp with rfl|rfl|rfl
 ·rfl
 ·rfl
 ·show some (Esc.sz (.agg (h0.map u8v)))=some (Esc.sz (.agg (h.map u8v)));rw[Esc.sz,Esc.sz,szh hl,szh oe]
theorem AU (x:Int) (n:List UInt8):bj T aG [(0,.int .i64 3),(1,.int .i64 x),(4,.str n)]=some (aL.av ⟨3,x,0,h0,n⟩):=by
 refine (kO (zs:=aL.zero.cs) dE rfl rfl rfl (pf rfl) fun p hp=>?_).trans rfl;simp only[List.mem_cons,List.not_mem_nil,or_false]at hp;rcases hp with rfl|rfl|rfl<;>rfl
theorem gM.use {f:StF}{vo vp vh:ah}{a:Int}{h:List UInt8}(hS:ka G f vo vp vh) (hh:h.length=32) (hQ:∀ G',Ch [] G [] G'->Q (w8 (n8 f a h)) G'):al P gM.n [f.s.av vo vp vh,.int .i64 a,.agg (h.map u8v)] G Q:=by
 have ho:=hS.ok;have hl:=hS.lv;refine gM.sound ?_;unfold gM.S;rw[uU];unfold n8 at hQ;intro i1 f1;have s1:=(Sp.nil G).row f1 (f.s.av vo vp vh);intro i3 f3;have s3:=s1.row f3 (.agg (h.map u8v));intro i5 f5;have s5:=s3.row f5 (RcM.zero.av .nilSlice);revert s5;generalize ak.upd _ i5 _=G6;intro s5;refine ae (St.ld (au.own (i:=2) s5 rfl) ho hl) ?_;refine gC.use (hS.mv s5.ch) fun G9 c9=>?_;have s9:=s5.tmp c9;rw[gO];refine⟨fun hd=>?_,fun hd=>?_⟩
 ·rw[if_pos hd]at hQ;exact kz (j:=0) s9 rfl RcM.bq bw.nil fun G' s'=>hQ G' s'.ch
 rw[if_neg (by rw[hd];decide)]at hQ;have s9:Sp [] G [au i5 (RcM.zero.av .nilSlice),au i3 (.agg (h.map u8v)),au i1 (f.s.av vo vp vh)] G9:=s9;intro J45;have bad:(a<1\/1152921504606846976<a)->J45 (.bool true) G9:=by
  intro hb;rw[if_pos hb]at hQ;simp -zeta only [J45,aN];exact kz (j:=0) s9 rfl RcM.bq bw.nil fun G' s'=>hQ G' s'.ch
 have lK:¬ (a<1\/1152921504606846976<a)->J45 (.bool false) G9:=by
  intro hb;rw[if_neg hb]at hQ;simp -zeta only [J45,aK];refine ae (St.ld (au.own (i:=2) s9 rfl) ho hl) ?_;refine jy.use (hS.mv s9.ch) fun G22 c22=>?_;have s22:=s9.tmp c22;rw[gO];refine⟨fun hf=>?_,fun hf=>?_⟩
  ·rw[if_pos hf]at hQ;exact kz (j:=0) s22 rfl RcM.bq bw.nil fun G' s'=>hQ G' s'.ch
  rw[if_neg (by rw[hf];decide)]at hQ;have hg:=au.own (i:=2) s22 rfl;refine ae (St.dM hg ho hl) ?_;refine ae (St.eH hg ho hl) ?_;refine ae (St.ld hg ho hl) ?_;refine fQ.use (hS.mv s22.ch) fun G30 c30=>?_;have s30:=s22.tmp c30;have hg:=au.own (i:=2) s30 rfl;refine⟨⟨St.eH hg ho hl,St.dM hg ho hl,trivial⟩,?_⟩;refine ae (v:=.int .i64 (mD f.s)) rfl ?_;refine iL.use (hS.o.gZ.ch' s30.ch) (hS.p.mv s30.ch) hS.oko hS.okp hS.lo hS.lp fun G33 c33=>?_;have s33:=s30.tmp c33;rw[fI,aa,aI];refine⟨fun h4=>?_,fun h4=>?_⟩
  ·rw[if_pos (by omega)]at hQ;exact kz (j:=0) s33 rfl RcM.bq bw.nil fun G' s'=>hQ G' s'.ch
  rw[if_neg (by omega)]at hQ;refine ae (St.ld (au.own (i:=2) s33 rfl) ho hl) ?_;refine eG.use (hS.mv s33.ch) fun G40 c40=>?_;have s40:=s33.tmp c40;rw[da,aa,aI];refine⟨fun h5=>?_,fun h5=>?_⟩
  ·rw[if_pos h5]at hQ;exact kz (j:=0) s40 rfl RcM.bq bw.nil fun G' s'=>hQ G' s'.ch
  rw[if_neg h5]at hQ;refine ae (St.dM (au.own (i:=2) s40 rfl) ho hl) ?_;refine ae (dh (hS.o.gZ.ch' s40.ch)) ?_;have hlo:=hS.lo;intro R48 hR48;have s40:Sp [] G [au i5 (RcM.zero.av .nilSlice),au i3 (.agg (h.map u8v)),au i1 (f.s.av vo vp vh)] G40:=s40;have loop:∀ (n j:Nat) (G':ak),f.o.length-j=n->j≤f.o.length->Sp [] G [au i5 (RcM.zero.av .nilSlice),au i3 (.agg (h.map u8v)),au i1 (f.s.av vo vp vh)] G' ->
    R48 [.int .i64 a,.ptr i3 [] 0,.ptr i5 [] 0,.int .i64 ((j7 (f.o.take j):Nat):Int),vo,.int .i64 (f.o.length:Nat),.int .i64 (j:Int)] G':=by
   intro n;induction n with
   | zero=>
    intro j G' hn hj sp;refine hR48 _ _ _ _ _ _ _ _ ?_;rw[aM,aa,dF_ (by omega),aK,List.take_of_length_le (by omega)];have hal:=tJ f.o;have hu:(⟨1,((j7 f.o:Nat):Int),a,h,[]⟩:aL).ok:=⟨iu 1 (by decide) (by decide),iu ((j7 f.o:Nat):Int) (by omega) (by omega),iu a (by omega) (by omega),hh,by simp⟩;refine ae (bM hh (au.own (i:=1) sp rfl)) ?_;refine ae (Cq hh) ?_;refine jx.use hu fun G76 c76=>?_;have s76:=sp.tmp c76;refine Rc.st (i:=0) s76 rfl RcM.bq bw.nil (iR hu) bw.nil fun G77 s77=>?_;refine ae (Rc.ld (au.own (i:=0) s77 rfl) (iR hu) bw.nil) ?_;exact hQ _ s77.ch
   | succ n ih=>
    intro j G' hn hj sp;obtain⟨u,hu⟩:∃ u,f.o[j]?=some u:=⟨_,List.getElem?_eq_getElem (by omega)⟩;have huo:=hS.oko u (List.mem_of_getElem? hu);have hle:=tJ (f.o.take j);rw[List.length_take]at hle;have e:j7 (f.o.take (j+1))=j7 (f.o.take j)+if u.kind=1 then 1 else 0:=by
     rw[List.take_add_one,hu,oR];congr 1;by_cases h:u.kind=1<;>simp[j7,h]
    refine hR48 _ _ _ _ _ _ _ _ ?_;rw[aM,aa,dT_ (by omega),aN];obtain⟨p,e1,e2⟩:=nD (hS.o.gZ.ch' sp.ch) hu;refine ae e1 ?_;refine ae e2 ?_;refine vX sp huo fun i60 G62 s62=>?_;have ih:=ih (j+1) G62 (by omega) (by omega) (s62.erase 0);rw[e]at ih;refine ae (bF (i:=0) s62 rfl huo).1 ?_;rw[bB,aa,aI];refine⟨fun hk=>?_,fun hk=>?_⟩
    ·rw[if_pos hk]at ih;rw[bg,i64_in (by omega) (by omega),aa,bg,i64_in (by omega) (by omega),aa];exact ih
    ·rw[if_neg hk]at ih;rw[bg,i64_in (by omega) (by omega),aa];exact ih
  exact loop _ 0 G40 rfl (by omega) s40
 rw[aM,aa,aI];refine⟨fun h1=>bad (.inl h1),fun h1=>?_⟩;rw[da,aa];by_cases h2:1152921504606846976<a
 ·rw[dT_ h2];exact bad (.inr h2)
 ·rw[dF_ h2];exact lK (by omega)
theorem gJ.use {f:StF}{vo vp vh:ah}{u:aL}(hS:ka G f vo vp vh) (hu:u.ok) (hQ:∀ G',Ch [] G [] G'->Q (w8 (j4 f u)) G'):al P gJ.n [f.s.av vo vp vh,u.av] G Q:=by
 have ho:=hS.ok;have hl:=hS.lv;refine gJ.sound ?_;unfold gJ.S;rw[uU];unfold j4 at hQ;intro i1 f1;have s1:=(Sp.nil G).row f1 (f.s.av vo vp vh);intro i3 f3;have s3:=s1.row f3 u.av;intro i5 f5;have s5:=s3.row f5 (RcM.zero.av .nilSlice);revert s5;generalize ak.upd _ i5 _=G6;intro s5;refine ae (St.ld (au.own (i:=2) s5 rfl) ho hl) ?_;refine gC.use (hS.mv s5.ch) fun G9 c9=>?_;have s9:=s5.tmp c9;rw[gO];refine⟨fun hd=>?_,fun hd=>?_⟩
 ·rw[if_pos hd]at hQ;exact kz (j:=0) s9 rfl RcM.bq bw.nil fun G' s'=>hQ G' s'.ch
 rw[if_neg (by rw[hd];decide)]at hQ;have hg:=au.own (i:=2) s9 rfl;refine ae (St.eH hg ho hl) ?_;refine ae (St.ld hg ho hl) ?_;refine ae (bF (i:=1) s9 rfl hu).2.1 ?_;refine fQ.use (hS.mv s9.ch) fun G17 c17=>?_;have s17:=s9.tmp c17;have hg:=au.own (i:=2) s17 rfl;refine⟨⟨(bF (i:=1) s17 rfl hu).2.1,St.eH hg ho hl,trivial⟩,?_⟩;refine ae (v:=.int .i64 (mD f.s)) rfl ?_;refine gK.use (hS.p.mv s17.ch) hS.lp fun w hw=>?_;refine⟨⟨(bF (i:=1) s17 rfl hu).2.1,trivial⟩,?_⟩;have hfl:=jU f.p (mD f.s);have hfo:=mu (n:=mD f.s) hS.okp;have hlp:=hS.lp;have hlo:=hS.lo;refine ik.use hw.gZ hfo (by omega) fun G22 c22=>?_;have s22:=s17.tmp c22;have hA:=lT (rm:=false) (id:=u.id) hfo;have hB:=lT (rm:=true) (id:=u.id) hS.oko;unfold tA at hQ;obtain⟨A,eA⟩:∃ A,A=ey false u.id (cw f.p (mD f.s)):=⟨_,rfl⟩;obtain⟨B,eB⟩:∃ A,A=ey true u.id f.o:=⟨_,rfl⟩;rw[<- eA]at hA hQ ⊢;rw[<- eB]at hB hQ;refine ae (z6 _) ?_;refine ae (zZ _) ?_;refine vX s22 hA fun i25 G27 s27=>?_;refine ae (St.dM (au.own (i:=3) s27 rfl) ho hl) ?_;refine ae (bF (i:=2) s27 rfl hu).2.1 ?_;refine gn.use (hS.o.gZ.ch' s27.ch) hS.oko (by omega) fun G31 c31=>?_;have s31:=s27.tmp c31;rw[<- eB];refine ae (z6 _) ?_;refine ae (zZ _) ?_;refine vX s31 hB fun i34 G36 s36=>?_;have s36:Sp [] G [au i34 (B.getD aL.zero).av,au i25 (A.getD aL.zero).av,au i5 (RcM.zero.av .nilSlice),au i3 u.av,au i1 (f.s.av vo vp vh)] G36:=s36;obtain⟨may,hmay⟩:∃ m,m=(A.isSome && (!B.isSome && ((!decide (u.kind=2) || decide (sha u.hash=(A.getD aL.zero).hash)) && decide (u.note.length≤64)))):=⟨_,rfl⟩;rw[<- hmay]at hQ;intro J67;have bad:∀ G2,Sp [] G [au i34 (B.getD aL.zero).av,au i25 (A.getD aL.zero).av,au i5 (RcM.zero.av .nilSlice),au i3 u.av,au i1 (f.s.av vo vp vh)] G2->may=false->J67 (.bool true) G2:=by
  intro G2 s2 hm;rw[if_pos hm]at hQ;simp -zeta only [J67,aN];exact kz (j:=2) s2 rfl RcM.bq bw.nil fun G' s'=>hQ G' s'.ch
 have lK:∀ G2,Sp [] G [au i34 (B.getD aL.zero).av,au i25 (A.getD aL.zero).av,au i5 (RcM.zero.av .nilSlice),au i3 u.av,au i1 (f.s.av vo vp vh)] G2->may=true->J67 (.bool false) G2:=by
  intro G2 s2 hm;rw[if_neg (by rw[hm];decide)]at hQ;simp -zeta only [J67,aK];refine ae (St.ld (au.own (i:=4) s2 rfl) ho hl) ?_;refine jy.use (hS.mv s2.ch) fun G58 c58=>?_;have s58:=s2.tmp c58;rw[gO];refine⟨fun hf=>?_,fun hf=>?_⟩
  ·rw[if_pos hf]at hQ;exact kz (j:=2) s58 rfl RcM.bq bw.nil fun G' s'=>hQ G' s'.ch
  rw[if_neg (by rw[hf];decide)]at hQ;refine ae (bF (i:=3) s58 rfl hu).2.2.2.2.2 ?_;refine jx.use hu fun G64 c64=>?_;have s64:=s58.tmp c64;refine Rc.st (i:=2) s64 rfl RcM.bq bw.nil (iR hu) bw.nil fun G65 s65=>?_;refine ae (Rc.ld (au.own (i:=2) s65 rfl) (iR hu) bw.nil) ?_;exact hQ _ s65.ch
 have note:∀ G2,Sp [] G [au i34 (B.getD aL.zero).av,au i25 (A.getD aL.zero).av,au i5 (RcM.zero.av .nilSlice),au i3 u.av,au i1 (f.s.av vo vp vh)] G2->may=decide (u.note.length≤64) ->
   wv (ag T G2 bH (.ptr i3 [4] 35)) fun v45=>wv (fU T G2 bH v45) fun v46=>wv (az T .gtr ay v46 (.int .i64 64)) fun v47=>J67 v47 G2:=by
  intro G2 s2 hm;refine ae (bF (i:=3) s2 rfl hu).2.2.2.2.1 ?_;refine ae (v:=.int .i64 (u.note.length:Nat)) rfl ?_;rw[da,aa];by_cases hn:u.note.length≤64
  ·rw[dF_ (by omega)];exact lK G2 s2 (by rw[hm,dT_ hn])
  ·rw[dT_ (by omega)];exact bad G2 s2 (by rw[hm,dF_ hn])
 rw[dx,aa];cases hAs:A.isSome with
 | false=>
  rw[hAs,Bool.false_and]at hmay;rw[Bool.not_false,aN];exact bad _ s36 hmay
 | true=>
  rw[hAs,Bool.true_and]at hmay;rw[Bool.not_true,aK];cases hBs:B.isSome with
  | true=>
   rw[hBs,Bool.not_true,Bool.false_and]at hmay;rw[aN];exact bad _ s36 hmay
  | false=>
   rw[hBs,Bool.not_false,Bool.true_and]at hmay;rw[aK];refine ae (bF (i:=3) s36 rfl hu).1 ?_;rw[bB,aa,aI];refine⟨fun hk=>?_,fun hk=>?_⟩
   ·rw[dT_ hk,Bool.not_true,Bool.false_or]at hmay;refine ae (bF (i:=3) s36 rfl hu).2.2.2.1 ?_;refine ae (bF (i:=1) s36 rfl hA).2.2.2.1 ?_;refine j6.use hu.hash fun G43 c43=>?_;have s43:=s36.tmp c43;refine⟨⟨(bF (i:=1) s43 rfl hA).2.2.2.1,trivial⟩,?_⟩;rw[qg (je _) hA.hash,aa,dC];refine⟨fun hne=>?_,fun he=>?_⟩
    ·rw[dF_ hne,Bool.false_and]at hmay;exact bad _ s43 hmay
    ·rw[dT_ he,Bool.true_and]at hmay;exact note _ s43 hmay
   ·rw[dF_ hk,Bool.not_false,Bool.true_or,Bool.true_and]at hmay;exact note _ s36 hmay
theorem qD {f:StF}{u:aL}(hu:u.ok):(j4 f u).1.ok:=by
 unfold j4 noR;split
 ·exact RcM.bq
 ·split
  ·exact RcM.bq
  ·split
   ·exact RcM.bq
   ·exact iR hu
theorem iT.use {f:StF}{vo vp vh:ah}{id:Int}{h:List UInt8}(hS:ka G f vo vp vh) (hi:I64 id) (hh:h.length=32) (hQ:∀ G',Ch [] G [] G'->Q (w8 (j4 f ⟨2,id,0,h,[]⟩)) G'):al P iT.n [f.s.av vo vp vh,.int .i64 id,.agg (h.map u8v)] G Q:=by
 have ho:=hS.ok;have hl:=hS.lv;refine iT.sound ?_;unfold iT.S;rw[uU];intro i1 f1;have s1:=(Sp.nil G).row f1 (f.s.av vo vp vh);intro i3 f3;have s3:=s1.row f3 (.agg (h.map u8v));intro i5 f5;have s5:=s3.row f5 (RcM.zero.av .nilSlice);revert s5;generalize ak.upd _ i5 _=G6;intro s5;have hu:(⟨2,id,0,h,[]⟩:aL).ok:=⟨iu 2 (by decide) (by decide),hi,cL,hh,by simp⟩;refine ae (St.ld (au.own (i:=2) s5 rfl) ho hl) ?_;refine ae (bM hh (au.own (i:=1) s5 rfl)) ?_;refine ae (Cp hh) ?_;refine gJ.use (hS.mv s5.ch) hu fun G11 c11=>?_;have s11:=s5.tmp c11;refine ae (tr0 _) ?_;refine ae (tr1 _) ?_;refine Rc.st (i:=0) s11 rfl RcM.bq bw.nil (qD hu) bw.nil fun G14 s14=>?_;refine ae (Rc.ld (au.own (i:=0) s14 rfl) (qD hu) bw.nil) ?_;exact hQ _ s14.ch
theorem iV.use {f:StF}{vo vp vh:ah}{id:Int}{n:List UInt8}(hS:ka G f vo vp vh) (hi:I64 id) (hn:n.length≤9223372036854775807) (hQ:∀ G',Ch [] G [] G'->Q (w8 (j4 f ⟨3,id,0,h0,n⟩)) G'):al P iV.n [f.s.av vo vp vh,.int .i64 id,.str n] G Q:=by
 have ho:=hS.ok;have hl:=hS.lv;refine iV.sound ?_;unfold iV.S;rw[uU];intro i1 f1;have s1:=(Sp.nil G).row f1 (f.s.av vo vp vh);intro i3 f3;have s3:=s1.row f3 (RcM.zero.av .nilSlice);revert s3;generalize ak.upd _ i3 _=G4;intro s3;have hu:(⟨3,id,0,h0,n⟩:aL).ok:=⟨iu 3 (by decide) (by decide),hi,cL,rfl,hn⟩;refine ae (St.ld (au.own (i:=1) s3 rfl) ho hl) ?_;refine ae (AU _ _) ?_;refine gJ.use (hS.mv s3.ch) hu fun G8 c8=>?_;have s8:=s3.tmp c8;refine ae (tr0 _) ?_;refine ae (tr1 _) ?_;refine Rc.st (i:=0) s8 rfl RcM.bq bw.nil (qD hu) bw.nil fun G11 s11=>?_;refine ae (Rc.ld (au.own (i:=0) s11 rfl) (qD hu) bw.nil) ?_;exact hQ _ s11.ch
theorem Cl {x a b:Int}:bj T ax [(0,.int .i64 2),(3,.int .i64 x),(4,bE a b)]=some (({ RcM.zero with kind:=2,index:=x,cntA:=a,cntB:=b }:RcM).av .nilSlice):=by
 refine wC (fun p hp=>?_) rfl;simp only[List.mem_cons,List.not_mem_nil,or_false]at hp;rcases hp with rfl|rfl|rfl<;>rfl
theorem jz.use {f:StF}{c:CfM}{vo vp vh:ah}(hS:ka G f vo vp vh) (hQ:∀ G',Ch [] G [] G'->Q (w8 (p6 f)) G'):al P jz.n [c.av,f.s.av vo vp vh] G Q:=by
 have ho:=hS.ok;have hl:=hS.lv;have hlo:=hS.lo;refine jz.sound ?_;unfold jz.S;rw[uU];unfold p6 at hQ;intro i1 f1;have s1:=(Sp.nil G).row f1 c.av;intro i3 f3;have s3:=s1.row f3 (f.s.av vo vp vh);intro i5 f5;have s5:=s3.row f5 (RcM.zero.av .nilSlice);revert s5;generalize ak.upd _ i5 _=G6;intro s5;have hg:=au.own (i:=1) s5 rfl;refine ae (St.dM hg ho hl) ?_;refine ae (dh (hS.o.gZ.ch' s5.ch)) ?_;refine ae (St.od hg ho hl) ?_;refine ae (v:=bE (f.o.length:Nat) f.s.atB) rfl ?_;refine jL (c:=bE (f.o.length:Nat) f.s.atB) s5 cK rfl rfl rfl fun i11 G13 s13=>?_;refine ae (St.ld (au.own (i:=2) s13 rfl) ho hl) ?_;refine gC.use (hS.mv s13.ch) fun G16 c16=>?_;have s16:=s13.tmp c16;have s16:Sp [] G [au i11 (bE (f.o.length:Nat) f.s.atB),au i5 (RcM.zero.av .nilSlice),au i3 (f.s.av vo vp vh),au i1 c.av] G16:=s16;rw[gO];refine⟨fun hd=>?_,fun hd=>?_⟩
 ·rw[if_pos hd]at hQ;exact kz (j:=1) s16 rfl RcM.bq bw.nil fun G' s'=>hQ G' s'.ch
 rw[if_neg (by rw[hd];decide)]at hQ;have hg:=au.own (i:=2) s16 rfl;intro J36;have bad:(f.s.rem≠f.s.ack\/((f.o.length:Int)=f.s.sgnA/\f.s.atB=f.s.sgnB))->J36 (.bool true) G16:=by
  intro hb;rw[if_pos hb]at hQ;simp -zeta only [J36,aN];exact kz (j:=1) s16 rfl RcM.bq bw.nil fun G' s'=>hQ G' s'.ch
 have lK:¬ (f.s.rem≠f.s.ack\/((f.o.length:Int)=f.s.sgnA/\f.s.atB=f.s.sgnB))->J36 (.bool false) G16:=by
  intro hb;rw[if_neg hb]at hQ;simp -zeta only [J36,aK];refine ae (St.mn hg ho hl) ?_;rw[da,aa,aI];refine⟨fun h1=>?_,fun h1=>?_⟩
  ·rw[if_pos h1]at hQ;exact kz (j:=1) s16 rfl RcM.bq bw.nil fun G' s'=>hQ G' s'.ch
  rw[if_neg h1]at hQ;have hr:=ho.rem;have hok:({ RcM.zero with kind:=2,index:=f.s.rem+1,cntA:=(f.o.length:Nat),cntB:=f.s.atB }:RcM).ok:=
   ⟨iu 2 (by decide) (by decide),aL.bq,iu (f.s.rem+1) (by have:=hr.1;omega) (by omega),iu (f.o.length:Nat) (by omega) (by omega),ho.atB,rfl,rfl,rfl,cL⟩
  refine ae (St.mn hg ho hl) ?_;rw[bg,i64_in (by have:=hr.1;omega) (by omega),aa];refine ae (cj cK (au.own (i:=0) s16 rfl) rfl) ?_;refine ae Cl ?_;refine Rc.st (i:=1) s16 rfl RcM.bq bw.nil hok bw.nil fun G41 s41=>?_;refine ae (Rc.ld (au.own (i:=1) s41 rfl) hok bw.nil) ?_;exact hQ _ s41.ch
 refine ae (St.mn hg ho hl) ?_;refine ae (St.mS hg ho hl) ?_;rw[cD,aa,dC];refine⟨fun h1=>bad (.inl h1),fun h1=>?_⟩;refine ae (cj cK (au.own (i:=0) s16 rfl) rfl) ?_;refine ae (St.vr hg ho hl) ?_;rw[r6 (t:=aU),aa];by_cases h2:(f.o.length:Int)=f.s.sgnA/\f.s.atB=f.s.sgnB
 ·rw[dT_ h2];exact bad (.inr h2)
 ·rw[dF_ h2];exact lK (by rintro (h | h);exact h h1;exact h2 h)
theorem jA.use {f:StF}{vo vp vh:ah}{u:aL}(hS:ka G f vo vp vh) (hu:u.ok) (hQ:∀ G',Ch [] G [] G'->Q (.int .i64 (vu f u)) G'):al P jA.n [f.s.av vo vp vh,u.av] G Q:=by
 have ho:=hS.ok;have hl:=hS.lv;have hlo:=hS.lo;have hlp:=hS.lp;refine jA.sound ?_;unfold jA.S;unfold vu at hQ;intro i1 f1;have s1:=(Sp.nil G).row f1 (f.s.av vo vp vh);intro i3 f3;have s3:=s1.row f3 u.av;revert s3;generalize ak.upd _ i3 _=G4;intro s3;refine ae (St.ld (au.own (i:=1) s3 rfl) ho hl) ?_;refine fQ.use (hS.mv s3.ch) fun G7 c7=>?_;have s7:=s3.tmp c7;refine jL (c:=bE (mM f.s) (mD f.s)) s7 cK rfl rfl rfl fun i8 G10 s10=>?_;have s10:Sp [] G [au i8 (bE (mM f.s) (mD f.s)),au i3 u.av,au i1 (f.s.av vo vp vh)] G10:=s10;intro J78;have rem:∀ G2,Sp [] G [au i8 (bE (mM f.s) (mD f.s)),au i3 u.av,au i1 (f.s.av vo vp vh)] G2 ->
   (∀ G',Ch [] G [] G'->Q (.int .i64 (if (ey false u.id (cw f.o (mM f.s))).isSome=false then 120 else if u.kind=2/\sha u.hash≠((ey false u.id (cw f.o (mM f.s))).getD aL.zero).hash then 120 else 0)) G')->J78 G2:=by
  intro G55 s55 hQ;simp -zeta only [J78];refine ae (St.dM (au.own (i:=2) s55 rfl) ho hl) ?_;refine ae (jW (au.own (i:=0) s55 rfl)).1 ?_;refine ae (bF (i:=1) s55 rfl hu).2.1 ?_;refine gK.use (hS.o.mv s55.ch) hS.lo fun w hw=>?_;refine⟨⟨(bF (i:=1) s55 rfl hu).2.1,trivial⟩,?_⟩;have hfl:=jU f.o (mM f.s);have hfo:=mu (n:=mM f.s) hS.oko;refine ik.use hw.gZ hfo (by omega) fun G62 c62=>?_;have s62:=s55.tmp c62;have hA:=lT (rm:=false) (id:=u.id) hfo;obtain⟨A,eA⟩:∃ A,A=ey false u.id (cw f.o (mM f.s)):=⟨_,rfl⟩;rw[<- eA]at hA hQ ⊢;refine ae (z6 _) ?_;refine ae (zZ _) ?_;refine vX s62 hA fun i65 G67 s67=>?_;rw[dx,aa];cases hAs:A.isSome with
  | false=>
   rw[hAs,if_pos rfl]at hQ;exact hQ _ s67.ch
  | true=>
   rw[hAs,if_neg (by decide)]at hQ;rw[Bool.not_true,aK];refine ae (bF (i:=2) s67 rfl hu).1 ?_;rw[bB,aa,aI];refine⟨fun hk=>?_,fun hk=>?_⟩
   ·refine ae (bF (i:=2) s67 rfl hu).2.2.2.1 ?_;refine ae (bF (i:=0) s67 rfl hA).2.2.2.1 ?_;refine j6.use hu.hash fun G74 c74=>?_;have s74:=s67.tmp c74;refine⟨⟨(bF (i:=0) s74 rfl hA).2.2.2.1,trivial⟩,?_⟩;rw[qg (je _) hA.hash,aa,dC];refine⟨fun hne=>?_,fun he=>?_⟩
    ·rw[if_pos ⟨hk,hne⟩]at hQ;exact hQ _ s74.ch
    ·rw[if_neg (fun hh=>hh.2 he)]at hQ;exact hQ _ s74.ch
   ·rw[if_neg (fun hh=>hk hh.1)]at hQ;exact hQ _ s67.ch
 refine ae (St.ld (au.own (i:=2) s10 rfl) ho hl) ?_;refine gC.use (hS.mv s10.ch) fun G13 c13=>?_;have s13:=s10.tmp c13;rw[gO];refine⟨fun hd=>?_,fun hd=>?_⟩
 ·rw[if_pos hd]at hQ;exact hQ _ s13.ch
 rw[if_neg (by rw[hd];decide)]at hQ;have hg:=au.own (i:=2) s13 rfl;refine ae (St.eH hg ho hl) ?_;refine ae (dh (hS.p.gZ.ch' s13.ch)) ?_;refine ae (St.od hg ho hl) ?_;rw[b7,aa,fI,aa,aI];refine⟨fun h1=>?_,fun h1=>?_⟩
 ·rw[if_pos h1]at hQ;exact hQ _ s13.ch
 rw[if_neg h1]at hQ;refine ae (St.eH hg ho hl) ?_;refine ae (St.dM hg ho hl) ?_;refine ae (bF (i:=1) s13 rfl hu).2.2.2.2.2 ?_;refine jq.use (hS.p.gZ.ch' s13.ch) (hS.o.gZ.ch' s13.ch) hS.okp hS.oko (by omega) (by omega) hu fun G23 c23=>?_;have s23:=s13.tmp c23;rw[cD,aa,dC];refine⟨fun h2=>?_,fun h2=>?_⟩
 ·rw[if_pos h2]at hQ;exact hQ _ s23.ch
 rw[if_neg (by simpa using h2)]at hQ;intro J51;refine ae (bF (i:=1) s23 rfl hu).1 ?_;rw[bB,aa,aI];refine⟨fun hk=>?_,fun hk=>?_⟩
 ·rw[if_pos hk]at hQ;have hg:=au.own (i:=2) s23 rfl;refine ae (St.eH hg ho hl) ?_;refine ae (St.dM hg ho hl) ?_;refine ae (jW (au.own (i:=0) s23 rfl)).1 ?_;refine iL.use (hS.p.gZ.ch' s23.ch) (hS.o.mv s23.ch) hS.okp hS.oko hS.lp hS.lo fun G31 c31=>?_;have s31:=s23.tmp c31;rw[fI,aa];by_cases h3:(483:Int)≤((kX f.p f.o (mM f.s):Nat):Int)
  ·rw[if_pos (by omega)]at hQ;rw[dT_ h3];simp -zeta only [J51,aN];exact hQ _ s31.ch
  ·rw[if_neg (by omega)]at hQ;rw[dF_ h3];simp -zeta only [J51,aK];refine ae (bF (i:=1) s31 rfl hu).1 ?_;rw[hk,ez0,aa,aN];refine ae (bF (i:=1) s31 rfl hu).2.2.1 ?_;refine ae (St.ld (au.own (i:=2) s31 rfl) ho hl) ?_;refine cR.use (hS.mv s31.ch) fun G40 c40=>?_;have s40:=s31.tmp c40;refine⟨⟨(bF (i:=1) s40 rfl hu).2.2.1,trivial⟩,?_⟩;rw[da,aa,aI];refine⟨fun h4=>?_,fun h4=>?_⟩
   ·rw[if_pos h4]at hQ;exact hQ _ s40.ch
   rw[if_neg h4]at hQ;refine ae (bF (i:=1) s40 rfl hu).1 ?_;rw[hk,ez0,aa,aN];exact hQ _ s40.ch
 ·rw[if_neg hk]at hQ;simp -zeta only [J51,aK];have e1:az T .eql ay (.int .i64 u.kind) (.int .i64 1)=some (.bool false):=by rw[bB,dF_ hk]
  refine ae (bF (i:=1) s23 rfl hu).1 ?_;rw[e1,aa,aK];refine ae (bF (i:=1) s23 rfl hu).1 ?_;rw[e1,aa,aK];exact rem _ s23 hQ
end
end Go.Esc.M
namespace Go.Esc.M
open Go Go.Esc
theorem mZ {s:List UInt8}(h:s.length=32) (n:Int):(jS s n).1.length=32:=by
 unfold jS;cases okN n
 ·rfl
 ·exact mB 48 h
theorem xe {ow ix o q:Int}{pt:List UInt8}{l:List ba}(hp:pt.length=32) (hl:∀ p∈l,p.ok):(oI ow ix pt o q l).1.length≤1000000:=by
 unfold oI;split
 ·simp
 ·cases hs:lG o q l with
  | false=>simp
  | true=>
   have h1:=qQ hs;have h2:∀ m:List ba,(∀ p∈m,p.ok)->(m.flatMap ba.bytes).length=49*m.length:=by
    intro m hm;induction m with
    | nil=>rfl
    | cons p m ih=>rw[List.flatMap_cons,List.length_append,ba.sf (hm p (by simp)),ih (fun p hp=>hm p (by simp[hp])),List.length_cons];omega
   simp only[cond_true,vK,List.length_append,iH,hp,h2 l hl];omega
def kx (f:StF) (ca cb:Int):FoldM:=mN f.s.bo f.s.bp f.o f.p ca cb
theorem qh {G:ak}{f:StF}{vo vp vh:ah}(h:ka G f vo vp vh) (ca cb:Int):∀ p∈(kx f ca cb).l,p.ok:=JB h.oko h.okp
theorem uj (f:StF) (ca cb:Int):(kx f ca cb).l.length≤f.o.length+f.p.length:=HW _ _ _ _ _ _
def yV (c:CfM) (f:StF) (n ca cb:Int):List UInt8×Bool:=
 if (jS c.seed n).2≠0 then ([],false) else if (kx f ca cb).e≠0 then ([],false)
 else ((oI f.s.side n (sha (jS c.seed n).1) (kx f ca cb).o (kx f ca cb).q (kx f ca cb).l).1,decide ((oI f.s.side n (sha (jS c.seed n).1) (kx f ca cb).o (kx f ca cb).q (kx f ca cb).l).2=0))
theorem Eb {c:CfM}{f:StF}{n ca cb:Int}(hf:∀ p∈(kx f ca cb).l,p.ok):(yV c f n ca cb).1.length≤1000000:=by
 unfold yV;split
 ·simp
 ·split
  ·simp
  ·exact xe (je _) hf
structure Lf where
 r:RcM
 l:List aL
 e:Int
def noC (e:Int):Lf:=⟨RcM.zero,[],e⟩
def mU (c:CfM) (f:StF) (m:cr):Lf:=
 if uO f.s=true then noC 220 else if m.kind≠4 then noC 160 else if 281474976710653<f.s.loc\/m.index≠f.s.loc+1 then noC 90
 else if f.s.heldA=f.s.atA/\(f.p.length:Int)=f.s.atB then noC 8
 else if (yV c f m.index f.s.heldA (f.p.length:Nat)).2=false\/mac c.pkey (yV c f m.index f.s.heldA (f.p.length:Nat)).1≠m.hash then noC 110
 else ⟨{ RcM.zero with kind:=3,index:=m.index,sig:=m.hash },f.p.drop (cw f.p f.s.atB).length,0⟩
def qC (c:CfM) (n:Int):cr:=
 if n<0\/281474976710653<n then cr.zero else { cr.zero with kind:=5,index:=n,secret:=(jS c.seed n).1,hash:=sha (jS c.seed (n+2)).1 }
def jR (f:StF) (m:cr):RcM×Int:=
 if uO f.s=true then noR 220 else if m.kind≠5 then noR 160 else if f.s.rem=f.s.ack\/IntKind.i64.wrap (f.s.rem-1)≠f.s.ack\/m.index≠f.s.ack then noR 90
 else if sha m.secret≠f.s.ptsA then noR 100 else if (tw f.h f.s.ack m.secret).2≠0 then noR 100
 else ({ RcM.zero with kind:=4,index:=f.s.ack,secret:=m.secret,point:=m.hash },0)
def tI (c:CfM) (f:StF):cr:=
 { cr.zero with kind:=4,index:=f.s.rem,hash:=mac c.key (oI (IntKind.i64.wrap (1-f.s.side)) f.s.rem (if f.s.rem≠f.s.ack then f.s.ptsB else f.s.ptsA) (kx f f.s.sgnA f.s.sgnB).q (kx f f.s.sgnA f.s.sgnB).o (pE (kx f f.s.sgnA f.s.sgnB).l)).1 }
def StM.zero:StM:=⟨0,0,0,0,0,0,0,0,0,0,0,0,0,false,h0,h0,h0,0,0⟩
theorem StM.bq:StM.zero.ok:=⟨cL,cL,cL,cL,cL,cL,cL,cL,cL,cL,cL,cL,cL,rfl,rfl,rfl,cL,cL⟩
theorem lv0:bw .nilSlice/\bw .nilSlice/\bw .nilSlice:=⟨bw.nil,bw.nil,bw.nil⟩
theorem EV:hO=StM.zero.av .nilSlice .nilSlice .nilSlice:=rfl
def nF (c:CfM):Prop:=c.side<0\/1<c.side\/c.cap<1\/right c.cap=false\/c.ours<0\/c.cap<c.ours
instance (c:CfM):Decidable (nF c):=by unfold nF;infer_instance
def mm (c:CfM):StM×Int:=if nF c then (StM.zero,1) else ({ StM.zero with side:=c.side,cap:=c.cap,bo:=c.ours,bp:=c.cap-c.ours,ptsA:=c.ptsA,ptsB:=c.ptsB,closed:=-1 },0)
section
variable {F0:List AId}{G0 G:ak}{ps:List LP}{Q:ah->ak->Prop}
theorem Eg {t:TypeId}{si:TI}{e:TypeId}(ht:T t=some si) (hd:si.desc=.slice e) {n:Nat}{v:ah}{vs:List ah}(h:ff n G v vs):(v=.nilSlice/\vs=[]/\az T .eql t v .nilSlice=some (.bool true))\/az T .eql t v .nilSlice=some (.bool false):=by
 rcases h with ⟨_,_,_,_,_,_,rfl,_⟩|⟨rfl,rfl⟩
 ·exact .inr (by simp[az,kV,ht,hd])
 ·exact .inl ⟨rfl,rfl,by simp[az,kV,ht,hd]⟩
theorem xO.use {v:ah}{l:List aL}(hl:ff 36 G v (l.map aL.av)) (hok:∀ u∈l,u.ok) (hlen:l.length≤1048576) (hQ:∀ w G',Sp [] G [bm 36 w (l.map aL.av)] G'->Q w G'):al P bk.n [v] G Q:=by
 refine bk.sound ?_;unfold bk.S;rcases Eg bT rfl hl with ⟨rfl,h2,h3⟩|h3
 ·refine ae h3 ?_;rw[aN];have s:=(Sp.nil G).nz 36;rw[<- h2]at s;exact hQ _ _ s
 ·refine ae h3 ?_;rw[aK];refine Dg (T:=T) (ts:=aj) (e:=aG) (si:=dL) (ie:=cG) (n:=0) (l:=[]) bT rfl dE rfl rfl rfl rfl (by simp) (by decide) (Sp.nil G) fun v2 G3 s3=>?_;refine uN (T:=T) (ts:=aj) (e:=aG) (si:=dL) (ie:=cG) (tx:=aj) (xi:=dL) (i:=0) (vs:=[]) (xs:=l.map aL.av) bT rfl dE rfl (by decide) bT (.inr ⟨_,rfl⟩) s3 rfl (hl.ch' s3.ch).elems (nW hok).1 (nW hok).2 (by rw[show cG.bytes=72 from rfl,List.length_map];simp;omega) fun w G5 s5=>?_;exact hQ _ _ s5
theorem FU.use {v:ah}{l:List b6}(hl:ff 34 G v (l.map b6.av)) (hok:∀ u∈l,u.ok) (hlen:l.length*48≤140737488351232) (hQ:∀ w G',Sp [] G [bm 34 w (l.map b6.av)] G'->Q w G'):al P bC.n [v] G Q:=by
 refine bC.sound ?_;unfold bC.S;rcases Eg gz rfl hl with ⟨rfl,h2,h3⟩|h3
 ·refine ae h3 ?_;rw[aN];have s:=(Sp.nil G).nz 34;rw[<- h2]at s;exact hQ _ _ s
 ·refine ae h3 ?_;rw[aK];refine Dg (T:=T) (ts:=aV) (e:=cz) (si:=jr) (ie:=kv) (n:=0) (l:=[]) gz rfl jN rfl rfl rfl rfl (by simp) (by decide) (Sp.nil G) fun v2 G3 s3=>?_;refine uN (T:=T) (ts:=aV) (e:=cz) (si:=jr) (ie:=kv) (tx:=aV) (xi:=jr) (i:=0) (vs:=[]) (xs:=l.map b6.av) gz rfl jN rfl (by decide) gz (.inr ⟨_,rfl⟩) s3 rfl (hl.ch' s3.ch).elems (wV hok) (sa l) (by rw[show kv.bytes=48 from rfl,List.length_map];simp;omega) fun w G5 s5=>?_;exact hQ _ _ s5
theorem kG.use {f:StF}{c:CfM}{n ca cb:Int}{vo vp vh:ah}(hS:ka G f vo vp vh) (hc:c.ok) (hQ:∀ G',Ch [] G [] G'->Q (.tuple [.str (yV c f n ca cb).1,.bool (yV c f n ca cb).2]) G'):al P kG.n [c.av,f.s.av vo vp vh,.int .i64 n,bE ca cb] G Q:=by
 have ho:=hS.ok;have hl:=hS.lv;have hlo:=hS.lo;have hlp:=hS.lp;refine kG.sound ?_;unfold kG.S;unfold yV at hQ;intro i1 f1;have s1:=(Sp.nil G).row f1 c.av;intro i3 f3;have s3:=s1.row f3 (f.s.av vo vp vh);intro i5 f5;have s5:=s3.row f5 (bE ca cb);revert s5;generalize ak.upd _ i5 _=G6;intro s5;refine ae (Cf.ue (au.own (i:=2) s5 rfl) hc) ?_;refine im.use hc.seed fun G9 c9=>?_;have s9:=s5.tmp c9;have hxl:=mZ hc.seed n;obtain⟨X,hX⟩:∃ X,X=jS c.seed n:=⟨_,rfl⟩;rw[<- hX]at hQ hxl ⊢;refine ae (hi0 _) ?_;refine ae (hi1 _) ?_;refine pg s9 hxl fun i12 G14 s14=>?_;rw[cD,aa,dC];refine⟨fun h1=>?_,fun h1=>?_⟩
 ·rw[if_pos h1]at hQ;exact hQ _ s14.ch
 rw[if_neg (fun hh=>hh h1)]at hQ;have hg:=au.own (i:=2) s14 rfl;refine ae (St.uM hg ho hl) ?_;refine ae (St.tC hg ho hl) ?_;refine ae (St.dM hg ho hl) ?_;refine ae (St.eH hg ho hl) ?_;refine ae (cj cK (au.own (i:=1) s14 rfl) rfl) ?_;refine iM.use (hS.o.mv s14.ch) (hS.p.mv s14.ch) hS.oko hS.okp hS.lo hS.lp fun x G22 t22=>?_;have hFok:=qh hS ca cb;have hFlen:=uj f ca cb;unfold kx at hQ hFok hFlen;obtain⟨F,hF⟩:∃ F,F=mN f.s.bo f.s.bp f.o f.p ca cb:=⟨_,rfl⟩;rw[<- hF]at hQ hFok hFlen t22 ⊢;obtain⟨F22,o22,c22⟩:=t22.out;have s22:=s14.new o22 c22;have lx:=(bm.own (i:=0) s22 rfl).leaf;refine ae (tv0 _ _) ?_;refine ae (tv1 _ _) ?_;obtain⟨w1,w2,w3⟩:=rr (o:=F.o) (q:=F.q) lx;refine jL s22 ng w1 (by rw[w2];rfl) w3 fun i25 G27 s27=>?_;rw[cD,aa,dC];refine⟨fun h2=>?_,fun h2=>?_⟩
 ·rw[if_pos h2]at hQ;exact hQ _ s27.ch
 rw[if_neg (fun hh=>hh h2)]at hQ;refine ae (St.lJ (au.own (i:=4) s27 rfl) ho hl) ?_;refine ae (bM hxl (au.own (i:=2) s27 rfl)) ?_;refine ae (iI (i:=0) s27 rfl lx).2.2.2 ?_;refine iz.use hxl fun G33 c33=>?_;have s33:=s27.tmp c33;refine⟨⟨(iI (i:=0) s33 rfl lx).2.2.2,St.lJ (au.own (i:=4) s33 rfl) ho hl,trivial⟩,?_⟩;refine iN.use (je _) (bm.own (i:=1) s33 rfl).is hFok (by omega) fun G35 c35=>?_;have s35:=s33.tmp c35;refine ae (tv0 _ _) ?_;refine ae (tv1 _ _) ?_;rw[bB,aa];exact hQ _ s35.ch
theorem AV {x:Int}{h:List UInt8}{w:ah}(hl:h.length=32) (hw:bw w):bj T ax [(0,.int .i64 3),(3,.int .i64 x),(2,w),(5,.agg (h.map u8v))]=some (({ RcM.zero with kind:=3,index:=x,sig:=h }:RcM).av w):=by
 refine wC (fun p hp=>?_) rfl;simp only[List.mem_cons,List.not_mem_nil,or_false]at hp;rcases hp with rfl|rfl|rfl|rfl
 ·rfl
 ·rfl
 ·show some 1=some (Esc.sz w);rw[hw.1]
 ·show some (Esc.sz (.agg (h0.map u8v)))=some (Esc.sz (.agg (h.map u8v)));rw[Esc.sz,Esc.sz,szh hl,szh oe]
theorem jB.use {f:StF}{c:CfM}{m:cr}{vo vp vh:ah}(hS:ka G f vo vp vh) (hc:c.ok) (hm:m.ok)
  (hQ:∀ w G',Sp [] G [bm 36 w ((mU c f m).l.map aL.av)] G'->Q (.tuple [(mU c f m).r.av w,.int .i64 (mU c f m).e]) G'):al P jB.n [c.av,f.s.av vo vp vh,m.av] G Q:=by
 have ho:=hS.ok;have hl:=hS.lv;have hlo:=hS.lo;have hlp:=hS.lp;refine jB.sound ?_;unfold jB.S;rw[uU];obtain⟨R,hR⟩:∃ R,R=mU c f m:=⟨_,rfl⟩;rw[<- hR]at hQ;unfold mU at hR;intro i1 f1;have s1:=(Sp.nil G).row f1 c.av;intro i3 f3;have s3:=s1.row f3 (f.s.av vo vp vh);intro i5 f5;have s5:=s3.row f5 m.av;intro i7 f7;have s7:=s5.row f7 (RcM.zero.av .nilSlice);revert s7;generalize ak.upd _ i7 _=G8;intro s7;have hg:=au.own (i:=2) s7 rfl;refine ae (St.qc hg ho hl) ?_;refine ae (St.eH hg ho hl) ?_;refine ae (dh (hS.p.gZ.ch' s7.ch)) ?_;refine ae (v:=bE f.s.heldA (f.p.length:Nat)) rfl ?_;refine jL (c:=bE f.s.heldA (f.p.length:Nat)) s7 cK rfl rfl rfl fun i13 G15 s15=>?_;refine ae (St.ld (au.own (i:=3) s15 rfl) ho hl) ?_;refine gC.use (hS.mv s15.ch) fun G18 c18=>?_;have s18:=s15.tmp c18;have s18:Sp [] G [au i13 (bE f.s.heldA (f.p.length:Nat)),au i7 (RcM.zero.av .nilSlice),au i5 m.av,au i3 (f.s.av vo vp vh),au i1 c.av] G18:=s18;have no:∀ {e:Int}{G2:ak},Sp [] G [au i13 (bE f.s.heldA (f.p.length:Nat)),au i7 (RcM.zero.av .nilSlice),au i5 m.av,au i3 (f.s.av vo vp vh),au i1 c.av] G2->R=noC e ->
   wv (bj T ax []) fun v17=>wg (aF T G2 ax (.ptr i7 [] 0) v17) fun G18=>wv (ag T G18 ax (.ptr i7 [] 0)) fun v19=>Q (.tuple [v19,.int .i64 e]) G18:=by
  intro e G2 s2 he;refine kz (j:=1) s2 rfl RcM.bq bw.nil fun G' s'=>?_;have:=hQ .nilSlice G';rw[he]at this;exact this (((Sp.nil G).tmp s'.ch).nz 36)
 rw[gO];refine⟨fun hd=>no s18 (by rw[hR,if_pos hd]),fun hd=>?_⟩;rw[if_neg (by rw[hd];decide)]at hR;obtain⟨m0,_,_,m3,_,m5,_,_,_⟩:=gx (i:=2) s18 rfl hm;refine ae m0 ?_;rw[cD,aa,dC];refine⟨fun h1=>no s18 (by rw[hR,if_pos h1]),fun h1=>?_⟩;rw[if_neg (fun hh=>hh h1)]at hR;have hg:=au.own (i:=3) s18 rfl;intro J44;have bad:(281474976710653<f.s.loc\/m.index≠f.s.loc+1)->J44 (.bool true) G18:=by
  intro hb;simp -zeta only [J44,aN];exact no s18 (by rw[hR,if_pos hb])
 have lK:¬ (281474976710653<f.s.loc\/m.index≠f.s.loc+1)->J44 (.bool false) G18:=by
  intro hb;rw[if_neg hb]at hR;simp -zeta only [J44,aK];refine ae (cj cK (au.own (i:=0) s18 rfl) rfl) ?_;refine ae (St.GV hg ho hl) ?_;rw[r6 (t:=aU),aa,aI];refine⟨fun h2=>no s18 (by rw[hR,if_pos h2]),fun h2=>?_⟩;rw[if_neg h2]at hR;refine ae (Cf.ld (au.own (i:=4) s18 rfl) hc) ?_;refine ae (St.ld hg ho hl) ?_;refine ae m3 ?_;refine ae (cj cK (au.own (i:=0) s18 rfl) rfl) ?_;refine kG.use (hS.mv s18.ch) hc fun G50 c50=>?_;have s50:=s18.tmp c50;have hol:=Eb (c:=c) (n:=m.index) (qh hS f.s.heldA (f.p.length:Nat));obtain⟨W,hW⟩:∃ W,W=yV c f m.index f.s.heldA (f.p.length:Nat):=⟨_,rfl⟩;rw[<- hW]at hR hol ⊢;refine ae (tv0 _ _) ?_;refine ae (tv1 _ _) ?_;intro J78;have bad2:∀ G2,Sp [] G [au i13 (bE f.s.heldA (f.p.length:Nat)),au i7 (RcM.zero.av .nilSlice),au i5 m.av,au i3 (f.s.av vo vp vh),au i1 c.av] G2->(W.2=false\/mac c.pkey W.1≠m.hash)->J78 (.bool true) G2:=by
   intro G2 s2 hb;simp -zeta only [J78,aN];exact no s2 (by rw[hR,if_pos hb])
  have good2:∀ G2,Sp [] G [au i13 (bE f.s.heldA (f.p.length:Nat)),au i7 (RcM.zero.av .nilSlice),au i5 m.av,au i3 (f.s.av vo vp vh),au i1 c.av] G2->¬ (W.2=false\/mac c.pkey W.1≠m.hash)->J78 (.bool false) G2:=by
   intro G59 s59 hb;rw[if_neg hb]at hR;simp -zeta only [J78,aK];have hg:=au.own (i:=3) s59 rfl;refine ae (St.eH hg ho hl) ?_;refine ae (St.od hg ho hl) ?_;refine gK.use (hS.p.mv s59.ch) hS.lp fun w hw=>?_;have hfl:=jU f.p f.s.atB;refine ae (dh hw.gZ) ?_;obtain⟨_,_,_,m3,_,m5,_,_,_⟩:=gx (i:=2) s59 rfl hm;refine ae m3 ?_;refine ae (St.eH hg ho hl) ?_;obtain⟨w2,e1,e2⟩:=hJ.drop (ie:=cG) (k:=.i64) (m:=(cw f.p f.s.atB).length) bT rfl dE (hS.p.mv s59.ch) (by rw[List.length_map];exact hfl);rw[<- List.map_drop]at e2;refine ae e1 ?_;refine ae m5 ?_;refine xO.use e2 (fun u hu=>hS.okp u (List.mem_of_mem_drop hu)) (by rw[List.length_drop];omega) fun w3 G74 t74=>?_;obtain⟨F74,o74,c74⟩:=t74.out;have s74:=s59.new o74 c74;obtain⟨_,_,_,m3,_,m5,_,_,_⟩:=gx (i:=3) s74 rfl hm;refine⟨⟨m5,m3,trivial⟩,?_⟩;have lw:bw w3:=(bm.own (i:=0) s74 rfl).leaf;have hok:({ RcM.zero with kind:=3,index:=m.index,sig:=m.hash }:RcM).ok:=⟨iu 3 (by decide) (by decide),aL.bq,hm.index,cL,cL,hm.hash,rfl,rfl,cL⟩;refine ae (AV hm.hash lw) ?_;refine Rc.st (i:=2) s74 rfl RcM.bq bw.nil hok lw fun G76 s76=>?_;refine ae (Rc.ld (au.own (i:=2) s76 rfl) hok lw) ?_;have:=hQ w3 G76;rw[hR]at this;exact this ((((s76.erase 1).erase 1).erase 1).erase 1 |>.erase 1)
  rw[dx,aa];cases hW2:W.2 with
  | false=>
   rw[Bool.not_false,aN];exact bad2 _ s50 (.inl hW2)
  | true=>
   rw[Bool.not_true,aK];refine ae (Cf.GR (au.own (i:=4) s50 rfl) hc) ?_;obtain⟨_,_,_,_,_,m5,_,_,_⟩:=gx (i:=2) s50 rfl hm;refine ae m5 ?_;refine jT.use hc.pkey hm.hash (by omega) fun G57 c57=>?_;have s57:=s50.tmp c57;rw[dx,aa];by_cases h3:mac c.pkey W.1=m.hash
   ·rw[dT_ h3];exact good2 _ s57 (by rw[hW2];simp[h3])
   ·rw[dF_ h3];exact bad2 _ s57 (.inr h3)
 refine ae (St.qb hg ho hl) ?_;rw[da,aa,aI];refine⟨fun h2=>bad (.inl h2),fun h2=>?_⟩;refine ae m3 ?_;refine ae (St.qb hg ho hl) ?_;have hloc:=ho.loc;rw[bg,i64_in (by have:=hloc.1;omega) (by omega),aa,cD,aa];by_cases h3:m.index=f.s.loc+1
 ·rw[dT_ h3];exact lK (by rintro (h | h);exact h2 h;exact h h3)
 ·rw[dF_ h3];exact bad (.inr h3)
theorem uo {parts:List (Nat×ah)}{r:cr}(hs:∀ p∈parts,cr.zero.cs[p.1]?.map Esc.sz=some (Esc.sz p.2)) (he:p7 cr.zero.cs parts=r.cs):bj T aW parts=some r.av:=by
 refine (kO (zs:=cr.zero.cs) eQ rfl rfl rfl (pf rfl) hs).trans ?_;rw[he];rfl
theorem oJ {h:List UInt8}(hl:h.length=32):some (Esc.sz (.agg (h0.map u8v)))=some (Esc.sz (.agg (h.map u8v))):=by rw[Esc.sz,Esc.sz,szh hl,szh oe]
theorem yC {x:Int}{h:List UInt8}(hl:h.length=32):bj T aW [(0,.int .i64 4),(3,.int .i64 x),(5,.agg (h.map u8v))]=some (cr.av { cr.zero with kind:=4,index:=x,hash:=h }):=by
 refine uo (fun p hp=>?_) rfl;simp only[List.mem_cons,List.not_mem_nil,or_false]at hp;rcases hp with rfl|rfl|rfl
 ·rfl
 ·rfl
 ·exact oJ hl
theorem iU.use {c:CfM}{n:Int}(hc:c.ok) (hQ:∀ G',Ch [] G [] G'->Q (qC c n).av G'):al P iU.n [c.av,.int .i64 n] G Q:=by
 refine iU.sound ?_;unfold iU.S;rw[EW];unfold qC at hQ;intro i1 f1;have s1:=(Sp.nil G).row f1 c.av;intro i3 f3;have s3:=s1.row f3 cr.zero.av;revert s3;generalize ak.upd _ i3 _=G4;intro s3 J36;have bad:(n<0\/281474976710653<n)->J36 (.bool true) G4:=by
  intro hb;rw[if_pos hb]at hQ;simp -zeta only [J36,aN];refine ae (v:=cr.zero.av) rfl ?_;refine nK (i:=0) s3 rfl cr.bq cr.bq fun G10 s10=>?_;refine ae (cj eQ (au.own (i:=0) s10 rfl) (cr.fits cr.bq)) ?_;exact hQ _ s10.ch
 have lK:¬ (n<0\/281474976710653<n)->J36 (.bool false) G4:=by
  intro hb;rw[if_neg hb]at hQ;simp -zeta only [J36,aK];have hx:=mZ hc.seed n;have hy:=mZ hc.seed (n+2);refine ae (Cf.ue (au.own (i:=1) s3 rfl) hc) ?_;refine im.use hc.seed fun G14 c14=>?_;have s14:=s3.tmp c14;refine ae (hi0 _) ?_;refine ae (hi1 _) ?_;refine pg s14 hx fun i17 G19 s19=>?_;refine ae (Cf.ue (au.own (i:=2) s19 rfl) hc) ?_;rw[bg,i64_in (by omega) (by omega),aa];refine im.use hc.seed fun G23 c23=>?_;have s23:=s19.tmp c23;refine ae (hi0 _) ?_;refine ae (hi1 _) ?_;refine pg s23 hy fun i26 G28 s28=>?_;refine ae (bM hx (au.own (i:=1) s28 rfl)) ?_;refine ae (bM hy (au.own (i:=0) s28 rfl)) ?_;refine iz.use hy fun G32 c32=>?_;have s32:=s28.tmp c32;refine⟨⟨bM hx (au.own (i:=1) s32 rfl),trivial⟩,?_⟩;have hz:(sha (jS c.seed (n+2)).1).length=32:=je _;have hok:({ cr.zero with kind:=5,index:=n,secret:=(jS c.seed n).1,hash:=sha (jS c.seed (n+2)).1 }:cr).ok:=⟨iu 5 (by decide) (by decide),cL,cL,iu n (by omega) (by omega),cL,hz,hx,by simp[cr.zero]⟩;refine ae (uo (r:={ cr.zero with kind:=5,index:=n,secret:=(jS c.seed n).1,hash:=sha (jS c.seed (n+2)).1 }) (fun p hp=>?_) rfl) ?_
  ·simp only[List.mem_cons,List.not_mem_nil,or_false]at hp;rcases hp with rfl|rfl|rfl|rfl
   ·rfl
   ·rfl
   ·exact oJ hx
   ·exact oJ hz
  refine nK (i:=2) s32 rfl cr.bq hok fun G34 s34=>?_;refine ae (cj eQ (au.own (i:=2) s34 rfl) (cr.fits hok)) ?_;exact hQ _ s34.ch
 rw[aM,aa,aI];refine⟨fun h1=>bad (.inl h1),fun h1=>?_⟩;rw[da,aa];by_cases h2:281474976710653<n
 ·rw[dT_ h2];exact bad (.inr h2)
 ·rw[dF_ h2];exact lK (by omega)
theorem jC.use {f:StF}{c:CfM}{vo vp vh:ah}(hS:ka G f vo vp vh) (hc:c.ok) (hQ:∀ G',Ch [] G [] G'->Q (tI c f).av G'):al P jC.n [c.av,f.s.av vo vp vh] G Q:=by
 have ho:=hS.ok;have hl:=hS.lv;have hlo:=hS.lo;have hlp:=hS.lp;refine jC.sound ?_;unfold jC.S;rw[EW];unfold tI at hQ;intro i1 f1;have s1:=(Sp.nil G).row f1 c.av;intro i3 f3;have s3:=s1.row f3 (f.s.av vo vp vh);intro i5 f5;have s5:=s3.row f5 cr.zero.av;revert s5;generalize ak.upd _ i5 _=G6;intro s5;have hg:=au.own (i:=1) s5 rfl;refine ae (v:=.ptr i3 [13,0] 16) rfl ?_;refine ae (St.sg hg ho hl) ?_;refine pg s5 ho.ptsA fun i9 G11 s11=>?_;have hg:=au.own (i:=2) s11 rfl;refine ae (St.mn hg ho hl) ?_;refine ae (St.mS hg ho hl) ?_;rw[cD,aa];obtain⟨pt,hpt⟩:∃ pt,pt=if f.s.rem≠f.s.ack then f.s.ptsB else f.s.ptsA:=⟨_,rfl⟩;rw[<- hpt]at hQ;have hp32:pt.length=32:=by
  rw[hpt];split
  ·exact ho.ptsB
  ·exact ho.ptsA
 intro J49;have go:∀ G2,Sp [] G [au i9 (.agg (pt.map u8v)),au i5 cr.zero.av,au i3 (f.s.av vo vp vh),au i1 c.av] G2->J49 G2:=by
  intro G18 s18;simp -zeta only [J49];have hg:=au.own (i:=2) s18 rfl;refine ae (St.uM hg ho hl) ?_;refine ae (St.tC hg ho hl) ?_;refine ae (St.dM hg ho hl) ?_;refine ae (St.eH hg ho hl) ?_;refine ae (St.vr hg ho hl) ?_;refine iM.use (hS.o.mv s18.ch) (hS.p.mv s18.ch) hS.oko hS.okp hS.lo hS.lp fun x G25 t25=>?_;have hFok:=qh hS f.s.sgnA f.s.sgnB;have hFlen:=uj f f.s.sgnA f.s.sgnB;unfold kx at hQ hFok hFlen;obtain⟨F,hF⟩:∃ F,F=mN f.s.bo f.s.bp f.o f.p f.s.sgnA f.s.sgnB:=⟨_,rfl⟩;rw[<- hF]at hQ hFok hFlen t25 ⊢;obtain⟨F25,o25,c25⟩:=t25.out;have s25:=s18.new o25 c25;have lx:=(bm.own (i:=0) s25 rfl).leaf;refine ae (tv0 _ _) ?_;refine ae (tv1 _ _) ?_;obtain⟨w1,w2,w3⟩:=rr (o:=F.o) (q:=F.q) lx;refine jL s25 ng w1 (by rw[w2];rfl) w3 fun i28 G30 s30=>?_;have hg:=au.own (i:=4) s30 rfl;refine ae (St.lJ hg ho hl) ?_;rw[b7,aa];refine ae (St.mn hg ho hl) ?_;refine ae (bM hp32 (au.own (i:=2) s30 rfl)) ?_;refine ae (iI (i:=0) s30 rfl lx).2.2.2 ?_;refine jD.use (bm.own (i:=1) s30 rfl).is hFok (by omega) fun y G37 t37=>?_;obtain⟨F37,o37,c37⟩:=t37.out;have s37:=s30.new o37 c37;have hg:=au.own (i:=5) s37 rfl;refine⟨⟨bM hp32 (au.own (i:=3) s37 rfl),St.mn hg ho hl,St.lJ hg ho hl,trivial⟩,?_⟩;have hTok:=zF hFok;refine iN.use hp32 (bm.own (i:=0) s37 rfl).is hTok (by rw[pI];omega) fun G39 c39=>?_;have s39:=s37.tmp c39;have htl:=xe (ow:=IntKind.i64.wrap (1-f.s.side)) (ix:=f.s.rem) (o:=F.q) (q:=F.o) hp32 hTok;obtain⟨W,hW⟩:∃ W,W=oI (IntKind.i64.wrap (1-f.s.side)) f.s.rem pt F.q F.o (pE F.l):=⟨_,rfl⟩;rw[<- hW]at hQ htl ⊢;refine ae (tv0 _ _) ?_;refine ae (tv1 _ _) ?_;have hg:=au.own (i:=5) s39 rfl;refine ae (St.mn hg ho hl) ?_;refine ae (Cf.Jq (au.own (i:=6) s39 rfl) hc) ?_;refine j3.use hc.key (by omega) fun G45 c45=>?_;have s45:=s39.tmp c45;refine⟨⟨St.mn (au.own (i:=5) s45 rfl) ho hl,trivial⟩,?_⟩;have hz:(mac c.key W.1).length=32:=gU _;revert hQ hz;generalize mac c.key W.1=Z;intro hQ hz;have hok:({ cr.zero with kind:=4,index:=f.s.rem,hash:=Z }:cr).ok:=⟨iu 4 (by decide) (by decide),cL,cL,ho.rem,cL,hz,rfl,by simp[cr.zero]⟩;refine ae (yC hz) ?_;refine nK (i:=4) s45 rfl cr.bq hok fun G47 s47=>?_;refine ae (cj eQ (au.own (i:=4) s47 rfl) (cr.fits hok)) ?_;exact hQ _ s47.ch
 by_cases h1:f.s.rem=f.s.ack
 ·rw[if_neg (fun hh=>hh h1)]at hpt;rw[dT_ h1,Bool.not_true,aK];rw[<- hpt]at s11;exact go _ s11
 ·rw[if_pos h1]at hpt;rw[dF_ h1,Bool.not_false,aN];refine ae (v:=.ptr i3 [13,1] 48) rfl ?_;refine ae (St.zb hg ho hl) ?_;refine sq (i:=0) s11 rfl ho.ptsA ho.ptsB fun G17 s17=>?_;rw[<- hpt]at s17;exact go _ s17
theorem Cm {x:Int}{a b:List UInt8}(ha:a.length=32) (hb:b.length=32):bj T ax [(0,.int .i64 4),(3,.int .i64 x),(6,.agg (a.map u8v)),(7,.agg (b.map u8v))]=some (({ RcM.zero with kind:=4,index:=x,secret:=a,point:=b }:RcM).av .nilSlice):=by
 refine wC (fun p hp=>?_) rfl;simp only[List.mem_cons,List.not_mem_nil,or_false]at hp;rcases hp with rfl|rfl|rfl|rfl
 ·rfl
 ·rfl
 ·exact oJ ha
 ·exact oJ hb
theorem gL.use {f:StF}{m:cr}{vo vp vh:ah}(hT:Tab G) (hS:ka G f vo vp vh) (hm:m.ok) (hQ:∀ G',Ch [] G [] G'->Q (w8 (jR f m)) G'):al P gL.n [f.s.av vo vp vh,m.av] G Q:=by
 have ho:=hS.ok;have hl:=hS.lv;refine gL.sound ?_;unfold gL.S;rw[uU];unfold jR at hQ;intro i1 f1;have s1:=(Sp.nil G).row f1 (f.s.av vo vp vh);intro i3 f3;have s3:=s1.row f3 m.av;intro i5 f5;have s5:=s3.row f5 (RcM.zero.av .nilSlice);revert s5;generalize ak.upd _ i5 _=G6;intro s5;refine ae (St.ld (au.own (i:=2) s5 rfl) ho hl) ?_;refine gC.use (hS.mv s5.ch) fun G9 c9=>?_;have s9:=s5.tmp c9;have s9:Sp [] G [au i5 (RcM.zero.av .nilSlice),au i3 m.av,au i1 (f.s.av vo vp vh)] G9:=s9;rw[gO];refine⟨fun hd=>?_,fun hd=>?_⟩
 ·rw[if_pos hd]at hQ;exact kz (j:=0) s9 rfl RcM.bq bw.nil fun G' s'=>hQ G' s'.ch
 rw[if_neg (by rw[hd];decide)]at hQ;obtain⟨m0,_,_,m3,_,_,_,_,_⟩:=gx (i:=1) s9 rfl hm;refine ae m0 ?_;rw[cD,aa,dC];refine⟨fun h1=>?_,fun h1=>?_⟩
 ·rw[if_pos h1]at hQ;exact kz (j:=0) s9 rfl RcM.bq bw.nil fun G' s'=>hQ G' s'.ch
 rw[if_neg (fun hh=>hh h1)]at hQ;have hg:=au.own (i:=2) s9 rfl;intro J42;have bad:(f.s.rem=f.s.ack\/IntKind.i64.wrap (f.s.rem-1)≠f.s.ack\/m.index≠f.s.ack)->J42 (.bool true) G9:=by
  intro hb;rw[if_pos hb]at hQ;simp -zeta only [J42,aN];exact kz (j:=0) s9 rfl RcM.bq bw.nil fun G' s'=>hQ G' s'.ch
 have lK:¬ (f.s.rem=f.s.ack\/IntKind.i64.wrap (f.s.rem-1)≠f.s.ack\/m.index≠f.s.ack)->J42 (.bool false) G9:=by
  intro hb;rw[if_neg hb]at hQ;simp -zeta only [J42,aK];refine ae (gx (i:=1) s9 rfl hm).2.2.2.2.2.2.1 ?_;refine ae (v:=.ptr i1 [13,0] 16) rfl ?_;refine ae (St.sg hg ho hl) ?_;refine iz.use hm.secret fun G37 c37=>?_;have s37:=s9.tmp c37;have hg:=au.own (i:=2) s37 rfl;refine⟨⟨St.sg hg ho hl,trivial⟩,?_⟩;rw[qg (je _) ho.ptsA,aa,dC];refine⟨fun h2=>?_,fun h2=>?_⟩
  ·rw[if_pos h2]at hQ;exact kz (j:=0) s37 rfl RcM.bq bw.nil fun G' s'=>hQ G' s'.ch
  rw[if_neg (fun hh=>hh h2)]at hQ;refine ae (St.l6 hg ho hl) ?_;refine ae (St.mS hg ho hl) ?_;refine ae (gx (i:=1) s37 rfl hm).2.2.2.2.2.2.1 ?_;refine kC.use (hT.mono s37.ro) (hS.h.gZ.ch' s37.ch) hS.okh hS.lh hm.secret fun w G47 t47=>?_;have s47:=s37.tmp t47.ch;refine ae (tv0 _ _) ?_;refine ae (tv1 _ _) ?_;rw[cD,aa,dC];refine⟨fun h3=>?_,fun h3=>?_⟩
  ·rw[if_pos h3]at hQ;exact kz (j:=0) s47 rfl RcM.bq bw.nil fun G' s'=>hQ G' s'.ch
  rw[if_neg (fun hh=>hh h3)]at hQ;have hg:=au.own (i:=2) s47 rfl;obtain⟨_,_,_,_,_,m5,m6,_,_⟩:=gx (i:=1) s47 rfl hm;refine ae (St.mS hg ho hl) ?_;refine ae m6 ?_;refine ae m5 ?_;have hok:({ RcM.zero with kind:=4,index:=f.s.ack,secret:=m.secret,point:=m.hash }:RcM).ok:=⟨iu 4 (by decide) (by decide),aL.bq,ho.ack,cL,cL,rfl,hm.secret,hm.hash,cL⟩;refine ae (Cm hm.secret hm.hash) ?_;refine Rc.st (i:=0) s47 rfl RcM.bq bw.nil hok bw.nil fun G58 s58=>?_;refine ae (Rc.ld (au.own (i:=0) s58 rfl) hok bw.nil) ?_;exact hQ _ s58.ch
 refine ae (St.mn hg ho hl) ?_;refine ae (St.mS hg ho hl) ?_;rw[bB,aa,aI];refine⟨fun h2=>bad (.inl h2),fun h2=>?_⟩;refine ae (St.mn hg ho hl) ?_;rw[b7,aa];refine ae (St.mS hg ho hl) ?_;rw[cD,aa,dC];refine⟨fun h3=>bad (.inr (.inl h3)),fun h3=>?_⟩;refine ae m3 ?_;refine ae (St.mS hg ho hl) ?_;rw[cD,aa];by_cases h4:m.index=f.s.ack
 ·rw[dT_ h4];exact lK (by rintro (h | h | h);exact h2 h;exact h h3;exact h h4)
 ·rw[dF_ h4];exact bad (.inr (.inr h4))
theorem kH.use {f:StF}{vo vp vh:ah}(hS:ka G f vo vp vh) (hQ:∀ wo wp wh G',Sp [] G [bm 34 wh (f.h.map b6.av),bm 36 wp ((cw f.p f.s.atB).map aL.av),bm 36 wo (f.o.map aL.av)] G'->Q (f.s.av wo wp wh) G'):al P kH.n [f.s.av vo vp vh] G Q:=by
 have ho:=hS.ok;have hl:=hS.lv;have hlp:=hS.lp;refine kH.sound ?_;unfold kH.S;rw[EV];intro i1 f1;have s1:=(Sp.nil G).row f1 (f.s.av vo vp vh);intro i3 f3;have s3:=s1.row f3 (StM.zero.av .nilSlice .nilSlice .nilSlice);revert s3;generalize ak.upd _ i3 _=G4;intro s3;have hg:=au.own (i:=1) s3 rfl;refine ae (St.dM hg ho hl) ?_;refine ae (St.eH hg ho hl) ?_;refine ae (St.od hg ho hl) ?_;refine ae (St.l6 hg ho hl) ?_;refine xO.use (hS.o.gZ.ch' s3.ch) hS.oko hS.lo fun wo G10 t10=>?_;obtain⟨F10,o10,c10⟩:=t10.out;have s10:=s3.new o10 c10;have hg:=au.own (i:=2) s10 rfl;refine⟨⟨St.l6 hg ho hl,St.od hg ho hl,St.eH hg ho hl,trivial⟩,?_⟩;refine gK.use (hS.p.mv s10.ch) hS.lp fun w hw=>?_;refine⟨⟨St.l6 hg ho hl,trivial⟩,?_⟩;have hfl:=jU f.p f.s.atB;refine xO.use hw.gZ (mu hS.okp) (by omega) fun wp G14 t14=>?_;obtain⟨F14,o14,c14⟩:=t14.out;have s14:=s10.new o14 c14;have hg:=au.own (i:=3) s14 rfl;refine⟨⟨St.l6 hg ho hl,trivial⟩,?_⟩;refine FU.use (hS.h.gZ.ch' s14.ch) hS.okh hS.lh fun wh G16 t16=>?_;obtain⟨F16,o16,c16⟩:=t16.out;have s16:=s14.new o16 c16;have lo:bw wo:=(bm.own (i:=2) s16 rfl).leaf;have lp:bw wp:=(bm.own (i:=1) s16 rfl).leaf;have lh:bw wh:=(bm.own (i:=0) s16 rfl).leaf;refine St.tT (i:=4) s16 rfl ho hl lo fun G17 s17=>?_;refine St.tg (i:=4) s17 rfl ho ⟨lo,hl.2.1,hl.2.2⟩ lp fun G18 s18=>?_;refine St.vO (i:=4) s18 rfl ho ⟨lo,lp,hl.2.2⟩ lh fun G19 s19=>?_;refine ae (St.ld (au.own (i:=4) s19 rfl) ho ⟨lo,lp,lh⟩) ?_;refine St.st (i:=3) s19 rfl StM.bq lv0 ho ⟨lo,lp,lh⟩ fun G21 s21=>?_;refine ae (St.ld (au.own (i:=3) s21 rfl) ho ⟨lo,lp,lh⟩) ?_;exact hQ wo wp wh G21 ((s21.erase 3).erase 3)
end
end Go.Esc.M
