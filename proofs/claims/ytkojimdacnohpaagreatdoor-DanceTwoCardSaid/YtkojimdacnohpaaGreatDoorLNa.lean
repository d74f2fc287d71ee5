import Derived.Test.YtkojimdacnohpaaGreatDoorLMd
import Derived.Test.YtkojimdacnohpaaGreatDoorLUh
import Derived.Test.YtkojimdacnohpaaGreatDoorLHb
import Derived.Test.YtkojimdacnohpaaGreatDoorLRS
import Derived.Test.YtkojimdacnohpaaGreatDoorLVg
set_option linter.unusedSimpArgs false
set_option linter.unusedVariables false
set_option maxRecDepth 20000
namespace Go.Esc.M
open Go Go.Esc
section
variable {F0:List AId}{G0 G:ak}{ps:List LP}{Q:ah->ak->Prop}
end
end Go.Esc.M
namespace Go.Esc.M
open Go Go.Esc
section
variable {F0:List AId}{G0 G:ak}{ps:List LP}{Q:ah->ak->Prop}
end
end Go.Esc.M
namespace Go.Esc.M
open Go Go.Esc
section
variable {F0:List AId}{G0 G:ak}{ps:List LP}{Q:ah->ak->Prop}
end
end Go.Esc.M
namespace Go.Esc.M
open Go Go.Esc
end Go.Esc.M
namespace Go.Esc.M
open Go Go.Esc
end Go.Esc.M
namespace Go.Esc.M
open Go Go.Esc
section
variable {F0:List AId}{G0 G:ak}{ps:List LP}{Q:ah->ak->Prop}
end
end Go.Esc.M
namespace Go.Esc.M
open Go Go.Esc
section
variable {F0:List AId}{G0 G:ak}{ps:List LP}{Q:ah->ak->Prop}
end
end Go.Esc.M
namespace Go.Esc.M
open Go Go.Esc
end Go.Esc.M
namespace Go.Esc.M
open Go Go.Esc
section
variable {F0:List AId}{G0 G:ak}{ps:List LP}{Q:ah->ak->Prop}
end
end Go.Esc.M
namespace Go.Esc.M
open Go Go.Esc
section
variable {F0:List AId}{G0 G:ak}{ps:List LP}{Q:ah->ak->Prop}
end
end Go.Esc.M
namespace Go.Esc.M
open Go Go.Esc
def hx:List UInt8:=[49,50,51,52,53,54,55,56,57,48,49,50,51,52,53,54,55,56,57,48,49,50,51,52,53,54,55,56,57,48,49,50]
def b4:List UInt8:=[4,0,0,0,0,0,0,1,2]++hx
def m4:cr:=⟨4,0,0,258,0,hx,h0,[]⟩
def m7:cr:=⟨7,0,0,3,0,h0,h0,[]⟩
section
variable {F0:List AId}{G0 G:ak}{ps:List LP}{Q:ah->ak->Prop}
end
end Go.Esc.M
namespace Go.Esc.M
open Go Go.Esc
end Go.Esc.M
namespace Go.Esc.M
open Go Go.Esc
end Go.Esc.M
namespace Go.Esc.M
open Go Go.Esc
end Go.Esc.M
namespace Go.Esc.M
open Go Go.Esc
section
variable {F0:List AId}{G0 G:ak}{ps:List LP}{Q:ah->ak->Prop}
end
end Go.Esc.M
namespace Go.Esc.M
open Go Go.Esc
structure StF where
 s:StM
 o:List aL
 p:List aL
 h:List b6
structure ka (G:ak) (f:StF) (vo vp vh:ah):Prop where
 ok:f.s.ok
 o:hJ 36 G vo (f.o.map aL.av)
 p:hJ 36 G vp (f.p.map aL.av)
 h:hJ 34 G vh (f.h.map b6.av)
 oko:∀ u∈f.o,u.ok
 okp:∀ u∈f.p,u.ok
 okh:∀ x∈f.h,x.ok
 lo:f.o.length≤1048576
 lp:f.p.length≤1048576
 lh:f.h.length*48≤140737488351232
theorem De {n:Nat}{G:ak}{v:ah}{vs:List ah}(h:hJ n G v vs):bw v:=by
 rcases h with ⟨_,_,_,_,_,_,rfl,_⟩|⟨rfl,_⟩<;>exact⟨rfl,rfl,rfl⟩
theorem ka.lv {G:ak}{f:StF}{vo vp vh:ah}(h:ka G f vo vp vh):bw vo/\bw vp/\bw vh:=⟨De h.o,De h.p,De h.h⟩
theorem ka.mv {G G':ak}{E:List AId}{f:StF}{vo vp vh:ah}(h:ka G f vo vp vh) (hc:Ch [] G E G'):ka G' f vo vp vh:=
 ⟨h.ok,h.o.mv hc,h.p.mv hc,h.h.mv hc,h.oko,h.okp,h.okh,h.lo,h.lp,h.lh⟩
def mM (s:StM):Int:=if s.heldA<s.atA then s.heldA else s.atA
def mD (s:StM):Int:=if s.heldB<s.atB then s.heldB else s.atB
def uO (s:StM):Bool:=!decide (s.failed=0) || !decide (s.closed=-1)
def yr (f:StF):Bool:=decide (2048≤f.o.length) || decide (512≤IntKind.i64.wrap ((f.o.length:Int)-f.s.heldA))
def tj (f:StF):Int:=xj f.s.bo f.o f.p (mM f.s) (mD f.s)
def th (f:StF):Int:=xj f.s.bp f.p f.o (mD f.s) (mM f.s)
def RcM.zero:RcM:=⟨0,aL.zero,0,0,0,h0,h0,h0,0⟩
theorem RcM.bq:RcM.zero.ok:=⟨cL,aL.bq,cL,cL,cL,rfl,rfl,rfl,cL⟩
def rcZ:List ah:=RcM.zero.cs .nilSlice
theorem uU:dw=RcM.zero.av .nilSlice:=rfl
theorem wC {parts:List (Nat×ah)}{r:RcM}{v:ah}(hs:∀ p∈parts,rcZ[p.1]?.map Esc.sz=some (Esc.sz p.2)) (he:p7 rcZ parts=r.cs v):bj T ax parts=some (r.av v):=by
 refine (kO (zs:=rcZ) pK rfl rfl rfl (pf rfl) hs).trans ?_
 rw[he];rfl
theorem Ic:bj T ax []=some (RcM.zero.av .nilSlice):=rfl
def pe (u:aL):RcM:={ RcM.zero with kind:=1,upd:=u }
theorem iu (n:Int) (h0:-9223372036854775808≤n) (h1:n≤9223372036854775807):I64 n:=⟨h0,h1⟩
theorem iR {u:aL}(h:u.ok):(pe u).ok:=⟨iu 1 (by decide) (by decide),h,cL,cL,cL,rfl,rfl,rfl,cL⟩
section
variable {F0:List AId}{G0 G:ak}{ps:List LP}{Q:ah->ak->Prop}
theorem sE {u:aL}(h:u.ok):bj T ax [(0,.int .i64 1),(1,u.av)]=some ((pe u).av .nilSlice):=by
 refine wC (fun p hp=>?_) rfl
 simp only[List.mem_cons,List.not_mem_nil,or_false]at hp
 rcases hp with rfl|rfl
 ·rfl
 ·show some (Esc.sz aL.zero.av)=some (Esc.sz u.av)
  rw[aL.sz h,aL.sz aL.bq]
theorem kz {j:Nat}{i:AId}{e:Int}{v:ah}{r:RcM}(s:Sp F0 G ps G0) (hj:ps[j]?=some (au i (r.av v))) (hr:r.ok) (hv:bw v) (hQ:∀ G',Sp F0 G (ps.set j (au i (RcM.zero.av .nilSlice))) G'->Q (.tuple [RcM.zero.av .nilSlice,.int .i64 e]) G') :
  wv (bj T ax []) fun v17=>wg (aF T G0 ax (.ptr i [] 0) v17) fun G18=>wv (ag T G18 ax (.ptr i [] 0)) fun v19=>Q (.tuple [v19,.int .i64 e]) G18:=by
 refine ae Ic ?_
 refine Rc.st s hj hr hv RcM.bq bw.nil fun G18 s18=>?_
 refine ae (Rc.ld (au.own (i:=j) s18 (by rw[List.getElem?_set_self (List.getElem?_eq_some_iff.1 hj).1])) RcM.bq bw.nil) ?_
 exact hQ G18 s18
theorem fQ.use {f:StF}{vo vp vh:ah}(h:ka G f vo vp vh) (hQ:∀ G',Ch [] G [] G'->Q (bE (mM f.s) (mD f.s)) G'):al P fQ.n [f.s.av vo vp vh] G Q:=by
 have ho:=h.ok
 have hl:=h.lv
 refine fQ.sound ?_
 unfold fQ.S
 intro i1 f1
 have s1:=(Sp.nil G).row f1 (f.s.av vo vp vh)
 intro i3 f3
 have zC:iP=bE 0 0:=rfl
 rw[zC]
 have s3:=s1.row f3 (bE 0 0)
 revert s3
 generalize ak.upd _ i3 _=G4
 intro s3
 have hg:=au.own (i:=1) s3 rfl
 refine ae (St.Jr hg ho hl) ?_
 refine ae (St.qc hg ho hl) ?_
 refine ae (v:=.int .i64 (mM f.s)) rfl ?_
 refine ae (St.od hg ho hl) ?_
 refine ae (St.En hg ho hl) ?_
 refine ae (v:=.int .i64 (mD f.s)) rfl ?_
 refine ae (v:=bE (mM f.s) (mD f.s)) rfl ?_
 refine fg (ig (c:=bE (mM f.s) (mD f.s)) cK (au.own (i:=0) s3 rfl) rfl rfl rfl) ?_
 have s4:=Sp.setRow (j:=0) s3 rfl (bE (mM f.s) (mD f.s))
 refine ae (cj cK (au.own (i:=0) s4 rfl) rfl) ?_
 exact hQ _ s4.ch
theorem iS.use {a b:Int}(hQ:∀ G',Ch [] G [] G'->Q (bE b a) G'):al P iS.n [bE a b] G Q:=by
 refine iS.sound ?_
 unfold iS.S
 intro i1 f1
 have s1:=(Sp.nil G).row f1 (bE a b)
 intro i3 f3
 have zC:iP=bE 0 0:=rfl
 rw[zC]
 have s3:=s1.row f3 (bE 0 0)
 revert s3
 generalize ak.upd _ i3 _=G4
 intro s3
 obtain⟨l1,l2,_⟩:=jW (au.own (i:=1) s3 rfl)
 refine ae l2 ?_
 refine ae l1 ?_
 refine ae (v:=bE b a) rfl ?_
 refine fg (ig (c:=bE b a) cK (au.own (i:=0) s3 rfl) rfl rfl rfl) ?_
 have s4:=Sp.setRow (j:=0) s3 rfl (bE b a)
 refine ae (cj cK (au.own (i:=0) s4 rfl) rfl) ?_
 exact hQ _ s4.ch
theorem eG.use {f:StF}{vo vp vh:ah}(h:ka G f vo vp vh) (hQ:∀ G',Ch [] G [] G'->Q (.int .i64 (tj f)) G'):al P eG.n [f.s.av vo vp vh] G Q:=by
 have ho:=h.ok
 have hl:=h.lv
 refine eG.sound ?_
 unfold eG.S
 intro i1 f1
 have s1:=(Sp.nil G).row f1 (f.s.av vo vp vh)
 have hg:=au.own (i:=0) s1 rfl
 refine ae (St.uM hg ho hl) ?_
 refine ae (St.dM hg ho hl) ?_
 refine ae (St.eH hg ho hl) ?_
 refine ae (St.ld hg ho hl) ?_
 refine fQ.use (h.mv s1.ch) fun G8 c8=>?_
 have s8:=s1.tmp c8
 have hg:=au.own (i:=0) s8 rfl
 refine⟨⟨St.eH hg ho hl,St.dM hg ho hl,St.uM hg ho hl,trivial⟩,?_⟩
 refine eR.use (h.o.mv s8.ch) (h.p.mv s8.ch) h.oko h.okp h.lo h.lp fun G10 c10=>?_
 exact hQ _ (s8.tmp c10).ch
theorem cR.use {f:StF}{vo vp vh:ah}(h:ka G f vo vp vh) (hQ:∀ G',Ch [] G [] G'->Q (.int .i64 (th f)) G'):al P cR.n [f.s.av vo vp vh] G Q:=by
 have ho:=h.ok
 have hl:=h.lv
 refine cR.sound ?_
 unfold cR.S
 intro i1 f1
 have s1:=(Sp.nil G).row f1 (f.s.av vo vp vh)
 have hg:=au.own (i:=0) s1 rfl
 refine ae (St.tC hg ho hl) ?_
 refine ae (St.eH hg ho hl) ?_
 refine ae (St.dM hg ho hl) ?_
 refine ae (St.ld hg ho hl) ?_
 refine fQ.use (h.mv s1.ch) fun G8 c8=>?_
 have s8:=s1.tmp c8
 have hg:=au.own (i:=0) s8 rfl
 refine⟨⟨St.dM hg ho hl,St.eH hg ho hl,St.tC hg ho hl,trivial⟩,?_⟩
 refine iS.use fun G10 c10=>?_
 have s10:=s8.tmp c10
 have hg:=au.own (i:=0) s10 rfl
 refine⟨⟨St.dM hg ho hl,St.eH hg ho hl,St.tC hg ho hl,trivial⟩,?_⟩
 refine eR.use (h.p.mv s10.ch) (h.o.mv s10.ch) h.okp h.oko h.lp h.lo fun G12 c12=>?_
 exact hQ _ (s10.tmp c12).ch
theorem gC.use {f:StF}{vo vp vh:ah}(h:ka G f vo vp vh) (hQ:∀ G',Ch [] G [] G'->Q (.bool (uO f.s)) G'):al P gC.n [f.s.av vo vp vh] G Q:=by
 have ho:=h.ok
 have hl:=h.lv
 refine gC.sound ?_
 unfold gC.S
 intro i1 f1
 have s1:=(Sp.nil G).row f1 (f.s.av vo vp vh)
 have hg:=au.own (i:=0) s1 rfl
 have hQ:=hQ _ s1.ch
 unfold uO at hQ
 refine ae (St.uf hg ho hl) ?_
 rw[cD,aa]
 by_cases h1:f.s.failed=0
 ·rw[dT_ h1,Bool.not_true,Bool.false_or]at hQ
  rw[dT_ h1,Bool.not_true,aK]
  refine ae (St.rz hg ho hl) ?_
  rw[cD,aa]
  exact hQ
 ·rw[dF_ h1,Bool.not_false,Bool.true_or]at hQ
  rw[dF_ h1,Bool.not_false,aN]
  exact hQ
theorem jy.use {f:StF}{vo vp vh:ah}(h:ka G f vo vp vh) (hQ:∀ G',Ch [] G [] G'->Q (.bool (yr f)) G'):al P jy.n [f.s.av vo vp vh] G Q:=by
 have ho:=h.ok
 have hl:=h.lv
 refine jy.sound ?_
 unfold jy.S
 intro i1 f1
 have s1:=(Sp.nil G).row f1 (f.s.av vo vp vh)
 have hg:=au.own (i:=0) s1 rfl
 have hQ:=hQ _ s1.ch
 unfold yr at hQ
 refine ae (St.dM hg ho hl) ?_
 refine ae (dh (h.o.gZ.ch' s1.ch)) ?_
 rw[fI,aa]
 by_cases h1:2048≤f.o.length
 ·rw[dT_ h1,Bool.true_or]at hQ
  rw[dT_ (by omega),aN]
  exact hQ
 ·rw[dF_ h1,Bool.false_or]at hQ
  rw[dF_ (by omega),aK]
  refine ae (St.dM hg ho hl) ?_
  refine ae (dh (h.o.gZ.ch' s1.ch)) ?_
  refine ae (St.qc hg ho hl) ?_
  rw[b7,aa,fI,aa]
  exact hQ
theorem jx.use {u:aL}(h:u.ok) (hQ:∀ G',Ch [] G [] G'->Q ((pe u).av .nilSlice) G'):al P jx.n [u.av] G Q:=by
 refine jx.sound ?_
 unfold jx.S
 rw[uU]
 intro i1 f1
 have s1:=(Sp.nil G).row f1 u.av
 intro i3 f3
 have s3:=s1.row f3 (RcM.zero.av .nilSlice)
 refine ae (bF (i:=1) s3 rfl h).2.2.2.2.2 ?_
 refine ae (sE h) ?_
 refine Rc.st (i:=0) s3 rfl RcM.bq bw.nil (iR h) bw.nil fun G7 s7=>?_
 refine ae (Rc.ld (au.own (i:=0) s7 rfl) (iR h) bw.nil) ?_
 exact hQ _ s7.ch
theorem j6.use {x:List UInt8}(hx:x.length=32) (hQ:∀ G',Ch [] G [] G'->Q (.agg ((sha x).map u8v)) G'):al P j6.n [.agg (x.map u8v)] G Q:=by
 refine j6.sound ?_
 unfold j6.S
 rw[mF]
 intro i1 f1
 have s1:=(Sp.nil G).row f1 (.agg (x.map u8v))
 intro i3 f3
 have s3:=s1.row f3 (.agg ((List.replicate 32 (0:UInt8)).map u8v))
 have hsl:dV T ar (.ptr i1 [] 0) none none none=some (.slice i1 [] 0 0 32 32):=by simp[dV,bZ,dQ,cW,j8,lH]
 refine ae hsl ?_
 have hxs:ff 1 _ (.slice i1 [] 0 0 32 32) (x.map u8v):=qR (au.own (i:=1) s3 rfl) hx
 refine ae (km (si:=fJ) (ie:=gi) (di:=iO) eC rfl cW rfl fS rfl hxs) ?_
 refine CW s3 fun v7 G8 s8=>?_
 refine jh.use (xs:=[x]) (Own.nj (bm.own (i:=0) s8 rfl)) (by simp) (by simp;omega) fun G10 c10=>?_
 have s10:=s8.tmp c10
 have e1:[x].flatten=x:=by simp
 rw[e1]
 have hS:(sha x).length=32:=je _
 refine fg (gA (by simp) hS (au.own (i:=1) s10 rfl)) ?_
 have s11:=Sp.setRow (j:=1) s10 rfl (.agg ((sha x).map u8v))
 refine ae (bM hS (au.own (i:=1) s11 rfl)) ?_
 exact hQ _ s11.ch
theorem gK.use {v:ah}{l:List aL}{n:Int}(hl:hJ 36 G v (l.map aL.av)) (hlen:l.length≤1048576) (hQ:∀ w,hJ 36 G w ((cw l n).map aL.av)->Q w G):al P gK.n [v,.int .i64 n] G Q:=by
 refine gK.sound ?_
 unfold gK.S
 refine ae (v:=.int .i64 (if n<0 then 0 else n)) rfl ?_
 refine ae (dh hl.gZ) ?_
 obtain⟨m,hm,hml,he⟩:∃ m:Nat,(if ((l.length:Nat):Int)<(if n<0 then 0 else n) then ((l.length:Nat):Int) else (if n<0 then 0 else n))=(m:Int)/\m≤l.length/\l.take m=cw l n:=by
  unfold cw
  by_cases h0:n<0
  ·refine⟨0,?_,by omega,?_⟩
   ·rw[if_pos h0,if_neg (by omega)];rfl
   ·rw[show n.toNat=0 by omega]
  ·by_cases h1:((l.length:Nat):Int)<n
   ·refine⟨l.length,?_,by omega,?_⟩
    ·rw[if_neg h0,if_pos h1]
    ·rw[List.take_length,List.take_of_length_le (by omega)]
   ·refine⟨n.toNat,?_,by omega,rfl⟩
    rw[if_neg h0,if_neg h1];omega
 refine ae (v:=.int .i64 (m:Int)) (by rw[<- hm];rfl) ?_
 obtain⟨w,e1,e2⟩:=hJ.take (ie:=cG) (k:=.i64) (m:=m) bT rfl dE hl rfl (by rw[List.length_map];exact hml)
 refine ae e1 ?_
 refine hQ w ?_
 rw[<- he,List.map_take]
 exact e2
end
end Go.Esc.M
