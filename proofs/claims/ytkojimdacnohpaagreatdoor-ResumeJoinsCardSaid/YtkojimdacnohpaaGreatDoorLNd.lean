import Derived.Test.YtkojimdacnohpaaGreatDoorLMo
import Derived.Test.YtkojimdacnohpaaGreatDoorLHc
import Derived.Test.YtkojimdacnohpaaGreatDoorLRO
import Derived.Test.YtkojimdacnohpaaGreatDoorLSe
import Derived.Test.YtkojimdacnohpaaGreatDoorLFu
import Derived.Test.YtkojimdacnohpaaGreatDoorLUl
import Derived.Test.YtkojimdacnohpaaGreatDoorLDe
import Derived.Test.YtkojimdacnohpaaGreatDoorLSf
set_option maxHeartbeats 4000000
set_option linter.unusedSimpArgs false
set_option linter.unusedVariables false
set_option maxRecDepth 20000
namespace Go.Esc.M
open Go Go.Esc
end Go.Esc.M
namespace Go.Esc.M
open Go Go.Esc
end Go.Esc.M
namespace Go.Esc.M
open Go Go.Esc
end Go.Esc.M
namespace Go.Esc.M
open Go Go.Esc
section
variable {F0:List AId}{G0 G:ak}{ps:List LP}{Q:ah->ak->Prop}
end
end Go.Esc.M
namespace Go.Esc.M
open Go Go.Esc
structure StF where
 s:StM
 o:List aL
 p:List aL
 h:List b6
structure ka (G:ak) (f:StF) (vo vp vh:ah):Prop where
 ok:f.s.ok
 o:hJ 36 G vo (f.o.map aL.av)
 p:hJ 36 G vp (f.p.map aL.av)
 h:hJ 34 G vh (f.h.map b6.av)
 oko:∀ u∈f.o,u.ok
 okp:∀ u∈f.p,u.ok
 okh:∀ x∈f.h,x.ok
 lo:f.o.length≤1048576
 lp:f.p.length≤1048576
 lh:f.h.length*48≤140737488351232
theorem De {n:Nat}{G:ak}{v:ah}{vs:List ah}(h:hJ n G v vs):bw v:=by
 rcases h with ⟨_,_,_,_,_,_,rfl,_⟩|⟨rfl,_⟩<;>exact⟨rfl,rfl,rfl⟩
theorem ka.lv {G:ak}{f:StF}{vo vp vh:ah}(h:ka G f vo vp vh):bw vo/\bw vp/\bw vh:=⟨De h.o,De h.p,De h.h⟩
theorem ka.mv {G G':ak}{E:List AId}{f:StF}{vo vp vh:ah}(h:ka G f vo vp vh) (hc:Ch [] G E G'):ka G' f vo vp vh:=
 ⟨h.ok,h.o.mv hc,h.p.mv hc,h.h.mv hc,h.oko,h.okp,h.okh,h.lo,h.lp,h.lh⟩
def mM (s:StM):Int:=if s.heldA<s.atA then s.heldA else s.atA
def mD (s:StM):Int:=if s.heldB<s.atB then s.heldB else s.atB
def uO (s:StM):Bool:=!decide (s.failed=0) || !decide (s.closed=-1)
def yr (f:StF):Bool:=decide (2048≤f.o.length) || decide (512≤IntKind.i64.wrap ((f.o.length:Int)-f.s.heldA))
def tj (f:StF):Int:=xj f.s.bo f.o f.p (mM f.s) (mD f.s)
def th (f:StF):Int:=xj f.s.bp f.p f.o (mD f.s) (mM f.s)
def RcM.zero:RcM:=⟨0,aL.zero,0,0,0,h0,h0,h0,0⟩
theorem RcM.bq:RcM.zero.ok:=⟨cL,aL.bq,cL,cL,cL,rfl,rfl,rfl,cL⟩
def rcZ:List ah:=RcM.zero.cs .nilSlice
theorem uU:dw=RcM.zero.av .nilSlice:=rfl
theorem wC {parts:List (Nat×ah)}{r:RcM}{v:ah}(hs:∀ p∈parts,rcZ[p.1]?.map Esc.sz=some (Esc.sz p.2)) (he:p7 rcZ parts=r.cs v):bj T ax parts=some (r.av v):=by
 refine (kO (zs:=rcZ) pK rfl rfl rfl (pf rfl) hs).trans ?_;rw[he];rfl
theorem Ic:bj T ax []=some (RcM.zero.av .nilSlice):=rfl
def pe (u:aL):RcM:={ RcM.zero with kind:=1,upd:=u }
theorem iu (n:Int) (h0:-9223372036854775808≤n) (h1:n≤9223372036854775807):I64 n:=⟨h0,h1⟩
theorem iR {u:aL}(h:u.ok):(pe u).ok:=⟨iu 1 (by decide) (by decide),h,cL,cL,cL,rfl,rfl,rfl,cL⟩
section
variable {F0:List AId}{G0 G:ak}{ps:List LP}{Q:ah->ak->Prop}
theorem sE {u:aL}(h:u.ok):bj T ax [(0,.int .i64 1),(1,u.av)]=some ((pe u).av .nilSlice):=by
 refine wC (fun p hp=>?_) rfl;simp only[List.mem_cons,List.not_mem_nil,or_false]at hp;rcases hp with rfl|rfl
 ·rfl
 ·show some (Esc.sz aL.zero.av)=some (Esc.sz u.av);rw[aL.sz h,aL.sz aL.bq]
theorem kz {j:Nat}{i:AId}{e:Int}{v:ah}{r:RcM}(s:Sp F0 G ps G0) (hj:ps[j]?=some (au i (r.av v))) (hr:r.ok) (hv:bw v) (hQ:∀ G',Sp F0 G (ps.set j (au i (RcM.zero.av .nilSlice))) G'->Q (.tuple [RcM.zero.av .nilSlice,.int .i64 e]) G') :
  wv (bj T ax []) fun v17=>wg (aF T G0 ax (.ptr i [] 0) v17) fun G18=>wv (ag T G18 ax (.ptr i [] 0)) fun v19=>Q (.tuple [v19,.int .i64 e]) G18:=by
 refine ae Ic ?_;refine Rc.st s hj hr hv RcM.bq bw.nil fun G18 s18=>?_;refine ae (Rc.ld (au.own (i:=j) s18 (by rw[List.getElem?_set_self (List.getElem?_eq_some_iff.1 hj).1])) RcM.bq bw.nil) ?_;exact hQ G18 s18
end
end Go.Esc.M
namespace Go.Esc.M
open Go Go.Esc
def w8 (x:RcM×Int):ah:=.tuple [x.1.av .nilSlice,.int .i64 x.2]
theorem tr0 (x:RcM×Int):aP (w8 x) 0=some (x.1.av .nilSlice):=rfl
theorem tr1 (x:RcM×Int):aP (w8 x) 1=some (.int .i64 x.2):=rfl
def noR (e:Int):RcM×Int:=(RcM.zero,e)
def n8 (f:StF) (a:Int) (h:List UInt8):RcM×Int:=
 if uO f.s=true then noR 220 else if a<1\/1152921504606846976<a then noR 80 else if yr f=true then noR 6
 else if 483≤kX f.o f.p (mD f.s) then noR 131 else if tj f<a then noR 130 else (pe ⟨1,((j7 f.o:Nat):Int),a,h,[]⟩,0)
def tA (f:StF) (u:aL):Bool:=
 (ey false u.id (cw f.p (mD f.s))).isSome && (!(ey true u.id f.o).isSome && ((!decide (u.kind=2) || decide (sha u.hash=((ey false u.id (cw f.p (mD f.s))).getD aL.zero).hash)) && decide (u.note.length≤64)))
def j4 (f:StF) (u:aL):RcM×Int:=
 if uO f.s=true then noR 220 else if tA f u=false then noR 120 else if yr f=true then noR 6 else (pe u,0)
def p6 (f:StF):RcM×Int:=
 if uO f.s=true then noR 220 else if f.s.rem≠f.s.ack\/((f.o.length:Int)=f.s.sgnA/\f.s.atB=f.s.sgnB) then noR 8 else if 281474976710653<f.s.rem then noR 90
 else ({ RcM.zero with kind:=2,index:=f.s.rem+1,cntA:=(f.o.length:Nat),cntB:=f.s.atB },0)
def vu (f:StF) (u:aL):Int:=
 if uO f.s=true then 220 else if 512≤IntKind.i64.wrap ((f.p.length:Int)-f.s.atB) then 131 else if kJ f.p f.o u≠0 then 120
 else if u.kind=1 then (if 483≤kX f.p f.o (mM f.s) then 131 else if th f<u.amount then 130 else 0)
 else if (ey false u.id (cw f.o (mM f.s))).isSome=false then 120
 else if u.kind=2/\sha u.hash≠((ey false u.id (cw f.o (mM f.s))).getD aL.zero).hash then 120 else 0
theorem r6 {t:TypeId}(a b c d:Int):az T .eql aU (bE a b) (bE c d)=some (.bool (decide (a=c/\b=d))):=by
 have:kV T 9 aU (bE a b) (bE c d)=some (decide (a=c) && decide (b=d)):=by
  by_cases h1:a=c<;>by_cases h2:b=d<;>simp[bE,kV,eqF,cK,pb,iD,nc,h1,h2,dD,sz,szs,ah.isAgg,kZ.isAgg]
 simp[az,bE]at this ⊢;rw[this]
section
variable {F0:List AId}{G0 G:ak}{ps:List LP}{Q:ah->ak->Prop}
theorem Cq {x y:Int}{h:List UInt8}(hl:h.length=32):bj T aG [(0,.int .i64 1),(1,.int .i64 x),(2,.int .i64 y),(3,.agg (h.map u8v))]=some (aL.av ⟨1,x,y,h,[]⟩):=by
 refine (kO (zs:=aL.zero.cs) dE rfl rfl rfl (pf rfl) fun p hp=>?_).trans rfl;simp only[List.mem_cons,List.not_mem_nil,or_false]at hp;rcases hp with rfl|rfl|rfl|rfl
 ·rfl
 ·rfl
 ·rfl
 ·show some (Esc.sz (.agg (h0.map u8v)))=some (Esc.sz (.agg (h.map u8v)));rw[Esc.sz,Esc.sz,szh hl,szh oe]
theorem Cp {x:Int}{h:List UInt8}(hl:h.length=32):bj T aG [(0,.int .i64 2),(1,.int .i64 x),(3,.agg (h.map u8v))]=some (aL.av ⟨2,x,0,h,[]⟩):=by
 refine (kO (zs:=aL.zero.cs) dE rfl rfl rfl (pf rfl) fun p hp=>?_).trans rfl;simp only[List.mem_cons,List.not_mem_nil,or_false]at hp;rcases hp with rfl|rfl|rfl
 ·rfl
 ·rfl
 ·show some (Esc.sz (.agg (h0.map u8v)))=some (Esc.sz (.agg (h.map u8v)));rw[Esc.sz,Esc.sz,szh hl,szh oe]
theorem AU (x:Int) (n:List UInt8):bj T aG [(0,.int .i64 3),(1,.int .i64 x),(4,.str n)]=some (aL.av ⟨3,x,0,h0,n⟩):=by
 refine (kO (zs:=aL.zero.cs) dE rfl rfl rfl (pf rfl) fun p hp=>?_).trans rfl;simp only[List.mem_cons,List.not_mem_nil,or_false]at hp;rcases hp with rfl|rfl|rfl<;>rfl
theorem Cl {x a b:Int}:bj T ax [(0,.int .i64 2),(3,.int .i64 x),(4,bE a b)]=some (({ RcM.zero with kind:=2,index:=x,cntA:=a,cntB:=b }:RcM).av .nilSlice):=by
 refine wC (fun p hp=>?_) rfl;simp only[List.mem_cons,List.not_mem_nil,or_false]at hp;rcases hp with rfl|rfl|rfl<;>rfl
end
end Go.Esc.M
namespace Go.Esc.M
open Go Go.Esc
theorem mZ {s:List UInt8}(h:s.length=32) (n:Int):(jS s n).1.length=32:=by
 unfold jS;cases okN n
 ·rfl
 ·exact mB 48 h
theorem xe {ow ix o q:Int}{pt:List UInt8}{l:List ba}(hp:pt.length=32) (hl:∀ p∈l,p.ok):(oI ow ix pt o q l).1.length≤1000000:=by
 unfold oI;split
 ·simp
 ·cases hs:lG o q l with
  | false=>simp
  | true=>
   have h1:=qQ hs;have h2:∀ m:List ba,(∀ p∈m,p.ok)->(m.flatMap ba.bytes).length=49*m.length:=by
    intro m hm;induction m with
    | nil=>rfl
    | cons p m ih=>rw[List.flatMap_cons,List.length_append,ba.sf (hm p (by simp)),ih (fun p hp=>hm p (by simp[hp])),List.length_cons];omega
   simp only[cond_true,vK,List.length_append,iH,hp,h2 l hl];omega
def kx (f:StF) (ca cb:Int):FoldM:=mN f.s.bo f.s.bp f.o f.p ca cb
theorem qh {G:ak}{f:StF}{vo vp vh:ah}(h:ka G f vo vp vh) (ca cb:Int):∀ p∈(kx f ca cb).l,p.ok:=JB h.oko h.okp
theorem uj (f:StF) (ca cb:Int):(kx f ca cb).l.length≤f.o.length+f.p.length:=HW _ _ _ _ _ _
def yV (c:CfM) (f:StF) (n ca cb:Int):List UInt8×Bool:=
 if (jS c.seed n).2≠0 then ([],false) else if (kx f ca cb).e≠0 then ([],false)
 else ((oI f.s.side n (sha (jS c.seed n).1) (kx f ca cb).o (kx f ca cb).q (kx f ca cb).l).1,decide ((oI f.s.side n (sha (jS c.seed n).1) (kx f ca cb).o (kx f ca cb).q (kx f ca cb).l).2=0))
theorem Eb {c:CfM}{f:StF}{n ca cb:Int}(hf:∀ p∈(kx f ca cb).l,p.ok):(yV c f n ca cb).1.length≤1000000:=by
 unfold yV;split
 ·simp
 ·split
  ·simp
  ·exact xe (je _) hf
structure Lf where
 r:RcM
 l:List aL
 e:Int
def noC (e:Int):Lf:=⟨RcM.zero,[],e⟩
def mU (c:CfM) (f:StF) (m:cr):Lf:=
 if uO f.s=true then noC 220 else if m.kind≠4 then noC 160 else if 281474976710653<f.s.loc\/m.index≠f.s.loc+1 then noC 90
 else if f.s.heldA=f.s.atA/\(f.p.length:Int)=f.s.atB then noC 8
 else if (yV c f m.index f.s.heldA (f.p.length:Nat)).2=false\/mac c.pkey (yV c f m.index f.s.heldA (f.p.length:Nat)).1≠m.hash then noC 110
 else ⟨{ RcM.zero with kind:=3,index:=m.index,sig:=m.hash },f.p.drop (cw f.p f.s.atB).length,0⟩
def qC (c:CfM) (n:Int):cr:=
 if n<0\/281474976710653<n then cr.zero else { cr.zero with kind:=5,index:=n,secret:=(jS c.seed n).1,hash:=sha (jS c.seed (n+2)).1 }
def jR (f:StF) (m:cr):RcM×Int:=
 if uO f.s=true then noR 220 else if m.kind≠5 then noR 160 else if f.s.rem=f.s.ack\/IntKind.i64.wrap (f.s.rem-1)≠f.s.ack\/m.index≠f.s.ack then noR 90
 else if sha m.secret≠f.s.ptsA then noR 100 else if (tw f.h f.s.ack m.secret).2≠0 then noR 100
 else ({ RcM.zero with kind:=4,index:=f.s.ack,secret:=m.secret,point:=m.hash },0)
def tI (c:CfM) (f:StF):cr:=
 { cr.zero with kind:=4,index:=f.s.rem,hash:=mac c.key (oI (IntKind.i64.wrap (1-f.s.side)) f.s.rem (if f.s.rem≠f.s.ack then f.s.ptsB else f.s.ptsA) (kx f f.s.sgnA f.s.sgnB).q (kx f f.s.sgnA f.s.sgnB).o (pE (kx f f.s.sgnA f.s.sgnB).l)).1 }
def StM.zero:StM:=⟨0,0,0,0,0,0,0,0,0,0,0,0,0,false,h0,h0,h0,0,0⟩
theorem StM.bq:StM.zero.ok:=⟨cL,cL,cL,cL,cL,cL,cL,cL,cL,cL,cL,cL,cL,rfl,rfl,rfl,cL,cL⟩
theorem lv0:bw .nilSlice/\bw .nilSlice/\bw .nilSlice:=⟨bw.nil,bw.nil,bw.nil⟩
theorem EV:hO=StM.zero.av .nilSlice .nilSlice .nilSlice:=rfl
def nF (c:CfM):Prop:=c.side<0\/1<c.side\/c.cap<1\/right c.cap=false\/c.ours<0\/c.cap<c.ours
instance (c:CfM):Decidable (nF c):=by unfold nF;infer_instance
def mm (c:CfM):StM×Int:=if nF c then (StM.zero,1) else ({ StM.zero with side:=c.side,cap:=c.cap,bo:=c.ours,bp:=c.cap-c.ours,ptsA:=c.ptsA,ptsB:=c.ptsB,closed:=-1 },0)
section
variable {F0:List AId}{G0 G:ak}{ps:List LP}{Q:ah->ak->Prop}
theorem AV {x:Int}{h:List UInt8}{w:ah}(hl:h.length=32) (hw:bw w):bj T ax [(0,.int .i64 3),(3,.int .i64 x),(2,w),(5,.agg (h.map u8v))]=some (({ RcM.zero with kind:=3,index:=x,sig:=h }:RcM).av w):=by
 refine wC (fun p hp=>?_) rfl;simp only[List.mem_cons,List.not_mem_nil,or_false]at hp;rcases hp with rfl|rfl|rfl|rfl
 ·rfl
 ·rfl
 ·show some 1=some (Esc.sz w);rw[hw.1]
 ·show some (Esc.sz (.agg (h0.map u8v)))=some (Esc.sz (.agg (h.map u8v)));rw[Esc.sz,Esc.sz,szh hl,szh oe]
theorem uo {parts:List (Nat×ah)}{r:cr}(hs:∀ p∈parts,cr.zero.cs[p.1]?.map Esc.sz=some (Esc.sz p.2)) (he:p7 cr.zero.cs parts=r.cs):bj T aW parts=some r.av:=by
 refine (kO (zs:=cr.zero.cs) eQ rfl rfl rfl (pf rfl) hs).trans ?_;rw[he];rfl
theorem oJ {h:List UInt8}(hl:h.length=32):some (Esc.sz (.agg (h0.map u8v)))=some (Esc.sz (.agg (h.map u8v))):=by rw[Esc.sz,Esc.sz,szh hl,szh oe]
theorem yC {x:Int}{h:List UInt8}(hl:h.length=32):bj T aW [(0,.int .i64 4),(3,.int .i64 x),(5,.agg (h.map u8v))]=some (cr.av { cr.zero with kind:=4,index:=x,hash:=h }):=by
 refine uo (fun p hp=>?_) rfl;simp only[List.mem_cons,List.not_mem_nil,or_false]at hp;rcases hp with rfl|rfl|rfl
 ·rfl
 ·rfl
 ·exact oJ hl
theorem iU.use {c:CfM}{n:Int}(hc:c.ok) (hQ:∀ G',Ch [] G [] G'->Q (qC c n).av G'):al P iU.n [c.av,.int .i64 n] G Q:=by
 refine iU.sound ?_;unfold iU.S;rw[EW];unfold qC at hQ;intro i1 f1;have s1:=(Sp.nil G).row f1 c.av;intro i3 f3;have s3:=s1.row f3 cr.zero.av;revert s3;generalize ak.upd _ i3 _=G4;intro s3 J36;have bad:(n<0\/281474976710653<n)->J36 (.bool true) G4:=by
  intro hb;rw[if_pos hb]at hQ;simp -zeta only [J36,aN];refine ae (v:=cr.zero.av) rfl ?_;refine nK (i:=0) s3 rfl cr.bq cr.bq fun G10 s10=>?_;refine ae (cj eQ (au.own (i:=0) s10 rfl) (cr.fits cr.bq)) ?_;exact hQ _ s10.ch
 have lK:¬ (n<0\/281474976710653<n)->J36 (.bool false) G4:=by
  intro hb;rw[if_neg hb]at hQ;simp -zeta only [J36,aK];have hx:=mZ hc.seed n;have hy:=mZ hc.seed (n+2);refine ae (Cf.ue (au.own (i:=1) s3 rfl) hc) ?_;refine im.use hc.seed fun G14 c14=>?_;have s14:=s3.tmp c14;refine ae (hi0 _) ?_;refine ae (hi1 _) ?_;refine pg s14 hx fun i17 G19 s19=>?_;refine ae (Cf.ue (au.own (i:=2) s19 rfl) hc) ?_;rw[bg,i64_in (by omega) (by omega),aa];refine im.use hc.seed fun G23 c23=>?_;have s23:=s19.tmp c23;refine ae (hi0 _) ?_;refine ae (hi1 _) ?_;refine pg s23 hy fun i26 G28 s28=>?_;refine ae (bM hx (au.own (i:=1) s28 rfl)) ?_;refine ae (bM hy (au.own (i:=0) s28 rfl)) ?_;refine iz.use hy fun G32 c32=>?_;have s32:=s28.tmp c32;refine⟨⟨bM hx (au.own (i:=1) s32 rfl),trivial⟩,?_⟩;have hz:(sha (jS c.seed (n+2)).1).length=32:=je _;have hok:({ cr.zero with kind:=5,index:=n,secret:=(jS c.seed n).1,hash:=sha (jS c.seed (n+2)).1 }:cr).ok:=⟨iu 5 (by decide) (by decide),cL,cL,iu n (by omega) (by omega),cL,hz,hx,by simp[cr.zero]⟩;refine ae (uo (r:={ cr.zero with kind:=5,index:=n,secret:=(jS c.seed n).1,hash:=sha (jS c.seed (n+2)).1 }) (fun p hp=>?_) rfl) ?_
  ·simp only[List.mem_cons,List.not_mem_nil,or_false]at hp;rcases hp with rfl|rfl|rfl|rfl
   ·rfl
   ·rfl
   ·exact oJ hx
   ·exact oJ hz
  refine nK (i:=2) s32 rfl cr.bq hok fun G34 s34=>?_;refine ae (cj eQ (au.own (i:=2) s34 rfl) (cr.fits hok)) ?_;exact hQ _ s34.ch
 rw[aM,aa,aI];refine⟨fun h1=>bad (.inl h1),fun h1=>?_⟩;rw[da,aa];by_cases h2:281474976710653<n
 ·rw[dT_ h2];exact bad (.inr h2)
 ·rw[dF_ h2];exact lK (by omega)
theorem jC.use {f:StF}{c:CfM}{vo vp vh:ah}(hS:ka G f vo vp vh) (hc:c.ok) (hQ:∀ G',Ch [] G [] G'->Q (tI c f).av G'):al P jC.n [c.av,f.s.av vo vp vh] G Q:=by
 have ho:=hS.ok;have hl:=hS.lv;have hlo:=hS.lo;have hlp:=hS.lp;refine jC.sound ?_;unfold jC.S;rw[EW];unfold tI at hQ;intro i1 f1;have s1:=(Sp.nil G).row f1 c.av;intro i3 f3;have s3:=s1.row f3 (f.s.av vo vp vh);intro i5 f5;have s5:=s3.row f5 cr.zero.av;revert s5;generalize ak.upd _ i5 _=G6;intro s5;have hg:=au.own (i:=1) s5 rfl;refine ae (v:=.ptr i3 [13,0] 16) rfl ?_;refine ae (St.sg hg ho hl) ?_;refine pg s5 ho.ptsA fun i9 G11 s11=>?_;have hg:=au.own (i:=2) s11 rfl;refine ae (St.mn hg ho hl) ?_;refine ae (St.mS hg ho hl) ?_;rw[cD,aa];obtain⟨pt,hpt⟩:∃ pt,pt=if f.s.rem≠f.s.ack then f.s.ptsB else f.s.ptsA:=⟨_,rfl⟩;rw[<- hpt]at hQ;have hp32:pt.length=32:=by
  rw[hpt];split
  ·exact ho.ptsB
  ·exact ho.ptsA
 intro J49;have go:∀ G2,Sp [] G [au i9 (.agg (pt.map u8v)),au i5 cr.zero.av,au i3 (f.s.av vo vp vh),au i1 c.av] G2->J49 G2:=by
  intro G18 s18;simp -zeta only [J49];have hg:=au.own (i:=2) s18 rfl;refine ae (St.uM hg ho hl) ?_;refine ae (St.tC hg ho hl) ?_;refine ae (St.dM hg ho hl) ?_;refine ae (St.eH hg ho hl) ?_;refine ae (St.vr hg ho hl) ?_;refine iM.use (hS.o.mv s18.ch) (hS.p.mv s18.ch) hS.oko hS.okp hS.lo hS.lp fun x G25 t25=>?_;have hFok:=qh hS f.s.sgnA f.s.sgnB;have hFlen:=uj f f.s.sgnA f.s.sgnB;unfold kx at hQ hFok hFlen;obtain⟨F,hF⟩:∃ F,F=mN f.s.bo f.s.bp f.o f.p f.s.sgnA f.s.sgnB:=⟨_,rfl⟩;rw[<- hF]at hQ hFok hFlen t25 ⊢;obtain⟨F25,o25,c25⟩:=t25.out;have s25:=s18.new o25 c25;have lx:=(bm.own (i:=0) s25 rfl).leaf;refine ae (tv0 _ _) ?_;refine ae (tv1 _ _) ?_;obtain⟨w1,w2,w3⟩:=rr (o:=F.o) (q:=F.q) lx;refine jL s25 ng w1 (by rw[w2];rfl) w3 fun i28 G30 s30=>?_;have hg:=au.own (i:=4) s30 rfl;refine ae (St.lJ hg ho hl) ?_;rw[b7,aa];refine ae (St.mn hg ho hl) ?_;refine ae (bM hp32 (au.own (i:=2) s30 rfl)) ?_;refine ae (iI (i:=0) s30 rfl lx).2.2.2 ?_;refine jD.use (bm.own (i:=1) s30 rfl).is hFok (by omega) fun y G37 t37=>?_;obtain⟨F37,o37,c37⟩:=t37.out;have s37:=s30.new o37 c37;have hg:=au.own (i:=5) s37 rfl;refine⟨⟨bM hp32 (au.own (i:=3) s37 rfl),St.mn hg ho hl,St.lJ hg ho hl,trivial⟩,?_⟩;have hTok:=zF hFok;refine iN.use hp32 (bm.own (i:=0) s37 rfl).is hTok (by rw[pI];omega) fun G39 c39=>?_;have s39:=s37.tmp c39;have htl:=xe (ow:=IntKind.i64.wrap (1-f.s.side)) (ix:=f.s.rem) (o:=F.q) (q:=F.o) hp32 hTok;obtain⟨W,hW⟩:∃ W,W=oI (IntKind.i64.wrap (1-f.s.side)) f.s.rem pt F.q F.o (pE F.l):=⟨_,rfl⟩;rw[<- hW]at hQ htl ⊢;refine ae (tv0 _ _) ?_;refine ae (tv1 _ _) ?_;have hg:=au.own (i:=5) s39 rfl;refine ae (St.mn hg ho hl) ?_;refine ae (Cf.Jq (au.own (i:=6) s39 rfl) hc) ?_;refine j3.use hc.key (by omega) fun G45 c45=>?_;have s45:=s39.tmp c45;refine⟨⟨St.mn (au.own (i:=5) s45 rfl) ho hl,trivial⟩,?_⟩;have hz:(mac c.key W.1).length=32:=gU _;revert hQ hz;generalize mac c.key W.1=Z;intro hQ hz;have hok:({ cr.zero with kind:=4,index:=f.s.rem,hash:=Z }:cr).ok:=⟨iu 4 (by decide) (by decide),cL,cL,ho.rem,cL,hz,rfl,by simp[cr.zero]⟩;refine ae (yC hz) ?_;refine nK (i:=4) s45 rfl cr.bq hok fun G47 s47=>?_;refine ae (cj eQ (au.own (i:=4) s47 rfl) (cr.fits hok)) ?_;exact hQ _ s47.ch
 by_cases h1:f.s.rem=f.s.ack
 ·rw[if_neg (fun hh=>hh h1)]at hpt;rw[dT_ h1,Bool.not_true,aK];rw[<- hpt]at s11;exact go _ s11
 ·rw[if_pos h1]at hpt;rw[dF_ h1,Bool.not_false,aN];refine ae (v:=.ptr i3 [13,1] 48) rfl ?_;refine ae (St.zb hg ho hl) ?_;refine sq (i:=0) s11 rfl ho.ptsA ho.ptsB fun G17 s17=>?_;rw[<- hpt]at s17;exact go _ s17
theorem Cm {x:Int}{a b:List UInt8}(ha:a.length=32) (hb:b.length=32):bj T ax [(0,.int .i64 4),(3,.int .i64 x),(6,.agg (a.map u8v)),(7,.agg (b.map u8v))]=some (({ RcM.zero with kind:=4,index:=x,secret:=a,point:=b }:RcM).av .nilSlice):=by
 refine wC (fun p hp=>?_) rfl;simp only[List.mem_cons,List.not_mem_nil,or_false]at hp;rcases hp with rfl|rfl|rfl|rfl
 ·rfl
 ·rfl
 ·exact oJ ha
 ·exact oJ hb
end
end Go.Esc.M
namespace Go.Esc.M
open Go Go.Esc
def stZ:List ah:=StM.zero.cs .nilSlice .nilSlice .nilSlice
theorem JO {parts:List (Nat×ah)}{r:StM}{a b c:ah}(hs:∀ p∈parts,stZ[p.1]?.map Esc.sz=some (Esc.sz p.2)) (he:p7 stZ parts=r.cs a b c):bj T aE parts=some (r.av a b c):=by
 refine (kO (zs:=stZ) na rfl rfl rfl (pf rfl) hs).trans ?_;rw[he];rfl
theorem DU {a b c d:List UInt8}(ha:a.length=32) (hb:b.length=32) (hc:c.length=32) (hd:d.length=32):some (Esc.sz (mT a b))=some (Esc.sz (mT c d)):=by
 simp[mT,Esc.sz,szs,szh ha,szh hb,szh hc,szh hd]
theorem yB {a b c d:Int}{x y:List UInt8}(hx:x.length=32) (hy:y.length=32):bj T aE [(0,.int .i64 a),(1,.int .i64 b),(2,.int .i64 c),(3,.int .i64 d),(13,mT x y),(17,.int .i64 (-1))]=some (({ StM.zero with side:=a,cap:=b,bo:=c,bp:=d,ptsA:=x,ptsB:=y,closed:=-1 }:StM).av .nilSlice .nilSlice .nilSlice):=by
 refine JO (fun p hp=>?_) rfl;simp only[List.mem_cons,List.not_mem_nil,or_false]at hp;rcases hp with rfl|rfl|rfl|rfl|rfl|rfl
 ·rfl
 ·rfl
 ·rfl
 ·rfl
 ·exact DU oe oe hx hy
 ·rfl
theorem pN {c:CfM}(h:c.ok):(mm c).1.ok:=by
 unfold mm;by_cases hb:nF c
 ·rw[if_pos hb];exact StM.bq
 ·rw[if_neg hb];have h1:¬ right c.cap=false:=fun hh=>hb (.inr (.inr (.inr (.inl hh))));have h2:right c.cap=true:=by simpa using h1
  have h3:=lZ.1 h2;have h4:¬ c.ours<0:=fun hh=>hb (.inr (.inr (.inr (.inr (.inl hh)))));have h5:¬ c.cap<c.ours:=fun hh=>hb (.inr (.inr (.inr (.inr (.inr hh)))));exact⟨h.side,h.cap,h.ours,iu (c.cap-c.ours) (by omega) (by omega),cL,cL,cL,cL,cL,cL,cL,cL,cL,h.ptsA,h.ptsB,rfl,cL,iu (-1) (by decide) (by decide)⟩
section
variable {F0:List AId}{G0 G:ak}{ps:List LP}{Q:ah->ak->Prop}
theorem bP.use {f:StF}{vo vp vh:ah}(hS:ka G f vo vp vh) (hQ:∀ wo wp wh G',Sp [] G [bm 34 wh (f.h.map b6.av),bm 36 wp (f.p.map aL.av),bm 36 wo (f.o.map aL.av)] G'->Q (f.s.av wo wp wh) G'):al P bP.n [f.s.av vo vp vh] G Q:=by
 have ho:=hS.ok;have hl:=hS.lv;have hlo:=hS.lo;have hlp:=hS.lp;have hlh:=hS.lh;refine bP.sound ?_;unfold bP.S;rw[EV];intro i1 f1;have s1:=(Sp.nil G).row f1 (f.s.av vo vp vh);intro i3 f3;have s3:=s1.row f3 (StM.zero.av .nilSlice .nilSlice .nilSlice);revert s3;generalize ak.upd _ i3 _=G4;intro s3;refine ae (St.dM (au.own (i:=1) s3 rfl) ho hl) ?_;have grow:∀ {ps:List LP}{G1:ak}{x:ah}{l:List aL}{K:ah->ak->Prop},Sp [] G ps G1->ff 36 G x (l.map aL.av)->(∀ u∈l,u.ok)->l.length≤1048576->(∀ w G2,Sp [] G (bm 36 w (l.map aL.av)::ps) G2->K w G2)->cn T G1 aj aj .nilSlice x K:=by
  intro ps G1 x l K s hx hok hlen hK;refine uN (T:=T) (ts:=aj) (e:=aG) (si:=dL) (ie:=cG) (tx:=aj) (xi:=dL) (i:=0) (vs:=[]) (xs:=l.map aL.av) bT rfl dE rfl (by decide) bT (.inr ⟨_,rfl⟩) (s.nz 36) rfl (hx.ch' s.ch).elems (nW hok).1 (nW hok).2 (by rw[show cG.bytes=72 from rfl,List.length_map];simp;omega) fun w G5 s5=>?_;exact hK w G5 s5
 refine grow s3 hS.o.gZ hS.oko hS.lo fun wo G7 s7=>?_;have lo:bw wo:=(bm.own (i:=0) s7 rfl).leaf;refine St.tT (i:=2) s7 rfl ho hl lo fun G8 s8=>?_;refine ae (St.eH (au.own (i:=2) s8 rfl) ho ⟨lo,hl.2.1,hl.2.2⟩) ?_;refine grow s8 hS.p.gZ hS.okp hS.lp fun wp G11 s11=>?_;have lp:bw wp:=(bm.own (i:=0) s11 rfl).leaf;refine St.tg (i:=3) s11 rfl ho ⟨lo,hl.2.1,hl.2.2⟩ lp fun G12 s12=>?_;refine ae (St.l6 (au.own (i:=3) s12 rfl) ho ⟨lo,lp,hl.2.2⟩) ?_;refine uN (T:=T) (ts:=aV) (e:=cz) (si:=jr) (ie:=kv) (tx:=aV) (xi:=jr) (i:=0) (vs:=[]) (xs:=f.h.map b6.av) gz rfl jN rfl (by decide) gz (.inr ⟨_,rfl⟩) (s12.nz 34) rfl (hS.h.gZ.ch' s12.ch).elems (wV hS.okh) (sa f.h) (by rw[show kv.bytes=48 from rfl,List.length_map];simp;omega) fun wh G15 s15=>?_;have lh:bw wh:=(bm.own (i:=0) s15 rfl).leaf;refine St.vO (i:=4) s15 rfl ho ⟨lo,lp,hl.2.2⟩ lh fun G16 s16=>?_;refine ae (St.ld (au.own (i:=4) s16 rfl) ho ⟨lo,lp,lh⟩) ?_;refine St.st (i:=3) s16 rfl StM.bq lv0 ho ⟨lo,lp,lh⟩ fun G18 s18=>?_;refine ae (St.ld (au.own (i:=3) s18 rfl) ho ⟨lo,lp,lh⟩) ?_;exact hQ wo wp wh G18 ((s18.erase 3).erase 3)
theorem ka.copy {f:StF}{vo vp vh wo wp wh:ah}{G1:ak}{i j k:Nat}(hS:ka G f vo vp vh) (s:Sp F0 G0 ps G1) (ho:ps[i]?=some (bm 36 wo (f.o.map aL.av))) (hp:ps[j]?=some (bm 36 wp (f.p.map aL.av))) (hh:ps[k]?=some (bm 34 wh (f.h.map b6.av))):ka G1 f wo wp wh:=
 ⟨hS.ok,Own.nj (bm.own s ho),Own.nj (bm.own s hp),Own.nj (bm.own s hh),hS.oko,hS.okp,hS.okh,hS.lo,hS.lp,hS.lh⟩
def pB (s:List UInt8) (n:Int):List UInt8:=sha (jS s n).1
theorem mK (s:List UInt8) (n:Int):(pB s n).length=32:=je _
theorem dB.use {s:List UInt8}{n:Int}(hs:s.length=32) (hQ:∀ G',Ch [] G [] G'->Q (.agg ((pB s n).map u8v)) G'):al P dB.n [.agg (s.map u8v),.int .i64 n] G Q:=by
 refine dB.sound ?_;unfold dB.S;rw[mF];intro i1 f1;have s1:=(Sp.nil G).row f1 (.agg (s.map u8v));intro i3 f3;have s3:=s1.row f3 (.agg ((List.replicate 32 (0:UInt8)).map u8v));rw[<- mF];refine ae (bM hs (au.own (i:=1) s3 rfl)) ?_;refine cI.use hs fun G7 c7=>?_;have s7:=s3.tmp c7;have hx:=mZ hs n;refine ae (hi0 _) ?_;refine ae (hi1 _) ?_;refine pg s7 hx fun i10 G12 s12=>?_;refine ae (bM hx (au.own (i:=0) s12 rfl)) ?_;refine cA.use hx fun G15 c15=>?_;have s15:=s12.tmp c15;have hz:(sha (jS s n).1).length=32:=je _;refine sq (i:=1) s15 rfl (by simp) hz fun G16 s16=>?_;refine ae (bM hz (au.own (i:=1) s16 rfl)) ?_;exact hQ _ s16.ch
def nU (a b:CfM):ah:=.agg [a.av,b.av]
def CfM.zero:CfM:=⟨0,0,0,h0,h0,h0,h0,h0,0⟩
theorem CfM.bq:CfM.zero.ok:=⟨cL,cL,cL,rfl,rfl,rfl,rfl,rfl,cL⟩
def cfZ:List ah:=CfM.zero.cs
theorem He {a b:CfM}(ha:a.ok) (hb:b.ok):[a.av,b.av].map Esc.sz=[164,164]:=by simp[CfM.sz ha,CfM.sz hb]
theorem AM {a b:CfM}(ha:a.ok) (hb:b.ok):dD jO (nU a b)=true:=by
 simp[dD,nU,Esc.sz,szs,CfM.sz ha,CfM.sz hb,jO,ah.isAgg,kZ.isAgg]
theorem JM {a b:CfM}(ha:a.ok) (hb:b.ok):Esc.sz (nU a b)=328:=by simp[nU,Esc.sz,szs,CfM.sz ha,CfM.sz hb]
theorem KQ (a b:CfM):Esc.okv (nU a b)=true:=by simp[nU,Esc.okv,mz,CfM.okv]
theorem My:mP=nU CfM.zero CfM.zero:=rfl
theorem EE {a b c:Int}{x y z p q:List UInt8}(hx:x.length=32) (hy:y.length=32) (hz:z.length=32) (hp:p.length=32) (hq:q.length=32) :
  bj T bU [(0,.int .i64 a),(1,.int .i64 b),(2,.int .i64 c),(3,.agg (x.map u8v)),(4,.agg (y.map u8v)),(5,.agg (z.map u8v)),(6,mT p q),(7,.int .i64 4096)]=some (CfM.av ⟨a,b,c,x,y,z,p,q,4096⟩):=by
 refine (kO (zs:=cfZ) kp rfl rfl rfl (pf rfl) fun r hr=>?_).trans rfl;simp only[List.mem_cons,List.not_mem_nil,or_false]at hr;rcases hr with rfl|rfl|rfl|rfl|rfl|rfl|rfl|rfl
 ·rfl
 ·rfl
 ·rfl
 ·exact oJ hx
 ·exact oJ hy
 ·exact oJ hz
 ·exact DU oe oe hp hq
 ·rfl
theorem AR {p q:List UInt8}(hp:p.length=32) (hq:q.length=32):bj T cc [(0,.agg (p.map u8v)),(1,.agg (q.map u8v))]=some (mT p q):=by
 refine (EF (zs:=[.agg (h0.map u8v),.agg (h0.map u8v)]) mf rfl bZ rfl ?_ fun r hr=>?_).trans rfl
 ·simp[Esc.uni,Esc.sz,szh oe,dQ]
 ·simp only[List.mem_cons,List.not_mem_nil,or_false]at hr;rcases hr with rfl|rfl
  ·exact oJ hp
  ·exact oJ hq
def FW (d:DlM):CfM:=⟨0,d.cap,d.ours,d.seedsA,d.keysA,d.keysB,pB d.seedsB 0,pB d.seedsB 1,4096⟩
def FV (d:DlM):CfM:=⟨1,d.cap,IntKind.i64.wrap (d.cap-d.ours),d.seedsB,d.keysB,d.keysA,pB d.seedsA 0,pB d.seedsA 1,4096⟩
theorem Dd {d:DlM}(h:d.ok):(FW d).ok:=⟨cL,h.cap,h.ours,h.seedsA,h.keysA,h.keysB,mK _ _,mK _ _,iu 4096 (by decide) (by decide)⟩
theorem Dc {d:DlM}(h:d.ok):(FV d).ok:=⟨iu 1 (by decide) (by decide),h.cap,LM _,h.seedsB,h.keysB,h.keysA,mK _ _,mK _ _,iu 4096 (by decide) (by decide)⟩
theorem cQ.use {d:DlM}(hd:d.ok) (hQ:∀ G',Ch [] G [] G'->Q (nU (FW d) (FV d)) G'):al P cQ.n [d.av] G Q:=by
 refine cQ.sound ?_;unfold cQ.S;rw[My];intro i1 f1;have s1:=(Sp.nil G).row f1 d.av;intro i3 f3;have s3:=s1.row f3 (nU CfM.zero CfM.zero);intro i5 f5;have s5:=s3.row f5 (nU CfM.zero CfM.zero);revert s5;generalize ak.upd _ i5 _=G6;intro s5;have o0:=Dd hd;have o1:=Dc hd;obtain⟨C0,hC0⟩:∃ C,C=FW d:=⟨_,rfl⟩;obtain⟨C1,hC1⟩:∃ C,C=FV d:=⟨_,rfl⟩;obtain⟨b0,hb0⟩:∃ z,z=pB d.seedsB 0:=⟨_,rfl⟩;obtain⟨b1,hb1⟩:∃ z,z=pB d.seedsB 1:=⟨_,rfl⟩;obtain⟨a0,ha0⟩:∃ z,z=pB d.seedsA 0:=⟨_,rfl⟩;obtain⟨a1,ha1⟩:∃ z,z=pB d.seedsA 1:=⟨_,rfl⟩;have lb0:b0.length=32:=by rw[hb0];exact mK _ _
 have lb1:b1.length=32:=by rw[hb1];exact mK _ _
 have la0:a0.length=32:=by rw[ha0];exact mK _ _
 have la1:a1.length=32:=by rw[ha1];exact mK _ _
 have e0:C0=⟨0,d.cap,d.ours,d.seedsA,d.keysA,d.keysB,b0,b1,4096⟩:=by rw[hC0,hb0,hb1];rfl
 have e1:C1=⟨1,d.cap,IntKind.i64.wrap (d.cap-d.ours),d.seedsB,d.keysB,d.keysA,a0,a1,4096⟩:=by rw[hC1,ha0,ha1];rfl
 rw[<- hC0,<- hC1]at hQ;rw[<- hC0]at o0;rw[<- hC1]at o1;have zo:=CfM.bq;intro R7 hR7;refine hR7 _ _ _ _ _ ?_;rw[aM,aa,dT_ (by decide),aN];have hg:=au.own (i:=2) s5 rfl;refine ae (v:=.ptr i1 [1] 1) rfl ?_;refine ae (Dl.dM hg hd) ?_;rw[bB,aa,dF_ (by decide)];intro J52;rw[aK];simp -zeta only [J52];refine ae (v:=.ptr i1 [0] 0) rfl ?_;refine ae (Dl.mL hg hd) ?_;refine ae (v:=.ptr i1 [2] 2) rfl ?_;refine ae (v:=.ptr i1 [2,0] 2) rfl ?_;refine ae (Dl.pS hg hd) ?_;refine ae (v:=.ptr i1 [3] 66) rfl ?_;refine ae (v:=.ptr i1 [3,0] 66) rfl ?_;refine ae (Dl.ry hg hd) ?_;rw[b7,i64_in (by decide) (by decide),aa];refine ae (v:=.ptr i1 [3] 66) rfl ?_;refine ae (v:=.ptr i1 [3,1] 98) rfl ?_;refine ae (Dl.ru hg hd) ?_;rw[aa];refine ae (v:=.ptr i1 [2] 2) rfl ?_;refine ae (v:=.ptr i1 [2,1] 34) rfl ?_;refine ae (Dl.pR hg hd) ?_;rw[aa];refine ae (v:=.ptr i1 [2] 2) rfl ?_;refine ae (v:=.ptr i1 [2,1] 34) rfl ?_;refine ae (Dl.pR hg hd) ?_;refine dB.use hd.seedsB fun G45 c45=>?_;rw[<- hb0];have s45:=s5.tmp c45;have hg:=au.own (i:=2) s45 rfl;refine⟨⟨Dl.pR hg hd,Dl.ru hg hd,Dl.ry hg hd,Dl.pS hg hd,Dl.mL hg hd,trivial⟩,?_⟩;refine dB.use hd.seedsB fun G47 c47=>?_;rw[<- hb1];have s47:=s45.tmp c47;have hg:=au.own (i:=2) s47 rfl;refine⟨⟨Dl.ru hg hd,Dl.ry hg hd,Dl.pS hg hd,Dl.mL hg hd,trivial⟩,?_⟩;refine ae (AR lb0 lb1) ?_;refine ae (EE hd.seedsA hd.keysA hd.keysB lb0 lb1) ?_;rw[<- e0];refine ae (v:=.ptr i5 [0] 0) rfl ?_;refine fg (st1 (c:=C0.av) (au.own (i:=0) s47 rfl) (He zo zo) rfl rfl kp (CfM.fits o0) (by rw[CfM.sz o0,CfM.sz zo]) (CfM.okv)) ?_;have s51:=Sp.setRow (j:=0) s47 rfl (nU C0 CfM.zero);revert s51;show Sp [] G _ (ak.upd G47 i5 (.own (.agg ([CfM.zero.av,CfM.zero.av].set 0 C0.av))))->_;generalize ak.upd G47 i5 _=G51;intro s51;refine ae (v:=.int .i64 1) rfl ?_;refine hR7 _ _ _ _ _ ?_;rw[aM,aa,dT_ (by decide),aN];have hg:=au.own (i:=2) s51 rfl;refine ae (v:=.ptr i1 [1] 1) rfl ?_;refine ae (Dl.dM hg hd) ?_;rw[bB,aa,dT_ (by decide)];intro J52;rw[aN];refine ae (v:=.ptr i1 [0] 0) rfl ?_;refine ae (Dl.mL hg hd) ?_;refine ae (v:=.ptr i1 [1] 1) rfl ?_;refine ae (Dl.dM hg hd) ?_;rw[b7,aa];simp -zeta only [J52];refine ae (v:=.ptr i1 [0] 0) rfl ?_;refine ae (Dl.mL hg hd) ?_;refine ae (v:=.ptr i1 [2] 2) rfl ?_;refine ae (v:=.ptr i1 [2,1] 34) rfl ?_;refine ae (Dl.pR hg hd) ?_;refine ae (v:=.ptr i1 [3] 66) rfl ?_;refine ae (v:=.ptr i1 [3,1] 98) rfl ?_;refine ae (Dl.ru hg hd) ?_;rw[b7,i64_in (n:=1-1) (by decide) (by decide),aa];refine ae (v:=.ptr i1 [3] 66) rfl ?_;refine ae (v:=.ptr i1 [3,0] 66) rfl ?_;refine ae (Dl.ry hg hd) ?_;rw[aa];refine ae (v:=.ptr i1 [2] 2) rfl ?_;refine ae (v:=.ptr i1 [2,0] 2) rfl ?_;refine ae (Dl.pS hg hd) ?_;rw[aa];refine ae (v:=.ptr i1 [2] 2) rfl ?_;refine ae (v:=.ptr i1 [2,0] 2) rfl ?_;refine ae (Dl.pS hg hd) ?_;refine dB.use hd.seedsA fun G45 c45=>?_;rw[<- ha0];have s45:=s51.tmp c45;have hg:=au.own (i:=2) s45 rfl;refine⟨⟨Dl.pS hg hd,Dl.ry hg hd,Dl.ru hg hd,Dl.pR hg hd,Dl.mL hg hd,trivial⟩,?_⟩;refine dB.use hd.seedsA fun G47 c47=>?_;rw[<- ha1];have s47:=s45.tmp c47;have hg:=au.own (i:=2) s47 rfl;refine⟨⟨Dl.ry hg hd,Dl.ru hg hd,Dl.pR hg hd,Dl.mL hg hd,trivial⟩,?_⟩;refine ae (AR la0 la1) ?_;refine ae (EE hd.seedsB hd.keysB hd.keysA la0 la1) ?_;rw[<- e1];refine ae (v:=.ptr i5 [1] 164) rfl ?_;refine fg (st1 (c:=C1.av) (au.own (i:=0) s47 rfl) (He o0 zo) rfl rfl kp (CfM.fits o1) (by rw[CfM.sz o1,CfM.sz zo]) (CfM.okv)) ?_;have s51:=Sp.setRow (j:=0) s47 rfl (nU C0 C1);revert s51;show Sp [] G _ (ak.upd G47 i5 (.own (.agg ([C0.av,CfM.zero.av].set 1 C1.av))))->_;generalize ak.upd G47 i5 _=G51;intro s51;refine ae (v:=.int .i64 2) rfl ?_;refine hR7 _ _ _ _ _ ?_;rw[aM,aa,dF_ (by decide),aK];refine ae (cj mW (au.own (i:=0) s51 rfl) (AM o0 o1)) ?_;refine fg (ig (c:=nU C0 C1) mW (au.own (i:=1) s51 rfl) (AM o0 o1) (by rw[JM zo zo,JM o0 o1]) (KQ _ _)) ?_;have s55:=Sp.setRow (j:=1) s51 rfl (nU C0 C1);refine ae (cj mW (au.own (i:=1) s55 rfl) (AM o0 o1)) ?_;exact hQ _ s55.ch
end
end Go.Esc.M
