import Derived.Test.YtkojimdacnohpaaGreatDoorLMo
import Derived.Test.YtkojimdacnohpaaGreatDoorLHb
import Derived.Test.YtkojimdacnohpaaGreatDoorLUe
import Derived.Test.YtkojimdacnohpaaGreatDoorLSe
import Derived.Test.YtkojimdacnohpaaGreatDoorLFv
import Derived.Test.YtkojimdacnohpaaGreatDoorLFb
import Derived.Test.YtkojimdacnohpaaGreatDoorLPw
set_option maxHeartbeats 4000000
set_option linter.unusedSimpArgs false
set_option linter.unusedVariables false
set_option maxRecDepth 20000
namespace Go.Esc.M
open Go Go.Esc
end Go.Esc.M
namespace Go.Esc.M
open Go Go.Esc
end Go.Esc.M
namespace Go.Esc.M
open Go Go.Esc
end Go.Esc.M
namespace Go.Esc.M
open Go Go.Esc
section
variable {F0:List AId}{G0 G:ak}{ps:List LP}{Q:ah->ak->Prop}
end
end Go.Esc.M
namespace Go.Esc.M
open Go Go.Esc
structure StF where
 s:StM
 o:List aL
 p:List aL
 h:List b6
structure ka (G:ak) (f:StF) (vo vp vh:ah):Prop where
 ok:f.s.ok
 o:hJ 36 G vo (f.o.map aL.av)
 p:hJ 36 G vp (f.p.map aL.av)
 h:hJ 34 G vh (f.h.map b6.av)
 oko:∀ u∈f.o,u.ok
 okp:∀ u∈f.p,u.ok
 okh:∀ x∈f.h,x.ok
 lo:f.o.length≤1048576
 lp:f.p.length≤1048576
 lh:f.h.length*48≤140737488351232
theorem De {n:Nat}{G:ak}{v:ah}{vs:List ah}(h:hJ n G v vs):bw v:=by
 rcases h with ⟨_,_,_,_,_,_,rfl,_⟩|⟨rfl,_⟩<;>exact⟨rfl,rfl,rfl⟩
theorem ka.lv {G:ak}{f:StF}{vo vp vh:ah}(h:ka G f vo vp vh):bw vo/\bw vp/\bw vh:=⟨De h.o,De h.p,De h.h⟩
theorem ka.mv {G G':ak}{E:List AId}{f:StF}{vo vp vh:ah}(h:ka G f vo vp vh) (hc:Ch [] G E G'):ka G' f vo vp vh:=
 ⟨h.ok,h.o.mv hc,h.p.mv hc,h.h.mv hc,h.oko,h.okp,h.okh,h.lo,h.lp,h.lh⟩
def mM (s:StM):Int:=if s.heldA<s.atA then s.heldA else s.atA
def mD (s:StM):Int:=if s.heldB<s.atB then s.heldB else s.atB
def uO (s:StM):Bool:=!decide (s.failed=0) || !decide (s.closed=-1)
def yr (f:StF):Bool:=decide (2048≤f.o.length) || decide (512≤IntKind.i64.wrap ((f.o.length:Int)-f.s.heldA))
def tj (f:StF):Int:=xj f.s.bo f.o f.p (mM f.s) (mD f.s)
def th (f:StF):Int:=xj f.s.bp f.p f.o (mD f.s) (mM f.s)
def RcM.zero:RcM:=⟨0,aL.zero,0,0,0,h0,h0,h0,0⟩
theorem RcM.bq:RcM.zero.ok:=⟨cL,aL.bq,cL,cL,cL,rfl,rfl,rfl,cL⟩
def rcZ:List ah:=RcM.zero.cs .nilSlice
theorem uU:dw=RcM.zero.av .nilSlice:=rfl
theorem wC {parts:List (Nat×ah)}{r:RcM}{v:ah}(hs:∀ p∈parts,rcZ[p.1]?.map Esc.sz=some (Esc.sz p.2)) (he:p7 rcZ parts=r.cs v):bj T ax parts=some (r.av v):=by
 refine (kO (zs:=rcZ) pK rfl rfl rfl (pf rfl) hs).trans ?_
 rw[he];rfl
theorem Ic:bj T ax []=some (RcM.zero.av .nilSlice):=rfl
def pe (u:aL):RcM:={ RcM.zero with kind:=1,upd:=u }
theorem iu (n:Int) (h0:-9223372036854775808≤n) (h1:n≤9223372036854775807):I64 n:=⟨h0,h1⟩
theorem iR {u:aL}(h:u.ok):(pe u).ok:=⟨iu 1 (by decide) (by decide),h,cL,cL,cL,rfl,rfl,rfl,cL⟩
section
variable {F0:List AId}{G0 G:ak}{ps:List LP}{Q:ah->ak->Prop}
theorem sE {u:aL}(h:u.ok):bj T ax [(0,.int .i64 1),(1,u.av)]=some ((pe u).av .nilSlice):=by
 refine wC (fun p hp=>?_) rfl
 simp only[List.mem_cons,List.not_mem_nil,or_false]at hp
 rcases hp with rfl|rfl
 ·rfl
 ·show some (Esc.sz aL.zero.av)=some (Esc.sz u.av)
  rw[aL.sz h,aL.sz aL.bq]
theorem kz {j:Nat}{i:AId}{e:Int}{v:ah}{r:RcM}(s:Sp F0 G ps G0) (hj:ps[j]?=some (au i (r.av v))) (hr:r.ok) (hv:bw v) (hQ:∀ G',Sp F0 G (ps.set j (au i (RcM.zero.av .nilSlice))) G'->Q (.tuple [RcM.zero.av .nilSlice,.int .i64 e]) G') :
  wv (bj T ax []) fun v17=>wg (aF T G0 ax (.ptr i [] 0) v17) fun G18=>wv (ag T G18 ax (.ptr i [] 0)) fun v19=>Q (.tuple [v19,.int .i64 e]) G18:=by
 refine ae Ic ?_
 refine Rc.st s hj hr hv RcM.bq bw.nil fun G18 s18=>?_
 refine ae (Rc.ld (au.own (i:=j) s18 (by rw[List.getElem?_set_self (List.getElem?_eq_some_iff.1 hj).1])) RcM.bq bw.nil) ?_
 exact hQ G18 s18
end
end Go.Esc.M
namespace Go.Esc.M
open Go Go.Esc
def w8 (x:RcM×Int):ah:=.tuple [x.1.av .nilSlice,.int .i64 x.2]
theorem tr0 (x:RcM×Int):aP (w8 x) 0=some (x.1.av .nilSlice):=rfl
theorem tr1 (x:RcM×Int):aP (w8 x) 1=some (.int .i64 x.2):=rfl
def noR (e:Int):RcM×Int:=(RcM.zero,e)
def n8 (f:StF) (a:Int) (h:List UInt8):RcM×Int:=
 if uO f.s=true then noR 220 else if a<1\/1152921504606846976<a then noR 80 else if yr f=true then noR 6
 else if 483≤kX f.o f.p (mD f.s) then noR 131 else if tj f<a then noR 130 else (pe ⟨1,((j7 f.o:Nat):Int),a,h,[]⟩,0)
def tA (f:StF) (u:aL):Bool:=
 (ey false u.id (cw f.p (mD f.s))).isSome && (!(ey true u.id f.o).isSome && ((!decide (u.kind=2) || decide (sha u.hash=((ey false u.id (cw f.p (mD f.s))).getD aL.zero).hash)) && decide (u.note.length≤64)))
def j4 (f:StF) (u:aL):RcM×Int:=
 if uO f.s=true then noR 220 else if tA f u=false then noR 120 else if yr f=true then noR 6 else (pe u,0)
def p6 (f:StF):RcM×Int:=
 if uO f.s=true then noR 220 else if f.s.rem≠f.s.ack\/((f.o.length:Int)=f.s.sgnA/\f.s.atB=f.s.sgnB) then noR 8 else if 281474976710653<f.s.rem then noR 90
 else ({ RcM.zero with kind:=2,index:=f.s.rem+1,cntA:=(f.o.length:Nat),cntB:=f.s.atB },0)
def vu (f:StF) (u:aL):Int:=
 if uO f.s=true then 220 else if 512≤IntKind.i64.wrap ((f.p.length:Int)-f.s.atB) then 131 else if kJ f.p f.o u≠0 then 120
 else if u.kind=1 then (if 483≤kX f.p f.o (mM f.s) then 131 else if th f<u.amount then 130 else 0)
 else if (ey false u.id (cw f.o (mM f.s))).isSome=false then 120
 else if u.kind=2/\sha u.hash≠((ey false u.id (cw f.o (mM f.s))).getD aL.zero).hash then 120 else 0
theorem r6 {t:TypeId}(a b c d:Int):az T .eql aU (bE a b) (bE c d)=some (.bool (decide (a=c/\b=d))):=by
 have:kV T 9 aU (bE a b) (bE c d)=some (decide (a=c) && decide (b=d)):=by
  by_cases h1:a=c<;>by_cases h2:b=d<;>simp[bE,kV,eqF,cK,pb,iD,nc,h1,h2,dD,sz,szs,ah.isAgg,kZ.isAgg]
 simp[az,bE]at this ⊢
 rw[this]
section
variable {F0:List AId}{G0 G:ak}{ps:List LP}{Q:ah->ak->Prop}
theorem Cq {x y:Int}{h:List UInt8}(hl:h.length=32):bj T aG [(0,.int .i64 1),(1,.int .i64 x),(2,.int .i64 y),(3,.agg (h.map u8v))]=some (aL.av ⟨1,x,y,h,[]⟩):=by
 refine (kO (zs:=aL.zero.cs) dE rfl rfl rfl (pf rfl) fun p hp=>?_).trans rfl
 simp only[List.mem_cons,List.not_mem_nil,or_false]at hp
 rcases hp with rfl|rfl|rfl|rfl
 ·rfl
 ·rfl
 ·rfl
 ·show some (Esc.sz (.agg (h0.map u8v)))=some (Esc.sz (.agg (h.map u8v)))
  rw[Esc.sz,Esc.sz,szh hl,szh oe]
theorem Cp {x:Int}{h:List UInt8}(hl:h.length=32):bj T aG [(0,.int .i64 2),(1,.int .i64 x),(3,.agg (h.map u8v))]=some (aL.av ⟨2,x,0,h,[]⟩):=by
 refine (kO (zs:=aL.zero.cs) dE rfl rfl rfl (pf rfl) fun p hp=>?_).trans rfl
 simp only[List.mem_cons,List.not_mem_nil,or_false]at hp
 rcases hp with rfl|rfl|rfl
 ·rfl
 ·rfl
 ·show some (Esc.sz (.agg (h0.map u8v)))=some (Esc.sz (.agg (h.map u8v)))
  rw[Esc.sz,Esc.sz,szh hl,szh oe]
theorem AU (x:Int) (n:List UInt8):bj T aG [(0,.int .i64 3),(1,.int .i64 x),(4,.str n)]=some (aL.av ⟨3,x,0,h0,n⟩):=by
 refine (kO (zs:=aL.zero.cs) dE rfl rfl rfl (pf rfl) fun p hp=>?_).trans rfl
 simp only[List.mem_cons,List.not_mem_nil,or_false]at hp
 rcases hp with rfl|rfl|rfl<;>rfl
theorem Cl {x a b:Int}:bj T ax [(0,.int .i64 2),(3,.int .i64 x),(4,bE a b)]=some (({ RcM.zero with kind:=2,index:=x,cntA:=a,cntB:=b }:RcM).av .nilSlice):=by
 refine wC (fun p hp=>?_) rfl
 simp only[List.mem_cons,List.not_mem_nil,or_false]at hp
 rcases hp with rfl|rfl|rfl<;>rfl
end
end Go.Esc.M
namespace Go.Esc.M
open Go Go.Esc
theorem mZ {s:List UInt8}(h:s.length=32) (n:Int):(jS s n).1.length=32:=by
 unfold jS
 cases okN n
 ·rfl
 ·exact mB 48 h
theorem xe {ow ix o q:Int}{pt:List UInt8}{l:List ba}(hp:pt.length=32) (hl:∀ p∈l,p.ok):(oI ow ix pt o q l).1.length≤1000000:=by
 unfold oI
 split
 ·simp
 ·cases hs:lG o q l with
  | false=>simp
  | true=>
   have h1:=qQ hs
   have h2:∀ m:List ba,(∀ p∈m,p.ok)->(m.flatMap ba.bytes).length=49*m.length:=by
    intro m hm
    induction m with
    | nil=>rfl
    | cons p m ih=>rw[List.flatMap_cons,List.length_append,ba.sf (hm p (by simp)),ih (fun p hp=>hm p (by simp[hp])),List.length_cons];omega
   simp only[cond_true,vK,List.length_append,iH,hp,h2 l hl]
   omega
def kx (f:StF) (ca cb:Int):FoldM:=mN f.s.bo f.s.bp f.o f.p ca cb
theorem qh {G:ak}{f:StF}{vo vp vh:ah}(h:ka G f vo vp vh) (ca cb:Int):∀ p∈(kx f ca cb).l,p.ok:=JB h.oko h.okp
theorem uj (f:StF) (ca cb:Int):(kx f ca cb).l.length≤f.o.length+f.p.length:=HW _ _ _ _ _ _
def yV (c:CfM) (f:StF) (n ca cb:Int):List UInt8×Bool:=
 if (jS c.seed n).2≠0 then ([],false) else if (kx f ca cb).e≠0 then ([],false)
 else ((oI f.s.side n (sha (jS c.seed n).1) (kx f ca cb).o (kx f ca cb).q (kx f ca cb).l).1,decide ((oI f.s.side n (sha (jS c.seed n).1) (kx f ca cb).o (kx f ca cb).q (kx f ca cb).l).2=0))
theorem Eb {c:CfM}{f:StF}{n ca cb:Int}(hf:∀ p∈(kx f ca cb).l,p.ok):(yV c f n ca cb).1.length≤1000000:=by
 unfold yV
 split
 ·simp
 ·split
  ·simp
  ·exact xe (je _) hf
structure Lf where
 r:RcM
 l:List aL
 e:Int
def noC (e:Int):Lf:=⟨RcM.zero,[],e⟩
def mU (c:CfM) (f:StF) (m:cr):Lf:=
 if uO f.s=true then noC 220 else if m.kind≠4 then noC 160 else if 281474976710653<f.s.loc\/m.index≠f.s.loc+1 then noC 90
 else if f.s.heldA=f.s.atA/\(f.p.length:Int)=f.s.atB then noC 8
 else if (yV c f m.index f.s.heldA (f.p.length:Nat)).2=false\/mac c.pkey (yV c f m.index f.s.heldA (f.p.length:Nat)).1≠m.hash then noC 110
 else ⟨{ RcM.zero with kind:=3,index:=m.index,sig:=m.hash },f.p.drop (cw f.p f.s.atB).length,0⟩
def qC (c:CfM) (n:Int):cr:=
 if n<0\/281474976710653<n then cr.zero else { cr.zero with kind:=5,index:=n,secret:=(jS c.seed n).1,hash:=sha (jS c.seed (n+2)).1 }
def jR (f:StF) (m:cr):RcM×Int:=
 if uO f.s=true then noR 220 else if m.kind≠5 then noR 160 else if f.s.rem=f.s.ack\/IntKind.i64.wrap (f.s.rem-1)≠f.s.ack\/m.index≠f.s.ack then noR 90
 else if sha m.secret≠f.s.ptsA then noR 100 else if (tw f.h f.s.ack m.secret).2≠0 then noR 100
 else ({ RcM.zero with kind:=4,index:=f.s.ack,secret:=m.secret,point:=m.hash },0)
def tI (c:CfM) (f:StF):cr:=
 { cr.zero with kind:=4,index:=f.s.rem,hash:=mac c.key (oI (IntKind.i64.wrap (1-f.s.side)) f.s.rem (if f.s.rem≠f.s.ack then f.s.ptsB else f.s.ptsA) (kx f f.s.sgnA f.s.sgnB).q (kx f f.s.sgnA f.s.sgnB).o (pE (kx f f.s.sgnA f.s.sgnB).l)).1 }
def StM.zero:StM:=⟨0,0,0,0,0,0,0,0,0,0,0,0,0,false,h0,h0,h0,0,0⟩
theorem StM.bq:StM.zero.ok:=⟨cL,cL,cL,cL,cL,cL,cL,cL,cL,cL,cL,cL,cL,rfl,rfl,rfl,cL,cL⟩
theorem lv0:bw .nilSlice/\bw .nilSlice/\bw .nilSlice:=⟨bw.nil,bw.nil,bw.nil⟩
theorem EV:hO=StM.zero.av .nilSlice .nilSlice .nilSlice:=rfl
def nF (c:CfM):Prop:=c.side<0\/1<c.side\/c.cap<1\/right c.cap=false\/c.ours<0\/c.cap<c.ours
instance (c:CfM):Decidable (nF c):=by unfold nF;infer_instance
def mm (c:CfM):StM×Int:=if nF c then (StM.zero,1) else ({ StM.zero with side:=c.side,cap:=c.cap,bo:=c.ours,bp:=c.cap-c.ours,ptsA:=c.ptsA,ptsB:=c.ptsB,closed:=-1 },0)
section
variable {F0:List AId}{G0 G:ak}{ps:List LP}{Q:ah->ak->Prop}
theorem AV {x:Int}{h:List UInt8}{w:ah}(hl:h.length=32) (hw:bw w):bj T ax [(0,.int .i64 3),(3,.int .i64 x),(2,w),(5,.agg (h.map u8v))]=some (({ RcM.zero with kind:=3,index:=x,sig:=h }:RcM).av w):=by
 refine wC (fun p hp=>?_) rfl
 simp only[List.mem_cons,List.not_mem_nil,or_false]at hp
 rcases hp with rfl|rfl|rfl|rfl
 ·rfl
 ·rfl
 ·show some 1=some (Esc.sz w)
  rw[hw.1]
 ·show some (Esc.sz (.agg (h0.map u8v)))=some (Esc.sz (.agg (h.map u8v)))
  rw[Esc.sz,Esc.sz,szh hl,szh oe]
theorem uo {parts:List (Nat×ah)}{r:cr}(hs:∀ p∈parts,cr.zero.cs[p.1]?.map Esc.sz=some (Esc.sz p.2)) (he:p7 cr.zero.cs parts=r.cs):bj T aW parts=some r.av:=by
 refine (kO (zs:=cr.zero.cs) eQ rfl rfl rfl (pf rfl) hs).trans ?_
 rw[he];rfl
theorem oJ {h:List UInt8}(hl:h.length=32):some (Esc.sz (.agg (h0.map u8v)))=some (Esc.sz (.agg (h.map u8v))):=by rw[Esc.sz,Esc.sz,szh hl,szh oe]
theorem yC {x:Int}{h:List UInt8}(hl:h.length=32):bj T aW [(0,.int .i64 4),(3,.int .i64 x),(5,.agg (h.map u8v))]=some (cr.av { cr.zero with kind:=4,index:=x,hash:=h }):=by
 refine uo (fun p hp=>?_) rfl
 simp only[List.mem_cons,List.not_mem_nil,or_false]at hp
 rcases hp with rfl|rfl|rfl
 ·rfl
 ·rfl
 ·exact oJ hl
theorem iU.use {c:CfM}{n:Int}(hc:c.ok) (hQ:∀ G',Ch [] G [] G'->Q (qC c n).av G'):al P iU.n [c.av,.int .i64 n] G Q:=by
 refine iU.sound ?_
 unfold iU.S
 rw[EW]
 unfold qC at hQ
 intro i1 f1
 have s1:=(Sp.nil G).row f1 c.av
 intro i3 f3
 have s3:=s1.row f3 cr.zero.av
 revert s3
 generalize ak.upd _ i3 _=G4
 intro s3 J36
 have bad:(n<0\/281474976710653<n)->J36 (.bool true) G4:=by
  intro hb
  rw[if_pos hb]at hQ
  simp -zeta only [J36,aN]
  refine ae (v:=cr.zero.av) rfl ?_
  refine nK (i:=0) s3 rfl cr.bq cr.bq fun G10 s10=>?_
  refine ae (cj eQ (au.own (i:=0) s10 rfl) (cr.fits cr.bq)) ?_
  exact hQ _ s10.ch
 have lK:¬ (n<0\/281474976710653<n)->J36 (.bool false) G4:=by
  intro hb
  rw[if_neg hb]at hQ
  simp -zeta only [J36,aK]
  have hx:=mZ hc.seed n
  have hy:=mZ hc.seed (n+2)
  refine ae (Cf.ue (au.own (i:=1) s3 rfl) hc) ?_
  refine im.use hc.seed fun G14 c14=>?_
  have s14:=s3.tmp c14
  refine ae (hi0 _) ?_
  refine ae (hi1 _) ?_
  refine pg s14 hx fun i17 G19 s19=>?_
  refine ae (Cf.ue (au.own (i:=2) s19 rfl) hc) ?_
  rw[bg,i64_in (by omega) (by omega),aa]
  refine im.use hc.seed fun G23 c23=>?_
  have s23:=s19.tmp c23
  refine ae (hi0 _) ?_
  refine ae (hi1 _) ?_
  refine pg s23 hy fun i26 G28 s28=>?_
  refine ae (bM hx (au.own (i:=1) s28 rfl)) ?_
  refine ae (bM hy (au.own (i:=0) s28 rfl)) ?_
  refine iz.use hy fun G32 c32=>?_
  have s32:=s28.tmp c32
  refine⟨⟨bM hx (au.own (i:=1) s32 rfl),trivial⟩,?_⟩
  have hz:(sha (jS c.seed (n+2)).1).length=32:=je _
  have hok:({ cr.zero with kind:=5,index:=n,secret:=(jS c.seed n).1,hash:=sha (jS c.seed (n+2)).1 }:cr).ok:=⟨iu 5 (by decide) (by decide),cL,cL,iu n (by omega) (by omega),cL,hz,hx,by simp[cr.zero]⟩
  refine ae (uo (r:={ cr.zero with kind:=5,index:=n,secret:=(jS c.seed n).1,hash:=sha (jS c.seed (n+2)).1 }) (fun p hp=>?_) rfl) ?_
  ·simp only[List.mem_cons,List.not_mem_nil,or_false]at hp
   rcases hp with rfl|rfl|rfl|rfl
   ·rfl
   ·rfl
   ·exact oJ hx
   ·exact oJ hz
  refine nK (i:=2) s32 rfl cr.bq hok fun G34 s34=>?_
  refine ae (cj eQ (au.own (i:=2) s34 rfl) (cr.fits hok)) ?_
  exact hQ _ s34.ch
 rw[aM,aa,aI]
 refine⟨fun h1=>bad (.inl h1),fun h1=>?_⟩
 rw[da,aa]
 by_cases h2:281474976710653<n
 ·rw[dT_ h2]
  exact bad (.inr h2)
 ·rw[dF_ h2]
  exact lK (by omega)
theorem jC.use {f:StF}{c:CfM}{vo vp vh:ah}(hS:ka G f vo vp vh) (hc:c.ok) (hQ:∀ G',Ch [] G [] G'->Q (tI c f).av G'):al P jC.n [c.av,f.s.av vo vp vh] G Q:=by
 have ho:=hS.ok
 have hl:=hS.lv
 have hlo:=hS.lo
 have hlp:=hS.lp
 refine jC.sound ?_
 unfold jC.S
 rw[EW]
 unfold tI at hQ
 intro i1 f1
 have s1:=(Sp.nil G).row f1 c.av
 intro i3 f3
 have s3:=s1.row f3 (f.s.av vo vp vh)
 intro i5 f5
 have s5:=s3.row f5 cr.zero.av
 revert s5
 generalize ak.upd _ i5 _=G6
 intro s5
 have hg:=au.own (i:=1) s5 rfl
 refine ae (v:=.ptr i3 [13,0] 16) rfl ?_
 refine ae (St.sg hg ho hl) ?_
 refine pg s5 ho.ptsA fun i9 G11 s11=>?_
 have hg:=au.own (i:=2) s11 rfl
 refine ae (St.mn hg ho hl) ?_
 refine ae (St.mS hg ho hl) ?_
 rw[cD,aa]
 obtain⟨pt,hpt⟩:∃ pt,pt=if f.s.rem≠f.s.ack then f.s.ptsB else f.s.ptsA:=⟨_,rfl⟩
 rw[<- hpt]at hQ
 have hp32:pt.length=32:=by
  rw[hpt];split
  ·exact ho.ptsB
  ·exact ho.ptsA
 intro J49
 have go:∀ G2,Sp [] G [au i9 (.agg (pt.map u8v)),au i5 cr.zero.av,au i3 (f.s.av vo vp vh),au i1 c.av] G2->J49 G2:=by
  intro G18 s18
  simp -zeta only [J49]
  have hg:=au.own (i:=2) s18 rfl
  refine ae (St.uM hg ho hl) ?_
  refine ae (St.tC hg ho hl) ?_
  refine ae (St.dM hg ho hl) ?_
  refine ae (St.eH hg ho hl) ?_
  refine ae (St.vr hg ho hl) ?_
  refine iM.use (hS.o.mv s18.ch) (hS.p.mv s18.ch) hS.oko hS.okp hS.lo hS.lp fun x G25 t25=>?_
  have hFok:=qh hS f.s.sgnA f.s.sgnB
  have hFlen:=uj f f.s.sgnA f.s.sgnB
  unfold kx at hQ hFok hFlen
  obtain⟨F,hF⟩:∃ F,F=mN f.s.bo f.s.bp f.o f.p f.s.sgnA f.s.sgnB:=⟨_,rfl⟩
  rw[<- hF]at hQ hFok hFlen t25 ⊢
  obtain⟨F25,o25,c25⟩:=t25.out
  have s25:=s18.new o25 c25
  have lx:=(bm.own (i:=0) s25 rfl).leaf
  refine ae (tv0 _ _) ?_
  refine ae (tv1 _ _) ?_
  obtain⟨w1,w2,w3⟩:=rr (o:=F.o) (q:=F.q) lx
  refine jL s25 ng w1 (by rw[w2];rfl) w3 fun i28 G30 s30=>?_
  have hg:=au.own (i:=4) s30 rfl
  refine ae (St.lJ hg ho hl) ?_
  rw[b7,aa]
  refine ae (St.mn hg ho hl) ?_
  refine ae (bM hp32 (au.own (i:=2) s30 rfl)) ?_
  refine ae (iI (i:=0) s30 rfl lx).2.2.2 ?_
  refine jD.use (bm.own (i:=1) s30 rfl).is hFok (by omega) fun y G37 t37=>?_
  obtain⟨F37,o37,c37⟩:=t37.out
  have s37:=s30.new o37 c37
  have hg:=au.own (i:=5) s37 rfl
  refine⟨⟨bM hp32 (au.own (i:=3) s37 rfl),St.mn hg ho hl,St.lJ hg ho hl,trivial⟩,?_⟩
  have hTok:=zF hFok
  refine iN.use hp32 (bm.own (i:=0) s37 rfl).is hTok (by rw[pI];omega) fun G39 c39=>?_
  have s39:=s37.tmp c39
  have htl:=xe (ow:=IntKind.i64.wrap (1-f.s.side)) (ix:=f.s.rem) (o:=F.q) (q:=F.o) hp32 hTok
  obtain⟨W,hW⟩:∃ W,W=oI (IntKind.i64.wrap (1-f.s.side)) f.s.rem pt F.q F.o (pE F.l):=⟨_,rfl⟩
  rw[<- hW]at hQ htl ⊢
  refine ae (tv0 _ _) ?_
  refine ae (tv1 _ _) ?_
  have hg:=au.own (i:=5) s39 rfl
  refine ae (St.mn hg ho hl) ?_
  refine ae (Cf.Jq (au.own (i:=6) s39 rfl) hc) ?_
  refine j3.use hc.key (by omega) fun G45 c45=>?_
  have s45:=s39.tmp c45
  refine⟨⟨St.mn (au.own (i:=5) s45 rfl) ho hl,trivial⟩,?_⟩
  have hz:(mac c.key W.1).length=32:=gU _
  revert hQ hz
  generalize mac c.key W.1=Z
  intro hQ hz
  have hok:({ cr.zero with kind:=4,index:=f.s.rem,hash:=Z }:cr).ok:=⟨iu 4 (by decide) (by decide),cL,cL,ho.rem,cL,hz,rfl,by simp[cr.zero]⟩
  refine ae (yC hz) ?_
  refine nK (i:=4) s45 rfl cr.bq hok fun G47 s47=>?_
  refine ae (cj eQ (au.own (i:=4) s47 rfl) (cr.fits hok)) ?_
  exact hQ _ s47.ch
 by_cases h1:f.s.rem=f.s.ack
 ·rw[if_neg (fun hh=>hh h1)]at hpt
  rw[dT_ h1,Bool.not_true,aK]
  rw[<- hpt]at s11
  exact go _ s11
 ·rw[if_pos h1]at hpt
  rw[dF_ h1,Bool.not_false,aN]
  refine ae (v:=.ptr i3 [13,1] 48) rfl ?_
  refine ae (St.zb hg ho hl) ?_
  refine sq (i:=0) s11 rfl ho.ptsA ho.ptsB fun G17 s17=>?_
  rw[<- hpt]at s17
  exact go _ s17
theorem Cm {x:Int}{a b:List UInt8}(ha:a.length=32) (hb:b.length=32):bj T ax [(0,.int .i64 4),(3,.int .i64 x),(6,.agg (a.map u8v)),(7,.agg (b.map u8v))]=some (({ RcM.zero with kind:=4,index:=x,secret:=a,point:=b }:RcM).av .nilSlice):=by
 refine wC (fun p hp=>?_) rfl
 simp only[List.mem_cons,List.not_mem_nil,or_false]at hp
 rcases hp with rfl|rfl|rfl|rfl
 ·rfl
 ·rfl
 ·exact oJ ha
 ·exact oJ hb
end
end Go.Esc.M
