import Derived.Test.YtkojimdacnohpaaGreatDoorLWf
import Derived.Test.YtkojimdacnohpaaGreatDoorLUe
import Derived.Test.YtkojimdacnohpaaGreatDoorLMo
import Derived.Test.YtkojimdacnohpaaGreatDoorLWa
set_option maxHeartbeats 4000000
set_option linter.unusedSimpArgs false
set_option linter.unusedVariables false
set_option maxRecDepth 20000
namespace Go.Esc.M
open Go Go.Esc
theorem Ab {o p:List aL}{a b:Int}(ha:0≤a) (h:a≤b):kX o p b≤kX o p a:=by
 unfold kX ml cw;rw[List.length_map,List.length_map,<- List.countP_eq_length_filter,<- List.countP_eq_length_filter];refine List.countP_mono_left fun u hu ho=>?_;simp only[Bool.and_eq_true,decide_eq_true_eq]at ho ⊢;refine⟨ho.1,ho.2.1,?_⟩;refine Classical.byContradiction fun hne=>?_;have:=pP (id:=u.id) (l:=p) (show a.toNat≤b.toNat by omega) hne;rw[this]at ho;exact hne ho.2.2
theorem Aa (o p:List aL) (u:aL) (a:Int):kX (o++[u]) p a≤kX o p a+(if u.kind=1 then 1 else 0):=by
 unfold kX ml;rw[List.length_map,List.length_map,List.filter_append,List.length_append];refine Nat.add_le_add_left ?_ _;simp only[List.filter_cons,List.filter_nil];by_cases h:u.kind=1
 ·rw[if_pos h];split<;>simp
 ·rw[if_neg h,dF_ h,Bool.false_and];simp
theorem Ai {A X:List aL}{u:aL}(h:kJ A X u=0):A.length<2048:=by
 refine Classical.byContradiction fun hn=>?_;unfold kJ at h;rw[if_pos (by omega)]at h;cases h
theorem toNat_le {a:Int}{n:Nat}(h:a≤(n:Int)):a.toNat≤n:=by omega
theorem iY.ours {f:StF}(I:iY f) {u:aL}(hu:u.ok) (hn:kJ f.o (f.p.take f.s.heldB.toNat) u=0) (ha:u.kind=1->u.amount≤SB f.s.bo f.o f.p f.s.atA.toNat f.s.heldB.toNat/\kX f.o f.p f.s.heldB<483):iY (q6 f u):=by
 have hlt:=Ai hn;obtain⟨hv,h1,h2⟩:=nG hn;have hA:f.s.atA.toNat≤f.o.length:=toNat_le (by have:=I.a1;have:=I.a2;have:=I.a3;omega);have e1:(f.o++[u]).take f.s.atA.toNat=f.o.take f.s.atA.toNat:=nu f.o u hA;have hb:oX f.s.bo f.s.bp (f.o++[u]) f.p f.s.atA.toNat f.s.heldB.toNat:=by
  by_cases hk:u.kind=1
  ·exact I.book.add hlt hk (h1 hk) hu hv (ha hk).1
  ·obtain⟨b,_,b2,b3,b4⟩:=sv (h2 hk).1;exact I.book.rem hlt hk ⟨b,b2,b3,b4⟩ hu hv
 refine⟨I.ok,rn I.oko hu,I.okp,I.okh,I.lh,I.a0,I.a1,I.a2,?_,I.b0,I.b1,I.b2,I.b3,At I.go hn,?_,hb.s0,hb.s1,?_,?_,I.bo,I.bp,I.cap,I.capm,I.side,I.loc0,I.loc1,I.ack0,I.rem,I.rem1⟩
 ·show f.s.sgnA≤((f.o++[u]).length:Nat);rw[List.length_append];have:=I.a3;omega
 ·show o7 f.p ((f.o++[u]).take f.s.atA.toNat);rw[e1];exact I.gp
 ·show kX (f.o++[u]) f.p f.s.heldB≤483;have:=Aa f.o f.p u f.s.heldB;by_cases hk:u.kind=1
  ·rw[if_pos hk]at this;have:=(ha hk).2;omega
  ·rw[if_neg hk]at this;have:=I.no;omega
 ·show kX f.p (f.o++[u]) f.s.atA≤483;have e:kX f.p (f.o++[u]) f.s.atA=kX f.p f.o f.s.atA:=by unfold kX cw;rw[e1]
  rw[e];exact I.np
theorem iY.kA {f:StF}(I:iY f) {u:aL}(hu:u.ok) (hn:kJ f.p (f.o.take f.s.atA.toNat) u=0) (ha:u.kind=1->u.amount≤SB f.s.bp f.p f.o f.s.heldB.toNat f.s.atA.toNat/\kX f.p f.o f.s.atA<483):iY ⟨f.s,f.o,f.p++[u],f.h⟩:=by
 have hlt:=Ai hn;obtain⟨hv,h1,h2⟩:=nG hn;have hB:f.s.heldB.toNat≤f.p.length:=toNat_le (by have:=I.b1;have:=I.b2;have:=I.b3;omega);have e1:(f.p++[u]).take f.s.heldB.toNat=f.p.take f.s.heldB.toNat:=nu f.p u hB;have hb:oX f.s.bp f.s.bo (f.p++[u]) f.o f.s.heldB.toNat f.s.atA.toNat:=by
  by_cases hk:u.kind=1
  ·exact I.book.swap.add hlt hk (h1 hk) hu hv (ha hk).1
  ·obtain⟨b,_,b2,b3,b4⟩:=sv (h2 hk).1;exact I.book.swap.rem hlt hk ⟨b,b2,b3,b4⟩ hu hv
 refine⟨I.ok,I.oko,rn I.okp hu,I.okh,I.lh,I.a0,I.a1,I.a2,I.a3,I.b0,I.b1,I.b2,?_,?_,At I.gp hn,hb.s1,hb.s0,?_,?_,I.bo,I.bp,I.cap,I.capm,I.side,I.loc0,I.loc1,I.ack0,I.rem,I.rem1⟩
 ·show f.s.atB≤((f.p++[u]).length:Nat);rw[List.length_append];have:=I.b3;omega
 ·show o7 f.o ((f.p++[u]).take f.s.heldB.toNat);rw[e1];exact I.go
 ·show kX f.o (f.p++[u]) f.s.heldB≤483;have e:kX f.o (f.p++[u]) f.s.heldB=kX f.o f.p f.s.heldB:=by unfold kX cw;rw[e1]
  rw[e];exact I.no
 ·show kX (f.p++[u]) f.o f.s.atA≤483;have:=Aa f.p f.o u f.s.atA;by_cases hk:u.kind=1
  ·rw[if_pos hk]at this;have:=(ha hk).2;omega
  ·rw[if_neg hk]at this;have:=I.np;omega
theorem iY.offer {f:StF}(I:iY f) {a:Int}{h:List UInt8}(hh:h.length=32) (h0:(n8 f a h).2=0) :
  ∃ u,n8 f a h=(pe u,0)/\u.ok/\u.kind=1/\iY (q6 f u)/\Bb f (pe u) [] (q6 f u)/\u.note=[]:=by
 unfold n8 at h0 ⊢;split at h0
 ·cases h0
 rename_i h1;rw[if_neg h1];split at h0
 ·cases h0
 rename_i h2;rw[if_neg h2];split at h0
 ·cases h0
 rename_i h3;rw[if_neg h3];split at h0
 ·cases h0
 rename_i h4;rw[if_neg h4];split at h0
 ·cases h0
 rename_i h5;rw[if_neg h5];have hlo:=I.lo;have hal:=tJ f.o;have hfu:f.o.length<2048:=by
  refine Classical.byContradiction fun hn=>h3 ?_;unfold yr;rw[dT_ (by omega),Bool.true_or]
 rw[I.fB]at h4;rw[I.xl.1]at h5;have hu:(⟨1,((j7 f.o:Nat):Int),a,h,[]⟩:aL).ok:=⟨iu 1 (by decide) (by decide),iu ((j7 f.o:Nat):Int) (by omega) (by omega),iu a (by omega) (by omega),hh,by simp⟩;have hv:dp ⟨1,((j7 f.o:Nat):Int),a,h,[]⟩=true:=by
  unfold dp Ek;simp only[if_pos,Bool.and_eq_true,decide_eq_true_eq];refine⟨by omega,by omega,by omega,by omega,trivial⟩
 have hn:∀ X,kJ f.o X ⟨1,((j7 f.o:Nat):Int),a,h,[]⟩=0:=by
  intro X;unfold kJ;rw[if_neg (by omega),if_neg (by rw[hv];decide),if_pos rfl];exact if_pos rfl
 refine⟨_,rfl,hu,rfl,I.ours hu (hn _) fun _=>⟨by show a≤_;omega,by omega⟩,.inl ⟨rfl,hn _,rfl⟩,rfl⟩
theorem iY.y9 {f:StF}(I:iY f) {u:aL}(hu:u.ok) (hv:dp u=true\/64<u.note.length\/u.id<0\/2048≤u.id) (hk:u.kind≠1) (h0:(j4 f u).2=0) :
  j4 f u=(pe u,0)/\iY (q6 f u)/\Bb f (pe u) [] (q6 f u):=by
 unfold j4 at h0 ⊢;split at h0
 ·cases h0
 rename_i h1;rw[if_neg h1];split at h0
 ·cases h0
 rename_i h2;rw[if_neg h2];split at h0
 ·cases h0
 rename_i h3;rw[if_neg h3];have hfu:f.o.length<2048:=by
  refine Classical.byContradiction fun hn=>h3 ?_;unfold yr;rw[dT_ (by omega),Bool.true_or]
 have h2:tA f u=true:=(Bool.not_eq_false _).mp h2;unfold tA at h2;simp only[Bool.and_eq_true,Bool.not_eq_true',Bool.or_eq_true,decide_eq_true_eq,decide_eq_false_iff_not]at h2;obtain⟨k1,k2,k3,k4⟩:=h2;rw[I.fB]at k1 k3;obtain⟨b,_,b2,b3,b4⟩:=sv k1;have hvb:=lW (I.vp b (List.mem_of_mem_take b2));have hv:dp u=true:=by
  rcases hv with hv|hv|hv|hv
  ·exact hv
  ·omega
  ·omega
  ·omega
 have hn:kJ f.o (f.p.take f.s.heldB.toNat) u=0:=by
  unfold kJ;rw[if_neg (by omega),if_neg (by rw[hv];decide),if_neg hk,if_neg (by rw[show (ey false u.id (f.p.take f.s.heldB.toNat)).isSome=true from k1];decide),if_neg (by rw[k2];decide),if_neg];rintro⟨c1,c2⟩;rcases k3 with k3|k3
  ·exact k3 c1
  ·exact c2 k3
 refine⟨rfl,I.ours hu hn fun h=>absurd h hk,.inl ⟨rfl,?_,rfl⟩⟩;have:=vn (Y:=f.p.drop f.s.heldB.toNat) hn
 rwa [List.take_append_drop]at this
theorem iY.sign {f:StF}(I:iY f) (h0:(p6 f).2=0) :
  p6 f=({ RcM.zero with kind:=2,index:=f.s.rem+1,cntA:=(f.o.length:Nat),cntB:=f.s.atB },0)/\({ RcM.zero with kind:=2,index:=f.s.rem+1,cntA:=(f.o.length:Nat),cntB:=f.s.atB }:RcM).ok ∧
  iY (yG f { RcM.zero with kind:=2,index:=f.s.rem+1,cntA:=(f.o.length:Nat),cntB:=f.s.atB })/\Bb f { RcM.zero with kind:=2,index:=f.s.rem+1,cntA:=(f.o.length:Nat),cntB:=f.s.atB } [] (yG f { RcM.zero with kind:=2,index:=f.s.rem+1,cntA:=(f.o.length:Nat),cntB:=f.s.atB })/\f.s.rem=f.s.ack:=by
 unfold p6 at h0 ⊢;split at h0
 ·cases h0
 rename_i h1;rw[if_neg h1];split at h0
 ·cases h0
 rename_i h2;rw[if_neg h2];split at h0
 ·cases h0
 rename_i h3;rw[if_neg h3];have hra:f.s.rem=f.s.ack:=Classical.byContradiction fun hn=>h2 (.inl hn);have ha:=I.ack0;have hlo:=I.lo;have h4:=I.a2;have h5:=I.a3;have h6:=I.b1;have h7:=I.b2;have h8:=I.b3;have hrok:({ RcM.zero with kind:=2,index:=f.s.rem+1,cntA:=(f.o.length:Nat),cntB:=f.s.atB }:RcM).ok:=
  ⟨iu 2 (by decide) (by decide),aL.bq,iu (f.s.rem+1) (by omega) (by omega),iu (f.o.length:Nat) (by omega) (by omega),I.ok.atB,rfl,rfl,rfl,cL⟩
 have ho:=I.ok;have hok:(yG f { RcM.zero with kind:=2,index:=f.s.rem+1,cntA:=(f.o.length:Nat),cntB:=f.s.atB }).s.ok:=⟨ho.side,ho.cap,ho.bo,ho.bp,ho.loc,hrok.index,ho.ack,ho.atA,ho.atB,hrok.cntA,ho.atB,ho.heldA,ho.heldB,ho.ptsA,ho.ptsB,ho.sig,ho.failed,ho.closed⟩;refine⟨rfl,hrok,⟨hok,I.oko,I.okp,I.okh,I.lh,I.a0,I.a1,?_,?_,I.b0,?_,?_,I.b3,I.go,I.gp,I.so,I.sp,I.no,I.np,I.bo,I.bp,I.cap,I.capm,I.side,I.loc0,I.loc1,I.ack0,?_,?_⟩,.inr (.inl ⟨rfl,hra,rfl,rfl,h5,Int.le_refl _,rfl⟩),hra⟩
 ·show f.s.heldA≤(f.o.length:Nat);omega
 ·show ((f.o.length:Nat):Int)≤(f.o.length:Nat);omega
 ·show f.s.heldB≤f.s.atB;omega
 ·show f.s.atB≤f.s.atB;omega
 ·exact .inr (by show f.s.rem+1=f.s.ack+1;omega)
 ·show f.s.rem+1≤_;omega
theorem FK {p:List aL}{n:Int}:cw p n++p.drop (cw p n).length=p:=by
 unfold cw;rw[List.length_take];by_cases h:n.toNat≤p.length
 ·rw[Nat.min_eq_left h,List.take_append_drop]
 ·rw[Nat.min_eq_right (by omega),List.take_of_length_le (by omega),List.drop_length,List.append_nil]
def yy (f:StF) (i:Int) (sig:List UInt8):StF:=⟨{ f.s with loc:=i,atA:=f.s.heldA,atB:=(f.p.length:Nat),sig:=sig,behind:=false },f.o,f.p,f.h⟩
def AO (m:cr):RcM:={ RcM.zero with kind:=3,index:=m.index,sig:=m.hash }
theorem iY.came {f:StF}(I:iY f) {c:CfM}{m:cr}(hm:m.ok) (h0:(mU c f m).e=0) :
  mU c f m=⟨AO m,f.p.drop (cw f.p f.s.atB).length,0⟩/\(AO m).ok/\iY (yy f m.index m.hash)/\Bb f (AO m) (f.p.drop (cw f.p f.s.atB).length) (yy f m.index m.hash)/\m.kind=4/\m.index=f.s.loc+1:=by
 unfold mU at h0 ⊢;split at h0
 ·cases h0
 rename_i h1;rw[if_neg h1];split at h0
 ·cases h0
 rename_i h2;rw[if_neg h2];split at h0
 ·cases h0
 rename_i h3;rw[if_neg h3];split at h0
 ·cases h0
 rename_i h4;rw[if_neg h4];split at h0
 ·cases h0
 rename_i h5;rw[if_neg h5];have h6:=I.a0;have h7:=I.a1;have h8:=I.a2;have h9:=I.a3;have b0:=I.b0;have b1:=I.b1;have b2:=I.b2;have b3:=I.b3;have hl0:=I.loc0;have hlp:=I.lp;have hk:m.kind=4:=Classical.byContradiction fun hn=>h2 hn;have hix:m.index=f.s.loc+1:=Classical.byContradiction fun hn=>h3 (.inr hn);have hlc:f.s.loc≤281474976710653:=Classical.byContradiction fun hn=>h3 (.inl (by omega));have ho:=I.ok;have hrok:(AO m).ok:=⟨iu 3 (by decide) (by decide),aL.bq,hm.index,cL,cL,hm.hash,rfl,rfl,cL⟩;have hok:(yy f m.index m.hash).s.ok:=⟨ho.side,ho.cap,ho.bo,ho.bp,hm.index,ho.rem,ho.ack,ho.heldA,iu (f.p.length:Nat) (by omega) (by omega),ho.sgnA,ho.sgnB,ho.heldA,ho.heldB,ho.ptsA,ho.ptsB,hm.hash,ho.failed,ho.closed⟩;have hfix:=I.book.fix (g:=f.s.heldA.toNat) (by omega) (by omega);have hap:xS f (AO m) (f.p.drop (cw f.p f.s.atB).length)=yy f m.index m.hash:=by
  unfold xS yy;rw[FK];rfl
 refine⟨rfl,hrok,⟨hok,I.oko,I.okp,I.okh,I.lh,?_,?_,I.a2,I.a3,I.b0,I.b1,?_,?_,I.go,B8 I.gp (by show f.s.atA.toNat≤f.s.heldA.toNat;omega),hfix.s0,hfix.s1,I.no,?_,I.bo,I.bp,I.cap,I.capm,I.side,?_,?_,I.ack0,I.rem,I.rem1⟩,.inr (.inr (.inl ⟨rfl,fun j u hj=>?_,hix,hap.symm⟩)),hk,hix⟩
 ·show 0≤f.s.heldA;omega
 ·show f.s.heldA≤f.s.heldA;omega
 ·show f.s.sgnB≤(f.p.length:Nat);omega
 ·show ((f.p.length:Nat):Int)≤(f.p.length:Nat);omega
 ·exact Nat.le_trans (Ab I.a0 I.a1) I.np
 ·show 0≤m.index;omega
 ·show m.index≤_;omega
 ·have hn:(cw f.p f.s.atB).length=f.s.atB.toNat:=by unfold cw;rw[List.length_take];omega
  rw[hn]at hj ⊢;rw[List.getElem?_drop]at hj;have e:cw f.p f.s.atB++(f.p.drop f.s.atB.toNat).take j=f.p.take (f.s.atB.toNat+j):=by
   unfold cw;rw[List.take_add]
  rw[e];have:=vn (Y:=f.o.drop f.s.atA.toNat) (I.gp _ u hj)
  rwa [List.take_append_drop]at this
theorem iY.y8 {f:StF}(I:iY f) {m:cr}(hm:m.ok) (h0:(jR f m).2=0) :
  jR f m=({ RcM.zero with kind:=4,index:=f.s.ack,secret:=m.secret,point:=m.hash },0)/\({ RcM.zero with kind:=4,index:=f.s.ack,secret:=m.secret,point:=m.hash }:RcM).ok ∧
  iY (uQ f { RcM.zero with kind:=4,index:=f.s.ack,secret:=m.secret,point:=m.hash })/\Bb f { RcM.zero with kind:=4,index:=f.s.ack,secret:=m.secret,point:=m.hash } [] (uQ f { RcM.zero with kind:=4,index:=f.s.ack,secret:=m.secret,point:=m.hash })/\m.kind=5/\m.index=f.s.ack/\f.s.rem=f.s.ack+1/\sha m.secret=f.s.ptsA/\(tw f.h f.s.ack m.secret).2=0:=by
 unfold jR at h0 ⊢;have hrem:=I.rem;have hrem1:=I.rem1;have hack:=I.ack0;split at h0
 ·cases h0
 rename_i h1;rw[if_neg h1];split at h0
 ·cases h0
 rename_i h2;rw[if_neg h2];split at h0
 ·cases h0
 rename_i h3;rw[if_neg h3];split at h0
 ·cases h0
 rename_i h4;rw[if_neg h4];split at h0
 ·cases h0
 rename_i h5;rw[if_neg h5];rw[i64_in (n:=f.s.rem-1) (by omega) (by omega)]at h3;have b0:=I.b0;have b1:=I.b1;have b2:=I.b2;have b3:=I.b3;have a1:=I.a1;have a2:=I.a2;have ho:=I.ok;have hput:(tw f.h f.s.ack m.secret).2=0:=Classical.byContradiction fun hn=>h5 hn;have hsh:sha m.secret=f.s.ptsA:=Classical.byContradiction fun hn=>h4 hn;have hk:m.kind=5:=Classical.byContradiction fun hn=>h2 hn;have hra:f.s.rem=f.s.ack+1:=by omega
 have hix:m.index=f.s.ack:=by omega
 have hrok:({ RcM.zero with kind:=4,index:=f.s.ack,secret:=m.secret,point:=m.hash }:RcM).ok:=⟨iu 4 (by decide) (by decide),aL.bq,ho.ack,cL,cL,rfl,hm.secret,hm.hash,cL⟩;have hok:(uQ f { RcM.zero with kind:=4,index:=f.s.ack,secret:=m.secret,point:=m.hash }).s.ok:=⟨ho.side,ho.cap,ho.bo,ho.bp,ho.loc,ho.rem,iu (f.s.ack+1) (by omega) (by omega),ho.atA,ho.atB,ho.sgnA,ho.sgnB,ho.sgnA,ho.sgnB,ho.ptsB,hm.hash,ho.sig,ho.failed,ho.closed⟩;have hfix:=(I.book.swap.fix (g:=f.s.sgnB.toNat) (by omega) (by omega)).swap;refine⟨rfl,hrok,⟨hok,I.oko,I.okp,Kq I.okh hm.secret,I5 _ _ _,I.a0,?_,?_,I.a3,?_,?_,I.b2,I.b3,B8 I.go (by show f.s.heldB.toNat≤f.s.sgnB.toNat;omega),I.gp,hfix.s0,hfix.s1,?_,I.np,I.bo,I.bp,I.cap,I.capm,I.side,I.loc0,I.loc1,?_,?_,I.rem1⟩,.inr (.inr (.inr ⟨rfl,hput,hra,rfl,rfl⟩)),hk,hix,hra,hsh,hput⟩
 ·show f.s.atA≤f.s.sgnA;omega
 ·show f.s.sgnA≤f.s.sgnA;omega
 ·show 0≤f.s.sgnB;omega
 ·show f.s.sgnB≤f.s.sgnB;omega
 ·exact Nat.le_trans (Ab I.b0 I.b1) I.no
 ·show 0≤f.s.ack+1;omega
 ·exact .inl hra
theorem iY.heard {f:StF}(I:iY f) {u:aL}(hu:u.ok) (h0:vu f u=0):iY ⟨f.s,f.o,f.p++[u],f.h⟩/\kJ f.p (f.o.take f.s.atA.toNat) u=0:=by
 unfold vu at h0;split at h0
 ·cases h0
 rename_i h1;split at h0
 ·cases h0
 rename_i h2;split at h0
 ·cases h0
 rename_i h3;have h3:kJ f.p f.o u=0:=Classical.byContradiction fun hn=>h3 hn;have hlt:=Ai h3;obtain⟨hv,k1,k2⟩:=nG h3;rw[I.fA]at h0;by_cases hk:u.kind=1
 ·rw[if_pos hk]at h0;split at h0
  ·cases h0
  rename_i h4;split at h0
  ·cases h0
  rename_i h5;rw[I.xk.1]at h5;have hn:kJ f.p (f.o.take f.s.atA.toNat) u=0:=by
   unfold kJ;rw[if_neg (by omega),if_neg (by rw[hv];decide),if_pos hk,if_pos (k1 hk)]
  exact⟨I.kA hu hn fun _=>⟨by omega,by omega⟩,hn⟩
 ·rw[if_neg hk]at h0;split at h0
  ·cases h0
  rename_i h4;split at h0
  ·cases h0
  rename_i h5;have hn:kJ f.p (f.o.take f.s.atA.toNat) u=0:=by
   unfold kJ;rw[if_neg (by omega),if_neg (by rw[hv];decide),if_neg hk,if_neg (show ¬ (ey false u.id (f.o.take f.s.atA.toNat)).isSome=false from h4),if_neg (by rw[(k2 hk).2.1];decide)];exact if_neg h5
  exact⟨I.kA hu hn fun h=>absurd h hk,hn⟩
theorem iY.fail {f:StF}(I:iY f) {n:Int}(hn:I64 n):iY ⟨{ f.s with failed:=n },f.o,f.p,f.h⟩:=by
 have ho:=I.ok;exact⟨⟨ho.side,ho.cap,ho.bo,ho.bp,ho.loc,ho.rem,ho.ack,ho.atA,ho.atB,ho.sgnA,ho.sgnB,ho.heldA,ho.heldB,ho.ptsA,ho.ptsB,ho.sig,hn,ho.closed⟩,I.oko,I.okp,I.okh,I.lh,I.a0,I.a1,I.a2,I.a3,I.b0,I.b1,I.b2,I.b3,I.go,I.gp,I.so,I.sp,I.no,I.np,I.bo,I.bp,I.cap,I.capm,I.side,I.loc0,I.loc1,I.ack0,I.rem,I.rem1⟩
theorem iY.start {c:CfM}(hc:c.ok) (h:¬ nF c):iY ⟨(mm c).1,[],[],[]⟩:=by
 have hok:=pN hc;have h2:right c.cap=true:=by
  have h1:¬ right c.cap=false:=fun hh=>h (.inr (.inr (.inr (.inl hh))));simpa using h1
 have h3:=lZ.1 h2;have h0:¬ c.side<0:=fun hh=>h (.inl hh);have h1:¬ 1<c.side:=fun hh=>h (.inr (.inl hh));have h4:¬ c.ours<0:=fun hh=>h (.inr (.inr (.inr (.inr (.inl hh)))));have h5:¬ c.cap<c.ours:=fun hh=>h (.inr (.inr (.inr (.inr (.inr hh)))));have h6:¬ c.cap<1:=fun hh=>h (.inr (.inr (.inl hh)));unfold mm at hok ⊢;rw[if_neg h]at hok ⊢;have nn:∀ {X:List aL},o7 [] X:=fun {X} j u hj=>by simp at hj
 have e0:∀ {a:Int}{n m:Nat},SB a [] [] n m=a:=by intro a n m;simp[SB,gG]
 have on:∀ {a:Int},kX [] [] a≤483:=by intro a;simp[kX,ml]
 have z0:(0:Int)≤0:=by decide
 have z1:(0:Int)≤281474976710654:=by decide
 refine⟨hok,by simp,by simp,by simp,by simp,z0,z0,z0,z0,z0,z0,z0,z0,nn,nn,?_,?_,on,on,?_,?_,?_,?_,?_,z0,z1,z0,.inl rfl,z1⟩
 ·show 0≤SB c.ours [] [] 0 0;rw[e0];omega
 ·show 0≤SB (c.cap-c.ours) [] [] 0 0;rw[e0];omega
 ·show 0≤c.ours;omega
 ·show 0≤c.cap-c.ours;omega
 ·show c.ours+(c.cap-c.ours)=c.cap;omega
 ·show c.cap≤_;omega
 ·show c.side=0\/c.side=1;omega
end Go.Esc.M
set_option linter.unusedSectionVars false
namespace Go.Esc
open Go Go.RowKit
def Qu (n:Nat) (G:ak) (v:ah) (vs:List ah):Prop:=
 (v=.nilSlice/\vs=[])\/∃ id k len cap cs,v=.slice id [] k (k*n) len cap/\G id=some (.own (.agg cs))/\k+cap≤cs.length/\len≤cap/\uni n cs=true/\vs=(cs.drop k).take len
theorem Qu.is {n:Nat}{G:ak}{v:ah}{vs:List ah}(h:Qu n G v vs):ff n G v vs:=by
 rcases h with h|⟨id,k,len,cap,cs,rfl,hg,hc,hl,hu,rfl⟩
 ·exact .inr h
 ·refine .inl ⟨_,_,_,_,_,_,rfl,?_⟩;have h1:lO G n id [] k (k*n)=some cs:=by simp[lO,nI,hg,mQ,sub,hu]
  simp only[gq,h1];rw[if_pos (by omega)]
theorem Qu.leaf {n:Nat}{G:ak}{v:ah}{vs:List ah}(h:Qu n G v vs):sz v=1/\v.isAgg=false/\okv v=true:=by
 rcases h with ⟨rfl,_⟩|⟨_,_,_,_,_,rfl,_⟩<;>exact⟨rfl,rfl,rfl⟩
theorem Qu.own {n:Nat}{G:ak}{v:ah}{vs:List ah}(h:Own n G v vs):Qu n G v vs:=by
 rcases h with h|⟨id,len,cap,cs,rfl,hg,hc,hl,hu,rfl⟩
 ·exact .inl h
 ·exact .inr ⟨id,0,len,cap,cs,by rw[Nat.zero_mul],hg,by omega,hl,hu,by rw[List.drop_zero]⟩
def QuL (n:Nat) (v:ah) (vs:List ah):LP where
 p:=fun G F=>Qu n G v vs/\F=(rowOf v).toList
 rows:=by
  rintro G F ⟨h,rfl⟩ j hj
  rcases h with ⟨rfl,_⟩|⟨id,k,len,cap,cs,rfl,hg,_⟩
  ·simp[rowOf]at hj
  ·simp[rowOf]at hj;subst hj;simp[hg]
 loc:=by
  rintro G G' F ⟨h,rfl⟩ hs
  refine⟨?_,rfl⟩
  rcases h with h|⟨id,k,len,cap,cs,rfl,hg,h⟩
  ·exact .inl h
  ·exact .inr ⟨id,k,len,cap,cs,rfl,by rw[hs id (by simp[rowOf])];exact hg,h⟩
section
variable {F0:List AId}{G0 G:ak}{ps:List LP}
theorem QuL.qu {i n:Nat}{v:ah}{vs:List ah}(h:Sp F0 G0 ps G) (hi:ps[i]?=some (QuL n v vs)):Qu n G v vs:=by
 obtain⟨F,h,_⟩:=h.get hi;exact h
theorem bm.qu {i n:Nat}{v:ah}{vs:List ah}(h:Sp F0 G0 ps G) (hi:ps[i]?=some (bm n v vs)):Sp F0 G0 (ps.set i (QuL n v vs)) G:=
 h.call hi (QuL n v vs) fun F ⟨ho,hF⟩ k=>k F G ⟨Qu.own ho,hF⟩ (Ch.refl _ _)
variable {T:Tbl}{ts e:TypeId}{si ie:TI} (ht:T ts=some si) (hd:si.desc=.slice e) (he:T e=some ie)
include ht hd he in
theorem Qu.rest {v x:ah}{vs:List ah}(h:Qu ie.size G v (x::vs)):∃ w,dV T ts v (some (.int .i64 1)) none none=some w/\Qu ie.size G w vs/\(rowOf w=rowOf v):=by
 rcases h with ⟨_,h⟩|⟨id,k,len,cap,cs,rfl,hg,hc,hl,hu,hv⟩
 ·cases h
 ·have hlen:1≤len:=by
   have:=congrArg List.length hv;rw[List.length_cons,List.length_take]at this;omega
  have h1:j8 len cap (some (.int .i64 1)) none none=some (1,len,cap):=by
   have:=qB (k:=.i64) (m:=1) (len:=len) (cap:=cap) hlen hl;simpa using this
  have e1:vs=(cs.drop (k+1)).take (len-1):=by
   obtain⟨m,rfl⟩:∃ m,len=m+1:=⟨len-1,by omega⟩;rw[List.drop_eq_getElem_cons (show k<cs.length by omega),List.take_succ_cons]at hv;injection hv with _ h2
  refine⟨.slice id [] (if cap=1 then k else k+1) (if cap=1 then k*ie.size else k*ie.size+1*ie.size) (len-1) (cap-1),?_,?_,rfl⟩
  ·simp only[dV,ht,hd,he,h1]
  ·by_cases hcm:cap=1
   ·rw[if_pos hcm,if_pos hcm];refine .inr ⟨id,k,len-1,cap-1,cs,rfl,hg,by omega,by omega,hu,?_⟩;rw[e1,show len-1=0 by omega,List.take_zero,List.take_zero]
   ·rw[if_neg hcm,if_neg hcm];exact .inr ⟨id,k+1,len-1,cap-1,cs,by rw[Nat.add_mul],hg,by omega,by omega,hu,e1⟩
variable (hz:sz ie.zero=ie.size) (hb:ie.bytes≠0)
include ht hd he hz hb in
theorem K9 {i:Nat}{s:ah}{vs:List ah}{c:ah}{K:ah->ak->Prop}(hs:Sp F0 G0 ps G) (hi:ps[i]?=some (QuL ie.size s vs)) (hc:sz c=ie.size) (hok:okv c=true) (hie:ie.size≤16777216) (hl:(vs.length+1)*ie.bytes≤140737488355328)
  (hK:∀ s' G',Sp F0 G0 (ps.set i (QuL ie.size s' (vs++[c]))) G'->K s' G'):bu T ts 1 [(0,c)] G fun v G'=>cn T G' ts ts s v K:=by
 refine Df ht hd he hz hs hc hie fun x G1 s1=>?_;have hx:=(bm.own (i:=0) s1 rfl).is.elems;have hi1:(bm ie.size x [c]::ps)[i+1]?=some (QuL ie.size s vs):=by simpa using hi
 have hq:=QuL.qu s1 hi1;have hu1:uni ie.size [c]=true:=by simp[Esc.uni,hc]
 have fin:∀ s' G2,Sp F0 G0 ((bm ie.size x [c]::ps).set (i+1) (QuL ie.size s' (vs++[c]))) G2->K s' G2:=fun s' G2 h=>hK s' G2 (by simpa using h.erase 0);refine⟨?_⟩;unfold rH;simp only[ht,hd,he,hx];refine⟨.inr ⟨e,rfl⟩,?_⟩;have hgrow:∀ olds:List ah,uni ie.size olds=true->olds=vs->grow ie G1 olds [c] K:=by
  intro olds huo ho;subst ho;refine⟨by simpa using hl,hb,fun id cap hf hle hcap=>fin _ _ ?_⟩;refine s1.call hi1 (QuL ie.size (.slice id [] 0 0 (olds.length+[c].length) cap) (olds++[c])) fun F h k=>k [id] _ ⟨.inr ⟨id,0,olds.length+1,cap,olds++[c]++List.replicate (cap-(olds.length+[c].length)) ie.zero,by simp,ak.dR _ _ _,by simp at hle ⊢;omega,by simpa using hle,mH (mH huo hu1) (nq hz),?_⟩,rfl⟩ ?_
  ·rw[List.drop_zero,List.take_left' (by simp)]
  ·obtain⟨_,rfl⟩:=h;exact⟨pa.of_le (hf.le _),fun j o hj _=>hf.le _ _ _ hj,fun j hj=>by simp at hj;subst hj;exact .inr hf.none⟩
 rcases hq with ⟨rfl,rfl⟩|⟨id,k,len,cap,cs,rfl,hg,hcap,hlc,hun,hv⟩
 ·exact hgrow [] rfl rfl
 ·have hvl:vs.length=len:=by rw[hv,List.length_take,List.length_drop];omega
  have harr:lO G1 ie.size id [] k (k*ie.size)=some cs:=by simp[lO,nI,hg,mQ,sub,hun]
  refine⟨fun hle=>?_,fun hlt=>?_⟩
  ·simp only[lay,harr];have hle:len+1≤cap:=(by simpa using hle);refine⟨by simp;omega,by simp[mz,hok],hu1,?_⟩;have hput:qS G1 id [] ie.size k (k*ie.size) (cs.take (k+len)++[c]++cs.drop (k+len+[c].length))=some (G1.upd id (.own (.agg (cs.take (k+len)++[c]++cs.drop (k+len+[c].length))))):=by
    simp[qS,hg,sub,putAt]
   rw[hput];refine fin _ _ (s1.call hi1 (QuL ie.size (.slice id [] k (k*ie.size) (len+[c].length) cap) (vs++[c])) fun F h k2=>?_);obtain⟨_,rfl⟩:=h;refine k2 _ _ ⟨.inr ⟨id,k,len+1,cap,_,by simp,ak.dR _ _ _,?_,hle,mH (mH (j0 hun _) hu1) (pY hun _),?_⟩,rfl⟩ (by simpa[rowOf] using Go.Esc.M.sZ hg (by simp))
   ·simp only[List.length_append,List.length_take,List.length_drop,List.length_singleton];omega
   ·have e1:cs.take (k+len)++[c]++cs.drop (k+len+[c].length)=cs.take k++(((cs.drop k).take len++[c])++cs.drop (k+len+[c].length)):=by
     rw[List.take_add];simp
    rw[e1,List.drop_left' (by rw[List.length_take];omega),hv,List.take_left'];rw[List.length_append,List.length_take,List.length_drop,List.length_singleton];omega
  ·have hse:gq G1 ie.size (.slice id [] k (k*ie.size) len cap)=some vs:=by
    simp only[gq,harr];rw[if_pos (by omega),hv]
   rw[hse];exact hgrow vs (by rw[hv];exact j0 (pY hun _) _) rfl
end
end Go.Esc
namespace Go.Esc.M
open Go Go.Esc
def bN (s:Bool):Nat:=bif s then 1 else 0
def bI (s:Bool):Int:=(bN s:Nat)
def mg {α:Type} (g:Bool->α) (s:Bool) (x:α):Bool->α:=fun t=>if t=s then x else g t
theorem ox {α:Type}(g:Bool->α) (s:Bool) (x:α):mg g s x s=x:=if_pos rfl
theorem qF {α:Type}(g:Bool->α) {s t:Bool}(x:α) (h:t≠s):mg g s x t=g t:=if_neg h
structure me where
 c:Bool->CfM
 f:Bool->StF
 q:Bool->List cr
structure Ls where
 o:ah
 p:ah
 h:ah
def Ls.lv (l:Ls):Prop:=bw l.o/\bw l.p/\bw l.h
def oU (t:me) (l:Bool->Ls) (w:Bool->ah):ah:=
 .agg [.agg [(t.c false).av,(t.c true).av],.agg [(t.f false).s.av (l false).o (l false).p (l false).h,(t.f true).s.av (l true).o (l true).p (l true).h],w false,w true]
abbrev nZ (tb:AId) (t:me) (l:Bool->Ls) (w:Bool->ah):List LP:=
 [au tb (oU t l w),bm 36 (l false).o ((t.f false).o.map aL.av),bm 36 (l false).p ((t.f false).p.map aL.av),bm 34 (l false).h ((t.f false).h.map b6.av),bm 36 (l true).o ((t.f true).o.map aL.av),bm 36 (l true).p ((t.f true).p.map aL.av),bm 34 (l true).h ((t.f true).h.map b6.av),
  QuL 70 (w false) ((t.q false).map cr.av),QuL 70 (w true) ((t.q true).map cr.av)]
structure kK (t:me) (n:Nat):Prop where
 c:∀ s,(t.c s).ok
 f:∀ s,iY (t.f s)
 q:∀ s,∀ m∈t.q s,m.ok
 n:∀ s,(t.q s).length≤n
def jP (tb:AId) (t:me):LP where
 p:=fun G F=>∃ l w Fs,Sps (nZ tb t l w) Fs G/\F=Fs.flatten
 rows:=by
  rintro G F ⟨l,w,Fs,h,rfl⟩
  exact h.rows
 loc:=by
  rintro G G' F ⟨l,w,Fs,h,rfl⟩ hs
  exact⟨l,w,Fs,h.same hs,rfl⟩
section
variable {F0:List AId}{G0 G:ak}{ps:List LP}{Q:ah->ak->Prop}{tb:AId}{t:me}{l:Bool->Ls}{w:Bool->ah}
theorem jP.open {F:List AId}(h:(jP tb t).p G F):∃ l w,Sp F G (nZ tb t l w) G:=by
 obtain⟨l,w,Fs,h,rfl⟩:=h;exact⟨l,w,Fs,h,Ch.refl _ _⟩
theorem Sp.with {p:LP}{F:List AId}(h:p.p G0 F) (s:Sp [] G0 ps G):Sp F G0 (p::ps) G:=by
 obtain⟨Fs,h1,h2⟩:=s;have hs:∀ j∈F,G j=G0 j:=fun j hj=>h2.same (E:=F) (p.rows h) (by simp) j hj;refine⟨F::Fs,⟨p.loc h hs,fun j hj hm=>?_,h1⟩,⟨h2.ro,fun j o hj _=>h2.others j o hj (by simp),fun j hj=>?_⟩⟩
 ·rcases h2.row j hm with h'|h'
  ·simp at h'
  ·have:=p.rows h j hj;rw[h']at this;cases this
 ·have hj:j∈F\/j∈Fs.flatten:=by simpa using hj
  rcases hj with hj|hj
  ·exact .inl hj
  ·rcases h2.row j hj with h'|h'
   ·simp at h'
   ·exact .inr h'
theorem LP.mv {p:LP}{F E:List AId}{G':ak}(h:p.p G F) (hc:Ch [] G E G'):p.p G' F:=p.loc h fun j hj=>hc.same (E:=F) (p.rows h) (by simp) j hj
structure pw (G:ak) (tb:AId) (t:me) (l:Bool->Ls) (w:Bool->ah):Prop where
 g:G tb=some (.own (oU t l w))
 lv:∀ s,(l s).lv
 lw:∀ s,bw (w s)
 o:∀ s,hJ 36 G (l s).o ((t.f s).o.map aL.av)
 p:∀ s,hJ 36 G (l s).p ((t.f s).p.map aL.av)
 h:∀ s,hJ 34 G (l s).h ((t.f s).h.map b6.av)
 q:∀ s,Qu 70 G (w s) ((t.q s).map cr.av)
theorem Sp.tab {i:Nat}(s:Sp F0 G0 ps G) (e:ps=nZ tb t l w):pw G tb t l w:=by
 subst e;have a1:=bm.own (i:=1) s rfl;have a2:=bm.own (i:=2) s rfl;have a3:=bm.own (i:=3) s rfl;have a4:=bm.own (i:=4) s rfl;have a5:=bm.own (i:=5) s rfl;have a6:=bm.own (i:=6) s rfl;have a7:=QuL.qu (i:=7) s rfl;have a8:=QuL.qu (i:=8) s rfl;refine⟨au.own (i:=0) s rfl,fun s=>?_,fun s=>?_,fun s=>?_,fun s=>?_,fun s=>?_,fun s=>?_⟩
 ·cases s
  ·exact⟨a1.leaf,a2.leaf,a3.leaf⟩
  ·exact⟨a4.leaf,a5.leaf,a6.leaf⟩
 ·cases s
  ·exact a7.leaf
  ·exact a8.leaf
 ·cases s
  ·exact Own.nj a1
  ·exact Own.nj a4
 ·cases s
  ·exact Own.nj a2
  ·exact Own.nj a5
 ·cases s
  ·exact Own.nj a3
  ·exact Own.nj a6
 ·cases s
  ·exact a7
  ·exact a8
theorem Qu.ch' {n:Nat}{G G':ak}{E:List AId}{v:ah}{vs:List ah}(h:Qu n G v vs) (hc:Ch [] G E G'):Qu n G' v vs:=by
 rcases h with h|⟨id,k,len,cap,cs,rfl,hg,h⟩
 ·exact .inl h
 ·exact .inr ⟨id,k,len,cap,cs,rfl,hc.others _ _ hg (by simp),h⟩
theorem pw.mv {G':ak}{E:List AId}(h:pw G tb t l w) (hc:Ch [] G E G'):pw G' tb t l w:=
 ⟨hc.others _ _ h.g (by simp),h.lv,h.lw,fun s=>(h.o s).mv hc.drop,fun s=>(h.p s).mv hc.drop,fun s=>(h.h s).mv hc.drop,fun s=>Qu.ch' (h.q s) hc⟩
theorem pw.IV {n:Nat}(h:pw G tb t l w) (k:kK t n) (s:Bool):ka G (t.f s) (l s).o (l s).p (l s).h:=by
 have I:=k.f s;have:=I.lo;have:=I.lp;have:=I.lh;exact⟨I.ok,h.o s,h.p s,h.h s,I.oko,I.okp,I.okh,by omega,by omega,by omega⟩
def aC (tb:AId) (s:Bool):ah:=.ptr tb [0,bN s] (0+bN s*164)
def aS (tb:AId) (s:Bool):ah:=.ptr tb [1,bN s] (328+bN s*115)
def aQ (tb:AId) (s:Bool):ah:=.ptr tb [2+bN s] (558+bN s)
theorem jm:lr (.ptr tb [] 0)=some (.ptr tb [] 0):=rfl
theorem qP:bt T bz (.ptr tb [] 0) 0=some (.ptr tb [0] 0):=rfl
theorem qO:bt T bz (.ptr tb [] 0) 1=some (.ptr tb [1] 328):=rfl
theorem CK:bt T bz (.ptr tb [] 0) 2=some (aQ tb false):=rfl
theorem CJ:bt T bz (.ptr tb [] 0) 3=some (aQ tb true):=rfl
theorem qN (s:Bool):aO T cJ (.ptr tb [0] 0) (.int .i64 (bI s))=some (aC tb s):=by cases s<;>rfl
theorem qM (s:Bool):aO T gQ (.ptr tb [1] 328) (.int .i64 (bI s))=some (aS tb s):=by cases s<;>rfl
section
variable {n:Nat} (h:pw G tb t l w) (k:kK t n)
include h k
theorem pw.szl:[ah.agg [(t.c false).av,(t.c true).av],.agg [(t.f false).s.av (l false).o (l false).p (l false).h,(t.f true).s.av (l true).o (l true).p (l true).h],w false,w true].map Esc.sz=[328,230,1,1]:=by
 simp[Esc.sz,szs,CfM.sz (k.c false),CfM.sz (k.c true),StM.sz (k.f false).ok (h.lv false),StM.sz (k.f true).ok (h.lv true),(h.lw false).1,(h.lw true).1]
theorem pw.szC:[(t.c false).av,(t.c true).av].map Esc.sz=[164,164]:=by simp[CfM.sz (k.c false),CfM.sz (k.c true)]
theorem pw.szS:[(t.f false).s.av (l false).o (l false).p (l false).h,(t.f true).s.av (l true).o (l true).p (l true).h].map Esc.sz=[115,115]:=by simp[StM.sz (k.f false).ok (h.lv false),StM.sz (k.f true).ok (h.lv true)]
theorem pw.ldC (s:Bool):ag T G bU (aC tb s)=some (t.c s).av:=by
 cases s
 ·exact ld2 h.g (h.szl k) rfl rfl (h.szC k) rfl rfl rfl kp (CfM.fits (k.c false))
 ·exact ld2 h.g (h.szl k) rfl rfl (h.szC k) rfl rfl rfl kp (CfM.fits (k.c true))
theorem pw.ldS (s:Bool):ag T G aE (aS tb s)=some ((t.f s).s.av (l s).o (l s).p (l s).h):=by
 cases s
 ·exact ld2 h.g (h.szl k) rfl rfl (h.szS k) rfl rfl rfl na (StM.fits (k.f false).ok (h.lv false))
 ·exact ld2 h.g (h.szl k) rfl rfl (h.szS k) rfl rfl rfl na (StM.fits (k.f true).ok (h.lv true))
theorem pw.ldQ (s:Bool):ag T G bR (aQ tb s)=some (w s):=by
 cases s
 ·exact ld1 h.g (h.szl k) rfl rfl gP (kF (h.lw false) rfl)
 ·exact ld1 h.g (h.szl k) rfl rfl gP (kF (h.lw true) rfl)
end
end
end Go.Esc.M
namespace Go.Esc
open Go Go.RowKit
theorem Sps.at_ {G:ak}:∀ {ps:List LP}{Fs:List (List AId)},Sps ps Fs G->∀ {i:Nat}{p:LP},ps[i]?=some p->∃ F,Fs[i]?=some F/\p.p G F
 | [],_,_,_,_,hi=>by simp at hi
 | _::_,[],h,_,_,_=>h.elim
 | q::ps,E::Fs,h,0,p,hi=>by
  simp at hi;subst hi;exact⟨E,rfl,h.1⟩
 | q::ps,E::Fs,h,i+1,p,hi=>by
  obtain⟨F,h1,h2⟩:=Sps.at_ h.2.2 (i:=i) (p:=p) (by simpa using hi);exact⟨F,by simpa using h1,h2⟩
theorem Aj {Fs:List (List AId)}{i:Nat}{F:List AId}(h:Fs[i]?=some F):∀ j∈F,j∈Fs.flatten:=fun j hj=>List.mem_flatten.2 ⟨F,List.mem_of_getElem? h,hj⟩
theorem Sps.dis {G:ak}:∀ {ps:List LP}{Fs:List (List AId)},Sps ps Fs G->∀ {i k:Nat}{F E:List AId},Fs[i]?=some F->Fs[k]?=some E->i≠k->∀ j∈F,j ∉ E
 | [],[],_,_,_,_,_,hi,_,_=>by simp at hi
 | [],_::_,h,_,_,_,_,_,_,_=>h.elim
 | _::_,[],h,_,_,_,_,_,_,_=>h.elim
 | q::ps,X::Fs,h,0,0,F,E,_,_,hne=>absurd rfl hne
 | q::ps,X::Fs,h,0,k+1,F,E,hi,hk,_=>by
  simp at hi;subst hi;intro j hj hm;exact h.2.1 j hj (Aj (i:=k) (by simpa using hk) j hm)
 | q::ps,X::Fs,h,i+1,0,F,E,hi,hk,_=>by
  simp at hk;subst hk;intro j hj hm;exact h.2.1 j hm (Aj (i:=i) (by simpa using hi) j hj)
 | q::ps,X::Fs,h,i+1,k+1,F,E,hi,hk,hne=>Sps.dis h.2.2 (i:=i) (k:=k) (by simpa using hi) (by simpa using hk) (by omega)
def sel {α:Type} (js:List Nat) (l:List α):List α:=js.filterMap fun j=>l[j]?
theorem Sps.pick {G:ak}{ps:List LP}{Fs:List (List AId)}(h:Sps ps Fs G):∀ {js:List Nat},js.Nodup->(∀ j∈js,j<ps.length)->Sps (sel js ps) (sel js Fs) G/\∀ x∈(sel js Fs).flatten,∃ j∈js,∃ F,Fs[j]?=some F/\x∈F
 | [],_,_=>⟨trivial,by simp[sel]⟩
 | j::js,hn,hl=>by
  obtain⟨hn1,hn2⟩:=List.nodup_cons.1 hn;obtain⟨ih1,ih2⟩:=Sps.pick h hn2 fun k hk=>hl k (by simp[hk]);obtain⟨p,hp⟩:∃ p,ps[j]?=some p:=⟨_,List.getElem?_eq_getElem (hl j (by simp))⟩;obtain⟨F,hF,hpF⟩:=h.at_ hp;have e1:sel (j::js) ps=p::sel js ps:=by simp[sel,hp]
  have e2:sel (j::js) Fs=F::sel js Fs:=by simp[sel,hF]
  rw[e1,e2];refine⟨⟨hpF,fun x hx hm=>?_,ih1⟩,fun x hx=>?_⟩
  ·obtain⟨k,hk,E,hE,hxE⟩:=ih2 x hm;exact h.dis hF hE (fun e=>hn1 (e▸hk)) x hx hxE
  ·have hx:x∈F\/x∈(sel js Fs).flatten:=(by simpa using hx);rcases hx with hx|hx
   ·exact⟨j,by simp,F,hF,hx⟩
   ·obtain⟨k,hk,E,hE,hxE⟩:=ih2 x hx;exact⟨k,by simp[hk],E,hE,hxE⟩
theorem Sps.cat {G:ak}:∀ {qs ps:List LP}{Gs Fs:List (List AId)},Sps qs Gs G->Sps ps Fs G->(∀ j∈Gs.flatten,j ∉ Fs.flatten)->Sps (qs++ps) (Gs++Fs) G
 | [],ps,[],Fs,_,h,_=>h
 | [],_,_::_,_,h,_,_=>h.elim
 | _::_,_,[],_,h,_,_=>h.elim
 | q::qs,ps,E::Gs,Fs,t,h,hd=>by
  obtain⟨t1,t2,t3⟩:=t;refine⟨t1,fun j hj hm=>?_,Sps.cat t3 h fun j hj=>hd j (by simp only[List.flatten_cons,List.mem_append];exact .inr hj)⟩;have hm:j∈(Gs++Fs).flatten:=hm;rw[List.flatten_append,List.mem_append]at hm;rcases hm with hm|hm
  ·exact t2 j hj hm
  ·exact hd j (by simp only[List.flatten_cons,List.mem_append];exact .inl hj) hm
theorem Sps.split {G:ak}:∀ {qs ps:List LP}{Fs:List (List AId)},Sps (qs++ps) Fs G->∃ Gs Es,Fs=Gs++Es/\Sps qs Gs G/\Sps ps Es G/\∀ j∈Gs.flatten,j ∉ Es.flatten
 | [],ps,Fs,h=>⟨[],Fs,rfl,trivial,h,by simp⟩
 | _::_,_,[],h=>h.elim
 | q::qs,ps,F::Fs,h=>by
  obtain⟨h1,h2,h3⟩:=h;obtain⟨Gs,Es,rfl,k1,k2,k3⟩:=Sps.split h3;refine⟨F::Gs,Es,rfl,⟨h1,fun j hj hm=>h2 j hj (by rw[List.flatten_append];exact List.mem_append.2 (.inl hm)),k1⟩,k2,fun j hj hm=>?_⟩;have hj:j∈F\/j∈Gs.flatten:=by simpa using hj
  rcases hj with hj|hj
  ·exact h2 j hj (by rw[List.flatten_append];exact List.mem_append.2 (.inr hm))
  ·exact k3 j hj hm
section
variable {F0:List AId}{G0 G:ak}{ps:List LP}
theorem Sp.pick (h:Sp F0 G0 ps G) (js:List Nat) (hn:js.Nodup) (hl:∀ j∈js,j<ps.length):Sp F0 G0 (sel js ps) G:=by
 obtain⟨Fs,h1,h2⟩:=h;obtain⟨k1,k2⟩:=h1.pick hn hl;refine⟨_,k1,h2.ro,h2.others,fun j hj=>h2.row j ?_⟩;obtain⟨k,_,F,hF,hm⟩:=k2 j hj;exact Aj hF j hm
end
end Go.Esc
namespace Go.Esc.M
open Go Go.Esc
section
variable {F0:List AId}{G0 G:ak}{ps:List LP}{Q:ah->ak->Prop}{tb:AId}{t:me}{l:Bool->Ls}{w:Bool->ah}
theorem Sp.BS (h:Sp F0 G0 (jP tb t::ps) G):∃ l w,Sp F0 G0 (nZ tb t l w++ps) G:=by
 obtain⟨Fs,h1,h2⟩:=h;cases Fs with
 | nil=>exact h1.elim
 | cons F Fs=>
  obtain⟨⟨l,w,Es,hE,rfl⟩,h3,h4⟩:=h1;refine⟨l,w,Es++Fs,Sps.cat hE h4 h3,h2.ro,h2.others,fun j hj=>h2.row j ?_⟩;rw[List.flatten_append]at hj;simpa using hj
theorem Sp.qW (h:Sp F0 G0 (nZ tb t l w++ps) G):Sp F0 G0 (jP tb t::ps) G:=by
 obtain⟨Fs,h1,h2⟩:=h;obtain⟨Gs,Es,rfl,k1,k2,k3⟩:=h1.split;refine⟨Gs.flatten::Es,⟨⟨l,w,Gs,k1,rfl⟩,k3,k2⟩,h2.ro,h2.others,fun j hj=>h2.row j ?_⟩;rw[List.flatten_append];simpa using hj
theorem Sp.DQ (s:Sp F0 G0 (nZ tb t l w++ps) G):pw G tb t l w:=by
 have a1:=bm.own (i:=1) s rfl;have a2:=bm.own (i:=2) s rfl;have a3:=bm.own (i:=3) s rfl;have a4:=bm.own (i:=4) s rfl;have a5:=bm.own (i:=5) s rfl;have a6:=bm.own (i:=6) s rfl;have a7:=QuL.qu (i:=7) s rfl;have a8:=QuL.qu (i:=8) s rfl;refine⟨au.own (i:=0) s rfl,fun s=>?_,fun s=>?_,fun s=>?_,fun s=>?_,fun s=>?_,fun s=>?_⟩
 ·cases s
  ·exact⟨a1.leaf,a2.leaf,a3.leaf⟩
  ·exact⟨a4.leaf,a5.leaf,a6.leaf⟩
 ·cases s
  ·exact a7.leaf
  ·exact a8.leaf
 ·cases s
  ·exact Own.nj a1
  ·exact Own.nj a4
 ·cases s
  ·exact Own.nj a2
  ·exact Own.nj a5
 ·cases s
  ·exact Own.nj a3
  ·exact Own.nj a6
 ·cases s
  ·exact a7
  ·exact a8
theorem jP.at_ {F:List AId}(h:(jP tb t).p G F):∃ l w,pw G tb t l w:=by
 obtain⟨l,w,s⟩:=jP.open h;exact⟨l,w,Sp.DQ (ps:=[]) (by simpa using s)⟩
def kq (t:me) (s:Bool) (f:StF):me:=⟨t.c,mg t.f s f,t.q⟩
def oW (t:me) (s:Bool) (q:List cr):me:=⟨t.c,t.f,mg t.q s q⟩
section
variable {n:Nat} (k:kK t n)
include k
theorem DT (h:Sp F0 G0 (nZ tb t l w++ps) G) (s:Bool) {x:ah}(hx:bw x) {K:ak->Prop}
  (hK:∀ G',Sp F0 G0 (au tb (oU t l (mg w s x))::((nZ tb t l w).drop 1++ps)) G'->K G'):wg (aF T G bR (aQ tb s) x) K:=by
 have a:=Sp.DQ h;cases s
 ·exact fg (st1 a.g (a.szl k) rfl rfl gP (kF hx rfl) (by rw[(a.lw false).1,hx.1]) hx.2.2) (hK _ (Sp.setRow (j:=0) h rfl (oU t l (mg w false x))))
 ·exact fg (st1 a.g (a.szl k) rfl rfl gP (kF hx rfl) (by rw[(a.lw true).1,hx.1]) hx.2.2) (hK _ (Sp.setRow (j:=0) h rfl (oU t l (mg w true x))))
theorem DS (h:Sp F0 G0 (nZ tb t l w++ps) G) (s:Bool) {f:StF}(hf:f.s.ok) {x:Ls}(hx:x.lv) {K:ak->Prop}
  (hK:∀ G',Sp F0 G0 (au tb (oU (kq t s f) (mg l s x) w)::((nZ tb t l w).drop 1++ps)) G'->K G'):wg (aF T G aE (aS tb s) (f.s.av x.o x.p x.h)) K:=by
 have a:=Sp.DQ h;cases s
 ·exact fg (st2 a.g (a.szl k) rfl rfl (a.szS k) rfl rfl rfl na (StM.fits hf hx) (by rw[StM.sz (k.f false).ok (a.lv false),StM.sz hf hx]) (StM.okv hx)) (hK _ (Sp.setRow (j:=0) h rfl (oU (kq t false f) (mg l false x) w)))
 ·exact fg (st2 a.g (a.szl k) rfl rfl (a.szS k) rfl rfl rfl na (StM.fits hf hx) (by rw[StM.sz (k.f true).ok (a.lv true),StM.sz hf hx]) (StM.okv hx)) (hK _ (Sp.setRow (j:=0) h rfl (oU (kq t true f) (mg l true x) w)))
end
theorem DR {s:Bool}{f:StF}{x:Ls}{i j m:Nat}{xs:List Nat}(h:Sp F0 G0 (au tb (oU (kq t s f) (mg l s x) w)::((nZ tb t l w).drop 1++ps)) G) (ho:ps[i]?=some (bm 36 x.o (f.o.map aL.av))) (hp:ps[j]?=some (bm 36 x.p (f.p.map aL.av))) (hh:ps[m]?=some (bm 34 x.h (f.h.map b6.av)))
  (hn:(i::j::m::xs).Nodup) (hl:∀ y∈xs,y<ps.length):Sp F0 G0 (jP tb (kq t s f)::sel xs ps) G:=by
 have li:=(List.getElem?_eq_some_iff.1 ho).1;have lj:=(List.getElem?_eq_some_iff.1 hp).1;have lm:=(List.getElem?_eq_some_iff.1 hh).1;have hlen:(au tb (oU (kq t s f) (mg l s x) w)::((nZ tb t l w).drop 1++ps)).length=9+ps.length:=by simp;omega
 have at9:∀ y,(au tb (oU (kq t s f) (mg l s x) w)::((nZ tb t l w).drop 1++ps))[9+y]?=ps[y]?:=by
  intro y;rw[show 9+y=(8+y)+1 by omega,List.getElem?_cons_succ,List.getElem?_append_right (by simp),];simp
 obtain⟨hn1,hn2⟩:=List.nodup_cons.1 hn;obtain⟨hn3,hn4⟩:=List.nodup_cons.1 hn2;obtain⟨hn5,hn6⟩:=List.nodup_cons.1 hn4;simp only[List.mem_cons,not_or]at hn1 hn3;have hsel:sel (xs.map (9+·)) (au tb (oU (kq t s f) (mg l s x) w)::((nZ tb t l w).drop 1++ps))=sel xs ps:=by
  unfold sel;rw[List.filterMap_map];congr 1;funext y;exact at9 y
 have hnx:(xs.map (9+·)).Nodup:=by
  unfold List.Nodup;rw[List.pairwise_map];exact List.Pairwise.imp (fun h e=>h (by omega)) hn6
 have hx9:∀ y∈xs.map (9+·),9≤y/\y<9+ps.length/\y≠9+i/\y≠9+j/\y≠9+m:=by
  intro y hy;obtain⟨z,hz,rfl⟩:=List.mem_map.1 hy;have:=hl z hz;refine⟨by omega,by omega,fun e=>?_,fun e=>?_,fun e=>?_⟩
  ·exact hn1.2.2 (by rwa [show i=z by omega])
  ·exact hn3.2 (by rwa [show j=z by omega])
  ·exact hn5 (by rwa [show m=z by omega])
 cases s
 ·have h2:=Sp.pick h (0::(9+i)::(9+j)::(9+m)::4::5::6::7::8::xs.map (9+·)) (by
   simp only[List.nodup_cons,List.mem_cons,not_or]
   refine⟨⟨by omega,by omega,by omega,by omega,by omega,by omega,by omega,by omega,fun hy=>?_⟩,⟨by omega,by omega,by omega,by omega,by omega,by omega,by omega,fun hy=>?_⟩,⟨by omega,by omega,by omega,by omega,by omega,by omega,fun hy=>?_⟩,⟨by omega,by omega,by omega,by omega,by omega,fun hy=>?_⟩,⟨by omega,by omega,by omega,by omega,fun hy=>?_⟩,⟨by omega,by omega,by omega,fun hy=>?_⟩,⟨by omega,by omega,fun hy=>?_⟩,⟨by omega,fun hy=>?_⟩,⟨fun hy=>?_,hnx⟩⟩<;>(have:=hx9 _ hy;omega)) (by
   intro y hy
   rw[hlen]
   simp only[List.mem_cons]at hy
   rcases hy with rfl|rfl|rfl|rfl|rfl|rfl|rfl|rfl|rfl|hy<;>first|omega|(have:=hx9 _ hy;omega))
  refine Sp.qW (l:=mg l false x) (w:=w) ?_;have e:sel (0::(9+i)::(9+j)::(9+m)::4::5::6::7::8::xs.map (9+·)) (au tb (oU (kq t false f) (mg l false x) w)::((nZ tb t l w).drop 1++ps))=nZ tb (kq t false f) (mg l false x) w++sel xs ps:=by
   rw[<- hsel];unfold sel;simp only[List.filterMap_cons,at9,ho,hp,hh];rfl
  rw[<- e];exact h2
 ·have h2:=Sp.pick h (0::1::2::3::(9+i)::(9+j)::(9+m)::7::8::xs.map (9+·)) (by
   simp only[List.nodup_cons,List.mem_cons,not_or]
   refine⟨⟨by omega,by omega,by omega,by omega,by omega,by omega,by omega,by omega,fun hy=>?_⟩,⟨by omega,by omega,by omega,by omega,by omega,by omega,by omega,fun hy=>?_⟩,⟨by omega,by omega,by omega,by omega,by omega,by omega,fun hy=>?_⟩,⟨by omega,by omega,by omega,by omega,by omega,fun hy=>?_⟩,⟨by omega,by omega,by omega,by omega,fun hy=>?_⟩,⟨by omega,by omega,by omega,fun hy=>?_⟩,⟨by omega,by omega,fun hy=>?_⟩,⟨by omega,fun hy=>?_⟩,⟨fun hy=>?_,hnx⟩⟩<;>(have:=hx9 _ hy;omega)) (by
   intro y hy
   rw[hlen]
   simp only[List.mem_cons]at hy
   rcases hy with rfl|rfl|rfl|rfl|rfl|rfl|rfl|rfl|rfl|hy<;>first|omega|(have:=hx9 _ hy;omega))
  refine Sp.qW (l:=mg l true x) (w:=w) ?_;have e:sel (0::1::2::3::(9+i)::(9+j)::(9+m)::7::8::xs.map (9+·)) (au tb (oU (kq t true f) (mg l true x) w)::((nZ tb t l w).drop 1++ps))=nZ tb (kq t true f) (mg l true x) w++sel xs ps:=by
   rw[<- hsel];unfold sel;simp only[List.filterMap_cons,at9,ho,hp,hh];rfl
  rw[<- e];exact h2
theorem sT {n:Nat}(k:kK t n) {s:Bool}{f:StF}(hf:iY f):kK (kq t s f) n:=
 ⟨k.c,fun r=>by
  by_cases h:r=s
  ·subst h;show iY (mg t.f r f r);rw[ox];exact hf
  ·show iY (mg t.f s f r);rw[qF _ _ h];exact k.f r,k.q,k.n⟩
theorem vD {n m:Nat}(k:kK t n) (hnm:n≤m) {s:Bool}{q:List cr}(hq:∀ x∈q,x.ok) (hl:q.length≤m):kK (oW t s q) m:=
 ⟨k.c,k.f,fun r=>by
  by_cases h:r=s
  ·subst h;show ∀ x∈mg t.q r q r,x.ok;rw[ox];exact hq
  ·show ∀ x∈mg t.q s q r,x.ok;rw[qF _ _ h];exact k.q r,fun r=>by
  by_cases h:r=s
  ·subst h;show (mg t.q r q r).length≤m;rw[ox];exact hl
  ·show (mg t.q s q r).length≤m;rw[qF _ _ h];exact Nat.le_trans (k.n r) hnm⟩
theorem ec.use {u:aL}(h:u.ok) (hQ:∀ G',Ch [] G [] G'->Q (GL u).av G'):al P ec.n [u.av] G Q:=by
 refine ec.sound ?_;unfold ec.S;rw[EW];intro i1 f1;have s1:=(Sp.nil G).row f1 u.av;intro i3 f3;have s3:=s1.row f3 cr.zero.av;obtain⟨u0,u1,u2,u3,u4,_⟩:=bF (i:=1) s3 rfl h;refine ae u0 ?_;refine ae u1 ?_;refine ae u2 ?_;refine ae u3 ?_;refine ae u4 ?_;refine ae (uo (r:=GL u) (fun p hp=>?_) rfl) ?_
 ·simp only[List.mem_cons,List.not_mem_nil,or_false]at hp;rcases hp with rfl|rfl|rfl|rfl|rfl
  ·rfl
  ·rfl
  ·rfl
  ·exact oJ h.hash
  ·rfl
 refine nK (i:=0) s3 rfl cr.bq (vY h) fun G11 s11=>?_;refine ae (cj eQ (au.own (i:=0) s11 rfl) (cr.fits (vY h))) ?_;exact hQ _ s11.ch
theorem dd.use {m:cr}(h:m.ok) (hQ:∀ G',Ch [] G [] G'->Q (Bw m).av G'):al P dd.n [m.av] G Q:=by
 refine dd.sound ?_;unfold dd.S;rw[Dq];intro i1 f1;have s1:=(Sp.nil G).row f1 m.av;intro i3 f3;have s3:=s1.row f3 aL.zero.av;obtain⟨m0,m1,m2,_,_,m5,_,m7,_⟩:=gx (i:=1) s3 rfl h;refine ae m0 ?_;refine ae m1 ?_;refine ae m2 ?_;refine ae m5 ?_;refine ae m7 ?_;refine ae ((kO (zs:=aL.zero.cs) dE rfl rfl rfl (pf rfl) fun p hp=>?_).trans (rfl:_=some (Bw m).av)) ?_
 ·simp only[List.mem_cons,List.not_mem_nil,or_false]at hp;rcases hp with rfl|rfl|rfl|rfl|rfl
  ·rfl
  ·rfl
  ·rfl
  ·exact oJ h.hash
  ·rfl
 refine jY (i:=0) s3 rfl aL.bq (vF h) fun G11 s11=>?_;refine ae (bF (i:=0) s11 rfl (vF h)).2.2.2.2.2 ?_;exact hQ _ s11.ch
theorem LV {s:Bool}{t:TypeId}:az T .eql t (.int .i64 (bI s)) (.int .i64 0)=some (.bool (!s)):=by cases s<;>rfl
theorem LU {s:Bool}{t:TypeId}:az T .eql t (.int .i64 (bI s)) (.int .i64 1)=some (.bool s):=by cases s<;>rfl
theorem cl.use {F:List AId}{n:Nat}{s:Bool}{m:cr}(h:(jP tb t).p G F) (k:kK t n) (hn:n≤100000000) (hm:m.ok) (hQ:∀ F' G',(jP tb (oW t (!s) (t.q (!s)++[m]))).p G' F'->Ch F G F' G'->Q (.tuple []) G') :
  al P cl.n [.ptr tb [] 0,.int .i64 (bI s),m.av] G Q:=by
 refine cl.sound ?_;unfold cl.S;intro i1 f1;have s1:=(Sp.nil G).row f1 m.av;obtain⟨l,w,s2⟩:=Sp.BS (Sp.with h s1);have a:=Sp.DQ s2;have hl:∀ r,(t.q r).length≤100000000:=fun r=>Nat.le_trans (k.n r) hn;have fin:∀ (w':Bool->ah) (G':ak),Sp F G (nZ tb (oW t (!s) (t.q (!s)++[m])) l w'++[au i1 m.av]) G'->Q (.tuple []) G':=by
  intro w' G' sp;have s5:=Sp.qW sp;have s6:Sp F G [jP tb (oW t (!s) (t.q (!s)++[m]))] G':=s5.erase 1;obtain⟨F',h1,h2⟩:=s6.out;exact hQ F' G' h1 h2
 rw[LV,aa];cases s
 ·rw[Bool.not_false,aN];refine ae jm ?_;refine ae CJ ?_;refine ae (a.ldQ k true) ?_;refine ae (gx (i:=9) s2 rfl hm).2.2.2.2.2.2.2.2 ?_;refine K9 (T:=T) (ts:=bR) (e:=aW) (si:=iJ) (ie:=il) (i:=8) gP rfl eQ rfl (by decide) s2 rfl (cr.sz hm) (cr.okv m) (by decide) (by rw[List.length_map];have:=hl true;simp only[il];omega) fun x G11 s11=>?_;refine ae jm ?_;refine ae CJ ?_;have hx:=(QuL.qu (i:=8) s11 rfl).leaf;have g11:=au.own (i:=0) s11 rfl;refine fg (st1 g11 (a.szl k) rfl rfl gP (kF hx rfl) (by rw[(a.lw true).1,hx.1]) hx.2.2) ?_;have s14:=Sp.setRow (j:=0) s11 rfl (oU t l (mg w true x));refine fin (mg w true x) _ ?_;have e:(t.q true).map cr.av++[m.av]=(t.q true++[m]).map cr.av:=by rw[List.map_append];rfl
  rw[e]at s14;exact s14
 ·rw[Bool.not_true,aK];refine ae jm ?_;refine ae CK ?_;refine ae (a.ldQ k false) ?_;refine ae (gx (i:=9) s2 rfl hm).2.2.2.2.2.2.2.2 ?_;refine K9 (T:=T) (ts:=bR) (e:=aW) (si:=iJ) (ie:=il) (i:=7) gP rfl eQ rfl (by decide) s2 rfl (cr.sz hm) (cr.okv m) (by decide) (by rw[List.length_map];have:=hl false;simp only[il];omega) fun x G11 s11=>?_;refine ae jm ?_;refine ae CK ?_;have hx:=(QuL.qu (i:=7) s11 rfl).leaf;have g11:=au.own (i:=0) s11 rfl;refine fg (st1 g11 (a.szl k) rfl rfl gP (kF hx rfl) (by rw[(a.lw false).1,hx.1]) hx.2.2) ?_;have s14:=Sp.setRow (j:=0) s11 rfl (oU t l (mg w false x));refine fin (mg w false x) _ ?_;have e:(t.q false).map cr.av++[m.av]=(t.q false++[m]).map cr.av:=by rw[List.map_append];rfl
  rw[e]at s14;exact s14
end
end Go.Esc.M
namespace Go.Esc
open Go Go.RowKit
section
variable {F0:List AId}{G0 G:ak}{ps:List LP}
theorem u9 {G':ak}{qs:List LP}(h:Sp F0 G0 ps G) (t:Sp [] G qs G'):Sp F0 G0 (qs++ps) G':=by
 obtain⟨Fs,h1,h2⟩:=h;obtain⟨Gs,t1,t2⟩:=t;refine⟨Gs++Fs,Sps.cat t1 (h1.same fun j hj=>t2.same (E:=Fs.flatten) h1.rows (by simp) j hj) fun j hj hm=>?_,h2.trans ?_⟩
 ·rcases t2.row j hj with h'|h'
  ·simp at h'
  ·have:=h1.rows j hm;rw[h']at this;cases this
 ·have:=t2.more (E:=Fs.flatten);simpa using this
end
end Go.Esc
namespace Go.Esc.M
open Go Go.Esc
section
variable {T:Tbl}{G:ak}{id:AId}{cs ds es:List ah}{ss ss2 ss3:List Nat}{k j m o o2 o3 oo:Nat}{c u:ah}{t:TypeId}{ti:TI}
theorem ld3 (hg:G id=some (.own (.agg cs))) (hs:cs.map sz=ss) (ho:(ss.take k).sum=o) (hc:cs[k]?=some (.agg ds)) (hs2:ds.map sz=ss2) (ho2:(ss2.take j).sum=o2) (hc2:ds[j]?=some (.agg es)) (hs3:es.map sz=ss3) (ho3:(ss3.take m).sum=o3) (hc3:es[m]?=some c)
  (hoo:o+(o2+o3)=oo) (ht:T t=some ti) (hf:dD ti c=true):ag T G t (.ptr id [k,j,m] oo)=some c:=by
 subst hoo;have e1:=pA hs ho;have e2:=pA hs2 ho2;have e3:=pA hs3 ho3;simp[ag,nI,hg,mQ,sub,e1,e2,e3,hc,hc2,hc3,ht,hf]
theorem st3 (hg:G id=some (.own (.agg cs))) (hs:cs.map sz=ss) (ho:(ss.take k).sum=o) (hc:cs[k]?=some (.agg ds)) (hs2:ds.map sz=ss2) (ho2:(ss2.take j).sum=o2) (hc2:ds[j]?=some (.agg es)) (hs3:es.map sz=ss3) (ho3:(ss3.take m).sum=o3) (hc3:es[m]?=some u)
  (hoo:o+(o2+o3)=oo) (ht:T t=some ti) (hf:dD ti c=true) (hsz:sz u=sz c) (hok:okv c=true) :
  aF T G t (.ptr id [k,j,m] oo) c=some (G.upd id (.own (.agg (cs.set k (.agg (ds.set j (.agg (es.set m c)))))))):=by
 subst hoo;have e1:=pA hs ho;have e2:=pA hs2 ho2;have e3:=pA hs3 ho3;simp[aF,hg,sub,e1,e2,e3,hc,hc2,hc3,ht,hf,hsz,hok,putAt]
end
def sL (c:CfM) (f f':StF) (r:RcM):List cr:=
 if r.kind=1 then [GL r.upd] else if r.kind=2 then [tI c f'] else if r.kind=3 then [qC c f.s.loc] else []
def uD (t:me) (s:Bool) (r:RcM) (f':StF):me:=oW (kq t s f') (!s) (t.q (!s)++sL (t.c s) (t.f s) f' r)
def yE (m:cr) (o:jj):cr:={ m with index:=IntKind.i64.wrap (m.index+o.index),hash:=if o.note=[98,101,110,100] then o.hash else m.hash }
theorem wE {m:cr}{o:jj}(h:m.ok) (ho:o.ok):(yE m o).ok:=by
 refine⟨h.kind,h.id,h.amount,LM _,h.next,?_,h.secret,h.note⟩;show (if o.note=[98,101,110,100] then o.hash else m.hash).length=32;split
 ·exact ho.hash
 ·exact h.hash
theorem EZ (t:me) (s:Bool):oW t s (t.q s)=t:=by
 have:mg t.q s (t.q s)=t.q:=by
  funext r;by_cases h:r=s
  ·subst h;rw[ox]
  ·rw[qF _ _ h]
 show (⟨t.c,t.f,mg t.q s (t.q s)⟩:me)=t;rw[this]
theorem I0 {c:CfM}{f f':StF}{r:RcM}(hc:c.ok) (hr:r.ok) (h:f.s.ok) (h':f'.s.ok):∀ m∈sL c f f' r,m.ok:=by
 intro m hm;unfold sL at hm;split at hm
 ·rw[List.mem_singleton.1 hm];exact vY hr.upd
 split at hm
 ·rw[List.mem_singleton.1 hm];exact xT h'
 split at hm
 ·rw[List.mem_singleton.1 hm];exact ve hc h.loc
 ·cases hm
theorem xn (c:CfM) (f f':StF) (r:RcM):(sL c f f' r).length≤1:=by
 unfold sL;split
 ·simp
 split
 ·simp
 split<;>simp
theorem CR {t:me}{n:Nat}(k:kK t n) {s:Bool}{r:RcM}{f':StF}(hr:r.ok) (I:iY f'):kK (uD t s r f') (n+1):=by
 refine vD (sT k I) (by omega) (fun m hm=>?_) ?_
 ·rcases List.mem_append.1 hm with hm|hm
  ·exact k.q _ m hm
  ·exact I0 (k.c s) hr (k.f s).ok I.ok m hm
 ·rw[List.length_append];have:=k.n (!s);have:=xn (t.c s) (t.f s) f' r;omega
section
variable {F0:List AId}{G0 G:ak}{ps:List LP}{Q:ah->ak->Prop}{tb:AId}{t:me}{l:Bool->Ls}{w:Bool->ah}
theorem KA {v:ah}{l:List cr}{j:Nat}{u:cr}(h:ff 70 G v (l.map cr.av)) (hj:l[j]?=some u):∃ a,aO T bR v (.int .i64 (j:Int))=some a/\ag T G aW a=some u.av:=
 h.at_ (k:=.i64) (i:=iJ) (ie:=il) (T:=T) (t:=bR) (e:=aW) gP rfl eQ (by rw[List.getElem?_map,hj];rfl) rfl
theorem Jf {v:ah}{l:List cr}(h:ff 70 G v (l.map cr.av)):fU T G bR v=some (.int .i64 (l.length:Nat)):=by
 rw[h.len (i:=iJ) gP rfl,List.length_map]
theorem Kh (s:Bool):bt T aE (aS tb s) 6=some (.ptr tb [1,bN s,6] (328+(bN s*115+6))):=by cases s<;>rfl
theorem pw.Mo {n:Nat}(h:pw G tb t l w) (k:kK t n) (s:Bool):ag T G aq (.ptr tb [1,bN s,6] (328+(bN s*115+6)))=some (.int .i64 (t.f s).s.loc):=by
 cases s
 ·exact ld3 h.g (h.szl k) rfl rfl (h.szS k) rfl rfl (StM.szl (k.f false).ok (h.lv false)) rfl rfl rfl cu rfl
 ·exact ld3 h.g (h.szl k) rfl rfl (h.szS k) rfl rfl (StM.szl (k.f true).ok (h.lv true)) rfl rfl rfl cu rfl
theorem II {l':Bool->Ls}{w':Bool->ah}(h:oU t l w=oU t l' w'):w=w':=by
 unfold oU at h;injection h with h;injection h with _ h;injection h with _ h;injection h with h1 h;injection h with h2 _;funext s;cases s
 ·exact h1
 ·exact h2
theorem b9.use {F:List AId}{n:Nat}{s:Bool}{r:RcM}{lu:List aL}{v:ah}{f':StF}(h:(jP tb t).p G F) (k:kK t n) (hn:n≤99999999) (hr:r.ok) (hv:bw v) (hl:ff 36 G v (lu.map aL.av)) (okl:∀ u∈lu,u.ok) (hll:lu.length≤4096)
  (ap:Bb (t.f s) r lu f') (I:iY f') (hQ:∀ F' G',(jP tb (uD t s r f')).p G' F'->Ch F G F' G'->Q (.tuple []) G') :
  al P b9.n [.ptr tb [] 0,.int .i64 (bI s),r.av v] G Q:=by
 refine b9.sound ?_;unfold b9.S;obtain⟨l,w,a⟩:=jP.at_ h;have J:=k.f s;have hlo:=J.lo;have hlp:=J.lp;intro i1 f1;have s1:=(Sp.nil G).row f1 (r.av v);refine ae jm ?_;refine ae qO ?_;refine ae (qM s) ?_;refine ae ((a.mv s1.ch).ldS k s) ?_;refine ae (Rc.ld (au.own (i:=0) s1 rfl) hr hv) ?_;refine dX.use ((a.mv s1.ch).IV k s) hr hv (hl.ch' s1.ch) okl hll (by omega) (by omega) J.lh ap fun wo wp wh G9 t9=>?_;have s9:Sp [] G [bm 34 wh (f'.h.map b6.av),bm 36 wp (f'.p.map aL.av),bm 36 wo (f'.o.map aL.av),au i1 (r.av v)] G9:=u9 s1 t9;have lx:Ls.lv ⟨wo,wp,wh⟩:=⟨(bm.own (i:=2) s9 rfl).leaf,(bm.own (i:=1) s9 rfl).leaf,(bm.own (i:=0) s9 rfl).leaf⟩;refine ae (tv0 _ _) ?_;refine ae (tv1 _ _) ?_;refine St.nw s9 I.ok lx fun i12 G14 s14=>?_;have s14:Sp [] G [au i12 (f'.s.av wo wp wh),bm 34 wh (f'.h.map b6.av),bm 36 wp (f'.p.map aL.av),bm 36 wo (f'.o.map aL.av),au i1 (r.av v)] G14:=s14;rw[dx,aa,Bool.not_true,aK];refine ae jm ?_;refine ae qO ?_;refine ae (qM s) ?_;refine ae (Kh s) ?_;refine ae ((a.mv s14.ch).Mo k s) ?_;refine ae (St.ld (au.own (i:=0) s14 rfl) I.ok lx) ?_;refine ae jm ?_;refine ae qO ?_;refine ae (qM s) ?_;obtain⟨l',w',S14⟩:=Sp.BS (Sp.with h s14);refine DS k S14 s I.ok (x:=⟨wo,wp,wh⟩) lx fun G25 s25=>?_;have hS:ka G25 f' wo wp wh:=by
  have b1:=bm.own (i:=12) s25 rfl;have b2:=bm.own (i:=11) s25 rfl;have b3:=bm.own (i:=10) s25 rfl;have:=I.lo;have:=I.lp;have:=I.lh;exact⟨I.ok,Own.nj b1,Own.nj b2,Own.nj b3,I.oko,I.okp,I.okh,by omega,by omega,by omega⟩
 have S25:=DR (ps:=[au i12 (f'.s.av wo wp wh),bm 34 wh (f'.h.map b6.av),bm 36 wp (f'.p.map aL.av),bm 36 wo (f'.o.map aL.av),au i1 (r.av v)]) (x:=⟨wo,wp,wh⟩) (i:=3) (j:=2) (m:=1) (xs:=[0,4]) s25 rfl rfl rfl (by decide) (by intro y hy;simp at hy ⊢;omega);have S25:Sp F G [jP tb (kq t s f'),au i12 (f'.s.av wo wp wh),au i1 (r.av v)] G25:=S25;have k':=sT k (s:=s) I;have hqq:(kq t s f').q=t.q:=rfl;have fin:∀ {G2:ak}{m:cr}{K:ah->ak->Prop},Sp F G [jP tb (kq t s f'),au i12 (f'.s.av wo wp wh),au i1 (r.av v)] G2->m.ok->sL (t.c s) (t.f s) f' r=[m]->(∀ F' G',(jP tb (uD t s r f')).p G' F'->Ch F G F' G'->K (.tuple []) G') ->
   al P cl.n [.ptr tb [] 0,.int .i64 (bI s),m.av] G2 K:=by
  intro G2 m K sp hm he hK;have ep:uD t s r f'=oW (kq t s f') (!s) ((kq t s f').q (!s)++[m]):=by unfold uD;rw[he];rfl
  refine sp.call (i:=0) rfl (jP tb (uD t s r f')) fun F1 h1 kk=>?_;refine cl.use h1 k' (by omega) hm fun F2 G3 h2 c2=>?_;rw[<- ep]at h2;have s3:=kk F2 G3 h2 c2;have s4:Sp F G [jP tb (uD t s r f')] G3:=(s3.erase 1).erase 1;obtain⟨F',q1,q2⟩:=s4.out;exact hK F' G3 q1 q2
 have hr1:=au.own (i:=2) S25 rfl;refine ae (Rc.sj hr1 hr hv) ?_;rw[bB,aa,aI];refine⟨fun hk=>?_,fun hk1=>?_⟩
 ·refine ae (Rc.Al hr1 hr hv) ?_;refine ec.use hr.upd fun G30 c30=>?_;exact fin (S25.tmp c30) (vY hr.upd) (by unfold sL;rw[if_pos hk]) hQ
 ·rw[bB,aa,aI];refine⟨fun hk=>?_,fun hk2=>?_⟩
  ·obtain⟨F1,hF1⟩:=S25.get (i:=0) rfl;obtain⟨l2,w2,a2⟩:=jP.at_ hF1;refine ae jm ?_;refine ae qP ?_;refine ae (qN s) ?_;refine ae (a2.ldC k' s) ?_;refine ae (St.ld (au.own (i:=1) S25 rfl) I.ok lx) ?_;refine ef.use hS I (k.c s) fun G40 c40=>?_;exact fin (S25.tmp c40) (xT I.ok) (by unfold sL;rw[if_neg hk1,if_pos hk];rfl) hQ
  ·rw[bB,aa,aI];refine⟨fun hk=>?_,fun hk3=>?_⟩
   ·obtain⟨F1,hF1⟩:=S25.get (i:=0) rfl;obtain⟨l2,w2,a2⟩:=jP.at_ hF1;refine ae jm ?_;refine ae qP ?_;refine ae (qN s) ?_;refine ae (a2.ldC k' s) ?_;refine dF.use (k.c s) fun G49 c49=>?_;exact fin (S25.tmp c49) (ve (k.c s) J.ok.loc) (by unfold sL;rw[if_neg hk1,if_neg hk2,if_pos hk];rfl) hQ
   ·have ep:uD t s r f'=kq t s f':=by
     unfold uD sL;rw[if_neg hk1,if_neg hk2,if_neg hk3,List.append_nil];exact EZ (kq t s f') (!s)
    rw[ep]at hQ;have s4:Sp F G [jP tb (kq t s f')] G25:=(S25.erase 1).erase 1;obtain⟨F',q1,q2⟩:=s4.out;exact hQ F' G25 q1 q2
theorem df.use {F:List AId}{n:Nat}{s:Bool}{o:jj}(h:(jP tb t).p G F) (k:kK t n) (hn:n≤99999999) (ho:o.ok) (hQ0:t.q s=[]->∀ G',Ch [] G [] G'->Q (.tuple [cr.zero.av,.bool false]) G')
  (hQ1:∀ m ms,t.q s=m::ms->∀ F' G',(jP tb (oW t s ms)).p G' F'->Ch F G F' G'->Q (.tuple [(yE m o).av,.bool true]) G') :
  al P df.n [.ptr tb [] 0,.int .i64 (bI s),o.av] G Q:=by
 refine df.sound ?_;unfold df.S;obtain⟨l,w,a⟩:=jP.at_ h;rw[EW];intro i1 f1;have s1:=(Sp.nil G).row f1 o.av;intro i3 f3;have s3:=s1.row f3 cr.zero.av;revert s3;generalize ak.upd _ i3 _=G4;intro s3;rw[<- EW];have a4:=a.mv s3.ch;refine ae jm ?_;refine ae CK ?_;refine ae (a4.ldQ k false) ?_;rw[LU,aa];intro J53;have go:J53 (w s) G4:=by
  simp -zeta only [J53];have hq:=a4.q s;have hls:=k.n s;refine ae (Jf hq.is) ?_;rw[bB,aa,aI];refine⟨fun h0=>?_,fun h0=>?_⟩
  ·have he:t.q s=[]:=List.length_eq_zero_iff.1 (by omega);refine ae (v:=cr.zero.av) rfl ?_;refine nK (i:=0) s3 rfl cr.bq cr.bq fun G17 s17=>?_;refine ae (cj eQ (au.own (i:=0) s17 rfl) (cr.fits cr.bq)) ?_;exact hQ0 he _ s17.ch
  ·obtain⟨m,ms,he⟩:∃ m ms,t.q s=m::ms:=by
    cases hc:t.q s with
    | nil=>rw[hc]at h0;exact absurd rfl h0
    | cons m ms=>exact⟨m,ms,rfl⟩
   have hm:m.ok:=k.q s m (by rw[he];simp);obtain⟨p,p1,p2⟩:=KA (j:=0) (u:=m) hq.is (by rw[he];rfl);refine ae p1 ?_;refine ae p2 ?_;refine Kz s3 hm fun i21 G23 s23=>?_;have s23:Sp [] G [au i21 m.av,au i3 cr.zero.av,au i1 o.av] G23:=s23;rw[aa];have hQ1:=hQ1 m ms he;intro J52;have last:∀ G33,Sp F G [jP tb (oW t s ms),au i21 m.av,au i3 cr.zero.av,au i1 o.av] G33->J52 G33:=by
    intro G33 S33;simp -zeta only [J52];refine ae (gx (i:=1) S33 rfl hm).2.2.2.1 ?_;refine ae (Oq.ni (au.own (i:=3) S33 rfl) ho) ?_;rw[bg,aa];refine HM _ (i:=1) S33 rfl fun G37 S37=>?_;have hm1:({ m with index:=IntKind.i64.wrap (m.index+o.index) }:cr).ok:=⟨hm.kind,hm.id,hm.amount,LM _,hm.next,hm.hash,hm.secret,hm.note⟩;have fin:∀ {G2:ak}{x:cr},Sp F G [jP tb (oW t s ms),au i21 x.av,au i3 cr.zero.av,au i1 o.av] G2->x=yE m o->wv (ag T G2 aW (.ptr i21 [] 0)) fun v46=>wg (aF T G2 aW (.ptr i3 [] 0) v46) fun G47=>wv (ag T G47 aW (.ptr i3 [] 0)) fun v48=>Q (.tuple [v48,.bool true]) G47:=by
     intro G2 x S2 hx;have hxo:x.ok:=(by rw[hx];exact wE hm ho);refine ae (gx (i:=1) S2 rfl hxo).2.2.2.2.2.2.2.2 ?_;refine nK (i:=2) S2 rfl cr.bq hxo fun G47 S47=>?_;refine ae (cj eQ (au.own (i:=2) S47 rfl) (cr.fits hxo)) ?_;rw[hx];have S48:Sp F G [jP tb (oW t s ms)] G47:=((S47.erase 1).erase 1).erase 1;obtain⟨F',q1,q2⟩:=S48.out;exact hQ1 F' G47 q1 q2
    refine ae (Oq.zc (au.own (i:=3) S37 rfl) ho) ?_;rw[pL,aa,aI];refine⟨fun hb=>?_,fun hb=>?_⟩
    ·refine ae (Oq.sk (au.own (i:=3) S37 rfl) ho) ?_;refine Jg ho.hash hm1 (i:=1) S37 rfl fun G41 S41=>?_;exact fin S41 (by unfold yE;rw[if_pos hb])
    ·exact fin S37 (by unfold yE;rw[if_neg hb])
   obtain⟨l',w',S23⟩:=Sp.BS (Sp.with h s23);have ew:w=w':=by
    have g1:=(a.mv s23.ch).g;have g2:=(Sp.DQ S23).g;rw[g1]at g2;injection g2 with g2;injection g2 with g2;exact II g2
   subst ew;have hq23:=(Sp.DQ S23).q s;rw[he]at hq23;obtain⟨x,x1,x2,x3⟩:=Qu.rest (T:=T) (ts:=bR) (e:=aW) (si:=iJ) (ie:=il) (vs:=ms.map cr.av) gP rfl eQ hq23;have lx:=x2.leaf;cases s
   ·rw[aK];refine ae x1 ?_;refine ae jm ?_;refine ae CK ?_;refine DT k S23 false lx fun G28 S28=>?_;refine last _ ?_;have S29:=S28.call (i:=7) rfl (QuL 70 x (ms.map cr.av)) (X:=Sp F G (au tb (oU t l' (mg w false x))::(((nZ tb t l' w).drop 1++[au i21 m.av,au i3 cr.zero.av,au i1 o.av]).set 6 (QuL 70 x (ms.map cr.av)))) G28) fun F1 hF1 kk=>by
     obtain⟨qq,rfl⟩:=hF1;rw[he]at qq;obtain⟨y,y1,y2,y3⟩:=Qu.rest (T:=T) (ts:=bR) (e:=aW) (si:=iJ) (ie:=il) (vs:=ms.map cr.av) gP rfl eQ qq;rw[x1]at y1;injection y1 with y1;subst y1;exact kk _ G28 ⟨y2,rfl⟩ (by rw[y3];exact Ch.refl _ _)
    exact Sp.qW (t:=oW t false ms) (l:=l') (w:=mg w false x) S29
   ·rw[aN];refine ae x1 ?_;refine ae jm ?_;refine ae CJ ?_;refine DT k S23 true lx fun G28 S28=>?_;refine last _ ?_;have S29:=S28.call (i:=8) rfl (QuL 70 x (ms.map cr.av)) (X:=Sp F G (au tb (oU t l' (mg w true x))::(((nZ tb t l' w).drop 1++[au i21 m.av,au i3 cr.zero.av,au i1 o.av]).set 7 (QuL 70 x (ms.map cr.av)))) G28) fun F1 hF1 kk=>by
     obtain⟨qq,rfl⟩:=hF1;rw[he]at qq;obtain⟨y,y1,y2,y3⟩:=Qu.rest (T:=T) (ts:=bR) (e:=aW) (si:=iJ) (ie:=il) (vs:=ms.map cr.av) gP rfl eQ qq;rw[x1]at y1;injection y1 with y1;subst y1;exact kk _ G28 ⟨y2,rfl⟩ (by rw[y3];exact Ch.refl _ _)
    exact Sp.qW (t:=oW t true ms) (l:=l') (w:=mg w true x) S29
 cases s
 ·rw[aK];exact go
 ·rw[aN];refine ae jm ?_;refine ae CJ ?_;refine ae (a4.ldQ k true) ?_;exact go
end
end Go.Esc.M
namespace Go.Esc.M
open Go Go.Esc
def zg:StF:=⟨StM.zero,[],[],[]⟩
theorem iY.zero:iY zg:=by
 have nn:∀ {X:List aL},o7 [] X:=fun {X} j u hj=>by simp at hj
 have e0:∀ {a:Int}{n m:Nat},SB a [] [] n m=a:=by intro a n m;simp[SB,gG]
 have on:∀ {a:Int},kX [] [] a≤483:=by intro a;simp[kX,ml]
 have z0:(0:Int)≤0:=by decide
 have z1:(0:Int)≤281474976710654:=by decide
 have z2:(0:Int)≤1152921504606846976:=by decide
 refine⟨StM.bq,by simp[zg],by simp[zg],by simp[zg],by simp[zg],z0,z0,z0,z0,z0,z0,z0,z0,nn,nn,?_,?_,on,on,z0,z0,rfl,z2,.inl rfl,z0,z1,z0,.inl rfl,z1⟩
 ·show 0≤SB 0 [] [] 0 0;rw[e0];omega
 ·show 0≤SB 0 [] [] 0 0;rw[e0];omega
def AL (d:DlM) (s:Bool):CfM:=bif s then FV d else FW d
theorem Db {d:DlM}(h:d.ok) (s:Bool):(AL d s).ok:=by
 cases s
 ·exact Dd h
 ·exact Dc h
def tc (c:CfM):StF:=⟨(mm c).1,[],[],[]⟩
def EI (c:Bool->CfM):me:=⟨c,fun _=>zg,fun _=>[]⟩
def LS (c:Bool->CfM):me:=⟨c,fun s=>tc (c s),fun _=>[]⟩
def Ig (d:DlM):me:=LS (AL d)
theorem Hk {c:Bool->CfM}(h:∀ s,(c s).ok):kK (EI c) 0:={ c:=h,f:=fun _=>iY.zero,q:=fun s m hm=>absurd hm List.not_mem_nil,n:=fun s=>Nat.le_refl 0 }
theorem KV {c:Bool->CfM}(h:∀ s,(c s).ok) (hb:∀ s,¬ nF (c s)):kK (LS c) 0:={ c:=h,f:=fun s=>iY.start (h s) (hb s),q:=fun s m hm=>absurd hm List.not_mem_nil,n:=fun s=>Nat.le_refl 0 }
theorem KU {d:DlM}(h:d.ok) (hb:∀ s,¬ nF (AL d s)):kK (Ig d) 0:=KV (Db h) hb
theorem KW (c:Bool->CfM):kq (kq (EI c) false (tc (c false))) true (tc (c true))=LS c:=by
 show (⟨c,mg (mg (fun _=>zg) false (tc (c false))) true (tc (c true)),fun _=>[]⟩:me)=⟨c,fun s=>tc (c s),fun _=>[]⟩;congr 1;funext s;cases s<;>rfl
def GK:Bool->Ls:=fun _=>⟨.nilSlice,.nilSlice,.nilSlice⟩
def Kw:Bool->ah:=fun _=>.nilSlice
theorem Ib {c:Bool->CfM}(hc:∀ s,(c s).ok):bj T bz [(0,nU (c false) (c true))]=some (oU (EI c) GK Kw):=by
 have hcz:Esc.sz (nU (c false) (c true))=Esc.sz (nU CfM.zero CfM.zero):=by
  simp[nU,Esc.sz,szs,CfM.sz (hc false),CfM.sz (hc true),CfM.sz CfM.bq]
 refine (kO (zs:=[nU CfM.zero CfM.zero,.agg [StM.zero.av .nilSlice .nilSlice .nilSlice,StM.zero.av .nilSlice .nilSlice .nilSlice],.nilSlice,.nilSlice]) uG rfl rfl rfl (pf rfl) fun p hp=>?_).trans rfl;rw[List.mem_singleton.1 hp];exact congrArg some hcz.symm
section
variable {F0:List AId}{G0 G:ak}{ps:List LP}{Q:ah->ak->Prop}{tb:AId}{t:me}{l:Bool->Ls}{w:Bool->ah}
theorem Ky {c:Bool->CfM}{K:AId->ak->Prop}(h:Sp F0 G0 ps G) (hK:∀ i G',Sp F0 G0 (jP i (EI c)::ps) G'->K i G'):br G (.own (oU (EI c) GK Kw)) K:=by
 intro i f;have s7:=((((((((h.nz 70).nz 70).nz 34).nz 36).nz 36).nz 34).nz 36).nz 36).row f (oU (EI c) GK Kw);have s8:=bm.qu (i:=7) s7 rfl;have s9:=bm.qu (i:=8) s8 rfl;exact hK i _ (Sp.qW (t:=EI c) (l:=GK) (w:=Kw) (ps:=ps) s9)
theorem AX {tb:AId}{c:Bool->CfM}{t:me}{s:Bool}{K:ak->Prop}{R:ak->Prop}(h:Sp F0 G0 [jP tb t] G) (k:kK t 0) (hco:(c s).ok) (hc:t.c s=c s)
  (bad:nF (c s)->∀ i G',Sp F0 G0 [au i ((mm (c s)).1.av .nilSlice .nilSlice .nilSlice),jP tb t] G'->K G')
  (lK:¬ nF (c s)->∀ G',Sp F0 G0 [jP tb (kq t s (tc (c s)))] G'->R G') :
  wv (lr (.ptr tb [] 0)) fun v14=>wv (bt T bz v14 0) fun v15=>wv (aO T cJ v15 (.int .i64 (bI s))) fun v16=>wv (ag T G bU v16) fun v17=>al P dK.n [v17] G fun v18 G19=>wv (aP v18 0) fun v20=>wv (aP v18 1) fun v21=>br G19 (.own (hO)) fun i22 G23=>wg (aF T G23 aE (.ptr i22 [] 0) v20) fun G24=>wv (az T .neq bD v21 (.int .i64 0)) fun v25=>brB (some v25)
 (K G24)
 (wv (ag T G24 aE (.ptr i22 [] 0)) fun v26=>wv (lr (.ptr tb [] 0)) fun v27=>wv (bt T bz v27 1) fun v28=>wv (aO T gQ v28 (.int .i64 (bI s))) fun v29=>wg (aF T G24 aE v29 v26) fun G30=>R G30):=by
 obtain⟨F1,hF1⟩:=h.get (i:=0) rfl;obtain⟨l,w,a⟩:=jP.at_ hF1;refine ae jm ?_;refine ae qP ?_;refine ae (qN s) ?_;refine ae (a.ldC k s) ?_;rw[hc];have hok:=pN hco;have hes:(mm (c s)).2=if nF (c s) then 1 else 0:=by unfold mm;split<;>rfl
 have hf:tc (c s)=⟨(mm (c s)).1,[],[],[]⟩:=rfl;rw[hf]at lK;refine dK.use hco fun G19 c19=>?_;have S19:Sp F0 G0 [jP tb t] G19:=h.tmp c19;generalize mm (c s)=X at hok hes lK bad;obtain⟨X,e⟩:=X;simp only at hok hes lK bad;refine ae (tv0 _ _) ?_;refine ae (tv1 _ _) ?_;refine St.nw S19 hok lv0 fun i22 G24 s24=>?_;rw[cD,aa,dC];refine⟨fun h0=>?_,fun h0=>?_⟩
 ·refine bad ?_ i22 G24 s24;refine Classical.byContradiction fun hn=>h0 ?_;rw[if_neg hn]at hes;exact hes
 ·have hn:¬ nF (c s):=by
   intro hh;have h0:e=0:=h0;rw[if_pos hh,h0]at hes;exact absurd hes (by decide)
  refine ae (St.ld (au.own (i:=0) s24 rfl) hok lv0) ?_;refine ae jm ?_;refine ae qO ?_;refine ae (qM s) ?_;have s25:=Sp.pick (((s24.nz 34).nz 36).nz 36) [4,0,1,2] (by decide) (by intro y hy;simp at hy ⊢;omega);have s25:Sp F0 G0 [jP tb t,bm 36 .nilSlice [],bm 36 .nilSlice [],bm 34 .nilSlice []] G24:=s25;obtain⟨l',w',S25⟩:=Sp.BS s25;refine DS k S25 s (f:=⟨X,[],[],[]⟩) hok (x:=⟨.nilSlice,.nilSlice,.nilSlice⟩) lv0 fun G30 s30=>?_;have S30:=DR (f:=⟨X,[],[],[]⟩) (ps:=[bm 36 .nilSlice [],bm 36 .nilSlice [],bm 34 .nilSlice []]) (x:=⟨.nilSlice,.nilSlice,.nilSlice⟩) (i:=0) (j:=1) (m:=2) (xs:=[]) s30 rfl rfl rfl (by decide) (by intro y hy;cases hy);exact lK hn G30 S30
theorem fC.use {d:DlM}(hd:d.ok) (hQ0:(∃ s,nF (AL d s))->∀ G',Ch [] G [] G'->Q (.tuple [.nilPtr,.bool false]) G')
  (hQ1:(∀ s,¬ nF (AL d s))->∀ tb G',Sp [] G [jP tb (Ig d)] G'->Q (.tuple [.ptr tb [] 0,.bool true]) G'):al P fC.n [d.av] G Q:=by
 refine fC.sound ?_;unfold fC.S;intro i1 f1;have s1:=(Sp.nil G).row f1 d.av;refine ae (Dl.ld (au.own (i:=0) s1 rfl) hd) ?_;refine cQ.use hd fun G5 c5=>?_;have s5:Sp [] G [au i1 d.av] G5:=s1.tmp c5;have hok:=Db hd;unfold Ig at hQ1;have e0:FW d=AL d false:=rfl;have e1:FV d=AL d true:=rfl;rw[e0,e1];clear e0 e1;generalize AL d=c at *;refine ae (Ib hok) ?_;refine Ky s5 fun i7 G8 S8=>?_;have S8:Sp [] G [jP i7 (EI c)] G8:=S8.erase 1;intro R9 hR;refine hR _ _ _ ?_;rw[aM,aa,dT_ (by decide),aN];refine AX (s:=false) (R:=fun G30=>wv (az T .add ay (.int .i64 0) (.int .i64 1)) fun v31=>R9 [.ptr i7 [] 0,v31] G30) S8 (Hk hok) (hok false) rfl (fun h i G' s=>hQ0 ⟨_,h⟩ G' s.ch) fun h0 G2 S2=>?_;rw[bg,i64_in (by decide) (by decide),aa];refine hR _ _ _ ?_;rw[aM,aa,dT_ (by decide),aN];refine AX (s:=true) (R:=fun G30=>wv (az T .add ay (.int .i64 1) (.int .i64 1)) fun v31=>R9 [.ptr i7 [] 0,v31] G30) S2 (sT (Hk hok) (iY.start (hok false) h0)) (hok true) rfl (fun h i G' s=>hQ0 ⟨_,h⟩ G' s.ch) fun h1 G3 S3=>?_;rw[KW]at S3;rw[bg,i64_in (by decide) (by decide),aa];refine hR _ _ _ ?_;rw[aM,aa,dF_ (by decide),aK];exact hQ1 (fun s=>by cases s;exact h0;exact h1) i7 G3 S3
def lD (f:StF) (o:jj):RcM×Int:=
 if o.kind=1 then n8 f o.amount o.hash else if o.kind=2 then j4 f ⟨2,o.id,0,o.hash,[]⟩ else if o.kind=3 then j4 f ⟨3,o.id,0,h0,o.note⟩ else if o.kind=4 then p6 f else noR 1
theorem zok:RcM.zero.ok:=RcM.bq
theorem Jd {f:StF}{a:Int}{h:List UInt8}(h0:(n8 f a h).2≠0):(n8 f a h).1=RcM.zero:=by
 unfold n8 at h0 ⊢;split
 ·rfl
 split
 ·rfl
 split
 ·rfl
 split
 ·rfl
 split
 ·rfl
 ·rename_i h1 h2 h3 h4 h5;rw[if_neg h1,if_neg h2,if_neg h3,if_neg h4,if_neg h5]at h0;exact absurd rfl h0
theorem Ko {f:StF}(h0:(p6 f).2≠0):(p6 f).1=RcM.zero:=by
 unfold p6 at h0 ⊢;split
 ·rfl
 split
 ·rfl
 split
 ·rfl
 ·rename_i h1 h2 h3;rw[if_neg h1,if_neg h2,if_neg h3]at h0;exact absurd rfl h0
theorem Fq {f:StF}{m:cr}(h0:(jR f m).2≠0):(jR f m).1=RcM.zero:=by
 unfold jR at h0 ⊢;split
 ·rfl
 split
 ·rfl
 split
 ·rfl
 split
 ·rfl
 split
 ·rfl
 ·rename_i h1 h2 h3 h4 h5;rw[if_neg h1,if_neg h2,if_neg h3,if_neg h4,if_neg h5]at h0;exact absurd rfl h0
theorem Hf {c:CfM}{f:StF}{m:cr}(h0:(mU c f m).e≠0):(mU c f m).r=RcM.zero/\(mU c f m).l=[]:=by
 unfold mU at h0 ⊢;split
 ·exact⟨rfl,rfl⟩
 split
 ·exact⟨rfl,rfl⟩
 split
 ·exact⟨rfl,rfl⟩
 split
 ·exact⟨rfl,rfl⟩
 split
 ·exact⟨rfl,rfl⟩
 ·rename_i h1 h2 h3 h4 h5;rw[if_neg h1,if_neg h2,if_neg h3,if_neg h4,if_neg h5]at h0;exact absurd rfl h0
theorem IB {o:jj}(ho:o.ok):(⟨2,o.id,0,o.hash,[]⟩:aL).ok:=⟨iu 2 (by decide) (by decide),ho.id,cL,ho.hash,by simp⟩
theorem Iy {o:jj}(ho:o.ok):(⟨3,o.id,0,h0,o.note⟩:aL).ok:=⟨iu 3 (by decide) (by decide),ho.id,cL,rfl,ho.note⟩
theorem Gr (i:Int) (h:List UInt8):dp ⟨2,i,0,h,[]⟩=true\/64<(⟨2,i,0,h,[]⟩:aL).note.length\/(⟨2,i,0,h,[]⟩:aL).id<0\/2048≤(⟨2,i,0,h,[]⟩:aL).id:=by
 show dp ⟨2,i,0,h,[]⟩=true\/64<([]:List UInt8).length\/i<0\/2048≤i;by_cases h1:i<0
 ·exact .inr (.inr (.inl h1))
 by_cases h2:2048≤i
 ·exact .inr (.inr (.inr h2))
 refine .inl ?_;unfold dp;simp;omega
theorem Gq (i:Int) (n:List UInt8):dp ⟨3,i,0,h0,n⟩=true\/64<(⟨3,i,0,h0,n⟩:aL).note.length\/(⟨3,i,0,h0,n⟩:aL).id<0\/2048≤(⟨3,i,0,h0,n⟩:aL).id:=by
 show dp ⟨3,i,0,h0,n⟩=true\/64<n.length\/i<0\/2048≤i;by_cases h1:i<0
 ·exact .inr (.inr (.inl h1))
 by_cases h2:2048≤i
 ·exact .inr (.inr (.inr h2))
 by_cases h3:64<n.length
 ·exact .inr (.inl h3)
 refine .inl ?_;unfold dp;simp;omega
theorem iY.call {f:StF}(I:iY f) {o:jj}(ho:o.ok) (h0:(lD f o).2=0):∃ f',iY f'/\(lD f o).1.ok/\Bb f (lD f o).1 [] f':=by
 unfold lD at h0 ⊢;split at h0
 ·rename_i h1;rw[if_pos h1];obtain⟨u,e,hu,_,hs,ha,_⟩:=I.offer ho.hash h0;rw[e];exact⟨_,hs,iR hu,ha⟩
 rename_i h1;rw[if_neg h1];split at h0
 ·rename_i h2;rw[if_pos h2];obtain⟨e,hs,ha⟩:=I.y9 (IB ho) (Gr _ _) (by show (2:Int)≠1;decide) h0;rw[e];exact⟨_,hs,iR (IB ho),ha⟩
 rename_i h2;rw[if_neg h2];split at h0
 ·rename_i h3;rw[if_pos h3];obtain⟨e,hs,ha⟩:=I.y9 (Iy ho) (Gq _ _) (by show (3:Int)≠1;decide) h0;rw[e];exact⟨_,hs,iR (Iy ho),ha⟩
 rename_i h3;rw[if_neg h3];split at h0
 ·rename_i h4;rw[if_pos h4];obtain⟨e,hr,hs,ha,_⟩:=I.sign h0;rw[e];exact⟨_,hs,hr,ha⟩
 ·cases h0
theorem zS {f:StF}{u:aL}(h0:(j4 f u).2≠0):(j4 f u).1=RcM.zero:=by
 unfold j4 at h0 ⊢;split
 ·rfl
 split
 ·rfl
 split
 ·rfl
 ·rename_i h1 h2 h3;rw[if_neg h1,if_neg h2,if_neg h3]at h0;exact absurd rfl h0
theorem KT {f:StF}{o:jj}(h0:(lD f o).2≠0):(lD f o).1=RcM.zero:=by
 unfold lD at h0 ⊢;split at h0
 ·rename_i h1;rw[if_pos h1];exact Jd h0
 rename_i h1;rw[if_neg h1];split at h0
 ·rename_i h1;rw[if_pos h1];exact zS h0
 rename_i h1;rw[if_neg h1];split at h0
 ·rename_i h1;rw[if_pos h1];exact zS h0
 rename_i h1;rw[if_neg h1];split at h0
 ·rename_i h1;rw[if_pos h1];exact Ko h0
 rename_i h1;rw[if_neg h1];rfl
theorem EA {f:StF}(I:iY f) {o:jj}(ho:o.ok):(lD f o).1.ok:=by
 by_cases h:(lD f o).2=0
 ·obtain⟨_,_,h,_⟩:=I.call ho h;exact h
 ·rw[KT h];exact zok
end
end Go.Esc.M
namespace Go.Esc.M
open Go Go.Esc
def jj.zero:jj:=⟨0,false,0,0,h0,[],0⟩
theorem jj.bq:jj.zero.ok:=⟨cL,cL,cL,rfl,by simp[jj.zero],cL⟩
def tF (f:StF) (o:jj):StF:=if o.kind=4 then yG f (lD f o).1 else q6 f (lD f o).1.upd
theorem iY.tF {f:StF}(I:iY f) {o:jj}(ho:o.ok) (h0:(lD f o).2=0):iY (tF f o)/\Bb f (lD f o).1 [] (tF f o):=by
 unfold M.tF;unfold lD at h0 ⊢;split at h0
 ·rename_i h1;rw[if_pos h1,if_neg (by omega)];obtain⟨u,e,hu,_,hs,ha,_⟩:=I.offer ho.hash h0;rw[e];exact⟨hs,ha⟩
 rename_i h1;rw[if_neg h1];split at h0
 ·rename_i h2;rw[if_pos h2,if_neg (by omega)];obtain⟨e,hs,ha⟩:=I.y9 (IB ho) (Gr _ _) (by show (2:Int)≠1;decide) h0;rw[e];exact⟨hs,ha⟩
 rename_i h2;rw[if_neg h2];split at h0
 ·rename_i h3;rw[if_pos h3,if_neg (by omega)];obtain⟨e,hs,ha⟩:=I.y9 (Iy ho) (Gq _ _) (by show (3:Int)≠1;decide) h0;rw[e];exact⟨hs,ha⟩
 rename_i h3;rw[if_neg h3];split at h0
 ·rename_i h4;rw[if_pos h4,if_pos h4];obtain⟨e,hr,hs,ha,_⟩:=I.sign h0;rw[e];exact⟨hs,ha⟩
 ·cases h0
def sD (t:me) (s:Bool) (m:cr):me×Bool:=
 if m.kind=1\/m.kind=2\/m.kind=3 then (if vu (t.f s) (Bw m)=0 then (kq t s ⟨(t.f s).s,(t.f s).o,(t.f s).p++[Bw m],(t.f s).h⟩,true) else (t,false))
 else if (mU (t.c s) (t.f s) m).e=0 then (uD t s (AO m) (yy (t.f s) m.index m.hash),true)
 else if (jR (t.f s) m).2=0 then (uD t s (jR (t.f s) m).1 (uQ (t.f s) (jR (t.f s) m).1),true) else (t,false)
theorem kK.more {t:me}{n m:Nat}(k:kK t n) (h:n≤m):kK t m:={ c:=k.c,f:=k.f,q:=k.q,n:=fun s=>Nat.le_trans (k.n s) h }
theorem H6 {t:me}{n:Nat}(k:kK t n) {s:Bool}{m:cr}(hm:m.ok):kK (sD t s m).1 (n+1):=by
 have I:=k.f s;unfold sD;split
 ·split
  ·rename_i h;exact (sT k (I.heard (vF hm) h).1).more (by omega)
  ·exact k.more (by omega)
 split
 ·rename_i h;obtain⟨_,h2,h3,_⟩:=I.came (c:=t.c s) hm h;exact CR k h2 h3
 split
 ·rename_i h;obtain⟨e,h2,h3,_⟩:=I.y8 hm h;rw[e];exact CR k h2 h3
 ·exact k.more (by omega)
section
variable {F0:List AId}{G0 G:ak}{ps:List LP}{Q:ah->ak->Prop}{tb:AId}{t:me}{l:Bool->Ls}{w:Bool->ah}
theorem Sp.one {p:LP}{F:List AId}(h:p.p G F) (c:Ch F0 G0 F G):Sp F0 G0 [p] G:=⟨[F],⟨h,by simp,trivial⟩,by simpa using c⟩
theorem Hx (s:Bool):bt T aE (aS tb s) 5=some (.ptr tb [1,bN s,5] (328+(bN s*115+5))):=by cases s<;>rfl
theorem IG {n:Nat}{s:Bool}{x:ah}{q:List aL}{K:ak->Prop}(h:Sp F0 G0 [jP tb t,bm 36 x (q.map aL.av)] G) (k:kK t n)
  (hK:∀ G',Sp F0 G0 [jP tb (kq t s ⟨(t.f s).s,(t.f s).o,q,(t.f s).h⟩)] G'->K G'):wg (aF T G aj (.ptr tb [1,bN s,5] (328+(bN s*115+5))) x) K:=by
 obtain⟨l,w,h2⟩:=Sp.BS h;have a:=Sp.DQ h2;have hx:=(bm.own (i:=9) h2 rfl).leaf;cases s
 ·refine fg (st3 a.g (a.szl k) rfl rfl (a.szS k) rfl rfl (StM.szl (k.f false).ok (a.lv false)) rfl rfl rfl bT (kF hx rfl) (by rw[(a.lv false).2.1.1,hx.1]) hx.2.2) (hK _ ?_);have h3:=Sp.setRow (j:=0) h2 rfl (oU (kq t false ⟨(t.f false).s,(t.f false).o,q,(t.f false).h⟩) (mg l false ⟨(l false).o,x,(l false).h⟩) w);have h4:=Sp.pick h3 [0,1,9,3,4,5,6,7,8] (by decide) (by intro y hy;simp at hy ⊢;omega);exact Sp.qW (ps:=[]) (t:=kq t false ⟨(t.f false).s,(t.f false).o,q,(t.f false).h⟩) (l:=mg l false ⟨(l false).o,x,(l false).h⟩) (w:=w) h4
 ·refine fg (st3 a.g (a.szl k) rfl rfl (a.szS k) rfl rfl (StM.szl (k.f true).ok (a.lv true)) rfl rfl rfl bT (kF hx rfl) (by rw[(a.lv true).2.1.1,hx.1]) hx.2.2) (hK _ ?_);have h3:=Sp.setRow (j:=0) h2 rfl (oU (kq t true ⟨(t.f true).s,(t.f true).o,q,(t.f true).h⟩) (mg l true ⟨(l true).o,x,(l true).h⟩) w);have h4:=Sp.pick h3 [0,1,2,3,4,9,6,7,8] (by decide) (by intro y hy;simp at hy ⊢;omega);exact Sp.qW (ps:=[]) (t:=kq t true ⟨(t.f true).s,(t.f true).o,q,(t.f true).h⟩) (l:=mg l true ⟨(l true).o,x,(l true).h⟩) (w:=w) h4
end
end Go.Esc.M
namespace Go.Esc.M
open Go Go.Esc
def mea (f:StF):Nat:=f.o.length+f.s.sgnA.toNat+f.s.sgnB.toNat+f.s.atA.toNat+f.s.atB.toNat
theorem LG {f:StF}(I:iY f):mea f≤10240:=by
 have:=I.lo;have:=I.lp;have:=I.a0;have:=I.a1;have:=I.a2;have:=I.a3;have:=I.b0;have:=I.b1;have:=I.b2;have:=I.b3;unfold mea;omega
def Few (t:me):Prop:=∀ s,(t.q (!s)).length≤mea (t.f s)
theorem LN {t:me}{n:Nat}(k:kK t n) (h:Few t):kK t 10240:=
 { c:=k.c,f:=k.f,q:=k.q,n:=fun s=>by have h1:=h (!s);rw[Bool.not_not]at h1;exact Nat.le_trans h1 (LG (k.f (!s))) }
theorem Ce {t:me}{s:Bool}{f:StF}(h:Few t) (hm:mea (t.f s)≤mea f):Few (kq t s f):=by
 intro r;show (t.q (!r)).length≤mea (mg t.f s f r);by_cases e:r=s
 ·subst e;rw[ox];exact Nat.le_trans (h r) hm
 ·rw[qF _ _ e];exact h r
theorem H2 {t:me}{s:Bool}{q:List cr}(h:Few t) (hq:q.length≤(t.q s).length):Few (oW t s q):=by
 intro r;show (mg t.q s q (!r)).length≤mea (t.f r);by_cases e:(!r)=s
 ·rw[e,ox];have:=h r;rw[e]at this;omega
 ·rw[qF _ _ e];exact h r
theorem AF {t:me}{s:Bool}{r:RcM}{f':StF}(h:Few t) (hm:(sL (t.c s) (t.f s) f' r).length+mea (t.f s)≤mea f'):Few (uD t s r f'):=by
 intro x;show (mg t.q (!s) (t.q (!s)++sL (t.c s) (t.f s) f' r) (!x)).length≤mea (mg t.f s f' x);by_cases e:x=s
 ·subst e;rw[ox,ox,List.length_append];have:=h x;omega
 ·have e2:(!x)≠(!s):=fun hh=>e (by cases x<;>cases s<;>simp_all);rw[qF _ _ e,qF _ _ e2];exact h x
theorem Jk {f:StF}(I:iY f) {o:jj}(h0:(lD f o).2=0):1+mea f≤mea (tF f o):=by
 have ho:∀ u,1+mea f≤mea (q6 f u):=by
  intro u;unfold mea q6;simp only[List.length_append,List.length_singleton];omega
 unfold tF;by_cases h4:o.kind=4
 ·rw[if_pos h4];have e:lD f o=p6 f:=by unfold lD;rw[if_neg (by omega),if_neg (by omega),if_neg (by omega),if_pos h4]
  rw[e]at h0 ⊢;unfold p6 at h0 ⊢;split at h0
  ·cases h0
  rename_i h1;rw[if_neg h1];split at h0
  ·cases h0
  rename_i h2;rw[if_neg h2];split at h0
  ·cases h0
  rename_i h3;rw[if_neg h3];have h5:¬ ((f.o.length:Int)=f.s.sgnA/\f.s.atB=f.s.sgnB):=fun h=>h2 (.inr h);have:=I.a0;have:=I.a1;have:=I.a2;have:=I.a3;have:=I.b0;have:=I.b1;have:=I.b2;show 1+mea f≤f.o.length+((f.o.length:Nat):Int).toNat+f.s.atB.toNat+f.s.atA.toNat+f.s.atB.toNat;unfold mea;omega
 ·rw[if_neg h4];exact ho _
theorem Jj {c:CfM}{f:StF}(I:iY f) {m:cr}(h0:(mU c f m).e=0):1+mea f≤mea (yy f m.index m.hash):=by
 unfold mU at h0;split at h0
 ·cases h0
 split at h0
 ·cases h0
 split at h0
 ·cases h0
 split at h0
 ·cases h0
 rename_i h4;have:=I.a0;have:=I.a1;have:=I.b0;have:=I.b1;have:=I.b2;have:=I.b3;show 1+mea f≤f.o.length+f.s.sgnA.toNat+f.s.sgnB.toNat+f.s.heldA.toNat+((f.p.length:Nat):Int).toNat;unfold mea;omega
theorem H4 {t:me}{n:Nat}(k:kK t n) (h:Few t) {s:Bool}{m:cr}(hm:m.ok):Few (sD t s m).1:=by
 have I:=k.f s;unfold sD;split
 ·split
  ·exact Ce h (Nat.le_refl _)
  ·exact h
 split
 ·rename_i h0;refine AF h ?_;have:=Jj (c:=t.c s) I h0;have:=xn (t.c s) (t.f s) (yy (t.f s) m.index m.hash) (AO m);omega
 split
 ·rename_i h0;obtain⟨e,_⟩:=I.y8 hm h0;rw[e];refine AF h ?_;show 0+mea (t.f s)≤mea (t.f s);omega
 ·exact h
theorem JF {t:me}{n:Nat}(k:kK t n) (h:Few t) {s:Bool}{o:jj}(h0:(lD (t.f s) o).2=0):Few (uD t s (lD (t.f s) o).1 (tF (t.f s) o)):=by
 refine AF h ?_;have:=Jk (k.f s) h0;have:=xn (t.c s) (t.f s) (tF (t.f s) o) (lD (t.f s) o).1;omega
theorem KJ (d:DlM):Few (Ig d):=fun s=>Nat.zero_le _
end Go.Esc.M
