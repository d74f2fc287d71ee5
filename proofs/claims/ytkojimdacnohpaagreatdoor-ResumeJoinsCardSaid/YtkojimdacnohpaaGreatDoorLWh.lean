import Derived.Test.YtkojimdacnohpaaGreatDoorLWc
import Derived.Test.YtkojimdacnohpaaGreatDoorLDe
import Derived.Test.YtkojimdacnohpaaGreatDoorLMo
import Derived.Test.YtkojimdacnohpaaGreatDoorLSf
import Derived.Test.YtkojimdacnohpaaGreatDoorLSe
import Derived.Test.YtkojimdacnohpaaGreatDoorLRO
set_option maxHeartbeats 16000000
set_option linter.unusedSimpArgs false
set_option linter.unusedVariables false
set_option maxRecDepth 20000
namespace Go.Esc.M
open Go Go.Esc
section
variable {F0:List AId}{G0 G:ak}{ps:List LP}{Q:ah->ak->Prop}
theorem fZ.use {f:StF}{c:CfM}{vo vp vh:ah}(hS:ka G f vo vp vh) (hQ:∀ G',Ch [] G [] G'->Q (w8 (p6 f)) G'):al P fZ.n [c.av,f.s.av vo vp vh] G Q:=by
 have ho:=hS.ok;have hl:=hS.lv;have hlo:=hS.lo;refine fZ.sound ?_;unfold fZ.S;rw[uU];unfold p6 at hQ;intro i1 f1;have s1:=(Sp.nil G).row f1 c.av;intro i3 f3;have s3:=s1.row f3 (f.s.av vo vp vh);intro i5 f5;have s5:=s3.row f5 (RcM.zero.av .nilSlice);revert s5;generalize ak.upd _ i5 _=G6;intro s5;have hg:=au.own (i:=1) s5 rfl;refine ae (St.dM hg ho hl) ?_;refine ae (dh (hS.o.gZ.ch' s5.ch)) ?_;refine ae (St.od hg ho hl) ?_;refine ae (v:=bE (f.o.length:Nat) f.s.atB) rfl ?_;refine jL (c:=bE (f.o.length:Nat) f.s.atB) s5 cK rfl rfl rfl fun i11 G13 s13=>?_;refine ae (St.ld (au.own (i:=2) s13 rfl) ho hl) ?_;refine cd.use (hS.mv s13.ch) fun G16 c16=>?_;have s16:=s13.tmp c16;have s16:Sp [] G [au i11 (bE (f.o.length:Nat) f.s.atB),au i5 (RcM.zero.av .nilSlice),au i3 (f.s.av vo vp vh),au i1 c.av] G16:=s16;rw[gO];refine⟨fun hd=>?_,fun hd=>?_⟩
 ·rw[if_pos hd]at hQ;exact kz (j:=1) s16 rfl RcM.bq bw.nil fun G' s'=>hQ G' s'.ch
 rw[if_neg (by rw[hd];decide)]at hQ;have hg:=au.own (i:=2) s16 rfl;intro J36;have bad:(f.s.rem≠f.s.ack\/((f.o.length:Int)=f.s.sgnA/\f.s.atB=f.s.sgnB))->J36 (.bool true) G16:=by
  intro hb;rw[if_pos hb]at hQ;simp -zeta only [J36,aN];exact kz (j:=1) s16 rfl RcM.bq bw.nil fun G' s'=>hQ G' s'.ch
 have lK:¬ (f.s.rem≠f.s.ack\/((f.o.length:Int)=f.s.sgnA/\f.s.atB=f.s.sgnB))->J36 (.bool false) G16:=by
  intro hb;rw[if_neg hb]at hQ;simp -zeta only [J36,aK];refine ae (St.mn hg ho hl) ?_;rw[da,aa,aI];refine⟨fun h1=>?_,fun h1=>?_⟩
  ·rw[if_pos h1]at hQ;exact kz (j:=1) s16 rfl RcM.bq bw.nil fun G' s'=>hQ G' s'.ch
  rw[if_neg h1]at hQ;have hr:=ho.rem;have hok:({ RcM.zero with kind:=2,index:=f.s.rem+1,cntA:=(f.o.length:Nat),cntB:=f.s.atB }:RcM).ok:=
   ⟨iu 2 (by decide) (by decide),aL.bq,iu (f.s.rem+1) (by have:=hr.1;omega) (by omega),iu (f.o.length:Nat) (by omega) (by omega),ho.atB,rfl,rfl,rfl,cL⟩
  refine ae (St.mn hg ho hl) ?_;rw[bg,i64_in (by have:=hr.1;omega) (by omega),aa];refine ae (cj cK (au.own (i:=0) s16 rfl) rfl) ?_;refine ae Cl ?_;refine Rc.st (i:=1) s16 rfl RcM.bq bw.nil hok bw.nil fun G41 s41=>?_;refine ae (Rc.ld (au.own (i:=1) s41 rfl) hok bw.nil) ?_;exact hQ _ s41.ch
 refine ae (St.mn hg ho hl) ?_;refine ae (St.mS hg ho hl) ?_;rw[cD,aa,dC];refine⟨fun h1=>bad (.inl h1),fun h1=>?_⟩;refine ae (cj cK (au.own (i:=0) s16 rfl) rfl) ?_;refine ae (St.vr hg ho hl) ?_;rw[r6 (t:=aU),aa];by_cases h2:(f.o.length:Int)=f.s.sgnA/\f.s.atB=f.s.sgnB
 ·rw[dT_ h2];exact bad (.inr h2)
 ·rw[dF_ h2];exact lK (by rintro (h | h);exact h h1;exact h2 h)
theorem ga.use {f:StF}{c:CfM}{n ca cb:Int}{vo vp vh:ah}(hS:ka G f vo vp vh) (hc:c.ok) (hQ:∀ G',Ch [] G [] G'->Q (.tuple [.str (yV c f n ca cb).1,.bool (yV c f n ca cb).2]) G'):al P ga.n [c.av,f.s.av vo vp vh,.int .i64 n,bE ca cb] G Q:=by
 have ho:=hS.ok;have hl:=hS.lv;have hlo:=hS.lo;have hlp:=hS.lp;refine ga.sound ?_;unfold ga.S;unfold yV at hQ;intro i1 f1;have s1:=(Sp.nil G).row f1 c.av;intro i3 f3;have s3:=s1.row f3 (f.s.av vo vp vh);intro i5 f5;have s5:=s3.row f5 (bE ca cb);revert s5;generalize ak.upd _ i5 _=G6;intro s5;refine ae (Cf.ue (au.own (i:=2) s5 rfl) hc) ?_;refine cI.use hc.seed fun G9 c9=>?_;have s9:=s5.tmp c9;have hxl:=mZ hc.seed n;obtain⟨X,hX⟩:∃ X,X=jS c.seed n:=⟨_,rfl⟩;rw[<- hX]at hQ hxl ⊢;refine ae (hi0 _) ?_;refine ae (hi1 _) ?_;refine pg s9 hxl fun i12 G14 s14=>?_;rw[cD,aa,dC];refine⟨fun h1=>?_,fun h1=>?_⟩
 ·rw[if_pos h1]at hQ;exact hQ _ s14.ch
 rw[if_neg (fun hh=>hh h1)]at hQ;have hg:=au.own (i:=2) s14 rfl;refine ae (St.uM hg ho hl) ?_;refine ae (St.tC hg ho hl) ?_;refine ae (St.dM hg ho hl) ?_;refine ae (St.eH hg ho hl) ?_;refine ae (cj cK (au.own (i:=1) s14 rfl) rfl) ?_;refine eZ.use (hS.o.mv s14.ch) (hS.p.mv s14.ch) hS.oko hS.okp hS.lo hS.lp fun x G22 t22=>?_;have hFok:=qh hS ca cb;have hFlen:=uj f ca cb;unfold kx at hQ hFok hFlen;obtain⟨F,hF⟩:∃ F,F=mN f.s.bo f.s.bp f.o f.p ca cb:=⟨_,rfl⟩;rw[<- hF]at hQ hFok hFlen t22 ⊢;obtain⟨F22,o22,c22⟩:=t22.out;have s22:=s14.new o22 c22;have lx:=(bm.own (i:=0) s22 rfl).leaf;refine ae (tv0 _ _) ?_;refine ae (tv1 _ _) ?_;obtain⟨w1,w2,w3⟩:=rr (o:=F.o) (q:=F.q) lx;refine jL s22 ng w1 (by rw[w2];rfl) w3 fun i25 G27 s27=>?_;rw[cD,aa,dC];refine⟨fun h2=>?_,fun h2=>?_⟩
 ·rw[if_pos h2]at hQ;exact hQ _ s27.ch
 rw[if_neg (fun hh=>hh h2)]at hQ;refine ae (St.lJ (au.own (i:=4) s27 rfl) ho hl) ?_;refine ae (bM hxl (au.own (i:=2) s27 rfl)) ?_;refine ae (iI (i:=0) s27 rfl lx).2.2.2 ?_;refine cA.use hxl fun G33 c33=>?_;have s33:=s27.tmp c33;refine⟨⟨(iI (i:=0) s33 rfl lx).2.2.2,St.lJ (au.own (i:=4) s33 rfl) ho hl,trivial⟩,?_⟩;refine eV.use (je _) (bm.own (i:=1) s33 rfl).is hFok (by omega) fun G35 c35=>?_;have s35:=s33.tmp c35;refine ae (tv0 _ _) ?_;refine ae (tv1 _ _) ?_;rw[bB,aa];exact hQ _ s35.ch
theorem dF.use {c:CfM}{n:Int}(hc:c.ok) (hQ:∀ G',Ch [] G [] G'->Q (qC c n).av G'):al P dF.n [c.av,.int .i64 n] G Q:=by
 refine dF.sound ?_;unfold dF.S;rw[EW];unfold qC at hQ;intro i1 f1;have s1:=(Sp.nil G).row f1 c.av;intro i3 f3;have s3:=s1.row f3 cr.zero.av;revert s3;generalize ak.upd _ i3 _=G4;intro s3 J36;have bad:(n<0\/281474976710653<n)->J36 (.bool true) G4:=by
  intro hb;rw[if_pos hb]at hQ;simp -zeta only [J36,aN];refine ae (v:=cr.zero.av) rfl ?_;refine nK (i:=0) s3 rfl cr.bq cr.bq fun G10 s10=>?_;refine ae (cj eQ (au.own (i:=0) s10 rfl) (cr.fits cr.bq)) ?_;exact hQ _ s10.ch
 have lK:¬ (n<0\/281474976710653<n)->J36 (.bool false) G4:=by
  intro hb;rw[if_neg hb]at hQ;simp -zeta only [J36,aK];have hx:=mZ hc.seed n;have hy:=mZ hc.seed (n+2);refine ae (Cf.ue (au.own (i:=1) s3 rfl) hc) ?_;refine cI.use hc.seed fun G14 c14=>?_;have s14:=s3.tmp c14;refine ae (hi0 _) ?_;refine ae (hi1 _) ?_;refine pg s14 hx fun i17 G19 s19=>?_;refine ae (Cf.ue (au.own (i:=2) s19 rfl) hc) ?_;rw[bg,i64_in (by omega) (by omega),aa];refine cI.use hc.seed fun G23 c23=>?_;have s23:=s19.tmp c23;refine ae (hi0 _) ?_;refine ae (hi1 _) ?_;refine pg s23 hy fun i26 G28 s28=>?_;refine ae (bM hx (au.own (i:=1) s28 rfl)) ?_;refine ae (bM hy (au.own (i:=0) s28 rfl)) ?_;refine cA.use hy fun G32 c32=>?_;have s32:=s28.tmp c32;refine⟨⟨bM hx (au.own (i:=1) s32 rfl),trivial⟩,?_⟩;have hz:(sha (jS c.seed (n+2)).1).length=32:=je _;have hok:({ cr.zero with kind:=5,index:=n,secret:=(jS c.seed n).1,hash:=sha (jS c.seed (n+2)).1 }:cr).ok:=⟨iu 5 (by decide) (by decide),cL,cL,iu n (by omega) (by omega),cL,hz,hx,by simp[cr.zero]⟩;refine ae (uo (r:={ cr.zero with kind:=5,index:=n,secret:=(jS c.seed n).1,hash:=sha (jS c.seed (n+2)).1 }) (fun p hp=>?_) rfl) ?_
  ·simp only[List.mem_cons,List.not_mem_nil,or_false]at hp;rcases hp with rfl|rfl|rfl|rfl
   ·rfl
   ·rfl
   ·exact oJ hx
   ·exact oJ hz
  refine nK (i:=2) s32 rfl cr.bq hok fun G34 s34=>?_;refine ae (cj eQ (au.own (i:=2) s34 rfl) (cr.fits hok)) ?_;exact hQ _ s34.ch
 rw[aM,aa,aI];refine⟨fun h1=>bad (.inl h1),fun h1=>?_⟩;rw[da,aa];by_cases h2:281474976710653<n
 ·rw[dT_ h2];exact bad (.inr h2)
 ·rw[dF_ h2];exact lK (by omega)
theorem fh.use {f:StF}{vo vp vh:ah}{a:Int}{h:List UInt8}(hS:ka G f vo vp vh) (I:iY f) (hh:h.length=32) (hQ:∀ G',Ch [] G [] G'->Q (w8 (n8 f a h)) G'):al P fh.n [f.s.av vo vp vh,.int .i64 a,.agg (h.map u8v)] G Q:=by
 have ho:=hS.ok;have hl:=hS.lv;have hlo:=hS.lo;refine fh.sound ?_;unfold fh.S;rw[uU];unfold n8 at hQ;intro i1 f1;have s1:=(Sp.nil G).row f1 (f.s.av vo vp vh);intro i3 f3;have s3:=s1.row f3 (.agg (h.map u8v));intro i5 f5;have s5:=s3.row f5 (RcM.zero.av .nilSlice);revert s5;generalize ak.upd _ i5 _=G6;intro s5;refine ae (St.ld (au.own (i:=2) s5 rfl) ho hl) ?_;refine cd.use (hS.mv s5.ch) fun G9 c9=>?_;have s9:=s5.tmp c9;rw[gO];refine⟨fun hd=>?_,fun hd=>?_⟩
 ·rw[if_pos hd]at hQ;exact kz (j:=0) s9 rfl RcM.bq bw.nil fun G' s'=>hQ G' s'.ch
 rw[if_neg (by rw[hd];decide)]at hQ;have s9:Sp [] G [au i5 (RcM.zero.av .nilSlice),au i3 (.agg (h.map u8v)),au i1 (f.s.av vo vp vh)] G9:=s9;intro J47;have bad:(a<1\/1152921504606846976<a)->J47 (.bool true) G9:=by
  intro hb;rw[if_pos hb]at hQ;simp -zeta only [J47,aN];exact kz (j:=0) s9 rfl RcM.bq bw.nil fun G' s'=>hQ G' s'.ch
 have lK:¬ (a<1\/1152921504606846976<a)->J47 (.bool false) G9:=by
  intro hb;rw[if_neg hb]at hQ;simp -zeta only [J47,aK];refine ae (St.ld (au.own (i:=2) s9 rfl) ho hl) ?_;refine dN.use (hS.mv s9.ch) fun G22 c22=>?_;have s22:=s9.tmp c22;rw[gO];refine⟨fun hf=>?_,fun hf=>?_⟩
  ·rw[if_pos hf]at hQ;exact kz (j:=0) s22 rfl RcM.bq bw.nil fun G' s'=>hQ G' s'.ch
  rw[if_neg (by rw[hf];decide)]at hQ;have hg:=au.own (i:=2) s22 rfl;refine ae (St.dM hg ho hl) ?_;refine ae (St.eH hg ho hl) ?_;refine ae (St.ld hg ho hl) ?_;refine cg.use (hS.mv s22.ch) fun G30 c30=>?_;have s30:=s22.tmp c30;have hg:=au.own (i:=2) s30 rfl;refine⟨⟨St.eH hg ho hl,St.dM hg ho hl,trivial⟩,?_⟩;refine ae (v:=.int .i64 (mD f.s)) rfl ?_;refine bQ.use (hS.p.mv s30.ch) hS.lp fun w hw=>?_;refine⟨⟨St.dM hg ho hl,trivial⟩,?_⟩;have hfl:=jU f.p (mD f.s);refine eT.use (hS.o.gZ.ch' s30.ch) hw.gZ hS.lo (by have:=hS.lp;omega) ?_;rw[Ac I.vo I.vp];rw[fI,aa,aI];refine⟨fun h4=>?_,fun h4=>?_⟩
  ·rw[if_pos (by omega)]at hQ;exact kz (j:=0) s30 rfl RcM.bq bw.nil fun G' s'=>hQ G' s'.ch
  rw[if_neg (by omega)]at hQ;refine ae (St.ld hg ho hl) ?_;refine cO.use (hS.mv s30.ch) I fun G42 c42=>?_;have s42:=s30.tmp c42;rw[da,aa,aI];refine⟨fun h5=>?_,fun h5=>?_⟩
  ·rw[if_pos h5]at hQ;exact kz (j:=0) s42 rfl RcM.bq bw.nil fun G' s'=>hQ G' s'.ch
  rw[if_neg h5]at hQ;have hal:=tJ f.o;have hu:(⟨1,((j7 f.o:Nat):Int),a,h,[]⟩:aL).ok:=⟨iu 1 (by decide) (by decide),iu ((j7 f.o:Nat):Int) (by omega) (by omega),iu a (by omega) (by omega),hh,by simp⟩;refine ae (St.dM (au.own (i:=2) s42 rfl) ho hl) ?_;refine ae (bM hh (au.own (i:=1) s42 rfl)) ?_;refine fY.use (hS.o.gZ.ch' s42.ch) hS.lo ?_;refine⟨⟨bM hh (au.own (i:=1) s42 rfl),trivial⟩,?_⟩;refine ae (Cq hh) ?_;refine ae (sE hu) ?_;refine Rc.st (i:=0) s42 rfl RcM.bq bw.nil (iR hu) bw.nil fun G54 s54=>?_;refine ae (Rc.ld (au.own (i:=0) s54 rfl) (iR hu) bw.nil) ?_;exact hQ _ s54.ch
 rw[aM,aa,aI];refine⟨fun h1=>bad (.inl h1),fun h1=>?_⟩;rw[da,aa];by_cases h2:1152921504606846976<a
 ·rw[dT_ h2];exact bad (.inr h2)
 ·rw[dF_ h2];exact lK (by omega)
theorem cN.use {f:StF}{vo vp vh:ah}{id:Int}(hS:ka G f vo vp vh) (hQ:∀ G',Ch [] G [] G'->Q (.tuple [((ey false id (cw f.p (mD f.s))).getD aL.zero).av,.bool ((ey false id (cw f.p (mD f.s))).isSome && !oL f.o id 0)]) G') :
  al P cN.n [f.s.av vo vp vh,.int .i64 id] G Q:=by
 have ho:=hS.ok;have hl:=hS.lv;have hlo:=hS.lo;have hlp:=hS.lp;refine cN.sound ?_;unfold cN.S;rw[Dq];intro i1 f1;have s1:=(Sp.nil G).row f1 (f.s.av vo vp vh);intro i3 f3;have s3:=s1.row f3 aL.zero.av;revert s3;generalize ak.upd _ i3 _=G4;intro s3;rw[<- Dq];have hg:=au.own (i:=1) s3 rfl;refine ae (St.eH hg ho hl) ?_;refine ae (St.ld hg ho hl) ?_;refine cg.use (hS.mv s3.ch) fun G8 c8=>?_;have s8:=s3.tmp c8;have hg:=au.own (i:=1) s8 rfl;refine⟨⟨St.eH hg ho hl,trivial⟩,?_⟩;refine ae (v:=.int .i64 (mD f.s)) rfl ?_;refine bQ.use (hS.p.mv s8.ch) hS.lp fun w hw=>?_;have hfl:=jU f.p (mD f.s);have hfo:=mu (n:=mD f.s) hS.okp;refine eU.use hw.gZ hfo (by omega) fun G13 c13=>?_;have s13:=s8.tmp c13;have hA:=lT (rm:=false) (id:=id) hfo;obtain⟨A,eA⟩:∃ A,A=ey false id (cw f.p (mD f.s)):=⟨_,rfl⟩;rw[<- eA]at hA hQ ⊢;refine ae (z6 _) ?_;refine ae (zZ _) ?_;refine vX s13 hA fun i16 G18 s18=>?_;refine ae (bF (i:=0) s18 rfl hA).2.2.2.2.2 ?_;rw[gO];refine⟨fun hs=>?_,fun hs=>?_⟩
 ·rw[hs,Bool.true_and]at hQ;refine ae (St.dM (au.own (i:=2) s18 rfl) ho hl) ?_;refine cq.use (hS.o.gZ.ch' s18.ch) hS.lo ?_;refine⟨⟨(bF (i:=0) s18 rfl hA).2.2.2.2.2,trivial⟩,?_⟩;rw[dx,aa];refine jY (i:=1) s18 rfl aL.bq hA fun G24 s24=>?_;refine ae (bF (i:=1) s24 rfl hA).2.2.2.2.2 ?_;exact hQ _ s24.ch
 ·rw[hs,Bool.false_and]at hQ;refine jY (i:=1) s18 rfl aL.bq hA fun G24 s24=>?_;refine ae (bF (i:=1) s24 rfl hA).2.2.2.2.2 ?_;exact hQ _ s24.ch
theorem eJ.use {f:StF}{vo vp vh:ah}{id:Int}{h:List UInt8}(hS:ka G f vo vp vh) (I:iY f) (hi:I64 id) (hh:h.length=32) (hQ:∀ G',Ch [] G [] G'->Q (w8 (j4 f ⟨2,id,0,h,[]⟩)) G'):al P eJ.n [f.s.av vo vp vh,.int .i64 id,.agg (h.map u8v)] G Q:=by
 have ho:=hS.ok;have hl:=hS.lv;refine eJ.sound ?_;unfold eJ.S;rw[uU];unfold j4 at hQ;have hu:(⟨2,id,0,h,[]⟩:aL).ok:=⟨iu 2 (by decide) (by decide),hi,cL,hh,by simp⟩;obtain⟨may,hmay⟩:∃ b,b=tA f ⟨2,id,0,h,[]⟩:=⟨_,rfl⟩;rw[<- hmay]at hQ;unfold tA at hmay;rw[dT_ (show (2:Int)=2 from rfl),Bool.not_true,Bool.false_or,dT_ (show ([]:List UInt8).length≤64 by simp),Bool.and_true,zR I.vo]at hmay;simp only at hmay;intro i1 f1;have s1:=(Sp.nil G).row f1 (f.s.av vo vp vh);intro i3 f3;have s3:=s1.row f3 (.agg (h.map u8v));intro i5 f5;have s5:=s3.row f5 (RcM.zero.av .nilSlice);revert s5;generalize ak.upd _ i5 _=G6;intro s5;refine ae (St.ld (au.own (i:=2) s5 rfl) ho hl) ?_;refine cd.use (hS.mv s5.ch) fun G9 c9=>?_;have s9:=s5.tmp c9;rw[gO];refine⟨fun hd=>?_,fun hd=>?_⟩
 ·rw[if_pos hd]at hQ;exact kz (j:=0) s9 rfl RcM.bq bw.nil fun G' s'=>hQ G' s'.ch
 rw[if_neg (by rw[hd];decide)]at hQ;refine ae (St.ld (au.own (i:=2) s9 rfl) ho hl) ?_;refine cN.use (hS.mv s9.ch) fun G15 c15=>?_;have s15:=s9.tmp c15;have hA:=lT (rm:=false) (id:=id) (mu (n:=mD f.s) hS.okp);obtain⟨A,eA⟩:∃ A,A=ey false id (cw f.p (mD f.s)):=⟨_,rfl⟩;rw[<- eA]at hA hmay ⊢;refine ae (tv0 _ _) ?_;refine ae (tv1 _ _) ?_;refine vX s15 hA fun i18 G20 s20=>?_;have s20:Sp [] G [au i18 (A.getD aL.zero).av,au i5 (RcM.zero.av .nilSlice),au i3 (.agg (h.map u8v)),au i1 (f.s.av vo vp vh)] G20:=s20;intro J44;have bad:∀ G2,Sp [] G [au i18 (A.getD aL.zero).av,au i5 (RcM.zero.av .nilSlice),au i3 (.agg (h.map u8v)),au i1 (f.s.av vo vp vh)] G2->may=false->J44 (.bool true) G2:=by
  intro G2 s2 hm;rw[if_pos hm]at hQ;simp -zeta only [J44,aN];exact kz (j:=1) s2 rfl RcM.bq bw.nil fun G' s'=>hQ G' s'.ch
 have lK:∀ G2,Sp [] G [au i18 (A.getD aL.zero).av,au i5 (RcM.zero.av .nilSlice),au i3 (.agg (h.map u8v)),au i1 (f.s.av vo vp vh)] G2->may=true->J44 (.bool false) G2:=by
  intro G2 s2 hm;rw[if_neg (by rw[hm];decide)]at hQ;simp -zeta only [J44,aK];refine ae (St.ld (au.own (i:=3) s2 rfl) ho hl) ?_;refine dN.use (hS.mv s2.ch) fun G35 c35=>?_;have s35:=s2.tmp c35;rw[gO];refine⟨fun hf=>?_,fun hf=>?_⟩
  ·rw[if_pos hf]at hQ;exact kz (j:=1) s35 rfl RcM.bq bw.nil fun G' s'=>hQ G' s'.ch
  rw[if_neg (by rw[hf];decide)]at hQ;refine ae (bM hh (au.own (i:=2) s35 rfl)) ?_;refine ae (Cp hh) ?_;refine ae (sE hu) ?_;refine Rc.st (i:=1) s35 rfl RcM.bq bw.nil (iR hu) bw.nil fun G42 s42=>?_;refine ae (Rc.ld (au.own (i:=1) s42 rfl) (iR hu) bw.nil) ?_;exact hQ _ s42.ch
 rw[dx,aa];rw[<- Bool.and_assoc]at hmay;cases hm:(A.isSome && !oL f.o id 0) with
 | false=>
  rw[hm,Bool.false_and]at hmay;rw[Bool.not_false,aN];exact bad _ s20 hmay
 | true=>
  rw[hm,Bool.true_and]at hmay;rw[Bool.not_true,aK];have hsl:dV T ar (.ptr i3 [] 0) none none none=some (.slice i3 [] 0 0 32 32):=by simp[dV,bZ,dQ,cW,j8,lH]
  refine ae hsl ?_;have hxs:ff 1 _ (.slice i3 [] 0 0 32 32) (h.map u8v):=qR (au.own (i:=2) s20 rfl) hh;refine ae (km (si:=fJ) (ie:=gi) (di:=iO) eC rfl cW rfl fS rfl hxs) ?_;refine ae (bF (i:=0) s20 rfl hA).2.2.2.1 ?_;refine dJ.use (by omega) fun G26 c26=>?_;have s26:=s20.tmp c26;refine⟨⟨(bF (i:=0) s26 rfl hA).2.2.2.1,trivial⟩,?_⟩;rw[qg (je _) hA.hash,aa];by_cases he:sha h=(A.getD aL.zero).hash
  ·rw[dT_ he]at hmay ⊢;exact lK _ s26 hmay
  ·rw[dF_ he]at hmay ⊢;exact bad _ s26 hmay
theorem eK.use {f:StF}{vo vp vh:ah}{id:Int}{n:List UInt8}(hS:ka G f vo vp vh) (I:iY f) (hi:I64 id) (hn:n.length≤9223372036854775807) (hQ:∀ G',Ch [] G [] G'->Q (w8 (j4 f ⟨3,id,0,h0,n⟩)) G'):al P eK.n [f.s.av vo vp vh,.int .i64 id,.str n] G Q:=by
 have ho:=hS.ok;have hl:=hS.lv;refine eK.sound ?_;unfold eK.S;rw[uU];unfold j4 at hQ;have hu:(⟨3,id,0,h0,n⟩:aL).ok:=⟨iu 3 (by decide) (by decide),hi,cL,rfl,hn⟩;obtain⟨may,hmay⟩:∃ b,b=tA f ⟨3,id,0,h0,n⟩:=⟨_,rfl⟩;rw[<- hmay]at hQ;unfold tA at hmay;rw[dF_ (show ¬ (3:Int)=2 by decide),Bool.not_false,Bool.true_or,Bool.true_and,zR I.vo]at hmay;simp only at hmay;intro i1 f1;have s1:=(Sp.nil G).row f1 (f.s.av vo vp vh);intro i3 f3;have s3:=s1.row f3 (RcM.zero.av .nilSlice);revert s3;generalize ak.upd _ i3 _=G4;intro s3;refine ae (St.ld (au.own (i:=1) s3 rfl) ho hl) ?_;refine cd.use (hS.mv s3.ch) fun G7 c7=>?_;have s7:=s3.tmp c7;rw[gO];refine⟨fun hd=>?_,fun hd=>?_⟩
 ·rw[if_pos hd]at hQ;exact kz (j:=0) s7 rfl RcM.bq bw.nil fun G' s'=>hQ G' s'.ch
 rw[if_neg (by rw[hd];decide)]at hQ;refine ae (St.ld (au.own (i:=1) s7 rfl) ho hl) ?_;refine cN.use (hS.mv s7.ch) fun G13 c13=>?_;have s13:=s7.tmp c13;have hA:=lT (rm:=false) (id:=id) (mu (n:=mD f.s) hS.okp);obtain⟨A,eA⟩:∃ A,A=ey false id (cw f.p (mD f.s)):=⟨_,rfl⟩;rw[<- eA]at hA hmay ⊢;refine ae (tv0 _ _) ?_;refine ae (tv1 _ _) ?_;refine vX s13 hA fun i16 G18 s18=>?_;have s18:Sp [] G [au i16 (A.getD aL.zero).av,au i3 (RcM.zero.av .nilSlice),au i1 (f.s.av vo vp vh)] G18:=s18;intro J37;have bad:may=false->J37 (.bool true) G18:=by
  intro hm;rw[if_pos hm]at hQ;simp -zeta only [J37,aN];exact kz (j:=1) s18 rfl RcM.bq bw.nil fun G' s'=>hQ G' s'.ch
 have lK:may=true->J37 (.bool false) G18:=by
  intro hm;rw[if_neg (by rw[hm];decide)]at hQ;simp -zeta only [J37,aK];refine ae (St.ld (au.own (i:=2) s18 rfl) ho hl) ?_;refine dN.use (hS.mv s18.ch) fun G29 c29=>?_;have s29:=s18.tmp c29;rw[gO];refine⟨fun hf=>?_,fun hf=>?_⟩
  ·rw[if_pos hf]at hQ;exact kz (j:=1) s29 rfl RcM.bq bw.nil fun G' s'=>hQ G' s'.ch
  rw[if_neg (by rw[hf];decide)]at hQ;refine ae (AU _ _) ?_;refine ae (sE hu) ?_;refine Rc.st (i:=1) s29 rfl RcM.bq bw.nil (iR hu) bw.nil fun G35 s35=>?_;refine ae (Rc.ld (au.own (i:=1) s35 rfl) (iR hu) bw.nil) ?_;exact hQ _ s35.ch
 rw[dx,aa];rw[<- Bool.and_assoc]at hmay;cases hm:(A.isSome && !oL f.o id 0) with
 | false=>
  rw[hm,Bool.false_and]at hmay;rw[Bool.not_false,aN];exact bad hmay
 | true=>
  rw[hm,Bool.true_and]at hmay;rw[Bool.not_true,aK];refine ae (v:=.int .i64 (n.length:Nat)) rfl ?_;rw[da,aa];by_cases he:n.length≤64
  ·rw[dT_ he]at hmay;rw[dF_ (by omega)];exact lK hmay
  ·rw[dF_ he]at hmay;rw[dT_ (by omega)];exact bad hmay
theorem fL.use {f:StF}{vo vp vh:ah}(hS:ka G f vo vp vh) (hQ:∀ wo wp wh G',Sp [] G [bm 34 wh (f.h.map b6.av),bm 36 wp ((cw f.p f.s.atB).map aL.av),bm 36 wo (f.o.map aL.av)] G'->Q (f.s.av wo wp wh) G'):al P fL.n [f.s.av vo vp vh] G Q:=by
 have ho:=hS.ok;have hl:=hS.lv;have hlp:=hS.lp;have hlo:=hS.lo;have hlh:=hS.lh;refine fL.sound ?_;unfold fL.S;rw[EV];intro i1 f1;have s1:=(Sp.nil G).row f1 (f.s.av vo vp vh);intro i3 f3;have s3:=s1.row f3 (StM.zero.av .nilSlice .nilSlice .nilSlice);revert s3;generalize ak.upd _ i3 _=G4;intro s3;have grow:∀ {ps:List LP}{G1:ak}{x:ah}{l:List aL}{K:ah->ak->Prop},Sp [] G ps G1->ff 36 G1 x (l.map aL.av)->(∀ u∈l,u.ok)->l.length≤1048576->(∀ w G2,Sp [] G (bm 36 w (l.map aL.av)::ps) G2->K w G2)->cn T G1 aj aj .nilSlice x K:=by
  intro ps G1 x l K s hx hok hlen hK;refine uN (T:=T) (ts:=aj) (e:=aG) (si:=dL) (ie:=cG) (tx:=aj) (xi:=dL) (i:=0) (vs:=[]) (xs:=l.map aL.av) bT rfl dE rfl (by decide) bT (.inr ⟨_,rfl⟩) (s.nz 36) rfl hx.elems (nW hok).1 (nW hok).2 (by rw[show cG.bytes=72 from rfl,List.length_map];simp;omega) fun w G5 s5=>?_;exact hK w G5 s5
 refine ae (St.dM (au.own (i:=1) s3 rfl) ho hl) ?_;refine grow s3 (hS.o.gZ.ch' s3.ch) hS.oko hS.lo fun wo G7 s7=>?_;have lo:bw wo:=(bm.own (i:=0) s7 rfl).leaf;refine St.tT (i:=2) s7 rfl ho hl lo fun G8 s8=>?_;have l8:bw wo/\bw vp/\bw vh:=⟨lo,hl.2.1,hl.2.2⟩;refine ae (St.eH (au.own (i:=2) s8 rfl) ho l8) ?_;refine ae (St.od (au.own (i:=2) s8 rfl) ho l8) ?_;refine bQ.use (hS.p.mv s8.ch) hS.lp fun w hw=>?_;have hfl:=jU f.p f.s.atB;refine grow s8 hw.gZ (mu hS.okp) (by omega) fun wp G14 s14=>?_;have lp:bw wp:=(bm.own (i:=0) s14 rfl).leaf;refine St.tg (i:=3) s14 rfl ho l8 lp fun G15 s15=>?_;have l15:bw wo/\bw wp/\bw vh:=⟨lo,lp,hl.2.2⟩;refine ae (St.l6 (au.own (i:=3) s15 rfl) ho l15) ?_;refine uN (T:=T) (ts:=aV) (e:=cz) (si:=jr) (ie:=kv) (tx:=aV) (xi:=jr) (i:=0) (vs:=[]) (xs:=f.h.map b6.av) gz rfl jN rfl (by decide) gz (.inr ⟨_,rfl⟩) (s15.nz 34) rfl (hS.h.gZ.ch' s15.ch).elems (wV hS.okh) (sa f.h) (by rw[show kv.bytes=48 from rfl,List.length_map];simp;omega) fun wh G18 s18=>?_;have lh:bw wh:=(bm.own (i:=0) s18 rfl).leaf;refine St.vO (i:=4) s18 rfl ho l15 lh fun G19 s19=>?_;refine ae (St.ld (au.own (i:=4) s19 rfl) ho ⟨lo,lp,lh⟩) ?_;refine St.st (i:=3) s19 rfl StM.bq lv0 ho ⟨lo,lp,lh⟩ fun G21 s21=>?_;refine ae (St.ld (au.own (i:=3) s21 rfl) ho ⟨lo,lp,lh⟩) ?_;exact hQ wo wp wh G21 ((s21.erase 3).erase 3)
end
end Go.Esc.M
namespace Go.Esc.M
open Go Go.Esc
def oH (f:StF) (n ca cb:Int):List UInt8×Bool:=
 if (kx f ca cb).e≠0 then ([],false)
 else ((oI (IntKind.i64.wrap (1-f.s.side)) n (if n≠f.s.ack then f.s.ptsB else f.s.ptsA) (kx f ca cb).q (kx f ca cb).o (pE (kx f ca cb).l)).1,
  decide ((oI (IntKind.i64.wrap (1-f.s.side)) n (if n≠f.s.ack then f.s.ptsB else f.s.ptsA) (kx f ca cb).q (kx f ca cb).o (pE (kx f ca cb).l)).2=0))
theorem DM {f:StF}{n ca cb:Int}(ho:f.s.ok) (hf:∀ p∈(kx f ca cb).l,p.ok):(oH f n ca cb).1.length≤1000000:=by
 unfold oH;split
 ·simp
 ·refine xe ?_ (zF hf);split
  ·exact ho.ptsB
  ·exact ho.ptsA
theorem iY.Lp {f:StF}(I:iY f):(oH f f.s.rem f.s.sgnA f.s.sgnB).2=true:=by
 obtain⟨h1,_,h3,_⟩:=I.Lc (a:=f.s.sgnA) (b:=f.s.sgnB) (by have:=I.a1;have:=I.a2;omega) I.a3 I.b1 (by have:=I.b2;have:=I.b3;omega);unfold oH;rw[if_neg (by rw[h1];decide)];rw[ID (by have:=I.side;rcases this with h | h<;>rw[h]<;>decide) (by have:=I.rem;have:=I.ack0;omega) (by have:=I.rem1;omega) h3];rfl
section
variable {F0:List AId}{G0 G:ak}{ps:List LP}{Q:ah->ak->Prop}
theorem eI.use {f:StF}{n ca cb:Int}{vo vp vh:ah}(hS:ka G f vo vp vh) (hQ:∀ G',Ch [] G [] G'->Q (.tuple [.str (oH f n ca cb).1,.bool (oH f n ca cb).2]) G'):al P eI.n [f.s.av vo vp vh,.int .i64 n,bE ca cb] G Q:=by
 have ho:=hS.ok;have hl:=hS.lv;have hlo:=hS.lo;have hlp:=hS.lp;refine eI.sound ?_;unfold eI.S;unfold oH at hQ;intro i1 f1;have s1:=(Sp.nil G).row f1 (f.s.av vo vp vh);intro i3 f3;have s3:=s1.row f3 (bE ca cb);revert s3;generalize ak.upd _ i3 _=G4;intro s3;have hg:=au.own (i:=1) s3 rfl;refine ae (v:=.ptr i1 [13,0] 16) rfl ?_;refine ae (St.sg hg ho hl) ?_;refine pg s3 ho.ptsA fun i7 G9 s9=>?_;have hg:=au.own (i:=2) s9 rfl;refine ae (St.mS hg ho hl) ?_;rw[cD,aa];obtain⟨pt,hpt⟩:∃ pt,pt=if n≠f.s.ack then f.s.ptsB else f.s.ptsA:=⟨_,rfl⟩;rw[<- hpt]at hQ;have hp32:pt.length=32:=by
  rw[hpt];split
  ·exact ho.ptsB
  ·exact ho.ptsA
 intro J40;have go:∀ G2,Sp [] G [au i7 (.agg (pt.map u8v)),au i3 (bE ca cb),au i1 (f.s.av vo vp vh)] G2->J40 G2:=by
  intro G15 s15;simp -zeta only [J40];have hg:=au.own (i:=2) s15 rfl;refine ae (St.uM hg ho hl) ?_;refine ae (St.tC hg ho hl) ?_;refine ae (St.dM hg ho hl) ?_;refine ae (St.eH hg ho hl) ?_;refine ae (cj cK (au.own (i:=1) s15 rfl) rfl) ?_;refine eZ.use (hS.o.mv s15.ch) (hS.p.mv s15.ch) hS.oko hS.okp hS.lo hS.lp fun x G22 t22=>?_;have hFok:=qh hS ca cb;have hFlen:=uj f ca cb;unfold kx at hQ hFok hFlen;obtain⟨F,hF⟩:∃ F,F=mN f.s.bo f.s.bp f.o f.p ca cb:=⟨_,rfl⟩;rw[<- hF]at hQ hFok hFlen t22 ⊢;obtain⟨F22,o22,c22⟩:=t22.out;have s22:=s15.new o22 c22;have lx:=(bm.own (i:=0) s22 rfl).leaf;refine ae (tv0 _ _) ?_;refine ae (tv1 _ _) ?_;obtain⟨w1,w2,w3⟩:=rr (o:=F.o) (q:=F.q) lx;refine jL s22 ng w1 (by rw[w2];rfl) w3 fun i25 G27 s27=>?_;rw[cD,aa,dC];refine⟨fun h2=>?_,fun h2=>?_⟩
  ·rw[if_pos h2]at hQ;exact hQ _ s27.ch
  rw[if_neg (fun hh=>hh h2)]at hQ;have hg:=au.own (i:=4) s27 rfl;refine ae (St.lJ hg ho hl) ?_;rw[b7,aa];refine ae (bM hp32 (au.own (i:=2) s27 rfl)) ?_;refine ae (iI (i:=0) s27 rfl lx).2.2.2 ?_;refine gd.use (bm.own (i:=1) s27 rfl).is hFok (by omega) fun y G34 t34=>?_;obtain⟨F34,o34,c34⟩:=t34.out;have s34:=s27.new o34 c34;have hg:=au.own (i:=5) s34 rfl;refine⟨⟨bM hp32 (au.own (i:=3) s34 rfl),St.lJ hg ho hl,trivial⟩,?_⟩;have hTok:=zF hFok;refine eV.use hp32 (bm.own (i:=0) s34 rfl).is hTok (by rw[pI];omega) fun G36 c36=>?_;have s36:=s34.tmp c36;refine ae (tv0 _ _) ?_;refine ae (tv1 _ _) ?_;rw[bB,aa];exact hQ _ s36.ch
 by_cases h1:n=f.s.ack
 ·rw[if_neg (fun hh=>hh h1)]at hpt;rw[dT_ h1,Bool.not_true,aK];rw[<- hpt]at s9;exact go _ s9
 ·rw[if_pos h1]at hpt;rw[dF_ h1,Bool.not_false,aN];refine ae (v:=.ptr i1 [13,1] 48) rfl ?_;refine ae (St.zb hg ho hl) ?_;refine sq (i:=0) s9 rfl ho.ptsA ho.ptsB fun G14 s14=>?_;rw[<- hpt]at s14;exact go _ s14
theorem ef.use {f:StF}{c:CfM}{vo vp vh:ah}(hS:ka G f vo vp vh) (I:iY f) (hc:c.ok) (hQ:∀ G',Ch [] G [] G'->Q (tI c f).av G'):al P ef.n [c.av,f.s.av vo vp vh] G Q:=by
 have ho:=hS.ok;have hl:=hS.lv;refine ef.sound ?_;unfold ef.S;rw[EW];have hth:=I.Lp;have hlen:=DM (n:=f.s.rem) ho (qh hS f.s.sgnA f.s.sgnB);have hag:tI c f={ cr.zero with kind:=4,index:=f.s.rem,hash:=mac c.key (oH f f.s.rem f.s.sgnA f.s.sgnB).1 }:=by
  have h1:(kx f f.s.sgnA f.s.sgnB).e=0:=(I.Lc (a:=f.s.sgnA) (b:=f.s.sgnB) (by have:=I.a1;have:=I.a2;omega) I.a3 I.b1 (by have:=I.b2;have:=I.b3;omega)).1;have e:(oH f f.s.rem f.s.sgnA f.s.sgnB).1=(oI (IntKind.i64.wrap (1-f.s.side)) f.s.rem (if f.s.rem≠f.s.ack then f.s.ptsB else f.s.ptsA) (kx f f.s.sgnA f.s.sgnB).q (kx f f.s.sgnA f.s.sgnB).o (pE (kx f f.s.sgnA f.s.sgnB).l)).1:=by
   unfold oH;rw[if_neg (fun hh=>hh h1)]
  rw[e];rfl
 rw[hag]at hQ;obtain⟨W,hW⟩:∃ W,W=oH f f.s.rem f.s.sgnA f.s.sgnB:=⟨_,rfl⟩;rw[<- hW]at hQ hth hlen;intro i1 f1;have s1:=(Sp.nil G).row f1 c.av;intro i3 f3;have s3:=s1.row f3 (f.s.av vo vp vh);intro i5 f5;have s5:=s3.row f5 cr.zero.av;revert s5;generalize ak.upd _ i5 _=G6;intro s5;have hg:=au.own (i:=1) s5 rfl;refine ae (St.ld hg ho hl) ?_;refine ae (St.mn hg ho hl) ?_;refine ae (St.vr hg ho hl) ?_;refine eI.use (hS.mv s5.ch) fun G11 c11=>?_;rw[<- hW];have s11:=s5.tmp c11;refine ae (tv0 _ _) ?_;refine ae (tv1 _ _) ?_;rw[hth,dx,aa,Bool.not_true,aK];have hg:=au.own (i:=1) s11 rfl;refine ae (St.mn hg ho hl) ?_;refine ae (Cf.Jq (au.own (i:=2) s11 rfl) hc) ?_;refine fc.use hc.key (by omega) fun G21 c21=>?_;have s21:=s11.tmp c21;refine⟨⟨St.mn (au.own (i:=1) s21 rfl) ho hl,trivial⟩,?_⟩;have hz:(mac c.key W.1).length=32:=gU _;revert hQ hz;generalize mac c.key W.1=Z;intro hQ hz;have hok:({ cr.zero with kind:=4,index:=f.s.rem,hash:=Z }:cr).ok:=⟨iu 4 (by decide) (by decide),cL,cL,ho.rem,cL,hz,rfl,by simp[cr.zero]⟩;refine ae (yC hz) ?_;refine nK (i:=0) s21 rfl cr.bq hok fun G23 s23=>?_;refine ae (cj eQ (au.own (i:=0) s23 rfl) (cr.fits hok)) ?_;exact hQ _ s23.ch
theorem fj.use {f:StF}{vo vp vh:ah}{u:aL}(hS:ka G f vo vp vh) (I:iY f) (hu:u.ok) (hQ:∀ G',Ch [] G [] G'->Q (.int .i64 (vu f u)) G'):al P fj.n [f.s.av vo vp vh,u.av] G Q:=by
 have ho:=hS.ok;have hl:=hS.lv;have hlo:=hS.lo;have hlp:=hS.lp;refine fj.sound ?_;unfold fj.S;unfold vu at hQ;intro i1 f1;have s1:=(Sp.nil G).row f1 (f.s.av vo vp vh);intro i3 f3;have s3:=s1.row f3 u.av;revert s3;generalize ak.upd _ i3 _=G4;intro s3;refine ae (St.ld (au.own (i:=1) s3 rfl) ho hl) ?_;refine cg.use (hS.mv s3.ch) fun G7 c7=>?_;have s7:=s3.tmp c7;refine jL (c:=bE (mM f.s) (mD f.s)) s7 cK rfl rfl rfl fun i8 G10 s10=>?_;have s10:Sp [] G [au i8 (bE (mM f.s) (mD f.s)),au i3 u.av,au i1 (f.s.av vo vp vh)] G10:=s10;intro J71;have rem:∀ G2,Sp [] G [au i8 (bE (mM f.s) (mD f.s)),au i3 u.av,au i1 (f.s.av vo vp vh)] G2 ->
   (∀ G',Ch [] G [] G'->Q (.int .i64 (if (ey false u.id (cw f.o (mM f.s))).isSome=false then 120 else 0)) G')->J71 G2:=by
  intro G57 s57 hQ;simp -zeta only [J71];refine ae (St.dM (au.own (i:=2) s57 rfl) ho hl) ?_;refine ae (jW (au.own (i:=0) s57 rfl)).1 ?_;refine ae (bF (i:=1) s57 rfl hu).2.1 ?_;refine bQ.use (hS.o.mv s57.ch) hS.lo fun w hw=>?_;refine⟨⟨(bF (i:=1) s57 rfl hu).2.1,trivial⟩,?_⟩;have hfl:=jU f.o (mM f.s);have hfo:=mu (n:=mM f.s) hS.oko;refine eU.use hw.gZ hfo (by omega) fun G64 c64=>?_;have s64:=s57.tmp c64;have hA:=lT (rm:=false) (id:=u.id) hfo;obtain⟨A,eA⟩:∃ A,A=ey false u.id (cw f.o (mM f.s)):=⟨_,rfl⟩;rw[<- eA]at hA hQ ⊢;refine ae (z6 _) ?_;refine ae (zZ _) ?_;refine vX s64 hA fun i67 G69 s69=>?_;rw[dx,aa];cases hAs:A.isSome with
  | false=>
   rw[hAs,if_pos rfl]at hQ;exact hQ _ s69.ch
  | true=>
   rw[hAs,if_neg (by decide)]at hQ;rw[Bool.not_true,aK];exact hQ _ s69.ch
 refine ae (St.ld (au.own (i:=2) s10 rfl) ho hl) ?_;refine cd.use (hS.mv s10.ch) fun G13 c13=>?_;have s13:=s10.tmp c13;rw[gO];refine⟨fun hd=>?_,fun hd=>?_⟩
 ·rw[if_pos hd]at hQ;exact hQ _ s13.ch
 rw[if_neg (by rw[hd];decide)]at hQ;have hg:=au.own (i:=2) s13 rfl;refine ae (St.eH hg ho hl) ?_;refine ae (dh (hS.p.gZ.ch' s13.ch)) ?_;refine ae (St.od hg ho hl) ?_;rw[b7,aa,fI,aa,aI];refine⟨fun h1=>?_,fun h1=>?_⟩
 ·rw[if_pos h1]at hQ;exact hQ _ s13.ch
 rw[if_neg h1]at hQ;refine ae (St.eH hg ho hl) ?_;refine ae (St.dM hg ho hl) ?_;refine ae (bF (i:=1) s13 rfl hu).2.2.2.2.2 ?_;refine fa.use (hS.p.gZ.ch' s13.ch) (hS.o.gZ.ch' s13.ch) hS.okp hS.oko (by omega) (by omega) hu fun G23 c23=>?_;have s23:=s13.tmp c23;rw[cD,aa,dC];refine⟨fun h2=>?_,fun h2=>?_⟩
 ·rw[if_pos h2]at hQ;exact hQ _ s23.ch
 rw[if_neg (fun hh=>hh h2)]at hQ;intro J53;refine ae (bF (i:=1) s23 rfl hu).1 ?_;rw[bB,aa,aI];refine⟨fun hk=>?_,fun hk=>?_⟩
 ·rw[if_pos hk]at hQ;have hg:=au.own (i:=2) s23 rfl;refine ae (St.eH hg ho hl) ?_;refine ae (St.dM hg ho hl) ?_;refine ae (jW (au.own (i:=0) s23 rfl)).1 ?_;refine bQ.use (hS.o.mv s23.ch) hS.lo fun w hw=>?_;refine⟨⟨St.eH hg ho hl,trivial⟩,?_⟩;have hfl:=jU f.o (mM f.s);refine eT.use (hS.p.gZ.ch' s23.ch) hw.gZ hS.lp (by omega) ?_;rw[Ac I.vp I.vo];rw[fI,aa];by_cases h3:(483:Int)≤((kX f.p f.o (mM f.s):Nat):Int)
  ·rw[if_pos (by omega)]at hQ;rw[dT_ h3];simp -zeta only [J53,aN];exact hQ _ s23.ch
  ·rw[if_neg (by omega)]at hQ;rw[dF_ h3];simp -zeta only [J53,aK];refine ae (bF (i:=1) s23 rfl hu).1 ?_;rw[hk,ez0,aa,aN];refine ae (bF (i:=1) s23 rfl hu).2.2.1 ?_;refine ae (St.ld hg ho hl) ?_;refine b5.use (hS.mv s23.ch) I fun G42 c42=>?_;have s42:=s23.tmp c42;refine⟨⟨(bF (i:=1) s42 rfl hu).2.2.1,trivial⟩,?_⟩;rw[da,aa,aI];refine⟨fun h4=>?_,fun h4=>?_⟩
   ·rw[if_pos h4]at hQ;exact hQ _ s42.ch
   rw[if_neg h4]at hQ;refine ae (bF (i:=1) s42 rfl hu).1 ?_;rw[hk,ez0,aa,aN];exact hQ _ s42.ch
 ·rw[if_neg hk]at hQ;simp -zeta only [J53,aK];have e1:az T .eql ay (.int .i64 u.kind) (.int .i64 1)=some (.bool false):=by rw[bB,dF_ hk]
  refine ae (bF (i:=1) s23 rfl hu).1 ?_;rw[e1,aa,aK];refine ae (bF (i:=1) s23 rfl hu).1 ?_;rw[e1,aa,aK];refine rem _ s23 fun G' hc=>?_;have hq:=hQ G' hc;by_cases hA:(ey false u.id (cw f.o (mM f.s))).isSome=false
  ·rw[if_pos hA]at hq ⊢;exact hq
  ·rw[if_neg hA]at hq ⊢;have hA':(ey false u.id (cw f.o (mM f.s))).isSome=true:=(Bool.not_eq_false _).mp hA;have e2:ey false u.id f.o=ey false u.id (cw f.o (mM f.s)):=by
    have:=yu (Y:=f.o.drop (mM f.s).toNat) hA';unfold cw at this ⊢
    rwa [List.take_append_drop]at this
   have h5:=((nG h2).2.2 hk).2.2;rw[e2]at h5;rw[if_neg h5]at hq;exact hq
theorem gb.use {f:StF}{c:CfM}{m:cr}{vo vp vh:ah}(hS:ka G f vo vp vh) (I:iY f) (hc:c.ok) (hm:m.ok)
  (hQ:∀ w G',Sp [] G [bm 36 w ((mU c f m).l.map aL.av)] G'->Q (.tuple [(mU c f m).r.av w,.int .i64 (mU c f m).e]) G'):al P gb.n [c.av,f.s.av vo vp vh,m.av] G Q:=by
 have ho:=hS.ok;have hl:=hS.lv;have hlo:=hS.lo;have hlp:=hS.lp;refine gb.sound ?_;unfold gb.S;rw[uU];obtain⟨R,hR⟩:∃ R,R=mU c f m:=⟨_,rfl⟩;rw[<- hR]at hQ;unfold mU at hR;intro i1 f1;have s1:=(Sp.nil G).row f1 c.av;intro i3 f3;have s3:=s1.row f3 (f.s.av vo vp vh);intro i5 f5;have s5:=s3.row f5 m.av;intro i7 f7;have s7:=s5.row f7 (RcM.zero.av .nilSlice);revert s7;generalize ak.upd _ i7 _=G8;intro s7;have hg:=au.own (i:=2) s7 rfl;refine ae (St.qc hg ho hl) ?_;refine ae (St.eH hg ho hl) ?_;refine ae (dh (hS.p.gZ.ch' s7.ch)) ?_;refine ae (v:=bE f.s.heldA (f.p.length:Nat)) rfl ?_;refine jL (c:=bE f.s.heldA (f.p.length:Nat)) s7 cK rfl rfl rfl fun i13 G15 s15=>?_;refine ae (St.ld (au.own (i:=3) s15 rfl) ho hl) ?_;refine cd.use (hS.mv s15.ch) fun G18 c18=>?_;have s18:=s15.tmp c18;have s18:Sp [] G [au i13 (bE f.s.heldA (f.p.length:Nat)),au i7 (RcM.zero.av .nilSlice),au i5 m.av,au i3 (f.s.av vo vp vh),au i1 c.av] G18:=s18;have no:∀ {e:Int}{G2:ak},Sp [] G [au i13 (bE f.s.heldA (f.p.length:Nat)),au i7 (RcM.zero.av .nilSlice),au i5 m.av,au i3 (f.s.av vo vp vh),au i1 c.av] G2->R=noC e ->
   wv (bj T ax []) fun v17=>wg (aF T G2 ax (.ptr i7 [] 0) v17) fun G18=>wv (ag T G18 ax (.ptr i7 [] 0)) fun v19=>Q (.tuple [v19,.int .i64 e]) G18:=by
  intro e G2 s2 he;refine kz (j:=1) s2 rfl RcM.bq bw.nil fun G' s'=>?_;have:=hQ .nilSlice G';rw[he]at this;exact this (((Sp.nil G).tmp s'.ch).nz 36)
 rw[gO];refine⟨fun hd=>no s18 (by rw[hR,if_pos hd]),fun hd=>?_⟩;rw[if_neg (by rw[hd];decide)]at hR;obtain⟨m0,_,_,m3,_,m5,_,_,_⟩:=gx (i:=2) s18 rfl hm;refine ae m0 ?_;rw[cD,aa,dC];refine⟨fun h1=>no s18 (by rw[hR,if_pos h1]),fun h1=>?_⟩;rw[if_neg (fun hh=>hh h1)]at hR;have hg:=au.own (i:=3) s18 rfl;intro J44;have bad:(281474976710653<f.s.loc\/m.index≠f.s.loc+1)->J44 (.bool true) G18:=by
  intro hb;simp -zeta only [J44,aN];exact no s18 (by rw[hR,if_pos hb])
 have lK:¬ (281474976710653<f.s.loc\/m.index≠f.s.loc+1)->J44 (.bool false) G18:=by
  intro hb;rw[if_neg hb]at hR;simp -zeta only [J44,aK];refine ae (cj cK (au.own (i:=0) s18 rfl) rfl) ?_;refine ae (St.GV hg ho hl) ?_;rw[r6 (t:=aU),aa,aI];refine⟨fun h2=>no s18 (by rw[hR,if_pos h2]),fun h2=>?_⟩;rw[if_neg h2]at hR;refine ae (Cf.ld (au.own (i:=4) s18 rfl) hc) ?_;refine ae (St.ld hg ho hl) ?_;refine ae m3 ?_;refine ae (cj cK (au.own (i:=0) s18 rfl) rfl) ?_;refine ga.use (hS.mv s18.ch) hc fun G50 c50=>?_;have s50:=s18.tmp c50;have hol:=Eb (c:=c) (n:=m.index) (qh hS f.s.heldA (f.p.length:Nat));obtain⟨W,hW⟩:∃ W,W=yV c f m.index f.s.heldA (f.p.length:Nat):=⟨_,rfl⟩;rw[<- hW]at hR hol ⊢;refine ae (tv0 _ _) ?_;refine ae (tv1 _ _) ?_;intro J80;have bad2:∀ G2,Sp [] G [au i13 (bE f.s.heldA (f.p.length:Nat)),au i7 (RcM.zero.av .nilSlice),au i5 m.av,au i3 (f.s.av vo vp vh),au i1 c.av] G2->(W.2=false\/mac c.pkey W.1≠m.hash)->J80 (.bool true) G2:=by
   intro G2 s2 hb;simp -zeta only [J80,aN];exact no s2 (by rw[hR,if_pos hb])
  have good2:∀ G2,Sp [] G [au i13 (bE f.s.heldA (f.p.length:Nat)),au i7 (RcM.zero.av .nilSlice),au i5 m.av,au i3 (f.s.av vo vp vh),au i1 c.av] G2->¬ (W.2=false\/mac c.pkey W.1≠m.hash)->J80 (.bool false) G2:=by
   intro G65 s65 hb;rw[if_neg hb]at hR;simp -zeta only [J80,aK];have hg:=au.own (i:=3) s65 rfl;obtain⟨_,_,_,m3,_,m5,_,_,_⟩:=gx (i:=2) s65 rfl hm;refine ae m3 ?_;refine ae (St.eH hg ho hl) ?_;refine ae (St.od hg ho hl) ?_;have hb0:0≤f.s.atB:=(by have:=I.b0;have:=I.b1;have:=I.b2;omega);have hfl:(cw f.p f.s.atB).length=f.s.atB.toNat:=by
    unfold cw;rw[List.length_take];have:=I.b3;omega
   rw[hfl]at hR;obtain⟨w2,e1,e2⟩:=hJ.drop (ie:=cG) (k:=.i64) (m:=f.s.atB.toNat) bT rfl dE (hS.p.mv s65.ch) (by rw[List.length_map];have:=I.b3;omega);rw[<- List.map_drop]at e2;rw[Int.toNat_of_nonneg hb0]at e1;refine ae e1 ?_;refine ae m5 ?_;have okd:∀ u∈f.p.drop f.s.atB.toNat,u.ok:=fun u hu=>hS.okp u (List.mem_of_mem_drop hu);refine uN (T:=T) (ts:=aj) (e:=aG) (si:=dL) (ie:=cG) (tx:=aj) (xi:=dL) (i:=0) (vs:=[]) (xs:=(f.p.drop f.s.atB.toNat).map aL.av) bT rfl dE rfl (by decide) bT (.inr ⟨_,rfl⟩) (s65.nz 36) rfl e2.elems (nW okd).1 (nW okd).2 (by rw[show cG.bytes=72 from rfl,List.length_map,List.length_drop];simp;omega) fun w3 G76 s76=>?_;have s76:Sp [] G [bm 36 w3 ((f.p.drop f.s.atB.toNat).map aL.av),au i13 (bE f.s.heldA (f.p.length:Nat)),au i7 (RcM.zero.av .nilSlice),au i5 m.av,au i3 (f.s.av vo vp vh),au i1 c.av] G76:=s76;obtain⟨_,_,_,m3,_,m5,_,_,_⟩:=gx (i:=3) s76 rfl hm;refine⟨⟨m5,m3,trivial⟩,?_⟩;have lw:bw w3:=(bm.own (i:=0) s76 rfl).leaf;have hok:({ RcM.zero with kind:=3,index:=m.index,sig:=m.hash }:RcM).ok:=⟨iu 3 (by decide) (by decide),aL.bq,hm.index,cL,cL,hm.hash,rfl,rfl,cL⟩;refine ae (AV hm.hash lw) ?_;refine Rc.st (i:=2) s76 rfl RcM.bq bw.nil hok lw fun G78 s78=>?_;refine ae (Rc.ld (au.own (i:=2) s78 rfl) hok lw) ?_;have:=hQ w3 G78;rw[hR]at this;exact this ((((s78.erase 1).erase 1).erase 1).erase 1 |>.erase 1)
  rw[dx,aa];cases hW2:W.2 with
  | false=>
   rw[Bool.not_false,aN];exact bad2 _ s50 (.inl hW2)
  | true=>
   rw[Bool.not_true,aK];refine ae (Cf.GR (au.own (i:=4) s50 rfl) hc) ?_;obtain⟨_,_,_,_,_,m5,_,_,_⟩:=gx (i:=2) s50 rfl hm;refine ae m5 ?_;refine fl.use hc.pkey hm.hash (by omega) fun G57 c57=>?_;have s57:=s50.tmp c57;rw[dx,aa];by_cases h3:mac c.pkey W.1=m.hash
   ·rw[dT_ h3,Bool.not_true,aK];have hg:=au.own (i:=3) s57 rfl;have hb0:0≤f.s.atB:=(by have:=I.b0;have:=I.b1;have:=I.b2;omega);have hb3:=I.b3;refine ae (St.od hg ho hl) ?_;rw[aM,aa,dF_ (by omega),aK];refine ae (St.od hg ho hl) ?_;refine ae (St.eH hg ho hl) ?_;refine ae (dh (hS.p.gZ.ch' s57.ch)) ?_;rw[da,aa,dF_ (by omega)];exact good2 _ s57 (by rw[hW2];simp[h3])
   ·rw[dF_ h3,Bool.not_false,aN];exact bad2 _ s57 (.inr h3)
 refine ae m3 ?_;refine ae (St.qb hg ho hl) ?_;have hloc:=I.loc1;have hloc0:=I.loc0;rw[bg,i64_in (by omega) (by omega),aa,cD,aa,dC];refine⟨fun h2=>bad (.inr h2),fun h2=>?_⟩;refine ae (St.qb hg ho hl) ?_;rw[da,aa];by_cases h3:281474976710653<f.s.loc
 ·rw[dT_ h3];exact bad (.inl h3)
 ·rw[dF_ h3];exact lK (by rintro (h | h);exact h3 h;exact h h2)
theorem dW.use {f:StF}{m:cr}{vo vp vh:ah}(hS:ka G f vo vp vh) (I:iY f) (hm:m.ok) (hQ:∀ G',Ch [] G [] G'->Q (w8 (jR f m)) G'):al P dW.n [f.s.av vo vp vh,m.av] G Q:=by
 have ho:=hS.ok;have hl:=hS.lv;refine dW.sound ?_;unfold dW.S;rw[uU];unfold jR at hQ;have hrem:=I.rem;have hrem1:=I.rem1;have hack:=I.ack0;rw[i64_in (n:=f.s.rem-1) (by omega) (by omega)]at hQ;intro i1 f1;have s1:=(Sp.nil G).row f1 (f.s.av vo vp vh);intro i3 f3;have s3:=s1.row f3 m.av;intro i5 f5;have s5:=s3.row f5 (RcM.zero.av .nilSlice);revert s5;generalize ak.upd _ i5 _=G6;intro s5;refine ae (St.ld (au.own (i:=2) s5 rfl) ho hl) ?_;refine cd.use (hS.mv s5.ch) fun G9 c9=>?_;have s9:=s5.tmp c9;have s9:Sp [] G [au i5 (RcM.zero.av .nilSlice),au i3 m.av,au i1 (f.s.av vo vp vh)] G9:=s9;rw[gO];refine⟨fun hd=>?_,fun hd=>?_⟩
 ·rw[if_pos hd]at hQ;exact kz (j:=0) s9 rfl RcM.bq bw.nil fun G' s'=>hQ G' s'.ch
 rw[if_neg (by rw[hd];decide)]at hQ;obtain⟨m0,_,_,m3,_,_,_,_,_⟩:=gx (i:=1) s9 rfl hm;refine ae m0 ?_;rw[cD,aa,dC];refine⟨fun h1=>?_,fun h1=>?_⟩
 ·rw[if_pos h1]at hQ;exact kz (j:=0) s9 rfl RcM.bq bw.nil fun G' s'=>hQ G' s'.ch
 rw[if_neg (fun hh=>hh h1)]at hQ;have hg:=au.own (i:=2) s9 rfl;intro J39;have bad:(f.s.rem=f.s.ack\/f.s.rem-1≠f.s.ack\/m.index≠f.s.ack)->J39 (.bool true) G9:=by
  intro hb;rw[if_pos hb]at hQ;simp -zeta only [J39,aN];exact kz (j:=0) s9 rfl RcM.bq bw.nil fun G' s'=>hQ G' s'.ch
 have lK:¬ (f.s.rem=f.s.ack\/f.s.rem-1≠f.s.ack\/m.index≠f.s.ack)->J39 (.bool false) G9:=by
  intro hb;rw[if_neg hb]at hQ;simp -zeta only [J39,aK];refine ae (gx (i:=1) s9 rfl hm).2.2.2.2.2.2.1 ?_;refine ae (v:=.ptr i1 [13,0] 16) rfl ?_;refine ae (St.sg hg ho hl) ?_;refine cA.use hm.secret fun G34 c34=>?_;have s34:=s9.tmp c34;have hg:=au.own (i:=2) s34 rfl;refine⟨⟨St.sg hg ho hl,trivial⟩,?_⟩;rw[qg (je _) ho.ptsA,aa,dC];refine⟨fun h2=>?_,fun h2=>?_⟩
  ·rw[if_pos h2]at hQ;exact kz (j:=0) s34 rfl RcM.bq bw.nil fun G' s'=>hQ G' s'.ch
  rw[if_neg (fun hh=>hh h2)]at hQ;refine ae (St.l6 hg ho hl) ?_;refine ae (St.mS hg ho hl) ?_;refine ae (gx (i:=1) s34 rfl hm).2.2.2.2.2.2.1 ?_;refine fN.use (hS.h.gZ.ch' s34.ch) hS.okh hS.lh hm.secret fun w G44 t44=>?_;have s44:=s34.tmp t44.ch;refine ae (tv0 _ _) ?_;refine ae (tv1 _ _) ?_;rw[cD,aa,dC];refine⟨fun h3=>?_,fun h3=>?_⟩
  ·rw[if_pos h3]at hQ;exact kz (j:=0) s44 rfl RcM.bq bw.nil fun G' s'=>hQ G' s'.ch
  rw[if_neg (fun hh=>hh h3)]at hQ;have hg:=au.own (i:=2) s44 rfl;obtain⟨_,_,_,_,_,m5,m6,_,_⟩:=gx (i:=1) s44 rfl hm;refine ae (St.mS hg ho hl) ?_;refine ae m6 ?_;refine ae m5 ?_;have hok:({ RcM.zero with kind:=4,index:=f.s.ack,secret:=m.secret,point:=m.hash }:RcM).ok:=⟨iu 4 (by decide) (by decide),aL.bq,ho.ack,cL,cL,rfl,hm.secret,hm.hash,cL⟩;refine ae (Cm hm.secret hm.hash) ?_;refine Rc.st (i:=0) s44 rfl RcM.bq bw.nil hok bw.nil fun G55 s55=>?_;refine ae (Rc.ld (au.own (i:=0) s55 rfl) hok bw.nil) ?_;exact hQ _ s55.ch
 refine ae (St.mn hg ho hl) ?_;refine ae (St.mS hg ho hl) ?_;rw[bg,i64_in (by omega) (by omega),aa,cD,aa,dC];refine⟨fun h2=>bad (by omega),fun h2=>?_⟩;refine ae m3 ?_;refine ae (St.mS hg ho hl) ?_;rw[cD,aa];by_cases h4:m.index=f.s.ack
 ·rw[dT_ h4];exact lK (by rintro (h | h | h);omega;omega;exact h h4)
 ·rw[dF_ h4];exact bad (.inr (.inr h4))
end
end Go.Esc.M
namespace Go.Esc
open Go Go.RowKit
theorem Sps.front {G:ak}:∀ {ps:List LP}{Fs:List (List AId)},Sps ps Fs G->∀ {i:Nat}{p:LP},ps[i]?=some p->∃ F,Sps (p::ps.eraseIdx i) (F::Fs.eraseIdx i) G/\∀ j∈(F::Fs.eraseIdx i).flatten,j∈Fs.flatten
 | [],_,_,_,_,hi=>by simp at hi
 | _::_,[],h,_,_,_=>h.elim
 | q::ps,E::Fs,h,0,p,hi=>by
  simp at hi;subst hi;exact⟨E,h,fun j hj=>hj⟩
 | q::ps,E::Fs,h,i+1,p,hi=>by
  obtain⟨h1,h2,h3⟩:=h;obtain⟨F,⟨k1,k2,k3⟩,k4⟩:=Sps.front h3 (i:=i) (p:=p) (by simpa using hi);have hF:∀ j∈F,j∈Fs.flatten:=fun j hj=>k4 j (by simp[hj]);refine⟨F,⟨k1,fun j hj hm=>?_,h1,fun j hj hm=>h2 j hj (k4 j ?_),k3⟩,fun j hj=>?_⟩
  ·have hm:j∈E\/j∈(Fs.eraseIdx i).flatten:=(by simpa using hm);rcases hm with hm|hm
   ·exact h2 j hm (hF j hj)
   ·exact k2 j hj hm
  ·simp only[List.flatten_cons,List.mem_append];exact .inr hm
  ·have hj:j∈F\/j∈E\/j∈(Fs.eraseIdx i).flatten:=(by simpa using hj);simp only[List.flatten_cons,List.mem_append];rcases hj with hj|hj|hj
   ·exact .inr (hF j hj)
   ·exact .inl hj
   ·exact .inr (k4 j (by simp only[List.flatten_cons,List.mem_append];exact .inr hj))
section
variable {F0:List AId}{G0 G:ak}{ps:List LP}
theorem Sp.front {p:LP}{i:Nat}(h:Sp F0 G0 ps G) (hi:ps[i]?=some p):Sp F0 G0 (p::ps.eraseIdx i) G:=by
 obtain⟨Fs,h1,h2⟩:=h;obtain⟨F,k1,k2⟩:=h1.front hi;exact⟨_,k1,h2.ro,h2.others,fun j hj=>h2.row j (k2 j hj)⟩
theorem Sps.take:∀ {ps:List LP}{Fs:List (List AId)},Sps ps Fs G->∀ n:Nat,Sps (ps.take n) (Fs.take n) G
 | [],[],_,n=>by simp[Sps]
 | [],_::_,h,_=>h.elim
 | _::_,[],h,_=>h.elim
 | p::ps,F::Fs,h,0=>by simp[Sps]
 | p::ps,F::Fs,h,n+1=>⟨h.1,fun j hj hm=>h.2.1 j hj (by
   simp only[List.mem_flatten]at hm ⊢
   obtain⟨l,hl,hj⟩:=hm
   exact⟨l,List.mem_of_mem_take hl,hj⟩),Sps.take h.2.2 n⟩
theorem Sp.take (h:Sp F0 G0 ps G) (n:Nat):Sp F0 G0 (ps.take n) G:=by
 obtain⟨Fs,h1,h2⟩:=h;refine⟨_,h1.take n,h2.ro,h2.others,fun j hj=>h2.row j ?_⟩;simp only[List.mem_flatten]at hj ⊢;obtain⟨l,hl,hj⟩:=hj;exact⟨l,List.mem_of_mem_take hl,hj⟩
end
end Go.Esc
namespace Go.Esc.M
open Go Go.Esc
def q6 (f:StF) (u:aL):StF:=⟨f.s,f.o++[u],f.p,f.h⟩
def yG (f:StF) (r:RcM):StF:=⟨{ f.s with rem:=r.index,sgnA:=r.cntA,sgnB:=r.cntB,behind:=true },f.o,f.p,f.h⟩
def xS (f:StF) (r:RcM) (l:List aL):StF:=⟨{ f.s with loc:=r.index,atA:=f.s.heldA,atB:=((cw f.p f.s.atB++l).length:Nat),sig:=r.sig,behind:=false },f.o,cw f.p f.s.atB++l,f.h⟩
def uQ (f:StF) (r:RcM):StF:=⟨{ f.s with ack:=f.s.ack+1,heldA:=f.s.sgnA,heldB:=f.s.sgnB,ptsA:=f.s.ptsB,ptsB:=r.point },f.o,f.p,(tw f.h r.index r.secret).1⟩
def Bb (f:StF) (r:RcM) (l:List aL) (f':StF):Prop:=
 (r.kind=1/\kJ f.o f.p r.upd=0/\f'=q6 f r.upd) ∨
 (r.kind=2/\f.s.rem=f.s.ack/\r.index=f.s.rem+1/\r.cntB=f.s.atB/\f.s.sgnA≤r.cntA/\r.cntA≤(f.o.length:Nat)/\f'=yG f r) ∨
 (r.kind=3/\(∀ (j:Nat) (u:aL),l[j]?=some u->kJ (cw f.p f.s.atB++l.take j) f.o u=0)/\r.index=f.s.loc+1/\f'=xS f r l) ∨
 (r.kind=4/\(tw f.h r.index r.secret).2=0/\f.s.rem=f.s.ack+1/\r.index=f.s.ack/\f'=uQ f r)
section
variable {F0:List AId}{G0 G:ak}{ps:List LP}{Q:ah->ak->Prop}
theorem Jz {x:ah}{l:List aL}{K:ah->ak->Prop}(s:Sp F0 G0 ps G) (hx:ff 36 G x (l.map aL.av)) (hok:∀ u∈l,u.ok) (hlen:l.length≤1048576) (hK:∀ w G2,Sp F0 G0 (bm 36 w (l.map aL.av)::ps) G2->K w G2):cn T G aj aj .nilSlice x K:=by
 refine uN (T:=T) (ts:=aj) (e:=aG) (si:=dL) (ie:=cG) (tx:=aj) (xi:=dL) (i:=0) (vs:=[]) (xs:=l.map aL.av) bT rfl dE rfl (by decide) bT (.inr ⟨_,rfl⟩) (s.nz 36) rfl hx.elems (nW hok).1 (nW hok).2 (by rw[show cG.bytes=72 from rfl,List.length_map];simp;omega) fun w G5 s5=>?_;exact hK w G5 s5
theorem Jy {v:ah}{l:List aL}{i:Nat}{u:aL}{K:ah->ak->Prop}(hs:Sp F0 G0 ps G) (hi:ps[i]?=some (bm 36 v (l.map aL.av))) (hu:u.ok) (hl:l.length≤1100000000) (hK:∀ w G',Sp F0 G0 (ps.set i (bm 36 w ((l++[u]).map aL.av))) G'->K w G') :
  bu T aj 1 [(0,u.av)] G fun v2 G'=>cn T G' aj aj v v2 K:=
 wm (T:=T) (ts:=aj) (e:=aG) (si:=dL) (ie:=cG) (i:=i) (vs:=l.map aL.av) bT rfl dE rfl (by decide) hs hi (aL.sz hu) (aL.okv _) (by decide) (by rw[List.length_map];simp only[cG];omega) fun w G' s=>hK w G' (by rw[List.map_append];exact s)
theorem ee.use {v w x:ah}{own other l:List aL}(hv:ff 36 G v (own.map aL.av)) (hw:ff 36 G w (other.map aL.av)) (hx:ff 36 G x (l.map aL.av)) (ok1:∀ u∈own,u.ok) (ok2:∀ u∈other,u.ok) (ok3:∀ u∈l,u.ok)
  (hlen:own.length+l.length≤1048576) (hlen2:other.length≤1048576) (h:∀ (j:Nat) (u:aL),l[j]?=some u->kJ (own++l.take j) other u=0)
  (hQ:∀ z G',Sp [] G [bm 36 z ((own++l).map aL.av)] G'->Q (.tuple [z,.bool true]) G'):al P ee.n [v,w,x] G Q:=by
 refine ee.sound ?_;unfold ee.S;refine Jz (Sp.nil G) hv ok1 (by omega) fun z G2 s2=>?_;intro R hR;have loop:∀ (n j:Nat) (z:ah) (G':ak),l.length-j=n->j≤l.length->Sp [] G [bm 36 z ((own++l.take j).map aL.av)] G'->R [w,x,z,.int .i64 (j:Int)] G':=by
  intro n;induction n with
  | zero=>
   intro j z G' hn hj s;have:j=l.length:=(by omega);subst this;rw[List.take_length]at s;refine hR _ _ _ _ _ ?_;refine ae (dh (hx.ch' s.ch)) ?_;rw[aM,aa,aI];exact⟨fun h=>absurd h (by omega),fun _=>hQ z G' s⟩
  | succ n ih=>
   intro j z G' hn hj s;obtain⟨u,hu⟩:∃ u,l[j]?=some u:=⟨_,List.getElem?_eq_getElem (by omega)⟩;have huo:=ok3 u (List.mem_of_getElem? hu);have hlt:(own++l.take j).length≤1048576:=(by rw[List.length_append,List.length_take];omega);have okj:∀ y∈own++l.take j,y.ok:=by
    intro y hy;rcases List.mem_append.1 hy with hy|hy
    ·exact ok1 y hy
    ·exact ok3 y (List.mem_of_mem_take hy)
   refine hR _ _ _ _ _ ?_;refine ae (dh (hx.ch' s.ch)) ?_;rw[aM,aa,aI];refine⟨fun _=>?_,fun h=>absurd (by omega) h⟩;obtain⟨a,a1,a2⟩:=nD (hx.ch' s.ch) hu;refine ae a1 ?_;refine ae a2 ?_;refine fa.use (bm.own (i:=0) s rfl).is (hw.ch' s.ch) okj ok2 (by omega) (by omega) huo fun G14 c14=>?_;have s14:=s.tmp c14;rw[h j u hu];refine ae nz0 ?_;rw[aK];obtain⟨a,a1,a2⟩:=nD (hx.ch' s14.ch) hu;refine ae a1 ?_;refine ae a2 ?_;refine Jy (i:=0) s14 rfl huo (by omega) fun z' G21 s21=>?_;rw[bg,i64_in (by omega) (by omega),aa];refine ih (j+1) z' G21 (by omega) (by omega) ?_;rw[List.take_add_one,hu,<- List.append_assoc];exact s21
 exact loop l.length 0 z G2 (by omega) (by omega) (by simpa using s2)
theorem dX.use {f f':StF}{r:RcM}{l:List aL}{v vo vp vh:ah}(hS:ka G f vo vp vh) (hr:r.ok) (hv:bw v) (hl:ff 36 G v (l.map aL.av)) (okl:∀ u∈l,u.ok) (hll:l.length≤4096) (hlo:f.o.length≤4096) (hlp:f.p.length≤4096) (hlh:f.h.length≤49) (h:Bb f r l f')
  (hQ:∀ wo wp wh G',Sp [] G [bm 34 wh (f'.h.map b6.av),bm 36 wp (f'.p.map aL.av),bm 36 wo (f'.o.map aL.av)] G'->Q (.tuple [f'.s.av wo wp wh,.bool true]) G'):al P dX.n [f.s.av vo vp vh,r.av v] G Q:=by
 have ho:=hS.ok;have lS:=hS.lv;refine dX.sound ?_;unfold dX.S;rw[EV];intro i1 f1;have s1:=(Sp.nil G).row f1 (f.s.av vo vp vh);intro i3 f3;have s3:=s1.row f3 (r.av v);intro i5 f5;have s5:=s3.row f5 (StM.zero.av .nilSlice .nilSlice .nilSlice);revert s5;generalize ak.upd _ i5 _=G6;intro s5;rw[<- EV];refine ae (St.ld (au.own (i:=2) s5 rfl) ho lS) ?_;refine fL.use (hS.mv s5.ch) fun wo0 wp0 wh G9 t9=>?_;have s9:Sp [] G [bm 34 wh (f.h.map b6.av),bm 36 wp0 ((cw f.p f.s.atB).map aL.av),bm 36 wo0 (f.o.map aL.av),au i5 (StM.zero.av .nilSlice .nilSlice .nilSlice),au i3 (r.av v),au i1 (f.s.av vo vp vh)] G9:=by
  obtain⟨Fs,h1,h2⟩:=s5;obtain⟨Gs,t1,t2⟩:=t9;have key:∀ {G':ak}{qs ps:List LP}{Gs Fs:List (List AId)},Sps ps Fs G'->Sps qs Gs G'->(∀ j∈Gs.flatten,j ∉ Fs.flatten)->Sps (qs++ps) (Gs++Fs) G':=by
   intro G' qs;induction qs with
   | nil=>
    intro ps Gs Fs h t _;cases Gs with
    | nil=>exact h
    | cons _ _=>exact t.elim
   | cons q qs ih=>
    intro ps Gs Fs h t hd;cases Gs with
    | nil=>exact t.elim
    | cons E Gs=>
     obtain⟨t1,t2,t3⟩:=t;refine⟨t1,fun j hj hm=>?_,ih h t3 fun j hj=>hd j (by simp only[List.flatten_cons,List.mem_append];exact .inr hj)⟩;have hm:j∈(Gs++Fs).flatten:=hm;rw[List.flatten_append,List.mem_append]at hm;rcases hm with hm|hm
     ·exact t2 j hj hm
     ·exact hd j (by simp only[List.flatten_cons,List.mem_append];exact .inl hj) hm
  refine⟨Gs++Fs,key (qs:=[bm 34 wh (f.h.map b6.av),bm 36 wp0 ((cw f.p f.s.atB).map aL.av),bm 36 wo0 (f.o.map aL.av)]) (h1.same fun j hj=>t2.same (E:=Fs.flatten) h1.rows (by simp) j hj) t1 fun j hj hm=>?_,h2.trans ?_⟩
  ·rcases t2.row j hj with h'|h'
   ·simp at h'
   ·have:=h1.rows j hm;rw[h']at this;cases this
  ·have:=t2.more (E:=Fs.flatten);simpa using this
 have l0:bw wo0/\bw wp0/\bw wh:=⟨(bm.own (i:=2) s9 rfl).leaf,(bm.own (i:=1) s9 rfl).leaf,(bm.own (i:=0) s9 rfl).leaf⟩;refine St.nw s9 ho l0 fun i10 G12 s12=>?_;refine ae (St.eH (au.own (i:=6) s12 rfl) ho lS) ?_;refine Jz s12 (hS.p.gZ.ch' s12.ch) hS.okp hS.lp fun wp G15 s15=>?_;have lp:=(bm.own (i:=0) s15 rfl).leaf;refine St.tg (i:=1) s15 rfl ho l0 lp fun G16 s16=>?_;have l1:bw wo0/\bw wp/\bw wh:=⟨l0.1,lp,l0.2.2⟩;have s16:Sp [] G [bm 36 wp (f.p.map aL.av),au i10 (f.s.av wo0 wp wh),bm 34 wh (f.h.map b6.av),bm 36 wp0 ((cw f.p f.s.atB).map aL.av),bm 36 wo0 (f.o.map aL.av),au i5 (StM.zero.av .nilSlice .nilSlice .nilSlice),au i3 (r.av v),au i1 (f.s.av vo vp vh)] G16:=s16;have hg:=au.own (i:=7) s16 rfl;have hr3:=au.own (i:=6) s16 rfl;refine ae (Rc.sj hr3 hr hv) ?_;rw[bB,aa,aI];have nk:∀ {a b:Int}{t:TypeId},a=b->az T .eql t (.int .i64 a) (.int .i64 b)=some (.bool true):=fun h=>by rw[h];exact ez0
 refine⟨fun hk=>?_,fun hk1=>?_⟩
 ·obtain⟨_,hn,rfl⟩:r.kind=1/\kJ f.o f.p r.upd=0/\f'=q6 f r.upd:=by
   rcases h with h|⟨h,_⟩|⟨h,_⟩|⟨h,_⟩
   ·exact h
   all_goals omega
  refine ae (St.dM hg ho lS) ?_;refine ae (St.eH hg ho lS) ?_;refine ae (Rc.Al hr3 hr hv) ?_;refine Df (T:=T) (ts:=aj) (e:=aG) (si:=dL) (ie:=cG) bT rfl dE rfl s16 (aL.sz hr.upd) (by decide) fun v22 G23 s23=>?_;have o1:∀ u∈[r.upd],u.ok:=fun u hu=>by rw[List.mem_singleton.1 hu];exact hr.upd
  refine ee.use (l:=[r.upd]) (hS.o.gZ.ch' s23.ch) (hS.p.gZ.ch' s23.ch) (bm.own (i:=0) s23 rfl).is hS.oko hS.okp o1 (by simp;omega) hS.lp (fun j u hj=>?_) fun z G25 t25=>?_
  ·cases j with
   | zero=>
    simp at hj;subst hj;simpa using hn
   | succ j=>simp at hj
  obtain⟨F25,o25,c25⟩:=t25.out;have s25:=s23.new o25 c25;have lz:=(bm.own (i:=0) s25 rfl).leaf;refine ae (tv0 _ _) ?_;refine ae (tv1 _ _) ?_;refine St.tT (i:=3) s25 rfl ho l1 lz fun G28 s28=>?_;have l2:bw z/\bw wp/\bw wh:=⟨lz,l1.2⟩;refine ae (St.ld (au.own (i:=3) s28 rfl) ho l2) ?_;refine St.st (i:=7) s28 rfl StM.bq lv0 ho l2 fun G30 s30=>?_;refine ae (St.ld (au.own (i:=7) s30 rfl) ho l2) ?_;exact hQ z wp wh G30 ((((s30.front (i:=0) rfl).front (i:=2) rfl).front (i:=4) rfl).take 3)
 ·rw[bB,aa,aI];refine⟨fun hk=>?_,fun hk2=>?_⟩
  ·obtain⟨_,h1,h2,h3,h4,h5,rfl⟩:r.kind=2/\f.s.rem=f.s.ack/\r.index=f.s.rem+1/\r.cntB=f.s.atB/\f.s.sgnA≤r.cntA/\r.cntA≤(f.o.length:Nat)/\f'=yG f r:=by
    rcases h with ⟨h,_⟩|h|⟨h,_⟩|⟨h,_⟩
    ·omega
    ·exact h
    all_goals omega
   have hri:=hr.index;refine ae (Rc.ni hr3 hr hv) ?_;refine St.Lw (i:=1) s16 rfl ho l1 _ fun G34 s34=>?_;have o34:({ f.s with rem:=r.index }:StM).ok:=⟨ho.side,ho.cap,ho.bo,ho.bp,ho.loc,hr.index,ho.ack,ho.atA,ho.atB,ho.sgnA,ho.sgnB,ho.heldA,ho.heldB,ho.ptsA,ho.ptsB,ho.sig,ho.failed,ho.closed⟩;refine ae (Rc.FE (au.own (i:=6) s34 rfl) hr hv) ?_;refine St.Lv (s:={ f.s with rem:=r.index }) (i:=1) s34 rfl o34 l1 _ _ fun G36 s36=>?_;have o36:({ f.s with rem:=r.index,sgnA:=r.cntA,sgnB:=r.cntB }:StM).ok:=⟨ho.side,ho.cap,ho.bo,ho.bp,ho.loc,hr.index,ho.ack,ho.atA,ho.atB,hr.cntA,hr.cntB,ho.heldA,ho.heldB,ho.ptsA,ho.ptsB,ho.sig,ho.failed,ho.closed⟩;refine St.BE (s:={ f.s with rem:=r.index,sgnA:=r.cntA,sgnB:=r.cntB }) (i:=1) s36 rfl o36 l1 _ fun G37 s37=>?_;have o37:(yG f r).s.ok:=⟨ho.side,ho.cap,ho.bo,ho.bp,ho.loc,hr.index,ho.ack,ho.atA,ho.atB,hr.cntA,hr.cntB,ho.heldA,ho.heldB,ho.ptsA,ho.ptsB,ho.sig,ho.failed,ho.closed⟩;have s37:Sp [] G [bm 36 wp (f.p.map aL.av),au i10 ((yG f r).s.av wo0 wp wh),bm 34 wh (f.h.map b6.av),bm 36 wp0 ((cw f.p f.s.atB).map aL.av),bm 36 wo0 (f.o.map aL.av),au i5 (StM.zero.av .nilSlice .nilSlice .nilSlice),au i3 (r.av v),au i1 (f.s.av vo vp vh)] G37:=s37;have hg:=au.own (i:=7) s37 rfl;have hr3:=au.own (i:=6) s37 rfl;intro J64;refine ae (St.ld (au.own (i:=1) s37 rfl) o37 l1) ?_;refine ae (St.mn hg ho lS) ?_;refine ae (St.mS hg ho lS) ?_;refine ae (nk h1) ?_;rw[aN];refine ae (Rc.ni hr3 hr hv) ?_;refine ae (St.mn hg ho lS) ?_;rw[bg,i64_in (by have:=hri.1;omega) (by have:=hri.2;omega),aa];refine ae (nk h2) ?_;rw[aN];refine ae (Rc.KC hr3 hr hv) ?_;refine ae (St.od hg ho lS) ?_;refine ae (nk h3) ?_;rw[aN];refine ae (Rc.C5 hr3 hr hv) ?_;refine ae (St.KB hg ho lS) ?_;rw[fI,aa,dT_ h4,aN];refine ae (Rc.C5 hr3 hr hv) ?_;refine ae (St.dM hg ho lS) ?_;refine ae (dh (hS.o.gZ.ch' s37.ch)) ?_;rw[kQ,aa,dT_ h5];refine St.st (i:=5) s37 rfl StM.bq lv0 o37 l1 fun G56 s56=>?_;refine⟨⟨St.dM (au.own (i:=7) s56 rfl) ho lS,Rc.C5 (au.own (i:=6) s56 rfl) hr hv,trivial⟩,?_⟩;simp -zeta only [J64];refine ae (St.ld (au.own (i:=5) s56 rfl) o37 l1) ?_;exact hQ wo0 wp wh G56 ((((s56.front (i:=4) rfl).front (i:=1) rfl).front (i:=3) rfl).take 3)
  ·rw[bB,aa,aI];refine⟨fun hk=>?_,fun hk3=>?_⟩
   ·obtain⟨_,h1,h2,rfl⟩:r.kind=3/\(∀ (j:Nat) (u:aL),l[j]?=some u->kJ (cw f.p f.s.atB++l.take j) f.o u=0)/\r.index=f.s.loc+1/\f'=xS f r l:=by
     rcases h with ⟨h,_⟩|⟨h,_⟩|h|⟨h,_⟩
     ·omega
     ·omega
     ·exact h
     ·omega
    have hri:=hr.index;have hfl:=jU f.p f.s.atB;refine ae (St.eH hg ho lS) ?_;refine ae (St.od hg ho lS) ?_;refine ae (St.dM hg ho lS) ?_;refine ae (Rc.za hr3 hr hv) ?_;refine bQ.use (hS.p.mv s16.ch) hS.lp fun w hw=>?_;refine⟨⟨Rc.za hr3 hr hv,St.dM hg ho lS,trivial⟩,?_⟩;refine ee.use hw.gZ (hS.o.gZ.ch' s16.ch) (hl.ch' s16.ch) (mu hS.okp) hS.oko okl (by omega) hS.lo h1 fun z G73 t73=>?_;obtain⟨F73,o73,c73⟩:=t73.out;have s73:=s16.new o73 c73;have lz:=(bm.own (i:=0) s73 rfl).leaf;refine ae (tv0 _ _) ?_;refine ae (tv1 _ _) ?_;refine St.tg (i:=2) s73 rfl ho l1 lz fun G76 s76=>?_;have l2:bw wo0/\bw z/\bw wh:=⟨l1.1,lz,l1.2.2⟩;refine ae (Rc.ni (au.own (i:=7) s76 rfl) hr hv) ?_;refine St.Lx (i:=2) s76 rfl ho l2 _ fun G78 s78=>?_;have o78:({ f.s with loc:=r.index }:StM).ok:=⟨ho.side,ho.cap,ho.bo,ho.bp,hr.index,ho.rem,ho.ack,ho.atA,ho.atB,ho.sgnA,ho.sgnB,ho.heldA,ho.heldB,ho.ptsA,ho.ptsB,ho.sig,ho.failed,ho.closed⟩;refine ae (St.qc (au.own (i:=8) s78 rfl) ho lS) ?_;refine ae (dh (bm.own (i:=0) s78 rfl).is) ?_;refine ae (v:=bE f.s.heldA ((cw f.p f.s.atB++l).length:Nat)) rfl ?_;refine St.Mf (s:={ f.s with loc:=r.index }) (i:=2) s78 rfl o78 l2 _ _ fun G82 s82=>?_;have ib:I64 ((cw f.p f.s.atB++l).length:Nat):=iu _ (by omega) (by rw[List.length_append];omega);have o82:({ f.s with loc:=r.index,atA:=f.s.heldA,atB:=((cw f.p f.s.atB++l).length:Nat) }:StM).ok:=⟨ho.side,ho.cap,ho.bo,ho.bp,hr.index,ho.rem,ho.ack,ho.heldA,ib,ho.sgnA,ho.sgnB,ho.heldA,ho.heldB,ho.ptsA,ho.ptsB,ho.sig,ho.failed,ho.closed⟩;refine ae (Rc.xB (au.own (i:=7) s82 rfl) hr hv) ?_;refine St.IQ (s:={ f.s with loc:=r.index,atA:=f.s.heldA,atB:=((cw f.p f.s.atB++l).length:Nat) }) (i:=2) s82 rfl o82 l2 hr.sig fun G84 s84=>?_;have o84:({ f.s with loc:=r.index,atA:=f.s.heldA,atB:=((cw f.p f.s.atB++l).length:Nat),sig:=r.sig }:StM).ok:=⟨ho.side,ho.cap,ho.bo,ho.bp,hr.index,ho.rem,ho.ack,ho.heldA,ib,ho.sgnA,ho.sgnB,ho.heldA,ho.heldB,ho.ptsA,ho.ptsB,hr.sig,ho.failed,ho.closed⟩;refine St.BE (s:={ f.s with loc:=r.index,atA:=f.s.heldA,atB:=((cw f.p f.s.atB++l).length:Nat),sig:=r.sig }) (i:=2) s84 rfl o84 l2 _ fun G85 s85=>?_;have o85:(xS f r l).s.ok:=⟨ho.side,ho.cap,ho.bo,ho.bp,hr.index,ho.rem,ho.ack,ho.heldA,ib,ho.sgnA,ho.sgnB,ho.heldA,ho.heldB,ho.ptsA,ho.ptsB,hr.sig,ho.failed,ho.closed⟩;have s85:Sp [] G [bm 36 z ((cw f.p f.s.atB++l).map aL.av),bm 36 wp (f.p.map aL.av),au i10 ((xS f r l).s.av wo0 z wh),bm 34 wh (f.h.map b6.av),bm 36 wp0 ((cw f.p f.s.atB).map aL.av),bm 36 wo0 (f.o.map aL.av),au i5 (StM.zero.av .nilSlice .nilSlice .nilSlice),au i3 (r.av v),au i1 (f.s.av vo vp vh)] G85:=s85;refine ae (St.ld (au.own (i:=2) s85 rfl) o85 l2) ?_;rw[aN];refine ae (Rc.ni (au.own (i:=7) s85 rfl) hr hv) ?_;refine ae (St.qb (au.own (i:=8) s85 rfl) ho lS) ?_;rw[bg,i64_in (by have:=hri.1;omega) (by have:=hri.2;omega),aa];refine ae (nk h2) ?_;refine St.st (i:=6) s85 rfl StM.bq lv0 o85 l2 fun G91 s91=>?_;refine⟨⟨St.qb (au.own (i:=8) s91 rfl) ho lS,Rc.ni (au.own (i:=7) s91 rfl) hr hv,trivial⟩,?_⟩;refine ae (St.ld (au.own (i:=6) s91 rfl) o85 l2) ?_;exact hQ wo0 z wh G91 ((((s91.front (i:=5) rfl).front (i:=1) rfl).front (i:=4) rfl).take 3)
   ·rw[bB,aa,aI];refine⟨fun hk=>?_,fun hk4=>?_⟩
    ·obtain⟨_,h1,h2,h3,rfl⟩:r.kind=4/\(tw f.h r.index r.secret).2=0/\f.s.rem=f.s.ack+1/\r.index=f.s.ack/\f'=uQ f r:=by
      rcases h with ⟨h,_⟩|⟨h,_⟩|⟨h,_⟩|h
      ·omega
      ·omega
      ·omega
      ·exact h
     have hrm:=ho.rem;refine ae (St.l6 hg ho lS) ?_;refine ae (Rc.ni hr3 hr hv) ?_;refine ae (Rc.xC hr3 hr hv) ?_;refine fN.use (hS.h.gZ.ch' s16.ch) hS.okh (by omega) hr.secret fun z G103 t103=>?_;obtain⟨F103,o103,c103⟩:=t103.out;have s103:=s16.new o103 c103;have lz:=(bm.own (i:=0) s103 rfl).leaf;refine ae (tv0 _ _) ?_;refine ae (tv1 _ _) ?_;rw[h1];refine St.vO (i:=2) s103 rfl ho l1 lz fun G106 s106=>?_;have l2:bw wo0/\bw wp/\bw z:=⟨l1.1,l1.2.1,lz⟩;refine ae (St.mS (au.own (i:=8) s106 rfl) ho lS) ?_;have ia:I64 (f.s.ack+1):=(by rw[<- h2];exact hrm);rw[bg,i64_in ia.1 ia.2,aa];refine St.Ly (i:=2) s106 rfl ho l2 _ fun G109 s109=>?_;have o109:({ f.s with ack:=f.s.ack+1 }:StM).ok:=⟨ho.side,ho.cap,ho.bo,ho.bp,ho.loc,ho.rem,ia,ho.atA,ho.atB,ho.sgnA,ho.sgnB,ho.heldA,ho.heldB,ho.ptsA,ho.ptsB,ho.sig,ho.failed,ho.closed⟩;refine ae (St.vr (au.own (i:=8) s109 rfl) ho lS) ?_;refine St.Kl (s:={ f.s with ack:=f.s.ack+1 }) (i:=2) s109 rfl o109 l2 _ _ fun G111 s111=>?_;have o111:({ f.s with ack:=f.s.ack+1,heldA:=f.s.sgnA,heldB:=f.s.sgnB }:StM).ok:=⟨ho.side,ho.cap,ho.bo,ho.bp,ho.loc,ho.rem,ia,ho.atA,ho.atB,ho.sgnA,ho.sgnB,ho.sgnA,ho.sgnB,ho.ptsA,ho.ptsB,ho.sig,ho.failed,ho.closed⟩;refine ae (v:=.ptr i1 [13,1] 48) rfl ?_;refine ae (St.zb (au.own (i:=8) s111 rfl) ho lS) ?_;refine ae (Rc.An (au.own (i:=7) s111 rfl) hr hv) ?_;refine ae (AR ho.ptsB hr.point) ?_;refine St.IU (s:={ f.s with ack:=f.s.ack+1,heldA:=f.s.sgnA,heldB:=f.s.sgnB }) (i:=2) s111 rfl o111 l2 ho.ptsB hr.point fun G116 s116=>?_;have o116:(uQ f r).s.ok:=⟨ho.side,ho.cap,ho.bo,ho.bp,ho.loc,ho.rem,ia,ho.atA,ho.atB,ho.sgnA,ho.sgnB,ho.sgnA,ho.sgnB,ho.ptsB,hr.point,ho.sig,ho.failed,ho.closed⟩;have s116:Sp [] G [bm 34 z ((tw f.h r.index r.secret).1.map b6.av),bm 36 wp (f.p.map aL.av),au i10 ((uQ f r).s.av wo0 wp z),bm 34 wh (f.h.map b6.av),bm 36 wp0 ((cw f.p f.s.atB).map aL.av),bm 36 wo0 (f.o.map aL.av),au i5 (StM.zero.av .nilSlice .nilSlice .nilSlice),au i3 (r.av v),au i1 (f.s.av vo vp vh)] G116:=s116;refine ae (St.ld (au.own (i:=2) s116 rfl) o116 l2) ?_;refine ae (nk rfl) ?_;rw[aN];refine ae (St.mn (au.own (i:=8) s116 rfl) ho lS) ?_;refine ae (St.mS (au.own (i:=8) s116 rfl) ho lS) ?_;rw[bg,i64_in ia.1 ia.2,aa];refine ae (nk h2) ?_;rw[aN];refine ae (Rc.ni (au.own (i:=7) s116 rfl) hr hv) ?_;refine ae (St.mS (au.own (i:=8) s116 rfl) ho lS) ?_;refine ae (nk h3) ?_;refine St.st (i:=6) s116 rfl StM.bq lv0 o116 l2 fun G126 s126=>?_;refine⟨⟨St.mS (au.own (i:=8) s126 rfl) ho lS,Rc.ni (au.own (i:=7) s126 rfl) hr hv,trivial⟩,?_⟩;refine ae (St.ld (au.own (i:=6) s126 rfl) o116 l2) ?_;exact hQ wo0 wp z G126 ((((s126.front (i:=5) rfl).front (i:=2) rfl).front (i:=2) rfl).take 3)
    ·exfalso;rcases h with ⟨h,_⟩|⟨h,_⟩|⟨h,_⟩|⟨h,_⟩
     ·exact hk1 h
     ·exact hk2 h
     ·exact hk3 h
     ·exact hk4 h
end
end Go.Esc.M
namespace Go.Esc.M
open Go Go.Esc
theorem Ab {o p:List aL}{a b:Int}(ha:0≤a) (h:a≤b):kX o p b≤kX o p a:=by
 unfold kX ml cw;rw[List.length_map,List.length_map,<- List.countP_eq_length_filter,<- List.countP_eq_length_filter];refine List.countP_mono_left fun u hu ho=>?_;simp only[Bool.and_eq_true,decide_eq_true_eq]at ho ⊢;refine⟨ho.1,ho.2.1,?_⟩;refine Classical.byContradiction fun hne=>?_;have:=pP (id:=u.id) (l:=p) (show a.toNat≤b.toNat by omega) hne;rw[this]at ho;exact hne ho.2.2
theorem Aa (o p:List aL) (u:aL) (a:Int):kX (o++[u]) p a≤kX o p a+(if u.kind=1 then 1 else 0):=by
 unfold kX ml;rw[List.length_map,List.length_map,List.filter_append,List.length_append];refine Nat.add_le_add_left ?_ _;simp only[List.filter_cons,List.filter_nil];by_cases h:u.kind=1
 ·rw[if_pos h];split<;>simp
 ·rw[if_neg h,dF_ h,Bool.false_and];simp
theorem Ai {A X:List aL}{u:aL}(h:kJ A X u=0):A.length<2048:=by
 refine Classical.byContradiction fun hn=>?_;unfold kJ at h;rw[if_pos (by omega)]at h;cases h
theorem toNat_le {a:Int}{n:Nat}(h:a≤(n:Int)):a.toNat≤n:=by omega
theorem iY.ours {f:StF}(I:iY f) {u:aL}(hu:u.ok) (hn:kJ f.o (f.p.take f.s.heldB.toNat) u=0) (ha:u.kind=1->u.amount≤SB f.s.bo f.o f.p f.s.atA.toNat f.s.heldB.toNat/\kX f.o f.p f.s.heldB<483):iY (q6 f u):=by
 have hlt:=Ai hn;obtain⟨hv,h1,h2⟩:=nG hn;have hA:f.s.atA.toNat≤f.o.length:=toNat_le (by have:=I.a1;have:=I.a2;have:=I.a3;omega);have e1:(f.o++[u]).take f.s.atA.toNat=f.o.take f.s.atA.toNat:=nu f.o u hA;have hb:oX f.s.bo f.s.bp (f.o++[u]) f.p f.s.atA.toNat f.s.heldB.toNat:=by
  by_cases hk:u.kind=1
  ·exact I.book.add hlt hk (h1 hk) hu hv (ha hk).1
  ·obtain⟨b,_,b2,b3,b4⟩:=sv (h2 hk).1;exact I.book.rem hlt hk ⟨b,b2,b3,b4⟩ hu hv
 refine⟨I.ok,rn I.oko hu,I.okp,I.okh,I.lh,I.a0,I.a1,I.a2,?_,I.b0,I.b1,I.b2,I.b3,At I.go hn,?_,hb.s0,hb.s1,?_,?_,I.bo,I.bp,I.cap,I.capm,I.side,I.loc0,I.loc1,I.ack0,I.rem,I.rem1⟩
 ·show f.s.sgnA≤((f.o++[u]).length:Nat);rw[List.length_append];have:=I.a3;omega
 ·show o7 f.p ((f.o++[u]).take f.s.atA.toNat);rw[e1];exact I.gp
 ·show kX (f.o++[u]) f.p f.s.heldB≤483;have:=Aa f.o f.p u f.s.heldB;by_cases hk:u.kind=1
  ·rw[if_pos hk]at this;have:=(ha hk).2;omega
  ·rw[if_neg hk]at this;have:=I.no;omega
 ·show kX f.p (f.o++[u]) f.s.atA≤483;have e:kX f.p (f.o++[u]) f.s.atA=kX f.p f.o f.s.atA:=by unfold kX cw;rw[e1]
  rw[e];exact I.np
theorem iY.kA {f:StF}(I:iY f) {u:aL}(hu:u.ok) (hn:kJ f.p (f.o.take f.s.atA.toNat) u=0) (ha:u.kind=1->u.amount≤SB f.s.bp f.p f.o f.s.heldB.toNat f.s.atA.toNat/\kX f.p f.o f.s.atA<483):iY ⟨f.s,f.o,f.p++[u],f.h⟩:=by
 have hlt:=Ai hn;obtain⟨hv,h1,h2⟩:=nG hn;have hB:f.s.heldB.toNat≤f.p.length:=toNat_le (by have:=I.b1;have:=I.b2;have:=I.b3;omega);have e1:(f.p++[u]).take f.s.heldB.toNat=f.p.take f.s.heldB.toNat:=nu f.p u hB;have hb:oX f.s.bp f.s.bo (f.p++[u]) f.o f.s.heldB.toNat f.s.atA.toNat:=by
  by_cases hk:u.kind=1
  ·exact I.book.swap.add hlt hk (h1 hk) hu hv (ha hk).1
  ·obtain⟨b,_,b2,b3,b4⟩:=sv (h2 hk).1;exact I.book.swap.rem hlt hk ⟨b,b2,b3,b4⟩ hu hv
 refine⟨I.ok,I.oko,rn I.okp hu,I.okh,I.lh,I.a0,I.a1,I.a2,I.a3,I.b0,I.b1,I.b2,?_,?_,At I.gp hn,hb.s1,hb.s0,?_,?_,I.bo,I.bp,I.cap,I.capm,I.side,I.loc0,I.loc1,I.ack0,I.rem,I.rem1⟩
 ·show f.s.atB≤((f.p++[u]).length:Nat);rw[List.length_append];have:=I.b3;omega
 ·show o7 f.o ((f.p++[u]).take f.s.heldB.toNat);rw[e1];exact I.go
 ·show kX f.o (f.p++[u]) f.s.heldB≤483;have e:kX f.o (f.p++[u]) f.s.heldB=kX f.o f.p f.s.heldB:=by unfold kX cw;rw[e1]
  rw[e];exact I.no
 ·show kX (f.p++[u]) f.o f.s.atA≤483;have:=Aa f.p f.o u f.s.atA;by_cases hk:u.kind=1
  ·rw[if_pos hk]at this;have:=(ha hk).2;omega
  ·rw[if_neg hk]at this;have:=I.np;omega
theorem iY.offer {f:StF}(I:iY f) {a:Int}{h:List UInt8}(hh:h.length=32) (h0:(n8 f a h).2=0) :
  ∃ u,n8 f a h=(pe u,0)/\u.ok/\u.kind=1/\iY (q6 f u)/\Bb f (pe u) [] (q6 f u)/\u.note=[]:=by
 unfold n8 at h0 ⊢;split at h0
 ·cases h0
 rename_i h1;rw[if_neg h1];split at h0
 ·cases h0
 rename_i h2;rw[if_neg h2];split at h0
 ·cases h0
 rename_i h3;rw[if_neg h3];split at h0
 ·cases h0
 rename_i h4;rw[if_neg h4];split at h0
 ·cases h0
 rename_i h5;rw[if_neg h5];have hlo:=I.lo;have hal:=tJ f.o;have hfu:f.o.length<2048:=by
  refine Classical.byContradiction fun hn=>h3 ?_;unfold yr;rw[dT_ (by omega),Bool.true_or]
 rw[I.fB]at h4;rw[I.xl.1]at h5;have hu:(⟨1,((j7 f.o:Nat):Int),a,h,[]⟩:aL).ok:=⟨iu 1 (by decide) (by decide),iu ((j7 f.o:Nat):Int) (by omega) (by omega),iu a (by omega) (by omega),hh,by simp⟩;have hv:dp ⟨1,((j7 f.o:Nat):Int),a,h,[]⟩=true:=by
  unfold dp Ek;simp only[if_pos,Bool.and_eq_true,decide_eq_true_eq];refine⟨by omega,by omega,by omega,by omega,trivial⟩
 have hn:∀ X,kJ f.o X ⟨1,((j7 f.o:Nat):Int),a,h,[]⟩=0:=by
  intro X;unfold kJ;rw[if_neg (by omega),if_neg (by rw[hv];decide),if_pos rfl];exact if_pos rfl
 refine⟨_,rfl,hu,rfl,I.ours hu (hn _) fun _=>⟨by show a≤_;omega,by omega⟩,.inl ⟨rfl,hn _,rfl⟩,rfl⟩
theorem iY.y9 {f:StF}(I:iY f) {u:aL}(hu:u.ok) (hv:dp u=true\/64<u.note.length\/u.id<0\/2048≤u.id) (hk:u.kind≠1) (h0:(j4 f u).2=0) :
  j4 f u=(pe u,0)/\iY (q6 f u)/\Bb f (pe u) [] (q6 f u):=by
 unfold j4 at h0 ⊢;split at h0
 ·cases h0
 rename_i h1;rw[if_neg h1];split at h0
 ·cases h0
 rename_i h2;rw[if_neg h2];split at h0
 ·cases h0
 rename_i h3;rw[if_neg h3];have hfu:f.o.length<2048:=by
  refine Classical.byContradiction fun hn=>h3 ?_;unfold yr;rw[dT_ (by omega),Bool.true_or]
 have h2:tA f u=true:=(Bool.not_eq_false _).mp h2;unfold tA at h2;simp only[Bool.and_eq_true,Bool.not_eq_true',Bool.or_eq_true,decide_eq_true_eq,decide_eq_false_iff_not]at h2;obtain⟨k1,k2,k3,k4⟩:=h2;rw[I.fB]at k1 k3;obtain⟨b,_,b2,b3,b4⟩:=sv k1;have hvb:=lW (I.vp b (List.mem_of_mem_take b2));have hv:dp u=true:=by
  rcases hv with hv|hv|hv|hv
  ·exact hv
  ·omega
  ·omega
  ·omega
 have hn:kJ f.o (f.p.take f.s.heldB.toNat) u=0:=by
  unfold kJ;rw[if_neg (by omega),if_neg (by rw[hv];decide),if_neg hk,if_neg (by rw[show (ey false u.id (f.p.take f.s.heldB.toNat)).isSome=true from k1];decide),if_neg (by rw[k2];decide),if_neg];rintro⟨c1,c2⟩;rcases k3 with k3|k3
  ·exact k3 c1
  ·exact c2 k3
 refine⟨rfl,I.ours hu hn fun h=>absurd h hk,.inl ⟨rfl,?_,rfl⟩⟩;have:=vn (Y:=f.p.drop f.s.heldB.toNat) hn
 rwa [List.take_append_drop]at this
theorem iY.sign {f:StF}(I:iY f) (h0:(p6 f).2=0) :
  p6 f=({ RcM.zero with kind:=2,index:=f.s.rem+1,cntA:=(f.o.length:Nat),cntB:=f.s.atB },0)/\({ RcM.zero with kind:=2,index:=f.s.rem+1,cntA:=(f.o.length:Nat),cntB:=f.s.atB }:RcM).ok ∧
  iY (yG f { RcM.zero with kind:=2,index:=f.s.rem+1,cntA:=(f.o.length:Nat),cntB:=f.s.atB })/\Bb f { RcM.zero with kind:=2,index:=f.s.rem+1,cntA:=(f.o.length:Nat),cntB:=f.s.atB } [] (yG f { RcM.zero with kind:=2,index:=f.s.rem+1,cntA:=(f.o.length:Nat),cntB:=f.s.atB })/\f.s.rem=f.s.ack:=by
 unfold p6 at h0 ⊢;split at h0
 ·cases h0
 rename_i h1;rw[if_neg h1];split at h0
 ·cases h0
 rename_i h2;rw[if_neg h2];split at h0
 ·cases h0
 rename_i h3;rw[if_neg h3];have hra:f.s.rem=f.s.ack:=Classical.byContradiction fun hn=>h2 (.inl hn);have ha:=I.ack0;have hlo:=I.lo;have h4:=I.a2;have h5:=I.a3;have h6:=I.b1;have h7:=I.b2;have h8:=I.b3;have hrok:({ RcM.zero with kind:=2,index:=f.s.rem+1,cntA:=(f.o.length:Nat),cntB:=f.s.atB }:RcM).ok:=
  ⟨iu 2 (by decide) (by decide),aL.bq,iu (f.s.rem+1) (by omega) (by omega),iu (f.o.length:Nat) (by omega) (by omega),I.ok.atB,rfl,rfl,rfl,cL⟩
 have ho:=I.ok;have hok:(yG f { RcM.zero with kind:=2,index:=f.s.rem+1,cntA:=(f.o.length:Nat),cntB:=f.s.atB }).s.ok:=⟨ho.side,ho.cap,ho.bo,ho.bp,ho.loc,hrok.index,ho.ack,ho.atA,ho.atB,hrok.cntA,ho.atB,ho.heldA,ho.heldB,ho.ptsA,ho.ptsB,ho.sig,ho.failed,ho.closed⟩;refine⟨rfl,hrok,⟨hok,I.oko,I.okp,I.okh,I.lh,I.a0,I.a1,?_,?_,I.b0,?_,?_,I.b3,I.go,I.gp,I.so,I.sp,I.no,I.np,I.bo,I.bp,I.cap,I.capm,I.side,I.loc0,I.loc1,I.ack0,?_,?_⟩,.inr (.inl ⟨rfl,hra,rfl,rfl,h5,Int.le_refl _,rfl⟩),hra⟩
 ·show f.s.heldA≤(f.o.length:Nat);omega
 ·show ((f.o.length:Nat):Int)≤(f.o.length:Nat);omega
 ·show f.s.heldB≤f.s.atB;omega
 ·show f.s.atB≤f.s.atB;omega
 ·exact .inr (by show f.s.rem+1=f.s.ack+1;omega)
 ·show f.s.rem+1≤_;omega
theorem FK {p:List aL}{n:Int}:cw p n++p.drop (cw p n).length=p:=by
 unfold cw;rw[List.length_take];by_cases h:n.toNat≤p.length
 ·rw[Nat.min_eq_left h,List.take_append_drop]
 ·rw[Nat.min_eq_right (by omega),List.take_of_length_le (by omega),List.drop_length,List.append_nil]
def yy (f:StF) (i:Int) (sig:List UInt8):StF:=⟨{ f.s with loc:=i,atA:=f.s.heldA,atB:=(f.p.length:Nat),sig:=sig,behind:=false },f.o,f.p,f.h⟩
def AO (m:cr):RcM:={ RcM.zero with kind:=3,index:=m.index,sig:=m.hash }
theorem iY.came {f:StF}(I:iY f) {c:CfM}{m:cr}(hm:m.ok) (h0:(mU c f m).e=0) :
  mU c f m=⟨AO m,f.p.drop (cw f.p f.s.atB).length,0⟩/\(AO m).ok/\iY (yy f m.index m.hash)/\Bb f (AO m) (f.p.drop (cw f.p f.s.atB).length) (yy f m.index m.hash)/\m.kind=4/\m.index=f.s.loc+1:=by
 unfold mU at h0 ⊢;split at h0
 ·cases h0
 rename_i h1;rw[if_neg h1];split at h0
 ·cases h0
 rename_i h2;rw[if_neg h2];split at h0
 ·cases h0
 rename_i h3;rw[if_neg h3];split at h0
 ·cases h0
 rename_i h4;rw[if_neg h4];split at h0
 ·cases h0
 rename_i h5;rw[if_neg h5];have h6:=I.a0;have h7:=I.a1;have h8:=I.a2;have h9:=I.a3;have b0:=I.b0;have b1:=I.b1;have b2:=I.b2;have b3:=I.b3;have hl0:=I.loc0;have hlp:=I.lp;have hk:m.kind=4:=Classical.byContradiction fun hn=>h2 hn;have hix:m.index=f.s.loc+1:=Classical.byContradiction fun hn=>h3 (.inr hn);have hlc:f.s.loc≤281474976710653:=Classical.byContradiction fun hn=>h3 (.inl (by omega));have ho:=I.ok;have hrok:(AO m).ok:=⟨iu 3 (by decide) (by decide),aL.bq,hm.index,cL,cL,hm.hash,rfl,rfl,cL⟩;have hok:(yy f m.index m.hash).s.ok:=⟨ho.side,ho.cap,ho.bo,ho.bp,hm.index,ho.rem,ho.ack,ho.heldA,iu (f.p.length:Nat) (by omega) (by omega),ho.sgnA,ho.sgnB,ho.heldA,ho.heldB,ho.ptsA,ho.ptsB,hm.hash,ho.failed,ho.closed⟩;have hfix:=I.book.fix (g:=f.s.heldA.toNat) (by omega) (by omega);have hap:xS f (AO m) (f.p.drop (cw f.p f.s.atB).length)=yy f m.index m.hash:=by
  unfold xS yy;rw[FK];rfl
 refine⟨rfl,hrok,⟨hok,I.oko,I.okp,I.okh,I.lh,?_,?_,I.a2,I.a3,I.b0,I.b1,?_,?_,I.go,B8 I.gp (by show f.s.atA.toNat≤f.s.heldA.toNat;omega),hfix.s0,hfix.s1,I.no,?_,I.bo,I.bp,I.cap,I.capm,I.side,?_,?_,I.ack0,I.rem,I.rem1⟩,.inr (.inr (.inl ⟨rfl,fun j u hj=>?_,hix,hap.symm⟩)),hk,hix⟩
 ·show 0≤f.s.heldA;omega
 ·show f.s.heldA≤f.s.heldA;omega
 ·show f.s.sgnB≤(f.p.length:Nat);omega
 ·show ((f.p.length:Nat):Int)≤(f.p.length:Nat);omega
 ·exact Nat.le_trans (Ab I.a0 I.a1) I.np
 ·show 0≤m.index;omega
 ·show m.index≤_;omega
 ·have hn:(cw f.p f.s.atB).length=f.s.atB.toNat:=by unfold cw;rw[List.length_take];omega
  rw[hn]at hj ⊢;rw[List.getElem?_drop]at hj;have e:cw f.p f.s.atB++(f.p.drop f.s.atB.toNat).take j=f.p.take (f.s.atB.toNat+j):=by
   unfold cw;rw[List.take_add]
  rw[e];have:=vn (Y:=f.o.drop f.s.atA.toNat) (I.gp _ u hj)
  rwa [List.take_append_drop]at this
theorem iY.y8 {f:StF}(I:iY f) {m:cr}(hm:m.ok) (h0:(jR f m).2=0) :
  jR f m=({ RcM.zero with kind:=4,index:=f.s.ack,secret:=m.secret,point:=m.hash },0)/\({ RcM.zero with kind:=4,index:=f.s.ack,secret:=m.secret,point:=m.hash }:RcM).ok ∧
  iY (uQ f { RcM.zero with kind:=4,index:=f.s.ack,secret:=m.secret,point:=m.hash })/\Bb f { RcM.zero with kind:=4,index:=f.s.ack,secret:=m.secret,point:=m.hash } [] (uQ f { RcM.zero with kind:=4,index:=f.s.ack,secret:=m.secret,point:=m.hash })/\m.kind=5/\m.index=f.s.ack/\f.s.rem=f.s.ack+1/\sha m.secret=f.s.ptsA/\(tw f.h f.s.ack m.secret).2=0:=by
 unfold jR at h0 ⊢;have hrem:=I.rem;have hrem1:=I.rem1;have hack:=I.ack0;split at h0
 ·cases h0
 rename_i h1;rw[if_neg h1];split at h0
 ·cases h0
 rename_i h2;rw[if_neg h2];split at h0
 ·cases h0
 rename_i h3;rw[if_neg h3];split at h0
 ·cases h0
 rename_i h4;rw[if_neg h4];split at h0
 ·cases h0
 rename_i h5;rw[if_neg h5];rw[i64_in (n:=f.s.rem-1) (by omega) (by omega)]at h3;have b0:=I.b0;have b1:=I.b1;have b2:=I.b2;have b3:=I.b3;have a1:=I.a1;have a2:=I.a2;have ho:=I.ok;have hput:(tw f.h f.s.ack m.secret).2=0:=Classical.byContradiction fun hn=>h5 hn;have hsh:sha m.secret=f.s.ptsA:=Classical.byContradiction fun hn=>h4 hn;have hk:m.kind=5:=Classical.byContradiction fun hn=>h2 hn;have hra:f.s.rem=f.s.ack+1:=by omega
 have hix:m.index=f.s.ack:=by omega
 have hrok:({ RcM.zero with kind:=4,index:=f.s.ack,secret:=m.secret,point:=m.hash }:RcM).ok:=⟨iu 4 (by decide) (by decide),aL.bq,ho.ack,cL,cL,rfl,hm.secret,hm.hash,cL⟩;have hok:(uQ f { RcM.zero with kind:=4,index:=f.s.ack,secret:=m.secret,point:=m.hash }).s.ok:=⟨ho.side,ho.cap,ho.bo,ho.bp,ho.loc,ho.rem,iu (f.s.ack+1) (by omega) (by omega),ho.atA,ho.atB,ho.sgnA,ho.sgnB,ho.sgnA,ho.sgnB,ho.ptsB,hm.hash,ho.sig,ho.failed,ho.closed⟩;have hfix:=(I.book.swap.fix (g:=f.s.sgnB.toNat) (by omega) (by omega)).swap;refine⟨rfl,hrok,⟨hok,I.oko,I.okp,Kq I.okh hm.secret,I5 _ _ _,I.a0,?_,?_,I.a3,?_,?_,I.b2,I.b3,B8 I.go (by show f.s.heldB.toNat≤f.s.sgnB.toNat;omega),I.gp,hfix.s0,hfix.s1,?_,I.np,I.bo,I.bp,I.cap,I.capm,I.side,I.loc0,I.loc1,?_,?_,I.rem1⟩,.inr (.inr (.inr ⟨rfl,hput,hra,rfl,rfl⟩)),hk,hix,hra,hsh,hput⟩
 ·show f.s.atA≤f.s.sgnA;omega
 ·show f.s.sgnA≤f.s.sgnA;omega
 ·show 0≤f.s.sgnB;omega
 ·show f.s.sgnB≤f.s.sgnB;omega
 ·exact Nat.le_trans (Ab I.b0 I.b1) I.no
 ·show 0≤f.s.ack+1;omega
 ·exact .inl hra
theorem iY.heard {f:StF}(I:iY f) {u:aL}(hu:u.ok) (h0:vu f u=0):iY ⟨f.s,f.o,f.p++[u],f.h⟩/\kJ f.p (f.o.take f.s.atA.toNat) u=0:=by
 unfold vu at h0;split at h0
 ·cases h0
 rename_i h1;split at h0
 ·cases h0
 rename_i h2;split at h0
 ·cases h0
 rename_i h3;have h3:kJ f.p f.o u=0:=Classical.byContradiction fun hn=>h3 hn;have hlt:=Ai h3;obtain⟨hv,k1,k2⟩:=nG h3;rw[I.fA]at h0;by_cases hk:u.kind=1
 ·rw[if_pos hk]at h0;split at h0
  ·cases h0
  rename_i h4;split at h0
  ·cases h0
  rename_i h5;rw[I.xk.1]at h5;have hn:kJ f.p (f.o.take f.s.atA.toNat) u=0:=by
   unfold kJ;rw[if_neg (by omega),if_neg (by rw[hv];decide),if_pos hk,if_pos (k1 hk)]
  exact⟨I.kA hu hn fun _=>⟨by omega,by omega⟩,hn⟩
 ·rw[if_neg hk]at h0;split at h0
  ·cases h0
  rename_i h4;split at h0
  ·cases h0
  rename_i h5;have hn:kJ f.p (f.o.take f.s.atA.toNat) u=0:=by
   unfold kJ;rw[if_neg (by omega),if_neg (by rw[hv];decide),if_neg hk,if_neg (show ¬ (ey false u.id (f.o.take f.s.atA.toNat)).isSome=false from h4),if_neg (by rw[(k2 hk).2.1];decide)];exact if_neg h5
  exact⟨I.kA hu hn fun h=>absurd h hk,hn⟩
theorem iY.cut {f:StF}(I:iY f):iY ⟨f.s,f.o,cw f.p f.s.atB,f.h⟩:=by
 have b0:=I.b0;have b1:=I.b1;have b2:=I.b2;have b3:=I.b3;have hlen:(cw f.p f.s.atB).length=f.s.atB.toNat:=by unfold cw;rw[List.length_take];omega
 have e1:(cw f.p f.s.atB).take f.s.heldB.toNat=f.p.take f.s.heldB.toNat:=by
  unfold cw;rw[List.take_take,Nat.min_eq_left (by omega)]
 have vp:∀ u∈f.p,0≤u.amount:=fun u hu=>ra (I.vp u hu);refine⟨I.ok,I.oko,mu I.okp,I.okh,I.lh,I.a0,I.a1,I.a2,I.a3,I.b0,I.b1,I.b2,?_,?_,aaX I.gp _,?_,?_,?_,?_,I.bo,I.bp,I.cap,I.capm,I.side,I.loc0,I.loc1,I.ack0,I.rem,I.rem1⟩
 ·show f.s.atB≤((cw f.p f.s.atB).length:Nat);omega
 ·show o7 f.o ((cw f.p f.s.atB).take f.s.heldB.toNat);rw[e1];exact I.go
 ·show 0≤SB f.s.bo f.o (cw f.p f.s.atB) f.s.atA.toNat f.s.heldB.toNat;have h:=I.so;unfold SB at h ⊢;rw[e1];have e:gG (kD (f.o.take f.s.atA.toNat)) f.p=gG (kD (f.o.take f.s.atA.toNat)) (cw f.p f.s.atB)+gG (kD (f.o.take f.s.atA.toNat)) (f.p.drop f.s.atB.toNat):=by
   unfold cw;rw[<- oq,List.take_append_drop]
  rw[e,xg (HJ (ui I.gp) (fo:=f.s.heldB.toNat) (Au I.go) (by omega))]at h;omega
 ·show 0≤SB f.s.bp (cw f.p f.s.atB) f.o f.s.heldB.toNat f.s.atA.toNat;have h:=I.sp;unfold SB at h ⊢;rw[e1];have:=CL (f:=stays (f.o.take f.s.atA.toNat)) vp f.s.atB.toNat;unfold cw;omega
 ·show kX f.o (cw f.p f.s.atB) f.s.heldB≤483;have e:kX f.o (cw f.p f.s.atB) f.s.heldB=kX f.o f.p f.s.heldB:=by
   have e2:cw (cw f.p f.s.atB) f.s.heldB=cw f.p f.s.heldB:=e1;unfold kX;rw[e2]
  rw[e];exact I.no
 ·show kX (cw f.p f.s.atB) f.o f.s.atA≤483;refine Nat.le_trans ?_ I.np;unfold kX ml;rw[List.length_map,List.length_map];exact (List.Sublist.filter _ (List.take_sublist _ _)).length_le
theorem iY.fail {f:StF}(I:iY f) {n:Int}(hn:I64 n):iY ⟨{ f.s with failed:=n },f.o,f.p,f.h⟩:=by
 have ho:=I.ok;exact⟨⟨ho.side,ho.cap,ho.bo,ho.bp,ho.loc,ho.rem,ho.ack,ho.atA,ho.atB,ho.sgnA,ho.sgnB,ho.heldA,ho.heldB,ho.ptsA,ho.ptsB,ho.sig,hn,ho.closed⟩,I.oko,I.okp,I.okh,I.lh,I.a0,I.a1,I.a2,I.a3,I.b0,I.b1,I.b2,I.b3,I.go,I.gp,I.so,I.sp,I.no,I.np,I.bo,I.bp,I.cap,I.capm,I.side,I.loc0,I.loc1,I.ack0,I.rem,I.rem1⟩
theorem iY.start {c:CfM}(hc:c.ok) (h:¬ nF c):iY ⟨(mm c).1,[],[],[]⟩:=by
 have hok:=pN hc;have h2:right c.cap=true:=by
  have h1:¬ right c.cap=false:=fun hh=>h (.inr (.inr (.inr (.inl hh))));simpa using h1
 have h3:=lZ.1 h2;have h0:¬ c.side<0:=fun hh=>h (.inl hh);have h1:¬ 1<c.side:=fun hh=>h (.inr (.inl hh));have h4:¬ c.ours<0:=fun hh=>h (.inr (.inr (.inr (.inr (.inl hh)))));have h5:¬ c.cap<c.ours:=fun hh=>h (.inr (.inr (.inr (.inr (.inr hh)))));have h6:¬ c.cap<1:=fun hh=>h (.inr (.inr (.inl hh)));unfold mm at hok ⊢;rw[if_neg h]at hok ⊢;have nn:∀ {X:List aL},o7 [] X:=fun {X} j u hj=>by simp at hj
 have e0:∀ {a:Int}{n m:Nat},SB a [] [] n m=a:=by intro a n m;simp[SB,gG]
 have on:∀ {a:Int},kX [] [] a≤483:=by intro a;simp[kX,ml]
 have z0:(0:Int)≤0:=by decide
 have z1:(0:Int)≤281474976710654:=by decide
 refine⟨hok,by simp,by simp,by simp,by simp,z0,z0,z0,z0,z0,z0,z0,z0,nn,nn,?_,?_,on,on,?_,?_,?_,?_,?_,z0,z1,z0,.inl rfl,z1⟩
 ·show 0≤SB c.ours [] [] 0 0;rw[e0];omega
 ·show 0≤SB (c.cap-c.ours) [] [] 0 0;rw[e0];omega
 ·show 0≤c.ours;omega
 ·show 0≤c.cap-c.ours;omega
 ·show c.ours+(c.cap-c.ours)=c.cap;omega
 ·show c.cap≤_;omega
 ·show c.side=0\/c.side=1;omega
end Go.Esc.M
set_option linter.unusedSectionVars false
namespace Go.Esc
open Go Go.RowKit
def Qu (n:Nat) (G:ak) (v:ah) (vs:List ah):Prop:=
 (v=.nilSlice/\vs=[])\/∃ id k len cap cs,v=.slice id [] k (k*n) len cap/\G id=some (.own (.agg cs))/\k+cap≤cs.length/\len≤cap/\uni n cs=true/\vs=(cs.drop k).take len
theorem Qu.is {n:Nat}{G:ak}{v:ah}{vs:List ah}(h:Qu n G v vs):ff n G v vs:=by
 rcases h with h|⟨id,k,len,cap,cs,rfl,hg,hc,hl,hu,rfl⟩
 ·exact .inr h
 ·refine .inl ⟨_,_,_,_,_,_,rfl,?_⟩;have h1:lO G n id [] k (k*n)=some cs:=by simp[lO,nI,hg,mQ,sub,hu]
  simp only[gq,h1];rw[if_pos (by omega)]
theorem Qu.leaf {n:Nat}{G:ak}{v:ah}{vs:List ah}(h:Qu n G v vs):sz v=1/\v.isAgg=false/\okv v=true:=by
 rcases h with ⟨rfl,_⟩|⟨_,_,_,_,_,rfl,_⟩<;>exact⟨rfl,rfl,rfl⟩
theorem Qu.own {n:Nat}{G:ak}{v:ah}{vs:List ah}(h:Own n G v vs):Qu n G v vs:=by
 rcases h with h|⟨id,len,cap,cs,rfl,hg,hc,hl,hu,rfl⟩
 ·exact .inl h
 ·exact .inr ⟨id,0,len,cap,cs,by rw[Nat.zero_mul],hg,by omega,hl,hu,by rw[List.drop_zero]⟩
def QuL (n:Nat) (v:ah) (vs:List ah):LP where
 p:=fun G F=>Qu n G v vs/\F=(rowOf v).toList
 rows:=by
  rintro G F ⟨h,rfl⟩ j hj
  rcases h with ⟨rfl,_⟩|⟨id,k,len,cap,cs,rfl,hg,_⟩
  ·simp[rowOf]at hj
  ·simp[rowOf]at hj;subst hj;simp[hg]
 loc:=by
  rintro G G' F ⟨h,rfl⟩ hs
  refine⟨?_,rfl⟩
  rcases h with h|⟨id,k,len,cap,cs,rfl,hg,h⟩
  ·exact .inl h
  ·exact .inr ⟨id,k,len,cap,cs,rfl,by rw[hs id (by simp[rowOf])];exact hg,h⟩
section
variable {F0:List AId}{G0 G:ak}{ps:List LP}
theorem QuL.qu {i n:Nat}{v:ah}{vs:List ah}(h:Sp F0 G0 ps G) (hi:ps[i]?=some (QuL n v vs)):Qu n G v vs:=by
 obtain⟨F,h,_⟩:=h.get hi;exact h
theorem bm.qu {i n:Nat}{v:ah}{vs:List ah}(h:Sp F0 G0 ps G) (hi:ps[i]?=some (bm n v vs)):Sp F0 G0 (ps.set i (QuL n v vs)) G:=
 h.call hi (QuL n v vs) fun F ⟨ho,hF⟩ k=>k F G ⟨Qu.own ho,hF⟩ (Ch.refl _ _)
variable {T:Tbl}{ts e:TypeId}{si ie:TI} (ht:T ts=some si) (hd:si.desc=.slice e) (he:T e=some ie)
include ht hd he in
theorem Qu.rest {v x:ah}{vs:List ah}(h:Qu ie.size G v (x::vs)):∃ w,dV T ts v (some (.int .i64 1)) none none=some w/\Qu ie.size G w vs/\(rowOf w=rowOf v):=by
 rcases h with ⟨_,h⟩|⟨id,k,len,cap,cs,rfl,hg,hc,hl,hu,hv⟩
 ·cases h
 ·have hlen:1≤len:=by
   have:=congrArg List.length hv;rw[List.length_cons,List.length_take]at this;omega
  have h1:j8 len cap (some (.int .i64 1)) none none=some (1,len,cap):=by
   have:=qB (k:=.i64) (m:=1) (len:=len) (cap:=cap) hlen hl;simpa using this
  have e1:vs=(cs.drop (k+1)).take (len-1):=by
   obtain⟨m,rfl⟩:∃ m,len=m+1:=⟨len-1,by omega⟩;rw[List.drop_eq_getElem_cons (show k<cs.length by omega),List.take_succ_cons]at hv;injection hv with _ h2
  refine⟨.slice id [] (if cap=1 then k else k+1) (if cap=1 then k*ie.size else k*ie.size+1*ie.size) (len-1) (cap-1),?_,?_,rfl⟩
  ·simp only[dV,ht,hd,he,h1]
  ·by_cases hcm:cap=1
   ·rw[if_pos hcm,if_pos hcm];refine .inr ⟨id,k,len-1,cap-1,cs,rfl,hg,by omega,by omega,hu,?_⟩;rw[e1,show len-1=0 by omega,List.take_zero,List.take_zero]
   ·rw[if_neg hcm,if_neg hcm];exact .inr ⟨id,k+1,len-1,cap-1,cs,by rw[Nat.add_mul],hg,by omega,by omega,hu,e1⟩
variable (hz:sz ie.zero=ie.size) (hb:ie.bytes≠0)
include ht hd he hz hb in
theorem K9 {i:Nat}{s:ah}{vs:List ah}{c:ah}{K:ah->ak->Prop}(hs:Sp F0 G0 ps G) (hi:ps[i]?=some (QuL ie.size s vs)) (hc:sz c=ie.size) (hok:okv c=true) (hie:ie.size≤16777216) (hl:(vs.length+1)*ie.bytes≤140737488355328)
  (hK:∀ s' G',Sp F0 G0 (ps.set i (QuL ie.size s' (vs++[c]))) G'->K s' G'):bu T ts 1 [(0,c)] G fun v G'=>cn T G' ts ts s v K:=by
 refine Df ht hd he hz hs hc hie fun x G1 s1=>?_;have hx:=(bm.own (i:=0) s1 rfl).is.elems;have hi1:(bm ie.size x [c]::ps)[i+1]?=some (QuL ie.size s vs):=by simpa using hi
 have hq:=QuL.qu s1 hi1;have hu1:uni ie.size [c]=true:=by simp[Esc.uni,hc]
 have fin:∀ s' G2,Sp F0 G0 ((bm ie.size x [c]::ps).set (i+1) (QuL ie.size s' (vs++[c]))) G2->K s' G2:=fun s' G2 h=>hK s' G2 (by simpa using h.erase 0);refine⟨?_⟩;unfold rH;simp only[ht,hd,he,hx];refine⟨.inr ⟨e,rfl⟩,?_⟩;have hgrow:∀ olds:List ah,uni ie.size olds=true->olds=vs->grow ie G1 olds [c] K:=by
  intro olds huo ho;subst ho;refine⟨by simpa using hl,hb,fun id cap hf hle hcap=>fin _ _ ?_⟩;refine s1.call hi1 (QuL ie.size (.slice id [] 0 0 (olds.length+[c].length) cap) (olds++[c])) fun F h k=>k [id] _ ⟨.inr ⟨id,0,olds.length+1,cap,olds++[c]++List.replicate (cap-(olds.length+[c].length)) ie.zero,by simp,ak.dR _ _ _,by simp at hle ⊢;omega,by simpa using hle,mH (mH huo hu1) (nq hz),?_⟩,rfl⟩ ?_
  ·rw[List.drop_zero,List.take_left' (by simp)]
  ·obtain⟨_,rfl⟩:=h;exact⟨pa.of_le (hf.le _),fun j o hj _=>hf.le _ _ _ hj,fun j hj=>by simp at hj;subst hj;exact .inr hf.none⟩
 rcases hq with ⟨rfl,rfl⟩|⟨id,k,len,cap,cs,rfl,hg,hcap,hlc,hun,hv⟩
 ·exact hgrow [] rfl rfl
 ·have hvl:vs.length=len:=by rw[hv,List.length_take,List.length_drop];omega
  have harr:lO G1 ie.size id [] k (k*ie.size)=some cs:=by simp[lO,nI,hg,mQ,sub,hun]
  refine⟨fun hle=>?_,fun hlt=>?_⟩
  ·simp only[lay,harr];have hle:len+1≤cap:=(by simpa using hle);refine⟨by simp;omega,by simp[mz,hok],hu1,?_⟩;have hput:qS G1 id [] ie.size k (k*ie.size) (cs.take (k+len)++[c]++cs.drop (k+len+[c].length))=some (G1.upd id (.own (.agg (cs.take (k+len)++[c]++cs.drop (k+len+[c].length))))):=by
    simp[qS,hg,sub,putAt]
   rw[hput];refine fin _ _ (s1.call hi1 (QuL ie.size (.slice id [] k (k*ie.size) (len+[c].length) cap) (vs++[c])) fun F h k2=>?_);obtain⟨_,rfl⟩:=h;refine k2 _ _ ⟨.inr ⟨id,k,len+1,cap,_,by simp,ak.dR _ _ _,?_,hle,mH (mH (j0 hun _) hu1) (pY hun _),?_⟩,rfl⟩ (by simpa[rowOf] using Go.Esc.M.sZ hg (by simp))
   ·simp only[List.length_append,List.length_take,List.length_drop,List.length_singleton];omega
   ·have e1:cs.take (k+len)++[c]++cs.drop (k+len+[c].length)=cs.take k++(((cs.drop k).take len++[c])++cs.drop (k+len+[c].length)):=by
     rw[List.take_add];simp
    rw[e1,List.drop_left' (by rw[List.length_take];omega),hv,List.take_left'];rw[List.length_append,List.length_take,List.length_drop,List.length_singleton];omega
  ·have hse:gq G1 ie.size (.slice id [] k (k*ie.size) len cap)=some vs:=by
    simp only[gq,harr];rw[if_pos (by omega),hv]
   rw[hse];exact hgrow vs (by rw[hv];exact j0 (pY hun _) _) rfl
end
end Go.Esc
namespace Go.Esc.M
open Go Go.Esc
def bN (s:Bool):Nat:=bif s then 1 else 0
def bI (s:Bool):Int:=(bN s:Nat)
def mg {α:Type} (g:Bool->α) (s:Bool) (x:α):Bool->α:=fun t=>if t=s then x else g t
theorem ox {α:Type}(g:Bool->α) (s:Bool) (x:α):mg g s x s=x:=if_pos rfl
theorem qF {α:Type}(g:Bool->α) {s t:Bool}(x:α) (h:t≠s):mg g s x t=g t:=if_neg h
structure me where
 c:Bool->CfM
 f:Bool->StF
 q:Bool->List cr
structure Ls where
 o:ah
 p:ah
 h:ah
def Ls.lv (l:Ls):Prop:=bw l.o/\bw l.p/\bw l.h
def oU (t:me) (l:Bool->Ls) (w:Bool->ah):ah:=
 .agg [.agg [(t.c false).av,(t.c true).av],.agg [(t.f false).s.av (l false).o (l false).p (l false).h,(t.f true).s.av (l true).o (l true).p (l true).h],w false,w true]
abbrev nZ (tb:AId) (t:me) (l:Bool->Ls) (w:Bool->ah):List LP:=
 [au tb (oU t l w),bm 36 (l false).o ((t.f false).o.map aL.av),bm 36 (l false).p ((t.f false).p.map aL.av),bm 34 (l false).h ((t.f false).h.map b6.av),bm 36 (l true).o ((t.f true).o.map aL.av),bm 36 (l true).p ((t.f true).p.map aL.av),bm 34 (l true).h ((t.f true).h.map b6.av),
  QuL 70 (w false) ((t.q false).map cr.av),QuL 70 (w true) ((t.q true).map cr.av)]
structure kK (t:me) (n:Nat):Prop where
 c:∀ s,(t.c s).ok
 f:∀ s,iY (t.f s)
 q:∀ s,∀ m∈t.q s,m.ok
 n:∀ s,(t.q s).length≤n
def jP (tb:AId) (t:me):LP where
 p:=fun G F=>∃ l w Fs,Sps (nZ tb t l w) Fs G/\F=Fs.flatten
 rows:=by
  rintro G F ⟨l,w,Fs,h,rfl⟩
  exact h.rows
 loc:=by
  rintro G G' F ⟨l,w,Fs,h,rfl⟩ hs
  exact⟨l,w,Fs,h.same hs,rfl⟩
section
variable {F0:List AId}{G0 G:ak}{ps:List LP}{Q:ah->ak->Prop}{tb:AId}{t:me}{l:Bool->Ls}{w:Bool->ah}
theorem jP.open {F:List AId}(h:(jP tb t).p G F):∃ l w,Sp F G (nZ tb t l w) G:=by
 obtain⟨l,w,Fs,h,rfl⟩:=h;exact⟨l,w,Fs,h,Ch.refl _ _⟩
theorem jP.close {F:List AId}(h:Sp F G0 (nZ tb t l w) G):∃ F',(jP tb t).p G F'/\Ch F G0 F' G:=by
 obtain⟨Fs,h1,h2⟩:=h;exact⟨Fs.flatten,⟨l,w,Fs,h1,rfl⟩,h2⟩
theorem Sp.with {p:LP}{F:List AId}(h:p.p G0 F) (s:Sp [] G0 ps G):Sp F G0 (p::ps) G:=by
 obtain⟨Fs,h1,h2⟩:=s;have hs:∀ j∈F,G j=G0 j:=fun j hj=>h2.same (E:=F) (p.rows h) (by simp) j hj;refine⟨F::Fs,⟨p.loc h hs,fun j hj hm=>?_,h1⟩,⟨h2.ro,fun j o hj _=>h2.others j o hj (by simp),fun j hj=>?_⟩⟩
 ·rcases h2.row j hm with h'|h'
  ·simp at h'
  ·have:=p.rows h j hj;rw[h']at this;cases this
 ·have hj:j∈F\/j∈Fs.flatten:=by simpa using hj
  rcases hj with hj|hj
  ·exact .inl hj
  ·rcases h2.row j hj with h'|h'
   ·simp at h'
   ·exact .inr h'
theorem LP.mv {p:LP}{F E:List AId}{G':ak}(h:p.p G F) (hc:Ch [] G E G'):p.p G' F:=p.loc h fun j hj=>hc.same (E:=F) (p.rows h) (by simp) j hj
structure pw (G:ak) (tb:AId) (t:me) (l:Bool->Ls) (w:Bool->ah):Prop where
 g:G tb=some (.own (oU t l w))
 lv:∀ s,(l s).lv
 lw:∀ s,bw (w s)
 o:∀ s,hJ 36 G (l s).o ((t.f s).o.map aL.av)
 p:∀ s,hJ 36 G (l s).p ((t.f s).p.map aL.av)
 h:∀ s,hJ 34 G (l s).h ((t.f s).h.map b6.av)
 q:∀ s,Qu 70 G (w s) ((t.q s).map cr.av)
theorem Sp.tab {i:Nat}(s:Sp F0 G0 ps G) (e:ps=nZ tb t l w):pw G tb t l w:=by
 subst e;have a1:=bm.own (i:=1) s rfl;have a2:=bm.own (i:=2) s rfl;have a3:=bm.own (i:=3) s rfl;have a4:=bm.own (i:=4) s rfl;have a5:=bm.own (i:=5) s rfl;have a6:=bm.own (i:=6) s rfl;have a7:=QuL.qu (i:=7) s rfl;have a8:=QuL.qu (i:=8) s rfl;refine⟨au.own (i:=0) s rfl,fun s=>?_,fun s=>?_,fun s=>?_,fun s=>?_,fun s=>?_,fun s=>?_⟩
 ·cases s
  ·exact⟨a1.leaf,a2.leaf,a3.leaf⟩
  ·exact⟨a4.leaf,a5.leaf,a6.leaf⟩
 ·cases s
  ·exact a7.leaf
  ·exact a8.leaf
 ·cases s
  ·exact Own.nj a1
  ·exact Own.nj a4
 ·cases s
  ·exact Own.nj a2
  ·exact Own.nj a5
 ·cases s
  ·exact Own.nj a3
  ·exact Own.nj a6
 ·cases s
  ·exact a7
  ·exact a8
theorem Qu.ch' {n:Nat}{G G':ak}{E:List AId}{v:ah}{vs:List ah}(h:Qu n G v vs) (hc:Ch [] G E G'):Qu n G' v vs:=by
 rcases h with h|⟨id,k,len,cap,cs,rfl,hg,h⟩
 ·exact .inl h
 ·exact .inr ⟨id,k,len,cap,cs,rfl,hc.others _ _ hg (by simp),h⟩
theorem pw.mv {G':ak}{E:List AId}(h:pw G tb t l w) (hc:Ch [] G E G'):pw G' tb t l w:=
 ⟨hc.others _ _ h.g (by simp),h.lv,h.lw,fun s=>(h.o s).mv hc.drop,fun s=>(h.p s).mv hc.drop,fun s=>(h.h s).mv hc.drop,fun s=>Qu.ch' (h.q s) hc⟩
theorem pw.IV {n:Nat}(h:pw G tb t l w) (k:kK t n) (s:Bool):ka G (t.f s) (l s).o (l s).p (l s).h:=by
 have I:=k.f s;have:=I.lo;have:=I.lp;have:=I.lh;exact⟨I.ok,h.o s,h.p s,h.h s,I.oko,I.okp,I.okh,by omega,by omega,by omega⟩
def aC (tb:AId) (s:Bool):ah:=.ptr tb [0,bN s] (0+bN s*164)
def aS (tb:AId) (s:Bool):ah:=.ptr tb [1,bN s] (328+bN s*115)
def aQ (tb:AId) (s:Bool):ah:=.ptr tb [2+bN s] (558+bN s)
theorem jm:lr (.ptr tb [] 0)=some (.ptr tb [] 0):=rfl
theorem qP:bt T bz (.ptr tb [] 0) 0=some (.ptr tb [0] 0):=rfl
theorem qO:bt T bz (.ptr tb [] 0) 1=some (.ptr tb [1] 328):=rfl
theorem CK:bt T bz (.ptr tb [] 0) 2=some (aQ tb false):=rfl
theorem CJ:bt T bz (.ptr tb [] 0) 3=some (aQ tb true):=rfl
theorem qN (s:Bool):aO T cJ (.ptr tb [0] 0) (.int .i64 (bI s))=some (aC tb s):=by cases s<;>rfl
theorem qM (s:Bool):aO T gQ (.ptr tb [1] 328) (.int .i64 (bI s))=some (aS tb s):=by cases s<;>rfl
section
variable {n:Nat} (h:pw G tb t l w) (k:kK t n)
include h k
theorem pw.szl:[ah.agg [(t.c false).av,(t.c true).av],.agg [(t.f false).s.av (l false).o (l false).p (l false).h,(t.f true).s.av (l true).o (l true).p (l true).h],w false,w true].map Esc.sz=[328,230,1,1]:=by
 simp[Esc.sz,szs,CfM.sz (k.c false),CfM.sz (k.c true),StM.sz (k.f false).ok (h.lv false),StM.sz (k.f true).ok (h.lv true),(h.lw false).1,(h.lw true).1]
theorem pw.szC:[(t.c false).av,(t.c true).av].map Esc.sz=[164,164]:=by simp[CfM.sz (k.c false),CfM.sz (k.c true)]
theorem pw.szS:[(t.f false).s.av (l false).o (l false).p (l false).h,(t.f true).s.av (l true).o (l true).p (l true).h].map Esc.sz=[115,115]:=by simp[StM.sz (k.f false).ok (h.lv false),StM.sz (k.f true).ok (h.lv true)]
theorem pw.ldC (s:Bool):ag T G bU (aC tb s)=some (t.c s).av:=by
 cases s
 ·exact ld2 h.g (h.szl k) rfl rfl (h.szC k) rfl rfl rfl kp (CfM.fits (k.c false))
 ·exact ld2 h.g (h.szl k) rfl rfl (h.szC k) rfl rfl rfl kp (CfM.fits (k.c true))
theorem pw.ldS (s:Bool):ag T G aE (aS tb s)=some ((t.f s).s.av (l s).o (l s).p (l s).h):=by
 cases s
 ·exact ld2 h.g (h.szl k) rfl rfl (h.szS k) rfl rfl rfl na (StM.fits (k.f false).ok (h.lv false))
 ·exact ld2 h.g (h.szl k) rfl rfl (h.szS k) rfl rfl rfl na (StM.fits (k.f true).ok (h.lv true))
theorem pw.ldQ (s:Bool):ag T G bR (aQ tb s)=some (w s):=by
 cases s
 ·exact ld1 h.g (h.szl k) rfl rfl gP (kF (h.lw false) rfl)
 ·exact ld1 h.g (h.szl k) rfl rfl gP (kF (h.lw true) rfl)
end
end
end Go.Esc.M
