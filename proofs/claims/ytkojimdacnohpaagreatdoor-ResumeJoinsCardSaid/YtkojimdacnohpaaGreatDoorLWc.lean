import Derived.Test.YtkojimdacnohpaaGreatDoorLNd
import Derived.Test.YtkojimdacnohpaaGreatDoorLUl
import Derived.Test.YtkojimdacnohpaaGreatDoorLMo
import Derived.Test.YtkojimdacnohpaaGreatDoorLSe
import Derived.Test.YtkojimdacnohpaaGreatDoorLSf
import Derived.Test.YtkojimdacnohpaaGreatDoorLFu
import Derived.Test.YtkojimdacnohpaaGreatDoorLRO
set_option maxHeartbeats 8000000
set_option linter.unusedSimpArgs false
set_option linter.unusedVariables false
set_option maxRecDepth 20000
namespace Go.Esc.M
open Go Go.Esc
def d15:DlM:=⟨1000,700,h0,h0,h0,h0⟩
theorem FO:d15.ok:=⟨iu 1000 (by decide) (by decide),iu 700 (by decide) (by decide),rfl,rfl,rfl,rfl⟩
def c15 (a b:List UInt8):CfM:=⟨0,1000,700,h0,h0,h0,a,b,4096⟩
def s15 (a b:List UInt8):StM:={ StM.zero with side:=0,cap:=1000,bo:=700,bp:=300,ptsA:=a,ptsB:=b,closed:=-1 }
def f15 (a b:List UInt8):StF:=⟨s15 a b,[],[],[]⟩
theorem IP (a b:List UInt8):mm (c15 a b)=(s15 a b,0):=rfl
section
variable {F0:List AId}{G0 G:ak}{ps:List LP}{Q:ah->ak->Prop}
theorem f15_in {a b:List UInt8}(ha:a.length=32) (hb:b.length=32) (G:ak):ka G (f15 a b) .nilSlice .nilSlice .nilSlice:=
 ⟨⟨cL,iu 1000 (by decide) (by decide),iu 700 (by decide) (by decide),iu 300 (by decide) (by decide),cL,cL,cL,cL,cL,cL,cL,cL,cL,ha,hb,rfl,cL,iu (-1) (by decide) (by decide)⟩,hJ.nil,hJ.nil,hJ.nil,by simp[f15],by simp[f15],by simp[f15],by simp[f15],by simp[f15],by simp[f15]⟩
theorem JL {a b:CfM}(ha:a.ok) (hb:b.ok):pz T cJ (nU a b) (.int .i64 0)=some a.av:=by
 have h1:Esc.uni 164 [a.av,b.av]=true:=by simp[Esc.uni,CfM.sz ha,CfM.sz hb]
 have h2:=CfM.fits ha;simp only[pz,nU,mW,show jO.desc=.array 2 bU from rfl,kp];have h3:Esc.uni nt.size [a.av,b.av]=true:=h1;simp[h2,h3]
end
theorem Du {G:ak}{R d:Nat}{v:ah}{m:Nat}(h:wt T G R (d+3) cc v m):∃ a b:List UInt8,v=mT a b/\a.length=32/\b.length=32:=by
 rw[wt]at h;simp only[mf,show mr.desc=.array 2 ar from rfl]at h;obtain⟨cs,ms,rfl,hl,hw,_⟩:=h
 match cs,ms,hl,hw with
 | [a,b],[m1,m2],_,⟨h1,h2,_⟩=>
  obtain⟨x,rfl,lx,_⟩:=Cw bZ rfl cW rfl h1;obtain⟨y,rfl,ly,_⟩:=Cw bZ rfl cW rfl h2;exact⟨x,y,rfl,lx,ly⟩
end Go.Esc.M
namespace Go.Esc.M
open Go Go.Esc
def acG (f:StF):cr:={ cr.zero with kind:=6,index:=IntKind.i64.wrap (f.s.loc+1),next:=f.s.ack,secret:=if 0<f.s.ack then (ac8 f.h (f.s.ack-1)).1 else h0 }
def acx (c:CfM) (m:cr):Bool:=
 if 0<m.next then decide (m.next≤281474976710655) && (decide ((jS c.seed (m.next-1)).2=0) && decide ((jS c.seed (m.next-1)).1=m.secret))
 else if m.next=0 then decide (m.secret=h0) else true
def acy (c:CfM) (f:StF) (m:cr):Int:=
 if m.kind≠6 then 160 else if acx c m=false then 100 else if f.s.loc<m.next then 180
 else if m.next<0\/(m.next≠f.s.loc/\m.next≠IntKind.i64.wrap (f.s.loc-1)) then 90
 else if m.index≠IntKind.i64.wrap (f.s.rem+1)/\(m.index≠f.s.rem\/f.s.rem≠IntKind.i64.wrap (f.s.ack+1)) then 90 else 0
def acL (l:List aL) (a b:Int):List cr:=((l.take (min b (l.length:Nat)).toNat).drop (max a 0).toNat).map GL
def ac0 (c:CfM) (f:StF) (m:cr) (b:Bool):List cr:=if m.next=IntKind.i64.wrap (f.s.loc-1)/\f.s.behind=b then [qC c m.next] else []
def acz (c:CfM) (f:StF) (m:cr):List cr×Int:=
 if acy c f m≠0 then ([],acy c f m) else
  (((ac0 c f m true++(if m.index=f.s.rem then acL f.o f.s.heldA f.s.sgnA++[tI c f] else []))++ac0 c f m false)++acL f.o f.s.sgnA (f.o.length:Nat),0)
theorem ac7 {f:StF}{G:ak}{vo vp vh:ah}(hS:ka G f vo vp vh):(acG f).ok:=by
 refine⟨iu 6 (by decide) (by decide),cL,cL,LM _,hS.ok.ack,rfl,?_,by simp[acG,cr.zero]⟩;show (if 0<f.s.ack then (ac8 f.h (f.s.ack-1)).1 else h0).length=32;split
 ·exact acW hS.okh
 ·rfl
theorem ve {c:CfM}(hc:c.ok) {n:Int}(hn:I64 n):(qC c n).ok:=by
 unfold qC;split
 ·exact cr.bq
 ·exact⟨iu 5 (by decide) (by decide),cL,cL,hn,cL,je _,mZ hc.seed n,by simp[cr.zero]⟩
theorem xT {c:CfM}{f:StF}(h:f.s.ok):(tI c f).ok:=by
 unfold tI;exact⟨iu 4 (by decide) (by decide),cL,cL,h.rem,cL,gU _,rfl,by simp[cr.zero]⟩
theorem ac6 (l:List aL) (a b:Int):(acL l a b).length≤l.length:=by
 unfold acL;rw[List.length_map,List.length_drop,List.length_take];omega
theorem acV (c:CfM) (f:StF) (m:cr) (b:Bool):(ac0 c f m b).length≤1:=by
 unfold ac0;split<;>simp
section
variable {F0:List AId}{G0 G:ak}{ps:List LP}{Q:ah->ak->Prop}
theorem acZ {a b:Int}:bj T aW [(0,.int .i64 6),(3,.int .i64 a),(4,.int .i64 b)]=some (cr.av { cr.zero with kind:=6,index:=a,next:=b }):=
 uo (fun p hp=>by
  simp only[List.mem_cons,List.not_mem_nil,or_false]at hp
  rcases hp with rfl|rfl|rfl<;>rfl) rfl
theorem Kz {u:cr}{K:AId->ak->Prop}(hs:Sp F0 G0 ps G) (hu:u.ok) (hK:∀ i G',Sp F0 G0 (au i u.av::ps) G'->K i G'):br G (.own jF) fun i G2=>wg (aF T G2 aW (.ptr i [] 0) u.av) fun G3=>K i G3:=
 jL hs eQ (cr.fits hu) (by rw[cr.sz hu];rfl) (cr.okv u) hK
theorem acv.use {f:StF}{c:CfM}{vo vp vh:ah}(hT:Tab G) (hS:ka G f vo vp vh) (hc:c.ok) (hQ:∀ G',Ch [] G [] G'->Q (acG f).av G'):al P acv.n [c.av,f.s.av vo vp vh] G Q:=by
 have ho:=hS.ok;have hl:=hS.lv;have hok:=ac7 hS;refine acv.sound ?_;unfold acv.S;rw[EW];intro i1 f1;have s1:=(Sp.nil G).row f1 c.av;intro i3 f3;have s3:=s1.row f3 (f.s.av vo vp vh);intro i5 f5;have s5:=s3.row f5 cr.zero.av;revert s5;generalize ak.upd _ i5 _=G6;intro s5;have hg:=au.own (i:=1) s5 rfl;refine ae (St.qb hg ho hl) ?_;rw[bg,aa];refine ae (St.mS hg ho hl) ?_;refine ae acZ ?_;have hok0:({ cr.zero with kind:=6,index:=IntKind.i64.wrap (f.s.loc+1),next:=f.s.ack }:cr).ok:=⟨iu 6 (by decide) (by decide),cL,cL,LM _,ho.ack,rfl,rfl,by simp[cr.zero]⟩;refine Kz s5 hok0 fun i11 G13 s13=>?_;have hg:=au.own (i:=2) s13 rfl;refine ae (St.mS hg ho hl) ?_;rw[da,aa,aI];have fin:∀ {G2:ak}{m:cr},Sp [] G [au i11 m.av,au i5 cr.zero.av,au i3 (f.s.av vo vp vh),au i1 c.av] G2->m=acG f ->
   wv (ag T G2 aW (.ptr i11 [] 0)) fun v28=>wg (aF T G2 aW (.ptr i5 [] 0) v28) fun G29=>wv (ag T G29 aW (.ptr i5 [] 0)) fun v30=>Q v30 G29:=by
  intro G2 m s hm;subst hm;refine ae (cj eQ (au.own (i:=0) s rfl) (cr.fits hok)) ?_;refine nK (i:=1) s rfl cr.bq hok fun G29 s29=>?_;refine ae (cj eQ (au.own (i:=1) s29 rfl) (cr.fits hok)) ?_;exact hQ _ s29.ch
 refine⟨fun h1=>?_,fun h1=>?_⟩
 ·refine ae (St.l6 hg ho hl) ?_;refine ae (St.mS hg ho hl) ?_;have ha:=ho.ack;rw[b7,i64_in (by have:=ha.1;omega) (by have:=ha.2;omega),aa];refine acw.use (hT.mono s13.ro) (hS.h.gZ.ch' s13.ch) hS.okh hS.lh fun G20 c20=>?_;have s20:=s13.tmp c20;refine ae (hi0 _) ?_;refine ae (hi1 _) ?_;refine ac2 (i:=0) (acW hS.okh) hok0 s20 rfl fun G23 s23=>?_;exact fin s23 (by unfold acG;rw[if_pos h1])
 ·exact fin s13 (by unfold acG;rw[if_neg h1];rfl)
theorem acs.use {c:CfM}{m:cr}(hc:c.ok) (hm:m.ok) (hQ:∀ G',Ch [] G [] G'->Q (.bool (acx c m)) G'):al P acs.n [c.av,m.av] G Q:=by
 refine acs.sound ?_;unfold acs.S;unfold acx at hQ;intro i1 f1;have s1:=(Sp.nil G).row f1 c.av;intro i3 f3;have s3:=s1.row f3 m.av;revert s3;generalize ak.upd _ i3 _=G4;intro s3;obtain⟨_,_,_,_,m4,_,m6,_,_⟩:=gx (i:=0) s3 rfl hm;refine ae m4 ?_;rw[da,aa,aI];refine⟨fun h1=>?_,fun h1=>?_⟩
 ·rw[if_pos h1]at hQ;refine ae (Cf.ue (au.own (i:=1) s3 rfl) hc) ?_;refine ae m4 ?_;have hn:=hm.next
  rw[b7,i64_in (by have:=hn.1;omega) (by have:=hn.2;omega),aa];refine im.use hc.seed fun G11 c11=>?_;have s11:=s3.tmp c11;have hx:=mZ hc.seed (m.next-1);obtain⟨X,hX⟩:∃ X,X=jS c.seed (m.next-1):=⟨_,rfl⟩;rw[<- hX]at hQ hx ⊢;refine ae (hi0 _) ?_;refine ae (hi1 _) ?_;refine pg s11 hx fun i14 G16 s16=>?_;obtain⟨_,_,_,_,m4,_,m6,_,_⟩:=gx (i:=1) s16 rfl hm;refine ae m4 ?_;rw[kQ,aa,aI];refine⟨fun h2=>?_,fun h2=>?_⟩
  ·rw[dT_ h2,Bool.true_and]at hQ;rw[bB,aa,aI];refine⟨fun h3=>?_,fun h3=>?_⟩
   ·rw[dT_ h3,Bool.true_and]at hQ;refine ae (bM hx (au.own (i:=0) s16 rfl)) ?_;refine ae m6 ?_;refine ae (uh hx hm.secret) ?_;exact hQ _ s16.ch
   ·rw[dF_ h3,Bool.false_and]at hQ;exact hQ _ s16.ch
  ·rw[dF_ h2,Bool.false_and]at hQ;exact hQ _ s16.ch
 ·rw[if_neg h1]at hQ;refine ae m4 ?_;rw[bB,aa,aI];refine⟨fun h2=>?_,fun h2=>?_⟩
  ·rw[if_pos h2]at hQ;refine ae m6 ?_;refine ae (v:=.agg (h0.map u8v)) rfl ?_;refine ae (uh hm.secret (by rfl)) ?_;exact hQ _ s3.ch
  ·rw[if_neg h2]at hQ;exact hQ _ s3.ch
theorem acu.use {f:StF}{c:CfM}{m:cr}{vo vp vh:ah}(hS:ka G f vo vp vh) (hc:c.ok) (hm:m.ok) (hQ:∀ G',Ch [] G [] G'->Q (.int .i64 (acy c f m)) G'):al P acu.n [c.av,f.s.av vo vp vh,m.av] G Q:=by
 have ho:=hS.ok;have hl:=hS.lv;refine acu.sound ?_;unfold acu.S;unfold acy at hQ;intro i1 f1;have s1:=(Sp.nil G).row f1 c.av;intro i3 f3;have s3:=s1.row f3 (f.s.av vo vp vh);intro i5 f5;have s5:=s3.row f5 m.av;revert s5;generalize ak.upd _ i5 _=G6;intro s5;obtain⟨m0,_,_,_,_,_,_,_,afF⟩:=gx (i:=0) s5 rfl hm;refine ae m0 ?_;rw[cD,aa,dC];refine⟨fun h1=>?_,fun h1=>?_⟩
 ·rw[if_pos h1]at hQ;exact hQ _ s5.ch
 rw[if_neg (fun hh=>hh h1)]at hQ;refine ae (Cf.ld (au.own (i:=2) s5 rfl) hc) ?_;refine ae afF ?_;refine acs.use hc hm fun G12 c12=>?_;have s12:=s5.tmp c12;rw[dx,aa];cases hp:acx c m with
 | false=>
  rw[hp,if_pos rfl]at hQ;rw[Bool.not_false,aN];exact hQ _ s12.ch
 | true=>
 rw[hp,if_neg (by decide)]at hQ;rw[Bool.not_true,aK];have s12:Sp [] G [au i5 m.av,au i3 (f.s.av vo vp vh),au i1 c.av] G12:=s12;obtain⟨m0,_,_,m3,m4,_,_,_,afF⟩:=gx (i:=0) s12 rfl hm;have hg:=au.own (i:=1) s12 rfl;refine ae m4 ?_;refine ae (St.qb hg ho hl) ?_;rw[da,aa,aI];refine⟨fun h2=>?_,fun h2=>?_⟩
 ·rw[if_pos h2]at hQ;exact hQ _ s12.ch
 rw[if_neg h2]at hQ;intro J42;have bad:(m.next<0\/(m.next≠f.s.loc/\m.next≠IntKind.i64.wrap (f.s.loc-1)))->J42 (.bool true) G12:=by
  intro hb;rw[if_pos hb]at hQ;simp -zeta only [J42,aN];exact hQ _ s12.ch
 have lK:¬ (m.next<0\/(m.next≠f.s.loc/\m.next≠IntKind.i64.wrap (f.s.loc-1)))->J42 (.bool false) G12:=by
  intro hb;rw[if_neg hb]at hQ;simp -zeta only [J42,aK];refine ae m3 ?_;refine ae (St.mn hg ho hl) ?_;rw[bg,aa,cD,aa,dC];refine⟨fun h3=>?_,fun h3=>?_⟩
  ·refine ae m3 ?_;refine ae (St.mn hg ho hl) ?_;rw[cD,aa,dC];refine⟨fun h4=>?_,fun h4=>?_⟩
   ·rw[if_pos ⟨h3,.inl h4⟩]at hQ;exact hQ _ s12.ch
   ·refine ae (St.mn hg ho hl) ?_;refine ae (St.mS hg ho hl) ?_;rw[bg,aa,cD,aa,dC];refine⟨fun h5=>?_,fun h5=>?_⟩
    ·rw[if_pos ⟨h3,.inr h5⟩]at hQ;exact hQ _ s12.ch
    ·rw[if_neg (by rintro⟨_,h | h⟩;exact h h4;exact h h5)]at hQ;exact hQ _ s12.ch
  ·rw[if_neg (by rintro⟨h,_⟩;exact h h3)]at hQ;exact hQ _ s12.ch
 refine ae m4 ?_;rw[aM,aa,aI];refine⟨fun h3=>bad (.inl h3),fun h3=>?_⟩;refine ae m4 ?_;refine ae (St.qb hg ho hl) ?_;rw[cD,aa,dC];refine⟨fun h4=>?_,fun h4=>lK (by rintro (h | ⟨h,_⟩);exact h3 h;exact h h4)⟩;refine ae m4 ?_;refine ae (St.qb hg ho hl) ?_;rw[b7,aa,cD,aa];by_cases h5:m.next=IntKind.i64.wrap (f.s.loc-1)
 ·rw[dT_ h5];exact lK (by rintro (h | ⟨_,h⟩);exact h3 h;exact h h5)
 ·rw[dF_ h5];exact bad (.inr ⟨h4,h5⟩)
theorem acS {o:AId}{w:ah}{l:List cr}{x:cr}{rest:List LP}{K:ak->Prop}(hs:Sp F0 G0 (au o w::bm 70 w (l.map cr.av)::rest) G) (hx:x.ok) (hlen:l.length≤100000000)
  (hK:∀ w' G',Sp F0 G0 (au o w'::bm 70 w' ((l++[x]).map cr.av)::rest) G'->K G') :
  bu T bR 1 [(0,x.av)] G fun v G1=>cn T G1 bR bR w v fun v2 G2=>wg (aF T G2 bR (.ptr o [] 0) v2) K:=by
 refine wm (T:=T) (ts:=bR) (e:=aW) (si:=iJ) (ie:=il) (i:=1) (vs:=l.map cr.av) gP rfl eQ rfl (by decide) hs rfl (cr.sz hx) (cr.okv x) (by decide) (by rw[List.length_map];simp only[il];omega) fun w' G' s'=>?_;have s':Sp F0 G0 (au o w::bm 70 w' (l.map cr.av++[x.av])::rest) G':=s';have lw:=(bm.own (i:=1) hs rfl).leaf;have lw':=(bm.own (i:=1) s' rfl).leaf;refine fg (ig gP (au.own (i:=0) s' rfl) (kF lw' rfl) (by rw[lw.1,lw'.1]) lw'.2.2) ?_;refine hK w' _ ?_;rw[List.map_append];exact Sp.setRow (j:=0) s' rfl _
theorem acB {o:AId}{w:ah}{i:Nat}(hs:Sp F0 G0 ps G) (hi:ps[i]?=some (au o w)) (hw:bw w):ag T G bR (.ptr o [] 0)=some w:=
 cj gP (au.own hs hi) (kF hw rfl)
def adb (a b:Int):Int:=if a<b then b else a
def acU (a b:Int):Int:=if b<a then b else a
theorem aco.use {f:StF}{c:CfM}{m:cr}{vo vp vh w:ah}{l:List cr}{o i1 i3 i5:AId}{a b:Int}(hS:ka G0 f vo vp vh)
  (hs:Sp [] G0 [au o w,bm 70 w (l.map cr.av),au i5 m.av,au i3 (f.s.av vo vp vh),au i1 c.av] G) (hlen:l.length+f.o.length≤100000000) (ha:I64 a) (hb:I64 b)
  (hQ:∀ w' G',Sp [] G0 [au o w',bm 70 w' ((l++acL f.o a b).map cr.av),au i5 m.av,au i3 (f.s.av vo vp vh),au i1 c.av] G'->Q (.tuple []) G') :
  al P aco.n [.int .i64 a,.int .i64 b,.ptr i3 [] 0,.ptr o [] 0] G Q:=by
 have ho:=hS.ok;have hl:=hS.lv;refine aco.sound ?_;unfold aco.S;refine ae (v:=.int .i64 (adb a 0)) rfl ?_;have hlo:=hS.lo;obtain⟨A,hA⟩:∃ A:Nat,adb a 0=(A:Int)/\A=(max a 0).toNat:=⟨(max a 0).toNat,by unfold adb;split<;>omega,rfl⟩;have hA2:(A:Int)≤9223372036854775807:=by have:=ha.2;omega
 rw[hA.1];obtain⟨M,hM⟩:∃ M:Nat,M=(min b (f.o.length:Nat)).toNat:=⟨_,rfl⟩;have hML:M≤f.o.length:=by omega
 unfold acL at hQ;rw[<- hA.2,<- hM]at hQ;intro R hR;have loop:∀ (n j:Nat) (w:ah) (G':ak),M-j=n->A≤j->(j:Int)≤9223372036854775807 ->
   Sp [] G0 [au o w,bm 70 w ((l++((f.o.take (min j M)).drop A).map GL).map cr.av),au i5 m.av,au i3 (f.s.av vo vp vh),au i1 c.av] G' ->
   R [.int .i64 b,.ptr i3 [] 0,.ptr o [] 0,.int .i64 (j:Int)] G':=by
  intro n;induction n with
  | zero=>
   intro j w G' hn hj hjm s;have hS':=hS.mv s.ch;refine hR _ _ _ _ _ ?_;have hg:=au.own (i:=3) s rfl;refine ae (v:=.ptr i3 [4] 4) rfl ?_;refine ae (St.dM hg ho hl) ?_;refine ae (dh hS'.o.gZ) ?_;refine ae (v:=.int .i64 (acU b (f.o.length:Nat))) rfl ?_;rw[aM,aa,aI];refine⟨fun h=>absurd h (by unfold acU;split<;>omega),fun _=>?_⟩;rw[show min j M=M by omega]at s;exact hQ w G' s
  | succ n ih=>
   intro j w G' hn hj hjm s;have hS':=hS.mv s.ch;obtain⟨u,hu⟩:∃ u,f.o[j]?=some u:=⟨_,List.getElem?_eq_getElem (by omega)⟩;have huo:=hS.oko u (List.mem_of_getElem? hu);refine hR _ _ _ _ _ ?_;have hg:=au.own (i:=3) s rfl;refine ae (v:=.ptr i3 [4] 4) rfl ?_;refine ae (St.dM hg ho hl) ?_;refine ae (dh hS'.o.gZ) ?_;refine ae (v:=.int .i64 (acU b (f.o.length:Nat))) rfl ?_;rw[aM,aa,aI];refine⟨fun _=>?_,fun h=>absurd (show (j:Int)<acU b (f.o.length:Nat) by unfold acU;split<;>omega) h⟩;have lw:=(bm.own (i:=1) s rfl).leaf;refine ae (acB (i:=0) s rfl lw) ?_;refine ae (v:=.ptr i3 [4] 4) rfl ?_;refine ae (St.dM hg ho hl) ?_;obtain⟨at_,ha1,ha2⟩:=nD hS'.o.gZ hu;refine ae ha1 ?_;refine ae ha2 ?_;refine acA.use huo fun G19 c19=>?_;have s19:=s.tmp c19;refine⟨⟨acB (i:=0) s19 rfl lw,trivial⟩,?_⟩;have hll:(l++((f.o.take (min j M)).drop A).map GL).length≤100000000:=by
    rw[List.length_append,List.length_map,List.length_drop,List.length_take];omega
   refine acS s19 (vY huo) hll fun w' G24 s24=>?_;rw[bg,i64_in (by omega) (by omega),aa];refine ih (j+1) w' G24 (by omega) (by omega) (by omega) ?_;rw[show min (j+1) M=j+1 by omega];rw[show min j M=j by omega,List.append_assoc]at s24;have e:((f.o.take (j+1)).drop A).map GL=((f.o.take j).drop A).map GL++[GL u]:=by
    rw[List.take_add_one,hu,List.drop_append_of_le_length (by rw[List.length_take];omega),List.map_append];rfl
   rw[e];exact s24
 by_cases hAM:A≤M
 ·refine loop (M-A) A w G rfl (by omega) (by omega) ?_;rw[show min A M=A by omega,List.drop_eq_nil_of_le (by rw[List.length_take];omega),List.map_nil,List.append_nil];exact hs
 ·refine loop 0 A w G (by omega) (by omega) (by omega) ?_;rw[List.drop_eq_nil_of_le (by rw[List.length_take];omega),List.map_nil,List.append_nil];exact hs
theorem acn.use {f:StF}{c:CfM}{m:cr}{vo vp vh w:ah}{l:List cr}{o i1 i3 i5:AId}{b:Bool}(hS:ka G0 f vo vp vh) (hc:c.ok) (hm:m.ok)
  (hs:Sp [] G0 [au o w,bm 70 w (l.map cr.av),au i5 m.av,au i3 (f.s.av vo vp vh),au i1 c.av] G) (hlen:l.length≤100000000)
  (hQ:∀ w' G',Sp [] G0 [au o w',bm 70 w' ((l++ac0 c f m b).map cr.av),au i5 m.av,au i3 (f.s.av vo vp vh),au i1 c.av] G'->Q (.tuple []) G') :
  al P acn.n [.bool b,.ptr i5 [] 0,.ptr i3 [] 0,.ptr o [] 0,.ptr i1 [] 0] G Q:=by
 have ho:=hS.ok;have hl:=hS.lv;refine acn.sound ?_;unfold acn.S;unfold ac0 at hQ;intro J24;have bad:¬ (m.next=IntKind.i64.wrap (f.s.loc-1)/\f.s.behind=b)->J24 (.bool false) G:=by
  intro hb;rw[if_neg hb,List.append_nil]at hQ;simp -zeta only [J24,aK];exact hQ _ _ hs
 have lK:(m.next=IntKind.i64.wrap (f.s.loc-1)/\f.s.behind=b)->J24 (.bool true) G:=by
  intro hb;rw[if_pos hb]at hQ;simp -zeta only [J24,aN];have lw:=(bm.own (i:=1) hs rfl).leaf;refine ae (acB (i:=0) hs rfl lw) ?_;refine ae (Cf.ld (au.own (i:=4) hs rfl) hc) ?_;refine ae (v:=.ptr i5 [4] 4) rfl ?_;refine ae (gx (i:=2) hs rfl hm).2.2.2.2.1 ?_;refine iU.use hc fun G17 c17=>?_;have s17:=hs.tmp c17;refine⟨⟨acB (i:=0) s17 rfl lw,trivial⟩,?_⟩;refine acS s17 (ve hc hm.next) hlen fun w' G22 s22=>?_;exact hQ w' G22 s22
 refine ae (v:=.ptr i5 [4] 4) rfl ?_;refine ae (gx (i:=2) hs rfl hm).2.2.2.2.1 ?_;refine ae (v:=.ptr i3 [6] 6) rfl ?_;have hg:=au.own (i:=3) hs rfl;refine ae (St.qb hg ho hl) ?_;rw[b7,aa,bB,aa,aI];refine⟨fun h1=>?_,fun h1=>bad fun h=>h1 h.1⟩;refine ae (v:=.ptr i3 [12] 15) rfl ?_;refine ae (St.B3 hg ho hl) ?_;refine ae (v:=.bool (f.s.behind == b)) rfl ?_;cases hb:(f.s.behind == b) with
 | true=>exact lK ⟨h1,by simpa using hb⟩
 | false=>exact bad fun h=>by rw[h.2]at hb;simp at hb
theorem ach.use {f:StF}{c:CfM}{m:cr}{vo vp vh:ah}(hS:ka G f vo vp vh) (hc:c.ok) (hm:m.ok) (hQ:∀ w G',Sp [] G [bm 70 w ((acz c f m).1.map cr.av)] G'->Q (.tuple [w,.int .i64 (acz c f m).2]) G'):al P ach.n [c.av,f.s.av vo vp vh,m.av] G Q:=by
 have ho:=hS.ok;have hl:=hS.lv;have hlo:=hS.lo;refine ach.sound ?_;unfold ach.S;rw[show wN=.nilSlice from rfl];unfold acz at hQ;have hAok:(tI c f).ok:=xT ho;obtain⟨B,hB⟩:∃ B,B=tI c f:=⟨_,rfl⟩;rw[<- hB]at hQ hAok;intro i1 f1;have s1:=(Sp.nil G).row f1 c.av;intro i3 f3;have s3:=s1.row f3 (f.s.av vo vp vh);intro i5 f5;have s5:=s3.row f5 m.av;revert s5;generalize ak.upd _ i5 _=G6;intro s5;refine ae (Cf.ld (au.own (i:=2) s5 rfl) hc) ?_;refine ae (St.ld (au.own (i:=1) s5 rfl) ho hl) ?_;refine ae (gx (i:=0) s5 rfl hm).2.2.2.2.2.2.2.2 ?_;refine acu.use (hS.mv s5.ch) hc hm fun G11 c11=>?_;have s11:=s5.tmp c11;have s11:Sp [] G [au i5 m.av,au i3 (f.s.av vo vp vh),au i1 c.av] G11:=s11;rw[cD,aa,dC];refine⟨fun h1=>?_,fun h1=>?_⟩
 ·rw[if_pos h1]at hQ;exact hQ _ _ (((s11.erase 0).erase 0 |>.erase 0).nz 70)
 rw[if_neg (fun hh=>hh h1)]at hQ;have s12:=s11.nz 70;intro i13 f13;have s13:=s12.row f13 .nilSlice;revert s13;generalize ak.upd _ i13 _=G14;intro s13;have s13:Sp [] G [au i13 .nilSlice,bm 70 .nilSlice (([]:List cr).map cr.av),au i5 m.av,au i3 (f.s.av vo vp vh),au i1 c.av] G14:=s13;refine acn.use (l:=[]) hS hc hm s13 (by simp) fun w15 G16 s16=>?_;have l16:=acV c f m true;rw[List.nil_append]at s16;obtain⟨L,hL⟩:∃ L,L=ac0 c f m true:=⟨_,rfl⟩;rw[<- hL]at s16 l16 hQ;refine ae (gx (i:=2) s16 rfl hm).2.2.2.1 ?_;refine ae (St.mn (au.own (i:=3) s16 rfl) ho hl) ?_;rw[bB,aa];intro J43;have go:∀ (L2:List cr) (w:ah) (G34:ak),L2.length≤50000000->L2=L++(if m.index=f.s.rem then acL f.o f.s.heldA f.s.sgnA++[B] else []) ->
   Sp [] G [au i13 w,bm 70 w (L2.map cr.av),au i5 m.av,au i3 (f.s.av vo vp vh),au i1 c.av] G34->J43 G34:=by
  intro L2 w G34 h2 he s34;rw[<- he]at hQ;simp -zeta only [J43];refine acn.use hS hc hm s34 (by omega) fun w36 G36 s36=>?_;have l36:=acV c f m false;have hg:=au.own (i:=3) s36 rfl;refine ae (St.KB hg ho hl) ?_;refine ae (St.dM hg ho hl) ?_;refine ae (dh (hS.mv s36.ch).o.gZ) ?_;refine aco.use hS s36 (by rw[List.length_append];omega) ho.sgnA (iu _ (by omega) (by omega)) fun w41 G41 s41=>?_;refine ae (acB (i:=0) s41 rfl (bm.own (i:=1) s41 rfl).leaf) ?_;exact hQ _ _ ((((s41.erase 0).erase 1).erase 1).erase 1)
 by_cases h2:m.index=f.s.rem
 ·rw[dT_ h2,aN];have hg:=au.own (i:=3) s16 rfl;refine ae (St.qc hg ho hl) ?_;refine ae (St.KB hg ho hl) ?_;refine aco.use hS s16 (by omega) ho.heldA ho.sgnA fun w23 G23 s23=>?_;have l23:=ac6 f.o f.s.heldA f.s.sgnA;have lw:=(bm.own (i:=1) s23 rfl).leaf;refine ae (acB (i:=0) s23 rfl lw) ?_;refine ae (Cf.ld (au.own (i:=4) s23 rfl) hc) ?_;refine ae (St.ld (au.own (i:=3) s23 rfl) ho hl) ?_;refine jC.use (hS.mv s23.ch) hc fun G28 c28=>?_;rw[<- hB];have s28:=s23.tmp c28;have s28:Sp [] G [au i13 w23,bm 70 w23 ((L++acL f.o f.s.heldA f.s.sgnA).map cr.av),au i5 m.av,au i3 (f.s.av vo vp vh),au i1 c.av] G28:=s28;refine⟨⟨acB (i:=0) s28 rfl lw,trivial⟩,?_⟩;refine acS s28 hAok (by rw[List.length_append];omega) fun w33 G33 s33=>?_;refine go _ _ _ ?_ ?_ s33
  ·rw[List.length_append,List.length_append,List.length_singleton];omega
  ·rw[if_pos h2,List.append_assoc]
 ·rw[dF_ h2,aK];refine go L _ _ (by omega) ?_ s16;rw[if_neg h2,List.append_nil]
end
end Go.Esc.M
namespace Go.Esc.M
open Go Go.Esc
def acO:cr:={ cr.zero with kind:=6,index:=1 }
def adl:cr:={ cr.zero with kind:=6,index:=2 }
def acD (x:List UInt8):cr:={ cr.zero with kind:=6,index:=1,next:=1,secret:=x }
def u5M:aL:=⟨1,0,5,h0,[]⟩
theorem acQ:u5M.ok:=⟨iu 1 (by decide) (by decide),cL,iu 5 (by decide) (by decide),rfl,by decide⟩
theorem acE:acO.ok:=⟨iu 6 (by decide) (by decide),cL,cL,iu 1 (by decide) (by decide),cL,rfl,rfl,by simp[acO,cr.zero]⟩
theorem adk:adl.ok:=⟨iu 6 (by decide) (by decide),cL,cL,iu 2 (by decide) (by decide),cL,rfl,rfl,by simp[adl,cr.zero]⟩
theorem ac4 {x:List UInt8}(h:x.length=32):(acD x).ok:=⟨iu 6 (by decide) (by decide),cL,cL,iu 1 (by decide) (by decide),iu 1 (by decide) (by decide),rfl,h,by simp[acD,cr.zero]⟩
def g15 (a b:List UInt8):StF:=⟨s15 a b,[u5M],[],[]⟩
theorem adi (a b:List UInt8):acG (f15 a b)=acO:=rfl
theorem adu (a b:List UInt8):acz (c15 a b) (f15 a b) acO=([],0):=rfl
theorem adt (a b:List UInt8):acz (c15 a b) (f15 a b) adl=([],90):=rfl
theorem adq (a b:List UInt8):acz (c15 a b) (g15 a b) acO=([GL u5M],0):=rfl
theorem ado:∃ x:List UInt8,jS h0 0=(x,0)/\x.length=32/\x≠h0:=by
 have hl:=mZ oe 0;have e:jS h0 0=(mj (pl 0) 48 h0,0):=by
  unfold jS;rw[show okN 0=true from by decide,cond_true]
 rw[e]at hl;refine⟨_,e,hl,fun h=>?_⟩;have hp:pl 0=2 ^ 48-1:=by decide
 have hz:h0=mE:=by decide
 have:=adm;rw[<- hp,<- hz,h]at this;exact absurd this (by decide)
theorem adf {a b x y:List UInt8}(h:jS h0 0=(x,0)):acx (c15 a b) (acD y)=decide (x=y):=by
 unfold acx;rw[if_pos (show (0:Int)<(acD y).next from (by decide:(0:Int)<1))];have e:(acD y).next-1=0:=rfl
 rw[e,show (c15 a b).seed=h0 from rfl,h,dT_ (show (acD y).next≤281474976710655 from (by decide:(1:Int)≤281474976710655)),Bool.true_and,dT_ (show (0:Int)=0 from rfl),Bool.true_and];rfl
theorem ads {a b x:List UInt8}(h:jS h0 0=(x,0)) (hx:x≠h0):acz (c15 a b) (f15 a b) (acD h0)=([],100):=by
 have hp:acx (c15 a b) (acD h0)=false:=by rw[adf h,dF_ hx]
 have hj:acy (c15 a b) (f15 a b) (acD h0)=100:=by
  unfold acy;rw[if_neg (show ¬ (acD h0).kind≠6 from fun hh=>hh rfl),if_pos hp]
 unfold acz;rw[hj,if_pos (by decide)]
theorem adr {a b x:List UInt8}(h:jS h0 0=(x,0)):acz (c15 a b) (f15 a b) (acD x)=([],180):=by
 have hp:acx (c15 a b) (acD x)=true:=by rw[adf h,dT_ rfl]
 have hj:acy (c15 a b) (f15 a b) (acD x)=180:=by
  unfold acy;rw[if_neg (show ¬ (acD x).kind≠6 from fun hh=>hh rfl),if_neg (by rw[hp];decide),if_pos (show (f15 a b).s.loc<(acD x).next from (by decide:(0:Int)<1))]
 unfold acz;rw[hj,if_pos (by decide)]
section
variable {F0:List AId}{G0 G:ak}{ps:List LP}{Q:ah->ak->Prop}
theorem ada {x:List UInt8}(h:x.length=32):bj T aW [(0,.int .i64 6),(3,.int .i64 1),(4,.int .i64 1),(6,.agg (x.map u8v))]=some (acD x).av:=
 uo (fun p hp=>by
  simp only[List.mem_cons,List.not_mem_nil,or_false]at hp
  rcases hp with rfl|rfl|rfl|rfl
  ·rfl
  ·rfl
  ·rfl
  ·exact oJ h) rfl
theorem dK.use {c:CfM}(hc:c.ok) (hQ:∀ G',Ch [] G [] G'->Q (.tuple [(mm c).1.av .nilSlice .nilSlice .nilSlice,.int .i64 (mm c).2]) G'):al P dK.n [c.av] G Q:=by
 refine dK.sound ?_;unfold dK.S;rw[EV];have hok:=pN hc;intro i1 f1;have s1:=(Sp.nil G).row f1 c.av;intro i3 f3;have s3:=s1.row f3 (StM.zero.av .nilSlice .nilSlice .nilSlice);revert s3;generalize ak.upd _ i3 _=G4;intro s3;have hg:=au.own (i:=1) s3 rfl;intro J35;have bad:nF c->J35 (.bool true) G4:=by
  intro hb;unfold mm at hQ;rw[if_pos hb]at hQ;simp -zeta only [J35,aN];refine ae (v:=StM.zero.av .nilSlice .nilSlice .nilSlice) rfl ?_;refine St.st (i:=0) s3 rfl StM.bq lv0 StM.bq lv0 fun G23 s23=>?_;refine ae (St.ld (au.own (i:=0) s23 rfl) StM.bq lv0) ?_;exact hQ _ s23.ch
 have lK:¬ nF c->J35 (.bool false) G4:=by
  intro hb;have h2:right c.cap=true:=by
   have h1:¬ right c.cap=false:=fun hh=>hb (.inr (.inr (.inr (.inl hh))));simpa using h1
  have h3:=lZ.1 h2;have h4:¬ c.ours<0:=fun hh=>hb (.inr (.inr (.inr (.inr (.inl hh)))));have h5:¬ c.cap<c.ours:=fun hh=>hb (.inr (.inr (.inr (.inr (.inr hh)))));unfold mm at hQ hok;rw[if_neg hb]at hQ hok;simp -zeta only [J35,aK];refine ae (Cf.lJ hg hc) ?_;refine ae (Cf.mL hg hc) ?_;refine ae (Cf.dM hg hc) ?_;refine ae (Cf.mL hg hc) ?_;refine ae (Cf.dM hg hc) ?_;rw[b7,i64_in (by omega) (by omega),aa];refine ae (Cf.Am hg hc) ?_;refine ae (yB hc.ptsA hc.ptsB) ?_;refine St.st (i:=0) s3 rfl StM.bq lv0 hok lv0 fun G33 s33=>?_;refine ae (St.ld (au.own (i:=0) s33 rfl) hok lv0) ?_;exact hQ _ s33.ch
 refine ae (Cf.lJ hg hc) ?_;rw[aM,aa,aI];refine⟨fun h=>bad (.inl h),fun h1=>?_⟩;refine ae (Cf.lJ hg hc) ?_;rw[da,aa,aI];refine⟨fun h=>bad (.inr (.inl h)),fun h2=>?_⟩;refine ae (Cf.mL hg hc) ?_;rw[aM,aa,aI];refine⟨fun h=>bad (.inr (.inr (.inl h))),fun h3=>?_⟩;refine ae (Cf.mL hg hc) ?_;rw[da,aa,aI];have hr:right c.cap=decide (c.cap≤1152921504606846976):=by
  cases hh:right c.cap with
  | true=>rw[dT_ (lZ.1 hh).2]
  | false=>
   by_cases h:c.cap≤1152921504606846976
   ·rw[lZ.2 ⟨by omega,h⟩]at hh;cases hh
   ·rw[dF_ h]
 refine⟨fun h=>bad (.inr (.inr (.inr (.inl (by rw[hr,dF_ (by omega)]))))),fun h4=>?_⟩;have h4:right c.cap=true:=by rw[hr,dT_ (by omega)]
 refine ae (Cf.dM hg hc) ?_;rw[aM,aa,aI];refine⟨fun h=>bad (.inr (.inr (.inr (.inr (.inl h))))),fun h5=>?_⟩;refine ae (Cf.dM hg hc) ?_;refine ae (Cf.mL hg hc) ?_;rw[da,aa];by_cases h6:c.cap<c.ours
 ·rw[dT_ h6];exact bad (.inr (.inr (.inr (.inr (.inr h6)))))
 ·rw[dF_ h6];exact lK (by rintro (h | h | h | h | h | h);exact h1 h;exact h2 h;exact h3 h;(rw[h4]at h;cases h);exact h5 h;exact h6 h)
theorem adg {v:ah}{l:List cr}{j:Nat}{u:cr}(h:ff 70 G v (l.map cr.av)) (hj:l[j]?=some u):∃ a,aO T bR v (.int .i64 (j:Int))=some a/\ag T G aW a=some u.av:=
 h.at_ (k:=.i64) (i:=iJ) (ie:=il) (T:=T) (t:=bR) (e:=aW) gP rfl eQ (by rw[List.getElem?_map,hj];rfl) rfl
theorem acM {v:ah}{l:List cr}(h:ff 70 G v (l.map cr.av)):fU T G bR v=some (.int .i64 (l.length:Nat)):=by
 rw[h.len (i:=iJ) gP rfl,List.length_map]
theorem acq.use {v w:ah}{a b:List cr}(ha:ff 70 G v (a.map cr.av)) (hb:ff 70 G w (b.map cr.av)) (oa:∀ m∈a,m.ok) (ob:∀ m∈b,m.ok) (la:a.length≤1000000000) (lb:b.length≤1000000000)
  (hQ:Q (.bool (decide (a=b))) G):al P acq.n [v,w] G Q:=by
 refine acq.sound ?_;unfold acq.S;refine ae (acM ha) ?_;refine ae (acM hb) ?_;rw[cD,aa,dC];refine⟨fun h1=>?_,fun h1=>?_⟩
 ·rw[dF_ (fun h=>h1 (by rw[h]))]at hQ;exact hQ
 have hlen:a.length=b.length:=by omega
 intro R hR;have loop:∀ (n j:Nat),a.length-j=n->j≤a.length->a.take j=b.take j->R [v,w,.int .i64 (j:Int)] G:=by
  intro n;induction n with
  | zero=>
   intro j hn hj he;refine hR _ _ _ _ ?_;refine ae (acM ha) ?_;rw[aM,aa,aI];refine⟨fun h=>absurd h (by omega),fun _=>?_⟩;have hjl:j=a.length:=(by omega);rw[hjl,List.take_length,hlen,List.take_length]at he;rw[dT_ he]at hQ;exact hQ
  | succ n ih=>
   intro j hn hj he;obtain⟨x,hx⟩:∃ x,a[j]?=some x:=⟨_,List.getElem?_eq_getElem (by omega)⟩;obtain⟨y,hy⟩:∃ y,b[j]?=some y:=⟨_,List.getElem?_eq_getElem (by omega)⟩;refine hR _ _ _ _ ?_;refine ae (acM ha) ?_;rw[aM,aa,aI];refine⟨fun _=>?_,fun h=>absurd (by omega) h⟩;obtain⟨p,p1,p2⟩:=adg ha hx;obtain⟨q,q1,q2⟩:=adg hb hy;refine ae p1 ?_;refine ae p2 ?_;refine ae q1 ?_;refine ae q2 ?_;rw[ac5 (oa x (List.mem_of_getElem? hx)) (ob y (List.mem_of_getElem? hy)),aa,dC];refine⟨fun h2=>?_,fun h2=>?_⟩
   ·rw[dF_ (fun h=>h2 (by rw[h,hy]at hx;exact (Option.some.inj hx).symm))]at hQ;exact hQ
   ·rw[bg,i64_in (by omega) (by omega),aa];refine ih (j+1) (by omega) (by omega) ?_;rw[List.take_add_one,List.take_add_one,he,hx,hy,h2]
 exact loop a.length 0 rfl (by omega) rfl
theorem bV.use {v w:ah}{a b:List aL}(ha:ff 36 G v (a.map aL.av)) (hb:ff 36 G w (b.map aL.av)) (oa:∀ m∈a,m.ok) (ob:∀ m∈b,m.ok) (la:a.length≤1000000000) (lb:b.length≤1000000000)
  (hQ:Q (.bool (decide (a=b))) G):al P bV.n [v,w] G Q:=by
 refine bV.sound ?_;unfold bV.S;refine ae (dh ha) ?_;refine ae (dh hb) ?_;rw[cD,aa,dC];refine⟨fun h1=>?_,fun h1=>?_⟩
 ·rw[dF_ (fun h=>h1 (by rw[h]))]at hQ;exact hQ
 have hlen:a.length=b.length:=by omega
 intro R hR;have loop:∀ (n j:Nat),a.length-j=n->j≤a.length->a.take j=b.take j->R [v,w,.int .i64 (j:Int)] G:=by
  intro n;induction n with
  | zero=>
   intro j hn hj he;refine hR _ _ _ _ ?_;refine ae (dh ha) ?_;rw[aM,aa,aI];refine⟨fun h=>absurd h (by omega),fun _=>?_⟩;have hjl:j=a.length:=(by omega);rw[hjl,List.take_length,hlen,List.take_length]at he;rw[dT_ he]at hQ;exact hQ
  | succ n ih=>
   intro j hn hj he;obtain⟨x,hx⟩:∃ x,a[j]?=some x:=⟨_,List.getElem?_eq_getElem (by omega)⟩;obtain⟨y,hy⟩:∃ y,b[j]?=some y:=⟨_,List.getElem?_eq_getElem (by omega)⟩;refine hR _ _ _ _ ?_;refine ae (dh ha) ?_;rw[aM,aa,aI];refine⟨fun _=>?_,fun h=>absurd (by omega) h⟩;obtain⟨p,p1,p2⟩:=nD ha hx;obtain⟨q,q1,q2⟩:=nD hb hy;refine ae p1 ?_;refine ae p2 ?_;refine ae q1 ?_;refine ae q2 ?_;rw[Hs (oa x (List.mem_of_getElem? hx)) (ob y (List.mem_of_getElem? hy)),aa,dC];refine⟨fun h2=>?_,fun h2=>?_⟩
   ·rw[dF_ (fun h=>h2 (by rw[h,hy]at hx;exact (Option.some.inj hx).symm))]at hQ;exact hQ
   ·rw[bg,i64_in (by omega) (by omega),aa];refine ih (j+1) (by omega) (by omega) ?_;rw[List.take_add_one,List.take_add_one,he,hx,hy,h2]
 exact loop a.length 0 rfl (by omega) rfl
theorem adn {a b:List UInt8}{v:ah}(ha:a.length=32) (hb:b.length=32) {ps:List LP}{G0 G:ak}{i:Nat}(s:Sp F0 G0 ps G) (hi:ps[i]?=some (bm 36 v ([u5M].map aL.av))):ka G (g15 a b) v .nilSlice .nilSlice:=
 ⟨(f15_in ha hb G).ok,Own.nj (bm.own s hi),hJ.nil,hJ.nil,by intro u hu;rw[List.mem_singleton.1 hu];exact acQ,by simp[g15],by simp[g15],by simp[g15],by simp[g15],by simp[g15]⟩
theorem acj.use (hT:Tab G) (hQ:∀ G',Ch [] G [] G'->Q (.bool true) G'):al P acj.n [] G Q:=by
 refine acj.sound ?_;unfold acj.S;refine ae (v:=d15.av) rfl ?_;refine cQ.use FO fun G3 c3=>?_;have s3:=(Sp.nil G).tmp c3;obtain⟨x,hx⟩:∃ z,z=pB h0 0:=⟨_,rfl⟩;obtain⟨y,hy⟩:∃ z,z=pB h0 1:=⟨_,rfl⟩;have lx:x.length=32:=by rw[hx];exact mK _ _
 have ly:y.length=32:=by rw[hy];exact mK _ _
 have e0:FW d15=c15 x y:=by rw[hx,hy];rfl
 obtain⟨C1,hC1⟩:∃ C,C=FV d15:=⟨_,rfl⟩;rw[e0,<- hC1];have hc:(c15 x y).ok:=by rw[<- e0];exact Dd FO
 have hS:=f15_in lx ly;have hso:=(hS G).ok;refine ae (JL hc (by rw[hC1];exact Dc FO)) ?_;refine Cf.nw s3 hc fun i5 G7 s7=>?_;refine ae (Cf.ld (au.own (i:=0) s7 rfl) hc) ?_;refine dK.use hc fun G10 c10=>?_;have s10:=s7.tmp c10;rw[IP];refine ae (tv0 _ _) ?_;refine ae (tv1 _ _) ?_;refine St.nw s10 hso lv0 fun i13 G15 s15=>?_;refine ae (Cf.ue (au.own (i:=1) s15 rfl) hc) ?_;obtain⟨X,hX,ad3,aik⟩:=ado;refine cI.use oe fun G18 c18=>?_;have s18:=s15.tmp c18;rw[show (c15 x y).seed=h0 from rfl];rw[hX];refine ae (hi0 _) ?_;refine ae (hi1 _) ?_;refine pg s18 ad3 fun i21 G23 s23=>?_;refine ae (Cf.ld (au.own (i:=2) s23 rfl) hc) ?_;refine ae (St.ld (au.own (i:=1) s23 rfl) hso lv0) ?_;refine acv.use (hT.mono s23.ro) (hS _) hc fun G27 c27=>?_;have s27:=s23.tmp c27;rw[adi];refine Kz s27 acE fun i28 G30 s30=>?_;have s30:Sp [] G [au i28 acO.av,au i21 (.agg (X.map u8v)),au i13 ((f15 x y).s.av .nilSlice .nilSlice .nilSlice),au i5 (c15 x y).av] G30:=s30;have ans:∀ {ps:List LP}{G1:ak}{m:cr}{e:Int}{K:ah->ak->Prop},Sp [] G ps G1->m.ok->acz (c15 x y) (f15 x y) m=([],e)->(∀ v G2,Sp [] G ps G2->K (.tuple [v,.int .i64 e]) G2) ->
   al P ach.n [(c15 x y).av,(f15 x y).s.av .nilSlice .nilSlice .nilSlice,m.av] G1 K:=by
  intro ps G1 m e K s hm he hK;refine ach.use (hS _) hc hm fun w G2 t=>?_;rw[he];exact hK w G2 (s.tmp t.ch)
 refine ae (Cf.ld (au.own (i:=3) s30 rfl) hc) ?_;refine ae (St.ld (au.own (i:=2) s30 rfl) hso lv0) ?_;refine ae (v:=acO.av) rfl ?_;refine ans s30 acE (adu x y) fun v34 G35 s35=>?_;refine ae (tv0 _ _) ?_;refine ae (tv1 _ _) ?_;refine ae (Cf.ld (au.own (i:=3) s35 rfl) hc) ?_;refine ae (St.ld (au.own (i:=2) s35 rfl) hso lv0) ?_;refine ae (v:=adl.av) rfl ?_;refine ans s35 adk (adt x y) fun v41 G42 s42=>?_;refine ae (tv0 _ _) ?_;refine ae (tv1 _ _) ?_;refine ae (Cf.ld (au.own (i:=3) s42 rfl) hc) ?_;refine ae (St.ld (au.own (i:=2) s42 rfl) hso lv0) ?_;refine ae (v:=(acD h0).av) rfl ?_;refine ans s42 (ac4 oe) (ads hX aik) fun v48 G49 s49=>?_;refine ae (tv0 _ _) ?_;refine ae (tv1 _ _) ?_;refine ae (Cf.ld (au.own (i:=3) s49 rfl) hc) ?_;refine ae (St.ld (au.own (i:=2) s49 rfl) hso lv0) ?_;refine ae (bM ad3 (au.own (i:=1) s49 rfl)) ?_;refine ae (ada ad3) ?_;refine ans s49 (ac4 ad3) (adr hX) fun v56 G57 s57=>?_;refine ae (tv0 _ _) ?_;refine ae (tv1 _ _) ?_;refine ae (v:=u5M.av) rfl ?_;refine Dg (T:=T) (ts:=aj) (e:=aG) (si:=dL) (ie:=cG) (n:=1) (l:=[u5M].map aL.av) bT rfl dE rfl rfl rfl rfl (by simp[aL.sz acQ,cG]) (by decide) s57 fun v61 G62 s62=>?_;have l61:bw v61:=(bm.own (i:=0) s62 rfl).leaf;refine St.tT (i:=3) s62 rfl hso lv0 l61 fun G63 s63=>?_;have s63:Sp [] G [bm 36 v61 ([u5M].map aL.av),au i28 acO.av,au i21 (.agg (X.map u8v)),au i13 ((f15 x y).s.av v61 .nilSlice .nilSlice),au i5 (c15 x y).av] G63:=s63;refine ae (Cf.ld (au.own (i:=4) s63 rfl) hc) ?_;refine ae (St.ld (au.own (i:=3) s63 rfl) hso ⟨l61,bw.nil,bw.nil⟩) ?_;refine ae (v:=acO.av) rfl ?_;refine ach.use (f:=g15 x y) (adn lx ly s63 (i:=0) rfl) hc acE fun w G68 t68=>?_;rw[adq]at t68 ⊢;obtain⟨F68,o68,c68⟩:=t68.out;have s68:=s63.new o68 c68;refine ae (tv0 _ _) ?_;refine ae (tv1 _ _) ?_;refine ae (gx (i:=2) s68 rfl acE).2.2.2.2.2.2.2.2 ?_;refine ae (v:=acO.av) rfl ?_;refine ae (Bt acE acE) ?_;rw[dT_ rfl,aN];have e3:∀ n:Int,az T .eql bD (.int .i64 n) (.int .i64 n)=some (.bool true):=fun n=>ez0;refine ae (e3 0) ?_;rw[aN];refine ae (e3 90) ?_;rw[aN];refine ae (e3 100) ?_;rw[aN];refine ae (e3 180) ?_;rw[aN];refine ae (e3 0) ?_;rw[aN];refine ae (v:=(GL u5M).av) rfl ?_;refine Dg (T:=T) (ts:=bR) (e:=aW) (si:=iJ) (ie:=il) (n:=1) (l:=[GL u5M].map cr.av) gP rfl eQ rfl rfl rfl rfl (by simp[cr.sz (vY acQ),il]) (by decide) s68 fun v80 G81 s81=>?_;have ok1:∀ m∈[GL u5M],m.ok:=by intro m hm;rw[List.mem_singleton.1 hm];exact vY acQ
 refine acq.use (bm.own (i:=1) s81 rfl).is (bm.own (i:=0) s81 rfl).is ok1 ok1 (by simp) (by simp) ?_;rw[dT_ rfl];exact hQ _ s81.ch
end
end Go.Esc.M
namespace Go.Esc.M
open Go Go.Esc
def oL (l:List aL) (id k:Int):Bool:=l.any fun u=>decide (u.id=id) && (!decide (u.kind=1) && (decide (k=0) || decide (u.kind=k)))
def o7 (l others:List aL):Prop:=∀ (j:Nat) (u:aL),l[j]?=some u->kJ (l.take j) others u=0
def Bx (l:List aL):Prop:=∀ (i j:Nat) (u w:aL),l[i]?=some u->l[j]?=some w->u.kind≠1->w.kind≠1->u.id=w.id->i=j
theorem yu {rm:Bool}{id:Int}{X Y:List aL}(h:(ey rm id X).isSome=true):ey rm id (X++Y)=ey rm id X:=by
 unfold ey at h ⊢;rw[List.find?_append];cases hx:List.find? (uE rm id) X with
 | none=>rw[hx]at h;cases h
 | some a=>rfl
theorem vn {A X Y:List aL}{u:aL}(h:kJ A X u=0):kJ A (X++Y) u=0:=by
 unfold kJ at h ⊢;split at h
 ·cases h
 rename_i h1;rw[if_neg h1];split at h
 ·cases h
 rename_i h2;rw[if_neg h2];split at h
 ·rename_i h3;rw[if_pos h3];exact h
 rename_i h3;rw[if_neg h3];split at h
 ·cases h
 rename_i h4;have h4':(ey false u.id X).isSome=true:=(Bool.not_eq_false _).mp h4;rw[yu h4',if_neg h4];exact h
theorem FH {l X Y:List aL}(h:o7 l X):o7 l (X++Y):=fun j u hj=>vn (h j u hj)
theorem aaX {l X:List aL}(h:o7 l X) (n:Nat):o7 (l.take n) X:=by
 intro j u hj;have hl:j<n:=by
  have:=(List.getElem?_eq_some_iff.1 hj).1;rw[List.length_take]at this;omega
 rw[List.getElem?_take_of_lt hl]at hj;rw[List.take_take,Nat.min_eq_left (by omega)];exact h j u hj
theorem B8 {l m:List aL}{a b:Nat}(h:o7 l (m.take a)) (hab:a≤b):o7 l (m.take b):=by
 rw[<- rV hab];exact FH h
theorem At {l X:List aL}{u:aL}(h:o7 l X) (hu:kJ l X u=0):o7 (l++[u]) X:=by
 intro j w hj;by_cases hl:j<l.length
 ·rw[List.getElem?_append_left hl]at hj;rw[List.take_append_of_le_length (by omega)];exact h j w hj
 ·have hb:=(List.getElem?_eq_some_iff.1 hj).1;rw[List.length_append,List.length_singleton]at hb;have e:j=l.length:=by omega
  subst e;rw[List.getElem?_append_right (by omega)]at hj;simp at hj;subst hj;rw[List.take_append_of_le_length (Nat.le_refl _),List.take_length];exact hu
section
variable {l X:List aL} (h:o7 l X)
include h
theorem tD:∀ u∈l,dp u=true:=by
 intro u hu;obtain⟨j,hj⟩:=List.getElem?_of_mem hu;exact (nG (h j u hj)).1
theorem B7:l.length≤2048:=by
 refine Classical.byContradiction fun hn=>?_;obtain⟨u,hu⟩:∃ u,l[2048]?=some u:=⟨_,List.getElem?_eq_getElem (by omega)⟩;have:=h 2048 u hu;unfold kJ at this;rw[if_pos (by rw[List.length_take];omega)]at this;cases this
theorem ui:rA l:=by
 intro j u hj hk;exact (nG (h j u hj)).2.1 hk
theorem Au:∀ u∈l,u.kind≠1->∃ w∈X,w.kind=1/\w.id=u.id:=by
 intro u hu hk;obtain⟨j,hj⟩:=List.getElem?_of_mem hu;obtain⟨b,_,h2,h3,h4⟩:=sv ((nG (h j u hj)).2.2 hk).1;exact⟨b,h2,h3,h4⟩
theorem sr:Bx l:=by
 have key:∀ {i j:Nat}{u w:aL},l[i]?=some u->l[j]?=some w->u.kind≠1->w.kind≠1->u.id=w.id->i<j->False:=by
  intro i j u w hi hj hu hw he hlt;have h1:=((nG (h j w hj)).2.2 hw).2.1;have hv:∀ a∈l.take j,dp a=true:=fun a ha=>tD h a (List.mem_of_mem_take ha);refine AB hv h1 u ?_ hu he;refine List.mem_of_getElem? (i:=i) ?_;rw[List.getElem?_take_of_lt hlt];exact hi
 intro i j u w hi hj hu hw he;rcases Nat.lt_trichotomy i j with h1|h1|h1
 ·exact (key hi hj hu hw he h1).elim
 ·exact h1
 ·exact (key hj hi hw hu he.symm h1).elim
end
theorem tO {l:List aL}(h:Bx l) (n:Nat):Bx (l.take n):=by
 intro i j u w hi hj;have li:=(List.getElem?_eq_some_iff.1 hi).1;have lj:=(List.getElem?_eq_some_iff.1 hj).1;rw[List.length_take]at li lj;rw[List.getElem?_take_of_lt (by omega)]at hi hj;exact h i j u w hi hj
theorem tX {id:Int}:∀ {l:List aL},jH id l≠0->∃ u∈l,u.kind≠1/\u.id=id/\u.kind=jH id l
 | [],h=>absurd rfl h
 | u::l,h=>by
  by_cases hr:m8 id u=true
  ·have e:jH id (u::l)=u.kind:=if_pos hr;simp only[m8,Bool.and_eq_true,decide_eq_true_eq]at hr;exact⟨u,by simp,hr.1,hr.2.1,e.symm⟩
  ·have e:jH id (u::l)=jH id l:=if_neg hr;rw[e]at h ⊢;obtain⟨w,h1,h2⟩:=tX h;exact⟨w,by simp[h1],h2⟩
theorem GF {id:Int}{l:List aL}(hv:∀ u∈l,dp u=true) {u:aL}(hu:u∈l) (hk:u.kind≠1) (hi:u.id=id):jH id l≠0:=by
 induction l with
 | nil=>cases hu
 | cons w l ih=>
  by_cases hr:m8 id w=true
  ·have e:jH id (w::l)=w.kind:=if_pos hr;rw[e];exact sn hr
  ·have e:jH id (w::l)=jH id l:=if_neg hr;rw[e];rcases List.mem_cons.1 hu with rfl|hu
   ·exact absurd (by simp[m8,hk,hi,hv u (by simp)]) hr
   ·exact ih (fun x hx=>hv x (by simp[hx])) hu
theorem tW {l:List aL}{id k:Int}:oL l id k=true ↔ ∃ u∈l,u.id=id/\u.kind≠1/\(k=0\/u.kind=k):=by
 unfold oL;rw[List.any_eq_true];simp only[Bool.and_eq_true,Bool.or_eq_true,decide_eq_true_eq,Bool.not_eq_true',decide_eq_false_iff_not]
theorem Mj {l:List aL}(hv:∀ u∈l,dp u=true) (id:Int):oL l id 0=!decide (jH id l=0):=by
 by_cases h:jH id l=0
 ·rw[dT_ h,Bool.not_true,Bool.eq_false_iff];intro hr;obtain⟨u,h1,h2,h3,_⟩:=tW.1 hr;exact GF hv h1 h3 h2 h
 ·rw[dF_ h,Bool.not_false];obtain⟨u,h1,h2,h3,_⟩:=tX h;exact tW.2 ⟨u,h1,h3,h2,.inl rfl⟩
theorem K5 {l:List aL}(hv:∀ u∈l,dp u=true) (hu:Bx l) (id:Int) {k:Int}(hk:k≠0):oL l id k=decide (jH id l=k):=by
 by_cases h:jH id l=k
 ·rw[dT_ h];obtain⟨u,h1,h2,h3,h4⟩:=tX (id:=id) (l:=l) (by rw[h];exact hk);exact tW.2 ⟨u,h1,h3,h2,.inr (h4.trans h)⟩
 ·rw[dF_ h,Bool.eq_false_iff];intro hr;obtain⟨u,h1,h2,h3,h4⟩:=tW.1 hr;have h5:u.kind=k:=h4.resolve_left hk;obtain⟨w,k1,k2,k3,k4⟩:=tX (GF hv h1 h3 h2);obtain⟨i,hi⟩:=List.getElem?_of_mem h1;obtain⟨j,hj⟩:=List.getElem?_of_mem k1;have:=hu i j u w hi hj h3 k2 (h2.trans k3.symm);subst this;rw[hi]at hj;injection hj with hj;subst hj;exact h (k4.symm.trans h5)
theorem zR {l:List aL}(hv:∀ u∈l,dp u=true) (id:Int):(ey true id l).isSome=oL l id 0:=by
 rw[<- FI hv];unfold Lb oL;congr 1;funext u;cases decide (u.id=id)<;>cases decide (u.kind=1)<;>rfl
def CN (r:List aL) (u:aL):Bool:=decide (u.kind=1) && !oL r u.id 3
def GH (r:List aL) (u:aL):Bool:=decide (u.kind=1) && oL r u.id 2
def CV (r:List aL) (u:aL):Bool:=decide (u.kind=1) && !oL r u.id 0
theorem GC {r:List aL}(hv:∀ u∈r,dp u=true) (hu:Bx r):CN r=stays r:=by
 funext u;unfold CN stays;rw[K5 hv hu _ (by decide)]
theorem Ja {r:List aL}(hv:∀ u∈r,dp u=true) (hu:Bx r):GH r=kD r:=by
 funext u;unfold GH kD;rw[K5 hv hu _ (by decide)]
def tl (base:Int) (own other:List aL) (fo fp:Int):Int:=base-gG (CN (cw other fp)) own+gG (GH (cw own fo)) other
def uL (own other:List aL):Nat:=(own.filter (CV other)).length
theorem Ac {own other:List aL}(hv:∀ u∈own,dp u=true) (hv2:∀ u∈other,dp u=true) (fp:Int):uL own (cw other fp)=kX own other fp:=by
 unfold uL kX ml;rw[List.length_map];congr 1;refine List.filter_congr fun u hu=>?_;rw[hv u hu,Bool.true_and];unfold CV;rw[Mj (l:=cw other fp) (fun x hx=>hv2 x (List.mem_of_mem_take hx)),Bool.not_not]
structure iY (f:StF):Prop where
 ok:f.s.ok
 oko:∀ u∈f.o,u.ok
 okp:∀ u∈f.p,u.ok
 okh:∀ x∈f.h,x.ok
 lh:f.h.length≤49
 a0:0≤f.s.atA
 a1:f.s.atA≤f.s.heldA
 a2:f.s.heldA≤f.s.sgnA
 a3:f.s.sgnA≤f.o.length
 b0:0≤f.s.heldB
 b1:f.s.heldB≤f.s.sgnB
 b2:f.s.sgnB≤f.s.atB
 b3:f.s.atB≤f.p.length
 go:o7 f.o (f.p.take f.s.heldB.toNat)
 gp:o7 f.p (f.o.take f.s.atA.toNat)
 so:0≤SB f.s.bo f.o f.p f.s.atA.toNat f.s.heldB.toNat
 sp:0≤SB f.s.bp f.p f.o f.s.heldB.toNat f.s.atA.toNat
 no:kX f.o f.p f.s.heldB≤483
 np:kX f.p f.o f.s.atA≤483
 bo:0≤f.s.bo
 bp:0≤f.s.bp
 cap:f.s.bo+f.s.bp=f.s.cap
 capm:f.s.cap≤1152921504606846976
 side:f.s.side=0\/f.s.side=1
 loc0:0≤f.s.loc
 loc1:f.s.loc≤281474976710654
 ack0:0≤f.s.ack
 rem:f.s.rem=f.s.ack\/f.s.rem=f.s.ack+1
 rem1:f.s.rem≤281474976710654
section
variable {f:StF} (I:iY f)
include I
theorem iY.fA:mM f.s=f.s.atA:=by unfold mM;have:=I.a1;split<;>omega
theorem iY.fB:mD f.s=f.s.heldB:=by unfold mD;have:=I.b1;have:=I.b2;split<;>omega
theorem iY.vo:∀ u∈f.o,dp u=true:=tD I.go
theorem iY.vp:∀ u∈f.p,dp u=true:=tD I.gp
theorem iY.lo:f.o.length≤2048:=B7 I.go
theorem iY.lp:f.p.length≤2048:=B7 I.gp
theorem iY.book:oX f.s.bo f.s.bp f.o f.p f.s.atA.toNat f.s.heldB.toNat:=
 ⟨I.oko,I.okp,I.vo,I.vp,by have:=I.a1;have:=I.a2;have:=I.a3;have:=I.a0;omega,by have:=I.b0;have:=I.b1;have:=I.b2;have:=I.b3;omega,I.lo,I.lp,ui I.go,ui I.gp,Au I.go,Au I.gp,I.so,I.sp,I.bo,I.bp,by have:=I.cap;have:=I.capm;omega⟩
theorem iY.xl:tj f=SB f.s.bo f.o f.p f.s.atA.toNat f.s.heldB.toNat/\tl f.s.bo f.o f.p (mM f.s) (mD f.s)=SB f.s.bo f.o f.p f.s.atA.toNat f.s.heldB.toNat:=by
 have hb:=I.book;have h1:=Hm hb;have hA:((f.s.atA.toNat:Nat):Int)=f.s.atA:=Int.toNat_of_nonneg I.a0;have hB:((f.s.heldB.toNat:Nat):Int)=f.s.heldB:=Int.toNat_of_nonneg I.b0;refine⟨?_,?_⟩
 ·unfold tj;rw[I.fA,I.fB];have:=DW (base:=f.s.bo) (mine:=f.o) (others:=f.p) (fm:=f.s.atA.toNat) (fo:=f.s.heldB.toNat) I.vo I.vp I.bo (by have:=I.cap;have:=I.capm;have:=I.bp;omega);rw[hA,hB]at this;rw[this];have h0:=I.so;have:=I.cap;have:=I.capm;unfold AJ;split
  ·omega
  ·split<;>omega
 ·unfold tl SB cw;rw[I.fA,I.fB,GC (fun u hu=>I.vp u (List.mem_of_mem_take hu)) (tO (sr I.gp) _),Ja (fun u hu=>I.vo u (List.mem_of_mem_take hu)) (tO (sr I.go) _)]
theorem iY.xk:th f=SB f.s.bp f.p f.o f.s.heldB.toNat f.s.atA.toNat/\tl f.s.bp f.p f.o (mD f.s) (mM f.s)=SB f.s.bp f.p f.o f.s.heldB.toNat f.s.atA.toNat:=by
 have hb:=I.book.swap;have h1:=Hm hb;have hA:((f.s.atA.toNat:Nat):Int)=f.s.atA:=Int.toNat_of_nonneg I.a0;have hB:((f.s.heldB.toNat:Nat):Int)=f.s.heldB:=Int.toNat_of_nonneg I.b0;refine⟨?_,?_⟩
 ·unfold th;rw[I.fA,I.fB];have:=DW (base:=f.s.bp) (mine:=f.p) (others:=f.o) (fm:=f.s.heldB.toNat) (fo:=f.s.atA.toNat) I.vp I.vo I.bp (by have:=I.cap;have:=I.capm;have:=I.bo;omega);rw[hA,hB]at this;rw[this];have h0:=I.sp;have:=I.cap;have:=I.capm;unfold AJ;split
  ·omega
  ·split<;>omega
 ·unfold tl SB cw;rw[I.fA,I.fB,GC (fun u hu=>I.vo u (List.mem_of_mem_take hu)) (tO (sr I.go) _),Ja (fun u hu=>I.vp u (List.mem_of_mem_take hu)) (tO (sr I.gp) _)]
theorem iY.Fh:0≤tj f/\tj f≤1152921504606846976:=by
 have h1:=Hm I.book;have h2:=I.so;have:=I.cap;have:=I.capm;rw[I.xl.1];omega
theorem iY.Fg:0≤th f/\th f≤1152921504606846976:=by
 have h1:=Hm I.book.swap;have h2:=I.sp;have:=I.cap;have:=I.capm;rw[I.xk.1];omega
end
end Go.Esc.M
namespace Go.Esc.M
open Go Go.Esc
theorem zm (a b:Int):IntKind.i64.wrap (IntKind.i64.wrap a-b)=IntKind.i64.wrap (a-b):=by
 simp only[IntKind.wrap,IntKind.bits,IntKind.signed];simp;split<;>split<;>split<;>omega
theorem EY (a b:Int):IntKind.i64.wrap (IntKind.i64.wrap a+b)=IntKind.i64.wrap (a+b):=by
 have:=zm a (-b)
 rwa [Int.sub_neg,Int.sub_neg]at this
section
variable {F0:List AId}{G0 G:ak}{ps:List LP}{Q:ah->ak->Prop}
theorem cd.use {f:StF}{vo vp vh:ah}(h:ka G f vo vp vh) (hQ:∀ G',Ch [] G [] G'->Q (.bool (uO f.s)) G'):al P cd.n [f.s.av vo vp vh] G Q:=by
 have ho:=h.ok;have hl:=h.lv;refine cd.sound ?_;unfold cd.S;intro i1 f1;have s1:=(Sp.nil G).row f1 (f.s.av vo vp vh);have hg:=au.own (i:=0) s1 rfl;have hQ:=hQ _ s1.ch;unfold uO at hQ;refine ae (St.uf hg ho hl) ?_;rw[cD,aa];by_cases h1:f.s.failed=0
 ·rw[dT_ h1,Bool.not_true,Bool.false_or]at hQ;rw[dT_ h1,Bool.not_true,aK];refine ae (St.rz hg ho hl) ?_;rw[cD,aa];exact hQ
 ·rw[dF_ h1,Bool.not_false,Bool.true_or]at hQ;rw[dF_ h1,Bool.not_false,aN];exact hQ
theorem dN.use {f:StF}{vo vp vh:ah}(h:ka G f vo vp vh) (hQ:∀ G',Ch [] G [] G'->Q (.bool (yr f)) G'):al P dN.n [f.s.av vo vp vh] G Q:=by
 have ho:=h.ok;have hl:=h.lv;refine dN.sound ?_;unfold dN.S;intro i1 f1;have s1:=(Sp.nil G).row f1 (f.s.av vo vp vh);have hg:=au.own (i:=0) s1 rfl;have hQ:=hQ _ s1.ch;unfold yr at hQ;refine ae (St.dM hg ho hl) ?_;refine ae (dh (h.o.gZ.ch' s1.ch)) ?_;rw[fI,aa];by_cases h1:2048≤f.o.length
 ·rw[dT_ h1,Bool.true_or]at hQ;rw[dT_ (by omega),aN];exact hQ
 ·rw[dF_ h1,Bool.false_or]at hQ;rw[dF_ (by omega),aK];refine ae (St.dM hg ho hl) ?_;refine ae (dh (h.o.gZ.ch' s1.ch)) ?_;refine ae (St.qc hg ho hl) ?_;rw[b7,aa,fI,aa];exact hQ
theorem cg.use {f:StF}{vo vp vh:ah}(h:ka G f vo vp vh) (hQ:∀ G',Ch [] G [] G'->Q (bE (mM f.s) (mD f.s)) G'):al P cg.n [f.s.av vo vp vh] G Q:=by
 have ho:=h.ok;have hl:=h.lv;refine cg.sound ?_;unfold cg.S;intro i1 f1;have s1:=(Sp.nil G).row f1 (f.s.av vo vp vh);intro i3 f3;have zC:iP=bE 0 0:=rfl;rw[zC];have s3:=s1.row f3 (bE 0 0);revert s3;generalize ak.upd _ i3 _=G4;intro s3;have hg:=au.own (i:=1) s3 rfl;refine ae (St.Jr hg ho hl) ?_;refine ae (St.qc hg ho hl) ?_;refine ae (v:=.int .i64 (mM f.s)) rfl ?_;refine ae (St.od hg ho hl) ?_;refine ae (St.En hg ho hl) ?_;refine ae (v:=.int .i64 (mD f.s)) rfl ?_;refine ae (v:=bE (mM f.s) (mD f.s)) rfl ?_;refine fg (ig (c:=bE (mM f.s) (mD f.s)) cK (au.own (i:=0) s3 rfl) rfl rfl rfl) ?_;have s4:=Sp.setRow (j:=0) s3 rfl (bE (mM f.s) (mD f.s));refine ae (cj cK (au.own (i:=0) s4 rfl) rfl) ?_;exact hQ _ s4.ch
theorem bQ.use {v:ah}{l:List aL}{n:Int}(hl:hJ 36 G v (l.map aL.av)) (hlen:l.length≤1048576) (hQ:∀ w,hJ 36 G w ((cw l n).map aL.av)->Q w G):al P bQ.n [v,.int .i64 n] G Q:=by
 refine bQ.sound ?_;unfold bQ.S;have tk:∀ m:Nat,m≤l.length->l.take m=cw l n->∃ w,dV T aj v none (some (.int .i64 (m:Int))) none=some w/\hJ 36 G w ((cw l n).map aL.av):=by
  intro m hm he;obtain⟨w,e1,e2⟩:=hJ.take (ie:=cG) (k:=.i64) (m:=m) bT rfl dE hl rfl (by rw[List.length_map];exact hm);refine⟨w,e1,?_⟩;rw[<- he,List.map_take];exact e2
 unfold cw at tk hQ;rw[aM,aa,aI];refine⟨fun h0=>?_,fun h0=>?_⟩
 ·refine ae (dh hl.gZ) ?_;rw[da,aa,dF_ (by omega),aK];obtain⟨w,e1,e2⟩:=tk 0 (by omega) (by rw[show n.toNat=0 by omega]);refine ae e1 ?_;exact hQ w e2
 ·refine ae (dh hl.gZ) ?_;rw[da,aa,aI];refine⟨fun h1=>?_,fun h1=>?_⟩
  ·refine ae (dh hl.gZ) ?_;obtain⟨w,e1,e2⟩:=tk l.length (Nat.le_refl _) (by rw[List.take_length,List.take_of_length_le (by omega)]);refine ae e1 ?_;exact hQ w e2
  ·obtain⟨w,e1,e2⟩:=tk n.toNat (by omega) rfl;rw[Int.toNat_of_nonneg (by omega)]at e1;refine ae e1 ?_;exact hQ w e2
theorem cq.use {v:ah}{l:List aL}{id k:Int}(hl:ff 36 G v (l.map aL.av)) (hlen:l.length≤1048576) (hQ:Q (.bool (oL l id k)) G):al P cq.n [v,.int .i64 id,.int .i64 k] G Q:=by
 refine cq.sound ?_;unfold cq.S;intro R hR;have loop:∀ (n j:Nat),l.length-j=n->j≤l.length->oL (l.drop j) id k=oL l id k->R [v,.int .i64 id,.int .i64 k,.int .i64 (j:Int)] G:=by
  intro n;induction n with
  | zero=>
   intro j hn hj he;have:j=l.length:=(by omega);subst this;rw[List.drop_length]at he;refine hR _ _ _ _ _ ?_;refine ae (dh hl) ?_;rw[aM,aa,aI];refine⟨fun h=>absurd h (by omega),fun _=>?_⟩;rw[<- he]at hQ;exact hQ
  | succ n ih=>
   intro j hn hj he;obtain⟨u,hu⟩:∃ u,l[j]?=some u:=⟨_,List.getElem?_eq_getElem (by omega)⟩;obtain⟨a0,b0,ha0,hb0,hl0⟩:=jZ (f:=0) (o:=0) (tf:=ay) (fi:=nc) hl hu rfl iD (by decide) rfl rfl rfl;obtain⟨a1,b1,ha1,hb1,hl1⟩:=jZ (f:=1) (o:=1) (tf:=aq) (fi:=iZ) hl hu rfl cu (by decide) rfl rfl rfl;have hdr:l.drop j=u::l.drop (j+1):=by
    obtain⟨hx,rfl⟩:=List.getElem?_eq_some_iff.1 hu;exact List.drop_eq_getElem_cons hx
   have hrem:oL (l.drop j) id k=((decide (u.id=id) && (!decide (u.kind=1) && (decide (k=0) || decide (u.kind=k)))) || oL (l.drop (j+1)) id k):=(by rw[hdr];rfl);have next:(decide (u.id=id) && (!decide (u.kind=1) && (decide (k=0) || decide (u.kind=k))))=false->wv (az T .add ay (.int .i64 (j:Int)) (.int .i64 1)) fun v31=>R [v,.int .i64 id,.int .i64 k,v31] G:=by
    intro h;rw[h,Bool.false_or]at hrem;rw[bg,aa,i64_in (by omega) (by omega)];exact ih (j+1) (by omega) (by omega) (hrem▸he)
   have hit:(decide (u.id=id) && (!decide (u.kind=1) && (decide (k=0) || decide (u.kind=k))))=true->Q (.bool true) G:=by
    intro h;rw[h,Bool.true_or]at hrem;rw[<- he,hrem]at hQ;exact hQ
   refine hR _ _ _ _ _ ?_;refine ae (dh hl) ?_;rw[aM,aa,aI];refine⟨fun _=>?_,fun h=>absurd (by omega) h⟩;refine ae ha1 ?_;refine ae hb1 ?_;refine ae hl1 ?_;rw[bB,aa,aI];refine⟨fun hid=>?_,fun hid=>next (by rw[dF_ hid,Bool.false_and])⟩;refine ae ha0 ?_;refine ae hb0 ?_;refine ae hl0 ?_;rw[cD,aa,dC];refine⟨fun hk=>?_,fun hk=>next (by rw[dT_ hk];simp)⟩;rw[bB,aa,aI];refine⟨fun h0=>hit (by rw[dT_ hid,dF_ hk,dT_ h0];rfl),fun h0=>?_⟩;refine ae ha0 ?_;refine ae hb0 ?_;refine ae hl0 ?_;rw[bB,aa,aI];refine⟨fun h1=>hit (by rw[dT_ hid,dF_ hk,dT_ h1,Bool.or_true];rfl),fun h1=>next (by rw[dF_ h1,dF_ h0];simp)⟩
 exact loop _ 0 rfl (by omega) (by simp)
theorem eU.use {v:ah}{l:List aL}{id:Int}(hl:ff 36 G v (l.map aL.av)) (hok:∀ u∈l,u.ok) (hlen:l.length≤9223372036854775807) (hQ:∀ G',Ch [] G [] G'->Q (Ec (ey false id l)) G') :
  al P eU.n [v,.int .i64 id] G Q:=by
 refine eU.sound ?_;unfold eU.S;rw[Dq];intro i1 f1;have s1:=(Sp.nil G).row f1 aL.zero.av;revert s1;generalize ak.upd _ i1 (.own aL.zero.av)=G2;intro s1 R hR;have loop:∀ (n j:Nat),l.length-j=n->j≤l.length->ey false id (l.drop j)=ey false id l->R [v,.int .i64 id,.ptr i1 [] 0,.int .i64 (j:Int)] G2:=by
  intro n;induction n with
  | zero=>
   intro j hn hj he;have:j=l.length:=(by omega);subst this;rw[List.drop_length]at he;refine hR _ _ _ _ _ ?_;refine ae (dh (hl.ch' s1.ch)) ?_;rw[aM,aa,aI];refine⟨fun h=>absurd h (by omega),fun _=>?_⟩;rw[sF,aa];refine jY (i:=0) s1 rfl aL.bq aL.bq fun G2 s2=>?_;refine ae (bF (i:=0) s2 rfl aL.bq).2.2.2.2.2 ?_;have:=hQ _ s2.ch;rw[<- he]at this;exact this
  | succ n ih=>
   intro j hn hj he;obtain⟨u,hu⟩:∃ u,l[j]?=some u:=⟨_,List.getElem?_eq_getElem (by omega)⟩;have huo:=hok u (List.mem_of_getElem? hu);obtain⟨a,ha,hla⟩:=nD (hl.ch' s1.ch) hu;obtain⟨a0,b0,ha0,hb0,hl0⟩:=jZ (f:=0) (o:=0) (tf:=ay) (fi:=nc) (hl.ch' s1.ch) hu rfl iD (by decide) rfl rfl rfl;obtain⟨a1,b1,ha1,hb1,hl1⟩:=jZ (f:=1) (o:=1) (tf:=aq) (fi:=iZ) (hl.ch' s1.ch) hu rfl cu (by decide) rfl rfl rfl;have hdr:l.drop j=u::l.drop (j+1):=by
    obtain⟨hx,rfl⟩:=List.getElem?_eq_some_iff.1 hu;exact List.drop_eq_getElem_cons hx
   rw[hdr,ey,List.find?_cons]at he;have next:uE false id u=false->wv (az T .add ay (.int .i64 (j:Int)) (.int .i64 1)) fun v31=>R [v,.int .i64 id,.ptr i1 [] 0,v31] G2:=by
    intro h;rw[h]at he;rw[bg,aa,i64_in (by omega) (by omega)];exact ih (j+1) (by omega) (by omega) he
   unfold uE at next he
   refine hR _ _ _ _ _ ?_;refine ae (dh (hl.ch' s1.ch)) ?_;rw[aM,aa,aI];refine⟨fun _=>?_,fun h=>absurd (by omega) h⟩;refine ae ha0 ?_;refine ae hb0 ?_;refine ae hl0 ?_;rw[bB,aa,aI];refine⟨fun hk=>?_,fun hk=>next (by rw[cond_false,dF_ hk,Bool.and_false])⟩;refine ae ha1 ?_;refine ae hb1 ?_;refine ae hl1 ?_;rw[bB,aa,aI];refine⟨fun hid=>?_,fun hid=>next (by rw[dF_ hid,Bool.false_and])⟩;rw[cond_false,dT_ hid,dT_ hk]at he;refine ae ha ?_;refine ae hla ?_;refine jY (i:=0) s1 rfl aL.bq huo fun G2 s2=>?_;refine ae (bF (i:=0) s2 rfl huo).2.2.2.2.2 ?_;have:=hQ _ s2.ch;rw[<- he]at this;exact this
 exact loop _ 0 rfl (by omega) (by simp)
theorem fY.use {v:ah}{l:List aL}(hl:ff 36 G v (l.map aL.av)) (hlen:l.length≤1048576) (hQ:Q (.int .i64 ((j7 l:Nat):Int)) G):al P fY.n [v] G Q:=by
 refine fY.sound ?_;unfold fY.S;intro R hR;have loop:∀ (n j:Nat),l.length-j=n->j≤l.length->R [v,.int .i64 ((j7 (l.take j):Nat):Int),.int .i64 (j:Int)] G:=by
  intro n;induction n with
  | zero=>
   intro j hn hj;have:j=l.length:=(by omega);subst this;rw[List.take_length];refine hR _ _ _ _ ?_;refine ae (dh hl) ?_;rw[aM,aa,aI];exact⟨fun h=>absurd h (by omega),fun _=>hQ⟩
  | succ n ih=>
   intro j hn hj;obtain⟨u,hu⟩:∃ u,l[j]?=some u:=⟨_,List.getElem?_eq_getElem (by omega)⟩;obtain⟨a0,b0,ha0,hb0,hl0⟩:=jZ (f:=0) (o:=0) (tf:=ay) (fi:=nc) hl hu rfl iD (by decide) rfl rfl rfl;have hle:=tJ (l.take j);rw[List.length_take]at hle;have hst:j7 (l.take (j+1))=j7 (l.take j)+j7 [u]:=(by rw[List.take_add_one,hu,oR];rfl);refine hR _ _ _ _ ?_;refine ae (dh hl) ?_;rw[aM,aa,aI];refine⟨fun _=>?_,fun h=>absurd (by omega) h⟩;refine ae ha0 ?_;refine ae hb0 ?_;refine ae hl0 ?_;rw[bB,aa,aI];refine⟨fun hk=>?_,fun hk=>?_⟩
   ·have e1:j7 [u]=1:=(by simp[j7,hk]);rw[bg,i64_in (by omega) (by omega),aa,bg,i64_in (by omega) (by omega),aa];have:=ih (j+1) (by omega) (by omega);rw[hst,e1]at this;exact this
   ·have e1:j7 [u]=0:=(by simp[j7,hk]);rw[bg,i64_in (by omega) (by omega),aa];have:=ih (j+1) (by omega) (by omega);rw[hst,e1]at this;exact this
 exact loop _ 0 rfl (by omega)
theorem eT.use {v w:ah}{own other:List aL}(hl:ff 36 G v (own.map aL.av)) (ho:ff 36 G w (other.map aL.av)) (hlen:own.length≤1048576) (hlen2:other.length≤1048576) (hQ:Q (.int .i64 ((uL own other:Nat):Int)) G):al P eT.n [v,w] G Q:=by
 refine eT.sound ?_;unfold eT.S;intro R hR;have loop:∀ (n j:Nat),own.length-j=n->j≤own.length->R [v,w,.int .i64 ((uL (own.take j) other:Nat):Int),.int .i64 (j:Int)] G:=by
  intro n;induction n with
  | zero=>
   intro j hn hj;have:j=own.length:=(by omega);subst this;rw[List.take_length];refine hR _ _ _ _ _ ?_;refine ae (dh hl) ?_;rw[aM,aa,aI];exact⟨fun h=>absurd h (by omega),fun _=>hQ⟩
  | succ n ih=>
   intro j hn hj;obtain⟨u,hu⟩:∃ u,own[j]?=some u:=⟨_,List.getElem?_eq_getElem (by omega)⟩;obtain⟨a0,b0,ha0,hb0,hl0⟩:=jZ (f:=0) (o:=0) (tf:=ay) (fi:=nc) hl hu rfl iD (by decide) rfl rfl rfl;obtain⟨a1,b1,ha1,hb1,hl1⟩:=jZ (f:=1) (o:=1) (tf:=aq) (fi:=iZ) hl hu rfl cu (by decide) rfl rfl rfl;have hle:uL (own.take j) other≤j:=by
    unfold uL;refine Nat.le_trans (List.length_filter_le _ _) ?_;rw[List.length_take];omega
   have hst:uL (own.take (j+1)) other=uL (own.take j) other+if CV other u=true then 1 else 0:=by
    unfold uL;rw[List.take_add_one,hu,List.filter_append,List.length_append];congr 1;simp only[Option.toList_some,List.filter_cons,List.filter_nil];split<;>rfl
   unfold CV at hst;refine hR _ _ _ _ _ ?_;refine ae (dh hl) ?_;rw[aM,aa,aI];refine⟨fun _=>?_,fun h=>absurd (by omega) h⟩;intro J30;have go:∀ x:Int,x=((uL (own.take (j+1)) other:Nat):Int)->J30 (.int .i64 x) G:=by
    intro x hx;simp -zeta only [J30];rw[bg,i64_in (by omega) (by omega),aa,hx];exact ih (j+1) (by omega) (by omega)
   refine ae ha0 ?_;refine ae hb0 ?_;refine ae hl0 ?_;rw[bB,aa,aI];refine⟨fun hk=>?_,fun hk=>go _ (by rw[hst,dF_ hk,Bool.false_and];rfl)⟩;rw[dT_ hk,Bool.true_and]at hst;refine ae ha1 ?_;refine ae hb1 ?_;refine ae hl1 ?_;refine cq.use ho hlen2 ?_;rw[dx,aa,gO];refine⟨fun h=>?_,fun h=>go _ (by rw[hst,h];rfl)⟩;rw[h,if_pos rfl]at hst;rw[bg,i64_in (by omega) (by omega),aa];exact go _ (by rw[hst];omega)
 exact loop _ 0 rfl (by omega)
theorem cM.use {v w:ah}{own other:List aL}{base fo fp:Int}(hl:hJ 36 G v (own.map aL.av)) (ho:hJ 36 G w (other.map aL.av)) (hlen:own.length≤1048576) (hlen2:other.length≤1048576) (hb:I64 base)
  (h0:0≤tl base own other fo fp) (h1:tl base own other fo fp≤1152921504606846976) (hQ:Q (.int .i64 (tl base own other fo fp)) G):al P cM.n [.int .i64 base,v,w,.int .i64 fo,.int .i64 fp] G Q:=by
 refine cM.sound ?_;unfold cM.S;unfold tl at h0 h1 hQ;have hfl:=jU other fp;have hfo:=jU own fo;obtain⟨S,hS⟩:∃ S,S=CN (cw other fp):=⟨_,rfl⟩;obtain⟨D,hD⟩:∃ D,D=GH (cw own fo):=⟨_,rfl⟩;rw[<- hS,<- hD]at h0 h1 hQ;intro R1 hR1;have two:R1 [v,w,.int .i64 fo,.int .i64 fp,.int .i64 (IntKind.i64.wrap (base-gG S own)),.int .i64 (own.length:Nat)] G:=by
  refine hR1 _ _ _ _ _ _ _ ?_;refine ae (dh hl.gZ) ?_;rw[aM,aa,aI];refine⟨fun h=>absurd h (by omega),fun _=>?_⟩;refine bQ.use hl hlen fun x hx=>?_;intro R hR;have loop:∀ (n j:Nat),other.length-j=n->j≤other.length->R [w,.int .i64 (IntKind.i64.wrap (base-gG S own+gG D (other.take j))),x,.int .i64 (j:Int)] G:=by
   intro n;induction n with
   | zero=>
    intro j hn hj;have:j=other.length:=(by omega);subst this;rw[List.take_length];refine hR _ _ _ _ _ ?_;refine ae (dh ho.gZ) ?_;rw[aM,aa,aI];refine⟨fun h=>absurd h (by omega),fun _=>?_⟩;rw[i64_in (by omega) (by omega)];refine ae (v:=.int .i64 (base-gG S own+gG D other)) ?_ hQ;show (some (ah.int .i64 (if base-gG S own+gG D other<0 then 0 else base-gG S own+gG D other)))=_;rw[if_neg (by omega)]
   | succ n ih=>
    intro j hn hj;obtain⟨u,hu⟩:∃ u,other[j]?=some u:=⟨_,List.getElem?_eq_getElem (by omega)⟩;obtain⟨a0,b0,ha0,hb0,hl0⟩:=jZ (f:=0) (o:=0) (tf:=ay) (fi:=nc) ho.gZ hu rfl iD (by decide) rfl rfl rfl;obtain⟨a1,b1,ha1,hb1,hl1⟩:=jZ (f:=1) (o:=1) (tf:=aq) (fi:=iZ) ho.gZ hu rfl cu (by decide) rfl rfl rfl;obtain⟨a2,b2,ha2,hb2,hl2⟩:=jZ (f:=2) (o:=2) (tf:=aq) (fi:=iZ) ho.gZ hu rfl cu (by decide) rfl rfl rfl;have hst:=pM (f:=D) hu;have eD:D u=(decide (u.kind=1) && oL (cw own fo) u.id 2):=(by rw[hD];rfl);refine hR _ _ _ _ _ ?_;refine ae (dh ho.gZ) ?_;rw[aM,aa,aI];refine⟨fun _=>?_,fun h=>absurd (by omega) h⟩;intro J77;have go:∀ y:Int,y=IntKind.i64.wrap (base-gG S own+gG D (other.take (j+1)))->J77 (.int .i64 y) G:=by
     intro y hy;simp -zeta only [J77];rw[bg,i64_in (by omega) (by omega),aa,hy];exact ih (j+1) (by omega) (by omega)
    refine ae ha0 ?_;refine ae hb0 ?_;refine ae hl0 ?_;rw[bB,aa,aI];refine⟨fun hk=>?_,fun hk=>go _ (by rw[hst,eD,dF_ hk];simp)⟩;rw[dT_ hk,Bool.true_and]at eD;refine ae ha1 ?_;refine ae hb1 ?_;refine ae hl1 ?_;refine cq.use hx.gZ (by omega) ?_;rw[gO];refine⟨fun h=>?_,fun h=>go _ (by rw[hst,eD,h];simp)⟩;refine ae ha2 ?_;refine ae hb2 ?_;refine ae hl2 ?_;rw[bg,aa,EY];exact go _ (by rw[hst,eD,h,if_pos rfl];congr 1;omega)
  have:=loop other.length 0 (by omega) (by omega);have e0:gG D (other.take 0)=0:=rfl;rw[e0,Int.add_zero]at this;exact this
 have loop:∀ (n j:Nat),own.length-j=n->j≤own.length->R1 [v,w,.int .i64 fo,.int .i64 fp,.int .i64 (IntKind.i64.wrap (base-gG S (own.take j))),.int .i64 (j:Int)] G:=by
  intro n;induction n with
  | zero=>
   intro j hn hj;have:j=own.length:=(by omega);subst this;rw[List.take_length];exact two
  | succ n ih=>
   intro j hn hj;obtain⟨u,hu⟩:∃ u,own[j]?=some u:=⟨_,List.getElem?_eq_getElem (by omega)⟩;obtain⟨a0,b0,ha0,hb0,hl0⟩:=jZ (f:=0) (o:=0) (tf:=ay) (fi:=nc) hl.gZ hu rfl iD (by decide) rfl rfl rfl;obtain⟨a1,b1,ha1,hb1,hl1⟩:=jZ (f:=1) (o:=1) (tf:=aq) (fi:=iZ) hl.gZ hu rfl cu (by decide) rfl rfl rfl;obtain⟨a2,b2,ha2,hb2,hl2⟩:=jZ (f:=2) (o:=2) (tf:=aq) (fi:=iZ) hl.gZ hu rfl cu (by decide) rfl rfl rfl;have hst:=pM (f:=S) hu;have eS:S u=(decide (u.kind=1) && !oL (cw other fp) u.id 3):=(by rw[hS];rfl);refine hR1 _ _ _ _ _ _ _ ?_;refine ae (dh hl.gZ) ?_;rw[aM,aa,aI];refine⟨fun _=>?_,fun h=>absurd (by omega) h⟩;intro J40;have go:∀ y:Int,y=IntKind.i64.wrap (base-gG S (own.take (j+1)))->J40 (.int .i64 y) G:=by
    intro y hy;simp -zeta only [J40];rw[bg,i64_in (by omega) (by omega),aa,hy];exact ih (j+1) (by omega) (by omega)
   refine ae ha0 ?_;refine ae hb0 ?_;refine ae hl0 ?_;rw[bB,aa,aI];refine⟨fun hk=>?_,fun hk=>go _ (by rw[hst,eS,dF_ hk];simp)⟩;rw[dT_ hk,Bool.true_and]at eS;refine ae ha1 ?_;refine ae hb1 ?_;refine ae hl1 ?_;refine bQ.use ho hlen2 fun x hx=>?_;refine⟨⟨hl1,trivial⟩,?_⟩;refine cq.use hx.gZ (by omega) ?_;rw[dx,aa,<- eS,gO];refine⟨fun h=>?_,fun h=>go _ (by rw[hst,h];simp)⟩;refine ae ha2 ?_;refine ae hb2 ?_;refine ae hl2 ?_;rw[b7,aa,zm];exact go _ (by rw[hst,h,if_pos rfl];congr 1;omega)
 have:=loop own.length 0 (by omega) (by omega);have e0:gG S (own.take 0)=0:=rfl;rw[e0,Int.sub_zero,i64_in hb.1 hb.2]at this;exact this
theorem cO.use {f:StF}{vo vp vh:ah}(h:ka G f vo vp vh) (I:iY f) (hQ:∀ G',Ch [] G [] G'->Q (.int .i64 (tj f)) G'):al P cO.n [f.s.av vo vp vh] G Q:=by
 have ho:=h.ok;have hl:=h.lv;refine cO.sound ?_;unfold cO.S;intro i1 f1;have s1:=(Sp.nil G).row f1 (f.s.av vo vp vh);refine ae (St.ld (au.own (i:=0) s1 rfl) ho hl) ?_;refine cg.use (h.mv s1.ch) fun G5 c5=>?_;have s5:=s1.tmp c5;refine jL (c:=bE (mM f.s) (mD f.s)) s5 cK rfl rfl rfl fun i6 G8 s8=>?_;have hg:=au.own (i:=1) s8 rfl;refine ae (St.uM hg ho hl) ?_;refine ae (St.dM hg ho hl) ?_;refine ae (St.eH hg ho hl) ?_;refine ae (jW (au.own (i:=0) s8 rfl)).1 ?_;refine ae (jW (au.own (i:=0) s8 rfl)).2.1 ?_;obtain⟨e1,e2⟩:=I.xl;have hr:=I.Fh;rw[e1]at hr hQ;refine cM.use (h.o.mv s8.ch) (h.p.mv s8.ch) h.lo h.lp ho.bo (by rw[e2];exact hr.1) (by rw[e2];exact hr.2) ?_;rw[e2];exact hQ _ s8.ch
theorem b5.use {f:StF}{vo vp vh:ah}(h:ka G f vo vp vh) (I:iY f) (hQ:∀ G',Ch [] G [] G'->Q (.int .i64 (th f)) G'):al P b5.n [f.s.av vo vp vh] G Q:=by
 have ho:=h.ok;have hl:=h.lv;refine b5.sound ?_;unfold b5.S;intro i1 f1;have s1:=(Sp.nil G).row f1 (f.s.av vo vp vh);refine ae (St.ld (au.own (i:=0) s1 rfl) ho hl) ?_;refine cg.use (h.mv s1.ch) fun G5 c5=>?_;have s5:=s1.tmp c5;refine jL (c:=bE (mM f.s) (mD f.s)) s5 cK rfl rfl rfl fun i6 G8 s8=>?_;have hg:=au.own (i:=1) s8 rfl;refine ae (St.tC hg ho hl) ?_;refine ae (St.eH hg ho hl) ?_;refine ae (St.dM hg ho hl) ?_;refine ae (jW (au.own (i:=0) s8 rfl)).2.1 ?_;refine ae (jW (au.own (i:=0) s8 rfl)).1 ?_;obtain⟨e1,e2⟩:=I.xk;have hr:=I.Fg;rw[e1]at hr hQ;refine cM.use (h.p.mv s8.ch) (h.o.mv s8.ch) h.lp h.lo ho.bp (by rw[e2];exact hr.1) (by rw[e2];exact hr.2) ?_;rw[e2];exact hQ _ s8.ch
end
end Go.Esc.M
namespace Go.Esc.M
open Go Go.Esc
theorem Asc.Mz:∀ {l:List ba}{m n:Int},m≤n->Asc n l->Asc m l
 | [],_,_,_,_=>trivial
 | p::l,m,n,h,k=>⟨by have:=k.1;omega,k.2⟩
theorem ye {p:ba}:∀ {l:List ba},(∀ q∈l,¬ p.id<q.id)->iG l p=l++[p]
 | [],_=>rfl
 | q::l,h=>by
  have ih:=ye (p:=p) (l:=l) fun x hx=>h x (by simp[hx]);unfold iG;rw[if_neg (h q (by simp)),ih];rfl
theorem BF:∀ {l acc:List ba}{n:Int},Asc n l->(∀ q∈acc,q.id≤n)->l.foldl iG acc=acc++l
 | [],acc,n,_,_=>by simp
 | p::l,acc,n,h,hq=>by
  obtain⟨h1,_,_,h4⟩:=h;rw[List.foldl_cons,ye fun q hm=>by have:=hq q hm;omega];rw[BF h4 fun q hm=>?_,List.append_assoc]
  ·rfl
  ·rcases List.mem_append.1 hm with hm|hm
   ·have:=hq q hm;omega
   ·rw[List.mem_singleton.1 hm];exact Int.le_refl _
theorem DY {l:List ba}{n:Int}(h:Asc n l):kS l=l:=by
 have:=BF (acc:=[]) h (by simp);simpa[kS] using this
theorem D6 {l:List aL}(hi:rA l) (hv:∀ u∈l,dp u=true) (m:Bool) (f:aL->Bool) (hf:∀ u,f u=true->u.kind=1):Asc (-1) (iX m f l):=by
 have key:∀ (n j:Nat),l.length-j=n->j≤l.length->Asc (((j7 (l.take j):Nat):Int)-1) (iX m f (l.drop j)):=by
  intro n;induction n with
  | zero=>
   intro j hn hj;rw[List.drop_of_length_le (by omega)];trivial
  | succ n ih=>
   intro j hn hj;obtain⟨u,hu⟩:∃ u,l[j]?=some u:=⟨_,List.getElem?_eq_getElem (by omega)⟩;have hdr:l.drop j=u::l.drop (j+1):=by
    obtain⟨hx,rfl⟩:=List.getElem?_eq_some_iff.1 hu;exact List.drop_eq_getElem_cons hx
   have ih:=ih (j+1) (by omega) (by omega);have hst:j7 (l.take (j+1))=j7 (l.take j)+j7 [u]:=(by rw[List.take_add_one,hu,oR];rfl);rw[hdr];cases hfu:f u with
   | true=>
    have hk:=hf u hfu;have e1:j7 [u]=1:=(by simp[j7,hk]);have hid:=hi j u hu hk;have hval:=(lW (hv u (List.mem_of_getElem? hu))).2.2;have e:iX m f (u::l.drop (j+1))=D7 m u::iX m f (l.drop (j+1)):=(by simp[iX,hfu]);rw[e];refine⟨by show _<u.id;omega,by show 1≤u.amount;omega,by show u.amount≤jb;unfold jb;omega,?_⟩;show Asc u.id _;rw[hst,e1]at ih;rw[hid];have:(((j7 (l.take j)+1:Nat):Int)-1)=((j7 (l.take j):Nat):Int):=(by omega);rw[this]at ih;exact ih
   | false=>
    have e:iX m f (u::l.drop (j+1))=iX m f (l.drop (j+1)):=(by simp[iX,hfu]);rw[e];exact Asc.Mz (by omega) ih
 have:=key l.length 0 (by omega) (by omega);exact this
theorem BR {o p:List aL}(vo:∀ u∈o,dp u=true) (vp:∀ u∈p,dp u=true) {fb:Int}(h0:0≤fb) {n m:Nat}(hm:fb≤(m:Int)):((o.take n).filter (opens (p.take m))).length≤kX o p fb:=by
 have h1:((o.take n).filter (opens (p.take m))).length≤(o.filter (opens (p.take m))).length:=(List.Sublist.filter _ (List.take_sublist _ _)).length_le;refine Nat.le_trans h1 ?_;unfold kX ml;rw[List.length_map,<- List.countP_eq_length_filter,<- List.countP_eq_length_filter];refine List.countP_mono_left fun u hu ho=>?_;simp only[opens,stays,Bool.and_eq_true,decide_eq_true_eq,Bool.not_eq_true',decide_eq_false_iff_not]at ho ⊢;refine⟨ho.1.1,vo u hu,?_⟩;refine Classical.byContradiction fun hne=>?_;have hle:fb.toNat≤m:=by omega
 have:=pP (id:=u.id) (l:=p) hle hne;have h3:=xr u.id (p.take m);have h4:jH u.id (p.take fb.toNat)≠0:=hne;rw[<- this]at h4;rcases h3 with h3|h3|h3
 ·exact h4 h3
 ·exact ho.2 h3
 ·exact ho.1.2 h3
theorem Ay {o p:List aL}(io:rA o) (ip:rA p) (vo:∀ u∈o,dp u=true) (vp:∀ u∈p,dp u=true) {x y:Int}(hx:0≤x/\x≤jb) (hy:0≤y/\y≤jb)
  (h1:(o.filter (opens p)).length≤483) (h2:(p.filter (opens o)).length≤483):lG x y (oN o p)=true:=by
 have a1:=D6 io vo true (opens p) fun u hu=>by simp[opens,stays]at hu;exact hu.1.1
 have a2:=D6 ip vp false (opens o) fun u hu=>by simp[opens,stays]at hu;exact hu.1.1
 unfold oN;rw[DY a1,DY a2];have o1:∀ q∈iX true (opens p) o,q.ours=true:=by
  intro q hq;obtain⟨u,_,rfl⟩:=List.mem_map.1 hq;rfl
 have o2:∀ q∈iX false (opens o) p,q.ours=false:=by
  intro q hq;obtain⟨u,_,rfl⟩:=List.mem_map.1 hq;rfl
 obtain⟨lt,e1⟩:=K3 _ (-1) (-1) 0 (iX false (opens o) p) a1 o1;have e2:=K4 _ lt (-1) (0+(iX true (opens p) o).length) 0 a2 o2;unfold lG;rw[e1,e2,dT_ hx.1,dT_ hx.2,dT_ hy.1,dT_ hy.2];have l1:(iX true (opens p) o).length=(o.filter (opens p)).length:=by unfold iX;rw[List.length_map]
 have l2:(iX false (opens o) p).length=(p.filter (opens o)).length:=by unfold iX;rw[List.length_map]
 simp only[few,l1,l2,Bool.true_and,Bool.and_eq_true,decide_eq_true_eq];omega
theorem As {l:List aL}(h:rA l) (n:Nat):rA (l.take n):=by
 intro j u hj hk;have hl:=(List.getElem?_eq_some_iff.1 hj).1;rw[List.length_take]at hl;rw[List.getElem?_take_of_lt (by omega)]at hj;rw[List.take_take,Nat.min_eq_left (by omega)];exact h j u hj hk
theorem iY.Lc {f:StF}(I:iY f) {a b:Int}(ha:f.s.atA≤a) (ha2:a≤f.o.length) (hb:f.s.heldB≤b) (hb2:b≤f.p.length) :
  (kx f a b).e=0/\lG (kx f a b).o (kx f a b).q (kx f a b).l=true/\lG (kx f a b).q (kx f a b).o (pE (kx f a b).l)=true/\kx f a b=foldM f.s.bo f.s.bp (f.o.take a.toNat) (f.p.take b.toNat):=by
 have a0:=I.a0;have b0:=I.b0;obtain⟨h1,h2⟩:=I.book.taken (n:=a.toNat) (m:=b.toNat) (by omega) (by omega) (by omega) (by omega);rw[Int.toNat_of_nonneg (by omega),Int.toNat_of_nonneg (by omega)]at h1 h2;have e:kx f a b=foldM f.s.bo f.s.bp (f.o.take a.toNat) (f.p.take b.toNat):=h2;have h1':(foldM f.s.bo f.s.bp (f.o.take a.toNat) (f.p.take b.toNat)).e=0:=by rw[<- h2];exact h1
 obtain⟨v1,v2,x0,y0,hm⟩:=HX h1';obtain⟨l1,l2⟩:=C8 (bo:=f.s.bo) (bp:=f.s.bp) v1 v2 (by have:=I.cap;have:=I.capm;omega);have io:=As (ui I.go) a.toNat;have ip:=As (ui I.gp) b.toNat;have c1:((f.o.take a.toNat).filter (opens (f.p.take b.toNat))).length≤483:=Nat.le_trans (BR I.vo I.vp I.b0 (by omega)) I.no;have c2:((f.p.take b.toNat).filter (opens (f.o.take a.toNat))).length≤483:=Nat.le_trans (BR I.vp I.vo I.a0 (by omega)) I.np;refine⟨h1,?_,?_,e⟩
 ·rw[e,hm];exact Ay io ip v1 v2 ⟨x0,l1 y0⟩ ⟨y0,l2 x0⟩ c1 c2
 ·rw[e,hm];show lG (n0 _ _ _) (nH _ _ _) (pE (oN _ _))=true;rw[Fa];exact Ay ip io v2 v1 ⟨y0,l2 x0⟩ ⟨x0,l1 y0⟩ c2 c1
theorem ID {ow ix x y:Int}{pt:List UInt8}{l:List ba}(h0:ow=0\/ow=1) (h1:0≤ix) (h2:ix≤281474976710655) (hs:lG x y l=true):oI ow ix pt x y l=(vK ow ix pt x y l,0):=by
 unfold oI;rw[if_neg (by unfold qZ vZ;omega),hs];rfl
end Go.Esc.M
