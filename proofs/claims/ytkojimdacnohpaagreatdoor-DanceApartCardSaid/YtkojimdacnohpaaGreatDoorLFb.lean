import Derived.Test.YtkojimdacnohpaaGreatDoorLUe
import Derived.Test.YtkojimdacnohpaaGreatDoorLPw
import Derived.Test.YtkojimdacnohpaaGreatDoorLSd
import Derived.Test.YtkojimdacnohpaaGreatDoorLHb
import Derived.Test.YtkojimdacnohpaaGreatDoorLLib
import Derived.Test.YtkojimdacnohpaaGreatDoorLDc
set_option maxHeartbeats 2000000
set_option linter.unusedSimpArgs false
set_option linter.unusedVariables false
set_option maxRecDepth 20000
namespace Go.Esc.M
open Go Go.Esc
theorem KL {p p':aL}(h:p.ok) (h':p'.ok):eqF T (kV T 8) [(ay,0),(aq,1),(aq,2),(ar,3),(bH,35)] p.cs p'.cs 0=some (decide (p=p')):=by
 have z1:=gm h.hash;have z2:=gm h'.hash;have q2:∀ m n:Int,kV T 8 aq (.int .i64 m) (.int .i64 n)=some (decide (m=n)):=fun m n=>by
  rw[kV];simp only[cu];rfl
 have q1:∀ m n:Int,kV T 8 ay (.int .i64 m) (.int .i64 n)=some (decide (m=n)):=fun m n=>by
  rw[kV];simp only[iD];rfl
 have q4:∀ m n:List UInt8,kV T 8 bH (.str m) (.str n)=some (decide (m=n)):=fun m n=>by
  rw[kV];simp only[fS];rfl
 have v1:∀ m:Int,dD nc (.int .i64 m)=true:=fun m=>rfl;have v2:∀ m:Int,dD iZ (.int .i64 m)=true:=fun m=>rfl;have v4:∀ m:List UInt8,dD iO (.str m)=true:=fun m=>rfl;have s1:nc.size=1:=rfl;have s2:iZ.size=1:=rfl;have s3:dQ.size=32:=rfl;have q3:=zu h.hash h'.hash;obtain⟨a,b,c,d,e⟩:=p;obtain⟨a',b',c',d',e'⟩:=p';dsimp only at z1 z2 q3;simp only[aL.cs,eqF,iD,cu,bZ,fS,v1,v2,v4,z1,z2,s1,s2,s3,Nat.zero_add,q1,q2,q3,q4,beq_self_eq_true,Bool.and_self,Nat.reduceAdd,if_true];by_cases h1:a=a'
 ·subst h1;by_cases h2:b=b'
  ·subst h2;by_cases h3:c=c'
   ·subst h3;by_cases h4:d=d'
    ·subst h4;by_cases h5:e=e'
     ·subst h5;simp
     ·simp[h5]
    ·simp[h4]
   ·simp[h3]
  ·simp[h2]
 ·simp[h1]
theorem Gn {p p':aL}(h:p.ok) (h':p'.ok):kV T 9 aG p.av p'.av=some (decide (p=p')):=by
 rw[<- KL h h',kV];have e1:cG.desc=.struct [(ay,0),(aq,1),(aq,2),(ar,3),(bH,35)]:=rfl;simp only[dE,e1];rfl
theorem Bs {p p':aL}(h:p.ok) (h':p'.ok):az T .eql aG p.av p'.av=some (.bool (decide (p=p'))):=by
 have:=Gn h h';unfold aL.av at this ⊢;simp only[az,this]
theorem Hs {p p':aL}(h:p.ok) (h':p'.ok):az T .neq aG p.av p'.av=some (.bool (!decide (p=p'))):=by
 have:=Gn h h';unfold aL.av at this ⊢;simp only[az,this]
section
variable {F0:List AId}{G0 G:ak}{ps:List LP}{Q:ah->ak->Prop}
end
end Go.Esc.M
namespace Go.Esc.M
open Go Go.Esc
end Go.Esc.M
namespace Go.Esc.M
open Go Go.Esc
section
variable {F0:List AId}{G0 G:ak}{ps:List LP}{Q:ah->ak->Prop}
theorem jZ {v:ah}{l:List aL}{j f o:Nat}{p:aL}{tf:TypeId}{fi:TI}{c:ah}(h:ff 36 G v (l.map aL.av)) (hj:l[j]?=some p) (hf:[(ay,0),(aq,1),(aq,2),(ar,3),(bH,35)][f]?=some (tf,o)) (hft:T tf=some fi) (hz:fi.size≠0)
  (hs:szs (p.cs.take f)=o) (hc:p.cs[f]?=some c) (hfit:dD fi c=true) :
  ∃ a b,aO T aj v (.int .i64 (j:Int))=some a/\bt T aG a f=some b/\ag T G tf b=some c:=
 ff.fld (k:=.i64) (i:=dL) (ie:=cG) bT rfl dE rfl hf hft hz h (by rw[List.getElem?_map,hj];rfl) hs hc hfit
theorem gf.use {v:ah}{l:List aL}{id:Int}(hl:ff 36 G v (l.map aL.av)) (hok:∀ u∈l,u.ok) (hlen:l.length≤9223372036854775807) (hQ:∀ G',Ch [] G [] G'->Q (Ec (ey false id l)) G') :
  al P gf.n [v,.int .i64 id] G Q:=by
 refine gf.sound ?_;unfold gf.S;rw[Dq];intro i1 f1;have s1:=(Sp.nil G).row f1 aL.zero.av;revert s1;generalize ak.upd _ i1 (.own aL.zero.av)=G2;intro s1 R hR;have loop:∀ (n j:Nat),l.length-j=n->j≤l.length->ey false id (l.drop j)=ey false id l->R [v,.int .i64 id,.ptr i1 [] 0,.int .i64 (j:Int)] G2:=by
  intro n;induction n with
  | zero=>
   intro j hn hj he;have:j=l.length:=(by omega);subst this;rw[List.drop_length]at he;refine hR _ _ _ _ _ ?_;refine ae (dh (hl.ch' s1.ch)) ?_;rw[aM,aa,aI];refine⟨fun h=>absurd h (by omega),fun _=>?_⟩;rw[sF,aa];refine jY (i:=0) s1 rfl aL.bq aL.bq fun G2 s2=>?_;refine ae (bF (i:=0) s2 rfl aL.bq).2.2.2.2.2 ?_;have:=hQ _ s2.ch;rw[<- he]at this;exact this
  | succ n ih=>
   intro j hn hj he;obtain⟨u,hu⟩:∃ u,l[j]?=some u:=⟨_,List.getElem?_eq_getElem (by omega)⟩;have huo:=hok u (List.mem_of_getElem? hu);obtain⟨a,ha,hla⟩:=nD (hl.ch' s1.ch) hu;obtain⟨a0,b0,ha0,hb0,hl0⟩:=jZ (f:=0) (o:=0) (tf:=ay) (fi:=nc) (hl.ch' s1.ch) hu rfl iD (by decide) rfl rfl rfl;obtain⟨a1,b1,ha1,hb1,hl1⟩:=jZ (f:=1) (o:=1) (tf:=aq) (fi:=iZ) (hl.ch' s1.ch) hu rfl cu (by decide) rfl rfl rfl;have hdr:l.drop j=u::l.drop (j+1):=by
    obtain⟨hx,rfl⟩:=List.getElem?_eq_some_iff.1 hu;exact List.drop_eq_getElem_cons hx
   rw[hdr,ey,List.find?_cons]at he;have next:uE false id u=false->wv (az T .add ay (.int .i64 (j:Int)) (.int .i64 1)) fun v31=>R [v,.int .i64 id,.ptr i1 [] 0,v31] G2:=by
    intro h;rw[h]at he;rw[bg,aa,i64_in (by omega) (by omega)];exact ih (j+1) (by omega) (by omega) he
   unfold uE at next he
   refine hR _ _ _ _ _ ?_;refine ae (dh (hl.ch' s1.ch)) ?_;rw[aM,aa,aI];refine⟨fun _=>?_,fun h=>absurd (by omega) h⟩;refine ae ha0 ?_;refine ae hb0 ?_;refine ae hl0 ?_;rw[bB,aa,aI];refine⟨fun hk=>?_,fun hk=>next (by rw[cond_false,dF_ hk,Bool.and_false])⟩;refine ae ha1 ?_;refine ae hb1 ?_;refine ae hl1 ?_;rw[bB,aa,aI];refine⟨fun hid=>?_,fun hid=>next (by rw[dF_ hid,Bool.false_and])⟩;rw[cond_false,dT_ hid,dT_ hk]at he;refine ae ha ?_;refine ae hla ?_;refine jY (i:=0) s1 rfl aL.bq huo fun G2 s2=>?_;refine ae (bF (i:=0) s2 rfl huo).2.2.2.2.2 ?_;have:=hQ _ s2.ch;rw[<- he]at this;exact this
 exact loop _ 0 rfl (by omega) (by simp)
theorem dZ.use {v:ah}{l:List aL}{id:Int}(hl:ff 36 G v (l.map aL.av)) (hok:∀ u∈l,u.ok) (hlen:l.length≤9223372036854775807) (hQ:∀ G',Ch [] G [] G'->Q (Ec (ey true id l)) G') :
  al P dZ.n [v,.int .i64 id] G Q:=by
 refine dZ.sound ?_;unfold dZ.S;rw[Dq];intro i1 f1;have s1:=(Sp.nil G).row f1 aL.zero.av;revert s1;generalize ak.upd _ i1 (.own aL.zero.av)=G2;intro s1 R hR;have loop:∀ (n j:Nat),l.length-j=n->j≤l.length->ey true id (l.drop j)=ey true id l->R [v,.int .i64 id,.ptr i1 [] 0,.int .i64 (j:Int)] G2:=by
  intro n;induction n with
  | zero=>
   intro j hn hj he;have:j=l.length:=(by omega);subst this;rw[List.drop_length]at he;refine hR _ _ _ _ _ ?_;refine ae (dh (hl.ch' s1.ch)) ?_;rw[aM,aa,aI];refine⟨fun h=>absurd h (by omega),fun _=>?_⟩;rw[sF,aa];refine jY (i:=0) s1 rfl aL.bq aL.bq fun G2 s2=>?_;refine ae (bF (i:=0) s2 rfl aL.bq).2.2.2.2.2 ?_;have:=hQ _ s2.ch;rw[<- he]at this;exact this
  | succ n ih=>
   intro j hn hj he;obtain⟨u,hu⟩:∃ u,l[j]?=some u:=⟨_,List.getElem?_eq_getElem (by omega)⟩;have huo:=hok u (List.mem_of_getElem? hu);obtain⟨a,ha,hla⟩:=nD (hl.ch' s1.ch) hu;obtain⟨a0,b0,ha0,hb0,hl0⟩:=jZ (f:=0) (o:=0) (tf:=ay) (fi:=nc) (hl.ch' s1.ch) hu rfl iD (by decide) rfl rfl rfl;obtain⟨a1,b1,ha1,hb1,hl1⟩:=jZ (f:=1) (o:=1) (tf:=aq) (fi:=iZ) (hl.ch' s1.ch) hu rfl cu (by decide) rfl rfl rfl;have hdr:l.drop j=u::l.drop (j+1):=by
    obtain⟨hx,rfl⟩:=List.getElem?_eq_some_iff.1 hu;exact List.drop_eq_getElem_cons hx
   rw[hdr,ey,List.find?_cons]at he;refine hR _ _ _ _ _ ?_;refine ae (dh (hl.ch' s1.ch)) ?_;rw[aM,aa,aI];refine⟨fun _=>?_,fun h=>absurd (by omega) h⟩;intro J33;have no:uE true id u=false->J33 (.bool false) G2:=by
    intro h;rw[h]at he;simp -zeta only [J33,aK];rw[bg,aa,i64_in (by omega) (by omega)];exact ih (j+1) (by omega) (by omega) he
   have yes:uE true id u=true->J33 (.bool true) G2:=by
    intro h;rw[h]at he;simp -zeta only [J33,aN];refine ae ha ?_;refine ae hla ?_;refine jY (i:=0) s1 rfl aL.bq huo fun G2 s2=>?_;refine ae (bF (i:=0) s2 rfl huo).2.2.2.2.2 ?_;have:=hQ _ s2.ch;rw[<- he]at this;exact this
   have idt:(u.kind=2\/u.kind=3)->J33 (.bool (decide (u.id=id))) G2:=by
    intro hk;have hkk:(decide (u.kind=2) || decide (u.kind=3))=true:=by
     rw[Bool.or_eq_true,decide_eq_true_eq,decide_eq_true_eq];exact hk
    unfold uE at yes no;rw[cond_true,hkk,Bool.and_true]at yes no;by_cases h:u.id=id
    ·rw[dT_ h];exact yes (dT_ h)
    ·rw[dF_ h];exact no (dF_ h)
   refine ae ha0 ?_;refine ae hb0 ?_;refine ae hl0 ?_;rw[bB,aa,aI];refine⟨fun hk=>?_,fun hk=>?_⟩
   ·refine ae ha1 ?_;refine ae hb1 ?_;refine ae hl1 ?_;rw[bB,aa];exact idt (.inl hk)
   ·refine ae ha0 ?_;refine ae hb0 ?_;refine ae hl0 ?_;rw[bB,aa,aI];refine⟨fun hk3=>?_,fun hk3=>no (by unfold uE;rw[cond_true,dF_ hk,dF_ hk3,Bool.or_self,Bool.and_false])⟩;refine ae ha1 ?_;refine ae hb1 ?_;refine ae hl1 ?_;rw[bB,aa];exact idt (.inr hk3)
 exact loop _ 0 rfl (by omega) (by simp)
theorem gg.use {v:ah}{l:List aL}(hl:ff 36 G v (l.map aL.av)) (hlen:l.length≤9223372036854775807) (hQ:Q (.int .i64 (oQ l:Nat)) G):al P gg.n [v] G Q:=by
 refine gg.sound ?_;unfold gg.S;intro R hR;have loop:∀ (n j:Nat),l.length-j=n->j≤l.length->R [v,.int .i64 (oQ (l.take j):Nat),.int .i64 (j:Int)] G:=by
  intro n;induction n with
  | zero=>
   intro j hn hj;have:j=l.length:=(by omega);subst this;refine hR _ _ _ _ ?_;refine ae (dh hl) ?_;rw[aM,aa,aI];refine⟨fun h=>absurd h (by omega),fun _=>?_⟩;rw[List.take_length];exact hQ
  | succ n ih=>
   intro j hn hj;obtain⟨u,hu⟩:∃ u,l[j]?=some u:=⟨_,List.getElem?_eq_getElem (by omega)⟩;obtain⟨a0,b0,ha0,hb0,hl0⟩:=jZ (f:=0) (o:=0) (tf:=ay) (fi:=nc) hl hu rfl iD (by decide) rfl rfl rfl;have ht:=A9 hu;have hle:=EN (l.take j);have hlj:(l.take j).length≤j:=List.length_take_le _ _;refine hR _ _ _ _ ?_;refine ae (dh hl) ?_;rw[aM,aa,aI];refine⟨fun _=>?_,fun h=>absurd (by omega) h⟩;refine ae ha0 ?_;refine ae hb0 ?_;refine ae hl0 ?_;rw[bB,aa,aI];refine⟨fun hk=>?_,fun hk=>?_⟩
   ·rw[if_pos hk]at ht;rw[bg,aa,i64_in (by omega) (by omega),bg,aa,i64_in (by omega) (by omega),show ((oQ (l.take j):Nat):Int)+1=((oQ (l.take (j+1)):Nat):Int) by omega];exact ih (j+1) (by omega) (by omega)
   ·rw[if_neg hk]at ht;rw[bg,aa,i64_in (by omega) (by omega),show oQ (l.take j)=oQ (l.take (j+1)) by omega];exact ih (j+1) (by omega) (by omega)
 exact loop _ 0 rfl (by omega)
def kJ (mine others:List aL) (u:aL):Int:=
 if 2048≤mine.length then 6 else if dp u=false then 120
 else if u.kind=1 then (if u.id=(oQ mine:Nat) then 0 else 120)
 else if (ey false u.id others).isSome=false then 120
 else if (ey true u.id mine).isSome then 120
 else if u.kind=2/\sha u.hash≠((ey false u.id others).getD aL.zero).hash then 120 else 0
theorem je (s:List UInt8):(sha s).length=32:=gU s
theorem CW {F0:List AId}{G0:ak}{ps:List LP}{s:List UInt8}{K:ah->ak->Prop}(hs:Sp F0 G0 ps G) (hK:∀ v G2,Sp F0 G0 (bm 1 v ([s].map .str)::ps) G2->K v G2):bu T iE 1 [(0,.str s)] G K:=
 Df (T:=T) (ts:=iE) (e:=bH) (si:=kf) (ie:=iO) m9 rfl fS rfl hs rfl (by decide) hK
theorem jq.use {v w:ah}{mine others:List aL}{u:aL}(hl:ff 36 G v (mine.map aL.av)) (ho:ff 36 G w (others.map aL.av)) (hok:∀ u∈mine,u.ok) (hok2:∀ u∈others,u.ok) (hlen:mine.length≤9223372036854775807) (hlen2:others.length≤9223372036854775807) (hu:u.ok)
  (hQ:∀ G',Ch [] G [] G'->Q (.int .i64 (kJ mine others u)) G'):al P jq.n [v,w,u.av] G Q:=by
 refine jq.sound ?_;unfold jq.S;rw[Dq];intro i1 f1;have s1:=(Sp.nil G).row f1 u.av;refine ae (dh (hl.ch' s1.ch)) ?_;unfold kJ at hQ;rw[fI,aa,aI];refine⟨fun h=>?_,fun h=>?_⟩
 ·rw[if_pos (by omega)]at hQ;exact hQ _ s1.ch
 rw[if_neg (by omega)]at hQ;refine ae (bF (i:=0) s1 rfl hu).2.2.2.2.2 ?_;refine gj.use hu fun G7 c7=>?_;have s7:=s1.tmp c7;rw[dx,aa];cases hv:dp u with
 | false=>
  rw[if_pos hv]at hQ;exact hQ _ s7.ch
 | true=>
  rw[if_neg (by rw[hv];decide)]at hQ;rw[Bool.not_true,aK];refine ae (bF (i:=0) s7 rfl hu).1 ?_;rw[bB,aa,aI];refine⟨fun hk1=>?_,fun hk1=>?_⟩
  ·rw[if_pos hk1]at hQ;refine ae (bF (i:=0) s7 rfl hu).2.1 ?_;refine jo.use (hl.ch' s7.ch) hok hlen fun G13 c13=>?_;have s13:=s7.tmp c13;refine⟨⟨(bF (i:=0) s13 rfl hu).2.1,trivial⟩,?_⟩;rw[cD,aa,dC];exact⟨fun h=>by rw[if_neg h]at hQ;exact hQ _ s13.ch,fun h=>by rw[if_pos h]at hQ;exact hQ _ s13.ch⟩
  rw[if_neg hk1]at hQ;refine ae (bF (i:=0) s7 rfl hu).2.1 ?_;refine ik.use (ho.ch' s7.ch) hok2 hlen2 fun G17 c17=>?_;have s17:=s7.tmp c17;have hf1:=lT (rm:=false) (id:=u.id) hok2;have hf2:=lT (rm:=true) (id:=u.id) hok;rw[z6,aa,zZ,aa];obtain⟨A,hA⟩:∃ A,A=ey false u.id others:=⟨_,rfl⟩;obtain⟨B,hB⟩:∃ A,A=ey true u.id mine:=⟨_,rfl⟩;rw[<- hA]at hf1 hQ ⊢;rw[<- hB]at hf2 hQ;intro i20 f20;have s20:=s17.row f20 aL.zero.av;refine jY (i:=0) s20 rfl aL.bq hf1 fun G22 s22=>?_;refine ae (bF (i:=1) s22 rfl hu).2.1 ?_;refine gn.use (hl.ch' s22.ch) hok hlen fun G25 c25=>?_;have s25:=s22.tmp c25;rw[<- hB,z6,aa,zZ,aa];intro i28 f28;have s28:=s25.row f28 aL.zero.av;refine jY (i:=0) s28 rfl aL.bq hf2 fun G30 s30=>?_;have s30:Sp [] G [au i28 (B.getD aL.zero).av,au i20 (A.getD aL.zero).av,au i1 u.av] G30:=s30;rw[dx,aa];cases hAs:A.isSome with
  | false=>
   rw[if_pos hAs]at hQ;exact hQ _ s30.ch
  | true=>
   rw[if_neg (by rw[hAs];decide)]at hQ;rw[Bool.not_true,aK];cases hBs:B.isSome with
   | true=>
    rw[if_pos hBs]at hQ;exact hQ _ s30.ch
   | false=>
    rw[if_neg (by rw[hBs];decide)]at hQ;rw[aK];refine ae (bF (i:=2) s30 rfl hu).1 ?_;rw[bB,aa,aI];refine⟨fun hk2=>?_,fun hk2=>?_⟩
    ·obtain⟨x,hx,hxs⟩:=BH hu (au.own (i:=2) s30 rfl);refine ae hx ?_;refine ae (km (si:=fJ) (ie:=gi) (di:=iO) eC rfl cW rfl fS rfl hxs) ?_;refine ae (bF (i:=1) s30 rfl hf1).2.2.2.1 ?_;refine CW s30 fun v37 G38 s38=>?_;have hh:=hu.hash;refine jh.use (xs:=[u.hash]) (bm.own (i:=0) s38 rfl).cap (by simp) (by simp;omega) fun G40 c40=>?_;have s40:=s38.tmp c40;refine⟨⟨(bF (i:=2) s40 rfl hf1).2.2.2.1,trivial⟩,?_⟩;have e1:[u.hash].flatten=u.hash:=(by simp);rw[e1,qg (je _) hf1.hash,aa,dC];refine⟨fun h=>?_,fun h=>?_⟩
     ·rw[if_pos ⟨hk2,h⟩]at hQ;exact hQ _ s40.ch
     ·rw[if_neg (fun hh=>hh.2 h)]at hQ;exact hQ _ s40.ch
    ·rw[if_neg (fun hh=>hk2 hh.1)]at hQ;exact hQ _ s30.ch
end
end Go.Esc.M
namespace Go.Esc.M
open Go Go.Esc
section
variable {F0:List AId}{G0 G:ak}{ps:List LP}{Q:ah->ak->Prop}
theorem fa.use {v w:ah}{mine others:List aL}{u:aL}(hl:ff 36 G v (mine.map aL.av)) (ho:ff 36 G w (others.map aL.av)) (hok:∀ u∈mine,u.ok) (hok2:∀ u∈others,u.ok) (hlen:mine.length≤9223372036854775807) (hlen2:others.length≤9223372036854775807) (hu:u.ok)
  (hQ:∀ G',Ch [] G [] G'->Q (.int .i64 (kJ mine others u)) G'):al P fa.n [v,w,u.av] G Q:=by
 refine fa.sound ?_;unfold fa.S;rw[Dq];intro i1 f1;have s1:=(Sp.nil G).row f1 u.av;refine ae (dh (hl.ch' s1.ch)) ?_;unfold kJ at hQ;rw[fI,aa,aI];refine⟨fun h=>?_,fun h=>?_⟩
 ·rw[if_pos (by omega)]at hQ;exact hQ _ s1.ch
 rw[if_neg (by omega)]at hQ;refine ae (bF (i:=0) s1 rfl hu).2.2.2.2.2 ?_;refine dz.use hu fun G7 c7=>?_;have s7:=s1.tmp c7;rw[dx,aa];cases hv:dp u with
 | false=>
  rw[if_pos hv]at hQ;exact hQ _ s7.ch
 | true=>
  rw[if_neg (by rw[hv];decide)]at hQ;rw[Bool.not_true,aK];refine ae (bF (i:=0) s7 rfl hu).1 ?_;rw[bB,aa,aI];refine⟨fun hk1=>?_,fun hk1=>?_⟩
  ·rw[if_pos hk1]at hQ;refine ae (bF (i:=0) s7 rfl hu).2.1 ?_;refine gg.use (hl.ch' s7.ch) hlen ?_;refine⟨⟨(bF (i:=0) s7 rfl hu).2.1,trivial⟩,?_⟩;rw[cD,aa,dC];exact⟨fun h=>by rw[if_neg h]at hQ;exact hQ _ s7.ch,fun h=>by rw[if_pos h]at hQ;exact hQ _ s7.ch⟩
  rw[if_neg hk1]at hQ;refine ae (bF (i:=0) s7 rfl hu).2.1 ?_;refine gf.use (ho.ch' s7.ch) hok2 hlen2 fun G17 c17=>?_;have s17:=s7.tmp c17;have hf1:=lT (rm:=false) (id:=u.id) hok2;have hf2:=lT (rm:=true) (id:=u.id) hok;rw[z6,aa,zZ,aa];obtain⟨A,hA⟩:∃ A,A=ey false u.id others:=⟨_,rfl⟩;obtain⟨B,hB⟩:∃ A,A=ey true u.id mine:=⟨_,rfl⟩;rw[<- hA]at hf1 hQ ⊢;rw[<- hB]at hf2 hQ;intro i20 f20;have s20:=s17.row f20 aL.zero.av;refine jY (i:=0) s20 rfl aL.bq hf1 fun G22 s22=>?_;refine ae (bF (i:=1) s22 rfl hu).2.1 ?_;refine dZ.use (hl.ch' s22.ch) hok hlen fun G25 c25=>?_;have s25:=s22.tmp c25;rw[<- hB,z6,aa,zZ,aa];intro i28 f28;have s28:=s25.row f28 aL.zero.av;refine jY (i:=0) s28 rfl aL.bq hf2 fun G30 s30=>?_;have s30:Sp [] G [au i28 (B.getD aL.zero).av,au i20 (A.getD aL.zero).av,au i1 u.av] G30:=s30;intro J46;have bad:kJ mine others u=120->J46 (.bool true) G30:=by
   intro h;simp -zeta only [J46,aN];have:=hQ _ s30.ch;unfold kJ at h;rw[if_neg (by omega),if_neg (by rw[hv];decide),if_neg hk1,<- hA,<- hB]at h
   rwa [h]at this
  have hnx:kJ mine others u=if A.isSome=false then 120 else if B.isSome then 120 else if u.kind=2/\sha u.hash≠(A.getD aL.zero).hash then 120 else 0:=by
   unfold kJ;rw[if_neg (by omega),if_neg (by rw[hv];decide),if_neg hk1,<- hA,<- hB]
  rw[dx,aa];cases hAs:A.isSome with
  | false=>
   rw[if_pos hAs]at hnx;rw[Bool.not_false,aN];exact bad hnx
  | true=>
   rw[if_neg (by rw[hAs];decide)]at hQ hnx;rw[Bool.not_true,aK];cases hBs:B.isSome with
   | true=>
    rw[if_pos hBs]at hnx;exact bad hnx
   | false=>
    rw[if_neg (by rw[hBs];decide)]at hQ;simp -zeta only [J46,aK];refine ae (bF (i:=2) s30 rfl hu).1 ?_;rw[bB,aa,aI];refine⟨fun hk2=>?_,fun hk2=>?_⟩
    ·obtain⟨x,hx,hxs⟩:=BH hu (au.own (i:=2) s30 rfl);refine ae hx ?_;refine ae (km (si:=fJ) (ie:=gi) (di:=iO) eC rfl cW rfl fS rfl hxs) ?_;refine ae (bF (i:=1) s30 rfl hf1).2.2.2.1 ?_;refine CW s30 fun v37 G38 s38=>?_;have hh:=hu.hash;refine fO.use (xs:=[u.hash]) (bm.own (i:=0) s38 rfl).is (by simp) (by simp;omega) fun G40 c40=>?_;have s40:=s38.tmp c40;refine⟨⟨(bF (i:=2) s40 rfl hf1).2.2.2.1,trivial⟩,?_⟩;have e1:[u.hash].flatten=u.hash:=(by simp);rw[e1,qg (je _) hf1.hash,aa,dC];refine⟨fun h=>?_,fun h=>?_⟩
     ·rw[if_pos ⟨hk2,h⟩]at hQ;exact hQ _ s40.ch
     ·rw[if_neg (fun hh=>hh.2 h)]at hQ;exact hQ _ s40.ch
    ·rw[if_neg (fun hh=>hk2 hh.1)]at hQ;exact hQ _ s30.ch
theorem nW {l:List aL}(h:∀ p∈l,p.ok):Esc.uni 36 (l.map aL.av)=true/\mz (l.map aL.av)=true:=by
 refine⟨by simp only[Esc.uni,List.all_map,List.all_eq_true];intro p hp;simp[aL.sz (h p hp)],?_⟩;induction l with
 | nil=>rfl
 | cons p l ih=>simp[mz,aL.okv,ih (fun p hp=>h p (by simp[hp]))]
end
end Go.Esc.M
namespace Go.Esc.M
open Go Go.Esc
end Go.Esc.M
namespace Go.Esc.M
open Go Go.Esc
def Lo (u:aL) (t:Bool) (b:aL):Bool:=if b.kind=1/\b.id=u.id then decide (u.kind=3) || decide (sha u.hash=b.hash) else t
def Ln (u:aL) (B:List aL):Bool:=B.foldl (Lo u) false
def J2 (A B:List aL):Prop:=∀ i u,A[i]?=some u->if u.kind=1 then u.id=((oQ (A.take i):Nat):Int) else Ln u B=true/\∀ k v,k<i->A[k]?=some v->v.kind≠1->v.id≠u.id
theorem Ep {u:aL}(h:dp u=true):u.kind=1\/u.kind=2\/u.kind=3:=by
 obtain⟨_,_,hk⟩:=lW h;omega
theorem AB {A:List aL}{id:Int}(hv:∀ a∈A,dp a=true) (h:(ey true id A).isSome=false):∀ a∈A,a.kind≠1->a.id≠id:=by
 intro a ha hk e;unfold ey at h;rw[Option.isSome_eq_false_iff,Option.isNone_iff_eq_none,List.find?_eq_none]at h;refine h a ha ?_;unfold uE;rw[dT_ e];rcases Ep (hv a ha) with h1|h1|h1
 ·exact absurd h1 hk
 ·simp[h1]
 ·simp[h1]
theorem sv {B:List aL}{id:Int}(h:(ey false id B).isSome=true):∃ b,ey false id B=some b/\b∈B/\b.kind=1/\b.id=id:=by
 obtain⟨b,hb⟩:=Option.isSome_iff_exists.1 h;refine⟨b,hb,List.mem_of_find?_eq_some hb,?_⟩;have:=List.find?_some hb;unfold uE at this;simp only[cond_false,Bool.and_eq_true,decide_eq_true_eq]at this;exact⟨this.2,this.1⟩
theorem nG {A O:List aL}{u:aL}(h:kJ A O u=0):dp u=true/\(u.kind=1->u.id=(oQ A:Nat))/\(u.kind≠1->(ey false u.id O).isSome=true/\(ey true u.id A).isSome=false/\¬ (u.kind=2/\sha u.hash≠((ey false u.id O).getD aL.zero).hash)):=by
 unfold kJ at h;split at h
 ·cases h
 split at h
 ·cases h
 rename_i hv;have hv:dp u=true:=by simpa using hv
 split at h
 ·rename_i hk;split at h
  ·rename_i hid;exact⟨hv,fun _=>hid,fun hn=>absurd hk hn⟩
  ·cases h
 rename_i hk;split at h
 ·cases h
 rename_i h1;split at h
 ·cases h
 rename_i h2;split at h
 ·cases h
 rename_i h3;exact⟨hv,fun hn=>absurd hn hk,fun _=>⟨(Bool.not_eq_false _).mp h1,(Bool.not_eq_true _).mp h2,h3⟩⟩
theorem J2.nil (B:List aL):J2 [] B:=fun i u h=>by simp at h
def Lb (A:List aL) (id:Int):Bool:=A.any fun a=>!decide (a.kind=1) && decide (a.id=id)
theorem FI {A:List aL}{id:Int}(hv:∀ a∈A,dp a=true):Lb A id=(ey true id A).isSome:=by
 cases h:(ey true id A).isSome with
 | false=>
  refine List.any_eq_false.2 fun a ha=>?_;have:=AB hv h a ha;by_cases hk:a.kind=1
  ·simp[hk]
  ·simp[hk,this hk]
 | true=>
  obtain⟨b,hb⟩:=Option.isSome_iff_exists.1 h;refine List.any_eq_true.2 ⟨b,List.mem_of_find?_eq_some hb,?_⟩;have:=List.find?_some hb;unfold uE at this;simp only[cond_true,Bool.and_eq_true,Bool.or_eq_true,decide_eq_true_eq]at this;have hk:b.kind≠1:=by omega
  simp[hk,this.1]
end Go.Esc.M
namespace Go.Esc.M
open Go Go.Esc
section
variable {F0:List AId}{G0 G:ak}{ps:List LP}{Q:ah->ak->Prop}
theorem MK {v:ah}{l:List aL}{j:Nat}{p:aL}(h:ff 36 G v (l.map aL.av)) (hj:l[j]?=some p) :
  ∃ a b,aO T aj v (.int .i64 (j:Int))=some a/\bt T aG a 1=some b/\ag T G aq b=some (.int .i64 p.id):=
 jZ h hj (f:=1) rfl cu (by decide) rfl rfl rfl
theorem Mq {v:ah}{l:List aL}{j:Nat}{p:aL}(h:ff 36 G v (l.map aL.av)) (hj:l[j]?=some p) :
  ∃ a b,aO T aj v (.int .i64 (j:Int))=some a/\bt T aG a 0=some b/\ag T G ay b=some (.int .i64 p.kind):=
 jZ h hj (f:=0) rfl iD (by decide) rfl rfl rfl
end
end Go.Esc.M
namespace Go.Esc.M
open Go Go.Esc
theorem IX (a:Int) {t:TypeId}{T:Tbl}:az T .shr t (.int .i64 a) (.int .u64 30)=some (.int .i64 (a/1073741824)):=by
 rw[nB _ _ _ _ _ _ (by decide)];have h1:min (30:Int).toNat IntKind.i64.bits=30:=by decide
 have h2:(2:Int) ^ 30=1073741824:=by decide
 rw[h1,h2,Int.fdiv_eq_ediv_of_nonneg _ (by decide)]
theorem JY (a:Int) {t:TypeId}{T:Tbl}:az T .and t (.int .i64 a) (.int .i64 1073741823)=some (.int .i64 (a % 1073741824)):=by
 have:=EM a 30 (by decide);have e1:((2 ^ 30-1:Nat):Int)=1073741823:=by decide
 have e2:((2 ^ 30:Nat):Int)=1073741824:=by decide
 rw[e1,e2]at this;rw[sY,this]
theorem MF {x y:Nat}(hx:x≤1073741824) (hy:y<1073741824) {t:TypeId}{T:Tbl}:az T .or t (.int .i64 ((x*1073741824:Nat):Int)) (.int .i64 (y:Int))=some (.int .i64 ((x*1073741824+y:Nat):Int)):=by
 have hb:IntKind.i64.bits=64:=rfl;have e64:∀ z:Nat,(BitVec.ofInt 64 (z:Int)).toNat=z % 2 ^ 64:=fun z=>by rw[BitVec.ofInt_natCast,BitVec.toNat_ofNat]
 have hor:2 ^ 30*x+y=2 ^ 30*x ||| y:=Nat.two_pow_add_eq_or_of_lt hy x;have e30:(2:Nat) ^ 30=1073741824:=by decide
 have e64':(2:Nat) ^ 64=18446744073709551616:=by decide
 rw[e30,Nat.mul_comm]at hor;have hx2:x*1073741824<18446744073709551616:=by omega
 have hy2:y<18446744073709551616:=by omega
 rw[Gp,hb,BitVec.toNat_or,e64,e64,e64',Nat.mod_eq_of_lt hx2,Nat.mod_eq_of_lt hy2,<- hor,i64_in (by omega) (by omega)]
theorem Mg {x:Nat}(hx:x≤1073741824) {t:TypeId}{T:Tbl}:az T .shl t (.int .i64 (x:Int)) (.int .u64 30)=some (.int .i64 ((x*1073741824:Nat):Int)):=by
 rw[zv _ _ _ _ _ _ (by decide)];have h1:min (30:Int).toNat IntKind.i64.bits=30:=by decide
 have h2:(2:Int) ^ 30=1073741824:=by decide
 rw[h1,h2,i64_in (by omega) (by omega)];congr 2
structure Wd (n:Nat) (u l:Int):Prop where
 u1:-((n:Int)*1073741824)≤u
 u2:u≤(n:Int)*1073741824
 l1:-((n:Int)*1073741824)≤l
 l2:l≤(n:Int)*1073741824
def oD (u l:Int):Int:=u*1073741824+l
def nC (t:Int):Int:=if t<0 then -1 else if t<1152921505680588800 then t else 1152921504606846977
def AJ (t:Int):Int:=if t<0 then 0 else if t<1152921504606846976 then t else 1152921504606846976
def amt (a:Int):Prop:=0≤a/\a≤1152921504606846976
section
variable {F0:List AId}{G0 G:ak}{ps:List LP}{Q:ah->ak->Prop}
theorem dj {T':TypeId}{ti:TI}{id:AId}{a b:Int}(hg:G id=some (.own (bE a b))) (hT:T T'=some ti) (hf:dD ti (bE a b)=true) :
  ag T G aq (.ptr id [0] 0)=some (.int .i64 a)/\ag T G aq (.ptr id [1] 1)=some (.int .i64 b)/\ag T G T' (.ptr id [] 0)=some (bE a b):=
 ⟨dI (c:=.int .i64 a) hg rfl rfl rfl cu rfl,dI (c:=.int .i64 b) hg rfl rfl rfl cu rfl,cj hT hg hf⟩
theorem AP (a b:Int):bj T bO [(0,.int .i64 a),(1,.int .i64 b)]=some (bE a b):=rfl
theorem Gg:kb=bE 0 0:=rfl
theorem k7 {i:Nat}{id:AId}{a b c d:Int}(hs:Sp F0 G0 ps G) (hi:ps[i]?=some (au id (bE a b))) {K:ak->Prop}(hK:∀ G',Sp F0 G0 (ps.set i (au id (bE c d))) G'->K G'):wg (aF T G bO (.ptr id [] 0) (bE c d)) K:=by
 refine fg (ig dT (au.own hs hi) rfl rfl rfl) ?_;exact hK _ (Sp.setRow hs hi _)
theorem cS.use {n:Nat}{u l a:Int}(hw:Wd n u l) (hn:n≤1073741824) (ha:amt a) (hQ:∀ u' l' G',Ch [] G [] G'->Wd (n+1) u' l'->oD u' l'=oD u l+a->Q (bE u' l') G'):al P cS.n [bE u l,.int .i64 a] G Q:=by
 refine cS.sound ?_;unfold cS.S;rw[Gg];obtain⟨h1,h2,h3,h4⟩:=hw;obtain⟨h5,h6⟩:=ha;intro i1 f1;have s1:=(Sp.nil G).row f1 (bE u l);intro i3 f3;have s3:=s1.row f3 (bE 0 0);obtain⟨l1,l2,_⟩:=dj (au.own (i:=1) s3 rfl) dT rfl;refine ae l1 ?_;refine ae (IX a) ?_;rw[bg,i64_in (by omega) (by omega),aa];refine ae l2 ?_;refine ae (JY a) ?_;rw[bg,i64_in (by omega) (by omega),aa];refine ae (AP _ _) ?_;refine k7 (i:=0) s3 rfl fun G12 s12=>?_;refine ae (dj (au.own (i:=0) s12 rfl) dT rfl).2.2 ?_;exact hQ _ _ _ s12.ch ⟨by omega,by omega,by omega,by omega⟩ (by unfold oD;omega)
theorem ed.use {n:Nat}{u l a:Int}(hw:Wd n u l) (hn:n≤1073741824) (ha:amt a) (hQ:∀ u' l' G',Ch [] G [] G'->Wd (n+1) u' l'->oD u' l'=oD u l-a->Q (bE u' l') G'):al P ed.n [bE u l,.int .i64 a] G Q:=by
 refine ed.sound ?_;unfold ed.S;rw[Gg];obtain⟨h1,h2,h3,h4⟩:=hw;obtain⟨h5,h6⟩:=ha;intro i1 f1;have s1:=(Sp.nil G).row f1 (bE u l);intro i3 f3;have s3:=s1.row f3 (bE 0 0);obtain⟨l1,l2,_⟩:=dj (au.own (i:=1) s3 rfl) dT rfl;refine ae l1 ?_;refine ae (IX a) ?_;rw[b7,i64_in (by omega) (by omega),aa];refine ae l2 ?_;refine ae (JY a) ?_;rw[b7,i64_in (by omega) (by omega),aa];refine ae (AP _ _) ?_;refine k7 (i:=0) s3 rfl fun G12 s12=>?_;refine ae (dj (au.own (i:=0) s12 rfl) dT rfl).2.2 ?_;exact hQ _ _ _ s12.ch ⟨by omega,by omega,by omega,by omega⟩ (by unfold oD;omega)
theorem dy.use {n:Nat}{u l:Int}(hw:Wd n u l) (hn:n≤1073741824) (hQ:∀ G',Ch [] G [] G'->Q (.int .i64 (nC (oD u l))) G'):al P dy.n [bE u l] G Q:=by
 refine dy.sound ?_;unfold dy.S;obtain⟨h1,h2,h3,h4⟩:=hw;intro i1 f1;have s1:=(Sp.nil G).row f1 (bE u l);obtain⟨l1,l2,_⟩:=dj (au.own (i:=0) s1 rfl) dT rfl;refine ae l1 ?_;refine ae l2 ?_;refine ae (IX l) ?_;rw[bg,i64_in (by omega) (by omega),aa];have hQ:=hQ _ s1.ch;have ht:oD u l=(u+l/1073741824)*1073741824+l % 1073741824:=by unfold oD;omega
 unfold nC at hQ;rw[aM,aa,aI];refine⟨fun h=>?_,fun h=>?_⟩
 ·rw[if_pos (by omega)]at hQ;exact hQ
 rw[if_neg (by omega)]at hQ;rw[da,aa,aI];refine⟨fun h2=>?_,fun h2=>?_⟩
 ·rw[if_neg (by omega)]at hQ;exact hQ
 rw[if_pos (by omega)]at hQ;obtain⟨x,hx⟩:∃ x:Nat,u+l/1073741824=(x:Int):=⟨(u+l/1073741824).toNat,by omega⟩;obtain⟨y,hy⟩:∃ y:Nat,l % 1073741824=(y:Int):=⟨(l % 1073741824).toNat,by omega⟩;rw[hx]at ht h h2 ⊢;rw[hy]at ht;refine ae (Mg (by omega)) ?_;refine ae l2 ?_;refine ae (JY l) ?_;rw[hy];refine ae (MF (by omega) (by omega)) ?_;have:((x*1073741824+y:Nat):Int)=oD u l:=by rw[ht];omega
 rw[this];exact hQ
theorem y4:jn=bE 0 0:=rfl
theorem pJ (a b:Int):bj T aZ [(0,.int .i64 a),(1,.int .i64 b)]=some (bE a b):=rfl
theorem kc {i:Nat}{id:AId}{a b c d:Int}(hs:Sp F0 G0 ps G) (hi:ps[i]?=some (au id (bE a b))) {K:ak->Prop}(hK:∀ G',Sp F0 G0 (ps.set i (au id (bE c d))) G'->K G'):wg (aF T G aZ (.ptr id [] 0) (bE c d)) K:=by
 refine fg (ig ck (au.own hs hi) rfl rfl rfl) ?_;exact hK _ (Sp.setRow hs hi _)
theorem zQ {i:Nat}{id:AId}{a b d:Int}(hs:Sp F0 G0 ps G) (hi:ps[i]?=some (au id (bE a b))) {K:ak->Prop}(hK:∀ G',Sp F0 G0 (ps.set i (au id (bE a d))) G'->K G'):wg (aF T G aq (.ptr id [1] 1) (.int .i64 d)) K:=by
 refine fg (mG (c:=.int .i64 d) (u:=.int .i64 b) (au.own hs hi) rfl rfl cu rfl rfl rfl) ?_;exact hK _ (Sp.setRow hs hi _)
def wdR (t:Int):ah:=bE (t/1152921504606846976) (t % 1152921504606846976)
def small (t:Int):Prop:=-1329227995784915872903807060280344576≤t/\t≤1329227995784915872903807060280344576
theorem dO.use {t a:Int}(ht:small t) (ha:amt a) (hQ:∀ G',Ch [] G [] G'->Q (wdR (t+a)) G'):al P dO.n [wdR t,.int .i64 a] G Q:=by
 refine dO.sound ?_;unfold dO.S;rw[y4];obtain⟨h1,h2⟩:=ht;obtain⟨h5,h6⟩:=ha;unfold wdR at hQ ⊢;obtain⟨U,hU⟩:∃ U,U=t/1152921504606846976:=⟨_,rfl⟩;obtain⟨R,hR⟩:∃ R,R=t % 1152921504606846976:=⟨_,rfl⟩;rw[<- hU,<- hR];have hR1:0≤R/\R<1152921504606846976:=by omega
 have hU1:-1152921504606846977≤U/\U≤1152921504606846977:=by omega
 have htt:t=U*1152921504606846976+R:=by omega
 intro i1 f1;have s1:=(Sp.nil G).row f1 (bE U R);intro i3 f3;have s3:=s1.row f3 (bE 0 0);have fin:∀ (c d:Int) (G':ak) (ps:List LP),Sp [] G (au i3 (bE 0 0)::ps) G'->(t+a)/1152921504606846976=c->(t+a) % 1152921504606846976=d->wg (aF T G' aZ (.ptr i3 [] 0) (bE c d)) fun G10=>wv (ag T G10 aZ (.ptr i3 [] 0)) fun v11=>Q v11 G10:=by
  intro c d G' ps s hc hd;refine kc (i:=0) s rfl fun G10 s10=>?_;refine ae (dj (au.own (i:=0) s10 rfl) ck rfl).2.2 ?_;rw[hc,hd]at hQ;exact hQ _ s10.ch
 obtain⟨l1,l2,_⟩:=dj (au.own (i:=1) s3 rfl) ck rfl;rw[bB,aa,aI];refine⟨fun h=>?_,fun h=>?_⟩
 ·refine ae l1 ?_;rw[bg,i64_in (by omega) (by omega),aa];refine ae l2 ?_;refine ae (pJ _ _) ?_;exact fin _ _ _ _ s3 (by omega) (by omega)
 ·refine ae l2 ?_;rw[bg,i64_in (by omega) (by omega),aa];refine zQ (i:=1) s3 rfl fun G14 s14=>?_;obtain⟨k1,k2,k3⟩:=dj (au.own (i:=1) s14 rfl) ck rfl;refine ae k2 ?_;rw[fI,aa,aI];refine⟨fun h=>?_,fun h=>?_⟩
  ·refine ae k1 ?_;rw[bg,i64_in (by omega) (by omega),aa];refine ae k2 ?_;rw[b7,i64_in (by omega) (by omega),aa];refine ae (pJ _ _) ?_;exact fin _ _ _ _ s14 (by omega) (by omega)
  ·refine ae k3 ?_;exact fin _ _ _ _ s14 (by omega) (by omega)
theorem ek.use {t a:Int}(ht:small t) (ha:amt a) (hQ:∀ G',Ch [] G [] G'->Q (wdR (t-a)) G'):al P ek.n [wdR t,.int .i64 a] G Q:=by
 refine ek.sound ?_;unfold ek.S;rw[y4];obtain⟨h1,h2⟩:=ht;obtain⟨h5,h6⟩:=ha;unfold wdR at hQ ⊢;obtain⟨U,hU⟩:∃ U,U=t/1152921504606846976:=⟨_,rfl⟩;obtain⟨R,hR⟩:∃ R,R=t % 1152921504606846976:=⟨_,rfl⟩;rw[<- hU,<- hR];have hR1:0≤R/\R<1152921504606846976:=by omega
 have hU1:-1152921504606846977≤U/\U≤1152921504606846977:=by omega
 have htt:t=U*1152921504606846976+R:=by omega
 intro i1 f1;have s1:=(Sp.nil G).row f1 (bE U R);intro i3 f3;have s3:=s1.row f3 (bE 0 0);have fin:∀ (c d:Int) (G':ak) (ps:List LP),Sp [] G (au i3 (bE 0 0)::ps) G'->(t-a)/1152921504606846976=c->(t-a) % 1152921504606846976=d->wg (aF T G' aZ (.ptr i3 [] 0) (bE c d)) fun G10=>wv (ag T G10 aZ (.ptr i3 [] 0)) fun v11=>Q v11 G10:=by
  intro c d G' ps s hc hd;refine kc (i:=0) s rfl fun G10 s10=>?_;refine ae (dj (au.own (i:=0) s10 rfl) ck rfl).2.2 ?_;rw[hc,hd]at hQ;exact hQ _ s10.ch
 obtain⟨l1,l2,_⟩:=dj (au.own (i:=1) s3 rfl) ck rfl;rw[bB,aa,aI];refine⟨fun h=>?_,fun h=>?_⟩
 ·refine ae l1 ?_;rw[b7,i64_in (by omega) (by omega),aa];refine ae l2 ?_;refine ae (pJ _ _) ?_;exact fin _ _ _ _ s3 (by omega) (by omega)
 ·refine ae l2 ?_;rw[b7,i64_in (by omega) (by omega),aa];refine zQ (i:=1) s3 rfl fun G14 s14=>?_;obtain⟨k1,k2,k3⟩:=dj (au.own (i:=1) s14 rfl) ck rfl;refine ae k2 ?_;rw[aM,aa,aI];refine⟨fun h=>?_,fun h=>?_⟩
  ·refine ae k1 ?_;rw[b7,i64_in (by omega) (by omega),aa];refine ae k2 ?_;rw[bg,i64_in (by omega) (by omega),aa];refine ae (pJ _ _) ?_;exact fin _ _ _ _ s14 (by omega) (by omega)
  ·refine ae k3 ?_;exact fin _ _ _ _ s14 (by omega) (by omega)
theorem fM.use {t:Int}(ht:small t) (hQ:∀ G',Ch [] G [] G'->Q (.int .i64 (AJ t)) G'):al P fM.n [wdR t] G Q:=by
 refine fM.sound ?_;unfold fM.S;unfold wdR;obtain⟨U,hU⟩:∃ U,U=t/1152921504606846976:=⟨_,rfl⟩;obtain⟨R,hR⟩:∃ R,R=t % 1152921504606846976:=⟨_,rfl⟩;rw[<- hU,<- hR];intro i1 f1;have s1:=(Sp.nil G).row f1 (bE U R);obtain⟨l1,l2,_⟩:=dj (au.own (i:=0) s1 rfl) ck rfl;have hQ:=hQ _ s1.ch;unfold AJ at hQ;refine ae l1 ?_;rw[aM,aa,aI];refine⟨fun h=>?_,fun h=>?_⟩
 ·rw[if_pos (by omega)]at hQ;exact hQ
 rw[if_neg (by omega)]at hQ;refine ae l1 ?_;rw[da,aa,aI];refine⟨fun h2=>?_,fun h2=>?_⟩
 ·rw[if_neg (by omega)]at hQ;exact hQ
 rw[if_pos (by omega)]at hQ;refine ae l2 ?_;have e:ah.int .i64 R=.int .i64 t:=by
  have:R=t:=by omega
  rw[this]
 rw[e];exact hQ
end
end Go.Esc.M
namespace Go.Esc
open Go Go.RowKit
theorem hJ.gZ {n:Nat}{G:ak}{v:ah}{vs:List ah}(h:hJ n G v vs):ff n G v vs:=by
 rcases h with ⟨id,p,st,off,len,cap,rfl,_,h⟩|h
 ·exact .inl ⟨_,_,_,_,_,_,rfl,h⟩
 ·exact .inr h
theorem hJ.mv {n:Nat}{G G':ak}{E:List AId}{v:ah}{vs:List ah}(h:hJ n G v vs) (hc:Ch [] G E G'):hJ n G' v vs:=by
 rcases h with ⟨id,p,st,off,len,cap,rfl,hl,h⟩|h
 ·refine .inl ⟨_,_,_,_,_,_,rfl,hl,pO (fun j o hj=>hc.others j o hj (by simp)) h⟩
 ·exact .inr h
theorem hJ.take {T:Tbl}{t e:TypeId}{i ie:TI}(ht:T t=some i) (hd:i.desc=.slice e) (he:T e=some ie) {G:ak}{v:ah}{vs:List ah}(h:hJ ie.size G v vs) {k:IntKind}{m:Nat}{x:Int}(hx:x=(m:Int)) (hm:m≤vs.length) :
  ∃ v',dV T t v none (some (.int k x)) none=some v'/\hJ ie.size G v' (vs.take m):=by
 subst hx;rcases h with ⟨id,p,st,off,len,cap,rfl,hlc,h⟩|⟨rfl,rfl⟩
 ·obtain⟨cs,h1,h0,h2,h3,rfl,harr⟩:=mY h;have hl:((cs.drop st).take len).length=len:=by rw[List.length_take,List.length_drop];omega
  rw[hl]at hm;refine⟨.slice id p st off m cap,?_,.inl ⟨id,p,st,off,m,cap,rfl,by omega,?_⟩⟩
  ·simp only[dV,ht,hd,he];rw[pH (by omega)];simp
  ·simp only[gq,harr];rw[if_pos (by omega),List.take_take,Nat.min_eq_left hm]
 ·simp at hm;subst hm;exact⟨.nilSlice,by simp[dV,ht,hd,he,j8,lH],.inr ⟨rfl,by simp⟩⟩
def nh (es:List (Int×Int)):List (ah×ah):=es.map fun p=>(.int .i64 p.1,.int .i64 p.2)
def oy:List (Int×Int)->Int->Option Int
 | [],_=>none
 | p::es,k=>if k=p.1 then some p.2 else oy es k
theorem uk (k:Int):∀ (es:List (Int×Int)) (i:Nat),match oy es k with
  | some v=>∃ j,oA (.int .i64 k) (nh es) i=some (some (j,.int .i64 v))
  | none=>oA (.int .i64 k) (nh es) i=some none
 | [],i=>rfl
 | p::es,i=>by
  unfold oy;by_cases h:k=p.1
  ·rw[if_pos h];exact⟨i,by simp[nh,oA,uI,h]⟩
  ·rw[if_neg h];have ih:=uk k es (i+1);have e:oA (.int .i64 k) (nh (p::es)) i=oA (.int .i64 k) (nh es) (i+1):=(by simp[nh,oA,uI,h]);rw[e];exact ih
theorem wc (k:Int):∀ (es:List (Int×Int)) (a v:Int),oy (es++[(a,v)]) k=match oy es k with
  | some x=>some x
  | none=>if k=a then some v else none
 | [],a,v=>rfl
 | p::es,a,v=>by
  have ih:=wc k es a v;simp only[List.cons_append,oy];by_cases h:k=p.1
  ·rw[if_pos h,if_pos h]
  ·rw[if_neg h,if_neg h,ih]
theorem yl (es:List (Int×Int)) (a v:Int):nh es++[(.int .i64 a,.int .i64 v)]=nh (es++[(a,v)]):=by simp[nh]
end Go.Esc
namespace Go.Esc.M
open Go Go.Esc
theorem tv0 (v:ah) (e:ah):aP (.tuple [v,e]) 0=some v:=rfl
theorem tv1 (v:ah) (e:ah):aP (.tuple [v,e]) 1=some e:=rfl
def m8 (id:Int) (u:aL):Bool:=decide (u.kind≠1) && (decide (u.id=id) && dp u)
def jH (id:Int):List aL->Int
 | []=>0
 | u::l=>if m8 id u=true then u.kind else jH id l
theorem sn {id:Int}{u:aL}(h:m8 id u=true):u.kind≠0:=by
 simp only[m8,Bool.and_eq_true,decide_eq_true_eq]at h;have:=(lW h.2.2).2.2;omega
theorem qE (id:Int):∀ (a b:List aL),jH id (a++b)=if jH id a=0 then jH id b else jH id a
 | [],b=>rfl
 | u::a,b=>by
  have ih:=qE id a b;by_cases h:m8 id u=true
  ·have hk:=sn h;have e1:jH id (u::(a++b))=u.kind:=if_pos h;have e2:jH id (u::a)=u.kind:=if_pos h;rw[List.cons_append,e1,e2,if_neg hk]
  ·have e1:jH id (u::(a++b))=jH id (a++b):=if_neg h;have e2:jH id (u::a)=jH id a:=if_neg h;rw[List.cons_append,e1,e2,ih]
theorem xt {id:Int}{l:List aL}{j:Nat}{u:aL}(h:l[j]?=some u):jH id (l.take (j+1))=if jH id (l.take j)=0 then (if m8 id u=true then u.kind else 0) else jH id (l.take j):=by
 rw[List.take_add_one,h,qE];rfl
def yW (x:Int):Option Int:=if x=0 then none else some x
def cw (l:List aL) (n:Int):List aL:=l.take n.toNat
theorem mu {l:List aL}{n:Int}(h:∀ u∈l,u.ok):∀ u∈cw l n,u.ok:=fun u hu=>h u (List.mem_of_mem_take hu)
theorem jU (l:List aL) (n:Int):(cw l n).length≤l.length:=by unfold cw;rw[List.length_take];omega
def ml (test:Int->Bool) (l:List aL):List Int:=(l.filter fun u=>decide (u.kind=1) && (dp u && test u.id)).map (·.amount)
theorem Ga {test:Int->Bool}{l:List aL}{j:Nat}{u:aL}(h:l[j]?=some u):ml test (l.take (j+1))=ml test (l.take j)++if decide (u.kind=1) && (dp u && test u.id) then [u.amount] else []:=by
 unfold ml;rw[List.take_add_one,h];simp only[Option.toList_some,List.filter_append,List.map_append];congr 1;simp only[List.filter_cons,List.filter_nil];split<;>rfl
theorem xU (test:Int->Bool) (l:List aL):(ml test l).length≤l.length:=by
 unfold ml;rw[List.length_map];exact List.length_filter_le _ _
theorem Cu {test:Int->Bool}{l:List aL}:∀ a∈ml test l,amt a:=by
 intro a ha;unfold ml at ha;obtain⟨u,hu,rfl⟩:=List.mem_map.1 ha;have hf:=(List.mem_filter.1 hu).2;simp only[Bool.and_eq_true,decide_eq_true_eq]at hf;have:=(lW hf.2.1).2.2;constructor<;>omega
section
variable {F0:List AId}{G0 G:ak}{ps:List LP}{Q:ah->ak->Prop}
theorem D3 {es:List (Int×Int)}{mid:AId}{k:Int}(hg:G mid=some (.map (nh es))):jg T G dU (.map mid) (.int .i64 k) false=some (.int .i64 ((oy es k).getD 0)):=by
 have hf:kY iZ.desc (.int .i64 k)=true:=rfl;have h:=uk k es 0;have hd:lQ.desc=.map aq ay:=rfl;have hz:nc.zero=.int .i64 0:=rfl;simp only[jg,lk,hd,cu,iD,hf,if_true,tB,hg];cases hl:oy es k with
 | none=>rw[hl]at h;rw[h];simp[hz]
 | some v=>rw[hl]at h;obtain⟨j,h⟩:=h;rw[h];simp
theorem HE {es:List (Int×Int)}{mid:AId}{k:Int}(hg:G mid=some (.map (nh es))):jg T G dU (.map mid) (.int .i64 k) true=some (.tuple [.int .i64 ((oy es k).getD 0),.bool (oy es k).isSome]):=by
 have hf:kY iZ.desc (.int .i64 k)=true:=rfl;have h:=uk k es 0;have hd:lQ.desc=.map aq ay:=rfl;have hz:nc.zero=.int .i64 0:=rfl;simp only[jg,lk,hd,cu,iD,hf,if_true,tB,hg];cases hl:oy es k with
 | none=>rw[hl]at h;rw[h];simp[hz]
 | some v=>rw[hl]at h;obtain⟨j,h⟩:=h;rw[h];simp
theorem gI.use {v:ah}{l:List aL}{n:Int}(hl:hJ 36 G v (l.map aL.av)) (hlen:l.length≤1048576) (hQ:∀ w,hJ 36 G w ((cw l n).map aL.av)->Q w G):al P gI.n [v,.int .i64 n] G Q:=by
 refine gI.sound ?_;unfold gI.S;refine ae (v:=.int .i64 (if n<0 then 0 else n)) rfl ?_;refine ae (dh hl.gZ) ?_;obtain⟨m,hm,hml,he⟩:∃ m:Nat,(if ((l.length:Nat):Int)<(if n<0 then 0 else n) then ((l.length:Nat):Int) else (if n<0 then 0 else n))=(m:Int)/\m≤l.length/\l.take m=cw l n:=by
  unfold cw;by_cases h0:n<0
  ·refine⟨0,?_,by omega,?_⟩
   ·rw[if_pos h0,if_neg (by omega)];rfl
   ·rw[show n.toNat=0 by omega]
  ·by_cases h1:((l.length:Nat):Int)<n
   ·refine⟨l.length,?_,by omega,?_⟩
    ·rw[if_neg h0,if_pos h1]
    ·rw[List.take_length,List.take_of_length_le (by omega)]
   ·refine⟨n.toNat,?_,by omega,rfl⟩;rw[if_neg h0,if_neg h1];omega
 refine ae (v:=.int .i64 (m:Int)) (by rw[<- hm];rfl) ?_;obtain⟨w,e1,e2⟩:=hJ.take (ie:=cG) (k:=.i64) (m:=m) bT rfl dE hl rfl (by rw[List.length_map];exact hml);refine ae e1 ?_;refine hQ w ?_;rw[<- he,List.map_take];exact e2
theorem dq.use {v:ah}{l:List aL}(hl:ff 36 G v (l.map aL.av)) (hok:∀ u∈l,u.ok) (hlen:l.length≤1048576)
  (hQ:∀ mid es G',(∀ id,oy es id=yW (jH id l))->Sp [] G [mo mid (nh es)] G'->Q (.map mid) G'):al P dq.n [v] G Q:=by
 refine dq.sound ?_;unfold dq.S;intro mid f1;have s1:=(Sp.nil G).new (p:=mo mid (nh [])) ⟨ak.dR _ _ _,rfl⟩ (Ch.new (o:=.map []) f1);refine ae (dh (hl.ch' s1.ch)) ?_;intro R hR;have loop:∀ (m j:Nat) (es:List (Int×Int)) (G':ak),l.length-j=m->j≤l.length->(∀ id,oy es id=yW (jH id (l.take j)))->Sp [] G [mo mid (nh es)] G'->R [.map mid,v,.int .i64 (l.length:Int),.int .i64 (j:Int)] G':=by
  intro m;induction m with
  | zero=>
   intro j es G' hm hj hes sp;refine hR _ _ _ _ _ ?_;rw[aM,aa,dF_ (by omega),aK];rw[List.take_of_length_le (by omega)]at hes;exact hQ _ _ _ hes sp
  | succ m ih=>
   intro j es G' hm hj hes sp;obtain⟨u,hu⟩:∃ u,l[j]?=some u:=⟨_,List.getElem?_eq_getElem (by omega)⟩;have huo:=hok u (List.mem_of_getElem? hu);refine hR _ _ _ _ _ ?_;rw[aM,aa,dT_ (by omega),aN];have ev:az T .add ay (.int .i64 (j:Int)) (.int .i64 1)=some (.int .i64 ((j+1:Nat):Int)):=by
    rw[bg,i64_in (by omega) (by omega)];rfl
   obtain⟨a,e1,e2⟩:=nD (hl.ch' sp.ch) hu;refine ae e1 ?_;refine ae e2 ?_;refine vX sp huo fun i13 G15 s15=>?_;obtain⟨l0,l1,l2,l3,l4,l5⟩:=bF (i:=0) s15 rfl huo;refine ae l1 ?_;refine ae (HE (mo.own (i:=1) s15 rfl)) ?_;refine ae (tv0 _ _) ?_;refine ae (tv1 _ _) ?_;intro J32;have skip:∀ G26,Sp [] G [au i13 u.av,mo mid (nh es)] G26->(m8 u.id u=false\/jH u.id (l.take j)≠0)->J32 (.bool false) G26:=by
    intro G26 s26 hno;simp -zeta only [J32,aK];refine ae ev (ih (j+1) es G26 (by omega) (by omega) (fun id=>?_) (s26.erase 0));rw[hes id,xt hu];congr 1;by_cases h0:jH id (l.take j)=0
    ·rw[if_pos h0,h0];by_cases hr:m8 id u=true
     ·have hid:u.id=id:=by
       simp only[m8,Bool.and_eq_true,decide_eq_true_eq]at hr;exact hr.2.1
      subst hid;rcases hno with hno|hno
      ·rw[hr]at hno;cases hno
      ·exact absurd h0 hno
     ·rw[if_neg hr]
    ·rw[if_neg h0]
   rw[dx,aa];have hlk:=hes u.id;by_cases h0:jH u.id (l.take j)=0
   ·rw[h0]at hlk;have hlk:oy es u.id=none:=hlk;rw[hlk];show brB (some (.bool true)) _ _;rw[aN];refine ae l0 ?_;rw[cD,aa];by_cases hk:u.kind=1
    ·rw[dT_ hk,Bool.not_true,aK];exact skip _ s15 (.inl (by simp[m8,hk]))
    ·rw[dF_ hk,Bool.not_false,aN];refine ae l5 ?_;refine gj.use huo fun G25 c25=>?_;have s25:=s15.tmp c25;cases hv:dp u with
     | false=>exact skip _ s25 (.inl (by simp[m8,hv]))
     | true=>
      simp -zeta only [J32,aN];obtain⟨k0,k1,_,_,_,_⟩:=bF (i:=0) s25 rfl huo;refine ae k1 ?_;refine ae k0 ?_;have hfd:=uk u.id es 0;rw[hlk]at hfd;refine CZ (T:=T) (i:=lQ) (r:=none) lk rfl cu (mo.own (i:=1) s25 rfl) rfl hfd ?_;have s30:=Sp.tV (j:=1) s25 rfl (nh (es++[(u.id,u.kind)]));rw[<- yl]at s30;refine ae ev (ih (j+1) (es++[(u.id,u.kind)]) _ (by omega) (by omega) (fun id=>?_) ?_)
      ·rw[wc,hes id,xt hu];by_cases hz:jH id (l.take j)=0
       ·rw[if_pos hz,hz];show (if id=u.id then some u.kind else none)=_;by_cases hid:id=u.id
        ·subst hid;have hr:m8 u.id u=true:=(by simp[m8,hk,hv]);rw[if_pos rfl,if_pos hr,yW,if_neg (sn hr)]
        ·have hr:m8 id u=false:=by
          have:¬ u.id=id:=fun h=>hid h.symm;simp[m8,this]
         rw[if_neg hid,hr];rfl
       ·rw[if_neg hz];unfold yW;rw[if_neg hz]
      ·rw[<- yl];exact s30.erase 0
   ·have hlk:oy es u.id=some (jH u.id (l.take j)):=(by rw[hlk,yW,if_neg h0]);rw[hlk];show brB (some (.bool false)) _ _;rw[aK];exact skip _ s15 (.inr h0)
 exact loop l.length 0 [] _ rfl (by omega) (fun id=>rfl) s1
end
end Go.Esc.M
