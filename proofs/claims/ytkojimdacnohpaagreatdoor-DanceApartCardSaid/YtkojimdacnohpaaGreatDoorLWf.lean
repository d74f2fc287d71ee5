import Derived.Test.YtkojimdacnohpaaGreatDoorLWa
import Derived.Test.YtkojimdacnohpaaGreatDoorLPw
import Derived.Test.YtkojimdacnohpaaGreatDoorLDc
import Derived.Test.YtkojimdacnohpaaGreatDoorLMo
import Derived.Test.YtkojimdacnohpaaGreatDoorLSd
import Derived.Test.YtkojimdacnohpaaGreatDoorLSe
set_option maxHeartbeats 16000000
set_option linter.unusedSimpArgs false
set_option linter.unusedVariables false
set_option maxRecDepth 20000
namespace Go.Esc.M
open Go Go.Esc
theorem zm (a b:Int):IntKind.i64.wrap (IntKind.i64.wrap a-b)=IntKind.i64.wrap (a-b):=by
 simp only[IntKind.wrap,IntKind.bits,IntKind.signed];simp;split<;>split<;>split<;>omega
theorem EY (a b:Int):IntKind.i64.wrap (IntKind.i64.wrap a+b)=IntKind.i64.wrap (a+b):=by
 have:=zm a (-b)
 rwa [Int.sub_neg,Int.sub_neg]at this
section
variable {F0:List AId}{G0 G:ak}{ps:List LP}{Q:ah->ak->Prop}
theorem cd.use {f:StF}{vo vp vh:ah}(h:ka G f vo vp vh) (hQ:∀ G',Ch [] G [] G'->Q (.bool (uO f.s)) G'):al P cd.n [f.s.av vo vp vh] G Q:=by
 have ho:=h.ok;have hl:=h.lv;refine cd.sound ?_;unfold cd.S;intro i1 f1;have s1:=(Sp.nil G).row f1 (f.s.av vo vp vh);have hg:=au.own (i:=0) s1 rfl;have hQ:=hQ _ s1.ch;unfold uO at hQ;refine ae (St.uf hg ho hl) ?_;rw[cD,aa];by_cases h1:f.s.failed=0
 ·rw[dT_ h1,Bool.not_true,Bool.false_or]at hQ;rw[dT_ h1,Bool.not_true,aK];refine ae (St.rz hg ho hl) ?_;rw[cD,aa];exact hQ
 ·rw[dF_ h1,Bool.not_false,Bool.true_or]at hQ;rw[dF_ h1,Bool.not_false,aN];exact hQ
theorem dN.use {f:StF}{vo vp vh:ah}(h:ka G f vo vp vh) (hQ:∀ G',Ch [] G [] G'->Q (.bool (yr f)) G'):al P dN.n [f.s.av vo vp vh] G Q:=by
 have ho:=h.ok;have hl:=h.lv;refine dN.sound ?_;unfold dN.S;intro i1 f1;have s1:=(Sp.nil G).row f1 (f.s.av vo vp vh);have hg:=au.own (i:=0) s1 rfl;have hQ:=hQ _ s1.ch;unfold yr at hQ;refine ae (St.dM hg ho hl) ?_;refine ae (dh (h.o.gZ.ch' s1.ch)) ?_;rw[fI,aa];by_cases h1:2048≤f.o.length
 ·rw[dT_ h1,Bool.true_or]at hQ;rw[dT_ (by omega),aN];exact hQ
 ·rw[dF_ h1,Bool.false_or]at hQ;rw[dF_ (by omega),aK];refine ae (St.dM hg ho hl) ?_;refine ae (dh (h.o.gZ.ch' s1.ch)) ?_;refine ae (St.qc hg ho hl) ?_;rw[b7,aa,fI,aa];exact hQ
theorem cg.use {f:StF}{vo vp vh:ah}(h:ka G f vo vp vh) (hQ:∀ G',Ch [] G [] G'->Q (bE (mM f.s) (mD f.s)) G'):al P cg.n [f.s.av vo vp vh] G Q:=by
 have ho:=h.ok;have hl:=h.lv;refine cg.sound ?_;unfold cg.S;intro i1 f1;have s1:=(Sp.nil G).row f1 (f.s.av vo vp vh);intro i3 f3;have zC:iP=bE 0 0:=rfl;rw[zC];have s3:=s1.row f3 (bE 0 0);revert s3;generalize ak.upd _ i3 _=G4;intro s3;have hg:=au.own (i:=1) s3 rfl;refine ae (St.Jr hg ho hl) ?_;refine ae (St.qc hg ho hl) ?_;refine ae (v:=.int .i64 (mM f.s)) rfl ?_;refine ae (St.od hg ho hl) ?_;refine ae (St.En hg ho hl) ?_;refine ae (v:=.int .i64 (mD f.s)) rfl ?_;refine ae (v:=bE (mM f.s) (mD f.s)) rfl ?_;refine fg (ig (c:=bE (mM f.s) (mD f.s)) cK (au.own (i:=0) s3 rfl) rfl rfl rfl) ?_;have s4:=Sp.setRow (j:=0) s3 rfl (bE (mM f.s) (mD f.s));refine ae (cj cK (au.own (i:=0) s4 rfl) rfl) ?_;exact hQ _ s4.ch
theorem bQ.use {v:ah}{l:List aL}{n:Int}(hl:hJ 36 G v (l.map aL.av)) (hlen:l.length≤1048576) (hQ:∀ w,hJ 36 G w ((cw l n).map aL.av)->Q w G):al P bQ.n [v,.int .i64 n] G Q:=by
 refine bQ.sound ?_;unfold bQ.S;have tk:∀ m:Nat,m≤l.length->l.take m=cw l n->∃ w,dV T aj v none (some (.int .i64 (m:Int))) none=some w/\hJ 36 G w ((cw l n).map aL.av):=by
  intro m hm he;obtain⟨w,e1,e2⟩:=hJ.take (ie:=cG) (k:=.i64) (m:=m) bT rfl dE hl rfl (by rw[List.length_map];exact hm);refine⟨w,e1,?_⟩;rw[<- he,List.map_take];exact e2
 unfold cw at tk hQ;rw[aM,aa,aI];refine⟨fun h0=>?_,fun h0=>?_⟩
 ·refine ae (dh hl.gZ) ?_;rw[da,aa,dF_ (by omega),aK];obtain⟨w,e1,e2⟩:=tk 0 (by omega) (by rw[show n.toNat=0 by omega]);refine ae e1 ?_;exact hQ w e2
 ·refine ae (dh hl.gZ) ?_;rw[da,aa,aI];refine⟨fun h1=>?_,fun h1=>?_⟩
  ·refine ae (dh hl.gZ) ?_;obtain⟨w,e1,e2⟩:=tk l.length (Nat.le_refl _) (by rw[List.take_length,List.take_of_length_le (by omega)]);refine ae e1 ?_;exact hQ w e2
  ·obtain⟨w,e1,e2⟩:=tk n.toNat (by omega) rfl;rw[Int.toNat_of_nonneg (by omega)]at e1;refine ae e1 ?_;exact hQ w e2
theorem cq.use {v:ah}{l:List aL}{id k:Int}(hl:ff 36 G v (l.map aL.av)) (hlen:l.length≤1048576) (hQ:Q (.bool (oL l id k)) G):al P cq.n [v,.int .i64 id,.int .i64 k] G Q:=by
 refine cq.sound ?_;unfold cq.S;intro R hR;have loop:∀ (n j:Nat),l.length-j=n->j≤l.length->oL (l.drop j) id k=oL l id k->R [v,.int .i64 id,.int .i64 k,.int .i64 (j:Int)] G:=by
  intro n;induction n with
  | zero=>
   intro j hn hj he;have:j=l.length:=(by omega);subst this;rw[List.drop_length]at he;refine hR _ _ _ _ _ ?_;refine ae (dh hl) ?_;rw[aM,aa,aI];refine⟨fun h=>absurd h (by omega),fun _=>?_⟩;rw[<- he]at hQ;exact hQ
  | succ n ih=>
   intro j hn hj he;obtain⟨u,hu⟩:∃ u,l[j]?=some u:=⟨_,List.getElem?_eq_getElem (by omega)⟩;obtain⟨a0,b0,ha0,hb0,hl0⟩:=jZ (f:=0) (o:=0) (tf:=ay) (fi:=nc) hl hu rfl iD (by decide) rfl rfl rfl;obtain⟨a1,b1,ha1,hb1,hl1⟩:=jZ (f:=1) (o:=1) (tf:=aq) (fi:=iZ) hl hu rfl cu (by decide) rfl rfl rfl;have hdr:l.drop j=u::l.drop (j+1):=by
    obtain⟨hx,rfl⟩:=List.getElem?_eq_some_iff.1 hu;exact List.drop_eq_getElem_cons hx
   have hrem:oL (l.drop j) id k=((decide (u.id=id) && (!decide (u.kind=1) && (decide (k=0) || decide (u.kind=k)))) || oL (l.drop (j+1)) id k):=(by rw[hdr];rfl);have next:(decide (u.id=id) && (!decide (u.kind=1) && (decide (k=0) || decide (u.kind=k))))=false->wv (az T .add ay (.int .i64 (j:Int)) (.int .i64 1)) fun v31=>R [v,.int .i64 id,.int .i64 k,v31] G:=by
    intro h;rw[h,Bool.false_or]at hrem;rw[bg,aa,i64_in (by omega) (by omega)];exact ih (j+1) (by omega) (by omega) (hrem▸he)
   have hit:(decide (u.id=id) && (!decide (u.kind=1) && (decide (k=0) || decide (u.kind=k))))=true->Q (.bool true) G:=by
    intro h;rw[h,Bool.true_or]at hrem;rw[<- he,hrem]at hQ;exact hQ
   refine hR _ _ _ _ _ ?_;refine ae (dh hl) ?_;rw[aM,aa,aI];refine⟨fun _=>?_,fun h=>absurd (by omega) h⟩;refine ae ha1 ?_;refine ae hb1 ?_;refine ae hl1 ?_;rw[bB,aa,aI];refine⟨fun hid=>?_,fun hid=>next (by rw[dF_ hid,Bool.false_and])⟩;refine ae ha0 ?_;refine ae hb0 ?_;refine ae hl0 ?_;rw[cD,aa,dC];refine⟨fun hk=>?_,fun hk=>next (by rw[dT_ hk];simp)⟩;rw[bB,aa,aI];refine⟨fun h0=>hit (by rw[dT_ hid,dF_ hk,dT_ h0];rfl),fun h0=>?_⟩;refine ae ha0 ?_;refine ae hb0 ?_;refine ae hl0 ?_;rw[bB,aa,aI];refine⟨fun h1=>hit (by rw[dT_ hid,dF_ hk,dT_ h1,Bool.or_true];rfl),fun h1=>next (by rw[dF_ h1,dF_ h0];simp)⟩
 exact loop _ 0 rfl (by omega) (by simp)
theorem eU.use {v:ah}{l:List aL}{id:Int}(hl:ff 36 G v (l.map aL.av)) (hok:∀ u∈l,u.ok) (hlen:l.length≤9223372036854775807) (hQ:∀ G',Ch [] G [] G'->Q (Ec (ey false id l)) G') :
  al P eU.n [v,.int .i64 id] G Q:=by
 refine eU.sound ?_;unfold eU.S;rw[Dq];intro i1 f1;have s1:=(Sp.nil G).row f1 aL.zero.av;revert s1;generalize ak.upd _ i1 (.own aL.zero.av)=G2;intro s1 R hR;have loop:∀ (n j:Nat),l.length-j=n->j≤l.length->ey false id (l.drop j)=ey false id l->R [v,.int .i64 id,.ptr i1 [] 0,.int .i64 (j:Int)] G2:=by
  intro n;induction n with
  | zero=>
   intro j hn hj he;have:j=l.length:=(by omega);subst this;rw[List.drop_length]at he;refine hR _ _ _ _ _ ?_;refine ae (dh (hl.ch' s1.ch)) ?_;rw[aM,aa,aI];refine⟨fun h=>absurd h (by omega),fun _=>?_⟩;rw[sF,aa];refine jY (i:=0) s1 rfl aL.bq aL.bq fun G2 s2=>?_;refine ae (bF (i:=0) s2 rfl aL.bq).2.2.2.2.2 ?_;have:=hQ _ s2.ch;rw[<- he]at this;exact this
  | succ n ih=>
   intro j hn hj he;obtain⟨u,hu⟩:∃ u,l[j]?=some u:=⟨_,List.getElem?_eq_getElem (by omega)⟩;have huo:=hok u (List.mem_of_getElem? hu);obtain⟨a,ha,hla⟩:=nD (hl.ch' s1.ch) hu;obtain⟨a0,b0,ha0,hb0,hl0⟩:=jZ (f:=0) (o:=0) (tf:=ay) (fi:=nc) (hl.ch' s1.ch) hu rfl iD (by decide) rfl rfl rfl;obtain⟨a1,b1,ha1,hb1,hl1⟩:=jZ (f:=1) (o:=1) (tf:=aq) (fi:=iZ) (hl.ch' s1.ch) hu rfl cu (by decide) rfl rfl rfl;have hdr:l.drop j=u::l.drop (j+1):=by
    obtain⟨hx,rfl⟩:=List.getElem?_eq_some_iff.1 hu;exact List.drop_eq_getElem_cons hx
   rw[hdr,ey,List.find?_cons]at he;have next:uE false id u=false->wv (az T .add ay (.int .i64 (j:Int)) (.int .i64 1)) fun v31=>R [v,.int .i64 id,.ptr i1 [] 0,v31] G2:=by
    intro h;rw[h]at he;rw[bg,aa,i64_in (by omega) (by omega)];exact ih (j+1) (by omega) (by omega) he
   unfold uE at next he
   refine hR _ _ _ _ _ ?_;refine ae (dh (hl.ch' s1.ch)) ?_;rw[aM,aa,aI];refine⟨fun _=>?_,fun h=>absurd (by omega) h⟩;refine ae ha0 ?_;refine ae hb0 ?_;refine ae hl0 ?_;rw[bB,aa,aI];refine⟨fun hk=>?_,fun hk=>next (by rw[cond_false,dF_ hk,Bool.and_false])⟩;refine ae ha1 ?_;refine ae hb1 ?_;refine ae hl1 ?_;rw[bB,aa,aI];refine⟨fun hid=>?_,fun hid=>next (by rw[dF_ hid,Bool.false_and])⟩;rw[cond_false,dT_ hid,dT_ hk]at he;refine ae ha ?_;refine ae hla ?_;refine jY (i:=0) s1 rfl aL.bq huo fun G2 s2=>?_;refine ae (bF (i:=0) s2 rfl huo).2.2.2.2.2 ?_;have:=hQ _ s2.ch;rw[<- he]at this;exact this
 exact loop _ 0 rfl (by omega) (by simp)
theorem fY.use {v:ah}{l:List aL}(hl:ff 36 G v (l.map aL.av)) (hlen:l.length≤1048576) (hQ:Q (.int .i64 ((j7 l:Nat):Int)) G):al P fY.n [v] G Q:=by
 refine fY.sound ?_;unfold fY.S;intro R hR;have loop:∀ (n j:Nat),l.length-j=n->j≤l.length->R [v,.int .i64 ((j7 (l.take j):Nat):Int),.int .i64 (j:Int)] G:=by
  intro n;induction n with
  | zero=>
   intro j hn hj;have:j=l.length:=(by omega);subst this;rw[List.take_length];refine hR _ _ _ _ ?_;refine ae (dh hl) ?_;rw[aM,aa,aI];exact⟨fun h=>absurd h (by omega),fun _=>hQ⟩
  | succ n ih=>
   intro j hn hj;obtain⟨u,hu⟩:∃ u,l[j]?=some u:=⟨_,List.getElem?_eq_getElem (by omega)⟩;obtain⟨a0,b0,ha0,hb0,hl0⟩:=jZ (f:=0) (o:=0) (tf:=ay) (fi:=nc) hl hu rfl iD (by decide) rfl rfl rfl;have hle:=tJ (l.take j);rw[List.length_take]at hle;have hst:j7 (l.take (j+1))=j7 (l.take j)+j7 [u]:=(by rw[List.take_add_one,hu,oR];rfl);refine hR _ _ _ _ ?_;refine ae (dh hl) ?_;rw[aM,aa,aI];refine⟨fun _=>?_,fun h=>absurd (by omega) h⟩;refine ae ha0 ?_;refine ae hb0 ?_;refine ae hl0 ?_;rw[bB,aa,aI];refine⟨fun hk=>?_,fun hk=>?_⟩
   ·have e1:j7 [u]=1:=(by simp[j7,hk]);rw[bg,i64_in (by omega) (by omega),aa,bg,i64_in (by omega) (by omega),aa];have:=ih (j+1) (by omega) (by omega);rw[hst,e1]at this;exact this
   ·have e1:j7 [u]=0:=(by simp[j7,hk]);rw[bg,i64_in (by omega) (by omega),aa];have:=ih (j+1) (by omega) (by omega);rw[hst,e1]at this;exact this
 exact loop _ 0 rfl (by omega)
theorem eT.use {v w:ah}{own other:List aL}(hl:ff 36 G v (own.map aL.av)) (ho:ff 36 G w (other.map aL.av)) (hlen:own.length≤1048576) (hlen2:other.length≤1048576) (hQ:Q (.int .i64 ((uL own other:Nat):Int)) G):al P eT.n [v,w] G Q:=by
 refine eT.sound ?_;unfold eT.S;intro R hR;have loop:∀ (n j:Nat),own.length-j=n->j≤own.length->R [v,w,.int .i64 ((uL (own.take j) other:Nat):Int),.int .i64 (j:Int)] G:=by
  intro n;induction n with
  | zero=>
   intro j hn hj;have:j=own.length:=(by omega);subst this;rw[List.take_length];refine hR _ _ _ _ _ ?_;refine ae (dh hl) ?_;rw[aM,aa,aI];exact⟨fun h=>absurd h (by omega),fun _=>hQ⟩
  | succ n ih=>
   intro j hn hj;obtain⟨u,hu⟩:∃ u,own[j]?=some u:=⟨_,List.getElem?_eq_getElem (by omega)⟩;obtain⟨a0,b0,ha0,hb0,hl0⟩:=jZ (f:=0) (o:=0) (tf:=ay) (fi:=nc) hl hu rfl iD (by decide) rfl rfl rfl;obtain⟨a1,b1,ha1,hb1,hl1⟩:=jZ (f:=1) (o:=1) (tf:=aq) (fi:=iZ) hl hu rfl cu (by decide) rfl rfl rfl;have hle:uL (own.take j) other≤j:=by
    unfold uL;refine Nat.le_trans (List.length_filter_le _ _) ?_;rw[List.length_take];omega
   have hst:uL (own.take (j+1)) other=uL (own.take j) other+if CV other u=true then 1 else 0:=by
    unfold uL;rw[List.take_add_one,hu,List.filter_append,List.length_append];congr 1;simp only[Option.toList_some,List.filter_cons,List.filter_nil];split<;>rfl
   unfold CV at hst;refine hR _ _ _ _ _ ?_;refine ae (dh hl) ?_;rw[aM,aa,aI];refine⟨fun _=>?_,fun h=>absurd (by omega) h⟩;intro J30;have go:∀ x:Int,x=((uL (own.take (j+1)) other:Nat):Int)->J30 (.int .i64 x) G:=by
    intro x hx;simp -zeta only [J30];rw[bg,i64_in (by omega) (by omega),aa,hx];exact ih (j+1) (by omega) (by omega)
   refine ae ha0 ?_;refine ae hb0 ?_;refine ae hl0 ?_;rw[bB,aa,aI];refine⟨fun hk=>?_,fun hk=>go _ (by rw[hst,dF_ hk,Bool.false_and];rfl)⟩;rw[dT_ hk,Bool.true_and]at hst;refine ae ha1 ?_;refine ae hb1 ?_;refine ae hl1 ?_;refine cq.use ho hlen2 ?_;rw[dx,aa,gO];refine⟨fun h=>?_,fun h=>go _ (by rw[hst,h];rfl)⟩;rw[h,if_pos rfl]at hst;rw[bg,i64_in (by omega) (by omega),aa];exact go _ (by rw[hst];omega)
 exact loop _ 0 rfl (by omega)
theorem cM.use {v w:ah}{own other:List aL}{base fo fp:Int}(hl:hJ 36 G v (own.map aL.av)) (ho:hJ 36 G w (other.map aL.av)) (hlen:own.length≤1048576) (hlen2:other.length≤1048576) (hb:I64 base)
  (h0:0≤tl base own other fo fp) (h1:tl base own other fo fp≤1152921504606846976) (hQ:Q (.int .i64 (tl base own other fo fp)) G):al P cM.n [.int .i64 base,v,w,.int .i64 fo,.int .i64 fp] G Q:=by
 refine cM.sound ?_;unfold cM.S;unfold tl at h0 h1 hQ;have hfl:=jU other fp;have hfo:=jU own fo;obtain⟨S,hS⟩:∃ S,S=CN (cw other fp):=⟨_,rfl⟩;obtain⟨D,hD⟩:∃ D,D=GH (cw own fo):=⟨_,rfl⟩;rw[<- hS,<- hD]at h0 h1 hQ;intro R1 hR1;have two:R1 [v,w,.int .i64 fo,.int .i64 fp,.int .i64 (IntKind.i64.wrap (base-gG S own)),.int .i64 (own.length:Nat)] G:=by
  refine hR1 _ _ _ _ _ _ _ ?_;refine ae (dh hl.gZ) ?_;rw[aM,aa,aI];refine⟨fun h=>absurd h (by omega),fun _=>?_⟩;refine bQ.use hl hlen fun x hx=>?_;intro R hR;have loop:∀ (n j:Nat),other.length-j=n->j≤other.length->R [w,.int .i64 (IntKind.i64.wrap (base-gG S own+gG D (other.take j))),x,.int .i64 (j:Int)] G:=by
   intro n;induction n with
   | zero=>
    intro j hn hj;have:j=other.length:=(by omega);subst this;rw[List.take_length];refine hR _ _ _ _ _ ?_;refine ae (dh ho.gZ) ?_;rw[aM,aa,aI];refine⟨fun h=>absurd h (by omega),fun _=>?_⟩;rw[i64_in (by omega) (by omega)];refine ae (v:=.int .i64 (base-gG S own+gG D other)) ?_ hQ;show (some (ah.int .i64 (if base-gG S own+gG D other<0 then 0 else base-gG S own+gG D other)))=_;rw[if_neg (by omega)]
   | succ n ih=>
    intro j hn hj;obtain⟨u,hu⟩:∃ u,other[j]?=some u:=⟨_,List.getElem?_eq_getElem (by omega)⟩;obtain⟨a0,b0,ha0,hb0,hl0⟩:=jZ (f:=0) (o:=0) (tf:=ay) (fi:=nc) ho.gZ hu rfl iD (by decide) rfl rfl rfl;obtain⟨a1,b1,ha1,hb1,hl1⟩:=jZ (f:=1) (o:=1) (tf:=aq) (fi:=iZ) ho.gZ hu rfl cu (by decide) rfl rfl rfl;obtain⟨a2,b2,ha2,hb2,hl2⟩:=jZ (f:=2) (o:=2) (tf:=aq) (fi:=iZ) ho.gZ hu rfl cu (by decide) rfl rfl rfl;have hst:=pM (f:=D) hu;have eD:D u=(decide (u.kind=1) && oL (cw own fo) u.id 2):=(by rw[hD];rfl);refine hR _ _ _ _ _ ?_;refine ae (dh ho.gZ) ?_;rw[aM,aa,aI];refine⟨fun _=>?_,fun h=>absurd (by omega) h⟩;intro J77;have go:∀ y:Int,y=IntKind.i64.wrap (base-gG S own+gG D (other.take (j+1)))->J77 (.int .i64 y) G:=by
     intro y hy;simp -zeta only [J77];rw[bg,i64_in (by omega) (by omega),aa,hy];exact ih (j+1) (by omega) (by omega)
    refine ae ha0 ?_;refine ae hb0 ?_;refine ae hl0 ?_;rw[bB,aa,aI];refine⟨fun hk=>?_,fun hk=>go _ (by rw[hst,eD,dF_ hk];simp)⟩;rw[dT_ hk,Bool.true_and]at eD;refine ae ha1 ?_;refine ae hb1 ?_;refine ae hl1 ?_;refine cq.use hx.gZ (by omega) ?_;rw[gO];refine⟨fun h=>?_,fun h=>go _ (by rw[hst,eD,h];simp)⟩;refine ae ha2 ?_;refine ae hb2 ?_;refine ae hl2 ?_;rw[bg,aa,EY];exact go _ (by rw[hst,eD,h,if_pos rfl];congr 1;omega)
  have:=loop other.length 0 (by omega) (by omega);have e0:gG D (other.take 0)=0:=rfl;rw[e0,Int.add_zero]at this;exact this
 have loop:∀ (n j:Nat),own.length-j=n->j≤own.length->R1 [v,w,.int .i64 fo,.int .i64 fp,.int .i64 (IntKind.i64.wrap (base-gG S (own.take j))),.int .i64 (j:Int)] G:=by
  intro n;induction n with
  | zero=>
   intro j hn hj;have:j=own.length:=(by omega);subst this;rw[List.take_length];exact two
  | succ n ih=>
   intro j hn hj;obtain⟨u,hu⟩:∃ u,own[j]?=some u:=⟨_,List.getElem?_eq_getElem (by omega)⟩;obtain⟨a0,b0,ha0,hb0,hl0⟩:=jZ (f:=0) (o:=0) (tf:=ay) (fi:=nc) hl.gZ hu rfl iD (by decide) rfl rfl rfl;obtain⟨a1,b1,ha1,hb1,hl1⟩:=jZ (f:=1) (o:=1) (tf:=aq) (fi:=iZ) hl.gZ hu rfl cu (by decide) rfl rfl rfl;obtain⟨a2,b2,ha2,hb2,hl2⟩:=jZ (f:=2) (o:=2) (tf:=aq) (fi:=iZ) hl.gZ hu rfl cu (by decide) rfl rfl rfl;have hst:=pM (f:=S) hu;have eS:S u=(decide (u.kind=1) && !oL (cw other fp) u.id 3):=(by rw[hS];rfl);refine hR1 _ _ _ _ _ _ _ ?_;refine ae (dh hl.gZ) ?_;rw[aM,aa,aI];refine⟨fun _=>?_,fun h=>absurd (by omega) h⟩;intro J40;have go:∀ y:Int,y=IntKind.i64.wrap (base-gG S (own.take (j+1)))->J40 (.int .i64 y) G:=by
    intro y hy;simp -zeta only [J40];rw[bg,i64_in (by omega) (by omega),aa,hy];exact ih (j+1) (by omega) (by omega)
   refine ae ha0 ?_;refine ae hb0 ?_;refine ae hl0 ?_;rw[bB,aa,aI];refine⟨fun hk=>?_,fun hk=>go _ (by rw[hst,eS,dF_ hk];simp)⟩;rw[dT_ hk,Bool.true_and]at eS;refine ae ha1 ?_;refine ae hb1 ?_;refine ae hl1 ?_;refine bQ.use ho hlen2 fun x hx=>?_;refine⟨⟨hl1,trivial⟩,?_⟩;refine cq.use hx.gZ (by omega) ?_;rw[dx,aa,<- eS,gO];refine⟨fun h=>?_,fun h=>go _ (by rw[hst,h];simp)⟩;refine ae ha2 ?_;refine ae hb2 ?_;refine ae hl2 ?_;rw[b7,aa,zm];exact go _ (by rw[hst,h,if_pos rfl];congr 1;omega)
 have:=loop own.length 0 (by omega) (by omega);have e0:gG S (own.take 0)=0:=rfl;rw[e0,Int.sub_zero,i64_in hb.1 hb.2]at this;exact this
theorem cO.use {f:StF}{vo vp vh:ah}(h:ka G f vo vp vh) (I:iY f) (hQ:∀ G',Ch [] G [] G'->Q (.int .i64 (tj f)) G'):al P cO.n [f.s.av vo vp vh] G Q:=by
 have ho:=h.ok;have hl:=h.lv;refine cO.sound ?_;unfold cO.S;intro i1 f1;have s1:=(Sp.nil G).row f1 (f.s.av vo vp vh);refine ae (St.ld (au.own (i:=0) s1 rfl) ho hl) ?_;refine cg.use (h.mv s1.ch) fun G5 c5=>?_;have s5:=s1.tmp c5;refine jL (c:=bE (mM f.s) (mD f.s)) s5 cK rfl rfl rfl fun i6 G8 s8=>?_;have hg:=au.own (i:=1) s8 rfl;refine ae (St.uM hg ho hl) ?_;refine ae (St.dM hg ho hl) ?_;refine ae (St.eH hg ho hl) ?_;refine ae (jW (au.own (i:=0) s8 rfl)).1 ?_;refine ae (jW (au.own (i:=0) s8 rfl)).2.1 ?_;obtain⟨e1,e2⟩:=I.xl;have hr:=I.Fh;rw[e1]at hr hQ;refine cM.use (h.o.mv s8.ch) (h.p.mv s8.ch) h.lo h.lp ho.bo (by rw[e2];exact hr.1) (by rw[e2];exact hr.2) ?_;rw[e2];exact hQ _ s8.ch
theorem b5.use {f:StF}{vo vp vh:ah}(h:ka G f vo vp vh) (I:iY f) (hQ:∀ G',Ch [] G [] G'->Q (.int .i64 (th f)) G'):al P b5.n [f.s.av vo vp vh] G Q:=by
 have ho:=h.ok;have hl:=h.lv;refine b5.sound ?_;unfold b5.S;intro i1 f1;have s1:=(Sp.nil G).row f1 (f.s.av vo vp vh);refine ae (St.ld (au.own (i:=0) s1 rfl) ho hl) ?_;refine cg.use (h.mv s1.ch) fun G5 c5=>?_;have s5:=s1.tmp c5;refine jL (c:=bE (mM f.s) (mD f.s)) s5 cK rfl rfl rfl fun i6 G8 s8=>?_;have hg:=au.own (i:=1) s8 rfl;refine ae (St.tC hg ho hl) ?_;refine ae (St.eH hg ho hl) ?_;refine ae (St.dM hg ho hl) ?_;refine ae (jW (au.own (i:=0) s8 rfl)).2.1 ?_;refine ae (jW (au.own (i:=0) s8 rfl)).1 ?_;obtain⟨e1,e2⟩:=I.xk;have hr:=I.Fg;rw[e1]at hr hQ;refine cM.use (h.p.mv s8.ch) (h.o.mv s8.ch) h.lp h.lo ho.bp (by rw[e2];exact hr.1) (by rw[e2];exact hr.2) ?_;rw[e2];exact hQ _ s8.ch
end
end Go.Esc.M
namespace Go.Esc.M
open Go Go.Esc
theorem Asc.Mz:∀ {l:List ba}{m n:Int},m≤n->Asc n l->Asc m l
 | [],_,_,_,_=>trivial
 | p::l,m,n,h,k=>⟨by have:=k.1;omega,k.2⟩
theorem ye {p:ba}:∀ {l:List ba},(∀ q∈l,¬ p.id<q.id)->iG l p=l++[p]
 | [],_=>rfl
 | q::l,h=>by
  have ih:=ye (p:=p) (l:=l) fun x hx=>h x (by simp[hx]);unfold iG;rw[if_neg (h q (by simp)),ih];rfl
theorem BF:∀ {l acc:List ba}{n:Int},Asc n l->(∀ q∈acc,q.id≤n)->l.foldl iG acc=acc++l
 | [],acc,n,_,_=>by simp
 | p::l,acc,n,h,hq=>by
  obtain⟨h1,_,_,h4⟩:=h;rw[List.foldl_cons,ye fun q hm=>by have:=hq q hm;omega];rw[BF h4 fun q hm=>?_,List.append_assoc]
  ·rfl
  ·rcases List.mem_append.1 hm with hm|hm
   ·have:=hq q hm;omega
   ·rw[List.mem_singleton.1 hm];exact Int.le_refl _
theorem DY {l:List ba}{n:Int}(h:Asc n l):kS l=l:=by
 have:=BF (acc:=[]) h (by simp);simpa[kS] using this
theorem D6 {l:List aL}(hi:rA l) (hv:∀ u∈l,dp u=true) (m:Bool) (f:aL->Bool) (hf:∀ u,f u=true->u.kind=1):Asc (-1) (iX m f l):=by
 have key:∀ (n j:Nat),l.length-j=n->j≤l.length->Asc (((j7 (l.take j):Nat):Int)-1) (iX m f (l.drop j)):=by
  intro n;induction n with
  | zero=>
   intro j hn hj;rw[List.drop_of_length_le (by omega)];trivial
  | succ n ih=>
   intro j hn hj;obtain⟨u,hu⟩:∃ u,l[j]?=some u:=⟨_,List.getElem?_eq_getElem (by omega)⟩;have hdr:l.drop j=u::l.drop (j+1):=by
    obtain⟨hx,rfl⟩:=List.getElem?_eq_some_iff.1 hu;exact List.drop_eq_getElem_cons hx
   have ih:=ih (j+1) (by omega) (by omega);have hst:j7 (l.take (j+1))=j7 (l.take j)+j7 [u]:=(by rw[List.take_add_one,hu,oR];rfl);rw[hdr];cases hfu:f u with
   | true=>
    have hk:=hf u hfu;have e1:j7 [u]=1:=(by simp[j7,hk]);have hid:=hi j u hu hk;have hval:=(lW (hv u (List.mem_of_getElem? hu))).2.2;have e:iX m f (u::l.drop (j+1))=D7 m u::iX m f (l.drop (j+1)):=(by simp[iX,hfu]);rw[e];refine⟨by show _<u.id;omega,by show 1≤u.amount;omega,by show u.amount≤jb;unfold jb;omega,?_⟩;show Asc u.id _;rw[hst,e1]at ih;rw[hid];have:(((j7 (l.take j)+1:Nat):Int)-1)=((j7 (l.take j):Nat):Int):=(by omega);rw[this]at ih;exact ih
   | false=>
    have e:iX m f (u::l.drop (j+1))=iX m f (l.drop (j+1)):=(by simp[iX,hfu]);rw[e];exact Asc.Mz (by omega) ih
 have:=key l.length 0 (by omega) (by omega);exact this
theorem BR {o p:List aL}(vo:∀ u∈o,dp u=true) (vp:∀ u∈p,dp u=true) {fb:Int}(h0:0≤fb) {n m:Nat}(hm:fb≤(m:Int)):((o.take n).filter (opens (p.take m))).length≤kX o p fb:=by
 have h1:((o.take n).filter (opens (p.take m))).length≤(o.filter (opens (p.take m))).length:=(List.Sublist.filter _ (List.take_sublist _ _)).length_le;refine Nat.le_trans h1 ?_;unfold kX ml;rw[List.length_map,<- List.countP_eq_length_filter,<- List.countP_eq_length_filter];refine List.countP_mono_left fun u hu ho=>?_;simp only[opens,stays,Bool.and_eq_true,decide_eq_true_eq,Bool.not_eq_true',decide_eq_false_iff_not]at ho ⊢;refine⟨ho.1.1,vo u hu,?_⟩;refine Classical.byContradiction fun hne=>?_;have hle:fb.toNat≤m:=by omega
 have:=pP (id:=u.id) (l:=p) hle hne;have h3:=xr u.id (p.take m);have h4:jH u.id (p.take fb.toNat)≠0:=hne;rw[<- this]at h4;rcases h3 with h3|h3|h3
 ·exact h4 h3
 ·exact ho.2 h3
 ·exact ho.1.2 h3
theorem Ay {o p:List aL}(io:rA o) (ip:rA p) (vo:∀ u∈o,dp u=true) (vp:∀ u∈p,dp u=true) {x y:Int}(hx:0≤x/\x≤jb) (hy:0≤y/\y≤jb)
  (h1:(o.filter (opens p)).length≤483) (h2:(p.filter (opens o)).length≤483):lG x y (oN o p)=true:=by
 have a1:=D6 io vo true (opens p) fun u hu=>by simp[opens,stays]at hu;exact hu.1.1
 have a2:=D6 ip vp false (opens o) fun u hu=>by simp[opens,stays]at hu;exact hu.1.1
 unfold oN;rw[DY a1,DY a2];have o1:∀ q∈iX true (opens p) o,q.ours=true:=by
  intro q hq;obtain⟨u,_,rfl⟩:=List.mem_map.1 hq;rfl
 have o2:∀ q∈iX false (opens o) p,q.ours=false:=by
  intro q hq;obtain⟨u,_,rfl⟩:=List.mem_map.1 hq;rfl
 obtain⟨lt,e1⟩:=K3 _ (-1) (-1) 0 (iX false (opens o) p) a1 o1;have e2:=K4 _ lt (-1) (0+(iX true (opens p) o).length) 0 a2 o2;unfold lG;rw[e1,e2,dT_ hx.1,dT_ hx.2,dT_ hy.1,dT_ hy.2];have l1:(iX true (opens p) o).length=(o.filter (opens p)).length:=by unfold iX;rw[List.length_map]
 have l2:(iX false (opens o) p).length=(p.filter (opens o)).length:=by unfold iX;rw[List.length_map]
 simp only[few,l1,l2,Bool.true_and,Bool.and_eq_true,decide_eq_true_eq];omega
theorem As {l:List aL}(h:rA l) (n:Nat):rA (l.take n):=by
 intro j u hj hk;have hl:=(List.getElem?_eq_some_iff.1 hj).1;rw[List.length_take]at hl;rw[List.getElem?_take_of_lt (by omega)]at hj;rw[List.take_take,Nat.min_eq_left (by omega)];exact h j u hj hk
theorem iY.Lc {f:StF}(I:iY f) {a b:Int}(ha:f.s.atA≤a) (ha2:a≤f.o.length) (hb:f.s.heldB≤b) (hb2:b≤f.p.length) :
  (kx f a b).e=0/\lG (kx f a b).o (kx f a b).q (kx f a b).l=true/\lG (kx f a b).q (kx f a b).o (pE (kx f a b).l)=true/\kx f a b=foldM f.s.bo f.s.bp (f.o.take a.toNat) (f.p.take b.toNat):=by
 have a0:=I.a0;have b0:=I.b0;obtain⟨h1,h2⟩:=I.book.taken (n:=a.toNat) (m:=b.toNat) (by omega) (by omega) (by omega) (by omega);rw[Int.toNat_of_nonneg (by omega),Int.toNat_of_nonneg (by omega)]at h1 h2;have e:kx f a b=foldM f.s.bo f.s.bp (f.o.take a.toNat) (f.p.take b.toNat):=h2;have h1':(foldM f.s.bo f.s.bp (f.o.take a.toNat) (f.p.take b.toNat)).e=0:=by rw[<- h2];exact h1
 obtain⟨v1,v2,x0,y0,hm⟩:=HX h1';obtain⟨l1,l2⟩:=C8 (bo:=f.s.bo) (bp:=f.s.bp) v1 v2 (by have:=I.cap;have:=I.capm;omega);have io:=As (ui I.go) a.toNat;have ip:=As (ui I.gp) b.toNat;have c1:((f.o.take a.toNat).filter (opens (f.p.take b.toNat))).length≤483:=Nat.le_trans (BR I.vo I.vp I.b0 (by omega)) I.no;have c2:((f.p.take b.toNat).filter (opens (f.o.take a.toNat))).length≤483:=Nat.le_trans (BR I.vp I.vo I.a0 (by omega)) I.np;refine⟨h1,?_,?_,e⟩
 ·rw[e,hm];exact Ay io ip v1 v2 ⟨x0,l1 y0⟩ ⟨y0,l2 x0⟩ c1 c2
 ·rw[e,hm];show lG (n0 _ _ _) (nH _ _ _) (pE (oN _ _))=true;rw[Fa];exact Ay ip io v2 v1 ⟨y0,l2 x0⟩ ⟨x0,l1 y0⟩ c2 c1
theorem ID {ow ix x y:Int}{pt:List UInt8}{l:List ba}(h0:ow=0\/ow=1) (h1:0≤ix) (h2:ix≤281474976710655) (hs:lG x y l=true):oI ow ix pt x y l=(vK ow ix pt x y l,0):=by
 unfold oI;rw[if_neg (by unfold qZ vZ;omega),hs];rfl
end Go.Esc.M
namespace Go.Esc.M
open Go Go.Esc
section
variable {F0:List AId}{G0 G:ak}{ps:List LP}{Q:ah->ak->Prop}
theorem fZ.use {f:StF}{c:CfM}{vo vp vh:ah}(hS:ka G f vo vp vh) (hQ:∀ G',Ch [] G [] G'->Q (w8 (p6 f)) G'):al P fZ.n [c.av,f.s.av vo vp vh] G Q:=by
 have ho:=hS.ok;have hl:=hS.lv;have hlo:=hS.lo;refine fZ.sound ?_;unfold fZ.S;rw[uU];unfold p6 at hQ;intro i1 f1;have s1:=(Sp.nil G).row f1 c.av;intro i3 f3;have s3:=s1.row f3 (f.s.av vo vp vh);intro i5 f5;have s5:=s3.row f5 (RcM.zero.av .nilSlice);revert s5;generalize ak.upd _ i5 _=G6;intro s5;have hg:=au.own (i:=1) s5 rfl;refine ae (St.dM hg ho hl) ?_;refine ae (dh (hS.o.gZ.ch' s5.ch)) ?_;refine ae (St.od hg ho hl) ?_;refine ae (v:=bE (f.o.length:Nat) f.s.atB) rfl ?_;refine jL (c:=bE (f.o.length:Nat) f.s.atB) s5 cK rfl rfl rfl fun i11 G13 s13=>?_;refine ae (St.ld (au.own (i:=2) s13 rfl) ho hl) ?_;refine cd.use (hS.mv s13.ch) fun G16 c16=>?_;have s16:=s13.tmp c16;have s16:Sp [] G [au i11 (bE (f.o.length:Nat) f.s.atB),au i5 (RcM.zero.av .nilSlice),au i3 (f.s.av vo vp vh),au i1 c.av] G16:=s16;rw[gO];refine⟨fun hd=>?_,fun hd=>?_⟩
 ·rw[if_pos hd]at hQ;exact kz (j:=1) s16 rfl RcM.bq bw.nil fun G' s'=>hQ G' s'.ch
 rw[if_neg (by rw[hd];decide)]at hQ;have hg:=au.own (i:=2) s16 rfl;intro J36;have bad:(f.s.rem≠f.s.ack\/((f.o.length:Int)=f.s.sgnA/\f.s.atB=f.s.sgnB))->J36 (.bool true) G16:=by
  intro hb;rw[if_pos hb]at hQ;simp -zeta only [J36,aN];exact kz (j:=1) s16 rfl RcM.bq bw.nil fun G' s'=>hQ G' s'.ch
 have lK:¬ (f.s.rem≠f.s.ack\/((f.o.length:Int)=f.s.sgnA/\f.s.atB=f.s.sgnB))->J36 (.bool false) G16:=by
  intro hb;rw[if_neg hb]at hQ;simp -zeta only [J36,aK];refine ae (St.mn hg ho hl) ?_;rw[da,aa,aI];refine⟨fun h1=>?_,fun h1=>?_⟩
  ·rw[if_pos h1]at hQ;exact kz (j:=1) s16 rfl RcM.bq bw.nil fun G' s'=>hQ G' s'.ch
  rw[if_neg h1]at hQ;have hr:=ho.rem;have hok:({ RcM.zero with kind:=2,index:=f.s.rem+1,cntA:=(f.o.length:Nat),cntB:=f.s.atB }:RcM).ok:=
   ⟨iu 2 (by decide) (by decide),aL.bq,iu (f.s.rem+1) (by have:=hr.1;omega) (by omega),iu (f.o.length:Nat) (by omega) (by omega),ho.atB,rfl,rfl,rfl,cL⟩
  refine ae (St.mn hg ho hl) ?_;rw[bg,i64_in (by have:=hr.1;omega) (by omega),aa];refine ae (cj cK (au.own (i:=0) s16 rfl) rfl) ?_;refine ae Cl ?_;refine Rc.st (i:=1) s16 rfl RcM.bq bw.nil hok bw.nil fun G41 s41=>?_;refine ae (Rc.ld (au.own (i:=1) s41 rfl) hok bw.nil) ?_;exact hQ _ s41.ch
 refine ae (St.mn hg ho hl) ?_;refine ae (St.mS hg ho hl) ?_;rw[cD,aa,dC];refine⟨fun h1=>bad (.inl h1),fun h1=>?_⟩;refine ae (cj cK (au.own (i:=0) s16 rfl) rfl) ?_;refine ae (St.vr hg ho hl) ?_;rw[r6 (t:=aU),aa];by_cases h2:(f.o.length:Int)=f.s.sgnA/\f.s.atB=f.s.sgnB
 ·rw[dT_ h2];exact bad (.inr h2)
 ·rw[dF_ h2];exact lK (by rintro (h | h);exact h h1;exact h2 h)
theorem ga.use {f:StF}{c:CfM}{n ca cb:Int}{vo vp vh:ah}(hS:ka G f vo vp vh) (hc:c.ok) (hQ:∀ G',Ch [] G [] G'->Q (.tuple [.str (yV c f n ca cb).1,.bool (yV c f n ca cb).2]) G'):al P ga.n [c.av,f.s.av vo vp vh,.int .i64 n,bE ca cb] G Q:=by
 have ho:=hS.ok;have hl:=hS.lv;have hlo:=hS.lo;have hlp:=hS.lp;refine ga.sound ?_;unfold ga.S;unfold yV at hQ;intro i1 f1;have s1:=(Sp.nil G).row f1 c.av;intro i3 f3;have s3:=s1.row f3 (f.s.av vo vp vh);intro i5 f5;have s5:=s3.row f5 (bE ca cb);revert s5;generalize ak.upd _ i5 _=G6;intro s5;refine ae (Cf.ue (au.own (i:=2) s5 rfl) hc) ?_;refine cI.use hc.seed fun G9 c9=>?_;have s9:=s5.tmp c9;have hxl:=mZ hc.seed n;obtain⟨X,hX⟩:∃ X,X=jS c.seed n:=⟨_,rfl⟩;rw[<- hX]at hQ hxl ⊢;refine ae (hi0 _) ?_;refine ae (hi1 _) ?_;refine pg s9 hxl fun i12 G14 s14=>?_;rw[cD,aa,dC];refine⟨fun h1=>?_,fun h1=>?_⟩
 ·rw[if_pos h1]at hQ;exact hQ _ s14.ch
 rw[if_neg (fun hh=>hh h1)]at hQ;have hg:=au.own (i:=2) s14 rfl;refine ae (St.uM hg ho hl) ?_;refine ae (St.tC hg ho hl) ?_;refine ae (St.dM hg ho hl) ?_;refine ae (St.eH hg ho hl) ?_;refine ae (cj cK (au.own (i:=1) s14 rfl) rfl) ?_;refine eZ.use (hS.o.mv s14.ch) (hS.p.mv s14.ch) hS.oko hS.okp hS.lo hS.lp fun x G22 t22=>?_;have hFok:=qh hS ca cb;have hFlen:=uj f ca cb;unfold kx at hQ hFok hFlen;obtain⟨F,hF⟩:∃ F,F=mN f.s.bo f.s.bp f.o f.p ca cb:=⟨_,rfl⟩;rw[<- hF]at hQ hFok hFlen t22 ⊢;obtain⟨F22,o22,c22⟩:=t22.out;have s22:=s14.new o22 c22;have lx:=(bm.own (i:=0) s22 rfl).leaf;refine ae (tv0 _ _) ?_;refine ae (tv1 _ _) ?_;obtain⟨w1,w2,w3⟩:=rr (o:=F.o) (q:=F.q) lx;refine jL s22 ng w1 (by rw[w2];rfl) w3 fun i25 G27 s27=>?_;rw[cD,aa,dC];refine⟨fun h2=>?_,fun h2=>?_⟩
 ·rw[if_pos h2]at hQ;exact hQ _ s27.ch
 rw[if_neg (fun hh=>hh h2)]at hQ;refine ae (St.lJ (au.own (i:=4) s27 rfl) ho hl) ?_;refine ae (bM hxl (au.own (i:=2) s27 rfl)) ?_;refine ae (iI (i:=0) s27 rfl lx).2.2.2 ?_;refine cA.use hxl fun G33 c33=>?_;have s33:=s27.tmp c33;refine⟨⟨(iI (i:=0) s33 rfl lx).2.2.2,St.lJ (au.own (i:=4) s33 rfl) ho hl,trivial⟩,?_⟩;refine eV.use (je _) (bm.own (i:=1) s33 rfl).is hFok (by omega) fun G35 c35=>?_;have s35:=s33.tmp c35;refine ae (tv0 _ _) ?_;refine ae (tv1 _ _) ?_;rw[bB,aa];exact hQ _ s35.ch
theorem dF.use {c:CfM}{n:Int}(hc:c.ok) (hQ:∀ G',Ch [] G [] G'->Q (qC c n).av G'):al P dF.n [c.av,.int .i64 n] G Q:=by
 refine dF.sound ?_;unfold dF.S;rw[EW];unfold qC at hQ;intro i1 f1;have s1:=(Sp.nil G).row f1 c.av;intro i3 f3;have s3:=s1.row f3 cr.zero.av;revert s3;generalize ak.upd _ i3 _=G4;intro s3 J36;have bad:(n<0\/281474976710653<n)->J36 (.bool true) G4:=by
  intro hb;rw[if_pos hb]at hQ;simp -zeta only [J36,aN];refine ae (v:=cr.zero.av) rfl ?_;refine nK (i:=0) s3 rfl cr.bq cr.bq fun G10 s10=>?_;refine ae (cj eQ (au.own (i:=0) s10 rfl) (cr.fits cr.bq)) ?_;exact hQ _ s10.ch
 have lK:¬ (n<0\/281474976710653<n)->J36 (.bool false) G4:=by
  intro hb;rw[if_neg hb]at hQ;simp -zeta only [J36,aK];have hx:=mZ hc.seed n;have hy:=mZ hc.seed (n+2);refine ae (Cf.ue (au.own (i:=1) s3 rfl) hc) ?_;refine cI.use hc.seed fun G14 c14=>?_;have s14:=s3.tmp c14;refine ae (hi0 _) ?_;refine ae (hi1 _) ?_;refine pg s14 hx fun i17 G19 s19=>?_;refine ae (Cf.ue (au.own (i:=2) s19 rfl) hc) ?_;rw[bg,i64_in (by omega) (by omega),aa];refine cI.use hc.seed fun G23 c23=>?_;have s23:=s19.tmp c23;refine ae (hi0 _) ?_;refine ae (hi1 _) ?_;refine pg s23 hy fun i26 G28 s28=>?_;refine ae (bM hx (au.own (i:=1) s28 rfl)) ?_;refine ae (bM hy (au.own (i:=0) s28 rfl)) ?_;refine cA.use hy fun G32 c32=>?_;have s32:=s28.tmp c32;refine⟨⟨bM hx (au.own (i:=1) s32 rfl),trivial⟩,?_⟩;have hz:(sha (jS c.seed (n+2)).1).length=32:=je _;have hok:({ cr.zero with kind:=5,index:=n,secret:=(jS c.seed n).1,hash:=sha (jS c.seed (n+2)).1 }:cr).ok:=⟨iu 5 (by decide) (by decide),cL,cL,iu n (by omega) (by omega),cL,hz,hx,by simp[cr.zero]⟩;refine ae (uo (r:={ cr.zero with kind:=5,index:=n,secret:=(jS c.seed n).1,hash:=sha (jS c.seed (n+2)).1 }) (fun p hp=>?_) rfl) ?_
  ·simp only[List.mem_cons,List.not_mem_nil,or_false]at hp;rcases hp with rfl|rfl|rfl|rfl
   ·rfl
   ·rfl
   ·exact oJ hx
   ·exact oJ hz
  refine nK (i:=2) s32 rfl cr.bq hok fun G34 s34=>?_;refine ae (cj eQ (au.own (i:=2) s34 rfl) (cr.fits hok)) ?_;exact hQ _ s34.ch
 rw[aM,aa,aI];refine⟨fun h1=>bad (.inl h1),fun h1=>?_⟩;rw[da,aa];by_cases h2:281474976710653<n
 ·rw[dT_ h2];exact bad (.inr h2)
 ·rw[dF_ h2];exact lK (by omega)
theorem fh.use {f:StF}{vo vp vh:ah}{a:Int}{h:List UInt8}(hS:ka G f vo vp vh) (I:iY f) (hh:h.length=32) (hQ:∀ G',Ch [] G [] G'->Q (w8 (n8 f a h)) G'):al P fh.n [f.s.av vo vp vh,.int .i64 a,.agg (h.map u8v)] G Q:=by
 have ho:=hS.ok;have hl:=hS.lv;have hlo:=hS.lo;refine fh.sound ?_;unfold fh.S;rw[uU];unfold n8 at hQ;intro i1 f1;have s1:=(Sp.nil G).row f1 (f.s.av vo vp vh);intro i3 f3;have s3:=s1.row f3 (.agg (h.map u8v));intro i5 f5;have s5:=s3.row f5 (RcM.zero.av .nilSlice);revert s5;generalize ak.upd _ i5 _=G6;intro s5;refine ae (St.ld (au.own (i:=2) s5 rfl) ho hl) ?_;refine cd.use (hS.mv s5.ch) fun G9 c9=>?_;have s9:=s5.tmp c9;rw[gO];refine⟨fun hd=>?_,fun hd=>?_⟩
 ·rw[if_pos hd]at hQ;exact kz (j:=0) s9 rfl RcM.bq bw.nil fun G' s'=>hQ G' s'.ch
 rw[if_neg (by rw[hd];decide)]at hQ;have s9:Sp [] G [au i5 (RcM.zero.av .nilSlice),au i3 (.agg (h.map u8v)),au i1 (f.s.av vo vp vh)] G9:=s9;intro J47;have bad:(a<1\/1152921504606846976<a)->J47 (.bool true) G9:=by
  intro hb;rw[if_pos hb]at hQ;simp -zeta only [J47,aN];exact kz (j:=0) s9 rfl RcM.bq bw.nil fun G' s'=>hQ G' s'.ch
 have lK:¬ (a<1\/1152921504606846976<a)->J47 (.bool false) G9:=by
  intro hb;rw[if_neg hb]at hQ;simp -zeta only [J47,aK];refine ae (St.ld (au.own (i:=2) s9 rfl) ho hl) ?_;refine dN.use (hS.mv s9.ch) fun G22 c22=>?_;have s22:=s9.tmp c22;rw[gO];refine⟨fun hf=>?_,fun hf=>?_⟩
  ·rw[if_pos hf]at hQ;exact kz (j:=0) s22 rfl RcM.bq bw.nil fun G' s'=>hQ G' s'.ch
  rw[if_neg (by rw[hf];decide)]at hQ;have hg:=au.own (i:=2) s22 rfl;refine ae (St.dM hg ho hl) ?_;refine ae (St.eH hg ho hl) ?_;refine ae (St.ld hg ho hl) ?_;refine cg.use (hS.mv s22.ch) fun G30 c30=>?_;have s30:=s22.tmp c30;have hg:=au.own (i:=2) s30 rfl;refine⟨⟨St.eH hg ho hl,St.dM hg ho hl,trivial⟩,?_⟩;refine ae (v:=.int .i64 (mD f.s)) rfl ?_;refine bQ.use (hS.p.mv s30.ch) hS.lp fun w hw=>?_;refine⟨⟨St.dM hg ho hl,trivial⟩,?_⟩;have hfl:=jU f.p (mD f.s);refine eT.use (hS.o.gZ.ch' s30.ch) hw.gZ hS.lo (by have:=hS.lp;omega) ?_;rw[Ac I.vo I.vp];rw[fI,aa,aI];refine⟨fun h4=>?_,fun h4=>?_⟩
  ·rw[if_pos (by omega)]at hQ;exact kz (j:=0) s30 rfl RcM.bq bw.nil fun G' s'=>hQ G' s'.ch
  rw[if_neg (by omega)]at hQ;refine ae (St.ld hg ho hl) ?_;refine cO.use (hS.mv s30.ch) I fun G42 c42=>?_;have s42:=s30.tmp c42;rw[da,aa,aI];refine⟨fun h5=>?_,fun h5=>?_⟩
  ·rw[if_pos h5]at hQ;exact kz (j:=0) s42 rfl RcM.bq bw.nil fun G' s'=>hQ G' s'.ch
  rw[if_neg h5]at hQ;have hal:=tJ f.o;have hu:(⟨1,((j7 f.o:Nat):Int),a,h,[]⟩:aL).ok:=⟨iu 1 (by decide) (by decide),iu ((j7 f.o:Nat):Int) (by omega) (by omega),iu a (by omega) (by omega),hh,by simp⟩;refine ae (St.dM (au.own (i:=2) s42 rfl) ho hl) ?_;refine ae (bM hh (au.own (i:=1) s42 rfl)) ?_;refine fY.use (hS.o.gZ.ch' s42.ch) hS.lo ?_;refine⟨⟨bM hh (au.own (i:=1) s42 rfl),trivial⟩,?_⟩;refine ae (Cq hh) ?_;refine ae (sE hu) ?_;refine Rc.st (i:=0) s42 rfl RcM.bq bw.nil (iR hu) bw.nil fun G54 s54=>?_;refine ae (Rc.ld (au.own (i:=0) s54 rfl) (iR hu) bw.nil) ?_;exact hQ _ s54.ch
 rw[aM,aa,aI];refine⟨fun h1=>bad (.inl h1),fun h1=>?_⟩;rw[da,aa];by_cases h2:1152921504606846976<a
 ·rw[dT_ h2];exact bad (.inr h2)
 ·rw[dF_ h2];exact lK (by omega)
theorem cN.use {f:StF}{vo vp vh:ah}{id:Int}(hS:ka G f vo vp vh) (hQ:∀ G',Ch [] G [] G'->Q (.tuple [((ey false id (cw f.p (mD f.s))).getD aL.zero).av,.bool ((ey false id (cw f.p (mD f.s))).isSome && !oL f.o id 0)]) G') :
  al P cN.n [f.s.av vo vp vh,.int .i64 id] G Q:=by
 have ho:=hS.ok;have hl:=hS.lv;have hlo:=hS.lo;have hlp:=hS.lp;refine cN.sound ?_;unfold cN.S;rw[Dq];intro i1 f1;have s1:=(Sp.nil G).row f1 (f.s.av vo vp vh);intro i3 f3;have s3:=s1.row f3 aL.zero.av;revert s3;generalize ak.upd _ i3 _=G4;intro s3;rw[<- Dq];have hg:=au.own (i:=1) s3 rfl;refine ae (St.eH hg ho hl) ?_;refine ae (St.ld hg ho hl) ?_;refine cg.use (hS.mv s3.ch) fun G8 c8=>?_;have s8:=s3.tmp c8;have hg:=au.own (i:=1) s8 rfl;refine⟨⟨St.eH hg ho hl,trivial⟩,?_⟩;refine ae (v:=.int .i64 (mD f.s)) rfl ?_;refine bQ.use (hS.p.mv s8.ch) hS.lp fun w hw=>?_;have hfl:=jU f.p (mD f.s);have hfo:=mu (n:=mD f.s) hS.okp;refine eU.use hw.gZ hfo (by omega) fun G13 c13=>?_;have s13:=s8.tmp c13;have hA:=lT (rm:=false) (id:=id) hfo;obtain⟨A,eA⟩:∃ A,A=ey false id (cw f.p (mD f.s)):=⟨_,rfl⟩;rw[<- eA]at hA hQ ⊢;refine ae (z6 _) ?_;refine ae (zZ _) ?_;refine vX s13 hA fun i16 G18 s18=>?_;refine ae (bF (i:=0) s18 rfl hA).2.2.2.2.2 ?_;rw[gO];refine⟨fun hs=>?_,fun hs=>?_⟩
 ·rw[hs,Bool.true_and]at hQ;refine ae (St.dM (au.own (i:=2) s18 rfl) ho hl) ?_;refine cq.use (hS.o.gZ.ch' s18.ch) hS.lo ?_;refine⟨⟨(bF (i:=0) s18 rfl hA).2.2.2.2.2,trivial⟩,?_⟩;rw[dx,aa];refine jY (i:=1) s18 rfl aL.bq hA fun G24 s24=>?_;refine ae (bF (i:=1) s24 rfl hA).2.2.2.2.2 ?_;exact hQ _ s24.ch
 ·rw[hs,Bool.false_and]at hQ;refine jY (i:=1) s18 rfl aL.bq hA fun G24 s24=>?_;refine ae (bF (i:=1) s24 rfl hA).2.2.2.2.2 ?_;exact hQ _ s24.ch
theorem eJ.use {f:StF}{vo vp vh:ah}{id:Int}{h:List UInt8}(hS:ka G f vo vp vh) (I:iY f) (hi:I64 id) (hh:h.length=32) (hQ:∀ G',Ch [] G [] G'->Q (w8 (j4 f ⟨2,id,0,h,[]⟩)) G'):al P eJ.n [f.s.av vo vp vh,.int .i64 id,.agg (h.map u8v)] G Q:=by
 have ho:=hS.ok;have hl:=hS.lv;refine eJ.sound ?_;unfold eJ.S;rw[uU];unfold j4 at hQ;have hu:(⟨2,id,0,h,[]⟩:aL).ok:=⟨iu 2 (by decide) (by decide),hi,cL,hh,by simp⟩;obtain⟨may,hmay⟩:∃ b,b=tA f ⟨2,id,0,h,[]⟩:=⟨_,rfl⟩;rw[<- hmay]at hQ;unfold tA at hmay;rw[dT_ (show (2:Int)=2 from rfl),Bool.not_true,Bool.false_or,dT_ (show ([]:List UInt8).length≤64 by simp),Bool.and_true,zR I.vo]at hmay;simp only at hmay;intro i1 f1;have s1:=(Sp.nil G).row f1 (f.s.av vo vp vh);intro i3 f3;have s3:=s1.row f3 (.agg (h.map u8v));intro i5 f5;have s5:=s3.row f5 (RcM.zero.av .nilSlice);revert s5;generalize ak.upd _ i5 _=G6;intro s5;refine ae (St.ld (au.own (i:=2) s5 rfl) ho hl) ?_;refine cd.use (hS.mv s5.ch) fun G9 c9=>?_;have s9:=s5.tmp c9;rw[gO];refine⟨fun hd=>?_,fun hd=>?_⟩
 ·rw[if_pos hd]at hQ;exact kz (j:=0) s9 rfl RcM.bq bw.nil fun G' s'=>hQ G' s'.ch
 rw[if_neg (by rw[hd];decide)]at hQ;refine ae (St.ld (au.own (i:=2) s9 rfl) ho hl) ?_;refine cN.use (hS.mv s9.ch) fun G15 c15=>?_;have s15:=s9.tmp c15;have hA:=lT (rm:=false) (id:=id) (mu (n:=mD f.s) hS.okp);obtain⟨A,eA⟩:∃ A,A=ey false id (cw f.p (mD f.s)):=⟨_,rfl⟩;rw[<- eA]at hA hmay ⊢;refine ae (tv0 _ _) ?_;refine ae (tv1 _ _) ?_;refine vX s15 hA fun i18 G20 s20=>?_;have s20:Sp [] G [au i18 (A.getD aL.zero).av,au i5 (RcM.zero.av .nilSlice),au i3 (.agg (h.map u8v)),au i1 (f.s.av vo vp vh)] G20:=s20;intro J44;have bad:∀ G2,Sp [] G [au i18 (A.getD aL.zero).av,au i5 (RcM.zero.av .nilSlice),au i3 (.agg (h.map u8v)),au i1 (f.s.av vo vp vh)] G2->may=false->J44 (.bool true) G2:=by
  intro G2 s2 hm;rw[if_pos hm]at hQ;simp -zeta only [J44,aN];exact kz (j:=1) s2 rfl RcM.bq bw.nil fun G' s'=>hQ G' s'.ch
 have lK:∀ G2,Sp [] G [au i18 (A.getD aL.zero).av,au i5 (RcM.zero.av .nilSlice),au i3 (.agg (h.map u8v)),au i1 (f.s.av vo vp vh)] G2->may=true->J44 (.bool false) G2:=by
  intro G2 s2 hm;rw[if_neg (by rw[hm];decide)]at hQ;simp -zeta only [J44,aK];refine ae (St.ld (au.own (i:=3) s2 rfl) ho hl) ?_;refine dN.use (hS.mv s2.ch) fun G35 c35=>?_;have s35:=s2.tmp c35;rw[gO];refine⟨fun hf=>?_,fun hf=>?_⟩
  ·rw[if_pos hf]at hQ;exact kz (j:=1) s35 rfl RcM.bq bw.nil fun G' s'=>hQ G' s'.ch
  rw[if_neg (by rw[hf];decide)]at hQ;refine ae (bM hh (au.own (i:=2) s35 rfl)) ?_;refine ae (Cp hh) ?_;refine ae (sE hu) ?_;refine Rc.st (i:=1) s35 rfl RcM.bq bw.nil (iR hu) bw.nil fun G42 s42=>?_;refine ae (Rc.ld (au.own (i:=1) s42 rfl) (iR hu) bw.nil) ?_;exact hQ _ s42.ch
 rw[dx,aa];rw[<- Bool.and_assoc]at hmay;cases hm:(A.isSome && !oL f.o id 0) with
 | false=>
  rw[hm,Bool.false_and]at hmay;rw[Bool.not_false,aN];exact bad _ s20 hmay
 | true=>
  rw[hm,Bool.true_and]at hmay;rw[Bool.not_true,aK];have hsl:dV T ar (.ptr i3 [] 0) none none none=some (.slice i3 [] 0 0 32 32):=by simp[dV,bZ,dQ,cW,j8,lH]
  refine ae hsl ?_;have hxs:ff 1 _ (.slice i3 [] 0 0 32 32) (h.map u8v):=qR (au.own (i:=2) s20 rfl) hh;refine ae (km (si:=fJ) (ie:=gi) (di:=iO) eC rfl cW rfl fS rfl hxs) ?_;refine ae (bF (i:=0) s20 rfl hA).2.2.2.1 ?_;refine dJ.use (by omega) fun G26 c26=>?_;have s26:=s20.tmp c26;refine⟨⟨(bF (i:=0) s26 rfl hA).2.2.2.1,trivial⟩,?_⟩;rw[qg (je _) hA.hash,aa];by_cases he:sha h=(A.getD aL.zero).hash
  ·rw[dT_ he]at hmay ⊢;exact lK _ s26 hmay
  ·rw[dF_ he]at hmay ⊢;exact bad _ s26 hmay
theorem eK.use {f:StF}{vo vp vh:ah}{id:Int}{n:List UInt8}(hS:ka G f vo vp vh) (I:iY f) (hi:I64 id) (hn:n.length≤9223372036854775807) (hQ:∀ G',Ch [] G [] G'->Q (w8 (j4 f ⟨3,id,0,h0,n⟩)) G'):al P eK.n [f.s.av vo vp vh,.int .i64 id,.str n] G Q:=by
 have ho:=hS.ok;have hl:=hS.lv;refine eK.sound ?_;unfold eK.S;rw[uU];unfold j4 at hQ;have hu:(⟨3,id,0,h0,n⟩:aL).ok:=⟨iu 3 (by decide) (by decide),hi,cL,rfl,hn⟩;obtain⟨may,hmay⟩:∃ b,b=tA f ⟨3,id,0,h0,n⟩:=⟨_,rfl⟩;rw[<- hmay]at hQ;unfold tA at hmay;rw[dF_ (show ¬ (3:Int)=2 by decide),Bool.not_false,Bool.true_or,Bool.true_and,zR I.vo]at hmay;simp only at hmay;intro i1 f1;have s1:=(Sp.nil G).row f1 (f.s.av vo vp vh);intro i3 f3;have s3:=s1.row f3 (RcM.zero.av .nilSlice);revert s3;generalize ak.upd _ i3 _=G4;intro s3;refine ae (St.ld (au.own (i:=1) s3 rfl) ho hl) ?_;refine cd.use (hS.mv s3.ch) fun G7 c7=>?_;have s7:=s3.tmp c7;rw[gO];refine⟨fun hd=>?_,fun hd=>?_⟩
 ·rw[if_pos hd]at hQ;exact kz (j:=0) s7 rfl RcM.bq bw.nil fun G' s'=>hQ G' s'.ch
 rw[if_neg (by rw[hd];decide)]at hQ;refine ae (St.ld (au.own (i:=1) s7 rfl) ho hl) ?_;refine cN.use (hS.mv s7.ch) fun G13 c13=>?_;have s13:=s7.tmp c13;have hA:=lT (rm:=false) (id:=id) (mu (n:=mD f.s) hS.okp);obtain⟨A,eA⟩:∃ A,A=ey false id (cw f.p (mD f.s)):=⟨_,rfl⟩;rw[<- eA]at hA hmay ⊢;refine ae (tv0 _ _) ?_;refine ae (tv1 _ _) ?_;refine vX s13 hA fun i16 G18 s18=>?_;have s18:Sp [] G [au i16 (A.getD aL.zero).av,au i3 (RcM.zero.av .nilSlice),au i1 (f.s.av vo vp vh)] G18:=s18;intro J37;have bad:may=false->J37 (.bool true) G18:=by
  intro hm;rw[if_pos hm]at hQ;simp -zeta only [J37,aN];exact kz (j:=1) s18 rfl RcM.bq bw.nil fun G' s'=>hQ G' s'.ch
 have lK:may=true->J37 (.bool false) G18:=by
  intro hm;rw[if_neg (by rw[hm];decide)]at hQ;simp -zeta only [J37,aK];refine ae (St.ld (au.own (i:=2) s18 rfl) ho hl) ?_;refine dN.use (hS.mv s18.ch) fun G29 c29=>?_;have s29:=s18.tmp c29;rw[gO];refine⟨fun hf=>?_,fun hf=>?_⟩
  ·rw[if_pos hf]at hQ;exact kz (j:=1) s29 rfl RcM.bq bw.nil fun G' s'=>hQ G' s'.ch
  rw[if_neg (by rw[hf];decide)]at hQ;refine ae (AU _ _) ?_;refine ae (sE hu) ?_;refine Rc.st (i:=1) s29 rfl RcM.bq bw.nil (iR hu) bw.nil fun G35 s35=>?_;refine ae (Rc.ld (au.own (i:=1) s35 rfl) (iR hu) bw.nil) ?_;exact hQ _ s35.ch
 rw[dx,aa];rw[<- Bool.and_assoc]at hmay;cases hm:(A.isSome && !oL f.o id 0) with
 | false=>
  rw[hm,Bool.false_and]at hmay;rw[Bool.not_false,aN];exact bad hmay
 | true=>
  rw[hm,Bool.true_and]at hmay;rw[Bool.not_true,aK];refine ae (v:=.int .i64 (n.length:Nat)) rfl ?_;rw[da,aa];by_cases he:n.length≤64
  ·rw[dT_ he]at hmay;rw[dF_ (by omega)];exact lK hmay
  ·rw[dF_ he]at hmay;rw[dT_ (by omega)];exact bad hmay
theorem fL.use {f:StF}{vo vp vh:ah}(hS:ka G f vo vp vh) (hQ:∀ wo wp wh G',Sp [] G [bm 34 wh (f.h.map b6.av),bm 36 wp ((cw f.p f.s.atB).map aL.av),bm 36 wo (f.o.map aL.av)] G'->Q (f.s.av wo wp wh) G'):al P fL.n [f.s.av vo vp vh] G Q:=by
 have ho:=hS.ok;have hl:=hS.lv;have hlp:=hS.lp;have hlo:=hS.lo;have hlh:=hS.lh;refine fL.sound ?_;unfold fL.S;rw[EV];intro i1 f1;have s1:=(Sp.nil G).row f1 (f.s.av vo vp vh);intro i3 f3;have s3:=s1.row f3 (StM.zero.av .nilSlice .nilSlice .nilSlice);revert s3;generalize ak.upd _ i3 _=G4;intro s3;have grow:∀ {ps:List LP}{G1:ak}{x:ah}{l:List aL}{K:ah->ak->Prop},Sp [] G ps G1->ff 36 G1 x (l.map aL.av)->(∀ u∈l,u.ok)->l.length≤1048576->(∀ w G2,Sp [] G (bm 36 w (l.map aL.av)::ps) G2->K w G2)->cn T G1 aj aj .nilSlice x K:=by
  intro ps G1 x l K s hx hok hlen hK;refine uN (T:=T) (ts:=aj) (e:=aG) (si:=dL) (ie:=cG) (tx:=aj) (xi:=dL) (i:=0) (vs:=[]) (xs:=l.map aL.av) bT rfl dE rfl (by decide) bT (.inr ⟨_,rfl⟩) (s.nz 36) rfl hx.elems (nW hok).1 (nW hok).2 (by rw[show cG.bytes=72 from rfl,List.length_map];simp;omega) fun w G5 s5=>?_;exact hK w G5 s5
 refine ae (St.dM (au.own (i:=1) s3 rfl) ho hl) ?_;refine grow s3 (hS.o.gZ.ch' s3.ch) hS.oko hS.lo fun wo G7 s7=>?_;have lo:bw wo:=(bm.own (i:=0) s7 rfl).leaf;refine St.tT (i:=2) s7 rfl ho hl lo fun G8 s8=>?_;have l8:bw wo/\bw vp/\bw vh:=⟨lo,hl.2.1,hl.2.2⟩;refine ae (St.eH (au.own (i:=2) s8 rfl) ho l8) ?_;refine ae (St.od (au.own (i:=2) s8 rfl) ho l8) ?_;refine bQ.use (hS.p.mv s8.ch) hS.lp fun w hw=>?_;have hfl:=jU f.p f.s.atB;refine grow s8 hw.gZ (mu hS.okp) (by omega) fun wp G14 s14=>?_;have lp:bw wp:=(bm.own (i:=0) s14 rfl).leaf;refine St.tg (i:=3) s14 rfl ho l8 lp fun G15 s15=>?_;have l15:bw wo/\bw wp/\bw vh:=⟨lo,lp,hl.2.2⟩;refine ae (St.l6 (au.own (i:=3) s15 rfl) ho l15) ?_;refine uN (T:=T) (ts:=aV) (e:=cz) (si:=jr) (ie:=kv) (tx:=aV) (xi:=jr) (i:=0) (vs:=[]) (xs:=f.h.map b6.av) gz rfl jN rfl (by decide) gz (.inr ⟨_,rfl⟩) (s15.nz 34) rfl (hS.h.gZ.ch' s15.ch).elems (wV hS.okh) (sa f.h) (by rw[show kv.bytes=48 from rfl,List.length_map];simp;omega) fun wh G18 s18=>?_;have lh:bw wh:=(bm.own (i:=0) s18 rfl).leaf;refine St.vO (i:=4) s18 rfl ho l15 lh fun G19 s19=>?_;refine ae (St.ld (au.own (i:=4) s19 rfl) ho ⟨lo,lp,lh⟩) ?_;refine St.st (i:=3) s19 rfl StM.bq lv0 ho ⟨lo,lp,lh⟩ fun G21 s21=>?_;refine ae (St.ld (au.own (i:=3) s21 rfl) ho ⟨lo,lp,lh⟩) ?_;exact hQ wo wp wh G21 ((s21.erase 3).erase 3)
end
end Go.Esc.M
namespace Go.Esc.M
open Go Go.Esc
def oH (f:StF) (n ca cb:Int):List UInt8×Bool:=
 if (kx f ca cb).e≠0 then ([],false)
 else ((oI (IntKind.i64.wrap (1-f.s.side)) n (if n≠f.s.ack then f.s.ptsB else f.s.ptsA) (kx f ca cb).q (kx f ca cb).o (pE (kx f ca cb).l)).1,
  decide ((oI (IntKind.i64.wrap (1-f.s.side)) n (if n≠f.s.ack then f.s.ptsB else f.s.ptsA) (kx f ca cb).q (kx f ca cb).o (pE (kx f ca cb).l)).2=0))
theorem DM {f:StF}{n ca cb:Int}(ho:f.s.ok) (hf:∀ p∈(kx f ca cb).l,p.ok):(oH f n ca cb).1.length≤1000000:=by
 unfold oH;split
 ·simp
 ·refine xe ?_ (zF hf);split
  ·exact ho.ptsB
  ·exact ho.ptsA
theorem iY.Lp {f:StF}(I:iY f):(oH f f.s.rem f.s.sgnA f.s.sgnB).2=true:=by
 obtain⟨h1,_,h3,_⟩:=I.Lc (a:=f.s.sgnA) (b:=f.s.sgnB) (by have:=I.a1;have:=I.a2;omega) I.a3 I.b1 (by have:=I.b2;have:=I.b3;omega);unfold oH;rw[if_neg (by rw[h1];decide)];rw[ID (by have:=I.side;rcases this with h | h<;>rw[h]<;>decide) (by have:=I.rem;have:=I.ack0;omega) (by have:=I.rem1;omega) h3];rfl
section
variable {F0:List AId}{G0 G:ak}{ps:List LP}{Q:ah->ak->Prop}
theorem eI.use {f:StF}{n ca cb:Int}{vo vp vh:ah}(hS:ka G f vo vp vh) (hQ:∀ G',Ch [] G [] G'->Q (.tuple [.str (oH f n ca cb).1,.bool (oH f n ca cb).2]) G'):al P eI.n [f.s.av vo vp vh,.int .i64 n,bE ca cb] G Q:=by
 have ho:=hS.ok;have hl:=hS.lv;have hlo:=hS.lo;have hlp:=hS.lp;refine eI.sound ?_;unfold eI.S;unfold oH at hQ;intro i1 f1;have s1:=(Sp.nil G).row f1 (f.s.av vo vp vh);intro i3 f3;have s3:=s1.row f3 (bE ca cb);revert s3;generalize ak.upd _ i3 _=G4;intro s3;have hg:=au.own (i:=1) s3 rfl;refine ae (v:=.ptr i1 [13,0] 16) rfl ?_;refine ae (St.sg hg ho hl) ?_;refine pg s3 ho.ptsA fun i7 G9 s9=>?_;have hg:=au.own (i:=2) s9 rfl;refine ae (St.mS hg ho hl) ?_;rw[cD,aa];obtain⟨pt,hpt⟩:∃ pt,pt=if n≠f.s.ack then f.s.ptsB else f.s.ptsA:=⟨_,rfl⟩;rw[<- hpt]at hQ;have hp32:pt.length=32:=by
  rw[hpt];split
  ·exact ho.ptsB
  ·exact ho.ptsA
 intro J40;have go:∀ G2,Sp [] G [au i7 (.agg (pt.map u8v)),au i3 (bE ca cb),au i1 (f.s.av vo vp vh)] G2->J40 G2:=by
  intro G15 s15;simp -zeta only [J40];have hg:=au.own (i:=2) s15 rfl;refine ae (St.uM hg ho hl) ?_;refine ae (St.tC hg ho hl) ?_;refine ae (St.dM hg ho hl) ?_;refine ae (St.eH hg ho hl) ?_;refine ae (cj cK (au.own (i:=1) s15 rfl) rfl) ?_;refine eZ.use (hS.o.mv s15.ch) (hS.p.mv s15.ch) hS.oko hS.okp hS.lo hS.lp fun x G22 t22=>?_;have hFok:=qh hS ca cb;have hFlen:=uj f ca cb;unfold kx at hQ hFok hFlen;obtain⟨F,hF⟩:∃ F,F=mN f.s.bo f.s.bp f.o f.p ca cb:=⟨_,rfl⟩;rw[<- hF]at hQ hFok hFlen t22 ⊢;obtain⟨F22,o22,c22⟩:=t22.out;have s22:=s15.new o22 c22;have lx:=(bm.own (i:=0) s22 rfl).leaf;refine ae (tv0 _ _) ?_;refine ae (tv1 _ _) ?_;obtain⟨w1,w2,w3⟩:=rr (o:=F.o) (q:=F.q) lx;refine jL s22 ng w1 (by rw[w2];rfl) w3 fun i25 G27 s27=>?_;rw[cD,aa,dC];refine⟨fun h2=>?_,fun h2=>?_⟩
  ·rw[if_pos h2]at hQ;exact hQ _ s27.ch
  rw[if_neg (fun hh=>hh h2)]at hQ;have hg:=au.own (i:=4) s27 rfl;refine ae (St.lJ hg ho hl) ?_;rw[b7,aa];refine ae (bM hp32 (au.own (i:=2) s27 rfl)) ?_;refine ae (iI (i:=0) s27 rfl lx).2.2.2 ?_;refine gd.use (bm.own (i:=1) s27 rfl).is hFok (by omega) fun y G34 t34=>?_;obtain⟨F34,o34,c34⟩:=t34.out;have s34:=s27.new o34 c34;have hg:=au.own (i:=5) s34 rfl;refine⟨⟨bM hp32 (au.own (i:=3) s34 rfl),St.lJ hg ho hl,trivial⟩,?_⟩;have hTok:=zF hFok;refine eV.use hp32 (bm.own (i:=0) s34 rfl).is hTok (by rw[pI];omega) fun G36 c36=>?_;have s36:=s34.tmp c36;refine ae (tv0 _ _) ?_;refine ae (tv1 _ _) ?_;rw[bB,aa];exact hQ _ s36.ch
 by_cases h1:n=f.s.ack
 ·rw[if_neg (fun hh=>hh h1)]at hpt;rw[dT_ h1,Bool.not_true,aK];rw[<- hpt]at s9;exact go _ s9
 ·rw[if_pos h1]at hpt;rw[dF_ h1,Bool.not_false,aN];refine ae (v:=.ptr i1 [13,1] 48) rfl ?_;refine ae (St.zb hg ho hl) ?_;refine sq (i:=0) s9 rfl ho.ptsA ho.ptsB fun G14 s14=>?_;rw[<- hpt]at s14;exact go _ s14
theorem ef.use {f:StF}{c:CfM}{vo vp vh:ah}(hS:ka G f vo vp vh) (I:iY f) (hc:c.ok) (hQ:∀ G',Ch [] G [] G'->Q (tI c f).av G'):al P ef.n [c.av,f.s.av vo vp vh] G Q:=by
 have ho:=hS.ok;have hl:=hS.lv;refine ef.sound ?_;unfold ef.S;rw[EW];have hth:=I.Lp;have hlen:=DM (n:=f.s.rem) ho (qh hS f.s.sgnA f.s.sgnB);have hag:tI c f={ cr.zero with kind:=4,index:=f.s.rem,hash:=mac c.key (oH f f.s.rem f.s.sgnA f.s.sgnB).1 }:=by
  have h1:(kx f f.s.sgnA f.s.sgnB).e=0:=(I.Lc (a:=f.s.sgnA) (b:=f.s.sgnB) (by have:=I.a1;have:=I.a2;omega) I.a3 I.b1 (by have:=I.b2;have:=I.b3;omega)).1;have e:(oH f f.s.rem f.s.sgnA f.s.sgnB).1=(oI (IntKind.i64.wrap (1-f.s.side)) f.s.rem (if f.s.rem≠f.s.ack then f.s.ptsB else f.s.ptsA) (kx f f.s.sgnA f.s.sgnB).q (kx f f.s.sgnA f.s.sgnB).o (pE (kx f f.s.sgnA f.s.sgnB).l)).1:=by
   unfold oH;rw[if_neg (fun hh=>hh h1)]
  rw[e];rfl
 rw[hag]at hQ;obtain⟨W,hW⟩:∃ W,W=oH f f.s.rem f.s.sgnA f.s.sgnB:=⟨_,rfl⟩;rw[<- hW]at hQ hth hlen;intro i1 f1;have s1:=(Sp.nil G).row f1 c.av;intro i3 f3;have s3:=s1.row f3 (f.s.av vo vp vh);intro i5 f5;have s5:=s3.row f5 cr.zero.av;revert s5;generalize ak.upd _ i5 _=G6;intro s5;have hg:=au.own (i:=1) s5 rfl;refine ae (St.ld hg ho hl) ?_;refine ae (St.mn hg ho hl) ?_;refine ae (St.vr hg ho hl) ?_;refine eI.use (hS.mv s5.ch) fun G11 c11=>?_;rw[<- hW];have s11:=s5.tmp c11;refine ae (tv0 _ _) ?_;refine ae (tv1 _ _) ?_;rw[hth,dx,aa,Bool.not_true,aK];have hg:=au.own (i:=1) s11 rfl;refine ae (St.mn hg ho hl) ?_;refine ae (Cf.Jq (au.own (i:=2) s11 rfl) hc) ?_;refine fc.use hc.key (by omega) fun G21 c21=>?_;have s21:=s11.tmp c21;refine⟨⟨St.mn (au.own (i:=1) s21 rfl) ho hl,trivial⟩,?_⟩;have hz:(mac c.key W.1).length=32:=gU _;revert hQ hz;generalize mac c.key W.1=Z;intro hQ hz;have hok:({ cr.zero with kind:=4,index:=f.s.rem,hash:=Z }:cr).ok:=⟨iu 4 (by decide) (by decide),cL,cL,ho.rem,cL,hz,rfl,by simp[cr.zero]⟩;refine ae (yC hz) ?_;refine nK (i:=0) s21 rfl cr.bq hok fun G23 s23=>?_;refine ae (cj eQ (au.own (i:=0) s23 rfl) (cr.fits hok)) ?_;exact hQ _ s23.ch
theorem fj.use {f:StF}{vo vp vh:ah}{u:aL}(hS:ka G f vo vp vh) (I:iY f) (hu:u.ok) (hQ:∀ G',Ch [] G [] G'->Q (.int .i64 (vu f u)) G'):al P fj.n [f.s.av vo vp vh,u.av] G Q:=by
 have ho:=hS.ok;have hl:=hS.lv;have hlo:=hS.lo;have hlp:=hS.lp;refine fj.sound ?_;unfold fj.S;unfold vu at hQ;intro i1 f1;have s1:=(Sp.nil G).row f1 (f.s.av vo vp vh);intro i3 f3;have s3:=s1.row f3 u.av;revert s3;generalize ak.upd _ i3 _=G4;intro s3;refine ae (St.ld (au.own (i:=1) s3 rfl) ho hl) ?_;refine cg.use (hS.mv s3.ch) fun G7 c7=>?_;have s7:=s3.tmp c7;refine jL (c:=bE (mM f.s) (mD f.s)) s7 cK rfl rfl rfl fun i8 G10 s10=>?_;have s10:Sp [] G [au i8 (bE (mM f.s) (mD f.s)),au i3 u.av,au i1 (f.s.av vo vp vh)] G10:=s10;intro J71;have rem:∀ G2,Sp [] G [au i8 (bE (mM f.s) (mD f.s)),au i3 u.av,au i1 (f.s.av vo vp vh)] G2 ->
   (∀ G',Ch [] G [] G'->Q (.int .i64 (if (ey false u.id (cw f.o (mM f.s))).isSome=false then 120 else 0)) G')->J71 G2:=by
  intro G57 s57 hQ;simp -zeta only [J71];refine ae (St.dM (au.own (i:=2) s57 rfl) ho hl) ?_;refine ae (jW (au.own (i:=0) s57 rfl)).1 ?_;refine ae (bF (i:=1) s57 rfl hu).2.1 ?_;refine bQ.use (hS.o.mv s57.ch) hS.lo fun w hw=>?_;refine⟨⟨(bF (i:=1) s57 rfl hu).2.1,trivial⟩,?_⟩;have hfl:=jU f.o (mM f.s);have hfo:=mu (n:=mM f.s) hS.oko;refine eU.use hw.gZ hfo (by omega) fun G64 c64=>?_;have s64:=s57.tmp c64;have hA:=lT (rm:=false) (id:=u.id) hfo;obtain⟨A,eA⟩:∃ A,A=ey false u.id (cw f.o (mM f.s)):=⟨_,rfl⟩;rw[<- eA]at hA hQ ⊢;refine ae (z6 _) ?_;refine ae (zZ _) ?_;refine vX s64 hA fun i67 G69 s69=>?_;rw[dx,aa];cases hAs:A.isSome with
  | false=>
   rw[hAs,if_pos rfl]at hQ;exact hQ _ s69.ch
  | true=>
   rw[hAs,if_neg (by decide)]at hQ;rw[Bool.not_true,aK];exact hQ _ s69.ch
 refine ae (St.ld (au.own (i:=2) s10 rfl) ho hl) ?_;refine cd.use (hS.mv s10.ch) fun G13 c13=>?_;have s13:=s10.tmp c13;rw[gO];refine⟨fun hd=>?_,fun hd=>?_⟩
 ·rw[if_pos hd]at hQ;exact hQ _ s13.ch
 rw[if_neg (by rw[hd];decide)]at hQ;have hg:=au.own (i:=2) s13 rfl;refine ae (St.eH hg ho hl) ?_;refine ae (dh (hS.p.gZ.ch' s13.ch)) ?_;refine ae (St.od hg ho hl) ?_;rw[b7,aa,fI,aa,aI];refine⟨fun h1=>?_,fun h1=>?_⟩
 ·rw[if_pos h1]at hQ;exact hQ _ s13.ch
 rw[if_neg h1]at hQ;refine ae (St.eH hg ho hl) ?_;refine ae (St.dM hg ho hl) ?_;refine ae (bF (i:=1) s13 rfl hu).2.2.2.2.2 ?_;refine fa.use (hS.p.gZ.ch' s13.ch) (hS.o.gZ.ch' s13.ch) hS.okp hS.oko (by omega) (by omega) hu fun G23 c23=>?_;have s23:=s13.tmp c23;rw[cD,aa,dC];refine⟨fun h2=>?_,fun h2=>?_⟩
 ·rw[if_pos h2]at hQ;exact hQ _ s23.ch
 rw[if_neg (fun hh=>hh h2)]at hQ;intro J53;refine ae (bF (i:=1) s23 rfl hu).1 ?_;rw[bB,aa,aI];refine⟨fun hk=>?_,fun hk=>?_⟩
 ·rw[if_pos hk]at hQ;have hg:=au.own (i:=2) s23 rfl;refine ae (St.eH hg ho hl) ?_;refine ae (St.dM hg ho hl) ?_;refine ae (jW (au.own (i:=0) s23 rfl)).1 ?_;refine bQ.use (hS.o.mv s23.ch) hS.lo fun w hw=>?_;refine⟨⟨St.eH hg ho hl,trivial⟩,?_⟩;have hfl:=jU f.o (mM f.s);refine eT.use (hS.p.gZ.ch' s23.ch) hw.gZ hS.lp (by omega) ?_;rw[Ac I.vp I.vo];rw[fI,aa];by_cases h3:(483:Int)≤((kX f.p f.o (mM f.s):Nat):Int)
  ·rw[if_pos (by omega)]at hQ;rw[dT_ h3];simp -zeta only [J53,aN];exact hQ _ s23.ch
  ·rw[if_neg (by omega)]at hQ;rw[dF_ h3];simp -zeta only [J53,aK];refine ae (bF (i:=1) s23 rfl hu).1 ?_;rw[hk,ez0,aa,aN];refine ae (bF (i:=1) s23 rfl hu).2.2.1 ?_;refine ae (St.ld hg ho hl) ?_;refine b5.use (hS.mv s23.ch) I fun G42 c42=>?_;have s42:=s23.tmp c42;refine⟨⟨(bF (i:=1) s42 rfl hu).2.2.1,trivial⟩,?_⟩;rw[da,aa,aI];refine⟨fun h4=>?_,fun h4=>?_⟩
   ·rw[if_pos h4]at hQ;exact hQ _ s42.ch
   rw[if_neg h4]at hQ;refine ae (bF (i:=1) s42 rfl hu).1 ?_;rw[hk,ez0,aa,aN];exact hQ _ s42.ch
 ·rw[if_neg hk]at hQ;simp -zeta only [J53,aK];have e1:az T .eql ay (.int .i64 u.kind) (.int .i64 1)=some (.bool false):=by rw[bB,dF_ hk]
  refine ae (bF (i:=1) s23 rfl hu).1 ?_;rw[e1,aa,aK];refine ae (bF (i:=1) s23 rfl hu).1 ?_;rw[e1,aa,aK];refine rem _ s23 fun G' hc=>?_;have hq:=hQ G' hc;by_cases hA:(ey false u.id (cw f.o (mM f.s))).isSome=false
  ·rw[if_pos hA]at hq ⊢;exact hq
  ·rw[if_neg hA]at hq ⊢;have hA':(ey false u.id (cw f.o (mM f.s))).isSome=true:=(Bool.not_eq_false _).mp hA;have e2:ey false u.id f.o=ey false u.id (cw f.o (mM f.s)):=by
    have:=yu (Y:=f.o.drop (mM f.s).toNat) hA';unfold cw at this ⊢
    rwa [List.take_append_drop]at this
   have h5:=((nG h2).2.2 hk).2.2;rw[e2]at h5;rw[if_neg h5]at hq;exact hq
theorem gb.use {f:StF}{c:CfM}{m:cr}{vo vp vh:ah}(hS:ka G f vo vp vh) (I:iY f) (hc:c.ok) (hm:m.ok)
  (hQ:∀ w G',Sp [] G [bm 36 w ((mU c f m).l.map aL.av)] G'->Q (.tuple [(mU c f m).r.av w,.int .i64 (mU c f m).e]) G'):al P gb.n [c.av,f.s.av vo vp vh,m.av] G Q:=by
 have ho:=hS.ok;have hl:=hS.lv;have hlo:=hS.lo;have hlp:=hS.lp;refine gb.sound ?_;unfold gb.S;rw[uU];obtain⟨R,hR⟩:∃ R,R=mU c f m:=⟨_,rfl⟩;rw[<- hR]at hQ;unfold mU at hR;intro i1 f1;have s1:=(Sp.nil G).row f1 c.av;intro i3 f3;have s3:=s1.row f3 (f.s.av vo vp vh);intro i5 f5;have s5:=s3.row f5 m.av;intro i7 f7;have s7:=s5.row f7 (RcM.zero.av .nilSlice);revert s7;generalize ak.upd _ i7 _=G8;intro s7;have hg:=au.own (i:=2) s7 rfl;refine ae (St.qc hg ho hl) ?_;refine ae (St.eH hg ho hl) ?_;refine ae (dh (hS.p.gZ.ch' s7.ch)) ?_;refine ae (v:=bE f.s.heldA (f.p.length:Nat)) rfl ?_;refine jL (c:=bE f.s.heldA (f.p.length:Nat)) s7 cK rfl rfl rfl fun i13 G15 s15=>?_;refine ae (St.ld (au.own (i:=3) s15 rfl) ho hl) ?_;refine cd.use (hS.mv s15.ch) fun G18 c18=>?_;have s18:=s15.tmp c18;have s18:Sp [] G [au i13 (bE f.s.heldA (f.p.length:Nat)),au i7 (RcM.zero.av .nilSlice),au i5 m.av,au i3 (f.s.av vo vp vh),au i1 c.av] G18:=s18;have no:∀ {e:Int}{G2:ak},Sp [] G [au i13 (bE f.s.heldA (f.p.length:Nat)),au i7 (RcM.zero.av .nilSlice),au i5 m.av,au i3 (f.s.av vo vp vh),au i1 c.av] G2->R=noC e ->
   wv (bj T ax []) fun v17=>wg (aF T G2 ax (.ptr i7 [] 0) v17) fun G18=>wv (ag T G18 ax (.ptr i7 [] 0)) fun v19=>Q (.tuple [v19,.int .i64 e]) G18:=by
  intro e G2 s2 he;refine kz (j:=1) s2 rfl RcM.bq bw.nil fun G' s'=>?_;have:=hQ .nilSlice G';rw[he]at this;exact this (((Sp.nil G).tmp s'.ch).nz 36)
 rw[gO];refine⟨fun hd=>no s18 (by rw[hR,if_pos hd]),fun hd=>?_⟩;rw[if_neg (by rw[hd];decide)]at hR;obtain⟨m0,_,_,m3,_,m5,_,_,_⟩:=gx (i:=2) s18 rfl hm;refine ae m0 ?_;rw[cD,aa,dC];refine⟨fun h1=>no s18 (by rw[hR,if_pos h1]),fun h1=>?_⟩;rw[if_neg (fun hh=>hh h1)]at hR;have hg:=au.own (i:=3) s18 rfl;intro J44;have bad:(281474976710653<f.s.loc\/m.index≠f.s.loc+1)->J44 (.bool true) G18:=by
  intro hb;simp -zeta only [J44,aN];exact no s18 (by rw[hR,if_pos hb])
 have lK:¬ (281474976710653<f.s.loc\/m.index≠f.s.loc+1)->J44 (.bool false) G18:=by
  intro hb;rw[if_neg hb]at hR;simp -zeta only [J44,aK];refine ae (cj cK (au.own (i:=0) s18 rfl) rfl) ?_;refine ae (St.GV hg ho hl) ?_;rw[r6 (t:=aU),aa,aI];refine⟨fun h2=>no s18 (by rw[hR,if_pos h2]),fun h2=>?_⟩;rw[if_neg h2]at hR;refine ae (Cf.ld (au.own (i:=4) s18 rfl) hc) ?_;refine ae (St.ld hg ho hl) ?_;refine ae m3 ?_;refine ae (cj cK (au.own (i:=0) s18 rfl) rfl) ?_;refine ga.use (hS.mv s18.ch) hc fun G50 c50=>?_;have s50:=s18.tmp c50;have hol:=Eb (c:=c) (n:=m.index) (qh hS f.s.heldA (f.p.length:Nat));obtain⟨W,hW⟩:∃ W,W=yV c f m.index f.s.heldA (f.p.length:Nat):=⟨_,rfl⟩;rw[<- hW]at hR hol ⊢;refine ae (tv0 _ _) ?_;refine ae (tv1 _ _) ?_;intro J80;have bad2:∀ G2,Sp [] G [au i13 (bE f.s.heldA (f.p.length:Nat)),au i7 (RcM.zero.av .nilSlice),au i5 m.av,au i3 (f.s.av vo vp vh),au i1 c.av] G2->(W.2=false\/mac c.pkey W.1≠m.hash)->J80 (.bool true) G2:=by
   intro G2 s2 hb;simp -zeta only [J80,aN];exact no s2 (by rw[hR,if_pos hb])
  have good2:∀ G2,Sp [] G [au i13 (bE f.s.heldA (f.p.length:Nat)),au i7 (RcM.zero.av .nilSlice),au i5 m.av,au i3 (f.s.av vo vp vh),au i1 c.av] G2->¬ (W.2=false\/mac c.pkey W.1≠m.hash)->J80 (.bool false) G2:=by
   intro G65 s65 hb;rw[if_neg hb]at hR;simp -zeta only [J80,aK];have hg:=au.own (i:=3) s65 rfl;obtain⟨_,_,_,m3,_,m5,_,_,_⟩:=gx (i:=2) s65 rfl hm;refine ae m3 ?_;refine ae (St.eH hg ho hl) ?_;refine ae (St.od hg ho hl) ?_;have hb0:0≤f.s.atB:=(by have:=I.b0;have:=I.b1;have:=I.b2;omega);have hfl:(cw f.p f.s.atB).length=f.s.atB.toNat:=by
    unfold cw;rw[List.length_take];have:=I.b3;omega
   rw[hfl]at hR;obtain⟨w2,e1,e2⟩:=hJ.drop (ie:=cG) (k:=.i64) (m:=f.s.atB.toNat) bT rfl dE (hS.p.mv s65.ch) (by rw[List.length_map];have:=I.b3;omega);rw[<- List.map_drop]at e2;rw[Int.toNat_of_nonneg hb0]at e1;refine ae e1 ?_;refine ae m5 ?_;have okd:∀ u∈f.p.drop f.s.atB.toNat,u.ok:=fun u hu=>hS.okp u (List.mem_of_mem_drop hu);refine uN (T:=T) (ts:=aj) (e:=aG) (si:=dL) (ie:=cG) (tx:=aj) (xi:=dL) (i:=0) (vs:=[]) (xs:=(f.p.drop f.s.atB.toNat).map aL.av) bT rfl dE rfl (by decide) bT (.inr ⟨_,rfl⟩) (s65.nz 36) rfl e2.elems (nW okd).1 (nW okd).2 (by rw[show cG.bytes=72 from rfl,List.length_map,List.length_drop];simp;omega) fun w3 G76 s76=>?_;have s76:Sp [] G [bm 36 w3 ((f.p.drop f.s.atB.toNat).map aL.av),au i13 (bE f.s.heldA (f.p.length:Nat)),au i7 (RcM.zero.av .nilSlice),au i5 m.av,au i3 (f.s.av vo vp vh),au i1 c.av] G76:=s76;obtain⟨_,_,_,m3,_,m5,_,_,_⟩:=gx (i:=3) s76 rfl hm;refine⟨⟨m5,m3,trivial⟩,?_⟩;have lw:bw w3:=(bm.own (i:=0) s76 rfl).leaf;have hok:({ RcM.zero with kind:=3,index:=m.index,sig:=m.hash }:RcM).ok:=⟨iu 3 (by decide) (by decide),aL.bq,hm.index,cL,cL,hm.hash,rfl,rfl,cL⟩;refine ae (AV hm.hash lw) ?_;refine Rc.st (i:=2) s76 rfl RcM.bq bw.nil hok lw fun G78 s78=>?_;refine ae (Rc.ld (au.own (i:=2) s78 rfl) hok lw) ?_;have:=hQ w3 G78;rw[hR]at this;exact this ((((s78.erase 1).erase 1).erase 1).erase 1 |>.erase 1)
  rw[dx,aa];cases hW2:W.2 with
  | false=>
   rw[Bool.not_false,aN];exact bad2 _ s50 (.inl hW2)
  | true=>
   rw[Bool.not_true,aK];refine ae (Cf.GR (au.own (i:=4) s50 rfl) hc) ?_;obtain⟨_,_,_,_,_,m5,_,_,_⟩:=gx (i:=2) s50 rfl hm;refine ae m5 ?_;refine fl.use hc.pkey hm.hash (by omega) fun G57 c57=>?_;have s57:=s50.tmp c57;rw[dx,aa];by_cases h3:mac c.pkey W.1=m.hash
   ·rw[dT_ h3,Bool.not_true,aK];have hg:=au.own (i:=3) s57 rfl;have hb0:0≤f.s.atB:=(by have:=I.b0;have:=I.b1;have:=I.b2;omega);have hb3:=I.b3;refine ae (St.od hg ho hl) ?_;rw[aM,aa,dF_ (by omega),aK];refine ae (St.od hg ho hl) ?_;refine ae (St.eH hg ho hl) ?_;refine ae (dh (hS.p.gZ.ch' s57.ch)) ?_;rw[da,aa,dF_ (by omega)];exact good2 _ s57 (by rw[hW2];simp[h3])
   ·rw[dF_ h3,Bool.not_false,aN];exact bad2 _ s57 (.inr h3)
 refine ae m3 ?_;refine ae (St.qb hg ho hl) ?_;have hloc:=I.loc1;have hloc0:=I.loc0;rw[bg,i64_in (by omega) (by omega),aa,cD,aa,dC];refine⟨fun h2=>bad (.inr h2),fun h2=>?_⟩;refine ae (St.qb hg ho hl) ?_;rw[da,aa];by_cases h3:281474976710653<f.s.loc
 ·rw[dT_ h3];exact bad (.inl h3)
 ·rw[dF_ h3];exact lK (by rintro (h | h);exact h3 h;exact h h2)
theorem dW.use {f:StF}{m:cr}{vo vp vh:ah}(hS:ka G f vo vp vh) (I:iY f) (hm:m.ok) (hQ:∀ G',Ch [] G [] G'->Q (w8 (jR f m)) G'):al P dW.n [f.s.av vo vp vh,m.av] G Q:=by
 have ho:=hS.ok;have hl:=hS.lv;refine dW.sound ?_;unfold dW.S;rw[uU];unfold jR at hQ;have hrem:=I.rem;have hrem1:=I.rem1;have hack:=I.ack0;rw[i64_in (n:=f.s.rem-1) (by omega) (by omega)]at hQ;intro i1 f1;have s1:=(Sp.nil G).row f1 (f.s.av vo vp vh);intro i3 f3;have s3:=s1.row f3 m.av;intro i5 f5;have s5:=s3.row f5 (RcM.zero.av .nilSlice);revert s5;generalize ak.upd _ i5 _=G6;intro s5;refine ae (St.ld (au.own (i:=2) s5 rfl) ho hl) ?_;refine cd.use (hS.mv s5.ch) fun G9 c9=>?_;have s9:=s5.tmp c9;have s9:Sp [] G [au i5 (RcM.zero.av .nilSlice),au i3 m.av,au i1 (f.s.av vo vp vh)] G9:=s9;rw[gO];refine⟨fun hd=>?_,fun hd=>?_⟩
 ·rw[if_pos hd]at hQ;exact kz (j:=0) s9 rfl RcM.bq bw.nil fun G' s'=>hQ G' s'.ch
 rw[if_neg (by rw[hd];decide)]at hQ;obtain⟨m0,_,_,m3,_,_,_,_,_⟩:=gx (i:=1) s9 rfl hm;refine ae m0 ?_;rw[cD,aa,dC];refine⟨fun h1=>?_,fun h1=>?_⟩
 ·rw[if_pos h1]at hQ;exact kz (j:=0) s9 rfl RcM.bq bw.nil fun G' s'=>hQ G' s'.ch
 rw[if_neg (fun hh=>hh h1)]at hQ;have hg:=au.own (i:=2) s9 rfl;intro J39;have bad:(f.s.rem=f.s.ack\/f.s.rem-1≠f.s.ack\/m.index≠f.s.ack)->J39 (.bool true) G9:=by
  intro hb;rw[if_pos hb]at hQ;simp -zeta only [J39,aN];exact kz (j:=0) s9 rfl RcM.bq bw.nil fun G' s'=>hQ G' s'.ch
 have lK:¬ (f.s.rem=f.s.ack\/f.s.rem-1≠f.s.ack\/m.index≠f.s.ack)->J39 (.bool false) G9:=by
  intro hb;rw[if_neg hb]at hQ;simp -zeta only [J39,aK];refine ae (gx (i:=1) s9 rfl hm).2.2.2.2.2.2.1 ?_;refine ae (v:=.ptr i1 [13,0] 16) rfl ?_;refine ae (St.sg hg ho hl) ?_;refine cA.use hm.secret fun G34 c34=>?_;have s34:=s9.tmp c34;have hg:=au.own (i:=2) s34 rfl;refine⟨⟨St.sg hg ho hl,trivial⟩,?_⟩;rw[qg (je _) ho.ptsA,aa,dC];refine⟨fun h2=>?_,fun h2=>?_⟩
  ·rw[if_pos h2]at hQ;exact kz (j:=0) s34 rfl RcM.bq bw.nil fun G' s'=>hQ G' s'.ch
  rw[if_neg (fun hh=>hh h2)]at hQ;refine ae (St.l6 hg ho hl) ?_;refine ae (St.mS hg ho hl) ?_;refine ae (gx (i:=1) s34 rfl hm).2.2.2.2.2.2.1 ?_;refine fN.use (hS.h.gZ.ch' s34.ch) hS.okh hS.lh hm.secret fun w G44 t44=>?_;have s44:=s34.tmp t44.ch;refine ae (tv0 _ _) ?_;refine ae (tv1 _ _) ?_;rw[cD,aa,dC];refine⟨fun h3=>?_,fun h3=>?_⟩
  ·rw[if_pos h3]at hQ;exact kz (j:=0) s44 rfl RcM.bq bw.nil fun G' s'=>hQ G' s'.ch
  rw[if_neg (fun hh=>hh h3)]at hQ;have hg:=au.own (i:=2) s44 rfl;obtain⟨_,_,_,_,_,m5,m6,_,_⟩:=gx (i:=1) s44 rfl hm;refine ae (St.mS hg ho hl) ?_;refine ae m6 ?_;refine ae m5 ?_;have hok:({ RcM.zero with kind:=4,index:=f.s.ack,secret:=m.secret,point:=m.hash }:RcM).ok:=⟨iu 4 (by decide) (by decide),aL.bq,ho.ack,cL,cL,rfl,hm.secret,hm.hash,cL⟩;refine ae (Cm hm.secret hm.hash) ?_;refine Rc.st (i:=0) s44 rfl RcM.bq bw.nil hok bw.nil fun G55 s55=>?_;refine ae (Rc.ld (au.own (i:=0) s55 rfl) hok bw.nil) ?_;exact hQ _ s55.ch
 refine ae (St.mn hg ho hl) ?_;refine ae (St.mS hg ho hl) ?_;rw[bg,i64_in (by omega) (by omega),aa,cD,aa,dC];refine⟨fun h2=>bad (by omega),fun h2=>?_⟩;refine ae m3 ?_;refine ae (St.mS hg ho hl) ?_;rw[cD,aa];by_cases h4:m.index=f.s.ack
 ·rw[dT_ h4];exact lK (by rintro (h | h | h);omega;omega;exact h h4)
 ·rw[dF_ h4];exact bad (.inr (.inr h4))
end
end Go.Esc.M
namespace Go.Esc
open Go Go.RowKit
theorem Sps.front {G:ak}:∀ {ps:List LP}{Fs:List (List AId)},Sps ps Fs G->∀ {i:Nat}{p:LP},ps[i]?=some p->∃ F,Sps (p::ps.eraseIdx i) (F::Fs.eraseIdx i) G/\∀ j∈(F::Fs.eraseIdx i).flatten,j∈Fs.flatten
 | [],_,_,_,_,hi=>by simp at hi
 | _::_,[],h,_,_,_=>h.elim
 | q::ps,E::Fs,h,0,p,hi=>by
  simp at hi;subst hi;exact⟨E,h,fun j hj=>hj⟩
 | q::ps,E::Fs,h,i+1,p,hi=>by
  obtain⟨h1,h2,h3⟩:=h;obtain⟨F,⟨k1,k2,k3⟩,k4⟩:=Sps.front h3 (i:=i) (p:=p) (by simpa using hi);have hF:∀ j∈F,j∈Fs.flatten:=fun j hj=>k4 j (by simp[hj]);refine⟨F,⟨k1,fun j hj hm=>?_,h1,fun j hj hm=>h2 j hj (k4 j ?_),k3⟩,fun j hj=>?_⟩
  ·have hm:j∈E\/j∈(Fs.eraseIdx i).flatten:=(by simpa using hm);rcases hm with hm|hm
   ·exact h2 j hm (hF j hj)
   ·exact k2 j hj hm
  ·simp only[List.flatten_cons,List.mem_append];exact .inr hm
  ·have hj:j∈F\/j∈E\/j∈(Fs.eraseIdx i).flatten:=(by simpa using hj);simp only[List.flatten_cons,List.mem_append];rcases hj with hj|hj|hj
   ·exact .inr (hF j hj)
   ·exact .inl hj
   ·exact .inr (k4 j (by simp only[List.flatten_cons,List.mem_append];exact .inr hj))
section
variable {F0:List AId}{G0 G:ak}{ps:List LP}
theorem Sp.front {p:LP}{i:Nat}(h:Sp F0 G0 ps G) (hi:ps[i]?=some p):Sp F0 G0 (p::ps.eraseIdx i) G:=by
 obtain⟨Fs,h1,h2⟩:=h;obtain⟨F,k1,k2⟩:=h1.front hi;exact⟨_,k1,h2.ro,h2.others,fun j hj=>h2.row j (k2 j hj)⟩
theorem Sps.take:∀ {ps:List LP}{Fs:List (List AId)},Sps ps Fs G->∀ n:Nat,Sps (ps.take n) (Fs.take n) G
 | [],[],_,n=>by simp[Sps]
 | [],_::_,h,_=>h.elim
 | _::_,[],h,_=>h.elim
 | p::ps,F::Fs,h,0=>by simp[Sps]
 | p::ps,F::Fs,h,n+1=>⟨h.1,fun j hj hm=>h.2.1 j hj (by
   simp only[List.mem_flatten]at hm ⊢
   obtain⟨l,hl,hj⟩:=hm
   exact⟨l,List.mem_of_mem_take hl,hj⟩),Sps.take h.2.2 n⟩
theorem Sp.take (h:Sp F0 G0 ps G) (n:Nat):Sp F0 G0 (ps.take n) G:=by
 obtain⟨Fs,h1,h2⟩:=h;refine⟨_,h1.take n,h2.ro,h2.others,fun j hj=>h2.row j ?_⟩;simp only[List.mem_flatten]at hj ⊢;obtain⟨l,hl,hj⟩:=hj;exact⟨l,List.mem_of_mem_take hl,hj⟩
end
end Go.Esc
namespace Go.Esc.M
open Go Go.Esc
def q6 (f:StF) (u:aL):StF:=⟨f.s,f.o++[u],f.p,f.h⟩
def yG (f:StF) (r:RcM):StF:=⟨{ f.s with rem:=r.index,sgnA:=r.cntA,sgnB:=r.cntB,behind:=true },f.o,f.p,f.h⟩
def xS (f:StF) (r:RcM) (l:List aL):StF:=⟨{ f.s with loc:=r.index,atA:=f.s.heldA,atB:=((cw f.p f.s.atB++l).length:Nat),sig:=r.sig,behind:=false },f.o,cw f.p f.s.atB++l,f.h⟩
def uQ (f:StF) (r:RcM):StF:=⟨{ f.s with ack:=f.s.ack+1,heldA:=f.s.sgnA,heldB:=f.s.sgnB,ptsA:=f.s.ptsB,ptsB:=r.point },f.o,f.p,(tw f.h r.index r.secret).1⟩
def Bb (f:StF) (r:RcM) (l:List aL) (f':StF):Prop:=
 (r.kind=1/\kJ f.o f.p r.upd=0/\f'=q6 f r.upd) ∨
 (r.kind=2/\f.s.rem=f.s.ack/\r.index=f.s.rem+1/\r.cntB=f.s.atB/\f.s.sgnA≤r.cntA/\r.cntA≤(f.o.length:Nat)/\f'=yG f r) ∨
 (r.kind=3/\(∀ (j:Nat) (u:aL),l[j]?=some u->kJ (cw f.p f.s.atB++l.take j) f.o u=0)/\r.index=f.s.loc+1/\f'=xS f r l) ∨
 (r.kind=4/\(tw f.h r.index r.secret).2=0/\f.s.rem=f.s.ack+1/\r.index=f.s.ack/\f'=uQ f r)
section
variable {F0:List AId}{G0 G:ak}{ps:List LP}{Q:ah->ak->Prop}
theorem Jz {x:ah}{l:List aL}{K:ah->ak->Prop}(s:Sp F0 G0 ps G) (hx:ff 36 G x (l.map aL.av)) (hok:∀ u∈l,u.ok) (hlen:l.length≤1048576) (hK:∀ w G2,Sp F0 G0 (bm 36 w (l.map aL.av)::ps) G2->K w G2):cn T G aj aj .nilSlice x K:=by
 refine uN (T:=T) (ts:=aj) (e:=aG) (si:=dL) (ie:=cG) (tx:=aj) (xi:=dL) (i:=0) (vs:=[]) (xs:=l.map aL.av) bT rfl dE rfl (by decide) bT (.inr ⟨_,rfl⟩) (s.nz 36) rfl hx.elems (nW hok).1 (nW hok).2 (by rw[show cG.bytes=72 from rfl,List.length_map];simp;omega) fun w G5 s5=>?_;exact hK w G5 s5
theorem Jy {v:ah}{l:List aL}{i:Nat}{u:aL}{K:ah->ak->Prop}(hs:Sp F0 G0 ps G) (hi:ps[i]?=some (bm 36 v (l.map aL.av))) (hu:u.ok) (hl:l.length≤1100000000) (hK:∀ w G',Sp F0 G0 (ps.set i (bm 36 w ((l++[u]).map aL.av))) G'->K w G') :
  bu T aj 1 [(0,u.av)] G fun v2 G'=>cn T G' aj aj v v2 K:=
 wm (T:=T) (ts:=aj) (e:=aG) (si:=dL) (ie:=cG) (i:=i) (vs:=l.map aL.av) bT rfl dE rfl (by decide) hs hi (aL.sz hu) (aL.okv _) (by decide) (by rw[List.length_map];simp only[cG];omega) fun w G' s=>hK w G' (by rw[List.map_append];exact s)
theorem ee.use {v w x:ah}{own other l:List aL}(hv:ff 36 G v (own.map aL.av)) (hw:ff 36 G w (other.map aL.av)) (hx:ff 36 G x (l.map aL.av)) (ok1:∀ u∈own,u.ok) (ok2:∀ u∈other,u.ok) (ok3:∀ u∈l,u.ok)
  (hlen:own.length+l.length≤1048576) (hlen2:other.length≤1048576) (h:∀ (j:Nat) (u:aL),l[j]?=some u->kJ (own++l.take j) other u=0)
  (hQ:∀ z G',Sp [] G [bm 36 z ((own++l).map aL.av)] G'->Q (.tuple [z,.bool true]) G'):al P ee.n [v,w,x] G Q:=by
 refine ee.sound ?_;unfold ee.S;refine Jz (Sp.nil G) hv ok1 (by omega) fun z G2 s2=>?_;intro R hR;have loop:∀ (n j:Nat) (z:ah) (G':ak),l.length-j=n->j≤l.length->Sp [] G [bm 36 z ((own++l.take j).map aL.av)] G'->R [w,x,z,.int .i64 (j:Int)] G':=by
  intro n;induction n with
  | zero=>
   intro j z G' hn hj s;have:j=l.length:=(by omega);subst this;rw[List.take_length]at s;refine hR _ _ _ _ _ ?_;refine ae (dh (hx.ch' s.ch)) ?_;rw[aM,aa,aI];exact⟨fun h=>absurd h (by omega),fun _=>hQ z G' s⟩
  | succ n ih=>
   intro j z G' hn hj s;obtain⟨u,hu⟩:∃ u,l[j]?=some u:=⟨_,List.getElem?_eq_getElem (by omega)⟩;have huo:=ok3 u (List.mem_of_getElem? hu);have hlt:(own++l.take j).length≤1048576:=(by rw[List.length_append,List.length_take];omega);have okj:∀ y∈own++l.take j,y.ok:=by
    intro y hy;rcases List.mem_append.1 hy with hy|hy
    ·exact ok1 y hy
    ·exact ok3 y (List.mem_of_mem_take hy)
   refine hR _ _ _ _ _ ?_;refine ae (dh (hx.ch' s.ch)) ?_;rw[aM,aa,aI];refine⟨fun _=>?_,fun h=>absurd (by omega) h⟩;obtain⟨a,a1,a2⟩:=nD (hx.ch' s.ch) hu;refine ae a1 ?_;refine ae a2 ?_;refine fa.use (bm.own (i:=0) s rfl).is (hw.ch' s.ch) okj ok2 (by omega) (by omega) huo fun G14 c14=>?_;have s14:=s.tmp c14;rw[h j u hu];refine ae nz0 ?_;rw[aK];obtain⟨a,a1,a2⟩:=nD (hx.ch' s14.ch) hu;refine ae a1 ?_;refine ae a2 ?_;refine Jy (i:=0) s14 rfl huo (by omega) fun z' G21 s21=>?_;rw[bg,i64_in (by omega) (by omega),aa];refine ih (j+1) z' G21 (by omega) (by omega) ?_;rw[List.take_add_one,hu,<- List.append_assoc];exact s21
 exact loop l.length 0 z G2 (by omega) (by omega) (by simpa using s2)
theorem dX.use {f f':StF}{r:RcM}{l:List aL}{v vo vp vh:ah}(hS:ka G f vo vp vh) (hr:r.ok) (hv:bw v) (hl:ff 36 G v (l.map aL.av)) (okl:∀ u∈l,u.ok) (hll:l.length≤4096) (hlo:f.o.length≤4096) (hlp:f.p.length≤4096) (hlh:f.h.length≤49) (h:Bb f r l f')
  (hQ:∀ wo wp wh G',Sp [] G [bm 34 wh (f'.h.map b6.av),bm 36 wp (f'.p.map aL.av),bm 36 wo (f'.o.map aL.av)] G'->Q (.tuple [f'.s.av wo wp wh,.bool true]) G'):al P dX.n [f.s.av vo vp vh,r.av v] G Q:=by
 have ho:=hS.ok;have lS:=hS.lv;refine dX.sound ?_;unfold dX.S;rw[EV];intro i1 f1;have s1:=(Sp.nil G).row f1 (f.s.av vo vp vh);intro i3 f3;have s3:=s1.row f3 (r.av v);intro i5 f5;have s5:=s3.row f5 (StM.zero.av .nilSlice .nilSlice .nilSlice);revert s5;generalize ak.upd _ i5 _=G6;intro s5;rw[<- EV];refine ae (St.ld (au.own (i:=2) s5 rfl) ho lS) ?_;refine fL.use (hS.mv s5.ch) fun wo0 wp0 wh G9 t9=>?_;have s9:Sp [] G [bm 34 wh (f.h.map b6.av),bm 36 wp0 ((cw f.p f.s.atB).map aL.av),bm 36 wo0 (f.o.map aL.av),au i5 (StM.zero.av .nilSlice .nilSlice .nilSlice),au i3 (r.av v),au i1 (f.s.av vo vp vh)] G9:=by
  obtain⟨Fs,h1,h2⟩:=s5;obtain⟨Gs,t1,t2⟩:=t9;have key:∀ {G':ak}{qs ps:List LP}{Gs Fs:List (List AId)},Sps ps Fs G'->Sps qs Gs G'->(∀ j∈Gs.flatten,j ∉ Fs.flatten)->Sps (qs++ps) (Gs++Fs) G':=by
   intro G' qs;induction qs with
   | nil=>
    intro ps Gs Fs h t _;cases Gs with
    | nil=>exact h
    | cons _ _=>exact t.elim
   | cons q qs ih=>
    intro ps Gs Fs h t hd;cases Gs with
    | nil=>exact t.elim
    | cons E Gs=>
     obtain⟨t1,t2,t3⟩:=t;refine⟨t1,fun j hj hm=>?_,ih h t3 fun j hj=>hd j (by simp only[List.flatten_cons,List.mem_append];exact .inr hj)⟩;have hm:j∈(Gs++Fs).flatten:=hm;rw[List.flatten_append,List.mem_append]at hm;rcases hm with hm|hm
     ·exact t2 j hj hm
     ·exact hd j (by simp only[List.flatten_cons,List.mem_append];exact .inl hj) hm
  refine⟨Gs++Fs,key (qs:=[bm 34 wh (f.h.map b6.av),bm 36 wp0 ((cw f.p f.s.atB).map aL.av),bm 36 wo0 (f.o.map aL.av)]) (h1.same fun j hj=>t2.same (E:=Fs.flatten) h1.rows (by simp) j hj) t1 fun j hj hm=>?_,h2.trans ?_⟩
  ·rcases t2.row j hj with h'|h'
   ·simp at h'
   ·have:=h1.rows j hm;rw[h']at this;cases this
  ·have:=t2.more (E:=Fs.flatten);simpa using this
 have l0:bw wo0/\bw wp0/\bw wh:=⟨(bm.own (i:=2) s9 rfl).leaf,(bm.own (i:=1) s9 rfl).leaf,(bm.own (i:=0) s9 rfl).leaf⟩;refine St.nw s9 ho l0 fun i10 G12 s12=>?_;refine ae (St.eH (au.own (i:=6) s12 rfl) ho lS) ?_;refine Jz s12 (hS.p.gZ.ch' s12.ch) hS.okp hS.lp fun wp G15 s15=>?_;have lp:=(bm.own (i:=0) s15 rfl).leaf;refine St.tg (i:=1) s15 rfl ho l0 lp fun G16 s16=>?_;have l1:bw wo0/\bw wp/\bw wh:=⟨l0.1,lp,l0.2.2⟩;have s16:Sp [] G [bm 36 wp (f.p.map aL.av),au i10 (f.s.av wo0 wp wh),bm 34 wh (f.h.map b6.av),bm 36 wp0 ((cw f.p f.s.atB).map aL.av),bm 36 wo0 (f.o.map aL.av),au i5 (StM.zero.av .nilSlice .nilSlice .nilSlice),au i3 (r.av v),au i1 (f.s.av vo vp vh)] G16:=s16;have hg:=au.own (i:=7) s16 rfl;have hr3:=au.own (i:=6) s16 rfl;refine ae (Rc.sj hr3 hr hv) ?_;rw[bB,aa,aI];have nk:∀ {a b:Int}{t:TypeId},a=b->az T .eql t (.int .i64 a) (.int .i64 b)=some (.bool true):=fun h=>by rw[h];exact ez0
 refine⟨fun hk=>?_,fun hk1=>?_⟩
 ·obtain⟨_,hn,rfl⟩:r.kind=1/\kJ f.o f.p r.upd=0/\f'=q6 f r.upd:=by
   rcases h with h|⟨h,_⟩|⟨h,_⟩|⟨h,_⟩
   ·exact h
   all_goals omega
  refine ae (St.dM hg ho lS) ?_;refine ae (St.eH hg ho lS) ?_;refine ae (Rc.Al hr3 hr hv) ?_;refine Df (T:=T) (ts:=aj) (e:=aG) (si:=dL) (ie:=cG) bT rfl dE rfl s16 (aL.sz hr.upd) (by decide) fun v22 G23 s23=>?_;have o1:∀ u∈[r.upd],u.ok:=fun u hu=>by rw[List.mem_singleton.1 hu];exact hr.upd
  refine ee.use (l:=[r.upd]) (hS.o.gZ.ch' s23.ch) (hS.p.gZ.ch' s23.ch) (bm.own (i:=0) s23 rfl).is hS.oko hS.okp o1 (by simp;omega) hS.lp (fun j u hj=>?_) fun z G25 t25=>?_
  ·cases j with
   | zero=>
    simp at hj;subst hj;simpa using hn
   | succ j=>simp at hj
  obtain⟨F25,o25,c25⟩:=t25.out;have s25:=s23.new o25 c25;have lz:=(bm.own (i:=0) s25 rfl).leaf;refine ae (tv0 _ _) ?_;refine ae (tv1 _ _) ?_;refine St.tT (i:=3) s25 rfl ho l1 lz fun G28 s28=>?_;have l2:bw z/\bw wp/\bw wh:=⟨lz,l1.2⟩;refine ae (St.ld (au.own (i:=3) s28 rfl) ho l2) ?_;refine St.st (i:=7) s28 rfl StM.bq lv0 ho l2 fun G30 s30=>?_;refine ae (St.ld (au.own (i:=7) s30 rfl) ho l2) ?_;exact hQ z wp wh G30 ((((s30.front (i:=0) rfl).front (i:=2) rfl).front (i:=4) rfl).take 3)
 ·rw[bB,aa,aI];refine⟨fun hk=>?_,fun hk2=>?_⟩
  ·obtain⟨_,h1,h2,h3,h4,h5,rfl⟩:r.kind=2/\f.s.rem=f.s.ack/\r.index=f.s.rem+1/\r.cntB=f.s.atB/\f.s.sgnA≤r.cntA/\r.cntA≤(f.o.length:Nat)/\f'=yG f r:=by
    rcases h with ⟨h,_⟩|h|⟨h,_⟩|⟨h,_⟩
    ·omega
    ·exact h
    all_goals omega
   have hri:=hr.index;refine ae (Rc.ni hr3 hr hv) ?_;refine St.Lw (i:=1) s16 rfl ho l1 _ fun G34 s34=>?_;have o34:({ f.s with rem:=r.index }:StM).ok:=⟨ho.side,ho.cap,ho.bo,ho.bp,ho.loc,hr.index,ho.ack,ho.atA,ho.atB,ho.sgnA,ho.sgnB,ho.heldA,ho.heldB,ho.ptsA,ho.ptsB,ho.sig,ho.failed,ho.closed⟩;refine ae (Rc.FE (au.own (i:=6) s34 rfl) hr hv) ?_;refine St.Lv (s:={ f.s with rem:=r.index }) (i:=1) s34 rfl o34 l1 _ _ fun G36 s36=>?_;have o36:({ f.s with rem:=r.index,sgnA:=r.cntA,sgnB:=r.cntB }:StM).ok:=⟨ho.side,ho.cap,ho.bo,ho.bp,ho.loc,hr.index,ho.ack,ho.atA,ho.atB,hr.cntA,hr.cntB,ho.heldA,ho.heldB,ho.ptsA,ho.ptsB,ho.sig,ho.failed,ho.closed⟩;refine St.BE (s:={ f.s with rem:=r.index,sgnA:=r.cntA,sgnB:=r.cntB }) (i:=1) s36 rfl o36 l1 _ fun G37 s37=>?_;have o37:(yG f r).s.ok:=⟨ho.side,ho.cap,ho.bo,ho.bp,ho.loc,hr.index,ho.ack,ho.atA,ho.atB,hr.cntA,hr.cntB,ho.heldA,ho.heldB,ho.ptsA,ho.ptsB,ho.sig,ho.failed,ho.closed⟩;have s37:Sp [] G [bm 36 wp (f.p.map aL.av),au i10 ((yG f r).s.av wo0 wp wh),bm 34 wh (f.h.map b6.av),bm 36 wp0 ((cw f.p f.s.atB).map aL.av),bm 36 wo0 (f.o.map aL.av),au i5 (StM.zero.av .nilSlice .nilSlice .nilSlice),au i3 (r.av v),au i1 (f.s.av vo vp vh)] G37:=s37;have hg:=au.own (i:=7) s37 rfl;have hr3:=au.own (i:=6) s37 rfl;intro J64;refine ae (St.ld (au.own (i:=1) s37 rfl) o37 l1) ?_;refine ae (St.mn hg ho lS) ?_;refine ae (St.mS hg ho lS) ?_;refine ae (nk h1) ?_;rw[aN];refine ae (Rc.ni hr3 hr hv) ?_;refine ae (St.mn hg ho lS) ?_;rw[bg,i64_in (by have:=hri.1;omega) (by have:=hri.2;omega),aa];refine ae (nk h2) ?_;rw[aN];refine ae (Rc.KC hr3 hr hv) ?_;refine ae (St.od hg ho lS) ?_;refine ae (nk h3) ?_;rw[aN];refine ae (Rc.C5 hr3 hr hv) ?_;refine ae (St.KB hg ho lS) ?_;rw[fI,aa,dT_ h4,aN];refine ae (Rc.C5 hr3 hr hv) ?_;refine ae (St.dM hg ho lS) ?_;refine ae (dh (hS.o.gZ.ch' s37.ch)) ?_;rw[kQ,aa,dT_ h5];refine St.st (i:=5) s37 rfl StM.bq lv0 o37 l1 fun G56 s56=>?_;refine⟨⟨St.dM (au.own (i:=7) s56 rfl) ho lS,Rc.C5 (au.own (i:=6) s56 rfl) hr hv,trivial⟩,?_⟩;simp -zeta only [J64];refine ae (St.ld (au.own (i:=5) s56 rfl) o37 l1) ?_;exact hQ wo0 wp wh G56 ((((s56.front (i:=4) rfl).front (i:=1) rfl).front (i:=3) rfl).take 3)
  ·rw[bB,aa,aI];refine⟨fun hk=>?_,fun hk3=>?_⟩
   ·obtain⟨_,h1,h2,rfl⟩:r.kind=3/\(∀ (j:Nat) (u:aL),l[j]?=some u->kJ (cw f.p f.s.atB++l.take j) f.o u=0)/\r.index=f.s.loc+1/\f'=xS f r l:=by
     rcases h with ⟨h,_⟩|⟨h,_⟩|h|⟨h,_⟩
     ·omega
     ·omega
     ·exact h
     ·omega
    have hri:=hr.index;have hfl:=jU f.p f.s.atB;refine ae (St.eH hg ho lS) ?_;refine ae (St.od hg ho lS) ?_;refine ae (St.dM hg ho lS) ?_;refine ae (Rc.za hr3 hr hv) ?_;refine bQ.use (hS.p.mv s16.ch) hS.lp fun w hw=>?_;refine⟨⟨Rc.za hr3 hr hv,St.dM hg ho lS,trivial⟩,?_⟩;refine ee.use hw.gZ (hS.o.gZ.ch' s16.ch) (hl.ch' s16.ch) (mu hS.okp) hS.oko okl (by omega) hS.lo h1 fun z G73 t73=>?_;obtain⟨F73,o73,c73⟩:=t73.out;have s73:=s16.new o73 c73;have lz:=(bm.own (i:=0) s73 rfl).leaf;refine ae (tv0 _ _) ?_;refine ae (tv1 _ _) ?_;refine St.tg (i:=2) s73 rfl ho l1 lz fun G76 s76=>?_;have l2:bw wo0/\bw z/\bw wh:=⟨l1.1,lz,l1.2.2⟩;refine ae (Rc.ni (au.own (i:=7) s76 rfl) hr hv) ?_;refine St.Lx (i:=2) s76 rfl ho l2 _ fun G78 s78=>?_;have o78:({ f.s with loc:=r.index }:StM).ok:=⟨ho.side,ho.cap,ho.bo,ho.bp,hr.index,ho.rem,ho.ack,ho.atA,ho.atB,ho.sgnA,ho.sgnB,ho.heldA,ho.heldB,ho.ptsA,ho.ptsB,ho.sig,ho.failed,ho.closed⟩;refine ae (St.qc (au.own (i:=8) s78 rfl) ho lS) ?_;refine ae (dh (bm.own (i:=0) s78 rfl).is) ?_;refine ae (v:=bE f.s.heldA ((cw f.p f.s.atB++l).length:Nat)) rfl ?_;refine St.Mf (s:={ f.s with loc:=r.index }) (i:=2) s78 rfl o78 l2 _ _ fun G82 s82=>?_;have ib:I64 ((cw f.p f.s.atB++l).length:Nat):=iu _ (by omega) (by rw[List.length_append];omega);have o82:({ f.s with loc:=r.index,atA:=f.s.heldA,atB:=((cw f.p f.s.atB++l).length:Nat) }:StM).ok:=⟨ho.side,ho.cap,ho.bo,ho.bp,hr.index,ho.rem,ho.ack,ho.heldA,ib,ho.sgnA,ho.sgnB,ho.heldA,ho.heldB,ho.ptsA,ho.ptsB,ho.sig,ho.failed,ho.closed⟩;refine ae (Rc.xB (au.own (i:=7) s82 rfl) hr hv) ?_;refine St.IQ (s:={ f.s with loc:=r.index,atA:=f.s.heldA,atB:=((cw f.p f.s.atB++l).length:Nat) }) (i:=2) s82 rfl o82 l2 hr.sig fun G84 s84=>?_;have o84:({ f.s with loc:=r.index,atA:=f.s.heldA,atB:=((cw f.p f.s.atB++l).length:Nat),sig:=r.sig }:StM).ok:=⟨ho.side,ho.cap,ho.bo,ho.bp,hr.index,ho.rem,ho.ack,ho.heldA,ib,ho.sgnA,ho.sgnB,ho.heldA,ho.heldB,ho.ptsA,ho.ptsB,hr.sig,ho.failed,ho.closed⟩;refine St.BE (s:={ f.s with loc:=r.index,atA:=f.s.heldA,atB:=((cw f.p f.s.atB++l).length:Nat),sig:=r.sig }) (i:=2) s84 rfl o84 l2 _ fun G85 s85=>?_;have o85:(xS f r l).s.ok:=⟨ho.side,ho.cap,ho.bo,ho.bp,hr.index,ho.rem,ho.ack,ho.heldA,ib,ho.sgnA,ho.sgnB,ho.heldA,ho.heldB,ho.ptsA,ho.ptsB,hr.sig,ho.failed,ho.closed⟩;have s85:Sp [] G [bm 36 z ((cw f.p f.s.atB++l).map aL.av),bm 36 wp (f.p.map aL.av),au i10 ((xS f r l).s.av wo0 z wh),bm 34 wh (f.h.map b6.av),bm 36 wp0 ((cw f.p f.s.atB).map aL.av),bm 36 wo0 (f.o.map aL.av),au i5 (StM.zero.av .nilSlice .nilSlice .nilSlice),au i3 (r.av v),au i1 (f.s.av vo vp vh)] G85:=s85;refine ae (St.ld (au.own (i:=2) s85 rfl) o85 l2) ?_;rw[aN];refine ae (Rc.ni (au.own (i:=7) s85 rfl) hr hv) ?_;refine ae (St.qb (au.own (i:=8) s85 rfl) ho lS) ?_;rw[bg,i64_in (by have:=hri.1;omega) (by have:=hri.2;omega),aa];refine ae (nk h2) ?_;refine St.st (i:=6) s85 rfl StM.bq lv0 o85 l2 fun G91 s91=>?_;refine⟨⟨St.qb (au.own (i:=8) s91 rfl) ho lS,Rc.ni (au.own (i:=7) s91 rfl) hr hv,trivial⟩,?_⟩;refine ae (St.ld (au.own (i:=6) s91 rfl) o85 l2) ?_;exact hQ wo0 z wh G91 ((((s91.front (i:=5) rfl).front (i:=1) rfl).front (i:=4) rfl).take 3)
   ·rw[bB,aa,aI];refine⟨fun hk=>?_,fun hk4=>?_⟩
    ·obtain⟨_,h1,h2,h3,rfl⟩:r.kind=4/\(tw f.h r.index r.secret).2=0/\f.s.rem=f.s.ack+1/\r.index=f.s.ack/\f'=uQ f r:=by
      rcases h with ⟨h,_⟩|⟨h,_⟩|⟨h,_⟩|h
      ·omega
      ·omega
      ·omega
      ·exact h
     have hrm:=ho.rem;refine ae (St.l6 hg ho lS) ?_;refine ae (Rc.ni hr3 hr hv) ?_;refine ae (Rc.xC hr3 hr hv) ?_;refine fN.use (hS.h.gZ.ch' s16.ch) hS.okh (by omega) hr.secret fun z G103 t103=>?_;obtain⟨F103,o103,c103⟩:=t103.out;have s103:=s16.new o103 c103;have lz:=(bm.own (i:=0) s103 rfl).leaf;refine ae (tv0 _ _) ?_;refine ae (tv1 _ _) ?_;rw[h1];refine St.vO (i:=2) s103 rfl ho l1 lz fun G106 s106=>?_;have l2:bw wo0/\bw wp/\bw z:=⟨l1.1,l1.2.1,lz⟩;refine ae (St.mS (au.own (i:=8) s106 rfl) ho lS) ?_;have ia:I64 (f.s.ack+1):=(by rw[<- h2];exact hrm);rw[bg,i64_in ia.1 ia.2,aa];refine St.Ly (i:=2) s106 rfl ho l2 _ fun G109 s109=>?_;have o109:({ f.s with ack:=f.s.ack+1 }:StM).ok:=⟨ho.side,ho.cap,ho.bo,ho.bp,ho.loc,ho.rem,ia,ho.atA,ho.atB,ho.sgnA,ho.sgnB,ho.heldA,ho.heldB,ho.ptsA,ho.ptsB,ho.sig,ho.failed,ho.closed⟩;refine ae (St.vr (au.own (i:=8) s109 rfl) ho lS) ?_;refine St.Kl (s:={ f.s with ack:=f.s.ack+1 }) (i:=2) s109 rfl o109 l2 _ _ fun G111 s111=>?_;have o111:({ f.s with ack:=f.s.ack+1,heldA:=f.s.sgnA,heldB:=f.s.sgnB }:StM).ok:=⟨ho.side,ho.cap,ho.bo,ho.bp,ho.loc,ho.rem,ia,ho.atA,ho.atB,ho.sgnA,ho.sgnB,ho.sgnA,ho.sgnB,ho.ptsA,ho.ptsB,ho.sig,ho.failed,ho.closed⟩;refine ae (v:=.ptr i1 [13,1] 48) rfl ?_;refine ae (St.zb (au.own (i:=8) s111 rfl) ho lS) ?_;refine ae (Rc.An (au.own (i:=7) s111 rfl) hr hv) ?_;refine ae (AR ho.ptsB hr.point) ?_;refine St.IU (s:={ f.s with ack:=f.s.ack+1,heldA:=f.s.sgnA,heldB:=f.s.sgnB }) (i:=2) s111 rfl o111 l2 ho.ptsB hr.point fun G116 s116=>?_;have o116:(uQ f r).s.ok:=⟨ho.side,ho.cap,ho.bo,ho.bp,ho.loc,ho.rem,ia,ho.atA,ho.atB,ho.sgnA,ho.sgnB,ho.sgnA,ho.sgnB,ho.ptsB,hr.point,ho.sig,ho.failed,ho.closed⟩;have s116:Sp [] G [bm 34 z ((tw f.h r.index r.secret).1.map b6.av),bm 36 wp (f.p.map aL.av),au i10 ((uQ f r).s.av wo0 wp z),bm 34 wh (f.h.map b6.av),bm 36 wp0 ((cw f.p f.s.atB).map aL.av),bm 36 wo0 (f.o.map aL.av),au i5 (StM.zero.av .nilSlice .nilSlice .nilSlice),au i3 (r.av v),au i1 (f.s.av vo vp vh)] G116:=s116;refine ae (St.ld (au.own (i:=2) s116 rfl) o116 l2) ?_;refine ae (nk rfl) ?_;rw[aN];refine ae (St.mn (au.own (i:=8) s116 rfl) ho lS) ?_;refine ae (St.mS (au.own (i:=8) s116 rfl) ho lS) ?_;rw[bg,i64_in ia.1 ia.2,aa];refine ae (nk h2) ?_;rw[aN];refine ae (Rc.ni (au.own (i:=7) s116 rfl) hr hv) ?_;refine ae (St.mS (au.own (i:=8) s116 rfl) ho lS) ?_;refine ae (nk h3) ?_;refine St.st (i:=6) s116 rfl StM.bq lv0 o116 l2 fun G126 s126=>?_;refine⟨⟨St.mS (au.own (i:=8) s126 rfl) ho lS,Rc.ni (au.own (i:=7) s126 rfl) hr hv,trivial⟩,?_⟩;refine ae (St.ld (au.own (i:=6) s126 rfl) o116 l2) ?_;exact hQ wo0 wp z G126 ((((s126.front (i:=5) rfl).front (i:=2) rfl).front (i:=2) rfl).take 3)
    ·exfalso;rcases h with ⟨h,_⟩|⟨h,_⟩|⟨h,_⟩|⟨h,_⟩
     ·exact hk1 h
     ·exact hk2 h
     ·exact hk3 h
     ·exact hk4 h
end
end Go.Esc.M
