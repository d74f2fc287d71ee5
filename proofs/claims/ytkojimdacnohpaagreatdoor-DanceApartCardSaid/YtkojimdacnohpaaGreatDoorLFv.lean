import Derived.Test.YtkojimdacnohpaaGreatDoorLFj
import Derived.Test.YtkojimdacnohpaaGreatDoorLPw
import Derived.Test.YtkojimdacnohpaaGreatDoorLHb
import Derived.Test.YtkojimdacnohpaaGreatDoorLFb
set_option maxHeartbeats 8000000
set_option linter.unusedSimpArgs false
set_option linter.unusedVariables false
set_option maxRecDepth 20000
namespace Go.Esc.M
open Go Go.Esc
def Blk (s:Nat) (l:List ba):Prop:=∀ i,fT ((l.drop (i*s)).take s)
theorem Hi (s:Nat):Blk s []:=fun i=>by simp[fT]
theorem tH {s c:Nat}{X S:List ba}(h:Blk s X) (hl:X.length=c*s) (hS:S.length≤s) (ho:fT S):Blk s (X++S):=by
 intro i;by_cases h1:i<c
 ·have e:c*s=i*s+s+(c-i-1)*s:=by
   have:c=i+1+(c-i-1):=by omega
   conv=>lhs;rw[this]
   rw[Nat.add_mul,Nat.add_mul,Nat.one_mul]
  rw[List.drop_append_of_le_length (by omega),List.take_append_of_le_length (by rw[List.length_drop];omega)];exact h i
 ·by_cases h2:i=c
  ·subst h2;rw[<- hl,List.drop_left,List.take_of_length_le hS];exact ho
  ·have e:i*s=c*s+s+(i-c-1)*s:=by
    have:i=c+1+(i-c-1):=by omega
    conv=>lhs;rw[this]
    rw[Nat.add_mul,Nat.add_mul,Nat.one_mul]
   rw[List.drop_eq_nil_of_le (by rw[List.length_append];omega)];simp[fT]
theorem JR {s c:Nat}{l:List ba}(h:Blk s l):Blk s (l.drop (c*s)):=fun i=>by
 rw[List.drop_drop,<- Nat.add_mul];exact h _
theorem Dh {s:Nat}{l:List ba}(h:Blk s l) (hl:l.length≤s):fT l:=by
 have:=h 0;rw[Nat.zero_mul,List.drop_zero,List.take_of_length_le hl]at this;exact this
theorem xQ {s:Nat}{P T:List ba}(h:Blk s (P++T)) (hP:P.length=s):fT P/\Blk s T:=by
 constructor
 ·have:=h 0;rw[Nat.zero_mul,List.drop_zero,<- hP,List.take_left]at this;exact this
 ·have:=JR (c:=1) h;rw[Nat.one_mul,<- hP,List.drop_left]at this;rw[hP]at this;exact this
section
variable {F0:List AId}{G0 G:ak}{ps:List LP}{Q:ah->ak->Prop}
theorem Lu.use {v:ah}{L:List ba}(hok:∀ p∈L,p.ok) (hlen:L.length≤1048576) (hs:Sp F0 G0 (bm 35 v (L.map ba.av)::ps) G)
  (hQ:∀ S G',gy S L->fT S->Sp F0 G0 (bm 35 v (S.map ba.av)::ps) G'->Q (.tuple []) G') :
  al P bJ.n [v,.int .i64 (L.length:Int),uF] G Q:=by
 refine bJ.sound ?_;unfold bJ.S;have okS:∀ {S:List ba},gy S L->∀ p∈S,p.ok:=fun h p hp=>hok p (h.mem.1 hp);have last:∀ (c:Nat) (X T0:List ba) (G':ak),T0.length<20->X.length=c*20->Blk 20 X->gy (X++T0) L->Sp F0 G0 (bm 35 v ((X++T0).map ba.av)::ps) G'->∀ R1:List ah->ak->Prop,(∀ (x3 x4 x5 x6 x7 x8:ah) (G2:ak),(wv (az T .leq ay x8 x4) fun v9=>brB (some v9)   (al P bh.n [x3,x7,x8,x5] G2 fun v10 G11=>wv (az T .add ay x8 x6) fun v12=>R1 [x3,x4,x5,x6,x8,v12] G11)   (al P bh.n [x3,x7,x4,x5] G2 fun v13 G14=>∀ R15:List ah->ak->Prop,  (∀ (x17 x18 x19 x20:ah) (G16:ak),(wv (az T .lss ay x20 x18) fun v21=>brB (some v21)   (wv (az T .mul ay (.int .i64 2) x20) fun v22=>∀ R23:List ah->ak->Prop,  (∀ (x25 x26 x27 x28 x29 x30:ah) (G24:ak),(wv (az T .leq ay x30 x26) fun v31=>brB (some v31)   (wv (az T .add ay x29 x28) fun v32=>al P aY.n [x25,x29,v32,x30,x27] G24 fun v33 G34=>wv (az T .mul ay (.int .i64 2) x28) fun v35=>wv (az T .add ay x30 v35) fun v36=>R23 [x25,x26,x27,x28,x30,v36] G34)   (wv (az T .add ay x29 x28) fun v37=>wv (az T .lss ay v37 x26) fun v38=>brB (some v38)   (al P aY.n [x25,x29,v37,x26,x27] G24 fun v39 G40=>wv (az T .mul ay x28 (.int .i64 2)) fun v43=>R15 [x25,x26,x27,v43] G40)   (wv (az T .mul ay x28 (.int .i64 2)) fun v44=>R15 [x25,x26,x27,v44] G24)))->R23 [x25,x26,x27,x28,x29,x30] G24)->  R23 [x17,x18,x19,x20,.int .i64 0,v22] G16)   (Q (.tuple []) G16))->R15 [x17,x18,x19,x20] G16)->  R15 [x3,x4,x5,x6] G14))->R1 [x3,x4,x5,x6,x7,x8] G2)->R1 [v,.int .i64 (L.length:Int),uF,.int .i64 20,.int .i64 (X.length:Int),.int .i64 ((X.length+20:Nat):Int)] G':=by
  intro c X T0 G' h20 hX hb hst sp R hR;have hL:=hst.length;rw[List.length_append]at hL;refine hR _ _ _ _ _ _ _ ?_;rw[kQ,aa,dF_ (by omega),aK];refine B5.use (X:=X) (S:=T0) (Y:=[]) (fun p hp=>okS hst p (by simpa using hp)) (by simp only[List.length_append,List.length_nil];omega) rfl (by omega) (by simpa using sp) fun S' G1 q1 q2 sp1=>?_;have lS:=q1.length;have hM:Blk 20 (X++S'):=tH hb hX (by omega) q2;have hMst:gy (X++S') L:=(gy.append (gy.refl X) q1).trans hst;have sp1:Sp F0 G0 (bm 35 v ((X++S').map ba.av)::ps) G1:=by simpa using sp1
  intro R15 hR15;have outer:∀ (n bs:Nat) (M:List ba) (G':ak),L.length-bs≤n->1≤bs->bs≤2097152->Blk bs M->gy M L->Sp F0 G0 (bm 35 v (M.map ba.av)::ps) G'->R15 [v,.int .i64 (L.length:Int),uF,.int .i64 (bs:Int)] G':=by
   intro n;induction n with
   | zero=>
    intro bs M G' hn h1 h2 hb hst sp;refine hR15 _ _ _ _ _ ?_;rw[aM,aa,dF_ (by omega),aK];exact hQ M G' hst (Dh hb (by rw[hst.length];omega)) sp
   | succ n ihn=>
    intro bs M G' hn h1 h2 hb hst sp;have hML:=hst.length;by_cases hbl:L.length≤bs
    ·exact ihn bs M G' (by omega) h1 h2 hb hst sp
    ·refine hR15 _ _ _ _ _ ?_;rw[aM,aa,dT_ (by omega),aN];rw[kP,i64_in (by omega) (by omega),aa];intro R23 hR23;have inner:∀ (k c:Nat) (X T0:List ba) (G':ak),T0.length≤k->X.length=c*(2*bs)->Blk (2*bs) X->Blk bs T0->gy (X++T0) L->Sp F0 G0 (bm 35 v ((X++T0).map ba.av)::ps) G' ->
       R23 [v,.int .i64 (L.length:Int),uF,.int .i64 (bs:Int),.int .i64 (X.length:Int),.int .i64 ((X.length+2*bs:Nat):Int)] G':=by
      intro k;have fin:∀ (c:Nat) (X T0:List ba) (G':ak),T0.length<2*bs->X.length=c*(2*bs)->Blk (2*bs) X->Blk bs T0->gy (X++T0) L->Sp F0 G0 (bm 35 v ((X++T0).map ba.av)::ps) G' ->
        R23 [v,.int .i64 (L.length:Int),uF,.int .i64 (bs:Int),.int .i64 (X.length:Int),.int .i64 ((X.length+2*bs:Nat):Int)] G':=by
       intro c X T0 G' hlt hX hbX hbT hst sp;have hL:=hst.length;rw[List.length_append]at hL;refine hR23 _ _ _ _ _ _ _ ?_;rw[kQ,aa,dF_ (by omega),aK];rw[bg,i64_in (by omega) (by omega),aa,aM,aa,aI];refine⟨fun hlt2=>?_,fun hge=>?_⟩
       ·obtain⟨P,hP⟩:∃ x,x=T0.take bs:=⟨_,rfl⟩;obtain⟨T1,hT1⟩:∃ x,x=T0.drop bs:=⟨_,rfl⟩;have hT:T0=P++T1:=(by rw[hP,hT1,List.take_append_drop]);have lP:P.length=bs:=(by rw[hP,List.length_take];omega);have lT1:T1.length=T0.length-bs:=(by rw[hT1,List.length_drop]);rw[hT]at sp hst hbT;obtain⟨sP,bT1⟩:=xQ hbT lP;refine DV.use (P.length+T1.length) (X:=X) (A:=P) (B:=T1) (Y:=[]) (Nat.le_refl _) (fun p hp=>okS hst p (by simpa using hp)) (by simp only[List.length_append,List.length_nil];omega) (fun e=>by rw[e]at lP;simp at lP;omega) (fun e=>by rw[e]at lT1;simp at lT1;omega) sP (Dh bT1 (by omega)) rfl (by omega) (by omega) (by simpa using sp) fun S G1 q1 q2 sp1=>?_;have lS:=q1.length;rw[List.length_append]at lS;rw[kP,i64_in (by omega) (by omega),aa];have:=ihn (2*bs) (X++S) G1 (by omega) (by omega) (by omega) (tH hbX hX (by omega) q2) ((gy.append (gy.refl X) q1).trans hst) (by simpa using sp1);have e:((2*bs:Nat):Int)=(bs:Int)*2:=(by omega);rw[e]at this;exact this
       ·rw[kP,i64_in (by omega) (by omega),aa];have:=ihn (2*bs) (X++T0) G' (by omega) (by omega) (by omega) (tH hbX hX (by omega) (Dh hbT (by omega))) hst sp;have e:((2*bs:Nat):Int)=(bs:Int)*2:=(by omega);rw[e]at this;exact this
      induction k with
      | zero=>
       intro c X T0 G' hk;exact fin c X T0 G' (by omega)
      | succ k ihk=>
       intro c X T0 G' hk hX hbX hbT hst sp;by_cases hlt:T0.length<2*bs
       ·exact fin c X T0 G' hlt hX hbX hbT hst sp
       ·have hL:=hst.length;rw[List.length_append]at hL;refine hR23 _ _ _ _ _ _ _ ?_;rw[kQ,aa,dT_ (by omega),aN];rw[bg,i64_in (by omega) (by omega),aa];obtain⟨P,hP⟩:∃ x,x=T0.take bs:=⟨_,rfl⟩;obtain⟨T1,hT1⟩:∃ x,x=(T0.drop bs).take bs:=⟨_,rfl⟩;obtain⟨T2,hT2⟩:∃ x,x=(T0.drop bs).drop bs:=⟨_,rfl⟩;have hT:T0=P++(T1++T2):=(by rw[hT1,hT2,List.take_append_drop,hP,List.take_append_drop]);have lP:P.length=bs:=(by rw[hP,List.length_take];omega);have lT1:T1.length=bs:=(by rw[hT1,List.length_take,List.length_drop];omega);have lT2:T2.length=T0.length-bs-bs:=(by rw[hT2,List.length_drop,List.length_drop]);rw[hT]at sp hst hbT;obtain⟨sP,bT1⟩:=xQ hbT lP;obtain⟨sT1,bT2⟩:=xQ bT1 lT1;refine DV.use (P.length+T1.length) (X:=X) (A:=P) (B:=T1) (Y:=T2) (Nat.le_refl _) (fun p hp=>okS hst p (by simpa using hp)) (by simp only[List.length_append];omega) (fun e=>by rw[e]at lP;simp at lP;omega) (fun e=>by rw[e]at lT1;simp at lT1;omega) sP sT1 rfl (by omega) (by omega) (by simpa using sp) fun S G1 q1 q2 sp1=>?_;have lS:=q1.length;rw[List.length_append]at lS;rw[kP,i64_in (by omega) (by omega),aa];rw[bg,i64_in (by omega) (by omega),aa];have e1:(X++S).length=X.length+2*bs:=(by rw[List.length_append];omega);have:=ihk (c+1) (X++S) T2 G1 (by omega) (by rw[e1,hX,Nat.add_mul];omega) (tH hbX hX (by omega) q2) bT2 (by
         refine gy.trans ?_ hst
         have:=gy.append (gy.refl X) (gy.append q1 (gy.refl T2))
         simpa using this) (by simpa using sp1)
        rw[e1]at this;have e2:((X.length+2*bs:Nat):Int)+2*(bs:Int)=((X.length+2*bs+2*bs:Nat):Int):=(by omega);rw[e2];exact this
     have:=inner M.length 0 [] M G' (Nat.le_refl _) (by simp) (Hi _) hb (by simpa using hst) (by simpa using sp);have e:(2*(bs:Int))=((([]:List ba).length+2*bs:Nat):Int):=(by simp);rw[e];exact this
  exact outer L.length 20 (X++S') G1 (by omega) (by decide) (by decide) hM hMst sp1
 intro R hR;have loop:∀ (n c:Nat) (X T0:List ba) (G':ak),T0.length≤n->X.length=c*20->Blk 20 X->gy (X++T0) L->Sp F0 G0 (bm 35 v ((X++T0).map ba.av)::ps) G' ->
   R [v,.int .i64 (L.length:Int),uF,.int .i64 20,.int .i64 (X.length:Int),.int .i64 ((X.length+20:Nat):Int)] G':=by
  intro n;induction n with
  | zero=>
   intro c X T0 G' hn hX hb hst sp;exact last c X T0 G' (by omega) hX hb hst sp R hR
  | succ n ih=>
   intro c X T0 G' hn hX hb hst sp;have hL:=hst.length;rw[List.length_append]at hL;by_cases h20:20≤T0.length
   ·refine hR _ _ _ _ _ _ _ ?_;rw[kQ,aa,dT_ (by omega),aN];obtain⟨P,hP⟩:∃ x,x=T0.take 20:=⟨_,rfl⟩;obtain⟨T1,hT1⟩:∃ x,x=T0.drop 20:=⟨_,rfl⟩;have hT:T0=P++T1:=(by rw[hP,hT1,List.take_append_drop]);have lP:P.length=20:=(by rw[hP,List.length_take];omega);have lT1:T1.length=T0.length-20:=(by rw[hT1,List.length_drop]);rw[hT]at sp hst;refine B5.use (X:=X) (S:=P) (Y:=T1) (fun p hp=>okS hst p (by simpa using hp)) (by simp only[List.length_append];omega) rfl (by rw[lP]) (by simpa using sp) fun S' G1 q1 q2 sp1=>?_;rw[bg,i64_in (by omega) (by omega),aa];have lS:=q1.length;have e1:(X++S').length=X.length+20:=(by rw[List.length_append,lS,lP]);have:=ih (c+1) (X++S') T1 G1 (by omega) (by rw[e1,hX];omega) (tH hb hX (by omega) q2) (by
     refine gy.trans ?_ hst
     have:=gy.append (gy.refl X) (gy.append q1 (gy.refl T1))
     simpa using this) sp1
    rw[e1]at this;exact this
   ·exact last c X T0 G' (by omega) hX hb hst sp R hR
 have:=loop L.length 0 [] L G (Nat.le_refl _) (by simp) (Hi 20) (gy.refl _) (by simpa using hs);simpa using this
theorem Fi.use {v:ah}{L:List ba}(hok:∀ p∈L,p.ok) (hlen:L.length≤1048576) (hs:Sp F0 G0 (bm 35 v (L.map ba.av)::ps) G)
  (hQ:∀ G',Sp F0 G0 (bm 35 v ((kS L).map ba.av)::ps) G'->Q (.tuple []) G') :
  al P bc.n [v,uF] G Q:=by
 refine bc.sound ?_;unfold bc.S;refine ae (v:=.int .i64 (L.length:Nat)) ?_ ?_
 ·rw[(bm.own (i:=0) hs rfl).is.len (i:=b8) cy rfl,List.length_map]
 refine Lu.use hok hlen hs fun S G' q1 q2 sp=>?_;rw[Km q1 q2]at sp;exact hQ G' sp
end
end Go.Esc.M
namespace Go.Esc.M
open Go Go.Esc
def stays (r:List aL) (u:aL):Bool:=decide (u.kind=1) && !decide (jH u.id r=3)
def kD (r:List aL) (u:aL):Bool:=decide (u.kind=1) && decide (jH u.id r=2)
def opens (r:List aL) (u:aL):Bool:=stays r u && !decide (jH u.id r=2)
def gG (f:aL->Bool) (l:List aL):Int:=((l.filter f).map (·.amount)).sum
def D7 (mine:Bool) (u:aL):ba:=⟨mine,u.id,u.amount,u.hash⟩
def iX (mine:Bool) (f:aL->Bool) (l:List aL):List ba:=(l.filter f).map (D7 mine)
theorem pM {f:aL->Bool}{l:List aL}{j:Nat}{u:aL}(h:l[j]?=some u):gG f (l.take (j+1))=gG f (l.take j)+if f u=true then u.amount else 0:=by
 unfold gG;rw[List.take_add_one,h,List.filter_append,List.map_append,List.sum_append];congr 1;simp only[Option.toList_some,List.filter_cons,List.filter_nil];split<;>simp
theorem zW {mine:Bool}{f:aL->Bool}{l:List aL}{j:Nat}{u:aL}(h:l[j]?=some u):iX mine f (l.take (j+1))=iX mine f (l.take j)++if f u=true then [D7 mine u] else []:=by
 unfold iX;rw[List.take_add_one,h,List.filter_append,List.map_append];congr 1;simp only[Option.toList_some,List.filter_cons,List.filter_nil];split<;>simp
theorem rj (mine:Bool) (f:aL->Bool) (l:List aL):(iX mine f l).length≤l.length:=by
 unfold iX;rw[List.length_map];exact List.length_filter_le _ _
theorem vU {mine:Bool}{u:aL}(h:u.ok):(D7 mine u).ok:=⟨h.id,h.amount,h.hash⟩
theorem ri {mine:Bool}{f:aL->Bool}{l:List aL}(h:∀ u∈l,u.ok):∀ p∈iX mine f l,p.ok:=by
 intro p hp;obtain⟨u,hu,rfl⟩:=List.mem_map.1 hp;exact vU (h u (List.mem_filter.1 hu).1)
section
variable {F0:List AId}{G0 G:ak}{ps:List LP}{Q:ah->ak->Prop}
theorem iK.use {n:Nat}{v:ah}{l r:List aL}{mid:AId}{es:List (Int×Int)}{mine:Bool}{u1 l1 u2 l2:Int}(hl:ff 36 G v (l.map aL.av)) (hok:∀ u∈l,u.ok) (hval:∀ u∈l,dp u=true) (hlen:l.length≤1048576) (hm:G mid=some (.map (nh es))) (hes:∀ id,oy es id=yW (jH id r)) (hw1:Wd n u1 l1) (hw2:Wd n u2 l2) (hn:n≤16777216)
  (hQ:∀ a b c d w G',Wd (n+l.length) a b->Wd (n+l.length) c d->oD a b=oD u1 l1-gG (stays r) l->oD c d=oD u2 l2+gG (kD r) l->Sp [] G [bm 35 w ((kS (iX mine (opens r) l)).map ba.av)] G'->Q (.tuple [bE a b,bE c d,w]) G') :
  al P iK.n [v,.map mid,.bool mine,bE u1 l1,bE u2 l2] G Q:=by
 refine iK.sound ?_;unfold iK.S;rw[Gg];intro i1 f1;have s1:=(Sp.nil G).row f1 (bE u1 l1);intro i3 f3;have s3:=s1.row f3 (bE u2 l2);intro i5 f5;have s5:=s3.row f5 (bE 0 0);intro i7 f7;have s7:=s5.row f7 (bE 0 0);refine ae (dh (hl.ch' s7.ch)) ?_;intro R hR;have loop:∀ (k j:Nat) (a b c d:Int) (w:ah) (G':ak),l.length-j=k->j≤l.length->Wd (n+j) a b->Wd (n+j) c d->oD a b=oD u1 l1-gG (stays r) (l.take j)->oD c d=oD u2 l2+gG (kD r) (l.take j) ->
   Sp [] G [bm 35 w ((iX mine (opens r) (l.take j)).map ba.av),au i7 (bE 0 0),au i5 (bE 0 0),au i3 (bE c d),au i1 (bE a b)] G' ->
   R [.map mid,.bool mine,.ptr i1 [] 0,.ptr i3 [] 0,.ptr i5 [] 0,.ptr i7 [] 0,w,v,.int .i64 (l.length:Int),.int .i64 (j:Int)] G':=by
  intro k;induction k with
  | zero=>
   intro j a b c d w G' hk hj w1 w2 t1 t2 sp;have hjl:j=l.length:=(by omega);subst hjl;rw[List.take_length]at t1 t2 sp;refine hR _ _ _ _ _ _ _ _ _ _ _ ?_;rw[aM,aa,dF_ (by omega),aK];have hpl:=rj mine (opens r) l;refine Fi.use (ri hok) (by omega) sp fun G64 s64=>?_;refine ae (dj (au.own (i:=4) s64 rfl) dT rfl).2.2 ?_;refine ae (dj (au.own (i:=3) s64 rfl) dT rfl).2.2 ?_;refine k7 (i:=2) s64 rfl fun G67 s67=>?_;refine⟨⟨(dj (au.own (i:=3) s67 rfl) dT rfl).2.2,trivial⟩,?_⟩;refine k7 (i:=1) s67 rfl fun G68 s68=>?_;refine ae (dj (au.own (i:=2) s68 rfl) dT rfl).2.2 ?_;refine ae (dj (au.own (i:=1) s68 rfl) dT rfl).2.2 ?_;exact hQ _ _ _ _ _ _ w1 w2 t1 t2 ((((s68.erase 1).erase 1).erase 1).erase 1)
  | succ k ih=>
   intro j a b c d w G' hk hj w1 w2 t1 t2 sp;obtain⟨u,hu⟩:∃ u,l[j]?=some u:=⟨_,List.getElem?_eq_getElem (by omega)⟩;have huo:=hok u (List.mem_of_getElem? hu);have huv:=hval u (List.mem_of_getElem? hu);have n1:=pM (f:=stays r) hu;have n2:=pM (f:=kD r) hu;have n3:=zW (mine:=mine) (f:=opens r) hu;refine hR _ _ _ _ _ _ _ _ _ _ _ ?_;rw[aM,aa,dT_ (by omega),aN];have ev:az T .add ay (.int .i64 (j:Int)) (.int .i64 1)=some (.int .i64 ((j+1:Nat):Int)):=by
    rw[bg,i64_in (by omega) (by omega)];rfl
   have wmono:∀ {x y:Int},Wd (n+j) x y->Wd (n+(j+1)) x y:=fun h=>⟨by have:=h.u1;omega,by have:=h.u2;omega,by have:=h.l1;omega,by have:=h.l2;omega⟩;intro J62;obtain⟨p,e1,e2⟩:=nD (hl.ch' sp.ch) hu;refine ae e1 ?_;refine ae e2 ?_;refine vX sp huo fun i25 G27 s27=>?_;intro J58;have look:∀ {G2:ak},Ch [] G [] G2->jg T G2 dU (.map mid) (.int .i64 u.id) false=some (.int .i64 (jH u.id r)):=fun hc=>by
    rw[D3 (vw hc hm),hes];congr 2;unfold yW;split
    ·rename_i h;rw[h];rfl
    ·rfl
   have skip:∀ G33,Sp [] G [au i25 u.av,bm 35 w ((iX mine (opens r) (l.take j)).map ba.av),au i7 (bE 0 0),au i5 (bE 0 0),au i3 (bE c d),au i1 (bE a b)] G33->stays r u=false->J58 (.bool true) G33:=by
    intro G33 s33 hst;simp -zeta only [J58,aN,J62];have hp:kD r u=false:=by
     unfold stays at hst;unfold kD;by_cases hk:u.kind=1
     ·rw[dT_ hk,Bool.true_and]at hst ⊢;have h3:jH u.id r=3:=(by simpa using hst);rw[h3];rfl
     ·rw[dF_ hk];rfl
    have ho:opens r u=false:=(by unfold opens;rw[hst];rfl);rw[hst]at n1;rw[hp]at n2;rw[ho]at n3;refine ae ev (ih (j+1) a b c d w G33 (by omega) (by omega) (wmono w1) (wmono w2) (by rw[t1,n1];simp) (by rw[t2,n2];simp) ?_);rw[n3];simpa using s33.erase 0
   have take:∀ G33,Sp [] G [au i25 u.av,bm 35 w ((iX mine (opens r) (l.take j)).map ba.av),au i7 (bE 0 0),au i5 (bE 0 0),au i3 (bE c d),au i1 (bE a b)] G33->u.kind=1->¬ jH u.id r=3->J58 (.bool false) G33:=by
    intro G33 s33 hk h3;simp -zeta only [J58,aK];have hst:stays r u=true:=(by simp[stays,hk,h3]);rw[hst]at n1;have ham:amt u.amount:=by
     have:=(lW huv).2.2;constructor<;>omega
    refine ae (dj (au.own (i:=5) s33 rfl) dT rfl).2.2 ?_;refine ae (bF (i:=0) s33 rfl huo).2.2.1 ?_;refine ed.use w1 (by omega) ham fun a' b' G38 c38 wd ht=>?_;have s38:=s33.tmp c38;refine k7 (i:=5) s38 rfl fun G39 s39=>?_;obtain⟨q0,q1,q2,q3,q4,q5⟩:=bF (i:=0) s39 rfl huo;refine ae q1 ?_;refine ae (look s39.ch) ?_;have ht1:oD a' b'=oD u1 l1-gG (stays r) (l.take (j+1)):=(by rw[ht,t1,n1];simp;omega);rw[bB,aa,aI];refine⟨fun h2=>?_,fun h2=>?_⟩
    ·have hp:kD r u=true:=(by simp[kD,hk,h2]);have ho:opens r u=false:=(by simp[opens,h2]);rw[hp]at n2;rw[ho]at n3;refine ae (dj (au.own (i:=4) s39 rfl) dT rfl).2.2 ?_;refine ae q2 ?_;refine cS.use w2 (by omega) ham fun c' d' G46 c46 wd2 ht2=>?_;have s46:=s39.tmp c46;refine k7 (i:=4) s46 rfl fun G47 s47=>?_;simp -zeta only [J62];refine ae ev (ih (j+1) a' b' c' d' w G47 (by omega) (by omega) wd wd2 ht1 (by rw[ht2,t2,n2];simp;omega) ?_);rw[n3];simpa using s47.erase 0
    ·have hp:kD r u=false:=(by simp[kD,h2]);have ho:opens r u=true:=(by simp[opens,hst,h2]);rw[hp]at n2;rw[ho]at n3;refine ae q1 ?_;refine ae q2 ?_;refine ae q3 ?_;refine ae (Cn (p:=D7 mine u) (vU huo)) ?_;have hal:=rj mine (opens r) (l.take j);rw[List.length_take]at hal;have hb:dS.bytes=56:=rfl;refine wm (T:=T) (ts:=aw) (e:=aT) (si:=b8) (ie:=dS) (i:=1) (c:=(D7 mine u).av) cy rfl eP rfl (by decide) s39 rfl (ba.sz (vU huo)) (ba.okv _) (by decide) ?_ fun w' G55 s55=>?_
     ·rw[hb,List.length_map];omega
     simp -zeta only [J62];refine ae ev (ih (j+1) a' b' c d w' G55 (by omega) (by omega) wd (wmono w2) ht1 (by rw[t2,n2];simp) ?_);rw[n3];have s:Sp [] G [bm 35 w' ((iX mine (opens r) (l.take j)).map ba.av++[(D7 mine u).av]),au i7 (bE 0 0),au i5 (bE 0 0),au i3 (bE c d),au i1 (bE a' b')] G55:=s55.erase 0;simpa using s
   obtain⟨q0,q1,q2,q3,q4,q5⟩:=bF (i:=0) s27 rfl huo;refine ae q0 ?_;rw[cD,aa];by_cases hk1:u.kind=1
   ·rw[dT_ hk1,Bool.not_true,aK];refine ae q1 ?_;refine ae (look s27.ch) ?_;rw[bB,aa];by_cases h3:jH u.id r=3
    ·rw[dT_ h3];exact skip _ s27 (by simp[stays,h3])
    ·rw[dF_ h3];exact take _ s27 hk1 h3
   ·rw[dF_ hk1,Bool.not_false,aN];exact skip _ s27 (by simp[stays,hk1])
 exact loop l.length 0 u1 l1 u2 l2 .nilSlice _ rfl (by omega) hw1 hw2 (by simp[gG]) (by simp[gG]) (s7.nz 35)
end
end Go.Esc.M
namespace Go.Esc.M
open Go Go.Esc
def nm (l:List aL):Bool:=l.all dp
theorem Ct {l:List aL}{j:Nat}{u:aL}(hu:l[j]?=some u) (h:∀ x∈l.take j,dp x=true) (hv:dp u=true):∀ x∈l.take (j+1),dp x=true:=by
 intro x hx;rw[List.take_add_one,hu]at hx;rcases List.mem_append.1 hx with hx|hx
 ·exact h x hx
 ·have:x=u:=by simpa using hx
  rw[this];exact hv
theorem Hl {l:List aL}{j:Nat}{u:aL}(hu:l[j]?=some u) (hv:dp u=false):nm l=false:=by
 refine Bool.eq_false_iff.2 fun h=>?_;have:=List.all_eq_true.1 h u (List.mem_of_getElem? hu);rw[hv]at this;cases this
section
variable {F0:List AId}{G0 G:ak}{ps:List LP}{Q:ah->ak->Prop}
theorem gu.use {u:aL}(h:u.ok) (hQ:∀ G',Ch [] G [] G'->Q (.bool (!dp u)) G'):al P gu.n [u.av] G Q:=by
 refine gu.sound ?_;unfold gu.S;intro i1 f1;have s1:=(Sp.nil G).row f1 u.av;refine ae (bF (i:=0) s1 rfl h).2.2.2.2.2 ?_;refine gj.use h fun G5 c5=>?_;have s5:=s1.tmp c5;rw[dx,aa];exact hQ _ s5.ch
def Mp:ah:=.func (.func gu.n) [] []
theorem contains.use {v:ah}{l:List aL}(hl:ff 36 G v (l.map aL.av)) (hok:∀ u∈l,u.ok) (hlen:l.length≤1048576) (hQ:∀ G',Ch [] G [] G'->Q (.bool (!nm l)) G'):al P bd.n [v,Mp] G Q:=by
 refine bd.sound ?_;unfold bd.S;refine bx.sound ?_;unfold bx.S;refine ae (dh hl) ?_;intro R hR;have loop:∀ (m j:Nat) (G':ak),l.length-j=m->j≤l.length->(∀ x∈l.take j,dp x=true)->Ch [] G [] G'->R [v,Mp,.int .i64 (l.length:Int),.int .i64 (j:Int)] G':=by
  intro m;induction m with
  | zero=>
   intro j G' hm hj h0 hc;refine hR _ _ _ _ _ ?_;rw[aM,aa,dF_ (by omega),aK];rw[List.take_of_length_le (by omega)]at h0;have:nm l=true:=List.all_eq_true.2 h0;rw[this]at hQ;refine ae (v:=.bool false) rfl ?_;exact hQ _ hc
  | succ m ih=>
   intro j G' hm hj h0 hc;obtain⟨u,hu⟩:∃ u,l[j]?=some u:=⟨_,List.getElem?_eq_getElem (by omega)⟩;have huo:=hok u (List.mem_of_getElem? hu);refine hR _ _ _ _ _ ?_;rw[aM,aa,dT_ (by omega),aN];obtain⟨a,e1,e2⟩:=nD (hl.ch' hc) hu;refine ae e1 ?_;refine ae e2 ?_;refine gu.use huo fun G12 c12=>?_;have c12:Ch [] G [] G12:=hc.trans c12;cases hv:dp u with
   | true=>
    rw[Bool.not_true,aK,bg,i64_in (by omega) (by omega),aa];exact ih (j+1) G12 (by omega) (by omega) (Ct hu h0 hv) c12
   | false=>
    rw[Bool.not_false,aN];rw[Hl hu hv]at hQ;refine ae (v:=.bool true) (by rw[fI,dT_ (by omega)]) ?_;exact hQ _ c12
 exact loop l.length 0 G rfl (by omega) (by simp) (Ch.refl _ _)
theorem eh.use {v:ah}{l:List aL}(hl:ff 36 G v (l.map aL.av)) (hok:∀ u∈l,u.ok) (hlen:l.length≤1048576) (hQ:∀ G',Ch [] G [] G'->Q (.bool (nm l)) G'):al P eh.n [v] G Q:=by
 refine eh.sound ?_;unfold eh.S;intro R hR;have loop:∀ (m j:Nat) (G':ak),l.length-j=m->j≤l.length->(∀ x∈l.take j,dp x=true)->Ch [] G [] G'->R [v,.int .i64 (j:Int)] G':=by
  intro m;induction m with
  | zero=>
   intro j G' hm hj h0 hc;refine hR _ _ _ ?_;refine ae (dh (hl.ch' hc)) ?_;rw[aM,aa,dF_ (by omega),aK];rw[List.take_of_length_le (by omega)]at h0;have:nm l=true:=List.all_eq_true.2 h0;rw[this]at hQ;exact hQ _ hc
  | succ m ih=>
   intro j G' hm hj h0 hc;obtain⟨u,hu⟩:∃ u,l[j]?=some u:=⟨_,List.getElem?_eq_getElem (by omega)⟩;have huo:=hok u (List.mem_of_getElem? hu);refine hR _ _ _ ?_;refine ae (dh (hl.ch' hc)) ?_;rw[aM,aa,dT_ (by omega),aN];obtain⟨a,e1,e2⟩:=nD (hl.ch' hc) hu;refine ae e1 ?_;refine ae e2 ?_;refine dz.use huo fun G12 c12=>?_;have c12:Ch [] G [] G12:=hc.trans c12;rw[dx,aa];cases hv:dp u with
   | true=>
    rw[Bool.not_true,aK,bg,i64_in (by omega) (by omega),aa];exact ih (j+1) G12 (by omega) (by omega) (Ct hu h0 hv) c12
   | false=>
    rw[Bool.not_false,aN];rw[Hl hu hv]at hQ;exact hQ _ c12
 exact loop l.length 0 G rfl (by omega) (by simp) (Ch.refl _ _)
end
end Go.Esc.M
namespace Go.Esc.M
open Go Go.Esc
section
variable {F0:List AId}{G0 G:ak}{ps:List LP}{Q:ah->ak->Prop}
end
end Go.Esc.M
namespace Go.Esc.M
open Go Go.Esc
theorem tz (p:ba):∀ {a:List ba}(b:List ba),(∀ q∈a,¬ p.id<q.id)->iG (a++b) p=a++iG b p
 | [],b,_=>rfl
 | q::a,b,h=>by
  have hq:=h q (by simp);rw[List.cons_append,List.cons_append,iG,if_neg hq,tz p b fun x hx=>h x (by simp[hx])]
theorem yf (p:ba):∀ {a:List ba}(b:List ba),(∃ q∈a,p.id<q.id)->iG (a++b) p=iG a p++b
 | [],b,h=>by obtain⟨q,hq,_⟩:=h;cases hq
 | q::a,b,h=>by
  by_cases hq:p.id<q.id
  ·rw[List.cons_append,iG,if_pos hq,iG,if_pos hq];rfl
  ·have:∃ x∈a,p.id<x.id:=by
    obtain⟨x,hx,hlt⟩:=h;rcases List.mem_cons.1 hx with rfl|hx
    ·exact absurd hlt hq
    ·exact⟨x,hx,hlt⟩
   rw[List.cons_append,iG,if_neg hq,iG,if_neg hq,yf p b this];rfl
theorem Fw (p:ba) {a:List ba}(h:∀ q∈a,¬ p.id<q.id):iG a p=a++[p]:=by
 have:=tz p [] h;rw[List.append_nil]at this;exact this
theorem zV (p:ba):∀ a:List ba,(iG a p).length=a.length+1
 | []=>rfl
 | x::a=>by
  rw[iG];split
  ·rfl
  ·rw[List.length_cons,zV p a,List.length_cons]
section
variable {F0:List AId}{G0 G:ak}{ps:List LP}{Q:ah->ak->Prop}
theorem I6 {v:ah}{l:List ba}{j:Nat}{p:ba}{x:Int}(h:ff 35 G v (l.map ba.av)) (hx:x=(j:Int)) (hj:l[j]?=some p):∃ a b,aO T aw v (.int .i64 x)=some a/\bt T aT a 1=some b/\ag T G aq b=some (.int .i64 p.id):=by
 subst hx;exact ff.fld (k:=.i64) (cs:=[.bool p.ours,.int .i64 p.id,.int .i64 p.amount,.agg (p.hash.map u8v)]) (i:=b8) (ie:=dS) cy rfl eP (fs:=[(du,0),(aq,1),(aq,2),(ar,3)]) (f:=1) (o:=1) rfl rfl cu (by decide) h (by rw[List.getElem?_map,hj];rfl) rfl rfl rfl
theorem wk {i:Nat}{v:ah}{l:List ba}{p:ba}{K:ah->ak->Prop}(hs:Sp F0 G0 ps G) (hi:ps[i]?=some (bm 35 v (l.map ba.av))) (ho:p.ok) (hl:l.length≤2097152) (hK:∀ v' G',Sp F0 G0 (ps.set i (bm 35 v' ((l++[p]).map ba.av))) G'->K v' G') :
  bu T aw 1 [(0,p.av)] G fun w G'=>cn T G' aw aw v w K:=by
 have hb:dS.bytes=56:=rfl;refine wm (ie:=dS) cy rfl eP rfl (by decide) hs hi (ba.sz ho) (ba.okv p) (by decide) (by rw[hb,List.length_map];omega) fun s' G' h=>hK s' G' ?_;rw[List.map_append];exact h
theorem eL.use {v:ah}{l:List ba}{p:ba}(hl:ff 35 G v (l.map ba.av)) (hok:∀ q∈l,q.ok) (hp:p.ok) (hlen:l.length≤1048576) (hQ:∀ w G',Sp [] G [bm 35 w ((iG l p).map ba.av)] G'->Q w G'):al P eL.n [v,p.av] G Q:=by
 refine eL.sound ?_;unfold eL.S;intro i1 f1;have s1:=(Sp.nil G).row f1 p.av;intro R hR;have loop:∀ (m j:Nat) (w:ah) (dn:Bool) (out:List ba) (G':ak),l.length-j=m->j≤l.length->(dn=false->out=l.take j/\∀ q∈l.take j,¬ p.id<q.id)->(dn=true->out=iG (l.take j) p/\∃ q∈l.take j,p.id<q.id)->Sp [] G [bm 35 w (out.map ba.av),au i1 p.av] G' ->
   R [v,.ptr i1 [] 0,w,.bool dn,.int .i64 (j:Int)] G':=by
  intro m;induction m with
  | zero=>
   intro j w dn out G' hm hj h0 h1 sp;refine hR _ _ _ _ _ _ ?_;have hll:fU T G' aw v=some (.int .i64 (l.length:Nat)):=(by rw[(hl.ch' sp.ch).len (i:=b8) cy rfl,List.length_map]);refine ae hll ?_;rw[aM,aa,dF_ (by omega),aK,dx,aa];rw[List.take_of_length_le (by omega)]at h0 h1;cases dn with
   | false=>
    obtain⟨rfl,h0⟩:=h0 rfl;rw[Bool.not_false,aN];refine ae (cj eP (au.own (i:=1) sp rfl) (ba.fits hp)) ?_;refine wk (i:=0) sp rfl hp (by omega) fun w' G59 s59=>?_;have s:=s59.erase 1;rw[<- Fw p h0]at s;exact hQ _ _ s
   | true=>
    obtain⟨rfl,_⟩:=h1 rfl;rw[Bool.not_true,aK];exact hQ _ _ (sp.erase 1)
  | succ m ih=>
   intro j w dn out G' hm hj h0 h1 sp;obtain⟨x,hx⟩:∃ x,l[j]?=some x:=⟨_,List.getElem?_eq_getElem (by omega)⟩;have hxo:=hok x (List.mem_of_getElem? hx);have htk:l.take (j+1)=l.take j++[x]:=(by rw[List.take_add_one,hx];rfl);refine hR _ _ _ _ _ _ ?_;have hll:fU T G' aw v=some (.int .i64 (l.length:Nat)):=(by rw[(hl.ch' sp.ch).len (i:=b8) cy rfl,List.length_map]);refine ae hll ?_;rw[aM,aa,dT_ (by omega),aN];have ev:az T .add ay (.int .i64 (j:Int)) (.int .i64 1)=some (.int .i64 ((j+1:Nat):Int)):=by
    rw[bg,i64_in (by omega) (by omega)];rfl
   intro J47;have hol:out.length≤1048577:=by
    cases dn with
    | false=>rw[(h0 rfl).1,List.length_take];omega
    | true=>rw[(h1 rfl).1,zV,List.length_take];omega
   have qU:(dn=false->¬ p.id<x.id)->J47 (.bool false) G':=by
    intro hk;simp -zeta only [J47,aK];obtain⟨a,e1,e2⟩:=mO (hl.ch' sp.ch) rfl hx;refine ae e1 ?_;refine ae e2 ?_;refine wk (i:=0) sp rfl hxo (by omega) fun w' G46 s46=>?_;refine ae ev (ih (j+1) w' dn (out++[x]) G46 (by omega) (by omega) (fun hd=>?_) (fun hd=>?_) s46)
    ·obtain⟨e,h⟩:=h0 hd;rw[htk,e];refine⟨rfl,fun q hq=>?_⟩;rcases List.mem_append.1 hq with hq|hq
     ·exact h q hq
     ·rw[List.mem_singleton.1 hq];exact hk hd
    ·obtain⟨e,h⟩:=h1 hd;rw[htk,e,yf p [x] h];obtain⟨q,hq,hlt⟩:=h;exact⟨rfl,q,by simp[hq],hlt⟩
   rw[dx,aa];cases dn with
   | true=>
    rw[Bool.not_true,aK];exact qU (fun h=>by cases h)
   | false=>
    rw[Bool.not_false,aN];obtain⟨a,b,e1,e2,e3⟩:=I6 (hl.ch' sp.ch) rfl hx;refine ae e1 ?_;refine ae e2 ?_;refine ae e3 ?_;refine ae (v:=.ptr i1 [1] 1) rfl ?_;refine ae (ba.fld hp (au.own (i:=1) sp rfl)).2.1 ?_;rw[da,aa];by_cases hlt:x.id > p.id
    ·rw[dT_ hlt];simp -zeta only [J47,aN];obtain⟨e,h⟩:=h0 rfl;refine ae (cj eP (au.own (i:=1) sp rfl) (ba.fits hp)) ?_;refine wk (i:=0) sp rfl hp (by omega) fun w' G25 s25=>?_;obtain⟨a,e1,e2⟩:=mO (hl.ch' s25.ch) rfl hx;refine ae e1 ?_;refine ae e2 ?_;refine wk (i:=0) s25 rfl hxo (by rw[List.length_append,List.length_singleton];omega) fun w2 G40 s40=>?_;refine ae ev (ih (j+1) w2 true (out++[p]++[x]) G40 (by omega) (by omega) (fun hd=>by cases hd) (fun _=>?_) s40);rw[htk,tz p [x] h,e,iG,if_pos hlt];exact⟨by simp,x,by simp,hlt⟩
    ·rw[dF_ hlt];exact qU (fun _=>hlt)
 exact loop l.length 0 .nilSlice false [] _ rfl (by omega) (fun _=>⟨rfl,by simp⟩) (fun h=>by cases h) (s1.nz 35)
end
end Go.Esc.M
namespace Go.Esc.M
open Go Go.Esc
theorem xr (id:Int):∀ l:List aL,jH id l=0\/jH id l=2\/jH id l=3
 | []=>.inl rfl
 | u::l=>by
  unfold jH;split
  ·rename_i h;simp only[m8,Bool.and_eq_true,decide_eq_true_eq]at h;have:=(lW h.2.2).2.2;omega
  ·exact xr id l
theorem Fj (l:List ba) (p:ba):kS (l++[p])=iG (kS l) p:=by
 unfold kS;rw[List.foldl_append];rfl
theorem xm (l:List ba):(kS l).length=l.length:=(vP l).1.length
theorem tm {l:List ba}(h:∀ p∈l,p.ok):∀ p∈kS l,p.ok:=fun p hp=>h p ((vP l).1.mem.1 hp)
theorem rX {f:aL->Bool}{l:List aL}(hv:∀ u∈l,f u=true->amt u.amount):0≤gG f l/\gG f l≤(l.length:Int)*1152921504606846976:=by
 unfold gG;have h1:=Hz (A:=(l.filter f).map (·.amount)) (fun a ha=>by
  obtain⟨u,hu,rfl⟩:=List.mem_map.1 ha
  obtain⟨h1,h2⟩:=List.mem_filter.1 hu
  exact hv u h1 h2)
 have h2:=List.length_filter_le f l;rw[List.length_map]at h1;omega
end Go.Esc.M
namespace Go.Esc.M
open Go Go.Esc
section
variable {F0:List AId}{G0 G:ak}{ps:List LP}{Q:ah->ak->Prop}
def Jh (t:Int):Prop:=-1298074214633706907132624082305024≤t/\t≤1298074214633706907132624082305024
theorem eW.use {v w:ah}{l r:List aL}{mine:Bool}{t1 t2:Int}(hl:ff 36 G v (l.map aL.av)) (hr:ff 36 G w (r.map aL.av)) (hok:∀ u∈l,u.ok) (hok2:∀ u∈r,u.ok) (hval:∀ u∈l,dp u=true) (hlen:l.length≤1048576) (hlen2:r.length≤1048576) (ht1:Jh t1) (ht2:Jh t2)
  (hQ:∀ x G',Sp [] G [bm 35 x ((kS (iX mine (opens r) l)).map ba.av)] G'->Q (.tuple [wdR (t1-gG (stays r) l),wdR (t2+gG (kD r) l),x]) G') :
  al P eW.n [wdR t1,wdR t2,v,w,.bool mine] G Q:=by
 refine eW.sound ?_;unfold eW.S;rw[y4];intro i1 f1;have s1:=(Sp.nil G).row f1 (wdR t1);intro i3 f3;have s3:=s1.row f3 (wdR t2);intro i5 f5;have s5:=s3.row f5 (bE 0 0);intro i7 f7;have s7:=s5.row f7 (bE 0 0);have ham:∀ u∈l,u.kind=1->amt u.amount:=fun u hu hk=>by
  have:=(lW (hval u hu)).2.2;constructor<;>omega
 have sm:∀ (j:Nat),small (t1-gG (stays r) (l.take j))/\small (t2+gG (kD r) (l.take j)):=fun j=>by
  obtain⟨a1,a2⟩:=ht1;obtain⟨b1,b2⟩:=ht2;have hm:∀ u∈l.take j,u∈l:=fun u hu=>List.mem_of_mem_take hu;have h1:=rX (f:=stays r) (l:=l.take j) (fun u hu hf=>ham u (hm u hu) (by simp[stays]at hf;exact hf.1));have h2:=rX (f:=kD r) (l:=l.take j) (fun u hu hf=>ham u (hm u hu) (by simp[kD]at hf;exact hf.1));have h3:(l.take j).length≤1048576:=by rw[List.length_take];omega
  unfold small;constructor<;>constructor<;>omega
 intro R hR;have loop:∀ (k j:Nat) (x:ah) (G':ak),l.length-j=k->j≤l.length ->
   Sp [] G [bm 35 x ((kS (iX mine (opens r) (l.take j))).map ba.av),au i7 (bE 0 0),au i5 (bE 0 0),au i3 (wdR (t2+gG (kD r) (l.take j))),au i1 (wdR (t1-gG (stays r) (l.take j)))] G' ->
   R [v,w,.bool mine,.ptr i1 [] 0,.ptr i3 [] 0,.ptr i5 [] 0,.ptr i7 [] 0,x,.int .i64 (j:Int)] G':=by
  intro k;induction k with
  | zero=>
   intro j x G' hk hj sp;have hjl:j=l.length:=(by omega);subst hjl;rw[List.take_length]at sp;refine hR _ _ _ _ _ _ _ _ _ _ ?_;refine ae (dh (hl.ch' sp.ch)) ?_;rw[aM,aa,dF_ (by omega),aK];refine ae (dj (au.own (i:=4) sp rfl) ck rfl).2.2 ?_;refine ae (dj (au.own (i:=3) sp rfl) ck rfl).2.2 ?_;refine kc (i:=2) sp rfl fun G67 s67=>?_;refine⟨⟨(dj (au.own (i:=3) s67 rfl) ck rfl).2.2,trivial⟩,?_⟩;refine kc (i:=1) s67 rfl fun G68 s68=>?_;refine ae (dj (au.own (i:=2) s68 rfl) ck rfl).2.2 ?_;refine ae (dj (au.own (i:=1) s68 rfl) ck rfl).2.2 ?_;exact hQ _ _ ((((s68.erase 1).erase 1).erase 1).erase 1)
  | succ k ih=>
   intro j x G' hk hj sp;obtain⟨u,hu⟩:∃ u,l[j]?=some u:=⟨_,List.getElem?_eq_getElem (by omega)⟩;have huo:=hok u (List.mem_of_getElem? hu);have n1:=pM (f:=stays r) hu;have n2:=pM (f:=kD r) hu;have n3:=zW (mine:=mine) (f:=opens r) hu;have hsm:=sm j;refine hR _ _ _ _ _ _ _ _ _ _ ?_;refine ae (dh (hl.ch' sp.ch)) ?_;rw[aM,aa,dT_ (by omega),aN];have ev:az T .add ay (.int .i64 (j:Int)) (.int .i64 1)=some (.int .i64 ((j+1:Nat):Int)):=by
    rw[bg,i64_in (by omega) (by omega)];rfl
   intro J64;obtain⟨p,e1,e2⟩:=nD (hl.ch' sp.ch) hu;refine ae e1 ?_;refine ae e2 ?_;refine vX sp huo fun i24 G26 s26=>?_;have go:∀ (x':ah) (G2:ak),Sp [] G [bm 35 x' ((kS (iX mine (opens r) (l.take (j+1)))).map ba.av),au i7 (bE 0 0),au i5 (bE 0 0),au i3 (wdR (t2+gG (kD r) (l.take (j+1)))),au i1 (wdR (t1-gG (stays r) (l.take (j+1))))] G2->J64 x' G2:=by
    intro x' G2 s;simp -zeta only [J64];exact ae ev (ih (j+1) x' G2 (by omega) (by omega) s)
   have skip:∀ G33,Sp [] G [au i24 u.av,bm 35 x ((kS (iX mine (opens r) (l.take j))).map ba.av),au i7 (bE 0 0),au i5 (bE 0 0),au i3 (wdR (t2+gG (kD r) (l.take j))),au i1 (wdR (t1-gG (stays r) (l.take j)))] G33->stays r u=false->J64 x G33:=by
    intro G33 s33 hst;have hp:kD r u=false:=by
     unfold stays at hst;unfold kD;by_cases hk:u.kind=1
     ·rw[dT_ hk,Bool.true_and]at hst ⊢;have h3:jH u.id r=3:=(by simpa using hst);rw[h3];rfl
     ·rw[dF_ hk];rfl
    have ho:opens r u=false:=(by unfold opens;rw[hst];rfl);rw[hst]at n1;rw[hp]at n2;rw[ho]at n3;refine go x G33 ?_;rw[n1,n2,n3];simpa using s33.erase 0
   obtain⟨q0,q1,q2,q3,q4,q5⟩:=bF (i:=0) s26 rfl huo;refine ae q0 ?_;rw[cD,aa];by_cases hk1:u.kind=1
   ·rw[dT_ hk1,Bool.not_true,aK];have hamt:=ham u (List.mem_of_getElem? hu) hk1;refine ae q1 ?_;refine dY.use (hr.ch' s26.ch) hok2 hlen2 fun G31 c31=>?_;have s31:=s26.tmp c31;rw[bB,aa,aI];refine⟨fun h2=>?_,fun h2=>?_⟩
    ·have hst:stays r u=true:=(by simp[stays,hk1,h2]);have hp:kD r u=true:=(by simp[kD,hk1,h2]);have ho:opens r u=false:=(by simp[opens,h2]);rw[hst]at n1;rw[hp]at n2;rw[ho]at n3;refine ae (dj (au.own (i:=5) s31 rfl) ck rfl).2.2 ?_;refine ae (bF (i:=0) s31 rfl huo).2.2.1 ?_;refine ek.use hsm.1 hamt fun G36 c36=>?_;have s36:=s31.tmp c36;refine kc (i:=5) s36 rfl fun G37 s37=>?_;refine ae (dj (au.own (i:=4) s37 rfl) ck rfl).2.2 ?_;refine ae (bF (i:=0) s37 rfl huo).2.2.1 ?_;refine dO.use hsm.2 hamt fun G41 c41=>?_;have s41:=s37.tmp c41;refine kc (i:=4) s41 rfl fun G42 s42=>?_;refine go x G42 ?_;rw[n1,n2,n3];simp only[Bool.false_eq_true,if_false,if_true,List.append_nil];have e1:t1-(gG (stays r) (l.take j)+u.amount)=t1-gG (stays r) (l.take j)-u.amount:=(by omega);have e2:t2+(gG (kD r) (l.take j)+u.amount)=t2+gG (kD r) (l.take j)+u.amount:=(by omega);rw[e1,e2];exact s42.erase 0
    ·rw[bB,aa,aI];have hp:kD r u=false:=(by simp[kD,h2]);rw[hp]at n2;refine⟨fun h0=>?_,fun h0=>?_⟩
     ·have hst:stays r u=true:=(by simp[stays,hk1,h0]);have ho:opens r u=true:=(by simp[opens,hst,h2]);rw[hst]at n1;rw[ho]at n3;refine ae (dj (au.own (i:=5) s31 rfl) ck rfl).2.2 ?_;refine ae (bF (i:=0) s31 rfl huo).2.2.1 ?_;refine ek.use hsm.1 hamt fun G47 c47=>?_;have s47:=s31.tmp c47;refine kc (i:=5) s47 rfl fun G48 s48=>?_;obtain⟨r0,r1,r2,r3,_,_⟩:=bF (i:=0) s48 rfl huo;refine ae r1 ?_;refine ae r2 ?_;refine ae r3 ?_;refine ae (Cn (p:=D7 mine u) (vU huo)) ?_;have hpl:=rj mine (opens r) (l.take j);rw[List.length_take]at hpl;refine eL.use (bm.own (i:=1) s48 rfl).is (tm (ri fun u hu=>hok u (List.mem_of_mem_take hu))) (vU huo) (by rw[xm];omega) fun x' G54 t54=>?_;obtain⟨F54,o54,k54⟩:=t54.out;have s54:=s48.new o54 k54;refine go x' G54 ?_;rw[n1,n2,n3];simp only[Bool.false_eq_true,if_false,if_true,Int.add_zero];rw[Fj];have e1:t1-(gG (stays r) (l.take j)+u.amount)=t1-gG (stays r) (l.take j)-u.amount:=(by omega);rw[e1];exact (s54.erase 1).erase 1
     ·have h3:jH u.id r=3:=by
       have:=xr u.id r;omega
      exact skip _ s31 (by simp[stays,h3])
   ·rw[dF_ hk1,Bool.not_false,aN];exact skip _ s26 (by simp[stays,hk1])
 exact loop l.length 0 .nilSlice _ rfl (by omega) (by simpa[gG,iX,kS] using s7.nz 35)
end
end Go.Esc.M
namespace Go.Esc.M
open Go Go.Esc
theorem BD {f g h:aL->Bool}:∀ {l:List aL},(∀ u∈l,f u=(g u || h u)/\(g u && h u)=false)->gG f l=gG g l+gG h l
 | [],_=>rfl
 | u::l,hl=>by
  have ih:=BD (f:=f) (g:=g) (h:=h) (l:=l) fun x hx=>hl x (by simp[hx]);obtain⟨h1,h2⟩:=hl u (by simp);unfold gG at ih ⊢;cases hg:g u<;>cases hh:h u<;>rw[hg,hh]at h1 h2<;>simp[h1,hg,hh]at h2 ⊢<;>omega
theorem qA (r l:List aL):gG (stays r) l=gG (kD r) l+gG (opens r) l:=by
 refine BD fun u _=>?_;unfold opens stays kD;by_cases h2:jH u.id r=2
 ·simp[h2]
 ·simp[h2]
def nH (bo:Int) (a b:List aL):Int:=bo-gG (stays b) a+gG (kD a) b
def n0 (bp:Int) (a b:List aL):Int:=bp+gG (kD b) a-gG (stays a) b
def oN (a b:List aL):List ba:=kS (iX true (opens b) a)++kS (iX false (opens a) b)
structure FoldM where
 o:Int
 q:Int
 l:List ba
 e:Int
def FoldM.no (e:Int):FoldM:=⟨0,0,[],e⟩
def foldM (bo bp:Int) (a b:List aL):FoldM:=
 if nm a=false\/nm b=false then .no 120
 else if nH bo a b<0\/n0 bp a b<0 then .no 130
 else ⟨nH bo a b,n0 bp a b,oN a b,0⟩
def inC (co cp:Int) (ours kA:List aL):Prop:=0≤co/\co≤ours.length/\0≤cp/\cp≤kA.length
instance (co cp:Int) (ours kA:List aL):Decidable (inC co cp ours kA):=by unfold inC;infer_instance
instance (a:Int):Decidable (amt a):=by unfold amt;infer_instance
def mN (bo bp:Int) (ours kA:List aL) (co cp:Int):FoldM:=
 if inC co cp ours kA/\amt bo/\amt bp/\amt (bo+bp) then foldM bo bp (ours.take co.toNat) (kA.take cp.toNat) else .no 1
theorem pU {l:List aL}(h:nm l=true):∀ u∈l,dp u=true:=fun u hu=>List.all_eq_true.1 h u hu
theorem r9 {r l:List aL}(hv:∀ u∈l,dp u=true):0≤gG (opens r) l:=by
 refine (rX fun u hu hf=>?_).1;have:=(lW (hv u hu)).2.2;have hk:u.kind=1:=by simp[opens,stays]at hf;exact hf.1.1
 constructor<;>omega
theorem JA {bo bp:Int}{a b:List aL}:nH bo a b+n0 bp a b+gG (opens b) a+gG (opens a) b=bo+bp:=by
 have h1:=qA b a;have h2:=qA a b;unfold nH n0;omega
theorem C8 {bo bp:Int}{a b:List aL}(ha:∀ u∈a,dp u=true) (hb:∀ u∈b,dp u=true) (h:bo+bp≤1152921504606846976) :
  (0≤n0 bp a b->nH bo a b≤1152921504606846976)/\(0≤nH bo a b->n0 bp a b≤1152921504606846976):=by
 have h1:=JA (bo:=bo) (bp:=bp) (a:=a) (b:=b);have h2:=r9 (r:=b) ha;have h3:=r9 (r:=a) hb;constructor<;>intro _<;>omega
theorem rN {t:Int}(h0:0≤t) (h1:t≤1152921504606846976):nC t=t/\AJ t=t:=by
 unfold nC AJ;rw[if_neg (by omega),if_pos (by omega),if_neg (by omega)];refine⟨rfl,?_⟩;split<;>omega
theorem tN (t:Int):nC t<0 ↔ t<0:=by
 unfold nC;split
 ·omega
 ·split<;>omega
theorem JC {a b:List aL}(ha:∀ u∈a,u.ok) (hb:∀ u∈b,u.ok):∀ p∈oN a b,p.ok:=by
 intro p hp;rcases List.mem_append.1 hp with hp|hp
 ·exact tm (ri ha) p hp
 ·exact tm (ri hb) p hp
theorem xE (a b:List aL):(oN a b).length≤a.length+b.length:=by
 unfold oN;rw[List.length_append,xm,xm];have:=rj true (opens b) a;have:=rj false (opens a) b;omega
theorem JD {bo bp:Int}{a b:List aL}(ha:∀ u∈a,u.ok) (hb:∀ u∈b,u.ok):∀ p∈(foldM bo bp a b).l,p.ok:=by
 intro p hp;unfold foldM at hp;split at hp
 ·cases hp
 ·split at hp
  ·cases hp
  ·exact JC ha hb p hp
theorem HY (bo bp:Int) (a b:List aL):(foldM bo bp a b).l.length≤a.length+b.length:=by
 unfold foldM;split
 ·simp[FoldM.no]
 ·split
  ·simp[FoldM.no]
  ·exact xE a b
theorem JB {bo bp:Int}{a b:List aL}{co cp:Int}(ha:∀ u∈a,u.ok) (hb:∀ u∈b,u.ok):∀ p∈(mN bo bp a b co cp).l,p.ok:=by
 intro p hp;unfold mN at hp;split at hp
 ·exact JD (fun u hu=>ha u (List.mem_of_mem_take hu)) (fun u hu=>hb u (List.mem_of_mem_take hu)) p hp
 ·cases hp
theorem HW (bo bp:Int) (a b:List aL) (co cp:Int):(mN bo bp a b co cp).l.length≤a.length+b.length:=by
 unfold mN;split
 ·have:=HY bo bp (a.take co.toNat) (b.take cp.toNat);rw[List.length_take,List.length_take]at this;omega
 ·simp[FoldM.no]
end Go.Esc.M
namespace Go.Esc.M
open Go Go.Esc
def Bk (b:Bool) (p:ba):ba:={ p with ours:=b }
theorem zU (b:Bool):∀ (l:List ba) (p:ba),(iG l p).map (Bk b)=iG (l.map (Bk b)) (Bk b p)
 | [],p=>rfl
 | q::l,p=>by
  have ih:=zU b l p;unfold iG;simp only[List.map_cons];show _=if p.id<q.id then _ else _;split
  ·rfl
  ·rw[List.map_cons,ih]
theorem DX (b:Bool) (l:List ba):(kS l).map (Bk b)=kS (l.map (Bk b)):=by
 have:∀ (l acc:List ba),(l.foldl iG acc).map (Bk b)=(l.map (Bk b)).foldl iG (acc.map (Bk b)):=by
  intro l;induction l with
  | nil=>intro acc;rfl
  | cons p l ih=>intro acc;rw[List.foldl_cons,ih,zU];rfl
 exact this l []
theorem BN (b m:Bool) (f:aL->Bool) (l:List aL):(iX m f l).map (Bk b)=iX b f l:=by
 unfold iX;rw[List.map_map];rfl
theorem rZ {m:Bool}{f:aL->Bool}{l:List aL}:∀ p∈kS (iX m f l),p.ours=m:=by
 intro p hp;have:=(vP (iX m f l)).1.mem.1 hp;obtain⟨u,_,rfl⟩:=List.mem_map.1 this;rfl
theorem BA {b:Bool}{l:List ba}(h:∀ p∈l,p.ours=!b):kW b l=l.map (Bk b):=by
 unfold kW;rw[List.filter_eq_self.2 fun p hp=>by rw[h p hp];cases b<;>rfl];rfl
theorem zE {b:Bool}{l:List ba}(h:∀ p∈l,p.ours=b):kW b l=[]:=by
 unfold kW;rw[List.filter_eq_nil_iff.2 fun p hp=>by rw[h p hp];cases b<;>decide];rfl
theorem Fa (a b:List aL):pE (oN a b)=oN b a:=by
 have e1:=zE (b:=true) (l:=kS (iX true (opens b) a)) rZ;have e2:=BA (b:=true) (l:=kS (iX false (opens a) b)) rZ;have e3:=BA (b:=false) (l:=kS (iX true (opens b) a)) rZ;have e4:=zE (b:=false) (l:=kS (iX false (opens a) b)) rZ;unfold pE oN;rw[vJ,vJ,e1,e2,e3,e4,DX,DX,BN,BN,List.nil_append,List.append_nil]
theorem FJ (bo:Int) (a b:List aL):nH bo b a=n0 bo a b:=by
 unfold nH n0;omega
structure MM (left:Int) (l:List ba):Prop where
 one:∀ p∈l,1≤p.amount
 sum:(l.map (·.amount)).sum=left
 ord:∀ j p q,l[j]?=some p->l[j+1]?=some q->¬ (q.ours=true/\p.ours=false)/\(q.ours=p.ours->p.id≤q.id)
theorem HX {bo bp:Int}{a b:List aL}(h:(foldM bo bp a b).e=0):(∀ u∈a,dp u=true)/\(∀ u∈b,dp u=true)/\0≤nH bo a b/\0≤n0 bp a b/\foldM bo bp a b=⟨nH bo a b,n0 bp a b,oN a b,0⟩:=by
 unfold foldM at h ⊢;split at h
 ·cases h
 ·rename_i h1;rw[if_neg h1];split at h
  ·cases h
  ·rename_i h2;rw[if_neg h2];refine⟨pU ?_,pU ?_,by omega,by omega,rfl⟩
   ·cases hh:nm a with
    | true=>rfl
    | false=>exact absurd (.inl hh) h1
   ·cases hh:nm b with
    | true=>rfl
    | false=>exact absurd (.inr hh) h1
end Go.Esc.M
namespace Go.Esc.M
open Go Go.Esc
theorem rV {α:Type}{l:List α}{n m:Nat}(h:n≤m):l.take n++(l.take m).drop n=l.take m:=by
 have:l.take n=(l.take m).take n:=by rw[List.take_take,Nat.min_eq_left h]
 rw[this,List.take_append_drop]
theorem oq (f:aL->Bool) (a b:List aL):gG f (a++b)=gG f a+gG f b:=by
 unfold gG;rw[List.filter_append,List.map_append,List.sum_append]
theorem Gz {f:aL->Bool}{l:List aL}(h:∀ u∈l,0≤u.amount):0≤gG f l:=by
 unfold gG;induction l with
 | nil=>simp
 | cons u l ih=>
  have ih:=ih fun x hx=>h x (by simp[hx]);have:=h u (by simp);simp only[List.filter_cons];split
  ·simp only[List.map_cons,List.sum_cons];omega
  ·exact ih
theorem tS {f g:aL->Bool}{l:List aL}(h:∀ u∈l,0≤u.amount) (hfg:∀ u∈l,f u=true->g u=true):gG f l≤gG g l:=by
 unfold gG;induction l with
 | nil=>simp
 | cons u l ih=>
  have ih:=ih (fun x hx=>h x (by simp[hx])) fun x hx=>hfg x (by simp[hx]);have h1:=h u (by simp);have h2:=hfg u (by simp);simp only[List.filter_cons];cases hf:f u with
  | true=>rw[h2 hf];simp;omega
  | false=>cases hg:g u<;>simp<;>omega
theorem xg {f:aL->Bool}{l:List aL}(h:∀ u∈l,f u=false):gG f l=0:=by
 unfold gG;rw[List.filter_eq_nil_iff.2 fun u hu=>by rw[h u hu];decide];rfl
theorem CL {f:aL->Bool}{l:List aL}(h:∀ u∈l,0≤u.amount) (n:Nat):gG f (l.take n)≤gG f l:=by
 have e:gG f l=gG f (l.take n)+gG f (l.drop n):=by rw[<- oq,List.take_append_drop]
 have:=Gz (f:=f) (l:=l.drop n) fun u hu=>h u (List.mem_of_mem_drop hu);omega
theorem pP {id:Int}{l:List aL}{n m:Nat}(h:n≤m) (h0:jH id (l.take n)≠0):jH id (l.take m)=jH id (l.take n):=by
 have e:l.take m=l.take n++(l.take m).drop n:=(rV h).symm;rw[e,qE,if_neg h0]
theorem Fu {id:Int}{l:List aL}(h:jH id l≠0):∃ u∈l,u.kind≠1/\u.id=id:=by
 induction l with
 | nil=>exact absurd rfl h
 | cons u l ih=>
  unfold jH at h;split at h
  ·rename_i hr;simp only[m8,Bool.and_eq_true,decide_eq_true_eq]at hr;exact⟨u,by simp,hr.1,hr.2.1⟩
  ·obtain⟨w,h1,h2⟩:=ih h;exact⟨w,by simp[h1],h2⟩
theorem ra {u:aL}(h:dp u=true):0≤u.amount:=by
 have:=(lW h).2.2;omega
def j7 (l:List aL):Nat:=(l.filter fun u=>decide (u.kind=1)).length
theorem tJ (l:List aL):j7 l≤l.length:=List.length_filter_le _ _
theorem oR (a b:List aL):j7 (a++b)=j7 a+j7 b:=by unfold j7;rw[List.filter_append,List.length_append]
def SB (base:Int) (mine others:List aL) (fm fo:Nat):Int:=base-gG (stays (others.take fo)) mine+gG (kD (mine.take fm)) others
def rA (l:List aL):Prop:=∀ j u,l[j]?=some u->u.kind=1->u.id=((j7 (l.take j):Nat):Int)
def tt (mine others:List aL) (fo:Nat):Prop:=∀ u∈mine,u.kind≠1->∃ w∈others.take fo,w.kind=1/\w.id=u.id
structure oX (b0 b1:Int) (l0 l1:List aL) (f0 f1:Nat):Prop where
 ok0:∀ u∈l0,u.ok
 ok1:∀ u∈l1,u.ok
 v0:∀ u∈l0,dp u=true
 v1:∀ u∈l1,dp u=true
 le0:f0≤l0.length
 le1:f1≤l1.length
 m0:l0.length≤2048
 m1:l1.length≤2048
 i0:rA l0
 i1:rA l1
 r0:tt l0 l1 f1
 r1:tt l1 l0 f0
 s0:0≤SB b0 l0 l1 f0 f1
 s1:0≤SB b1 l1 l0 f1 f0
 b0n:0≤b0
 b1n:0≤b1
 bs:b0+b1≤1152921504606846976
theorem oX.swap {b0 b1:Int}{l0 l1:List aL}{f0 f1:Nat}(h:oX b0 b1 l0 l1 f0 f1):oX b1 b0 l1 l0 f1 f0:=
 ⟨h.ok1,h.ok0,h.v1,h.v0,h.le1,h.le0,h.m1,h.m0,h.i1,h.i0,h.r1,h.r0,h.s1,h.s0,h.b1n,h.b0n,by have:=h.bs;omega⟩
theorem FF {l:List aL}(h:rA l) {i j:Nat}{u w:aL}(hi:l[i]?=some u) (hj:l[j]?=some w) (hu:u.kind=1) (hw:w.kind=1) (he:u.id=w.id):i=j:=by
 have key:∀ {i j:Nat}{u w:aL},l[i]?=some u->l[j]?=some w->u.kind=1->w.kind=1->u.id=w.id->i<j->False:=by
  intro i j u w hi hj hu hw he hlt;have h1:=h i u hi hu;have h2:=h j w hj hw;have e:l.take j=l.take (i+1)++(l.take j).drop (i+1):=(rV hlt).symm;have h3:j7 (l.take (i+1))=j7 (l.take i)+1:=by
   rw[List.take_add_one,hi,oR];simp[j7,hu]
  rw[e,oR,h3]at h2;omega
 rcases Nat.lt_trichotomy i j with h1|h1|h1
 ·exact (key hi hj hu hw he h1).elim
 ·exact h1
 ·exact (key hj hi hw hu he.symm h1).elim
theorem HJ {mine others:List aL}{fm fo m:Nat}(hi:rA others) (hr:tt mine others fo) (hm:fo≤m):∀ u∈others.drop m,kD (mine.take fm) u=false:=by
 intro u hu;cases hp:kD (mine.take fm) u with
 | false=>rfl
 | true=>
  exfalso;simp only[kD,Bool.and_eq_true,decide_eq_true_eq]at hp;obtain⟨x,hx,hx1,hx2⟩:=Fu (by rw[hp.2];decide:jH u.id (mine.take fm)≠0);obtain⟨w,hw,hw1,hw2⟩:=hr x (List.mem_of_mem_take hx) hx1;obtain⟨i,hi1⟩:=List.getElem?_of_mem hw;obtain⟨j,hj1⟩:=List.getElem?_of_mem hu;have hil:i<fo:=by
   have:=(List.getElem?_eq_some_iff.1 hi1).1;rw[List.length_take]at this;omega
  rw[List.getElem?_take_of_lt hil]at hi1;rw[List.getElem?_drop]at hj1;have:=FF hi hi1 hj1 hw1 hp.1 (by rw[hw2,hx2]);omega
theorem GZ {base:Int}{mine others:List aL}{fm fo n m:Nat}(v0:∀ u∈mine,dp u=true) (v1:∀ u∈others,dp u=true) (hi:rA others) (hr:tt mine others fo) (hn:fm≤n) (hm:fo≤m) :
  SB base mine others fm fo≤nH base (mine.take n) (others.take m):=by
 unfold SB nH;have h1:gG (stays (others.take m)) (mine.take n)≤gG (stays (others.take fo)) mine:=by
  refine Int.le_trans (tS (fun u hu=>ra (v0 u (List.mem_of_mem_take hu))) fun u hu hs=>?_) (CL (fun u hu=>ra (v0 u hu)) n);simp only[stays,Bool.and_eq_true,decide_eq_true_eq,Bool.not_eq_true',decide_eq_false_iff_not]at hs ⊢;refine⟨hs.1,fun h3=>hs.2 ?_⟩;rw[pP hm (by rw[h3];decide),h3]
 have h2:gG (kD (mine.take fm)) others≤gG (kD (mine.take n)) (others.take m):=by
  have e:gG (kD (mine.take fm)) others=gG (kD (mine.take fm)) (others.take m)+gG (kD (mine.take fm)) (others.drop m):=by rw[<- oq,List.take_append_drop]
  rw[e,xg (HJ hi hr hm),Int.add_zero];refine tS (fun u hu=>ra (v1 u (List.mem_of_mem_take hu))) fun u hu hs=>?_;simp only[kD,Bool.and_eq_true,decide_eq_true_eq]at hs ⊢;refine⟨hs.1,?_⟩;rw[pP hn (by rw[hs.2];decide),hs.2]
 omega
theorem oX.taken {b0 b1:Int}{l0 l1:List aL}{f0 f1:Nat}(h:oX b0 b1 l0 l1 f0 f1) {n m:Nat}(hn:f0≤n) (hn2:n≤l0.length) (hm:f1≤m) (hm2:m≤l1.length):(mN b0 b1 l0 l1 n m).e=0/\mN b0 b1 l0 l1 n m=foldM b0 b1 (l0.take n) (l1.take m):=by
 have e:mN b0 b1 l0 l1 n m=foldM b0 b1 (l0.take n) (l1.take m):=by
  unfold mN;rw[if_pos ⟨⟨by omega,by omega,by omega,by omega⟩,⟨h.b0n,by have:=h.bs;have:=h.b1n;omega⟩,⟨h.b1n,by have:=h.bs;have:=h.b0n;omega⟩,by have:=h.b0n;have:=h.b1n;omega,h.bs⟩];rfl
 refine⟨?_,e⟩;rw[e];have h0:=GZ (base:=b0) h.v0 h.v1 h.i1 h.r0 hn hm;have h1:=GZ (base:=b1) h.v1 h.v0 h.i0 h.r1 hm hn;have g0:=h.s0;have g1:=h.s1;rw[FJ]at h1;have a0:nm (l0.take n)=true:=List.all_eq_true.2 fun u hu=>h.v0 u (List.mem_of_mem_take hu);have a1:nm (l1.take m)=true:=List.all_eq_true.2 fun u hu=>h.v1 u (List.mem_of_mem_take hu);unfold foldM;rw[if_neg (by rw[a0,a1];simp),if_neg (by omega)]
theorem Hm {b0 b1:Int}{l0 l1:List aL}{f0 f1:Nat}(h:oX b0 b1 l0 l1 f0 f1):SB b0 l0 l1 f0 f1≤b0+b1:=by
 have h1:=qA (l1.take f1) l0;have h2:=qA (l0.take f0) l1;have h3:=r9 (r:=l1.take f1) h.v0;have h4:=r9 (r:=l0.take f0) h.v1;have h5:=h.s1;unfold SB at h5 ⊢;omega
theorem nu (l:List aL) (u:aL) {n:Nat}(h:n≤l.length):(l++[u]).take n=l.take n:=by
 rw[List.take_append_of_le_length h]
theorem Eu {l:List aL}{u:aL}(h:rA l) (hu:u.kind=1->u.id=((j7 l:Nat):Int)):rA (l++[u]):=by
 intro j w hj hw;by_cases hjl:j<l.length
 ·rw[List.getElem?_append_left hjl]at hj;rw[nu l u (by omega)];exact h j w hj hw
 ·have hb:=(List.getElem?_eq_some_iff.1 hj).1;rw[List.length_append,List.length_singleton]at hb;have:j=l.length:=by omega
  subst this;rw[List.getElem?_append_right (by omega)]at hj;simp at hj;subst hj;rw[nu l u (Nat.le_refl _),List.take_length];exact hu hw
theorem BL {mine others:List aL}{fo:Nat}{u:aL}(h:tt mine others fo) (hu:u.kind≠1->∃ w∈others.take fo,w.kind=1/\w.id=u.id):tt (mine++[u]) others fo:=by
 intro x hx hk;rcases List.mem_append.1 hx with hx|hx
 ·exact h x hx hk
 ·rw[List.mem_singleton.1 hx]at hk ⊢;exact hu hk
theorem rn {α:Type}{Pr:α->Prop}{l:List α}{u:α}(h:∀ x∈l,Pr x) (hu:Pr u):∀ x∈l++[u],Pr x:=by
 intro x hx;rcases List.mem_append.1 hx with hx|hx
 ·exact h x hx
 ·rw[List.mem_singleton.1 hx];exact hu
theorem oX.add {b0 b1:Int}{l0 l1:List aL}{f0 f1:Nat}(h:oX b0 b1 l0 l1 f0 f1) (hl:l0.length<2048) {u:aL}(hk:u.kind=1) (hid:u.id=((j7 l0:Nat):Int)) (ho:u.ok) (hv:dp u=true) (ha:u.amount≤SB b0 l0 l1 f0 f1):oX b0 b1 (l0++[u]) l1 f0 f1:=by
 have hnn:=ra hv;refine⟨rn h.ok0 ho,h.ok1,rn h.v0 hv,h.v1,by rw[List.length_append];have:=h.le0;omega,h.le1,by rw[List.length_append,List.length_singleton];omega,h.m1,Eu h.i0 fun _=>hid,h.i1,BL h.r0 fun hh=>absurd hk hh,?_,?_,?_,h.b0n,h.b1n,h.bs⟩
 ·rw[tt,nu l0 u h.le0];exact h.r1
 ·unfold SB at ha ⊢;rw[nu l0 u h.le0,oq];have:gG (stays (l1.take f1)) [u]≤u.amount:=by
   unfold gG;simp only[List.filter_cons,List.filter_nil];split
   ·simp
   ·simp;exact hnn
  omega
 ·have h1:=h.s1;unfold SB at h1 ⊢;rw[nu l0 u h.le0,oq];have:=Gz (f:=kD (l1.take f1)) (l:=[u]) fun x hx=>by rw[List.mem_singleton.1 hx];exact hnn
  omega
theorem oX.rem {b0 b1:Int}{l0 l1:List aL}{f0 f1:Nat}(h:oX b0 b1 l0 l1 f0 f1) (hl:l0.length<2048) {u:aL}(hk:u.kind≠1) (hr:∃ w∈l1.take f1,w.kind=1/\w.id=u.id) (ho:u.ok) (hv:dp u=true):oX b0 b1 (l0++[u]) l1 f0 f1:=by
 refine⟨rn h.ok0 ho,h.ok1,rn h.v0 hv,h.v1,by rw[List.length_append];have:=h.le0;omega,h.le1,by rw[List.length_append,List.length_singleton];omega,h.m1,Eu h.i0 fun hh=>absurd hh hk,h.i1,BL h.r0 fun _=>hr,?_,?_,?_,h.b0n,h.b1n,h.bs⟩
 ·rw[tt,nu l0 u h.le0];exact h.r1
 ·have h1:=h.s0;unfold SB at h1 ⊢;rw[nu l0 u h.le0,oq,xg (l:=[u]) fun x hx=>by rw[List.mem_singleton.1 hx];simp[stays,hk]];omega
 ·have h1:=h.s1;unfold SB at h1 ⊢;rw[nu l0 u h.le0,oq,xg (l:=[u]) fun x hx=>by rw[List.mem_singleton.1 hx];simp[kD,hk]];omega
theorem oX.fix {b0 b1:Int}{l0 l1:List aL}{f0 f1 g:Nat}(h:oX b0 b1 l0 l1 f0 f1) (hg:f0≤g) (hg2:g≤l0.length):oX b0 b1 l0 l1 g f1:=by
 refine⟨h.ok0,h.ok1,h.v0,h.v1,hg2,h.le1,h.m0,h.m1,h.i0,h.i1,h.r0,?_,?_,?_,h.b0n,h.b1n,h.bs⟩
 ·intro u hu hk;obtain⟨w,hw,h1⟩:=h.r1 u hu hk;refine⟨w,?_,h1⟩;rw[<- rV hg];exact List.mem_append.2 (.inl hw)
 ·have h1:=h.s0;unfold SB at h1 ⊢;have:=tS (f:=kD (l0.take f0)) (g:=kD (l0.take g)) (l:=l1) (fun u hu=>ra (h.v1 u hu)) fun u hu hs=>by
   simp only[kD,Bool.and_eq_true,decide_eq_true_eq]at hs ⊢;refine⟨hs.1,?_⟩;rw[pP hg (by rw[hs.2];decide),hs.2]
  omega
 ·have h1:=h.s1;unfold SB at h1 ⊢;have:=tS (f:=stays (l0.take g)) (g:=stays (l0.take f0)) (l:=l1) (fun u hu=>ra (h.v1 u hu)) fun u hu hs=>by
   simp only[stays,Bool.and_eq_true,decide_eq_true_eq,Bool.not_eq_true',decide_eq_false_iff_not]at hs ⊢;refine⟨hs.1,fun h3=>hs.2 ?_⟩;rw[pP hg (by rw[h3];decide),h3]
  omega
theorem DW {base:Int}{mine others:List aL}{fm fo:Nat}(v0:∀ u∈mine,dp u=true) (v1:∀ u∈others,dp u=true) (hb:0≤base) (hb2:base≤1152921504606846976) :
  xj base mine others fm fo=AJ (SB base mine others fm fo):=by
 unfold xj;rw[if_neg (by omega)];have h1:(ml (vM others fo) mine).sum=gG (stays (others.take fo)) mine:=by
  unfold ml gG;congr 2;refine List.filter_congr fun u hu=>?_;rw[v0 u hu];simp[stays,vM,cw];rfl
 have h2:(ml (vL mine fm) others).sum=gG (kD (mine.take fm)) others:=by
  unfold ml gG;congr 2;refine List.filter_congr fun u hu=>?_;rw[v1 u hu];simp[kD,vL,cw];rfl
 have h3:Bq base=base:=by unfold Bq;rw[if_neg (by omega)]
 rw[h1,h2,h3];rfl
end Go.Esc.M
namespace Go.Esc.M
open Go Go.Esc
section
variable {F0:List AId}{G0 G:ak}{ps:List LP}{Q:ah->ak->Prop}
end
end Go.Esc.M
namespace Go.Esc.M
open Go Go.Esc
theorem Gy (a b:Int):(tR 0 [a,b]).2=0 ↔ amt a/\amt b/\amt (a+b):=by
 have h0:right 0=true:=by decide
 unfold amt;simp only[tR,plus,h0,Bool.true_and,Int.zero_add];cases ha:right a with
 | false=>
  have:¬ (0≤a/\a≤1152921504606846976):=by simpa[right] using ha
  simp;omega
 | true=>
  have h1:=lZ.1 ha;cases hb:right b with
  | false=>
   have:¬ (0≤b/\b≤1152921504606846976):=(by simpa[right] using hb);simp[ha,h1.1,h1.2];omega
  | true=>
   have h2:=lZ.1 hb;cases hc:right (a+b) with
   | false=>
    have:¬ (0≤a+b/\a+b≤1152921504606846976):=(by simpa[right] using hc);simp[ha,hc,h1.1,h1.2,h2.1,h2.2];omega
   | true=>
    have h3:=lZ.1 hc;simp[ha,hc,h1.1,h1.2,h2.1,h2.2,h3.1,h3.2]
theorem Cd {bo bp:Int}{a b:List aL}(h:nm a=false\/nm b=false):foldM bo bp a b=.no 120:=if_pos h
theorem Cc {bo bp:Int}{a b:List aL}(h:¬ (nm a=false\/nm b=false)) (h2:nH bo a b<0\/n0 bp a b<0):foldM bo bp a b=.no 130:=by
 unfold foldM;rw[if_neg h,if_pos h2]
theorem Az {bo bp:Int}{a b:List aL}(h:¬ (nm a=false\/nm b=false)) (h2:¬ (nH bo a b<0\/n0 bp a b<0)):foldM bo bp a b=⟨nH bo a b,n0 bp a b,oN a b,0⟩:=by
 unfold foldM;rw[if_neg h,if_neg h2]
theorem Kg (a b c:ah):aP (.tuple [a,b,c]) 0=some a:=rfl
theorem Kf (a b c:ah):aP (.tuple [a,b,c]) 1=some b:=rfl
theorem Ke (a b c:ah):aP (.tuple [a,b,c]) 2=some c:=rfl
section
variable {F0:List AId}{G0 G:ak}{ps:List LP}{Q:ah->ak->Prop}
theorem D5 {l:List ba}(h:∀ p∈l,p.ok):Esc.uni 35 (l.map ba.av)=true/\mz (l.map ba.av)=true:=by
 refine⟨by simp only[Esc.uni,List.all_map,List.all_eq_true];intro p hp;simp[ba.sz (h p hp)],?_⟩;clear h;induction l with
 | nil=>rfl
 | cons p l ih=>simp[mz,ba.okv,ih]
theorem Cb {i:Nat}{v x:ah}{l l':List ba}{K:ah->ak->Prop}(hs:Sp F0 G0 ps G) (hi:ps[i]?=some (bm 35 v (l.map ba.av))) (hx:ff 35 G x (l'.map ba.av)) (ho:∀ u∈l',u.ok) (hl:(l.length+l'.length)*56≤140737488355328) (hK:∀ v' G',Sp F0 G0 (ps.set i (bm 35 v' ((l++l').map ba.av))) G'->K v' G') :
  cn T G aw aw v x K:=by
 have hb:dS.bytes=56:=rfl;refine uN (si:=b8) (ie:=dS) cy rfl eP rfl (by decide) cy (.inr ⟨_,rfl⟩) hs hi hx.elems (D5 ho).1 (D5 ho).2 (by rw[hb,List.length_map,List.length_map];exact hl) fun s' G' h=>hK s' G' ?_;rw[List.map_append];exact h
theorem iM.use {v w:ah}{bo bp co cp:Int}{ours kA:List aL}(hl:hJ 36 G v (ours.map aL.av)) (hp:hJ 36 G w (kA.map aL.av)) (hok:∀ u∈ours,u.ok) (hok2:∀ u∈kA,u.ok) (hlen:ours.length≤1048576) (hlen2:kA.length≤1048576)
  (hQ:∀ x G',Sp [] G [bm 35 x ((mN bo bp ours kA co cp).l.map ba.av)] G'->Q (.tuple [gH (mN bo bp ours kA co cp).o (mN bo bp ours kA co cp).q x,.int .i64 (mN bo bp ours kA co cp).e]) G') :
  al P iM.n [.int .i64 bo,.int .i64 bp,v,w,bE co cp] G Q:=by
 refine iM.sound ?_;unfold iM.S;rw[J5,Gg];obtain⟨F,hF⟩:∃ F,F=mN bo bp ours kA co cp:=⟨_,rfl⟩;rw[<- hF]at hQ;intro i1 f1;have s1:=(Sp.nil G).row f1 (bE co cp);intro i3 f3;have s3:=s1.row f3 (gH 0 0 .nilSlice);revert s3;generalize ak.upd _ i3 _=G4;intro s3 J99;have no:∀ (e:Int) (G2:ak) (j:Nat) (ps:List LP),Sp [] G ps G2->ps[j]?=some (au i3 (gH 0 0 .nilSlice))->F=.no e->wv (bj T aX []) fun v17=>wg (aF T G2 aX (.ptr i3 [] 0) v17) fun G18=>wv (ag T G18 aX (.ptr i3 [] 0)) fun v19=>Q (.tuple [v19,.int .i64 e]) G18:=by
  intro e G2 j ps s hj he;refine ae (v:=gH 0 0 .nilSlice) rfl ?_;refine nN (i:=j) s hj rfl rl fun G18 s18=>?_;refine ae (iI (i:=j) s18 (by rw[List.getElem?_set_self (List.getElem?_eq_some_iff.1 hj).1]) rl).2.2.2 ?_;have:=hQ .nilSlice G18;rw[he]at this;exact this (((Sp.nil G).tmp s18.ch).nz 35)
 have bad:¬ inC co cp ours kA->J99 (.bool true) G4:=by
  intro h;simp -zeta only [J99,aN];exact no 1 G4 0 _ s3 rfl (by rw[hF];unfold mN;rw[if_neg fun hh=>h hh.1])
 have lK:inC co cp ours kA->J99 (.bool false) G4:=by
  intro hC;simp -zeta only [J99,aK];refine Hh (T:=T) (ts:=jf) (e:=aq) (si:=lM) (ie:=iZ) (a:=.int .i64 bo) (b:=.int .i64 bp) oh rfl cu rfl s3 rfl rfl (by decide) fun v20 G21 s21=>?_;refine jX.use (xs:=[bo,bp]) (bm.own (i:=0) s21 rfl).is (by simp) ?_;refine ae (K8 _) ?_;refine ae (K7 _) ?_;rw[cD,aa,dC];refine⟨fun h=>no 1 G21 1 _ s21 rfl (by rw[hF];unfold mN;rw[if_neg fun hh=>h ((Gy bo bp).2 hh.2)]),fun h=>?_⟩;have hA:=(Gy bo bp).1 h;have hFM:F=foldM bo bp (ours.take co.toNat) (kA.take cp.toNat):=by rw[hF];unfold mN;rw[if_pos ⟨hC,hA⟩]
  obtain⟨c1,c2,c3,c4⟩:=hC;obtain⟨l1,l2,_⟩:=jW (au.own (i:=2) s21 rfl);refine ae l1 ?_;obtain⟨va,ea,ca⟩:=hJ.take (ie:=cG) (k:=.i64) (m:=co.toNat) (x:=co) bT rfl dE hl (by omega) (by rw[List.length_map];omega);refine ae ea ?_;refine ae l2 ?_;obtain⟨vb,eb,cb⟩:=hJ.take (ie:=cG) (k:=.i64) (m:=cp.toNat) (x:=cp) bT rfl dE hp (by omega) (by rw[List.length_map];omega);refine ae eb ?_;rw[<- List.map_take]at ca cb;obtain⟨A,hAd⟩:∃ A,A=ours.take co.toNat:=⟨_,rfl⟩;obtain⟨B,hBd⟩:∃ A,A=kA.take cp.toNat:=⟨_,rfl⟩;rw[<- hAd]at ca hFM;rw[<- hBd]at cb hFM;have okA:∀ u∈A,u.ok:=by rw[hAd];exact fun u hu=>hok u (List.mem_of_mem_take hu)
  have okB:∀ u∈B,u.ok:=by rw[hBd];exact fun u hu=>hok2 u (List.mem_of_mem_take hu)
  have lA:A.length≤1048576:=by rw[hAd,List.length_take];omega
  have lB:B.length≤1048576:=by rw[hBd,List.length_take];omega
  have iA:ff 36 G va (A.map aL.av):=ca.gZ;have iB:ff 36 G vb (B.map aL.av):=cb.gZ;intro J98;have s21:Sp [] G [bm 1 v20 [.int .i64 bo,.int .i64 bp],au i3 (gH 0 0 .nilSlice),au i1 (bE co cp)] G21:=s21;have bad2:∀ G2,Sp [] G [bm 1 v20 [.int .i64 bo,.int .i64 bp],au i3 (gH 0 0 .nilSlice),au i1 (bE co cp)] G2->(nm A=false\/nm B=false)->J98 (.bool true) G2:=by
   intro G2 s2 h;simp -zeta only [J98,aN];exact no 120 G2 1 _ s2 rfl (by rw[hFM,Cd h])
  have good2:∀ G2,Sp [] G [bm 1 v20 [.int .i64 bo,.int .i64 bp],au i3 (gH 0 0 .nilSlice),au i1 (bE co cp)] G2->¬ (nm A=false\/nm B=false)->J98 (.bool false) G2:=by
   intro G2 s2 h;have vA:nm A=true:=by
    cases hh:nm A with
    | true=>rfl
    | false=>exact absurd (.inl hh) h
   have vB:nm B=true:=by
    cases hh:nm B with
    | true=>rfl
    | false=>exact absurd (.inr hh) h
   have aA:=pU vA;have aB:=pU vB;simp -zeta only [J98,aK];refine dq.use (iB.ch' s2.ch) okB lB fun mid1 es1 G44 hes1 t44=>?_;obtain⟨F44,o44,k44⟩:=t44.out;have s44:=s2.new o44 k44;refine ae (v:=bE 0 0) rfl ?_;refine cS.use (n:=0) ⟨by decide,by decide,by decide,by decide⟩ (by decide) hA.1 fun u0 l0 G47 c47 hw0 ht0=>?_;have s47:=s44.tmp c47;refine ae (v:=bE 0 0) rfl ?_;refine cS.use (n:=0) ⟨by decide,by decide,by decide,by decide⟩ (by decide) hA.2.1 fun u1 l1 G50 c50 hw1 ht1=>?_;have s50:=s47.tmp c50;have ht0:oD u0 l0=bo:=(by rw[ht0];unfold oD;omega);have ht1:oD u1 l1=bp:=(by rw[ht1];unfold oD;omega);refine iK.use (n:=0+1) (iA.ch' s50.ch) okA aA lA (mo.own (i:=0) s50 rfl) hes1 hw0 hw1 (by decide) fun a b d e w1 G52 x1 x2 y1 y2 t52=>?_;obtain⟨F52,o52,k52⟩:=t52.out;have s52:=s50.new o52 k52;rw[ht0]at y1;rw[ht1]at y2;refine ae (Kg _ _ _) ?_;refine ae (Kf _ _ _) ?_;refine ae (Ke _ _ _) ?_;intro i56 f56;have s57:=s52.row f56 (bE 0 0);intro i58 f58;have s59:=s57.row f58 (bE 0 0);refine k7 (i:=1) s59 rfl fun G60 s60=>?_;refine k7 (i:=0) s60 rfl fun G61 s61=>?_;have s61:Sp [] G [au i58 (bE d e),au i56 (bE a b),bm 35 w1 ((kS (iX true (opens B) A)).map ba.av),mo mid1 (nh es1),bm 1 v20 [.int .i64 bo,.int .i64 bp],au i3 (gH 0 0 .nilSlice),au i1 (bE co cp)] G61:=s61;refine ae (dj (au.own (i:=0) s61 rfl) dT rfl).2.2 ?_;refine ae (dj (au.own (i:=1) s61 rfl) dT rfl).2.2 ?_;refine dq.use (iA.ch' s61.ch) okA lA fun mid2 es2 G65 hes2 t65=>?_;obtain⟨F65,o65,k65⟩:=t65.out;have s65:=s61.new o65 k65;refine⟨⟨(dj (au.own (i:=2) s65 rfl) dT rfl).2.2,(dj (au.own (i:=1) s65 rfl) dT rfl).2.2,trivial⟩,?_⟩;refine iK.use (n:=0+1+A.length) (iB.ch' s65.ch) okB aB lB (mo.own (i:=0) s65 rfl) hes2 x2 x1 (by omega) fun a2 b2 d2 e2 w2 G67 z1 z2 q1 q2 t67=>?_;obtain⟨F67,o67,k67⟩:=t67.out;have s67:=s65.new o67 k67;rw[y2]at q1;rw[y1]at q2;refine ae (Kg _ _ _) ?_;refine ae (Kf _ _ _) ?_;refine ae (Ke _ _ _) ?_;refine k7 (i:=2) s67 rfl fun G71 s71=>?_;refine k7 (i:=3) s71 rfl fun G72 s72=>?_;have s72:Sp [] G [bm 35 w2 ((kS (iX false (opens A) B)).map ba.av),mo mid2 (nh es2),au i58 (bE a2 b2),au i56 (bE d2 e2),bm 35 w1 ((kS (iX true (opens B) A)).map ba.av),mo mid1 (nh es1),bm 1 v20 [.int .i64 bo,.int .i64 bp],au i3 (gH 0 0 .nilSlice),au i1 (bE co cp)] G72:=s72;have qX:oD d2 e2=nH bo A B:=(by rw[q2];unfold nH;omega);have qY:oD a2 b2=n0 bp A B:=(by rw[q1];unfold n0;omega);refine ae (dj (au.own (i:=3) s72 rfl) dT rfl).2.2 ?_;refine ae (dj (au.own (i:=2) s72 rfl) dT rfl).2.2 ?_;refine dy.use z2 (by omega) fun G76 c76=>?_;have s76:=s72.tmp c76;refine⟨⟨(dj (au.own (i:=2) s76 rfl) dT rfl).2.2,trivial⟩,?_⟩;refine dy.use z1 (by omega) fun G78 c78=>?_;have s78:=s76.tmp c78;rw[qX,qY];have hlo:=xE A B;unfold oN at hlo;rw[List.length_append]at hlo;refine Cb (i:=4) s78 rfl (bm.own (i:=0) s78 rfl).is (tm (ri okB)) (by omega) fun w3 G80 s80=>?_;have s80:Sp [] G [bm 35 w2 ((kS (iX false (opens A) B)).map ba.av),mo mid2 (nh es2),au i58 (bE a2 b2),au i56 (bE d2 e2),bm 35 w3 ((oN A B).map ba.av),mo mid1 (nh es1),bm 1 v20 [.int .i64 bo,.int .i64 bp],au i3 (gH 0 0 .nilSlice),au i1 (bE co cp)] G80:=s80;have lw3:=(bm.own (i:=4) s80 rfl).leaf;refine ae (Co lw3.1) ?_;intro i82 f82;have s83:=s80.row f82 (gH 0 0 .nilSlice);refine nN (i:=0) s83 rfl rfl lw3 fun G84 s84=>?_;have s84:Sp [] G [au i82 (gH (nC (nH bo A B)) (nC (n0 bp A B)) w3),bm 35 w2 ((kS (iX false (opens A) B)).map ba.av),mo mid2 (nh es2),au i58 (bE a2 b2),au i56 (bE d2 e2),bm 35 w3 ((oN A B).map ba.av),mo mid1 (nh es1),bm 1 v20 [.int .i64 bo,.int .i64 bp],au i3 (gH 0 0 .nilSlice),au i1 (bE co cp)] G84:=s84;obtain⟨X,hX⟩:∃ X,X=nH bo A B:=⟨_,rfl⟩;obtain⟨Y,hY⟩:∃ Y,Y=n0 bp A B:=⟨_,rfl⟩;have hfl:=C8 (bo:=bo) (bp:=bp) aA aB hA.2.2.2;have hlow:=Cc (bo:=bo) (bp:=bp) h;have hfine:=Az (bo:=bo) (bp:=bp) h;rw[<- hX,<- hY]at s84 hfl hlow hfine;intro J97;have low:(X<0\/Y<0)->J97 (.bool true) G84:=by
    intro hh;simp -zeta only [J97,aN];exact no 130 G84 8 _ s84 rfl (by rw[hFM,hlow hh])
   have fine:¬ (X<0\/Y<0)->J97 (.bool false) G84:=by
    intro hh;simp -zeta only [J97,aK];have eX:=(rN (t:=X) (by omega) (hfl.1 (by omega))).1;have eY:=(rN (t:=Y) (by omega) (hfl.2 (by omega))).1;rw[eX,eY]at s84;refine ae (iI (i:=0) s84 rfl lw3).2.2.2 ?_;refine nN (i:=8) s84 rfl rfl lw3 fun G95 s95=>?_;refine ae (iI (i:=8) s95 rfl lw3).2.2.2 ?_;have hF2:F=⟨X,Y,oN A B,0⟩:=(by rw[hFM,hfine hh]);rw[hF2]at hQ;refine hQ w3 G95 ?_;exact ((((((((s95.erase 0).erase 0).erase 0).erase 0).erase 0).erase 1).erase 1).erase 1).erase 1
   refine ae (iI (i:=0) s84 rfl lw3).1 ?_;rw[aM,aa];by_cases h1:nC X<0
   ·rw[dT_ h1,aN];exact low (.inl ((tN X).1 h1))
   ·rw[dF_ h1,aK];refine ae (iI (i:=0) s84 rfl lw3).2.1 ?_;rw[aM,aa];by_cases h2:nC Y<0
    ·rw[dT_ h2];exact low (.inr ((tN Y).1 h2))
    ·rw[dF_ h2];exact fine fun hh=>hh.elim (fun q=>h1 ((tN X).2 q)) (fun q=>h2 ((tN Y).2 q))
  refine contains.use (iA.ch' s21.ch) okA lA fun G35 c35=>?_;have s35:=s21.tmp c35;cases vA:nm A with
  | false=>exact bad2 _ s35 (.inl vA)
  | true=>
   rw[Bool.not_true,aK];refine contains.use (iB.ch' s35.ch) okB lB fun G37 c37=>?_;have s37:=s35.tmp c37;cases vB:nm B with
   | false=>exact bad2 _ s37 (.inr vB)
   | true=>exact good2 _ s37 (by rw[vA,vB];simp)
 obtain⟨l1,l2,_⟩:=jW (au.own (i:=1) s3 rfl);refine ae l1 ?_;rw[aM,aa,aI];refine⟨fun h=>bad fun hh=>by have:=hh.1;omega,fun h1=>?_⟩;refine ae l1 ?_;refine ae (dh (hl.gZ.ch' s3.ch)) ?_;rw[da,aa,aI];refine⟨fun h=>bad fun hh=>by have:=hh.2.1;omega,fun h2=>?_⟩;refine ae l2 ?_;rw[aM,aa,aI];refine⟨fun h=>bad fun hh=>by have:=hh.2.2.1;omega,fun h3=>?_⟩;refine ae l2 ?_;refine ae (dh (hp.gZ.ch' s3.ch)) ?_;rw[da,aa];by_cases h4:(kA.length:Int)<cp
 ·rw[dT_ h4];exact bad fun hh=>by have:=hh.2.2.2;omega
 ·rw[dF_ h4];exact lK ⟨by omega,by omega,by omega,by omega⟩
end
end Go.Esc.M
