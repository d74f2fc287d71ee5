import Derived.Test.YtkojimdacnohpaaGreatDoorLFb
import Derived.Test.YtkojimdacnohpaaGreatDoorLPw
set_option maxHeartbeats 8000000
set_option linter.unusedSimpArgs false
set_option linter.unusedVariables false
set_option maxRecDepth 20000
namespace Go.Esc.M
open Go Go.Esc
section
variable {F0:List AId}{G0 G:ak}{ps:List LP}{Q:ah->ak->Prop}
theorem dY.use {v:ah}{l:List aL}{id:Int}(hl:ff 36 G v (l.map aL.av)) (hok:∀ u∈l,u.ok) (hlen:l.length≤1048576) (hQ:∀ G',Ch [] G [] G'->Q (.int .i64 (jH id l)) G'):al P dY.n [v,.int .i64 id] G Q:=by
 refine dY.sound ?_;unfold dY.S;intro R hR;have loop:∀ (m j:Nat) (G':ak),l.length-j=m->j≤l.length->jH id (l.take j)=0->Ch [] G [] G'->R [v,.int .i64 id,.int .i64 (j:Int)] G':=by
  intro m;induction m with
  | zero=>
   intro j G' hm hj h0 hc;refine hR _ _ _ _ ?_;refine ae (dh (hl.ch' hc)) ?_;rw[aM,aa,dF_ (by omega),aK];rw[List.take_of_length_le (by omega)]at h0;rw[h0]at hQ;exact hQ _ hc
  | succ m ih=>
   intro j G' hm hj h0 hc;obtain⟨u,hu⟩:∃ u,l[j]?=some u:=⟨_,List.getElem?_eq_getElem (by omega)⟩;have huo:=hok u (List.mem_of_getElem? hu);refine hR _ _ _ _ ?_;refine ae (dh (hl.ch' hc)) ?_;rw[aM,aa,dT_ (by omega),aN];have hnx:=xt (id:=id) hu;rw[if_pos h0]at hnx;intro J25;have no:∀ G',Ch [] G [] G'->m8 id u=false->J25 (.bool false) G':=by
    intro G' hc hr;simp -zeta only [J25,aK];rw[bg,i64_in (by omega) (by omega),aa];refine ih (j+1) G' (by omega) (by omega) ?_ hc;rw[hnx,hr];rfl
   obtain⟨a,b,e1,e2,e3⟩:=Mq (hl.ch' hc) hu;refine ae e1 ?_;refine ae e2 ?_;refine ae e3 ?_;rw[cD,aa];by_cases hk:u.kind=1
   ·rw[dT_ hk,Bool.not_true,aK];exact no G' hc (by simp[m8,hk])
   ·rw[dF_ hk,Bool.not_false,aN];obtain⟨a,b,e1,e2,e3⟩:=MK (hl.ch' hc) hu;refine ae e1 ?_;refine ae e2 ?_;refine ae e3 ?_;rw[bB,aa];by_cases hid:u.id=id
    ·rw[dT_ hid,aN];obtain⟨a,e1,e2⟩:=nD (hl.ch' hc) hu;refine ae e1 ?_;refine ae e2 ?_;refine dz.use huo fun G19 c19=>?_;have c19:Ch [] G [] G19:=hc.trans c19;cases hv:dp u with
     | false=>exact no G19 c19 (by simp[m8,hv])
     | true=>
      simp -zeta only [J25,aN];obtain⟨a,b,e1,e2,e3⟩:=Mq (hl.ch' c19) hu;refine ae e1 ?_;refine ae e2 ?_;refine ae e3 ?_;have hr:m8 id u=true:=(by simp[m8,hk,hid,hv]);have he:jH id l=u.kind:=by
       have:l=l.take (j+1)++l.drop (j+1):=(List.take_append_drop _ _).symm;rw[this,qE,hnx,if_pos hr,if_neg (sn hr)]
      rw[he]at hQ;exact hQ _ c19
    ·rw[dF_ hid,aK];exact no G' hc (by simp[m8,hid])
 exact loop l.length 0 G rfl (by omega) rfl (Ch.refl _ _)
def Dj (G:ak) (f:ah) (test:Int->Bool):Prop:=∀ (G':ak) (id:Int) (K:ah->ak->Prop),Ch [] G [] G'->K (.bool (test id)) G'->oS P f [.int .i64 id] G' K
theorem iq.use {v f:ah}{l:List aL}{test:Int->Bool}(hl:ff 36 G v (l.map aL.av)) (hok:∀ u∈l,u.ok) (hlen:l.length≤1048576) (hf:Dj G f test)
  (hQ:∀ w G',Sp [] G [bm 1 w ((ml test l).map (.int .i64))] G'->Q w G'):al P iq.n [v,f] G Q:=by
 refine iq.sound ?_;unfold iq.S;refine ae (dh hl) ?_;intro R hR;have loop:∀ (m j:Nat) (w:ah) (G':ak),l.length-j=m->j≤l.length->Sp [] G [bm 1 w ((ml test (l.take j)).map (.int .i64))] G'->R [f,w,v,.int .i64 (l.length:Int),.int .i64 (j:Int)] G':=by
  intro m;induction m with
  | zero=>
   intro j w G' hm hj sp;refine hR _ _ _ _ _ _ ?_;rw[aM,aa,dF_ (by omega),aK];rw[List.take_of_length_le (by omega)]at sp;exact hQ _ _ sp
  | succ m ih=>
   intro j w G' hm hj sp;obtain⟨u,hu⟩:∃ u,l[j]?=some u:=⟨_,List.getElem?_eq_getElem (by omega)⟩;have huo:=hok u (List.mem_of_getElem? hu);have hnx:=Ga (test:=test) hu;refine hR _ _ _ _ _ _ ?_;rw[aM,aa,dT_ (by omega),aN];have ev:az T .add ay (.int .i64 (j:Int)) (.int .i64 1)=some (.int .i64 ((j+1:Nat):Int)):=by
    rw[bg,i64_in (by omega) (by omega)];rfl
   obtain⟨a,e1,e2⟩:=nD (hl.ch' sp.ch) hu;refine ae e1 ?_;refine ae e2 ?_;refine vX sp huo fun i12 G14 s14=>?_;intro J32;have no:∀ G23,Sp [] G [au i12 u.av,bm 1 w ((ml test (l.take j)).map (.int .i64))] G23->(decide (u.kind=1) && (dp u && test u.id))=false->J32 (.bool false) G23:=by
    intro G23 s23 h;simp -zeta only [J32,aK];rw[h]at hnx;have s:=s23.erase 0;have e:ml test (l.take j)=ml test (l.take (j+1)):=(by rw[hnx];simp);rw[e]at s;exact ae ev (ih (j+1) w G23 (by omega) (by omega) s)
   obtain⟨l0,l1,l2,l3,l4,l5⟩:=bF (i:=0) s14 rfl huo;refine ae l0 ?_;rw[bB,aa];by_cases hk:u.kind=1
   ·rw[dT_ hk,aN];refine ae l5 ?_;refine gj.use huo fun G19 c19=>?_;have s19:=s14.tmp c19;cases hv:dp u with
    | false=>
     rw[aK];exact no _ s19 (by rw[hv];simp)
    | true=>
     rw[aN];refine ae (bF (i:=0) s19 rfl huo).2.1 ?_;refine hf _ _ _ s19.ch ?_;cases ht:test u.id with
     | false=>exact no _ s19 (by rw[ht];simp)
     | true=>
      simp -zeta only [J32,aN];refine ae (bF (i:=0) s19 rfl huo).2.2.1 ?_;have hal:=xU test (l.take j);rw[List.length_take]at hal;have hb:iZ.bytes=8:=rfl;refine wm (T:=T) (ts:=jf) (e:=aq) (si:=lM) (ie:=iZ) (i:=1) (c:=.int .i64 u.amount) oh rfl cu rfl (by decide) s19 rfl rfl rfl (by decide) ?_ fun w' G29 s29=>?_
      ·rw[hb,List.length_map];omega
      have s:Sp [] G [bm 1 w' ((ml test (l.take j)).map (.int .i64)++[.int .i64 u.amount])] G29:=s29.erase 0;have e:(ml test (l.take j)).map (ah.int .i64)++[.int .i64 u.amount]=(ml test (l.take (j+1))).map (.int .i64):=by
       rw[hnx,hk,hv,ht];simp
      rw[e]at s;exact ae ev (ih (j+1) w' G29 (by omega) (by omega) s)
   ·rw[dF_ hk,aK];exact no _ s14 (by rw[dF_ hk];rfl)
 exact loop l.length 0 .nilSlice G rfl (by omega) ((Sp.nil G).nz 1)
theorem AN {i mid:AId}{es:List (Int×Int)}{G':ak}{k:Int}{l:List aL}(h1:G' i=some (.own (.map mid))) (h2:G' mid=some (.map (nh es))) (hes:∀ id,oy es id=yW (jH id l)) :
  ag T G' dU (.ptr i [] 0)=some (.map mid)/\jg T G' dU (.map mid) (.int .i64 k) false=some (.int .i64 (jH k l)):=by
 refine⟨cj lk h1 rfl,?_⟩;rw[D3 h2,hes k];congr 2;unfold yW;split
 ·rename_i h;rw[h];rfl
 ·rfl
theorem vw {G G':ak}{E:List AId}{j:AId}{o:n6}(hc:Ch [] G E G') (h:G j=some o):G' j=some o:=hc.others j o h (by simp)
theorem Hw {G:ak}{i mid:AId}{es:List (Int×Int)}{l:List aL}(h1:G i=some (.own (.map mid))) (h2:G mid=some (.map (nh es))) (hes:∀ id,oy es id=yW (jH id l)) :
  Dj G (.func (.func jc.n) [] [.ptr i [] 0]) fun id=>decide (jH id l=0):=by
 intro G' id K hc hK;refine jc.sound ?_;unfold jc.S;obtain⟨e1,e2⟩:=AN (k:=id) (vw hc h1) (vw hc h2) hes;refine ae e1 ?_;refine ae e2 ?_;rw[bB,aa];exact hK
theorem DO {G:ak}{i mid:AId}{es:List (Int×Int)}{l:List aL}(h1:G i=some (.own (.map mid))) (h2:G mid=some (.map (nh es))) (hes:∀ id,oy es id=yW (jH id l)) :
  Dj G (.func (.func fX.n) [] [.ptr i [] 0]) fun id=>!decide (jH id l=3):=by
 intro G' id K hc hK;refine fX.sound ?_;unfold fX.S;obtain⟨e1,e2⟩:=AN (k:=id) (vw hc h1) (vw hc h2) hes;refine ae e1 ?_;refine ae e2 ?_;rw[cD,aa];exact hK
theorem DN {G:ak}{i mid:AId}{es:List (Int×Int)}{l:List aL}(h1:G i=some (.own (.map mid))) (h2:G mid=some (.map (nh es))) (hes:∀ id,oy es id=yW (jH id l)) :
  Dj G (.func (.func fW.n) [] [.ptr i [] 0]) fun id=>decide (jH id l=2):=by
 intro G' id K hc hK;refine fW.sound ?_;unfold fW.S;obtain⟨e1,e2⟩:=AN (k:=id) (vw hc h1) (vw hc h2) hes;refine ae e1 ?_;refine ae e2 ?_;rw[bB,aa];exact hK
def kX (mine others:List aL) (fixed:Int):Nat:=(ml (fun id=>decide (jH id (cw others fixed)=0)) mine).length
theorem LF {mid:AId}{K:AId->ak->Prop}(hs:Sp F0 G0 ps G) (hK:∀ i G',Sp F0 G0 (au i (.map mid)::ps) G'->K i G') :
  br G (.own k6) fun i G2=>wg (aF T G2 dU (.ptr i [] 0) (.map mid)) fun G3=>K i G3:=jL hs lk rfl rfl rfl hK
theorem iL.use {v w:ah}{mine others:List aL}{fixed:Int}(hl:ff 36 G v (mine.map aL.av)) (ho:hJ 36 G w (others.map aL.av)) (hok:∀ u∈mine,u.ok) (hok2:∀ u∈others,u.ok) (hlen:mine.length≤1048576) (hlen2:others.length≤1048576)
  (hQ:∀ G',Ch [] G [] G'->Q (.int .i64 ((kX mine others fixed:Nat):Int)) G'):al P iL.n [v,w,.int .i64 fixed] G Q:=by
 refine iL.sound ?_;unfold iL.S;refine gI.use ho hlen2 fun w1 h1=>?_;have hfl:=jU others fixed;refine dq.use h1.gZ (mu hok2) (by omega) fun mid es G4 hes s4=>?_;refine LF s4 fun i5 G7 s7=>?_;refine iq.use (hl.ch' s7.ch) hok hlen (Hw (au.own (i:=0) s7 rfl) (mo.own (i:=1) s7 rfl) hes) fun x G9 t9=>?_;obtain⟨F9,o9,c9⟩:=t9.out;have s9:=s7.new o9 c9;refine ae (v:=.int .i64 ((kX mine others fixed:Nat):Int)) ?_ ?_
 ·rw[(bm.own (i:=0) s9 rfl).is.len (i:=lM) oh rfl,List.length_map];rfl
 exact hQ _ s9.ch
end
end Go.Esc.M
namespace Go.Esc.M
open Go Go.Esc
def vM (others:List aL) (fp:Int) (id:Int):Bool:=!decide (jH id (cw others fp)=3)
def vL (mine:List aL) (fo:Int) (id:Int):Bool:=decide (jH id (cw mine fo)=2)
def Bq (b:Int):Int:=if 1152921504606846976<b then 1152921504606846976 else b
def xj (base:Int) (mine others:List aL) (fo fp:Int):Int:=
 if base<0 then 0 else AJ (Bq base-(ml (vM others fp) mine).sum+(ml (vL mine fo) others).sum)
theorem uH {A:List Int}{j:Nat}{a:Int}(h:A[j]?=some a):(A.take (j+1)).sum=(A.take j).sum+a:=by
 rw[List.take_add_one,h,List.sum_append];simp
theorem Ez (t:Int):(if 1152921504606846976<(if nC t<0 then 0 else nC t) then (1152921504606846976:Int) else (if nC t<0 then 0 else nC t))=AJ t:=by
 unfold nC AJ;by_cases h1:t<0
 ·simp[h1]
 ·by_cases h2:t<1152921505680588800
  ·rw[if_neg h1,if_pos h2,if_neg h1,if_neg h1];by_cases h3:t<1152921504606846976
   ·rw[if_pos h3,if_neg (by omega)]
   ·rw[if_neg h3];split<;>omega
  ·have hv:(if t<0 then (-1:Int) else if t<1152921505680588800 then t else 1152921504606846977)=1152921504606846977:=(by rw[if_neg h1,if_neg h2]);rw[hv,if_neg h1,if_neg (show ¬ t<1152921504606846976 by omega),if_neg (show ¬ (1152921504606846977:Int)<0 by decide),if_pos (by decide)]
theorem JN {b:Int}(h:¬ b<0):amt (Bq b):=by
 unfold Bq amt;split<;>constructor<;>omega
theorem Hz {A:List Int}(h:∀ a∈A,amt a):0≤A.sum/\A.sum≤(A.length:Int)*1152921504606846976:=by
 induction A with
 | nil=>simp
 | cons a A ih=>
  obtain⟨h1,h2⟩:=ih fun x hx=>h x (by simp[hx]);obtain⟨h3,h4⟩:=h a (by simp);rw[List.sum_cons,List.length_cons];constructor
  ·omega
  ·push_cast
   omega
section
variable {F0:List AId}{G0 G:ak}{ps:List LP}{Q:ah->ak->Prop}
theorem jW {id:AId}{a b:Int}(hg:G id=some (.own (bE a b))) :
  ag T G ay (.ptr id [0] 0)=some (.int .i64 a)/\ag T G ay (.ptr id [1] 1)=some (.int .i64 b)/\ag T G aU (.ptr id [] 0)=some (bE a b):=
 ⟨dI (c:=.int .i64 a) hg rfl rfl rfl iD rfl,dI (c:=.int .i64 b) hg rfl rfl rfl iD rfl,cj cK hg rfl⟩
theorem MG {a b:Int}{K:AId->ak->Prop}(hs:Sp F0 G0 ps G) (hK:∀ i G',Sp F0 G0 (au i (bE a b)::ps) G'->K i G') :
  br G (.own kb) fun i G2=>wg (aF T G2 bO (.ptr i [] 0) (bE a b)) fun G3=>K i G3:=jL hs dT rfl rfl rfl hK
theorem Jx {v:ah}{A:List Int}{j:Nat}{a:Int}(h:ff 1 G v (A.map (.int .i64))) (hj:A[j]?=some a):∃ p,aO T jf v (.int .i64 (j:Int))=some p/\ag T G aq p=some (.int .i64 a):=
 h.at_ (k:=.i64) (i:=lM) (ie:=iZ) (T:=T) (t:=jf) (e:=aq) oh rfl cu (by rw[List.getElem?_map,hj];rfl) rfl
theorem eR.use {v w:ah}{base fo fp:Int}{mine others:List aL}(hl:hJ 36 G v (mine.map aL.av)) (ho:hJ 36 G w (others.map aL.av)) (hok:∀ u∈mine,u.ok) (hok2:∀ u∈others,u.ok) (hlen:mine.length≤1048576) (hlen2:others.length≤1048576)
  (hQ:∀ G',Ch [] G [] G'->Q (.int .i64 (xj base mine others fo fp)) G'):al P eR.n [.int .i64 base,v,w,bE fo fp] G Q:=by
 refine eR.sound ?_;unfold eR.S;intro i1 f1;have s1:=(Sp.nil G).row f1 (bE fo fp);unfold xj at hQ;rw[aM,aa,aI];refine⟨fun h=>?_,fun h=>?_⟩
 ·rw[if_pos h]at hQ;exact hQ _ s1.ch
 rw[if_neg h]at hQ;obtain⟨c0,c1,c2⟩:=jW (au.own (i:=0) s1 rfl);refine ae c1 ?_;refine ae c0 ?_;refine gI.use (ho.mv s1.ch) hlen2 fun w1 hw1=>?_;refine⟨⟨c0,trivial⟩,?_⟩;have hfl2:=jU others fp;have hfl:=jU mine fo;refine dq.use hw1.gZ (mu hok2) (by omega) fun mid1 es1 G9 hes1 t9=>?_;obtain⟨F9,o9,k9⟩:=t9.out;have s9:=s1.new o9 k9;refine⟨⟨(jW (au.own (i:=1) s9 rfl)).1,trivial⟩,?_⟩;refine gI.use (hl.mv s9.ch) hlen fun w2 hw2=>?_;refine dq.use hw2.gZ (mu hok) (by omega) fun mid2 es2 G13 hes2 t13=>?_;obtain⟨F13,o13,k13⟩:=t13.out;have s13:=s9.new o13 k13;intro i14 f14;have s14:=s13.row f14 k6;intro i16 f16;have s16:=s14.row f16 k6;refine fg (ig (c:=.map mid1) lk (au.own (i:=1) s16 rfl) rfl rfl rfl) ?_;have s18:=Sp.setRow (j:=1) s16 rfl (.map mid1);refine fg (ig (c:=.map mid2) lk (au.own (i:=0) s18 rfl) rfl rfl rfl) ?_;have s19:=Sp.setRow (j:=0) s18 rfl (.map mid2);generalize ak.upd _ _ _=G19 at s19 ⊢;have s19:Sp [] G [au i16 (.map mid2),au i14 (.map mid1),mo mid2 (nh es2),mo mid1 (nh es1),au i1 (bE fo fp)] G19:=s19;refine ae (v:=bE 0 0) rfl ?_;refine ae (v:=.int .i64 (Bq base)) rfl ?_;refine cS.use (n:=0) ⟨by decide,by decide,by decide,by decide⟩ (by decide) (JN h) fun u0 l0 G23 c23 hw0 ht0=>?_;have s23:=s19.tmp c23;have ht0:oD u0 l0=Bq base:=by rw[ht0];unfold oD;omega
 refine MG s23 fun i24 G26 s26=>?_;refine iq.use (hl.gZ.ch' s26.ch) hok hlen (DO (au.own (i:=2) s26 rfl) (mo.own (i:=4) s26 rfl) hes1) fun x G28 t28=>?_;obtain⟨F28,o28,k28⟩:=t28.out;have s28:=s26.new o28 k28;obtain⟨A,hA⟩:∃ A,A=ml (vM others fp) mine:=⟨_,rfl⟩;obtain⟨B,hB⟩:∃ B,B=ml (vL mine fo) others:=⟨_,rfl⟩;have hAl:A.length≤1048576:=by have:=xU (vM others fp) mine;rw[hA];omega
 have hBl:B.length≤1048576:=by have:=xU (vL mine fo) others;rw[hB];omega
 have hAa:∀ a∈A,amt a:=by rw[hA];exact Cu
 have hBa:∀ a∈B,amt a:=by rw[hB];exact Cu
 have s28:Sp [] G [bm 1 x (A.map (.int .i64)),au i24 (bE u0 l0),au i16 (.map mid2),au i14 (.map mid1),mo mid2 (nh es2),mo mid1 (nh es1),au i1 (bE fo fp)] G28:=by rw[hA];exact s28
 rw[<- hA,<- hB]at hQ;have alen:∀ {ps:List LP}{q:Nat}{G':ak}{x:ah}{A:List Int},Sp [] G ps G'->ps[q]?=some (bm 1 x (A.map (.int .i64)))->fU T G' jf x=some (.int .i64 (A.length:Nat)):=fun sp hq=>by
  rw[(bm.own sp hq).is.len (i:=lM) oh rfl,List.length_map]
 refine ae (alen (q:=0) s28 rfl) ?_;intro R hR;have loop:∀ (m j:Nat) (u l:Int) (G':ak),A.length-j=m->j≤A.length->Wd (j+1) u l->oD u l=Bq base-(A.take j).sum->Sp [] G [bm 1 x (A.map (.int .i64)),au i24 (bE u l),au i16 (.map mid2),au i14 (.map mid1),mo mid2 (nh es2),mo mid1 (nh es1),au i1 (bE fo fp)] G' ->
   R [w,.ptr i16 [] 0,.ptr i24 [] 0,x,.int .i64 (A.length:Int),.int .i64 (j:Int)] G':=by
  intro m;induction m with
  | zero=>
   intro j u l G' hm hj hw ht sp;have hjl:j=A.length:=(by omega);subst hjl;rw[List.take_length]at ht;refine hR _ _ _ _ _ _ _ ?_;rw[aM,aa,dF_ (by omega),aK];refine iq.use (ho.gZ.ch' sp.ch) hok2 hlen2 (DN (au.own (i:=2) sp rfl) (mo.own (i:=4) sp rfl) hes2) fun y G47 t47=>?_;obtain⟨F47,o47,k47⟩:=t47.out;have s47:=sp.new o47 k47;have s47:Sp [] G [bm 1 y (B.map (.int .i64)),bm 1 x (A.map (.int .i64)),au i24 (bE u l),au i16 (.map mid2),au i14 (.map mid1),mo mid2 (nh es2),mo mid1 (nh es1),au i1 (bE fo fp)] G47:=(by rw[hB];exact s47);refine ae (alen (q:=0) s47 rfl) ?_;intro R2 hR2;have loop2:∀ (m j:Nat) (u l:Int) (G':ak),B.length-j=m->j≤B.length->Wd (A.length+1+j) u l->oD u l=Bq base-A.sum+(B.take j).sum->Sp [] G [bm 1 y (B.map (.int .i64)),bm 1 x (A.map (.int .i64)),au i24 (bE u l),au i16 (.map mid2),au i14 (.map mid1),mo mid2 (nh es2),mo mid1 (nh es1),au i1 (bE fo fp)] G' ->
     R2 [.ptr i24 [] 0,y,.int .i64 (B.length:Int),.int .i64 (j:Int)] G':=by
    intro m;induction m with
    | zero=>
     intro j u l G' hm hj hw ht sp;have hjl:j=B.length:=(by omega);subst hjl;rw[List.take_length]at ht;refine hR2 _ _ _ _ _ ?_;rw[aM,aa,dF_ (by omega),aK];refine ae (dj (au.own (i:=2) sp rfl) dT rfl).2.2 ?_;refine dy.use hw (by omega) fun G65 c65=>?_;have s65:=sp.tmp c65;rw[ht];obtain⟨t,ht'⟩:∃ t,t=Bq base-A.sum+B.sum:=⟨_,rfl⟩;rw[<- ht']at hQ ⊢;refine ae (v:=.int .i64 (if nC t<0 then 0 else nC t)) rfl ?_;refine ae (v:=.int .i64 (AJ t)) (by rw[<- Ez];rfl) ?_;exact hQ _ s65.ch
    | succ m ih=>
     intro j u l G' hm hj hw ht sp;obtain⟨a,ha⟩:∃ a,B[j]?=some a:=⟨_,List.getElem?_eq_getElem (by omega)⟩;refine hR2 _ _ _ _ _ ?_;rw[aM,aa,dT_ (by omega),aN];obtain⟨p,e1,e2⟩:=Jx (bm.own (i:=0) sp rfl).is ha;refine ae e1 ?_;refine ae e2 ?_;refine ae (dj (au.own (i:=2) sp rfl) dT rfl).2.2 ?_;refine cS.use hw (by omega) (hBa a (List.mem_of_getElem? ha)) fun u' l' G60 c60 hw' ht2=>?_;have s60:=sp.tmp c60;refine k7 (i:=2) s60 rfl fun G61 s61=>?_;rw[bg,i64_in (by omega) (by omega),aa];exact ih (j+1) u' l' G61 (by omega) (by omega) hw' (by rw[ht2,ht,uH ha];omega) s61
   exact loop2 B.length 0 u l G47 rfl (by omega) hw (by rw[ht];simp) s47
  | succ m ih=>
   intro j u l G' hm hj hw ht sp;obtain⟨a,ha⟩:∃ a,A[j]?=some a:=⟨_,List.getElem?_eq_getElem (by omega)⟩;refine hR _ _ _ _ _ _ _ ?_;rw[aM,aa,dT_ (by omega),aN];obtain⟨p,e1,e2⟩:=Jx (bm.own (i:=0) sp rfl).is ha;refine ae e1 ?_;refine ae e2 ?_;refine ae (dj (au.own (i:=1) sp rfl) dT rfl).2.2 ?_;refine ed.use hw (by omega) (hAa a (List.mem_of_getElem? ha)) fun u' l' G60 c60 hw' ht2=>?_;have s60:=sp.tmp c60;refine k7 (i:=1) s60 rfl fun G61 s61=>?_;rw[bg,i64_in (by omega) (by omega),aa];exact ih (j+1) u' l' G61 (by omega) (by omega) hw' (by rw[ht2,ht,uH ha];omega) s61
 exact loop A.length 0 u0 l0 G28 rfl (by omega) hw0 (by rw[ht0];simp) s28
end
end Go.Esc.M
namespace Go.Esc.M
open Go Go.Esc
section
variable {F0:List AId}{G0 G:ak}{ps:List LP}{Q:ah->ak->Prop}
end
end Go.Esc.M
namespace Go.Esc.M
open Go Go.Esc
def gy (a b:List ba):Prop:=∀ k:Int,a.filter (fun p=>decide (p.id=k))=b.filter (fun p=>decide (p.id=k))
def fT (l:List ba):Prop:=l.Pairwise fun p q=>p.id≤q.id
theorem gy.refl (a:List ba):gy a a:=fun _=>rfl
theorem gy.symm {a b:List ba}(h:gy a b):gy b a:=fun k=>(h k).symm
theorem gy.trans {a b c:List ba}(h:gy a b) (h':gy b c):gy a c:=fun k=>(h k).trans (h' k)
theorem gy.mem {a b:List ba}(h:gy a b) {p:ba}:p∈a ↔ p∈b:=by
 have e:=h p.id;constructor
 ·intro hp;have:p∈a.filter (fun q=>decide (q.id=p.id)):=List.mem_filter.2 ⟨hp,by simp⟩;rw[e]at this;exact (List.mem_filter.1 this).1
 ·intro hp;have:p∈b.filter (fun q=>decide (q.id=p.id)):=List.mem_filter.2 ⟨hp,by simp⟩;rw[<- e]at this;exact (List.mem_filter.1 this).1
theorem gy.append {a b c d:List ba}(h:gy a b) (h':gy c d):gy (a++c) (b++d):=fun k=>by rw[List.filter_append,List.filter_append,h k,h' k]
theorem gy.swap {a b:List ba}(h:∀ p∈a,∀ q∈b,p.id≠q.id):gy (a++b) (b++a):=by
 intro k;rw[List.filter_append,List.filter_append];by_cases ha:a.filter (fun p=>decide (p.id=k))=[]
 ·rw[ha,List.nil_append,List.append_nil]
 ·have hb:b.filter (fun p=>decide (p.id=k))=[]:=by
   rw[List.filter_eq_nil_iff];intro q hq hk;obtain⟨p,hp⟩:=List.exists_mem_of_ne_nil _ ha;obtain⟨h1,h2⟩:=List.mem_filter.1 hp;have h2:=of_decide_eq_true h2;have hk:=of_decide_eq_true hk;exact h p h1 q hq (by rw[h2,hk])
  rw[hb,List.nil_append,List.append_nil]
theorem gy.cons {a b:List ba}(p:ba) (h:gy a b):gy (p::a) (p::b):=gy.append (a:=[p]) (b:=[p]) (gy.refl _) h
theorem gy.length {a b:List ba}(h:gy a b):a.length=b.length:=by
 have key:∀ (n:Nat) (a b:List ba),a.length=n->gy a b->a.length=b.length:=by
  intro n;induction n with
  | zero=>
   intro a b ha h;have:a=[]:=List.length_eq_zero_iff.1 ha;subst this;cases b with
   | nil=>rfl
   | cons p b=>exact absurd (h.mem.2 (List.mem_cons_self)) (by simp)
  | succ n ih=>
   intro a b ha h
   match a,ha with
   | p::a,ha=>
    have hp:p∈b:=h.mem.1 (by simp);have hf:=h p.id;rw[List.filter_cons,if_pos (by simp)]at hf;obtain⟨u,v,hb,hu⟩:∃ u v,b=u++p::v/\∀ q∈u,q.id≠p.id:=by
     have:∀ b:List ba,(∃ r,b.filter (fun q=>decide (q.id=p.id))=p::r)->∃ u v,b=u++p::v/\∀ q∈u,q.id≠p.id:=by
      intro b;induction b with
      | nil=>rintro⟨r,hr⟩;cases hr
      | cons x b ihb=>
       rintro⟨r,hr⟩;rw[List.filter_cons]at hr;by_cases hx:x.id=p.id
       ·rw[if_pos (by simp[hx])]at hr;injection hr with h1 h2;subst h1;exact⟨[],b,rfl,by simp⟩
       ·rw[if_neg (by simp[hx])]at hr;obtain⟨u,v,h1,h2⟩:=ihb ⟨r,hr⟩;refine⟨x::u,v,by rw[h1];rfl,fun q hq=>?_⟩;rcases List.mem_cons.1 hq with rfl|hq
        ·exact hx
        ·exact h2 q hq
     exact this b ⟨_,hf.symm⟩
    have h1:gy (u++p::v) (p::(u++v)):=by
     have:=gy.append (gy.swap (a:=u) (b:=[p]) (fun q hq r hr=>by rw[List.mem_singleton.1 hr];exact hu q hq)) (gy.refl v);simpa using this
    rw[hb]at h;have h2:gy (p::a) (p::(u++v)):=h.trans h1;have h3:gy a (u++v):=fun k=>by
     have e:=h2 k;rw[List.filter_cons,List.filter_cons]at e;by_cases hk:p.id=k
     ·rw[if_pos (by simp[hk]),if_pos (by simp[hk])]at e;injection e
     ·rw[if_neg (by simp[hk]),if_neg (by simp[hk])]at e;exact e
    have:=ih a (u++v) (by simpa using ha) h3;rw[hb];simp only[List.length_cons,List.length_append]at this ⊢;omega
 exact key _ a b rfl h
theorem zL:∀ {a b:List ba},fT a->fT b->gy a b->a=b
 | [],b,_,_,h=>by
  have:=h.length;exact (List.length_eq_zero_iff.1 this.symm).symm
 | p::a,[],_,_,h=>by
  have:=h.length;simp at this
 | p::a,q::b,ha,hb,h=>by
  have ha':=List.pairwise_cons.1 ha;have hb':=List.pairwise_cons.1 hb;have hpq:p.id=q.id:=by
   have h1:p∈q::b:=h.mem.1 (by simp);have h2:q∈p::a:=h.mem.2 (by simp);have e1:q.id≤p.id:=by
    rcases List.mem_cons.1 h1 with rfl|h1
    ·exact Int.le_refl _
    ·exact hb'.1 p h1
   have e2:p.id≤q.id:=by
    rcases List.mem_cons.1 h2 with rfl|h2
    ·exact Int.le_refl _
    ·exact ha'.1 q h2
   omega
  have hf:=h p.id;rw[List.filter_cons,List.filter_cons,if_pos (by simp),if_pos (by simp[hpq])]at hf;injection hf with h1 _;subst h1;have h3:gy a b:=fun k=>by
   have e:=h k;rw[List.filter_cons,List.filter_cons]at e;by_cases hk:p.id=k
   ·rw[if_pos (by simp[hk]),if_pos (by simp[hk])]at e;injection e
   ·rw[if_neg (by simp[hk]),if_neg (by simp[hk])]at e;exact e
  rw[zL ha'.2 hb'.2 h3]
def iG:List ba->ba->List ba
 | [],p=>[p]
 | q::l,p=>if p.id<q.id then p::q::l else q::iG l p
def kS (l:List ba):List ba:=l.foldl iG []
theorem BM (p:ba):∀ {l:List ba},fT l->gy (iG l p) (l++[p])/\fT (iG l p)
 | [],_=>⟨gy.refl _,by simp[iG,fT]⟩
 | q::l,h=>by
  have h':=List.pairwise_cons.1 h;have ih:=BM p h'.2;unfold iG;by_cases hlt:p.id<q.id
  ·rw[if_pos hlt];refine⟨?_,List.pairwise_cons.2 ⟨fun x hx=>?_,h⟩⟩
   ·have:=gy.swap (a:=[p]) (b:=q::l) (fun x hx y hy=>by
     rw[List.mem_singleton.1 hx]
     rcases List.mem_cons.1 hy with rfl|hy
     ·omega
     ·have:=h'.1 y hy;omega)
    exact this
   ·rcases List.mem_cons.1 hx with rfl|hx
    ·omega
    ·have:=h'.1 x hx;omega
  ·rw[if_neg hlt];refine⟨gy.cons q ih.1,List.pairwise_cons.2 ⟨fun x hx=>?_,ih.2⟩⟩;have:=ih.1.mem.1 hx;rcases List.mem_append.1 this with hx|hx
   ·exact h'.1 x hx
   ·rw[List.mem_singleton.1 hx];omega
theorem vP (l:List ba):gy (kS l) l/\fT (kS l):=by
 have:∀ (l acc:List ba),fT acc->gy (l.foldl iG acc) (acc++l)/\fT (l.foldl iG acc):=by
  intro l;induction l with
  | nil=>intro acc h;exact⟨by simpa using gy.refl acc,h⟩
  | cons p l ih=>
   intro acc h;obtain⟨h1,h2⟩:=BM p h;obtain⟨h3,h4⟩:=ih (iG acc p) h2;refine⟨?_,h4⟩;have:=h3.trans (gy.append h1 (gy.refl l));simpa using this
 have:=this l [] (by simp[fT]);rw[List.nil_append]at this;exact this
theorem Km {l s:List ba}(h1:gy s l) (h2:fT s):s=kS l:=zL h2 (vP l).2 (h1.trans (vP l).1.symm)
end Go.Esc.M
namespace Go.Esc.M
open Go Go.Esc
def H7 (a b:Int):Int:=if a<b then -1 else if b<a then 1 else 0
theorem wB {a b:Int}:decide (H7 a b<0)=decide (a<b):=by
 unfold H7;by_cases h:a<b
 ·rw[if_pos h,dT_ h];rfl
 ·rw[if_neg h,dF_ h];split<;>rfl
theorem Kj (A B:List ba) (u p:ba):((A++u::p::B).set (A.length+1) u).set A.length p=A++p::u::B:=by
 rw[List.set_append_right _ _ (by omega),Nat.add_sub_cancel_left,List.set_append_right _ _ (by omega),Nat.sub_self];rfl
theorem get_at (A B:List ba) (u:ba):(A++u::B)[A.length]?=some u:=by
 rw[List.getElem?_append_right (by omega),Nat.sub_self];rfl
section
variable {F0:List AId}{G0 G:ak}{ps:List LP}{Q:ah->ak->Prop}
theorem fR.use {a:Int}(hQ:Q (.bool false) G):al P fR.n [.int .i64 a] G Q:=by
 refine fR.sound ?_;unfold fR.S;rw[nz0,aa];exact hQ
theorem fH.use {a b:Int}(hQ:Q (.int .i64 (H7 a b)) G):al P fH.n [.int .i64 a,.int .i64 b] G Q:=by
 refine fH.sound ?_;unfold fH.S;refine fR.use ?_;refine fR.use ?_;rw[aK,aK];unfold H7 at hQ;rw[aM,aa,aI];refine⟨fun h=>by rwa [if_pos h]at hQ,fun h=>?_⟩;rw[if_neg h]at hQ;rw[da,aa,aI];refine⟨fun h2=>by rwa [if_pos (by omega)]at hQ,fun h2=>by rwa [if_neg (by omega)]at hQ⟩
theorem hI.use {p q:ba}(hp:p.ok) (hq:q.ok) (hQ:∀ G',Ch [] G [] G'->Q (.int .i64 (H7 p.id q.id)) G'):al P hI.n [p.av,q.av] G Q:=by
 refine hI.sound ?_;unfold hI.S;intro i1 f1;have s1:=(Sp.nil G).row f1 p.av;intro i3 f3;have s3:=s1.row f3 q.av;have hQ:=hQ _ s3.ch;refine ae (ba.fld hp (au.own (i:=1) s3 rfl)).2.1 ?_;refine ae (ba.fld hq (au.own (i:=0) s3 rfl)).2.1 ?_;exact fH.use hQ
def uF:ah:=.func (.func hI.n) [] []
theorem wA {p q:ba}{K:ah->ak->Prop}(hp:p.ok) (hq:q.ok) (hK:∀ G',Ch [] G [] G'->K (.int .i64 (H7 p.id q.id)) G'):oS P uF [p.av,q.av] G K:=hI.use hp hq hK
theorem mO {v:ah}{l:List ba}{j:Nat}{p:ba}{x:Int}(h:ff 35 G v (l.map ba.av)) (hx:x=(j:Int)) (hj:l[j]?=some p):∃ a,aO T aw v (.int .i64 x)=some a/\ag T G aT a=some p.av:=by
 subst hx;exact h.at_ (k:=.i64) (i:=b8) (ie:=dS) (T:=T) (t:=aw) (e:=aT) cy rfl eP (by rw[List.getElem?_map,hj];rfl) rfl
theorem tY {i j:Nat}{v:ah}{l:List ba}{p:ba}{x:Int}(hx:x=(j:Int)) (hs:Sp F0 G0 ps G) (hi:ps[i]?=some (bm 35 v (l.map ba.av))) (hj:j<l.length) (hp:p.ok) :
  ∃ a,aO T aw v (.int .i64 x)=some a/\∀ K:ak->Prop,(∀ G',Sp F0 G0 (ps.set i (bm 35 v ((l.set j p).map ba.av))) G'->K G')->wg (aF T G aT a p.av) K:=by
 subst hx;exact Kr hs hi hj hp
theorem D8 {v:ah}{A B:List ba}{u p:ba}{y z:Int}{K:ak->Prop}(hu:u.ok) (hp:p.ok) (hy:y=(A.length:Int)) (hz:z=((A.length+1:Nat):Int)) (hs:Sp F0 G0 (bm 35 v ((A++u::p::B).map ba.av)::ps) G)
  (hK:∀ G',Sp F0 G0 (bm 35 v ((A++p::u::B).map ba.av)::ps) G'->K G') :
  wv (aO T aw v (.int .i64 y)) fun v31=>wv (ag T G aT v31) fun v32=>wv (aO T aw v (.int .i64 z)) fun v33=>wv (ag T G aT v33) fun v34=>wv (aO T aw v (.int .i64 z)) fun v35=>wg (aF T G aT v35 v32) fun G36=>wv (aO T aw v (.int .i64 y)) fun v37=>wg (aF T G36 aT v37 v34) K:=by
 have hsl:=(bm.own (i:=0) hs rfl).is;have g1:(A++u::p::B)[A.length]?=some u:=get_at A (p::B) u;have g2:(A++u::p::B)[A.length+1]?=some p:=by
  rw[List.getElem?_append_right (by omega),Nat.add_sub_cancel_left];rfl
 obtain⟨a,e1,e2⟩:=mO hsl hy g1;refine ae e1 ?_;refine ae e2 ?_;obtain⟨b,e3,e4⟩:=mO hsl hz g2;refine ae e3 ?_;refine ae e4 ?_;obtain⟨c,e5,e6⟩:=tY (i:=0) (p:=u) hz hs rfl (by simp) hu;refine ae e5 ?_;refine e6 _ fun G36 s36=>?_;have s36:Sp F0 G0 (bm 35 v (((A++u::p::B).set (A.length+1) u).map ba.av)::ps) G36:=s36;obtain⟨d,e7,e8⟩:=tY (i:=0) (p:=p) hy s36 rfl (by simp) hp;refine ae e7 ?_;refine e8 _ fun G38 s38=>?_;have s38:Sp F0 G0 (bm 35 v ((((A++u::p::B).set (A.length+1) u).set A.length p).map ba.av)::ps) G38:=s38;rw[Kj]at s38;exact hK _ s38
theorem B5.use {v:ah}{X S Y:List ba}{a b:Int}(hok:∀ p∈X++S++Y,p.ok) (hlen:(X++S++Y).length≤1048576) (ha:a=(X.length:Int)) (hb:b=((X.length+S.length:Nat):Int)) (hs:Sp F0 G0 (bm 35 v ((X++S++Y).map ba.av)::ps) G)
  (hQ:∀ S' G',gy S' S->fT S'->Sp F0 G0 (bm 35 v ((X++S'++Y).map ba.av)::ps) G'->Q (.tuple []) G') :
  al P bh.n [v,.int .i64 a,.int .i64 b,uF] G Q:=by
 refine bh.sound ?_;unfold bh.S;subst ha hb;simp only[List.length_append]at hlen;rw[bg,i64_in (by omega) (by omega),aa];intro R hR;have loop:∀ (m j:Nat) (S0 T0:List ba) (G':ak),S.length-j=m->(j≤S.length\/j=1)->S0.length=min j S.length->gy (S0++T0) S->fT S0->Sp F0 G0 (bm 35 v ((X++(S0++T0)++Y).map ba.av)::ps) G' ->
   R [v,.int .i64 (X.length:Int),.int .i64 ((X.length+S.length:Nat):Int),uF,.int .i64 ((X.length+j:Nat):Int)] G':=by
  intro m;induction m with
  | zero=>
   intro j S0 T0 G' hm hj hl0 hst hso sp;refine hR _ _ _ _ _ _ ?_;rw[aM,aa,dF_ (by omega),aK];have hlen2:=hst.length;rw[List.length_append]at hlen2;have:T0=[]:=List.length_eq_zero_iff.1 (by omega);subst this;rw[List.append_nil]at hst sp;exact hQ _ _ hst hso sp
  | succ m ih=>
   intro j S0 T0 G' hm hj hl0 hst hso sp;have hlen2:=hst.length;rw[List.length_append]at hlen2;refine hR _ _ _ _ _ _ ?_;rw[aM,aa,dT_ (by omega),aN];cases T0 with
   | nil=>
    exfalso;rw[List.length_nil]at hlen2;omega
   | cons p T1=>
    have hmem:∀ q,q∈S0++p::T1->q.ok:=fun q hq=>hok q (by
     have:=hst.mem.1 hq
     simp[this])
    have hpo:=hmem p (by simp);intro R2 hR2;have inner:∀ (n:Nat) (U V:List ba) (G':ak),U.length=n->U++V=S0->(∀ q∈V,p.id<q.id)->Sp F0 G0 (bm 35 v ((X++(U++p::V++T1)++Y).map ba.av)::ps) G' ->
      R2 [v,.int .i64 (X.length:Int),.int .i64 ((X.length+S.length:Nat):Int),uF,.int .i64 ((X.length+j:Nat):Int),.int .i64 ((X.length+U.length:Nat):Int)] G':=by
     intro n;induction n with
     | zero=>
      intro U V G' hU hUV hV sp;have:U=[]:=List.length_eq_zero_iff.1 hU;subst this;refine hR2 _ _ _ _ _ _ _ ?_;intro J40;rw[da,aa,dF_ (by simp),aK];simp -zeta only [J40,aK];rw[bg,i64_in (by omega) (by omega),aa];have hVS:V=S0:=(by simpa using hUV);refine ih (j+1) (p::V) T1 G' (by omega) (by omega) ?_ ?_ ?_ ?_
      ·rw[List.length_cons,hVS,hl0];simp at hlen2;omega
      ·refine gy.trans ?_ hst;have:=gy.append (gy.swap (a:=[p]) (b:=V) (fun x hx y hy=>by rw[List.mem_singleton.1 hx];have:=hV y hy;omega)) (gy.refl T1);rw[hVS]at this ⊢;simpa using this
      ·exact List.pairwise_cons.2 ⟨fun q hq=>by have:=hV q hq;omega,by rw[hVS];exact hso⟩
      ·simpa using sp
     | succ n ihn=>
      intro U V G' hU hUV hV sp;obtain⟨W,u,rfl⟩:∃ W u,U=W++[u]:=⟨U.dropLast,U.getLast (by intro h;rw[h]at hU;simp at hU),(List.dropLast_concat_getLast _).symm⟩;have huo:u.ok:=hmem u (by rw[<- hUV];simp);have hWl:W.length=n:=(by simpa using hU);have hUl:(W++[u]).length=W.length+1:=(by simp);have e0:X++(W++[u]++p::V++T1)++Y=(X++W)++u::p::(V++T1++Y):=(by simp);rw[e0]at sp;have hsl:=(bm.own (i:=0) sp rfl).is;have g1:((X++W)++u::p::(V++T1++Y))[X.length+W.length]?=some u:=by
       have:=get_at (X++W) (p::(V++T1++Y)) u
       rwa [List.length_append]at this
      have g2:((X++W)++u::p::(V++T1++Y))[X.length+W.length+1]?=some p:=by
       rw[List.getElem?_append_right (by rw[List.length_append];omega),List.length_append,Nat.add_sub_cancel_left];rfl
      rw[hUl];have hjw:W.length+1≤S.length:=by
       have:=congrArg List.length hUV;simp at this;omega
      refine hR2 _ _ _ _ _ _ _ ?_;intro J40;rw[da,aa,dT_ (by omega),aN];obtain⟨c1,e1,e2⟩:=mO (x:=((X.length+(W.length+1):Nat):Int)) hsl (by omega) g2;refine ae e1 ?_;refine ae e2 ?_;rw[b7,i64_in (by omega) (by omega),aa];obtain⟨c2,e3,e4⟩:=mO (x:=((X.length+(W.length+1):Nat):Int)-1) hsl (by omega) g1;refine ae e3 ?_;refine ae e4 ?_;refine wA hpo huo fun G25 c25=>?_;have s25:=sp.tmp c25;rw[aM,aa,wB];by_cases hlt:p.id<u.id
      ·rw[dT_ hlt];simp -zeta only [J40,aN];rw[b7,i64_in (by omega) (by omega),aa,aa];refine D8 (A:=X++W) (B:=V++T1++Y) huo hpo (by rw[List.length_append];omega) (by rw[List.length_append];omega) s25 fun G38 s38=>?_;rw[aa];have e5:(X++W)++p::u::(V++T1++Y)=X++(W++p::(u::V)++T1)++Y:=(by simp);rw[e5]at s38;have:=ihn W (u::V) G38 hWl (by rw[<- hUV];simp) (fun q hq=>by
        rcases List.mem_cons.1 hq with rfl|hq
        ·exact hlt
        ·exact hV q hq) s38
       have e6:((X.length+(W.length+1):Nat):Int)-1=((X.length+W.length:Nat):Int):=(by omega);rw[e6];exact this
      ·rw[dF_ hlt];simp -zeta only [J40,aK];rw[bg,i64_in (by omega) (by omega),aa];have e5:(X++W)++u::p::(V++T1++Y)=X++((W++[u]++p::V)++T1)++Y:=(by simp);rw[e5]at s25;have hs0:fT (W++[u]++V):=(by rw[hUV];exact hso);have hWu:∀ q∈W++[u],q.id≤u.id:=by
        intro q hq;rcases List.mem_append.1 hq with hq|hq
        ·unfold fT at hs0;rw[List.append_assoc,List.pairwise_append]at hs0;exact hs0.2.2 q hq u (by simp)
        ·rw[List.mem_singleton.1 hq];exact Int.le_refl _
       refine ih (j+1) (W++[u]++p::V) T1 G25 (by omega) (by omega) ?_ ?_ ?_ s25
       ·have:=congrArg List.length hUV;simp at this hlen2 ⊢;omega
       ·refine gy.trans ?_ hst;have:=gy.append (gy.refl (W++[u])) (gy.append (gy.swap (a:=[p]) (b:=V) (fun x hx y hy=>by rw[List.mem_singleton.1 hx];have:=hV y hy;omega)) (gy.refl T1));rw[<- hUV];simpa using this
       ·unfold fT at hs0 ⊢;rw[List.pairwise_append]at hs0 ⊢;refine⟨hs0.1,List.pairwise_cons.2 ⟨fun q hq=>by have:=hV q hq;omega,hs0.2.1⟩,fun x hx y hy=>?_⟩;rcases List.mem_cons.1 hy with rfl|hy
        ·have:=hWu x hx;omega
        ·exact hs0.2.2 x hx y hy
    have:=inner S0.length S0 [] G' rfl (by simp) (by simp) (by simpa using sp);have ej:((X.length+j:Nat):Int)=((X.length+S0.length:Nat):Int):=(by rw[hl0];simp at hlen2;omega);rw[ej]at this ⊢;exact this
 have e1:((X.length:Int)+1)=((X.length+1:Nat):Int):=by omega
 rw[e1];cases S with
 | nil=>exact loop 0 1 [] [] G rfl (by simp) (by simp) (gy.refl _) (by simp[fT]) hs
 | cons p S=>exact loop S.length 1 [p] S G (by simp) (by simp) (by simp) (gy.refl _) (by simp[fT]) (by simpa using hs)
end
end Go.Esc.M
namespace Go.Esc.M
open Go Go.Esc
theorem IJ (A B C:List ba) (u v:ba):((A++u::(B++v::C)).set A.length v).set (A.length+(B.length+1)) u=A++v::(B++u::C):=by
 rw[List.set_append_right _ _ (by omega),Nat.sub_self,List.set_cons_zero,List.set_append_right _ _ (by omega),Nat.add_sub_cancel_left,List.set_cons_succ,List.set_append_right _ _ (by omega),Nat.sub_self,List.set_cons_zero]
section
variable {F0:List AId}{G0 G:ak}{ps:List LP}{Q:ah->ak->Prop}
theorem xf.use {v:ah}{X U M V Y:List ba}{a b n:Int}{f:ah}(hok:∀ p∈X++(U++(M++(V++Y))),p.ok) (hlen:(X++(U++(M++(V++Y)))).length≤1048576) (hUV:U.length=V.length) (ha:a=(X.length:Int)) (hb:b=((X.length+(U.length+M.length):Nat):Int)) (hn:n=(U.length:Int))
  (hs:Sp F0 G0 (bm 35 v ((X++(U++(M++(V++Y)))).map ba.av)::ps) G)
  (hQ:∀ G',Sp F0 G0 (bm 35 v ((X++(V++(M++(U++Y)))).map ba.av)::ps) G'->Q (.tuple []) G') :
  al P bA.n [v,.int .i64 a,.int .i64 b,.int .i64 n,f] G Q:=by
 refine bA.sound ?_;unfold bA.S;subst ha hb hn;simp only[List.length_append]at hlen;intro R hR;have loop:∀ (U2 V2 U1 V1:List ba) (G':ak),U=U1++U2->V=V1++V2->U2.length=V2.length->Sp F0 G0 (bm 35 v ((X++((V1++U2)++(M++((U1++V2)++Y)))).map ba.av)::ps) G' ->
   R [v,.int .i64 (X.length:Int),.int .i64 ((X.length+(U.length+M.length):Nat):Int),.int .i64 (U.length:Int),.int .i64 (U1.length:Int)] G':=by
  intro U2;induction U2 with
  | nil=>
   intro V2 U1 V1 G' hU hV hl sp;have hV2:V2=[]:=List.length_eq_zero_iff.1 (by simpa using hl.symm);subst hV2;rw[List.append_nil]at hU hV;subst hU hV;refine hR _ _ _ _ _ _ ?_;rw[aM,aa,dF_ (by omega),aK];refine hQ _ ?_;simpa using sp
  | cons u U2 ih=>
   intro V2 U1 V1 G' hU hV hl sp;cases V2 with
   | nil=>simp at hl
   | cons w V2=>
    have hUl:=congrArg List.length hU;have hVl:=congrArg List.length hV;simp only[List.length_append,List.length_cons]at hUl hVl hl;have huo:u.ok:=hok u (by rw[hU];simp);have hwo:w.ok:=hok w (by rw[hV];simp);refine hR _ _ _ _ _ _ ?_;rw[aM,aa,dT_ (by omega),aN];rw[bg,i64_in (by omega) (by omega),aa];rw[bg,i64_in (by omega) (by omega),aa,aa];have e0:X++((V1++u::U2)++(M++((U1++w::V2)++Y)))=(X++V1)++u::((U2++M++U1)++w::(V2++Y)):=(by simp);rw[e0]at sp;have hA:(X++V1).length=X.length+U1.length:=(by rw[List.length_append];omega);have hB:(U2++M++U1).length=U2.length+M.length+U1.length:=(by simp;omega);have hsl:=(bm.own (i:=0) sp rfl).is;have g1:=get_at (X++V1) ((U2++M++U1)++w::(V2++Y)) u;have g2:((X++V1)++u::((U2++M++U1)++w::(V2++Y)))[(X++V1).length+((U2++M++U1).length+1)]?=some w:=by
     rw[List.getElem?_append_right (by omega),Nat.add_sub_cancel_left,List.getElem?_cons_succ];exact get_at (U2++M++U1) (V2++Y) w
    obtain⟨p1,e1,e2⟩:=mO (x:=((X.length+(U.length+M.length):Nat):Int)+(U1.length:Int)) hsl (by rw[hA,hB];omega) g2;refine ae e1 ?_;refine ae e2 ?_;rw[aa];obtain⟨p2,e3,e4⟩:=mO (x:=(X.length:Int)+(U1.length:Int)) hsl (by rw[hA];omega) g1;refine ae e3 ?_;refine ae e4 ?_;obtain⟨p3,e5,e6⟩:=tY (i:=0) (p:=w) (j:=(X++V1).length) (x:=(X.length:Int)+(U1.length:Int)) (by rw[hA];omega) sp rfl (by simp) hwo;refine ae e5 ?_;refine e6 _ fun G18 s18=>?_;have s18:Sp F0 G0 (bm 35 v ((((X++V1)++u::((U2++M++U1)++w::(V2++Y))).set (X++V1).length w).map ba.av)::ps) G18:=s18;obtain⟨p4,e7,e8⟩:=tY (i:=0) (p:=u) (j:=(X++V1).length+((U2++M++U1).length+1)) (x:=((X.length+(U.length+M.length):Nat):Int)+(U1.length:Int)) (by rw[hA,hB];omega) s18 rfl (by simp;omega) huo;refine ae e7 ?_;refine e8 _ fun G20 s20=>?_;have s20:Sp F0 G0 (bm 35 v (((((X++V1)++u::((U2++M++U1)++w::(V2++Y))).set (X++V1).length w).set ((X++V1).length+((U2++M++U1).length+1)) u).map ba.av)::ps) G20:=s20;rw[IJ]at s20;rw[bg,i64_in (by omega) (by omega),aa];have e9:(X++V1)++w::((U2++M++U1)++u::(V2++Y))=X++(((V1++[w])++U2)++(M++(((U1++[u])++V2)++Y))):=(by simp);rw[e9]at s20;have:=ih V2 (U1++[u]) (V1++[w]) G20 (by rw[hU];simp) (by rw[hV];simp) (by omega) s20;have e10:((U1++[u]).length:Int)=(U1.length:Int)+1:=(by simp);rw[e10]at this;exact this
 exact loop U V [] [] G rfl rfl hUV (by simpa using hs)
theorem rotate.use {v:ah}{X U V Y:List ba}{a m b:Int}{f:ah}(hok:∀ p∈X++(U++(V++Y)),p.ok) (hlen:(X++(U++(V++Y))).length≤1048576) (hU:U≠[]) (hV:V≠[]) (ha:a=(X.length:Int)) (hm:m=((X.length+U.length:Nat):Int)) (hb:b=((X.length+U.length+V.length:Nat):Int))
  (hs:Sp F0 G0 (bm 35 v ((X++(U++(V++Y))).map ba.av)::ps) G)
  (hQ:∀ G',Sp F0 G0 (bm 35 v ((X++(V++(U++Y))).map ba.av)::ps) G'->Q (.tuple []) G') :
  al P bK.n [v,.int .i64 a,.int .i64 m,.int .i64 b,f] G Q:=by
 refine bK.sound ?_;unfold bK.S;subst ha hm hb;simp only[List.length_append]at hlen;have hU1:0<U.length:=List.length_pos_iff.2 hU;have hV1:0<V.length:=List.length_pos_iff.2 hV;rw[b7,i64_in (by omega) (by omega),aa];rw[b7,i64_in (by omega) (by omega),aa];intro R hR;have loop:∀ (n:Nat) (A Pp Rr B:List ba) (G':ak),Pp.length+Rr.length≤n->0<Pp.length->0<Rr.length->A.length+Pp.length=U.length->A++(Rr++(Pp++B))=V++U->(∀ p∈A++(Pp++(Rr++B)),p.ok) ->
   Sp F0 G0 (bm 35 v ((X++(A++(Pp++(Rr++(B++Y))))).map ba.av)::ps) G'->R [v,.int .i64 ((X.length+U.length:Nat):Int),f,.int .i64 (Pp.length:Int),.int .i64 (Rr.length:Int)] G':=by
  intro n;induction n with
  | zero=>intro A Pp Rr B G' hn h1 h2;omega
  | succ n ih=>
   intro A Pp Rr B G' hn h1 h2 hA ht ho sp;have htl:=congrArg List.length ht;simp only[List.length_append]at htl;have hYo:∀ p∈Y,p.ok:=fun p hp=>hok p (by simp[hp]);have hXo:∀ p∈X,p.ok:=fun p hp=>hok p (by simp[hp]);refine hR _ _ _ _ _ _ ?_;rw[cD,aa];by_cases he:(Pp.length:Int)=(Rr.length:Int)
   ·rw[dT_ he,Bool.not_true,aK];rw[b7,i64_in (by omega) (by omega),aa];have e0:X++(A++(Pp++(Rr++(B++Y))))=(X++A)++(Pp++([]++(Rr++(B++Y)))):=(by simp);rw[e0]at sp;refine xf.use (X:=X++A) (U:=Pp) (M:=[]) (V:=Rr) (Y:=B++Y) ?_ ?_ (by omega) ?_ ?_ rfl sp fun G30 s30=>?_
    ·intro p hp;simp only[List.mem_append]at hp ho hXo hYo;rcases hp with (h|h)|h|h|h|h|h
     ·exact hXo p h
     ·exact ho p (.inl h)
     ·exact ho p (.inr (.inl h))
     ·cases h
     ·exact ho p (.inr (.inr (.inl h)))
     ·exact ho p (.inr (.inr (.inr h)))
     ·exact hYo p h
    ·simp only[List.length_append,List.length_nil];omega
    ·rw[List.length_append];omega
    ·simp only[List.length_append,List.length_nil];omega
    ·refine hQ _ ?_;have e1:(X++A)++(Rr++([]++(Pp++(B++Y))))=X++((A++(Rr++(Pp++B)))++Y):=(by simp);rw[e1,ht]at s30;simpa using s30
   ·rw[dF_ he,Bool.not_false,aN];rw[da,aa,aI];refine⟨fun hgt=>?_,fun hle=>?_⟩
    ·rw[b7,i64_in (by omega) (by omega),aa];have hsp:Pp=Pp.take Rr.length++Pp.drop Rr.length:=(List.take_append_drop _ _).symm;obtain⟨P1,hP1⟩:∃ x,x=Pp.take Rr.length:=⟨_,rfl⟩;obtain⟨P2,hP2⟩:∃ x,x=Pp.drop Rr.length:=⟨_,rfl⟩;rw[<- hP1,<- hP2]at hsp;have hl1:P1.length=Rr.length:=(by rw[hP1,List.length_take];omega);have hl2:P2.length=Pp.length-Rr.length:=(by rw[hP2,List.length_drop]);have hl3:Pp.length=P1.length+P2.length:=(by omega);have e0:X++(A++(Pp++(Rr++(B++Y))))=(X++A)++(P1++(P2++(Rr++(B++Y)))):=(by rw[hsp];simp);rw[e0]at sp;rw[hsp]at ho ht;refine xf.use (X:=X++A) (U:=P1) (M:=P2) (V:=Rr) (Y:=B++Y) ?_ ?_ hl1 ?_ ?_ (by omega) sp fun G14 s14=>?_
     ·intro p hp;simp only[List.mem_append]at hp ho hXo hYo;rcases hp with (h|h)|h|h|h|h|h
      ·exact hXo p h
      ·exact ho p (.inl h)
      ·exact ho p (.inr (.inl (.inl h)))
      ·exact ho p (.inr (.inl (.inr h)))
      ·exact ho p (.inr (.inr (.inl h)))
      ·exact ho p (.inr (.inr (.inr h)))
      ·exact hYo p h
     ·simp only[List.length_append];omega
     ·rw[List.length_append];omega
     ·simp only[List.length_append];omega
     ·rw[b7,i64_in (by omega) (by omega),aa];have e1:(X++A)++(Rr++(P2++(P1++(B++Y))))=X++((A++Rr)++(P2++(P1++(B++Y)))):=(by simp);rw[e1]at s14;have:=ih (A++Rr) P2 P1 B G14 (by omega) (by omega) (by omega) (by rw[List.length_append];omega) (by rw[<- ht];simp) (by
       intro p hp
       simp only[List.mem_append]at hp ho
       rcases hp with (h|h)|h|h|h
       ·exact ho p (.inl h)
       ·exact ho p (.inr (.inr (.inl h)))
       ·exact ho p (.inr (.inl (.inr h)))
       ·exact ho p (.inr (.inl (.inl h)))
       ·exact ho p (.inr (.inr (.inr h)))) s14
      have e2:(Pp.length:Int)-(Rr.length:Int)=(P2.length:Int):=(by omega);rw[e2,<- hl1];exact this
    ·rw[b7,i64_in (by omega) (by omega),aa];rw[bg,i64_in (by omega) (by omega),aa];rw[b7,i64_in (by omega) (by omega),aa];have hsp:Rr=Rr.take (Rr.length-Pp.length)++Rr.drop (Rr.length-Pp.length):=(List.take_append_drop _ _).symm;obtain⟨R1,hR1⟩:∃ x,x=Rr.take (Rr.length-Pp.length):=⟨_,rfl⟩;obtain⟨R2,hR2⟩:∃ x,x=Rr.drop (Rr.length-Pp.length):=⟨_,rfl⟩;rw[<- hR1,<- hR2]at hsp;have hl1:R1.length=Rr.length-Pp.length:=(by rw[hR1,List.length_take];omega);have hl2:R2.length=Pp.length:=(by rw[hR2,List.length_drop];omega);have hl3:Rr.length=R1.length+R2.length:=(by omega);have e0:X++(A++(Pp++(Rr++(B++Y))))=(X++A)++(Pp++(R1++(R2++(B++Y)))):=(by rw[hsp];simp);rw[e0]at sp;rw[hsp]at ho ht;refine xf.use (X:=X++A) (U:=Pp) (M:=R1) (V:=R2) (Y:=B++Y) ?_ ?_ hl2.symm ?_ ?_ rfl sp fun G20 s20=>?_
     ·intro p hp;simp only[List.mem_append]at hp ho hXo hYo;rcases hp with (h|h)|h|h|h|h|h
      ·exact hXo p h
      ·exact ho p (.inl h)
      ·exact ho p (.inr (.inl h))
      ·exact ho p (.inr (.inr (.inl (.inl h))))
      ·exact ho p (.inr (.inr (.inl (.inr h))))
      ·exact ho p (.inr (.inr (.inr h)))
      ·exact hYo p h
     ·simp only[List.length_append];omega
     ·rw[List.length_append];omega
     ·simp only[List.length_append];omega
     ·rw[b7,i64_in (by omega) (by omega),aa];have e1:(X++A)++(R2++(R1++(Pp++(B++Y))))=X++(A++(R2++(R1++((Pp++B)++Y)))):=(by simp);rw[e1]at s20;have:=ih A R2 R1 (Pp++B) G20 (by omega) (by omega) (by omega) (by omega) (by rw[<- ht];simp) (by
       intro p hp
       simp only[List.mem_append]at hp ho
       rcases hp with h|h|h|h|h
       ·exact ho p (.inl h)
       ·exact ho p (.inr (.inr (.inl (.inr h))))
       ·exact ho p (.inr (.inr (.inl (.inl h))))
       ·exact ho p (.inr (.inl h))
       ·exact ho p (.inr (.inr (.inr h)))) s20
      have e2:(Rr.length:Int)-(Pp.length:Int)=(R1.length:Int):=(by omega);rw[e2,<- hl2];exact this
 have e1:((X.length+U.length:Nat):Int)-(X.length:Int)=(U.length:Int):=by omega
 have e2:((X.length+U.length+V.length:Nat):Int)-((X.length+U.length:Nat):Int)=(V.length:Int):=by omega
 rw[e1,e2];refine loop (U.length+V.length) [] U V [] G (Nat.le_refl _) hU1 hV1 (by simp) (by simp) (fun p hp=>hok p (by simp at hp ⊢;rcases hp with h | h<;>simp[h])) (by simpa using hs)
end
end Go.Esc.M
namespace Go.Esc.M
open Go Go.Esc
theorem o6 {B:List ba}(h:fT B) {i j:Nat}{x y:ba}(hij:i≤j) (hi:B[i]?=some x) (hj:B[j]?=some y):x.id≤y.id:=by
 obtain⟨h1,rfl⟩:=List.getElem?_eq_some_iff.1 hi;obtain⟨h2,rfl⟩:=List.getElem?_eq_some_iff.1 hj;by_cases he:i=j
 ·subst he;exact Int.le_refl _
 ·exact (List.pairwise_iff_getElem.1 h) i j h1 h2 (by omega)
theorem kL {a b:List ba}:fT (a++b) ↔ fT a/\fT b/\∀ x∈a,∀ y∈b,x.id≤y.id:=List.pairwise_append
theorem Ji {A1 U V B2 S1 S2:List ba}(hA:fT (A1++U)) (hB:fT (V++B2)) (h1:∀ x∈A1,∀ y∈B2,x.id≤y.id) (h2:∀ x∈V,∀ y∈U,x.id<y.id) (hs1:gy S1 (A1++V)) (ho1:fT S1) (hs2:gy S2 (U++B2)) (ho2:fT S2) :
  gy (S1++S2) ((A1++U)++(V++B2))/\fT (S1++S2):=by
 obtain⟨_,_,a3⟩:=kL.1 hA;obtain⟨_,_,b3⟩:=kL.1 hB;refine⟨?_,kL.2 ⟨ho1,ho2,fun x hx y hy=>?_⟩⟩
 ·refine (gy.append hs1 hs2).trans ?_;have:=gy.append (gy.append (gy.refl A1) (gy.swap (a:=V) (b:=U) (fun x hx y hy=>by have:=h2 x hx y hy;omega))) (gy.refl B2);simpa using this
 ·have hx:=hs1.mem.1 hx;have hy:=hs2.mem.1 hy;rcases List.mem_append.1 hx with hx|hx<;>rcases List.mem_append.1 hy with hy|hy
  ·exact a3 x hx y hy
  ·exact h1 x hx y hy
  ·have:=h2 x hx y hy;omega
  ·exact b3 x hx y hy
theorem Jc {p:ba}{B1 B2:List ba}(hB:fT (B1++B2)) (h1:∀ q∈B1,q.id<p.id) (h2:∀ q∈B2,p.id≤q.id):gy (B1++p::B2) ([p]++(B1++B2))/\fT (B1++p::B2):=by
 obtain⟨b1,b2,b3⟩:=kL.1 hB;refine⟨?_,kL.2 ⟨b1,List.pairwise_cons.2 ⟨h2,b2⟩,fun x hx y hy=>?_⟩⟩
 ·have:=gy.append (gy.swap (a:=B1) (b:=[p]) (fun x hx y hy=>by rw[List.mem_singleton.1 hy];have:=h1 x hx;omega)) (gy.refl B2);simpa using this
 ·rcases List.mem_cons.1 hy with rfl|hy
  ·have:=h1 x hx;omega
  ·exact b3 x hx y hy
theorem HL {q:ba}{A1 A2:List ba}(hA:fT (A1++A2)) (h1:∀ p∈A1,p.id≤q.id) (h2:∀ p∈A2,q.id<p.id):gy (A1++q::A2) ((A1++A2)++[q])/\fT (A1++q::A2):=by
 obtain⟨a1,a2,a3⟩:=kL.1 hA;refine⟨?_,kL.2 ⟨a1,List.pairwise_cons.2 ⟨fun x hx=>by have:=h2 x hx;omega,a2⟩,fun x hx y hy=>?_⟩⟩
 ·have:=gy.append (gy.refl A1) (gy.swap (a:=[q]) (b:=A2) (fun x hx y hy=>by rw[List.mem_singleton.1 hx];have:=h2 y hy;omega));simpa using this
 ·rcases List.mem_cons.1 hy with rfl|hy
  ·exact h1 x hx
  ·exact a3 x hx y hy
theorem GG {B:List ba}{lo:Nat}(hlo:lo≤B.length) {P1 P2:ba->Prop}(h1:∀ k x,k<lo->B[k]?=some x->P1 x) (h2:∀ k x,lo≤k->B[k]?=some x->P2 x):∃ B1 B2,B=B1++B2/\B1.length=lo/\(∀ x∈B1,P1 x)/\∀ x∈B2,P2 x:=by
 refine⟨B.take lo,B.drop lo,(List.take_append_drop _ _).symm,by rw[List.length_take];omega,fun x hx=>?_,fun x hx=>?_⟩
 ·obtain⟨k,hk⟩:=List.mem_iff_getElem?.1 hx;have hkl:=(List.getElem?_eq_some_iff.1 hk).1;rw[List.length_take]at hkl;rw[List.getElem?_take_of_lt (by omega)]at hk;exact h1 k x (by omega) hk
 ·obtain⟨k,hk⟩:=List.mem_iff_getElem?.1 hx;rw[List.getElem?_drop]at hk;exact h2 (lo+k) x (by omega) hk
section
variable {F0:List AId}{G0 G:ak}{ps:List LP}{Q:ah->ak->Prop}
theorem GX {n:Nat}{x:Int}{K:ah->Prop}(hx:x=(n:Int)) (hn:n≤1099511627776) (hK:K (.int .i64 ((n/2:Nat):Int))) :
  wv (gv T G ay mJ (.int .i64 x)) fun v12=>wv (az T .shr mJ v12 (.int .u64 1)) fun v13=>wv (gv T G mJ ay v13) K:=by
 subst hx;refine ae (v:=.int .u64 (n:Int)) (by rw[jk iD Dk rfl,u64_in (by omega) (by omega)]) ?_;refine ae (v:=.int .u64 ((n/2:Nat):Int)) ?_ ?_
 ·rw[nB _ _ _ _ _ _ (by decide)];have h1:min (1:Int).toNat IntKind.u64.bits=1:=by decide
  have h2:(2:Int) ^ 1=2:=by decide
  rw[h1,h2,Int.fdiv_eq_ediv_of_nonneg _ (by decide)];rfl
 refine ae (v:=.int .i64 ((n/2:Nat):Int)) (by rw[jk Dk iD rfl,i64_in (by omega) (by omega)]) hK
theorem HG {v:ah}{A B:List ba}{u p:ba}{y z:Int}{K:ak->Prop}(hu:u.ok) (hp:p.ok) (hy:y=(A.length:Int)) (hz:z=((A.length+1:Nat):Int)) (hs:Sp F0 G0 (bm 35 v ((A++u::p::B).map ba.av)::ps) G)
  (hK:∀ G',Sp F0 G0 (bm 35 v ((A++p::u::B).map ba.av)::ps) G'->K G') :
  wv (aO T aw v (.int .i64 z)) fun v31=>wv (ag T G aT v31) fun v32=>wv (aO T aw v (.int .i64 y)) fun v33=>wv (ag T G aT v33) fun v34=>wv (aO T aw v (.int .i64 y)) fun v35=>wg (aF T G aT v35 v32) fun G36=>wv (aO T aw v (.int .i64 z)) fun v37=>wg (aF T G36 aT v37 v34) K:=by
 have hsl:=(bm.own (i:=0) hs rfl).is;have g1:(A++u::p::B)[A.length]?=some u:=get_at A (p::B) u;have g2:(A++u::p::B)[A.length+1]?=some p:=by
  rw[List.getElem?_append_right (by omega),Nat.add_sub_cancel_left];rfl
 obtain⟨b,e3,e4⟩:=mO hsl hz g2;refine ae e3 ?_;refine ae e4 ?_;obtain⟨a,e1,e2⟩:=mO hsl hy g1;refine ae e1 ?_;refine ae e2 ?_;obtain⟨d,e7,e8⟩:=tY (i:=0) (p:=p) hy hs rfl (by simp) hp;refine ae e7 ?_;refine e8 _ fun G36 s36=>?_;have s36:Sp F0 G0 (bm 35 v (((A++u::p::B).set A.length p).map ba.av)::ps) G36:=s36;obtain⟨c,e5,e6⟩:=tY (i:=0) (p:=u) hz s36 rfl (by simp) hu;refine ae e5 ?_;refine e6 _ fun G38 s38=>?_;have s38:Sp F0 G0 (bm 35 v ((((A++u::p::B).set A.length p).set (A.length+1) u).map ba.av)::ps) G38:=s38;have e:((A++u::p::B).set A.length p).set (A.length+1) u=A++p::u::B:=by
  rw[List.set_append_right _ _ (by omega),Nat.sub_self,List.set_cons_zero,List.set_append_right _ _ (by omega),Nat.add_sub_cancel_left];rfl
 rw[e]at s38;exact hK _ s38
end
end Go.Esc.M
namespace Go.Esc.M
open Go Go.Esc
theorem C7 {X A B Y:List ba}{k:Nat}{x:ba}(h:A[k]?=some x):(X++(A++(B++Y)))[X.length+k]?=some x:=by
 have hk:=(List.getElem?_eq_some_iff.1 h).1;rw[List.getElem?_append_right (by omega),Nat.add_sub_cancel_left,List.getElem?_append_left hk];exact h
theorem Ax {X A B Y:List ba}{k:Nat}{x:ba}(h:B[k]?=some x):(X++(A++(B++Y)))[X.length+A.length+k]?=some x:=by
 have hk:=(List.getElem?_eq_some_iff.1 h).1;rw[List.getElem?_append_right (by omega),List.getElem?_append_right (by omega),show X.length+A.length+k-X.length-A.length=k by omega,List.getElem?_append_left hk];exact h
theorem y6 {B:List ba}{k:Nat}(h:k<B.length):∃ x,B[k]?=some x:=⟨_,List.getElem?_eq_getElem h⟩
theorem Gw {A:List ba}(h:fT A) {k:Nat}{x z:ba}(hz:A[k]?=some z) (hx:x∈A.take (k+1)):x.id≤z.id:=by
 obtain⟨i,hi⟩:=List.mem_iff_getElem?.1 hx;have hil:=(List.getElem?_eq_some_iff.1 hi).1;rw[List.length_take]at hil;rw[List.getElem?_take_of_lt (by omega)]at hi;exact o6 h (by omega) hi hz
theorem Hb {A:List ba}(h:fT A) {k:Nat}{x z:ba}(hz:A[k]?=some z) (hx:x∈A.drop k):z.id≤x.id:=by
 obtain⟨i,hi⟩:=List.mem_iff_getElem?.1 hx;rw[List.getElem?_drop]at hi;exact o6 h (by omega) hz hi
section
variable {F0:List AId}{G0:ak}{ps:List LP}
theorem DV.use:∀ (N:Nat) {v:ah}{X A B Y:List ba}{a m b:Int}{G:ak}{Q:ah->ak->Prop},A.length+B.length≤N->(∀ p∈X++(A++(B++Y)),p.ok)->(X++(A++(B++Y))).length≤1048576->A≠[]->B≠[]->fT A->fT B ->
  a=(X.length:Int)->m=((X.length+A.length:Nat):Int)->b=((X.length+A.length+B.length:Nat):Int)->Sp F0 G0 (bm 35 v ((X++(A++(B++Y))).map ba.av)::ps) G ->
  (∀ S G',gy S (A++B)->fT S->Sp F0 G0 (bm 35 v ((X++(S++Y)).map ba.av)::ps) G'->Q (.tuple []) G') ->
  al P aY.n [v,.int .i64 a,.int .i64 m,.int .i64 b,uF] G Q:=by
 intro N;induction N with
 | zero=>
  intro v X A B Y a m b G Q hN hok hlen hA hB;have:=List.length_pos_iff.2 hA;omega
 | succ N ihN=>
  intro v X A B Y a m b G Q hN hok hlen hA hB hsA hsB ha hm hb hs hQ;have hA1:=List.length_pos_iff.2 hA;have hB1:=List.length_pos_iff.2 hB;refine aY.sound ?_;unfold aY.S;subst ha hm hb;simp only[List.length_append]at hlen;have okA:∀ x∈A,x.ok:=fun x hx=>hok x (by simp[hx]);have okB:∀ x∈B,x.ok:=fun x hx=>hok x (by simp[hx]);have okX:∀ x∈X,x.ok:=fun x hx=>hok x (by simp[hx]);have okY:∀ x∈Y,x.ok:=fun x hx=>hok x (by simp[hx]);rw[b7,i64_in (by omega) (by omega),aa,bB,aa,aI];refine⟨fun hone=>?_,fun hne1=>?_⟩
  ·
   obtain⟨p,rfl⟩:∃ p,A=[p]:=by
    match A,hone with
    | [p],_=>exact⟨p,rfl⟩
    | [],h=>exact absurd rfl hA
    | _::_::_,h=>exfalso;simp only[List.length_cons]at h;omega
   have hpo:=okA p (by simp);simp only[List.length_singleton]at *;intro R hR;have loop:∀ (n lo hi:Nat) (G':ak),hi-lo≤n->lo≤hi->hi≤B.length->(∀ k x,k<lo->B[k]?=some x->x.id<p.id)->(∀ k x,hi≤k->B[k]?=some x->p.id≤x.id)->Sp F0 G0 (bm 35 v ((X++([p]++(B++Y))).map ba.av)::ps) G' ->
     R [v,.int .i64 (X.length:Int),uF,.int .i64 ((X.length+1+lo:Nat):Int),.int .i64 ((X.length+1+hi:Nat):Int)] G':=by
    intro n;induction n with
    | zero=>
     intro lo hi G' hn h1 h2 hl hh sp;have he:lo=hi:=(by omega);subst he;refine hR _ _ _ _ _ _ ?_;rw[aM,aa,dF_ (by omega),aK];obtain⟨B1,B2,hBe,hB1l,hl1,hl2⟩:=GG h2 (P1:=fun x=>x.id<p.id) (P2:=fun x=>p.id≤x.id) hl hh;rw[hBe]at hsB hQ sp okB;obtain⟨hst,hso⟩:=Jc hsB hl1 hl2;intro R2 hR2;have loop2:∀ (E D:List ba) (G':ak),B1=D++E->Sp F0 G0 (bm 35 v (((X++D)++p::(E++(B2++Y))).map ba.av)::ps) G'->R2 [v,.int .i64 ((X.length+1+lo:Nat):Int),.int .i64 ((X.length+D.length:Nat):Int)] G':=by
      intro E;induction E with
      | nil=>
       intro D G' hD sp;rw[List.append_nil]at hD;subst hD;refine hR2 _ _ _ _ ?_;rw[b7,i64_in (by omega) (by omega),aa,aM,aa,dF_ (by omega),aK];refine hQ _ _ hst hso ?_;simpa using sp
      | cons u E ih=>
       intro D G' hD sp;have hDl:=congrArg List.length hD;simp only[List.length_append,List.length_cons]at hDl;have huo:u.ok:=okB u (by rw[hD];simp);refine hR2 _ _ _ _ ?_;rw[b7,i64_in (by omega) (by omega),aa,aM,aa,dT_ (by omega),aN];rw[bg,i64_in (by omega) (by omega),aa,aa];refine HG (A:=X++D) (B:=E++(B2++Y)) hpo huo (by rw[List.length_append]) (by rw[List.length_append];omega) sp fun G45 s45=>?_;rw[aa];have e:(X++D)++u::p::(E++(B2++Y))=(X++(D++[u]))++p::(E++(B2++Y)):=(by simp);rw[e]at s45;have:=ih (D++[u]) G45 (by rw[hD];simp) s45;have e2:((X.length+(D++[u]).length:Nat):Int)=((X.length+D.length:Nat):Int)+1:=(by simp;omega);rw[e2]at this;exact this
     have:=loop2 B1 [] G' rfl (by simpa using sp);simpa using this
    | succ n ih=>
     intro lo hi G' hn h1 h2 hl hh sp;by_cases he:lo=hi
     ·exact ih lo hi G' (by omega) h1 h2 hl hh sp
     ·refine hR _ _ _ _ _ _ ?_;rw[aM,aa,dT_ (by omega),aN];rw[bg,i64_in (by omega) (by omega),aa];refine GX (n:=X.length+1+lo+(X.length+1+hi)) (by omega) (by omega) ?_;obtain⟨md,hmd⟩:∃ md,md=(lo+hi)/2:=⟨_,rfl⟩;have hh2:(X.length+1+lo+(X.length+1+hi))/2=X.length+1+md:=(by omega);rw[hh2];obtain⟨x,hx⟩:=y6 (B:=B) (k:=md) (by omega);have hxo:=okB x (List.mem_of_getElem? hx);have hsl:=(bm.own (i:=0) sp rfl).is;have g1:=Ax (X:=X) (A:=[p]) (Y:=Y) hx;have g2:=C7 (X:=X) (A:=[p]) (B:=B) (Y:=Y) (k:=0) (x:=p) rfl;obtain⟨c1,e1,e2⟩:=mO (x:=((X.length+1+md:Nat):Int)) hsl (by simp) g1;refine ae e1 ?_;refine ae e2 ?_;obtain⟨c2,e3,e4⟩:=mO (x:=(X.length:Int)) hsl (by simp) g2;refine ae e3 ?_;refine ae e4 ?_;refine wA hxo hpo fun G20 c20=>?_;have s20:=sp.tmp c20;rw[aM,aa,wB,aI];refine⟨fun hlt=>?_,fun hnl=>?_⟩
      ·rw[bg,i64_in (by omega) (by omega),aa];have:=ih (md+1) hi G20 (by omega) (by omega) h2 (fun k y hk hy=>by
        have:=o6 hsB (show k≤md by omega) hy hx
        omega) hh s20
       have e5:((X.length+1+md:Nat):Int)+1=((X.length+1+(md+1):Nat):Int):=(by omega);rw[e5];exact this
      ·exact ih lo md G20 (by omega) (by omega) (by omega) hl (fun k y hk hy=>by
        have:=o6 hsB hk hx hy
        omega) s20
   have:=loop B.length 0 B.length G (by omega) (by omega) (by omega) (fun k x hk=>by omega) (fun k x hk hx=>by
    have:=(List.getElem?_eq_some_iff.1 hx).1
    omega) hs
   simpa using this
  ·rw[b7,i64_in (by omega) (by omega),aa,bB,aa,aI];refine⟨fun hone=>?_,fun hne2=>?_⟩
   ·
    obtain⟨q,rfl⟩:∃ p,B=[p]:=by
     match B,hone with
     | [p],_=>exact⟨p,rfl⟩
     | [],h=>exact absurd rfl hB
     | _::_::_,h=>exfalso;simp only[List.length_cons]at h;omega
    have hqo:=okB q (by simp);simp only[List.length_singleton]at *;intro R hR;have loop:∀ (n lo hi:Nat) (G':ak),hi-lo≤n->lo≤hi->hi≤A.length->(∀ k x,k<lo->A[k]?=some x->x.id≤q.id)->(∀ k x,hi≤k->A[k]?=some x->q.id<x.id)->Sp F0 G0 (bm 35 v ((X++(A++([q]++Y))).map ba.av)::ps) G' ->
      R [v,.int .i64 ((X.length+A.length:Nat):Int),uF,.int .i64 ((X.length+lo:Nat):Int),.int .i64 ((X.length+hi:Nat):Int)] G':=by
     intro n;induction n with
     | zero=>
      intro lo hi G' hn h1 h2 hl hh sp;have he:lo=hi:=(by omega);subst he;refine hR _ _ _ _ _ _ ?_;rw[aM,aa,dF_ (by omega),aK];obtain⟨A1,A2,hAe,hA1l,hl1,hl2⟩:=GG h2 (P1:=fun x=>x.id≤q.id) (P2:=fun x=>q.id<x.id) hl hh;have hAle:=congrArg List.length hAe;rw[List.length_append]at hAle;rw[hAe]at hsA hQ sp okA;obtain⟨hst,hso⟩:=HL hsA hl1 hl2;intro R2 hR2;have loop2:∀ (n:Nat) (D E:List ba) (G':ak),D.length=n->A2=D++E->Sp F0 G0 (bm 35 v (((X++(A1++D))++q::(E++Y)).map ba.av)::ps) G'->R2 [v,.int .i64 ((X.length+lo:Nat):Int),.int .i64 ((X.length+lo+D.length:Nat):Int)] G':=by
       intro n;induction n with
       | zero=>
        intro D E G' hDl hD sp;have:D=[]:=List.length_eq_zero_iff.1 hDl;subst this;rw[List.nil_append]at hD;subst hD;refine hR2 _ _ _ _ ?_;rw[da,aa,dF_ (by simp),aK];refine hQ _ _ hst hso ?_;simpa using sp
       | succ n ih=>
        intro D E G' hDl hD sp;obtain⟨W,u,rfl⟩:∃ W u,D=W++[u]:=⟨D.dropLast,D.getLast (by intro h;rw[h]at hDl;simp at hDl),(List.dropLast_concat_getLast _).symm⟩;have hWl:W.length=n:=(by simpa using hDl);have hDle:=congrArg List.length hD;simp only[List.length_append,List.length_singleton]at hDle;have hUl:(W++[u]).length=W.length+1:=(by simp);have huo:u.ok:=okA u (by rw[hD];simp);rw[hUl];refine hR2 _ _ _ _ ?_;rw[da,aa,dT_ (by omega),aN];rw[b7,i64_in (by omega) (by omega),aa,aa];have e0:(X++(A1++(W++[u])))++q::(E++Y)=(X++(A1++W))++u::q::(E++Y):=(by simp);rw[e0]at sp;refine D8 (A:=X++(A1++W)) (B:=E++Y) huo hqo (by simp only[List.length_append];omega) (by simp only[List.length_append];omega) sp fun G91 s91=>?_;rw[aa];have e1:(X++(A1++W))++q::u::(E++Y)=(X++(A1++W))++q::((u::E)++Y):=(by simp);rw[e1]at s91;have:=ih W (u::E) G91 hWl (by rw[hD];simp) s91;have e2:((X.length+lo+(W.length+1):Nat):Int)-1=((X.length+lo+W.length:Nat):Int):=(by omega);rw[e2];exact this
      have:=loop2 A2.length A2 [] G' rfl (by simp) (by simpa using sp);have e3:((X.length+A.length:Nat):Int)=((X.length+lo+A2.length:Nat):Int):=(by omega);rw[e3];exact this
     | succ n ih=>
      intro lo hi G' hn h1 h2 hl hh sp;by_cases he:lo=hi
      ·exact ih lo hi G' (by omega) h1 h2 hl hh sp
      ·refine hR _ _ _ _ _ _ ?_;rw[aM,aa,dT_ (by omega),aN];rw[bg,i64_in (by omega) (by omega),aa];refine GX (n:=X.length+lo+(X.length+hi)) (by omega) (by omega) ?_;obtain⟨md,hmd⟩:∃ md,md=(lo+hi)/2:=⟨_,rfl⟩;have hh2:(X.length+lo+(X.length+hi))/2=X.length+md:=(by omega);rw[hh2];obtain⟨x,hx⟩:=y6 (B:=A) (k:=md) (by omega);have hxo:=okA x (List.mem_of_getElem? hx);have hsl:=(bm.own (i:=0) sp rfl).is;have g1:=C7 (X:=X) (B:=[q]) (Y:=Y) hx;have g2:=Ax (X:=X) (A:=A) (B:=[q]) (Y:=Y) (k:=0) (x:=q) rfl;obtain⟨c2,e3,e4⟩:=mO (x:=((X.length+A.length:Nat):Int)) hsl (by simp) g2;refine ae e3 ?_;refine ae e4 ?_;obtain⟨c1,e1,e2⟩:=mO (x:=((X.length+md:Nat):Int)) hsl rfl g1;refine ae e1 ?_;refine ae e2 ?_;refine wA hqo hxo fun G20 c20=>?_;have s20:=sp.tmp c20;rw[aM,aa,wB,dx,aa];by_cases hlt:q.id<x.id
       ·rw[dT_ hlt,Bool.not_true,aK];exact ih lo md G20 (by omega) (by omega) (by omega) hl (fun k y hk hy=>by
         have:=o6 hsA hk hx hy
         omega) s20
       ·rw[dF_ hlt,Bool.not_false,aN];rw[bg,i64_in (by omega) (by omega),aa];have:=ih (md+1) hi G20 (by omega) (by omega) h2 (fun k y hk hy=>by
         have:=o6 hsA (show k≤md by omega) hy hx
         omega) hh s20
        have e5:((X.length+md:Nat):Int)+1=((X.length+(md+1):Nat):Int):=(by omega);rw[e5];exact this
    have:=loop A.length 0 A.length G (by omega) (by omega) (by omega) (fun k x hk=>by omega) (fun k x hk hx=>by
     have:=(List.getElem?_eq_some_iff.1 hx).1
     omega) hs
    simpa using this
   ·
    obtain⟨h,hhe⟩:∃ h,h=(A.length+B.length)/2:=⟨_,rfl⟩;have hA2:2≤A.length:=(by omega);have hB2:2≤B.length:=(by omega);rw[bg,i64_in (by omega) (by omega),aa];refine GX (n:=X.length+(X.length+A.length+B.length)) (by omega) (by omega) ?_;have hmid:(X.length+(X.length+A.length+B.length))/2=X.length+h:=(by omega);rw[hmid,bg,i64_in (by omega) (by omega),aa];refine ae (v:=.bool (decide (((X.length+A.length:Nat):Int) > ((X.length+h:Nat):Int)))) (by rw[da]) ?_;intro J185;have core:∀ (σ0 ρ0:Nat),σ0≤ρ0->ρ0≤h->ρ0≤A.length->h≤σ0+B.length->(σ0=0\/h=σ0+B.length)->(ρ0=A.length\/ρ0=h)->J185 (.int .i64 ((X.length+σ0:Nat):Int)) (.int .i64 ((X.length+ρ0:Nat):Int)) G:=by
     intro σ0 ρ0 c1 c2 c3 c4 c5 c6;simp -zeta only [J185];rw[b7,i64_in (by omega) (by omega),aa];intro R hR;have loop:∀ (n σ ρ:Nat) (G':ak),ρ-σ≤n->σ0≤σ->σ≤ρ->ρ≤ρ0->(∀ x∈A.take σ,∀ y∈B.drop (h-σ),x.id≤y.id)->(∀ x∈B.take (h-ρ),∀ y∈A.drop ρ,x.id<y.id)->Sp F0 G0 (bm 35 v ((X++(A++(B++Y))).map ba.av)::ps) G' ->
       R [v,.int .i64 (X.length:Int),.int .i64 ((X.length+A.length:Nat):Int),.int .i64 ((X.length+A.length+B.length:Nat):Int),uF,.int .i64 ((X.length+h:Nat):Int),.int .i64 (((X.length+h:Nat):Int)+((X.length+A.length:Nat):Int)),.int .i64 ((X.length+σ:Nat):Int),.int .i64 ((X.length+ρ:Nat):Int),.int .i64 (((X.length+h:Nat):Int)+((X.length+A.length:Nat):Int)-1)] G':=by
      intro n;induction n with
      | zero=>
       intro σ ρ G' hn k1 k2 k3 i1 i2 sp;have he:σ=ρ:=(by omega);subst he;refine hR _ _ _ _ _ _ _ _ _ _ _ ?_;rw[aM,aa,dF_ (by omega),aK];obtain⟨A1,hA1⟩:∃ x,x=A.take σ:=⟨_,rfl⟩;obtain⟨U,hU⟩:∃ x,x=A.drop σ:=⟨_,rfl⟩;obtain⟨V,hV⟩:∃ x,x=B.take (h-σ):=⟨_,rfl⟩;obtain⟨B2,hB2⟩:∃ x,x=B.drop (h-σ):=⟨_,rfl⟩;have hAe:A=A1++U:=(by rw[hA1,hU,List.take_append_drop]);have hBe:B=V++B2:=(by rw[hV,hB2,List.take_append_drop]);have lA1:A1.length=σ:=(by rw[hA1,List.length_take];omega);have lU:U.length=A.length-σ:=(by rw[hU,List.length_drop]);have lV:V.length=h-σ:=(by rw[hV,List.length_take];omega);have lB2:B2.length=B.length-(h-σ):=(by rw[hB2,List.length_drop]);rw[<- hA1,<- hB2]at i1;rw[<- hV,<- hU]at i2;have hsA':=hsA;have hsB':=hsB;rw[hAe]at hsA';rw[hBe]at hsB';obtain⟨sA1,sU,_⟩:=kL.1 hsA';obtain⟨sV,sB2,_⟩:=kL.1 hsB';have okA1:∀ x∈A1,x.ok:=fun x hx=>okA x (by rw[hAe];simp[hx]);have okU:∀ x∈U,x.ok:=fun x hx=>okA x (by rw[hAe];simp[hx]);have okV:∀ x∈V,x.ok:=fun x hx=>okB x (by rw[hBe];simp[hx]);have okB2:∀ x∈B2,x.ok:=fun x hx=>okB x (by rw[hBe];simp[hx]);have hQ':∀ S1 S2 G',gy S1 (A1++V)->fT S1->gy S2 (U++B2)->fT S2->Sp F0 G0 (bm 35 v ((X++(S1++(S2++Y))).map ba.av)::ps) G'->Q (.tuple []) G':=by
        intro S1 S2 G' q1 q2 q3 q4 sp;obtain⟨r1,r2⟩:=Ji hsA' hsB' i1 i2 q1 q2 q3 q4;rw[<- hAe,<- hBe]at r1;exact hQ _ _ r1 r2 (by simpa using sp)
       rw[b7,i64_in (by omega) (by omega),aa];have eend:((X.length+h:Nat):Int)+((X.length+A.length:Nat):Int)-((X.length+σ:Nat):Int)=((X.length+A.length+(h-σ):Nat):Int):=(by omega);rw[eend];have fin:∀ (S1:List ba) (G1:ak),gy S1 (A1++V)->fT S1->Sp F0 G0 (bm 35 v ((X++(S1++(U++(B2++Y)))).map ba.av)::ps) G1 ->
         wv (az T .lss ay (.int .i64 ((X.length+h:Nat):Int)) (.int .i64 ((X.length+A.length+(h-σ):Nat):Int))) fun v162=>brB (some v162)
          (wv (az T .lss ay (.int .i64 ((X.length+A.length+(h-σ):Nat):Int)) (.int .i64 ((X.length+A.length+B.length:Nat):Int))) fun v163=>brB (some v163)
           (al P aY.n [v,.int .i64 ((X.length+h:Nat):Int),.int .i64 ((X.length+A.length+(h-σ):Nat):Int),.int .i64 ((X.length+A.length+B.length:Nat):Int),uF] G1 fun v169 G170=>Q (.tuple []) G170)
           (Q (.tuple []) G1))
          (Q (.tuple []) G1):=by
        intro S1 G1 q1 q2 sp1;have lS1:=q1.length;rw[List.length_append]at lS1;have okS1:∀ x∈S1,x.ok:=fun x hx=>by
         rcases List.mem_append.1 (q1.mem.1 hx) with hx|hx
         ·exact okA1 x hx
         ·exact okV x hx
        have noU:U=[]->Q (.tuple []) G1:=fun hu=>hQ' S1 (U++B2) G1 q1 q2 (gy.refl _) (by rw[hu];simpa using sB2) (by simpa using sp1);have noB:B2=[]->Q (.tuple []) G1:=fun hu=>hQ' S1 (U++B2) G1 q1 q2 (gy.refl _) (by rw[hu];simpa using sU) (by simpa using sp1);rw[aM,aa,aI];refine⟨fun hlt=>?_,fun hge=>noU (List.length_eq_zero_iff.1 (by omega))⟩;rw[aM,aa,aI];refine⟨fun hlt2=>?_,fun hge=>noB (List.length_eq_zero_iff.1 (by omega))⟩;refine ihN (X:=X++S1) (A:=U) (B:=B2) (Y:=Y) (by omega) ?_ ?_ (fun e=>by rw[e]at lU;simp at lU;omega) (fun e=>by rw[e]at lB2;simp at lB2;omega) sU sB2 (by rw[List.length_append];omega) (by rw[List.length_append];omega) (by rw[List.length_append];omega) (by simpa using sp1) fun S2 G2 q3 q4 sp2=>?_
        ·intro x hx;simp only[List.mem_append]at hx;rcases hx with (hx|hx)|hx|hx|hx
         ·exact okX x hx
         ·exact okS1 x hx
         ·exact okU x hx
         ·exact okB2 x hx
         ·exact okY x hx
        ·simp only[List.length_append];omega
        ·exact hQ' S1 S2 G2 q1 q2 q3 q4 (by simpa using sp2)
       intro J184;have j184:∀ (bb:Bool) (G1:ak),(bb=false->U=[]\/V=[])->(bb=true->U≠[]/\V≠[])->Sp F0 G0 (bm 35 v ((X++(A++(B++Y))).map ba.av)::ps) G1->J184 (.bool bb) G1:=by
        intro bb G1 hb0 hb1 sp1;simp -zeta only [J184];intro J183;have j183:∀ G2,Sp F0 G0 (bm 35 v ((X++(A1++(V++(U++(B2++Y))))).map ba.av)::ps) G2->J183 G2:=by
         intro G2 sp2;simp -zeta only [J183];intro J182;have no:(A1=[]\/V=[])->J182 (.bool false) G2:=by
          intro hor;simp -zeta only [J182,aK];refine fin (A1++V) G2 (gy.refl _) ?_ (by simpa using sp2);rcases hor with e|e
          ·rw[e];simpa using sV
          ·rw[e];simpa using sA1
         rw[aM,aa,aI];refine⟨fun hlt=>?_,fun hge=>no (.inl (List.length_eq_zero_iff.1 (by omega)))⟩;rw[aM,aa];by_cases hlt2:((X.length+σ:Nat):Int)<((X.length+h:Nat):Int)
         ·rw[dT_ hlt2];simp -zeta only [J182,aN];refine ihN (X:=X) (A:=A1) (B:=V) (Y:=U++(B2++Y)) (by omega) ?_ ?_ (fun e=>by rw[e]at lA1;simp at lA1;omega) (fun e=>by rw[e]at lV;simp at lV;omega) sA1 sV rfl (by omega) (by omega) sp2 fun S1 G3 q1 q2 sp3=>?_
          ·intro x hx;simp only[List.mem_append]at hx;rcases hx with hx|hx|hx|hx|hx|hx
           ·exact okX x hx
           ·exact okA1 x hx
           ·exact okV x hx
           ·exact okU x hx
           ·exact okB2 x hx
           ·exact okY x hx
          ·simp only[List.length_append];omega
          ·exact fin S1 G3 q1 q2 sp3
         ·rw[dF_ hlt2];exact no (.inr (List.length_eq_zero_iff.1 (by omega)))
        cases bb with
        | false=>
         rw[aK];refine j183 G1 ?_;rw[hAe,hBe]at sp1;rcases hb0 rfl with e|e
         ·rw[e]at sp1 ⊢;simpa using sp1
         ·rw[e]at sp1 ⊢;simpa using sp1
        | true=>
         rw[aN];obtain⟨hUn,hVn⟩:=hb1 rfl;rw[hAe,hBe]at sp1;refine rotate.use (X:=X++A1) (U:=U) (V:=V) (Y:=B2++Y) ?_ ?_ hUn hVn (by rw[List.length_append];omega) (by rw[List.length_append];omega) (by rw[List.length_append];omega) (by simpa using sp1) fun G2 sp2=>?_
         ·intro x hx;simp only[List.mem_append]at hx;rcases hx with (hx|hx)|hx|hx|hx|hx
          ·exact okX x hx
          ·exact okA1 x hx
          ·exact okU x hx
          ·exact okV x hx
          ·exact okB2 x hx
          ·exact okY x hx
         ·simp only[List.length_append];omega
         ·exact j183 G2 (by simpa using sp2)
       rw[aM,aa,aI];refine⟨fun hlt=>?_,fun hge=>j184 false G' (fun _=>.inl (List.length_eq_zero_iff.1 (by omega))) (fun e=>by cases e) sp⟩;rw[aM,aa];by_cases hlt2:((X.length+A.length:Nat):Int)<((X.length+A.length+(h-σ):Nat):Int)
       ·rw[dT_ hlt2];exact j184 true G' (fun e=>by cases e) (fun _=>⟨fun e=>by rw[e]at lU;simp at lU;omega,fun e=>by rw[e]at lV;simp at lV;omega⟩) sp
       ·rw[dF_ hlt2];exact j184 false G' (fun _=>.inr (List.length_eq_zero_iff.1 (by omega))) (fun e=>by cases e) sp
      | succ n ih=>
       intro σ ρ G' hn k1 k2 k3 i1 i2 sp;by_cases he:σ=ρ
       ·exact ih σ ρ G' (by omega) k1 k2 k3 i1 i2 sp
       ·refine hR _ _ _ _ _ _ _ _ _ _ _ ?_;rw[aM,aa,dT_ (by omega),aN];rw[bg,i64_in (by omega) (by omega),aa];refine GX (n:=X.length+σ+(X.length+ρ)) (by omega) (by omega) ?_;obtain⟨κ,hκ⟩:∃ κ,κ=(σ+ρ)/2:=⟨_,rfl⟩;have hh2:(X.length+σ+(X.length+ρ))/2=X.length+κ:=(by omega);rw[hh2];rw[b7,i64_in (by omega) (by omega),aa];obtain⟨x,hx⟩:=y6 (B:=A) (k:=κ) (by omega);obtain⟨y,hy⟩:=y6 (B:=B) (k:=h-1-κ) (by omega);have hxo:=okA x (List.mem_of_getElem? hx);have hyo:=okB y (List.mem_of_getElem? hy);have hsl:=(bm.own (i:=0) sp rfl).is;have g1:=C7 (X:=X) (B:=B) (Y:=Y) hx;have g2:=Ax (X:=X) (A:=A) (Y:=Y) hy;obtain⟨c7,e1,e2⟩:=mO (x:=((X.length+h:Nat):Int)+((X.length+A.length:Nat):Int)-1-((X.length+κ:Nat):Int)) hsl (by omega) g2;refine ae e1 ?_;refine ae e2 ?_;obtain⟨c8,e3,e4⟩:=mO (x:=((X.length+κ:Nat):Int)) hsl rfl g1;refine ae e3 ?_;refine ae e4 ?_;refine wA hyo hxo fun G127 c127=>?_;have s127:=sp.tmp c127;rw[aM,aa,wB,dx,aa];by_cases hlt:y.id<x.id
        ·rw[dT_ hlt,Bool.not_true,aK];refine ih σ κ G127 (by omega) k1 (by omega) (by omega) i1 (fun u hu w hw=>?_) s127;have hk:h-κ=h-1-κ+1:=(by omega);rw[hk]at hu;have h5:=Gw hsB hy hu;have h6:=Hb hsA hx hw;omega
        ·rw[dF_ hlt,Bool.not_false,aN];rw[bg,i64_in (by omega) (by omega),aa];have:=ih (κ+1) ρ G127 (by omega) (by omega) (by omega) k3 (fun u hu w hw=>by
          have hk:h-(κ+1)=h-1-κ:=by omega
          rw[hk]at hw
          have h5:=Gw hsA hx hu
          have h6:=Hb hsB hy hw
          omega) i2 s127
         have e5:((X.length+κ:Nat):Int)+1=((X.length+(κ+1):Nat):Int):=(by omega);rw[e5];exact this
     refine loop (ρ0-σ0) σ0 ρ0 G (Nat.le_refl _) (Nat.le_refl _) c1 (Nat.le_refl _) ?_ ?_ hs
     ·rcases c5 with e|e
      ·subst e;intro x hx;simp at hx
      ·intro x hx y hy;rw[List.drop_eq_nil_of_le (by omega)]at hy;cases hy
     ·rcases c6 with e|e
      ·intro x hx y hy;rw[List.drop_eq_nil_of_le (by omega)]at hy;cases hy
      ·subst e;intro x hx;rw[Nat.sub_self]at hx;simp at hx
    rw[aI];refine⟨fun hgt=>?_,fun hle=>?_⟩
    ·rw[b7,i64_in (by omega) (by omega),aa];have:=core (h-B.length) h (by omega) (by omega) (by omega) (by omega) (.inr (by omega)) (.inr rfl);have e:((X.length+h:Nat):Int)+((X.length+A.length:Nat):Int)-((X.length+A.length+B.length:Nat):Int)=((X.length+(h-B.length):Nat):Int):=(by omega);rw[e];exact this
    ·have:=core 0 A.length (by omega) (by omega) (by omega) (by omega) (.inl rfl) (.inl rfl);simpa using this
end
end Go.Esc.M
