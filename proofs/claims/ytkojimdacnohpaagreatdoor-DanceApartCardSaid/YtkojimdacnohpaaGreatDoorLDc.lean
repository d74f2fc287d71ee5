import Derived.Test.YtkojimdacnohpaaGreatDoorLCy
import Derived.Test.YtkojimdacnohpaaGreatDoorLHb
set_option maxHeartbeats 1000000
set_option linter.unusedSimpArgs false
set_option linter.unusedVariables false
set_option maxRecDepth 20000
namespace Go.Esc
open Go Go.RowKit
def mo (id:AId) (es:List (ah×ah)):LP where
 p:=fun G F=>G id=some (.map es)/\F=[id]
 rows:=by rintro G F ⟨h,rfl⟩ j hj;simp at hj;subst hj;simp[h]
 loc:=by rintro G G' F ⟨h,rfl⟩ hs;exact⟨by rw[hs id (by simp)];exact h,rfl⟩
theorem mo.own {F0:List AId}{G0 G:ak}{ps:List LP}{i:Nat}{id:AId}{es:List (ah×ah)}(h:Sp F0 G0 ps G) (hi:ps[i]?=some (mo id es)):G id=some (.map es):=by
 obtain⟨F,h,_⟩:=h.get hi;exact h
theorem Sp.tV {F0:List AId}{G0 G:ak}{ps:List LP}{j:Nat}{i:AId}{es:List (ah×ah)}(h:Sp F0 G0 ps G) (hj:ps[j]?=some (mo i es)) (es':List (ah×ah)):Sp F0 G0 (ps.set j (mo i es')) (G.upd i (.map es')):=by
 refine h.call hj (mo i es') fun F h k=>?_;obtain⟨h,rfl⟩:=h;exact k _ _ ⟨ak.dR _ _ _,rfl⟩ ⟨tq h (by simp),fun j x hj hn=>by rw[ak.nb _ _ (fun e=>hn (by simp[e]))];exact hj,fun j hj=>.inl hj⟩
def oV (ct cf:Nat):List (ah×ah):=(if ct=0 then [] else [(.bool true,.int .i64 (ct:Int))])++(if cf=0 then [] else [(.bool false,.int .i64 (cf:Int))])
def lmap (lt lf:Int):List (ah×ah):=[(.bool true,.int .i64 lt),(.bool false,.int .i64 lf)]
section
variable {T:Tbl}{t kt et:TypeId}{i ki ei:TI} (ht:T t=some i) (hd:i.desc=.map kt et) (hk:T kt=some ki) (hkd:ki.desc=.bool) (he:T et=some ei) (hez:ei.zero=.int .i64 0) {G:ak}{id:AId}
include ht hd hk hkd he hez in
theorem H9 {ct cf:Nat}(hg:G id=some (.map (oV ct cf))) (b:Bool):jg T G t (.map id) (.bool b) false=some (.int .i64 ((bif b then ct else cf:Nat):Int)):=by
 have hf:kY ki.desc (.bool b)=true:=by rw[hkd];rfl
 by_cases h1:ct=0<;>by_cases h2:cf=0<;>cases b<;>simp[jg,ht,hd,hk,he,hf,tB,hg,oV,h1,h2,oA,uI,hez]
include ht hd hk hkd in
theorem H8 {ct:Nat}{K:ak->Prop}(hg:G id=some (.map (oV ct 0))) (hK:K (G.upd id (.map (oV (ct+1) 0)))):gD T G t (.map id) (.bool true) (.int .i64 ((ct+1:Nat):Int)) K:=by
 have hf:kY ki.desc (.bool true)=true:=by rw[hkd];rfl
 by_cases h1:ct=0
 ·subst h1;simp only[gD,ht,hd,hk,hg];exact⟨hf,hK⟩
 ·have e1:oV ct 0=[(.bool true,.int .i64 (ct:Int))]:=by simp[oV,h1]
  have e2:oV (ct+1) 0=[(.bool true,.int .i64 ((ct+1:Nat):Int))]:=by simp[oV]
  rw[e1]at hg;rw[e2]at hK;simp only[gD,ht,hd,hk,hg];exact⟨hf,hK⟩
include ht hd hk hkd in
theorem FT {ct cf:Nat}{K:ak->Prop}(hg:G id=some (.map (oV ct cf))) (hK:K (G.upd id (.map (oV ct (cf+1))))):gD T G t (.map id) (.bool false) (.int .i64 ((cf+1:Nat):Int)) K:=by
 have hf:kY ki.desc (.bool false)=true:=by rw[hkd];rfl
 by_cases h1:ct=0<;>by_cases h2:cf=0
 ·subst h1 h2;simp only[gD,ht,hd,hk,hg];exact⟨hf,hK⟩
 ·have e1:oV ct cf=[(.bool false,.int .i64 (cf:Int))]:=by simp[oV,h1,h2]
  have e2:oV ct (cf+1)=[(.bool false,.int .i64 ((cf+1:Nat):Int))]:=by simp[oV,h1]
  rw[e1]at hg;rw[e2]at hK;simp only[gD,ht,hd,hk,hg];exact⟨hf,hK⟩
 ·have e1:oV ct cf=[(.bool true,.int .i64 (ct:Int))]:=by simp[oV,h1,h2]
  have e2:oV ct (cf+1)=[(.bool true,.int .i64 (ct:Int)),(.bool false,.int .i64 ((cf+1:Nat):Int))]:=by simp[oV,h1]
  rw[e1]at hg;rw[e2]at hK;subst h2;simp only[gD,ht,hd,hk,hg];exact⟨hf,hK⟩
 ·have e1:oV ct cf=[(.bool true,.int .i64 (ct:Int)),(.bool false,.int .i64 (cf:Int))]:=by simp[oV,h1,h2]
  have e2:oV ct (cf+1)=[(.bool true,.int .i64 (ct:Int)),(.bool false,.int .i64 ((cf+1:Nat):Int))]:=by simp[oV,h1]
  rw[e1]at hg;rw[e2]at hK;simp only[gD,ht,hd,hk,hg];exact⟨hf,hK⟩
include ht hd hk in
theorem CZ {es:List (ah×ah)}{k v:ah}{r:Option (Nat×ah)}{K:ak->Prop}(hg:G id=some (.map es)) (hf:kY ki.desc k=true) (hr:oA k es 0=some r)
  (hK:K (G.upd id (.map (match r with | some (j,_)=>es.set j (k,v) | none=>es++[(k,v)])))):gD T G t (.map id) k v K:=by
 simp only[gD,ht,hd,hk,hg,hr];refine⟨hf,?_⟩;cases r with
 | none=>exact hK
 | some x=>exact hK
include ht hd hk hkd he in
theorem HN {lt lf:Int}(hg:G id=some (.map (lmap lt lf))) (b:Bool):jg T G t (.map id) (.bool b) false=some (.int .i64 (bif b then lt else lf)):=by
 have hf:kY ki.desc (.bool b)=true:=by rw[hkd];rfl
 cases b<;>simp[jg,ht,hd,hk,he,hf,tB,hg,lmap,oA,uI]
include ht hd hk hkd in
theorem Jn {lt lf n:Int}{b:Bool}{K:ak->Prop}(hg:G id=some (.map (lmap lt lf))) (hK:K (G.upd id (.map (lmap (bif b then n else lt) (bif b then lf else n))))):gD T G t (.map id) (.bool b) (.int .i64 n) K:=by
 have hf:kY ki.desc (.bool b)=true:=by rw[hkd];rfl
 cases b
 ·simp only[gD,ht,hd,hk,hg];exact⟨hf,hK⟩
 ·simp only[gD,ht,hd,hk,hg];exact⟨hf,hK⟩
end
end Go.Esc
namespace Go.Esc.M
open Go Go.Esc
structure ba where
 ours:Bool
 id:Int
 amount:Int
 hash:List UInt8
 deriving DecidableEq
def ba.av (p:ba):ah:=.agg [.bool p.ours,.int .i64 p.id,.int .i64 p.amount,.agg (p.hash.map u8v)]
structure ba.ok (p:ba):Prop where
 id:I64 p.id
 amount:I64 p.amount
 hash:p.hash.length=32
theorem ba.sz {p:ba}(h:p.ok):sz p.av=35:=by
 have h1:szs (p.hash.map u8v)=32:=by rw[gX (n:=1) (kd p.hash)];simp[h.hash]
 simp[ba.av,Esc.sz,szs,h1]
theorem ba.fits {p:ba}(h:p.ok):dD dS p.av=true:=by
 have h1:=ba.sz h;have h2:p.av.isAgg=true:=rfl;simp[dD,h1,h2,dS,kZ.isAgg]
theorem ba.okv (p:ba):okv p.av=true:=by simp[ba.av,Esc.okv,mz,kM]
theorem ba.fld {G:ak}{i:AId}{p:ba}(h:p.ok) (hg:G i=some (.own p.av)) :
  ag T G du (.ptr i [0] 0)=some (.bool p.ours)/\ag T G aq (.ptr i [1] 1)=some (.int .i64 p.id)/\ag T G aq (.ptr i [2] 2)=some (.int .i64 p.amount)/\ag T G ar (.ptr i [3] 3)=some (.agg (p.hash.map u8v)):=by
 have h1:szs (p.hash.map u8v)=32:=by rw[gX (n:=1) (kd p.hash)];simp[h.hash]
 refine⟨dI (c:=.bool p.ours) hg rfl rfl rfl lL rfl,dI (c:=.int .i64 p.id) hg rfl rfl rfl cu rfl,dI (c:=.int .i64 p.amount) hg rfl rfl rfl cu rfl,dI (c:=.agg (p.hash.map u8v)) hg rfl rfl rfl bZ ?_⟩;simp[dD,Esc.sz,h1,dQ,ah.isAgg,kZ.isAgg]
def gH (o p:Int) (v:ah):ah:=.agg [.int .i64 o,.int .i64 p,v]
def jb:Int:=1152921504606846976
def mR:Int->Int->Nat->Nat->List ba->Option (Nat×Nat)
 | _,_,ct,cf,[]=>some (ct,cf)
 | lt,lf,ct,cf,p::l=>
  if p.amount<1\/jb<p.amount\/p.id≤(bif p.ours then lt else lf)\/(p.ours=true/\0<cf) then none
  else bif p.ours then mR p.id lf (ct+1) cf l else mR lt p.id ct (cf+1) l
def few (r:Option (Nat×Nat)):Bool:=
 match r with
 | none=>false
 | some (a,b)=>decide (a≤483) && decide (b≤483)
def lG (o q:Int) (l:List ba):Bool:=decide (0≤o) && decide (o≤jb) && decide (0≤q) && decide (q≤jb) && few (mR (-1) (-1) 0 0 l)
section
variable {G:ak}{Q:ah->ak->Prop}
theorem lI {i:AId}{o q:Int}{v:ah}(hv:sz v=1) (hva:v.isAgg=false) (hg:G i=some (.own (gH o q v))) :
  ag T G aq (.ptr i [0] 0)=some (.int .i64 o)/\ag T G aq (.ptr i [1] 1)=some (.int .i64 q)/\ag T G aw (.ptr i [2] 2)=some v/\ag T G aX (.ptr i [] 0)=some (gH o q v):=by
 refine⟨dI (c:=.int .i64 o) hg rfl rfl rfl cu rfl,dI (c:=.int .i64 q) hg rfl rfl rfl cu rfl,dI (c:=v) hg rfl rfl rfl cy ?_,cj ng hg ?_⟩
 ·simp[dD,hv,hva,b8,kZ.isAgg]
 ·simp[dD,gH,sz,szs,hv,lN,ah.isAgg,kZ.isAgg]
theorem tU {n:Nat}{v:ah}{vs:List ah}(h:ff n G v vs):sz v=1/\v.isAgg=false/\okv v=true:=by
 rcases h with ⟨_,_,_,_,_,_,rfl,_⟩|⟨rfl,_⟩<;>exact⟨rfl,rfl,rfl⟩
theorem vj {v:ah}{l:List ba}{j:Nat}{p:ba}(h:ff 35 G v (l.map ba.av)) (hj:l[j]?=some p):∃ a,aO T aw v (.int .i64 (j:Int))=some a/\ag T G aT a=some p.av:=
 h.at_ (k:=.i64) (i:=b8) (ie:=dS) (T:=T) (t:=aw) (e:=aT) cy rfl eP (by rw[List.getElem?_map,hj];rfl) rfl
theorem iW.use {o q:Int}{v:ah}{l:List ba}(hl:ff 35 G v (l.map ba.av)) (hok:∀ p∈l,p.ok) (hlen:l.length≤9223372036854775807) (hQ:∀ G',Ch [] G [] G'->Q (.bool (lG o q l)) G') :
  al P iW.n [gH o q v] G Q:=by
 obtain⟨hv1,hv2,_⟩:=tU hl;refine iW.sound ?_;unfold iW.S;obtain⟨mA,hmA⟩:∃ m,m=(1152921504606846976:Int):=⟨_,rfl⟩;rw[<- hmA];have hmax:jb=mA:=by rw[hmA];rfl
 intro i1 f1;have s1:=(Sp.nil G).row f1 (gH o q v);obtain⟨f0,f1',f2,_⟩:=lI hv1 hv2 (au.own (i:=0) s1 rfl);revert s1 f0 f1' f2;generalize G.upd i1 (.own (gH o q v))=G2;intro s1 f0 f1' f2 J62;have hbad:lG o q l=false->J62 (.bool true) G2:=by
  intro h;simp -zeta only [J62,aN];rw[<- h];exact hQ _ s1.ch
 have hgood:lG o q l=few (mR (-1) (-1) 0 0 l)->J62 (.bool false) G2:=by
  intro he;rw[he]at hQ;simp -zeta only [J62,aK];intro i13 f13;have s14:=s1.new (p:=mo i13 (oV 0 0)) ⟨ak.dR _ _ _,rfl⟩ (Ch.new f13);intro i15 f15;have s16:=s14.new (p:=mo i15 []) ⟨ak.dR _ _ _,rfl⟩ (Ch.new f15);refine CZ (T:=T) (i:=kg) nR rfl lL (r:=none) (mo.own (i:=0) s16 rfl) rfl rfl ?_;have s17:=Sp.tV s16 (j:=0) rfl [(.bool true,.int .i64 (-1))];refine CZ (T:=T) (i:=kg) nR rfl lL (r:=none) (mo.own (i:=0) s17 rfl) rfl rfl ?_;have s18:Sp [] G [mo i15 (lmap (-1) (-1)),mo i13 (oV 0 0),au i1 (gH o q v)] _:=Sp.tV s17 (j:=0) rfl (lmap (-1) (-1));have hl18:=hl.ch' s18.ch;refine ae (lI hv1 hv2 (au.own (i:=2) s18 rfl)).2.2.1 ?_;refine ae (hl18.len (i:=b8) cy rfl) ?_;rw[List.length_map];intro R21 hR21;have look1:∀ {G':ak}{ct cf:Nat},G' i13=some (.map (oV ct cf))->∀ b,jg T G' lY (.map i13) (.bool b) false=some (.int .i64 ((bif b then ct else cf:Nat):Int)):=fun hg b=>H9 (T:=T) (i:=mq) qv rfl lL rfl iD rfl hg b;have look2:∀ {G':ak}{lt lf:Int},G' i15=some (.map (lmap lt lf))->∀ b,jg T G' lR (.map i15) (.bool b) false=some (.int .i64 (bif b then lt else lf)):=fun hg b=>HN (T:=T) (i:=kg) nR rfl lL rfl cu hg b;have loop:∀ (n j:Nat) (lt lf:Int) (ct cf:Nat) (G':ak),l.length-j=n->j≤l.length->ct≤j->cf≤j->(∀ b,few (mR lt lf ct cf (l.drop j))=b->few (mR (-1) (-1) 0 0 l)=b) ->
    Sp [] G [mo i15 (lmap lt lf),mo i13 (oV ct cf),au i1 (gH o q v)] G'->R21 [.map i13,.map i15,v,.int .i64 (l.length:Nat),.int .i64 (j:Int)] G':=by
   intro n;induction n with
   | zero=>
    intro j lt lf ct cf G' hn hj hct hcf hb hs;have:j=l.length:=(by omega);subst this;have g13:=mo.own (i:=1) hs rfl;rw[List.drop_length]at hb;have hb:=hb _ rfl;refine hR21 _ _ _ _ _ _ ?_;rw[aM,aa,aI];refine⟨fun h=>absurd h (by omega),fun _=>?_⟩;rw[look1 g13,aa,kQ,aa,look1 g13,aI];refine⟨fun h1=>?_,fun h1=>?_⟩
    ·rw[aa,kQ,aa];have:=hQ _ hs.ch;rw[hb]at this;have e:few (mR lt lf ct cf [])=decide ((((bif false then ct else cf:Nat)):Int)≤483):=by
      have h1:ct≤483:=(by have:((ct:Nat):Int)≤483:=h1;omega);simp only[mR,few,cond_false,dT_ h1,Bool.true_and];rw[decide_eq_decide];omega
     rw[<- e];exact this
    ·have:=hQ _ hs.ch;rw[hb]at this;have e:few (mR lt lf ct cf [])=false:=by
      have h1:¬ ct≤483:=fun h=>h1 (by show ((ct:Nat):Int)≤483;omega);simp only[mR,few,dF_ h1,Bool.false_and]
     rw[e]at this;exact this
   | succ n ih=>
    intro j lt lf ct cf G' hn hj hct hcf hb hs;have hjl:j<l.length:=(by omega);obtain⟨p,hp⟩:∃ p,l[j]?=some p:=⟨_,List.getElem?_eq_getElem hjl⟩;have hpo:=hok p (List.mem_of_getElem? hp);obtain⟨a,ha,hla⟩:=vj (hl.ch' hs.ch) hp;have hdr:l.drop j=p::l.drop (j+1):=by
     obtain⟨hx,rfl⟩:=List.getElem?_eq_some_iff.1 hp;exact List.drop_eq_getElem_cons hx
    rw[hdr,mR]at hb;refine hR21 _ _ _ _ _ _ ?_;rw[aM,aa,aI];refine⟨fun _=>?_,fun h=>absurd (by omega) h⟩;rw[ha,aa,hla,aa];refine jL hs eP (ba.fits hpo) (by rw[ba.sz hpo];rfl) (ba.okv p) fun i31 G33 s33=>?_;have g15:=mo.own (i:=1) s33 rfl;have g13:=mo.own (i:=2) s33 rfl;obtain⟨k0,k1,k2,_⟩:=ba.fld hpo (au.own (i:=0) s33 rfl);intro J54;have jbad:few none=few (mR (-1) (-1) 0 0 l)->J54 (.bool true) G33:=by
     intro h;simp -zeta only [J54,aN];have:=hQ _ s33.ch;rw[<- h]at this;exact this
    have jok:(∀ b,few (bif p.ours then mR p.id lf (ct+1) cf (l.drop (j+1)) else mR lt p.id ct (cf+1) (l.drop (j+1)))=b->few (mR (-1) (-1) 0 0 l)=b)->(p.ours=true->cf=0)->J54 (.bool false) G33:=by
     intro hnext hcf0;simp -zeta only [J54,aK];rw[k0,aa,k1,aa];refine Jn (T:=T) (i:=kg) nR rfl lL rfl g15 ?_;have s49:=Sp.tV s33 (j:=1) rfl (lmap (bif p.ours then p.id else lt) (bif p.ours then lf else p.id));obtain⟨k0',_⟩:=ba.fld hpo (au.own (i:=0) s49 rfl);have g13':=mo.own (i:=2) s49 rfl;refine ae k0' ?_;refine ae (look1 g13' p.ours) ?_;rw[bg,aa];cases hpo2:p.ours with
     | true=>
      have h0:=hcf0 hpo2;subst h0;rw[hpo2]at hnext s49 g13';simp only[cond_true]at hnext s49 ⊢;rw[i64_in (by omega) (by omega),show ((ct:Int)+1)=((ct+1:Nat):Int) by omega];refine H8 (T:=T) (i:=mq) qv rfl lL rfl g13' ?_;rw[bg,aa,i64_in (by omega) (by omega)];exact ih (j+1) p.id lf (ct+1) 0 _ (by omega) (by omega) (by omega) (by omega) hnext ((Sp.tV s49 (j:=2) rfl (oV (ct+1) 0)).erase 0)
     | false=>
      rw[hpo2]at hnext s49 g13';simp only[cond_false]at hnext s49 ⊢;rw[i64_in (by omega) (by omega),show ((cf:Int)+1)=((cf+1:Nat):Int) by omega];refine FT (T:=T) (i:=mq) qv rfl lL rfl g13' ?_;rw[bg,aa,i64_in (by omega) (by omega)];exact ih (j+1) lt p.id ct (cf+1) _ (by omega) (by omega) (by omega) (by omega) hnext ((Sp.tV s49 (j:=2) rfl (oV ct (cf+1))).erase 0)
    rw[k2,aa,aM,aa,aI];refine⟨fun h1=>jbad (hb _ (by rw[if_pos (.inl h1)])).symm,fun h1=>?_⟩;rw[aa,da,aa,aI];refine⟨fun h2=>jbad (hb _ (by rw[if_pos (.inr (.inl (by rw[hmax];exact h2)))])).symm,fun h2=>?_⟩;rw[k1,aa,k0,aa,look2 g15,aa,kQ,aa,aI];refine⟨fun h3=>jbad (hb _ (by rw[if_pos (.inr (.inr (.inl h3)))])).symm,fun h3=>?_⟩;rw[aa];rw[gO];refine⟨fun h4=>?_,fun h4=>?_⟩
    ·rw[look1 g13,aa,da,aa];by_cases h5:0<cf
     ·have e5:decide ((0:Int)<((bif false then ct else cf:Nat):Int))=true:=by
       rw[decide_eq_true_eq];show (0:Int)<(cf:Int);omega
      rw[e5];exact jbad (hb _ (by rw[if_pos (.inr (.inr (.inr ⟨h4,h5⟩)))])).symm
     ·have e5:decide ((0:Int)<((bif false then ct else cf:Nat):Int))=false:=by
       rw[decide_eq_false_iff_not];show ¬ (0:Int)<(cf:Int);omega
      rw[e5];refine jok (fun b h=>hb b ?_) fun _=>(by omega);rw[if_neg (fun h=>by rcases h with h | h | h | h;exact h1 h;exact h2 (by rw[<- hmax];exact h);exact h3 h;exact h5 h.2)];exact h
    ·refine jok (fun b h=>hb b ?_) fun h=>(by rw[h4]at h;cases h);rw[if_neg (fun h=>by rcases h with h | h | h | h;exact h1 h;exact h2 (by rw[<- hmax];exact h);exact h3 h;rw[h4]at h;cases h.1)];exact h
  exact loop _ 0 (-1) (-1) 0 0 _ rfl (by omega) (by omega) (by omega) (fun b h=>h) s18
 rw[f0,aa,aM,aa,aI];refine⟨fun h=>hbad ?_,fun h0=>?_⟩
 ·simp only[lG,dF_ (show ¬ 0≤o by omega),Bool.false_and]
 rw[aa,da,aa,aI];refine⟨fun h=>hbad ?_,fun h1=>?_⟩
 ·simp only[lG,dF_ (show ¬ o≤jb by rw[hmax];omega),Bool.false_and,Bool.and_false]
 rw[f1',aa,aM,aa,aI];refine⟨fun h=>hbad ?_,fun h2=>?_⟩
 ·simp only[lG,dF_ (show ¬ 0≤q by omega),Bool.false_and,Bool.and_false]
 rw[aa,da,aa];by_cases h3:mA<q
 ·rw[dT_ h3];refine hbad ?_;simp only[lG,dF_ (show ¬ q≤jb by rw[hmax];omega),Bool.false_and,Bool.and_false]
 ·rw[dF_ h3];refine hgood ?_;simp only[lG,dT_ (show 0≤o by omega),dT_ (show 0≤q by omega),dT_ (show o≤jb by rw[hmax];omega),dT_ (show q≤jb by rw[hmax];omega),Bool.true_and]
end
end Go.Esc.M
namespace Go.Esc.M
open Go Go.Esc
def ba.bytes (p:ba):List UInt8:=be 1 (bif p.ours then 1 else 0)++(be 8 (kn p.id)++(be 8 (kn p.amount)++p.hash))
theorem ba.sf {p:ba}(h:p.ok):p.bytes.length=49:=by simp[ba.bytes,iH,h.hash]
def vK (owner index:Int) (point:List UInt8) (o q:Int) (l:List ba):List UInt8:=
 be 1 owner.toNat++(be 8 (kn index)++(point++(be 8 (kn o)++(be 8 (kn q)++(be 2 l.length++l.flatMap ba.bytes)))))
def vZ:Int:=281474976710655
def qZ (owner index:Int):Prop:=owner<0\/1<owner\/index<0\/vZ<index
instance (owner index:Int):Decidable (qZ owner index):=inferInstanceAs (Decidable (_\/_\/_\/_))
def oI (owner index:Int) (point:List UInt8) (o q:Int) (l:List ba):List UInt8×Int:=
 if qZ owner index then ([],1) else bif lG o q l then (vK owner index point o q l,0) else ([],4)
theorem tn:∀ (l:List ba) {lt lf:Int}{ct cf a b:Nat},mR lt lf ct cf l=some (a,b)->a+b=ct+cf+l.length
 | [],lt,lf,ct,cf,a,b,h=>by
  simp only[mR,Option.some.injEq,Prod.mk.injEq]at h;simp;omega
 | p::l,lt,lf,ct,cf,a,b,h=>by
  rw[mR]at h;split at h
  ·cases h
  ·cases hp:p.ours with
   | true=>
    rw[hp]at h;have:=tn l h;simp;omega
   | false=>
    rw[hp]at h;have:=tn l h;simp;omega
theorem qQ {o q:Int}{l:List ba}(h:lG o q l=true):l.length≤966:=by
 unfold lG at h;simp only[Bool.and_eq_true]at h;have h:=h.2;unfold few at h;split at h
 ·cases h
 ·rename_i a b he;have:=tn l he;simp only[Bool.and_eq_true,decide_eq_true_eq]at h;omega
section
variable {F0:List AId}{G0 G:ak}{ps:List LP}{Q:ah->ak->Prop}
theorem wr {id:AId}{bs xs:List UInt8}{n:FuncId}{args:List ah}{i:Nat}{K:ah->ak->Prop}(hs:Sp F0 G0 ps G) (hi:ps[i]?=some (WrL id bs 0))
  (huse:∀ {G:ak}{F:List AId}{Q:ah->ak->Prop},Wr id (bs,0) G F->(∀ F' G',Wr id (laid (bs,0) xs) G' F'->Ch F G F' G'->Q (.tuple []) G')->al P n args G Q)
  (hK:∀ G',Sp F0 G0 (ps.set i (WrL id (bs++xs) 0)) G'->K (.tuple []) G'):al P n args G K:=by
 refine hs.call hi (WrL id (bs++xs) 0) fun F h k=>?_;exact huse h fun F' G' w c=>hK _ (k F' G' w c)
theorem Gt (n:Int) (h0:0≤n) (h1:n≤255):gv T G ay cm (.int .i64 n)=some (.int .u8 (n.toNat:Nat)):=by
 rw[jk iD cW rfl,u8_in h0 h1];congr 2;omega
theorem iN.use {owner index o q:Int}{point:List UInt8}{v:ah}{l:List ba}(hp:point.length=32) (hl:ff 35 G v (l.map ba.av)) (hok:∀ p∈l,p.ok) (hlen:l.length≤9223372036854775807)
  (hQ:∀ G',Ch [] G [] G'->Q (.tuple [.str (oI owner index point o q l).1,.int .i64 (oI owner index point o q l).2]) G') :
  al P iN.n [.int .i64 owner,.int .i64 index,.agg (point.map u8v),gH o q v] G Q:=by
 obtain⟨hv1,hv2,_⟩:=tU hl;refine iN.sound ?_;unfold iN.S;obtain⟨mI,hmI⟩:∃ m,m=(281474976710655:Int):=⟨_,rfl⟩;rw[<- hmI];have hmax:vZ=mI:=by rw[hmI];rfl
 intro i1 f1;have s1:=(Sp.nil G).row f1 (.agg (point.map u8v));intro i3 f3;have s3:=s1.row f3 (gH o q v);revert s3;generalize ak.upd _ i3 (.own (gH o q v))=G4;intro s3 J71;have hbad:qZ owner index->J71 (.bool true) G4:=by
  intro h;simp -zeta only [J71,aN];have:=hQ _ s3.ch;rw[oI,if_pos h]at this;exact this
 have hgood:¬ qZ owner index->J71 (.bool false) G4:=by
  intro h;rw[oI,if_neg h]at hQ;have ho:owner=0\/owner=1:=by
   unfold qZ at h;omega
  simp -zeta only [J71,aK];refine ae (lI hv1 hv2 (au.own (i:=0) s3 rfl)).2.2.2 ?_;refine iW.use (hl.ch' s3.ch) hok hlen fun G13 c13=>?_;have s13:=s3.tmp c13;rw[dx,aa];cases hsd:lG o q l with
  | false=>
   rw[Bool.not_false,aN];have:=hQ _ s13.ch;rw[hsd]at this;exact this
  | true=>
   rw[Bool.not_true,aK];have hl966:=qQ hsd;simp only[hsd,cond_true]at hQ;refine jV.use fun iw G16 w16 c16=>?_;have s16:=s13.new (p:=WrL iw [] 0) w16 c16;refine ae (Gt owner (by omega) (by omega)) ?_;refine wr (i:=0) s16 rfl (fun h k=>eo.use (by omega) h (by simp) k) fun G19 s19=>?_;refine wr (i:=0) s19 rfl (fun h k=>cB.use h (by simp[iH]) k) fun G21 s21=>?_;refine ae (bM hp (au.own (i:=2) s21 rfl)) ?_;refine wr (i:=0) s21 rfl (fun h k=>dG.use hp h (by simp[iH]) k) fun G24 s24=>?_;refine ae (lI hv1 hv2 (au.own (i:=1) s24 rfl)).1 ?_;refine wr (i:=0) s24 rfl (fun h k=>cB.use h (by simp[iH,hp]) k) fun G27 s27=>?_;refine ae (lI hv1 hv2 (au.own (i:=1) s27 rfl)).2.1 ?_;refine wr (i:=0) s27 rfl (fun h k=>cB.use h (by simp[iH,hp]) k) fun G30 s30=>?_;refine ae (lI hv1 hv2 (au.own (i:=1) s30 rfl)).2.2.1 ?_;have hlen':∀ G',Ch [] G [] G'->fU T G' aw v=some (.int .i64 (l.length:Nat)):=fun G' c=>by
    rw[(hl.ch' c).len (i:=b8) cy rfl,List.length_map]
   refine ae (hlen' _ s30.ch) ?_;rw[jk iD ER rfl,aa,u16_in (by omega) (by omega)];refine wr (i:=0) s30 rfl (fun h k=>fV.use (by omega) h (by simp[iH,hp]) k) fun G35 s35=>?_;refine ae (lI hv1 hv2 (au.own (i:=1) s35 rfl)).2.2.1 ?_;refine ae (hlen' _ s35.ch) ?_;intro R38 hR38;obtain⟨H,hH,hHl⟩:∃ H:List UInt8,[]++be 1 owner.toNat++be 8 (kn index)++point++be 8 (kn o)++be 8 (kn q)++be 2 l.length=H/\H.length=59:=⟨_,rfl,by simp[iH,hp]⟩;have htb:vK owner index point o q l=H++l.flatMap ba.bytes:=(by rw[<- hH];simp[vK]);rw[hH]at s35;have hfm:∀ j,((l.take j).flatMap ba.bytes).length≤49*l.length:=by
    intro j;have:∀ m:List ba,(∀ p∈m,p.ok)->(m.flatMap ba.bytes).length=49*m.length:=by
     intro m hm;induction m with
     | nil=>rfl
     | cons p m ih=>
      rw[List.flatMap_cons,List.length_append,ba.sf (hm p (by simp)),ih (fun p hp=>hm p (by simp[hp])),List.length_cons];omega
    rw[this _ (fun p hp=>hok p (List.mem_of_mem_take hp)),List.length_take];omega
   have loop:∀ (n j:Nat) (G':ak),l.length-j=n->j≤l.length->Sp [] G [WrL iw (H++(l.take j).flatMap ba.bytes) 0,au i3 (gH o q v),au i1 (.agg (point.map u8v))] G' ->
     R38 [.ptr iw [] 0,v,.int .i64 (l.length:Nat),.int .i64 (j:Int)] G':=by
    intro n;induction n with
    | zero=>
     intro j G' hn hj hs;have:j=l.length:=(by omega);subst this;rw[List.take_of_length_le (Nat.le_refl _),<- htb]at hs;refine hR38 _ _ _ _ _ ?_;rw[aM,aa,aI];refine⟨fun h=>absurd h (by omega),fun _=>?_⟩;obtain⟨F,hw⟩:=hs.get (i:=0) rfl;refine fG.use (st:=(vK owner index point o q l,0)) hw ?_;rw[K1,aa,K0,aa,if_pos rfl];exact hQ _ hs.ch
    | succ n ih=>
     intro j G' hn hj hs;obtain⟨p,hp'⟩:∃ p,l[j]?=some p:=⟨_,List.getElem?_eq_getElem (by omega)⟩;have hpo:=hok p (List.mem_of_getElem? hp');obtain⟨a,ha,hla⟩:=vj (hl.ch' hs.ch) hp';have hfj:=hfm j;refine hR38 _ _ _ _ _ ?_;rw[aM,aa,aI];refine⟨fun _=>?_,fun h=>absurd (by omega) h⟩;rw[ha,aa,hla,aa];refine jL hs eP (ba.fits hpo) (by rw[ba.sz hpo];rfl) (ba.okv p) fun i47 G49 s49=>?_;refine ae (ba.fld hpo (au.own (i:=0) s49 rfl)).1 ?_;intro J65;have h65:∀ (G55:ak) (x:Nat),x=(bif p.ours then 1 else 0)->Sp [] G [au i47 p.av,WrL iw (H++(l.take j).flatMap ba.bytes++be 1 x) 0,au i3 (gH o q v),au i1 (.agg (point.map u8v))] G55->J65 G55:=by
      intro G55 x hx s55;simp -zeta only [J65];refine ae (ba.fld hpo (au.own (i:=0) s55 rfl)).2.1 ?_;refine wr (i:=1) s55 rfl (fun h k=>cB.use h (by simp only[List.length_append,iH];omega) k) fun G58 s58=>?_;refine ae (ba.fld hpo (au.own (i:=0) s58 rfl)).2.2.1 ?_;refine wr (i:=1) s58 rfl (fun h k=>cB.use h (by simp only[List.length_append,iH];omega) k) fun G61 s61=>?_;refine ae (ba.fld hpo (au.own (i:=0) s61 rfl)).2.2.2 ?_;refine wr (i:=1) s61 rfl (fun h k=>dG.use hpo.hash h (by simp only[List.length_append,iH];omega) k) fun G64 s64=>?_;rw[bg,aa,i64_in (by omega) (by omega)];refine ih (j+1) G64 (by omega) (by omega) ?_;have e:H++(l.take (j+1)).flatMap ba.bytes=H++(l.take j).flatMap ba.bytes++be 1 x++be 8 (kn p.id)++be 8 (kn p.amount)++p.hash:=by
       rw[List.take_add_one,hp',hx];simp[ba.bytes]
      rw[e];exact s64.erase 0
     rw[gO];refine⟨fun h=>?_,fun h=>?_⟩
     ·exact wr (i:=1) (xs:=be 1 1) s49 rfl (fun h k=>eo.use (v:=1) (by omega) h (by simp only[List.length_append,iH];omega) k) fun G52 s52=>h65 G52 1 (by rw[h];rfl) s52
     ·exact wr (i:=1) (xs:=be 1 0) s49 rfl (fun h k=>eo.use (v:=0) (by omega) h (by simp only[List.length_append,iH];omega) k) fun G52 s52=>h65 G52 0 (by rw[h];rfl) s52
   exact loop _ 0 G35 rfl (by omega) (by simpa using s35)
 rw[aM,aa,aI];refine⟨fun h=>hbad (.inl h),fun h0=>?_⟩;rw[da,aa,aI];refine⟨fun h=>hbad (.inr (.inl h)),fun h1=>?_⟩;rw[aM,aa,aI];refine⟨fun h=>hbad (.inr (.inr (.inl h))),fun h2=>?_⟩;rw[da,aa];by_cases h3:mI<index
 ·rw[dT_ h3];exact hbad (.inr (.inr (.inr (by rw[hmax];exact h3))))
 ·rw[dF_ h3];refine hgood fun h=>?_;rcases h with h|h|h|h
  ·exact h0 h
  ·exact h1 h
  ·exact h2 h
  ·exact h3 (by rw[<- hmax];exact h)
end
end Go.Esc.M
namespace Go.Esc
open Go Go.RowKit
end Go.Esc
namespace Go.Esc.M
open Go Go.Esc
theorem yn:∀ {m:List ba},(∀ p∈m,p.ok)->(m.flatMap ba.bytes).length=49*m.length
 | [],_=>rfl
 | p::m,h=>by
  rw[List.flatMap_cons,List.length_append,ba.sf (h p (by simp)),yn (fun q hq=>h q (by simp[hq])),List.length_cons];omega
structure Okp (pre:List ba) (p:ba):Prop where
 id:0≤p.id
 amount:1≤p.amount
 most:p.amount≤jb
 pair:∀ q∈pre,¬ (p.ours=true/\q.ours=false)/\¬ (p.ours=q.ours/\p.id≤q.id)
def Okl:List ba->List ba->Prop
 | _,[]=>True
 | pre,p::l=>Okp pre p/\Okl (pre++[p]) l
def cnt (b:Bool) (l:List ba):Nat:=(l.filter (fun p=>p.ours == b)).length
theorem wz (b:Bool) (p:ba) (l:List ba):cnt b (p::l)=(if p.ours=b then 1 else 0)+cnt b l:=by
 unfold cnt;cases h:p.ours<;>cases b<;>simp[h]<;>omega
structure Inv (pre:List ba) (lt lf:Int) (cf:Nat):Prop where
 lt1:-1≤lt
 lf1:-1≤lf
 lt0:lt=-1\/∃ q∈pre,q.ours=true/\q.id=lt
 lf0:lf=-1\/∃ q∈pre,q.ours=false/\q.id=lf
 ltm:∀ q∈pre,q.ours=true->q.id≤lt
 lfm:∀ q∈pre,q.ours=false->q.id≤lf
 cf0:0<cf ↔ ∃ q∈pre,q.ours=false
theorem zN:∀ (l pre:List ba) (lt lf:Int) (ct cf:Nat),Inv pre lt lf cf ->
  (Okl pre l->mR lt lf ct cf l=some (ct+cnt true l,cf+cnt false l))/\(¬ Okl pre l->mR lt lf ct cf l=none)
 | [],pre,lt,lf,ct,cf,h=>⟨fun _=>by simp[mR,cnt],fun h=>absurd trivial h⟩
 | p::l,pre,lt,lf,ct,cf,h=>by
  have key:(p.amount<1\/jb<p.amount\/p.id≤(bif p.ours then lt else lf)\/(p.ours=true/\0<cf)) ↔ ¬ Okp pre p:=by
   constructor
   ·rintro (h1|h1|h1|⟨h1,h2⟩) hk
    ·have:=hk.amount;omega
    ·have:=hk.most;omega
    ·cases ho:p.ours with
     | true=>
      rw[ho,cond_true]at h1;rcases h.lt0 with h2|⟨q,hq,h3,h4⟩
      ·have:=hk.id;omega
      ·exact (hk.pair q hq).2 ⟨by rw[ho,h3],by omega⟩
     | false=>
      rw[ho,cond_false]at h1;rcases h.lf0 with h2|⟨q,hq,h3,h4⟩
      ·have:=hk.id;omega
      ·exact (hk.pair q hq).2 ⟨by rw[ho,h3],by omega⟩
    ·obtain⟨q,hq,h3⟩:=h.cf0.1 h2;exact (hk.pair q hq).1 ⟨h1,h3⟩
   ·intro hk;refine Decidable.byContradiction fun hn=>hk ?_;simp only[not_or]at hn;obtain⟨h1,h2,h3,h4⟩:=hn;have hl:=h.lt1;have hf:=h.lf1;refine⟨?_,by omega,by omega,fun q hq=>⟨fun hh=>h4 ⟨hh.1,h.cf0.2 ⟨q,hq,hh.2⟩⟩,fun hh=>?_⟩⟩
    ·cases ho:p.ours<;>simp only[ho,cond_true,cond_false]at h3<;>omega
    ·obtain⟨e,hle⟩:=hh;cases ho:p.ours with
     | true=>
      rw[ho,cond_true]at h3;have:=h.ltm q hq (by rw[<- e,ho]);omega
     | false=>
      rw[ho,cond_false]at h3;have:=h.lfm q hq (by rw[<- e,ho]);omega
  rw[mR];by_cases hk:Okp pre p
  ·have hn:¬ (p.amount<1\/jb<p.amount\/p.id≤(bif p.ours then lt else lf)\/(p.ours=true/\0<cf)):=fun h=>key.1 h hk;rw[if_neg hn];have hid:=hk.id;cases ho:p.ours with
   | true=>
    have hi':Inv (pre++[p]) p.id lf cf:=by
     refine⟨by omega,h.lf1,.inr ⟨p,by simp,ho,rfl⟩,?_,?_,?_,?_⟩
     ·rcases h.lf0 with h|⟨q,hq,hh⟩
      ·exact .inl h
      ·exact .inr ⟨q,by simp[hq],hh⟩
     ·intro q hq hqo;rcases List.mem_append.1 hq with hq|hq
      ·have:=(hk.pair q hq).2;refine Decidable.byContradiction fun hc=>this ⟨by rw[ho,hqo],by omega⟩
      ·rw[List.mem_singleton.1 hq];omega
     ·intro q hq hqo;rcases List.mem_append.1 hq with hq|hq
      ·exact h.lfm q hq hqo
      ·rw[List.mem_singleton.1 hq,ho]at hqo;cases hqo
     ·rw[h.cf0];constructor
      ·rintro⟨q,hq,hh⟩;exact⟨q,by simp[hq],hh⟩
      ·rintro⟨q,hq,hh⟩;rcases List.mem_append.1 hq with hq|hq
       ·exact⟨q,hq,hh⟩
       ·rw[List.mem_singleton.1 hq,ho]at hh;cases hh
    have ih:=zN l (pre++[p]) p.id lf (ct+1) cf hi';rw[cond_true,wz,wz,ho];refine⟨fun hh=>?_,fun hh=>ih.2 fun h2=>hh ⟨hk,h2⟩⟩;rw[ih.1 hh.2,if_pos rfl,if_neg (by simp)];congr 2<;>omega
   | false=>
    have hi':Inv (pre++[p]) lt p.id (cf+1):=by
     refine⟨h.lt1,by omega,?_,.inr ⟨p,by simp,ho,rfl⟩,?_,?_,?_⟩
     ·rcases h.lt0 with h|⟨q,hq,hh⟩
      ·exact .inl h
      ·exact .inr ⟨q,by simp[hq],hh⟩
     ·intro q hq hqo;rcases List.mem_append.1 hq with hq|hq
      ·exact h.ltm q hq hqo
      ·rw[List.mem_singleton.1 hq,ho]at hqo;cases hqo
     ·intro q hq hqo;rcases List.mem_append.1 hq with hq|hq
      ·have:=(hk.pair q hq).2;refine Decidable.byContradiction fun hc=>this ⟨by rw[ho,hqo],by omega⟩
      ·rw[List.mem_singleton.1 hq];omega
     ·exact⟨fun _=>⟨p,by simp,ho⟩,fun _=>by omega⟩
    have ih:=zN l (pre++[p]) lt p.id ct (cf+1) hi';rw[cond_false,wz,wz,ho];refine⟨fun hh=>?_,fun hh=>ih.2 fun h2=>hh ⟨hk,h2⟩⟩;rw[ih.1 hh.2,if_neg (by simp),if_pos rfl];congr 2<;>omega
  ·rw[if_pos (key.2 hk)];exact⟨fun hh=>absurd hh.1 hk,fun _=>rfl⟩
theorem MJ:Inv [] (-1) (-1) 0:=⟨by omega,by omega,.inl rfl,.inl rfl,by simp,by simp,by simp⟩
theorem Okl.split:∀ {l pre:List ba}(j:Nat),Okl pre l ↔ Okl pre (l.take j)/\Okl (pre++l.take j) (l.drop j)
 | [],pre,j=>by simp[Okl]
 | p::l,pre,0=>by simp[Okl]
 | p::l,pre,j+1=>by
  simp only[Okl,List.take_succ_cons,List.drop_succ_cons];rw[Okl.split (l:=l) (pre:=pre++[p]) j,and_assoc,List.append_assoc];rfl
theorem Okl.mem:∀ {l pre:List ba},Okl pre l->∀ p∈l,0≤p.id/\1≤p.amount/\p.amount≤jb
 | q::l,pre,h,p,hp=>by
  rcases List.mem_cons.1 hp with rfl|hp
  ·exact⟨h.1.id,h.1.amount,h.1.most⟩
  ·exact Okl.mem h.2 p hp
structure vC (o q:Int) (l:List ba):Prop where
 o0:0≤o
 o1:o≤jb
 q0:0≤q
 q1:q≤jb
 t:cnt true l≤483
 f:cnt false l≤483
 l:Okl [] l
theorem vc (o q:Int) (l:List ba):lG o q l=true ↔ vC o q l:=by
 unfold lG;simp only[Bool.and_eq_true,decide_eq_true_eq];have h:=zN l [] (-1) (-1) 0 0 MJ;constructor
 ·rintro⟨⟨⟨⟨h1,h2⟩,h3⟩,h4⟩,h5⟩;have hk:Okl [] l:=Classical.byContradiction fun hn=>by rw[h.2 hn]at h5;cases h5
  rw[h.1 hk]at h5;simp only[few,Bool.and_eq_true,decide_eq_true_eq]at h5;exact⟨h1,h2,h3,h4,by omega,by omega,hk⟩
 ·intro hs;refine⟨⟨⟨⟨hs.o0,hs.o1⟩,hs.q0⟩,hs.q1⟩,?_⟩;rw[h.1 hs.l];have:=hs.t;have:=hs.f;simp only[few,Bool.and_eq_true,decide_eq_true_eq];omega
end Go.Esc.M
namespace Go.Esc.M
open Go Go.Esc
theorem LO (b:Bool) (l:List ba):cnt b l≤l.length:=List.length_filter_le _ _
theorem JK {b:Bool}{l:List ba}{j:Nat}{p:ba}(h:l[j]?=some p):cnt b (l.take (j+1))=cnt b (l.take j)+(if p.ours=b then 1 else 0):=by
 rw[List.take_add_one,h];unfold cnt;rw[List.filter_append,List.length_append];cases ho:p.ours<;>cases b<;>simp[ho]
section
variable {F0:List AId}{G0 G:ak}{ps:List LP}{Q:ah->ak->Prop}
theorem I7 {v:ah}{l:List ba}{j f o:Nat}{p:ba}{tf:TypeId}{fi:TI}{c:ah}(h:ff 35 G v (l.map ba.av)) (hj:l[j]?=some p) (hf:[(du,0),(aq,1),(aq,2),(ar,3)][f]?=some (tf,o)) (hft:T tf=some fi) (hz:fi.size≠0)
  (hs:szs (([.bool p.ours,.int .i64 p.id,.int .i64 p.amount,.agg (p.hash.map u8v)]:List ah).take f)=o) (hc:([.bool p.ours,.int .i64 p.id,.int .i64 p.amount,.agg (p.hash.map u8v)]:List ah)[f]?=some c) (hfit:dD fi c=true) :
  ∃ a b,aO T aw v (.int .i64 (j:Int))=some a/\bt T aT a f=some b/\ag T G tf b=some c:=
 ff.fld (k:=.i64) (i:=b8) (ie:=dS) cy rfl eP rfl hf hft hz h (by rw[List.getElem?_map,hj];rfl) hs hc hfit
theorem eg.use {v:ah}{l:List ba}{b:Bool}(hl:ff 35 G v (l.map ba.av)) (hok:∀ p∈l,p.ok) (hlen:l.length≤9223372036854775807) (hQ:Q (.int .i64 (cnt b l:Nat)) G):al P eg.n [v,.bool b] G Q:=by
 refine eg.sound ?_;unfold eg.S;intro R hR;have loop:∀ (n j:Nat),l.length-j=n->j≤l.length->R [v,.bool b,.int .i64 (cnt b (l.take j):Nat),.int .i64 (j:Int)] G:=by
  intro n;induction n with
  | zero=>
   intro j hn hj;have:j=l.length:=(by omega);subst this;refine hR _ _ _ _ _ ?_;rw[hl.len (i:=b8) cy rfl,List.length_map,aa,aM,aa,aI];refine⟨fun h=>absurd h (by omega),fun _=>?_⟩;rw[List.take_length];exact hQ
  | succ n ih=>
   intro j hn hj;obtain⟨p,hp⟩:∃ p,l[j]?=some p:=⟨_,List.getElem?_eq_getElem (by omega)⟩;obtain⟨a,b',ha,hb',hla⟩:=I7 (f:=0) (o:=0) (tf:=du) (fi:=rT) hl hp rfl lL (by decide) rfl rfl rfl;have hcl:=LO b (l.take j);have hjl:(l.take j).length≤j:=List.length_take_le _ _;have ht:=JK (b:=b) hp;refine hR _ _ _ _ _ ?_;rw[hl.len (i:=b8) cy rfl,List.length_map,aa,aM,aa,aI];refine⟨fun _=>?_,fun h=>absurd (by omega) h⟩;rw[ha,aa,hb',aa,hla,aa,wU lL rfl,aa,gO];refine⟨fun h=>?_,fun h=>?_⟩
   ·rw[if_pos (by simpa using h)]at ht;rw[bg,aa,i64_in (by omega) (by omega),bg,aa,i64_in (by omega) (by omega),show ((cnt b (l.take j):Nat):Int)+1=((cnt b (l.take (j+1)):Nat):Int) by omega];exact ih (j+1) (by omega) (by omega)
   ·rw[if_neg (by simpa using h)]at ht;rw[bg,aa,i64_in (by omega) (by omega),show cnt b (l.take j)=cnt b (l.take (j+1)) by omega];exact ih (j+1) (by omega) (by omega)
 exact loop _ 0 rfl (by omega)
theorem fk.use {o q:Int}{v:ah}{l:List ba}(hl:ff 35 G v (l.map ba.av)) (hok:∀ p∈l,p.ok) (hlen:l.length≤9223372036854775807) (hQ:∀ G',Ch [] G [] G'->Q (.bool (lG o q l)) G') :
  al P fk.n [gH o q v] G Q:=by
 obtain⟨hv1,hv2,_⟩:=tU hl;refine fk.sound ?_;unfold fk.S;obtain⟨mA,hmA⟩:∃ m,m=(1152921504606846976:Int):=⟨_,rfl⟩;rw[<- hmA];have hmax:jb=mA:=by rw[hmA];rfl
 intro i1 f1;have s1:=(Sp.nil G).row f1 (gH o q v);revert s1;generalize G.upd i1 (.own (gH o q v))=G2;intro s1;obtain⟨f0,f1',f2,_⟩:=lI hv1 hv2 (au.own (i:=0) s1 rfl);intro J85;have hno:¬ vC o q l->∀ G',Ch [] G [] G'->Q (.bool false) G':=fun h G' c=>by
  have:=hQ G' c
  rwa [Bool.eq_false_iff.2 (fun hh=>h ((vc o q l).1 hh))]at this
 have hyes:vC o q l->∀ G',Ch [] G [] G'->Q (.bool true) G':=fun h G' c=>by
  have:=hQ G' c
  rwa [(vc o q l).2 h]at this
 have hbad:¬ vC o q l->J85 (.bool true) G2:=by
  intro h;simp -zeta only [J85,aN];exact hno h _ s1.ch
 have hgood:(Okl [] l->vC o q l)->J85 (.bool false) G2:=by
  intro hall;simp -zeta only [J85,aK];intro R21 hR21;have outer:∀ (n j:Nat) (G':ak),l.length-j=n->j≤l.length->Okl [] (l.take j)->Sp [] G [au i1 (gH o q v)] G'->R21 [.ptr i1 [] 0,.int .i64 (j:Int)] G':=by
   intro n;induction n with
   | zero=>
    intro j G' hn hj hk hs;have:j=l.length:=(by omega);subst this;rw[List.take_length]at hk;obtain⟨_,_,f2,_⟩:=lI hv1 hv2 (au.own (i:=0) hs rfl);refine hR21 _ _ _ ?_;show wv (ag T G' aw (.ptr i1 [2] 2)) _;rw[f2,aa,(hl.ch' hs.ch).len (i:=b8) cy rfl,List.length_map,aa,aM,aa,aI];exact⟨fun h=>absurd h (by omega),fun _=>hyes (hall hk) _ hs.ch⟩
   | succ n ih=>
    intro j G' hn hj hk hs;obtain⟨p,hp⟩:∃ p,l[j]?=some p:=⟨_,List.getElem?_eq_getElem (by omega)⟩;have hpo:=hok p (List.mem_of_getElem? hp);have hjl:j<l.length:=(by omega);obtain⟨_,_,f2,_⟩:=lI hv1 hv2 (au.own (i:=0) hs rfl);obtain⟨a,ha,hla⟩:=vj (hl.ch' hs.ch) hp;have hdr:l.drop j=p::l.drop (j+1):=by
     obtain⟨hx,rfl⟩:=List.getElem?_eq_some_iff.1 hp;exact List.drop_eq_getElem_cons hx
    have hsplit:=Okl.split (l:=l) (pre:=[]) j;rw[hdr,List.nil_append]at hsplit;have hbadp:¬ Okp (l.take j) p->¬ vC o q l:=fun h hh=>h (hsplit.1 hh.l).2.1;have hnext:Okp (l.take j) p->Okl [] (l.take (j+1)):=fun h=>by
     have h2:=(Okl.split (l:=l.take (j+1)) (pre:=[]) j);rw[h2];have e1:(l.take (j+1)).take j=l.take j:=(by rw[List.take_take,Nat.min_eq_left (by omega)]);have e2:(l.take (j+1)).drop j=[p]:=by
      rw[List.drop_take,hdr];simp
     rw[e1,e2];exact⟨hk,h,trivial⟩
    refine hR21 _ _ _ ?_;show wv (ag T G' aw (.ptr i1 [2] 2)) _;rw[f2,aa,(hl.ch' hs.ch).len (i:=b8) cy rfl,List.length_map,aa,aM,aa,aI];refine⟨fun _=>?_,fun h=>absurd (by omega) h⟩;show wv (ag T G' aw (.ptr i1 [2] 2)) _;rw[f2,aa,ha,aa,hla,aa];refine jL hs eP (ba.fits hpo) (by rw[ba.sz hpo];rfl) (ba.okv p) fun i33 G35 s35=>?_;obtain⟨k0,k1,k2,_⟩:=ba.fld hpo (au.own (i:=0) s35 rfl);intro J83;have jbad:¬ vC o q l->J83 (.bool true) G35:=by
     intro h;simp -zeta only [J83,aN];exact hno h _ s35.ch
    have jgood:(0≤p.id/\1≤p.amount/\p.amount≤jb)->J83 (.bool false) G35:=by
     intro hfine;simp -zeta only [J83,aK];intro R44 hR44;have inner:∀ (m x:Nat) (G':ak),j-x=m->x≤j->(∀ q∈l.take x,¬ (p.ours=true/\q.ours=false)/\¬ (p.ours=q.ours/\p.id≤q.id))->Sp [] G [au i33 p.av,au i1 (gH o q v)] G' ->
       R44 [.ptr i1 [] 0,.int .i64 (j:Int),.ptr i33 [] 0,.int .i64 (x:Int)] G':=by
      intro m;induction m with
      | zero=>
       intro x G' hm hx hall2 hs;have:x=j:=(by omega);subst this;refine hR44 _ _ _ _ _ ?_;rw[aM,aa,aI];refine⟨fun h=>absurd h (by omega),fun _=>?_⟩;rw[bg,aa,i64_in (by omega) (by omega)];exact ih (x+1) G' (by omega) (by omega) (hnext ⟨hfine.1,hfine.2.1,hfine.2.2,hall2⟩) (hs.erase 0)
      | succ m ihm=>
       intro x G' hm hx hall2 hs;obtain⟨y,hy⟩:∃ y,l[x]?=some y:=⟨_,List.getElem?_eq_getElem (by omega)⟩;have hyo:=hok y (List.mem_of_getElem? hy);obtain⟨_,_,f2,_⟩:=lI hv1 hv2 (au.own (i:=1) hs rfl);obtain⟨b,hb,hlb⟩:=vj (hl.ch' hs.ch) hy;have hymem:y∈l.take j:=List.mem_of_getElem? (i:=x) (by rw[List.getElem?_take_of_lt (by omega)];exact hy);refine hR44 _ _ _ _ _ ?_;rw[aM,aa,aI];refine⟨fun _=>?_,fun h=>absurd (by omega) h⟩;intro J82;show wv (ag T G' aw (.ptr i1 [2] 2)) _;rw[f2,aa,hb,aa,hlb,aa];refine jL hs eP (ba.fits hyo) (by rw[ba.sz hyo];rfl) (ba.okv y) fun i55 G57 s57=>?_;obtain⟨y0,y1,y2,_⟩:=ba.fld hyo (au.own (i:=0) s57 rfl);obtain⟨p0,p1,p2,_⟩:=ba.fld hpo (au.own (i:=1) s57 rfl);have go:¬ (p.ours=true/\y.ours=false)->¬ (p.ours=y.ours/\p.id≤y.id)->J82 G57:=by
        intro h1 h2;simp -zeta only [J82];rw[bg,aa,i64_in (by omega) (by omega)];refine ihm (x+1) G57 (by omega) (by omega) (fun q hq=>?_) (s57.erase 0);rw[List.take_add_one,hy]at hq;rcases List.mem_append.1 hq with hq|hq
        ·exact hall2 q hq
        ·have:q=y:=(by simpa using hq);subst this;exact⟨h1,h2⟩
       have stop:((p.ours=true/\y.ours=false)\/(p.ours=y.ours/\p.id≤y.id))->Q (.bool false) G57:=fun h=>by
        refine hno (hbadp fun hk=>?_) _ s57.ch;have:=hk.pair y hymem;rcases h with h|h
        ·exact this.1 h
        ·exact this.2 h
       have tail:¬ (p.ours=true/\y.ours=false)->(wv (ag T G57 du (.ptr i33 [0] 0)) fun v63=>wv (ag T G57 du (.ptr i55 [0] 0)) fun v64=>wv (az T .eql du v63 v64) fun v65=>brB (some v65)
         (wv (ag T G57 aq (.ptr i55 [1] 1)) fun v66=>wv (ag T G57 aq (.ptr i33 [1] 1)) fun v68=>wv (az T .geq aq v66 v68) fun v69=>brB (some v69) (Q (.bool false) G57) (J82 G57)) (J82 G57)):=by
        intro hn;rw[p0,aa,y0,aa,wU lL rfl,aa,gO];refine⟨fun h=>?_,fun h=>go hn fun hh=>by rw[hh.1]at h;simp at h⟩;rw[y1,aa,p1,aa,fI,aa,aI];exact⟨fun h2=>stop (.inr ⟨by simpa using h,h2⟩),fun h2=>go hn fun hh=>h2 hh.2⟩
       show wv (ag T G57 du (.ptr i33 [0] 0)) _;rw[p0,aa,gO];refine⟨fun h=>?_,fun h=>?_⟩
       ·refine ae y0 ?_;rw[dx,aa,gO];refine⟨fun h2=>stop (.inl ⟨h,by simpa using h2⟩),fun h2=>tail fun hh=>by rw[hh.2]at h2;cases h2⟩
       ·exact tail fun hh=>by rw[h]at hh;cases hh.1
     exact inner _ 0 G35 rfl (by omega) (by simp) s35
    rw[k1,aa,aM,aa,aI];refine⟨fun h=>jbad (hbadp fun hk=>by have:=hk.id;omega),fun h1=>?_⟩;rw[k2,aa,aM,aa,aI];refine⟨fun h=>jbad (hbadp fun hk=>by have:=hk.amount;omega),fun h2=>?_⟩;rw[aa,da,aa];by_cases h3:mA<p.amount
    ·rw[dT_ h3];exact jbad (hbadp fun hk=>by have:=hk.most;omega)
    ·rw[dF_ h3];exact jgood ⟨by omega,by omega,by omega⟩
  exact outer _ 0 G2 rfl (by omega) trivial s1
 rw[f0,aa,aM,aa,aI];refine⟨fun h=>hbad fun hh=>by have:=hh.o0;omega,fun h0=>?_⟩;rw[aa,da,aa,aI];refine⟨fun h=>hbad fun hh=>by have:=hh.o1;omega,fun h1=>?_⟩;rw[f1',aa,aM,aa,aI];refine⟨fun h=>hbad fun hh=>by have:=hh.q0;omega,fun h2=>?_⟩;rw[aa,da,aa,aI];refine⟨fun h=>hbad fun hh=>by have:=hh.q1;omega,fun h3=>?_⟩;rw[f2,aa];refine eg.use (hl.ch' s1.ch) hok hlen ?_;rw[da,aa,aI];refine⟨fun h=>hbad fun hh=>by have:=hh.t;omega,fun h4=>?_⟩;refine ae f2 ?_;refine eg.use (hl.ch' s1.ch) hok hlen ?_;rw[da,aa];by_cases h5:(483:Int)<(cnt false l:Nat)
 ·rw[dT_ h5];exact hbad fun hh=>by have:=hh.f;omega
 ·rw[dF_ h5];exact hgood fun hk=>⟨by omega,by omega,by omega,by omega,by omega,by omega,hk⟩
theorem cH.use {bs:List UInt8}{s:ah}{v n i:Nat}(hs:Sp F0 G0 ps G) (hi:ps[i]?=some (bm 1 s (bs.map u8v))) (hn:n≤8) (hl:bs.length+n≤140737488355328) (hv:v<2 ^ 63)
  (hQ:∀ s' G',Sp F0 G0 (ps.set i (bm 1 s' ((bs++be n v).map u8v))) G'->Q s' G'):al P cH.n [s,.int .i64 (v:Int),.int .i64 (n:Int)] G Q:=by
 refine cH.sound ?_;unfold cH.S;rw[b7,aa,i64_in (by omega) (by omega)];intro R hR;have loop:∀ (m:Nat) (bs':List UInt8) (s':ah) (ps':List LP) (G':ak),m≤n->bs'++be m v=bs++be n v->bs'.length+m≤bs.length+n->ps'=ps.set i (bm 1 s' (bs'.map u8v))->i<ps.length->Sp F0 G0 ps' G'->R [s',.int .i64 (v:Int),.int .i64 ((m:Int)-1)] G':=by
  intro m;induction m with
  | zero=>
   intro bs' s' ps' G' hm he hln hps hil hs;subst hps;refine hR _ _ _ _ ?_;rw[fI,aa,aI];refine⟨fun h=>absurd h (by omega),fun _=>?_⟩;rw[be,List.append_nil]at he;subst he;exact hQ _ _ hs
  | succ m ih=>
   intro bs' s' ps' G' hm he hln hps hil hs;refine hR _ _ _ _ ?_;have ei:((m+1:Nat):Int)-1=(m:Int):=(by omega);rw[ei,fI,aa,aI];refine⟨fun _=>?_,fun h=>absurd (by omega) h⟩;rw[kP,aa,i64_in (by omega) (by omega),nB _ _ _ _ _ _ (by omega),aa,jk cu cW rfl,aa,show IntKind.i64.bits=IntKind.u64.bits from rfl,vR v m (by omega),<- nr];have hi':ps'[i]?=some (bm 1 s' (bs'.map u8v)):=(by rw[hps,List.getElem?_set_self hil]);refine wm (T:=T) (ts:=aR) (e:=cm) (si:=fJ) (ie:=gi) eC rfl cW rfl (by decide) hs hi' rfl rfl (by decide) ?_ fun s2 G2 hs2=>?_
   ·simp only[List.length_map,gi];omega
   ·rw[b7,aa,i64_in (by omega) (by omega)];refine ih (bs'++[UInt8.ofNat (v/2 ^ (8*m))]) s2 _ G2 (by omega) ?_ (by simp;omega) ?_ hil hs2
    ·rw[<- he,be];simp
    ·rw[hps,List.set_set,List.map_append];rfl
 have hil:i<ps.length:=(List.getElem?_eq_some_iff.1 hi).1;refine loop n bs s ps G (Nat.le_refl _) rfl (Nat.le_refl _) ?_ hil hs;obtain⟨hx,e⟩:=List.getElem?_eq_some_iff.1 hi;rw[<- e,List.set_getElem_self]
theorem ua {bs:List UInt8}{s:ah}{x nn:Int}{i:Nat}(n:Nat) (hnn:nn=(n:Int)) (h0:0≤x) (h1:x≤9223372036854775807) (hs:Sp F0 G0 ps G) (hi:ps[i]?=some (bm 1 s (bs.map u8v))) (hn:n≤8) (hl:bs.length+n≤140737488355328)
  (hQ:∀ s' G',Sp F0 G0 (ps.set i (bm 1 s' ((bs++be n (kn x)).map u8v))) G'->Q s' G'):al P cH.n [s,.int .i64 x,.int .i64 nn] G Q:=by
 subst hnn;have e:x=((kn x:Nat):Int)/\kn x<2 ^ 63:=by unfold kn;omega
 have:=cH.use (Q:=Q) hs hi hn hl e.2 hQ
 rwa [<- e.1]at this
theorem La {s:ah}{l hs':List UInt8}{i:Nat}{K:ah->ak->Prop}{x:ah}(hs:Sp F0 G0 ps G) (hi:ps[i]?=some (bm 1 s (l.map u8v))) (hx:gq G 1 x=some (hs'.map u8v)) (hl:l.length+hs'.length≤140737488355328)
  (hK:∀ s' G',Sp F0 G0 (ps.set i (bm 1 s' ((l++hs').map u8v))) G'->K s' G'):cn T G aR aR s x K:=by
 refine uN (T:=T) (ts:=aR) (e:=cm) (si:=fJ) (ie:=gi) (tx:=aR) (xi:=fJ) eC rfl cW rfl (by decide) eC (.inr ⟨_,rfl⟩) hs hi hx (kd _) (kM _) ?_ fun s' G' h=>hK s' G' ?_
 ·simp only[List.length_map,gi];omega
 ·rw[List.map_append];exact h
theorem HC {i:AId}{p:ba}(h:p.ok) (hg:G i=some (.own p.av)):∃ x,dV T ar (.ptr i [3] 3) none none none=some x/\gq G 1 x=some (p.hash.map u8v):=by
 have e1:T ar=some dQ:=bZ;have e2:dQ.desc=.array 32 cm:=rfl;refine⟨.slice i [3] 0 3 32 32,by simp[dV,e1,e2,cW,j8,lH,gi],?_⟩;have hh:=h.hash;have ha:lO G 1 i [3] 0 3=some (p.hash.map u8v):=by
  simp[lO,nI,hg,mQ,ba.av,sub,szs,Esc.sz,kd]
 rw[gq,ha];simp[hh,List.take_of_length_le]
theorem Fl {i:AId}{hs:List UInt8}(hl:hs.length=32) (hg:G i=some (.own (.agg (hs.map u8v)))):gq G 1 (.slice i [] 0 0 32 32)=some (hs.map u8v):=(qR hg hl).elems
theorem eV.use {owner index o q:Int}{point:List UInt8}{v:ah}{l:List ba}(hp:point.length=32) (hl:ff 35 G v (l.map ba.av)) (hok:∀ p∈l,p.ok) (hlen:l.length≤9223372036854775807)
  (hQ:∀ G',Ch [] G [] G'->Q (.tuple [.str (oI owner index point o q l).1,.int .i64 (oI owner index point o q l).2]) G') :
  al P eV.n [.int .i64 owner,.int .i64 index,.agg (point.map u8v),gH o q v] G Q:=by
 obtain⟨hv1,hv2,_⟩:=tU hl;refine eV.sound ?_;unfold eV.S;obtain⟨mI,hmI⟩:∃ m,m=(281474976710655:Int):=⟨_,rfl⟩;rw[<- hmI];have hmax:vZ=mI:=by rw[hmI];rfl
 intro i1 f1;have s1:=(Sp.nil G).row f1 (.agg (point.map u8v));intro i3 f3;have s3:=s1.row f3 (gH o q v);revert s3;generalize ak.upd _ i3 (.own (gH o q v))=G4;intro s3 J68;have hbad:qZ owner index->J68 (.bool true) G4:=by
  intro h;simp -zeta only [J68,aN];have:=hQ _ s3.ch;rw[oI,if_pos h]at this;exact this
 have hgood:¬ qZ owner index->J68 (.bool false) G4:=by
  intro h;rw[oI,if_neg h]at hQ;have ho:0≤owner/\owner≤1/\0≤index/\index≤281474976710655:=by
   unfold qZ at h;rw[hmax,hmI]at h;omega
  clear hmax hmI hbad;simp -zeta only [J68,aK];refine ae (lI hv1 hv2 (au.own (i:=0) s3 rfl)).2.2.2 ?_;refine fk.use (hl.ch' s3.ch) hok hlen fun G13 c13=>?_;have s13:=s3.tmp c13;rw[dx,aa];cases hsd:lG o q l with
  | false=>
   rw[Bool.not_false,aN];have:=hQ _ s13.ch;rw[hsd]at this;exact this
  | true=>
   rw[Bool.not_true,aK];have hl966:=qQ hsd;have hsD:=(vc _ _ _).1 hsd;have hoq:0≤o/\o≤1152921504606846976/\0≤q/\q≤1152921504606846976:=⟨hsD.o0,hsD.o1,hsD.q0,hsD.q1⟩;have hmem:∀ p∈l,0≤p.id/\1≤p.amount/\p.amount≤1152921504606846976:=fun p hp=>hsD.l.mem p hp;have hb64:∀ x:Int,0≤x->x≤9223372036854775807->x=((kn x:Nat):Int)/\kn x<2 ^ 63:=fun x h0 h1=>by
    unfold kn;omega
   simp only[hsd,cond_true]at hQ;refine ae (Gt owner (by omega) (by omega)) ?_;have eu:ah.int .u8 ((owner.toNat:Nat):Int)=u8v (UInt8.ofNat owner.toNat):=by
    rw[nr];congr 1;omega
   rw[eu];refine Df (T:=T) (ts:=aR) (e:=cm) (si:=fJ) (ie:=gi) eC rfl cW rfl s13 rfl (by decide) fun v16 G17 s17=>?_;have s17:Sp [] G [bm 1 v16 ((be 1 owner.toNat).map u8v),au i3 (gH o q v),au i1 (.agg (point.map u8v))] G17:=by
    have e:[u8v (UInt8.ofNat owner.toNat)]=(be 1 owner.toNat).map u8v:=(by simp[be]);rw[<- e];exact s17
   refine ua 8 rfl (by omega) (by omega) s17 (i:=0) rfl (by omega) (by simp[iH]) fun v18 G19 s19=>?_;rw[pk,aa];refine La (i:=0) s19 rfl (Fl hp (au.own (i:=2) s19 rfl)) (by simp[iH,hp]) fun v21 G22 s22=>?_;refine ae (lI hv1 hv2 (au.own (i:=1) s22 rfl)).1 ?_;refine ua 8 rfl (by omega) (by omega) s22 (i:=0) rfl (by omega) (by simp[iH,hp]) fun v24 G25 s25=>?_;refine ae (lI hv1 hv2 (au.own (i:=1) s25 rfl)).2.1 ?_;refine ua 8 rfl (by omega) (by omega) s25 (i:=0) rfl (by omega) (by simp[iH,hp]) fun v27 G28 s28=>?_;refine ae (lI hv1 hv2 (au.own (i:=1) s28 rfl)).2.2.1 ?_;have hlen':∀ G',Ch [] G [] G'->fU T G' aw v=some (.int .i64 (l.length:Nat)):=fun G' c=>by
    rw[(hl.ch' c).len (i:=b8) cy rfl,List.length_map]
   refine ae (hlen' _ s28.ch) ?_;refine ua 2 rfl (by omega) (by omega) s28 (i:=0) rfl (by omega) (by simp[iH,hp]) fun v31 G32 s32=>?_;have e2:kn ((l.length:Nat):Int)=l.length:=(by unfold kn;omega);rw[e2]at s32;obtain⟨H,hH,hHl⟩:∃ H:List UInt8,be 1 owner.toNat++be 8 (kn index)++point++be 8 (kn o)++be 8 (kn q)++be 2 l.length=H/\H.length=59:=⟨_,rfl,by simp[iH,hp]⟩;have htb:vK owner index point o q l=H++l.flatMap ba.bytes:=(by rw[<- hH];simp[vK]);have s32:Sp [] G [bm 1 v31 (H.map u8v),au i3 (gH o q v),au i1 (.agg (point.map u8v))] G32:=by
    rw[<- hH];exact s32
   have hfm:∀ j,((l.take j).flatMap ba.bytes).length≤49*l.length:=by
    intro j;rw[yn (fun p hp=>hok p (List.mem_of_mem_take hp)),List.length_take];omega
   intro R33 hR33;have loop:∀ (n j:Nat) (w:ah) (G':ak),l.length-j=n->j≤l.length->Sp [] G [bm 1 w ((H++(l.take j).flatMap ba.bytes).map u8v),au i3 (gH o q v),au i1 (.agg (point.map u8v))] G' ->
     R33 [.ptr i3 [] 0,w,.int .i64 (j:Int)] G':=by
    intro n;induction n with
    | zero=>
     intro j w G' hn hj hs;have:j=l.length:=(by omega);subst this;rw[List.take_of_length_le (Nat.le_refl _),<- htb]at hs;refine hR33 _ _ _ _ ?_;show wv (ag T G' aw (.ptr i3 [2] 2)) _;refine ae (lI hv1 hv2 (au.own (i:=1) hs rfl)).2.2.1 ?_;refine ae (hlen' _ hs.ch) ?_;rw[aM,aa,aI];refine⟨fun h=>absurd h (by omega),fun _=>?_⟩;rw[km (si:=fJ) (ie:=gi) (di:=iO) eC rfl cW rfl fS rfl (bm.own (i:=0) hs rfl).is,aa];exact hQ _ hs.ch
    | succ n ih=>
     intro j w G' hn hj hs;obtain⟨p,hp'⟩:∃ p,l[j]?=some p:=⟨_,List.getElem?_eq_getElem (by omega)⟩;have hpo:=hok p (List.mem_of_getElem? hp');have hpm:=hmem p (List.mem_of_getElem? hp');obtain⟨a,ha,hla⟩:=vj (hl.ch' hs.ch) hp';have hfj:=hfm j;refine hR33 _ _ _ _ ?_;show wv (ag T G' aw (.ptr i3 [2] 2)) _;refine ae (lI hv1 hv2 (au.own (i:=1) hs rfl)).2.2.1 ?_;refine ae (hlen' _ hs.ch) ?_;rw[aM,aa,aI];refine⟨fun _=>?_,fun h=>absurd (by omega) h⟩;show wv (ag T G' aw (.ptr i3 [2] 2)) _;refine ae (lI hv1 hv2 (au.own (i:=1) hs rfl)).2.2.1 ?_;rw[ha,aa,hla,aa];refine jL hs eP (ba.fits hpo) (by rw[ba.sz hpo];rfl) (ba.okv p) fun i47 G49 s49=>?_;refine ae (ba.fld hpo (au.own (i:=0) s49 rfl)).1 ?_;intro J65;have h65:∀ (x:UInt8),[x]=be 1 (bif p.ours then 1 else 0)->J65 (u8v x) G49:=by
      intro x hx;simp -zeta only [J65];refine wm (T:=T) (ts:=aR) (e:=cm) (si:=fJ) (ie:=gi) (i:=1) eC rfl cW rfl (by decide) s49 rfl rfl rfl (by decide) (by simp only[List.length_map,List.length_append,gi];omega) fun v54 G55 s55=>?_;have s55:Sp [] G [au i47 p.av,bm 1 v54 ((H++(l.take j).flatMap ba.bytes++[x]).map u8v),au i3 (gH o q v),au i1 (.agg (point.map u8v))] G55:=by
       rw[List.map_append];exact s55
      rw[hx]at s55;refine ae (ba.fld hpo (au.own (i:=0) s55 rfl)).2.1 ?_;refine ua 8 rfl (by omega) (hpo.id.2) s55 (i:=1) rfl (by omega) (by simp only[List.length_append,iH];omega) fun v57 G58 s58=>?_;refine ae (ba.fld hpo (au.own (i:=0) s58 rfl)).2.2.1 ?_;refine ua 8 rfl (by omega) (hpo.amount.2) s58 (i:=1) rfl (by omega) (by simp only[List.length_append,iH];omega) fun v60 G61 s61=>?_;obtain⟨y,hy1,hy2⟩:=HC hpo (au.own (i:=0) s61 rfl);refine ae hy1 ?_;have hph:=hpo.hash;refine La (i:=1) s61 rfl hy2 (by simp only[List.length_append,iH];omega) fun v63 G64 s64=>?_;rw[bg,aa,i64_in (by omega) (by omega)];refine ih (j+1) v63 G64 (by omega) (by omega) ?_;have e:H++(l.take (j+1)).flatMap ba.bytes=H++(l.take j).flatMap ba.bytes++be 1 (bif p.ours then 1 else 0)++be 8 (kn p.id)++be 8 (kn p.amount)++p.hash:=by
       rw[List.take_add_one,hp'];simp[ba.bytes]
      rw[e];exact s64.erase 0
     rw[gO];refine⟨fun h=>h65 1 (by rw[h];rfl),fun h=>h65 0 (by rw[h];rfl)⟩
   exact loop _ 0 v31 G32 rfl (by omega) (by simpa using s32)
 rw[aM,aa,aI];refine⟨fun h=>hbad (.inl h),fun h0=>?_⟩;rw[da,aa,aI];refine⟨fun h=>hbad (.inr (.inl h)),fun h1=>?_⟩;rw[aM,aa,aI];refine⟨fun h=>hbad (.inr (.inr (.inl h))),fun h2=>?_⟩;rw[da,aa];by_cases h3:mI<index
 ·rw[dT_ h3];exact hbad (.inr (.inr (.inr (by rw[hmax];exact h3))))
 ·rw[dF_ h3];refine hgood fun h=>?_;rcases h with h|h|h|h
  ·exact h0 h
  ·exact h1 h
  ·exact h2 h
  ·exact h3 (by rw[<- hmax];exact h)
end
end Go.Esc.M
namespace Go.Esc.M
open Go Go.Esc
structure Com where
 owner:Int
 index:Int
 point:List UInt8
 o:Int
 q:Int
 l:List ba
def Com.text (c:Com):List UInt8:=vK c.owner c.index c.point c.o c.q c.l
structure Com.Valid (c:Com):Prop where
 arg:¬ qZ c.owner c.index
 sound:lG c.o c.q c.l=true
 point:c.point.length=32
 ok:∀ p∈c.l,p.ok
section
variable {F0:List AId}{G0 G:ak}{ps:List LP}{Q:ah->ak->Prop}
theorem rd {id:AId}{st st':List UInt8×Int}{out:ah}{n:FuncId}{args:List ah}{i:Nat}{K:ah->ak->Prop}(hs:Sp F0 G0 ps G) (hi:ps[i]?=some (RdL id st))
  (huse:∀ {G:ak}{Q:ah->ak->Prop},Rd id st G->(∀ G',Rd id st' G'->Ch [id] G [id] G'->Q out G')->al P n args G Q)
  (hK:∀ G',Sp F0 G0 (ps.set i (RdL id st')) G'->K out G'):al P n args G K:=by
 refine hs.call hi (RdL id st') fun F h k=>?_;obtain⟨h,rfl⟩:=h;exact huse h fun G' r c=>hK _ (k _ _ ⟨r,rfl⟩ c)
theorem RdL.rd {id:AId}{st:List UInt8×Int}{i:Nat}(h:Sp F0 G0 ps G) (hi:ps[i]?=some (RdL id st)):Rd id st G:=by
 obtain⟨F,h,_⟩:=h.get hi;exact h
theorem GQ {i:Nat}{id:AId}{o q:Int}{v w:ah}(hs:Sp F0 G0 ps G) (hi:ps[i]?=some (au id (gH o q v))) (hv:sz v=1) (hw:sz w=1/\w.isAgg=false/\okv w=true) {K:ak->Prop}(hK:∀ G',Sp F0 G0 (ps.set i (au id (gH o q w))) G'->K G') :
  wg (aF T G aw (.ptr id [2] 2) w) K:=by
 refine fg (mG (c:=w) (u:=v) (au.own hs hi) rfl rfl cy (by simp[dD,hw.1,hw.2.1,b8,kZ.isAgg]) (by rw[hv,hw.1]) hw.2.2) ?_;exact hK _ (Sp.setRow hs hi _)
theorem rr {o q:Int}{w:ah}(hw:sz w=1/\w.isAgg=false/\okv w=true):dD lN (gH o q w)=true/\sz (gH o q w)=3/\okv (gH o q w)=true:=by
 refine⟨?_,?_,?_⟩
 ·simp[dD,gH,sz,szs,hw.1,lN,ah.isAgg,kZ.isAgg]
 ·simp[gH,sz,szs,hw.1]
 ·simp[gH,okv,mz,hw.2.2]
theorem nN {i:Nat}{id:AId}{o q o' q':Int}{v w:ah}(hs:Sp F0 G0 ps G) (hi:ps[i]?=some (au id (gH o q v))) (hv:sz v=1) (hw:sz w=1/\w.isAgg=false/\okv w=true) {K:ak->Prop}(hK:∀ G',Sp F0 G0 (ps.set i (au id (gH o' q' w))) G'->K G') :
  wg (aF T G aX (.ptr id [] 0) (gH o' q' w)) K:=by
 obtain⟨h1,h2,h3⟩:=rr (o:=o') (q:=q') hw;refine fg (ig ng (au.own hs hi) h1 (by rw[h2];simp[gH,sz,szs,hv]) h3) ?_;exact hK _ (Sp.setRow hs hi _)
theorem sq {i:Nat}{id:AId}{h h':List UInt8}(hs:Sp F0 G0 ps G) (hi:ps[i]?=some (au id (.agg (h.map u8v)))) (hl:h.length=32) (hl':h'.length=32) {K:ak->Prop}(hK:∀ G',Sp F0 G0 (ps.set i (au id (.agg (h'.map u8v)))) G'->K G') :
  wg (aF T G ar (.ptr id [] 0) (.agg (h'.map u8v))) K:=by
 refine fg (gA hl hl' (au.own hs hi)) ?_;exact hK _ (Sp.setRow hs hi _)
theorem iI {i:Nat}{id:AId}{o q:Int}{v:ah}(hs:Sp F0 G0 ps G) (hi:ps[i]?=some (au id (gH o q v))) (hv:sz v=1/\v.isAgg=false/\okv v=true) :
  ag T G aq (.ptr id [0] 0)=some (.int .i64 o)/\ag T G aq (.ptr id [1] 1)=some (.int .i64 q)/\ag T G aw (.ptr id [2] 2)=some v/\ag T G aX (.ptr id [] 0)=some (gH o q v):=
 lI hv.1 hv.2.1 (au.own hs hi)
theorem Mr {pl:Nat->Option (Nat×Nat)}(e0:pl 0=some (0,1)) (e1:pl 1=some (1,1)) (e2:pl 2=some (2,1)) (e3:pl 3=some (3,32)) {b:Bool}{m n:Int}{zh h:ah}(hz:sz zh=32) (hh:sz h=32) :
  nx pl [.bool false,.int .i64 0,.int .i64 0,zh] [(0,.bool b),(1,.int .i64 m),(2,.int .i64 n),(3,h)]=some [.bool b,.int .i64 m,.int .i64 n,h]:=by
 simp[nx,e0,e1,e2,e3,sz,szs,hh,hz]
theorem Cn {p:ba}(h:p.ok):bj T aT [(0,.bool p.ours),(1,.int .i64 p.id),(2,.int .i64 p.amount),(3,.agg (p.hash.map u8v))]=some p.av:=by
 have h1:sz (.agg (p.hash.map u8v))=32:=by rw[sz,gX (n:=1) (kd p.hash)];simp[h.hash]
 obtain⟨zh,hz,hzh⟩:∃ zh,jQ=.agg [.bool false,.int .i64 0,.int .i64 0,zh]/\sz zh=32:=⟨_,rfl,rfl⟩;have hf:=Mr (pl:=places T [(du,0),(aq,1),(aq,2),(ar,3)]) rfl rfl rfl rfl (b:=p.ours) (m:=p.id) (n:=p.amount) hzh h1;have ha:[(du,0),(aq,1),(aq,2),(ar,3)].all (fun g=>(T g.1).isSome)=true:=rfl;unfold bj;have e1:dS.desc=.struct [(du,0),(aq,1),(aq,2),(ar,3)]:=rfl;have e2:dS.zero=.agg [.bool false,.int .i64 0,.int .i64 0,zh]:=hz;simp only[eP,e1,e2,ha,if_true,hf];rfl
theorem J5:jJ=gH 0 0 .nilSlice:=rfl
theorem rl:sz .nilSlice=1/\ah.nilSlice.isAgg=false/\okv .nilSlice=true:=⟨rfl,rfl,rfl⟩
theorem Lg:(List.replicate 32 (0:UInt8)).length=32:=rfl
end
end Go.Esc.M
namespace Go.Esc.M
open Go Go.Esc
def slice (b:List UInt8) (at_ n:Nat):List UInt8:=(b.drop at_).take n
theorem LM (n:Int):I64 (IntKind.i64.wrap n):=vt.1 (wf_wrap .i64 n)
theorem IF {b:List UInt8}{at_ n:Nat}{nn:Int}(hn:nn=(n:Int)) (h:at_+n≤b.length):takes (b.drop at_,0) nn=(slice b at_ n,(b.drop (at_+n),0)):=by
 subst hn;rw[IE (by rw[List.length_drop];omega),Int.toNat_natCast,List.drop_drop];rfl
section
variable {F0:List AId}{G0 G:ak}{ps:List LP}{Q:ah->ak->Prop}
end
end Go.Esc.M
