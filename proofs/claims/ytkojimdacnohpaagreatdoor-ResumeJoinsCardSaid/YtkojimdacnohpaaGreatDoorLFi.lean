import Derived.Test.YtkojimdacnohpaaGreatDoorLUl
import Derived.Test.YtkojimdacnohpaaGreatDoorLRO
import Derived.Test.YtkojimdacnohpaaGreatDoorLHc
import Derived.Test.YtkojimdacnohpaaGreatDoorLLib
import Derived.Test.YtkojimdacnohpaaGreatDoorLCo
set_option maxHeartbeats 2000000
set_option linter.unusedSimpArgs false
set_option linter.unusedVariables false
set_option maxRecDepth 20000
namespace Go.Esc.M
open Go Go.Esc
section
variable {F0:List AId}{G0 G:ak}{ps:List LP}{Q:ah->ak->Prop}
theorem MK {v:ah}{l:List aL}{j:Nat}{p:aL}(h:ff 36 G v (l.map aL.av)) (hj:l[j]?=some p) :
  ∃ a b,aO T aj v (.int .i64 (j:Int))=some a/\bt T aG a 1=some b/\ag T G aq b=some (.int .i64 p.id):=
 jZ h hj (f:=1) rfl cu (by decide) rfl rfl rfl
theorem Mq {v:ah}{l:List aL}{j:Nat}{p:aL}(h:ff 36 G v (l.map aL.av)) (hj:l[j]?=some p) :
  ∃ a b,aO T aj v (.int .i64 (j:Int))=some a/\bt T aG a 0=some b/\ag T G ay b=some (.int .i64 p.kind):=
 jZ h hj (f:=0) rfl iD (by decide) rfl rfl rfl
end
end Go.Esc.M
namespace Go.Esc.M
open Go Go.Esc
theorem IX (a:Int) {t:TypeId}{T:Tbl}:az T .shr t (.int .i64 a) (.int .u64 30)=some (.int .i64 (a/1073741824)):=by
 rw[nB _ _ _ _ _ _ (by decide)];have h1:min (30:Int).toNat IntKind.i64.bits=30:=by decide
 have h2:(2:Int) ^ 30=1073741824:=by decide
 rw[h1,h2,Int.fdiv_eq_ediv_of_nonneg _ (by decide)]
theorem JY (a:Int) {t:TypeId}{T:Tbl}:az T .and t (.int .i64 a) (.int .i64 1073741823)=some (.int .i64 (a % 1073741824)):=by
 have:=EM a 30 (by decide);have e1:((2 ^ 30-1:Nat):Int)=1073741823:=by decide
 have e2:((2 ^ 30:Nat):Int)=1073741824:=by decide
 rw[e1,e2]at this;rw[sY,this]
theorem MF {x y:Nat}(hx:x≤1073741824) (hy:y<1073741824) {t:TypeId}{T:Tbl}:az T .or t (.int .i64 ((x*1073741824:Nat):Int)) (.int .i64 (y:Int))=some (.int .i64 ((x*1073741824+y:Nat):Int)):=by
 have hb:IntKind.i64.bits=64:=rfl;have e64:∀ z:Nat,(BitVec.ofInt 64 (z:Int)).toNat=z % 2 ^ 64:=fun z=>by rw[BitVec.ofInt_natCast,BitVec.toNat_ofNat]
 have hor:2 ^ 30*x+y=2 ^ 30*x ||| y:=Nat.two_pow_add_eq_or_of_lt hy x;have e30:(2:Nat) ^ 30=1073741824:=by decide
 have e64':(2:Nat) ^ 64=18446744073709551616:=by decide
 rw[e30,Nat.mul_comm]at hor;have hx2:x*1073741824<18446744073709551616:=by omega
 have hy2:y<18446744073709551616:=by omega
 rw[Gp,hb,BitVec.toNat_or,e64,e64,e64',Nat.mod_eq_of_lt hx2,Nat.mod_eq_of_lt hy2,<- hor,i64_in (by omega) (by omega)]
theorem Mg {x:Nat}(hx:x≤1073741824) {t:TypeId}{T:Tbl}:az T .shl t (.int .i64 (x:Int)) (.int .u64 30)=some (.int .i64 ((x*1073741824:Nat):Int)):=by
 rw[zv _ _ _ _ _ _ (by decide)];have h1:min (30:Int).toNat IntKind.i64.bits=30:=by decide
 have h2:(2:Int) ^ 30=1073741824:=by decide
 rw[h1,h2,i64_in (by omega) (by omega)];congr 2
structure Wd (n:Nat) (u l:Int):Prop where
 u1:-((n:Int)*1073741824)≤u
 u2:u≤(n:Int)*1073741824
 l1:-((n:Int)*1073741824)≤l
 l2:l≤(n:Int)*1073741824
def oD (u l:Int):Int:=u*1073741824+l
def nC (t:Int):Int:=if t<0 then -1 else if t<1152921505680588800 then t else 1152921504606846977
def AJ (t:Int):Int:=if t<0 then 0 else if t<1152921504606846976 then t else 1152921504606846976
def amt (a:Int):Prop:=0≤a/\a≤1152921504606846976
section
variable {F0:List AId}{G0 G:ak}{ps:List LP}{Q:ah->ak->Prop}
theorem dj {T':TypeId}{ti:TI}{id:AId}{a b:Int}(hg:G id=some (.own (bE a b))) (hT:T T'=some ti) (hf:dD ti (bE a b)=true) :
  ag T G aq (.ptr id [0] 0)=some (.int .i64 a)/\ag T G aq (.ptr id [1] 1)=some (.int .i64 b)/\ag T G T' (.ptr id [] 0)=some (bE a b):=
 ⟨dI (c:=.int .i64 a) hg rfl rfl rfl cu rfl,dI (c:=.int .i64 b) hg rfl rfl rfl cu rfl,cj hT hg hf⟩
theorem AP (a b:Int):bj T bO [(0,.int .i64 a),(1,.int .i64 b)]=some (bE a b):=rfl
theorem Gg:kb=bE 0 0:=rfl
theorem k7 {i:Nat}{id:AId}{a b c d:Int}(hs:Sp F0 G0 ps G) (hi:ps[i]?=some (au id (bE a b))) {K:ak->Prop}(hK:∀ G',Sp F0 G0 (ps.set i (au id (bE c d))) G'->K G'):wg (aF T G bO (.ptr id [] 0) (bE c d)) K:=by
 refine fg (ig dT (au.own hs hi) rfl rfl rfl) ?_;exact hK _ (Sp.setRow hs hi _)
theorem cS.use {n:Nat}{u l a:Int}(hw:Wd n u l) (hn:n≤1073741824) (ha:amt a) (hQ:∀ u' l' G',Ch [] G [] G'->Wd (n+1) u' l'->oD u' l'=oD u l+a->Q (bE u' l') G'):al P cS.n [bE u l,.int .i64 a] G Q:=by
 refine cS.sound ?_;unfold cS.S;rw[Gg];obtain⟨h1,h2,h3,h4⟩:=hw;obtain⟨h5,h6⟩:=ha;intro i1 f1;have s1:=(Sp.nil G).row f1 (bE u l);intro i3 f3;have s3:=s1.row f3 (bE 0 0);obtain⟨l1,l2,_⟩:=dj (au.own (i:=1) s3 rfl) dT rfl;refine ae l1 ?_;refine ae (IX a) ?_;rw[bg,i64_in (by omega) (by omega),aa];refine ae l2 ?_;refine ae (JY a) ?_;rw[bg,i64_in (by omega) (by omega),aa];refine ae (AP _ _) ?_;refine k7 (i:=0) s3 rfl fun G12 s12=>?_;refine ae (dj (au.own (i:=0) s12 rfl) dT rfl).2.2 ?_;exact hQ _ _ _ s12.ch ⟨by omega,by omega,by omega,by omega⟩ (by unfold oD;omega)
theorem ed.use {n:Nat}{u l a:Int}(hw:Wd n u l) (hn:n≤1073741824) (ha:amt a) (hQ:∀ u' l' G',Ch [] G [] G'->Wd (n+1) u' l'->oD u' l'=oD u l-a->Q (bE u' l') G'):al P ed.n [bE u l,.int .i64 a] G Q:=by
 refine ed.sound ?_;unfold ed.S;rw[Gg];obtain⟨h1,h2,h3,h4⟩:=hw;obtain⟨h5,h6⟩:=ha;intro i1 f1;have s1:=(Sp.nil G).row f1 (bE u l);intro i3 f3;have s3:=s1.row f3 (bE 0 0);obtain⟨l1,l2,_⟩:=dj (au.own (i:=1) s3 rfl) dT rfl;refine ae l1 ?_;refine ae (IX a) ?_;rw[b7,i64_in (by omega) (by omega),aa];refine ae l2 ?_;refine ae (JY a) ?_;rw[b7,i64_in (by omega) (by omega),aa];refine ae (AP _ _) ?_;refine k7 (i:=0) s3 rfl fun G12 s12=>?_;refine ae (dj (au.own (i:=0) s12 rfl) dT rfl).2.2 ?_;exact hQ _ _ _ s12.ch ⟨by omega,by omega,by omega,by omega⟩ (by unfold oD;omega)
theorem dy.use {n:Nat}{u l:Int}(hw:Wd n u l) (hn:n≤1073741824) (hQ:∀ G',Ch [] G [] G'->Q (.int .i64 (nC (oD u l))) G'):al P dy.n [bE u l] G Q:=by
 refine dy.sound ?_;unfold dy.S;obtain⟨h1,h2,h3,h4⟩:=hw;intro i1 f1;have s1:=(Sp.nil G).row f1 (bE u l);obtain⟨l1,l2,_⟩:=dj (au.own (i:=0) s1 rfl) dT rfl;refine ae l1 ?_;refine ae l2 ?_;refine ae (IX l) ?_;rw[bg,i64_in (by omega) (by omega),aa];have hQ:=hQ _ s1.ch;have ht:oD u l=(u+l/1073741824)*1073741824+l % 1073741824:=by unfold oD;omega
 unfold nC at hQ;rw[aM,aa,aI];refine⟨fun h=>?_,fun h=>?_⟩
 ·rw[if_pos (by omega)]at hQ;exact hQ
 rw[if_neg (by omega)]at hQ;rw[da,aa,aI];refine⟨fun h2=>?_,fun h2=>?_⟩
 ·rw[if_neg (by omega)]at hQ;exact hQ
 rw[if_pos (by omega)]at hQ;obtain⟨x,hx⟩:∃ x:Nat,u+l/1073741824=(x:Int):=⟨(u+l/1073741824).toNat,by omega⟩;obtain⟨y,hy⟩:∃ y:Nat,l % 1073741824=(y:Int):=⟨(l % 1073741824).toNat,by omega⟩;rw[hx]at ht h h2 ⊢;rw[hy]at ht;refine ae (Mg (by omega)) ?_;refine ae l2 ?_;refine ae (JY l) ?_;rw[hy];refine ae (MF (by omega) (by omega)) ?_;have:((x*1073741824+y:Nat):Int)=oD u l:=by rw[ht];omega
 rw[this];exact hQ
theorem y4:jn=bE 0 0:=rfl
theorem pJ (a b:Int):bj T aZ [(0,.int .i64 a),(1,.int .i64 b)]=some (bE a b):=rfl
theorem kc {i:Nat}{id:AId}{a b c d:Int}(hs:Sp F0 G0 ps G) (hi:ps[i]?=some (au id (bE a b))) {K:ak->Prop}(hK:∀ G',Sp F0 G0 (ps.set i (au id (bE c d))) G'->K G'):wg (aF T G aZ (.ptr id [] 0) (bE c d)) K:=by
 refine fg (ig ck (au.own hs hi) rfl rfl rfl) ?_;exact hK _ (Sp.setRow hs hi _)
theorem zQ {i:Nat}{id:AId}{a b d:Int}(hs:Sp F0 G0 ps G) (hi:ps[i]?=some (au id (bE a b))) {K:ak->Prop}(hK:∀ G',Sp F0 G0 (ps.set i (au id (bE a d))) G'->K G'):wg (aF T G aq (.ptr id [1] 1) (.int .i64 d)) K:=by
 refine fg (mG (c:=.int .i64 d) (u:=.int .i64 b) (au.own hs hi) rfl rfl cu rfl rfl rfl) ?_;exact hK _ (Sp.setRow hs hi _)
def wdR (t:Int):ah:=bE (t/1152921504606846976) (t % 1152921504606846976)
def small (t:Int):Prop:=-1329227995784915872903807060280344576≤t/\t≤1329227995784915872903807060280344576
theorem dO.use {t a:Int}(ht:small t) (ha:amt a) (hQ:∀ G',Ch [] G [] G'->Q (wdR (t+a)) G'):al P dO.n [wdR t,.int .i64 a] G Q:=by
 refine dO.sound ?_;unfold dO.S;rw[y4];obtain⟨h1,h2⟩:=ht;obtain⟨h5,h6⟩:=ha;unfold wdR at hQ ⊢;obtain⟨U,hU⟩:∃ U,U=t/1152921504606846976:=⟨_,rfl⟩;obtain⟨R,hR⟩:∃ R,R=t % 1152921504606846976:=⟨_,rfl⟩;rw[<- hU,<- hR];have hR1:0≤R/\R<1152921504606846976:=by omega
 have hU1:-1152921504606846977≤U/\U≤1152921504606846977:=by omega
 have htt:t=U*1152921504606846976+R:=by omega
 intro i1 f1;have s1:=(Sp.nil G).row f1 (bE U R);intro i3 f3;have s3:=s1.row f3 (bE 0 0);have fin:∀ (c d:Int) (G':ak) (ps:List LP),Sp [] G (au i3 (bE 0 0)::ps) G'->(t+a)/1152921504606846976=c->(t+a) % 1152921504606846976=d->wg (aF T G' aZ (.ptr i3 [] 0) (bE c d)) fun G10=>wv (ag T G10 aZ (.ptr i3 [] 0)) fun v11=>Q v11 G10:=by
  intro c d G' ps s hc hd;refine kc (i:=0) s rfl fun G10 s10=>?_;refine ae (dj (au.own (i:=0) s10 rfl) ck rfl).2.2 ?_;rw[hc,hd]at hQ;exact hQ _ s10.ch
 obtain⟨l1,l2,_⟩:=dj (au.own (i:=1) s3 rfl) ck rfl;rw[bB,aa,aI];refine⟨fun h=>?_,fun h=>?_⟩
 ·refine ae l1 ?_;rw[bg,i64_in (by omega) (by omega),aa];refine ae l2 ?_;refine ae (pJ _ _) ?_;exact fin _ _ _ _ s3 (by omega) (by omega)
 ·refine ae l2 ?_;rw[bg,i64_in (by omega) (by omega),aa];refine zQ (i:=1) s3 rfl fun G14 s14=>?_;obtain⟨k1,k2,k3⟩:=dj (au.own (i:=1) s14 rfl) ck rfl;refine ae k2 ?_;rw[fI,aa,aI];refine⟨fun h=>?_,fun h=>?_⟩
  ·refine ae k1 ?_;rw[bg,i64_in (by omega) (by omega),aa];refine ae k2 ?_;rw[b7,i64_in (by omega) (by omega),aa];refine ae (pJ _ _) ?_;exact fin _ _ _ _ s14 (by omega) (by omega)
  ·refine ae k3 ?_;exact fin _ _ _ _ s14 (by omega) (by omega)
theorem ek.use {t a:Int}(ht:small t) (ha:amt a) (hQ:∀ G',Ch [] G [] G'->Q (wdR (t-a)) G'):al P ek.n [wdR t,.int .i64 a] G Q:=by
 refine ek.sound ?_;unfold ek.S;rw[y4];obtain⟨h1,h2⟩:=ht;obtain⟨h5,h6⟩:=ha;unfold wdR at hQ ⊢;obtain⟨U,hU⟩:∃ U,U=t/1152921504606846976:=⟨_,rfl⟩;obtain⟨R,hR⟩:∃ R,R=t % 1152921504606846976:=⟨_,rfl⟩;rw[<- hU,<- hR];have hR1:0≤R/\R<1152921504606846976:=by omega
 have hU1:-1152921504606846977≤U/\U≤1152921504606846977:=by omega
 have htt:t=U*1152921504606846976+R:=by omega
 intro i1 f1;have s1:=(Sp.nil G).row f1 (bE U R);intro i3 f3;have s3:=s1.row f3 (bE 0 0);have fin:∀ (c d:Int) (G':ak) (ps:List LP),Sp [] G (au i3 (bE 0 0)::ps) G'->(t-a)/1152921504606846976=c->(t-a) % 1152921504606846976=d->wg (aF T G' aZ (.ptr i3 [] 0) (bE c d)) fun G10=>wv (ag T G10 aZ (.ptr i3 [] 0)) fun v11=>Q v11 G10:=by
  intro c d G' ps s hc hd;refine kc (i:=0) s rfl fun G10 s10=>?_;refine ae (dj (au.own (i:=0) s10 rfl) ck rfl).2.2 ?_;rw[hc,hd]at hQ;exact hQ _ s10.ch
 obtain⟨l1,l2,_⟩:=dj (au.own (i:=1) s3 rfl) ck rfl;rw[bB,aa,aI];refine⟨fun h=>?_,fun h=>?_⟩
 ·refine ae l1 ?_;rw[b7,i64_in (by omega) (by omega),aa];refine ae l2 ?_;refine ae (pJ _ _) ?_;exact fin _ _ _ _ s3 (by omega) (by omega)
 ·refine ae l2 ?_;rw[b7,i64_in (by omega) (by omega),aa];refine zQ (i:=1) s3 rfl fun G14 s14=>?_;obtain⟨k1,k2,k3⟩:=dj (au.own (i:=1) s14 rfl) ck rfl;refine ae k2 ?_;rw[aM,aa,aI];refine⟨fun h=>?_,fun h=>?_⟩
  ·refine ae k1 ?_;rw[b7,i64_in (by omega) (by omega),aa];refine ae k2 ?_;rw[bg,i64_in (by omega) (by omega),aa];refine ae (pJ _ _) ?_;exact fin _ _ _ _ s14 (by omega) (by omega)
  ·refine ae k3 ?_;exact fin _ _ _ _ s14 (by omega) (by omega)
theorem fM.use {t:Int}(ht:small t) (hQ:∀ G',Ch [] G [] G'->Q (.int .i64 (AJ t)) G'):al P fM.n [wdR t] G Q:=by
 refine fM.sound ?_;unfold fM.S;unfold wdR;obtain⟨U,hU⟩:∃ U,U=t/1152921504606846976:=⟨_,rfl⟩;obtain⟨R,hR⟩:∃ R,R=t % 1152921504606846976:=⟨_,rfl⟩;rw[<- hU,<- hR];intro i1 f1;have s1:=(Sp.nil G).row f1 (bE U R);obtain⟨l1,l2,_⟩:=dj (au.own (i:=0) s1 rfl) ck rfl;have hQ:=hQ _ s1.ch;unfold AJ at hQ;refine ae l1 ?_;rw[aM,aa,aI];refine⟨fun h=>?_,fun h=>?_⟩
 ·rw[if_pos (by omega)]at hQ;exact hQ
 rw[if_neg (by omega)]at hQ;refine ae l1 ?_;rw[da,aa,aI];refine⟨fun h2=>?_,fun h2=>?_⟩
 ·rw[if_neg (by omega)]at hQ;exact hQ
 rw[if_pos (by omega)]at hQ;refine ae l2 ?_;have e:ah.int .i64 R=.int .i64 t:=by
  have:R=t:=by omega
  rw[this]
 rw[e];exact hQ
end
end Go.Esc.M
namespace Go.Esc
open Go Go.RowKit
theorem hJ.gZ {n:Nat}{G:ak}{v:ah}{vs:List ah}(h:hJ n G v vs):ff n G v vs:=by
 rcases h with ⟨id,p,st,off,len,cap,rfl,_,h⟩|h
 ·exact .inl ⟨_,_,_,_,_,_,rfl,h⟩
 ·exact .inr h
theorem hJ.mv {n:Nat}{G G':ak}{E:List AId}{v:ah}{vs:List ah}(h:hJ n G v vs) (hc:Ch [] G E G'):hJ n G' v vs:=by
 rcases h with ⟨id,p,st,off,len,cap,rfl,hl,h⟩|h
 ·refine .inl ⟨_,_,_,_,_,_,rfl,hl,pO (fun j o hj=>hc.others j o hj (by simp)) h⟩
 ·exact .inr h
theorem hJ.take {T:Tbl}{t e:TypeId}{i ie:TI}(ht:T t=some i) (hd:i.desc=.slice e) (he:T e=some ie) {G:ak}{v:ah}{vs:List ah}(h:hJ ie.size G v vs) {k:IntKind}{m:Nat}{x:Int}(hx:x=(m:Int)) (hm:m≤vs.length) :
  ∃ v',dV T t v none (some (.int k x)) none=some v'/\hJ ie.size G v' (vs.take m):=by
 subst hx;rcases h with ⟨id,p,st,off,len,cap,rfl,hlc,h⟩|⟨rfl,rfl⟩
 ·obtain⟨cs,h1,h0,h2,h3,rfl,harr⟩:=mY h;have hl:((cs.drop st).take len).length=len:=by rw[List.length_take,List.length_drop];omega
  rw[hl]at hm;refine⟨.slice id p st off m cap,?_,.inl ⟨id,p,st,off,m,cap,rfl,by omega,?_⟩⟩
  ·simp only[dV,ht,hd,he];rw[pH (by omega)];simp
  ·simp only[gq,harr];rw[if_pos (by omega),List.take_take,Nat.min_eq_left hm]
 ·simp at hm;subst hm;exact⟨.nilSlice,by simp[dV,ht,hd,he,j8,lH],.inr ⟨rfl,by simp⟩⟩
def nh (es:List (Int×Int)):List (ah×ah):=es.map fun p=>(.int .i64 p.1,.int .i64 p.2)
def oy:List (Int×Int)->Int->Option Int
 | [],_=>none
 | p::es,k=>if k=p.1 then some p.2 else oy es k
theorem uk (k:Int):∀ (es:List (Int×Int)) (i:Nat),match oy es k with
  | some v=>∃ j,oA (.int .i64 k) (nh es) i=some (some (j,.int .i64 v))
  | none=>oA (.int .i64 k) (nh es) i=some none
 | [],i=>rfl
 | p::es,i=>by
  unfold oy;by_cases h:k=p.1
  ·rw[if_pos h];exact⟨i,by simp[nh,oA,uI,h]⟩
  ·rw[if_neg h];have ih:=uk k es (i+1);have e:oA (.int .i64 k) (nh (p::es)) i=oA (.int .i64 k) (nh es) (i+1):=(by simp[nh,oA,uI,h]);rw[e];exact ih
theorem wc (k:Int):∀ (es:List (Int×Int)) (a v:Int),oy (es++[(a,v)]) k=match oy es k with
  | some x=>some x
  | none=>if k=a then some v else none
 | [],a,v=>rfl
 | p::es,a,v=>by
  have ih:=wc k es a v;simp only[List.cons_append,oy];by_cases h:k=p.1
  ·rw[if_pos h,if_pos h]
  ·rw[if_neg h,if_neg h,ih]
theorem yl (es:List (Int×Int)) (a v:Int):nh es++[(.int .i64 a,.int .i64 v)]=nh (es++[(a,v)]):=by simp[nh]
end Go.Esc
namespace Go.Esc.M
open Go Go.Esc
theorem tv0 (v:ah) (e:ah):aP (.tuple [v,e]) 0=some v:=rfl
theorem tv1 (v:ah) (e:ah):aP (.tuple [v,e]) 1=some e:=rfl
def m8 (id:Int) (u:aL):Bool:=decide (u.kind≠1) && (decide (u.id=id) && dp u)
def jH (id:Int):List aL->Int
 | []=>0
 | u::l=>if m8 id u=true then u.kind else jH id l
theorem sn {id:Int}{u:aL}(h:m8 id u=true):u.kind≠0:=by
 simp only[m8,Bool.and_eq_true,decide_eq_true_eq]at h;have:=(lW h.2.2).2.2;omega
theorem qE (id:Int):∀ (a b:List aL),jH id (a++b)=if jH id a=0 then jH id b else jH id a
 | [],b=>rfl
 | u::a,b=>by
  have ih:=qE id a b;by_cases h:m8 id u=true
  ·have hk:=sn h;have e1:jH id (u::(a++b))=u.kind:=if_pos h;have e2:jH id (u::a)=u.kind:=if_pos h;rw[List.cons_append,e1,e2,if_neg hk]
  ·have e1:jH id (u::(a++b))=jH id (a++b):=if_neg h;have e2:jH id (u::a)=jH id a:=if_neg h;rw[List.cons_append,e1,e2,ih]
theorem xt {id:Int}{l:List aL}{j:Nat}{u:aL}(h:l[j]?=some u):jH id (l.take (j+1))=if jH id (l.take j)=0 then (if m8 id u=true then u.kind else 0) else jH id (l.take j):=by
 rw[List.take_add_one,h,qE];rfl
def yW (x:Int):Option Int:=if x=0 then none else some x
def cw (l:List aL) (n:Int):List aL:=l.take n.toNat
theorem mu {l:List aL}{n:Int}(h:∀ u∈l,u.ok):∀ u∈cw l n,u.ok:=fun u hu=>h u (List.mem_of_mem_take hu)
theorem jU (l:List aL) (n:Int):(cw l n).length≤l.length:=by unfold cw;rw[List.length_take];omega
def ml (test:Int->Bool) (l:List aL):List Int:=(l.filter fun u=>decide (u.kind=1) && (dp u && test u.id)).map (·.amount)
section
variable {F0:List AId}{G0 G:ak}{ps:List LP}{Q:ah->ak->Prop}
theorem D3 {es:List (Int×Int)}{mid:AId}{k:Int}(hg:G mid=some (.map (nh es))):jg T G dU (.map mid) (.int .i64 k) false=some (.int .i64 ((oy es k).getD 0)):=by
 have hf:kY iZ.desc (.int .i64 k)=true:=rfl;have h:=uk k es 0;have hd:lQ.desc=.map aq ay:=rfl;have hz:nc.zero=.int .i64 0:=rfl;simp only[jg,lk,hd,cu,iD,hf,if_true,tB,hg];cases hl:oy es k with
 | none=>rw[hl]at h;rw[h];simp[hz]
 | some v=>rw[hl]at h;obtain⟨j,h⟩:=h;rw[h];simp
theorem HE {es:List (Int×Int)}{mid:AId}{k:Int}(hg:G mid=some (.map (nh es))):jg T G dU (.map mid) (.int .i64 k) true=some (.tuple [.int .i64 ((oy es k).getD 0),.bool (oy es k).isSome]):=by
 have hf:kY iZ.desc (.int .i64 k)=true:=rfl;have h:=uk k es 0;have hd:lQ.desc=.map aq ay:=rfl;have hz:nc.zero=.int .i64 0:=rfl;simp only[jg,lk,hd,cu,iD,hf,if_true,tB,hg];cases hl:oy es k with
 | none=>rw[hl]at h;rw[h];simp[hz]
 | some v=>rw[hl]at h;obtain⟨j,h⟩:=h;rw[h];simp
theorem dq.use {v:ah}{l:List aL}(hl:ff 36 G v (l.map aL.av)) (hok:∀ u∈l,u.ok) (hlen:l.length≤1048576)
  (hQ:∀ mid es G',(∀ id,oy es id=yW (jH id l))->Sp [] G [mo mid (nh es)] G'->Q (.map mid) G'):al P dq.n [v] G Q:=by
 refine dq.sound ?_;unfold dq.S;intro mid f1;have s1:=(Sp.nil G).new (p:=mo mid (nh [])) ⟨ak.dR _ _ _,rfl⟩ (Ch.new (o:=.map []) f1);refine ae (dh (hl.ch' s1.ch)) ?_;intro R hR;have loop:∀ (m j:Nat) (es:List (Int×Int)) (G':ak),l.length-j=m->j≤l.length->(∀ id,oy es id=yW (jH id (l.take j)))->Sp [] G [mo mid (nh es)] G'->R [.map mid,v,.int .i64 (l.length:Int),.int .i64 (j:Int)] G':=by
  intro m;induction m with
  | zero=>
   intro j es G' hm hj hes sp;refine hR _ _ _ _ _ ?_;rw[aM,aa,dF_ (by omega),aK];rw[List.take_of_length_le (by omega)]at hes;exact hQ _ _ _ hes sp
  | succ m ih=>
   intro j es G' hm hj hes sp;obtain⟨u,hu⟩:∃ u,l[j]?=some u:=⟨_,List.getElem?_eq_getElem (by omega)⟩;have huo:=hok u (List.mem_of_getElem? hu);refine hR _ _ _ _ _ ?_;rw[aM,aa,dT_ (by omega),aN];have ev:az T .add ay (.int .i64 (j:Int)) (.int .i64 1)=some (.int .i64 ((j+1:Nat):Int)):=by
    rw[bg,i64_in (by omega) (by omega)];rfl
   obtain⟨a,e1,e2⟩:=nD (hl.ch' sp.ch) hu;refine ae e1 ?_;refine ae e2 ?_;refine vX sp huo fun i13 G15 s15=>?_;obtain⟨l0,l1,l2,l3,l4,l5⟩:=bF (i:=0) s15 rfl huo;refine ae l1 ?_;refine ae (HE (mo.own (i:=1) s15 rfl)) ?_;refine ae (tv0 _ _) ?_;refine ae (tv1 _ _) ?_;intro J32;have skip:∀ G26,Sp [] G [au i13 u.av,mo mid (nh es)] G26->(m8 u.id u=false\/jH u.id (l.take j)≠0)->J32 (.bool false) G26:=by
    intro G26 s26 hno;simp -zeta only [J32,aK];refine ae ev (ih (j+1) es G26 (by omega) (by omega) (fun id=>?_) (s26.erase 0));rw[hes id,xt hu];congr 1;by_cases h0:jH id (l.take j)=0
    ·rw[if_pos h0,h0];by_cases hr:m8 id u=true
     ·have hid:u.id=id:=by
       simp only[m8,Bool.and_eq_true,decide_eq_true_eq]at hr;exact hr.2.1
      subst hid;rcases hno with hno|hno
      ·rw[hr]at hno;cases hno
      ·exact absurd h0 hno
     ·rw[if_neg hr]
    ·rw[if_neg h0]
   rw[dx,aa];have hlk:=hes u.id;by_cases h0:jH u.id (l.take j)=0
   ·rw[h0]at hlk;have hlk:oy es u.id=none:=hlk;rw[hlk];show brB (some (.bool true)) _ _;rw[aN];refine ae l0 ?_;rw[cD,aa];by_cases hk:u.kind=1
    ·rw[dT_ hk,Bool.not_true,aK];exact skip _ s15 (.inl (by simp[m8,hk]))
    ·rw[dF_ hk,Bool.not_false,aN];refine ae l5 ?_;refine gj.use huo fun G25 c25=>?_;have s25:=s15.tmp c25;cases hv:dp u with
     | false=>exact skip _ s25 (.inl (by simp[m8,hv]))
     | true=>
      simp -zeta only [J32,aN];obtain⟨k0,k1,_,_,_,_⟩:=bF (i:=0) s25 rfl huo;refine ae k1 ?_;refine ae k0 ?_;have hfd:=uk u.id es 0;rw[hlk]at hfd;refine CZ (T:=T) (i:=lQ) (r:=none) lk rfl cu (mo.own (i:=1) s25 rfl) rfl hfd ?_;have s30:=Sp.tV (j:=1) s25 rfl (nh (es++[(u.id,u.kind)]));rw[<- yl]at s30;refine ae ev (ih (j+1) (es++[(u.id,u.kind)]) _ (by omega) (by omega) (fun id=>?_) ?_)
      ·rw[wc,hes id,xt hu];by_cases hz:jH id (l.take j)=0
       ·rw[if_pos hz,hz];show (if id=u.id then some u.kind else none)=_;by_cases hid:id=u.id
        ·subst hid;have hr:m8 u.id u=true:=(by simp[m8,hk,hv]);rw[if_pos rfl,if_pos hr,yW,if_neg (sn hr)]
        ·have hr:m8 id u=false:=by
          have:¬ u.id=id:=fun h=>hid h.symm;simp[m8,this]
         rw[if_neg hid,hr];rfl
       ·rw[if_neg hz];unfold yW;rw[if_neg hz]
      ·rw[<- yl];exact s30.erase 0
   ·have hlk:oy es u.id=some (jH u.id (l.take j)):=(by rw[hlk,yW,if_neg h0]);rw[hlk];show brB (some (.bool false)) _ _;rw[aK];exact skip _ s15 (.inr h0)
 exact loop l.length 0 [] _ rfl (by omega) (fun id=>rfl) s1
end
end Go.Esc.M
namespace Go.Esc.M
open Go Go.Esc
section
variable {F0:List AId}{G0 G:ak}{ps:List LP}{Q:ah->ak->Prop}
theorem dY.use {v:ah}{l:List aL}{id:Int}(hl:ff 36 G v (l.map aL.av)) (hok:∀ u∈l,u.ok) (hlen:l.length≤1048576) (hQ:∀ G',Ch [] G [] G'->Q (.int .i64 (jH id l)) G'):al P dY.n [v,.int .i64 id] G Q:=by
 refine dY.sound ?_;unfold dY.S;intro R hR;have loop:∀ (m j:Nat) (G':ak),l.length-j=m->j≤l.length->jH id (l.take j)=0->Ch [] G [] G'->R [v,.int .i64 id,.int .i64 (j:Int)] G':=by
  intro m;induction m with
  | zero=>
   intro j G' hm hj h0 hc;refine hR _ _ _ _ ?_;refine ae (dh (hl.ch' hc)) ?_;rw[aM,aa,dF_ (by omega),aK];rw[List.take_of_length_le (by omega)]at h0;rw[h0]at hQ;exact hQ _ hc
  | succ m ih=>
   intro j G' hm hj h0 hc;obtain⟨u,hu⟩:∃ u,l[j]?=some u:=⟨_,List.getElem?_eq_getElem (by omega)⟩;have huo:=hok u (List.mem_of_getElem? hu);refine hR _ _ _ _ ?_;refine ae (dh (hl.ch' hc)) ?_;rw[aM,aa,dT_ (by omega),aN];have hnx:=xt (id:=id) hu;rw[if_pos h0]at hnx;intro J25;have no:∀ G',Ch [] G [] G'->m8 id u=false->J25 (.bool false) G':=by
    intro G' hc hr;simp -zeta only [J25,aK];rw[bg,i64_in (by omega) (by omega),aa];refine ih (j+1) G' (by omega) (by omega) ?_ hc;rw[hnx,hr];rfl
   obtain⟨a,b,e1,e2,e3⟩:=Mq (hl.ch' hc) hu;refine ae e1 ?_;refine ae e2 ?_;refine ae e3 ?_;rw[cD,aa];by_cases hk:u.kind=1
   ·rw[dT_ hk,Bool.not_true,aK];exact no G' hc (by simp[m8,hk])
   ·rw[dF_ hk,Bool.not_false,aN];obtain⟨a,b,e1,e2,e3⟩:=MK (hl.ch' hc) hu;refine ae e1 ?_;refine ae e2 ?_;refine ae e3 ?_;rw[bB,aa];by_cases hid:u.id=id
    ·rw[dT_ hid,aN];obtain⟨a,e1,e2⟩:=nD (hl.ch' hc) hu;refine ae e1 ?_;refine ae e2 ?_;refine dz.use huo fun G19 c19=>?_;have c19:Ch [] G [] G19:=hc.trans c19;cases hv:dp u with
     | false=>exact no G19 c19 (by simp[m8,hv])
     | true=>
      simp -zeta only [J25,aN];obtain⟨a,b,e1,e2,e3⟩:=Mq (hl.ch' c19) hu;refine ae e1 ?_;refine ae e2 ?_;refine ae e3 ?_;have hr:m8 id u=true:=(by simp[m8,hk,hid,hv]);have he:jH id l=u.kind:=by
       have:l=l.take (j+1)++l.drop (j+1):=(List.take_append_drop _ _).symm;rw[this,qE,hnx,if_pos hr,if_neg (sn hr)]
      rw[he]at hQ;exact hQ _ c19
    ·rw[dF_ hid,aK];exact no G' hc (by simp[m8,hid])
 exact loop l.length 0 G rfl (by omega) rfl (Ch.refl _ _)
theorem vw {G G':ak}{E:List AId}{j:AId}{o:n6}(hc:Ch [] G E G') (h:G j=some o):G' j=some o:=hc.others j o h (by simp)
def kX (mine others:List aL) (fixed:Int):Nat:=(ml (fun id=>decide (jH id (cw others fixed)=0)) mine).length
end
end Go.Esc.M
namespace Go.Esc.M
open Go Go.Esc
def vM (others:List aL) (fp:Int) (id:Int):Bool:=!decide (jH id (cw others fp)=3)
def vL (mine:List aL) (fo:Int) (id:Int):Bool:=decide (jH id (cw mine fo)=2)
def Bq (b:Int):Int:=if 1152921504606846976<b then 1152921504606846976 else b
def xj (base:Int) (mine others:List aL) (fo fp:Int):Int:=
 if base<0 then 0 else AJ (Bq base-(ml (vM others fp) mine).sum+(ml (vL mine fo) others).sum)
theorem Hz {A:List Int}(h:∀ a∈A,amt a):0≤A.sum/\A.sum≤(A.length:Int)*1152921504606846976:=by
 induction A with
 | nil=>simp
 | cons a A ih=>
  obtain⟨h1,h2⟩:=ih fun x hx=>h x (by simp[hx]);obtain⟨h3,h4⟩:=h a (by simp);rw[List.sum_cons,List.length_cons];constructor
  ·omega
  ·push_cast
   omega
section
variable {F0:List AId}{G0 G:ak}{ps:List LP}{Q:ah->ak->Prop}
theorem jW {id:AId}{a b:Int}(hg:G id=some (.own (bE a b))) :
  ag T G ay (.ptr id [0] 0)=some (.int .i64 a)/\ag T G ay (.ptr id [1] 1)=some (.int .i64 b)/\ag T G aU (.ptr id [] 0)=some (bE a b):=
 ⟨dI (c:=.int .i64 a) hg rfl rfl rfl iD rfl,dI (c:=.int .i64 b) hg rfl rfl rfl iD rfl,cj cK hg rfl⟩
end
end Go.Esc.M
namespace Go.Esc.M
open Go Go.Esc
section
variable {F0:List AId}{G0 G:ak}{ps:List LP}{Q:ah->ak->Prop}
end
end Go.Esc.M
namespace Go.Esc.M
open Go Go.Esc
def gy (a b:List ba):Prop:=∀ k:Int,a.filter (fun p=>decide (p.id=k))=b.filter (fun p=>decide (p.id=k))
def fT (l:List ba):Prop:=l.Pairwise fun p q=>p.id≤q.id
theorem gy.refl (a:List ba):gy a a:=fun _=>rfl
theorem gy.symm {a b:List ba}(h:gy a b):gy b a:=fun k=>(h k).symm
theorem gy.trans {a b c:List ba}(h:gy a b) (h':gy b c):gy a c:=fun k=>(h k).trans (h' k)
theorem gy.mem {a b:List ba}(h:gy a b) {p:ba}:p∈a ↔ p∈b:=by
 have e:=h p.id;constructor
 ·intro hp;have:p∈a.filter (fun q=>decide (q.id=p.id)):=List.mem_filter.2 ⟨hp,by simp⟩;rw[e]at this;exact (List.mem_filter.1 this).1
 ·intro hp;have:p∈b.filter (fun q=>decide (q.id=p.id)):=List.mem_filter.2 ⟨hp,by simp⟩;rw[<- e]at this;exact (List.mem_filter.1 this).1
theorem gy.append {a b c d:List ba}(h:gy a b) (h':gy c d):gy (a++c) (b++d):=fun k=>by rw[List.filter_append,List.filter_append,h k,h' k]
theorem gy.swap {a b:List ba}(h:∀ p∈a,∀ q∈b,p.id≠q.id):gy (a++b) (b++a):=by
 intro k;rw[List.filter_append,List.filter_append];by_cases ha:a.filter (fun p=>decide (p.id=k))=[]
 ·rw[ha,List.nil_append,List.append_nil]
 ·have hb:b.filter (fun p=>decide (p.id=k))=[]:=by
   rw[List.filter_eq_nil_iff];intro q hq hk;obtain⟨p,hp⟩:=List.exists_mem_of_ne_nil _ ha;obtain⟨h1,h2⟩:=List.mem_filter.1 hp;have h2:=of_decide_eq_true h2;have hk:=of_decide_eq_true hk;exact h p h1 q hq (by rw[h2,hk])
  rw[hb,List.nil_append,List.append_nil]
theorem gy.cons {a b:List ba}(p:ba) (h:gy a b):gy (p::a) (p::b):=gy.append (a:=[p]) (b:=[p]) (gy.refl _) h
theorem gy.length {a b:List ba}(h:gy a b):a.length=b.length:=by
 have key:∀ (n:Nat) (a b:List ba),a.length=n->gy a b->a.length=b.length:=by
  intro n;induction n with
  | zero=>
   intro a b ha h;have:a=[]:=List.length_eq_zero_iff.1 ha;subst this;cases b with
   | nil=>rfl
   | cons p b=>exact absurd (h.mem.2 (List.mem_cons_self)) (by simp)
  | succ n ih=>
   intro a b ha h
   match a,ha with
   | p::a,ha=>
    have hp:p∈b:=h.mem.1 (by simp);have hf:=h p.id;rw[List.filter_cons,if_pos (by simp)]at hf;obtain⟨u,v,hb,hu⟩:∃ u v,b=u++p::v/\∀ q∈u,q.id≠p.id:=by
     have:∀ b:List ba,(∃ r,b.filter (fun q=>decide (q.id=p.id))=p::r)->∃ u v,b=u++p::v/\∀ q∈u,q.id≠p.id:=by
      intro b;induction b with
      | nil=>rintro⟨r,hr⟩;cases hr
      | cons x b ihb=>
       rintro⟨r,hr⟩;rw[List.filter_cons]at hr;by_cases hx:x.id=p.id
       ·rw[if_pos (by simp[hx])]at hr;injection hr with h1 h2;subst h1;exact⟨[],b,rfl,by simp⟩
       ·rw[if_neg (by simp[hx])]at hr;obtain⟨u,v,h1,h2⟩:=ihb ⟨r,hr⟩;refine⟨x::u,v,by rw[h1];rfl,fun q hq=>?_⟩;rcases List.mem_cons.1 hq with rfl|hq
        ·exact hx
        ·exact h2 q hq
     exact this b ⟨_,hf.symm⟩
    have h1:gy (u++p::v) (p::(u++v)):=by
     have:=gy.append (gy.swap (a:=u) (b:=[p]) (fun q hq r hr=>by rw[List.mem_singleton.1 hr];exact hu q hq)) (gy.refl v);simpa using this
    rw[hb]at h;have h2:gy (p::a) (p::(u++v)):=h.trans h1;have h3:gy a (u++v):=fun k=>by
     have e:=h2 k;rw[List.filter_cons,List.filter_cons]at e;by_cases hk:p.id=k
     ·rw[if_pos (by simp[hk]),if_pos (by simp[hk])]at e;injection e
     ·rw[if_neg (by simp[hk]),if_neg (by simp[hk])]at e;exact e
    have:=ih a (u++v) (by simpa using ha) h3;rw[hb];simp only[List.length_cons,List.length_append]at this ⊢;omega
 exact key _ a b rfl h
theorem zL:∀ {a b:List ba},fT a->fT b->gy a b->a=b
 | [],b,_,_,h=>by
  have:=h.length;exact (List.length_eq_zero_iff.1 this.symm).symm
 | p::a,[],_,_,h=>by
  have:=h.length;simp at this
 | p::a,q::b,ha,hb,h=>by
  have ha':=List.pairwise_cons.1 ha;have hb':=List.pairwise_cons.1 hb;have hpq:p.id=q.id:=by
   have h1:p∈q::b:=h.mem.1 (by simp);have h2:q∈p::a:=h.mem.2 (by simp);have e1:q.id≤p.id:=by
    rcases List.mem_cons.1 h1 with rfl|h1
    ·exact Int.le_refl _
    ·exact hb'.1 p h1
   have e2:p.id≤q.id:=by
    rcases List.mem_cons.1 h2 with rfl|h2
    ·exact Int.le_refl _
    ·exact ha'.1 q h2
   omega
  have hf:=h p.id;rw[List.filter_cons,List.filter_cons,if_pos (by simp),if_pos (by simp[hpq])]at hf;injection hf with h1 _;subst h1;have h3:gy a b:=fun k=>by
   have e:=h k;rw[List.filter_cons,List.filter_cons]at e;by_cases hk:p.id=k
   ·rw[if_pos (by simp[hk]),if_pos (by simp[hk])]at e;injection e
   ·rw[if_neg (by simp[hk]),if_neg (by simp[hk])]at e;exact e
  rw[zL ha'.2 hb'.2 h3]
def iG:List ba->ba->List ba
 | [],p=>[p]
 | q::l,p=>if p.id<q.id then p::q::l else q::iG l p
def kS (l:List ba):List ba:=l.foldl iG []
theorem BM (p:ba):∀ {l:List ba},fT l->gy (iG l p) (l++[p])/\fT (iG l p)
 | [],_=>⟨gy.refl _,by simp[iG,fT]⟩
 | q::l,h=>by
  have h':=List.pairwise_cons.1 h;have ih:=BM p h'.2;unfold iG;by_cases hlt:p.id<q.id
  ·rw[if_pos hlt];refine⟨?_,List.pairwise_cons.2 ⟨fun x hx=>?_,h⟩⟩
   ·have:=gy.swap (a:=[p]) (b:=q::l) (fun x hx y hy=>by
     rw[List.mem_singleton.1 hx]
     rcases List.mem_cons.1 hy with rfl|hy
     ·omega
     ·have:=h'.1 y hy;omega)
    exact this
   ·rcases List.mem_cons.1 hx with rfl|hx
    ·omega
    ·have:=h'.1 x hx;omega
  ·rw[if_neg hlt];refine⟨gy.cons q ih.1,List.pairwise_cons.2 ⟨fun x hx=>?_,ih.2⟩⟩;have:=ih.1.mem.1 hx;rcases List.mem_append.1 this with hx|hx
   ·exact h'.1 x hx
   ·rw[List.mem_singleton.1 hx];omega
theorem vP (l:List ba):gy (kS l) l/\fT (kS l):=by
 have:∀ (l acc:List ba),fT acc->gy (l.foldl iG acc) (acc++l)/\fT (l.foldl iG acc):=by
  intro l;induction l with
  | nil=>intro acc h;exact⟨by simpa using gy.refl acc,h⟩
  | cons p l ih=>
   intro acc h;obtain⟨h1,h2⟩:=BM p h;obtain⟨h3,h4⟩:=ih (iG acc p) h2;refine⟨?_,h4⟩;have:=h3.trans (gy.append h1 (gy.refl l));simpa using this
 have:=this l [] (by simp[fT]);rw[List.nil_append]at this;exact this
theorem Km {l s:List ba}(h1:gy s l) (h2:fT s):s=kS l:=zL h2 (vP l).2 (h1.trans (vP l).1.symm)
end Go.Esc.M
namespace Go.Esc.M
open Go Go.Esc
def H7 (a b:Int):Int:=if a<b then -1 else if b<a then 1 else 0
theorem wB {a b:Int}:decide (H7 a b<0)=decide (a<b):=by
 unfold H7;by_cases h:a<b
 ·rw[if_pos h,dT_ h];rfl
 ·rw[if_neg h,dF_ h];split<;>rfl
theorem Kj (A B:List ba) (u p:ba):((A++u::p::B).set (A.length+1) u).set A.length p=A++p::u::B:=by
 rw[List.set_append_right _ _ (by omega),Nat.add_sub_cancel_left,List.set_append_right _ _ (by omega),Nat.sub_self];rfl
theorem get_at (A B:List ba) (u:ba):(A++u::B)[A.length]?=some u:=by
 rw[List.getElem?_append_right (by omega),Nat.sub_self];rfl
section
variable {F0:List AId}{G0 G:ak}{ps:List LP}{Q:ah->ak->Prop}
theorem fR.use {a:Int}(hQ:Q (.bool false) G):al P fR.n [.int .i64 a] G Q:=by
 refine fR.sound ?_;unfold fR.S;rw[nz0,aa];exact hQ
theorem fH.use {a b:Int}(hQ:Q (.int .i64 (H7 a b)) G):al P fH.n [.int .i64 a,.int .i64 b] G Q:=by
 refine fH.sound ?_;unfold fH.S;refine fR.use ?_;refine fR.use ?_;rw[aK,aK];unfold H7 at hQ;rw[aM,aa,aI];refine⟨fun h=>by rwa [if_pos h]at hQ,fun h=>?_⟩;rw[if_neg h]at hQ;rw[da,aa,aI];refine⟨fun h2=>by rwa [if_pos (by omega)]at hQ,fun h2=>by rwa [if_neg (by omega)]at hQ⟩
theorem hI.use {p q:ba}(hp:p.ok) (hq:q.ok) (hQ:∀ G',Ch [] G [] G'->Q (.int .i64 (H7 p.id q.id)) G'):al P hI.n [p.av,q.av] G Q:=by
 refine hI.sound ?_;unfold hI.S;intro i1 f1;have s1:=(Sp.nil G).row f1 p.av;intro i3 f3;have s3:=s1.row f3 q.av;have hQ:=hQ _ s3.ch;refine ae (ba.fld hp (au.own (i:=1) s3 rfl)).2.1 ?_;refine ae (ba.fld hq (au.own (i:=0) s3 rfl)).2.1 ?_;exact fH.use hQ
def uF:ah:=.func (.func hI.n) [] []
theorem wA {p q:ba}{K:ah->ak->Prop}(hp:p.ok) (hq:q.ok) (hK:∀ G',Ch [] G [] G'->K (.int .i64 (H7 p.id q.id)) G'):oS P uF [p.av,q.av] G K:=hI.use hp hq hK
theorem mO {v:ah}{l:List ba}{j:Nat}{p:ba}{x:Int}(h:ff 35 G v (l.map ba.av)) (hx:x=(j:Int)) (hj:l[j]?=some p):∃ a,aO T aw v (.int .i64 x)=some a/\ag T G aT a=some p.av:=by
 subst hx;exact h.at_ (k:=.i64) (i:=b8) (ie:=dS) (T:=T) (t:=aw) (e:=aT) cy rfl eP (by rw[List.getElem?_map,hj];rfl) rfl
theorem tY {i j:Nat}{v:ah}{l:List ba}{p:ba}{x:Int}(hx:x=(j:Int)) (hs:Sp F0 G0 ps G) (hi:ps[i]?=some (bm 35 v (l.map ba.av))) (hj:j<l.length) (hp:p.ok) :
  ∃ a,aO T aw v (.int .i64 x)=some a/\∀ K:ak->Prop,(∀ G',Sp F0 G0 (ps.set i (bm 35 v ((l.set j p).map ba.av))) G'->K G')->wg (aF T G aT a p.av) K:=by
 subst hx;exact Kr hs hi hj hp
theorem D8 {v:ah}{A B:List ba}{u p:ba}{y z:Int}{K:ak->Prop}(hu:u.ok) (hp:p.ok) (hy:y=(A.length:Int)) (hz:z=((A.length+1:Nat):Int)) (hs:Sp F0 G0 (bm 35 v ((A++u::p::B).map ba.av)::ps) G)
  (hK:∀ G',Sp F0 G0 (bm 35 v ((A++p::u::B).map ba.av)::ps) G'->K G') :
  wv (aO T aw v (.int .i64 y)) fun v31=>wv (ag T G aT v31) fun v32=>wv (aO T aw v (.int .i64 z)) fun v33=>wv (ag T G aT v33) fun v34=>wv (aO T aw v (.int .i64 z)) fun v35=>wg (aF T G aT v35 v32) fun G36=>wv (aO T aw v (.int .i64 y)) fun v37=>wg (aF T G36 aT v37 v34) K:=by
 have hsl:=(bm.own (i:=0) hs rfl).is;have g1:(A++u::p::B)[A.length]?=some u:=get_at A (p::B) u;have g2:(A++u::p::B)[A.length+1]?=some p:=by
  rw[List.getElem?_append_right (by omega),Nat.add_sub_cancel_left];rfl
 obtain⟨a,e1,e2⟩:=mO hsl hy g1;refine ae e1 ?_;refine ae e2 ?_;obtain⟨b,e3,e4⟩:=mO hsl hz g2;refine ae e3 ?_;refine ae e4 ?_;obtain⟨c,e5,e6⟩:=tY (i:=0) (p:=u) hz hs rfl (by simp) hu;refine ae e5 ?_;refine e6 _ fun G36 s36=>?_;have s36:Sp F0 G0 (bm 35 v (((A++u::p::B).set (A.length+1) u).map ba.av)::ps) G36:=s36;obtain⟨d,e7,e8⟩:=tY (i:=0) (p:=p) hy s36 rfl (by simp) hp;refine ae e7 ?_;refine e8 _ fun G38 s38=>?_;have s38:Sp F0 G0 (bm 35 v ((((A++u::p::B).set (A.length+1) u).set A.length p).map ba.av)::ps) G38:=s38;rw[Kj]at s38;exact hK _ s38
theorem B5.use {v:ah}{X S Y:List ba}{a b:Int}(hok:∀ p∈X++S++Y,p.ok) (hlen:(X++S++Y).length≤1048576) (ha:a=(X.length:Int)) (hb:b=((X.length+S.length:Nat):Int)) (hs:Sp F0 G0 (bm 35 v ((X++S++Y).map ba.av)::ps) G)
  (hQ:∀ S' G',gy S' S->fT S'->Sp F0 G0 (bm 35 v ((X++S'++Y).map ba.av)::ps) G'->Q (.tuple []) G') :
  al P bh.n [v,.int .i64 a,.int .i64 b,uF] G Q:=by
 refine bh.sound ?_;unfold bh.S;subst ha hb;simp only[List.length_append]at hlen;rw[bg,i64_in (by omega) (by omega),aa];intro R hR;have loop:∀ (m j:Nat) (S0 T0:List ba) (G':ak),S.length-j=m->(j≤S.length\/j=1)->S0.length=min j S.length->gy (S0++T0) S->fT S0->Sp F0 G0 (bm 35 v ((X++(S0++T0)++Y).map ba.av)::ps) G' ->
   R [v,.int .i64 (X.length:Int),.int .i64 ((X.length+S.length:Nat):Int),uF,.int .i64 ((X.length+j:Nat):Int)] G':=by
  intro m;induction m with
  | zero=>
   intro j S0 T0 G' hm hj hl0 hst hso sp;refine hR _ _ _ _ _ _ ?_;rw[aM,aa,dF_ (by omega),aK];have hlen2:=hst.length;rw[List.length_append]at hlen2;have:T0=[]:=List.length_eq_zero_iff.1 (by omega);subst this;rw[List.append_nil]at hst sp;exact hQ _ _ hst hso sp
  | succ m ih=>
   intro j S0 T0 G' hm hj hl0 hst hso sp;have hlen2:=hst.length;rw[List.length_append]at hlen2;refine hR _ _ _ _ _ _ ?_;rw[aM,aa,dT_ (by omega),aN];cases T0 with
   | nil=>
    exfalso;rw[List.length_nil]at hlen2;omega
   | cons p T1=>
    have hmem:∀ q,q∈S0++p::T1->q.ok:=fun q hq=>hok q (by
     have:=hst.mem.1 hq
     simp[this])
    have hpo:=hmem p (by simp);intro R2 hR2;have inner:∀ (n:Nat) (U V:List ba) (G':ak),U.length=n->U++V=S0->(∀ q∈V,p.id<q.id)->Sp F0 G0 (bm 35 v ((X++(U++p::V++T1)++Y).map ba.av)::ps) G' ->
      R2 [v,.int .i64 (X.length:Int),.int .i64 ((X.length+S.length:Nat):Int),uF,.int .i64 ((X.length+j:Nat):Int),.int .i64 ((X.length+U.length:Nat):Int)] G':=by
     intro n;induction n with
     | zero=>
      intro U V G' hU hUV hV sp;have:U=[]:=List.length_eq_zero_iff.1 hU;subst this;refine hR2 _ _ _ _ _ _ _ ?_;intro J40;rw[da,aa,dF_ (by simp),aK];simp -zeta only [J40,aK];rw[bg,i64_in (by omega) (by omega),aa];have hVS:V=S0:=(by simpa using hUV);refine ih (j+1) (p::V) T1 G' (by omega) (by omega) ?_ ?_ ?_ ?_
      ·rw[List.length_cons,hVS,hl0];simp at hlen2;omega
      ·refine gy.trans ?_ hst;have:=gy.append (gy.swap (a:=[p]) (b:=V) (fun x hx y hy=>by rw[List.mem_singleton.1 hx];have:=hV y hy;omega)) (gy.refl T1);rw[hVS]at this ⊢;simpa using this
      ·exact List.pairwise_cons.2 ⟨fun q hq=>by have:=hV q hq;omega,by rw[hVS];exact hso⟩
      ·simpa using sp
     | succ n ihn=>
      intro U V G' hU hUV hV sp;obtain⟨W,u,rfl⟩:∃ W u,U=W++[u]:=⟨U.dropLast,U.getLast (by intro h;rw[h]at hU;simp at hU),(List.dropLast_concat_getLast _).symm⟩;have huo:u.ok:=hmem u (by rw[<- hUV];simp);have hWl:W.length=n:=(by simpa using hU);have hUl:(W++[u]).length=W.length+1:=(by simp);have e0:X++(W++[u]++p::V++T1)++Y=(X++W)++u::p::(V++T1++Y):=(by simp);rw[e0]at sp;have hsl:=(bm.own (i:=0) sp rfl).is;have g1:((X++W)++u::p::(V++T1++Y))[X.length+W.length]?=some u:=by
       have:=get_at (X++W) (p::(V++T1++Y)) u
       rwa [List.length_append]at this
      have g2:((X++W)++u::p::(V++T1++Y))[X.length+W.length+1]?=some p:=by
       rw[List.getElem?_append_right (by rw[List.length_append];omega),List.length_append,Nat.add_sub_cancel_left];rfl
      rw[hUl];have hjw:W.length+1≤S.length:=by
       have:=congrArg List.length hUV;simp at this;omega
      refine hR2 _ _ _ _ _ _ _ ?_;intro J40;rw[da,aa,dT_ (by omega),aN];obtain⟨c1,e1,e2⟩:=mO (x:=((X.length+(W.length+1):Nat):Int)) hsl (by omega) g2;refine ae e1 ?_;refine ae e2 ?_;rw[b7,i64_in (by omega) (by omega),aa];obtain⟨c2,e3,e4⟩:=mO (x:=((X.length+(W.length+1):Nat):Int)-1) hsl (by omega) g1;refine ae e3 ?_;refine ae e4 ?_;refine wA hpo huo fun G25 c25=>?_;have s25:=sp.tmp c25;rw[aM,aa,wB];by_cases hlt:p.id<u.id
      ·rw[dT_ hlt];simp -zeta only [J40,aN];rw[b7,i64_in (by omega) (by omega),aa,aa];refine D8 (A:=X++W) (B:=V++T1++Y) huo hpo (by rw[List.length_append];omega) (by rw[List.length_append];omega) s25 fun G38 s38=>?_;rw[aa];have e5:(X++W)++p::u::(V++T1++Y)=X++(W++p::(u::V)++T1)++Y:=(by simp);rw[e5]at s38;have:=ihn W (u::V) G38 hWl (by rw[<- hUV];simp) (fun q hq=>by
        rcases List.mem_cons.1 hq with rfl|hq
        ·exact hlt
        ·exact hV q hq) s38
       have e6:((X.length+(W.length+1):Nat):Int)-1=((X.length+W.length:Nat):Int):=(by omega);rw[e6];exact this
      ·rw[dF_ hlt];simp -zeta only [J40,aK];rw[bg,i64_in (by omega) (by omega),aa];have e5:(X++W)++u::p::(V++T1++Y)=X++((W++[u]++p::V)++T1)++Y:=(by simp);rw[e5]at s25;have hs0:fT (W++[u]++V):=(by rw[hUV];exact hso);have hWu:∀ q∈W++[u],q.id≤u.id:=by
        intro q hq;rcases List.mem_append.1 hq with hq|hq
        ·unfold fT at hs0;rw[List.append_assoc,List.pairwise_append]at hs0;exact hs0.2.2 q hq u (by simp)
        ·rw[List.mem_singleton.1 hq];exact Int.le_refl _
       refine ih (j+1) (W++[u]++p::V) T1 G25 (by omega) (by omega) ?_ ?_ ?_ s25
       ·have:=congrArg List.length hUV;simp at this hlen2 ⊢;omega
       ·refine gy.trans ?_ hst;have:=gy.append (gy.refl (W++[u])) (gy.append (gy.swap (a:=[p]) (b:=V) (fun x hx y hy=>by rw[List.mem_singleton.1 hx];have:=hV y hy;omega)) (gy.refl T1));rw[<- hUV];simpa using this
       ·unfold fT at hs0 ⊢;rw[List.pairwise_append]at hs0 ⊢;refine⟨hs0.1,List.pairwise_cons.2 ⟨fun q hq=>by have:=hV q hq;omega,hs0.2.1⟩,fun x hx y hy=>?_⟩;rcases List.mem_cons.1 hy with rfl|hy
        ·have:=hWu x hx;omega
        ·exact hs0.2.2 x hx y hy
    have:=inner S0.length S0 [] G' rfl (by simp) (by simp) (by simpa using sp);have ej:((X.length+j:Nat):Int)=((X.length+S0.length:Nat):Int):=(by rw[hl0];simp at hlen2;omega);rw[ej]at this ⊢;exact this
 have e1:((X.length:Int)+1)=((X.length+1:Nat):Int):=by omega
 rw[e1];cases S with
 | nil=>exact loop 0 1 [] [] G rfl (by simp) (by simp) (gy.refl _) (by simp[fT]) hs
 | cons p S=>exact loop S.length 1 [p] S G (by simp) (by simp) (by simp) (gy.refl _) (by simp[fT]) (by simpa using hs)
end
end Go.Esc.M
namespace Go.Esc.M
open Go Go.Esc
theorem IJ (A B C:List ba) (u v:ba):((A++u::(B++v::C)).set A.length v).set (A.length+(B.length+1)) u=A++v::(B++u::C):=by
 rw[List.set_append_right _ _ (by omega),Nat.sub_self,List.set_cons_zero,List.set_append_right _ _ (by omega),Nat.add_sub_cancel_left,List.set_cons_succ,List.set_append_right _ _ (by omega),Nat.sub_self,List.set_cons_zero]
section
variable {F0:List AId}{G0 G:ak}{ps:List LP}{Q:ah->ak->Prop}
theorem xf.use {v:ah}{X U M V Y:List ba}{a b n:Int}{f:ah}(hok:∀ p∈X++(U++(M++(V++Y))),p.ok) (hlen:(X++(U++(M++(V++Y)))).length≤1048576) (hUV:U.length=V.length) (ha:a=(X.length:Int)) (hb:b=((X.length+(U.length+M.length):Nat):Int)) (hn:n=(U.length:Int))
  (hs:Sp F0 G0 (bm 35 v ((X++(U++(M++(V++Y)))).map ba.av)::ps) G)
  (hQ:∀ G',Sp F0 G0 (bm 35 v ((X++(V++(M++(U++Y)))).map ba.av)::ps) G'->Q (.tuple []) G') :
  al P bA.n [v,.int .i64 a,.int .i64 b,.int .i64 n,f] G Q:=by
 refine bA.sound ?_;unfold bA.S;subst ha hb hn;simp only[List.length_append]at hlen;intro R hR;have loop:∀ (U2 V2 U1 V1:List ba) (G':ak),U=U1++U2->V=V1++V2->U2.length=V2.length->Sp F0 G0 (bm 35 v ((X++((V1++U2)++(M++((U1++V2)++Y)))).map ba.av)::ps) G' ->
   R [v,.int .i64 (X.length:Int),.int .i64 ((X.length+(U.length+M.length):Nat):Int),.int .i64 (U.length:Int),.int .i64 (U1.length:Int)] G':=by
  intro U2;induction U2 with
  | nil=>
   intro V2 U1 V1 G' hU hV hl sp;have hV2:V2=[]:=List.length_eq_zero_iff.1 (by simpa using hl.symm);subst hV2;rw[List.append_nil]at hU hV;subst hU hV;refine hR _ _ _ _ _ _ ?_;rw[aM,aa,dF_ (by omega),aK];refine hQ _ ?_;simpa using sp
  | cons u U2 ih=>
   intro V2 U1 V1 G' hU hV hl sp;cases V2 with
   | nil=>simp at hl
   | cons w V2=>
    have hUl:=congrArg List.length hU;have hVl:=congrArg List.length hV;simp only[List.length_append,List.length_cons]at hUl hVl hl;have huo:u.ok:=hok u (by rw[hU];simp);have hwo:w.ok:=hok w (by rw[hV];simp);refine hR _ _ _ _ _ _ ?_;rw[aM,aa,dT_ (by omega),aN];rw[bg,i64_in (by omega) (by omega),aa];rw[bg,i64_in (by omega) (by omega),aa,aa];have e0:X++((V1++u::U2)++(M++((U1++w::V2)++Y)))=(X++V1)++u::((U2++M++U1)++w::(V2++Y)):=(by simp);rw[e0]at sp;have hA:(X++V1).length=X.length+U1.length:=(by rw[List.length_append];omega);have hB:(U2++M++U1).length=U2.length+M.length+U1.length:=(by simp;omega);have hsl:=(bm.own (i:=0) sp rfl).is;have g1:=get_at (X++V1) ((U2++M++U1)++w::(V2++Y)) u;have g2:((X++V1)++u::((U2++M++U1)++w::(V2++Y)))[(X++V1).length+((U2++M++U1).length+1)]?=some w:=by
     rw[List.getElem?_append_right (by omega),Nat.add_sub_cancel_left,List.getElem?_cons_succ];exact get_at (U2++M++U1) (V2++Y) w
    obtain⟨p1,e1,e2⟩:=mO (x:=((X.length+(U.length+M.length):Nat):Int)+(U1.length:Int)) hsl (by rw[hA,hB];omega) g2;refine ae e1 ?_;refine ae e2 ?_;rw[aa];obtain⟨p2,e3,e4⟩:=mO (x:=(X.length:Int)+(U1.length:Int)) hsl (by rw[hA];omega) g1;refine ae e3 ?_;refine ae e4 ?_;obtain⟨p3,e5,e6⟩:=tY (i:=0) (p:=w) (j:=(X++V1).length) (x:=(X.length:Int)+(U1.length:Int)) (by rw[hA];omega) sp rfl (by simp) hwo;refine ae e5 ?_;refine e6 _ fun G18 s18=>?_;have s18:Sp F0 G0 (bm 35 v ((((X++V1)++u::((U2++M++U1)++w::(V2++Y))).set (X++V1).length w).map ba.av)::ps) G18:=s18;obtain⟨p4,e7,e8⟩:=tY (i:=0) (p:=u) (j:=(X++V1).length+((U2++M++U1).length+1)) (x:=((X.length+(U.length+M.length):Nat):Int)+(U1.length:Int)) (by rw[hA,hB];omega) s18 rfl (by simp;omega) huo;refine ae e7 ?_;refine e8 _ fun G20 s20=>?_;have s20:Sp F0 G0 (bm 35 v (((((X++V1)++u::((U2++M++U1)++w::(V2++Y))).set (X++V1).length w).set ((X++V1).length+((U2++M++U1).length+1)) u).map ba.av)::ps) G20:=s20;rw[IJ]at s20;rw[bg,i64_in (by omega) (by omega),aa];have e9:(X++V1)++w::((U2++M++U1)++u::(V2++Y))=X++(((V1++[w])++U2)++(M++(((U1++[u])++V2)++Y))):=(by simp);rw[e9]at s20;have:=ih V2 (U1++[u]) (V1++[w]) G20 (by rw[hU];simp) (by rw[hV];simp) (by omega) s20;have e10:((U1++[u]).length:Int)=(U1.length:Int)+1:=(by simp);rw[e10]at this;exact this
 exact loop U V [] [] G rfl rfl hUV (by simpa using hs)
theorem rotate.use {v:ah}{X U V Y:List ba}{a m b:Int}{f:ah}(hok:∀ p∈X++(U++(V++Y)),p.ok) (hlen:(X++(U++(V++Y))).length≤1048576) (hU:U≠[]) (hV:V≠[]) (ha:a=(X.length:Int)) (hm:m=((X.length+U.length:Nat):Int)) (hb:b=((X.length+U.length+V.length:Nat):Int))
  (hs:Sp F0 G0 (bm 35 v ((X++(U++(V++Y))).map ba.av)::ps) G)
  (hQ:∀ G',Sp F0 G0 (bm 35 v ((X++(V++(U++Y))).map ba.av)::ps) G'->Q (.tuple []) G') :
  al P bK.n [v,.int .i64 a,.int .i64 m,.int .i64 b,f] G Q:=by
 refine bK.sound ?_;unfold bK.S;subst ha hm hb;simp only[List.length_append]at hlen;have hU1:0<U.length:=List.length_pos_iff.2 hU;have hV1:0<V.length:=List.length_pos_iff.2 hV;rw[b7,i64_in (by omega) (by omega),aa];rw[b7,i64_in (by omega) (by omega),aa];intro R hR;have loop:∀ (n:Nat) (A Pp Rr B:List ba) (G':ak),Pp.length+Rr.length≤n->0<Pp.length->0<Rr.length->A.length+Pp.length=U.length->A++(Rr++(Pp++B))=V++U->(∀ p∈A++(Pp++(Rr++B)),p.ok) ->
   Sp F0 G0 (bm 35 v ((X++(A++(Pp++(Rr++(B++Y))))).map ba.av)::ps) G'->R [v,.int .i64 ((X.length+U.length:Nat):Int),f,.int .i64 (Pp.length:Int),.int .i64 (Rr.length:Int)] G':=by
  intro n;induction n with
  | zero=>intro A Pp Rr B G' hn h1 h2;omega
  | succ n ih=>
   intro A Pp Rr B G' hn h1 h2 hA ht ho sp;have htl:=congrArg List.length ht;simp only[List.length_append]at htl;have hYo:∀ p∈Y,p.ok:=fun p hp=>hok p (by simp[hp]);have hXo:∀ p∈X,p.ok:=fun p hp=>hok p (by simp[hp]);refine hR _ _ _ _ _ _ ?_;rw[cD,aa];by_cases he:(Pp.length:Int)=(Rr.length:Int)
   ·rw[dT_ he,Bool.not_true,aK];rw[b7,i64_in (by omega) (by omega),aa];have e0:X++(A++(Pp++(Rr++(B++Y))))=(X++A)++(Pp++([]++(Rr++(B++Y)))):=(by simp);rw[e0]at sp;refine xf.use (X:=X++A) (U:=Pp) (M:=[]) (V:=Rr) (Y:=B++Y) ?_ ?_ (by omega) ?_ ?_ rfl sp fun G30 s30=>?_
    ·intro p hp;simp only[List.mem_append]at hp ho hXo hYo;rcases hp with (h|h)|h|h|h|h|h
     ·exact hXo p h
     ·exact ho p (.inl h)
     ·exact ho p (.inr (.inl h))
     ·cases h
     ·exact ho p (.inr (.inr (.inl h)))
     ·exact ho p (.inr (.inr (.inr h)))
     ·exact hYo p h
    ·simp only[List.length_append,List.length_nil];omega
    ·rw[List.length_append];omega
    ·simp only[List.length_append,List.length_nil];omega
    ·refine hQ _ ?_;have e1:(X++A)++(Rr++([]++(Pp++(B++Y))))=X++((A++(Rr++(Pp++B)))++Y):=(by simp);rw[e1,ht]at s30;simpa using s30
   ·rw[dF_ he,Bool.not_false,aN];rw[da,aa,aI];refine⟨fun hgt=>?_,fun hle=>?_⟩
    ·rw[b7,i64_in (by omega) (by omega),aa];have hsp:Pp=Pp.take Rr.length++Pp.drop Rr.length:=(List.take_append_drop _ _).symm;obtain⟨P1,hP1⟩:∃ x,x=Pp.take Rr.length:=⟨_,rfl⟩;obtain⟨P2,hP2⟩:∃ x,x=Pp.drop Rr.length:=⟨_,rfl⟩;rw[<- hP1,<- hP2]at hsp;have hl1:P1.length=Rr.length:=(by rw[hP1,List.length_take];omega);have hl2:P2.length=Pp.length-Rr.length:=(by rw[hP2,List.length_drop]);have hl3:Pp.length=P1.length+P2.length:=(by omega);have e0:X++(A++(Pp++(Rr++(B++Y))))=(X++A)++(P1++(P2++(Rr++(B++Y)))):=(by rw[hsp];simp);rw[e0]at sp;rw[hsp]at ho ht;refine xf.use (X:=X++A) (U:=P1) (M:=P2) (V:=Rr) (Y:=B++Y) ?_ ?_ hl1 ?_ ?_ (by omega) sp fun G14 s14=>?_
     ·intro p hp;simp only[List.mem_append]at hp ho hXo hYo;rcases hp with (h|h)|h|h|h|h|h
      ·exact hXo p h
      ·exact ho p (.inl h)
      ·exact ho p (.inr (.inl (.inl h)))
      ·exact ho p (.inr (.inl (.inr h)))
      ·exact ho p (.inr (.inr (.inl h)))
      ·exact ho p (.inr (.inr (.inr h)))
      ·exact hYo p h
     ·simp only[List.length_append];omega
     ·rw[List.length_append];omega
     ·simp only[List.length_append];omega
     ·rw[b7,i64_in (by omega) (by omega),aa];have e1:(X++A)++(Rr++(P2++(P1++(B++Y))))=X++((A++Rr)++(P2++(P1++(B++Y)))):=(by simp);rw[e1]at s14;have:=ih (A++Rr) P2 P1 B G14 (by omega) (by omega) (by omega) (by rw[List.length_append];omega) (by rw[<- ht];simp) (by
       intro p hp
       simp only[List.mem_append]at hp ho
       rcases hp with (h|h)|h|h|h
       ·exact ho p (.inl h)
       ·exact ho p (.inr (.inr (.inl h)))
       ·exact ho p (.inr (.inl (.inr h)))
       ·exact ho p (.inr (.inl (.inl h)))
       ·exact ho p (.inr (.inr (.inr h)))) s14
      have e2:(Pp.length:Int)-(Rr.length:Int)=(P2.length:Int):=(by omega);rw[e2,<- hl1];exact this
    ·rw[b7,i64_in (by omega) (by omega),aa];rw[bg,i64_in (by omega) (by omega),aa];rw[b7,i64_in (by omega) (by omega),aa];have hsp:Rr=Rr.take (Rr.length-Pp.length)++Rr.drop (Rr.length-Pp.length):=(List.take_append_drop _ _).symm;obtain⟨R1,hR1⟩:∃ x,x=Rr.take (Rr.length-Pp.length):=⟨_,rfl⟩;obtain⟨R2,hR2⟩:∃ x,x=Rr.drop (Rr.length-Pp.length):=⟨_,rfl⟩;rw[<- hR1,<- hR2]at hsp;have hl1:R1.length=Rr.length-Pp.length:=(by rw[hR1,List.length_take];omega);have hl2:R2.length=Pp.length:=(by rw[hR2,List.length_drop];omega);have hl3:Rr.length=R1.length+R2.length:=(by omega);have e0:X++(A++(Pp++(Rr++(B++Y))))=(X++A)++(Pp++(R1++(R2++(B++Y)))):=(by rw[hsp];simp);rw[e0]at sp;rw[hsp]at ho ht;refine xf.use (X:=X++A) (U:=Pp) (M:=R1) (V:=R2) (Y:=B++Y) ?_ ?_ hl2.symm ?_ ?_ rfl sp fun G20 s20=>?_
     ·intro p hp;simp only[List.mem_append]at hp ho hXo hYo;rcases hp with (h|h)|h|h|h|h|h
      ·exact hXo p h
      ·exact ho p (.inl h)
      ·exact ho p (.inr (.inl h))
      ·exact ho p (.inr (.inr (.inl (.inl h))))
      ·exact ho p (.inr (.inr (.inl (.inr h))))
      ·exact ho p (.inr (.inr (.inr h)))
      ·exact hYo p h
     ·simp only[List.length_append];omega
     ·rw[List.length_append];omega
     ·simp only[List.length_append];omega
     ·rw[b7,i64_in (by omega) (by omega),aa];have e1:(X++A)++(R2++(R1++(Pp++(B++Y))))=X++(A++(R2++(R1++((Pp++B)++Y)))):=(by simp);rw[e1]at s20;have:=ih A R2 R1 (Pp++B) G20 (by omega) (by omega) (by omega) (by omega) (by rw[<- ht];simp) (by
       intro p hp
       simp only[List.mem_append]at hp ho
       rcases hp with h|h|h|h|h
       ·exact ho p (.inl h)
       ·exact ho p (.inr (.inr (.inl (.inr h))))
       ·exact ho p (.inr (.inr (.inl (.inl h))))
       ·exact ho p (.inr (.inl h))
       ·exact ho p (.inr (.inr (.inr h)))) s20
      have e2:(Rr.length:Int)-(Pp.length:Int)=(R1.length:Int):=(by omega);rw[e2,<- hl2];exact this
 have e1:((X.length+U.length:Nat):Int)-(X.length:Int)=(U.length:Int):=by omega
 have e2:((X.length+U.length+V.length:Nat):Int)-((X.length+U.length:Nat):Int)=(V.length:Int):=by omega
 rw[e1,e2];refine loop (U.length+V.length) [] U V [] G (Nat.le_refl _) hU1 hV1 (by simp) (by simp) (fun p hp=>hok p (by simp at hp ⊢;rcases hp with h | h<;>simp[h])) (by simpa using hs)
end
end Go.Esc.M
namespace Go.Esc.M
open Go Go.Esc
theorem o6 {B:List ba}(h:fT B) {i j:Nat}{x y:ba}(hij:i≤j) (hi:B[i]?=some x) (hj:B[j]?=some y):x.id≤y.id:=by
 obtain⟨h1,rfl⟩:=List.getElem?_eq_some_iff.1 hi;obtain⟨h2,rfl⟩:=List.getElem?_eq_some_iff.1 hj;by_cases he:i=j
 ·subst he;exact Int.le_refl _
 ·exact (List.pairwise_iff_getElem.1 h) i j h1 h2 (by omega)
theorem kL {a b:List ba}:fT (a++b) ↔ fT a/\fT b/\∀ x∈a,∀ y∈b,x.id≤y.id:=List.pairwise_append
theorem Ji {A1 U V B2 S1 S2:List ba}(hA:fT (A1++U)) (hB:fT (V++B2)) (h1:∀ x∈A1,∀ y∈B2,x.id≤y.id) (h2:∀ x∈V,∀ y∈U,x.id<y.id) (hs1:gy S1 (A1++V)) (ho1:fT S1) (hs2:gy S2 (U++B2)) (ho2:fT S2) :
  gy (S1++S2) ((A1++U)++(V++B2))/\fT (S1++S2):=by
 obtain⟨_,_,a3⟩:=kL.1 hA;obtain⟨_,_,b3⟩:=kL.1 hB;refine⟨?_,kL.2 ⟨ho1,ho2,fun x hx y hy=>?_⟩⟩
 ·refine (gy.append hs1 hs2).trans ?_;have:=gy.append (gy.append (gy.refl A1) (gy.swap (a:=V) (b:=U) (fun x hx y hy=>by have:=h2 x hx y hy;omega))) (gy.refl B2);simpa using this
 ·have hx:=hs1.mem.1 hx;have hy:=hs2.mem.1 hy;rcases List.mem_append.1 hx with hx|hx<;>rcases List.mem_append.1 hy with hy|hy
  ·exact a3 x hx y hy
  ·exact h1 x hx y hy
  ·have:=h2 x hx y hy;omega
  ·exact b3 x hx y hy
theorem Jc {p:ba}{B1 B2:List ba}(hB:fT (B1++B2)) (h1:∀ q∈B1,q.id<p.id) (h2:∀ q∈B2,p.id≤q.id):gy (B1++p::B2) ([p]++(B1++B2))/\fT (B1++p::B2):=by
 obtain⟨b1,b2,b3⟩:=kL.1 hB;refine⟨?_,kL.2 ⟨b1,List.pairwise_cons.2 ⟨h2,b2⟩,fun x hx y hy=>?_⟩⟩
 ·have:=gy.append (gy.swap (a:=B1) (b:=[p]) (fun x hx y hy=>by rw[List.mem_singleton.1 hy];have:=h1 x hx;omega)) (gy.refl B2);simpa using this
 ·rcases List.mem_cons.1 hy with rfl|hy
  ·have:=h1 x hx;omega
  ·exact b3 x hx y hy
theorem HL {q:ba}{A1 A2:List ba}(hA:fT (A1++A2)) (h1:∀ p∈A1,p.id≤q.id) (h2:∀ p∈A2,q.id<p.id):gy (A1++q::A2) ((A1++A2)++[q])/\fT (A1++q::A2):=by
 obtain⟨a1,a2,a3⟩:=kL.1 hA;refine⟨?_,kL.2 ⟨a1,List.pairwise_cons.2 ⟨fun x hx=>by have:=h2 x hx;omega,a2⟩,fun x hx y hy=>?_⟩⟩
 ·have:=gy.append (gy.refl A1) (gy.swap (a:=[q]) (b:=A2) (fun x hx y hy=>by rw[List.mem_singleton.1 hx];have:=h2 y hy;omega));simpa using this
 ·rcases List.mem_cons.1 hy with rfl|hy
  ·exact h1 x hx
  ·exact a3 x hx y hy
theorem GG {B:List ba}{lo:Nat}(hlo:lo≤B.length) {P1 P2:ba->Prop}(h1:∀ k x,k<lo->B[k]?=some x->P1 x) (h2:∀ k x,lo≤k->B[k]?=some x->P2 x):∃ B1 B2,B=B1++B2/\B1.length=lo/\(∀ x∈B1,P1 x)/\∀ x∈B2,P2 x:=by
 refine⟨B.take lo,B.drop lo,(List.take_append_drop _ _).symm,by rw[List.length_take];omega,fun x hx=>?_,fun x hx=>?_⟩
 ·obtain⟨k,hk⟩:=List.mem_iff_getElem?.1 hx;have hkl:=(List.getElem?_eq_some_iff.1 hk).1;rw[List.length_take]at hkl;rw[List.getElem?_take_of_lt (by omega)]at hk;exact h1 k x (by omega) hk
 ·obtain⟨k,hk⟩:=List.mem_iff_getElem?.1 hx;rw[List.getElem?_drop]at hk;exact h2 (lo+k) x (by omega) hk
section
variable {F0:List AId}{G0 G:ak}{ps:List LP}{Q:ah->ak->Prop}
theorem GX {n:Nat}{x:Int}{K:ah->Prop}(hx:x=(n:Int)) (hn:n≤1099511627776) (hK:K (.int .i64 ((n/2:Nat):Int))) :
  wv (gv T G ay mJ (.int .i64 x)) fun v12=>wv (az T .shr mJ v12 (.int .u64 1)) fun v13=>wv (gv T G mJ ay v13) K:=by
 subst hx;refine ae (v:=.int .u64 (n:Int)) (by rw[jk iD Dk rfl,u64_in (by omega) (by omega)]) ?_;refine ae (v:=.int .u64 ((n/2:Nat):Int)) ?_ ?_
 ·rw[nB _ _ _ _ _ _ (by decide)];have h1:min (1:Int).toNat IntKind.u64.bits=1:=by decide
  have h2:(2:Int) ^ 1=2:=by decide
  rw[h1,h2,Int.fdiv_eq_ediv_of_nonneg _ (by decide)];rfl
 refine ae (v:=.int .i64 ((n/2:Nat):Int)) (by rw[jk Dk iD rfl,i64_in (by omega) (by omega)]) hK
theorem HG {v:ah}{A B:List ba}{u p:ba}{y z:Int}{K:ak->Prop}(hu:u.ok) (hp:p.ok) (hy:y=(A.length:Int)) (hz:z=((A.length+1:Nat):Int)) (hs:Sp F0 G0 (bm 35 v ((A++u::p::B).map ba.av)::ps) G)
  (hK:∀ G',Sp F0 G0 (bm 35 v ((A++p::u::B).map ba.av)::ps) G'->K G') :
  wv (aO T aw v (.int .i64 z)) fun v31=>wv (ag T G aT v31) fun v32=>wv (aO T aw v (.int .i64 y)) fun v33=>wv (ag T G aT v33) fun v34=>wv (aO T aw v (.int .i64 y)) fun v35=>wg (aF T G aT v35 v32) fun G36=>wv (aO T aw v (.int .i64 z)) fun v37=>wg (aF T G36 aT v37 v34) K:=by
 have hsl:=(bm.own (i:=0) hs rfl).is;have g1:(A++u::p::B)[A.length]?=some u:=get_at A (p::B) u;have g2:(A++u::p::B)[A.length+1]?=some p:=by
  rw[List.getElem?_append_right (by omega),Nat.add_sub_cancel_left];rfl
 obtain⟨b,e3,e4⟩:=mO hsl hz g2;refine ae e3 ?_;refine ae e4 ?_;obtain⟨a,e1,e2⟩:=mO hsl hy g1;refine ae e1 ?_;refine ae e2 ?_;obtain⟨d,e7,e8⟩:=tY (i:=0) (p:=p) hy hs rfl (by simp) hp;refine ae e7 ?_;refine e8 _ fun G36 s36=>?_;have s36:Sp F0 G0 (bm 35 v (((A++u::p::B).set A.length p).map ba.av)::ps) G36:=s36;obtain⟨c,e5,e6⟩:=tY (i:=0) (p:=u) hz s36 rfl (by simp) hu;refine ae e5 ?_;refine e6 _ fun G38 s38=>?_;have s38:Sp F0 G0 (bm 35 v ((((A++u::p::B).set A.length p).set (A.length+1) u).map ba.av)::ps) G38:=s38;have e:((A++u::p::B).set A.length p).set (A.length+1) u=A++p::u::B:=by
  rw[List.set_append_right _ _ (by omega),Nat.sub_self,List.set_cons_zero,List.set_append_right _ _ (by omega),Nat.add_sub_cancel_left];rfl
 rw[e]at s38;exact hK _ s38
end
end Go.Esc.M
