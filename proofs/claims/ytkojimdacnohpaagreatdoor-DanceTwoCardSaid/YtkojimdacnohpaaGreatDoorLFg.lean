import Derived.Test.YtkojimdacnohpaaGreatDoorLUh
import Derived.Test.YtkojimdacnohpaaGreatDoorLRS
import Derived.Test.YtkojimdacnohpaaGreatDoorLHb
import Derived.Test.YtkojimdacnohpaaGreatDoorLLib
import Derived.Test.YtkojimdacnohpaaGreatDoorLDc
set_option maxHeartbeats 2000000
set_option linter.unusedSimpArgs false
set_option linter.unusedVariables false
set_option maxRecDepth 20000
namespace Go.Esc.M
open Go Go.Esc
section
variable {F0:List AId}{G0 G:ak}{ps:List LP}{Q:ah->ak->Prop}
theorem fa.use {v w:ah}{mine others:List aL}{u:aL}(hl:ff 36 G v (mine.map aL.av)) (ho:ff 36 G w (others.map aL.av)) (hok:∀ u∈mine,u.ok) (hok2:∀ u∈others,u.ok) (hlen:mine.length≤9223372036854775807) (hlen2:others.length≤9223372036854775807) (hu:u.ok)
  (hQ:∀ G',Ch [] G [] G'->Q (.int .i64 (kJ mine others u)) G'):al P fa.n [v,w,u.av] G Q:=by
 refine fa.sound ?_
 unfold fa.S
 rw[Dq]
 intro i1 f1
 have s1:=(Sp.nil G).row f1 u.av
 refine ae (dh (hl.ch' s1.ch)) ?_
 unfold kJ at hQ
 rw[fI,aa,aI]
 refine⟨fun h=>?_,fun h=>?_⟩
 ·rw[if_pos (by omega)]at hQ
  exact hQ _ s1.ch
 rw[if_neg (by omega)]at hQ
 refine ae (bF (i:=0) s1 rfl hu).2.2.2.2.2 ?_
 refine dz.use hu fun G7 c7=>?_
 have s7:=s1.tmp c7
 rw[dx,aa]
 cases hv:dp u with
 | false=>
  rw[if_pos hv]at hQ
  exact hQ _ s7.ch
 | true=>
  rw[if_neg (by rw[hv];decide)]at hQ
  rw[Bool.not_true,aK]
  refine ae (bF (i:=0) s7 rfl hu).1 ?_
  rw[bB,aa,aI]
  refine⟨fun hk1=>?_,fun hk1=>?_⟩
  ·rw[if_pos hk1]at hQ
   refine ae (bF (i:=0) s7 rfl hu).2.1 ?_
   refine gg.use (hl.ch' s7.ch) hlen ?_
   refine⟨⟨(bF (i:=0) s7 rfl hu).2.1,trivial⟩,?_⟩
   rw[cD,aa,dC]
   exact⟨fun h=>by rw[if_neg h]at hQ;exact hQ _ s7.ch,fun h=>by rw[if_pos h]at hQ;exact hQ _ s7.ch⟩
  rw[if_neg hk1]at hQ
  refine ae (bF (i:=0) s7 rfl hu).2.1 ?_
  refine gf.use (ho.ch' s7.ch) hok2 hlen2 fun G17 c17=>?_
  have s17:=s7.tmp c17
  have hf1:=lT (rm:=false) (id:=u.id) hok2
  have hf2:=lT (rm:=true) (id:=u.id) hok
  rw[z6,aa,zZ,aa]
  obtain⟨A,hA⟩:∃ A,A=ey false u.id others:=⟨_,rfl⟩
  obtain⟨B,hB⟩:∃ A,A=ey true u.id mine:=⟨_,rfl⟩
  rw[<- hA]at hf1 hQ ⊢
  rw[<- hB]at hf2 hQ
  intro i20 f20
  have s20:=s17.row f20 aL.zero.av
  refine jY (i:=0) s20 rfl aL.bq hf1 fun G22 s22=>?_
  refine ae (bF (i:=1) s22 rfl hu).2.1 ?_
  refine dZ.use (hl.ch' s22.ch) hok hlen fun G25 c25=>?_
  have s25:=s22.tmp c25
  rw[<- hB,z6,aa,zZ,aa]
  intro i28 f28
  have s28:=s25.row f28 aL.zero.av
  refine jY (i:=0) s28 rfl aL.bq hf2 fun G30 s30=>?_
  have s30:Sp [] G [au i28 (B.getD aL.zero).av,au i20 (A.getD aL.zero).av,au i1 u.av] G30:=s30
  intro J46
  have bad:kJ mine others u=120->J46 (.bool true) G30:=by
   intro h
   simp -zeta only [J46,aN]
   have:=hQ _ s30.ch
   unfold kJ at h
   rw[if_neg (by omega),if_neg (by rw[hv];decide),if_neg hk1,<- hA,<- hB]at h
   rwa [h]at this
  have hnx:kJ mine others u=if A.isSome=false then 120 else if B.isSome then 120 else if u.kind=2/\sha u.hash≠(A.getD aL.zero).hash then 120 else 0:=by
   unfold kJ
   rw[if_neg (by omega),if_neg (by rw[hv];decide),if_neg hk1,<- hA,<- hB]
  rw[dx,aa]
  cases hAs:A.isSome with
  | false=>
   rw[if_pos hAs]at hnx
   rw[Bool.not_false,aN]
   exact bad hnx
  | true=>
   rw[if_neg (by rw[hAs];decide)]at hQ hnx
   rw[Bool.not_true,aK]
   cases hBs:B.isSome with
   | true=>
    rw[if_pos hBs]at hnx
    exact bad hnx
   | false=>
    rw[if_neg (by rw[hBs];decide)]at hQ
    simp -zeta only [J46,aK]
    refine ae (bF (i:=2) s30 rfl hu).1 ?_
    rw[bB,aa,aI]
    refine⟨fun hk2=>?_,fun hk2=>?_⟩
    ·obtain⟨x,hx,hxs⟩:=BH hu (au.own (i:=2) s30 rfl)
     refine ae hx ?_
     refine ae (km (si:=fJ) (ie:=gi) (di:=iO) eC rfl cW rfl fS rfl hxs) ?_
     refine ae (bF (i:=1) s30 rfl hf1).2.2.2.1 ?_
     refine CW s30 fun v37 G38 s38=>?_
     have hh:=hu.hash
     refine fO.use (xs:=[u.hash]) (bm.own (i:=0) s38 rfl).is (by simp) (by simp;omega) fun G40 c40=>?_
     have s40:=s38.tmp c40
     refine⟨⟨(bF (i:=2) s40 rfl hf1).2.2.2.1,trivial⟩,?_⟩
     have e1:[u.hash].flatten=u.hash:=by simp
     rw[e1,qg (je _) hf1.hash,aa,dC]
     refine⟨fun h=>?_,fun h=>?_⟩
     ·rw[if_pos ⟨hk2,h⟩]at hQ
      exact hQ _ s40.ch
     ·rw[if_neg (fun hh=>hh.2 h)]at hQ
      exact hQ _ s40.ch
    ·rw[if_neg (fun hh=>hk2 hh.1)]at hQ
     exact hQ _ s30.ch
theorem nW {l:List aL}(h:∀ p∈l,p.ok):Esc.uni 36 (l.map aL.av)=true/\mz (l.map aL.av)=true:=by
 refine⟨by simp only[Esc.uni,List.all_map,List.all_eq_true];intro p hp;simp[aL.sz (h p hp)],?_⟩
 induction l with
 | nil=>rfl
 | cons p l ih=>simp[mz,aL.okv,ih (fun p hp=>h p (by simp[hp]))]
end
end Go.Esc.M
namespace Go.Esc.M
open Go Go.Esc
end Go.Esc.M
namespace Go.Esc.M
open Go Go.Esc
def Lo (u:aL) (t:Bool) (b:aL):Bool:=if b.kind=1/\b.id=u.id then decide (u.kind=3) || decide (sha u.hash=b.hash) else t
def Ln (u:aL) (B:List aL):Bool:=B.foldl (Lo u) false
def J2 (A B:List aL):Prop:=∀ i u,A[i]?=some u->if u.kind=1 then u.id=((oQ (A.take i):Nat):Int) else Ln u B=true/\∀ k v,k<i->A[k]?=some v->v.kind≠1->v.id≠u.id
theorem Ep {u:aL}(h:dp u=true):u.kind=1\/u.kind=2\/u.kind=3:=by
 obtain⟨_,_,hk⟩:=lW h
 omega
theorem AB {A:List aL}{id:Int}(hv:∀ a∈A,dp a=true) (h:(ey true id A).isSome=false):∀ a∈A,a.kind≠1->a.id≠id:=by
 intro a ha hk e
 unfold ey at h
 rw[Option.isSome_eq_false_iff,Option.isNone_iff_eq_none,List.find?_eq_none]at h
 refine h a ha ?_
 unfold uE
 rw[dT_ e]
 rcases Ep (hv a ha) with h1|h1|h1
 ·exact absurd h1 hk
 ·simp[h1]
 ·simp[h1]
theorem sv {B:List aL}{id:Int}(h:(ey false id B).isSome=true):∃ b,ey false id B=some b/\b∈B/\b.kind=1/\b.id=id:=by
 obtain⟨b,hb⟩:=Option.isSome_iff_exists.1 h
 refine⟨b,hb,List.mem_of_find?_eq_some hb,?_⟩
 have:=List.find?_some hb
 unfold uE at this
 simp only[cond_false,Bool.and_eq_true,decide_eq_true_eq]at this
 exact⟨this.2,this.1⟩
theorem nG {A O:List aL}{u:aL}(h:kJ A O u=0):dp u=true/\(u.kind=1->u.id=(oQ A:Nat))/\(u.kind≠1->(ey false u.id O).isSome=true/\(ey true u.id A).isSome=false/\¬ (u.kind=2/\sha u.hash≠((ey false u.id O).getD aL.zero).hash)):=by
 unfold kJ at h
 split at h
 ·cases h
 split at h
 ·cases h
 rename_i hv
 have hv:dp u=true:=by simpa using hv
 split at h
 ·rename_i hk
  split at h
  ·rename_i hid
   exact⟨hv,fun _=>hid,fun hn=>absurd hk hn⟩
  ·cases h
 rename_i hk
 split at h
 ·cases h
 rename_i h1
 split at h
 ·cases h
 rename_i h2
 split at h
 ·cases h
 rename_i h3
 exact⟨hv,fun hn=>absurd hn hk,fun _=>⟨(Bool.not_eq_false _).mp h1,(Bool.not_eq_true _).mp h2,h3⟩⟩
theorem J2.nil (B:List aL):J2 [] B:=fun i u h=>by simp at h
end Go.Esc.M
namespace Go.Esc.M
open Go Go.Esc
section
variable {F0:List AId}{G0 G:ak}{ps:List LP}{Q:ah->ak->Prop}
end
end Go.Esc.M
namespace Go.Esc.M
open Go Go.Esc
theorem IX (a:Int) {t:TypeId}{T:Tbl}:az T .shr t (.int .i64 a) (.int .u64 30)=some (.int .i64 (a/1073741824)):=by
 rw[nB _ _ _ _ _ _ (by decide)]
 have h1:min (30:Int).toNat IntKind.i64.bits=30:=by decide
 have h2:(2:Int) ^ 30=1073741824:=by decide
 rw[h1,h2,Int.fdiv_eq_ediv_of_nonneg _ (by decide)]
theorem JY (a:Int) {t:TypeId}{T:Tbl}:az T .and t (.int .i64 a) (.int .i64 1073741823)=some (.int .i64 (a % 1073741824)):=by
 have:=EM a 30 (by decide)
 have e1:((2 ^ 30-1:Nat):Int)=1073741823:=by decide
 have e2:((2 ^ 30:Nat):Int)=1073741824:=by decide
 rw[e1,e2]at this
 rw[sY,this]
theorem MF {x y:Nat}(hx:x≤1073741824) (hy:y<1073741824) {t:TypeId}{T:Tbl}:az T .or t (.int .i64 ((x*1073741824:Nat):Int)) (.int .i64 (y:Int))=some (.int .i64 ((x*1073741824+y:Nat):Int)):=by
 have hb:IntKind.i64.bits=64:=rfl
 have e64:∀ z:Nat,(BitVec.ofInt 64 (z:Int)).toNat=z % 2 ^ 64:=fun z=>by rw[BitVec.ofInt_natCast,BitVec.toNat_ofNat]
 have hor:2 ^ 30*x+y=2 ^ 30*x ||| y:=Nat.two_pow_add_eq_or_of_lt hy x
 have e30:(2:Nat) ^ 30=1073741824:=by decide
 have e64':(2:Nat) ^ 64=18446744073709551616:=by decide
 rw[e30,Nat.mul_comm]at hor
 have hx2:x*1073741824<18446744073709551616:=by omega
 have hy2:y<18446744073709551616:=by omega
 rw[Gp,hb,BitVec.toNat_or,e64,e64,e64',Nat.mod_eq_of_lt hx2,Nat.mod_eq_of_lt hy2,<- hor,i64_in (by omega) (by omega)]
theorem Mg {x:Nat}(hx:x≤1073741824) {t:TypeId}{T:Tbl}:az T .shl t (.int .i64 (x:Int)) (.int .u64 30)=some (.int .i64 ((x*1073741824:Nat):Int)):=by
 rw[zv _ _ _ _ _ _ (by decide)]
 have h1:min (30:Int).toNat IntKind.i64.bits=30:=by decide
 have h2:(2:Int) ^ 30=1073741824:=by decide
 rw[h1,h2,i64_in (by omega) (by omega)]
 congr 2
structure Wd (n:Nat) (u l:Int):Prop where
 u1:-((n:Int)*1073741824)≤u
 u2:u≤(n:Int)*1073741824
 l1:-((n:Int)*1073741824)≤l
 l2:l≤(n:Int)*1073741824
def oD (u l:Int):Int:=u*1073741824+l
def nC (t:Int):Int:=if t<0 then -1 else if t<1152921505680588800 then t else 1152921504606846977
def AJ (t:Int):Int:=if t<0 then 0 else if t<1152921504606846976 then t else 1152921504606846976
def amt (a:Int):Prop:=0≤a/\a≤1152921504606846976
section
variable {F0:List AId}{G0 G:ak}{ps:List LP}{Q:ah->ak->Prop}
theorem dj {T':TypeId}{ti:TI}{id:AId}{a b:Int}(hg:G id=some (.own (bE a b))) (hT:T T'=some ti) (hf:dD ti (bE a b)=true) :
  ag T G aq (.ptr id [0] 0)=some (.int .i64 a)/\ag T G aq (.ptr id [1] 1)=some (.int .i64 b)/\ag T G T' (.ptr id [] 0)=some (bE a b):=
 ⟨dI (c:=.int .i64 a) hg rfl rfl rfl cu rfl,dI (c:=.int .i64 b) hg rfl rfl rfl cu rfl,cj hT hg hf⟩
theorem AP (a b:Int):bj T bO [(0,.int .i64 a),(1,.int .i64 b)]=some (bE a b):=rfl
theorem Gg:kb=bE 0 0:=rfl
theorem k7 {i:Nat}{id:AId}{a b c d:Int}(hs:Sp F0 G0 ps G) (hi:ps[i]?=some (au id (bE a b))) {K:ak->Prop}(hK:∀ G',Sp F0 G0 (ps.set i (au id (bE c d))) G'->K G'):wg (aF T G bO (.ptr id [] 0) (bE c d)) K:=by
 refine fg (ig dT (au.own hs hi) rfl rfl rfl) ?_
 exact hK _ (Sp.setRow hs hi _)
theorem cS.use {n:Nat}{u l a:Int}(hw:Wd n u l) (hn:n≤1073741824) (ha:amt a) (hQ:∀ u' l' G',Ch [] G [] G'->Wd (n+1) u' l'->oD u' l'=oD u l+a->Q (bE u' l') G'):al P cS.n [bE u l,.int .i64 a] G Q:=by
 refine cS.sound ?_
 unfold cS.S
 rw[Gg]
 obtain⟨h1,h2,h3,h4⟩:=hw
 obtain⟨h5,h6⟩:=ha
 intro i1 f1
 have s1:=(Sp.nil G).row f1 (bE u l)
 intro i3 f3
 have s3:=s1.row f3 (bE 0 0)
 obtain⟨l1,l2,_⟩:=dj (au.own (i:=1) s3 rfl) dT rfl
 refine ae l1 ?_
 refine ae (IX a) ?_
 rw[bg,i64_in (by omega) (by omega),aa]
 refine ae l2 ?_
 refine ae (JY a) ?_
 rw[bg,i64_in (by omega) (by omega),aa]
 refine ae (AP _ _) ?_
 refine k7 (i:=0) s3 rfl fun G12 s12=>?_
 refine ae (dj (au.own (i:=0) s12 rfl) dT rfl).2.2 ?_
 exact hQ _ _ _ s12.ch ⟨by omega,by omega,by omega,by omega⟩ (by unfold oD;omega)
theorem ed.use {n:Nat}{u l a:Int}(hw:Wd n u l) (hn:n≤1073741824) (ha:amt a) (hQ:∀ u' l' G',Ch [] G [] G'->Wd (n+1) u' l'->oD u' l'=oD u l-a->Q (bE u' l') G'):al P ed.n [bE u l,.int .i64 a] G Q:=by
 refine ed.sound ?_
 unfold ed.S
 rw[Gg]
 obtain⟨h1,h2,h3,h4⟩:=hw
 obtain⟨h5,h6⟩:=ha
 intro i1 f1
 have s1:=(Sp.nil G).row f1 (bE u l)
 intro i3 f3
 have s3:=s1.row f3 (bE 0 0)
 obtain⟨l1,l2,_⟩:=dj (au.own (i:=1) s3 rfl) dT rfl
 refine ae l1 ?_
 refine ae (IX a) ?_
 rw[b7,i64_in (by omega) (by omega),aa]
 refine ae l2 ?_
 refine ae (JY a) ?_
 rw[b7,i64_in (by omega) (by omega),aa]
 refine ae (AP _ _) ?_
 refine k7 (i:=0) s3 rfl fun G12 s12=>?_
 refine ae (dj (au.own (i:=0) s12 rfl) dT rfl).2.2 ?_
 exact hQ _ _ _ s12.ch ⟨by omega,by omega,by omega,by omega⟩ (by unfold oD;omega)
theorem dy.use {n:Nat}{u l:Int}(hw:Wd n u l) (hn:n≤1073741824) (hQ:∀ G',Ch [] G [] G'->Q (.int .i64 (nC (oD u l))) G'):al P dy.n [bE u l] G Q:=by
 refine dy.sound ?_
 unfold dy.S
 obtain⟨h1,h2,h3,h4⟩:=hw
 intro i1 f1
 have s1:=(Sp.nil G).row f1 (bE u l)
 obtain⟨l1,l2,_⟩:=dj (au.own (i:=0) s1 rfl) dT rfl
 refine ae l1 ?_
 refine ae l2 ?_
 refine ae (IX l) ?_
 rw[bg,i64_in (by omega) (by omega),aa]
 have hQ:=hQ _ s1.ch
 have ht:oD u l=(u+l/1073741824)*1073741824+l % 1073741824:=by unfold oD;omega
 unfold nC at hQ
 rw[aM,aa,aI]
 refine⟨fun h=>?_,fun h=>?_⟩
 ·rw[if_pos (by omega)]at hQ
  exact hQ
 rw[if_neg (by omega)]at hQ
 rw[da,aa,aI]
 refine⟨fun h2=>?_,fun h2=>?_⟩
 ·rw[if_neg (by omega)]at hQ
  exact hQ
 rw[if_pos (by omega)]at hQ
 obtain⟨x,hx⟩:∃ x:Nat,u+l/1073741824=(x:Int):=⟨(u+l/1073741824).toNat,by omega⟩
 obtain⟨y,hy⟩:∃ y:Nat,l % 1073741824=(y:Int):=⟨(l % 1073741824).toNat,by omega⟩
 rw[hx]at ht h h2 ⊢
 rw[hy]at ht
 refine ae (Mg (by omega)) ?_
 refine ae l2 ?_
 refine ae (JY l) ?_
 rw[hy]
 refine ae (MF (by omega) (by omega)) ?_
 have:((x*1073741824+y:Nat):Int)=oD u l:=by rw[ht];omega
 rw[this]
 exact hQ
def small (t:Int):Prop:=-1329227995784915872903807060280344576≤t/\t≤1329227995784915872903807060280344576
end
end Go.Esc.M
namespace Go.Esc
open Go Go.RowKit
theorem hJ.gZ {n:Nat}{G:ak}{v:ah}{vs:List ah}(h:hJ n G v vs):ff n G v vs:=by
 rcases h with ⟨id,p,st,off,len,cap,rfl,_,h⟩|h
 ·exact .inl ⟨_,_,_,_,_,_,rfl,h⟩
 ·exact .inr h
theorem hJ.mv {n:Nat}{G G':ak}{E:List AId}{v:ah}{vs:List ah}(h:hJ n G v vs) (hc:Ch [] G E G'):hJ n G' v vs:=by
 rcases h with ⟨id,p,st,off,len,cap,rfl,hl,h⟩|h
 ·refine .inl ⟨_,_,_,_,_,_,rfl,hl,pO (fun j o hj=>hc.others j o hj (by simp)) h⟩
 ·exact .inr h
theorem hJ.take {T:Tbl}{t e:TypeId}{i ie:TI}(ht:T t=some i) (hd:i.desc=.slice e) (he:T e=some ie) {G:ak}{v:ah}{vs:List ah}(h:hJ ie.size G v vs) {k:IntKind}{m:Nat}{x:Int}(hx:x=(m:Int)) (hm:m≤vs.length) :
  ∃ v',dV T t v none (some (.int k x)) none=some v'/\hJ ie.size G v' (vs.take m):=by
 subst hx
 rcases h with ⟨id,p,st,off,len,cap,rfl,hlc,h⟩|⟨rfl,rfl⟩
 ·obtain⟨cs,h1,h0,h2,h3,rfl,harr⟩:=mY h
  have hl:((cs.drop st).take len).length=len:=by rw[List.length_take,List.length_drop];omega
  rw[hl]at hm
  refine⟨.slice id p st off m cap,?_,.inl ⟨id,p,st,off,m,cap,rfl,by omega,?_⟩⟩
  ·simp only[dV,ht,hd,he]
   rw[pH (by omega)]
   simp
  ·simp only[gq,harr]
   rw[if_pos (by omega),List.take_take,Nat.min_eq_left hm]
 ·simp at hm
  subst hm
  exact⟨.nilSlice,by simp[dV,ht,hd,he,j8,lH],.inr ⟨rfl,by simp⟩⟩
def nh (es:List (Int×Int)):List (ah×ah):=es.map fun p=>(.int .i64 p.1,.int .i64 p.2)
def oy:List (Int×Int)->Int->Option Int
 | [],_=>none
 | p::es,k=>if k=p.1 then some p.2 else oy es k
theorem uk (k:Int):∀ (es:List (Int×Int)) (i:Nat),match oy es k with
  | some v=>∃ j,oA (.int .i64 k) (nh es) i=some (some (j,.int .i64 v))
  | none=>oA (.int .i64 k) (nh es) i=some none
 | [],i=>rfl
 | p::es,i=>by
  unfold oy
  by_cases h:k=p.1
  ·rw[if_pos h]
   exact⟨i,by simp[nh,oA,uI,h]⟩
  ·rw[if_neg h]
   have ih:=uk k es (i+1)
   have e:oA (.int .i64 k) (nh (p::es)) i=oA (.int .i64 k) (nh es) (i+1):=by simp[nh,oA,uI,h]
   rw[e]
   exact ih
theorem wc (k:Int):∀ (es:List (Int×Int)) (a v:Int),oy (es++[(a,v)]) k=match oy es k with
  | some x=>some x
  | none=>if k=a then some v else none
 | [],a,v=>rfl
 | p::es,a,v=>by
  have ih:=wc k es a v
  simp only[List.cons_append,oy]
  by_cases h:k=p.1
  ·rw[if_pos h,if_pos h]
  ·rw[if_neg h,if_neg h,ih]
theorem yl (es:List (Int×Int)) (a v:Int):nh es++[(.int .i64 a,.int .i64 v)]=nh (es++[(a,v)]):=by simp[nh]
end Go.Esc
namespace Go.Esc.M
open Go Go.Esc
theorem tv0 (v:ah) (e:ah):aP (.tuple [v,e]) 0=some v:=rfl
theorem tv1 (v:ah) (e:ah):aP (.tuple [v,e]) 1=some e:=rfl
def m8 (id:Int) (u:aL):Bool:=decide (u.kind≠1) && (decide (u.id=id) && dp u)
def jH (id:Int):List aL->Int
 | []=>0
 | u::l=>if m8 id u=true then u.kind else jH id l
theorem sn {id:Int}{u:aL}(h:m8 id u=true):u.kind≠0:=by
 simp only[m8,Bool.and_eq_true,decide_eq_true_eq]at h
 have:=(lW h.2.2).2.2
 omega
theorem qE (id:Int):∀ (a b:List aL),jH id (a++b)=if jH id a=0 then jH id b else jH id a
 | [],b=>rfl
 | u::a,b=>by
  have ih:=qE id a b
  by_cases h:m8 id u=true
  ·have hk:=sn h
   have e1:jH id (u::(a++b))=u.kind:=if_pos h
   have e2:jH id (u::a)=u.kind:=if_pos h
   rw[List.cons_append,e1,e2,if_neg hk]
  ·have e1:jH id (u::(a++b))=jH id (a++b):=if_neg h
   have e2:jH id (u::a)=jH id a:=if_neg h
   rw[List.cons_append,e1,e2,ih]
theorem xt {id:Int}{l:List aL}{j:Nat}{u:aL}(h:l[j]?=some u):jH id (l.take (j+1))=if jH id (l.take j)=0 then (if m8 id u=true then u.kind else 0) else jH id (l.take j):=by
 rw[List.take_add_one,h,qE]
 rfl
def yW (x:Int):Option Int:=if x=0 then none else some x
def cw (l:List aL) (n:Int):List aL:=l.take n.toNat
theorem mu {l:List aL}{n:Int}(h:∀ u∈l,u.ok):∀ u∈cw l n,u.ok:=fun u hu=>h u (List.mem_of_mem_take hu)
theorem jU (l:List aL) (n:Int):(cw l n).length≤l.length:=by unfold cw;rw[List.length_take];omega
def ml (test:Int->Bool) (l:List aL):List Int:=(l.filter fun u=>decide (u.kind=1) && (dp u && test u.id)).map (·.amount)
theorem Ga {test:Int->Bool}{l:List aL}{j:Nat}{u:aL}(h:l[j]?=some u):ml test (l.take (j+1))=ml test (l.take j)++if decide (u.kind=1) && (dp u && test u.id) then [u.amount] else []:=by
 unfold ml
 rw[List.take_add_one,h]
 simp only[Option.toList_some,List.filter_append,List.map_append]
 congr 1
 simp only[List.filter_cons,List.filter_nil]
 split<;>rfl
theorem xU (test:Int->Bool) (l:List aL):(ml test l).length≤l.length:=by
 unfold ml
 rw[List.length_map]
 exact List.length_filter_le _ _
theorem Cu {test:Int->Bool}{l:List aL}:∀ a∈ml test l,amt a:=by
 intro a ha
 unfold ml at ha
 obtain⟨u,hu,rfl⟩:=List.mem_map.1 ha
 have hf:=(List.mem_filter.1 hu).2
 simp only[Bool.and_eq_true,decide_eq_true_eq]at hf
 have:=(lW hf.2.1).2.2
 constructor<;>omega
section
variable {F0:List AId}{G0 G:ak}{ps:List LP}{Q:ah->ak->Prop}
theorem D3 {es:List (Int×Int)}{mid:AId}{k:Int}(hg:G mid=some (.map (nh es))):jg T G dU (.map mid) (.int .i64 k) false=some (.int .i64 ((oy es k).getD 0)):=by
 have hf:kY iZ.desc (.int .i64 k)=true:=rfl
 have h:=uk k es 0
 have hd:lQ.desc=.map aq ay:=rfl
 have hz:nc.zero=.int .i64 0:=rfl
 simp only[jg,lk,hd,cu,iD,hf,if_true,tB,hg]
 cases hl:oy es k with
 | none=>rw[hl]at h;rw[h];simp[hz]
 | some v=>rw[hl]at h;obtain⟨j,h⟩:=h;rw[h];simp
theorem HE {es:List (Int×Int)}{mid:AId}{k:Int}(hg:G mid=some (.map (nh es))):jg T G dU (.map mid) (.int .i64 k) true=some (.tuple [.int .i64 ((oy es k).getD 0),.bool (oy es k).isSome]):=by
 have hf:kY iZ.desc (.int .i64 k)=true:=rfl
 have h:=uk k es 0
 have hd:lQ.desc=.map aq ay:=rfl
 have hz:nc.zero=.int .i64 0:=rfl
 simp only[jg,lk,hd,cu,iD,hf,if_true,tB,hg]
 cases hl:oy es k with
 | none=>rw[hl]at h;rw[h];simp[hz]
 | some v=>rw[hl]at h;obtain⟨j,h⟩:=h;rw[h];simp
theorem gI.use {v:ah}{l:List aL}{n:Int}(hl:hJ 36 G v (l.map aL.av)) (hlen:l.length≤1048576) (hQ:∀ w,hJ 36 G w ((cw l n).map aL.av)->Q w G):al P gI.n [v,.int .i64 n] G Q:=by
 refine gI.sound ?_
 unfold gI.S
 refine ae (v:=.int .i64 (if n<0 then 0 else n)) rfl ?_
 refine ae (dh hl.gZ) ?_
 obtain⟨m,hm,hml,he⟩:∃ m:Nat,(if ((l.length:Nat):Int)<(if n<0 then 0 else n) then ((l.length:Nat):Int) else (if n<0 then 0 else n))=(m:Int)/\m≤l.length/\l.take m=cw l n:=by
  unfold cw
  by_cases h0:n<0
  ·refine⟨0,?_,by omega,?_⟩
   ·rw[if_pos h0,if_neg (by omega)];rfl
   ·rw[show n.toNat=0 by omega]
  ·by_cases h1:((l.length:Nat):Int)<n
   ·refine⟨l.length,?_,by omega,?_⟩
    ·rw[if_neg h0,if_pos h1]
    ·rw[List.take_length,List.take_of_length_le (by omega)]
   ·refine⟨n.toNat,?_,by omega,rfl⟩
    rw[if_neg h0,if_neg h1];omega
 refine ae (v:=.int .i64 (m:Int)) (by rw[<- hm];rfl) ?_
 obtain⟨w,e1,e2⟩:=hJ.take (ie:=cG) (k:=.i64) (m:=m) bT rfl dE hl rfl (by rw[List.length_map];exact hml)
 refine ae e1 ?_
 refine hQ w ?_
 rw[<- he,List.map_take]
 exact e2
theorem dq.use {v:ah}{l:List aL}(hl:ff 36 G v (l.map aL.av)) (hok:∀ u∈l,u.ok) (hlen:l.length≤1048576)
  (hQ:∀ mid es G',(∀ id,oy es id=yW (jH id l))->Sp [] G [mo mid (nh es)] G'->Q (.map mid) G'):al P dq.n [v] G Q:=by
 refine dq.sound ?_
 unfold dq.S
 intro mid f1
 have s1:=(Sp.nil G).new (p:=mo mid (nh [])) ⟨ak.dR _ _ _,rfl⟩ (Ch.new (o:=.map []) f1)
 refine ae (dh (hl.ch' s1.ch)) ?_
 intro R hR
 have loop:∀ (m j:Nat) (es:List (Int×Int)) (G':ak),l.length-j=m->j≤l.length->(∀ id,oy es id=yW (jH id (l.take j)))->Sp [] G [mo mid (nh es)] G'->R [.map mid,v,.int .i64 (l.length:Int),.int .i64 (j:Int)] G':=by
  intro m
  induction m with
  | zero=>
   intro j es G' hm hj hes sp
   refine hR _ _ _ _ _ ?_
   rw[aM,aa,dF_ (by omega),aK]
   rw[List.take_of_length_le (by omega)]at hes
   exact hQ _ _ _ hes sp
  | succ m ih=>
   intro j es G' hm hj hes sp
   obtain⟨u,hu⟩:∃ u,l[j]?=some u:=⟨_,List.getElem?_eq_getElem (by omega)⟩
   have huo:=hok u (List.mem_of_getElem? hu)
   refine hR _ _ _ _ _ ?_
   rw[aM,aa,dT_ (by omega),aN]
   have ev:az T .add ay (.int .i64 (j:Int)) (.int .i64 1)=some (.int .i64 ((j+1:Nat):Int)):=by
    rw[bg,i64_in (by omega) (by omega)]
    rfl
   obtain⟨a,e1,e2⟩:=nD (hl.ch' sp.ch) hu
   refine ae e1 ?_
   refine ae e2 ?_
   refine vX sp huo fun i13 G15 s15=>?_
   obtain⟨l0,l1,l2,l3,l4,l5⟩:=bF (i:=0) s15 rfl huo
   refine ae l1 ?_
   refine ae (HE (mo.own (i:=1) s15 rfl)) ?_
   refine ae (tv0 _ _) ?_
   refine ae (tv1 _ _) ?_
   intro J32
   have skip:∀ G26,Sp [] G [au i13 u.av,mo mid (nh es)] G26->(m8 u.id u=false\/jH u.id (l.take j)≠0)->J32 (.bool false) G26:=by
    intro G26 s26 hno
    simp -zeta only [J32,aK]
    refine ae ev (ih (j+1) es G26 (by omega) (by omega) (fun id=>?_) (s26.erase 0))
    rw[hes id,xt hu]
    congr 1
    by_cases h0:jH id (l.take j)=0
    ·rw[if_pos h0,h0]
     by_cases hr:m8 id u=true
     ·have hid:u.id=id:=by
       simp only[m8,Bool.and_eq_true,decide_eq_true_eq]at hr
       exact hr.2.1
      subst hid
      rcases hno with hno|hno
      ·rw[hr]at hno;cases hno
      ·exact absurd h0 hno
     ·rw[if_neg hr]
    ·rw[if_neg h0]
   rw[dx,aa]
   have hlk:=hes u.id
   by_cases h0:jH u.id (l.take j)=0
   ·rw[h0]at hlk
    have hlk:oy es u.id=none:=hlk
    rw[hlk]
    show brB (some (.bool true)) _ _
    rw[aN]
    refine ae l0 ?_
    rw[cD,aa]
    by_cases hk:u.kind=1
    ·rw[dT_ hk,Bool.not_true,aK]
     exact skip _ s15 (.inl (by simp[m8,hk]))
    ·rw[dF_ hk,Bool.not_false,aN]
     refine ae l5 ?_
     refine gj.use huo fun G25 c25=>?_
     have s25:=s15.tmp c25
     cases hv:dp u with
     | false=>exact skip _ s25 (.inl (by simp[m8,hv]))
     | true=>
      simp -zeta only [J32,aN]
      obtain⟨k0,k1,_,_,_,_⟩:=bF (i:=0) s25 rfl huo
      refine ae k1 ?_
      refine ae k0 ?_
      have hfd:=uk u.id es 0
      rw[hlk]at hfd
      refine CZ (T:=T) (i:=lQ) (r:=none) lk rfl cu (mo.own (i:=1) s25 rfl) rfl hfd ?_
      have s30:=Sp.tV (j:=1) s25 rfl (nh (es++[(u.id,u.kind)]))
      rw[<- yl]at s30
      refine ae ev (ih (j+1) (es++[(u.id,u.kind)]) _ (by omega) (by omega) (fun id=>?_) ?_)
      ·rw[wc,hes id,xt hu]
       by_cases hz:jH id (l.take j)=0
       ·rw[if_pos hz,hz]
        show (if id=u.id then some u.kind else none)=_
        by_cases hid:id=u.id
        ·subst hid
         have hr:m8 u.id u=true:=by simp[m8,hk,hv]
         rw[if_pos rfl,if_pos hr,yW,if_neg (sn hr)]
        ·have hr:m8 id u=false:=by
          have:¬ u.id=id:=fun h=>hid h.symm
          simp[m8,this]
         rw[if_neg hid,hr]
         rfl
       ·rw[if_neg hz]
        unfold yW
        rw[if_neg hz]
      ·rw[<- yl]
       exact s30.erase 0
   ·have hlk:oy es u.id=some (jH u.id (l.take j)):=by rw[hlk,yW,if_neg h0]
    rw[hlk]
    show brB (some (.bool false)) _ _
    rw[aK]
    exact skip _ s15 (.inr h0)
 exact loop l.length 0 [] _ rfl (by omega) (fun id=>rfl) s1
end
end Go.Esc.M
namespace Go.Esc.M
open Go Go.Esc
section
variable {F0:List AId}{G0 G:ak}{ps:List LP}{Q:ah->ak->Prop}
def Dj (G:ak) (f:ah) (test:Int->Bool):Prop:=∀ (G':ak) (id:Int) (K:ah->ak->Prop),Ch [] G [] G'->K (.bool (test id)) G'->oS P f [.int .i64 id] G' K
theorem iq.use {v f:ah}{l:List aL}{test:Int->Bool}(hl:ff 36 G v (l.map aL.av)) (hok:∀ u∈l,u.ok) (hlen:l.length≤1048576) (hf:Dj G f test)
  (hQ:∀ w G',Sp [] G [bm 1 w ((ml test l).map (.int .i64))] G'->Q w G'):al P iq.n [v,f] G Q:=by
 refine iq.sound ?_
 unfold iq.S
 refine ae (dh hl) ?_
 intro R hR
 have loop:∀ (m j:Nat) (w:ah) (G':ak),l.length-j=m->j≤l.length->Sp [] G [bm 1 w ((ml test (l.take j)).map (.int .i64))] G'->R [f,w,v,.int .i64 (l.length:Int),.int .i64 (j:Int)] G':=by
  intro m
  induction m with
  | zero=>
   intro j w G' hm hj sp
   refine hR _ _ _ _ _ _ ?_
   rw[aM,aa,dF_ (by omega),aK]
   rw[List.take_of_length_le (by omega)]at sp
   exact hQ _ _ sp
  | succ m ih=>
   intro j w G' hm hj sp
   obtain⟨u,hu⟩:∃ u,l[j]?=some u:=⟨_,List.getElem?_eq_getElem (by omega)⟩
   have huo:=hok u (List.mem_of_getElem? hu)
   have hnx:=Ga (test:=test) hu
   refine hR _ _ _ _ _ _ ?_
   rw[aM,aa,dT_ (by omega),aN]
   have ev:az T .add ay (.int .i64 (j:Int)) (.int .i64 1)=some (.int .i64 ((j+1:Nat):Int)):=by
    rw[bg,i64_in (by omega) (by omega)]
    rfl
   obtain⟨a,e1,e2⟩:=nD (hl.ch' sp.ch) hu
   refine ae e1 ?_
   refine ae e2 ?_
   refine vX sp huo fun i12 G14 s14=>?_
   intro J32
   have no:∀ G23,Sp [] G [au i12 u.av,bm 1 w ((ml test (l.take j)).map (.int .i64))] G23->(decide (u.kind=1) && (dp u && test u.id))=false->J32 (.bool false) G23:=by
    intro G23 s23 h
    simp -zeta only [J32,aK]
    rw[h]at hnx
    have s:=s23.erase 0
    have e:ml test (l.take j)=ml test (l.take (j+1)):=by rw[hnx];simp
    rw[e]at s
    exact ae ev (ih (j+1) w G23 (by omega) (by omega) s)
   obtain⟨l0,l1,l2,l3,l4,l5⟩:=bF (i:=0) s14 rfl huo
   refine ae l0 ?_
   rw[bB,aa]
   by_cases hk:u.kind=1
   ·rw[dT_ hk,aN]
    refine ae l5 ?_
    refine gj.use huo fun G19 c19=>?_
    have s19:=s14.tmp c19
    cases hv:dp u with
    | false=>
     rw[aK]
     exact no _ s19 (by rw[hv];simp)
    | true=>
     rw[aN]
     refine ae (bF (i:=0) s19 rfl huo).2.1 ?_
     refine hf _ _ _ s19.ch ?_
     cases ht:test u.id with
     | false=>exact no _ s19 (by rw[ht];simp)
     | true=>
      simp -zeta only [J32,aN]
      refine ae (bF (i:=0) s19 rfl huo).2.2.1 ?_
      have hal:=xU test (l.take j)
      rw[List.length_take]at hal
      have hb:iZ.bytes=8:=rfl
      refine wm (T:=T) (ts:=jf) (e:=aq) (si:=lM) (ie:=iZ) (i:=1) (c:=.int .i64 u.amount) oh rfl cu rfl (by decide) s19 rfl rfl rfl (by decide) ?_ fun w' G29 s29=>?_
      ·rw[hb,List.length_map];omega
      have s:Sp [] G [bm 1 w' ((ml test (l.take j)).map (.int .i64)++[.int .i64 u.amount])] G29:=s29.erase 0
      have e:(ml test (l.take j)).map (ah.int .i64)++[.int .i64 u.amount]=(ml test (l.take (j+1))).map (.int .i64):=by
       rw[hnx,hk,hv,ht]
       simp
      rw[e]at s
      exact ae ev (ih (j+1) w' G29 (by omega) (by omega) s)
   ·rw[dF_ hk,aK]
    exact no _ s14 (by rw[dF_ hk];rfl)
 exact loop l.length 0 .nilSlice G rfl (by omega) ((Sp.nil G).nz 1)
theorem AN {i mid:AId}{es:List (Int×Int)}{G':ak}{k:Int}{l:List aL}(h1:G' i=some (.own (.map mid))) (h2:G' mid=some (.map (nh es))) (hes:∀ id,oy es id=yW (jH id l)) :
  ag T G' dU (.ptr i [] 0)=some (.map mid)/\jg T G' dU (.map mid) (.int .i64 k) false=some (.int .i64 (jH k l)):=by
 refine⟨cj lk h1 rfl,?_⟩
 rw[D3 h2,hes k]
 congr 2
 unfold yW
 split
 ·rename_i h;rw[h];rfl
 ·rfl
theorem vw {G G':ak}{E:List AId}{j:AId}{o:n6}(hc:Ch [] G E G') (h:G j=some o):G' j=some o:=hc.others j o h (by simp)
theorem Hw {G:ak}{i mid:AId}{es:List (Int×Int)}{l:List aL}(h1:G i=some (.own (.map mid))) (h2:G mid=some (.map (nh es))) (hes:∀ id,oy es id=yW (jH id l)) :
  Dj G (.func (.func jc.n) [] [.ptr i [] 0]) fun id=>decide (jH id l=0):=by
 intro G' id K hc hK
 refine jc.sound ?_
 unfold jc.S
 obtain⟨e1,e2⟩:=AN (k:=id) (vw hc h1) (vw hc h2) hes
 refine ae e1 ?_
 refine ae e2 ?_
 rw[bB,aa]
 exact hK
theorem DO {G:ak}{i mid:AId}{es:List (Int×Int)}{l:List aL}(h1:G i=some (.own (.map mid))) (h2:G mid=some (.map (nh es))) (hes:∀ id,oy es id=yW (jH id l)) :
  Dj G (.func (.func fX.n) [] [.ptr i [] 0]) fun id=>!decide (jH id l=3):=by
 intro G' id K hc hK
 refine fX.sound ?_
 unfold fX.S
 obtain⟨e1,e2⟩:=AN (k:=id) (vw hc h1) (vw hc h2) hes
 refine ae e1 ?_
 refine ae e2 ?_
 rw[cD,aa]
 exact hK
theorem DN {G:ak}{i mid:AId}{es:List (Int×Int)}{l:List aL}(h1:G i=some (.own (.map mid))) (h2:G mid=some (.map (nh es))) (hes:∀ id,oy es id=yW (jH id l)) :
  Dj G (.func (.func fW.n) [] [.ptr i [] 0]) fun id=>decide (jH id l=2):=by
 intro G' id K hc hK
 refine fW.sound ?_
 unfold fW.S
 obtain⟨e1,e2⟩:=AN (k:=id) (vw hc h1) (vw hc h2) hes
 refine ae e1 ?_
 refine ae e2 ?_
 rw[bB,aa]
 exact hK
def kX (mine others:List aL) (fixed:Int):Nat:=(ml (fun id=>decide (jH id (cw others fixed)=0)) mine).length
theorem LF {mid:AId}{K:AId->ak->Prop}(hs:Sp F0 G0 ps G) (hK:∀ i G',Sp F0 G0 (au i (.map mid)::ps) G'->K i G') :
  br G (.own k6) fun i G2=>wg (aF T G2 dU (.ptr i [] 0) (.map mid)) fun G3=>K i G3:=jL hs lk rfl rfl rfl hK
theorem iL.use {v w:ah}{mine others:List aL}{fixed:Int}(hl:ff 36 G v (mine.map aL.av)) (ho:hJ 36 G w (others.map aL.av)) (hok:∀ u∈mine,u.ok) (hok2:∀ u∈others,u.ok) (hlen:mine.length≤1048576) (hlen2:others.length≤1048576)
  (hQ:∀ G',Ch [] G [] G'->Q (.int .i64 ((kX mine others fixed:Nat):Int)) G'):al P iL.n [v,w,.int .i64 fixed] G Q:=by
 refine iL.sound ?_
 unfold iL.S
 refine gI.use ho hlen2 fun w1 h1=>?_
 have hfl:=jU others fixed
 refine dq.use h1.gZ (mu hok2) (by omega) fun mid es G4 hes s4=>?_
 refine LF s4 fun i5 G7 s7=>?_
 refine iq.use (hl.ch' s7.ch) hok hlen (Hw (au.own (i:=0) s7 rfl) (mo.own (i:=1) s7 rfl) hes) fun x G9 t9=>?_
 obtain⟨F9,o9,c9⟩:=t9.out
 have s9:=s7.new o9 c9
 refine ae (v:=.int .i64 ((kX mine others fixed:Nat):Int)) ?_ ?_
 ·rw[(bm.own (i:=0) s9 rfl).is.len (i:=lM) oh rfl,List.length_map]
  rfl
 exact hQ _ s9.ch
end
end Go.Esc.M
namespace Go.Esc.M
open Go Go.Esc
def vM (others:List aL) (fp:Int) (id:Int):Bool:=!decide (jH id (cw others fp)=3)
def vL (mine:List aL) (fo:Int) (id:Int):Bool:=decide (jH id (cw mine fo)=2)
def Bq (b:Int):Int:=if 1152921504606846976<b then 1152921504606846976 else b
def xj (base:Int) (mine others:List aL) (fo fp:Int):Int:=
 if base<0 then 0 else AJ (Bq base-(ml (vM others fp) mine).sum+(ml (vL mine fo) others).sum)
theorem uH {A:List Int}{j:Nat}{a:Int}(h:A[j]?=some a):(A.take (j+1)).sum=(A.take j).sum+a:=by
 rw[List.take_add_one,h,List.sum_append]
 simp
theorem Ez (t:Int):(if 1152921504606846976<(if nC t<0 then 0 else nC t) then (1152921504606846976:Int) else (if nC t<0 then 0 else nC t))=AJ t:=by
 unfold nC AJ
 by_cases h1:t<0
 ·simp[h1]
 ·by_cases h2:t<1152921505680588800
  ·rw[if_neg h1,if_pos h2,if_neg h1,if_neg h1]
   by_cases h3:t<1152921504606846976
   ·rw[if_pos h3,if_neg (by omega)]
   ·rw[if_neg h3]
    split<;>omega
  ·have hv:(if t<0 then (-1:Int) else if t<1152921505680588800 then t else 1152921504606846977)=1152921504606846977:=by rw[if_neg h1,if_neg h2]
   rw[hv,if_neg h1,if_neg (show ¬ t<1152921504606846976 by omega),if_neg (show ¬ (1152921504606846977:Int)<0 by decide),if_pos (by decide)]
theorem JN {b:Int}(h:¬ b<0):amt (Bq b):=by
 unfold Bq amt
 split<;>constructor<;>omega
theorem Hz {A:List Int}(h:∀ a∈A,amt a):0≤A.sum/\A.sum≤(A.length:Int)*1152921504606846976:=by
 induction A with
 | nil=>simp
 | cons a A ih=>
  obtain⟨h1,h2⟩:=ih fun x hx=>h x (by simp[hx])
  obtain⟨h3,h4⟩:=h a (by simp)
  rw[List.sum_cons,List.length_cons]
  constructor
  ·omega
  ·push_cast
   omega
section
variable {F0:List AId}{G0 G:ak}{ps:List LP}{Q:ah->ak->Prop}
theorem jW {id:AId}{a b:Int}(hg:G id=some (.own (bE a b))) :
  ag T G ay (.ptr id [0] 0)=some (.int .i64 a)/\ag T G ay (.ptr id [1] 1)=some (.int .i64 b)/\ag T G aU (.ptr id [] 0)=some (bE a b):=
 ⟨dI (c:=.int .i64 a) hg rfl rfl rfl iD rfl,dI (c:=.int .i64 b) hg rfl rfl rfl iD rfl,cj cK hg rfl⟩
theorem MG {a b:Int}{K:AId->ak->Prop}(hs:Sp F0 G0 ps G) (hK:∀ i G',Sp F0 G0 (au i (bE a b)::ps) G'->K i G') :
  br G (.own kb) fun i G2=>wg (aF T G2 bO (.ptr i [] 0) (bE a b)) fun G3=>K i G3:=jL hs dT rfl rfl rfl hK
theorem Jx {v:ah}{A:List Int}{j:Nat}{a:Int}(h:ff 1 G v (A.map (.int .i64))) (hj:A[j]?=some a):∃ p,aO T jf v (.int .i64 (j:Int))=some p/\ag T G aq p=some (.int .i64 a):=
 h.at_ (k:=.i64) (i:=lM) (ie:=iZ) (T:=T) (t:=jf) (e:=aq) oh rfl cu (by rw[List.getElem?_map,hj];rfl) rfl
theorem eR.use {v w:ah}{base fo fp:Int}{mine others:List aL}(hl:hJ 36 G v (mine.map aL.av)) (ho:hJ 36 G w (others.map aL.av)) (hok:∀ u∈mine,u.ok) (hok2:∀ u∈others,u.ok) (hlen:mine.length≤1048576) (hlen2:others.length≤1048576)
  (hQ:∀ G',Ch [] G [] G'->Q (.int .i64 (xj base mine others fo fp)) G'):al P eR.n [.int .i64 base,v,w,bE fo fp] G Q:=by
 refine eR.sound ?_
 unfold eR.S
 intro i1 f1
 have s1:=(Sp.nil G).row f1 (bE fo fp)
 unfold xj at hQ
 rw[aM,aa,aI]
 refine⟨fun h=>?_,fun h=>?_⟩
 ·rw[if_pos h]at hQ
  exact hQ _ s1.ch
 rw[if_neg h]at hQ
 obtain⟨c0,c1,c2⟩:=jW (au.own (i:=0) s1 rfl)
 refine ae c1 ?_
 refine ae c0 ?_
 refine gI.use (ho.mv s1.ch) hlen2 fun w1 hw1=>?_
 refine⟨⟨c0,trivial⟩,?_⟩
 have hfl2:=jU others fp
 have hfl:=jU mine fo
 refine dq.use hw1.gZ (mu hok2) (by omega) fun mid1 es1 G9 hes1 t9=>?_
 obtain⟨F9,o9,k9⟩:=t9.out
 have s9:=s1.new o9 k9
 refine⟨⟨(jW (au.own (i:=1) s9 rfl)).1,trivial⟩,?_⟩
 refine gI.use (hl.mv s9.ch) hlen fun w2 hw2=>?_
 refine dq.use hw2.gZ (mu hok) (by omega) fun mid2 es2 G13 hes2 t13=>?_
 obtain⟨F13,o13,k13⟩:=t13.out
 have s13:=s9.new o13 k13
 intro i14 f14
 have s14:=s13.row f14 k6
 intro i16 f16
 have s16:=s14.row f16 k6
 refine fg (ig (c:=.map mid1) lk (au.own (i:=1) s16 rfl) rfl rfl rfl) ?_
 have s18:=Sp.setRow (j:=1) s16 rfl (.map mid1)
 refine fg (ig (c:=.map mid2) lk (au.own (i:=0) s18 rfl) rfl rfl rfl) ?_
 have s19:=Sp.setRow (j:=0) s18 rfl (.map mid2)
 generalize ak.upd _ _ _=G19 at s19 ⊢
 have s19:Sp [] G [au i16 (.map mid2),au i14 (.map mid1),mo mid2 (nh es2),mo mid1 (nh es1),au i1 (bE fo fp)] G19:=s19
 refine ae (v:=bE 0 0) rfl ?_
 refine ae (v:=.int .i64 (Bq base)) rfl ?_
 refine cS.use (n:=0) ⟨by decide,by decide,by decide,by decide⟩ (by decide) (JN h) fun u0 l0 G23 c23 hw0 ht0=>?_
 have s23:=s19.tmp c23
 have ht0:oD u0 l0=Bq base:=by rw[ht0];unfold oD;omega
 refine MG s23 fun i24 G26 s26=>?_
 refine iq.use (hl.gZ.ch' s26.ch) hok hlen (DO (au.own (i:=2) s26 rfl) (mo.own (i:=4) s26 rfl) hes1) fun x G28 t28=>?_
 obtain⟨F28,o28,k28⟩:=t28.out
 have s28:=s26.new o28 k28
 obtain⟨A,hA⟩:∃ A,A=ml (vM others fp) mine:=⟨_,rfl⟩
 obtain⟨B,hB⟩:∃ B,B=ml (vL mine fo) others:=⟨_,rfl⟩
 have hAl:A.length≤1048576:=by have:=xU (vM others fp) mine;rw[hA];omega
 have hBl:B.length≤1048576:=by have:=xU (vL mine fo) others;rw[hB];omega
 have hAa:∀ a∈A,amt a:=by rw[hA];exact Cu
 have hBa:∀ a∈B,amt a:=by rw[hB];exact Cu
 have s28:Sp [] G [bm 1 x (A.map (.int .i64)),au i24 (bE u0 l0),au i16 (.map mid2),au i14 (.map mid1),mo mid2 (nh es2),mo mid1 (nh es1),au i1 (bE fo fp)] G28:=by rw[hA];exact s28
 rw[<- hA,<- hB]at hQ
 have alen:∀ {ps:List LP}{q:Nat}{G':ak}{x:ah}{A:List Int},Sp [] G ps G'->ps[q]?=some (bm 1 x (A.map (.int .i64)))->fU T G' jf x=some (.int .i64 (A.length:Nat)):=fun sp hq=>by
  rw[(bm.own sp hq).is.len (i:=lM) oh rfl,List.length_map]
 refine ae (alen (q:=0) s28 rfl) ?_
 intro R hR
 have loop:∀ (m j:Nat) (u l:Int) (G':ak),A.length-j=m->j≤A.length->Wd (j+1) u l->oD u l=Bq base-(A.take j).sum->Sp [] G [bm 1 x (A.map (.int .i64)),au i24 (bE u l),au i16 (.map mid2),au i14 (.map mid1),mo mid2 (nh es2),mo mid1 (nh es1),au i1 (bE fo fp)] G' ->
   R [w,.ptr i16 [] 0,.ptr i24 [] 0,x,.int .i64 (A.length:Int),.int .i64 (j:Int)] G':=by
  intro m
  induction m with
  | zero=>
   intro j u l G' hm hj hw ht sp
   have hjl:j=A.length:=by omega
   subst hjl
   rw[List.take_length]at ht
   refine hR _ _ _ _ _ _ _ ?_
   rw[aM,aa,dF_ (by omega),aK]
   refine iq.use (ho.gZ.ch' sp.ch) hok2 hlen2 (DN (au.own (i:=2) sp rfl) (mo.own (i:=4) sp rfl) hes2) fun y G47 t47=>?_
   obtain⟨F47,o47,k47⟩:=t47.out
   have s47:=sp.new o47 k47
   have s47:Sp [] G [bm 1 y (B.map (.int .i64)),bm 1 x (A.map (.int .i64)),au i24 (bE u l),au i16 (.map mid2),au i14 (.map mid1),mo mid2 (nh es2),mo mid1 (nh es1),au i1 (bE fo fp)] G47:=by rw[hB];exact s47
   refine ae (alen (q:=0) s47 rfl) ?_
   intro R2 hR2
   have loop2:∀ (m j:Nat) (u l:Int) (G':ak),B.length-j=m->j≤B.length->Wd (A.length+1+j) u l->oD u l=Bq base-A.sum+(B.take j).sum->Sp [] G [bm 1 y (B.map (.int .i64)),bm 1 x (A.map (.int .i64)),au i24 (bE u l),au i16 (.map mid2),au i14 (.map mid1),mo mid2 (nh es2),mo mid1 (nh es1),au i1 (bE fo fp)] G' ->
     R2 [.ptr i24 [] 0,y,.int .i64 (B.length:Int),.int .i64 (j:Int)] G':=by
    intro m
    induction m with
    | zero=>
     intro j u l G' hm hj hw ht sp
     have hjl:j=B.length:=by omega
     subst hjl
     rw[List.take_length]at ht
     refine hR2 _ _ _ _ _ ?_
     rw[aM,aa,dF_ (by omega),aK]
     refine ae (dj (au.own (i:=2) sp rfl) dT rfl).2.2 ?_
     refine dy.use hw (by omega) fun G65 c65=>?_
     have s65:=sp.tmp c65
     rw[ht]
     obtain⟨t,ht'⟩:∃ t,t=Bq base-A.sum+B.sum:=⟨_,rfl⟩
     rw[<- ht']at hQ ⊢
     refine ae (v:=.int .i64 (if nC t<0 then 0 else nC t)) rfl ?_
     refine ae (v:=.int .i64 (AJ t)) (by rw[<- Ez];rfl) ?_
     exact hQ _ s65.ch
    | succ m ih=>
     intro j u l G' hm hj hw ht sp
     obtain⟨a,ha⟩:∃ a,B[j]?=some a:=⟨_,List.getElem?_eq_getElem (by omega)⟩
     refine hR2 _ _ _ _ _ ?_
     rw[aM,aa,dT_ (by omega),aN]
     obtain⟨p,e1,e2⟩:=Jx (bm.own (i:=0) sp rfl).is ha
     refine ae e1 ?_
     refine ae e2 ?_
     refine ae (dj (au.own (i:=2) sp rfl) dT rfl).2.2 ?_
     refine cS.use hw (by omega) (hBa a (List.mem_of_getElem? ha)) fun u' l' G60 c60 hw' ht2=>?_
     have s60:=sp.tmp c60
     refine k7 (i:=2) s60 rfl fun G61 s61=>?_
     rw[bg,i64_in (by omega) (by omega),aa]
     exact ih (j+1) u' l' G61 (by omega) (by omega) hw' (by rw[ht2,ht,uH ha];omega) s61
   exact loop2 B.length 0 u l G47 rfl (by omega) hw (by rw[ht];simp) s47
  | succ m ih=>
   intro j u l G' hm hj hw ht sp
   obtain⟨a,ha⟩:∃ a,A[j]?=some a:=⟨_,List.getElem?_eq_getElem (by omega)⟩
   refine hR _ _ _ _ _ _ _ ?_
   rw[aM,aa,dT_ (by omega),aN]
   obtain⟨p,e1,e2⟩:=Jx (bm.own (i:=0) sp rfl).is ha
   refine ae e1 ?_
   refine ae e2 ?_
   refine ae (dj (au.own (i:=1) sp rfl) dT rfl).2.2 ?_
   refine ed.use hw (by omega) (hAa a (List.mem_of_getElem? ha)) fun u' l' G60 c60 hw' ht2=>?_
   have s60:=sp.tmp c60
   refine k7 (i:=1) s60 rfl fun G61 s61=>?_
   rw[bg,i64_in (by omega) (by omega),aa]
   exact ih (j+1) u' l' G61 (by omega) (by omega) hw' (by rw[ht2,ht,uH ha];omega) s61
 exact loop A.length 0 u0 l0 G28 rfl (by omega) hw0 (by rw[ht0];simp) s28
end
end Go.Esc.M
namespace Go.Esc.M
open Go Go.Esc
section
variable {F0:List AId}{G0 G:ak}{ps:List LP}{Q:ah->ak->Prop}
end
end Go.Esc.M
namespace Go.Esc.M
open Go Go.Esc
def gy (a b:List ba):Prop:=∀ k:Int,a.filter (fun p=>decide (p.id=k))=b.filter (fun p=>decide (p.id=k))
def fT (l:List ba):Prop:=l.Pairwise fun p q=>p.id≤q.id
theorem gy.refl (a:List ba):gy a a:=fun _=>rfl
theorem gy.symm {a b:List ba}(h:gy a b):gy b a:=fun k=>(h k).symm
theorem gy.trans {a b c:List ba}(h:gy a b) (h':gy b c):gy a c:=fun k=>(h k).trans (h' k)
theorem gy.mem {a b:List ba}(h:gy a b) {p:ba}:p∈a ↔ p∈b:=by
 have e:=h p.id
 constructor
 ·intro hp
  have:p∈a.filter (fun q=>decide (q.id=p.id)):=List.mem_filter.2 ⟨hp,by simp⟩
  rw[e]at this
  exact (List.mem_filter.1 this).1
 ·intro hp
  have:p∈b.filter (fun q=>decide (q.id=p.id)):=List.mem_filter.2 ⟨hp,by simp⟩
  rw[<- e]at this
  exact (List.mem_filter.1 this).1
theorem gy.append {a b c d:List ba}(h:gy a b) (h':gy c d):gy (a++c) (b++d):=fun k=>by rw[List.filter_append,List.filter_append,h k,h' k]
theorem gy.swap {a b:List ba}(h:∀ p∈a,∀ q∈b,p.id≠q.id):gy (a++b) (b++a):=by
 intro k
 rw[List.filter_append,List.filter_append]
 by_cases ha:a.filter (fun p=>decide (p.id=k))=[]
 ·rw[ha,List.nil_append,List.append_nil]
 ·have hb:b.filter (fun p=>decide (p.id=k))=[]:=by
   rw[List.filter_eq_nil_iff]
   intro q hq hk
   obtain⟨p,hp⟩:=List.exists_mem_of_ne_nil _ ha
   obtain⟨h1,h2⟩:=List.mem_filter.1 hp
   have h2:=of_decide_eq_true h2
   have hk:=of_decide_eq_true hk
   exact h p h1 q hq (by rw[h2,hk])
  rw[hb,List.nil_append,List.append_nil]
theorem gy.cons {a b:List ba}(p:ba) (h:gy a b):gy (p::a) (p::b):=gy.append (a:=[p]) (b:=[p]) (gy.refl _) h
theorem gy.length {a b:List ba}(h:gy a b):a.length=b.length:=by
 have key:∀ (n:Nat) (a b:List ba),a.length=n->gy a b->a.length=b.length:=by
  intro n
  induction n with
  | zero=>
   intro a b ha h
   have:a=[]:=List.length_eq_zero_iff.1 ha
   subst this
   cases b with
   | nil=>rfl
   | cons p b=>exact absurd (h.mem.2 (List.mem_cons_self)) (by simp)
  | succ n ih=>
   intro a b ha h
   match a,ha with
   | p::a,ha=>
    have hp:p∈b:=h.mem.1 (by simp)
    have hf:=h p.id
    rw[List.filter_cons,if_pos (by simp)]at hf
    obtain⟨u,v,hb,hu⟩:∃ u v,b=u++p::v/\∀ q∈u,q.id≠p.id:=by
     have:∀ b:List ba,(∃ r,b.filter (fun q=>decide (q.id=p.id))=p::r)->∃ u v,b=u++p::v/\∀ q∈u,q.id≠p.id:=by
      intro b
      induction b with
      | nil=>rintro⟨r,hr⟩;cases hr
      | cons x b ihb=>
       rintro⟨r,hr⟩
       rw[List.filter_cons]at hr
       by_cases hx:x.id=p.id
       ·rw[if_pos (by simp[hx])]at hr
        injection hr with h1 h2
        subst h1
        exact⟨[],b,rfl,by simp⟩
       ·rw[if_neg (by simp[hx])]at hr
        obtain⟨u,v,h1,h2⟩:=ihb ⟨r,hr⟩
        refine⟨x::u,v,by rw[h1];rfl,fun q hq=>?_⟩
        rcases List.mem_cons.1 hq with rfl|hq
        ·exact hx
        ·exact h2 q hq
     exact this b ⟨_,hf.symm⟩
    have h1:gy (u++p::v) (p::(u++v)):=by
     have:=gy.append (gy.swap (a:=u) (b:=[p]) (fun q hq r hr=>by rw[List.mem_singleton.1 hr];exact hu q hq)) (gy.refl v)
     simpa using this
    rw[hb]at h
    have h2:gy (p::a) (p::(u++v)):=h.trans h1
    have h3:gy a (u++v):=fun k=>by
     have e:=h2 k
     rw[List.filter_cons,List.filter_cons]at e
     by_cases hk:p.id=k
     ·rw[if_pos (by simp[hk]),if_pos (by simp[hk])]at e
      injection e
     ·rw[if_neg (by simp[hk]),if_neg (by simp[hk])]at e
      exact e
    have:=ih a (u++v) (by simpa using ha) h3
    rw[hb]
    simp only[List.length_cons,List.length_append]at this ⊢
    omega
 exact key _ a b rfl h
theorem zL:∀ {a b:List ba},fT a->fT b->gy a b->a=b
 | [],b,_,_,h=>by
  have:=h.length
  exact (List.length_eq_zero_iff.1 this.symm).symm
 | p::a,[],_,_,h=>by
  have:=h.length
  simp at this
 | p::a,q::b,ha,hb,h=>by
  have ha':=List.pairwise_cons.1 ha
  have hb':=List.pairwise_cons.1 hb
  have hpq:p.id=q.id:=by
   have h1:p∈q::b:=h.mem.1 (by simp)
   have h2:q∈p::a:=h.mem.2 (by simp)
   have e1:q.id≤p.id:=by
    rcases List.mem_cons.1 h1 with rfl|h1
    ·exact Int.le_refl _
    ·exact hb'.1 p h1
   have e2:p.id≤q.id:=by
    rcases List.mem_cons.1 h2 with rfl|h2
    ·exact Int.le_refl _
    ·exact ha'.1 q h2
   omega
  have hf:=h p.id
  rw[List.filter_cons,List.filter_cons,if_pos (by simp),if_pos (by simp[hpq])]at hf
  injection hf with h1 _
  subst h1
  have h3:gy a b:=fun k=>by
   have e:=h k
   rw[List.filter_cons,List.filter_cons]at e
   by_cases hk:p.id=k
   ·rw[if_pos (by simp[hk]),if_pos (by simp[hk])]at e
    injection e
   ·rw[if_neg (by simp[hk]),if_neg (by simp[hk])]at e
    exact e
  rw[zL ha'.2 hb'.2 h3]
def iG:List ba->ba->List ba
 | [],p=>[p]
 | q::l,p=>if p.id<q.id then p::q::l else q::iG l p
def kS (l:List ba):List ba:=l.foldl iG []
theorem BM (p:ba):∀ {l:List ba},fT l->gy (iG l p) (l++[p])/\fT (iG l p)
 | [],_=>⟨gy.refl _,by simp[iG,fT]⟩
 | q::l,h=>by
  have h':=List.pairwise_cons.1 h
  have ih:=BM p h'.2
  unfold iG
  by_cases hlt:p.id<q.id
  ·rw[if_pos hlt]
   refine⟨?_,List.pairwise_cons.2 ⟨fun x hx=>?_,h⟩⟩
   ·have:=gy.swap (a:=[p]) (b:=q::l) (fun x hx y hy=>by
     rw[List.mem_singleton.1 hx]
     rcases List.mem_cons.1 hy with rfl|hy
     ·omega
     ·have:=h'.1 y hy;omega)
    exact this
   ·rcases List.mem_cons.1 hx with rfl|hx
    ·omega
    ·have:=h'.1 x hx;omega
  ·rw[if_neg hlt]
   refine⟨gy.cons q ih.1,List.pairwise_cons.2 ⟨fun x hx=>?_,ih.2⟩⟩
   have:=ih.1.mem.1 hx
   rcases List.mem_append.1 this with hx|hx
   ·exact h'.1 x hx
   ·rw[List.mem_singleton.1 hx];omega
theorem vP (l:List ba):gy (kS l) l/\fT (kS l):=by
 have:∀ (l acc:List ba),fT acc->gy (l.foldl iG acc) (acc++l)/\fT (l.foldl iG acc):=by
  intro l
  induction l with
  | nil=>intro acc h;exact⟨by simpa using gy.refl acc,h⟩
  | cons p l ih=>
   intro acc h
   obtain⟨h1,h2⟩:=BM p h
   obtain⟨h3,h4⟩:=ih (iG acc p) h2
   refine⟨?_,h4⟩
   have:=h3.trans (gy.append h1 (gy.refl l))
   simpa using this
 have:=this l [] (by simp[fT])
 rw[List.nil_append]at this
 exact this
theorem Km {l s:List ba}(h1:gy s l) (h2:fT s):s=kS l:=zL h2 (vP l).2 (h1.trans (vP l).1.symm)
end Go.Esc.M
namespace Go.Esc.M
open Go Go.Esc
def H7 (a b:Int):Int:=if a<b then -1 else if b<a then 1 else 0
theorem wB {a b:Int}:decide (H7 a b<0)=decide (a<b):=by
 unfold H7
 by_cases h:a<b
 ·rw[if_pos h,dT_ h];rfl
 ·rw[if_neg h,dF_ h]
  split<;>rfl
theorem Kj (A B:List ba) (u p:ba):((A++u::p::B).set (A.length+1) u).set A.length p=A++p::u::B:=by
 rw[List.set_append_right _ _ (by omega),Nat.add_sub_cancel_left,List.set_append_right _ _ (by omega),Nat.sub_self]
 rfl
theorem get_at (A B:List ba) (u:ba):(A++u::B)[A.length]?=some u:=by
 rw[List.getElem?_append_right (by omega),Nat.sub_self]
 rfl
section
variable {F0:List AId}{G0 G:ak}{ps:List LP}{Q:ah->ak->Prop}
theorem fR.use {a:Int}(hQ:Q (.bool false) G):al P fR.n [.int .i64 a] G Q:=by
 refine fR.sound ?_
 unfold fR.S
 rw[nz0,aa]
 exact hQ
theorem fH.use {a b:Int}(hQ:Q (.int .i64 (H7 a b)) G):al P fH.n [.int .i64 a,.int .i64 b] G Q:=by
 refine fH.sound ?_
 unfold fH.S
 refine fR.use ?_
 refine fR.use ?_
 rw[aK,aK]
 unfold H7 at hQ
 rw[aM,aa,aI]
 refine⟨fun h=>by rwa [if_pos h]at hQ,fun h=>?_⟩
 rw[if_neg h]at hQ
 rw[da,aa,aI]
 refine⟨fun h2=>by rwa [if_pos (by omega)]at hQ,fun h2=>by rwa [if_neg (by omega)]at hQ⟩
theorem hI.use {p q:ba}(hp:p.ok) (hq:q.ok) (hQ:∀ G',Ch [] G [] G'->Q (.int .i64 (H7 p.id q.id)) G'):al P hI.n [p.av,q.av] G Q:=by
 refine hI.sound ?_
 unfold hI.S
 intro i1 f1
 have s1:=(Sp.nil G).row f1 p.av
 intro i3 f3
 have s3:=s1.row f3 q.av
 have hQ:=hQ _ s3.ch
 refine ae (ba.fld hp (au.own (i:=1) s3 rfl)).2.1 ?_
 refine ae (ba.fld hq (au.own (i:=0) s3 rfl)).2.1 ?_
 exact fH.use hQ
def uF:ah:=.func (.func hI.n) [] []
theorem wA {p q:ba}{K:ah->ak->Prop}(hp:p.ok) (hq:q.ok) (hK:∀ G',Ch [] G [] G'->K (.int .i64 (H7 p.id q.id)) G'):oS P uF [p.av,q.av] G K:=hI.use hp hq hK
theorem mO {v:ah}{l:List ba}{j:Nat}{p:ba}{x:Int}(h:ff 35 G v (l.map ba.av)) (hx:x=(j:Int)) (hj:l[j]?=some p):∃ a,aO T aw v (.int .i64 x)=some a/\ag T G aT a=some p.av:=by
 subst hx
 exact h.at_ (k:=.i64) (i:=b8) (ie:=dS) (T:=T) (t:=aw) (e:=aT) cy rfl eP (by rw[List.getElem?_map,hj];rfl) rfl
theorem tY {i j:Nat}{v:ah}{l:List ba}{p:ba}{x:Int}(hx:x=(j:Int)) (hs:Sp F0 G0 ps G) (hi:ps[i]?=some (bm 35 v (l.map ba.av))) (hj:j<l.length) (hp:p.ok) :
  ∃ a,aO T aw v (.int .i64 x)=some a/\∀ K:ak->Prop,(∀ G',Sp F0 G0 (ps.set i (bm 35 v ((l.set j p).map ba.av))) G'->K G')->wg (aF T G aT a p.av) K:=by
 subst hx
 exact Kr hs hi hj hp
theorem D8 {v:ah}{A B:List ba}{u p:ba}{y z:Int}{K:ak->Prop}(hu:u.ok) (hp:p.ok) (hy:y=(A.length:Int)) (hz:z=((A.length+1:Nat):Int)) (hs:Sp F0 G0 (bm 35 v ((A++u::p::B).map ba.av)::ps) G)
  (hK:∀ G',Sp F0 G0 (bm 35 v ((A++p::u::B).map ba.av)::ps) G'->K G') :
  wv (aO T aw v (.int .i64 y)) fun v31=>wv (ag T G aT v31) fun v32=>wv (aO T aw v (.int .i64 z)) fun v33=>wv (ag T G aT v33) fun v34=>wv (aO T aw v (.int .i64 z)) fun v35=>wg (aF T G aT v35 v32) fun G36=>wv (aO T aw v (.int .i64 y)) fun v37=>wg (aF T G36 aT v37 v34) K:=by
 have hsl:=(bm.own (i:=0) hs rfl).is
 have g1:(A++u::p::B)[A.length]?=some u:=get_at A (p::B) u
 have g2:(A++u::p::B)[A.length+1]?=some p:=by
  rw[List.getElem?_append_right (by omega),Nat.add_sub_cancel_left]
  rfl
 obtain⟨a,e1,e2⟩:=mO hsl hy g1
 refine ae e1 ?_
 refine ae e2 ?_
 obtain⟨b,e3,e4⟩:=mO hsl hz g2
 refine ae e3 ?_
 refine ae e4 ?_
 obtain⟨c,e5,e6⟩:=tY (i:=0) (p:=u) hz hs rfl (by simp) hu
 refine ae e5 ?_
 refine e6 _ fun G36 s36=>?_
 have s36:Sp F0 G0 (bm 35 v (((A++u::p::B).set (A.length+1) u).map ba.av)::ps) G36:=s36
 obtain⟨d,e7,e8⟩:=tY (i:=0) (p:=p) hy s36 rfl (by simp) hp
 refine ae e7 ?_
 refine e8 _ fun G38 s38=>?_
 have s38:Sp F0 G0 (bm 35 v ((((A++u::p::B).set (A.length+1) u).set A.length p).map ba.av)::ps) G38:=s38
 rw[Kj]at s38
 exact hK _ s38
theorem B5.use {v:ah}{X S Y:List ba}{a b:Int}(hok:∀ p∈X++S++Y,p.ok) (hlen:(X++S++Y).length≤1048576) (ha:a=(X.length:Int)) (hb:b=((X.length+S.length:Nat):Int)) (hs:Sp F0 G0 (bm 35 v ((X++S++Y).map ba.av)::ps) G)
  (hQ:∀ S' G',gy S' S->fT S'->Sp F0 G0 (bm 35 v ((X++S'++Y).map ba.av)::ps) G'->Q (.tuple []) G') :
  al P bh.n [v,.int .i64 a,.int .i64 b,uF] G Q:=by
 refine bh.sound ?_
 unfold bh.S
 subst ha hb
 simp only[List.length_append]at hlen
 rw[bg,i64_in (by omega) (by omega),aa]
 intro R hR
 have loop:∀ (m j:Nat) (S0 T0:List ba) (G':ak),S.length-j=m->(j≤S.length\/j=1)->S0.length=min j S.length->gy (S0++T0) S->fT S0->Sp F0 G0 (bm 35 v ((X++(S0++T0)++Y).map ba.av)::ps) G' ->
   R [v,.int .i64 (X.length:Int),.int .i64 ((X.length+S.length:Nat):Int),uF,.int .i64 ((X.length+j:Nat):Int)] G':=by
  intro m
  induction m with
  | zero=>
   intro j S0 T0 G' hm hj hl0 hst hso sp
   refine hR _ _ _ _ _ _ ?_
   rw[aM,aa,dF_ (by omega),aK]
   have hlen2:=hst.length
   rw[List.length_append]at hlen2
   have:T0=[]:=List.length_eq_zero_iff.1 (by omega)
   subst this
   rw[List.append_nil]at hst sp
   exact hQ _ _ hst hso sp
  | succ m ih=>
   intro j S0 T0 G' hm hj hl0 hst hso sp
   have hlen2:=hst.length
   rw[List.length_append]at hlen2
   refine hR _ _ _ _ _ _ ?_
   rw[aM,aa,dT_ (by omega),aN]
   cases T0 with
   | nil=>
    exfalso
    rw[List.length_nil]at hlen2
    omega
   | cons p T1=>
    have hmem:∀ q,q∈S0++p::T1->q.ok:=fun q hq=>hok q (by
     have:=hst.mem.1 hq
     simp[this])
    have hpo:=hmem p (by simp)
    intro R2 hR2
    have inner:∀ (n:Nat) (U V:List ba) (G':ak),U.length=n->U++V=S0->(∀ q∈V,p.id<q.id)->Sp F0 G0 (bm 35 v ((X++(U++p::V++T1)++Y).map ba.av)::ps) G' ->
      R2 [v,.int .i64 (X.length:Int),.int .i64 ((X.length+S.length:Nat):Int),uF,.int .i64 ((X.length+j:Nat):Int),.int .i64 ((X.length+U.length:Nat):Int)] G':=by
     intro n
     induction n with
     | zero=>
      intro U V G' hU hUV hV sp
      have:U=[]:=List.length_eq_zero_iff.1 hU
      subst this
      refine hR2 _ _ _ _ _ _ _ ?_
      intro J40
      rw[da,aa,dF_ (by simp),aK]
      simp -zeta only [J40,aK]
      rw[bg,i64_in (by omega) (by omega),aa]
      have hVS:V=S0:=by simpa using hUV
      refine ih (j+1) (p::V) T1 G' (by omega) (by omega) ?_ ?_ ?_ ?_
      ·rw[List.length_cons,hVS,hl0];simp at hlen2;omega
      ·refine gy.trans ?_ hst
       have:=gy.append (gy.swap (a:=[p]) (b:=V) (fun x hx y hy=>by rw[List.mem_singleton.1 hx];have:=hV y hy;omega)) (gy.refl T1)
       rw[hVS]at this ⊢
       simpa using this
      ·exact List.pairwise_cons.2 ⟨fun q hq=>by have:=hV q hq;omega,by rw[hVS];exact hso⟩
      ·simpa using sp
     | succ n ihn=>
      intro U V G' hU hUV hV sp
      obtain⟨W,u,rfl⟩:∃ W u,U=W++[u]:=⟨U.dropLast,U.getLast (by intro h;rw[h]at hU;simp at hU),(List.dropLast_concat_getLast _).symm⟩
      have huo:u.ok:=hmem u (by rw[<- hUV];simp)
      have hWl:W.length=n:=by simpa using hU
      have hUl:(W++[u]).length=W.length+1:=by simp
      have e0:X++(W++[u]++p::V++T1)++Y=(X++W)++u::p::(V++T1++Y):=by simp
      rw[e0]at sp
      have hsl:=(bm.own (i:=0) sp rfl).is
      have g1:((X++W)++u::p::(V++T1++Y))[X.length+W.length]?=some u:=by
       have:=get_at (X++W) (p::(V++T1++Y)) u
       rwa [List.length_append]at this
      have g2:((X++W)++u::p::(V++T1++Y))[X.length+W.length+1]?=some p:=by
       rw[List.getElem?_append_right (by rw[List.length_append];omega),List.length_append,Nat.add_sub_cancel_left]
       rfl
      rw[hUl]
      have hjw:W.length+1≤S.length:=by
       have:=congrArg List.length hUV
       simp at this
       omega
      refine hR2 _ _ _ _ _ _ _ ?_
      intro J40
      rw[da,aa,dT_ (by omega),aN]
      obtain⟨c1,e1,e2⟩:=mO (x:=((X.length+(W.length+1):Nat):Int)) hsl (by omega) g2
      refine ae e1 ?_
      refine ae e2 ?_
      rw[b7,i64_in (by omega) (by omega),aa]
      obtain⟨c2,e3,e4⟩:=mO (x:=((X.length+(W.length+1):Nat):Int)-1) hsl (by omega) g1
      refine ae e3 ?_
      refine ae e4 ?_
      refine wA hpo huo fun G25 c25=>?_
      have s25:=sp.tmp c25
      rw[aM,aa,wB]
      by_cases hlt:p.id<u.id
      ·rw[dT_ hlt]
       simp -zeta only [J40,aN]
       rw[b7,i64_in (by omega) (by omega),aa,aa]
       refine D8 (A:=X++W) (B:=V++T1++Y) huo hpo (by rw[List.length_append];omega) (by rw[List.length_append];omega) s25 fun G38 s38=>?_
       rw[aa]
       have e5:(X++W)++p::u::(V++T1++Y)=X++(W++p::(u::V)++T1)++Y:=by simp
       rw[e5]at s38
       have:=ihn W (u::V) G38 hWl (by rw[<- hUV];simp) (fun q hq=>by
        rcases List.mem_cons.1 hq with rfl|hq
        ·exact hlt
        ·exact hV q hq) s38
       have e6:((X.length+(W.length+1):Nat):Int)-1=((X.length+W.length:Nat):Int):=by omega
       rw[e6]
       exact this
      ·rw[dF_ hlt]
       simp -zeta only [J40,aK]
       rw[bg,i64_in (by omega) (by omega),aa]
       have e5:(X++W)++u::p::(V++T1++Y)=X++((W++[u]++p::V)++T1)++Y:=by simp
       rw[e5]at s25
       have hs0:fT (W++[u]++V):=by rw[hUV];exact hso
       have hWu:∀ q∈W++[u],q.id≤u.id:=by
        intro q hq
        rcases List.mem_append.1 hq with hq|hq
        ·unfold fT at hs0
         rw[List.append_assoc,List.pairwise_append]at hs0
         exact hs0.2.2 q hq u (by simp)
        ·rw[List.mem_singleton.1 hq];exact Int.le_refl _
       refine ih (j+1) (W++[u]++p::V) T1 G25 (by omega) (by omega) ?_ ?_ ?_ s25
       ·have:=congrArg List.length hUV
        simp at this hlen2 ⊢
        omega
       ·refine gy.trans ?_ hst
        have:=gy.append (gy.refl (W++[u])) (gy.append (gy.swap (a:=[p]) (b:=V) (fun x hx y hy=>by rw[List.mem_singleton.1 hx];have:=hV y hy;omega)) (gy.refl T1))
        rw[<- hUV]
        simpa using this
       ·unfold fT at hs0 ⊢
        rw[List.pairwise_append]at hs0 ⊢
        refine⟨hs0.1,List.pairwise_cons.2 ⟨fun q hq=>by have:=hV q hq;omega,hs0.2.1⟩,fun x hx y hy=>?_⟩
        rcases List.mem_cons.1 hy with rfl|hy
        ·have:=hWu x hx;omega
        ·exact hs0.2.2 x hx y hy
    have:=inner S0.length S0 [] G' rfl (by simp) (by simp) (by simpa using sp)
    have ej:((X.length+j:Nat):Int)=((X.length+S0.length:Nat):Int):=by rw[hl0];simp at hlen2;omega
    rw[ej]at this ⊢
    exact this
 have e1:((X.length:Int)+1)=((X.length+1:Nat):Int):=by omega
 rw[e1]
 cases S with
 | nil=>exact loop 0 1 [] [] G rfl (by simp) (by simp) (gy.refl _) (by simp[fT]) hs
 | cons p S=>exact loop S.length 1 [p] S G (by simp) (by simp) (by simp) (gy.refl _) (by simp[fT]) (by simpa using hs)
end
end Go.Esc.M
