import Derived.Test.YtkojimdacnohpaaGreatDoorEZ
import Derived.Test.YtkojimdacnohpaaGreatDoorSS
import Derived.Test.YtkojimdacnohpaaGreatDoorLHc
set_option maxHeartbeats 1000000
set_option linter.unusedSimpArgs false
set_option linter.unusedVariables false
set_option maxRecDepth 20000
namespace Go.Esc.M
open Go Go.Esc
def be:Nat->Nat->List UInt8
 | 0,_=>[]
 | k+1,v=>UInt8.ofNat (v/2 ^ (8*k))::be k v
theorem iH (v:Nat):∀ k,(be k v).length=k
 | 0=>rfl
 | k+1=>by simp[be,iH v k]
theorem vR (v i:Nat) (hi:i≤7):IntKind.u8.wrap ((v:Int).fdiv (2 ^ min ((8:Int)*(i:Int)).toNat IntKind.u64.bits))=((v/2 ^ (8*i) % 256:Nat):Int):=by
 have h1:min ((8:Int)*(i:Int)).toNat IntKind.u64.bits=8*i:=by
  have:IntKind.u64.bits=64:=rfl;omega
 rw[h1,IntKind.wrap_u8];have h2:((2:Int) ^ (8*i))=((2 ^ (8*i):Nat):Int):=by simp
 rw[h2,Int.fdiv_eq_ediv_of_nonneg _ (Int.natCast_nonneg _)];simp
def laid (st:List UInt8×Int) (xs:List UInt8):List UInt8×Int:=if st.2=0 then (st.1++xs,0) else st
def Wr (id:AId) (st:List UInt8×Int) (G:ak) (F:List AId):Prop:=WrP id st.1 st.2 G F
theorem WrP.fault {id:AId}{bs:List UInt8}{f:Int}{G:ak}{F:List AId}(h:WrP id bs f G F):ag T G bD (.ptr id [1] 1)=some (.int .i64 f):=by
 obtain⟨s,hg,ho,_⟩:=h;exact dI hg rfl (by simp[szs,ho.leaf.1]) rfl tK rfl
theorem WrP.load {id:AId}{bs:List UInt8}{f:Int}{G:ak}{F:List AId}(h:WrP id bs f G F) :
  ∃ s,ag T G aR (.ptr id [0] 0)=some s/\G id=some (.own (.agg [s,.int .i64 f]))/\Own 1 G s (bs.map u8v)/\rowOf s≠some id/\F=id::(rowOf s).toList:=by
 obtain⟨s,hg,ho,hne,hF⟩:=h;exact⟨s,dI hg rfl rfl rfl eC (by simp[dD,ho.leaf.1,ho.leaf.2.1,fJ,kZ.isAgg]),hg,ho,hne,hF⟩
theorem Ao {id:AId}{bs:List UInt8}{f:Int}{G:ak}{F:List AId}(h:WrP id bs f G F) (hb:bs.length+1≤140737488355328) :
  ∃ s,ag T G aR (.ptr id [0] 0)=some s/\∀ (b:UInt8) (K:ak->Prop),(∀ F' G',WrP id (bs++[b]) f G' F'->Ch F G F' G'->K G') ->
   bu T aR 1 [(0,u8v b)] G fun v G1=>cn T G1 aR aR s v fun v2 G2=>wg (aF T G2 aR (.ptr id [0] 0) v2) K:=by
 obtain⟨s,hl,hg,ho,hne,rfl⟩:=WrP.load h;refine⟨s,hl,fun b K hK=>?_⟩;refine Di (T:=T) (ts:=aR) (e:=cm) (si:=fJ) (ie:=gi) eC rfl cW rfl (by decide) ho rfl rfl (by decide) ?_ fun s' G2 ho2 hk=>?_
 ·simp only[List.length_map,gi];omega
 ·obtain⟨G',hst,hw,hch⟩:=WrP.put (T:=T) (tb:=aR) (ib:=fJ) eC (.inr rfl) rfl (bs':=bs++[b]) hg hne ho.leaf.1 (by rw[List.map_append];exact ho2) hk;rw[hst,jl];exact hK _ _ hw hch
theorem I2 {id:AId}{bs xs:List UInt8}{f:Int}{G:ak}{F:List AId}(h:WrP id bs f G F) (hb:bs.length+xs.length≤140737488355328) :
  ∃ s,ag T G aR (.ptr id [0] 0)=some s/\∀ (K:ak->Prop),(∀ F' G',WrP id (bs++xs) f G' F'->Ch F G F' G'->K G') ->
   cn T G aR bH s (.str xs) fun v2 G2=>wg (aF T G2 aR (.ptr id [0] 0) v2) K:=by
 obtain⟨s,hl,hg,ho,hne,rfl⟩:=WrP.load h;refine⟨s,hl,fun K hK=>?_⟩;refine r7 (T:=T) (e:=cm) (si:=fJ) (ie:=gi) (vs:=xs.map u8v) eC rfl cW rfl (by decide) fS (.inl rfl) ho (by simp[gq,gi,u8v,Function.comp_def]) (kd _) (kM _) ?_ fun s' G2 ho2 hk=>?_
 ·simp only[List.length_map,gi];omega
 ·obtain⟨G',hst,hw,hch⟩:=WrP.put (T:=T) (tb:=aR) (ib:=fJ) eC (.inr rfl) rfl (bs':=bs++xs) hg hne ho.leaf.1 (by rw[List.map_append];exact ho2) hk;rw[hst,jl];exact hK _ _ hw hch
theorem jV.use {G:ak}{Q:ah->ak->Prop}(h:∀ id G',Wr id ([],0) G' [id]->Ch [] G [id] G'->Q (.ptr id [] 0) G'):al P jV.n [] G Q:=by
 refine jV.sound ?_;unfold jV.S;intro id hf;exact h _ _ ⟨.nilSlice,ak.dR _ _ _,.inl ⟨rfl,rfl⟩,by simp[rowOf],rfl⟩ (Ch.new hf)
theorem gh.use {id:AId}{st:List UInt8×Int}{v k:Nat}{G:ak}{F:List AId}{Q:ah->ak->Prop}(hv:v<2 ^ 8) (hk:k≤8) (h:Wr id st G F) (hb:st.1.length+k≤140737488355328)
  (hQ:∀ F' G',Wr id (laid st (be k v)) G' F'->Ch F G F' G'->Q (.tuple []) G'):al P gh.n [.ptr id [] 0,.int .u8 v,.int .i64 k] G Q:=by
 refine gh.sound ?_;unfold gh.S;obtain⟨bs,f⟩:=st;have hf:=WrP.fault h;show wv (ag T G bD (.ptr id [1] 1)) _;rw[hf];simp -zeta only [aa,cD,dC,b7];refine⟨fun h0=>?_,fun h0=>?_⟩
 ·refine hQ F G ?_ (Ch.refl _ _);simpa[laid,h0,Wr] using h
 ·subst h0;intro R hR;rw[i64_in (by omega) (by omega)];have hb:bs.length+k≤140737488355328:=hb;have loop:∀ (i:Nat) (bs':List UInt8) (F':List AId) (G':ak),i≤k->bs'.length+i≤140737488355328->WrP id bs' 0 G' F'->Ch F G F' G'->bs++be k v=bs'++be i v ->
    R [.ptr id [] 0,.int .u8 v,.int .i64 ((i:Int)-1)] G':=by
   intro i;induction i with
   | zero=>
    intro bs' F' G' _ _ hw hch he;refine hR _ _ _ _ ?_;simp -zeta only [fI,aa,aI];refine⟨fun h=>absurd h (by omega),fun _=>hQ F' G' ?_ hch⟩;simp only[be,List.append_nil]at he;simp only[laid,if_true,Wr,he];exact hw
   | succ i ih=>
    intro bs' F' G' hi hb' hw hch he;refine hR _ _ _ _ ?_;have ei:((i+1:Nat):Int)-1=(i:Int):=(by omega);rw[ei];simp -zeta only [fI,aa,aI];refine⟨fun _=>?_,fun h=>absurd (by omega) h⟩;obtain⟨s,hl,hstep⟩:=Ao hw (by omega);show wv (ag T G' aR (.ptr id [0] 0)) _;rw[hl,aa];rw[jk cW n5 rfl,aa,u64_in (by omega) (by omega)];rw[kP,aa,i64_in (by omega) (by omega),nB _ _ _ _ _ _ (by omega),aa,jk n5 cW rfl,aa,vR v i (by omega),<- nr];refine hstep _ _ fun F2 G2 hw2 hch2=>?_;show wv (az T .sub ay (.int .i64 i) (.int .i64 1)) _;simp -zeta only [b7,aa];rw[i64_in (by omega) (by omega)];refine ih _ F2 G2 (by omega) (by simp;omega) hw2 (hch.trans hch2) ?_;rw[he,be];simp
  exact loop k bs F G (Nat.le_refl _) (by omega) h (Ch.refl _ _) rfl
theorem fE.use {id:AId}{st:List UInt8×Int}{v k:Nat}{G:ak}{F:List AId}{Q:ah->ak->Prop}(hv:v<2 ^ 16) (hk:k≤8) (h:Wr id st G F) (hb:st.1.length+k≤140737488355328)
  (hQ:∀ F' G',Wr id (laid st (be k v)) G' F'->Ch F G F' G'->Q (.tuple []) G'):al P fE.n [.ptr id [] 0,.int .u16 v,.int .i64 k] G Q:=by
 refine fE.sound ?_;unfold fE.S;obtain⟨bs,f⟩:=st;have hf:=WrP.fault h;show wv (ag T G bD (.ptr id [1] 1)) _;rw[hf];simp -zeta only [aa,cD,dC,b7];refine⟨fun h0=>?_,fun h0=>?_⟩
 ·refine hQ F G ?_ (Ch.refl _ _);simpa[laid,h0,Wr] using h
 ·subst h0;intro R hR;rw[i64_in (by omega) (by omega)];have hb:bs.length+k≤140737488355328:=hb;have loop:∀ (i:Nat) (bs':List UInt8) (F':List AId) (G':ak),i≤k->bs'.length+i≤140737488355328->WrP id bs' 0 G' F'->Ch F G F' G'->bs++be k v=bs'++be i v ->
    R [.ptr id [] 0,.int .u16 v,.int .i64 ((i:Int)-1)] G':=by
   intro i;induction i with
   | zero=>
    intro bs' F' G' _ _ hw hch he;refine hR _ _ _ _ ?_;simp -zeta only [fI,aa,aI];refine⟨fun h=>absurd h (by omega),fun _=>hQ F' G' ?_ hch⟩;simp only[be,List.append_nil]at he;simp only[laid,if_true,Wr,he];exact hw
   | succ i ih=>
    intro bs' F' G' hi hb' hw hch he;refine hR _ _ _ _ ?_;have ei:((i+1:Nat):Int)-1=(i:Int):=(by omega);rw[ei];simp -zeta only [fI,aa,aI];refine⟨fun _=>?_,fun h=>absurd (by omega) h⟩;obtain⟨s,hl,hstep⟩:=Ao hw (by omega);show wv (ag T G' aR (.ptr id [0] 0)) _;rw[hl,aa];rw[jk ER n5 rfl,aa,u64_in (by omega) (by omega)];rw[kP,aa,i64_in (by omega) (by omega),nB _ _ _ _ _ _ (by omega),aa,jk n5 cW rfl,aa,vR v i (by omega),<- nr];refine hstep _ _ fun F2 G2 hw2 hch2=>?_;show wv (az T .sub ay (.int .i64 i) (.int .i64 1)) _;simp -zeta only [b7,aa];rw[i64_in (by omega) (by omega)];refine ih _ F2 G2 (by omega) (by simp;omega) hw2 (hch.trans hch2) ?_;rw[he,be];simp
  exact loop k bs F G (Nat.le_refl _) (by omega) h (Ch.refl _ _) rfl
theorem fD.use {id:AId}{st:List UInt8×Int}{v k:Nat}{G:ak}{F:List AId}{Q:ah->ak->Prop}(hv:v<2 ^ 64) (hk:k≤8) (h:Wr id st G F) (hb:st.1.length+k≤140737488355328)
  (hQ:∀ F' G',Wr id (laid st (be k v)) G' F'->Ch F G F' G'->Q (.tuple []) G'):al P fD.n [.ptr id [] 0,.int .u64 v,.int .i64 k] G Q:=by
 refine fD.sound ?_;unfold fD.S;obtain⟨bs,f⟩:=st;have hf:=WrP.fault h;show wv (ag T G bD (.ptr id [1] 1)) _;rw[hf];simp -zeta only [aa,cD,dC,b7];refine⟨fun h0=>?_,fun h0=>?_⟩
 ·refine hQ F G ?_ (Ch.refl _ _);simpa[laid,h0,Wr] using h
 ·subst h0;intro R hR;rw[i64_in (by omega) (by omega)];have hb:bs.length+k≤140737488355328:=hb;have loop:∀ (i:Nat) (bs':List UInt8) (F':List AId) (G':ak),i≤k->bs'.length+i≤140737488355328->WrP id bs' 0 G' F'->Ch F G F' G'->bs++be k v=bs'++be i v ->
    R [.ptr id [] 0,.int .u64 v,.int .i64 ((i:Int)-1)] G':=by
   intro i;induction i with
   | zero=>
    intro bs' F' G' _ _ hw hch he;refine hR _ _ _ _ ?_;simp -zeta only [fI,aa,aI];refine⟨fun h=>absurd h (by omega),fun _=>hQ F' G' ?_ hch⟩;simp only[be,List.append_nil]at he;simp only[laid,if_true,Wr,he];exact hw
   | succ i ih=>
    intro bs' F' G' hi hb' hw hch he;refine hR _ _ _ _ ?_;have ei:((i+1:Nat):Int)-1=(i:Int):=(by omega);rw[ei];simp -zeta only [fI,aa,aI];refine⟨fun _=>?_,fun h=>absurd (by omega) h⟩;obtain⟨s,hl,hstep⟩:=Ao hw (by omega);show wv (ag T G' aR (.ptr id [0] 0)) _;rw[hl,aa];rw[kP,aa,i64_in (by omega) (by omega),nB _ _ _ _ _ _ (by omega),aa,jk n5 cW rfl,aa,vR v i (by omega),<- nr];refine hstep _ _ fun F2 G2 hw2 hch2=>?_;show wv (az T .sub ay (.int .i64 i) (.int .i64 1)) _;simp -zeta only [b7,aa];rw[i64_in (by omega) (by omega)];refine ih _ F2 G2 (by omega) (by simp;omega) hw2 (hch.trans hch2) ?_;rw[he,be];simp
  exact loop k bs F G (Nat.le_refl _) (by omega) h (Ch.refl _ _) rfl
theorem fF.use {id:AId}{st:List UInt8×Int}{xs:List UInt8}{G:ak}{F:List AId}{Q:ah->ak->Prop}(h:Wr id st G F) (hb:st.1.length+xs.length≤140737488355328)
  (hQ:∀ F' G',Wr id (laid st xs) G' F'->Ch F G F' G'->Q (.tuple []) G'):al P fF.n [.ptr id [] 0,.str xs] G Q:=by
 refine fF.sound ?_;unfold fF.S;obtain⟨bs,f⟩:=st;have hf:=WrP.fault h;show wv (ag T G bD (.ptr id [1] 1)) _;rw[hf];simp -zeta only [aa,bB,aI];refine⟨fun h0=>?_,fun h0=>?_⟩
 ·obtain⟨s,hl,hstep⟩:=I2 h hb;show wv (ag T G aR (.ptr id [0] 0)) _;rw[hl,aa];refine hstep _ fun F' G' hw hch=>hQ F' G' ?_ hch;simpa[laid,h0,Wr] using hw
 ·refine hQ F G ?_ (Ch.refl _ _);simpa[laid,h0,Wr] using h
end Go.Esc.M
namespace Go.Esc.M
open Go Go.Esc
theorem yc {T:Tbl}{G:ak}{s d e:TypeId}{si di ie:TI}{v:ah}{l:List UInt8}(hs:T s=some si) (hsd:si.desc=.slice e) (he:T e=some ie) (hed:ie.desc=.int .u8) (hd:T d=some di) (hdd:di.desc=.string)
  (h:ff 1 G v (l.map u8v)):gv T G s d v=some (.str l):=by
 rcases h with ⟨id,p,st,off,len,cap,rfl,h⟩|⟨rfl,hl⟩
 ·simp[gv,hs,hd,hdd,hsd,he,hed,h,vx]
 ·have:l=[]:=by simpa using hl
  subst this;simp[gv,hs,hd,hdd,hsd,he,hed]
theorem Wr.ch {id:AId}{st:List UInt8×Int}{G G':ak}{F E E':List AId}(h:Wr id st G F) (hc:Ch E G E' G') (hd:∀ j∈F,j ∉ E):Wr id st G' F:=WrP.frame h (hc.same (WrP.rows h) hd)
section
variable {id:AId}{st:List UInt8×Int}{G:ak}{F:List AId}{Q:ah->ak->Prop}
theorem eo.use {v:Nat}(hv:v<2 ^ 8) (h:Wr id st G F) (hb:st.1.length+8≤140737488355328) (hQ:∀ F' G',Wr id (laid st (be 1 v)) G' F'->Ch F G F' G'->Q (.tuple []) G') :
  al P eo.n [.ptr id [] 0,.int .u8 v] G Q:=eo.sound (gh.use (k:=1) hv (by omega) h (by omega) hQ)
theorem fV.use {v:Nat}(hv:v<2 ^ 16) (h:Wr id st G F) (hb:st.1.length+8≤140737488355328) (hQ:∀ F' G',Wr id (laid st (be 2 v)) G' F'->Ch F G F' G'->Q (.tuple []) G') :
  al P fV.n [.ptr id [] 0,.int .u16 v] G Q:=fV.sound (fE.use (k:=2) hv (by omega) h (by omega) hQ)
def kn (n:Int):Nat:=(n % 18446744073709551616).toNat
theorem Ie (n:Int):kn n<2 ^ 64:=by
 unfold kn;omega
theorem Dv (n:Int):IntKind.u64.wrap n=(kn n:Int):=by
 rw[rL];unfold kn;omega
theorem cB.use {v:Int}(h:Wr id st G F) (hb:st.1.length+8≤140737488355328) (hQ:∀ F' G',Wr id (laid st (be 8 (kn v))) G' F'->Ch F G F' G'->Q (.tuple []) G') :
  al P cB.n [.ptr id [] 0,.int .i64 v] G Q:=by
 refine cB.sound ?_;unfold cB.S;rw[jk cu n5 rfl,aa,Dv];exact fD.use (k:=8) (Ie v) (by omega) h (by omega) hQ
theorem dG.use {hs:List UInt8}(hl:hs.length=32) (h:Wr id st G F) (hb:st.1.length+32≤140737488355328) (hQ:∀ F' G',Wr id (laid st hs) G' F'->Ch F G F' G'->Q (.tuple []) G') :
  al P dG.n [.ptr id [] 0,.agg (hs.map u8v)] G Q:=by
 refine dG.sound ?_;unfold dG.S;intro i hf;have hch:Ch [] G [] (G.upd i (.own (.agg (hs.map u8v)))):=⟨pa.of_le (hf.le _),fun j x hj _=>hf.le _ _ _ hj,fun j hj=>by simp at hj⟩;have hsl:ff 1 (G.upd i (.own (.agg (hs.map u8v)))) (.slice i [] 0 0 32 32) (hs.map u8v):=by
  have:=qf (n:=1) (cap:=32) (len:=32) (ak.dR G i (.own (.agg (hs.map u8v)))) rfl (kd hs) (by simp[hl])
  rwa [List.take_of_length_le (by simp[hl])]at this
 show wv (gv T _ aR bH (.slice i [] 0 0 32 32)) _;rw[yc eC rfl cW rfl fS rfl hsl,aa];exact fF.use (h.ch hch (by simp)) (by omega) fun F' G' hw hc=>hQ F' G' hw (hch.grow.trans hc)
theorem fG.use (h:Wr id st G F) (hQ:Q (.tuple [.str (if st.2=0 then st.1 else []),.int .i64 st.2]) G):al P fG.n [.ptr id [] 0] G Q:=by
 refine fG.sound ?_;unfold fG.S;have hf:=WrP.fault h;show wv (ag T G bD (.ptr id [1] 1)) _;rw[hf];simp -zeta only [aa,cD,dC];refine⟨fun h0=>?_,fun h0=>?_⟩
 ·show wv (ag T G bD (.ptr id [1] 1)) _;rw[hf,aa];simpa[h0] using hQ
 ·obtain⟨s,hl,_,ho,_⟩:=WrP.load h;show wv (ag T G aR (.ptr id [0] 0)) _;rw[hl,aa,yc eC rfl cW rfl fS rfl ho.is,aa];simpa[h0] using hQ
end
end Go.Esc.M
namespace Go.Esc.M
open Go Go.Esc
section
variable {id:AId}{st:List UInt8×Int}{G:ak}{F:List AId}{Q:ah->ak->Prop}
end
end Go.Esc.M
namespace Go.Esc.M
open Go Go.Esc
def Rd (id:AId) (st:List UInt8×Int) (G:ak):Prop:=G id=some (.own (.agg [.str st.1,.int .i64 st.2]))
section
variable {id:AId}{st:List UInt8×Int}{G:ak}{Q:ah->ak->Prop}
theorem Rd.fault (h:Rd id st G):ag T G bD (.ptr id [1] 1)=some (.int .i64 st.2):=dI h rfl rfl rfl tK rfl
theorem Rd.rest (h:Rd id st G):ag T G bH (.ptr id [0] 0)=some (.str st.1):=dI h rfl rfl rfl fS rfl
def takes (st:List UInt8×Int) (n:Int):List UInt8×(List UInt8×Int):=
 if st.2=0 then (if (st.1.length:Int)<n then ([],([],2)) else (st.1.take n.toNat,(st.1.drop n.toNat,0))) else ([],st)
def aif:Nat->List UInt8->Nat
 | v,[]=>v
 | v,b::l=>aif (v*256+b.toNat) l
def num (l:List UInt8):Nat:=aif 0 l
theorem E5 {l:List UInt8}{j:Nat}(h:j<l.length):pz T bH (.str l) (.int .i64 j)=some (.int .u8 l[j].toNat):=by
 simp[pz,fS,iO,h]
end
end Go.Esc.M
namespace Go.Esc.M
open Go Go.Esc
section
variable {id:AId}{st:List UInt8×Int}{G:ak}{Q:ah->ak->Prop}
end
theorem Rd.ch {id:AId}{st:List UInt8×Int}{G G':ak}{E E':List AId}(h:Rd id st G) (hc:Ch E G E' G') (hd:id ∉ E):Rd id st G':=hc.others _ _ h hd
theorem Rd.row {id:AId}{st:List UInt8×Int}{G:ak}(h:Rd id st G):(G id).isSome=true:=by rw[h];rfl
end Go.Esc.M
namespace Go.Esc.M
open Go Go.Esc
end Go.Esc.M
namespace Go.Esc.M
open Go Go.Esc
end Go.Esc.M
namespace Go.Esc.M
open Go Go.Esc
def RdL (id:AId) (st:List UInt8×Int):LP where
 p:=fun G F=>Rd id st G/\F=[id]
 rows:=by rintro G F ⟨h,rfl⟩ j hj;simp at hj;subst hj;exact h.row
 loc:=by rintro G G' F ⟨h,rfl⟩ hs;exact⟨by unfold Rd at h ⊢;rw[hs id (by simp)];exact h,rfl⟩
def RdR (id:AId) (st:List UInt8×Int) (G:ak):Prop:=∃ l,G id=some (.own (.agg [.str l,.int .i64 st.2]))/\(st.2=0->l=st.1)/\(st.2≠0->st.1=[])
section
variable {id:AId}{st:List UInt8×Int}{G:ak}{Q:ah->ak->Prop}
theorem RdR.fault (h:RdR id st G):ag T G bD (.ptr id [1] 1)=some (.int .i64 st.2):=h.elim fun _ h=>dI h.1 rfl rfl rfl tK rfl
theorem RdR.rest (h:RdR id st G) (h0:st.2=0):ag T G bH (.ptr id [0] 0)=some (.str st.1):=h.elim fun l h=>by rw[<- h.2.1 h0];exact dI h.1 rfl rfl rfl fS rfl
theorem RdR.ch {G':ak}{E E':List AId}(h:RdR id st G) (hc:Ch E G E' G') (hd:id ∉ E):RdR id st G':=h.elim fun l h=>⟨l,hc.others _ _ h.1 hd,h.2⟩
theorem RdR.row (h:RdR id st G):(G id).isSome=true:=h.elim fun l h=>by rw[h.1];rfl
theorem DP {b:List UInt8}{n:Int}(h:(b.length:Int)<n):takes (b,0) n=([],([],2)):=by simp[takes,h]
theorem IE {b:List UInt8}{n:Int}(h:¬ (b.length:Int)<n):takes (b,0) n=(b.take n.toNat,(b.drop n.toNat,0)):=by simp[takes,h]
end
section
variable {id:AId}{st:List UInt8×Int}{G:ak}{Q:ah->ak->Prop}
end
end Go.Esc.M
namespace Go.Esc.M
open Go Go.Esc
structure xV where
 kind:Int
 u:Nat
 i:Int
 h:List UInt8
 s:List UInt8
 times:Int
def xV.av (x:xV):ah:=.agg [.int .i64 x.kind,.int .u64 x.u,.int .i64 x.i,.agg (x.h.map u8v),.str x.s,.int .i64 x.times]
structure xV.ok (x:xV) (m:Nat):Prop where
 kind:I64 x.kind
 u:x.u<2 ^ 64
 i:I64 x.i
 h:x.h.length=32
 times:I64 x.times
 m:x.s.length+1≤m
def xV.k (x:xV):Int:=x.kind % 8
section
variable {G:ak}{Q:ah->ak->Prop}
def grown (s:List UInt8):Nat->List UInt8->List UInt8
 | 0,c=>c
 | n+1,c=>if c.length<70000/\c≠[] then grown s n (c++s) else c
def xV.text (x:xV):List UInt8:=grown x.s (x.times-1).toNat x.s
section
variable {id:AId}{st:List UInt8×Int}{F:List AId}{x:xV}{m:Nat}
theorem xV.fld {G:ak}{i:AId}(hx:x.ok m) (hg:G i=some (.own x.av)) :
  ag T G j1 (.ptr i [1] 1)=some (.int .u64 x.u)/\ag T G aq (.ptr i [2] 2)=some (.int .i64 x.i)/\ag T G ar (.ptr i [3] 3)=some (.agg (x.h.map u8v)):=by
 have h1:szs (x.h.map u8v)=32:=by rw[gX (n:=1) (kd x.h)];simp[hx.h]
 refine⟨dI (c:=.int .u64 x.u) hg rfl rfl rfl n5 rfl,dI (c:=.int .i64 x.i) hg rfl rfl rfl cu rfl,dI (c:=.agg (x.h.map u8v)) hg rfl rfl rfl bZ ?_⟩;simp[dD,sz,h1,dQ,ah.isAgg,kZ.isAgg]
end
structure OpM where
 two:Bool
 v:xV
 kind:Int
 n:Int
def OpM.av (o:OpM):ah:=.agg [.bool o.two,o.v.av,.int .i64 o.kind,.int .i64 o.n]
structure OpM.ok (o:OpM) (m:Nat):Prop where
 v:o.v.ok m
 m:1≤m
theorem xV.ok.le {x:xV}{m m':Nat}(h:x.ok m) (hm:m≤m'):x.ok m':=⟨h.kind,h.u,h.i,h.h,h.times,Nat.le_trans h.m hm⟩
end
end Go.Esc.M
namespace Go.Esc
open Go Go.RowKit
def mo (id:AId) (es:List (ah×ah)):LP where
 p:=fun G F=>G id=some (.map es)/\F=[id]
 rows:=by rintro G F ⟨h,rfl⟩ j hj;simp at hj;subst hj;simp[h]
 loc:=by rintro G G' F ⟨h,rfl⟩ hs;exact⟨by rw[hs id (by simp)];exact h,rfl⟩
theorem mo.own {F0:List AId}{G0 G:ak}{ps:List LP}{i:Nat}{id:AId}{es:List (ah×ah)}(h:Sp F0 G0 ps G) (hi:ps[i]?=some (mo id es)):G id=some (.map es):=by
 obtain⟨F,h,_⟩:=h.get hi;exact h
theorem Sp.tV {F0:List AId}{G0 G:ak}{ps:List LP}{j:Nat}{i:AId}{es:List (ah×ah)}(h:Sp F0 G0 ps G) (hj:ps[j]?=some (mo i es)) (es':List (ah×ah)):Sp F0 G0 (ps.set j (mo i es')) (G.upd i (.map es')):=by
 refine h.call hj (mo i es') fun F h k=>?_;obtain⟨h,rfl⟩:=h;exact k _ _ ⟨ak.dR _ _ _,rfl⟩ ⟨tq h (by simp),fun j x hj hn=>by rw[ak.nb _ _ (fun e=>hn (by simp[e]))];exact hj,fun j hj=>.inl hj⟩
def oV (ct cf:Nat):List (ah×ah):=(if ct=0 then [] else [(.bool true,.int .i64 (ct:Int))])++(if cf=0 then [] else [(.bool false,.int .i64 (cf:Int))])
def lmap (lt lf:Int):List (ah×ah):=[(.bool true,.int .i64 lt),(.bool false,.int .i64 lf)]
section
variable {T:Tbl}{t kt et:TypeId}{i ki ei:TI} (ht:T t=some i) (hd:i.desc=.map kt et) (hk:T kt=some ki) (hkd:ki.desc=.bool) (he:T et=some ei) (hez:ei.zero=.int .i64 0) {G:ak}{id:AId}
include ht hd hk hkd he hez in
theorem H9 {ct cf:Nat}(hg:G id=some (.map (oV ct cf))) (b:Bool):jg T G t (.map id) (.bool b) false=some (.int .i64 ((bif b then ct else cf:Nat):Int)):=by
 have hf:kY ki.desc (.bool b)=true:=by rw[hkd];rfl
 by_cases h1:ct=0<;>by_cases h2:cf=0<;>cases b<;>simp[jg,ht,hd,hk,he,hf,tB,hg,oV,h1,h2,oA,uI,hez]
include ht hd hk hkd in
theorem H8 {ct:Nat}{K:ak->Prop}(hg:G id=some (.map (oV ct 0))) (hK:K (G.upd id (.map (oV (ct+1) 0)))):gD T G t (.map id) (.bool true) (.int .i64 ((ct+1:Nat):Int)) K:=by
 have hf:kY ki.desc (.bool true)=true:=by rw[hkd];rfl
 by_cases h1:ct=0
 ·subst h1;simp only[gD,ht,hd,hk,hg];exact⟨hf,hK⟩
 ·have e1:oV ct 0=[(.bool true,.int .i64 (ct:Int))]:=by simp[oV,h1]
  have e2:oV (ct+1) 0=[(.bool true,.int .i64 ((ct+1:Nat):Int))]:=by simp[oV]
  rw[e1]at hg;rw[e2]at hK;simp only[gD,ht,hd,hk,hg];exact⟨hf,hK⟩
include ht hd hk hkd in
theorem FT {ct cf:Nat}{K:ak->Prop}(hg:G id=some (.map (oV ct cf))) (hK:K (G.upd id (.map (oV ct (cf+1))))):gD T G t (.map id) (.bool false) (.int .i64 ((cf+1:Nat):Int)) K:=by
 have hf:kY ki.desc (.bool false)=true:=by rw[hkd];rfl
 by_cases h1:ct=0<;>by_cases h2:cf=0
 ·subst h1 h2;simp only[gD,ht,hd,hk,hg];exact⟨hf,hK⟩
 ·have e1:oV ct cf=[(.bool false,.int .i64 (cf:Int))]:=by simp[oV,h1,h2]
  have e2:oV ct (cf+1)=[(.bool false,.int .i64 ((cf+1:Nat):Int))]:=by simp[oV,h1]
  rw[e1]at hg;rw[e2]at hK;simp only[gD,ht,hd,hk,hg];exact⟨hf,hK⟩
 ·have e1:oV ct cf=[(.bool true,.int .i64 (ct:Int))]:=by simp[oV,h1,h2]
  have e2:oV ct (cf+1)=[(.bool true,.int .i64 (ct:Int)),(.bool false,.int .i64 ((cf+1:Nat):Int))]:=by simp[oV,h1]
  rw[e1]at hg;rw[e2]at hK;subst h2;simp only[gD,ht,hd,hk,hg];exact⟨hf,hK⟩
 ·have e1:oV ct cf=[(.bool true,.int .i64 (ct:Int)),(.bool false,.int .i64 (cf:Int))]:=by simp[oV,h1,h2]
  have e2:oV ct (cf+1)=[(.bool true,.int .i64 (ct:Int)),(.bool false,.int .i64 ((cf+1:Nat):Int))]:=by simp[oV,h1]
  rw[e1]at hg;rw[e2]at hK;simp only[gD,ht,hd,hk,hg];exact⟨hf,hK⟩
include ht hd hk in
theorem CZ {es:List (ah×ah)}{k v:ah}{r:Option (Nat×ah)}{K:ak->Prop}(hg:G id=some (.map es)) (hf:kY ki.desc k=true) (hr:oA k es 0=some r)
  (hK:K (G.upd id (.map (match r with | some (j,_)=>es.set j (k,v) | none=>es++[(k,v)])))):gD T G t (.map id) k v K:=by
 simp only[gD,ht,hd,hk,hg,hr];refine⟨hf,?_⟩;cases r with
 | none=>exact hK
 | some x=>exact hK
include ht hd hk hkd he in
theorem HN {lt lf:Int}(hg:G id=some (.map (lmap lt lf))) (b:Bool):jg T G t (.map id) (.bool b) false=some (.int .i64 (bif b then lt else lf)):=by
 have hf:kY ki.desc (.bool b)=true:=by rw[hkd];rfl
 cases b<;>simp[jg,ht,hd,hk,he,hf,tB,hg,lmap,oA,uI]
include ht hd hk hkd in
theorem Jn {lt lf n:Int}{b:Bool}{K:ak->Prop}(hg:G id=some (.map (lmap lt lf))) (hK:K (G.upd id (.map (lmap (bif b then n else lt) (bif b then lf else n))))):gD T G t (.map id) (.bool b) (.int .i64 n) K:=by
 have hf:kY ki.desc (.bool b)=true:=by rw[hkd];rfl
 cases b
 ·simp only[gD,ht,hd,hk,hg];exact⟨hf,hK⟩
 ·simp only[gD,ht,hd,hk,hg];exact⟨hf,hK⟩
end
end Go.Esc
namespace Go.Esc.M
open Go Go.Esc
structure ba where
 ours:Bool
 id:Int
 amount:Int
 hash:List UInt8
 deriving DecidableEq
def ba.av (p:ba):ah:=.agg [.bool p.ours,.int .i64 p.id,.int .i64 p.amount,.agg (p.hash.map u8v)]
structure ba.ok (p:ba):Prop where
 id:I64 p.id
 amount:I64 p.amount
 hash:p.hash.length=32
theorem ba.sz {p:ba}(h:p.ok):sz p.av=35:=by
 have h1:szs (p.hash.map u8v)=32:=by rw[gX (n:=1) (kd p.hash)];simp[h.hash]
 simp[ba.av,Esc.sz,szs,h1]
theorem ba.fits {p:ba}(h:p.ok):dD dS p.av=true:=by
 have h1:=ba.sz h;have h2:p.av.isAgg=true:=rfl;simp[dD,h1,h2,dS,kZ.isAgg]
theorem ba.okv (p:ba):okv p.av=true:=by simp[ba.av,Esc.okv,mz,kM]
theorem ba.fld {G:ak}{i:AId}{p:ba}(h:p.ok) (hg:G i=some (.own p.av)) :
  ag T G du (.ptr i [0] 0)=some (.bool p.ours)/\ag T G aq (.ptr i [1] 1)=some (.int .i64 p.id)/\ag T G aq (.ptr i [2] 2)=some (.int .i64 p.amount)/\ag T G ar (.ptr i [3] 3)=some (.agg (p.hash.map u8v)):=by
 have h1:szs (p.hash.map u8v)=32:=by rw[gX (n:=1) (kd p.hash)];simp[h.hash]
 refine⟨dI (c:=.bool p.ours) hg rfl rfl rfl lL rfl,dI (c:=.int .i64 p.id) hg rfl rfl rfl cu rfl,dI (c:=.int .i64 p.amount) hg rfl rfl rfl cu rfl,dI (c:=.agg (p.hash.map u8v)) hg rfl rfl rfl bZ ?_⟩;simp[dD,Esc.sz,h1,dQ,ah.isAgg,kZ.isAgg]
def gH (o p:Int) (v:ah):ah:=.agg [.int .i64 o,.int .i64 p,v]
def jb:Int:=1152921504606846976
def mR:Int->Int->Nat->Nat->List ba->Option (Nat×Nat)
 | _,_,ct,cf,[]=>some (ct,cf)
 | lt,lf,ct,cf,p::l=>
  if p.amount<1\/jb<p.amount\/p.id≤(bif p.ours then lt else lf)\/(p.ours=true/\0<cf) then none
  else bif p.ours then mR p.id lf (ct+1) cf l else mR lt p.id ct (cf+1) l
def few (r:Option (Nat×Nat)):Bool:=
 match r with
 | none=>false
 | some (a,b)=>decide (a≤483) && decide (b≤483)
def lG (o q:Int) (l:List ba):Bool:=decide (0≤o) && decide (o≤jb) && decide (0≤q) && decide (q≤jb) && few (mR (-1) (-1) 0 0 l)
section
variable {G:ak}{Q:ah->ak->Prop}
theorem lI {i:AId}{o q:Int}{v:ah}(hv:sz v=1) (hva:v.isAgg=false) (hg:G i=some (.own (gH o q v))) :
  ag T G aq (.ptr i [0] 0)=some (.int .i64 o)/\ag T G aq (.ptr i [1] 1)=some (.int .i64 q)/\ag T G aw (.ptr i [2] 2)=some v/\ag T G aX (.ptr i [] 0)=some (gH o q v):=by
 refine⟨dI (c:=.int .i64 o) hg rfl rfl rfl cu rfl,dI (c:=.int .i64 q) hg rfl rfl rfl cu rfl,dI (c:=v) hg rfl rfl rfl cy ?_,cj ng hg ?_⟩
 ·simp[dD,hv,hva,b8,kZ.isAgg]
 ·simp[dD,gH,sz,szs,hv,lN,ah.isAgg,kZ.isAgg]
theorem tU {n:Nat}{v:ah}{vs:List ah}(h:ff n G v vs):sz v=1/\v.isAgg=false/\okv v=true:=by
 rcases h with ⟨_,_,_,_,_,_,rfl,_⟩|⟨rfl,_⟩<;>exact⟨rfl,rfl,rfl⟩
theorem vj {v:ah}{l:List ba}{j:Nat}{p:ba}(h:ff 35 G v (l.map ba.av)) (hj:l[j]?=some p):∃ a,aO T aw v (.int .i64 (j:Int))=some a/\ag T G aT a=some p.av:=
 h.at_ (k:=.i64) (i:=b8) (ie:=dS) (T:=T) (t:=aw) (e:=aT) cy rfl eP (by rw[List.getElem?_map,hj];rfl) rfl
theorem iW.use {o q:Int}{v:ah}{l:List ba}(hl:ff 35 G v (l.map ba.av)) (hok:∀ p∈l,p.ok) (hlen:l.length≤9223372036854775807) (hQ:∀ G',Ch [] G [] G'->Q (.bool (lG o q l)) G') :
  al P iW.n [gH o q v] G Q:=by
 obtain⟨hv1,hv2,_⟩:=tU hl;refine iW.sound ?_;unfold iW.S;obtain⟨mA,hmA⟩:∃ m,m=(1152921504606846976:Int):=⟨_,rfl⟩;rw[<- hmA];have hmax:jb=mA:=by rw[hmA];rfl
 intro i1 f1;have s1:=(Sp.nil G).row f1 (gH o q v);obtain⟨f0,f1',f2,_⟩:=lI hv1 hv2 (au.own (i:=0) s1 rfl);revert s1 f0 f1' f2;generalize G.upd i1 (.own (gH o q v))=G2;intro s1 f0 f1' f2 J62;have hbad:lG o q l=false->J62 (.bool true) G2:=by
  intro h;simp -zeta only [J62,aN];rw[<- h];exact hQ _ s1.ch
 have hgood:lG o q l=few (mR (-1) (-1) 0 0 l)->J62 (.bool false) G2:=by
  intro he;rw[he]at hQ;simp -zeta only [J62,aK];intro i13 f13;have s14:=s1.new (p:=mo i13 (oV 0 0)) ⟨ak.dR _ _ _,rfl⟩ (Ch.new f13);intro i15 f15;have s16:=s14.new (p:=mo i15 []) ⟨ak.dR _ _ _,rfl⟩ (Ch.new f15);refine CZ (T:=T) (i:=kg) nR rfl lL (r:=none) (mo.own (i:=0) s16 rfl) rfl rfl ?_;have s17:=Sp.tV s16 (j:=0) rfl [(.bool true,.int .i64 (-1))];refine CZ (T:=T) (i:=kg) nR rfl lL (r:=none) (mo.own (i:=0) s17 rfl) rfl rfl ?_;have s18:Sp [] G [mo i15 (lmap (-1) (-1)),mo i13 (oV 0 0),au i1 (gH o q v)] _:=Sp.tV s17 (j:=0) rfl (lmap (-1) (-1));have hl18:=hl.ch' s18.ch;refine ae (lI hv1 hv2 (au.own (i:=2) s18 rfl)).2.2.1 ?_;refine ae (hl18.len (i:=b8) cy rfl) ?_;rw[List.length_map];intro R21 hR21;have look1:∀ {G':ak}{ct cf:Nat},G' i13=some (.map (oV ct cf))->∀ b,jg T G' lY (.map i13) (.bool b) false=some (.int .i64 ((bif b then ct else cf:Nat):Int)):=fun hg b=>H9 (T:=T) (i:=mq) qv rfl lL rfl iD rfl hg b;have look2:∀ {G':ak}{lt lf:Int},G' i15=some (.map (lmap lt lf))->∀ b,jg T G' lR (.map i15) (.bool b) false=some (.int .i64 (bif b then lt else lf)):=fun hg b=>HN (T:=T) (i:=kg) nR rfl lL rfl cu hg b;have loop:∀ (n j:Nat) (lt lf:Int) (ct cf:Nat) (G':ak),l.length-j=n->j≤l.length->ct≤j->cf≤j->(∀ b,few (mR lt lf ct cf (l.drop j))=b->few (mR (-1) (-1) 0 0 l)=b) ->
    Sp [] G [mo i15 (lmap lt lf),mo i13 (oV ct cf),au i1 (gH o q v)] G'->R21 [.map i13,.map i15,v,.int .i64 (l.length:Nat),.int .i64 (j:Int)] G':=by
   intro n;induction n with
   | zero=>
    intro j lt lf ct cf G' hn hj hct hcf hb hs;have:j=l.length:=(by omega);subst this;have g13:=mo.own (i:=1) hs rfl;rw[List.drop_length]at hb;have hb:=hb _ rfl;refine hR21 _ _ _ _ _ _ ?_;rw[aM,aa,aI];refine⟨fun h=>absurd h (by omega),fun _=>?_⟩;rw[look1 g13,aa,kQ,aa,look1 g13,aI];refine⟨fun h1=>?_,fun h1=>?_⟩
    ·rw[aa,kQ,aa];have:=hQ _ hs.ch;rw[hb]at this;have e:few (mR lt lf ct cf [])=decide ((((bif false then ct else cf:Nat)):Int)≤483):=by
      have h1:ct≤483:=(by have:((ct:Nat):Int)≤483:=h1;omega);simp only[mR,few,cond_false,dT_ h1,Bool.true_and];rw[decide_eq_decide];omega
     rw[<- e];exact this
    ·have:=hQ _ hs.ch;rw[hb]at this;have e:few (mR lt lf ct cf [])=false:=by
      have h1:¬ ct≤483:=fun h=>h1 (by show ((ct:Nat):Int)≤483;omega);simp only[mR,few,dF_ h1,Bool.false_and]
     rw[e]at this;exact this
   | succ n ih=>
    intro j lt lf ct cf G' hn hj hct hcf hb hs;have hjl:j<l.length:=(by omega);obtain⟨p,hp⟩:∃ p,l[j]?=some p:=⟨_,List.getElem?_eq_getElem hjl⟩;have hpo:=hok p (List.mem_of_getElem? hp);obtain⟨a,ha,hla⟩:=vj (hl.ch' hs.ch) hp;have hdr:l.drop j=p::l.drop (j+1):=by
     obtain⟨hx,rfl⟩:=List.getElem?_eq_some_iff.1 hp;exact List.drop_eq_getElem_cons hx
    rw[hdr,mR]at hb;refine hR21 _ _ _ _ _ _ ?_;rw[aM,aa,aI];refine⟨fun _=>?_,fun h=>absurd (by omega) h⟩;rw[ha,aa,hla,aa];refine jL hs eP (ba.fits hpo) (by rw[ba.sz hpo];rfl) (ba.okv p) fun i31 G33 s33=>?_;have g15:=mo.own (i:=1) s33 rfl;have g13:=mo.own (i:=2) s33 rfl;obtain⟨k0,k1,k2,_⟩:=ba.fld hpo (au.own (i:=0) s33 rfl);intro J54;have jbad:few none=few (mR (-1) (-1) 0 0 l)->J54 (.bool true) G33:=by
     intro h;simp -zeta only [J54,aN];have:=hQ _ s33.ch;rw[<- h]at this;exact this
    have jok:(∀ b,few (bif p.ours then mR p.id lf (ct+1) cf (l.drop (j+1)) else mR lt p.id ct (cf+1) (l.drop (j+1)))=b->few (mR (-1) (-1) 0 0 l)=b)->(p.ours=true->cf=0)->J54 (.bool false) G33:=by
     intro hnext hcf0;simp -zeta only [J54,aK];rw[k0,aa,k1,aa];refine Jn (T:=T) (i:=kg) nR rfl lL rfl g15 ?_;have s49:=Sp.tV s33 (j:=1) rfl (lmap (bif p.ours then p.id else lt) (bif p.ours then lf else p.id));obtain⟨k0',_⟩:=ba.fld hpo (au.own (i:=0) s49 rfl);have g13':=mo.own (i:=2) s49 rfl;refine ae k0' ?_;refine ae (look1 g13' p.ours) ?_;rw[bg,aa];cases hpo2:p.ours with
     | true=>
      have h0:=hcf0 hpo2;subst h0;rw[hpo2]at hnext s49 g13';simp only[cond_true]at hnext s49 ⊢;rw[i64_in (by omega) (by omega),show ((ct:Int)+1)=((ct+1:Nat):Int) by omega];refine H8 (T:=T) (i:=mq) qv rfl lL rfl g13' ?_;rw[bg,aa,i64_in (by omega) (by omega)];exact ih (j+1) p.id lf (ct+1) 0 _ (by omega) (by omega) (by omega) (by omega) hnext ((Sp.tV s49 (j:=2) rfl (oV (ct+1) 0)).erase 0)
     | false=>
      rw[hpo2]at hnext s49 g13';simp only[cond_false]at hnext s49 ⊢;rw[i64_in (by omega) (by omega),show ((cf:Int)+1)=((cf+1:Nat):Int) by omega];refine FT (T:=T) (i:=mq) qv rfl lL rfl g13' ?_;rw[bg,aa,i64_in (by omega) (by omega)];exact ih (j+1) lt p.id ct (cf+1) _ (by omega) (by omega) (by omega) (by omega) hnext ((Sp.tV s49 (j:=2) rfl (oV ct (cf+1))).erase 0)
    rw[k2,aa,aM,aa,aI];refine⟨fun h1=>jbad (hb _ (by rw[if_pos (.inl h1)])).symm,fun h1=>?_⟩;rw[aa,da,aa,aI];refine⟨fun h2=>jbad (hb _ (by rw[if_pos (.inr (.inl (by rw[hmax];exact h2)))])).symm,fun h2=>?_⟩;rw[k1,aa,k0,aa,look2 g15,aa,kQ,aa,aI];refine⟨fun h3=>jbad (hb _ (by rw[if_pos (.inr (.inr (.inl h3)))])).symm,fun h3=>?_⟩;rw[aa];rw[gO];refine⟨fun h4=>?_,fun h4=>?_⟩
    ·rw[look1 g13,aa,da,aa];by_cases h5:0<cf
     ·have e5:decide ((0:Int)<((bif false then ct else cf:Nat):Int))=true:=by
       rw[decide_eq_true_eq];show (0:Int)<(cf:Int);omega
      rw[e5];exact jbad (hb _ (by rw[if_pos (.inr (.inr (.inr ⟨h4,h5⟩)))])).symm
     ·have e5:decide ((0:Int)<((bif false then ct else cf:Nat):Int))=false:=by
       rw[decide_eq_false_iff_not];show ¬ (0:Int)<(cf:Int);omega
      rw[e5];refine jok (fun b h=>hb b ?_) fun _=>(by omega);rw[if_neg (fun h=>by rcases h with h | h | h | h;exact h1 h;exact h2 (by rw[<- hmax];exact h);exact h3 h;exact h5 h.2)];exact h
    ·refine jok (fun b h=>hb b ?_) fun h=>(by rw[h4]at h;cases h);rw[if_neg (fun h=>by rcases h with h | h | h | h;exact h1 h;exact h2 (by rw[<- hmax];exact h);exact h3 h;rw[h4]at h;cases h.1)];exact h
  exact loop _ 0 (-1) (-1) 0 0 _ rfl (by omega) (by omega) (by omega) (fun b h=>h) s18
 rw[f0,aa,aM,aa,aI];refine⟨fun h=>hbad ?_,fun h0=>?_⟩
 ·simp only[lG,dF_ (show ¬ 0≤o by omega),Bool.false_and]
 rw[aa,da,aa,aI];refine⟨fun h=>hbad ?_,fun h1=>?_⟩
 ·simp only[lG,dF_ (show ¬ o≤jb by rw[hmax];omega),Bool.false_and,Bool.and_false]
 rw[f1',aa,aM,aa,aI];refine⟨fun h=>hbad ?_,fun h2=>?_⟩
 ·simp only[lG,dF_ (show ¬ 0≤q by omega),Bool.false_and,Bool.and_false]
 rw[aa,da,aa];by_cases h3:mA<q
 ·rw[dT_ h3];refine hbad ?_;simp only[lG,dF_ (show ¬ q≤jb by rw[hmax];omega),Bool.false_and,Bool.and_false]
 ·rw[dF_ h3];refine hgood ?_;simp only[lG,dT_ (show 0≤o by omega),dT_ (show 0≤q by omega),dT_ (show o≤jb by rw[hmax];omega),dT_ (show q≤jb by rw[hmax];omega),Bool.true_and]
end
end Go.Esc.M
