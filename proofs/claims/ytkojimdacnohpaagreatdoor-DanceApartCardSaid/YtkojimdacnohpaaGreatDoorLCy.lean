import Derived.Test.YtkojimdacnohpaaGreatDoorEZ
import Derived.Test.YtkojimdacnohpaaGreatDoorSS
import Derived.Test.YtkojimdacnohpaaGreatDoorLHb
set_option linter.unusedSimpArgs false
set_option linter.unusedVariables false
set_option maxRecDepth 20000
namespace Go.Esc.M
open Go Go.Esc
def be:Nat->Nat->List UInt8
 | 0,_=>[]
 | k+1,v=>UInt8.ofNat (v/2 ^ (8*k))::be k v
theorem iH (v:Nat):∀ k,(be k v).length=k
 | 0=>rfl
 | k+1=>by simp[be,iH v k]
theorem vR (v i:Nat) (hi:i≤7):IntKind.u8.wrap ((v:Int).fdiv (2 ^ min ((8:Int)*(i:Int)).toNat IntKind.u64.bits))=((v/2 ^ (8*i) % 256:Nat):Int):=by
 have h1:min ((8:Int)*(i:Int)).toNat IntKind.u64.bits=8*i:=by
  have:IntKind.u64.bits=64:=rfl;omega
 rw[h1,IntKind.wrap_u8];have h2:((2:Int) ^ (8*i))=((2 ^ (8*i):Nat):Int):=by simp
 rw[h2,Int.fdiv_eq_ediv_of_nonneg _ (Int.natCast_nonneg _)];simp
def laid (st:List UInt8×Int) (xs:List UInt8):List UInt8×Int:=if st.2=0 then (st.1++xs,0) else st
def Wr (id:AId) (st:List UInt8×Int) (G:ak) (F:List AId):Prop:=WrP id st.1 st.2 G F
theorem WrP.fault {id:AId}{bs:List UInt8}{f:Int}{G:ak}{F:List AId}(h:WrP id bs f G F):ag T G bD (.ptr id [1] 1)=some (.int .i64 f):=by
 obtain⟨s,hg,ho,_⟩:=h;exact dI hg rfl (by simp[szs,ho.leaf.1]) rfl tK rfl
theorem WrP.load {id:AId}{bs:List UInt8}{f:Int}{G:ak}{F:List AId}(h:WrP id bs f G F) :
  ∃ s,ag T G aR (.ptr id [0] 0)=some s/\G id=some (.own (.agg [s,.int .i64 f]))/\Own 1 G s (bs.map u8v)/\rowOf s≠some id/\F=id::(rowOf s).toList:=by
 obtain⟨s,hg,ho,hne,hF⟩:=h;exact⟨s,dI hg rfl rfl rfl eC (by simp[dD,ho.leaf.1,ho.leaf.2.1,fJ,kZ.isAgg]),hg,ho,hne,hF⟩
theorem Ao {id:AId}{bs:List UInt8}{f:Int}{G:ak}{F:List AId}(h:WrP id bs f G F) (hb:bs.length+1≤140737488355328) :
  ∃ s,ag T G aR (.ptr id [0] 0)=some s/\∀ (b:UInt8) (K:ak->Prop),(∀ F' G',WrP id (bs++[b]) f G' F'->Ch F G F' G'->K G') ->
   bu T aR 1 [(0,u8v b)] G fun v G1=>cn T G1 aR aR s v fun v2 G2=>wg (aF T G2 aR (.ptr id [0] 0) v2) K:=by
 obtain⟨s,hl,hg,ho,hne,rfl⟩:=WrP.load h;refine⟨s,hl,fun b K hK=>?_⟩;refine Di (T:=T) (ts:=aR) (e:=cm) (si:=fJ) (ie:=gi) eC rfl cW rfl (by decide) ho rfl rfl (by decide) ?_ fun s' G2 ho2 hk=>?_
 ·simp only[List.length_map,gi];omega
 ·obtain⟨G',hst,hw,hch⟩:=WrP.put (T:=T) (tb:=aR) (ib:=fJ) eC (.inr rfl) rfl (bs':=bs++[b]) hg hne ho.leaf.1 (by rw[List.map_append];exact ho2) hk;rw[hst,jl];exact hK _ _ hw hch
theorem I2 {id:AId}{bs xs:List UInt8}{f:Int}{G:ak}{F:List AId}(h:WrP id bs f G F) (hb:bs.length+xs.length≤140737488355328) :
  ∃ s,ag T G aR (.ptr id [0] 0)=some s/\∀ (K:ak->Prop),(∀ F' G',WrP id (bs++xs) f G' F'->Ch F G F' G'->K G') ->
   cn T G aR bH s (.str xs) fun v2 G2=>wg (aF T G2 aR (.ptr id [0] 0) v2) K:=by
 obtain⟨s,hl,hg,ho,hne,rfl⟩:=WrP.load h;refine⟨s,hl,fun K hK=>?_⟩;refine r7 (T:=T) (e:=cm) (si:=fJ) (ie:=gi) (vs:=xs.map u8v) eC rfl cW rfl (by decide) fS (.inl rfl) ho (by simp[gq,gi,u8v,Function.comp_def]) (kd _) (kM _) ?_ fun s' G2 ho2 hk=>?_
 ·simp only[List.length_map,gi];omega
 ·obtain⟨G',hst,hw,hch⟩:=WrP.put (T:=T) (tb:=aR) (ib:=fJ) eC (.inr rfl) rfl (bs':=bs++xs) hg hne ho.leaf.1 (by rw[List.map_append];exact ho2) hk;rw[hst,jl];exact hK _ _ hw hch
theorem jV.use {G:ak}{Q:ah->ak->Prop}(h:∀ id G',Wr id ([],0) G' [id]->Ch [] G [id] G'->Q (.ptr id [] 0) G'):al P jV.n [] G Q:=by
 refine jV.sound ?_;unfold jV.S;intro id hf;exact h _ _ ⟨.nilSlice,ak.dR _ _ _,.inl ⟨rfl,rfl⟩,by simp[rowOf],rfl⟩ (Ch.new hf)
theorem gh.use {id:AId}{st:List UInt8×Int}{v k:Nat}{G:ak}{F:List AId}{Q:ah->ak->Prop}(hv:v<2 ^ 8) (hk:k≤8) (h:Wr id st G F) (hb:st.1.length+k≤140737488355328)
  (hQ:∀ F' G',Wr id (laid st (be k v)) G' F'->Ch F G F' G'->Q (.tuple []) G'):al P gh.n [.ptr id [] 0,.int .u8 v,.int .i64 k] G Q:=by
 refine gh.sound ?_;unfold gh.S;obtain⟨bs,f⟩:=st;have hf:=WrP.fault h;show wv (ag T G bD (.ptr id [1] 1)) _;rw[hf];simp -zeta only [aa,cD,dC,b7];refine⟨fun h0=>?_,fun h0=>?_⟩
 ·refine hQ F G ?_ (Ch.refl _ _);simpa[laid,h0,Wr] using h
 ·subst h0;intro R hR;rw[i64_in (by omega) (by omega)];have hb:bs.length+k≤140737488355328:=hb;have loop:∀ (i:Nat) (bs':List UInt8) (F':List AId) (G':ak),i≤k->bs'.length+i≤140737488355328->WrP id bs' 0 G' F'->Ch F G F' G'->bs++be k v=bs'++be i v ->
    R [.ptr id [] 0,.int .u8 v,.int .i64 ((i:Int)-1)] G':=by
   intro i;induction i with
   | zero=>
    intro bs' F' G' _ _ hw hch he;refine hR _ _ _ _ ?_;simp -zeta only [fI,aa,aI];refine⟨fun h=>absurd h (by omega),fun _=>hQ F' G' ?_ hch⟩;simp only[be,List.append_nil]at he;simp only[laid,if_true,Wr,he];exact hw
   | succ i ih=>
    intro bs' F' G' hi hb' hw hch he;refine hR _ _ _ _ ?_;have ei:((i+1:Nat):Int)-1=(i:Int):=(by omega);rw[ei];simp -zeta only [fI,aa,aI];refine⟨fun _=>?_,fun h=>absurd (by omega) h⟩;obtain⟨s,hl,hstep⟩:=Ao hw (by omega);show wv (ag T G' aR (.ptr id [0] 0)) _;rw[hl,aa];rw[jk cW n5 rfl,aa,u64_in (by omega) (by omega)];rw[kP,aa,i64_in (by omega) (by omega),nB _ _ _ _ _ _ (by omega),aa,jk n5 cW rfl,aa,vR v i (by omega),<- nr];refine hstep _ _ fun F2 G2 hw2 hch2=>?_;show wv (az T .sub ay (.int .i64 i) (.int .i64 1)) _;simp -zeta only [b7,aa];rw[i64_in (by omega) (by omega)];refine ih _ F2 G2 (by omega) (by simp;omega) hw2 (hch.trans hch2) ?_;rw[he,be];simp
  exact loop k bs F G (Nat.le_refl _) (by omega) h (Ch.refl _ _) rfl
theorem fE.use {id:AId}{st:List UInt8×Int}{v k:Nat}{G:ak}{F:List AId}{Q:ah->ak->Prop}(hv:v<2 ^ 16) (hk:k≤8) (h:Wr id st G F) (hb:st.1.length+k≤140737488355328)
  (hQ:∀ F' G',Wr id (laid st (be k v)) G' F'->Ch F G F' G'->Q (.tuple []) G'):al P fE.n [.ptr id [] 0,.int .u16 v,.int .i64 k] G Q:=by
 refine fE.sound ?_;unfold fE.S;obtain⟨bs,f⟩:=st;have hf:=WrP.fault h;show wv (ag T G bD (.ptr id [1] 1)) _;rw[hf];simp -zeta only [aa,cD,dC,b7];refine⟨fun h0=>?_,fun h0=>?_⟩
 ·refine hQ F G ?_ (Ch.refl _ _);simpa[laid,h0,Wr] using h
 ·subst h0;intro R hR;rw[i64_in (by omega) (by omega)];have hb:bs.length+k≤140737488355328:=hb;have loop:∀ (i:Nat) (bs':List UInt8) (F':List AId) (G':ak),i≤k->bs'.length+i≤140737488355328->WrP id bs' 0 G' F'->Ch F G F' G'->bs++be k v=bs'++be i v ->
    R [.ptr id [] 0,.int .u16 v,.int .i64 ((i:Int)-1)] G':=by
   intro i;induction i with
   | zero=>
    intro bs' F' G' _ _ hw hch he;refine hR _ _ _ _ ?_;simp -zeta only [fI,aa,aI];refine⟨fun h=>absurd h (by omega),fun _=>hQ F' G' ?_ hch⟩;simp only[be,List.append_nil]at he;simp only[laid,if_true,Wr,he];exact hw
   | succ i ih=>
    intro bs' F' G' hi hb' hw hch he;refine hR _ _ _ _ ?_;have ei:((i+1:Nat):Int)-1=(i:Int):=(by omega);rw[ei];simp -zeta only [fI,aa,aI];refine⟨fun _=>?_,fun h=>absurd (by omega) h⟩;obtain⟨s,hl,hstep⟩:=Ao hw (by omega);show wv (ag T G' aR (.ptr id [0] 0)) _;rw[hl,aa];rw[jk ER n5 rfl,aa,u64_in (by omega) (by omega)];rw[kP,aa,i64_in (by omega) (by omega),nB _ _ _ _ _ _ (by omega),aa,jk n5 cW rfl,aa,vR v i (by omega),<- nr];refine hstep _ _ fun F2 G2 hw2 hch2=>?_;show wv (az T .sub ay (.int .i64 i) (.int .i64 1)) _;simp -zeta only [b7,aa];rw[i64_in (by omega) (by omega)];refine ih _ F2 G2 (by omega) (by simp;omega) hw2 (hch.trans hch2) ?_;rw[he,be];simp
  exact loop k bs F G (Nat.le_refl _) (by omega) h (Ch.refl _ _) rfl
theorem fD.use {id:AId}{st:List UInt8×Int}{v k:Nat}{G:ak}{F:List AId}{Q:ah->ak->Prop}(hv:v<2 ^ 64) (hk:k≤8) (h:Wr id st G F) (hb:st.1.length+k≤140737488355328)
  (hQ:∀ F' G',Wr id (laid st (be k v)) G' F'->Ch F G F' G'->Q (.tuple []) G'):al P fD.n [.ptr id [] 0,.int .u64 v,.int .i64 k] G Q:=by
 refine fD.sound ?_;unfold fD.S;obtain⟨bs,f⟩:=st;have hf:=WrP.fault h;show wv (ag T G bD (.ptr id [1] 1)) _;rw[hf];simp -zeta only [aa,cD,dC,b7];refine⟨fun h0=>?_,fun h0=>?_⟩
 ·refine hQ F G ?_ (Ch.refl _ _);simpa[laid,h0,Wr] using h
 ·subst h0;intro R hR;rw[i64_in (by omega) (by omega)];have hb:bs.length+k≤140737488355328:=hb;have loop:∀ (i:Nat) (bs':List UInt8) (F':List AId) (G':ak),i≤k->bs'.length+i≤140737488355328->WrP id bs' 0 G' F'->Ch F G F' G'->bs++be k v=bs'++be i v ->
    R [.ptr id [] 0,.int .u64 v,.int .i64 ((i:Int)-1)] G':=by
   intro i;induction i with
   | zero=>
    intro bs' F' G' _ _ hw hch he;refine hR _ _ _ _ ?_;simp -zeta only [fI,aa,aI];refine⟨fun h=>absurd h (by omega),fun _=>hQ F' G' ?_ hch⟩;simp only[be,List.append_nil]at he;simp only[laid,if_true,Wr,he];exact hw
   | succ i ih=>
    intro bs' F' G' hi hb' hw hch he;refine hR _ _ _ _ ?_;have ei:((i+1:Nat):Int)-1=(i:Int):=(by omega);rw[ei];simp -zeta only [fI,aa,aI];refine⟨fun _=>?_,fun h=>absurd (by omega) h⟩;obtain⟨s,hl,hstep⟩:=Ao hw (by omega);show wv (ag T G' aR (.ptr id [0] 0)) _;rw[hl,aa];rw[kP,aa,i64_in (by omega) (by omega),nB _ _ _ _ _ _ (by omega),aa,jk n5 cW rfl,aa,vR v i (by omega),<- nr];refine hstep _ _ fun F2 G2 hw2 hch2=>?_;show wv (az T .sub ay (.int .i64 i) (.int .i64 1)) _;simp -zeta only [b7,aa];rw[i64_in (by omega) (by omega)];refine ih _ F2 G2 (by omega) (by simp;omega) hw2 (hch.trans hch2) ?_;rw[he,be];simp
  exact loop k bs F G (Nat.le_refl _) (by omega) h (Ch.refl _ _) rfl
theorem fF.use {id:AId}{st:List UInt8×Int}{xs:List UInt8}{G:ak}{F:List AId}{Q:ah->ak->Prop}(h:Wr id st G F) (hb:st.1.length+xs.length≤140737488355328)
  (hQ:∀ F' G',Wr id (laid st xs) G' F'->Ch F G F' G'->Q (.tuple []) G'):al P fF.n [.ptr id [] 0,.str xs] G Q:=by
 refine fF.sound ?_;unfold fF.S;obtain⟨bs,f⟩:=st;have hf:=WrP.fault h;show wv (ag T G bD (.ptr id [1] 1)) _;rw[hf];simp -zeta only [aa,bB,aI];refine⟨fun h0=>?_,fun h0=>?_⟩
 ·obtain⟨s,hl,hstep⟩:=I2 h hb;show wv (ag T G aR (.ptr id [0] 0)) _;rw[hl,aa];refine hstep _ fun F' G' hw hch=>hQ F' G' ?_ hch;simpa[laid,h0,Wr] using hw
 ·refine hQ F G ?_ (Ch.refl _ _);simpa[laid,h0,Wr] using h
end Go.Esc.M
namespace Go.Esc.M
open Go Go.Esc
theorem yc {T:Tbl}{G:ak}{s d e:TypeId}{si di ie:TI}{v:ah}{l:List UInt8}(hs:T s=some si) (hsd:si.desc=.slice e) (he:T e=some ie) (hed:ie.desc=.int .u8) (hd:T d=some di) (hdd:di.desc=.string)
  (h:ff 1 G v (l.map u8v)):gv T G s d v=some (.str l):=by
 rcases h with ⟨id,p,st,off,len,cap,rfl,h⟩|⟨rfl,hl⟩
 ·simp[gv,hs,hd,hdd,hsd,he,hed,h,vx]
 ·have:l=[]:=by simpa using hl
  subst this;simp[gv,hs,hd,hdd,hsd,he,hed]
theorem Wr.ch {id:AId}{st:List UInt8×Int}{G G':ak}{F E E':List AId}(h:Wr id st G F) (hc:Ch E G E' G') (hd:∀ j∈F,j ∉ E):Wr id st G' F:=WrP.frame h (hc.same (WrP.rows h) hd)
section
variable {id:AId}{st:List UInt8×Int}{G:ak}{F:List AId}{Q:ah->ak->Prop}
theorem eo.use {v:Nat}(hv:v<2 ^ 8) (h:Wr id st G F) (hb:st.1.length+8≤140737488355328) (hQ:∀ F' G',Wr id (laid st (be 1 v)) G' F'->Ch F G F' G'->Q (.tuple []) G') :
  al P eo.n [.ptr id [] 0,.int .u8 v] G Q:=eo.sound (gh.use (k:=1) hv (by omega) h (by omega) hQ)
theorem fV.use {v:Nat}(hv:v<2 ^ 16) (h:Wr id st G F) (hb:st.1.length+8≤140737488355328) (hQ:∀ F' G',Wr id (laid st (be 2 v)) G' F'->Ch F G F' G'->Q (.tuple []) G') :
  al P fV.n [.ptr id [] 0,.int .u16 v] G Q:=fV.sound (fE.use (k:=2) hv (by omega) h (by omega) hQ)
def kn (n:Int):Nat:=(n % 18446744073709551616).toNat
theorem Ie (n:Int):kn n<2 ^ 64:=by
 unfold kn;omega
theorem Dv (n:Int):IntKind.u64.wrap n=(kn n:Int):=by
 rw[rL];unfold kn;omega
theorem cB.use {v:Int}(h:Wr id st G F) (hb:st.1.length+8≤140737488355328) (hQ:∀ F' G',Wr id (laid st (be 8 (kn v))) G' F'->Ch F G F' G'->Q (.tuple []) G') :
  al P cB.n [.ptr id [] 0,.int .i64 v] G Q:=by
 refine cB.sound ?_;unfold cB.S;rw[jk cu n5 rfl,aa,Dv];exact fD.use (k:=8) (Ie v) (by omega) h (by omega) hQ
theorem dG.use {hs:List UInt8}(hl:hs.length=32) (h:Wr id st G F) (hb:st.1.length+32≤140737488355328) (hQ:∀ F' G',Wr id (laid st hs) G' F'->Ch F G F' G'->Q (.tuple []) G') :
  al P dG.n [.ptr id [] 0,.agg (hs.map u8v)] G Q:=by
 refine dG.sound ?_;unfold dG.S;intro i hf;have hch:Ch [] G [] (G.upd i (.own (.agg (hs.map u8v)))):=⟨pa.of_le (hf.le _),fun j x hj _=>hf.le _ _ _ hj,fun j hj=>by simp at hj⟩;have hsl:ff 1 (G.upd i (.own (.agg (hs.map u8v)))) (.slice i [] 0 0 32 32) (hs.map u8v):=by
  have:=qf (n:=1) (cap:=32) (len:=32) (ak.dR G i (.own (.agg (hs.map u8v)))) rfl (kd hs) (by simp[hl])
  rwa [List.take_of_length_le (by simp[hl])]at this
 show wv (gv T _ aR bH (.slice i [] 0 0 32 32)) _;rw[yc eC rfl cW rfl fS rfl hsl,aa];exact fF.use (h.ch hch (by simp)) (by omega) fun F' G' hw hc=>hQ F' G' hw (hch.grow.trans hc)
theorem fG.use (h:Wr id st G F) (hQ:Q (.tuple [.str (if st.2=0 then st.1 else []),.int .i64 st.2]) G):al P fG.n [.ptr id [] 0] G Q:=by
 refine fG.sound ?_;unfold fG.S;have hf:=WrP.fault h;show wv (ag T G bD (.ptr id [1] 1)) _;rw[hf];simp -zeta only [aa,cD,dC];refine⟨fun h0=>?_,fun h0=>?_⟩
 ·show wv (ag T G bD (.ptr id [1] 1)) _;rw[hf,aa];simpa[h0] using hQ
 ·obtain⟨s,hl,_,ho,_⟩:=WrP.load h;show wv (ag T G aR (.ptr id [0] 0)) _;rw[hl,aa,yc eC rfl cW rfl fS rfl ho.is,aa];simpa[h0] using hQ
end
end Go.Esc.M
namespace Go.Esc.M
open Go Go.Esc
section
variable {id:AId}{st:List UInt8×Int}{G:ak}{F:List AId}{Q:ah->ak->Prop}
end
end Go.Esc.M
namespace Go.Esc.M
open Go Go.Esc
def Rd (id:AId) (st:List UInt8×Int) (G:ak):Prop:=G id=some (.own (.agg [.str st.1,.int .i64 st.2]))
section
variable {id:AId}{st:List UInt8×Int}{G:ak}{Q:ah->ak->Prop}
theorem Rd.fault (h:Rd id st G):ag T G bD (.ptr id [1] 1)=some (.int .i64 st.2):=dI h rfl rfl rfl tK rfl
theorem Rd.rest (h:Rd id st G):ag T G bH (.ptr id [0] 0)=some (.str st.1):=dI h rfl rfl rfl fS rfl
def takes (st:List UInt8×Int) (n:Int):List UInt8×(List UInt8×Int):=
 if st.2=0 then (if (st.1.length:Int)<n then ([],([],2)) else (st.1.take n.toNat,(st.1.drop n.toNat,0))) else ([],st)
theorem E5 {l:List UInt8}{j:Nat}(h:j<l.length):pz T bH (.str l) (.int .i64 j)=some (.int .u8 l[j].toNat):=by
 simp[pz,fS,iO,h]
end
end Go.Esc.M
namespace Go.Esc.M
open Go Go.Esc
section
variable {id:AId}{st:List UInt8×Int}{G:ak}{Q:ah->ak->Prop}
end
theorem Rd.ch {id:AId}{st:List UInt8×Int}{G G':ak}{E E':List AId}(h:Rd id st G) (hc:Ch E G E' G') (hd:id ∉ E):Rd id st G':=hc.others _ _ h hd
theorem Rd.row {id:AId}{st:List UInt8×Int}{G:ak}(h:Rd id st G):(G id).isSome=true:=by rw[h];rfl
end Go.Esc.M
namespace Go.Esc.M
open Go Go.Esc
end Go.Esc.M
namespace Go.Esc.M
open Go Go.Esc
end Go.Esc.M
namespace Go.Esc.M
open Go Go.Esc
def RdL (id:AId) (st:List UInt8×Int):LP where
 p:=fun G F=>Rd id st G/\F=[id]
 rows:=by rintro G F ⟨h,rfl⟩ j hj;simp at hj;subst hj;exact h.row
 loc:=by rintro G G' F ⟨h,rfl⟩ hs;exact⟨by unfold Rd at h ⊢;rw[hs id (by simp)];exact h,rfl⟩
def RdR (id:AId) (st:List UInt8×Int) (G:ak):Prop:=∃ l,G id=some (.own (.agg [.str l,.int .i64 st.2]))/\(st.2=0->l=st.1)/\(st.2≠0->st.1=[])
section
variable {id:AId}{st:List UInt8×Int}{G:ak}{Q:ah->ak->Prop}
theorem RdR.fault (h:RdR id st G):ag T G bD (.ptr id [1] 1)=some (.int .i64 st.2):=h.elim fun _ h=>dI h.1 rfl rfl rfl tK rfl
theorem RdR.rest (h:RdR id st G) (h0:st.2=0):ag T G bH (.ptr id [0] 0)=some (.str st.1):=h.elim fun l h=>by rw[<- h.2.1 h0];exact dI h.1 rfl rfl rfl fS rfl
theorem RdR.ch {G':ak}{E E':List AId}(h:RdR id st G) (hc:Ch E G E' G') (hd:id ∉ E):RdR id st G':=h.elim fun l h=>⟨l,hc.others _ _ h.1 hd,h.2⟩
theorem RdR.row (h:RdR id st G):(G id).isSome=true:=h.elim fun l h=>by rw[h.1];rfl
theorem DP {b:List UInt8}{n:Int}(h:(b.length:Int)<n):takes (b,0) n=([],([],2)):=by simp[takes,h]
theorem IE {b:List UInt8}{n:Int}(h:¬ (b.length:Int)<n):takes (b,0) n=(b.take n.toNat,(b.drop n.toNat,0)):=by simp[takes,h]
end
section
variable {id:AId}{st:List UInt8×Int}{G:ak}{Q:ah->ak->Prop}
end
end Go.Esc.M
namespace Go.Esc.M
open Go Go.Esc
structure xV where
 kind:Int
 u:Nat
 i:Int
 h:List UInt8
 s:List UInt8
 times:Int
def xV.av (x:xV):ah:=.agg [.int .i64 x.kind,.int .u64 x.u,.int .i64 x.i,.agg (x.h.map u8v),.str x.s,.int .i64 x.times]
structure xV.ok (x:xV) (m:Nat):Prop where
 kind:I64 x.kind
 u:x.u<2 ^ 64
 i:I64 x.i
 h:x.h.length=32
 times:I64 x.times
 m:x.s.length+1≤m
def xV.k (x:xV):Int:=x.kind % 8
section
variable {G:ak}{Q:ah->ak->Prop}
def grown (s:List UInt8):Nat->List UInt8->List UInt8
 | 0,c=>c
 | n+1,c=>if c.length<70000/\c≠[] then grown s n (c++s) else c
def xV.text (x:xV):List UInt8:=grown x.s (x.times-1).toNat x.s
section
variable {id:AId}{st:List UInt8×Int}{F:List AId}{x:xV}{m:Nat}
theorem xV.fld {G:ak}{i:AId}(hx:x.ok m) (hg:G i=some (.own x.av)) :
  ag T G j1 (.ptr i [1] 1)=some (.int .u64 x.u)/\ag T G aq (.ptr i [2] 2)=some (.int .i64 x.i)/\ag T G ar (.ptr i [3] 3)=some (.agg (x.h.map u8v)):=by
 have h1:szs (x.h.map u8v)=32:=by rw[gX (n:=1) (kd x.h)];simp[hx.h]
 refine⟨dI (c:=.int .u64 x.u) hg rfl rfl rfl n5 rfl,dI (c:=.int .i64 x.i) hg rfl rfl rfl cu rfl,dI (c:=.agg (x.h.map u8v)) hg rfl rfl rfl bZ ?_⟩;simp[dD,sz,h1,dQ,ah.isAgg,kZ.isAgg]
end
structure OpM where
 two:Bool
 v:xV
 kind:Int
 n:Int
def OpM.av (o:OpM):ah:=.agg [.bool o.two,o.v.av,.int .i64 o.kind,.int .i64 o.n]
structure OpM.ok (o:OpM) (m:Nat):Prop where
 v:o.v.ok m
 m:1≤m
theorem xV.ok.le {x:xV}{m m':Nat}(h:x.ok m) (hm:m≤m'):x.ok m':=⟨h.kind,h.u,h.i,h.h,h.times,Nat.le_trans h.m hm⟩
end
end Go.Esc.M
