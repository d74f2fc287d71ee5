import Derived.Test.YtkojimdacnohpaaGreatDoorLSd
set_option maxHeartbeats 2000000
set_option linter.unusedSimpArgs false
set_option linter.unusedVariables false
set_option maxRecDepth 20000
namespace Go.Esc.M
open Go Go.Esc
theorem Ak {s:List UInt8}(h:s.length=32) (a b:Int):(kN s a b).1.length=32:=by
 unfold kN;cases okN a && okN b
 ·rfl
 ·rw[cond_true];split
  ·exact mB _ h
  ·rfl
section
variable {F0:List AId}{G0 G:ak}{ps:List LP}{Q:ah->ak->Prop}
theorem Ml {h:List UInt8}{K:AId->ak->Prop}(s:Sp F0 G0 ps G) (hl:h.length=32) (hK:∀ i G',Sp F0 G0 (au i (.agg (h.map u8v))::ps) G'->K i G') :
  br G (.own dm) fun i G2=>wg (aF T G2 ar (.ptr i [] 0) (.agg (h.map u8v))) fun G3=>K i G3:=jL s bZ (AA hl) (MB hl) (Mk h) hK
end
end Go.Esc.M
namespace Go.Esc.M
open Go Go.Esc
theorem El {a:Int}(ha:okN a=true):oc a=(((level (pl a):Nat):Int),0):=by
 unfold oc;rw[ha];rfl
section
variable {F0:List AId}{G0 G:ak}{ps:List LP}{Q:ah->ak->Prop}
end
end Go.Esc.M
namespace Go.Esc
open Go Go.RowKit
section
variable {T:Tbl}{t e:TypeId}{i ie:TI} (ht:T t=some i) (hd:i.desc=.slice e) (he:T e=some ie)
include ht hd he in
theorem Ks {F0:List AId}{G0 G:ak}{ps:List LP}{q j:Nat}{v c:ah}{vs:List ah}{k:IntKind}{x:Int}(hx:x=(j:Int)) (hs:Sp F0 G0 ps G) (hi:ps[q]?=some (bm ie.size v vs)) (hj:j<vs.length) (hc:sz c=ie.size) (ha:c.isAgg=ie.desc.isAgg) (hok:okv c=true) :
  ∃ a,aO T t v (.int k x)=some a/\∀ K:ak->Prop,(∀ G',Sp F0 G0 (ps.set q (bm ie.size v (vs.set j c))) G'->K G')->wg (aF T G e a c) K:=by
 subst hx;have ho:=bm.own hs hi;rcases ho with ⟨_,h⟩|⟨id,len,cap,cs,rfl,hg,hcap,hl,hu,hv⟩
 ·rw[h]at hj;simp at hj
 ·have hlen:vs.length=len:=by rw[hv,List.length_take];omega
  obtain⟨a,ha,hst⟩:=GI (cap:=cap) (k:=k) (c:=c) ht hd he hg hu (show j<len by omega) (by omega) hc ha hok;refine⟨a,ha,fun K hK=>fg hst (hK _ ?_)⟩;refine hs.call hi (bm ie.size (.slice id [] 0 0 len cap) (vs.set j c)) fun F h k=>?_;obtain⟨_,rfl⟩:=h;refine k _ _ ⟨.inr ⟨id,len,cap,cs.set j c,rfl,ak.dR _ _ _,by rw[List.length_set];exact hcap,hl,CG hu hc,?_⟩,rfl⟩ (M.sZ hg (by simp));rw[hv,List.take_set]
end
end Go.Esc
namespace Go.Esc.M
open Go Go.Esc
structure b6 where
 index:Int
 secret:List UInt8
 full:Bool
 deriving DecidableEq
def b6.cs (s:b6):List ah:=[.int .i64 s.index,.agg (s.secret.map u8v),.bool s.full]
def b6.av (s:b6):ah:=.agg s.cs
def b6.ok (s:b6):Prop:=s.secret.length=32
def oF:b6:=⟨0,mE,false⟩
theorem oE:oF.ok:=rfl
theorem KZ:pW=oF.av:=rfl
theorem b6.sz {s:b6}(h:s.ok):Esc.sz s.av=34:=by
 have h1:szs (s.secret.map u8v)=32:=by rw[gX (n:=1) (kd _)];simp[show s.secret.length=32 from h]
 simp[b6.av,b6.cs,Esc.sz,szs,h1]
theorem b6.fits {s:b6}(h:s.ok):dD kv s.av=true:=by
 have h1:=b6.sz h;have h2:s.av.isAgg=true:=rfl;simp[dD,h1,h2,kv,kZ.isAgg]
theorem b6.okv (s:b6):Esc.okv s.av=true:=by simp[b6.av,b6.cs,Esc.okv,mz,kM]
theorem wV {l:List b6}(h:∀ s∈l,s.ok):Esc.uni 34 (l.map b6.av)=true:=by
 simp only[Esc.uni,List.all_map,List.all_eq_true];intro s hs;simp[b6.sz (h s hs)]
theorem sa:∀ l:List b6,mz (l.map b6.av)=true
 | []=>rfl
 | s::l=>by simp[mz,b6.okv,sa l]
theorem uc (l:List b6) {j:Nat}{s:b6}(h:l[j]?=some s):(l.map b6.av)[j]?=some s.av:=by rw[List.getElem?_map,h];rfl
theorem Iw {a b:b6}(ha:a.ok) (hb:b.ok):kV T 9 cz a.av b.av=some (decide (a=b)):=by
 obtain⟨ai,ash,af⟩:=a;obtain⟨bi,bsh,bf⟩:=b;have ha:ash.length=32:=ha;have hb:bsh.length=32:=hb;have h1:kV T 8 aq (.int .i64 ai) (.int .i64 bi)=some (decide (ai=bi)):=by
  rw[kV];simp only[cu];show (if IntKind.i64=IntKind.i64 then some (decide (ai=bi)) else none)=_;rw[if_pos rfl]
 have h2:kV T 8 ar (.agg (ash.map u8v)) (.agg (bsh.map u8v))=some (decide (ash=bsh)):=by
  rw[q8 bZ rfl cW];exact xL cW rfl rfl 6 32 _ _ ha hb
 have h3:kV T 8 du (.bool af) (.bool bf)=some (af == bf):=by
  rw[kV];simp only[lL];rfl
 have f1:∀ n,dD iZ (.int .i64 n)=true:=fun _=>rfl;have f2:∀ n,dD rT (.bool n)=true:=fun _=>rfl;rw[kV];simp only[jN];show eqF T (kV T 8) [(aq,0),(ar,1),(du,33)] [.int .i64 ai,.agg (ash.map u8v),.bool af] [.int .i64 bi,.agg (bsh.map u8v),.bool bf] 0=_;have o1:iZ.size=1:=rfl;have o2:dQ.size=32:=rfl;simp only[eqF,cu,bZ,lL,h1,h2,h3,f1,f2,AA ha,AA hb,o1,o2];by_cases e1:ai=bi
 ·by_cases e2:ash=bsh
  ·by_cases e3:af=bf
   ·subst e1 e2 e3;simp
   ·subst e1 e2;have:(af == bf)=false:=(by simp[e3]);simp[this,e3]
  ·simp[e1,e2]
 ·simp[e1]
theorem IW {a b:b6}(ha:a.ok) (hb:b.ok):az T .neq cz a.av b.av=some (.bool (!decide (a=b))):=by
 have:=Iw ha hb;unfold b6.av at this ⊢;simp only[az,this]
section
variable {F0:List AId}{G0 G:ak}{ps:List LP}{v:ah}{l:List b6}{j:Nat}{s:b6}{x:Int}
theorem y7 (h:ff 34 G v (l.map b6.av)) (hx:x=(j:Int)) (hj:l[j]?=some s):∃ a,aO T aV v (.int .i64 x)=some a/\ag T G cz a=some s.av:=by
 subst hx;exact h.at_ (k:=.i64) gz rfl jN (uc l hj) rfl
theorem BG (h:ff 34 G v (l.map b6.av)) (hx:x=(j:Int)) (hj:l[j]?=some s) (ho:s.ok):∃ a b,aO T aV v (.int .i64 x)=some a/\bt T cz a 2=some b/\ag T G du b=some (.bool s.full):=by
 subst hx;have h1:szs (s.secret.map u8v)=32:=by rw[gX (n:=1) (kd _)];simp[show s.secret.length=32 from ho]
 exact ff.fld (k:=.i64) (cs:=s.cs) gz rfl jN (fs:=[(aq,0),(ar,1),(du,33)]) (f:=2) (o:=33) rfl rfl lL (by decide) h (uc l hj) (by simp[b6.cs,szs,Esc.sz,h1]) rfl rfl
theorem Fk (h:ff 34 G v (l.map b6.av)) (hx:x=(j:Int)) (hj:l[j]?=some s):∃ a b,aO T aV v (.int .i64 x)=some a/\bt T cz a 0=some b/\ag T G aq b=some (.int .i64 s.index):=by
 subst hx;exact ff.fld (k:=.i64) (cs:=s.cs) gz rfl jN (fs:=[(aq,0),(ar,1),(du,33)]) (f:=0) (o:=0) rfl rfl cu (by decide) h (uc l hj) rfl rfl rfl
theorem DZ (h:ff 34 G v (l.map b6.av)) (hx:x=(j:Int)) (hj:l[j]?=some s) (ho:s.ok):∃ a b,aO T aV v (.int .i64 x)=some a/\bt T cz a 1=some b/\ag T G ar b=some (.agg (s.secret.map u8v)):=by
 subst hx;exact ff.fld (k:=.i64) (cs:=s.cs) gz rfl jN (fs:=[(aq,0),(ar,1),(du,33)]) (f:=1) (o:=1) rfl rfl bZ (by decide) h (uc l hj) (by simp[b6.cs,szs,Esc.sz]) rfl (AA ho)
theorem ot (h:ff 34 G v (l.map b6.av)):fU T G aV v=some (.int .i64 (l.length:Nat)):=by
 rw[h.len (i:=jr) gz rfl,List.length_map]
theorem D0 {i:Nat}(hx:x=(j:Int)) (hs:Sp F0 G0 ps G) (hi:ps[i]?=some (bm 34 v (l.map b6.av))) (hj:j<l.length) (ho:s.ok) :
  ∃ a,aO T aV v (.int .i64 x)=some a/\∀ K:ak->Prop,(∀ G',Sp F0 G0 (ps.set i (bm 34 v ((l.set j s).map b6.av))) G'->K G')->wg (aF T G cz a s.av) K:=by
 rw[List.map_set];exact Ks (k:=.i64) gz rfl jN hx hs hi (by simpa using hj) (b6.sz ho) rfl (b6.okv s)
theorem re {i:Nat}{id:AId}(hs:Sp F0 G0 ps G) (hi:ps[i]?=some (au id s.av)) (ho:s.ok) :
  ag T G aq (.ptr id [0] 0)=some (.int .i64 s.index)/\ag T G ar (.ptr id [1] 1)=some (.agg (s.secret.map u8v))/\ag T G du (.ptr id [2] 33)=some (.bool s.full)/\ag T G cz (.ptr id [] 0)=some s.av:=by
 have hg:=au.own hs hi;have h1:szs (s.secret.map u8v)=32:=by rw[gX (n:=1) (kd _)];simp[show s.secret.length=32 from ho]
 refine⟨dI (c:=.int .i64 s.index) hg rfl rfl rfl cu rfl,dI (c:=.agg (s.secret.map u8v)) hg rfl rfl rfl bZ (AA ho),dI (cs:=s.cs) (c:=.bool s.full) hg rfl (by simp[b6.cs,szs,Esc.sz,h1]) rfl lL rfl,cj jN hg (b6.fits ho)⟩
theorem vd {i:Nat}{id:AId}{s':b6}(hs:Sp F0 G0 ps G) (hi:ps[i]?=some (au id s.av)) (h:s.ok) (h':s'.ok) {K:ak->Prop}(hK:∀ G',Sp F0 G0 (ps.set i (au id s'.av)) G'->K G'):wg (aF T G cz (.ptr id [] 0) s'.av) K:=by
 refine fg (ig jN (au.own hs hi) (b6.fits h') (by rw[b6.sz h,b6.sz h']) (b6.okv _)) ?_;exact hK _ (Sp.setRow hs hi _)
theorem MH {K:AId->ak->Prop}(hs:Sp F0 G0 ps G) (ho:s.ok) (hK:∀ i G',Sp F0 G0 (au i s.av::ps) G'->K i G') :
  br G (.own pW) fun i G2=>wg (aF T G2 cz (.ptr i [] 0) s.av) fun G3=>K i G3:=jL hs jN (b6.fits ho) (by rw[KZ,b6.sz oE,b6.sz ho]) (b6.okv s) hK
theorem B9 {i:Nat}{K:ah->ak->Prop}(hs:Sp F0 G0 ps G) (hi:ps[i]?=some (bm 34 v (l.map b6.av))) (ho:s.ok) (hl:(l.length+1)*48≤140737488355328) (hK:∀ v' G',Sp F0 G0 (ps.set i (bm 34 v' ((l++[s]).map b6.av))) G'->K v' G') :
  bu T aV 1 [(0,s.av)] G fun w G'=>cn T G' aV aV v w K:=by
 refine wm gz rfl jN (b6.sz oE) (by decide) hs hi (b6.sz ho) (b6.okv s) (by decide) (by rw[List.length_map];exact hl) fun s' G' h=>hK s' G' ?_;rw[List.map_append];exact h
end
theorem AQ {n:Int}{h:List UInt8}(hl:h.length=32) (b:Bool):bj T cz [(0,.int .i64 n),(1,.agg (h.map u8v)),(2,.bool b)]=some (b6.av ⟨n,h,b⟩):=by
 refine (kO (zs:=oF.cs) jN rfl rfl rfl (pf (by decide +kernel)) ?_).trans rfl;intro p hp;simp only[List.mem_cons,List.not_mem_nil,or_false]at hp;have e1:szs (h.map u8v)=32:=by rw[gX (n:=1) (kd _)];simp[hl]
 have e2:szs (mE.map u8v)=32:=by rw[gX (n:=1) (kd _)];rfl
 rcases hp with rfl|rfl|rfl
 ·rfl
 ·simp[oF,b6.cs,Esc.sz,e1,e2]
 ·simp[oF,b6.cs,Esc.sz]
theorem aeM (n:Int):bj T cz [(0,.int .i64 n)]=some (b6.av ⟨n,mE,false⟩):=by
 refine (kO (zs:=oF.cs) jN rfl rfl rfl (pf (by decide +kernel)) ?_).trans rfl;intro p hp;simp only[List.mem_cons,List.not_mem_nil,or_false]at hp;subst hp;simp[oF,b6.cs,Esc.sz]
theorem FZ:bj T cz []=some oF.av:=rfl
def atS (l:List b6) (j:Nat):b6:=if (l.getD j oF).full=true then l.getD j oF else oF
def vy (secret:List UInt8) (n:Int) (s:b6):Bool:=s.full && !decide (kN secret n s.index=(s.secret,0))
def vl (l:List b6) (n:Int) (secret:List UInt8):Bool:=(List.range (level (pl n))).all fun j=>!vy secret n (atS l j)
def Aq (l:List b6) (n:Int) (secret:List UInt8):List b6:=(List.range 49).map fun j=>if j=level (pl n) then ⟨n,secret,true⟩ else atS l j
def tw (l:List b6) (n:Int) (secret:List UInt8):List b6×Int:=
 if 49<l.length then ([],1) else if okN n=true then (if vl l n secret=true then (Aq l n secret,0) else ([],100)) else ([],90)
theorem A8 {l:List b6}{j:Nat}{s:b6}(h:l[j]?=some s):atS l j=if s.full=true then s else oF:=by
 unfold atS;rw[List.getD_eq_getElem?_getD,h];rfl
theorem wF {l:List b6}{j:Nat}(h:l.length≤j):atS l j=oF:=by
 unfold atS;rw[List.getD_eq_getElem?_getD,List.getElem?_eq_none h];rfl
theorem JU {l:List b6}(h:∀ s∈l,s.ok) (j:Nat):(atS l j).ok:=by
 by_cases hj:j<l.length
 ·have hx:l[j]?=some l[j]:=List.getElem?_eq_getElem hj;rw[A8 hx];split
  ·exact h _ (List.mem_of_getElem? hx)
  ·exact oE
 ·rw[wF (by omega)];exact oE
theorem Ju {l:List b6}{n:Int}{secret:List UInt8}(h:∀ s∈l,s.ok) (hs:secret.length=32):∀ s∈Aq l n secret,s.ok:=by
 intro s hm;unfold Aq at hm;obtain⟨j,_,rfl⟩:=List.mem_map.1 hm;split
 ·exact hs
 ·exact JU h j
theorem Kq {l:List b6}{n:Int}{secret:List UInt8}(h:∀ s∈l,s.ok) (hs:secret.length=32):∀ s∈(tw l n secret).1,s.ok:=by
 unfold tw;intro s hm;split at hm
 ·simp at hm
 ·split at hm
  ·split at hm
   ·exact Ju h hs s hm
   ·simp at hm
  ·simp at hm
theorem HS (l:List b6) (n:Int) (secret:List UInt8):(Aq l n secret).length=49:=by simp[Aq]
theorem sb {l:List b6}{n:Int}{secret:List UInt8}:vl l n secret=true ↔ ∀ j,j<level (pl n)->vy secret n (atS l j)=false:=by
 unfold vl;rw[List.all_eq_true];constructor
 ·intro h j hj;have:=h j (List.mem_range.2 hj);simpa using this
 ·intro h j hj;have:=h j (List.mem_range.1 hj);simp[this]
theorem I5 (l:List b6) (n:Int) (secret:List UInt8):(tw l n secret).1.length≤49:=by
 unfold tw;split
 ·simp
 ·split
  ·split
   ·rw[HS];omega
   ·simp
  ·simp
end Go.Esc.M
namespace Go.Esc.M
open Go Go.Esc
theorem BI {f:Nat->b6}{j:Nat}{x:b6}:((List.range 49).map f).set j x=(List.range 49).map fun q=>if q=j then x else f q:=by
 refine List.ext_getElem? fun i=>?_;rw[List.getElem?_map];by_cases hi:i<49
 ·rw[List.getElem?_range hi,Option.map_some];by_cases hij:i=j
  ·subst hij;rw[List.getElem?_set_self (by simpa using hi),if_pos rfl]
  ·rw[List.getElem?_set_ne (fun h=>hij h.symm),List.getElem?_map,List.getElem?_range hi,Option.map_some,if_neg hij]
 ·rw[List.getElem?_eq_none (by simp;omega),List.getElem?_eq_none (by simp;omega)];rfl
theorem HO (a:Int):(oc a).2=if okN a=true then 0 else 90:=by
 unfold oc;cases okN a<;>rfl
section
variable {F0:List AId}{G0 G:ak}{ps:List LP}{Q:ah->ak->Prop}
def p8 (l:List b6) (j:Nat):List b6:=(List.range 49).map fun q=>if q<j then atS l q else oF
theorem BO (l:List b6) (j:Nat):(p8 l j).length=49:=by simp[p8]
theorem Fx (l:List b6):p8 l 0=List.replicate 49 oF:=by
 unfold p8;refine List.ext_getElem? fun i=>?_;by_cases hi:i<49
 ·rw[List.getElem?_map,List.getElem?_range hi,List.getElem?_replicate_of_lt hi];rfl
 ·rw[List.getElem?_eq_none (by simp;omega),List.getElem?_eq_none (by simp;omega)]
theorem Fz (l:List b6) (j:Nat):(p8 l j).set j (atS l j)=p8 l (j+1):=by
 unfold p8;rw[BI];refine List.map_congr_left fun q _=>?_;by_cases h1:q=j
 ·subst h1;rw[if_pos rfl,if_pos (by omega)]
 ·rw[if_neg h1];by_cases h2:q<j
  ·rw[if_pos h2,if_pos (by omega)]
  ·rw[if_neg h2,if_neg (by omega)]
theorem Fy {l:List b6}{j:Nat}(h:atS l j=oF):p8 l j=p8 l (j+1):=by
 unfold p8;refine List.map_congr_left fun q _=>?_;by_cases h1:q=j
 ·subst h1;rw[if_neg (by omega),if_pos (by omega),h]
 ·by_cases h2:q<j
  ·rw[if_pos h2,if_pos (by omega)]
  ·rw[if_neg h2,if_neg (by omega)]
theorem HI (l:List b6) (n:Int) (secret:List UInt8):(p8 l l.length).set (level (pl n)) ⟨n,secret,true⟩=Aq l n secret:=by
 unfold p8 Aq;rw[BI];refine List.map_congr_left fun q _=>?_;by_cases h1:q=level (pl n)
 ·rw[if_pos h1,if_pos h1]
 ·rw[if_neg h1,if_neg h1];by_cases h2:q<l.length
  ·rw[if_pos h2]
  ·rw[if_neg h2,wF (by omega)]
theorem kC.use {v:ah}{l:List b6}{n:Int}{secret:List UInt8}(hT:Tab G) (hl:ff 34 G v (l.map b6.av)) (hok:∀ s∈l,s.ok) (hlen:l.length*48≤140737488351232) (hs:secret.length=32)
  (hQ:∀ w G',Sp [] G [bm 34 w ((tw l n secret).1.map b6.av)] G'->Q (.tuple [w,.int .i64 (tw l n secret).2]) G'):al P kC.n [v,.int .i64 n,.agg (secret.map u8v)] G Q:=by
 refine kC.sound ?_;unfold kC.S;intro i1 f1;have s1:=(Sp.nil G).row f1 (.agg (secret.map u8v));refine ae (ot (hl.ch' s1.ch)) ?_;unfold tw at hQ;rw[da,aa,aI];refine⟨fun h=>?_,fun h=>?_⟩
 ·rw[if_pos (by omega)]at hQ;exact hQ _ _ ((s1.nz 34).erase 1)
 rw[if_neg (by omega)]at hQ;refine jt.use (hT.mono s1.ro) ?_;refine ae (ii0 _) ?_;refine ae (ii1 _) ?_;cases hn:okN n with
 | false=>
  rw[hn,if_neg (by simp)]at hQ;have:(oc n).2=90:=by rw[HO,hn];rfl
  rw[this];refine ae (v:=.bool true) rfl ?_;rw[aN];exact hQ _ _ ((s1.nz 34).erase 1)
 | true=>
  rw[hn,if_pos rfl]at hQ;rw[El hn,nz0,aa,aK];have hlv:=rq (pl n);obtain⟨lv,hlve⟩:∃ k,k=level (pl n):=⟨_,rfl⟩;refine Mm (n:=49) gz rfl jN (b6.sz oE) rfl rfl (by decide) (by decide) s1 fun w G11 s11=>?_;have s11:Sp [] G [bm 34 w (List.replicate 49 oF.av),au i1 (.agg (secret.map u8v))] G11:=s11;have e0:List.replicate 49 oF.av=(p8 l 0).map b6.av:=by rw[Fx,List.map_replicate]
  rw[e0]at s11;refine ae (ot (hl.ch' s11.ch)) ?_;intro R hR;have loop:∀ (m j:Nat) (G':ak),l.length-j=m->j≤l.length->(∀ q,q<j->q<level (pl n)->vy secret n (atS l q)=false)->Sp [] G [bm 34 w ((p8 l j).map b6.av),au i1 (.agg (secret.map u8v))] G' ->
    R [v,.int .i64 n,.ptr i1 [] 0,.int .i64 ((level (pl n):Nat):Int),w,.int .i64 (l.length:Int),.int .i64 (j:Int)] G':=by
   intro m;induction m with
   | zero=>
    intro j G' hm hj hb sp;have hjl:j=l.length:=(by omega);subst hjl;have hall:vl l n secret=true:=by
     rw[sb];intro q hq;by_cases hql:q<l.length
     ·exact hb q hql hq
     ·rw[wF (by omega)];rfl
    rw[hall,if_pos rfl]at hQ;refine hR _ _ _ _ _ _ _ _ ?_;rw[aM,aa,dF_ (by omega),aK];refine ae (bM hs (au.own (i:=1) sp rfl)) ?_;refine ae (AQ hs true) ?_;obtain⟨a,e1,e2⟩:=D0 (i:=0) (j:=level (pl n)) (s:=⟨n,secret,true⟩) (x:=((level (pl n):Nat):Int)) rfl sp rfl (by rw[BO];omega) hs;refine ae e1 ?_;refine e2 _ fun G59 s59=>?_;rw[HI]at s59;exact hQ _ _ (s59.erase 1)
   | succ m ih=>
    intro j G' hm hj hb sp;obtain⟨s,hsj⟩:∃ s,l[j]?=some s:=⟨_,List.getElem?_eq_getElem (by omega)⟩;have hso:=hok s (List.mem_of_getElem? hsj);have hat:=A8 hsj;refine hR _ _ _ _ _ _ _ _ ?_;rw[aM,aa,dT_ (by omega),aN];obtain⟨a,b,e1,e2,e3⟩:=BG (hl.ch' sp.ch) rfl hsj hso;refine ae e1 ?_;refine ae e2 ?_;refine ae e3 ?_;rw[dx,aa];have ev:az T .add ay (.int .i64 (j:Int)) (.int .i64 1)=some (.int .i64 ((j+1:Nat):Int)):=by
     rw[bg,i64_in (by omega) (by omega)];rfl
    cases hf:s.full with
    | false=>
     rw[Bool.not_false,aN];rw[hf,if_neg (by simp)]at hat;refine ae ev ?_;rw[Fy hat]at sp;refine ih (j+1) G' (by omega) (by omega) (fun q hq hq2=>?_) sp;by_cases hqj:q=j
     ·subst hqj;rw[hat];rfl
     ·exact hb q (by omega) hq2
    | true=>
     rw[Bool.not_true,aK];rw[hf,if_pos rfl]at hat;obtain⟨a,e1,e2⟩:=y7 (hl.ch' sp.ch) rfl hsj;refine ae e1 ?_;refine ae e2 ?_;obtain⟨a,e1,e2⟩:=D0 (i:=0) (j:=j) (s:=s) (x:=(j:Int)) rfl sp rfl (by rw[BO];omega) hso;refine ae e1 ?_;refine e2 _ fun G30 s30=>?_;have s30:Sp [] G [bm 34 w (((p8 l j).set j s).map b6.av),au i1 (.agg (secret.map u8v))] G30:=s30;rw[<- hat,Fz,]at s30;rw[fI,aa,aI];refine⟨fun hge=>?_,fun hlt=>?_⟩
     ·refine ae ev ?_;refine ih (j+1) G30 (by omega) (by omega) (fun q hq hq2=>?_) s30;exact hb q (by omega) hq2
     ·refine ae (bM hs (au.own (i:=1) s30 rfl)) ?_;obtain⟨a,b,e1,e2,e3⟩:=Fk (hl.ch' s30.ch) rfl hsj;refine ae e1 ?_;refine ae e2 ?_;refine ae e3 ?_;refine ju.use (hT.mono s30.ro) hs fun G37 c37=>?_;have s37:=s30.tmp c37;refine ae (hi0 _) ?_;refine ae (hi1 _) ?_;have hdl:=Ak hs n s.index;have hbadj:vy secret n (atS l j)=!decide (kN secret n s.index=(s.secret,0)):=(by rw[hat];unfold vy;rw[hf,Bool.true_and]);refine Ml s37 hdl fun i40 G42 s42=>?_;have fail:vy secret n (atS l j)=true->Q (.tuple [.nilSlice,.int .i64 100]) G42:=by
       intro hbad;have:vl l n secret=false:=by
        refine Bool.eq_false_iff.2 fun h=>?_;rw[sb]at h;rw[h j (by omega)]at hbad;cases hbad
       rw[this,if_neg (by simp)]at hQ;exact hQ _ _ ((((s42.nz 34).erase 1).erase 1).erase 1)
      rw[cD,aa];by_cases hz:(kN secret n s.index).2=0
      ·rw[dT_ hz,Bool.not_true,aK];refine ae (bM hdl (au.own (i:=0) s42 rfl)) ?_;obtain⟨a,b,e1,e2,e3⟩:=DZ (hl.ch' s42.ch) rfl hsj hso;refine ae e1 ?_;refine ae e2 ?_;refine ae e3 ?_;refine ae (B6 hdl hso) ?_;by_cases hd:(kN secret n s.index).1=s.secret
       ·rw[dT_ hd,Bool.not_true,aK];refine ae ev ?_;refine ih (j+1) G42 (by omega) (by omega) (fun q hq hq2=>?_) (s42.erase 0);by_cases hqj:q=j
        ·subst hqj;rw[hbadj,dT_ (Prod.ext hd hz)];rfl
        ·exact hb q (by omega) hq2
       ·rw[dF_ hd,Bool.not_false,aN];refine fail ?_;rw[hbadj,dF_ fun h=>hd (by rw[h])];rfl
      ·rw[dF_ hz,Bool.not_false,aN];refine fail ?_;rw[hbadj,dF_ fun h=>hz (by rw[h])];rfl
  exact loop l.length 0 G11 rfl (by omega) (fun q hq=>by omega) s11
end
end Go.Esc.M
namespace Go.Esc.M
open Go Go.Esc
section
variable {F0:List AId}{G0 G:ak}{ps:List LP}{Q:ah->ak->Prop}
def LX (k:Nat) (n:Int):Int:=if 49<k then 1 else if okN n=true then 0 else 90
theorem fq.use {v:ah}{l:List b6}{n:Int}(hl:ff 34 G v (l.map b6.av)) (hQ:Q (.int .i64 (LX l.length n)) G):al P fq.n [v,.int .i64 n] G Q:=by
 refine fq.sound ?_;unfold fq.S;unfold LX at hQ;have hiff:=GJ (n:=n);refine ae (ot hl) ?_;rw[da,aa,aI];refine⟨fun h=>?_,fun h=>?_⟩
 ·rw[if_pos (by omega)]at hQ;exact hQ
 rw[if_neg (by omega)]at hQ;rw[aM,aa,aI];refine⟨fun h=>?_,fun h=>?_⟩
 ·rw[if_neg (fun hh=>by have:=hiff.1 hh;omega)]at hQ;exact hQ
 rw[da,aa,aI];refine⟨fun h=>?_,fun h=>?_⟩
 ·rw[if_neg (fun hh=>by have:=hiff.1 hh;omega)]at hQ;exact hQ
 ·rw[if_pos (hiff.2 ⟨by omega,by omega⟩)]at hQ;exact hQ
theorem gW.use {v:ah}{l:List b6}{j:Nat}(hl:ff 34 G v (l.map b6.av)) (hok:∀ s∈l,s.ok) (hlen:l.length*48≤140737488351232) (hQ:∀ G',Ch [] G [] G'->Q (atS l j).av G'):al P gW.n [v,.int .i64 (j:Int)] G Q:=by
 refine gW.sound ?_;unfold gW.S;rw[KZ];intro i1 f1;have s1:=(Sp.nil G).row f1 oF.av;intro J17;have no:atS l j=oF->J17 (.bool false) (G.upd i1 (.own oF.av)):=by
  intro h;rw[h]at hQ;simp -zeta only [J17,aK];refine ae FZ ?_;refine vd (i:=0) s1 rfl oE oE fun G' s=>?_;refine ae (re (i:=0) s rfl oE).2.2.2 ?_;exact hQ _ s.ch
 refine ae (ot (hl.ch' s1.ch)) ?_;rw[aM,aa,aI];refine⟨fun h=>?_,fun h=>no (wF (by omega))⟩;obtain⟨s,hsj⟩:∃ s,l[j]?=some s:=⟨_,List.getElem?_eq_getElem (by omega)⟩;have hso:=hok s (List.mem_of_getElem? hsj);have hat:=A8 hsj;obtain⟨a,b,e1,e2,e3⟩:=BG (hl.ch' s1.ch) rfl hsj hso;refine ae e1 ?_;refine ae e2 ?_;refine ae e3 ?_;cases hf:s.full with
 | false=>
  rw[hf,if_neg (by simp)]at hat;exact no hat
 | true=>
  rw[hf,if_pos rfl]at hat;rw[hat]at hQ;simp -zeta only [J17,aN];obtain⟨a,e1,e2⟩:=y7 (hl.ch' s1.ch) rfl hsj;refine ae e1 ?_;refine ae e2 ?_;refine vd (i:=0) s1 rfl oE hso fun G' s'=>?_;refine ae (re (i:=0) s' rfl hso).2.2.2 ?_;exact hQ _ s'.ch
def ace (l:List b6) (n:Int) (secret:List UInt8) (j:Nat):List b6:=(List.range j).map fun q=>if q=level (pl n) then ⟨n,secret,true⟩ else atS l q
theorem Ar (l:List b6) (n:Int) (secret:List UInt8) (j:Nat):ace l n secret (j+1)=ace l n secret j++[if j=level (pl n) then ⟨n,secret,true⟩ else atS l j]:=by
 unfold ace;rw[List.range_succ,List.map_append];rfl
theorem HT (l:List b6) (n:Int) (secret:List UInt8) (j:Nat):(ace l n secret j).length=j:=by simp[ace]
theorem fN.use {v:ah}{l:List b6}{n:Int}{secret:List UInt8}(hl:ff 34 G v (l.map b6.av)) (hok:∀ s∈l,s.ok) (hlen:l.length*48≤140737488351232) (hs:secret.length=32)
    (hQ:∀ w G',Sp [] G [bm 34 w ((tw l n secret).1.map b6.av)] G'->Q (.tuple [w,.int .i64 (tw l n secret).2]) G'):al P fN.n [v,.int .i64 n,.agg (secret.map u8v)] G Q:=by
  refine fN.sound ?_;unfold fN.S;intro i1 f1;have s1:=(Sp.nil G).row f1 (.agg (secret.map u8v));refine fq.use (hl.ch' s1.ch) ?_;unfold tw at hQ;unfold LX;by_cases h49:49<l.length
  · rw[if_pos h49]at hQ ⊢
    refine ae (v:=.bool true) rfl ?_;rw[aN];exact hQ _ _ ((s1.nz 34).erase 1)
  rw[if_neg h49]at hQ ⊢;cases hn:okN n with
  | false=>
    rw[hn,if_neg (by simp)]at hQ;rw[if_neg (by simp)];refine ae (v:=.bool true) rfl ?_;rw[aN];exact hQ _ _ ((s1.nz 34).erase 1)
  | true=>
    rw[hn,if_pos rfl]at hQ;rw[if_pos rfl,nz0,aa,aK];refine fu.use fun G7 c7=>?_;have s1:=s1.tmp c7;refine ae (ii0 _) ?_;refine ae (ii1 _) ?_;rw[El hn];have hlv:=rq (pl n);intro R hR;have loop:∀ (m j:Nat) (w:ah) (G':ak),49-j=m->j≤49->(∀ q,q<j->q<level (pl n)->vy secret n (atS l q)=false)->Sp [] G [bm 34 w ((ace l n secret j).map b6.av),au i1 (.agg (secret.map u8v))] G' ->
        R [v,.int .i64 n,.ptr i1 [] 0,.int .i64 ((level (pl n):Nat):Int),w,.int .i64 (j:Int)] G':=by
      intro m;induction m with
      | zero=>
        intro j w G' hm hj hb sp;have hjl:j=49:=(by omega);subst hjl;have hall:vl l n secret=true:=by
          rw[sb];intro q hq;exact hb q (by omega) hq
        rw[hall,if_pos rfl]at hQ;refine hR _ _ _ _ _ _ _ ?_;rw[aM,aa,dF_ (by omega),aK];exact hQ _ _ (sp.erase 1)
      | succ m ih=>
        intro j w G' hm hj hb sp;refine hR _ _ _ _ _ _ _ ?_;rw[aM,aa,dT_ (by omega),aN];have hao:=JU hok j;have ev:az T .add ay (.int .i64 (j:Int)) (.int .i64 1)=some (.int .i64 ((j+1:Nat):Int)):=by
          rw[bg,i64_in (by omega) (by omega)];rfl
        refine gW.use (hl.ch' sp.ch) hok hlen fun G20 c20=>?_;have s20:=sp.tmp c20;obtain⟨x,hx⟩:∃ x,x=atS l j:=⟨_,rfl⟩;rw[<- hx]at hao ⊢;refine MH s20 hao fun i21 G23 s23=>?_;intro J65;have h64:∀ G43,Sp [] G [au i21 x.av,bm 34 w ((ace l n secret j).map b6.av),au i1 (.agg (secret.map u8v))] G43->(j<level (pl n)->vy secret n (atS l j)=false) ->
            (wv (az T .eql ay (.int .i64 (j:Int)) (.int .i64 ((level (pl n):Nat):Int))) fun v44=>brB (some v44)
  (wv (ag T G43 ar (.ptr i1 [] 0)) fun v45=>wv (bj T cz [(0,.int .i64 n),(1,v45),(2,.bool true)]) fun v46=>wg (aF T G43 cz (.ptr i21 [] 0) v46) fun G47=>wv (ag T G47 cz (.ptr i21 [] 0)) fun v54=>bu T aV 1 [(0,v54)] G47 fun v55 G56=>cn T G56 aV aV w v55 fun v57 G58=>wv (az T .add ay (.int .i64 (j:Int)) (.int .i64 1)) fun v69=>R [v,.int .i64 n,.ptr i1 [] 0,.int .i64 ((level (pl n):Nat):Int),v57,v69] G58)
  (wv (ag T G43 cz (.ptr i21 [] 0)) fun v59=>bu T aV 1 [(0,v59)] G43 fun v60 G61=>cn T G61 aV aV w v60 fun v62 G63=>wv (az T .add ay (.int .i64 (j:Int)) (.int .i64 1)) fun v70=>R [v,.int .i64 n,.ptr i1 [] 0,.int .i64 ((level (pl n):Nat):Int),v62,v70] G63)):=by
          intro G43 s43 hbj;have hb':∀ q,q<j+1->q<level (pl n)->vy secret n (atS l q)=false:=fun q hq hq2=>by
            by_cases hqj:q=j
            · subst hqj;exact hbj hq2
            · exact hb q (by omega) hq2
          have hgl:((ace l n secret j).length+1)*48≤140737488355328:=(by rw[HT];omega);rw[bB,aa,aI];refine⟨fun he=>?_,fun he=>?_⟩
          · refine ae (bM hs (au.own (i:=2) s43 rfl)) ?_
            refine ae (AQ hs true) ?_;refine vd (i:=0) (s':=⟨n,secret,true⟩) s43 rfl hao hs fun G47 s47=>?_;refine ae (re (i:=0) (s:=⟨n,secret,true⟩) s47 rfl hs).2.2.2 ?_;refine B9 (i:=1) (s:=⟨n,secret,true⟩) s47 rfl hs hgl fun w' G58 s58=>?_;have s58:=s58.erase 0;have e:ace l n secret j++[⟨n,secret,true⟩]=ace l n secret (j+1):=(by rw[Ar,if_pos (by omega)]);rw[e]at s58;exact ae ev (ih (j+1) w' G58 (by omega) (by omega) hb' s58)
          · refine ae (re (i:=0) s43 rfl hao).2.2.2 ?_
            refine B9 (i:=1) s43 rfl hao hgl fun w' G58 s58=>?_;have s58:=s58.erase 0;have e:ace l n secret j++[x]=ace l n secret (j+1):=(by rw[Ar,if_neg (by omega),hx]);rw[e]at s58;exact ae ev (ih (j+1) w' G58 (by omega) (by omega) hb' s58)
        have hbad:vy secret n (atS l j)=true->j<level (pl n)->vl l n secret=false:=by
          intro hbad hj2;refine Bool.eq_false_iff.2 fun h=>?_;rw[sb]at h;rw[h j hj2]at hbad;cases hbad
        have h65n:(j<level (pl n)->vy secret n (atS l j)=false)->J65 (.bool false) G23:=by
          intro hbj;simp -zeta only [J65,aK];exact h64 G23 s23 hbj
        rw[aM,aa,aI];refine⟨fun hjl=>?_,fun hjl=>h65n fun h=>absurd h (by omega)⟩;have hjl:j<level (pl n):=(by omega);obtain⟨l0,l1,l2,l3⟩:=re (i:=0) s23 rfl hao;refine ae l2 ?_;cases hf:x.full with
        | false=>
          refine h65n fun _=>?_;rw[<- hx];unfold vy;rw[hf];rfl
        | true=>
          simp -zeta only [J65,aN];have hbadj:vy secret n (atS l j)=!decide (kN secret n x.index=(x.secret,0)):=(by rw[<- hx];unfold vy;rw[hf,Bool.true_and]);refine ae (bM hs (au.own (i:=2) s23 rfl)) ?_;refine ae l0 ?_;refine eM.use hs fun G31 c31=>?_;have s31:=s23.tmp c31;refine ae (hi0 _) ?_;refine ae (hi1 _) ?_;have hdl:=Ak hs n x.index;refine Ml s31 hdl fun i34 G36 s36=>?_;have fail:vy secret n (atS l j)=true->Q (.tuple [.nilSlice,.int .i64 100]) G36:=by
            intro hb1;rw[hbad hb1 hjl,if_neg (by simp)]at hQ;exact hQ _ _ (((((s36.nz 34).erase 1).erase 1).erase 1).erase 1)
          rw[cD,aa];by_cases hz:(kN secret n x.index).2=0
          · rw[dT_ hz,Bool.not_true,aK]
            refine ae (bM hdl (au.own (i:=0) s36 rfl)) ?_;refine ae (re (i:=1) s36 rfl hao).2.1 ?_;refine ae (B6 hdl hao) ?_;by_cases hd:(kN secret n x.index).1=x.secret
            · rw[dT_ hd,Bool.not_true,aK]
              refine h64 G36 (s36.erase 0) fun _=>?_;rw[hbadj,dT_ (Prod.ext hd hz)];rfl
            · rw[dF_ hd,Bool.not_false,aN]
              refine fail ?_;rw[hbadj,dF_ fun h=>hd (by rw[h])];rfl
          · rw[dF_ hz,Bool.not_false,aN]
            refine fail ?_;rw[hbadj,dF_ fun h=>hz (by rw[h])];rfl
    exact loop 49 0 .nilSlice _ rfl (by omega) (fun q hq=>by omega) (s1.nz 34)
end
end Go.Esc.M
namespace Go.Esc.M
open Go Go.Esc
section
variable {F0:List AId}{G0 G:ak}{ps:List LP}{Q:ah->ak->Prop}
theorem pg {h:List UInt8}{K:AId->ak->Prop}(hs:Sp F0 G0 ps G) (hl:h.length=32) (hK:∀ i G',Sp F0 G0 (au i (.agg (h.map u8v))::ps) G'->K i G') :
  br G (.own dm) fun i G2=>wg (aF T G2 ar (.ptr i [] 0) (.agg (h.map u8v))) fun G3=>K i G3:=by
 intro i hf;rw[mF];have s:=hs.row hf (.agg ((List.replicate 32 (0:UInt8)).map u8v));rw[gA (by simp) hl (au.own (i:=0) s rfl),jl];exact hK _ _ (Sp.setRow s (j:=0) rfl _)
theorem ug {i:Nat}{id:AId}{h:List UInt8}(hs:Sp F0 G0 ps G) (hi:ps[i]?=some (au id (.agg (h.map u8v)))) (hl:h.length=32):ag T G ar (.ptr id [] 0)=some (.agg (h.map u8v)):=bM hl (au.own hs hi)
theorem j3.use {key text:List UInt8}(hk:key.length=32) (hl:text.length≤281474976700000) (hQ:∀ G',Ch [] G [] G'->Q (.agg ((mac key text).map u8v)) G'):al P j3.n [.agg (key.map u8v),.str text] G Q:=by
 refine j3.sound ?_;unfold j3.S;rw[mF];intro i1 f1;have s1:=(Sp.nil G).row f1 (.agg (key.map u8v));intro i3 f3;have s3:=s1.row f3 (.agg ((List.replicate 32 (0:UInt8)).map u8v));rw[ug (i:=1) s3 rfl hk,aa];refine l9.use hk (by omega) fun G7 c7=>?_;have s7:=s3.tmp c7;have hm:(mac key text).length=32:=gU _;rw[gA (by simp) hm (au.own (i:=0) s7 rfl),jl,bM hm (ak.dR _ _ _),aa];exact hQ _ (Sp.setRow s7 (j:=0) rfl (.agg ((mac key text).map u8v))).ch
theorem fc.use {key text:List UInt8}(hk:key.length=32) (hl:text.length≤140737488354000) (hQ:∀ G',Ch [] G [] G'->Q (.agg ((mac key text).map u8v)) G'):al P fc.n [.agg (key.map u8v),.str text] G Q:=by
 refine fc.sound ?_;unfold fc.S;rw[mF];intro i1 f1;have s1:=(Sp.nil G).row f1 (.agg (key.map u8v));intro i3 f3;have s3:=s1.row f3 (.agg ((List.replicate 32 (0:UInt8)).map u8v));rw[ug (i:=1) s3 rfl hk,aa];refine gB.use hk hl fun G7 c7=>?_;have s7:=s3.tmp c7;have hm:(mac key text).length=32:=gU _;rw[gA (by simp) hm (au.own (i:=0) s7 rfl),jl,bM hm (ak.dR _ _ _),aa];exact hQ _ (Sp.setRow s7 (j:=0) rfl (.agg ((mac key text).map u8v))).ch
theorem Fo {a b:List UInt8}(ha:a.length=32) (hb:b.length=32):az T .eql ar (.agg (a.map u8v)) (.agg (b.map u8v))=some (.bool (decide (a=b))):=wT bZ rfl cW rfl rfl ha hb
theorem jT.use {key text sig:List UInt8}(hk:key.length=32) (hs:sig.length=32) (hl:text.length≤281474976700000) (hQ:∀ G',Ch [] G [] G'->Q (.bool (decide (mac key text=sig))) G') :
  al P jT.n [.agg (key.map u8v),.str text,.agg (sig.map u8v)] G Q:=by
 refine jT.sound ?_;unfold jT.S;intro i1 f1;have s1:=(Sp.nil G).row f1 (.agg (key.map u8v));intro i3 f3;have s3:=s1.row f3 (.agg (sig.map u8v));rw[ug (i:=1) s3 rfl hk,aa,ug (i:=0) s3 rfl hs,aa];refine j3.use hk hl fun G7 c7=>?_;have s7:=s3.tmp c7;refine⟨⟨ug (i:=0) s7 rfl hs,trivial⟩,?_⟩;rw[Fo (a:=mac key text) (gU _) hs,aa];exact hQ _ s7.ch
theorem fl.use {key text sig:List UInt8}(hk:key.length=32) (hs:sig.length=32) (hl:text.length≤140737488354000) (hQ:∀ G',Ch [] G [] G'->Q (.bool (decide (mac key text=sig))) G') :
  al P fl.n [.agg (key.map u8v),.str text,.agg (sig.map u8v)] G Q:=by
 refine fl.sound ?_;unfold fl.S;intro i1 f1;have s1:=(Sp.nil G).row f1 (.agg (key.map u8v));intro i3 f3;have s3:=s1.row f3 (.agg (sig.map u8v));rw[ug (i:=1) s3 rfl hk,aa];refine fc.use hk hl fun G7 c7=>?_;have s7:=s3.tmp c7;obtain⟨m,hm,hml⟩:∃ m,mac key text=m/\m.length=32:=⟨_,rfl,gU _⟩;rw[hm]at hQ ⊢;refine pg s7 hml fun i8 G10 s10=>?_;intro R11 hR11;have loop:∀ (n j:Nat),32-j=n->j≤32->m.take j=sig.take j->R11 [.ptr i3 [] 0,.ptr i8 [] 0,.int .i64 (j:Int)] G10:=by
  intro n;induction n with
  | zero=>
   intro j hn hj he;have:j=32:=(by omega);subst this;rw[List.take_of_length_le (by omega),List.take_of_length_le (by omega)]at he;refine hR11 _ _ _ _ ?_;rw[aM,aa,aI];refine⟨fun h=>absurd h (by decide),fun _=>?_⟩;have:=hQ _ s10.ch;rw[dT_ he]at this;exact this
  | succ n ih=>
   intro j hn hj he;refine hR11 _ _ _ _ ?_;rw[aM,aa,aI];refine⟨fun _=>?_,fun h=>absurd (by omega) h⟩;rw[nQ (by omega),aa,pQ (by omega) (au.own (i:=0) s10 rfl),aa,nQ (by omega),aa,pQ (by omega) (au.own (i:=1) s10 rfl),aa];show wv (az T .neq cm (.int .u8 (m[j]'(by omega)).toNat) (.int .u8 (sig[j]'(by omega)).toNat)) _;rw[cD,aa,dC];refine⟨fun hne=>?_,fun heq=>?_⟩
   ·have:=hQ _ s10.ch;rw[dF_ (fun e=>hne (by subst e;rfl))]at this;exact this
   ·rw[bg,aa,i64_in (by omega) (by omega)];refine ih (j+1) (by omega) (by omega) ?_;rw[List.take_succ_eq_append_getElem (by omega),List.take_succ_eq_append_getElem (by omega),he];have:m[j]'(by omega)=sig[j]'(by omega):=UInt8.toNat_inj.1 (by omega);rw[this]
 exact loop 32 0 rfl (by omega) rfl
end
end Go.Esc.M
