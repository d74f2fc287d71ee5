import Derived.Test.YtkojimdacnohpaaGreatDoorES
set_option linter.unusedSimpArgs false
set_option linter.unusedVariables false
set_option linter.unusedSectionVars false
namespace Go.Esc
open Go Go.RowKit
section
variable {H:Type}{enc:TypeId×Value->H}{P:Program}{T:Tbl} (hT:gF P T) {W:World}{R:Nat}
theorem FX {base:Nat}{a:Addr}{n:Nat}{cs:List Value}(h:W.cells? base a n=some cs):cs.length=n/\∀ i,i < n->W.cell? (a.add i)=cs[i]?:=by
 unfold World.cells? at h;split at h
 ·exact⟨by simpa using mapM_some_length h,fun i hi=>mapM_some_get h i i (by simp[hi])⟩
 ·cases h
def Reads (P:Program) (T:Tbl) (W:World) (R d:Nat) (t:TypeId) (cs:List Value) {H:Type} (y:DataW H) (v:ah):Prop:=
 xN T d t cs=some v/\wt T (nP W T) R d t v (bulk y)/\flat v=cs/\okv v=true/\∀ i,T t=some i->sz v=i.size/\v.isAgg=i.desc.isAgg
def vz (W:World) (sl:Bool) (cs:List Value):Prop:=sl=true->∀ a len cap,Value.slice (some a) len cap∈cs->a.spot=none/\a.block < W.heap.size
theorem vz.sub {sl:Bool}{cs cs':List Value}(h:vz W sl cs) (hs:∀ x∈cs',x∈cs):vz W sl cs':=fun e a l c hm=>h e a l c (hs _ hm)
def Hn (enc:TypeId×Value->H) (P:Program) (T:Tbl) (W:World) (R d:Nat) (sl:Bool) (t:TypeId):Prop:=
 ∀ fuel cs x,DataW.trod enc P W 0 (fun _=>true) true fuel t cs=some x->(∀ n∈x.1.weights P t,n≤R)->vz W sl cs->∃ v,Reads P T W R d t cs x.1 v
include hT in
theorem vW {d:Nat}{sl:Bool}(ih:∀ t,sup T d sl t=true->Hn enc P T W R d sl t) {m n:Nat}{cs:List Value}(hn:cs.length=n) (hsp:vz W sl cs) :
  ∀ (fs:List (TypeId×Nat)) (o:Nat) (xs:List (DataW H×List MemPlace)),GW T fs o n=true->fs.all (fun g=>sup T d sl g.1)=true->xs.length=fs.length ->
  (∀ (i:Nat) (g:TypeId×Nat),fs[i]?=some g->DataW.trod enc P W 0 (fun _=>true) true m g.1 ((cs.drop g.2).take (P.cellsOf g.1))=xs[i]?) ->
  (∀ w∈DataW.weightsEach P (fs.map (·.1)) (xs.map (·.1)),w≤R) ->
  ∃ l ms,Hc (xN T d) T cs fs=some l/\wfs (wt T (nP W T) R d) fs l ms/\ms.sum=ky (xs.map (·.1))/\cU l=cs.drop o/\szs l=n-o/\mz l=true
 | [],o,xs,hrow,_,hl,_,_=>by
  have:xs=[]:=List.eq_nil_of_length_eq_zero hl;subst this;have ho:o=n:=Nat.eq_of_beq_eq_true hrow;exact⟨[],[],rfl,trivial,by simp[ky],by simp[cU,ho,<- hn],by simp[szs,ho],rfl⟩
 | g :: fs,o,[],_,_,hl,_,_=>by simp at hl
 | g :: fs,o,x :: xs,hrow,hall,hl,hx,hw=>by
  simp only[GW]at hrow;cases hg:T g.1 with
  | none=>simp[hg]at hrow
  | some i=>
   simp only[hg,Bool.and_eq_true]at hrow;have ho:g.2=o:=Nat.eq_of_beq_eq_true hrow.1;simp only[List.all_cons,Bool.and_eq_true]at hall;have hx0:=hx 0 g rfl;simp only[List.getElem?_cons_zero,qn (hT _ _ hg)]at hx0;simp only[List.map_cons,DataW.weightsEach,List.mem_append]at hw;obtain⟨v,r1,r2,r3,r4,r5⟩:=ih g.1 hall.1 m _ x hx0 (fun w h=>hw w (.inl h)) (hsp.sub fun x h=>List.mem_of_mem_drop (List.mem_of_mem_take h));obtain⟨l,ms,s1,s2,s3,s4,s5,s6⟩:=vW ih hn hsp fs (o+i.size) xs hrow.2 hall.2 (by simpa using hl) (fun j g' h=>by
    have:=hx (j+1) g' (by simpa using h)
    simpa using this) (fun w h=>hw w (.inr h))
   refine⟨v :: l,bulk x.1 :: ms,?_,⟨r2,s2⟩,?_,?_,?_,?_⟩
   ·simp only[Hc,hg,r1,s1]
   ·simp[ky,s3]
   ·rw[jM,r3,s4,ho,<- List.drop_drop,List.take_append_drop]
   ·have hsz:=(r5 i hg).1;have h1:(flat v).length=sz v:=gE v;rw[r3]at h1;simp only[List.length_take,List.length_drop]at h1;rw[po,s5];have:i.size≤n-o:=by
     rw[hsz]at h1;rw[<- hn,<- ho];omega
    omega
   ·simp[mz,r4,s6]
include hT in
theorem yj {d:Nat}{sl:Bool}{e:TypeId}{ie:TI}(he:T e=some ie) (ih:Hn enc P T W R d sl e) {m:Nat}{cs:List Value}(hsp:vz W sl cs) :
  ∀ (n k:Nat) (xs:List (DataW H×List MemPlace)),cs.length=(k+n) * ie.size->xs.length=n ->
  (∀ i,i < n->DataW.trod enc P W 0 (fun _=>true) true m e ((cs.drop ((k+i) * ie.size)).take ie.size)=xs[i]?) ->
  (∀ w∈DataW.weightsAll P e (xs.map (·.1)),w≤R) ->
  ∃ l ms,Hd (xN T d e) ie.size cs k n=some l/\l.length=n/\wts (wt T (nP W T) R d e) l ms/\ms.sum=ky (xs.map (·.1))/\cU l=cs.drop (k * ie.size)/\uni ie.size l=true/\mz l=true
 | 0,k,xs,hlen,hl,_,_=>by
  have:xs=[]:=List.eq_nil_of_length_eq_zero hl;subst this;exact⟨[],[],rfl,rfl,trivial,by simp[ky],by simp[cU,hlen],rfl,rfl⟩
 | n+1,k,[],_,hl,_,_=>by simp at hl
 | n+1,k,x :: xs,hlen,hl,hx,hw=>by
  have hx0:=hx 0 (by omega);simp only[List.getElem?_cons_zero,Nat.add_zero]at hx0;simp only[List.map_cons,DataW.weightsAll,List.mem_append]at hw;obtain⟨v,r1,r2,r3,r4,r5⟩:=ih m _ x hx0 (fun w h=>hw w (.inl h)) (hsp.sub fun x h=>List.mem_of_mem_drop (List.mem_of_mem_take h));obtain⟨l,ms,s1,s0,s2,s3,s4,s5,s6⟩:=yj he ih hsp n (k+1) xs (by rw[hlen];congr 1;omega) (by simpa using hl) (fun j h=>by
   have:=hx (j+1) (by omega)
   simp only[List.getElem?_cons_succ]at this
   rw[<- this,show k+1+j=k+(j+1) by omega]) (fun w h=>hw w (.inr h))
  refine⟨v :: l,bulk x.1 :: ms,?_,by simp[s0],⟨r2,s2⟩,?_,?_,?_,?_⟩
  ·simp only[Hd,r1,s1]
  ·simp[ky,s3]
  ·rw[jM,r3,s4,Nat.succ_mul,<- List.drop_drop,List.take_append_drop]
  ·simp only[uni,List.all_cons,Bool.and_eq_true,beq_iff_eq];exact⟨(r5 ie he).1,s5⟩
  ·simp[mz,r4,s6]
include hT in
theorem z7 {d:Nat}{e:TypeId}{ie:TI}(he:T e=some ie) (ih:Hn enc P T W R d false e) {m b o:Nat} :
  ∀ (n k:Nat) (xs:List (DataW H×List MemPlace)),xs.length=n ->
  (∀ i,i < n->(W.cells? 0 ⟨b,o+(k+i) * ie.size,none⟩ ie.size).bind (DataW.trod enc P W 0 (fun _=>true) true m e)=xs[i]?) ->
  (∀ w∈DataW.weightsAll P e (xs.map (·.1)),w≤R) ->
  ∃ l ms,GD W T d e ie.size b o k n=some l/\l.length=n/\wts (wt T (nP W T) R d e) l ms/\ms.sum=ky (xs.map (·.1))/\uni ie.size l=true/\mz l=true ∧
   ∀ j u,(cU l)[j]?=some u->W.cell? ⟨b,o+k * ie.size+j,none⟩=some u
 | 0,k,xs,hl,_,_=>by
  have:xs=[]:=List.eq_nil_of_length_eq_zero hl;subst this;exact⟨[],[],rfl,rfl,trivial,by simp[ky],rfl,rfl,fun j u h=>by simp[cU]at h⟩
 | n+1,k,[],hl,_,_=>by simp at hl
 | n+1,k,x :: xs,hl,hx,hw=>by
  have hx0:=hx 0 (by omega);simp only[List.getElem?_cons_zero,Nat.add_zero]at hx0;simp only[List.map_cons,DataW.weightsAll,List.mem_append]at hw;obtain⟨cs,hcs,hx1⟩:=Option.bind_eq_some_iff.1 hx0;obtain⟨v,r1,r2,r3,r4,r5⟩:=ih m _ x hx1 (fun w h=>hw w (.inl h)) (fun h=>by cases h);obtain⟨l,ms,s1,s0,s2,s3,s4,s5,s6⟩:=z7 he ih n (k+1) xs (by simpa using hl) (fun j h=>by
   have:=hx (j+1) (by omega)
   simp only[List.getElem?_cons_succ]at this
   rw[<- this,show k+1+j=k+(j+1) by omega]) (fun w h=>hw w (.inr h))
  obtain⟨hlen,hcell⟩:=FX hcs;refine⟨v :: l,bulk x.1 :: ms,?_,by simp[s0],⟨r2,s2⟩,?_,?_,?_,?_⟩
  ·simp only[GD,hcs,Option.bind_some,r1,s1]
  ·simp[ky,s3]
  ·simp only[uni,List.all_cons,Bool.and_eq_true,beq_iff_eq];exact⟨(r5 ie he).1,s4⟩
  ·simp[mz,r4,s5]
  ·intro j u hj;rw[jM,r3]at hj;by_cases hlt:j < ie.size
   ·rw[List.getElem?_append_left (by rw[hlen];exact hlt),<- hcell j hlt]at hj;rw[<- hj,Addr.mV]
   ·rw[List.getElem?_append_right (by rw[hlen];omega),hlen]at hj;have:=s6 _ _ hj;rw[<- this];congr 2;rw[Nat.succ_mul];omega
theorem C9 {D:TypeDesc}{e:TypeId}(h:descOf D=.slice e):D=.slice e:=by
 cases D<;>simp[descOf]at h;rw[h]
theorem FN {D:TypeDesc}{k:IntKind}(h:descOf D=.int k):D=.int k:=by
 cases D<;>simp[descOf]at h;rw[h]
theorem Ex {D:TypeDesc}(h:descOf D=.bool):D=.bool:=by
 cases D<;>simp[descOf]at h;rfl
theorem Bp {D:TypeDesc}(h:descOf D=.string):D=.string:=by
 cases D<;>simp[descOf]at h;rfl
include hT in
theorem opens:∀ d sl t,sup T d sl t=true->Hn enc P T W R d sl t:=by
 intro d;induction d with
 | zero=>intro sl t h;simp[sup]at h
 | succ d ih=>
  intro sl t hsup fuel cs x htrod hw hsp;simp only[sup]at hsup;cases ht:T t with
  | none=>simp[ht]at hsup
  | some i=>
   simp only[ht]at hsup;obtain⟨D,hD,hdesc⟩:=(hT _ _ ht).und;have hsz:∀ v:ah,sz v=i.size->v.isAgg=i.desc.isAgg->∀ j,T t=some j->sz v=j.size/\v.isAgg=j.desc.isAgg:=fun v a b j hj=>by
    rw[ht]at hj;injection hj with hj;subst hj;exact⟨a,b⟩
   cases hd:i.desc<;>simp only[hd]at hsup<;>try (cases hsup;done)
   case int k=>
    rw[hd]at hdesc;rw[FN hdesc]at hD;obtain⟨n,rfl,rfl,hwf⟩:=DataW.trod_int hD htrod;refine⟨.int k n,by simp[xN,ht,hd],by simp[wt,ht,hd,bulk,hwf],by simp[flat,cv,Value.cells],rfl,hsz _ ?_ (by rw[hd];rfl)⟩;simpa[sz] using (Nat.eq_of_beq_eq_true hsup).symm
   case bool=>
    rw[hd]at hdesc;rw[Ex hdesc]at hD;obtain⟨b,rfl,rfl⟩:=DataW.trod_bool hD htrod;refine⟨.bool b,by simp[xN,ht,hd],by simp[wt,ht,hd,bulk],by simp[flat,cv,Value.cells],rfl,hsz _ ?_ (by rw[hd];rfl)⟩;simpa[sz] using (Nat.eq_of_beq_eq_true hsup).symm
   case string=>
    rw[hd]at hdesc;rw[Bp hdesc]at hD;obtain⟨s,rfl,rfl,hmax⟩:=DataW.trod_string hD htrod;have hlen:s.data.toList.length≤maxLen:=(by rw[Array.length_toList];exact hmax);refine⟨.str s.data.toList,by simp[xN,ht,hd],?_,by simp[flat,cv,Value.cells],rfl,hsz _ ?_ (by rw[hd];rfl)⟩
    ·simp only[wt,ht,hd,bulk];exact⟨_,rfl,hw _ (by simp[DataW.weights]),hlen,rfl⟩
    ·simpa[sz] using (Nat.eq_of_beq_eq_true hsup).symm
   case slice e=>
    rw[hd]at hdesc;rw[C9 hdesc]at hD;simp only[Bool.and_eq_true,Nat.blt_eq]at hsup;obtain⟨⟨⟨⟨hslt,hone⟩,hd8⟩,heM⟩,hse⟩:=hsup;have hone':1=i.size:=(Nat.eq_of_beq_eq_true hone).symm;have hie:∃ ie,T e=some ie:=by
     cases d with
     | zero=>simp[sup]at hse
     | succ d=>
      simp only[sup]at hse;cases hte:T e with
      | none=>simp[hte]at hse
      | some ie=>exact⟨ie,rfl⟩
    obtain⟨ie,hie⟩:=hie;rcases DataW.trod_slice hD htrod with ⟨rfl,rfl⟩ | ⟨a,len,cap,elems,rest,n,_,rfl,rfl,_,hle,hmax,hel,hels,hrest,_⟩
    ·exact⟨.nilSlice,by simp[xN,ht,hd],by simp[wt,ht,hd,hie,bulk],by simp[flat,cv,Value.cells],rfl,hsz _ (by simpa[sz] using hone') (by rw[hd];rfl)⟩
    ·obtain⟨hspot,hblk⟩:=hsp hslt a len cap (by simp);obtain⟨hrl,hrest⟩:=hrest rfl;have hlen:(elems++rest).length=cap:=(by simp[hel,hrl];omega);have hall:∀ i,i < cap->(W.cells? 0 ⟨a.block,a.off+(0+i) * ie.size,none⟩ ie.size).bind (DataW.trod enc P W 0 (fun _=>true) true n e)=(elems++rest)[i]?:=by
      intro i hi;have hadd:∀ k,a.add k=⟨a.block,a.off+k,none⟩:=fun k=>by
       obtain⟨ab,ao,asp⟩:=a;simp only at hspot;subst hspot;exact Addr.mV ab ao k
      rw[qn (hT _ _ hie)]at hels hrest;rw[Nat.zero_add,<- hadd];by_cases hil:i < len
      ·rw[List.getElem?_append_left (by rw[hel];exact hil)];exact hels i hil
      ·rw[List.getElem?_append_right (by rw[hel];omega),hel];have:=hrest (i-len) (by omega);rw[show len+(i-len)=i by omega]at this;exact this
     simp only[DataW.weights,hD,List.mem_cons,List.mem_append]at hw;have hwall:∀ (a b:List (DataW H)),DataW.weightsAll P e (a++b)=DataW.weightsAll P e a++DataW.weightsAll P e b:=by
      intro a b;induction a with
      | nil=>rfl
      | cons x a ih=>simp[DataW.weightsAll,ih]
     obtain⟨l,ms,s1,s0,s2,s3,s4,s5,s6⟩:=z7 hT hie (ih false e hse) cap 0 (elems++rest) hlen hall (fun w h=>by
      rw[List.map_append,hwall,List.mem_append]at h
      exact hw w (.inr h))
     obtain⟨m,hm,m1,m2,m3⟩:=Hq (cap:=cap) hd8 heM;have hro:nP W T ⟨a.block,a.off,Gj d e cap⟩=some (.ro (.agg l)):=by
      simp only[nP,roW,hm,m1,m2,m3,hie,s1];rw[if_pos ⟨hblk,fun j u h=>by
       rw[flat_agg]at h
       have:=s6 j u h
       simpa using this⟩]
      rfl
     refine⟨.slice ⟨a.block,a.off,Gj d e cap⟩ [] 0 0 len cap,by simp[xN,ht,hd],?_,?_,rfl,hsz _ (by simpa[sz] using hone') (by rw[hd];rfl)⟩
     ·simp only[wt,ht,hd,hie];refine .inr ⟨_,len,cap,l,ms,rfl,hle,hmax,?_,hro,s0,s4,s5,s2,?_⟩
      ·have:=hw _ (.inl rfl);simp only[List.length_map,FY (hT _ _ hie),hel,hrl]at this;rw[show len+(cap-len)=cap by omega]at this;exact this
      ·rw[s3,List.map_append,tG,bulk]
     ·obtain⟨ab,ao,asp⟩:=a;simp only at hspot;subst hspot;simp[flat,cv,Value.cells]
   case array n e=>
    rw[hd]at hdesc;rw[og hdesc]at hD;cases hie:T e with
    | none=>simp[hie]at hsup
    | some ie=>
     simp only[hie,Bool.and_eq_true]at hsup;have hsize:i.size=n * ie.size:=Nat.eq_of_beq_eq_true hsup.1;obtain⟨xs,m,_,rfl,hlen,hxl,hxs⟩:=trod_array hD htrod;rw[qn (hT _ _ ht)]at hlen;rw[qn (hT _ _ hie)]at hxs;simp only[DataW.weights,hD]at hw;obtain⟨l,ms,s1,s0,s2,s3,s4,s5,s6⟩:=yj hT hie (ih sl e hsup.2) hsp n 0 xs (by rw[hlen,hsize,Nat.zero_add]) hxl (fun j h=>by rw[Nat.zero_add];exact hxs j h) hw;refine⟨.agg l,by simp[xN,ht,hd,hie,s1],?_,?_,?_,hsz _ ?_ (by rw[hd];rfl)⟩
     ·simp only[wt,ht,hd];exact⟨l,ms,rfl,s0,s2,by rw[s3,bulk]⟩
     ·rw[flat_agg,s4];simp
     ·simpa[okv] using s6
     ·rw[zI,gX s5,s0,hsize]
   case struct fs=>
    rw[hd]at hdesc;obtain⟨f,rfl,hfs⟩:=pv hdesc;simp only[Bool.and_eq_true]at hsup;obtain⟨xs,m,_,rfl,hlen,hxl,hxs⟩:=DataW.trod_struct hD htrod;rw[qn (hT _ _ ht)]at hlen;simp only[DataW.weights,hD]at hw;obtain⟨l,ms,s1,s2,s3,s4,s5,s6⟩:=vW hT (ih sl) hlen hsp fs 0 xs hsup.1 hsup.2 (by rw[hxl,hfs];simp) (fun j g h=>by
     rw[hfs]at h
     simp only[List.getElem?_map,Option.map_eq_some_iff]at h
     obtain⟨g',hg',rfl⟩:=h
     exact hxs j g' (by simpa using hg')) (fun w h=>by
     refine hw w ?_
     rw[hfs]at h
     simpa[List.map_map,Function.comp_def] using h)
    refine⟨.agg l,by simp[xN,ht,hd,s1],?_,?_,?_,hsz _ ?_ (by rw[hd];rfl)⟩
    ·simp only[wt,ht,hd];exact⟨l,ms,rfl,s2,by rw[s3,bulk]⟩
    ·rw[flat_agg,s4];simp
    ·simpa[okv] using s6
    ·rw[zI,s5];simp
end
end Go.Esc
