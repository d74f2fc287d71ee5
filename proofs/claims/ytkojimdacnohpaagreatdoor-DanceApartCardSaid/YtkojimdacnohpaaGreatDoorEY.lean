import Derived.Test.YtkojimdacnohpaaGreatDoorEX
set_option linter.unusedSimpArgs false
set_option linter.unusedVariables false
namespace Go.Esc
open Go Go.RowKit
def rowOf:ah->Option AId
 | .slice id _ _ _ _ _=>some id
 | _=>none
def pa (G G':ak):Prop:=∀ id t,G id=some (.ro t)->G' id=some (.ro t)
theorem pa.refl (G:ak):pa G G:=fun _ _ h=>h
theorem pa.trans {a b c:ak}(h:pa a b) (k:pa b c):pa a c:=fun id t e=>k id t (h id t e)
theorem pa.of_le {a b:ak}(h:a.le b):pa a b:=fun id t e=>h id _ e
def sS (n:Nat) (G:ak) (v:ah) (vs:List ah):Prop:=
 (∃ id p st off len cap t,v=.slice id p st off len cap/\len≤cap/\G id=some (.ro t)/\gq G n v=some vs)\/(v=.nilSlice/\vs=[])
theorem sS.is {n:Nat}{G:ak}{v:ah}{vs:List ah}(h:sS n G v vs):ff n G v vs:=by
 rcases h with ⟨id,p,st,off,len,cap,t,rfl,_,_,h⟩ | h
 ·exact .inl ⟨_,_,_,_,_,_,rfl,h⟩
 ·exact .inr h
theorem Fm {n:Nat}{G G':ak}{id:AId}{p:List Nat}{st off len cap:Nat}(h:G' id=G id):gq G' n (.slice id p st off len cap)=gq G n (.slice id p st off len cap):=by
 simp only[gq,lO,nI,h]
theorem sS.mono {n:Nat}{G G':ak}{v:ah}{vs:List ah}(h:sS n G v vs) (hle:pa G G'):sS n G' v vs:=by
 rcases h with ⟨id,p,st,off,len,cap,t,rfl,hlc,hg,h⟩ | h
 ·refine .inl ⟨id,p,st,off,len,cap,t,rfl,hlc,hle _ _ hg,?_⟩;rw[Fm (G:=G) (by rw[hg,hle _ _ hg])];exact h
 ·exact .inr h
def Own (n:Nat) (G:ak) (v:ah) (vs:List ah):Prop:=
 (v=.nilSlice/\vs=[])\/∃ id len cap cs,v=.slice id [] 0 0 len cap/\G id=some (.own (.agg cs))/\cs.length=cap/\len≤cap/\uni n cs=true/\vs=cs.take len
theorem Own.is {n:Nat}{G:ak}{v:ah}{vs:List ah}(h:Own n G v vs):ff n G v vs:=by
 rcases h with h | ⟨id,len,cap,cs,rfl,hg,hc,hl,hu,rfl⟩
 ·exact .inr h
 ·exact qf hg rfl hu (by omega)
theorem Own.uni {n:Nat}{G:ak}{v:ah}{vs:List ah}(h:Own n G v vs):uni n vs=true:=by
 rcases h with ⟨_,rfl⟩ | ⟨id,len,cap,cs,rfl,hg,hc,hl,hu,rfl⟩
 ·rfl
 ·exact j0 hu _
structure Kept (s:ah) (G:ak) (s':ah) (G':ak):Prop where
 ro:pa G G'
 others:∀ j o,G j=some o->rowOf s≠some j->G' j=some o
 row:∀ j,rowOf s'=some j->rowOf s=some j\/G j=none
theorem Own.mono {n:Nat}{G G':ak}{v s s':ah}{vs:List ah}(h:Own n G v vs) (hk:Kept s G s' G') (hne:∀ j,rowOf v=some j->rowOf s≠some j):Own n G' v vs:=by
 rcases h with h | ⟨id,len,cap,cs,rfl,hg,h⟩
 ·exact .inl h
 ·exact .inr ⟨id,len,cap,cs,rfl,hk.others _ _ hg (hne _ rfl),h⟩
theorem mH {n:Nat}{a b:List ah}(ha:uni n a=true) (hb:uni n b=true):uni n (a++b)=true:=by
 simp only[Esc.uni,List.all_append,Bool.and_eq_true]at *;exact⟨ha,hb⟩
theorem nq {n k:Nat}{z:ah}(h:sz z=n):uni n (List.replicate k z)=true:=by
 simp[Esc.uni,h]
section
variable {T:Tbl}{ts e:TypeId}{si ie:TI} (ht:T ts=some si) (hd:si.desc=.slice e) (he:T e=some ie) (hz:sz ie.zero=ie.size) (hb:ie.bytes≠0)
include ht hd he hz hb in
theorem r7 {tx:TypeId}{xi:TI}(htx:T tx=some xi) (hdx:xi.desc=.string\/∃ e',xi.desc=.slice e') {G:ak}{s x:ah}{olds vs:List ah}{K:ah->ak->Prop}
  (hs:Own ie.size G s olds) (hx:gq G ie.size x=some vs) (hu:uni ie.size vs=true) (hok:mz vs=true) (hsz:(olds.length+vs.length) * ie.bytes≤140737488355328)
  (hK:∀ s' G',Own ie.size G' s' (olds++vs)->Kept s G s' G'->K s' G'):cn T G ts tx s x K:=by
 have hgrow:∀ (olds:List ah),uni ie.size olds=true->(olds.length+vs.length) * ie.bytes≤140737488355328->(∀ s' G',Own ie.size G' s' (olds++vs)->Kept s G s' G'->K s' G')->grow ie G olds vs K:=by
  intro olds huo hsz hK;refine⟨hsz,hb,fun id cap hf hle hcap=>hK _ _ (.inr ⟨id,_,cap,_,rfl,ak.dR _ _ _,?_,hle,?_,?_⟩) ⟨pa.of_le (hf.le _),fun j o hj _=>hf.le _ _ _ hj,fun j hj=>?_⟩⟩
  ·simp;omega
  ·exact mH (mH huo hu) (nq hz)
  ·rw[List.take_left' (by simp)]
  ·simp only[rowOf,Option.some.injEq]at hj;subst hj;exact .inr hf.none
 refine⟨?_⟩;unfold rH;simp only[ht,htx,hd,he,hx];refine⟨hdx,?_⟩;rcases hs with ⟨rfl,rfl⟩ | ⟨id,len,cap,cs,rfl,hg,hc,hl,huc,rfl⟩
 ·cases vs with
  | nil=>exact hK _ _ (.inl ⟨rfl,rfl⟩) ⟨pa.refl _,fun _ _ h _=>h,fun j hj=>by simp[rowOf]at hj⟩
  | cons v vs=>exact hgrow [] rfl hsz hK
 ·have hlen:(cs.take len).length=len:=by simp;omega
  have harr:lO G ie.size id [] 0 0=some cs:=by
   simp[lO,nI,hg,mQ,sub,huc]
  refine⟨fun hle=>?_,fun hlt=>?_⟩
  ·cases vs with
   | nil=>
    simp only[lay];exact hK _ _ (.inr ⟨id,len,cap,cs,by simp,hg,hc,hl,huc,by simp⟩) ⟨pa.refl _,fun _ _ h _=>h,fun j hj=>.inl hj⟩
   | cons v vs=>
    simp only[lay,harr];refine⟨by omega,hok,hu,?_⟩;have hput:qS G id [] ie.size 0 0 (cs.take (0+len)++(v :: vs)++cs.drop (0+len+(v :: vs).length))=some (G.upd id (.own (.agg (cs.take len++(v :: vs)++cs.drop (len+(v :: vs).length))))):=by
     simp[qS,hg,sub,putAt]
    rw[hput];refine hK _ _ (.inr ⟨id,_,cap,_,rfl,ak.dR _ _ _,?_,hle,?_,?_⟩) ⟨fun j t hj=>?_,fun j o hj hne=>?_,fun j hj=>.inl hj⟩
    ·simp at hle ⊢;omega
    ·exact mH (mH (j0 huc _) hu) (pY huc _)
    ·rw[List.take_left' (by simp;omega)]
    ·rw[ak.nb _ _ (fun h=>by subst h;rw[hg]at hj;cases hj)];exact hj
    ·rw[ak.nb _ _ (fun h=>hne (by rw[h];rfl))];exact hj
  ·have hse:gq G ie.size (.slice id [] 0 0 len cap)=some (cs.take len):=by
    simp[gq,harr,hc,hl]
   rw[hse];exact hgrow _ (j0 huc _) hsz hK
include ht hd he hz hb in
theorem Di {G:ak}{s c:ah}{olds:List ah}{K:ah->ak->Prop}(hs:Own ie.size G s olds) (hc:sz c=ie.size) (hok:okv c=true) (hie:ie.size≤16777216) (hsz:(olds.length+1) * ie.bytes≤140737488355328)
  (hK:∀ s' G',Own ie.size G' s' (olds++[c])->Kept s G s' G'->K s' G'):bu T ts 1 [(0,c)] G fun v G'=>cn T G' ts ts s v K:=by
 unfold bu;have hf:nx (fun k=>some (k * ie.size,ie.size)) (List.replicate 1 ie.zero) [(0,c)]=some [c]:=by
  simp[nx,hz,hc,szs]
 simp only[ht,hd,he,hf];refine⟨by omega,fun id hfr=>?_⟩;have hs':Own ie.size (G.upd id (.own (.agg [c]))) s olds:=by
  rcases hs with h | ⟨i',len,cap,cs,rfl,hg,h⟩
  ·exact .inl h
  ·exact .inr ⟨i',len,cap,cs,rfl,hfr.le _ _ _ hg,h⟩
 have huc:uni ie.size [c]=true:=by simp[Esc.uni,hc]
 refine r7 ht hd he hz hb ht (.inr ⟨e,hd⟩) hs' (x:=.slice id [] 0 0 1 1) (vs:=[c]) (qf (ak.dR _ _ _) rfl huc (by simp) |>.elems) huc (by simp[mz,hok]) (by simpa using hsz) fun s' G' ho hk=>hK s' G' ho ⟨?_,?_,?_⟩
 ·exact (pa.of_le (hfr.le _)).trans hk.ro
 ·exact fun j o hj hne=>hk.others _ _ (hfr.le _ _ _ hj) hne
 ·intro j hj;rcases hk.row j hj with h | h
  ·exact .inl h
  ·refine .inr ?_;by_cases e:j=id
   ·rw[e];exact hfr.none
   ·rw[ak.nb _ _ e]at h;exact h
end
theorem jk {T:Tbl}{G:ak}{s d:TypeId}{si di:TI}{k k':IntKind}{n:Int}(hs:T s=some si) (hd:T d=some di) (hk:di.desc=.int k):gv T G s d (.int k' n)=some (.int k (k.wrap n)):=by
 simp[gv,hs,hd,hk]
section
variable {T:Tbl}{t e:TypeId}{i ie:TI} (ht:T t=some i) (hd:i.desc=.slice e) (he:T e=some ie)
theorem pH {len cap m:Nat}{k:IntKind}(h:m≤cap):j8 len cap none (some (.int k m)) none=some (0,m,cap):=by
 have h0:(0:Int)≤m/\(m:Int)≤cap:=by omega
 simp[j8,lH,h0]
theorem qB {len cap m:Nat}{k:IntKind}(h:m≤len) (hc:len≤cap):j8 len cap (some (.int k m)) none none=some (m,len,cap):=by
 have h0:(0:Int)≤m/\(m:Int)≤len:=by omega
 simp[j8,lH,h0]
include ht hd he in
theorem sS.take {G:ak}{v:ah}{vs:List ah}(h:sS ie.size G v vs) {k:IntKind}{m:Nat}(hm:m≤vs.length):∃ v',dV T t v none (some (.int k m)) none=some v'/\sS ie.size G v' (vs.take m):=by
 rcases h with ⟨id,p,st,off,len,cap,tr,rfl,hlc,hg,h⟩ | ⟨rfl,rfl⟩
 ·obtain⟨cs,h1,h0,h2,h3,rfl,harr⟩:=mY h;have hl:((cs.drop st).take len).length=len:=by rw[List.length_take,List.length_drop];omega
  rw[hl]at hm;refine⟨.slice id p st off m cap,?_,.inl ⟨id,p,st,off,m,cap,tr,rfl,by omega,hg,?_⟩⟩
  ·simp only[dV,ht,hd,he];rw[pH (by omega)];simp
  ·simp only[gq,harr];rw[if_pos (by omega),List.take_take,Nat.min_eq_left hm]
 ·simp at hm;subst hm;exact⟨.nilSlice,by simp[dV,ht,hd,he,j8,lH],.inr ⟨rfl,by simp⟩⟩
include ht hd he in
theorem sS.drop {G:ak}{v:ah}{vs:List ah}(h:sS ie.size G v vs) {k:IntKind}{m:Nat}(hm:m≤vs.length):∃ v',dV T t v (some (.int k m)) none none=some v'/\sS ie.size G v' (vs.drop m):=by
 rcases h with ⟨id,p,st,off,len,cap,tr,rfl,hlc,hg,h⟩ | ⟨rfl,rfl⟩
 ·obtain⟨cs,h1,h0,h2,h3,rfl,harr⟩:=mY h;have hl:((cs.drop st).take len).length=len:=by rw[List.length_take,List.length_drop];omega
  rw[hl]at hm;refine⟨.slice id p (if cap=m then st else st+m) (if cap=m then off else off+m * ie.size) (len-m) (cap-m),?_,?_⟩
  ·simp only[dV,ht,hd,he];rw[qB hm hlc]
  ·by_cases hcm:cap=m
   ·have hlm:len=m:=(by omega);refine .inl ⟨id,p,_,_,_,_,tr,rfl,by omega,hg,?_⟩;rw[if_pos hcm,if_pos hcm];simp only[gq,harr];rw[if_pos (by omega),hlm,Nat.sub_self,List.take_zero,List.drop_eq_nil_iff.2 (by simp;omega)]
   ·refine .inl ⟨id,p,_,_,_,_,tr,rfl,by omega,hg,?_⟩;rw[if_neg hcm,if_neg hcm];have harr':lO G ie.size id p (st+m) (off+m * ie.size)=some cs:=by
     unfold lO at harr ⊢;rw[show off+m * ie.size-(st+m) * ie.size=off-st * ie.size by rw[Nat.add_mul];omega];rw[h1]at harr ⊢;simp only at harr ⊢;rw[if_pos];simp only[Bool.and_eq_true,decide_eq_true_eq];exact⟨by rw[Nat.add_mul];omega,h2⟩
    simp only[gq,harr'];rw[if_pos (by omega),List.drop_take,List.drop_drop]
 ·simp at hm;subst hm;exact⟨.nilSlice,by simp[dV,ht,hd,he,j8,lH],.inr ⟨rfl,by simp⟩⟩
end
section
variable {T:Tbl}{t e:TypeId}{i ie:TI} (ht:T t=some i) (hd:i.desc=.slice e) (he:T e=some ie)
include ht hd he in
theorem GI {G:ak}{id:AId}{len cap j:Nat}{k:IntKind}{cs:List ah}{c:ah}(hg:G id=some (.own (.agg cs))) (hu:uni ie.size cs=true) (hj:j < len) (hl:len≤cs.length) (hc:sz c=ie.size)
  (ha:c.isAgg=ie.desc.isAgg) (hok:okv c=true) :
  ∃ a,aO T t (.slice id [] 0 0 len cap) (.int k j)=some a/\aF T G e a c=some (G.upd id (.own (.agg (cs.set j c)))):=by
 refine⟨.ptr id [j] (j * ie.size),?_,?_⟩
 ·simp only[aO,ht,hd,he];rw[if_pos ⟨by omega,by omega⟩];simp
 ·have hlt:j < cs.length:=by omega
  have hx:cs[j]?=some cs[j]:=List.getElem?_eq_getElem hlt;have hsz:szs (cs.take j)=j * ie.size:=by rw[gX (j0 hu _),List.length_take,Nat.min_eq_left (by omega)]
  have hszx:sz cs[j]=ie.size:=by
   simp only[Esc.uni,List.all_eq_true,beq_iff_eq]at hu;exact hu _ (List.getElem_mem hlt)
  simp only[aF,hg,sub,hsz,hx,Nat.le_refl,if_true,Nat.sub_self,he,putAt];rw[if_pos (by simp[dD,hc,ha,hok,hszx])]
end
theorem CG {n j:Nat}{cs:List ah}{c:ah}(h:uni n cs=true) (hc:sz c=n):uni n (cs.set j c)=true:=by
 simp only[Esc.uni,List.all_eq_true,beq_iff_eq]at h ⊢;intro x hx;rcases List.mem_or_eq_of_mem_set hx with hx | rfl
 ·exact h x hx
 ·exact hc
theorem tq {G:ak}{id:AId}{o o':n6}(hg:G id=some o) (ho:∀ t,o≠.ro t):pa G (G.upd id o'):=fun j t hj=>by
 rw[ak.nb _ _ (fun h=>by subst h;rw[hg]at hj;injection hj with hj;exact ho _ hj)];exact hj
theorem Own.upd {n:Nat}{G:ak}{v:ah}{vs:List ah}{id:AId}{o:n6}(h:Own n G v vs) (hne:rowOf v≠some id):Own n (G.upd id o) v vs:=by
 rcases h with h | ⟨i',len,cap,cs,rfl,hg,h⟩
 ·exact .inl h
 ·exact .inr ⟨i',len,cap,cs,rfl,by rw[ak.nb _ _ (fun e=>hne (by rw[<- e];rfl))];exact hg,h⟩
end Go.Esc
