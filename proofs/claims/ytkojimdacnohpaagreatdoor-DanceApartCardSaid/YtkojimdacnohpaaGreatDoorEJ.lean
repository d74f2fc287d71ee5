import Derived.Test.YtkojimdacnohpaaGreatDoorEI
set_option linter.unusedSimpArgs false
set_option linter.unusedVariables false
namespace Go.Esc
open Go Go.RowKit
theorem pD (z:ah):∀ n,cU (List.replicate n z)=(List.range (n * sz z)).map fun i=>(cv z).cells[i % sz z]!
 | 0=>by simp[cU]
 | n+1=>by
  have hsz:(cv z).cells.size=sz z:=mC z;rw[List.replicate_succ',ji,jM,HZ,List.append_nil,pD z n,Nat.succ_mul,List.range_add,List.map_append,List.map_map];congr 1;apply List.ext_getElem?;intro j;by_cases hj:j < sz z
  ·have h1:j < (flat z).length:=(by rw[gE];exact hj);rw[List.getElem?_map,List.getElem?_range hj,List.getElem?_eq_getElem h1];simp only[Option.map_some,Function.comp];rw[Nat.mul_comm n,Nat.mul_add_mod,Nat.mod_eq_of_lt hj];rw[getElem!_pos _ _ (by omega)];simp[flat]
  ·rw[List.getElem?_eq_none (by rw[gE];omega),List.getElem?_eq_none (by simp;omega)]
theorem Cv (z:ah) (n:Nat):Builtin.zeroCells (cv z).cells n=(cU (List.replicate n z)).toArray:=by
 apply Array.ext';rw[pD];simp[Builtin.zeroCells,mC]
theorem wb (z:ah) (n s:Nat) (hs:s=sz z):madeCells (cv z).cells (n * s)=(cU (List.replicate n z)).toArray:=by
 subst hs;apply Array.ext';rw[pD];simp[madeCells,mC]
theorem Bm (z:ah) (n s:Nat) (hs:s=sz z):(Array.range (n * s)).map (fun i=>(cv z).cells[i % (cv z).cells.size]!)=(cU (List.replicate n z)).toArray:=
 wb z n s hs
theorem Ge.zero (n:Nat):Ge (0,0) n:=.inl (Nat.le_refl _)
section
variable {cx:Cx} (hcx:ES cx) {B:lq}{G:ak}{w:World} (hr:Rel B G w) {env:Env}{a:Act} (he:ny env a.tmps)
def Ho (B:lq) (a:Act) (dst:Option Nat) (next:Act->World->Prop) (K:Option ah->ak->Prop):Prop:=
 ∀ v G' u w',Rel B G' w'->(∀ x,v=some x->u=cv x)->K v G'->next (a.put dst u) w'
theorem pG {o:Oper}{next:Act->World->Prop}{Q:Exit->Act->World->Prop}{u:Value}{w':World}(h:(execOp a.eval o).run cx.P w=.ok (.value u) w') (hn:next (a.put o.dst u) w'):o.wp cx.P a w next Q:=by
 unfold Oper.wp;rw[h];exact hn
theorem upon_skip {o:Oper}{next:Act->World->Prop}{Q:Exit->Act->World->Prop}{w':World}(h:(execOp a.eval o).run cx.P w=.ok .skip w') (hn:next (a.put o.dst undef) w'):o.wp cx.P a w next Q:=by
 unfold Oper.wp;rw[h];exact hn
theorem zO (t:TypeId) (v:ah):(newVar t (cv v)).run cx.P w=.ok ⟨w.heap.size,0,none⟩ (w.alloc (.cells (flat v).toArray t)):=by
 simp[newVar,newRow,flat]
theorem Ey (w:World):cv (.ptr (nextId w) [] 0)=.pointer (some ⟨w.heap.size,0,none⟩):=by simp[cv,nextId]
theorem qV (w:World) (n c:Nat):cv (.slice (nextId w) [] 0 0 n c)=.slice (some ⟨w.heap.size,0,none⟩) n c:=by simp[cv,nextId]
include hr in
theorem yI {next:Act->World->Prop}{K:Option ah->ak->Prop}{dst:Option Nat}(hn:Ho B a dst next K) {tr:ah}(t:TypeId) (h:∀ id,lE G id->K (some (.ptr id [] 0)) (G.upd id (.own tr))) :
  next (a.put dst (.pointer (some ⟨w.heap.size,0,none⟩))) (w.alloc (.cells (flat tr).toArray t)):=
 hn _ _ _ _ (hr.alloc tr t (0,0) (Ge.zero _)) (fun x hx=>by injection hx with hx;subst hx;exact (Ey w).symm) (h _ hr.fresh)
include hr in
theorem rE {next:Act->World->Prop}{K:Option ah->ak->Prop}{dst:Option Nat}(hn:Ho B a dst next K) {cs:List ah}(t:TypeId) (n c:Nat) (h:∀ id,lE G id->K (some (.slice id [] 0 0 n c)) (G.upd id (.own (.agg cs)))) :
  next (a.put dst (.slice (some ⟨w.heap.size,0,none⟩) n c)) (w.alloc (.cells (cU cs).toArray t)):=by
 have:=hr.alloc (.agg cs) t (0,0) (Ge.zero _);rw[flat_agg]at this;exact hn _ _ _ _ this (fun x hx=>by injection hx with hx;subst hx;exact (qV w n c).symm) (h _ hr.fresh)
end
section
variable {P:Program}{T:Tbl} (hT:gF P T) {B:lq}{G:ak}{w:World} (hr:Rel B G w)
theorem CS (hr:Rel B G w) {id:AId}{p:List Nat}{n st off:Nat}{cs cs':List ah}{G':ak}(ha:lO G n id p st off=some cs) (hp:qS G id p n st off cs'=some G')
  {k m:Nat}{vs:List ah} (hk:st+k+m≤cs.length) (hcs:cs'=cs.take (st+k)++vs++cs.drop (st+k+m)) (hv:vs.length=m) (hu:uni n vs=true) :
  Rel B G' (w.setCells id.block (id.start+(off+k * n)) (cU vs))/\(∀ j,j < (cU vs).length->(w.cell? ⟨id.block,id.start+(off+k * n)+j,none⟩).isSome=true) ∧
   (∀ j,j < (cU vs).length->w.frozen? ⟨id.block,id.start+(off+k * n)+j,none⟩=false):=by
 unfold qS at hp;split at hp
 ·rename_i tr htr;split at hp
  ·rename_i u hu';injection hp with hp;subst hp;unfold lO at ha;split at ha
   ·rename_i cs0 hs;split at ha
    ·rename_i hc;injection ha with ha;subst ha;simp only[nI,htr,mQ]at hs;rw[hu']at hs;injection hs with hs;subst hs;simp only[Bool.and_eq_true,decide_eq_true_eq]at hc;obtain⟨l,r,e1,e2,e3⟩:=vN _ _ _ _ hu';have huv:szs vs=m * n:=(by rw[gX hu,hv]);have hmid:szs ((cs0.drop (st+k)).take m)=m * n:=by
      rw[gX (j0 (pY hc.2 _) _),List.length_take,List.length_drop,Nat.min_eq_left (by omega)]
     have hsplit:cs0=cs0.take (st+k)++(cs0.drop (st+k)).take m++cs0.drop (st+k+m):=by
      have e4:=List.take_append_drop m (cs0.drop (st+k));rw[List.drop_drop]at e4;rw[List.append_assoc,e4,List.take_append_drop]
     have hsz:sz (.agg cs')=sz (.agg cs0):=by
      rw[zI,zI,hcs]
      conv=>rhs;rw[hsplit]
      simp only[u5];rw[huv,hmid]
     have e3':=e3 (.agg cs') hsz;have e5:cU cs'=cU (cs0.take (st+k))++cU vs++cU (cs0.drop (st+k+m)):=(by rw[hcs,ji,ji]);have e6:cU cs0=cU (cs0.take (st+k))++cU ((cs0.drop (st+k)).take m)++cU (cs0.drop (st+k+m)):=by
      conv=>lhs;rw[hsplit]
      rw[ji,ji]
     rw[flat_agg,e5]at e3';rw[flat_agg,e6]at e1;have hpre:(cU (cs0.take (st+k))).length=(st+k) * n:=by
      rw[kj,gX (j0 hc.2 _),List.length_take,Nat.min_eq_left (by omega)]
     have key:=hr.setCells htr (l:=l++cU (cs0.take (st+k))) (m:=cU ((cs0.drop (st+k)).take m)) (r:=cU (cs0.drop (st+k+m))++r) (m':=cU vs) (tr':=putAt p tr (.agg cs'))
      (by rw[e1];simp[List.append_assoc]) (by rw[e3'];simp[List.append_assoc]) (by rw[kj,kj,huv,hmid])
     have hlen:(l++cU (cs0.take (st+k))).length=id.start+(off+k * n):=by
      obtain⟨h0,_⟩:=hr.obj id _ htr;have:=hc.1;rw[List.length_append,hpre,e2,h0,Nat.add_mul];omega
     rw[hlen]at key;exact key
    ·cases ha
   ·cases ha
  ·cases hp
 ·cases hp
theorem CO (w:World) (b o:Nat):w.setCells b o []=w:=rfl
theorem B4 (hr:Rel B G w) {i:TI}{id:AId}{p:List Nat}{st off at_:Nat}{vs:List ah}{K:ak->Prop}(h:lay i G id p st off at_ vs K) :
  ∃ G',Rel B G' (w.setCells id.block (id.start+(off+at_ * i.size)) (cU vs))/\K G'/\(∀ j,j < (cU vs).length->(w.cell? ⟨id.block,id.start+(off+at_ * i.size)+j,none⟩).isSome=true) ∧
   (∀ j,j < (cU vs).length->w.frozen? ⟨id.block,id.start+(off+at_ * i.size)+j,none⟩=false)/\∀ u∈cU vs,u.oneCell'=true:=by
 unfold lay at h;split at h
 ·exact⟨G,by simpa[cU,CO] using hr,h,by simp[cU],by simp[cU],by simp[cU]⟩
 ·rename_i v vs;split at h
  ·rename_i cs hcs;obtain⟨h1,h2,h3,h4⟩:=h;split at h4
   ·rename_i G' hG;obtain⟨k1,k2,k3⟩:=CS hr hcs hG h1 rfl rfl h3;exact⟨G',k1,h4,k2,k3,vk _ h2⟩
   ·exact h4.elim
  ·exact h.elim
theorem AD (hr:Rel B G w) {n:Nat}{x:ah}{vs:List ah}(hs:gq G n x=some vs) {tx:TypeId}(hk:(∃ e',P.underlying tx=some (.slice e'))\/P.underlying tx=some .string) (hok:mz vs=true\/True) :
  (∀ w':World,(Builtin.lenOf (cv x)).run P w'=.ok vs.length w')/\(Builtin.firstCells n vs.length (cv x)).run P w=.ok (cU vs).toArray w ∧
  (Builtin.firstCells n vs.length (cv x)).run P w.drew=.ok (cU vs).toArray w.drew/\(cU vs).length=vs.length * n:=by
 cases x with
 | slice id p st off len cap=>
  obtain⟨h1,h2,h3,_⟩:=oK hr hs;refine⟨fun _=>by simp[Builtin.lenOf,cv,h1],?_,?_,by rw[h3,h1]⟩
  ·exact run_firstCells_some w n vs.length _ len cap (cU vs) (by rw[h3,h1]) fun j u hj=>by rw[Addr.mV];exact h2 j u hj
  ·exact run_firstCells_some w.drew n vs.length _ len cap (cU vs) (by rw[h3,h1]) fun j u hj=>by rw[Addr.mV];simpa using h2 j u hj
 | nilSlice=>
  simp[gq]at hs;subst hs;exact⟨fun _=>by simp[Builtin.lenOf,cv],by simp[Builtin.firstCells,cv,cU],by simp[Builtin.firstCells,cv,cU],by simp[cU]⟩
 | str s=>
  simp only[gq]at hs;split at hs
  ·rename_i hn;injection hs with hs;subst hs;subst hn;have e1:(⟨s.toArray⟩:ByteArray).size=s.length:=(by simp[ByteArray.size]);have hfl:cU (s.map fun b=>ah.int .u8 b.toNat)=byteCells ⟨s.toArray⟩:=by
    rw[show (s.map fun b:UInt8=>ah.int .u8 b.toNat)=(s.map fun b=>(b.toNat:Int)).map (ah.int .u8) by simp,o8];simp[byteCells]
   refine⟨fun _=>by simp[Builtin.lenOf,cv,e1],?_,?_,?_⟩
   ·rw[hfl];simpa[cv,e1] using firstCells_string (P:=P) ⟨s.toArray⟩ w
   ·rw[hfl];simpa[cv,e1] using firstCells_string (P:=P) ⟨s.toArray⟩ w.drew
   ·rw[hfl,byteCells_length,e1];simp
  ·cases hs
 | _=>simp[gq]at hs
end
end Go.Esc
