import Derived.Test.YtkojimdacnohpaaGreatDoorEI
set_option linter.unusedSimpArgs false
set_option linter.unusedVariables false
namespace Go.Esc
open Go Go.RowKit
theorem oK (z:ag):∀ n,cF (List.replicate n z) = (List.range (n * sz z)).map fun i=>(cv z).cells[i % sz z]!
 | 0=>by simp [cF]
 | n + 1=>by
  have hsz:(cv z).cells.size = sz z:=kL z
  rw [List.replicate_succ',iD,iS,GQ,List.append_nil,oK z n,Nat.succ_mul,List.range_add,List.map_append,List.map_map]
  congr 1
  apply List.ext_getElem?
  intro j
  by_cases hj:j < sz z
  ·have h1:j < (flat z).length:=by rw [gk]; exact hj
   rw [List.getElem?_map,List.getElem?_range hj,List.getElem?_eq_getElem h1]
   simp only [Option.map_some,Function.comp]
   rw [Nat.mul_comm n,Nat.mul_add_mod,Nat.mod_eq_of_lt hj]
   rw [getElem!_pos _ _ (by omega)]
   simp [flat]
  ·rw [List.getElem?_eq_none (by rw [gk]; omega),List.getElem?_eq_none (by simp; omega)]
theorem AY (z:ag) (n:Nat):Builtin.zeroCells (cv z).cells n = (cF (List.replicate n z)).toArray:=by
 apply Array.ext'
 rw [oK]
 simp [Builtin.zeroCells,kL]
theorem uO (z:ag) (n s:Nat) (hs:s = sz z):madeCells (cv z).cells (n * s) = (cF (List.replicate n z)).toArray:=by
 subst hs
 apply Array.ext'
 rw [oK]
 simp [madeCells,kL]
theorem zQ (z:ag) (n s:Nat) (hs:s = sz z):(Array.range (n * s)).map (fun i=>(cv z).cells[i % (cv z).cells.size]!) = (cF (List.replicate n z)).toArray :=
 uO z n s hs
theorem EY.zero (n:Nat):EY (0,0) n:=.inl (Nat.le_refl _)
section
variable {cx:Cx} (hcx:DI cx) {B:j1} {G:ah} {w:World} (hr:Rel B G w) {env:Env} {a:Act} (he:lZ env a.tmps)
def FZ (B:j1) (a:Act) (dst:Option Nat) (next:Act -> World -> Prop) (K:Option ag -> ah -> Prop):Prop :=
 ∀ v G' u w',Rel B G' w' -> (∀ x,v = some x -> u = cv x) -> K v G' -> next (a.put dst u) w'
theorem oQ {o:Oper} {next:Act -> World -> Prop} {Q:Exit -> Act -> World -> Prop} {u:Value} {w':World} (h:(execOp a.eval o).run cx.P w = .ok (.value u) w') (hn:next (a.put o.dst u) w'):o.wp cx.P a w next Q:=by
 unfold Oper.wp; rw [h]; exact hn
theorem upon_skip {o:Oper} {next:Act -> World -> Prop} {Q:Exit -> Act -> World -> Prop} {w':World} (h:(execOp a.eval o).run cx.P w = .ok .skip w') (hn:next (a.put o.dst undef) w'):o.wp cx.P a w next Q:=by
 unfold Oper.wp; rw [h]; exact hn
theorem yB (t:TypeId) (v:ag):(newVar t (cv v)).run cx.P w = .ok ⟨w.heap.size,0,none⟩ (w.alloc (.cells (flat v).toArray t)):=by
 simp [newVar,newRow,flat]
theorem Dk (w:World):cv (.ptr (nextId w) [] 0) = .pointer (some ⟨w.heap.size,0,none⟩):=by simp [cv,nextId]
theorem qa (w:World) (n c:Nat):cv (.slice (nextId w) [] 0 0 n c) = .slice (some ⟨w.heap.size,0,none⟩) n c:=by simp [cv,nextId]
include hr in
theorem xr {next:Act -> World -> Prop} {K:Option ag -> ah -> Prop} {dst:Option Nat} (hn:FZ B a dst next K) {tr:ag} (t:TypeId) (h:∀ id,j3 G id -> K (some (.ptr id [] 0)) (G.upd id (.own tr))) :
  next (a.put dst (.pointer (some ⟨w.heap.size,0,none⟩))) (w.alloc (.cells (flat tr).toArray t)) :=
 hn _ _ _ _ (hr.alloc tr t (0,0) (EY.zero _)) (fun x hx=>by injection hx with hx; subst hx; exact (Dk w).symm) (h _ hr.fresh)
include hr in
theorem qC {next:Act -> World -> Prop} {K:Option ag -> ah -> Prop} {dst:Option Nat} (hn:FZ B a dst next K) {cs:List ag} (t:TypeId) (n c:Nat) (h:∀ id,j3 G id -> K (some (.slice id [] 0 0 n c)) (G.upd id (.own (.agg cs)))) :
  next (a.put dst (.slice (some ⟨w.heap.size,0,none⟩) n c)) (w.alloc (.cells (cF cs).toArray t)):=by
 have:=hr.alloc (.agg cs) t (0,0) (EY.zero _)
 rw [flat_agg] at this
 exact hn _ _ _ _ this (fun x hx=>by injection hx with hx; subst hx; exact (qa w n c).symm) (h _ hr.fresh)
end
section
variable {P:Program} {T:Tbl} (hT:gl P T) {B:j1} {G:ah} {w:World} (hr:Rel B G w)
theorem Bw (hr:Rel B G w) {id:AId} {p:List Nat} {n st off:Nat} {cs cs':List ag} {G':ah} (ha:kg G n id p st off = some cs) (hp:p6 G id p n st off cs' = some G')
  {k m:Nat} {vs:List ag} (hk:st + k + m ≤ cs.length) (hcs:cs' = cs.take (st + k) ++ vs ++ cs.drop (st + k + m)) (hv:vs.length = m) (hu:uni n vs = true) :
  Rel B G' (w.setCells id.block (id.start + (off + k * n)) (cF vs)) /\ (∀ j,j < (cF vs).length -> (w.cell? ⟨id.block,id.start + (off + k * n) + j,none⟩).isSome = true) ∧
   (∀ j,j < (cF vs).length -> w.frozen? ⟨id.block,id.start + (off + k * n) + j,none⟩ = false):=by
 unfold p6 at hp
 split at hp
 ·rename_i tr htr
  split at hp
  ·rename_i u hu'
   injection hp with hp; subst hp
   unfold kg at ha
   split at ha
   ·rename_i cs0 hs
    split at ha
    ·rename_i hc
     injection ha with ha; subst ha
     simp only [mo,htr,kZ] at hs
     rw [hu'] at hs
     injection hs with hs; subst hs
     simp only [Bool.and_eq_true,decide_eq_true_eq] at hc
     obtain ⟨l,r,e1,e2,e3⟩:=uy _ _ _ _ hu'
     have huv:szs vs = m * n:=by rw [gv hu,hv]
     have hmid:szs ((cs0.drop (st + k)).take m) = m * n:=by
      rw [gv (jc (pg hc.2 _) _),List.length_take,List.length_drop,Nat.min_eq_left (by omega)]
     have hsplit:cs0 = cs0.take (st + k) ++ (cs0.drop (st + k)).take m ++ cs0.drop (st + k + m):=by
      have e4:=List.take_append_drop m (cs0.drop (st + k))
      rw [List.drop_drop] at e4
      rw [List.append_assoc,e4,List.take_append_drop]
     have hsz:sz (.agg cs') = sz (.agg cs0):=by
      rw [yr,yr,hcs]
      conv=>rhs; rw [hsplit]
      simp only [tL]
      rw [huv,hmid]
     have e3':=e3 (.agg cs') hsz
     have e5:cF cs' = cF (cs0.take (st + k)) ++ cF vs ++ cF (cs0.drop (st + k + m)):=by rw [hcs,iD,iD]
     have e6:cF cs0 = cF (cs0.take (st + k)) ++ cF ((cs0.drop (st + k)).take m) ++ cF (cs0.drop (st + k + m)):=by
      conv=>lhs; rw [hsplit]
      rw [iD,iD]
     rw [flat_agg,e5] at e3'
     rw [flat_agg,e6] at e1
     have hpre:(cF (cs0.take (st + k))).length = (st + k) * n:=by
      rw [jo,gv (jc hc.2 _),List.length_take,Nat.min_eq_left (by omega)]
     have key:=hr.setCells htr (l:=l ++ cF (cs0.take (st + k))) (m:=cF ((cs0.drop (st + k)).take m)) (r:=cF (cs0.drop (st + k + m)) ++ r) (m':=cF vs) (tr':=putAt p tr (.agg cs'))
      (by rw [e1]; simp [List.append_assoc]) (by rw [e3']; simp [List.append_assoc]) (by rw [jo,jo,huv,hmid])
     have hlen:(l ++ cF (cs0.take (st + k))).length = id.start + (off + k * n):=by
      obtain ⟨h0,_⟩:=hr.obj id _ htr
      have:=hc.1
      rw [List.length_append,hpre,e2,h0,Nat.add_mul]
      omega
     rw [hlen] at key
     exact key
    ·cases ha
   ·cases ha
  ·cases hp
 ·cases hp
theorem Br (w:World) (b o:Nat):w.setCells b o [] = w:=rfl
theorem JT {n:Nat} {vs:List ag} (h:vs = []):cF vs = []:=by subst h; simp [cF]
theorem Av (hr:Rel B G w) {i:TI} {id:AId} {p:List Nat} {st off at_:Nat} {vs:List ag} {K:ah -> Prop} (h:lay i G id p st off at_ vs K) :
  ∃ G',Rel B G' (w.setCells id.block (id.start + (off + at_ * i.size)) (cF vs)) /\ K G' /\ (∀ j,j < (cF vs).length -> (w.cell? ⟨id.block,id.start + (off + at_ * i.size) + j,none⟩).isSome = true) ∧
   (∀ j,j < (cF vs).length -> w.frozen? ⟨id.block,id.start + (off + at_ * i.size) + j,none⟩ = false) /\ ∀ u ∈ cF vs,u.oneCell' = true:=by
 unfold lay at h
 split at h
 ·exact ⟨G,by simpa [cF,Br] using hr,h,by simp [cF],by simp [cF],by simp [cF]⟩
 ·rename_i v vs
  split at h
  ·rename_i cs hcs
   obtain ⟨h1,h2,h3,h4⟩:=h
   split at h4
   ·rename_i G' hG
    obtain ⟨k1,k2,k3⟩:=Bw hr hcs hG h1 rfl rfl h3
    exact ⟨G',k1,h4,k2,k3,tW _ h2⟩
   ·exact h4.elim
  ·exact h.elim
theorem zk (hr:Rel B G w) {n:Nat} {x:ag} {vs:List ag} (hs:fT G n x = some vs) {tx:TypeId} (hk:(∃ e',P.underlying tx = some (.slice e')) \/ P.underlying tx = some .string) (hok:kT vs = true \/ True) :
  (∀ w':World,(Builtin.lenOf (cv x)).run P w' = .ok vs.length w') /\ (Builtin.firstCells n vs.length (cv x)).run P w = .ok (cF vs).toArray w ∧
  (Builtin.firstCells n vs.length (cv x)).run P w.drew = .ok (cF vs).toArray w.drew /\ (cF vs).length = vs.length * n:=by
 cases x with
 | slice id p st off len cap=>
  obtain ⟨h1,h2,h3,_⟩:=nD hr hs
  refine ⟨fun _=>by simp [Builtin.lenOf,cv,h1],?_,?_,by rw [h3,h1]⟩
  ·exact run_firstCells_some w n vs.length _ len cap (cF vs) (by rw [h3,h1]) fun j u hj=>by rw [Addr.k9]; exact h2 j u hj
  ·exact run_firstCells_some w.drew n vs.length _ len cap (cF vs) (by rw [h3,h1]) fun j u hj=>by rw [Addr.k9]; simpa using h2 j u hj
 | nilSlice=>
  simp [fT] at hs; subst hs
  exact ⟨fun _=>by simp [Builtin.lenOf,cv],by simp [Builtin.firstCells,cv,cF],by simp [Builtin.firstCells,cv,cF],by simp [cF]⟩
 | str s=>
  simp only [fT] at hs
  split at hs
  ·rename_i hn
   injection hs with hs; subst hs; subst hn
   have e1:(⟨s.toArray⟩:ByteArray).size = s.length:=by simp [ByteArray.size]
   have hfl:cF (s.map fun b=>ag.int .u8 b.toNat) = byteCells ⟨s.toArray⟩:=by
    rw [show (s.map fun b:UInt8=>ag.int .u8 b.toNat) = (s.map fun b=>(b.toNat:Int)).map (ag.int .u8) by simp,n4]
    simp [byteCells]
   refine ⟨fun _=>by simp [Builtin.lenOf,cv,e1],?_,?_,?_⟩
   ·rw [hfl]; simpa [cv,e1] using firstCells_string (P:=P) ⟨s.toArray⟩ w
   ·rw [hfl]; simpa [cv,e1] using firstCells_string (P:=P) ⟨s.toArray⟩ w.drew
   ·rw [hfl,byteCells_length,e1]; simp
  ·cases hs
 | _=>simp [fT] at hs
end
end Go.Esc
