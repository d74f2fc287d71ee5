import Derived.Test.YtkojimdacnohpaaGreatDoorEA
import Derived.Deep.MidRow
import Derived.Deep.AppendSrc
set_option linter.unusedSimpArgs false
set_option linter.unusedVariables false
namespace Go.Esc
open Go Go.RowKit
inductive kZ where
 | int (k:IntKind)
 | bool
 | string
 | pointer (e:TypeId)
 | slice (e:TypeId)
 | array (n:Nat) (e:TypeId)
 | struct (fs:List (TypeId×Nat))
 | map (k e:TypeId)
 | func
 | iface
 | other
 deriving DecidableEq
def descOf:TypeDesc->kZ
 | .int k=>.int k
 | .bool=>.bool
 | .string=>.string
 | .pointer e=>.pointer e
 | .slice e=>.slice e
 | .array n e=>.array n e
 | .struct fs=>.struct (fs.toList.map fun f=>(f.type,f.offset))
 | .map k e=>.map k e
 | .func _ _ _=>.func
 | .interface _=>.iface
 | _=>.other
def kZ.isAgg:kZ->Bool
 | .struct _ | .array _ _=>true
 | _=>false
def blankField (P:Program) (t:TypeId):Bool:=
 match P.underlying t with
 | some (.struct fs)=>fs.toList.any fun f=>f.name == "_"
 | _=>false
structure TI where
 desc:kZ
 size:Nat
 bytes:Nat
 zero:ah
abbrev Tbl:=TypeId->Option TI
structure gl (P:Program) (t:TypeId) (i:TI):Prop where
 info:∃ inf,P.info? t=some inf/\inf.size=i.size/\inf.bytes=i.bytes/\inf.zero=some (cv i.zero)
 und:∃ d,P.underlying t=some d/\descOf d=i.desc
 agg:i.desc.isAgg=true->P.eqGuardType P.depth t=false/\P.stoodInHeld t=false/\blankField P t=false
 zsz:sz i.zero=i.size
def gF (P:Program) (T:Tbl):Prop:=∀ t i,T t=some i->gl P t i
theorem gl.mk' {P:Program}{t:TypeId}{i:TI}
  (h1:(P.info? t).map (fun x=>(x.size,x.bytes,x.zero))=some (i.size,i.bytes,some (cv i.zero)))
  (h2:(P.underlying t).map descOf=some i.desc)
  (h3:(!i.desc.isAgg || (!P.eqGuardType P.depth t && !P.stoodInHeld t && !blankField P t))=true)
  (h4:sz i.zero=i.size):gl P t i:=by
 refine⟨?_,?_,fun h=>?_,h4⟩
 ·cases h:P.info? t with
  | none=>rw[h]at h1;cases h1
  | some inf=>
   rw[h]at h1;simp only[Option.map_some,Option.some.injEq,Prod.mk.injEq]at h1;exact⟨inf,rfl,h1.1,h1.2.1,h1.2.2⟩
 ·cases h:P.underlying t with
  | none=>rw[h]at h2;cases h2
  | some d=>rw[h]at h2;exact⟨d,rfl,by simpa using h2⟩
 ·rw[h]at h3;simpa[and_assoc] using h3
section
variable {P:Program}{T:Tbl}
theorem gl.run_sizeOf {t:TypeId}{i:TI}(h:gl P t i) (w:World):(sizeOf t).run P w=.ok i.size w:=by
 obtain⟨inf,h1,h2,_⟩:=h.info;simp[sizeOf,typeInfo,h1,h2]
theorem gl.tp {t:TypeId}{i:TI}(h:gl P t i) (w:World):(zeroValue t).run P w=.ok (cv i.zero) w:=by
 obtain⟨inf,h1,_,_,h4⟩:=h.info;simp[zeroValue,typeInfo,h1,h4]
theorem gl.BK {t:TypeId}{i:TI}(h:gl P t i) (w:World):(isAgg t).run P w=.ok i.desc.isAgg w:=by
 obtain⟨d,h1,h2⟩:=h.und;unfold isAgg;rw[Sem.run_bind,run_underlying h1 w,<- h2];cases d<;>simp[descOf,kZ.isAgg]
end
def mQ:n6->Option ah
 | .own t=>some t
 | .ro t=>some t
 | .map _=>none
theorem Rel.cell {B:lq}{G:ak}{w:World}(hr:Rel B G w) {id:AId}{o:n6}{tr:ah}(h:G id=some o) (ht:mQ o=some tr) (j:Nat) (u:Value) (hj:(flat tr)[j]?=some u) :
  w.cell? ⟨id.block,id.start+j,none⟩=some u:=by
 cases o with
 | own t=>
  injection ht with ht;subst ht;obtain⟨h0,_,_,e,fz,hb,_⟩:=hr.obj _ _ h;simp[World.cell?,hb,h0,hj]
 | ro t=>
  injection ht with ht;subst ht;exact (hr.vS id t h).2 j u hj
 | map es=>cases ht
def dD (i:TI) (v:ah):Bool:=(i.desc.isAgg == v.isAgg) && (sz v == i.size)
def nI (G:ak):ah->Option ah
 | .ptr id p off=>match G id with
  | some o=>match mQ o with
   | some tr=>sub p tr off
   | none=>none
  | none=>none
 | _=>none
def ag (T:Tbl) (G:ak) (t:TypeId) (a:ah):Option ah:=
 match nI G a with
 | some v=>match T t with
  | some i=>if dD i v=true then some v else none
  | none=>none
 | none=>none
theorem Addr.mV (b o j:Nat):(⟨b,o,none⟩:Addr).add j=⟨b,o+j,none⟩:=Addr.add_mid b o j
theorem zq {B:lq}{G:ak}{w:World}(hr:Rel B G w) {id:AId}{p:List Nat}{off:Nat}{v:ah}(h:nI G (.ptr id p off)=some v) :
  w.rangeAt id.block (id.start+off) (flat v):=by
 simp only[nI]at h;split at h
 ·rename_i o ho;split at h
  ·rename_i tr ht;obtain⟨l,r,h1,h2,_⟩:=vN _ _ _ _ h;intro j u hj;have:=hr.cell ho ht (off+j) u (by
    rw[h1,List.append_assoc,List.getElem?_append_right (by omega),h2,Nat.add_sub_cancel_left,List.getElem?_append_left (List.getElem?_eq_some_iff.1 hj).1]
    exact hj)
   rwa [<- Nat.add_assoc]at this
  ·cases h
 ·cases h
theorem yb {P:Program}{T:Tbl}(hT:gF P T) {B:lq}{G:ak}{w:World}(hr:Rel B G w) {t:TypeId}{a v:ah}(h:ag T G t a=some v) :
  (Instr.loadAt t (cv a)).run P w=.ok (cv v) w:=by
 unfold ag at h;split at h
 ·rename_i v' hs;split at h
  ·rename_i i hi;split at h
   ·rename_i hf;injection h with h;subst h;have hty:=hT t i hi;cases a with
    | ptr id p off=>
     have hc:=zq hr hs;simp only[dD,Bool.and_eq_true,beq_iff_eq]at hf;obtain⟨hagg,hsz⟩:=hf;simp only[cv,Instr.loadAt,Instr.sureAddr,Sem.run_bind,Sem.run_pure,Result.andThen_ok,loadVar,hty.BK,Sem.run_ite];split
     ·rename_i hg;have hl:(loadCells ⟨id.block,id.start+off,none⟩ (flat v').length).run P w=.ok (flat v').toArray w:=
       run_loadCells_list w _ (flat v') fun j u hj=>by rw[Addr.mV];exact hc j u hj
      rw[gE,hsz]at hl;simp only[hty.run_sizeOf,Result.andThen_ok,hl];rw[hagg]at hg;cases v' with
      | agg cs=>rw[flat_agg];simp[cv]
      | _=>simp[ah.isAgg]at hg
     ·rename_i hg;have hl:v'.isAgg=false:=(by rw[<- hagg];simpa using hg);have:=hc 0 (cv v') (by rw[xF hl];rfl);simp only[Nat.add_zero]at this;rw[run_load,this]
    | _=>simp[nI]at hs
   ·cases h
  ·cases h
 ·cases h
mutual
theorem BU:∀ v:ah,okv v=true->∀ u∈flat v,u.oneCell'=true
 | .agg cs,h,u,hu=>by
  rw[flat_agg]at hu;simp only[okv]at h;exact vk cs h u hu
 | .tuple _,h,_,_=>by simp[okv]at h
 | .int _ _,_,u,hu=>by simp[flat,cv,Value.cells]at hu;subst hu;rfl
 | .bool _,_,u,hu=>by simp[flat,cv,Value.cells]at hu;subst hu;rfl
 | .str _,_,u,hu=>by simp[flat,cv,Value.cells]at hu;subst hu;rfl
 | .ptr _ _ _,_,u,hu=>by simp[flat,cv,Value.cells]at hu;subst hu;rfl
 | .nilPtr,_,u,hu=>by simp[flat,cv,Value.cells]at hu;subst hu;rfl
 | .slice _ _ _ _ _ _,_,u,hu=>by simp[flat,cv,Value.cells]at hu;subst hu;rfl
 | .nilSlice,_,u,hu=>by simp[flat,cv,Value.cells]at hu;subst hu;rfl
 | .map _,_,u,hu=>by simp[flat,cv,Value.cells]at hu;subst hu;rfl
 | .nilMap,_,u,hu=>by simp[flat,cv,Value.cells]at hu;subst hu;rfl
 | .func _ _ _,_,u,hu=>by simp[flat,cv,Value.cells]at hu;subst hu;rfl
 | .nilFunc,_,u,hu=>by simp[flat,cv,Value.cells]at hu;subst hu;rfl
 | .iface _ _,_,u,hu=>by simp[flat,cv,Value.cells]at hu;subst hu;rfl
 | .nilIface,_,u,hu=>by simp[flat,cv,Value.cells]at hu;subst hu;rfl
theorem vk:∀ vs:List ah,mz vs=true->∀ u∈cU vs,u.oneCell'=true
 | [],_,u,hu=>by simp[cU]at hu
 | v :: vs,h,u,hu=>by
  simp only[mz,Bool.and_eq_true]at h;rw[jM]at hu;rcases List.mem_append.1 hu with hu | hu
  ·exact BU v h.1 u hu
  ·exact vk vs h.2 u hu
end
theorem Rel.setCells {B:lq}{G:ak}{w:World}(hr:Rel B G w) {id:AId}{tr tr':ah}(hid:G id=some (.own tr)) {l m r m':List Value}
  (h1:flat tr=l++m++r) (h2:flat tr'=l++m'++r) (hm:m'.length=m.length) :
  Rel B (G.upd id (.own tr')) (w.setCells id.block l.length m') ∧
  (∀ j,j < m'.length->(w.cell? ⟨id.block,l.length+j,none⟩).isSome=true)/\(∀ j,j < m'.length->w.frozen? ⟨id.block,l.length+j,none⟩=false):=by
 obtain⟨_,_,hB,e,fz,hb,hz⟩:=hr.obj id _ hid;have hlen:(flat tr).length=(flat tr').length:=by rw[h1,h2];simp[hm]
 have hsz:sz tr'=sz tr:=by rw[<- gE,<- gE,hlen]
 have aux:∀ (vs:List Value) (o:Nat) (w:World) (c:Array Value),w.heap[id.block]?=some (.cells c e fz)->o+vs.length≤c.size ->
   (w.setCells id.block o vs).os=w.os/\(w.setCells id.block o vs).tape=w.tape/\(w.setCells id.block o vs).output=w.output ∧
   (w.setCells id.block o vs).heap.size=w.heap.size/\(∀ k,k≠id.block->(w.setCells id.block o vs).heap[k]?=w.heap[k]?) ∧
   (w.setCells id.block o vs).heap[id.block]?=some (.cells (c.toList.take o++vs++c.toList.drop (o+vs.length)).toArray e fz):=by
  intro vs;induction vs with
  | nil=>
   intro o w c hb _;refine⟨rfl,rfl,rfl,rfl,fun _ _=>rfl,?_⟩;simp[World.setCells,hb]
  | cons v vs ih=>
   intro o w c hb ho;simp only[List.length_cons]at ho;have hb':(w.setCell ⟨id.block,o,none⟩ v).heap[id.block]?=some (.cells (c.setIfInBounds o v) e fz):=by
    simp only[World.setCell,Array.getElem?_modify,if_true,hb,Option.map_some];simp
   obtain⟨a1,a2,a3,a4,a5,a6⟩:=ih (o+1) (w.setCell ⟨id.block,o,none⟩ v) _ hb' (by simp;omega);simp only[World.setCells];refine⟨a1,a2,a3,a4.trans (by simp),fun k hk=>(a5 k hk).trans (Below.heap_setCell _ _ _ _ hk),?_⟩;rw[a6];congr 3;have ho':o < c.toList.length:=(by simp;omega);simp only[Array.toList_setIfInBounds];rw[List.set_eq_take_append_cons_drop,if_pos ho',List.take_append,List.drop_append];simp only[List.length_take,List.length_cons];rw[show min o c.toList.length=o by omega,List.take_of_length_le (by rw[List.length_take];omega),show o+1-o=1 by omega];rw[List.drop_eq_nil_of_le (as:=List.take o c.toList) (by simp;omega),show o+1+vs.length-o=vs.length+1 by omega];simp only[List.take_succ_cons,List.take_zero,List.drop_succ_cons,List.drop_drop,List.nil_append,List.append_assoc,List.cons_append];rw[show o+1+vs.length=o+(vs.length+1) by omega]
 have hc:l.length+m'.length≤(flat tr).toArray.size:=by simp[h1,hm]
 obtain⟨a1,a2,a3,a4,a5,a6⟩:=aux m' l.length w _ hb hc;refine⟨hr.setBlock hid hsz a1 a2 a3 a4 a5 fun e' fz' he'=>?_,fun j hj=>?_,fun j hj=>?_⟩
 ·rw[hb]at he';injection he' with he';injection he' with _ he2 he3;subst he2;subst he3;rw[a6];congr 3;simp only[h1,h2];simp[hm]
 ·have:l.length+j < (flat tr).length:=by rw[h1];simp;omega
  simp[World.cell?,hb,this]
 ·have:l.length+j < sz tr:=by rw[<- gE,h1];simp;omega
  simp only[World.frozen?,hb];rcases hz with hz | hz
  ·simp;omega
  ·simp;omega
def aF (T:Tbl) (G:ak) (t:TypeId) (a v:ah):Option ak:=
 match a with
 | .ptr id p off=>match G id with
  | some (.own tr)=>match sub p tr off with
   | some u=>match T t with
    | some i=>if (dD i v && (sz u == sz v) && okv v)=true then some (G.upd id (.own (putAt p tr v))) else none
    | none=>none
   | none=>none
  | _=>none
 | _=>none
theorem mC (v:ah):(cv v).cells.size=sz v:=by rw[<- gE];simp[flat]
theorem Cz {P:Program}{T:Tbl}(hT:gF P T) {B:lq}{G G':ak}{w:World}(hr:Rel B G w) {t:TypeId}{a v:ah}(h:aF T G t a v=some G') :
  ∃ w',(Instr.storeAt t (cv a) (cv v)).run P w=.ok () w'/\Rel B G' w':=by
 unfold aF at h;split at h
 ·rename_i id p off;split at h
  ·rename_i tr hid;split at h
   ·rename_i u hu;split at h
    ·rename_i i hi;split at h
     ·rename_i hc;injection h with h;subst h;simp only[dD,Bool.and_eq_true,beq_iff_eq]at hc;obtain⟨⟨⟨hagg,hsz⟩,huv⟩,hok⟩:=hc;have hty:=hT t i hi;obtain⟨l,r,e1,e2,e3⟩:=vN _ _ _ _ hu;have e3':=e3 v huv.symm;have hlen:(flat v).length=(flat u).length:=(by rw[gE,gE,huv]);obtain⟨k1,k2,k3⟩:=hr.setCells hid e1 e3' hlen;refine⟨_,?_,k1⟩;obtain⟨h0,_⟩:=hr.obj id _ hid;have hst:=run_storeCells_cells (P:=P) id.block l.length (flat v) 0 w (by simpa using k2) (by simpa using k3) (BU v hok);simp only[Nat.add_zero]at hst;simp only[cv,Instr.storeAt,Instr.sureAddr,Sem.run_bind,Sem.run_pure,Result.andThen_ok,storeVar,hty.run_sizeOf,mC,hsz,ne_eq,not_true_eq_false,if_false,Sem.run_ite];rw[h0,Nat.zero_add,<- e2];exact hst
     ·cases h
    ·cases h
   ·cases h
  ·cases h
 ·cases h
end Go.Esc
