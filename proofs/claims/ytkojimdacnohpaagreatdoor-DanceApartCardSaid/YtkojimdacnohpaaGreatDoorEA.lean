import Derived.Orders
import Derived.Below
import Derived.KernelRfl
import Derived.Laws.StructEq
import Derived.Laws.Slices
set_option linter.unusedSimpArgs false
set_option linter.unusedVariables false
namespace Go.Esc
open Go Go.RowKit
structure AId where
 block:Nat
 start:Nat
 win:Nat
 deriving DecidableEq
inductive ah where
 | int (k:IntKind) (n:Int)
 | bool (b:Bool)
 | str (s:List UInt8)
 | ptr (id:AId) (path:List Nat) (off:Nat)
 | nilPtr
 | slice (id:AId) (path:List Nat) (start off len cap:Nat)
 | nilSlice
 | map (id:AId)
 | nilMap
 | func (fn:Fn) (first captured:List ah)
 | nilFunc
 | iface (t:TypeId) (v:ah)
 | nilIface
 | agg (cs:List ah)
 | tuple (vs:List ah)
 deriving Inhabited
mutual
def cv:ah->Value
 | .int k n=>.int k n
 | .bool b=>.bool b
 | .str s=>.string ⟨s.toArray⟩
 | .ptr id _ off=>.pointer (some ⟨id.block,id.start+off,none⟩)
 | .nilPtr=>.pointer none
 | .slice id _ _ off len cap=>.slice (some ⟨id.block,id.start+off,none⟩) len cap
 | .nilSlice=>.slice none 0 0
 | .map id=>.map (some id.block)
 | .nilMap=>.map none
 | .func fn a b=>.func fn (cvs a).toArray (cvs b).toArray
 | .nilFunc=>.nilFunc
 | .iface t v=>.iface t (cv v)
 | .nilIface=>.nilIface
 | .agg cs=>.agg (cU cs).toArray
 | .tuple vs=>.tuple (cvs vs).toArray
def cU:List ah->List Value
 | []=>[]
 | v :: vs=>(cv v).cells.toList++cU vs
def cvs:List ah->List Value
 | []=>[]
 | v :: vs=>cv v :: cvs vs
end
mutual
def sz:ah->Nat
 | .agg cs=>szs cs
 | _=>1
def szs:List ah->Nat
 | []=>0
 | v :: vs=>sz v+szs vs
end
def ah.isAgg:ah->Bool
 | .agg _=>true
 | _=>false
mutual
def okv:ah->Bool
 | .agg cs=>mz cs
 | .tuple _=>false
 | _=>true
def mz:List ah->Bool
 | []=>true
 | v :: vs=>okv v && mz vs
end
def flat (v:ah):List Value:=(cv v).cells.toList
theorem flat_agg (cs:List ah):flat (.agg cs)=cU cs:=by simp[flat,cv,Value.cells]
theorem jM (v:ah) (vs:List ah):cU (v :: vs)=flat v++cU vs:=by simp[cU,flat]
theorem HZ:cU []=[]:=by simp[cU]
theorem xF {v:ah}(h:v.isAgg=false):flat v=[cv v]:=by
 cases v<;>first | (simp[ah.isAgg]at h;done) | simp[flat,cv,Value.cells]
theorem zI (cs:List ah):sz (.agg cs)=szs cs:=by simp[sz]
theorem po (v:ah) (vs:List ah):szs (v :: vs)=sz v+szs vs:=by simp[szs]
mutual
theorem gE:∀ v:ah,(flat v).length=sz v
 | .agg cs=>by rw[flat_agg,zI];exact kj cs
 | .int _ _=>by simp[flat,cv,Value.cells,sz]
 | .bool _=>by simp[flat,cv,Value.cells,sz]
 | .str _=>by simp[flat,cv,Value.cells,sz]
 | .ptr _ _ _=>by simp[flat,cv,Value.cells,sz]
 | .nilPtr=>by simp[flat,cv,Value.cells,sz]
 | .slice _ _ _ _ _ _=>by simp[flat,cv,Value.cells,sz]
 | .nilSlice=>by simp[flat,cv,Value.cells,sz]
 | .map _=>by simp[flat,cv,Value.cells,sz]
 | .nilMap=>by simp[flat,cv,Value.cells,sz]
 | .func _ _ _=>by simp[flat,cv,Value.cells,sz]
 | .nilFunc=>by simp[flat,cv,Value.cells,sz]
 | .iface _ _=>by simp[flat,cv,Value.cells,sz]
 | .nilIface=>by simp[flat,cv,Value.cells,sz]
 | .tuple _=>by simp[flat,cv,Value.cells,sz]
theorem kj:∀ vs:List ah,(cU vs).length=szs vs
 | []=>by simp[cU,szs]
 | v :: vs=>by rw[jM,po,List.length_append,gE v,kj vs]
end
theorem ji (a b:List ah):cU (a++b)=cU a++cU b:=by
 induction a with
 | nil=>simp[cU]
 | cons v vs ih=>rw[List.cons_append,jM,jM,ih,List.append_assoc]
theorem u5 (a b:List ah):szs (a++b)=szs a+szs b:=by
 induction a with
 | nil=>simp[szs]
 | cons v vs ih=>rw[List.cons_append,po,po,ih,Nat.add_assoc]
theorem vv (l:List ah):cvs l=l.map cv:=by
 induction l with
 | nil=>simp[cvs]
 | cons v vs ih=>simp[cvs,ih]
theorem FP (a b:List ah):cvs (a++b)=cvs a++cvs b:=by simp[vv]
def sub:List Nat->ah->Nat->Option ah
 | [],v,off=>if off=0 then some v else none
 | k :: p,.agg cs,off=>if szs (cs.take k)≤off then (match cs[k]? with
   | some c=>sub p c (off-szs (cs.take k))
   | none=>none) else none
 | _ :: _,_,_=>none
def putAt:List Nat->ah->ah->ah
 | [],_,u=>u
 | k :: p,.agg cs,u=>match cs[k]? with
   | some c=>.agg (cs.set k (putAt p c u))
   | none=>.agg cs
 | _ :: _,v,_=>v
theorem rf {α:Type}(cs:List α) (k:Nat) (c x:α) (h:cs[k]?=some c):cs=cs.take k++c :: cs.drop (k+1)/\cs.set k x=cs.take k++x :: cs.drop (k+1):=by
 have hk:k < cs.length:=(List.getElem?_eq_some_iff.1 h).1;have hc:cs[k]=c:=(List.getElem?_eq_some_iff.1 h).2;refine⟨?_,?_⟩
 ·rw[<- hc,<- List.drop_eq_getElem_cons hk,List.take_append_drop]
 ·rw[List.set_eq_take_append_cons_drop,if_pos hk]
theorem vN:∀ (p:List Nat) (v:ah) (off:Nat) (u:ah),sub p v off=some u ->
  ∃ l r,flat v=l++flat u++r/\l.length=off/\∀ u',sz u'=sz u->flat (putAt p v u')=l++flat u'++r
 | [],v,off,u,h=>by
  simp only[sub]at h;split at h
  ·injection h with h;subst h;rename_i h0;exact⟨[],[],by simp,by simp[h0],fun u' _=>by simp[putAt]⟩
  ·cases h
 | k :: p,v,off,u,h=>by
  cases v with
  | agg cs=>
   simp only[sub]at h;split at h
   ·rename_i hle;cases hc:cs[k]? with
    | none=>rw[hc]at h;cases h
    | some c=>
     rw[hc]at h;obtain⟨l,r,h1,h2,h3⟩:=vN p c _ u h;obtain⟨e1,_⟩:=rf cs k c c hc;refine⟨cU (cs.take k)++l,r++cU (cs.drop (k+1)),?_,?_,fun u' hu=>?_⟩
     ·rw[flat_agg]
      conv=>lhs;rw[e1]
      rw[ji,jM,h1];simp
     ·rw[List.length_append,kj,h2];omega
     ·obtain⟨_,e2⟩:=rf cs k c (putAt p c u') hc;simp only[putAt,hc];rw[flat_agg,e2,ji,jM,h3 u' hu];simp
   ·cases h
  | _=>simp[sub]at h
inductive n6 where
 | own (tree:ah)
 | ro (tree:ah)
 | map (es:List (ah×ah))
abbrev ak:=AId->Option n6
def ak.upd (G:ak) (i:AId) (o:n6):ak:=fun j=>if j=i then some o else G j
theorem ak.dR (G:ak) (i:AId) (o:n6):G.upd i o i=some o:=by simp[ak.upd]
theorem ak.nb (G:ak) {i j:AId}(o:n6) (h:j≠i):G.upd i o j=G j:=by simp[ak.upd,h]
def Ge (fz:Nat×Nat) (n:Nat):Prop:=fz.2≤fz.1\/n≤fz.1
structure lq where
 w0:World
 prot:Nat->Prop
 lt:∀ b,prot b->b < w0.heap.size
 ro:AId->Option ah
 cells:∀ id t,ro id=some t->prot id.block/\∀ j u,(flat t)[j]?=some u->w0.cell? ⟨id.block,id.start+j,none⟩=some u
def wK (B:lq) (w:World) (id:AId):n6->Prop
 | .own tree=>id.start=0/\id.win=0/\¬ B.prot id.block/\∃ e fz,w.heap[id.block]?=some (.cells (flat tree).toArray e fz)/\Ge fz (sz tree)
 | .ro tree=>B.ro id=some tree
 | .map es=>id.start=0/\id.win=0/\¬ B.prot id.block/\∃ ents clk,w.heap[id.block]?=some (.map ents clk)/\ents.toList.map (fun e=>(e.key,e.val))=es.map (fun p=>(cv p.1,cv p.2))
structure Rel (B:lq) (G:ak) (w:World):Prop where
 os:w.os=B.w0.os
 tape:w.tape=B.w0.tape
 output:w.output=B.w0.output
 size:B.w0.heap.size≤w.heap.size
 qU:∀ k,B.prot k->w.heap[k]?=B.w0.heap[k]?
 obj:∀ id o,G id=some o->wK B w id o
theorem wK.lt {B:lq}{w:World}{id:AId}{o:n6}(hb:B.w0.heap.size≤w.heap.size) (h:wK B w id o):id.block < w.heap.size:=by
 cases o with
 | own tree=>obtain⟨_,_,_,e,fz,h,_⟩:=h;exact (Array.getElem?_eq_some_iff.1 h).1
 | ro tree=>have:=B.lt _ (B.cells _ _ h).1;omega
 | map es=>obtain⟨_,_,_,e,c,h,_⟩:=h;exact (Array.getElem?_eq_some_iff.1 h).1
theorem wK.qU {B:lq}{w w':World}{id:AId}{o:n6}(hblk:w'.heap[id.block]?=w.heap[id.block]?) (h:wK B w id o):wK B w' id o:=by
 cases o with
 | own tree=>obtain⟨h1,h2,h3,e,fz,h,hf⟩:=h;exact⟨h1,h2,h3,e,fz,hblk.trans h,hf⟩
 | ro tree=>exact h
 | map es=>obtain⟨h1,h2,h3,e,c,h,hf⟩:=h;exact⟨h1,h2,h3,e,c,hblk.trans h,hf⟩
theorem Rel.drew {B:lq}{G:ak}{w:World}(h:Rel B G w):Rel B G w.drew:=
 ⟨h.os,h.tape,h.output,h.size,h.qU,fun id o ho=>(h.obj id o ho).qU rfl⟩
theorem Rel.drawn {B:lq}{G:ak}{w:World}(h:Rel B G w) (n:Nat):Rel B G { w with drawn:=n }:=
 ⟨h.os,h.tape,h.output,h.size,h.qU,fun id o ho=>(h.obj id o ho).qU rfl⟩
def nextId (w:World):AId:=⟨w.heap.size,0,0⟩
def lE (G:ak) (id:AId):Prop:=id.start=0/\id.win=0/\∀ j,(G j).isSome=true->j.block≠id.block
theorem lE.none {G:ak}{id:AId}(h:lE G id):G id=.none:=by
 cases hg:G id with
 | none=>rfl
 | some o=>exact absurd rfl (h.2.2 id (by simp[hg]))
theorem lE.ne {G:ak}{id j:AId}(h:lE G id) (hj:(G j).isSome=true):j≠id:=fun e=>h.2.2 j hj (by rw[e])
theorem Rel.fresh {B:lq}{G:ak}{w:World}(h:Rel B G w):lE G (nextId w):=by
 refine⟨rfl,rfl,fun j hj=>?_⟩;cases hg:G j with
 | none=>simp[hg]at hj
 | some o=>exact Nat.ne_of_lt ((h.obj _ _ hg).lt h.size)
theorem Rel.move {B:lq}{G:ak}{w w':World}(h:Rel B G w) (hos:w'.os=w.os) (htape:w'.tape=w.tape) (hout:w'.output=w.output) (hsize:w.heap.size≤w'.heap.size)
  (hk:∀ k,B.prot k->w'.heap[k]?=w.heap[k]?) (ho:∀ j,(G j).isSome=true->w'.heap[j.block]?=w.heap[j.block]?):Rel B G w':=
 ⟨hos.trans h.os,htape.trans h.tape,hout.trans h.output,Nat.le_trans h.size hsize,fun k hp=>(hk k hp).trans (h.qU k hp),
  fun id o hid=>(h.obj id o hid).qU (ho id (by simp[hid]))⟩
theorem Rel.Cs {B:lq}{G:ak}{w:World}(h:Rel B G w) (o:Obj):Rel B G (w.alloc o):=
 h.move rfl rfl rfl (by simp) (fun k hk=>Below.heap_alloc _ _ _ (Nat.lt_of_lt_of_le (B.lt k hk) h.size)) fun j hj=>by
  cases hg:G j with
  | none=>simp[hg]at hj
  | some o'=>exact Below.heap_alloc _ _ _ ((h.obj _ _ hg).lt h.size)
theorem Rel.add {B:lq}{G:ak}{w:World}(h:Rel B G w) {i:AId}{o:n6}(ho:wK B w i o):Rel B (G.upd i o) w:=by
 refine⟨h.os,h.tape,h.output,h.size,h.qU,fun id x hx=>?_⟩;by_cases hid:id=i
 ·subst hid;rw[ak.dR]at hx;injection hx with hx;subst hx;exact ho
 ·rw[ak.nb _ _ hid]at hx;exact h.obj id x hx
theorem Rel.Ag {B:lq}{G:ak}{w:World}(h:Rel B G w):¬ B.prot w.heap.size:=fun hp=>by
 have:=B.lt _ hp;have:=h.size;omega
theorem Rel.alloc {B:lq}{G:ak}{w:World}(h:Rel B G w) (tree:ah) (e:TypeId) (fz:Nat×Nat) (hfz:Ge fz (sz tree)) :
  Rel B (G.upd (nextId w) (.own tree)) (w.alloc (.cells (flat tree).toArray e fz)):=
 (h.Cs _).add ⟨rfl,rfl,h.Ag,e,fz,by show (w.heap.push _)[w.heap.size]?=_;simp,hfz⟩
theorem Rel.allocMap {B:lq}{G:ak}{w:World}(h:Rel B G w) (n:Nat) :
  Rel B (G.upd (nextId w) (.map [])) (w.alloc (.map #[] n)):=
 (h.Cs _).add ⟨rfl,rfl,h.Ag,#[],n,by show (w.heap.push _)[w.heap.size]?=_;simp,by simp⟩
theorem Rel.Jb {B:lq}{G:ak}{w:World}(h:Rel B G w) {i j:AId}{t:ah}{o:n6}(hi:G i=some (.own t)) (hj:G j=some o) (hne:j≠i):j.block≠i.block:=by
 intro e;obtain⟨a1,a2,a3,_⟩:=h.obj i _ hi;have:=h.obj j o hj;cases o with
 | own t'=>obtain⟨b1,b2,_⟩:=this;exact hne (by cases i;cases j;simp_all)
 | ro t'=>exact a3 (e▸(B.cells _ _ this).1)
 | map es=>obtain⟨b1,b2,_⟩:=this;exact hne (by cases i;cases j;simp_all)
theorem Rel.Jl {B:lq}{G:ak}{w:World}(h:Rel B G w) {i j:AId}{t:List (ah×ah)}{o:n6}(hi:G i=some (.map t)) (hj:G j=some o) (hne:j≠i):j.block≠i.block:=by
 intro e;obtain⟨a1,a2,a3,_⟩:=h.obj i _ hi;have:=h.obj j o hj;cases o with
 | own t'=>obtain⟨b1,b2,_⟩:=this;exact hne (by cases i;cases j;simp_all)
 | ro t'=>exact a3 (e▸(B.cells _ _ this).1)
 | map es=>obtain⟨b1,b2,_⟩:=this;exact hne (by cases i;cases j;simp_all)
theorem Rel.setObj {B:lq}{G:ak}{w w':World}(h:Rel B G w) {i:AId}{o:n6}(hp:¬ B.prot i.block) (hoth:∀ j,(G j).isSome=true->j≠i->j.block≠i.block)
  (hos:w'.os=w.os) (htape:w'.tape=w.tape) (hout:w'.output=w.output) (hsize:w'.heap.size=w.heap.size)
  (hblk:∀ k,k≠i.block->w'.heap[k]?=w.heap[k]?) (hobj:wK B w' i o):Rel B (G.upd i o) w':=by
 refine⟨hos.trans h.os,htape.trans h.tape,hout.trans h.output,by rw[hsize];exact h.size,fun k hk=>(hblk k (fun e=>hp (e▸hk))).trans (h.qU k hk),fun id x hx=>?_⟩;by_cases hid:id=i
 ·subst hid;rw[ak.dR]at hx;injection hx with hx;subst hx;exact hobj
 ·rw[ak.nb _ _ hid]at hx;exact (h.obj id x hx).qU (hblk _ (hoth id (by simp[hx]) hid))
theorem Rel.setBlock {B:lq}{G:ak}{w w':World}(h:Rel B G w) {i:AId}{t t':ah}(hi:G i=some (.own t)) (hsz:sz t'=sz t)
  (hos:w'.os=w.os) (htape:w'.tape=w.tape) (hout:w'.output=w.output) (hsize:w'.heap.size=w.heap.size)
  (hoth:∀ k,k≠i.block->w'.heap[k]?=w.heap[k]?)
  (hblk:∀ e fz,w.heap[i.block]?=some (.cells (flat t).toArray e fz)->w'.heap[i.block]?=some (.cells (flat t').toArray e fz)) :
  Rel B (G.upd i (.own t')) w':=by
 obtain⟨a1,a2,a3,e,fz,a4,a5⟩:=h.obj i _ hi;refine h.setObj a3 (fun j hj hne=>?_) hos htape hout hsize hoth ⟨a1,a2,a3,e,fz,hblk e fz a4,by rw[hsz];exact a5⟩;cases hg:G j with
 | none=>simp[hg]at hj
 | some o=>exact h.Jb hi hg hne
theorem Rel.LA {B:lq}{G:ak}{w w':World}(h:Rel B G w) {i:AId}{t t':List (ah×ah)}(hi:G i=some (.map t))
  (hos:w'.os=w.os) (htape:w'.tape=w.tape) (hout:w'.output=w.output) (hsize:w'.heap.size=w.heap.size)
  (hoth:∀ k,k≠i.block->w'.heap[k]?=w.heap[k]?)
  (hblk:∃ ents clk,w'.heap[i.block]?=some (.map ents clk)/\ents.toList.map (fun e=>(e.key,e.val))=t'.map (fun p=>(cv p.1,cv p.2))) :
  Rel B (G.upd i (.map t')) w':=by
 obtain⟨a1,a2,a3,_⟩:=h.obj i _ hi;refine h.setObj a3 (fun j hj hne=>?_) hos htape hout hsize hoth ⟨a1,a2,a3,hblk⟩;cases hg:G j with
 | none=>simp[hg]at hj
 | some o=>exact h.Jl hi hg hne
def ak.le (G1 G:ak):Prop:=∀ id o,G1 id=some o->G id=some o
theorem Rel.weaken {B:lq}{G1 G:ak}{w:World}(h:Rel B G w) (hle:G1.le G):Rel B G1 w:=
 ⟨h.os,h.tape,h.output,h.size,h.qU,fun id o ho=>h.obj id o (hle id o ho)⟩
def r8 (G:ak) (w:World) (hro:∀ id t,G id=some (.ro t)->(id.block < w.heap.size/\∀ j x,G j=some x->(∀ t,x≠.ro t)->j.block≠id.block) ∧
  ∀ j u,(flat t)[j]?=some u->w.cell? ⟨id.block,id.start+j,none⟩=some u):lq where
 w0:=w
 prot:=fun b=>b < w.heap.size/\∀ id o,G id=some o->(∀ t,o≠.ro t)->id.block≠b
 lt:=fun _ h=>h.1
 ro:=fun id=>match G id with
  | some (.ro t)=>some t
  | _=>none
 cells:=fun id t h=>by
  split at h
  ·rename_i t' ht
   injection h with h;subst h
   exact hro id t' ht
  ·cases h
theorem Rel.vS {B:lq}{G:ak}{w:World}(h:Rel B G w):∀ id t,G id=some (.ro t)->(id.block < w.heap.size/\∀ j x,G j=some x->(∀ t,x≠.ro t)->j.block≠id.block) ∧
  ∀ j u,(flat t)[j]?=some u->w.cell? ⟨id.block,id.start+j,none⟩=some u:=by
 intro id t ht;have hr:B.ro id=some t:=h.obj id _ ht;obtain⟨hp,hc⟩:=B.cells _ _ hr;refine⟨⟨(h.obj id _ ht).lt h.size,fun j x hj hx e=>?_⟩,fun j u hj=>(World.cell?_of_block (w:=B.w0) (a:=⟨id.block,id.start+j,none⟩) (h.qU _ hp)).trans (hc j u hj)⟩;have hj':=h.obj j x hj;cases x with
 | own t'=>obtain⟨_,_,b3,_⟩:=hj';exact b3 (e▸hp)
 | map t'=>obtain⟨_,_,b3,_⟩:=hj';exact b3 (e▸hp)
 | ro t'=>exact hx t' rfl
theorem Rel.r8 {B:lq}{G:ak}{w:World}(h:Rel B G w):Rel (r8 G w h.vS) G w:=by
 refine⟨rfl,rfl,rfl,Nat.le_refl _,fun _ _=>rfl,fun id o ho=>?_⟩;have hok:=h.obj id o ho;cases o with
 | own t=>obtain⟨a1,a2,a3,a4⟩:=hok;exact⟨a1,a2,fun hp=>hp.2 id _ ho (by simp) rfl,a4⟩
 | map t=>obtain⟨a1,a2,a3,a4⟩:=hok;exact⟨a1,a2,fun hp=>hp.2 id _ ho (by simp) rfl,a4⟩
 | ro t=>
  show (match G id with | some (.ro t)=>some t | _=>none)=some t;rw[ho]
def ak.merge (G G1 G1':ak):ak:=fun id=>if (G1 id).isSome=true then G1' id else if (G id).isSome=true then G id else G1' id
theorem Rel.merge {B:lq}{G G1 G1':ak}{w w':World}(h:Rel B G w) (hle:G1.le G) (h':Rel (Esc.r8 G1 w (h.weaken hle).vS) G1' w'):Rel B (G.merge G1 G1') w':=by
 have nown:∀ k,B.prot k->(Esc.r8 G1 w (h.weaken hle).vS).prot k:=fun k hk=>by
  refine⟨Nat.lt_of_lt_of_le (B.lt k hk) h.size,fun id o ho hx e=>?_⟩;have:=h.obj id o (hle id o ho);cases o with
  | own t=>obtain⟨_,_,b,_⟩:=this;exact b (e▸hk)
  | map t=>obtain⟨_,_,b,_⟩:=this;exact b (e▸hk)
  | ro t=>exact hx t rfl
 refine⟨h'.os.trans h.os,h'.tape.trans h.tape,h'.output.trans h.output,Nat.le_trans h.size h'.size,fun k hk=>(h'.qU k (nown k hk)).trans (h.qU k hk),fun id o ho=>?_⟩;have mine:∀ o,G1' id=some o->wK B w' id o:=by
  intro o ho;have hok:=h'.obj id o ho;cases o with
  | own t=>obtain⟨a1,a2,a3,a4⟩:=hok;exact⟨a1,a2,fun hp=>a3 (nown _ hp),a4⟩
  | map t=>obtain⟨a1,a2,a3,a4⟩:=hok;exact⟨a1,a2,fun hp=>a3 (nown _ hp),a4⟩
  | ro t=>
   have h1:(match G1 id with | some (.ro t)=>some t | _=>none)=some t:=hok;split at h1
   ·rename_i t' ht;injection h1 with h1;subst h1;exact h.obj id _ (hle id _ ht)
   ·cases h1
 unfold ak.merge at ho;split at ho
 ·exact mine o ho
 ·rename_i hn;split at ho
  ·have hok:=h.obj id o ho;have hlt:=hok.lt h.size;refine hok.qU (h'.qU id.block ⟨hlt,fun j x hj hx e=>?_⟩);have hj':=hle j x hj;have hne:j≠id:=fun e'=>hn (by rw[<- e',hj];rfl);cases x with
   | own t=>exact h.Jb hj' ho (Ne.symm hne) e.symm
   | map t=>exact h.Jl hj' ho (Ne.symm hne) e.symm
   | ro t=>exact hx t rfl
  ·exact mine o ho
end Go.Esc
