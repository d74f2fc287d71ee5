import Derived.Orders
import Derived.Below
import Derived.KernelRfl
import Derived.Laws.StructEq
import Derived.Laws.Slices
set_option linter.unusedSimpArgs false
set_option linter.unusedVariables false
namespace Go.Esc
open Go Go.RowKit
structure AId where
 block:Nat
 start:Nat
 win:Nat
 deriving DecidableEq
inductive ag where
 | int (k:IntKind) (n:Int)
 | bool (b:Bool)
 | str (s:List UInt8)
 | ptr (id:AId) (path:List Nat) (off:Nat)
 | nilPtr
 | slice (id:AId) (path:List Nat) (start off len cap:Nat)
 | nilSlice
 | map (id:AId)
 | nilMap
 | func (fn:Fn) (first captured:List ag)
 | nilFunc
 | iface (t:TypeId) (v:ag)
 | nilIface
 | agg (cs:List ag)
 | tuple (vs:List ag)
 deriving Inhabited
mutual
def cv:ag -> Value
 | .int k n=>.int k n
 | .bool b=>.bool b
 | .str s=>.string ⟨s.toArray⟩
 | .ptr id _ off=>.pointer (some ⟨id.block,id.start + off,none⟩)
 | .nilPtr=>.pointer none
 | .slice id _ _ off len cap=>.slice (some ⟨id.block,id.start + off,none⟩) len cap
 | .nilSlice=>.slice none 0 0
 | .map id=>.map (some id.block)
 | .nilMap=>.map none
 | .func fn a b=>.func fn (cvs a).toArray (cvs b).toArray
 | .nilFunc=>.nilFunc
 | .iface t v=>.iface t (cv v)
 | .nilIface=>.nilIface
 | .agg cs=>.agg (cF cs).toArray
 | .tuple vs=>.tuple (cvs vs).toArray
def cF:List ag -> List Value
 | []=>[]
 | v :: vs=>(cv v).cells.toList ++ cF vs
def cvs:List ag -> List Value
 | []=>[]
 | v :: vs=>cv v :: cvs vs
end
mutual
def sz:ag -> Nat
 | .agg cs=>szs cs
 | _=>1
def szs:List ag -> Nat
 | []=>0
 | v :: vs=>sz v + szs vs
end
def ag.isAgg:ag -> Bool
 | .agg _=>true
 | _=>false
mutual
def okv:ag -> Bool
 | .agg cs=>kT cs
 | .tuple _=>false
 | _=>true
def kT:List ag -> Bool
 | []=>true
 | v :: vs=>okv v && kT vs
end
def flat (v:ag):List Value:=(cv v).cells.toList
theorem flat_agg (cs:List ag):flat (.agg cs) = cF cs:=by simp [flat,cv,Value.cells]
theorem iS (v:ag) (vs:List ag):cF (v :: vs) = flat v ++ cF vs:=by simp [cF,flat]
theorem GQ:cF [] = []:=by simp [cF]
theorem wb {v:ag} (h:v.isAgg = false):flat v = [cv v]:=by
 cases v <;> first | (simp [ag.isAgg] at h; done) | simp [flat,cv,Value.cells]
theorem Lw {v:ag} (h:v.isAgg = false):sz v = 1:=by
 cases v <;> first | (simp [ag.isAgg] at h; done) | simp [sz]
theorem yr (cs:List ag):sz (.agg cs) = szs cs:=by simp [sz]
theorem ou (v:ag) (vs:List ag):szs (v :: vs) = sz v + szs vs:=by simp [szs]
theorem Lv:szs [] = 0:=by simp [szs]
mutual
theorem gk:∀ v:ag,(flat v).length = sz v
 | .agg cs=>by rw [flat_agg,yr]; exact jo cs
 | .int _ _=>by simp [flat,cv,Value.cells,sz]
 | .bool _=>by simp [flat,cv,Value.cells,sz]
 | .str _=>by simp [flat,cv,Value.cells,sz]
 | .ptr _ _ _=>by simp [flat,cv,Value.cells,sz]
 | .nilPtr=>by simp [flat,cv,Value.cells,sz]
 | .slice _ _ _ _ _ _=>by simp [flat,cv,Value.cells,sz]
 | .nilSlice=>by simp [flat,cv,Value.cells,sz]
 | .map _=>by simp [flat,cv,Value.cells,sz]
 | .nilMap=>by simp [flat,cv,Value.cells,sz]
 | .func _ _ _=>by simp [flat,cv,Value.cells,sz]
 | .nilFunc=>by simp [flat,cv,Value.cells,sz]
 | .iface _ _=>by simp [flat,cv,Value.cells,sz]
 | .nilIface=>by simp [flat,cv,Value.cells,sz]
 | .tuple _=>by simp [flat,cv,Value.cells,sz]
theorem jo:∀ vs:List ag,(cF vs).length = szs vs
 | []=>by simp [cF,szs]
 | v :: vs=>by rw [iS,ou,List.length_append,gk v,jo vs]
end
theorem iD (a b:List ag):cF (a ++ b) = cF a ++ cF b:=by
 induction a with
 | nil=>simp [cF]
 | cons v vs ih=>rw [List.cons_append,iS,iS,ih,List.append_assoc]
theorem tL (a b:List ag):szs (a ++ b) = szs a + szs b:=by
 induction a with
 | nil=>simp [szs]
 | cons v vs ih=>rw [List.cons_append,ou,ou,ih,Nat.add_assoc]
theorem ud (l:List ag):cvs l = l.map cv:=by
 induction l with
 | nil=>simp [cvs]
 | cons v vs ih=>simp [cvs,ih]
theorem EE (a b:List ag):cvs (a ++ b) = cvs a ++ cvs b:=by simp [ud]
def sub:List Nat -> ag -> Nat -> Option ag
 | [],v,off=>if off = 0 then some v else none
 | k :: p,.agg cs,off=>if szs (cs.take k) ≤ off then (match cs[k]? with
   | some c=>sub p c (off - szs (cs.take k))
   | none=>none) else none
 | _ :: _,_,_=>none
def putAt:List Nat -> ag -> ag -> ag
 | [],_,u=>u
 | k :: p,.agg cs,u=>match cs[k]? with
   | some c=>.agg (cs.set k (putAt p c u))
   | none=>.agg cs
 | _ :: _,v,_=>v
theorem qk {α:Type} (cs:List α) (k:Nat) (c x:α) (h:cs[k]? = some c):cs = cs.take k ++ c :: cs.drop (k + 1) /\ cs.set k x = cs.take k ++ x :: cs.drop (k + 1):=by
 have hk:k < cs.length:=(List.getElem?_eq_some_iff.1 h).1
 have hc:cs[k] = c:=(List.getElem?_eq_some_iff.1 h).2
 refine ⟨?_,?_⟩
 ·rw [<- hc,<- List.drop_eq_getElem_cons hk,List.take_append_drop]
 ·rw [List.set_eq_take_append_cons_drop,if_pos hk]
theorem uy:∀ (p:List Nat) (v:ag) (off:Nat) (u:ag),sub p v off = some u ->
  ∃ l r,flat v = l ++ flat u ++ r /\ l.length = off /\ ∀ u',sz u' = sz u -> flat (putAt p v u') = l ++ flat u' ++ r
 | [],v,off,u,h=>by
  simp only [sub] at h
  split at h
  ·injection h with h; subst h; rename_i h0
   exact ⟨[],[],by simp,by simp [h0],fun u' _=>by simp [putAt]⟩
  ·cases h
 | k :: p,v,off,u,h=>by
  cases v with
  | agg cs=>
   simp only [sub] at h
   split at h
   ·rename_i hle
    cases hc:cs[k]? with
    | none=>rw [hc] at h; cases h
    | some c=>
     rw [hc] at h
     obtain ⟨l,r,h1,h2,h3⟩:=uy p c _ u h
     obtain ⟨e1,_⟩:=qk cs k c c hc
     refine ⟨cF (cs.take k) ++ l,r ++ cF (cs.drop (k + 1)),?_,?_,fun u' hu=>?_⟩
     ·rw [flat_agg]
      conv=>lhs; rw [e1]
      rw [iD,iS,h1]
      simp
     ·rw [List.length_append,jo,h2]; omega
     ·obtain ⟨_,e2⟩:=qk cs k c (putAt p c u') hc
      simp only [putAt,hc]
      rw [flat_agg,e2,iD,iS,h3 u' hu]
      simp
   ·cases h
  | _=>simp [sub] at h
inductive mY where
 | own (tree:ag)
 | ro (tree:ag)
 | map (es:List (ag × ag))
abbrev ah:=AId -> Option mY
def ah.upd (G:ah) (i:AId) (o:mY):ah:=fun j=>if j = i then some o else G j
theorem ah.fc (G:ah) (i:AId) (o:mY):G.upd i o i = some o:=by simp [ah.upd]
theorem ah.lF (G:ah) {i j:AId} (o:mY) (h:j ≠ i):G.upd i o j = G j:=by simp [ah.upd,h]
theorem ah.Lu (G:ah) {i j:AId} (o:mY) (hi:G i = none) (hj:(G j).isSome = true):G.upd i o j = G j :=
 G.lF o fun e=>by subst e; simp [hi] at hj
def EY (fz:Nat × Nat) (n:Nat):Prop:=fz.2 ≤ fz.1 \/ n ≤ fz.1
structure j1 where
 w0:World
 prot:Nat -> Prop
 lt:∀ b,prot b -> b < w0.heap.size
 ro:AId -> Option ag
 cells:∀ id t,ro id = some t -> prot id.block /\ ∀ j u,(flat t)[j]? = some u -> w0.cell? ⟨id.block,id.start + j,none⟩ = some u
def vl (B:j1) (w:World) (id:AId):mY -> Prop
 | .own tree=>id.start = 0 /\ id.win = 0 /\ ¬ B.prot id.block /\ ∃ e fz,w.heap[id.block]? = some (.cells (flat tree).toArray e fz) /\ EY fz (sz tree)
 | .ro tree=>B.ro id = some tree
 | .map es=>id.start = 0 /\ id.win = 0 /\ ¬ B.prot id.block /\ ∃ ents clk,w.heap[id.block]? = some (.map ents clk) /\ ents.toList.map (fun e=>(e.key,e.val)) = es.map (fun p=>(cv p.1,cv p.2))
structure Rel (B:j1) (G:ah) (w:World):Prop where
 os:w.os = B.w0.os
 tape:w.tape = B.w0.tape
 output:w.output = B.w0.output
 size:B.w0.heap.size ≤ w.heap.size
 p9:∀ k,B.prot k -> w.heap[k]? = B.w0.heap[k]?
 obj:∀ id o,G id = some o -> vl B w id o
theorem vl.lt {B:j1} {w:World} {id:AId} {o:mY} (hb:B.w0.heap.size ≤ w.heap.size) (h:vl B w id o):id.block < w.heap.size:=by
 cases o with
 | own tree=>obtain ⟨_,_,_,e,fz,h,_⟩:=h; exact (Array.getElem?_eq_some_iff.1 h).1
 | ro tree=>have:=B.lt _ (B.cells _ _ h).1; omega
 | map es=>obtain ⟨_,_,_,e,c,h,_⟩:=h; exact (Array.getElem?_eq_some_iff.1 h).1
theorem vl.p9 {B:j1} {w w':World} {id:AId} {o:mY} (hblk:w'.heap[id.block]? = w.heap[id.block]?) (h:vl B w id o):vl B w' id o:=by
 cases o with
 | own tree=>obtain ⟨h1,h2,h3,e,fz,h,hf⟩:=h; exact ⟨h1,h2,h3,e,fz,hblk.trans h,hf⟩
 | ro tree=>exact h
 | map es=>obtain ⟨h1,h2,h3,e,c,h,hf⟩:=h; exact ⟨h1,h2,h3,e,c,hblk.trans h,hf⟩
theorem Rel.drew {B:j1} {G:ah} {w:World} (h:Rel B G w):Rel B G w.drew :=
 ⟨h.os,h.tape,h.output,h.size,h.p9,fun id o ho=>(h.obj id o ho).p9 rfl⟩
theorem Rel.drawn {B:j1} {G:ah} {w:World} (h:Rel B G w) (n:Nat):Rel B G { w with drawn:=n } :=
 ⟨h.os,h.tape,h.output,h.size,h.p9,fun id o ho=>(h.obj id o ho).p9 rfl⟩
def nextId (w:World):AId:=⟨w.heap.size,0,0⟩
def j3 (G:ah) (id:AId):Prop:=id.start = 0 /\ id.win = 0 /\ ∀ j,(G j).isSome = true -> j.block ≠ id.block
theorem j3.none {G:ah} {id:AId} (h:j3 G id):G id = .none:=by
 cases hg:G id with
 | none=>rfl
 | some o=>exact absurd rfl (h.2.2 id (by simp [hg]))
theorem j3.ne {G:ah} {id j:AId} (h:j3 G id) (hj:(G j).isSome = true):j ≠ id:=fun e=>h.2.2 j hj (by rw [e])
theorem Rel.fresh {B:j1} {G:ah} {w:World} (h:Rel B G w):j3 G (nextId w):=by
 refine ⟨rfl,rfl,fun j hj=>?_⟩
 cases hg:G j with
 | none=>simp [hg] at hj
 | some o=>exact Nat.ne_of_lt ((h.obj _ _ hg).lt h.size)
theorem Rel.move {B:j1} {G:ah} {w w':World} (h:Rel B G w) (hos:w'.os = w.os) (htape:w'.tape = w.tape) (hout:w'.output = w.output) (hsize:w.heap.size ≤ w'.heap.size)
  (hk:∀ k,B.prot k -> w'.heap[k]? = w.heap[k]?) (ho:∀ j,(G j).isSome = true -> w'.heap[j.block]? = w.heap[j.block]?):Rel B G w' :=
 ⟨hos.trans h.os,htape.trans h.tape,hout.trans h.output,Nat.le_trans h.size hsize,fun k hp=>(hk k hp).trans (h.p9 k hp),
  fun id o hid=>(h.obj id o hid).p9 (ho id (by simp [hid]))⟩
theorem Rel.AV {B:j1} {G:ah} {w:World} (h:Rel B G w) (o:Obj):Rel B G (w.alloc o) :=
 h.move rfl rfl rfl (by simp) (fun k hk=>Below.heap_alloc _ _ _ (Nat.lt_of_lt_of_le (B.lt k hk) h.size)) fun j hj=>by
  cases hg:G j with
  | none=>simp [hg] at hj
  | some o'=>exact Below.heap_alloc _ _ _ ((h.obj _ _ hg).lt h.size)
theorem Rel.add {B:j1} {G:ah} {w:World} (h:Rel B G w) {i:AId} {o:mY} (ho:vl B w i o):Rel B (G.upd i o) w:=by
 refine ⟨h.os,h.tape,h.output,h.size,h.p9,fun id x hx=>?_⟩
 by_cases hid:id = i
 ·subst hid
  rw [ah.fc] at hx
  injection hx with hx; subst hx
  exact ho
 ·rw [ah.lF _ _ hid] at hx
  exact h.obj id x hx
theorem Rel.yW {B:j1} {G:ah} {w:World} (h:Rel B G w):¬ B.prot w.heap.size:=fun hp=>by
 have:=B.lt _ hp
 have:=h.size
 omega
theorem Rel.alloc {B:j1} {G:ah} {w:World} (h:Rel B G w) (tree:ag) (e:TypeId) (fz:Nat × Nat) (hfz:EY fz (sz tree)) :
  Rel B (G.upd (nextId w) (.own tree)) (w.alloc (.cells (flat tree).toArray e fz)) :=
 (h.AV _).add ⟨rfl,rfl,h.yW,e,fz,by show (w.heap.push _)[w.heap.size]? = _; simp,hfz⟩
theorem Rel.allocMap {B:j1} {G:ah} {w:World} (h:Rel B G w) (n:Nat) :
  Rel B (G.upd (nextId w) (.map [])) (w.alloc (.map #[] n)) :=
 (h.AV _).add ⟨rfl,rfl,h.yW,#[],n,by show (w.heap.push _)[w.heap.size]? = _; simp,by simp⟩
theorem Rel.H6 {B:j1} {G:ah} {w:World} (h:Rel B G w) {i j:AId} {t:ag} {o:mY} (hi:G i = some (.own t)) (hj:G j = some o) (hne:j ≠ i):j.block ≠ i.block:=by
 intro e
 obtain ⟨a1,a2,a3,_⟩:=h.obj i _ hi
 have:=h.obj j o hj
 cases o with
 | own t'=>obtain ⟨b1,b2,_⟩:=this; exact hne (by cases i; cases j; simp_all)
 | ro t'=>exact a3 (e ▸ (B.cells _ _ this).1)
 | map es=>obtain ⟨b1,b2,_⟩:=this; exact hne (by cases i; cases j; simp_all)
theorem Rel.Ik {B:j1} {G:ah} {w:World} (h:Rel B G w) {i j:AId} {t:List (ag × ag)} {o:mY} (hi:G i = some (.map t)) (hj:G j = some o) (hne:j ≠ i):j.block ≠ i.block:=by
 intro e
 obtain ⟨a1,a2,a3,_⟩:=h.obj i _ hi
 have:=h.obj j o hj
 cases o with
 | own t'=>obtain ⟨b1,b2,_⟩:=this; exact hne (by cases i; cases j; simp_all)
 | ro t'=>exact a3 (e ▸ (B.cells _ _ this).1)
 | map es=>obtain ⟨b1,b2,_⟩:=this; exact hne (by cases i; cases j; simp_all)
theorem Rel.setObj {B:j1} {G:ah} {w w':World} (h:Rel B G w) {i:AId} {o:mY} (hp:¬ B.prot i.block) (hoth:∀ j,(G j).isSome = true -> j ≠ i -> j.block ≠ i.block)
  (hos:w'.os = w.os) (htape:w'.tape = w.tape) (hout:w'.output = w.output) (hsize:w'.heap.size = w.heap.size)
  (hblk:∀ k,k ≠ i.block -> w'.heap[k]? = w.heap[k]?) (hobj:vl B w' i o):Rel B (G.upd i o) w':=by
 refine ⟨hos.trans h.os,htape.trans h.tape,hout.trans h.output,by rw [hsize]; exact h.size,fun k hk=>(hblk k (fun e=>hp (e ▸ hk))).trans (h.p9 k hk),fun id x hx=>?_⟩
 by_cases hid:id = i
 ·subst hid
  rw [ah.fc] at hx
  injection hx with hx; subst hx
  exact hobj
 ·rw [ah.lF _ _ hid] at hx
  exact (h.obj id x hx).p9 (hblk _ (hoth id (by simp [hx]) hid))
theorem Rel.setBlock {B:j1} {G:ah} {w w':World} (h:Rel B G w) {i:AId} {t t':ag} (hi:G i = some (.own t)) (hsz:sz t' = sz t)
  (hos:w'.os = w.os) (htape:w'.tape = w.tape) (hout:w'.output = w.output) (hsize:w'.heap.size = w.heap.size)
  (hoth:∀ k,k ≠ i.block -> w'.heap[k]? = w.heap[k]?)
  (hblk:∀ e fz,w.heap[i.block]? = some (.cells (flat t).toArray e fz) -> w'.heap[i.block]? = some (.cells (flat t').toArray e fz)) :
  Rel B (G.upd i (.own t')) w':=by
 obtain ⟨a1,a2,a3,e,fz,a4,a5⟩:=h.obj i _ hi
 refine h.setObj a3 (fun j hj hne=>?_) hos htape hout hsize hoth ⟨a1,a2,a3,e,fz,hblk e fz a4,by rw [hsz]; exact a5⟩
 cases hg:G j with
 | none=>simp [hg] at hj
 | some o=>exact h.H6 hi hg hne
theorem Rel.KI {B:j1} {G:ah} {w w':World} (h:Rel B G w) {i:AId} {t t':List (ag × ag)} (hi:G i = some (.map t))
  (hos:w'.os = w.os) (htape:w'.tape = w.tape) (hout:w'.output = w.output) (hsize:w'.heap.size = w.heap.size)
  (hoth:∀ k,k ≠ i.block -> w'.heap[k]? = w.heap[k]?)
  (hblk:∃ ents clk,w'.heap[i.block]? = some (.map ents clk) /\ ents.toList.map (fun e=>(e.key,e.val)) = t'.map (fun p=>(cv p.1,cv p.2))) :
  Rel B (G.upd i (.map t')) w':=by
 obtain ⟨a1,a2,a3,_⟩:=h.obj i _ hi
 refine h.setObj a3 (fun j hj hne=>?_) hos htape hout hsize hoth ⟨a1,a2,a3,hblk⟩
 cases hg:G j with
 | none=>simp [hg] at hj
 | some o=>exact h.Ik hi hg hne
def ah.le (G1 G:ah):Prop:=∀ id o,G1 id = some o -> G id = some o
theorem Rel.weaken {B:j1} {G1 G:ah} {w:World} (h:Rel B G w) (hle:G1.le G):Rel B G1 w :=
 ⟨h.os,h.tape,h.output,h.size,h.p9,fun id o ho=>h.obj id o (hle id o ho)⟩
def q7 (G:ah) (w:World) (hro:∀ id t,G id = some (.ro t) -> (id.block < w.heap.size /\ ∀ j x,G j = some x -> (∀ t,x ≠ .ro t) -> j.block ≠ id.block) ∧
  ∀ j u,(flat t)[j]? = some u -> w.cell? ⟨id.block,id.start + j,none⟩ = some u):j1 where
 w0:=w
 prot:=fun b=>b < w.heap.size /\ ∀ id o,G id = some o -> (∀ t,o ≠ .ro t) -> id.block ≠ b
 lt:=fun _ h=>h.1
 ro:=fun id=>match G id with
  | some (.ro t)=>some t
  | _=>none
 cells:=fun id t h=>by
  split at h
  ·rename_i t' ht
   injection h with h; subst h
   exact hro id t' ht
  ·cases h
theorem Rel.uE {B:j1} {G:ah} {w:World} (h:Rel B G w):∀ id t,G id = some (.ro t) -> (id.block < w.heap.size /\ ∀ j x,G j = some x -> (∀ t,x ≠ .ro t) -> j.block ≠ id.block) ∧
  ∀ j u,(flat t)[j]? = some u -> w.cell? ⟨id.block,id.start + j,none⟩ = some u:=by
 intro id t ht
 have hr:B.ro id = some t:=h.obj id _ ht
 obtain ⟨hp,hc⟩:=B.cells _ _ hr
 refine ⟨⟨(h.obj id _ ht).lt h.size,fun j x hj hx e=>?_⟩,fun j u hj=>(World.cell?_of_block (w:=B.w0) (a:=⟨id.block,id.start + j,none⟩) (h.p9 _ hp)).trans (hc j u hj)⟩
 have hj':=h.obj j x hj
 cases x with
 | own t'=>obtain ⟨_,_,b3,_⟩:=hj'; exact b3 (e ▸ hp)
 | map t'=>obtain ⟨_,_,b3,_⟩:=hj'; exact b3 (e ▸ hp)
 | ro t'=>exact hx t' rfl
theorem Rel.q7 {B:j1} {G:ah} {w:World} (h:Rel B G w):Rel (q7 G w h.uE) G w:=by
 refine ⟨rfl,rfl,rfl,Nat.le_refl _,fun _ _=>rfl,fun id o ho=>?_⟩
 have hok:=h.obj id o ho
 cases o with
 | own t=>obtain ⟨a1,a2,a3,a4⟩:=hok; exact ⟨a1,a2,fun hp=>hp.2 id _ ho (by simp) rfl,a4⟩
 | map t=>obtain ⟨a1,a2,a3,a4⟩:=hok; exact ⟨a1,a2,fun hp=>hp.2 id _ ho (by simp) rfl,a4⟩
 | ro t=>
  show (match G id with | some (.ro t)=>some t | _=>none) = some t
  rw [ho]
def ah.merge (G G1 G1':ah):ah:=fun id=>if (G1 id).isSome = true then G1' id else if (G id).isSome = true then G id else G1' id
theorem Rel.merge {B:j1} {G G1 G1':ah} {w w':World} (h:Rel B G w) (hle:G1.le G) (h':Rel (Esc.q7 G1 w (h.weaken hle).uE) G1' w'):Rel B (G.merge G1 G1') w':=by
 have nown:∀ k,B.prot k -> (Esc.q7 G1 w (h.weaken hle).uE).prot k:=fun k hk=>by
  refine ⟨Nat.lt_of_lt_of_le (B.lt k hk) h.size,fun id o ho hx e=>?_⟩
  have:=h.obj id o (hle id o ho)
  cases o with
  | own t=>obtain ⟨_,_,b,_⟩:=this; exact b (e ▸ hk)
  | map t=>obtain ⟨_,_,b,_⟩:=this; exact b (e ▸ hk)
  | ro t=>exact hx t rfl
 refine ⟨h'.os.trans h.os,h'.tape.trans h.tape,h'.output.trans h.output,Nat.le_trans h.size h'.size,fun k hk=>(h'.p9 k (nown k hk)).trans (h.p9 k hk),fun id o ho=>?_⟩
 have mine:∀ o,G1' id = some o -> vl B w' id o:=by
  intro o ho
  have hok:=h'.obj id o ho
  cases o with
  | own t=>obtain ⟨a1,a2,a3,a4⟩:=hok; exact ⟨a1,a2,fun hp=>a3 (nown _ hp),a4⟩
  | map t=>obtain ⟨a1,a2,a3,a4⟩:=hok; exact ⟨a1,a2,fun hp=>a3 (nown _ hp),a4⟩
  | ro t=>
   have h1:(match G1 id with | some (.ro t)=>some t | _=>none) = some t:=hok
   split at h1
   ·rename_i t' ht
    injection h1 with h1; subst h1
    exact h.obj id _ (hle id _ ht)
   ·cases h1
 unfold ah.merge at ho
 split at ho
 ·exact mine o ho
 ·rename_i hn
  split at ho
  ·have hok:=h.obj id o ho
   have hlt:=hok.lt h.size
   refine hok.p9 (h'.p9 id.block ⟨hlt,fun j x hj hx e=>?_⟩)
   have hj':=hle j x hj
   have hne:j ≠ id:=fun e'=>hn (by rw [<- e',hj]; rfl)
   cases x with
   | own t=>exact h.H6 hj' ho (Ne.symm hne) e.symm
   | map t=>exact h.Ik hj' ho (Ne.symm hne) e.symm
   | ro t=>exact hx t rfl
  ·exact mine o ho
end Go.Esc
