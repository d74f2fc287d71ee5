/- Own work. The abstract machine's values and heap: tree values, windows on memory, what they mean in the model's memory. -/
import Derived.Orders
import Derived.Below
import Derived.KernelRfl
import Derived.Laws.StructEq
import Derived.Laws.Slices
set_option linter.unusedSimpArgs false
set_option linter.unusedVariables false
namespace Go.Esc
open Go Go.RowKit

/-- What keeps windows on one block apart: a number, or the address that a hollow list has. -/
inductive Win where
  | n (k : Nat)
  | h (a : Addr)
  deriving DecidableEq
instance : OfNat Win 0 := ⟨.n 0⟩
/-- A row of memory by name: a block of the model, where the row starts in it, a number that keeps windows on one block apart. -/
structure AId where
  block : Nat
  start : Nat
  win : Win
  deriving DecidableEq
/-- A hollow list (no places at all) has an address of its own, anywhere. -/
def AId.hol (id : AId) : Option Addr := match id.win with
  | .h a => some a
  | .n _ => none
theorem AId.hol_0 {id : AId} (h : id.win = 0) : id.hol = none := by
  unfold AId.hol
  rw [h]
def AId.base (id : AId) : Addr := id.hol.getD ⟨id.block, id.start, none⟩
def AId.addr (id : AId) (off : Nat) : Addr := id.base.add off
theorem Addr.add_two (a : Addr) (m n : Nat) : (a.add m).add n = a.add (m + n) := by
  unfold Addr.add
  by_cases hm : m = 0
  · subst hm
    rw [if_pos rfl, Nat.zero_add]
  · rw [if_neg hm]
    by_cases hn : n = 0
    · subst hn
      rw [if_pos rfl, Nat.add_zero, if_neg hm]
    · rw [if_neg hn, if_neg (by omega), Nat.add_assoc]
theorem AId.addr_add (id : AId) (off n : Nat) : (id.addr off).add n = id.addr (off + n) := Addr.add_two _ _ _
theorem AId.addr_of {id : AId} (h : id.hol = none) (off : Nat) : id.addr off = ⟨id.block, id.start + off, none⟩ := by
  unfold AId.addr AId.base
  rw [h]
  show (⟨id.block, id.start, none⟩ : Addr).add off = _
  unfold Addr.add
  by_cases ho : off = 0
  · subst ho
    rw [if_pos rfl, Nat.add_zero]
  · rw [if_neg ho]

inductive AVal where
  | int (k : IntKind) (n : Int)
  | bool (b : Bool)
  | str (s : List UInt8)
  | ptr (id : AId) (path : List Nat) (off : Nat)
  | nilPtr
  | slice (id : AId) (path : List Nat) (start off len cap : Nat)
  | nilSlice
  | map (id : AId)
  | nilMap
  | func (fn : Fn) (first captured : List AVal)
  | nilFunc
  | iface (t : TypeId) (v : AVal)
  | nilIface
  | agg (cs : List AVal)
  | tuple (vs : List AVal)
  deriving Inhabited

/- What a tree value is in the model; the cells of trees one behind the other. -/
mutual
def cv : AVal → Value
  | .int k n => .int k n
  | .bool b => .bool b
  | .str s => .string ⟨s.toArray⟩
  | .ptr id _ off => .pointer (some (id.addr off))
  | .nilPtr => .pointer none
  | .slice id _ _ off len cap => .slice (some (id.addr off)) len cap
  | .nilSlice => .slice none 0 0
  | .map id => .map (some id.block)
  | .nilMap => .map none
  | .func fn a b => .func fn (cvs a).toArray (cvs b).toArray
  | .nilFunc => .nilFunc
  | .iface t v => .iface t (cv v)
  | .nilIface => .nilIface
  | .agg cs => .agg (flats cs).toArray
  | .tuple vs => .tuple (cvs vs).toArray
def flats : List AVal → List Value
  | [] => []
  | v :: vs => (cv v).cells.toList ++ flats vs
def cvs : List AVal → List Value
  | [] => []
  | v :: vs => cv v :: cvs vs
end

mutual
def sz : AVal → Nat
  | .agg cs => szs cs
  | _ => 1
def szs : List AVal → Nat
  | [] => 0
  | v :: vs => sz v + szs vs
end

def AVal.isAgg : AVal → Bool
  | .agg _ => true
  | _ => false

/- May it be stored into cells? -/
mutual
def okv : AVal → Bool
  | .agg cs => okvs cs
  | .tuple _ => false
  | _ => true
def okvs : List AVal → Bool
  | [] => true
  | v :: vs => okv v && okvs vs
end

def flat (v : AVal) : List Value := (cv v).cells.toList

theorem flat_agg (cs : List AVal) : flat (.agg cs) = flats cs := by simp [flat, cv, Value.cells]
theorem flats_cons (v : AVal) (vs : List AVal) : flats (v :: vs) = flat v ++ flats vs := by simp [flats, flat]
theorem flats_nil : flats [] = [] := by simp [flats]
theorem flat_leaf {v : AVal} (h : v.isAgg = false) : flat v = [cv v] := by
  cases v <;> first | (simp [AVal.isAgg] at h; done) | simp [flat, cv, Value.cells]
theorem sz_leaf {v : AVal} (h : v.isAgg = false) : sz v = 1 := by
  cases v <;> first | (simp [AVal.isAgg] at h; done) | simp [sz]
theorem sz_agg (cs : List AVal) : sz (.agg cs) = szs cs := by simp [sz]
theorem szs_cons (v : AVal) (vs : List AVal) : szs (v :: vs) = sz v + szs vs := by simp [szs]
theorem szs_nil : szs [] = 0 := by simp [szs]

mutual
theorem length_flat : ∀ v : AVal, (flat v).length = sz v
  | .agg cs => by rw [flat_agg, sz_agg]; exact length_flats cs
  | .int _ _ => by simp [flat, cv, Value.cells, sz]
  | .bool _ => by simp [flat, cv, Value.cells, sz]
  | .str _ => by simp [flat, cv, Value.cells, sz]
  | .ptr _ _ _ => by simp [flat, cv, Value.cells, sz]
  | .nilPtr => by simp [flat, cv, Value.cells, sz]
  | .slice _ _ _ _ _ _ => by simp [flat, cv, Value.cells, sz]
  | .nilSlice => by simp [flat, cv, Value.cells, sz]
  | .map _ => by simp [flat, cv, Value.cells, sz]
  | .nilMap => by simp [flat, cv, Value.cells, sz]
  | .func _ _ _ => by simp [flat, cv, Value.cells, sz]
  | .nilFunc => by simp [flat, cv, Value.cells, sz]
  | .iface _ _ => by simp [flat, cv, Value.cells, sz]
  | .nilIface => by simp [flat, cv, Value.cells, sz]
  | .tuple _ => by simp [flat, cv, Value.cells, sz]
theorem length_flats : ∀ vs : List AVal, (flats vs).length = szs vs
  | [] => by simp [flats, szs]
  | v :: vs => by rw [flats_cons, szs_cons, List.length_append, length_flat v, length_flats vs]
end

theorem flats_append (a b : List AVal) : flats (a ++ b) = flats a ++ flats b := by
  induction a with
  | nil => simp [flats]
  | cons v vs ih => rw [List.cons_append, flats_cons, flats_cons, ih, List.append_assoc]
theorem szs_append (a b : List AVal) : szs (a ++ b) = szs a + szs b := by
  induction a with
  | nil => simp [szs]
  | cons v vs ih => rw [List.cons_append, szs_cons, szs_cons, ih, Nat.add_assoc]
theorem cvs_eq (l : List AVal) : cvs l = l.map cv := by
  induction l with
  | nil => simp [cvs]
  | cons v vs ih => simp [cvs, ih]
theorem cvs_append (a b : List AVal) : cvs (a ++ b) = cvs a ++ cvs b := by simp [cvs_eq]

/-- The part of a tree at a path, whose cells begin at that offset. -/
def sub : List Nat → AVal → Nat → Option AVal
  | [], v, off => if off = 0 then some v else none
  | k :: p, .agg cs, off => if szs (cs.take k) ≤ off then (match cs[k]? with
      | some c => sub p c (off - szs (cs.take k))
      | none => none) else none
  | _ :: _, _, _ => none

/-- The tree with another part at a path. -/
def putAt : List Nat → AVal → AVal → AVal
  | [], _, u => u
  | k :: p, .agg cs, u => match cs[k]? with
      | some c => .agg (cs.set k (putAt p c u))
      | none => .agg cs
  | _ :: _, v, _ => v

theorem set_split {α : Type} (cs : List α) (k : Nat) (c x : α) (h : cs[k]? = some c) : cs = cs.take k ++ c :: cs.drop (k + 1) ∧ cs.set k x = cs.take k ++ x :: cs.drop (k + 1) := by
  have hk : k < cs.length := (List.getElem?_eq_some_iff.1 h).1
  have hc : cs[k] = c := (List.getElem?_eq_some_iff.1 h).2
  refine ⟨?_, ?_⟩
  · rw [← hc, ← List.drop_eq_getElem_cons hk, List.take_append_drop]
  · rw [List.set_eq_take_append_cons_drop, if_pos hk]

theorem sub_spec : ∀ (p : List Nat) (v : AVal) (off : Nat) (u : AVal), sub p v off = some u →
    ∃ l r, flat v = l ++ flat u ++ r ∧ l.length = off ∧ ∀ u', sz u' = sz u → flat (putAt p v u') = l ++ flat u' ++ r
  | [], v, off, u, h => by
    simp only [sub] at h
    split at h
    · injection h with h; subst h; rename_i h0
      exact ⟨[], [], by simp, by simp [h0], fun u' _ => by simp [putAt]⟩
    · cases h
  | k :: p, v, off, u, h => by
    cases v with
    | agg cs =>
      simp only [sub] at h
      split at h
      · rename_i hle
        cases hc : cs[k]? with
        | none => rw [hc] at h; cases h
        | some c =>
          rw [hc] at h
          obtain ⟨l, r, h1, h2, h3⟩ := sub_spec p c _ u h
          obtain ⟨e1, _⟩ := set_split cs k c c hc
          refine ⟨flats (cs.take k) ++ l, r ++ flats (cs.drop (k + 1)), ?_, ?_, fun u' hu => ?_⟩
          · rw [flat_agg]
            conv => lhs; rw [e1]
            rw [flats_append, flats_cons, h1]
            simp
          · rw [List.length_append, length_flats, h2]; omega
          · obtain ⟨_, e2⟩ := set_split cs k c (putAt p c u') hc
            simp only [putAt, hc]
            rw [flat_agg, e2, flats_append, flats_cons, h3 u' hu]
            simp
      · cases h
    | _ => simp [sub] at h

inductive AObj where
  | own (tree : AVal)
  | ro (tree : AVal)
  | map (es : List (AVal × AVal))

abbrev Heap := AId → Option AObj

def Heap.upd (G : Heap) (i : AId) (o : AObj) : Heap := fun j => if j = i then some o else G j

theorem Heap.upd_self (G : Heap) (i : AId) (o : AObj) : G.upd i o i = some o := by simp [Heap.upd]
theorem Heap.upd_ne (G : Heap) {i j : AId} (o : AObj) (h : j ≠ i) : G.upd i o j = G j := by simp [Heap.upd, h]
theorem Heap.upd_old (G : Heap) {i j : AId} (o : AObj) (hi : G i = none) (hj : (G j).isSome = true) : G.upd i o j = G j :=
  G.upd_ne o fun e => by subst e; simp [hi] at hj

/-- No mark on the first n cells. -/
def FzOk (fz : Nat × Nat) (n : Nat) : Prop := fz.2 ≤ fz.1 ∨ n ≤ fz.1

/-- Where a run began: its world, and the blocks that nobody may turn. -/
structure Base where
  w0 : World
  prot : Nat → Prop
  lt : ∀ b, prot b → b < w0.heap.size
  ro : AId → Option AVal
  cells : ∀ id t, ro id = some t → prot id.block ∧ ∀ j u, (flat t)[j]? = some u → id.hol = none ∧ w0.cell? ⟨id.block, id.start + j, none⟩ = some u

def ObjOk (B : Base) (w : World) (id : AId) : AObj → Prop
  | .own tree => id.start = 0 ∧ id.win = 0 ∧ ¬ B.prot id.block ∧ ∃ e fz, w.heap[id.block]? = some (.cells (flat tree).toArray e fz) ∧ FzOk fz (sz tree)
  | .ro tree => B.ro id = some tree
  | .map es => id.start = 0 ∧ id.win = 0 ∧ ¬ B.prot id.block ∧ ∃ ents clk, w.heap[id.block]? = some (.map ents clk) ∧ ents.toList.map (fun e => (e.key, e.val)) = es.map (fun p => (cv p.1, cv p.2))

structure Rel (B : Base) (G : Heap) (w : World) : Prop where
  os : w.os = B.w0.os
  tape : w.tape = B.w0.tape
  output : w.output = B.w0.output
  size : B.w0.heap.size ≤ w.heap.size
  keep : ∀ k, B.prot k → w.heap[k]? = B.w0.heap[k]?
  obj : ∀ id o, G id = some o → ObjOk B w id o

theorem ObjOk.lt {B : Base} {w : World} {id : AId} {o : AObj} (hb : B.w0.heap.size ≤ w.heap.size) (h : ObjOk B w id o) : id.block < w.heap.size := by
  cases o with
  | own tree => obtain ⟨_, _, _, e, fz, h, _⟩ := h; exact (Array.getElem?_eq_some_iff.1 h).1
  | ro tree => have := B.lt _ (B.cells _ _ h).1; omega
  | map es => obtain ⟨_, _, _, e, c, h, _⟩ := h; exact (Array.getElem?_eq_some_iff.1 h).1

/-- What keeps every old block and all of B's. -/
theorem ObjOk.keep {B : Base} {w w' : World} {id : AId} {o : AObj} (hblk : w'.heap[id.block]? = w.heap[id.block]?) (h : ObjOk B w id o) : ObjOk B w' id o := by
  cases o with
  | own tree => obtain ⟨h1, h2, h3, e, fz, h, hf⟩ := h; exact ⟨h1, h2, h3, e, fz, hblk.trans h, hf⟩
  | ro tree => exact h
  | map es => obtain ⟨h1, h2, h3, e, c, h, hf⟩ := h; exact ⟨h1, h2, h3, e, c, hblk.trans h, hf⟩

theorem Rel.drew {B : Base} {G : Heap} {w : World} (h : Rel B G w) : Rel B G w.drew :=
  ⟨h.os, h.tape, h.output, h.size, h.keep, fun id o ho => (h.obj id o ho).keep rfl⟩

theorem Rel.drawn {B : Base} {G : Heap} {w : World} (h : Rel B G w) (n : Nat) : Rel B G { w with drawn := n } :=
  ⟨h.os, h.tape, h.output, h.size, h.keep, fun id o ho => (h.obj id o ho).keep rfl⟩

/-- The name of the next block. -/
def nextId (w : World) : AId := ⟨w.heap.size, 0, 0⟩

/-- A name that no row of the heap has, nor its block. -/
def Fresh (G : Heap) (id : AId) : Prop := id.start = 0 ∧ id.win = 0 ∧ ∀ j, (G j).isSome = true → j.block ≠ id.block

theorem Fresh.none {G : Heap} {id : AId} (h : Fresh G id) : G id = .none := by
  cases hg : G id with
  | none => rfl
  | some o => exact absurd rfl (h.2.2 id (by simp [hg]))

theorem Fresh.ne {G : Heap} {id j : AId} (h : Fresh G id) (hj : (G j).isSome = true) : j ≠ id := fun e => h.2.2 j hj (by rw [e])

theorem Rel.fresh {B : Base} {G : Heap} {w : World} (h : Rel B G w) : Fresh G (nextId w) := by
  refine ⟨rfl, rfl, fun j hj => ?_⟩
  cases hg : G j with
  | none => simp [hg] at hj
  | some o => exact Nat.ne_of_lt ((h.obj _ _ hg).lt h.size)

/-- Another world, whose blocks of the heap and of the base are as they were. -/
theorem Rel.move {B : Base} {G : Heap} {w w' : World} (h : Rel B G w) (hos : w'.os = w.os) (htape : w'.tape = w.tape) (hout : w'.output = w.output) (hsize : w.heap.size ≤ w'.heap.size)
    (hk : ∀ k, B.prot k → w'.heap[k]? = w.heap[k]?) (ho : ∀ j, (G j).isSome = true → w'.heap[j.block]? = w.heap[j.block]?) : Rel B G w' :=
  ⟨hos.trans h.os, htape.trans h.tape, hout.trans h.output, Nat.le_trans h.size hsize, fun k hp => (hk k hp).trans (h.keep k hp),
    fun id o hid => (h.obj id o hid).keep (ho id (by simp [hid]))⟩

theorem Rel.alloc_any {B : Base} {G : Heap} {w : World} (h : Rel B G w) (o : Obj) : Rel B G (w.alloc o) :=
  h.move rfl rfl rfl (by simp) (fun k hk => Below.heap_alloc _ _ _ (Nat.lt_of_lt_of_le (B.lt k hk) h.size)) fun j hj => by
    cases hg : G j with
    | none => simp [hg] at hj
    | some o' => exact Below.heap_alloc _ _ _ ((h.obj _ _ hg).lt h.size)

theorem Rel.add {B : Base} {G : Heap} {w : World} (h : Rel B G w) {i : AId} {o : AObj} (ho : ObjOk B w i o) : Rel B (G.upd i o) w := by
  refine ⟨h.os, h.tape, h.output, h.size, h.keep, fun id x hx => ?_⟩
  by_cases hid : id = i
  · subst hid
    rw [Heap.upd_self] at hx
    injection hx with hx; subst hx
    exact ho
  · rw [Heap.upd_ne _ _ hid] at hx
    exact h.obj id x hx

theorem Rel.not_prot {B : Base} {G : Heap} {w : World} (h : Rel B G w) : ¬ B.prot w.heap.size := fun hp => by
  have := B.lt _ hp
  have := h.size
  omega

theorem Rel.alloc {B : Base} {G : Heap} {w : World} (h : Rel B G w) (tree : AVal) (e : TypeId) (fz : Nat × Nat) (hfz : FzOk fz (sz tree)) :
    Rel B (G.upd (nextId w) (.own tree)) (w.alloc (.cells (flat tree).toArray e fz)) :=
  (h.alloc_any _).add ⟨rfl, rfl, h.not_prot, e, fz, by show (w.heap.push _)[w.heap.size]? = _; simp, hfz⟩

theorem Rel.allocMap {B : Base} {G : Heap} {w : World} (h : Rel B G w) (n : Nat) :
    Rel B (G.upd (nextId w) (.map [])) (w.alloc (.map #[] n)) :=
  (h.alloc_any _).add ⟨rfl, rfl, h.not_prot, #[], n, by show (w.heap.push _)[w.heap.size]? = _; simp, by simp⟩

/-- Own rows of one block are one row. -/
theorem Rel.own_ne {B : Base} {G : Heap} {w : World} (h : Rel B G w) {i j : AId} {t : AVal} {o : AObj} (hi : G i = some (.own t)) (hj : G j = some o) (hne : j ≠ i) : j.block ≠ i.block := by
  intro e
  obtain ⟨a1, a2, a3, _⟩ := h.obj i _ hi
  have := h.obj j o hj
  cases o with
  | own t' => obtain ⟨b1, b2, _⟩ := this; exact hne (by cases i; cases j; simp_all)
  | ro t' => exact a3 (e ▸ (B.cells _ _ this).1)
  | map es => obtain ⟨b1, b2, _⟩ := this; exact hne (by cases i; cases j; simp_all)

theorem Rel.map_ne {B : Base} {G : Heap} {w : World} (h : Rel B G w) {i j : AId} {t : List (AVal × AVal)} {o : AObj} (hi : G i = some (.map t)) (hj : G j = some o) (hne : j ≠ i) : j.block ≠ i.block := by
  intro e
  obtain ⟨a1, a2, a3, _⟩ := h.obj i _ hi
  have := h.obj j o hj
  cases o with
  | own t' => obtain ⟨b1, b2, _⟩ := this; exact hne (by cases i; cases j; simp_all)
  | ro t' => exact a3 (e ▸ (B.cells _ _ this).1)
  | map es => obtain ⟨b1, b2, _⟩ := this; exact hne (by cases i; cases j; simp_all)

/-- A block of the call's own gets another content. -/
theorem Rel.setObj {B : Base} {G : Heap} {w w' : World} (h : Rel B G w) {i : AId} {o : AObj} (hp : ¬ B.prot i.block) (hoth : ∀ j, (G j).isSome = true → j ≠ i → j.block ≠ i.block)
    (hos : w'.os = w.os) (htape : w'.tape = w.tape) (hout : w'.output = w.output) (hsize : w'.heap.size = w.heap.size)
    (hblk : ∀ k, k ≠ i.block → w'.heap[k]? = w.heap[k]?) (hobj : ObjOk B w' i o) : Rel B (G.upd i o) w' := by
  refine ⟨hos.trans h.os, htape.trans h.tape, hout.trans h.output, by rw [hsize]; exact h.size, fun k hk => (hblk k (fun e => hp (e ▸ hk))).trans (h.keep k hk), fun id x hx => ?_⟩
  by_cases hid : id = i
  · subst hid
    rw [Heap.upd_self] at hx
    injection hx with hx; subst hx
    exact hobj
  · rw [Heap.upd_ne _ _ hid] at hx
    exact (h.obj id x hx).keep (hblk _ (hoth id (by simp [hx]) hid))

theorem Rel.setBlock {B : Base} {G : Heap} {w w' : World} (h : Rel B G w) {i : AId} {t t' : AVal} (hi : G i = some (.own t)) (hsz : sz t' = sz t)
    (hos : w'.os = w.os) (htape : w'.tape = w.tape) (hout : w'.output = w.output) (hsize : w'.heap.size = w.heap.size)
    (hoth : ∀ k, k ≠ i.block → w'.heap[k]? = w.heap[k]?)
    (hblk : ∀ e fz, w.heap[i.block]? = some (.cells (flat t).toArray e fz) → w'.heap[i.block]? = some (.cells (flat t').toArray e fz)) :
    Rel B (G.upd i (.own t')) w' := by
  obtain ⟨a1, a2, a3, e, fz, a4, a5⟩ := h.obj i _ hi
  refine h.setObj a3 (fun j hj hne => ?_) hos htape hout hsize hoth ⟨a1, a2, a3, e, fz, hblk e fz a4, by rw [hsz]; exact a5⟩
  cases hg : G j with
  | none => simp [hg] at hj
  | some o => exact h.own_ne hi hg hne

theorem Rel.setMap {B : Base} {G : Heap} {w w' : World} (h : Rel B G w) {i : AId} {t t' : List (AVal × AVal)} (hi : G i = some (.map t))
    (hos : w'.os = w.os) (htape : w'.tape = w.tape) (hout : w'.output = w.output) (hsize : w'.heap.size = w.heap.size)
    (hoth : ∀ k, k ≠ i.block → w'.heap[k]? = w.heap[k]?)
    (hblk : ∃ ents clk, w'.heap[i.block]? = some (.map ents clk) ∧ ents.toList.map (fun e => (e.key, e.val)) = t'.map (fun p => (cv p.1, cv p.2))) :
    Rel B (G.upd i (.map t')) w' := by
  obtain ⟨a1, a2, a3, _⟩ := h.obj i _ hi
  refine h.setObj a3 (fun j hj hne => ?_) hos htape hout hsize hoth ⟨a1, a2, a3, hblk⟩
  cases hg : G j with
  | none => simp [hg] at hj
  | some o => exact h.map_ne hi hg hne

/-! ### Smaller heaps, and what a call leaves alone -/

/-- G1 has no row that G has not. -/
def Heap.le (G1 G : Heap) : Prop := ∀ id o, G1 id = some o → G id = some o

theorem Rel.weaken {B : Base} {G1 G : Heap} {w : World} (h : Rel B G w) (hle : G1.le G) : Rel B G1 w :=
  ⟨h.os, h.tape, h.output, h.size, h.keep, fun id o ho => h.obj id o (hle id o ho)⟩

/-- What is no row of G's own may not be turned. -/
def ownBase (G : Heap) (w : World) (hro : ∀ id t, G id = some (.ro t) → (id.block < w.heap.size ∧ ∀ j x, G j = some x → (∀ t, x ≠ .ro t) → j.block ≠ id.block) ∧
    ∀ j u, (flat t)[j]? = some u → id.hol = none ∧ w.cell? ⟨id.block, id.start + j, none⟩ = some u) : Base where
  w0 := w
  prot := fun b => b < w.heap.size ∧ ∀ id o, G id = some o → (∀ t, o ≠ .ro t) → id.block ≠ b
  lt := fun _ h => h.1
  ro := fun id => match G id with
    | some (.ro t) => some t
    | _ => none
  cells := fun id t h => by
    split at h
    · rename_i t' ht
      injection h with h; subst h
      exact hro id t' ht
    · cases h

theorem Rel.roCells {B : Base} {G : Heap} {w : World} (h : Rel B G w) : ∀ id t, G id = some (.ro t) → (id.block < w.heap.size ∧ ∀ j x, G j = some x → (∀ t, x ≠ .ro t) → j.block ≠ id.block) ∧
    ∀ j u, (flat t)[j]? = some u → id.hol = none ∧ w.cell? ⟨id.block, id.start + j, none⟩ = some u := by
  intro id t ht
  have hr : B.ro id = some t := h.obj id _ ht
  obtain ⟨hp, hc⟩ := B.cells _ _ hr
  refine ⟨⟨(h.obj id _ ht).lt h.size, fun j x hj hx e => ?_⟩, fun j u hj => ⟨(hc j u hj).1, (World.cell?_of_block (w := B.w0) (a := ⟨id.block, id.start + j, none⟩) (h.keep _ hp)).trans (hc j u hj).2⟩⟩
  have hj' := h.obj j x hj
  cases x with
  | own t' => obtain ⟨_, _, b3, _⟩ := hj'; exact b3 (e ▸ hp)
  | map t' => obtain ⟨_, _, b3, _⟩ := hj'; exact b3 (e ▸ hp)
  | ro t' => exact hx t' rfl

theorem Rel.ownBase {B : Base} {G : Heap} {w : World} (h : Rel B G w) : Rel (ownBase G w h.roCells) G w := by
  refine ⟨rfl, rfl, rfl, Nat.le_refl _, fun _ _ => rfl, fun id o ho => ?_⟩
  have hok := h.obj id o ho
  cases o with
  | own t => obtain ⟨a1, a2, a3, a4⟩ := hok; exact ⟨a1, a2, fun hp => hp.2 id _ ho (by simp) rfl, a4⟩
  | map t => obtain ⟨a1, a2, a3, a4⟩ := hok; exact ⟨a1, a2, fun hp => hp.2 id _ ho (by simp) rfl, a4⟩
  | ro t =>
    show (match G id with | some (.ro t) => some t | _ => none) = some t
    rw [ho]

/-- The heap behind a call that was told of G1 alone: what it was not told of is as it was. -/
def Heap.merge (G G1 G1' : Heap) : Heap := fun id => if (G1 id).isSome = true then G1' id else if (G id).isSome = true then G id else G1' id

theorem Rel.merge {B : Base} {G G1 G1' : Heap} {w w' : World} (h : Rel B G w) (hle : G1.le G) (h' : Rel (Esc.ownBase G1 w (h.weaken hle).roCells) G1' w') : Rel B (G.merge G1 G1') w' := by
  have nown : ∀ k, B.prot k → (Esc.ownBase G1 w (h.weaken hle).roCells).prot k := fun k hk => by
    refine ⟨Nat.lt_of_lt_of_le (B.lt k hk) h.size, fun id o ho hx e => ?_⟩
    have := h.obj id o (hle id o ho)
    cases o with
    | own t => obtain ⟨_, _, b, _⟩ := this; exact b (e ▸ hk)
    | map t => obtain ⟨_, _, b, _⟩ := this; exact b (e ▸ hk)
    | ro t => exact hx t rfl
  refine ⟨h'.os.trans h.os, h'.tape.trans h.tape, h'.output.trans h.output, Nat.le_trans h.size h'.size, fun k hk => (h'.keep k (nown k hk)).trans (h.keep k hk), fun id o ho => ?_⟩
  have mine : ∀ o, G1' id = some o → ObjOk B w' id o := by
    intro o ho
    have hok := h'.obj id o ho
    cases o with
    | own t => obtain ⟨a1, a2, a3, a4⟩ := hok; exact ⟨a1, a2, fun hp => a3 (nown _ hp), a4⟩
    | map t => obtain ⟨a1, a2, a3, a4⟩ := hok; exact ⟨a1, a2, fun hp => a3 (nown _ hp), a4⟩
    | ro t =>
      have h1 : (match G1 id with | some (.ro t) => some t | _ => none) = some t := hok
      split at h1
      · rename_i t' ht
        injection h1 with h1; subst h1
        exact h.obj id _ (hle id _ ht)
      · cases h1
  unfold Heap.merge at ho
  split at ho
  · exact mine o ho
  · rename_i hn
    split at ho
    · have hok := h.obj id o ho
      have hlt := hok.lt h.size
      refine hok.keep (h'.keep id.block ⟨hlt, fun j x hj hx e => ?_⟩)
      have hj' := hle j x hj
      have hne : j ≠ id := fun e' => hn (by rw [← e', hj]; rfl)
      cases x with
      | own t => exact h.own_ne hj' ho (Ne.symm hne) e.symm
      | map t => exact h.map_ne hj' ho (Ne.symm hne) e.symm
      | ro t => exact hx t rfl
    · exact mine o ho

end Go.Esc
