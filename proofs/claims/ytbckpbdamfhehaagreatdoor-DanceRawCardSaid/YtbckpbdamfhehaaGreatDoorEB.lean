/- Own work. The abstract machine's operations on tree values and its heap, and that the model's operations do the same. First part: types, loads, stores. -/
import Derived.Test.YtbckpbdamfhehaaGreatDoorEA
import Derived.Deep.MidRow
import Derived.Deep.AppendSrc
set_option linter.unusedSimpArgs false
set_option linter.unusedVariables false
namespace Go.Esc
open Go Go.RowKit

inductive ADesc where
  | int (k : IntKind)
  | bool
  | string
  | pointer (e : TypeId)
  | slice (e : TypeId)
  | array (n : Nat) (e : TypeId)
  | struct (fs : List (TypeId × Nat))
  | map (k e : TypeId)
  | func
  | iface
  | other
  deriving DecidableEq

def descOf : TypeDesc → ADesc
  | .int k => .int k
  | .bool => .bool
  | .string => .string
  | .pointer e => .pointer e
  | .slice e => .slice e
  | .array n e => .array n e
  | .struct fs => .struct (fs.toList.map fun f => (f.type, f.offset))
  | .map k e => .map k e
  | .func _ _ _ => .func
  | .interface _ => .iface
  | _ => .other

def ADesc.isAgg : ADesc → Bool
  | .struct _ | .array _ _ => true
  | _ => false

def blankField (P : Program) (t : TypeId) : Bool :=
  match P.underlying t with
  | some (.struct fs) => fs.toList.any fun f => f.name == "_"
  | _ => false

/-- A type of the table: what it is, its cells, its bytes, its zero. -/
structure TI where
  desc : ADesc
  size : Nat
  bytes : Nat
  zero : AVal

abbrev Tbl := TypeId → Option TI

structure TyOk (P : Program) (t : TypeId) (i : TI) : Prop where
  info : ∃ inf, P.info? t = some inf ∧ inf.size = i.size ∧ inf.bytes = i.bytes ∧ inf.zero = some (cv i.zero)
  und : ∃ d, P.underlying t = some d ∧ descOf d = i.desc
  agg : i.desc.isAgg = true → P.eqGuardType P.depth t = false ∧ P.stoodInHeld t = false ∧ blankField P t = false
  zsz : sz i.zero = i.size

def TblOk (P : Program) (T : Tbl) : Prop := ∀ t i, T t = some i → TyOk P t i

theorem TyOk.mk' {P : Program} {t : TypeId} {i : TI}
    (h1 : (P.info? t).map (fun x => (x.size, x.bytes, x.zero)) = some (i.size, i.bytes, some (cv i.zero)))
    (h2 : (P.underlying t).map descOf = some i.desc)
    (h3 : (!i.desc.isAgg || (!P.eqGuardType P.depth t && !P.stoodInHeld t && !blankField P t)) = true)
    (h4 : sz i.zero = i.size) : TyOk P t i := by
  refine ⟨?_, ?_, fun h => ?_, h4⟩
  · cases h : P.info? t with
    | none => rw [h] at h1; cases h1
    | some inf =>
      rw [h] at h1
      simp only [Option.map_some, Option.some.injEq, Prod.mk.injEq] at h1
      exact ⟨inf, rfl, h1.1, h1.2.1, h1.2.2⟩
  · cases h : P.underlying t with
    | none => rw [h] at h2; cases h2
    | some d => rw [h] at h2; exact ⟨d, rfl, by simpa using h2⟩
  · rw [h] at h3; simpa [and_assoc] using h3

section
variable {P : Program} {T : Tbl}

theorem TyOk.run_sizeOf {t : TypeId} {i : TI} (h : TyOk P t i) (w : World) : (sizeOf t).run P w = .ok i.size w := by
  obtain ⟨inf, h1, h2, _⟩ := h.info
  simp [sizeOf, typeInfo, h1, h2]
theorem TyOk.run_typeInfo {t : TypeId} {i : TI} (h : TyOk P t i) : ∃ inf, inf.size = i.size ∧ inf.bytes = i.bytes ∧ ∀ w, (typeInfo t).run P w = .ok inf w := by
  obtain ⟨inf, h1, h2, h3, _⟩ := h.info
  exact ⟨inf, h2, h3, fun w => by simp [typeInfo, h1]⟩
theorem TyOk.run_zero {t : TypeId} {i : TI} (h : TyOk P t i) (w : World) : (zeroValue t).run P w = .ok (cv i.zero) w := by
  obtain ⟨inf, h1, _, _, h4⟩ := h.info
  simp [zeroValue, typeInfo, h1, h4]
theorem TyOk.run_isAgg {t : TypeId} {i : TI} (h : TyOk P t i) (w : World) : (isAgg t).run P w = .ok i.desc.isAgg w := by
  obtain ⟨d, h1, h2⟩ := h.und
  unfold isAgg
  rw [Sem.run_bind, run_underlying h1 w, ← h2]
  cases d <;> simp [descOf, ADesc.isAgg]
end


/-! ### Loads and stores -/

def treeOf : AObj → Option AVal
  | .own t => some t
  | .ro t => some t
  | .map _ => none

theorem Rel.cell {B : Base} {G : Heap} {w : World} (hr : Rel B G w) {id : AId} {o : AObj} {tr : AVal} (h : G id = some o) (ht : treeOf o = some tr) (j : Nat) (u : Value) (hj : (flat tr)[j]? = some u) :
    w.cell? ⟨id.block, id.start + j, none⟩ = some u := by
  cases o with
  | own t =>
    injection ht with ht; subst ht
    obtain ⟨h0, _, _, e, fz, hb, _⟩ := hr.obj _ _ h
    simp [World.cell?, hb, h0, hj]
  | ro t =>
    injection ht with ht; subst ht
    exact ((hr.roCells id t h).2 j u hj).2
  | map es => cases ht

theorem Rel.hol {B : Base} {G : Heap} {w : World} (hr : Rel B G w) {id : AId} {o : AObj} {tr : AVal} (h : G id = some o) (ht : treeOf o = some tr) {j : Nat} {u : Value} (hj : (flat tr)[j]? = some u) : id.hol = none := by
  cases o with
  | own t => exact AId.hol_0 (hr.obj _ _ h).2.1
  | ro t =>
    injection ht with ht; subst ht
    exact ((hr.roCells id t h).2 j u hj).1
  | map es => cases ht

def vfits (i : TI) (v : AVal) : Bool := (i.desc.isAgg == v.isAgg) && (sz v == i.size)

/-- The part of memory at an address. -/
def vsub (G : Heap) : AVal → Option AVal
  | .ptr id p off => match G id with
    | some o => match treeOf o with
      | some tr => sub p tr off
      | none => none
    | none => none
  | _ => none

def vload (T : Tbl) (G : Heap) (t : TypeId) (a : AVal) : Option AVal :=
  match vsub G a with
  | some v => match T t with
    | some i => if vfits i v = true then some v else none
    | none => none
  | none => none

theorem Addr.add_none (b o j : Nat) : (⟨b, o, none⟩ : Addr).add j = ⟨b, o + j, none⟩ := Addr.add_mid b o j

/-- The cells of a part of memory. -/
theorem vsub_cells {B : Base} {G : Heap} {w : World} (hr : Rel B G w) {id : AId} {p : List Nat} {off : Nat} {v : AVal} (h : vsub G (.ptr id p off) = some v) :
    w.rangeAt id.block (id.start + off) (flat v) := by
  simp only [vsub] at h
  split at h
  · rename_i o ho
    split at h
    · rename_i tr ht
      obtain ⟨l, r, h1, h2, _⟩ := sub_spec _ _ _ _ h
      intro j u hj
      have := hr.cell ho ht (off + j) u (by
        rw [h1, List.append_assoc, List.getElem?_append_right (by omega), h2, Nat.add_sub_cancel_left, List.getElem?_append_left (List.getElem?_eq_some_iff.1 hj).1]
        exact hj)
      rwa [← Nat.add_assoc] at this
    · cases h
  · cases h

theorem vsub_hol {B : Base} {G : Heap} {w : World} (hr : Rel B G w) {id : AId} {p : List Nat} {off : Nat} {v : AVal} (h : vsub G (.ptr id p off) = some v) {j : Nat} {u : Value} (hj : (flat v)[j]? = some u) : id.hol = none := by
  simp only [vsub] at h
  split at h
  · rename_i o ho
    split at h
    · rename_i tr ht
      obtain ⟨l, r, h1, h2, _⟩ := sub_spec _ _ _ _ h
      refine hr.hol ho ht (j := off + j) (u := u) ?_
      rw [h1, List.append_assoc, List.getElem?_append_right (by omega), h2, Nat.add_sub_cancel_left, List.getElem?_append_left (List.getElem?_eq_some_iff.1 hj).1]
      exact hj
    · cases h
  · cases h
theorem vsub_at {B : Base} {G : Heap} {w : World} (hr : Rel B G w) {id : AId} {p : List Nat} {off : Nat} {v : AVal} (h : vsub G (.ptr id p off) = some v) (j : Nat) (u : Value) (hj : (flat v)[j]? = some u) : w.cell? ((id.addr off).add j) = some u := by
  have := vsub_cells hr h j u hj
  rw [AId.addr_add, AId.addr_of (vsub_hol hr h hj), ← Nat.add_assoc]
  exact this

theorem vload_sound {P : Program} {T : Tbl} (hT : TblOk P T) {B : Base} {G : Heap} {w : World} (hr : Rel B G w) {t : TypeId} {a v : AVal} (h : vload T G t a = some v) :
    (Instr.loadAt t (cv a)).run P w = .ok (cv v) w := by
  unfold vload at h
  split at h
  · rename_i v' hs
    split at h
    · rename_i i hi
      split at h
      · rename_i hf
        injection h with h; subst h
        have hty := hT t i hi
        cases a with
        | ptr id p off =>
          have hc := vsub_cells hr hs
          simp only [vfits, Bool.and_eq_true, beq_iff_eq] at hf
          obtain ⟨hagg, hsz⟩ := hf
          simp only [cv, Instr.loadAt, Instr.sureAddr, Sem.run_bind, Sem.run_pure, Result.andThen_ok, loadVar, hty.run_isAgg, Sem.run_ite]
          split
          · rename_i hg
            have hl : (loadCells (id.addr off) (flat v').length).run P w = .ok (flat v').toArray w :=
              run_loadCells_list w _ (flat v') fun j u hj => vsub_at hr hs j u hj
            rw [length_flat, hsz] at hl
            simp only [hty.run_sizeOf, Result.andThen_ok, hl]
            rw [hagg] at hg
            cases v' with
            | agg cs => rw [flat_agg]; simp [cv]
            | _ => simp [AVal.isAgg] at hg
          · rename_i hg
            have hl : v'.isAgg = false := by rw [← hagg]; simpa using hg
            have := vsub_at hr hs 0 (cv v') (by rw [flat_leaf hl]; rfl)
            rw [show (id.addr off).add 0 = id.addr off from if_pos rfl] at this
            rw [run_load, this]
        | _ => simp [vsub] at hs
      · cases h
    · cases h
  · cases h

mutual
theorem okv_cells : ∀ v : AVal, okv v = true → ∀ u ∈ flat v, u.oneCell' = true
  | .agg cs, h, u, hu => by
    rw [flat_agg] at hu
    simp only [okv] at h
    exact okvs_cells cs h u hu
  | .tuple _, h, _, _ => by simp [okv] at h
  | .int _ _, _, u, hu => by simp [flat, cv, Value.cells] at hu; subst hu; rfl
  | .bool _, _, u, hu => by simp [flat, cv, Value.cells] at hu; subst hu; rfl
  | .str _, _, u, hu => by simp [flat, cv, Value.cells] at hu; subst hu; rfl
  | .ptr _ _ _, _, u, hu => by simp [flat, cv, Value.cells] at hu; subst hu; rfl
  | .nilPtr, _, u, hu => by simp [flat, cv, Value.cells] at hu; subst hu; rfl
  | .slice _ _ _ _ _ _, _, u, hu => by simp [flat, cv, Value.cells] at hu; subst hu; rfl
  | .nilSlice, _, u, hu => by simp [flat, cv, Value.cells] at hu; subst hu; rfl
  | .map _, _, u, hu => by simp [flat, cv, Value.cells] at hu; subst hu; rfl
  | .nilMap, _, u, hu => by simp [flat, cv, Value.cells] at hu; subst hu; rfl
  | .func _ _ _, _, u, hu => by simp [flat, cv, Value.cells] at hu; subst hu; rfl
  | .nilFunc, _, u, hu => by simp [flat, cv, Value.cells] at hu; subst hu; rfl
  | .iface _ _, _, u, hu => by simp [flat, cv, Value.cells] at hu; subst hu; rfl
  | .nilIface, _, u, hu => by simp [flat, cv, Value.cells] at hu; subst hu; rfl
theorem okvs_cells : ∀ vs : List AVal, okvs vs = true → ∀ u ∈ flats vs, u.oneCell' = true
  | [], _, u, hu => by simp [flats] at hu
  | v :: vs, h, u, hu => by
    simp only [okvs, Bool.and_eq_true] at h
    rw [flats_cons] at hu
    rcases List.mem_append.1 hu with hu | hu
    · exact okv_cells v h.1 u hu
    · exact okvs_cells vs h.2 u hu
end

/-- The heap behind a write of parts of an own row's cells. -/
theorem Rel.setCells {B : Base} {G : Heap} {w : World} (hr : Rel B G w) {id : AId} {tr tr' : AVal} (hid : G id = some (.own tr)) {l m r m' : List Value}
    (h1 : flat tr = l ++ m ++ r) (h2 : flat tr' = l ++ m' ++ r) (hm : m'.length = m.length) :
    Rel B (G.upd id (.own tr')) (w.setCells id.block l.length m') ∧
    (∀ j, j < m'.length → (w.cell? ⟨id.block, l.length + j, none⟩).isSome = true) ∧ (∀ j, j < m'.length → w.frozen? ⟨id.block, l.length + j, none⟩ = false) := by
  obtain ⟨_, _, hB, e, fz, hb, hz⟩ := hr.obj id _ hid
  have hlen : (flat tr).length = (flat tr').length := by rw [h1, h2]; simp [hm]
  have hsz : sz tr' = sz tr := by rw [← length_flat, ← length_flat, hlen]
  have aux : ∀ (vs : List Value) (o : Nat) (w : World) (c : Array Value), w.heap[id.block]? = some (.cells c e fz) → o + vs.length ≤ c.size →
      (w.setCells id.block o vs).os = w.os ∧ (w.setCells id.block o vs).tape = w.tape ∧ (w.setCells id.block o vs).output = w.output ∧
      (w.setCells id.block o vs).heap.size = w.heap.size ∧ (∀ k, k ≠ id.block → (w.setCells id.block o vs).heap[k]? = w.heap[k]?) ∧
      (w.setCells id.block o vs).heap[id.block]? = some (.cells (c.toList.take o ++ vs ++ c.toList.drop (o + vs.length)).toArray e fz) := by
    intro vs
    induction vs with
    | nil =>
      intro o w c hb _
      refine ⟨rfl, rfl, rfl, rfl, fun _ _ => rfl, ?_⟩
      simp [World.setCells, hb]
    | cons v vs ih =>
      intro o w c hb ho
      simp only [List.length_cons] at ho
      have hb' : (w.setCell ⟨id.block, o, none⟩ v).heap[id.block]? = some (.cells (c.setIfInBounds o v) e fz) := by
        simp only [World.setCell, Array.getElem?_modify, if_true, hb, Option.map_some]
        simp
      obtain ⟨a1, a2, a3, a4, a5, a6⟩ := ih (o + 1) (w.setCell ⟨id.block, o, none⟩ v) _ hb' (by simp; omega)
      simp only [World.setCells]
      refine ⟨a1, a2, a3, a4.trans (by simp), fun k hk => (a5 k hk).trans (Below.heap_setCell _ _ _ _ hk), ?_⟩
      rw [a6]
      congr 3
      have ho' : o < c.toList.length := by simp; omega
      simp only [Array.toList_setIfInBounds]
      rw [List.set_eq_take_append_cons_drop, if_pos ho', List.take_append, List.drop_append]
      simp only [List.length_take, List.length_cons]
      rw [show min o c.toList.length = o by omega, List.take_of_length_le (by rw [List.length_take]; omega), show o + 1 - o = 1 by omega]
      rw [List.drop_eq_nil_of_le (as := List.take o c.toList) (by simp; omega), show o + 1 + vs.length - o = vs.length + 1 by omega]
      simp only [List.take_succ_cons, List.take_zero, List.drop_succ_cons, List.drop_drop, List.nil_append, List.append_assoc, List.cons_append]
      rw [show o + 1 + vs.length = o + (vs.length + 1) by omega]
  have hc : l.length + m'.length ≤ (flat tr).toArray.size := by simp [h1, hm]
  obtain ⟨a1, a2, a3, a4, a5, a6⟩ := aux m' l.length w _ hb hc
  refine ⟨hr.setBlock hid hsz a1 a2 a3 a4 a5 fun e' fz' he' => ?_, fun j hj => ?_, fun j hj => ?_⟩
  · rw [hb] at he'
    injection he' with he'
    injection he' with _ he2 he3
    subst he2; subst he3
    rw [a6]
    congr 3
    simp only [h1, h2]
    simp [hm]
  · have : l.length + j < (flat tr).length := by rw [h1]; simp; omega
    simp [World.cell?, hb, this]
  · have : l.length + j < sz tr := by rw [← length_flat, h1]; simp; omega
    simp only [World.frozen?, hb]
    rcases hz with hz | hz
    · simp; omega
    · simp; omega

def vstore (T : Tbl) (G : Heap) (t : TypeId) (a v : AVal) : Option Heap :=
  match a with
  | .ptr id p off => match G id with
    | some (.own tr) => match sub p tr off with
      | some u => match T t with
        | some i => if (vfits i v && (sz u == sz v) && okv v) = true then some (G.upd id (.own (putAt p tr v))) else none
        | none => none
      | none => none
    | _ => none
  | _ => none

theorem flat_length_cells (v : AVal) : (cv v).cells.size = sz v := by rw [← length_flat]; simp [flat]

theorem vstore_sound {P : Program} {T : Tbl} (hT : TblOk P T) {B : Base} {G G' : Heap} {w : World} (hr : Rel B G w) {t : TypeId} {a v : AVal} (h : vstore T G t a v = some G') :
    ∃ w', (Instr.storeAt t (cv a) (cv v)).run P w = .ok () w' ∧ Rel B G' w' := by
  unfold vstore at h
  split at h
  · rename_i id p off
    split at h
    · rename_i tr hid
      split at h
      · rename_i u hu
        split at h
        · rename_i i hi
          split at h
          · rename_i hc
            injection h with h; subst h
            simp only [vfits, Bool.and_eq_true, beq_iff_eq] at hc
            obtain ⟨⟨⟨hagg, hsz⟩, huv⟩, hok⟩ := hc
            have hty := hT t i hi
            obtain ⟨l, r, e1, e2, e3⟩ := sub_spec _ _ _ _ hu
            have e3' := e3 v huv.symm
            have hlen : (flat v).length = (flat u).length := by rw [length_flat, length_flat, huv]
            obtain ⟨k1, k2, k3⟩ := hr.setCells hid e1 e3' hlen
            refine ⟨_, ?_, k1⟩
            obtain ⟨h0, h0w, _⟩ := hr.obj id _ hid
            have hst := run_storeCells_cells (P := P) id.block l.length (flat v) 0 w (by simpa using k2) (by simpa using k3) (okv_cells v hok)
            simp only [Nat.add_zero] at hst
            simp only [cv, Instr.storeAt, Instr.sureAddr, Sem.run_bind, Sem.run_pure, Result.andThen_ok, storeVar, hty.run_sizeOf, flat_length_cells, hsz, ne_eq, not_true_eq_false, if_false, Sem.run_ite]
            rw [AId.addr_of (AId.hol_0 h0w), h0, Nat.zero_add, ← e2]
            exact hst
          · cases h
        · cases h
      · cases h
    · cases h
  · cases h

end Go.Esc
