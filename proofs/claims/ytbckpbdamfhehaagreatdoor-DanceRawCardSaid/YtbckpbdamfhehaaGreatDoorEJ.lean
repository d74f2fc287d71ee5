/- Own work. The operations that make memory, change it, or call: the model's do the same. -/
import Derived.Test.YtbckpbdamfhehaaGreatDoorEI
set_option linter.unusedSimpArgs false
set_option linter.unusedVariables false
namespace Go.Esc
open Go Go.RowKit

theorem flats_replicate (z : AVal) : ∀ n, flats (List.replicate n z) = (List.range (n * sz z)).map fun i => (cv z).cells[i % sz z]!
  | 0 => by simp [flats]
  | n + 1 => by
    have hsz : (cv z).cells.size = sz z := flat_length_cells z
    rw [List.replicate_succ', flats_append, flats_cons, flats_nil, List.append_nil, flats_replicate z n, Nat.succ_mul, List.range_add, List.map_append, List.map_map]
    congr 1
    apply List.ext_getElem?
    intro j
    by_cases hj : j < sz z
    · have h1 : j < (flat z).length := by rw [length_flat]; exact hj
      rw [List.getElem?_map, List.getElem?_range hj, List.getElem?_eq_getElem h1]
      simp only [Option.map_some, Function.comp]
      rw [Nat.mul_comm n, Nat.mul_add_mod, Nat.mod_eq_of_lt hj]
      rw [getElem!_pos _ _ (by omega)]
      simp [flat]
    · rw [List.getElem?_eq_none (by rw [length_flat]; omega), List.getElem?_eq_none (by simp; omega)]

theorem zeroCells_eq (z : AVal) (n : Nat) : Builtin.zeroCells (cv z).cells n = (flats (List.replicate n z)).toArray := by
  apply Array.ext'
  rw [flats_replicate]
  simp [Builtin.zeroCells, flat_length_cells]

theorem madeCells_eq (z : AVal) (n s : Nat) (hs : s = sz z) : madeCells (cv z).cells (n * s) = (flats (List.replicate n z)).toArray := by
  subst hs
  apply Array.ext'
  rw [flats_replicate]
  simp [madeCells, flat_length_cells]

theorem rangeCells_eq (z : AVal) (n s : Nat) (hs : s = sz z) : (Array.range (n * s)).map (fun i => (cv z).cells[i % (cv z).cells.size]!) = (flats (List.replicate n z)).toArray :=
  madeCells_eq z n s hs

theorem FzOk.zero (n : Nat) : FzOk (0, 0) n := .inl (Nat.le_refl _)

section
variable {cx : Cx} (hcx : CxOk cx) {B : Base} {G : Heap} {w : World} (hr : Rel B G w) {env : Env} {a : Act} (he : EnvOk env a.tmps)

/-- What the rest asks of the value and the heap. -/
def Nexts (B : Base) (a : Act) (dst : Option Nat) (next : Act → World → Prop) (K : Option AVal → Heap → Prop) : Prop :=
  ∀ v G' u w', Rel B G' w' → (∀ x, v = some x → u = cv x) → K v G' → next (a.put dst u) w'

theorem upon_ok {o : Oper} {next : Act → World → Prop} {Q : Exit → Act → World → Prop} {u : Value} {w' : World} (h : (execOp a.eval o).run cx.P w = .ok (.value u) w') (hn : next (a.put o.dst u) w') : o.wp cx.P a w next Q := by
  unfold Oper.wp; rw [h]; exact hn
theorem upon_skip {o : Oper} {next : Act → World → Prop} {Q : Exit → Act → World → Prop} {w' : World} (h : (execOp a.eval o).run cx.P w = .ok .skip w') (hn : next (a.put o.dst undef) w') : o.wp cx.P a w next Q := by
  unfold Oper.wp; rw [h]; exact hn

theorem run_newVar (t : TypeId) (v : AVal) : (newVar t (cv v)).run cx.P w = .ok ⟨w.heap.size, 0, none⟩ (w.alloc (.cells (flat v).toArray t)) := by
  simp [newVar, newRow, flat]

theorem cv_ptr_next (w : World) : cv (.ptr (nextId w) [] 0) = .pointer (some ⟨w.heap.size, 0, none⟩) := by simp [cv, nextId, AId.addr_of (id := ⟨w.heap.size, 0, 0⟩) rfl]
theorem cv_slice_next (w : World) (n c : Nat) : cv (.slice (nextId w) [] 0 0 n c) = .slice (some ⟨w.heap.size, 0, none⟩) n c := by simp [cv, nextId, AId.addr_of (id := ⟨w.heap.size, 0, 0⟩) rfl]

include hr in
theorem alloc_sound {next : Act → World → Prop} {K : Option AVal → Heap → Prop} {dst : Option Nat} (hn : Nexts B a dst next K) {tr : AVal} (t : TypeId) (h : ∀ id, Fresh G id → K (some (.ptr id [] 0)) (G.upd id (.own tr))) :
    next (a.put dst (.pointer (some ⟨w.heap.size, 0, none⟩))) (w.alloc (.cells (flat tr).toArray t)) :=
  hn _ _ _ _ (hr.alloc tr t (0, 0) (FzOk.zero _)) (fun x hx => by injection hx with hx; subst hx; exact (cv_ptr_next w).symm) (h _ hr.fresh)

include hr in
theorem allocSlice_sound {next : Act → World → Prop} {K : Option AVal → Heap → Prop} {dst : Option Nat} (hn : Nexts B a dst next K) {cs : List AVal} (t : TypeId) (n c : Nat) (h : ∀ id, Fresh G id → K (some (.slice id [] 0 0 n c)) (G.upd id (.own (.agg cs)))) :
    next (a.put dst (.slice (some ⟨w.heap.size, 0, none⟩) n c)) (w.alloc (.cells (flats cs).toArray t)) := by
  have := hr.alloc (.agg cs) t (0, 0) (FzOk.zero _)
  rw [flat_agg] at this
  exact hn _ _ _ _ this (fun x hx => by injection hx with hx; subst hx; exact (cv_slice_next w n c).symm) (h _ hr.fresh)

end

section
variable {P : Program} {T : Tbl} (hT : TblOk P T) {B : Base} {G : Heap} {w : World} (hr : Rel B G w)

theorem putArr_sound (hr : Rel B G w) {id : AId} {p : List Nat} {n st off : Nat} {cs cs' : List AVal} {G' : Heap} (ha : arrAt G n id p st off = some cs) (hp : putArr G id p n st off cs' = some G')
    {k m : Nat} {vs : List AVal} (hk : st + k + m ≤ cs.length) (hcs : cs' = cs.take (st + k) ++ vs ++ cs.drop (st + k + m)) (hv : vs.length = m) (hu : uni n vs = true) :
    Rel B G' (w.setCells id.block (id.start + (off + k * n)) (flats vs)) ∧ (∀ j, j < (flats vs).length → (w.cell? ⟨id.block, id.start + (off + k * n) + j, none⟩).isSome = true) ∧
      (∀ j, j < (flats vs).length → w.frozen? ⟨id.block, id.start + (off + k * n) + j, none⟩ = false) := by
  unfold putArr at hp
  split at hp
  · rename_i tr htr
    split at hp
    · rename_i u hu'
      injection hp with hp; subst hp
      unfold arrAt at ha
      split at ha
      · rename_i cs0 hs
        split at ha
        · rename_i hc
          injection ha with ha; subst ha
          simp only [vsub, htr, treeOf] at hs
          rw [hu'] at hs
          injection hs with hs; subst hs
          simp only [Bool.and_eq_true, decide_eq_true_eq] at hc
          obtain ⟨l, r, e1, e2, e3⟩ := sub_spec _ _ _ _ hu'
          have huv : szs vs = m * n := by rw [szs_uni hu, hv]
          have hmid : szs ((cs0.drop (st + k)).take m) = m * n := by
            rw [szs_uni (uni_take (uni_drop hc.2 _) _), List.length_take, List.length_drop, Nat.min_eq_left (by omega)]
          have hsplit : cs0 = cs0.take (st + k) ++ (cs0.drop (st + k)).take m ++ cs0.drop (st + k + m) := by
            have e4 := List.take_append_drop m (cs0.drop (st + k))
            rw [List.drop_drop] at e4
            rw [List.append_assoc, e4, List.take_append_drop]
          have hsz : sz (.agg cs') = sz (.agg cs0) := by
            rw [sz_agg, sz_agg, hcs]
            conv => rhs; rw [hsplit]
            simp only [szs_append]
            rw [huv, hmid]
          have e3' := e3 (.agg cs') hsz
          have e5 : flats cs' = flats (cs0.take (st + k)) ++ flats vs ++ flats (cs0.drop (st + k + m)) := by rw [hcs, flats_append, flats_append]
          have e6 : flats cs0 = flats (cs0.take (st + k)) ++ flats ((cs0.drop (st + k)).take m) ++ flats (cs0.drop (st + k + m)) := by
            conv => lhs; rw [hsplit]
            rw [flats_append, flats_append]
          rw [flat_agg, e5] at e3'
          rw [flat_agg, e6] at e1
          have hpre : (flats (cs0.take (st + k))).length = (st + k) * n := by
            rw [length_flats, szs_uni (uni_take hc.2 _), List.length_take, Nat.min_eq_left (by omega)]
          have key := hr.setCells htr (l := l ++ flats (cs0.take (st + k))) (m := flats ((cs0.drop (st + k)).take m)) (r := flats (cs0.drop (st + k + m)) ++ r) (m' := flats vs) (tr' := putAt p tr (.agg cs'))
            (by rw [e1]; simp [List.append_assoc]) (by rw [e3']; simp [List.append_assoc]) (by rw [length_flats, length_flats, huv, hmid])
          have hlen : (l ++ flats (cs0.take (st + k))).length = id.start + (off + k * n) := by
            obtain ⟨h0, _⟩ := hr.obj id _ htr
            have := hc.1
            rw [List.length_append, hpre, e2, h0, Nat.add_mul]
            omega
          rw [hlen] at key
          exact key
        · cases ha
      · cases ha
    · cases hp
  · cases hp

theorem setCells_nil (w : World) (b o : Nat) : w.setCells b o [] = w := rfl

theorem flats_eq_nil {n : Nat} {vs : List AVal} (h : vs = []) : flats vs = [] := by subst h; simp [flats]

/-- Elements laid into an array: what the cells and the heap are then. -/
theorem lay_sound (hr : Rel B G w) {i : TI} {id : AId} {p : List Nat} {st off at_ : Nat} {vs : List AVal} {K : Heap → Prop} (h : lay i G id p st off at_ vs K) :
    ∃ G', Rel B G' (w.setCells id.block (id.start + (off + at_ * i.size)) (flats vs)) ∧ K G' ∧ (∀ j, j < (flats vs).length → (w.cell? ⟨id.block, id.start + (off + at_ * i.size) + j, none⟩).isSome = true) ∧
      (∀ j, j < (flats vs).length → w.frozen? ⟨id.block, id.start + (off + at_ * i.size) + j, none⟩ = false) ∧ ∀ u ∈ flats vs, u.oneCell' = true := by
  unfold lay at h
  split at h
  · exact ⟨G, by simpa [flats, setCells_nil] using hr, h, by simp [flats], by simp [flats], by simp [flats]⟩
  · rename_i v vs
    split at h
    · rename_i cs hcs
      obtain ⟨h1, h2, h3, h4⟩ := h
      split at h4
      · rename_i G' hG
        obtain ⟨k1, k2, k3⟩ := putArr_sound hr hcs hG h1 rfl rfl h3
        exact ⟨G', k1, h4, k2, k3, okvs_cells _ h2⟩
      · exact h4.elim
    · exact h.elim

theorem lay_hol (hr : Rel B G w) {i : TI} {id : AId} {p : List Nat} {st off at_ : Nat} {vs : List AVal} {K : Heap → Prop} (h : lay i G id p st off at_ vs K) : vs = [] ∨ id.hol = none := by
  unfold lay at h
  split at h
  · exact .inl rfl
  · split at h
    · obtain ⟨_, _, _, h4⟩ := h
      split at h4
      · rename_i G' hG
        unfold putArr at hG
        split at hG
        · rename_i tr htr
          exact .inr (AId.hol_0 (hr.obj _ _ htr).2.1)
        · cases hG
      · exact h4.elim
    · exact h.elim

theorem firstCells_src (hr : Rel B G w) {n : Nat} {x : AVal} {vs : List AVal} (hs : selems G n x = some vs) {tx : TypeId} (hk : (∃ e', P.underlying tx = some (.slice e')) ∨ P.underlying tx = some .string) (hok : okvs vs = true ∨ True) :
    (∀ w' : World, (Builtin.lenOf (cv x)).run P w' = .ok vs.length w') ∧ (Builtin.firstCells n vs.length (cv x)).run P w = .ok (flats vs).toArray w ∧
    (Builtin.firstCells n vs.length (cv x)).run P w.drew = .ok (flats vs).toArray w.drew ∧ (flats vs).length = vs.length * n := by
  cases x with
  | slice id p st off len cap =>
    obtain ⟨h1, h2, h3, _⟩ := selems_slice hr hs
    refine ⟨fun _ => by simp [Builtin.lenOf, cv, h1], ?_, ?_, by rw [h3, h1]⟩
    · exact run_firstCells_some w n vs.length _ len cap (flats vs) (by rw [h3, h1]) fun j u hj => selems_at hr hs j u hj
    · exact run_firstCells_some w.drew n vs.length _ len cap (flats vs) (by rw [h3, h1]) fun j u hj => by simpa using selems_at hr hs j u hj
  | nilSlice =>
    simp [selems] at hs; subst hs
    exact ⟨fun _ => by simp [Builtin.lenOf, cv], by simp [Builtin.firstCells, cv, flats], by simp [Builtin.firstCells, cv, flats], by simp [flats]⟩
  | str s =>
    simp only [selems] at hs
    split at hs
    · rename_i hn
      injection hs with hs; subst hs; subst hn
      have e1 : (⟨s.toArray⟩ : ByteArray).size = s.length := by simp [ByteArray.size]
      have hfl : flats (s.map fun b => AVal.int .u8 b.toNat) = byteCells ⟨s.toArray⟩ := by
        rw [show (s.map fun b : UInt8 => AVal.int .u8 b.toNat) = (s.map fun b => (b.toNat : Int)).map (AVal.int .u8) by simp, flats_ints]
        simp [byteCells]
      refine ⟨fun _ => by simp [Builtin.lenOf, cv, e1], ?_, ?_, ?_⟩
      · rw [hfl]; simpa [cv, e1] using firstCells_string (P := P) ⟨s.toArray⟩ w
      · rw [hfl]; simpa [cv, e1] using firstCells_string (P := P) ⟨s.toArray⟩ w.drew
      · rw [hfl, byteCells_length, e1]; simp
    · cases hs
  | _ => simp [selems] at hs

end
end Go.Esc
