/- Own work. Contracts of the kit's shelf, turned to this engine. -/
import Derived.Test.YtbckpbdamfhehaaGreatDoorEZ
import Derived.Room.Shelf.Join48
set_option linter.unusedSimpArgs false
set_option linter.unusedVariables false
set_option maxRecDepth 20000
namespace Go.Esc
open Go Go.RowKit

theorem Rel.below {B : Base} {G : Heap} {w w' : World} (h : Rel B G w) (hb : Below w.heap.size w w') : Rel B G w' :=
  h.move hb.os hb.tape hb.output hb.size (fun k hk => hb.block k (Nat.lt_of_lt_of_le (B.lt k hk) h.size)) fun j hj => by
    cases hg : G j with
    | none => simp [hg] at hj
    | some o => exact hb.block _ ((h.obj _ _ hg).lt h.size)

theorem ACalls_of_calls {P : Program} {f : FuncId} {fn : Func} {args : List AVal} {G : Heap} {Q : AVal → Heap → Prop} (hf : P.funcs[f]? = some fn) (hb : fn.body.isSome = true) (hname : (fn.name == "runtime.NumGoroutine") = false)
    (h : ∀ B w, Rel B G w → Calls P f (cvs args).toArray w fun e w' => ∃ v, e = .returned (cv v) ∧ Below w.heap.size w w' ∧ Q v G) : ACalls P f args G Q := by
  intro B w hr
  obtain ⟨c, hc⟩ := Option.isSome_iff_exists.1 hb
  have hcall : (callFunc f (cvs args).toArray).run P w = .ok (.enter f (cvs args).toArray) w := by
    have hn : (fn.name == "runtime.NumGoroutine") = false := hname
    simp [callFunc, hf, hn, hc]
    simp at hn
    simp [hn]
  unfold CallsX
  rw [hcall]
  refine (h B w hr).mono fun e w' ⟨v, he, hb, hq⟩ => ⟨cv v, he, v, G, rfl, hr.below hb, hq⟩

/-- A list that is not longer than its room. -/
def CapSl (n : Nat) (G : Heap) (v : AVal) (vs : List AVal) : Prop :=
  (∃ id p st off len cap, v = .slice id p st off len cap ∧ len ≤ cap ∧ selems G n v = some vs) ∨ (v = .nilSlice ∧ vs = [])

theorem RoSl.cap {n : Nat} {G : Heap} {v : AVal} {vs : List AVal} (h : RoSl n G v vs) : CapSl n G v vs := by
  rcases h with ⟨id, p, st, off, len, cap, t, rfl, hl, _, h⟩ | h
  · exact .inl ⟨_, _, _, _, _, _, rfl, hl, h⟩
  · exact .inr h
theorem Own.cap {n : Nat} {G : Heap} {v : AVal} {vs : List AVal} (h : Own n G v vs) : CapSl n G v vs := by
  rcases h with h | ⟨id, len, cap, cs, rfl, hg, hc, hl, hu, rfl⟩
  · exact .inr h
  · refine .inl ⟨_, _, _, _, _, _, rfl, hl, ?_⟩
    exact (isSl_row hg rfl hu (by omega)).elems

theorem join_nil : ∀ l : List (List UInt8), Lib.join l [] = l.flatten
  | [] => rfl
  | [x] => by simp [Lib.join, List.intercalate]
  | x :: y :: l => by
    have ih := join_nil (y :: l)
    simp only [Lib.join, List.intercalate] at ih ⊢
    rw [List.intersperse_cons_cons, List.flatten_cons, List.flatten_cons, ih]
    simp

theorem flat_strs (xs : List (List UInt8)) : flats (xs.map .str) = xs.map fun x => Value.string ⟨x.toArray⟩ := by
  induction xs with
  | nil => rfl
  | cons x xs ih => rw [List.map_cons, flats_cons, ih]; simp [flat, cv, Value.cells]

theorem join_bridge {P : Program} {ρ : Shelf.Ren} {f : FuncId} {fn : Func} {G : Heap} {Q : AVal → Heap → Prop} {v : AVal} {xs : List (List UInt8)} (hf : P.funcs[f]? = some fn) (hb : fn.body.isSome = true) (hname : (fn.name == "runtime.NumGoroutine") = false)
    (L : Proofs.Lays.n156 P ρ) (X : Proofs.Builder.Extra P ρ) (hρ : ρ.f 156 = f) (h : CapSl 1 G v (xs.map .str)) (hN : xs.length ≤ 140737488355328) (hl : xs.flatten.length ≤ 281474976710656)
    (hQ : Q (.str xs.flatten) G) : ACalls P f [v, .str []] G Q := by
  subst hρ
  refine ACalls_of_calls hf hb hname fun B w hr => ?_
  rcases h with ⟨id, p, st, off, len, cap, rfl, hle, h⟩ | ⟨rfl, hx⟩
  · obtain ⟨a1, a2, a3, _⟩ := selems_slice hr h
    rw [flat_strs] at a2
    have hlt : id.block < w.heap.size := by
      obtain ⟨cs, h1, _⟩ := selems_spec h
      simp only [vsub] at h1
      split at h1
      · rename_i o ho
        exact (hr.obj _ _ ho).lt hr.size
      · cases h1
    have hlen : xs.length = len := by simpa using a1
    by_cases hxs : xs = []
    · subst hxs
      simp only [List.length_nil] at hlen
      subst hlen
      have := Proofs.Any.strings_Join_none L X (some (id.addr off)) cap ⟨#[]⟩ w
      have hargs : (cvs [AVal.slice id p st off 0 cap, .str []]).toArray = #[.slice (some (id.addr off)) 0 cap, .string ⟨#[]⟩] := by simp [cvs, cv]
      rw [hargs]
      refine this.mono ?_
      rintro e w' ⟨he, hb⟩
      refine ⟨.str [], ?_, hb ▸ Below.refl _ _, hQ⟩
      rw [he]
      simp [cv]
    have hhol : id.hol = none := by
      cases xs with
      | nil => exact absurd rfl hxs
      | cons x xs => exact selems_hol hr h (j := 0) (u := .string ⟨x.toArray⟩) (by rw [flat_strs]; rfl)
    have hmap : (xs.map fun x => (⟨x.toArray⟩ : ByteArray)).map (·.data.toList) = xs := by
      rw [List.map_map]
      conv => rhs; rw [← List.map_id xs]
      apply List.map_congr_left
      intro x _
      simp
    have := Proofs.Any.strings_Join_48 L X id.block (id.start + off) cap (xs.map fun x => ⟨x.toArray⟩) ⟨#[]⟩ w (fun j x hj => by
        rw [List.getElem?_map] at hj
        cases hx : xs[j]? with
        | none => simp [hx] at hj
        | some y =>
          simp only [hx, Option.map_some, Option.some.injEq] at hj
          subst hj
          exact a2 j _ (by rw [List.getElem?_map, hx]; rfl)) hlt (by simpa using hN) (by simp; omega) (by rw [hmap]; simpa [join_nil] using hl)
    rw [hmap] at this
    simp only [List.length_map, hlen] at this
    have hargs : (cvs [AVal.slice id p st off len cap, .str []]).toArray = #[.slice (some ⟨id.block, id.start + off, none⟩) len cap, .string ⟨#[]⟩] := by simp [cvs, cv, AId.addr_of hhol]
    rw [hargs]
    refine this.mono ?_
    rintro e w' ⟨he, hb⟩
    refine ⟨.str xs.flatten, ?_, hb, hQ⟩
    rw [he]
    simp [cv, join_nil]
  · have hx : xs = [] := by simpa using hx
    subst hx
    have := Proofs.Any.strings_Join_none L X none 0 ⟨#[]⟩ w
    have hargs : (cvs [AVal.nilSlice, .str []]).toArray = #[.slice none 0 0, .string ⟨#[]⟩] := by simp [cvs, cv]
    rw [hargs]
    refine this.mono ?_
    rintro e w' ⟨he, hb⟩
    refine ⟨.str [], ?_, hb ▸ Below.refl _ _, hQ⟩
    rw [he]
    simp [cv]

end Go.Esc
