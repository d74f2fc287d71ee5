import Derived.Test.YtdoelihemgopcaaLFa
import Derived.Test.YtdoelihemgopcaaLLib
import Derived.Test.YtdoelihemgopcaaLDa
import Derived.Test.YtdoelihemgopcaaLRS
/- Own work. Chapter 13: removals; first; adds. -/
set_option linter.unusedSimpArgs false
set_option linter.unusedVariables false
set_option maxRecDepth 20000
namespace Go.Esc
open Go Go.RowKit
theorem CapSl.isSl {n : Nat} {G : Heap} {v : AVal} {vs : List AVal} (h : CapSl n G v vs) : IsSl n G v vs := by
  rcases h with ⟨id, p, st, off, len, cap, rfl, _, h⟩ | h
  · exact .inl ⟨_, _, _, _, _, _, rfl, h⟩
  · exact .inr h
theorem CapSl.mv {n : Nat} {G G' : Heap} {E : List AId} {v : AVal} {vs : List AVal} (h : CapSl n G v vs) (hc : Ch [] G E G') : CapSl n G' v vs := by
  rcases h with ⟨id, p, st, off, len, cap, rfl, hl, h⟩ | h
  · refine .inl ⟨_, _, _, _, _, _, rfl, hl, selems_le (fun j o hj => hc.others j o hj (by simp)) h⟩
  · exact .inr h
theorem CapSl.take {T : Tbl} {t e : TypeId} {i ie : TI} (ht : T t = some i) (hd : i.desc = .slice e) (he : T e = some ie) {G : Heap} {v : AVal} {vs : List AVal} (h : CapSl ie.size G v vs) {k : IntKind} {m : Nat} {x : Int} (hx : x = (m : Int)) (hm : m ≤ vs.length) :
    ∃ v', vslice T t v none (some (.int k x)) none = some v' ∧ CapSl ie.size G v' (vs.take m) := by
  subst hx
  rcases h with ⟨id, p, st, off, len, cap, rfl, hlc, h⟩ | ⟨rfl, rfl⟩
  · obtain ⟨cs, h1, h0, h2, h3, rfl, harr⟩ := selems_spec h
    have hl : ((cs.drop st).take len).length = len := by rw [List.length_take, List.length_drop]; omega
    rw [hl] at hm
    refine ⟨.slice id p st off m cap, ?_, .inl ⟨id, p, st, off, m, cap, rfl, by omega, ?_⟩⟩
    · simp only [vslice, ht, hd, he]
      rw [sbounds_high (by omega)]
      simp
    · simp only [selems, harr]
      rw [if_pos (by omega), List.take_take, Nat.min_eq_left hm]
  · simp at hm
    subst hm
    exact ⟨.nilSlice, by simp [vslice, ht, hd, he, sbounds, sbound], .inr ⟨rfl, by simp⟩⟩

/-! ### Maps of numbers -/
end Go.Esc
namespace Go.Esc.M
open Go Go.Esc

theorem tv0 (v : AVal) (e : AVal) : vextract (.tuple [v, e]) 0 = some v := rfl
theorem tv1 (v : AVal) (e : AVal) : vextract (.tuple [v, e]) 1 = some e := rfl
def isRem (id : Int) (u : UpdM) : Bool := decide (u.kind ≠ 1) && (decide (u.id = id) && validU u)
/-- The kind of an ID's first removal. -/
def remS (id : Int) : List UpdM → Int
  | [] => 0
  | u :: l => if isRem id u = true then u.kind else remS id l
section
variable {F0 : List AId} {G0 G : Heap} {ps : List LP} {Q : AVal → Heap → Prop}

end

end Go.Esc.M

/- Own work. Chapter 13: what is spendable; what is open. -/
set_option linter.unusedSimpArgs false
set_option linter.unusedVariables false
set_option maxRecDepth 20000
namespace Go.Esc.M
open Go Go.Esc

section
variable {F0 : List AId} {G0 G : Heap} {ps : List LP} {Q : AVal → Heap → Prop}

end

end Go.Esc.M

/- Own work. Chapter 13: Spendable, both; the document's Open. -/
set_option linter.unusedSimpArgs false
set_option linter.unusedVariables false
set_option maxRecDepth 20000
namespace Go.Esc.M
open Go Go.Esc

section
variable {F0 : List AId} {G0 G : Heap} {ps : List LP} {Q : AVal → Heap → Prop}

end

end Go.Esc.M

/- Own work. Chapter 13: the document's Spendable and Open. -/
set_option linter.unusedSimpArgs false
set_option linter.unusedVariables false
set_option maxRecDepth 20000
namespace Go.Esc.M
open Go Go.Esc

section
variable {F0 : List AId} {G0 G : Heap} {ps : List LP} {Q : AVal → Heap → Prop}

end

end Go.Esc.M

/- Own work. Chapter 13: lists sorted by ID, those of one ID in their order. -/
set_option linter.unusedSimpArgs false
set_option linter.unusedVariables false
set_option maxRecDepth 20000
namespace Go.Esc.M
open Go Go.Esc

/-- Those of each ID in the same order. -/
def StEq (a b : List PenM) : Prop := ∀ k : Int, a.filter (fun p => decide (p.id = k)) = b.filter (fun p => decide (p.id = k))
theorem StEq.refl (a : List PenM) : StEq a a := fun _ => rfl
theorem StEq.symm {a b : List PenM} (h : StEq a b) : StEq b a := fun k => (h k).symm
theorem StEq.trans {a b c : List PenM} (h : StEq a b) (h' : StEq b c) : StEq a c := fun k => (h k).trans (h' k)
theorem StEq.mem {a b : List PenM} (h : StEq a b) {p : PenM} : p ∈ a ↔ p ∈ b := by
  have e := h p.id
  constructor
  · intro hp
    have : p ∈ a.filter (fun q => decide (q.id = p.id)) := List.mem_filter.2 ⟨hp, by simp⟩
    rw [e] at this
    exact (List.mem_filter.1 this).1
  · intro hp
    have : p ∈ b.filter (fun q => decide (q.id = p.id)) := List.mem_filter.2 ⟨hp, by simp⟩
    rw [← e] at this
    exact (List.mem_filter.1 this).1
theorem StEq.append {a b c d : List PenM} (h : StEq a b) (h' : StEq c d) : StEq (a ++ c) (b ++ d) := fun k => by rw [List.filter_append, List.filter_append, h k, h' k]
/-- Blocks that share no ID may change places. -/
theorem StEq.swap {a b : List PenM} (h : ∀ p ∈ a, ∀ q ∈ b, p.id ≠ q.id) : StEq (a ++ b) (b ++ a) := by
  intro k
  rw [List.filter_append, List.filter_append]
  by_cases ha : a.filter (fun p => decide (p.id = k)) = []
  · rw [ha, List.nil_append, List.append_nil]
  · have hb : b.filter (fun p => decide (p.id = k)) = [] := by
      rw [List.filter_eq_nil_iff]
      intro q hq hk
      obtain ⟨p, hp⟩ := List.exists_mem_of_ne_nil _ ha
      obtain ⟨h1, h2⟩ := List.mem_filter.1 hp
      have h2 := of_decide_eq_true h2
      have hk := of_decide_eq_true hk
      exact h p h1 q hq (by rw [h2, hk])
    rw [hb, List.nil_append, List.append_nil]
theorem StEq.cons {a b : List PenM} (p : PenM) (h : StEq a b) : StEq (p :: a) (p :: b) := StEq.append (a := [p]) (b := [p]) (StEq.refl _) h

theorem StEq.length {a b : List PenM} (h : StEq a b) : a.length = b.length := by
  have key : ∀ (n : Nat) (a b : List PenM), a.length = n → StEq a b → a.length = b.length := by
    intro n
    induction n with
    | zero =>
      intro a b ha h
      have : a = [] := List.length_eq_zero_iff.1 ha
      subst this
      cases b with
      | nil => rfl
      | cons p b => exact absurd (h.mem.2 (List.mem_cons_self)) (by simp)
    | succ n ih =>
      intro a b ha h
      match a, ha with
      | p :: a, ha =>
        have hp : p ∈ b := h.mem.1 (by simp)
        have hf := h p.id
        rw [List.filter_cons, if_pos (by simp)] at hf
        -- the first of p's ID in b is p
        obtain ⟨u, v, hb, hu⟩ : ∃ u v, b = u ++ p :: v ∧ ∀ q ∈ u, q.id ≠ p.id := by
          have : ∀ b : List PenM, (∃ r, b.filter (fun q => decide (q.id = p.id)) = p :: r) → ∃ u v, b = u ++ p :: v ∧ ∀ q ∈ u, q.id ≠ p.id := by
            intro b
            induction b with
            | nil => rintro ⟨r, hr⟩; cases hr
            | cons x b ihb =>
              rintro ⟨r, hr⟩
              rw [List.filter_cons] at hr
              by_cases hx : x.id = p.id
              · rw [if_pos (by simp [hx])] at hr
                injection hr with h1 h2
                subst h1
                exact ⟨[], b, rfl, by simp⟩
              · rw [if_neg (by simp [hx])] at hr
                obtain ⟨u, v, h1, h2⟩ := ihb ⟨r, hr⟩
                refine ⟨x :: u, v, by rw [h1]; rfl, fun q hq => ?_⟩
                rcases List.mem_cons.1 hq with rfl | hq
                · exact hx
                · exact h2 q hq
          exact this b ⟨_, hf.symm⟩
        have h1 : StEq (u ++ p :: v) (p :: (u ++ v)) := by
          have := StEq.append (StEq.swap (a := u) (b := [p]) (fun q hq r hr => by rw [List.mem_singleton.1 hr]; exact hu q hq)) (StEq.refl v)
          simpa using this
        rw [hb] at h
        have h2 : StEq (p :: a) (p :: (u ++ v)) := h.trans h1
        have h3 : StEq a (u ++ v) := fun k => by
          have e := h2 k
          rw [List.filter_cons, List.filter_cons] at e
          by_cases hk : p.id = k
          · rw [if_pos (by simp [hk]), if_pos (by simp [hk])] at e
            injection e
          · rw [if_neg (by simp [hk]), if_neg (by simp [hk])] at e
            exact e
        have := ih a (u ++ v) (by simpa using ha) h3
        rw [hb]
        simp only [List.length_cons, List.length_append] at this ⊢
        omega
  exact key _ a b rfl h

end Go.Esc.M

/- Own work. Chapter 13: the sort: comparing, swapping neighbours, insertion. -/
set_option linter.unusedSimpArgs false
set_option linter.unusedVariables false
set_option maxRecDepth 20000
namespace Go.Esc.M
open Go Go.Esc

section
variable {F0 : List AId} {G0 G : Heap} {ps : List LP} {Q : AVal → Heap → Prop}

end

end Go.Esc.M

/- Own work. Chapter 13: the sort: blocks swapped, blocks rotated. -/
set_option linter.unusedSimpArgs false
set_option linter.unusedVariables false
set_option maxRecDepth 20000
namespace Go.Esc.M
open Go Go.Esc

section
variable {F0 : List AId} {G0 G : Heap} {ps : List LP} {Q : AVal → Heap → Prop}

end

end Go.Esc.M
