/- Own work. Methods of structs, called on interface values. -/
import Derived.Test.YtdoelihemgopcaaER
import Derived.ChangeKeysEq
set_option linter.unusedSimpArgs false
set_option linter.unusedVariables false
namespace Go.Esc
open Go

def methB (P : Program) (t : TypeId) (n : String) (f : FuncId) : Bool :=
  match P.info? t with
  | some i => match i.methods.find? (·.name == n) with
    | some m => m.path.isEmpty && (match m.func with | some (k, false) => k == f | _ => false) && (match P.underlying t with | some (.struct _) => true | _ => false)
    | none => false
  | none => false

theorem meth_of {P : Program} {t : TypeId} {n : String} {f : FuncId} (h : methB P t n f = true) (v : Value) (w : World) : (method (P.types.size + Made.depth) t v n).run P w = .ok (f, v) w := by
  unfold methB at h
  split at h
  · rename_i i hi
    split at h
    · rename_i m hm
      simp only [Bool.and_eq_true] at h
      obtain ⟨⟨h1, h2⟩, h3⟩ := h
      have hp : m.path.toList = [] := by simpa using h1
      split at h2
      · rename_i k hf
        have hk : k = f := by simpa using h2
        subst hk
        split at h3
        · rename_i fs hu
          rw [show P.types.size + Made.depth = (P.types.size + 99) + 1 by simp [Made.depth], method]
          simp only [Sem.run_bind, run_typeInfo w hi, Result.andThen_ok, hm, hp, follow, Sem.run_pure, hf, receiverAt, run_underlying hu w, Place.get]
        · cases h3
      · cases h2
    · cases h
  · cases h

/-- A table of methods. -/
def methT : List (TypeId × String × FuncId) → TypeId → String → Option FuncId
  | [], _, _ => none
  | x :: l, t, n => bif Nat.beq x.1 t && x.2.1 == n then some x.2.2 else methT l t n
theorem methT_ok {P : Program} {l : List (TypeId × String × FuncId)} (h : l.all (fun x => methB P x.1 x.2.1 x.2.2) = true) : ∀ t n f, methT l t n = some f → ∀ (v : Value) w, (method (P.types.size + Made.depth) t v n).run P w = .ok (f, v) w := by
  induction l with
  | nil => intro t n f hf; cases hf
  | cons x l ih =>
    intro t n f hf v w
    simp only [List.all_cons, Bool.and_eq_true] at h
    rw [methT] at hf
    cases hc : (Nat.beq x.1 t && x.2.1 == n) with
    | true =>
      rw [hc, cond_true] at hf
      simp only [Bool.and_eq_true, beq_iff_eq] at hc
      have h1 := Nat.eq_of_beq_eq_true hc.1
      obtain ⟨a, b, c⟩ := x
      simp only at h1 hc hf h
      subst h1
      obtain ⟨-, rfl⟩ := hc
      injection hf with hf
      subst hf
      exact meth_of h.1 v w
    | false =>
      rw [hc, cond_false] at hf
      exact ih h.2 t n f hf v w
theorem inv_of {cx : Cx} {t : TypeId} {n : String} {k : FuncId} {v : AVal} {args : List AVal} {G : Heap} {K : AVal → Heap → Prop} (hm : cx.meth t n = some k) (h : ACalls cx.P k (v :: args) G K) : aInvoke cx (.iface t v) n args G K := by
  unfold aInvoke
  simp only [hm]
  exact h
end Go.Esc
