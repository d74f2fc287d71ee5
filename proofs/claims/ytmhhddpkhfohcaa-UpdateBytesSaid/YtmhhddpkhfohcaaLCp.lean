/- Own work. Chapter 14: a commitment's bytes, in the program. -/
import Derived.Test.YtmhhddpkhfohcaaLCo
set_option linter.unusedSimpArgs false
set_option linter.unusedVariables false
namespace Go.Esc.M
open Go Go.Esc

def PenM.bytes (p : PenM) : List UInt8 := be 1 (bif p.ours then 1 else 0) ++ (be 8 (bits64 p.id) ++ (be 8 (bits64 p.amount) ++ p.hash))
theorem PenM.length_bytes {p : PenM} (h : p.ok) : p.bytes.length = 49 := by simp [PenM.bytes, length_be, h.hash]

def textB (owner index : Int) (point : List UInt8) (o q : Int) (l : List PenM) : List UInt8 :=
  be 1 owner.toNat ++ (be 8 (bits64 index) ++ (point ++ (be 8 (bits64 o) ++ (be 8 (bits64 q) ++ (be 2 l.length ++ l.flatMap PenM.bytes)))))
def maxIndex : Int := 281474976710655
def argBad (owner index : Int) : Prop := owner < 0 ∨ 1 < owner ∨ index < 0 ∨ maxIndex < index
instance (owner index : Int) : Decidable (argBad owner index) := inferInstanceAs (Decidable (_ ∨ _ ∨ _ ∨ _))
def textR (owner index : Int) (point : List UInt8) (o q : Int) (l : List PenM) : List UInt8 × Int :=
  if argBad owner index then ([], 1) else bif soundP o q l then (textB owner index point o q l, 0) else ([], 4)

theorem scanP_count : ∀ (l : List PenM) {lt lf : Int} {ct cf a b : Nat}, scanP lt lf ct cf l = some (a, b) → a + b = ct + cf + l.length
  | [], lt, lf, ct, cf, a, b, h => by
    simp only [scanP, Option.some.injEq, Prod.mk.injEq] at h
    simp; omega
  | p :: l, lt, lf, ct, cf, a, b, h => by
    rw [scanP] at h
    split at h
    · cases h
    · cases hp : p.ours with
      | true =>
        rw [hp] at h
        have := scanP_count l h
        simp; omega
      | false =>
        rw [hp] at h
        have := scanP_count l h
        simp; omega

theorem soundP_length {o q : Int} {l : List PenM} (h : soundP o q l = true) : l.length ≤ 966 := by
  unfold soundP at h
  simp only [Bool.and_eq_true] at h
  have h := h.2
  unfold few at h
  split at h
  · cases h
  · rename_i a b he
    have := scanP_count l he
    simp only [Bool.and_eq_true, decide_eq_true_eq] at h
    omega

section
variable {F0 : List AId} {G0 G : Heap} {ps : List LP} {Q : AVal → Heap → Prop}

/-- A value laid by a writer that is not broken. -/
theorem wr {id : AId} {bs xs : List UInt8} {n : FuncId} {args : List AVal} {i : Nat} {K : AVal → Heap → Prop} (hs : Sp F0 G0 ps G) (hi : ps[i]? = some (WrL id bs 0))
    (huse : ∀ {G : Heap} {F : List AId} {Q : AVal → Heap → Prop}, Wr id (bs, 0) G F → (∀ F' G', Wr id (laid (bs, 0) xs) G' F' → Ch F G F' G' → Q (.tuple []) G') → ACalls P n args G Q)
    (hK : ∀ G', Sp F0 G0 (ps.set i (WrL id (bs ++ xs) 0)) G' → K (.tuple []) G') : ACalls P n args G K := by
  refine hs.call hi (WrL id (bs ++ xs) 0) fun F h k => ?_
  exact huse h fun F' G' w c => hK _ (k F' G' w c)

theorem u8_conv (n : Int) (h0 : 0 ≤ n) (h1 : n ≤ 255) : vconv T G t_int t_uint8 (.int .i64 n) = some (.int .u8 (n.toNat : Nat)) := by
  rw [vconv_int T_int T_uint8 rfl, u8_in h0 h1]
  congr 2
  omega

end
end Go.Esc.M
