import Derived.Test.YtdbkngfdaeminaaLCs
/- Own work. Chapter 3: texts on the wire. -/
set_option linter.unusedSimpArgs false
set_option linter.unusedVariables false
set_option maxRecDepth 20000
namespace Go.Esc.M
open Go Go.Esc

theorem num_be2 {n : Nat} (h : n ≤ 65535) : num (be 2 n) = n := by
  simp only [be, num, numA]
  simp
  omega

theorem takes_app {a b : List UInt8} {n : Int} (h : (a.length : Int) = n) : takes (a ++ b, 0) n = (a, (b, 0)) := by
  subst h
  unfold takes
  have hl : ¬ (((a ++ b).length : Int) < a.length) := by rw [List.length_append]; omega
  simp only [if_true]
  rw [if_neg hl]
  simp

end Go.Esc.M

/- Own work. Chapter 3: a number's bytes: parts, there and back. -/
set_option linter.unusedSimpArgs false
set_option linter.unusedVariables false
set_option maxRecDepth 20000
namespace Go.Esc.M
open Go Go.Esc

theorem numA_be (v : Nat) : ∀ k w, numA w (be k v) = w * 2 ^ (8 * k) + v % 2 ^ (8 * k)
  | 0, w => by simp [be, numA, Nat.mod_one]
  | k + 1, w => by
    rw [be, numA, numA_be v k]
    have h1 : 2 ^ (8 * (k + 1)) = 2 ^ (8 * k) * 256 := by rw [show 8 * (k + 1) = 8 * k + 8 by omega, Nat.pow_add]
    rw [h1, Nat.mod_mul]
    have : (UInt8.ofNat (v / 2 ^ (8 * k))).toNat = v / 2 ^ (8 * k) % 256 := by simp
    rw [this, Nat.add_mul, ← Nat.mul_assoc, Nat.mul_assoc w 256, Nat.mul_comm 256 (2 ^ (8 * k)), ← Nat.mul_assoc, Nat.mul_comm (v / 2 ^ (8 * k) % 256)]
    omega

theorem num_be (v k : Nat) : num (be k v) = v % 2 ^ (8 * k) := by
  rw [num, numA_be]
  omega
theorem num_be_lt {v k : Nat} (h : v < 2 ^ (8 * k)) : num (be k v) = v := by rw [num_be, Nat.mod_eq_of_lt h]

theorem wrap_bits64' {n : Int} (h : I64 n) : IntKind.i64.wrap (bits64 n : Nat) = n := by
  have h1 := h.1
  have h2 := h.2
  rw [IntKind.wrap_i64]
  unfold bits64
  omega

end Go.Esc.M
