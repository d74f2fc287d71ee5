/- Own work. Chapter 3: a number's bytes: parts, there and back. -/
import Derived.Test.YtmhhddpkhfohcaaLCt
set_option linter.unusedSimpArgs false
set_option linter.unusedVariables false
namespace Go.Esc.M
open Go Go.Esc

theorem be_split (v b : Nat) : ∀ a, be (a + b) v = be a (v / 2 ^ (8 * b)) ++ be b v
  | 0 => by simp [be]
  | a + 1 => by
    have h := be_split v b a
    rw [show a + 1 + b = (a + b) + 1 by omega, be, be, h, Nat.div_div_eq_div_mul, ← Nat.pow_add, show 8 * b + 8 * a = 8 * (a + b) by omega]
    rfl

theorem be_mod (v m : Nat) : ∀ k, k ≤ m → be k (v % 2 ^ (8 * m)) = be k v
  | 0, _ => rfl
  | k + 1, hk => by
    rw [be, be, be_mod v m k (by omega)]
    congr 1
    have h1 : 2 ^ (8 * m) = 2 ^ (8 * k) * 2 ^ (8 * (m - k)) := by rw [← Nat.pow_add]; congr 1; omega
    have h2 : v % 2 ^ (8 * m) / 2 ^ (8 * k) = v / 2 ^ (8 * k) % 2 ^ (8 * (m - k)) := by rw [h1, Nat.mod_mul_right_div_self]
    have h3 : (256 : Nat) ∣ 2 ^ (8 * (m - k)) := by
      rw [show 8 * (m - k) = 8 + 8 * (m - k - 1) by omega, Nat.pow_add]
      exact Nat.dvd_mul_right _ _
    rw [h2]
    apply UInt8.toNat_inj.1
    simp [Nat.mod_mod_of_dvd _ h3]

theorem numA_be (v : Nat) : ∀ k w, numA w (be k v) = w * 2 ^ (8 * k) + v % 2 ^ (8 * k)
  | 0, w => by simp [be, numA, Nat.mod_one]
  | k + 1, w => by
    rw [be, numA, numA_be v k]
    have h1 : 2 ^ (8 * (k + 1)) = 2 ^ (8 * k) * 256 := by rw [show 8 * (k + 1) = 8 * k + 8 by omega, Nat.pow_add]
    rw [h1, Nat.mod_mul]
    have : (UInt8.ofNat (v / 2 ^ (8 * k))).toNat = v / 2 ^ (8 * k) % 256 := by simp
    rw [this, Nat.add_mul, ← Nat.mul_assoc, Nat.mul_assoc w 256, Nat.mul_comm 256 (2 ^ (8 * k)), ← Nat.mul_assoc, Nat.mul_comm (v / 2 ^ (8 * k) % 256)]
    omega

theorem num_be (v k : Nat) : num (be k v) = v % 2 ^ (8 * k) := by
  rw [num, numA_be]
  omega
theorem num_be_lt {v k : Nat} (h : v < 2 ^ (8 * k)) : num (be k v) = v := by rw [num_be, Nat.mod_eq_of_lt h]

/-- Bytes of a number: every list of so many is one. -/
theorem be_numA : ∀ (l : List UInt8) (w : Nat), be l.length (numA w l) = l
  | [], w => rfl
  | b :: l, w => by
    have hb : b.toNat < 256 := b.toNat_lt
    rw [numA, List.length_cons, be, be_numA l]
    congr 1
    have h : ∀ (l : List UInt8) (x : Nat), numA x l / 2 ^ (8 * l.length) = x := by
      intro l
      induction l with
      | nil => intro x; simp [numA]
      | cons c l ih =>
        intro x
        have hc : c.toNat < 256 := c.toNat_lt
        rw [numA, List.length_cons, show 8 * (l.length + 1) = 8 * l.length + 8 by omega, Nat.pow_add, ← Nat.div_div_eq_div_mul, ih]
        omega
    rw [h]
    apply UInt8.toNat_inj.1
    simp

theorem bits64_wrap {v : Nat} (h : v < 2 ^ 64) : bits64 (IntKind.i64.wrap v) = v := by
  rw [IntKind.wrap_i64]
  unfold bits64
  omega
theorem wrap_bits64' {n : Int} (h : I64 n) : IntKind.i64.wrap (bits64 n : Nat) = n := by
  have h1 := h.1
  have h2 := h.2
  rw [IntKind.wrap_i64]
  unfold bits64
  omega

/-- Bits beside one another. -/
theorem or_beside (a b k : Nat) (hb : b < 2 ^ k) (ha : a * 2 ^ k + b < 2 ^ 64) : IntKind.u64.wrap ((BitVec.ofInt IntKind.u64.bits ((a * 2 ^ k : Nat) : Int) ||| BitVec.ofInt IntKind.u64.bits (b : Int)).toNat) = ((a * 2 ^ k + b : Nat) : Int) := by
  have hbits : IntKind.u64.bits = 64 := rfl
  have h1 : (BitVec.ofInt IntKind.u64.bits ((a * 2 ^ k : Nat) : Int) ||| BitVec.ofInt IntKind.u64.bits (b : Int)).toNat = a * 2 ^ k + b := by
    rw [BitVec.toNat_or, BitVec.ofInt_natCast, BitVec.ofInt_natCast, BitVec.toNat_ofNat, BitVec.toNat_ofNat, hbits, Nat.mod_eq_of_lt (by omega), Nat.mod_eq_of_lt (by omega)]
    have := Nat.two_pow_add_eq_or_of_lt (i := k) (b := b) hb a
    rw [Nat.mul_comm a (2 ^ k)]
    exact this.symm
  rw [h1, wrapU64]
  omega

end Go.Esc.M
