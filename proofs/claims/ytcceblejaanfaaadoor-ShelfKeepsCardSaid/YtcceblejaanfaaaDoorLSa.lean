/- Own work. Chapter 9: places, levels, the way down: plain laws. -/
import Derived.Test.YtcceblejaanfaaaDoorLHf
import Derived.Test.YtcceblejaanfaaaDoorLHt
import Derived.Test.YtcceblejaanfaaaDoorLAr
set_option linter.unusedSimpArgs false
set_option linter.unusedVariables false
namespace Go.Esc.M
open Go Go.Esc

def bitN (p i : Nat) : Nat := p / 2 ^ i % 2
def lev : Nat → Nat → Nat
  | 0, _ => 0
  | n + 1, p => if p % 2 = 1 then 0 else lev n (p / 2) + 1
def level (p : Nat) : Nat := lev 48 p
theorem lev_le : ∀ n p, lev n p ≤ n
  | 0, _ => Nat.le_refl _
  | n + 1, p => by
    unfold lev
    split
    · omega
    · have := lev_le n (p / 2); omega
theorem lev_dvd : ∀ n p, 2 ^ lev n p ∣ p
  | 0, p => by simp [lev]
  | n + 1, p => by
    unfold lev
    split
    · simp
    · rename_i h
      have := lev_dvd n (p / 2)
      rw [Nat.pow_succ, Nat.mul_comm]
      have h2 : p = 2 * (p / 2) := by omega
      rw [h2]
      have e : 2 * (p / 2) / 2 = p / 2 := by omega
      rw [e]
      exact Nat.mul_dvd_mul_left 2 this
theorem lev_odd : ∀ n p, lev n p < n → p / 2 ^ lev n p % 2 = 1
  | 0, p, h => by omega
  | n + 1, p, h => by
    unfold lev at h ⊢
    split
    · rename_i h1; simpa using h1
    · rename_i h1
      rw [if_neg h1] at h
      have := lev_odd n (p / 2) (by omega)
      rwa [Nat.div_div_eq_div_mul, Nat.mul_comm, ← Nat.pow_succ] at this
theorem level_le (p : Nat) : level p ≤ 48 := lev_le 48 p
theorem level_dvd (p : Nat) : 2 ^ level p ∣ p := lev_dvd 48 p
theorem level_zero : level 0 = 48 := by decide
theorem level_pos {p : Nat} (h0 : p ≠ 0) (hp : p < 2 ^ 48) : level p < 48 := by
  refine Nat.lt_of_le_of_ne (level_le p) fun h => ?_
  have := level_dvd p
  rw [h] at this
  exact h0 (Nat.eq_zero_of_dvd_of_lt this hp)
/-- The level is where the first 1 is. -/
theorem level_form {p : Nat} (h0 : p ≠ 0) (hp : p < 2 ^ 48) : ∃ m, p = 2 ^ level p * (2 * m + 1) := by
  have h1 := lev_odd 48 p (level_pos h0 hp)
  obtain ⟨c, hc⟩ := level_dvd p
  refine ⟨c / 2, ?_⟩
  have hpos : 0 < 2 ^ level p := Nat.pow_pos (by decide)
  have h2 : p / 2 ^ level p = c := Nat.div_eq_of_eq_mul_right hpos hc
  have h1' : p / 2 ^ level p % 2 = 1 := h1
  rw [h2] at h1'
  have : 2 * (c / 2) + 1 = c := by omega
  rw [this, ← hc]
theorem level_of {p k m : Nat} (hk : k < 48) (h : p = 2 ^ k * (2 * m + 1)) : level p = k := by
  have hodd : ∀ n k m, k < n → lev n (2 ^ k * (2 * m + 1)) = k := by
    intro n
    induction n with
    | zero => intro k m h; omega
    | succ n ih =>
      intro k m h
      unfold lev
      cases k with
      | zero => rw [if_pos (by omega)]
      | succ k =>
        have e : 2 ^ (k + 1) * (2 * m + 1) = 2 * (2 ^ k * (2 * m + 1)) := by rw [Nat.pow_succ, Nat.mul_comm (2 ^ k) 2, Nat.mul_assoc]
        rw [e, if_neg (by omega), show 2 * (2 ^ k * (2 * m + 1)) / 2 = 2 ^ k * (2 * m + 1) by omega, ih k m (by omega)]
  rw [h]
  exact hodd 48 k m hk

/-- A bit turned. -/
def flipB (h : List UInt8) (b : Nat) : List UInt8 := h.set (b / 8) (h.getD (b / 8) 0 ^^^ UInt8.ofNat (2 ^ (b % 8)))
def stepD (pl b : Nat) (h : List UInt8) : List UInt8 := if bitN pl b = 1 then sha (flipB h b) else h
/-- Down by so many of the lowest bits. -/
def downS (pl : Nat) : Nat → List UInt8 → List UInt8
  | 0, h => h
  | k + 1, h => downS pl k (stepD pl k h)
/-- Down by bits k + n - 1 to k. -/
def dn (pl k : Nat) : Nat → List UInt8 → List UInt8
  | 0, h => h
  | n + 1, h => dn pl k n (stepD pl (k + n) h)
theorem length_step' {pl b : Nat} {h : List UInt8} (hl : h.length = 32) : (stepD pl b h).length = 32 := by
  unfold stepD
  split
  · exact length_sha _
  · exact hl
theorem length_down {pl : Nat} : ∀ (k : Nat) {h : List UInt8}, h.length = 32 → (downS pl k h).length = 32
  | 0, h, hl => hl
  | k + 1, h, hl => length_down k (length_step' hl)
theorem down_split (pl k : Nat) : ∀ (n : Nat) (h : List UInt8), downS pl (k + n) h = downS pl k (dn pl k n h)
  | 0, h => rfl
  | n + 1, h => by rw [← Nat.add_assoc, downS, dn, down_split pl k n]
theorem bit_div (p k i : Nat) : bitN p (k + i) = bitN (p / 2 ^ k) i := by
  unfold bitN
  rw [Nat.pow_add, Nat.div_div_eq_div_mul]
theorem dn_congr {a b k : Nat} (h : a / 2 ^ k = b / 2 ^ k) : ∀ (n : Nat) (x : List UInt8), dn a k n x = dn b k n x
  | 0, x => rfl
  | n + 1, x => by
    rw [dn, dn, dn_congr h n]
    congr 1
    unfold stepD
    rw [bit_div, bit_div, h]
theorem down_none {pl k : Nat} (h : 2 ^ k ∣ pl) : ∀ (j : Nat) (x : List UInt8), j ≤ k → downS pl j x = x
  | 0, x, _ => rfl
  | j + 1, x, hj => by
    have hz : bitN pl j = 0 := by
      obtain ⟨c, hc⟩ := h
      unfold bitN
      have e : 2 ^ k = 2 ^ j * (2 * 2 ^ (k - j - 1)) := by
        rw [← Nat.mul_assoc, ← Nat.pow_succ, ← Nat.pow_add]
        congr 1
        omega
      rw [hc, e, Nat.mul_assoc, Nat.mul_div_cancel_left _ (Nat.pow_pos (by decide)), Nat.mul_assoc, Nat.mul_mod_right]
    rw [downS, stepD, if_neg (by omega), down_none h j x (by omega)]
/-- From above or from a number between: the same. -/
theorem down_via {a b k n : Nat} {x : List UInt8} (hd : 2 ^ k ∣ a) (h : a / 2 ^ k = b / 2 ^ k) : downS b k (downS a (k + n) x) = downS b (k + n) x := by
  rw [down_split a k n, down_none hd k _ (Nat.le_refl _), dn_congr h n, ← down_split b k n]

theorem div_near {a x k : Nat} (hd : 2 ^ k ∣ a) (hx : x < 2 ^ k) : (a + x) / 2 ^ k = a / 2 ^ k := by
  obtain ⟨c, hc⟩ := hd
  rw [hc, Nat.mul_add_div (Nat.pow_pos (by decide)), Nat.mul_div_cancel_left _ (Nat.pow_pos (by decide)), Nat.div_eq_of_lt hx, Nat.add_zero]
/-- Which hang on which. -/
theorem near_iff {a b k : Nat} (hd : 2 ^ k ∣ a) : a / 2 ^ k = b / 2 ^ k ↔ a ≤ b ∧ b - a < 2 ^ k := by
  obtain ⟨c, hc⟩ := hd
  have hpos : 0 < 2 ^ k := Nat.pow_pos (by decide)
  have e : a / 2 ^ k = c := by rw [hc, Nat.mul_div_cancel_left _ hpos]
  rw [e]
  constructor
  · intro h
    have h1 := Nat.div_add_mod b (2 ^ k)
    have h2 := Nat.mod_lt b hpos
    rw [← h, ← hc] at h1
    omega
  · rintro ⟨h1, h2⟩
    have : b = 2 ^ k * c + (b - a) := by omega
    rw [this, Nat.mul_add_div hpos, Nat.div_eq_of_lt h2, Nat.add_zero]
theorem level_near {a x : Nat} (ha : a < 2 ^ 48) (hx : x < 2 ^ level a) : level (a + x) ≤ level a := by
  by_cases h0 : x = 0
  · rw [h0, Nat.add_zero]; exact Nat.le_refl _
  · by_cases ha0 : a = 0
    · rw [ha0, level_zero]; exact level_le _
    · have hl := level_le a
      have hx48 : x < 2 ^ 48 := Nat.lt_of_lt_of_le hx (Nat.pow_le_pow_right (by decide) hl)
      have hxl := level_pos h0 hx48
      obtain ⟨m, hm⟩ := level_form h0 hx48
      have hlt : level x < level a := by
        refine Nat.lt_of_not_le fun h => ?_
        have h1 : 2 ^ level a ≤ 2 ^ level x := Nat.pow_le_pow_right (by decide) h
        have h2 : 2 ^ level x ≤ x := Nat.le_of_dvd (by omega) (level_dvd x)
        omega
      obtain ⟨c, hc⟩ := level_dvd a
      have e : 2 ^ level a = 2 ^ level x * (2 * 2 ^ (level a - level x - 1)) := by
        rw [← Nat.mul_assoc, ← Nat.pow_succ, ← Nat.pow_add]
        congr 1
        omega
      have : a + x = 2 ^ level x * (2 * (2 ^ (level a - level x - 1) * c + m) + 1) := by
        conv => lhs; rw [hc, hm, e]
        rw [Nat.mul_add, Nat.mul_add, Nat.mul_add, Nat.mul_add, Nat.mul_assoc, Nat.mul_assoc]
        omega
      rw [level_of hxl this]
      omega

/-! ### Go's count of the zeros at the end -/

def tabZ : List Int := [0, 1, 56, 2, 57, 49, 28, 3, 61, 58, 42, 50, 38, 29, 17, 4, 62, 47, 59, 36, 45, 43, 51, 22, 53, 39, 33, 30, 24, 18, 12, 5, 63, 55, 48, 27, 60, 41, 37, 16, 46, 35, 44, 21, 52, 32, 23, 11, 54, 26, 40, 15, 34, 20, 31, 10, 25, 14, 19, 9, 13, 8, 7, 6]
theorem tab_at : ∀ k : Fin 64, tabZ[(2 ^ k.val * 0x03f79d71b4ca8b09 % 18446744073709551616) / 288230376151711744]? = some ((k.val : Nat) : Int) := by decide +kernel
theorem and_neg {k m : Nat} (h : 2 ^ k * (2 * m + 1) < 2 ^ 64) : (2 ^ k * (2 * m + 1)) &&& (2 ^ 64 - 2 ^ k * (2 * m + 1)) = 2 ^ k := by
  have hk : 0 < 2 ^ k := Nat.pow_pos (by decide)
  have hk64 : k < 64 := by
    refine Nat.lt_of_not_le fun hle => ?_
    have h1 : 2 ^ 64 ≤ 2 ^ k := Nat.pow_le_pow_right (by decide) hle
    have h2 : 2 ^ k ≤ 2 ^ k * (2 * m + 1) := Nat.le_mul_of_pos_right _ (by omega)
    omega
  obtain ⟨y, hy⟩ : ∃ y, 2 ^ k * (2 * m + 1) = y + 1 := ⟨2 ^ k * (2 * m + 1) - 1, by
    have : 2 ^ k ≤ 2 ^ k * (2 * m + 1) := Nat.le_mul_of_pos_right _ (by omega)
    omega⟩
  have hy2 : y = 2 ^ k * (2 * m) + (2 ^ k - 1) := by
    rw [Nat.mul_add] at hy
    omega
  apply Nat.eq_of_testBit_eq
  intro i
  have e1 : (2 ^ 64 - 2 ^ k * (2 * m + 1)).testBit i = (decide (i < 64) && !y.testBit i) := by
    rw [hy]
    exact Nat.testBit_two_pow_sub_succ (by omega) i
  have e2 : y.testBit i = if i < k then (2 ^ k - 1).testBit i else (2 * m).testBit (i - k) := by
    rw [hy2]
    exact Nat.testBit_two_pow_mul_add _ (by omega) i
  have e3 : (2 ^ k * (2 * m + 1)).testBit i = if i < k then false else (2 * m + 1).testBit (i - k) := by
    have := Nat.testBit_two_pow_mul_add (i := k) (2 * m + 1) (b := 0) (by omega) i
    rw [Nat.add_zero] at this
    rw [this]
    simp
  rw [Nat.testBit_and, e1, e2, e3, Nat.testBit_two_pow]
  by_cases hik : i < k
  · rw [if_pos hik, Bool.false_and, decide_eq_false (by omega)]
  · rw [if_neg hik, if_neg hik]
    by_cases he : i = k
    · subst he
      rw [Nat.sub_self, decide_eq_true hk64, decide_eq_true rfl]
      simp [Nat.testBit_zero]
    · rw [decide_eq_false (show ¬ k = i by omega)]
      obtain ⟨j, hj⟩ : ∃ j, i - k = j + 1 := ⟨i - k - 1, by omega⟩
      rw [hj, Nat.testBit_succ, Nat.testBit_succ]
      have d1 : (2 * m + 1) / 2 = m := by omega
      have d2 : 2 * m / 2 = m := by omega
      rw [d1, d2]
      cases m.testBit j <;> simp

end Go.Esc.M
