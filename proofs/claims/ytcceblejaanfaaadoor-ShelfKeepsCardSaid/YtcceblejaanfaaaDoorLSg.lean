/- Own work. Chapter 9: SeedTree, SeedSteps, SeedEdges. -/
import Derived.Test.YtcceblejaanfaaaDoorLSf
set_option linter.unusedSimpArgs false
set_option linter.unusedVariables false
namespace Go.Esc.M
open Go Go.Esc

theorem near_pl {a : Int} {x : Nat} (ha : okN a = true) (hx : x < 2 ^ level (pl a)) : okN (a - (x : Int)) = true ∧ pl (a - (x : Int)) = pl a + x := by
  obtain ⟨h1, h2⟩ := pl_eq ha
  have hk := level_le (pl a)
  obtain ⟨c, hc⟩ := level_dvd (pl a)
  have e48 : (2 : Nat) ^ 48 = 281474976710656 := by decide
  have hle : pl a + 2 ^ level (pl a) ≤ 2 ^ 48 := by
    have e : (2 : Nat) ^ 48 = 2 ^ level (pl a) * 2 ^ (48 - level (pl a)) := by rw [← Nat.pow_add]; congr 1; omega
    have hc2 : 2 ^ level (pl a) * c < 2 ^ level (pl a) * 2 ^ (48 - level (pl a)) := by rw [← hc, ← e]; exact h2
    have hlt : c < 2 ^ (48 - level (pl a)) := Nat.lt_of_mul_lt_mul_left hc2
    have : 2 ^ level (pl a) * (c + 1) ≤ 2 ^ level (pl a) * 2 ^ (48 - level (pl a)) := Nat.mul_le_mul_left _ hlt
    rw [Nat.mul_add, Nat.mul_one, ← hc, ← e] at this
    exact this
  have h0 := okN_iff.1 ha
  refine ⟨okN_iff.2 ⟨by omega, by omega⟩, ?_⟩
  have : pl (a - (x : Int)) = (281474976710655 - (a - (x : Int))).toNat := rfl
  rw [this]
  omega
theorem okN_mod (n : Int) : okN (n % 281474976710656) = true := by
  have h1 := Int.emod_nonneg n (show (281474976710656 : Int) ≠ 0 by decide)
  have h2 := Int.emod_lt_of_pos n (show (0 : Int) < 281474976710656 by decide)
  exact okN_iff.2 ⟨h1, by omega⟩
theorem derive_ok {s : List UInt8} {a b : Int} (ha : okN a = true) (hb : okN b = true) (h : pl a / 2 ^ level (pl a) = pl b / 2 ^ level (pl a)) : deriveS s a b = (downS (pl b) (level (pl a)) s, 0) := by
  unfold deriveS
  rw [ha, hb, if_pos h]
  rfl
theorem derive_no {s : List UInt8} {a b : Int} (ha : okN a = true) (hb : okN b = true) (h : ¬ pl a / 2 ^ level (pl a) = pl b / 2 ^ level (pl a)) : deriveS s a b = (zero32, 5) := by
  unfold deriveS
  rw [ha, hb, if_neg h]
  rfl
theorem derive_bad {s : List UInt8} {a b : Int} (h : okN a = false ∨ okN b = false) : deriveS s a b = (zero32, 90) := by
  unfold deriveS
  rcases h with h | h <;> rw [h] <;> simp
theorem secret_ok {s : List UInt8} {a : Int} (ha : okN a = true) : secretS s a = (downS (pl a) 48 s, 0) := by
  unfold secretS
  rw [ha]
  rfl
theorem level_ok {a : Int} (ha : okN a = true) : levelS a = (((level (pl a) : Nat) : Int), 0) := by
  unfold levelS
  rw [ha]
  rfl
theorem shlI {k : Nat} (hk : k ≤ 48) {t : TypeId} {T : Tbl} : vbin T .shl t (.int .i64 1) (.int .u64 (k : Int)) = some (.int .i64 ((2 ^ k : Nat) : Int)) := by
  rw [vbin_shl _ _ _ _ _ _ (by omega)]
  have h1 : min (k : Int).toNat IntKind.i64.bits = k := by
    have : IntKind.i64.bits = 64 := rfl
    omega
  have h2 : ((2 : Int) ^ k) = ((2 ^ k : Nat) : Int) := by simp
  have h3 : 2 ^ k ≤ 2 ^ 48 := Nat.pow_le_pow_right (by decide) hk
  have e48 : (2 : Nat) ^ 48 = 281474976710656 := by decide
  rw [h1, h2, Int.one_mul]
  obtain ⟨q, hq⟩ : ∃ q, q = 2 ^ k := ⟨_, rfl⟩
  rw [← hq] at h3 ⊢
  rw [i64_in (by omega) (by omega)]
theorem powSub {k : Nat} (hk : k ≤ 48) {t : TypeId} {T : Tbl} : vbin T .sub t (.int .i64 ((2 ^ k : Nat) : Int)) (.int .i64 1) = some (.int .i64 (((2 ^ k : Nat) : Int) - 1)) := by
  have h3 : 2 ^ k ≤ 2 ^ 48 := Nat.pow_le_pow_right (by decide) hk
  have e48 : (2 : Nat) ^ 48 = 281474976710656 := by decide
  obtain ⟨q, hq⟩ : ∃ q, q = 2 ^ k := ⟨_, rfl⟩
  rw [← hq] at h3 ⊢
  rw [vbin_sub, i64_in (by omega) (by omega)]
theorem maskI (n : Int) {k : Nat} (hk : k ≤ 48) {t : TypeId} {T : Tbl} : ∃ x : Nat, x < 2 ^ k ∧ vbin T .and t (.int .i64 n) (.int .i64 (((2 ^ k : Nat) : Int) - 1)) = some (.int .i64 (x : Int)) := by
  have h := and_mask n k (by omega)
  have hpos : 0 < 2 ^ k := Nat.pow_pos (by decide)
  have e1 : ((2 ^ k - 1 : Nat) : Int) = ((2 ^ k : Nat) : Int) - 1 := by omega
  rw [e1] at h
  have h1 := Int.emod_nonneg n (show ((2 ^ k : Nat) : Int) ≠ 0 by omega)
  have h2 := Int.emod_lt_of_pos n (show (0 : Int) < ((2 ^ k : Nat) : Int) by omega)
  refine ⟨(n % ((2 ^ k : Nat) : Int)).toNat, by omega, ?_⟩
  rw [vbin_and, h]
  congr 2
  omega

section
variable {F0 : List AId} {G0 G : Heap} {ps : List LP} {Q : AVal → Heap → Prop}

theorem hang_iff {a b : Int} (ha : okN a = true) (hb : okN b = true) : (b ≤ a ∧ a - b < ((2 ^ level (pl a) : Nat) : Int)) ↔ pl a / 2 ^ level (pl a) = pl b / 2 ^ level (pl a) := by
  obtain ⟨h1, _⟩ := pl_eq ha
  obtain ⟨h2, _⟩ := pl_eq hb
  rw [near_iff (level_dvd _)]
  omega

end

theorem pl_last : pl 281474976710655 = 0 := by decide
theorem ok_last : okN 281474976710655 = true := by decide

theorem uni_i64 (l : List Int) : uni 1 (l.map (AVal.int .i64)) = true := by
  rw [uni, List.all_eq_true]
  intro v hv
  obtain ⟨x, _, rfl⟩ := List.mem_map.1 hv
  simp [sz]
theorem ok_i64 (l : List Int) : okvs (l.map (AVal.int .i64)) = true := by
  induction l with
  | nil => rfl
  | cons a l ih => rw [List.map_cons, okvs, ih]; simp [okv]

end Go.Esc.M
