/- Own work. Chapter 2: hashes in digits. -/
import Derived.Test.YtdegdajfcnonfaaLHf
import Derived.Test.YtdegdajfcnonfaaHex
set_option linter.unusedSimpArgs false
set_option linter.unusedVariables false
namespace Go.Esc.M
open Go Go.Esc Go.Proofs

/-- What is read of a text. -/
def ParseS (t : List UInt8) (x : List UInt8 × Int) : Prop := (∃ h : List UInt8, h.length = 32 ∧ t = Lib.hexOf h ∧ x = (h, 0)) ∨ ((∀ h : List UInt8, h.length = 32 → t ≠ Lib.hexOf h) ∧ x = (List.replicate 32 0, 4))
def tupHI (x : List UInt8 × Int) : AVal := .tuple [.agg (x.1.map u8v), .int .i64 x.2]
theorem hi0 (x : List UInt8 × Int) : vextract (tupHI x) 0 = some (.agg (x.1.map u8v)) := rfl
theorem hi1 (x : List UInt8 × Int) : vextract (tupHI x) 1 = some (.int .i64 x.2) := rfl

theorem dig_idx : ∀ n : Fin 256, Lib.indexByte Lib.digits (UInt8.ofNat n.val) < 0 ∨ ∃ k : Fin 16, Lib.indexByte Lib.digits (UInt8.ofNat n.val) = (k.val : Int) ∧ Lib.digits.getD k.val 0 = UInt8.ofNat n.val := by decide +kernel
theorem dig_of (c : UInt8) : Lib.indexByte Lib.digits c < 0 ∨ ∃ k, k < 16 ∧ Lib.indexByte Lib.digits c = ((k : Nat) : Int) ∧ Lib.digits.getD k 0 = c := by
  have h := dig_idx ⟨c.toNat, c.toNat_lt⟩
  have e : UInt8.ofNat c.toNat = c := by simp
  rcases h with h | ⟨k, h1, h2⟩
  · left; rwa [e] at h
  · right; exact ⟨k.val, k.isLt, by rwa [e] at h1, by rwa [e] at h2⟩
theorem idx_dig : ∀ k : Fin 16, Lib.indexByte Lib.digits (Lib.digits.getD k.val 0) = (k.val : Int) := by decide +kernel
theorem idx_of {k : Nat} (hk : k < 16) : Lib.indexByte Lib.digits (Lib.digits.getD k 0) = (k : Int) := idx_dig ⟨k, hk⟩
theorem dig_inj {a b : Nat} (ha : a < 16) (hb : b < 16) (h : Lib.digits.getD a 0 = Lib.digits.getD b 0) : a = b := by
  have h1 := idx_of ha
  rw [h, idx_of hb] at h1
  omega

theorem length_hex : ∀ l : List UInt8, (Lib.hexOf l).length = 2 * l.length
  | [] => rfl
  | x :: l => by
    have ih := length_hex l
    simp only [Lib.hexOf, List.flatMap_cons, List.length_append] at ih ⊢
    rw [ih]
    simp
    omega
theorem hex_cons (b : UInt8) (l : List UInt8) : Lib.hexOf (b :: l) = Lib.digits.getD (b.toNat / 16) 0 :: Lib.digits.getD (b.toNat % 16) 0 :: Lib.hexOf l := rfl
/-- A text's digit at a place. -/
def nib (h : List UInt8) (i : Nat) : Nat := if i % 2 = 0 then (h.getD (i / 2) 0).toNat / 16 else (h.getD (i / 2) 0).toNat % 16
theorem nib_lt (h : List UInt8) (i : Nat) : nib h i < 16 := by
  unfold nib
  have := (h.getD (i / 2) 0).toNat_lt
  split <;> omega
theorem hex_get : ∀ (l : List UInt8) (i : Nat), i < 2 * l.length → (Lib.hexOf l)[i]? = some (Lib.digits.getD (nib l i) 0)
  | [], i, h => by simp at h
  | b :: l, 0, _ => rfl
  | b :: l, 1, _ => rfl
  | b :: l, i + 2, h => by
    have ih := hex_get l i (by simp at h; omega)
    rw [hex_cons, List.getElem?_cons_succ, List.getElem?_cons_succ, ih]
    unfold nib
    have e1 : (i + 2) % 2 = i % 2 := by omega
    have e2 : (i + 2) / 2 = i / 2 + 1 := by omega
    rw [e1, e2, List.getD_cons_succ]
theorem hex_inj : ∀ {a b : List UInt8}, Lib.hexOf a = Lib.hexOf b → a = b
  | [], [], _ => rfl
  | [], b :: l, h => by rw [hex_cons] at h; cases h
  | a :: l, [], h => by rw [hex_cons] at h; cases h
  | a :: l, b :: m, h => by
    rw [hex_cons, hex_cons] at h
    injection h with h1 h
    injection h with h2 h
    have ha := a.toNat_lt
    have hb := b.toNat_lt
    have e1 := dig_inj (by omega) (by omega) h1
    have e2 := dig_inj (by omega) (by omega) h2
    have : a.toNat = b.toNat := by omega
    rw [UInt8.toNat_inj.1 this, hex_inj h]
theorem hex_of : ∀ (n : Nat) (t : List UInt8), t.length = 2 * n → (∀ c ∈ t, ¬ Lib.indexByte Lib.digits c < 0) → ∃ h : List UInt8, h.length = n ∧ t = Lib.hexOf h
  | 0, t, hl, _ => ⟨[], rfl, by
    have : t = [] := by simpa using hl
    rw [this]
    rfl⟩
  | n + 1, t, hl, hd => by
    match t, hl with
    | a :: b :: t, hl =>
      obtain ⟨h, hhl, ht⟩ := hex_of n t (by simp at hl; omega) fun c hc => hd c (by simp [hc])
      obtain ⟨x, hx, _, hxa⟩ := (dig_of a).resolve_left (hd a (by simp))
      obtain ⟨y, hy, _, hyb⟩ := (dig_of b).resolve_left (hd b (by simp))
      refine ⟨UInt8.ofNat (16 * x + y) :: h, by simp [hhl], ?_⟩
      have e : (UInt8.ofNat (16 * x + y)).toNat = 16 * x + y := by simp; omega
      rw [hex_cons, e, ← ht, show (16 * x + y) / 16 = x by omega, show (16 * x + y) % 16 = y by omega, hxa, hyb]
theorem hex_digits {h : List UInt8} {c : UInt8} (hc : c ∈ Lib.hexOf h) : ¬ Lib.indexByte Lib.digits c < 0 := by
  obtain ⟨i, hi⟩ := List.getElem?_of_mem hc
  have hl := (List.getElem?_eq_some_iff.1 hi).1
  rw [length_hex] at hl
  rw [hex_get h i hl] at hi
  injection hi with hi
  rw [← hi, idx_of (nib_lt _ _)]
  omega

theorem ParseS.only {t : List UInt8} {x y : List UInt8 × Int} (h : ParseS t x) (k : ParseS t y) : x = y := by
  rcases h with ⟨a, ha, hat, hx⟩ | ⟨hn, hx⟩ <;> rcases k with ⟨b, hb, hbt, hy⟩ | ⟨hm, hy⟩
  · rw [hx, hy, hex_inj (hat.symm.trans hbt)]
  · exact absurd hat (hm a ha)
  · exact absurd hbt (hn b hb)
  · rw [hx, hy]
theorem ParseS.len {t : List UInt8} {x : List UInt8 × Int} (h : ParseS t x) : x.1.length = 32 := by
  rcases h with ⟨a, ha, _, hx⟩ | ⟨_, hx⟩
  · rw [hx]; exact ha
  · rw [hx]; rfl
theorem ParseS.hex {h : List UInt8} (hl : h.length = 32) : ParseS (Lib.hexOf h) (h, 0) := .inl ⟨h, hl, rfl, rfl⟩
theorem ParseS.bad {t : List UInt8} (h : t.length ≠ 64 ∨ ∃ c ∈ t, Lib.indexByte Lib.digits c < 0) : ParseS t (List.replicate 32 0, 4) := by
  refine .inr ⟨fun x hx e => ?_, rfl⟩
  rcases h with h | ⟨c, hc, hi⟩
  · exact h (by rw [e, length_hex, hx])
  · rw [e] at hc
    exact hex_digits hc hi

/-- A hash of which the first digits are read. -/
def pth (h : List UInt8) (i : Nat) : List UInt8 := (List.range 32).map fun k => if 2 * k + 2 ≤ i then h.getD k 0 else if 2 * k + 1 ≤ i then UInt8.ofNat ((h.getD k 0).toNat / 16) else 0
theorem length_pth (h : List UInt8) (i : Nat) : (pth h i).length = 32 := by simp [pth]
theorem pth_zero (h : List UInt8) : pth h 0 = List.replicate 32 0 := by
  unfold pth
  apply List.ext_getElem? 
  intro k
  rw [List.getElem?_map]
  by_cases hk : k < 32
  · rw [List.getElem?_range hk, Option.map_some, if_neg (by omega), if_neg (by omega), List.getElem?_replicate_of_lt hk]
  · rw [List.getElem?_eq_none (by simp; omega), List.getElem?_eq_none (by simp; omega)]
    rfl
theorem pth_get (h : List UInt8) {i k : Nat} (hk : k < 32) : (pth h i)[k]? = some (if 2 * k + 2 ≤ i then h.getD k 0 else if 2 * k + 1 ≤ i then UInt8.ofNat ((h.getD k 0).toNat / 16) else 0) := by
  unfold pth
  rw [List.getElem?_map, List.getElem?_range hk]
  rfl
theorem pth_full {h : List UInt8} (hl : h.length = 32) : pth h 64 = h := by
  apply List.ext_getElem?
  intro k
  by_cases hk : k < 32
  · rw [pth_get h hk, if_pos (by omega), List.getD_eq_getElem?_getD, List.getElem?_eq_getElem (show k < h.length by omega)]
    rfl
  · rw [List.getElem?_eq_none (by rw [length_pth]; omega), List.getElem?_eq_none (by omega)]
theorem pth_old (h : List UInt8) {i : Nat} (hi : i < 64) : ∃ o : UInt8, (pth h i)[i / 2]? = some o ∧ 16 * o.toNat + nib h i < 256 ∧ (pth h i).set (i / 2) (UInt8.ofNat (16 * o.toNat + nib h i)) = pth h (i + 1) := by
  have hk : i / 2 < 32 := by omega
  have hx := (h.getD (i / 2) 0).toNat_lt
  have hold : (if 2 * (i / 2) + 2 ≤ i then h.getD (i / 2) 0 else if 2 * (i / 2) + 1 ≤ i then UInt8.ofNat ((h.getD (i / 2) 0).toNat / 16) else 0).toNat = if i % 2 = 0 then 0 else (h.getD (i / 2) 0).toNat / 16 := by
    rw [if_neg (by omega)]
    by_cases hp : i % 2 = 0
    · rw [if_neg (by omega), if_pos hp]; rfl
    · rw [if_pos (by omega), if_neg hp, UInt8.toNat_ofNat']
      omega
  refine ⟨_, pth_get h hk, ?_, ?_⟩
  · rw [hold]
    unfold nib
    by_cases hp : i % 2 = 0
    · rw [if_pos hp, if_pos hp]; omega
    · rw [if_neg hp, if_neg hp]; omega
  · apply List.ext_getElem?
    intro k
    by_cases hk' : k < 32
    · by_cases hki : k = i / 2
      · subst hki
        rw [List.getElem?_set_self (by rw [length_pth]; omega), pth_get h hk']
        congr 1
        rw [hold]
        unfold nib
        by_cases hp : i % 2 = 0
        · rw [if_pos hp, if_pos hp, if_neg (by omega), if_pos (by omega), Nat.mul_zero, Nat.zero_add]
        · rw [if_neg hp, if_neg hp, if_pos (by omega), show 16 * ((h.getD (i / 2) 0).toNat / 16) + (h.getD (i / 2) 0).toNat % 16 = (h.getD (i / 2) 0).toNat by omega, UInt8.ofNat_toNat]
      · rw [List.getElem?_set_ne (by omega), pth_get h hk', pth_get h hk']
        congr 1
        by_cases hlt : k < i / 2
        · rw [if_pos (by omega), if_pos (by omega)]
        · rw [if_neg (by omega), if_neg (by omega), if_neg (by omega), if_neg (by omega)]
    · rw [List.getElem?_eq_none (by rw [List.length_set, length_pth]; omega), List.getElem?_eq_none (by rw [length_pth]; omega)]

end Go.Esc.M
