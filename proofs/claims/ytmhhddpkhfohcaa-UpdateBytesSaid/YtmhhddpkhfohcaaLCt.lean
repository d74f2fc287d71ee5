/- Own work. Chapter 3: texts on the wire. -/
import Derived.Test.YtmhhddpkhfohcaaLCs
set_option linter.unusedSimpArgs false
set_option linter.unusedVariables false
namespace Go.Esc.M
open Go Go.Esc

theorem num_be2 {n : Nat} (h : n ≤ 65535) : num (be 2 n) = n := by
  simp only [be, num, numA]
  simp
  omega

/-- A text as it is laid. -/
def wire (s : List UInt8) : List UInt8 := be 2 s.length ++ s
theorem length_wire (s : List UInt8) : (wire s).length = s.length + 2 := by simp [wire, length_be]; omega
theorem wire_take2 (s : List UInt8) : (wire s).take 2 = be 2 s.length := by
  unfold wire
  rw [List.take_left' (length_be _ _)]

theorem texts_two {b : List UInt8} {most : Int} (h : 2 ≤ b.length) : texts (b, 0) most = if most < num (b.take 2) then ([], ([], 3)) else takes (b.drop 2, 0) (num (b.take 2)) := by
  unfold texts
  by_cases hm : most < num (b.take 2)
  · rw [if_pos ⟨rfl, h, hm⟩, if_pos hm]
  · rw [if_neg (fun hh => hm hh.2.2), if_neg hm]
    have : takes (b, 0) 2 = (b.take 2, (b.drop 2, 0)) := by
      unfold takes
      have hl : ¬ ((b.length : Int) < 2) := by omega
      simp [hl]
    rw [this]

theorem texts_short {b : List UInt8} {most : Int} (h : b.length < 2) : texts (b, 0) most = ([], ([], 2)) := by
  unfold texts
  rw [if_neg (fun hh => absurd hh.2.1 (Nat.not_le.2 h))]
  have : takes (b, 0) 2 = ([], ([], 2)) := by
    unfold takes
    have hl : (b.length : Int) < 2 := by omega
    simp [hl]
  rw [this]
  simp [takes]

theorem texts_wire {s more : List UInt8} {most : Int} (h : s.length ≤ 65535) : texts (wire s ++ more, 0) most = if most < s.length then ([], ([], 3)) else (s, (more, 0)) := by
  rw [texts_two (by simp [length_wire]; omega)]
  have h1 : (wire s ++ more).take 2 = be 2 s.length := by
    rw [List.take_append_of_le_length (by rw [length_wire]; omega), wire_take2]
  rw [h1, num_be2 h]
  by_cases hm : most < s.length
  · rw [if_pos hm, if_pos hm]
  · rw [if_neg hm, if_neg hm]
    have h2 : (wire s ++ more).drop 2 = s ++ more := by
      unfold wire
      rw [List.append_assoc, List.drop_left' (length_be _ _)]
    rw [h2]
    unfold takes
    have hl : ¬ (((s ++ more).length : Int) < s.length) := by rw [List.length_append]; omega
    simp only [if_true]
    rw [if_neg hl]
    simp

theorem takes_broken {st : List UInt8 × Int} {n : Int} (h : st.2 ≠ 0) : takes st n = ([], st) := by simp [takes, h]
theorem texts_broken {st : List UInt8 × Int} {n : Int} (h : st.2 ≠ 0) : texts st n = ([], st) := by
  unfold texts
  rw [if_neg (fun hh => h hh.1), takes_broken h, takes_broken h]

theorem laidText_new {s : List UInt8} (h : s.length ≤ 65535) : laidText ([], 0) s = (wire s, 0) := by
  have : ¬ 65535 < s.length := by omega
  simp [laidText, laid, this, wire]

theorem takes_app {a b : List UInt8} {n : Int} (h : (a.length : Int) = n) : takes (a ++ b, 0) n = (a, (b, 0)) := by
  subst h
  unfold takes
  have hl : ¬ (((a ++ b).length : Int) < a.length) := by rw [List.length_append]; omega
  simp only [if_true]
  rw [if_neg hl]
  simp

end Go.Esc.M
