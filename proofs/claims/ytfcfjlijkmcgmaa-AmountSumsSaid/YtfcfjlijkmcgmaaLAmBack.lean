/- Own work. Chapter 8: AmountBack. -/
import Derived.Test.YtfcfjlijkmcgmaaLAm
set_option linter.unusedSimpArgs false
set_option linter.unusedVariables false
namespace Go.Esc.M
open Go Go.Esc

theorem plus_comm (a b : Int) : plus b a = plus a b := by
  unfold plus
  rw [Int.add_comm b a]
  by_cases h1 : right a = true <;> by_cases h2 : right b = true <;> simp [h1, h2]

theorem plus_ok {a b : Int} (h : right a = true ∧ right b = true ∧ right (a + b) = true) : plus a b = (a + b, 0) := by simp [plus, h]
theorem plus_no {a b : Int} (h : ¬ (right a = true ∧ right b = true ∧ right (a + b) = true)) : plus a b = (0, 80) := by simp -zeta only [plus, if_neg h]
theorem minus_ok {a b : Int} (h : right a = true ∧ right b = true ∧ b ≤ a) : minus a b = (a - b, 0) := by simp [minus, h]
theorem minus_no {a b : Int} (h : ¬ (right a = true ∧ right b = true ∧ b ≤ a)) : minus a b = (0, 80) := by simp -zeta only [minus, if_neg h]

theorem law_AmountBack {R : Nat} {G : Heap} {a b : AVal} {ma mb : Nat} (ha : wt T G R 4 t_int64 a ma) (hb : wt T G R 4 t_int64 b mb) : ACalls P escrowlaw08_AmountBack.n [a, b] G fun v _ => v = .bool true := by
  obtain ⟨a, rfl, _⟩ := wt_int T_int64 rfl ha
  obtain ⟨b, rfl, _⟩ := wt_int T_int64 rfl hb
  refine escrowlaw08_AmountBack.sound ?_
  unfold escrowlaw08_AmountBack.S
  refine escrowlaw08_first.use fun G' hle => ?_
  simp -zeta only [vun_not, wv_some, Bool.not_true, brB_false]
  refine amount_Plus.use ?_
  simp -zeta only [pair0, pair1, wv_some]
  refine amount_Plus.use ?_
  simp -zeta only [pair0, pair1, wv_some, plus_comm a b]
  intro J66
  have h66 : J66 (.bool false) G' := by
    simp -zeta only [J66, brB_false, vbin_eql, wv_some]
    intro J65
    have h65 : ∀ G, J65 G := by
      intro G
      simp -zeta only [J65]
      refine amount_Minus.use ?_
      by_cases h : right a = true ∧ right b = true ∧ b ≤ a
      · have h1 := right_spec.1 h.1
        have h2 := right_spec.1 h.2.1
        simp -zeta only [minus_ok h, pair0, pair1, wv_some, vbin_neq, decide_true, Bool.not_true, brB_false]
        refine amount_Plus.use ?_
        rw [plus_ok ⟨right_spec.2 (by omega), h.2.1, right_spec.2 (by omega)⟩]
        have e0 : a - b + b = a := by omega
        have e1 : 0 ≤ a - b := by omega
        have e2 : a - b ≤ a := by omega
        simp only [pair0, pair1, wv_some, vbin_eql, vbin_geq, vbin_leq, e0, e1, e2, decide_true, brB_true]
      · simp -zeta only [minus_no h, pair0, pair1, wv_some, vbin_neq, vbin_eql, vbin_lss, vbin_gtr, brB_ndec, brB_dec]
        simp only [right_spec] at h
        simp
        omega
    by_cases h : right a = true ∧ right b = true ∧ right (a + b) = true
    · have h1 := right_spec.1 h.1
      have h2 := right_spec.1 h.2.1
      have h3 := right_spec.1 h.2.2
      simp -zeta only [plus_ok h, decide_true, brB_true]
      refine amount_Minus.use ?_
      simp -zeta only [pair0, pair1, wv_some]
      refine amount_Minus.use ?_
      rw [minus_ok ⟨h.2.2, h.2.1, by omega⟩, minus_ok ⟨h.2.2, h.1, by omega⟩]
      simp -zeta only [pair0, pair1, wv_some]
      intro J39
      have h39 : J39 (.bool false) G' := by
        simp -zeta only [J39, brB_false]
        exact h65 _
      have e1 : a + b - b = a := by omega
      have e2 : a + b - a = b := by omega
      have c1 : ¬ a + b < a := by omega
      have c2 : ¬ a + b < b := by omega
      have c3 : ¬ 1152921504606846976 < a + b := by omega
      have c4 : ¬ a < 0 := by omega
      have c5 : ¬ b < 0 := by omega
      simp -zeta only [e1, e2, vbin_neq, vbin_lss, vbin_gtr, wv_some, decide_true, Bool.not_true, brB_false, c1, c2, c3, c4, c5, decide_false]
      exact h39
    · simp -zeta only [plus_no h]
      exact h65 _
  by_cases h : right a = true ∧ right b = true ∧ right (a + b) = true
  · simp -zeta only [plus_ok h, vbin_neq, wv_some, decide_true, Bool.not_true, brB_false]
    exact h66
  · simp -zeta only [plus_no h, vbin_neq, wv_some, decide_true, Bool.not_true, brB_false]
    simpa using h66

end Go.Esc.M
