/- Own work. Chapter 8: AmountParts. -/
import Derived.Test.YtfcfjlijkmcgmaaLAmBack
import Derived.Test.YtfcfjlijkmcgmaaEY
set_option linter.unusedSimpArgs false
set_option linter.unusedVariables false
namespace Go.Esc.M
open Go Go.Esc

/-- When a list's sum is an amount. -/
def sumsUp (n : Int) (xs : List Int) : Prop := (∀ x ∈ xs, right x = true) ∧ right (n + xs.sum) = true

theorem sum_nonneg : ∀ {xs : List Int}, (∀ x ∈ xs, right x = true) → 0 ≤ xs.sum
  | [], _ => by simp
  | x :: xs, h => by
    have h1 := right_spec.1 (h x (by simp))
    have h2 := sum_nonneg (xs := xs) fun y hy => h y (by simp [hy])
    simp only [List.sum_cons]
    omega

theorem sumFrom_no : ∀ {xs : List Int} {n : Int}, right n = true → ¬ sumsUp n xs → sumFrom n xs = (0, 80)
  | [], n, hn, h => by
    refine absurd ⟨by simp, ?_⟩ h
    simpa using hn
  | x :: xs, n, hn, h => by
    unfold sumFrom
    by_cases hp : right n = true ∧ right x = true ∧ right (n + x) = true
    · rw [plus_ok hp]
      simp only [if_true]
      refine sumFrom_no hp.2.2 fun hs => h ⟨fun y hy => ?_, ?_⟩
      · rcases List.mem_cons.1 hy with rfl | hy
        · exact hp.2.1
        · exact hs.1 y hy
      · rw [List.sum_cons, ← Int.add_assoc]; exact hs.2
    · rw [plus_no hp]
      simp

theorem sumFrom_ok : ∀ {xs : List Int} {n : Int}, right n = true → sumsUp n xs → sumFrom n xs = (n + xs.sum, 0)
  | [], n, hn, h => by simp [sumFrom]
  | x :: xs, n, hn, h => by
    unfold sumFrom
    have hx := h.1 x (by simp)
    have h1 := right_spec.1 hn
    have h2 := right_spec.1 hx
    have h3 := sum_nonneg (xs := xs) fun y hy => h.1 y (by simp [hy])
    have h4 := right_spec.1 h.2
    rw [List.sum_cons] at h4
    have hp : right n = true ∧ right x = true ∧ right (n + x) = true := ⟨hn, hx, right_spec.2 (by omega)⟩
    rw [plus_ok hp]
    simp only [if_true]
    rw [sumFrom_ok hp.2.2 ⟨fun y hy => h.1 y (by simp [hy]), by rw [Int.add_assoc, ← List.sum_cons]; exact h.2⟩, List.sum_cons, Int.add_assoc]

theorem right_zero : right 0 = true := by decide

theorem sum_reverse_int (xs : List Int) : xs.reverse.sum = xs.sum := by
  induction xs with
  | nil => rfl
  | cons x xs ih => simp [ih, Int.add_comm]

theorem sumFrom_reverse (xs : List Int) : sumFrom 0 xs.reverse = sumFrom 0 xs := by
  have hiff : sumsUp 0 xs.reverse ↔ sumsUp 0 xs := by simp [sumsUp, sum_reverse_int]
  by_cases h : sumsUp 0 xs
  · rw [sumFrom_ok right_zero h, sumFrom_ok right_zero (hiff.2 h), sum_reverse_int]
  · rw [sumFrom_no right_zero h, sumFrom_no right_zero (fun hh => h (hiff.1 hh))]

theorem sumFrom_parts (xs ys : List Int) :
    (¬ sumsUp 0 xs ∨ ¬ sumsUp 0 ys → sumFrom 0 (xs ++ ys) = (0, 80)) ∧ (sumsUp 0 xs → sumsUp 0 ys → plus xs.sum ys.sum = sumFrom 0 (xs ++ ys)) := by
  have hin : sumsUp 0 (xs ++ ys) → sumsUp 0 xs ∧ sumsUp 0 ys := by
    intro h
    have hx : ∀ x ∈ xs, right x = true := fun x hx => h.1 x (by simp [hx])
    have hy : ∀ x ∈ ys, right x = true := fun x hx => h.1 x (by simp [hx])
    have h1 := sum_nonneg hx
    have h2 := sum_nonneg hy
    have h3 := right_spec.1 h.2
    rw [List.sum_append] at h3
    exact ⟨⟨hx, right_spec.2 (by omega)⟩, ⟨hy, right_spec.2 (by omega)⟩⟩
  refine ⟨fun h => sumFrom_no right_zero fun hh => ?_, fun h1 h2 => ?_⟩
  · rcases h with h | h
    · exact h (hin hh).1
    · exact h (hin hh).2
  · have e1 := h1.2
    have e2 := h2.2
    rw [Int.zero_add] at e1 e2
    by_cases h : right (xs.sum + ys.sum) = true
    · have hs : sumsUp 0 (xs ++ ys) := ⟨fun x hx => by
        rcases List.mem_append.1 hx with hx | hx
        · exact h1.1 x hx
        · exact h2.1 x hx, by rw [List.sum_append, Int.zero_add]; exact h⟩
      rw [plus_ok ⟨e1, e2, h⟩, sumFrom_ok right_zero hs, List.sum_append, Int.zero_add]
    · rw [plus_no (fun hh => h hh.2.2), sumFrom_no right_zero fun hh => h ?_]
      have := hh.2
      rw [List.sum_append, Int.zero_add] at this
      exact this

set_option maxRecDepth 20000 in
theorem law_AmountParts {G : Heap} {l at_ : AVal} {ml ma : Nat} (hl : wt T G reachBytes 4 t_sl_int64 l ml) (ha : wt T G reachBytes 4 t_int at_ ma) : ACalls P escrowlaw08_AmountParts.n [l, at_] G fun v _ => v = .bool true := by
  obtain ⟨xs, hro, hwf, hR, _⟩ := wt_roInts T_sl_int64 rfl T_int64 rfl hl
  obtain ⟨a, rfl, hawf, _⟩ := wt_int T_int rfl ha
  have hlen : xs.length * 8 ≤ 140737488351232 := hR
  refine escrowlaw08_AmountParts.sound ?_
  unfold escrowlaw08_AmountParts.S
  refine escrowlaw08_first.use fun G' hle => ?_
  have hro' := hro.mono (RoLe.of_le hle)
  rw [hro'.is.len (i := ti_sl_int64) T_sl_int64 rfl, vconv_int T_int T_uint rfl]
  simp -zeta only [vun_not, wv_some, Bool.not_true, brB_false, List.length_map, vbin_add]
  rw [i64_in (n := (xs.length : Int) + 1) (by omega) (by omega), vconv_int T_int T_uint rfl]
  simp -zeta only [wv_some]
  rw [u64_in (n := (xs.length : Int) + 1) (by omega) (by omega), vbin_rem _ _ _ _ _ (by omega)]
  simp -zeta only [wv_some]
  have hu0 : 0 ≤ IntKind.u64.wrap a := by
    have := u64_wf.1 (wf_wrap .u64 a)
    exact this.1
  obtain ⟨m, hm, hmle⟩ : ∃ m : Nat, (IntKind.u64.wrap a).tmod ((xs.length : Int) + 1) = m ∧ m ≤ xs.length := by
    refine ⟨((IntKind.u64.wrap a).tmod ((xs.length : Int) + 1)).toNat, ?_, ?_⟩
    · have := Int.tmod_nonneg ((xs.length : Int) + 1) hu0
      omega
    · have := Int.tmod_lt_of_pos (IntKind.u64.wrap a) (b := (xs.length : Int) + 1) (by omega)
      have := Int.tmod_nonneg ((xs.length : Int) + 1) hu0
      omega
  rw [hm, vconv_int T_uint T_int rfl]
  simp -zeta only [wv_some, vbin_sub]
  rw [i64_in (n := (m : Int)) (by omega) (by omega), i64_in (n := (xs.length : Int) - 1) (by omega) (by omega)]
  intro Rr hRr
  have loop : ∀ (j : Nat) (s : AVal) (Gj : Heap), j ≤ xs.length → RoLe G' Gj → Own 1 Gj s ((xs.drop j).reverse.map (.int .i64)) → Rr [l, .int .i64 m, s, .int .i64 ((j : Int) - 1)] Gj := by
    intro j
    induction j with
    | zero =>
      intro s Gj _ hle hown
      have hroj := hro'.mono hle
      refine hRr _ _ _ _ _ ?_
      simp -zeta only [vbin_geq, wv_some, brB_dec]
      refine ⟨fun h => absurd h (by omega), fun _ => ?_⟩
      refine amount_Sum.use hroj.is (by omega) ?_
      simp -zeta only [pair0, pair1, wv_some]
      refine amount_Sum.use (xs := xs.reverse) (by simpa using hown.is) (by simp; omega) ?_
      simp -zeta only [pair0, pair1, wv_some, sumFrom_reverse]
      obtain ⟨v1, hv1, hr1⟩ := hroj.take (T := T) (t := t_sl_int64) (e := t_int64) (i := ti_sl_int64) (ie := ti_int64) T_sl_int64 rfl T_int64 (k := .i64) (m := m) (by simpa using hmle)
      obtain ⟨v2, hv2, hr2⟩ := hroj.drop (T := T) (t := t_sl_int64) (e := t_int64) (i := ti_sl_int64) (ie := ti_int64) T_sl_int64 rfl T_int64 (k := .i64) (m := m) (by simpa using hmle)
      rw [hv1]
      simp -zeta only [wv_some]
      refine amount_Sum.use (xs := xs.take m) (by rw [List.map_take]; exact hr1.is) (by simp; omega) ?_
      simp -zeta only [pair0, pair1, wv_some, hv2]
      refine amount_Sum.use (xs := xs.drop m) (by rw [List.map_drop]; exact hr2.is) (by simp; omega) ?_
      simp -zeta only [pair0, pair1, wv_some]
      obtain ⟨hp1, hp2⟩ := sumFrom_parts (xs.take m) (xs.drop m)
      rw [List.take_append_drop] at hp1 hp2
      intro J65
      have h65 : J65 (.bool false) Gj := by
        simp -zeta only [J65, brB_false]
        intro J64
        by_cases h1 : sumsUp 0 (xs.take m)
        · by_cases h2 : sumsUp 0 (xs.drop m)
          · have h64 : J64 (.bool false) Gj := by
              simp -zeta only [J64, brB_false]
              rw [sumFrom_ok right_zero h1, sumFrom_ok right_zero h2]
              simp only [Int.zero_add]
              refine amount_Plus.use ?_
              rw [hp2 h1 h2]
              simp [pair0, pair1]
            rw [sumFrom_ok right_zero h1, sumFrom_ok right_zero h2]
            simp -zeta only [vbin_neq, wv_some, decide_true, Bool.not_true, brB_false]
            exact h64
          · have h64 : J64 (.bool true) Gj := by
              simp -zeta only [J64, brB_true, hp1 (.inr h2), vbin_eql, wv_some, decide_true]
            rw [sumFrom_ok right_zero h1, sumFrom_no right_zero h2]
            simpa using h64
        · have h64 : J64 (.bool true) Gj := by
            simp -zeta only [J64, brB_true, hp1 (.inl h1), vbin_eql, wv_some, decide_true]
          rw [sumFrom_no right_zero h1]
          simpa using h64
      simp -zeta only [vbin_neq, wv_some, decide_true, Bool.not_true, brB_false]
      by_cases h : sumsUp 0 xs
      · rw [sumFrom_ok right_zero h]
        simpa using h65
      · rw [sumFrom_no right_zero h]
        simpa using h65
    | succ j ih =>
      intro s Gj hj hle hown
      have hroj := hro'.mono hle
      refine hRr _ _ _ _ _ ?_
      simp -zeta only [vbin_geq, wv_some, brB_dec]
      refine ⟨fun _ => ?_, fun h => absurd (by omega) h⟩
      have hx : xs[j]? = some xs[j] := List.getElem?_eq_getElem (by omega)
      obtain ⟨p, hp, hl⟩ := hroj.is.at_ (k := .i64) (j := j) (c := .int .i64 xs[j]) (i := ti_sl_int64) (ie := ti_int64) (T := T) (t := t_sl_int64) (e := t_int64) T_sl_int64 rfl T_int64 (by simp [hx]) rfl
      have ej : ((j + 1 : Nat) : Int) - 1 = (j : Int) := by omega
      rw [ej, hp]
      simp -zeta only [wv_some, hl]
      have hdl : (xs.drop (j + 1)).length ≤ xs.length := by simp
      refine append1 (T := T) (ts := t_sl_int64) (e := t_int64) (si := ti_sl_int64) (ie := ti_int64) T_sl_int64 rfl T_int64 rfl (by decide) hown rfl rfl (by decide) ?_ fun s' G2 ho hk => ?_
      · simp only [List.length_map, List.length_reverse, ti_int64]
        omega
      · simp -zeta only [vbin_sub, wv_some]
        rw [i64_in (by omega) (by omega)]
        refine ih s' G2 (by omega) (hle.trans hk.ro) ?_
        have hdrop : xs.drop j = xs[j] :: xs.drop (j + 1) := List.drop_eq_getElem_cons (by omega)
        rw [hdrop, List.reverse_cons, List.map_append]
        exact ho
  exact loop xs.length .nilSlice G' (by omega) (RoLe.refl _) (.inl ⟨rfl, by simp⟩)

end Go.Esc.M
