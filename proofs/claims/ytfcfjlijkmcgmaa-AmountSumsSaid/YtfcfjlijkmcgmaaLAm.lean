/- Own work. Chapter 8: amounts: what each function answers. -/
import Derived.Test.YtfcfjlijkmcgmaaEX
import Derived.Test.YtfcfjlijkmcgmaaS0
set_option linter.unusedSimpArgs false
set_option linter.unusedVariables false
namespace Go.Esc.M
open Go Go.Esc

/-- An amount: 0 to 2^60. -/
def right (a : Int) : Bool := decide (0 ≤ a ∧ a ≤ 1152921504606846976)

theorem amount_Right.use {a : Int} {G : Heap} {Q : AVal → Heap → Prop} (h : Q (.bool (right a)) G) : ACalls P amount_Right.n [.int .i64 a] G Q := by
  refine amount_Right.sound ?_
  simp only [amount_Right.S, vbin_geq, vbin_leq, wv_some, brB_dec]
  constructor
  · intro h0
    simpa [right, h0] using h
  · intro h0
    simpa [right, h0] using h

theorem escrowref08_Right.use {a : Int} {G : Heap} {Q : AVal → Heap → Prop} (h : Q (.bool (right a)) G) : ACalls P escrowref08_Right.n [.int .i64 a] G Q := by
  refine escrowref08_Right.sound ?_
  simp only [escrowref08_Right.S, vbin_geq, vbin_leq, wv_some, brB_dec]
  constructor
  · intro h0
    simpa [right, h0] using h
  · intro h0
    simpa [right, h0] using h

/-- A sum and its fault; a difference and its fault. -/
def plus (a b : Int) : Int × Int := if right a = true ∧ right b = true ∧ right (a + b) = true then (a + b, 0) else (0, 80)
def minus (a b : Int) : Int × Int := if right a = true ∧ right b = true ∧ b ≤ a then (a - b, 0) else (0, 80)

def pairV (p : Int × Int) : AVal := .tuple [.int .i64 p.1, .int .i64 p.2]

theorem right_spec {a : Int} : right a = true ↔ 0 ≤ a ∧ a ≤ 1152921504606846976 := by simp [right]

theorem plus_core {a b : Int} {Q : AVal → Prop} (h : Q (pairV (plus a b))) :
    brB (some (.bool (!right a))) (Q (.tuple [.int .i64 0, .int .i64 80])) (brB (some (.bool (!right b))) (Q (.tuple [.int .i64 0, .int .i64 80]))
      (brB (some (.bool (!right (IntKind.i64.wrap (a + b))))) (Q (.tuple [.int .i64 0, .int .i64 80])) (Q (.tuple [.int .i64 (IntKind.i64.wrap (a + b)), .int .i64 0])))) := by
  cases ha : right a with
  | false => simpa [plus, ha, pairV] using h
  | true =>
    cases hb : right b with
    | false => simpa [plus, ha, hb, pairV] using h
    | true =>
      have h1 := right_spec.1 ha
      have h2 := right_spec.1 hb
      rw [i64_in (by omega) (by omega)]
      cases hc : right (a + b) <;> simpa [plus, ha, hb, hc, pairV] using h

theorem minus_core {a b : Int} {Q : AVal → Prop} (h : Q (pairV (minus a b))) :
    brB (some (.bool (!right a))) (Q (.tuple [.int .i64 0, .int .i64 80])) (brB (some (.bool (!right b))) (Q (.tuple [.int .i64 0, .int .i64 80]))
      (brB (some (.bool (decide (a < b)))) (Q (.tuple [.int .i64 0, .int .i64 80])) (Q (.tuple [.int .i64 (IntKind.i64.wrap (a - b)), .int .i64 0])))) := by
  cases ha : right a with
  | false => simpa [minus, ha, pairV] using h
  | true =>
    cases hb : right b with
    | false => simpa [minus, ha, hb, pairV] using h
    | true =>
      have h1 := right_spec.1 ha
      have h2 := right_spec.1 hb
      rw [i64_in (by omega) (by omega)]
      by_cases hc : a < b
      · have : ¬ b ≤ a := by omega
        simpa [minus, ha, hb, hc, this, pairV] using h
      · have : b ≤ a := by omega
        simpa [minus, ha, hb, hc, this, pairV] using h

theorem amount_Plus.use {a b : Int} {G : Heap} {Q : AVal → Heap → Prop} (h : Q (pairV (plus a b)) G) : ACalls P amount_Plus.n [.int .i64 a, .int .i64 b] G Q := by
  refine amount_Plus.sound ?_
  unfold amount_Plus.S
  refine amount_Right.use ?_
  have key := plus_core (a := a) (b := b) (Q := fun v => Q v G) h
  cases ha : right a with
  | false => simpa [ha] using key
  | true =>
    simp only [vun_not, wv_some, Bool.not_true, brB_false]
    refine amount_Right.use ?_
    cases hb : right b with
    | false => simpa [ha, hb] using key
    | true =>
      simp only [vun_not, wv_some, Bool.not_true, brB_false, vbin_add]
      refine amount_Right.use ?_
      simpa [ha, hb] using key

theorem escrowref08_Plus.use {a b : Int} {G : Heap} {Q : AVal → Heap → Prop} (h : Q (pairV (plus a b)) G) : ACalls P escrowref08_Plus.n [.int .i64 a, .int .i64 b] G Q := by
  refine escrowref08_Plus.sound ?_
  unfold escrowref08_Plus.S
  refine escrowref08_Right.use ?_
  have key := plus_core (a := a) (b := b) (Q := fun v => Q v G) h
  cases ha : right a with
  | false => simpa [ha] using key
  | true =>
    simp only [vun_not, wv_some, Bool.not_true, brB_false]
    refine escrowref08_Right.use ?_
    cases hb : right b with
    | false => simpa [ha, hb] using key
    | true =>
      simp only [vun_not, wv_some, Bool.not_true, brB_false, vbin_add]
      refine escrowref08_Right.use ?_
      simpa [ha, hb] using key

theorem amount_Minus.use {a b : Int} {G : Heap} {Q : AVal → Heap → Prop} (h : Q (pairV (minus a b)) G) : ACalls P amount_Minus.n [.int .i64 a, .int .i64 b] G Q := by
  refine amount_Minus.sound ?_
  unfold amount_Minus.S
  refine amount_Right.use ?_
  have key := minus_core (a := a) (b := b) (Q := fun v => Q v G) h
  cases ha : right a with
  | false => simpa [ha] using key
  | true =>
    simp only [vun_not, wv_some, Bool.not_true, brB_false]
    refine amount_Right.use ?_
    cases hb : right b with
    | false => simpa [ha, hb] using key
    | true => simpa [ha, hb] using key

theorem escrowref08_Minus.use {a b : Int} {G : Heap} {Q : AVal → Heap → Prop} (h : Q (pairV (minus a b)) G) : ACalls P escrowref08_Minus.n [.int .i64 a, .int .i64 b] G Q := by
  refine escrowref08_Minus.sound ?_
  unfold escrowref08_Minus.S
  refine escrowref08_Right.use ?_
  have key := minus_core (a := a) (b := b) (Q := fun v => Q v G) h
  cases ha : right a with
  | false => simpa [ha] using key
  | true =>
    simp only [vun_not, wv_some, Bool.not_true, brB_false]
    refine escrowref08_Right.use ?_
    cases hb : right b with
    | false => simpa [ha, hb] using key
    | true => simpa [ha, hb] using key

/-- The sum of a list and its fault. -/
def sumFrom : Int → List Int → Int × Int
  | n, [] => (n, 0)
  | n, x :: xs => if (plus n x).2 = 0 then sumFrom (plus n x).1 xs else (0, (plus n x).2)

theorem pair0 (p : Int × Int) : vextract (pairV p) 0 = some (.int .i64 p.1) := rfl
theorem pair1 (p : Int × Int) : vextract (pairV p) 1 = some (.int .i64 p.2) := rfl

theorem amount_Sum.use {v : AVal} {xs : List Int} {G : Heap} {Q : AVal → Heap → Prop} (hv : IsSl 1 G v (xs.map (.int .i64))) (hm : xs.length ≤ 9223372036854775807) (h : Q (pairV (sumFrom 0 xs)) G) :
    ACalls P amount_Sum.n [v] G Q := by
  refine amount_Sum.sound ?_
  unfold amount_Sum.S
  rw [hv.len (i := ti_sl_int64) T_sl_int64 rfl, wv_some]
  intro R hR
  rw [List.length_map]
  have loop : ∀ (rest : List Int) (n : Int) (j : Nat), xs.drop j = rest → j ≤ xs.length → Q (pairV (sumFrom n rest)) G → R [.int .i64 n, v, .int .i64 xs.length, .int .i64 j] G := by
    intro rest
    induction rest with
    | nil =>
      intro n j hd hj hq
      have : ¬ ((j : Int) < xs.length) := by
        have := List.drop_eq_nil_iff.1 hd
        omega
      refine hR _ _ _ _ _ ?_
      simp only [vbin_lss, wv_some, brB_dec]
      exact ⟨fun h => absurd h this, fun _ => hq⟩
    | cons x rest ih =>
      intro n j hd hj hq
      have hjl : j < xs.length := by
        rcases Nat.lt_or_ge j xs.length with h | h
        · exact h
        · rw [List.drop_eq_nil_iff.2 h] at hd; cases hd
      have hx : xs[j]? = some x := by
        rw [← List.head?_drop, hd]; rfl
      obtain ⟨a, ha, hl⟩ := hv.at_ (k := .i64) (j := j) (c := .int .i64 x) (i := ti_sl_int64) (ie := ti_int64) (T := T) (t := t_sl_int64) (e := t_int64) T_sl_int64 rfl T_int64 (by simp [hx]) rfl
      refine hR _ _ _ _ _ ?_
      simp only [vbin_lss, wv_some, brB_dec, ha, hl]
      refine ⟨fun _ => amount_Plus.use ?_, fun h => absurd (by omega) h⟩
      simp only [pair0, pair1, wv_some, vbin_neq, brB_ndec, vbin_add]
      rw [i64_in (by omega) (by omega)]
      simp only [sumFrom] at hq
      constructor
      · intro h0
        rw [if_neg h0] at hq
        exact hq
      · intro h0
        rw [if_pos h0] at hq
        have := ih (plus n x).1 (j + 1) (by rw [← List.drop_drop, hd]; rfl) (by omega) hq
        simpa using this
  exact loop xs 0 0 rfl (by omega) h

theorem escrowref08_Sum.use {v : AVal} {xs : List Int} {G : Heap} {Q : AVal → Heap → Prop} (hv : IsSl 1 G v (xs.map (.int .i64))) (hm : xs.length ≤ 9223372036854775807) (h : Q (pairV (sumFrom 0 xs)) G) :
    ACalls P escrowref08_Sum.n [v] G Q := by
  refine escrowref08_Sum.sound ?_
  unfold escrowref08_Sum.S
  intro R hR
  have loop : ∀ (rest : List Int) (n : Int) (j : Nat), xs.drop j = rest → j ≤ xs.length → Q (pairV (sumFrom n rest)) G → R [v, .int .i64 n, .int .i64 j] G := by
    intro rest
    induction rest with
    | nil =>
      intro n j hd hj hq
      have : ¬ ((j : Int) < xs.length) := by
        have := List.drop_eq_nil_iff.1 hd
        omega
      refine hR _ _ _ _ ?_
      rw [hv.len (i := ti_sl_int64) T_sl_int64 rfl, List.length_map]
      simp only [vbin_lss, wv_some, brB_dec]
      exact ⟨fun h => absurd h this, fun _ => hq⟩
    | cons x rest ih =>
      intro n j hd hj hq
      have hjl : j < xs.length := by
        rcases Nat.lt_or_ge j xs.length with h | h
        · exact h
        · rw [List.drop_eq_nil_iff.2 h] at hd; cases hd
      have hx : xs[j]? = some x := by
        rw [← List.head?_drop, hd]; rfl
      obtain ⟨a, ha, hl⟩ := hv.at_ (k := .i64) (j := j) (c := .int .i64 x) (i := ti_sl_int64) (ie := ti_int64) (T := T) (t := t_sl_int64) (e := t_int64) T_sl_int64 rfl T_int64 (by simp [hx]) rfl
      refine hR _ _ _ _ ?_
      rw [hv.len (i := ti_sl_int64) T_sl_int64 rfl, List.length_map]
      simp only [vbin_lss, wv_some, brB_dec, ha, hl]
      refine ⟨fun _ => escrowref08_Plus.use ?_, fun h => absurd (by omega) h⟩
      simp only [pair0, pair1, wv_some, vbin_neq, brB_ndec, vbin_add]
      rw [i64_in (by omega) (by omega)]
      simp only [sumFrom] at hq
      constructor
      · intro h0
        rw [if_neg h0] at hq
        exact hq
      · intro h0
        rw [if_pos h0] at hq
        have := ih (plus n x).1 (j + 1) (by rw [← List.drop_drop, hd]; rfl) (by omega) hq
        simpa using this
  exact loop xs 0 0 rfl (by omega) h

theorem escrowlaw08_first.use {G : Heap} {Q : AVal → Heap → Prop} (h : ∀ G', G.le G' → Q (.bool true) G') : ACalls P escrowlaw08_first.n [] G Q := by
  refine escrowlaw08_first.sound ?_
  unfold escrowlaw08_first.S
  refine amount_Plus.use ?_
  simp only [pair0, pair1, wv_some]
  refine amount_Plus.use ?_
  simp only [pair0, pair1, wv_some]
  refine amount_Minus.use ?_
  simp only [pair0, pair1, wv_some]
  refine ⟨by decide, fun id hf => ?_⟩
  have hle := hf.le (.own (.agg [.int .i64 1, .int .i64 2, .int .i64 3]))
  have hs : IsSl 1 (G.upd id (.own (.agg [.int .i64 1, .int .i64 2, .int .i64 3]))) (.slice id [] 0 0 3 3) ([1, 2, 3].map (AVal.int .i64)) :=
    isSl_row (cs := [.int .i64 1, .int .i64 2, .int .i64 3]) (len := 3) (Heap.upd_self _ _ _) rfl rfl (by simp)
  refine amount_Sum.use hs (by simp) ?_
  have e1 : plus 1 2 = (3, 0) := by decide
  have e2 : plus 1152921504606846976 1 = (0, 80) := by decide
  have e3 : minus 5 3 = (2, 0) := by decide
  have e4 : sumFrom 0 [1, 2, 3] = (6, 0) := by decide
  simp only [pair0, pair1, wv_some, e1, e2, e3, e4, vbin_eql, brB_dec]
  simp only [true_implies, forall_const, and_true, not_true_eq_false, false_implies]
  refine amount_Right.use ?_
  have r0 : right 0 = true := by decide
  have r1 : right (-1) = false := by decide
  rw [r0, brB_true]
  refine amount_Right.use ?_
  rw [r1]
  exact h _ hle

theorem law_AmountPairs {a b : Int} {G : Heap} : ACalls P escrowlaw08_AmountPairs.n [.int .i64 a, .int .i64 b] G fun v _ => v = .bool true := by
  refine escrowlaw08_AmountPairs.sound ?_
  unfold escrowlaw08_AmountPairs.S
  refine amount_Plus.use ?_
  simp only [pair0, pair1, wv_some]
  refine escrowref08_Plus.use ?_
  simp only [pair0, pair1, wv_some]
  refine amount_Minus.use ?_
  simp only [pair0, pair1, wv_some]
  refine escrowref08_Minus.use ?_
  simp only [pair0, pair1, wv_some]
  refine escrowlaw08_first.use fun G' hle => ?_
  simp only [brB_true, vbin_eql, wv_some, brB_dec, true_implies, not_true_eq_false, false_implies, and_true]
  refine amount_Right.use (escrowref08_Right.use ?_)
  rw [vbin_beql T_bool rfl]
  simp

end Go.Esc.M
