/- Own work. Chapter 14: the document's texts. -/
import Derived.Test.YtdbkngfdaeminaaLCp
import Derived.Test.YtdbkngfdaeminaaLAr
set_option linter.unusedSimpArgs false
set_option linter.unusedVariables false
set_option maxRecDepth 20000
namespace Go.Esc
open Go Go.RowKit

end Go.Esc
namespace Go.Esc.M
open Go Go.Esc

theorem length_pens : ∀ {m : List PenM}, (∀ p ∈ m, p.ok) → (m.flatMap PenM.bytes).length = 49 * m.length
  | [], _ => rfl
  | p :: m, h => by
    rw [List.flatMap_cons, List.length_append, PenM.length_bytes (h p (by simp)), length_pens (fun q hq => h q (by simp [hq])), List.length_cons]
    omega

/-- May it stand behind these? -/
structure Okp (pre : List PenM) (p : PenM) : Prop where
  id : 0 ≤ p.id
  amount : 1 ≤ p.amount
  most : p.amount ≤ maxAmount
  pair : ∀ q ∈ pre, ¬ (p.ours = true ∧ q.ours = false) ∧ ¬ (p.ours = q.ours ∧ p.id ≤ q.id)
def Okl : List PenM → List PenM → Prop
  | _, [] => True
  | pre, p :: l => Okp pre p ∧ Okl (pre ++ [p]) l

def cnt (b : Bool) (l : List PenM) : Nat := (l.filter (fun p => p.ours == b)).length
theorem cnt_cons (b : Bool) (p : PenM) (l : List PenM) : cnt b (p :: l) = (if p.ours = b then 1 else 0) + cnt b l := by
  unfold cnt
  cases h : p.ours <;> cases b <;> simp [h] <;> omega

structure Inv (pre : List PenM) (lt lf : Int) (cf : Nat) : Prop where
  lt1 : -1 ≤ lt
  lf1 : -1 ≤ lf
  lt0 : lt = -1 ∨ ∃ q ∈ pre, q.ours = true ∧ q.id = lt
  lf0 : lf = -1 ∨ ∃ q ∈ pre, q.ours = false ∧ q.id = lf
  ltm : ∀ q ∈ pre, q.ours = true → q.id ≤ lt
  lfm : ∀ q ∈ pre, q.ours = false → q.id ≤ lf
  cf0 : 0 < cf ↔ ∃ q ∈ pre, q.ours = false

theorem scan_okl : ∀ (l pre : List PenM) (lt lf : Int) (ct cf : Nat), Inv pre lt lf cf →
    (Okl pre l → scanP lt lf ct cf l = some (ct + cnt true l, cf + cnt false l)) ∧ (¬ Okl pre l → scanP lt lf ct cf l = none)
  | [], pre, lt, lf, ct, cf, h => ⟨fun _ => by simp [scanP, cnt], fun h => absurd trivial h⟩
  | p :: l, pre, lt, lf, ct, cf, h => by
    have key : (p.amount < 1 ∨ maxAmount < p.amount ∨ p.id ≤ (bif p.ours then lt else lf) ∨ (p.ours = true ∧ 0 < cf)) ↔ ¬ Okp pre p := by
      constructor
      · rintro (h1 | h1 | h1 | ⟨h1, h2⟩) hk
        · have := hk.amount; omega
        · have := hk.most; omega
        · cases ho : p.ours with
          | true =>
            rw [ho, cond_true] at h1
            rcases h.lt0 with h2 | ⟨q, hq, h3, h4⟩
            · have := hk.id; omega
            · exact (hk.pair q hq).2 ⟨by rw [ho, h3], by omega⟩
          | false =>
            rw [ho, cond_false] at h1
            rcases h.lf0 with h2 | ⟨q, hq, h3, h4⟩
            · have := hk.id; omega
            · exact (hk.pair q hq).2 ⟨by rw [ho, h3], by omega⟩
        · obtain ⟨q, hq, h3⟩ := h.cf0.1 h2
          exact (hk.pair q hq).1 ⟨h1, h3⟩
      · intro hk
        refine Decidable.byContradiction fun hn => hk ?_
        simp only [not_or] at hn
        obtain ⟨h1, h2, h3, h4⟩ := hn
        have hl := h.lt1
        have hf := h.lf1
        refine ⟨?_, by omega, by omega, fun q hq => ⟨fun hh => h4 ⟨hh.1, h.cf0.2 ⟨q, hq, hh.2⟩⟩, fun hh => ?_⟩⟩
        · cases ho : p.ours <;> simp only [ho, cond_true, cond_false] at h3 <;> omega
        · obtain ⟨e, hle⟩ := hh
          cases ho : p.ours with
          | true =>
            rw [ho, cond_true] at h3
            have := h.ltm q hq (by rw [← e, ho])
            omega
          | false =>
            rw [ho, cond_false] at h3
            have := h.lfm q hq (by rw [← e, ho])
            omega
    rw [scanP]
    by_cases hk : Okp pre p
    · have hn : ¬ (p.amount < 1 ∨ maxAmount < p.amount ∨ p.id ≤ (bif p.ours then lt else lf) ∨ (p.ours = true ∧ 0 < cf)) := fun h => key.1 h hk
      rw [if_neg hn]
      have hid := hk.id
      cases ho : p.ours with
      | true =>
        have hi' : Inv (pre ++ [p]) p.id lf cf := by
          refine ⟨by omega, h.lf1, .inr ⟨p, by simp, ho, rfl⟩, ?_, ?_, ?_, ?_⟩
          · rcases h.lf0 with h | ⟨q, hq, hh⟩
            · exact .inl h
            · exact .inr ⟨q, by simp [hq], hh⟩
          · intro q hq hqo
            rcases List.mem_append.1 hq with hq | hq
            · have := (hk.pair q hq).2
              refine Decidable.byContradiction fun hc => this ⟨by rw [ho, hqo], by omega⟩
            · rw [List.mem_singleton.1 hq]; omega
          · intro q hq hqo
            rcases List.mem_append.1 hq with hq | hq
            · exact h.lfm q hq hqo
            · rw [List.mem_singleton.1 hq, ho] at hqo; cases hqo
          · rw [h.cf0]
            constructor
            · rintro ⟨q, hq, hh⟩; exact ⟨q, by simp [hq], hh⟩
            · rintro ⟨q, hq, hh⟩
              rcases List.mem_append.1 hq with hq | hq
              · exact ⟨q, hq, hh⟩
              · rw [List.mem_singleton.1 hq, ho] at hh; cases hh
        have ih := scan_okl l (pre ++ [p]) p.id lf (ct + 1) cf hi'
        rw [cond_true, cnt_cons, cnt_cons, ho]
        refine ⟨fun hh => ?_, fun hh => ih.2 fun h2 => hh ⟨hk, h2⟩⟩
        rw [ih.1 hh.2, if_pos rfl, if_neg (by simp)]
        congr 2 <;> omega
      | false =>
        have hi' : Inv (pre ++ [p]) lt p.id (cf + 1) := by
          refine ⟨h.lt1, by omega, ?_, .inr ⟨p, by simp, ho, rfl⟩, ?_, ?_, ?_⟩
          · rcases h.lt0 with h | ⟨q, hq, hh⟩
            · exact .inl h
            · exact .inr ⟨q, by simp [hq], hh⟩
          · intro q hq hqo
            rcases List.mem_append.1 hq with hq | hq
            · exact h.ltm q hq hqo
            · rw [List.mem_singleton.1 hq, ho] at hqo; cases hqo
          · intro q hq hqo
            rcases List.mem_append.1 hq with hq | hq
            · have := (hk.pair q hq).2
              refine Decidable.byContradiction fun hc => this ⟨by rw [ho, hqo], by omega⟩
            · rw [List.mem_singleton.1 hq]; omega
          · exact ⟨fun _ => ⟨p, by simp, ho⟩, fun _ => by omega⟩
        have ih := scan_okl l (pre ++ [p]) lt p.id ct (cf + 1) hi'
        rw [cond_false, cnt_cons, cnt_cons, ho]
        refine ⟨fun hh => ?_, fun hh => ih.2 fun h2 => hh ⟨hk, h2⟩⟩
        rw [ih.1 hh.2, if_neg (by simp), if_pos rfl]
        congr 2 <;> omega
    · rw [if_pos (key.2 hk)]
      exact ⟨fun hh => absurd hh.1 hk, fun _ => rfl⟩

theorem inv0 : Inv [] (-1) (-1) 0 := ⟨by omega, by omega, .inl rfl, .inl rfl, by simp, by simp, by simp⟩

theorem Okl.split : ∀ {l pre : List PenM} (j : Nat), Okl pre l ↔ Okl pre (l.take j) ∧ Okl (pre ++ l.take j) (l.drop j)
  | [], pre, j => by simp [Okl]
  | p :: l, pre, 0 => by simp [Okl]
  | p :: l, pre, j + 1 => by
    simp only [Okl, List.take_succ_cons, List.drop_succ_cons]
    rw [Okl.split (l := l) (pre := pre ++ [p]) j, and_assoc, List.append_assoc]
    rfl

theorem Okl.mem : ∀ {l pre : List PenM}, Okl pre l → ∀ p ∈ l, 0 ≤ p.id ∧ 1 ≤ p.amount ∧ p.amount ≤ maxAmount
  | q :: l, pre, h, p, hp => by
    rcases List.mem_cons.1 hp with rfl | hp
    · exact ⟨h.1.id, h.1.amount, h.1.most⟩
    · exact Okl.mem h.2 p hp

/-- Sound, in the document's words. -/
structure SoundD (o q : Int) (l : List PenM) : Prop where
  o0 : 0 ≤ o
  o1 : o ≤ maxAmount
  q0 : 0 ≤ q
  q1 : q ≤ maxAmount
  t : cnt true l ≤ 483
  f : cnt false l ≤ 483
  l : Okl [] l

theorem soundP_iff (o q : Int) (l : List PenM) : soundP o q l = true ↔ SoundD o q l := by
  unfold soundP
  simp only [Bool.and_eq_true, decide_eq_true_eq]
  have h := scan_okl l [] (-1) (-1) 0 0 inv0
  constructor
  · rintro ⟨⟨⟨⟨h1, h2⟩, h3⟩, h4⟩, h5⟩
    have hk : Okl [] l := Classical.byContradiction fun hn => by rw [h.2 hn] at h5; cases h5
    rw [h.1 hk] at h5
    simp only [few, Bool.and_eq_true, decide_eq_true_eq] at h5
    exact ⟨h1, h2, h3, h4, by omega, by omega, hk⟩
  · intro hs
    refine ⟨⟨⟨⟨hs.o0, hs.o1⟩, hs.q0⟩, hs.q1⟩, ?_⟩
    rw [h.1 hs.l]
    have := hs.t
    have := hs.f
    simp only [few, Bool.and_eq_true, decide_eq_true_eq]
    omega

end Go.Esc.M
