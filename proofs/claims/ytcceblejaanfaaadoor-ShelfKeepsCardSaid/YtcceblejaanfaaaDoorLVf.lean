/- Own work. Chapter 10: ShelfFew, ShelfAgrees. -/
import Derived.Test.YtcceblejaanfaaaDoorLVe
set_option linter.unusedSimpArgs false
set_option linter.unusedVariables false
namespace Go.Esc.M
open Go Go.Esc

theorem nil_ok : ∀ s ∈ ([] : List SlotM), s.ok := fun s h => by cases h
theorem and48 (n : Int) {t : TypeId} : vbin T .and t (.int .i64 n) (.int .i64 281474976710655) = some (.int .i64 (n % 281474976710656)) := by
  have := and_mask n 48 (by decide)
  have e1 : ((2 ^ 48 - 1 : Nat) : Int) = 281474976710655 := by decide
  have e2 : ((2 ^ 48 : Nat) : Int) = 281474976710656 := by decide
  rw [e1, e2] at this
  rw [vbin_and, this]
theorem hang_iff2 {a b : Int} (ha : okN a = true) (hb : okN b = true) : (b ≤ a ∧ a - b < ((2 ^ level (pl a) : Nat) : Int)) ↔ pl a / 2 ^ level (pl a) = pl b / 2 ^ level (pl a) := by
  obtain ⟨h1, _⟩ := pl_eq ha
  obtain ⟨h2, _⟩ := pl_eq hb
  rw [near_iff (level_dvd _)]
  omega
/-- One slot's yield. -/
theorem get_one {n m : Int} {s : List UInt8} (hn : okN n = true) (hm : okN m = true) : getS (laidS [] n s) m = if pl n / 2 ^ level (pl n) = pl m / 2 ^ level (pl n) then (downS (pl m) (level (pl n)) s, 0) else (zero32, 5) := by
  have hlv := level_le (pl n)
  have ha : atS (laidS [] n s) (level (pl n)) = ⟨n, s, true⟩ := by rw [atS_laid, if_pos (by omega), if_pos rfl]
  have hr : ∀ q, q ≠ level (pl n) → atS (laidS [] n s) q = zeroS := fun q hq => by rw [atS_laid, if_neg hq, atS_nil, ite_self]
  unfold getS
  rw [if_neg (by rw [laidS_len]; omega), if_pos hm]
  by_cases h : pl n / 2 ^ level (pl n) = pl m / 2 ^ level (pl n)
  · have d := derive_ok (s := s) hn hm h
    rw [if_pos h, getL_hit (level (pl n)) (fun q hq => by rw [hr q (by omega)]; exact not_tells_zero m) (by rw [ha]; exact ⟨rfl, by rw [d]⟩), ha]
    dsimp only
    rw [d]
  · have d := derive_no (s := s) hn hm h
    rw [if_neg h, getL_miss]
    intro q
    by_cases hq : q = level (pl n)
    · subst hq
      rw [ha]
      intro ht
      have := ht.2
      rw [d] at this
      cases this
    · rw [hr q hq]
      exact not_tells_zero m

theorem getS_bad {l : List SlotM} {m : Int} (hl : l.length ≤ 49) (hm : okN m = false) : getS l m = (zero32, 90) := by
  unfold getS
  rw [if_neg (by omega), hm]
  rfl

set_option maxHeartbeats 2000000 in
theorem law_ShelfFew {G : Heap} (hT : Tab G) {n x s : AVal} {m1 m2 m3 : Nat} (h1 : wt T G reachBytes 4 t_int64 n m1) (h2 : wt T G reachBytes 4 t_int64 x m2) (h3 : wt T G reachBytes 4 t_api_Hash s m3) :
    ACalls P escrowlaw10_ShelfFew.n [n, x, s] G fun v _ => v = .bool true := by
  obtain ⟨n, rfl, _, _⟩ := wt_int T_int64 rfl h1
  obtain ⟨x, rfl, _, _⟩ := wt_int T_int64 rfl h2
  obtain ⟨s, rfl, hs, _⟩ := wt_hash T_api_Hash rfl T_uint8 rfl h3
  refine escrowlaw10_ShelfFew.sound ?_
  unfold escrowlaw10_ShelfFew.S
  intro i1 f1
  have s1 := (Sp.nil G).row f1 (.agg (s.map u8v))
  refine escrowlaw10_first.use (hT.mono s1.ro) fun G4 c4 => ?_
  have s4 := s1.tmp c4
  rw [vun_not, wv_some, Bool.not_true, brB_false]
  refine wv_of (and48 n) ?_
  refine wv_of (and48 x) ?_
  have hn := okN_mod n
  have hx := okN_mod x
  obtain ⟨a, hae⟩ : ∃ a, a = n % 281474976710656 := ⟨_, rfl⟩
  obtain ⟨b, hbe⟩ : ∃ a, a = x % 281474976710656 := ⟨_, rfl⟩
  rw [← hae] at hn ⊢
  rw [← hbe] at hx ⊢
  have ha' := okN_iff.1 hn
  have hb' := okN_iff.1 hx
  refine wv_of (load_hash hs (RowL.own (i := 0) s4 rfl)) ?_
  refine shelf_Put.use (l := []) (hT.mono s4.ro) (.inr ⟨rfl, rfl⟩) nil_ok (by decide) hs fun w G10 t10 => ?_
  rw [putS_nil hn] at t10 ⊢
  obtain ⟨F10, o10, c10⟩ := t10.out
  have s10 := s4.new o10 c10
  refine wv_of (tup0 _ _) ?_
  refine wv_of (tup1 _ _) ?_
  refine seed_Level.use (hT.mono s10.ro) ?_
  rw [level_ok hn]
  refine wv_of (ii0 _) ?_
  refine wv_of (ii1 _) ?_
  have hk := level_le (pl a)
  have hpow : (2 : Nat) ^ level (pl a) ≤ 281474976710656 := Nat.pow_le_pow_right (n := 2) (by decide) hk
  intro J35
  have h35 : J35 (.bool false) G10 := by
    simp -zeta only [J35, brB_false]
    rw [vbin_sub, i64_in (by omega) (by omega), wv_some]
    refine shelf_Get.use (hT.mono s10.ro) (OwnL.own (i := 0) s10 rfl).is (laidS_ok nil_ok hs) (by rw [laidS_len]; decide) fun G23 c23 => ?_
    have s23 := s10.tmp c23
    refine wv_of (hi0 _) ?_
    refine wv_of (hi1 _) ?_
    refine newH s23 (getS_len (laidS_ok nil_ok hs)) fun i26 G28 s28 => ?_
    rw [vbin_lss, wv_some, brB_dec]
    refine ⟨fun hlt => ?_, fun hge => ?_⟩
    · have hbad : okN (a - b) = false := Bool.eq_false_iff.2 fun h => by have := okN_iff.1 h; omega
      rw [getS_bad (by rw [laidS_len]; omega) hbad]
      refine wv_of (v := .bool true) rfl ?_
      rfl
    · have hok : okN (a - b) = true := okN_iff.2 ⟨by omega, by omega⟩
      rw [get_one hn hok]
      have hif := hang_iff2 hn hok
      refine wv_of (v := .int .i64 ((2 ^ level (pl a) : Nat) : Int)) ?_ ?_
      · rw [vbin_shl _ _ _ _ _ _ (by omega)]
        have h1 : min ((level (pl a) : Nat) : Int).toNat IntKind.i64.bits = level (pl a) := by
          have : IntKind.i64.bits = 64 := rfl
          omega
        have h2 : ((2 : Int) ^ level (pl a)) = ((2 ^ level (pl a) : Nat) : Int) := by simp
        rw [h1, h2, Int.one_mul]
        obtain ⟨q, hq⟩ : ∃ q, q = 2 ^ level (pl a) := ⟨_, rfl⟩
        rw [← hq] at hpow ⊢
        rw [i64_in (by omega) (by omega)]
      · rw [vbin_lss, wv_some, brB_dec]
        refine ⟨fun h => ?_, fun h => ?_⟩
        · rw [if_pos (hif.1 ⟨by omega, by omega⟩)]
          refine wv_of (v := .bool true) rfl ?_
          rfl
        · rw [if_neg (fun hh => h (by have := (hif.2 hh).2; omega))]
          refine wv_of (v := .bool true) rfl ?_
          rfl
  rw [nz0, wv_some, brB_false, wv_some]
  exact h35

end Go.Esc.M
