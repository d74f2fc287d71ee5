/- Own work. Chapter 9: SeedTree, SeedSteps, SeedEdges. -/
import Derived.Test.YtbemdjkjdadpbaaDoorLSf
set_option linter.unusedSimpArgs false
set_option linter.unusedVariables false
namespace Go.Esc.M
open Go Go.Esc

theorem near_pl {a : Int} {x : Nat} (ha : okN a = true) (hx : x < 2 ^ level (pl a)) : okN (a - (x : Int)) = true ∧ pl (a - (x : Int)) = pl a + x := by
  obtain ⟨h1, h2⟩ := pl_eq ha
  have hk := level_le (pl a)
  obtain ⟨c, hc⟩ := level_dvd (pl a)
  have e48 : (2 : Nat) ^ 48 = 281474976710656 := by decide
  have hle : pl a + 2 ^ level (pl a) ≤ 2 ^ 48 := by
    have e : (2 : Nat) ^ 48 = 2 ^ level (pl a) * 2 ^ (48 - level (pl a)) := by rw [← Nat.pow_add]; congr 1; omega
    have hc2 : 2 ^ level (pl a) * c < 2 ^ level (pl a) * 2 ^ (48 - level (pl a)) := by rw [← hc, ← e]; exact h2
    have hlt : c < 2 ^ (48 - level (pl a)) := Nat.lt_of_mul_lt_mul_left hc2
    have : 2 ^ level (pl a) * (c + 1) ≤ 2 ^ level (pl a) * 2 ^ (48 - level (pl a)) := Nat.mul_le_mul_left _ hlt
    rw [Nat.mul_add, Nat.mul_one, ← hc, ← e] at this
    exact this
  have h0 := okN_iff.1 ha
  refine ⟨okN_iff.2 ⟨by omega, by omega⟩, ?_⟩
  have : pl (a - (x : Int)) = (281474976710655 - (a - (x : Int))).toNat := rfl
  rw [this]
  omega
theorem okN_mod (n : Int) : okN (n % 281474976710656) = true := by
  have h1 := Int.emod_nonneg n (show (281474976710656 : Int) ≠ 0 by decide)
  have h2 := Int.emod_lt_of_pos n (show (0 : Int) < 281474976710656 by decide)
  exact okN_iff.2 ⟨h1, by omega⟩
theorem derive_ok {s : List UInt8} {a b : Int} (ha : okN a = true) (hb : okN b = true) (h : pl a / 2 ^ level (pl a) = pl b / 2 ^ level (pl a)) : deriveS s a b = (downS (pl b) (level (pl a)) s, 0) := by
  unfold deriveS
  rw [ha, hb, if_pos h]
  rfl
theorem derive_no {s : List UInt8} {a b : Int} (ha : okN a = true) (hb : okN b = true) (h : ¬ pl a / 2 ^ level (pl a) = pl b / 2 ^ level (pl a)) : deriveS s a b = (zero32, 5) := by
  unfold deriveS
  rw [ha, hb, if_neg h]
  rfl
theorem derive_bad {s : List UInt8} {a b : Int} (h : okN a = false ∨ okN b = false) : deriveS s a b = (zero32, 90) := by
  unfold deriveS
  rcases h with h | h <;> rw [h] <;> simp
theorem secret_ok {s : List UInt8} {a : Int} (ha : okN a = true) : secretS s a = (downS (pl a) 48 s, 0) := by
  unfold secretS
  rw [ha]
  rfl
theorem level_ok {a : Int} (ha : okN a = true) : levelS a = (((level (pl a) : Nat) : Int), 0) := by
  unfold levelS
  rw [ha]
  rfl
theorem shlI {k : Nat} (hk : k ≤ 48) {t : TypeId} {T : Tbl} : vbin T .shl t (.int .i64 1) (.int .u64 (k : Int)) = some (.int .i64 ((2 ^ k : Nat) : Int)) := by
  rw [vbin_shl _ _ _ _ _ _ (by omega)]
  have h1 : min (k : Int).toNat IntKind.i64.bits = k := by
    have : IntKind.i64.bits = 64 := rfl
    omega
  have h2 : ((2 : Int) ^ k) = ((2 ^ k : Nat) : Int) := by simp
  have h3 : 2 ^ k ≤ 2 ^ 48 := Nat.pow_le_pow_right (by decide) hk
  have e48 : (2 : Nat) ^ 48 = 281474976710656 := by decide
  rw [h1, h2, Int.one_mul]
  obtain ⟨q, hq⟩ : ∃ q, q = 2 ^ k := ⟨_, rfl⟩
  rw [← hq] at h3 ⊢
  rw [i64_in (by omega) (by omega)]
theorem powSub {k : Nat} (hk : k ≤ 48) {t : TypeId} {T : Tbl} : vbin T .sub t (.int .i64 ((2 ^ k : Nat) : Int)) (.int .i64 1) = some (.int .i64 (((2 ^ k : Nat) : Int) - 1)) := by
  have h3 : 2 ^ k ≤ 2 ^ 48 := Nat.pow_le_pow_right (by decide) hk
  have e48 : (2 : Nat) ^ 48 = 281474976710656 := by decide
  obtain ⟨q, hq⟩ : ∃ q, q = 2 ^ k := ⟨_, rfl⟩
  rw [← hq] at h3 ⊢
  rw [vbin_sub, i64_in (by omega) (by omega)]
theorem maskI (n : Int) {k : Nat} (hk : k ≤ 48) {t : TypeId} {T : Tbl} : ∃ x : Nat, x < 2 ^ k ∧ vbin T .and t (.int .i64 n) (.int .i64 (((2 ^ k : Nat) : Int) - 1)) = some (.int .i64 (x : Int)) := by
  have h := and_mask n k (by omega)
  have hpos : 0 < 2 ^ k := Nat.pow_pos (by decide)
  have e1 : ((2 ^ k - 1 : Nat) : Int) = ((2 ^ k : Nat) : Int) - 1 := by omega
  rw [e1] at h
  have h1 := Int.emod_nonneg n (show ((2 ^ k : Nat) : Int) ≠ 0 by omega)
  have h2 := Int.emod_lt_of_pos n (show (0 : Int) < ((2 ^ k : Nat) : Int) by omega)
  refine ⟨(n % ((2 ^ k : Nat) : Int)).toNat, by omega, ?_⟩
  rw [vbin_and, h]
  congr 2
  omega

section
variable {F0 : List AId} {G0 G : Heap} {ps : List LP} {Q : AVal → Heap → Prop}

theorem escrowlaw09_number.use {n : Int} (hQ : Q (.int .i64 (n % 281474976710656)) G) : ACalls P escrowlaw09_number.n [.int .i64 n] G Q := by
  refine escrowlaw09_number.sound ?_
  unfold escrowlaw09_number.S
  have := and_mask n 48 (by decide)
  have e1 : ((2 ^ 48 - 1 : Nat) : Int) = 281474976710655 := by decide
  have e2 : ((2 ^ 48 : Nat) : Int) = 281474976710656 := by decide
  rw [e1, e2] at this
  rw [vbin_and, this, wv_some]
  exact hQ

theorem hang_iff {a b : Int} (ha : okN a = true) (hb : okN b = true) : (b ≤ a ∧ a - b < ((2 ^ level (pl a) : Nat) : Int)) ↔ pl a / 2 ^ level (pl a) = pl b / 2 ^ level (pl a) := by
  obtain ⟨h1, _⟩ := pl_eq ha
  obtain ⟨h2, _⟩ := pl_eq hb
  rw [near_iff (level_dvd _)]
  omega

theorem escrowlaw09_hangs.use {a b : Int} (ha : okN a = true) (hb : okN b = true) (hQ : Q (.bool (decide (pl a / 2 ^ level (pl a) = pl b / 2 ^ level (pl a)))) G) : ACalls P escrowlaw09_hangs.n [.int .i64 a, .int .i64 b] G Q := by
  refine escrowlaw09_hangs.sound ?_
  unfold escrowlaw09_hangs.S
  obtain ⟨hp1, hp2⟩ := pl_eq ha
  have e48 : (2 : Nat) ^ 48 = 281474976710656 := by decide
  have ha' := okN_iff.1 ha
  have hb' := okN_iff.1 hb
  rw [vbin_sub, hp1, i64_in (by omega) (by omega), wv_some]
  intro J28
  have h28 : J28 (.int .i64 a) (.int .i64 b) (.int .i64 ((level (pl a) : Nat) : Int)) G := by
    simp -zeta only [J28]
    have hk := level_le (pl a)
    have hif := hang_iff ha hb
    rw [vbin_leq, wv_some, brB_dec]
    refine ⟨fun hle => ?_, fun hle => ?_⟩
    · rw [vbin_sub, i64_in (by omega) (by omega), wv_some]
      refine wv_of (v := .int .u64 ((level (pl a) : Nat) : Int)) (by rw [vconv_int T_int T_uint rfl, u64_in (by omega) (by omega)]) ?_
      refine wv_of (shlI hk) ?_
      rw [vbin_lss, wv_some]
      by_cases h : pl a / 2 ^ level (pl a) = pl b / 2 ^ level (pl a)
      · rw [decide_eq_true h] at hQ
        rw [decide_eq_true (hif.2 h).2]
        exact hQ
      · rw [decide_eq_false h] at hQ
        rw [decide_eq_false (fun hh => h (hif.1 ⟨hle, hh⟩))]
        exact hQ
    · rw [decide_eq_false (fun h => hle (hif.2 h).1)] at hQ
      exact hQ
  intro R hR
  have loop : ∀ (m j : Nat), 48 - j = m → j ≤ 48 → (∀ q, q < j → bitN (pl a) q = 0) → R [.int .i64 a, .int .i64 b, .int .i64 (j : Int), .int .i64 ((pl a / 2 ^ j : Nat) : Int)] G := by
    intro m
    induction m with
    | zero =>
      intro j hm hj hz
      have h48 : j = 48 := by omega
      subst h48
      refine hR _ _ _ _ _ ?_
      rw [vbin_lss, wv_some, decide_eq_false (by omega), brB_false]
      rwa [level_all hp2 hz] at h28
    | succ m ih =>
      intro j hm hj hz
      refine hR _ _ _ _ _ ?_
      rw [vbin_lss, wv_some, decide_eq_true (by omega), brB_true]
      refine wv_of (remN (pl a / 2 ^ j) 2 (by decide) rfl) ?_
      have hbit : pl a / 2 ^ j % 2 = bitN (pl a) j := rfl
      rw [vbin_eql, wv_some, brB_dec]
      refine ⟨fun h0 => ?_, fun h0 => ?_⟩
      · have hq : vbin T .quo t_int64 (.int .i64 ((pl a / 2 ^ j : Nat) : Int)) (.int .i64 2) = some (.int .i64 ((pl a / 2 ^ (j + 1) : Nat) : Int)) := by
          rw [vbin_quo _ _ _ _ _ (by decide)]
          have h2 : (((pl a / 2 ^ j : Nat) : Int).tdiv 2) = ((pl a / 2 ^ j / 2 : Nat) : Int) := tdiv_nat _ 2
          have h3 : pl a / 2 ^ (j + 1) = pl a / 2 ^ j / 2 := by rw [Nat.pow_succ, Nat.div_div_eq_div_mul]
          have hle : pl a / 2 ^ j ≤ pl a := Nat.div_le_self _ _
          obtain ⟨q, hq⟩ : ∃ q, q = pl a / 2 ^ j := ⟨_, rfl⟩
          rw [h2, h3]
          rw [← hq] at hle ⊢
          rw [i64_in (by omega) (by omega)]
        refine wv_of hq ?_
        rw [vbin_add, wv_some, i64_in (by omega) (by omega)]
        refine ih (j + 1) (by omega) (by omega) fun q hq => ?_
        by_cases hqj : q = j
        · subst hqj
          rw [← hbit]
          omega
        · exact hz q (by omega)
      · have h1 : bitN (pl a) j = 1 := by
          have := bit_lt (pl a) j
          rw [← hbit] at this ⊢
          omega
        rwa [level_bit (by omega) hz h1] at h28
  have := loop 48 0 rfl (by omega) (fun q hq => by omega)
  simpa using this

end

set_option maxHeartbeats 4000000 in
theorem law_SeedSteps {G : Heap} (hT : Tab G) {s n x y : AVal} {m1 m2 m3 m4 : Nat} (h1 : wt T G reachBytes 4 t_api_Hash s m1) (h2 : wt T G reachBytes 4 t_int64 n m2) (h3 : wt T G reachBytes 4 t_int64 x m3) (h4 : wt T G reachBytes 4 t_int64 y m4) :
    ACalls P escrowlaw09_SeedSteps.n [s, n, x, y] G fun v _ => v = .bool true := by
  obtain ⟨s, rfl, hs, _⟩ := wt_hash T_api_Hash rfl T_uint8 rfl h1
  obtain ⟨n, rfl, _, _⟩ := wt_int T_int64 rfl h2
  obtain ⟨x, rfl, _, _⟩ := wt_int T_int64 rfl h3
  obtain ⟨y, rfl, _, _⟩ := wt_int T_int64 rfl h4
  refine escrowlaw09_SeedSteps.sound ?_
  unfold escrowlaw09_SeedSteps.S
  intro i1 f1
  have s1 := (Sp.nil G).row f1 (.agg (s.map u8v))
  refine escrowlaw09_head.use (hT.mono s1.ro) fun G4 c4 => ?_
  have s4 := s1.tmp c4
  rw [vun_not, wv_some, Bool.not_true, brB_false]
  refine escrowlaw09_number.use ?_
  have ha := okN_mod n
  obtain ⟨a, hae⟩ : ∃ a, a = n % 281474976710656 := ⟨_, rfl⟩
  rw [← hae] at ha ⊢
  have ha' := okN_iff.1 ha
  refine seed_Level.use (hT.mono s4.ro) ?_
  rw [level_ok ha]
  refine wv_of (ii0 _) ?_
  refine wv_of (ii1 _) ?_
  have hk := level_le (pl a)
  obtain ⟨k, hke⟩ : ∃ k, k = level (pl a) := ⟨_, rfl⟩
  have hpow : ∀ k : Nat, k ≤ 48 → 2 ^ k ≤ 281474976710656 := fun k h => Nat.pow_le_pow_right (n := 2) (by decide) h
  intro J81
  have h81 : J81 (.bool false) G4 := by
    simp -zeta only [J81, brB_false]
    refine wv_of (v := .int .u64 ((level (pl a) : Nat) : Int)) (by rw [vconv_int T_int T_uint rfl, u64_in (by omega) (by omega)]) ?_
    refine wv_of (shlI hk) ?_
    refine wv_of (powSub hk) ?_
    obtain ⟨u, hu, hmu⟩ := maskI (T := T) (t := t_int64) x hk
    refine wv_of hmu ?_
    obtain ⟨hb, hpb⟩ := near_pl ha hu
    have hb' := okN_iff.1 hb
    rw [vbin_sub, i64_in (by omega) (by omega), wv_some]
    obtain ⟨b, hbe⟩ : ∃ b, b = a - (u : Int) := ⟨_, rfl⟩
    rw [← hbe] at hb hpb hb' ⊢
    refine seed_Level.use (hT.mono s4.ro) ?_
    rw [level_ok hb]
    refine wv_of (ii0 _) ?_
    refine wv_of (ii1 _) ?_
    have hl := level_le (pl b)
    have hlk : level (pl b) ≤ level (pl a) := by rw [hpb]; exact level_near (pl_eq ha).2 hu
    intro J80
    have h80 : J80 (.bool false) G4 := by
      simp -zeta only [J80, brB_false]
      refine wv_of (v := .int .u64 ((level (pl b) : Nat) : Int)) (by rw [vconv_int T_int T_uint rfl, u64_in (by omega) (by omega)]) ?_
      refine wv_of (shlI hl) ?_
      refine wv_of (powSub hl) ?_
      obtain ⟨w, hw, hmw⟩ := maskI (T := T) (t := t_int64) y hl
      refine wv_of hmw ?_
      obtain ⟨hc, hpc⟩ := near_pl hb hw
      have hc' := okN_iff.1 hc
      rw [vbin_sub, i64_in (by omega) (by omega), wv_some]
      obtain ⟨c, hce⟩ : ∃ c, c = b - (w : Int) := ⟨_, rfl⟩
      rw [← hce] at hc hpc hc' ⊢
      have hab : pl a / 2 ^ level (pl a) = pl b / 2 ^ level (pl a) := by rw [hpb]; exact (div_near (level_dvd _) hu).symm
      have hbc : pl b / 2 ^ level (pl b) = pl c / 2 ^ level (pl b) := by rw [hpc]; exact (div_near (level_dvd _) hw).symm
      have hac : pl a / 2 ^ level (pl a) = pl c / 2 ^ level (pl a) := by
        rw [hab]
        have e : 2 ^ level (pl a) = 2 ^ level (pl b) * 2 ^ (level (pl a) - level (pl b)) := by rw [← Nat.pow_add]; congr 1; omega
        rw [e, ← Nat.div_div_eq_div_mul, ← Nat.div_div_eq_div_mul, hbc]
      have d1 := derive_ok (s := s) ha hb hab
      have d2 := derive_ok (s := downS (pl b) (level (pl a)) s) hb hc hbc
      have d3 := derive_ok (s := s) ha hc hac
      have d4 := derive_ok (s := s) ha ha rfl
      have hvia : downS (pl c) (level (pl b)) (downS (pl b) (level (pl a)) s) = downS (pl c) (level (pl a)) s := by
        have := down_via (a := pl b) (b := pl c) (k := level (pl b)) (n := level (pl a) - level (pl b)) (x := s) (level_dvd _) hbc
        rwa [show level (pl b) + (level (pl a) - level (pl b)) = level (pl a) by omega] at this
      have hself : downS (pl a) (level (pl a)) s = s := down_none (level_dvd _) _ _ (Nat.le_refl _)
      rw [hvia] at d2
      rw [hself] at d4
      obtain ⟨X, hX⟩ : ∃ X, X = downS (pl b) (level (pl a)) s := ⟨_, rfl⟩
      obtain ⟨Y, hY⟩ : ∃ X, X = downS (pl c) (level (pl a)) s := ⟨_, rfl⟩
      have hXl : X.length = 32 := by rw [hX]; exact length_down _ hs
      have hYl : Y.length = 32 := by rw [hY]; exact length_down _ hs
      rw [← hX] at d1 d2
      rw [← hY] at d2 d3
      refine wv_of (load_hash hs (RowL.own (i := 0) s4 rfl)) ?_
      refine seed_Derive.use (hT.mono s4.ro) hs fun G38 c38 => ?_
      have s38 := s4.tmp c38
      rw [d1]
      refine wv_of (hi0 _) ?_
      refine wv_of (hi1 _) ?_
      refine newH s38 hXl fun i41 G43 s43 => ?_
      refine wv_of (load_hash hXl (RowL.own (i := 0) s43 rfl)) ?_
      refine seed_Derive.use (hT.mono s43.ro) hXl fun G46 c46 => ?_
      have s46 := s43.tmp c46
      rw [d2]
      refine wv_of (hi0 _) ?_
      refine wv_of (hi1 _) ?_
      refine newH s46 hYl fun i49 G51 s51 => ?_
      refine wv_of (load_hash hs (RowL.own (i := 2) s51 rfl)) ?_
      refine seed_Derive.use (hT.mono s51.ro) hs fun G54 c54 => ?_
      have s54 := s51.tmp c54
      rw [d3]
      refine wv_of (hi0 _) ?_
      refine wv_of (hi1 _) ?_
      refine newH s54 hYl fun i57 G59 s59 => ?_
      refine wv_of (load_hash hs (RowL.own (i := 3) s59 rfl)) ?_
      refine seed_Derive.use (hT.mono s59.ro) hs fun G62 c62 => ?_
      have s62 := s59.tmp c62
      rw [d4]
      refine wv_of (hi0 _) ?_
      refine wv_of (hi1 _) ?_
      refine newH s62 hs fun i65 G67 s67 => ?_
      refine wv_of (v := .bool true) rfl ?_
      rw [brB_true]
      refine wv_of (v := .bool true) rfl ?_
      rw [brB_true]
      refine wv_of (v := .bool true) rfl ?_
      rw [brB_true]
      refine wv_of (v := .bool true) rfl ?_
      rw [brB_true]
      refine wv_of (load_hash hYl (RowL.own (i := 2) s67 rfl)) ?_
      refine wv_of (load_hash hYl (RowL.own (i := 1) s67 rfl)) ?_
      refine wv_of (hash_eql2 hYl hYl) ?_
      rw [decide_eq_true rfl, brB_true]
      refine wv_of (load_hash hs (RowL.own (i := 0) s67 rfl)) ?_
      refine wv_of (load_hash hs (RowL.own (i := 4) s67 rfl)) ?_
      refine wv_of (hash_eql2 hs hs) ?_
      rw [decide_eq_true rfl]
    rw [nz0, wv_some, brB_false, vbin_lss, wv_some, decide_eq_false (by omega), brB_false, vbin_gtr, wv_some, decide_eq_false (by omega)]
    exact h80
  rw [nz0, wv_some, brB_false, vbin_lss, wv_some, decide_eq_false (by omega), brB_false, vbin_gtr, wv_some, decide_eq_false (by omega)]
  exact h81

theorem pl_last : pl 281474976710655 = 0 := by decide
theorem ok_last : okN 281474976710655 = true := by decide

set_option maxHeartbeats 4000000 in
theorem law_SeedEdges {G : Heap} (hT : Tab G) {s n x : AVal} {m1 m2 m3 : Nat} (h1 : wt T G reachBytes 4 t_api_Hash s m1) (h2 : wt T G reachBytes 4 t_int64 n m2) (h3 : wt T G reachBytes 4 t_int64 x m3) :
    ACalls P escrowlaw09_SeedEdges.n [s, n, x] G fun v _ => v = .bool true := by
  obtain ⟨s, rfl, hs, _⟩ := wt_hash T_api_Hash rfl T_uint8 rfl h1
  obtain ⟨n, rfl, _, _⟩ := wt_int T_int64 rfl h2
  obtain ⟨x, rfl, _, _⟩ := wt_int T_int64 rfl h3
  refine escrowlaw09_SeedEdges.sound ?_
  unfold escrowlaw09_SeedEdges.S
  intro i1 f1
  have s1 := (Sp.nil G).row f1 (.agg (s.map u8v))
  refine escrowlaw09_head.use (hT.mono s1.ro) fun G4 c4 => ?_
  have s4 := s1.tmp c4
  rw [vun_not, wv_some, Bool.not_true, brB_false]
  intro J106
  have key : ∀ out : Int, okN out = false → ∀ J105 : AVal → Heap → Prop, J105 (.int .i64 out) G4 → J105 (.int .i64 out) G4 := fun _ _ _ h => h
  have h105 : ∀ out : Int, okN out = false → (x = out ∨ True) → True := fun _ _ _ => trivial
  have hgo : ∀ b : Bool, b = okN x → J106 (.bool b) G4 := by
    intro b hbx
    simp -zeta only [J106]
    intro J105
    have h105 : ∀ out : Int, okN out = false → J105 (.int .i64 out) G4 := by
      intro out hout
      simp -zeta only [J105]
      refine escrowlaw09_number.use ?_
      have ha := okN_mod n
      obtain ⟨a, hae⟩ : ∃ a, a = n % 281474976710656 := ⟨_, rfl⟩
      rw [← hae] at ha ⊢
      have e1 : secretS s 281474976710655 = (s, 0) := by
        rw [secret_ok ok_last, pl_last, down_none (Nat.dvd_zero _) 48 s (Nat.le_refl _)]
      have e2 : deriveS s 281474976710655 a = (downS (pl a) 48 s, 0) := by
        rw [derive_ok ok_last ha, pl_last, level_zero]
        rw [pl_last, level_zero, Nat.zero_div, Nat.div_eq_of_lt (pl_eq ha).2]
      have e3 : secretS s a = (downS (pl a) 48 s, 0) := secret_ok ha
      have e4 : levelS 281474976710655 = (48, 0) := by rw [level_ok ok_last, pl_last, level_zero]; rfl
      obtain ⟨Y, hY⟩ : ∃ X, X = downS (pl a) 48 s := ⟨_, rfl⟩
      have hYl : Y.length = 32 := by rw [hY]; exact length_down _ hs
      rw [← hY] at e2 e3
      refine wv_of (load_hash hs (RowL.own (i := 0) s4 rfl)) ?_
      refine seed_Secret.use hs fun G17 c17 => ?_
      have s17 := s4.tmp c17
      rw [e1]
      refine wv_of (hi0 _) ?_
      refine wv_of (hi1 _) ?_
      refine newH s17 hs fun i20 G22 s22 => ?_
      refine wv_of (load_hash hs (RowL.own (i := 1) s22 rfl)) ?_
      refine seed_Derive.use (hT.mono s22.ro) hs fun G25 c25 => ?_
      have s25 := s22.tmp c25
      rw [e2]
      refine wv_of (hi0 _) ?_
      refine wv_of (hi1 _) ?_
      refine newH s25 hYl fun i28 G30 s30 => ?_
      refine wv_of (load_hash hs (RowL.own (i := 2) s30 rfl)) ?_
      refine seed_Secret.use hs fun G33 c33 => ?_
      have s33 := s30.tmp c33
      rw [e3]
      refine wv_of (hi0 _) ?_
      refine wv_of (hi1 _) ?_
      refine newH s33 hYl fun i36 G38 s38 => ?_
      refine seed_Level.use (hT.mono s38.ro) ?_
      rw [e4]
      refine wv_of (ii0 _) ?_
      refine wv_of (ii1 _) ?_
      have s38 : Sp [] G [RowL i36 (.agg (Y.map u8v)), RowL i28 (.agg (Y.map u8v)), RowL i20 (.agg (s.map u8v)), RowL i1 (.agg (s.map u8v))] G38 := s38
      intro J104
      have h104 : J104 (.bool false) G38 := by
        simp -zeta only [J104, brB_false]
        have b1 : secretS s out = (zero32, 90) := by unfold secretS; rw [hout]; rfl
        have b2 : deriveS s out a = (zero32, 90) := derive_bad (.inl hout)
        have b3 : deriveS s a out = (zero32, 90) := derive_bad (.inr hout)
        have b4 : levelS out = (0, 90) := by unfold levelS; rw [hout]; rfl
        refine wv_of (load_hash hs (RowL.own (i := 3) s38 rfl)) ?_
        refine seed_Secret.use hs fun G58 c58 => ?_
        have s58 := s38.tmp c58
        rw [b1]
        refine wv_of (hi0 _) ?_
        refine wv_of (hi1 _) ?_
        refine newH s58 zero32_len fun i61 G63 s63 => ?_
        refine wv_of (load_hash hs (RowL.own (i := 4) s63 rfl)) ?_
        refine seed_Derive.use (hT.mono s63.ro) hs fun G66 c66 => ?_
        have s66 := s63.tmp c66
        rw [b2]
        refine wv_of (hi0 _) ?_
        refine wv_of (hi1 _) ?_
        refine newH s66 zero32_len fun i69 G71 s71 => ?_
        refine wv_of (load_hash hs (RowL.own (i := 5) s71 rfl)) ?_
        refine seed_Derive.use (hT.mono s71.ro) hs fun G74 c74 => ?_
        have s74 := s71.tmp c74
        rw [b3]
        refine wv_of (hi0 _) ?_
        refine wv_of (hi1 _) ?_
        refine newH s74 zero32_len fun i77 G79 s79 => ?_
        refine seed_Level.use (hT.mono s79.ro) ?_
        rw [b4]
        refine wv_of (ii0 _) ?_
        refine wv_of (ii1 _) ?_
        refine wv_of zero_hash2 ?_
        refine newH s79 (h := List.replicate 32 0) (by simp) fun i85 G87 s87 => ?_
        have s87 : Sp [] G [RowL i85 (.agg (zero32.map u8v)), RowL i77 (.agg (zero32.map u8v)), RowL i69 (.agg (zero32.map u8v)), RowL i61 (.agg (zero32.map u8v)), RowL i36 (.agg (Y.map u8v)), RowL i28 (.agg (Y.map u8v)), RowL i20 (.agg (s.map u8v)), RowL i1 (.agg (s.map u8v))] G87 := s87
        refine wv_of (v := .bool true) rfl ?_
        rw [brB_true]
        refine wv_of (v := .bool true) rfl ?_
        rw [brB_true]
        refine wv_of (v := .bool true) rfl ?_
        rw [brB_true]
        refine wv_of (v := .bool true) rfl ?_
        rw [brB_true]
        have zz := hash_eql2 zero32_len zero32_len
        refine wv_of (load_hash zero32_len (RowL.own (i := 3) s87 rfl)) ?_
        refine wv_of (load_hash zero32_len (RowL.own (i := 0) s87 rfl)) ?_
        refine wv_of zz ?_
        rw [decide_eq_true rfl, brB_true]
        refine wv_of (load_hash zero32_len (RowL.own (i := 2) s87 rfl)) ?_
        refine wv_of (load_hash zero32_len (RowL.own (i := 0) s87 rfl)) ?_
        refine wv_of zz ?_
        rw [decide_eq_true rfl, brB_true]
        refine wv_of (load_hash zero32_len (RowL.own (i := 1) s87 rfl)) ?_
        refine wv_of (load_hash zero32_len (RowL.own (i := 0) s87 rfl)) ?_
        refine wv_of zz ?_
        rw [decide_eq_true rfl, brB_true]
        refine wv_of (v := .bool true) rfl ?_
        rfl
      refine wv_of (v := .bool false) rfl ?_
      rw [brB_false]
      refine wv_of (v := .bool false) rfl ?_
      rw [brB_false]
      refine wv_of (v := .bool false) rfl ?_
      rw [brB_false]
      refine wv_of (v := .bool false) rfl ?_
      rw [brB_false]
      refine wv_of (load_hash hs (RowL.own (i := 2) s38 rfl)) ?_
      refine wv_of (load_hash hs (RowL.own (i := 3) s38 rfl)) ?_
      refine wv_of (hash_neq2 hs hs) ?_
      rw [decide_eq_true rfl, Bool.not_true, brB_false]
      refine wv_of (load_hash hYl (RowL.own (i := 1) s38 rfl)) ?_
      refine wv_of (load_hash hYl (RowL.own (i := 0) s38 rfl)) ?_
      refine wv_of (hash_neq2 hYl hYl) ?_
      rw [decide_eq_true rfl, Bool.not_true, brB_false]
      refine wv_of (v := .bool false) rfl ?_
      exact h104
    cases b with
    | true =>
      have hx := okN_iff.1 hbx.symm
      rw [brB_true, vbin_sub, i64_in (by omega) (by omega), wv_some]
      refine h105 _ ?_
      refine Bool.eq_false_iff.2 fun h => ?_
      have := okN_iff.1 h
      omega
    | false =>
      rw [brB_false]
      exact h105 _ hbx.symm
  rw [vbin_geq, wv_some, brB_dec]
  refine ⟨fun h0 => ?_, fun h0 => hgo false ?_⟩
  · rw [vbin_leq, wv_some]
    refine hgo _ ?_
    unfold okN
    rw [decide_eq_true h0, Bool.true_and]
  · unfold okN
    rw [decide_eq_false h0, Bool.false_and]

theorem uni_i64 (l : List Int) : uni 1 (l.map (AVal.int .i64)) = true := by
  rw [uni, List.all_eq_true]
  intro v hv
  obtain ⟨x, _, rfl⟩ := List.mem_map.1 hv
  simp [sz]
theorem ok_i64 (l : List Int) : okvs (l.map (AVal.int .i64)) = true := by
  induction l with
  | nil => rfl
  | cons a l ih => rw [List.map_cons, okvs, ih]; simp [okv]

set_option maxHeartbeats 4000000 in
theorem law_SeedTree {G : Heap} (hT : Tab G) {s n x : AVal} {m1 m2 m3 : Nat} (h1 : wt T G reachBytes 4 t_api_Hash s m1) (h2 : wt T G reachBytes 4 t_int64 n m2) (h3 : wt T G reachBytes 4 t_int64 x m3) :
    ACalls P escrowlaw09_SeedTree.n [s, n, x] G fun v _ => v = .bool true := by
  obtain ⟨s, rfl, hs, _⟩ := wt_hash T_api_Hash rfl T_uint8 rfl h1
  obtain ⟨n, rfl, _, _⟩ := wt_int T_int64 rfl h2
  obtain ⟨x, rfl, _, _⟩ := wt_int T_int64 rfl h3
  refine escrowlaw09_SeedTree.sound ?_
  unfold escrowlaw09_SeedTree.S
  intro i1 f1
  have s1 := (Sp.nil G).row f1 (.agg (s.map u8v))
  refine escrowlaw09_head.use (hT.mono s1.ro) fun G4 c4 => ?_
  have s4 := s1.tmp c4
  rw [vun_not, wv_some, Bool.not_true, brB_false]
  refine escrowlaw09_number.use ?_
  have ha := okN_mod n
  obtain ⟨a, hae⟩ : ∃ a, a = n % 281474976710656 := ⟨_, rfl⟩
  rw [← hae] at ha ⊢
  have ha' := okN_iff.1 ha
  refine seed_Level.use (hT.mono s4.ro) ?_
  rw [level_ok ha]
  refine wv_of (ii0 _) ?_
  refine wv_of (ii1 _) ?_
  have hk := level_le (pl a)
  intro J100
  have h100 : J100 (.bool false) G4 := by
    simp -zeta only [J100, brB_false]
    refine wv_of (v := .int .u64 ((level (pl a) : Nat) : Int)) (by rw [vconv_int T_int T_uint rfl, u64_in (by omega) (by omega)]) ?_
    refine wv_of (shlI hk) ?_
    refine wv_of (powSub hk) ?_
    obtain ⟨u, hu, hmu⟩ := maskI (T := T) (t := t_int64) x hk
    refine wv_of hmu ?_
    obtain ⟨hb, hpb⟩ := near_pl ha hu
    have hb' := okN_iff.1 hb
    rw [vbin_sub, i64_in (by omega) (by omega), wv_some]
    obtain ⟨b, hbe⟩ : ∃ b, b = a - (u : Int) := ⟨_, rfl⟩
    rw [← hbe] at hb hpb hb' ⊢
    have hab : pl a / 2 ^ level (pl a) = pl b / 2 ^ level (pl a) := by rw [hpb]; exact (div_near (level_dvd _) hu).symm
    refine escrowlaw09_number.use ?_
    rw [vbin_sub, wv_some]
    refine escrowlaw09_number.use ?_
    rw [vbin_add, wv_some]
    refine escrowlaw09_number.use ?_
    obtain ⟨L, hL⟩ : ∃ L : List Int, L = [b, x % 281474976710656, IntKind.i64.wrap (a - x) % 281474976710656, IntKind.i64.wrap (a + 1) % 281474976710656] := ⟨_, rfl⟩
    have hLok : ∀ o ∈ L, okN o = true := by
      rw [hL]
      simp only [List.mem_cons, List.not_mem_nil, or_false, forall_eq_or_imp, forall_eq]
      exact ⟨hb, okN_mod _, okN_mod _, okN_mod _⟩
    have hLl : L.length = 4 := by rw [hL]; rfl
    have hz : ti_ar4_int64.zero = .agg ([0, 0, 0, 0].map (AVal.int .i64)) := rfl
    refine wv_of (v := .agg (L.map (AVal.int .i64))) ((build_array T_ar4_int64 rfl T_int64 hz (uni_i64 _) (by simp [sz])).trans (by rw [hL]; rfl)) ?_
    refine newVal (c := .agg (L.map (AVal.int .i64))) s4 T_ar4_int64 ?_ ?_ ?_ fun i31 G33 s33 => ?_
    · simp [vfits, ti_ar4_int64, AVal.isAgg, ADesc.isAgg, sz, szs_uni (uni_i64 L), hLl]
    · rw [sz, szs_uni (uni_i64 L), List.length_map, hLl]; rfl
    · rw [okv]; exact ok_i64 L
    have e3 : secretS s a = (downS (pl a) 48 s, 0) := secret_ok ha
    obtain ⟨Y, hY⟩ : ∃ X, X = downS (pl a) 48 s := ⟨_, rfl⟩
    have hYl : Y.length = 32 := by rw [hY]; exact length_down _ hs
    rw [← hY] at e3
    refine wv_of (load_hash hs (RowL.own (i := 1) s33 rfl)) ?_
    refine seed_Secret.use hs fun G36 c36 => ?_
    have s36 := s33.tmp c36
    rw [e3]
    refine wv_of (hi0 _) ?_
    refine wv_of (hi1 _) ?_
    refine newH s36 hYl fun i39 G41 s41 => ?_
    intro J99
    have h99 : J99 (.bool false) G41 := by
      simp -zeta only [J99, brB_false]
      intro R hR
      have loop : ∀ (m j : Nat) (G' : Heap), 4 - j = m → j ≤ 4 → Sp [] G [RowL i39 (.agg (Y.map u8v)), RowL i31 (.agg (L.map (AVal.int .i64))), RowL i1 (.agg (s.map u8v))] G' → R [.ptr i1 [] 0, .int .i64 a, .ptr i31 [] 0, .ptr i39 [] 0, .int .i64 (j : Int)] G' := by
        intro m
        induction m with
        | zero =>
          intro j G' hm hj sp
          have h4 : j = 4 := by omega
          subst h4
          refine hR _ _ _ _ _ _ ?_
          rw [vbin_lss, wv_some, decide_eq_false (by omega), brB_false]
          trivial
        | succ m ih =>
          intro j G' hm hj sp
          refine hR _ _ _ _ _ _ ?_
          rw [vbin_lss, wv_some, decide_eq_true (by omega), brB_true]
          obtain ⟨o, ho⟩ : ∃ o, L[j]? = some o := ⟨_, List.getElem?_eq_getElem (by omega)⟩
          have hook := hLok o (List.mem_of_getElem? ho)
          have ad : viaddr T t_ar4_int64 (.ptr i31 [] 0) (.int .i64 (j : Int)) = some (.ptr i31 [j] (0 + j * 1)) := arrN_addr T_ar4_int64 rfl T_int64 rfl (by omega)
          have ld : ∀ {ps : List LP} {q : Nat} {G' : Heap}, Sp [] G ps G' → ps[q]? = some (RowL i31 (.agg (L.map (AVal.int .i64)))) → vload T G' t_int64 (.ptr i31 [j] (0 + j * 1)) = some (.int .i64 o) := fun sp hq => arrN_get T_int64 (RowL.own sp hq) (uni_i64 L) (by rw [List.getElem?_map, ho]; rfl) rfl
          refine wv_of (load_hash hs (RowL.own (i := 2) sp rfl)) ?_
          refine wv_of ad ?_
          refine wv_of (ld (q := 1) sp rfl) ?_
          have d1 : secretS s o = (downS (pl o) 48 s, 0) := secret_ok hook
          obtain ⟨X, hX⟩ : ∃ X, X = downS (pl o) 48 s := ⟨_, rfl⟩
          have hXl : X.length = 32 := by rw [hX]; exact length_down _ hs
          rw [← hX] at d1
          refine seed_Secret.use hs fun G61 c61 => ?_
          have s61 := sp.tmp c61
          rw [d1]
          refine wv_of (hi0 _) ?_
          refine wv_of (hi1 _) ?_
          refine newH s61 hXl fun i64 G66 s66 => ?_
          refine wv_of (load_hash hYl (RowL.own (i := 1) s66 rfl)) ?_
          refine wv_of ad ?_
          refine wv_of (ld (q := 2) s66 rfl) ?_
          refine seed_Derive.use (hT.mono s66.ro) hYl fun G71 c71 => ?_
          have s71 := s66.tmp c71
          refine wv_of (hi0 _) ?_
          refine wv_of (hi1 _) ?_
          refine newH s71 (len_derive hYl a o) fun i74 G76 s76 => ?_
          rw [nz0, wv_some, brB_false]
          refine wv_of ad ?_
          refine wv_of (ld (q := 3) s76 rfl) ?_
          refine escrowlaw09_hangs.use ha hook ?_
          have nxt : R [.ptr i1 [] 0, .int .i64 a, .ptr i31 [] 0, .ptr i39 [] 0, .int .i64 ((j + 1 : Nat) : Int)] G76 := ih (j + 1) G76 (by omega) (by omega) ((s76.erase 0).erase 0)
          have ev : vbin T .add t_int (.int .i64 (j : Int)) (.int .i64 1) = some (.int .i64 ((j + 1 : Nat) : Int)) := by
            rw [vbin_add, i64_in (by omega) (by omega)]
            rfl
          by_cases hh : pl a / 2 ^ level (pl a) = pl o / 2 ^ level (pl a)
          · rw [decide_eq_true hh, brB_true]
            have e : deriveS Y a o = (X, 0) := by
              have hv := down_via (a := pl a) (b := pl o) (k := level (pl a)) (n := 48 - level (pl a)) (x := s) (level_dvd _) hh
              rw [show level (pl a) + (48 - level (pl a)) = 48 by omega, ← hY, ← hX] at hv
              rw [derive_ok ha hook hh, hv]
            rw [e] at s76 ⊢
            rw [nz0, wv_some, brB_false]
            refine wv_of (load_hash hXl (RowL.own (i := 0) s76 rfl)) ?_
            refine wv_of (load_hash hXl (RowL.own (i := 1) s76 rfl)) ?_
            refine wv_of (hash_neq2 hXl hXl) ?_
            rw [decide_eq_true rfl, Bool.not_true, brB_false]
            exact wv_of ev nxt
          · rw [decide_eq_false hh, brB_false]
            rw [derive_no ha hook hh] at s76 ⊢
            rw [nz0, wv_some, brB_false]
            refine wv_of (load_hash zero32_len (RowL.own (i := 0) s76 rfl)) ?_
            refine wv_of zero_hash2 ?_
            refine wv_of (hash_neq2 zero32_len zero32_len) ?_
            rw [show decide (zero32 = List.replicate 32 0) = true from decide_eq_true rfl, Bool.not_true, brB_false]
            exact wv_of ev nxt
      exact loop 4 0 G41 rfl (by omega) s41
    rw [nz0, wv_some, brB_false, vbin_lss, wv_some, decide_eq_false (by omega), brB_false]
    refine escrowlaw09_hangs.use ha hb ?_
    rw [decide_eq_true hab, vun_not, wv_some, Bool.not_true]
    exact h99
  rw [nz0, wv_some, brB_false, vbin_lss, wv_some, decide_eq_false (by omega), brB_false, vbin_gtr, wv_some, decide_eq_false (by omega)]
  exact h100

end Go.Esc.M
