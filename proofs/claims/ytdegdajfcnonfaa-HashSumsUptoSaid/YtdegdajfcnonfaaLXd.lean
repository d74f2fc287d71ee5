/- Own work. Chapter 2: HashDigits, HashMac. -/
import Derived.Test.YtdegdajfcnonfaaLXc
set_option linter.unusedSimpArgs false
set_option linter.unusedVariables false
namespace Go.Esc.M
open Go Go.Esc Go.Proofs

theorem and15 (a : Nat) {t : TypeId} {T : Tbl} : vbin T .and t (.int .i64 (a : Int)) (.int .i64 15) = some (.int .i64 ((a % 16 : Nat) : Int)) := by
  have h := and_mask (a : Int) 4 (by decide)
  rw [vbin_and]
  have e1 : ((2 ^ 4 - 1 : Nat) : Int) = 15 := by decide
  have e2 : ((2 ^ 4 : Nat) : Int) = 16 := by decide
  rw [e1, e2] at h
  rw [h]
  congr 2
theorem shr4 (a : Nat) {t : TypeId} {T : Tbl} : vbin T .shr t (.int .i64 (a : Int)) (.int .u64 4) = some (.int .i64 ((a / 16 : Nat) : Int)) := by
  rw [vbin_shr _ _ _ _ _ _ (by decide)]
  have h1 : min (4 : Int).toNat IntKind.i64.bits = 4 := rfl
  rw [h1, Int.fdiv_eq_ediv_of_nonneg _ (by decide)]
  congr 2
theorem parity (i : Nat) {t : TypeId} {T : Tbl} : vbin T .rem t (.int .i64 (i : Int)) (.int .i64 2) = some (.int .i64 ((i % 2 : Nat) : Int)) := by
  rw [vbin_rem _ _ _ _ _ (by decide)]
  have : ((i : Int).tmod 2) = ((i % 2 : Nat) : Int) := tmod_nat' i 2
  rw [this]
theorem dig_val : ∀ k : Fin 16, (Lib.digits.getD k.val 0).toNat = if k.val < 10 then 48 + k.val else 87 + k.val := by decide

section
variable {F0 : List AId} {G0 G : Heap} {ps : List LP} {Q : AVal → Heap → Prop}

theorem escrowlaw02_value.use {k : Nat} (hk : k < 16) (hQ : Q (.int .i64 (k : Int)) G) : ACalls P escrowlaw02_value.n [u8v (Lib.digits.getD k 0)] G Q := by
  refine escrowlaw02_value.sound ?_
  unfold escrowlaw02_value.S
  have hv := dig_val ⟨k, hk⟩
  dsimp only at hv
  obtain ⟨c, hc⟩ : ∃ c, c = (Lib.digits.getD k 0).toNat := ⟨_, rfl⟩
  unfold u8v
  rw [← hc] at hv ⊢
  intro J18
  by_cases h10 : k < 10
  · rw [if_pos h10] at hv
    rw [vbin_geq, wv_some, decide_eq_true (by omega), brB_true, vbin_leq, wv_some, decide_eq_true (by omega)]
    simp -zeta only [J18, brB_true]
    rw [vbin_sub, wv_some, u8_in (by omega) (by omega), vconv_int T_uint8 T_int rfl, wv_some, i64_in (by omega) (by omega)]
    rwa [show (c : Int) - 48 = (k : Int) by omega]
  · rw [if_neg h10] at hv
    rw [vbin_geq, wv_some, decide_eq_true (by omega), brB_true, vbin_leq, wv_some, decide_eq_false (by omega)]
    simp -zeta only [J18, brB_false]
    rw [vbin_geq, wv_some, decide_eq_true (by omega), brB_true, vbin_leq, wv_some, decide_eq_true (by omega), brB_true, vbin_sub, wv_some, u8_in (by omega) (by omega), vconv_int T_uint8 T_int rfl, wv_some, i64_in (by omega) (by omega), vbin_add, wv_some, i64_in (by omega) (by omega)]
    rwa [show (c : Int) - 97 + 10 = (k : Int) by omega]

end

theorem uint_mod (a : Int) (n : Nat) (hn : 0 < n) (hn2 : n ≤ 1000000000000000000) : ∃ k : Nat, k < n ∧ IntKind.i64.wrap ((IntKind.u64.wrap a).tmod (n : Int)) = (k : Int) := by
  rw [wrapU64]
  have h0 : 0 ≤ a % 18446744073709551616 := Int.emod_nonneg _ (by decide)
  obtain ⟨b, hb⟩ : ∃ b : Nat, a % 18446744073709551616 = (b : Int) := ⟨(a % 18446744073709551616).toNat, by omega⟩
  rw [hb]
  have h1 : ((b : Int).tmod (n : Int)) = ((b % n : Nat) : Int) := tmod_nat' b n
  have h2 := Nat.mod_lt b hn
  exact ⟨b % n, h2, by rw [h1, i64_in (by omega) (by omega)]⟩

set_option maxRecDepth 20000 in
set_option maxHeartbeats 4000000 in
theorem law_HashDigits {G : Heap} {h a : AVal} {m1 m2 : Nat} (h1 : wt T G reachBytes 4 t_api_Hash h m1) (h2 : wt T G reachBytes 4 t_int a m2) : ACalls P escrowlaw02_HashDigits.n [h, a] G fun v _ => v = .bool true := by
  obtain ⟨h, rfl, hh, _⟩ := wt_hash T_api_Hash rfl T_uint8 rfl h1
  obtain ⟨a, rfl, _, _⟩ := wt_int T_int rfl h2
  refine escrowlaw02_HashDigits.sound ?_
  unfold escrowlaw02_HashDigits.S
  intro i1 f1
  have s1 := (Sp.nil G).row f1 (.agg (h.map u8v))
  refine escrowlaw02_first.use fun G4 c4 => ?_
  have s4 := s1.tmp c4
  rw [vun_not, wv_some, Bool.not_true, brB_false]
  refine wv_of (load_hash hh (RowL.own (i := 0) s4 rfl)) ?_
  refine hash_Hex.use hh ?_
  have hl : (Lib.hexOf h).length = 64 := by rw [length_hex, hh]
  have hget := fun i (hi : i < 64) => hex_get h i (by omega)
  have hdg : ∀ c ∈ Lib.hexOf h, ¬ Lib.indexByte Lib.digits c < 0 := fun c hc => hex_digits hc
  obtain ⟨t, ht⟩ : ∃ t, t = Lib.hexOf h := ⟨_, rfl⟩
  rw [← ht] at hl hget hdg ⊢
  show wv (some (.int .i64 (t.length : Nat))) _
  rw [wv_some, vbin_neq, wv_some, hl, decide_eq_true (by decide), Bool.not_true, brB_false]
  intro R hR
  have badI : ∀ c : UInt8, Lib.indexByte Lib.digits c < 0 → ∀ x y : List UInt8, ParseS (x ++ [c] ++ y) (List.replicate 32 0, 4) := fun c hc x y => ParseS.bad (.inr ⟨c, by simp, hc⟩)
  have newz : ∀ {ps : List LP} {G' : Heap} {K : AId → Heap → Prop}, Sp [] G ps G' → (∀ i G'', Sp [] G (RowL i (.agg ((List.replicate 32 (0 : UInt8)).map u8v)) :: ps) G'' → K i G'') → aNew G' (.own z_api_Hash) fun i G2 => wg (vstore T G2 t_api_Hash (.ptr i [] 0) (.agg ((List.replicate 32 (0 : UInt8)).map u8v))) fun G3 => K i G3 := fun s hK => newVal s T_api_Hash (fits32 (by simp)) (sz32 (by simp)) (okv32 _) hK
  have loop : ∀ (n i : Nat) (G' : Heap), 64 - i = n → i ≤ 64 → Sp [] G [RowL i1 (.agg (h.map u8v))] G' → R [.int .i64 a, .ptr i1 [] 0, .str t, .int .i64 (i : Int)] G' := by
    intro n
    induction n with
    | zero =>
      intro i G' hn hi s
      refine hR _ _ _ _ _ ?_
      rw [vbin_lss, wv_some, decide_eq_false (by omega), brB_false, vbin_sadd _ _ (by simp; omega), wv_some]
      refine hash_Parse.use fun x G44 hx c44 => ?_
      have s44 := s.tmp c44
      rw [hx.only (ParseS.bad (.inl (by simp; omega)))]
      refine wv_of (hi0 _) ?_
      refine wv_of (hi1 _) ?_
      refine newz s44 fun i47 G49 s49 => ?_
      refine wv_of (str_rest (by omega) (by omega)) ?_
      refine hash_Parse.use fun x G52 hx c52 => ?_
      have s52 := s49.tmp c52
      rw [hx.only (ParseS.bad (.inl (by rw [List.length_drop]; omega)))]
      refine wv_of (hi0 _) ?_
      refine wv_of (hi1 _) ?_
      refine newz s52 fun i55 G57 s57 => ?_
      obtain ⟨k, hk, hke⟩ := uint_mod a 64 (by decide) (by decide)
      refine wv_of (vconv_int T_int T_uint rfl) ?_
      refine wv_of (vbin_rem _ _ _ _ _ (by decide)) ?_
      refine wv_of (vconv_int T_uint T_int rfl) ?_
      have hke' : IntKind.i64.wrap ((IntKind.u64.wrap a).tmod 64) = (k : Int) := hke
      rw [hke']
      refine wv_of (str_cut (by omega) (by omega)) ?_
      rw [Int.toNat_natCast, vbin_sadd _ _ (by simp; omega), wv_some, vbin_add, i64_in (by omega) (by omega), wv_some]
      refine wv_of (str_rest (by omega) (by omega)) ?_
      rw [vbin_sadd _ _ (by simp; omega), wv_some]
      refine hash_Parse.use fun x G67 hx c67 => ?_
      have s67 := s57.tmp c67
      rw [hx.only (badI 65 (by decide) _ _)]
      refine wv_of (hi0 _) ?_
      refine wv_of (hi1 _) ?_
      refine newz s67 fun i70 G72 s72 => ?_
      refine wv_of (str_cut (by omega) (by omega)) ?_
      rw [Int.toNat_natCast, vbin_sadd _ _ (by simp; omega), wv_some, wv_some]
      refine wv_of (str_rest (by omega) (by omega)) ?_
      rw [vbin_sadd _ _ (by simp; omega), wv_some]
      refine hash_Parse.use fun x G79 hx c79 => ?_
      have s79 := s72.tmp c79
      rw [hx.only (badI 103 (by decide) _ _)]
      refine wv_of (hi0 _) ?_
      refine wv_of (hi1 _) ?_
      refine newz s79 fun i82 G84 s84 => ?_
      refine wv_of (v := .bool true) rfl ?_
      rw [brB_true]
      refine wv_of (v := .bool true) rfl ?_
      rw [brB_true]
      refine wv_of (v := .bool true) rfl ?_
      rw [brB_true]
      refine wv_of (v := .bool true) rfl ?_
      rfl
    | succ n ih =>
      intro i G' hn hi s
      have hg := hget i (by omega)
      have hti : t[i]'(by omega) = Lib.digits.getD (nib h i) 0 := by
        rw [List.getElem?_eq_getElem (by omega)] at hg
        injection hg
      have hnib : nib h i = if i % 2 = 0 then (h[i / 2]'(by omega)).toNat / 16 else (h[i / 2]'(by omega)).toNat % 16 := by
        have e : h.getD (i / 2) 0 = h[i / 2]'(by omega) := by
          rw [List.getD_eq_getElem?_getD, List.getElem?_eq_getElem (by omega)]
          rfl
        rw [nib, e]
      have hb := (h[i / 2]'(by omega)).toNat_lt
      refine hR _ _ _ _ _ ?_
      rw [vbin_lss, wv_some, decide_eq_true (by omega), brB_true]
      refine wv_of (str_at (j := i) rfl (by omega)) ?_
      have hu : AVal.int .u8 ((t[i]'(by omega)).toNat : Int) = u8v (Lib.digits.getD (nib h i) 0) := by rw [hti]; rfl
      rw [hu]
      refine escrowlaw02_value.use (nib_lt h i) ?_
      refine wv_of (half i (by omega)) ?_
      refine wv_of (addr_hash (j := i / 2) (by omega)) ?_
      refine wv_of (load_byte (hs := h) (j := i / 2) (by omega) (RowL.own (i := 0) s rfl)) ?_
      refine wv_of (v := .int .i64 ((h[i / 2]'(by omega)).toNat : Int)) (by unfold u8v; rw [vconv_int T_uint8 T_int rfl, i64_in (by omega) (by omega)]) ?_
      refine wv_of (shr4 _) ?_
      refine wv_of (parity i) ?_
      rw [vbin_eql, wv_some, brB_dec]
      have next : R [.int .i64 a, .ptr i1 [] 0, .str t, .int .i64 ((i + 1 : Nat) : Int)] G' := ih (i + 1) _ (by omega) (by omega) s
      refine ⟨fun hp => ?_, fun hp => ?_⟩
      · refine wv_of (half i (by omega)) ?_
        refine wv_of (addr_hash (j := i / 2) (by omega)) ?_
        refine wv_of (load_byte (hs := h) (j := i / 2) (by omega) (RowL.own (i := 0) s rfl)) ?_
        refine wv_of (v := .int .i64 ((h[i / 2]'(by omega)).toNat : Int)) (by unfold u8v; rw [vconv_int T_uint8 T_int rfl, i64_in (by omega) (by omega)]) ?_
        refine wv_of (and15 _) ?_
        rw [hnib, if_neg (by omega), nz0, wv_some, brB_false, vbin_add, wv_some, i64_in (by omega) (by omega)]
        exact next
      · rw [hnib, if_pos (by omega), nz0, wv_some, brB_false, vbin_add, wv_some, i64_in (by omega) (by omega)]
        exact next
  exact loop 64 0 _ rfl (by omega) s4

end Go.Esc.M
