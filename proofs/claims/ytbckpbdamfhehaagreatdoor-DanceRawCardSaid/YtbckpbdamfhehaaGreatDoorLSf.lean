import Derived.Test.YtbckpbdamfhehaaGreatDoorLHt
import Derived.Test.YtbckpbdamfhehaaGreatDoorLSh
/- Own work. Chapter 2: the document's sum, texts and keys. -/
set_option linter.unusedSimpArgs false
set_option linter.unusedVariables false
set_option maxRecDepth 20000
namespace Go.Esc.M
open Go Go.Esc

section
variable {G : Heap} {Q : AVal → Heap → Prop}

/-- A text behind a list of bytes. -/
theorem growStr {F0 : List AId} {G0 : Heap} {ps : List LP} {s : AVal} {l x : List UInt8} {i : Nat} {K : AVal → Heap → Prop} (hs : Sp F0 G0 ps G) (hi : ps[i]? = some (OwnL 1 s (l.map u8v))) (hl : l.length + x.length ≤ 220000000000000)
    (hK : ∀ s' G', Sp F0 G0 (ps.set i (OwnL 1 s' ((l ++ x).map u8v))) G' → K s' G') : aAppend T G t_sl_uint8 t_string s (.str x) K := by
  obtain ⟨F, ho, _⟩ := hs.get hi
  refine own_append (T := T) (e := t_uint8) (si := ti_sl_uint8) (ie := ti_uint8) (vs := x.map u8v) T_sl_uint8 rfl T_uint8 rfl (by decide) T_string (.inl rfl) ho (by simp [selems, ti_uint8, u8v, Function.comp_def]) (uni_u8 _) (okvs_u8 _) ?_ fun s' G2 ho2 hk => hK s' G2 ?_
  · simp only [List.length_map, ti_uint8]
    omega
  · refine hs.call hi (OwnL 1 s' ((l ++ x).map u8v)) fun F h k => ?_
    obtain ⟨_, rfl⟩ := h
    exact k _ _ ⟨by rw [List.map_append]; exact ho2, rfl⟩ hk.ch

theorem Sp.nilOwn {F0 : List AId} {G0 : Heap} {ps : List LP} (hs : Sp F0 G0 ps G) (n : Nat) : Sp F0 G0 (OwnL n .nilSlice [] :: ps) G := hs.new (p := OwnL n .nilSlice []) ⟨.inl ⟨rfl, rfl⟩, rfl⟩ (Ch.refl _ _)

set_option maxHeartbeats 1000000 in
theorem escrowref02_padded.use {s : List UInt8} (hl : s.length ≤ 140737488355000) (hQ : ∀ v G', Sp [] G [OwnL 1 v ((pad s).map u8v)] G' → Q v G') : ACalls P escrowref02_padded.n [.str s] G Q := by
  refine escrowref02_padded.sound ?_
  unfold escrowref02_padded.S
  refine growStr (i := 0) (l := []) (Sp.nilOwn (Sp.nil G) 1) rfl (by simp; omega) fun v1 G2 s2 => ?_
  refine grow1 (i := 0) (b := 128) s2 rfl (by simp; omega) fun v5 G6 s6 => ?_
  intro R7 hR7
  obtain ⟨zt, hzt⟩ : ∃ zt, zt = (119 - s.length % 64) % 64 := ⟨_, rfl⟩
  have loop1 : ∀ (n z : Nat) (pd : AVal) (G' : Heap), zt - z = n → z ≤ zt → Sp [] G [OwnL 1 pd ((s ++ (128 : UInt8) :: List.replicate z 0).map u8v)] G' → R7 [.str s, pd] G' := by
    intro n
    induction n with
    | zero =>
      intro z pd G' hn hz hs
      have : z = zt := by omega
      subst this
      obtain ⟨F, ho, _⟩ := hs.get (i := 0) rfl
      refine hR7 _ _ _ ?_
      have hlz : (s ++ (128 : UInt8) :: List.replicate z 0).length = s.length + (z + 1) := by simp
      rw [own_len ho, wv_some, hlz, vbin_rem _ _ _ _ _ (by decide), wv_some]
      have hm : ((s.length + (z + 1) : Nat) : Int).tmod 64 = 56 := by
        rw [Int.tmod_eq_emod_of_nonneg (by omega)]
        omega
      rw [hm, vbin_neq, wv_some, brB_ndec]
      refine ⟨fun h => absurd rfl h, fun _ => ?_⟩
      intro R18 hR18
      have loop2 : ∀ (m : Nat) (bs : List UInt8) (pd : AVal) (G' : Heap), m ≤ 8 → bs ++ bytesBE m (8 * s.length) = pad s → Sp [] G [OwnL 1 pd (bs.map u8v)] G' → R18 [.str s, pd, .int .i64 ((m : Int) - 1)] G' := by
        intro m
        induction m with
        | zero =>
          intro bs pd G' hm he hs
          rw [bytesBE, List.append_nil] at he
          subst he
          refine hR18 _ _ _ _ ?_
          rw [vbin_geq, wv_some, brB_dec]
          refine ⟨fun h => absurd h (by decide), fun _ => ?_⟩
          exact hQ _ _ hs
        | succ m ih =>
          intro bs pd G' hm he hs
          have ei : ((m + 1 : Nat) : Int) - 1 = (m : Int) := by omega
          rw [ei]
          refine hR18 _ _ _ _ ?_
          rw [vbin_geq, wv_some, brB_dec]
          refine ⟨fun _ => ?_, fun h => absurd (by omega) h⟩
          show wv (some (.int .i64 (s.length : Nat))) _
          rw [wv_some, vbin_mul, wv_some, i64_in (by omega) (by omega), vbin_mul, wv_some, i64_in (by omega) (by omega)]
          have e8 : (8 : Int) * (s.length : Nat) = ((8 * s.length : Nat) : Int) := by omega
          rw [e8, shr_i64 (m := m) (by omega) (by omega), wv_some, vconv_int T_int T_uint8 rfl, wv_some, wrapU8]
          have eb : (AVal.int .u8 (((8 * s.length / 2 ^ (8 * m) : Nat) : Int) % 256)) = u8v (UInt8.ofNat (8 * s.length / 2 ^ (8 * m))) := by rw [u8v_ofNat]; rfl
          rw [eb]
          have hbl' : bs.length + (m + 1) ≤ s.length + 72 := by
            have h1 := congrArg List.length he
            have h2 := length_pad s
            rw [List.length_append, length_bytesBE] at h1
            omega
          refine grow1 (i := 0) hs rfl (by omega) fun s' G9 s9 => ?_
          rw [vbin_sub, wv_some, i64_in (by omega) (by omega)]
          refine ih _ s' G9 (by omega) ?_ s9
          rw [bytesBE] at he
          rw [List.append_assoc, List.singleton_append]
          exact he
      exact loop2 8 (s ++ (128 : UInt8) :: List.replicate z 0) pd G' (by omega) (by rw [pad, ← hzt]; simp) hs
    | succ n ih =>
      intro z pd G' hn hz hs
      obtain ⟨F, ho, _⟩ := hs.get (i := 0) rfl
      refine hR7 _ _ _ ?_
      have hlz : (s ++ (128 : UInt8) :: List.replicate z 0).length = s.length + (z + 1) := by simp
      rw [own_len ho, wv_some, hlz, vbin_rem _ _ _ _ _ (by decide), wv_some]
      have hm : ((s.length + (z + 1) : Nat) : Int).tmod 64 ≠ 56 := by
        rw [Int.tmod_eq_emod_of_nonneg (by omega)]
        omega
      rw [vbin_neq, wv_some, brB_ndec]
      refine ⟨fun _ => ?_, fun h => absurd h hm⟩
      refine grow1 (i := 0) (b := 0) hs rfl (by rw [hlz]; omega) fun s' G9 s9 => ?_
      refine ih (z + 1) s' G9 (by omega) (by omega) ?_
      have : s ++ (128 : UInt8) :: List.replicate (z + 1) 0 = (s ++ (128 : UInt8) :: List.replicate z 0) ++ [0] := by rw [List.replicate_succ']; simp
      rw [this]
      exact s9
  exact loop1 zt 0 v5 G6 rfl (by omega) s6

set_option maxHeartbeats 1000000 in
theorem escrowref02_One.use {s : List UInt8} (hl : s.length ≤ 140737488355000) (hQ : ∀ G', Ch [] G [] G' → Q (.agg ((sha s).map u8v)) G') : ACalls P escrowref02_One.n [.str s] G Q := by
  refine escrowref02_One.sound ?_
  unfold escrowref02_One.S
  rw [z_hash]
  unfold sha at hQ
  obtain ⟨D, hD⟩ : ∃ D, chain ((pad s).length / 64) H256 (pad s) = D := ⟨_, rfl⟩
  rw [hD] at hQ
  have hD8 : D.length = 8 := by rw [← hD]; exact length_chain _ _ rfl
  have hp := length_pad s
  intro i1 f1
  have s1 := (Sp.nil G).row f1 (.agg ((List.replicate 32 (0 : UInt8)).map u8v))
  refine escrowref02_padded.use hl fun v3 G4 s4 => ?_
  obtain ⟨F4, ⟨h4, _⟩, c4⟩ := s4.out
  have s4 := s1.new (p := OwnL 1 v3 ((pad s).map u8v)) (F' := F4) ⟨h4, by assumption⟩ c4
  refine wv_of (v := .agg (u32s H256)) (by kernel_rfl) ?_
  rw [z8]
  intro i6 f6
  have s7 := s4.row f6 (.agg (u32s (List.replicate 8 0)))
  rw [ar8_store (by simp) (ws' := H256) rfl (RowL.own (i := 0) s7 rfl), wg_some]
  have s8 := Sp.setRow s7 (j := 0) rfl (.agg (u32s H256))
  intro R9 hR9
  have loop : ∀ (n at_ : Nat) (h : List Nat) (G' : Heap), (pad s).length = at_ + 64 * n → h.length = 8 → chain n h ((pad s).drop at_) = D →
      Sp [] G [RowL i6 (.agg (u32s h)), OwnL 1 v3 ((pad s).map u8v), RowL i1 (.agg ((List.replicate 32 (0 : UInt8)).map u8v))] G' → R9 [.ptr i1 [] 0, v3, .ptr i6 [] 0, .int .i64 (at_ : Int)] G' := by
    intro n
    induction n with
    | zero =>
      intro at_ h G' hm hh he hs
      have he : h = D := he
      subst he
      obtain ⟨F, ho, _⟩ := hs.get (i := 1) rfl
      refine hR9 _ _ _ _ _ ?_
      rw [own_len ho, wv_some, vbin_lss, wv_some, brB_dec]
      refine ⟨fun h => absurd h (by omega), fun _ => ?_⟩
      intro i22 f22
      have s23 := hs.row f22 (.agg ((List.replicate 32 (0 : UInt8)).map u8v))
      intro R24 hR24
      refine digest_loop (p := 0) (q := 1) (x0 := .ptr i1 [] 0) hh (by simp) (by decide) (ps := [RowL i22 (.agg ((List.replicate 32 (0 : UInt8)).map u8v)), RowL i6 (.agg (u32s h)), OwnL 1 v3 ((pad s).map u8v), RowL i1 (.agg ((List.replicate 32 (0 : UInt8)).map u8v))]) rfl R24 _ hR24 s23 fun G9 h9 => ?_
      have hz := length_digest h
      rw [load_hash hz (RowL.own (i := 0) h9 rfl), wv_some, store_hash (by simp) hz (RowL.own (i := 3) h9 rfl), wg_some, load_hash hz (Heap.upd_self _ _ _), wv_some]
      exact hQ _ (Sp.setRow h9 (j := 3) rfl (.agg ((digest h).map u8v))).ch
    | succ n ih =>
      intro at_ h G' hm hh he hs
      obtain ⟨F, ho, _⟩ := hs.get (i := 1) rfl
      refine hR9 _ _ _ _ _ ?_
      rw [own_len ho, wv_some, vbin_lss, wv_some, brB_dec]
      refine ⟨fun _ => ?_, fun h => absurd (by omega) h⟩
      rw [ar8_load hh (RowL.own (i := 0) hs rfl), wv_some]
      refine escrowref02_block.use hh ho.is (by omega) (by omega) fun G9 c9 => ?_
      have s9 := hs.tmp c9
      have hc8 : (compress h (((pad s).drop at_).take 64)).length = 8 := length_compress hh
      rw [ar8_store hh hc8 (RowL.own (i := 0) s9 rfl), wg_some, vbin_add, wv_some, i64_in (by omega) (by omega)]
      refine ih (at_ + 64) _ _ (by omega) hc8 ?_ (Sp.setRow s9 (j := 0) rfl _)
      rw [← List.drop_drop]
      exact he
  exact loop ((pad s).length / 64) 0 H256 _ (by omega) rfl hD s8

theorem escrowref02_Sum.use {v : AVal} {xs : List (List UInt8)} (hl : IsSl 1 G v (xs.map .str)) (hN : xs.length ≤ 9223372036854775807) (hlen : xs.flatten.length ≤ 140737488355000) (hQ : ∀ G', Ch [] G [] G' → Q (.agg ((sha xs.flatten).map u8v)) G') : ACalls P escrowref02_Sum.n [v] G Q := by
  refine escrowref02_Sum.sound ?_
  unfold escrowref02_Sum.S
  rw [z_hash]
  intro i1 f1
  have s1 := (Sp.nil G).row f1 (.agg ((List.replicate 32 (0 : UInt8)).map u8v))
  revert s1
  generalize Heap.upd _ i1 _ = G2
  intro s1 R hR
  have hl1 := hl.ch s1.ch
  have hle : ∀ j, (xs.take j).flatten.length ≤ xs.flatten.length := fun j => by
    conv => rhs; rw [← List.take_append_drop j xs, List.flatten_append, List.length_append]
    omega
  have loop : ∀ (n j : Nat), xs.length - j = n → j ≤ xs.length → R [v, .ptr i1 [] 0, .str (xs.take j).flatten, .int .i64 (j : Int)] G2 := by
    intro n
    induction n with
    | zero =>
      intro j hn hj
      have : j = xs.length := by omega
      subst this
      refine hR _ _ _ _ _ ?_
      rw [hl1.len (i := ti_sl_string) T_sl_string rfl, List.length_map, wv_some, vbin_lss, wv_some, brB_dec]
      refine ⟨fun h => absurd h (by omega), fun _ => ?_⟩
      rw [List.take_length]
      refine escrowref02_One.use hlen fun G16 c16 => ?_
      have s16 := s1.tmp c16
      refine wg_of (store_hash (by simp) (length_sha _) (RowL.own (i := 0) s16 rfl)) ?_
      have s17 := Sp.setRow (j := 0) s16 rfl (.agg ((sha xs.flatten).map u8v))
      refine wv_of (load_hash (length_sha _) (RowL.own (i := 0) s17 rfl)) ?_
      exact hQ _ s17.ch
    | succ n ih =>
      intro j hn hj
      obtain ⟨x, hx⟩ : ∃ x, xs[j]? = some x := ⟨_, List.getElem?_eq_getElem (by omega)⟩
      obtain ⟨a, ha, hla⟩ := hl1.at_ (k := .i64) (j := j) (i := ti_sl_string) (ie := ti_string) (T := T) (t := t_sl_string) (e := t_string) (c := .str x) T_sl_string rfl T_string (by rw [List.getElem?_map, hx]; rfl) rfl
      have et : (xs.take (j + 1)).flatten = (xs.take j).flatten ++ x := by rw [List.take_add_one, hx]; simp
      have h1 := hle (j + 1)
      rw [et, List.length_append] at h1
      refine hR _ _ _ _ _ ?_
      rw [hl1.len (i := ti_sl_string) T_sl_string rfl, List.length_map, wv_some, vbin_lss, wv_some, brB_dec]
      refine ⟨fun _ => ?_, fun h => absurd (by omega) h⟩
      rw [ha, wv_some, hla, wv_some, vbin_sadd _ _ (by omega), wv_some, vbin_add, wv_some, i64_in (by omega) (by omega), ← et]
      exact ih (j + 1) (by omega) (by omega)
  exact loop _ 0 rfl (by omega)

end
end Go.Esc.M

/- Own work. Chapter 9: places, levels, the way down: plain laws. -/
set_option linter.unusedSimpArgs false
set_option linter.unusedVariables false
set_option maxRecDepth 20000
namespace Go.Esc.M
open Go Go.Esc

def bitN (p i : Nat) : Nat := p / 2 ^ i % 2
def lev : Nat → Nat → Nat
  | 0, _ => 0
  | n + 1, p => if p % 2 = 1 then 0 else lev n (p / 2) + 1
def level (p : Nat) : Nat := lev 48 p
theorem lev_le : ∀ n p, lev n p ≤ n
  | 0, _ => Nat.le_refl _
  | n + 1, p => by
    unfold lev
    split
    · omega
    · have := lev_le n (p / 2); omega
theorem lev_dvd : ∀ n p, 2 ^ lev n p ∣ p
  | 0, p => by simp [lev]
  | n + 1, p => by
    unfold lev
    split
    · simp
    · rename_i h
      have := lev_dvd n (p / 2)
      rw [Nat.pow_succ, Nat.mul_comm]
      have h2 : p = 2 * (p / 2) := by omega
      rw [h2]
      have e : 2 * (p / 2) / 2 = p / 2 := by omega
      rw [e]
      exact Nat.mul_dvd_mul_left 2 this
theorem lev_odd : ∀ n p, lev n p < n → p / 2 ^ lev n p % 2 = 1
  | 0, p, h => by omega
  | n + 1, p, h => by
    unfold lev at h ⊢
    split
    · rename_i h1; simpa using h1
    · rename_i h1
      rw [if_neg h1] at h
      have := lev_odd n (p / 2) (by omega)
      rwa [Nat.div_div_eq_div_mul, Nat.mul_comm, ← Nat.pow_succ] at this
theorem level_le (p : Nat) : level p ≤ 48 := lev_le 48 p
theorem level_dvd (p : Nat) : 2 ^ level p ∣ p := lev_dvd 48 p
theorem level_pos {p : Nat} (h0 : p ≠ 0) (hp : p < 2 ^ 48) : level p < 48 := by
  refine Nat.lt_of_le_of_ne (level_le p) fun h => ?_
  have := level_dvd p
  rw [h] at this
  exact h0 (Nat.eq_zero_of_dvd_of_lt this hp)
/-- The level is where the first 1 is. -/
theorem level_form {p : Nat} (h0 : p ≠ 0) (hp : p < 2 ^ 48) : ∃ m, p = 2 ^ level p * (2 * m + 1) := by
  have h1 := lev_odd 48 p (level_pos h0 hp)
  obtain ⟨c, hc⟩ := level_dvd p
  refine ⟨c / 2, ?_⟩
  have hpos : 0 < 2 ^ level p := Nat.pow_pos (by decide)
  have h2 : p / 2 ^ level p = c := Nat.div_eq_of_eq_mul_right hpos hc
  have h1' : p / 2 ^ level p % 2 = 1 := h1
  rw [h2] at h1'
  have : 2 * (c / 2) + 1 = c := by omega
  rw [this, ← hc]
/-- A bit turned. -/
def flipB (h : List UInt8) (b : Nat) : List UInt8 := h.set (b / 8) (h.getD (b / 8) 0 ^^^ UInt8.ofNat (2 ^ (b % 8)))
def stepD (pl b : Nat) (h : List UInt8) : List UInt8 := if bitN pl b = 1 then sha (flipB h b) else h
/-- Down by so many of the lowest bits. -/
def downS (pl : Nat) : Nat → List UInt8 → List UInt8
  | 0, h => h
  | k + 1, h => downS pl k (stepD pl k h)
theorem length_step' {pl b : Nat} {h : List UInt8} (hl : h.length = 32) : (stepD pl b h).length = 32 := by
  unfold stepD
  split
  · exact length_sha _
  · exact hl
theorem length_down {pl : Nat} : ∀ (k : Nat) {h : List UInt8}, h.length = 32 → (downS pl k h).length = 32
  | 0, h, hl => hl
  | k + 1, h, hl => length_down k (length_step' hl)
/-! ### Go's count of the zeros at the end -/

def tabZ : List Int := [0, 1, 56, 2, 57, 49, 28, 3, 61, 58, 42, 50, 38, 29, 17, 4, 62, 47, 59, 36, 45, 43, 51, 22, 53, 39, 33, 30, 24, 18, 12, 5, 63, 55, 48, 27, 60, 41, 37, 16, 46, 35, 44, 21, 52, 32, 23, 11, 54, 26, 40, 15, 34, 20, 31, 10, 25, 14, 19, 9, 13, 8, 7, 6]
theorem tab_at : ∀ k : Fin 64, tabZ[(2 ^ k.val * 0x03f79d71b4ca8b09 % 18446744073709551616) / 288230376151711744]? = some ((k.val : Nat) : Int) := by decide +kernel
theorem and_neg {k m : Nat} (h : 2 ^ k * (2 * m + 1) < 2 ^ 64) : (2 ^ k * (2 * m + 1)) &&& (2 ^ 64 - 2 ^ k * (2 * m + 1)) = 2 ^ k := by
  have hk : 0 < 2 ^ k := Nat.pow_pos (by decide)
  have hk64 : k < 64 := by
    refine Nat.lt_of_not_le fun hle => ?_
    have h1 : 2 ^ 64 ≤ 2 ^ k := Nat.pow_le_pow_right (by decide) hle
    have h2 : 2 ^ k ≤ 2 ^ k * (2 * m + 1) := Nat.le_mul_of_pos_right _ (by omega)
    omega
  obtain ⟨y, hy⟩ : ∃ y, 2 ^ k * (2 * m + 1) = y + 1 := ⟨2 ^ k * (2 * m + 1) - 1, by
    have : 2 ^ k ≤ 2 ^ k * (2 * m + 1) := Nat.le_mul_of_pos_right _ (by omega)
    omega⟩
  have hy2 : y = 2 ^ k * (2 * m) + (2 ^ k - 1) := by
    rw [Nat.mul_add] at hy
    omega
  apply Nat.eq_of_testBit_eq
  intro i
  have e1 : (2 ^ 64 - 2 ^ k * (2 * m + 1)).testBit i = (decide (i < 64) && !y.testBit i) := by
    rw [hy]
    exact Nat.testBit_two_pow_sub_succ (by omega) i
  have e2 : y.testBit i = if i < k then (2 ^ k - 1).testBit i else (2 * m).testBit (i - k) := by
    rw [hy2]
    exact Nat.testBit_two_pow_mul_add _ (by omega) i
  have e3 : (2 ^ k * (2 * m + 1)).testBit i = if i < k then false else (2 * m + 1).testBit (i - k) := by
    have := Nat.testBit_two_pow_mul_add (i := k) (2 * m + 1) (b := 0) (by omega) i
    rw [Nat.add_zero] at this
    rw [this]
    simp
  rw [Nat.testBit_and, e1, e2, e3, Nat.testBit_two_pow]
  by_cases hik : i < k
  · rw [if_pos hik, Bool.false_and, decide_eq_false (by omega)]
  · rw [if_neg hik, if_neg hik]
    by_cases he : i = k
    · subst he
      rw [Nat.sub_self, decide_eq_true hk64, decide_eq_true rfl]
      simp [Nat.testBit_zero]
    · rw [decide_eq_false (show ¬ k = i by omega)]
      obtain ⟨j, hj⟩ : ∃ j, i - k = j + 1 := ⟨i - k - 1, by omega⟩
      rw [hj, Nat.testBit_succ, Nat.testBit_succ]
      have d1 : (2 * m + 1) / 2 = m := by omega
      have d2 : 2 * m / 2 = m := by omega
      rw [d1, d2]
      cases m.testBit j <;> simp

end Go.Esc.M

/- Own work. Chapter 9: secrets, in the program. -/
set_option linter.unusedSimpArgs false
set_option linter.unusedVariables false
set_option maxRecDepth 20000
namespace Go.Esc.M
open Go Go.Esc

/-- Go's table lies there. -/
def Tab (G : Heap) : Prop := G g_math_bits_deBruijn64tab = some (.ro (tabV tabZ))
theorem Tab.mono {G G' : Heap} (h : Tab G) (hle : RoLe G G') : Tab G' := hle _ _ h

def okN (n : Int) : Bool := decide (0 ≤ n) && decide (n ≤ 281474976710655)
def pl (n : Int) : Nat := (281474976710655 - n).toNat
theorem okN_iff {n : Int} : okN n = true ↔ 0 ≤ n ∧ n ≤ 281474976710655 := by simp [okN]
theorem pl_eq {n : Int} (h : okN n = true) : 281474976710655 - n = ((pl n : Nat) : Int) ∧ pl n < 2 ^ 48 := by
  have := okN_iff.1 h
  unfold pl
  omega
def zero32 : List UInt8 := List.replicate 32 0
def secretS (s : List UInt8) (n : Int) : List UInt8 × Int := bif okN n then (downS (pl n) 48 s, 0) else (zero32, 90)
def levelS (n : Int) : Int × Int := bif okN n then ((level (pl n) : Nat), 0) else (0, 90)
def deriveS (s : List UInt8) (a b : Int) : List UInt8 × Int := bif okN a && okN b then (if pl a / 2 ^ level (pl a) = pl b / 2 ^ level (pl a) then (downS (pl b) (level (pl a)) s, 0) else (zero32, 5)) else (zero32, 90)
def tupII (x : Int × Int) : AVal := .tuple [.int .i64 x.1, .int .i64 x.2]
theorem ii0 (x : Int × Int) : vextract (tupII x) 0 = some (.int .i64 x.1) := rfl
theorem ii1 (x : Int × Int) : vextract (tupII x) 1 = some (.int .i64 x.2) := rfl

theorem u64_and {T : Tbl} {t : TypeId} {a b : Nat} (ha : a < 2 ^ 64) (hb : b < 2 ^ 64) : vbin T .and t (.int .u64 (a : Int)) (.int .u64 (b : Int)) = some (.int .u64 ((a &&& b : Nat) : Int)) := by
  have hbits : IntKind.u64.bits = 64 := rfl
  have e8 : ∀ x : Nat, (BitVec.ofInt 64 (x : Int)).toNat = x % 2 ^ 64 := fun x => by rw [BitVec.ofInt_natCast, BitVec.toNat_ofNat]
  rw [vbin_and, wrapU64, hbits, BitVec.toNat_and, e8, e8, Nat.mod_eq_of_lt ha, Nat.mod_eq_of_lt hb]
  have : a &&& b < 2 ^ 64 := Nat.and_lt_two_pow _ hb
  congr 2
  omega
theorem quoN (i c : Nat) (hc : c ≠ 0) (hi : i ≤ 1000000) {t : TypeId} {T : Tbl} {x : Int} (hx : x = (c : Int)) : vbin T .quo t (.int .i64 (i : Int)) (.int .i64 x) = some (.int .i64 ((i / c : Nat) : Int)) := by
  subst hx
  rw [vbin_quo _ _ _ _ _ (by omega), tdiv_nat]
  have : i / c ≤ i := Nat.div_le_self _ _
  obtain ⟨q, hq⟩ : ∃ q, q = i / c := ⟨_, rfl⟩
  rw [← hq] at this ⊢
  rw [i64_in (by omega) (by omega)]
theorem remN (i c : Nat) (hc : c ≠ 0) {t : TypeId} {T : Tbl} {x : Int} (hx : x = (c : Int)) : vbin T .rem t (.int .i64 (i : Int)) (.int .i64 x) = some (.int .i64 ((i % c : Nat) : Int)) := by
  subst hx
  rw [vbin_rem _ _ _ _ _ (by omega), tmod_nat']
theorem shrN {p b : Nat} (hb : b ≤ 63) {t : TypeId} {T : Tbl} {kk : IntKind} : vbin T .shr t (.int .i64 (p : Int)) (.int kk (b : Int)) = some (.int .i64 ((p / 2 ^ b : Nat) : Int)) := by
  rw [vbin_shr _ _ _ _ _ _ (by omega)]
  have h1 : min (b : Int).toNat IntKind.i64.bits = b := by
    have : IntKind.i64.bits = 64 := rfl
    omega
  have h2 : ((2 : Int) ^ b) = ((2 ^ b : Nat) : Int) := by simp
  rw [h1, h2, Int.fdiv_eq_ediv_of_nonneg _ (Int.natCast_nonneg _)]
  congr 2
theorem and1 (p : Nat) {t : TypeId} {T : Tbl} : vbin T .and t (.int .i64 (p : Int)) (.int .i64 1) = some (.int .i64 ((p % 2 : Nat) : Int)) := by
  have h := and_mask (p : Int) 1 (by decide)
  rw [vbin_and]
  have e1 : ((2 ^ 1 - 1 : Nat) : Int) = 1 := by decide
  have e2 : ((2 ^ 1 : Nat) : Int) = 2 := by decide
  rw [e1, e2] at h
  rw [h]
  congr 2
theorem shl1 {b : Nat} (hb : b < 8) {t : TypeId} {T : Tbl} {kk : IntKind} : vbin T .shl t (.int .u8 1) (.int kk (b : Int)) = some (u8v (UInt8.ofNat (2 ^ b))) := by
  rw [vbin_shl _ _ _ _ _ _ (by omega), wrapU8, u8v_ofNat]
  have h1 : min (b : Int).toNat IntKind.u8.bits = b := by
    have : IntKind.u8.bits = 8 := rfl
    omega
  have h2 : ((2 : Int) ^ b) = ((2 ^ b : Nat) : Int) := by simp
  rw [h1, h2, Int.one_mul]
  congr 2

section
variable {F0 : List AId} {G0 G : Heap} {ps : List LP} {Q : AVal → Heap → Prop}

theorem bits_TrailingZeros64.use {x : Nat} (hx : x < 2 ^ 48) (hT : Tab G) (hQ : Q (.int .i64 ((if x = 0 then 64 else level x : Nat) : Int)) G) : ACalls P bits_TrailingZeros64.n [.int .u64 (x : Int)] G Q := by
  refine bits_TrailingZeros64.sound ?_
  unfold bits_TrailingZeros64.S
  rw [vbin_eql, wv_some, brB_dec]
  refine ⟨fun h0 => ?_, fun h0 => ?_⟩
  · rw [if_pos (by omega)] at hQ
    exact hQ
  rw [if_neg (by omega)] at hQ
  have hx0 : x ≠ 0 := by omega
  obtain ⟨m, hm⟩ := level_form hx0 hx
  have hl := level_pos hx0 hx
  have hp48 : (2 : Nat) ^ 48 ≤ 2 ^ 64 := by decide
  have e64 : (2 : Nat) ^ 64 = 18446744073709551616 := by decide
  rw [vun_neg, wv_some, wrapU64]
  have hneg : (0 - (x : Int)) % 18446744073709551616 = ((2 ^ 64 - x : Nat) : Int) := by omega
  rw [hneg, u64_and (by omega) (by omega), wv_some]
  have hand : x &&& (2 ^ 64 - x) = 2 ^ level x := by
    have := and_neg (k := level x) (m := m) (by rw [← hm]; omega)
    rwa [← hm] at this
  rw [hand]
  obtain ⟨k, hk⟩ : ∃ k, k = level x := ⟨_, rfl⟩
  rw [← hk] at hQ hl ⊢
  have htab := tab_at ⟨k, by omega⟩
  dsimp only at htab
  obtain ⟨idx, hidx⟩ : ∃ i, i = (2 ^ k * 0x03f79d71b4ca8b09 % 18446744073709551616) / 288230376151711744 := ⟨_, rfl⟩
  have hi64 : idx < 64 := by rw [hidx]; omega
  rw [← hidx] at htab
  rw [vbin_mul, wv_some, wrapU64]
  have hmul : (((2 ^ k : Nat) : Int) * 285870213051353865) % 18446744073709551616 = ((2 ^ k * 0x03f79d71b4ca8b09 % 18446744073709551616 : Nat) : Int) := by omega
  rw [hmul]
  have hshr : vbin T .shr t_uint64 (.int .u64 ((2 ^ k * 0x03f79d71b4ca8b09 % 18446744073709551616 : Nat) : Int)) (.int .u64 58) = some (.int .u64 (idx : Int)) := by
    rw [vbin_shr _ _ _ _ _ _ (by decide)]
    have h1 : min (58 : Int).toNat IntKind.u64.bits = 58 := rfl
    have h2 : ((2 : Int) ^ 58) = ((288230376151711744 : Nat) : Int) := by decide
    rw [h1, h2, Int.fdiv_eq_ediv_of_nonneg _ (Int.natCast_nonneg _), hidx]
    congr 2
  refine wv_of hshr ?_
  refine wv_of (arrN_addr (j := idx) T_ar64_uint8 rfl T_uint8 rfl (by omega)) ?_
  have hld : vload T G t_uint8 (.ptr g_math_bits_deBruijn64tab ([] ++ [idx]) (0 + idx * ti_uint8.size)) = some (.int .u8 (k : Int)) := by
    have hz : (tabZ.map (AVal.int .u8))[idx]? = some (.int .u8 (k : Int)) := by rw [List.getElem?_map, htab]; rfl
    have hu : uni 1 (tabZ.map (AVal.int .u8)) = true := by simp [uni, sz]
    have hs : szs ((tabZ.map (AVal.int .u8)).take idx) = idx := by
      have := szs_takeN hu (j := idx) (by have := (List.getElem?_eq_some_iff.1 hz).1; omega)
      rw [this, Nat.mul_one]
    have hT' : G g_math_bits_deBruijn64tab = some (.ro (tabV tabZ)) := hT
    have hsub : vsub G (.ptr g_math_bits_deBruijn64tab [idx] idx) = some (.int .u8 (k : Int)) := by
      simp only [vsub, hT', treeOf, tabV, sub, hs, Nat.le_refl, if_true, hz, Nat.sub_self]
    show vload T G t_uint8 (.ptr g_math_bits_deBruijn64tab [idx] (0 + idx * 1)) = _
    rw [Nat.zero_add, Nat.mul_one]
    simp only [vload, hsub, T_uint8]
    rfl
  refine wv_of hld ?_
  rw [vconv_int T_uint8 T_int rfl, i64_in (by omega) (by omega), wv_some]
  exact hQ

theorem seed_right.use {n : Int} (hQ : Q (.bool (okN n)) G) : ACalls P seed_right.n [.int .i64 n] G Q := by
  refine seed_right.sound ?_
  unfold seed_right.S
  unfold okN at hQ
  rw [vbin_geq, wv_some, brB_dec]
  refine ⟨fun h => ?_, fun h => by rwa [decide_eq_false h, Bool.false_and] at hQ⟩
  rw [decide_eq_true h, Bool.true_and] at hQ
  rw [vbin_leq, wv_some]
  exact hQ
theorem seed_place.use {n : Int} (h : okN n = true) (hQ : Q (.int .i64 ((pl n : Nat) : Int)) G) : ACalls P seed_place.n [.int .i64 n] G Q := by
  refine seed_place.sound ?_
  unfold seed_place.S
  obtain ⟨h1, h2⟩ := pl_eq h
  have e48 : (2 : Nat) ^ 48 = 281474976710656 := by decide
  rw [vbin_sub, h1, i64_in (by omega) (by omega), wv_some]
  exact hQ

theorem seed_Point.use {h : List UInt8} (hl : h.length = 32) (hQ : ∀ G', Ch [] G [] G' → Q (.agg ((sha h).map u8v)) G') : ACalls P seed_Point.n [.agg (h.map u8v)] G Q := by
  refine seed_Point.sound ?_
  unfold seed_Point.S
  rw [z_hash]
  intro i1 f1
  have s1 := (Sp.nil G).row f1 (.agg (h.map u8v))
  intro i3 f3
  have s3 := s1.row f3 (.agg ((List.replicate 32 (0 : UInt8)).map u8v))
  refine wv_of vslice_hash ?_
  refine wv_of (conv_bytes T_sl_uint8 rfl T_uint8 rfl T_string rfl (row_is (RowL.own (i := 1) s3 rfl) hl)) ?_
  refine buildL (T := T) (ts := t_sl_string) (e := t_string) (si := ti_sl_string) (ie := ti_string) (l := [h].map .str) T_sl_string rfl T_string rfl rfl rfl rfl (by simp [sz, ti_string]) (by decide) s3 fun v7 G8 s8 => ?_
  refine hash_Sum.use (xs := [h]) (OwnL.own (i := 0) s8 rfl).cap (by simp) (by simp; omega) fun G10 c10 => ?_
  have s10 := s8.tmp c10
  have e1 : [h].flatten = h := by simp
  rw [e1]
  refine wg_of (store_hash (hs' := sha h) (by simp) (length_sha _) (RowL.own (i := 1) s10 rfl)) ?_
  have s11 := Sp.setRow (j := 1) s10 rfl (.agg ((sha h).map u8v))
  refine wv_of (load_hash (length_sha _) (RowL.own (i := 1) s11 rfl)) ?_
  exact hQ _ s11.ch

theorem flip_at {h : List UInt8} (hl : h.length = 32) {b : Nat} (hb : b < 48) : h.set (b / 8) ((h[b / 8]'(by omega)) ^^^ UInt8.ofNat (2 ^ (b % 8))) = flipB h b := by
  unfold flipB
  rw [List.getD_eq_getElem?_getD, List.getElem?_eq_getElem (by omega)]
  rfl
theorem length_flip {h : List UInt8} (hl : h.length = 32) (b : Nat) : (flipB h b).length = 32 := by simp [flipB, hl]

set_option maxHeartbeats 1000000 in
theorem seed_down.use {h : List UInt8} {p k : Nat} (hl : h.length = 32) (hp : p < 2 ^ 48) (hk : k ≤ 48) (hQ : ∀ G', Ch [] G [] G' → Q (.agg ((downS p k h).map u8v)) G') : ACalls P seed_down.n [.agg (h.map u8v), .int .i64 (p : Int), .int .i64 (k : Int)] G Q := by
  refine seed_down.sound ?_
  unfold seed_down.S
  rw [z_hash]
  intro i1 f1
  have s1 := (Sp.nil G).row f1 (.agg (h.map u8v))
  intro i3 f3
  have s3 := s1.row f3 (.agg ((List.replicate 32 (0 : UInt8)).map u8v))
  intro R hR
  have hD := length_down (pl := p) k hl
  have loop : ∀ (r : Nat) (c : List UInt8) (G' : Heap), r ≤ k → c.length = 32 → downS p r c = downS p k h → Sp [] G [RowL i3 (.agg ((List.replicate 32 (0 : UInt8)).map u8v)), RowL i1 (.agg (c.map u8v))] G' → R [.int .i64 (p : Int), .int .i64 (k : Int), .ptr i1 [] 0, .ptr i3 [] 0, .int .i64 (k : Int), .int .i64 ((k - r : Nat) : Int)] G' := by
    intro r
    induction r with
    | zero =>
      intro c G' hr hc hd s
      have hcD : c = downS p k h := hd
      subst hcD
      refine hR _ _ _ _ _ _ _ ?_
      rw [vbin_lss, wv_some, decide_eq_false (by omega), brB_false]
      refine wv_of (load_hash hD (RowL.own (i := 1) s rfl)) ?_
      refine wg_of (store_hash (hs' := downS p k h) (by simp) hD (RowL.own (i := 0) s rfl)) ?_
      have s' := Sp.setRow (j := 0) s rfl (.agg ((downS p k h).map u8v))
      refine wv_of (load_hash hD (RowL.own (i := 0) s' rfl)) ?_
      exact hQ _ s'.ch
    | succ r ih =>
      intro c G' hr hc hd s
      refine hR _ _ _ _ _ _ _ ?_
      rw [vbin_lss, wv_some, decide_eq_true (by omega), brB_true, vbin_sub, i64_in (by omega) (by omega), wv_some, vbin_sub, i64_in (by omega) (by omega), wv_some]
      have eb : (k : Int) - 1 - ((k - (r + 1) : Nat) : Int) = (r : Int) := by omega
      rw [eb]
      refine wv_of (shrN (by omega)) ?_
      refine wv_of (and1 _) ?_
      have hnext : ((k - (r + 1) : Nat) : Int) + 1 = ((k - r : Nat) : Int) := by omega
      rw [vbin_eql, wv_some, brB_dec]
      have hbit : p / 2 ^ r % 2 = bitN p r := rfl
      refine ⟨fun h1 => ?_, fun h1 => ?_⟩
      · have hb1 : bitN p r = 1 := by rw [← hbit]; omega
        have hstep : stepD p r c = sha (flipB c r) := by unfold stepD; rw [if_pos hb1]
        refine wv_of (quoN r 8 (by decide) (by omega) rfl) ?_
        refine wv_of (addr_hash (j := r / 8) (by omega)) ?_
        refine wv_of (load_byte (hs := c) (j := r / 8) (by omega) (RowL.own (i := 1) s rfl)) ?_
        refine wv_of (remN r 8 (by decide) rfl) ?_
        refine wv_of (shl1 (by omega)) ?_
        refine wv_of (u8_xor _ _) ?_
        refine wv_of (addr_hash (j := r / 8) (by omega)) ?_
        refine wg_of (store_byte (hs := c) (j := r / 8) (by omega) (RowL.own (i := 1) s rfl)) ?_
        rw [flip_at hc (by omega)]
        have s' := Sp.setRow (j := 1) s rfl (.agg ((flipB c r).map u8v))
        have hfl := length_flip hc r
        refine wv_of (load_hash hfl (RowL.own (i := 1) s' rfl)) ?_
        refine seed_Point.use hfl fun G29 c29 => ?_
        have s29 := s'.tmp c29
        refine wg_of (store_hash (hs' := sha (flipB c r)) hfl (length_sha _) (RowL.own (i := 1) s29 rfl)) ?_
        have s30 := Sp.setRow (j := 1) s29 rfl (.agg ((sha (flipB c r)).map u8v))
        rw [vbin_add, wv_some, i64_in (by omega) (by omega), hnext]
        refine ih _ _ (by omega) (length_sha _) ?_ s30
        rw [← hstep]
        exact hd
      · have hb0 : ¬ bitN p r = 1 := by rw [← hbit]; omega
        have hstep : stepD p r c = c := by unfold stepD; rw [if_neg hb0]
        rw [vbin_add, wv_some, i64_in (by omega) (by omega), hnext]
        refine ih _ _ (by omega) hc ?_ s
        have hd' : downS p r (stepD p r c) = downS p k h := hd
        rwa [hstep] at hd'
  have := loop k h _ (Nat.le_refl _) hl rfl s3
  rwa [Nat.sub_self] at this

theorem seed_Secret.use {s : List UInt8} {n : Int} (hl : s.length = 32) (hQ : ∀ G', Ch [] G [] G' → Q (tupHI (secretS s n)) G') : ACalls P seed_Secret.n [.agg (s.map u8v), .int .i64 n] G Q := by
  refine seed_Secret.sound ?_
  unfold seed_Secret.S
  rw [z_hash]
  intro i1 f1
  have s1 := (Sp.nil G).row f1 (.agg (s.map u8v))
  intro i3 f3
  have s3 := s1.row f3 (.agg (zero32.map u8v))
  refine seed_right.use ?_
  unfold secretS at hQ
  rw [vun_not, wv_some]
  cases hn : okN n with
  | false =>
    rw [hn] at hQ
    rw [Bool.not_false, brB_true]
    refine wv_of zero_hash2 ?_
    refine wg_of (store_hash (hs' := zero32) rfl rfl (RowL.own (i := 0) s3 rfl)) ?_
    have s9 := Sp.setRow (j := 0) s3 rfl (.agg (zero32.map u8v))
    refine wv_of (load_hash rfl (RowL.own (i := 0) s9 rfl)) ?_
    exact hQ _ s9.ch
  | true =>
    rw [hn] at hQ
    rw [Bool.not_true, brB_false]
    refine wv_of (load_hash hl (RowL.own (i := 1) s3 rfl)) ?_
    refine seed_place.use hn ?_
    refine ⟨⟨load_hash hl (RowL.own (i := 1) s3 rfl), trivial⟩, ?_⟩
    refine seed_down.use (k := 48) hl (pl_eq hn).2 (by omega) fun G15 c15 => ?_
    have s15 := s3.tmp c15
    have hD := length_down (pl := pl n) 48 hl
    refine wg_of (store_hash (hs' := downS (pl n) 48 s) rfl hD (RowL.own (i := 0) s15 rfl)) ?_
    have s16 := Sp.setRow (j := 0) s15 rfl (.agg ((downS (pl n) 48 s).map u8v))
    refine wv_of (load_hash hD (RowL.own (i := 0) s16 rfl)) ?_
    exact hQ _ s16.ch

theorem seed_Level.use {n : Int} (hT : Tab G) (hQ : Q (tupII (levelS n)) G) : ACalls P seed_Level.n [.int .i64 n] G Q := by
  refine seed_Level.sound ?_
  unfold seed_Level.S
  refine seed_right.use ?_
  unfold levelS at hQ
  rw [vun_not, wv_some]
  cases hn : okN n with
  | false =>
    rw [hn] at hQ
    exact hQ
  | true =>
    rw [hn] at hQ
    rw [Bool.not_true, brB_false]
    obtain ⟨h1, h2⟩ := pl_eq hn
    have e48 : (2 : Nat) ^ 48 = 281474976710656 := by decide
    refine seed_place.use hn ?_
    rw [vconv_int T_int64 T_uint64 rfl, u64_in (by omega) (by omega), wv_some]
    refine bits_TrailingZeros64.use h2 hT ?_
    have hle := level_le (pl n)
    have hmin : vmin2 (.int .i64 48) (.int .i64 ((if pl n = 0 then 64 else level (pl n) : Nat) : Int)) = some (.int .i64 (level (pl n) : Nat)) := by
      by_cases h0 : pl n = 0
      · rw [h0]; rfl
      · rw [if_neg h0]
        simp only [vmin2]
        congr 2
        split <;> omega
    refine wv_of hmin ?_
    exact hQ

set_option maxHeartbeats 1000000 in
theorem seed_Derive.use {s : List UInt8} {a b : Int} (hT : Tab G) (hl : s.length = 32) (hQ : ∀ G', Ch [] G [] G' → Q (tupHI (deriveS s a b)) G') : ACalls P seed_Derive.n [.agg (s.map u8v), .int .i64 a, .int .i64 b] G Q := by
  refine seed_Derive.sound ?_
  unfold seed_Derive.S
  rw [z_hash]
  intro i1 f1
  have s1 := (Sp.nil G).row f1 (.agg (s.map u8v))
  intro i3 f3
  have s3 := s1.row f3 (.agg ((List.replicate 32 (0 : UInt8)).map u8v))
  revert s3
  generalize Heap.upd _ i3 _ = G4
  intro s3
  have s3 : Sp [] G [RowL i3 (.agg (zero32.map u8v)), RowL i1 (.agg (s.map u8v))] G4 := s3
  refine seed_Level.use (hT.mono s3.ro) ?_
  refine wv_of (ii0 _) ?_
  refine wv_of (ii1 _) ?_
  intro J28
  have none : ∀ e : Int, deriveS s a b = (zero32, e) → (wv (vbuild T t_api_Hash []) fun v15 => wg (vstore T G4 t_api_Hash (.ptr i3 [] 0) v15) fun G16 => wv (vload T G16 t_api_Hash (.ptr i3 [] 0)) fun v17 => Q (.tuple [v17, .int .i64 e]) G16) := by
    intro e he
    refine wv_of zero_hash2 ?_
    refine wg_of (store_hash (hs' := zero32) rfl rfl (RowL.own (i := 0) s3 rfl)) ?_
    have s9 := Sp.setRow (j := 0) s3 rfl (.agg (zero32.map u8v))
    refine wv_of (load_hash rfl (RowL.own (i := 0) s9 rfl)) ?_
    have := hQ _ s9.ch
    rwa [he] at this
  have bad : okN a = false ∨ okN b = false → J28 (.bool true) G4 := by
    intro h
    simp -zeta only [J28, brB_true]
    refine none 90 ?_
    unfold deriveS
    rcases h with h | h <;> rw [h] <;> simp
  have good : okN a = true → okN b = true → J28 (.bool false) G4 := by
    intro ha hb
    simp -zeta only [J28, brB_false]
    have hlv : levelS a = (((level (pl a) : Nat) : Int), 0) := by unfold levelS; rw [ha]; rfl
    rw [hlv]
    have hle := level_le (pl a)
    refine seed_place.use ha ?_
    refine wv_of (shrN (by omega)) ?_
    refine seed_place.use hb ?_
    refine wv_of (shrN (by omega)) ?_
    rw [vbin_neq, wv_some, brB_ndec]
    refine ⟨fun hne => ?_, fun heq => ?_⟩
    · refine none 5 ?_
      unfold deriveS
      rw [ha, hb, if_neg (by omega)]
      rfl
    · have hd : deriveS s a b = (downS (pl b) (level (pl a)) s, 0) := by
        unfold deriveS
        rw [ha, hb, if_pos (by omega)]
        rfl
      refine wv_of (load_hash hl (RowL.own (i := 1) s3 rfl)) ?_
      refine seed_place.use hb ?_
      refine ⟨⟨load_hash hl (RowL.own (i := 1) s3 rfl), trivial⟩, ?_⟩
      refine seed_down.use hl (pl_eq hb).2 hle fun G33 c33 => ?_
      have s33 := s3.tmp c33
      have hD := length_down (pl := pl b) (level (pl a)) hl
      refine wg_of (store_hash (hs' := downS (pl b) (level (pl a)) s) rfl hD (RowL.own (i := 0) s33 rfl)) ?_
      have s34 := Sp.setRow (j := 0) s33 rfl (.agg ((downS (pl b) (level (pl a)) s).map u8v))
      refine wv_of (load_hash hD (RowL.own (i := 0) s34 rfl)) ?_
      have := hQ _ s34.ch
      rwa [hd] at this
  cases ha : okN a with
  | false =>
    have hlv : levelS a = (0, 90) := by unfold levelS; rw [ha]; rfl
    have hb2 := bad (.inl ha)
    rw [hlv]
    rw [vbin_neq, wv_some, decide_eq_false (by decide), Bool.not_false, brB_true]
    exact hb2
  | true =>
    have hlv : (levelS a).2 = 0 := by unfold levelS; rw [ha]; rfl
    rw [hlv, nz0, wv_some, brB_false]
    refine seed_right.use ?_
    rw [vun_not, wv_some]
    cases hb : okN b with
    | false => exact bad (.inr hb)
    | true => exact good ha hb

end
end Go.Esc.M

/- Own work. Chapter 9: secrets, in the document. -/
set_option linter.unusedSimpArgs false
set_option linter.unusedVariables false
set_option maxRecDepth 20000
namespace Go.Esc.M
open Go Go.Esc

def plA (p : Nat) : List AVal := (List.range 48).map fun i => .int .i64 ((bitN p i : Nat) : Int)
theorem length_plA (p : Nat) : (plA p).length = 48 := by simp [plA]
theorem plA_get (p : Nat) {i : Nat} (hi : i < 48) : (plA p)[i]? = some (.int .i64 ((bitN p i : Nat) : Int)) := by
  rw [plA, List.getElem?_map, List.getElem?_range hi]
  rfl
theorem uni_plA (p : Nat) : uni 1 (plA p) = true := by simp [plA, uni, sz]
theorem okvs_ints : ∀ l : List Int, okvs (l.map (AVal.int .i64)) = true
  | [] => rfl
  | b :: l => by simp [okvs, okv, okvs_ints l]
theorem okv_plA (p : Nat) : okv (.agg (plA p)) = true := by
  have : plA p = ((List.range 48).map fun i => ((bitN p i : Nat) : Int)).map (AVal.int .i64) := by simp [plA]
  rw [this, okv]
  exact okvs_ints _
theorem fits_plA (p : Nat) : vfits ti_ar48_int (.agg (plA p)) = true := by
  have h1 : szs (plA p) = 48 := by rw [szs_uni (uni_plA p), length_plA]
  simp [vfits, sz, h1, ti_ar48_int, AVal.isAgg, ADesc.isAgg]
theorem sz_plA (p : Nat) : sz (.agg (plA p)) = 48 := by rw [sz, szs_uni (uni_plA p), length_plA]

section
variable {F0 : List AId} {G0 G : Heap} {ps : List LP} {Q : AVal → Heap → Prop}

theorem escrowref09_good.use {n : Int} (hQ : Q (.bool (okN n)) G) : ACalls P escrowref09_good.n [.int .i64 n] G Q := by
  refine escrowref09_good.sound ?_
  unfold escrowref09_good.S
  unfold okN at hQ
  rw [vbin_geq, wv_some, brB_dec]
  refine ⟨fun h => ?_, fun h => by rwa [decide_eq_false h, Bool.false_and] at hQ⟩
  rw [decide_eq_true h, Bool.true_and] at hQ
  rw [vbin_leq, wv_some]
  exact hQ

theorem escrowref09_Place.use {n : Int} (hn : okN n = true) (hQ : ∀ G', Ch [] G [] G' → Q (.agg (plA (pl n))) G') : ACalls P escrowref09_Place.n [.int .i64 n] G Q := by
  refine escrowref09_Place.sound ?_
  unfold escrowref09_Place.S
  obtain ⟨hp1, hp2⟩ := pl_eq hn
  obtain ⟨p, hp⟩ : ∃ p, p = pl n := ⟨_, rfl⟩
  rw [← hp] at hp1 hp2 hQ
  obtain ⟨Z, hZ⟩ : ∃ Z, Z = List.replicate 48 (AVal.int .i64 0) := ⟨_, rfl⟩
  have hz : z_ar48_int = .agg Z := by rw [hZ]; rfl
  have hZl : Z.length = 48 := by rw [hZ]; simp
  have hDZ : (plA p).length = Z.length := by rw [length_plA, hZl]
  have huZ : uni 1 Z = true := by rw [hZ]; exact uni_replicate rfl
  rw [hz]
  intro i1 f1
  have s1 := (Sp.nil G).row f1 (.agg Z)
  intro i3 f3
  have s3 := s1.row f3 (.agg Z)
  rw [vbin_sub, hp1, wv_some]
  have e48 : (2 : Nat) ^ 48 = 281474976710656 := by decide
  rw [i64_in (by omega) (by omega)]
  have hum : ∀ j, uni 1 (mix (plA p) Z j) = true := fun j => uni_append (uni_take (uni_plA p) _) (uni_drop huZ _)
  intro R hR
  have loop : ∀ (m j : Nat) (G' : Heap), 48 - j = m → j ≤ 48 → Sp [] G [RowL i3 (.agg (mix (plA p) Z j)), RowL i1 (.agg Z)] G' → R [.ptr i1 [] 0, .ptr i3 [] 0, .int .i64 ((p / 2 ^ j : Nat) : Int), .int .i64 (j : Int)] G' := by
    intro m
    induction m with
    | zero =>
      intro j G' hm hj s
      have h48 : j = Z.length := by omega
      rw [h48, mix_full hDZ] at s
      refine hR _ _ _ _ _ ?_
      rw [vbin_lss, wv_some, decide_eq_false (by omega), brB_false]
      refine wv_of (whole_load T_ar48_int (RowL.own (i := 0) s rfl) (fits_plA p)) ?_
      refine wg_of (whole_store T_ar48_int (RowL.own (i := 1) s rfl) (fits_plA p) (by rw [sz_plA, sz, szs_uni huZ, hZl]) (okv_plA p)) ?_
      have s' := Sp.setRow (j := 1) s rfl (.agg (plA p))
      refine wv_of (whole_load T_ar48_int (RowL.own (i := 1) s' rfl) (fits_plA p)) ?_
      exact hQ _ s'.ch
    | succ m ih =>
      intro j G' hm hj s
      have hjZ : j < Z.length := by omega
      have hle : p / 2 ^ j ≤ p := Nat.div_le_self _ _
      refine hR _ _ _ _ _ ?_
      rw [vbin_lss, wv_some, decide_eq_true (by omega), brB_true]
      refine wv_of (remN (p / 2 ^ j) 2 (by decide) rfl) ?_
      refine wv_of (arrN_addr (j := j) T_ar48_int rfl T_int rfl (by omega)) ?_
      have hold : (mix (plA p) Z j)[j]? = some (.int .i64 0) := by
        rw [mix_get hDZ hjZ]
        congr 1
        simp only [hZ, List.getElem_replicate]
      refine wg_of (arrN_set (s := 1) (c := .int .i64 ((p / 2 ^ j % 2 : Nat) : Int)) T_int (RowL.own (i := 0) s rfl) (hum j) hold rfl rfl rfl) ?_
      have hset : (mix (plA p) Z j).set j (.int .i64 ((p / 2 ^ j % 2 : Nat) : Int)) = mix (plA p) Z (j + 1) := by
        have := mix_set hDZ hjZ
        have e : (plA p)[j]'(by rw [length_plA]; omega) = .int .i64 ((p / 2 ^ j % 2 : Nat) : Int) := by
          have := plA_get p (i := j) (by omega)
          rw [List.getElem?_eq_getElem (by rw [length_plA]; omega)] at this
          injection this
        rwa [e] at this
      rw [hset]
      have s' := Sp.setRow (j := 0) s rfl (.agg (mix (plA p) Z (j + 1)))
      have hq : vbin T .quo t_int64 (.int .i64 ((p / 2 ^ j : Nat) : Int)) (.int .i64 2) = some (.int .i64 ((p / 2 ^ (j + 1) : Nat) : Int)) := by
        rw [vbin_quo _ _ _ _ _ (by decide)]
        have h2 : (((p / 2 ^ j : Nat) : Int).tdiv 2) = ((p / 2 ^ j / 2 : Nat) : Int) := tdiv_nat _ 2
        have h3 : p / 2 ^ (j + 1) = p / 2 ^ j / 2 := by rw [Nat.pow_succ, Nat.div_div_eq_div_mul]
        obtain ⟨q, hq⟩ : ∃ q, q = p / 2 ^ j := ⟨_, rfl⟩
        rw [h2, h3]
        rw [← hq] at hle ⊢
        rw [i64_in (by omega) (by omega)]
      refine wv_of hq ?_
      rw [vbin_add, wv_some, i64_in (by omega) (by omega)]
      exact ih (j + 1) _ (by omega) (by omega) s'
  have := loop 48 0 _ rfl (by omega) (by rw [mix_zero]; exact s3)
  simpa using this

theorem escrowref09_Point.use {h : List UInt8} (hl : h.length = 32) (hQ : ∀ G', Ch [] G [] G' → Q (.agg ((sha h).map u8v)) G') : ACalls P escrowref09_Point.n [.agg (h.map u8v)] G Q := by
  refine escrowref09_Point.sound ?_
  unfold escrowref09_Point.S
  rw [z_hash]
  intro i1 f1
  have s1 := (Sp.nil G).row f1 (.agg (h.map u8v))
  intro i3 f3
  have s3 := s1.row f3 (.agg ((List.replicate 32 (0 : UInt8)).map u8v))
  refine wv_of vslice_hash ?_
  refine wv_of (conv_bytes T_sl_uint8 rfl T_uint8 rfl T_string rfl (row_is (RowL.own (i := 1) s3 rfl) hl)) ?_
  refine buildL (T := T) (ts := t_sl_string) (e := t_string) (si := ti_sl_string) (ie := ti_string) (l := [h].map .str) T_sl_string rfl T_string rfl rfl rfl rfl (by simp [sz, ti_string]) (by decide) s3 fun v7 G8 s8 => ?_
  refine escrowref02_Sum.use (xs := [h]) (OwnL.own (i := 0) s8 rfl).is (by simp) (by simp; omega) fun G10 c10 => ?_
  have s10 := s8.tmp c10
  have e1 : [h].flatten = h := by simp
  rw [e1]
  refine wg_of (store_hash (hs' := sha h) (by simp) (length_sha _) (RowL.own (i := 1) s10 rfl)) ?_
  have s11 := Sp.setRow (j := 1) s10 rfl (.agg ((sha h).map u8v))
  refine wv_of (load_hash (length_sha _) (RowL.own (i := 1) s11 rfl)) ?_
  exact hQ _ s11.ch

set_option maxHeartbeats 1000000 in
theorem escrowref09_down.use {h : List UInt8} {p k : Nat} (hl : h.length = 32) (hk : k ≤ 48) (hQ : ∀ G', Ch [] G [] G' → Q (.agg ((downS p k h).map u8v)) G') : ACalls P escrowref09_down.n [.agg (h.map u8v), .agg (plA p), .int .i64 (k : Int)] G Q := by
  refine escrowref09_down.sound ?_
  unfold escrowref09_down.S
  rw [z_hash]
  intro i1 f1
  have s1 := (Sp.nil G).row f1 (.agg (h.map u8v))
  intro i3 f3
  have s3 := s1.row f3 (.agg (plA p))
  intro i5 f5
  have s5 := s3.row f5 (.agg ((List.replicate 32 (0 : UInt8)).map u8v))
  rw [vbin_sub, i64_in (by omega) (by omega), wv_some]
  intro R hR
  have hD := length_down (pl := p) k hl
  have loop : ∀ (r : Nat) (c : List UInt8) (G' : Heap), r ≤ k → c.length = 32 → downS p r c = downS p k h → Sp [] G [RowL i5 (.agg ((List.replicate 32 (0 : UInt8)).map u8v)), RowL i3 (.agg (plA p)), RowL i1 (.agg (c.map u8v))] G' → R [.ptr i1 [] 0, .ptr i3 [] 0, .ptr i5 [] 0, .int .i64 ((r : Int) - 1)] G' := by
    intro r
    induction r with
    | zero =>
      intro c G' hr hc hd s
      have hcD : c = downS p k h := hd
      subst hcD
      refine hR _ _ _ _ _ ?_
      rw [vbin_geq, wv_some, decide_eq_false (by omega), brB_false]
      refine wv_of (load_hash hD (RowL.own (i := 2) s rfl)) ?_
      refine wg_of (store_hash (hs' := downS p k h) (by simp) hD (RowL.own (i := 0) s rfl)) ?_
      have s' := Sp.setRow (j := 0) s rfl (.agg ((downS p k h).map u8v))
      refine wv_of (load_hash hD (RowL.own (i := 0) s' rfl)) ?_
      exact hQ _ s'.ch
    | succ r ih =>
      intro c G' hr hc hd s
      refine hR _ _ _ _ _ ?_
      have er : ((r + 1 : Nat) : Int) - 1 = (r : Int) := by omega
      rw [er, vbin_geq, wv_some, decide_eq_true (by omega), brB_true]
      refine wv_of (arrN_addr (j := r) T_ar48_int rfl T_int rfl (by omega)) ?_
      refine wv_of (arrN_get (s := 1) T_int (RowL.own (i := 1) s rfl) (uni_plA p) (plA_get p (by omega)) rfl) ?_
      rw [vbin_eql, wv_some, brB_dec]
      refine ⟨fun h1 => ?_, fun h1 => ?_⟩
      · have hb1 : bitN p r = 1 := by omega
        have hstep : stepD p r c = sha (flipB c r) := by unfold stepD; rw [if_pos hb1]
        refine wv_of (quoN r 8 (by decide) (by omega) rfl) ?_
        refine wv_of (quoN r 8 (by decide) (by omega) rfl) ?_
        refine wv_of (addr_hash (j := r / 8) (by omega)) ?_
        refine wv_of (load_byte (hs := c) (j := r / 8) (by omega) (RowL.own (i := 2) s rfl)) ?_
        refine wv_of (remN r 8 (by decide) rfl) ?_
        refine wv_of (v := .int .u64 ((r % 8 : Nat) : Int)) (by rw [vconv_int T_int T_uint rfl, u64_in (by omega) (by omega)]) ?_
        refine wv_of (shl1 (by omega)) ?_
        refine wv_of (u8_xor _ _) ?_
        refine wv_of (addr_hash (j := r / 8) (by omega)) ?_
        refine wg_of (store_byte (hs := c) (j := r / 8) (by omega) (RowL.own (i := 2) s rfl)) ?_
        rw [flip_at hc (by omega)]
        have s' := Sp.setRow (j := 2) s rfl (.agg ((flipB c r).map u8v))
        have hfl := length_flip hc r
        refine wv_of (load_hash hfl (RowL.own (i := 2) s' rfl)) ?_
        refine escrowref09_Point.use hfl fun G29 c29 => ?_
        have s29 := s'.tmp c29
        refine wg_of (store_hash (hs' := sha (flipB c r)) hfl (length_sha _) (RowL.own (i := 2) s29 rfl)) ?_
        have s30 := Sp.setRow (j := 2) s29 rfl (.agg ((sha (flipB c r)).map u8v))
        rw [vbin_sub, wv_some, i64_in (by omega) (by omega)]
        refine ih _ _ (by omega) (length_sha _) ?_ s30
        rw [← hstep]
        exact hd
      · have hb0 : ¬ bitN p r = 1 := by omega
        have hstep : stepD p r c = c := by unfold stepD; rw [if_neg hb0]
        rw [vbin_sub, wv_some, i64_in (by omega) (by omega)]
        refine ih _ _ (by omega) hc ?_ s
        have hd' : downS p r (stepD p r c) = downS p k h := hd
        rwa [hstep] at hd'
  exact loop k h _ (Nat.le_refl _) hl rfl s5

theorem escrowref09_Secret.use {s : List UInt8} {n : Int} (hl : s.length = 32) (hQ : ∀ G', Ch [] G [] G' → Q (tupHI (secretS s n)) G') : ACalls P escrowref09_Secret.n [.agg (s.map u8v), .int .i64 n] G Q := by
  refine escrowref09_Secret.sound ?_
  unfold escrowref09_Secret.S
  rw [z_hash]
  intro i1 f1
  have s1 := (Sp.nil G).row f1 (.agg (s.map u8v))
  intro i3 f3
  have s3 := s1.row f3 (.agg (zero32.map u8v))
  refine escrowref09_good.use ?_
  unfold secretS at hQ
  rw [vun_not, wv_some]
  cases hn : okN n with
  | false =>
    rw [hn] at hQ
    rw [Bool.not_false, brB_true]
    refine wv_of zero_hash2 ?_
    refine wg_of (store_hash (hs' := zero32) rfl rfl (RowL.own (i := 0) s3 rfl)) ?_
    have s9 := Sp.setRow (j := 0) s3 rfl (.agg (zero32.map u8v))
    refine wv_of (load_hash rfl (RowL.own (i := 0) s9 rfl)) ?_
    exact hQ _ s9.ch
  | true =>
    rw [hn] at hQ
    rw [Bool.not_true, brB_false]
    refine wv_of (load_hash hl (RowL.own (i := 1) s3 rfl)) ?_
    refine escrowref09_Place.use hn fun G13 c13 => ?_
    have s13 := s3.tmp c13
    refine ⟨⟨load_hash hl (RowL.own (i := 1) s13 rfl), trivial⟩, ?_⟩
    refine escrowref09_down.use (k := 48) hl (by omega) fun G15 c15 => ?_
    have s15 := s13.tmp c15
    have hD := length_down (pl := pl n) 48 hl
    refine wg_of (store_hash (hs' := downS (pl n) 48 s) rfl hD (RowL.own (i := 0) s15 rfl)) ?_
    have s16 := Sp.setRow (j := 0) s15 rfl (.agg ((downS (pl n) 48 s).map u8v))
    refine wv_of (load_hash hD (RowL.own (i := 0) s16 rfl)) ?_
    exact hQ _ s16.ch

end
end Go.Esc.M

/- Own work. Chapter 9: the document's examples. -/
set_option linter.unusedSimpArgs false
set_option linter.unusedVariables false
set_option maxRecDepth 20000
namespace Go.Esc.M
open Go Go.Esc

end Go.Esc.M

/- Own work. Chapter 9: the head; SeedSecrets, SeedDerives. -/
set_option linter.unusedSimpArgs false
set_option linter.unusedVariables false
set_option maxRecDepth 20000
namespace Go.Esc.M
open Go Go.Esc

theorem len_derive {s : List UInt8} (h : s.length = 32) (a b : Int) : (deriveS s a b).1.length = 32 := by
  unfold deriveS
  cases okN a && okN b
  · rfl
  · rw [cond_true]
    split
    · exact length_down _ h
    · rfl

section
variable {F0 : List AId} {G0 G : Heap} {ps : List LP} {Q : AVal → Heap → Prop}

theorem newH {h : List UInt8} {K : AId → Heap → Prop} (s : Sp F0 G0 ps G) (hl : h.length = 32) (hK : ∀ i G', Sp F0 G0 (RowL i (.agg (h.map u8v)) :: ps) G' → K i G') :
    aNew G (.own z_api_Hash) fun i G2 => wg (vstore T G2 t_api_Hash (.ptr i [] 0) (.agg (h.map u8v))) fun G3 => K i G3 := newVal s T_api_Hash (fits32 hl) (sz32 hl) (okv32 h) hK

end

end Go.Esc.M
