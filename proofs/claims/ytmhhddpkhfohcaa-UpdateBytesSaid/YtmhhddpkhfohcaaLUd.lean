/- Own work. Chapter 12: updates read, in the document. -/
import Derived.Test.YtmhhddpkhfohcaaLUc
set_option linter.unusedSimpArgs false
set_option linter.unusedVariables false
namespace Go.Esc.M
open Go Go.Esc

def sizeU (b : List UInt8) : Int :=
  if num (slice b 0 1) = 1 then 43 else if num (slice b 0 1) = 2 then 35 else if num (slice b 0 1) ≠ 3 then -1 else if b.length < 5 then 0 else if 64 < num (slice b 3 2) then -1 else ((5 + num (slice b 3 2) : Nat) : Int)

theorem str_mid {b : List UInt8} {k k' : IntKind} {lo hi : Int} (a n : Nat) (ha : lo = (a : Int)) (hn : hi = ((a + n : Nat) : Int)) (h : a + n ≤ b.length) : vslice T t_string (.str b) (some (.int k lo)) (some (.int k' hi)) none = some (.str (slice b a n)) := by
  subst ha hn
  have hb : sbounds b.length b.length (some (.int k ((a : Nat) : Int))) (some (.int k' ((a + n : Nat) : Int))) none = some (a, a + n, b.length) := by
    have h0 : (0 : Int) ≤ ((a + n : Nat) : Int) ∧ ((a + n : Nat) : Int) ≤ ((b.length : Nat) : Int) := by omega
    have h1 : (0 : Int) ≤ ((a : Nat) : Int) ∧ ((a : Nat) : Int) ≤ ((a + n : Nat) : Int) := by omega
    simp only [sbounds, sbound, if_pos h0, Int.toNat_natCast]
    simp only [Option.isNone_some, Bool.false_and, Bool.false_eq_true, if_false, if_pos h1]
  simp only [vslice, T_string, ti_string, hb]
  simp [slice]

theorem idx0 {b : List UInt8} (h : b ≠ []) : vindex T t_string (.str b) (.int .i64 0) = some (.int .u8 (num (slice b 0 1) : Nat)) := by
  have hl : 0 < b.length := by cases b with | nil => exact absurd rfl h | cons x b => simp
  have := vindex_str (l := b) (j := 0) hl
  rw [show ((0 : Nat) : Int) = 0 from rfl] at this
  rw [this, num_slice_one hl]

theorem build_two {k i : Int} : vbuild T t_api_Update [(0, .int .i64 k), (1, .int .i64 i)] = some (⟨k, i, 0, h0, []⟩ : UpdM).av := rfl

section
variable {F0 : List AId} {G0 G : Heap} {ps : List LP} {Q : AVal → Heap → Prop}

theorem escrowref12_size.use {b : List UInt8} (hb : b ≠ []) (hQ : Q (.int .i64 (sizeU b)) G) : ACalls P escrowref12_size.n [.str b] G Q := by
  refine escrowref12_size.sound ?_
  unfold escrowref12_size.S
  unfold sizeU at hQ
  rw [idx0 hb, wv_some, vbin_eql, wv_some, brB_dec]
  refine ⟨fun h => by rwa [if_pos (by omega)] at hQ, fun h1 => ?_⟩
  rw [if_neg (by omega)] at hQ
  rw [wv_some, vbin_eql, wv_some, brB_dec]
  refine ⟨fun h => by rwa [if_pos (by omega)] at hQ, fun h2 => ?_⟩
  rw [if_neg (by omega)] at hQ
  rw [wv_some, vbin_neq, wv_some, brB_ndec]
  refine ⟨fun h => by rwa [if_pos (by omega)] at hQ, fun h3 => ?_⟩
  rw [if_neg (by omega)] at hQ
  show wv (some (.int .i64 (b.length : Nat))) _
  rw [wv_some, vbin_lss, wv_some, brB_dec]
  refine ⟨fun h => by rwa [if_pos (by omega)] at hQ, fun h4 => ?_⟩
  rw [if_neg (by omega)] at hQ
  refine wv_of (str_mid 3 2 rfl rfl (by omega)) ?_
  have hn2 := num2_lt (b := b) (a := 3)
  refine escrowref03_Number.use (by rw [length_slice (by omega)]; omega) ?_
  rw [vconv_int T_uint64 T_int rfl, i64_in (by omega) (by omega), wv_some, vbin_gtr, wv_some, brB_dec]
  refine ⟨fun h => by rwa [if_pos (by omega)] at hQ, fun h5 => ?_⟩
  rw [if_neg (by omega)] at hQ
  rw [vbin_add, wv_some, i64_in (by omega) (by omega), show (5 : Int) + ((num (slice b 3 2) : Nat) : Int) = ((5 + num (slice b 3 2) : Nat) : Int) by omega]
  exact hQ

theorem escrowref12_hash.use {s : List UInt8} (hs : s.length = 32) (hQ : ∀ G', Ch [] G [] G' → Q (.agg (s.map u8v)) G') : ACalls P escrowref12_hash.n [.str s] G Q := by
  refine escrowref12_hash.sound ?_
  unfold escrowref12_hash.S
  rw [z_hash]
  intro i1 f1
  have s1 := (Sp.nil G).row f1 (.agg ((List.replicate 32 (0 : UInt8)).map u8v))
  intro i3 f3
  have s3 := s1.row f3 (.agg ((List.replicate 32 (0 : UInt8)).map u8v))
  intro R hR
  have loop : ∀ (n j : Nat) (G' : Heap), 32 - j = n → j ≤ 32 → Sp [] G [RowL i3 (.agg ((fill 32 (s.take j)).map u8v)), RowL i1 (.agg ((List.replicate 32 (0 : UInt8)).map u8v))] G' → R [.str s, .ptr i1 [] 0, .ptr i3 [] 0, .int .i64 (j : Int)] G' := by
    intro n
    induction n with
    | zero =>
      intro j G' hn hj hs'
      have : j = 32 := by omega
      subst this
      rw [List.take_of_length_le (by omega), fill_full hs] at hs'
      refine hR _ _ _ _ _ ?_
      show wv (some (.int .i64 (s.length : Nat))) _
      rw [wv_some, vbin_lss, wv_some, brB_dec]
      refine ⟨fun h => absurd h (by omega), fun _ => ?_⟩
      refine wv_of (load_hash hs (RowL.own (i := 0) hs' rfl)) ?_
      refine hash_store (i := 1) hs' rfl zh_len hs fun G19 s19 => ?_
      refine wv_of (load_hash hs (RowL.own (i := 1) s19 rfl)) ?_
      exact hQ _ s19.ch
    | succ n ih =>
      intro j G' hn hj hs'
      have hjl : j < s.length := by omega
      refine hR _ _ _ _ _ ?_
      show wv (some (.int .i64 (s.length : Nat))) _
      rw [wv_some, vbin_lss, wv_some, brB_dec]
      refine ⟨fun _ => ?_, fun h => absurd (by omega) h⟩
      rw [vbin_lss, wv_some, brB_dec]
      refine ⟨fun _ => ?_, fun h => absurd (by omega) h⟩
      rw [vindex_str hjl, wv_some, addr_hash (by omega), wv_some]
      have hfl : (fill 32 (s.take j)).length = 32 := length_fill (by rw [List.length_take]; omega)
      refine wg_of (store_byte (b := s[j]) (by omega) (RowL.own (i := 0) hs' rfl)) ?_
      rw [vbin_add, wv_some, i64_in (by omega) (by omega)]
      refine ih (j + 1) _ (by omega) (by omega) ?_
      rw [← fill_set hs (by omega)]
      exact Sp.setRow hs' (j := 0) rfl _
  exact loop _ 0 _ rfl (by omega) (by simpa [fill] using s3)

set_option maxHeartbeats 2000000 in
theorem escrowref12_Read.use {b : List UInt8} (hbl : b.length ≤ 9223372036854775807) (hQ : ∀ G', Ch [] G [] G' → Q (tupU (readU b)) G') : ACalls P escrowref12_Read.n [.str b] G Q := by
  refine escrowref12_Read.sound ?_
  unfold escrowref12_Read.S
  rw [zUpd]
  intro i1 f1
  have s1 := (Sp.nil G).row f1 UpdM.zero.av
  rw [build_none, wv_some]
  intro i4 f4
  have s4 := s1.row f4 UpdM.zero.av
  refine upd_store (i := 0) s4 rfl UpdM.zero_ok UpdM.zero_ok fun G6 s6 => ?_
  have s6 : Sp [] G [RowL i4 UpdM.zero.av, RowL i1 UpdM.zero.av] G6 := s6
  have none' : ∀ (G' : Heap) (e : Int) (ps : List LP), Sp [] G (RowL i4 UpdM.zero.av :: RowL i1 UpdM.zero.av :: ps) G' → readU b = (UpdM.zero, 0, e) →
      wv (vload T G' t_api_Update (.ptr i4 [] 0)) fun v8 => wg (vstore T G' t_api_Update (.ptr i1 [] 0) v8) fun G9 => wv (vload T G9 t_api_Update (.ptr i1 [] 0)) fun v10 => Q (.tuple [v10, .int .i64 0, .int .i64 e]) G9 := by
    intro G' e ps hs hr
    refine wv_of (upd_load (i := 0) hs rfl UpdM.zero_ok).2.2.2.2.2 ?_
    refine upd_store (i := 1) hs rfl UpdM.zero_ok UpdM.zero_ok fun G9 s9 => ?_
    refine wv_of (upd_load (i := 1) s9 rfl UpdM.zero_ok).2.2.2.2.2 ?_
    have := hQ _ s9.ch
    rwa [hr] at this
  rw [vbin_seql, wv_some, brB_dec]
  refine ⟨fun h => none' _ _ _ s6 (by unfold readU; rw [if_pos h]), fun hb => ?_⟩
  have hb1 : 1 ≤ b.length := by
    cases b with
    | nil => exact absurd rfl hb
    | cons x b => simp
  refine escrowref12_size.use hb ?_
  have hn1 := num1_lt (b := b)
  have hn2 := num2_lt (b := b) (a := 3)
  have hid2 := num2_lt (b := b) (a := 1)
  obtain ⟨k, hk⟩ : ∃ k, k = num (slice b 0 1) := ⟨_, rfl⟩
  obtain ⟨n, hn⟩ : ∃ n, n = num (slice b 3 2) := ⟨_, rfl⟩
  obtain ⟨z, hz⟩ : ∃ z, z = sizeU b := ⟨_, rfl⟩
  rw [← hz]
  unfold sizeU at hz
  have hr := hQ
  unfold readU at none' hQ
  rw [if_neg hb] at none' hQ
  rw [← hk] at hz none' hQ hn1
  rw [← hn] at hz none' hQ hn2
  rw [vbin_lss, wv_some, brB_dec]
  refine ⟨fun hneg => ?_, fun hneg => ?_⟩
  · refine none' _ _ _ s6 ?_
    split at hz
    · omega
    split at hz
    · omega
    split at hz
    · rename_i h3
      rw [if_neg (by assumption), if_neg (by assumption), if_neg h3]
    split at hz
    · omega
    split at hz
    · rename_i h64
      rw [if_neg (by assumption), if_neg (by assumption), if_pos (by omega), if_neg (by assumption), if_pos h64]
    · omega
  intro J71
  have short : (b.length : Int) < z ∨ z = 0 → J71 (.bool true) G6 := by
    intro hs
    simp -zeta only [J71, brB_true]
    refine none' _ _ _ s6 ?_
    split at hz
    · rw [if_pos (by assumption), if_pos (by omega)]
    split at hz
    · rw [if_neg (by assumption), if_pos (by assumption), if_pos (by omega)]
    split at hz
    · omega
    split at hz
    · rw [if_neg (by assumption), if_neg (by assumption), if_pos (by omega), if_pos (by assumption)]
    split at hz
    · omega
    · rw [if_neg (by assumption), if_neg (by assumption), if_pos (by omega), if_neg (by assumption), if_neg (by assumption), if_pos (by omega)]
  have long : z ≤ (b.length : Int) → z ≠ 0 → J71 (.bool false) G6 := by
    intro hzl hz0
    have hk13 : k = 1 ∨ k = 2 ∨ k = 3 := by
      refine Decidable.byContradiction fun hc => ?_
      rw [if_neg (by omega), if_neg (by omega), if_pos (by omega)] at hz
      omega
    have h5 : 5 ≤ b.length := by
      refine Decidable.byContradiction fun hc => ?_
      rcases hk13 with h | h | h
      · rw [if_pos h] at hz; omega
      · rw [if_neg (by omega), if_pos h] at hz; omega
      · rw [if_neg (by omega), if_neg (by omega), if_neg (by omega), if_pos (by omega)] at hz; omega
    simp -zeta only [J71, brB_false]
    rw [idx0 hb, wv_some, vconv_int T_uint8 T_int rfl, ← hk, i64_in (by omega) (by omega), wv_some]
    refine wv_of (str_mid 1 2 rfl rfl (by omega)) ?_
    refine escrowref03_Number.use (by rw [length_slice (by omega)]; omega) ?_
    rw [vconv_int T_uint64 T_int64 rfl, i64_in (by omega) (by omega), wv_some, build_two, wv_some]
    have eid : ((num (slice b 1 2) : Nat) : Int) = idU b := rfl
    rw [eid] at *
    have hidr : 0 ≤ idU b ∧ idU b ≤ 65536 := by unfold idU; omega
    intro i32 f32
    have s32 := s6.row f32 UpdM.zero.av
    have hu1 : (⟨((k : Nat) : Int), idU b, 0, h0, []⟩ : UpdM).ok := mkok (i64_small (by omega) (by omega)) (i64_small hidr.1 hidr.2) i64_0 rfl (by decide : (0 : Nat) ≤ 9223372036854775807)
    refine upd_store (i := 0) s32 rfl UpdM.zero_ok hu1 fun G34 s34 => ?_
    have s34 : Sp [] G [RowL i32 (⟨((k : Nat) : Int), idU b, 0, h0, []⟩ : UpdM).av, RowL i4 UpdM.zero.av, RowL i1 UpdM.zero.av] G34 := s34
    refine wv_of (upd_load (i := 0) s34 rfl hu1).1 ?_
    intro J70
    have h70 : ∀ (G' : Heap) (u : UpdM), Sp [] G [RowL i32 u.av, RowL i4 UpdM.zero.av, RowL i1 UpdM.zero.av] G' → u.ok → readU b = okU u z.toNat → J70 G' := by
      intro G59 u hs hu hru
      simp -zeta only [J70]
      refine wv_of (upd_load (i := 0) hs rfl hu).2.2.2.2.2 ?_
      refine escrowref12_Valid.use hu fun G62 c62 => ?_
      have s62 := hs.tmp c62
      rw [vun_not, wv_some]
      unfold okU at hru
      cases hv : validU u with
      | false =>
        rw [hv] at hru
        rw [Bool.not_false, brB_true]
        refine wv_of (upd_load (i := 1) s62 rfl UpdM.zero_ok).2.2.2.2.2 ?_
        refine upd_store (i := 2) s62 rfl UpdM.zero_ok UpdM.zero_ok fun G9 s9 => ?_
        refine wv_of (upd_load (i := 2) s9 rfl UpdM.zero_ok).2.2.2.2.2 ?_
        have := hr _ s9.ch
        rwa [hru] at this
      | true =>
        rw [hv] at hru
        rw [Bool.not_true, brB_false]
        refine wv_of (upd_load (i := 0) s62 rfl hu).2.2.2.2.2 ?_
        refine upd_store (i := 2) s62 rfl UpdM.zero_ok hu fun G9 s9 => ?_
        refine wv_of (upd_load (i := 2) s9 rfl hu).2.2.2.2.2 ?_
        have := hr _ s9.ch
        rw [hru] at this
        have ez : z = ((z.toNat : Nat) : Int) := by omega
        rw [ez]
        exact this
    have hrd : readU b = if k = 1 then (if b.length < 43 then (UpdM.zero, 0, 2) else okU ⟨1, idU b, IntKind.i64.wrap (num (slice b 3 8) : Nat), slice b 11 32, []⟩ 43)
      else if k = 2 then (if b.length < 35 then (UpdM.zero, 0, 2) else okU ⟨2, idU b, 0, slice b 3 32, []⟩ 35)
      else if k = 3 then (if b.length < 5 then (UpdM.zero, 0, 2) else if 64 < n then (UpdM.zero, 0, 120) else if b.length < 5 + n then (UpdM.zero, 0, 2)
        else okU ⟨3, idU b, 0, h0, slice b 5 n⟩ (5 + n))
      else (UpdM.zero, 0, 120) := by
      rw [hk, hn]
      unfold readU
      rw [if_neg hb]
    rw [vbin_eql, wv_some, brB_dec]
    dsimp only
    refine ⟨fun hk1 => ?_, fun hk1 => ?_⟩
    · have hk1 : k = 1 := by omega
      rw [if_pos hk1] at hz hrd
      rw [if_neg (by omega)] at hrd
      refine wv_of (str_mid 3 8 rfl rfl (by omega)) ?_
      have hv8 := num_lt_of (l := slice b 3 8) (k := 8) (by rw [length_slice (by omega)]; exact Nat.le_refl _)
      refine escrowref03_Number.use (by rw [length_slice (by omega)]; omega) ?_
      obtain ⟨v, hv⟩ : ∃ v, v = num (slice b 3 8) := ⟨_, rfl⟩
      rw [← hv] at hv8 hrd ⊢
      obtain ⟨mA, hmA⟩ : ∃ m, m = (1152921504606846976 : Int) := ⟨_, rfl⟩
      rw [← hmA]
      rw [vbin_gtr, wv_some, brB_dec]
      refine ⟨fun hbig => ?_, fun hsm => ?_⟩
      · refine wv_of (upd_load (i := 1) s34 rfl UpdM.zero_ok).2.2.2.2.2 ?_
        refine upd_store (i := 2) s34 rfl UpdM.zero_ok UpdM.zero_ok fun G9 s9 => ?_
        refine wv_of (upd_load (i := 2) s9 rfl UpdM.zero_ok).2.2.2.2.2 ?_
        have := hr _ s9.ch
        have hinv : validU ⟨1, idU b, IntKind.i64.wrap (v : Nat), slice b 11 32, []⟩ = false := by
          rw [Bool.eq_false_iff]
          intro hval
          obtain ⟨_, _, h | h | h⟩ := valid_spec hval
          · have hw : IntKind.i64.wrap ((v : Nat) : Int) ≤ 1152921504606846976 := h.2.2.1
            have hw1 : 1 ≤ IntKind.i64.wrap ((v : Nat) : Int) := h.2.1
            have := bits64_wrap (v := v) hv8
            unfold bits64 at this
            omega
          · exact absurd h.1 (fun hc : (1 : Int) = _ => absurd hc (by decide))
          · exact absurd h.1 (fun hc : (1 : Int) = _ => absurd hc (by decide))
        rw [hrd, okU, hinv] at this
        exact this
      · rw [vconv_int T_uint64 T_int64 rfl, wv_some]
        refine upd_amount _ (i := 0) s34 rfl fun G45 s45 => ?_
        refine wv_of (str_mid 11 32 rfl rfl (by omega)) ?_
        have hl32 : (slice b 11 32).length = 32 := length_slice (by omega)
        refine escrowref12_hash.use hl32 fun G48 c48 => ?_
        have s48 := s45.tmp c48
        have hu2 : (⟨((k : Nat) : Int), idU b, IntKind.i64.wrap ((v : Nat) : Int), h0, []⟩ : UpdM).ok := mkok hu1.kind hu1.id (hw64 _) rfl (by decide : (0 : Nat) ≤ 9223372036854775807)
        refine upd_hash hl32 hu2 (i := 0) s48 rfl fun G49 s49 => ?_
        refine h70 _ ⟨((k : Nat) : Int), idU b, IntKind.i64.wrap ((v : Nat) : Int), slice b 11 32, []⟩ s49 (mkok hu1.kind hu1.id (hw64 _) hl32 (by decide : (0 : Nat) ≤ 9223372036854775807)) ?_
        rw [hrd, hz, hk1]
        rfl
    have hk1 : ¬ k = 1 := by omega
    rw [if_neg hk1] at hz hrd
    rw [vbin_eql, wv_some, brB_dec]
    refine ⟨fun hk2 => ?_, fun hk2 => ?_⟩
    · have hk2 : k = 2 := by omega
      rw [if_pos hk2] at hz hrd
      rw [if_neg (by omega)] at hrd
      refine wv_of (str_mid 3 32 rfl rfl (by omega)) ?_
      have hl32 : (slice b 3 32).length = 32 := length_slice (by omega)
      refine escrowref12_hash.use hl32 fun G48 c48 => ?_
      have s48 := s34.tmp c48
      refine upd_hash hl32 hu1 (i := 0) s48 rfl fun G49 s49 => ?_
      refine h70 _ ⟨((k : Nat) : Int), idU b, 0, slice b 3 32, []⟩ s49 (mkok hu1.kind hu1.id i64_0 hl32 (by decide : (0 : Nat) ≤ 9223372036854775807)) ?_
      rw [hrd, hz, hk2]
      rfl
    have hk2 : ¬ k = 2 := by omega
    have hk3 : k = 3 := by omega
    rw [if_neg hk2, if_neg (by omega), if_neg (by omega)] at hz
    rw [if_neg hk2, if_pos hk3, if_neg (by omega)] at hrd
    have h64 : ¬ 64 < n := by
      intro h
      rw [if_pos h] at hz
      omega
    rw [if_neg h64] at hz hrd
    rw [if_neg (by omega)] at hrd
    refine wv_of (str_mid 5 n rfl hz (by omega)) ?_
    refine upd_note _ hu1 (i := 0) s34 rfl fun G56 s56 => ?_
    refine h70 _ ⟨((k : Nat) : Int), idU b, 0, h0, slice b 5 n⟩ s56 (mkok hu1.kind hu1.id i64_0 rfl (by rw [length_slice (by omega)]; omega)) ?_
    rw [hrd, hz, hk3, Int.toNat_natCast]
    rfl
  rw [vbin_eql, wv_some, brB_dec]
  refine ⟨fun h => short (.inr h), fun h0' => ?_⟩
  show wv (some (.int .i64 (b.length : Nat))) _
  rw [wv_some, vbin_lss, wv_some]
  by_cases hl : ((b.length : Nat) : Int) < z
  · rw [decide_eq_true hl]
    exact short (.inl hl)
  · rw [decide_eq_false hl]
    exact long (by omega) h0'

end
end Go.Esc.M
