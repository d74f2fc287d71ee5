import Derived.Test.YteoakmejaeopmaaLUb
import Derived.Test.YteoakmejaeopmaaLBe
import Derived.Test.YteoakmejaeopmaaLDj
/- Own work. Chapter 12: updates read. -/
set_option linter.unusedSimpArgs false
set_option linter.unusedVariables false
set_option maxRecDepth 20000
namespace Go.Esc.M
open Go Go.Esc

def okU (u : UpdM) (n : Nat) : UpdM × Int × Int := bif validU u then (u, (n : Int), 0) else (UpdM.zero, 0, 120)
def idU (b : List UInt8) : Int := ((num (slice b 1 2) : Nat) : Int)
/-- What bytes begin with: an update, its length, the fault. -/
def readU (b : List UInt8) : UpdM × Int × Int :=
  if b = [] then (UpdM.zero, 0, 2)
  else if num (slice b 0 1) = 1 then (if b.length < 43 then (UpdM.zero, 0, 2) else okU ⟨1, idU b, IntKind.i64.wrap (num (slice b 3 8) : Nat), slice b 11 32, []⟩ 43)
  else if num (slice b 0 1) = 2 then (if b.length < 35 then (UpdM.zero, 0, 2) else okU ⟨2, idU b, 0, slice b 3 32, []⟩ 35)
  else if num (slice b 0 1) = 3 then (if b.length < 5 then (UpdM.zero, 0, 2) else if 64 < num (slice b 3 2) then (UpdM.zero, 0, 120) else if b.length < 5 + num (slice b 3 2) then (UpdM.zero, 0, 2)
    else okU ⟨3, idU b, 0, h0, slice b 5 (num (slice b 3 2))⟩ (5 + num (slice b 3 2)))
  else (UpdM.zero, 0, 120)

theorem mkok {k i a : Int} {h n : List UInt8} (hk : I64 k) (hi : I64 i) (ha : I64 a) (hh : h.length = 32) (hn : n.length ≤ 9223372036854775807) : (⟨k, i, a, h, n⟩ : UpdM).ok := ⟨hk, hi, ha, hh, hn⟩
theorem i64_0 : I64 0 := ⟨by decide, by decide⟩
theorem i64_small {n : Int} (h0 : 0 ≤ n) (h1 : n ≤ 65536) : I64 n := ⟨by omega, by omega⟩
theorem tk {b : List UInt8} {a n : Nat} {nn : Int} (hn : nn = (n : Int)) (ha : a ≤ b.length) : takes (b.drop a, 0) nn = if a + n ≤ b.length then (slice b a n, (b.drop (a + n), 0)) else ([], ([], 2)) := by
  by_cases h : a + n ≤ b.length
  · rw [if_pos h, takes_at hn h]
  · rw [if_neg h, takes_short (by rw [List.length_drop]; omega)]
theorem tkb {nn : Int} : takes ([], 2) nn = ([], ([], 2)) := takes_broken (by decide)
theorem zUpd : z_api_Update = UpdM.zero.av := rfl
theorem build_kind {n : Int} : vbuild T t_api_Update [(0, .int .i64 n)] = some ({ UpdM.zero with kind := n } : UpdM).av := rfl
theorem build_none : vbuild T t_api_Update [] = some UpdM.zero.av := rfl
theorem num2_lt {b : List UInt8} {a : Nat} : num (slice b a 2) < 65536 := num_lt_of (k := 2) (List.length_take_le _ _)

section
variable {F0 : List AId} {G0 G : Heap} {ps : List LP} {Q : AVal → Heap → Prop}

theorem update_fault.use {e : Int} (hQ : Q (.int .i64 (if e = 3 then 120 else e)) G) : ACalls P update_fault.n [.int .i64 e] G Q := by
  refine update_fault.sound ?_
  unfold update_fault.S
  rw [vbin_eql, wv_some, brB_dec]
  exact ⟨fun h => by rwa [if_pos h] at hQ, fun h => by rwa [if_neg h] at hQ⟩

def tupU (x : UpdM × Int × Int) : AVal := .tuple [x.1.av, .int .i64 x.2.1, .int .i64 x.2.2]

set_option maxHeartbeats 2000000 in
theorem update_Read.use {b : List UInt8} (hbl : b.length ≤ 9223372036854775807) (hQ : ∀ G', Ch [] G [] G' → Q (tupU (readU b)) G') : ACalls P update_Read.n [.str b] G Q := by
  refine update_Read.sound ?_
  unfold update_Read.S
  rw [zUpd]
  intro i1 f1
  have s1 := (Sp.nil G).row f1 UpdM.zero.av
  refine cursor_Open.use fun ir G4 r4 c4 => ?_
  have s4 := s1.new (p := RdL ir (b, 0)) ⟨r4, rfl⟩ c4
  obtain ⟨st1, hst1⟩ : ∃ s, s = takes (b, 0) 1 := ⟨_, rfl⟩
  have hk8 : num st1.1 < 256 := num_lt_of (k := 1) (by rw [hst1]; exact length_takes _)
  refine rd (i := 0) s4 rfl (fun h k => cursor_Reader_U8.use h k) fun G6 s6 => ?_
  rw [← hst1] at s6 ⊢
  obtain ⟨kd, hkd⟩ : ∃ k, k = ((num st1.1 : Nat) : Int) := ⟨_, rfl⟩
  rw [vconv_int T_uint8 T_int rfl, i64_in (by omega) (by omega), wv_some, build_kind, wv_some, ← hkd]
  intro i9 f9
  have s9 := s6.row f9 UpdM.zero.av
  have hkr : 0 ≤ kd ∧ kd < 256 := by omega
  have hu0 : ({ UpdM.zero with kind := kd } : UpdM).ok := mkok (i64_small (by omega) (by omega)) i64_0 i64_0 rfl (by decide : (0 : Nat) ≤ 9223372036854775807)
  refine upd_store (i := 0) s9 rfl UpdM.zero_ok hu0 fun G11 s11 => ?_
  have s11 : Sp [] G [RowL i9 ({ UpdM.zero with kind := kd } : UpdM).av, RdL ir st1.2, RowL i1 UpdM.zero.av] G11 := s11
  intro J72
  have bad : ∀ G', Sp [] G [RowL i9 ({ UpdM.zero with kind := kd } : UpdM).av, RdL ir st1.2, RowL i1 UpdM.zero.av] G' → readU b = (UpdM.zero, 0, 120) → J72 (.bool true) G' := by
    intro G19 s19 hr
    simp -zeta only [J72, brB_true]
    rw [build_none, wv_some]
    refine upd_store (i := 2) s19 rfl UpdM.zero_ok UpdM.zero_ok fun G22 s22 => ?_
    refine wv_of (upd_load (i := 2) s22 rfl UpdM.zero_ok).2.2.2.2.2 ?_
    have := hQ _ s22.ch
    rwa [hr] at this
  have good : (st1.2.2 = 0 → 1 ≤ kd ∧ kd ≤ 3) → J72 (.bool false) G11 := by
    intro hk13
    simp -zeta only [J72, brB_false]
    obtain ⟨st2, hst2⟩ : ∃ s, s = takes st1.2 2 := ⟨_, rfl⟩
    have hid : num st2.1 < 65536 := num_lt_of (k := 2) (by rw [hst2]; exact length_takes _)
    refine rd (i := 1) s11 rfl (fun h k => cursor_Reader_U16.use h k) fun G25 s25 => ?_
    rw [← hst2] at s25 ⊢
    rw [vconv_int T_uint16 T_int64 rfl, i64_in (by omega) (by omega), wv_some]
    obtain ⟨ide, hide⟩ : ∃ k, k = ((num st2.1 : Nat) : Int) := ⟨_, rfl⟩
    rw [← hide]
    refine upd_id ide (i := 0) s25 rfl fun G27 s27 => ?_
    have s27 : Sp [] G [RowL i9 (⟨kd, ide, 0, h0, []⟩ : UpdM).av, RdL ir st2.2, RowL i1 UpdM.zero.av] G27 := s27
    have hu1 : (⟨kd, ide, 0, h0, []⟩ : UpdM).ok := mkok (i64_small (by omega) (by omega)) (i64_small (by omega) (by omega)) i64_0 rfl (by decide : (0 : Nat) ≤ 9223372036854775807)
    refine wv_of (upd_load (i := 0) s27 rfl hu1).1 ?_
    intro J71
    have h71 : ∀ (G' : Heap) (u : UpdM) (st : List UInt8 × Int), Sp [] G [RowL i9 u.av, RdL ir st, RowL i1 UpdM.zero.av] G' → u.ok → st.1.length ≤ b.length → (st.2 ≠ 0 → readU b = (UpdM.zero, 0, if st.2 = 3 then 120 else st.2)) →
        (st.2 = 0 → readU b = okU u (b.length - st.1.length)) → J71 G' := by
      intro G47 u st hs hu hle h1 h2
      simp -zeta only [J71]
      refine cursor_Reader_Err.use (RdL.rd (i := 1) hs rfl) ?_
      rw [vbin_neq, wv_some, brB_ndec]
      refine ⟨fun hne => ?_, fun hz => ?_⟩
      · rw [build_none, wv_some]
        refine update_fault.use ?_
        refine upd_store (i := 2) hs rfl UpdM.zero_ok UpdM.zero_ok fun G54 s54 => ?_
        refine wv_of (upd_load (i := 2) s54 rfl UpdM.zero_ok).2.2.2.2.2 ?_
        have := hQ _ s54.ch
        rwa [h1 hne] at this
      · have h2 := h2 hz
        refine wv_of (upd_load (i := 0) hs rfl hu).2.2.2.2.2 ?_
        refine update_Valid.use hu fun G58 c58 => ?_
        have s58 := hs.tmp c58
        rw [vun_not, wv_some]
        unfold okU at h2
        cases hv : validU u with
        | false =>
          rw [hv] at h2
          rw [Bool.not_false, brB_true, build_none, wv_some]
          refine upd_store (i := 2) s58 rfl UpdM.zero_ok UpdM.zero_ok fun G54 s54 => ?_
          refine wv_of (upd_load (i := 2) s54 rfl UpdM.zero_ok).2.2.2.2.2 ?_
          have := hQ _ s54.ch
          rwa [h2] at this
        | true =>
          rw [hv] at h2
          rw [Bool.not_true, brB_false]
          refine wv_of (upd_load (i := 0) s58 rfl hu).2.2.2.2.2 ?_
          show wv (some (.int .i64 (b.length : Nat))) _
          rw [wv_some]
          refine cursor_Reader_Rest.use (RdL.rd (i := 1) s58 rfl) ?_
          refine ⟨⟨(upd_load (i := 0) s58 rfl hu).2.2.2.2.2, trivial⟩, ?_⟩
          show wv (some (.int .i64 (st.1.length : Nat))) _
          rw [wv_some, vbin_sub, wv_some, i64_in (by omega) (by omega)]
          refine upd_store (i := 2) s58 rfl UpdM.zero_ok hu fun G69 s69 => ?_
          refine wv_of (upd_load (i := 2) s69 rfl hu).2.2.2.2.2 ?_
          have := hQ _ s69.ch
          rw [h2] at this
          rw [show ((b.length : Nat) : Int) - ((st.1.length : Nat) : Int) = ((b.length - st.1.length : Nat) : Int) by omega]
          exact this
    have hle2 : ∀ (st : List UInt8 × Int) (n : Int), st.1.length ≤ b.length → (takes st n).2.1.length ≤ b.length := fun st n h => by
      unfold takes
      split
      · split
        · simp
        · rw [List.length_drop]; omega
      · exact h
    by_cases hb : b = []
    · have e1 : st1 = ([], ([], 2)) := by rw [hst1, hb]; exact takes_short (by decide)
      have e2 : st2 = ([], ([], 2)) := by rw [hst2, e1]; exact tkb
      have e3 : kd = 0 := by rw [hkd, e1]; rfl
      rw [vbin_eql, wv_some, brB_dec]
      refine ⟨fun h => absurd h (by dsimp only; omega), fun _ => ?_⟩
      rw [vbin_eql, wv_some, brB_dec]
      refine ⟨fun h => absurd h (by dsimp only; omega), fun _ => ?_⟩
      rw [vbin_eql, wv_some, brB_dec]
      refine ⟨fun h => absurd h (by dsimp only; omega), fun _ => ?_⟩
      refine h71 _ _ _ s27 hu1 (by rw [e2]; simp) (fun _ => ?_) fun h => absurd h (by rw [e2]; decide)
      rw [e2]
      unfold readU
      rw [if_pos hb]
      rfl
    have hb1 : 1 ≤ b.length := by
      cases b with
      | nil => exact absurd rfl hb
      | cons x b => simp
    have e1 : st1 = (slice b 0 1, (b.drop 1, 0)) := by
      rw [hst1]
      have := tk (b := b) (a := 0) (n := 1) (nn := 1) rfl (by omega)
      rw [List.drop_zero, if_pos (by omega)] at this
      exact this
    have e2 : st2 = if 3 ≤ b.length then (slice b 1 2, (b.drop 3, 0)) else ([], ([], 2)) := by
      rw [hst2, e1]
      exact tk (a := 1) (n := 2) rfl hb1
    have hkk : kd = ((num (slice b 0 1) : Nat) : Int) := by rw [hkd, e1]
    obtain ⟨hk1, hk3⟩ := hk13 (by rw [e1])
    have hle : st2.2.1.length ≤ b.length := by rw [hst2]; exact hle2 _ _ (by rw [e1, List.length_drop]; omega)
    rw [vbin_eql, wv_some, brB_dec]
    dsimp only
    refine ⟨fun hk => ?_, fun hkn1 => ?_⟩
    · obtain ⟨st3, hst3⟩ : ∃ s, s = takes st2.2 8 := ⟨_, rfl⟩
      refine rd (i := 1) s27 rfl (fun h k => cursor_Reader_I64.use h k) fun G31 s31 => ?_
      rw [← hst3] at s31 ⊢
      refine upd_amount _ (i := 0) s31 rfl fun G32 s32 => ?_
      obtain ⟨st4, hst4⟩ : ∃ s, s = takes st3.2 32 := ⟨_, rfl⟩
      refine rd (i := 1) s32 rfl (fun h k => cursor_Reader_Hash.use h k) fun G33 s33 => ?_
      rw [← hst4] at s33 ⊢
      have hl4 : (fill 32 st4.1).length = 32 := length_fill (by rw [hst4]; exact length_takes _)
      have hu2 : (⟨kd, ide, IntKind.i64.wrap (num st3.1 : Nat), h0, []⟩ : UpdM).ok := mkok hu1.kind hu1.id (hw64 _) rfl (by decide : (0 : Nat) ≤ 9223372036854775807)
      refine upd_hash hl4 hu2 (i := 0) s33 rfl fun G35 s35 => ?_
      have hu3 : (⟨kd, ide, IntKind.i64.wrap (num st3.1 : Nat), fill 32 st4.1, []⟩ : UpdM).ok := mkok hu1.kind hu1.id (hw64 _) hl4 (by decide : (0 : Nat) ≤ 9223372036854775807)
      have hkn : num (slice b 0 1) = 1 := by omega
      refine h71 _ ⟨kd, ide, IntKind.i64.wrap (num st3.1 : Nat), fill 32 st4.1, []⟩ _ s35 hu3 (by rw [hst4]; exact hle2 _ _ (by rw [hst3]; exact hle2 _ _ hle)) (fun hne => ?_) fun hz => ?_
      · unfold readU
        rw [if_neg hb, if_pos hkn]
        by_cases h43 : b.length < 43
        · rw [if_pos h43]
          have : st4.2.2 = 2 := by
            by_cases h3 : 3 ≤ b.length
            · rw [if_pos h3] at e2
              have e3 := tk (b := b) (a := 3) (n := 8) (nn := 8) rfl h3
              by_cases h11 : 11 ≤ b.length
              · rw [if_pos (by omega)] at e3
                rw [hst4, hst3, e2, e3, tk (b := b) (a := 3 + 8) (n := 32) (nn := 32) rfl (by omega), if_neg (by omega)]
              · rw [if_neg (by omega)] at e3
                rw [hst4, hst3, e2, e3, tkb]
            · rw [if_neg h3] at e2
              rw [hst4, hst3, e2, tkb, tkb]
          rw [this]
          rfl
        · exfalso
          apply hne
          rw [hst4, hst3, e2, if_pos (by omega), tk (b := b) (a := 3) (n := 8) (nn := 8) rfl (by omega), if_pos (by omega), tk (b := b) (a := 3 + 8) (n := 32) (nn := 32) rfl (by omega), if_pos (by omega)]
      · have h43 : 43 ≤ b.length := by
          refine Decidable.byContradiction fun h43 => ?_
          have : st4.2.2 = 2 := by
            by_cases h3 : 3 ≤ b.length
            · rw [if_pos h3] at e2
              have e3 := tk (b := b) (a := 3) (n := 8) (nn := 8) rfl h3
              by_cases h11 : 11 ≤ b.length
              · rw [if_pos (by omega)] at e3
                rw [hst4, hst3, e2, e3, tk (b := b) (a := 3 + 8) (n := 32) (nn := 32) rfl (by omega), if_neg (by omega)]
              · rw [if_neg (by omega)] at e3
                rw [hst4, hst3, e2, e3, tkb]
            · rw [if_neg h3] at e2
              rw [hst4, hst3, e2, tkb, tkb]
          rw [this] at hz
          cases hz
        rw [if_pos (by omega)] at e2
        have e3 : st3 = (slice b 3 8, (b.drop 11, 0)) := by rw [hst3, e2, tk (b := b) (a := 3) (n := 8) (nn := 8) rfl (by omega), if_pos (by omega)]
        have e4 : st4 = (slice b 11 32, (b.drop 43, 0)) := by rw [hst4, e3, tk (b := b) (a := 11) (n := 32) (nn := 32) rfl (by omega), if_pos (by omega)]
        unfold readU
        rw [if_neg hb, if_pos hkn, if_neg (by omega), e4, fill_full (length_slice (by omega)), e3, List.length_drop, show b.length - (b.length - 43) = 43 by omega]
        have : ide = idU b := by rw [hide, e2]; rfl
        rw [this, hk]
    rw [vbin_eql, wv_some, brB_dec]
    refine ⟨fun hk => ?_, fun hkn2 => ?_⟩
    · obtain ⟨st4, hst4⟩ : ∃ s, s = takes st2.2 32 := ⟨_, rfl⟩
      refine rd (i := 1) s27 rfl (fun h k => cursor_Reader_Hash.use h k) fun G33 s33 => ?_
      rw [← hst4] at s33 ⊢
      have hl4 : (fill 32 st4.1).length = 32 := length_fill (by rw [hst4]; exact length_takes _)
      refine upd_hash hl4 hu1 (i := 0) s33 rfl fun G35 s35 => ?_
      have hu3 : (⟨kd, ide, 0, fill 32 st4.1, []⟩ : UpdM).ok := mkok hu1.kind hu1.id i64_0 hl4 (by decide : (0 : Nat) ≤ 9223372036854775807)
      have hkn : num (slice b 0 1) = 2 := by omega
      have hsh : b.length < 35 → st4.2.2 = 2 := by
        intro h35
        by_cases h3 : 3 ≤ b.length
        · rw [if_pos h3] at e2
          rw [hst4, e2, tk (b := b) (a := 3) (n := 32) (nn := 32) rfl h3, if_neg (by omega)]
        · rw [if_neg h3] at e2
          rw [hst4, e2, tkb]
      have hlg : 35 ≤ b.length → st4 = (slice b 3 32, (b.drop 35, 0)) := by
        intro h35
        rw [if_pos (by omega)] at e2
        rw [hst4, e2, tk (b := b) (a := 3) (n := 32) (nn := 32) rfl (by omega), if_pos (by omega)]
      unfold readU at h71
      rw [if_neg hb, if_neg (by omega), if_pos hkn] at h71
      refine h71 _ ⟨kd, ide, 0, fill 32 st4.1, []⟩ _ s35 hu3 (by rw [hst4]; exact hle2 _ _ hle) (fun hne => ?_) fun hz => ?_
      · by_cases h35 : b.length < 35
        · rw [if_pos h35, hsh h35]
          rfl
        · exact absurd (by rw [hlg (by omega)]) hne
      · by_cases h35 : b.length < 35
        · rw [hsh h35] at hz
          cases hz
        · rw [if_neg h35, hlg (by omega), fill_full (length_slice (by omega)), List.length_drop, show b.length - (b.length - 35) = 35 by omega]
          rw [if_pos (by omega)] at e2
          have : ide = idU b := by rw [hide, e2]; rfl
          rw [this, hk]
    rw [vbin_eql, wv_some, brB_dec]
    refine ⟨fun hk => ?_, fun hkn3 => absurd (by omega) hkn3⟩
    obtain ⟨st4, hst4⟩ : ∃ s, s = texts st2.2 64 := ⟨_, rfl⟩
    refine rd (i := 1) s27 rfl (fun h k => cursor_Reader_Text.use h k) fun G33 s33 => ?_
    rw [← hst4] at s33 ⊢
    refine upd_note _ hu1 (i := 0) s33 rfl fun G35 s35 => ?_
    have hkn : num (slice b 0 1) = 3 := by omega
    have hn2 := num2_lt (b := b) (a := 3)
    have hsh : b.length < 5 → st4 = ([], ([], 2)) := by
      intro h5
      by_cases h3 : 3 ≤ b.length
      · rw [if_pos h3] at e2
        rw [hst4, e2]
        exact texts_short (by rw [List.length_drop]; omega)
      · rw [if_neg h3] at e2
        rw [hst4, e2]
        exact texts_broken (by decide)
    have hlg : 5 ≤ b.length → st4 = if 64 < num (slice b 3 2) then ([], ([], 3)) else if 5 + num (slice b 3 2) ≤ b.length then (slice b 5 (num (slice b 3 2)), (b.drop (5 + num (slice b 3 2)), 0)) else ([], ([], 2)) := by
      intro h5
      rw [if_pos (by omega)] at e2
      rw [hst4, e2, texts_two (by rw [List.length_drop]; omega), List.drop_drop]
      show (if (64 : Int) < ((num (slice b 3 2) : Nat) : Int) then _ else _) = _
      by_cases h64 : 64 < num (slice b 3 2)
      · rw [if_pos (by omega), if_pos h64]
      · rw [if_neg (by omega), if_neg h64]
        exact tk (b := b) (a := 3 + 2) (n := num (slice b 3 2)) rfl (by omega)
    have hnl : st4.1.length ≤ 65536 := by
      by_cases h5 : b.length < 5
      · rw [hsh h5]; simp
      · rw [hlg (by omega)]
        split
        · simp
        · split
          · rw [length_slice (by omega)]; omega
          · simp
    have hle4 : st4.2.1.length ≤ b.length := by
      by_cases h5 : b.length < 5
      · rw [hsh h5]; simp
      · rw [hlg (by omega)]
        split
        · simp
        · split
          · rw [List.length_drop]; omega
          · simp
    have hu3 : (⟨kd, ide, 0, h0, st4.1⟩ : UpdM).ok := mkok hu1.kind hu1.id i64_0 rfl (by omega)
    unfold readU at h71
    rw [if_neg hb, if_neg (by omega), if_neg (by omega), if_pos hkn] at h71
    refine h71 _ ⟨kd, ide, 0, h0, st4.1⟩ _ s35 hu3 hle4 (fun hne => ?_) fun hz => ?_
    · by_cases h5 : b.length < 5
      · rw [if_pos h5, hsh h5]
        rfl
      · have hlg := hlg (by omega)
        rw [if_neg h5]
        by_cases h64 : 64 < num (slice b 3 2)
        · rw [if_pos h64] at hlg ⊢
          rw [hlg]
          rfl
        · rw [if_neg h64] at hlg ⊢
          by_cases hl : 5 + num (slice b 3 2) ≤ b.length
          · rw [if_pos hl] at hlg
            exact absurd (by rw [hlg]) hne
          · rw [if_neg hl] at hlg
            rw [if_pos (by omega), hlg]
            rfl
    · by_cases h5 : b.length < 5
      · rw [hsh h5] at hz
        cases hz
      · have hlg := hlg (by omega)
        rw [if_neg h5]
        by_cases h64 : 64 < num (slice b 3 2)
        · rw [if_pos h64] at hlg
          rw [hlg] at hz
          cases hz
        · rw [if_neg h64] at hlg ⊢
          by_cases hl : 5 + num (slice b 3 2) ≤ b.length
          · rw [if_pos hl] at hlg
            rw [if_neg (by omega), hlg, List.length_drop, show b.length - (b.length - (5 + num (slice b 3 2))) = 5 + num (slice b 3 2) by omega]
            rw [if_pos (by omega)] at e2
            have : ide = idU b := by rw [hide, e2]; rfl
            rw [this, hk]
          · rw [if_neg hl] at hlg
            rw [hlg] at hz
            cases hz
  refine cursor_Reader_Err.use (RdL.rd (i := 1) s11 rfl) ?_
  rw [vbin_eql, wv_some, brB_dec]
  refine ⟨fun hz => ?_, fun hz => good fun h => absurd h hz⟩
  have hbne : b ≠ [] ∧ num st1.1 = num (slice b 0 1) := by
    cases b with
    | nil => rw [hst1, takes_short (by decide)] at hz; exact absurd hz (by decide)
    | cons x b => exact ⟨by simp, by rw [hst1, takes_ok (by simp; omega)]; rfl⟩
  have hbad : ¬ (1 ≤ kd ∧ kd ≤ 3) → readU b = (UpdM.zero, 0, 120) := by
    intro h
    rw [hkd, hbne.2] at h
    unfold readU
    rw [if_neg hbne.1, if_neg (by omega), if_neg (by omega), if_neg (by omega)]
  refine wv_of (upd_load (i := 0) s11 rfl hu0).1 ?_
  rw [vbin_lss, wv_some, brB_dec]
  refine ⟨fun h => bad _ s11 (hbad (by dsimp only at h; omega)), fun h1 => ?_⟩
  refine wv_of (upd_load (i := 0) s11 rfl hu0).1 ?_
  rw [vbin_gtr, wv_some]
  dsimp only at h1 ⊢
  by_cases h3 : 3 < kd
  · rw [decide_eq_true h3]
    exact bad _ s11 (hbad (by omega))
  · rw [decide_eq_false h3]
    exact good fun _ => ⟨by omega, by omega⟩

end
end Go.Esc.M

/- Own work. Chapter 12: updates read, in the document. -/
set_option linter.unusedSimpArgs false
set_option linter.unusedVariables false
set_option maxRecDepth 20000
namespace Go.Esc.M
open Go Go.Esc

section
variable {F0 : List AId} {G0 G : Heap} {ps : List LP} {Q : AVal → Heap → Prop}

end
end Go.Esc.M

/- Own work. Chapter 12: finds; adds; UpdateBytes. -/
set_option linter.unusedSimpArgs false
set_option linter.unusedVariables false
set_option maxRecDepth 20000
namespace Go.Esc.M
open Go Go.Esc

def hits (rm : Bool) (id : Int) (u : UpdM) : Bool := decide (u.id = id) && bif rm then decide (u.kind = 2) || decide (u.kind = 3) else decide (u.kind = 1)
def firstU (rm : Bool) (id : Int) (l : List UpdM) : Option UpdM := l.find? (hits rm id)
def optU (o : Option UpdM) : AVal := .tuple [(o.getD UpdM.zero).av, .bool o.isSome]
def addsU (l : List UpdM) : Nat := (l.filter (fun u => decide (u.kind = 1))).length
theorem firstU_ok {rm : Bool} {id : Int} {l : List UpdM} (h : ∀ u ∈ l, u.ok) : ((firstU rm id l).getD UpdM.zero).ok := by
  cases hf : firstU rm id l with
  | none => exact UpdM.zero_ok
  | some u => exact h u (List.mem_of_find?_eq_some hf)
theorem addsU_take {l : List UpdM} {j : Nat} {u : UpdM} (h : l[j]? = some u) : addsU (l.take (j + 1)) = addsU (l.take j) + (if u.kind = 1 then 1 else 0) := by
  rw [List.take_add_one, h]
  unfold addsU
  rw [List.filter_append, List.length_append]
  by_cases hk : u.kind = 1 <;> simp [hk]
theorem addsU_le (l : List UpdM) : addsU l ≤ l.length := List.length_filter_le _ _

section
variable {F0 : List AId} {G0 G : Heap} {ps : List LP} {Q : AVal → Heap → Prop}

theorem upd_at {v : AVal} {l : List UpdM} {j : Nat} {u : UpdM} (h : IsSl 36 G v (l.map UpdM.av)) (hj : l[j]? = some u) : ∃ a, viaddr T t_sl_api_Update v (.int .i64 (j : Int)) = some a ∧ vload T G t_api_Update a = some u.av :=
  h.at_ (k := .i64) (i := ti_sl_api_Update) (ie := ti_api_Update) (T := T) (t := t_sl_api_Update) (e := t_api_Update) T_sl_api_Update rfl T_api_Update (by rw [List.getElem?_map, hj]; rfl) rfl
theorem upd_len {v : AVal} {l : List UpdM} (h : IsSl 36 G v (l.map UpdM.av)) : vlen T G t_sl_api_Update v = some (.int .i64 (l.length : Nat)) := by
  rw [h.len (i := ti_sl_api_Update) T_sl_api_Update rfl, List.length_map]
theorem newU {u : UpdM} {K : AId → Heap → Prop} (hs : Sp F0 G0 ps G) (hu : u.ok) (hK : ∀ i G', Sp F0 G0 (RowL i u.av :: ps) G' → K i G') : aNew G (.own z_api_Update) fun i G2 => wg (vstore T G2 t_api_Update (.ptr i [] 0) u.av) fun G3 => K i G3 :=
  newVal hs T_api_Update (UpdM.fits hu) (by rw [UpdM.sz hu]; rfl) (UpdM.okv u) hK

set_option maxHeartbeats 1000000 in
theorem update_first.use {v : AVal} {l : List UpdM} {id : Int} {rm : Bool} (hl : IsSl 36 G v (l.map UpdM.av)) (hok : ∀ u ∈ l, u.ok) (hlen : l.length ≤ 9223372036854775807) (hQ : ∀ G', Ch [] G [] G' → Q (optU (firstU rm id l)) G') :
    ACalls P update_first.n [v, .int .i64 id, .bool rm] G Q := by
  refine update_first.sound ?_
  unfold update_first.S
  intro i1 f1
  have s1 : Sp [] G [RowL i1 UpdM.zero.av] _ := (Sp.nil G).row f1 UpdM.zero.av
  refine wv_of (upd_len (hl.ch' s1.ch)) ?_
  intro R hR
  have loop : ∀ (n j : Nat) (G' : Heap), l.length - j = n → j ≤ l.length → firstU rm id (l.drop j) = firstU rm id l → Sp [] G [RowL i1 UpdM.zero.av] G' → R [.int .i64 id, .bool rm, .ptr i1 [] 0, v, .int .i64 (l.length : Nat), .int .i64 (j : Int)] G' := by
    intro n
    induction n with
    | zero =>
      intro j G' hn hj he hs
      have : j = l.length := by omega
      subst this
      rw [List.drop_length] at he
      refine hR _ _ _ _ _ _ _ ?_
      rw [vbin_lss, wv_some, brB_dec]
      refine ⟨fun h => absurd h (by omega), fun _ => ?_⟩
      rw [build_none, wv_some]
      refine upd_store (i := 0) hs rfl UpdM.zero_ok UpdM.zero_ok fun G2 s2 => ?_
      refine wv_of (upd_load (i := 0) s2 rfl UpdM.zero_ok).2.2.2.2.2 ?_
      have := hQ _ s2.ch
      rw [← he] at this
      exact this
    | succ n ih =>
      intro j G' hn hj he hs
      obtain ⟨u, hu⟩ : ∃ u, l[j]? = some u := ⟨_, List.getElem?_eq_getElem (by omega)⟩
      have huo := hok u (List.mem_of_getElem? hu)
      obtain ⟨a, ha, hla⟩ := upd_at (hl.ch' hs.ch) hu
      have hdr : l.drop j = u :: l.drop (j + 1) := by
        obtain ⟨hx, rfl⟩ := List.getElem?_eq_some_iff.1 hu
        exact List.drop_eq_getElem_cons hx
      rw [hdr, firstU, List.find?_cons] at he
      refine hR _ _ _ _ _ _ _ ?_
      rw [vbin_lss, wv_some, brB_dec]
      refine ⟨fun _ => ?_, fun h => absurd (by omega) h⟩
      rw [ha, wv_some, hla, wv_some]
      refine newU hs huo fun i15 G17 s17 => ?_
      obtain ⟨l0, l1, _⟩ := upd_load (i := 0) s17 rfl huo
      intro J36
      have yes : hits rm id u = true → J36 (.bool true) G17 := by
        intro h
        rw [h] at he
        simp -zeta only [J36, brB_true]
        refine wv_of (upd_load (i := 0) s17 rfl huo).2.2.2.2.2 ?_
        refine upd_store (i := 1) s17 rfl UpdM.zero_ok huo fun G2 s2 => ?_
        refine wv_of (upd_load (i := 1) s2 rfl huo).2.2.2.2.2 ?_
        have := hQ _ s2.ch
        rw [← he] at this
        exact this
      have no : hits rm id u = false → J36 (.bool false) G17 := by
        intro h
        rw [h] at he
        simp -zeta only [J36, brB_false]
        rw [vbin_add, wv_some, i64_in (by omega) (by omega)]
        exact ih (j + 1) G17 (by omega) (by omega) he (s17.erase 0)
      unfold hits at yes no
      rw [l1, wv_some, vbin_eql, wv_some, brB_dec]
      refine ⟨fun hid => ?_, fun hid => no (by rw [decide_eq_false hid, Bool.false_and])⟩
      rw [decide_eq_true hid, Bool.true_and] at yes no
      cases rm with
      | false =>
        rw [cond_false] at yes no
        rw [vun_not, wv_some, Bool.not_false, brB_true, l0, wv_some, vbin_eql, wv_some, brB_dec]
        refine ⟨fun hk => yes (decide_eq_true hk), fun hk => ?_⟩
        rw [brB_false]
        exact no (decide_eq_false hk)
      | true =>
        rw [cond_true] at yes no
        rw [vun_not, wv_some, Bool.not_true, brB_false, brB_true, l0, wv_some, vbin_eql, wv_some, brB_dec]
        refine ⟨fun hk => yes (by rw [decide_eq_true hk, Bool.true_or]), fun hk => ?_⟩
        rw [decide_eq_false hk, Bool.false_or] at yes no
        rw [wv_some, vbin_eql, wv_some]
        by_cases h3 : u.kind = 3
        · rw [decide_eq_true h3]; exact yes (decide_eq_true h3)
        · rw [decide_eq_false h3]; exact no (decide_eq_false h3)
  exact loop _ 0 _ rfl (by omega) (by simp) s1

theorem opt0 (o : Option UpdM) : vextract (optU o) 0 = some (o.getD UpdM.zero).av := rfl
theorem opt1 (o : Option UpdM) : vextract (optU o) 1 = some (.bool o.isSome) := rfl

theorem update_Find.use {v : AVal} {l : List UpdM} {id : Int} (hl : IsSl 36 G v (l.map UpdM.av)) (hok : ∀ u ∈ l, u.ok) (hlen : l.length ≤ 9223372036854775807) (hQ : ∀ G', Ch [] G [] G' → Q (optU (firstU false id l)) G') :
    ACalls P update_Find.n [v, .int .i64 id] G Q := by
  refine update_Find.sound ?_
  unfold update_Find.S
  intro i1 f1
  have s1 : Sp [] G [RowL i1 UpdM.zero.av] _ := (Sp.nil G).row f1 UpdM.zero.av
  refine update_first.use (hl.ch' s1.ch) hok hlen fun G4 c4 => ?_
  have s4 := s1.tmp c4
  have hf := firstU_ok (rm := false) (id := id) hok
  rw [opt0, wv_some, opt1, wv_some]
  refine upd_store (i := 0) s4 rfl UpdM.zero_ok hf fun G2 s2 => ?_
  refine wv_of (upd_load (i := 0) s2 rfl hf).2.2.2.2.2 ?_
  exact hQ _ s2.ch
theorem update_Removal.use {v : AVal} {l : List UpdM} {id : Int} (hl : IsSl 36 G v (l.map UpdM.av)) (hok : ∀ u ∈ l, u.ok) (hlen : l.length ≤ 9223372036854775807) (hQ : ∀ G', Ch [] G [] G' → Q (optU (firstU true id l)) G') :
    ACalls P update_Removal.n [v, .int .i64 id] G Q := by
  refine update_Removal.sound ?_
  unfold update_Removal.S
  intro i1 f1
  have s1 : Sp [] G [RowL i1 UpdM.zero.av] _ := (Sp.nil G).row f1 UpdM.zero.av
  refine update_first.use (hl.ch' s1.ch) hok hlen fun G4 c4 => ?_
  have s4 := s1.tmp c4
  have hf := firstU_ok (rm := true) (id := id) hok
  rw [opt0, wv_some, opt1, wv_some]
  refine upd_store (i := 0) s4 rfl UpdM.zero_ok hf fun G2 s2 => ?_
  refine wv_of (upd_load (i := 0) s2 rfl hf).2.2.2.2.2 ?_
  exact hQ _ s2.ch

theorem update_adds.use {v : AVal} {l : List UpdM} (hl : IsSl 36 G v (l.map UpdM.av)) (hok : ∀ u ∈ l, u.ok) (hlen : l.length ≤ 9223372036854775807) (hQ : ∀ G', Ch [] G [] G' → Q (.int .i64 (addsU l : Nat)) G') :
    ACalls P update_adds.n [v] G Q := by
  refine update_adds.sound ?_
  unfold update_adds.S
  refine wv_of (upd_len hl) ?_
  intro R hR
  have loop : ∀ (n j : Nat) (G' : Heap), l.length - j = n → j ≤ l.length → Sp [] G [] G' → R [.int .i64 (addsU (l.take j) : Nat), v, .int .i64 (l.length : Nat), .int .i64 (j : Int)] G' := by
    intro n
    induction n with
    | zero =>
      intro j G' hn hj hs
      have : j = l.length := by omega
      subst this
      refine hR _ _ _ _ _ ?_
      rw [vbin_lss, wv_some, brB_dec]
      refine ⟨fun h => absurd h (by omega), fun _ => ?_⟩
      rw [List.take_length]
      exact hQ _ hs.ch
    | succ n ih =>
      intro j G' hn hj hs
      obtain ⟨u, hu⟩ : ∃ u, l[j]? = some u := ⟨_, List.getElem?_eq_getElem (by omega)⟩
      have huo := hok u (List.mem_of_getElem? hu)
      obtain ⟨a, ha, hla⟩ := upd_at (hl.ch' hs.ch) hu
      have ht := addsU_take hu
      have hle := addsU_le (l.take j)
      have hlj : (l.take j).length ≤ j := List.length_take_le _ _
      refine hR _ _ _ _ _ ?_
      rw [vbin_lss, wv_some, brB_dec]
      refine ⟨fun _ => ?_, fun h => absurd (by omega) h⟩
      rw [ha, wv_some, hla, wv_some]
      refine newU hs huo fun i11 G13 s13 => ?_
      refine wv_of (upd_load (i := 0) s13 rfl huo).1 ?_
      rw [vbin_eql, wv_some, brB_dec]
      refine ⟨fun hk => ?_, fun hk => ?_⟩
      · rw [if_pos hk] at ht
        rw [vbin_add, wv_some, i64_in (by omega) (by omega), vbin_add, wv_some, i64_in (by omega) (by omega), show ((addsU (l.take j) : Nat) : Int) + 1 = ((addsU (l.take (j + 1)) : Nat) : Int) by omega]
        exact ih (j + 1) G13 (by omega) (by omega) (s13.erase 0)
      · rw [if_neg hk] at ht
        rw [vbin_add, wv_some, i64_in (by omega) (by omega), show addsU (l.take j) = addsU (l.take (j + 1)) by omega]
        exact ih (j + 1) G13 (by omega) (by omega) (s13.erase 0)
  exact loop _ 0 G rfl (by omega) (Sp.nil G)

end
end Go.Esc.M

/- Own work. Chapter 12: the document's examples; UpdateBytes. -/
set_option linter.unusedSimpArgs false
set_option linter.unusedVariables false
set_option maxRecDepth 20000
namespace Go.Esc.M
open Go Go.Esc

theorem eqF_upd {p p' : UpdM} (h : p.ok) (h' : p'.ok) : eqF T (veqD T 8) [(t_int, 0), (t_int64, 1), (t_int64, 2), (t_api_Hash, 3), (t_string, 35)] p.cs p'.cs 0 = some (decide (p = p')) := by
  have z1 := fits_hash h.hash
  have z2 := fits_hash h'.hash
  have q2 : ∀ m n : Int, veqD T 8 t_int64 (.int .i64 m) (.int .i64 n) = some (decide (m = n)) := fun m n => by
    rw [veqD]; simp only [T_int64]; rfl
  have q1 : ∀ m n : Int, veqD T 8 t_int (.int .i64 m) (.int .i64 n) = some (decide (m = n)) := fun m n => by
    rw [veqD]; simp only [T_int]; rfl
  have q4 : ∀ m n : List UInt8, veqD T 8 t_string (.str m) (.str n) = some (decide (m = n)) := fun m n => by
    rw [veqD]; simp only [T_string]; rfl
  have v1 : ∀ m : Int, vfits ti_int (.int .i64 m) = true := fun m => rfl
  have v2 : ∀ m : Int, vfits ti_int64 (.int .i64 m) = true := fun m => rfl
  have v4 : ∀ m : List UInt8, vfits ti_string (.str m) = true := fun m => rfl
  have s1 : ti_int.size = 1 := rfl
  have s2 : ti_int64.size = 1 := rfl
  have s3 : ti_api_Hash.size = 32 := rfl
  have q3 := veq_hash h.hash h'.hash
  obtain ⟨a, b, c, d, e⟩ := p
  obtain ⟨a', b', c', d', e'⟩ := p'
  dsimp only at z1 z2 q3
  simp only [UpdM.cs, eqF, T_int, T_int64, T_api_Hash, T_string, v1, v2, v4, z1, z2, s1, s2, s3, Nat.zero_add, q1, q2, q3, q4, beq_self_eq_true, Bool.and_self, Nat.reduceAdd, if_true]
  by_cases h1 : a = a'
  · subst h1
    by_cases h2 : b = b'
    · subst h2
      by_cases h3 : c = c'
      · subst h3
        by_cases h4 : d = d'
        · subst h4
          by_cases h5 : e = e'
          · subst h5; simp
          · simp [h5]
        · simp [h4]
      · simp [h3]
    · simp [h2]
  · simp [h1]

theorem veq_upd {p p' : UpdM} (h : p.ok) (h' : p'.ok) : veqD T 9 t_api_Update p.av p'.av = some (decide (p = p')) := by
  rw [← eqF_upd h h', veqD]
  have e1 : ti_api_Update.desc = .struct [(t_int, 0), (t_int64, 1), (t_int64, 2), (t_api_Hash, 3), (t_string, 35)] := rfl
  simp only [T_api_Update, e1]
  rfl
theorem vbin_ueql {p p' : UpdM} (h : p.ok) (h' : p'.ok) : vbin T .eql t_api_Update p.av p'.av = some (.bool (decide (p = p'))) := by
  have := veq_upd h h'
  unfold UpdM.av at this ⊢
  simp only [vbin, this]
theorem vbin_uneq {p p' : UpdM} (h : p.ok) (h' : p'.ok) : vbin T .neq t_api_Update p.av p'.av = some (.bool (!decide (p = p'))) := by
  have := veq_upd h h'
  unfold UpdM.av at this ⊢
  simp only [vbin, this]

theorem readU_ok {b : List UInt8} (hb : b.length ≤ 9223372036854775807) : (readU b).1.ok := by
  have hz := UpdM.zero_ok
  have ho : ∀ u n, u.ok → (okU u n).1.ok := fun u n h => by
    unfold okU
    cases validU u
    · exact hz
    · exact h
  have hid : I64 (idU b) := i64_small (by unfold idU; omega) (by have := num2_lt (b := b) (a := 1); unfold idU; omega)
  unfold readU
  split
  · exact hz
  split
  · split
    · exact hz
    · exact ho _ _ (mkok ⟨by decide, by decide⟩ hid (hw64 _) (length_slice (by omega)) (by decide : (0 : Nat) ≤ 9223372036854775807))
  split
  · split
    · exact hz
    · exact ho _ _ (mkok ⟨by decide, by decide⟩ hid i64_0 (length_slice (by omega)) (by decide : (0 : Nat) ≤ 9223372036854775807))
  split
  · split
    · exact hz
    split
    · exact hz
    split
    · exact hz
    · exact ho _ _ (mkok ⟨by decide, by decide⟩ hid i64_0 rfl (by rw [length_slice (by omega)]; omega))
  · exact hz

section
variable {F0 : List AId} {G0 G : Heap} {ps : List LP} {Q : AVal → Heap → Prop}


end

end Go.Esc.M

/- Own work. Chapter 12: UpdateBack. -/
set_option linter.unusedSimpArgs false
set_option linter.unusedVariables false
set_option maxRecDepth 20000
namespace Go.Esc.M
open Go Go.Esc

theorem slice_app {x y z : List UInt8} {a n : Nat} (ha : x.length = a) (hn : y.length = n) : slice (x ++ (y ++ z)) a n = y := by
  rw [slice, List.drop_left' ha, List.take_left' hn]
theorem slice_add (b : List UInt8) (a n m : Nat) : slice b a (n + m) = slice b a n ++ slice b (a + n) m := by
  rw [slice, slice, slice, List.take_add, List.drop_drop]
theorem be_num {l : List UInt8} {k : Nat} (h : l.length = k) : be k (num l) = l := by
  subst h
  exact be_numA l 0
theorem length_tail {u : UpdM} (h : u.ok) (hv : validU u = true) : (bytesU u).length = 3 + (tailU u).length := by
  simp [bytesU, length_be]; omega

theorem readU_bytes {u : UpdM} (h : u.ok) (hv : validU u = true) (r : List UInt8) : readU (bytesU u ++ r) = (u, (((bytesU u).length : Nat) : Int), 0) := by
  obtain ⟨hi0, hi1, hk⟩ := valid_spec hv
  have hkr : 1 ≤ u.kind ∧ u.kind ≤ 3 := by omega
  have hok : ∀ n : Nat, okU u n = (u, (n : Int), 0) := fun n => by rw [okU, hv]; rfl
  have hb : bytesU u ++ r = be 1 u.kind.toNat ++ (be 2 u.id.toNat ++ (tailU u ++ r)) := by simp [bytesU]
  have e0 : slice (bytesU u ++ r) 0 1 = be 1 u.kind.toNat := by rw [hb]; exact slice_app (x := []) rfl (length_be _ _)
  have e1 : slice (bytesU u ++ r) 1 2 = be 2 u.id.toNat := by rw [hb]; exact slice_app (length_be _ _) (length_be _ _)
  have n0 : num (slice (bytesU u ++ r) 0 1) = u.kind.toNat := by rw [e0, num_be_lt (by omega)]
  have n1 : idU (bytesU u ++ r) = u.id := by rw [idU, e1, num_be2 (by omega)]; omega
  have hne : bytesU u ++ r ≠ [] := by rw [hb]; simp [be]
  have hlen : (bytesU u ++ r).length = 3 + (tailU u).length + r.length := by rw [List.length_append, length_tail h hv]
  have hb3 : bytesU u ++ r = (be 1 u.kind.toNat ++ be 2 u.id.toNat) ++ (tailU u ++ r) := by simp [bytesU]
  have h3 : (be 1 u.kind.toNat ++ be 2 u.id.toNat).length = 3 := by simp [length_be]
  have hbl := length_tail h hv
  unfold readU
  rw [if_neg hne, n0, n1]
  obtain ⟨kd, id, am, hs, nt⟩ := u
  have hhs : hs.length = 32 := h.hash
  dsimp only at *
  rcases hk with ⟨rfl, ha1, ha2, rfl⟩ | ⟨rfl, rfl, rfl⟩ | ⟨rfl, rfl, rfl, hnt⟩
  · have ht : tailU ⟨1, id, am, hs, []⟩ = be 8 (bits64 am) ++ hs := by simp [tailU]
    have htl : (tailU ⟨1, id, am, hs, []⟩).length = 40 := by rw [ht]; simp [length_be, hhs]
    rw [if_pos (by decide), if_neg (by omega)]
    rw [ht] at hb3
    have e8 : slice (bytesU ⟨1, id, am, hs, []⟩ ++ r) 3 8 = be 8 (bits64 am) := by
      rw [hb3, List.append_assoc]
      exact slice_app h3 (length_be _ _)
    have e32 : slice (bytesU ⟨1, id, am, hs, []⟩ ++ r) 11 32 = hs := by
      have hb5 : bytesU ⟨1, id, am, hs, []⟩ ++ r = (be 1 (Int.toNat 1) ++ be 2 id.toNat ++ be 8 (bits64 am)) ++ (hs ++ r) := by rw [hb3]; simp
      rw [hb5]
      exact slice_app (by simp [length_be]) hhs
    rw [e8, e32, wrap_be h.amount, hok, hbl, htl]
  · have ht : tailU ⟨2, id, 0, hs, []⟩ = hs := by simp [tailU]
    have htl : (tailU ⟨2, id, 0, hs, []⟩).length = 32 := by rw [ht]; exact hhs
    rw [if_neg (by decide), if_pos (by decide), if_neg (by omega)]
    rw [ht] at hb3
    have e32 : slice (bytesU ⟨2, id, 0, hs, []⟩ ++ r) 3 32 = hs := by
      rw [hb3]
      exact slice_app h3 hhs
    rw [e32, hok, hbl, htl]
  · have ht : tailU ⟨3, id, 0, h0, nt⟩ = be 2 nt.length ++ nt := by simp [tailU]
    have htl : (tailU ⟨3, id, 0, h0, nt⟩).length = 2 + nt.length := by rw [ht]; simp [length_be]
    rw [ht] at hb3
    have e2 : slice (bytesU ⟨3, id, 0, h0, nt⟩ ++ r) 3 2 = be 2 nt.length := by
      rw [hb3, List.append_assoc]
      exact slice_app h3 (length_be _ _)
    have en : slice (bytesU ⟨3, id, 0, h0, nt⟩ ++ r) 5 nt.length = nt := by
      have hb5 : bytesU ⟨3, id, 0, h0, nt⟩ ++ r = (be 1 (Int.toNat 3) ++ be 2 id.toNat ++ be 2 nt.length) ++ (nt ++ r) := by rw [hb3]; simp
      rw [hb5]
      exact slice_app (by simp [length_be]) rfl
    rw [if_neg (by decide), if_neg (by decide), if_pos (by decide), if_neg (by omega), e2, num_be2 (by omega), if_neg (by omega), if_neg (by omega), en, hok, hbl, htl, show 3 + (2 + nt.length) = 5 + nt.length by omega]

theorem readU_cases {b : List UInt8} (hb : b.length ≤ 9223372036854775807) :
    (∃ e, (e = 2 ∨ e = 120) ∧ readU b = (UpdM.zero, 0, e)) ∨ (∃ (u : UpdM) (k : Nat), readU b = (u, (k : Int), 0) ∧ u.ok ∧ validU u = true ∧ 0 < k ∧ k ≤ b.length ∧ bytesU u = b.take k) := by
  have ho := readU_ok hb
  have fin : ∀ (u : UpdM) (k : Nat), readU b = okU u k → 0 < k → k ≤ b.length → bytesU u = b.take k →
      (∃ e, (e = 2 ∨ e = 120) ∧ readU b = (UpdM.zero, 0, e)) ∨ (∃ (u : UpdM) (k : Nat), readU b = (u, (k : Int), 0) ∧ u.ok ∧ validU u = true ∧ 0 < k ∧ k ≤ b.length ∧ bytesU u = b.take k) := by
    intro u k h h1 h2 h3
    unfold okU at h
    cases hv : validU u with
    | false =>
      rw [hv] at h
      exact .inl ⟨120, .inr rfl, h⟩
    | true =>
      rw [hv] at h
      rw [h] at ho
      exact .inr ⟨u, k, h, ho, hv, h1, h2, h3⟩
  have none2 : readU b = (UpdM.zero, 0, 2) → (∃ e, (e = 2 ∨ e = 120) ∧ readU b = (UpdM.zero, 0, e)) ∨ (∃ (u : UpdM) (k : Nat), readU b = (u, (k : Int), 0) ∧ u.ok ∧ validU u = true ∧ 0 < k ∧ k ≤ b.length ∧ bytesU u = b.take k) := fun h => .inl ⟨2, .inl rfl, h⟩
  have none120 : readU b = (UpdM.zero, 0, 120) → (∃ e, (e = 2 ∨ e = 120) ∧ readU b = (UpdM.zero, 0, e)) ∨ (∃ (u : UpdM) (k : Nat), readU b = (u, (k : Int), 0) ∧ u.ok ∧ validU u = true ∧ 0 < k ∧ k ≤ b.length ∧ bytesU u = b.take k) := fun h => .inl ⟨120, .inr rfl, h⟩
  have hid : ∀ {n : Nat}, 3 ≤ b.length → be 2 (idU b).toNat = slice b 1 2 := fun {n} h => by
    rw [idU, Int.toNat_natCast, be_num (length_slice (by omega))]
  have hk1 : ∀ {n : Nat}, num (slice b 0 1) = n → 1 ≤ b.length → be 1 n = slice b 0 1 := fun h hl => by
    rw [← h, be_num (length_slice (by omega))]
  have t0 : ∀ k, b.take k = slice b 0 k := fun k => by rw [slice, List.drop_zero]
  by_cases hne : b = []
  · exact none2 (by unfold readU; rw [if_pos hne])
  have hr : readU b = readU b := rfl
  conv at hr => rhs; unfold readU
  rw [if_neg hne] at hr
  have hn2 := num2_lt (b := b) (a := 3)
  split at hr
  · rename_i h1
    split at hr
    · exact none2 hr
    · refine fin _ 43 hr (by decide) (by omega) ?_
      have hv8 := num_lt_of (l := slice b 3 8) (k := 8) (by rw [length_slice (by omega)]; exact Nat.le_refl _)
      rw [t0, show 43 = 1 + (2 + (8 + 32)) from rfl, slice_add, slice_add, slice_add]
      show be 1 (Int.toNat 1) ++ (be 2 (idU b).toNat ++ tailU _) = _
      have ht : tailU ⟨1, idU b, IntKind.i64.wrap (num (slice b 3 8) : Nat), slice b 11 32, []⟩ = be 8 (bits64 (IntKind.i64.wrap (num (slice b 3 8) : Nat))) ++ slice b 11 32 := by simp [tailU]
      rw [ht, bits64_wrap hv8, be_num (length_slice (by omega)), hid (n := 0) (by omega), show Int.toNat 1 = 1 from rfl, hk1 h1 (by omega)]
  split at hr
  · rename_i h1
    split at hr
    · exact none2 hr
    · refine fin _ 35 hr (by decide) (by omega) ?_
      rw [t0, show 35 = 1 + (2 + 32) from rfl, slice_add, slice_add]
      show be 1 (Int.toNat 2) ++ (be 2 (idU b).toNat ++ tailU _) = _
      have ht : tailU ⟨2, idU b, 0, slice b 3 32, []⟩ = slice b 3 32 := by simp [tailU]
      rw [ht, hid (n := 0) (by omega), show Int.toNat 2 = 2 from rfl, hk1 h1 (by omega)]
  split at hr
  · rename_i h1
    split at hr
    · exact none2 hr
    split at hr
    · exact none120 hr
    split at hr
    · exact none2 hr
    · refine fin _ (5 + num (slice b 3 2)) hr (by omega) (by omega) ?_
      rw [t0, show 5 + num (slice b 3 2) = 1 + (2 + (2 + num (slice b 3 2))) by omega, slice_add, slice_add, slice_add]
      show be 1 (Int.toNat 3) ++ (be 2 (idU b).toNat ++ tailU _) = _
      have hl : (slice b 5 (num (slice b 3 2))).length = num (slice b 3 2) := length_slice (by omega)
      have ht : tailU ⟨3, idU b, 0, h0, slice b 5 (num (slice b 3 2))⟩ = slice b 3 2 ++ slice b 5 (num (slice b 3 2)) := by
        simp only [tailU]
        rw [if_neg (by decide), if_neg (by decide), hl, be_num (length_slice (by omega))]
      rw [ht, hid (n := 0) (by omega), show Int.toNat 3 = 3 from rfl, hk1 h1 (by omega)]
  · exact none120 hr

end Go.Esc.M
