/- Own work. Chapter 12: UpdateBack. -/
import Derived.Test.YtmhhddpkhfohcaaLUf
set_option linter.unusedSimpArgs false
set_option linter.unusedVariables false
namespace Go.Esc.M
open Go Go.Esc

theorem slice_app {x y z : List UInt8} {a n : Nat} (ha : x.length = a) (hn : y.length = n) : slice (x ++ (y ++ z)) a n = y := by
  rw [slice, List.drop_left' ha, List.take_left' hn]
theorem slice_add (b : List UInt8) (a n m : Nat) : slice b a (n + m) = slice b a n ++ slice b (a + n) m := by
  rw [slice, slice, slice, List.take_add, List.drop_drop]
theorem be_num {l : List UInt8} {k : Nat} (h : l.length = k) : be k (num l) = l := by
  subst h
  exact be_numA l 0
theorem slice_take {b : List UInt8} {k a n : Nat} (h : a + n ≤ k) : slice (b.take k) a n = slice b a n := by
  rw [slice, slice, List.drop_take, List.take_take, Nat.min_eq_left (by omega)]

theorem length_tail {u : UpdM} (h : u.ok) (hv : validU u = true) : (bytesU u).length = 3 + (tailU u).length := by
  simp [bytesU, length_be]; omega

theorem readU_bytes {u : UpdM} (h : u.ok) (hv : validU u = true) (r : List UInt8) : readU (bytesU u ++ r) = (u, (((bytesU u).length : Nat) : Int), 0) := by
  obtain ⟨hi0, hi1, hk⟩ := valid_spec hv
  have hkr : 1 ≤ u.kind ∧ u.kind ≤ 3 := by omega
  have hok : ∀ n : Nat, okU u n = (u, (n : Int), 0) := fun n => by rw [okU, hv]; rfl
  have hb : bytesU u ++ r = be 1 u.kind.toNat ++ (be 2 u.id.toNat ++ (tailU u ++ r)) := by simp [bytesU]
  have e0 : slice (bytesU u ++ r) 0 1 = be 1 u.kind.toNat := by rw [hb]; exact slice_app (x := []) rfl (length_be _ _)
  have e1 : slice (bytesU u ++ r) 1 2 = be 2 u.id.toNat := by rw [hb]; exact slice_app (length_be _ _) (length_be _ _)
  have n0 : num (slice (bytesU u ++ r) 0 1) = u.kind.toNat := by rw [e0, num_be_lt (by omega)]
  have n1 : idU (bytesU u ++ r) = u.id := by rw [idU, e1, num_be2 (by omega)]; omega
  have hne : bytesU u ++ r ≠ [] := by rw [hb]; simp [be]
  have hlen : (bytesU u ++ r).length = 3 + (tailU u).length + r.length := by rw [List.length_append, length_tail h hv]
  have hb3 : bytesU u ++ r = (be 1 u.kind.toNat ++ be 2 u.id.toNat) ++ (tailU u ++ r) := by simp [bytesU]
  have h3 : (be 1 u.kind.toNat ++ be 2 u.id.toNat).length = 3 := by simp [length_be]
  have hbl := length_tail h hv
  unfold readU
  rw [if_neg hne, n0, n1]
  obtain ⟨kd, id, am, hs, nt⟩ := u
  have hhs : hs.length = 32 := h.hash
  dsimp only at *
  rcases hk with ⟨rfl, ha1, ha2, rfl⟩ | ⟨rfl, rfl, rfl⟩ | ⟨rfl, rfl, rfl, hnt⟩
  · have ht : tailU ⟨1, id, am, hs, []⟩ = be 8 (bits64 am) ++ hs := by simp [tailU]
    have htl : (tailU ⟨1, id, am, hs, []⟩).length = 40 := by rw [ht]; simp [length_be, hhs]
    rw [if_pos (by decide), if_neg (by omega)]
    rw [ht] at hb3
    have e8 : slice (bytesU ⟨1, id, am, hs, []⟩ ++ r) 3 8 = be 8 (bits64 am) := by
      rw [hb3, List.append_assoc]
      exact slice_app h3 (length_be _ _)
    have e32 : slice (bytesU ⟨1, id, am, hs, []⟩ ++ r) 11 32 = hs := by
      have hb5 : bytesU ⟨1, id, am, hs, []⟩ ++ r = (be 1 (Int.toNat 1) ++ be 2 id.toNat ++ be 8 (bits64 am)) ++ (hs ++ r) := by rw [hb3]; simp
      rw [hb5]
      exact slice_app (by simp [length_be]) hhs
    rw [e8, e32, wrap_be h.amount, hok, hbl, htl]
  · have ht : tailU ⟨2, id, 0, hs, []⟩ = hs := by simp [tailU]
    have htl : (tailU ⟨2, id, 0, hs, []⟩).length = 32 := by rw [ht]; exact hhs
    rw [if_neg (by decide), if_pos (by decide), if_neg (by omega)]
    rw [ht] at hb3
    have e32 : slice (bytesU ⟨2, id, 0, hs, []⟩ ++ r) 3 32 = hs := by
      rw [hb3]
      exact slice_app h3 hhs
    rw [e32, hok, hbl, htl]
  · have ht : tailU ⟨3, id, 0, h0, nt⟩ = be 2 nt.length ++ nt := by simp [tailU]
    have htl : (tailU ⟨3, id, 0, h0, nt⟩).length = 2 + nt.length := by rw [ht]; simp [length_be]
    rw [ht] at hb3
    have e2 : slice (bytesU ⟨3, id, 0, h0, nt⟩ ++ r) 3 2 = be 2 nt.length := by
      rw [hb3, List.append_assoc]
      exact slice_app h3 (length_be _ _)
    have en : slice (bytesU ⟨3, id, 0, h0, nt⟩ ++ r) 5 nt.length = nt := by
      have hb5 : bytesU ⟨3, id, 0, h0, nt⟩ ++ r = (be 1 (Int.toNat 3) ++ be 2 id.toNat ++ be 2 nt.length) ++ (nt ++ r) := by rw [hb3]; simp
      rw [hb5]
      exact slice_app (by simp [length_be]) rfl
    rw [if_neg (by decide), if_neg (by decide), if_pos (by decide), if_neg (by omega), e2, num_be2 (by omega), if_neg (by omega), if_neg (by omega), en, hok, hbl, htl, show 3 + (2 + nt.length) = 5 + nt.length by omega]

theorem okU_len {u u' : UpdM} {n : Nat} {m : Int} (h : okU u n = (u', m, 0)) : m = n := by
  unfold okU at h
  cases hv : validU u with
  | true =>
    rw [hv, cond_true] at h
    injection h with _ h
    injection h with h _
    exact h.symm
  | false =>
    rw [hv, cond_false] at h
    injection h with _ h
    injection h with _ h
    cases h

theorem readU_take {u : UpdM} (h : u.ok) (hv : validU u = true) {k : Nat} (hk : k < (bytesU u).length) : readU ((bytesU u).take k) = (UpdM.zero, 0, 2) := by
  have hr := readU_bytes h hv []
  rw [List.append_nil] at hr
  obtain ⟨b, hb⟩ : ∃ b, b = bytesU u := ⟨_, rfl⟩
  rw [← hb] at hr hk ⊢
  have hl : (b.take k).length = k := by rw [List.length_take]; omega
  by_cases hk0 : b.take k = []
  · unfold readU
    rw [if_pos hk0]
  have hk1 : 1 ≤ k := by
    cases k with
    | zero => simp at hk0
    | succ k => omega
  have hbne : b ≠ [] := fun e => by rw [e] at hk; simp at hk
  unfold readU at hr ⊢
  rw [if_neg hbne] at hr
  rw [if_neg hk0, hl, slice_take (by omega)]
  split at hr
  · rw [if_pos (by assumption)]
    split at hr
    · injection hr with _ hr; injection hr with _ hr; cases hr
    · have : (b.length : Int) = 43 := by
        have := okU_len hr
        omega
      rw [if_pos (by omega)]
  rw [if_neg (by assumption)]
  split at hr
  · rw [if_pos (by assumption)]
    split at hr
    · injection hr with _ hr; injection hr with _ hr; cases hr
    · have : (b.length : Int) = 35 := by
        have := okU_len hr
        omega
      rw [if_pos (by omega)]
  rw [if_neg (by assumption)]
  split at hr
  · rw [if_pos (by assumption)]
    by_cases h5 : k < 5
    · rw [if_pos h5]
    rw [if_neg h5, slice_take (by omega)]
    split at hr
    · injection hr with _ hr; injection hr with _ hr; cases hr
    split at hr
    · injection hr with _ hr; injection hr with _ hr; cases hr
    split at hr
    · injection hr with _ hr; injection hr with _ hr; cases hr
    · have : (b.length : Int) = ((5 + num (slice b 3 2) : Nat) : Int) := by
        have := okU_len hr
        omega
      rw [if_neg (by assumption), if_pos (by omega)]
  · injection hr with _ hr; injection hr with _ hr; cases hr

theorem readU_cases {b : List UInt8} (hb : b.length ≤ 9223372036854775807) :
    (∃ e, (e = 2 ∨ e = 120) ∧ readU b = (UpdM.zero, 0, e)) ∨ (∃ (u : UpdM) (k : Nat), readU b = (u, (k : Int), 0) ∧ u.ok ∧ validU u = true ∧ 0 < k ∧ k ≤ b.length ∧ bytesU u = b.take k) := by
  have ho := readU_ok hb
  have fin : ∀ (u : UpdM) (k : Nat), readU b = okU u k → 0 < k → k ≤ b.length → bytesU u = b.take k →
      (∃ e, (e = 2 ∨ e = 120) ∧ readU b = (UpdM.zero, 0, e)) ∨ (∃ (u : UpdM) (k : Nat), readU b = (u, (k : Int), 0) ∧ u.ok ∧ validU u = true ∧ 0 < k ∧ k ≤ b.length ∧ bytesU u = b.take k) := by
    intro u k h h1 h2 h3
    unfold okU at h
    cases hv : validU u with
    | false =>
      rw [hv] at h
      exact .inl ⟨120, .inr rfl, h⟩
    | true =>
      rw [hv] at h
      rw [h] at ho
      exact .inr ⟨u, k, h, ho, hv, h1, h2, h3⟩
  have none2 : readU b = (UpdM.zero, 0, 2) → (∃ e, (e = 2 ∨ e = 120) ∧ readU b = (UpdM.zero, 0, e)) ∨ (∃ (u : UpdM) (k : Nat), readU b = (u, (k : Int), 0) ∧ u.ok ∧ validU u = true ∧ 0 < k ∧ k ≤ b.length ∧ bytesU u = b.take k) := fun h => .inl ⟨2, .inl rfl, h⟩
  have none120 : readU b = (UpdM.zero, 0, 120) → (∃ e, (e = 2 ∨ e = 120) ∧ readU b = (UpdM.zero, 0, e)) ∨ (∃ (u : UpdM) (k : Nat), readU b = (u, (k : Int), 0) ∧ u.ok ∧ validU u = true ∧ 0 < k ∧ k ≤ b.length ∧ bytesU u = b.take k) := fun h => .inl ⟨120, .inr rfl, h⟩
  have hid : ∀ {n : Nat}, 3 ≤ b.length → be 2 (idU b).toNat = slice b 1 2 := fun {n} h => by
    rw [idU, Int.toNat_natCast, be_num (length_slice (by omega))]
  have hk1 : ∀ {n : Nat}, num (slice b 0 1) = n → 1 ≤ b.length → be 1 n = slice b 0 1 := fun h hl => by
    rw [← h, be_num (length_slice (by omega))]
  have t0 : ∀ k, b.take k = slice b 0 k := fun k => by rw [slice, List.drop_zero]
  by_cases hne : b = []
  · exact none2 (by unfold readU; rw [if_pos hne])
  have hr : readU b = readU b := rfl
  conv at hr => rhs; unfold readU
  rw [if_neg hne] at hr
  have hn2 := num2_lt (b := b) (a := 3)
  split at hr
  · rename_i h1
    split at hr
    · exact none2 hr
    · refine fin _ 43 hr (by decide) (by omega) ?_
      have hv8 := num_lt_of (l := slice b 3 8) (k := 8) (by rw [length_slice (by omega)]; exact Nat.le_refl _)
      rw [t0, show 43 = 1 + (2 + (8 + 32)) from rfl, slice_add, slice_add, slice_add]
      show be 1 (Int.toNat 1) ++ (be 2 (idU b).toNat ++ tailU _) = _
      have ht : tailU ⟨1, idU b, IntKind.i64.wrap (num (slice b 3 8) : Nat), slice b 11 32, []⟩ = be 8 (bits64 (IntKind.i64.wrap (num (slice b 3 8) : Nat))) ++ slice b 11 32 := by simp [tailU]
      rw [ht, bits64_wrap hv8, be_num (length_slice (by omega)), hid (n := 0) (by omega), show Int.toNat 1 = 1 from rfl, hk1 h1 (by omega)]
  split at hr
  · rename_i h1
    split at hr
    · exact none2 hr
    · refine fin _ 35 hr (by decide) (by omega) ?_
      rw [t0, show 35 = 1 + (2 + 32) from rfl, slice_add, slice_add]
      show be 1 (Int.toNat 2) ++ (be 2 (idU b).toNat ++ tailU _) = _
      have ht : tailU ⟨2, idU b, 0, slice b 3 32, []⟩ = slice b 3 32 := by simp [tailU]
      rw [ht, hid (n := 0) (by omega), show Int.toNat 2 = 2 from rfl, hk1 h1 (by omega)]
  split at hr
  · rename_i h1
    split at hr
    · exact none2 hr
    split at hr
    · exact none120 hr
    split at hr
    · exact none2 hr
    · refine fin _ (5 + num (slice b 3 2)) hr (by omega) (by omega) ?_
      rw [t0, show 5 + num (slice b 3 2) = 1 + (2 + (2 + num (slice b 3 2))) by omega, slice_add, slice_add, slice_add]
      show be 1 (Int.toNat 3) ++ (be 2 (idU b).toNat ++ tailU _) = _
      have hl : (slice b 5 (num (slice b 3 2))).length = num (slice b 3 2) := length_slice (by omega)
      have ht : tailU ⟨3, idU b, 0, h0, slice b 5 (num (slice b 3 2))⟩ = slice b 3 2 ++ slice b 5 (num (slice b 3 2)) := by
        simp only [tailU]
        rw [if_neg (by decide), if_neg (by decide), hl, be_num (length_slice (by omega))]
      rw [ht, hid (n := 0) (by omega), show Int.toNat 3 = 3 from rfl, hk1 h1 (by omega)]
  · exact none120 hr

theorem abs_mod {a : Int} {L : Nat} (ha : I64 a) (hL : 0 < L) (hL2 : L ≤ 1000) : ∃ k : Nat, k < L ∧ ((a.tmod L < 0 → IntKind.i64.wrap (0 - a.tmod L) = (k : Int)) ∧ (¬ a.tmod L < 0 → a.tmod L = (k : Int))) := by
  have h1 := Int.tmod_lt_of_pos a (show (0 : Int) < (L : Int) by omega)
  have h2 : -(L : Int) < a.tmod L := by
    have := Int.tmod_lt_of_pos (-a) (show (0 : Int) < (L : Int) by omega)
    rw [Int.neg_tmod] at this
    omega
  refine ⟨(a.tmod L).natAbs, by omega, fun h => ?_, fun h => by omega⟩
  rw [i64_in (by omega) (by omega)]
  omega

set_option maxRecDepth 20000 in
set_option maxHeartbeats 2000000 in
theorem law_UpdateBack {G : Heap} {u bh a b : AVal} {m1 m2 m3 m4 : Nat} (h1 : wt T G reachBytes 4 t_api_Update u m1) (h2 : wt T G reachBytes 4 t_string bh m2) (h3 : wt T G reachBytes 4 t_int a m3) (h4 : wt T G reachBytes 4 t_string b m4) :
    ACalls P escrowlaw12_UpdateBack.n [u, bh, a, b] G fun v _ => v = .bool true := by
  obtain ⟨u, rfl, huo, _, _⟩ := wt_Upd h1
  obtain ⟨bh, rfl, hbR, _, _⟩ := wt_str T_string rfl h2
  obtain ⟨a, rfl, haw, _⟩ := wt_int T_int rfl h3
  obtain ⟨b, rfl, _, hbl, _⟩ := wt_str T_string rfl h4
  have haI := i64_wf.1 haw
  have hbR : bh.length ≤ 140737488351232 := hbR
  unfold maxLen at hbl
  refine escrowlaw12_UpdateBack.sound ?_
  unfold escrowlaw12_UpdateBack.S
  rw [zUpd]
  intro i1 f1
  have s1 := (Sp.nil G).row f1 u.av
  refine escrowlaw12_head.use fun G4 c4 => ?_
  have s4 := s1.tmp c4
  rw [vun_not, wv_some, Bool.not_true, brB_false]
  refine wv_of (upd_load (i := 0) s4 rfl huo).2.2.2.2.2 ?_
  refine update_Write.use huo fun G8 c8 => ?_
  have s8 := s4.tmp c8
  rw [vext0, wv_some, vext1, wv_some]
  refine wv_of (upd_load (i := 0) s8 rfl huo).2.2.2.2.2 ?_
  refine update_Valid.use huo fun G13 c13 => ?_
  have s13 := s8.tmp c13
  have hwe : decide ((writeR u).2 = 0) = validU u := by
    unfold writeR
    cases validU u <;> rfl
  rw [vbin_eql, wv_some, hwe, vbin_bneq T_bool rfl, wv_some, beq_self_eq_true, Bool.not_true, brB_false]
  refine wv_of (v := .bool (validU u)) (by first | rfl | rw [vbin_eql, hwe]) ?_
  intro J97
  have h97 : ∀ G' ps, Sp [] G ps G' → J97 G' := by
    intro G63 ps s63
    simp -zeta only [J97]
    refine update_Read.use hbl fun G65 c65 => ?_
    have s65 := s63.tmp c65
    rw [tup0, wv_some, tup1, wv_some, tup2, wv_some]
    have hro := readU_ok hbl
    intro i69 f69
    have s69 := s65.row f69 UpdM.zero.av
    refine upd_store (i := 0) s69 rfl UpdM.zero_ok hro fun G71 s71 => ?_
    rcases readU_cases hbl with ⟨e, he, hr⟩ | ⟨v, k, hr, hvo, hvv, hk0, hkl, hvb⟩
    · rw [hr] at s71 ⊢
      dsimp only at s71 ⊢
      have hne : e ≠ 0 := by omega
      rw [vbin_neq, wv_some, decide_eq_false hne, Bool.not_false, brB_true]
      refine wv_of (upd_load (i := 0) s71 rfl UpdM.zero_ok).2.2.2.2.2 ?_
      rw [build_none, wv_some, vbin_ueql UpdM.zero_ok UpdM.zero_ok, wv_some, decide_eq_true rfl, brB_true, ez0, wv_some, brB_true, vbin_eql, wv_some, brB_dec]
      refine ⟨fun _ => by trivial, fun h => ?_⟩
      rw [vbin_eql, wv_some, decide_eq_true (by omega)]
    · rw [hr] at s71 ⊢
      dsimp only at s71 ⊢
      rw [nz0, wv_some, brB_false]
      refine wv_of (upd_load (i := 0) s71 rfl hvo).2.2.2.2.2 ?_
      refine update_Write.use hvo fun G83 c83 => ?_
      have s83 := s71.tmp c83
      have hw : writeR v = (bytesU v, 0) := by rw [writeR, hvv]; rfl
      rw [hw, vext0, wv_some, vext1, wv_some, vbin_gtr, wv_some, decide_eq_true (by omega), brB_true]
      show wv (some (.int .i64 (b.length : Nat))) _
      rw [wv_some, vbin_leq, wv_some, decide_eq_true (by omega), brB_true]
      refine wv_of (upd_load (i := 0) s83 rfl hvo).2.2.2.2.2 ?_
      refine update_Valid.use hvo fun G91 c91 => ?_
      rw [hvv, brB_true, ez0, wv_some, brB_true]
      refine wv_of (str_take (by omega) (by omega)) ?_
      rw [Int.toNat_natCast, vbin_seql, wv_some, decide_eq_true hvb]
  cases hv : validU u with
  | false =>
    have hw : writeR u = ([], 120) := by rw [writeR, hv]; rfl
    rw [show (writeR u).1 = [] by rw [hw], show (writeR u).2 = 120 by rw [hw]]
    rw [brB_false, nz0, wv_some, brB_false, vbin_sneq, wv_some, decide_eq_true rfl, Bool.not_true, brB_false]
    exact h97 _ _ s13
  | true =>
    have hw : writeR u = (bytesU u, 0) := by rw [writeR, hv]; rfl
    have hsl : (bytesU u).length ≤ 70 ∧ 0 < (bytesU u).length := by
      obtain ⟨_, _, hk⟩ := valid_spec hv
      have hh := huo.hash
      rw [length_tail huo hv]
      unfold tailU
      rcases hk with hk | hk | hk
      · rw [if_pos hk.1]; simp [length_be, hh]
      · rw [if_neg (by omega), if_pos hk.1]; simp [hh]
      · rw [if_neg (by omega), if_neg (by omega)]; simp [length_be]; omega
    rw [show (writeR u).1 = bytesU u by rw [hw], show (writeR u).2 = 0 by rw [hw]]
    have hrB := readU_bytes huo hv bh
    have hrT := fun k => readU_take (k := k) huo hv
    have hne : bytesU u ≠ [] := fun h => by rw [h] at hsl; simp at hsl
    obtain ⟨s, hs⟩ : ∃ s, s = bytesU u := ⟨_, rfl⟩
    rw [← hs] at hrB hrT hsl hne ⊢
    rw [brB_true, vbin_sadd _ _ (by omega), wv_some]
    refine update_Read.use (by rw [List.length_append]; omega) fun G19 c19 => ?_
    have s19 := s13.tmp c19
    rw [hrB, tup0, wv_some, tup1, wv_some, tup2, wv_some]
    intro i23 f23
    have s23 := s19.row f23 UpdM.zero.av
    refine upd_store (i := 0) s23 rfl UpdM.zero_ok huo fun G25 s25 => ?_
    intro J58
    have h58 : J58 (.bool false) G25 := by
      simp -zeta only [J58, brB_false]
      show wv (some (.int .i64 (s.length : Nat))) _
      obtain ⟨k, hkl, hk1, hk2⟩ := abs_mod haI hsl.2 (by omega)
      rw [wv_some]
      refine wv_of (vbin_rem _ _ _ _ _ (by omega)) ?_
      refine wv_of (v := .bool (decide (a.tmod (s.length : Nat) < 0))) (by rw [vbin_lss]) ?_
      intro J57
      have h57 : J57 (.int .i64 (k : Int)) G25 := by
        simp -zeta only [J57]
        refine wv_of (str_take (by omega) (by omega)) ?_
        rw [Int.toNat_natCast]
        refine update_Read.use (by rw [List.length_take]; omega) fun G43 c43 => ?_
        have s43 := s25.tmp c43
        rw [hrT k hkl, tup0, wv_some, tup1, wv_some, tup2, wv_some]
        intro i47 f47
        have s47 := s43.row f47 UpdM.zero.av
        refine upd_store (i := 0) s47 rfl UpdM.zero_ok UpdM.zero_ok fun G49 s49 => ?_
        rw [nz0, wv_some, brB_false]
        refine wv_of (upd_load (i := 0) s49 rfl UpdM.zero_ok).2.2.2.2.2 ?_
        rw [build_none, wv_some, vbin_uneq UpdM.zero_ok UpdM.zero_ok, wv_some, decide_eq_true rfl, Bool.not_true, brB_false, nz0, wv_some, brB_false]
        exact h97 _ _ s49
      rw [brB_dec]
      refine ⟨fun h => ?_, fun h => ?_⟩
      · rw [vun_neg, wv_some, hk1 h]
        exact h57
      · rw [hk2 h]
        exact h57
    rw [nz0, wv_some, brB_false]
    refine wv_of (upd_load (i := 0) s25 rfl huo).2.2.2.2.2 ?_
    refine wv_of (upd_load (i := 1) s25 rfl huo).2.2.2.2.2 ?_
    rw [vbin_uneq huo huo, wv_some, decide_eq_true rfl, Bool.not_true, brB_false]
    show wv (some (.int .i64 (s.length : Nat))) _
    rw [wv_some, nz0, wv_some, brB_false, vbin_seql, wv_some, decide_eq_false hne]
    exact h58

end Go.Esc.M
