import Derived.Test.YthaockalmnlceaaLMf
import Derived.Test.YthaockalmnlceaaLUg
/- Own work. Chapter 16: the document's numbers and hashes at a place. -/
set_option linter.unusedSimpArgs false
set_option linter.unusedVariables false
namespace Go.Esc.M
open Go Go.Esc

/-- The number of eight bytes at a place, if it is an index. -/
def numAt (b : List UInt8) (a : Nat) : Int := if b.length < a + 8 then -1 else if 281474976710655 < num (slice b a 8) then -1 else ((num (slice b a 8) : Nat) : Int)
/-- The hash at a place, filled up. -/
def hashAt (b : List UInt8) (a : Nat) : List UInt8 := fill 32 (slice b a 32)
theorem length_hashAt (b : List UInt8) (a : Nat) : (hashAt b a).length = 32 := length_fill (by rw [slice]; exact List.length_take_le _ _)

section
variable {F0 : List AId} {G0 G : Heap} {ps : List LP} {Q : AVal → Heap → Prop}

theorem escrowref16_number.use {b : List UInt8} {aa : Int} (a : Nat) (haa : aa = (a : Int)) (ha : a ≤ 1000) (hb : b.length ≤ 9223372036854775807) (hQ : Q (.int .i64 (numAt b a)) G) : ACalls P escrowref16_number.n [.str b, .int .i64 aa] G Q := by
  subst haa
  refine escrowref16_number.sound ?_
  unfold escrowref16_number.S
  unfold numAt at hQ
  rw [vbin_add, wv_some, i64_in (by omega) (by omega)]
  show wv (some (.int .i64 (b.length : Nat))) _
  rw [wv_some, vbin_gtr, wv_some, brB_dec]
  refine ⟨fun h => by rwa [if_pos (by omega)] at hQ, fun h => ?_⟩
  rw [if_neg (by omega)] at hQ
  rw [wv_some]
  refine wv_of (str_mid a 8 rfl (by omega) (by omega)) ?_
  have hv8 := num_lt_of (l := slice b a 8) (k := 8) (by rw [length_slice (by omega)]; exact Nat.le_refl _)
  refine escrowref03_Number.use (by rw [length_slice (by omega)]; omega) ?_
  obtain ⟨v, hv⟩ : ∃ v, v = num (slice b a 8) := ⟨_, rfl⟩
  rw [← hv] at hQ hv8 ⊢
  obtain ⟨mI, hmI⟩ : ∃ m, m = (281474976710655 : Int) := ⟨_, rfl⟩
  rw [← hmI, vbin_gtr, wv_some, brB_dec]
  refine ⟨fun h => by rwa [if_pos (by omega)] at hQ, fun h => ?_⟩
  rw [if_neg (by omega)] at hQ
  rw [vconv_int T_uint64 T_int64 rfl, i64_in (by omega) (by omega), wv_some]
  exact hQ

theorem slice_take_j (b : List UInt8) (a j : Nat) (hj : j ≤ 32) : (slice b a 32).take j = slice b a j := by
  rw [slice, slice, List.take_take, Nat.min_eq_left hj]

theorem escrowref16_hash.use {b : List UInt8} {aa : Int} (a : Nat) (haa : aa = (a : Int)) (ha : a ≤ 1000) (hb : b.length ≤ 9223372036854775807) (hQ : ∀ G', Ch [] G [] G' → Q (.agg ((hashAt b a).map u8v)) G') : ACalls P escrowref16_hash.n [.str b, .int .i64 aa] G Q := by
  subst haa
  refine escrowref16_hash.sound ?_
  unfold escrowref16_hash.S
  rw [z_hash]
  intro i1 f1
  have s1 := (Sp.nil G).row f1 (.agg ((List.replicate 32 (0 : UInt8)).map u8v))
  intro i3 f3
  have s3 := s1.row f3 (.agg ((List.replicate 32 (0 : UInt8)).map u8v))
  intro R hR
  have fin : ∀ (G' : Heap), Sp [] G [RowL i3 (.agg ((hashAt b a).map u8v)), RowL i1 (.agg ((List.replicate 32 (0 : UInt8)).map u8v))] G' →
      wv (vload T G' t_api_Hash (.ptr i3 [] 0)) fun v34 => wg (vstore T G' t_api_Hash (.ptr i1 [] 0) v34) fun G35 => wv (vload T G35 t_api_Hash (.ptr i1 [] 0)) fun v36 => Q v36 G35 := by
    intro G' hs
    have hl := length_hashAt b a
    refine wv_of (load_hash hl (RowL.own (i := 0) hs rfl)) ?_
    refine hash_store (i := 1) hs rfl zh_len hl fun G19 s19 => ?_
    refine wv_of (load_hash hl (RowL.own (i := 1) s19 rfl)) ?_
    exact hQ _ s19.ch
  have loop : ∀ (n j : Nat) (G' : Heap), 32 - j = n → j ≤ 32 → (j = 0 ∨ a + j ≤ b.length) → Sp [] G [RowL i3 (.agg ((fill 32 (slice b a j)).map u8v)), RowL i1 (.agg ((List.replicate 32 (0 : UInt8)).map u8v))] G' → R [.str b, .int .i64 (a : Int), .ptr i1 [] 0, .ptr i3 [] 0, .int .i64 (j : Int)] G' := by
    intro n
    induction n with
    | zero =>
      intro j G' hn hj hl hs
      have : j = 32 := by omega
      subst this
      refine hR _ _ _ _ _ _ ?_
      rw [vbin_lss, wv_some, brB_dec]
      exact ⟨fun h => absurd h (by omega), fun _ => fin _ hs⟩
    | succ n ih =>
      intro j G' hn hj hl hs
      refine hR _ _ _ _ _ _ ?_
      rw [vbin_lss, wv_some, brB_dec]
      refine ⟨fun _ => ?_, fun h => absurd (by omega) h⟩
      rw [vbin_add, wv_some, i64_in (by omega) (by omega)]
      show wv (some (.int .i64 (b.length : Nat))) _
      rw [wv_some, vbin_lss, wv_some, brB_dec]
      refine ⟨fun h => ?_, fun h => ?_⟩
      · have hjb : a + j < b.length := by omega
        rw [wv_some, show (a : Int) + (j : Int) = ((a + j : Nat) : Int) by omega, vindex_str hjb, wv_some, addr_hash (by omega), wv_some]
        have hsl : (slice b a j).length = j := length_slice (by omega)
        have hfl : (fill 32 (slice b a j)).length = 32 := length_fill (by omega)
        refine wg_of (store_byte (b := b[a + j]) (by omega) (RowL.own (i := 0) hs rfl)) ?_
        rw [vbin_add, wv_some, i64_in (by omega) (by omega)]
        refine ih (j + 1) _ (by omega) (by omega) (.inr (by omega)) ?_
        have e : (fill 32 (slice b a j)).set j b[a + j] = fill 32 (slice b a (j + 1)) := by
          have e1 : slice b a (j + 1) = slice b a j ++ [b[a + j]] := by
            rw [slice_add]
            congr 1
            rw [slice, List.drop_eq_getElem_cons hjb]
            rfl
          rw [e1, fill, fill, hsl, List.length_append, hsl, List.set_append_right _ _ (by omega), hsl, Nat.sub_self, show 32 - j = (32 - (j + 1)) + 1 by omega, List.replicate_succ, List.set_cons_zero, List.append_assoc]
          rfl
        rw [← e]
        exact Sp.setRow hs (j := 0) rfl _
      · have e : fill 32 (slice b a j) = hashAt b a := by
          unfold hashAt
          congr 1
          have hd : (b.drop a).length ≤ j := by rw [List.length_drop]; omega
          rw [slice, slice, List.take_of_length_le hd, List.take_of_length_le (by omega)]
        rw [e] at hs
        exact fin _ hs
  exact loop _ 0 _ rfl (by omega) (.inl rfl) (by simpa [fill, slice] using s3)

end
end Go.Esc.M

/- Own work. Chapter 16: what the document makes of bytes. -/
set_option linter.unusedSimpArgs false
set_option linter.unusedVariables false
namespace Go.Esc.M
open Go Go.Esc

/-- The message that bytes of kinds 4 and more would say. -/
def candM (b : List UInt8) : MsgM :=
  let k : Int := ((num (slice b 0 1) : Nat) : Int)
  if k = 4 then ⟨k, 0, 0, numAt b 1, 0, hashAt b 9, h0, []⟩
  else if k = 5 then ⟨k, 0, 0, numAt b 1, 0, hashAt b 41, hashAt b 9, []⟩
  else if k = 6 then ⟨k, 0, 0, numAt b 1, numAt b 9, h0, hashAt b 17, []⟩
  else if k = 7 then ⟨k, 0, 0, numAt b 1, 0, h0, h0, []⟩
  else ⟨k, 0, 0, 0, 0, h0, h0, []⟩

theorem rightI_spec {n : Int} (h : rightI n = true) : 0 ≤ n ∧ n ≤ 281474976710655 := by
  unfold rightI maxIndex at h
  simpa [Bool.and_eq_true, decide_eq_true_eq] using h

theorem numAt_be {x z : List UInt8} {n : Int} {a : Nat} (ha : x.length = a) (h : rightI n = true) : numAt (x ++ (be 8 (bits64 n) ++ z)) a = n := by
  obtain ⟨h0, h1⟩ := rightI_spec h
  have e : slice (x ++ (be 8 (bits64 n) ++ z)) a 8 = be 8 (bits64 n) := slice_app ha (length_be _ _)
  have e2 : num (be 8 (bits64 n)) = n.toNat := by rw [num_be_lt (bits64_lt n), bits64_nat h0 (by omega)]
  unfold numAt
  rw [e, e2, if_neg (by simp [length_be, ha]), if_neg (by omega)]
  omega
theorem hashAt_app {x y z : List UInt8} {a : Nat} (ha : x.length = a) (hy : y.length = 32) : hashAt (x ++ (y ++ z)) a = y := by
  unfold hashAt
  rw [slice_app ha hy, fill_full hy]

theorem cand_bytes {m : MsgM} (h : m.ok) (hv : validM m = true) (hk : ¬ isK m) : candM (bytesM m) = m := by
  obtain ⟨hnm, hr1, hr2⟩ := validM_named hv
  obtain ⟨hk4, hk7⟩ := named_kind hnm hk
  have hb : bytesM m = be 1 m.kind.toNat ++ (be 8 (bits64 m.index) ++ restM m) := by
    unfold bytesM
    rw [if_neg hk]
  have e0 : slice (bytesM m) 0 1 = be 1 m.kind.toNat := by
    rw [hb]
    exact slice_app (x := []) rfl (length_be _ _)
  have ek : ((num (slice (bytesM m) 0 1) : Nat) : Int) = m.kind := by
    rw [e0, num_be_lt (by omega)]
    omega
  have hnm' := hnm
  unfold namedM at hnm'
  rw [if_neg (show ¬ (m.kind = 1 ∨ m.kind = 2 ∨ m.kind = 3) from hk)] at hnm'
  have n1 : numAt (bytesM m) 1 = m.index := by
    rw [hb]
    exact numAt_be (length_be _ _) hr1
  have h9 : (be 1 m.kind.toNat ++ be 8 (bits64 m.index)).length = 9 := by simp [length_be]
  unfold candM
  simp only [ek]
  by_cases c4 : m.kind = 4
  · rw [if_pos c4] at hnm' ⊢
    have e : hashAt (bytesM m) 9 = m.hash := by
      rw [hb, restM, if_pos c4, ← List.append_assoc]
      have := hashAt_app (x := be 1 m.kind.toNat ++ be 8 (bits64 m.index)) (z := []) h9 h.hash
      rwa [List.append_nil] at this
    rw [n1, e]
    injection hnm'
  rw [if_neg c4] at hnm' ⊢
  by_cases c5 : m.kind = 5
  · rw [if_pos c5] at hnm' ⊢
    have e : hashAt (bytesM m) 9 = m.secret := by
      rw [hb, restM, if_neg c4, if_pos c5, ← List.append_assoc]
      exact hashAt_app h9 h.secret
    have e' : hashAt (bytesM m) 41 = m.hash := by
      rw [hb, restM, if_neg c4, if_pos c5, ← List.append_assoc, ← List.append_assoc]
      have := hashAt_app (x := be 1 m.kind.toNat ++ be 8 (bits64 m.index) ++ m.secret) (z := []) (a := 41) (by rw [List.length_append, h9, h.secret]) h.hash
      rwa [List.append_nil] at this
    rw [n1, e, e']
    injection hnm'
  rw [if_neg c5] at hnm' ⊢
  by_cases c6 : m.kind = 6
  · rw [if_pos c6] at hnm' ⊢
    have e : numAt (bytesM m) 9 = m.next := by
      rw [hb, restM, if_neg c4, if_neg c5, if_pos c6, ← List.append_assoc]
      exact numAt_be h9 hr2
    have e' : hashAt (bytesM m) 17 = m.secret := by
      rw [hb, restM, if_neg c4, if_neg c5, if_pos c6, ← List.append_assoc, ← List.append_assoc]
      have := hashAt_app (x := be 1 m.kind.toNat ++ be 8 (bits64 m.index) ++ be 8 (bits64 m.next)) (z := []) (a := 17) (by rw [List.length_append, h9, length_be]) h.secret
      rwa [List.append_nil] at this
    rw [n1, e, e']
    injection hnm'
  rw [if_neg c6] at hnm' ⊢
  rw [if_pos (by omega)] at hnm' ⊢
  rw [n1]
  injection hnm'

end Go.Esc.M

/- Own work. Chapter 16: messages read, in the document. -/
set_option linter.unusedSimpArgs false
set_option linter.unusedVariables false
namespace Go.Esc.M
open Go Go.Esc

def tupMI (x : MsgM × Int) : AVal := .tuple [x.1.av, .int .i64 x.2]
theorem numAt_i64 (b : List UInt8) (a : Nat) : I64 (numAt b a) := by
  unfold numAt
  split
  · exact ⟨by decide, by decide⟩
  split
  · exact ⟨by decide, by decide⟩
  · exact ⟨by omega, by omega⟩
theorem candM_ok (b : List UInt8) : (candM b).ok := by
  have hk : I64 ((num (slice b 0 1) : Nat) : Int) := i64_small (by omega) (by have := num1_lt (b := b); omega)
  unfold candM
  dsimp only
  split
  · exact ⟨hk, i64_0, i64_0, numAt_i64 _ _, i64_0, length_hashAt _ _, rfl, by simp⟩
  split
  · exact ⟨hk, i64_0, i64_0, numAt_i64 _ _, i64_0, length_hashAt _ _, length_hashAt _ _, by simp⟩
  split
  · exact ⟨hk, i64_0, i64_0, numAt_i64 _ _, numAt_i64 _ _, rfl, length_hashAt _ _, by simp⟩
  split
  · exact ⟨hk, i64_0, i64_0, numAt_i64 _ _, i64_0, rfl, rfl, by simp⟩
  · exact ⟨hk, i64_0, i64_0, i64_0, i64_0, rfl, rfl, by simp⟩

theorem bytesM_kind {m : MsgM} (h : m.ok) (hv : validM m = true) : bytesM m ≠ [] ∧ ((num (slice (bytesM m) 0 1) : Nat) : Int) = m.kind := by
  have hk : 1 ≤ m.kind ∧ m.kind ≤ 7 := by
    by_cases hk : isK m
    · unfold isK at hk; omega
    · obtain ⟨hnm, _, _⟩ := validM_named hv
      obtain ⟨h1, h2⟩ := named_kind hnm hk
      omega
  have hb : ∃ t, bytesM m = be 1 m.kind.toNat ++ (t ++ []) := by
    unfold bytesM
    split
    · exact ⟨be 2 m.id.toNat ++ tailU (updOf m), by rw [List.append_nil]; rfl⟩
    · exact ⟨be 8 (bits64 m.index) ++ restM m, by rw [List.append_nil]⟩
  obtain ⟨t, ht⟩ := hb
  refine ⟨by rw [ht]; simp [be], ?_⟩
  have e0 : slice (bytesM m) 0 1 = be 1 m.kind.toNat := by
    rw [ht]
    exact slice_app (x := []) rfl (length_be _ _)
  rw [e0, num_be_lt (by omega)]
  omega
theorem valid_upd {m : MsgM} (hk : isK m) (hv : validM m = true) : validU (updOf m) = true ∧ m = msgOf (updOf m) := by
  unfold validM at hv
  rw [if_pos hk, Bool.and_eq_true, decide_eq_true_eq] at hv
  exact hv
theorem upd_valid {u : UpdM} (hv : validU u = true) : validM (msgOf u) = true ∧ isK (msgOf u) ∧ bytesM (msgOf u) = bytesU u := by
  have hk : isK (msgOf u) := by
    obtain ⟨_, _, h⟩ := valid_spec hv
    unfold isK
    show u.kind = 1 ∨ u.kind = 2 ∨ u.kind = 3
    omega
  refine ⟨?_, hk, ?_⟩
  · unfold validM
    rw [if_pos hk]
    show (validU u && decide (msgOf u = msgOf u)) = true
    rw [hv, decide_eq_true rfl]
    rfl
  · unfold bytesM
    rw [if_pos hk]
    rfl

/-- Of bytes of kinds 1 to 3: a message, or none. -/
theorem upd_read {b : List UInt8} (hbl : b.length ≤ 9223372036854775807) (hk : 1 ≤ num (slice b 0 1) ∧ num (slice b 0 1) ≤ 3) :
    ((readU b).2.2 = 0 ∧ (readU b).2.1 = (b.length : Nat) → ∃ u : UpdM, u.ok ∧ validU u = true ∧ (readU b).1 = u ∧ b = bytesM (msgOf u)) ∧
    (¬ ((readU b).2.2 = 0 ∧ (readU b).2.1 = (b.length : Nat)) → ∀ m : MsgM, m.ok → validM m = true → b ≠ bytesM m) := by
  refine ⟨fun h => ?_, fun h m hm hv hb => h ?_⟩
  · rcases readU_cases hbl with ⟨e, he, hr⟩ | ⟨u, k, hr, huo, huv, hk0, hkl, hub⟩
    · rw [hr] at h
      have := h.1
      dsimp only at this
      omega
    · rw [hr] at h
      have h2 := h.2
      dsimp only at h2
      have hkk : k = b.length := by omega
      refine ⟨u, huo, huv, by rw [hr], ?_⟩
      rw [(upd_valid huv).2.2, hub, hkk, List.take_length]
  · have hkd := (bytesM_kind hm hv).2
    rw [← hb] at hkd
    have hik : isK m := by unfold isK; omega
    obtain ⟨h1, h2⟩ := valid_upd hik hv
    have hbu : b = bytesU (updOf m) := by
      rw [hb]
      unfold bytesM
      rw [if_pos hik]
    have hr := readU_bytes (updOf_ok hm) h1 []
    rw [List.append_nil, ← hbu] at hr
    rw [hr]
    exact ⟨rfl, rfl⟩

end Go.Esc.M
