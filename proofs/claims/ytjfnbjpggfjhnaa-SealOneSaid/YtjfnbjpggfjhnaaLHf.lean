/- Own work. Chapter 2: the document's sum, texts and keys. -/
import Derived.Test.YtjfnbjpggfjhnaaLHe
set_option linter.unusedSimpArgs false
set_option linter.unusedVariables false
namespace Go.Esc.M
open Go Go.Esc

section
variable {G : Heap} {Q : AVal → Heap → Prop}

/-- A text behind a list of bytes. -/
theorem growStr {F0 : List AId} {G0 : Heap} {ps : List LP} {s : AVal} {l x : List UInt8} {i : Nat} {K : AVal → Heap → Prop} (hs : Sp F0 G0 ps G) (hi : ps[i]? = some (OwnL 1 s (l.map u8v))) (hl : l.length + x.length ≤ 140737488355328)
    (hK : ∀ s' G', Sp F0 G0 (ps.set i (OwnL 1 s' ((l ++ x).map u8v))) G' → K s' G') : aAppend T G t_sl_uint8 t_string s (.str x) K := by
  obtain ⟨F, ho, _⟩ := hs.get hi
  refine own_append (T := T) (e := t_uint8) (si := ti_sl_uint8) (ie := ti_uint8) (vs := x.map u8v) T_sl_uint8 rfl T_uint8 rfl (by decide) T_string (.inl rfl) ho (by simp [selems, ti_uint8, u8v, Function.comp_def]) (uni_u8 _) (okvs_u8 _) ?_ fun s' G2 ho2 hk => hK s' G2 ?_
  · simp only [List.length_map, ti_uint8]
    omega
  · refine hs.call hi (OwnL 1 s' ((l ++ x).map u8v)) fun F h k => ?_
    obtain ⟨_, rfl⟩ := h
    exact k _ _ ⟨by rw [List.map_append]; exact ho2, rfl⟩ hk.ch

theorem Sp.nilOwn {F0 : List AId} {G0 : Heap} {ps : List LP} (hs : Sp F0 G0 ps G) (n : Nat) : Sp F0 G0 (OwnL n .nilSlice [] :: ps) G := hs.new (p := OwnL n .nilSlice []) ⟨.inl ⟨rfl, rfl⟩, rfl⟩ (Ch.refl _ _)

set_option maxHeartbeats 1000000 in
theorem escrowref02_padded.use {s : List UInt8} (hl : s.length ≤ 140737488355000) (hQ : ∀ v G', Sp [] G [OwnL 1 v ((pad s).map u8v)] G' → Q v G') : ACalls P escrowref02_padded.n [.str s] G Q := by
  refine escrowref02_padded.sound ?_
  unfold escrowref02_padded.S
  refine growStr (i := 0) (l := []) (Sp.nilOwn (Sp.nil G) 1) rfl (by simp; omega) fun v1 G2 s2 => ?_
  refine grow1 (i := 0) (b := 128) s2 rfl (by simp; omega) fun v5 G6 s6 => ?_
  intro R7 hR7
  obtain ⟨zt, hzt⟩ : ∃ zt, zt = (119 - s.length % 64) % 64 := ⟨_, rfl⟩
  have loop1 : ∀ (n z : Nat) (pd : AVal) (G' : Heap), zt - z = n → z ≤ zt → Sp [] G [OwnL 1 pd ((s ++ (128 : UInt8) :: List.replicate z 0).map u8v)] G' → R7 [.str s, pd] G' := by
    intro n
    induction n with
    | zero =>
      intro z pd G' hn hz hs
      have : z = zt := by omega
      subst this
      obtain ⟨F, ho, _⟩ := hs.get (i := 0) rfl
      refine hR7 _ _ _ ?_
      have hlz : (s ++ (128 : UInt8) :: List.replicate z 0).length = s.length + (z + 1) := by simp
      rw [own_len ho, wv_some, hlz, vbin_rem _ _ _ _ _ (by decide), wv_some]
      have hm : ((s.length + (z + 1) : Nat) : Int).tmod 64 = 56 := by
        rw [Int.tmod_eq_emod_of_nonneg (by omega)]
        omega
      rw [hm, vbin_neq, wv_some, brB_ndec]
      refine ⟨fun h => absurd rfl h, fun _ => ?_⟩
      intro R18 hR18
      have loop2 : ∀ (m : Nat) (bs : List UInt8) (pd : AVal) (G' : Heap), m ≤ 8 → bs ++ bytesBE m (8 * s.length) = pad s → Sp [] G [OwnL 1 pd (bs.map u8v)] G' → R18 [.str s, pd, .int .i64 ((m : Int) - 1)] G' := by
        intro m
        induction m with
        | zero =>
          intro bs pd G' hm he hs
          rw [bytesBE, List.append_nil] at he
          subst he
          refine hR18 _ _ _ _ ?_
          rw [vbin_geq, wv_some, brB_dec]
          refine ⟨fun h => absurd h (by decide), fun _ => ?_⟩
          exact hQ _ _ hs
        | succ m ih =>
          intro bs pd G' hm he hs
          have ei : ((m + 1 : Nat) : Int) - 1 = (m : Int) := by omega
          rw [ei]
          refine hR18 _ _ _ _ ?_
          rw [vbin_geq, wv_some, brB_dec]
          refine ⟨fun _ => ?_, fun h => absurd (by omega) h⟩
          show wv (some (.int .i64 (s.length : Nat))) _
          rw [wv_some, vbin_mul, wv_some, i64_in (by omega) (by omega), vbin_mul, wv_some, i64_in (by omega) (by omega)]
          have e8 : (8 : Int) * (s.length : Nat) = ((8 * s.length : Nat) : Int) := by omega
          rw [e8, shr_i64 (m := m) (by omega) (by omega), wv_some, vconv_int T_int T_uint8 rfl, wv_some, wrapU8]
          have eb : (AVal.int .u8 (((8 * s.length / 2 ^ (8 * m) : Nat) : Int) % 256)) = u8v (UInt8.ofNat (8 * s.length / 2 ^ (8 * m))) := by rw [u8v_ofNat]; rfl
          rw [eb]
          have hbl' : bs.length + (m + 1) ≤ s.length + 72 := by
            have h1 := congrArg List.length he
            have h2 := length_pad s
            rw [List.length_append, length_bytesBE] at h1
            omega
          refine grow1 (i := 0) hs rfl (by omega) fun s' G9 s9 => ?_
          rw [vbin_sub, wv_some, i64_in (by omega) (by omega)]
          refine ih _ s' G9 (by omega) ?_ s9
          rw [bytesBE] at he
          rw [List.append_assoc, List.singleton_append]
          exact he
      exact loop2 8 (s ++ (128 : UInt8) :: List.replicate z 0) pd G' (by omega) (by rw [pad, ← hzt]; simp) hs
    | succ n ih =>
      intro z pd G' hn hz hs
      obtain ⟨F, ho, _⟩ := hs.get (i := 0) rfl
      refine hR7 _ _ _ ?_
      have hlz : (s ++ (128 : UInt8) :: List.replicate z 0).length = s.length + (z + 1) := by simp
      rw [own_len ho, wv_some, hlz, vbin_rem _ _ _ _ _ (by decide), wv_some]
      have hm : ((s.length + (z + 1) : Nat) : Int).tmod 64 ≠ 56 := by
        rw [Int.tmod_eq_emod_of_nonneg (by omega)]
        omega
      rw [vbin_neq, wv_some, brB_ndec]
      refine ⟨fun _ => ?_, fun h => absurd h hm⟩
      refine grow1 (i := 0) (b := 0) hs rfl (by rw [hlz]; omega) fun s' G9 s9 => ?_
      refine ih (z + 1) s' G9 (by omega) (by omega) ?_
      have : s ++ (128 : UInt8) :: List.replicate (z + 1) 0 = (s ++ (128 : UInt8) :: List.replicate z 0) ++ [0] := by rw [List.replicate_succ']; simp
      rw [this]
      exact s9
  exact loop1 zt 0 v5 G6 rfl (by omega) s6

set_option maxHeartbeats 1000000 in
theorem escrowref02_One.use {s : List UInt8} (hl : s.length ≤ 140737488355000) (hQ : ∀ G', Ch [] G [] G' → Q (.agg ((sha s).map u8v)) G') : ACalls P escrowref02_One.n [.str s] G Q := by
  refine escrowref02_One.sound ?_
  unfold escrowref02_One.S
  rw [z_hash]
  unfold sha at hQ
  obtain ⟨D, hD⟩ : ∃ D, chain ((pad s).length / 64) H256 (pad s) = D := ⟨_, rfl⟩
  rw [hD] at hQ
  have hD8 : D.length = 8 := by rw [← hD]; exact length_chain _ _ rfl
  have hp := length_pad s
  intro i1 f1
  have s1 := (Sp.nil G).row f1 (.agg ((List.replicate 32 (0 : UInt8)).map u8v))
  refine escrowref02_padded.use hl fun v3 G4 s4 => ?_
  obtain ⟨F4, ⟨h4, _⟩, c4⟩ := s4.out
  have s4 := s1.new (p := OwnL 1 v3 ((pad s).map u8v)) (F' := F4) ⟨h4, by assumption⟩ c4
  refine wv_of (v := .agg (u32s H256)) (by kernel_rfl) ?_
  rw [z8]
  intro i6 f6
  have s7 := s4.row f6 (.agg (u32s (List.replicate 8 0)))
  rw [ar8_store (by simp) (ws' := H256) rfl (RowL.own (i := 0) s7 rfl), wg_some]
  have s8 := Sp.setRow s7 (j := 0) rfl (.agg (u32s H256))
  intro R9 hR9
  have loop : ∀ (n at_ : Nat) (h : List Nat) (G' : Heap), (pad s).length = at_ + 64 * n → h.length = 8 → chain n h ((pad s).drop at_) = D →
      Sp [] G [RowL i6 (.agg (u32s h)), OwnL 1 v3 ((pad s).map u8v), RowL i1 (.agg ((List.replicate 32 (0 : UInt8)).map u8v))] G' → R9 [.ptr i1 [] 0, v3, .ptr i6 [] 0, .int .i64 (at_ : Int)] G' := by
    intro n
    induction n with
    | zero =>
      intro at_ h G' hm hh he hs
      have he : h = D := he
      subst he
      obtain ⟨F, ho, _⟩ := hs.get (i := 1) rfl
      refine hR9 _ _ _ _ _ ?_
      rw [own_len ho, wv_some, vbin_lss, wv_some, brB_dec]
      refine ⟨fun h => absurd h (by omega), fun _ => ?_⟩
      intro i22 f22
      have s23 := hs.row f22 (.agg ((List.replicate 32 (0 : UInt8)).map u8v))
      intro R24 hR24
      refine digest_loop (p := 0) (q := 1) (x0 := .ptr i1 [] 0) hh (by simp) (by decide) (ps := [RowL i22 (.agg ((List.replicate 32 (0 : UInt8)).map u8v)), RowL i6 (.agg (u32s h)), OwnL 1 v3 ((pad s).map u8v), RowL i1 (.agg ((List.replicate 32 (0 : UInt8)).map u8v))]) rfl R24 _ hR24 s23 fun G9 h9 => ?_
      have hz := length_digest h
      rw [load_hash hz (RowL.own (i := 0) h9 rfl), wv_some, store_hash (by simp) hz (RowL.own (i := 3) h9 rfl), wg_some, load_hash hz (Heap.upd_self _ _ _), wv_some]
      exact hQ _ (Sp.setRow h9 (j := 3) rfl (.agg ((digest h).map u8v))).ch
    | succ n ih =>
      intro at_ h G' hm hh he hs
      obtain ⟨F, ho, _⟩ := hs.get (i := 1) rfl
      refine hR9 _ _ _ _ _ ?_
      rw [own_len ho, wv_some, vbin_lss, wv_some, brB_dec]
      refine ⟨fun _ => ?_, fun h => absurd (by omega) h⟩
      rw [ar8_load hh (RowL.own (i := 0) hs rfl), wv_some]
      refine escrowref02_block.use hh ho.is (by omega) (by omega) fun G9 c9 => ?_
      have s9 := hs.tmp c9
      have hc8 : (compress h (((pad s).drop at_).take 64)).length = 8 := length_compress hh
      rw [ar8_store hh hc8 (RowL.own (i := 0) s9 rfl), wg_some, vbin_add, wv_some, i64_in (by omega) (by omega)]
      refine ih (at_ + 64) _ _ (by omega) hc8 ?_ (Sp.setRow s9 (j := 0) rfl _)
      rw [← List.drop_drop]
      exact he
  exact loop ((pad s).length / 64) 0 H256 _ (by omega) rfl hD s8

theorem escrowref02_Pad.use {key : List UInt8} {c : UInt8} (hk : key.length = 32) (hQ : ∀ G', Ch [] G [] G' → Q (.str (overK key c)) G') : ACalls P escrowref02_Pad.n [.agg (key.map u8v), u8v c] G Q := by
  refine escrowref02_Pad.sound ?_
  unfold escrowref02_Pad.S
  intro i1 f1
  have s1 := Sp.nilOwn ((Sp.nil G).row f1 (.agg (key.map u8v))) 1
  intro R3 hR3
  have hX := length_overK hk c
  have loop : ∀ (n j : Nat) (v : AVal) (G' : Heap), 64 - j = n → j ≤ 64 → Sp [] G [OwnL 1 v (((overK key c).take j).map u8v), RowL i1 (.agg (key.map u8v))] G' → R3 [u8v c, .ptr i1 [] 0, v, .int .i64 (j : Int)] G' := by
    intro n
    induction n with
    | zero =>
      intro j v G' hn hj hs
      have : j = 64 := by omega
      subst this
      obtain ⟨F, ho, _⟩ := hs.get (i := 0) rfl
      refine hR3 _ _ _ _ _ ?_
      rw [vbin_lss, wv_some, brB_dec]
      refine ⟨fun h => absurd h (by decide), fun _ => ?_⟩
      rw [List.take_of_length_le (by omega)] at ho
      rw [conv_bytes T_sl_uint8 rfl T_uint8 rfl T_string rfl ho.is, wv_some]
      exact hQ _ hs.ch
    | succ n ih =>
      intro j v G' hn hj hs
      have hj64 : j < 64 := by omega
      refine hR3 _ _ _ _ _ ?_
      rw [vbin_lss, wv_some, brB_dec]
      refine ⟨fun _ => ?_, fun h => absurd (by omega) h⟩
      rw [vbin_lss, wv_some, brB_dec]
      have next : ∀ (b : UInt8), b = (overK key c)[j]'(by omega) → aBuildSlice T t_sl_uint8 1 [(0, u8v b)] G' fun v21 G22 => aAppend T G22 t_sl_uint8 t_sl_uint8 v v21 fun v23 G24 => wv (vbin T .add t_int (.int .i64 (j : Int)) (.int .i64 1)) fun v33 => R3 [u8v c, .ptr i1 [] 0, v23, v33] G24 := by
        intro b hb
        refine grow1 (i := 0) hs rfl (by simp; omega) fun s' G9 s9 => ?_
        rw [vbin_add, wv_some, i64_in (by omega) (by omega)]
        refine ih (j + 1) s' G9 (by omega) (by omega) ?_
        rw [List.take_succ_eq_append_getElem (by omega), ← hb]
        exact s9
      refine ⟨fun h32 => ?_, fun h32 => ?_⟩
      · rw [addr_hash (by omega), wv_some, load_byte (by omega) (RowL.own (i := 1) hs rfl), wv_some, u8_xor, wv_some]
        refine next _ ?_
        simp only [overK, List.getElem_map]
        rw [List.getElem_append_left (by omega)]
      · have e0 : vbin T .xor t_uint8 (.int .u8 0) (u8v c) = some (u8v (0 ^^^ c)) := u8_xor 0 c
        rw [e0, wv_some]
        refine next _ ?_
        simp only [overK, List.getElem_map]
        rw [List.getElem_append_right (by omega), List.getElem_replicate]
  exact loop 64 0 .nilSlice _ rfl (by omega) s1

theorem escrowref02_Bytes.use {h : List UInt8} (hk : h.length = 32) (hQ : ∀ G', Ch [] G [] G' → Q (.str h) G') : ACalls P escrowref02_Bytes.n [.agg (h.map u8v)] G Q := by
  refine escrowref02_Bytes.sound ?_
  unfold escrowref02_Bytes.S
  intro i1 f1
  have s1 := Sp.nilOwn ((Sp.nil G).row f1 (.agg (h.map u8v))) 1
  intro R3 hR3
  have loop : ∀ (n j : Nat) (v : AVal) (G' : Heap), 32 - j = n → j ≤ 32 → Sp [] G [OwnL 1 v ((h.take j).map u8v), RowL i1 (.agg (h.map u8v))] G' → R3 [.ptr i1 [] 0, v, .int .i64 (j : Int)] G' := by
    intro n
    induction n with
    | zero =>
      intro j v G' hn hj hs
      have : j = 32 := by omega
      subst this
      obtain ⟨F, ho, _⟩ := hs.get (i := 0) rfl
      refine hR3 _ _ _ _ ?_
      rw [vbin_lss, wv_some, brB_dec]
      refine ⟨fun h => absurd h (by decide), fun _ => ?_⟩
      rw [List.take_of_length_le (by omega)] at ho
      rw [conv_bytes T_sl_uint8 rfl T_uint8 rfl T_string rfl ho.is, wv_some]
      exact hQ _ hs.ch
    | succ n ih =>
      intro j v G' hn hj hs
      refine hR3 _ _ _ _ ?_
      rw [vbin_lss, wv_some, brB_dec]
      refine ⟨fun _ => ?_, fun h => absurd (by omega) h⟩
      rw [addr_hash (by omega), wv_some, load_byte (by omega) (RowL.own (i := 1) hs rfl), wv_some]
      refine grow1 (i := 0) hs rfl (by simp; omega) fun s' G9 s9 => ?_
      rw [vbin_add, wv_some, i64_in (by omega) (by omega)]
      refine ih (j + 1) s' G9 (by omega) (by omega) ?_
      rw [List.take_succ_eq_append_getElem (by omega)]
      exact s9
  exact loop 32 0 .nilSlice _ rfl (by omega) s1

theorem escrowref02_Mac.use {key text : List UInt8} (hk : key.length = 32) (hl : text.length ≤ 140737488354000) (hQ : ∀ G', Ch [] G [] G' → Q (.agg ((mac key text).map u8v)) G') : ACalls P escrowref02_Mac.n [.agg (key.map u8v), .str text] G Q := by
  refine escrowref02_Mac.sound ?_
  unfold escrowref02_Mac.S
  rw [z_hash]
  intro i1 f1
  have s1 := (Sp.nil G).row f1 (.agg (key.map u8v))
  intro i3 f3
  have s3 := s1.row f3 (.agg ((List.replicate 32 (0 : UInt8)).map u8v))
  have hlo := length_overK hk 0x36
  have hlo' := length_overK hk 0x5c
  rw [load_hash hk (RowL.own (i := 1) s3 rfl), wv_some, wv_some]
  refine escrowref02_Pad.use (c := 0x5c) hk fun G8 c8 => ?_
  have s8 := s3.tmp c8
  refine ⟨⟨load_hash hk (RowL.own (i := 1) s8 rfl), trivial⟩, ?_⟩
  refine escrowref02_Pad.use (c := 0x36) hk fun G10 c10 => ?_
  have s10 := s8.tmp c10
  rw [vbin_sadd _ _ (by omega), wv_some]
  refine escrowref02_One.use (by simp; omega) fun G13 c13 => ?_
  have s13 := s10.tmp c13
  have hs1 := length_sha (overK key 0x36 ++ text)
  refine escrowref02_Bytes.use hs1 fun G15 c15 => ?_
  have s15 := s13.tmp c15
  rw [vbin_sadd _ _ (by omega), wv_some]
  refine escrowref02_One.use (by simp; omega) fun G18 c18 => ?_
  have s18 := s15.tmp c18
  have hm : (mac key text).length = 32 := length_sha _
  show wg (vstore T G18 t_api_Hash (.ptr i3 [] 0) (.agg ((mac key text).map u8v))) _
  rw [store_hash (by simp) hm (RowL.own (i := 0) s18 rfl), wg_some, load_hash hm (Heap.upd_self _ _ _), wv_some]
  exact hQ _ (Sp.setRow s18 (j := 0) rfl (.agg ((mac key text).map u8v))).ch

end
end Go.Esc.M
