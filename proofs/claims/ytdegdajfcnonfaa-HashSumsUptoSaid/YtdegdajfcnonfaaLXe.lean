/- Own work. Chapter 2: HashMac. -/
import Derived.Test.YtdegdajfcnonfaaLXd
set_option linter.unusedSimpArgs false
set_option linter.unusedVariables false
namespace Go.Esc.M
open Go Go.Esc Go.Proofs

section
variable {F0 : List AId} {G0 G : Heap} {ps : List LP} {Q : AVal → Heap → Prop}

theorem grow8 {s : AVal} {l : List UInt8} {b : UInt8} {i : Nat} {K : AVal → Heap → Prop} (hs : Sp F0 G0 ps G) (hi : ps[i]? = some (OwnL 1 s (l.map u8v))) (hl : l.length ≤ 1000000) (hK : ∀ s' G', Sp F0 G0 (ps.set i (OwnL 1 s' ((l ++ [b]).map u8v))) G' → K s' G') :
    aBuildSlice T t_sl_uint8 1 [(0, u8v b)] G fun v G' => aAppend T G' t_sl_uint8 t_sl_uint8 s v K := by
  refine growV (T := T) (ts := t_sl_uint8) (e := t_uint8) (si := ti_sl_uint8) (ie := ti_uint8) (i := i) T_sl_uint8 rfl T_uint8 rfl (by decide) hs hi rfl rfl (by decide) ?_ fun s' G2 h2 => hK s' G2 ?_
  · simp only [List.length_map, ti_uint8]; omega
  · rw [List.map_append]; exact h2

theorem escrowlaw02_bytes.use {h : List UInt8} (hh : h.length = 32) (hQ : ∀ G', Ch [] G [] G' → Q (.str h) G') : ACalls P escrowlaw02_bytes.n [.agg (h.map u8v)] G Q := by
  refine escrowlaw02_bytes.sound ?_
  unfold escrowlaw02_bytes.S
  intro i1 f1
  have s1 := (Sp.nil G).row f1 (.agg (h.map u8v))
  intro R hR
  have loop : ∀ (n j : Nat) (v : AVal) (G' : Heap), 32 - j = n → j ≤ 32 → Sp [] G [OwnL 1 v ((h.take j).map u8v), RowL i1 (.agg (h.map u8v))] G' → R [.ptr i1 [] 0, v, .int .i64 (j : Int)] G' := by
    intro n
    induction n with
    | zero =>
      intro j v G' hn hj s
      refine hR _ _ _ _ ?_
      rw [vbin_lss, wv_some, decide_eq_false (by omega), brB_false]
      have ho := OwnL.own (i := 0) s rfl
      rw [List.take_of_length_le (by omega)] at ho
      refine wv_of (conv_bytes T_sl_uint8 rfl T_uint8 rfl T_string rfl ho.is) ?_
      exact hQ _ s.ch
    | succ n ih =>
      intro j v G' hn hj s
      refine hR _ _ _ _ ?_
      rw [vbin_lss, wv_some, decide_eq_true (by omega), brB_true]
      refine wv_of (addr_hash (j := j) (by omega)) ?_
      refine wv_of (load_byte (hs := h) (j := j) (by omega) (RowL.own (i := 1) s rfl)) ?_
      refine grow8 (i := 0) s rfl (by rw [List.length_take]; omega) fun v2 G2 s2 => ?_
      rw [vbin_add, wv_some, i64_in (by omega) (by omega)]
      refine ih (j + 1) _ _ (by omega) (by omega) ?_
      rw [List.take_succ_eq_append_getElem (by omega)]
      exact s2
  exact loop 32 0 .nilSlice _ rfl (by omega) (s1.new (p := OwnL 1 .nilSlice []) ⟨.inl ⟨rfl, rfl⟩, rfl⟩ (Ch.refl _ _))

end

set_option maxRecDepth 20000 in
set_option maxHeartbeats 4000000 in
theorem law_HashMac {G : Heap} {k t r : AVal} {m1 m2 m3 : Nat} (h1 : wt T G reachBytes 4 t_api_Hash k m1) (h2 : wt T G reachBytes 4 t_string t m2) (h3 : wt T G reachBytes 4 t_string r m3) : ACalls P escrowlaw02_HashMac.n [k, t, r] G fun v _ => v = .bool true := by
  obtain ⟨k, rfl, hk, _⟩ := wt_hash T_api_Hash rfl T_uint8 rfl h1
  obtain ⟨t, rfl, htR, _, _⟩ := wt_str T_string rfl h2
  obtain ⟨r, rfl, hrR, _, _⟩ := wt_str T_string rfl h3
  have htR : t.length ≤ 140737488351232 := htR
  have hrR : r.length ≤ 140737488351232 := hrR
  refine escrowlaw02_HashMac.sound ?_
  unfold escrowlaw02_HashMac.S
  intro i1 f1
  have s1 := (Sp.nil G).row f1 (.agg (k.map u8v))
  refine escrowlaw02_first.use fun G4 c4 => ?_
  have s4 := s1.tmp c4
  rw [vun_not, wv_some, Bool.not_true, brB_false]
  obtain ⟨A, hA⟩ : ∃ A, A = overK k 0x36 := ⟨_, rfl⟩
  obtain ⟨B, hB⟩ : ∃ B, B = overK k 0x5c := ⟨_, rfl⟩
  have hAl : A.length = 64 := by rw [hA]; exact length_overK hk _
  have hBl : B.length = 64 := by rw [hB]; exact length_overK hk _
  intro R hR
  have loop : ∀ (n j : Nat) (v w : AVal) (G' : Heap), 64 - j = n → j ≤ 64 → Sp [] G [OwnL 1 w ((B.take j).map u8v), OwnL 1 v ((A.take j).map u8v), RowL i1 (.agg (k.map u8v))] G' → R [.str t, .str r, .ptr i1 [] 0, v, w, .int .i64 (j : Int)] G' := by
    intro n
    induction n with
    | zero =>
      intro j v w G' hn hj s
      rw [List.take_of_length_le (by omega), List.take_of_length_le (by omega)] at s
      refine hR _ _ _ _ _ _ _ ?_
      rw [vbin_lss, wv_some, decide_eq_false (by omega), brB_false]
      refine wv_of (conv_bytes T_sl_uint8 rfl T_uint8 rfl T_string rfl (OwnL.own (i := 1) s rfl).is) ?_
      refine buildL (T := T) (ts := t_sl_string) (e := t_string) (si := ti_sl_string) (ie := ti_string) (l := [A, t, r].map .str) T_sl_string rfl T_string rfl rfl rfl rfl (by simp [sz, ti_string]) (by decide) s fun v33 G34 s34 => ?_
      refine hash_Sum.use (xs := [A, t, r]) (OwnL.own (i := 0) s34 rfl).cap (by simp) (by simp; omega) fun G36 c36 => ?_
      have s36 := s34.tmp c36
      have hf : [A, t, r].flatten = A ++ (t ++ r) := by simp
      rw [hf]
      obtain ⟨I, hI⟩ : ∃ I, I = sha (A ++ (t ++ r)) := ⟨_, rfl⟩
      have hIl : I.length = 32 := by rw [hI]; exact length_sha _
      rw [← hI]
      refine newVal s36 T_api_Hash (fits32 hIl) (sz32 hIl) (okv32 _) fun i37 G39 s39 => ?_
      have s39 : Sp [] G [RowL i37 (.agg (I.map u8v)), OwnL 1 v33 ([A, t, r].map .str), OwnL 1 w (B.map u8v), OwnL 1 v (A.map u8v), RowL i1 (.agg (k.map u8v))] G39 := s39
      refine wv_of (load_hash hk (RowL.own (i := 4) s39 rfl)) ?_
      rw [vbin_sadd _ _ (by omega), wv_some]
      refine wv_of (conv_bytes T_sl_uint8 rfl T_uint8 rfl T_string rfl (OwnL.own (i := 2) s39 rfl).is) ?_
      refine wv_of (load_hash hIl (RowL.own (i := 0) s39 rfl)) ?_
      refine hash_Mac.use hk (by rw [List.length_append]; omega) fun G45 c45 => ?_
      have s45 := s39.tmp c45
      refine ⟨⟨load_hash hIl (RowL.own (i := 0) s45 rfl), conv_bytes T_sl_uint8 rfl T_uint8 rfl T_string rfl (OwnL.own (i := 2) s45 rfl).is, trivial⟩, ?_⟩
      refine escrowlaw02_bytes.use hIl fun G47 c47 => ?_
      have s47 := s45.tmp c47
      refine ⟨⟨conv_bytes T_sl_uint8 rfl T_uint8 rfl T_string rfl (OwnL.own (i := 2) s47 rfl).is, trivial⟩, ?_⟩
      refine buildL (T := T) (ts := t_sl_string) (e := t_string) (si := ti_sl_string) (ie := ti_string) (l := [B, I].map .str) T_sl_string rfl T_string rfl rfl rfl rfl (by simp [sz, ti_string]) (by decide) s47 fun v48 G49 s49 => ?_
      refine hash_Sum.use (xs := [B, I]) (OwnL.own (i := 0) s49 rfl).cap (by simp) (by simp; omega) fun G51 c51 => ?_
      have hm : mac k (t ++ r) = sha [B, I].flatten := by
        rw [mac, ← hA, ← hB, ← hI]
        simp
      rw [hm]
      refine wv_of (hash_eql2 (length_sha _) (length_sha _)) ?_
      rw [decide_eq_true rfl]
    | succ n ih =>
      intro j v w G' hn hj s
      refine hR _ _ _ _ _ _ _ ?_
      rw [vbin_lss, wv_some, decide_eq_true (by omega), brB_true]
      refine wv_of (by rw [vbin_lss]) ?_
      intro J30
      have h30 : ∀ x : UInt8, (k ++ List.replicate 32 0)[j]? = some x → J30 (u8v x) G' := by
        intro x hx
        have eA : A.take (j + 1) = A.take j ++ [x ^^^ 0x36] := by
          rw [List.take_add_one, hA, overK, List.getElem?_map, hx]
          rfl
        have eB : B.take (j + 1) = B.take j ++ [x ^^^ 0x5c] := by
          rw [List.take_add_one, hB, overK, List.getElem?_map, hx]
          rfl
        simp -zeta only [J30]
        refine wv_of (u8_xor x 0x36) ?_
        refine grow8 (i := 1) s rfl (by rw [List.length_take]; omega) fun v2 G2 s2 => ?_
        refine wv_of (u8_xor x 0x5c) ?_
        refine grow8 (i := 0) s2 rfl (by rw [List.length_take]; omega) fun w2 G3 s3 => ?_
        rw [vbin_add, wv_some, i64_in (by omega) (by omega)]
        refine ih (j + 1) _ _ _ (by omega) (by omega) ?_
        rw [eA, eB]
        exact s3
      rw [brB_dec]
      refine ⟨fun hj32 => ?_, fun hj32 => ?_⟩
      · refine wv_of (addr_hash (j := j) (by omega)) ?_
        refine wv_of (load_byte (hs := k) (j := j) (by omega) (RowL.own (i := 2) s rfl)) ?_
        refine h30 _ ?_
        rw [List.getElem?_append_left (by omega), List.getElem?_eq_getElem (by omega)]
      · refine h30 0 ?_
        rw [List.getElem?_append_right (by omega), List.getElem?_replicate_of_lt (by omega)]
  refine loop 64 0 .nilSlice .nilSlice _ rfl (by omega) ?_
  exact (s4.new (p := OwnL 1 .nilSlice []) ⟨.inl ⟨rfl, rfl⟩, rfl⟩ (Ch.refl _ _)).new (p := OwnL 1 .nilSlice []) ⟨.inl ⟨rfl, rfl⟩, rfl⟩ (Ch.refl _ _)

end Go.Esc.M
