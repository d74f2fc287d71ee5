import Derived.Test.YtcceblejaanfaaaDoorLHd
/- Own work. Chapter 2: the document's sum. -/
set_option linter.unusedSimpArgs false
set_option linter.unusedVariables false
namespace Go.Esc.M
open Go Go.Esc

section
variable {G : Heap} {Q : AVal → Heap → Prop}

theorem by_at {v : AVal} {p : List UInt8} {j : Nat} {m : Int} (h : IsSl 1 G v (p.map u8v)) (hm : m = (j : Int)) (hj : j < p.length) : ∃ a, viaddr T t_sl_uint8 v (.int .i64 m) = some a ∧ vload T G t_uint8 a = some (u8v p[j]) := by
  subst hm
  exact h.at_ (k := .i64) (i := ti_sl_uint8) (ie := ti_uint8) (T := T) (t := t_sl_uint8) (e := t_uint8) T_sl_uint8 rfl T_uint8 (by rw [List.getElem?_map, List.getElem?_eq_getElem hj]; rfl) rfl

theorem u8v_to_u32 (b : UInt8) : vconv T G t_uint8 t_uint32 (u8v b) = some (.int .u32 (b.toNat : Nat)) := u8_to_u32 b

set_option maxHeartbeats 4000000 in
theorem escrowref02_block.use {s : List Nat} {p : List UInt8} {v : AVal} {at_ : Nat} (hs8 : s.length = 8) (hp : IsSl 1 G v (p.map u8v)) (hat : at_ + 64 ≤ p.length) (hpl : p.length ≤ 9223372036854775807) (hQ : ∀ G', Ch [] G [] G' → Q (.agg (u32s (compress s ((p.drop at_).take 64)))) G') :
    ACalls P escrowref02_block.n [.agg (u32s s), v, .int .i64 (at_ : Int)] G Q := by
  refine escrowref02_block.sound ?_
  unfold escrowref02_block.S
  rw [z8, z64]
  unfold compress at hQ
  obtain ⟨b, hbd⟩ : ∃ b, (p.drop at_).take 64 = b := ⟨_, rfl⟩
  rw [hbd] at hQ
  have hb64 : b.length = 64 := by rw [← hbd]; simp; omega
  have hbj : ∀ j, (hj : j < 64) → b[j]'(by omega) = p[at_ + j]'(by omega) := by
    intro j hj
    subst hbd
    simp
  obtain ⟨W, hW⟩ : ∃ W, sched 48 (words b 16) = W := ⟨_, rfl⟩
  have hW64 : W.length = 64 := by rw [← hW, length_sched, length_words]
  rw [hW] at hQ
  obtain ⟨fin, hfin⟩ : ∃ f, rnds K256 W s = f := ⟨_, rfl⟩
  rw [hfin] at hQ
  intro i1 f1
  have s1 := (Sp.nil G).row f1 (.agg (u32s s))
  intro i3 f3
  have s3 := s1.row f3 (.agg (u32s (List.replicate 8 0)))
  refine escrowref02_rounds.use fun G6 c6 => ?_
  have s6 := s3.tmp c6
  intro i7 f7
  have s7 := s6.row f7 (.agg (u32s (List.replicate 64 0)))
  rw [ar64_store (by simp) (ws' := K256) rfl (RowL.own (i := 0) s7 rfl), wg_some]
  have s9 := Sp.setRow s7 (j := 0) rfl (.agg (u32s K256))
  intro i10 f10
  have s11 : Sp [] G [RowL i10 (.agg (filled 64 [])), RowL i7 (.agg (u32s K256)), RowL i3 (.agg (u32s (List.replicate 8 0))), RowL i1 (.agg (u32s s))] _ := s9.row f10 (.agg (u32s (List.replicate 64 0)))
  revert s11
  generalize Heap.upd _ i10 (.own (.agg (u32s (List.replicate 64 0)))) = G11
  intro s11 R12 hR12
  have loop1 : ∀ (n i : Nat) (G' : Heap), 16 - i = n → i ≤ 16 → Sp [] G [RowL i10 (.agg (filled 64 (words b i))), RowL i7 (.agg (u32s K256)), RowL i3 (.agg (u32s (List.replicate 8 0))), RowL i1 (.agg (u32s s))] G' →
      R12 [v, .int .i64 (at_ : Int), .ptr i1 [] 0, .ptr i3 [] 0, .ptr i7 [] 0, .ptr i10 [] 0, .int .i64 (i : Int)] G' := by
    intro n
    induction n with
    | zero =>
      intro i G' hn hi hs
      have : i = 16 := by omega
      subst this
      refine hR12 _ _ _ _ _ _ _ _ ?_
      rw [vbin_lss, wv_some, brB_dec]
      refine ⟨fun h => absurd h (by decide), fun _ => ?_⟩
      intro R48 hR48
      have loop2 : ∀ (n : Nat) (ws : List Nat) (G' : Heap), 64 - ws.length = n → 16 ≤ ws.length → ws.length ≤ 64 → sched n ws = W → Sp [] G [RowL i10 (.agg (filled 64 ws)), RowL i7 (.agg (u32s K256)), RowL i3 (.agg (u32s (List.replicate 8 0))), RowL i1 (.agg (u32s s))] G' →
          R48 [.ptr i1 [] 0, .ptr i3 [] 0, .ptr i7 [] 0, .ptr i10 [] 0, .int .i64 (ws.length : Int)] G' := by
        intro n
        induction n with
        | zero =>
          intro ws G' hn h16 h64 he hs
          have hl : ws.length = 64 := by omega
          have he : ws = W := he
          subst he
          rw [filled_full hl] at hs
          refine hR48 _ _ _ _ _ _ ?_
          rw [vbin_lss, wv_some, brB_dec]
          refine ⟨fun h => absurd h (by omega), fun _ => ?_⟩
          rw [ar8_load hs8 (RowL.own (i := 3) hs rfl), wv_some]
          intro i89 f89
          have s90 := hs.row f89 (.agg (u32s (List.replicate 8 0)))
          rw [ar8_store (by simp) hs8 (RowL.own (i := 0) s90 rfl), wg_some]
          have s91 : Sp [] G [RowL i89 (.agg (u32s s)), RowL i10 (.agg (u32s ws)), RowL i7 (.agg (u32s K256)), RowL i3 (.agg (u32s (List.replicate 8 0))), RowL i1 (.agg (u32s s))] _ := Sp.setRow s90 (j := 0) rfl (.agg (u32s s))
          revert s91
          generalize Heap.upd _ i89 (.own (.agg (u32s s))) = G91
          intro s91 R92 hR92
          have loop3 : ∀ (n t : Nat) (r : List Nat) (G' : Heap), 64 - t = n → t ≤ 64 → r.length = 8 → rnds (K256.drop t) (ws.drop t) r = fin → Sp [] G [RowL i89 (.agg (u32s r)), RowL i10 (.agg (u32s ws)), RowL i7 (.agg (u32s K256)), RowL i3 (.agg (u32s (List.replicate 8 0))), RowL i1 (.agg (u32s s))] G' →
              R92 [.ptr i1 [] 0, .ptr i3 [] 0, .ptr i7 [] 0, .ptr i10 [] 0, .ptr i89 [] 0, .int .i64 (t : Int)] G' := by
            intro n
            induction n with
            | zero =>
              intro t r G' hn ht hr8 he h
              have : t = 64 := by omega
              subst this
              refine hR92 _ _ _ _ _ _ _ ?_
              rw [vbin_lss, wv_some, brB_dec]
              refine ⟨fun h => absurd h (by decide), fun _ => ?_⟩
              have he : r = fin := by
                rw [List.drop_of_length_le (by rw [length_K]; omega)] at he
                exact he
              subst he
              intro R172 hR172
              refine add_loop (p := 0) (q := 4) (x3 := .ptr i3 [] 0) hs8 hr8 (by simp) (by decide) (ps := [RowL i89 (.agg (u32s r)), RowL i10 (.agg (u32s ws)), RowL i7 (.agg (u32s K256)), RowL i3 (.agg (u32s (List.replicate 8 0))), RowL i1 (.agg (u32s s))]) rfl R172 _ hR172 h fun G9 h9 => ?_
              have hz : (List.zipWith add32 r s).length = 8 := by rw [List.length_zipWith, hr8, hs8]; rfl
              rw [ar8_load hz (RowL.own (i := 0) h9 rfl), wv_some, ar8_store (by simp) hz (RowL.own (i := 3) h9 rfl), wg_some, ar8_load hz (Heap.upd_self _ _ _), wv_some]
              exact hQ _ (Sp.setRow h9 (j := 3) rfl (.agg (u32s (List.zipWith add32 r s)))).ch
            | succ n ih =>
              intro t r G' hn ht hr8 he h
              obtain ⟨a, b, c, d, e, f, g, k, rfl⟩ := len8 hr8
              have ht64 : t < 64 := by omega
              obtain ⟨w, hw⟩ : ∃ w, ws[t]? = some w := ⟨_, List.getElem?_eq_getElem (by omega)⟩
              obtain ⟨q, hq⟩ : ∃ q, K256[t]? = some q := ⟨_, List.getElem?_eq_getElem (by rw [length_K]; omega)⟩
              have gr := RowL.own (i := 0) h rfl
              have gw := RowL.own (i := 1) h rfl
              have gc := RowL.own (i := 2) h rfl
              have L0 := words_load (j := 0) gr rfl
              have L1 := words_load (j := 1) gr rfl
              have L2 := words_load (j := 2) gr rfl
              have L3 := words_load (j := 3) gr rfl
              have L4 := words_load (j := 4) gr rfl
              have L5 := words_load (j := 5) gr rfl
              have L6 := words_load (j := 6) gr rfl
              have L7 := words_load (j := 7) gr rfl
              have LW := words_load gw hw
              have LK := words_load gc hq
              have A0 := ar8_addr (i := i89) (m := 0) (j := 0) rfl (by omega)
              have A1 := ar8_addr (i := i89) (m := 1) (j := 1) rfl (by omega)
              have A2 := ar8_addr (i := i89) (m := 2) (j := 2) rfl (by omega)
              have A3 := ar8_addr (i := i89) (m := 3) (j := 3) rfl (by omega)
              have A4 := ar8_addr (i := i89) (m := 4) (j := 4) rfl (by omega)
              have A5 := ar8_addr (i := i89) (m := 5) (j := 5) rfl (by omega)
              have A6 := ar8_addr (i := i89) (m := 6) (j := 6) rfl (by omega)
              have A7 := ar8_addr (i := i89) (m := 7) (j := 7) rfl (by omega)
              have AW := ar64_addr (i := i10) (m := (t : Int)) rfl ht64
              have AK := ar64_addr (i := i7) (m := (t : Int)) rfl ht64
              refine hR92 _ _ _ _ _ _ _ ?_
              rw [vbin_lss, wv_some, brB_dec]
              refine ⟨fun _ => ?_, fun h => absurd (by omega) h⟩
              simp -zeta only [A0, A1, A2, A3, A4, A5, A6, A7, AW, AK, vnil_ptr, wv_some, L0, L1, L2, L3, L4, L5, L6, L7, LW, LK, u32_and, u32_xor, u32_not, u32_add]
              refine escrowref02_rot.use (r := 6) (by omega) (by omega) (by omega) ⟨⟨LW, LK, L6, L5, L7, trivial⟩, ?_⟩
              refine escrowref02_rot.use (r := 11) (by omega) (by omega) (by omega) ⟨⟨LW, LK, L6, L5, L7, trivial⟩, ?_⟩
              rw [u32_xor, wv_some]
              refine escrowref02_rot.use (r := 25) (by omega) (by omega) (by omega) ⟨⟨LW, LK, L6, L5, L7, trivial⟩, ?_⟩
              simp -zeta only [AW, AK, wv_some, L0, L1, L2, L3, L4, L5, L6, L7, LW, LK, u32_and, u32_xor, u32_not, u32_add]
              refine escrowref02_rot.use (r := 2) (by omega) (by omega) (by omega) ⟨⟨L2, L1, L2, L1, trivial⟩, ?_⟩
              refine escrowref02_rot.use (r := 13) (by omega) (by omega) (by omega) ⟨⟨L2, L1, L2, L1, trivial⟩, ?_⟩
              rw [u32_xor, wv_some]
              refine escrowref02_rot.use (r := 22) (by omega) (by omega) (by omega) ⟨⟨L2, L1, L2, L1, trivial⟩, ?_⟩
              simp -zeta only [wv_some, L0, L1, L2, L3, L4, L5, L6, L7, u32_and, u32_xor, u32_not, u32_add]
              have hnext : (rnd q w [a, b, c, d, e, f, g, k]).length = 8 := rfl
              refine wv_of (v := .agg (u32s (rnd q w [a, b, c, d, e, f, g, k]))) rfl ?_
              rw [ar8_store hr8 hnext gr, wg_some, vbin_add, wv_some, i64_in (by omega) (by omega)]
              refine ih (t + 1) _ _ (by omega) (by omega) hnext ?_ (Sp.setRow h (j := 0) rfl _)
              rw [drop_cons' hq, drop_cons' hw, rnds] at he
              exact he
          exact loop3 64 0 s G91 rfl (by omega) hs8 hfin s91
        | succ n ih =>
          intro ws G' hn h16 h64 he hs
          have hl : ws.length < 64 := by omega
          have g3 := RowL.own (i := 0) hs rfl
          have ad : ∀ {m : Int} {j : Nat}, m = (j : Int) → j < 64 → viaddr T t_ar64_uint32 (.ptr i10 [] 0) (.int .i64 m) = some (.ptr i10 [j] j) := fun hm hj => arr_addr T_ar64_uint32 rfl T_uint32 rfl hm hj
          have ld : ∀ {j : Nat}, j < ws.length → vload T G' t_uint32 (.ptr i10 [j] j) = some (.int .u32 (ws.getD j 0 : Nat)) := fun hj => arr_get T_uint32 g3 (uni_filled _ _) (filled_get hj) rfl
          have l7 := ld (j := ws.length - 7) (by omega)
          have l16 := ld (j := ws.length - 16) (by omega)
          refine hR48 _ _ _ _ _ _ ?_
          rw [vbin_lss, wv_some, brB_dec]
          refine ⟨fun _ => ?_, fun h => absurd (by omega) h⟩
          rw [vbin_sub, wv_some, i64_in (by omega) (by omega), ad (j := ws.length - 15) (by omega) (by omega), wv_some, ld (by omega), wv_some]
          rw [vbin_sub, wv_some, i64_in (by omega) (by omega), ad (j := ws.length - 2) (by omega) (by omega), wv_some, ld (by omega), wv_some]
          rw [vbin_sub, wv_some, i64_in (by omega) (by omega), ad (j := ws.length - 16) (by omega) (by omega), wv_some, l16, wv_some]
          rw [u32_shr (k := 3) (n := 3) rfl (by omega), wv_some]
          rw [vbin_sub, wv_some, i64_in (by omega) (by omega), ad (j := ws.length - 7) (by omega) (by omega), wv_some, l7, wv_some]
          rw [u32_shr (k := 10) (n := 10) rfl (by omega), wv_some]
          refine escrowref02_rot.use (r := 7) (by omega) (by omega) (by omega) ⟨⟨l7, l16, trivial⟩, ?_⟩
          refine escrowref02_rot.use (r := 18) (by omega) (by omega) (by omega) ⟨⟨l7, l16, trivial⟩, ?_⟩
          rw [u32_xor, wv_some, u32_xor, wv_some, u32_add, wv_some, u32_add, wv_some]
          refine escrowref02_rot.use (r := 17) (by omega) (by omega) (by omega) ⟨⟨l7, l16, trivial⟩, ?_⟩
          refine escrowref02_rot.use (r := 19) (by omega) (by omega) (by omega) ⟨⟨l7, l16, trivial⟩, ?_⟩
          rw [u32_xor, wv_some, u32_xor, wv_some, u32_add, wv_some]
          rw [ad (j := ws.length) rfl hl, wv_some]
          refine wg_of (arr_set T_uint32 g3 (uni_filled _ _) (filled_next hl) rfl rfl rfl) ?_
          rw [vbin_add, wv_some, i64_in (by omega) (by omega), filled_set hl]
          have key := ih (ws ++ [nextW ws]) (G'.upd i10 (.own (.agg (filled 64 (ws ++ [nextW ws]))))) (by simp; omega) (by simp; omega) (by simp; omega) he (Sp.setRow hs (j := 0) rfl _)
          rw [List.length_append] at key
          exact key
      have := loop2 48 (words b 16) G' (by rw [length_words]) (by rw [length_words]; omega) (by rw [length_words]; omega) hW hs
      rwa [length_words] at this
    | succ n ih =>
      intro i G' hn hi hs
      have hi16 : i < 16 := by omega
      have hp' := hp.ch hs.ch
      refine hR12 _ _ _ _ _ _ _ _ ?_
      rw [vbin_lss, wv_some, brB_dec]
      refine ⟨fun _ => ?_, fun h => absurd (by omega) h⟩
      obtain ⟨a0, u0, w0⟩ := by_at (j := at_ + 4 * i) (m := (at_ : Int) + 4 * (i : Int)) hp' (by omega) (by omega)
      obtain ⟨a1, u1, w1⟩ := by_at (j := at_ + (4 * i + 1)) (m := (at_ : Int) + 4 * (i : Int) + 1) hp' (by omega) (by omega)
      obtain ⟨a2, u2, w2⟩ := by_at (j := at_ + (4 * i + 2)) (m := (at_ : Int) + 4 * (i : Int) + 2) hp' (by omega) (by omega)
      obtain ⟨a3, u3, w3⟩ := by_at (j := at_ + (4 * i + 3)) (m := (at_ : Int) + 4 * (i : Int) + 3) hp' (by omega) (by omega)
      rw [vbin_mul, wv_some, i64_in (by omega) (by omega), vbin_add, wv_some, i64_in (by omega) (by omega), u0, wv_some, w0, wv_some, u8v_to_u32, wv_some, u32_shl (k := 24) (n := 24) rfl (by omega), wv_some]
      rw [vbin_add, wv_some, i64_in (by omega) (by omega), u1, wv_some, w1, wv_some, u8v_to_u32, wv_some, u32_shl (k := 16) (n := 16) rfl (by omega), wv_some, u32_or, wv_some]
      rw [vbin_add, wv_some, i64_in (by omega) (by omega), u2, wv_some, w2, wv_some, u8v_to_u32, wv_some, u32_shl (k := 8) (n := 8) rfl (by omega), wv_some, u32_or, wv_some]
      rw [vbin_add, wv_some, i64_in (by omega) (by omega), u3, wv_some, w3, wv_some, u8v_to_u32, wv_some, u32_or, wv_some]
      rw [word4 (UInt8.toNat_lt _) (UInt8.toNat_lt _) (UInt8.toNat_lt _) (UInt8.toNat_lt _)]
      have hword : ((p[at_ + 4 * i].toNat * 256 + p[at_ + (4 * i + 1)].toNat) * 256 + p[at_ + (4 * i + 2)].toNat) * 256 + p[at_ + (4 * i + 3)].toNat = word b i := by
        have e4 : (b.drop (4 * i)).take 4 = [b[4 * i], b[4 * i + 1], b[4 * i + 2], b[4 * i + 3]] := by
          rw [List.drop_eq_getElem_cons (by omega), List.drop_eq_getElem_cons (by omega), List.drop_eq_getElem_cons (by omega), List.drop_eq_getElem_cons (by omega)]
          rfl
        rw [word, e4, hbj _ (by omega), hbj _ (by omega), hbj _ (by omega), hbj _ (by omega)]
        simp [num32]
      rw [hword]
      have hwl := length_words b i
      have ad : viaddr T t_ar64_uint32 (.ptr i10 [] 0) (.int .i64 (i : Int)) = some (.ptr i10 [i] i) := arr_addr T_ar64_uint32 rfl T_uint32 rfl rfl (by omega)
      have hnx := filled_next (n := 64) (ws := words b i) (by omega)
      have hst := filled_set (n := 64) (ws := words b i) (x := word b i) (by omega)
      rw [hwl] at hnx hst
      rw [ad, wv_some]
      refine wg_of (arr_set T_uint32 (RowL.own (i := 0) hs rfl) (uni_filled _ _) hnx rfl rfl rfl) ?_
      rw [vbin_add, wv_some, i64_in (by omega) (by omega), hst, ← words_succ]
      exact ih (i + 1) _ (by omega) (by omega) (Sp.setRow hs (j := 0) rfl _)
  exact loop1 16 0 G11 rfl (by omega) s11

end
end Go.Esc.M

/- Own work. Chapter 2: the document's sum, texts and keys. -/
set_option linter.unusedSimpArgs false
set_option linter.unusedVariables false
namespace Go.Esc.M
open Go Go.Esc

section
variable {G : Heap} {Q : AVal → Heap → Prop}

/-- A text behind a list of bytes. -/
theorem growStr {F0 : List AId} {G0 : Heap} {ps : List LP} {s : AVal} {l x : List UInt8} {i : Nat} {K : AVal → Heap → Prop} (hs : Sp F0 G0 ps G) (hi : ps[i]? = some (OwnL 1 s (l.map u8v))) (hl : l.length + x.length ≤ 140737488355328)
    (hK : ∀ s' G', Sp F0 G0 (ps.set i (OwnL 1 s' ((l ++ x).map u8v))) G' → K s' G') : aAppend T G t_sl_uint8 t_string s (.str x) K := by
  obtain ⟨F, ho, _⟩ := hs.get hi
  refine own_append (T := T) (e := t_uint8) (si := ti_sl_uint8) (ie := ti_uint8) (vs := x.map u8v) T_sl_uint8 rfl T_uint8 rfl (by decide) T_string (.inl rfl) ho (by simp [selems, ti_uint8, u8v, Function.comp_def]) (uni_u8 _) (okvs_u8 _) ?_ fun s' G2 ho2 hk => hK s' G2 ?_
  · simp only [List.length_map, ti_uint8]
    omega
  · refine hs.call hi (OwnL 1 s' ((l ++ x).map u8v)) fun F h k => ?_
    obtain ⟨_, rfl⟩ := h
    exact k _ _ ⟨by rw [List.map_append]; exact ho2, rfl⟩ hk.ch

theorem Sp.nilOwn {F0 : List AId} {G0 : Heap} {ps : List LP} (hs : Sp F0 G0 ps G) (n : Nat) : Sp F0 G0 (OwnL n .nilSlice [] :: ps) G := hs.new (p := OwnL n .nilSlice []) ⟨.inl ⟨rfl, rfl⟩, rfl⟩ (Ch.refl _ _)

set_option maxHeartbeats 1000000 in
theorem escrowref02_padded.use {s : List UInt8} (hl : s.length ≤ 140737488355000) (hQ : ∀ v G', Sp [] G [OwnL 1 v ((pad s).map u8v)] G' → Q v G') : ACalls P escrowref02_padded.n [.str s] G Q := by
  refine escrowref02_padded.sound ?_
  unfold escrowref02_padded.S
  refine growStr (i := 0) (l := []) (Sp.nilOwn (Sp.nil G) 1) rfl (by simp; omega) fun v1 G2 s2 => ?_
  refine grow1 (i := 0) (b := 128) s2 rfl (by simp; omega) fun v5 G6 s6 => ?_
  intro R7 hR7
  obtain ⟨zt, hzt⟩ : ∃ zt, zt = (119 - s.length % 64) % 64 := ⟨_, rfl⟩
  have loop1 : ∀ (n z : Nat) (pd : AVal) (G' : Heap), zt - z = n → z ≤ zt → Sp [] G [OwnL 1 pd ((s ++ (128 : UInt8) :: List.replicate z 0).map u8v)] G' → R7 [.str s, pd] G' := by
    intro n
    induction n with
    | zero =>
      intro z pd G' hn hz hs
      have : z = zt := by omega
      subst this
      obtain ⟨F, ho, _⟩ := hs.get (i := 0) rfl
      refine hR7 _ _ _ ?_
      have hlz : (s ++ (128 : UInt8) :: List.replicate z 0).length = s.length + (z + 1) := by simp
      rw [own_len ho, wv_some, hlz, vbin_rem _ _ _ _ _ (by decide), wv_some]
      have hm : ((s.length + (z + 1) : Nat) : Int).tmod 64 = 56 := by
        rw [Int.tmod_eq_emod_of_nonneg (by omega)]
        omega
      rw [hm, vbin_neq, wv_some, brB_ndec]
      refine ⟨fun h => absurd rfl h, fun _ => ?_⟩
      intro R18 hR18
      have loop2 : ∀ (m : Nat) (bs : List UInt8) (pd : AVal) (G' : Heap), m ≤ 8 → bs ++ bytesBE m (8 * s.length) = pad s → Sp [] G [OwnL 1 pd (bs.map u8v)] G' → R18 [.str s, pd, .int .i64 ((m : Int) - 1)] G' := by
        intro m
        induction m with
        | zero =>
          intro bs pd G' hm he hs
          rw [bytesBE, List.append_nil] at he
          subst he
          refine hR18 _ _ _ _ ?_
          rw [vbin_geq, wv_some, brB_dec]
          refine ⟨fun h => absurd h (by decide), fun _ => ?_⟩
          exact hQ _ _ hs
        | succ m ih =>
          intro bs pd G' hm he hs
          have ei : ((m + 1 : Nat) : Int) - 1 = (m : Int) := by omega
          rw [ei]
          refine hR18 _ _ _ _ ?_
          rw [vbin_geq, wv_some, brB_dec]
          refine ⟨fun _ => ?_, fun h => absurd (by omega) h⟩
          show wv (some (.int .i64 (s.length : Nat))) _
          rw [wv_some, vbin_mul, wv_some, i64_in (by omega) (by omega), vbin_mul, wv_some, i64_in (by omega) (by omega)]
          have e8 : (8 : Int) * (s.length : Nat) = ((8 * s.length : Nat) : Int) := by omega
          rw [e8, shr_i64 (m := m) (by omega) (by omega), wv_some, vconv_int T_int T_uint8 rfl, wv_some, wrapU8]
          have eb : (AVal.int .u8 (((8 * s.length / 2 ^ (8 * m) : Nat) : Int) % 256)) = u8v (UInt8.ofNat (8 * s.length / 2 ^ (8 * m))) := by rw [u8v_ofNat]; rfl
          rw [eb]
          have hbl' : bs.length + (m + 1) ≤ s.length + 72 := by
            have h1 := congrArg List.length he
            have h2 := length_pad s
            rw [List.length_append, length_bytesBE] at h1
            omega
          refine grow1 (i := 0) hs rfl (by omega) fun s' G9 s9 => ?_
          rw [vbin_sub, wv_some, i64_in (by omega) (by omega)]
          refine ih _ s' G9 (by omega) ?_ s9
          rw [bytesBE] at he
          rw [List.append_assoc, List.singleton_append]
          exact he
      exact loop2 8 (s ++ (128 : UInt8) :: List.replicate z 0) pd G' (by omega) (by rw [pad, ← hzt]; simp) hs
    | succ n ih =>
      intro z pd G' hn hz hs
      obtain ⟨F, ho, _⟩ := hs.get (i := 0) rfl
      refine hR7 _ _ _ ?_
      have hlz : (s ++ (128 : UInt8) :: List.replicate z 0).length = s.length + (z + 1) := by simp
      rw [own_len ho, wv_some, hlz, vbin_rem _ _ _ _ _ (by decide), wv_some]
      have hm : ((s.length + (z + 1) : Nat) : Int).tmod 64 ≠ 56 := by
        rw [Int.tmod_eq_emod_of_nonneg (by omega)]
        omega
      rw [vbin_neq, wv_some, brB_ndec]
      refine ⟨fun _ => ?_, fun h => absurd h hm⟩
      refine grow1 (i := 0) (b := 0) hs rfl (by rw [hlz]; omega) fun s' G9 s9 => ?_
      refine ih (z + 1) s' G9 (by omega) (by omega) ?_
      have : s ++ (128 : UInt8) :: List.replicate (z + 1) 0 = (s ++ (128 : UInt8) :: List.replicate z 0) ++ [0] := by rw [List.replicate_succ']; simp
      rw [this]
      exact s9
  exact loop1 zt 0 v5 G6 rfl (by omega) s6

set_option maxHeartbeats 1000000 in
theorem escrowref02_One.use {s : List UInt8} (hl : s.length ≤ 140737488355000) (hQ : ∀ G', Ch [] G [] G' → Q (.agg ((sha s).map u8v)) G') : ACalls P escrowref02_One.n [.str s] G Q := by
  refine escrowref02_One.sound ?_
  unfold escrowref02_One.S
  rw [z_hash]
  unfold sha at hQ
  obtain ⟨D, hD⟩ : ∃ D, chain ((pad s).length / 64) H256 (pad s) = D := ⟨_, rfl⟩
  rw [hD] at hQ
  have hD8 : D.length = 8 := by rw [← hD]; exact length_chain _ _ rfl
  have hp := length_pad s
  intro i1 f1
  have s1 := (Sp.nil G).row f1 (.agg ((List.replicate 32 (0 : UInt8)).map u8v))
  refine escrowref02_padded.use hl fun v3 G4 s4 => ?_
  obtain ⟨F4, ⟨h4, _⟩, c4⟩ := s4.out
  have s4 := s1.new (p := OwnL 1 v3 ((pad s).map u8v)) (F' := F4) ⟨h4, by assumption⟩ c4
  refine wv_of (v := .agg (u32s H256)) (by kernel_rfl) ?_
  rw [z8]
  intro i6 f6
  have s7 := s4.row f6 (.agg (u32s (List.replicate 8 0)))
  rw [ar8_store (by simp) (ws' := H256) rfl (RowL.own (i := 0) s7 rfl), wg_some]
  have s8 := Sp.setRow s7 (j := 0) rfl (.agg (u32s H256))
  intro R9 hR9
  have loop : ∀ (n at_ : Nat) (h : List Nat) (G' : Heap), (pad s).length = at_ + 64 * n → h.length = 8 → chain n h ((pad s).drop at_) = D →
      Sp [] G [RowL i6 (.agg (u32s h)), OwnL 1 v3 ((pad s).map u8v), RowL i1 (.agg ((List.replicate 32 (0 : UInt8)).map u8v))] G' → R9 [.ptr i1 [] 0, v3, .ptr i6 [] 0, .int .i64 (at_ : Int)] G' := by
    intro n
    induction n with
    | zero =>
      intro at_ h G' hm hh he hs
      have he : h = D := he
      subst he
      obtain ⟨F, ho, _⟩ := hs.get (i := 1) rfl
      refine hR9 _ _ _ _ _ ?_
      rw [own_len ho, wv_some, vbin_lss, wv_some, brB_dec]
      refine ⟨fun h => absurd h (by omega), fun _ => ?_⟩
      intro i22 f22
      have s23 := hs.row f22 (.agg ((List.replicate 32 (0 : UInt8)).map u8v))
      intro R24 hR24
      refine digest_loop (p := 0) (q := 1) (x0 := .ptr i1 [] 0) hh (by simp) (by decide) (ps := [RowL i22 (.agg ((List.replicate 32 (0 : UInt8)).map u8v)), RowL i6 (.agg (u32s h)), OwnL 1 v3 ((pad s).map u8v), RowL i1 (.agg ((List.replicate 32 (0 : UInt8)).map u8v))]) rfl R24 _ hR24 s23 fun G9 h9 => ?_
      have hz := length_digest h
      rw [load_hash hz (RowL.own (i := 0) h9 rfl), wv_some, store_hash (by simp) hz (RowL.own (i := 3) h9 rfl), wg_some, load_hash hz (Heap.upd_self _ _ _), wv_some]
      exact hQ _ (Sp.setRow h9 (j := 3) rfl (.agg ((digest h).map u8v))).ch
    | succ n ih =>
      intro at_ h G' hm hh he hs
      obtain ⟨F, ho, _⟩ := hs.get (i := 1) rfl
      refine hR9 _ _ _ _ _ ?_
      rw [own_len ho, wv_some, vbin_lss, wv_some, brB_dec]
      refine ⟨fun _ => ?_, fun h => absurd (by omega) h⟩
      rw [ar8_load hh (RowL.own (i := 0) hs rfl), wv_some]
      refine escrowref02_block.use hh ho.is (by omega) (by omega) fun G9 c9 => ?_
      have s9 := hs.tmp c9
      have hc8 : (compress h (((pad s).drop at_).take 64)).length = 8 := length_compress hh
      rw [ar8_store hh hc8 (RowL.own (i := 0) s9 rfl), wg_some, vbin_add, wv_some, i64_in (by omega) (by omega)]
      refine ih (at_ + 64) _ _ (by omega) hc8 ?_ (Sp.setRow s9 (j := 0) rfl _)
      rw [← List.drop_drop]
      exact he
  exact loop ((pad s).length / 64) 0 H256 _ (by omega) rfl hD s8

theorem escrowref02_Sum.use {v : AVal} {xs : List (List UInt8)} (hl : IsSl 1 G v (xs.map .str)) (hN : xs.length ≤ 9223372036854775807) (hlen : xs.flatten.length ≤ 140737488355000) (hQ : ∀ G', Ch [] G [] G' → Q (.agg ((sha xs.flatten).map u8v)) G') : ACalls P escrowref02_Sum.n [v] G Q := by
  refine escrowref02_Sum.sound ?_
  unfold escrowref02_Sum.S
  rw [z_hash]
  intro i1 f1
  have s1 := (Sp.nil G).row f1 (.agg ((List.replicate 32 (0 : UInt8)).map u8v))
  revert s1
  generalize Heap.upd _ i1 _ = G2
  intro s1 R hR
  have hl1 := hl.ch s1.ch
  have hle : ∀ j, (xs.take j).flatten.length ≤ xs.flatten.length := fun j => by
    conv => rhs; rw [← List.take_append_drop j xs, List.flatten_append, List.length_append]
    omega
  have loop : ∀ (n j : Nat), xs.length - j = n → j ≤ xs.length → R [v, .ptr i1 [] 0, .str (xs.take j).flatten, .int .i64 (j : Int)] G2 := by
    intro n
    induction n with
    | zero =>
      intro j hn hj
      have : j = xs.length := by omega
      subst this
      refine hR _ _ _ _ _ ?_
      rw [hl1.len (i := ti_sl_string) T_sl_string rfl, List.length_map, wv_some, vbin_lss, wv_some, brB_dec]
      refine ⟨fun h => absurd h (by omega), fun _ => ?_⟩
      rw [List.take_length]
      refine escrowref02_One.use hlen fun G16 c16 => ?_
      have s16 := s1.tmp c16
      refine wg_of (store_hash (by simp) (length_sha _) (RowL.own (i := 0) s16 rfl)) ?_
      have s17 := Sp.setRow (j := 0) s16 rfl (.agg ((sha xs.flatten).map u8v))
      refine wv_of (load_hash (length_sha _) (RowL.own (i := 0) s17 rfl)) ?_
      exact hQ _ s17.ch
    | succ n ih =>
      intro j hn hj
      obtain ⟨x, hx⟩ : ∃ x, xs[j]? = some x := ⟨_, List.getElem?_eq_getElem (by omega)⟩
      obtain ⟨a, ha, hla⟩ := hl1.at_ (k := .i64) (j := j) (i := ti_sl_string) (ie := ti_string) (T := T) (t := t_sl_string) (e := t_string) (c := .str x) T_sl_string rfl T_string (by rw [List.getElem?_map, hx]; rfl) rfl
      have et : (xs.take (j + 1)).flatten = (xs.take j).flatten ++ x := by rw [List.take_add_one, hx]; simp
      have h1 := hle (j + 1)
      rw [et, List.length_append] at h1
      refine hR _ _ _ _ _ ?_
      rw [hl1.len (i := ti_sl_string) T_sl_string rfl, List.length_map, wv_some, vbin_lss, wv_some, brB_dec]
      refine ⟨fun _ => ?_, fun h => absurd (by omega) h⟩
      rw [ha, wv_some, hla, wv_some, vbin_sadd _ _ (by omega), wv_some, vbin_add, wv_some, i64_in (by omega) (by omega), ← et]
      exact ih (j + 1) (by omega) (by omega)
  exact loop _ 0 rfl (by omega)

end
end Go.Esc.M
