/- Own work. Chapter 2: the sum, in the program: blocks. -/
import Derived.Test.YtjfnbjpggfjhnaaLHa
set_option linter.unusedSimpArgs false
set_option linter.unusedVariables false
namespace Go.Esc

theorem len8 {r : List Nat} (h : r.length = 8) : ∃ a b c d e f g k, r = [a, b, c, d, e, f, g, k] := by
  match r, h with
  | [a, b, c, d, e, f, g, k], _ => exact ⟨a, b, c, d, e, f, g, k, rfl⟩

theorem length_rnd (k w : Nat) {r : List Nat} (h : r.length = 8) : (rnd k w r).length = 8 := by
  obtain ⟨a, b, c, d, e, f, g, k, rfl⟩ := len8 h
  rfl
theorem length_rnds : ∀ (ks ws r : List Nat), r.length = 8 → (rnds ks ws r).length = 8
  | [], _, r, h => by simpa [rnds] using h
  | k :: ks, [], r, h => by simpa [rnds] using h
  | k :: ks, w :: ws, r, h => by rw [rnds]; exact length_rnds ks ws _ (length_rnd k w h)
theorem length_compress {h : List Nat} {b : List UInt8} (hh : h.length = 8) : (compress h b).length = 8 := by
  unfold compress
  rw [List.length_zipWith, length_rnds _ _ _ hh, hh]; rfl
theorem length_K : K256.length = 64 := by decide

theorem drop_cons' {α : Type} {l : List α} {j : Nat} {x : α} (h : l[j]? = some x) : l.drop j = x :: l.drop (j + 1) := by
  obtain ⟨hl, rfl⟩ := List.getElem?_eq_some_iff.1 h
  exact List.drop_eq_getElem_cons hl

theorem vnil_ptr (i : AId) (p : List Nat) (o : Nat) : vnil (.ptr i p o) = some (.ptr i p o) := rfl

end Go.Esc
namespace Go.Esc.M
open Go Go.Esc

section
variable {G : Heap} {Q : AVal → Heap → Prop}

theorem ar8_addr {i : AId} {m : Int} {j : Nat} (hm : m = (j : Int)) (hj : j < 8) : viaddr T t_ar8_uint32 (.ptr i [] 0) (.int .i64 m) = some (.ptr i [j] j) := arr_addr T_ar8_uint32 rfl T_uint32 rfl hm hj
theorem ar64_addr {i : AId} {m : Int} {j : Nat} (hm : m = (j : Int)) (hj : j < 64) : viaddr T t_ar64_uint32 (.ptr i [] 0) (.int .i64 m) = some (.ptr i [j] j) := arr_addr T_ar64_uint32 rfl T_uint32 rfl hm hj
theorem words_load {i : AId} {ws : List Nat} {j : Nat} {x : Nat} (hg : G i = some (.own (.agg (u32s ws)))) (hj : ws[j]? = some x) : vload T G t_uint32 (.ptr i [j] j) = some (.int .u32 (x : Nat)) :=
  arr_get T_uint32 hg (uni_u32s _) (by rw [u32s, List.getElem?_map, hj]; rfl) rfl
theorem words_store {i : AId} {ws : List Nat} {j : Nat} (x : Nat) (hg : G i = some (.own (.agg (u32s ws)))) (hj : j < ws.length) : vstore T G t_uint32 (.ptr i [j] j) (.int .u32 (x : Nat)) = some (G.upd i (.own (.agg (u32s (ws.set j x))))) := by
  have := arr_set (c := .int .u32 (x : Nat)) T_uint32 hg (uni_u32s _) (u32s_get hj) rfl rfl rfl
  rw [this, u32s_set]
theorem ar8_load {i : AId} {ws : List Nat} (hl : ws.length = 8) (hg : G i = some (.own (.agg (u32s ws)))) : vload T G t_ar8_uint32 (.ptr i [] 0) = some (.agg (u32s ws)) := arr_whole T_ar8_uint32 rfl (by rw [length_u32s, hl]; rfl) hg (uni_u32s _)
theorem ar8_store {i : AId} {ws ws' : List Nat} (hl : ws.length = 8) (hl' : ws'.length = 8) (hg : G i = some (.own (.agg (u32s ws)))) : vstore T G t_ar8_uint32 (.ptr i [] 0) (.agg (u32s ws')) = some (G.upd i (.own (.agg (u32s ws')))) :=
  arr_put T_ar8_uint32 rfl (by rw [length_u32s, hl']; rfl) (by rw [length_u32s, length_u32s, hl, hl']) hg (uni_u32s _) (uni_u32s _) (okvs_u32s _)
theorem ar64_load {i : AId} {ws : List Nat} (hl : ws.length = 64) (hg : G i = some (.own (.agg (u32s ws)))) : vload T G t_ar64_uint32 (.ptr i [] 0) = some (.agg (u32s ws)) := arr_whole T_ar64_uint32 rfl (by rw [length_u32s, hl]; rfl) hg (uni_u32s _)
theorem ar64_store {i : AId} {ws ws' : List Nat} (hl : ws.length = 64) (hl' : ws'.length = 64) (hg : G i = some (.own (.agg (u32s ws)))) : vstore T G t_ar64_uint32 (.ptr i [] 0) (.agg (u32s ws')) = some (G.upd i (.own (.agg (u32s ws')))) :=
  arr_put T_ar64_uint32 rfl (by rw [length_u32s, hl']; rfl) (by rw [length_u32s, length_u32s, hl, hl']) hg (uni_u32s _) (uni_u32s _) (okvs_u32s _)
theorem z8 : z_ar8_uint32 = .agg (u32s (List.replicate 8 0)) := rfl
theorem z64 : z_ar64_uint32 = .agg (u32s (List.replicate 64 0)) := rfl

/-- The words of two lists together, one by one. -/
def addUp (r s : List Nat) (j : Nat) : List Nat := (List.zipWith add32 r s).take j ++ r.drop j
theorem addUp_zero (r s : List Nat) : addUp r s 0 = r := by simp [addUp]
theorem addUp_full {r s : List Nat} (h : r.length = s.length) : addUp r s r.length = List.zipWith add32 r s := by
  unfold addUp
  rw [List.take_of_length_le (by simp; omega), List.drop_length, List.append_nil]
theorem length_addUp {r s : List Nat} {j : Nat} (h : r.length = s.length) (hj : j ≤ r.length) : (addUp r s j).length = r.length := by
  simp [addUp]; omega
theorem addUp_get {r s : List Nat} {j : Nat} (h : r.length = s.length) (hj : j < r.length) : (addUp r s j)[j]? = some r[j] := by
  unfold addUp
  rw [List.getElem?_append_right (by simp; omega)]
  have : j - ((List.zipWith add32 r s).take j).length = 0 := by simp; omega
  rw [this, List.getElem?_drop, Nat.add_zero, List.getElem?_eq_getElem hj]
theorem addUp_set {r s : List Nat} {j : Nat} (h : r.length = s.length) (hj : j < r.length) (hs : j < s.length) : (addUp r s j).set j (add32 r[j] s[j]) = addUp r s (j + 1) := by
  unfold addUp
  have hl : ((List.zipWith add32 r s).take j).length = j := by simp; omega
  rw [List.set_append_right _ _ (by omega), hl, Nat.sub_self, List.drop_eq_getElem_cons hj, List.set_cons_zero, List.take_add_one, List.getElem?_zipWith, List.getElem?_eq_getElem hj, List.getElem?_eq_getElem hs]
  simp

/-- The last loop of both: a state's words added. -/
theorem add_loop {F0 : List AId} {G0 : Heap} {s r : List Nat} {is ir : AId} {x3 : AVal} {G' : Heap} {ps : List LP} {p q : Nat} (hs8 : s.length = 8) (hr8 : r.length = 8) (hp : p < ps.length) (hpq : p ≠ q) (hq : ps[q]? = some (RowL is (.agg (u32s s)))) (R : List AVal → Heap → Prop) (E : AVal → AVal → AVal → Heap → Prop)
    (hR : ∀ (x93 x94 x95 x96 : AVal) (G92 : Heap), (wv (vbin T .lss t_int x96 (.int .i64 8)) fun v97 => brB (some v97)
      (wv (viaddr T t_ar8_uint32 x95 x96) fun v98 => wv (vload T G92 t_uint32 v98) fun v99 => wv (viaddr T t_ar8_uint32 x93 x96) fun v100 => wv (vload T G92 t_uint32 v100) fun v101 => wv (vbin T .add t_uint32 v99 v101) fun v102 => wv (viaddr T t_ar8_uint32 x95 x96) fun v103 => wg (vstore T G92 t_uint32 v103 v102) fun G104 => wv (vbin T .add t_int x96 (.int .i64 1)) fun v105 => R [x93, x94, x95, v105] G104)
      (E x93 x94 x95 G92)) → R [x93, x94, x95, x96] G92)
    (hsp : Sp F0 G0 (ps.set p (RowL ir (.agg (u32s r)))) G') (hfin : ∀ G', Sp F0 G0 (ps.set p (RowL ir (.agg (u32s (List.zipWith add32 r s))))) G' → E (.ptr is [] 0) x3 (.ptr ir [] 0) G') :
    R [.ptr is [] 0, x3, .ptr ir [] 0, .int .i64 0] G' := by
  have loop : ∀ (n j : Nat) (G' : Heap), 8 - j = n → j ≤ 8 → Sp F0 G0 (ps.set p (RowL ir (.agg (u32s (addUp r s j))))) G' → R [.ptr is [] 0, x3, .ptr ir [] 0, .int .i64 (j : Int)] G' := by
    intro n
    induction n with
    | zero =>
      intro j G' hn hj h
      have : j = 8 := by omega
      subst this
      refine hR _ _ _ _ _ ?_
      rw [vbin_lss, wv_some, brB_dec]
      refine ⟨fun h => absurd h (by decide), fun _ => hfin _ ?_⟩
      have e := addUp_full (r := r) (s := s) (by omega)
      rw [hr8] at e
      rw [← e]
      exact h
    | succ n ih =>
      intro j G' hn hj h
      have hjr : j < r.length := by omega
      have hjs : j < s.length := by omega
      have g1 := RowL.own (i := p) h (List.getElem?_set_self hp)
      have g2 := RowL.own (i := q) h (by rw [List.getElem?_set_ne hpq]; exact hq)
      refine hR _ _ _ _ _ ?_
      rw [vbin_lss, wv_some, brB_dec]
      refine ⟨fun _ => ?_, fun h => absurd (by omega) h⟩
      rw [ar8_addr rfl (by omega), wv_some, words_load g1 (addUp_get (by omega) hjr), wv_some, ar8_addr rfl (by omega), wv_some, words_load g2 (List.getElem?_eq_getElem hjs), wv_some, u32_add, wv_some, wv_some,
        words_store _ g1 (by rw [length_addUp (by omega) (by omega)]; exact hjr), wg_some, vbin_add, wv_some, i64_in (by omega) (by omega), addUp_set (by omega) hjr hjs]
      refine ih (j + 1) _ (by omega) (by omega) ?_
      have := Sp.setRow h (j := p) (List.getElem?_set_self hp) (.agg (u32s (addUp r s (j + 1))))
      rwa [List.set_set] at this
  exact loop 8 0 G' rfl (by omega) (by rw [addUp_zero]; exact hsp)

set_option maxHeartbeats 2000000 in
theorem hash_turned.use {s : List Nat} {b : List UInt8} {ic : AId} (hs8 : s.length = 8) (hb : b.length = 64) (hc : G ic = some (.own (.agg (u32s K256)))) (hQ : ∀ G', Ch [] G [] G' → Q (.agg (u32s (compress s b))) G') :
    ACalls P hash_turned.n [.agg (u32s s), .str b, .ptr ic [] 0] G Q := by
  refine hash_turned.sound ?_
  unfold hash_turned.S
  rw [z8, z64]
  unfold compress at hQ
  obtain ⟨W, hW⟩ : ∃ W, sched 48 (words b 16) = W := ⟨_, rfl⟩
  have hW64 : W.length = 64 := by rw [← hW, length_sched, length_words]
  rw [hW] at hQ
  obtain ⟨fin, hfin⟩ : ∃ f, rnds K256 W s = f := ⟨_, rfl⟩
  rw [hfin] at hQ
  intro i1 f1
  have s1 := (Sp.nil G).row f1 (.agg (u32s s))
  intro i3 f3
  have s3 := s1.row f3 (.agg (u32s (List.replicate 8 0)))
  rw [ar8_load hs8 (RowL.own (i := 1) s3 rfl), wv_some]
  refine hash_schedule.use hb fun G7 c7 => ?_
  rw [hW]
  have s7 := s3.tmp c7
  refine ⟨⟨ar8_load hs8 (RowL.own (i := 1) s7 rfl), trivial⟩, ?_⟩
  intro i8 f8
  have s8 := s7.row f8 (.agg (u32s (List.replicate 64 0)))
  intro i10 f10
  have s10 := s8.row f10 (.agg (u32s (List.replicate 8 0)))
  rw [ar64_store (by simp) hW64 (RowL.own (i := 1) s10 rfl), wg_some]
  have s12 := Sp.setRow s10 (j := 1) rfl (.agg (u32s W))
  refine ⟨⟨ar8_load hs8 (RowL.own (i := 3) s12 rfl), trivial⟩, ?_⟩
  rw [ar8_store (by simp) hs8 (RowL.own (i := 0) s12 rfl), wg_some]
  have s13 : Sp [] G [RowL i10 (.agg (u32s s)), RowL i8 (.agg (u32s W)), RowL i3 (.agg (u32s (List.replicate 8 0))), RowL i1 (.agg (u32s s))] _ := Sp.setRow s12 (j := 0) rfl (.agg (u32s s))
  revert s13
  generalize Heap.upd _ i10 (.own (.agg (u32s s))) = G13
  intro s13 R14 hR14
  have loop : ∀ (n t : Nat) (r : List Nat) (G' : Heap), 64 - t = n → t ≤ 64 → r.length = 8 → rnds (K256.drop t) (W.drop t) r = fin → Sp [] G [RowL i10 (.agg (u32s r)), RowL i8 (.agg (u32s W)), RowL i3 (.agg (u32s (List.replicate 8 0))), RowL i1 (.agg (u32s s))] G' →
      R14 [.ptr ic [] 0, .ptr i1 [] 0, .ptr i3 [] 0, .ptr i8 [] 0, .ptr i10 [] 0, .int .i64 (t : Int)] G' := by
    intro n
    induction n with
    | zero =>
      intro t r G' hn ht hr8 he h
      have : t = 64 := by omega
      subst this
      refine hR14 _ _ _ _ _ _ _ ?_
      rw [vbin_lss, wv_some, brB_dec]
      refine ⟨fun h => absurd h (by decide), fun _ => ?_⟩
      have he : r = fin := by
        rw [List.drop_of_length_le (by rw [length_K]; omega)] at he
        exact he
      subst he
      intro R91 hR91
      refine add_loop (p := 0) (q := 3) (x3 := .ptr i3 [] 0) hs8 hr8 (by simp) (by decide) (ps := [RowL i10 (.agg (u32s r)), RowL i8 (.agg (u32s W)), RowL i3 (.agg (u32s (List.replicate 8 0))), RowL i1 (.agg (u32s s))]) rfl R91 _ hR91 h fun G9 h9 => ?_
      have hz : (List.zipWith add32 r s).length = 8 := by rw [List.length_zipWith, hr8, hs8]; rfl
      rw [ar8_load hz (RowL.own (i := 0) h9 rfl), wv_some, ar8_store (by simp) hz (RowL.own (i := 2) h9 rfl), wg_some, ar8_load hz (Heap.upd_self _ _ _), wv_some]
      exact hQ _ (Sp.setRow h9 (j := 2) rfl (.agg (u32s (List.zipWith add32 r s)))).ch
    | succ n ih =>
      intro t r G' hn ht hr8 he h
      obtain ⟨a, b, c, d, e, f, g, k, rfl⟩ := len8 hr8
      have ht64 : t < 64 := by omega
      obtain ⟨w, hw⟩ : ∃ w, W[t]? = some w := ⟨_, List.getElem?_eq_getElem (by omega)⟩
      obtain ⟨q, hq⟩ : ∃ q, K256[t]? = some q := ⟨_, List.getElem?_eq_getElem (by rw [length_K]; omega)⟩
      have gr := RowL.own (i := 0) h rfl
      have gw := RowL.own (i := 1) h rfl
      have gc : G' ic = some (.own (.agg (u32s K256))) := h.ch.others _ _ hc (by simp)
      have L0 := words_load (j := 0) gr rfl
      have L1 := words_load (j := 1) gr rfl
      have L2 := words_load (j := 2) gr rfl
      have L3 := words_load (j := 3) gr rfl
      have L4 := words_load (j := 4) gr rfl
      have L5 := words_load (j := 5) gr rfl
      have L6 := words_load (j := 6) gr rfl
      have L7 := words_load (j := 7) gr rfl
      have LW := words_load gw hw
      have LK := words_load gc hq
      have A0 := ar8_addr (i := i10) (m := 0) (j := 0) rfl (by omega)
      have A1 := ar8_addr (i := i10) (m := 1) (j := 1) rfl (by omega)
      have A2 := ar8_addr (i := i10) (m := 2) (j := 2) rfl (by omega)
      have A3 := ar8_addr (i := i10) (m := 3) (j := 3) rfl (by omega)
      have A4 := ar8_addr (i := i10) (m := 4) (j := 4) rfl (by omega)
      have A5 := ar8_addr (i := i10) (m := 5) (j := 5) rfl (by omega)
      have A6 := ar8_addr (i := i10) (m := 6) (j := 6) rfl (by omega)
      have A7 := ar8_addr (i := i10) (m := 7) (j := 7) rfl (by omega)
      have AW := ar64_addr (i := i8) (m := (t : Int)) rfl ht64
      have AK := ar64_addr (i := ic) (m := (t : Int)) rfl ht64
      refine hR14 _ _ _ _ _ _ _ ?_
      rw [vbin_lss, wv_some, brB_dec]
      refine ⟨fun _ => ?_, fun h => absurd (by omega) h⟩
      simp -zeta only [A0, A1, A2, A3, A4, A5, A6, A7, AW, AK, vnil_ptr, wv_some, L0, L1, L2, L3, L4, L5, L6, L7, LW, LK, u32_and, u32_xor, u32_not, u32_add]
      refine bits_RotateLeft32.use (r := 6) (by omega) (by omega) (by omega) ⟨⟨LW, LK, L6, L5, L7, trivial⟩, ?_⟩
      refine bits_RotateLeft32.use (r := 11) (by omega) (by omega) (by omega) ⟨⟨LW, LK, L6, L5, L7, trivial⟩, ?_⟩
      rw [u32_xor, wv_some]
      refine bits_RotateLeft32.use (r := 25) (by omega) (by omega) (by omega) ⟨⟨LW, LK, L6, L5, L7, trivial⟩, ?_⟩
      simp -zeta only [AW, AK, wv_some, L0, L1, L2, L3, L4, L5, L6, L7, LW, LK, u32_and, u32_xor, u32_not, u32_add]
      refine bits_RotateLeft32.use (r := 2) (by omega) (by omega) (by omega) ⟨⟨L2, L1, L2, L1, trivial⟩, ?_⟩
      refine bits_RotateLeft32.use (r := 13) (by omega) (by omega) (by omega) ⟨⟨L2, L1, L2, L1, trivial⟩, ?_⟩
      rw [u32_xor, wv_some]
      refine bits_RotateLeft32.use (r := 22) (by omega) (by omega) (by omega) ⟨⟨L2, L1, L2, L1, trivial⟩, ?_⟩
      simp -zeta only [wv_some, L0, L1, L2, L3, L4, L5, L6, L7, u32_and, u32_xor, u32_not, u32_add]
      have hnext : (rnd q w [a, b, c, d, e, f, g, k]).length = 8 := rfl
      refine wv_of (v := .agg (u32s (rnd q w [a, b, c, d, e, f, g, k]))) rfl ?_
      rw [ar8_store hr8 hnext gr, wg_some, vbin_add, wv_some, i64_in (by omega) (by omega)]
      refine ih (t + 1) _ _ (by omega) (by omega) hnext ?_ (Sp.setRow h (j := 0) rfl _)
      rw [drop_cons' hq, drop_cons' hw, rnds] at he
      exact he
  exact loop 64 0 s G13 rfl (by omega) hs8 hfin s13

end
end Go.Esc.M
