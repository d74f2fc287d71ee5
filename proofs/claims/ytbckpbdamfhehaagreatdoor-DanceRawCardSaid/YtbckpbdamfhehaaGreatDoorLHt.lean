import Derived.Test.YtbckpbdamfhehaaGreatDoorLSh
import Derived.Test.YtbckpbdamfhehaaGreatDoorLib
/- Own work. Chapter 2: the sum, in the program. -/
set_option linter.unusedSimpArgs false
set_option linter.unusedVariables false
set_option maxRecDepth 20000
namespace Go.Esc


/-! Lists of words. -/
theorem getD_some {l : List Nat} {j : Nat} (h : j < l.length) : l[j]? = some (l.getD j 0) := by
  rw [List.getD_eq_getElem?_getD, List.getElem?_eq_getElem h]; rfl

theorem num32_snoc : ∀ (l : List UInt8) (v : Nat) (b : UInt8), num32 v (l ++ [b]) = num32 v l * 256 + b.toNat
  | [], v, b => rfl
  | c :: l, v, b => by rw [List.cons_append, num32, num32, num32_snoc l]
theorem num32_lt : ∀ (l : List UInt8) (v : Nat), num32 v l < (v + 1) * 256 ^ l.length
  | [], v => by simp [num32]
  | b :: l, v => by
    have h := num32_lt l (v * 256 + b.toNat)
    have hb : b.toNat < 256 := b.toNat_lt
    rw [num32, List.length_cons, Nat.pow_succ]
    refine Nat.lt_of_lt_of_le h ?_
    rw [Nat.mul_comm (256 ^ l.length) 256, ← Nat.mul_assoc]
    exact Nat.mul_le_mul_right _ (by omega)

theorem or_low (k n b : Nat) (hb : b < 2 ^ k) (hn : 2 ^ k * n + b < 4294967296) : or32 (shl32 k n) b = 2 ^ k * n + b := by
  unfold or32 shl32
  rw [Nat.mod_eq_of_lt (a := 2 ^ k * n) (by omega), ← Nat.two_pow_add_eq_or_of_lt hb, Nat.mod_eq_of_lt hn]

theorem length_sched : ∀ (n : Nat) (ws : List Nat), (sched n ws).length = ws.length + n
  | 0, ws => rfl
  | n + 1, ws => by rw [sched, length_sched n]; simp; omega
theorem length_words (b : List UInt8) (n : Nat) : (words b n).length = n := by simp [words]
theorem words_succ (b : List UInt8) (n : Nat) : words b (n + 1) = words b n ++ [word b n] := by simp [words, List.range_succ]

theorem set_fill {α : Type} {ws : List α} {z x : α} {n : Nat} (hn : ws.length < n) : (ws ++ List.replicate (n - ws.length) z).set ws.length x = (ws ++ [x]) ++ List.replicate (n - (ws ++ [x]).length) z := by
  rw [List.set_append_right _ _ (Nat.le_refl _), Nat.sub_self, show n - ws.length = (n - (ws ++ [x]).length) + 1 by simp; omega, List.replicate_succ, List.set_cons_zero, List.append_assoc]
  rfl

/-- Words in a row that is filled up with zeros. -/
def filled (n : Nat) (ws : List Nat) : List AVal := u32s ws ++ List.replicate (n - ws.length) (.int .u32 ((0 : Nat) : Int))
theorem uni_filled (n : Nat) (ws : List Nat) : uni 1 (filled n ws) = true := by
  unfold filled
  exact uni_append (uni_u32s ws) (uni_replicate rfl)
theorem length_filled {n : Nat} {ws : List Nat} (h : ws.length ≤ n) : (filled n ws).length = n := by simp [filled, length_u32s]; omega
theorem filled_full {n : Nat} {ws : List Nat} (h : ws.length = n) : filled n ws = u32s ws := by simp [filled, h]
theorem filled_get {n : Nat} {ws : List Nat} {j : Nat} (h : j < ws.length) : (filled n ws)[j]? = some (.int .u32 (ws.getD j 0 : Nat)) := by
  unfold filled
  rw [List.getElem?_append_left (by rw [length_u32s]; exact h), u32s, List.getElem?_map, getD_some h]
  rfl
theorem filled_next {n : Nat} {ws : List Nat} (h : ws.length < n) : (filled n ws)[ws.length]? = some (.int .u32 ((0 : Nat) : Int)) := by
  unfold filled
  rw [List.getElem?_append_right (by rw [length_u32s]; omega), length_u32s, Nat.sub_self, show n - ws.length = (n - ws.length - 1) + 1 by omega, List.replicate_succ]
  rfl
theorem filled_set {n : Nat} {ws : List Nat} {x : Nat} (h : ws.length < n) : (filled n ws).set ws.length (.int .u32 (x : Int)) = filled n (ws ++ [x]) := by
  unfold filled
  have := set_fill (ws := u32s ws) (z := AVal.int .u32 ((0 : Nat) : Int)) (x := .int .u32 (x : Int)) (n := n) (by rw [length_u32s]; exact h)
  rw [length_u32s] at this
  rw [this]
  simp [u32s]
theorem u32s_set (ws : List Nat) (j x : Nat) : (u32s ws).set j (.int .u32 (x : Int)) = u32s (ws.set j x) := by simp [u32s, List.map_set]
theorem u32s_get {ws : List Nat} {j : Nat} (h : j < ws.length) : (u32s ws)[j]? = some (.int .u32 (ws.getD j 0 : Nat)) := by
  rw [u32s, List.getElem?_map, getD_some h]
  rfl

end Go.Esc
namespace Go.Esc.M
open Go Go.Esc

theorem u8_to_u32 {G : Heap} (b : UInt8) : vconv T G t_uint8 t_uint32 (.int .u8 b.toNat) = some (.int .u32 (b.toNat : Nat)) := by
  have : b.toNat < 256 := b.toNat_lt
  rw [vconv_int T_uint8 T_uint32 rfl, u32_in (by omega) (by omega)]
theorem str_at {l : List UInt8} {j : Nat} {m : Int} (hm : m = (j : Int)) (h : j < l.length) : vindex T t_string (.str l) (.int .i64 m) = some (.int .u8 l[j].toNat) := by
  subst hm
  simp [vindex, T_string, ti_string, h]
theorem str_cut {l : List UInt8} {n : Int} (h0 : 0 ≤ n) (h : n ≤ l.length) : vslice T t_string (.str l) none (some (.int .i64 n)) none = some (.str (l.take n.toNat)) := by
  have e : n = (n.toNat : Int) := by omega
  have hb := sbounds_high (len := l.length) (cap := l.length) (m := n.toNat) (k := .i64) (by omega)
  rw [← e] at hb
  simp [vslice, T_string, ti_string, hb]
theorem str_rest {l : List UInt8} {n : Int} (h0 : 0 ≤ n) (h : n ≤ l.length) : vslice T t_string (.str l) (some (.int .i64 n)) none none = some (.str (l.drop n.toNat)) := by
  have e : n = (n.toNat : Int) := by omega
  have hb := sbounds_low (len := l.length) (cap := l.length) (m := n.toNat) (k := .i64) (by omega) (by omega)
  rw [← e] at hb
  simp only [vslice, T_string, ti_string, hb]
  simp
  exact List.take_of_length_le (by simp)

section
variable {G : Heap} {Q : AVal → Heap → Prop}

theorem bits_RotateLeft32.use {a r : Nat} {m : Int} (hm : m = -(r : Int)) (h1 : 1 ≤ r) (h2 : r ≤ 31) (hQ : Q (.int .u32 (rotr r a : Nat)) G) : ACalls P bits_RotateLeft32.n [.int .u32 (a : Int), .int .i64 m] G Q := by
  refine bits_RotateLeft32.sound ?_
  unfold bits_RotateLeft32.S
  have e1 : IntKind.u64.wrap m = ((18446744073709551616 - r : Nat) : Int) := by rw [wrapU64]; omega
  have e2 : vbin T .and t_uint (.int .u64 ((18446744073709551616 - r : Nat) : Int)) (.int .u64 31) = some (.int .u64 ((32 - r : Nat) : Int)) := by
    have hb : IntKind.u64.bits = 64 := rfl
    have h3 : (BitVec.ofInt IntKind.u64.bits (31 : Int)).toNat = 2 ^ 5 - 1 := by decide
    rw [vbin_and, wrapU64, BitVec.toNat_and, h3, bv_of, hb, Nat.and_two_pow_sub_one_eq_mod]
    congr 2
    omega
  rw [vconv_int T_int T_uint rfl, wv_some, e1, e2, wv_some, u32_shl (k := 32 - r) rfl (by omega), wv_some, vbin_sub, wv_some]
  have e3 : IntKind.u64.wrap (32 - ((32 - r : Nat) : Int)) = (r : Int) := by rw [wrapU64]; omega
  rw [e3, u32_shr (k := r) rfl (by omega), wv_some, u32_or, wv_some, or32_comm]
  exact hQ

theorem hash_constants.use (hQ : ∀ G', Ch [] G [] G' → Q (.agg (u32s K256)) G') : ACalls P hash_constants.n [] G Q := by
  refine hash_constants.sound ?_
  unfold hash_constants.S
  intro i1 f1
  refine wv_of (v := .agg (u32s K256)) (by kernel_rfl) ?_
  have hg : (G.upd i1 (.own z_ar64_uint32)) i1 = some (.own (.agg (u32s (List.replicate 64 0)))) := Heap.upd_self _ _ _
  refine wg_of (arr_put (cs := u32s (List.replicate 64 0)) (cs' := u32s K256) T_ar64_uint32 rfl rfl rfl hg (uni_u32s _) (uni_u32s _) (okvs_u32s _)) ?_
  refine wv_of (arr_whole T_ar64_uint32 rfl rfl (Heap.upd_self _ _ _) (uni_u32s _)) ?_
  refine hQ _ ?_
  have s1 := (Sp.nil G).row f1 z_ar64_uint32
  refine Sp.ch (ps := [RowL i1 (.agg (u32s K256))]) ?_
  refine s1.call (i := 0) rfl (RowL i1 (.agg (u32s K256))) fun F h k => ?_
  obtain ⟨h, rfl⟩ := h
  exact k _ _ ⟨Heap.upd_self _ _ _, rfl⟩ ⟨roLe_upd h (by simp), fun j o hj hn => by rw [Heap.upd_ne _ _ (fun e => hn (by simp [e]))]; exact hj, fun j hj => .inl hj⟩

set_option maxHeartbeats 1000000 in
theorem hash_schedule.use {b : List UInt8} (hb : b.length = 64) (hQ : ∀ G', Ch [] G [] G' → Q (.agg (u32s (sched 48 (words b 16)))) G') : ACalls P hash_schedule.n [.str b] G Q := by
  refine hash_schedule.sound ?_
  unfold hash_schedule.S
  obtain ⟨S, hS⟩ : ∃ S, sched 48 (words b 16) = S := ⟨_, rfl⟩
  rw [hS] at hQ
  intro i1 f1
  have s1 : Sp [] G [RowL i1 (.agg (filled 64 []))] _ := (Sp.nil G).row f1 z_ar64_uint32
  intro i3 f3
  have s3 : Sp [] G [RowL i3 (.agg (filled 64 [])), RowL i1 (.agg (filled 64 []))] _ := s1.row f3 z_ar64_uint32
  revert s3
  generalize Heap.upd _ i3 (.own z_ar64_uint32) = G4
  intro s3 R5 hR5
  have loop1 : ∀ (n i : Nat) (G' : Heap), 16 - i = n → i ≤ 16 → Sp [] G [RowL i3 (.agg (filled 64 (words b i))), RowL i1 (.agg (filled 64 []))] G' → R5 [.str b, .ptr i1 [] 0, .ptr i3 [] 0, .int .i64 (i : Int)] G' := by
    intro n
    induction n with
    | zero =>
      intro i G' hn hi hs
      have : i = 16 := by omega
      subst this
      refine hR5 _ _ _ _ _ ?_
      rw [vbin_lss, wv_some, brB_dec]
      refine ⟨fun h => absurd h (by decide), fun _ => ?_⟩
      intro R33 hR33
      have loop2 : ∀ (n : Nat) (ws : List Nat) (G' : Heap), 64 - ws.length = n → 16 ≤ ws.length → ws.length ≤ 64 → sched n ws = S → Sp [] G [RowL i3 (.agg (filled 64 ws)), RowL i1 (.agg (filled 64 []))] G' →
          R33 [.ptr i1 [] 0, .ptr i3 [] 0, .int .i64 (ws.length : Int)] G' := by
        intro n
        induction n with
        | zero =>
          intro ws G' hn h16 h64 he hs
          have hl : ws.length = 64 := by omega
          refine hR33 _ _ _ _ ?_
          rw [vbin_lss, wv_some, brB_dec]
          refine ⟨fun h => absurd h (by omega), fun _ => ?_⟩
          have g3 := RowL.own (i := 0) hs rfl
          have g1 := RowL.own (i := 1) hs rfl
          rw [filled_full hl] at g3
          have he : ws = S := he
          subst he
          refine wv_of (arr_whole T_ar64_uint32 rfl (by rw [length_u32s, hl]; rfl) g3 (uni_u32s _)) ?_
          refine wg_of (arr_put T_ar64_uint32 rfl (by rw [length_u32s, hl]; rfl) (by rw [length_filled (by simp), length_u32s, hl]) g1 (uni_filled _ _) (uni_u32s _) (okvs_u32s _)) ?_
          refine wv_of (arr_whole T_ar64_uint32 rfl (by rw [length_u32s, hl]; rfl) (Heap.upd_self _ _ _) (uni_u32s _)) ?_
          refine hQ _ ?_
          refine hs.call (i := 1) rfl (RowL i1 (.agg (u32s ws))) fun F h k => ?_
          obtain ⟨h, rfl⟩ := h
          exact (k _ _ ⟨Heap.upd_self _ _ _, rfl⟩ (upd_ch h (by simp))).ch
        | succ n ih =>
          intro ws G' hn h16 h64 he hs
          have hl : ws.length < 64 := by omega
          have g3 := RowL.own (i := 0) hs rfl
          have ad : ∀ {m : Int} {j : Nat}, m = (j : Int) → j < 64 → viaddr T t_ar64_uint32 (.ptr i3 [] 0) (.int .i64 m) = some (.ptr i3 [j] j) := fun hm hj => arr_addr T_ar64_uint32 rfl T_uint32 rfl hm hj
          have ld : ∀ {j : Nat}, j < ws.length → vload T G' t_uint32 (.ptr i3 [j] j) = some (.int .u32 (ws.getD j 0 : Nat)) := fun hj => arr_get T_uint32 g3 (uni_filled _ _) (filled_get hj) rfl
          refine hR33 _ _ _ _ ?_
          rw [vbin_lss, wv_some, brB_dec]
          refine ⟨fun _ => ?_, fun h => absurd (by omega) h⟩
          rw [vbin_sub, wv_some, i64_in (by omega) (by omega), ad (j := ws.length - 15) (by omega) (by omega), wv_some, ld (by omega), wv_some]
          rw [vbin_sub, wv_some, i64_in (by omega) (by omega), ad (j := ws.length - 2) (by omega) (by omega), wv_some, ld (by omega), wv_some]
          refine bits_RotateLeft32.use (r := 7) (by omega) (by omega) (by omega) ?_
          refine bits_RotateLeft32.use (r := 18) (by omega) (by omega) (by omega) ?_
          rw [u32_xor, wv_some, u32_shr (k := 3) (n := 3) rfl (by omega), wv_some, u32_xor, wv_some]
          refine bits_RotateLeft32.use (r := 17) (by omega) (by omega) (by omega) ?_
          refine bits_RotateLeft32.use (r := 19) (by omega) (by omega) (by omega) ?_
          rw [u32_xor, wv_some, u32_shr (k := 10) (n := 10) rfl (by omega), wv_some, u32_xor, wv_some]
          rw [vbin_sub, wv_some, i64_in (by omega) (by omega), ad (j := ws.length - 16) (by omega) (by omega), wv_some, ld (by omega), wv_some, u32_add, wv_some]
          rw [vbin_sub, wv_some, i64_in (by omega) (by omega), ad (j := ws.length - 7) (by omega) (by omega), wv_some, ld (by omega), wv_some, u32_add, wv_some, u32_add, wv_some]
          rw [ad (j := ws.length) rfl hl, wv_some]
          refine wg_of (arr_set T_uint32 g3 (uni_filled _ _) (filled_next hl) rfl rfl rfl) ?_
          rw [vbin_add, wv_some, i64_in (by omega) (by omega), filled_set hl]
          have key := ih (ws ++ [nextW ws]) (G'.upd i3 (.own (.agg (filled 64 (ws ++ [nextW ws]))))) (by simp; omega) (by simp; omega) (by simp; omega) he ?_
          · rw [List.length_append] at key
            exact key
          · refine hs.call (i := 0) rfl (RowL i3 (.agg (filled 64 (ws ++ [nextW ws])))) fun F h k => ?_
            obtain ⟨h, rfl⟩ := h
            exact k _ _ ⟨Heap.upd_self _ _ _, rfl⟩ (upd_ch h (by simp))
      have := loop2 48 (words b 16) G' (by rw [length_words]) (by rw [length_words]; omega) (by rw [length_words]; omega) hS hs
      rwa [length_words] at this
    | succ n ih =>
      intro i G' hn hi hs
      refine hR5 _ _ _ _ _ ?_
      rw [vbin_lss, wv_some, brB_dec]
      refine ⟨fun _ => ?_, fun h => absurd (by omega) h⟩
      intro R12 hR12
      have hi16 : i < 16 := by omega
      have inner : ∀ (m k : Nat) (G' : Heap), 4 - k = m → k ≤ 4 → Sp [] G [RowL i3 (.agg ((filled 64 (words b i)).set i (.int .u32 (num32 0 ((b.drop (4 * i)).take k) : Nat)))), RowL i1 (.agg (filled 64 []))] G' →
          R12 [.str b, .ptr i1 [] 0, .ptr i3 [] 0, .int .i64 (i : Int), .int .i64 (i : Int), .int .i64 (k : Int)] G' := by
        intro m
        induction m with
        | zero =>
          intro k G' hm hk hs
          have : k = 4 := by omega
          subst this
          refine hR12 _ _ _ _ _ _ _ ?_
          rw [vbin_lss, wv_some, brB_dec]
          refine ⟨fun h => absurd h (by decide), fun _ => ?_⟩
          rw [vbin_add, wv_some, i64_in (by omega) (by omega)]
          refine ih (i + 1) G' (by omega) (by omega) ?_
          rw [words_succ]
          have := filled_set (n := 64) (ws := words b i) (x := word b i) (by rw [length_words]; omega)
          rw [length_words] at this
          rw [← this]
          exact hs
        | succ m ihm =>
          intro k G' hm hk hs
          have hlen : ((filled 64 (words b i)).set i (.int .u32 (num32 0 ((b.drop (4 * i)).take k) : Nat))).length = 64 := by rw [List.length_set, length_filled (by rw [length_words]; omega)]
          have hu : uni 1 ((filled 64 (words b i)).set i (.int .u32 (num32 0 ((b.drop (4 * i)).take k) : Nat))) = true := uni_set (uni_filled _ _) rfl
          have g3 := RowL.own (i := 0) hs rfl
          have hget : ((filled 64 (words b i)).set i (.int .u32 (num32 0 ((b.drop (4 * i)).take k) : Nat)))[i]? = some (.int .u32 (num32 0 ((b.drop (4 * i)).take k) : Nat)) := by
            rw [List.getElem?_set_self (by rw [length_filled (by rw [length_words]; omega)]; omega)]
          refine hR12 _ _ _ _ _ _ _ ?_
          rw [vbin_lss, wv_some, brB_dec]
          refine ⟨fun _ => ?_, fun h => absurd (by omega) h⟩
          have ad : viaddr T t_ar64_uint32 (.ptr i3 [] 0) (.int .i64 (i : Int)) = some (.ptr i3 [i] i) := arr_addr T_ar64_uint32 rfl T_uint32 rfl rfl (by omega)
          rw [ad, wv_some, arr_get T_uint32 g3 hu hget rfl, wv_some, u32_shl (k := 8) (n := 8) rfl (by omega), wv_some, vbin_mul, wv_some, i64_in (by omega) (by omega), vbin_add, wv_some, i64_in (by omega) (by omega)]
          rw [str_at (j := 4 * i + k) (by omega) (by omega), wv_some, u8_to_u32, wv_some, u32_or, wv_some, wv_some]
          refine wg_of (arr_set T_uint32 g3 hu hget rfl rfl rfl) ?_
          rw [vbin_add, wv_some, i64_in (by omega) (by omega), List.set_set]
          have hk4 : k < 4 := by omega
          have hsn : (b.drop (4 * i)).take (k + 1) = (b.drop (4 * i)).take k ++ [b[4 * i + k]] := by
            rw [List.take_add_one, List.getElem?_drop, List.getElem?_eq_getElem (by omega)]
            rfl
          have hnum : or32 (shl32 8 (num32 0 ((b.drop (4 * i)).take k))) (b[4 * i + k].toNat) = num32 0 ((b.drop (4 * i)).take (k + 1)) := by
            have h1 := num32_lt ((b.drop (4 * i)).take k) 0
            have h2 : ((b.drop (4 * i)).take k).length = k := by simp; omega
            rw [h2] at h1
            have h3 : 256 ^ k ≤ 256 ^ 3 := Nat.pow_le_pow_right (by omega) (by omega)
            have hbb : b[4 * i + k].toNat < 256 := b[4 * i + k].toNat_lt
            rw [hsn, num32_snoc, or_low 8 _ _ (by omega) (by omega)]
            omega
          rw [hnum]
          refine ihm (k + 1) _ (by omega) (by omega) ?_
          refine hs.call (i := 0) rfl (RowL i3 (.agg ((filled 64 (words b i)).set i (.int .u32 (num32 0 ((b.drop (4 * i)).take (k + 1)) : Nat))))) fun F h k => ?_
          obtain ⟨h, rfl⟩ := h
          exact k _ _ ⟨Heap.upd_self _ _ _, rfl⟩ (upd_ch h (by simp))
      refine inner 4 0 G' rfl (by omega) ?_
      have e0 : (filled 64 (words b i)).set i (.int .u32 (num32 0 ((b.drop (4 * i)).take 0) : Nat)) = filled 64 (words b i) := by
        apply List.ext_getElem?
        intro n
        rw [List.getElem?_set]
        split
        · rename_i h
          subst h
          have h2 := filled_next (n := 64) (ws := words b i) (by rw [length_words]; omega)
          rw [length_words] at h2
          rw [if_pos (by rw [length_filled (by rw [length_words]; omega)]; omega), h2]
          rfl
        · rfl
      rw [e0]
      exact hs
  exact loop1 16 0 G4 rfl (by omega) s3

end
end Go.Esc.M

/- Own work. Chapter 2: the sum, in the program: blocks. -/
set_option linter.unusedSimpArgs false
set_option linter.unusedVariables false
set_option maxRecDepth 20000
namespace Go.Esc

theorem len8 {r : List Nat} (h : r.length = 8) : ∃ a b c d e f g k, r = [a, b, c, d, e, f, g, k] := by
  match r, h with
  | [a, b, c, d, e, f, g, k], _ => exact ⟨a, b, c, d, e, f, g, k, rfl⟩

theorem length_rnd (k w : Nat) {r : List Nat} (h : r.length = 8) : (rnd k w r).length = 8 := by
  obtain ⟨a, b, c, d, e, f, g, k, rfl⟩ := len8 h
  rfl
theorem length_rnds : ∀ (ks ws r : List Nat), r.length = 8 → (rnds ks ws r).length = 8
  | [], _, r, h => by simpa [rnds] using h
  | k :: ks, [], r, h => by simpa [rnds] using h
  | k :: ks, w :: ws, r, h => by rw [rnds]; exact length_rnds ks ws _ (length_rnd k w h)
theorem length_compress {h : List Nat} {b : List UInt8} (hh : h.length = 8) : (compress h b).length = 8 := by
  unfold compress
  rw [List.length_zipWith, length_rnds _ _ _ hh, hh]; rfl
theorem length_K : K256.length = 64 := by decide

theorem drop_cons' {α : Type} {l : List α} {j : Nat} {x : α} (h : l[j]? = some x) : l.drop j = x :: l.drop (j + 1) := by
  obtain ⟨hl, rfl⟩ := List.getElem?_eq_some_iff.1 h
  exact List.drop_eq_getElem_cons hl

theorem vnil_ptr (i : AId) (p : List Nat) (o : Nat) : vnil (.ptr i p o) = some (.ptr i p o) := rfl

end Go.Esc
namespace Go.Esc.M
open Go Go.Esc

section
variable {G : Heap} {Q : AVal → Heap → Prop}

theorem ar8_addr {i : AId} {m : Int} {j : Nat} (hm : m = (j : Int)) (hj : j < 8) : viaddr T t_ar8_uint32 (.ptr i [] 0) (.int .i64 m) = some (.ptr i [j] j) := arr_addr T_ar8_uint32 rfl T_uint32 rfl hm hj
theorem ar64_addr {i : AId} {m : Int} {j : Nat} (hm : m = (j : Int)) (hj : j < 64) : viaddr T t_ar64_uint32 (.ptr i [] 0) (.int .i64 m) = some (.ptr i [j] j) := arr_addr T_ar64_uint32 rfl T_uint32 rfl hm hj
theorem words_load {i : AId} {ws : List Nat} {j : Nat} {x : Nat} (hg : G i = some (.own (.agg (u32s ws)))) (hj : ws[j]? = some x) : vload T G t_uint32 (.ptr i [j] j) = some (.int .u32 (x : Nat)) :=
  arr_get T_uint32 hg (uni_u32s _) (by rw [u32s, List.getElem?_map, hj]; rfl) rfl
theorem words_store {i : AId} {ws : List Nat} {j : Nat} (x : Nat) (hg : G i = some (.own (.agg (u32s ws)))) (hj : j < ws.length) : vstore T G t_uint32 (.ptr i [j] j) (.int .u32 (x : Nat)) = some (G.upd i (.own (.agg (u32s (ws.set j x))))) := by
  have := arr_set (c := .int .u32 (x : Nat)) T_uint32 hg (uni_u32s _) (u32s_get hj) rfl rfl rfl
  rw [this, u32s_set]
theorem ar8_load {i : AId} {ws : List Nat} (hl : ws.length = 8) (hg : G i = some (.own (.agg (u32s ws)))) : vload T G t_ar8_uint32 (.ptr i [] 0) = some (.agg (u32s ws)) := arr_whole T_ar8_uint32 rfl (by rw [length_u32s, hl]; rfl) hg (uni_u32s _)
theorem ar8_store {i : AId} {ws ws' : List Nat} (hl : ws.length = 8) (hl' : ws'.length = 8) (hg : G i = some (.own (.agg (u32s ws)))) : vstore T G t_ar8_uint32 (.ptr i [] 0) (.agg (u32s ws')) = some (G.upd i (.own (.agg (u32s ws')))) :=
  arr_put T_ar8_uint32 rfl (by rw [length_u32s, hl']; rfl) (by rw [length_u32s, length_u32s, hl, hl']) hg (uni_u32s _) (uni_u32s _) (okvs_u32s _)
theorem ar64_load {i : AId} {ws : List Nat} (hl : ws.length = 64) (hg : G i = some (.own (.agg (u32s ws)))) : vload T G t_ar64_uint32 (.ptr i [] 0) = some (.agg (u32s ws)) := arr_whole T_ar64_uint32 rfl (by rw [length_u32s, hl]; rfl) hg (uni_u32s _)
theorem ar64_store {i : AId} {ws ws' : List Nat} (hl : ws.length = 64) (hl' : ws'.length = 64) (hg : G i = some (.own (.agg (u32s ws)))) : vstore T G t_ar64_uint32 (.ptr i [] 0) (.agg (u32s ws')) = some (G.upd i (.own (.agg (u32s ws')))) :=
  arr_put T_ar64_uint32 rfl (by rw [length_u32s, hl']; rfl) (by rw [length_u32s, length_u32s, hl, hl']) hg (uni_u32s _) (uni_u32s _) (okvs_u32s _)
theorem z8 : z_ar8_uint32 = .agg (u32s (List.replicate 8 0)) := rfl
theorem z64 : z_ar64_uint32 = .agg (u32s (List.replicate 64 0)) := rfl

/-- The words of two lists together, one by one. -/
def addUp (r s : List Nat) (j : Nat) : List Nat := (List.zipWith add32 r s).take j ++ r.drop j
theorem addUp_zero (r s : List Nat) : addUp r s 0 = r := by simp [addUp]
theorem addUp_full {r s : List Nat} (h : r.length = s.length) : addUp r s r.length = List.zipWith add32 r s := by
  unfold addUp
  rw [List.take_of_length_le (by simp; omega), List.drop_length, List.append_nil]
theorem length_addUp {r s : List Nat} {j : Nat} (h : r.length = s.length) (hj : j ≤ r.length) : (addUp r s j).length = r.length := by
  simp [addUp]; omega
theorem addUp_get {r s : List Nat} {j : Nat} (h : r.length = s.length) (hj : j < r.length) : (addUp r s j)[j]? = some r[j] := by
  unfold addUp
  rw [List.getElem?_append_right (by simp; omega)]
  have : j - ((List.zipWith add32 r s).take j).length = 0 := by simp; omega
  rw [this, List.getElem?_drop, Nat.add_zero, List.getElem?_eq_getElem hj]
theorem addUp_set {r s : List Nat} {j : Nat} (h : r.length = s.length) (hj : j < r.length) (hs : j < s.length) : (addUp r s j).set j (add32 r[j] s[j]) = addUp r s (j + 1) := by
  unfold addUp
  have hl : ((List.zipWith add32 r s).take j).length = j := by simp; omega
  rw [List.set_append_right _ _ (by omega), hl, Nat.sub_self, List.drop_eq_getElem_cons hj, List.set_cons_zero, List.take_add_one, List.getElem?_zipWith, List.getElem?_eq_getElem hj, List.getElem?_eq_getElem hs]
  simp

/-- The last loop of both: a state's words added. -/
theorem add_loop {F0 : List AId} {G0 : Heap} {s r : List Nat} {is ir : AId} {x3 : AVal} {G' : Heap} {ps : List LP} {p q : Nat} (hs8 : s.length = 8) (hr8 : r.length = 8) (hp : p < ps.length) (hpq : p ≠ q) (hq : ps[q]? = some (RowL is (.agg (u32s s)))) (R : List AVal → Heap → Prop) (E : AVal → AVal → AVal → Heap → Prop)
    (hR : ∀ (x93 x94 x95 x96 : AVal) (G92 : Heap), (wv (vbin T .lss t_int x96 (.int .i64 8)) fun v97 => brB (some v97)
      (wv (viaddr T t_ar8_uint32 x95 x96) fun v98 => wv (vload T G92 t_uint32 v98) fun v99 => wv (viaddr T t_ar8_uint32 x93 x96) fun v100 => wv (vload T G92 t_uint32 v100) fun v101 => wv (vbin T .add t_uint32 v99 v101) fun v102 => wv (viaddr T t_ar8_uint32 x95 x96) fun v103 => wg (vstore T G92 t_uint32 v103 v102) fun G104 => wv (vbin T .add t_int x96 (.int .i64 1)) fun v105 => R [x93, x94, x95, v105] G104)
      (E x93 x94 x95 G92)) → R [x93, x94, x95, x96] G92)
    (hsp : Sp F0 G0 (ps.set p (RowL ir (.agg (u32s r)))) G') (hfin : ∀ G', Sp F0 G0 (ps.set p (RowL ir (.agg (u32s (List.zipWith add32 r s))))) G' → E (.ptr is [] 0) x3 (.ptr ir [] 0) G') :
    R [.ptr is [] 0, x3, .ptr ir [] 0, .int .i64 0] G' := by
  have loop : ∀ (n j : Nat) (G' : Heap), 8 - j = n → j ≤ 8 → Sp F0 G0 (ps.set p (RowL ir (.agg (u32s (addUp r s j))))) G' → R [.ptr is [] 0, x3, .ptr ir [] 0, .int .i64 (j : Int)] G' := by
    intro n
    induction n with
    | zero =>
      intro j G' hn hj h
      have : j = 8 := by omega
      subst this
      refine hR _ _ _ _ _ ?_
      rw [vbin_lss, wv_some, brB_dec]
      refine ⟨fun h => absurd h (by decide), fun _ => hfin _ ?_⟩
      have e := addUp_full (r := r) (s := s) (by omega)
      rw [hr8] at e
      rw [← e]
      exact h
    | succ n ih =>
      intro j G' hn hj h
      have hjr : j < r.length := by omega
      have hjs : j < s.length := by omega
      have g1 := RowL.own (i := p) h (List.getElem?_set_self hp)
      have g2 := RowL.own (i := q) h (by rw [List.getElem?_set_ne hpq]; exact hq)
      refine hR _ _ _ _ _ ?_
      rw [vbin_lss, wv_some, brB_dec]
      refine ⟨fun _ => ?_, fun h => absurd (by omega) h⟩
      rw [ar8_addr rfl (by omega), wv_some, words_load g1 (addUp_get (by omega) hjr), wv_some, ar8_addr rfl (by omega), wv_some, words_load g2 (List.getElem?_eq_getElem hjs), wv_some, u32_add, wv_some, wv_some,
        words_store _ g1 (by rw [length_addUp (by omega) (by omega)]; exact hjr), wg_some, vbin_add, wv_some, i64_in (by omega) (by omega), addUp_set (by omega) hjr hjs]
      refine ih (j + 1) _ (by omega) (by omega) ?_
      have := Sp.setRow h (j := p) (List.getElem?_set_self hp) (.agg (u32s (addUp r s (j + 1))))
      rwa [List.set_set] at this
  exact loop 8 0 G' rfl (by omega) (by rw [addUp_zero]; exact hsp)

set_option maxHeartbeats 2000000 in
theorem hash_turned.use {s : List Nat} {b : List UInt8} {ic : AId} (hs8 : s.length = 8) (hb : b.length = 64) (hc : G ic = some (.own (.agg (u32s K256)))) (hQ : ∀ G', Ch [] G [] G' → Q (.agg (u32s (compress s b))) G') :
    ACalls P hash_turned.n [.agg (u32s s), .str b, .ptr ic [] 0] G Q := by
  refine hash_turned.sound ?_
  unfold hash_turned.S
  rw [z8, z64]
  unfold compress at hQ
  obtain ⟨W, hW⟩ : ∃ W, sched 48 (words b 16) = W := ⟨_, rfl⟩
  have hW64 : W.length = 64 := by rw [← hW, length_sched, length_words]
  rw [hW] at hQ
  obtain ⟨fin, hfin⟩ : ∃ f, rnds K256 W s = f := ⟨_, rfl⟩
  rw [hfin] at hQ
  intro i1 f1
  have s1 := (Sp.nil G).row f1 (.agg (u32s s))
  intro i3 f3
  have s3 := s1.row f3 (.agg (u32s (List.replicate 8 0)))
  rw [ar8_load hs8 (RowL.own (i := 1) s3 rfl), wv_some]
  refine hash_schedule.use hb fun G7 c7 => ?_
  rw [hW]
  have s7 := s3.tmp c7
  refine ⟨⟨ar8_load hs8 (RowL.own (i := 1) s7 rfl), trivial⟩, ?_⟩
  intro i8 f8
  have s8 := s7.row f8 (.agg (u32s (List.replicate 64 0)))
  intro i10 f10
  have s10 := s8.row f10 (.agg (u32s (List.replicate 8 0)))
  rw [ar64_store (by simp) hW64 (RowL.own (i := 1) s10 rfl), wg_some]
  have s12 := Sp.setRow s10 (j := 1) rfl (.agg (u32s W))
  refine ⟨⟨ar8_load hs8 (RowL.own (i := 3) s12 rfl), trivial⟩, ?_⟩
  rw [ar8_store (by simp) hs8 (RowL.own (i := 0) s12 rfl), wg_some]
  have s13 : Sp [] G [RowL i10 (.agg (u32s s)), RowL i8 (.agg (u32s W)), RowL i3 (.agg (u32s (List.replicate 8 0))), RowL i1 (.agg (u32s s))] _ := Sp.setRow s12 (j := 0) rfl (.agg (u32s s))
  revert s13
  generalize Heap.upd _ i10 (.own (.agg (u32s s))) = G13
  intro s13 R14 hR14
  have loop : ∀ (n t : Nat) (r : List Nat) (G' : Heap), 64 - t = n → t ≤ 64 → r.length = 8 → rnds (K256.drop t) (W.drop t) r = fin → Sp [] G [RowL i10 (.agg (u32s r)), RowL i8 (.agg (u32s W)), RowL i3 (.agg (u32s (List.replicate 8 0))), RowL i1 (.agg (u32s s))] G' →
      R14 [.ptr ic [] 0, .ptr i1 [] 0, .ptr i3 [] 0, .ptr i8 [] 0, .ptr i10 [] 0, .int .i64 (t : Int)] G' := by
    intro n
    induction n with
    | zero =>
      intro t r G' hn ht hr8 he h
      have : t = 64 := by omega
      subst this
      refine hR14 _ _ _ _ _ _ _ ?_
      rw [vbin_lss, wv_some, brB_dec]
      refine ⟨fun h => absurd h (by decide), fun _ => ?_⟩
      have he : r = fin := by
        rw [List.drop_of_length_le (by rw [length_K]; omega)] at he
        exact he
      subst he
      intro R91 hR91
      refine add_loop (p := 0) (q := 3) (x3 := .ptr i3 [] 0) hs8 hr8 (by simp) (by decide) (ps := [RowL i10 (.agg (u32s r)), RowL i8 (.agg (u32s W)), RowL i3 (.agg (u32s (List.replicate 8 0))), RowL i1 (.agg (u32s s))]) rfl R91 _ hR91 h fun G9 h9 => ?_
      have hz : (List.zipWith add32 r s).length = 8 := by rw [List.length_zipWith, hr8, hs8]; rfl
      rw [ar8_load hz (RowL.own (i := 0) h9 rfl), wv_some, ar8_store (by simp) hz (RowL.own (i := 2) h9 rfl), wg_some, ar8_load hz (Heap.upd_self _ _ _), wv_some]
      exact hQ _ (Sp.setRow h9 (j := 2) rfl (.agg (u32s (List.zipWith add32 r s)))).ch
    | succ n ih =>
      intro t r G' hn ht hr8 he h
      obtain ⟨a, b, c, d, e, f, g, k, rfl⟩ := len8 hr8
      have ht64 : t < 64 := by omega
      obtain ⟨w, hw⟩ : ∃ w, W[t]? = some w := ⟨_, List.getElem?_eq_getElem (by omega)⟩
      obtain ⟨q, hq⟩ : ∃ q, K256[t]? = some q := ⟨_, List.getElem?_eq_getElem (by rw [length_K]; omega)⟩
      have gr := RowL.own (i := 0) h rfl
      have gw := RowL.own (i := 1) h rfl
      have gc : G' ic = some (.own (.agg (u32s K256))) := h.ch.others _ _ hc (by simp)
      have L0 := words_load (j := 0) gr rfl
      have L1 := words_load (j := 1) gr rfl
      have L2 := words_load (j := 2) gr rfl
      have L3 := words_load (j := 3) gr rfl
      have L4 := words_load (j := 4) gr rfl
      have L5 := words_load (j := 5) gr rfl
      have L6 := words_load (j := 6) gr rfl
      have L7 := words_load (j := 7) gr rfl
      have LW := words_load gw hw
      have LK := words_load gc hq
      have A0 := ar8_addr (i := i10) (m := 0) (j := 0) rfl (by omega)
      have A1 := ar8_addr (i := i10) (m := 1) (j := 1) rfl (by omega)
      have A2 := ar8_addr (i := i10) (m := 2) (j := 2) rfl (by omega)
      have A3 := ar8_addr (i := i10) (m := 3) (j := 3) rfl (by omega)
      have A4 := ar8_addr (i := i10) (m := 4) (j := 4) rfl (by omega)
      have A5 := ar8_addr (i := i10) (m := 5) (j := 5) rfl (by omega)
      have A6 := ar8_addr (i := i10) (m := 6) (j := 6) rfl (by omega)
      have A7 := ar8_addr (i := i10) (m := 7) (j := 7) rfl (by omega)
      have AW := ar64_addr (i := i8) (m := (t : Int)) rfl ht64
      have AK := ar64_addr (i := ic) (m := (t : Int)) rfl ht64
      refine hR14 _ _ _ _ _ _ _ ?_
      rw [vbin_lss, wv_some, brB_dec]
      refine ⟨fun _ => ?_, fun h => absurd (by omega) h⟩
      simp -zeta only [A0, A1, A2, A3, A4, A5, A6, A7, AW, AK, vnil_ptr, wv_some, L0, L1, L2, L3, L4, L5, L6, L7, LW, LK, u32_and, u32_xor, u32_not, u32_add]
      refine bits_RotateLeft32.use (r := 6) (by omega) (by omega) (by omega) ⟨⟨LW, LK, L6, L5, L7, trivial⟩, ?_⟩
      refine bits_RotateLeft32.use (r := 11) (by omega) (by omega) (by omega) ⟨⟨LW, LK, L6, L5, L7, trivial⟩, ?_⟩
      rw [u32_xor, wv_some]
      refine bits_RotateLeft32.use (r := 25) (by omega) (by omega) (by omega) ⟨⟨LW, LK, L6, L5, L7, trivial⟩, ?_⟩
      simp -zeta only [AW, AK, wv_some, L0, L1, L2, L3, L4, L5, L6, L7, LW, LK, u32_and, u32_xor, u32_not, u32_add]
      refine bits_RotateLeft32.use (r := 2) (by omega) (by omega) (by omega) ⟨⟨L2, L1, L2, L1, trivial⟩, ?_⟩
      refine bits_RotateLeft32.use (r := 13) (by omega) (by omega) (by omega) ⟨⟨L2, L1, L2, L1, trivial⟩, ?_⟩
      rw [u32_xor, wv_some]
      refine bits_RotateLeft32.use (r := 22) (by omega) (by omega) (by omega) ⟨⟨L2, L1, L2, L1, trivial⟩, ?_⟩
      simp -zeta only [wv_some, L0, L1, L2, L3, L4, L5, L6, L7, u32_and, u32_xor, u32_not, u32_add]
      have hnext : (rnd q w [a, b, c, d, e, f, g, k]).length = 8 := rfl
      refine wv_of (v := .agg (u32s (rnd q w [a, b, c, d, e, f, g, k]))) rfl ?_
      rw [ar8_store hr8 hnext gr, wg_some, vbin_add, wv_some, i64_in (by omega) (by omega)]
      refine ih (t + 1) _ _ (by omega) (by omega) hnext ?_ (Sp.setRow h (j := 0) rfl _)
      rw [drop_cons' hq, drop_cons' hw, rnds] at he
      exact he
  exact loop 64 0 s G13 rfl (by omega) hs8 hfin s13

end
end Go.Esc.M

/- Own work. Chapter 2: the sum, in the program: texts; keys. -/
set_option linter.unusedSimpArgs false
set_option linter.unusedVariables false
set_option maxRecDepth 20000
namespace Go.Esc
open Go Go.RowKit

theorem CapSl.ch {n : Nat} {G G' : Heap} {E : List AId} {v : AVal} {vs : List AVal} (h : CapSl n G v vs) (hc : Ch [] G E G') : CapSl n G' v vs := by
  rcases h with ⟨id, p, st, off, len, cap, rfl, hl, h⟩ | h
  · exact .inl ⟨_, _, _, _, _, _, rfl, hl, selems_le (fun j o hj => hc.others j o hj (by simp)) h⟩
  · exact .inr h

section
variable {T : Tbl} {ts e : TypeId} {si ie : TI} (ht : T ts = some si) (hd : si.desc = .slice e) (he : T e = some ie) (hz : sz ie.zero = ie.size)

include ht hd he hz in
theorem build1 {G : Heap} {c : AVal} {K : AVal → Heap → Prop} (hc : sz c = ie.size) (hie : ie.size ≤ 16777216) (hK : ∀ s' G', Own ie.size G' s' [c] → Ch [] G (rowOf s').toList G' → K s' G') : aBuildSlice T ts 1 [(0, c)] G K := by
  unfold aBuildSlice
  have hf : fillA (fun k => some (k * ie.size, ie.size)) (List.replicate 1 ie.zero) [(0, c)] = some [c] := by simp [fillA, hz, hc, szs]
  simp only [ht, hd, he, hf]
  refine ⟨by omega, fun id hfr => hK _ _ (.inr ⟨id, 1, 1, [c], rfl, Heap.upd_self _ _ _, rfl, Nat.le_refl _, by simp [Esc.uni, hc], rfl⟩) ?_⟩
  simpa [rowOf] using Ch.new hfr

include ht hd he hz in
theorem build2 {G : Heap} {a b : AVal} {K : AVal → Heap → Prop} (ha : sz a = ie.size) (hb : sz b = ie.size) (hie : 2 * ie.size ≤ 16777216) (hK : ∀ s' G', Own ie.size G' s' [a, b] → Ch [] G (rowOf s').toList G' → K s' G') : aBuildSlice T ts 2 [(0, a), (1, b)] G K := by
  unfold aBuildSlice
  have hf : fillA (fun k => some (k * ie.size, ie.size)) (List.replicate 2 ie.zero) [(0, a), (1, b)] = some [a, b] := by simp [fillA, hz, ha, hb, szs, List.replicate]
  simp only [ht, hd, he, hf]
  refine ⟨by omega, fun id hfr => hK _ _ (.inr ⟨id, 2, 2, [a, b], rfl, Heap.upd_self _ _ _, rfl, Nat.le_refl _, by simp [Esc.uni, ha, hb], rfl⟩) ?_⟩
  simpa [rowOf] using Ch.new hfr

end

theorem tdiv_nat (a b : Nat) : (a : Int).tdiv (b : Int) = ((a / b : Nat) : Int) := by
  rw [Int.tdiv_eq_ediv_of_nonneg (Int.natCast_nonneg _)]; rfl
theorem tmod_nat' (a b : Nat) : (a : Int).tmod (b : Int) = ((a % b : Nat) : Int) := by
  rw [Int.tmod_eq_emod_of_nonneg (Int.natCast_nonneg _)]; rfl

theorem length_bytesBE (v : Nat) : ∀ k, (bytesBE k v).length = k
  | 0 => rfl
  | k + 1 => by simp [bytesBE, length_bytesBE v k]

theorem shr_to_u8 {v m : Nat} {s : Int} {kk : IntKind} (hs : s = ((8 * m : Nat) : Int)) (hm : m ≤ 7) {T : Tbl} {t : TypeId} : vbin T .shr t (.int .u64 (v : Int)) (.int kk s) = some (.int .u64 ((v / 2 ^ (8 * m) : Nat) : Int)) := by
  subst hs
  rw [vbin_shr _ _ _ _ _ _ (by omega)]
  have h1 : min ((8 * m : Nat) : Int).toNat IntKind.u64.bits = 8 * m := by
    have : IntKind.u64.bits = 64 := rfl
    omega
  have h2 : ((2 : Int) ^ (8 * m)) = ((2 ^ (8 * m) : Nat) : Int) := by simp
  rw [h1, h2, Int.fdiv_eq_ediv_of_nonneg _ (Int.natCast_nonneg _)]
  congr 2

theorem length_pad (s : List UInt8) : (pad s).length % 64 = 0 ∧ (pad s).length ≤ s.length + 72 := by
  unfold pad
  simp only [List.length_append, List.length_cons, List.length_replicate, length_bytesBE]
  constructor <;> omega

theorem length_chain : ∀ (n : Nat) {h : List Nat} (m : List UInt8), h.length = 8 → (chain n h m).length = 8
  | 0, h, m, hh => hh
  | n + 1, h, m, hh => length_chain n _ (length_compress hh)

theorem length_digest (h : List Nat) : (digest h).length = 32 := by simp [digest]
theorem length_sha (s : List UInt8) : (sha s).length = 32 := length_digest _

/-- A key, filled up, laid over by a byte; a text's sum under a key. -/
def overK (key : List UInt8) (c : UInt8) : List UInt8 := (key ++ List.replicate 32 0).map fun b => b ^^^ c
def mac (key text : List UInt8) : List UInt8 := sha (overK key 0x5c ++ sha (overK key 0x36 ++ text))

theorem u8_xor {T : Tbl} {t : TypeId} (a b : UInt8) : vbin T .xor t (u8v a) (u8v b) = some (u8v (a ^^^ b)) := by
  have hb : IntKind.u8.bits = 8 := rfl
  have h1 : a.toNat < 2 ^ 8 := a.toNat_lt
  have h2 : b.toNat < 2 ^ 8 := b.toNat_lt
  unfold u8v
  rw [vbin_xor, wrapU8, BitVec.toNat_xor, bv_of, bv_of, hb, Nat.mod_eq_of_lt h1, Nat.mod_eq_of_lt h2, UInt8.toNat_xor]
  have : a.toNat ^^^ b.toNat < 2 ^ 8 := Nat.xor_lt_two_pow h1 h2
  congr 2
  omega

end Go.Esc
namespace Go.Esc.M
open Go Go.Esc

section
variable {G : Heap} {Q : AVal → Heap → Prop}

/-- The first bytes done, the rest zeros. -/
def part (D : List UInt8) (n j : Nat) : List UInt8 := D.take j ++ List.replicate (n - j) 0
theorem length_part {D : List UInt8} {n j : Nat} (hD : D.length = n) (hj : j ≤ n) : (part D n j).length = n := by simp [part]; omega
theorem part_set {D : List UInt8} {n j : Nat} (hD : D.length = n) (hj : j < n) : (part D n j).set j (D[j]'(by omega)) = part D n (j + 1) := by
  unfold part
  have hl : (D.take j).length = j := by simp; omega
  rw [List.set_append_right _ _ (by omega), hl, Nat.sub_self, show n - j = (n - (j + 1)) + 1 by omega, List.replicate_succ, List.set_cons_zero, List.take_succ_eq_append_getElem (by omega), List.append_assoc]
  rfl
theorem part_full {D : List UInt8} {n : Nat} (hD : D.length = n) : part D n n = D := by simp [part, ← hD]

set_option maxHeartbeats 2000000 in
/-- The last loop of both: a state's words as bytes. -/
theorem digest_loop {F0 : List AId} {G0 : Heap} {h : List Nat} {x0 : AVal} {is ir : AId} {G' : Heap} {ps : List LP} {p q : Nat} (hh : h.length = 8) (hp : p < ps.length) (hpq : p ≠ q) (hq : ps[q]? = some (RowL is (.agg (u32s h)))) (R : List AVal → Heap → Prop) (E : AVal → AVal → Heap → Prop)
    (hR : ∀ (x69 x70 x71 x72 : AVal) (G68 : Heap), (wv (vbin T .lss t_int x72 (.int .i64 32)) fun v73 => brB (some v73)
      (wv (vbin T .quo t_int x72 (.int .i64 4)) fun v74 => wv (viaddr T t_ar8_uint32 x70 v74) fun v75 => wv (vload T G68 t_uint32 v75) fun v76 => wv (vbin T .rem t_int x72 (.int .i64 4)) fun v77 => wv (vbin T .mul t_int (.int .i64 8) v77) fun v78 => wv (vbin T .sub t_int (.int .i64 24) v78) fun v79 => wv (vbin T .shr t_uint32 v76 v79) fun v80 => wv (vconv T G68 t_uint32 t_uint8 v80) fun v81 => wv (viaddr T t_api_Hash x71 x72) fun v82 => wg (vstore T G68 t_uint8 v82 v81) fun G83 => wv (vbin T .add t_int x72 (.int .i64 1)) fun v84 => R [x69, x70, x71, v84] G83)
      (E x69 x71 G68)) → R [x69, x70, x71, x72] G68)
    (hsp : Sp F0 G0 (ps.set p (RowL ir (.agg ((List.replicate 32 (0 : UInt8)).map u8v)))) G') (hfin : ∀ G', Sp F0 G0 (ps.set p (RowL ir (.agg ((digest h).map u8v)))) G' → E x0 (.ptr ir [] 0) G') :
    R [x0, .ptr is [] 0, .ptr ir [] 0, .int .i64 0] G' := by
  have hD := length_digest h
  have loop : ∀ (n j : Nat) (G' : Heap), 32 - j = n → j ≤ 32 → Sp F0 G0 (ps.set p (RowL ir (.agg ((part (digest h) 32 j).map u8v)))) G' → R [x0, .ptr is [] 0, .ptr ir [] 0, .int .i64 (j : Int)] G' := by
    intro n
    induction n with
    | zero =>
      intro j G' hn hj hs
      have : j = 32 := by omega
      subst this
      refine hR _ _ _ _ _ ?_
      rw [vbin_lss, wv_some, brB_dec]
      refine ⟨fun h => absurd h (by decide), fun _ => hfin _ ?_⟩
      rw [part_full hD] at hs
      exact hs
    | succ n ih =>
      intro j G' hn hj hs
      have hj32 : j < 32 := by omega
      have g1 := RowL.own (i := p) hs (List.getElem?_set_self hp)
      have g2 := RowL.own (i := q) hs (by rw [List.getElem?_set_ne hpq]; exact hq)
      obtain ⟨x, hx⟩ : ∃ x, h[j / 4]? = some x := ⟨_, List.getElem?_eq_getElem (by omega)⟩
      refine hR _ _ _ _ _ ?_
      rw [vbin_lss, wv_some, brB_dec]
      refine ⟨fun _ => ?_, fun h => absurd (by omega) h⟩
      have hq4 : (j : Int).tdiv 4 = ((j / 4 : Nat) : Int) := tdiv_nat j 4
      have hr4 : (j : Int).tmod 4 = ((j % 4 : Nat) : Int) := tmod_nat' j 4
      rw [vbin_quo _ _ _ _ _ (by decide), wv_some, hq4, i64_in (by omega) (by omega), ar8_addr rfl (by omega), wv_some, words_load g2 hx, wv_some, vbin_rem _ _ _ _ _ (by decide), wv_some, hr4, vbin_mul, wv_some, i64_in (by omega) (by omega), vbin_sub, wv_some, i64_in (by omega) (by omega)]
      rw [u32_shr (k := 24 - 8 * (j % 4)) (by omega) (by omega), wv_some, vconv_int T_uint32 T_uint8 rfl, wv_some, addr_hash hj32, wv_some]
      have hb : (digest h)[j]'(by rw [hD]; exact hj32) = UInt8.ofNat (shr32 (24 - 8 * (j % 4)) x) := by
        simp only [digest, List.getElem_map, List.getElem_range, List.getD_eq_getElem?_getD, hx]
        rfl
      have hu : (AVal.int .u8 (IntKind.u8.wrap ((shr32 (24 - 8 * (j % 4)) x : Nat) : Int))) = u8v ((digest h)[j]'(by rw [hD]; exact hj32)) := by
        rw [hb, u8v_ofNat, wrapU8]
        rfl
      rw [hu, store_byte (by rw [length_part hD hj]; exact hj32) g1, wg_some, part_set hD hj32, vbin_add, wv_some, i64_in (by omega) (by omega)]
      refine ih (j + 1) _ (by omega) (by omega) ?_
      have := Sp.setRow hs (j := p) (List.getElem?_set_self hp) (.agg ((part (digest h) 32 (j + 1)).map u8v))
      rwa [List.set_set] at this
  exact loop 32 0 G' rfl (by omega) (by simpa [part] using hsp)

theorem own_len {v : AVal} {l : List UInt8} (h : Own 1 G v (l.map u8v)) : vlen T G t_sl_uint8 v = some (.int .i64 (l.length : Nat)) := by
  rw [h.is.len (i := ti_sl_uint8) T_sl_uint8 rfl, List.length_map]

/-- A byte more. -/
theorem grow1 {F0 : List AId} {G0 : Heap} {ps : List LP} {s : AVal} {l : List UInt8} {b : UInt8} {i : Nat} {K : AVal → Heap → Prop} (hs : Sp F0 G0 ps G) (hi : ps[i]? = some (OwnL 1 s (l.map u8v))) (hl : l.length + 1 ≤ 220000000000000)
    (hK : ∀ s' G', Sp F0 G0 (ps.set i (OwnL 1 s' ((l ++ [b]).map u8v))) G' → K s' G') : aBuildSlice T t_sl_uint8 1 [(0, u8v b)] G fun v G' => aAppend T G' t_sl_uint8 t_sl_uint8 s v K := by
  obtain ⟨F, ho, _⟩ := hs.get hi
  refine append1 (T := T) (ts := t_sl_uint8) (e := t_uint8) (si := ti_sl_uint8) (ie := ti_uint8) T_sl_uint8 rfl T_uint8 rfl (by decide) ho rfl rfl (by decide) ?_ fun s' G2 ho2 hk => hK s' G2 ?_
  · simp only [List.length_map, ti_uint8]
    omega
  · refine hs.call hi (OwnL 1 s' ((l ++ [b]).map u8v)) fun F h k => ?_
    obtain ⟨_, rfl⟩ := h
    exact k _ _ ⟨by rw [List.map_append]; exact ho2, rfl⟩ hk.ch

set_option maxHeartbeats 4000000 in
theorem hash_Sum.use {v : AVal} {xs : List (List UInt8)} (h : CapSl 1 G v (xs.map .str)) (hN : xs.length ≤ 140737488355328) (hl : xs.flatten.length ≤ 281474976710656) (hQ : ∀ G', Ch [] G [] G' → Q (.agg ((sha xs.flatten).map u8v)) G') :
    ACalls P hash_Sum.n [v] G Q := by
  refine hash_Sum.sound ?_
  unfold hash_Sum.S
  rw [z_hash]
  intro i1 f1
  have s1 := (Sp.nil G).row f1 (.agg ((List.replicate 32 (0 : UInt8)).map u8v))
  refine strings_Join.use (h.ch f1.ch) hN hl ?_
  unfold sha at hQ
  revert hQ hl
  generalize xs.flatten = s
  intro hl hQ
  obtain ⟨D, hD⟩ : ∃ D, chain ((pad s).length / 64) H256 (pad s) = D := ⟨_, rfl⟩
  rw [hD] at hQ
  have hD8 : D.length = 8 := by rw [← hD]; exact length_chain _ _ rfl
  have hlen : ∀ G (l : List UInt8), vlen T G t_string (.str l) = some (.int .i64 (l.length : Nat)) := fun _ _ => rfl
  rw [hlen, wv_some]
  refine build1 (T := T) (ts := t_sl_uint8) (e := t_uint8) (si := ti_sl_uint8) (ie := ti_uint8) T_sl_uint8 rfl T_uint8 rfl rfl (by decide) fun pd G7 h7 c7 => ?_
  have s7 := s1.new (p := OwnL 1 pd ([(128 : UInt8)].map u8v)) ⟨h7, rfl⟩ c7
  intro R8 hR8
  obtain ⟨zt, hzt⟩ : ∃ zt, zt = (119 - s.length % 64) % 64 := ⟨_, rfl⟩
  have loop1 : ∀ (n z : Nat) (pd : AVal) (G' : Heap), zt - z = n → z ≤ zt → Sp [] G [OwnL 1 pd (((128 : UInt8) :: List.replicate z 0).map u8v), RowL i1 (.agg ((List.replicate 32 (0 : UInt8)).map u8v))] G' →
      R8 [.ptr i1 [] 0, .str s, .int .i64 (s.length : Nat), pd] G' := by
    intro n
    induction n with
    | zero =>
      intro z pd G' hn hz hs
      have : z = zt := by omega
      subst this
      obtain ⟨F, ho, _⟩ := hs.get (i := 0) rfl
      refine hR8 _ _ _ _ _ ?_
      rw [own_len ho, wv_some, vbin_add, wv_some, List.length_cons, List.length_replicate, i64_in (by omega) (by omega), vbin_rem _ _ _ _ _ (by decide), wv_some]
      have hm : ((s.length : Int) + ((z + 1 : Nat) : Int)).tmod 64 = 56 := by
        rw [Int.tmod_eq_emod_of_nonneg (by omega)]
        omega
      rw [hm, vbin_neq, wv_some, brB_ndec]
      refine ⟨fun h => absurd rfl h, fun _ => ?_⟩
      intro R22 hR22
      have loop2 : ∀ (m : Nat) (k : Nat) (bs : List UInt8) (pd : AVal) (G' : Heap), 8 - k = m → k ≤ 8 → bs ++ bytesBE m (8 * s.length) = (128 : UInt8) :: (List.replicate z 0 ++ bytesBE 8 (8 * s.length)) → bs.length ≤ 200 →
          Sp [] G [OwnL 1 pd (bs.map u8v), RowL i1 (.agg ((List.replicate 32 (0 : UInt8)).map u8v))] G' → R22 [.ptr i1 [] 0, .str s, .int .i64 (s.length : Nat), pd, .int .i64 (k : Int)] G' := by
        intro m
        induction m with
        | zero =>
          intro k bs pd G' hm hk he hbl hs
          have : k = 8 := by omega
          subst this
          rw [bytesBE, List.append_nil] at he
          subst he
          obtain ⟨F, ho, _⟩ := hs.get (i := 0) rfl
          refine hR22 _ _ _ _ _ _ ?_
          rw [vbin_lss, wv_some, brB_dec]
          refine ⟨fun h => absurd h (by decide), fun _ => ?_⟩
          rw [conv_bytes T_sl_uint8 rfl T_uint8 rfl T_string rfl ho.is, wv_some, vbin_sadd _ _ (by omega), wv_some]
          have hpad : s ++ (128 : UInt8) :: (List.replicate z 0 ++ bytesBE 8 (8 * s.length)) = pad s := by rw [pad, ← hzt]
          rw [hpad]
          refine wv_of (v := .agg (u32s H256)) (by kernel_rfl) ?_
          have sA := hs.erase 0
          rw [z8]
          intro i44 f44
          have s45 := sA.row f44 (.agg (u32s (List.replicate 8 0)))
          rw [ar8_store (by simp) (ws' := H256) rfl (RowL.own (i := 0) s45 rfl), wg_some]
          have s46 := Sp.setRow s45 (j := 0) rfl (.agg (u32s H256))
          refine hash_constants.use fun G48 c48 => ?_
          have s48 := s46.tmp c48
          rw [z64]
          intro i49 f49
          have s50 := s48.row f49 (.agg (u32s (List.replicate 64 0)))
          rw [ar64_store (by simp) (ws' := K256) rfl (RowL.own (i := 0) s50 rfl), wg_some]
          have s51 := Sp.setRow s50 (j := 0) rfl (.agg (u32s K256))
          intro R52 hR52
          have loop3 : ∀ (n : Nat) (m : List UInt8) (h : List Nat) (G' : Heap), m.length = 64 * n → h.length = 8 → chain n h m = D →
              Sp [] G [RowL i49 (.agg (u32s K256)), RowL i44 (.agg (u32s h)), RowL i1 (.agg ((List.replicate 32 (0 : UInt8)).map u8v))] G' → R52 [.ptr i1 [] 0, .str m, .ptr i44 [] 0, .ptr i49 [] 0] G' := by
            intro n
            induction n with
            | zero =>
              intro m h G' hm hh he hs
              have : m = [] := List.length_eq_zero_iff.1 hm
              subst this
              have he : h = D := he
              subst he
              refine hR52 _ _ _ _ _ ?_
              rw [vbin_sneq, wv_some, brB_ndec]
              refine ⟨fun h => absurd rfl h, fun _ => ?_⟩
              intro i65 f65
              have s66 := hs.row f65 (.agg ((List.replicate 32 (0 : UInt8)).map u8v))
              intro R67 hR67
              refine digest_loop (p := 0) (q := 2) (x0 := .ptr i1 [] 0) hh (by simp) (by decide) (ps := [RowL i65 (.agg ((List.replicate 32 (0 : UInt8)).map u8v)), RowL i49 (.agg (u32s K256)), RowL i44 (.agg (u32s h)), RowL i1 (.agg ((List.replicate 32 (0 : UInt8)).map u8v))]) rfl R67 _ hR67 s66 fun G9 h9 => ?_
              have hz := length_digest h
              rw [load_hash hz (RowL.own (i := 0) h9 rfl), wv_some, store_hash (by simp) hz (RowL.own (i := 3) h9 rfl), wg_some, load_hash hz (Heap.upd_self _ _ _), wv_some]
              exact hQ _ (Sp.setRow h9 (j := 3) rfl (.agg ((digest h).map u8v))).ch
            | succ n ih =>
              intro m h G' hm hh he hs
              refine hR52 _ _ _ _ _ ?_
              rw [vbin_sneq, wv_some, brB_ndec]
              refine ⟨fun _ => ?_, fun h => absurd (congrArg List.length h) (by rw [hm]; simp)⟩
              rw [ar8_load hh (RowL.own (i := 1) hs rfl), wv_some, str_cut (by omega) (by omega), wv_some]
              refine hash_turned.use hh (by simp; omega) (RowL.own (i := 0) hs rfl) fun G9 c9 => ?_
              have s9 := hs.tmp c9
              have hc8 : (compress h (m.take 64)).length = 8 := length_compress hh
              show wg (vstore T G9 t_ar8_uint32 (.ptr i44 [] 0) (.agg (u32s (compress h (m.take 64))))) _
              rw [ar8_store hh hc8 (RowL.own (i := 1) s9 rfl), wg_some, str_rest (by omega) (by omega), wv_some]
              exact ih (m.drop 64) _ _ (by simp; omega) hc8 he (Sp.setRow s9 (j := 1) rfl _)
          have hp := length_pad s
          exact loop3 ((pad s).length / 64) (pad s) H256 _ (by omega) rfl hD s51
        | succ m ih =>
          intro k bs pd G' hm hk he hbl hs
          refine hR22 _ _ _ _ _ _ ?_
          rw [vbin_lss, wv_some, brB_dec]
          refine ⟨fun _ => ?_, fun h => absurd (by omega) h⟩
          rw [vbin_mul, wv_some, i64_in (by omega) (by omega), vconv_int T_int T_uint64 rfl, wv_some, u64_in (by omega) (by omega), vbin_mul, wv_some, i64_in (by omega) (by omega), vbin_sub, wv_some, i64_in (by omega) (by omega)]
          have e8 : (8 : Int) * (s.length : Nat) = ((8 * s.length : Nat) : Int) := by omega
          rw [e8, shr_to_u8 (m := m) (by omega) (by omega), wv_some, vconv_int T_uint64 T_uint8 rfl, wv_some, wrapU8]
          have eb : (AVal.int .u8 (((8 * s.length / 2 ^ (8 * m) : Nat) : Int) % 256)) = u8v (UInt8.ofNat (8 * s.length / 2 ^ (8 * m))) := by rw [u8v_ofNat]; rfl
          rw [eb]
          have hbl' : bs.length + (m + 1) ≤ 72 + 1 := by
            have := congrArg List.length he
            simp only [List.length_append, length_bytesBE, List.length_cons, List.length_replicate] at this
            omega
          refine grow1 (i := 0) hs rfl (by omega) fun s' G9 s9 => ?_
          rw [vbin_add, wv_some, i64_in (by omega) (by omega)]
          refine ih (k + 1) _ s' G9 (by omega) (by omega) ?_ (by simp; omega) s9
          rw [bytesBE] at he
          rw [List.append_assoc, List.singleton_append]
          exact he
      exact loop2 8 0 ((128 : UInt8) :: List.replicate z 0) pd G' rfl (by omega) rfl (by simp; omega) hs
    | succ n ih =>
      intro z pd G' hn hz hs
      obtain ⟨F, ho, _⟩ := hs.get (i := 0) rfl
      refine hR8 _ _ _ _ _ ?_
      rw [own_len ho, wv_some, vbin_add, wv_some, List.length_cons, List.length_replicate, i64_in (by omega) (by omega), vbin_rem _ _ _ _ _ (by decide), wv_some]
      have hm : ((s.length : Int) + ((z + 1 : Nat) : Int)).tmod 64 ≠ 56 := by
        rw [Int.tmod_eq_emod_of_nonneg (by omega)]
        omega
      rw [vbin_neq, wv_some, brB_ndec]
      refine ⟨fun _ => ?_, fun h => absurd h hm⟩
      refine grow1 (i := 0) (b := 0) hs rfl (by simp; omega) fun s' G9 s9 => ?_
      refine ih (z + 1) s' G9 (by omega) (by omega) ?_
      have : (128 : UInt8) :: List.replicate (z + 1) 0 = (128 : UInt8) :: List.replicate z 0 ++ [0] := by rw [List.replicate_succ']; rfl
      rw [this]
      exact s9
  exact loop1 zt 0 pd G7 rfl (by omega) s7

end
end Go.Esc.M

/- Own work. Chapter 2: a sum under a key, in the program; the document's sum: blocks. -/
set_option linter.unusedSimpArgs false
set_option linter.unusedVariables false
set_option maxRecDepth 20000
namespace Go.Esc
open Go Go.RowKit

/-- The first ones of one list, then those of another. -/
def mix {α : Type} (D X : List α) (j : Nat) : List α := D.take j ++ X.drop j
theorem mix_zero {α : Type} (D X : List α) : mix D X 0 = X := by simp [mix]
theorem mix_full {α : Type} {D X : List α} (h : D.length = X.length) : mix D X X.length = D := by simp [mix, ← h]
theorem mix_get {α : Type} {D X : List α} {j : Nat} (h : D.length = X.length) (hj : j < X.length) : (mix D X j)[j]? = some X[j] := by
  unfold mix
  have hl : (D.take j).length = j := by simp; omega
  rw [List.getElem?_append_right (by omega), hl, Nat.sub_self, List.getElem?_drop, Nat.add_zero, List.getElem?_eq_getElem hj]
theorem mix_set {α : Type} {D X : List α} {j : Nat} (h : D.length = X.length) (hj : j < X.length) : (mix D X j).set j (D[j]'(by omega)) = mix D X (j + 1) := by
  unfold mix
  have hl : (D.take j).length = j := by simp; omega
  rw [List.set_append_right _ _ (by omega), hl, Nat.sub_self, List.drop_eq_getElem_cons hj, List.set_cons_zero, List.take_succ_eq_append_getElem (by omega), List.append_assoc]
  rfl

theorem word4 {b0 b1 b2 b3 : Nat} (h0 : b0 < 256) (h1 : b1 < 256) (h2 : b2 < 256) (h3 : b3 < 256) : or32 (or32 (or32 (shl32 24 b0) (shl32 16 b1)) (shl32 8 b2)) b3 = ((b0 * 256 + b1) * 256 + b2) * 256 + b3 := by
  have e1 : shl32 16 b1 = 2 ^ 16 * b1 := by unfold shl32; omega
  have e2 : shl32 8 b2 = 2 ^ 8 * b2 := by unfold shl32; omega
  have e3 : 2 ^ 24 * b0 + 2 ^ 16 * b1 = shl32 16 (256 * b0 + b1) := by unfold shl32; omega
  have e4 : 2 ^ 16 * (256 * b0 + b1) + 2 ^ 8 * b2 = shl32 8 (256 * (256 * b0 + b1) + b2) := by unfold shl32; omega
  rw [e1, e2, or_low 24 _ _ (by omega) (by omega), e3, or_low 16 _ _ (by omega) (by omega), e4, or_low 8 _ _ (by omega) (by omega)]
  omega

theorem shr_i64 {v m : Nat} {s : Int} {kk : IntKind} (hs : s = ((8 * m : Nat) : Int)) (hm : m ≤ 7) {T : Tbl} {t : TypeId} : vbin T .shr t (.int .i64 (v : Int)) (.int kk s) = some (.int .i64 ((v / 2 ^ (8 * m) : Nat) : Int)) := by
  subst hs
  rw [vbin_shr _ _ _ _ _ _ (by omega)]
  have h1 : min ((8 * m : Nat) : Int).toNat IntKind.i64.bits = 8 * m := by
    have : IntKind.i64.bits = 64 := rfl
    omega
  have h2 : ((2 : Int) ^ (8 * m)) = ((2 ^ (8 * m) : Nat) : Int) := by simp
  rw [h1, h2, Int.fdiv_eq_ediv_of_nonneg _ (Int.natCast_nonneg _)]
  congr 2

theorem IsSl.ch {n : Nat} {G G' : Heap} {E : List AId} {v : AVal} {vs : List AVal} (h : IsSl n G v vs) (hc : Ch [] G E G') : IsSl n G' v vs := h.le fun j o hj => hc.others j o hj (by simp)

theorem length_overK {key : List UInt8} (h : key.length = 32) (c : UInt8) : (overK key c).length = 64 := by simp [overK, h]

end Go.Esc
namespace Go.Esc.M
open Go Go.Esc

section
variable {G : Heap} {Q : AVal → Heap → Prop}

theorem vslice_ar64 {i : AId} : vslice T t_ar64_uint8 (.ptr i [] 0) none none none = some (.slice i [] 0 0 64 64) := by
  have e1 : T t_ar64_uint8 = some ti_ar64_uint8 := T_ar64_uint8
  have e2 : ti_ar64_uint8.desc = .array 64 t_uint8 := rfl
  simp [vslice, e1, e2, T_uint8, sbounds, sbound]

theorem hash_over.use {key : List UInt8} {c : UInt8} (hk : key.length = 32) (hQ : ∀ G', Ch [] G [] G' → Q (.str (overK key c)) G') : ACalls P hash_over.n [.agg (key.map u8v), u8v c] G Q := by
  refine hash_over.sound ?_
  unfold hash_over.S
  have hz : z_ar64_uint8 = .agg ((List.replicate 64 (0 : UInt8)).map u8v) := rfl
  rw [hz]
  intro i1 f1
  have s1 := (Sp.nil G).row f1 (.agg (key.map u8v))
  intro i3 f3
  have s3 := s1.row f3 (.agg ((List.replicate 64 (0 : UInt8)).map u8v))
  rw [vslice_ar64, wv_some, vslice_hash, wv_some]
  have hX : (key ++ List.replicate 32 0).length = 64 := by simp [hk]
  refine s3.call (i := 0) rfl (RowL i3 (.agg ((key ++ List.replicate 32 (0 : UInt8)).map u8v))) fun F h k => ?_
  obtain ⟨h, rfl⟩ := h
  refine copy_bytes (row_is (RowL.own (i := 1) s3 rfl) hk).elems h (by simp) (by omega) fun G8 g8 c8 => ?_
  have e8 : key ++ (List.replicate 64 (0 : UInt8)).drop key.length = key ++ List.replicate 32 0 := by rw [List.drop_replicate, hk]
  rw [e8] at g8
  have s8 := k _ _ ⟨g8, rfl⟩ c8
  intro R9 hR9
  have hD : (overK key c).length = (key ++ List.replicate 32 (0 : UInt8)).length := by simp [overK]
  have loop : ∀ (n j : Nat) (G' : Heap), 64 - j = n → j ≤ 64 → Sp [] G [RowL i3 (.agg ((mix (overK key c) (key ++ List.replicate 32 0) j).map u8v)), RowL i1 (.agg (key.map u8v))] G' → R9 [u8v c, .ptr i3 [] 0, .int .i64 (j : Int)] G' := by
    intro n
    induction n with
    | zero =>
      intro j G' hn hj hs
      have : j = (key ++ List.replicate 32 (0 : UInt8)).length := by omega
      subst this
      have g3 := RowL.own (i := 0) hs rfl
      rw [mix_full hD] at g3
      refine hR9 _ _ _ _ ?_
      rw [vbin_lss, wv_some, brB_dec]
      refine ⟨fun h => absurd h (by omega), fun _ => ?_⟩
      rw [vslice_ar64, wv_some, conv_bytes T_sl_uint8 rfl T_uint8 rfl T_string rfl (row_is g3 (length_overK hk c)), wv_some]
      exact hQ _ hs.ch
    | succ n ih =>
      intro j G' hn hj hs
      have hj64 : j < 64 := by omega
      have g3 := RowL.own (i := 0) hs rfl
      have hg : ((mix (overK key c) (key ++ List.replicate 32 0) j).map u8v)[j]? = some (u8v ((key ++ List.replicate 32 (0 : UInt8))[j]'(by omega))) := by
        rw [List.getElem?_map, mix_get hD (by omega)]; rfl
      have ad : viaddr T t_ar64_uint8 (.ptr i3 [] 0) (.int .i64 (j : Int)) = some (.ptr i3 [j] j) := arr_addr T_ar64_uint8 rfl T_uint8 rfl rfl hj64
      refine hR9 _ _ _ _ ?_
      rw [vbin_lss, wv_some, brB_dec]
      refine ⟨fun _ => ?_, fun h => absurd (by omega) h⟩
      rw [ad, wv_some, arr_get T_uint8 g3 (uni_u8 _) hg rfl, wv_some, u8_xor, wv_some, wv_some]
      refine wg_of (arr_set T_uint8 g3 (uni_u8 _) hg rfl rfl rfl) ?_
      rw [vbin_add, wv_some, i64_in (by omega) (by omega)]
      have hset : ((mix (overK key c) (key ++ List.replicate 32 0) j).map u8v).set j (u8v ((key ++ List.replicate 32 (0 : UInt8))[j]'(by omega) ^^^ c)) = (mix (overK key c) (key ++ List.replicate 32 0) (j + 1)).map u8v := by
        have e : (key ++ List.replicate 32 (0 : UInt8))[j]'(by omega) ^^^ c = (overK key c)[j]'(by omega) := by simp only [overK, List.getElem_map]
        rw [e, ← List.map_set, mix_set hD (by omega)]
      rw [hset]
      exact ih (j + 1) _ (by omega) (by omega) (Sp.setRow hs (j := 0) rfl _)
  exact loop 64 0 G8 rfl (by omega) (by rw [mix_zero]; exact s8)

theorem own_cap2 {a b : List UInt8} {v : AVal} (h : Own 1 G v [.str a, .str b]) : CapSl 1 G v ([a, b].map .str) := h.cap

set_option maxHeartbeats 1000000 in
theorem hash_Mac.use {key text : List UInt8} (hk : key.length = 32) (hl : text.length ≤ 281474976710592) (hQ : ∀ G', Ch [] G [] G' → Q (.agg ((mac key text).map u8v)) G') : ACalls P hash_Mac.n [.agg (key.map u8v), .str text] G Q := by
  refine hash_Mac.sound ?_
  unfold hash_Mac.S
  rw [z_hash]
  intro i1 f1
  have s1 := (Sp.nil G).row f1 (.agg (key.map u8v))
  intro i3 f3
  have s3 := s1.row f3 (.agg ((List.replicate 32 (0 : UInt8)).map u8v))
  rw [load_hash hk (RowL.own (i := 1) s3 rfl), wv_some]
  refine hash_over.use (c := 0x36) hk fun G7 c7 => ?_
  have s7 := s3.tmp c7
  have hlo := length_overK hk 0x36
  have hlo' := length_overK hk 0x5c
  refine build2 (T := T) (ts := t_sl_string) (e := t_string) (si := ti_sl_string) (ie := ti_string) T_sl_string rfl T_string rfl rfl rfl (by decide) fun v8 G9 o9 c9 => ?_
  have s9 := s7.tmp c9
  refine hash_Sum.use (own_cap2 o9) (by simp) (by simp; omega) fun G11 c11 => ?_
  have s11 := s9.tmp c11
  have e1 : [overK key 0x36, text].flatten = overK key 0x36 ++ text := by simp
  rw [e1]
  have hs1 := length_sha (overK key 0x36 ++ text)
  intro i12 f12
  have s13 := s11.row f12 (.agg ((List.replicate 32 (0 : UInt8)).map u8v))
  rw [store_hash (by simp) hs1 (RowL.own (i := 0) s13 rfl), wg_some]
  have s14 := Sp.setRow s13 (j := 0) rfl (.agg ((sha (overK key 0x36 ++ text)).map u8v))
  rw [load_hash hk (RowL.own (i := 2) s14 rfl), wv_some, vslice_hash, wv_some, conv_bytes T_sl_uint8 rfl T_uint8 rfl T_string rfl (row_is (RowL.own (i := 0) s14 rfl) hs1), wv_some]
  refine hash_over.use (c := 0x5c) hk fun G19 c19 => ?_
  have s19 := s14.tmp c19
  have fin : ∀ G20, Sp [] G [RowL i12 (.agg ((sha (overK key 0x36 ++ text)).map u8v)), RowL i3 (.agg ((List.replicate 32 (0 : UInt8)).map u8v)), RowL i1 (.agg (key.map u8v))] G20 →
      aBuildSlice T t_sl_string 2 [(0, .str (overK key 0x5c)), (1, .str (sha (overK key 0x36 ++ text)))] G20 fun v20 G21 => ACalls P hash_Sum.n [v20] G21 fun v22 G23 => wg (vstore T G23 t_api_Hash (.ptr i3 [] 0) v22) fun G24 => wv (vload T G24 t_api_Hash (.ptr i3 [] 0)) fun v25 => Q v25 G24 := by
    intro G20 s20
    refine build2 (T := T) (ts := t_sl_string) (e := t_string) (si := ti_sl_string) (ie := ti_string) T_sl_string rfl T_string rfl rfl rfl (by decide) fun v8 G21 o21 c21 => ?_
    have s21 := s20.tmp c21
    refine hash_Sum.use (own_cap2 o21) (by simp) (by simp; omega) fun G23 c23 => ?_
    have s23 := s21.tmp c23
    have e1 : [overK key 0x5c, sha (overK key 0x36 ++ text)].flatten = overK key 0x5c ++ sha (overK key 0x36 ++ text) := by simp
    rw [e1]
    have hm : (mac key text).length = 32 := length_sha _
    show wg (vstore T G23 t_api_Hash (.ptr i3 [] 0) (.agg ((mac key text).map u8v))) _
    rw [store_hash (by simp) hm (RowL.own (i := 1) s23 rfl), wg_some, load_hash hm (Heap.upd_self _ _ _), wv_some]
    exact hQ _ (Sp.setRow s23 (j := 1) rfl (.agg ((mac key text).map u8v))).ch
  first
  | exact fin _ s19
  | exact ⟨⟨conv_bytes T_sl_uint8 rfl T_uint8 rfl T_string rfl (row_is (RowL.own (i := 0) s19 rfl) hs1), load_hash hk (RowL.own (i := 2) s19 rfl), trivial⟩, fin _ s19⟩
  | exact ⟨⟨conv_bytes T_sl_uint8 rfl T_uint8 rfl T_string rfl (row_is (RowL.own (i := 0) s19 rfl) hs1), trivial⟩, fin _ s19⟩

theorem escrowref02_rot.use {a r : Nat} {m : Int} (hm : m = (r : Int)) (h1 : 1 ≤ r) (h2 : r ≤ 31) (hQ : Q (.int .u32 (rotr r a : Nat)) G) : ACalls P escrowref02_rot.n [.int .u32 (a : Int), .int .i64 m] G Q := by
  subst hm
  refine escrowref02_rot.sound ?_
  unfold escrowref02_rot.S
  rw [u32_shr (k := r) rfl (by omega), wv_some, vbin_sub, wv_some, i64_in (by omega) (by omega), u32_shl (k := 32 - r) (by omega) (by omega), wv_some, u32_or, wv_some]
  exact hQ

theorem escrowref02_rounds.use (hQ : ∀ G', Ch [] G [] G' → Q (.agg (u32s K256)) G') : ACalls P escrowref02_rounds.n [] G Q := by
  refine escrowref02_rounds.sound ?_
  unfold escrowref02_rounds.S
  intro i1 f1
  refine wv_of (v := .agg (u32s K256)) (by kernel_rfl) ?_
  rw [z64]
  have s1 := (Sp.nil G).row f1 (.agg (u32s (List.replicate 64 0)))
  rw [ar64_store (by simp) (ws' := K256) rfl (RowL.own (i := 0) s1 rfl), wg_some, ar64_load rfl (Heap.upd_self _ _ _), wv_some]
  exact hQ _ (Sp.setRow s1 (j := 0) rfl (.agg (u32s K256))).ch

end
end Go.Esc.M

/- Own work. Chapter 2: the document's sum. -/
set_option linter.unusedSimpArgs false
set_option linter.unusedVariables false
set_option maxRecDepth 20000
namespace Go.Esc.M
open Go Go.Esc

section
variable {G : Heap} {Q : AVal → Heap → Prop}

theorem by_at {v : AVal} {p : List UInt8} {j : Nat} {m : Int} (h : IsSl 1 G v (p.map u8v)) (hm : m = (j : Int)) (hj : j < p.length) : ∃ a, viaddr T t_sl_uint8 v (.int .i64 m) = some a ∧ vload T G t_uint8 a = some (u8v p[j]) := by
  subst hm
  exact h.at_ (k := .i64) (i := ti_sl_uint8) (ie := ti_uint8) (T := T) (t := t_sl_uint8) (e := t_uint8) T_sl_uint8 rfl T_uint8 (by rw [List.getElem?_map, List.getElem?_eq_getElem hj]; rfl) rfl

theorem u8v_to_u32 (b : UInt8) : vconv T G t_uint8 t_uint32 (u8v b) = some (.int .u32 (b.toNat : Nat)) := u8_to_u32 b

set_option maxHeartbeats 4000000 in
theorem escrowref02_block.use {s : List Nat} {p : List UInt8} {v : AVal} {at_ : Nat} (hs8 : s.length = 8) (hp : IsSl 1 G v (p.map u8v)) (hat : at_ + 64 ≤ p.length) (hpl : p.length ≤ 9223372036854775807) (hQ : ∀ G', Ch [] G [] G' → Q (.agg (u32s (compress s ((p.drop at_).take 64)))) G') :
    ACalls P escrowref02_block.n [.agg (u32s s), v, .int .i64 (at_ : Int)] G Q := by
  refine escrowref02_block.sound ?_
  unfold escrowref02_block.S
  rw [z8, z64]
  unfold compress at hQ
  obtain ⟨b, hbd⟩ : ∃ b, (p.drop at_).take 64 = b := ⟨_, rfl⟩
  rw [hbd] at hQ
  have hb64 : b.length = 64 := by rw [← hbd]; simp; omega
  have hbj : ∀ j, (hj : j < 64) → b[j]'(by omega) = p[at_ + j]'(by omega) := by
    intro j hj
    subst hbd
    simp
  obtain ⟨W, hW⟩ : ∃ W, sched 48 (words b 16) = W := ⟨_, rfl⟩
  have hW64 : W.length = 64 := by rw [← hW, length_sched, length_words]
  rw [hW] at hQ
  obtain ⟨fin, hfin⟩ : ∃ f, rnds K256 W s = f := ⟨_, rfl⟩
  rw [hfin] at hQ
  intro i1 f1
  have s1 := (Sp.nil G).row f1 (.agg (u32s s))
  intro i3 f3
  have s3 := s1.row f3 (.agg (u32s (List.replicate 8 0)))
  refine escrowref02_rounds.use fun G6 c6 => ?_
  have s6 := s3.tmp c6
  intro i7 f7
  have s7 := s6.row f7 (.agg (u32s (List.replicate 64 0)))
  rw [ar64_store (by simp) (ws' := K256) rfl (RowL.own (i := 0) s7 rfl), wg_some]
  have s9 := Sp.setRow s7 (j := 0) rfl (.agg (u32s K256))
  intro i10 f10
  have s11 : Sp [] G [RowL i10 (.agg (filled 64 [])), RowL i7 (.agg (u32s K256)), RowL i3 (.agg (u32s (List.replicate 8 0))), RowL i1 (.agg (u32s s))] _ := s9.row f10 (.agg (u32s (List.replicate 64 0)))
  revert s11
  generalize Heap.upd _ i10 (.own (.agg (u32s (List.replicate 64 0)))) = G11
  intro s11 R12 hR12
  have loop1 : ∀ (n i : Nat) (G' : Heap), 16 - i = n → i ≤ 16 → Sp [] G [RowL i10 (.agg (filled 64 (words b i))), RowL i7 (.agg (u32s K256)), RowL i3 (.agg (u32s (List.replicate 8 0))), RowL i1 (.agg (u32s s))] G' →
      R12 [v, .int .i64 (at_ : Int), .ptr i1 [] 0, .ptr i3 [] 0, .ptr i7 [] 0, .ptr i10 [] 0, .int .i64 (i : Int)] G' := by
    intro n
    induction n with
    | zero =>
      intro i G' hn hi hs
      have : i = 16 := by omega
      subst this
      refine hR12 _ _ _ _ _ _ _ _ ?_
      rw [vbin_lss, wv_some, brB_dec]
      refine ⟨fun h => absurd h (by decide), fun _ => ?_⟩
      intro R48 hR48
      have loop2 : ∀ (n : Nat) (ws : List Nat) (G' : Heap), 64 - ws.length = n → 16 ≤ ws.length → ws.length ≤ 64 → sched n ws = W → Sp [] G [RowL i10 (.agg (filled 64 ws)), RowL i7 (.agg (u32s K256)), RowL i3 (.agg (u32s (List.replicate 8 0))), RowL i1 (.agg (u32s s))] G' →
          R48 [.ptr i1 [] 0, .ptr i3 [] 0, .ptr i7 [] 0, .ptr i10 [] 0, .int .i64 (ws.length : Int)] G' := by
        intro n
        induction n with
        | zero =>
          intro ws G' hn h16 h64 he hs
          have hl : ws.length = 64 := by omega
          have he : ws = W := he
          subst he
          rw [filled_full hl] at hs
          refine hR48 _ _ _ _ _ _ ?_
          rw [vbin_lss, wv_some, brB_dec]
          refine ⟨fun h => absurd h (by omega), fun _ => ?_⟩
          rw [ar8_load hs8 (RowL.own (i := 3) hs rfl), wv_some]
          intro i89 f89
          have s90 := hs.row f89 (.agg (u32s (List.replicate 8 0)))
          rw [ar8_store (by simp) hs8 (RowL.own (i := 0) s90 rfl), wg_some]
          have s91 : Sp [] G [RowL i89 (.agg (u32s s)), RowL i10 (.agg (u32s ws)), RowL i7 (.agg (u32s K256)), RowL i3 (.agg (u32s (List.replicate 8 0))), RowL i1 (.agg (u32s s))] _ := Sp.setRow s90 (j := 0) rfl (.agg (u32s s))
          revert s91
          generalize Heap.upd _ i89 (.own (.agg (u32s s))) = G91
          intro s91 R92 hR92
          have loop3 : ∀ (n t : Nat) (r : List Nat) (G' : Heap), 64 - t = n → t ≤ 64 → r.length = 8 → rnds (K256.drop t) (ws.drop t) r = fin → Sp [] G [RowL i89 (.agg (u32s r)), RowL i10 (.agg (u32s ws)), RowL i7 (.agg (u32s K256)), RowL i3 (.agg (u32s (List.replicate 8 0))), RowL i1 (.agg (u32s s))] G' →
              R92 [.ptr i1 [] 0, .ptr i3 [] 0, .ptr i7 [] 0, .ptr i10 [] 0, .ptr i89 [] 0, .int .i64 (t : Int)] G' := by
            intro n
            induction n with
            | zero =>
              intro t r G' hn ht hr8 he h
              have : t = 64 := by omega
              subst this
              refine hR92 _ _ _ _ _ _ _ ?_
              rw [vbin_lss, wv_some, brB_dec]
              refine ⟨fun h => absurd h (by decide), fun _ => ?_⟩
              have he : r = fin := by
                rw [List.drop_of_length_le (by rw [length_K]; omega)] at he
                exact he
              subst he
              intro R172 hR172
              refine add_loop (p := 0) (q := 4) (x3 := .ptr i3 [] 0) hs8 hr8 (by simp) (by decide) (ps := [RowL i89 (.agg (u32s r)), RowL i10 (.agg (u32s ws)), RowL i7 (.agg (u32s K256)), RowL i3 (.agg (u32s (List.replicate 8 0))), RowL i1 (.agg (u32s s))]) rfl R172 _ hR172 h fun G9 h9 => ?_
              have hz : (List.zipWith add32 r s).length = 8 := by rw [List.length_zipWith, hr8, hs8]; rfl
              rw [ar8_load hz (RowL.own (i := 0) h9 rfl), wv_some, ar8_store (by simp) hz (RowL.own (i := 3) h9 rfl), wg_some, ar8_load hz (Heap.upd_self _ _ _), wv_some]
              exact hQ _ (Sp.setRow h9 (j := 3) rfl (.agg (u32s (List.zipWith add32 r s)))).ch
            | succ n ih =>
              intro t r G' hn ht hr8 he h
              obtain ⟨a, b, c, d, e, f, g, k, rfl⟩ := len8 hr8
              have ht64 : t < 64 := by omega
              obtain ⟨w, hw⟩ : ∃ w, ws[t]? = some w := ⟨_, List.getElem?_eq_getElem (by omega)⟩
              obtain ⟨q, hq⟩ : ∃ q, K256[t]? = some q := ⟨_, List.getElem?_eq_getElem (by rw [length_K]; omega)⟩
              have gr := RowL.own (i := 0) h rfl
              have gw := RowL.own (i := 1) h rfl
              have gc := RowL.own (i := 2) h rfl
              have L0 := words_load (j := 0) gr rfl
              have L1 := words_load (j := 1) gr rfl
              have L2 := words_load (j := 2) gr rfl
              have L3 := words_load (j := 3) gr rfl
              have L4 := words_load (j := 4) gr rfl
              have L5 := words_load (j := 5) gr rfl
              have L6 := words_load (j := 6) gr rfl
              have L7 := words_load (j := 7) gr rfl
              have LW := words_load gw hw
              have LK := words_load gc hq
              have A0 := ar8_addr (i := i89) (m := 0) (j := 0) rfl (by omega)
              have A1 := ar8_addr (i := i89) (m := 1) (j := 1) rfl (by omega)
              have A2 := ar8_addr (i := i89) (m := 2) (j := 2) rfl (by omega)
              have A3 := ar8_addr (i := i89) (m := 3) (j := 3) rfl (by omega)
              have A4 := ar8_addr (i := i89) (m := 4) (j := 4) rfl (by omega)
              have A5 := ar8_addr (i := i89) (m := 5) (j := 5) rfl (by omega)
              have A6 := ar8_addr (i := i89) (m := 6) (j := 6) rfl (by omega)
              have A7 := ar8_addr (i := i89) (m := 7) (j := 7) rfl (by omega)
              have AW := ar64_addr (i := i10) (m := (t : Int)) rfl ht64
              have AK := ar64_addr (i := i7) (m := (t : Int)) rfl ht64
              refine hR92 _ _ _ _ _ _ _ ?_
              rw [vbin_lss, wv_some, brB_dec]
              refine ⟨fun _ => ?_, fun h => absurd (by omega) h⟩
              simp -zeta only [A0, A1, A2, A3, A4, A5, A6, A7, AW, AK, vnil_ptr, wv_some, L0, L1, L2, L3, L4, L5, L6, L7, LW, LK, u32_and, u32_xor, u32_not, u32_add]
              refine escrowref02_rot.use (r := 6) (by omega) (by omega) (by omega) ⟨⟨LW, LK, L6, L5, L7, trivial⟩, ?_⟩
              refine escrowref02_rot.use (r := 11) (by omega) (by omega) (by omega) ⟨⟨LW, LK, L6, L5, L7, trivial⟩, ?_⟩
              rw [u32_xor, wv_some]
              refine escrowref02_rot.use (r := 25) (by omega) (by omega) (by omega) ⟨⟨LW, LK, L6, L5, L7, trivial⟩, ?_⟩
              simp -zeta only [AW, AK, wv_some, L0, L1, L2, L3, L4, L5, L6, L7, LW, LK, u32_and, u32_xor, u32_not, u32_add]
              refine escrowref02_rot.use (r := 2) (by omega) (by omega) (by omega) ⟨⟨L2, L1, L2, L1, trivial⟩, ?_⟩
              refine escrowref02_rot.use (r := 13) (by omega) (by omega) (by omega) ⟨⟨L2, L1, L2, L1, trivial⟩, ?_⟩
              rw [u32_xor, wv_some]
              refine escrowref02_rot.use (r := 22) (by omega) (by omega) (by omega) ⟨⟨L2, L1, L2, L1, trivial⟩, ?_⟩
              simp -zeta only [wv_some, L0, L1, L2, L3, L4, L5, L6, L7, u32_and, u32_xor, u32_not, u32_add]
              have hnext : (rnd q w [a, b, c, d, e, f, g, k]).length = 8 := rfl
              refine wv_of (v := .agg (u32s (rnd q w [a, b, c, d, e, f, g, k]))) rfl ?_
              rw [ar8_store hr8 hnext gr, wg_some, vbin_add, wv_some, i64_in (by omega) (by omega)]
              refine ih (t + 1) _ _ (by omega) (by omega) hnext ?_ (Sp.setRow h (j := 0) rfl _)
              rw [drop_cons' hq, drop_cons' hw, rnds] at he
              exact he
          exact loop3 64 0 s G91 rfl (by omega) hs8 hfin s91
        | succ n ih =>
          intro ws G' hn h16 h64 he hs
          have hl : ws.length < 64 := by omega
          have g3 := RowL.own (i := 0) hs rfl
          have ad : ∀ {m : Int} {j : Nat}, m = (j : Int) → j < 64 → viaddr T t_ar64_uint32 (.ptr i10 [] 0) (.int .i64 m) = some (.ptr i10 [j] j) := fun hm hj => arr_addr T_ar64_uint32 rfl T_uint32 rfl hm hj
          have ld : ∀ {j : Nat}, j < ws.length → vload T G' t_uint32 (.ptr i10 [j] j) = some (.int .u32 (ws.getD j 0 : Nat)) := fun hj => arr_get T_uint32 g3 (uni_filled _ _) (filled_get hj) rfl
          have l7 := ld (j := ws.length - 7) (by omega)
          have l16 := ld (j := ws.length - 16) (by omega)
          refine hR48 _ _ _ _ _ _ ?_
          rw [vbin_lss, wv_some, brB_dec]
          refine ⟨fun _ => ?_, fun h => absurd (by omega) h⟩
          rw [vbin_sub, wv_some, i64_in (by omega) (by omega), ad (j := ws.length - 15) (by omega) (by omega), wv_some, ld (by omega), wv_some]
          rw [vbin_sub, wv_some, i64_in (by omega) (by omega), ad (j := ws.length - 2) (by omega) (by omega), wv_some, ld (by omega), wv_some]
          rw [vbin_sub, wv_some, i64_in (by omega) (by omega), ad (j := ws.length - 16) (by omega) (by omega), wv_some, l16, wv_some]
          rw [u32_shr (k := 3) (n := 3) rfl (by omega), wv_some]
          rw [vbin_sub, wv_some, i64_in (by omega) (by omega), ad (j := ws.length - 7) (by omega) (by omega), wv_some, l7, wv_some]
          rw [u32_shr (k := 10) (n := 10) rfl (by omega), wv_some]
          refine escrowref02_rot.use (r := 7) (by omega) (by omega) (by omega) ⟨⟨l7, l16, trivial⟩, ?_⟩
          refine escrowref02_rot.use (r := 18) (by omega) (by omega) (by omega) ⟨⟨l7, l16, trivial⟩, ?_⟩
          rw [u32_xor, wv_some, u32_xor, wv_some, u32_add, wv_some, u32_add, wv_some]
          refine escrowref02_rot.use (r := 17) (by omega) (by omega) (by omega) ⟨⟨l7, l16, trivial⟩, ?_⟩
          refine escrowref02_rot.use (r := 19) (by omega) (by omega) (by omega) ⟨⟨l7, l16, trivial⟩, ?_⟩
          rw [u32_xor, wv_some, u32_xor, wv_some, u32_add, wv_some]
          rw [ad (j := ws.length) rfl hl, wv_some]
          refine wg_of (arr_set T_uint32 g3 (uni_filled _ _) (filled_next hl) rfl rfl rfl) ?_
          rw [vbin_add, wv_some, i64_in (by omega) (by omega), filled_set hl]
          have key := ih (ws ++ [nextW ws]) (G'.upd i10 (.own (.agg (filled 64 (ws ++ [nextW ws]))))) (by simp; omega) (by simp; omega) (by simp; omega) he (Sp.setRow hs (j := 0) rfl _)
          rw [List.length_append] at key
          exact key
      have := loop2 48 (words b 16) G' (by rw [length_words]) (by rw [length_words]; omega) (by rw [length_words]; omega) hW hs
      rwa [length_words] at this
    | succ n ih =>
      intro i G' hn hi hs
      have hi16 : i < 16 := by omega
      have hp' := hp.ch hs.ch
      refine hR12 _ _ _ _ _ _ _ _ ?_
      rw [vbin_lss, wv_some, brB_dec]
      refine ⟨fun _ => ?_, fun h => absurd (by omega) h⟩
      obtain ⟨a0, u0, w0⟩ := by_at (j := at_ + 4 * i) (m := (at_ : Int) + 4 * (i : Int)) hp' (by omega) (by omega)
      obtain ⟨a1, u1, w1⟩ := by_at (j := at_ + (4 * i + 1)) (m := (at_ : Int) + 4 * (i : Int) + 1) hp' (by omega) (by omega)
      obtain ⟨a2, u2, w2⟩ := by_at (j := at_ + (4 * i + 2)) (m := (at_ : Int) + 4 * (i : Int) + 2) hp' (by omega) (by omega)
      obtain ⟨a3, u3, w3⟩ := by_at (j := at_ + (4 * i + 3)) (m := (at_ : Int) + 4 * (i : Int) + 3) hp' (by omega) (by omega)
      rw [vbin_mul, wv_some, i64_in (by omega) (by omega), vbin_add, wv_some, i64_in (by omega) (by omega), u0, wv_some, w0, wv_some, u8v_to_u32, wv_some, u32_shl (k := 24) (n := 24) rfl (by omega), wv_some]
      rw [vbin_add, wv_some, i64_in (by omega) (by omega), u1, wv_some, w1, wv_some, u8v_to_u32, wv_some, u32_shl (k := 16) (n := 16) rfl (by omega), wv_some, u32_or, wv_some]
      rw [vbin_add, wv_some, i64_in (by omega) (by omega), u2, wv_some, w2, wv_some, u8v_to_u32, wv_some, u32_shl (k := 8) (n := 8) rfl (by omega), wv_some, u32_or, wv_some]
      rw [vbin_add, wv_some, i64_in (by omega) (by omega), u3, wv_some, w3, wv_some, u8v_to_u32, wv_some, u32_or, wv_some]
      rw [word4 (UInt8.toNat_lt _) (UInt8.toNat_lt _) (UInt8.toNat_lt _) (UInt8.toNat_lt _)]
      have hword : ((p[at_ + 4 * i].toNat * 256 + p[at_ + (4 * i + 1)].toNat) * 256 + p[at_ + (4 * i + 2)].toNat) * 256 + p[at_ + (4 * i + 3)].toNat = word b i := by
        have e4 : (b.drop (4 * i)).take 4 = [b[4 * i], b[4 * i + 1], b[4 * i + 2], b[4 * i + 3]] := by
          rw [List.drop_eq_getElem_cons (by omega), List.drop_eq_getElem_cons (by omega), List.drop_eq_getElem_cons (by omega), List.drop_eq_getElem_cons (by omega)]
          rfl
        rw [word, e4, hbj _ (by omega), hbj _ (by omega), hbj _ (by omega), hbj _ (by omega)]
        simp [num32]
      rw [hword]
      have hwl := length_words b i
      have ad : viaddr T t_ar64_uint32 (.ptr i10 [] 0) (.int .i64 (i : Int)) = some (.ptr i10 [i] i) := arr_addr T_ar64_uint32 rfl T_uint32 rfl rfl (by omega)
      have hnx := filled_next (n := 64) (ws := words b i) (by omega)
      have hst := filled_set (n := 64) (ws := words b i) (x := word b i) (by omega)
      rw [hwl] at hnx hst
      rw [ad, wv_some]
      refine wg_of (arr_set T_uint32 (RowL.own (i := 0) hs rfl) (uni_filled _ _) hnx rfl rfl rfl) ?_
      rw [vbin_add, wv_some, i64_in (by omega) (by omega), hst, ← words_succ]
      exact ih (i + 1) _ (by omega) (by omega) (Sp.setRow hs (j := 0) rfl _)
  exact loop1 16 0 G11 rfl (by omega) s11

end
end Go.Esc.M

/- Own work. Hashes handed about: pairs of a hash and a fault; new rows; numbers halved. -/
set_option linter.unusedSimpArgs false
set_option linter.unusedVariables false
set_option maxRecDepth 20000
namespace Go.Esc.M
open Go Go.Esc

def tupHI (x : List UInt8 × Int) : AVal := .tuple [.agg (x.1.map u8v), .int .i64 x.2]
theorem hi0 (x : List UInt8 × Int) : vextract (tupHI x) 0 = some (.agg (x.1.map u8v)) := rfl
theorem hi1 (x : List UInt8 × Int) : vextract (tupHI x) 1 = some (.int .i64 x.2) := rfl
theorem hash_neq2 {a b : List UInt8} (ha : a.length = 32) (hb : b.length = 32) : vbin T .neq t_api_Hash (.agg (a.map u8v)) (.agg (b.map u8v)) = some (.bool (!decide (a = b))) := vbin_hneq T_api_Hash rfl T_uint8 rfl rfl ha hb
theorem zero_hash2 : vbuild T t_api_Hash [] = some (.agg ((List.replicate 32 (0 : UInt8)).map u8v)) := rfl
theorem fits32 {h : List UInt8} (hl : h.length = 32) : vfits ti_api_Hash (.agg (h.map u8v)) = true := by simp [vfits, sz, szs_uni (uni_u8 h), hl, ti_api_Hash, AVal.isAgg, ADesc.isAgg]
theorem sz32 {h : List UInt8} (hl : h.length = 32) : sz z_api_Hash = sz (.agg (h.map u8v)) := by rw [z_hash, sz, sz, szs_uni (uni_u8 h), szs_uni (uni_u8 _)]; simp [hl]
theorem okv32 (h : List UInt8) : okv (.agg (h.map u8v)) = true := by simp [okv, okvs_u8]
end Go.Esc.M
