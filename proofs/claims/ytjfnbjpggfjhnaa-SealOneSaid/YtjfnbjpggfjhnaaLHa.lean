/- Own work. Chapter 2: the sum, in the program. -/
import Derived.Test.YtjfnbjpggfjhnaaLSh
import Derived.Test.YtjfnbjpggfjhnaaLHh
import Derived.Test.YtjfnbjpggfjhnaaLib
set_option linter.unusedSimpArgs false
set_option linter.unusedVariables false
namespace Go.Esc

theorem wv_of {o : Option AVal} {v : AVal} {K : AVal → Prop} (h : o = some v) (k : K v) : wv o K := by rw [h]; exact k
theorem wg_of {o : Option Heap} {v : Heap} {K : Heap → Prop} (h : o = some v) (k : K v) : wg o K := by rw [h]; exact k

/-! Lists of words. -/
theorem getD_some {l : List Nat} {j : Nat} (h : j < l.length) : l[j]? = some (l.getD j 0) := by
  rw [List.getD_eq_getElem?_getD, List.getElem?_eq_getElem h]; rfl

theorem num32_snoc : ∀ (l : List UInt8) (v : Nat) (b : UInt8), num32 v (l ++ [b]) = num32 v l * 256 + b.toNat
  | [], v, b => rfl
  | c :: l, v, b => by rw [List.cons_append, num32, num32, num32_snoc l]
theorem num32_lt : ∀ (l : List UInt8) (v : Nat), num32 v l < (v + 1) * 256 ^ l.length
  | [], v => by simp [num32]
  | b :: l, v => by
    have h := num32_lt l (v * 256 + b.toNat)
    have hb : b.toNat < 256 := b.toNat_lt
    rw [num32, List.length_cons, Nat.pow_succ]
    refine Nat.lt_of_lt_of_le h ?_
    rw [Nat.mul_comm (256 ^ l.length) 256, ← Nat.mul_assoc]
    exact Nat.mul_le_mul_right _ (by omega)

theorem or_low (k n b : Nat) (hb : b < 2 ^ k) (hn : 2 ^ k * n + b < 4294967296) : or32 (shl32 k n) b = 2 ^ k * n + b := by
  unfold or32 shl32
  rw [Nat.mod_eq_of_lt (a := 2 ^ k * n) (by omega), ← Nat.two_pow_add_eq_or_of_lt hb, Nat.mod_eq_of_lt hn]

theorem length_sched : ∀ (n : Nat) (ws : List Nat), (sched n ws).length = ws.length + n
  | 0, ws => rfl
  | n + 1, ws => by rw [sched, length_sched n]; simp; omega
theorem length_words (b : List UInt8) (n : Nat) : (words b n).length = n := by simp [words]
theorem words_succ (b : List UInt8) (n : Nat) : words b (n + 1) = words b n ++ [word b n] := by simp [words, List.range_succ]

theorem set_fill {α : Type} {ws : List α} {z x : α} {n : Nat} (hn : ws.length < n) : (ws ++ List.replicate (n - ws.length) z).set ws.length x = (ws ++ [x]) ++ List.replicate (n - (ws ++ [x]).length) z := by
  rw [List.set_append_right _ _ (Nat.le_refl _), Nat.sub_self, show n - ws.length = (n - (ws ++ [x]).length) + 1 by simp; omega, List.replicate_succ, List.set_cons_zero, List.append_assoc]
  rfl

/-- Words in a row that is filled up with zeros. -/
def filled (n : Nat) (ws : List Nat) : List AVal := u32s ws ++ List.replicate (n - ws.length) (.int .u32 ((0 : Nat) : Int))
theorem uni_filled (n : Nat) (ws : List Nat) : uni 1 (filled n ws) = true := by
  unfold filled
  exact uni_append (uni_u32s ws) (uni_replicate rfl)
theorem length_filled {n : Nat} {ws : List Nat} (h : ws.length ≤ n) : (filled n ws).length = n := by simp [filled, length_u32s]; omega
theorem filled_full {n : Nat} {ws : List Nat} (h : ws.length = n) : filled n ws = u32s ws := by simp [filled, h]
theorem filled_get {n : Nat} {ws : List Nat} {j : Nat} (h : j < ws.length) : (filled n ws)[j]? = some (.int .u32 (ws.getD j 0 : Nat)) := by
  unfold filled
  rw [List.getElem?_append_left (by rw [length_u32s]; exact h), u32s, List.getElem?_map, getD_some h]
  rfl
theorem filled_next {n : Nat} {ws : List Nat} (h : ws.length < n) : (filled n ws)[ws.length]? = some (.int .u32 ((0 : Nat) : Int)) := by
  unfold filled
  rw [List.getElem?_append_right (by rw [length_u32s]; omega), length_u32s, Nat.sub_self, show n - ws.length = (n - ws.length - 1) + 1 by omega, List.replicate_succ]
  rfl
theorem filled_set {n : Nat} {ws : List Nat} {x : Nat} (h : ws.length < n) : (filled n ws).set ws.length (.int .u32 (x : Int)) = filled n (ws ++ [x]) := by
  unfold filled
  have := set_fill (ws := u32s ws) (z := AVal.int .u32 ((0 : Nat) : Int)) (x := .int .u32 (x : Int)) (n := n) (by rw [length_u32s]; exact h)
  rw [length_u32s] at this
  rw [this]
  simp [u32s]
theorem u32s_set (ws : List Nat) (j x : Nat) : (u32s ws).set j (.int .u32 (x : Int)) = u32s (ws.set j x) := by simp [u32s, List.map_set]
theorem u32s_get {ws : List Nat} {j : Nat} (h : j < ws.length) : (u32s ws)[j]? = some (.int .u32 (ws.getD j 0 : Nat)) := by
  rw [u32s, List.getElem?_map, getD_some h]
  rfl

end Go.Esc
namespace Go.Esc.M
open Go Go.Esc

theorem u8_to_u32 {G : Heap} (b : UInt8) : vconv T G t_uint8 t_uint32 (.int .u8 b.toNat) = some (.int .u32 (b.toNat : Nat)) := by
  have : b.toNat < 256 := b.toNat_lt
  rw [vconv_int T_uint8 T_uint32 rfl, u32_in (by omega) (by omega)]
theorem str_at {l : List UInt8} {j : Nat} {m : Int} (hm : m = (j : Int)) (h : j < l.length) : vindex T t_string (.str l) (.int .i64 m) = some (.int .u8 l[j].toNat) := by
  subst hm
  simp [vindex, T_string, ti_string, h]
theorem str_cut {l : List UInt8} {n : Int} (h0 : 0 ≤ n) (h : n ≤ l.length) : vslice T t_string (.str l) none (some (.int .i64 n)) none = some (.str (l.take n.toNat)) := by
  have e : n = (n.toNat : Int) := by omega
  have hb := sbounds_high (len := l.length) (cap := l.length) (m := n.toNat) (k := .i64) (by omega)
  rw [← e] at hb
  simp [vslice, T_string, ti_string, hb]
theorem str_rest {l : List UInt8} {n : Int} (h0 : 0 ≤ n) (h : n ≤ l.length) : vslice T t_string (.str l) (some (.int .i64 n)) none none = some (.str (l.drop n.toNat)) := by
  have e : n = (n.toNat : Int) := by omega
  have hb := sbounds_low (len := l.length) (cap := l.length) (m := n.toNat) (k := .i64) (by omega) (by omega)
  rw [← e] at hb
  simp only [vslice, T_string, ti_string, hb]
  simp
  exact List.take_of_length_le (by simp)

section
variable {G : Heap} {Q : AVal → Heap → Prop}

theorem bits_RotateLeft32.use {a r : Nat} {m : Int} (hm : m = -(r : Int)) (h1 : 1 ≤ r) (h2 : r ≤ 31) (hQ : Q (.int .u32 (rotr r a : Nat)) G) : ACalls P bits_RotateLeft32.n [.int .u32 (a : Int), .int .i64 m] G Q := by
  refine bits_RotateLeft32.sound ?_
  unfold bits_RotateLeft32.S
  have e1 : IntKind.u64.wrap m = ((18446744073709551616 - r : Nat) : Int) := by rw [wrapU64]; omega
  have e2 : vbin T .and t_uint (.int .u64 ((18446744073709551616 - r : Nat) : Int)) (.int .u64 31) = some (.int .u64 ((32 - r : Nat) : Int)) := by
    have hb : IntKind.u64.bits = 64 := rfl
    have h3 : (BitVec.ofInt IntKind.u64.bits (31 : Int)).toNat = 2 ^ 5 - 1 := by decide
    rw [vbin_and, wrapU64, BitVec.toNat_and, h3, bv_of, hb, Nat.and_two_pow_sub_one_eq_mod]
    congr 2
    omega
  rw [vconv_int T_int T_uint rfl, wv_some, e1, e2, wv_some, u32_shl (k := 32 - r) rfl (by omega), wv_some, vbin_sub, wv_some]
  have e3 : IntKind.u64.wrap (32 - ((32 - r : Nat) : Int)) = (r : Int) := by rw [wrapU64]; omega
  rw [e3, u32_shr (k := r) rfl (by omega), wv_some, u32_or, wv_some, or32_comm]
  exact hQ

theorem hash_constants.use (hQ : ∀ G', Ch [] G [] G' → Q (.agg (u32s K256)) G') : ACalls P hash_constants.n [] G Q := by
  refine hash_constants.sound ?_
  unfold hash_constants.S
  intro i1 f1
  refine wv_of (v := .agg (u32s K256)) (by kernel_rfl) ?_
  have hg : (G.upd i1 (.own z_ar64_uint32)) i1 = some (.own (.agg (u32s (List.replicate 64 0)))) := Heap.upd_self _ _ _
  refine wg_of (arr_put (cs := u32s (List.replicate 64 0)) (cs' := u32s K256) T_ar64_uint32 rfl rfl rfl hg (uni_u32s _) (uni_u32s _) (okvs_u32s _)) ?_
  refine wv_of (arr_whole T_ar64_uint32 rfl rfl (Heap.upd_self _ _ _) (uni_u32s _)) ?_
  refine hQ _ ?_
  have s1 := (Sp.nil G).row f1 z_ar64_uint32
  refine Sp.ch (ps := [RowL i1 (.agg (u32s K256))]) ?_
  refine s1.call (i := 0) rfl (RowL i1 (.agg (u32s K256))) fun F h k => ?_
  obtain ⟨h, rfl⟩ := h
  exact k _ _ ⟨Heap.upd_self _ _ _, rfl⟩ ⟨roLe_upd h (by simp), fun j o hj hn => by rw [Heap.upd_ne _ _ (fun e => hn (by simp [e]))]; exact hj, fun j hj => .inl hj⟩

set_option maxHeartbeats 1000000 in
theorem hash_schedule.use {b : List UInt8} (hb : b.length = 64) (hQ : ∀ G', Ch [] G [] G' → Q (.agg (u32s (sched 48 (words b 16)))) G') : ACalls P hash_schedule.n [.str b] G Q := by
  refine hash_schedule.sound ?_
  unfold hash_schedule.S
  obtain ⟨S, hS⟩ : ∃ S, sched 48 (words b 16) = S := ⟨_, rfl⟩
  rw [hS] at hQ
  intro i1 f1
  have s1 : Sp [] G [RowL i1 (.agg (filled 64 []))] _ := (Sp.nil G).row f1 z_ar64_uint32
  intro i3 f3
  have s3 : Sp [] G [RowL i3 (.agg (filled 64 [])), RowL i1 (.agg (filled 64 []))] _ := s1.row f3 z_ar64_uint32
  revert s3
  generalize Heap.upd _ i3 (.own z_ar64_uint32) = G4
  intro s3 R5 hR5
  have loop1 : ∀ (n i : Nat) (G' : Heap), 16 - i = n → i ≤ 16 → Sp [] G [RowL i3 (.agg (filled 64 (words b i))), RowL i1 (.agg (filled 64 []))] G' → R5 [.str b, .ptr i1 [] 0, .ptr i3 [] 0, .int .i64 (i : Int)] G' := by
    intro n
    induction n with
    | zero =>
      intro i G' hn hi hs
      have : i = 16 := by omega
      subst this
      refine hR5 _ _ _ _ _ ?_
      rw [vbin_lss, wv_some, brB_dec]
      refine ⟨fun h => absurd h (by decide), fun _ => ?_⟩
      intro R33 hR33
      have loop2 : ∀ (n : Nat) (ws : List Nat) (G' : Heap), 64 - ws.length = n → 16 ≤ ws.length → ws.length ≤ 64 → sched n ws = S → Sp [] G [RowL i3 (.agg (filled 64 ws)), RowL i1 (.agg (filled 64 []))] G' →
          R33 [.ptr i1 [] 0, .ptr i3 [] 0, .int .i64 (ws.length : Int)] G' := by
        intro n
        induction n with
        | zero =>
          intro ws G' hn h16 h64 he hs
          have hl : ws.length = 64 := by omega
          refine hR33 _ _ _ _ ?_
          rw [vbin_lss, wv_some, brB_dec]
          refine ⟨fun h => absurd h (by omega), fun _ => ?_⟩
          have g3 := RowL.own (i := 0) hs rfl
          have g1 := RowL.own (i := 1) hs rfl
          rw [filled_full hl] at g3
          have he : ws = S := he
          subst he
          refine wv_of (arr_whole T_ar64_uint32 rfl (by rw [length_u32s, hl]; rfl) g3 (uni_u32s _)) ?_
          refine wg_of (arr_put T_ar64_uint32 rfl (by rw [length_u32s, hl]; rfl) (by rw [length_filled (by simp), length_u32s, hl]) g1 (uni_filled _ _) (uni_u32s _) (okvs_u32s _)) ?_
          refine wv_of (arr_whole T_ar64_uint32 rfl (by rw [length_u32s, hl]; rfl) (Heap.upd_self _ _ _) (uni_u32s _)) ?_
          refine hQ _ ?_
          refine hs.call (i := 1) rfl (RowL i1 (.agg (u32s ws))) fun F h k => ?_
          obtain ⟨h, rfl⟩ := h
          exact (k _ _ ⟨Heap.upd_self _ _ _, rfl⟩ (upd_ch h (by simp))).ch
        | succ n ih =>
          intro ws G' hn h16 h64 he hs
          have hl : ws.length < 64 := by omega
          have g3 := RowL.own (i := 0) hs rfl
          have ad : ∀ {m : Int} {j : Nat}, m = (j : Int) → j < 64 → viaddr T t_ar64_uint32 (.ptr i3 [] 0) (.int .i64 m) = some (.ptr i3 [j] j) := fun hm hj => arr_addr T_ar64_uint32 rfl T_uint32 rfl hm hj
          have ld : ∀ {j : Nat}, j < ws.length → vload T G' t_uint32 (.ptr i3 [j] j) = some (.int .u32 (ws.getD j 0 : Nat)) := fun hj => arr_get T_uint32 g3 (uni_filled _ _) (filled_get hj) rfl
          refine hR33 _ _ _ _ ?_
          rw [vbin_lss, wv_some, brB_dec]
          refine ⟨fun _ => ?_, fun h => absurd (by omega) h⟩
          rw [vbin_sub, wv_some, i64_in (by omega) (by omega), ad (j := ws.length - 15) (by omega) (by omega), wv_some, ld (by omega), wv_some]
          rw [vbin_sub, wv_some, i64_in (by omega) (by omega), ad (j := ws.length - 2) (by omega) (by omega), wv_some, ld (by omega), wv_some]
          refine bits_RotateLeft32.use (r := 7) (by omega) (by omega) (by omega) ?_
          refine bits_RotateLeft32.use (r := 18) (by omega) (by omega) (by omega) ?_
          rw [u32_xor, wv_some, u32_shr (k := 3) (n := 3) rfl (by omega), wv_some, u32_xor, wv_some]
          refine bits_RotateLeft32.use (r := 17) (by omega) (by omega) (by omega) ?_
          refine bits_RotateLeft32.use (r := 19) (by omega) (by omega) (by omega) ?_
          rw [u32_xor, wv_some, u32_shr (k := 10) (n := 10) rfl (by omega), wv_some, u32_xor, wv_some]
          rw [vbin_sub, wv_some, i64_in (by omega) (by omega), ad (j := ws.length - 16) (by omega) (by omega), wv_some, ld (by omega), wv_some, u32_add, wv_some]
          rw [vbin_sub, wv_some, i64_in (by omega) (by omega), ad (j := ws.length - 7) (by omega) (by omega), wv_some, ld (by omega), wv_some, u32_add, wv_some, u32_add, wv_some]
          rw [ad (j := ws.length) rfl hl, wv_some]
          refine wg_of (arr_set T_uint32 g3 (uni_filled _ _) (filled_next hl) rfl rfl rfl) ?_
          rw [vbin_add, wv_some, i64_in (by omega) (by omega), filled_set hl]
          have key := ih (ws ++ [nextW ws]) (G'.upd i3 (.own (.agg (filled 64 (ws ++ [nextW ws]))))) (by simp; omega) (by simp; omega) (by simp; omega) he ?_
          · rw [List.length_append] at key
            exact key
          · refine hs.call (i := 0) rfl (RowL i3 (.agg (filled 64 (ws ++ [nextW ws])))) fun F h k => ?_
            obtain ⟨h, rfl⟩ := h
            exact k _ _ ⟨Heap.upd_self _ _ _, rfl⟩ (upd_ch h (by simp))
      have := loop2 48 (words b 16) G' (by rw [length_words]) (by rw [length_words]; omega) (by rw [length_words]; omega) hS hs
      rwa [length_words] at this
    | succ n ih =>
      intro i G' hn hi hs
      refine hR5 _ _ _ _ _ ?_
      rw [vbin_lss, wv_some, brB_dec]
      refine ⟨fun _ => ?_, fun h => absurd (by omega) h⟩
      intro R12 hR12
      have hi16 : i < 16 := by omega
      have inner : ∀ (m k : Nat) (G' : Heap), 4 - k = m → k ≤ 4 → Sp [] G [RowL i3 (.agg ((filled 64 (words b i)).set i (.int .u32 (num32 0 ((b.drop (4 * i)).take k) : Nat)))), RowL i1 (.agg (filled 64 []))] G' →
          R12 [.str b, .ptr i1 [] 0, .ptr i3 [] 0, .int .i64 (i : Int), .int .i64 (i : Int), .int .i64 (k : Int)] G' := by
        intro m
        induction m with
        | zero =>
          intro k G' hm hk hs
          have : k = 4 := by omega
          subst this
          refine hR12 _ _ _ _ _ _ _ ?_
          rw [vbin_lss, wv_some, brB_dec]
          refine ⟨fun h => absurd h (by decide), fun _ => ?_⟩
          rw [vbin_add, wv_some, i64_in (by omega) (by omega)]
          refine ih (i + 1) G' (by omega) (by omega) ?_
          rw [words_succ]
          have := filled_set (n := 64) (ws := words b i) (x := word b i) (by rw [length_words]; omega)
          rw [length_words] at this
          rw [← this]
          exact hs
        | succ m ihm =>
          intro k G' hm hk hs
          have hlen : ((filled 64 (words b i)).set i (.int .u32 (num32 0 ((b.drop (4 * i)).take k) : Nat))).length = 64 := by rw [List.length_set, length_filled (by rw [length_words]; omega)]
          have hu : uni 1 ((filled 64 (words b i)).set i (.int .u32 (num32 0 ((b.drop (4 * i)).take k) : Nat))) = true := uni_set (uni_filled _ _) rfl
          have g3 := RowL.own (i := 0) hs rfl
          have hget : ((filled 64 (words b i)).set i (.int .u32 (num32 0 ((b.drop (4 * i)).take k) : Nat)))[i]? = some (.int .u32 (num32 0 ((b.drop (4 * i)).take k) : Nat)) := by
            rw [List.getElem?_set_self (by rw [length_filled (by rw [length_words]; omega)]; omega)]
          refine hR12 _ _ _ _ _ _ _ ?_
          rw [vbin_lss, wv_some, brB_dec]
          refine ⟨fun _ => ?_, fun h => absurd (by omega) h⟩
          have ad : viaddr T t_ar64_uint32 (.ptr i3 [] 0) (.int .i64 (i : Int)) = some (.ptr i3 [i] i) := arr_addr T_ar64_uint32 rfl T_uint32 rfl rfl (by omega)
          rw [ad, wv_some, arr_get T_uint32 g3 hu hget rfl, wv_some, u32_shl (k := 8) (n := 8) rfl (by omega), wv_some, vbin_mul, wv_some, i64_in (by omega) (by omega), vbin_add, wv_some, i64_in (by omega) (by omega)]
          rw [str_at (j := 4 * i + k) (by omega) (by omega), wv_some, u8_to_u32, wv_some, u32_or, wv_some, wv_some]
          refine wg_of (arr_set T_uint32 g3 hu hget rfl rfl rfl) ?_
          rw [vbin_add, wv_some, i64_in (by omega) (by omega), List.set_set]
          have hk4 : k < 4 := by omega
          have hsn : (b.drop (4 * i)).take (k + 1) = (b.drop (4 * i)).take k ++ [b[4 * i + k]] := by
            rw [List.take_add_one, List.getElem?_drop, List.getElem?_eq_getElem (by omega)]
            rfl
          have hnum : or32 (shl32 8 (num32 0 ((b.drop (4 * i)).take k))) (b[4 * i + k].toNat) = num32 0 ((b.drop (4 * i)).take (k + 1)) := by
            have h1 := num32_lt ((b.drop (4 * i)).take k) 0
            have h2 : ((b.drop (4 * i)).take k).length = k := by simp; omega
            rw [h2] at h1
            have h3 : 256 ^ k ≤ 256 ^ 3 := Nat.pow_le_pow_right (by omega) (by omega)
            have hbb : b[4 * i + k].toNat < 256 := b[4 * i + k].toNat_lt
            rw [hsn, num32_snoc, or_low 8 _ _ (by omega) (by omega)]
            omega
          rw [hnum]
          refine ihm (k + 1) _ (by omega) (by omega) ?_
          refine hs.call (i := 0) rfl (RowL i3 (.agg ((filled 64 (words b i)).set i (.int .u32 (num32 0 ((b.drop (4 * i)).take (k + 1)) : Nat))))) fun F h k => ?_
          obtain ⟨h, rfl⟩ := h
          exact k _ _ ⟨Heap.upd_self _ _ _, rfl⟩ (upd_ch h (by simp))
      refine inner 4 0 G' rfl (by omega) ?_
      have e0 : (filled 64 (words b i)).set i (.int .u32 (num32 0 ((b.drop (4 * i)).take 0) : Nat)) = filled 64 (words b i) := by
        apply List.ext_getElem?
        intro n
        rw [List.getElem?_set]
        split
        · rename_i h
          subst h
          have h2 := filled_next (n := 64) (ws := words b i) (by rw [length_words]; omega)
          rw [length_words] at h2
          rw [if_pos (by rw [length_filled (by rw [length_words]; omega)]; omega), h2]
          rfl
        · rfl
      rw [e0]
      exact hs
  exact loop1 16 0 G4 rfl (by omega) s3

end
end Go.Esc.M
