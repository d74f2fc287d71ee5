/- Own work. Chapter 2: a sum under a key, in the program; the document's sum: blocks. -/
import Derived.Test.YtjfnbjpggfjhnaaLHc
set_option linter.unusedSimpArgs false
set_option linter.unusedVariables false
namespace Go.Esc
open Go Go.RowKit

/-- The first ones of one list, then those of another. -/
def mix {α : Type} (D X : List α) (j : Nat) : List α := D.take j ++ X.drop j
theorem mix_zero {α : Type} (D X : List α) : mix D X 0 = X := by simp [mix]
theorem mix_full {α : Type} {D X : List α} (h : D.length = X.length) : mix D X X.length = D := by simp [mix, ← h]
theorem length_mix {α : Type} {D X : List α} {j : Nat} (h : D.length = X.length) (hj : j ≤ X.length) : (mix D X j).length = X.length := by simp [mix]; omega
theorem mix_get {α : Type} {D X : List α} {j : Nat} (h : D.length = X.length) (hj : j < X.length) : (mix D X j)[j]? = some X[j] := by
  unfold mix
  have hl : (D.take j).length = j := by simp; omega
  rw [List.getElem?_append_right (by omega), hl, Nat.sub_self, List.getElem?_drop, Nat.add_zero, List.getElem?_eq_getElem hj]
theorem mix_set {α : Type} {D X : List α} {j : Nat} (h : D.length = X.length) (hj : j < X.length) : (mix D X j).set j (D[j]'(by omega)) = mix D X (j + 1) := by
  unfold mix
  have hl : (D.take j).length = j := by simp; omega
  rw [List.set_append_right _ _ (by omega), hl, Nat.sub_self, List.drop_eq_getElem_cons hj, List.set_cons_zero, List.take_succ_eq_append_getElem (by omega), List.append_assoc]
  rfl

theorem word4 {b0 b1 b2 b3 : Nat} (h0 : b0 < 256) (h1 : b1 < 256) (h2 : b2 < 256) (h3 : b3 < 256) : or32 (or32 (or32 (shl32 24 b0) (shl32 16 b1)) (shl32 8 b2)) b3 = ((b0 * 256 + b1) * 256 + b2) * 256 + b3 := by
  have e1 : shl32 16 b1 = 2 ^ 16 * b1 := by unfold shl32; omega
  have e2 : shl32 8 b2 = 2 ^ 8 * b2 := by unfold shl32; omega
  have e3 : 2 ^ 24 * b0 + 2 ^ 16 * b1 = shl32 16 (256 * b0 + b1) := by unfold shl32; omega
  have e4 : 2 ^ 16 * (256 * b0 + b1) + 2 ^ 8 * b2 = shl32 8 (256 * (256 * b0 + b1) + b2) := by unfold shl32; omega
  rw [e1, e2, or_low 24 _ _ (by omega) (by omega), e3, or_low 16 _ _ (by omega) (by omega), e4, or_low 8 _ _ (by omega) (by omega)]
  omega

theorem shr_i64 {v m : Nat} {s : Int} {kk : IntKind} (hs : s = ((8 * m : Nat) : Int)) (hm : m ≤ 7) {T : Tbl} {t : TypeId} : vbin T .shr t (.int .i64 (v : Int)) (.int kk s) = some (.int .i64 ((v / 2 ^ (8 * m) : Nat) : Int)) := by
  subst hs
  rw [vbin_shr _ _ _ _ _ _ (by omega)]
  have h1 : min ((8 * m : Nat) : Int).toNat IntKind.i64.bits = 8 * m := by
    have : IntKind.i64.bits = 64 := rfl
    omega
  have h2 : ((2 : Int) ^ (8 * m)) = ((2 ^ (8 * m) : Nat) : Int) := by simp
  rw [h1, h2, Int.fdiv_eq_ediv_of_nonneg _ (Int.natCast_nonneg _)]
  congr 2

theorem IsSl.ch {n : Nat} {G G' : Heap} {E : List AId} {v : AVal} {vs : List AVal} (h : IsSl n G v vs) (hc : Ch [] G E G') : IsSl n G' v vs := h.le fun j o hj => hc.others j o hj (by simp)

theorem length_overK {key : List UInt8} (h : key.length = 32) (c : UInt8) : (overK key c).length = 64 := by simp [overK, h]

end Go.Esc
namespace Go.Esc.M
open Go Go.Esc

section
variable {G : Heap} {Q : AVal → Heap → Prop}

theorem vslice_ar64 {i : AId} : vslice T t_ar64_uint8 (.ptr i [] 0) none none none = some (.slice i [] 0 0 64 64) := by
  have e1 : T t_ar64_uint8 = some ti_ar64_uint8 := T_ar64_uint8
  have e2 : ti_ar64_uint8.desc = .array 64 t_uint8 := rfl
  simp [vslice, e1, e2, T_uint8, sbounds, sbound]

theorem hash_over.use {key : List UInt8} {c : UInt8} (hk : key.length = 32) (hQ : ∀ G', Ch [] G [] G' → Q (.str (overK key c)) G') : ACalls P hash_over.n [.agg (key.map u8v), u8v c] G Q := by
  refine hash_over.sound ?_
  unfold hash_over.S
  have hz : z_ar64_uint8 = .agg ((List.replicate 64 (0 : UInt8)).map u8v) := rfl
  rw [hz]
  intro i1 f1
  have s1 := (Sp.nil G).row f1 (.agg (key.map u8v))
  intro i3 f3
  have s3 := s1.row f3 (.agg ((List.replicate 64 (0 : UInt8)).map u8v))
  rw [vslice_ar64, wv_some, vslice_hash, wv_some]
  have hX : (key ++ List.replicate 32 0).length = 64 := by simp [hk]
  refine s3.call (i := 0) rfl (RowL i3 (.agg ((key ++ List.replicate 32 (0 : UInt8)).map u8v))) fun F h k => ?_
  obtain ⟨h, rfl⟩ := h
  refine copy_bytes (row_is (RowL.own (i := 1) s3 rfl) hk).elems h (by simp) (by omega) fun G8 g8 c8 => ?_
  have e8 : key ++ (List.replicate 64 (0 : UInt8)).drop key.length = key ++ List.replicate 32 0 := by rw [List.drop_replicate, hk]
  rw [e8] at g8
  have s8 := k _ _ ⟨g8, rfl⟩ c8
  intro R9 hR9
  have hD : (overK key c).length = (key ++ List.replicate 32 (0 : UInt8)).length := by simp [overK]
  have loop : ∀ (n j : Nat) (G' : Heap), 64 - j = n → j ≤ 64 → Sp [] G [RowL i3 (.agg ((mix (overK key c) (key ++ List.replicate 32 0) j).map u8v)), RowL i1 (.agg (key.map u8v))] G' → R9 [u8v c, .ptr i3 [] 0, .int .i64 (j : Int)] G' := by
    intro n
    induction n with
    | zero =>
      intro j G' hn hj hs
      have : j = (key ++ List.replicate 32 (0 : UInt8)).length := by omega
      subst this
      have g3 := RowL.own (i := 0) hs rfl
      rw [mix_full hD] at g3
      refine hR9 _ _ _ _ ?_
      rw [vbin_lss, wv_some, brB_dec]
      refine ⟨fun h => absurd h (by omega), fun _ => ?_⟩
      rw [vslice_ar64, wv_some, conv_bytes T_sl_uint8 rfl T_uint8 rfl T_string rfl (row_is g3 (length_overK hk c)), wv_some]
      exact hQ _ hs.ch
    | succ n ih =>
      intro j G' hn hj hs
      have hj64 : j < 64 := by omega
      have g3 := RowL.own (i := 0) hs rfl
      have hg : ((mix (overK key c) (key ++ List.replicate 32 0) j).map u8v)[j]? = some (u8v ((key ++ List.replicate 32 (0 : UInt8))[j]'(by omega))) := by
        rw [List.getElem?_map, mix_get hD (by omega)]; rfl
      have ad : viaddr T t_ar64_uint8 (.ptr i3 [] 0) (.int .i64 (j : Int)) = some (.ptr i3 [j] j) := arr_addr T_ar64_uint8 rfl T_uint8 rfl rfl hj64
      refine hR9 _ _ _ _ ?_
      rw [vbin_lss, wv_some, brB_dec]
      refine ⟨fun _ => ?_, fun h => absurd (by omega) h⟩
      rw [ad, wv_some, arr_get T_uint8 g3 (uni_u8 _) hg rfl, wv_some, u8_xor, wv_some, wv_some]
      refine wg_of (arr_set T_uint8 g3 (uni_u8 _) hg rfl rfl rfl) ?_
      rw [vbin_add, wv_some, i64_in (by omega) (by omega)]
      have hset : ((mix (overK key c) (key ++ List.replicate 32 0) j).map u8v).set j (u8v ((key ++ List.replicate 32 (0 : UInt8))[j]'(by omega) ^^^ c)) = (mix (overK key c) (key ++ List.replicate 32 0) (j + 1)).map u8v := by
        have e : (key ++ List.replicate 32 (0 : UInt8))[j]'(by omega) ^^^ c = (overK key c)[j]'(by omega) := by simp only [overK, List.getElem_map]
        rw [e, ← List.map_set, mix_set hD (by omega)]
      rw [hset]
      exact ih (j + 1) _ (by omega) (by omega) (Sp.setRow hs (j := 0) rfl _)
  exact loop 64 0 G8 rfl (by omega) (by rw [mix_zero]; exact s8)

theorem own_cap2 {a b : List UInt8} {v : AVal} (h : Own 1 G v [.str a, .str b]) : CapSl 1 G v ([a, b].map .str) := h.cap

set_option maxHeartbeats 1000000 in
theorem hash_Mac.use {key text : List UInt8} (hk : key.length = 32) (hl : text.length ≤ 281474976700000) (hQ : ∀ G', Ch [] G [] G' → Q (.agg ((mac key text).map u8v)) G') : ACalls P hash_Mac.n [.agg (key.map u8v), .str text] G Q := by
  refine hash_Mac.sound ?_
  unfold hash_Mac.S
  rw [z_hash]
  intro i1 f1
  have s1 := (Sp.nil G).row f1 (.agg (key.map u8v))
  intro i3 f3
  have s3 := s1.row f3 (.agg ((List.replicate 32 (0 : UInt8)).map u8v))
  rw [load_hash hk (RowL.own (i := 1) s3 rfl), wv_some]
  refine hash_over.use (c := 0x36) hk fun G7 c7 => ?_
  have s7 := s3.tmp c7
  have hlo := length_overK hk 0x36
  have hlo' := length_overK hk 0x5c
  refine build2 (T := T) (ts := t_sl_string) (e := t_string) (si := ti_sl_string) (ie := ti_string) T_sl_string rfl T_string rfl rfl rfl (by decide) fun v8 G9 o9 c9 => ?_
  have s9 := s7.tmp c9
  refine hash_Sum.use (own_cap2 o9) (by simp) (by simp; omega) fun G11 c11 => ?_
  have s11 := s9.tmp c11
  have e1 : [overK key 0x36, text].flatten = overK key 0x36 ++ text := by simp
  rw [e1]
  have hs1 := length_sha (overK key 0x36 ++ text)
  intro i12 f12
  have s13 := s11.row f12 (.agg ((List.replicate 32 (0 : UInt8)).map u8v))
  rw [store_hash (by simp) hs1 (RowL.own (i := 0) s13 rfl), wg_some]
  have s14 := Sp.setRow s13 (j := 0) rfl (.agg ((sha (overK key 0x36 ++ text)).map u8v))
  rw [load_hash hk (RowL.own (i := 2) s14 rfl), wv_some, vslice_hash, wv_some, conv_bytes T_sl_uint8 rfl T_uint8 rfl T_string rfl (row_is (RowL.own (i := 0) s14 rfl) hs1), wv_some]
  refine hash_over.use (c := 0x5c) hk fun G19 c19 => ?_
  have s19 := s14.tmp c19
  have fin : ∀ G20, Sp [] G [RowL i12 (.agg ((sha (overK key 0x36 ++ text)).map u8v)), RowL i3 (.agg ((List.replicate 32 (0 : UInt8)).map u8v)), RowL i1 (.agg (key.map u8v))] G20 →
      aBuildSlice T t_sl_string 2 [(0, .str (overK key 0x5c)), (1, .str (sha (overK key 0x36 ++ text)))] G20 fun v20 G21 => ACalls P hash_Sum.n [v20] G21 fun v22 G23 => wg (vstore T G23 t_api_Hash (.ptr i3 [] 0) v22) fun G24 => wv (vload T G24 t_api_Hash (.ptr i3 [] 0)) fun v25 => Q v25 G24 := by
    intro G20 s20
    refine build2 (T := T) (ts := t_sl_string) (e := t_string) (si := ti_sl_string) (ie := ti_string) T_sl_string rfl T_string rfl rfl rfl (by decide) fun v8 G21 o21 c21 => ?_
    have s21 := s20.tmp c21
    refine hash_Sum.use (own_cap2 o21) (by simp) (by simp; omega) fun G23 c23 => ?_
    have s23 := s21.tmp c23
    have e1 : [overK key 0x5c, sha (overK key 0x36 ++ text)].flatten = overK key 0x5c ++ sha (overK key 0x36 ++ text) := by simp
    rw [e1]
    have hm : (mac key text).length = 32 := length_sha _
    show wg (vstore T G23 t_api_Hash (.ptr i3 [] 0) (.agg ((mac key text).map u8v))) _
    rw [store_hash (by simp) hm (RowL.own (i := 1) s23 rfl), wg_some, load_hash hm (Heap.upd_self _ _ _), wv_some]
    exact hQ _ (Sp.setRow s23 (j := 1) rfl (.agg ((mac key text).map u8v))).ch
  first
  | exact fin _ s19
  | exact ⟨⟨conv_bytes T_sl_uint8 rfl T_uint8 rfl T_string rfl (row_is (RowL.own (i := 0) s19 rfl) hs1), load_hash hk (RowL.own (i := 2) s19 rfl), trivial⟩, fin _ s19⟩
  | exact ⟨⟨conv_bytes T_sl_uint8 rfl T_uint8 rfl T_string rfl (row_is (RowL.own (i := 0) s19 rfl) hs1), trivial⟩, fin _ s19⟩

theorem escrowref02_rot.use {a r : Nat} {m : Int} (hm : m = (r : Int)) (h1 : 1 ≤ r) (h2 : r ≤ 31) (hQ : Q (.int .u32 (rotr r a : Nat)) G) : ACalls P escrowref02_rot.n [.int .u32 (a : Int), .int .i64 m] G Q := by
  subst hm
  refine escrowref02_rot.sound ?_
  unfold escrowref02_rot.S
  rw [u32_shr (k := r) rfl (by omega), wv_some, vbin_sub, wv_some, i64_in (by omega) (by omega), u32_shl (k := 32 - r) (by omega) (by omega), wv_some, u32_or, wv_some]
  exact hQ

theorem escrowref02_rounds.use (hQ : ∀ G', Ch [] G [] G' → Q (.agg (u32s K256)) G') : ACalls P escrowref02_rounds.n [] G Q := by
  refine escrowref02_rounds.sound ?_
  unfold escrowref02_rounds.S
  intro i1 f1
  refine wv_of (v := .agg (u32s K256)) (by kernel_rfl) ?_
  rw [z64]
  have s1 := (Sp.nil G).row f1 (.agg (u32s (List.replicate 64 0)))
  rw [ar64_store (by simp) (ws' := K256) rfl (RowL.own (i := 0) s1 rfl), wg_some, ar64_load rfl (Heap.upd_self _ _ _), wv_some]
  exact hQ _ (Sp.setRow s1 (j := 0) rfl (.agg (u32s K256))).ch

end
end Go.Esc.M
