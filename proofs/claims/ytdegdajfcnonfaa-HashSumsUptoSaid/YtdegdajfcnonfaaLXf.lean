/- Own work. Chapter 2: HashParts. -/
import Derived.Test.YtdegdajfcnonfaaLXe
set_option linter.unusedSimpArgs false
set_option linter.unusedVariables false
namespace Go.Esc.M
open Go Go.Esc Go.Proofs

theorem str_one {b : List UInt8} {k k' : IntKind} {lo hi : Int} (a : Nat) (ha : lo = (a : Int)) (hn : hi = ((a + 1 : Nat) : Int)) (h : a < b.length) : vslice T t_string (.str b) (some (.int k lo)) (some (.int k' hi)) none = some (.str [b[a]]) := by
  subst ha hn
  have hb : sbounds b.length b.length (some (.int k ((a : Nat) : Int))) (some (.int k' ((a + 1 : Nat) : Int))) none = some (a, a + 1, b.length) := by
    have h0 : (0 : Int) ≤ ((a + 1 : Nat) : Int) ∧ ((a + 1 : Nat) : Int) ≤ ((b.length : Nat) : Int) := by omega
    have h1 : (0 : Int) ≤ ((a : Nat) : Int) ∧ ((a : Nat) : Int) ≤ ((a + 1 : Nat) : Int) := by omega
    simp only [sbounds, sbound, if_pos h0, Int.toNat_natCast]
    simp only [Option.isNone_some, Bool.false_and, Bool.false_eq_true, if_false, if_pos h1]
  simp only [vslice, T_string, ti_string, hb]
  have : (b.drop a).take 1 = [b[a]] := by
    rw [List.drop_eq_getElem_cons h]
    rfl
  simp [this]

def bitsOf (l : List UInt8) : List (List UInt8) := l.flatMap fun b => [[b], []]
theorem bits_flat : ∀ l : List UInt8, (bitsOf l).flatten = l
  | [] => rfl
  | b :: l => by
    have ih := bits_flat l
    simp only [bitsOf, List.flatMap_cons] at ih ⊢
    simp [ih]
theorem bits_len : ∀ l : List UInt8, (bitsOf l).length = 2 * l.length
  | [] => rfl
  | b :: l => by
    have ih := bits_len l
    simp only [bitsOf, List.flatMap_cons, List.length_append] at ih ⊢
    rw [ih]
    simp
    omega

set_option maxRecDepth 20000 in
set_option maxHeartbeats 4000000 in
theorem law_HashParts {R : Nat} {G : Heap} {t a : AVal} {m1 m2 : Nat} (h1 : wt T G R 4 t_string t m1) (h2 : wt T G R 4 t_int a m2) (hm : m1 + m2 ≤ 1048576) : ACalls P escrowlaw02_HashParts.n [t, a] G fun v _ => v = .bool true := by
  obtain ⟨t, rfl, _, _, htm⟩ := wt_str T_string rfl h1
  obtain ⟨a, rfl, _, _⟩ := wt_int T_int rfl h2
  have hlen : t.length ≤ 1048576 := by omega
  refine escrowlaw02_HashParts.sound ?_
  unfold escrowlaw02_HashParts.S
  refine escrowlaw02_first.use fun G2 c2 => ?_
  have s2 := (Sp.nil G).tmp c2
  rw [vun_not, wv_some, Bool.not_true, brB_false]
  obtain ⟨k, hk, hke⟩ := uint_mod a (t.length + 1) (by omega) (by omega)
  refine wv_of (vconv_int T_int T_uint rfl) ?_
  show wv (some (.int .i64 (t.length : Nat))) _
  rw [wv_some, vbin_add, i64_in (by omega) (by omega), wv_some, show ((t.length : Nat) : Int) + 1 = ((t.length + 1 : Nat) : Int) by omega]
  refine wv_of (v := .int .u64 ((t.length + 1 : Nat) : Int)) (by rw [vconv_int T_int T_uint rfl, u64_in (by omega) (by omega)]) ?_
  refine wv_of (v := .int .u64 ((IntKind.u64.wrap a).tmod ((t.length + 1 : Nat) : Int))) (vbin_rem _ _ _ _ _ (by omega)) ?_
  refine wv_of (v := .int .i64 (k : Int)) (by rw [vconv_int T_uint T_int rfl, hke]) ?_
  intro R hR
  obtain ⟨S, hS⟩ : ∃ S, S = sha t := ⟨_, rfl⟩
  have hSl : S.length = 32 := by rw [hS]; exact length_sha _
  have loop : ∀ (n j : Nat) (v : AVal) (G' : Heap), t.length - j = n → j ≤ t.length → Sp [] G [OwnL 1 v ((bitsOf (t.take j)).map .str)] G' → R [.str t, .int .i64 (k : Int), v, .int .i64 (j : Int)] G' := by
    intro n
    induction n with
    | zero =>
      intro j v G' hn hj s
      rw [List.take_of_length_le (by omega)] at s
      refine hR _ _ _ _ _ ?_
      show wv (some (.int .i64 (t.length : Nat))) _
      rw [wv_some, vbin_lss, wv_some, decide_eq_false (by omega), brB_false]
      refine buildL (T := T) (ts := t_sl_string) (e := t_string) (si := ti_sl_string) (ie := ti_string) (l := [t].map .str) T_sl_string rfl T_string rfl rfl rfl rfl (by simp [sz, ti_string]) (by decide) s fun v25 G26 s26 => ?_
      refine hash_Sum.use (xs := [t]) (OwnL.own (i := 0) s26 rfl).cap (by simp) (by simp; omega) fun G28 c28 => ?_
      have s28 := s26.tmp c28
      have f1 : [t].flatten = t := by simp
      rw [f1, ← hS]
      refine newVal s28 T_api_Hash (fits32 hSl) (sz32 hSl) (okv32 _) fun i29 G31 s31 => ?_
      refine wv_of (str_cut (by omega) (by omega)) ?_
      refine wv_of (str_rest (by omega) (by omega)) ?_
      rw [Int.toNat_natCast]
      refine wv_of (load_hash hSl (RowL.own (i := 0) s31 rfl)) ?_
      refine buildL (T := T) (ts := t_sl_string) (e := t_string) (si := ti_sl_string) (ie := ti_string) (l := [t.take k, t.drop k].map .str) T_sl_string rfl T_string rfl rfl rfl rfl (by simp [sz, ti_string]) (by decide) s31 fun v35 G36 s36 => ?_
      refine hash_Sum.use (xs := [t.take k, t.drop k]) (OwnL.own (i := 0) s36 rfl).cap (by simp) (by simp; omega) fun G38 c38 => ?_
      have s38 := s36.tmp c38
      have f2 : [t.take k, t.drop k].flatten = t := by simp
      rw [f2, ← hS]
      refine ⟨⟨load_hash hSl (RowL.own (i := 1) s38 rfl), trivial⟩, ?_⟩
      refine wv_of (hash_eql2 hSl hSl) ?_
      rw [decide_eq_true rfl, brB_true]
      refine wv_of (load_hash hSl (RowL.own (i := 1) s38 rfl)) ?_
      refine buildL (T := T) (ts := t_sl_string) (e := t_string) (si := ti_sl_string) (ie := ti_string) (l := [[], t].map .str) T_sl_string rfl T_string rfl rfl rfl rfl (by simp [sz, ti_string]) (by decide) s38 fun v41 G42 s42 => ?_
      refine hash_Sum.use (xs := [[], t]) (OwnL.own (i := 0) s42 rfl).cap (by simp) (by simp; omega) fun G44 c44 => ?_
      have s44 := s42.tmp c44
      have f3 : [[], t].flatten = t := by simp
      rw [f3, ← hS]
      refine ⟨⟨load_hash hSl (RowL.own (i := 2) s44 rfl), trivial⟩, ?_⟩
      refine wv_of (hash_eql2 hSl hSl) ?_
      rw [decide_eq_true rfl, brB_true]
      refine wv_of (load_hash hSl (RowL.own (i := 2) s44 rfl)) ?_
      refine hash_Sum.use (xs := bitsOf t) (OwnL.own (i := 4) s44 rfl).cap (by rw [bits_len]; omega) (by rw [bits_flat]; omega) fun G48 c48 => ?_
      have s48 := s44.tmp c48
      rw [bits_flat, ← hS]
      refine ⟨⟨load_hash hSl (RowL.own (i := 2) s48 rfl), trivial⟩, ?_⟩
      refine wv_of (hash_eql2 hSl hSl) ?_
      rw [decide_eq_true rfl]
    | succ n ih =>
      intro j v G' hn hj s
      refine hR _ _ _ _ _ ?_
      show wv (some (.int .i64 (t.length : Nat))) _
      rw [wv_some, vbin_lss, wv_some, decide_eq_true (by omega), brB_true]
      refine wv_of (v := .int .i64 ((j + 1 : Nat) : Int)) (by rw [vbin_add, i64_in (by omega) (by omega)]; rfl) ?_
      refine wv_of (str_one j rfl rfl (by omega)) ?_
      refine buildL (T := T) (ts := t_sl_string) (e := t_string) (si := ti_sl_string) (ie := ti_string) (l := [[t[j]'(by omega)], []].map .str) T_sl_string rfl T_string rfl rfl rfl rfl (by simp [sz, ti_string]) (by decide) s fun v2 G2 s2 => ?_
      refine growL (T := T) (ts := t_sl_string) (e := t_string) (si := ti_sl_string) (ie := ti_string) (tx := t_sl_string) (xi := ti_sl_string) (i := 1) T_sl_string rfl T_string rfl (by decide) T_sl_string (.inr ⟨_, rfl⟩) s2 rfl (OwnL.own (i := 0) s2 rfl).is.elems rfl rfl ?_ fun v3 G3 s3 => ?_
      · rw [List.length_map, bits_len, List.length_take]
        have : ti_string.bytes = 16 := rfl
        rw [this]
        simp
        omega
      refine wv_of (v := .int .i64 ((j + 1 : Nat) : Int)) (by rw [vbin_add, i64_in (by omega) (by omega)]; rfl) ?_
      refine ih (j + 1) _ _ (by omega) (by omega) ?_
      have e : (bitsOf (t.take (j + 1))).map AVal.str = (bitsOf (t.take j)).map AVal.str ++ [[t[j]'(by omega)], []].map AVal.str := by
        rw [List.take_succ_eq_append_getElem (by omega), bitsOf, List.flatMap_append, List.map_append]
        rfl
      rw [e]
      exact s3.erase 0
  refine loop t.length 0 .nilSlice _ rfl (by omega) ?_
  exact s2.new (p := OwnL 1 .nilSlice []) ⟨.inl ⟨rfl, rfl⟩, rfl⟩ (Ch.refl _ _)

end Go.Esc.M
