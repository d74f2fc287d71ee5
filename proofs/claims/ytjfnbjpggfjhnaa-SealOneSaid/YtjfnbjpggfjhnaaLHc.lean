/- Own work. Chapter 2: the sum, in the program: texts; keys. -/
import Derived.Test.YtjfnbjpggfjhnaaLHb
set_option linter.unusedSimpArgs false
set_option linter.unusedVariables false
namespace Go.Esc
open Go Go.RowKit

theorem CapSl.ch {n : Nat} {G G' : Heap} {E : List AId} {v : AVal} {vs : List AVal} (h : CapSl n G v vs) (hc : Ch [] G E G') : CapSl n G' v vs := by
  rcases h with ⟨id, p, st, off, len, cap, rfl, hl, h⟩ | h
  · exact .inl ⟨_, _, _, _, _, _, rfl, hl, selems_le (fun j o hj => hc.others j o hj (by simp)) h⟩
  · exact .inr h

section
variable {T : Tbl} {ts e : TypeId} {si ie : TI} (ht : T ts = some si) (hd : si.desc = .slice e) (he : T e = some ie) (hz : sz ie.zero = ie.size)

include ht hd he hz in
theorem build1 {G : Heap} {c : AVal} {K : AVal → Heap → Prop} (hc : sz c = ie.size) (hie : ie.size ≤ 16777216) (hK : ∀ s' G', Own ie.size G' s' [c] → Ch [] G (rowOf s').toList G' → K s' G') : aBuildSlice T ts 1 [(0, c)] G K := by
  unfold aBuildSlice
  have hf : fillA (fun k => some (k * ie.size, ie.size)) (List.replicate 1 ie.zero) [(0, c)] = some [c] := by simp [fillA, hz, hc, szs]
  simp only [ht, hd, he, hf]
  refine ⟨by omega, fun id hfr => hK _ _ (.inr ⟨id, 1, 1, [c], rfl, Heap.upd_self _ _ _, rfl, Nat.le_refl _, by simp [Esc.uni, hc], rfl⟩) ?_⟩
  simpa [rowOf] using Ch.new hfr

include ht hd he hz in
theorem build2 {G : Heap} {a b : AVal} {K : AVal → Heap → Prop} (ha : sz a = ie.size) (hb : sz b = ie.size) (hie : 2 * ie.size ≤ 16777216) (hK : ∀ s' G', Own ie.size G' s' [a, b] → Ch [] G (rowOf s').toList G' → K s' G') : aBuildSlice T ts 2 [(0, a), (1, b)] G K := by
  unfold aBuildSlice
  have hf : fillA (fun k => some (k * ie.size, ie.size)) (List.replicate 2 ie.zero) [(0, a), (1, b)] = some [a, b] := by simp [fillA, hz, ha, hb, szs, List.replicate]
  simp only [ht, hd, he, hf]
  refine ⟨by omega, fun id hfr => hK _ _ (.inr ⟨id, 2, 2, [a, b], rfl, Heap.upd_self _ _ _, rfl, Nat.le_refl _, by simp [Esc.uni, ha, hb], rfl⟩) ?_⟩
  simpa [rowOf] using Ch.new hfr

end

theorem tdiv_nat (a b : Nat) : (a : Int).tdiv (b : Int) = ((a / b : Nat) : Int) := by
  rw [Int.tdiv_eq_ediv_of_nonneg (Int.natCast_nonneg _)]; rfl
theorem tmod_nat' (a b : Nat) : (a : Int).tmod (b : Int) = ((a % b : Nat) : Int) := by
  rw [Int.tmod_eq_emod_of_nonneg (Int.natCast_nonneg _)]; rfl

theorem length_bytesBE (v : Nat) : ∀ k, (bytesBE k v).length = k
  | 0 => rfl
  | k + 1 => by simp [bytesBE, length_bytesBE v k]

theorem shr_to_u8 {v m : Nat} {s : Int} {kk : IntKind} (hs : s = ((8 * m : Nat) : Int)) (hm : m ≤ 7) {T : Tbl} {t : TypeId} : vbin T .shr t (.int .u64 (v : Int)) (.int kk s) = some (.int .u64 ((v / 2 ^ (8 * m) : Nat) : Int)) := by
  subst hs
  rw [vbin_shr _ _ _ _ _ _ (by omega)]
  have h1 : min ((8 * m : Nat) : Int).toNat IntKind.u64.bits = 8 * m := by
    have : IntKind.u64.bits = 64 := rfl
    omega
  have h2 : ((2 : Int) ^ (8 * m)) = ((2 ^ (8 * m) : Nat) : Int) := by simp
  rw [h1, h2, Int.fdiv_eq_ediv_of_nonneg _ (Int.natCast_nonneg _)]
  congr 2

theorem length_pad (s : List UInt8) : (pad s).length % 64 = 0 ∧ (pad s).length ≤ s.length + 72 := by
  unfold pad
  simp only [List.length_append, List.length_cons, List.length_replicate, length_bytesBE]
  constructor <;> omega

theorem length_chain : ∀ (n : Nat) {h : List Nat} (m : List UInt8), h.length = 8 → (chain n h m).length = 8
  | 0, h, m, hh => hh
  | n + 1, h, m, hh => length_chain n _ (length_compress hh)

theorem length_digest (h : List Nat) : (digest h).length = 32 := by simp [digest]
theorem length_sha (s : List UInt8) : (sha s).length = 32 := length_digest _

/-- A key, filled up, laid over by a byte; a text's sum under a key. -/
def overK (key : List UInt8) (c : UInt8) : List UInt8 := (key ++ List.replicate 32 0).map fun b => b ^^^ c
def mac (key text : List UInt8) : List UInt8 := sha (overK key 0x5c ++ sha (overK key 0x36 ++ text))

theorem u8_xor {T : Tbl} {t : TypeId} (a b : UInt8) : vbin T .xor t (u8v a) (u8v b) = some (u8v (a ^^^ b)) := by
  have hb : IntKind.u8.bits = 8 := rfl
  have h1 : a.toNat < 2 ^ 8 := a.toNat_lt
  have h2 : b.toNat < 2 ^ 8 := b.toNat_lt
  unfold u8v
  rw [vbin_xor, wrapU8, BitVec.toNat_xor, bv_of, bv_of, hb, Nat.mod_eq_of_lt h1, Nat.mod_eq_of_lt h2, UInt8.toNat_xor]
  have : a.toNat ^^^ b.toNat < 2 ^ 8 := Nat.xor_lt_two_pow h1 h2
  congr 2
  omega

end Go.Esc
namespace Go.Esc.M
open Go Go.Esc

section
variable {G : Heap} {Q : AVal → Heap → Prop}

/-- The first bytes done, the rest zeros. -/
def part (D : List UInt8) (n j : Nat) : List UInt8 := D.take j ++ List.replicate (n - j) 0
theorem length_part {D : List UInt8} {n j : Nat} (hD : D.length = n) (hj : j ≤ n) : (part D n j).length = n := by simp [part]; omega
theorem part_set {D : List UInt8} {n j : Nat} (hD : D.length = n) (hj : j < n) : (part D n j).set j (D[j]'(by omega)) = part D n (j + 1) := by
  unfold part
  have hl : (D.take j).length = j := by simp; omega
  rw [List.set_append_right _ _ (by omega), hl, Nat.sub_self, show n - j = (n - (j + 1)) + 1 by omega, List.replicate_succ, List.set_cons_zero, List.take_succ_eq_append_getElem (by omega), List.append_assoc]
  rfl
theorem part_full {D : List UInt8} {n : Nat} (hD : D.length = n) : part D n n = D := by simp [part, ← hD]

set_option maxHeartbeats 2000000 in
/-- The last loop of both: a state's words as bytes. -/
theorem digest_loop {F0 : List AId} {G0 : Heap} {h : List Nat} {x0 : AVal} {is ir : AId} {G' : Heap} {ps : List LP} {p q : Nat} (hh : h.length = 8) (hp : p < ps.length) (hpq : p ≠ q) (hq : ps[q]? = some (RowL is (.agg (u32s h)))) (R : List AVal → Heap → Prop) (E : AVal → AVal → Heap → Prop)
    (hR : ∀ (x69 x70 x71 x72 : AVal) (G68 : Heap), (wv (vbin T .lss t_int x72 (.int .i64 32)) fun v73 => brB (some v73)
      (wv (vbin T .quo t_int x72 (.int .i64 4)) fun v74 => wv (viaddr T t_ar8_uint32 x70 v74) fun v75 => wv (vload T G68 t_uint32 v75) fun v76 => wv (vbin T .rem t_int x72 (.int .i64 4)) fun v77 => wv (vbin T .mul t_int (.int .i64 8) v77) fun v78 => wv (vbin T .sub t_int (.int .i64 24) v78) fun v79 => wv (vbin T .shr t_uint32 v76 v79) fun v80 => wv (vconv T G68 t_uint32 t_uint8 v80) fun v81 => wv (viaddr T t_api_Hash x71 x72) fun v82 => wg (vstore T G68 t_uint8 v82 v81) fun G83 => wv (vbin T .add t_int x72 (.int .i64 1)) fun v84 => R [x69, x70, x71, v84] G83)
      (E x69 x71 G68)) → R [x69, x70, x71, x72] G68)
    (hsp : Sp F0 G0 (ps.set p (RowL ir (.agg ((List.replicate 32 (0 : UInt8)).map u8v)))) G') (hfin : ∀ G', Sp F0 G0 (ps.set p (RowL ir (.agg ((digest h).map u8v)))) G' → E x0 (.ptr ir [] 0) G') :
    R [x0, .ptr is [] 0, .ptr ir [] 0, .int .i64 0] G' := by
  have hD := length_digest h
  have loop : ∀ (n j : Nat) (G' : Heap), 32 - j = n → j ≤ 32 → Sp F0 G0 (ps.set p (RowL ir (.agg ((part (digest h) 32 j).map u8v)))) G' → R [x0, .ptr is [] 0, .ptr ir [] 0, .int .i64 (j : Int)] G' := by
    intro n
    induction n with
    | zero =>
      intro j G' hn hj hs
      have : j = 32 := by omega
      subst this
      refine hR _ _ _ _ _ ?_
      rw [vbin_lss, wv_some, brB_dec]
      refine ⟨fun h => absurd h (by decide), fun _ => hfin _ ?_⟩
      rw [part_full hD] at hs
      exact hs
    | succ n ih =>
      intro j G' hn hj hs
      have hj32 : j < 32 := by omega
      have g1 := RowL.own (i := p) hs (List.getElem?_set_self hp)
      have g2 := RowL.own (i := q) hs (by rw [List.getElem?_set_ne hpq]; exact hq)
      obtain ⟨x, hx⟩ : ∃ x, h[j / 4]? = some x := ⟨_, List.getElem?_eq_getElem (by omega)⟩
      refine hR _ _ _ _ _ ?_
      rw [vbin_lss, wv_some, brB_dec]
      refine ⟨fun _ => ?_, fun h => absurd (by omega) h⟩
      have hq4 : (j : Int).tdiv 4 = ((j / 4 : Nat) : Int) := tdiv_nat j 4
      have hr4 : (j : Int).tmod 4 = ((j % 4 : Nat) : Int) := tmod_nat' j 4
      rw [vbin_quo _ _ _ _ _ (by decide), wv_some, hq4, i64_in (by omega) (by omega), ar8_addr rfl (by omega), wv_some, words_load g2 hx, wv_some, vbin_rem _ _ _ _ _ (by decide), wv_some, hr4, vbin_mul, wv_some, i64_in (by omega) (by omega), vbin_sub, wv_some, i64_in (by omega) (by omega)]
      rw [u32_shr (k := 24 - 8 * (j % 4)) (by omega) (by omega), wv_some, vconv_int T_uint32 T_uint8 rfl, wv_some, addr_hash hj32, wv_some]
      have hb : (digest h)[j]'(by rw [hD]; exact hj32) = UInt8.ofNat (shr32 (24 - 8 * (j % 4)) x) := by
        simp only [digest, List.getElem_map, List.getElem_range, List.getD_eq_getElem?_getD, hx]
        rfl
      have hu : (AVal.int .u8 (IntKind.u8.wrap ((shr32 (24 - 8 * (j % 4)) x : Nat) : Int))) = u8v ((digest h)[j]'(by rw [hD]; exact hj32)) := by
        rw [hb, u8v_ofNat, wrapU8]
        rfl
      rw [hu, store_byte (by rw [length_part hD hj]; exact hj32) g1, wg_some, part_set hD hj32, vbin_add, wv_some, i64_in (by omega) (by omega)]
      refine ih (j + 1) _ (by omega) (by omega) ?_
      have := Sp.setRow hs (j := p) (List.getElem?_set_self hp) (.agg ((part (digest h) 32 (j + 1)).map u8v))
      rwa [List.set_set] at this
  exact loop 32 0 G' rfl (by omega) (by simpa [part] using hsp)

theorem own_len {v : AVal} {l : List UInt8} (h : Own 1 G v (l.map u8v)) : vlen T G t_sl_uint8 v = some (.int .i64 (l.length : Nat)) := by
  rw [h.is.len (i := ti_sl_uint8) T_sl_uint8 rfl, List.length_map]

/-- A byte more. -/
theorem grow1 {F0 : List AId} {G0 : Heap} {ps : List LP} {s : AVal} {l : List UInt8} {b : UInt8} {i : Nat} {K : AVal → Heap → Prop} (hs : Sp F0 G0 ps G) (hi : ps[i]? = some (OwnL 1 s (l.map u8v))) (hl : l.length + 1 ≤ 140737488355328)
    (hK : ∀ s' G', Sp F0 G0 (ps.set i (OwnL 1 s' ((l ++ [b]).map u8v))) G' → K s' G') : aBuildSlice T t_sl_uint8 1 [(0, u8v b)] G fun v G' => aAppend T G' t_sl_uint8 t_sl_uint8 s v K := by
  obtain ⟨F, ho, _⟩ := hs.get hi
  refine append1 (T := T) (ts := t_sl_uint8) (e := t_uint8) (si := ti_sl_uint8) (ie := ti_uint8) T_sl_uint8 rfl T_uint8 rfl (by decide) ho rfl rfl (by decide) ?_ fun s' G2 ho2 hk => hK s' G2 ?_
  · simp only [List.length_map, ti_uint8]
    omega
  · refine hs.call hi (OwnL 1 s' ((l ++ [b]).map u8v)) fun F h k => ?_
    obtain ⟨_, rfl⟩ := h
    exact k _ _ ⟨by rw [List.map_append]; exact ho2, rfl⟩ hk.ch

set_option maxHeartbeats 4000000 in
theorem hash_Sum.use {v : AVal} {xs : List (List UInt8)} (h : CapSl 1 G v (xs.map .str)) (hN : xs.length ≤ 140737488355328) (hl : xs.flatten.length ≤ 281474976710656) (hQ : ∀ G', Ch [] G [] G' → Q (.agg ((sha xs.flatten).map u8v)) G') :
    ACalls P hash_Sum.n [v] G Q := by
  refine hash_Sum.sound ?_
  unfold hash_Sum.S
  rw [z_hash]
  intro i1 f1
  have s1 := (Sp.nil G).row f1 (.agg ((List.replicate 32 (0 : UInt8)).map u8v))
  refine strings_Join.use (h.ch f1.ch) hN hl ?_
  unfold sha at hQ
  revert hQ hl
  generalize xs.flatten = s
  intro hl hQ
  obtain ⟨D, hD⟩ : ∃ D, chain ((pad s).length / 64) H256 (pad s) = D := ⟨_, rfl⟩
  rw [hD] at hQ
  have hD8 : D.length = 8 := by rw [← hD]; exact length_chain _ _ rfl
  have hlen : ∀ G (l : List UInt8), vlen T G t_string (.str l) = some (.int .i64 (l.length : Nat)) := fun _ _ => rfl
  rw [hlen, wv_some]
  refine build1 (T := T) (ts := t_sl_uint8) (e := t_uint8) (si := ti_sl_uint8) (ie := ti_uint8) T_sl_uint8 rfl T_uint8 rfl rfl (by decide) fun pd G7 h7 c7 => ?_
  have s7 := s1.new (p := OwnL 1 pd ([(128 : UInt8)].map u8v)) ⟨h7, rfl⟩ c7
  intro R8 hR8
  obtain ⟨zt, hzt⟩ : ∃ zt, zt = (119 - s.length % 64) % 64 := ⟨_, rfl⟩
  have loop1 : ∀ (n z : Nat) (pd : AVal) (G' : Heap), zt - z = n → z ≤ zt → Sp [] G [OwnL 1 pd (((128 : UInt8) :: List.replicate z 0).map u8v), RowL i1 (.agg ((List.replicate 32 (0 : UInt8)).map u8v))] G' →
      R8 [.ptr i1 [] 0, .str s, .int .i64 (s.length : Nat), pd] G' := by
    intro n
    induction n with
    | zero =>
      intro z pd G' hn hz hs
      have : z = zt := by omega
      subst this
      obtain ⟨F, ho, _⟩ := hs.get (i := 0) rfl
      refine hR8 _ _ _ _ _ ?_
      rw [own_len ho, wv_some, vbin_add, wv_some, List.length_cons, List.length_replicate, i64_in (by omega) (by omega), vbin_rem _ _ _ _ _ (by decide), wv_some]
      have hm : ((s.length : Int) + ((z + 1 : Nat) : Int)).tmod 64 = 56 := by
        rw [Int.tmod_eq_emod_of_nonneg (by omega)]
        omega
      rw [hm, vbin_neq, wv_some, brB_ndec]
      refine ⟨fun h => absurd rfl h, fun _ => ?_⟩
      intro R22 hR22
      have loop2 : ∀ (m : Nat) (k : Nat) (bs : List UInt8) (pd : AVal) (G' : Heap), 8 - k = m → k ≤ 8 → bs ++ bytesBE m (8 * s.length) = (128 : UInt8) :: (List.replicate z 0 ++ bytesBE 8 (8 * s.length)) → bs.length ≤ 200 →
          Sp [] G [OwnL 1 pd (bs.map u8v), RowL i1 (.agg ((List.replicate 32 (0 : UInt8)).map u8v))] G' → R22 [.ptr i1 [] 0, .str s, .int .i64 (s.length : Nat), pd, .int .i64 (k : Int)] G' := by
        intro m
        induction m with
        | zero =>
          intro k bs pd G' hm hk he hbl hs
          have : k = 8 := by omega
          subst this
          rw [bytesBE, List.append_nil] at he
          subst he
          obtain ⟨F, ho, _⟩ := hs.get (i := 0) rfl
          refine hR22 _ _ _ _ _ _ ?_
          rw [vbin_lss, wv_some, brB_dec]
          refine ⟨fun h => absurd h (by decide), fun _ => ?_⟩
          rw [conv_bytes T_sl_uint8 rfl T_uint8 rfl T_string rfl ho.is, wv_some, vbin_sadd _ _ (by omega), wv_some]
          have hpad : s ++ (128 : UInt8) :: (List.replicate z 0 ++ bytesBE 8 (8 * s.length)) = pad s := by rw [pad, ← hzt]
          rw [hpad]
          refine wv_of (v := .agg (u32s H256)) (by kernel_rfl) ?_
          have sA := hs.erase 0
          rw [z8]
          intro i44 f44
          have s45 := sA.row f44 (.agg (u32s (List.replicate 8 0)))
          rw [ar8_store (by simp) (ws' := H256) rfl (RowL.own (i := 0) s45 rfl), wg_some]
          have s46 := Sp.setRow s45 (j := 0) rfl (.agg (u32s H256))
          refine hash_constants.use fun G48 c48 => ?_
          have s48 := s46.tmp c48
          rw [z64]
          intro i49 f49
          have s50 := s48.row f49 (.agg (u32s (List.replicate 64 0)))
          rw [ar64_store (by simp) (ws' := K256) rfl (RowL.own (i := 0) s50 rfl), wg_some]
          have s51 := Sp.setRow s50 (j := 0) rfl (.agg (u32s K256))
          intro R52 hR52
          have loop3 : ∀ (n : Nat) (m : List UInt8) (h : List Nat) (G' : Heap), m.length = 64 * n → h.length = 8 → chain n h m = D →
              Sp [] G [RowL i49 (.agg (u32s K256)), RowL i44 (.agg (u32s h)), RowL i1 (.agg ((List.replicate 32 (0 : UInt8)).map u8v))] G' → R52 [.ptr i1 [] 0, .str m, .ptr i44 [] 0, .ptr i49 [] 0] G' := by
            intro n
            induction n with
            | zero =>
              intro m h G' hm hh he hs
              have : m = [] := List.length_eq_zero_iff.1 hm
              subst this
              have he : h = D := he
              subst he
              refine hR52 _ _ _ _ _ ?_
              rw [vbin_sneq, wv_some, brB_ndec]
              refine ⟨fun h => absurd rfl h, fun _ => ?_⟩
              intro i65 f65
              have s66 := hs.row f65 (.agg ((List.replicate 32 (0 : UInt8)).map u8v))
              intro R67 hR67
              refine digest_loop (p := 0) (q := 2) (x0 := .ptr i1 [] 0) hh (by simp) (by decide) (ps := [RowL i65 (.agg ((List.replicate 32 (0 : UInt8)).map u8v)), RowL i49 (.agg (u32s K256)), RowL i44 (.agg (u32s h)), RowL i1 (.agg ((List.replicate 32 (0 : UInt8)).map u8v))]) rfl R67 _ hR67 s66 fun G9 h9 => ?_
              have hz := length_digest h
              rw [load_hash hz (RowL.own (i := 0) h9 rfl), wv_some, store_hash (by simp) hz (RowL.own (i := 3) h9 rfl), wg_some, load_hash hz (Heap.upd_self _ _ _), wv_some]
              exact hQ _ (Sp.setRow h9 (j := 3) rfl (.agg ((digest h).map u8v))).ch
            | succ n ih =>
              intro m h G' hm hh he hs
              refine hR52 _ _ _ _ _ ?_
              rw [vbin_sneq, wv_some, brB_ndec]
              refine ⟨fun _ => ?_, fun h => absurd (congrArg List.length h) (by rw [hm]; simp)⟩
              rw [ar8_load hh (RowL.own (i := 1) hs rfl), wv_some, str_cut (by omega) (by omega), wv_some]
              refine hash_turned.use hh (by simp; omega) (RowL.own (i := 0) hs rfl) fun G9 c9 => ?_
              have s9 := hs.tmp c9
              have hc8 : (compress h (m.take 64)).length = 8 := length_compress hh
              show wg (vstore T G9 t_ar8_uint32 (.ptr i44 [] 0) (.agg (u32s (compress h (m.take 64))))) _
              rw [ar8_store hh hc8 (RowL.own (i := 1) s9 rfl), wg_some, str_rest (by omega) (by omega), wv_some]
              exact ih (m.drop 64) _ _ (by simp; omega) hc8 he (Sp.setRow s9 (j := 1) rfl _)
          have hp := length_pad s
          exact loop3 ((pad s).length / 64) (pad s) H256 _ (by omega) rfl hD s51
        | succ m ih =>
          intro k bs pd G' hm hk he hbl hs
          refine hR22 _ _ _ _ _ _ ?_
          rw [vbin_lss, wv_some, brB_dec]
          refine ⟨fun _ => ?_, fun h => absurd (by omega) h⟩
          rw [vbin_mul, wv_some, i64_in (by omega) (by omega), vconv_int T_int T_uint64 rfl, wv_some, u64_in (by omega) (by omega), vbin_mul, wv_some, i64_in (by omega) (by omega), vbin_sub, wv_some, i64_in (by omega) (by omega)]
          have e8 : (8 : Int) * (s.length : Nat) = ((8 * s.length : Nat) : Int) := by omega
          rw [e8, shr_to_u8 (m := m) (by omega) (by omega), wv_some, vconv_int T_uint64 T_uint8 rfl, wv_some, wrapU8]
          have eb : (AVal.int .u8 (((8 * s.length / 2 ^ (8 * m) : Nat) : Int) % 256)) = u8v (UInt8.ofNat (8 * s.length / 2 ^ (8 * m))) := by rw [u8v_ofNat]; rfl
          rw [eb]
          have hbl' : bs.length + (m + 1) ≤ 72 + 1 := by
            have := congrArg List.length he
            simp only [List.length_append, length_bytesBE, List.length_cons, List.length_replicate] at this
            omega
          refine grow1 (i := 0) hs rfl (by omega) fun s' G9 s9 => ?_
          rw [vbin_add, wv_some, i64_in (by omega) (by omega)]
          refine ih (k + 1) _ s' G9 (by omega) (by omega) ?_ (by simp; omega) s9
          rw [bytesBE] at he
          rw [List.append_assoc, List.singleton_append]
          exact he
      exact loop2 8 0 ((128 : UInt8) :: List.replicate z 0) pd G' rfl (by omega) rfl (by simp; omega) hs
    | succ n ih =>
      intro z pd G' hn hz hs
      obtain ⟨F, ho, _⟩ := hs.get (i := 0) rfl
      refine hR8 _ _ _ _ _ ?_
      rw [own_len ho, wv_some, vbin_add, wv_some, List.length_cons, List.length_replicate, i64_in (by omega) (by omega), vbin_rem _ _ _ _ _ (by decide), wv_some]
      have hm : ((s.length : Int) + ((z + 1 : Nat) : Int)).tmod 64 ≠ 56 := by
        rw [Int.tmod_eq_emod_of_nonneg (by omega)]
        omega
      rw [vbin_neq, wv_some, brB_ndec]
      refine ⟨fun _ => ?_, fun h => absurd h hm⟩
      refine grow1 (i := 0) (b := 0) hs rfl (by simp; omega) fun s' G9 s9 => ?_
      refine ih (z + 1) s' G9 (by omega) (by omega) ?_
      have : (128 : UInt8) :: List.replicate (z + 1) 0 = (128 : UInt8) :: List.replicate z 0 ++ [0] := by rw [List.replicate_succ']; rfl
      rw [this]
      exact s9
  exact loop1 zt 0 pd G7 rfl (by omega) s7

end
end Go.Esc.M
