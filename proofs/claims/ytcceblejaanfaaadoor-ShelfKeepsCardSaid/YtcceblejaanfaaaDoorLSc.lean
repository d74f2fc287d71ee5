/- Own work. Chapter 9: secrets, in the document. -/
import Derived.Test.YtcceblejaanfaaaDoorLSb
set_option linter.unusedSimpArgs false
set_option linter.unusedVariables false
namespace Go.Esc.M
open Go Go.Esc

def plA (p : Nat) : List AVal := (List.range 48).map fun i => .int .i64 ((bitN p i : Nat) : Int)
theorem length_plA (p : Nat) : (plA p).length = 48 := by simp [plA]
theorem plA_get (p : Nat) {i : Nat} (hi : i < 48) : (plA p)[i]? = some (.int .i64 ((bitN p i : Nat) : Int)) := by
  rw [plA, List.getElem?_map, List.getElem?_range hi]
  rfl
theorem uni_plA (p : Nat) : uni 1 (plA p) = true := by simp [plA, uni, sz]
theorem okvs_ints : ∀ l : List Int, okvs (l.map (AVal.int .i64)) = true
  | [] => rfl
  | b :: l => by simp [okvs, okv, okvs_ints l]
theorem okv_plA (p : Nat) : okv (.agg (plA p)) = true := by
  have : plA p = ((List.range 48).map fun i => ((bitN p i : Nat) : Int)).map (AVal.int .i64) := by simp [plA]
  rw [this, okv]
  exact okvs_ints _
theorem fits_plA (p : Nat) : vfits ti_ar48_int (.agg (plA p)) = true := by
  have h1 : szs (plA p) = 48 := by rw [szs_uni (uni_plA p), length_plA]
  simp [vfits, sz, h1, ti_ar48_int, AVal.isAgg, ADesc.isAgg]
theorem sz_plA (p : Nat) : sz (.agg (plA p)) = 48 := by rw [sz, szs_uni (uni_plA p), length_plA]

theorem dvd_bits {p : Nat} : ∀ (i : Nat), (∀ j, j < i → bitN p j = 0) → 2 ^ i ∣ p
  | 0, _ => by simp
  | i + 1, h => by
    obtain ⟨c, hc⟩ := dvd_bits i fun j hj => h j (by omega)
    have hi := h i (by omega)
    unfold bitN at hi
    have e : p / 2 ^ i = c := Nat.div_eq_of_eq_mul_right (Nat.pow_pos (by decide)) hc
    rw [e] at hi
    refine ⟨c / 2, ?_⟩
    rw [Nat.pow_succ, Nat.mul_assoc, show 2 * (c / 2) = c by omega]
    exact hc
theorem level_bit {p i : Nat} (hi : i < 48) (hz : ∀ j, j < i → bitN p j = 0) (h1 : bitN p i = 1) : level p = i := by
  obtain ⟨c, hc⟩ := dvd_bits i hz
  unfold bitN at h1
  have e : p / 2 ^ i = c := Nat.div_eq_of_eq_mul_right (Nat.pow_pos (by decide)) hc
  rw [e] at h1
  refine level_of (m := c / 2) hi ?_
  rw [show 2 * (c / 2) + 1 = c by omega]
  exact hc
theorem level_all {p : Nat} (hp : p < 2 ^ 48) (hz : ∀ j, j < 48 → bitN p j = 0) : level p = 48 := by
  have := Nat.eq_zero_of_dvd_of_lt (dvd_bits 48 hz) hp
  rw [this, level_zero]
theorem bit_test (p i : Nat) : p.testBit i = decide (bitN p i = 1) := by rw [Nat.testBit_eq_decide_div_mod_eq]; rfl
theorem div_bits {a b n : Nat} (ha : a < 2 ^ 48) (hb : b < 2 ^ 48) (h : ∀ i, n ≤ i → i < 48 → bitN a i = bitN b i) : a / 2 ^ n = b / 2 ^ n := by
  apply Nat.eq_of_testBit_eq
  intro j
  rw [Nat.testBit_div_two_pow, Nat.testBit_div_two_pow]
  by_cases hj : j + n < 48
  · rw [bit_test, bit_test, h (j + n) (by omega) hj]
  · have h48 : (2 : Nat) ^ 48 ≤ 2 ^ (j + n) := Nat.pow_le_pow_right (by decide) (by omega)
    rw [Nat.testBit_lt_two_pow (by omega), Nat.testBit_lt_two_pow (by omega)]
theorem bits_div {a b n i : Nat} (h : a / 2 ^ n = b / 2 ^ n) (hi : n ≤ i) : bitN a i = bitN b i := by
  obtain ⟨j, rfl⟩ : ∃ j, i = n + j := ⟨i - n, by omega⟩
  rw [bit_div, bit_div, h]
theorem bit_lt (p i : Nat) : bitN p i = 0 ∨ bitN p i = 1 := by unfold bitN; omega

section
variable {F0 : List AId} {G0 G : Heap} {ps : List LP} {Q : AVal → Heap → Prop}

theorem escrowref09_good.use {n : Int} (hQ : Q (.bool (okN n)) G) : ACalls P escrowref09_good.n [.int .i64 n] G Q := by
  refine escrowref09_good.sound ?_
  unfold escrowref09_good.S
  unfold okN at hQ
  rw [vbin_geq, wv_some, brB_dec]
  refine ⟨fun h => ?_, fun h => by rwa [decide_eq_false h, Bool.false_and] at hQ⟩
  rw [decide_eq_true h, Bool.true_and] at hQ
  rw [vbin_leq, wv_some]
  exact hQ

theorem escrowref09_Place.use {n : Int} (hn : okN n = true) (hQ : ∀ G', Ch [] G [] G' → Q (.agg (plA (pl n))) G') : ACalls P escrowref09_Place.n [.int .i64 n] G Q := by
  refine escrowref09_Place.sound ?_
  unfold escrowref09_Place.S
  obtain ⟨hp1, hp2⟩ := pl_eq hn
  obtain ⟨p, hp⟩ : ∃ p, p = pl n := ⟨_, rfl⟩
  rw [← hp] at hp1 hp2 hQ
  obtain ⟨Z, hZ⟩ : ∃ Z, Z = List.replicate 48 (AVal.int .i64 0) := ⟨_, rfl⟩
  have hz : z_ar48_int = .agg Z := by rw [hZ]; rfl
  have hZl : Z.length = 48 := by rw [hZ]; simp
  have hDZ : (plA p).length = Z.length := by rw [length_plA, hZl]
  have huZ : uni 1 Z = true := by rw [hZ]; exact uni_replicate rfl
  rw [hz]
  intro i1 f1
  have s1 := (Sp.nil G).row f1 (.agg Z)
  intro i3 f3
  have s3 := s1.row f3 (.agg Z)
  rw [vbin_sub, hp1, wv_some]
  have e48 : (2 : Nat) ^ 48 = 281474976710656 := by decide
  rw [i64_in (by omega) (by omega)]
  have hum : ∀ j, uni 1 (mix (plA p) Z j) = true := fun j => uni_append (uni_take (uni_plA p) _) (uni_drop huZ _)
  intro R hR
  have loop : ∀ (m j : Nat) (G' : Heap), 48 - j = m → j ≤ 48 → Sp [] G [RowL i3 (.agg (mix (plA p) Z j)), RowL i1 (.agg Z)] G' → R [.ptr i1 [] 0, .ptr i3 [] 0, .int .i64 ((p / 2 ^ j : Nat) : Int), .int .i64 (j : Int)] G' := by
    intro m
    induction m with
    | zero =>
      intro j G' hm hj s
      have h48 : j = Z.length := by omega
      rw [h48, mix_full hDZ] at s
      refine hR _ _ _ _ _ ?_
      rw [vbin_lss, wv_some, decide_eq_false (by omega), brB_false]
      refine wv_of (whole_load T_ar48_int (RowL.own (i := 0) s rfl) (fits_plA p)) ?_
      refine wg_of (whole_store T_ar48_int (RowL.own (i := 1) s rfl) (fits_plA p) (by rw [sz_plA, sz, szs_uni huZ, hZl]) (okv_plA p)) ?_
      have s' := Sp.setRow (j := 1) s rfl (.agg (plA p))
      refine wv_of (whole_load T_ar48_int (RowL.own (i := 1) s' rfl) (fits_plA p)) ?_
      exact hQ _ s'.ch
    | succ m ih =>
      intro j G' hm hj s
      have hjZ : j < Z.length := by omega
      have hle : p / 2 ^ j ≤ p := Nat.div_le_self _ _
      refine hR _ _ _ _ _ ?_
      rw [vbin_lss, wv_some, decide_eq_true (by omega), brB_true]
      refine wv_of (remN (p / 2 ^ j) 2 (by decide) rfl) ?_
      refine wv_of (arrN_addr (j := j) T_ar48_int rfl T_int rfl (by omega)) ?_
      have hold : (mix (plA p) Z j)[j]? = some (.int .i64 0) := by
        rw [mix_get hDZ hjZ]
        congr 1
        simp only [hZ, List.getElem_replicate]
      refine wg_of (arrN_set (s := 1) (c := .int .i64 ((p / 2 ^ j % 2 : Nat) : Int)) T_int (RowL.own (i := 0) s rfl) (hum j) hold rfl rfl rfl) ?_
      have hset : (mix (plA p) Z j).set j (.int .i64 ((p / 2 ^ j % 2 : Nat) : Int)) = mix (plA p) Z (j + 1) := by
        have := mix_set hDZ hjZ
        have e : (plA p)[j]'(by rw [length_plA]; omega) = .int .i64 ((p / 2 ^ j % 2 : Nat) : Int) := by
          have := plA_get p (i := j) (by omega)
          rw [List.getElem?_eq_getElem (by rw [length_plA]; omega)] at this
          injection this
        rwa [e] at this
      rw [hset]
      have s' := Sp.setRow (j := 0) s rfl (.agg (mix (plA p) Z (j + 1)))
      have hq : vbin T .quo t_int64 (.int .i64 ((p / 2 ^ j : Nat) : Int)) (.int .i64 2) = some (.int .i64 ((p / 2 ^ (j + 1) : Nat) : Int)) := by
        rw [vbin_quo _ _ _ _ _ (by decide)]
        have h2 : (((p / 2 ^ j : Nat) : Int).tdiv 2) = ((p / 2 ^ j / 2 : Nat) : Int) := tdiv_nat _ 2
        have h3 : p / 2 ^ (j + 1) = p / 2 ^ j / 2 := by rw [Nat.pow_succ, Nat.div_div_eq_div_mul]
        obtain ⟨q, hq⟩ : ∃ q, q = p / 2 ^ j := ⟨_, rfl⟩
        rw [h2, h3]
        rw [← hq] at hle ⊢
        rw [i64_in (by omega) (by omega)]
      refine wv_of hq ?_
      rw [vbin_add, wv_some, i64_in (by omega) (by omega)]
      exact ih (j + 1) _ (by omega) (by omega) s'
  have := loop 48 0 _ rfl (by omega) (by rw [mix_zero]; exact s3)
  simpa using this

theorem escrowref09_level.use {p : Nat} (hp : p < 2 ^ 48) (hQ : ∀ G', Ch [] G [] G' → Q (.int .i64 ((level p : Nat) : Int)) G') : ACalls P escrowref09_level.n [.agg (plA p)] G Q := by
  refine escrowref09_level.sound ?_
  unfold escrowref09_level.S
  intro i1 f1
  have s1 := (Sp.nil G).row f1 (.agg (plA p))
  intro R hR
  have loop : ∀ (m j : Nat), 48 - j = m → j ≤ 48 → (∀ q, q < j → bitN p q = 0) → R [.ptr i1 [] 0, .int .i64 (j : Int)] (G.upd i1 (.own (.agg (plA p)))) := by
    intro m
    induction m with
    | zero =>
      intro j hm hj hz
      have h48 : j = 48 := by omega
      subst h48
      refine hR _ _ _ ?_
      rw [vbin_lss, wv_some, decide_eq_false (by omega), brB_false]
      have := hQ _ s1.ch
      rwa [level_all hp hz] at this
    | succ m ih =>
      intro j hm hj hz
      refine hR _ _ _ ?_
      rw [vbin_lss, wv_some, decide_eq_true (by omega), brB_true]
      refine wv_of (arrN_addr (j := j) T_ar48_int rfl T_int rfl (by omega)) ?_
      refine wv_of (arrN_get (s := 1) T_int (RowL.own (i := 0) s1 rfl) (uni_plA p) (plA_get p (by omega)) rfl) ?_
      rw [vbin_eql, wv_some, brB_dec]
      refine ⟨fun h1 => ?_, fun h1 => ?_⟩
      · have := hQ _ s1.ch
        rwa [level_bit (by omega) hz (by omega)] at this
      · rw [vbin_add, wv_some, i64_in (by omega) (by omega)]
        refine ih (j + 1) (by omega) (by omega) fun q hq => ?_
        by_cases hqj : q = j
        · subst hqj
          rcases bit_lt p q with h | h
          · exact h
          · omega
        · exact hz q (by omega)
  exact loop 48 0 rfl (by omega) (fun q hq => by omega)

theorem escrowref09_Point.use {h : List UInt8} (hl : h.length = 32) (hQ : ∀ G', Ch [] G [] G' → Q (.agg ((sha h).map u8v)) G') : ACalls P escrowref09_Point.n [.agg (h.map u8v)] G Q := by
  refine escrowref09_Point.sound ?_
  unfold escrowref09_Point.S
  rw [z_hash]
  intro i1 f1
  have s1 := (Sp.nil G).row f1 (.agg (h.map u8v))
  intro i3 f3
  have s3 := s1.row f3 (.agg ((List.replicate 32 (0 : UInt8)).map u8v))
  refine wv_of vslice_hash ?_
  refine wv_of (conv_bytes T_sl_uint8 rfl T_uint8 rfl T_string rfl (row_is (RowL.own (i := 1) s3 rfl) hl)) ?_
  refine buildL (T := T) (ts := t_sl_string) (e := t_string) (si := ti_sl_string) (ie := ti_string) (l := [h].map .str) T_sl_string rfl T_string rfl rfl rfl rfl (by simp [sz, ti_string]) (by decide) s3 fun v7 G8 s8 => ?_
  refine escrowref02_Sum.use (xs := [h]) (OwnL.own (i := 0) s8 rfl).is (by simp) (by simp; omega) fun G10 c10 => ?_
  have s10 := s8.tmp c10
  have e1 : [h].flatten = h := by simp
  rw [e1]
  refine wg_of (store_hash (hs' := sha h) (by simp) (length_sha _) (RowL.own (i := 1) s10 rfl)) ?_
  have s11 := Sp.setRow (j := 1) s10 rfl (.agg ((sha h).map u8v))
  refine wv_of (load_hash (length_sha _) (RowL.own (i := 1) s11 rfl)) ?_
  exact hQ _ s11.ch

set_option maxHeartbeats 1000000 in
theorem escrowref09_down.use {h : List UInt8} {p k : Nat} (hl : h.length = 32) (hk : k ≤ 48) (hQ : ∀ G', Ch [] G [] G' → Q (.agg ((downS p k h).map u8v)) G') : ACalls P escrowref09_down.n [.agg (h.map u8v), .agg (plA p), .int .i64 (k : Int)] G Q := by
  refine escrowref09_down.sound ?_
  unfold escrowref09_down.S
  rw [z_hash]
  intro i1 f1
  have s1 := (Sp.nil G).row f1 (.agg (h.map u8v))
  intro i3 f3
  have s3 := s1.row f3 (.agg (plA p))
  intro i5 f5
  have s5 := s3.row f5 (.agg ((List.replicate 32 (0 : UInt8)).map u8v))
  rw [vbin_sub, i64_in (by omega) (by omega), wv_some]
  intro R hR
  have hD := length_down (pl := p) k hl
  have loop : ∀ (r : Nat) (c : List UInt8) (G' : Heap), r ≤ k → c.length = 32 → downS p r c = downS p k h → Sp [] G [RowL i5 (.agg ((List.replicate 32 (0 : UInt8)).map u8v)), RowL i3 (.agg (plA p)), RowL i1 (.agg (c.map u8v))] G' → R [.ptr i1 [] 0, .ptr i3 [] 0, .ptr i5 [] 0, .int .i64 ((r : Int) - 1)] G' := by
    intro r
    induction r with
    | zero =>
      intro c G' hr hc hd s
      have hcD : c = downS p k h := hd
      subst hcD
      refine hR _ _ _ _ _ ?_
      rw [vbin_geq, wv_some, decide_eq_false (by omega), brB_false]
      refine wv_of (load_hash hD (RowL.own (i := 2) s rfl)) ?_
      refine wg_of (store_hash (hs' := downS p k h) (by simp) hD (RowL.own (i := 0) s rfl)) ?_
      have s' := Sp.setRow (j := 0) s rfl (.agg ((downS p k h).map u8v))
      refine wv_of (load_hash hD (RowL.own (i := 0) s' rfl)) ?_
      exact hQ _ s'.ch
    | succ r ih =>
      intro c G' hr hc hd s
      refine hR _ _ _ _ _ ?_
      have er : ((r + 1 : Nat) : Int) - 1 = (r : Int) := by omega
      rw [er, vbin_geq, wv_some, decide_eq_true (by omega), brB_true]
      refine wv_of (arrN_addr (j := r) T_ar48_int rfl T_int rfl (by omega)) ?_
      refine wv_of (arrN_get (s := 1) T_int (RowL.own (i := 1) s rfl) (uni_plA p) (plA_get p (by omega)) rfl) ?_
      rw [vbin_eql, wv_some, brB_dec]
      refine ⟨fun h1 => ?_, fun h1 => ?_⟩
      · have hb1 : bitN p r = 1 := by omega
        have hstep : stepD p r c = sha (flipB c r) := by unfold stepD; rw [if_pos hb1]
        refine wv_of (quoN r 8 (by decide) (by omega) rfl) ?_
        refine wv_of (quoN r 8 (by decide) (by omega) rfl) ?_
        refine wv_of (addr_hash (j := r / 8) (by omega)) ?_
        refine wv_of (load_byte (hs := c) (j := r / 8) (by omega) (RowL.own (i := 2) s rfl)) ?_
        refine wv_of (remN r 8 (by decide) rfl) ?_
        refine wv_of (v := .int .u64 ((r % 8 : Nat) : Int)) (by rw [vconv_int T_int T_uint rfl, u64_in (by omega) (by omega)]) ?_
        refine wv_of (shl1 (by omega)) ?_
        refine wv_of (u8_xor _ _) ?_
        refine wv_of (addr_hash (j := r / 8) (by omega)) ?_
        refine wg_of (store_byte (hs := c) (j := r / 8) (by omega) (RowL.own (i := 2) s rfl)) ?_
        rw [flip_at hc (by omega)]
        have s' := Sp.setRow (j := 2) s rfl (.agg ((flipB c r).map u8v))
        have hfl := length_flip hc r
        refine wv_of (load_hash hfl (RowL.own (i := 2) s' rfl)) ?_
        refine escrowref09_Point.use hfl fun G29 c29 => ?_
        have s29 := s'.tmp c29
        refine wg_of (store_hash (hs' := sha (flipB c r)) hfl (length_sha _) (RowL.own (i := 2) s29 rfl)) ?_
        have s30 := Sp.setRow (j := 2) s29 rfl (.agg ((sha (flipB c r)).map u8v))
        rw [vbin_sub, wv_some, i64_in (by omega) (by omega)]
        refine ih _ _ (by omega) (length_sha _) ?_ s30
        rw [← hstep]
        exact hd
      · have hb0 : ¬ bitN p r = 1 := by omega
        have hstep : stepD p r c = c := by unfold stepD; rw [if_neg hb0]
        rw [vbin_sub, wv_some, i64_in (by omega) (by omega)]
        refine ih _ _ (by omega) hc ?_ s
        have hd' : downS p r (stepD p r c) = downS p k h := hd
        rwa [hstep] at hd'
  exact loop k h _ (Nat.le_refl _) hl rfl s5

theorem escrowref09_Level.use {n : Int} (hQ : ∀ G', Ch [] G [] G' → Q (tupII (levelS n)) G') : ACalls P escrowref09_Level.n [.int .i64 n] G Q := by
  refine escrowref09_Level.sound ?_
  unfold escrowref09_Level.S
  refine escrowref09_good.use ?_
  unfold levelS at hQ
  rw [vun_not, wv_some]
  cases hn : okN n with
  | false =>
    rw [hn] at hQ
    exact hQ _ (Ch.refl _ _)
  | true =>
    rw [hn] at hQ
    rw [Bool.not_true, brB_false]
    refine escrowref09_Place.use hn fun G5 c5 => ?_
    refine escrowref09_level.use (pl_eq hn).2 fun G7 c7 => ?_
    exact hQ _ (((Sp.nil G).tmp c5).tmp c7).ch

set_option maxHeartbeats 1000000 in
theorem escrowref09_Derive.use {s : List UInt8} {a b : Int} (hl : s.length = 32) (hQ : ∀ G', Ch [] G [] G' → Q (tupHI (deriveS s a b)) G') : ACalls P escrowref09_Derive.n [.agg (s.map u8v), .int .i64 a, .int .i64 b] G Q := by
  refine escrowref09_Derive.sound ?_
  unfold escrowref09_Derive.S
  rw [z_hash]
  intro i1 f1
  have s1 := (Sp.nil G).row f1 (.agg (s.map u8v))
  intro i3 f3
  have s3 := s1.row f3 (.agg ((List.replicate 32 (0 : UInt8)).map u8v))
  revert s3
  generalize Heap.upd _ i3 _ = G4
  intro s3
  have s3 : Sp [] G [RowL i3 (.agg (zero32.map u8v)), RowL i1 (.agg (s.map u8v))] G4 := s3
  intro J53
  have none : ∀ (e : Int) {ps : List LP} {q : Nat} {G' : Heap}, Sp [] G ps G' → ps[q]? = some (RowL i3 (.agg (zero32.map u8v))) → deriveS s a b = (zero32, e) → (wv (vbuild T t_api_Hash []) fun v15 => wg (vstore T G' t_api_Hash (.ptr i3 [] 0) v15) fun G16 => wv (vload T G16 t_api_Hash (.ptr i3 [] 0)) fun v17 => Q (.tuple [v17, .int .i64 e]) G16) := by
    intro e ps q G' s9 hq he
    refine wv_of zero_hash2 ?_
    refine wg_of (store_hash (hs' := zero32) rfl rfl (RowL.own s9 hq)) ?_
    have s10 := Sp.setRow s9 hq (.agg (zero32.map u8v))
    refine wv_of (load_hash rfl (Heap.upd_self _ _ _)) ?_
    have := hQ _ s10.ch
    rwa [he] at this
  have bad : okN a = false ∨ okN b = false → J53 (.bool true) G4 := by
    intro h
    simp -zeta only [J53, brB_true]
    refine none 90 (q := 0) s3 rfl ?_
    unfold deriveS
    rcases h with h | h <;> rw [h] <;> simp
  have good : okN a = true → okN b = true → J53 (.bool false) G4 := by
    intro ha hb
    simp -zeta only [J53, brB_false]
    have hle := level_le (pl a)
    have hpa := (pl_eq ha).2
    have hpb := (pl_eq hb).2
    refine escrowref09_Place.use ha fun G17 c17 => ?_
    have s17 := s3.tmp c17
    refine newVal s17 T_ar48_int (fits_plA _) (by rw [sz_plA]; rfl) (okv_plA _) fun i18 G20 s20 => ?_
    refine escrowref09_Place.use hb fun G22 c22 => ?_
    have s22 := s20.tmp c22
    refine newVal s22 T_ar48_int (fits_plA _) (by rw [sz_plA]; rfl) (okv_plA _) fun i23 G25 s25 => ?_
    have s25 : Sp [] G [RowL i23 (.agg (plA (pl b))), RowL i18 (.agg (plA (pl a))), RowL i3 (.agg (zero32.map u8v)), RowL i1 (.agg (s.map u8v))] G25 := s25
    refine wv_of (whole_load T_ar48_int (RowL.own (i := 1) s25 rfl) (fits_plA _)) ?_
    refine escrowref09_level.use hpa fun G28 c28 => ?_
    have s28 := s25.tmp c28
    intro R hR
    have loop : ∀ (m j : Nat), 48 - j = m → j ≤ 48 → level (pl a) ≤ j → (∀ q, level (pl a) ≤ q → q < j → bitN (pl a) q = bitN (pl b) q) → R [.ptr i1 [] 0, .ptr i3 [] 0, .ptr i18 [] 0, .ptr i23 [] 0, .int .i64 ((level (pl a) : Nat) : Int), .int .i64 (j : Int)] G28 := by
      intro m
      induction m with
      | zero =>
        intro j hm hj hlj hz
        have hd : deriveS s a b = (downS (pl b) (level (pl a)) s, 0) := by
          unfold deriveS
          rw [ha, hb, if_pos (div_bits hpa hpb fun i h1 h2 => hz i h1 (by omega))]
          rfl
        refine hR _ _ _ _ _ _ _ ?_
        rw [vbin_lss, wv_some, decide_eq_false (by omega), brB_false]
        refine wv_of (load_hash hl (RowL.own (i := 3) s28 rfl)) ?_
        refine wv_of (whole_load T_ar48_int (RowL.own (i := 0) s28 rfl) (fits_plA _)) ?_
        refine escrowref09_down.use hl hle fun G50 c50 => ?_
        have s50 := s28.tmp c50
        have hD := length_down (pl := pl b) (level (pl a)) hl
        refine wg_of (store_hash (hs' := downS (pl b) (level (pl a)) s) rfl hD (RowL.own (i := 2) s50 rfl)) ?_
        have s51 := Sp.setRow (j := 2) s50 rfl (.agg ((downS (pl b) (level (pl a)) s).map u8v))
        refine wv_of (load_hash hD (RowL.own (i := 2) s51 rfl)) ?_
        have := hQ _ s51.ch
        rwa [hd] at this
      | succ m ih =>
        intro j hm hj hlj hz
        refine hR _ _ _ _ _ _ _ ?_
        rw [vbin_lss, wv_some, decide_eq_true (by omega), brB_true]
        refine wv_of (arrN_addr (j := j) T_ar48_int rfl T_int rfl (by omega)) ?_
        refine wv_of (arrN_get (s := 1) T_int (RowL.own (i := 1) s28 rfl) (uni_plA _) (plA_get _ (by omega)) rfl) ?_
        refine wv_of (arrN_addr (j := j) T_ar48_int rfl T_int rfl (by omega)) ?_
        refine wv_of (arrN_get (s := 1) T_int (RowL.own (i := 0) s28 rfl) (uni_plA _) (plA_get _ (by omega)) rfl) ?_
        rw [vbin_neq, wv_some, brB_ndec]
        refine ⟨fun hne => ?_, fun heq => ?_⟩
        · refine none 5 (q := 2) s28 rfl ?_
          unfold deriveS
          rw [ha, hb, if_neg (fun h => hne (by rw [bits_div h hlj]))]
          rfl
        · rw [vbin_add, wv_some, i64_in (by omega) (by omega)]
          refine ih (j + 1) (by omega) (by omega) (by omega) fun q h1 h2 => ?_
          by_cases hqj : q = j
          · subst hqj; omega
          · exact hz q h1 (by omega)
    exact loop (48 - level (pl a)) (level (pl a)) rfl hle (Nat.le_refl _) (fun q h1 h2 => by omega)
  refine escrowref09_good.use ?_
  rw [vun_not, wv_some]
  cases ha : okN a with
  | false =>
    rw [Bool.not_false, brB_true]
    exact bad (.inl ha)
  | true =>
    rw [Bool.not_true, brB_false]
    refine escrowref09_good.use ?_
    rw [vun_not, wv_some]
    cases hb : okN b with
    | false => exact bad (.inr hb)
    | true => exact good ha hb

end
end Go.Esc.M
