/- Own work. Chapter 2: digits read and written; the document's; the examples. -/
import Derived.Test.YtdegdajfcnonfaaLXa
import Derived.Test.YtdegdajfcnonfaaLAr
set_option linter.unusedSimpArgs false
set_option linter.unusedVariables false
namespace Go.Esc.M
open Go Go.Esc Go.Proofs

theorem hash_eql2 {a b : List UInt8} (ha : a.length = 32) (hb : b.length = 32) : vbin T .eql t_api_Hash (.agg (a.map u8v)) (.agg (b.map u8v)) = some (.bool (decide (a = b))) := vbin_heql T_api_Hash rfl T_uint8 rfl rfl ha hb
theorem hash_neq2 {a b : List UInt8} (ha : a.length = 32) (hb : b.length = 32) : vbin T .neq t_api_Hash (.agg (a.map u8v)) (.agg (b.map u8v)) = some (.bool (!decide (a = b))) := vbin_hneq T_api_Hash rfl T_uint8 rfl rfl ha hb
theorem zero_hash2 : vbuild T t_api_Hash [] = some (.agg ((List.replicate 32 (0 : UInt8)).map u8v)) := rfl
theorem u8_shl4 {T : Tbl} {t : TypeId} (a : UInt8) : vbin T .shl t (u8v a) (.int .u64 4) = some (u8v (UInt8.ofNat (16 * a.toNat))) := by
  unfold u8v
  rw [vbin_shl _ _ _ _ _ _ (by decide), wrapU8]
  have h1 : min (4 : Int).toNat IntKind.u8.bits = 4 := rfl
  rw [h1]
  congr 2
  rw [UInt8.toNat_ofNat']
  omega
theorem or_nib {o : UInt8} {k : Nat} (hk : k < 16) (h : 16 * o.toNat + k < 256) : UInt8.ofNat (16 * o.toNat) ||| UInt8.ofNat k = UInt8.ofNat (16 * o.toNat + k) := by
  apply UInt8.toNat_inj.1
  rw [UInt8.toNat_or, UInt8.toNat_ofNat', UInt8.toNat_ofNat', UInt8.toNat_ofNat', Nat.mod_eq_of_lt (by omega), Nat.mod_eq_of_lt (by omega), Nat.mod_eq_of_lt (by omega)]
  exact (Nat.two_pow_add_eq_or_of_lt (i := 4) (by omega) o.toNat).symm
theorem half (i : Nat) (hi : i ≤ 1000000) {t : TypeId} {T : Tbl} : vbin T .quo t (.int .i64 (i : Int)) (.int .i64 2) = some (.int .i64 ((i / 2 : Nat) : Int)) := by
  rw [vbin_quo _ _ _ _ _ (by decide)]
  have : ((i : Int).tdiv 2) = ((i / 2 : Nat) : Int) := tdiv_nat i 2
  rw [this, i64_in (by omega) (by omega)]

section
variable {F0 : List AId} {G0 G : Heap} {ps : List LP} {Q : AVal → Heap → Prop}

set_option maxHeartbeats 2000000 in
theorem hash_Parse.use {t : List UInt8} (hQ : ∀ x G', ParseS t x → Ch [] G [] G' → Q (tupHI x) G') : ACalls P hash_Parse.n [.str t] G Q := by
  refine hash_Parse.sound ?_
  unfold hash_Parse.S
  rw [z_hash]
  obtain ⟨z, hz⟩ : ∃ z : List UInt8, z = List.replicate 32 0 := ⟨_, rfl⟩
  have hzl : z.length = 32 := by rw [hz]; rfl
  rw [← hz]
  intro i1 f1
  have s1 := (Sp.nil G).row f1 (.agg (z.map u8v))
  intro i3 f3
  have s3 := s1.row f3 (.agg (z.map u8v))
  have fin : ∀ (x y : List UInt8) (e : Int) (G' : Heap), x.length = 32 → y.length = 32 → ParseS t (x, e) → Sp [] G [RowL i3 (.agg (x.map u8v)), RowL i1 (.agg (y.map u8v))] G' →
      (wv (vload T G' t_api_Hash (.ptr i3 [] 0)) fun v7 => wg (vstore T G' t_api_Hash (.ptr i1 [] 0) v7) fun G8 => wv (vload T G8 t_api_Hash (.ptr i1 [] 0)) fun v9 => Q (.tuple [v9, .int .i64 e]) G8) := by
    intro x y e G' hx hy hp s
    refine wv_of (load_hash hx (RowL.own (i := 0) s rfl)) ?_
    refine wg_of (store_hash hy hx (RowL.own (i := 1) s rfl)) ?_
    have s' := Sp.setRow (j := 1) s rfl (.agg (x.map u8v))
    refine wv_of (load_hash hx (RowL.own (i := 1) s' rfl)) ?_
    exact hQ (x, e) _ hp s'.ch
  show wv (some (.int .i64 (t.length : Nat))) _
  rw [wv_some, vbin_neq, wv_some, brB_ndec]
  refine ⟨fun hne => ?_, fun hlen => ?_⟩
  · refine fin z z 4 _ hzl hzl ?_ s3
    rw [hz]
    exact ParseS.bad (.inl (by omega))
  have hlen : t.length = 64 := by omega
  show wv (some (.int .i64 (t.length : Nat))) _
  rw [wv_some]
  intro R hR
  have bad : ∀ (x : List UInt8) (G' : Heap), x.length = 32 → ParseS t (List.replicate 32 0, 4) → Sp [] G [RowL i3 (.agg (x.map u8v)), RowL i1 (.agg (z.map u8v))] G' →
      (wv (vbuild T t_api_Hash []) fun v23 => wg (vstore T G' t_api_Hash (.ptr i1 [] 0) v23) fun G24 => wv (vload T G24 t_api_Hash (.ptr i1 [] 0)) fun v25 => Q (.tuple [v25, .int .i64 4]) G24) := by
    intro x G' hx hp s
    refine wv_of zero_hash2 ?_
    rw [← hz] at hp ⊢
    refine wg_of (store_hash hzl hzl (RowL.own (i := 1) s rfl)) ?_
    have s' := Sp.setRow (j := 1) s rfl (.agg (z.map u8v))
    refine wv_of (load_hash hzl (RowL.own (i := 1) s' rfl)) ?_
    exact hQ (z, 4) _ hp s'.ch
  by_cases hall : ∀ c ∈ t, ¬ Lib.indexByte Lib.digits c < 0
  · obtain ⟨h, hhl, ht⟩ := hex_of 32 t (by omega) hall
    have loop : ∀ (n i : Nat) (G' : Heap), 64 - i = n → i ≤ 64 → Sp [] G [RowL i3 (.agg ((pth h i).map u8v)), RowL i1 (.agg (z.map u8v))] G' → R [.str t, .ptr i1 [] 0, .ptr i3 [] 0, .int .i64 (t.length : Nat), .int .i64 (i : Int)] G' := by
      intro n
      induction n with
      | zero =>
        intro i G' hn hi s
        have : i = 64 := by omega
        subst this
        rw [pth_full hhl] at s
        refine hR _ _ _ _ _ _ ?_
        rw [vbin_lss, wv_some, decide_eq_false (by omega), brB_false]
        refine fin h z 0 _ hhl hzl ?_ s
        rw [ht]
        exact ParseS.hex hhl
      | succ n ih =>
        intro i G' hn hi s
        obtain ⟨o, ho1, ho2, ho3⟩ := pth_old h (i := i) (by omega)
        have hk := nib_lt h i
        refine hR _ _ _ _ _ _ ?_
        rw [vbin_lss, wv_some, decide_eq_true (by omega), brB_true]
        refine wv_of (str_at (j := i) rfl (by omega)) ?_
        have hti : t[i]'(by omega) = Lib.digits.getD (nib h i) 0 := by
          have := hex_get h i (by omega)
          rw [← ht, List.getElem?_eq_getElem (by omega)] at this
          injection this
        refine strings_IndexByte.use (s := Lib.digits) (c := t[i]'(by omega)) ?_
        rw [hti, idx_of hk, vbin_lss, wv_some, decide_eq_false (by omega), brB_false]
        refine wv_of (half i (by omega)) ?_
        refine wv_of (half i (by omega)) ?_
        refine wv_of (addr_hash (j := i / 2) (by omega)) ?_
        have hpl := length_pth h i
        have hoe : (pth h i)[i / 2]'(by omega) = o := (List.getElem?_eq_some_iff.1 ho1).2
        refine wv_of (load_byte (hs := pth h i) (j := i / 2) (by omega) (RowL.own (i := 0) s rfl)) ?_
        rw [hoe]
        refine wv_of (u8_shl4 o) ?_
        refine wv_of (v := u8v (UInt8.ofNat (nib h i))) (by rw [vconv_int T_int T_uint8 rfl, u8v_ofNat, wrapU8]; congr 2) ?_
        refine wv_of (u8_or _ _) ?_
        rw [or_nib hk ho2]
        refine wv_of (addr_hash (j := i / 2) (by omega)) ?_
        refine wg_of (store_byte (hs := pth h i) (j := i / 2) (by omega) (RowL.own (i := 0) s rfl)) ?_
        have s' := Sp.setRow (j := 0) s rfl (.agg (((pth h i).set (i / 2) (UInt8.ofNat (16 * o.toNat + nib h i))).map u8v))
        rw [ho3] at s' ⊢
        rw [vbin_add, wv_some, i64_in (by omega) (by omega)]
        exact ih (i + 1) _ (by omega) (by omega) s'
    refine loop 64 0 _ rfl (by omega) ?_
    rw [pth_zero, ← hz]
    exact s3
  · have hex : ∃ c ∈ t, Lib.indexByte Lib.digits c < 0 := Classical.byContradiction fun hn => hall fun c hc hl => hn ⟨c, hc, hl⟩
    have hbad := ParseS.bad (t := t) (.inr hex)
    have loop : ∀ (n i : Nat) (x : List UInt8) (G' : Heap), 64 - i = n → i ≤ 64 → x.length = 32 → (∀ k (hk : k < t.length), k < i → ¬ Lib.indexByte Lib.digits t[k] < 0) → Sp [] G [RowL i3 (.agg (x.map u8v)), RowL i1 (.agg (z.map u8v))] G' → R [.str t, .ptr i1 [] 0, .ptr i3 [] 0, .int .i64 (t.length : Nat), .int .i64 (i : Int)] G' := by
      intro n
      induction n with
      | zero =>
        intro i x G' hn hi hx hg s
        exfalso
        obtain ⟨c, hc, hcl⟩ := hex
        obtain ⟨k, hk⟩ := List.getElem?_of_mem hc
        obtain ⟨hkl, hke⟩ := List.getElem?_eq_some_iff.1 hk
        exact hg k hkl (by omega) (by rw [hke]; exact hcl)
      | succ n ih =>
        intro i x G' hn hi hx hg s
        refine hR _ _ _ _ _ _ ?_
        rw [vbin_lss, wv_some, decide_eq_true (by omega), brB_true]
        refine wv_of (str_at (j := i) rfl (by omega)) ?_
        refine strings_IndexByte.use (s := Lib.digits) (c := t[i]'(by omega)) ?_
        rw [vbin_lss, wv_some, brB_dec]
        refine ⟨fun _ => bad x _ hx hbad s, fun hge => ?_⟩
        obtain ⟨k, hk, hke, _⟩ := (dig_of (t[i]'(by omega))).resolve_left hge
        rw [hke]
        refine wv_of (half i (by omega)) ?_
        refine wv_of (half i (by omega)) ?_
        refine wv_of (addr_hash (j := i / 2) (by omega)) ?_
        refine wv_of (load_byte (hs := x) (j := i / 2) (by omega) (RowL.own (i := 0) s rfl)) ?_
        refine wv_of (u8_shl4 _) ?_
        refine wv_of (v := u8v (UInt8.ofNat k)) (by rw [vconv_int T_int T_uint8 rfl, u8v_ofNat, wrapU8]; congr 2) ?_
        refine wv_of (u8_or _ _) ?_
        refine wv_of (addr_hash (j := i / 2) (by omega)) ?_
        refine wg_of (store_byte (hs := x) (j := i / 2) (by omega) (RowL.own (i := 0) s rfl)) ?_
        have s' := Sp.setRow (j := 0) s rfl (.agg ((x.set (i / 2) (UInt8.ofNat (16 * (x[i / 2]'(by omega)).toNat) ||| UInt8.ofNat k)).map u8v))
        rw [vbin_add, wv_some, i64_in (by omega) (by omega)]
        refine ih (i + 1) _ _ (by omega) (by omega) (by simp [hx]) (fun q hq hqi => ?_) s'
        by_cases hqe : q = i
        · subst hqe; exact hge
        · exact hg q hq (by omega)
    exact loop 64 0 z _ rfl (by omega) hzl (fun k hk h => by omega) s3

theorem dig_index {k : Nat} {m : Int} {kk : IntKind} (hm : m = (k : Int)) (hk : k < 16) : vindex T t_string (.str Lib.digits) (.int kk m) = some (u8v (Lib.digits.getD k 0)) := by
  subst hm
  have h16 : k < Lib.digits.length := hk
  have e1 : ti_string.desc = .string := rfl
  simp only [vindex, T_string, e1]
  rw [if_pos (by omega), Int.toNat_natCast, List.getElem?_eq_getElem h16, List.getD_eq_getElem?_getD, List.getElem?_eq_getElem h16]
  rfl

set_option maxHeartbeats 2000000 in
theorem escrowref02_Hex.use {h : List UInt8} (hl : h.length = 32) (hQ : ∀ G', Ch [] G [] G' → Q (.str (Lib.hexOf h)) G') : ACalls P escrowref02_Hex.n [.agg (h.map u8v)] G Q := by
  refine escrowref02_Hex.sound ?_
  unfold escrowref02_Hex.S
  intro i1 f1
  have s1 := (Sp.nil G).row f1 (.agg (h.map u8v))
  intro R hR
  have loop : ∀ (n j : Nat) (v : AVal) (G' : Heap), 32 - j = n → j ≤ 32 → Sp [] G [OwnL 1 v ((Lib.hexOf (h.take j)).map u8v), RowL i1 (.agg (h.map u8v))] G' → R [.ptr i1 [] 0, .str Lib.digits, v, .int .i64 (j : Int)] G' := by
    intro n
    induction n with
    | zero =>
      intro j v G' hn hj s
      refine hR _ _ _ _ _ ?_
      rw [vbin_lss, wv_some, decide_eq_false (by omega), brB_false]
      obtain ⟨F, ho, _⟩ := s.get (i := 0) rfl
      rw [List.take_of_length_le (by omega)] at ho
      refine wv_of (conv_bytes T_sl_uint8 rfl T_uint8 rfl T_string rfl ho.is) ?_
      exact hQ _ s.ch
    | succ n ih =>
      intro j v G' hn hj s
      have hjl : j < h.length := by omega
      have hb := (h[j]).toNat_lt
      refine hR _ _ _ _ _ ?_
      rw [vbin_lss, wv_some, decide_eq_true (by omega), brB_true]
      refine wv_of (addr_hash (j := j) (by omega)) ?_
      refine wv_of (load_byte (hs := h) (j := j) hjl (RowL.own (i := 1) s rfl)) ?_
      have q1 : vbin T .quo t_uint8 (u8v h[j]) (.int .u8 16) = some (.int .u8 (((h[j]).toNat / 16 : Nat) : Int)) := by
        unfold u8v
        rw [vbin_quo _ _ _ _ _ (by decide)]
        have : (((h[j]).toNat : Int).tdiv 16) = (((h[j]).toNat / 16 : Nat) : Int) := tdiv_nat _ 16
        rw [this, u8_in (by omega) (by omega)]
      have q2 : vbin T .rem t_uint8 (u8v h[j]) (.int .u8 16) = some (.int .u8 (((h[j]).toNat % 16 : Nat) : Int)) := by
        unfold u8v
        rw [vbin_rem _ _ _ _ _ (by decide)]
        have : (((h[j]).toNat : Int).tmod 16) = (((h[j]).toNat % 16 : Nat) : Int) := tmod_nat' _ 16
        rw [this]
      refine wv_of q1 ?_
      refine wv_of (dig_index (k := (h[j]).toNat / 16) rfl (by omega)) ?_
      refine wv_of (addr_hash (j := j) (by omega)) ?_
      refine wv_of (load_byte (hs := h) (j := j) hjl (RowL.own (i := 1) s rfl)) ?_
      refine wv_of q2 ?_
      refine wv_of (dig_index (k := (h[j]).toNat % 16) rfl (by omega)) ?_
      refine buildL (T := T) (ts := t_sl_uint8) (e := t_uint8) (si := ti_sl_uint8) (ie := ti_uint8) (l := [u8v (Lib.digits.getD ((h[j]).toNat / 16) 0), u8v (Lib.digits.getD ((h[j]).toNat % 16) 0)]) T_sl_uint8 rfl T_uint8 rfl rfl rfl rfl (by simp [u8v, sz, ti_uint8]) (by decide) s fun v2 G2 s2 => ?_
      obtain ⟨F, ho, _⟩ := s2.get (i := 0) rfl
      refine growL (T := T) (ts := t_sl_uint8) (e := t_uint8) (si := ti_sl_uint8) (ie := ti_uint8) (tx := t_sl_uint8) (xi := ti_sl_uint8) (i := 1) T_sl_uint8 rfl T_uint8 rfl (by decide) T_sl_uint8 (.inr ⟨_, rfl⟩) s2 rfl ho.is.elems rfl rfl ?_ fun v3 G3 s3 => ?_
      · simp only [List.length_map, length_hex, List.length_take, ti_uint8]
        simp
        omega
      rw [vbin_add, wv_some, i64_in (by omega) (by omega)]
      refine ih (j + 1) _ _ (by omega) (by omega) ?_
      have e : (Lib.hexOf (h.take (j + 1))).map u8v = (Lib.hexOf (h.take j)).map u8v ++ [u8v (Lib.digits.getD ((h[j]).toNat / 16) 0), u8v (Lib.digits.getD ((h[j]).toNat % 16) 0)] := by
        rw [List.take_add_one, List.getElem?_eq_getElem hjl, Lib.hexOf, List.flatMap_append, List.map_append]
        rfl
      rw [e]
      exact s3.erase 0
  have n0 : Sp [] G [OwnL 1 .nilSlice [], RowL i1 (.agg (h.map u8v))] _ := s1.new (p := OwnL 1 .nilSlice []) ⟨.inl ⟨rfl, rfl⟩, rfl⟩ (Ch.refl _ _)
  exact loop 32 0 .nilSlice _ rfl (by omega) n0

end
end Go.Esc.M
