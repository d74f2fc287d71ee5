/- Own work. Chapter 2: the document's reading of digits; the examples; HashHexes, HashMacs. -/
import Derived.Test.YtdegdajfcnonfaaLXb
set_option linter.unusedSimpArgs false
set_option linter.unusedVariables false
namespace Go.Esc.M
open Go Go.Esc Go.Proofs

def stepP (c : UInt8) (i : Nat) (y : List UInt8) : List UInt8 := if Lib.indexByte Lib.digits c < 0 then y else y.set (i / 2) (UInt8.ofNat (16 * (y.getD (i / 2) 0).toNat + (Lib.indexByte Lib.digits c).toNat))
def rowP (t : List UInt8) : Nat → List UInt8
  | 0 => List.replicate 32 0
  | i + 1 => stepP (t.getD i 0) i (rowP t i)
theorem length_step (c : UInt8) (i : Nat) (y : List UInt8) : (stepP c i y).length = y.length := by
  unfold stepP
  split <;> simp
theorem length_rowP (t : List UInt8) : ∀ i, (rowP t i).length = 32
  | 0 => rfl
  | i + 1 => by rw [rowP, length_step, length_rowP t i]
theorem rowP_hex {h : List UInt8} (hl : h.length = 32) : ∀ i, i ≤ 64 → rowP (Lib.hexOf h) i = pth h i
  | 0, _ => (pth_zero h).symm
  | i + 1, hi => by
    have ih := rowP_hex hl i (by omega)
    obtain ⟨o, ho1, ho2, ho3⟩ := pth_old h (i := i) (by omega)
    have hd : (Lib.hexOf h).getD i 0 = Lib.digits.getD (nib h i) 0 := by
      rw [List.getD_eq_getElem?_getD, hex_get h i (by omega)]
      rfl
    have ho : (pth h i).getD (i / 2) 0 = o := by rw [List.getD_eq_getElem?_getD, ho1]; rfl
    rw [rowP, ih, hd, stepP, idx_of (nib_lt h i), if_neg (by omega), ho, Int.toNat_natCast, ho3]

section
variable {F0 : List AId} {G0 G : Heap} {ps : List LP} {Q : AVal → Heap → Prop}

set_option maxHeartbeats 2000000 in
theorem escrowref02_Parse.use {t : List UInt8} (hlen : t.length ≤ 9223372036854775807) (hQ : ∀ x G', ParseS t x → Ch [] G [] G' → Q (tupHI x) G') : ACalls P escrowref02_Parse.n [.str t] G Q := by
  refine escrowref02_Parse.sound ?_
  unfold escrowref02_Parse.S
  rw [z_hash]
  obtain ⟨z, hz⟩ : ∃ z : List UInt8, z = List.replicate 32 0 := ⟨_, rfl⟩
  have hzl : z.length = 32 := by rw [hz]; rfl
  rw [← hz]
  intro i1 f1
  have s1 := (Sp.nil G).row f1 (.agg (z.map u8v))
  intro i3 f3
  have s3 := s1.row f3 (.agg (z.map u8v))
  intro R hR
  have loop : ∀ (n i : Nat) (G' : Heap), 64 - i = n → i ≤ 64 → i ≤ t.length → Sp [] G [RowL i3 (.agg ((rowP t i).map u8v)), RowL i1 (.agg (z.map u8v))] G' → R [.str t, .ptr i1 [] 0, .str Lib.digits, .ptr i3 [] 0, .int .i64 (i : Int)] G' := by
    intro n
    induction n with
    | zero =>
      intro i G' hn hi hit s
      have hi64 : i = 64 := by omega
      refine hR _ _ _ _ _ _ ?_
      intro J44
      have fin : ∀ G', Sp [] G [RowL i3 (.agg ((rowP t i).map u8v)), RowL i1 (.agg (z.map u8v))] G' → (i = 64 ∨ i = t.length) → J44 (.bool false) G' := by
        intro G' s hie
        have hrl := length_rowP t i
        simp -zeta only [J44, brB_false]
        refine wv_of (load_hash hrl (RowL.own (i := 0) s rfl)) ?_
        refine escrowref02_Hex.use hrl fun G47 c47 => ?_
        have s47 := s.tmp c47
        rw [vbin_sneq, wv_some, brB_ndec]
        refine ⟨fun hne => ?_, fun heq => ?_⟩
        · refine wv_of zero_hash2 ?_
          rw [← hz]
          refine wg_of (store_hash hzl hzl (RowL.own (i := 1) s47 rfl)) ?_
          have s' := Sp.setRow (j := 1) s47 rfl (.agg (z.map u8v))
          refine wv_of (load_hash hzl (RowL.own (i := 1) s' rfl)) ?_
          refine hQ (z, 4) _ ?_ s'.ch
          rw [hz]
          refine .inr ⟨fun h hh he => hne ?_, rfl⟩
          subst he
          have h64 : i = 64 := by
            rcases hie with h | h
            · exact h
            · rw [h, length_hex, hh]
          rw [h64, rowP_hex hh 64 (Nat.le_refl _), pth_full hh]
        · refine wv_of (load_hash hrl (RowL.own (i := 0) s47 rfl)) ?_
          refine wg_of (store_hash hzl hrl (RowL.own (i := 1) s47 rfl)) ?_
          have s' := Sp.setRow (j := 1) s47 rfl (.agg ((rowP t i).map u8v))
          refine wv_of (load_hash hrl (RowL.own (i := 1) s' rfl)) ?_
          exact hQ (rowP t i, 0) _ (.inl ⟨_, hrl, heq.symm, rfl⟩) s'.ch
      show wv (some (.int .i64 (t.length : Nat))) _
      rw [wv_some, vbin_lss, wv_some, brB_dec]
      refine ⟨fun _ => ?_, fun _ => fin _ s (by omega)⟩
      rw [vbin_lss, wv_some, decide_eq_false (by omega)]
      exact fin _ s (.inl hi64)
    | succ n ih =>
      intro i G' hn hi hit s
      refine hR _ _ _ _ _ _ ?_
      intro J44
      have fin : ∀ G', Sp [] G [RowL i3 (.agg ((rowP t i).map u8v)), RowL i1 (.agg (z.map u8v))] G' → i = t.length → J44 (.bool false) G' := by
        intro G' s hie
        have hrl := length_rowP t i
        simp -zeta only [J44, brB_false]
        refine wv_of (load_hash hrl (RowL.own (i := 0) s rfl)) ?_
        refine escrowref02_Hex.use hrl fun G47 c47 => ?_
        have s47 := s.tmp c47
        rw [vbin_sneq, wv_some, brB_ndec]
        refine ⟨fun hne => ?_, fun heq => ?_⟩
        · refine wv_of zero_hash2 ?_
          rw [← hz]
          refine wg_of (store_hash hzl hzl (RowL.own (i := 1) s47 rfl)) ?_
          have s' := Sp.setRow (j := 1) s47 rfl (.agg (z.map u8v))
          refine wv_of (load_hash hzl (RowL.own (i := 1) s' rfl)) ?_
          refine hQ (z, 4) _ ?_ s'.ch
          rw [hz]
          exact ParseS.bad (.inl (by omega))
        · refine wv_of (load_hash hrl (RowL.own (i := 0) s47 rfl)) ?_
          refine wg_of (store_hash hzl hrl (RowL.own (i := 1) s47 rfl)) ?_
          have s' := Sp.setRow (j := 1) s47 rfl (.agg ((rowP t i).map u8v))
          refine wv_of (load_hash hrl (RowL.own (i := 1) s' rfl)) ?_
          exact hQ (rowP t i, 0) _ (.inl ⟨_, hrl, heq.symm, rfl⟩) s'.ch
      show wv (some (.int .i64 (t.length : Nat))) _
      rw [wv_some, vbin_lss, wv_some, brB_dec]
      refine ⟨fun hlt => ?_, fun _ => fin _ s (by omega)⟩
      rw [vbin_lss, wv_some, decide_eq_true (by omega)]
      simp -zeta only [J44, brB_true]
      have hil : i < t.length := by omega
      obtain ⟨c, hc⟩ : ∃ c, c = t[i] := ⟨_, rfl⟩
      obtain ⟨y, hy⟩ : ∃ y, y = rowP t i := ⟨_, rfl⟩
      have hyl : y.length = 32 := by rw [hy]; exact length_rowP t i
      have hnext : rowP t (i + 1) = stepP c i y := by
        rw [rowP, hc, hy, List.getD_eq_getElem?_getD, List.getElem?_eq_getElem hil]
        rfl
      rw [← hy] at s
      intro R2 hR2
      have loop2 : ∀ (m v : Nat) (G' : Heap), 16 - v = m → v ≤ 16 → Sp [] G [RowL i3 (.agg ((if Lib.indexByte Lib.digits c < v then stepP c i y else y).map u8v)), RowL i1 (.agg (z.map u8v))] G' → R2 [.str t, .ptr i1 [] 0, .str Lib.digits, .ptr i3 [] 0, .int .i64 (i : Int), .int .i64 (v : Int)] G' := by
        intro m
        induction m with
        | zero =>
          intro v G' hm hv s
          have hv16 : v = 16 := by omega
          refine hR2 _ _ _ _ _ _ _ ?_
          rw [vbin_lss, wv_some, decide_eq_false (by omega), brB_false, vbin_add, wv_some, i64_in (by omega) (by omega)]
          have hlt : Lib.indexByte Lib.digits c < v := by
            rcases dig_of c with h | ⟨k, hk, he, _⟩
            · omega
            · rw [he]; omega
          rw [if_pos hlt, ← hnext] at s
          exact ih (i + 1) _ (by omega) (by omega) (by omega) s
        | succ m ih2 =>
          intro v G' hm hv s
          refine hR2 _ _ _ _ _ _ _ ?_
          rw [vbin_lss, wv_some, decide_eq_true (by omega), brB_true]
          refine wv_of (dig_index (k := v) rfl (by omega)) ?_
          refine wv_of (str_at (j := i) rfl hil) ?_
          rw [← hc]
          have heq : vbin T .eql t_uint8 (u8v (Lib.digits.getD v 0)) (.int .u8 (c.toNat : Int)) = some (.bool (decide (Lib.digits.getD v 0 = c))) := by
            unfold u8v
            rw [vbin_eql]
            congr 2
            rw [decide_eq_decide, Int.natCast_inj, UInt8.toNat_inj]
          refine wv_of heq ?_
          rw [brB_dec]
          refine ⟨fun hd => ?_, fun hd => ?_⟩
          · have hidx : Lib.indexByte Lib.digits c = v := by rw [← hd]; exact idx_of (by omega)
            rw [if_neg (by omega)] at s
            refine wv_of (half i (by omega)) ?_
            refine wv_of (half i (by omega)) ?_
            refine wv_of (addr_hash (j := i / 2) (by omega)) ?_
            refine wv_of (load_byte (hs := y) (j := i / 2) (by omega) (RowL.own (i := 0) s rfl)) ?_
            have ho := (y[i / 2]'(by omega)).toNat_lt
            refine wv_of (v := .int .u8 ((16 * (y[i / 2]'(by omega)).toNat % 256 : Nat) : Int)) (by unfold u8v; rw [vbin_mul, wrapU8]; congr 2; omega) ?_
            refine wv_of (v := .int .u8 (v : Int)) (by rw [vconv_int T_int T_uint8 rfl, wrapU8]; congr 2; omega) ?_
            refine wv_of (v := u8v (UInt8.ofNat (16 * (y[i / 2]'(by omega)).toNat + v))) (by rw [vbin_add, wrapU8, u8v_ofNat]; congr 2; omega) ?_
            refine wv_of (addr_hash (j := i / 2) (by omega)) ?_
            refine wg_of (store_byte (hs := y) (j := i / 2) (by omega) (RowL.own (i := 0) s rfl)) ?_
            have hst : y.set (i / 2) (UInt8.ofNat (16 * (y[i / 2]'(by omega)).toNat + v)) = stepP c i y := by
              have hg : y.getD (i / 2) 0 = y[i / 2]'(by omega) := by
                rw [List.getD_eq_getElem?_getD, List.getElem?_eq_getElem (by omega)]
                rfl
              rw [stepP, if_neg (by omega), hidx, Int.toNat_natCast, hg]
            rw [hst]
            have s' := Sp.setRow (j := 0) s rfl (.agg ((stepP c i y).map u8v))
            rw [vbin_add, wv_some, i64_in (by omega) (by omega)]
            refine ih2 (v + 1) _ (by omega) (by omega) ?_
            rw [if_pos (by omega)]
            exact s'
          · rw [vbin_add, wv_some, i64_in (by omega) (by omega)]
            refine ih2 (v + 1) _ (by omega) (by omega) ?_
            have hne : Lib.indexByte Lib.digits c ≠ v := by
              intro he
              rcases dig_of c with h | ⟨k, hk, hk1, hk2⟩
              · omega
              · have : k = v := by omega
                rw [this] at hk2
                exact hd hk2
            by_cases hlt : Lib.indexByte Lib.digits c < v
            · rw [if_pos hlt] at s
              rw [if_pos (by omega)]
              exact s
            · rw [if_neg hlt] at s
              rw [if_neg (by omega)]
              exact s
      by_cases h0 : Lib.indexByte Lib.digits c < 0
      · refine loop2 16 0 _ rfl (by omega) ?_
        rw [if_pos (by simpa using h0)]
        have : stepP c i y = y := by rw [stepP, if_pos h0]
        rw [this]
        exact s
      · refine loop2 16 0 _ rfl (by omega) ?_
        rw [if_neg (by simpa using h0)]
        exact s
  refine loop 64 0 _ rfl (by omega) (by omega) ?_
  rw [rowP, ← hz]
  exact s3

def abcHex : List UInt8 := [98, 97, 55, 56, 49, 54, 98, 102, 56, 102, 48, 49, 99, 102, 101, 97, 52, 49, 52, 49, 52, 48, 100, 101, 53, 100, 97, 101, 50, 50, 50, 51, 98, 48, 48, 51, 54, 49, 97, 51, 57, 54, 49, 55, 55, 97, 57, 99, 98, 52, 49, 48, 102, 102, 54, 49, 102, 50, 48, 48, 49, 53, 97, 100]
def macHex : List UInt8 := [98, 54, 49, 51, 54, 55, 57, 97, 48, 56, 49, 52, 100, 57, 101, 99, 55, 55, 50, 102, 57, 53, 100, 55, 55, 56, 99, 51, 53, 102, 99, 53, 102, 102, 49, 54, 57, 55, 99, 52, 57, 51, 55, 49, 53, 54, 53, 51, 99, 54, 99, 55, 49, 50, 49, 52, 52, 50, 57, 50, 99, 53, 97, 100]
theorem abc_hex : Lib.hexOf (sha [97, 98, 99]) = abcHex := by decide +kernel
theorem mac_hex : Lib.hexOf (mac (List.replicate 32 0) []) = macHex := by decide +kernel
theorem length_mac (k t : List UInt8) : (mac k t).length = 32 := length_sha _

set_option maxHeartbeats 2000000 in
theorem escrowlaw02_first.use (hQ : ∀ G', Ch [] G [] G' → Q (.bool true) G') : ACalls P escrowlaw02_first.n [] G Q := by
  refine escrowlaw02_first.sound ?_
  unfold escrowlaw02_first.S
  have hA : ParseS abcHex (sha [97, 98, 99], 0) := by rw [← abc_hex]; exact ParseS.hex (length_sha _)
  refine hash_Parse.use (t := abcHex) fun x G2 hx c2 => ?_
  have s2 := (Sp.nil G).tmp c2
  rw [hx.only hA]
  refine wv_of (hi0 _) ?_
  refine wv_of (hi1 _) ?_
  obtain ⟨S, hS⟩ : ∃ S, S = sha [97, 98, 99] := ⟨_, rfl⟩
  have hSl : S.length = 32 := by rw [hS]; exact length_sha _
  have hSh : Lib.hexOf S = abcHex := by rw [hS]; exact abc_hex
  rw [← hS]
  refine newVal s2 T_api_Hash (c := .agg (S.map u8v)) (by simp [vfits, sz, szs_uni (uni_u8 S), hSl, ti_api_Hash, AVal.isAgg, ADesc.isAgg]) (by rw [z_hash, sz, sz, szs_uni (uni_u8 S), szs_uni (uni_u8 _)]; simp [hSl]) (by simp [okv, okvs_u8]) fun i5 G7 s7 => ?_
  refine wv_of (v := .bool true) rfl ?_
  rw [brB_true]
  refine wv_of (load_hash hSl (RowL.own (i := 0) s7 rfl)) ?_
  refine buildL (T := T) (ts := t_sl_string) (e := t_string) (si := ti_sl_string) (ie := ti_string) (l := [[97], [], [98, 99]].map .str) T_sl_string rfl T_string rfl rfl rfl rfl (by simp [sz, ti_string]) (by decide) s7 fun v10 G11 s11 => ?_
  refine hash_Sum.use (xs := [[97], [], [98, 99]]) (OwnL.own (i := 0) s11 rfl).cap (by decide) (by decide) fun G13 c13 => ?_
  have s13 := s11.tmp c13
  refine ⟨⟨load_hash hSl (RowL.own (i := 1) s13 rfl), trivial⟩, ?_⟩
  have hf : [[97], [], [98, 99]].flatten = ([97, 98, 99] : List UInt8) := rfl
  rw [hf, ← hS]
  refine wv_of (hash_eql2 hSl hSl) ?_
  rw [decide_eq_true rfl, brB_true]
  refine wv_of (load_hash hSl (RowL.own (i := 1) s13 rfl)) ?_
  refine hash_Hex.use hSl ?_
  rw [hSh]
  refine wv_of (v := .bool true) rfl ?_
  rw [brB_true]
  refine wv_of zero_hash2 ?_
  refine hash_Mac.use (by simp) (by simp) fun G21 c21 => ?_
  have s21 := s13.tmp c21
  refine hash_Hex.use (length_mac _ _) ?_
  rw [mac_hex]
  refine wv_of (v := .bool true) rfl ?_
  exact hQ _ s21.ch

end

theorem fits32 {h : List UInt8} (hl : h.length = 32) : vfits ti_api_Hash (.agg (h.map u8v)) = true := by simp [vfits, sz, szs_uni (uni_u8 h), hl, ti_api_Hash, AVal.isAgg, ADesc.isAgg]
theorem sz32 {h : List UInt8} (hl : h.length = 32) : sz z_api_Hash = sz (.agg (h.map u8v)) := by rw [z_hash, sz, sz, szs_uni (uni_u8 h), szs_uni (uni_u8 _)]; simp [hl]
theorem okv32 (h : List UInt8) : okv (.agg (h.map u8v)) = true := by simp [okv, okvs_u8]

set_option maxHeartbeats 2000000 in
theorem law_HashMacs {G : Heap} {k t : AVal} {m1 m2 : Nat} (h1 : wt T G reachBytes 4 t_api_Hash k m1) (h2 : wt T G reachBytes 4 t_string t m2) : ACalls P escrowlaw02_HashMacs.n [k, t] G fun v _ => v = .bool true := by
  obtain ⟨k, rfl, hk, _⟩ := wt_hash T_api_Hash rfl T_uint8 rfl h1
  obtain ⟨t, rfl, htR, _, _⟩ := wt_str T_string rfl h2
  have htR : t.length ≤ 140737488351232 := htR
  refine escrowlaw02_HashMacs.sound ?_
  unfold escrowlaw02_HashMacs.S
  intro i1 f1
  have s1 := (Sp.nil G).row f1 (.agg (k.map u8v))
  refine wv_of (load_hash hk (RowL.own (i := 0) s1 rfl)) ?_
  refine hash_Mac.use hk (by omega) fun G5 c5 => ?_
  have s5 := s1.tmp c5
  have hm := length_mac k t
  obtain ⟨M, hM⟩ : ∃ M, M = mac k t := ⟨_, rfl⟩
  rw [← hM] at hm ⊢
  refine newVal s5 T_api_Hash (fits32 hm) (sz32 hm) (okv32 _) fun i6 G8 s8 => ?_
  refine escrowlaw02_first.use fun G10 c10 => ?_
  have s10 := s8.tmp c10
  rw [brB_true]
  refine wv_of (load_hash hm (RowL.own (i := 0) s10 rfl)) ?_
  refine wv_of (load_hash hk (RowL.own (i := 1) s10 rfl)) ?_
  refine escrowref02_Mac.use hk (by omega) fun G14 c14 => ?_
  have s14 := s10.tmp c14
  refine ⟨⟨load_hash hm (RowL.own (i := 0) s14 rfl), trivial⟩, ?_⟩
  rw [← hM]
  refine wv_of (hash_eql2 hm hm) ?_
  rw [decide_eq_true rfl]

set_option maxHeartbeats 4000000 in
theorem law_HashHexes {G : Heap} {h t : AVal} {m1 m2 : Nat} (h1 : wt T G reachBytes 4 t_api_Hash h m1) (h2 : wt T G reachBytes 4 t_string t m2) : ACalls P escrowlaw02_HashHexes.n [h, t] G fun v _ => v = .bool true := by
  obtain ⟨h, rfl, hh, _⟩ := wt_hash T_api_Hash rfl T_uint8 rfl h1
  obtain ⟨t, rfl, _, htl, _⟩ := wt_str T_string rfl h2
  unfold maxLen at htl
  refine escrowlaw02_HashHexes.sound ?_
  unfold escrowlaw02_HashHexes.S
  intro i1 f1
  have s1 := (Sp.nil G).row f1 (.agg (h.map u8v))
  refine wv_of (load_hash hh (RowL.own (i := 0) s1 rfl)) ?_
  refine hash_Hex.use hh ?_
  refine hash_Parse.use fun x G7 hx c7 => ?_
  have s7 := s1.tmp c7
  refine wv_of (hi0 _) ?_
  refine wv_of (hi1 _) ?_
  have hxl := hx.len
  refine newVal s7 T_api_Hash (fits32 hxl) (sz32 hxl) (okv32 _) fun i10 G12 s12 => ?_
  refine escrowref02_Parse.use htl fun y G14 hy c14 => ?_
  have s14 := s12.tmp c14
  rw [hy.only hx]
  refine wv_of (hi0 _) ?_
  refine wv_of (hi1 _) ?_
  refine newVal s14 T_api_Hash (fits32 hxl) (sz32 hxl) (okv32 _) fun i17 G19 s19 => ?_
  refine hash_Parse.use fun w G21 hw c21 => ?_
  have s21 := s19.tmp c21
  rw [hw.only (ParseS.hex hh)]
  refine wv_of (hi0 _) ?_
  refine wv_of (hi1 _) ?_
  refine newVal s21 T_api_Hash (fits32 hh) (sz32 hh) (okv32 _) fun i24 G26 s26 => ?_
  have s26 : Sp [] G [RowL i24 (.agg (h.map u8v)), RowL i17 (.agg (x.1.map u8v)), RowL i10 (.agg (x.1.map u8v)), RowL i1 (.agg (h.map u8v))] G26 := s26
  intro J50
  have h50 : ∀ G', Sp [] G [RowL i24 (.agg (h.map u8v)), RowL i17 (.agg (x.1.map u8v)), RowL i10 (.agg (x.1.map u8v)), RowL i1 (.agg (h.map u8v))] G' → J50 (.bool false) G' := by
    intro G39 s39
    simp -zeta only [J50, brB_false]
    refine escrowlaw02_first.use fun G42 c42 => ?_
    have s42 := s39.tmp c42
    rw [brB_true]
    rcases hx with ⟨a, ha, hat, rfl⟩ | ⟨_, rfl⟩
    · dsimp only at s42 ⊢
      rw [nz0, wv_some, brB_false]
      refine wv_of (load_hash ha (RowL.own (i := 2) s42 rfl)) ?_
      refine hash_Hex.use ha ?_
      rw [vbin_seql, wv_some, decide_eq_true hat.symm]
    · dsimp only at s42 ⊢
      refine wv_of (v := .bool true) rfl ?_
      rw [brB_true]
      trivial
  refine wv_of (load_hash hh (RowL.own (i := 3) s26 rfl)) ?_
  refine escrowref02_Hex.use hh fun G29 c29 => ?_
  have s29 := s26.tmp c29
  rw [vbin_sneq, wv_some, decide_eq_true rfl, Bool.not_true, brB_false]
  refine wv_of (load_hash hxl (RowL.own (i := 2) s29 rfl)) ?_
  refine wv_of (load_hash hxl (RowL.own (i := 1) s29 rfl)) ?_
  refine wv_of (hash_neq2 hxl hxl) ?_
  rw [decide_eq_true rfl, Bool.not_true, brB_false, nz0, wv_some, brB_false]
  refine wv_of (load_hash hh (RowL.own (i := 0) s29 rfl)) ?_
  refine wv_of (load_hash hh (RowL.own (i := 3) s29 rfl)) ?_
  refine wv_of (hash_neq2 hh hh) ?_
  rw [decide_eq_true rfl, Bool.not_true, brB_false]
  refine wv_of (v := .bool false) rfl ?_
  exact h50 _ s29

end Go.Esc.M
