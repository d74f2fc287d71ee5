/- Own work. Chapter 12: UpdateLimits. -/
import Derived.Test.YtmhhddpkhfohcaaLUg
import Derived.Test.YtmhhddpkhfohcaaLAr
set_option linter.unusedSimpArgs false
set_option linter.unusedVariables false
namespace Go.Esc
open Go Go.RowKit
/-- make: a new list of zeros. -/
theorem mkOwn {T : Tbl} {F0 : List AId} {G0 G : Heap} {ps : List LP} {ts e : TypeId} {si ie : TI} (ht : T ts = some si) (hd : si.desc = .slice e) (he : T e = some ie) (hz : sz ie.zero = ie.size) {k k' : IntKind} {n : Nat} {x y : Int} (hx : x = (n : Int)) (hy : y = (n : Int))
    (hb : ie.bytes * n ≤ 281474976710656) (hn : n ≤ 9223372036854775807) (hs : Sp F0 G0 ps G) {K : AVal → Heap → Prop} (hK : ∀ v G', Sp F0 G0 (OwnL ie.size v (List.replicate n ie.zero) :: ps) G' → K v G') : aMakeSlice T ts (.int k x) (.int k' y) G K := by
  subst hx hy
  unfold aMakeSlice
  simp only [ht, hd, he]
  refine ⟨by omega, by omega, ?_, by omega, fun id hf => ?_⟩
  · have : ((ie.bytes * n : Nat) : Int) ≤ 281474976710656 := by omega
    rwa [Int.natCast_mul] at this
  · simp only [Int.toNat_natCast]
    refine hK _ _ (hs.new (p := OwnL ie.size _ _) ⟨.inr ⟨id, n, n, List.replicate n ie.zero, rfl, Heap.upd_self _ _ _, by simp, Nat.le_refl _, uni_replicate hz, ?_⟩, rfl⟩ ?_)
    · rw [List.take_of_length_le (by simp)]
    · simpa [rowOf] using Ch.new hf
end Go.Esc
namespace Go.Esc.M
open Go Go.Esc

theorem uni_upds {l : List UpdM} (h : ∀ m ∈ l, m.ok) : uni 36 (l.map UpdM.av) = true := by
  simp only [uni, List.all_map, List.all_eq_true]
  intro m hm
  simpa using UpdM.sz (h m hm)
theorem okvs_upds : ∀ l : List UpdM, okvs (l.map UpdM.av) = true
  | [] => rfl
  | m :: l => by simp [okvs, UpdM.okv, okvs_upds l]
theorem zuc : z_api_Update = .agg UpdM.zero.cs := rfl
theorem upd_cs (a b c : Int) (f n : List UInt8) : (⟨a, b, c, f, n⟩ : UpdM).cs = [.int .i64 a, .int .i64 b, .int .i64 c, .agg (f.map u8v), .str n] := rfl
theorem build_upds {zs parts} (hz : z_api_Update = .agg zs) (hs : ∀ p ∈ parts, zs[p.1]?.map sz = some (sz p.2)) : vbuild T t_api_Update parts = some (.agg (setParts zs parts)) := by
  refine build_struct (fs := [(t_int, 0), (t_int64, 1), (t_int64, 2), (t_api_Hash, 3), (t_string, 35)]) T_api_Update rfl hz rfl ?_ hs
  rw [zuc] at hz
  injection hz with hz
  subst hz
  exact plOk_of rfl
theorem map_upds (l : List UpdM) {j : Nat} {m : UpdM} (h : l[j]? = some m) : (l.map UpdM.av)[j]? = some m.av := by rw [List.getElem?_map, h]; rfl

theorem len_bytesU {u : UpdM} (h : u.ok) (hv : validU u = true) : (bytesU u).length = if u.kind = 1 then 43 else if u.kind = 2 then 35 else 5 + u.note.length := by
  obtain ⟨_, _, hk⟩ := valid_spec hv
  have hh := h.hash
  rw [length_tail h hv]
  unfold tailU
  split
  · simp [length_be, hh]
  split
  · simp [hh]
  · simp [length_be]; omega

theorem valid1 {i a : Int} {h : List UInt8} (hi : 0 ≤ i ∧ i < 2048) (ha : 1 ≤ a ∧ a ≤ maxAm) : validU ⟨1, i, a, h, []⟩ = true := by
  unfold validU
  rw [if_pos rfl, decide_eq_true hi.1, decide_eq_true hi.2, decide_eq_true ha.1, decide_eq_true ha.2, decide_eq_true rfl]
  rfl
theorem valid2 {i : Int} {h : List UInt8} (hi : 0 ≤ i ∧ i < 2048) : validU ⟨2, i, 0, h, []⟩ = true := by
  unfold validU
  rw [if_neg (show ¬ (2 : Int) = 1 by decide), if_pos rfl, decide_eq_true hi.1, decide_eq_true hi.2]
  rfl
theorem valid3 {i : Int} {n : List UInt8} (hi : 0 ≤ i ∧ i < 2048) (hn : n.length ≤ 64) : validU ⟨3, i, 0, h0, n⟩ = true := by
  unfold validU
  rw [if_neg (show ¬ (3 : Int) = 1 by decide), if_neg (show ¬ (3 : Int) = 2 by decide), if_pos rfl, decide_eq_true hi.1, decide_eq_true hi.2, decide_eq_true hn]
  rfl
theorem not_valid {u : UpdM} (h : ¬ (0 ≤ u.id ∧ u.id < 2048 ∧ ((u.kind = 1 ∧ 1 ≤ u.amount ∧ u.amount ≤ 1152921504606846976 ∧ u.note = []) ∨ (u.kind = 2 ∧ u.amount = 0 ∧ u.note = []) ∨ (u.kind = 3 ∧ u.amount = 0 ∧ u.hash = h0 ∧ u.note.length ≤ 64)))) : validU u = false :=
  Bool.eq_false_iff.2 fun hv => h (valid_spec hv)
theorem writeR_ok {u : UpdM} (hv : validU u = true) : writeR u = (bytesU u, 0) := by unfold writeR; rw [hv]; rfl
theorem writeR_no {u : UpdM} (hv : validU u = false) : writeR u = ([], 120) := by unfold writeR; rw [hv]; rfl
theorem arr_fits {t : TI} {l : List UpdM} {n k : Nat} {e : TypeId} (h : ∀ m ∈ l, m.ok) (hl : l.length = n) (hd : t.desc = .array k e) (hs : t.size = n * 36) : vfits t (.agg (l.map UpdM.av)) = true := by
  have h1 : szs (l.map UpdM.av) = n * 36 := by rw [szs_uni (uni_upds h)]; simp [hl]
  simp [vfits, sz, h1, AVal.isAgg, ADesc.isAgg, hd, hs]
theorem adds_zero (n : Nat) : addsU (List.replicate n UpdM.zero) = 0 := by
  unfold addsU
  rw [List.filter_replicate_of_neg (by decide)]
  rfl

set_option maxRecDepth 20000 in
set_option maxHeartbeats 4000000 in
theorem law_UpdateLimits {G : Heap} {h note extra : AVal} {m1 m2 m3 : Nat} (h1 : wt T G reachBytes 4 t_api_Hash h m1) (h2 : wt T G reachBytes 4 t_string note m2) (h3 : wt T G reachBytes 4 t_int64 extra m3) :
    ACalls P escrowlaw12_UpdateLimits.n [h, note, extra] G fun v _ => v = .bool true := by
  obtain ⟨h, rfl, hhl, _⟩ := wt_hash T_api_Hash rfl T_uint8 rfl h1
  obtain ⟨note, rfl, hnR, _, _⟩ := wt_str T_string rfl h2
  obtain ⟨extra, rfl, hew, _⟩ := wt_int T_int64 rfl h3
  have heI := i64_wf.1 hew
  have hnR : note.length ≤ 140737488351232 := hnR
  refine escrowlaw12_UpdateLimits.sound ?_
  unfold escrowlaw12_UpdateLimits.S
  intro i1 f1
  have s1 := (Sp.nil G).row f1 (.agg (h.map u8v))
  refine escrowlaw12_head.use fun G4 c4 => ?_
  have s4 := s1.tmp c4
  rw [vun_not, wv_some, Bool.not_true, brB_false]
  show wv (some (.int .i64 (note.length : Nat))) _
  rw [wv_some]
  refine wv_of (by rw [vbin_gtr]) ?_
  intro J163
  have h163 : ∀ nt : List UInt8, nt.length ≤ 64 → J163 (.str nt) G4 := by
    intro nt hnt
    simp -zeta only [J163]
    refine wv_of (by rw [vbin_lss]) ?_
    intro J162
    have h162 : ∀ more : Int, 0 ≤ more → I64 more → J162 (.int .i64 more) G4 := by
      intro more hm0 hmI
      have hm2 : more ≤ 9223372036854775807 := hmI.2
      simp -zeta only [J162]
      rw [vbin_sadd _ _ (by simp; omega), wv_some]
      intro R hR
      have fin : ∀ long : List UInt8, long.length = 65 → R [.str nt, .ptr i1 [] 0, .int .i64 more, .str long] G4 := by
        intro long hlong
        refine hR _ _ _ _ _ ?_
        show wv (some (.int .i64 (long.length : Nat))) _
        rw [wv_some, vbin_lss, wv_some, decide_eq_false (by omega), brB_false]
        have z0 : sz (.agg (h0.map u8v)) = 32 := rfl
        have il : ∀ n : Int, -9223372036854775808 ≤ n ∧ n ≤ 9223372036854775807 → I64 n := fun n h => h
        have ld : ∀ {ps : List LP} {q : Nat} {G' : Heap}, Sp [] G ps G' → ps[q]? = some (RowL i1 (.agg (h.map u8v))) → vload T G' t_api_Hash (.ptr i1 [] 0) = some (.agg (h.map u8v)) := fun sp hq => load_hash hhl (RowL.own sp hq)
        obtain ⟨r0, hr0⟩ : ∃ u : UpdM, u = ⟨1, 0, 1, h, []⟩ := ⟨_, rfl⟩
        obtain ⟨r1, hr1⟩ : ∃ u : UpdM, u = ⟨1, 2047, 1152921504606846976, h, []⟩ := ⟨_, rfl⟩
        obtain ⟨r2, hr2⟩ : ∃ u : UpdM, u = ⟨2, 0, 0, h, []⟩ := ⟨_, rfl⟩
        obtain ⟨r3, hr3⟩ : ∃ u : UpdM, u = ⟨2, 2047, 0, h, []⟩ := ⟨_, rfl⟩
        obtain ⟨r4, hr4⟩ : ∃ u : UpdM, u = ⟨3, 2047, 0, h0, nt⟩ := ⟨_, rfl⟩
        obtain ⟨r5, hr5⟩ : ∃ u : UpdM, u = ⟨3, 0, 0, h0, long.take 64⟩ := ⟨_, rfl⟩
        have l64 : (long.take 64).length = 64 := by rw [List.length_take]; omega
        have ok0 : r0.ok := by rw [hr0]; exact mkok (il 1 (by decide)) i64_0 (il 1 (by decide)) hhl (by simp)
        have ok1 : r1.ok := by rw [hr1]; exact mkok (il 1 (by decide)) (il 2047 (by decide)) (il 1152921504606846976 (by decide)) hhl (by simp)
        have ok2 : r2.ok := by rw [hr2]; exact mkok (il 2 (by decide)) i64_0 i64_0 hhl (by simp)
        have ok3 : r3.ok := by rw [hr3]; exact mkok (il 2 (by decide)) (il 2047 (by decide)) i64_0 hhl (by simp)
        have ok4 : r4.ok := by rw [hr4]; exact mkok (il 3 (by decide)) (il 2047 (by decide)) i64_0 rfl (by omega)
        have ok5 : r5.ok := by rw [hr5]; exact mkok (il 3 (by decide)) i64_0 i64_0 rfl (by omega)
        have v0 : validU r0 = true := by rw [hr0]; exact valid1 (by decide) (by decide)
        have v1 : validU r1 = true := by rw [hr1]; exact valid1 (by decide) (by decide)
        have v2 : validU r2 = true := by rw [hr2]; exact valid2 (by decide)
        have v3 : validU r3 = true := by rw [hr3]; exact valid2 (by decide)
        have v4 : validU r4 = true := by rw [hr4]; exact valid3 (by decide) hnt
        have v5 : validU r5 = true := by rw [hr5]; exact valid3 (by decide) (by omega)
        refine wv_of (ld (q := 0) s4 rfl) ?_
        refine wv_of (v := r0.av) ((build_upds zuc (by simp [UpdM.zero, upd_cs, sz, szh hhl, szh h0_len])).trans (by rw [hr0]; rfl)) ?_
        refine wv_of (ld (q := 0) s4 rfl) ?_
        refine wv_of (v := r1.av) ((build_upds zuc (by simp [UpdM.zero, upd_cs, sz, szh hhl, szh h0_len])).trans (by rw [hr1]; rfl)) ?_
        refine wv_of (ld (q := 0) s4 rfl) ?_
        refine wv_of (v := r2.av) ((build_upds zuc (by simp [UpdM.zero, upd_cs, sz, szh hhl, szh h0_len])).trans (by rw [hr2]; rfl)) ?_
        refine wv_of (ld (q := 0) s4 rfl) ?_
        refine wv_of (v := r3.av) ((build_upds zuc (by simp [UpdM.zero, upd_cs, sz, szh hhl, szh h0_len])).trans (by rw [hr3]; rfl)) ?_
        refine wv_of (v := r4.av) ((build_upds zuc (by simp [UpdM.zero, upd_cs, sz])).trans (by rw [hr4]; rfl)) ?_
        refine wv_of (str_take (by omega) (by omega)) ?_
        refine wv_of (v := r5.av) ((build_upds zuc (by simp [UpdM.zero, upd_cs, sz])).trans (by rw [hr5]; rfl)) ?_
        obtain ⟨L, hL⟩ : ∃ L, L = [r0, r1, r2, r3, r4, r5] := ⟨_, rfl⟩
        have hLok : ∀ m ∈ L, m.ok := by rw [hL]; simp; exact ⟨ok0, ok1, ok2, ok3, ok4, ok5⟩
        have hLv : ∀ m ∈ L, validU m = true := by rw [hL]; simp; exact ⟨v0, v1, v2, v3, v4, v5⟩
        have hz6 : z_ar6_api_Update = .agg ((List.replicate 6 UpdM.zero).map UpdM.av) := rfl
        have z6ok : ∀ m ∈ List.replicate 6 UpdM.zero, m.ok := by simp [UpdM.zero_ok]
        have hzi : z_ar6_int = .agg (List.replicate 6 (.int .i64 0)) := rfl
        have zu : ∀ n, uni 1 (List.replicate n (AVal.int .i64 0)) = true := fun n => uni_replicate rfl
        refine wv_of (v := .agg (L.map UpdM.av)) ((build_array T_ar6_api_Update rfl T_api_Update hz6 (uni_upds z6ok) (by simp [UpdM.sz UpdM.zero_ok, UpdM.sz ok0, UpdM.sz ok1, UpdM.sz ok2, UpdM.sz ok3, UpdM.sz ok4, UpdM.sz ok5])).trans (by rw [hL]; rfl)) ?_
        refine newVal s4 T_ar6_api_Update (arr_fits (n := 6) hLok (by rw [hL]; rfl) rfl rfl) (by rw [hz6, sz, sz, szs_uni (uni_upds z6ok), szs_uni (uni_upds hLok), hL]; rfl) (by rw [okv]; exact okvs_upds _) fun i38 G40 s40 => ?_
        show wv (some (.int .i64 (nt.length : Nat))) _
        rw [wv_some, vbin_add, i64_in (by omega) (by omega), wv_some]
        obtain ⟨Z, hZ⟩ : ∃ Z : List Int, Z = [43, 43, 35, 35, 5 + (nt.length : Int), 69] := ⟨_, rfl⟩
        refine wv_of (v := .agg (Z.map (AVal.int .i64))) ((build_array T_ar6_int rfl T_int hzi (zu 6) (by simp [sz])).trans (by rw [hZ]; rfl)) ?_
        have zsu : uni 1 (Z.map (AVal.int .i64)) = true := by simp [uni, sz]
        refine newVal s40 T_ar6_int (by rw [hZ]; rfl) (by rw [hZ]; rfl) (by rw [hZ]; rfl) fun i44 G46 s46 => ?_
        have s46 : Sp [] G [RowL i44 (.agg (Z.map (AVal.int .i64))), RowL i38 (.agg (L.map UpdM.av)), RowL i1 (.agg (h.map u8v))] G46 := s46
        have hLZ : L.map (fun u => (((bytesU u).length : Nat) : Int)) = Z := by
          rw [hL, hZ]
          simp only [List.map_cons, List.map_nil, len_bytesU ok0 v0, len_bytesU ok1 v1, len_bytesU ok2 v2, len_bytesU ok3 v3, len_bytesU ok4 v4, len_bytesU ok5 v5]
          rw [hr0, hr1, hr2, hr3, hr4, hr5]
          simp [l64]
        intro R47 hR47
        have loop : ∀ (k j : Nat) G', 6 - j = k → j ≤ 6 → Sp [] G [RowL i44 (.agg (Z.map (AVal.int .i64))), RowL i38 (.agg (L.map UpdM.av)), RowL i1 (.agg (h.map u8v))] G' → R47 [.ptr i1 [] 0, .int .i64 more, .str long, .ptr i38 [] 0, .ptr i44 [] 0, .int .i64 (j : Int)] G' := by
          intro k
          induction k with
          | zero =>
            intro j G' hj hj6 sp
            refine hR47 _ _ _ _ _ _ _ ?_
            rw [vbin_lss, wv_some, decide_eq_false (by omega), brB_false]
            refine wv_of (ld (q := 2) sp rfl) ?_
            refine newVal sp T_api_Hash (fits_hash hhl) (by rw [show sz (.agg (h.map u8v)) = 32 from by rw [sz]; exact szh hhl]; rfl) (by simp [okv, okvs_u8]) fun i78 G80 s80 => ?_
            have ad0 : viaddr T t_api_Hash (.ptr i78 [] 0) (.int .i64 0) = some (.ptr i78 [0] (0 * 1)) := addr_hash (j := 0) (by decide)
            refine wv_of ad0 ?_
            refine wg_of (store_byte (hs := h) (j := 0) (b := 1) (by omega) (RowL.own (i := 0) s80 rfl)) ?_
            obtain ⟨oth, hoth⟩ : ∃ o, o = h.set 0 1 := ⟨_, rfl⟩
            rw [← hoth]
            have hol : oth.length = 32 := by rw [hoth]; simp [hhl]
            have hon : oth ≠ h0 := by
              intro e
              have h5 : oth[0]? = some 1 := by rw [hoth, List.getElem?_set_self (by omega)]
              rw [e] at h5
              have h6 : h0[0]? = some (0 : UInt8) := rfl
              rw [h6] at h5
              cases h5
            have s82 := Sp.setRow (j := 0) s80 rfl (.agg (oth.map u8v))
            revert s82
            generalize Heap.upd G80 i78 _ = G82
            intro s82
            have s82 : Sp [] G [RowL i78 (.agg (oth.map u8v)), RowL i44 (.agg (Z.map (AVal.int .i64))), RowL i38 (.agg (L.map UpdM.av)), RowL i1 (.agg (h.map u8v))] G82 := s82
            obtain ⟨w0, hw0⟩ : ∃ u : UpdM, u = ⟨1, 0, 0, h, []⟩ := ⟨_, rfl⟩
            obtain ⟨w1, hw1⟩ : ∃ u : UpdM, u = ⟨1, 0, -1 - more, h0, []⟩ := ⟨_, rfl⟩
            obtain ⟨w2, hw2⟩ : ∃ u : UpdM, u = ⟨1, 0, 1152921504606846977, h0, []⟩ := ⟨_, rfl⟩
            obtain ⟨w3, hw3⟩ : ∃ u : UpdM, u = ⟨1, 2048, 1, h0, []⟩ := ⟨_, rfl⟩
            obtain ⟨w4, hw4⟩ : ∃ u : UpdM, u = ⟨1, -1 - more, 1, h0, []⟩ := ⟨_, rfl⟩
            obtain ⟨w5, hw5⟩ : ∃ u : UpdM, u = ⟨1, 0, 1, h0, [120]⟩ := ⟨_, rfl⟩
            obtain ⟨w6, hw6⟩ : ∃ u : UpdM, u = ⟨2, 0, 1, h0, []⟩ := ⟨_, rfl⟩
            obtain ⟨w7, hw7⟩ : ∃ u : UpdM, u = ⟨2, 0, 0, h0, [120]⟩ := ⟨_, rfl⟩
            obtain ⟨w8, hw8⟩ : ∃ u : UpdM, u = ⟨3, 0, 1, h0, []⟩ := ⟨_, rfl⟩
            obtain ⟨w9, hw9⟩ : ∃ u : UpdM, u = ⟨3, 0, 0, oth, []⟩ := ⟨_, rfl⟩
            obtain ⟨w10, hw10⟩ : ∃ u : UpdM, u = ⟨3, 0, 0, h0, long⟩ := ⟨_, rfl⟩
            obtain ⟨w11, hw11⟩ : ∃ u : UpdM, u = ⟨4, 0, 1, h0, []⟩ := ⟨_, rfl⟩
            have hmI' : I64 (-1 - more) := ⟨by omega, by omega⟩
            have k0 : w0.ok := by rw [hw0]; exact mkok (il 1 (by decide)) i64_0 i64_0 hhl (by simp)
            have k1 : w1.ok := by rw [hw1]; exact mkok (il 1 (by decide)) i64_0 hmI' rfl (by simp)
            have k2 : w2.ok := by rw [hw2]; exact mkok (il 1 (by decide)) i64_0 (il 1152921504606846977 (by decide)) rfl (by simp)
            have k3 : w3.ok := by rw [hw3]; exact mkok (il 1 (by decide)) (il 2048 (by decide)) (il 1 (by decide)) rfl (by simp)
            have k4 : w4.ok := by rw [hw4]; exact mkok (il 1 (by decide)) hmI' (il 1 (by decide)) rfl (by simp)
            have k5 : w5.ok := by rw [hw5]; exact mkok (il 1 (by decide)) i64_0 (il 1 (by decide)) rfl (by simp)
            have k6 : w6.ok := by rw [hw6]; exact mkok (il 2 (by decide)) i64_0 (il 1 (by decide)) rfl (by simp)
            have k7 : w7.ok := by rw [hw7]; exact mkok (il 2 (by decide)) i64_0 i64_0 rfl (by simp)
            have k8 : w8.ok := by rw [hw8]; exact mkok (il 3 (by decide)) i64_0 (il 1 (by decide)) rfl (by simp)
            have k9 : w9.ok := by rw [hw9]; exact mkok (il 3 (by decide)) i64_0 i64_0 hol (by simp)
            have k10 : w10.ok := by rw [hw10]; exact mkok (il 3 (by decide)) i64_0 i64_0 rfl (by omega)
            have k11 : w11.ok := by rw [hw11]; exact mkok (il 4 (by decide)) i64_0 (il 1 (by decide)) rfl (by simp)
            have n0 : validU w0 = false := by rw [hw0]; exact not_valid (by dsimp only; omega)
            have n1 : validU w1 = false := by rw [hw1]; exact not_valid (by dsimp only; omega)
            have n2 : validU w2 = false := by rw [hw2]; exact not_valid (by dsimp only; omega)
            have n3 : validU w3 = false := by rw [hw3]; exact not_valid (by dsimp only; omega)
            have n4 : validU w4 = false := by rw [hw4]; exact not_valid (by dsimp only; omega)
            have n5 : validU w5 = false := by rw [hw5]; exact not_valid (by simp)
            have n6 : validU w6 = false := by rw [hw6]; exact not_valid (by dsimp only; omega)
            have n7 : validU w7 = false := by rw [hw7]; exact not_valid (by simp)
            have n8 : validU w8 = false := by rw [hw8]; exact not_valid (by dsimp only; omega)
            have n9 : validU w9 = false := by rw [hw9]; exact not_valid (by simp [hon])
            have n10 : validU w10 = false := by rw [hw10]; exact not_valid (by dsimp only; omega)
            have n11 : validU w11 = false := by rw [hw11]; exact not_valid (by dsimp only; omega)
            refine wv_of (ld (q := 3) s82 rfl) ?_
            refine wv_of (v := w0.av) ((build_upds zuc (by simp [UpdM.zero, upd_cs, sz, szh hhl, szh h0_len])).trans (by rw [hw0]; rfl)) ?_
            refine wv_of (v := .int .i64 (-1 - more)) (by rw [vbin_sub, i64_in (by omega) (by omega)]) ?_
            refine wv_of (v := w1.av) ((build_upds zuc (by simp [UpdM.zero, upd_cs, sz])).trans (by rw [hw1]; rfl)) ?_
            refine wv_of (v := w2.av) ((build_upds zuc (by simp [UpdM.zero, upd_cs, sz])).trans (by rw [hw2]; rfl)) ?_
            refine wv_of (v := w3.av) ((build_upds zuc (by simp [UpdM.zero, upd_cs, sz])).trans (by rw [hw3]; rfl)) ?_
            refine wv_of (v := .int .i64 (-1 - more)) (by rw [vbin_sub, i64_in (by omega) (by omega)]) ?_
            refine wv_of (v := w4.av) ((build_upds zuc (by simp [UpdM.zero, upd_cs, sz])).trans (by rw [hw4]; rfl)) ?_
            refine wv_of (v := w5.av) ((build_upds zuc (by simp [UpdM.zero, upd_cs, sz])).trans (by rw [hw5]; rfl)) ?_
            refine wv_of (v := w6.av) ((build_upds zuc (by simp [UpdM.zero, upd_cs, sz])).trans (by rw [hw6]; rfl)) ?_
            refine wv_of (v := w7.av) ((build_upds zuc (by simp [UpdM.zero, upd_cs, sz])).trans (by rw [hw7]; rfl)) ?_
            refine wv_of (v := w8.av) ((build_upds zuc (by simp [UpdM.zero, upd_cs, sz])).trans (by rw [hw8]; rfl)) ?_
            refine wv_of (load_hash hol (RowL.own (i := 0) s82 rfl)) ?_
            refine wv_of (v := w9.av) ((build_upds zuc (by simp [UpdM.zero, upd_cs, sz, szh hol, szh h0_len])).trans (by rw [hw9]; rfl)) ?_
            refine wv_of (v := w10.av) ((build_upds zuc (by simp [UpdM.zero, upd_cs, sz])).trans (by rw [hw10]; rfl)) ?_
            refine wv_of (v := w11.av) ((build_upds zuc (by simp [UpdM.zero, upd_cs, sz])).trans (by rw [hw11]; rfl)) ?_
            obtain ⟨B, hB⟩ : ∃ L, L = [w0, w1, w2, w3, w4, w5, w6, w7, w8, w9, w10, w11] := ⟨_, rfl⟩
            have hBok : ∀ m ∈ B, m.ok := by rw [hB]; simp; exact ⟨k0, k1, k2, k3, k4, k5, k6, k7, k8, k9, k10, k11⟩
            have hBv : ∀ m ∈ B, validU m = false := by rw [hB]; simp; exact ⟨n0, n1, n2, n3, n4, n5, n6, n7, n8, n9, n10, n11⟩
            have hz12 : z_ar12_api_Update = .agg ((List.replicate 12 UpdM.zero).map UpdM.av) := rfl
            have z12ok : ∀ m ∈ List.replicate 12 UpdM.zero, m.ok := by simp [UpdM.zero_ok]
            refine wv_of (v := .agg (B.map UpdM.av)) ((build_array T_ar12_api_Update rfl T_api_Update hz12 (uni_upds z12ok) (by simp [UpdM.sz UpdM.zero_ok, UpdM.sz k0, UpdM.sz k1, UpdM.sz k2, UpdM.sz k3, UpdM.sz k4, UpdM.sz k5, UpdM.sz k6, UpdM.sz k7, UpdM.sz k8, UpdM.sz k9, UpdM.sz k10, UpdM.sz k11])).trans (by rw [hB]; rfl)) ?_
            refine newVal s82 T_ar12_api_Update (arr_fits (n := 12) hBok (by rw [hB]; rfl) rfl rfl) (by rw [hz12, sz, sz, szs_uni (uni_upds z12ok), szs_uni (uni_upds hBok), hB]; rfl) (by rw [okv]; exact okvs_upds _) fun i100 G102 s102 => ?_
            have s102 : Sp [] G [RowL i100 (.agg (B.map UpdM.av)), RowL i38 (.agg (L.map UpdM.av)), RowL i1 (.agg (h.map u8v))] G102 := (s102.erase 1).erase 1
            have hlv : ∀ n : Nat, 36 = ti_api_Update.size := fun _ => rfl
            intro R103 hR103
            have loop2 : ∀ (k j : Nat) G', 12 - j = k → j ≤ 12 → Sp [] G [RowL i100 (.agg (B.map UpdM.av)), RowL i38 (.agg (L.map UpdM.av)), RowL i1 (.agg (h.map u8v))] G' → R103 [.ptr i1 [] 0, .ptr i38 [] 0, .ptr i100 [] 0, .int .i64 (j : Int)] G' := by
              intro k
              induction k with
              | zero =>
                intro j G' hj hj12 sp
                refine hR103 _ _ _ _ _ ?_
                rw [vbin_lss, wv_some, decide_eq_false (by omega), brB_false]
                refine mkOwn (n := 2047) T_sl_api_Update rfl T_api_Update (by decide) rfl rfl (by decide) (by decide) sp fun v G137 s137 => ?_
                have hzr : ∀ n, List.replicate n ti_api_Update.zero = (List.replicate n UpdM.zero).map UpdM.av := fun n => by rw [List.map_replicate]; rfl
                rw [hzr] at s137
                obtain ⟨N, hN⟩ : ∃ N, N = 2047 := ⟨_, rfl⟩
                rw [← hN] at s137
                have s137 : Sp [] G [OwnL 36 v ((List.replicate N UpdM.zero).map UpdM.av), RowL i100 (.agg (B.map UpdM.av)), RowL i38 (.agg (L.map UpdM.av)), RowL i1 (.agg (h.map u8v))] G137 := s137
                refine wv_of (ld (q := 3) s137 rfl) ?_
                refine wv_of (v := r0.av) ((build_upds zuc (by simp [UpdM.zero, upd_cs, sz, szh hhl, szh h0_len])).trans (by rw [hr0]; rfl)) ?_
                refine newU s137 ok0 fun i140 G142 s142 => ?_
                refine wv_of (upd_load (i := 0) s142 rfl ok0).2.2.2.2.2 ?_
                have hzok : ∀ n, ∀ u ∈ List.replicate n UpdM.zero, u.ok := fun n u hu => by rw [List.eq_of_mem_replicate hu]; exact UpdM.zero_ok
                obtain ⟨F, ho, _⟩ := s142.get (i := 1) rfl
                have hk0 : r0.kind = 1 := by rw [hr0]
                have hi0 : r0.id = 0 := by rw [hr0]
                refine update_Next.useA ho.is (hzok N) (by rw [List.length_replicate]; omega) ok0 (.inl hk0) fun G145 c145 => ?_
                have s145 := s142.tmp c145
                have hna : nextA (List.replicate N UpdM.zero) r0 = 0 := by
                  unfold nextA
                  rw [List.length_replicate, if_neg (by omega), v0, if_neg (by decide), hi0, adds_zero, if_pos (show (0 : Int) = ((0 : Nat) : Int) from rfl)]
                rw [hna, nz0, wv_some, brB_false]
                refine wv_of (upd_load (i := 0) s145 rfl ok0).2.2.2.2.2 ?_
                refine growV (T := T) (ts := t_sl_api_Update) (e := t_api_Update) (si := ti_sl_api_Update) (ie := ti_api_Update) (i := 1) T_sl_api_Update rfl T_api_Update (by decide) (by decide) s145 rfl (UpdM.sz ok0) (UpdM.okv _) (by decide) ?_ fun v2 G151 s151 => ?_
                · rw [List.length_map, List.length_replicate]
                  have : ti_api_Update.bytes = 72 := rfl
                  rw [this]
                  omega
                have s151 : Sp [] G [RowL i140 r0.av, OwnL 36 v2 ((List.replicate N UpdM.zero ++ [r0]).map UpdM.av), RowL i100 (.agg (B.map UpdM.av)), RowL i38 (.agg (L.map UpdM.av)), RowL i1 (.agg (h.map u8v))] G151 := by
                  rw [List.map_append]
                  exact s151
                have hok2 : ∀ u ∈ List.replicate N UpdM.zero ++ [r0], u.ok := fun u hu => by
                  rcases List.mem_append.1 hu with hu | hu
                  · exact hzok N u hu
                  · rw [List.mem_singleton.1 hu]; exact ok0
                have hl2 : (List.replicate N UpdM.zero ++ [r0]).length = 2048 := by rw [List.length_append, List.length_replicate, hN]; rfl
                refine wv_of (upd_load (i := 0) s151 rfl ok0).2.2.2.2.2 ?_
                obtain ⟨F, ho, _⟩ := s151.get (i := 1) rfl
                refine update_Next.useA ho.is hok2 (by omega) ok0 (.inl hk0) fun G154 c154 => ?_
                have s154 := s151.tmp c154
                have hnb : ∀ u, nextA (List.replicate N UpdM.zero ++ [r0]) u = 6 := fun u => by
                  unfold nextA
                  rw [if_pos (by omega)]
                rw [hnb, ez0, wv_some, brB_true]
                refine wv_of build_none ?_
                obtain ⟨F, ho, _⟩ := s154.get (i := 1) rfl
                refine update_Next.useA ho.is hok2 (by omega) UpdM.zero_ok (.inr (.inr (by omega))) fun G158 c158 => ?_
                rw [hnb, ez0, wv_some]
              | succ k ih2 =>
                intro j G' hj hj12 sp
                have hjB : j < B.length := by rw [hB]; simp; omega
                obtain ⟨u, hu⟩ : ∃ u, B[j]? = some u := ⟨_, List.getElem?_eq_getElem hjB⟩
                have huo := hBok u (List.mem_of_getElem? hu)
                have huv := hBv u (List.mem_of_getElem? hu)
                refine hR103 _ _ _ _ _ ?_
                rw [vbin_lss, wv_some, decide_eq_true (by omega), brB_true]
                have ad : viaddr T t_ar12_api_Update (.ptr i100 [] 0) (.int .i64 (j : Int)) = some (.ptr i100 [j] (0 + j * 36)) := arrN_addr T_ar12_api_Update rfl T_api_Update rfl (by omega)
                have ldu : ∀ {ps : List LP} {q : Nat} {G' : Heap}, Sp [] G ps G' → ps[q]? = some (RowL i100 (.agg (B.map UpdM.av))) → vload T G' t_api_Update (.ptr i100 [j] (0 + j * 36)) = some u.av := fun sp hq => arrN_get T_api_Update (RowL.own sp hq) (uni_upds hBok) (map_upds B hu) (UpdM.fits huo)
                refine wv_of ad ?_
                refine wv_of (ldu (q := 0) sp rfl) ?_
                refine update_Write.use huo fun G113 c113 => ?_
                have s113 := sp.tmp c113
                rw [writeR_no huv, vext0, wv_some, vext1, wv_some, nz0, wv_some, brB_false, vbin_sneq, wv_some, decide_eq_true rfl, Bool.not_true, brB_false]
                refine wv_of ad ?_
                refine wv_of (ldu (q := 0) s113 rfl) ?_
                refine update_Valid.use huo fun G121 c121 => ?_
                have s121 := s113.tmp c121
                rw [huv, brB_false]
                have ad6 : viaddr T t_ar6_api_Update (.ptr i38 [] 0) (.int .i64 0) = some (.ptr i38 [0] (0 + 0 * 36)) := arrN_addr (j := 0) T_ar6_api_Update rfl T_api_Update rfl (by decide)
                refine wv_of ad6 ?_
                refine wv_of (arrN_get (c := r0.av) T_api_Update (RowL.own (i := 1) s121 rfl) (uni_upds hLok) (map_upds L (by rw [hL]; rfl)) (UpdM.fits ok0)) ?_
                refine wv_of ad ?_
                refine wv_of (ldu (q := 0) s121 rfl) ?_
                refine buildV (T := T) (ts := t_sl_api_Update) (e := t_api_Update) (si := ti_sl_api_Update) (ie := ti_api_Update) T_sl_api_Update rfl T_api_Update (by decide) s121 (UpdM.sz ok0) (by decide) fun v126 G127 s127 => ?_
                refine update_Next.useA (mine := []) (.inr ⟨rfl, rfl⟩) (by simp) (by simp) huo (.inr (.inl huv)) fun G129 c129 => ?_
                have s129 := s127.tmp c129
                have hna : nextA [] u = 120 := by
                  unfold nextA
                  rw [if_neg (by simp), huv, if_pos rfl]
                rw [hna, nz0, wv_some, brB_false, vbin_add, wv_some, i64_in (by omega) (by omega)]
                exact ih2 (j + 1) _ (by omega) (by omega) (s129.erase 0)
            exact loop2 12 0 _ rfl (by omega) s102
          | succ k ih =>
            intro j G' hj hj6 sp
            have hjL : j < L.length := by rw [hL]; simp; omega
            obtain ⟨u, hu⟩ : ∃ u, L[j]? = some u := ⟨_, List.getElem?_eq_getElem hjL⟩
            have huo := hLok u (List.mem_of_getElem? hu)
            have huv := hLv u (List.mem_of_getElem? hu)
            refine hR47 _ _ _ _ _ _ _ ?_
            rw [vbin_lss, wv_some, decide_eq_true (by omega), brB_true]
            have ad : viaddr T t_ar6_api_Update (.ptr i38 [] 0) (.int .i64 (j : Int)) = some (.ptr i38 [j] (0 + j * 36)) := arrN_addr T_ar6_api_Update rfl T_api_Update rfl (by omega)
            have adi : viaddr T t_ar6_int (.ptr i44 [] 0) (.int .i64 (j : Int)) = some (.ptr i44 [j] (0 + j * 1)) := arrN_addr T_ar6_int rfl T_int rfl (by omega)
            have ldu : ∀ {ps : List LP} {q : Nat} {G' : Heap}, Sp [] G ps G' → ps[q]? = some (RowL i38 (.agg (L.map UpdM.av))) → vload T G' t_api_Update (.ptr i38 [j] (0 + j * 36)) = some u.av := fun sp hq => arrN_get T_api_Update (RowL.own sp hq) (uni_upds hLok) (map_upds L hu) (UpdM.fits huo)
            refine wv_of ad ?_
            refine wv_of (ldu (q := 1) sp rfl) ?_
            refine update_Write.use huo fun G59 c59 => ?_
            have s59 := sp.tmp c59
            rw [writeR_ok huv, vext0, wv_some, vext1, wv_some, nz0, wv_some, brB_false]
            show wv (some (.int .i64 ((bytesU u).length : Nat))) _
            rw [wv_some]
            refine wv_of adi ?_
            refine wv_of (arrN_get (c := .int .i64 ((bytesU u).length : Nat)) T_int (RowL.own (i := 0) s59 rfl) zsu (by rw [← hLZ, List.getElem?_map, List.getElem?_map, hu]; rfl) rfl) ?_
            rw [nz0, wv_some, brB_false]
            refine wv_of ad ?_
            refine wv_of (ldu (q := 1) s59 rfl) ?_
            refine update_Valid.use huo fun G70 c70 => ?_
            have s70 := s59.tmp c70
            rw [huv, vun_not, wv_some, Bool.not_true, brB_false, vbin_add, wv_some, i64_in (by omega) (by omega)]
            exact ih (j + 1) _ (by omega) (by omega) s70
        exact loop 6 0 _ rfl (by omega) s46
      have loop0 : ∀ (k : Nat) (long : List UInt8), long.length + k = 65 → R [.str nt, .ptr i1 [] 0, .int .i64 more, .str long] G4 := by
        intro k
        induction k with
        | zero => intro long hl; exact fin long (by omega)
        | succ k ih =>
          intro long hl
          refine hR _ _ _ _ _ ?_
          show wv (some (.int .i64 (long.length : Nat))) _
          rw [wv_some, vbin_lss, wv_some, decide_eq_true (by omega), brB_true, vbin_sadd _ _ (by simp; omega), wv_some]
          exact ih _ (by simp; omega)
      exact loop0 (64 - nt.length) (nt ++ [120]) (by simp; omega)
    rw [brB_dec]
    refine ⟨fun hlt => ?_, fun hge => h162 extra (by omega) heI⟩
    rw [vbin_add, i64_in (by have := heI.1; omega) (by omega), wv_some, vun_neg, i64_in (by have := heI.1; omega) (by have := heI.1; omega), wv_some]
    exact h162 _ (by omega) ⟨by have := heI.1; omega, by have := heI.1; omega⟩
  rw [brB_dec]
  refine ⟨fun hgt => ?_, fun hle => h163 note (by omega)⟩
  refine wv_of (str_take (by omega) (by omega)) ?_
  exact h163 _ (by rw [List.length_take]; exact Nat.min_le_left _ _)

end Go.Esc.M
