/- Own work. Chapter 16: MsgForms. -/
import Derived.Test.YthaockalmnlceaaLMs
set_option linter.unusedSimpArgs false
set_option linter.unusedVariables false
namespace Go.Esc.M
open Go Go.Esc

theorem map_msgs (l : List MsgM) {j : Nat} {m : MsgM} (h : l[j]? = some m) : (l.map MsgM.av)[j]? = some m.av := by rw [List.getElem?_map, h]; rfl
theorem uni_strs (l : List (List UInt8)) : uni 1 (l.map AVal.str) = true := by simp [uni, sz]
theorem okvs_strs : ∀ l : List (List UInt8), okvs (l.map AVal.str) = true
  | [] => rfl
  | b :: l => by simp [okvs, okv, okvs_strs l]
theorem fits_str (s : List UInt8) : vfits ti_string (.str s) = true := rfl

/-- What a kind from 4 on does not name. -/
def badM (m : MsgM) (note : List UInt8) (out : Int) : List MsgM := [{ m with id := 1 }, { m with amount := -1 }, { m with note := 120 :: note }, { m with index := out }, { m with next := out }]
theorem badM_ok {m : MsgM} (h : m.ok) {note : List UInt8} (hn : note.length < 9223372036854775807) {out : Int} (ho : I64 out) : ∀ x ∈ badM m note out, x.ok := by
  intro x hx
  simp only [badM, List.mem_cons, List.not_mem_nil, or_false] at hx
  rcases hx with rfl | rfl | rfl | rfl | rfl
  · exact ⟨h.kind, i64_lit (n := 1) (by decide), h.amount, h.index, h.next, h.hash, h.secret, h.note⟩
  · exact ⟨h.kind, h.id, i64_lit (n := -1) (by decide), h.index, h.next, h.hash, h.secret, h.note⟩
  · exact ⟨h.kind, h.id, h.amount, h.index, h.next, h.hash, h.secret, by simp; omega⟩
  · exact ⟨h.kind, h.id, h.amount, ho, h.next, h.hash, h.secret, h.note⟩
  · exact ⟨h.kind, h.id, h.amount, h.index, ho, h.hash, h.secret, h.note⟩
theorem badM_no {m : MsgM} (hk : 4 ≤ m.kind ∧ m.kind ≤ 7) {note : List UInt8} {out : Int} (ho : rightI out = false) : ∀ x ∈ badM m note out, validM x = false := by
  intro x hx
  refine Bool.eq_false_iff.2 fun hv => ?_
  simp only [badM, List.mem_cons, List.not_mem_nil, or_false] at hx
  rcases hx with rfl | rfl | rfl | rfl | rfl <;> obtain ⟨a, b, c, d, e⟩ := valid_fields (by exact hk) hv
  · cases a
  · cases b
  · cases c
  · rw [ho] at d; cases d
  · rw [ho] at e; cases e

theorem arr5_fits {l : List MsgM} (h : ∀ m ∈ l, m.ok) (hl : l.length = 5) : vfits ti_ar5_api_Message (.agg (l.map MsgM.av)) = true := by
  have h1 : szs (l.map MsgM.av) = 350 := by rw [szs_uni (uni_msgs h)]; simp [hl]
  simp [vfits, sz, h1, ti_ar5_api_Message, AVal.isAgg, ADesc.isAgg]
theorem arr4_fits {l : List MsgM} (h : ∀ m ∈ l, m.ok) (hl : l.length = 4) : vfits ti_ar4_api_Message (.agg (l.map MsgM.av)) = true := by
  have h1 : szs (l.map MsgM.av) = 280 := by rw [szs_uni (uni_msgs h)]; simp [hl]
  simp [vfits, sz, h1, ti_ar4_api_Message, AVal.isAgg, ADesc.isAgg]

theorem rng (one : Int) : 0 ≤ one % 281474976710656 ∧ one % 281474976710656 < 281474976710656 := ⟨Int.emod_nonneg _ (by decide), Int.emod_lt_of_pos _ (by decide)⟩

set_option maxRecDepth 20000 in
set_option maxHeartbeats 4000000 in
theorem law_MsgForms {G : Heap} {one two h s note : AVal} {m1 m2 m3 m4 m5 : Nat} (h1 : wt T G reachBytes 4 t_int64 one m1) (h2 : wt T G reachBytes 4 t_int64 two m2) (h3 : wt T G reachBytes 4 t_api_Hash h m3) (h4 : wt T G reachBytes 4 t_api_Hash s m4) (h5 : wt T G reachBytes 4 t_string note m5) :
    ACalls P escrowlaw16_MsgForms.n [one, two, h, s, note] G fun v _ => v = .bool true := by
  obtain ⟨one, rfl, how, _⟩ := wt_int T_int64 rfl h1
  obtain ⟨two, rfl, htw, _⟩ := wt_int T_int64 rfl h2
  obtain ⟨h, rfl, hhl, _⟩ := wt_hash T_api_Hash rfl T_uint8 rfl h3
  obtain ⟨s, rfl, hsl, _⟩ := wt_hash T_api_Hash rfl T_uint8 rfl h4
  obtain ⟨note, rfl, hnR, _, _⟩ := wt_str T_string rfl h5
  have hoI := i64_wf.1 how
  have hnR : note.length ≤ 140737488351232 := hnR
  refine escrowlaw16_MsgForms.sound ?_
  unfold escrowlaw16_MsgForms.S
  intro i1 f1
  have s1 := (Sp.nil G).row f1 (.agg (h.map u8v))
  intro i3 f3
  have s3 := s1.row f3 (.agg (s.map u8v))
  refine escrowlaw16_head.use fun G6 c6 => ?_
  have s6 := s3.tmp c6
  rw [vun_not, wv_some, Bool.not_true, brB_false]
  refine escrowlaw16_index.use ?_
  refine escrowlaw16_index.use ?_
  obtain ⟨a, ha⟩ : ∃ a, a = one % 281474976710656 := ⟨_, rfl⟩
  obtain ⟨b, hb⟩ : ∃ b, b = two % 281474976710656 := ⟨_, rfl⟩
  have hra : 0 ≤ a ∧ a < 281474976710656 := by rw [ha]; exact rng one
  have hrb : 0 ≤ b ∧ b < 281474976710656 := by rw [hb]; exact rng two
  rw [← ha, ← hb]
  have haI : I64 a := ⟨by omega, by omega⟩
  have hbI : I64 b := ⟨by omega, by omega⟩
  have hri : ∀ x : Int, 0 ≤ x ∧ x < 281474976710656 → rightI x = true := fun x hx => by
    unfold rightI maxIndex
    rw [decide_eq_true hx.1, decide_eq_true (show x ≤ 281474976710655 by omega)]
    rfl
  have zh : sz (.agg (h.map u8v)) = 32 := sz_hash hhl
  have zs' : sz (.agg (s.map u8v)) = 32 := sz_hash hsl
  have z0 : sz (.agg (h0.map u8v)) = 32 := rfl
  obtain ⟨m0, hm0⟩ : ∃ m : MsgM, m = ⟨4, 0, 0, a, 0, h, h0, []⟩ := ⟨_, rfl⟩
  obtain ⟨m1, hm1⟩ : ∃ m : MsgM, m = ⟨5, 0, 0, a, 0, h, s, []⟩ := ⟨_, rfl⟩
  obtain ⟨m2, hm2⟩ : ∃ m : MsgM, m = ⟨6, 0, 0, a, b, h0, s, []⟩ := ⟨_, rfl⟩
  obtain ⟨m3, hm3⟩ : ∃ m : MsgM, m = ⟨7, 0, 0, b, 0, h0, h0, []⟩ := ⟨_, rfl⟩
  have i64l : ∀ n : Int, 4 ≤ n ∧ n ≤ 7 → I64 n := fun n h => ⟨by omega, by omega⟩
  have ok0 : m0.ok := by rw [hm0]; exact ⟨i64l 4 (by decide), i64_0, i64_0, haI, i64_0, hhl, rfl, by simp⟩
  have ok1 : m1.ok := by rw [hm1]; exact ⟨i64l 5 (by decide), i64_0, i64_0, haI, i64_0, hhl, hsl, by simp⟩
  have ok2 : m2.ok := by rw [hm2]; exact ⟨i64l 6 (by decide), i64_0, i64_0, haI, hbI, rfl, hsl, by simp⟩
  have ok3 : m3.ok := by rw [hm3]; exact ⟨i64l 7 (by decide), i64_0, i64_0, hbI, i64_0, rfl, rfl, by simp⟩
  have vv : ∀ m : MsgM, ¬ isK m → namedM m = (m, true) → rightI m.index = true → rightI m.next = true → validM m = true := fun m a b c d => by
    unfold validM
    rw [if_neg a, decide_eq_true b, c, d]
    rfl
  have v0 : validM m0 = true := by rw [hm0]; exact vv _ (notK (m := ⟨4, 0, 0, a, 0, h, h0, []⟩) (by dsimp only; decide)) rfl (hri a hra) right0
  have v1 : validM m1 = true := by rw [hm1]; exact vv _ (notK (m := ⟨5, 0, 0, a, 0, h, s, []⟩) (by dsimp only; decide)) rfl (hri a hra) right0
  have v2 : validM m2 = true := by rw [hm2]; exact vv _ (notK (m := ⟨6, 0, 0, a, b, h0, s, []⟩) (by dsimp only; decide)) rfl (hri a hra) (hri b hrb)
  have v3 : validM m3 = true := by rw [hm3]; exact vv _ (notK (m := ⟨7, 0, 0, b, 0, h0, h0, []⟩) (by dsimp only; decide)) rfl (hri b hrb) right0
  have k0 : 4 ≤ m0.kind ∧ m0.kind ≤ 7 := by rw [hm0]; dsimp only; decide
  have k1 : 4 ≤ m1.kind ∧ m1.kind ≤ 7 := by rw [hm1]; dsimp only; decide
  have k2 : 4 ≤ m2.kind ∧ m2.kind ≤ 7 := by rw [hm2]; dsimp only; decide
  have k3 : 4 ≤ m3.kind ∧ m3.kind ≤ 7 := by rw [hm3]; dsimp only; decide
  have b0 : bytesM m0 = [4] ++ be 8 (bits64 a) ++ h := by rw [hm0]; show be 1 4 ++ (be 8 (bits64 a) ++ h) = _; rw [← List.append_assoc]; rfl
  have b1 : bytesM m1 = [5] ++ be 8 (bits64 a) ++ s ++ h := by rw [hm1]; show be 1 5 ++ (be 8 (bits64 a) ++ (s ++ h)) = _; rw [← List.append_assoc, ← List.append_assoc]; rfl
  have b2 : bytesM m2 = [6] ++ be 8 (bits64 a) ++ be 8 (bits64 b) ++ s := by rw [hm2]; show be 1 6 ++ (be 8 (bits64 a) ++ (be 8 (bits64 b) ++ s)) = _; rw [← List.append_assoc, ← List.append_assoc]; rfl
  have b3 : bytesM m3 = [7] ++ be 8 (bits64 b) := by rw [hm3]; show be 1 7 ++ (be 8 (bits64 b) ++ []) = _; rw [List.append_nil]; rfl
  refine wv_of (load_hash hhl (RowL.own (i := 1) s6 rfl)) ?_
  refine wv_of (v := m0.av) ((build_msgs zcs (by simp [MsgM.zero, msg_cs, sz, zh, z0, szh hhl, szh h0_len])).trans (by rw [hm0]; rfl)) ?_
  refine wv_of (load_hash hsl (RowL.own (i := 0) s6 rfl)) ?_
  refine wv_of (load_hash hhl (RowL.own (i := 1) s6 rfl)) ?_
  refine wv_of (v := m1.av) ((build_msgs zcs (by simp [MsgM.zero, msg_cs, sz, szh hhl, szh hsl, szh h0_len])).trans (by rw [hm1]; rfl)) ?_
  refine wv_of (load_hash hsl (RowL.own (i := 0) s6 rfl)) ?_
  refine wv_of (v := m2.av) ((build_msgs zcs (by simp [MsgM.zero, msg_cs, sz, szh hhl, szh hsl, szh h0_len])).trans (by rw [hm2]; rfl)) ?_
  refine wv_of (v := m3.av) ((build_msgs zcs (by simp [MsgM.zero, msg_cs, sz])).trans (by rw [hm3]; rfl)) ?_
  obtain ⟨L, hL⟩ : ∃ L, L = [m0, m1, m2, m3] := ⟨_, rfl⟩
  have hLok : ∀ m ∈ L, m.ok := by rw [hL]; simp; exact ⟨ok0, ok1, ok2, ok3⟩
  have hz4 : z_ar4_api_Message = .agg ([MsgM.zero, MsgM.zero, MsgM.zero, MsgM.zero].map MsgM.av) := rfl
  have hz5 : z_ar5_api_Message = .agg ([MsgM.zero, MsgM.zero, MsgM.zero, MsgM.zero, MsgM.zero].map MsgM.av) := rfl
  have hzw : z_ar4_string = .agg ([[], [], [], []].map AVal.str) := rfl
  have z4ok : ∀ m ∈ [MsgM.zero, MsgM.zero, MsgM.zero, MsgM.zero], m.ok := by simp [MsgM.zero_ok]
  have z5ok : ∀ m ∈ [MsgM.zero, MsgM.zero, MsgM.zero, MsgM.zero, MsgM.zero], m.ok := by simp [MsgM.zero_ok]
  refine wv_of (v := .agg (L.map MsgM.av)) ((build_array T_ar4_api_Message rfl T_api_Message hz4 (uni_msgs z4ok) (by simp [MsgM.sz MsgM.zero_ok, MsgM.sz ok0, MsgM.sz ok1, MsgM.sz ok2, MsgM.sz ok3])).trans (by rw [hL]; rfl)) ?_
  intro i21 f21
  rw [hz4]
  have s21 := s6.row f21 (.agg ([MsgM.zero, MsgM.zero, MsgM.zero, MsgM.zero].map MsgM.av))
  refine wg_of (whole_store T_ar4_api_Message (RowL.own (i := 0) s21 rfl) (arr4_fits hLok (by rw [hL]; rfl)) (by rw [sz, sz, szs_uni (uni_msgs z4ok), szs_uni (uni_msgs hLok), hL]; rfl) (by rw [okv]; exact okvs_msgs _)) ?_
  have s23 := Sp.setRow (j := 0) s21 rfl (.agg (L.map MsgM.av))
  have s23 : Sp [] G [RowL i21 (.agg (L.map MsgM.av)), RowL i3 (.agg (s.map u8v)), RowL i1 (.agg (h.map u8v))] _ := s23
  revert s23
  generalize Heap.upd _ i21 (.own (.agg (L.map MsgM.av))) = G23
  intro s23
  have cv1 : ∀ G', Sp [] G [RowL i21 (.agg (L.map MsgM.av)), RowL i3 (.agg (s.map u8v)), RowL i1 (.agg (h.map u8v))] G' → vconv T G' t_sl_uint8 t_string (.slice i1 [] 0 0 32 32) = some (.str h) := fun G' s => conv_bytes T_sl_uint8 rfl T_uint8 rfl T_string rfl (row_is (RowL.own (i := 2) s rfl) hhl)
  have cv3 : ∀ G', Sp [] G [RowL i21 (.agg (L.map MsgM.av)), RowL i3 (.agg (s.map u8v)), RowL i1 (.agg (h.map u8v))] G' → vconv T G' t_sl_uint8 t_string (.slice i3 [] 0 0 32 32) = some (.str s) := fun G' sp => conv_bytes T_sl_uint8 rfl T_uint8 rfl T_string rfl (row_is (RowL.own (i := 1) sp rfl) hsl)
  refine wv_of vslice_hash ?_
  refine wv_of (cv1 _ s23) ?_
  refine wv_of vslice_hash ?_
  refine wv_of (cv3 _ s23) ?_
  refine wv_of vslice_hash ?_
  refine wv_of (cv1 _ s23) ?_
  refine wv_of vslice_hash ?_
  refine wv_of (cv3 _ s23) ?_
  refine escrowlaw16_number.use fun G33 c33 => ?_
  have s33 := s23.tmp c33
  refine ⟨⟨cv3 _ s33, cv1 _ s33, cv3 _ s33, cv1 _ s33, trivial⟩, ?_⟩
  rw [vbin_sadd _ _ (by simp [length_be]), wv_some, vbin_sadd _ _ (by simp [length_be, hhl]), wv_some]
  refine escrowlaw16_number.use fun G37 c37 => ?_
  have s37 := s33.tmp c37
  refine ⟨⟨cv3 _ s37, cv1 _ s37, cv3 _ s37, cv1 _ s37, trivial⟩, ?_⟩
  rw [vbin_sadd _ _ (by simp [length_be]), wv_some, vbin_sadd _ _ (by simp [length_be, hsl]), wv_some, vbin_sadd _ _ (by simp [length_be, hsl, hhl]), wv_some]
  refine escrowlaw16_number.use fun G42 c42 => ?_
  have s42 := s37.tmp c42
  refine ⟨⟨cv3 _ s42, cv1 _ s42, cv3 _ s42, cv1 _ s42, trivial⟩, ?_⟩
  rw [vbin_sadd _ _ (by simp [length_be]), wv_some]
  refine escrowlaw16_number.use fun G45 c45 => ?_
  have s45 := s42.tmp c45
  refine ⟨⟨cv3 _ s45, cv1 _ s45, cv3 _ s45, cv1 _ s45, trivial⟩, ?_⟩
  rw [vbin_sadd _ _ (by simp [length_be]), wv_some, vbin_sadd _ _ (by simp [length_be, hsl]), wv_some]
  refine escrowlaw16_number.use fun G49 c49 => ?_
  have s49 := s45.tmp c49
  refine ⟨⟨cv3 _ s49, cv1 _ s49, cv3 _ s49, cv1 _ s49, trivial⟩, ?_⟩
  rw [vbin_sadd _ _ (by simp [length_be]), wv_some]
  rw [← b0, ← b1, ← b2, ← b3]
  refine wv_of (v := .agg ((L.map bytesM).map AVal.str)) ((build_array T_ar4_string rfl T_string hzw (uni_strs _) (by simp [sz])).trans (by rw [hL]; rfl)) ?_
  intro i52 f52
  rw [hzw]
  have s52 := s49.row f52 (.agg ([[], [], [], []].map AVal.str))
  refine wg_of (whole_store T_ar4_string (RowL.own (i := 0) s52 rfl) (by rw [hL]; rfl) (by rw [hL]; rfl) (by rw [okv]; exact okvs_strs _)) ?_
  have s54 := Sp.setRow (j := 0) s52 rfl (.agg ((L.map bytesM).map AVal.str))
  have s54 : Sp [] G [RowL i52 (.agg ((L.map bytesM).map AVal.str)), RowL i21 (.agg (L.map MsgM.av)), RowL i3 (.agg (s.map u8v)), RowL i1 (.agg (h.map u8v))] _ := s54
  revert s54
  generalize Heap.upd _ i52 _ = G54
  intro s54
  refine wv_of (by rw [vbin_eql]) ?_
  intro J202
  have h202 : ∀ out : Int, I64 out → rightI out = false → J202 (.int .i64 out) G54 := by
    intro out hoI hor
    simp -zeta only [J202]
    intro R hR
    have loop : ∀ (k j : Nat) G', 4 - j = k → j ≤ 4 → Sp [] G [RowL i52 (.agg ((L.map bytesM).map AVal.str)), RowL i21 (.agg (L.map MsgM.av)), RowL i3 (.agg (s.map u8v)), RowL i1 (.agg (h.map u8v))] G' →
        R [.str note, .ptr i1 [] 0, .ptr i3 [] 0, .int .i64 a, .int .i64 b, .ptr i21 [] 0, .ptr i52 [] 0, .int .i64 out, .int .i64 (j : Int)] G' := by
      intro k
      induction k with
      | zero =>
        intro j G' hj hj4 sp
        refine hR _ _ _ _ _ _ _ _ _ _ ?_
        rw [vbin_lss, wv_some, decide_eq_false (by omega), brB_false]
        refine wv_of vslice_hash ?_
        refine wv_of (cv1 _ (sp.erase 0)) ?_
        refine escrowlaw16_number.use fun G159 c159 => ?_
        have s159 := sp.tmp c159
        refine ⟨⟨cv1 _ (s159.erase 0), trivial⟩, ?_⟩
        rw [vbin_sadd _ _ (by simp [length_be]), wv_some, vbin_sadd _ _ (by simp [length_be, hhl]), wv_some]
        have e0 : [4] ++ be 8 (bits64 out) ++ h = bytesM ⟨4, 0, 0, out, 0, h, h0, []⟩ := by show _ = be 1 4 ++ (be 8 (bits64 out) ++ h); rw [← List.append_assoc]; rfl
        have hx0 := readMS_none (m0 := ⟨4, 0, 0, out, 0, h, h0, []⟩) ⟨i64l 4 (by decide), i64_0, i64_0, hoI, i64_0, hhl, rfl, by simp⟩ (by dsimp only; decide) (.inl hor)
        rw [← e0] at hx0
        refine msg_Read.use' (by simp [length_be, hhl]) fun x G163 hx c163 => ?_
        have s163 := s159.tmp c163
        rw [readMS_only hx hx0, mi0, wv_some, mi1, wv_some]
        intro i166 f166
        have s166 := s163.row f166 MsgM.zero.av
        refine msg_store (i := 0) s166 rfl MsgM.zero_ok MsgM.zero_ok fun G168 s168 => ?_
        refine wv_of vslice_hash ?_
        refine wv_of (cv3 _ ((s168.erase 0).erase 0)) ?_
        refine escrowlaw16_number.use fun G172 c172 => ?_
        have s172 := s168.tmp c172
        refine ⟨⟨cv3 _ ((s172.erase 0).erase 0), trivial⟩, ?_⟩
        rw [vbin_sadd _ _ (by simp [length_be]), wv_some]
        refine escrowlaw16_number.use fun G175 c175 => ?_
        have s175 := s172.tmp c175
        refine ⟨⟨cv3 _ ((s175.erase 0).erase 0), trivial⟩, ?_⟩
        rw [vbin_sadd _ _ (by simp [length_be]), wv_some, vbin_sadd _ _ (by simp [length_be, hsl]), wv_some]
        have e2 : [6] ++ be 8 (bits64 a) ++ be 8 (bits64 out) ++ s = bytesM ⟨6, 0, 0, a, out, h0, s, []⟩ := by show _ = be 1 6 ++ (be 8 (bits64 a) ++ (be 8 (bits64 out) ++ s)); rw [← List.append_assoc, ← List.append_assoc]; rfl
        have hx2 := readMS_none (m0 := ⟨6, 0, 0, a, out, h0, s, []⟩) ⟨i64l 6 (by decide), i64_0, i64_0, haI, hoI, rfl, hsl, by simp⟩ (by dsimp only; decide) (.inr ⟨rfl, hor⟩)
        rw [← e2] at hx2
        refine msg_Read.use' (by simp [length_be, hsl]) fun x G179 hx c179 => ?_
        have s179 := s175.tmp c179
        rw [readMS_only hx hx2, mi0, wv_some, mi1, wv_some]
        intro i182 f182
        have s182 := s179.row f182 MsgM.zero.av
        refine msg_store (i := 0) s182 rfl MsgM.zero_ok MsgM.zero_ok fun G184 s184 => ?_
        refine escrowlaw16_number.use fun G186 c186 => ?_
        have s186 := s184.tmp c186
        rw [vbin_sadd _ _ (by simp [length_be]), wv_some, vbin_sadd _ _ (by simp [length_be]), wv_some, vbin_sadd _ _ (by simp [length_be]; omega), wv_some]
        have hx3 := readMS_more (r := 120 :: note) ok3 v3 (by simp)
        rw [b3] at hx3
        have e3 : [7] ++ be 8 (bits64 b) ++ [120] ++ note = [7] ++ be 8 (bits64 b) ++ 120 :: note := by simp
        rw [e3]
        refine msg_Read.use' (by simp [length_be]; omega) fun x G191 hx c191 => ?_
        have s191 := s186.tmp c191
        rw [readMS_only hx hx3, mi0, wv_some, mi1, wv_some]
        intro i194 f194
        have s194 := s191.row f194 MsgM.zero.av
        refine msg_store (i := 0) s194 rfl MsgM.zero_ok MsgM.zero_ok fun G196 s196 => ?_
        refine wv_of (v := .bool true) rfl ?_
        rw [brB_true]
        refine wv_of (v := .bool true) rfl ?_
        rw [brB_true]
        refine wv_of (v := .bool true) rfl ?_
        trivial
      | succ k ih =>
        intro j G' hj hj4 sp
        have hj4' : j < L.length := by rw [hL]; simp; omega
        obtain ⟨m, hm⟩ : ∃ m, L[j]? = some m := ⟨_, List.getElem?_eq_getElem hj4'⟩
        have hmL : m ∈ L := List.mem_of_getElem? hm
        have hmo := hLok m hmL
        have hmm : validM m = true ∧ (4 ≤ m.kind ∧ m.kind ≤ 7) := by
          rw [hL] at hmL
          simp only [List.mem_cons, List.not_mem_nil, or_false] at hmL
          rcases hmL with rfl | rfl | rfl | rfl
          · exact ⟨v0, k0⟩
          · exact ⟨v1, k1⟩
          · exact ⟨v2, k2⟩
          · exact ⟨v3, k3⟩
        obtain ⟨hmv, hmk⟩ := hmm
        have hbl := bytesM_len hmo hmv
        refine hR _ _ _ _ _ _ _ _ _ _ ?_
        rw [vbin_lss, wv_some, decide_eq_true (by omega), brB_true]
        have ad : ∀ i, viaddr T t_ar4_api_Message (.ptr i [] 0) (.int .i64 (j : Int)) = some (.ptr i [j] (0 + j * 70)) := fun i => arrN_addr T_ar4_api_Message rfl T_api_Message rfl (by omega)
        have ads : ∀ i, viaddr T t_ar4_string (.ptr i [] 0) (.int .i64 (j : Int)) = some (.ptr i [j] (0 + j * 1)) := fun i => arrN_addr T_ar4_string rfl T_string rfl (by omega)
        have ld : ∀ {ps : List LP} {q : Nat} {G' : Heap}, Sp [] G ps G' → ps[q]? = some (RowL i21 (.agg (L.map MsgM.av))) → vload T G' t_api_Message (.ptr i21 [j] (0 + j * 70)) = some m.av := fun sp hq => arrN_get T_api_Message (RowL.own sp hq) (uni_msgs hLok) (map_msgs L hm) (MsgM.fits hmo)
        have lds : ∀ {ps : List LP} {q : Nat} {G' : Heap}, Sp [] G ps G' → ps[q]? = some (RowL i52 (.agg ((L.map bytesM).map AVal.str))) → vload T G' t_string (.ptr i52 [j] (0 + j * 1)) = some (.str (bytesM m)) := fun sp hq => arrN_get T_string (RowL.own sp hq) (uni_strs _) (by rw [List.getElem?_map, List.getElem?_map, hm]; rfl) (fits_str _)
        refine wv_of (ad i21) ?_
        refine wv_of (ld (q := 1) sp rfl) ?_
        refine msg_Write.use hmo fun G74 c74 => ?_
        have s74 := sp.tmp c74
        rw [writeM_ok hmv, vext0, wv_some, vext1, wv_some]
        refine wv_of (ads i52) ?_
        refine wv_of (lds (q := 0) s74 rfl) ?_
        refine msg_Read.use' (by omega) fun x G80 hx c80 => ?_
        have s80 := s74.tmp c80
        rw [readMS_only hx (readMS_bytes hmo hmv), mi0, wv_some, mi1, wv_some]
        intro i83 f83
        have s83 := s80.row f83 MsgM.zero.av
        refine msg_store (i := 0) s83 rfl MsgM.zero_ok hmo fun G85 s85 => ?_
        have s85 : Sp [] G [RowL i83 m.av, RowL i52 (.agg ((L.map bytesM).map AVal.str)), RowL i21 (.agg (L.map MsgM.av)), RowL i3 (.agg (s.map u8v)), RowL i1 (.agg (h.map u8v))] G85 := s85
        intro J154
        have h154 : J154 (.bool false) G85 := by
          simp -zeta only [J154, brB_false]
          refine wv_of (ad i21) ?_
          refine wv_of (ld (q := 2) s85 rfl) ?_
          refine wv_of (ad i21) ?_
          refine wv_of (ld (q := 2) s85 rfl) ?_
          refine wv_of (ad i21) ?_
          refine wv_of (ld (q := 2) s85 rfl) ?_
          refine wv_of (ad i21) ?_
          refine wv_of (ld (q := 2) s85 rfl) ?_
          refine wv_of (ad i21) ?_
          refine wv_of (ld (q := 2) s85 rfl) ?_
          refine wv_of (v := .agg ([m, m, m, m, m].map MsgM.av)) ((build_array T_ar5_api_Message rfl T_api_Message hz5 (uni_msgs z5ok) (by simp [MsgM.sz MsgM.zero_ok, MsgM.sz hmo])).trans rfl) ?_
          intro i108 f108
          rw [hz5]
          have s108 := s85.row f108 (.agg ([MsgM.zero, MsgM.zero, MsgM.zero, MsgM.zero, MsgM.zero].map MsgM.av))
          have m5ok : ∀ x ∈ [m, m, m, m, m], x.ok := by simp [hmo]
          refine wg_of (whole_store T_ar5_api_Message (RowL.own (i := 0) s108 rfl) (arr5_fits m5ok rfl) (by rw [sz, sz, szs_uni (uni_msgs z5ok), szs_uni (uni_msgs m5ok)]; rfl) (by rw [okv]; exact okvs_msgs _)) ?_
          have s110 := Sp.setRow (j := 0) s108 rfl (.agg ([m, m, m, m, m].map MsgM.av))
          have hok := badM_ok hmo (note := note) (by omega) hoI
          have hbad := badM_no hmk (note := note) hor
          have hB1 : ({ m with id := 1 } : MsgM).ok := hok _ (by simp [badM])
          have hB2 : ({ m with amount := -1 } : MsgM).ok := hok _ (by simp [badM])
          have hB3 : ({ m with note := 120 :: note } : MsgM).ok := hok _ (by simp [badM])
          have hB4 : ({ m with index := out } : MsgM).ok := hok _ (by simp [badM])
          have hs5 : szs (m.cs.take 7) = 69 := by simp [MsgM.cs, szs, Esc.sz, szh hmo.hash, szh hmo.secret]
          have ad5 : ∀ {jj : Nat} {mm : Int}, mm = (jj : Int) → jj < 5 → viaddr T t_ar5_api_Message (.ptr i108 [] 0) (.int .i64 mm) = some (.ptr i108 [jj] (0 + jj * 70)) := fun e h => arrN_addr T_ar5_api_Message rfl T_api_Message e h
          have fa : ∀ {jj f o : Nat} {tf : TypeId} {fi : TI}, [(t_int, 0), (t_int64, 1), (t_int64, 2), (t_int64, 3), (t_int64, 4), (t_api_Hash, 5), (t_api_Hash, 37), (t_string, 69)][f]? = some (tf, o) → T tf = some fi → fi.size ≠ 0 → vfaddr T t_api_Message (.ptr i108 [jj] (0 + jj * 70)) f = some (.ptr i108 ([jj] ++ [f]) (0 + jj * 70 + o)) := fun a b c => fld_addr T_api_Message rfl a b c
          refine wv_of (ad5 (jj := 0) rfl (by decide)) ?_
          refine wv_of (fa (f := 1) rfl T_int64 (by decide)) ?_
          refine msgs_setf (p := 0) (m := m) (m' := { m with id := 1 }) (x := .int .i64 1) (u := .int .i64 m.id) s110 rfl m5ok rfl rfl rfl rfl T_int64 rfl rfl rfl fun G113 s113 => ?_
          refine wv_of (ad5 (jj := 1) rfl (by decide)) ?_
          refine wv_of (fa (f := 2) rfl T_int64 (by decide)) ?_
          refine msgs_setf (p := 0) (l := [{ m with id := 1 }, m, m, m, m]) (m := m) (m' := { m with amount := -1 }) (x := .int .i64 (-1)) (u := .int .i64 m.amount) s113 rfl (by simp [hmo, hB1]) rfl rfl rfl rfl T_int64 rfl rfl rfl fun G116 s116 => ?_
          refine wv_of (vbin_sadd _ _ (by simp; omega)) ?_
          refine wv_of (ad5 (jj := 2) rfl (by decide)) ?_
          refine wv_of (fa (f := 7) rfl T_string (by decide)) ?_
          refine msgs_setf (p := 0) (l := [{ m with id := 1 }, { m with amount := -1 }, m, m, m]) (m := m) (m' := { m with note := 120 :: note }) (x := .str ([120] ++ note)) (u := .str m.note) s116 rfl (by simp [hmo, hB1, hB2]) rfl rfl hs5 rfl T_string rfl rfl rfl fun G120 s120 => ?_
          refine wv_of (ad5 (jj := 3) rfl (by decide)) ?_
          refine wv_of (fa (f := 3) rfl T_int64 (by decide)) ?_
          refine msgs_setf (p := 0) (l := [{ m with id := 1 }, { m with amount := -1 }, { m with note := 120 :: note }, m, m]) (m := m) (m' := { m with index := out }) (x := .int .i64 out) (u := .int .i64 m.index) s120 rfl (by simp [hmo, hB1, hB2, hB3]) rfl rfl rfl rfl T_int64 rfl rfl rfl fun G123 s123 => ?_
          refine wv_of (ad5 (jj := 4) rfl (by decide)) ?_
          refine wv_of (fa (f := 4) rfl T_int64 (by decide)) ?_
          refine msgs_setf (p := 0) (l := [{ m with id := 1 }, { m with amount := -1 }, { m with note := 120 :: note }, { m with index := out }, m]) (m := m) (m' := { m with next := out }) (x := .int .i64 out) (u := .int .i64 m.next) s123 rfl (by simp [hmo, hB1, hB2, hB3, hB4]) rfl rfl rfl rfl T_int64 rfl rfl rfl fun G126 s126 => ?_
          have s126 : Sp [] G [RowL i108 (.agg ((badM m note out).map MsgM.av)), RowL i83 m.av, RowL i52 (.agg ((L.map bytesM).map AVal.str)), RowL i21 (.agg (L.map MsgM.av)), RowL i3 (.agg (s.map u8v)), RowL i1 (.agg (h.map u8v))] G126 := s126
          intro R2 hR2
          have loop2 : ∀ (k2 j2 : Nat) G', 5 - j2 = k2 → j2 ≤ 5 → Sp [] G [RowL i108 (.agg ((badM m note out).map MsgM.av)), RowL i83 m.av, RowL i52 (.agg ((L.map bytesM).map AVal.str)), RowL i21 (.agg (L.map MsgM.av)), RowL i3 (.agg (s.map u8v)), RowL i1 (.agg (h.map u8v))] G' →
              R2 [.str note, .ptr i1 [] 0, .ptr i3 [] 0, .int .i64 a, .int .i64 b, .ptr i21 [] 0, .ptr i52 [] 0, .int .i64 out, .int .i64 (j : Int), .ptr i108 [] 0, .int .i64 (j2 : Int)] G' := by
            intro k2
            induction k2 with
            | zero =>
              intro j2 G' h2 h25 sp
              refine hR2 _ _ _ _ _ _ _ _ _ _ _ _ ?_
              rw [vbin_lss, wv_some, decide_eq_false (by omega), brB_false, vbin_add, wv_some, i64_in (by omega) (by omega)]
              exact ih (j + 1) _ (by omega) (by omega) ((sp.erase 0).erase 0)
            | succ k2 ih2 =>
              intro j2 G' h2 h25 sp
              have hj2 : j2 < (badM m note out).length := by simp [badM]; omega
              obtain ⟨x, hx⟩ : ∃ x, (badM m note out)[j2]? = some x := ⟨_, List.getElem?_eq_getElem hj2⟩
              have hxm := List.mem_of_getElem? hx
              have hxo := hok x hxm
              refine hR2 _ _ _ _ _ _ _ _ _ _ _ _ ?_
              rw [vbin_lss, wv_some, decide_eq_true (by omega), brB_true]
              refine wv_of (ad5 (jj := j2) rfl (by omega)) ?_
              refine wv_of (arrN_get T_api_Message (RowL.own (i := 0) sp rfl) (uni_msgs hok) (map_msgs _ hx) (MsgM.fits hxo)) ?_
              refine msg_Write.use hxo fun G144 c144 => ?_
              have s144 := sp.tmp c144
              rw [writeM_no (hbad x hxm), vext0, wv_some, vext1, wv_some, nz0, wv_some, brB_false, vbin_sneq, wv_some, decide_eq_true rfl, Bool.not_true, brB_false, vbin_add, wv_some, i64_in (by omega) (by omega)]
              exact ih2 (j2 + 1) _ (by omega) (by omega) s144
          exact loop2 5 0 _ rfl (by omega) s126
        refine wv_of (ads i52) ?_
        refine wv_of (lds (q := 1) s85 rfl) ?_
        rw [vbin_sneq, wv_some, decide_eq_true rfl, Bool.not_true, brB_false, nz0, wv_some, brB_false]
        refine wv_of (msg_load (i := 0) s85 rfl hmo).2.2.2.2.2.2.2.2 ?_
        refine wv_of (ad i21) ?_
        refine wv_of (ld (q := 2) s85 rfl) ?_
        rw [vbin_mneq hmo hmo, wv_some, decide_eq_true rfl, Bool.not_true, brB_false]
        first
          | (rw [wv_some]; exact h154)
          | (rw [nz0, wv_some]; exact h154)
    exact loop 4 0 _ rfl (by omega) s54
  rw [brB_dec]
  refine ⟨fun e => ?_, fun e => ?_⟩
  · rw [vbin_sub, i64_in (by omega) (by omega), wv_some]
    refine h202 _ ⟨by omega, by omega⟩ ?_
    unfold rightI
    rw [decide_eq_false (by omega), Bool.false_and]
  · refine h202 one hoI ?_
    unfold rightI maxIndex
    rw [Bool.and_eq_false_iff, decide_eq_false_iff_not, decide_eq_false_iff_not]
    omega

end Go.Esc.M
