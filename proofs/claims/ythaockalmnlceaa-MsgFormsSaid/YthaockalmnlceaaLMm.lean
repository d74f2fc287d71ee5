import Derived.Test.YthaockalmnlceaaLMi
/- Own work. Chapter 16: messages read, in the document, walked. -/
set_option linter.unusedSimpArgs false
set_option linter.unusedVariables false
namespace Go.Esc.M
open Go Go.Esc

section
variable {F0 : List AId} {G0 G : Heap} {ps : List LP} {Q : AVal → Heap → Prop}

set_option maxHeartbeats 2000000 in
theorem escrowref16_Read.use {b : List UInt8} (hbl : b.length ≤ 9223372036854775807)
    (hok : ∀ m : MsgM, m.ok → validM m = true → b = bytesM m → ∀ G', Ch [] G [] G' → Q (tupMI (m, 0)) G')
    (hno : (∀ m : MsgM, m.ok → validM m = true → b ≠ bytesM m) → ∀ G', Ch [] G [] G' → Q (tupMI (MsgM.zero, 160)) G') : ACalls P escrowref16_Read.n [.str b] G Q := by
  refine escrowref16_Read.sound ?_
  unfold escrowref16_Read.S
  rw [zMsg, zUpd]
  intro i1 f1
  have s1 := (Sp.nil G).row f1 MsgM.zero.av
  have none' : ∀ (G' : Heap) (ps : List LP) (i : Nat), ps[i]? = some (RowL i1 MsgM.zero.av) → Sp [] G ps G' → (∀ m : MsgM, m.ok → validM m = true → b ≠ bytesM m) →
      wv (vbuild T t_api_Message []) fun v4 => wg (vstore T G' t_api_Message (.ptr i1 [] 0) v4) fun G5 => wv (vload T G5 t_api_Message (.ptr i1 [] 0)) fun v6 => Q (.tuple [v6, .int .i64 160]) G5 := by
    intro G' ps i hi hs hall
    rw [build_none_m, wv_some]
    refine msg_store hs hi MsgM.zero_ok MsgM.zero_ok fun G5 s5 => ?_
    have hlt : i < ps.length := (List.getElem?_eq_some_iff.1 hi).1
    refine wv_of (msg_load (i := i) s5 (List.getElem?_set_self hlt) MsgM.zero_ok).2.2.2.2.2.2.2.2 ?_
    exact hno hall _ s5.ch
  rw [vbin_seql, wv_some, brB_dec]
  refine ⟨fun h => none' _ _ 0 rfl s1 fun m hm hv hb => (bytesM_kind hm hv).1 (by rw [← hb, h]), fun hb => ?_⟩
  have hn1 := num1_lt (b := b)
  rw [idx0 hb, wv_some, vconv_int T_uint8 T_int rfl, i64_in (by omega) (by omega), wv_some]
  obtain ⟨k, hk⟩ : ∃ k, k = ((num (slice b 0 1) : Nat) : Int) := ⟨_, rfl⟩
  rw [← hk, build_k, wv_some]
  intro i10 f10
  have s10 := s1.row f10 MsgM.zero.av
  have hkI : I64 k := i64_small (by omega) (by omega)
  have hn0 : (⟨k, 0, 0, 0, 0, h0, h0, []⟩ : MsgM).ok := ⟨hkI, i64_0, i64_0, i64_0, i64_0, rfl, rfl, by simp⟩
  refine msg_store (i := 0) s10 rfl MsgM.zero_ok hn0 fun G12 s12 => ?_
  have s12 : Sp [] G [RowL i10 (⟨k, 0, 0, 0, 0, h0, h0, []⟩ : MsgM).av, RowL i1 MsgM.zero.av] G12 := s12
  refine wv_of (msg_load (i := 0) s12 rfl hn0).1 ?_
  intro J97
  have h97 : ∀ G' (c : MsgM), Sp [] G [RowL i10 c.av, RowL i1 MsgM.zero.av] G' → c = candM b → ¬ (1 ≤ k ∧ k ≤ 3) → J97 G' := by
    intro G80 c hs hc hk3
    have hco : c.ok := by rw [hc]; exact candM_ok b
    simp -zeta only [J97]
    refine wv_of (msg_load (i := 0) hs rfl hco).2.2.2.2.2.2.2.2 ?_
    refine escrowref16_Write.use hco fun G83 c83 => ?_
    have s83 := hs.tmp c83
    rw [vext0, wv_some, vext1, wv_some]
    have hall : writeM c ≠ (b, 0) → ∀ m : MsgM, m.ok → validM m = true → b ≠ bytesM m := by
      intro hw m hm hv hbm
      have hkd := (bytesM_kind hm hv).2
      rw [← hbm, ← hk] at hkd
      have hik : ¬ isK m := by unfold isK; omega
      apply hw
      rw [hc, hbm, cand_bytes hm hv hik]
      unfold writeM
      rw [hv]
      rfl
    obtain ⟨W, hW⟩ : ∃ W, W = writeM c := ⟨_, rfl⟩
    rw [← hW] at hall ⊢
    intro J96
    have bad : W ≠ (b, 0) → J96 (.bool true) G83 := by
      intro hw
      simp -zeta only [J96, brB_true]
      exact none' _ _ 1 rfl s83 (hall hw)
    rw [vbin_neq, wv_some, brB_ndec]
    refine ⟨fun h => bad fun hh => h (by rw [hh]), fun h2 => ?_⟩
    rw [vbin_sneq, wv_some]
    by_cases h1 : W.1 = b
    · rw [decide_eq_true h1, Bool.not_true]
      have hv : validM c = true ∧ bytesM c = b := by
        unfold writeM at hW
        cases hv : validM c with
        | true =>
          rw [hv] at hW
          rw [hW] at h1
          exact ⟨rfl, h1⟩
        | false =>
          rw [hv] at hW
          rw [hW] at h2
          cases h2
      simp -zeta only [J96, brB_false]
      refine wv_of (msg_load (i := 0) s83 rfl hco).2.2.2.2.2.2.2.2 ?_
      refine msg_store (i := 1) s83 rfl MsgM.zero_ok hco fun G94 s94 => ?_
      refine wv_of (msg_load (i := 1) s94 rfl hco).2.2.2.2.2.2.2.2 ?_
      exact hok c hco hv.1 hv.2.symm _ s94.ch
    · rw [decide_eq_false h1, Bool.not_false]
      exact bad fun hh => h1 (by rw [hh])
  refine wv_of (v := .bool (decide (k = 1))) (by rw [vbin_eql]) ?_
  intro J79
  have up : 1 ≤ k ∧ k ≤ 3 → J79 (.bool true) G12 := by
    intro hk3
    obtain ⟨hr1, hr2⟩ := upd_read hbl (by omega)
    have hro := readU_ok hbl
    simp -zeta only [J79, brB_true]
    refine escrowref12_Read.use hbl fun G22 c22 => ?_
    have s22 := s12.tmp c22
    obtain ⟨r, hr⟩ : ∃ r, r = readU b := ⟨_, rfl⟩
    rw [← hr] at hr1 hr2 hro ⊢
    rw [tup0, wv_some, tup1, wv_some, tup2, wv_some]
    intro i26 f26
    have s26 := s22.row f26 UpdM.zero.av
    refine upd_store (i := 0) s26 rfl UpdM.zero_ok hro fun G28 s28 => ?_
    intro J42
    have bad : ¬ (r.2.2 = 0 ∧ r.2.1 = (b.length : Nat)) → J42 (.bool true) G28 := by
      intro h
      simp -zeta only [J42, brB_true]
      exact none' _ _ 2 rfl s28 (hr2 h)
    rw [vbin_neq, wv_some, brB_ndec]
    refine ⟨fun h => bad fun hh => h hh.1, fun h1 => ?_⟩
    show wv (some (.int .i64 (b.length : Nat))) _
    rw [wv_some, vbin_neq, wv_some]
    by_cases h2 : r.2.1 = ((b.length : Nat) : Int)
    · rw [decide_eq_true h2, Bool.not_true]
      obtain ⟨u, huo, huv, hru, hub⟩ := hr1 ⟨h1, h2⟩
      have hmo := msgOf_ok huo
      rw [hru] at s28
      simp -zeta only [J42, brB_false]
      refine wv_of (upd_load (i := 0) s28 rfl huo).2.2.2.2.2 ?_
      refine escrowref16_Of.use huo fun G39 c39 => ?_
      have s39 := s28.tmp c39
      refine msg_store (i := 2) s39 rfl MsgM.zero_ok hmo fun G40 s40 => ?_
      refine wv_of (msg_load (i := 2) s40 rfl hmo).2.2.2.2.2.2.2.2 ?_
      exact hok _ hmo (upd_valid huv).1 hub _ s40.ch
    · rw [decide_eq_false h2, Bool.not_false]
      exact bad fun hh => h2 hh.2
  have rest : ¬ (1 ≤ k ∧ k ≤ 3) → J79 (.bool false) G12 := by
    intro hk3
    have hcand : candM b = if k = 4 then ⟨k, 0, 0, numAt b 1, 0, hashAt b 9, h0, []⟩ else if k = 5 then ⟨k, 0, 0, numAt b 1, 0, hashAt b 41, hashAt b 9, []⟩
      else if k = 6 then ⟨k, 0, 0, numAt b 1, numAt b 9, h0, hashAt b 17, []⟩ else if k = 7 then ⟨k, 0, 0, numAt b 1, 0, h0, h0, []⟩ else ⟨k, 0, 0, 0, 0, h0, h0, []⟩ := by
      rw [hk]
      rfl
    have hi1 : (⟨k, 0, 0, numAt b 1, 0, h0, h0, []⟩ : MsgM).ok := ⟨hkI, i64_0, i64_0, numAt_i64 _ _, i64_0, rfl, rfl, by simp⟩
    simp -zeta only [J79, brB_false]
    rw [vbin_eql, wv_some, brB_dec]
    refine ⟨fun c4 => ?_, fun c4 => ?_⟩
    · rw [if_pos c4] at hcand
      refine escrowref16_number.use 1 rfl (by omega) hbl ?_
      refine msg_index _ (i := 0) s12 rfl fun G46 s46 => ?_
      refine escrowref16_hash.use 9 rfl (by omega) hbl fun G48 c48 => ?_
      have s48 := s46.tmp c48
      refine msg_hash (u := ⟨k, 0, 0, numAt b 1, 0, h0, h0, []⟩) (length_hashAt _ _) hi1 (i := 0) s48 rfl fun G49 s49 => ?_
      exact h97 _ ⟨k, 0, 0, numAt b 1, 0, hashAt b 9, h0, []⟩ s49 hcand.symm hk3
    rw [if_neg c4] at hcand
    rw [vbin_eql, wv_some, brB_dec]
    refine ⟨fun c5 => ?_, fun c5 => ?_⟩
    · rw [if_pos c5] at hcand
      refine escrowref16_number.use 1 rfl (by omega) hbl ?_
      refine msg_index _ (i := 0) s12 rfl fun G46 s46 => ?_
      refine escrowref16_hash.use 9 rfl (by omega) hbl fun G48 c48 => ?_
      have s48 := s46.tmp c48
      refine msg_secret (u := ⟨k, 0, 0, numAt b 1, 0, h0, h0, []⟩) (length_hashAt _ _) hi1 (i := 0) s48 rfl fun G49 s49 => ?_
      refine escrowref16_hash.use 41 rfl (by omega) hbl fun G58 c58 => ?_
      have s58 := s49.tmp c58
      refine msg_hash (u := ⟨k, 0, 0, numAt b 1, 0, h0, hashAt b 9, []⟩) (length_hashAt _ _) ⟨hkI, i64_0, i64_0, numAt_i64 _ _, i64_0, rfl, length_hashAt _ _, by simp⟩ (i := 0) s58 rfl fun G59 s59 => ?_
      exact h97 _ ⟨k, 0, 0, numAt b 1, 0, hashAt b 41, hashAt b 9, []⟩ s59 hcand.symm hk3
    rw [if_neg c5] at hcand
    rw [vbin_eql, wv_some, brB_dec]
    refine ⟨fun c6 => ?_, fun c6 => ?_⟩
    · rw [if_pos c6] at hcand
      refine escrowref16_number.use 1 rfl (by omega) hbl ?_
      refine msg_index _ (i := 0) s12 rfl fun G46 s46 => ?_
      refine escrowref16_number.use 9 rfl (by omega) hbl ?_
      refine msg_next (u := ⟨k, 0, 0, numAt b 1, 0, h0, h0, []⟩) _ (i := 0) s46 rfl fun G66 s66 => ?_
      refine escrowref16_hash.use 17 rfl (by omega) hbl fun G68 c68 => ?_
      have s68 := s66.tmp c68
      refine msg_secret (u := ⟨k, 0, 0, numAt b 1, numAt b 9, h0, h0, []⟩) (length_hashAt _ _) ⟨hkI, i64_0, i64_0, numAt_i64 _ _, numAt_i64 _ _, rfl, rfl, by simp⟩ (i := 0) s68 rfl fun G69 s69 => ?_
      exact h97 _ ⟨k, 0, 0, numAt b 1, numAt b 9, h0, hashAt b 17, []⟩ s69 hcand.symm hk3
    rw [if_neg c6] at hcand
    rw [vbin_eql, wv_some, brB_dec]
    refine ⟨fun c7 => ?_, fun c7 => ?_⟩
    · rw [if_pos c7] at hcand
      refine escrowref16_number.use 1 rfl (by omega) hbl ?_
      refine msg_index _ (i := 0) s12 rfl fun G46 s46 => ?_
      exact h97 _ ⟨k, 0, 0, numAt b 1, 0, h0, h0, []⟩ s46 hcand.symm hk3
    rw [if_neg c7] at hcand
    exact h97 _ _ s12 hcand.symm hk3
  by_cases h1 : k = 1
  · rw [decide_eq_true h1, brB_true]
    exact up (by omega)
  rw [decide_eq_false h1, brB_false, vbin_eql, wv_some]
  by_cases h2 : k = 2
  · rw [decide_eq_true h2, brB_true]
    exact up (by omega)
  rw [decide_eq_false h2, brB_false, vbin_eql, wv_some]
  by_cases h3 : k = 3
  · rw [decide_eq_true h3]
    exact up (by omega)
  · rw [decide_eq_false h3]
    exact rest (by omega)

end
end Go.Esc.M

/- Own work. Chapter 16: what stands behind the kind, in the program. -/
set_option linter.unusedSimpArgs false
set_option linter.unusedVariables false
namespace Go.Esc.M
open Go Go.Esc

def restS (k : Int) (st : List UInt8 × Int) : MsgM × (List UInt8 × Int) :=
  if k = 4 then (⟨k, 0, 0, IntKind.i64.wrap (num (takes st 8).1 : Nat), 0, fill 32 (takes (takes st 8).2 32).1, h0, []⟩, (takes (takes st 8).2 32).2)
  else if k = 5 then (⟨k, 0, 0, IntKind.i64.wrap (num (takes st 8).1 : Nat), 0, fill 32 (takes (takes (takes st 8).2 32).2 32).1, fill 32 (takes (takes st 8).2 32).1, []⟩, (takes (takes (takes st 8).2 32).2 32).2)
  else if k = 6 then (⟨k, 0, 0, IntKind.i64.wrap (num (takes st 8).1 : Nat), IntKind.i64.wrap (num (takes (takes st 8).2 8).1 : Nat), h0, fill 32 (takes (takes (takes st 8).2 8).2 32).1, []⟩, (takes (takes (takes st 8).2 8).2 32).2)
  else (⟨k, 0, 0, IntKind.i64.wrap (num (takes st 8).1 : Nat), 0, h0, h0, []⟩, (takes st 8).2)

theorem fl32 (st : List UInt8 × Int) : (fill 32 (takes st 32).1).length = 32 := length_fill (length_takes _)

section
variable {F0 : List AId} {G0 G : Heap} {ps : List LP} {Q : AVal → Heap → Prop}

def rdrV (ir : AId) : AVal := .agg [.ptr ir [] 0]
theorem rdr_load {i : Nat} {id ir : AId} (hs : Sp F0 G0 ps G) (hi : ps[i]? = some (RowL id (rdrV ir))) : vload T G t_pt_cursor_Reader (.ptr id [0] 0) = some (.ptr ir [] 0) ∧ vload T G t_msg_reader (.ptr id [] 0) = some (rdrV ir) := by
  have hg := RowL.own hs hi
  exact ⟨vload_fld (c := .ptr ir [] 0) hg rfl rfl rfl T_pt_cursor_Reader rfl, whole_load T_msg_reader hg rfl⟩

set_option maxHeartbeats 2000000 in
theorem msg_reader_rest.use {ir : AId} {st : List UInt8 × Int} {k : Int} (hk : I64 k) (h : Rd ir st G) (hQ : ∀ G', Rd ir (restS k st).2 G' → Ch [ir] G [ir] G' → Q (restS k st).1.av G') : ACalls P msg_reader_rest.n [rdrV ir, .int .i64 k] G Q := by
  refine msg_reader_rest.sound ?_
  unfold msg_reader_rest.S
  rw [zMsg]
  have s0 : Sp [ir] G [RdL ir st] G := Sp.one ⟨h, rfl⟩
  intro i1 f1
  have s1 := s0.row f1 (rdrV ir)
  intro i3 f3
  have s3 := s1.row f3 MsgM.zero.av
  refine wv_of (rdr_load (i := 1) s3 rfl).1 ?_
  refine rd (i := 2) s3 rfl (fun h k => cursor_Reader_I64.use h k) fun G7 s7 => ?_
  obtain ⟨a, ha⟩ : ∃ a, a = takes st 8 := ⟨_, rfl⟩
  have hQ' : ∀ (n : MsgM) (st' : List UInt8 × Int), restS k st = (n, st') → ∀ G', Sp [ir] G [RdL ir st'] G' → Q n.av G' := by
    intro n st' he G' hs
    obtain ⟨F, ⟨h6, rfl⟩, c6⟩ := hs.out
    have := hQ G'
    rw [he] at this
    exact this h6 c6
  unfold restS at hQ'
  rw [← ha] at s7 hQ' ⊢
  obtain ⟨ix, hix⟩ : ∃ x, x = IntKind.i64.wrap (num a.1 : Nat) := ⟨_, rfl⟩
  have hxI : I64 ix := by rw [hix]; exact hw64 _
  rw [← hix] at hQ' ⊢
  rw [build_ki, wv_some]
  intro i9 f9
  have s9 := s7.row f9 MsgM.zero.av
  have hn0 : (⟨k, 0, 0, ix, 0, h0, h0, []⟩ : MsgM).ok := ⟨hk, i64_0, i64_0, hxI, i64_0, rfl, rfl, by simp⟩
  refine msg_store (i := 0) s9 rfl MsgM.zero_ok hn0 fun G11 s11 => ?_
  have s11 : Sp [ir] G [RowL i9 (⟨k, 0, 0, ix, 0, h0, h0, []⟩ : MsgM).av, RowL i3 MsgM.zero.av, RowL i1 (rdrV ir), RdL ir a.2] G11 := s11
  intro J42
  have h42 : ∀ G' (n : MsgM) (st' : List UInt8 × Int), Sp [ir] G [RowL i9 n.av, RowL i3 MsgM.zero.av, RowL i1 (rdrV ir), RdL ir st'] G' → n.ok → (∀ G', Sp [ir] G [RdL ir st'] G' → Q n.av G') → J42 G' := by
    intro G38 n st' hs hn hq
    simp -zeta only [J42]
    refine wv_of (msg_load (i := 0) hs rfl hn).2.2.2.2.2.2.2.2 ?_
    refine msg_store (i := 1) hs rfl MsgM.zero_ok hn fun G40 s40 => ?_
    refine wv_of (msg_load (i := 1) s40 rfl hn).2.2.2.2.2.2.2.2 ?_
    exact hq _ (((s40.erase 0).erase 0).erase 0)
  rw [vbin_eql, wv_some, brB_dec]
  refine ⟨fun c4 => ?_, fun c4 => ?_⟩
  · simp only [if_pos c4] at hQ'
    refine wv_of (rdr_load (i := 2) s11 rfl).1 ?_
    refine rd (i := 3) s11 rfl (fun h k => cursor_Reader_Hash.use h k) fun G15 s15 => ?_
    refine msg_hash (u := ⟨k, 0, 0, ix, 0, h0, h0, []⟩) (fl32 _) hn0 (i := 0) s15 rfl fun G16 s16 => ?_
    exact h42 _ ⟨k, 0, 0, ix, 0, fill 32 (takes a.2 32).1, h0, []⟩ _ s16 ⟨hk, i64_0, i64_0, hxI, i64_0, fl32 _, rfl, by simp⟩ (hQ' _ _ rfl)
  simp only [if_neg c4] at hQ'
  rw [vbin_eql, wv_some, brB_dec]
  refine ⟨fun c5 => ?_, fun c5 => ?_⟩
  · simp only [if_pos c5] at hQ'
    refine wv_of (rdr_load (i := 2) s11 rfl).1 ?_
    refine rd (i := 3) s11 rfl (fun h k => cursor_Reader_Hash.use h k) fun G20 s20 => ?_
    refine msg_secret (u := ⟨k, 0, 0, ix, 0, h0, h0, []⟩) (fl32 _) hn0 (i := 0) s20 rfl fun G21 s21 => ?_
    refine wv_of (rdr_load (i := 2) s21 rfl).1 ?_
    refine rd (i := 3) s21 rfl (fun h k => cursor_Reader_Hash.use h k) fun G24 s24 => ?_
    refine msg_hash (u := ⟨k, 0, 0, ix, 0, h0, fill 32 (takes a.2 32).1, []⟩) (fl32 _) ⟨hk, i64_0, i64_0, hxI, i64_0, rfl, fl32 _, by simp⟩ (i := 0) s24 rfl fun G25 s25 => ?_
    exact h42 _ ⟨k, 0, 0, ix, 0, fill 32 (takes (takes a.2 32).2 32).1, fill 32 (takes a.2 32).1, []⟩ _ s25 ⟨hk, i64_0, i64_0, hxI, i64_0, fl32 _, fl32 _, by simp⟩ (hQ' _ _ rfl)
  simp only [if_neg c5] at hQ'
  rw [vbin_eql, wv_some, brB_dec]
  refine ⟨fun c6 => ?_, fun c6 => ?_⟩
  · simp only [if_pos c6] at hQ'
    refine wv_of (rdr_load (i := 2) s11 rfl).1 ?_
    refine rd (i := 3) s11 rfl (fun h k => cursor_Reader_I64.use h k) fun G29 s29 => ?_
    refine msg_next (u := ⟨k, 0, 0, ix, 0, h0, h0, []⟩) _ (i := 0) s29 rfl fun G30 s30 => ?_
    refine wv_of (rdr_load (i := 2) s30 rfl).1 ?_
    refine rd (i := 3) s30 rfl (fun h k => cursor_Reader_Hash.use h k) fun G33 s33 => ?_
    refine msg_secret (u := ⟨k, 0, 0, ix, IntKind.i64.wrap (num (takes a.2 8).1 : Nat), h0, h0, []⟩) (fl32 _) ⟨hk, i64_0, i64_0, hxI, hw64 _, rfl, rfl, by simp⟩ (i := 0) s33 rfl fun G34 s34 => ?_
    exact h42 _ ⟨k, 0, 0, ix, IntKind.i64.wrap (num (takes a.2 8).1 : Nat), h0, fill 32 (takes (takes a.2 8).2 32).1, []⟩ _ s34 ⟨hk, i64_0, i64_0, hxI, hw64 _, rfl, fl32 _, by simp⟩ (hQ' _ _ rfl)
  simp only [if_neg c6] at hQ'
  exact h42 _ _ _ s11 hn0 (hQ' _ _ rfl)

end
end Go.Esc.M

/- Own work. Chapter 16: what the program reads: plain laws. -/
set_option linter.unusedSimpArgs false
set_option linter.unusedVariables false
namespace Go.Esc.M
open Go Go.Esc

theorem tk_inv {st : List UInt8 × Int} {n : Int} (h0 : 0 ≤ n) (h : (takes st n).2.2 = 0) : st.2 = 0 ∧ st.1 = (takes st n).1 ++ (takes st n).2.1 ∧ ((takes st n).1.length : Int) = n := by
  unfold takes at h ⊢
  split at h
  · rename_i hz
    rw [if_pos hz]
    split at h
    · cases h
    · rename_i hl
      rw [if_neg hl]
      refine ⟨hz, (List.take_append_drop _ _).symm, ?_⟩
      dsimp only
      rw [List.length_take]
      omega
  · rename_i hz
    exact absurd h hz

theorem restS_bytes {m : MsgM} (h : m.ok) (hv : validM m = true) (hk : ¬ isK m) : restS m.kind (be 8 (bits64 m.index) ++ restM m, 0) = (m, ([], 0)) := by
  obtain ⟨hnm, hr1, hr2⟩ := validM_named hv
  unfold namedM at hnm
  rw [if_neg (show ¬ (m.kind = 1 ∨ m.kind = 2 ∨ m.kind = 3) from hk)] at hnm
  have e8 : ∀ x r, takes (be 8 x ++ r, 0) 8 = (be 8 x, (r, 0)) := fun x r => takes_app (by rw [length_be]; rfl)
  have e32 : ∀ x r, x.length = 32 → takes (x ++ r, 0) 32 = (x, (r, 0)) := fun x r hx => takes_app (by rw [hx]; rfl)
  have e32' : ∀ x : List UInt8, x.length = 32 → takes (x, 0) 32 = (x, ([], 0)) := fun x hx => by
    have := e32 x [] hx
    rwa [List.append_nil] at this
  have hix := wrap_be h.index
  unfold restS restM
  by_cases c4 : m.kind = 4
  · rw [if_pos c4] at hnm
    simp only [if_pos c4, e8, e32' _ h.hash, hix, fill_full h.hash]
    injection hnm with hnm _
    rw [hnm]
  simp only [if_neg c4] at hnm ⊢
  by_cases c5 : m.kind = 5
  · rw [if_pos c5] at hnm
    simp only [if_pos c5, e8, e32 _ _ h.secret, e32' _ h.hash, hix, fill_full h.hash, fill_full h.secret]
    injection hnm with hnm _
    rw [hnm]
  simp only [if_neg c5] at hnm ⊢
  by_cases c6 : m.kind = 6
  · rw [if_pos c6] at hnm
    simp only [if_pos c6, e8, e32' _ h.secret, hix, wrap_be h.next, fill_full h.secret]
    injection hnm with hnm _
    rw [hnm]
  simp only [if_neg c6] at hnm ⊢
  by_cases c7 : m.kind = 7
  · rw [if_pos c7] at hnm
    simp only [e8, hix]
    injection hnm with hnm _
    rw [hnm]
  · rw [if_neg c7] at hnm
    injection hnm with _ hnm
    cases hnm

theorem be8_wrap {l : List UInt8} (h : (l.length : Int) = 8) : be 8 (bits64 (IntKind.i64.wrap (num l : Nat))) = l := by
  have hl : l.length = 8 := by omega
  have := num_lt_of (l := l) (k := 8) (by omega)
  rw [bits64_wrap this, be_num hl]

theorem restS_inv {k : Int} {st : List UInt8 × Int} (hk : 4 ≤ k ∧ k ≤ 7) (hd : dones (restS k st).2 = 0) (h1 : rightI (restS k st).1.index = true) (h2 : rightI (restS k st).1.next = true) :
    validM (restS k st).1 = true ∧ (restS k st).1.kind = k ∧ st.2 = 0 ∧ st.1 = be 8 (bits64 (restS k st).1.index) ++ restM (restS k st).1 := by
  have hz : ∀ s : List UInt8 × Int, dones s = 0 → s.2 = 0 ∧ s.1 = [] := by
    intro s hs
    unfold dones at hs
    split at hs
    · cases hs
    · rename_i hn
      refine ⟨hs, ?_⟩
      exact Decidable.byContradiction fun hne => hn ⟨hs, hne⟩
  have hnk : ∀ m : MsgM, m.kind = k → ¬ isK m := fun m hm => by unfold isK; omega
  have vm : ∀ m : MsgM, m.kind = k → namedM m = (m, true) → rightI m.index = true → rightI m.next = true → validM m = true := fun m hm hn hr1 hr2 => by
    unfold validM
    rw [if_neg (hnk m hm), decide_eq_true hn, hr1, hr2]
    rfl
  have nk : ¬ (k = 1 ∨ k = 2 ∨ k = 3) := by omega
  obtain ⟨hd2, hd1⟩ := hz _ hd
  clear hd
  unfold restS at *
  by_cases c4 : k = 4
  · simp only [if_pos c4] at *
    obtain ⟨a0, a1, a2⟩ := tk_inv (by decide) hd2
    obtain ⟨b0, b1, b2⟩ := tk_inv (by decide) a0
    have hl : (takes (takes st 8).2 32).1.length = 32 := by omega
    refine ⟨vm _ rfl ?_ h1 h2, by trivial, b0, ?_⟩
    · unfold namedM
      dsimp only
      rw [if_neg nk, if_pos c4]
    · unfold restM
      dsimp only
      rw [if_pos c4, be8_wrap b2, fill_full hl]
      rw [hd1, List.append_nil] at a1
      rw [← a1]
      exact b1
  simp only [if_neg c4] at *
  by_cases c5 : k = 5
  · simp only [if_pos c5] at *
    obtain ⟨c0, c1, c2⟩ := tk_inv (by decide) hd2
    obtain ⟨a0, a1, a2⟩ := tk_inv (by decide) c0
    obtain ⟨b0, b1, b2⟩ := tk_inv (by decide) a0
    have hl : (takes (takes st 8).2 32).1.length = 32 := by omega
    have hl2 : (takes (takes (takes st 8).2 32).2 32).1.length = 32 := by omega
    refine ⟨vm _ rfl ?_ h1 h2, by trivial, b0, ?_⟩
    · unfold namedM
      dsimp only
      rw [if_neg nk, if_neg c4, if_pos c5]
    · unfold restM
      dsimp only
      rw [if_neg c4, if_pos c5, be8_wrap b2, fill_full hl, fill_full hl2]
      rw [hd1, List.append_nil] at c1
      rw [← c1, ← a1]
      exact b1
  simp only [if_neg c5] at *
  by_cases c6 : k = 6
  · simp only [if_pos c6] at *
    obtain ⟨c0, c1, c2⟩ := tk_inv (by decide) hd2
    obtain ⟨a0, a1, a2⟩ := tk_inv (by decide) c0
    obtain ⟨b0, b1, b2⟩ := tk_inv (by decide) a0
    have hl2 : (takes (takes (takes st 8).2 8).2 32).1.length = 32 := by omega
    refine ⟨vm _ rfl ?_ h1 h2, by trivial, b0, ?_⟩
    · unfold namedM
      dsimp only
      rw [if_neg nk, if_neg c4, if_neg c5, if_pos c6]
    · unfold restM
      dsimp only
      rw [if_neg c4, if_neg c5, if_pos c6, be8_wrap b2, be8_wrap a2, fill_full hl2]
      rw [hd1, List.append_nil] at c1
      rw [← c1, ← a1]
      exact b1
  simp only [if_neg c6] at *
  obtain ⟨b0, b1, b2⟩ := tk_inv (by decide) hd2
  refine ⟨vm _ rfl ?_ h1 h2, by trivial, b0, ?_⟩
  · unfold namedM
    dsimp only
    rw [if_neg nk, if_neg c4, if_neg c5, if_neg c6, if_pos (by omega)]
  · unfold restM
    dsimp only
    rw [if_neg c4, if_neg c5, if_neg c6, be8_wrap b2, List.append_nil]
    rw [hd1, List.append_nil] at b1
    exact b1

end Go.Esc.M

/- Own work. Chapter 16: messages read, in the program. -/
set_option linter.unusedSimpArgs false
set_option linter.unusedVariables false
namespace Go.Esc.M
open Go Go.Esc

theorem restS_ok {k : Int} {st : List UInt8 × Int} (hk : I64 k) : (restS k st).1.ok := by
  unfold restS
  split
  · exact ⟨hk, i64_0, i64_0, hw64 _, i64_0, fl32 _, rfl, by simp⟩
  split
  · exact ⟨hk, i64_0, i64_0, hw64 _, i64_0, fl32 _, fl32 _, by simp⟩
  split
  · exact ⟨hk, i64_0, i64_0, hw64 _, hw64 _, rfl, fl32 _, by simp⟩
  · exact ⟨hk, i64_0, i64_0, hw64 _, i64_0, rfl, rfl, by simp⟩

section
variable {F0 : List AId} {G0 G : Heap} {ps : List LP} {Q : AVal → Heap → Prop}

set_option maxHeartbeats 2000000 in
theorem msg_Read.use {b : List UInt8} (hbl : b.length ≤ 9223372036854775807)
    (hok : ∀ m : MsgM, m.ok → validM m = true → b = bytesM m → ∀ G', Ch [] G [] G' → Q (tupMI (m, 0)) G')
    (hno : (∀ m : MsgM, m.ok → validM m = true → b ≠ bytesM m) → ∀ G', Ch [] G [] G' → Q (tupMI (MsgM.zero, 160)) G') : ACalls P msg_Read.n [.str b] G Q := by
  refine msg_Read.sound ?_
  unfold msg_Read.S
  rw [zMsg, zUpd]
  intro i1 f1
  have s1 := (Sp.nil G).row f1 MsgM.zero.av
  refine cursor_Open.use fun ir G4 r4 c4 => ?_
  have s4 := s1.new (p := RdL ir (b, 0)) ⟨r4, rfl⟩ c4
  refine wv_of (v := rdrV ir) rfl ?_
  intro i6 f6
  have s6 := s4.row f6 (.agg [.nilPtr])
  refine wg_of (whole_store (c := rdrV ir) T_msg_reader (RowL.own (i := 0) s6 rfl) rfl rfl rfl) ?_
  have s8 := Sp.setRow s6 (j := 0) rfl (rdrV ir)
  refine wv_of (rdr_load (i := 0) s8 rfl).1 ?_
  refine rd (i := 1) s8 rfl (fun h k => cursor_Reader_U8.use h k) fun G11 s11 => ?_
  obtain ⟨st, hst⟩ : ∃ s, s = takes (b, 0) 1 := ⟨_, rfl⟩
  rw [← hst] at s11 ⊢
  have s11 : Sp [] G [RowL i6 (rdrV ir), RdL ir st.2, RowL i1 MsgM.zero.av] G11 := s11
  have hk8 : num st.1 < 256 := num_lt_of (k := 1) (by rw [hst]; exact length_takes _)
  rw [vconv_int T_uint8 T_int rfl, i64_in (by omega) (by omega), wv_some]
  obtain ⟨k, hk⟩ : ∃ k, k = ((num st.1 : Nat) : Int) := ⟨_, rfl⟩
  rw [← hk]
  have hkI : I64 k := i64_small (by omega) (by omega)
  have hne : b ≠ [] → st = (slice b 0 1, (b.drop 1, 0)) := by
    intro hb
    rw [hst]
    have := tk (b := b) (a := 0) (n := 1) (nn := 1) rfl (by omega)
    rw [List.drop_zero, if_pos (by cases b with | nil => exact absurd rfl hb | cons x b => simp)] at this
    exact this
  have hkb : ∀ m : MsgM, m.ok → validM m = true → b = bytesM m → st = (slice b 0 1, (b.drop 1, 0)) ∧ m.kind = k := by
    intro m hm hv hb
    obtain ⟨h1, h2⟩ := bytesM_kind hm hv
    rw [← hb] at h1 h2
    have := hne h1
    exact ⟨this, by rw [hk, this, ← h2]⟩
  intro J82
  have h82 : ∀ (G' : Heap) (ps : List LP) (i : Nat), ps[i]? = some (RowL i1 MsgM.zero.av) → Sp [] G ps G' → (∀ m : MsgM, m.ok → validM m = true → b ≠ bytesM m) → J82 G' := by
    intro G' ps i hi hs hall
    simp -zeta only [J82]
    rw [build_none_m, wv_some]
    refine msg_store hs hi MsgM.zero_ok MsgM.zero_ok fun G5 s5 => ?_
    have hlt : i < ps.length := (List.getElem?_eq_some_iff.1 hi).1
    refine wv_of (msg_load (i := i) s5 (List.getElem?_set_self hlt) MsgM.zero_ok).2.2.2.2.2.2.2.2 ?_
    exact hno hall _ s5.ch
  refine wv_of (v := .bool (decide (k = 1))) (by rw [vbin_eql]) ?_
  intro J77
  have up : 1 ≤ k ∧ k ≤ 3 → J77 (.bool true) G11 := by
    intro hk3
    have hb : b ≠ [] := by
      intro hb
      rw [hst, hb, takes_short (by decide)] at hk
      have : k = 0 := hk
      omega
    have hkk : k = ((num (slice b 0 1) : Nat) : Int) := by rw [hk, hne hb]
    obtain ⟨hr1, hr2⟩ := upd_read hbl (by omega)
    have hro := readU_ok hbl
    simp -zeta only [J77, brB_true]
    refine update_Read.use hbl fun G22 c22 => ?_
    have s22 := s11.tmp c22
    obtain ⟨r, hr⟩ : ∃ r, r = readU b := ⟨_, rfl⟩
    rw [← hr] at hr1 hr2 hro ⊢
    rw [tup0, wv_some, tup1, wv_some, tup2, wv_some]
    intro i26 f26
    have s26 := s22.row f26 UpdM.zero.av
    refine upd_store (i := 0) s26 rfl UpdM.zero_ok hro fun G28 s28 => ?_
    intro J41
    have bad : ¬ (r.2.2 = 0 ∧ r.2.1 = (b.length : Nat)) → J41 (.bool true) G28 := by
      intro h
      have := h82 _ _ 3 rfl s28 (hr2 h)
      simp -zeta only [J82] at this
      simp -zeta only [J41, brB_true]
      exact this
    rw [vbin_neq, wv_some, brB_ndec]
    refine ⟨fun h => bad fun hh => h hh.1, fun h1 => ?_⟩
    show wv (some (.int .i64 (b.length : Nat))) _
    rw [wv_some, vbin_neq, wv_some]
    by_cases h2 : r.2.1 = ((b.length : Nat) : Int)
    · rw [decide_eq_true h2, Bool.not_true]
      obtain ⟨u, huo, huv, hru, hub⟩ := hr1 ⟨h1, h2⟩
      have hmo := msgOf_ok huo
      rw [hru] at s28
      simp -zeta only [J41, brB_false]
      refine wv_of (upd_load (i := 0) s28 rfl huo).2.2.2.2.2 ?_
      refine msg_Of.use huo fun G39 c39 => ?_
      have s39 := s28.tmp c39
      refine msg_store (i := 3) s39 rfl MsgM.zero_ok hmo fun G40 s40 => ?_
      refine wv_of (msg_load (i := 3) s40 rfl hmo).2.2.2.2.2.2.2.2 ?_
      exact hok _ hmo (upd_valid huv).1 hub _ s40.ch
    · rw [decide_eq_false h2, Bool.not_false]
      exact bad fun hh => h2 hh.2
  have rest : ¬ (1 ≤ k ∧ k ≤ 3) → J77 (.bool false) G11 := by
    intro hk3
    simp -zeta only [J77, brB_false]
    refine wv_of (v := .bool (decide (k = 4))) (by rw [vbin_eql]) ?_
    intro J75
    have yes : 4 ≤ k ∧ k ≤ 7 → J75 (.bool true) G11 := by
      intro hk47
      have hb : b ≠ [] := by
        intro hb
        rw [hst, hb, takes_short (by decide)] at hk
        have : k = 0 := hk
        omega
      have hste := hne hb
      simp -zeta only [J75, brB_true]
      refine wv_of (rdr_load (i := 0) s11 rfl).2 ?_
      refine s11.call (i := 1) rfl (RdL ir (restS k st.2).2) fun F h kk => ?_
      obtain ⟨h, rfl⟩ := h
      refine msg_reader_rest.use hkI h fun G54 r54 c54 => ?_
      have s54 := kk _ _ ⟨r54, rfl⟩ c54
      have hro := restS_ok (k := k) (st := st.2) hkI
      have hinv := fun h0 h1 h2 => restS_inv (k := k) (st := st.2) hk47 h0 h1 h2
      have hfwd : ∀ m : MsgM, m.ok → validM m = true → b = bytesM m → restS k st.2 = (m, ([], 0)) := by
        intro m hm hv hbm
        obtain ⟨_, hmk⟩ := hkb m hm hv hbm
        have hik : ¬ isK m := by unfold isK; omega
        have e : st.2 = (be 8 (bits64 m.index) ++ restM m, 0) := by
          rw [hste, hbm]
          unfold bytesM
          rw [if_neg hik, List.drop_left' (length_be _ _)]
        rw [e, ← hmk]
        exact restS_bytes hm hv hik
      obtain ⟨R, hR⟩ : ∃ R, R = restS k st.2 := ⟨_, rfl⟩
      rw [← hR] at s54 hro hinv hfwd ⊢
      intro i55 f55
      have s55 := s54.row f55 MsgM.zero.av
      refine msg_store (i := 0) s55 rfl MsgM.zero_ok hro fun G57 s57 => ?_
      have s57 : Sp [] G [RowL i55 R.1.av, RowL i6 (rdrV ir), RdL ir R.2, RowL i1 MsgM.zero.av] G57 := s57
      intro J73
      have bad : ¬ (dones R.2 = 0 ∧ rightI R.1.index = true ∧ rightI R.1.next = true) → J73 (.bool false) G57 := by
        intro hA
        simp -zeta only [J73, brB_false]
        refine h82 _ _ 3 rfl s57 fun m hm hv hbm => hA ?_
        rw [hfwd m hm hv hbm]
        obtain ⟨_, h1, h2⟩ := validM_named hv
        exact ⟨rfl, h1, h2⟩
      have good : (dones R.2 = 0 ∧ rightI R.1.index = true ∧ rightI R.1.next = true) → J73 (.bool true) G57 := by
        rintro ⟨h0', h1, h2⟩
        obtain ⟨hv, hkind, hs2, hs1⟩ := hinv h0' h1 h2
        simp -zeta only [J73, brB_true]
        refine wv_of (msg_load (i := 0) s57 rfl hro).2.2.2.2.2.2.2.2 ?_
        refine msg_store (i := 3) s57 rfl MsgM.zero_ok hro fun G71 s71 => ?_
        refine wv_of (msg_load (i := 3) s71 rfl hro).2.2.2.2.2.2.2.2 ?_
        refine hok _ hro hv ?_ _ s71.ch
        have hik : ¬ isK R.1 := by unfold isK; omega
        unfold bytesM
        rw [if_neg hik, ← hs1, hste, hkind]
        have hbl1 : 1 ≤ b.length := by cases b with | nil => exact absurd rfl hb | cons x b => simp
        have e1 : be 1 k.toNat = slice b 0 1 := by
          have : k.toNat = num (slice b 0 1) := by rw [hk, hste]; rfl
          rw [this, be_num (length_slice (by omega))]
        rw [e1]
        show b = slice b 0 1 ++ b.drop 1
        rw [slice, List.drop_zero, List.take_append_drop]
      refine wv_of (rdr_load (i := 1) s57 rfl).1 ?_
      refine cursor_Reader_Done.use (RdL.rd (i := 2) s57 rfl) ?_
      rw [vbin_eql, wv_some, brB_dec]
      refine ⟨fun h0' => ?_, fun h => bad fun hh => h hh.1⟩
      refine wv_of (msg_load (i := 0) s57 rfl hro).2.2.2.1 ?_
      refine msg_right.use ?_
      rw [brB_bool]
      refine ⟨fun h1 => ?_, fun h => bad fun hh => by rw [hh.2.1] at h; cases h⟩
      refine wv_of (msg_load (i := 0) s57 rfl hro).2.2.2.2.1 ?_
      refine msg_right.use ?_
      cases h2 : rightI R.1.next with
      | true => exact good ⟨h0', h1, h2⟩
      | false => exact bad fun hh => by rw [hh.2.2] at h2; cases h2
    have no : ¬ (4 ≤ k ∧ k ≤ 7) → J75 (.bool false) G11 := by
      intro hk47
      simp -zeta only [J75, brB_false]
      refine h82 _ _ 2 rfl s11 fun m hm hv hbm => ?_
      obtain ⟨_, hmk⟩ := hkb m hm hv hbm
      by_cases hik : isK m
      · unfold isK at hik; omega
      · obtain ⟨h1, h2⟩ := named_kind (validM_named hv).1 hik
        omega
    by_cases h4 : k = 4
    · rw [decide_eq_true h4, brB_true]
      exact yes (by omega)
    rw [decide_eq_false h4, brB_false, vbin_eql, wv_some]
    by_cases h5 : k = 5
    · rw [decide_eq_true h5, brB_true]
      exact yes (by omega)
    rw [decide_eq_false h5, brB_false, vbin_eql, wv_some]
    by_cases h6 : k = 6
    · rw [decide_eq_true h6, brB_true]
      exact yes (by omega)
    rw [decide_eq_false h6, brB_false, vbin_eql, wv_some]
    by_cases h7 : k = 7
    · rw [decide_eq_true h7]
      exact yes (by omega)
    · rw [decide_eq_false h7]
      exact no (by omega)
  by_cases h1 : k = 1
  · rw [decide_eq_true h1, brB_true]
    exact up (by omega)
  rw [decide_eq_false h1, brB_false, vbin_eql, wv_some]
  by_cases h2 : k = 2
  · rw [decide_eq_true h2, brB_true]
    exact up (by omega)
  rw [decide_eq_false h2, brB_false, vbin_eql, wv_some]
  by_cases h3 : k = 3
  · rw [decide_eq_true h3]
    exact up (by omega)
  · rw [decide_eq_false h3]
    exact rest (by omega)

end
end Go.Esc.M
