/- Own work. Chapter 14: CommitBack. -/
import Derived.Test.YtdbkngfdaeminaaLDh
import Derived.Test.YtdbkngfdaeminaaLDf
set_option linter.unusedSimpArgs false
set_option linter.unusedVariables false
namespace Go.Esc.M
open Go Go.Esc

theorem xor_one {T : Tbl} {t : TypeId} {a : Int} (h0 : 0 ≤ a) (h1 : a ≤ 281474976710655) : ∃ b : Int, vbin T .xor t (.int .i64 a) (.int .i64 1) = some (.int .i64 b) ∧ b ≠ a ∧ 0 ≤ b ∧ b ≤ 281474976710655 := by
  obtain ⟨n, rfl⟩ : ∃ n : Nat, a = (n : Int) := ⟨a.toNat, by omega⟩
  refine ⟨((n ^^^ 1 : Nat) : Int), ?_, ?_, by omega, ?_⟩
  · rw [vbin_xor]
    have hb : IntKind.i64.bits = 64 := rfl
    have h2 : n ^^^ 1 < 2 ^ 48 := Nat.xor_lt_two_pow (by omega) (by omega)
    have : (BitVec.ofInt IntKind.i64.bits (n : Int) ^^^ BitVec.ofInt IntKind.i64.bits 1).toNat = n ^^^ 1 := by
      rw [BitVec.toNat_xor, BitVec.ofInt_natCast, BitVec.toNat_ofNat, hb, Nat.mod_eq_of_lt (by omega)]
      rfl
    rw [this, i64_in (by omega) (by omega)]
  · intro h
    have h3 : n ^^^ 1 = n := by omega
    have h4 : n ^^^ (n ^^^ 1) = n ^^^ n := by rw [h3]
    rw [← Nat.xor_assoc, Nat.xor_self, Nat.zero_xor] at h4
    cases h4
  · have h2 : n ^^^ 1 < 2 ^ 48 := Nat.xor_lt_two_pow (by omega) (by omega)
    omega

theorem text_inj {c d : Com} (hc : c.Valid) (hd : d.Valid) (h : c.text = d.text) : c = d := by
  have e1 := comR_text hc []
  have e2 := comR_text hd []
  rw [h, e2] at e1
  simp only [Prod.mk.injEq] at e1
  exact e1.1.symm
theorem readS_text {c : Com} (hc : c.Valid) {x : Int × Int × List UInt8 × Int × Int × List PenM × Int} (h : readS c.text x) : x = (c.owner, c.index, c.point, c.o, c.q, c.l, 0) :=
  readS_only h (.inl ⟨c, hc, rfl, rfl⟩)
theorem readS_no {b : List UInt8} {x : Int × Int × List UInt8 × Int × Int × List PenM × Int} (hb : ∀ k, b.length ≠ 59 + 49 * k) (h : readS b x) : x = (0, 0, List.replicate 32 0, 0, 0, [], 4) := by
  rcases h with ⟨c, hc, hx, _⟩ | ⟨_, h⟩
  · exact absurd (by rw [hx, length_text hc]) (hb c.l.length)
  · exact h
theorem textR_valid {ow ix o q : Int} {pt : List UInt8} {l : List PenM} (h : (⟨ow, ix, pt, o, q, l⟩ : Com).Valid) : textR ow ix pt o q l = (textB ow ix pt o q l, 0) := by
  have h1 := h.arg
  have h2 := h.sound
  dsimp only at h1 h2
  rw [textR, if_neg h1, h2, cond_true]

section
variable {F0 : List AId} {G0 G : Heap} {ps : List LP} {Q : AVal → Heap → Prop}

/-- A text that is none: what Read gives of it is stored, and is fault 4. -/
theorem read_none {b : List UInt8} {K : AVal → Heap → Prop} (hb : ∀ k, b.length ≠ 59 + 49 * k) (hs : Sp F0 G0 ps G)
    (hK : ∀ G', Sp F0 G0 ps G' → K (.tuple [.int .i64 0, .int .i64 0, .agg ((List.replicate 32 (0 : UInt8)).map u8v), ledV 0 0 .nilSlice, .int .i64 4]) G') : ACalls P commit_Read.n [.str b] G K := by
  refine commit_Read.use (fun c hc hx => ?_) fun _ G' c => hK G' (hs.tmp c)
  exact absurd (by rw [hx, length_text hc]) (hb c.l.length)

end

set_option maxRecDepth 20000 in
set_option maxHeartbeats 2000000 in
theorem law_CommitBack {G : Heap} {ow ix pt a c tail : AVal} {m1 m2 m3 m4 m5 m6 : Nat} (h1 : wt T G reachBytes 6 t_int ow m1) (h2 : wt T G reachBytes 6 t_int64 ix m2) (h3 : wt T G reachBytes 6 t_api_Hash pt m3) (h4 : wt T G reachBytes 6 t_api_Ledger a m4)
    (h5 : wt T G reachBytes 6 t_api_Ledger c m5) (h6 : wt T G reachBytes 6 t_string tail m6) :
    ACalls P escrowlaw14_CommitBack.n [ow, ix, pt, a, c, tail] G fun v _ => v = .bool true := by
  obtain ⟨ow0, rfl, _⟩ := wt_int T_int rfl h1
  obtain ⟨ix0, rfl, _⟩ := wt_int T_int64 rfl h2
  obtain ⟨pt, rfl, hpt, _⟩ := wt_hash T_api_Hash rfl T_uint8 rfl h3
  obtain ⟨oa, qa, va, la, rfl, _, _, hroa, hoka, hRa, _⟩ := wt_Led h4
  obtain ⟨oc, qc, vc, lc, rfl, _, _, hroc, hokc, hRc, _⟩ := wt_Led h5
  obtain ⟨tail, rfl, _, _, _⟩ := wt_str T_string rfl h6
  have hRa : la.length * 56 ≤ 140737488351232 := hRa
  have hRc : lc.length * 56 ≤ 140737488351232 := hRc
  have hla := hroa.is
  have hlc := hroc.is
  refine escrowlaw14_CommitBack.sound ?_
  unfold escrowlaw14_CommitBack.S
  rw [z_hash, zLed]
  intro i1 f1
  have s1 := (Sp.nil G).row f1 (.agg (pt.map u8v))
  intro i3 f3
  have s3 := s1.row f3 (ledV oa qa va)
  intro i5 f5
  have s5 := s3.row f5 (ledV oc qc vc)
  rw [andK ow0 1 (by decide) (m := 1) (M := 2) rfl rfl, wv_some, andK ix0 48 (by decide) (m := 281474976710655) (M := 281474976710656) rfl rfl, wv_some]
  obtain ⟨ow, how⟩ : ∃ x, x = ow0 % 2 := ⟨_, rfl⟩
  obtain ⟨ix, hix⟩ : ∃ x, x = ix0 % 281474976710656 := ⟨_, rfl⟩
  rw [← how, ← hix]
  have how' : 0 ≤ ow ∧ ow ≤ 1 := by omega
  have hix' : 0 ≤ ix ∧ ix ≤ 281474976710655 := by omega
  clear how hix
  refine wv_of (led_load (i := 1) s5 rfl (sl_leaf hla)).2.2.2 ?_
  refine escrowlaw14_made.use (hla.ch' s5.ch) hoka (by omega) fun wa G11 s11 => ?_
  obtain ⟨F11, ho11, c11⟩ := s11.out
  have s11 := s5.new ho11 c11
  have hA := made_sound oa qa la
  have hAok := madeL_ok hoka
  have hA80 := length_madeL la
  obtain ⟨oA, hoA⟩ : ∃ x, x = oa % 1152921504606846976 := ⟨_, rfl⟩
  obtain ⟨qA, hqA⟩ : ∃ x, x = qa % 1152921504606846976 := ⟨_, rfl⟩
  obtain ⟨A, hAA⟩ : ∃ x, x = madeL la := ⟨_, rfl⟩
  rw [← hoA, ← hqA, ← hAA] at hA
  rw [← hAA] at s11 hAok hA80
  rw [← hoA, ← hqA]
  have hwa := (OwnL.own (i := 0) s11 rfl).leaf
  intro i12 f12
  have s12 := s11.row f12 (ledV 0 0 .nilSlice)
  refine led_store (i := 0) s12 rfl rfl hwa fun G14 s14 => ?_
  refine wv_of (led_load (i := 2) s14 rfl (sl_leaf hlc)).2.2.2 ?_
  refine escrowlaw14_made.use (hlc.ch' s14.ch) hokc (by omega) fun wc G17 s17 => ?_
  obtain ⟨F17, ho17, c17⟩ := s17.out
  have s17 := s14.new ho17 c17
  have hC := made_sound oc qc lc
  have hCok := madeL_ok hokc
  have hC80 := length_madeL lc
  obtain ⟨oC, hoC⟩ : ∃ x, x = oc % 1152921504606846976 := ⟨_, rfl⟩
  obtain ⟨qC, hqC⟩ : ∃ x, x = qc % 1152921504606846976 := ⟨_, rfl⟩
  obtain ⟨C, hCC⟩ : ∃ x, x = madeL lc := ⟨_, rfl⟩
  rw [← hoC, ← hqC, ← hCC] at hC
  rw [← hCC] at s17 hCok hC80
  rw [← hoC, ← hqC]
  have hwc := (OwnL.own (i := 0) s17 rfl).leaf
  intro i18 f18
  have s18 := s17.row f18 (ledV 0 0 .nilSlice)
  refine led_store (i := 0) s18 rfl rfl hwc fun G20 s20 => ?_
  have s20 : Sp [] G [RowL i18 (ledV oC qC wc), OwnL 35 wc (C.map PenM.av), RowL i12 (ledV oA qA wa), OwnL 35 wa (A.map PenM.av), RowL i5 (ledV oc qc vc), RowL i3 (ledV oa qa va), RowL i1 (.agg (pt.map u8v))] G20 := s20
  have valid : ∀ {ow' ix' o q : Int} {l : List PenM}, 0 ≤ ow' ∧ ow' ≤ 1 → 0 ≤ ix' ∧ ix' ≤ 281474976710655 → soundP o q l = true → (∀ p ∈ l, p.ok) → (⟨ow', ix', pt, o, q, l⟩ : Com).Valid := fun {ow' ix' o q l} hh1 hh2 hs hk => by
    refine ⟨?_, hs, hpt, hk⟩
    unfold argBad maxIndex
    dsimp only
    omega
  have hvA := valid how' hix' hA hAok
  have hvC := valid how' hix' hC hCok
  refine wv_of (load_hash hpt (RowL.own (i := 6) s20 rfl)) ?_
  refine wv_of (led_load (i := 2) s20 rfl hwa).2.2.2 ?_
  refine commit_Text.use hpt (OwnL.own (i := 3) s20 rfl).is hAok (by omega) fun G24 c24 => ?_
  have s24 := s20.tmp c24
  rw [textR_valid hvA]
  have htA : textB ow ix pt oA qA A = (⟨ow, ix, pt, oA, qA, A⟩ : Com).text := rfl
  rw [htA]
  have hlb := length_text hvA
  obtain ⟨b, hb⟩ : ∃ b, b = (⟨ow, ix, pt, oA, qA, A⟩ : Com).text := ⟨_, rfl⟩
  rw [← hb] at hlb ⊢
  dsimp only at hlb
  rw [vext0, wv_some, vext1, wv_some]
  refine commit_Read.use' fun xo xi xp o' q' l' e' v28 G28 hr s28 => ?_
  obtain ⟨F28, ho28, c28⟩ := s28.out
  have s28 := s24.new ho28 c28
  rw [hb] at hr
  have hr := readS_text hvA hr
  simp only [Prod.mk.injEq] at hr
  obtain ⟨rfl, rfl, rfl, rfl, rfl, rfl, rfl⟩ := hr
  refine wv_of (v := .int .i64 xo) rfl ?_
  refine wv_of (v := .int .i64 xi) rfl ?_
  refine wv_of (v := .agg (xp.map u8v)) rfl ?_
  refine wv_of (v := ledV o' q' v28) rfl ?_
  refine wv_of (v := .int .i64 0) rfl ?_
  have h28 := (OwnL.own (i := 0) s28 rfl).leaf
  intro i34 f34
  have s34 := s28.row f34 (.agg ((List.replicate 32 (0 : UInt8)).map u8v))
  intro i36 f36
  have s36 := s34.row f36 (ledV 0 0 .nilSlice)
  refine hash_store (i := 1) s36 rfl zh_len hpt fun G38 s38 => ?_
  refine led_store (i := 0) s38 rfl rfl h28 fun G39 s39 => ?_
  have s39 : Sp [] G [RowL i36 (ledV o' q' v28), RowL i34 (.agg (xp.map u8v)), OwnL 35 v28 (l'.map PenM.av), RowL i18 (ledV oC qC wc), OwnL 35 wc (C.map PenM.av), RowL i12 (ledV o' q' wa), OwnL 35 wa (l'.map PenM.av), RowL i5 (ledV oc qc vc), RowL i3 (ledV oa qa va), RowL i1 (.agg (xp.map u8v))] G39 := s39
  have nz : ∀ {t : TypeId} {k : IntKind} {n : Int}, vbin T .neq t (.int k n) (.int k n) = some (.bool false) := fun {t k n} => by rw [vbin_neq, decide_eq_true rfl]; rfl
  have ez : ∀ {t : TypeId} {k : IntKind} {n : Int}, vbin T .eql t (.int k n) (.int k n) = some (.bool true) := fun {t k n} => by rw [vbin_eql, decide_eq_true rfl]
  intro J182
  have hJ : ∀ G', Sp [] G [RowL i36 (ledV o' q' v28), RowL i34 (.agg (xp.map u8v)), OwnL 35 v28 (l'.map PenM.av), RowL i18 (ledV oC qC wc), OwnL 35 wc (C.map PenM.av), RowL i12 (ledV o' q' wa), OwnL 35 wa (l'.map PenM.av), RowL i5 (ledV oc qc vc), RowL i3 (ledV oa qa va), RowL i1 (.agg (xp.map u8v))] G' → J182 (.bool false) G' := by
    intro G55 s55
    simp -zeta only [J182, brB_false]
    refine wv_of (load_hash hpt (RowL.own (i := 9) s55 rfl)) ?_
    refine wv_of (led_load (i := 3) s55 rfl hwc).2.2.2 ?_
    refine commit_Text.use hpt (OwnL.own (i := 4) s55 rfl).is hCok (by omega) fun G60 c60 => ?_
    have s60 := s55.tmp c60
    rw [textR_valid hvC, vext0, wv_some, vext1, wv_some]
    intro J181
    have h181 : ∀ G', Sp [] G [RowL i36 (ledV o' q' v28), RowL i34 (.agg (xp.map u8v)), OwnL 35 v28 (l'.map PenM.av), RowL i18 (ledV oC qC wc), OwnL 35 wc (C.map PenM.av), RowL i12 (ledV o' q' wa), OwnL 35 wa (l'.map PenM.av), RowL i5 (ledV oc qc vc), RowL i3 (ledV oa qa va), RowL i1 (.agg (xp.map u8v))] G' → J181 (.bool false) G' := by
      intro G70 s70
      simp -zeta only [J181, brB_false]
      rw [vbin_sub, wv_some, i64_in (by omega) (by omega)]
      refine wv_of (load_hash hpt (RowL.own (i := 9) s70 rfl)) ?_
      refine wv_of (led_load (i := 5) s70 rfl hwa).2.2.2 ?_
      have hvX := valid (ow' := 1 - xo) (by omega) hix' hA hAok
      refine commit_Text.use hpt (OwnL.own (i := 6) s70 rfl).is hAok (by omega) fun G76 c76 => ?_
      have s76 := s70.tmp c76
      rw [textR_valid hvX, vext0, wv_some, vext1, wv_some]
      obtain ⟨yi, hyi, hyne, hyr⟩ := xor_one (T := T) (t := t_int64) hix'.1 hix'.2
      rw [hyi, wv_some]
      refine wv_of (load_hash hpt (RowL.own (i := 9) s76 rfl)) ?_
      refine wv_of (led_load (i := 5) s76 rfl hwa).2.2.2 ?_
      have hvY := valid (ix' := yi) how' hyr hA hAok
      refine commit_Text.use hpt (OwnL.own (i := 6) s76 rfl).is hAok (by omega) fun G83 c83 => ?_
      have s83 := s76.tmp c83
      rw [textR_valid hvY, vext0, wv_some, vext1, wv_some]
      have hlX : (textB (1 - xo) xi xp o' q' l').length = b.length := by
        have := length_text hvX
        rw [hlb]
        exact this
      have hlY : (textB xo yi xp o' q' l').length = b.length := by
        have := length_text hvY
        rw [hlb]
        exact this
      have hneX : ¬ textB (1 - xo) xi xp o' q' l' = b := fun h => by
        rw [hb] at h
        have := text_inj hvX hvA h
        simp only [Com.mk.injEq] at this
        omega
      have hneY : ¬ textB xo yi xp o' q' l' = b := fun h => by
        rw [hb] at h
        have := text_inj hvY hvA h
        simp only [Com.mk.injEq] at this
        exact hyne this.2.1
      obtain ⟨x, hx⟩ : ∃ x, x = textB (1 - xo) xi xp o' q' l' := ⟨_, rfl⟩
      obtain ⟨y, hy⟩ : ∃ x, x = textB xo yi xp o' q' l' := ⟨_, rfl⟩
      rw [← hx] at hlX hneX ⊢
      rw [← hy] at hlY hneY ⊢
      intro J180
      have h180 : J180 (.bool false) G83 := by
        simp -zeta only [J180, brB_false]
        show wv (some (.int .i64 (b.length : Nat))) _
        rw [wv_some, vbin_sub, wv_some, i64_in (by omega) (by omega)]
        refine wv_of (str_take (by omega) (by omega)) ?_
        refine read_none (fun k h => by rw [List.length_take] at h; omega) s83 fun G102 s102 => ?_
        refine wv_of (v := .int .i64 0) rfl ?_
        refine wv_of (v := .int .i64 0) rfl ?_
        refine wv_of (v := .agg ((List.replicate 32 (0 : UInt8)).map u8v)) rfl ?_
        refine wv_of (v := ledV 0 0 .nilSlice) rfl ?_
        refine wv_of (v := .int .i64 4) rfl ?_
        intro j1 g1
        have s103 := s102.row g1 (.agg ((List.replicate 32 (0 : UInt8)).map u8v))
        intro j2 g2
        have s104 := s103.row g2 (ledV 0 0 .nilSlice)
        refine hash_store (i := 1) s104 rfl zh_len zh_len fun G112 s112 => ?_
        refine led_store (i := 0) s112 rfl rfl nil_leaf fun G113 s113 => ?_
        have s113 := (s113.erase 0).erase 0
        rw [vbin_sadd _ _ (by simp; omega), wv_some]
        refine read_none (fun k h => by rw [List.length_append, List.length_singleton] at h; omega) s113 fun G116 s116 => ?_
        refine wv_of (v := .int .i64 0) rfl ?_
        refine wv_of (v := .int .i64 0) rfl ?_
        refine wv_of (v := .agg ((List.replicate 32 (0 : UInt8)).map u8v)) rfl ?_
        refine wv_of (v := ledV 0 0 .nilSlice) rfl ?_
        refine wv_of (v := .int .i64 4) rfl ?_
        intro j3 g3
        have s117 := s116.row g3 (.agg ((List.replicate 32 (0 : UInt8)).map u8v))
        intro j4 g4
        have s118 := s117.row g4 (ledV 0 0 .nilSlice)
        refine hash_store (i := 1) s118 rfl zh_len zh_len fun G126 s126 => ?_
        refine led_store (i := 0) s126 rfl rfl nil_leaf fun G127 s127 => ?_
        have s127 := (s127.erase 0).erase 0
        rw [vbin_sadd _ _ (by omega), wv_some]
        refine read_none (fun k h => by rw [List.length_append] at h; omega) s127 fun G130 s130 => ?_
        refine wv_of (v := .int .i64 0) rfl ?_
        refine wv_of (v := .int .i64 0) rfl ?_
        refine wv_of (v := .agg ((List.replicate 32 (0 : UInt8)).map u8v)) rfl ?_
        refine wv_of (v := ledV 0 0 .nilSlice) rfl ?_
        refine wv_of (v := .int .i64 4) rfl ?_
        intro j5 g5
        have s131 := s130.row g5 (.agg ((List.replicate 32 (0 : UInt8)).map u8v))
        intro j6 g6
        have s132 := s131.row g6 (ledV 0 0 .nilSlice)
        refine hash_store (i := 1) s132 rfl zh_len zh_len fun G140 s140 => ?_
        refine led_store (i := 0) s140 rfl rfl nil_leaf fun G141 s141 => ?_
        have s141 := (s141.erase 0).erase 0
        have s141 : Sp [] G [RowL i36 (ledV o' q' v28), RowL i34 (.agg (xp.map u8v)), OwnL 35 v28 (l'.map PenM.av), RowL i18 (ledV oC qC wc), OwnL 35 wc (C.map PenM.av), RowL i12 (ledV o' q' wa), OwnL 35 wa (l'.map PenM.av), RowL i5 (ledV oc qc vc), RowL i3 (ledV oa qa va), RowL i1 (.agg (xp.map u8v))] G141 := s141
        intro J179
        rw [nz]
        simp -zeta only [wv_some, brB_false, J179]
        refine commit_Read.use' fun to ti tp so sq tl te v147 G148 hr s148 => ?_
        obtain ⟨F148, ho148, c148⟩ := s148.out
        have s148 := s141.new ho148 c148
        obtain ⟨htp, htl, htl9⟩ := readS_ok hr
        refine wv_of (v := .int .i64 to) rfl ?_
        refine wv_of (v := .int .i64 ti) rfl ?_
        refine wv_of (v := .agg (tp.map u8v)) rfl ?_
        refine wv_of (v := ledV so sq v147) rfl ?_
        refine wv_of (v := .int .i64 te) rfl ?_
        have h147 := (OwnL.own (i := 0) s148 rfl).leaf
        refine hash_store (i := 2) s148 rfl hpt htp fun G154 s154 => ?_
        refine led_store (i := 1) s154 rfl h28.1 h147 fun G155 s155 => ?_
        rw [vbin_neq, wv_some, brB_ndec]
        refine ⟨fun hte => ?_, fun hte => ?_⟩
        · rcases hr with ⟨c, hc, hbc, hr⟩ | ⟨_, hr⟩
          · simp only [Prod.mk.injEq] at hr
            exact absurd hr.2.2.2.2.2.2 hte
          · simp only [Prod.mk.injEq] at hr
            obtain ⟨rfl, rfl, rfl, rfl, rfl, rfl, rfl⟩ := hr
            simp -zeta only [ez, wv_some, brB_true]
            refine wv_of (load_hash htp (RowL.own (i := 2) s155 rfl)) ?_
            refine wv_of (v := .agg ((List.replicate 32 (0 : UInt8)).map u8v)) rfl ?_
            rw [vbin_heql (i := ti_api_Hash) (ie := ti_uint8) (n := 32) T_api_Hash rfl T_uint8 rfl rfl zh_len zh_len, wv_some, decide_eq_true rfl, brB_true]
            refine wv_of (led_load (i := 1) s155 rfl h147).2.2.2 ?_
            refine wv_of (v := ledV 0 0 .nilSlice) rfl ?_
            refine escrowlaw14_same.use (l := []) (l' := []) (OwnL.own (i := 0) s155 rfl).is (.inr ⟨rfl, rfl⟩) (by simp) (by simp) (by simp) fun bb G166 hbb _ => ?_
            rw [hbb.2 ⟨rfl, rfl, rfl⟩]
        · rcases hr with ⟨c, hc, hbc, hr⟩ | ⟨_, hr⟩
          · simp only [Prod.mk.injEq] at hr
            obtain ⟨rfl, rfl, rfl, rfl, rfl, rfl, rfl⟩ := hr
            refine wv_of (load_hash htp (RowL.own (i := 2) s155 rfl)) ?_
            refine wv_of (led_load (i := 1) s155 rfl h147).2.2.2 ?_
            refine commit_Text.use htp (OwnL.own (i := 0) s155 rfl).is htl (by omega) fun G172 c172 => ?_
            rw [textR_valid hc, vext0, wv_some, vext1, wv_some]
            simp -zeta only [ez, wv_some, brB_true]
            have : textB c.owner c.index c.point c.o c.q c.l = tail := hbc.symm
            rw [this, vbin_seql, wv_some, decide_eq_true rfl]
          · simp only [Prod.mk.injEq] at hr
            exact absurd hte (by rw [hr.2.2.2.2.2.2]; decide)
      have hlenx : ∀ {z : List UInt8}, vlen T G83 t_string (.str z) = some (.int .i64 (z.length : Nat)) := fun {z} => rfl
      simp -zeta only [nz, wv_some, brB_false]
      rw [vbin_seql, wv_some, decide_eq_false hneX, brB_false, vbin_seql, wv_some, decide_eq_false hneY, brB_false, hlenx, hlenx, hlenx, hlX, hlY]
      simp -zeta only [nz, wv_some, brB_false]
      exact h180
    simp -zeta only [nz, wv_some, brB_false]
    rw [vbin_seql, wv_some]
    refine wv_of (led_load (i := 5) s60 rfl hwa).2.2.2 ?_
    refine wv_of (led_load (i := 3) s60 rfl hwc).2.2.2 ?_
    refine escrowlaw14_same.use (OwnL.own (i := 6) s60 rfl).is (OwnL.own (i := 4) s60 rfl).is hAok hCok (by omega) fun bb G68 hbb c68 => ?_
    have hdec : decide (textB xo xi xp oC qC C = b) = bb := by
      rw [Bool.eq_iff_iff, hbb, decide_eq_true_eq, hb]
      constructor
      · intro h
        have := text_inj hvC hvA h
        simp only [Com.mk.injEq] at this
        exact ⟨this.2.2.2.1.symm, this.2.2.2.2.1.symm, this.2.2.2.2.2.symm⟩
      · rintro ⟨rfl, rfl, rfl⟩
        rfl
    rw [hdec, vbin_bneq T_bool rfl, wv_some, beq_self_eq_true, Bool.not_true]
    exact h181 _ (s60.tmp c68)
  simp -zeta only [nz, wv_some, brB_false]
  refine wv_of (load_hash hpt (RowL.own (i := 1) s39 rfl)) ?_
  refine wv_of (load_hash hpt (RowL.own (i := 9) s39 rfl)) ?_
  rw [vbin_hneq (i := ti_api_Hash) (ie := ti_uint8) (n := 32) T_api_Hash rfl T_uint8 rfl rfl hpt hpt, wv_some, decide_eq_true rfl, Bool.not_true, brB_false]
  refine wv_of (led_load (i := 0) s39 rfl h28).2.2.2 ?_
  refine wv_of (led_load (i := 5) s39 rfl hwa).2.2.2 ?_
  refine escrowlaw14_same.use (OwnL.own (i := 2) s39 rfl).is (OwnL.own (i := 6) s39 rfl).is hAok hAok (by omega) fun bb G50 hbb c50 => ?_
  rw [hbb.2 ⟨rfl, rfl, rfl⟩, vun_not, wv_some, Bool.not_true, brB_false]
  refine escrowlaw14_first.use fun G53 c53 => ?_
  rw [vun_not, wv_some, Bool.not_true]
  exact hJ _ ((s39.tmp c50).tmp c53)

end Go.Esc.M
