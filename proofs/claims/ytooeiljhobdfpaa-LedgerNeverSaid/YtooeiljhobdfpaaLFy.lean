import Derived.Test.YtooeiljhobdfpaaLFv
/- Own work. Chapter 13: the document's Fold. -/
set_option linter.unusedSimpArgs false
set_option linter.unusedVariables false
namespace Go.Esc.M
open Go Go.Esc

theorem unit_neg (t : Int) : t / 1152921504606846976 < 0 ↔ t < 0 := by omega
theorem side_mid {f : UpdM → Bool} {l : List UpdM} (hv : ∀ u ∈ l, validU u = true) (hf : ∀ u, f u = true → u.kind = 1) (hlen : l.length ≤ 1048576) : 0 ≤ sumF f l ∧ sumF f l ≤ 1208925819614629174706176 := by
  have := sumF_bound (f := f) (l := l) fun u hu h => by
    have h1 := (valid_spec (hv u hu)).2.2
    have h2 := hf u h
    constructor <;> omega
  omega
theorem stays_k {r : List UpdM} (u : UpdM) (h : stays r u = true) : u.kind = 1 := by simp [stays] at h; exact h.1
theorem paid_k {r : List UpdM} (u : UpdM) (h : paid r u = true) : u.kind = 1 := by simp [paid] at h; exact h.1

section
variable {F0 : List AId} {G0 G : Heap} {ps : List LP} {Q : AVal → Heap → Prop}

theorem escrowref13_amount.use {a : Int} (hQ : Q (.bool (decide (amt a))) G) : ACalls P escrowref13_amount.n [.int .i64 a] G Q := by
  refine escrowref13_amount.sound ?_
  unfold escrowref13_amount.S
  rw [vbin_geq, wv_some, brB_dec]
  refine ⟨fun h => ?_, fun h => ?_⟩
  · rw [vbin_leq, wv_some]
    have e : decide (amt a) = decide (a ≤ 1152921504606846976) := decide_eq_decide.2 ⟨fun hh => hh.2, fun hh => ⟨h, hh⟩⟩
    rw [e] at hQ
    exact hQ
  · have e : decide (amt a) = false := decide_eq_false fun hh => h hh.1
    rw [e] at hQ
    exact hQ

set_option maxHeartbeats 8000000 in
theorem escrowref13_Fold.use {v w : AVal} {bo bp co cp : Int} {ours peers : List UpdM} (hl : CapSl 36 G v (ours.map UpdM.av)) (hp : CapSl 36 G w (peers.map UpdM.av)) (hok : ∀ u ∈ ours, u.ok) (hok2 : ∀ u ∈ peers, u.ok) (hlen : ours.length ≤ 1048576) (hlen2 : peers.length ≤ 1048576)
    (hQ : ∀ x G', Sp [] G [OwnL 35 x ((foldS bo bp ours peers co cp).l.map PenM.av)] G' → Q (.tuple [ledV (foldS bo bp ours peers co cp).o (foldS bo bp ours peers co cp).q x, .int .i64 (foldS bo bp ours peers co cp).e]) G') :
    ACalls P escrowref13_Fold.n [.int .i64 bo, .int .i64 bp, v, w, pairW co cp] G Q := by
  refine escrowref13_Fold.sound ?_
  unfold escrowref13_Fold.S
  rw [zLed, zWide13]
  obtain ⟨F, hF⟩ : ∃ F, F = foldS bo bp ours peers co cp := ⟨_, rfl⟩
  rw [← hF] at hQ
  intro i1 f1
  have s1 := (Sp.nil G).row f1 (pairW co cp)
  intro i3 f3
  have s3 := s1.row f3 (ledV 0 0 .nilSlice)
  revert s3
  generalize Heap.upd _ i3 _ = G4
  intro s3 J93
  have no : ∀ (e : Int) (G2 : Heap) (j : Nat) (ps : List LP), Sp [] G ps G2 → ps[j]? = some (RowL i3 (ledV 0 0 .nilSlice)) → F = .no e → wv (vbuild T t_api_Ledger []) fun v17 => wg (vstore T G2 t_api_Ledger (.ptr i3 [] 0) v17) fun G18 => wv (vload T G18 t_api_Ledger (.ptr i3 [] 0)) fun v19 => Q (.tuple [v19, .int .i64 e]) G18 := by
    intro e G2 j ps s hj he
    refine wv_of (v := ledV 0 0 .nilSlice) rfl ?_
    refine led_store (i := j) s hj rfl nil_leaf fun G18 s18 => ?_
    refine wv_of (led_load (i := j) s18 (by rw [List.getElem?_set_self (List.getElem?_eq_some_iff.1 hj).1]) nil_leaf).2.2.2 ?_
    have := hQ .nilSlice G18
    rw [he] at this
    exact this (((Sp.nil G).tmp s18.ch).nilL 35)
  have bad : ¬ (inC co cp ours peers ∧ amt bo ∧ amt bp ∧ amt (bo + bp)) → J93 (.bool true) G4 := by
    intro h
    simp -zeta only [J93, brB_true]
    exact no 1 G4 0 _ s3 rfl (by rw [hF]; unfold foldS; rw [if_neg h])
  have good : inC co cp ours peers → (amt bo ∧ amt bp ∧ amt (bo + bp)) → J93 (.bool false) G4 := by
    intro hC hA
    simp -zeta only [J93, brB_false]
    have hFM : F = foldM bo bp (ours.take co.toNat) (peers.take cp.toNat) := by rw [hF]; unfold foldS; rw [if_pos ⟨hC, hA⟩]
    obtain ⟨c1, c2, c3, c4⟩ := hC
    obtain ⟨l1, l2, _⟩ := count_load (RowL.own (i := 1) s3 rfl)
    refine wv_of l1 ?_
    obtain ⟨va, ea, ca⟩ := CapSl.take (ie := ti_api_Update) (k := .i64) (m := co.toNat) (x := co) T_sl_api_Update rfl T_api_Update hl (by omega) (by rw [List.length_map]; omega)
    refine wv_of ea ?_
    refine wv_of l2 ?_
    obtain ⟨vb, eb, cb⟩ := CapSl.take (ie := ti_api_Update) (k := .i64) (m := cp.toNat) (x := cp) T_sl_api_Update rfl T_api_Update hp (by omega) (by rw [List.length_map]; omega)
    refine wv_of eb ?_
    rw [← List.map_take] at ca cb
    obtain ⟨A, hAd⟩ : ∃ A, A = ours.take co.toNat := ⟨_, rfl⟩
    obtain ⟨B, hBd⟩ : ∃ A, A = peers.take cp.toNat := ⟨_, rfl⟩
    rw [← hAd] at ca hFM
    rw [← hBd] at cb hFM
    have okA : ∀ u ∈ A, u.ok := by rw [hAd]; exact fun u hu => hok u (List.mem_of_mem_take hu)
    have okB : ∀ u ∈ B, u.ok := by rw [hBd]; exact fun u hu => hok2 u (List.mem_of_mem_take hu)
    have lA : A.length ≤ 1048576 := by rw [hAd, List.length_take]; omega
    have lB : B.length ≤ 1048576 := by rw [hBd, List.length_take]; omega
    have iA : IsSl 36 G va (A.map UpdM.av) := ca.isSl
    have iB : IsSl 36 G vb (B.map UpdM.av) := cb.isSl
    intro J92
    have s3 : Sp [] G [RowL i3 (ledV 0 0 .nilSlice), RowL i1 (pairW co cp)] G4 := s3
    have bad2 : ∀ G2, Sp [] G [RowL i3 (ledV 0 0 .nilSlice), RowL i1 (pairW co cp)] G2 → (allV A = false ∨ allV B = false) → J92 (.bool true) G2 := by
      intro G2 s2 h
      simp -zeta only [J92, brB_true]
      exact no 120 G2 0 _ s2 rfl (by rw [hFM, foldM_bad h])
    have good2 : ∀ G2, Sp [] G [RowL i3 (ledV 0 0 .nilSlice), RowL i1 (pairW co cp)] G2 → ¬ (allV A = false ∨ allV B = false) → J92 (.bool false) G2 := by
      intro G2 s2 h
      have vA : allV A = true := by
        cases hh : allV A with
        | true => rfl
        | false => exact absurd (.inl hh) h
      have vB : allV B = true := by
        cases hh : allV B with
        | true => rfl
        | false => exact absurd (.inr hh) h
      have aA := allV_spec vA
      have aB := allV_spec vB
      have m1 := side_mid (f := stays B) aA stays_k lA
      have m2 := side_mid (f := paid B) aA paid_k lA
      have m3 := side_mid (f := stays A) aB stays_k lB
      have m4 := side_mid (f := paid A) aB paid_k lB
      obtain ⟨⟨ho1, ho2⟩, ⟨hp1, hp2⟩, hs1, hs2⟩ := hA
      simp -zeta only [J92, brB_false]
      refine wv_of (v := wdR 0) rfl ?_
      refine escrowref13_plus.use ⟨by decide, by decide⟩ ⟨ho1, ho2⟩ fun G47 c47 => ?_
      have s47 := s2.tmp c47
      refine wv_of (v := wdR 0) rfl ?_
      refine escrowref13_plus.use ⟨by decide, by decide⟩ ⟨hp1, hp2⟩ fun G50 c50 => ?_
      have s50 := s47.tmp c50
      rw [Int.zero_add, Int.zero_add]
      refine escrowref13_side.use (iA.ch' s50.ch) (iB.ch' s50.ch) okA okB aA lA lB ⟨by omega, by omega⟩ ⟨by omega, by omega⟩ fun w1 G52 t52 => ?_
      obtain ⟨F52, o52, k52⟩ := t52.out
      have s52 := s50.new o52 k52
      refine wv_of (tv0' _ _ _) ?_
      refine wv_of (tv1' _ _ _) ?_
      refine wv_of (tv2' _ _ _) ?_
      intro i56 f56
      have s57 := s52.row f56 (pairW 0 0)
      intro i58 f58
      have s59 := s57.row f58 (pairW 0 0)
      refine wide13_store (i := 1) s59 rfl fun G60 s60 => ?_
      refine wide13_store (i := 0) s60 rfl fun G61 s61 => ?_
      have s61 : Sp [] G [RowL i58 (wdR (bp + sumF (paid B) A)), RowL i56 (wdR (bo - sumF (stays B) A)), OwnL 35 w1 ((sortP (pensF true (opens B) A)).map PenM.av), RowL i3 (ledV 0 0 .nilSlice), RowL i1 (pairW co cp)] G61 := s61
      refine wv_of (pair_load (RowL.own (i := 0) s61 rfl) T_escrowref13_Wide rfl).2.2 ?_
      refine wv_of (pair_load (RowL.own (i := 1) s61 rfl) T_escrowref13_Wide rfl).2.2 ?_
      refine escrowref13_side.use (iB.ch' s61.ch) (iA.ch' s61.ch) okB okA aB lB lA ⟨by omega, by omega⟩ ⟨by omega, by omega⟩ fun w2 G65 t65 => ?_
      obtain ⟨F65, o65, k65⟩ := t65.out
      have s65 := s61.new o65 k65
      refine wv_of (tv0' _ _ _) ?_
      refine wv_of (tv1' _ _ _) ?_
      refine wv_of (tv2' _ _ _) ?_
      have eY : bp + sumF (paid B) A - sumF (stays A) B = foldY bp A B := rfl
      have eX : bo - sumF (stays B) A + sumF (paid A) B = foldX bo A B := rfl
      rw [eY, eX]
      obtain ⟨X, hX⟩ : ∃ X, X = foldX bo A B := ⟨_, rfl⟩
      obtain ⟨Y, hY⟩ : ∃ Y, Y = foldY bp A B := ⟨_, rfl⟩
      have hfl := fold_le (bo := bo) (bp := bp) aA aB hs2
      have hlow := foldM_low (bo := bo) (bp := bp) h
      have hfine := foldM_fine (bo := bo) (bp := bp) h
      have bX : small X := by rw [hX]; unfold foldX small; omega
      have bY : small Y := by rw [hY]; unfold foldY small; omega
      rw [← hX, ← hY] at hfl hlow hfine ⊢
      refine wide13_store (i := 1) s65 rfl fun G69 s69 => ?_
      refine wide13_store (i := 2) s69 rfl fun G70 s70 => ?_
      have s70 : Sp [] G [OwnL 35 w2 ((sortP (pensF false (opens A) B)).map PenM.av), RowL i58 (wdR Y), RowL i56 (wdR X), OwnL 35 w1 ((sortP (pensF true (opens B) A)).map PenM.av), RowL i3 (ledV 0 0 .nilSlice), RowL i1 (pairW co cp)] G70 := s70
      intro J91
      have low : (X < 0 ∨ Y < 0) → J91 (.bool true) G70 := by
        intro hh
        simp -zeta only [J91, brB_true]
        exact no 130 G70 4 _ s70 rfl (by rw [hFM, hlow hh])
      have fine : ¬ (X < 0 ∨ Y < 0) → J91 (.bool false) G70 := by
        intro hh
        simp -zeta only [J91, brB_false]
        have cX := (value_same (t := X) (by omega) (hfl.1 (by omega))).2
        have cY := (value_same (t := Y) (by omega) (hfl.2 (by omega))).2
        refine wv_of (pair_load (RowL.own (i := 2) s70 rfl) T_escrowref13_Wide rfl).2.2 ?_
        refine wv_of (pair_load (RowL.own (i := 1) s70 rfl) T_escrowref13_Wide rfl).2.2 ?_
        refine escrowref13_cut.use bX fun G83 c83 => ?_
        have s83 := s70.tmp c83
        refine ⟨⟨(pair_load (RowL.own (i := 1) s83 rfl) T_escrowref13_Wide rfl).2.2, trivial⟩, ?_⟩
        refine escrowref13_cut.use bY fun G85 c85 => ?_
        have s85 := s83.tmp c85
        rw [cX, cY]
        have hlo := foldO_len A B
        unfold foldO at hlo
        rw [List.length_append] at hlo
        refine growL_pen (i := 3) s85 rfl (OwnL.own (i := 0) s85 rfl).is (sortP_ok (pensF_ok okB)) (by omega) fun w3 G87 s87 => ?_
        have s87 : Sp [] G [OwnL 35 w2 ((sortP (pensF false (opens A) B)).map PenM.av), RowL i58 (wdR Y), RowL i56 (wdR X), OwnL 35 w3 ((foldO A B).map PenM.av), RowL i3 (ledV 0 0 .nilSlice), RowL i1 (pairW co cp)] G87 := s87
        have lw3 := (OwnL.own (i := 3) s87 rfl).leaf
        refine wv_of (build_led lw3.1) ?_
        refine led_store (i := 4) s87 rfl rfl lw3 fun G89 s89 => ?_
        refine wv_of (led_load (i := 4) s89 rfl lw3).2.2.2 ?_
        have hF2 : F = ⟨X, Y, foldO A B, 0⟩ := by rw [hFM, hfine hh]
        rw [hF2] at hQ
        refine hQ w3 G89 ?_
        exact ((((s89.erase 0).erase 0).erase 0).erase 1).erase 1
      refine wv_of (pair_load (RowL.own (i := 2) s70 rfl) T_escrowref13_Wide rfl).1 ?_
      rw [vbin_lss, wv_some]
      by_cases h1 : X / 1152921504606846976 < 0
      · rw [decide_eq_true h1, brB_true]
        exact low (.inl ((unit_neg X).1 h1))
      · rw [decide_eq_false h1, brB_false]
        refine wv_of (pair_load (RowL.own (i := 1) s70 rfl) T_escrowref13_Wide rfl).1 ?_
        rw [vbin_lss, wv_some]
        by_cases h2 : Y / 1152921504606846976 < 0
        · rw [decide_eq_true h2]
          exact low (.inr ((unit_neg Y).1 h2))
        · rw [decide_eq_false h2]
          exact fine fun hh => hh.elim (fun q => h1 ((unit_neg X).2 q)) (fun q => h2 ((unit_neg Y).2 q))
    refine escrowref13_valid.use (iA.ch' s3.ch) okA lA fun G35 c35 => ?_
    have s35 := s3.tmp c35
    rw [vun_not, wv_some]
    cases vA : allV A with
    | false => exact bad2 _ s35 (.inl vA)
    | true =>
      rw [Bool.not_true, brB_false]
      refine escrowref13_valid.use (iB.ch' s35.ch) okB lB fun G37 c37 => ?_
      have s37 := s35.tmp c37
      rw [vun_not, wv_some]
      cases vB : allV B with
      | false => exact bad2 _ s37 (.inr vB)
      | true => exact good2 _ s37 (by rw [vA, vB]; simp)
  obtain ⟨l1, l2, _⟩ := count_load (RowL.own (i := 1) s3 rfl)
  refine wv_of l1 ?_
  rw [vbin_lss, wv_some, brB_dec]
  refine ⟨fun h => bad fun hh => by have := hh.1.1; omega, fun h1 => ?_⟩
  refine wv_of l1 ?_
  refine wv_of (upd_len (hl.isSl.ch' s3.ch)) ?_
  rw [vbin_gtr, wv_some, brB_dec]
  refine ⟨fun h => bad fun hh => by have := hh.1.2.1; omega, fun h2 => ?_⟩
  refine wv_of l2 ?_
  rw [vbin_lss, wv_some, brB_dec]
  refine ⟨fun h => bad fun hh => by have := hh.1.2.2.1; omega, fun h3 => ?_⟩
  refine wv_of l2 ?_
  refine wv_of (upd_len (hp.isSl.ch' s3.ch)) ?_
  rw [vbin_gtr, wv_some, brB_dec]
  refine ⟨fun h => bad fun hh => by have := hh.1.2.2.2; omega, fun h4 => ?_⟩
  have hC : inC co cp ours peers := ⟨by omega, by omega, by omega, by omega⟩
  refine escrowref13_amount.use ?_
  rw [vun_not, wv_some, brB_ndec]
  refine ⟨fun h => bad fun hh => h hh.2.1, fun h5 => ?_⟩
  refine escrowref13_amount.use ?_
  rw [vun_not, wv_some, brB_ndec]
  refine ⟨fun h => bad fun hh => h hh.2.2.1, fun h6 => ?_⟩
  obtain ⟨h51, h52⟩ := h5
  obtain ⟨h61, h62⟩ := h6
  rw [vbin_add, i64_in (by omega) (by omega), wv_some]
  refine escrowref13_amount.use ?_
  rw [vun_not, wv_some]
  by_cases h7 : amt (bo + bp)
  · rw [decide_eq_true h7]
    exact good hC ⟨⟨h51, h52⟩, ⟨h61, h62⟩, h7⟩
  · rw [decide_eq_false h7]
    exact bad fun hh => h7 hh.2.2.2

end

end Go.Esc.M

/- Own work. Chapter 13: the first answers; LedgerSpends. -/
set_option linter.unusedSimpArgs false
set_option linter.unusedVariables false
namespace Go.Esc.M
open Go Go.Esc

theorem Own.capSl {n : Nat} {G : Heap} {v : AVal} {vs : List AVal} (h : Own n G v vs) : CapSl n G v vs := by
  have hs := h.is.elems
  rcases h with ⟨rfl, rfl⟩ | ⟨id, len, cap, cs, rfl, hg, hc, hl, hu, hv⟩
  · exact .inr ⟨rfl, rfl⟩
  · exact .inl ⟨_, _, _, _, _, _, rfl, by omega, hs⟩
theorem CapSl.nil {n : Nat} {G : Heap} : CapSl n G .nilSlice [] := .inr ⟨rfl, rfl⟩

theorem wt_Counts {G : Heap} {R d : Nat} {v : AVal} {m : Nat} (h : wt T G R (d + 2) t_api_Counts v m) : ∃ a b : Int, v = pairW a b ∧ I64 a ∧ I64 b := by
  obtain ⟨cs, ms, rfl, hf, rfl⟩ := wt_struct T_api_Counts rfl h
  obtain ⟨c1, cs, m1, ms, rfl, rfl, h1, hf⟩ := wfs_cons hf
  obtain ⟨c2, cs, m2, ms, rfl, rfl, h2, hf⟩ := wfs_cons hf
  obtain ⟨rfl, rfl⟩ := wfs_nil hf
  obtain ⟨a, rfl, w1, _⟩ := wt_int T_int rfl h1
  obtain ⟨b, rfl, w2, _⟩ := wt_int T_int rfl h2
  exact ⟨a, b, rfl, i64_wf.1 w1, i64_wf.1 w2⟩
theorem wt_UpdsM {G : Heap} {R d : Nat} {v : AVal} {m : Nat} (h : wt T G R (d + 4) t_sl_api_Update v m) : ∃ l : List UpdM, RoSl 36 G v (l.map UpdM.av) ∧ (∀ u ∈ l, u.ok) ∧ l.length * 72 ≤ R ∧ l.length ≤ m := by
  obtain ⟨xs, ms, hro, hall, hms, hR, _⟩ := wt_ro UpdM.av (fun u m => u.ok ∧ 1 ≤ m) T_sl_api_Update rfl T_api_Update (fun c m h => by
    obtain ⟨u, hu, ho, _⟩ := wt_Upd h
    obtain ⟨_, ms, _, _, e⟩ := wt_struct T_api_Update rfl h
    exact ⟨u, hu, ho, by omega⟩) h
  have hlen := hall.length fun c m h => h.2
  refine ⟨xs, hro, fun u hu => ?_, hR, by omega⟩
  obtain ⟨m, hm, _⟩ := hall.mem hu
  exact hm.1

def uL : UpdM := ⟨1, 0, 600, h0, []⟩
def pL : PenM := ⟨true, 0, 600, h0⟩
theorem uL_ok : ∀ u ∈ [uL], u.ok := fun u hu => by rw [List.mem_singleton.1 hu]; exact ⟨⟨by decide, by decide⟩, ⟨by decide, by decide⟩, ⟨by decide, by decide⟩, rfl, by decide⟩
theorem pL_ok : pL.ok := ⟨⟨by decide, by decide⟩, ⟨by decide, by decide⟩, rfl⟩
theorem fold_A : foldS 700 300 [uL] [] 1 0 = ⟨100, 300, [pL], 0⟩ := by rfl
theorem fold_B : foldS 500 300 [uL] [] 1 0 = .no 130 := by rfl
theorem spend_A : spendS 700 [uL] [] 0 0 = 100 := by rfl
theorem open_A : openN [uL] [] 0 = 1 := by rfl

section
variable {F0 : List AId} {G0 G : Heap} {ps : List LP} {Q : AVal → Heap → Prop}

theorem newLed {o q : Int} {v : AVal} {K : AId → Heap → Prop} (hs : Sp F0 G0 ps G) (hv : sz v = 1 ∧ v.isAgg = false ∧ okv v = true) (hK : ∀ i G', Sp F0 G0 (RowL i (ledV o q v) :: ps) G' → K i G') :
    aNew G (.own z_api_Ledger) fun i G2 => wg (vstore T G2 t_api_Ledger (.ptr i [] 0) (ledV o q v)) fun G3 => K i G3 := by
  obtain ⟨h1, h2, h3⟩ := led_whole (o := o) (q := q) hv
  exact newVal hs T_api_Ledger h1 (by rw [h2]; rfl) h3 hK
theorem buildP {p : PenM} {K : AVal → Heap → Prop} (hs : Sp F0 G0 ps G) (hp : p.ok) (hK : ∀ v G', Sp F0 G0 (OwnL 35 v ([p].map PenM.av) :: ps) G' → K v G') : aBuildSlice T t_sl_api_Pending 1 [(0, p.av)] G K :=
  buildV (T := T) (ts := t_sl_api_Pending) (e := t_api_Pending) (si := ti_sl_api_Pending) (ie := ti_api_Pending) T_sl_api_Pending rfl T_api_Pending rfl hs (PenM.sz hp) (by decide) hK

set_option maxHeartbeats 1000000 in
theorem escrowlaw13_first.use (hQ : ∀ G', Ch [] G [] G' → Q (.bool true) G') : ACalls P escrowlaw13_first.n [] G Q := by
  refine escrowlaw13_first.sound ?_
  unfold escrowlaw13_first.S
  refine wv_of (v := uL.av) rfl ?_
  refine buildV (T := T) (ts := t_sl_api_Update) (e := t_api_Update) (si := ti_sl_api_Update) (ie := ti_api_Update) T_sl_api_Update rfl T_api_Update rfl (Sp.nil G) (UpdM.sz (uL_ok _ (by simp))) (by decide) fun v2 G3 s3 => ?_
  have s3 : Sp [] G [OwnL 36 v2 ([uL].map UpdM.av)] G3 := s3
  refine wv_of (v := pairW 1 0) rfl ?_
  refine ledger_Fold.use (ours := [uL]) (peers := []) (Own.capSl (OwnL.own (i := 0) s3 rfl)) CapSl.nil uL_ok (by simp) (by decide) (by decide) fun x G6 t6 => ?_
  rw [fold_A] at t6 ⊢
  obtain ⟨F6, o6, c6⟩ := t6.out
  have s6 := s3.new o6 c6
  have lx := (OwnL.own (i := 0) s6 rfl).leaf
  refine wv_of (tv0 _ _) ?_
  refine wv_of (tv1 _ _) ?_
  refine newLed s6 lx fun i9 G11 s11 => ?_
  refine wv_of (v := pairW 1 0) rfl ?_
  refine ledger_Fold.use (ours := [uL]) (peers := []) (Own.capSl (OwnL.own (i := 2) s11 rfl)) CapSl.nil uL_ok (by simp) (by decide) (by decide) fun y G14 t14 => ?_
  rw [fold_B] at t14 ⊢
  obtain ⟨F14, o14, c14⟩ := t14.out
  have s14 := s11.new o14 c14
  have ly := (OwnL.own (i := 0) s14 rfl).leaf
  refine wv_of (tv0 _ _) ?_
  refine wv_of (tv1 _ _) ?_
  refine newLed s14 ly fun i17 G19 s19 => ?_
  refine wv_of (v := pairW 0 0) rfl ?_
  refine ledger_Spendable.use (mine := [uL]) (others := []) (Own.capSl (OwnL.own (i := 4) s19 rfl)) CapSl.nil uL_ok (by simp) (by decide) (by decide) fun G22 c22 => ?_
  have s22 := s19.tmp c22
  have s22 : Sp [] G [RowL i17 (ledV 0 0 y), OwnL 35 y [], RowL i9 (ledV 100 300 x), OwnL 35 x ([pL].map PenM.av), OwnL 36 v2 ([uL].map UpdM.av)] G22 := s22
  rw [spend_A, ez0, wv_some, brB_true]
  show wv (vbin T .eql t_api_Errno (.int .i64 130) (.int .i64 130)) _
  rw [ez0, wv_some, brB_true]
  refine wv_of (led_load (i := 2) s22 rfl lx).2.2.2 ?_
  refine wv_of (v := pL.av) rfl ?_
  refine buildP s22 pL_ok fun v27 G28 s28 => ?_
  have l27 := (OwnL.own (i := 0) s28 rfl).leaf
  refine wv_of (build_led l27.1) ?_
  have hokP : ∀ p ∈ [pL], p.ok := fun p hp => by rw [List.mem_singleton.1 hp]; exact pL_ok
  refine escrowlaw13_SameLedger.use (l := [pL]) (l' := [pL]) (OwnL.own (i := 4) s28 rfl).is (OwnL.own (i := 0) s28 rfl).is hokP hokP (by decide) fun b G31 hb c31 => ?_
  have s31 := s28.tmp c31
  rw [hb.2 ⟨rfl, rfl, rfl⟩, brB_true, ez0, wv_some, brB_true]
  refine ledger_Open.use (mine := [uL]) (others := []) (OwnL.own (i := 5) s31 rfl).is CapSl.nil uL_ok (by simp) (by decide) (by decide) fun G34 c34 => ?_
  have s34 := s31.tmp c34
  rw [open_A]
  exact hQ _ s34.ch

theorem copy_lent {j q : Nat} {v w x : AVal} {l l' : List UpdM} {K : AVal → Heap → Prop} (hs : Sp F0 G0 ps G) (hi : ps[j]? = some (OwnL 36 v ((l ++ [u7]).map UpdM.av))) (L : LentG w v l.length (l.length + 1)) (hq : ps[q]? = some (OwnL 36 x (l'.map UpdM.av))) (hok : ∀ u ∈ l', u.ok) (hl : l'.length = l.length)
    (hK : ∀ G', Sp F0 G0 (ps.set j (OwnL 36 v ((l' ++ [u7]).map UpdM.av))) G' → K (.int .i64 ((l.length : Nat) : Int)) G') : aCopy T G t_sl_api_Update w x K := by
  have h1 : ((l ++ [u7]).map UpdM.av).length = l.length + 1 := by simp
  rw [← h1] at L
  refine Sp.copyL (m := l.length) T_sl_api_Update rfl T_api_Update hs hi L (by rw [h1]; omega) (OwnL.own hs hq).is.elems (by rw [List.length_map, hl]) (upds_uni hok).1 (upds_uni hok).2 fun G' s => hK G' ?_
  have e : l'.map UpdM.av ++ ((l ++ [u7]).map UpdM.av).drop l.length = (l' ++ [u7]).map UpdM.av := by
    rw [List.map_append, List.map_append, List.drop_left' (by simp)]
  rw [← e]
  exact s

set_option maxRecDepth 20000 in
set_option maxHeartbeats 4000000 in
theorem law_LedgerSpends {R : Nat} {G : Heap} {b v w f : AVal} {m1 m2 m3 m4 : Nat} (h1 : wt T G R 4 t_int64 b m1) (h2 : wt T G R 4 t_sl_api_Update v m2) (h3 : wt T G R 4 t_sl_api_Update w m3) (h4 : wt T G R 4 t_api_Counts f m4) (hm : m1 + (m2 + (m3 + m4)) ≤ 1048576) :
    ACalls P escrowlaw13_LedgerSpends.n [b, v, w, f] G fun v _ => v = .bool true := by
  obtain ⟨base, rfl, _⟩ := wt_int T_int64 rfl h1
  obtain ⟨mine, hro1, hok1, _, hl1⟩ := wt_UpdsM h2
  obtain ⟨others, hro2, hok2, _, hl2⟩ := wt_UpdsM h3
  obtain ⟨fo, fp, rfl, _, _⟩ := wt_Counts h4
  have n1 : mine.length ≤ 1048576 := by omega
  have n2 : others.length ≤ 1048576 := by omega
  refine escrowlaw13_LedgerSpends.sound ?_
  unfold escrowlaw13_LedgerSpends.S
  intro i1 f1
  have s1 := (Sp.nil G).row f1 (pairW fo fp)
  refine escrowlaw13_first.use fun G4 c4 => ?_
  have s4 := s1.tmp c4
  rw [vun_not, wv_some, Bool.not_true, brB_false]
  refine escrowlaw13_lend.use (hro1.is.ch' s4.ch) hok1 n1 fun x ux G7 Lx t7 => ?_
  obtain ⟨F7, o7, c7⟩ := t7.out
  have s7 := s4.new o7 c7
  refine escrowlaw13_lend.use (hro2.is.ch' s7.ch) hok2 n2 fun y uy G9 Ly t9 => ?_
  obtain ⟨F9, o9, c9⟩ := t9.out
  have s9 := s7.new o9 c9
  have s9 : Sp [] G [OwnL 36 uy ((others ++ [u7]).map UpdM.av), OwnL 36 ux ((mine ++ [u7]).map UpdM.av), RowL i1 (pairW fo fp)] G9 := s9
  refine wv_of (count_load (RowL.own (i := 2) s9 rfl)).2.2 ?_
  refine ledger_Spendable.use (lent_is Lx (OwnL.own (i := 1) s9 rfl)) (lent_is Ly (OwnL.own (i := 0) s9 rfl)) hok1 hok2 n1 n2 fun G12 c12 => ?_
  have s12 := s9.tmp c12
  refine wv_of (count_load (RowL.own (i := 2) s12 rfl)).2.1 ?_
  refine ledger_Open.use (lent_is Lx (OwnL.own (i := 1) s12 rfl)).isSl (lent_is Ly (OwnL.own (i := 0) s12 rfl)) hok1 hok2 n1 n2 fun G15 c15 => ?_
  have s15 := s12.tmp c15
  intro J64
  have go : ∀ G2, Sp [] G [OwnL 36 uy ((others ++ [u7]).map UpdM.av), OwnL 36 ux ((mine ++ [u7]).map UpdM.av), RowL i1 (pairW fo fp)] G2 → J64 (.bool false) G2 := by
    intro G30 s30
    simp -zeta only [J64, brB_false]
    have k1 := more_ok hok1
    have k2 := more_ok hok2
    refine escrowlaw13_more.use (hro1.is.ch' s30.ch) hok1 n1 fun p1 G33 t33 => ?_
    obtain ⟨F33, o33, c33⟩ := t33.out
    have s33 := s30.new o33 c33
    refine copy_lent (j := 2) (q := 0) s33 rfl Lx rfl k1 (by simp) fun G35 s35 => ?_
    refine escrowlaw13_more.use (hro2.is.ch' s35.ch) hok2 n2 fun p2 G37 t37 => ?_
    obtain ⟨F37, o37, c37⟩ := t37.out
    have s37 := s35.new o37 c37
    refine copy_lent (j := 2) (q := 0) s37 rfl Ly rfl k2 (by simp) fun G39 s39 => ?_
    have s39 : Sp [] G [OwnL 36 p2 ((others.map moreU).map UpdM.av), OwnL 36 p1 ((mine.map moreU).map UpdM.av), OwnL 36 uy ((others.map moreU ++ [u7]).map UpdM.av), OwnL 36 ux ((mine.map moreU ++ [u7]).map UpdM.av), RowL i1 (pairW fo fp)] G39 := s39
    have e1 : (mine.map moreU).length = mine.length := by simp
    have e2 : (others.map moreU).length = others.length := by simp
    rw [← e1] at Lx
    rw [← e2] at Ly
    refine wv_of (count_load (RowL.own (i := 4) s39 rfl)).2.2 ?_
    refine ledger_Spendable.use (lent_is Lx (OwnL.own (i := 3) s39 rfl)) (lent_is Ly (OwnL.own (i := 2) s39 rfl)) k1 k2 (by omega) (by omega) fun G42 c42 => ?_
    have s42 := s39.tmp c42
    refine wv_of (count_load (RowL.own (i := 4) s42 rfl)).2.1 ?_
    refine ledger_Open.use (lent_is Lx (OwnL.own (i := 3) s42 rfl)).isSl (lent_is Ly (OwnL.own (i := 2) s42 rfl)) k1 k2 (by omega) (by omega) fun G45 c45 => ?_
    have s45 := s42.tmp c45
    refine wv_of (count_load (RowL.own (i := 4) s45 rfl)).2.2 ?_
    refine escrowlaw13_more.use (hro1.is.ch' s45.ch) hok1 n1 fun p3 G48 t48 => ?_
    obtain ⟨F48, o48, c48⟩ := t48.out
    have s48 := s45.new o48 c48
    refine ⟨⟨(count_load (RowL.own (i := 5) s48 rfl)).2.2, trivial⟩, ?_⟩
    refine escrowlaw13_more.use (hro2.is.ch' s48.ch) hok2 n2 fun p4 G50 t50 => ?_
    obtain ⟨F50, o50, c50⟩ := t50.out
    have s50 := s48.new o50 c50
    refine ⟨⟨(count_load (RowL.own (i := 6) s50 rfl)).2.2, trivial⟩, ?_⟩
    refine escrowref13_Spendable.use (Own.capSl (OwnL.own (i := 1) s50 rfl)) (Own.capSl (OwnL.own (i := 0) s50 rfl)) k1 k2 (by omega) (by omega) fun G52 c52 => ?_
    have s52 := s50.tmp c52
    rw [ez0, wv_some, brB_true]
    refine wv_of (count_load (RowL.own (i := 6) s52 rfl)).2.1 ?_
    refine escrowlaw13_more.use (hro1.is.ch' s52.ch) hok1 n1 fun p5 G56 t56 => ?_
    obtain ⟨F56, o56, c56⟩ := t56.out
    have s56 := s52.new o56 c56
    refine ⟨⟨(count_load (RowL.own (i := 7) s56 rfl)).2.1, trivial⟩, ?_⟩
    refine escrowlaw13_more.use (hro2.is.ch' s56.ch) hok2 n2 fun p6 G58 t58 => ?_
    obtain ⟨F58, o58, c58⟩ := t58.out
    have s58 := s56.new o58 c58
    refine ⟨⟨(count_load (RowL.own (i := 8) s58 rfl)).2.1, trivial⟩, ?_⟩
    refine escrowref13_Open.use (OwnL.own (i := 1) s58 rfl).is (Own.capSl (OwnL.own (i := 0) s58 rfl)) k1 k2 (by omega) (by omega) fun G60 c60 => ?_
    rw [ez0, wv_some]
  refine wv_of (count_load (RowL.own (i := 2) s15 rfl)).2.2 ?_
  refine escrowref13_Spendable.use (hro1.cap.mv s15.ch) (hro2.cap.mv s15.ch) hok1 hok2 n1 n2 fun G18 c18 => ?_
  have s18 := s15.tmp c18
  rw [nz0, wv_some, brB_false]
  refine wv_of (count_load (RowL.own (i := 2) s18 rfl)).2.1 ?_
  refine escrowref13_Open.use (hro1.is.ch' s18.ch) (hro2.cap.mv s18.ch) hok1 hok2 n1 n2 fun G22 c22 => ?_
  have s22 := s18.tmp c22
  rw [nz0, wv_some, brB_false]
  refine escrowlaw13_kept.use Lx (OwnL.own (i := 1) s22 rfl) (hro1.is.ch' s22.ch) hok1 n1 fun G25 c25 => ?_
  have s25 := s22.tmp c25
  rw [vun_not, wv_some, Bool.not_true, brB_false]
  refine escrowlaw13_kept.use Ly (OwnL.own (i := 0) s25 rfl) (hro2.is.ch' s25.ch) hok2 n2 fun G28 c28 => ?_
  have s28 := s25.tmp c28
  rw [vun_not, wv_some, Bool.not_true]
  exact go _ s28

end

end Go.Esc.M

/- Own work. Chapter 13: LedgerFolds. -/
set_option linter.unusedSimpArgs false
set_option linter.unusedVariables false
namespace Go.Esc.M
open Go Go.Esc

def p1M : PenM := ⟨false, -1, 0, h0⟩
def p2M : PenM := ⟨false, -2, 0, h0⟩
theorem p1M_ok : p1M.ok := ⟨⟨by decide, by decide⟩, ⟨by decide, by decide⟩, rfl⟩
theorem p2M_ok : p2M.ok := ⟨⟨by decide, by decide⟩, ⟨by decide, by decide⟩, rfl⟩
theorem pens_len {G : Heap} {v : AVal} {l : List PenM} (h : IsSl 35 G v (l.map PenM.av)) : vlen T G t_sl_api_Pending v = some (.int .i64 (l.length : Nat)) := by
  rw [h.len (i := ti_sl_api_Pending) T_sl_api_Pending rfl, List.length_map]

set_option maxRecDepth 20000 in
set_option maxHeartbeats 8000000 in
theorem law_LedgerFolds {R : Nat} {G : Heap} {b b' v w f : AVal} {m0 m1 m2 m3 m4 : Nat} (h0' : wt T G R 4 t_int64 b m0) (h1 : wt T G R 4 t_int64 b' m1) (h2 : wt T G R 4 t_sl_api_Update v m2) (h3 : wt T G R 4 t_sl_api_Update w m3) (h4 : wt T G R 4 t_api_Counts f m4) (hm : m0 + (m1 + (m2 + (m3 + m4))) ≤ 1048576) :
    ACalls P escrowlaw13_LedgerFolds.n [b, b', v, w, f] G fun v _ => v = .bool true := by
  obtain ⟨bo, rfl, _⟩ := wt_int T_int64 rfl h0'
  obtain ⟨bp, rfl, _⟩ := wt_int T_int64 rfl h1
  obtain ⟨ours, hro1, hok1, _, hl1⟩ := wt_UpdsM h2
  obtain ⟨peers, hro2, hok2, _, hl2⟩ := wt_UpdsM h3
  obtain ⟨co, cp, rfl, _, _⟩ := wt_Counts h4
  have n1 : ours.length ≤ 1048576 := by omega
  have n2 : peers.length ≤ 1048576 := by omega
  refine escrowlaw13_LedgerFolds.sound ?_
  unfold escrowlaw13_LedgerFolds.S
  have hFok := foldS_ok (bo := bo) (bp := bp) (co := co) (cp := cp) hok1 hok2
  have hFlen := foldS_len bo bp ours peers co cp
  obtain ⟨F, hF⟩ : ∃ F, F = foldS bo bp ours peers co cp := ⟨_, rfl⟩
  rw [← hF] at hFok hFlen
  intro i1 f1
  have s1 := (Sp.nil G).row f1 (pairW co cp)
  refine escrowlaw13_first.use fun G4 c4 => ?_
  have s4 := s1.tmp c4
  rw [vun_not, wv_some, Bool.not_true, brB_false]
  refine escrowlaw13_lend.use (hro1.is.ch' s4.ch) hok1 n1 fun x ux G7 Lx t7 => ?_
  obtain ⟨F7, o7, c7⟩ := t7.out
  have s7 := s4.new o7 c7
  refine escrowlaw13_lend.use (hro2.is.ch' s7.ch) hok2 n2 fun y uy G9 Ly t9 => ?_
  obtain ⟨F9, o9, c9⟩ := t9.out
  have s9 := s7.new o9 c9
  have s9 : Sp [] G [OwnL 36 uy ((peers ++ [u7]).map UpdM.av), OwnL 36 ux ((ours ++ [u7]).map UpdM.av), RowL i1 (pairW co cp)] G9 := s9
  refine wv_of (count_load (RowL.own (i := 2) s9 rfl)).2.2 ?_
  refine ledger_Fold.use (lent_is Lx (OwnL.own (i := 1) s9 rfl)) (lent_is Ly (OwnL.own (i := 0) s9 rfl)) hok1 hok2 n1 n2 fun xa G12 t12 => ?_
  rw [← hF] at t12 ⊢
  obtain ⟨F12, o12, c12⟩ := t12.out
  have s12 := s9.new o12 c12
  have la := (OwnL.own (i := 0) s12 rfl).leaf
  refine wv_of (tv0 _ _) ?_
  refine wv_of (tv1 _ _) ?_
  refine newLed s12 la fun i15 G17 s17 => ?_
  refine wv_of (count_load (RowL.own (i := 4) s17 rfl)).2.2 ?_
  refine ledger_Fold.use (lent_is Lx (OwnL.own (i := 3) s17 rfl)) (lent_is Ly (OwnL.own (i := 2) s17 rfl)) hok1 hok2 n1 n2 fun xb G20 t20 => ?_
  rw [← hF] at t20 ⊢
  obtain ⟨F20, o20, c20⟩ := t20.out
  have s20 := s17.new o20 c20
  have lb := (OwnL.own (i := 0) s20 rfl).leaf
  refine wv_of (tv0 _ _) ?_
  refine wv_of (tv1 _ _) ?_
  refine newLed s20 lb fun i23 G25 s25 => ?_
  refine wv_of (count_load (RowL.own (i := 6) s25 rfl)).2.2 ?_
  refine escrowref13_Fold.use (hro1.cap.mv s25.ch) (hro2.cap.mv s25.ch) hok1 hok2 n1 n2 fun xw G28 t28 => ?_
  rw [← hF] at t28 ⊢
  obtain ⟨F28, o28, c28⟩ := t28.out
  have s28 := s25.new o28 c28
  have lw := (OwnL.own (i := 0) s28 rfl).leaf
  refine wv_of (tv0 _ _) ?_
  refine wv_of (tv1 _ _) ?_
  refine newLed s28 lw fun i31 G33 s33 => ?_
  have s33 : Sp [] G [RowL i31 (ledV F.o F.q xw), OwnL 35 xw (F.l.map PenM.av), RowL i23 (ledV F.o F.q xb), OwnL 35 xb (F.l.map PenM.av), RowL i15 (ledV F.o F.q xa), OwnL 35 xa (F.l.map PenM.av), OwnL 36 uy ((peers ++ [u7]).map UpdM.av), OwnL 36 ux ((ours ++ [u7]).map UpdM.av), RowL i1 (pairW co cp)] G33 := s33
  intro J129
  have go : ∀ G2, Sp [] G [RowL i31 (ledV F.o F.q xw), OwnL 35 xw (F.l.map PenM.av), RowL i23 (ledV F.o F.q xb), OwnL 35 xb (F.l.map PenM.av), RowL i15 (ledV F.o F.q xa), OwnL 35 xa (F.l.map PenM.av), OwnL 36 uy ((peers ++ [u7]).map UpdM.av), OwnL 36 ux ((ours ++ [u7]).map UpdM.av), RowL i1 (pairW co cp)] G2 → J129 (.bool false) G2 := by
    intro G52 s52
    simp -zeta only [J129, brB_false]
    intro R54 hR54
    have loop : ∀ (n j : Nat) (M : List PenM) (G' : Heap), F.l.length - j = n → j ≤ F.l.length → M.length = F.l.length →
        Sp [] G [RowL i31 (ledV F.o F.q xw), OwnL 35 xw (F.l.map PenM.av), RowL i23 (ledV F.o F.q xb), OwnL 35 xb (F.l.map PenM.av), RowL i15 (ledV F.o F.q xa), OwnL 35 xa (M.map PenM.av), OwnL 36 uy ((peers ++ [u7]).map UpdM.av), OwnL 36 ux ((ours ++ [u7]).map UpdM.av), RowL i1 (pairW co cp)] G' →
        R54 [.int .i64 bo, .int .i64 bp, v, w, .ptr i1 [] 0, x, y, .ptr i15 [] 0, .ptr i23 [] 0, .ptr i31 [] 0, .int .i64 (j : Int)] G' := by
      intro n
      induction n with
      | zero =>
        intro j M G' hn hj hM sp
        refine hR54 _ _ _ _ _ _ _ _ _ _ _ _ ?_
        refine wv_of (v := .ptr i15 [2] 2) rfl ?_
        refine wv_of (led_load (i := 4) sp rfl la).2.2.1 ?_
        refine wv_of (pens_len (OwnL.own (i := 5) sp rfl).is) ?_
        rw [vbin_lss, wv_some, decide_eq_false (by omega), brB_false]
        refine wv_of (v := .ptr i15 [2] 2) rfl ?_
        refine wv_of (led_load (i := 4) sp rfl la).2.2.1 ?_
        refine wv_of (v := p2M.av) rfl ?_
        refine grow_pen (i := 5) sp rfl p2M_ok (by omega) fun xl G83 s83 => ?_
        have k1 := more_ok hok1
        have k2 := more_ok hok2
        refine escrowlaw13_more.use (hro1.is.ch' s83.ch) hok1 n1 fun p1 G85 t85 => ?_
        obtain ⟨F85, o85, c85⟩ := t85.out
        have s85 := s83.new o85 c85
        refine copy_lent (j := 8) (q := 0) s85 rfl Lx rfl k1 (by simp) fun G87 s87 => ?_
        refine escrowlaw13_more.use (hro2.is.ch' s87.ch) hok2 n2 fun p2 G89 t89 => ?_
        obtain ⟨F89, o89, c89⟩ := t89.out
        have s89 := s87.new o89 c89
        refine copy_lent (j := 8) (q := 0) s89 rfl Ly rfl k2 (by simp) fun G91 s91 => ?_
        have s91 : Sp [] G [OwnL 36 p2 ((peers.map moreU).map UpdM.av), OwnL 36 p1 ((ours.map moreU).map UpdM.av), RowL i31 (ledV F.o F.q xw), OwnL 35 xw (F.l.map PenM.av), RowL i23 (ledV F.o F.q xb), OwnL 35 xb (F.l.map PenM.av), RowL i15 (ledV F.o F.q xa), OwnL 35 xl ((M ++ [p2M]).map PenM.av), OwnL 36 uy ((peers.map moreU ++ [u7]).map UpdM.av), OwnL 36 ux ((ours.map moreU ++ [u7]).map UpdM.av), RowL i1 (pairW co cp)] G91 := s91
        have e1 : (ours.map moreU).length = ours.length := by simp
        have e2 : (peers.map moreU).length = peers.length := by simp
        rw [← e1] at Lx
        rw [← e2] at Ly
        have hDok := foldS_ok (bo := bo) (bp := bp) (co := co) (cp := cp) k1 k2
        have hDlen := foldS_len bo bp (ours.map moreU) (peers.map moreU) co cp
        obtain ⟨D, hD⟩ : ∃ D, D = foldS bo bp (ours.map moreU) (peers.map moreU) co cp := ⟨_, rfl⟩
        rw [← hD] at hDok hDlen
        refine wv_of (count_load (RowL.own (i := 10) s91 rfl)).2.2 ?_
        refine ledger_Fold.use (lent_is Lx (OwnL.own (i := 9) s91 rfl)) (lent_is Ly (OwnL.own (i := 8) s91 rfl)) k1 k2 (by omega) (by omega) fun xd G94 t94 => ?_
        rw [← hD] at t94 ⊢
        obtain ⟨F94, o94, c94⟩ := t94.out
        have s94 := s91.new o94 c94
        have ld := (OwnL.own (i := 0) s94 rfl).leaf
        refine wv_of (tv0 _ _) ?_
        refine wv_of (tv1 _ _) ?_
        refine newLed s94 ld fun i97 G99 s99 => ?_
        refine wv_of (count_load (RowL.own (i := 12) s99 rfl)).2.2 ?_
        refine escrowlaw13_more.use (hro1.is.ch' s99.ch) hok1 n1 fun p3 G102 t102 => ?_
        obtain ⟨F102, o102, c102⟩ := t102.out
        have s102 := s99.new o102 c102
        refine ⟨⟨(count_load (RowL.own (i := 13) s102 rfl)).2.2, trivial⟩, ?_⟩
        refine escrowlaw13_more.use (hro2.is.ch' s102.ch) hok2 n2 fun p4 G104 t104 => ?_
        obtain ⟨F104, o104, c104⟩ := t104.out
        have s104 := s102.new o104 c104
        refine ⟨⟨(count_load (RowL.own (i := 14) s104 rfl)).2.2, trivial⟩, ?_⟩
        refine escrowref13_Fold.use (Own.capSl (OwnL.own (i := 1) s104 rfl)) (Own.capSl (OwnL.own (i := 0) s104 rfl)) k1 k2 (by omega) (by omega) fun xn G106 t106 => ?_
        rw [← hD] at t106 ⊢
        obtain ⟨F106, o106, c106⟩ := t106.out
        have s106 := s104.new o106 c106
        have ln := (OwnL.own (i := 0) s106 rfl).leaf
        refine wv_of (tv0 _ _) ?_
        refine wv_of (tv1 _ _) ?_
        refine newLed s106 ln fun i109 G111 s111 => ?_
        have s111 : Sp [] G [RowL i109 (ledV D.o D.q xn), OwnL 35 xn (D.l.map PenM.av), OwnL 36 p4 ((peers.map moreU).map UpdM.av), OwnL 36 p3 ((ours.map moreU).map UpdM.av), RowL i97 (ledV D.o D.q xd), OwnL 35 xd (D.l.map PenM.av), OwnL 36 p2 ((peers.map moreU).map UpdM.av), OwnL 36 p1 ((ours.map moreU).map UpdM.av), RowL i31 (ledV F.o F.q xw), OwnL 35 xw (F.l.map PenM.av), RowL i23 (ledV F.o F.q xb), OwnL 35 xb (F.l.map PenM.av), RowL i15 (ledV F.o F.q xa), OwnL 35 xl ((M ++ [p2M]).map PenM.av), OwnL 36 uy ((peers.map moreU ++ [u7]).map UpdM.av), OwnL 36 ux ((ours.map moreU ++ [u7]).map UpdM.av), RowL i1 (pairW co cp)] G111 := s111
        refine wv_of (pens_len (OwnL.own (i := 13) s111 rfl).is) ?_
        refine wv_of (v := .ptr i31 [2] 2) rfl ?_
        refine wv_of (led_load (i := 8) s111 rfl lw).2.2.1 ?_
        refine wv_of (pens_len (OwnL.own (i := 9) s111 rfl).is) ?_
        rw [vbin_add, i64_in (by omega) (by omega), wv_some, vbin_eql, wv_some, decide_eq_true (by rw [List.length_append, List.length_singleton, hM]; omega), brB_true]
        refine wv_of (led_load (i := 10) s111 rfl lb).2.2.2 ?_
        refine wv_of (led_load (i := 8) s111 rfl lw).2.2.2 ?_
        refine escrowlaw13_SameLedger.use (OwnL.own (i := 11) s111 rfl).is (OwnL.own (i := 9) s111 rfl).is hFok hFok (by omega) fun bb G121 hbb c121 => ?_
        have s121 := s111.tmp c121
        rw [hbb.2 ⟨rfl, rfl, rfl⟩, brB_true]
        refine wv_of (led_load (i := 4) s121 rfl ld).2.2.2 ?_
        refine wv_of (led_load (i := 0) s121 rfl ln).2.2.2 ?_
        refine escrowlaw13_SameLedger.use (OwnL.own (i := 5) s121 rfl).is (OwnL.own (i := 1) s121 rfl).is hDok hDok (by omega) fun bb G125 hbb c125 => ?_
        rw [hbb.2 ⟨rfl, rfl, rfl⟩, brB_true, ez0, wv_some]
      | succ n ih =>
        intro j M G' hn hj hM sp
        refine hR54 _ _ _ _ _ _ _ _ _ _ _ _ ?_
        refine wv_of (v := .ptr i15 [2] 2) rfl ?_
        refine wv_of (led_load (i := 4) sp rfl la).2.2.1 ?_
        refine wv_of (pens_len (OwnL.own (i := 5) sp rfl).is) ?_
        rw [vbin_lss, wv_some, decide_eq_true (by omega), brB_true]
        refine wv_of (v := .ptr i15 [2] 2) rfl ?_
        refine wv_of (led_load (i := 4) sp rfl la).2.2.1 ?_
        refine wv_of (v := p1M.av) rfl ?_
        obtain ⟨a, ha, hst⟩ := pen_set (i := 5) (j := j) (p := p1M) sp rfl (by omega) p1M_ok
        refine wv_of ha ?_
        refine hst _ fun G75 s75 => ?_
        rw [vbin_add, i64_in (by omega) (by omega), wv_some]
        exact ih (j + 1) (M.set j p1M) G75 (by omega) (by omega) (by rw [List.length_set]; exact hM) s75
    exact loop _ 0 F.l G52 rfl (by omega) rfl s52
  refine wv_of (led_load (i := 4) s33 rfl la).2.2.2 ?_
  refine wv_of (led_load (i := 0) s33 rfl lw).2.2.2 ?_
  refine escrowlaw13_SameLedger.use (OwnL.own (i := 5) s33 rfl).is (OwnL.own (i := 1) s33 rfl).is hFok hFok (by omega) fun bb G37 hbb c37 => ?_
  have s37 := s33.tmp c37
  rw [hbb.2 ⟨rfl, rfl, rfl⟩, vun_not, wv_some, Bool.not_true, brB_false]
  refine wv_of (led_load (i := 2) s37 rfl lb).2.2.2 ?_
  refine wv_of (led_load (i := 0) s37 rfl lw).2.2.2 ?_
  refine escrowlaw13_SameLedger.use (OwnL.own (i := 3) s37 rfl).is (OwnL.own (i := 1) s37 rfl).is hFok hFok (by omega) fun bb G42 hbb c42 => ?_
  have s42 := s37.tmp c42
  rw [hbb.2 ⟨rfl, rfl, rfl⟩, vun_not, wv_some, Bool.not_true, brB_false, nz0, wv_some, brB_false]
  refine escrowlaw13_kept.use Lx (OwnL.own (i := 7) s42 rfl) (hro1.is.ch' s42.ch) hok1 n1 fun G47 c47 => ?_
  have s47 := s42.tmp c47
  rw [vun_not, wv_some, Bool.not_true, brB_false]
  refine escrowlaw13_kept.use Ly (OwnL.own (i := 6) s47 rfl) (hro2.is.ch' s47.ch) hok2 n2 fun G50 c50 => ?_
  have s50 := s47.tmp c50
  rw [vun_not, wv_some, Bool.not_true]
  exact go _ s50

end Go.Esc.M
