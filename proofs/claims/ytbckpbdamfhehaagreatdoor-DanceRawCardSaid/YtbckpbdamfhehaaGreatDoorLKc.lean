import Derived.Test.YtbckpbdamfhehaaGreatDoorLKa
import Derived.Test.YtbckpbdamfhehaaGreatDoorLFa
/- Own work. Chapter 15: states with lists of any length: that the calls end. -/
set_option linter.unusedSimpArgs false
set_option linter.unusedVariables false
set_option maxRecDepth 20000
namespace Go.Esc.M
open Go Go.Esc

structure StL (G : Heap) (f : StF) (vo vp vh : AVal) : Prop where
  ok : f.s.ok
  o : CapSl 36 G vo (f.o.map UpdM.av)
  p : CapSl 36 G vp (f.p.map UpdM.av)
  h : CapSl 34 G vh (f.h.map SlotM.av)
  oko : ∀ u ∈ f.o, u.ok
  okp : ∀ u ∈ f.p, u.ok
  okh : ∀ x ∈ f.h, x.ok
  lo : f.o.length ≤ 1954687338211
  lp : f.p.length ≤ 1954687338211
  lh : f.h.length * 48 ≤ 140737488351232
theorem StL.lv {G : Heap} {f : StF} {vo vp vh : AVal} (h : StL G f vo vp vh) : Leaf vo ∧ Leaf vp ∧ Leaf vh := ⟨capLeaf h.o, capLeaf h.p, capLeaf h.h⟩
theorem StL.mv {G G' : Heap} {E : List AId} {f : StF} {vo vp vh : AVal} (h : StL G f vo vp vh) (hc : Ch [] G E G') : StL G' f vo vp vh :=
  ⟨h.ok, h.o.mv hc, h.p.mv hc, h.h.mv hc, h.oko, h.okp, h.okh, h.lo, h.lp, h.lh⟩

section
variable {F0 : List AId} {G0 G : Heap} {ps : List LP} {Q : AVal → Heap → Prop}

theorem dance_Fixed.big {f : StF} {vo vp vh : AVal} (h : StL G f vo vp vh) (hQ : ∀ G', Ch [] G [] G' → Q (pairW (fixA f.s) (fixB f.s)) G') : ACalls P dance_Fixed.n [f.s.av vo vp vh] G Q := by
  have ho := h.ok
  have hl := h.lv
  refine dance_Fixed.sound ?_
  unfold dance_Fixed.S
  intro i1 f1
  have s1 := (Sp.nil G).row f1 (f.s.av vo vp vh)
  intro i3 f3
  have zC : z_api_Counts = pairW 0 0 := rfl
  rw [zC]
  have s3 := s1.row f3 (pairW 0 0)
  revert s3
  generalize Heap.upd _ i3 _ = G4
  intro s3
  have hg := RowL.own (i := 1) s3 rfl
  refine wv_of (St.ld_atA hg ho hl) ?_
  refine wv_of (St.ld_heldA hg ho hl) ?_
  refine wv_of (v := .int .i64 (fixA f.s)) rfl ?_
  refine wv_of (St.ld_atB hg ho hl) ?_
  refine wv_of (St.ld_heldB hg ho hl) ?_
  refine wv_of (v := .int .i64 (fixB f.s)) rfl ?_
  refine wv_of (v := pairW (fixA f.s) (fixB f.s)) rfl ?_
  refine wg_of (whole_store (c := pairW (fixA f.s) (fixB f.s)) T_api_Counts (RowL.own (i := 0) s3 rfl) rfl rfl rfl) ?_
  have s4 := Sp.setRow (j := 0) s3 rfl (pairW (fixA f.s) (fixB f.s))
  refine wv_of (whole_load T_api_Counts (RowL.own (i := 0) s4 rfl) rfl) ?_
  exact hQ _ s4.ch

theorem dance_Spendable.any {f : StF} {vo vp vh : AVal} (h : StL G f vo vp vh) (hQ : ∀ (r : Int) G', Ch [] G [] G' → Q (.int .i64 r) G') : ACalls P dance_Spendable.n [f.s.av vo vp vh] G Q := by
  have ho := h.ok
  have hl := h.lv
  refine dance_Spendable.sound ?_
  unfold dance_Spendable.S
  intro i1 f1
  have s1 := (Sp.nil G).row f1 (f.s.av vo vp vh)
  have hg := RowL.own (i := 0) s1 rfl
  refine wv_of (St.ld_bo hg ho hl) ?_
  refine wv_of (St.ld_ours hg ho hl) ?_
  refine wv_of (St.ld_peers hg ho hl) ?_
  refine wv_of (St.ld hg ho hl) ?_
  refine dance_Fixed.big (h.mv s1.ch) fun G8 c8 => ?_
  have s8 := s1.tmp c8
  have hg := RowL.own (i := 0) s8 rfl
  refine ⟨⟨St.ld_peers hg ho hl, St.ld_ours hg ho hl, St.ld_bo hg ho hl, trivial⟩, ?_⟩
  refine ledger_Spendable.any (h.o.mv s8.ch) (h.p.mv s8.ch) h.oko h.okp (by have := h.lo; omega) (by have := h.lp; omega) fun r G10 c10 => ?_
  exact hQ _ _ (s8.tmp c10).ch

theorem dance_PeerSpendable.any {f : StF} {vo vp vh : AVal} (h : StL G f vo vp vh) (hQ : ∀ (r : Int) G', Ch [] G [] G' → Q (.int .i64 r) G') : ACalls P dance_PeerSpendable.n [f.s.av vo vp vh] G Q := by
  have ho := h.ok
  have hl := h.lv
  refine dance_PeerSpendable.sound ?_
  unfold dance_PeerSpendable.S
  intro i1 f1
  have s1 := (Sp.nil G).row f1 (f.s.av vo vp vh)
  have hg := RowL.own (i := 0) s1 rfl
  refine wv_of (St.ld_bp hg ho hl) ?_
  refine wv_of (St.ld_peers hg ho hl) ?_
  refine wv_of (St.ld_ours hg ho hl) ?_
  refine wv_of (St.ld hg ho hl) ?_
  refine dance_Fixed.big (h.mv s1.ch) fun G8 c8 => ?_
  have s8 := s1.tmp c8
  have hg := RowL.own (i := 0) s8 rfl
  refine ⟨⟨St.ld_ours hg ho hl, St.ld_peers hg ho hl, St.ld_bp hg ho hl, trivial⟩, ?_⟩
  refine dance_turned.use fun G10 c10 => ?_
  have s10 := s8.tmp c10
  have hg := RowL.own (i := 0) s10 rfl
  refine ⟨⟨St.ld_ours hg ho hl, St.ld_peers hg ho hl, St.ld_bp hg ho hl, trivial⟩, ?_⟩
  refine ledger_Spendable.any (h.p.mv s10.ch) (h.o.mv s10.ch) h.okp h.oko (by have := h.lp; omega) (by have := h.lo; omega) fun r G12 c12 => ?_
  exact hQ _ _ (s10.tmp c12).ch

theorem dance_dead.big {f : StF} {vo vp vh : AVal} (h : StL G f vo vp vh) (hQ : ∀ G', Ch [] G [] G' → Q (.bool (deadS f.s)) G') : ACalls P dance_dead.n [f.s.av vo vp vh] G Q := by
  have ho := h.ok
  have hl := h.lv
  refine dance_dead.sound ?_
  unfold dance_dead.S
  intro i1 f1
  have s1 := (Sp.nil G).row f1 (f.s.av vo vp vh)
  have hg := RowL.own (i := 0) s1 rfl
  have hQ := hQ _ s1.ch
  unfold deadS at hQ
  refine wv_of (St.ld_failed hg ho hl) ?_
  rw [vbin_neq, wv_some]
  by_cases h1 : f.s.failed = 0
  · rw [decide_eq_true h1, Bool.not_true, Bool.false_or] at hQ
    rw [decide_eq_true h1, Bool.not_true, brB_false]
    refine wv_of (St.ld_closed hg ho hl) ?_
    rw [vbin_neq, wv_some]
    exact hQ
  · rw [decide_eq_false h1, Bool.not_false, Bool.true_or] at hQ
    rw [decide_eq_false h1, Bool.not_false, brB_true]
    exact hQ

theorem dance_full.big {f : StF} {vo vp vh : AVal} (h : StL G f vo vp vh) (hQ : ∀ G', Ch [] G [] G' → Q (.bool (fullS f)) G') : ACalls P dance_full.n [f.s.av vo vp vh] G Q := by
  have ho := h.ok
  have hl := h.lv
  refine dance_full.sound ?_
  unfold dance_full.S
  intro i1 f1
  have s1 := (Sp.nil G).row f1 (f.s.av vo vp vh)
  have hg := RowL.own (i := 0) s1 rfl
  have hQ := hQ _ s1.ch
  unfold fullS at hQ
  refine wv_of (St.ld_ours hg ho hl) ?_
  refine wv_of (upd_len (h.o.isSl.ch' s1.ch)) ?_
  rw [vbin_geq, wv_some]
  by_cases h1 : 2048 ≤ f.o.length
  · rw [decide_eq_true h1, Bool.true_or] at hQ
    rw [decide_eq_true (by omega), brB_true]
    exact hQ
  · rw [decide_eq_false h1, Bool.false_or] at hQ
    rw [decide_eq_false (by omega), brB_false]
    refine wv_of (St.ld_ours hg ho hl) ?_
    refine wv_of (upd_len (h.o.isSl.ch' s1.ch)) ?_
    refine wv_of (St.ld_heldA hg ho hl) ?_
    rw [vbin_sub, wv_some, vbin_geq, wv_some]
    exact hQ

theorem dance_first.big {v : AVal} {l : List UpdM} {n : Int} (hl : CapSl 36 G v (l.map UpdM.av)) (hlen : l.length ≤ 1954687338211) (hQ : ∀ w, CapSl 36 G w ((firstN l n).map UpdM.av) → Q w G) : ACalls P dance_first.n [v, .int .i64 n] G Q := by
  refine dance_first.sound ?_
  unfold dance_first.S
  refine wv_of (v := .int .i64 (if n < 0 then 0 else n)) rfl ?_
  refine wv_of (upd_len hl.isSl) ?_
  obtain ⟨m, hm, hml, he⟩ : ∃ m : Nat, (if ((l.length : Nat) : Int) < (if n < 0 then 0 else n) then ((l.length : Nat) : Int) else (if n < 0 then 0 else n)) = (m : Int) ∧ m ≤ l.length ∧ l.take m = firstN l n := by
    unfold firstN
    by_cases h0 : n < 0
    · refine ⟨0, ?_, by omega, ?_⟩
      · rw [if_pos h0, if_neg (by omega)]; rfl
      · rw [show n.toNat = 0 by omega]
    · by_cases h1 : ((l.length : Nat) : Int) < n
      · refine ⟨l.length, ?_, by omega, ?_⟩
        · rw [if_neg h0, if_pos h1]
        · rw [List.take_length, List.take_of_length_le (by omega)]
      · refine ⟨n.toNat, ?_, by omega, rfl⟩
        rw [if_neg h0, if_neg h1]; omega
  refine wv_of (v := .int .i64 (m : Int)) (by rw [← hm]; rfl) ?_
  obtain ⟨w, e1, e2⟩ := CapSl.take (ie := ti_api_Update) (k := .i64) (m := m) T_sl_api_Update rfl T_api_Update hl rfl (by rw [List.length_map]; exact hml)
  refine wv_of e1 ?_
  refine hQ w ?_
  rw [← he, List.map_take]
  exact e2

set_option maxHeartbeats 4000000 in
theorem dance_Offer.any {f : StF} {vo vp vh : AVal} {a : Int} {h : List UInt8} (hS : StL G f vo vp vh) (hh : h.length = 32) (hQ : ∀ v G', Ch [] G [] G' → Q v G') : ACalls P dance_Offer.n [f.s.av vo vp vh, .int .i64 a, .agg (h.map u8v)] G Q := by
  have ho := hS.ok
  have hl := hS.lv
  refine dance_Offer.sound ?_
  unfold dance_Offer.S
  rw [zRec]
  intro i1 f1
  have s1 := (Sp.nil G).row f1 (f.s.av vo vp vh)
  intro i3 f3
  have s3 := s1.row f3 (.agg (h.map u8v))
  intro i5 f5
  have s5 := s3.row f5 (RcM.zero.av .nilSlice)
  revert s5
  generalize Heap.upd _ i5 _ = G6
  intro s5
  refine wv_of (St.ld (RowL.own (i := 2) s5 rfl) ho hl) ?_
  refine dance_dead.big (hS.mv s5.ch) fun G9 c9 => ?_
  have s9 := s5.tmp c9
  rw [brB_bool]
  refine ⟨fun hd => ?_, fun hd => ?_⟩
  · skip
    exact rc_no (j := 0) s9 rfl RcM.zero_ok Leaf.nil fun G' s' => hQ _ G' s'.ch
  have s9 : Sp [] G [RowL i5 (RcM.zero.av .nilSlice), RowL i3 (.agg (h.map u8v)), RowL i1 (f.s.av vo vp vh)] G9 := s9
  intro J45
  have bad : (a < 1 ∨ 1152921504606846976 < a) → J45 (.bool true) G9 := by
    intro hb
    simp -zeta only [J45, brB_true]
    exact rc_no (j := 0) s9 rfl RcM.zero_ok Leaf.nil fun G' s' => hQ _ G' s'.ch
  have good : ¬ (a < 1 ∨ 1152921504606846976 < a) → J45 (.bool false) G9 := by
    intro hb
    simp -zeta only [J45, brB_false]
    refine wv_of (St.ld (RowL.own (i := 2) s9 rfl) ho hl) ?_
    refine dance_full.big (hS.mv s9.ch) fun G22 c22 => ?_
    have s22 := s9.tmp c22
    rw [brB_bool]
    refine ⟨fun hf => ?_, fun hf => ?_⟩
    · skip
      exact rc_no (j := 0) s22 rfl RcM.zero_ok Leaf.nil fun G' s' => hQ _ G' s'.ch
    have hg := RowL.own (i := 2) s22 rfl
    refine wv_of (St.ld_ours hg ho hl) ?_
    refine wv_of (St.ld_peers hg ho hl) ?_
    refine wv_of (St.ld hg ho hl) ?_
    refine dance_Fixed.big (hS.mv s22.ch) fun G30 c30 => ?_
    have s30 := s22.tmp c30
    have hg := RowL.own (i := 2) s30 rfl
    refine ⟨⟨St.ld_peers hg ho hl, St.ld_ours hg ho hl, trivial⟩, ?_⟩
    refine wv_of (v := .int .i64 (fixB f.s)) rfl ?_
    refine ledger_Open.use (hS.o.isSl.ch' s30.ch) (hS.p.mv s30.ch) hS.oko hS.okp (by have := hS.lo; omega) (by have := hS.lp; omega) fun G33 c33 => ?_
    have s33 := s30.tmp c33
    rw [vbin_geq, wv_some, brB_dec]
    refine ⟨fun h4 => ?_, fun h4 => ?_⟩
    · skip
      exact rc_no (j := 0) s33 rfl RcM.zero_ok Leaf.nil fun G' s' => hQ _ G' s'.ch
    refine wv_of (St.ld (RowL.own (i := 2) s33 rfl) ho hl) ?_
    refine dance_Spendable.any (hS.mv s33.ch) fun r40 G40 c40 => ?_
    have s40 := s33.tmp c40
    rw [vbin_gtr, wv_some, brB_dec]
    refine ⟨fun h5 => ?_, fun h5 => ?_⟩
    · skip
      exact rc_no (j := 0) s40 rfl RcM.zero_ok Leaf.nil fun G' s' => hQ _ G' s'.ch
    refine wv_of (St.ld_ours (RowL.own (i := 2) s40 rfl) ho hl) ?_
    refine wv_of (upd_len (hS.o.isSl.ch' s40.ch)) ?_
    have hlo := hS.lo
    intro R48 hR48
    have s40 : Sp [] G [RowL i5 (RcM.zero.av .nilSlice), RowL i3 (.agg (h.map u8v)), RowL i1 (f.s.av vo vp vh)] G40 := s40
    have loop : ∀ (n j : Nat) (G' : Heap), f.o.length - j = n → j ≤ f.o.length → Sp [] G [RowL i5 (RcM.zero.av .nilSlice), RowL i3 (.agg (h.map u8v)), RowL i1 (f.s.av vo vp vh)] G' →
        R48 [.int .i64 a, .ptr i3 [] 0, .ptr i5 [] 0, .int .i64 ((addsN (f.o.take j) : Nat) : Int), vo, .int .i64 (f.o.length : Nat), .int .i64 (j : Int)] G' := by
      intro n
      induction n with
      | zero =>
        intro j G' hn hj sp
        refine hR48 _ _ _ _ _ _ _ _ ?_
        rw [vbin_lss, wv_some, decide_eq_false (by omega), brB_false, List.take_of_length_le (by omega)]
        have hal := addsN_le f.o
        have hu : (⟨1, ((addsN f.o : Nat) : Int), a, h, []⟩ : UpdM).ok := ⟨i64_n 1 (by decide) (by decide), i64_n ((addsN f.o : Nat) : Int) (by omega) (by omega), i64_n a (by omega) (by omega), hh, by simp⟩
        refine wv_of (load_hash hh (RowL.own (i := 1) sp rfl)) ?_
        refine wv_of (build_add hh) ?_
        refine dance_mine.use hu fun G76 c76 => ?_
        have s76 := sp.tmp c76
        refine Rc.st (i := 0) s76 rfl RcM.zero_ok Leaf.nil (recOurs_ok hu) Leaf.nil fun G77 s77 => ?_
        refine wv_of (Rc.ld (RowL.own (i := 0) s77 rfl) (recOurs_ok hu) Leaf.nil) ?_
        exact hQ _ _ s77.ch
      | succ n ih =>
        intro j G' hn hj sp
        obtain ⟨u, hu⟩ : ∃ u, f.o[j]? = some u := ⟨_, List.getElem?_eq_getElem (by omega)⟩
        have huo := hS.oko u (List.mem_of_getElem? hu)
        have hle := addsN_le (f.o.take j)
        rw [List.length_take] at hle
        have e : addsN (f.o.take (j + 1)) = addsN (f.o.take j) + if u.kind = 1 then 1 else 0 := by
          rw [List.take_add_one, hu, addsN_append]
          congr 1
          by_cases h : u.kind = 1 <;> simp [addsN, h]
        refine hR48 _ _ _ _ _ _ _ _ ?_
        rw [vbin_lss, wv_some, decide_eq_true (by omega), brB_true]
        obtain ⟨p, e1, e2⟩ := upd_at (hS.o.isSl.ch' sp.ch) hu
        refine wv_of e1 ?_
        refine wv_of e2 ?_
        refine newU sp huo fun i60 G62 s62 => ?_
        have ih := ih (j + 1) G62 (by omega) (by omega) (s62.erase 0)
        rw [e] at ih
        refine wv_of (upd_load (i := 0) s62 rfl huo).1 ?_
        rw [vbin_eql, wv_some, brB_dec]
        refine ⟨fun hk => ?_, fun hk => ?_⟩
        · rw [if_pos hk] at ih
          rw [vbin_add, i64_in (by omega) (by omega), wv_some, vbin_add, i64_in (by omega) (by omega), wv_some]
          exact ih
        · rw [if_neg hk] at ih
          rw [vbin_add, i64_in (by omega) (by omega), wv_some]
          exact ih
    exact loop _ 0 G40 rfl (by omega) s40
  rw [vbin_lss, wv_some, brB_dec]
  refine ⟨fun h1 => bad (.inl h1), fun h1 => ?_⟩
  rw [vbin_gtr, wv_some]
  by_cases h2 : 1152921504606846976 < a
  · rw [decide_eq_true h2]
    exact bad (.inr h2)
  · rw [decide_eq_false h2]
    exact good (by omega)

set_option maxHeartbeats 4000000 in
theorem dance_removes.big {f : StF} {vo vp vh : AVal} {u : UpdM} (hS : StL G f vo vp vh) (hu : u.ok) (hQ : ∀ G', Ch [] G [] G' → Q (tupR (removesS f u)) G') : ACalls P dance_removes.n [f.s.av vo vp vh, u.av] G Q := by
  have ho := hS.ok
  have hl := hS.lv
  refine dance_removes.sound ?_
  unfold dance_removes.S
  rw [zRec]
  unfold removesS at hQ
  intro i1 f1
  have s1 := (Sp.nil G).row f1 (f.s.av vo vp vh)
  intro i3 f3
  have s3 := s1.row f3 u.av
  intro i5 f5
  have s5 := s3.row f5 (RcM.zero.av .nilSlice)
  revert s5
  generalize Heap.upd _ i5 _ = G6
  intro s5
  refine wv_of (St.ld (RowL.own (i := 2) s5 rfl) ho hl) ?_
  refine dance_dead.big (hS.mv s5.ch) fun G9 c9 => ?_
  have s9 := s5.tmp c9
  rw [brB_bool]
  refine ⟨fun hd => ?_, fun hd => ?_⟩
  · rw [if_pos hd] at hQ
    exact rc_no (j := 0) s9 rfl RcM.zero_ok Leaf.nil fun G' s' => hQ G' s'.ch
  rw [if_neg (by rw [hd]; decide)] at hQ
  have hg := RowL.own (i := 2) s9 rfl
  refine wv_of (St.ld_peers hg ho hl) ?_
  refine wv_of (St.ld hg ho hl) ?_
  refine wv_of (upd_load (i := 1) s9 rfl hu).2.1 ?_
  refine dance_Fixed.big (hS.mv s9.ch) fun G17 c17 => ?_
  have s17 := s9.tmp c17
  have hg := RowL.own (i := 2) s17 rfl
  refine ⟨⟨(upd_load (i := 1) s17 rfl hu).2.1, St.ld_peers hg ho hl, trivial⟩, ?_⟩
  refine wv_of (v := .int .i64 (fixB f.s)) rfl ?_
  refine dance_first.big (hS.p.mv s17.ch) hS.lp fun w hw => ?_
  refine ⟨⟨(upd_load (i := 1) s17 rfl hu).2.1, trivial⟩, ?_⟩
  have hfl := firstN_len f.p (fixB f.s)
  have hfo := firstN_ok (n := fixB f.s) hS.okp
  have hlp := hS.lp
  have hlo := hS.lo
  refine update_Find.use hw.isSl hfo (by omega) fun G22 c22 => ?_
  have s22 := s17.tmp c22
  have hA := firstU_ok (rm := false) (id := u.id) hfo
  have hB := firstU_ok (rm := true) (id := u.id) hS.oko
  unfold mayRem at hQ
  obtain ⟨A, eA⟩ : ∃ A, A = firstU false u.id (firstN f.p (fixB f.s)) := ⟨_, rfl⟩
  obtain ⟨B, eB⟩ : ∃ A, A = firstU true u.id f.o := ⟨_, rfl⟩
  rw [← eA] at hA hQ ⊢
  rw [← eB] at hB hQ
  refine wv_of (opt0 _) ?_
  refine wv_of (opt1 _) ?_
  refine newU s22 hA fun i25 G27 s27 => ?_
  refine wv_of (St.ld_ours (RowL.own (i := 3) s27 rfl) ho hl) ?_
  refine wv_of (upd_load (i := 2) s27 rfl hu).2.1 ?_
  refine update_Removal.use (hS.o.isSl.ch' s27.ch) hS.oko (by omega) fun G31 c31 => ?_
  have s31 := s27.tmp c31
  rw [← eB]
  refine wv_of (opt0 _) ?_
  refine wv_of (opt1 _) ?_
  refine newU s31 hB fun i34 G36 s36 => ?_
  have s36 : Sp [] G [RowL i34 (B.getD UpdM.zero).av, RowL i25 (A.getD UpdM.zero).av, RowL i5 (RcM.zero.av .nilSlice), RowL i3 u.av, RowL i1 (f.s.av vo vp vh)] G36 := s36
  obtain ⟨may, hmay⟩ : ∃ m, m = (A.isSome && (!B.isSome && ((!decide (u.kind = 2) || decide (sha u.hash = (A.getD UpdM.zero).hash)) && decide (u.note.length ≤ 64)))) := ⟨_, rfl⟩
  rw [← hmay] at hQ
  intro J67
  have bad : ∀ G2, Sp [] G [RowL i34 (B.getD UpdM.zero).av, RowL i25 (A.getD UpdM.zero).av, RowL i5 (RcM.zero.av .nilSlice), RowL i3 u.av, RowL i1 (f.s.av vo vp vh)] G2 → may = false → J67 (.bool true) G2 := by
    intro G2 s2 hm
    rw [if_pos hm] at hQ
    simp -zeta only [J67, brB_true]
    exact rc_no (j := 2) s2 rfl RcM.zero_ok Leaf.nil fun G' s' => hQ G' s'.ch
  have good : ∀ G2, Sp [] G [RowL i34 (B.getD UpdM.zero).av, RowL i25 (A.getD UpdM.zero).av, RowL i5 (RcM.zero.av .nilSlice), RowL i3 u.av, RowL i1 (f.s.av vo vp vh)] G2 → may = true → J67 (.bool false) G2 := by
    intro G2 s2 hm
    rw [if_neg (by rw [hm]; decide)] at hQ
    simp -zeta only [J67, brB_false]
    refine wv_of (St.ld (RowL.own (i := 4) s2 rfl) ho hl) ?_
    refine dance_full.big (hS.mv s2.ch) fun G58 c58 => ?_
    have s58 := s2.tmp c58
    rw [brB_bool]
    refine ⟨fun hf => ?_, fun hf => ?_⟩
    · rw [if_pos hf] at hQ
      exact rc_no (j := 2) s58 rfl RcM.zero_ok Leaf.nil fun G' s' => hQ G' s'.ch
    rw [if_neg (by rw [hf]; decide)] at hQ
    refine wv_of (upd_load (i := 3) s58 rfl hu).2.2.2.2.2 ?_
    refine dance_mine.use hu fun G64 c64 => ?_
    have s64 := s58.tmp c64
    refine Rc.st (i := 2) s64 rfl RcM.zero_ok Leaf.nil (recOurs_ok hu) Leaf.nil fun G65 s65 => ?_
    refine wv_of (Rc.ld (RowL.own (i := 2) s65 rfl) (recOurs_ok hu) Leaf.nil) ?_
    exact hQ _ s65.ch
  have note : ∀ G2, Sp [] G [RowL i34 (B.getD UpdM.zero).av, RowL i25 (A.getD UpdM.zero).av, RowL i5 (RcM.zero.av .nilSlice), RowL i3 u.av, RowL i1 (f.s.av vo vp vh)] G2 → may = decide (u.note.length ≤ 64) →
      wv (vload T G2 t_string (.ptr i3 [4] 35)) fun v45 => wv (vlen T G2 t_string v45) fun v46 => wv (vbin T .gtr t_int v46 (.int .i64 64)) fun v47 => J67 v47 G2 := by
    intro G2 s2 hm
    refine wv_of (upd_load (i := 3) s2 rfl hu).2.2.2.2.1 ?_
    refine wv_of (v := .int .i64 (u.note.length : Nat)) rfl ?_
    rw [vbin_gtr, wv_some]
    by_cases hn : u.note.length ≤ 64
    · rw [decide_eq_false (by omega)]
      exact good G2 s2 (by rw [hm, decide_eq_true hn])
    · rw [decide_eq_true (by omega)]
      exact bad G2 s2 (by rw [hm, decide_eq_false hn])
  rw [vun_not, wv_some]
  cases hAs : A.isSome with
  | false =>
    rw [hAs, Bool.false_and] at hmay
    rw [Bool.not_false, brB_true]
    exact bad _ s36 hmay
  | true =>
    rw [hAs, Bool.true_and] at hmay
    rw [Bool.not_true, brB_false]
    cases hBs : B.isSome with
    | true =>
      rw [hBs, Bool.not_true, Bool.false_and] at hmay
      rw [brB_true]
      exact bad _ s36 hmay
    | false =>
      rw [hBs, Bool.not_false, Bool.true_and] at hmay
      rw [brB_false]
      refine wv_of (upd_load (i := 3) s36 rfl hu).1 ?_
      rw [vbin_eql, wv_some, brB_dec]
      refine ⟨fun hk => ?_, fun hk => ?_⟩
      · rw [decide_eq_true hk, Bool.not_true, Bool.false_or] at hmay
        refine wv_of (upd_load (i := 3) s36 rfl hu).2.2.2.1 ?_
        refine wv_of (upd_load (i := 1) s36 rfl hA).2.2.2.1 ?_
        refine dance_sum.use hu.hash fun G43 c43 => ?_
        have s43 := s36.tmp c43
        refine ⟨⟨(upd_load (i := 1) s43 rfl hA).2.2.2.1, trivial⟩, ?_⟩
        rw [hash_neq (length_sha' _) hA.hash, wv_some, brB_ndec]
        refine ⟨fun hne => ?_, fun he => ?_⟩
        · rw [decide_eq_false hne, Bool.false_and] at hmay
          exact bad _ s43 hmay
        · rw [decide_eq_true he, Bool.true_and] at hmay
          exact note _ s43 hmay
      · rw [decide_eq_false hk, Bool.not_false, Bool.true_or, Bool.true_and] at hmay
        exact note _ s36 hmay

theorem dance_Settle.big {f : StF} {vo vp vh : AVal} {id : Int} {h : List UInt8} (hS : StL G f vo vp vh) (hi : I64 id) (hh : h.length = 32) (hQ : ∀ G', Ch [] G [] G' → Q (tupR (removesS f ⟨2, id, 0, h, []⟩)) G') : ACalls P dance_Settle.n [f.s.av vo vp vh, .int .i64 id, .agg (h.map u8v)] G Q := by
  have ho := hS.ok
  have hl := hS.lv
  refine dance_Settle.sound ?_
  unfold dance_Settle.S
  rw [zRec]
  intro i1 f1
  have s1 := (Sp.nil G).row f1 (f.s.av vo vp vh)
  intro i3 f3
  have s3 := s1.row f3 (.agg (h.map u8v))
  intro i5 f5
  have s5 := s3.row f5 (RcM.zero.av .nilSlice)
  revert s5
  generalize Heap.upd _ i5 _ = G6
  intro s5
  have hu : (⟨2, id, 0, h, []⟩ : UpdM).ok := ⟨i64_n 2 (by decide) (by decide), hi, i64_0, hh, by simp⟩
  refine wv_of (St.ld (RowL.own (i := 2) s5 rfl) ho hl) ?_
  refine wv_of (load_hash hh (RowL.own (i := 1) s5 rfl)) ?_
  refine wv_of (build_ful hh) ?_
  refine dance_removes.big (hS.mv s5.ch) hu fun G11 c11 => ?_
  have s11 := s5.tmp c11
  refine wv_of (tr0 _) ?_
  refine wv_of (tr1 _) ?_
  refine Rc.st (i := 0) s11 rfl RcM.zero_ok Leaf.nil (removesS_ok hu) Leaf.nil fun G14 s14 => ?_
  refine wv_of (Rc.ld (RowL.own (i := 0) s14 rfl) (removesS_ok hu) Leaf.nil) ?_
  exact hQ _ s14.ch

theorem dance_Refuse.big {f : StF} {vo vp vh : AVal} {id : Int} {n : List UInt8} (hS : StL G f vo vp vh) (hi : I64 id) (hn : n.length ≤ 9223372036854775807) (hQ : ∀ G', Ch [] G [] G' → Q (tupR (removesS f ⟨3, id, 0, h0, n⟩)) G') : ACalls P dance_Refuse.n [f.s.av vo vp vh, .int .i64 id, .str n] G Q := by
  have ho := hS.ok
  have hl := hS.lv
  refine dance_Refuse.sound ?_
  unfold dance_Refuse.S
  rw [zRec]
  intro i1 f1
  have s1 := (Sp.nil G).row f1 (f.s.av vo vp vh)
  intro i3 f3
  have s3 := s1.row f3 (RcM.zero.av .nilSlice)
  revert s3
  generalize Heap.upd _ i3 _ = G4
  intro s3
  have hu : (⟨3, id, 0, h0, n⟩ : UpdM).ok := ⟨i64_n 3 (by decide) (by decide), hi, i64_0, rfl, hn⟩
  refine wv_of (St.ld (RowL.own (i := 1) s3 rfl) ho hl) ?_
  refine wv_of (build_fail _ _) ?_
  refine dance_removes.big (hS.mv s3.ch) hu fun G8 c8 => ?_
  have s8 := s3.tmp c8
  refine wv_of (tr0 _) ?_
  refine wv_of (tr1 _) ?_
  refine Rc.st (i := 0) s8 rfl RcM.zero_ok Leaf.nil (removesS_ok hu) Leaf.nil fun G11 s11 => ?_
  refine wv_of (Rc.ld (RowL.own (i := 0) s11 rfl) (removesS_ok hu) Leaf.nil) ?_
  exact hQ _ s11.ch

set_option maxHeartbeats 2000000 in
theorem dance_Sign.big {f : StF} {c : CfM} {vo vp vh : AVal} (hS : StL G f vo vp vh) (hQ : ∀ G', Ch [] G [] G' → Q (tupR (signS f)) G') : ACalls P dance_Sign.n [c.av, f.s.av vo vp vh] G Q := by
  have ho := hS.ok
  have hl := hS.lv
  have hlo := hS.lo
  refine dance_Sign.sound ?_
  unfold dance_Sign.S
  rw [zRec]
  unfold signS at hQ
  intro i1 f1
  have s1 := (Sp.nil G).row f1 c.av
  intro i3 f3
  have s3 := s1.row f3 (f.s.av vo vp vh)
  intro i5 f5
  have s5 := s3.row f5 (RcM.zero.av .nilSlice)
  revert s5
  generalize Heap.upd _ i5 _ = G6
  intro s5
  have hg := RowL.own (i := 1) s5 rfl
  refine wv_of (St.ld_ours hg ho hl) ?_
  refine wv_of (upd_len (hS.o.isSl.ch' s5.ch)) ?_
  refine wv_of (St.ld_atB hg ho hl) ?_
  refine wv_of (v := pairW (f.o.length : Nat) f.s.atB) rfl ?_
  refine newVal (c := pairW (f.o.length : Nat) f.s.atB) s5 T_api_Counts rfl rfl rfl fun i11 G13 s13 => ?_
  refine wv_of (St.ld (RowL.own (i := 2) s13 rfl) ho hl) ?_
  refine dance_dead.big (hS.mv s13.ch) fun G16 c16 => ?_
  have s16 := s13.tmp c16
  have s16 : Sp [] G [RowL i11 (pairW (f.o.length : Nat) f.s.atB), RowL i5 (RcM.zero.av .nilSlice), RowL i3 (f.s.av vo vp vh), RowL i1 c.av] G16 := s16
  rw [brB_bool]
  refine ⟨fun hd => ?_, fun hd => ?_⟩
  · rw [if_pos hd] at hQ
    exact rc_no (j := 1) s16 rfl RcM.zero_ok Leaf.nil fun G' s' => hQ G' s'.ch
  rw [if_neg (by rw [hd]; decide)] at hQ
  have hg := RowL.own (i := 2) s16 rfl
  intro J36
  have bad : (f.s.rem ≠ f.s.ack ∨ ((f.o.length : Int) = f.s.sgnA ∧ f.s.atB = f.s.sgnB)) → J36 (.bool true) G16 := by
    intro hb
    rw [if_pos hb] at hQ
    simp -zeta only [J36, brB_true]
    exact rc_no (j := 1) s16 rfl RcM.zero_ok Leaf.nil fun G' s' => hQ G' s'.ch
  have good : ¬ (f.s.rem ≠ f.s.ack ∨ ((f.o.length : Int) = f.s.sgnA ∧ f.s.atB = f.s.sgnB)) → J36 (.bool false) G16 := by
    intro hb
    rw [if_neg hb] at hQ
    simp -zeta only [J36, brB_false]
    refine wv_of (St.ld_rem hg ho hl) ?_
    rw [vbin_gtr, wv_some, brB_dec]
    refine ⟨fun h1 => ?_, fun h1 => ?_⟩
    · rw [if_pos h1] at hQ
      exact rc_no (j := 1) s16 rfl RcM.zero_ok Leaf.nil fun G' s' => hQ G' s'.ch
    rw [if_neg h1] at hQ
    have hr := ho.rem
    have hok : ({ RcM.zero with kind := 2, index := f.s.rem + 1, cntA := (f.o.length : Nat), cntB := f.s.atB } : RcM).ok :=
      ⟨i64_n 2 (by decide) (by decide), UpdM.zero_ok, i64_n (f.s.rem + 1) (by have := hr.1; omega) (by omega), i64_n (f.o.length : Nat) (by omega) (by omega), ho.atB, rfl, rfl, rfl, i64_0⟩
    refine wv_of (St.ld_rem hg ho hl) ?_
    rw [vbin_add, i64_in (by have := hr.1; omega) (by omega), wv_some]
    refine wv_of (whole_load T_api_Counts (RowL.own (i := 0) s16 rfl) rfl) ?_
    refine wv_of build_sgn ?_
    refine Rc.st (i := 1) s16 rfl RcM.zero_ok Leaf.nil hok Leaf.nil fun G41 s41 => ?_
    refine wv_of (Rc.ld (RowL.own (i := 1) s41 rfl) hok Leaf.nil) ?_
    exact hQ _ s41.ch
  refine wv_of (St.ld_rem hg ho hl) ?_
  refine wv_of (St.ld_ack hg ho hl) ?_
  rw [vbin_neq, wv_some, brB_ndec]
  refine ⟨fun h1 => bad (.inl h1), fun h1 => ?_⟩
  refine wv_of (whole_load T_api_Counts (RowL.own (i := 0) s16 rfl) rfl) ?_
  refine wv_of (St.ld_sgn hg ho hl) ?_
  rw [pair_eq (t := t_api_Counts), wv_some]
  by_cases h2 : (f.o.length : Int) = f.s.sgnA ∧ f.s.atB = f.s.sgnB
  · rw [decide_eq_true h2]
    exact bad (.inr h2)
  · rw [decide_eq_false h2]
    exact good (by rintro (h | h); exact h h1; exact h2 h)

set_option maxHeartbeats 4000000 in
theorem dance_Heard.any {f : StF} {vo vp vh : AVal} {u : UpdM} (hS : StL G f vo vp vh) (hu : u.ok) (hQ : ∀ v G', Ch [] G [] G' → Q v G') : ACalls P dance_Heard.n [f.s.av vo vp vh, u.av] G Q := by
  have ho := hS.ok
  have hl := hS.lv
  have hlo := hS.lo
  have hlp := hS.lp
  refine dance_Heard.sound ?_
  unfold dance_Heard.S
  intro i1 f1
  have s1 := (Sp.nil G).row f1 (f.s.av vo vp vh)
  intro i3 f3
  have s3 := s1.row f3 u.av
  revert s3
  generalize Heap.upd _ i3 _ = G4
  intro s3
  refine wv_of (St.ld (RowL.own (i := 1) s3 rfl) ho hl) ?_
  refine dance_Fixed.big (hS.mv s3.ch) fun G7 c7 => ?_
  have s7 := s3.tmp c7
  refine newVal (c := pairW (fixA f.s) (fixB f.s)) s7 T_api_Counts rfl rfl rfl fun i8 G10 s10 => ?_
  have s10 : Sp [] G [RowL i8 (pairW (fixA f.s) (fixB f.s)), RowL i3 u.av, RowL i1 (f.s.av vo vp vh)] G10 := s10
  intro J78
  have rem : ∀ G2, Sp [] G [RowL i8 (pairW (fixA f.s) (fixB f.s)), RowL i3 u.av, RowL i1 (f.s.av vo vp vh)] G2 → J78 G2 := by
    intro G55 s55
    simp -zeta only [J78]
    refine wv_of (St.ld_ours (RowL.own (i := 2) s55 rfl) ho hl) ?_
    refine wv_of (count_load (RowL.own (i := 0) s55 rfl)).1 ?_
    refine wv_of (upd_load (i := 1) s55 rfl hu).2.1 ?_
    refine dance_first.big (hS.o.mv s55.ch) hS.lo fun w hw => ?_
    refine ⟨⟨(upd_load (i := 1) s55 rfl hu).2.1, trivial⟩, ?_⟩
    have hfl := firstN_len f.o (fixA f.s)
    have hfo := firstN_ok (n := fixA f.s) hS.oko
    refine update_Find.use hw.isSl hfo (by omega) fun G62 c62 => ?_
    have s62 := s55.tmp c62
    have hA := firstU_ok (rm := false) (id := u.id) hfo
    obtain ⟨A, eA⟩ : ∃ A, A = firstU false u.id (firstN f.o (fixA f.s)) := ⟨_, rfl⟩
    rw [← eA] at hA ⊢
    refine wv_of (opt0 _) ?_
    refine wv_of (opt1 _) ?_
    refine newU s62 hA fun i65 G67 s67 => ?_
    rw [vun_not, wv_some]
    cases hAs : A.isSome with
    | false => exact hQ _ _ s67.ch
    | true =>
      rw [Bool.not_true, brB_false]
      refine wv_of (upd_load (i := 2) s67 rfl hu).1 ?_
      rw [vbin_eql, wv_some, brB_dec]
      refine ⟨fun hk => ?_, fun hk => ?_⟩
      · refine wv_of (upd_load (i := 2) s67 rfl hu).2.2.2.1 ?_
        refine wv_of (upd_load (i := 0) s67 rfl hA).2.2.2.1 ?_
        refine dance_sum.use hu.hash fun G74 c74 => ?_
        have s74 := s67.tmp c74
        refine ⟨⟨(upd_load (i := 0) s74 rfl hA).2.2.2.1, trivial⟩, ?_⟩
        rw [hash_neq (length_sha' _) hA.hash, wv_some, brB_ndec]
        refine ⟨fun hne => ?_, fun he => ?_⟩
        · skip
          exact hQ _ _ s74.ch
        · skip
          exact hQ _ _ s74.ch
      · skip
        exact hQ _ _ s67.ch
  refine wv_of (St.ld (RowL.own (i := 2) s10 rfl) ho hl) ?_
  refine dance_dead.big (hS.mv s10.ch) fun G13 c13 => ?_
  have s13 := s10.tmp c13
  rw [brB_bool]
  refine ⟨fun hd => ?_, fun hd => ?_⟩
  · skip
    exact hQ _ _ s13.ch
  have hg := RowL.own (i := 2) s13 rfl
  refine wv_of (St.ld_peers hg ho hl) ?_
  refine wv_of (upd_len (hS.p.isSl.ch' s13.ch)) ?_
  refine wv_of (St.ld_atB hg ho hl) ?_
  rw [vbin_sub, wv_some, vbin_geq, wv_some, brB_dec]
  refine ⟨fun h1 => ?_, fun h1 => ?_⟩
  · skip
    exact hQ _ _ s13.ch
  refine wv_of (St.ld_peers hg ho hl) ?_
  refine wv_of (St.ld_ours hg ho hl) ?_
  refine wv_of (upd_load (i := 1) s13 rfl hu).2.2.2.2.2 ?_
  refine update_Next.use (hS.p.isSl.ch' s13.ch) (hS.o.isSl.ch' s13.ch) hS.okp hS.oko (by omega) (by omega) hu fun G23 c23 => ?_
  have s23 := s13.tmp c23
  rw [vbin_neq, wv_some, brB_ndec]
  refine ⟨fun h2 => ?_, fun h2 => ?_⟩
  · skip
    exact hQ _ _ s23.ch
  intro J51
  refine wv_of (upd_load (i := 1) s23 rfl hu).1 ?_
  rw [vbin_eql, wv_some, brB_dec]
  refine ⟨fun hk => ?_, fun hk => ?_⟩
  · skip
    have hg := RowL.own (i := 2) s23 rfl
    refine wv_of (St.ld_peers hg ho hl) ?_
    refine wv_of (St.ld_ours hg ho hl) ?_
    refine wv_of (count_load (RowL.own (i := 0) s23 rfl)).1 ?_
    refine ledger_Open.use (hS.p.isSl.ch' s23.ch) (hS.o.mv s23.ch) hS.okp hS.oko (by have := hS.lp; omega) (by have := hS.lo; omega) fun G31 c31 => ?_
    have s31 := s23.tmp c31
    rw [vbin_geq, wv_some]
    by_cases h3 : (483 : Int) ≤ ((openN f.p f.o (fixA f.s) : Nat) : Int)
    · skip
      rw [decide_eq_true h3]
      simp -zeta only [J51, brB_true]
      exact hQ _ _ s31.ch
    · skip
      rw [decide_eq_false h3]
      simp -zeta only [J51, brB_false]
      refine wv_of (upd_load (i := 1) s31 rfl hu).1 ?_
      rw [hk, ez0, wv_some, brB_true]
      refine wv_of (upd_load (i := 1) s31 rfl hu).2.2.1 ?_
      refine wv_of (St.ld (RowL.own (i := 2) s31 rfl) ho hl) ?_
      refine dance_PeerSpendable.any (hS.mv s31.ch) fun r40 G40 c40 => ?_
      have s40 := s31.tmp c40
      refine ⟨⟨(upd_load (i := 1) s40 rfl hu).2.2.1, trivial⟩, ?_⟩
      rw [vbin_gtr, wv_some, brB_dec]
      refine ⟨fun h4 => ?_, fun h4 => ?_⟩
      · skip
        exact hQ _ _ s40.ch
      refine wv_of (upd_load (i := 1) s40 rfl hu).1 ?_
      rw [hk, ez0, wv_some, brB_true]
      exact hQ _ _ s40.ch
  · skip
    simp -zeta only [J51, brB_false]
    have e1 : vbin T .eql t_int (.int .i64 u.kind) (.int .i64 1) = some (.bool false) := by rw [vbin_eql, decide_eq_false hk]
    refine wv_of (upd_load (i := 1) s23 rfl hu).1 ?_
    rw [e1, wv_some, brB_false]
    refine wv_of (upd_load (i := 1) s23 rfl hu).1 ?_
    rw [e1, wv_some, brB_false]
    exact rem _ s23

theorem clone_upd.big {v : AVal} {l : List UpdM} (hl : IsSl 36 G v (l.map UpdM.av)) (hok : ∀ u ∈ l, u.ok) (hlen : l.length ≤ 1954687338211) (hQ : ∀ w G', Sp [] G [OwnL 36 w (l.map UpdM.av)] G' → Q w G') : ACalls P slices_Clone_escrow_api_Update_escrow_api_Update.n [v] G Q := by
  refine slices_Clone_escrow_api_Update_escrow_api_Update.sound ?_
  unfold slices_Clone_escrow_api_Update_escrow_api_Update.S
  rcases nil_test T_sl_api_Update rfl hl with ⟨rfl, h2, h3⟩ | h3
  · refine wv_of h3 ?_
    rw [brB_true]
    have s := (Sp.nil G).nilL 36
    rw [← h2] at s
    exact hQ _ _ s
  · refine wv_of h3 ?_
    rw [brB_false]
    refine buildL (T := T) (ts := t_sl_api_Update) (e := t_api_Update) (si := ti_sl_api_Update) (ie := ti_api_Update) (n := 0) (l := []) T_sl_api_Update rfl T_api_Update rfl rfl rfl rfl (by simp) (by decide) (Sp.nil G) fun v2 G3 s3 => ?_
    refine growL (T := T) (ts := t_sl_api_Update) (e := t_api_Update) (si := ti_sl_api_Update) (ie := ti_api_Update) (tx := t_sl_api_Update) (xi := ti_sl_api_Update) (i := 0) (vs := []) (xs := l.map UpdM.av) T_sl_api_Update rfl T_api_Update rfl (by decide) T_sl_api_Update (.inr ⟨_, rfl⟩) s3 rfl (hl.ch' s3.ch).elems (upds_uni hok).1 (upds_uni hok).2 (by rw [show ti_api_Update.bytes = 72 from rfl, List.length_map]; simp; omega) fun w G5 s5 => ?_
    exact hQ _ _ s5

set_option maxHeartbeats 2000000 in
theorem dance_own.any {f : StF} {c : CfM} {n ca cb : Int} {vo vp vh : AVal} (hS : StL G f vo vp vh) (hc : c.ok) (hQ : ∀ (s : List UInt8) (b : Bool) G', s.length ≤ 1000000 → Ch [] G [] G' → Q (.tuple [.str s, .bool b]) G') : ACalls P dance_own.n [c.av, f.s.av vo vp vh, .int .i64 n, pairW ca cb] G Q := by
  have ho := hS.ok
  have hl := hS.lv
  have hlo := hS.lo
  have hlp := hS.lp
  refine dance_own.sound ?_
  unfold dance_own.S
  intro i1 f1
  have s1 := (Sp.nil G).row f1 c.av
  intro i3 f3
  have s3 := s1.row f3 (f.s.av vo vp vh)
  intro i5 f5
  have s5 := s3.row f5 (pairW ca cb)
  revert s5
  generalize Heap.upd _ i5 _ = G6
  intro s5
  refine wv_of (Cf.ld_seed (RowL.own (i := 2) s5 rfl) hc) ?_
  refine seed_Secret.use hc.seed fun G9 c9 => ?_
  have s9 := s5.tmp c9
  have hxl := secretS_len hc.seed n
  obtain ⟨X, hX⟩ : ∃ X, X = secretS c.seed n := ⟨_, rfl⟩
  rw [← hX] at hxl ⊢
  refine wv_of (hi0 _) ?_
  refine wv_of (hi1 _) ?_
  refine newHash s9 hxl fun i12 G14 s14 => ?_
  rw [vbin_neq, wv_some, brB_ndec]
  refine ⟨fun h1 => ?_, fun h1 => ?_⟩
  · exact hQ _ _ _ (by simp) s14.ch
  have hg := RowL.own (i := 2) s14 rfl
  refine wv_of (St.ld_bo hg ho hl) ?_
  refine wv_of (St.ld_bp hg ho hl) ?_
  refine wv_of (St.ld_ours hg ho hl) ?_
  refine wv_of (St.ld_peers hg ho hl) ?_
  refine wv_of (whole_load T_api_Counts (RowL.own (i := 1) s14 rfl) rfl) ?_
  refine ledger_Fold.any (hS.o.mv s14.ch) (hS.p.mv s14.ch) hS.oko hS.okp hS.lo hS.lp fun o q e l x G22 hFok hFlen t22 => ?_
  obtain ⟨F22, o22, c22⟩ := t22.out
  have s22 := s14.new o22 c22
  have lx := (OwnL.own (i := 0) s22 rfl).leaf
  refine wv_of (tv0 _ _) ?_
  refine wv_of (tv1 _ _) ?_
  obtain ⟨w1, w2, w3⟩ := led_whole (o := o) (q := q) lx
  refine newVal s22 T_api_Ledger w1 (by rw [w2]; rfl) w3 fun i25 G27 s27 => ?_
  rw [vbin_neq, wv_some, brB_ndec]
  refine ⟨fun h2 => ?_, fun h2 => ?_⟩
  · exact hQ _ _ _ (by simp) s27.ch
  refine wv_of (St.ld_side (RowL.own (i := 4) s27 rfl) ho hl) ?_
  refine wv_of (load_hash hxl (RowL.own (i := 2) s27 rfl)) ?_
  refine wv_of (led_load (i := 0) s27 rfl lx).2.2.2 ?_
  refine seed_Point.use hxl fun G33 c33 => ?_
  have s33 := s27.tmp c33
  refine ⟨⟨(led_load (i := 0) s33 rfl lx).2.2.2, St.ld_side (RowL.own (i := 4) s33 rfl) ho hl, trivial⟩, ?_⟩
  refine commit_Text.use (length_sha' _) (OwnL.own (i := 1) s33 rfl).is hFok (by omega) fun G35 c35 => ?_
  have s35 := s33.tmp c35
  refine wv_of (tv0 _ _) ?_
  refine wv_of (tv1 _ _) ?_
  rw [vbin_eql, wv_some]
  exact hQ _ _ _ (textR_len (length_sha' _) hFok) s35.ch

set_option maxHeartbeats 4000000 in
theorem dance_Came.any {f : StF} {c : CfM} {m : MsgM} {vo vp vh : AVal} (hS : StL G f vo vp vh) (hc : c.ok) (hm : m.ok)
    (hQ : ∀ v G', Ch [] G [] G' → Q v G') : ACalls P dance_Came.n [c.av, f.s.av vo vp vh, m.av] G Q := by
  have ho := hS.ok
  have hl := hS.lv
  have hlo := hS.lo
  have hlp := hS.lp
  refine dance_Came.sound ?_
  unfold dance_Came.S
  rw [zRec]
  intro i1 f1
  have s1 := (Sp.nil G).row f1 c.av
  intro i3 f3
  have s3 := s1.row f3 (f.s.av vo vp vh)
  intro i5 f5
  have s5 := s3.row f5 m.av
  intro i7 f7
  have s7 := s5.row f7 (RcM.zero.av .nilSlice)
  revert s7
  generalize Heap.upd _ i7 _ = G8
  intro s7
  have hg := RowL.own (i := 2) s7 rfl
  refine wv_of (St.ld_heldA hg ho hl) ?_
  refine wv_of (St.ld_peers hg ho hl) ?_
  refine wv_of (upd_len (hS.p.isSl.ch' s7.ch)) ?_
  refine wv_of (v := pairW f.s.heldA (f.p.length : Nat)) rfl ?_
  refine newVal (c := pairW f.s.heldA (f.p.length : Nat)) s7 T_api_Counts rfl rfl rfl fun i13 G15 s15 => ?_
  refine wv_of (St.ld (RowL.own (i := 3) s15 rfl) ho hl) ?_
  refine dance_dead.big (hS.mv s15.ch) fun G18 c18 => ?_
  have s18 := s15.tmp c18
  have s18 : Sp [] G [RowL i13 (pairW f.s.heldA (f.p.length : Nat)), RowL i7 (RcM.zero.av .nilSlice), RowL i5 m.av, RowL i3 (f.s.av vo vp vh), RowL i1 c.av] G18 := s18
  have no : ∀ {e : Int} {G2 : Heap}, Sp [] G [RowL i13 (pairW f.s.heldA (f.p.length : Nat)), RowL i7 (RcM.zero.av .nilSlice), RowL i5 m.av, RowL i3 (f.s.av vo vp vh), RowL i1 c.av] G2 →
      wv (vbuild T t_api_Record []) fun v17 => wg (vstore T G2 t_api_Record (.ptr i7 [] 0) v17) fun G18 => wv (vload T G18 t_api_Record (.ptr i7 [] 0)) fun v19 => Q (.tuple [v19, .int .i64 e]) G18 := by
    intro e G2 s2
    refine rc_no (j := 1) s2 rfl RcM.zero_ok Leaf.nil fun G' s' => ?_
    exact hQ _ G' s'.ch
  rw [brB_bool]
  refine ⟨fun hd => no s18, fun hd => ?_⟩
  obtain ⟨m0, _, _, m3, _, m5, _, _, _⟩ := msg_load (i := 2) s18 rfl hm
  refine wv_of m0 ?_
  rw [vbin_neq, wv_some, brB_ndec]
  refine ⟨fun h1 => no s18, fun h1 => ?_⟩
  have hg := RowL.own (i := 3) s18 rfl
  intro J44
  have bad : (281474976710653 < f.s.loc ∨ m.index ≠ f.s.loc + 1) → J44 (.bool true) G18 := by
    intro hb
    simp -zeta only [J44, brB_true]
    exact no s18
  have good : ¬ (281474976710653 < f.s.loc ∨ m.index ≠ f.s.loc + 1) → J44 (.bool false) G18 := by
    intro hb
    simp -zeta only [J44, brB_false]
    refine wv_of (whole_load T_api_Counts (RowL.own (i := 0) s18 rfl) rfl) ?_
    refine wv_of (St.ld_at hg ho hl) ?_
    rw [pair_eq (t := t_api_Counts), wv_some, brB_dec]
    refine ⟨fun h2 => no s18, fun h2 => ?_⟩
    refine wv_of (Cf.ld (RowL.own (i := 4) s18 rfl) hc) ?_
    refine wv_of (St.ld hg ho hl) ?_
    refine wv_of m3 ?_
    refine wv_of (whole_load T_api_Counts (RowL.own (i := 0) s18 rfl) rfl) ?_
    refine dance_own.any (hS.mv s18.ch) hc fun W1 W2 G50 hol c50 => ?_
    have s50 := s18.tmp c50
    refine wv_of (tv0 _ _) ?_
    refine wv_of (tv1 _ _) ?_
    intro J78
    have bad2 : ∀ G2, Sp [] G [RowL i13 (pairW f.s.heldA (f.p.length : Nat)), RowL i7 (RcM.zero.av .nilSlice), RowL i5 m.av, RowL i3 (f.s.av vo vp vh), RowL i1 c.av] G2 → J78 (.bool true) G2 := by
      intro G2 s2
      simp -zeta only [J78, brB_true]
      exact no s2
    have good2 : ∀ G2, Sp [] G [RowL i13 (pairW f.s.heldA (f.p.length : Nat)), RowL i7 (RcM.zero.av .nilSlice), RowL i5 m.av, RowL i3 (f.s.av vo vp vh), RowL i1 c.av] G2 → J78 (.bool false) G2 := by
      intro G59 s59
      simp -zeta only [J78, brB_false]
      have hg := RowL.own (i := 3) s59 rfl
      refine wv_of (St.ld_peers hg ho hl) ?_
      refine wv_of (St.ld_atB hg ho hl) ?_
      refine dance_first.big (hS.p.mv s59.ch) hS.lp fun w hw => ?_
      have hfl := firstN_len f.p f.s.atB
      refine wv_of (upd_len hw.isSl) ?_
      obtain ⟨_, _, _, m3, _, m5, _, _, _⟩ := msg_load (i := 2) s59 rfl hm
      refine wv_of m3 ?_
      refine wv_of (St.ld_peers hg ho hl) ?_
      obtain ⟨w2, e1, e2⟩ := CapSl.drop (ie := ti_api_Update) (k := .i64) (m := (firstN f.p f.s.atB).length) T_sl_api_Update rfl T_api_Update (hS.p.mv s59.ch) (by rw [List.length_map]; exact hfl)
      rw [← List.map_drop] at e2
      refine wv_of e1 ?_
      refine wv_of m5 ?_
      refine clone_upd.big e2 (fun u hu => hS.okp u (List.mem_of_mem_drop hu)) (by rw [List.length_drop]; omega) fun w3 G74 t74 => ?_
      obtain ⟨F74, o74, c74⟩ := t74.out
      have s74 := s59.new o74 c74
      obtain ⟨_, _, _, m3, _, m5, _, _, _⟩ := msg_load (i := 3) s74 rfl hm
      refine ⟨⟨m5, m3, trivial⟩, ?_⟩
      have lw : Leaf w3 := (OwnL.own (i := 0) s74 rfl).leaf
      have hok : ({ RcM.zero with kind := 3, index := m.index, sig := m.hash } : RcM).ok := ⟨i64_n 3 (by decide) (by decide), UpdM.zero_ok, hm.index, i64_0, i64_0, hm.hash, rfl, rfl, i64_0⟩
      refine wv_of (build_came hm.hash lw) ?_
      refine Rc.st (i := 2) s74 rfl RcM.zero_ok Leaf.nil hok lw fun G76 s76 => ?_
      refine wv_of (Rc.ld (RowL.own (i := 2) s76 rfl) hok lw) ?_
      exact hQ _ G76 s76.ch
    rw [vun_not, wv_some]
    cases W2 with
    | false =>
      rw [Bool.not_false, brB_true]
      exact bad2 _ s50
    | true =>
      rw [Bool.not_true, brB_false]
      refine wv_of (Cf.ld_pkey (RowL.own (i := 4) s50 rfl) hc) ?_
      obtain ⟨_, _, _, _, _, m5, _, _, _⟩ := msg_load (i := 2) s50 rfl hm
      refine wv_of m5 ?_
      refine seal_Right.use hc.pkey hm.hash (by omega) fun G57 c57 => ?_
      have s57 := s50.tmp c57
      rw [vun_not, wv_some]
      by_cases h3 : mac c.pkey W1 = m.hash
      · rw [decide_eq_true h3]
        exact good2 _ s57
      · rw [decide_eq_false h3]
        exact bad2 _ s57
  refine wv_of (St.ld_loc hg ho hl) ?_
  rw [vbin_gtr, wv_some, brB_dec]
  refine ⟨fun h2 => bad (.inl h2), fun h2 => ?_⟩
  refine wv_of m3 ?_
  refine wv_of (St.ld_loc hg ho hl) ?_
  have hloc := ho.loc
  rw [vbin_add, i64_in (by have := hloc.1; omega) (by omega), wv_some, vbin_neq, wv_some]
  by_cases h3 : m.index = f.s.loc + 1
  · rw [decide_eq_true h3]
    exact good (by rintro (h | h); exact h2 h; exact h h3)
  · rw [decide_eq_false h3]
    exact bad (.inr h3)

set_option maxHeartbeats 4000000 in
theorem dance_Again.any {f : StF} {c : CfM} {vo vp vh : AVal} (hS : StL G f vo vp vh) (hc : c.ok) (hQ : ∀ v G', Ch [] G [] G' → Q v G') : ACalls P dance_Again.n [c.av, f.s.av vo vp vh] G Q := by
  have ho := hS.ok
  have hl := hS.lv
  have hlo := hS.lo
  have hlp := hS.lp
  refine dance_Again.sound ?_
  unfold dance_Again.S
  rw [zMsg]
  intro i1 f1
  have s1 := (Sp.nil G).row f1 c.av
  intro i3 f3
  have s3 := s1.row f3 (f.s.av vo vp vh)
  intro i5 f5
  have s5 := s3.row f5 MsgM.zero.av
  revert s5
  generalize Heap.upd _ i5 _ = G6
  intro s5
  have hg := RowL.own (i := 1) s5 rfl
  refine wv_of (v := .ptr i3 [13, 0] 16) rfl ?_
  refine wv_of (St.ld_ptsA hg ho hl) ?_
  refine newHash s5 ho.ptsA fun i9 G11 s11 => ?_
  have hg := RowL.own (i := 2) s11 rfl
  refine wv_of (St.ld_rem hg ho hl) ?_
  refine wv_of (St.ld_ack hg ho hl) ?_
  rw [vbin_neq, wv_some]
  obtain ⟨pt, hpt⟩ : ∃ pt, pt = if f.s.rem ≠ f.s.ack then f.s.ptsB else f.s.ptsA := ⟨_, rfl⟩
  have hp32 : pt.length = 32 := by
    rw [hpt]; split
    · exact ho.ptsB
    · exact ho.ptsA
  intro J49
  have go : ∀ G2, Sp [] G [RowL i9 (.agg (pt.map u8v)), RowL i5 MsgM.zero.av, RowL i3 (f.s.av vo vp vh), RowL i1 c.av] G2 → J49 G2 := by
    intro G18 s18
    simp -zeta only [J49]
    have hg := RowL.own (i := 2) s18 rfl
    refine wv_of (St.ld_bo hg ho hl) ?_
    refine wv_of (St.ld_bp hg ho hl) ?_
    refine wv_of (St.ld_ours hg ho hl) ?_
    refine wv_of (St.ld_peers hg ho hl) ?_
    refine wv_of (St.ld_sgn hg ho hl) ?_
    refine ledger_Fold.any (hS.o.mv s18.ch) (hS.p.mv s18.ch) hS.oko hS.okp hS.lo hS.lp fun o q e l x G25 hFok hFlen t25 => ?_
    obtain ⟨F25, o25, c25⟩ := t25.out
    have s25 := s18.new o25 c25
    have lx := (OwnL.own (i := 0) s25 rfl).leaf
    refine wv_of (tv0 _ _) ?_
    refine wv_of (tv1 _ _) ?_
    obtain ⟨w1, w2, w3⟩ := led_whole (o := o) (q := q) lx
    refine newVal s25 T_api_Ledger w1 (by rw [w2]; rfl) w3 fun i28 G30 s30 => ?_
    have hg := RowL.own (i := 4) s30 rfl
    refine wv_of (St.ld_side hg ho hl) ?_
    rw [vbin_sub, wv_some]
    refine wv_of (St.ld_rem hg ho hl) ?_
    refine wv_of (load_hash hp32 (RowL.own (i := 2) s30 rfl)) ?_
    refine wv_of (led_load (i := 0) s30 rfl lx).2.2.2 ?_
    refine commit_Turn.use (OwnL.own (i := 1) s30 rfl).is hFok (by omega) fun y G37 t37 => ?_
    obtain ⟨F37, o37, c37⟩ := t37.out
    have s37 := s30.new o37 c37
    have hg := RowL.own (i := 5) s37 rfl
    refine ⟨⟨load_hash hp32 (RowL.own (i := 3) s37 rfl), St.ld_rem hg ho hl, St.ld_side hg ho hl, trivial⟩, ?_⟩
    have hTok := turnL_ok hFok
    refine commit_Text.use hp32 (OwnL.own (i := 0) s37 rfl).is hTok (by rw [length_turnL]; omega) fun G39 c39 => ?_
    have s39 := s37.tmp c39
    have htl := textR_len (ow := IntKind.i64.wrap (1 - f.s.side)) (ix := f.s.rem) (o := q) (q := o) hp32 hTok
    obtain ⟨W, hW⟩ : ∃ W, W = textR (IntKind.i64.wrap (1 - f.s.side)) f.s.rem pt q o (turnL l) := ⟨_, rfl⟩
    rw [← hW] at htl ⊢
    refine wv_of (tv0 _ _) ?_
    refine wv_of (tv1 _ _) ?_
    have hg := RowL.own (i := 5) s39 rfl
    refine wv_of (St.ld_rem hg ho hl) ?_
    refine wv_of (Cf.ld_key (RowL.own (i := 6) s39 rfl) hc) ?_
    refine seal_Sign.use hc.key (by omega) fun G45 c45 => ?_
    have s45 := s39.tmp c45
    refine ⟨⟨St.ld_rem (RowL.own (i := 5) s45 rfl) ho hl, trivial⟩, ?_⟩
    have hz : (mac c.key W.1).length = 32 := length_sha _
    revert hz
    generalize mac c.key W.1 = Z
    intro hz
    have hok : ({ MsgM.zero with kind := 4, index := f.s.rem, hash := Z } : MsgM).ok := ⟨i64_n 4 (by decide) (by decide), i64_0, i64_0, ho.rem, i64_0, hz, rfl, by simp [MsgM.zero]⟩
    refine wv_of (build_again hz) ?_
    refine msg_store (i := 4) s45 rfl MsgM.zero_ok hok fun G47 s47 => ?_
    refine wv_of (whole_load T_api_Message (RowL.own (i := 4) s47 rfl) (MsgM.fits hok)) ?_
    exact hQ _ _ s47.ch
  by_cases h1 : f.s.rem = f.s.ack
  · rw [if_neg (fun hh => hh h1)] at hpt
    rw [decide_eq_true h1, Bool.not_true, brB_false]
    rw [← hpt] at s11
    exact go _ s11
  · rw [if_pos h1] at hpt
    rw [decide_eq_false h1, Bool.not_false, brB_true]
    refine wv_of (v := .ptr i3 [13, 1] 48) rfl ?_
    refine wv_of (St.ld_ptsB hg ho hl) ?_
    refine hash_store (i := 0) s11 rfl ho.ptsA ho.ptsB fun G17 s17 => ?_
    rw [← hpt] at s17
    exact go _ s17

set_option maxHeartbeats 4000000 in
theorem dance_Revoked.big {f : StF} {m : MsgM} {vo vp vh : AVal} (hT : Tab G) (hS : StL G f vo vp vh) (hm : m.ok) (hQ : ∀ G', Ch [] G [] G' → Q (tupR (revokedS f m)) G') : ACalls P dance_Revoked.n [f.s.av vo vp vh, m.av] G Q := by
  have ho := hS.ok
  have hl := hS.lv
  refine dance_Revoked.sound ?_
  unfold dance_Revoked.S
  rw [zRec]
  unfold revokedS at hQ
  intro i1 f1
  have s1 := (Sp.nil G).row f1 (f.s.av vo vp vh)
  intro i3 f3
  have s3 := s1.row f3 m.av
  intro i5 f5
  have s5 := s3.row f5 (RcM.zero.av .nilSlice)
  revert s5
  generalize Heap.upd _ i5 _ = G6
  intro s5
  refine wv_of (St.ld (RowL.own (i := 2) s5 rfl) ho hl) ?_
  refine dance_dead.big (hS.mv s5.ch) fun G9 c9 => ?_
  have s9 := s5.tmp c9
  have s9 : Sp [] G [RowL i5 (RcM.zero.av .nilSlice), RowL i3 m.av, RowL i1 (f.s.av vo vp vh)] G9 := s9
  rw [brB_bool]
  refine ⟨fun hd => ?_, fun hd => ?_⟩
  · rw [if_pos hd] at hQ
    exact rc_no (j := 0) s9 rfl RcM.zero_ok Leaf.nil fun G' s' => hQ G' s'.ch
  rw [if_neg (by rw [hd]; decide)] at hQ
  obtain ⟨m0, _, _, m3, _, _, _, _, _⟩ := msg_load (i := 1) s9 rfl hm
  refine wv_of m0 ?_
  rw [vbin_neq, wv_some, brB_ndec]
  refine ⟨fun h1 => ?_, fun h1 => ?_⟩
  · rw [if_pos h1] at hQ
    exact rc_no (j := 0) s9 rfl RcM.zero_ok Leaf.nil fun G' s' => hQ G' s'.ch
  rw [if_neg (fun hh => hh h1)] at hQ
  have hg := RowL.own (i := 2) s9 rfl
  intro J42
  have bad : (f.s.rem = f.s.ack ∨ IntKind.i64.wrap (f.s.rem - 1) ≠ f.s.ack ∨ m.index ≠ f.s.ack) → J42 (.bool true) G9 := by
    intro hb
    rw [if_pos hb] at hQ
    simp -zeta only [J42, brB_true]
    exact rc_no (j := 0) s9 rfl RcM.zero_ok Leaf.nil fun G' s' => hQ G' s'.ch
  have good : ¬ (f.s.rem = f.s.ack ∨ IntKind.i64.wrap (f.s.rem - 1) ≠ f.s.ack ∨ m.index ≠ f.s.ack) → J42 (.bool false) G9 := by
    intro hb
    rw [if_neg hb] at hQ
    simp -zeta only [J42, brB_false]
    refine wv_of (msg_load (i := 1) s9 rfl hm).2.2.2.2.2.2.1 ?_
    refine wv_of (v := .ptr i1 [13, 0] 16) rfl ?_
    refine wv_of (St.ld_ptsA hg ho hl) ?_
    refine seed_Point.use hm.secret fun G37 c37 => ?_
    have s37 := s9.tmp c37
    have hg := RowL.own (i := 2) s37 rfl
    refine ⟨⟨St.ld_ptsA hg ho hl, trivial⟩, ?_⟩
    rw [hash_neq (length_sha' _) ho.ptsA, wv_some, brB_ndec]
    refine ⟨fun h2 => ?_, fun h2 => ?_⟩
    · rw [if_pos h2] at hQ
      exact rc_no (j := 0) s37 rfl RcM.zero_ok Leaf.nil fun G' s' => hQ G' s'.ch
    rw [if_neg (fun hh => hh h2)] at hQ
    refine wv_of (St.ld_shelf hg ho hl) ?_
    refine wv_of (St.ld_ack hg ho hl) ?_
    refine wv_of (msg_load (i := 1) s37 rfl hm).2.2.2.2.2.2.1 ?_
    refine shelf_Put.use (hT.mono s37.ro) (hS.h.isSl.ch' s37.ch) hS.okh hS.lh hm.secret fun w G47 t47 => ?_
    have s47 := s37.tmp t47.ch
    refine wv_of (tv0 _ _) ?_
    refine wv_of (tv1 _ _) ?_
    rw [vbin_neq, wv_some, brB_ndec]
    refine ⟨fun h3 => ?_, fun h3 => ?_⟩
    · rw [if_pos h3] at hQ
      exact rc_no (j := 0) s47 rfl RcM.zero_ok Leaf.nil fun G' s' => hQ G' s'.ch
    rw [if_neg (fun hh => hh h3)] at hQ
    have hg := RowL.own (i := 2) s47 rfl
    obtain ⟨_, _, _, _, _, m5, m6, _, _⟩ := msg_load (i := 1) s47 rfl hm
    refine wv_of (St.ld_ack hg ho hl) ?_
    refine wv_of m6 ?_
    refine wv_of m5 ?_
    have hok : ({ RcM.zero with kind := 4, index := f.s.ack, secret := m.secret, point := m.hash } : RcM).ok := ⟨i64_n 4 (by decide) (by decide), UpdM.zero_ok, ho.ack, i64_0, i64_0, rfl, hm.secret, hm.hash, i64_0⟩
    refine wv_of (build_rev hm.secret hm.hash) ?_
    refine Rc.st (i := 0) s47 rfl RcM.zero_ok Leaf.nil hok Leaf.nil fun G58 s58 => ?_
    refine wv_of (Rc.ld (RowL.own (i := 0) s58 rfl) hok Leaf.nil) ?_
    exact hQ _ s58.ch
  refine wv_of (St.ld_rem hg ho hl) ?_
  refine wv_of (St.ld_ack hg ho hl) ?_
  rw [vbin_eql, wv_some, brB_dec]
  refine ⟨fun h2 => bad (.inl h2), fun h2 => ?_⟩
  refine wv_of (St.ld_rem hg ho hl) ?_
  rw [vbin_sub, wv_some]
  refine wv_of (St.ld_ack hg ho hl) ?_
  rw [vbin_neq, wv_some, brB_ndec]
  refine ⟨fun h3 => bad (.inr (.inl h3)), fun h3 => ?_⟩
  refine wv_of m3 ?_
  refine wv_of (St.ld_ack hg ho hl) ?_
  rw [vbin_neq, wv_some]
  by_cases h4 : m.index = f.s.ack
  · rw [decide_eq_true h4]
    exact good (by rintro (h | h | h); exact h2 h; exact h h3; exact h h4)
  · rw [decide_eq_false h4]
    exact bad (.inr (.inr h4))

set_option maxHeartbeats 2000000 in
theorem dance_Cut.big {f : StF} {vo vp vh : AVal} (hS : StL G f vo vp vh) (hQ : ∀ wo wp wh G', Sp [] G [OwnL 34 wh (f.h.map SlotM.av), OwnL 36 wp ((firstN f.p f.s.atB).map UpdM.av), OwnL 36 wo (f.o.map UpdM.av)] G' → Q (f.s.av wo wp wh) G') : ACalls P dance_Cut.n [f.s.av vo vp vh] G Q := by
  have ho := hS.ok
  have hl := hS.lv
  have hlp := hS.lp
  refine dance_Cut.sound ?_
  unfold dance_Cut.S
  rw [zSta]
  intro i1 f1
  have s1 := (Sp.nil G).row f1 (f.s.av vo vp vh)
  intro i3 f3
  have s3 := s1.row f3 (StM.zero.av .nilSlice .nilSlice .nilSlice)
  revert s3
  generalize Heap.upd _ i3 _ = G4
  intro s3
  have hg := RowL.own (i := 1) s3 rfl
  refine wv_of (St.ld_ours hg ho hl) ?_
  refine wv_of (St.ld_peers hg ho hl) ?_
  refine wv_of (St.ld_atB hg ho hl) ?_
  refine wv_of (St.ld_shelf hg ho hl) ?_
  refine clone_upd.big (hS.o.isSl.ch' s3.ch) hS.oko hS.lo fun wo G10 t10 => ?_
  obtain ⟨F10, o10, c10⟩ := t10.out
  have s10 := s3.new o10 c10
  have hg := RowL.own (i := 2) s10 rfl
  refine ⟨⟨St.ld_shelf hg ho hl, St.ld_atB hg ho hl, St.ld_peers hg ho hl, trivial⟩, ?_⟩
  refine dance_first.big (hS.p.mv s10.ch) hS.lp fun w hw => ?_
  refine ⟨⟨St.ld_shelf hg ho hl, trivial⟩, ?_⟩
  have hfl := firstN_len f.p f.s.atB
  refine clone_upd.big hw.isSl (firstN_ok hS.okp) (by omega) fun wp G14 t14 => ?_
  obtain ⟨F14, o14, c14⟩ := t14.out
  have s14 := s10.new o14 c14
  have hg := RowL.own (i := 3) s14 rfl
  refine ⟨⟨St.ld_shelf hg ho hl, trivial⟩, ?_⟩
  refine clone_slot.use (hS.h.isSl.ch' s14.ch) hS.okh hS.lh fun wh G16 t16 => ?_
  obtain ⟨F16, o16, c16⟩ := t16.out
  have s16 := s14.new o16 c16
  have lo : Leaf wo := (OwnL.own (i := 2) s16 rfl).leaf
  have lp : Leaf wp := (OwnL.own (i := 1) s16 rfl).leaf
  have lh : Leaf wh := (OwnL.own (i := 0) s16 rfl).leaf
  refine St.st_ours (i := 4) s16 rfl ho hl lo fun G17 s17 => ?_
  refine St.st_peers (i := 4) s17 rfl ho ⟨lo, hl.2.1, hl.2.2⟩ lp fun G18 s18 => ?_
  refine St.st_shelf (i := 4) s18 rfl ho ⟨lo, lp, hl.2.2⟩ lh fun G19 s19 => ?_
  refine wv_of (St.ld (RowL.own (i := 4) s19 rfl) ho ⟨lo, lp, lh⟩) ?_
  refine St.st (i := 3) s19 rfl StM.zero_ok lv0 ho ⟨lo, lp, lh⟩ fun G21 s21 => ?_
  refine wv_of (St.ld (RowL.own (i := 3) s21 rfl) ho ⟨lo, lp, lh⟩) ?_
  exact hQ wo wp wh G21 ((s21.erase 3).erase 3)

theorem escrowlaw15_Copy.big {f : StF} {vo vp vh : AVal} (hS : StL G f vo vp vh) (hQ : ∀ wo wp wh G', Sp [] G [OwnL 34 wh (f.h.map SlotM.av), OwnL 36 wp (f.p.map UpdM.av), OwnL 36 wo (f.o.map UpdM.av)] G' → Q (f.s.av wo wp wh) G') : ACalls P escrowlaw15_Copy.n [f.s.av vo vp vh] G Q := by
  have ho := hS.ok
  have hl := hS.lv
  have hlo := hS.lo
  have hlp := hS.lp
  have hlh := hS.lh
  refine escrowlaw15_Copy.sound ?_
  unfold escrowlaw15_Copy.S
  rw [zSta]
  intro i1 f1
  have s1 := (Sp.nil G).row f1 (f.s.av vo vp vh)
  intro i3 f3
  have s3 := s1.row f3 (StM.zero.av .nilSlice .nilSlice .nilSlice)
  revert s3
  generalize Heap.upd _ i3 _ = G4
  intro s3
  refine wv_of (St.ld_ours (RowL.own (i := 1) s3 rfl) ho hl) ?_
  have grow : ∀ {ps : List LP} {G1 : Heap} {x : AVal} {l : List UpdM} {K : AVal → Heap → Prop}, Sp [] G ps G1 → IsSl 36 G x (l.map UpdM.av) → (∀ u ∈ l, u.ok) → l.length ≤ 1954687338211 → (∀ w G2, Sp [] G (OwnL 36 w (l.map UpdM.av) :: ps) G2 → K w G2) → aAppend T G1 t_sl_api_Update t_sl_api_Update .nilSlice x K := by
    intro ps G1 x l K s hx hok hlen hK
    refine growL (T := T) (ts := t_sl_api_Update) (e := t_api_Update) (si := ti_sl_api_Update) (ie := ti_api_Update) (tx := t_sl_api_Update) (xi := ti_sl_api_Update) (i := 0) (vs := []) (xs := l.map UpdM.av) T_sl_api_Update rfl T_api_Update rfl (by decide) T_sl_api_Update (.inr ⟨_, rfl⟩) (s.nilL 36) rfl (hx.ch' s.ch).elems (upds_uni hok).1 (upds_uni hok).2 (by rw [show ti_api_Update.bytes = 72 from rfl, List.length_map]; simp; omega) fun w G5 s5 => ?_
    exact hK w G5 s5
  refine grow s3 hS.o.isSl hS.oko hS.lo fun wo G7 s7 => ?_
  have lo : Leaf wo := (OwnL.own (i := 0) s7 rfl).leaf
  refine St.st_ours (i := 2) s7 rfl ho hl lo fun G8 s8 => ?_
  refine wv_of (St.ld_peers (RowL.own (i := 2) s8 rfl) ho ⟨lo, hl.2.1, hl.2.2⟩) ?_
  refine grow s8 hS.p.isSl hS.okp hS.lp fun wp G11 s11 => ?_
  have lp : Leaf wp := (OwnL.own (i := 0) s11 rfl).leaf
  refine St.st_peers (i := 3) s11 rfl ho ⟨lo, hl.2.1, hl.2.2⟩ lp fun G12 s12 => ?_
  refine wv_of (St.ld_shelf (RowL.own (i := 3) s12 rfl) ho ⟨lo, lp, hl.2.2⟩) ?_
  refine growL (T := T) (ts := t_sl_api_Slot) (e := t_api_Slot) (si := ti_sl_api_Slot) (ie := ti_api_Slot) (tx := t_sl_api_Slot) (xi := ti_sl_api_Slot) (i := 0) (vs := []) (xs := f.h.map SlotM.av) T_sl_api_Slot rfl T_api_Slot rfl (by decide) T_sl_api_Slot (.inr ⟨_, rfl⟩) (s12.nilL 34) rfl (hS.h.isSl.ch' s12.ch).elems (uni_slots hS.okh) (okvs_slots f.h) (by rw [show ti_api_Slot.bytes = 48 from rfl, List.length_map]; simp; omega) fun wh G15 s15 => ?_
  have lh : Leaf wh := (OwnL.own (i := 0) s15 rfl).leaf
  refine St.st_shelf (i := 4) s15 rfl ho ⟨lo, lp, hl.2.2⟩ lh fun G16 s16 => ?_
  refine wv_of (St.ld (RowL.own (i := 4) s16 rfl) ho ⟨lo, lp, lh⟩) ?_
  refine St.st (i := 3) s16 rfl StM.zero_ok lv0 ho ⟨lo, lp, lh⟩ fun G18 s18 => ?_
  refine wv_of (St.ld (RowL.own (i := 3) s18 rfl) ho ⟨lo, lp, lh⟩) ?_
  exact hQ wo wp wh G18 ((s18.erase 3).erase 3)

/-- What a copy is. -/
theorem StL.copy {f : StF} {vo vp vh wo wp wh : AVal} {G1 : Heap} {i j k : Nat} (hS : StL G f vo vp vh) (s : Sp F0 G0 ps G1) (ho : ps[i]? = some (OwnL 36 wo (f.o.map UpdM.av))) (hp : ps[j]? = some (OwnL 36 wp (f.p.map UpdM.av))) (hh : ps[k]? = some (OwnL 34 wh (f.h.map SlotM.av))) : StL G1 f wo wp wh :=
  ⟨hS.ok, Own.capSl (OwnL.own s ho), Own.capSl (OwnL.own s hp), Own.capSl (OwnL.own s hh), hS.oko, hS.okp, hS.okh, hS.lo, hS.lp, hS.lh⟩

end

end Go.Esc.M

/- Own work. Chapter 15: DanceRaw, lists of any length. -/
set_option linter.unusedSimpArgs false
set_option linter.unusedVariables false
set_option maxRecDepth 20000
namespace Go.Esc.M
open Go Go.Esc

section
variable {F0 : List AId} {G0 G : Heap} {ps : List LP} {Q : AVal → Heap → Prop}

theorem wt_StateL {G : Heap} {d : Nat} {v : AVal} {m : Nat} (h : wt T G reachBytes (d + 5) t_api_State v m) : ∃ (f : StF) (vo vp vh : AVal), v = f.s.av vo vp vh ∧ StL G f vo vp vh := by
  obtain ⟨cs, ms, rfl, hf, rfl⟩ := wt_struct T_api_State rfl h
  obtain ⟨c1, cs, m1, ms, rfl, rfl, h1, hf⟩ := wfs_cons hf
  obtain ⟨c2, cs, m2, ms, rfl, rfl, h2, hf⟩ := wfs_cons hf
  obtain ⟨c3, cs, m3, ms, rfl, rfl, h3, hf⟩ := wfs_cons hf
  obtain ⟨c4, cs, m4, ms, rfl, rfl, h4, hf⟩ := wfs_cons hf
  obtain ⟨c5, cs, m5, ms, rfl, rfl, h5, hf⟩ := wfs_cons hf
  obtain ⟨c6, cs, m6, ms, rfl, rfl, h6, hf⟩ := wfs_cons hf
  obtain ⟨c7, cs, m7, ms, rfl, rfl, h7, hf⟩ := wfs_cons hf
  obtain ⟨c8, cs, m8, ms, rfl, rfl, h8, hf⟩ := wfs_cons hf
  obtain ⟨c9, cs, m9, ms, rfl, rfl, h9, hf⟩ := wfs_cons hf
  obtain ⟨c10, cs, m10, ms, rfl, rfl, h10, hf⟩ := wfs_cons hf
  obtain ⟨c11, cs, m11, ms, rfl, rfl, h11, hf⟩ := wfs_cons hf
  obtain ⟨c12, cs, m12, ms, rfl, rfl, h12, hf⟩ := wfs_cons hf
  obtain ⟨c13, cs, m13, ms, rfl, rfl, h13, hf⟩ := wfs_cons hf
  obtain ⟨c14, cs, m14, ms, rfl, rfl, h14, hf⟩ := wfs_cons hf
  obtain ⟨c15, cs, m15, ms, rfl, rfl, h15, hf⟩ := wfs_cons hf
  obtain ⟨c16, cs, m16, ms, rfl, rfl, h16, hf⟩ := wfs_cons hf
  obtain ⟨c17, cs, m17, ms, rfl, rfl, h17, hf⟩ := wfs_cons hf
  obtain ⟨c18, cs, m18, ms, rfl, rfl, h18, hf⟩ := wfs_cons hf
  obtain ⟨rfl, rfl⟩ := wfs_nil hf
  obtain ⟨a1, rfl, w1, _⟩ := wt_int T_int rfl h1
  obtain ⟨a2, rfl, w2, _⟩ := wt_int T_int64 rfl h2
  obtain ⟨a3, rfl, w3, _⟩ := wt_int T_int64 rfl h3
  obtain ⟨a4, rfl, w4, _⟩ := wt_int T_int64 rfl h4
  obtain ⟨o, ho, oko, lo⟩ := wt_Upds h5
  obtain ⟨p, hp, okp, lp⟩ := wt_Upds h6
  obtain ⟨a7, rfl, w7, _⟩ := wt_int T_int64 rfl h7
  obtain ⟨a8, rfl, w8, _⟩ := wt_int T_int64 rfl h8
  obtain ⟨a9, rfl, w9, _⟩ := wt_int T_int64 rfl h9
  obtain ⟨a10, b10, rfl, w10, w10'⟩ := wt_Pair h10
  obtain ⟨a11, b11, rfl, w11, w11'⟩ := wt_Pair h11
  obtain ⟨a12, b12, rfl, w12, w12'⟩ := wt_Pair h12
  obtain ⟨a13, rfl, _⟩ := wt_bool T_bool rfl h13
  obtain ⟨a14, b14, rfl, w14, w14'⟩ := wt_hash2 h14
  obtain ⟨a15, rfl, w15, _⟩ := wt_hash T_api_Hash rfl T_uint8 rfl h15
  obtain ⟨hs, hh, okh, lh⟩ := wt_Slots h16
  obtain ⟨a17, rfl, w17, _⟩ := wt_int T_int rfl h17
  obtain ⟨a18, rfl, w18, _⟩ := wt_int T_int64 rfl h18
  have lo : o.length * 72 ≤ 140737488351232 := lo
  have lp : p.length * 72 ≤ 140737488351232 := lp
  have lh : hs.length * 48 ≤ 140737488351232 := lh
  refine ⟨⟨⟨a1, a2, a3, a4, a7, a8, a9, a10, b10, a11, b11, a12, b12, a13, a14, b14, a15, a17, a18⟩, o, p, hs⟩, c5, c6, c16, rfl, ?_⟩
  exact ⟨⟨i64_wf.1 w1, i64_wf.1 w2, i64_wf.1 w3, i64_wf.1 w4, i64_wf.1 w7, i64_wf.1 w8, i64_wf.1 w9, w10, w10', w11, w11', w12, w12', w14, w14', w15, i64_wf.1 w17, i64_wf.1 w18⟩, ho.cap, hp.cap, hh.cap, oko, okp, okh, by show o.length ≤ _; omega, by show p.length ≤ _; omega, by show hs.length * 48 ≤ _; omega⟩

end

set_option maxHeartbeats 4000000 in
theorem law_DanceRaw {G : Heap} {c s u m a i : AVal} {m1 m2 m3 m4 m5 m6 : Nat} (hT : Tab G) (h1 : wt T G reachBytes 6 t_api_Config c m1) (h2 : wt T G reachBytes 6 t_api_State s m2) (h3 : wt T G reachBytes 6 t_api_Update u m3) (h4 : wt T G reachBytes 6 t_api_Message m m4) (h5 : wt T G reachBytes 6 t_int64 a m5) (h6 : wt T G reachBytes 6 t_int64 i m6) :
    ACalls P escrowlaw15_DanceRaw.n [c, s, u, m, a, i] G fun v _ => v = .bool true := by
  obtain ⟨c, rfl, hc⟩ := wt_Config h1
  obtain ⟨f, vo, vp, vh, rfl, hS⟩ := wt_StateL h2
  obtain ⟨u, rfl, hu, _⟩ := wt_Upd h3
  obtain ⟨m, rfl, hmo⟩ := wt_Msg h4
  obtain ⟨a, rfl, wa, _⟩ := wt_int T_int64 rfl h5
  obtain ⟨id, rfl, wi, _⟩ := wt_int T_int64 rfl h6
  have hid := i64_wf.1 wi
  have ho := hS.ok
  have hl := hS.lv
  refine escrowlaw15_DanceRaw.sound ?_
  unfold escrowlaw15_DanceRaw.S
  intro i1 f1
  have s1 := (Sp.nil G).row f1 c.av
  intro i3 f3
  have s3 := s1.row f3 (f.s.av vo vp vh)
  intro i5 f5
  have s5 := s3.row f5 u.av
  intro i7 f7
  have s7 := s5.row f7 m.av
  refine escrowlaw15_fixed.use (hT.mono s7.ro) fun G10 c10 => ?_
  have s10 := s7.tmp c10
  have s10 : Sp [] G [RowL i7 m.av, RowL i5 u.av, RowL i3 (f.s.av vo vp vh), RowL i1 c.av] G10 := s10
  rw [vun_not, wv_some, Bool.not_true, brB_false]
  have copy : ∀ {G1 : Heap} {K : AVal → Heap → Prop}, Sp [] G [RowL i7 m.av, RowL i5 u.av, RowL i3 (f.s.av vo vp vh), RowL i1 c.av] G1 →
      (∀ wo wp wh G2, StL G2 f wo wp wh → Sp [] G [RowL i7 m.av, RowL i5 u.av, RowL i3 (f.s.av vo vp vh), RowL i1 c.av] G2 → K (f.s.av wo wp wh) G2) → ACalls P escrowlaw15_Copy.n [f.s.av vo vp vh] G1 K := by
    intro G1 K s hK
    refine escrowlaw15_Copy.big (hS.mv s.ch) fun wo wp wh G2 t2 => ?_
    exact hK wo wp wh G2 (StL.copy (i := 2) (j := 1) (k := 0) hS t2 rfl rfl rfl) (s.tmp t2.ch)
  refine wv_of (St.ld (RowL.own (i := 2) s10 rfl) ho hl) ?_
  refine copy s10 fun wo wp wh G14 hC s14 => ?_
  refine dance_Fixed.big hC fun G16 c16 => ?_
  have s16 := s14.tmp c16
  refine wv_of (St.ld (RowL.own (i := 2) s16 rfl) ho hl) ?_
  refine copy s16 fun wo wp wh G19 hC s19 => ?_
  refine dance_Spendable.any hC fun r21 G21 c21 => ?_
  have s21 := s19.tmp c21
  refine wv_of (St.ld (RowL.own (i := 2) s21 rfl) ho hl) ?_
  refine copy s21 fun wo wp wh G24 hC s24 => ?_
  refine dance_PeerSpendable.any hC fun r26 G26 c26 => ?_
  have s26 := s24.tmp c26
  refine wv_of (St.ld (RowL.own (i := 2) s26 rfl) ho hl) ?_
  refine wv_of (upd_load (i := 1) s26 rfl hu).2.2.2.1 ?_
  refine copy s26 fun wo wp wh G30 hC s30 => ?_
  refine ⟨⟨(upd_load (i := 1) s30 rfl hu).2.2.2.1, trivial⟩, ?_⟩
  refine dance_Offer.any hC hu.hash fun v32 G32 c32 => ?_
  have s32 := s30.tmp c32
  refine wv_of (St.ld (RowL.own (i := 2) s32 rfl) ho hl) ?_
  refine wv_of (upd_load (i := 1) s32 rfl hu).2.2.2.1 ?_
  refine copy s32 fun wo wp wh G36 hC s36 => ?_
  refine ⟨⟨(upd_load (i := 1) s36 rfl hu).2.2.2.1, trivial⟩, ?_⟩
  refine dance_Settle.big hC hid hu.hash fun G38 c38 => ?_
  have s38 := s36.tmp c38
  refine wv_of (St.ld (RowL.own (i := 2) s38 rfl) ho hl) ?_
  refine wv_of (upd_load (i := 1) s38 rfl hu).2.2.2.2.1 ?_
  refine copy s38 fun wo wp wh G42 hC s42 => ?_
  refine ⟨⟨(upd_load (i := 1) s42 rfl hu).2.2.2.2.1, trivial⟩, ?_⟩
  refine dance_Refuse.big hC hid hu.note fun G44 c44 => ?_
  have s44 := s42.tmp c44
  refine wv_of (Cf.ld (RowL.own (i := 3) s44 rfl) hc) ?_
  refine wv_of (St.ld (RowL.own (i := 2) s44 rfl) ho hl) ?_
  refine copy s44 fun wo wp wh G48 hC s48 => ?_
  refine ⟨⟨Cf.ld (RowL.own (i := 3) s48 rfl) hc, trivial⟩, ?_⟩
  refine dance_Sign.big hC fun G50 c50 => ?_
  have s50 := s48.tmp c50
  refine wv_of (Cf.ld (RowL.own (i := 3) s50 rfl) hc) ?_
  refine wv_of (St.ld (RowL.own (i := 2) s50 rfl) ho hl) ?_
  refine copy s50 fun wo wp wh G54 hC s54 => ?_
  refine ⟨⟨Cf.ld (RowL.own (i := 3) s54 rfl) hc, trivial⟩, ?_⟩
  refine dance_Again.any hC hc fun v56 G56 c56 => ?_
  have s56 := s54.tmp c56
  refine wv_of (St.ld (RowL.own (i := 2) s56 rfl) ho hl) ?_
  refine wv_of (upd_load (i := 1) s56 rfl hu).2.2.2.2.2 ?_
  refine copy s56 fun wo wp wh G60 hC s60 => ?_
  refine ⟨⟨(upd_load (i := 1) s60 rfl hu).2.2.2.2.2, trivial⟩, ?_⟩
  refine dance_Heard.any hC hu fun v62 G62 c62 => ?_
  have s62 := s60.tmp c62
  refine wv_of (Cf.ld (RowL.own (i := 3) s62 rfl) hc) ?_
  refine wv_of (St.ld (RowL.own (i := 2) s62 rfl) ho hl) ?_
  refine wv_of (msg_load (i := 0) s62 rfl hmo).2.2.2.2.2.2.2.2 ?_
  refine copy s62 fun wo wp wh G67 hC s67 => ?_
  refine ⟨⟨(msg_load (i := 0) s67 rfl hmo).2.2.2.2.2.2.2.2, Cf.ld (RowL.own (i := 3) s67 rfl) hc, trivial⟩, ?_⟩
  refine dance_Came.any hC hc hmo fun v69 G69 c69 => ?_
  have s69 := s67.tmp c69
  refine wv_of (Cf.ld (RowL.own (i := 3) s69 rfl) hc) ?_
  refine dance_Reveal.use hc fun G72 c72 => ?_
  have s72 := s69.tmp c72
  refine wv_of (St.ld (RowL.own (i := 2) s72 rfl) ho hl) ?_
  refine wv_of (msg_load (i := 0) s72 rfl hmo).2.2.2.2.2.2.2.2 ?_
  refine copy s72 fun wo wp wh G76 hC s76 => ?_
  refine ⟨⟨(msg_load (i := 0) s76 rfl hmo).2.2.2.2.2.2.2.2, trivial⟩, ?_⟩
  refine dance_Revoked.big (hT.mono s76.ro) hC hmo fun G78 c78 => ?_
  have s78 := s76.tmp c78
  refine wv_of (St.ld (RowL.own (i := 2) s78 rfl) ho hl) ?_
  refine copy s78 fun wo wp wh G81 hC s81 => ?_
  refine dance_Cut.big hC fun xo xp xh G83 t83 => ?_
  rfl

end Go.Esc.M
