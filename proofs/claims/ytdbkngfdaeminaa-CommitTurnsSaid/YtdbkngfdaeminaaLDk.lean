/- Own work. Chapter 14: CommitTurns. -/
import Derived.Test.YtdbkngfdaeminaaLDj
set_option linter.unusedSimpArgs false
set_option linter.unusedVariables false
namespace Go.Esc.M
open Go Go.Esc

def m1 : PenM := ⟨false, -1, 0, z32⟩
def m2 : PenM := ⟨false, -2, 0, z32⟩
theorem m1_ok : m1.ok := ⟨⟨by decide, by decide⟩, ⟨by decide, by decide⟩, rfl⟩
theorem m2_ok : m2.ok := ⟨⟨by decide, by decide⟩, ⟨by decide, by decide⟩, rfl⟩

section
variable {F0 : List AId} {G0 G : Heap} {ps : List LP} {Q : AVal → Heap → Prop}

theorem pens_uni {l : List PenM} (h : ∀ p ∈ l, p.ok) : Esc.uni 35 (l.map PenM.av) = true ∧ okvs (l.map PenM.av) = true := by
  refine ⟨by simp only [Esc.uni, List.all_map, List.all_eq_true]; intro p hp; simp [PenM.sz (h p hp)], ?_⟩
  induction l with
  | nil => rfl
  | cons p l ih => simp [okvs, PenM.okv, ih (fun p hp => h p (by simp [hp]))]

/-- A place of one's own list, written over. -/
theorem pen_set {i j : Nat} {v : AVal} {l : List PenM} {p : PenM} (hs : Sp F0 G0 ps G) (hi : ps[i]? = some (OwnL 35 v (l.map PenM.av))) (hj : j < l.length) (hp : p.ok) :
    ∃ a, viaddr T t_sl_api_Pending v (.int .i64 (j : Int)) = some a ∧ ∀ K : Heap → Prop, (∀ G', Sp F0 G0 (ps.set i (OwnL 35 v ((l.set j p).map PenM.av))) G' → K G') → wg (vstore T G t_api_Pending a p.av) K := by
  have ho := OwnL.own hs hi
  rcases ho with ⟨_, h⟩ | ⟨id, len, cap, cs, rfl, hg, hc, hl, hu, he⟩
  · rw [List.map_eq_nil_iff] at h
    rw [h] at hj
    simp at hj
  · have hlen : len = l.length := by
      have := congrArg List.length he
      simp only [List.length_map, List.length_take] at this
      omega
    obtain ⟨a, ha, hst⟩ := own_set (T := T) (t := t_sl_api_Pending) (e := t_api_Pending) (i := ti_sl_api_Pending) (ie := ti_api_Pending) (cap := cap) (k := .i64) (c := p.av) T_sl_api_Pending rfl T_api_Pending hg hu (show j < len by omega) (by omega) (PenM.sz hp) rfl (PenM.okv p)
    refine ⟨a, ha, fun K hK => wg_of hst (hK _ ?_)⟩
    refine hs.call hi (OwnL 35 (.slice id [] 0 0 len cap) ((l.set j p).map PenM.av)) fun F h k => ?_
    obtain ⟨_, rfl⟩ := h
    refine k _ _ ⟨.inr ⟨id, len, cap, cs.set j p.av, rfl, Heap.upd_self _ _ _, by rw [List.length_set]; exact hc, hl, uni_set hu (PenM.sz hp), ?_⟩, rfl⟩ (upd_ch hg (by simp))
    rw [List.map_set, he, List.take_set]

theorem pen_amount {o q : Int} {l : List PenM} (h : soundP o q l = true) : ∀ p ∈ l, 1 ≤ p.amount ∧ p.amount ≤ 1152921504606846976 := fun p hp =>
  (((soundP_iff _ _ _).1 h).l.mem p hp).2
theorem led_range {o q : Int} {l : List PenM} (h : soundP o q l = true) : 0 ≤ o ∧ o ≤ 1152921504606846976 ∧ 0 ≤ q ∧ q ≤ 1152921504606846976 := by
  have := (soundP_iff _ _ _).1 h
  exact ⟨this.o0, this.o1, this.q0, this.q1⟩

end

set_option maxRecDepth 20000 in
set_option maxHeartbeats 2000000 in
theorem law_CommitTurns {G : Heap} {a : AVal} {ma : Nat} (h1 : wt T G reachBytes 6 t_api_Ledger a ma) :
    ACalls P escrowlaw14_CommitTurns.n [a] G fun v _ => v = .bool true := by
  obtain ⟨oa, qa, va, la, rfl, _, _, hroa, hoka, hRa, _⟩ := wt_Led h1
  have hRa : la.length * 56 ≤ 140737488351232 := hRa
  have hla := hroa.is
  have hva := sl_leaf hla
  refine escrowlaw14_CommitTurns.sound ?_
  unfold escrowlaw14_CommitTurns.S
  rw [zLed]
  intro i1 f1
  have s1 := (Sp.nil G).row f1 (ledV oa qa va)
  refine wv_of (led_load (i := 0) s1 rfl hva).2.2.2 ?_
  refine escrowlaw14_made.use (hla.ch' s1.ch) hoka (by omega) fun wa G5 s5 => ?_
  obtain ⟨F5, ho5, c5⟩ := s5.out
  have s5 := s1.new ho5 c5
  have hA := made_sound oa qa la
  have hT := turn_sound oa qa la
  have hback := turn_back la
  have hAok := madeL_ok hoka
  have hA80 := length_madeL la
  obtain ⟨o, ho⟩ : ∃ x, x = oa % 1152921504606846976 := ⟨_, rfl⟩
  obtain ⟨q, hq⟩ : ∃ x, x = qa % 1152921504606846976 := ⟨_, rfl⟩
  obtain ⟨A, hAA⟩ : ∃ x, x = madeL la := ⟨_, rfl⟩
  rw [← ho, ← hq, ← hAA] at hA hT
  rw [← hAA] at s5 hAok hA80 hback
  rw [← ho, ← hq]
  have hTok := turnL_ok hAok
  have hTlen := length_turnL A
  have htot := tot_turn A
  obtain ⟨D, hD⟩ : ∃ x, x = turnL A := ⟨_, rfl⟩
  rw [← hD] at hT hback hTok hTlen htot
  have hwa := (OwnL.own (i := 0) s5 rfl).leaf
  intro i6 f6
  have s6 := s5.row f6 (ledV 0 0 .nilSlice)
  refine led_store (i := 0) s6 rfl rfl hwa fun G8 s8 => ?_
  refine wv_of (led_load (i := 0) s8 rfl hwa).2.2.2 ?_
  refine commit_Turn.use (OwnL.own (i := 1) s8 rfl).is hAok (by omega) fun wt' G11 s11 => ?_
  rw [← hD] at s11
  obtain ⟨F11, ho11, c11⟩ := s11.out
  have s11 := s8.new ho11 c11
  have hwt := (OwnL.own (i := 0) s11 rfl).leaf
  intro i12 f12
  have s12 := s11.row f12 (ledV 0 0 .nilSlice)
  refine led_store (i := 0) s12 rfl rfl hwt fun G14 s14 => ?_
  refine wv_of (led_load (i := 2) s14 rfl hwa).2.2.2 ?_
  refine commit_Turn.use (OwnL.own (i := 3) s14 rfl).is hAok (by omega) fun ws G17 s17 => ?_
  rw [← hD] at s17
  obtain ⟨F17, ho17, c17⟩ := s17.out
  have s17 := s14.new ho17 c17
  have hws := (OwnL.own (i := 0) s17 rfl).leaf
  intro i18 f18
  have s18 := s17.row f18 (ledV 0 0 .nilSlice)
  refine led_store (i := 0) s18 rfl rfl hws fun G20 s20 => ?_
  refine wv_of (led_load (i := 2) s20 rfl hwt).2.2.2 ?_
  refine commit_Turn.use (OwnL.own (i := 3) s20 rfl).is hTok (by omega) fun wb G23 s23 => ?_
  rw [hback] at s23
  obtain ⟨F23, ho23, c23⟩ := s23.out
  have s23 := s20.new ho23 c23
  have hwb := (OwnL.own (i := 0) s23 rfl).leaf
  intro i24 f24
  have s24 := s23.row f24 (ledV 0 0 .nilSlice)
  refine led_store (i := 0) s24 rfl rfl hwb fun G26 s26 => ?_
  have s26 : Sp [] G [RowL i24 (ledV o q wb), OwnL 35 wb (A.map PenM.av), RowL i18 (ledV q o ws), OwnL 35 ws (D.map PenM.av), RowL i12 (ledV q o wt'), OwnL 35 wt' (D.map PenM.av), RowL i6 (ledV o q wa), OwnL 35 wa (A.map PenM.av), RowL i1 (ledV oa qa va)] G26 := s26
  refine wv_of (v := .agg (z32.map u8v)) rfl ?_
  refine wv_of (led_load (i := 4) s26 rfl hwt).2.2.2 ?_
  have hvT : (⟨0, 0, z32, q, o, D⟩ : Com).Valid := ⟨(by decide : ¬ argBad 0 0), hT, rfl, hTok⟩
  refine commit_Text.use (point := z32) rfl (OwnL.own (i := 5) s26 rfl).is hTok (by omega) fun G30 c30 => ?_
  have s30 := s26.tmp c30
  have hR2 : (textR 0 0 z32 q o D).2 = 0 := by
    have h1 := hvT.arg
    have h2 := hvT.sound
    dsimp only at h1 h2
    rw [textR, if_neg h1, h2, cond_true]
  rw [hR2, vext0, wv_some, vext1, wv_some]
  refine wv_of (led_load (i := 6) s30 rfl hwa).2.2.2 ?_
  refine escrowlaw14_sum.use (OwnL.own (i := 7) s30 rfl).is (led_range hA) (by omega) (pen_amount hA) fun G35 c35 => ?_
  have s35 := s30.tmp c35
  rw [vext0, wv_some, vext1, wv_some]
  refine wv_of (led_load (i := 4) s35 rfl hwt).2.2.2 ?_
  refine escrowlaw14_sum.use (OwnL.own (i := 5) s35 rfl).is (led_range hT) (by omega) (pen_amount hT) fun G40 c40 => ?_
  have s40 := s35.tmp c40
  rw [vext0, wv_some, vext1, wv_some, htot, show q + o = o + q by omega]
  obtain ⟨hi, hhi⟩ : ∃ x, x = (o + q + tot A) / 2305843009213693952 := ⟨_, rfl⟩
  obtain ⟨lo, hlo⟩ : ∃ x, x = (o + q + tot A) % 2305843009213693952 := ⟨_, rfl⟩
  rw [← hhi, ← hlo]
  have nz : ∀ {t : TypeId} {k : IntKind} {n : Int}, vbin T .neq t (.int k n) (.int k n) = some (.bool false) := fun {t k n} => by rw [vbin_neq, decide_eq_true rfl]; rfl
  have ez : ∀ {t : TypeId} {k : IntKind} {n : Int}, vbin T .eql t (.int k n) (.int k n) = some (.bool true) := fun {t k n} => by rw [vbin_eql, decide_eq_true rfl]
  have lenO : ∀ {G' : Heap} {v : AVal} {l : List PenM}, Own 35 G' v (l.map PenM.av) → vlen T G' t_sl_api_Pending v = some (.int .i64 (l.length : Nat)) := fun {G' v l} h => by
    rw [h.is.len (i := ti_sl_api_Pending) T_sl_api_Pending rfl, List.length_map]
  intro J151
  have hJ : ∀ G', Sp [] G [RowL i24 (ledV o q wb), OwnL 35 wb (A.map PenM.av), RowL i18 (ledV q o ws), OwnL 35 ws (D.map PenM.av), RowL i12 (ledV q o wt'), OwnL 35 wt' (D.map PenM.av), RowL i6 (ledV o q wa), OwnL 35 wa (A.map PenM.av), RowL i1 (ledV oa qa va)] G' → J151 (.bool false) G' := by
    intro G65 s65
    simp -zeta only [J151, brB_false]
    refine wv_of (led_load (i := 2) s65 rfl hws).2.2.1 ?_
    have hbytes : ti_api_Pending.bytes = 56 := rfl
    refine growL (T := T) (ts := t_sl_api_Pending) (e := t_api_Pending) (si := ti_sl_api_Pending) (ie := ti_api_Pending) (tx := t_sl_api_Pending) (xi := ti_sl_api_Pending) (i := 0) (vs := []) (xs := D.map PenM.av) T_sl_api_Pending rfl T_api_Pending rfl (by decide) T_sl_api_Pending (.inr ⟨_, rfl⟩) (s65.nilL 35) rfl (OwnL.own (i := 3) s65 rfl).is.elems (pens_uni hTok).1 (pens_uni hTok).2
      (by rw [hbytes, List.length_map]; simp; omega) fun wk G69 s69 => ?_
    have s69 : Sp [] G [OwnL 35 wk (D.map PenM.av), RowL i24 (ledV o q wb), OwnL 35 wb (A.map PenM.av), RowL i18 (ledV q o ws), OwnL 35 ws (D.map PenM.av), RowL i12 (ledV q o wt'), OwnL 35 wt' (D.map PenM.av), RowL i6 (ledV o q wa), OwnL 35 wa (A.map PenM.av), RowL i1 (ledV oa qa va)] G69 := s69
    intro R70 hR70
    have loop : ∀ (n j : Nat) (G' : Heap), D.length - j = n → j ≤ D.length →
        Sp [] G [OwnL 35 wk (D.map PenM.av), RowL i24 (ledV o q wb), OwnL 35 wb (A.map PenM.av), RowL i18 (ledV q o ws), OwnL 35 ws (D.map PenM.av), RowL i12 (ledV q o wt'), OwnL 35 wt' ((List.replicate j m1 ++ D.drop j).map PenM.av), RowL i6 (ledV o q wa), OwnL 35 wa (A.map PenM.av), RowL i1 (ledV oa qa va)] G' →
        R70 [.ptr i6 [] 0, .ptr i12 [] 0, .ptr i18 [] 0, .ptr i24 [] 0, wk, .int .i64 (j : Int)] G' := by
      intro n
      induction n with
      | zero =>
        intro j G' hn hj hs
        have : j = D.length := by omega
        subst this
        have hot := OwnL.own (i := 6) hs rfl
        have hl := lenO hot
        rw [List.length_append, List.length_replicate, List.drop_length, List.length_nil, Nat.add_zero] at hl
        rw [List.drop_length, List.append_nil] at hs
        refine hR70 _ _ _ _ _ _ _ ?_
        show wv (vload T G' t_sl_api_Pending (.ptr i12 [2] 2)) _
        refine wv_of (led_load (i := 5) hs rfl hwt).2.2.1 ?_
        refine wv_of hl ?_
        rw [vbin_lss, wv_some, brB_dec]
        refine ⟨fun h => absurd h (by omega), fun _ => ?_⟩
        show wv (vload T G' t_sl_api_Pending (.ptr i12 [2] 2)) _
        refine wv_of (led_load (i := 5) hs rfl hwt).2.2.1 ?_
        refine wv_of (v := m2.av) rfl ?_
        refine growV (T := T) (ts := t_sl_api_Pending) (e := t_api_Pending) (si := ti_sl_api_Pending) (ie := ti_api_Pending) (i := 6) T_sl_api_Pending rfl T_api_Pending rfl (by decide) hs rfl (PenM.sz m2_ok) (PenM.okv _) (by decide) (by rw [hbytes, List.length_map, List.length_replicate]; omega) fun wu G94 s94 => ?_
        have s94 : Sp [] G [OwnL 35 wk (D.map PenM.av), RowL i24 (ledV o q wb), OwnL 35 wb (A.map PenM.av), RowL i18 (ledV q o ws), OwnL 35 ws (D.map PenM.av), RowL i12 (ledV q o wt'), OwnL 35 wu ((List.replicate D.length m1 ++ [m2]).map PenM.av), RowL i6 (ledV o q wa), OwnL 35 wa (A.map PenM.av), RowL i1 (ledV oa qa va)] G94 := by
          rw [List.map_append]
          exact s94
        have hwu := (OwnL.own (i := 6) s94 rfl).leaf
        show wg (vstore T G94 t_sl_api_Pending (.ptr i12 [2] 2) wu) _
        refine led_set (i := 5) s94 rfl hwt.1 hwu fun G96 s96 => ?_
        have s96 : Sp [] G [OwnL 35 wk (D.map PenM.av), RowL i24 (ledV o q wb), OwnL 35 wb (A.map PenM.av), RowL i18 (ledV q o ws), OwnL 35 ws (D.map PenM.av), RowL i12 (ledV q o wu), OwnL 35 wu ((List.replicate D.length m1 ++ [m2]).map PenM.av), RowL i6 (ledV o q wa), OwnL 35 wa (A.map PenM.av), RowL i1 (ledV oa qa va)] G96 := s96
        intro R97 hR97
        have lp : ∀ (n j : Nat), D.length - j = n → j ≤ D.length → R97 [.ptr i6 [] 0, .ptr i12 [] 0, .ptr i18 [] 0, .ptr i24 [] 0, wk, .int .i64 (j : Int)] G96 := by
          intro n
          induction n with
          | zero =>
            intro j hn hj
            have : j = D.length := by omega
            subst this
            refine hR97 _ _ _ _ _ _ _ ?_
            refine wv_of (lenO (OwnL.own (i := 0) s96 rfl)) ?_
            rw [vbin_lss, wv_some, brB_dec]
            refine ⟨fun h => absurd h (by omega), fun _ => ?_⟩
            refine wv_of (led_load (i := 7) s96 rfl hwa).2.2.2 ?_
            refine wv_of (led_load (i := 3) s96 rfl hws).2.2.2 ?_
            refine commit_Turn.use (OwnL.own (i := 8) s96 rfl).is hAok (by omega) fun wx G128 s128 => ?_
            rw [← hD] at s128
            obtain ⟨F128, ho128, c128⟩ := s128.out
            have s128 := s96.new ho128 c128
            refine ⟨⟨(led_load (i := 4) s128 rfl hws).2.2.2, trivial⟩, ?_⟩
            refine escrowlaw14_same.use (OwnL.own (i := 0) s128 rfl).is (OwnL.own (i := 5) s128 rfl).is hTok hTok (by omega) fun bb G130 hbb c130 => ?_
            have s130 := s128.tmp c130
            rw [hbb.2 ⟨rfl, rfl, rfl⟩, brB_true]
            show wv (vload T G130 t_sl_api_Pending (.ptr i18 [2] 2)) _
            refine wv_of (led_load (i := 4) s130 rfl hws).2.2.1 ?_
            refine wv_of (lenO (OwnL.own (i := 5) s130 rfl)) ?_
            refine wv_of (lenO (OwnL.own (i := 1) s130 rfl)) ?_
            rw [ez, wv_some, brB_true]
            show wv (vload T G130 t_sl_api_Pending (.ptr i12 [2] 2)) _
            refine wv_of (led_load (i := 6) s130 rfl hwu).2.2.1 ?_
            refine wv_of (lenO (OwnL.own (i := 1) s130 rfl)) ?_
            obtain ⟨x, y, hx, hy, hld⟩ := pen_fldA (j := D.length) (p := m2) (f := 1) (o := 1) (tf := t_int64) (fi := ti_int64) (OwnL.own (i := 7) s130 rfl).is (by simp) rfl T_int64 (by decide) rfl rfl rfl
            rw [hx, wv_some, hy, wv_some, hld, wv_some]
            rw [show (AVal.int .i64 m2.id) = .int .i64 (-2) from rfl, ez, wv_some, brB_true]
            refine wv_of (led_load (i := 2) s130 rfl hwb).2.2.2 ?_
            refine wv_of (led_load (i := 4) s130 rfl hws).2.2.2 ?_
            refine commit_Turn.use (OwnL.own (i := 3) s130 rfl).is hAok (by omega) fun wy G146 s146 => ?_
            rw [← hD] at s146
            obtain ⟨F146, ho146, c146⟩ := s146.out
            have s146 := s130.new ho146 c146
            refine ⟨⟨(led_load (i := 5) s146 rfl hws).2.2.2, trivial⟩, ?_⟩
            refine escrowlaw14_same.use (OwnL.own (i := 0) s146 rfl).is (OwnL.own (i := 6) s146 rfl).is hTok hTok (by omega) fun bb G148 hbb c148 => ?_
            rw [hbb.2 ⟨rfl, rfl, rfl⟩]
          | succ n ih2 =>
            intro j hn hj
            obtain ⟨p, hp⟩ : ∃ p, D[j]? = some p := ⟨_, List.getElem?_eq_getElem (by omega)⟩
            have hpo := hTok p (List.mem_of_getElem? hp)
            obtain ⟨a, ha, hla'⟩ := pen_at (OwnL.own (i := 4) s96 rfl).is hp
            obtain ⟨b, hb, hlb⟩ := pen_at (OwnL.own (i := 0) s96 rfl).is hp
            refine hR97 _ _ _ _ _ _ _ ?_
            refine wv_of (lenO (OwnL.own (i := 0) s96 rfl)) ?_
            rw [vbin_lss, wv_some, brB_dec]
            refine ⟨fun _ => ?_, fun h => absurd (by omega) h⟩
            show wv (vload T G96 t_sl_api_Pending (.ptr i18 [2] 2)) _
            refine wv_of (led_load (i := 3) s96 rfl hws).2.2.1 ?_
            rw [ha, wv_some, hla', wv_some, hb, wv_some, hlb, wv_some, vbin_pneq hpo hpo, decide_eq_true rfl, Bool.not_true, wv_some, brB_false]
            show wv (vload T G96 t_sl_api_Pending (.ptr i12 [2] 2)) _
            refine wv_of (led_load (i := 5) s96 rfl hwu).2.2.1 ?_
            have hjm : (List.replicate D.length m1 ++ [m2])[j]? = some m1 := by
              rw [List.getElem?_append_left (by rw [List.length_replicate]; omega), List.getElem?_replicate, if_pos (by omega)]
            obtain ⟨x, y, hx, hy, hld⟩ := pen_fldA (j := j) (p := m1) (f := 1) (o := 1) (tf := t_int64) (fi := ti_int64) (OwnL.own (i := 6) s96 rfl).is hjm rfl T_int64 (by decide) rfl rfl rfl
            rw [hx, wv_some, hy, wv_some, hld, wv_some]
            rw [show (AVal.int .i64 m1.id) = .int .i64 (-1) from rfl, nz, wv_some, brB_false, vbin_add, wv_some, i64_in (by omega) (by omega)]
            exact ih2 (j + 1) (by omega) (by omega)
        exact lp _ 0 rfl (by omega)
      | succ n ih =>
        intro j G' hn hj hs
        have hot := OwnL.own (i := 6) hs rfl
        have hl := lenO hot
        rw [List.length_append, List.length_replicate, List.length_drop, show j + (D.length - j) = D.length by omega] at hl
        refine hR70 _ _ _ _ _ _ _ ?_
        show wv (vload T G' t_sl_api_Pending (.ptr i12 [2] 2)) _
        refine wv_of (led_load (i := 5) hs rfl hwt).2.2.1 ?_
        refine wv_of hl ?_
        rw [vbin_lss, wv_some, brB_dec]
        refine ⟨fun _ => ?_, fun h => absurd (by omega) h⟩
        show wv (vload T G' t_sl_api_Pending (.ptr i12 [2] 2)) _
        refine wv_of (led_load (i := 5) hs rfl hwt).2.2.1 ?_
        refine wv_of (v := m1.av) rfl ?_
        obtain ⟨x, hx, hst⟩ := pen_set (i := 6) (j := j) (p := m1) hs rfl (by rw [List.length_append, List.length_replicate, List.length_drop]; omega) m1_ok
        refine wv_of hx ?_
        refine hst _ fun G86 s86 => ?_
        rw [vbin_add, wv_some, i64_in (by omega) (by omega)]
        refine ih (j + 1) G86 (by omega) (by omega) ?_
        have e : (List.replicate j m1 ++ D.drop j).set j m1 = List.replicate (j + 1) m1 ++ D.drop (j + 1) := by
          rw [List.set_append_right _ _ (by rw [List.length_replicate]; exact Nat.le_refl _), List.length_replicate, Nat.sub_self, List.drop_eq_getElem_cons (by omega), List.set_cons_zero, List.replicate_succ', List.append_assoc]
          rfl
        rw [← e]
        exact s86
    exact loop _ 0 G69 rfl (by omega) (by simpa using s69)
  rw [nz, wv_some, brB_false]
  refine wv_of (led_load (i := 4) s40 rfl hwt).1 ?_
  refine wv_of (led_load (i := 6) s40 rfl hwa).2.1 ?_
  rw [nz, wv_some, brB_false]
  refine wv_of (led_load (i := 4) s40 rfl hwt).2.1 ?_
  refine wv_of (led_load (i := 6) s40 rfl hwa).1 ?_
  rw [nz, wv_some, brB_false]
  refine wv_of (led_load (i := 0) s40 rfl hwb).2.2.2 ?_
  refine wv_of (led_load (i := 6) s40 rfl hwa).2.2.2 ?_
  refine escrowlaw14_same.use (OwnL.own (i := 1) s40 rfl).is (OwnL.own (i := 7) s40 rfl).is hAok hAok (by omega) fun bb G53 hbb c53 => ?_
  have s53 := s40.tmp c53
  rw [hbb.2 ⟨rfl, rfl, rfl⟩, vun_not, wv_some, Bool.not_true, brB_false, nz, wv_some, brB_false, nz, wv_some, brB_false]
  refine wv_of (led_load (i := 4) s53 rfl hwt).2.2.1 ?_
  refine wv_of (lenO (OwnL.own (i := 5) s53 rfl)) ?_
  refine wv_of (led_load (i := 6) s53 rfl hwa).2.2.1 ?_
  refine wv_of (lenO (OwnL.own (i := 7) s53 rfl)) ?_
  rw [hTlen, nz, wv_some, brB_false]
  refine escrowlaw14_first.use fun G63 c63 => ?_
  rw [vun_not, wv_some, Bool.not_true]
  exact hJ _ (s53.tmp c63)

end Go.Esc.M
