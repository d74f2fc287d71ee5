/- Own work. Chapter 14: CommitTexts. -/
import Derived.Test.YtdbkngfdaeminaaLDa
import Derived.Test.YtdbkngfdaeminaaLDe
set_option linter.unusedSimpArgs false
set_option linter.unusedVariables false
namespace Go.Esc.M
open Go Go.Esc

theorem wt_Led {G : Heap} {R d : Nat} {a : AVal} {m : Nat} (h : wt T G R (d + 5) t_api_Ledger a m) : ∃ (o q : Int) (v : AVal) (l : List PenM), a = ledV o q v ∧ I64 o ∧ I64 q ∧ RoSl 35 G v (l.map PenM.av) ∧ (∀ p ∈ l, p.ok) ∧ l.length * 56 ≤ R ∧ l.length + 1 ≤ m := by
  obtain ⟨cs, ms, rfl, hf, rfl⟩ := wt_struct T_api_Ledger rfl h
  obtain ⟨c1, cs, m1, ms, rfl, rfl, h1, hf⟩ := wfs_cons hf
  obtain ⟨c2, cs, m2, ms, rfl, rfl, h2, hf⟩ := wfs_cons hf
  obtain ⟨c3, cs, m3, ms, rfl, rfl, h3, hf⟩ := wfs_cons hf
  obtain ⟨rfl, rfl⟩ := wfs_nil hf
  obtain ⟨o, rfl, w1, _⟩ := wt_int T_int64 rfl h1
  obtain ⟨q, rfl, w2, _⟩ := wt_int T_int64 rfl h2
  obtain ⟨xs, ms, hro, hall, hms, hR, _⟩ := wt_ro PenM.av (fun p m => p.ok ∧ 1 ≤ m) T_sl_api_Pending rfl T_api_Pending (fun c m h => wt_Pen h) h3
  have hlen := hall.length fun c m h => h.2
  refine ⟨o, q, c3, xs, rfl, i64_wf.1 w1, i64_wf.1 w2, hro, fun p hp => ?_, hR, by simp; omega⟩
  obtain ⟨m, hm, _⟩ := hall.mem hp
  exact hm.1

def mark : PenM := ⟨false, -77, 0, z32⟩
theorem mark_ok : mark.ok := ⟨⟨by decide, by decide⟩, ⟨by decide, by decide⟩, rfl⟩

/-- A list with a value behind it, in the spare room. -/
structure Lent (w v : AVal) (l : List PenM) : Prop where
  own : ∀ {G : Heap}, Own 35 G v ((l ++ [mark]).map PenM.av) → Own 35 G w (l.map PenM.av)
  back : vslice T t_sl_api_Pending w none (some (.int .i64 ((l.length + 1 : Nat) : Int))) none = some v

theorem lent_slice {G : Heap} {v : AVal} {l : List PenM} (h : Own 35 G v ((l ++ [mark]).map PenM.av)) : ∃ w, vslice T t_sl_api_Pending v none (some (.int .i64 ((l.length : Nat) : Int))) none = some w ∧ Lent w v l := by
  rcases h with ⟨_, h⟩ | ⟨id, len, cap, cs, rfl, hg, hc, hl, hu, he⟩
  · simp at h
  · have hlen : len = l.length + 1 := by
      have := congrArg List.length he
      simp only [List.length_map, List.length_append, List.length_take, List.length_singleton] at this
      omega
    have e1 : T t_sl_api_Pending = some ti_sl_api_Pending := T_sl_api_Pending
    have e2 : ti_sl_api_Pending.desc = .slice t_api_Pending := rfl
    refine ⟨.slice id [] 0 0 l.length cap, ?_, fun {G'} h' => ?_, ?_⟩
    · simp only [vslice, e1, e2, T_api_Pending]
      rw [sbounds_high (by omega)]
      simp
    · rcases h' with ⟨h, _⟩ | ⟨id', len', cap', cs', h1, hg', hc', hl', hu', he'⟩
      · cases h
      · injection h1 with i1 i2 i3 i4 i5 i6
        subst i1 i5 i6
        refine .inr ⟨id, l.length, cap, cs', rfl, hg', hc', by omega, hu', ?_⟩
        have : (cs'.take len).take l.length = l.map PenM.av := by
          rw [← he', List.map_append, List.take_left' (by simp)]
        rw [← this, List.take_take, Nat.min_eq_left (by omega)]
    · simp only [vslice, e1, e2, T_api_Pending]
      rw [sbounds_high (by omega), hlen]
      simp

section
variable {F0 : List AId} {G0 G : Heap} {ps : List LP} {Q : AVal → Heap → Prop}

theorem escrowlaw14_lent.use {o q : Int} {v : AVal} {l : List PenM} (hl : IsSl 35 G v (l.map PenM.av)) (hlen : (l.length + 1) * 56 ≤ 140737488355328)
    (hQ : ∀ w u G', Lent w u l → Sp [] G [OwnL 35 u ((l ++ [mark]).map PenM.av)] G' → Q (ledV o q w) G') : ACalls P escrowlaw14_lent.n [ledV o q v] G Q := by
  have hv := sl_leaf hl
  refine escrowlaw14_lent.sound ?_
  unfold escrowlaw14_lent.S
  rw [zLed]
  intro i1 f1
  have s1 := (Sp.nil G).row f1 (ledV o q v)
  intro i3 f3
  have s3 := s1.row f3 (ledV 0 0 .nilSlice)
  refine wv_of (led_load (i := 1) s3 rfl hv).2.2.1 ?_
  have hbytes : ti_api_Pending.bytes = 56 := rfl
  have hu : ∀ xs : List PenM, (∀ p ∈ xs, sz p.av = 35) → Esc.uni 35 (xs.map PenM.av) = true ∧ okvs (xs.map PenM.av) = true := fun xs h => by
    refine ⟨by simp only [Esc.uni, List.all_map, List.all_eq_true]; intro p hp; simp [h p hp], ?_⟩
    induction xs with
    | nil => rfl
    | cons p xs ih => simp [okvs, PenM.okv, ih (fun p hp => h p (by simp [hp]))]
  have huv : Esc.uni 35 (l.map PenM.av) = true := by
    rcases hl with ⟨_, _, _, _, _, _, rfl, h⟩ | ⟨_, h⟩
    · obtain ⟨cs, _, _, hu, _, e, _⟩ := selems_spec h
      rw [e]; exact uni_take (uni_drop hu _) _
    · rw [h]; rfl
  have huo : okvs (l.map PenM.av) = true := (hu l (fun p hp => by
    have := huv
    simp only [Esc.uni, List.all_map, List.all_eq_true] at this
    simpa using this p hp)).2
  refine growL (T := T) (ts := t_sl_api_Pending) (e := t_api_Pending) (si := ti_sl_api_Pending) (ie := ti_api_Pending) (tx := t_sl_api_Pending) (xi := ti_sl_api_Pending) (i := 0) (vs := []) (xs := l.map PenM.av) T_sl_api_Pending rfl T_api_Pending rfl (by decide) T_sl_api_Pending (.inr ⟨_, rfl⟩) (s3.nilL 35) rfl (hl.ch' s3.ch).elems huv huo
    (by rw [hbytes, List.length_map]; simp; omega) fun v6 G7 s7 => ?_
  have s7 : Sp [] G [OwnL 35 v6 (l.map PenM.av), RowL i3 (ledV 0 0 .nilSlice), RowL i1 (ledV o q v)] G7 := s7
  refine wv_of (v := mark.av) rfl ?_
  refine wv_of (led_load (i := 2) s7 rfl hv).2.2.1 ?_
  rw [(hl.ch' s7.ch).len (i := ti_sl_api_Pending) T_sl_api_Pending rfl, List.length_map, wv_some]
  refine growV (T := T) (ts := t_sl_api_Pending) (e := t_api_Pending) (si := ti_sl_api_Pending) (ie := ti_api_Pending) (i := 0) T_sl_api_Pending rfl T_api_Pending rfl (by decide) s7 rfl (PenM.sz mark_ok) (PenM.okv _) (by decide) (by rw [hbytes, List.length_map]; exact hlen) fun v13 G14 s14 => ?_
  have s14 : Sp [] G [OwnL 35 v13 ((l ++ [mark]).map PenM.av), RowL i3 (ledV 0 0 .nilSlice), RowL i1 (ledV o q v)] G14 := by
    rw [List.map_append]
    exact s14
  refine ⟨⟨(led_load (i := 2) s14 rfl hv).2.2.1, trivial⟩, ?_⟩
  have ho := OwnL.own (i := 0) s14 rfl
  obtain ⟨w, hw, hL⟩ := lent_slice ho
  refine wv_of hw ?_
  have hwl := (hL.own ho).leaf
  refine led_set (i := 2) s14 rfl hv.1 hwl fun G16 s16 => ?_
  refine wv_of (led_load (i := 2) s16 rfl hwl).2.2.2 ?_
  refine led_store (i := 1) s16 rfl rfl hwl fun G18 s18 => ?_
  refine wv_of (led_load (i := 1) s18 rfl hwl).2.2.2 ?_
  exact hQ w v13 _ hL ((s18.erase 1).erase 1)

theorem escrowlaw14_kept.use {o q : Int} {v w u : AVal} {l : List PenM} (hL : Lent w u l) (hu : Own 35 G u ((l ++ [mark]).map PenM.av)) (hl : IsSl 35 G v (l.map PenM.av)) (hok : ∀ p ∈ l, p.ok) (hlen : l.length ≤ 9223372036854775800)
    (hQ : ∀ G', Ch [] G [] G' → Q (.bool true) G') : ACalls P escrowlaw14_kept.n [ledV o q w, ledV o q v] G Q := by
  have hv := sl_leaf hl
  have hw := (hL.own hu).leaf
  refine escrowlaw14_kept.sound ?_
  unfold escrowlaw14_kept.S
  intro i1 f1
  have s1 := (Sp.nil G).row f1 (ledV o q w)
  intro i3 f3
  have s3 := s1.row f3 (ledV o q v)
  revert s3
  generalize Heap.upd _ i3 (.own (ledV o q v)) = G4
  intro s3
  refine wv_of (led_load (i := 1) s3 rfl hw).2.2.1 ?_
  refine wv_of (led_load (i := 0) s3 rfl hv).2.2.1 ?_
  rw [(hl.ch' s3.ch).len (i := ti_sl_api_Pending) T_sl_api_Pending rfl, List.length_map, wv_some, vbin_add, wv_some, i64_in (by omega) (by omega)]
  refine wv_of hL.back ?_
  refine wv_of (led_load (i := 1) s3 rfl hw).2.2.2 ?_
  refine wv_of (led_load (i := 0) s3 rfl hv).2.2.2 ?_
  refine escrowlaw14_same.use (((hL.own hu).is).ch' s3.ch) (hl.ch' s3.ch) hok hok (by omega) fun bb G13 hbb c13 => ?_
  have s13 := s3.tmp c13
  rw [hbb.2 ⟨rfl, rfl, rfl⟩, brB_true]
  refine wv_of (led_load (i := 0) s13 rfl hv).2.2.1 ?_
  rw [(hl.ch' s13.ch).len (i := ti_sl_api_Pending) T_sl_api_Pending rfl, List.length_map, wv_some]
  obtain ⟨a, ha, hla⟩ := pen_at (j := l.length) (p := mark) (hu.is.ch' s13.ch) (by simp)
  rw [ha, wv_some, hla, wv_some]
  refine wv_of (v := mark.av) rfl ?_
  rw [vbin_peql mark_ok mark_ok, decide_eq_true rfl, wv_some]
  exact hQ _ s13.ch

end

set_option maxRecDepth 20000 in
theorem law_CommitTexts {G : Heap} {ow ix pt a : AVal} {m1 m2 m3 m4 : Nat} (h1 : wt T G reachBytes 6 t_int ow m1) (h2 : wt T G reachBytes 6 t_int64 ix m2) (h3 : wt T G reachBytes 6 t_api_Hash pt m3) (h4 : wt T G reachBytes 6 t_api_Ledger a m4) :
    ACalls P escrowlaw14_CommitTexts.n [ow, ix, pt, a] G fun v _ => v = .bool true := by
  obtain ⟨ow, rfl, _⟩ := wt_int T_int rfl h1
  obtain ⟨ix, rfl, _⟩ := wt_int T_int64 rfl h2
  obtain ⟨pt, rfl, hpt, _⟩ := wt_hash T_api_Hash rfl T_uint8 rfl h3
  obtain ⟨o, q, v, l, rfl, hoI, hqI, hro, hok, hR, _⟩ := wt_Led h4
  have hR : l.length * 56 ≤ 140737488351232 := hR
  have hl := hro.is
  have hv := sl_leaf hl
  refine escrowlaw14_CommitTexts.sound ?_
  unfold escrowlaw14_CommitTexts.S
  rw [zLed]
  intro i1 f1
  have s1 := (Sp.nil G).row f1 (.agg (pt.map u8v))
  intro i3 f3
  have s3 := s1.row f3 (ledV o q v)
  refine wv_of (led_load (i := 0) s3 rfl hv).2.2.2 ?_
  refine escrowlaw14_lent.use (hl.ch' s3.ch) (by omega) fun w u G7 hL s7 => ?_
  obtain ⟨F7, ho7, c7⟩ := s7.out
  have s7 := s3.new ho7 c7
  have s7 : Sp [] G [OwnL 35 u ((l ++ [mark]).map PenM.av), RowL i3 (ledV o q v), RowL i1 (.agg (pt.map u8v))] G7 := s7
  have hw := (hL.own (OwnL.own (i := 0) s7 rfl)).leaf
  intro i8 f8
  have s8 := s7.row f8 (ledV 0 0 .nilSlice)
  refine led_store (i := 0) s8 rfl rfl hw fun G10 s10 => ?_
  have s10 : Sp [] G [RowL i8 (ledV o q w), OwnL 35 u ((l ++ [mark]).map PenM.av), RowL i3 (ledV o q v), RowL i1 (.agg (pt.map u8v))] G10 := s10
  refine wv_of (load_hash hpt (RowL.own (i := 3) s10 rfl)) ?_
  refine wv_of (led_load (i := 0) s10 rfl hw).2.2.2 ?_
  refine commit_Text.use hpt (hL.own (OwnL.own (i := 1) s10 rfl)).is hok (by omega) fun G14 c14 => ?_
  have s14 := s10.tmp c14
  obtain ⟨R, hRR⟩ : ∃ R, R = textR ow ix pt o q l := ⟨_, rfl⟩
  rw [← hRR, vext0, wv_some, vext1, wv_some]
  refine wv_of (led_load (i := 0) s14 rfl hw).2.2.2 ?_
  refine commit_Turn.use (hL.own (OwnL.own (i := 1) s14 rfl)).is hok (by omega) fun v18 G19 s19 => ?_
  obtain ⟨F19, ho19, c19⟩ := s19.out
  have s19 := s14.new ho19 c19
  have ht := (OwnL.own (i := 0) s19 rfl).leaf
  intro i20 f20
  have s20 := s19.row f20 (ledV 0 0 .nilSlice)
  refine led_store (i := 0) s20 rfl rfl ht fun G22 s22 => ?_
  have s22 : Sp [] G [RowL i20 (ledV q o v18), OwnL 35 v18 ((turnL l).map PenM.av), RowL i8 (ledV o q w), OwnL 35 u ((l ++ [mark]).map PenM.av), RowL i3 (ledV o q v), RowL i1 (.agg (pt.map u8v))] G22 := s22
  refine wv_of (load_hash hpt (RowL.own (i := 5) s22 rfl)) ?_
  refine wv_of (led_load (i := 4) s22 rfl hv).2.2.2 ?_
  refine escrowref14_Text.use hpt (hl.ch' s22.ch) hok (by omega) fun G26 c26 => ?_
  have s26 := s22.tmp c26
  rw [← hRR, vext0, wv_some, vext1, wv_some, vbin_seql, wv_some, decide_eq_true rfl, brB_true, vbin_eql, wv_some, decide_eq_true rfl, brB_true]
  refine wv_of (led_load (i := 0) s26 rfl ht).2.2.2 ?_
  refine wv_of (led_load (i := 4) s26 rfl hv).2.2.2 ?_
  refine escrowref14_Turn.use (hl.ch' s26.ch) hok (by omega) fun v33 G34 s34 => ?_
  obtain ⟨F34, ho34, c34⟩ := s34.out
  have s34 := s26.new ho34 c34
  refine ⟨⟨(led_load (i := 1) s34 rfl ht).2.2.2, trivial⟩, ?_⟩
  refine escrowlaw14_same.use (OwnL.own (i := 2) s34 rfl).is (OwnL.own (i := 0) s34 rfl).is (turnL_ok hok) (turnL_ok hok) (by rw [length_turnL]; omega) fun bb G36 hbb c36 => ?_
  have s36 := s34.tmp c36
  rw [hbb.2 ⟨rfl, rfl, rfl⟩, brB_true]
  refine wv_of (led_load (i := 3) s36 rfl hw).2.2.2 ?_
  refine wv_of (led_load (i := 5) s36 rfl hv).2.2.2 ?_
  refine escrowlaw14_kept.use hL (OwnL.own (i := 4) s36 rfl) (hl.ch' s36.ch) hok (by omega) fun G40 c40 => ?_
  rw [brB_true]
  exact escrowlaw14_first.use fun _ _ => rfl

end Go.Esc.M
