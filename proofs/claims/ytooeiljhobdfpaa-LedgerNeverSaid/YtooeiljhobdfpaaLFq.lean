import Derived.Test.YtooeiljhobdfpaaLFj
/- Own work. Chapter 13: the sort: blocks, merged by and by. -/
set_option linter.unusedSimpArgs false
set_option linter.unusedVariables false
namespace Go.Esc.M
open Go Go.Esc

/-- Each block of so many is sorted. -/
def Blk (s : Nat) (l : List PenM) : Prop := ∀ i, SortedP ((l.drop (i * s)).take s)
theorem blk_nil (s : Nat) : Blk s [] := fun i => by simp [SortedP]
theorem blk_snoc {s c : Nat} {X S : List PenM} (h : Blk s X) (hl : X.length = c * s) (hS : S.length ≤ s) (ho : SortedP S) : Blk s (X ++ S) := by
  intro i
  by_cases h1 : i < c
  · have e : c * s = i * s + s + (c - i - 1) * s := by
      have : c = i + 1 + (c - i - 1) := by omega
      conv => lhs; rw [this]
      rw [Nat.add_mul, Nat.add_mul, Nat.one_mul]
    rw [List.drop_append_of_le_length (by omega), List.take_append_of_le_length (by rw [List.length_drop]; omega)]
    exact h i
  · by_cases h2 : i = c
    · subst h2
      rw [← hl, List.drop_left, List.take_of_length_le hS]
      exact ho
    · have e : i * s = c * s + s + (i - c - 1) * s := by
        have : i = c + 1 + (i - c - 1) := by omega
        conv => lhs; rw [this]
        rw [Nat.add_mul, Nat.add_mul, Nat.one_mul]
      rw [List.drop_eq_nil_of_le (by rw [List.length_append]; omega)]
      simp [SortedP]
theorem blk_drop {s c : Nat} {l : List PenM} (h : Blk s l) : Blk s (l.drop (c * s)) := fun i => by
  rw [List.drop_drop, ← Nat.add_mul]
  exact h _
theorem blk_all {s : Nat} {l : List PenM} (h : Blk s l) (hl : l.length ≤ s) : SortedP l := by
  have := h 0
  rw [Nat.zero_mul, List.drop_zero, List.take_of_length_le hl] at this
  exact this
theorem blk_first {s : Nat} {P T : List PenM} (h : Blk s (P ++ T)) (hP : P.length = s) : SortedP P ∧ Blk s T := by
  constructor
  · have := h 0
    rw [Nat.zero_mul, List.drop_zero, ← hP, List.take_left] at this
    exact this
  · have := blk_drop (c := 1) h
    rw [Nat.one_mul, ← hP, List.drop_left] at this
    rw [hP] at this
    exact this

section
variable {F0 : List AId} {G0 G : Heap} {ps : List LP} {Q : AVal → Heap → Prop}

set_option maxHeartbeats 4000000 in
theorem stable.use {v : AVal} {L : List PenM} (hok : ∀ p ∈ L, p.ok) (hlen : L.length ≤ 1048576) (hs : Sp F0 G0 (OwnL 35 v (L.map PenM.av) :: ps) G)
    (hQ : ∀ S G', StEq S L → SortedP S → Sp F0 G0 (OwnL 35 v (S.map PenM.av) :: ps) G' → Q (.tuple []) G') :
    ACalls P slices_stableCmpFunc_escrow_api_Pending.n [v, .int .i64 (L.length : Int), cmpF] G Q := by
  refine slices_stableCmpFunc_escrow_api_Pending.sound ?_
  unfold slices_stableCmpFunc_escrow_api_Pending.S
  have okS : ∀ {S : List PenM}, StEq S L → ∀ p ∈ S, p.ok := fun h p hp => hok p (h.mem.1 hp)
  have last : ∀ (c : Nat) (X T0 : List PenM) (G' : Heap), T0.length < 20 → X.length = c * 20 → Blk 20 X → StEq (X ++ T0) L → Sp F0 G0 (OwnL 35 v ((X ++ T0).map PenM.av) :: ps) G' → ∀ R1 : List AVal → Heap → Prop, (∀ (x3 x4 x5 x6 x7 x8 : AVal) (G2 : Heap), (wv (vbin T .leq t_int x8 x4) fun v9 => brB (some v9)   (ACalls P slices_insertionSortCmpFunc_escrow_api_Pending.n [x3, x7, x8, x5] G2 fun v10 G11 => wv (vbin T .add t_int x8 x6) fun v12 => R1 [x3, x4, x5, x6, x8, v12] G11)   (ACalls P slices_insertionSortCmpFunc_escrow_api_Pending.n [x3, x7, x4, x5] G2 fun v13 G14 => ∀ R15 : List AVal → Heap → Prop,   (∀ (x17 x18 x19 x20 : AVal) (G16 : Heap), (wv (vbin T .lss t_int x20 x18) fun v21 => brB (some v21)   (wv (vbin T .mul t_int (.int .i64 2) x20) fun v22 => ∀ R23 : List AVal → Heap → Prop,   (∀ (x25 x26 x27 x28 x29 x30 : AVal) (G24 : Heap), (wv (vbin T .leq t_int x30 x26) fun v31 => brB (some v31)   (wv (vbin T .add t_int x29 x28) fun v32 => ACalls P slices_symMergeCmpFunc_escrow_api_Pending.n [x25, x29, v32, x30, x27] G24 fun v33 G34 => wv (vbin T .mul t_int (.int .i64 2) x28) fun v35 => wv (vbin T .add t_int x30 v35) fun v36 => R23 [x25, x26, x27, x28, x30, v36] G34)   (wv (vbin T .add t_int x29 x28) fun v37 => wv (vbin T .lss t_int v37 x26) fun v38 => brB (some v38)   (ACalls P slices_symMergeCmpFunc_escrow_api_Pending.n [x25, x29, v37, x26, x27] G24 fun v39 G40 => wv (vbin T .mul t_int x28 (.int .i64 2)) fun v43 => R15 [x25, x26, x27, v43] G40)   (wv (vbin T .mul t_int x28 (.int .i64 2)) fun v44 => R15 [x25, x26, x27, v44] G24))) → R23 [x25, x26, x27, x28, x29, x30] G24) →   R23 [x17, x18, x19, x20, .int .i64 0, v22] G16)   (Q (.tuple []) G16)) → R15 [x17, x18, x19, x20] G16) →   R15 [x3, x4, x5, x6] G14)) → R1 [x3, x4, x5, x6, x7, x8] G2) → R1 [v, .int .i64 (L.length : Int), cmpF, .int .i64 20, .int .i64 (X.length : Int), .int .i64 ((X.length + 20 : Nat) : Int)] G' := by
    intro c X T0 G' h20 hX hb hst sp R hR
    have hL := hst.length
    rw [List.length_append] at hL
    refine hR _ _ _ _ _ _ _ ?_
    rw [vbin_leq, wv_some, decide_eq_false (by omega), brB_false]
    refine insertion.use (X := X) (S := T0) (Y := []) (fun p hp => okS hst p (by simpa using hp)) (by simp only [List.length_append, List.length_nil]; omega) rfl (by omega) (by simpa using sp) fun S' G1 q1 q2 sp1 => ?_
    have lS := q1.length
    have hM : Blk 20 (X ++ S') := blk_snoc hb hX (by omega) q2
    have hMst : StEq (X ++ S') L := (StEq.append (StEq.refl X) q1).trans hst
    have sp1 : Sp F0 G0 (OwnL 35 v ((X ++ S').map PenM.av) :: ps) G1 := by simpa using sp1
    intro R15 hR15
    have outer : ∀ (n bs : Nat) (M : List PenM) (G' : Heap), L.length - bs ≤ n → 1 ≤ bs → bs ≤ 2097152 → Blk bs M → StEq M L → Sp F0 G0 (OwnL 35 v (M.map PenM.av) :: ps) G' → R15 [v, .int .i64 (L.length : Int), cmpF, .int .i64 (bs : Int)] G' := by
      intro n
      induction n with
      | zero =>
        intro bs M G' hn h1 h2 hb hst sp
        refine hR15 _ _ _ _ _ ?_
        rw [vbin_lss, wv_some, decide_eq_false (by omega), brB_false]
        exact hQ M G' hst (blk_all hb (by rw [hst.length]; omega)) sp
      | succ n ihn =>
        intro bs M G' hn h1 h2 hb hst sp
        have hML := hst.length
        by_cases hbl : L.length ≤ bs
        · exact ihn bs M G' (by omega) h1 h2 hb hst sp
        · refine hR15 _ _ _ _ _ ?_
          rw [vbin_lss, wv_some, decide_eq_true (by omega), brB_true]
          rw [vbin_mul, i64_in (by omega) (by omega), wv_some]
          intro R23 hR23
          have inner : ∀ (k c : Nat) (X T0 : List PenM) (G' : Heap), T0.length ≤ k → X.length = c * (2 * bs) → Blk (2 * bs) X → Blk bs T0 → StEq (X ++ T0) L → Sp F0 G0 (OwnL 35 v ((X ++ T0).map PenM.av) :: ps) G' →
              R23 [v, .int .i64 (L.length : Int), cmpF, .int .i64 (bs : Int), .int .i64 (X.length : Int), .int .i64 ((X.length + 2 * bs : Nat) : Int)] G' := by
            intro k
            have fin : ∀ (c : Nat) (X T0 : List PenM) (G' : Heap), T0.length < 2 * bs → X.length = c * (2 * bs) → Blk (2 * bs) X → Blk bs T0 → StEq (X ++ T0) L → Sp F0 G0 (OwnL 35 v ((X ++ T0).map PenM.av) :: ps) G' →
                R23 [v, .int .i64 (L.length : Int), cmpF, .int .i64 (bs : Int), .int .i64 (X.length : Int), .int .i64 ((X.length + 2 * bs : Nat) : Int)] G' := by
              intro c X T0 G' hlt hX hbX hbT hst sp
              have hL := hst.length
              rw [List.length_append] at hL
              refine hR23 _ _ _ _ _ _ _ ?_
              rw [vbin_leq, wv_some, decide_eq_false (by omega), brB_false]
              rw [vbin_add, i64_in (by omega) (by omega), wv_some, vbin_lss, wv_some, brB_dec]
              refine ⟨fun hlt2 => ?_, fun hge => ?_⟩
              · obtain ⟨P, hP⟩ : ∃ x, x = T0.take bs := ⟨_, rfl⟩
                obtain ⟨T1, hT1⟩ : ∃ x, x = T0.drop bs := ⟨_, rfl⟩
                have hT : T0 = P ++ T1 := by rw [hP, hT1, List.take_append_drop]
                have lP : P.length = bs := by rw [hP, List.length_take]; omega
                have lT1 : T1.length = T0.length - bs := by rw [hT1, List.length_drop]
                rw [hT] at sp hst hbT
                obtain ⟨sP, bT1⟩ := blk_first hbT lP
                refine symMerge.use (P.length + T1.length) (X := X) (A := P) (B := T1) (Y := []) (Nat.le_refl _) (fun p hp => okS hst p (by simpa using hp)) (by simp only [List.length_append, List.length_nil]; omega) (fun e => by rw [e] at lP; simp at lP; omega) (fun e => by rw [e] at lT1; simp at lT1; omega) sP (blk_all bT1 (by omega)) rfl (by omega) (by omega) (by simpa using sp) fun S G1 q1 q2 sp1 => ?_
                have lS := q1.length
                rw [List.length_append] at lS
                rw [vbin_mul, i64_in (by omega) (by omega), wv_some]
                have := ihn (2 * bs) (X ++ S) G1 (by omega) (by omega) (by omega) (blk_snoc hbX hX (by omega) q2) ((StEq.append (StEq.refl X) q1).trans hst) (by simpa using sp1)
                have e : ((2 * bs : Nat) : Int) = (bs : Int) * 2 := by omega
                rw [e] at this
                exact this
              · rw [vbin_mul, i64_in (by omega) (by omega), wv_some]
                have := ihn (2 * bs) (X ++ T0) G' (by omega) (by omega) (by omega) (blk_snoc hbX hX (by omega) (blk_all hbT (by omega))) hst sp
                have e : ((2 * bs : Nat) : Int) = (bs : Int) * 2 := by omega
                rw [e] at this
                exact this
            induction k with
            | zero =>
              intro c X T0 G' hk
              exact fin c X T0 G' (by omega)
            | succ k ihk =>
              intro c X T0 G' hk hX hbX hbT hst sp
              by_cases hlt : T0.length < 2 * bs
              · exact fin c X T0 G' hlt hX hbX hbT hst sp
              · have hL := hst.length
                rw [List.length_append] at hL
                refine hR23 _ _ _ _ _ _ _ ?_
                rw [vbin_leq, wv_some, decide_eq_true (by omega), brB_true]
                rw [vbin_add, i64_in (by omega) (by omega), wv_some]
                obtain ⟨P, hP⟩ : ∃ x, x = T0.take bs := ⟨_, rfl⟩
                obtain ⟨T1, hT1⟩ : ∃ x, x = (T0.drop bs).take bs := ⟨_, rfl⟩
                obtain ⟨T2, hT2⟩ : ∃ x, x = (T0.drop bs).drop bs := ⟨_, rfl⟩
                have hT : T0 = P ++ (T1 ++ T2) := by rw [hT1, hT2, List.take_append_drop, hP, List.take_append_drop]
                have lP : P.length = bs := by rw [hP, List.length_take]; omega
                have lT1 : T1.length = bs := by rw [hT1, List.length_take, List.length_drop]; omega
                have lT2 : T2.length = T0.length - bs - bs := by rw [hT2, List.length_drop, List.length_drop]
                rw [hT] at sp hst hbT
                obtain ⟨sP, bT1⟩ := blk_first hbT lP
                obtain ⟨sT1, bT2⟩ := blk_first bT1 lT1
                refine symMerge.use (P.length + T1.length) (X := X) (A := P) (B := T1) (Y := T2) (Nat.le_refl _) (fun p hp => okS hst p (by simpa using hp)) (by simp only [List.length_append]; omega) (fun e => by rw [e] at lP; simp at lP; omega) (fun e => by rw [e] at lT1; simp at lT1; omega) sP sT1 rfl (by omega) (by omega) (by simpa using sp) fun S G1 q1 q2 sp1 => ?_
                have lS := q1.length
                rw [List.length_append] at lS
                rw [vbin_mul, i64_in (by omega) (by omega), wv_some]
                rw [vbin_add, i64_in (by omega) (by omega), wv_some]
                have e1 : (X ++ S).length = X.length + 2 * bs := by rw [List.length_append]; omega
                have := ihk (c + 1) (X ++ S) T2 G1 (by omega) (by rw [e1, hX, Nat.add_mul]; omega) (blk_snoc hbX hX (by omega) q2) bT2 (by
                  refine StEq.trans ?_ hst
                  have := StEq.append (StEq.refl X) (StEq.append q1 (StEq.refl T2))
                  simpa using this) (by simpa using sp1)
                rw [e1] at this
                have e2 : ((X.length + 2 * bs : Nat) : Int) + 2 * (bs : Int) = ((X.length + 2 * bs + 2 * bs : Nat) : Int) := by omega
                rw [e2]
                exact this
          have := inner M.length 0 [] M G' (Nat.le_refl _) (by simp) (blk_nil _) hb (by simpa using hst) (by simpa using sp)
          have e : (2 * (bs : Int)) = ((([] : List PenM).length + 2 * bs : Nat) : Int) := by simp
          rw [e]
          exact this
    exact outer L.length 20 (X ++ S') G1 (by omega) (by decide) (by decide) hM hMst sp1
  intro R hR
  have loop : ∀ (n c : Nat) (X T0 : List PenM) (G' : Heap), T0.length ≤ n → X.length = c * 20 → Blk 20 X → StEq (X ++ T0) L → Sp F0 G0 (OwnL 35 v ((X ++ T0).map PenM.av) :: ps) G' →
      R [v, .int .i64 (L.length : Int), cmpF, .int .i64 20, .int .i64 (X.length : Int), .int .i64 ((X.length + 20 : Nat) : Int)] G' := by
    intro n
    induction n with
    | zero =>
      intro c X T0 G' hn hX hb hst sp
      exact last c X T0 G' (by omega) hX hb hst sp R hR
    | succ n ih =>
      intro c X T0 G' hn hX hb hst sp
      have hL := hst.length
      rw [List.length_append] at hL
      by_cases h20 : 20 ≤ T0.length
      · refine hR _ _ _ _ _ _ _ ?_
        rw [vbin_leq, wv_some, decide_eq_true (by omega), brB_true]
        obtain ⟨P, hP⟩ : ∃ x, x = T0.take 20 := ⟨_, rfl⟩
        obtain ⟨T1, hT1⟩ : ∃ x, x = T0.drop 20 := ⟨_, rfl⟩
        have hT : T0 = P ++ T1 := by rw [hP, hT1, List.take_append_drop]
        have lP : P.length = 20 := by rw [hP, List.length_take]; omega
        have lT1 : T1.length = T0.length - 20 := by rw [hT1, List.length_drop]
        rw [hT] at sp hst
        refine insertion.use (X := X) (S := P) (Y := T1) (fun p hp => okS hst p (by simpa using hp)) (by simp only [List.length_append]; omega) rfl (by rw [lP]) (by simpa using sp) fun S' G1 q1 q2 sp1 => ?_
        rw [vbin_add, i64_in (by omega) (by omega), wv_some]
        have lS := q1.length
        have e1 : (X ++ S').length = X.length + 20 := by rw [List.length_append, lS, lP]
        have := ih (c + 1) (X ++ S') T1 G1 (by omega) (by rw [e1, hX]; omega) (blk_snoc hb hX (by omega) q2) (by
          refine StEq.trans ?_ hst
          have := StEq.append (StEq.refl X) (StEq.append q1 (StEq.refl T1))
          simpa using this) sp1
        rw [e1] at this
        exact this
      · exact last c X T0 G' (by omega) hX hb hst sp R hR
  have := loop L.length 0 [] L G (Nat.le_refl _) (by simp) (blk_nil 20) (StEq.refl _) (by simpa using hs)
  simpa using this

theorem sortStable.use {v : AVal} {L : List PenM} (hok : ∀ p ∈ L, p.ok) (hlen : L.length ≤ 1048576) (hs : Sp F0 G0 (OwnL 35 v (L.map PenM.av) :: ps) G)
    (hQ : ∀ G', Sp F0 G0 (OwnL 35 v ((sortP L).map PenM.av) :: ps) G' → Q (.tuple []) G') :
    ACalls P slices_SortStableFunc_escrow_api_Pending_escrow_api_Pending.n [v, cmpF] G Q := by
  refine slices_SortStableFunc_escrow_api_Pending_escrow_api_Pending.sound ?_
  unfold slices_SortStableFunc_escrow_api_Pending_escrow_api_Pending.S
  refine wv_of (v := .int .i64 (L.length : Nat)) ?_ ?_
  · rw [(OwnL.own (i := 0) hs rfl).is.len (i := ti_sl_api_Pending) T_sl_api_Pending rfl, List.length_map]
  refine stable.use hok hlen hs fun S G' q1 q2 sp => ?_
  rw [sort_is q1 q2] at sp
  exact hQ G' sp

end

end Go.Esc.M

/- Own work. Chapter 13: part: one side's adds on the two balances. -/
set_option linter.unusedSimpArgs false
set_option linter.unusedVariables false
namespace Go.Esc.M
open Go Go.Esc

def stays (r : List UpdM) (u : UpdM) : Bool := decide (u.kind = 1) && !decide (remS u.id r = 3)
def paid (r : List UpdM) (u : UpdM) : Bool := decide (u.kind = 1) && decide (remS u.id r = 2)
def opens (r : List UpdM) (u : UpdM) : Bool := stays r u && !decide (remS u.id r = 2)
def sumF (f : UpdM → Bool) (l : List UpdM) : Int := ((l.filter f).map (·.amount)).sum
def pend (mine : Bool) (u : UpdM) : PenM := ⟨mine, u.id, u.amount, u.hash⟩
def pensF (mine : Bool) (f : UpdM → Bool) (l : List UpdM) : List PenM := (l.filter f).map (pend mine)
theorem sumF_next {f : UpdM → Bool} {l : List UpdM} {j : Nat} {u : UpdM} (h : l[j]? = some u) : sumF f (l.take (j + 1)) = sumF f (l.take j) + if f u = true then u.amount else 0 := by
  unfold sumF
  rw [List.take_add_one, h, List.filter_append, List.map_append, List.sum_append]
  congr 1
  simp only [Option.toList_some, List.filter_cons, List.filter_nil]
  split <;> simp
theorem pensF_next {mine : Bool} {f : UpdM → Bool} {l : List UpdM} {j : Nat} {u : UpdM} (h : l[j]? = some u) : pensF mine f (l.take (j + 1)) = pensF mine f (l.take j) ++ if f u = true then [pend mine u] else [] := by
  unfold pensF
  rw [List.take_add_one, h, List.filter_append, List.map_append]
  congr 1
  simp only [Option.toList_some, List.filter_cons, List.filter_nil]
  split <;> simp
theorem pensF_len (mine : Bool) (f : UpdM → Bool) (l : List UpdM) : (pensF mine f l).length ≤ l.length := by
  unfold pensF
  rw [List.length_map]
  exact List.length_filter_le _ _
theorem pend_ok {mine : Bool} {u : UpdM} (h : u.ok) : (pend mine u).ok := ⟨h.id, h.amount, h.hash⟩
theorem pensF_ok {mine : Bool} {f : UpdM → Bool} {l : List UpdM} (h : ∀ u ∈ l, u.ok) : ∀ p ∈ pensF mine f l, p.ok := by
  intro p hp
  obtain ⟨u, hu, rfl⟩ := List.mem_map.1 hp
  exact pend_ok (h u (List.mem_filter.1 hu).1)

section
variable {F0 : List AId} {G0 G : Heap} {ps : List LP} {Q : AVal → Heap → Prop}

set_option maxHeartbeats 4000000 in
theorem ledger_part.use {n : Nat} {v : AVal} {l r : List UpdM} {mid : AId} {es : List (Int × Int)} {mine : Bool} {u1 l1 u2 l2 : Int} (hl : IsSl 36 G v (l.map UpdM.av)) (hok : ∀ u ∈ l, u.ok) (hval : ∀ u ∈ l, validU u = true) (hlen : l.length ≤ 1048576) (hm : G mid = some (.map (mapE es))) (hes : ∀ id, lookE es id = optR (remS id r)) (hw1 : Wd n u1 l1) (hw2 : Wd n u2 l2) (hn : n ≤ 16777216)
    (hQ : ∀ a b c d w G', Wd (n + l.length) a b → Wd (n + l.length) c d → totW a b = totW u1 l1 - sumF (stays r) l → totW c d = totW u2 l2 + sumF (paid r) l → Sp [] G [OwnL 35 w ((sortP (pensF mine (opens r) l)).map PenM.av)] G' → Q (.tuple [pairW a b, pairW c d, w]) G') :
    ACalls P ledger_part.n [v, .map mid, .bool mine, pairW u1 l1, pairW u2 l2] G Q := by
  refine ledger_part.sound ?_
  unfold ledger_part.S
  rw [zWide]
  intro i1 f1
  have s1 := (Sp.nil G).row f1 (pairW u1 l1)
  intro i3 f3
  have s3 := s1.row f3 (pairW u2 l2)
  intro i5 f5
  have s5 := s3.row f5 (pairW 0 0)
  intro i7 f7
  have s7 := s5.row f7 (pairW 0 0)
  refine wv_of (upd_len (hl.ch' s7.ch)) ?_
  intro R hR
  have loop : ∀ (k j : Nat) (a b c d : Int) (w : AVal) (G' : Heap), l.length - j = k → j ≤ l.length → Wd (n + j) a b → Wd (n + j) c d → totW a b = totW u1 l1 - sumF (stays r) (l.take j) → totW c d = totW u2 l2 + sumF (paid r) (l.take j) →
      Sp [] G [OwnL 35 w ((pensF mine (opens r) (l.take j)).map PenM.av), RowL i7 (pairW 0 0), RowL i5 (pairW 0 0), RowL i3 (pairW c d), RowL i1 (pairW a b)] G' →
      R [.map mid, .bool mine, .ptr i1 [] 0, .ptr i3 [] 0, .ptr i5 [] 0, .ptr i7 [] 0, w, v, .int .i64 (l.length : Int), .int .i64 (j : Int)] G' := by
    intro k
    induction k with
    | zero =>
      intro j a b c d w G' hk hj w1 w2 t1 t2 sp
      have hjl : j = l.length := by omega
      subst hjl
      rw [List.take_length] at t1 t2 sp
      refine hR _ _ _ _ _ _ _ _ _ _ _ ?_
      rw [vbin_lss, wv_some, decide_eq_false (by omega), brB_false]
      have hpl := pensF_len mine (opens r) l
      refine sortStable.use (pensF_ok hok) (by omega) sp fun G64 s64 => ?_
      refine wv_of (pair_load (RowL.own (i := 4) s64 rfl) T_ledger_wide rfl).2.2 ?_
      refine wv_of (pair_load (RowL.own (i := 3) s64 rfl) T_ledger_wide rfl).2.2 ?_
      refine wide_store (i := 2) s64 rfl fun G67 s67 => ?_
      refine ⟨⟨(pair_load (RowL.own (i := 3) s67 rfl) T_ledger_wide rfl).2.2, trivial⟩, ?_⟩
      refine wide_store (i := 1) s67 rfl fun G68 s68 => ?_
      refine wv_of (pair_load (RowL.own (i := 2) s68 rfl) T_ledger_wide rfl).2.2 ?_
      refine wv_of (pair_load (RowL.own (i := 1) s68 rfl) T_ledger_wide rfl).2.2 ?_
      exact hQ _ _ _ _ _ _ w1 w2 t1 t2 ((((s68.erase 1).erase 1).erase 1).erase 1)
    | succ k ih =>
      intro j a b c d w G' hk hj w1 w2 t1 t2 sp
      obtain ⟨u, hu⟩ : ∃ u, l[j]? = some u := ⟨_, List.getElem?_eq_getElem (by omega)⟩
      have huo := hok u (List.mem_of_getElem? hu)
      have huv := hval u (List.mem_of_getElem? hu)
      have n1 := sumF_next (f := stays r) hu
      have n2 := sumF_next (f := paid r) hu
      have n3 := pensF_next (mine := mine) (f := opens r) hu
      refine hR _ _ _ _ _ _ _ _ _ _ _ ?_
      rw [vbin_lss, wv_some, decide_eq_true (by omega), brB_true]
      have ev : vbin T .add t_int (.int .i64 (j : Int)) (.int .i64 1) = some (.int .i64 ((j + 1 : Nat) : Int)) := by
        rw [vbin_add, i64_in (by omega) (by omega)]
        rfl
      have wmono : ∀ {x y : Int}, Wd (n + j) x y → Wd (n + (j + 1)) x y := fun h => ⟨by have := h.u1; omega, by have := h.u2; omega, by have := h.l1; omega, by have := h.l2; omega⟩
      intro J62
      obtain ⟨p, e1, e2⟩ := upd_at (hl.ch' sp.ch) hu
      refine wv_of e1 ?_
      refine wv_of e2 ?_
      refine newU sp huo fun i25 G27 s27 => ?_
      intro J58
      have look : ∀ {G2 : Heap}, Ch [] G [] G2 → vlookup T G2 t_map_int64_int (.map mid) (.int .i64 u.id) false = some (.int .i64 (remS u.id r)) := fun hc => by
        rw [rem_look (ch_own hc hm), hes]
        congr 2
        unfold optR
        split
        · rename_i h; rw [h]; rfl
        · rfl
      have skip : ∀ G33, Sp [] G [RowL i25 u.av, OwnL 35 w ((pensF mine (opens r) (l.take j)).map PenM.av), RowL i7 (pairW 0 0), RowL i5 (pairW 0 0), RowL i3 (pairW c d), RowL i1 (pairW a b)] G33 → stays r u = false → J58 (.bool true) G33 := by
        intro G33 s33 hst
        simp -zeta only [J58, brB_true, J62]
        have hp : paid r u = false := by
          unfold stays at hst; unfold paid
          by_cases hk : u.kind = 1
          · rw [decide_eq_true hk, Bool.true_and] at hst ⊢
            have h3 : remS u.id r = 3 := by simpa using hst
            rw [h3]; rfl
          · rw [decide_eq_false hk]; rfl
        have ho : opens r u = false := by unfold opens; rw [hst]; rfl
        rw [hst] at n1; rw [hp] at n2; rw [ho] at n3
        refine wv_of ev (ih (j + 1) a b c d w G33 (by omega) (by omega) (wmono w1) (wmono w2) (by rw [t1, n1]; simp) (by rw [t2, n2]; simp) ?_)
        rw [n3]
        simpa using s33.erase 0
      have take : ∀ G33, Sp [] G [RowL i25 u.av, OwnL 35 w ((pensF mine (opens r) (l.take j)).map PenM.av), RowL i7 (pairW 0 0), RowL i5 (pairW 0 0), RowL i3 (pairW c d), RowL i1 (pairW a b)] G33 → u.kind = 1 → ¬ remS u.id r = 3 → J58 (.bool false) G33 := by
        intro G33 s33 hk h3
        simp -zeta only [J58, brB_false]
        have hst : stays r u = true := by simp [stays, hk, h3]
        rw [hst] at n1
        have ham : amt u.amount := by
          have := (valid_spec huv).2.2
          constructor <;> omega
        refine wv_of (pair_load (RowL.own (i := 5) s33 rfl) T_ledger_wide rfl).2.2 ?_
        refine wv_of (upd_load (i := 0) s33 rfl huo).2.2.1 ?_
        refine ledger_wide_minus.use w1 (by omega) ham fun a' b' G38 c38 wd ht => ?_
        have s38 := s33.tmp c38
        refine wide_store (i := 5) s38 rfl fun G39 s39 => ?_
        obtain ⟨q0, q1, q2, q3, q4, q5⟩ := upd_load (i := 0) s39 rfl huo
        refine wv_of q1 ?_
        refine wv_of (look s39.ch) ?_
        have ht1 : totW a' b' = totW u1 l1 - sumF (stays r) (l.take (j + 1)) := by rw [ht, t1, n1]; simp; omega
        rw [vbin_eql, wv_some, brB_dec]
        refine ⟨fun h2 => ?_, fun h2 => ?_⟩
        · have hp : paid r u = true := by simp [paid, hk, h2]
          have ho : opens r u = false := by simp [opens, h2]
          rw [hp] at n2; rw [ho] at n3
          refine wv_of (pair_load (RowL.own (i := 4) s39 rfl) T_ledger_wide rfl).2.2 ?_
          refine wv_of q2 ?_
          refine ledger_wide_plus.use w2 (by omega) ham fun c' d' G46 c46 wd2 ht2 => ?_
          have s46 := s39.tmp c46
          refine wide_store (i := 4) s46 rfl fun G47 s47 => ?_
          simp -zeta only [J62]
          refine wv_of ev (ih (j + 1) a' b' c' d' w G47 (by omega) (by omega) wd wd2 ht1 (by rw [ht2, t2, n2]; simp; omega) ?_)
          rw [n3]
          simpa using s47.erase 0
        · have hp : paid r u = false := by simp [paid, h2]
          have ho : opens r u = true := by simp [opens, hst, h2]
          rw [hp] at n2; rw [ho] at n3
          refine wv_of q1 ?_
          refine wv_of q2 ?_
          refine wv_of q3 ?_
          refine wv_of (build_pen (p := pend mine u) (pend_ok huo)) ?_
          have hal := pensF_len mine (opens r) (l.take j)
          rw [List.length_take] at hal
          have hb : ti_api_Pending.bytes = 56 := rfl
          refine growV (T := T) (ts := t_sl_api_Pending) (e := t_api_Pending) (si := ti_sl_api_Pending) (ie := ti_api_Pending) (i := 1) (c := (pend mine u).av) T_sl_api_Pending rfl T_api_Pending rfl (by decide) s39 rfl (PenM.sz (pend_ok huo)) (PenM.okv _) (by decide) ?_ fun w' G55 s55 => ?_
          · rw [hb, List.length_map]; omega
          simp -zeta only [J62]
          refine wv_of ev (ih (j + 1) a' b' c d w' G55 (by omega) (by omega) wd (wmono w2) ht1 (by rw [t2, n2]; simp) ?_)
          rw [n3]
          have s : Sp [] G [OwnL 35 w' ((pensF mine (opens r) (l.take j)).map PenM.av ++ [(pend mine u).av]), RowL i7 (pairW 0 0), RowL i5 (pairW 0 0), RowL i3 (pairW c d), RowL i1 (pairW a' b')] G55 := s55.erase 0
          simpa using s
      obtain ⟨q0, q1, q2, q3, q4, q5⟩ := upd_load (i := 0) s27 rfl huo
      refine wv_of q0 ?_
      rw [vbin_neq, wv_some]
      by_cases hk1 : u.kind = 1
      · rw [decide_eq_true hk1, Bool.not_true, brB_false]
        refine wv_of q1 ?_
        refine wv_of (look s27.ch) ?_
        rw [vbin_eql, wv_some]
        by_cases h3 : remS u.id r = 3
        · rw [decide_eq_true h3]
          exact skip _ s27 (by simp [stays, h3])
        · rw [decide_eq_false h3]
          exact take _ s27 hk1 h3
      · rw [decide_eq_false hk1, Bool.not_false, brB_true]
        exact skip _ s27 (by simp [stays, hk1])
  exact loop l.length 0 u1 l1 u2 l2 .nilSlice _ rfl (by omega) hw1 hw2 (by simp [sumF]) (by simp [sumF]) (s7.nilL 35)

end

end Go.Esc.M

/- Own work. Chapter 13: are all valid; the document's Open. -/
set_option linter.unusedSimpArgs false
set_option linter.unusedVariables false
namespace Go.Esc.M
open Go Go.Esc

def allV (l : List UpdM) : Bool := l.all validU
theorem allV_take {l : List UpdM} {j : Nat} {u : UpdM} (hu : l[j]? = some u) (h : ∀ x ∈ l.take j, validU x = true) (hv : validU u = true) : ∀ x ∈ l.take (j + 1), validU x = true := by
  intro x hx
  rw [List.take_add_one, hu] at hx
  rcases List.mem_append.1 hx with hx | hx
  · exact h x hx
  · have : x = u := by simpa using hx
    rw [this]; exact hv
theorem allV_no {l : List UpdM} {j : Nat} {u : UpdM} (hu : l[j]? = some u) (hv : validU u = false) : allV l = false := by
  refine Bool.eq_false_iff.2 fun h => ?_
  have := List.all_eq_true.1 h u (List.mem_of_getElem? hu)
  rw [hv] at this
  cases this

section
variable {F0 : List AId} {G0 G : Heap} {ps : List LP} {Q : AVal → Heap → Prop}

theorem ledger_invalid.use {u : UpdM} (h : u.ok) (hQ : ∀ G', Ch [] G [] G' → Q (.bool (!validU u)) G') : ACalls P ledger_invalid.n [u.av] G Q := by
  refine ledger_invalid.sound ?_
  unfold ledger_invalid.S
  intro i1 f1
  have s1 := (Sp.nil G).row f1 u.av
  refine wv_of (upd_load (i := 0) s1 rfl h).2.2.2.2.2 ?_
  refine update_Valid.use h fun G5 c5 => ?_
  have s5 := s1.tmp c5
  rw [vun_not, wv_some]
  exact hQ _ s5.ch
def invF : AVal := .func (.func ledger_invalid.n) [] []

theorem contains.use {v : AVal} {l : List UpdM} (hl : IsSl 36 G v (l.map UpdM.av)) (hok : ∀ u ∈ l, u.ok) (hlen : l.length ≤ 1048576) (hQ : ∀ G', Ch [] G [] G' → Q (.bool (!allV l)) G') : ACalls P slices_ContainsFunc_escrow_api_Update_escrow_api_Update.n [v, invF] G Q := by
  refine slices_ContainsFunc_escrow_api_Update_escrow_api_Update.sound ?_
  unfold slices_ContainsFunc_escrow_api_Update_escrow_api_Update.S
  refine slices_IndexFunc_escrow_api_Update_escrow_api_Update.sound ?_
  unfold slices_IndexFunc_escrow_api_Update_escrow_api_Update.S
  refine wv_of (upd_len hl) ?_
  intro R hR
  have loop : ∀ (m j : Nat) (G' : Heap), l.length - j = m → j ≤ l.length → (∀ x ∈ l.take j, validU x = true) → Ch [] G [] G' → R [v, invF, .int .i64 (l.length : Int), .int .i64 (j : Int)] G' := by
    intro m
    induction m with
    | zero =>
      intro j G' hm hj h0 hc
      refine hR _ _ _ _ _ ?_
      rw [vbin_lss, wv_some, decide_eq_false (by omega), brB_false]
      rw [List.take_of_length_le (by omega)] at h0
      have : allV l = true := List.all_eq_true.2 h0
      rw [this] at hQ
      refine wv_of (v := .bool false) rfl ?_
      exact hQ _ hc
    | succ m ih =>
      intro j G' hm hj h0 hc
      obtain ⟨u, hu⟩ : ∃ u, l[j]? = some u := ⟨_, List.getElem?_eq_getElem (by omega)⟩
      have huo := hok u (List.mem_of_getElem? hu)
      refine hR _ _ _ _ _ ?_
      rw [vbin_lss, wv_some, decide_eq_true (by omega), brB_true]
      obtain ⟨a, e1, e2⟩ := upd_at (hl.ch' hc) hu
      refine wv_of e1 ?_
      refine wv_of e2 ?_
      refine ledger_invalid.use huo fun G12 c12 => ?_
      have c12 : Ch [] G [] G12 := hc.trans c12
      cases hv : validU u with
      | true =>
        rw [Bool.not_true, brB_false, vbin_add, i64_in (by omega) (by omega), wv_some]
        exact ih (j + 1) G12 (by omega) (by omega) (allV_take hu h0 hv) c12
      | false =>
        rw [Bool.not_false, brB_true]
        rw [allV_no hu hv] at hQ
        refine wv_of (v := .bool true) (by rw [vbin_geq, decide_eq_true (by omega)]) ?_
        exact hQ _ c12
  exact loop l.length 0 G rfl (by omega) (by simp) (Ch.refl _ _)

theorem escrowref13_valid.use {v : AVal} {l : List UpdM} (hl : IsSl 36 G v (l.map UpdM.av)) (hok : ∀ u ∈ l, u.ok) (hlen : l.length ≤ 1048576) (hQ : ∀ G', Ch [] G [] G' → Q (.bool (allV l)) G') : ACalls P escrowref13_valid.n [v] G Q := by
  refine escrowref13_valid.sound ?_
  unfold escrowref13_valid.S
  intro R hR
  have loop : ∀ (m j : Nat) (G' : Heap), l.length - j = m → j ≤ l.length → (∀ x ∈ l.take j, validU x = true) → Ch [] G [] G' → R [v, .int .i64 (j : Int)] G' := by
    intro m
    induction m with
    | zero =>
      intro j G' hm hj h0 hc
      refine hR _ _ _ ?_
      refine wv_of (upd_len (hl.ch' hc)) ?_
      rw [vbin_lss, wv_some, decide_eq_false (by omega), brB_false]
      rw [List.take_of_length_le (by omega)] at h0
      have : allV l = true := List.all_eq_true.2 h0
      rw [this] at hQ
      exact hQ _ hc
    | succ m ih =>
      intro j G' hm hj h0 hc
      obtain ⟨u, hu⟩ : ∃ u, l[j]? = some u := ⟨_, List.getElem?_eq_getElem (by omega)⟩
      have huo := hok u (List.mem_of_getElem? hu)
      refine hR _ _ _ ?_
      refine wv_of (upd_len (hl.ch' hc)) ?_
      rw [vbin_lss, wv_some, decide_eq_true (by omega), brB_true]
      obtain ⟨a, e1, e2⟩ := upd_at (hl.ch' hc) hu
      refine wv_of e1 ?_
      refine wv_of e2 ?_
      refine escrowref12_Valid.use huo fun G12 c12 => ?_
      have c12 : Ch [] G [] G12 := hc.trans c12
      rw [vun_not, wv_some]
      cases hv : validU u with
      | true =>
        rw [Bool.not_true, brB_false, vbin_add, i64_in (by omega) (by omega), wv_some]
        exact ih (j + 1) G12 (by omega) (by omega) (allV_take hu h0 hv) c12
      | false =>
        rw [Bool.not_false, brB_true]
        rw [allV_no hu hv] at hQ
        exact hQ _ c12
  exact loop l.length 0 G rfl (by omega) (by simp) (Ch.refl _ _)

end

end Go.Esc.M

/- Own work. Chapter 13: the document's Open. -/
set_option linter.unusedSimpArgs false
set_option linter.unusedVariables false
namespace Go.Esc.M
open Go Go.Esc

section
variable {F0 : List AId} {G0 G : Heap} {ps : List LP} {Q : AVal → Heap → Prop}

set_option maxHeartbeats 1000000 in
theorem escrowref13_Open.use {v w : AVal} {mine others : List UpdM} {fixed : Int} (hl : IsSl 36 G v (mine.map UpdM.av)) (ho : CapSl 36 G w (others.map UpdM.av)) (hok : ∀ u ∈ mine, u.ok) (hok2 : ∀ u ∈ others, u.ok) (hlen : mine.length ≤ 1048576) (hlen2 : others.length ≤ 1048576)
    (hQ : ∀ G', Ch [] G [] G' → Q (.int .i64 ((openN mine others fixed : Nat) : Int)) G') : ACalls P escrowref13_Open.n [v, w, .int .i64 fixed] G Q := by
  refine escrowref13_Open.sound ?_
  unfold escrowref13_Open.S
  refine escrowref13_first.use ho hlen2 fun w1 h1 => ?_
  have hfl := firstN_len others fixed
  have hfo := firstN_ok (n := fixed) hok2
  intro R hR
  have loop : ∀ (m j : Nat) (G' : Heap), mine.length - j = m → j ≤ mine.length → Ch [] G [] G' → R [v, w1, .int .i64 ((openN (mine.take j) others fixed : Nat) : Int), .int .i64 (j : Int)] G' := by
    intro m
    induction m with
    | zero =>
      intro j G' hm hj hc
      refine hR _ _ _ _ _ ?_
      refine wv_of (upd_len (hl.ch' hc)) ?_
      rw [vbin_lss, wv_some, decide_eq_false (by omega), brB_false]
      rw [List.take_of_length_le (by omega)]
      exact hQ _ hc
    | succ m ih =>
      intro j G' hm hj hc
      obtain ⟨u, hu⟩ : ∃ u, mine[j]? = some u := ⟨_, List.getElem?_eq_getElem (by omega)⟩
      have huo := hok u (List.mem_of_getElem? hu)
      have hnx : openN (mine.take (j + 1)) others fixed = openN (mine.take j) others fixed + if decide (u.kind = 1) && (validU u && decide (remS u.id (firstN others fixed) = 0)) then 1 else 0 := by
        unfold openN
        rw [addsL_next hu, List.length_append]
        congr 1
        split <;> rfl
      have hle : openN (mine.take j) others fixed ≤ 1048576 := by
        unfold openN
        have := addsL_len (fun id => decide (remS id (firstN others fixed) = 0)) (mine.take j)
        rw [List.length_take] at this
        omega
      refine hR _ _ _ _ _ ?_
      refine wv_of (upd_len (hl.ch' hc)) ?_
      rw [vbin_lss, wv_some, decide_eq_true (by omega), brB_true]
      intro J36
      have go : ∀ (x : Int) (G' : Heap), Ch [] G [] G' → x = ((openN (mine.take (j + 1)) others fixed : Nat) : Int) → J36 (.int .i64 x) G' := by
        intro x G' hc hx
        simp -zeta only [J36]
        rw [vbin_add, i64_in (by omega) (by omega), wv_some, hx]
        exact ih (j + 1) G' (by omega) (by omega) hc
      obtain ⟨a, b, e1, e2, e3⟩ := fldK (hl.ch' hc) hu
      refine wv_of e1 ?_
      refine wv_of e2 ?_
      refine wv_of e3 ?_
      rw [vbin_eql, wv_some]
      by_cases hk : u.kind = 1
      · rw [decide_eq_true hk, brB_true]
        obtain ⟨a, e1, e2⟩ := upd_at (hl.ch' hc) hu
        refine wv_of e1 ?_
        refine wv_of e2 ?_
        refine escrowref12_Valid.use huo fun G18 c18 => ?_
        have c18 : Ch [] G [] G18 := hc.trans c18
        cases hv : validU u with
        | false =>
          rw [brB_false]
          exact go _ G18 c18 (by rw [hnx, hv]; simp)
        | true =>
          rw [brB_true]
          obtain ⟨a, b, e1, e2, e3⟩ := fldI (hl.ch' c18) hu
          refine wv_of e1 ?_
          refine wv_of e2 ?_
          refine wv_of e3 ?_
          refine escrowref13_removed.use (h1.isSl.ch' c18) hfo (by omega) fun G23 c23 => ?_
          have c23 : Ch [] G [] G23 := c18.trans c23
          rw [vbin_eql, wv_some, brB_dec]
          refine ⟨fun h0 => ?_, fun h0 => ?_⟩
          · rw [vbin_add, i64_in (by omega) (by omega), wv_some]
            exact go _ G23 c23 (by rw [hnx, hk, hv, h0]; simp)
          · exact go _ G23 c23 (by rw [hnx, decide_eq_false h0]; simp)
      · rw [decide_eq_false hk, brB_false]
        exact go _ G' hc (by rw [hnx, decide_eq_false hk]; simp)
  have := loop mine.length 0 G rfl (by omega) (Ch.refl _ _)
  simpa [openN, addsL] using this

end

end Go.Esc.M

/- Own work. Chapter 13: the document's placed. -/
set_option linter.unusedSimpArgs false
set_option linter.unusedVariables false
namespace Go.Esc.M
open Go Go.Esc

theorem placed_skip (p : PenM) : ∀ {a : List PenM} (b : List PenM), (∀ q ∈ a, ¬ p.id < q.id) → placedP (a ++ b) p = a ++ placedP b p
  | [], b, _ => rfl
  | q :: a, b, h => by
    have hq := h q (by simp)
    rw [List.cons_append, List.cons_append, placedP, if_neg hq, placed_skip p b fun x hx => h x (by simp [hx])]
theorem placed_done (p : PenM) : ∀ {a : List PenM} (b : List PenM), (∃ q ∈ a, p.id < q.id) → placedP (a ++ b) p = placedP a p ++ b
  | [], b, h => by obtain ⟨q, hq, _⟩ := h; cases hq
  | q :: a, b, h => by
    by_cases hq : p.id < q.id
    · rw [List.cons_append, placedP, if_pos hq, placedP, if_pos hq]; rfl
    · have : ∃ x ∈ a, p.id < x.id := by
        obtain ⟨x, hx, hlt⟩ := h
        rcases List.mem_cons.1 hx with rfl | hx
        · exact absurd hlt hq
        · exact ⟨x, hx, hlt⟩
      rw [List.cons_append, placedP, if_neg hq, placedP, if_neg hq, placed_done p b this]; rfl
theorem placed_end (p : PenM) {a : List PenM} (h : ∀ q ∈ a, ¬ p.id < q.id) : placedP a p = a ++ [p] := by
  have := placed_skip p [] h
  rw [List.append_nil] at this
  exact this
theorem placed_ok {p : PenM} {a : List PenM} (hp : p.ok) (h : ∀ q ∈ a, q.ok) : ∀ q ∈ placedP a p, q.ok := by
  induction a with
  | nil => intro q hq; rw [List.mem_singleton.1 hq]; exact hp
  | cons x a ih =>
    intro q hq
    rw [placedP] at hq
    split at hq
    · rcases List.mem_cons.1 hq with rfl | hq
      · exact hp
      · exact h q hq
    · rcases List.mem_cons.1 hq with rfl | hq
      · exact h _ (by simp)
      · exact ih (fun y hy => h y (by simp [hy])) q hq
theorem placed_len (p : PenM) : ∀ a : List PenM, (placedP a p).length = a.length + 1
  | [] => rfl
  | x :: a => by
    rw [placedP]
    split
    · rfl
    · rw [List.length_cons, placed_len p a, List.length_cons]

section
variable {F0 : List AId} {G0 G : Heap} {ps : List LP} {Q : AVal → Heap → Prop}

theorem pen_fldI {v : AVal} {l : List PenM} {j : Nat} {p : PenM} {x : Int} (h : IsSl 35 G v (l.map PenM.av)) (hx : x = (j : Int)) (hj : l[j]? = some p) : ∃ a b, viaddr T t_sl_api_Pending v (.int .i64 x) = some a ∧ vfaddr T t_api_Pending a 1 = some b ∧ vload T G t_int64 b = some (.int .i64 p.id) := by
  subst hx
  exact IsSl.fld (k := .i64) (cs := [.bool p.ours, .int .i64 p.id, .int .i64 p.amount, .agg (p.hash.map u8v)]) (i := ti_sl_api_Pending) (ie := ti_api_Pending) T_sl_api_Pending rfl T_api_Pending (fs := [(t_bool, 0), (t_int64, 1), (t_int64, 2), (t_api_Hash, 3)]) (f := 1) (o := 1) rfl rfl T_int64 (by decide) h (by rw [List.getElem?_map, hj]; rfl) rfl rfl rfl
theorem grow_pen {i : Nat} {v : AVal} {l : List PenM} {p : PenM} {K : AVal → Heap → Prop} (hs : Sp F0 G0 ps G) (hi : ps[i]? = some (OwnL 35 v (l.map PenM.av))) (ho : p.ok) (hl : l.length ≤ 2097152) (hK : ∀ v' G', Sp F0 G0 (ps.set i (OwnL 35 v' ((l ++ [p]).map PenM.av))) G' → K v' G') :
    aBuildSlice T t_sl_api_Pending 1 [(0, p.av)] G fun w G' => aAppend T G' t_sl_api_Pending t_sl_api_Pending v w K := by
  have hb : ti_api_Pending.bytes = 56 := rfl
  refine growV (ie := ti_api_Pending) T_sl_api_Pending rfl T_api_Pending rfl (by decide) hs hi (PenM.sz ho) (PenM.okv p) (by decide) (by rw [hb, List.length_map]; omega) fun s' G' h => hK s' G' ?_
  rw [List.map_append]
  exact h

set_option maxHeartbeats 1000000 in
theorem escrowref13_placed.use {v : AVal} {l : List PenM} {p : PenM} (hl : IsSl 35 G v (l.map PenM.av)) (hok : ∀ q ∈ l, q.ok) (hp : p.ok) (hlen : l.length ≤ 1048576) (hQ : ∀ w G', Sp [] G [OwnL 35 w ((placedP l p).map PenM.av)] G' → Q w G') : ACalls P escrowref13_placed.n [v, p.av] G Q := by
  refine escrowref13_placed.sound ?_
  unfold escrowref13_placed.S
  intro i1 f1
  have s1 := (Sp.nil G).row f1 p.av
  intro R hR
  have loop : ∀ (m j : Nat) (w : AVal) (dn : Bool) (out : List PenM) (G' : Heap), l.length - j = m → j ≤ l.length → (dn = false → out = l.take j ∧ ∀ q ∈ l.take j, ¬ p.id < q.id) → (dn = true → out = placedP (l.take j) p ∧ ∃ q ∈ l.take j, p.id < q.id) → Sp [] G [OwnL 35 w (out.map PenM.av), RowL i1 p.av] G' →
      R [v, .ptr i1 [] 0, w, .bool dn, .int .i64 (j : Int)] G' := by
    intro m
    induction m with
    | zero =>
      intro j w dn out G' hm hj h0 h1 sp
      refine hR _ _ _ _ _ _ ?_
      have hll : vlen T G' t_sl_api_Pending v = some (.int .i64 (l.length : Nat)) := by rw [(hl.ch' sp.ch).len (i := ti_sl_api_Pending) T_sl_api_Pending rfl, List.length_map]
      refine wv_of hll ?_
      rw [vbin_lss, wv_some, decide_eq_false (by omega), brB_false, vun_not, wv_some]
      rw [List.take_of_length_le (by omega)] at h0 h1
      cases dn with
      | false =>
        obtain ⟨rfl, h0⟩ := h0 rfl
        rw [Bool.not_false, brB_true]
        refine wv_of (whole_load T_api_Pending (RowL.own (i := 1) sp rfl) (PenM.fits hp)) ?_
        refine grow_pen (i := 0) sp rfl hp (by omega) fun w' G59 s59 => ?_
        have s := s59.erase 1
        rw [← placed_end p h0] at s
        exact hQ _ _ s
      | true =>
        obtain ⟨rfl, _⟩ := h1 rfl
        rw [Bool.not_true, brB_false]
        exact hQ _ _ (sp.erase 1)
    | succ m ih =>
      intro j w dn out G' hm hj h0 h1 sp
      obtain ⟨x, hx⟩ : ∃ x, l[j]? = some x := ⟨_, List.getElem?_eq_getElem (by omega)⟩
      have hxo := hok x (List.mem_of_getElem? hx)
      have htk : l.take (j + 1) = l.take j ++ [x] := by rw [List.take_add_one, hx]; rfl
      refine hR _ _ _ _ _ _ ?_
      have hll : vlen T G' t_sl_api_Pending v = some (.int .i64 (l.length : Nat)) := by rw [(hl.ch' sp.ch).len (i := ti_sl_api_Pending) T_sl_api_Pending rfl, List.length_map]
      refine wv_of hll ?_
      rw [vbin_lss, wv_some, decide_eq_true (by omega), brB_true]
      have ev : vbin T .add t_int (.int .i64 (j : Int)) (.int .i64 1) = some (.int .i64 ((j + 1 : Nat) : Int)) := by
        rw [vbin_add, i64_in (by omega) (by omega)]
        rfl
      intro J47
      have hol : out.length ≤ 1048577 := by
        cases dn with
        | false => rw [(h0 rfl).1, List.length_take]; omega
        | true => rw [(h1 rfl).1, placed_len, List.length_take]; omega
      have keep : (dn = false → ¬ p.id < x.id) → J47 (.bool false) G' := by
        intro hk
        simp -zeta only [J47, brB_false]
        obtain ⟨a, e1, e2⟩ := pen_atx (hl.ch' sp.ch) rfl hx
        refine wv_of e1 ?_
        refine wv_of e2 ?_
        refine grow_pen (i := 0) sp rfl hxo (by omega) fun w' G46 s46 => ?_
        refine wv_of ev (ih (j + 1) w' dn (out ++ [x]) G46 (by omega) (by omega) (fun hd => ?_) (fun hd => ?_) s46)
        · obtain ⟨e, h⟩ := h0 hd
          rw [htk, e]
          refine ⟨rfl, fun q hq => ?_⟩
          rcases List.mem_append.1 hq with hq | hq
          · exact h q hq
          · rw [List.mem_singleton.1 hq]; exact hk hd
        · obtain ⟨e, h⟩ := h1 hd
          rw [htk, e, placed_done p [x] h]
          obtain ⟨q, hq, hlt⟩ := h
          exact ⟨rfl, q, by simp [hq], hlt⟩
      rw [vun_not, wv_some]
      cases dn with
      | true =>
        rw [Bool.not_true, brB_false]
        exact keep (fun h => by cases h)
      | false =>
        rw [Bool.not_false, brB_true]
        obtain ⟨a, b, e1, e2, e3⟩ := pen_fldI (hl.ch' sp.ch) rfl hx
        refine wv_of e1 ?_
        refine wv_of e2 ?_
        refine wv_of e3 ?_
        refine wv_of (v := .ptr i1 [1] 1) rfl ?_
        refine wv_of (PenM.fld hp (RowL.own (i := 1) sp rfl)).2.1 ?_
        rw [vbin_gtr, wv_some]
        by_cases hlt : x.id > p.id
        · rw [decide_eq_true hlt]
          simp -zeta only [J47, brB_true]
          obtain ⟨e, h⟩ := h0 rfl
          refine wv_of (whole_load T_api_Pending (RowL.own (i := 1) sp rfl) (PenM.fits hp)) ?_
          refine grow_pen (i := 0) sp rfl hp (by omega) fun w' G25 s25 => ?_
          obtain ⟨a, e1, e2⟩ := pen_atx (hl.ch' s25.ch) rfl hx
          refine wv_of e1 ?_
          refine wv_of e2 ?_
          refine grow_pen (i := 0) s25 rfl hxo (by rw [List.length_append, List.length_singleton]; omega) fun w2 G40 s40 => ?_
          refine wv_of ev (ih (j + 1) w2 true (out ++ [p] ++ [x]) G40 (by omega) (by omega) (fun hd => by cases hd) (fun _ => ?_) s40)
          rw [htk, placed_skip p [x] h, e, placedP, if_pos hlt]
          exact ⟨by simp, x, by simp, hlt⟩
        · rw [decide_eq_false hlt]
          exact keep (fun _ => hlt)
  exact loop l.length 0 .nilSlice false [] _ rfl (by omega) (fun _ => ⟨rfl, by simp⟩) (fun h => by cases h) (s1.nilL 35)

end

end Go.Esc.M

/- Own work. Chapter 13: the document's side: plain. -/
set_option linter.unusedSimpArgs false
set_option linter.unusedVariables false
namespace Go.Esc.M
open Go Go.Esc

theorem remS_vals (id : Int) : ∀ l : List UpdM, remS id l = 0 ∨ remS id l = 2 ∨ remS id l = 3
  | [] => .inl rfl
  | u :: l => by
    unfold remS
    split
    · rename_i h
      simp only [isRem, Bool.and_eq_true, decide_eq_true_eq] at h
      have := (valid_spec h.2.2).2.2
      omega
    · exact remS_vals id l
theorem sortP_snoc (l : List PenM) (p : PenM) : sortP (l ++ [p]) = placedP (sortP l) p := by
  unfold sortP
  rw [List.foldl_append]
  rfl
theorem sortP_len (l : List PenM) : (sortP l).length = l.length := (sort_st l).1.length
theorem sortP_ok {l : List PenM} (h : ∀ p ∈ l, p.ok) : ∀ p ∈ sortP l, p.ok := fun p hp => h p ((sort_st l).1.mem.1 hp)
theorem sumF_bound {f : UpdM → Bool} {l : List UpdM} (hv : ∀ u ∈ l, f u = true → amt u.amount) : 0 ≤ sumF f l ∧ sumF f l ≤ (l.length : Int) * 1152921504606846976 := by
  unfold sumF
  have h1 := sum_bound (A := (l.filter f).map (·.amount)) (fun a ha => by
    obtain ⟨u, hu, rfl⟩ := List.mem_map.1 ha
    obtain ⟨h1, h2⟩ := List.mem_filter.1 hu
    exact hv u h1 h2)
  have h2 := List.length_filter_le f l
  rw [List.length_map] at h1
  omega

end Go.Esc.M

/- Own work. Chapter 13: the document's side. -/
set_option linter.unusedSimpArgs false
set_option linter.unusedVariables false
namespace Go.Esc.M
open Go Go.Esc

section
variable {F0 : List AId} {G0 G : Heap} {ps : List LP} {Q : AVal → Heap → Prop}

def mid110 (t : Int) : Prop := -1298074214633706907132624082305024 ≤ t ∧ t ≤ 1298074214633706907132624082305024
set_option maxHeartbeats 4000000 in
theorem escrowref13_side.use {v w : AVal} {l r : List UpdM} {mine : Bool} {t1 t2 : Int} (hl : IsSl 36 G v (l.map UpdM.av)) (hr : IsSl 36 G w (r.map UpdM.av)) (hok : ∀ u ∈ l, u.ok) (hok2 : ∀ u ∈ r, u.ok) (hval : ∀ u ∈ l, validU u = true) (hlen : l.length ≤ 1048576) (hlen2 : r.length ≤ 1048576) (ht1 : mid110 t1) (ht2 : mid110 t2)
    (hQ : ∀ x G', Sp [] G [OwnL 35 x ((sortP (pensF mine (opens r) l)).map PenM.av)] G' → Q (.tuple [wdR (t1 - sumF (stays r) l), wdR (t2 + sumF (paid r) l), x]) G') :
    ACalls P escrowref13_side.n [wdR t1, wdR t2, v, w, .bool mine] G Q := by
  refine escrowref13_side.sound ?_
  unfold escrowref13_side.S
  rw [zWide13]
  intro i1 f1
  have s1 := (Sp.nil G).row f1 (wdR t1)
  intro i3 f3
  have s3 := s1.row f3 (wdR t2)
  intro i5 f5
  have s5 := s3.row f5 (pairW 0 0)
  intro i7 f7
  have s7 := s5.row f7 (pairW 0 0)
  have ham : ∀ u ∈ l, u.kind = 1 → amt u.amount := fun u hu hk => by
    have := (valid_spec (hval u hu)).2.2
    constructor <;> omega
  have sm : ∀ (j : Nat), small (t1 - sumF (stays r) (l.take j)) ∧ small (t2 + sumF (paid r) (l.take j)) := fun j => by
    obtain ⟨a1, a2⟩ := ht1
    obtain ⟨b1, b2⟩ := ht2
    have hm : ∀ u ∈ l.take j, u ∈ l := fun u hu => List.mem_of_mem_take hu
    have h1 := sumF_bound (f := stays r) (l := l.take j) (fun u hu hf => ham u (hm u hu) (by simp [stays] at hf; exact hf.1))
    have h2 := sumF_bound (f := paid r) (l := l.take j) (fun u hu hf => ham u (hm u hu) (by simp [paid] at hf; exact hf.1))
    have h3 : (l.take j).length ≤ 1048576 := by rw [List.length_take]; omega
    unfold small
    constructor <;> constructor <;> omega
  intro R hR
  have loop : ∀ (k j : Nat) (x : AVal) (G' : Heap), l.length - j = k → j ≤ l.length →
      Sp [] G [OwnL 35 x ((sortP (pensF mine (opens r) (l.take j))).map PenM.av), RowL i7 (pairW 0 0), RowL i5 (pairW 0 0), RowL i3 (wdR (t2 + sumF (paid r) (l.take j))), RowL i1 (wdR (t1 - sumF (stays r) (l.take j)))] G' →
      R [v, w, .bool mine, .ptr i1 [] 0, .ptr i3 [] 0, .ptr i5 [] 0, .ptr i7 [] 0, x, .int .i64 (j : Int)] G' := by
    intro k
    induction k with
    | zero =>
      intro j x G' hk hj sp
      have hjl : j = l.length := by omega
      subst hjl
      rw [List.take_length] at sp
      refine hR _ _ _ _ _ _ _ _ _ _ ?_
      refine wv_of (upd_len (hl.ch' sp.ch)) ?_
      rw [vbin_lss, wv_some, decide_eq_false (by omega), brB_false]
      refine wv_of (pair_load (RowL.own (i := 4) sp rfl) T_escrowref13_Wide rfl).2.2 ?_
      refine wv_of (pair_load (RowL.own (i := 3) sp rfl) T_escrowref13_Wide rfl).2.2 ?_
      refine wide13_store (i := 2) sp rfl fun G67 s67 => ?_
      refine ⟨⟨(pair_load (RowL.own (i := 3) s67 rfl) T_escrowref13_Wide rfl).2.2, trivial⟩, ?_⟩
      refine wide13_store (i := 1) s67 rfl fun G68 s68 => ?_
      refine wv_of (pair_load (RowL.own (i := 2) s68 rfl) T_escrowref13_Wide rfl).2.2 ?_
      refine wv_of (pair_load (RowL.own (i := 1) s68 rfl) T_escrowref13_Wide rfl).2.2 ?_
      exact hQ _ _ ((((s68.erase 1).erase 1).erase 1).erase 1)
    | succ k ih =>
      intro j x G' hk hj sp
      obtain ⟨u, hu⟩ : ∃ u, l[j]? = some u := ⟨_, List.getElem?_eq_getElem (by omega)⟩
      have huo := hok u (List.mem_of_getElem? hu)
      have n1 := sumF_next (f := stays r) hu
      have n2 := sumF_next (f := paid r) hu
      have n3 := pensF_next (mine := mine) (f := opens r) hu
      have hsm := sm j
      refine hR _ _ _ _ _ _ _ _ _ _ ?_
      refine wv_of (upd_len (hl.ch' sp.ch)) ?_
      rw [vbin_lss, wv_some, decide_eq_true (by omega), brB_true]
      have ev : vbin T .add t_int (.int .i64 (j : Int)) (.int .i64 1) = some (.int .i64 ((j + 1 : Nat) : Int)) := by
        rw [vbin_add, i64_in (by omega) (by omega)]
        rfl
      intro J64
      obtain ⟨p, e1, e2⟩ := upd_at (hl.ch' sp.ch) hu
      refine wv_of e1 ?_
      refine wv_of e2 ?_
      refine newU sp huo fun i24 G26 s26 => ?_
      have go : ∀ (x' : AVal) (G2 : Heap), Sp [] G [OwnL 35 x' ((sortP (pensF mine (opens r) (l.take (j + 1)))).map PenM.av), RowL i7 (pairW 0 0), RowL i5 (pairW 0 0), RowL i3 (wdR (t2 + sumF (paid r) (l.take (j + 1)))), RowL i1 (wdR (t1 - sumF (stays r) (l.take (j + 1))))] G2 → J64 x' G2 := by
        intro x' G2 s
        simp -zeta only [J64]
        exact wv_of ev (ih (j + 1) x' G2 (by omega) (by omega) s)
      have skip : ∀ G33, Sp [] G [RowL i24 u.av, OwnL 35 x ((sortP (pensF mine (opens r) (l.take j))).map PenM.av), RowL i7 (pairW 0 0), RowL i5 (pairW 0 0), RowL i3 (wdR (t2 + sumF (paid r) (l.take j))), RowL i1 (wdR (t1 - sumF (stays r) (l.take j)))] G33 → stays r u = false → J64 x G33 := by
        intro G33 s33 hst
        have hp : paid r u = false := by
          unfold stays at hst; unfold paid
          by_cases hk : u.kind = 1
          · rw [decide_eq_true hk, Bool.true_and] at hst ⊢
            have h3 : remS u.id r = 3 := by simpa using hst
            rw [h3]; rfl
          · rw [decide_eq_false hk]; rfl
        have ho : opens r u = false := by unfold opens; rw [hst]; rfl
        rw [hst] at n1; rw [hp] at n2; rw [ho] at n3
        refine go x G33 ?_
        rw [n1, n2, n3]
        simpa using s33.erase 0
      obtain ⟨q0, q1, q2, q3, q4, q5⟩ := upd_load (i := 0) s26 rfl huo
      refine wv_of q0 ?_
      rw [vbin_neq, wv_some]
      by_cases hk1 : u.kind = 1
      · rw [decide_eq_true hk1, Bool.not_true, brB_false]
        have hamt := ham u (List.mem_of_getElem? hu) hk1
        refine wv_of q1 ?_
        refine escrowref13_removed.use (hr.ch' s26.ch) hok2 hlen2 fun G31 c31 => ?_
        have s31 := s26.tmp c31
        rw [vbin_eql, wv_some, brB_dec]
        refine ⟨fun h2 => ?_, fun h2 => ?_⟩
        · have hst : stays r u = true := by simp [stays, hk1, h2]
          have hp : paid r u = true := by simp [paid, hk1, h2]
          have ho : opens r u = false := by simp [opens, h2]
          rw [hst] at n1; rw [hp] at n2; rw [ho] at n3
          refine wv_of (pair_load (RowL.own (i := 5) s31 rfl) T_escrowref13_Wide rfl).2.2 ?_
          refine wv_of (upd_load (i := 0) s31 rfl huo).2.2.1 ?_
          refine escrowref13_minus.use hsm.1 hamt fun G36 c36 => ?_
          have s36 := s31.tmp c36
          refine wide13_store (i := 5) s36 rfl fun G37 s37 => ?_
          refine wv_of (pair_load (RowL.own (i := 4) s37 rfl) T_escrowref13_Wide rfl).2.2 ?_
          refine wv_of (upd_load (i := 0) s37 rfl huo).2.2.1 ?_
          refine escrowref13_plus.use hsm.2 hamt fun G41 c41 => ?_
          have s41 := s37.tmp c41
          refine wide13_store (i := 4) s41 rfl fun G42 s42 => ?_
          refine go x G42 ?_
          rw [n1, n2, n3]
          simp only [Bool.false_eq_true, if_false, if_true, List.append_nil]
          have e1 : t1 - (sumF (stays r) (l.take j) + u.amount) = t1 - sumF (stays r) (l.take j) - u.amount := by omega
          have e2 : t2 + (sumF (paid r) (l.take j) + u.amount) = t2 + sumF (paid r) (l.take j) + u.amount := by omega
          rw [e1, e2]
          exact s42.erase 0
        · rw [vbin_eql, wv_some, brB_dec]
          have hp : paid r u = false := by simp [paid, h2]
          rw [hp] at n2
          refine ⟨fun h0 => ?_, fun h0 => ?_⟩
          · have hst : stays r u = true := by simp [stays, hk1, h0]
            have ho : opens r u = true := by simp [opens, hst, h2]
            rw [hst] at n1; rw [ho] at n3
            refine wv_of (pair_load (RowL.own (i := 5) s31 rfl) T_escrowref13_Wide rfl).2.2 ?_
            refine wv_of (upd_load (i := 0) s31 rfl huo).2.2.1 ?_
            refine escrowref13_minus.use hsm.1 hamt fun G47 c47 => ?_
            have s47 := s31.tmp c47
            refine wide13_store (i := 5) s47 rfl fun G48 s48 => ?_
            obtain ⟨r0, r1, r2, r3, _, _⟩ := upd_load (i := 0) s48 rfl huo
            refine wv_of r1 ?_
            refine wv_of r2 ?_
            refine wv_of r3 ?_
            refine wv_of (build_pen (p := pend mine u) (pend_ok huo)) ?_
            have hpl := pensF_len mine (opens r) (l.take j)
            rw [List.length_take] at hpl
            refine escrowref13_placed.use (OwnL.own (i := 1) s48 rfl).is (sortP_ok (pensF_ok fun u hu => hok u (List.mem_of_mem_take hu))) (pend_ok huo) (by rw [sortP_len]; omega) fun x' G54 t54 => ?_
            obtain ⟨F54, o54, k54⟩ := t54.out
            have s54 := s48.new o54 k54
            refine go x' G54 ?_
            rw [n1, n2, n3]
            simp only [Bool.false_eq_true, if_false, if_true, Int.add_zero]
            rw [sortP_snoc]
            have e1 : t1 - (sumF (stays r) (l.take j) + u.amount) = t1 - sumF (stays r) (l.take j) - u.amount := by omega
            rw [e1]
            exact (s54.erase 1).erase 1
          · have h3 : remS u.id r = 3 := by
              have := remS_vals u.id r
              omega
            exact skip _ s31 (by simp [stays, h3])
      · rw [decide_eq_false hk1, Bool.not_false, brB_true]
        exact skip _ s26 (by simp [stays, hk1])
  exact loop l.length 0 .nilSlice _ rfl (by omega) (by simpa [sumF, pensF, sortP] using s7.nilL 35)

end

end Go.Esc.M
