import Derived.Test.YtdoelihemgopcaaGreatLQd
import Derived.Test.YtdoelihemgopcaaGreatLNb
import Derived.Test.YtdoelihemgopcaaGreatLUg
/- Own work. Chapter 17: the document's Same, Valid and Write. -/
set_option linter.unusedSimpArgs false
set_option linter.unusedVariables false
set_option maxRecDepth 20000
namespace Go.Esc.M
open Go Go.Esc

section
variable {F0 : List AId} {G0 G : Heap} {ps : List LP} {Q : AVal → Heap → Prop}

theorem escrowref12_Same.gen {v w : AVal} {a b : List UpdM} (ha : IsSl 36 G v (a.map UpdM.av)) (hb : IsSl 36 G w (b.map UpdM.av)) (oa : ∀ m ∈ a, m.ok) (ob : ∀ m ∈ b, m.ok) (la : a.length ≤ 140737488351232) (lb : b.length ≤ 140737488351232)
    (hQ : Q (.bool (decide (a = b))) G) : ACalls P escrowref12_Same.n [v, w] G Q := by
  refine escrowref12_Same.sound ?_
  unfold escrowref12_Same.S
  refine wv_of (upd_len ha) ?_
  refine wv_of (upd_len hb) ?_
  rw [vbin_neq, wv_some, brB_ndec]
  refine ⟨fun h1 => ?_, fun h1 => ?_⟩
  · rw [decide_eq_false (fun h => h1 (by rw [h]))] at hQ
    exact hQ
  have hlen : a.length = b.length := by omega
  intro R hR
  have loop : ∀ (n j : Nat), a.length - j = n → j ≤ a.length → a.take j = b.take j → R [v, w, .int .i64 (j : Int)] G := by
    intro n
    induction n with
    | zero =>
      intro j hn hj he
      refine hR _ _ _ _ ?_
      refine wv_of (upd_len ha) ?_
      rw [vbin_lss, wv_some, brB_dec]
      refine ⟨fun h => absurd h (by omega), fun _ => ?_⟩
      have hjl : j = a.length := by omega
      rw [hjl, List.take_length, hlen, List.take_length] at he
      rw [decide_eq_true he] at hQ
      exact hQ
    | succ n ih =>
      intro j hn hj he
      obtain ⟨x, hx⟩ : ∃ x, a[j]? = some x := ⟨_, List.getElem?_eq_getElem (by omega)⟩
      obtain ⟨y, hy⟩ : ∃ y, b[j]? = some y := ⟨_, List.getElem?_eq_getElem (by omega)⟩
      refine hR _ _ _ _ ?_
      refine wv_of (upd_len ha) ?_
      rw [vbin_lss, wv_some, brB_dec]
      refine ⟨fun _ => ?_, fun h => absurd (by omega) h⟩
      obtain ⟨p, p1, p2⟩ := upd_at ha hx
      obtain ⟨q, q1, q2⟩ := upd_at hb hy
      refine wv_of p1 ?_
      refine wv_of p2 ?_
      refine wv_of q1 ?_
      refine wv_of q2 ?_
      rw [vbin_uneq (oa x (List.mem_of_getElem? hx)) (ob y (List.mem_of_getElem? hy)), wv_some, brB_ndec]
      refine ⟨fun h2 => ?_, fun h2 => ?_⟩
      · rw [decide_eq_false (fun h => h2 (by rw [h, hy] at hx; exact (Option.some.inj hx).symm))] at hQ
        exact hQ
      · rw [vbin_add, i64_in (by omega) (by omega), wv_some]
        refine ih (j + 1) (by omega) (by omega) ?_
        rw [List.take_add_one, List.take_add_one, he, hx, hy, h2]
  exact loop a.length 0 rfl (by omega) rfl

set_option maxHeartbeats 1000000 in
theorem escrowref17_Same.use {r r' : RcM} {v v' : AVal} {l l' : List UpdM} (hr : r.ok) (hr' : r'.ok) (hl : IsSl 36 G v (l.map UpdM.av)) (hl' : IsSl 36 G v' (l'.map UpdM.av)) (lv : Leaf v) (lv' : Leaf v') (ok : ∀ u ∈ l, u.ok) (ok' : ∀ u ∈ l', u.ok) (len : l.length ≤ 140737488351232) (len' : l'.length ≤ 140737488351232)
    (hQ : ∀ G', Ch [] G [] G' → Q (.bool (decide (r = r' ∧ l = l'))) G') : ACalls P escrowref17_Same.n [r.av v, r'.av v'] G Q := by
  refine escrowref17_Same.sound ?_
  unfold escrowref17_Same.S
  intro i1 f1
  have s1 := (Sp.nil G).row f1 (r.av v)
  intro i3 f3
  have s3 := s1.row f3 (r'.av v')
  revert s3
  generalize Heap.upd _ i3 _ = G4
  intro s3
  have hg := RowL.own (i := 1) s3 rfl
  have hk := RowL.own (i := 0) s3 rfl
  have no : ¬ (r = r' ∧ l = l') → Q (.bool false) G4 := fun h => by
    have := hQ _ s3.ch
    rwa [decide_eq_false h] at this
  refine wv_of (Rc.ld_kind hg hr lv) ?_
  refine wv_of (Rc.ld_kind hk hr' lv') ?_
  rw [vbin_eql, wv_some, brB_dec]
  refine ⟨fun e1 => ?_, fun e => no (by rintro ⟨rfl, _⟩; exact e rfl)⟩
  refine wv_of (Rc.ld_upd hg hr lv) ?_
  refine wv_of (Rc.ld_upd hk hr' lv') ?_
  rw [vbin_ueql hr.upd hr'.upd, wv_some, brB_dec]
  refine ⟨fun e2 => ?_, fun e => no (by rintro ⟨rfl, _⟩; exact e rfl)⟩
  refine wv_of (Rc.ld_index hg hr lv) ?_
  refine wv_of (Rc.ld_index hk hr' lv') ?_
  rw [vbin_eql, wv_some, brB_dec]
  refine ⟨fun e4 => ?_, fun e => no (by rintro ⟨rfl, _⟩; exact e rfl)⟩
  refine wv_of (Rc.ld_cnt hg hr lv) ?_
  refine wv_of (Rc.ld_cnt hk hr' lv') ?_
  rw [pair_eq (t := t_api_Counts), wv_some, brB_dec]
  refine ⟨fun e5 => ?_, fun e => no (by rintro ⟨rfl, _⟩; exact e ⟨rfl, rfl⟩)⟩
  refine wv_of (Rc.ld_sig hg hr lv) ?_
  refine wv_of (Rc.ld_sig hk hr' lv') ?_
  rw [hash_eql2 hr.sig hr'.sig, wv_some, brB_dec]
  refine ⟨fun e6 => ?_, fun e => no (by rintro ⟨rfl, _⟩; exact e rfl)⟩
  refine wv_of (Rc.ld_secret hg hr lv) ?_
  refine wv_of (Rc.ld_secret hk hr' lv') ?_
  rw [hash_eql2 hr.secret hr'.secret, wv_some, brB_dec]
  refine ⟨fun e7 => ?_, fun e => no (by rintro ⟨rfl, _⟩; exact e rfl)⟩
  refine wv_of (Rc.ld_point hg hr lv) ?_
  refine wv_of (Rc.ld_point hk hr' lv') ?_
  rw [hash_eql2 hr.point hr'.point, wv_some, brB_dec]
  refine ⟨fun e8 => ?_, fun e => no (by rintro ⟨rfl, _⟩; exact e rfl)⟩
  refine wv_of (Rc.ld_code hg hr lv) ?_
  refine wv_of (Rc.ld_code hk hr' lv') ?_
  rw [vbin_eql, wv_some, brB_dec]
  refine ⟨fun e9 => ?_, fun e => no (by rintro ⟨rfl, _⟩; exact e rfl)⟩
  refine wv_of (Rc.ld_upds hg hr lv) ?_
  refine wv_of (Rc.ld_upds hk hr' lv') ?_
  refine escrowref12_Same.gen (hl.ch' s3.ch) (hl'.ch' s3.ch) ok ok' len len' ?_
  have : r = r' := by
    cases r; cases r'
    simp only at e1 e2 e4 e5 e6 e7 e8 e9
    simp [e1, e2, e4, e5, e6, e7, e8, e9]
  have h := hQ _ s3.ch
  by_cases hll : l = l'
  · rw [decide_eq_true ⟨this, hll⟩] at h
    rw [decide_eq_true hll]
    exact h
  · rw [decide_eq_false hll]
    exact no (fun h => hll h.2)

/-- What the document asks of a kind, ahead of Same. -/
def preK (r : RcM) (l : List UpdM) : Bool :=
  if r.kind = 1 then validU r.upd else if r.kind = 2 then isCnt r.cntA && isCnt r.cntB else if r.kind = 3 then decide (l.length ≤ 512) && l.all validU
  else if r.kind = 5 then decide (1 ≤ r.code) && decide (r.code ≤ 65535) else true
theorem valid_pre {r : RcM} {l : List UpdM} (hk : kindK r) : validR r l = (preK r l && (decide (r = namedK r ∧ l = listK r l) && isIdx r.index)) := by
  have h16 : 1 ≤ r.kind ∧ r.kind ≤ 6 := by unfold kindK at hk; omega
  unfold validR
  rw [decide_eq_true h16, Bool.true_and]
  by_cases he : namedK r = r ∧ listK r l = l
  · have he' : r = namedK r ∧ l = listK r l := ⟨he.1.symm, he.2.symm⟩
    rw [decide_eq_true he, decide_eq_true he', Bool.true_and, Bool.and_true]
    have h0 : r.kind = 1 ∨ r.kind = 5 → isIdx r.index = true := by
      intro h
      have h1 : r.index = (namedK r).index := by rw [he.1]
      have h2 : (namedK r).index = 0 := by
        unfold namedK
        rcases h with h | h
        · rw [if_pos h]; rfl
        · rw [if_neg (by omega), if_neg (by omega), if_neg (by omega), if_neg (by omega), if_pos h]; rfl
      rw [h1, h2]; rfl
    unfold validK preK
    rcases hk with h | h | h | h | h | h
    · rw [if_pos h, if_pos h, h0 (.inl h), Bool.and_true]
    · rw [if_neg (by omega), if_pos h, if_neg (by omega), if_pos h, Bool.and_comm]
    · rw [if_neg (by omega), if_neg (by omega), if_pos h, if_neg (by omega), if_neg (by omega), if_pos h, Bool.and_comm]
    · rw [if_neg (by omega), if_neg (by omega), if_neg (by omega), if_neg (by omega), if_neg (by omega), if_neg (by omega), if_neg (by omega), if_neg (by omega), Bool.true_and]
    · rw [if_neg (by omega), if_neg (by omega), if_neg (by omega), if_pos h, if_neg (by omega), if_neg (by omega), if_neg (by omega), if_pos h, h0 (.inr h), Bool.and_true]
    · rw [if_neg (by omega), if_neg (by omega), if_neg (by omega), if_neg (by omega), if_neg (by omega), if_neg (by omega), if_neg (by omega), if_neg (by omega), Bool.true_and]
  · have he' : ¬ (r = namedK r ∧ l = listK r l) := fun h => he ⟨h.1.symm, h.2.symm⟩
    rw [decide_eq_false he, decide_eq_false he', Bool.false_and, Bool.and_false, Bool.and_false]
theorem bR0 {k : Int} : vbuild T t_api_Record [(0, .int .i64 k)] = some (({ RcM.zero with kind := k } : RcM).av .nilSlice) := rfl

set_option maxHeartbeats 4000000 in
theorem escrowref17_Valid.use {r : RcM} {l : List UpdM} {v : AVal} (hr : r.ok) (hv : Leaf v) (hl : IsSl 36 G v (l.map UpdM.av)) (hok : ∀ u ∈ l, u.ok) (hlen : l.length ≤ 140737488351232)
    (hQ : ∀ G', Ch [] G [] G' → Q (.bool (validR r l)) G') : ACalls P escrowref17_Valid.n [r.av v] G Q := by
  refine escrowref17_Valid.sound ?_
  unfold escrowref17_Valid.S
  intro i1 f1
  have s1 := (Sp.nil G).row f1 (r.av v)
  revert s1
  generalize Heap.upd _ i1 _ = G2
  intro s1
  refine wv_of (Rc.ld_kind (RowL.own (i := 0) s1 rfl) hr hv) ?_
  refine wv_of bR0 ?_
  have hz : ({ RcM.zero with kind := r.kind } : RcM).ok := ⟨hr.kind, UpdM.zero_ok, i64_0, i64_0, i64_0, rfl, rfl, rfl, i64_0⟩
  refine Rc.nw s1 hz Leaf.nil fun i5 G7 s7 => ?_
  have hg := RowL.own (i := 1) s7 rfl
  refine wv_of (Rc.ld_kind hg hr hv) ?_
  intro J112
  have last : ∀ (n : RcM) (w : AVal) (lw : List UpdM) (G' : Heap), kindK r → preK r l = true → n = namedK r → lw = listK r l → Leaf w → IsSl 36 G w (lw.map UpdM.av) → Sp [] G [RowL i5 (n.av w), RowL i1 (r.av v)] G' → J112 (.ptr i1 [] 0) (.ptr i5 [] 0) G' := by
    intro n w lw G' hk hp hn hlw lfw hsw s
    have hno : n.ok := by rw [hn]; exact namedK_ok hr
    have hokw : ∀ u ∈ lw, u.ok := by
      rw [hlw]; unfold listK
      split
      · exact hok
      · intro u hu; cases hu
    have hlenw : lw.length ≤ 140737488351232 := by
      rw [hlw]; unfold listK
      split
      · exact hlen
      · simp
    rw [valid_pre hk, hp, Bool.true_and, ← hn, ← hlw] at hQ
    simp -zeta only [J112]
    refine wv_of (Rc.ld (RowL.own (i := 1) s rfl) hr hv) ?_
    refine wv_of (Rc.ld (RowL.own (i := 0) s rfl) hno lfw) ?_
    refine escrowref17_Same.use hr hno (hl.ch' s.ch) (hsw.ch' s.ch) hv lfw hok hokw hlen hlenw fun G103 c103 => ?_
    have s103 := s.tmp c103
    have s103 : Sp [] G [RowL i5 (n.av w), RowL i1 (r.av v)] G103 := s103
    by_cases he : r = n ∧ l = lw
    · rw [decide_eq_true he, Bool.true_and] at hQ
      rw [decide_eq_true he, brB_true]
      have hg := RowL.own (i := 1) s103 rfl
      refine wv_of (v := .ptr i1 [3] 38) rfl ?_
      refine wv_of (Rc.ld_index hg hr hv) ?_
      unfold isIdx at hQ
      rw [vbin_geq, wv_some, brB_dec]
      refine ⟨fun h => ?_, fun h => ?_⟩
      · rw [decide_eq_true (show 0 ≤ r.index from h), Bool.true_and] at hQ
        refine wv_of (v := .ptr i1 [3] 38) rfl ?_
        refine wv_of (Rc.ld_index hg hr hv) ?_
        rw [vbin_leq, wv_some]
        exact hQ _ s103.ch
      · rw [decide_eq_false (show ¬ 0 ≤ r.index from h), Bool.false_and] at hQ
        exact hQ _ s103.ch
    · rw [decide_eq_false he, Bool.false_and] at hQ
      rw [decide_eq_false he, brB_false]
      exact hQ _ s103.ch
  have nop : ∀ G', kindK r → preK r l = false → Ch [] G [] G' → Q (.bool false) G' := by
    intro G' hk hp hc
    rw [valid_pre hk, hp, Bool.false_and] at hQ
    exact hQ _ hc
  have hnil : IsSl 36 G .nilSlice (([] : List UpdM).map UpdM.av) := .inr ⟨rfl, rfl⟩
  have ll : r.kind ≠ 3 → [] = listK r l := fun h => by unfold listK; rw [if_neg h]
  rw [vbin_eql, wv_some, brB_dec]
  refine ⟨fun h => ?_, fun h1 => ?_⟩
  · have hk : kindK r := .inl h
    have hp : preK r l = validU r.upd := by unfold preK; rw [if_pos h]
    refine wv_of (Rc.ld_upd hg hr hv) ?_
    refine escrowref12_Valid.use hr.upd fun G12 c12 => ?_
    have s12 := s7.tmp c12
    rw [vun_not, wv_some]
    cases hu : validU r.upd with
    | false => exact nop _ hk (by rw [hp, hu]) s12.ch
    | true =>
      rw [Bool.not_true, brB_false]
      refine wv_of (Rc.ld_upd (RowL.own (i := 1) s12 rfl) hr hv) ?_
      refine Rc.st_upd (i := 0) s12 rfl hz Leaf.nil hr.upd fun G15 s15 => ?_
      exact last _ _ [] _ hk (by rw [hp, hu]) (by unfold namedK; rw [if_pos h]; simp [h]) (ll (by omega)) Leaf.nil hnil s15
  rw [vbin_eql, wv_some, brB_dec]
  refine ⟨fun h => ?_, fun h2 => ?_⟩
  · have hk : kindK r := .inr (.inl h)
    have hp : preK r l = (isCnt r.cntA && isCnt r.cntB) := by unfold preK; rw [if_neg (by omega), if_pos h]
    unfold isCnt at hp
    intro J31
    have bad : (¬ (0 ≤ r.cntA ∧ r.cntA ≤ 2048 ∧ 0 ≤ r.cntB ∧ r.cntB ≤ 2048)) → J31 (.bool true) G7 := by
      intro hb
      simp -zeta only [J31, brB_true]
      refine nop _ hk ?_ s7.ch
      rw [hp]
      cases hx : (decide (0 ≤ r.cntA) && decide (r.cntA ≤ 2048) && (decide (0 ≤ r.cntB) && decide (r.cntB ≤ 2048))) with
      | false => rfl
      | true =>
        simp only [Bool.and_eq_true, decide_eq_true_eq] at hx
        exact absurd ⟨hx.1.1, hx.1.2, hx.2.1, hx.2.2⟩ hb
    have good : (0 ≤ r.cntA ∧ r.cntA ≤ 2048 ∧ 0 ≤ r.cntB ∧ r.cntB ≤ 2048) → J31 (.bool false) G7 := by
      intro hb
      simp -zeta only [J31, brB_false]
      refine wv_of (Rc.ld_index hg hr hv) ?_
      refine Rc.st_index (i := 0) s7 rfl hz Leaf.nil _ fun G28 s28 => ?_
      refine wv_of (Rc.ld_cnt (RowL.own (i := 1) s28 rfl) hr hv) ?_
      have hz2 : ({ RcM.zero with kind := r.kind, index := r.index } : RcM).ok := ⟨hr.kind, UpdM.zero_ok, hr.index, i64_0, i64_0, rfl, rfl, rfl, i64_0⟩
      refine Rc.st_cnt (s := { RcM.zero with kind := r.kind, index := r.index }) (i := 0) s28 rfl hz2 Leaf.nil _ _ fun G30 s30 => ?_
      exact last _ _ [] _ hk (by rw [hp, decide_eq_true hb.1, decide_eq_true hb.2.1, decide_eq_true hb.2.2.1, decide_eq_true hb.2.2.2]; rfl) (by unfold namedK; rw [if_neg (by omega), if_pos h]; simp [h]) (ll (by omega)) Leaf.nil hnil s30
    refine wv_of (Rc.ld_cntA hg hr hv) ?_
    rw [vbin_lss, wv_some, brB_dec]
    refine ⟨fun a => bad (by omega), fun a => ?_⟩
    refine wv_of (Rc.ld_cntA hg hr hv) ?_
    rw [vbin_gtr, wv_some, brB_dec]
    refine ⟨fun b => bad (by omega), fun b => ?_⟩
    refine wv_of (Rc.ld_cntB hg hr hv) ?_
    rw [vbin_lss, wv_some, brB_dec]
    refine ⟨fun c => bad (by omega), fun c => ?_⟩
    refine wv_of (Rc.ld_cntB hg hr hv) ?_
    rw [vbin_gtr, wv_some]
    by_cases d : 2048 < r.cntB
    · rw [decide_eq_true d]; exact bad (by omega)
    · rw [decide_eq_false d]; exact good (by omega)
  rw [vbin_eql, wv_some, brB_dec]
  refine ⟨fun h => ?_, fun h3 => ?_⟩
  · have hk : kindK r := .inr (.inr (.inl h))
    have hp : preK r l = (decide (l.length ≤ 512) && l.all validU) := by unfold preK; rw [if_neg (by omega), if_neg (by omega), if_pos h]
    refine wv_of (Rc.ld_upds hg hr hv) ?_
    refine wv_of (upd_len (hl.ch' s7.ch)) ?_
    rw [vbin_gtr, wv_some, brB_dec]
    refine ⟨fun a => nop _ hk (by rw [hp, decide_eq_false (by omega), Bool.false_and]) s7.ch, fun a => ?_⟩
    rw [decide_eq_true (show l.length ≤ 512 by omega), Bool.true_and] at hp
    intro R hR
    have loop : ∀ (n j : Nat) (G' : Heap), l.length - j = n → j ≤ l.length → l.all validU = (l.drop j).all validU → Sp [] G [RowL i5 (({ RcM.zero with kind := r.kind } : RcM).av .nilSlice), RowL i1 (r.av v)] G' → R [.ptr i1 [] 0, .ptr i5 [] 0, .int .i64 (j : Int)] G' := by
      intro n
      induction n with
      | zero =>
        intro j G' hn hj he s
        have hg := RowL.own (i := 1) s rfl
        refine hR _ _ _ _ ?_
        refine wv_of (v := .ptr i1 [2] 37) rfl ?_
        refine wv_of (Rc.ld_upds hg hr hv) ?_
        refine wv_of (upd_len (hl.ch' s.ch)) ?_
        rw [vbin_lss, wv_some, brB_dec]
        refine ⟨fun h => absurd h (by omega), fun _ => ?_⟩
        refine wv_of (v := .ptr i1 [3] 38) rfl ?_
        refine wv_of (Rc.ld_index hg hr hv) ?_
        refine wv_of (v := .ptr i5 [3] 38) rfl ?_
        refine Rc.st_index (i := 0) s rfl hz Leaf.nil _ fun G56 s56 => ?_
        have hz2 : ({ RcM.zero with kind := r.kind, index := r.index } : RcM).ok := ⟨hr.kind, UpdM.zero_ok, hr.index, i64_0, i64_0, rfl, rfl, rfl, i64_0⟩
        refine wv_of (v := .ptr i1 [2] 37) rfl ?_
        refine wv_of (Rc.ld_upds (RowL.own (i := 1) s56 rfl) hr hv) ?_
        refine wv_of (v := .ptr i5 [2] 37) rfl ?_
        refine Rc.st_upds (s := { RcM.zero with kind := r.kind, index := r.index }) (i := 0) s56 rfl hz2 Leaf.nil hv fun G60 s60 => ?_
        refine wv_of (v := .ptr i1 [5] 41) rfl ?_
        refine wv_of (Rc.ld_sig (RowL.own (i := 1) s60 rfl) hr hv) ?_
        refine wv_of (v := .ptr i5 [5] 41) rfl ?_
        refine Rc.st_sig (s := { RcM.zero with kind := r.kind, index := r.index }) (i := 0) s60 rfl hz2 hv hr.sig fun G64 s64 => ?_
        exact last _ _ l _ hk (by rw [hp, he, List.drop_eq_nil_of_le (by omega)]; rfl) (by unfold namedK; rw [if_neg (by omega), if_neg (by omega), if_pos h]; simp [h]) (by unfold listK; rw [if_pos h]) hv hl s64
      | succ n ih =>
        intro j G' hn hj he s
        have hg := RowL.own (i := 1) s rfl
        obtain ⟨u, hu⟩ : ∃ u, l[j]? = some u := ⟨_, List.getElem?_eq_getElem (by omega)⟩
        have huo := hok u (List.mem_of_getElem? hu)
        have hdr : l.drop j = u :: l.drop (j + 1) := by
          obtain ⟨hx, rfl⟩ := List.getElem?_eq_some_iff.1 hu
          exact List.drop_eq_getElem_cons hx
        rw [hdr, List.all_cons] at he
        refine hR _ _ _ _ ?_
        refine wv_of (v := .ptr i1 [2] 37) rfl ?_
        refine wv_of (Rc.ld_upds hg hr hv) ?_
        refine wv_of (upd_len (hl.ch' s.ch)) ?_
        rw [vbin_lss, wv_some, brB_dec]
        refine ⟨fun _ => ?_, fun h => absurd (by omega) h⟩
        refine wv_of (v := .ptr i1 [2] 37) rfl ?_
        refine wv_of (Rc.ld_upds hg hr hv) ?_
        obtain ⟨p, p1, p2⟩ := upd_at (hl.ch' s.ch) hu
        refine wv_of p1 ?_
        refine wv_of p2 ?_
        refine escrowref12_Valid.use huo fun G50 c50 => ?_
        have s50 := s.tmp c50
        rw [vun_not, wv_some]
        cases hvu : validU u with
        | false =>
          rw [Bool.not_false, brB_true]
          exact nop _ hk (by rw [hp, he, hvu, Bool.false_and]) s50.ch
        | true =>
          rw [hvu, Bool.true_and] at he
          rw [Bool.not_true, brB_false, vbin_add, i64_in (by omega) (by omega), wv_some]
          exact ih (j + 1) G50 (by omega) (by omega) he s50
    exact loop l.length 0 G7 rfl (by omega) rfl s7
  rw [vbin_eql, wv_some, brB_dec]
  refine ⟨fun h => ?_, fun h4 => ?_⟩
  · have hk : kindK r := .inr (.inr (.inr (.inl h)))
    have hp : preK r l = true := by unfold preK; rw [if_neg (by omega), if_neg (by omega), if_neg (by omega), if_neg (by omega)]
    refine wv_of (Rc.ld_index hg hr hv) ?_
    refine Rc.st_index (i := 0) s7 rfl hz Leaf.nil _ fun G67 s67 => ?_
    have hz2 : ({ RcM.zero with kind := r.kind, index := r.index } : RcM).ok := ⟨hr.kind, UpdM.zero_ok, hr.index, i64_0, i64_0, rfl, rfl, rfl, i64_0⟩
    refine wv_of (Rc.ld_secret (RowL.own (i := 1) s67 rfl) hr hv) ?_
    refine Rc.st_secret (s := { RcM.zero with kind := r.kind, index := r.index }) (i := 0) s67 rfl hz2 Leaf.nil hr.secret fun G69 s69 => ?_
    have hz3 : ({ RcM.zero with kind := r.kind, index := r.index, secret := r.secret } : RcM).ok := ⟨hr.kind, UpdM.zero_ok, hr.index, i64_0, i64_0, rfl, hr.secret, rfl, i64_0⟩
    refine wv_of (Rc.ld_point (RowL.own (i := 1) s69 rfl) hr hv) ?_
    refine Rc.st_point (s := { RcM.zero with kind := r.kind, index := r.index, secret := r.secret }) (i := 0) s69 rfl hz3 Leaf.nil hr.point fun G71 s71 => ?_
    exact last _ _ [] _ hk hp (by unfold namedK; rw [if_neg (by omega), if_neg (by omega), if_neg (by omega), if_pos h]; simp [h]) (ll (by omega)) Leaf.nil hnil s71
  rw [vbin_eql, wv_some, brB_dec]
  refine ⟨fun h => ?_, fun h5 => ?_⟩
  · have hk : kindK r := .inr (.inr (.inr (.inr (.inl h))))
    have hp : preK r l = (decide (1 ≤ r.code) && decide (r.code ≤ 65535)) := by unfold preK; rw [if_neg (by omega), if_neg (by omega), if_neg (by omega), if_pos h]
    refine wv_of (Rc.ld_code hg hr hv) ?_
    rw [vbin_lss, wv_some, brB_dec]
    refine ⟨fun a => nop _ hk (by rw [hp, decide_eq_false (by omega), Bool.false_and]) s7.ch, fun a => ?_⟩
    refine wv_of (Rc.ld_code hg hr hv) ?_
    rw [vbin_gtr, wv_some, brB_dec]
    refine ⟨fun b => nop _ hk (by rw [hp, decide_eq_false (show ¬ r.code ≤ 65535 by omega), Bool.and_false]) s7.ch, fun b => ?_⟩
    refine wv_of (Rc.ld_code hg hr hv) ?_
    refine Rc.st_code (i := 0) s7 rfl hz Leaf.nil _ fun G82 s82 => ?_
    exact last _ _ [] _ hk (by rw [hp, decide_eq_true (show 1 ≤ r.code by omega), decide_eq_true (show r.code ≤ 65535 by omega)]; rfl) (by unfold namedK; rw [if_neg (by omega), if_neg (by omega), if_neg (by omega), if_neg (by omega), if_pos h]; simp [h]) (ll (by omega)) Leaf.nil hnil s82
  rw [vbin_eql, wv_some, brB_dec]
  refine ⟨fun h => ?_, fun h6 => ?_⟩
  · have hk : kindK r := .inr (.inr (.inr (.inr (.inr h))))
    have hp : preK r l = true := by unfold preK; rw [if_neg (by omega), if_neg (by omega), if_neg (by omega), if_neg (by omega)]
    refine wv_of (Rc.ld_index hg hr hv) ?_
    refine Rc.st_index (i := 0) s7 rfl hz Leaf.nil _ fun G85 s85 => ?_
    exact last _ _ [] _ hk hp (by unfold namedK; rw [if_neg (by omega), if_neg (by omega), if_neg (by omega), if_neg (by omega), if_neg (by omega)]; simp [h]) (ll (by omega)) Leaf.nil hnil s85
  unfold validR at hQ
  rw [decide_eq_false (by omega), Bool.false_and] at hQ
  exact hQ _ s7.ch

end
end Go.Esc.M

/- Own work. Chapter 17: the document's Write. -/
set_option linter.unusedSimpArgs false
set_option linter.unusedVariables false
set_option maxRecDepth 20000
namespace Go.Esc.M
open Go Go.Esc

section
variable {F0 : List AId} {G0 G : Heap} {ps : List LP} {Q : AVal → Heap → Prop}

/-- Bytes behind a list of bytes of one's own. -/
theorem bs_app {v x : AVal} {bs xs : List UInt8} {i : Nat} {tx : TypeId} {xi : TI} {K : AVal → Heap → Prop} (htx : T tx = some xi) (hdx : xi.desc = .string ∨ ∃ e', xi.desc = .slice e') (hs : Sp F0 G0 ps G) (hi : ps[i]? = some (OwnL 1 v (bs.map u8v)))
    (hx : selems G 1 x = some (xs.map u8v)) (hl : bs.length + xs.length ≤ 100000000) (hK : ∀ v' G', Sp F0 G0 (ps.set i (OwnL 1 v' ((bs ++ xs).map u8v))) G' → K v' G') : aAppend T G t_sl_uint8 tx v x K := by
  refine growL (T := T) (ts := t_sl_uint8) (e := t_uint8) (si := ti_sl_uint8) (ie := ti_uint8) (i := i) (vs := bs.map u8v) (xs := xs.map u8v) T_sl_uint8 rfl T_uint8 rfl (by decide) htx hdx hs hi hx (uni_u8 _) (okvs_u8 _) (by rw [List.length_map, List.length_map]; simp only [ti_uint8]; omega) fun v' G' s' => ?_
  rw [← List.map_append] at s'
  exact hK v' G' s'
theorem str_app {v : AVal} {bs xs : List UInt8} {i : Nat} {K : AVal → Heap → Prop} (hs : Sp F0 G0 ps G) (hi : ps[i]? = some (OwnL 1 v (bs.map u8v)))
    (hl : bs.length + xs.length ≤ 100000000) (hK : ∀ v' G', Sp F0 G0 (ps.set i (OwnL 1 v' ((bs ++ xs).map u8v))) G' → K v' G') : aAppend T G t_sl_uint8 t_string v (.str xs) K :=
  bs_app T_string (.inl rfl) hs hi rfl hl hK
theorem sl_app {v x : AVal} {bs xs : List UInt8} {i : Nat} {K : AVal → Heap → Prop} (hs : Sp F0 G0 ps G) (hi : ps[i]? = some (OwnL 1 v (bs.map u8v))) (hx : IsSl 1 G x (xs.map u8v))
    (hl : bs.length + xs.length ≤ 100000000) (hK : ∀ v' G', Sp F0 G0 (ps.set i (OwnL 1 v' ((bs ++ xs).map u8v))) G' → K v' G') : aAppend T G t_sl_uint8 t_sl_uint8 v x K :=
  bs_app T_sl_uint8 (.inr ⟨_, rfl⟩) hs hi hx.elems hl hK
theorem slice_rc {i : AId} {r : RcM} {v : AVal} (h : r.ok) (hv : Leaf v) (hg : G i = some (.own (r.av v))) :
    (∃ x, vslice T t_api_Hash (.ptr i [5] 41) none none none = some x ∧ IsSl 1 G x (r.sig.map u8v)) ∧ (∃ x, vslice T t_api_Hash (.ptr i [6] 73) none none none = some x ∧ IsSl 1 G x (r.secret.map u8v)) ∧ (∃ x, vslice T t_api_Hash (.ptr i [7] 105) none none none = some x ∧ IsSl 1 G x (r.point.map u8v)) := by
  have e1 : T t_api_Hash = some ti_api_Hash := T_api_Hash
  have e2 : ti_api_Hash.desc = .array 32 t_uint8 := rfl
  have u1 := UpdM.sz h.upd
  have h1 := szh h.sig
  have h2 := szh h.secret
  refine ⟨⟨.slice i [5] 0 41 32 32, by simp [vslice, e1, e2, T_uint8, sbounds, sbound, ti_uint8], .inl ⟨_, _, _, _, _, _, rfl, ?_⟩⟩, ⟨.slice i [6] 0 73 32 32, by simp [vslice, e1, e2, T_uint8, sbounds, sbound, ti_uint8], .inl ⟨_, _, _, _, _, _, rfl, ?_⟩⟩, ⟨.slice i [7] 0 105 32 32, by simp [vslice, e1, e2, T_uint8, sbounds, sbound, ti_uint8], .inl ⟨_, _, _, _, _, _, rfl, ?_⟩⟩⟩
  · have ha : arrAt G 1 i [5] 0 41 = some (r.sig.map u8v) := by
      simp [arrAt, vsub, hg, treeOf, RcM.av, RcM.cs, sub, szs, Esc.sz, uni_u8, u1, hv.1]
    rw [selems, ha]
    simp [h.sig, List.take_of_length_le]
  · have ha : arrAt G 1 i [6] 0 73 = some (r.secret.map u8v) := by
      simp [arrAt, vsub, hg, treeOf, RcM.av, RcM.cs, sub, szs, Esc.sz, uni_u8, u1, hv.1, h1]
    rw [selems, ha]
    simp [h.secret, List.take_of_length_le]
  · have ha : arrAt G 1 i [7] 0 105 = some (r.point.map u8v) := by
      simp [arrAt, vsub, hg, treeOf, RcM.av, RcM.cs, sub, szs, Esc.sz, uni_u8, u1, hv.1, h1, h2]
    rw [selems, ha]
    simp [h.point, List.take_of_length_le]
theorem be1_u8 {n : Nat} (h : n ≤ 255) : [AVal.int .u8 (n : Nat)] = (be 1 n).map u8v := by
  simp [be, u8v]; omega

set_option maxHeartbeats 4000000 in
theorem escrowref17_Write.use {r : RcM} {l : List UpdM} {v : AVal} (hr : r.ok) (hv : Leaf v) (hl : IsSl 36 G v (l.map UpdM.av)) (hok : ∀ u ∈ l, u.ok) (hlen : l.length ≤ 140737488351232)
    (hQ : ∀ G', Ch [] G [] G' → Q (.tuple [.str (wrR r l).1, .int .i64 (wrR r l).2]) G') : ACalls P escrowref17_Write.n [r.av v] G Q := by
  refine escrowref17_Write.sound ?_
  unfold escrowref17_Write.S
  unfold wrR at hQ
  intro i1 f1
  have s1 := (Sp.nil G).row f1 (r.av v)
  revert s1
  generalize Heap.upd _ i1 _ = G2
  intro s1
  refine wv_of (Rc.ld (RowL.own (i := 0) s1 rfl) hr hv) ?_
  refine escrowref17_Valid.use hr hv (hl.ch' s1.ch) hok hlen fun G5 c5 => ?_
  have s5 := s1.tmp c5
  rw [vun_not, wv_some]
  cases hval : validR r l with
  | false =>
    rw [hval] at hQ
    exact hQ _ s5.ch
  | true =>
  rw [hval] at hQ
  simp only [cond_true] at hQ
  rw [Bool.not_true, brB_false]
  obtain ⟨hk16, hvk, hnk, hlk⟩ := valR_spec hval
  have hk := kind_of hk16
  refine wv_of (Rc.ld_kind (RowL.own (i := 0) s5 rfl) hr hv) ?_
  refine wv_of (u8_conv _ (by omega) (by omega)) ?_
  refine buildL (T := T) (ts := t_sl_uint8) (e := t_uint8) (si := ti_sl_uint8) (ie := ti_uint8) (n := 1) (l := [.int .u8 (r.kind.toNat : Nat)]) T_sl_uint8 rfl T_uint8 rfl rfl rfl rfl (by simp [Esc.sz, ti_uint8]) (by decide) s5 fun v9 G10 s10 => ?_
  rw [be1_u8 (by omega)] at s10
  have s10 : Sp [] G [OwnL 1 v9 ((be 1 r.kind.toNat).map u8v), RowL i1 (r.av v)] G10 := s10
  have lk : (be 1 r.kind.toNat).length = 1 := length_be _ _
  refine wv_of (Rc.ld_index (RowL.own (i := 1) s10 rfl) hr hv) ?_
  rw [vconv_int T_int64 T_uint64 rfl, wrap_bits64, wv_some]
  refine escrowref03_Bytes.use (k := 8) (by omega) fun G14 c14 => ?_
  have s14 := s10.tmp c14
  have s14 : Sp [] G [OwnL 1 v9 ((be 1 r.kind.toNat).map u8v), RowL i1 (r.av v)] G14 := s14
  refine wv_of (Rc.ld_kind (RowL.own (i := 1) s14 rfl) hr hv) ?_
  intro J104
  have out : ∀ (x : AVal) (G' : Heap), Sp [] G [OwnL 1 x ((bytesR r l).map u8v), RowL i1 (r.av v)] G' → J104 x G' := by
    intro x G' s
    simp -zeta only [J104]
    refine wv_of (cvt (OwnL.own (i := 0) s rfl).is) ?_
    exact hQ _ s.ch
  unfold bytesR bytesK at out
  unfold validK at hvk
  have li : (be 8 (bits64 r.index)).length = 8 := length_be _ _
  rw [vbin_eql, wv_some, brB_dec]
  refine ⟨fun h => ?_, fun h1 => ?_⟩
  · rw [if_pos h] at out hvk
    refine wv_of (Rc.ld_upd (RowL.own (i := 1) s14 rfl) hr hv) ?_
    refine escrowref12_Write.use hr.upd fun G19 c19 => ?_
    have s19 := s14.tmp c19
    rw [show writeR r.upd = (bytesU r.upd, 0) by unfold writeR; rw [hvk]; rfl]
    refine wv_of (tv0 _ _) ?_
    refine wv_of (tv1 _ _) ?_
    have := bytesU_len hvk hr.upd
    exact str_app (i := 0) (xs := bytesU r.upd) s19 rfl (by omega) fun v' G' s' => out _ _ s'
  rw [if_neg h1] at out hvk
  rw [vbin_eql, wv_some, brB_dec]
  refine ⟨fun h => ?_, fun h2 => ?_⟩
  · rw [if_pos h] at out hvk
    simp only [Bool.and_eq_true, isIdx, isCnt, decide_eq_true_eq] at hvk
    obtain ⟨⟨_, _⟩, ⟨a1, a2⟩, a3, a4⟩ := hvk
    refine str_app (i := 0) s14 rfl (by omega) fun v25 G26 s26 => ?_
    refine wv_of (Rc.ld_cntA (RowL.own (i := 1) s26 rfl) hr hv) ?_
    rw [vconv_int T_int T_uint64 rfl, wrap_bits64, wv_some]
    refine escrowref03_Bytes.use (k := 2) (by omega) fun G30 c30 => ?_
    rw [bits64_nat (n := r.cntA) (by omega) (by omega)]
    have s30 := s26.tmp c30
    refine str_app (i := 0) s30 rfl (by simp only [List.length_append, length_be]; omega) fun v31 G32 s32 => ?_
    refine wv_of (Rc.ld_cntB (RowL.own (i := 1) s32 rfl) hr hv) ?_
    rw [vconv_int T_int T_uint64 rfl, wrap_bits64, wv_some]
    refine escrowref03_Bytes.use (k := 2) (by omega) fun G36 c36 => ?_
    rw [bits64_nat (n := r.cntB) (by omega) (by omega)]
    have s36 := s32.tmp c36
    refine str_app (i := 0) s36 rfl (by simp only [List.length_append, length_be]; omega) fun v37 G38 s38 => ?_
    simp only [List.append_assoc] at s38
    exact out _ _ s38
  rw [if_neg h2] at out hvk
  rw [vbin_eql, wv_some, brB_dec]
  refine ⟨fun h => ?_, fun h3 => ?_⟩
  · rw [if_pos h] at out hvk
    simp only [Bool.and_eq_true, isIdx, decide_eq_true_eq, List.all_eq_true] at hvk
    obtain ⟨⟨_, _⟩, a1, a2⟩ := hvk
    refine str_app (i := 0) s14 rfl (by omega) fun v40 G41 s41 => ?_
    refine wv_of (Rc.ld_upds (RowL.own (i := 1) s41 rfl) hr hv) ?_
    refine wv_of (upd_len (hl.ch' s41.ch)) ?_
    rw [vconv_int T_int T_uint64 rfl, wrap_bits64, wv_some]
    refine escrowref03_Bytes.use (k := 2) (by omega) fun G46 c46 => ?_
    rw [bits64_nat (n := (l.length : Nat)) (by omega) (by omega), Int.toNat_natCast]
    have s46 := s41.tmp c46
    refine str_app (i := 0) s46 rfl (by simp only [List.length_append, length_be]; omega) fun v47 G48 s48 => ?_
    intro R hR
    obtain ⟨B, hB⟩ : ∃ B, B = be 1 r.kind.toNat ++ be 8 (bits64 r.index) ++ be 2 l.length := ⟨_, rfl⟩
    have lB : B.length ≤ 20 := by rw [hB]; simp only [List.length_append, length_be]; omega
    have s48 : Sp [] G [OwnL 1 v47 ((be 1 r.kind.toNat ++ be 8 (bits64 r.index) ++ be 2 l.length).map u8v), RowL i1 (r.av v)] G48 := s48
    rw [← hB] at s48
    have loop : ∀ (n j : Nat) (x : AVal) (G' : Heap), l.length - j = n → j ≤ l.length → Sp [] G [OwnL 1 x ((B ++ bytesL (l.take j)).map u8v), RowL i1 (r.av v)] G' →
        R [.ptr i1 [] 0, x, .int .i64 (j : Int)] G' := by
      intro n
      induction n with
      | zero =>
        intro j x G' hn hj s
        have hg := RowL.own (i := 1) s rfl
        refine hR _ _ _ _ ?_
        refine wv_of (v := .ptr i1 [2] 37) rfl ?_
        refine wv_of (Rc.ld_upds hg hr hv) ?_
        refine wv_of (upd_len (hl.ch' s.ch)) ?_
        rw [vbin_lss, wv_some, brB_dec]
        refine ⟨fun h => absurd h (by omega), fun _ => ?_⟩
        have hjl : j = l.length := by omega
        rw [hjl, List.take_length] at s
        have hbl := bytesL_len a2 hok
        refine wv_of (v := .ptr i1 [5] 41) rfl ?_
        obtain ⟨y, hy, hys⟩ := (slice_rc hr hv (RowL.own (i := 1) s rfl)).1
        refine wv_of hy ?_
        refine sl_app (i := 0) s rfl hys (by rw [List.length_append, hr.sig]; omega) fun v71 G72 s72 => ?_
        rw [hB] at s72
        simp only [List.append_assoc] at s72
        exact out _ _ s72
      | succ n ih =>
        intro j x G' hn hj s
        have hg := RowL.own (i := 1) s rfl
        obtain ⟨u, hu⟩ : ∃ u, l[j]? = some u := ⟨_, List.getElem?_eq_getElem (by omega)⟩
        have hm := List.mem_of_getElem? hu
        have huo := hok u hm
        have hbl := bytesL_len (l := l.take j) (fun u hu => a2 u (List.mem_of_mem_take hu)) (fun u hu => hok u (List.mem_of_mem_take hu))
        rw [List.length_take] at hbl
        refine hR _ _ _ _ ?_
        refine wv_of (v := .ptr i1 [2] 37) rfl ?_
        refine wv_of (Rc.ld_upds hg hr hv) ?_
        refine wv_of (upd_len (hl.ch' s.ch)) ?_
        rw [vbin_lss, wv_some, brB_dec]
        refine ⟨fun _ => ?_, fun h => absurd (by omega) h⟩
        refine wv_of (v := .ptr i1 [2] 37) rfl ?_
        refine wv_of (Rc.ld_upds hg hr hv) ?_
        obtain ⟨p, p1, p2⟩ := upd_at (hl.ch' s.ch) hu
        refine wv_of p1 ?_
        refine wv_of p2 ?_
        refine escrowref12_Write.use huo fun G63 c63 => ?_
        have s63 := s.tmp c63
        have hvu := a2 u hm
        rw [show writeR u = (bytesU u, 0) by unfold writeR; rw [hvu]; rfl]
        refine wv_of (tv0 _ _) ?_
        refine wv_of (tv1 _ _) ?_
        have := bytesU_len hvu huo
        refine str_app (i := 0) (xs := bytesU u) s63 rfl (by rw [List.length_append]; omega) fun v66 G67 s67 => ?_
        rw [vbin_add, i64_in (by omega) (by omega), wv_some]
        refine ih (j + 1) v66 G67 (by omega) (by omega) ?_
        have e : bytesL (l.take (j + 1)) = bytesL (l.take j) ++ bytesU u := by
          unfold bytesL
          rw [List.take_add_one, hu]
          simp
        rw [e, ← List.append_assoc]
        exact s67
    exact loop l.length 0 v47 G48 rfl (by omega) (by rw [List.take_zero]; show Sp [] G [OwnL 1 v47 ((B ++ []).map u8v), _] G48; rw [List.append_nil]; exact s48)
  rw [if_neg h3] at out hvk
  rw [vbin_eql, wv_some, brB_dec]
  refine ⟨fun h => ?_, fun h4 => ?_⟩
  · rw [if_pos h] at out
    refine str_app (i := 0) s14 rfl (by omega) fun v74 G75 s75 => ?_
    obtain ⟨y, hy, hys⟩ := (slice_rc hr hv (RowL.own (i := 1) s75 rfl)).2.1
    refine wv_of hy ?_
    refine sl_app (i := 0) s75 rfl hys (by simp only [List.length_append, length_be, hr.secret]; omega) fun v77 G78 s78 => ?_
    obtain ⟨z, hz, hzs⟩ := (slice_rc hr hv (RowL.own (i := 1) s78 rfl)).2.2
    refine wv_of hz ?_
    refine sl_app (i := 0) s78 rfl hzs (by simp only [List.length_append, length_be, hr.secret, hr.point]; omega) fun v80 G81 s81 => ?_
    simp only [List.append_assoc] at s81
    exact out _ _ s81
  rw [if_neg h4] at out
  rw [vbin_eql, wv_some, brB_dec]
  refine ⟨fun h => ?_, fun h5 => ?_⟩
  · rw [if_pos h] at out hvk
    simp only [Bool.and_eq_true, decide_eq_true_eq] at hvk
    refine wv_of (Rc.ld_code (RowL.own (i := 1) s14 rfl) hr hv) ?_
    rw [vconv_int T_int T_uint64 rfl, wrap_bits64, wv_some]
    refine escrowref03_Bytes.use (k := 2) (by omega) fun G86 c86 => ?_
    rw [bits64_nat (n := r.code) (by omega) (by omega)]
    have s86 := s14.tmp c86
    exact str_app (i := 0) s86 rfl (by simp only [length_be]; omega) fun v' G' s' => out _ _ s'
  rw [if_neg h5] at out
  exact str_app (i := 0) s14 rfl (by omega) fun v' G' s' => out _ _ s'

end
end Go.Esc.M

/- Own work. Chapter 17: Read, in the program. -/
set_option linter.unusedSimpArgs false
set_option linter.unusedVariables false
set_option maxRecDepth 20000
namespace Go.Esc.M
open Go Go.Esc

def readL : Nat → List UInt8 → Option (List UpdM × List UInt8)
  | 0, b => some ([], b)
  | n + 1, b => if (readU b).2.2 = 0 then (readL n (b.drop (readU b).2.1.toNat)).map fun x => ((readU b).1 :: x.1, x.2) else none
structure ParM where
  x : RcM
  l : List UpdM
  st : List UInt8 × Int
  ok : Bool
def iOf (l : List UInt8) : Int := IntKind.i64.wrap (num l : Nat)
def kOf (b : List UInt8) : Nat := num (takes (b, 0) 1).1
def s1Of (b : List UInt8) : List UInt8 × Int := (takes (b, 0) 1).2
def rk (k : Int) : RcM := { RcM.zero with kind := k }
def par1 (s : List UInt8 × Int) : ParM :=
  match readL 1 s.1 with
  | some ([u], t) => ⟨{ rk 1 with upd := u }, [], (t, 0), true⟩
  | _ => ⟨rk 1, [], s, false⟩
def par2 (s : List UInt8 × Int) : ParM :=
  ⟨{ rk 2 with index := iOf (takes s 8).1, cntA := (num (takes (takes s 8).2 2).1 : Nat), cntB := (num (takes (takes (takes s 8).2 2).2 2).1 : Nat) }, [], (takes (takes (takes s 8).2 2).2 2).2, true⟩
def par3 (s : List UInt8 × Int) : ParM :=
  let c := takes (takes s 8).2 2
  if c.2.2 = 0 ∧ num c.1 ≤ 512 then
    match readL (num c.1) c.2.1 with
    | some (l, t) => ⟨{ rk 3 with index := iOf (takes s 8).1, sig := fill 32 (takes (t, 0) 32).1 }, l, (takes (t, 0) 32).2, true⟩
    | none => ⟨{ rk 3 with index := iOf (takes s 8).1 }, [], c.2, false⟩
  else ⟨{ rk 3 with index := iOf (takes s 8).1 }, [], c.2, false⟩
def par4 (s : List UInt8 × Int) : ParM :=
  ⟨{ rk 4 with index := iOf (takes s 8).1, secret := fill 32 (takes (takes s 8).2 32).1, point := fill 32 (takes (takes (takes s 8).2 32).2 32).1 }, [], (takes (takes (takes s 8).2 32).2 32).2, true⟩
def par5 (s : List UInt8 × Int) : ParM := ⟨{ rk 5 with code := (num (takes s 2).1 : Nat) }, [], (takes s 2).2, true⟩
def par6 (s : List UInt8 × Int) : ParM := ⟨{ rk 6 with index := iOf (takes s 8).1 }, [], (takes s 8).2, true⟩
def parR (b : List UInt8) : ParM :=
  if kOf b = 1 then par1 (s1Of b) else if kOf b = 2 then par2 (s1Of b) else if kOf b = 3 then par3 (s1Of b) else if kOf b = 4 then par4 (s1Of b)
  else if kOf b = 5 then par5 (s1Of b) else if kOf b = 6 then par6 (s1Of b) else ⟨rk (kOf b : Nat), [], s1Of b, true⟩
structure OutM where
  x : RcM
  l : List UpdM
  n : Int
  e : Int
def readR (b : List UInt8) : OutM :=
  let p := parR b
  if p.ok = true ∧ p.st.2 = 0 ∧ validR p.x p.l = true then ⟨p.x, p.l, ((b.length - p.st.1.length : Nat) : Int), 0⟩ else ⟨RcM.zero, [], 0, 170⟩

theorem takes_le (s : List UInt8 × Int) (n : Int) : (takes s n).2.1.length ≤ s.1.length := by
  unfold takes
  split
  · split
    · simp
    · rw [List.length_drop]; omega
  · exact Nat.le_refl _
theorem s1_le (b : List UInt8) : (s1Of b).1.length ≤ b.length := takes_le (b, 0) 1
theorem kOf_lt (b : List UInt8) : kOf b < 256 := num_lt_of (k := 1) (length_takes _)
theorem readL_le : ∀ (n : Nat) {b : List UInt8} {l : List UpdM} {t : List UInt8}, readL n b = some (l, t) → t.length ≤ b.length ∧ l.length = n
  | 0, b, l, t, h => by
    rw [readL] at h
    injection h with h
    injection h with h1 h2
    subst h1 h2
    exact ⟨Nat.le_refl _, rfl⟩
  | n + 1, b, l, t, h => by
    rw [readL] at h
    split at h
    · cases hr : readL n (b.drop (readU b).2.1.toNat) with
      | none => rw [hr] at h; cases h
      | some x =>
        obtain ⟨l', t'⟩ := x
        rw [hr] at h
        injection h with h
        injection h with h1 h2
        simp only at h1 h2
        subst h1 h2
        have := readL_le n hr
        rw [List.length_drop] at this
        exact ⟨by omega, by simp [this.2]⟩
    · cases h
theorem readL_ok : ∀ (n : Nat) {b : List UInt8} {l : List UpdM} {t : List UInt8}, b.length ≤ 9223372036854775807 → readL n b = some (l, t) → ∀ u ∈ l, u.ok
  | 0, b, l, t, hb, h => by
    rw [readL] at h
    injection h with h
    injection h with h1 h2
    subst h1
    intro u hu; cases hu
  | n + 1, b, l, t, hb, h => by
    rw [readL] at h
    split at h
    · cases hr : readL n (b.drop (readU b).2.1.toNat) with
      | none => rw [hr] at h; cases h
      | some x =>
        obtain ⟨l', t'⟩ := x
        rw [hr] at h
        injection h with h
        injection h with h1 h2
        simp only at h1 h2
        subst h1 h2
        have ih := readL_ok n (by rw [List.length_drop]; omega) hr
        intro u hu
        rcases List.mem_cons.1 hu with rfl | hu
        · exact readU_ok hb
        · exact ih u hu
    · cases h
theorem iOf_ok (l : List UInt8) : I64 (iOf l) := hw64 _
theorem n2_lt (s : List UInt8 × Int) : num (takes s 2).1 < 65536 := num_lt_of (k := 2) (length_takes _)
theorem n2_i64 (s : List UInt8 × Int) : I64 ((num (takes s 2).1 : Nat) : Int) := by
  have := n2_lt s
  exact i64_n _ (by omega) (by omega)
theorem fill_tk (s : List UInt8 × Int) : (fill 32 (takes s 32).1).length = 32 := length_fill (length_takes _)
theorem rk_ok {k : Int} (h : I64 k) : (rk k).ok := ⟨h, UpdM.zero_ok, i64_0, i64_0, i64_0, rfl, rfl, rfl, i64_0⟩

section
variable {F0 : List AId} {G0 G : Heap} {ps : List LP} {Q : AVal → Heap → Prop}

theorem sp_swap {p q : LP} (h : Sp F0 G0 (p :: q :: ps) G) : Sp F0 G0 (q :: p :: ps) G := by
  obtain ⟨Fs, h1, h2⟩ := h
  match Fs, h1 with
  | E :: E' :: Fs, ⟨a, b, c, d, e⟩ =>
    refine ⟨E' :: E :: Fs, ⟨c, fun j hj hm => ?_, a, fun j hj hm => ?_, e⟩, h2.ro, h2.others, fun j hj => h2.row j ?_⟩
    · simp only [List.flatten_cons, List.mem_append] at hm
      rcases hm with hm | hm
      · exact b j hm (by simp only [List.flatten_cons, List.mem_append]; exact .inl hj)
      · exact d j hj hm
    · exact b j hj (by simp only [List.flatten_cons, List.mem_append]; exact .inr hm)
    · simp only [List.flatten_cons, List.mem_append] at hj ⊢
      rcases hj with hj | hj | hj
      · exact .inr (.inl hj)
      · exact .inl hj
      · exact .inr (.inr hj)
theorem u_loc0 {x y z : AVal} : vextract (.tuple [x, y, z]) 0 = some x ∧ vextract (.tuple [x, y, z]) 1 = some y ∧ vextract (.tuple [x, y, z]) 2 = some z := ⟨rfl, rfl, rfl⟩

set_option maxHeartbeats 2000000 in
theorem record_updates.use {b : List UInt8} {n : Nat} (hbl : b.length ≤ 9223372036854775807) (hn : n ≤ 65535)
    (hno : readL n b = none → ∀ G', Ch [] G [] G' → Q (.tuple [.nilSlice, .str [], .bool false]) G')
    (hQ : ∀ l t w G', readL n b = some (l, t) → Sp [] G [OwnL 36 w (l.map UpdM.av)] G' → Q (.tuple [w, .str t, .bool true]) G') : ACalls P record_updates.n [.str b, .int .i64 (n : Nat)] G Q := by
  refine record_updates.sound ?_
  unfold record_updates.S
  intro R hR
  have loop : ∀ (m j : Nat) (c : List UInt8) (acc : List UpdM) (w : AVal) (G' : Heap), n - j = m → j ≤ n → acc.length = j → c.length ≤ 9223372036854775807 → readL n b = (readL m c).map (fun x => (acc ++ x.1, x.2)) → Sp [] G [OwnL 36 w (acc.map UpdM.av)] G' →
      R [.str c, w, .int .i64 (n : Nat), .int .i64 (j : Int)] G' := by
    intro m
    induction m with
    | zero =>
      intro j c acc w G' hm hj ha hc he s
      refine hR _ _ _ _ _ ?_
      rw [vbin_lss, wv_some, brB_dec]
      refine ⟨fun h => absurd h (by omega), fun _ => ?_⟩
      rw [readL] at he
      simp only [Option.map_some, List.append_nil] at he
      exact hQ acc c w G' he s
    | succ m ih =>
      intro j c acc w G' hm hj ha hc he s
      refine hR _ _ _ _ _ ?_
      rw [vbin_lss, wv_some, brB_dec]
      refine ⟨fun _ => ?_, fun h => absurd (by omega) h⟩
      refine update_Read.use hc fun G9 c9 => ?_
      have s9 := s.tmp c9
      have huo := readU_ok hc
      have hcs := readU_cases hc
      rw [readL] at he
      obtain ⟨X, hX⟩ : ∃ X, X = readU c := ⟨_, rfl⟩
      rw [← hX] at he huo hcs ⊢
      refine wv_of (u_loc0).1 ?_
      refine wv_of (u_loc0).2.1 ?_
      refine wv_of (u_loc0).2.2 ?_
      refine newU s9 huo fun i13 G15 s15 => ?_
      rw [vbin_neq, wv_some, brB_ndec]
      refine ⟨fun h1 => ?_, fun h1 => ?_⟩
      · rw [if_neg h1] at he
        exact hno he _ s15.ch
      · rw [if_pos h1] at he
        have hk : ∃ k : Nat, X.2.1 = (k : Int) ∧ k ≤ c.length := by
          rcases hcs with ⟨e, he2, hx⟩ | ⟨u, k, hx, _, _, _, hk, _⟩
          · rw [hx] at h1; simp only at h1; omega
          · exact ⟨k, by rw [hx], hk⟩
        clear hcs
        obtain ⟨k, hk1, hk2⟩ := hk
        refine wv_of (upd_load (i := 0) s15 rfl huo).2.2.2.2.2 ?_
        refine growV (T := T) (ts := t_sl_api_Update) (e := t_api_Update) (si := ti_sl_api_Update) (ie := ti_api_Update) (i := 1) (vs := acc.map UpdM.av) T_sl_api_Update rfl T_api_Update rfl (by decide) s15 rfl (UpdM.sz huo) (UpdM.okv _) (by decide) (by rw [List.length_map]; simp only [ti_api_Update]; omega) fun w' G21 s21 => ?_
        refine wv_of (str_drop (by rw [hk1]; omega) (by rw [hk1]; omega)) ?_
        rw [vbin_add, i64_in (by omega) (by omega), wv_some]
        rw [hk1, Int.toNat_natCast] at he ⊢
        refine ih (j + 1) (c.drop k) (acc ++ [X.1]) w' G21 (by omega) (by omega) (by simp [ha]) (by rw [List.length_drop]; omega) ?_ ?_
        · rw [he, Option.map_map]
          congr 1
          funext x
          simp
        · have := s21.erase 0
          rw [List.map_append]
          exact this
  refine loop n 0 b [] .nilSlice G rfl (by omega) rfl hbl ?_ ((Sp.nil G).nilL 36)
  cases readL n b <;> simp

set_option maxHeartbeats 8000000 in
theorem record_Read.use {b : List UInt8} (hbl : b.length ≤ 140737488351232)
    (hQ : ∀ w G', Sp [] G [OwnL 36 w ((readR b).l.map UpdM.av)] G' → Q (.tuple [(readR b).x.av w, .int .i64 (readR b).n, .int .i64 (readR b).e]) G') : ACalls P record_Read.n [.str b] G Q := by
  refine record_Read.sound ?_
  unfold record_Read.S
  rw [zRec]
  unfold readR at hQ
  intro i1 f1
  have s1 := (Sp.nil G).row f1 (RcM.zero.av .nilSlice)
  refine cursor_Open.use fun ir G4 r4 c4 => ?_
  have s4 := s1.new (p := RdL ir (b, 0)) ⟨r4, rfl⟩ c4
  refine rd (i := 0) s4 rfl (fun h k => cursor_Reader_U8.use h k) fun G6 s6 => ?_
  have hk8 := kOf_lt b
  have hsl := s1_le b
  have s6 : Sp [] G [RdL ir (s1Of b), RowL i1 (RcM.zero.av .nilSlice)] G6 := s6
  show wv (vconv T G6 t_uint8 t_int (.int .u8 ((kOf b : Nat) : Int))) _
  unfold parR at hQ
  obtain ⟨k, hkk⟩ : ∃ k, k = kOf b := ⟨_, rfl⟩
  obtain ⟨S, hS⟩ : ∃ S, S = s1Of b := ⟨_, rfl⟩
  rw [← hkk] at hk8 hQ ⊢
  rw [← hS] at hsl hQ s6
  rw [vconv_int T_uint8 T_int rfl, i64_in (by omega) (by omega), wv_some]
  have hz : (rk (k : Nat)).ok := rk_ok (i64_n _ (by omega) (by omega))
  refine wv_of (v := (rk (k : Nat)).av .nilSlice) bR0 ?_
  refine Rc.nw s6 hz Leaf.nil fun i9 G11 s11 => ?_
  refine wv_of (Rc.ld_kind (RowL.own (i := 0) s11 rfl) hz Leaf.nil) ?_
  intro J126
  have fin : ∀ (p : ParM) (q : ParM) (ir' : AId) (w : AVal) (G' : Heap), q = p → p.x.ok → (∀ u ∈ p.l, u.ok) → p.l.length ≤ 140737488351232 → p.st.1.length ≤ b.length →
      (∀ w G', Sp [] G [OwnL 36 w ((if p.ok = true ∧ p.st.2 = 0 ∧ validR p.x p.l = true then (⟨p.x, p.l, ((b.length - p.st.1.length : Nat) : Int), 0⟩ : OutM) else ⟨RcM.zero, [], 0, 170⟩).l.map UpdM.av)] G' → Q (.tuple [(if p.ok = true ∧ p.st.2 = 0 ∧ validR p.x p.l = true then (⟨p.x, p.l, ((b.length - p.st.1.length : Nat) : Int), 0⟩ : OutM) else ⟨RcM.zero, [], 0, 170⟩).x.av w, .int .i64 (if p.ok = true ∧ p.st.2 = 0 ∧ validR p.x p.l = true then (⟨p.x, p.l, ((b.length - p.st.1.length : Nat) : Int), 0⟩ : OutM) else ⟨RcM.zero, [], 0, 170⟩).n, .int .i64 (if p.ok = true ∧ p.st.2 = 0 ∧ validR p.x p.l = true then (⟨p.x, p.l, ((b.length - p.st.1.length : Nat) : Int), 0⟩ : OutM) else ⟨RcM.zero, [], 0, 170⟩).e]) G') →
      Sp [] G [RdL ir' p.st, OwnL 36 w (p.l.map UpdM.av), RowL i9 (p.x.av w), RowL i1 (RcM.zero.av .nilSlice)] G' → J126 (.ptr ir' [] 0) (.bool p.ok) G' := by
    intro p q ir' w G' _ hx hl hll hst hQ s
    have lw := (OwnL.own (i := 1) s rfl).leaf
    simp -zeta only [J126]
    intro J125
    have bad : ∀ G', ¬ (p.ok = true ∧ p.st.2 = 0 ∧ validR p.x p.l = true) → Sp [] G [RdL ir' p.st, OwnL 36 w (p.l.map UpdM.av), RowL i9 (p.x.av w), RowL i1 (RcM.zero.av .nilSlice)] G' → J125 (.bool true) G' := by
      intro G' hb s
      simp only [if_neg hb] at hQ
      simp -zeta only [J125, brB_true]
      refine wv_of build_rc0 ?_
      refine Rc.st (i := 3) s rfl RcM.zero_ok Leaf.nil RcM.zero_ok Leaf.nil fun G115 s115 => ?_
      refine wv_of (Rc.ld (RowL.own (i := 3) s115 rfl) RcM.zero_ok Leaf.nil) ?_
      exact hQ .nilSlice _ (((((s115.erase 0).erase 0).erase 0).erase 0).nilL 36)
    have good : ∀ G', (p.ok = true ∧ p.st.2 = 0 ∧ validR p.x p.l = true) → Sp [] G [RdL ir' p.st, OwnL 36 w (p.l.map UpdM.av), RowL i9 (p.x.av w), RowL i1 (RcM.zero.av .nilSlice)] G' → J125 (.bool false) G' := by
      intro G' hb s
      simp only [if_pos hb] at hQ
      simp -zeta only [J125, brB_false]
      refine wv_of (Rc.ld (RowL.own (i := 2) s rfl) hx lw) ?_
      refine wv_of (v := .int .i64 (b.length : Nat)) rfl ?_
      refine cursor_Reader_Rest.use (RdL.rd (i := 0) s rfl) ?_
      refine ⟨⟨Rc.ld (RowL.own (i := 2) s rfl) hx lw, trivial⟩, ?_⟩
      refine wv_of (v := .int .i64 (p.st.1.length : Nat)) rfl ?_
      rw [vbin_sub, i64_in (by omega) (by omega), wv_some]
      refine Rc.st (i := 3) s rfl RcM.zero_ok Leaf.nil hx lw fun G123 s123 => ?_
      refine wv_of (Rc.ld (RowL.own (i := 3) s123 rfl) hx lw) ?_
      have := hQ w _ (((s123.erase 0).erase 1).erase 1)
      rw [show ((b.length : Nat) : Int) - ((p.st.1.length : Nat) : Int) = ((b.length - p.st.1.length : Nat) : Int) by omega]
      exact this
    rw [vun_not, wv_some]
    cases hok : p.ok with
    | false =>
      rw [Bool.not_false, brB_true]
      exact bad _ (by rw [hok]; simp) s
    | true =>
      rw [Bool.not_true, brB_false]
      refine cursor_Reader_Err.use (RdL.rd (i := 0) s rfl) ?_
      rw [vbin_neq, wv_some, brB_ndec]
      refine ⟨fun h => bad _ (by rintro ⟨_, h2, _⟩; exact h h2) s, fun h => ?_⟩
      refine wv_of (Rc.ld (RowL.own (i := 2) s rfl) hx lw) ?_
      refine record_changed.use hx lw (OwnL.own (i := 1) s rfl).is hl hll fun G110 c110 => ?_
      have s110 := s.tmp c110
      cases hv : validR p.x p.l with
      | false =>
        refine wv_of nil_nil ?_
        exact bad _ (by rw [hv]; simp) s110
      | true =>
        refine wv_of (nil_chg (kind_of (valR_spec hv).1)) ?_
        exact good _ ⟨hok, h, hv⟩ s110
  have s11 : Sp [] G [RdL ir S, OwnL 36 .nilSlice (([] : List UpdM).map UpdM.av), RowL i9 ((rk (k : Nat)).av .nilSlice), RowL i1 (RcM.zero.av .nilSlice)] G11 := sp_swap ((sp_swap s11).nilL 36)
  clear s6
  have hnl : ∀ u ∈ ([] : List UpdM), u.ok := fun u hu => by cases hu
  have hn0 : ([] : List UpdM).length ≤ 140737488351232 := by simp
  rw [vbin_eql, wv_some, brB_dec]
  refine ⟨fun h => ?_, fun h1 => ?_⟩
  · have hk : k = 1 := by have h : ((k : Nat) : Int) = 1 := h; omega
    subst hk
    rw [if_pos rfl] at hQ
    refine cursor_Reader_Rest.use (RdL.rd (i := 0) s11 rfl) ?_
    refine record_updates.use (n := 1) (by omega) (by omega) (fun hno G' c' => ?_) (fun l t w G' hl t' => ?_)
    · rw [show par1 S = ⟨rk 1, [], S, false⟩ by unfold par1; rw [hno]] at hQ
      refine wv_of (u_loc0).1 ?_
      refine wv_of (u_loc0).2.1 ?_
      refine wv_of (u_loc0).2.2 ?_
      rw [brB_false]
      exact fin ⟨rk 1, [], S, false⟩ _ ir .nilSlice G' rfl hz hnl hn0 hsl hQ (s11.tmp c')
    · obtain ⟨hlt, hll⟩ := readL_le 1 hl
      have hlo := readL_ok 1 (by omega) hl
      obtain ⟨u, rfl⟩ : ∃ u, l = [u] := by
        match l, hll with
        | [u], _ => exact ⟨u, rfl⟩
      rw [show par1 S = ⟨{ rk 1 with upd := u }, [], (t, 0), true⟩ by unfold par1; rw [hl]] at hQ
      have huo := hlo u (by simp)
      refine wv_of (u_loc0).1 ?_
      refine wv_of (u_loc0).2.1 ?_
      refine wv_of (u_loc0).2.2 ?_
      rw [brB_true]
      obtain ⟨F17, o17, c17⟩ := t'.out
      have s17 := s11.new o17 c17
      obtain ⟨a, a1, a2⟩ := upd_at (l := [u]) (j := 0) (OwnL.own (i := 0) s17 rfl).is rfl
      refine wv_of a1 ?_
      refine wv_of a2 ?_
      refine cursor_Open.use fun ir' G24 r24 c24 => ?_
      have s24 := s17.new (p := RdL ir' (t, 0)) ⟨r24, rfl⟩ c24
      have a2' : vload T G24 t_api_Update a = some u.av := by
        obtain ⟨a', a1', a2'⟩ := upd_at (l := [u]) (j := 0) (OwnL.own (i := 1) s24 rfl).is rfl
        rw [a1] at a1'
        injection a1' with e
        subst e
        exact a2'
      refine ⟨⟨a2', trivial⟩, ?_⟩
      refine Rc.st_upd (i := 4) s24 rfl hz Leaf.nil huo fun G25 s25 => ?_
      have s25 := ((s25.erase 1).erase 1)
      have hx : ({ rk 1 with upd := u } : RcM).ok := ⟨i64_n 1 (by decide) (by decide), huo, i64_0, i64_0, i64_0, rfl, rfl, rfl, i64_0⟩
      exact fin ⟨{ rk 1 with upd := u }, [], (t, 0), true⟩ _ ir' .nilSlice G25 rfl hx hnl hn0 (by show t.length ≤ _; omega) hQ s25
  rw [if_neg (show ¬ k = 1 from fun e => h1 (by rw [e]; rfl))] at hQ
  rw [vbin_eql, wv_some, brB_dec]
  refine ⟨fun h => ?_, fun h2 => ?_⟩
  · have hk : k = 2 := by have h : ((k : Nat) : Int) = 2 := h; omega
    subst hk
    rw [if_pos rfl] at hQ
    have l1 := takes_le S 8
    have l2 := takes_le (takes S 8).2 2
    have l3 := takes_le (takes (takes S 8).2 2).2 2
    have n1 := n2_lt (takes S 8).2
    have n2 := n2_lt (takes (takes S 8).2 2).2
    refine rd (i := 0) s11 rfl (fun h k => cursor_Reader_I64.use h k) fun G30 s30 => ?_
    refine Rc.st_index (i := 2) s30 rfl hz Leaf.nil _ fun G31 s31 => ?_
    refine rd (i := 0) s31 rfl (fun h k => cursor_Reader_U16.use h k) fun G33 s33 => ?_
    rw [vconv_int T_uint16 T_int rfl, i64_in (by omega) (by omega), wv_some]
    have hz1 : ({ rk 2 with index := iOf (takes S 8).1 } : RcM).ok := ⟨hz.kind, UpdM.zero_ok, iOf_ok _, i64_0, i64_0, rfl, rfl, rfl, i64_0⟩
    refine Rc.st_cntA (s := { rk 2 with index := iOf (takes S 8).1 }) (i := 2) s33 rfl hz1 Leaf.nil _ fun G35 s35 => ?_
    refine rd (i := 0) s35 rfl (fun h k => cursor_Reader_U16.use h k) fun G37 s37 => ?_
    rw [vconv_int T_uint16 T_int rfl, i64_in (by omega) (by omega), wv_some]
    have hz2 : ({ rk 2 with index := iOf (takes S 8).1, cntA := (num (takes (takes S 8).2 2).1 : Nat) } : RcM).ok := ⟨hz.kind, UpdM.zero_ok, iOf_ok _, n2_i64 _, i64_0, rfl, rfl, rfl, i64_0⟩
    refine Rc.st_cntB (s := { rk 2 with index := iOf (takes S 8).1, cntA := (num (takes (takes S 8).2 2).1 : Nat) }) (i := 2) s37 rfl hz2 Leaf.nil _ fun G39 s39 => ?_
    have hz3 : (par2 S).x.ok := ⟨hz.kind, UpdM.zero_ok, iOf_ok _, n2_i64 _, n2_i64 _, rfl, rfl, rfl, i64_0⟩
    exact fin (par2 S) _ ir .nilSlice G39 rfl hz3 hnl hn0 (by show (takes (takes (takes S 8).2 2).2 2).2.1.length ≤ _; omega) hQ s39
  rw [if_neg (show ¬ k = 2 from fun e => h2 (by rw [e]; rfl))] at hQ
  rw [vbin_eql, wv_some, brB_dec]
  refine ⟨fun h => ?_, fun h3 => ?_⟩
  · have hk : k = 3 := by have h : ((k : Nat) : Int) = 3 := h; omega
    subst hk
    rw [if_pos rfl] at hQ
    have l1 := takes_le S 8
    have l2 := takes_le (takes S 8).2 2
    have n1 := n2_lt (takes S 8).2
    refine rd (i := 0) s11 rfl (fun h k => cursor_Reader_I64.use h k) fun G42 s42 => ?_
    refine Rc.st_index (i := 2) s42 rfl hz Leaf.nil _ fun G43 s43 => ?_
    refine rd (i := 0) s43 rfl (fun h k => cursor_Reader_U16.use h k) fun G45 s45 => ?_
    rw [vconv_int T_uint16 T_int rfl, i64_in (by omega) (by omega), wv_some]
    have hz1 : ({ rk 3 with index := iOf (takes S 8).1 } : RcM).ok := ⟨hz.kind, UpdM.zero_ok, iOf_ok _, i64_0, i64_0, rfl, rfl, rfl, i64_0⟩
    obtain ⟨C, hC⟩ : ∃ C, C = takes (takes S 8).2 2 := ⟨_, rfl⟩
    rw [← hC] at l2 n1 s45 ⊢
    have s45 : Sp [] G [RdL ir C.2, OwnL 36 .nilSlice (([] : List UpdM).map UpdM.av), RowL i9 (({ rk 3 with index := iOf (takes S 8).1 } : RcM).av .nilSlice), RowL i1 (RcM.zero.av .nilSlice)] G45 := s45
    intro J69
    have bad : ¬ (C.2.2 = 0 ∧ num C.1 ≤ 512) → J69 (.bool false) G45 := by
      intro hb
      rw [show par3 S = ⟨{ rk 3 with index := iOf (takes S 8).1 }, [], C.2, false⟩ by unfold par3; dsimp only; rw [← hC, if_neg hb]] at hQ
      simp -zeta only [J69, brB_false]
      exact fin ⟨{ rk 3 with index := iOf (takes S 8).1 }, [], C.2, false⟩ _ ir .nilSlice G45 rfl hz1 hnl hn0 (by show C.2.1.length ≤ _; omega) hQ s45
    have good : (C.2.2 = 0 ∧ num C.1 ≤ 512) → J69 (.bool true) G45 := by
      intro hb
      simp -zeta only [J69, brB_true]
      refine cursor_Reader_Rest.use (RdL.rd (i := 0) s45 rfl) ?_
      refine record_updates.use (by omega) (by omega) (fun hno G' c' => ?_) (fun l t w G' hl t' => ?_)
      · rw [show par3 S = ⟨{ rk 3 with index := iOf (takes S 8).1 }, [], C.2, false⟩ by unfold par3; dsimp only; rw [← hC, if_pos hb, hno]] at hQ
        refine wv_of (u_loc0).1 ?_
        refine wv_of (u_loc0).2.1 ?_
        refine wv_of (u_loc0).2.2 ?_
        refine Rc.st_upds (i := 2) (s45.tmp c') rfl hz1 Leaf.nil Leaf.nil fun G60 s60 => ?_
        refine cursor_Open.use fun ir' G62 r62 c62 => ?_
        have s62 := s60.new (p := RdL ir' ([], 0)) ⟨r62, rfl⟩ c62
        refine rd (i := 0) s62 rfl (fun h k => cursor_Reader_Hash.use h k) fun G64 s64 => ?_
        refine Rc.st_sig (s := { rk 3 with index := iOf (takes S 8).1 }) (i := 3) s64 rfl hz1 Leaf.nil (fill_tk _) fun G65 s65 => ?_
        have s65 := s65.erase 1
        have hz2 : ({ rk 3 with index := iOf (takes S 8).1, sig := fill 32 (takes ([], 0) 32).1 } : RcM).ok := ⟨hz.kind, UpdM.zero_ok, iOf_ok _, i64_0, i64_0, fill_tk _, rfl, rfl, i64_0⟩
        refine fin ⟨{ rk 3 with index := iOf (takes S 8).1, sig := fill 32 (takes ([], 0) 32).1 }, [], (takes ([], 0) 32).2, false⟩ _ ir' .nilSlice G65 rfl hz2 hnl hn0 (by have := takes_le ([], 0) 32; show (takes ([], 0) 32).2.1.length ≤ _; simp only [List.length_nil] at this; omega) ?_ s65
        simp only [Bool.false_eq_true, false_and, if_false] at hQ ⊢
        exact hQ
      · obtain ⟨hlt, hll⟩ := readL_le _ hl
        have hlo := readL_ok _ (by omega) hl
        rw [show par3 S = ⟨{ rk 3 with index := iOf (takes S 8).1, sig := fill 32 (takes (t, 0) 32).1 }, l, (takes (t, 0) 32).2, true⟩ by unfold par3; dsimp only; rw [← hC, if_pos hb, hl]] at hQ
        refine wv_of (u_loc0).1 ?_
        refine wv_of (u_loc0).2.1 ?_
        refine wv_of (u_loc0).2.2 ?_
        obtain ⟨F17, o17, c17⟩ := t'.out
        have s17 := s45.new o17 c17
        have lw := (OwnL.own (i := 0) s17 rfl).leaf
        refine Rc.st_upds (i := 3) s17 rfl hz1 Leaf.nil lw fun G60 s60 => ?_
        refine cursor_Open.use fun ir' G62 r62 c62 => ?_
        have s62 := s60.new (p := RdL ir' (t, 0)) ⟨r62, rfl⟩ c62
        refine rd (i := 0) s62 rfl (fun h k => cursor_Reader_Hash.use h k) fun G64 s64 => ?_
        refine Rc.st_sig (s := { rk 3 with index := iOf (takes S 8).1 }) (i := 4) s64 rfl hz1 lw (fill_tk _) fun G65 s65 => ?_
        have s65 := (s65.erase 2).erase 2
        have hz2 : ({ rk 3 with index := iOf (takes S 8).1, sig := fill 32 (takes (t, 0) 32).1 } : RcM).ok := ⟨hz.kind, UpdM.zero_ok, iOf_ok _, i64_0, i64_0, fill_tk _, rfl, rfl, i64_0⟩
        have lt := takes_le (t, 0) 32
        exact fin ⟨{ rk 3 with index := iOf (takes S 8).1, sig := fill 32 (takes (t, 0) 32).1 }, l, (takes (t, 0) 32).2, true⟩ _ ir' w G65 rfl hz2 hlo (by show l.length ≤ _; omega) (by show (takes (t, 0) 32).2.1.length ≤ _; simp only at lt; omega) hQ s65
    refine cursor_Reader_Err.use (RdL.rd (i := 0) s45 rfl) ?_
    rw [vbin_eql, wv_some, brB_dec]
    refine ⟨fun h4 => ?_, fun h4 => bad fun h => h4 h.1⟩
    rw [vbin_leq, wv_some]
    by_cases h5 : num C.1 ≤ 512
    · rw [decide_eq_true (by omega)]; exact good ⟨h4, h5⟩
    · rw [decide_eq_false (by omega)]; exact bad fun h => h5 h.2
  rw [if_neg (show ¬ k = 3 from fun e => h3 (by rw [e]; rfl))] at hQ
  rw [vbin_eql, wv_some, brB_dec]
  refine ⟨fun h => ?_, fun h4 => ?_⟩
  · have hk : k = 4 := by have h : ((k : Nat) : Int) = 4 := h; omega
    subst hk
    rw [if_pos rfl] at hQ
    have l1 := takes_le S 8
    have l2 := takes_le (takes S 8).2 32
    have l3 := takes_le (takes (takes S 8).2 32).2 32
    refine rd (i := 0) s11 rfl (fun h k => cursor_Reader_I64.use h k) fun G72 s72 => ?_
    refine Rc.st_index (i := 2) s72 rfl hz Leaf.nil _ fun G73 s73 => ?_
    refine rd (i := 0) s73 rfl (fun h k => cursor_Reader_Hash.use h k) fun G75 s75 => ?_
    have hz1 : ({ rk 4 with index := iOf (takes S 8).1 } : RcM).ok := ⟨hz.kind, UpdM.zero_ok, iOf_ok _, i64_0, i64_0, rfl, rfl, rfl, i64_0⟩
    refine Rc.st_secret (s := { rk 4 with index := iOf (takes S 8).1 }) (i := 2) s75 rfl hz1 Leaf.nil (fill_tk _) fun G76 s76 => ?_
    refine rd (i := 0) s76 rfl (fun h k => cursor_Reader_Hash.use h k) fun G78 s78 => ?_
    have hz2 : ({ rk 4 with index := iOf (takes S 8).1, secret := fill 32 (takes (takes S 8).2 32).1 } : RcM).ok := ⟨hz.kind, UpdM.zero_ok, iOf_ok _, i64_0, i64_0, rfl, fill_tk _, rfl, i64_0⟩
    refine Rc.st_point (s := { rk 4 with index := iOf (takes S 8).1, secret := fill 32 (takes (takes S 8).2 32).1 }) (i := 2) s78 rfl hz2 Leaf.nil (fill_tk _) fun G79 s79 => ?_
    have hz3 : (par4 S).x.ok := ⟨hz.kind, UpdM.zero_ok, iOf_ok _, i64_0, i64_0, rfl, fill_tk _, fill_tk _, i64_0⟩
    exact fin (par4 S) _ ir .nilSlice G79 rfl hz3 hnl hn0 (by show (takes (takes (takes S 8).2 32).2 32).2.1.length ≤ _; omega) hQ s79
  rw [if_neg (show ¬ k = 4 from fun e => h4 (by rw [e]; rfl))] at hQ
  rw [vbin_eql, wv_some, brB_dec]
  refine ⟨fun h => ?_, fun h5 => ?_⟩
  · have hk : k = 5 := by have h : ((k : Nat) : Int) = 5 := h; omega
    subst hk
    rw [if_pos rfl] at hQ
    have l1 := takes_le S 2
    have n1 := n2_lt S
    refine rd (i := 0) s11 rfl (fun h k => cursor_Reader_U16.use h k) fun G82 s82 => ?_
    rw [vconv_int T_uint16 T_int rfl, i64_in (by omega) (by omega), wv_some]
    refine Rc.st_code (i := 2) s82 rfl hz Leaf.nil _ fun G84 s84 => ?_
    have hz1 : (par5 S).x.ok := ⟨hz.kind, UpdM.zero_ok, i64_0, i64_0, i64_0, rfl, rfl, rfl, n2_i64 _⟩
    exact fin (par5 S) _ ir .nilSlice G84 rfl hz1 hnl hn0 (by show (takes S 2).2.1.length ≤ _; omega) hQ s84
  rw [if_neg (show ¬ k = 5 from fun e => h5 (by rw [e]; rfl))] at hQ
  rw [vbin_eql, wv_some, brB_dec]
  refine ⟨fun h => ?_, fun h6 => ?_⟩
  · have hk : k = 6 := by have h : ((k : Nat) : Int) = 6 := h; omega
    subst hk
    rw [if_pos rfl] at hQ
    have l1 := takes_le S 8
    refine rd (i := 0) s11 rfl (fun h k => cursor_Reader_I64.use h k) fun G87 s87 => ?_
    refine Rc.st_index (i := 2) s87 rfl hz Leaf.nil _ fun G88 s88 => ?_
    have hz1 : (par6 S).x.ok := ⟨hz.kind, UpdM.zero_ok, iOf_ok _, i64_0, i64_0, rfl, rfl, rfl, i64_0⟩
    exact fin (par6 S) _ ir .nilSlice G88 rfl hz1 hnl hn0 (by show (takes S 8).2.1.length ≤ _; omega) hQ s88
  rw [if_neg (show ¬ k = 6 from fun e => h6 (by rw [e]; rfl))] at hQ
  exact fin ⟨rk (k : Nat), [], S, true⟩ _ ir .nilSlice G11 rfl hz hnl hn0 hsl hQ s11

end
end Go.Esc.M

/- Own work. Chapter 17: Read, in the document. -/
set_option linter.unusedSimpArgs false
set_option linter.unusedVariables false
set_option maxRecDepth 20000
namespace Go.Esc.M
open Go Go.Esc

theorem takes_fin {s : List UInt8 × Int} {n : Nat} (h : (takes s (n : Int)).2.2 = 0) : s.2 = 0 ∧ (takes s (n : Int)).1.length = n ∧ (takes s (n : Int)).2.1.length + n = s.1.length := by
  unfold takes at h ⊢
  by_cases h0 : s.2 = 0
  · rw [if_pos h0] at h ⊢
    by_cases h1 : (s.1.length : Int) < (n : Int)
    · rw [if_pos h1] at h; exact absurd h (by simp)
    · rw [if_neg h1]
      refine ⟨h0, ?_, ?_⟩
      · simp only [List.length_take]; omega
      · simp only [List.length_drop]; omega
  · rw [if_neg h0] at h
    exact absurd h h0
theorem readU_len {b : List UInt8} (hb : b.length ≤ 9223372036854775807) (h : (readU b).2.2 = 0) : ∃ k : Nat, (readU b).2.1 = (k : Int) ∧ k ≤ b.length ∧ (bytesU (readU b).1).length = k := by
  rcases readU_cases hb with ⟨e, he, hx⟩ | ⟨u, k, hx, _, _, _, hk, hbk⟩
  · rw [hx] at h; simp only at h; omega
  · rw [hx]
    exact ⟨k, rfl, hk, by rw [hbk, List.length_take]; omega⟩
theorem readL_len : ∀ (n : Nat) {b : List UInt8} {l : List UpdM} {t : List UInt8}, b.length ≤ 9223372036854775807 → readL n b = some (l, t) → (bytesL l).length + t.length = b.length
  | 0, b, l, t, hb, h => by
    rw [readL] at h
    injection h with h
    injection h with h1 h2
    subst h1 h2
    simp [bytesL]
  | n + 1, b, l, t, hb, h => by
    rw [readL] at h
    split at h
    · rename_i h0
      cases hr : readL n (b.drop (readU b).2.1.toNat) with
      | none => rw [hr] at h; cases h
      | some x =>
        obtain ⟨l', t'⟩ := x
        rw [hr] at h
        injection h with h
        injection h with h1 h2
        simp only at h1 h2
        subst h1 h2
        have ih := readL_len n (by rw [List.length_drop]; omega) hr
        obtain ⟨k, k1, k2, k3⟩ := readU_len hb h0
        rw [k1, Int.toNat_natCast, List.length_drop] at ih
        unfold bytesL at ih ⊢
        simp only [List.map_cons, List.flatten_cons, List.length_append]
        omega
    · cases h
theorem s1_fin {b : List UInt8} (h : (s1Of b).2 = 0) : (s1Of b).1.length + 1 = b.length := (takes_fin (s := (b, 0)) (n := 1) h).2.2
/-- What is read has as many bytes as it would be written with. -/
theorem par_len {b : List UInt8} (hb : b.length ≤ 9223372036854775807) (h1 : (parR b).ok = true) (h2 : (parR b).st.2 = 0) (h3 : validR (parR b).x (parR b).l = true) : (bytesR (parR b).x (parR b).l).length = b.length - (parR b).st.1.length := by
  have hs := s1_le b
  obtain ⟨S, hS⟩ : ∃ S, S = s1Of b := ⟨_, rfl⟩
  have hsf := @s1_fin b
  have hk16 := (valR_spec h3).1
  unfold parR at h1 h2 h3 hk16 ⊢
  rw [← hS] at h1 h2 h3 hk16 hs hsf ⊢
  unfold bytesR bytesK
  rw [List.length_append, length_be]
  by_cases e1 : kOf b = 1
  · rw [if_pos e1] at h1 h2 ⊢
    have hS0 : S.2 = 0 := by
      by_cases hn : b = []
      · rw [hn] at e1; exact absurd e1 (by decide)
      · rw [hS]; unfold s1Of
        rw [takes_ok (by cases b with | nil => exact absurd rfl hn | cons x b => simp only [List.length_cons]; omega)]
    cases hr : readL 1 S.1 with
    | none =>
      rw [show par1 S = ⟨rk 1, [], S, false⟩ by unfold par1; rw [hr]] at h1
      cases h1
    | some y =>
      obtain ⟨l, t⟩ := y
      obtain ⟨_, hll⟩ := readL_le 1 hr
      obtain ⟨u, rfl⟩ : ∃ u, l = [u] := by
        match l, hll with
        | [u], _ => exact ⟨u, rfl⟩
      have hl2 := readL_len 1 (by omega) hr
      rw [show par1 S = ⟨{ rk 1 with upd := u }, [], (t, 0), true⟩ by unfold par1; rw [hr]]
      rw [if_pos (show (rk 1).kind = 1 from rfl)]
      have := hsf hS0
      simp only [bytesL, List.map_cons, List.map_nil, List.flatten_cons, List.flatten_nil, List.append_nil] at hl2
      show 1 + (bytesU u).length = b.length - t.length
      omega
  rw [if_neg e1] at h1 h2 h3 hk16 ⊢
  by_cases e2 : kOf b = 2
  · rw [if_pos e2] at h2 ⊢
    obtain ⟨a1, _, a3⟩ := takes_fin (n := 2) h2
    obtain ⟨b1, _, b3⟩ := takes_fin (n := 2) a1
    obtain ⟨c1, _, c3⟩ := takes_fin (n := 8) b1
    have := hsf c1
    rw [if_neg (show ¬ (par2 S).x.kind = 1 from (by decide : ¬ (2 : Int) = 1)), if_pos (show (par2 S).x.kind = 2 from rfl)]
    simp only [List.length_append, length_be]
    show 1 + (8 + (2 + 2)) = b.length - (takes (takes (takes S 8).2 2).2 2).2.1.length
    have a3 : (takes (takes (takes S 8).2 2).2 2).2.1.length + 2 = (takes (takes S 8).2 2).2.1.length := a3
    have b3 : (takes (takes S 8).2 2).2.1.length + 2 = (takes S 8).2.1.length := b3
    have c3 : (takes S 8).2.1.length + 8 = S.1.length := c3
    omega
  rw [if_neg e2] at h1 h2 h3 hk16 ⊢
  by_cases e3 : kOf b = 3
  · rw [if_pos e3] at h1 h2 ⊢
    by_cases hc : (takes (takes S 8).2 2).2.2 = 0 ∧ num (takes (takes S 8).2 2).1 ≤ 512
    · cases hr : readL (num (takes (takes S 8).2 2).1) (takes (takes S 8).2 2).2.1 with
      | none =>
        rw [show par3 S = ⟨{ rk 3 with index := iOf (takes S 8).1 }, [], (takes (takes S 8).2 2).2, false⟩ by unfold par3; dsimp only; rw [if_pos hc, hr]] at h1
        cases h1
      | some y =>
        obtain ⟨l, t⟩ := y
        rw [show par3 S = ⟨{ rk 3 with index := iOf (takes S 8).1, sig := fill 32 (takes (t, 0) 32).1 }, l, (takes (t, 0) 32).2, true⟩ by unfold par3; dsimp only; rw [if_pos hc, hr]] at h2 ⊢
        obtain ⟨_, _, a3⟩ := takes_fin (n := 32) h2
        obtain ⟨b1, _, b3⟩ := takes_fin (n := 2) hc.1
        obtain ⟨c1, _, c3⟩ := takes_fin (n := 8) b1
        have := hsf c1
        have b3 : (takes (takes S 8).2 2).2.1.length + 2 = (takes S 8).2.1.length := b3
        have c3 : (takes S 8).2.1.length + 8 = S.1.length := c3
        have hl2 := readL_len _ (by omega) hr
        rw [if_neg (show ¬ (rk 3).kind = 1 from (by decide : ¬ (3 : Int) = 1)), if_neg (show ¬ (rk 3).kind = 2 from (by decide : ¬ (3 : Int) = 2)), if_pos (show (rk 3).kind = 3 from rfl)]
        simp only [List.length_append, length_be, fill_tk]
        have a3 : (takes (t, 0) 32).2.1.length + 32 = t.length := a3
        omega
    · rw [show par3 S = ⟨{ rk 3 with index := iOf (takes S 8).1 }, [], (takes (takes S 8).2 2).2, false⟩ by unfold par3; dsimp only; rw [if_neg hc]] at h1
      cases h1
  rw [if_neg e3] at h1 h2 h3 hk16 ⊢
  by_cases e4 : kOf b = 4
  · rw [if_pos e4] at h2 ⊢
    obtain ⟨a1, _, a3⟩ := takes_fin (n := 32) h2
    obtain ⟨b1, _, b3⟩ := takes_fin (n := 32) a1
    obtain ⟨c1, _, c3⟩ := takes_fin (n := 8) b1
    have := hsf c1
    rw [if_neg (show ¬ (par4 S).x.kind = 1 from (by decide : ¬ (4 : Int) = 1)), if_neg (show ¬ (par4 S).x.kind = 2 from (by decide : ¬ (4 : Int) = 2)), if_neg (show ¬ (par4 S).x.kind = 3 from (by decide : ¬ (4 : Int) = 3)), if_pos (show (par4 S).x.kind = 4 from rfl)]
    have p1 : (par4 S).x.secret.length = 32 := fill_tk _
    have p2 : (par4 S).x.point.length = 32 := fill_tk _
    simp only [List.length_append, length_be, p1, p2]
    show 1 + (8 + (32 + 32)) = b.length - (takes (takes (takes S 8).2 32).2 32).2.1.length
    have a3 : (takes (takes (takes S 8).2 32).2 32).2.1.length + 32 = (takes (takes S 8).2 32).2.1.length := a3
    have b3 : (takes (takes S 8).2 32).2.1.length + 32 = (takes S 8).2.1.length := b3
    have c3 : (takes S 8).2.1.length + 8 = S.1.length := c3
    omega
  rw [if_neg e4] at h1 h2 h3 hk16 ⊢
  by_cases e5 : kOf b = 5
  · rw [if_pos e5] at h2 ⊢
    obtain ⟨c1, _, c3⟩ := takes_fin (n := 2) h2
    have := hsf c1
    rw [if_neg (show ¬ (par5 S).x.kind = 1 from (by decide : ¬ (5 : Int) = 1)), if_neg (show ¬ (par5 S).x.kind = 2 from (by decide : ¬ (5 : Int) = 2)), if_neg (show ¬ (par5 S).x.kind = 3 from (by decide : ¬ (5 : Int) = 3)), if_neg (show ¬ (par5 S).x.kind = 4 from (by decide : ¬ (5 : Int) = 4)), if_pos (show (par5 S).x.kind = 5 from rfl)]
    rw [length_be]
    show 1 + 2 = b.length - (takes S 2).2.1.length
    have c3 : (takes S 2).2.1.length + 2 = S.1.length := c3
    omega
  rw [if_neg e5] at h1 h2 h3 hk16 ⊢
  by_cases e6 : kOf b = 6
  · rw [if_pos e6] at h2 ⊢
    obtain ⟨c1, _, c3⟩ := takes_fin (n := 8) h2
    have := hsf c1
    rw [if_neg (show ¬ (par6 S).x.kind = 1 from (by decide : ¬ (6 : Int) = 1)), if_neg (show ¬ (par6 S).x.kind = 2 from (by decide : ¬ (6 : Int) = 2)), if_neg (show ¬ (par6 S).x.kind = 3 from (by decide : ¬ (6 : Int) = 3)), if_neg (show ¬ (par6 S).x.kind = 4 from (by decide : ¬ (6 : Int) = 4)), if_neg (show ¬ (par6 S).x.kind = 5 from (by decide : ¬ (6 : Int) = 5))]
    rw [length_be]
    show 1 + 8 = b.length - (takes S 8).2.1.length
    have c3 : (takes S 8).2.1.length + 8 = S.1.length := c3
    omega
  rw [if_neg e6] at hk16
  have hk : 1 ≤ ((kOf b : Nat) : Int) ∧ ((kOf b : Nat) : Int) ≤ 6 := hk16
  omega

end Go.Esc.M
