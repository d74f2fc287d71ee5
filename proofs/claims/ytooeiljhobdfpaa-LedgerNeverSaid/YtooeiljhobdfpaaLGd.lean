import Derived.Test.YtooeiljhobdfpaaLGb
/- Own work. Chapter 13: the book of two lists: its memory; what it answers. -/
set_option linter.unusedSimpArgs false
set_option linter.unusedVariables false
namespace Go.Esc.M
open Go Go.Esc

def sN (s : Bool) : Nat := bif s then 1 else 0
def sI (s : Bool) : Int := (sN s : Nat)
def setB {α : Type} (g : Bool → α) (s : Bool) (x : α) : Bool → α := fun t => if t = s then x else g t
theorem setB_same {α : Type} (g : Bool → α) (s : Bool) (x : α) : setB g s x s = x := if_pos rfl
theorem setB_not {α : Type} (g : Bool → α) (s : Bool) (x : α) : setB g s x (!s) = g (!s) := if_neg (by cases s <;> decide)
def bookV (v : Bool → AVal) (f : Bool → Nat) (b : Bool → Int) : AVal := .agg [.agg [v false, v true], .agg [.int .i64 (f false : Nat), .int .i64 (f true : Nat)], .agg [.int .i64 (b false), .int .i64 (b true)]]
def bookSp (id : AId) (v : Bool → AVal) (f : Bool → Nat) (b : Bool → Int) (l : Bool → List UpdM) : List LP := [OwnL 36 (v false) ((l false).map UpdM.av), OwnL 36 (v true) ((l true).map UpdM.av), RowL id (bookV v f b)]
def BookB (b : Bool → Int) (l : Bool → List UpdM) (f : Bool → Nat) : Prop := BookI (b false) (b true) (l false) (l true) (f false) (f true)
theorem BookB.at {b : Bool → Int} {l : Bool → List UpdM} {f : Bool → Nat} (h : BookB b l f) (s : Bool) : BookI (b s) (b !s) (l s) (l !s) (f s) (f !s) := by
  cases s
  · exact h
  · exact h.swap
theorem BookB.of {b : Bool → Int} {l : Bool → List UpdM} {f : Bool → Nat} (s : Bool) (h : BookI (b s) (b !s) (l s) (l !s) (f s) (f !s)) : BookB b l f := by
  cases s
  · exact h
  · exact h.swap
theorem sub_side (s : Bool) : vbin T .sub t_int (.int .i64 1) (.int .i64 (sI s)) = some (.int .i64 (sI !s)) := by cases s <;> rfl

section
variable {F0 : List AId} {G0 G : Heap} {ps : List LP} {Q : AVal → Heap → Prop} {id : AId} {v : Bool → AVal} {f : Bool → Nat} {b : Bool → Int} {l : Bool → List UpdM}

theorem book_szl (lv : ∀ s, Leaf (v s)) : [AVal.agg [v false, v true], .agg [.int .i64 (f false : Nat), .int .i64 (f true : Nat)], .agg [.int .i64 (b false), .int .i64 (b true)]].map sz = [2, 2, 2] := by
  simp [sz, szs, (lv false).1, (lv true).1]
theorem book_l (hg : G id = some (.own (bookV v f b))) (lv : ∀ s, Leaf (v s)) (s : Bool) : viaddr T t_ar2_api_Update (.ptr id [0] 0) (.int .i64 (sI s)) = some (.ptr id [0, sN s] (0 + sN s * 1)) ∧ vload T G t_sl_api_Update (.ptr id [0, sN s] (0 + sN s * 1)) = some (v s) := by
  cases s
  · exact ⟨rfl, ld2 hg (book_szl lv) rfl rfl (ss2 := [1, 1]) (by simp [(lv false).1, (lv true).1]) rfl rfl rfl T_sl_api_Update (fits_leaf (lv false) rfl)⟩
  · exact ⟨rfl, ld2 hg (book_szl lv) rfl rfl (ss2 := [1, 1]) (by simp [(lv false).1, (lv true).1]) rfl rfl rfl T_sl_api_Update (fits_leaf (lv true) rfl)⟩
theorem book_f (hg : G id = some (.own (bookV v f b))) (lv : ∀ s, Leaf (v s)) (s : Bool) : viaddr T t_ar2_int (.ptr id [1] 2) (.int .i64 (sI s)) = some (.ptr id [1, sN s] (2 + sN s * 1)) ∧ vload T G t_int (.ptr id [1, sN s] (2 + sN s * 1)) = some (.int .i64 (f s : Nat)) := by
  cases s
  · exact ⟨rfl, ld2 hg (book_szl lv) rfl rfl (ss2 := [1, 1]) rfl rfl rfl rfl T_int rfl⟩
  · exact ⟨rfl, ld2 hg (book_szl lv) rfl rfl (ss2 := [1, 1]) rfl rfl rfl rfl T_int rfl⟩
theorem book_b (hg : G id = some (.own (bookV v f b))) (lv : ∀ s, Leaf (v s)) (s : Bool) : viaddr T t_ar2_int64 (.ptr id [2] 4) (.int .i64 (sI s)) = some (.ptr id [2, sN s] (4 + sN s * 1)) ∧ vload T G t_int64 (.ptr id [2, sN s] (4 + sN s * 1)) = some (.int .i64 (b s)) := by
  cases s
  · exact ⟨rfl, ld2 hg (book_szl lv) rfl rfl (ss2 := [1, 1]) rfl rfl rfl rfl T_int64 rfl⟩
  · exact ⟨rfl, ld2 hg (book_szl lv) rfl rfl (ss2 := [1, 1]) rfl rfl rfl rfl T_int64 rfl⟩
theorem book_setl {i : Nat} (hs : Sp F0 G0 ps G) (hi : ps[i]? = some (RowL id (bookV v f b))) (lv : ∀ s, Leaf (v s)) (s : Bool) {w : AVal} (hw : Leaf w) {K : Heap → Prop} (hK : ∀ G', Sp F0 G0 (ps.set i (RowL id (bookV (setB v s w) f b))) G' → K G') : wg (vstore T G t_sl_api_Update (.ptr id [0, sN s] (0 + sN s * 1)) w) K := by
  cases s
  · exact wg_of (st2 (RowL.own hs hi) (book_szl lv) rfl rfl (ss2 := [1, 1]) (by simp [(lv false).1, (lv true).1]) rfl rfl rfl T_sl_api_Update (fits_leaf hw rfl) (by rw [(lv false).1, hw.1]) hw.2.2) (hK _ (Sp.setRow hs hi _))
  · exact wg_of (st2 (RowL.own hs hi) (book_szl lv) rfl rfl (ss2 := [1, 1]) (by simp [(lv false).1, (lv true).1]) rfl rfl rfl T_sl_api_Update (fits_leaf hw rfl) (by rw [(lv true).1, hw.1]) hw.2.2) (hK _ (Sp.setRow hs hi _))
theorem book_setf {i : Nat} (hs : Sp F0 G0 ps G) (hi : ps[i]? = some (RowL id (bookV v f b))) (lv : ∀ s, Leaf (v s)) (s : Bool) {x : Int} {n : Nat} (hx : x = (n : Int)) {K : Heap → Prop} (hK : ∀ G', Sp F0 G0 (ps.set i (RowL id (bookV v (setB f s n) b))) G' → K G') : wg (vstore T G t_int (.ptr id [1, sN s] (2 + sN s * 1)) (.int .i64 x)) K := by
  subst hx
  cases s
  · exact wg_of (st2 (RowL.own hs hi) (book_szl lv) rfl rfl (ss2 := [1, 1]) rfl rfl rfl rfl T_int rfl rfl rfl) (hK _ (Sp.setRow hs hi _))
  · exact wg_of (st2 (RowL.own hs hi) (book_szl lv) rfl rfl (ss2 := [1, 1]) rfl rfl rfl rfl T_int rfl rfl rfl) (hK _ (Sp.setRow hs hi _))
theorem book_setb {i : Nat} (hs : Sp F0 G0 ps G) (hi : ps[i]? = some (RowL id (bookV v f b))) (lv : ∀ s, Leaf (v s)) (s : Bool) {x : Int} {K : Heap → Prop} (hK : ∀ G', Sp F0 G0 (ps.set i (RowL id (bookV v f (setB b s x)))) G' → K G') : wg (vstore T G t_int64 (.ptr id [2, sN s] (4 + sN s * 1)) (.int .i64 x)) K := by
  cases s
  · exact wg_of (st2 (RowL.own hs hi) (book_szl lv) rfl rfl (ss2 := [1, 1]) rfl rfl rfl rfl T_int64 rfl rfl rfl) (hK _ (Sp.setRow hs hi _))
  · exact wg_of (st2 (RowL.own hs hi) (book_szl lv) rfl rfl (ss2 := [1, 1]) rfl rfl rfl rfl T_int64 rfl rfl rfl) (hK _ (Sp.setRow hs hi _))

theorem escrowlaw13_mod.use {n most : Int} (h0 : 0 ≤ most) (h1 : most ≤ 4611686018427387904) (hQ : ∀ x : Int, 0 ≤ x → x ≤ most → Q (.int .i64 x) G) : ACalls P escrowlaw13_mod.n [.int .i64 n, .int .i64 most] G Q := by
  refine escrowlaw13_mod.sound ?_
  unfold escrowlaw13_mod.S
  refine wv_of (vconv_int T_int64 T_uint64 rfl) ?_
  rw [vbin_add, i64_in (by omega) (by omega), wv_some]
  refine wv_of (vconv_int T_int64 T_uint64 rfl) ?_
  rw [u64_in (n := most + 1) (by omega) (by omega), vbin_rem _ _ _ _ _ (by omega), wv_some]
  refine wv_of (vconv_int T_uint64 T_int64 rfl) ?_
  have h2 : 0 ≤ IntKind.u64.wrap n := by rw [wrapU64]; omega
  have h3 : (IntKind.u64.wrap n).tmod (most + 1) = (IntKind.u64.wrap n) % (most + 1) := Int.tmod_eq_emod_of_nonneg h2
  rw [h3]
  have h4 := Int.emod_nonneg (IntKind.u64.wrap n) (b := most + 1) (by omega)
  have h5 := Int.emod_lt_of_pos (IntKind.u64.wrap n) (b := most + 1) (by omega)
  generalize (IntKind.u64.wrap n) % (most + 1) = z at h4 h5
  rw [i64_in (by omega) (by omega)]
  exact hQ z h4 (by omega)

theorem escrowlaw13_adds.use {w : AVal} {k : List UpdM} (hl : IsSl 36 G w (k.map UpdM.av)) (hlen : k.length ≤ 1048576) (hQ : Q (.int .i64 ((addsN k : Nat) : Int)) G) : ACalls P escrowlaw13_adds.n [w] G Q := by
  refine escrowlaw13_adds.sound ?_
  unfold escrowlaw13_adds.S
  intro R hR
  have loop : ∀ (n j : Nat), k.length - j = n → j ≤ k.length → R [w, .int .i64 ((addsN (k.take j) : Nat) : Int), .int .i64 (j : Int)] G := by
    intro n
    induction n with
    | zero =>
      intro j hn hj
      refine hR _ _ _ _ ?_
      refine wv_of (upd_len hl) ?_
      rw [vbin_lss, wv_some, decide_eq_false (by omega), brB_false, List.take_of_length_le (by omega)]
      exact hQ
    | succ n ih =>
      intro j hn hj
      obtain ⟨u, hu⟩ : ∃ u, k[j]? = some u := ⟨_, List.getElem?_eq_getElem (by omega)⟩
      have hle := addsN_le (k.take j)
      rw [List.length_take] at hle
      have e : addsN (k.take (j + 1)) = addsN (k.take j) + if u.kind = 1 then 1 else 0 := by
        rw [List.take_add_one, hu, addsN_append]
        congr 1
        by_cases h : u.kind = 1 <;> simp [addsN, h]
      have ih := ih (j + 1) (by omega) (by omega)
      rw [e] at ih
      refine hR _ _ _ _ ?_
      refine wv_of (upd_len hl) ?_
      rw [vbin_lss, wv_some, decide_eq_true (by omega), brB_true]
      obtain ⟨x, y, e1, e2, e3⟩ := fldK hl hu
      refine wv_of e1 ?_
      refine wv_of e2 ?_
      refine wv_of e3 ?_
      rw [vbin_eql, wv_some, brB_dec]
      refine ⟨fun h => ?_, fun h => ?_⟩
      · rw [if_pos h] at ih
        rw [vbin_add, i64_in (by omega) (by omega), wv_some, vbin_add, i64_in (by omega) (by omega), wv_some]
        exact ih
      · rw [if_neg h] at ih
        rw [vbin_add, i64_in (by omega) (by omega), wv_some]
        exact ih
  exact loop _ 0 rfl (by omega)

theorem book_leaf (hs : Sp F0 G0 (bookSp id v f b l) G) (s : Bool) : Leaf (v s) := by
  cases s
  · exact (OwnL.own (i := 0) hs rfl).leaf
  · exact (OwnL.own (i := 1) hs rfl).leaf
theorem book_own (hs : Sp F0 G0 (bookSp id v f b l) G) (s : Bool) : Own 36 G (v s) ((l s).map UpdM.av) := by
  cases s
  · exact OwnL.own (i := 0) hs rfl
  · exact OwnL.own (i := 1) hs rfl

/-- What stands in memory of a book. -/
structure BookAt (G : Heap) (id : AId) (v : Bool → AVal) (f : Bool → Nat) (b : Bool → Int) (l : Bool → List UpdM) : Prop where
  row : G id = some (.own (bookV v f b))
  leaf : ∀ s, Leaf (v s)
  own : ∀ s, Own 36 G (v s) ((l s).map UpdM.av)
theorem Sp.book (hs : Sp F0 G0 (bookSp id v f b l) G) : BookAt G id v f b l := ⟨RowL.own (i := 2) hs rfl, book_leaf hs, book_own hs⟩
theorem BookAt.ch {G' : Heap} (h : BookAt G id v f b l) (hc : Ch [] G [] G') : BookAt G' id v f b l := by
  refine ⟨ch_own hc h.row, h.leaf, fun s => ?_⟩
  rcases h.own s with h' | ⟨i', len, cap, cs, e, hg, h'⟩
  · exact .inl h'
  · exact .inr ⟨i', len, cap, cs, e, ch_own hc hg, h'⟩

theorem escrowlaw13_book_spendable.use {s : Bool} (h : BookAt G id v f b l) (hI : BookB b l f) (hQ : ∀ G', Ch [] G [] G' → Q (.int .i64 (cutW (SB (b s) (l s) (l !s) (f s) (f !s)))) G') : ACalls P escrowlaw13_book_spendable.n [.ptr id [] 0, .int .i64 (sI s)] G Q := by
  refine escrowlaw13_book_spendable.sound ?_
  unfold escrowlaw13_book_spendable.S
  have hi := hI.at s
  refine wv_of (v := .ptr id [] 0) rfl ?_
  refine wv_of (v := .ptr id [2] 4) rfl ?_
  refine wv_of (book_b h.row h.leaf s).1 ?_
  refine wv_of (book_b h.row h.leaf s).2 ?_
  refine wv_of (v := .ptr id [] 0) rfl ?_
  refine wv_of (v := .ptr id [0] 0) rfl ?_
  refine wv_of (book_l h.row h.leaf s).1 ?_
  refine wv_of (book_l h.row h.leaf s).2 ?_
  refine wv_of (sub_side s) ?_
  refine wv_of (v := .ptr id [] 0) rfl ?_
  refine wv_of (v := .ptr id [0] 0) rfl ?_
  refine wv_of (book_l h.row h.leaf !s).1 ?_
  refine wv_of (book_l h.row h.leaf !s).2 ?_
  refine wv_of (v := .ptr id [] 0) rfl ?_
  refine wv_of (v := .ptr id [1] 2) rfl ?_
  refine wv_of (book_f h.row h.leaf s).1 ?_
  refine wv_of (book_f h.row h.leaf s).2 ?_
  refine wv_of (sub_side s) ?_
  refine wv_of (v := .ptr id [] 0) rfl ?_
  refine wv_of (v := .ptr id [1] 2) rfl ?_
  refine wv_of (book_f h.row h.leaf !s).1 ?_
  refine wv_of (book_f h.row h.leaf !s).2 ?_
  refine wv_of (v := pairW (f s : Nat) (f (!s) : Nat)) rfl ?_
  have m0 := hi.m0
  have m1 := hi.m1
  refine ledger_Spendable.use (Own.capSl (h.own s)) (Own.capSl (h.own !s)) hi.ok0 hi.ok1 (by omega) (by omega) fun G' c => ?_
  rw [spend_SB hi.v0 hi.v1 hi.b0n (by have := hi.bs; have := hi.b1n; omega)]
  exact hQ G' c

set_option maxHeartbeats 2000000 in
theorem escrowlaw13_book_taken.use {n m : Nat} (h : BookAt G id v f b l) (hI : BookB b l f) (h1 : f false ≤ n) (h2 : n ≤ (l false).length) (h3 : f true ≤ m) (h4 : m ≤ (l true).length) (hQ : ∀ G', Ch [] G [] G' → Q (.bool true) G') : ACalls P escrowlaw13_book_taken.n [.ptr id [] 0, .int .i64 (n : Int), .int .i64 (m : Int)] G Q := by
  refine escrowlaw13_book_taken.sound ?_
  unfold escrowlaw13_book_taken.S
  have m0 := hI.m0
  have m1 := hI.m1
  have hb := hI.bs
  have hb0 := hI.b0n
  have hb1 := hI.b1n
  obtain ⟨t1, t2⟩ := hI.taken h1 h2 h3 h4
  refine wv_of (v := .ptr id [] 0) rfl ?_
  refine wv_of (v := .ptr id [2] 4) rfl ?_
  refine wv_of (book_b h.row h.leaf false).1 ?_
  refine wv_of (book_b h.row h.leaf false).2 ?_
  refine wv_of (v := .ptr id [] 0) rfl ?_
  refine wv_of (v := .ptr id [2] 4) rfl ?_
  refine wv_of (book_b h.row h.leaf true).1 ?_
  refine wv_of (book_b h.row h.leaf true).2 ?_
  refine wv_of (v := .ptr id [] 0) rfl ?_
  refine wv_of (v := .ptr id [0] 0) rfl ?_
  refine wv_of (book_l h.row h.leaf false).1 ?_
  refine wv_of (book_l h.row h.leaf false).2 ?_
  refine wv_of (v := .ptr id [] 0) rfl ?_
  refine wv_of (v := .ptr id [0] 0) rfl ?_
  refine wv_of (book_l h.row h.leaf true).1 ?_
  refine wv_of (book_l h.row h.leaf true).2 ?_
  refine wv_of (v := pairW n m) rfl ?_
  have hFok := foldS_ok (bo := b false) (bp := b true) (co := (n : Int)) (cp := (m : Int)) hI.ok0 hI.ok1
  have hFlen := foldS_len (b false) (b true) (l false) (l true) n m
  refine ledger_Fold.use (Own.capSl (h.own false)) (Own.capSl (h.own true)) hI.ok0 hI.ok1 (by omega) (by omega) fun x G19 t19 => ?_
  have hwh := whole_foldM (bo := b false) (bp := b true) (a := (l false).take n) (b := (l true).take m)
  rw [← t2] at hwh
  obtain ⟨F, hF⟩ : ∃ F, F = foldS (b false) (b true) (l false) (l true) n m := ⟨_, rfl⟩
  rw [← hF] at t1 hFok hFlen hwh t19 ⊢
  obtain ⟨w1, w2, w3⟩ := hwh t1
  have lx := (OwnL.own (i := 0) t19 rfl).leaf
  refine wv_of (tv0 _ _) ?_
  refine wv_of (tv1 _ _) ?_
  refine newLed t19 lx fun i22 G24 s24 => ?_
  rw [t1, ez0, wv_some, brB_true]
  have h24 := h.ch s24.ch
  refine wv_of (led_load (i := 0) s24 rfl lx).2.2.2 ?_
  refine wv_of (v := .ptr id [] 0) rfl ?_
  refine wv_of (v := .ptr id [2] 4) rfl ?_
  refine wv_of (book_b h24.row h24.leaf false).1 ?_
  refine wv_of (book_b h24.row h24.leaf false).2 ?_
  refine wv_of (v := .ptr id [] 0) rfl ?_
  refine wv_of (v := .ptr id [2] 4) rfl ?_
  refine wv_of (book_b h24.row h24.leaf true).1 ?_
  refine wv_of (book_b h24.row h24.leaf true).2 ?_
  rw [vbin_add, i64_in (by omega) (by omega), wv_some]
  refine escrowlaw13_whole.use (OwnL.own (i := 1) s24 rfl).is hFok (by omega) w1 w2 hb w3 fun G37 c37 => ?_
  exact hQ _ (s24.tmp c37).ch

set_option maxHeartbeats 2000000 in
theorem escrowlaw13_book_removable.use {s : Bool} (h : BookAt G id v f b l) (hI : BookB b l f) (hQ : ∀ (ids : List Int) w G', (∀ x ∈ ids, ∃ u ∈ (l !s).take (f !s), u.kind = 1 ∧ u.id = x) → ids.length ≤ 2048 → Sp [] G [OwnL 1 w (ids.map (.int .i64))] G' → Q w G') :
    ACalls P escrowlaw13_book_removable.n [.ptr id [] 0, .int .i64 (sI s)] G Q := by
  refine escrowlaw13_book_removable.sound ?_
  unfold escrowlaw13_book_removable.S
  have hi := hI.at s
  have hle := hi.le1
  have hm1 := hi.m1
  have hm0 := hi.m0
  intro R hR
  have loop : ∀ (n j : Nat) (ids : List Int) (w : AVal) (G' : Heap), f (!s) - j = n → j ≤ f (!s) → ids.length ≤ j → (∀ x ∈ ids, ∃ u ∈ (l !s).take (f !s), u.kind = 1 ∧ u.id = x) → Sp [] G [OwnL 1 w (ids.map (.int .i64))] G' → R [.ptr id [] 0, .int .i64 (sI s), w, .int .i64 (j : Int)] G' := by
    intro n
    induction n with
    | zero =>
      intro j ids w G' hn hj hlen hids sp
      have h' := h.ch sp.ch
      refine hR _ _ _ _ _ ?_
      refine wv_of (sub_side s) ?_
      refine wv_of (v := .ptr id [] 0) rfl ?_
      refine wv_of (v := .ptr id [1] 2) rfl ?_
      refine wv_of (book_f h'.row h'.leaf !s).1 ?_
      refine wv_of (book_f h'.row h'.leaf !s).2 ?_
      rw [vbin_lss, wv_some, decide_eq_false (by omega), brB_false]
      exact hQ ids w G' hids (by omega) sp
    | succ n ih =>
      intro j ids w G' hn hj hlen hids sp
      have h' := h.ch sp.ch
      obtain ⟨u, hu⟩ : ∃ u, (l !s)[j]? = some u := ⟨_, List.getElem?_eq_getElem (by omega)⟩
      have huo := hi.ok1 u (List.mem_of_getElem? hu)
      refine hR _ _ _ _ _ ?_
      refine wv_of (sub_side s) ?_
      refine wv_of (v := .ptr id [] 0) rfl ?_
      refine wv_of (v := .ptr id [1] 2) rfl ?_
      refine wv_of (book_f h'.row h'.leaf !s).1 ?_
      refine wv_of (book_f h'.row h'.leaf !s).2 ?_
      rw [vbin_lss, wv_some, decide_eq_true (by omega), brB_true]
      refine wv_of (sub_side s) ?_
      refine wv_of (v := .ptr id [] 0) rfl ?_
      refine wv_of (v := .ptr id [0] 0) rfl ?_
      refine wv_of (book_l h'.row h'.leaf !s).1 ?_
      refine wv_of (book_l h'.row h'.leaf !s).2 ?_
      obtain ⟨p, e1, e2⟩ := upd_at (h'.own !s).is hu
      refine wv_of e1 ?_
      refine wv_of e2 ?_
      refine newU sp huo fun i20 G22 s22 => ?_
      refine wv_of (upd_load (i := 0) s22 rfl huo).1 ?_
      rw [vbin_neq, wv_some]
      intro R25 hR25
      have h22 := h.ch s22.ch
      have skip : R [.ptr id [] 0, .int .i64 (sI s), w, .int .i64 ((j + 1 : Nat) : Int)] G22 := ih (j + 1) ids w G22 (by omega) (by omega) (by omega) hids (s22.erase 0)
      have inner : ∀ (n k : Nat) (th : Bool), (l s).length - k = n → k ≤ (l s).length → (th = false → u.kind = 1) → R25 [.ptr id [] 0, .int .i64 (sI s), w, .int .i64 (j : Int), .ptr i20 [] 0, .bool th, .int .i64 (k : Int)] G22 := by
        intro n
        induction n with
        | zero =>
          intro k th hn2 hk hth
          refine hR25 _ _ _ _ _ _ _ _ ?_
          intro J68
          refine wv_of (v := .ptr id [] 0) rfl ?_
          refine wv_of (v := .ptr id [0] 0) rfl ?_
          refine wv_of (book_l h22.row h22.leaf s).1 ?_
          refine wv_of (book_l h22.row h22.leaf s).2 ?_
          refine wv_of (upd_len (h22.own s).is) ?_
          rw [vbin_lss, wv_some, decide_eq_false (by omega), brB_false]
          simp -zeta only [J68, brB_false]
          rw [vun_not, wv_some]
          cases th with
          | true =>
            rw [Bool.not_true, brB_false, vbin_add, i64_in (by omega) (by omega), wv_some]
            exact skip
          | false =>
            rw [Bool.not_false, brB_true]
            refine wv_of (v := .ptr i20 [1] 1) rfl ?_
            refine wv_of (upd_load (i := 0) s22 rfl huo).2.1 ?_
            refine growV (T := T) (ts := t_sl_int64) (e := t_int64) (si := ti_sl_int64) (ie := ti_int64) (i := 1) (c := .int .i64 u.id) T_sl_int64 rfl T_int64 rfl (by decide) s22 rfl rfl rfl (by decide) (by rw [show ti_int64.bytes = 8 from rfl, List.length_map]; omega) fun w' G75 s75 => ?_
            rw [vbin_add, i64_in (by omega) (by omega), wv_some]
            refine ih (j + 1) (ids ++ [u.id]) w' G75 (by omega) (by omega) (by rw [List.length_append, List.length_singleton]; omega) (mem_snoc hids ⟨u, List.mem_of_getElem? (i := j) (by rw [List.getElem?_take_of_lt (by omega)]; exact hu), hth rfl, rfl⟩) ?_
            have s : Sp [] G [OwnL 1 w' (ids.map (.int .i64) ++ [.int .i64 u.id])] G75 := s75.erase 0
            simpa using s
        | succ n ih2 =>
          intro k th hn2 hk hth
          obtain ⟨z, hz⟩ : ∃ u, (l s)[k]? = some u := ⟨_, List.getElem?_eq_getElem (by omega)⟩
          refine hR25 _ _ _ _ _ _ _ _ ?_
          intro J68
          refine wv_of (v := .ptr id [] 0) rfl ?_
          refine wv_of (v := .ptr id [0] 0) rfl ?_
          refine wv_of (book_l h22.row h22.leaf s).1 ?_
          refine wv_of (book_l h22.row h22.leaf s).2 ?_
          refine wv_of (upd_len (h22.own s).is) ?_
          rw [vbin_lss, wv_some, decide_eq_true (by omega), brB_true, vun_not, wv_some]
          cases th with
          | true =>
            simp -zeta only [Bool.not_true, J68, brB_false]
            rw [vun_not, wv_some, Bool.not_true, brB_false, vbin_add, i64_in (by omega) (by omega), wv_some]
            exact skip
          | false =>
            simp -zeta only [Bool.not_false, J68, brB_true]
            refine wv_of (v := .ptr id [] 0) rfl ?_
            refine wv_of (v := .ptr id [0] 0) rfl ?_
            refine wv_of (book_l h22.row h22.leaf s).1 ?_
            refine wv_of (book_l h22.row h22.leaf s).2 ?_
            obtain ⟨x, y, e1, e2, e3⟩ := fldK (h22.own s).is hz
            refine wv_of e1 ?_
            refine wv_of e2 ?_
            refine wv_of e3 ?_
            rw [vbin_neq, wv_some, brB_ndec]
            refine ⟨fun _ => ?_, fun _ => ?_⟩
            · refine wv_of (v := .ptr id [] 0) rfl ?_
              refine wv_of (v := .ptr id [0] 0) rfl ?_
              refine wv_of (book_l h22.row h22.leaf s).1 ?_
              refine wv_of (book_l h22.row h22.leaf s).2 ?_
              obtain ⟨x, y, e1, e2, e3⟩ := fldI (h22.own s).is hz
              refine wv_of e1 ?_
              refine wv_of e2 ?_
              refine wv_of e3 ?_
              refine wv_of (v := .ptr i20 [1] 1) rfl ?_
              refine wv_of (upd_load (i := 0) s22 rfl huo).2.1 ?_
              rw [vbin_eql, wv_some, vbin_add, i64_in (by omega) (by omega), wv_some]
              exact ih2 (k + 1) _ (by omega) (by omega) fun _ => hth rfl
            · rw [vbin_add, i64_in (by omega) (by omega), wv_some]
              exact ih2 (k + 1) false (by omega) (by omega) fun _ => hth rfl
      exact inner _ 0 _ rfl (by omega) fun hh => by simpa using hh
  exact loop _ 0 [] .nilSlice G rfl (by omega) (by simp) (by simp) ((Sp.nil G).nilL 1)

end

end Go.Esc.M

/- Own work. Chapter 13: a step of the book; LedgerNever. -/
set_option linter.unusedSimpArgs false
set_option linter.unusedVariables false
namespace Go.Esc.M
open Go Go.Esc

def stepV (k sd n : Int) : AVal := .agg [.int .i64 k, .int .i64 sd, .int .i64 n]
theorem cutW_spec {t : Int} (h : 0 ≤ t) : 0 ≤ cutW t ∧ cutW t ≤ t ∧ cutW t ≤ 1152921504606846976 := by
  unfold cutW
  rw [if_neg (by omega)]
  split <;> omega

section
variable {F0 : List AId} {G0 G : Heap} {ps : List LP} {Q : AVal → Heap → Prop} {id : AId} {v : Bool → AVal} {f : Bool → Nat} {b : Bool → Int} {l : Bool → List UpdM}

theorem step_load {i : AId} {k sd n : Int} (hg : G i = some (.own (stepV k sd n))) : vload T G t_int (.ptr i [0] 0) = some (.int .i64 k) ∧ vload T G t_int (.ptr i [1] 1) = some (.int .i64 sd) ∧ vload T G t_int64 (.ptr i [2] 2) = some (.int .i64 n) :=
  ⟨vload_fld (c := .int .i64 k) hg rfl rfl rfl T_int rfl, vload_fld (c := .int .i64 sd) hg rfl rfl rfl T_int rfl, vload_fld (c := .int .i64 n) hg rfl rfl rfl T_int64 rfl⟩
theorem side_of (sd : Int) : ∃ s : Bool, sd % 2 = sI s := by
  by_cases h : sd % 2 = 0
  · exact ⟨false, h⟩
  · exact ⟨true, by show sd % 2 = 1; omega⟩

set_option maxRecDepth 20000 in
set_option maxHeartbeats 8000000 in
theorem escrowlaw13_book_step.use {k sd n : Int} (hs : Sp [] G0 (bookSp id v f b l) G) (hI : BookB b l f) (hQ : ∀ v' f' l' G', BookB b l' f' → Sp [] G0 (bookSp id v' f' b l') G' → Q (.bool true) G') :
    ACalls P escrowlaw13_book_step.n [.ptr id [] 0, stepV k sd n] G Q := by
  refine escrowlaw13_book_step.sound ?_
  unfold escrowlaw13_book_step.S
  intro i1 f1
  have s2 := hs.row f1 (stepV k sd n)
  revert s2
  generalize G.upd i1 (.own (stepV k sd n)) = G2
  intro s2
  have keep : ∀ G', Sp [] G0 (RowL i1 (stepV k sd n) :: bookSp id v f b l) G' → Q (.bool true) G' := fun G' s' => hQ v f l G' hI (s'.erase 0)
  obtain ⟨l0, l1, l2⟩ := step_load (RowL.own (i := 0) s2 rfl)
  refine wv_of l1 ?_
  refine wv_of (andK sd (M := 2) 1 (by decide) rfl rfl) ?_
  obtain ⟨s, hsd⟩ := side_of sd
  rw [hsd]
  have hi := hI.at s
  have hm0 := hi.m0
  have hm1 := hi.m1
  have hle0 := hi.le0
  have hle1 := hi.le1
  have hbs := hi.bs
  have hb0 := hi.b0n
  have hb1 := hi.b1n
  have B2 : BookAt G2 id v f b l := Sp.book (show Sp [] G0 (bookSp id v f b l) G2 from s2.erase 0)
  refine wv_of l0 ?_
  rw [vbin_eql, wv_some, brB_dec]
  refine ⟨fun hk => ?_, fun hk => ?_⟩
  · refine escrowlaw13_book_spendable.use B2 hI fun G8 c8 => ?_
    have s8 := s2.tmp c8
    have B8 : BookAt G8 id v f b l := Sp.book (show Sp [] G0 (bookSp id v f b l) G8 from s8.erase 0)
    have hsb := SB_le hi
    obtain ⟨hc0, hc1, hc2⟩ := cutW_spec hi.s0
    obtain ⟨N, hN⟩ : ∃ N, N = cutW (SB (b s) (l s) (l !s) (f s) (f !s)) := ⟨_, rfl⟩
    rw [← hN] at hc0 hc1 hc2 ⊢
    have hbsum : b false + b true = b s + b !s := by cases s <;> simp <;> omega
    intro J57
    rw [vbin_lss, wv_some, decide_eq_false (by omega), brB_false]
    refine wv_of (v := .ptr id [] 0) rfl ?_
    refine wv_of (v := .ptr id [2] 4) rfl ?_
    refine wv_of (book_b B8.row B8.leaf false).1 ?_
    refine wv_of (book_b B8.row B8.leaf false).2 ?_
    refine wv_of (v := .ptr id [] 0) rfl ?_
    refine wv_of (v := .ptr id [2] 4) rfl ?_
    refine wv_of (book_b B8.row B8.leaf true).1 ?_
    refine wv_of (book_b B8.row B8.leaf true).2 ?_
    rw [vbin_add, i64_in (by omega) (by omega), wv_some, vbin_gtr, wv_some, decide_eq_false (by omega)]
    simp -zeta only [J57, brB_false]
    intro J56
    have no : J56 (.bool false) G8 := by
      simp -zeta only [J56, brB_false]
      exact keep _ s8
    rw [vbin_gtr, wv_some, brB_dec]
    refine ⟨fun hpos => ?_, fun _ => no⟩
    refine wv_of (v := .ptr id [] 0) rfl ?_
    refine wv_of (v := .ptr id [0] 0) rfl ?_
    refine wv_of (book_l B8.row B8.leaf s).1 ?_
    refine wv_of (book_l B8.row B8.leaf s).2 ?_
    refine wv_of (upd_len (B8.own s).is) ?_
    rw [vbin_lss, wv_some]
    by_cases hlt : ((l s).length : Int) < 2048
    · rw [decide_eq_true hlt]
      simp -zeta only [J56, brB_true]
      obtain ⟨_, _, m2⟩ := step_load (RowL.own (i := 0) s8 rfl)
      refine wv_of (v := .ptr id [] 0) rfl ?_
      refine wv_of (v := .ptr id [0] 0) rfl ?_
      refine wv_of (book_l B8.row B8.leaf s).1 ?_
      refine wv_of (book_l B8.row B8.leaf s).2 ?_
      refine wv_of (v := .ptr id [] 0) rfl ?_
      refine wv_of (v := .ptr id [0] 0) rfl ?_
      refine wv_of (book_l B8.row B8.leaf s).1 ?_
      refine wv_of (book_l B8.row B8.leaf s).2 ?_
      refine wv_of m2 ?_
      rw [vbin_sub, i64_in (by omega) (by omega), wv_some]
      refine wv_of (v := .ptr id [] 0) rfl ?_
      refine wv_of (v := .ptr id [0] 0) rfl ?_
      refine escrowlaw13_adds.use (B8.own s).is (by omega) ?_
      refine ⟨⟨m2, (book_l B8.row B8.leaf s).2, trivial⟩, ?_⟩
      refine escrowlaw13_mod.use (by omega) (by omega) fun x hx0 hx1 => ?_
      refine ⟨⟨(book_l B8.row B8.leaf s).2, trivial⟩, ?_⟩
      rw [vbin_add, i64_in (by omega) (by omega), wv_some]
      have hadd := addsN_le (l s)
      obtain ⟨u, hu⟩ : ∃ u : UpdM, u = ⟨1, ((addsN (l s) : Nat) : Int), 1 + x, h0, []⟩ := ⟨_, rfl⟩
      have huo : u.ok := by rw [hu]; exact ⟨i64_k 1 (by decide) (by decide), i64_k ((addsN (l s) : Nat) : Int) (by omega) (by omega), i64_k (1 + x) (by omega) (by omega), rfl, by simp⟩
      have huv : validU u = true := by
        have q1 : ((addsN (l s) : Nat) : Int) < 2048 := by omega
        have q2 : 1 ≤ 1 + x := by omega
        have q3 : 1 + x ≤ 1152921504606846976 := by omega
        rw [hu]; simp [validU, maxAm, q1, q2, q3]
      refine wv_of (v := u.av) (by rw [hu]; rfl) ?_
      have hps : (RowL i1 (stepV k sd n) :: bookSp id v f b l)[1 + sN s]? = some (OwnL 36 (v s) ((l s).map UpdM.av)) := by cases s <;> rfl
      refine grow_upd (i := 1 + sN s) s8 hps huo (by omega) fun w' G52 s52 => ?_
      refine wv_of (book_l B8.row B8.leaf s).1 ?_
      have lw : Leaf w' := (OwnL.own (v := w') (vs := (l s ++ [u]).map UpdM.av) (n := 36) (i := 1 + sN s) s52 (by cases s <;> rfl)).leaf
      refine book_setl (i := 3) s52 (by cases s <;> rfl) B8.leaf s lw fun G54 s54 => ?_
      refine hQ (setB v s w') f (setB l s (l s ++ [u])) G54 (BookB.of s ?_) ?_
      · rw [setB_same, setB_not]
        exact hi.add (by omega) (by rw [hu]) (by rw [hu]) huo huv (by rw [hu]; show 1 + x ≤ _; omega)
      · cases s
        · exact s54.erase 0
        · exact s54.erase 0
    · rw [decide_eq_false hlt]
      exact no
  · rw [vbin_eql, wv_some]
    intro J122
    have four : J122 (.bool false) G2 := by
      simp -zeta only [J122, brB_false]
      rw [vbin_eql, wv_some, brB_dec]
      refine ⟨fun _ => ?_, fun _ => keep _ s2⟩
      refine wv_of (v := .ptr id [] 0) rfl ?_
      refine wv_of (v := .ptr id [1] 2) rfl ?_
      refine wv_of (book_f B2.row B2.leaf s).1 ?_
      refine wv_of (book_f B2.row B2.leaf s).2 ?_
      refine wv_of l2 ?_
      refine wv_of (v := .ptr id [] 0) rfl ?_
      refine wv_of (v := .ptr id [0] 0) rfl ?_
      refine wv_of (book_l B2.row B2.leaf s).1 ?_
      refine wv_of (book_l B2.row B2.leaf s).2 ?_
      refine wv_of (upd_len (B2.own s).is) ?_
      refine wv_of (v := .ptr id [] 0) rfl ?_
      refine wv_of (v := .ptr id [1] 2) rfl ?_
      refine wv_of (book_f B2.row B2.leaf s).1 ?_
      refine wv_of (book_f B2.row B2.leaf s).2 ?_
      rw [vbin_sub, i64_in (by omega) (by omega), wv_some]
      refine wv_of (v := .ptr id [] 0) rfl ?_
      refine wv_of (v := .ptr id [1] 2) rfl ?_
      refine escrowlaw13_mod.use (by omega) (by omega) fun x hx0 hx1 => ?_
      refine ⟨⟨(book_f B2.row B2.leaf s).2, trivial⟩, ?_⟩
      rw [vbin_add, i64_in (by omega) (by omega), wv_some]
      refine wv_of (book_f B2.row B2.leaf s).1 ?_
      refine book_setf (i := 3) (n := f s + x.toNat) s2 rfl B2.leaf s (by omega) fun G54 s54 => ?_
      refine hQ v (setB f s (f s + x.toNat)) l G54 (BookB.of s ?_) (s54.erase 0)
      rw [setB_same, setB_not]
      exact hi.fix (by omega) (by omega)
    have rem : (k = 2 ∨ k = 3) → J122 (.bool true) G2 := by
      intro hk23
      simp -zeta only [J122, brB_true]
      refine escrowlaw13_book_removable.use B2 hI fun ids w G63 hids hidl t63 => ?_
      obtain ⟨F63, o63, c63⟩ := t63.out
      have s63 := s2.new o63 c63
      have s63 : Sp [] G0 (OwnL 1 w (ids.map (.int .i64)) :: RowL i1 (stepV k sd n) :: bookSp id v f b l) G63 := s63
      have B63 : BookAt G63 id v f b l := Sp.book (show Sp [] G0 (bookSp id v f b l) G63 from (s63.erase 0).erase 0)
      intro J96
      have no : J96 (.bool false) G63 := by
        simp -zeta only [J96, brB_false]
        exact keep _ (s63.erase 0)
      have hlen : vlen T G63 t_sl_int64 w = some (.int .i64 (ids.length : Nat)) := by
        rw [(OwnL.own (i := 0) s63 rfl).is.len (i := ti_sl_int64) T_sl_int64 rfl, List.length_map]
      refine wv_of hlen ?_
      rw [vbin_gtr, wv_some, brB_dec]
      refine ⟨fun hpos => ?_, fun _ => no⟩
      refine wv_of (v := .ptr id [] 0) rfl ?_
      refine wv_of (v := .ptr id [0] 0) rfl ?_
      refine wv_of (book_l B63.row B63.leaf s).1 ?_
      refine wv_of (book_l B63.row B63.leaf s).2 ?_
      refine wv_of (upd_len (B63.own s).is) ?_
      rw [vbin_lss, wv_some]
      by_cases hlt : ((l s).length : Int) < 2048
      · rw [decide_eq_true hlt]
        simp -zeta only [J96, brB_true]
        obtain ⟨m0, _, m2⟩ := step_load (RowL.own (i := 1) s63 rfl)
        refine wv_of (v := .ptr id [] 0) rfl ?_
        refine wv_of (v := .ptr id [0] 0) rfl ?_
        refine wv_of (book_l B63.row B63.leaf s).1 ?_
        refine wv_of (book_l B63.row B63.leaf s).2 ?_
        refine wv_of m0 ?_
        refine wv_of m2 ?_
        refine wv_of hlen ?_
        rw [vbin_sub, i64_in (by omega) (by omega), wv_some]
        refine wv_of (v := .ptr id [] 0) rfl ?_
        refine wv_of (v := .ptr id [0] 0) rfl ?_
        refine escrowlaw13_mod.use (by omega) (by omega) fun x hx0 hx1 => ?_
        refine ⟨⟨m0, (book_l B63.row B63.leaf s).2, trivial⟩, ?_⟩
        obtain ⟨q, hq⟩ : ∃ q : Nat, x = (q : Int) := ⟨x.toNat, by omega⟩
        subst hq
        obtain ⟨z, hz⟩ : ∃ z, ids[q]? = some z := ⟨_, List.getElem?_eq_getElem (by omega)⟩
        obtain ⟨p, e1, e2⟩ := int_at (OwnL.own (i := 0) s63 rfl).is hz
        refine wv_of e1 ?_
        refine wv_of e2 ?_
        obtain ⟨a, ha, hak, hai⟩ := hids z (List.mem_of_getElem? hz)
        have hav := valid_spec (hi.v1 a (List.mem_of_mem_take ha))
        rw [hai] at hav
        obtain ⟨u, hu⟩ : ∃ u : UpdM, u = ⟨k, z, 0, h0, []⟩ := ⟨_, rfl⟩
        have huo : u.ok := by rw [hu]; exact ⟨i64_k k (by omega) (by omega), i64_k z (by omega) (by omega), i64_k 0 (by decide) (by decide), rfl, by simp⟩
        have huv : validU u = true := by
          rw [hu]
          rcases hk23 with h | h <;> simp [validU, h, hav.1, hav.2.1]
        refine wv_of (v := u.av) (by rw [hu]; rfl) ?_
        have hps : (OwnL 1 w (ids.map (.int .i64)) :: RowL i1 (stepV k sd n) :: bookSp id v f b l)[2 + sN s]? = some (OwnL 36 (v s) ((l s).map UpdM.av)) := by cases s <;> rfl
        refine grow_upd (i := 2 + sN s) s63 hps huo (by omega) fun w' G52 s52 => ?_
        refine wv_of (book_l B63.row B63.leaf s).1 ?_
        have lw : Leaf w' := (OwnL.own (v := w') (vs := (l s ++ [u]).map UpdM.av) (n := 36) (i := 2 + sN s) s52 (by cases s <;> rfl)).leaf
        refine book_setl (i := 4) s52 (by cases s <;> rfl) B63.leaf s lw fun G54 s54 => ?_
        refine hQ (setB v s w') f (setB l s (l s ++ [u])) G54 (BookB.of s ?_) ?_
        · rw [setB_same, setB_not]
          exact hi.rem (by omega) (by rw [hu]; exact hk) ⟨a, ha, hak, by rw [hu]; exact hai⟩ huo huv
        · cases s
          · exact (s54.erase 0).erase 0
          · exact (s54.erase 0).erase 0
      · rw [decide_eq_false hlt]
        exact no
    by_cases h2 : k = 2
    · rw [decide_eq_true h2, brB_true]
      exact rem (.inl h2)
    · rw [decide_eq_false h2, brB_false, vbin_eql, wv_some]
      by_cases h3 : k = 3
      · rw [decide_eq_true h3]
        exact rem (.inr h3)
      · rw [decide_eq_false h3]
        exact four

end

theorem wt_Steps {G : Heap} {R d : Nat} {v : AVal} {m : Nat} (h : wt T G R (d + 4) t_sl_escrowlaw13_Step v m) : ∃ l : List (Int × Int × Int), RoSl 3 G v (l.map fun p => stepV p.1 p.2.1 p.2.2) ∧ l.length * 24 ≤ R := by
  obtain ⟨xs, ms, hro, hall, hms, hR, _⟩ := wt_ro (fun p : Int × Int × Int => stepV p.1 p.2.1 p.2.2) (fun _ _ => True) T_sl_escrowlaw13_Step rfl T_escrowlaw13_Step (fun c m h => by
    obtain ⟨cs, ms, rfl, hf, rfl⟩ := wt_struct T_escrowlaw13_Step rfl h
    obtain ⟨c1, cs, m1, ms, rfl, rfl, h1, hf⟩ := wfs_cons hf
    obtain ⟨c2, cs, m2, ms, rfl, rfl, h2, hf⟩ := wfs_cons hf
    obtain ⟨c3, cs, m3, ms, rfl, rfl, h3, hf⟩ := wfs_cons hf
    obtain ⟨rfl, rfl⟩ := wfs_nil hf
    obtain ⟨a, rfl, _⟩ := wt_int T_int rfl h1
    obtain ⟨b, rfl, _⟩ := wt_int T_int rfl h2
    obtain ⟨c, rfl, _⟩ := wt_int T_int64 rfl h3
    exact ⟨(a, b, c), rfl, trivial⟩) h
  exact ⟨xs, hro, hR⟩

set_option maxRecDepth 20000 in
set_option maxHeartbeats 8000000 in
theorem law_LedgerNever {G : Heap} {a0 b0 v : AVal} {m0 m1 m2 : Nat} (h0' : wt T G reachBytes 4 t_int64 a0 m0) (h1 : wt T G reachBytes 4 t_int64 b0 m1) (h2 : wt T G reachBytes 4 t_sl_escrowlaw13_Step v m2) :
    ACalls P escrowlaw13_LedgerNever.n [a0, b0, v] G fun v _ => v = .bool true := by
  obtain ⟨a0, rfl, _⟩ := wt_int T_int64 rfl h0'
  obtain ⟨b0, rfl, _⟩ := wt_int T_int64 rfl h1
  obtain ⟨sc, hro, hR⟩ := wt_Steps h2
  have hR : sc.length * 24 ≤ 140737488351232 := hR
  refine escrowlaw13_LedgerNever.sound ?_
  unfold escrowlaw13_LedgerNever.S
  refine escrowlaw13_first.use fun G2 c2 => ?_
  have s2 := (Sp.nil G).tmp c2
  rw [vun_not, wv_some, Bool.not_true, brB_false]
  refine wv_of (v := bookV (fun _ => .nilSlice) (fun _ => 0) (fun _ => 0)) rfl ?_
  intro id fid
  have s6 := s2.row fid (bookV (fun _ => .nilSlice) (fun _ => 0) (fun _ => 0))
  revert s6
  generalize G2.upd id _ = G6
  intro s6
  refine escrowlaw13_bases.use fun bo bp x1 x2 x3 x4 => ?_
  refine wv_of (tv0 _ _) ?_
  refine wv_of (tv1 _ _) ?_
  have lv0 : ∀ s : Bool, Leaf ((fun _ => AVal.nilSlice) s) := fun _ => Leaf.nil
  refine wv_of (book_b (RowL.own (i := 0) s6 rfl) lv0 false).1 ?_
  refine book_setb (i := 0) s6 rfl lv0 false fun G12 s12 => ?_
  refine wv_of (book_b (RowL.own (i := 0) s12 rfl) lv0 true).1 ?_
  refine book_setb (i := 0) s12 rfl lv0 true fun G14 s14 => ?_
  obtain ⟨b, hb⟩ : ∃ b : Bool → Int, b = fun s => bif s then bp else bo := ⟨_, rfl⟩
  have s14 : Sp [] G (bookSp id (fun _ => .nilSlice) (fun _ => 0) b (fun _ => [])) G14 := by
    have e : bookV (fun _ => .nilSlice) (fun _ => 0) (setB (setB (fun _ => 0) false bo) true bp) = bookV (fun _ => .nilSlice) (fun _ => 0) b := by rw [hb]; rfl
    have s := s14
    have s : Sp [] G [RowL id (bookV (fun _ => .nilSlice) (fun _ => 0) (setB (setB (fun _ => 0) false bo) true bp))] G14 := s14
    rw [e] at s
    exact (s.nilL 36).nilL 36
  have hI0 : BookB b (fun _ => []) (fun _ => 0) := by
    rw [hb]
    refine ⟨by simp, by simp, by simp, by simp, by simp, by simp, by simp, by simp, fun j u h => by simp at h, fun j u h => by simp at h, fun u h => by simp at h, fun u h => by simp at h, ?_, ?_, x1, x3, by show bo + bp ≤ _; omega⟩
    · show 0 ≤ SB bo [] [] 0 0
      simp [SB, sumF]; exact x1
    · show 0 ≤ SB bp [] [] 0 0
      simp [SB, sumF]; exact x3
  intro R15 hR15
  have stepAt : ∀ {G' : Heap} {j : Nat} {p : Int × Int × Int}, Ch [] G [] G' → sc[j]? = some p → ∃ a, viaddr T t_sl_escrowlaw13_Step v (.int .i64 (j : Int)) = some a ∧ vload T G' t_escrowlaw13_Step a = some (stepV p.1 p.2.1 p.2.2) := fun c hj =>
    (hro.is.ch' c).at_ (k := .i64) (i := ti_sl_escrowlaw13_Step) (ie := ti_escrowlaw13_Step) (T := T) (t := t_sl_escrowlaw13_Step) (e := t_escrowlaw13_Step) T_sl_escrowlaw13_Step rfl T_escrowlaw13_Step (by rw [List.getElem?_map, hj]; rfl) rfl
  have stepN : ∀ {G' : Heap} {j : Nat} {p : Int × Int × Int}, Ch [] G [] G' → sc[j]? = some p → ∃ a c, viaddr T t_sl_escrowlaw13_Step v (.int .i64 (j : Int)) = some a ∧ vfaddr T t_escrowlaw13_Step a 2 = some c ∧ vload T G' t_int64 c = some (.int .i64 p.2.2) := fun c hj =>
    IsSl.fld (k := .i64) (i := ti_sl_escrowlaw13_Step) (ie := ti_escrowlaw13_Step) T_sl_escrowlaw13_Step rfl T_escrowlaw13_Step (fs := [(t_int, 0), (t_int, 1), (t_int64, 2)]) (f := 2) (o := 2) rfl rfl T_int64 (by decide) (hro.is.ch' c) (by rw [List.getElem?_map, hj]; rfl) rfl rfl rfl
  have slen : ∀ {G' : Heap}, Ch [] G [] G' → vlen T G' t_sl_escrowlaw13_Step v = some (.int .i64 (sc.length : Nat)) := fun c => by
    rw [(hro.is.ch' c).len (i := ti_sl_escrowlaw13_Step) T_sl_escrowlaw13_Step rfl, List.length_map]
  have loop : ∀ (n j : Nat) (w : Bool → AVal) (f : Bool → Nat) (l : Bool → List UpdM) (G' : Heap), sc.length - j = n → j ≤ sc.length → BookB b l f → Sp [] G (bookSp id w f b l) G' → R15 [v, .ptr id [] 0, .int .i64 (j : Int)] G' := by
    intro n
    induction n with
    | zero =>
      intro j w f l G' hn hj hI sp
      refine hR15 _ _ _ _ ?_
      refine wv_of (slen sp.ch) ?_
      rw [vbin_lss, wv_some, decide_eq_false (by omega), brB_false]
    | succ n ih =>
      intro j w f l G' hn hj hI sp
      obtain ⟨p, hp⟩ : ∃ p, sc[j]? = some p := ⟨_, List.getElem?_eq_getElem (by omega)⟩
      refine hR15 _ _ _ _ ?_
      refine wv_of (slen sp.ch) ?_
      rw [vbin_lss, wv_some, decide_eq_true (by omega), brB_true]
      obtain ⟨a, e1, e2⟩ := stepAt sp.ch hp
      refine wv_of e1 ?_
      refine wv_of e2 ?_
      refine escrowlaw13_book_step.use sp hI fun w f l G25 hI s25 => ?_
      rw [vun_not, wv_some, Bool.not_true, brB_false]
      have next : ∀ G3, Sp [] G (bookSp id w f b l) G3 → R15 [v, .ptr id [] 0, .int .i64 ((j + 1 : Nat) : Int)] G3 := fun G3 s3 => ih (j + 1) w f l G3 (by omega) (by omega) hI s3
      have ev : vbin T .add t_int (.int .i64 (j : Int)) (.int .i64 1) = some (.int .i64 ((j + 1 : Nat) : Int)) := by
        rw [vbin_add, i64_in (by omega) (by omega)]; rfl
      have lf0 := hI.le0
      have lf1 := hI.le1
      have lm0 := hI.m0
      have lm1 := hI.m1
      intro J84
      have look : J84 (.bool false) G25 := by
        simp -zeta only [J84, brB_false]
        have B : BookAt G25 id w f b l := (Sp.book s25)
        refine wv_of (v := .ptr id [] 0) rfl ?_
        refine wv_of (v := .ptr id [0] 0) rfl ?_
        refine wv_of (book_l B.row B.leaf false).1 ?_
        refine wv_of (book_l B.row B.leaf false).2 ?_
        refine wv_of (upd_len (B.own false).is) ?_
        refine wv_of (v := .ptr id [] 0) rfl ?_
        refine wv_of (v := .ptr id [0] 0) rfl ?_
        refine wv_of (book_l B.row B.leaf true).1 ?_
        refine wv_of (book_l B.row B.leaf true).2 ?_
        refine wv_of (upd_len (B.own true).is) ?_
        refine wv_of (v := .ptr id [] 0) rfl ?_
        refine wv_of (v := .ptr id [1] 2) rfl ?_
        refine wv_of (book_f B.row B.leaf false).1 ?_
        refine wv_of (book_f B.row B.leaf false).2 ?_
        refine wv_of (v := .ptr id [] 0) rfl ?_
        refine wv_of (v := .ptr id [1] 2) rfl ?_
        refine wv_of (book_f B.row B.leaf true).1 ?_
        refine wv_of (book_f B.row B.leaf true).2 ?_
        intro J83
        have good : ∀ G3, Sp [] G (bookSp id w f b l) G3 → J83 (.bool false) G3 := by
          intro G3 s3
          simp -zeta only [J83, brB_false]
          obtain ⟨a, c, e1, e2, e3⟩ := stepN s3.ch hp
          refine wv_of e1 ?_
          refine wv_of e2 ?_
          refine wv_of e3 ?_
          rw [vbin_sub, i64_in (by omega) (by omega), wv_some]
          refine wv_of e1 ?_
          refine wv_of e2 ?_
          refine wv_of e3 ?_
          rw [vbin_shr _ _ _ _ _ _ (by decide), wv_some, vbin_sub, i64_in (by omega) (by omega), wv_some]
          refine escrowlaw13_mod.use (by omega) (by omega) fun x hx0 hx1 => ?_
          refine ⟨⟨e3, trivial⟩, ?_⟩
          rw [vbin_add, i64_in (by omega) (by omega), wv_some]
          refine escrowlaw13_mod.use (by omega) (by omega) fun y hy0 hy1 => ?_
          rw [vbin_add, i64_in (by omega) (by omega), wv_some]
          have ex : ((f false : Nat) : Int) + x = ((f false + x.toNat : Nat) : Int) := by omega
          have ey : ((f true : Nat) : Int) + y = ((f true + y.toNat : Nat) : Int) := by omega
          rw [ex, ey]
          refine escrowlaw13_book_taken.use (Sp.book s3) hI (by omega) (by omega) (by omega) (by omega) fun G81 c81 => ?_
          have s81 := s3.tmp c81
          rw [vun_not, wv_some, Bool.not_true, brB_false]
          exact wv_of ev (next _ s81)
        refine escrowlaw13_book_taken.use B hI lf0 (Nat.le_refl _) lf1 (Nat.le_refl _) fun G52 c52 => ?_
        have s52 := s25.tmp c52
        rw [vun_not, wv_some, Bool.not_true, brB_false]
        refine escrowlaw13_book_taken.use (Sp.book s52) hI (Nat.le_refl _) lf0 lf1 (Nat.le_refl _) fun G55 c55 => ?_
        have s55 := s52.tmp c55
        rw [vun_not, wv_some, Bool.not_true, brB_false]
        refine escrowlaw13_book_taken.use (Sp.book s55) hI lf0 (Nat.le_refl _) (Nat.le_refl _) lf1 fun G58 c58 => ?_
        have s58 := s55.tmp c58
        rw [vun_not, wv_some, Bool.not_true, brB_false]
        refine escrowlaw13_book_taken.use (Sp.book s58) hI (Nat.le_refl _) lf0 (Nat.le_refl _) lf1 fun G61 c61 => ?_
        have s61 := s58.tmp c61
        rw [vun_not, wv_some, Bool.not_true]
        exact good _ s61
      have skip : J84 (.bool true) G25 := by
        simp -zeta only [J84, brB_true]
        exact wv_of ev (next _ s25)
      rw [vbin_gtr, wv_some, brB_dec]
      refine ⟨fun _ => ?_, fun _ => look⟩
      rw [vbin_add, i64_in (by omega) (by omega), wv_some]
      refine wv_of (slen s25.ch) ?_
      rw [vbin_lss, wv_some]
      by_cases h : ((j : Int) + 50 < (sc.length : Int))
      · rw [decide_eq_true h]; exact skip
      · rw [decide_eq_false h]; exact look
  exact loop _ 0 _ _ _ G14 rfl (by omega) hI0 s14

end Go.Esc.M
