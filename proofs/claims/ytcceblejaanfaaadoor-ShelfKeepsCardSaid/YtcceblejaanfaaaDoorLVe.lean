/- Own work. Chapter 10: slots lent; the head. -/
import Derived.Test.YtcceblejaanfaaaDoorLVd
set_option linter.unusedSimpArgs false
set_option linter.unusedVariables false
namespace Go.Esc.M
open Go Go.Esc

theorem atS_idem (l : List SlotM) (j : Nat) : (if (atS l j).full = true then atS l j else zeroS) = atS l j := by
  unfold atS
  by_cases h : (l.getD j zeroS).full = true
  · rw [if_pos h, if_pos h]
  · rw [if_neg h]; exact ite_self _
theorem atS_laid {l : List SlotM} {n : Int} {secret : List UInt8} {j : Nat} : atS (laidS l n secret) j = if j < 49 then (if j = level (pl n) then ⟨n, secret, true⟩ else atS l j) else zeroS := by
  by_cases hj : j < 49
  · have hx : (laidS l n secret)[j]? = some (if j = level (pl n) then ⟨n, secret, true⟩ else atS l j) := by
      unfold laidS
      rw [List.getElem?_map, List.getElem?_range hj]
      rfl
    rw [atS_some hx, if_pos hj]
    by_cases h : j = level (pl n)
    · rw [if_pos h]; rfl
    · rw [if_neg h]; exact atS_idem l j
  · rw [atS_none (by rw [laidS_len]; omega), if_neg hj]
theorem atS_nil (j : Nat) : atS [] j = zeroS := atS_none (Nat.zero_le _)
/-- Does a place tell this number? -/
def tells (n : Int) (s : SlotM) : Prop := s.full = true ∧ (deriveS s.secret s.index n).2 = 0
theorem not_tells_zero (n : Int) : ¬ tells n zeroS := fun h => by have := h.1; cases this
theorem getL_skip {n : Int} {l : List SlotM} : ∀ (j : Nat), (∀ q, q < j → ¬ tells n (atS l q)) → getL n l = getL n (l.drop j)
  | 0, _ => rfl
  | j + 1, h => by
    rw [getL_skip j fun q hq => h q (by omega), getL_drop]
    exact if_neg (h j (by omega))
theorem getL_hit {n : Int} {l : List SlotM} (j : Nat) (h : ∀ q, q < j → ¬ tells n (atS l q)) (hj : tells n (atS l j)) : getL n l = ((deriveS (atS l j).secret (atS l j).index n).1, 0) := by
  rw [getL_skip j h, getL_drop]
  exact if_pos hj
theorem getL_miss {n : Int} {l : List SlotM} (h : ∀ q, ¬ tells n (atS l q)) : getL n l = (zero32, 5) := by
  rw [getL_skip l.length fun q _ => h q, List.drop_length]
  rfl
/-- The first place that tells, if any. -/
theorem getL_some {n : Int} {l : List SlotM} {q : Nat} (hq : tells n (atS l q)) : ∃ j, j ≤ q ∧ tells n (atS l j) ∧ (∀ p, p < j → ¬ tells n (atS l p)) ∧ getL n l = ((deriveS (atS l j).secret (atS l j).index n).1, 0) := by
  have : ∀ m, ∀ q, q ≤ m → tells n (atS l q) → ∃ j, j ≤ q ∧ tells n (atS l j) ∧ ∀ p, p < j → ¬ tells n (atS l p) := by
    intro m
    induction m with
    | zero =>
      intro q hq h
      exact ⟨q, Nat.le_refl _, h, fun p hp => by omega⟩
    | succ m ih =>
      intro q hq h
      by_cases hh : ∃ p, p < q ∧ tells n (atS l p)
      · obtain ⟨p, hp, ht⟩ := hh
        obtain ⟨j, h1, h2, h3⟩ := ih p (by omega) ht
        exact ⟨j, by omega, h2, h3⟩
      · exact ⟨q, Nat.le_refl _, h, fun p hp ht => hh ⟨p, hp, ht⟩⟩
  obtain ⟨j, h1, h2, h3⟩ := this q q (Nat.le_refl _) hq
  exact ⟨j, h1, h2, h3, getL_hit j h3 h2⟩
theorem putS_nil {n : Int} {s : List UInt8} (hn : okN n = true) : putS [] n s = (laidS [] n s, 0) := by
  unfold putS
  have : okputS [] n s = true := okputS_iff.2 fun j _ => by rw [atS_nil]; rfl
  rw [if_neg (by simp), if_pos hn, if_pos this]

section
variable {F0 : List AId} {G0 G : Heap} {ps : List LP} {Q : AVal → Heap → Prop}

theorem escrowlaw10_same.use {v w : AVal} {l k : List SlotM} (hl : IsSl 34 G v (l.map SlotM.av)) (hk : IsSl 34 G w (k.map SlotM.av)) (ho : ∀ s ∈ l, s.ok) (ho2 : ∀ s ∈ k, s.ok) (hlen : l.length * 48 ≤ 140737488355328) (hQ : Q (.bool (decide (l = k))) G) : ACalls P escrowlaw10_same.n [v, w] G Q := by
  refine escrowlaw10_same.sound ?_
  unfold escrowlaw10_same.S
  refine wv_of (slots_len hl) ?_
  refine wv_of (slots_len hk) ?_
  rw [vbin_neq, wv_some]
  by_cases he : ((l.length : Nat) : Int) = (k.length : Nat)
  · rw [decide_eq_true he, Bool.not_true, brB_false]
    have he : l.length = k.length := by omega
    intro R hR
    have loop : ∀ (m j : Nat), l.length - j = m → j ≤ l.length → l.take j = k.take j → R [v, w, .int .i64 (j : Int)] G := by
      intro m
      induction m with
      | zero =>
        intro j hm hj ht
        refine hR _ _ _ _ ?_
        refine wv_of (slots_len hl) ?_
        rw [vbin_lss, wv_some, decide_eq_false (by omega), brB_false]
        have : l = k := by rw [← List.take_of_length_le (show l.length ≤ j by omega), ht, List.take_of_length_le (by omega)]
        rwa [decide_eq_true this] at hQ
      | succ m ih =>
        intro j hm hj ht
        have hx : l[j]? = some (l[j]'(by omega)) := List.getElem?_eq_getElem (by omega)
        have hy : k[j]? = some (k[j]'(by omega)) := List.getElem?_eq_getElem (by omega)
        refine hR _ _ _ _ ?_
        refine wv_of (slots_len hl) ?_
        rw [vbin_lss, wv_some, decide_eq_true (by omega), brB_true]
        obtain ⟨a, e1, e2⟩ := slot_at hl rfl hx
        refine wv_of e1 ?_
        refine wv_of e2 ?_
        obtain ⟨a, e1, e2⟩ := slot_at hk rfl hy
        refine wv_of e1 ?_
        refine wv_of e2 ?_
        refine wv_of (slot_neq (ho _ (List.mem_of_getElem? hx)) (ho2 _ (List.mem_of_getElem? hy))) ?_
        by_cases hs : l[j]'(by omega) = k[j]'(by omega)
        · rw [decide_eq_true hs, Bool.not_true, brB_false, vbin_add, i64_in (by omega) (by omega), wv_some]
          refine ih (j + 1) (by omega) (by omega) ?_
          rw [List.take_add_one, List.take_add_one, ht, hx, hy, hs]
        · rw [decide_eq_false hs, Bool.not_false, brB_true]
          have : l ≠ k := fun h => hs (by subst h; rfl)
          rwa [decide_eq_false this] at hQ
    exact loop l.length 0 rfl (by omega) rfl
  · rw [decide_eq_false he, Bool.not_false, brB_true]
    have : l ≠ k := fun h => he (by rw [h])
    rwa [decide_eq_false this] at hQ

def markL : SlotM := ⟨-7, zero32, false⟩
theorem markL_ok : markL.ok := rfl
/-- Slots, a mark, and what is behind. -/
def lentL (w : List SlotM) (rest : List AVal) : List AVal := w.map SlotM.av ++ markL.av :: rest
theorem uni_lentL {w : List SlotM} {rest : List AVal} (ho : ∀ s ∈ w, s.ok) (h : uni 34 rest = true) : uni 34 (lentL w rest) = true := by
  have := uni_slots ho
  simp only [uni, lentL, List.all_append, List.all_cons, Bool.and_eq_true] at this h ⊢
  exact ⟨this, by simp [SlotM.sz markL_ok], h⟩
theorem lentL_is {id : AId} {w : List SlotM} {rest : List AVal} {n cap : Nat} (ho : ∀ s ∈ w, s.ok) (hg : G id = some (.own (.agg (lentL w rest)))) (hu : uni 34 rest = true) (hn : n = w.length) : IsSl 34 G (.slice id [] 0 0 n cap) (w.map SlotM.av) := by
  subst hn
  have := row_first (n := 34) (cap := cap) (xs := w.map SlotM.av) (ys := markL.av :: rest) hg (uni_lentL ho hu)
  rwa [List.length_map] at this

theorem escrowlaw10_lend.use {v : AVal} {l : List SlotM} (hl : RoSl 34 G v (l.map SlotM.av)) (ho : ∀ s ∈ l, s.ok) (hlen : l.length * 48 ≤ 140737488351232)
    (hQ : ∀ id cap rest G', cap = l.length + 1 + rest.length → uni 34 rest = true → Sp [] G [RowL id (.agg (lentL l rest))] G' → Q (.slice id [] 0 0 l.length cap) G') : ACalls P escrowlaw10_lend.n [v] G Q := by
  refine escrowlaw10_lend.sound ?_
  unfold escrowlaw10_lend.S
  have hb : ti_api_Slot.bytes = 48 := rfl
  refine growL (T := T) (ts := t_sl_api_Slot) (e := t_api_Slot) (si := ti_sl_api_Slot) (ie := ti_api_Slot) (tx := t_sl_api_Slot) (xi := ti_sl_api_Slot) (i := 0) T_sl_api_Slot rfl T_api_Slot (SlotM.sz zeroS_ok) (by decide) T_sl_api_Slot (.inr ⟨_, rfl⟩) ((Sp.nil G).nilL 34) rfl hl.is.elems (uni_slots ho) (okvs_slots l) ?_ fun v1 G2 s2 => ?_
  · rw [hb, List.length_map]; simp; omega
  refine wv_of (build_index (-7)) ?_
  have s2 : Sp [] G [OwnL 34 v1 (l.map SlotM.av)] G2 := s2
  refine grow_slot (i := 0) (s := markL) s2 rfl markL_ok (by omega) fun v6 G7 s7 => ?_
  have s7 : Sp [] G [OwnL 34 v6 ((l ++ [markL]).map SlotM.av)] G7 := s7
  have hlv : vlen T G7 t_sl_api_Slot v = some (.int .i64 (l.length : Nat)) := slots_len (hl.mono s7.ro).is
  refine wv_of hlv ?_
  obtain ⟨id, cap, rest, rfl, hcap, hu, s⟩ := s7.ownRow (i := 0) rfl (by simp)
  have hlen' : ((l ++ [markL]).map SlotM.av).length = l.length + 1 := by simp
  rw [hlen'] at hcap ⊢
  refine wv_of (slice_to T_sl_api_Slot rfl T_api_Slot rfl (by omega)) ?_
  refine hQ id cap rest G7 hcap hu ?_
  have e : lentL l rest = (l ++ [markL]).map SlotM.av ++ rest := by simp [lentL]
  rw [e]
  exact s

theorem escrowlaw10_kept.use {id : AId} {cap : Nat} {rest : List AVal} {v : AVal} {l : List SlotM} (hg : G id = some (.own (.agg (lentL l rest)))) (hu : uni 34 rest = true) (ho : ∀ s ∈ l, s.ok) (hc : l.length + 1 ≤ cap) (hl : IsSl 34 G v (l.map SlotM.av)) (hlen : l.length * 48 ≤ 140737488351232)
    (hQ : Q (.bool true) G) : ACalls P escrowlaw10_kept.n [.slice id [] 0 0 l.length cap, v] G Q := by
  refine escrowlaw10_kept.sound ?_
  unfold escrowlaw10_kept.S
  have hi := lentL_is (cap := cap) ho hg hu rfl
  refine escrowlaw10_same.use hi hl ho ho (by omega) ?_
  rw [decide_eq_true rfl, brB_true]
  refine wv_of (slots_len hl) ?_
  rw [vbin_add, i64_in (by omega) (by omega), wv_some]
  refine wv_of (slice_to (m := l.length + 1) T_sl_api_Slot rfl T_api_Slot rfl (by omega)) ?_
  refine wv_of (slots_len hl) ?_
  refine wv_of (row_slot (j := l.length) T_sl_api_Slot rfl T_api_Slot rfl (by omega)) ?_
  refine wv_of (arrN_get (s := 34) (c := markL.av) T_api_Slot hg (uni_lentL ho hu) (by rw [lentL, List.getElem?_append_right (by simp)]; simp) (SlotM.fits markL_ok)) ?_
  refine wv_of (build_index (-7)) ?_
  refine wv_of (slot_eql markL_ok markL_ok) ?_
  rw [show decide (markL = ⟨-7, zero32, false⟩) = true from decide_eq_true rfl]
  exact hQ

/-! ### The head -/
theorem ok1 : okN 1 = true := by decide
theorem ok2 : okN 2 = true := by decide
theorem lev0 : level (pl 0) = 0 := by decide
theorem lev1 : level (pl 1) = 1 := by decide

set_option maxHeartbeats 2000000 in
theorem escrowlaw10_first.use (hT : Tab G) (hQ : ∀ G', Ch [] G [] G' → Q (.bool true) G') : ACalls P escrowlaw10_first.n [] G Q := by
  refine escrowlaw10_first.sound ?_
  unfold escrowlaw10_first.S
  obtain ⟨A, hA⟩ : ∃ A, A = downS (2 ^ 48 - 1) 48 zero32 := ⟨_, rfl⟩
  obtain ⟨B, hB⟩ : ∃ B, B = downS (pl 1) 48 zero32 := ⟨_, rfl⟩
  have hAl : A.length = 32 := by rw [hA]; exact length_down _ rfl
  have hBl : B.length = 32 := by rw [hB]; exact length_down _ rfl
  have hne : sha (flipB A 0) ≠ A := by
    have := first_ne
    dsimp only at this
    rw [← hA] at this
    exact of_decide_eq_false this
  have eA : secretS zero32 0 = (A, 0) := by rw [secret_ok ok0N, pl0, hA]
  have eB : secretS zero32 1 = (B, 0) := by rw [secret_ok ok1, hB]
  have d10 : ∀ s, deriveS s 1 0 = (downS (pl 0) 1 s, 0) := fun s => by
    rw [derive_ok ok1 ok0N (by rw [lev1]; decide), lev1]
  have dB : deriveS B 1 0 = (A, 0) := by
    rw [d10, hB]
    have := down_via (a := pl 1) (b := pl 0) (k := 1) (n := 47) (x := zero32) (by decide) (by decide)
    rw [show 1 + 47 = 48 from rfl] at this
    rw [this, hA, pl0]
  have dA : deriveS A 1 0 ≠ (A, 0) := by
    rw [d10]
    intro h
    have h1 := congrArg Prod.fst h
    have e : downS (pl 0) 1 A = sha (flipB A 0) := by
      show stepD (pl 0) 0 A = _
      unfold stepD
      rw [if_pos (by decide)]
    dsimp only at h1
    rw [e] at h1
    exact hne h1
  have d00 : deriveS A 0 0 = (A, 0) := by
    rw [derive_ok ok0N ok0N rfl, lev0]
    rfl
  have d02 : deriveS A 0 2 = (zero32, 5) := derive_no ok0N ok2 (by rw [lev0]; decide)
  have d12 : deriveS B 1 2 = (zero32, 5) := derive_no ok1 ok2 (by rw [lev1]; decide)
  obtain ⟨L, hL⟩ : ∃ L, L = laidS [] 0 A := ⟨_, rfl⟩
  obtain ⟨M, hM⟩ : ∃ M, M = laidS L 1 B := ⟨_, rfl⟩
  have nok : ∀ s ∈ ([] : List SlotM), s.ok := fun s h => by cases h
  have hLo : ∀ s ∈ L, s.ok := by rw [hL]; exact laidS_ok nok hAl
  have hMo : ∀ s ∈ M, s.ok := by rw [hM]; exact laidS_ok hLo hBl
  have hLl : L.length = 49 := by rw [hL]; exact laidS_len _ _ _
  have hMl : M.length = 49 := by rw [hM]; exact laidS_len _ _ _
  have p1 : putS [] 0 A = (L, 0) := by rw [putS_nil ok0N, hL]
  have a0 : atS L 0 = ⟨0, A, true⟩ := by rw [hL, atS_laid, lev0]; rfl
  have ar : ∀ j, j ≠ 0 → atS L j = zeroS := fun j hj => by
    rw [hL, atS_laid, lev0, if_neg hj, atS_nil, ite_self]
  have p2 : putS L 1 B = (M, 0) := by
    unfold putS
    have : okputS L 1 B = true := okputS_iff.2 fun j hj => by
      rw [lev1] at hj
      have : j = 0 := by omega
      subst this
      rw [a0]
      unfold badS
      rw [decide_eq_true dB]
      rfl
    rw [if_neg (by omega), if_pos ok1, if_pos this, hM]
  have p3 : putS L 1 A = ([], 100) := by
    unfold putS
    have : okputS L 1 A = false := Bool.eq_false_iff.2 fun h => by
      have := okputS_iff.1 h 0 (by rw [lev1]; decide)
      rw [a0] at this
      unfold badS at this
      rw [decide_eq_false dA] at this
      cases this
    rw [if_neg (by omega), if_pos ok1, this, if_neg (by simp)]
  have b0 : atS M 0 = ⟨0, A, true⟩ := by rw [hM, atS_laid, lev1, if_pos (by decide), if_neg (by decide), a0]
  have b1 : atS M 1 = ⟨1, B, true⟩ := by rw [hM, atS_laid, lev1]; rfl
  have br : ∀ j, j ≠ 0 → j ≠ 1 → atS M j = zeroS := fun j h0 h1 => by
    rw [hM, atS_laid, lev1, if_neg h1, ar j h0, ite_self]
  have g0 : getS M 0 = (A, 0) := by
    unfold getS
    rw [if_neg (by omega), if_pos ok0N, getL_hit 0 (fun q hq => by omega) (by rw [b0]; exact ⟨rfl, by rw [d00]⟩), b0, d00]
  have g2 : getS M 2 = (zero32, 5) := by
    unfold getS
    rw [if_neg (by omega), if_pos ok2, getL_miss]
    intro q
    by_cases h0 : q = 0
    · subst h0
      rw [b0]
      intro h
      have := h.2
      rw [d02] at this
      cases this
    · by_cases h1 : q = 1
      · subst h1
        rw [b1]
        intro h
        have := h.2
        rw [d12] at this
        cases this
      · rw [br q h0 h1]
        exact not_tells_zero 2
  have m1 : M[1]? = some ⟨1, B, true⟩ := by
    rw [hM]
    unfold laidS
    rw [List.getElem?_map, List.getElem?_range (by decide), Option.map_some, lev1, if_pos rfl]
  refine wv_of zero_hash2 ?_
  refine seed_Secret.use (s := zero32) rfl fun G3 c3 => ?_
  have s3 := (Sp.nil G).tmp c3
  rw [eA]
  refine wv_of (hi0 _) ?_
  refine wv_of (hi1 _) ?_
  refine newH s3 hAl fun i6 G8 s8 => ?_
  refine wv_of zero_hash2 ?_
  refine seed_Secret.use (s := zero32) rfl fun G11 c11 => ?_
  have s11 := s8.tmp c11
  rw [eB]
  refine wv_of (hi0 _) ?_
  refine wv_of (hi1 _) ?_
  refine newH s11 hBl fun i14 G16 s16 => ?_
  refine wv_of (load_hash hAl (RowL.own (i := 1) s16 rfl)) ?_
  refine shelf_Put.use (l := []) (hT.mono s16.ro) (.inr ⟨rfl, rfl⟩) nok (by decide) hAl fun w G19 t19 => ?_
  rw [p1] at t19 ⊢
  obtain ⟨F19, o19, c19⟩ := t19.out
  have s19 := s16.new o19 c19
  refine wv_of (tup0 _ _) ?_
  refine wv_of (tup1 _ _) ?_
  refine wv_of (load_hash hBl (RowL.own (i := 1) s19 rfl)) ?_
  refine shelf_Put.use (hT.mono s19.ro) (OwnL.own (i := 0) s19 rfl).is hLo (by rw [hLl]; decide) hBl fun x G24 t24 => ?_
  rw [p2] at t24 ⊢
  obtain ⟨F24, o24, c24⟩ := t24.out
  have s24 := s19.new o24 c24
  refine wv_of (tup0 _ _) ?_
  refine wv_of (tup1 _ _) ?_
  refine wv_of (load_hash hAl (RowL.own (i := 3) s24 rfl)) ?_
  refine shelf_Put.use (hT.mono s24.ro) (OwnL.own (i := 1) s24 rfl).is hLo (by rw [hLl]; decide) hAl fun y G29 t29 => ?_
  rw [p3] at t29 ⊢
  obtain ⟨F29, o29, c29⟩ := t29.out
  have s29 := s24.new o29 c29
  refine wv_of (tup0 _ _) ?_
  refine wv_of (tup1 _ _) ?_
  refine shelf_Get.use (hT.mono s29.ro) (OwnL.own (i := 1) s29 rfl).is hMo (by rw [hMl]; decide) fun G33 c33 => ?_
  have s33 := s29.tmp c33
  rw [g0]
  refine wv_of (hi0 _) ?_
  refine wv_of (hi1 _) ?_
  refine newH s33 hAl fun i36 G38 s38 => ?_
  refine shelf_Get.use (hT.mono s38.ro) (OwnL.own (i := 2) s38 rfl).is hMo (by rw [hMl]; decide) fun G40 c40 => ?_
  have s40 := s38.tmp c40
  rw [g2]
  refine wv_of (hi0 _) ?_
  refine wv_of (hi1 _) ?_
  refine newH s40 zero32_len fun i43 G45 s45 => ?_
  rw [ez0, wv_some, brB_true, ez0, wv_some, brB_true, ez0, wv_some, brB_true]
  refine wv_of (load_hash hAl (RowL.own (i := 1) s45 rfl)) ?_
  refine wv_of (load_hash hAl (RowL.own (i := 6) s45 rfl)) ?_
  refine wv_of (hash_eql2 hAl hAl) ?_
  rw [decide_eq_true rfl, brB_true]
  rw [wv_some, brB_true, wv_some, brB_true]
  have hx := (OwnL.own (i := 3) s45 rfl).is
  refine wv_of (slots_len hx) ?_
  rw [hMl]
  refine wv_of (v := .bool true) rfl ?_
  rw [brB_true]
  obtain ⟨a, e1, e2⟩ := slot_at (x := 1) hx rfl m1
  refine wv_of e1 ?_
  refine wv_of e2 ?_
  refine wv_of (load_hash hBl (RowL.own (i := 5) s45 rfl)) ?_
  refine wv_of (build_slot hBl true) ?_
  refine wv_of (slot_eql (a := ⟨1, B, true⟩) (b := ⟨1, B, true⟩) hBl hBl) ?_
  rw [decide_eq_true rfl]
  exact hQ _ s45.ch

end

end Go.Esc.M
