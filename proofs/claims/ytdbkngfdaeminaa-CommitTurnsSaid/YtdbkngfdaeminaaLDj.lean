/- Own work. Chapter 14: turned ledgers; sums. -/
import Derived.Test.YtdbkngfdaeminaaLDh
set_option linter.unusedSimpArgs false
set_option linter.unusedVariables false
namespace Go.Esc.M
open Go Go.Esc

def Asc : Int → List PenM → Prop
  | _, [] => True
  | n, p :: l => n < p.id ∧ 1 ≤ p.amount ∧ p.amount ≤ maxAmount ∧ Asc p.id l

theorem scanT : ∀ (l : List PenM) (lt lf : Int) (ct : Nat) (r : List PenM), Asc lt l → (∀ p ∈ l, p.ours = true) → ∃ lt', scanP lt lf ct 0 (l ++ r) = scanP lt' lf (ct + l.length) 0 r
  | [], lt, lf, ct, r, _, _ => ⟨lt, rfl⟩
  | p :: l, lt, lf, ct, r, h, ho => by
    obtain ⟨h1, h2, h3, h4⟩ := h
    have e : p.ours = true := ho p (by simp)
    obtain ⟨lt', h5⟩ := scanT l p.id lf (ct + 1) r h4 fun q hq => ho q (by simp [hq])
    refine ⟨lt', ?_⟩
    rw [List.cons_append, scanP, e, cond_true, if_neg (by omega), cond_true, h5, List.length_cons, show ct + 1 + l.length = ct + (l.length + 1) by omega]
theorem scanF : ∀ (l : List PenM) (lt lf : Int) (ct cf : Nat), Asc lf l → (∀ p ∈ l, p.ours = false) → scanP lt lf ct cf l = some (ct, cf + l.length)
  | [], lt, lf, ct, cf, _, _ => rfl
  | p :: l, lt, lf, ct, cf, h, ho => by
    obtain ⟨h1, h2, h3, h4⟩ := h
    have e : p.ours = false := ho p (by simp)
    rw [scanP, e, cond_false, if_neg (by simp only [Bool.false_eq_true, false_and, or_false]; omega), cond_false, scanF l lt p.id ct (cf + 1) h4 fun q hq => ho q (by simp [hq]), List.length_cons, show cf + 1 + l.length = cf + (l.length + 1) by omega]

theorem madeS_asc (b : Bool) : ∀ (l : List PenM) (n lt : Int), 0 ≤ n → lt ≤ n → Asc lt (madeS b n l)
  | [], n, lt, _, _ => trivial
  | p :: l, n, lt, h0, h => by
    rw [madeS]
    split
    · split
      · refine ⟨by dsimp only [mk]; omega, by dsimp only [mk]; omega, by dsimp only [mk]; unfold maxAmount; omega, ?_⟩
        exact madeS_asc b l _ _ (by omega) (by dsimp only [mk]; omega)
      · exact madeS_asc b l n lt h0 h
    · trivial
theorem madeS_ours (b : Bool) : ∀ (l : List PenM) (n : Int), ∀ p ∈ madeS b n l, p.ours = b
  | [], n => by simp [madeS]
  | p :: l, n => by
    intro q hq
    rw [madeS] at hq
    split at hq
    · split at hq
      · rcases List.mem_cons.1 hq with rfl | hq
        · assumption
        · exact madeS_ours b l _ q hq
      · exact madeS_ours b l _ q hq
    · cases hq

def side (b : Bool) (l : List PenM) : List PenM := l.map (fun p => { p with ours := b })
theorem side_asc (b : Bool) : ∀ {l : List PenM} {n : Int}, Asc n l → Asc n (side b l)
  | [], _, _ => trivial
  | p :: l, n, h => ⟨h.1, h.2.1, h.2.2.1, side_asc b h.2.2.2⟩
theorem side_ours (b : Bool) (l : List PenM) : ∀ p ∈ side b l, p.ours = b := by
  intro p hp
  obtain ⟨q, _, rfl⟩ := List.mem_map.1 hp
  rfl
theorem side_same {b : Bool} {l : List PenM} (h : ∀ p ∈ l, p.ours = b) (c : Bool) : side b (side c l) = l := by
  unfold side
  rw [List.map_map]
  have : l.map id = l := List.map_id l
  conv => rhs; rw [← this]
  refine List.map_congr_left fun p hp => ?_
  have := h p hp
  obtain ⟨x, y, z, w⟩ := p
  dsimp only at this ⊢
  subst this
  rfl
theorem turnS_append (b : Bool) (l m : List PenM) : turnS b (l ++ m) = turnS b l ++ turnS b m := by simp [turnS]
theorem turnS_self {b : Bool} {l : List PenM} (h : ∀ p ∈ l, p.ours = b) : turnS b l = [] := by
  unfold turnS
  rw [List.filter_eq_nil_iff.2, List.map_nil]
  intro p hp
  simp [h p hp]
theorem turnS_other {b c : Bool} (hbc : c ≠ b) {l : List PenM} (h : ∀ p ∈ l, p.ours = c) : turnS b l = side b l := by
  unfold turnS side
  rw [List.filter_eq_self.2]
  intro p hp
  rw [h p hp]
  simpa using hbc

theorem turn_two {x y : List PenM} (hx : ∀ p ∈ x, p.ours = true) (hy : ∀ p ∈ y, p.ours = false) : turnL (x ++ y) = side true y ++ side false x := by
  rw [turnL, turnS_append, turnS_append, turnS_self hx, turnS_self hy, turnS_other (by decide) hx, turnS_other (by decide) hy]
  simp
theorem turn_made (l : List PenM) : turnL (madeL l) = side true (madeS false 0 l) ++ side false (madeS true 0 l) := turn_two (madeS_ours true l 0) (madeS_ours false l 0)
theorem turn_back (l : List PenM) : turnL (turnL (madeL l)) = madeL l := by
  rw [turn_made, turn_two (side_ours true _) (side_ours false _), side_same (madeS_ours true l 0), side_same (madeS_ours false l 0)]
  rfl
theorem turn_sound (o q : Int) (l : List PenM) : soundP (q % 1152921504606846976) (o % 1152921504606846976) (turnL (madeL l)) = true := by
  obtain ⟨lt', h2⟩ := scanT (side true (madeS false 0 l)) (-1) (-1) 0 (side false (madeS true 0 l)) (side_asc true (madeS_asc false l 0 (-1) (by decide) (by decide))) (side_ours _ _)
  have h4 := scanF (side false (madeS true 0 l)) lt' (-1) (0 + (side true (madeS false 0 l)).length) 0 (side_asc false (madeS_asc true l 0 (-1) (by decide) (by decide))) (side_ours _ _)
  have l1 := length_madeS false l 0 (by decide)
  have l2 := length_madeS true l 0 (by decide)
  unfold soundP
  rw [turn_made, h2, h4]
  unfold maxAmount few side
  rw [List.length_map, List.length_map]
  simp only [Bool.and_eq_true, decide_eq_true_eq]
  omega

def tot (l : List PenM) : Int := (l.map PenM.amount).sum
theorem tot_turn : ∀ l : List PenM, tot (turnL l) = tot l := by
  have h : ∀ l : List PenM, tot (turnS true l) + tot (turnS false l) = tot l := by
    intro l
    induction l with
    | nil => rfl
    | cons p l ih =>
      have : ∀ b, tot (turnS b (p :: l)) = tot (turnS b l) + (if p.ours = b then 0 else p.amount) := by
        intro b
        unfold turnS tot
        cases ho : p.ours <;> cases b <;> simp [ho] <;> omega
      rw [this, this]
      have e : tot (p :: l) = p.amount + tot l := by simp [tot]
      rw [e]
      cases ho : p.ours <;> simp [ho] <;> omega
  intro l
  rw [← h l]
  simp [turnL, tot]
theorem tot_take {l : List PenM} {j : Nat} {p : PenM} (h : l[j]? = some p) : tot (l.take (j + 1)) = tot (l.take j) + p.amount := by
  rw [List.take_add_one, h]
  simp [tot]

section
variable {F0 : List AId} {G0 G : Heap} {ps : List LP} {Q : AVal → Heap → Prop}

theorem int_load {i : Nat} {id : AId} {n : Int} (hs : Sp F0 G0 ps G) (hi : ps[i]? = some (RowL id (.int .i64 n))) : vload T G t_int64 (.ptr id [] 0) = some (.int .i64 n) := whole_load T_int64 (RowL.own hs hi) rfl
theorem int_store {i : Nat} {id : AId} {n : Int} (m : Int) (hs : Sp F0 G0 ps G) (hi : ps[i]? = some (RowL id (.int .i64 n))) {K : Heap → Prop} (hK : ∀ G', Sp F0 G0 (ps.set i (RowL id (.int .i64 m))) G' → K G') :
    wg (vstore T G t_int64 (.ptr id [] 0) (.int .i64 m)) K := by
  refine wg_of (whole_store (c := .int .i64 m) T_int64 (RowL.own hs hi) rfl rfl rfl) ?_
  exact hK _ (Sp.setRow hs hi _)

theorem shr61 {T : Tbl} {t : TypeId} {a : Int} : vbin T .shr t (.int .i64 a) (.int .u64 61) = some (.int .i64 (a / 2305843009213693952)) := by
  rw [vbin_shr _ _ _ _ _ _ (by decide)]
  have h1 : min (Int.toNat 61) IntKind.i64.bits = 61 := rfl
  rw [h1, Int.fdiv_eq_ediv_of_nonneg _ (by decide)]
  rfl

theorem escrowlaw14_sum_1.use {lo hi : AId} {x a h : Int} {ps' : List LP} (hx : 0 ≤ x ∧ x ≤ 1152921504606846976) (ha : 0 ≤ a ∧ a < 2305843009213693952) (hh : 0 ≤ h ∧ h ≤ 1000000) (hs : Sp F0 G0 (RowL lo (.int .i64 a) :: RowL hi (.int .i64 h) :: ps') G)
    (hQ : ∀ G', Sp F0 G0 (RowL lo (.int .i64 ((a + x) % 2305843009213693952)) :: RowL hi (.int .i64 (h + (a + x) / 2305843009213693952)) :: ps') G' → Q (.tuple []) G') :
    ACalls P escrowlaw14_sum_1.n [.int .i64 x, .ptr lo [] 0, .ptr hi [] 0] G Q := by
  refine escrowlaw14_sum_1.sound ?_
  unfold escrowlaw14_sum_1.S
  refine wv_of (int_load (i := 0) hs rfl) ?_
  rw [andK x 61 (by decide) (m := 2305843009213693951) (M := 2305843009213693952) rfl rfl, wv_some, vbin_add, wv_some, show x % 2305843009213693952 = x by omega, i64_in (by omega) (by omega)]
  refine int_store (i := 0) (a + x) hs rfl fun G4 s4 => ?_
  refine wv_of (int_load (i := 1) s4 rfl) ?_
  rw [shr61, wv_some, vbin_add, wv_some, show x / 2305843009213693952 = 0 by omega, i64_in (by omega) (by omega)]
  refine wv_of (int_load (i := 0) s4 rfl) ?_
  rw [shr61, wv_some, vbin_add, wv_some, i64_in (by omega) (by omega)]
  refine int_store (i := 1) _ s4 rfl fun G11 s11 => ?_
  refine wv_of (int_load (i := 0) s11 rfl) ?_
  rw [andK (a + x) 61 (by decide) (m := 2305843009213693951) (M := 2305843009213693952) rfl rfl, wv_some]
  refine int_store (i := 0) _ s11 rfl fun G14 s14 => ?_
  refine hQ G14 ?_
  rw [show h + (a + x) / 2305843009213693952 = h + 0 + (a + x) / 2305843009213693952 by omega]
  exact s14

set_option maxHeartbeats 1000000 in
theorem escrowlaw14_sum.use {o q : Int} {v : AVal} {l : List PenM} (hl : IsSl 35 G v (l.map PenM.av)) (hoq : 0 ≤ o ∧ o ≤ 1152921504606846976 ∧ 0 ≤ q ∧ q ≤ 1152921504606846976) (hlen : l.length ≤ 966) (ham : ∀ p ∈ l, 1 ≤ p.amount ∧ p.amount ≤ 1152921504606846976)
    (hQ : ∀ G', Ch [] G [] G' → Q (.tuple [.int .i64 ((o + q + tot l) / 2305843009213693952), .int .i64 ((o + q + tot l) % 2305843009213693952)]) G') : ACalls P escrowlaw14_sum.n [ledV o q v] G Q := by
  have hv := sl_leaf hl
  refine escrowlaw14_sum.sound ?_
  unfold escrowlaw14_sum.S
  have z0 : z_int64 = .int .i64 0 := rfl
  rw [z0]
  intro i1 f1
  have s1 := (Sp.nil G).row f1 (ledV o q v)
  intro i3 f3
  have s3 := s1.row f3 (.int .i64 0)
  intro i5 f5
  have s5 := s3.row f5 (.int .i64 0)
  refine int_store (i := 1) 0 s5 rfl fun G7 s7 => ?_
  refine int_store (i := 0) 0 s7 rfl fun G8 s8 => ?_
  have s8 : Sp [] G [RowL i5 (.int .i64 0), RowL i3 (.int .i64 0), RowL i1 (ledV o q v)] G8 := s8
  refine wv_of (led_load (i := 2) s8 rfl hv).1 ?_
  refine escrowlaw14_sum_1.use ⟨hoq.1, hoq.2.1⟩ (by omega) (by omega) s8 fun G11 s11 => ?_
  refine wv_of (led_load (i := 2) s11 rfl hv).2.1 ?_
  refine escrowlaw14_sum_1.use ⟨hoq.2.2.1, hoq.2.2.2⟩ (by omega) (by omega) s11 fun G14 s14 => ?_
  have e1 : ((0 + o) % 2305843009213693952 + q) % 2305843009213693952 = (o + q) % 2305843009213693952 := by omega
  have e2 : 0 + (0 + o) / 2305843009213693952 + ((0 + o) % 2305843009213693952 + q) / 2305843009213693952 = (o + q) / 2305843009213693952 := by omega
  rw [e1, e2] at s14
  have ln : ∀ {G' : Heap}, Ch [] G [] G' → vlen T G' t_sl_api_Pending v = some (.int .i64 (l.length : Nat)) := fun c => by
    rw [(hl.ch' c).len (i := ti_sl_api_Pending) T_sl_api_Pending rfl, List.length_map]
  intro R15 hR15
  have loop : ∀ (n j : Nat) (G' : Heap), l.length - j = n → j ≤ l.length → (0 ≤ tot (l.take j) ∧ tot (l.take j) ≤ 1152921504606846976 * (j : Int)) →
      Sp [] G [RowL i5 (.int .i64 ((o + q + tot (l.take j)) % 2305843009213693952)), RowL i3 (.int .i64 ((o + q + tot (l.take j)) / 2305843009213693952)), RowL i1 (ledV o q v)] G' →
      R15 [.ptr i1 [] 0, .ptr i3 [] 0, .ptr i5 [] 0, .func (.func escrowlaw14_sum_1.n) [] [.ptr i5 [] 0, .ptr i3 [] 0], .int .i64 (j : Int)] G' := by
    intro n
    induction n with
    | zero =>
      intro j G' hn hj hb hs
      have : j = l.length := by omega
      subst this
      rw [List.take_length] at hs
      refine hR15 _ _ _ _ _ _ ?_
      show wv (vload T G' t_sl_api_Pending (.ptr i1 [2] 2)) _
      refine wv_of (led_load (i := 2) hs rfl hv).2.2.1 ?_
      refine wv_of (ln hs.ch) ?_
      rw [vbin_lss, wv_some, brB_dec]
      refine ⟨fun h => absurd h (by omega), fun _ => ?_⟩
      refine wv_of (int_load (i := 1) hs rfl) ?_
      refine wv_of (int_load (i := 0) hs rfl) ?_
      exact hQ _ hs.ch
    | succ n ih =>
      intro j G' hn hj hb hs
      obtain ⟨p, hp⟩ : ∃ p, l[j]? = some p := ⟨_, List.getElem?_eq_getElem (by omega)⟩
      have hpa := ham p (List.mem_of_getElem? hp)
      obtain ⟨a, b', ha, hb', hla⟩ := pen_fldA (f := 2) (o := 2) (tf := t_int64) (fi := ti_int64) (hl.ch' hs.ch) hp rfl T_int64 (by decide) rfl rfl rfl
      have htt := tot_take hp
      refine hR15 _ _ _ _ _ _ ?_
      show wv (vload T G' t_sl_api_Pending (.ptr i1 [2] 2)) _
      refine wv_of (led_load (i := 2) hs rfl hv).2.2.1 ?_
      refine wv_of (ln hs.ch) ?_
      rw [vbin_lss, wv_some, brB_dec]
      refine ⟨fun _ => ?_, fun h => absurd (by omega) h⟩
      show wv (vload T G' t_sl_api_Pending (.ptr i1 [2] 2)) _
      refine wv_of (led_load (i := 2) hs rfl hv).2.2.1 ?_
      rw [ha, wv_some, hb', wv_some, hla, wv_some]
      obtain ⟨S, hS⟩ : ∃ S, S = o + q + tot (l.take j) := ⟨_, rfl⟩
      rw [← hS] at hs
      have hSb : 0 ≤ S ∧ S ≤ 1152921504606846976 * 968 := by omega
      show ACalls P escrowlaw14_sum_1.n [.int .i64 p.amount, .ptr i5 [] 0, .ptr i3 [] 0] G' _
      refine escrowlaw14_sum_1.use ⟨by omega, hpa.2⟩ (by omega) (by omega) hs fun G32 s32 => ?_
      rw [vbin_add, wv_some, i64_in (by omega) (by omega)]
      refine ih (j + 1) G32 (by omega) (by omega) (by rw [htt]; omega) ?_
      have e1 : (S % 2305843009213693952 + p.amount) % 2305843009213693952 = (o + q + tot (l.take (j + 1))) % 2305843009213693952 := by rw [htt]; omega
      have e2 : S / 2305843009213693952 + (S % 2305843009213693952 + p.amount) / 2305843009213693952 = (o + q + tot (l.take (j + 1))) / 2305843009213693952 := by rw [htt]; omega
      rw [← e1, ← e2]
      exact s32
  refine loop _ 0 G14 rfl (by omega) (by simp [tot]) ?_
  simpa [tot] using s14

end
end Go.Esc.M
