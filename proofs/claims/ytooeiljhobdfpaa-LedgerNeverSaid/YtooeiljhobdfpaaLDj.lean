import Derived.Test.YtooeiljhobdfpaaLDd
import Derived.Test.YtooeiljhobdfpaaLDb
/- Own work. Chapter 14: the document's example. -/
set_option linter.unusedSimpArgs false
set_option linter.unusedVariables false
namespace Go.Esc.M
open Go Go.Esc

def z32 : List UInt8 := List.replicate 32 0
def p1 : PenM := ⟨true, 3, 9, z32⟩
def h7 : List UInt8 := 7 :: List.replicate 31 0
def c1 : Com := ⟨1, 5, h7, 10, 20, [p1]⟩
theorem p1_ok : p1.ok := ⟨⟨by decide, by decide⟩, ⟨by decide, by decide⟩, rfl⟩
theorem c1_valid : c1.Valid := ⟨by decide, by decide, rfl, fun p hp => by rw [List.mem_singleton.1 hp]; exact p1_ok⟩
theorem c1_len : c1.text.length = 108 := by decide
theorem c1_at : c1.text[0]? = some 1 ∧ c1.text[8]? = some 5 ∧ c1.text[9]? = some 7 ∧ c1.text[59]? = some 1 := by decide

theorem idx {l : List UInt8} {j : Nat} {b : UInt8} (h : l[j]? = some b) : vindex T t_string (.str l) (.int .i64 (j : Nat)) = some (.int .u8 (b.toNat : Nat)) := by
  obtain ⟨hj, rfl⟩ := List.getElem?_eq_some_iff.1 h
  exact vindex_str hj

theorem build_led {o q : Int} {v : AVal} (hv : sz v = 1) : vbuild T t_api_Ledger [(0, .int .i64 o), (1, .int .i64 q), (2, v)] = some (ledV o q v) := by
  have hf : ∀ pl : Nat → Option (Nat × Nat), pl 0 = some (0, 1) → pl 1 = some (1, 1) → pl 2 = some (2, 1) → fillA pl [.int .i64 0, .int .i64 0, .nilSlice] [(0, .int .i64 o), (1, .int .i64 q), (2, v)] = some [.int .i64 o, .int .i64 q, v] := by
    intro pl e0 e1 e2
    simp [fillA, e0, e1, e2, sz, szs, hv]
  have ha : [(t_int64, 0), (t_int64, 1), (t_sl_api_Pending, 2)].all (fun g => (T g.1).isSome) = true := rfl
  have hf := hf (places T [(t_int64, 0), (t_int64, 1), (t_sl_api_Pending, 2)]) rfl rfl rfl
  unfold vbuild
  have e1 : ti_api_Ledger.desc = .struct [(t_int64, 0), (t_int64, 1), (t_sl_api_Pending, 2)] := rfl
  have e2 : ti_api_Ledger.zero = .agg [.int .i64 0, .int .i64 0, .nilSlice] := rfl
  simp only [T_api_Ledger, e1, e2, ha, if_true, hf]
  rfl

section
variable {F0 : List AId} {G0 G : Heap} {ps : List LP} {Q : AVal → Heap → Prop}

end
end Go.Esc.M

/- Own work. Chapter 14: CommitTexts. -/
set_option linter.unusedSimpArgs false
set_option linter.unusedVariables false
namespace Go.Esc.M
open Go Go.Esc

theorem wt_Led {G : Heap} {R d : Nat} {a : AVal} {m : Nat} (h : wt T G R (d + 5) t_api_Ledger a m) : ∃ (o q : Int) (v : AVal) (l : List PenM), a = ledV o q v ∧ I64 o ∧ I64 q ∧ RoSl 35 G v (l.map PenM.av) ∧ (∀ p ∈ l, p.ok) ∧ l.length * 56 ≤ R ∧ l.length + 1 ≤ m := by
  obtain ⟨cs, ms, rfl, hf, rfl⟩ := wt_struct T_api_Ledger rfl h
  obtain ⟨c1, cs, m1, ms, rfl, rfl, h1, hf⟩ := wfs_cons hf
  obtain ⟨c2, cs, m2, ms, rfl, rfl, h2, hf⟩ := wfs_cons hf
  obtain ⟨c3, cs, m3, ms, rfl, rfl, h3, hf⟩ := wfs_cons hf
  obtain ⟨rfl, rfl⟩ := wfs_nil hf
  obtain ⟨o, rfl, w1, _⟩ := wt_int T_int64 rfl h1
  obtain ⟨q, rfl, w2, _⟩ := wt_int T_int64 rfl h2
  obtain ⟨xs, ms, hro, hall, hms, hR, _⟩ := wt_ro PenM.av (fun p m => p.ok ∧ 1 ≤ m) T_sl_api_Pending rfl T_api_Pending (fun c m h => wt_Pen h) h3
  have hlen := hall.length fun c m h => h.2
  refine ⟨o, q, c3, xs, rfl, i64_wf.1 w1, i64_wf.1 w2, hro, fun p hp => ?_, hR, by simp; omega⟩
  obtain ⟨m, hm, _⟩ := hall.mem hp
  exact hm.1

def mark : PenM := ⟨false, -77, 0, z32⟩
theorem mark_ok : mark.ok := ⟨⟨by decide, by decide⟩, ⟨by decide, by decide⟩, rfl⟩

/-- A list with a value behind it, in the spare room. -/
structure Lent (w v : AVal) (l : List PenM) : Prop where
  own : ∀ {G : Heap}, Own 35 G v ((l ++ [mark]).map PenM.av) → Own 35 G w (l.map PenM.av)
  back : vslice T t_sl_api_Pending w none (some (.int .i64 ((l.length + 1 : Nat) : Int))) none = some v

theorem lent_slice {G : Heap} {v : AVal} {l : List PenM} (h : Own 35 G v ((l ++ [mark]).map PenM.av)) : ∃ w, vslice T t_sl_api_Pending v none (some (.int .i64 ((l.length : Nat) : Int))) none = some w ∧ Lent w v l := by
  rcases h with ⟨_, h⟩ | ⟨id, len, cap, cs, rfl, hg, hc, hl, hu, he⟩
  · simp at h
  · have hlen : len = l.length + 1 := by
      have := congrArg List.length he
      simp only [List.length_map, List.length_append, List.length_take, List.length_singleton] at this
      omega
    have e1 : T t_sl_api_Pending = some ti_sl_api_Pending := T_sl_api_Pending
    have e2 : ti_sl_api_Pending.desc = .slice t_api_Pending := rfl
    refine ⟨.slice id [] 0 0 l.length cap, ?_, fun {G'} h' => ?_, ?_⟩
    · simp only [vslice, e1, e2, T_api_Pending]
      rw [sbounds_high (by omega)]
      simp
    · rcases h' with ⟨h, _⟩ | ⟨id', len', cap', cs', h1, hg', hc', hl', hu', he'⟩
      · cases h
      · injection h1 with i1 i2 i3 i4 i5 i6
        subst i1 i5 i6
        refine .inr ⟨id, l.length, cap, cs', rfl, hg', hc', by omega, hu', ?_⟩
        have : (cs'.take len).take l.length = l.map PenM.av := by
          rw [← he', List.map_append, List.take_left' (by simp)]
        rw [← this, List.take_take, Nat.min_eq_left (by omega)]
    · simp only [vslice, e1, e2, T_api_Pending]
      rw [sbounds_high (by omega), hlen]
      simp

section
variable {F0 : List AId} {G0 G : Heap} {ps : List LP} {Q : AVal → Heap → Prop}

end

end Go.Esc.M

/- Own work. Chapter 14: sound ledgers made of any. -/
set_option linter.unusedSimpArgs false
set_option linter.unusedVariables false
namespace Go.Esc.M
open Go Go.Esc

theorem andK {T : Tbl} {t : TypeId} (a : Int) {m M : Int} (k : Nat) (hk : k ≤ 63) (hm : m = ((2 ^ k - 1 : Nat) : Int)) (hM : M = ((2 ^ k : Nat) : Int)) : vbin T .and t (.int .i64 a) (.int .i64 m) = some (.int .i64 (a % M)) := by
  subst hm hM
  rw [vbin_and, and_mask a k hk]

def mk (n : Int) (p : PenM) : PenM := ⟨p.ours, n + 1 + p.id % 4, 1 + p.amount % 576460752303423488, p.hash⟩
def madeS (b : Bool) : Int → List PenM → List PenM
  | _, [] => []
  | n, p :: l => if n < 40 then (if p.ours = b then mk n p :: madeS b (n + 1 + p.id % 4) l else madeS b n l) else []
def madeL (l : List PenM) : List PenM := madeS true 0 l ++ madeS false 0 l

theorem madeS_done {b : Bool} {n : Int} {l : List PenM} (h : ¬ n < 40) : madeS b n l = [] := by
  cases l with
  | nil => rfl
  | cons p l => rw [madeS, if_neg h]
theorem length_madeS (b : Bool) : ∀ (l : List PenM) (n : Int), 0 ≤ n → (madeS b n l).length ≤ (40 - n).toNat
  | [], n, _ => by simp [madeS]
  | p :: l, n, h => by
    rw [madeS]
    split
    · split
      · have := length_madeS b l (n + 1 + p.id % 4) (by omega)
        rw [List.length_cons]
        omega
      · exact length_madeS b l n h
    · simp
theorem mk_ok {n : Int} {p : PenM} (h : p.ok) (h0 : 0 ≤ n) (h1 : n < 40) : (mk n p).ok := by
  refine ⟨⟨?_, ?_⟩, ⟨?_, ?_⟩, h.hash⟩ <;> dsimp only [mk] <;> omega
theorem madeS_ok {b : Bool} : ∀ {l : List PenM} {n : Int}, 0 ≤ n → (∀ p ∈ l, p.ok) → ∀ p ∈ madeS b n l, p.ok
  | [], n, _, _ => by simp [madeS]
  | p :: l, n, h, hok => by
    have hl : ∀ q ∈ l, q.ok := fun q hq => hok q (by simp [hq])
    intro q hq
    rw [madeS] at hq
    split at hq
    · split at hq
      · rcases List.mem_cons.1 hq with rfl | hq
        · exact mk_ok (hok p (by simp)) h (by assumption)
        · exact madeS_ok (by omega) hl q hq
      · exact madeS_ok h hl q hq
    · cases hq
theorem madeL_ok {l : List PenM} (h : ∀ p ∈ l, p.ok) : ∀ p ∈ madeL l, p.ok := by
  intro p hp
  rcases List.mem_append.1 hp with hp | hp
  · exact madeS_ok (by decide) h p hp
  · exact madeS_ok (by decide) h p hp
theorem length_madeL (l : List PenM) : (madeL l).length ≤ 80 := by
  have h1 := length_madeS true l 0 (by decide)
  have h2 := length_madeS false l 0 (by decide)
  rw [madeL, List.length_append]
  omega

theorem scan_true : ∀ (l : List PenM) (n lt lf : Int) (ct : Nat) (r : List PenM), lt ≤ n → 0 ≤ n → ∃ lt' ct', ct' ≤ ct + (40 - n).toNat ∧ scanP lt lf ct 0 (madeS true n l ++ r) = scanP lt' lf ct' 0 r
  | [], n, lt, lf, ct, r, _, _ => ⟨lt, ct, by omega, rfl⟩
  | p :: l, n, lt, lf, ct, r, h, h0 => by
    rw [madeS]
    by_cases hn : n < 40
    · rw [if_pos hn]
      by_cases ho : p.ours = true
      · rw [if_pos ho, List.cons_append, scanP, if_neg]
        · have e : (mk n p).ours = true := ho
          rw [e, cond_true]
          obtain ⟨lt', ct', h1, h2⟩ := scan_true l (n + 1 + p.id % 4) (mk n p).id lf (ct + 1) r (by dsimp only [mk]; omega) (by omega)
          exact ⟨lt', ct', by omega, h2⟩
        · have e : (mk n p).ours = true := ho
          rw [e, cond_true]
          unfold maxAmount
          dsimp only [mk]
          omega
      · rw [if_neg ho]
        exact scan_true l n lt lf ct r h h0
    · rw [if_neg hn]
      exact ⟨lt, ct, by omega, rfl⟩
theorem scan_false : ∀ (l : List PenM) (n lt lf : Int) (ct cf : Nat), lf ≤ n → 0 ≤ n → ∃ cf', cf' ≤ cf + (40 - n).toNat ∧ scanP lt lf ct cf (madeS false n l) = some (ct, cf')
  | [], n, lt, lf, ct, cf, _, _ => ⟨cf, by omega, rfl⟩
  | p :: l, n, lt, lf, ct, cf, h, h0 => by
    rw [madeS]
    by_cases hn : n < 40
    · rw [if_pos hn]
      by_cases ho : p.ours = false
      · rw [if_pos ho, scanP, if_neg]
        · have e : (mk n p).ours = false := ho
          rw [e, cond_false]
          obtain ⟨cf', h1, h2⟩ := scan_false l (n + 1 + p.id % 4) lt (mk n p).id ct (cf + 1) (by dsimp only [mk]; omega) (by omega)
          exact ⟨cf', by omega, h2⟩
        · have e : (mk n p).ours = false := ho
          rw [e, cond_false]
          unfold maxAmount
          dsimp only [mk]
          simp only [Bool.false_eq_true, false_and, or_false]
          omega
      · rw [if_neg ho]
        exact scan_false l n lt lf ct cf h h0
    · rw [if_neg hn]
      exact ⟨cf, by omega, rfl⟩
theorem made_sound (o q : Int) (l : List PenM) : soundP (o % 1152921504606846976) (q % 1152921504606846976) (madeL l) = true := by
  obtain ⟨lt', ct', h1, h2⟩ := scan_true l 0 (-1) (-1) 0 (madeS false 0 l) (by decide) (by decide)
  obtain ⟨cf', h3, h4⟩ := scan_false l 0 lt' (-1) ct' 0 (by decide) (by decide)
  unfold soundP
  rw [madeL, h2, h4]
  unfold maxAmount few
  simp only [Bool.and_eq_true, decide_eq_true_eq]
  omega

section
variable {F0 : List AId} {G0 G : Heap} {ps : List LP} {Q : AVal → Heap → Prop}

end
end Go.Esc.M

/- Own work. Chapter 14: turned ledgers; sums. -/
set_option linter.unusedSimpArgs false
set_option linter.unusedVariables false
namespace Go.Esc.M
open Go Go.Esc

def Asc : Int → List PenM → Prop
  | _, [] => True
  | n, p :: l => n < p.id ∧ 1 ≤ p.amount ∧ p.amount ≤ maxAmount ∧ Asc p.id l

theorem scanT : ∀ (l : List PenM) (lt lf : Int) (ct : Nat) (r : List PenM), Asc lt l → (∀ p ∈ l, p.ours = true) → ∃ lt', scanP lt lf ct 0 (l ++ r) = scanP lt' lf (ct + l.length) 0 r
  | [], lt, lf, ct, r, _, _ => ⟨lt, rfl⟩
  | p :: l, lt, lf, ct, r, h, ho => by
    obtain ⟨h1, h2, h3, h4⟩ := h
    have e : p.ours = true := ho p (by simp)
    obtain ⟨lt', h5⟩ := scanT l p.id lf (ct + 1) r h4 fun q hq => ho q (by simp [hq])
    refine ⟨lt', ?_⟩
    rw [List.cons_append, scanP, e, cond_true, if_neg (by omega), cond_true, h5, List.length_cons, show ct + 1 + l.length = ct + (l.length + 1) by omega]
theorem scanF : ∀ (l : List PenM) (lt lf : Int) (ct cf : Nat), Asc lf l → (∀ p ∈ l, p.ours = false) → scanP lt lf ct cf l = some (ct, cf + l.length)
  | [], lt, lf, ct, cf, _, _ => rfl
  | p :: l, lt, lf, ct, cf, h, ho => by
    obtain ⟨h1, h2, h3, h4⟩ := h
    have e : p.ours = false := ho p (by simp)
    rw [scanP, e, cond_false, if_neg (by simp only [Bool.false_eq_true, false_and, or_false]; omega), cond_false, scanF l lt p.id ct (cf + 1) h4 fun q hq => ho q (by simp [hq]), List.length_cons, show cf + 1 + l.length = cf + (l.length + 1) by omega]

theorem madeS_asc (b : Bool) : ∀ (l : List PenM) (n lt : Int), 0 ≤ n → lt ≤ n → Asc lt (madeS b n l)
  | [], n, lt, _, _ => trivial
  | p :: l, n, lt, h0, h => by
    rw [madeS]
    split
    · split
      · refine ⟨by dsimp only [mk]; omega, by dsimp only [mk]; omega, by dsimp only [mk]; unfold maxAmount; omega, ?_⟩
        exact madeS_asc b l _ _ (by omega) (by dsimp only [mk]; omega)
      · exact madeS_asc b l n lt h0 h
    · trivial
theorem madeS_ours (b : Bool) : ∀ (l : List PenM) (n : Int), ∀ p ∈ madeS b n l, p.ours = b
  | [], n => by simp [madeS]
  | p :: l, n => by
    intro q hq
    rw [madeS] at hq
    split at hq
    · split at hq
      · rcases List.mem_cons.1 hq with rfl | hq
        · assumption
        · exact madeS_ours b l _ q hq
      · exact madeS_ours b l _ q hq
    · cases hq

def side (b : Bool) (l : List PenM) : List PenM := l.map (fun p => { p with ours := b })
theorem side_asc (b : Bool) : ∀ {l : List PenM} {n : Int}, Asc n l → Asc n (side b l)
  | [], _, _ => trivial
  | p :: l, n, h => ⟨h.1, h.2.1, h.2.2.1, side_asc b h.2.2.2⟩
theorem side_ours (b : Bool) (l : List PenM) : ∀ p ∈ side b l, p.ours = b := by
  intro p hp
  obtain ⟨q, _, rfl⟩ := List.mem_map.1 hp
  rfl
theorem side_same {b : Bool} {l : List PenM} (h : ∀ p ∈ l, p.ours = b) (c : Bool) : side b (side c l) = l := by
  unfold side
  rw [List.map_map]
  have : l.map id = l := List.map_id l
  conv => rhs; rw [← this]
  refine List.map_congr_left fun p hp => ?_
  have := h p hp
  obtain ⟨x, y, z, w⟩ := p
  dsimp only at this ⊢
  subst this
  rfl
theorem turnS_append (b : Bool) (l m : List PenM) : turnS b (l ++ m) = turnS b l ++ turnS b m := by simp [turnS]
theorem turnS_self {b : Bool} {l : List PenM} (h : ∀ p ∈ l, p.ours = b) : turnS b l = [] := by
  unfold turnS
  rw [List.filter_eq_nil_iff.2, List.map_nil]
  intro p hp
  simp [h p hp]
theorem turnS_other {b c : Bool} (hbc : c ≠ b) {l : List PenM} (h : ∀ p ∈ l, p.ours = c) : turnS b l = side b l := by
  unfold turnS side
  rw [List.filter_eq_self.2]
  intro p hp
  rw [h p hp]
  simpa using hbc

theorem turn_two {x y : List PenM} (hx : ∀ p ∈ x, p.ours = true) (hy : ∀ p ∈ y, p.ours = false) : turnL (x ++ y) = side true y ++ side false x := by
  rw [turnL, turnS_append, turnS_append, turnS_self hx, turnS_self hy, turnS_other (by decide) hx, turnS_other (by decide) hy]
  simp
theorem turn_made (l : List PenM) : turnL (madeL l) = side true (madeS false 0 l) ++ side false (madeS true 0 l) := turn_two (madeS_ours true l 0) (madeS_ours false l 0)
theorem turn_back (l : List PenM) : turnL (turnL (madeL l)) = madeL l := by
  rw [turn_made, turn_two (side_ours true _) (side_ours false _), side_same (madeS_ours true l 0), side_same (madeS_ours false l 0)]
  rfl
theorem turn_sound (o q : Int) (l : List PenM) : soundP (q % 1152921504606846976) (o % 1152921504606846976) (turnL (madeL l)) = true := by
  obtain ⟨lt', h2⟩ := scanT (side true (madeS false 0 l)) (-1) (-1) 0 (side false (madeS true 0 l)) (side_asc true (madeS_asc false l 0 (-1) (by decide) (by decide))) (side_ours _ _)
  have h4 := scanF (side false (madeS true 0 l)) lt' (-1) (0 + (side true (madeS false 0 l)).length) 0 (side_asc false (madeS_asc true l 0 (-1) (by decide) (by decide))) (side_ours _ _)
  have l1 := length_madeS false l 0 (by decide)
  have l2 := length_madeS true l 0 (by decide)
  unfold soundP
  rw [turn_made, h2, h4]
  unfold maxAmount few side
  rw [List.length_map, List.length_map]
  simp only [Bool.and_eq_true, decide_eq_true_eq]
  omega

def tot (l : List PenM) : Int := (l.map PenM.amount).sum
theorem tot_turn : ∀ l : List PenM, tot (turnL l) = tot l := by
  have h : ∀ l : List PenM, tot (turnS true l) + tot (turnS false l) = tot l := by
    intro l
    induction l with
    | nil => rfl
    | cons p l ih =>
      have : ∀ b, tot (turnS b (p :: l)) = tot (turnS b l) + (if p.ours = b then 0 else p.amount) := by
        intro b
        unfold turnS tot
        cases ho : p.ours <;> cases b <;> simp [ho] <;> omega
      rw [this, this]
      have e : tot (p :: l) = p.amount + tot l := by simp [tot]
      rw [e]
      cases ho : p.ours <;> simp [ho] <;> omega
  intro l
  rw [← h l]
  simp [turnL, tot]
theorem tot_take {l : List PenM} {j : Nat} {p : PenM} (h : l[j]? = some p) : tot (l.take (j + 1)) = tot (l.take j) + p.amount := by
  rw [List.take_add_one, h]
  simp [tot]

section
variable {F0 : List AId} {G0 G : Heap} {ps : List LP} {Q : AVal → Heap → Prop}

theorem int_load {i : Nat} {id : AId} {n : Int} (hs : Sp F0 G0 ps G) (hi : ps[i]? = some (RowL id (.int .i64 n))) : vload T G t_int64 (.ptr id [] 0) = some (.int .i64 n) := whole_load T_int64 (RowL.own hs hi) rfl
theorem int_store {i : Nat} {id : AId} {n : Int} (m : Int) (hs : Sp F0 G0 ps G) (hi : ps[i]? = some (RowL id (.int .i64 n))) {K : Heap → Prop} (hK : ∀ G', Sp F0 G0 (ps.set i (RowL id (.int .i64 m))) G' → K G') :
    wg (vstore T G t_int64 (.ptr id [] 0) (.int .i64 m)) K := by
  refine wg_of (whole_store (c := .int .i64 m) T_int64 (RowL.own hs hi) rfl rfl rfl) ?_
  exact hK _ (Sp.setRow hs hi _)

theorem shr61 {T : Tbl} {t : TypeId} {a : Int} : vbin T .shr t (.int .i64 a) (.int .u64 61) = some (.int .i64 (a / 2305843009213693952)) := by
  rw [vbin_shr _ _ _ _ _ _ (by decide)]
  have h1 : min (Int.toNat 61) IntKind.i64.bits = 61 := rfl
  rw [h1, Int.fdiv_eq_ediv_of_nonneg _ (by decide)]
  rfl

end
end Go.Esc.M
