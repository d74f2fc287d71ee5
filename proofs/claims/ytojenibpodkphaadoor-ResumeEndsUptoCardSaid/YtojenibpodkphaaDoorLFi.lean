import Derived.Test.YtojenibpodkphaaDoorLFc
import Derived.Test.YtojenibpodkphaaDoorLPw
/- Own work. Chapter 13: Spendable, both; the document's Open. -/
set_option linter.unusedSimpArgs false
set_option linter.unusedVariables false
set_option maxRecDepth 20000
namespace Go.Esc.M
open Go Go.Esc

theorem sum_bound {A : List Int} (h : ∀ a ∈ A, amt a) : 0 ≤ A.sum ∧ A.sum ≤ (A.length : Int) * 1152921504606846976 := by
  induction A with
  | nil => simp
  | cons a A ih =>
    obtain ⟨h1, h2⟩ := ih fun x hx => h x (by simp [hx])
    obtain ⟨h3, h4⟩ := h a (by simp)
    rw [List.sum_cons, List.length_cons]
    constructor
    · omega
    · push_cast
      omega

section
variable {F0 : List AId} {G0 G : Heap} {ps : List LP} {Q : AVal → Heap → Prop}

theorem count_load {id : AId} {a b : Int} (hg : G id = some (.own (pairW a b))) :
    vload T G t_int (.ptr id [0] 0) = some (.int .i64 a) ∧ vload T G t_int (.ptr id [1] 1) = some (.int .i64 b) ∧ vload T G t_api_Counts (.ptr id [] 0) = some (pairW a b) :=
  ⟨vload_fld (c := .int .i64 a) hg rfl rfl rfl T_int rfl, vload_fld (c := .int .i64 b) hg rfl rfl rfl T_int rfl, whole_load T_api_Counts hg rfl⟩
end

end Go.Esc.M

/- Own work. Chapter 13: the document's Spendable and Open. -/
set_option linter.unusedSimpArgs false
set_option linter.unusedVariables false
set_option maxRecDepth 20000
namespace Go.Esc.M
open Go Go.Esc

section
variable {F0 : List AId} {G0 G : Heap} {ps : List LP} {Q : AVal → Heap → Prop}

end

end Go.Esc.M

/- Own work. Chapter 13: lists sorted by ID, those of one ID in their order. -/
set_option linter.unusedSimpArgs false
set_option linter.unusedVariables false
set_option maxRecDepth 20000
namespace Go.Esc.M
open Go Go.Esc

/-- Those of each ID in the same order. -/
def StEq (a b : List PenM) : Prop := ∀ k : Int, a.filter (fun p => decide (p.id = k)) = b.filter (fun p => decide (p.id = k))
def SortedP (l : List PenM) : Prop := l.Pairwise fun p q => p.id ≤ q.id
theorem StEq.refl (a : List PenM) : StEq a a := fun _ => rfl
theorem StEq.symm {a b : List PenM} (h : StEq a b) : StEq b a := fun k => (h k).symm
theorem StEq.trans {a b c : List PenM} (h : StEq a b) (h' : StEq b c) : StEq a c := fun k => (h k).trans (h' k)
theorem StEq.mem {a b : List PenM} (h : StEq a b) {p : PenM} : p ∈ a ↔ p ∈ b := by
  have e := h p.id
  constructor
  · intro hp
    have : p ∈ a.filter (fun q => decide (q.id = p.id)) := List.mem_filter.2 ⟨hp, by simp⟩
    rw [e] at this
    exact (List.mem_filter.1 this).1
  · intro hp
    have : p ∈ b.filter (fun q => decide (q.id = p.id)) := List.mem_filter.2 ⟨hp, by simp⟩
    rw [← e] at this
    exact (List.mem_filter.1 this).1
theorem StEq.append {a b c d : List PenM} (h : StEq a b) (h' : StEq c d) : StEq (a ++ c) (b ++ d) := fun k => by rw [List.filter_append, List.filter_append, h k, h' k]
/-- Blocks that share no ID may change places. -/
theorem StEq.swap {a b : List PenM} (h : ∀ p ∈ a, ∀ q ∈ b, p.id ≠ q.id) : StEq (a ++ b) (b ++ a) := by
  intro k
  rw [List.filter_append, List.filter_append]
  by_cases ha : a.filter (fun p => decide (p.id = k)) = []
  · rw [ha, List.nil_append, List.append_nil]
  · have hb : b.filter (fun p => decide (p.id = k)) = [] := by
      rw [List.filter_eq_nil_iff]
      intro q hq hk
      obtain ⟨p, hp⟩ := List.exists_mem_of_ne_nil _ ha
      obtain ⟨h1, h2⟩ := List.mem_filter.1 hp
      have h2 := of_decide_eq_true h2
      have hk := of_decide_eq_true hk
      exact h p h1 q hq (by rw [h2, hk])
    rw [hb, List.nil_append, List.append_nil]
theorem StEq.cons {a b : List PenM} (p : PenM) (h : StEq a b) : StEq (p :: a) (p :: b) := StEq.append (a := [p]) (b := [p]) (StEq.refl _) h

theorem StEq.length {a b : List PenM} (h : StEq a b) : a.length = b.length := by
  have key : ∀ (n : Nat) (a b : List PenM), a.length = n → StEq a b → a.length = b.length := by
    intro n
    induction n with
    | zero =>
      intro a b ha h
      have : a = [] := List.length_eq_zero_iff.1 ha
      subst this
      cases b with
      | nil => rfl
      | cons p b => exact absurd (h.mem.2 (List.mem_cons_self)) (by simp)
    | succ n ih =>
      intro a b ha h
      match a, ha with
      | p :: a, ha =>
        have hp : p ∈ b := h.mem.1 (by simp)
        have hf := h p.id
        rw [List.filter_cons, if_pos (by simp)] at hf
        -- the first of p's ID in b is p
        obtain ⟨u, v, hb, hu⟩ : ∃ u v, b = u ++ p :: v ∧ ∀ q ∈ u, q.id ≠ p.id := by
          have : ∀ b : List PenM, (∃ r, b.filter (fun q => decide (q.id = p.id)) = p :: r) → ∃ u v, b = u ++ p :: v ∧ ∀ q ∈ u, q.id ≠ p.id := by
            intro b
            induction b with
            | nil => rintro ⟨r, hr⟩; cases hr
            | cons x b ihb =>
              rintro ⟨r, hr⟩
              rw [List.filter_cons] at hr
              by_cases hx : x.id = p.id
              · rw [if_pos (by simp [hx])] at hr
                injection hr with h1 h2
                subst h1
                exact ⟨[], b, rfl, by simp⟩
              · rw [if_neg (by simp [hx])] at hr
                obtain ⟨u, v, h1, h2⟩ := ihb ⟨r, hr⟩
                refine ⟨x :: u, v, by rw [h1]; rfl, fun q hq => ?_⟩
                rcases List.mem_cons.1 hq with rfl | hq
                · exact hx
                · exact h2 q hq
          exact this b ⟨_, hf.symm⟩
        have h1 : StEq (u ++ p :: v) (p :: (u ++ v)) := by
          have := StEq.append (StEq.swap (a := u) (b := [p]) (fun q hq r hr => by rw [List.mem_singleton.1 hr]; exact hu q hq)) (StEq.refl v)
          simpa using this
        rw [hb] at h
        have h2 : StEq (p :: a) (p :: (u ++ v)) := h.trans h1
        have h3 : StEq a (u ++ v) := fun k => by
          have e := h2 k
          rw [List.filter_cons, List.filter_cons] at e
          by_cases hk : p.id = k
          · rw [if_pos (by simp [hk]), if_pos (by simp [hk])] at e
            injection e
          · rw [if_neg (by simp [hk]), if_neg (by simp [hk])] at e
            exact e
        have := ih a (u ++ v) (by simpa using ha) h3
        rw [hb]
        simp only [List.length_cons, List.length_append] at this ⊢
        omega
  exact key _ a b rfl h

/-- Sorted, and those of each ID in their order: there is one such list. -/
theorem sorted_one : ∀ {a b : List PenM}, SortedP a → SortedP b → StEq a b → a = b
  | [], b, _, _, h => by
    have := h.length
    exact (List.length_eq_zero_iff.1 this.symm).symm
  | p :: a, [], _, _, h => by
    have := h.length
    simp at this
  | p :: a, q :: b, ha, hb, h => by
    have ha' := List.pairwise_cons.1 ha
    have hb' := List.pairwise_cons.1 hb
    have hpq : p.id = q.id := by
      have h1 : p ∈ q :: b := h.mem.1 (by simp)
      have h2 : q ∈ p :: a := h.mem.2 (by simp)
      have e1 : q.id ≤ p.id := by
        rcases List.mem_cons.1 h1 with rfl | h1
        · exact Int.le_refl _
        · exact hb'.1 p h1
      have e2 : p.id ≤ q.id := by
        rcases List.mem_cons.1 h2 with rfl | h2
        · exact Int.le_refl _
        · exact ha'.1 q h2
      omega
    have hf := h p.id
    rw [List.filter_cons, List.filter_cons, if_pos (by simp), if_pos (by simp [hpq])] at hf
    injection hf with h1 _
    subst h1
    have h3 : StEq a b := fun k => by
      have e := h k
      rw [List.filter_cons, List.filter_cons] at e
      by_cases hk : p.id = k
      · rw [if_pos (by simp [hk]), if_pos (by simp [hk])] at e
        injection e
      · rw [if_neg (by simp [hk]), if_neg (by simp [hk])] at e
        exact e
    rw [sorted_one ha'.2 hb'.2 h3]

/-- The document's: one more, behind those of its ID. -/
def placedP : List PenM → PenM → List PenM
  | [], p => [p]
  | q :: l, p => if p.id < q.id then p :: q :: l else q :: placedP l p
def sortP (l : List PenM) : List PenM := l.foldl placedP []
theorem placed_st (p : PenM) : ∀ {l : List PenM}, SortedP l → StEq (placedP l p) (l ++ [p]) ∧ SortedP (placedP l p)
  | [], _ => ⟨StEq.refl _, by simp [placedP, SortedP]⟩
  | q :: l, h => by
    have h' := List.pairwise_cons.1 h
    have ih := placed_st p h'.2
    unfold placedP
    by_cases hlt : p.id < q.id
    · rw [if_pos hlt]
      refine ⟨?_, List.pairwise_cons.2 ⟨fun x hx => ?_, h⟩⟩
      · have := StEq.swap (a := [p]) (b := q :: l) (fun x hx y hy => by
          rw [List.mem_singleton.1 hx]
          rcases List.mem_cons.1 hy with rfl | hy
          · omega
          · have := h'.1 y hy; omega)
        exact this
      · rcases List.mem_cons.1 hx with rfl | hx
        · omega
        · have := h'.1 x hx; omega
    · rw [if_neg hlt]
      refine ⟨StEq.cons q ih.1, List.pairwise_cons.2 ⟨fun x hx => ?_, ih.2⟩⟩
      have := ih.1.mem.1 hx
      rcases List.mem_append.1 this with hx | hx
      · exact h'.1 x hx
      · rw [List.mem_singleton.1 hx]; omega
theorem sort_st (l : List PenM) : StEq (sortP l) l ∧ SortedP (sortP l) := by
  have : ∀ (l acc : List PenM), SortedP acc → StEq (l.foldl placedP acc) (acc ++ l) ∧ SortedP (l.foldl placedP acc) := by
    intro l
    induction l with
    | nil => intro acc h; exact ⟨by simpa using StEq.refl acc, h⟩
    | cons p l ih =>
      intro acc h
      obtain ⟨h1, h2⟩ := placed_st p h
      obtain ⟨h3, h4⟩ := ih (placedP acc p) h2
      refine ⟨?_, h4⟩
      have := h3.trans (StEq.append h1 (StEq.refl l))
      simpa using this
  have := this l [] (by simp [SortedP])
  rw [List.nil_append] at this
  exact this
/-- What is sorted and keeps each ID's order is this. -/
theorem sort_is {l s : List PenM} (h1 : StEq s l) (h2 : SortedP s) : s = sortP l := sorted_one h2 (sort_st l).2 (h1.trans (sort_st l).1.symm)

end Go.Esc.M

/- Own work. Chapter 13: the sort: comparing, swapping neighbours, insertion. -/
set_option linter.unusedSimpArgs false
set_option linter.unusedVariables false
set_option maxRecDepth 20000
namespace Go.Esc.M
open Go Go.Esc

def cmpI (a b : Int) : Int := if a < b then -1 else if b < a then 1 else 0
theorem cmpI_neg {a b : Int} : decide (cmpI a b < 0) = decide (a < b) := by
  unfold cmpI
  by_cases h : a < b
  · rw [if_pos h, decide_eq_true h]; rfl
  · rw [if_neg h, decide_eq_false h]
    split <;> rfl
theorem swap_at (A B : List PenM) (u p : PenM) : ((A ++ u :: p :: B).set (A.length + 1) u).set A.length p = A ++ p :: u :: B := by
  rw [List.set_append_right _ _ (by omega), Nat.add_sub_cancel_left, List.set_append_right _ _ (by omega), Nat.sub_self]
  rfl
theorem get_at (A B : List PenM) (u : PenM) : (A ++ u :: B)[A.length]? = some u := by
  rw [List.getElem?_append_right (by omega), Nat.sub_self]
  rfl

section
variable {F0 : List AId} {G0 G : Heap} {ps : List LP} {Q : AVal → Heap → Prop}

theorem cmp_isNaN_int64.use {a : Int} (hQ : Q (.bool false) G) : ACalls P cmp_isNaN_int64.n [.int .i64 a] G Q := by
  refine cmp_isNaN_int64.sound ?_
  unfold cmp_isNaN_int64.S
  rw [nz0, wv_some]
  exact hQ
theorem cmp_Compare_int64.use {a b : Int} (hQ : Q (.int .i64 (cmpI a b)) G) : ACalls P cmp_Compare_int64.n [.int .i64 a, .int .i64 b] G Q := by
  refine cmp_Compare_int64.sound ?_
  unfold cmp_Compare_int64.S
  refine cmp_isNaN_int64.use ?_
  refine cmp_isNaN_int64.use ?_
  rw [brB_false, brB_false]
  unfold cmpI at hQ
  rw [vbin_lss, wv_some, brB_dec]
  refine ⟨fun h => by rwa [if_pos h] at hQ, fun h => ?_⟩
  rw [if_neg h] at hQ
  rw [vbin_gtr, wv_some, brB_dec]
  refine ⟨fun h2 => by rwa [if_pos (by omega)] at hQ, fun h2 => by rwa [if_neg (by omega)] at hQ⟩
theorem ledger_part_1.use {p q : PenM} (hp : p.ok) (hq : q.ok) (hQ : ∀ G', Ch [] G [] G' → Q (.int .i64 (cmpI p.id q.id)) G') : ACalls P ledger_part_1.n [p.av, q.av] G Q := by
  refine ledger_part_1.sound ?_
  unfold ledger_part_1.S
  intro i1 f1
  have s1 := (Sp.nil G).row f1 p.av
  intro i3 f3
  have s3 := s1.row f3 q.av
  have hQ := hQ _ s3.ch
  refine wv_of (PenM.fld hp (RowL.own (i := 1) s3 rfl)).2.1 ?_
  refine wv_of (PenM.fld hq (RowL.own (i := 0) s3 rfl)).2.1 ?_
  exact cmp_Compare_int64.use hQ

def cmpF : AVal := .func (.func ledger_part_1.n) [] []
theorem cmp_call {p q : PenM} {K : AVal → Heap → Prop} (hp : p.ok) (hq : q.ok) (hK : ∀ G', Ch [] G [] G' → K (.int .i64 (cmpI p.id q.id)) G') : aCallV P cmpF [p.av, q.av] G K := ledger_part_1.use hp hq hK

theorem pen_atx {v : AVal} {l : List PenM} {j : Nat} {p : PenM} {x : Int} (h : IsSl 35 G v (l.map PenM.av)) (hx : x = (j : Int)) (hj : l[j]? = some p) : ∃ a, viaddr T t_sl_api_Pending v (.int .i64 x) = some a ∧ vload T G t_api_Pending a = some p.av := by
  subst hx
  exact h.at_ (k := .i64) (i := ti_sl_api_Pending) (ie := ti_api_Pending) (T := T) (t := t_sl_api_Pending) (e := t_api_Pending) T_sl_api_Pending rfl T_api_Pending (by rw [List.getElem?_map, hj]; rfl) rfl
theorem pen_put {i j : Nat} {v : AVal} {l : List PenM} {p : PenM} {x : Int} (hx : x = (j : Int)) (hs : Sp F0 G0 ps G) (hi : ps[i]? = some (OwnL 35 v (l.map PenM.av))) (hj : j < l.length) (hp : p.ok) :
    ∃ a, viaddr T t_sl_api_Pending v (.int .i64 x) = some a ∧ ∀ K : Heap → Prop, (∀ G', Sp F0 G0 (ps.set i (OwnL 35 v ((l.set j p).map PenM.av))) G' → K G') → wg (vstore T G t_api_Pending a p.av) K := by
  subst hx
  exact pen_set hs hi hj hp

/-- Two neighbours change places. -/
theorem pen_swap {v : AVal} {A B : List PenM} {u p : PenM} {y z : Int} {K : Heap → Prop} (hu : u.ok) (hp : p.ok) (hy : y = (A.length : Int)) (hz : z = ((A.length + 1 : Nat) : Int)) (hs : Sp F0 G0 (OwnL 35 v ((A ++ u :: p :: B).map PenM.av) :: ps) G)
    (hK : ∀ G', Sp F0 G0 (OwnL 35 v ((A ++ p :: u :: B).map PenM.av) :: ps) G' → K G') :
    wv (viaddr T t_sl_api_Pending v (.int .i64 y)) fun v31 => wv (vload T G t_api_Pending v31) fun v32 => wv (viaddr T t_sl_api_Pending v (.int .i64 z)) fun v33 => wv (vload T G t_api_Pending v33) fun v34 => wv (viaddr T t_sl_api_Pending v (.int .i64 z)) fun v35 => wg (vstore T G t_api_Pending v35 v32) fun G36 => wv (viaddr T t_sl_api_Pending v (.int .i64 y)) fun v37 => wg (vstore T G36 t_api_Pending v37 v34) K := by
  have hsl := (OwnL.own (i := 0) hs rfl).is
  have g1 : (A ++ u :: p :: B)[A.length]? = some u := get_at A (p :: B) u
  have g2 : (A ++ u :: p :: B)[A.length + 1]? = some p := by
    rw [List.getElem?_append_right (by omega), Nat.add_sub_cancel_left]
    rfl
  obtain ⟨a, e1, e2⟩ := pen_atx hsl hy g1
  refine wv_of e1 ?_
  refine wv_of e2 ?_
  obtain ⟨b, e3, e4⟩ := pen_atx hsl hz g2
  refine wv_of e3 ?_
  refine wv_of e4 ?_
  obtain ⟨c, e5, e6⟩ := pen_put (i := 0) (p := u) hz hs rfl (by simp) hu
  refine wv_of e5 ?_
  refine e6 _ fun G36 s36 => ?_
  have s36 : Sp F0 G0 (OwnL 35 v (((A ++ u :: p :: B).set (A.length + 1) u).map PenM.av) :: ps) G36 := s36
  obtain ⟨d, e7, e8⟩ := pen_put (i := 0) (p := p) hy s36 rfl (by simp) hp
  refine wv_of e7 ?_
  refine e8 _ fun G38 s38 => ?_
  have s38 : Sp F0 G0 (OwnL 35 v ((((A ++ u :: p :: B).set (A.length + 1) u).set A.length p).map PenM.av) :: ps) G38 := s38
  rw [swap_at] at s38
  exact hK _ s38

set_option maxHeartbeats 2000000 in
theorem insertion.use {v : AVal} {X S Y : List PenM} {a b : Int} (hok : ∀ p ∈ X ++ S ++ Y, p.ok) (hlen : (X ++ S ++ Y).length ≤ 1048576) (ha : a = (X.length : Int)) (hb : b = ((X.length + S.length : Nat) : Int)) (hs : Sp F0 G0 (OwnL 35 v ((X ++ S ++ Y).map PenM.av) :: ps) G)
    (hQ : ∀ S' G', StEq S' S → SortedP S' → Sp F0 G0 (OwnL 35 v ((X ++ S' ++ Y).map PenM.av) :: ps) G' → Q (.tuple []) G') :
    ACalls P slices_insertionSortCmpFunc_escrow_api_Pending.n [v, .int .i64 a, .int .i64 b, cmpF] G Q := by
  refine slices_insertionSortCmpFunc_escrow_api_Pending.sound ?_
  unfold slices_insertionSortCmpFunc_escrow_api_Pending.S
  subst ha hb
  simp only [List.length_append] at hlen
  rw [vbin_add, i64_in (by omega) (by omega), wv_some]
  intro R hR
  have loop : ∀ (m j : Nat) (S0 T0 : List PenM) (G' : Heap), S.length - j = m → (j ≤ S.length ∨ j = 1) → S0.length = min j S.length → StEq (S0 ++ T0) S → SortedP S0 → Sp F0 G0 (OwnL 35 v ((X ++ (S0 ++ T0) ++ Y).map PenM.av) :: ps) G' →
      R [v, .int .i64 (X.length : Int), .int .i64 ((X.length + S.length : Nat) : Int), cmpF, .int .i64 ((X.length + j : Nat) : Int)] G' := by
    intro m
    induction m with
    | zero =>
      intro j S0 T0 G' hm hj hl0 hst hso sp
      refine hR _ _ _ _ _ _ ?_
      rw [vbin_lss, wv_some, decide_eq_false (by omega), brB_false]
      have hlen2 := hst.length
      rw [List.length_append] at hlen2
      have : T0 = [] := List.length_eq_zero_iff.1 (by omega)
      subst this
      rw [List.append_nil] at hst sp
      exact hQ _ _ hst hso sp
    | succ m ih =>
      intro j S0 T0 G' hm hj hl0 hst hso sp
      have hlen2 := hst.length
      rw [List.length_append] at hlen2
      refine hR _ _ _ _ _ _ ?_
      rw [vbin_lss, wv_some, decide_eq_true (by omega), brB_true]
      cases T0 with
      | nil =>
        exfalso
        rw [List.length_nil] at hlen2
        omega
      | cons p T1 =>
        have hmem : ∀ q, q ∈ S0 ++ p :: T1 → q.ok := fun q hq => hok q (by
          have := hst.mem.1 hq
          simp [this])
        have hpo := hmem p (by simp)
        intro R2 hR2
        have inner : ∀ (n : Nat) (U V : List PenM) (G' : Heap), U.length = n → U ++ V = S0 → (∀ q ∈ V, p.id < q.id) → Sp F0 G0 (OwnL 35 v ((X ++ (U ++ p :: V ++ T1) ++ Y).map PenM.av) :: ps) G' →
            R2 [v, .int .i64 (X.length : Int), .int .i64 ((X.length + S.length : Nat) : Int), cmpF, .int .i64 ((X.length + j : Nat) : Int), .int .i64 ((X.length + U.length : Nat) : Int)] G' := by
          intro n
          induction n with
          | zero =>
            intro U V G' hU hUV hV sp
            have : U = [] := List.length_eq_zero_iff.1 hU
            subst this
            refine hR2 _ _ _ _ _ _ _ ?_
            intro J40
            rw [vbin_gtr, wv_some, decide_eq_false (by simp), brB_false]
            simp -zeta only [J40, brB_false]
            rw [vbin_add, i64_in (by omega) (by omega), wv_some]
            have hVS : V = S0 := by simpa using hUV
            refine ih (j + 1) (p :: V) T1 G' (by omega) (by omega) ?_ ?_ ?_ ?_
            · rw [List.length_cons, hVS, hl0]; simp at hlen2; omega
            · refine StEq.trans ?_ hst
              have := StEq.append (StEq.swap (a := [p]) (b := V) (fun x hx y hy => by rw [List.mem_singleton.1 hx]; have := hV y hy; omega)) (StEq.refl T1)
              rw [hVS] at this ⊢
              simpa using this
            · exact List.pairwise_cons.2 ⟨fun q hq => by have := hV q hq; omega, by rw [hVS]; exact hso⟩
            · simpa using sp
          | succ n ihn =>
            intro U V G' hU hUV hV sp
            obtain ⟨W, u, rfl⟩ : ∃ W u, U = W ++ [u] := ⟨U.dropLast, U.getLast (by intro h; rw [h] at hU; simp at hU), (List.dropLast_concat_getLast _).symm⟩
            have huo : u.ok := hmem u (by rw [← hUV]; simp)
            have hWl : W.length = n := by simpa using hU
            have hUl : (W ++ [u]).length = W.length + 1 := by simp
            have e0 : X ++ (W ++ [u] ++ p :: V ++ T1) ++ Y = (X ++ W) ++ u :: p :: (V ++ T1 ++ Y) := by simp
            rw [e0] at sp
            have hsl := (OwnL.own (i := 0) sp rfl).is
            have g1 : ((X ++ W) ++ u :: p :: (V ++ T1 ++ Y))[X.length + W.length]? = some u := by
              have := get_at (X ++ W) (p :: (V ++ T1 ++ Y)) u
              rwa [List.length_append] at this
            have g2 : ((X ++ W) ++ u :: p :: (V ++ T1 ++ Y))[X.length + W.length + 1]? = some p := by
              rw [List.getElem?_append_right (by rw [List.length_append]; omega), List.length_append, Nat.add_sub_cancel_left]
              rfl
            rw [hUl]
            have hjw : W.length + 1 ≤ S.length := by
              have := congrArg List.length hUV
              simp at this
              omega
            refine hR2 _ _ _ _ _ _ _ ?_
            intro J40
            rw [vbin_gtr, wv_some, decide_eq_true (by omega), brB_true]
            obtain ⟨c1, e1, e2⟩ := pen_atx (x := ((X.length + (W.length + 1) : Nat) : Int)) hsl (by omega) g2
            refine wv_of e1 ?_
            refine wv_of e2 ?_
            rw [vbin_sub, i64_in (by omega) (by omega), wv_some]
            obtain ⟨c2, e3, e4⟩ := pen_atx (x := ((X.length + (W.length + 1) : Nat) : Int) - 1) hsl (by omega) g1
            refine wv_of e3 ?_
            refine wv_of e4 ?_
            refine cmp_call hpo huo fun G25 c25 => ?_
            have s25 := sp.tmp c25
            rw [vbin_lss, wv_some, cmpI_neg]
            by_cases hlt : p.id < u.id
            · rw [decide_eq_true hlt]
              simp -zeta only [J40, brB_true]
              rw [vbin_sub, i64_in (by omega) (by omega), wv_some, wv_some]
              refine pen_swap (A := X ++ W) (B := V ++ T1 ++ Y) huo hpo (by rw [List.length_append]; omega) (by rw [List.length_append]; omega) s25 fun G38 s38 => ?_
              rw [wv_some]
              have e5 : (X ++ W) ++ p :: u :: (V ++ T1 ++ Y) = X ++ (W ++ p :: (u :: V) ++ T1) ++ Y := by simp
              rw [e5] at s38
              have := ihn W (u :: V) G38 hWl (by rw [← hUV]; simp) (fun q hq => by
                rcases List.mem_cons.1 hq with rfl | hq
                · exact hlt
                · exact hV q hq) s38
              have e6 : ((X.length + (W.length + 1) : Nat) : Int) - 1 = ((X.length + W.length : Nat) : Int) := by omega
              rw [e6]
              exact this
            · rw [decide_eq_false hlt]
              simp -zeta only [J40, brB_false]
              rw [vbin_add, i64_in (by omega) (by omega), wv_some]
              have e5 : (X ++ W) ++ u :: p :: (V ++ T1 ++ Y) = X ++ ((W ++ [u] ++ p :: V) ++ T1) ++ Y := by simp
              rw [e5] at s25
              have hs0 : SortedP (W ++ [u] ++ V) := by rw [hUV]; exact hso
              have hWu : ∀ q ∈ W ++ [u], q.id ≤ u.id := by
                intro q hq
                rcases List.mem_append.1 hq with hq | hq
                · unfold SortedP at hs0
                  rw [List.append_assoc, List.pairwise_append] at hs0
                  exact hs0.2.2 q hq u (by simp)
                · rw [List.mem_singleton.1 hq]; exact Int.le_refl _
              refine ih (j + 1) (W ++ [u] ++ p :: V) T1 G25 (by omega) (by omega) ?_ ?_ ?_ s25
              · have := congrArg List.length hUV
                simp at this hlen2 ⊢
                omega
              · refine StEq.trans ?_ hst
                have := StEq.append (StEq.refl (W ++ [u])) (StEq.append (StEq.swap (a := [p]) (b := V) (fun x hx y hy => by rw [List.mem_singleton.1 hx]; have := hV y hy; omega)) (StEq.refl T1))
                rw [← hUV]
                simpa using this
              · unfold SortedP at hs0 ⊢
                rw [List.pairwise_append] at hs0 ⊢
                refine ⟨hs0.1, List.pairwise_cons.2 ⟨fun q hq => by have := hV q hq; omega, hs0.2.1⟩, fun x hx y hy => ?_⟩
                rcases List.mem_cons.1 hy with rfl | hy
                · have := hWu x hx; omega
                · exact hs0.2.2 x hx y hy
        have := inner S0.length S0 [] G' rfl (by simp) (by simp) (by simpa using sp)
        have ej : ((X.length + j : Nat) : Int) = ((X.length + S0.length : Nat) : Int) := by rw [hl0]; simp at hlen2; omega
        rw [ej] at this ⊢
        exact this
  have e1 : ((X.length : Int) + 1) = ((X.length + 1 : Nat) : Int) := by omega
  rw [e1]
  cases S with
  | nil => exact loop 0 1 [] [] G rfl (by simp) (by simp) (StEq.refl _) (by simp [SortedP]) hs
  | cons p S => exact loop S.length 1 [p] S G (by simp) (by simp) (by simp) (StEq.refl _) (by simp [SortedP]) (by simpa using hs)

end

end Go.Esc.M

/- Own work. Chapter 13: the sort: blocks swapped, blocks rotated. -/
set_option linter.unusedSimpArgs false
set_option linter.unusedVariables false
set_option maxRecDepth 20000
namespace Go.Esc.M
open Go Go.Esc

theorem swap_far (A B C : List PenM) (u v : PenM) : ((A ++ u :: (B ++ v :: C)).set A.length v).set (A.length + (B.length + 1)) u = A ++ v :: (B ++ u :: C) := by
  rw [List.set_append_right _ _ (by omega), Nat.sub_self, List.set_cons_zero, List.set_append_right _ _ (by omega), Nat.add_sub_cancel_left, List.set_cons_succ, List.set_append_right _ _ (by omega), Nat.sub_self, List.set_cons_zero]

section
variable {F0 : List AId} {G0 G : Heap} {ps : List LP} {Q : AVal → Heap → Prop}

set_option maxHeartbeats 1000000 in
theorem swapRange.use {v : AVal} {X U M V Y : List PenM} {a b n : Int} {f : AVal} (hok : ∀ p ∈ X ++ (U ++ (M ++ (V ++ Y))), p.ok) (hlen : (X ++ (U ++ (M ++ (V ++ Y)))).length ≤ 1048576) (hUV : U.length = V.length) (ha : a = (X.length : Int)) (hb : b = ((X.length + (U.length + M.length) : Nat) : Int)) (hn : n = (U.length : Int))
    (hs : Sp F0 G0 (OwnL 35 v ((X ++ (U ++ (M ++ (V ++ Y)))).map PenM.av) :: ps) G)
    (hQ : ∀ G', Sp F0 G0 (OwnL 35 v ((X ++ (V ++ (M ++ (U ++ Y)))).map PenM.av) :: ps) G' → Q (.tuple []) G') :
    ACalls P slices_swapRangeCmpFunc_escrow_api_Pending.n [v, .int .i64 a, .int .i64 b, .int .i64 n, f] G Q := by
  refine slices_swapRangeCmpFunc_escrow_api_Pending.sound ?_
  unfold slices_swapRangeCmpFunc_escrow_api_Pending.S
  subst ha hb hn
  simp only [List.length_append] at hlen
  intro R hR
  have loop : ∀ (U2 V2 U1 V1 : List PenM) (G' : Heap), U = U1 ++ U2 → V = V1 ++ V2 → U2.length = V2.length → Sp F0 G0 (OwnL 35 v ((X ++ ((V1 ++ U2) ++ (M ++ ((U1 ++ V2) ++ Y)))).map PenM.av) :: ps) G' →
      R [v, .int .i64 (X.length : Int), .int .i64 ((X.length + (U.length + M.length) : Nat) : Int), .int .i64 (U.length : Int), .int .i64 (U1.length : Int)] G' := by
    intro U2
    induction U2 with
    | nil =>
      intro V2 U1 V1 G' hU hV hl sp
      have hV2 : V2 = [] := List.length_eq_zero_iff.1 (by simpa using hl.symm)
      subst hV2
      rw [List.append_nil] at hU hV
      subst hU hV
      refine hR _ _ _ _ _ _ ?_
      rw [vbin_lss, wv_some, decide_eq_false (by omega), brB_false]
      refine hQ _ ?_
      simpa using sp
    | cons u U2 ih =>
      intro V2 U1 V1 G' hU hV hl sp
      cases V2 with
      | nil => simp at hl
      | cons w V2 =>
        have hUl := congrArg List.length hU
        have hVl := congrArg List.length hV
        simp only [List.length_append, List.length_cons] at hUl hVl hl
        have huo : u.ok := hok u (by rw [hU]; simp)
        have hwo : w.ok := hok w (by rw [hV]; simp)
        refine hR _ _ _ _ _ _ ?_
        rw [vbin_lss, wv_some, decide_eq_true (by omega), brB_true]
        rw [vbin_add, i64_in (by omega) (by omega), wv_some]
        rw [vbin_add, i64_in (by omega) (by omega), wv_some, wv_some]
        have e0 : X ++ ((V1 ++ u :: U2) ++ (M ++ ((U1 ++ w :: V2) ++ Y))) = (X ++ V1) ++ u :: ((U2 ++ M ++ U1) ++ w :: (V2 ++ Y)) := by simp
        rw [e0] at sp
        have hA : (X ++ V1).length = X.length + U1.length := by rw [List.length_append]; omega
        have hB : (U2 ++ M ++ U1).length = U2.length + M.length + U1.length := by simp; omega
        have hsl := (OwnL.own (i := 0) sp rfl).is
        have g1 := get_at (X ++ V1) ((U2 ++ M ++ U1) ++ w :: (V2 ++ Y)) u
        have g2 : ((X ++ V1) ++ u :: ((U2 ++ M ++ U1) ++ w :: (V2 ++ Y)))[(X ++ V1).length + ((U2 ++ M ++ U1).length + 1)]? = some w := by
          rw [List.getElem?_append_right (by omega), Nat.add_sub_cancel_left, List.getElem?_cons_succ]
          exact get_at (U2 ++ M ++ U1) (V2 ++ Y) w
        obtain ⟨p1, e1, e2⟩ := pen_atx (x := ((X.length + (U.length + M.length) : Nat) : Int) + (U1.length : Int)) hsl (by rw [hA, hB]; omega) g2
        refine wv_of e1 ?_
        refine wv_of e2 ?_
        rw [wv_some]
        obtain ⟨p2, e3, e4⟩ := pen_atx (x := (X.length : Int) + (U1.length : Int)) hsl (by rw [hA]; omega) g1
        refine wv_of e3 ?_
        refine wv_of e4 ?_
        obtain ⟨p3, e5, e6⟩ := pen_put (i := 0) (p := w) (j := (X ++ V1).length) (x := (X.length : Int) + (U1.length : Int)) (by rw [hA]; omega) sp rfl (by simp) hwo
        refine wv_of e5 ?_
        refine e6 _ fun G18 s18 => ?_
        have s18 : Sp F0 G0 (OwnL 35 v ((((X ++ V1) ++ u :: ((U2 ++ M ++ U1) ++ w :: (V2 ++ Y))).set (X ++ V1).length w).map PenM.av) :: ps) G18 := s18
        obtain ⟨p4, e7, e8⟩ := pen_put (i := 0) (p := u) (j := (X ++ V1).length + ((U2 ++ M ++ U1).length + 1)) (x := ((X.length + (U.length + M.length) : Nat) : Int) + (U1.length : Int)) (by rw [hA, hB]; omega) s18 rfl (by simp; omega) huo
        refine wv_of e7 ?_
        refine e8 _ fun G20 s20 => ?_
        have s20 : Sp F0 G0 (OwnL 35 v (((((X ++ V1) ++ u :: ((U2 ++ M ++ U1) ++ w :: (V2 ++ Y))).set (X ++ V1).length w).set ((X ++ V1).length + ((U2 ++ M ++ U1).length + 1)) u).map PenM.av) :: ps) G20 := s20
        rw [swap_far] at s20
        rw [vbin_add, i64_in (by omega) (by omega), wv_some]
        have e9 : (X ++ V1) ++ w :: ((U2 ++ M ++ U1) ++ u :: (V2 ++ Y)) = X ++ (((V1 ++ [w]) ++ U2) ++ (M ++ (((U1 ++ [u]) ++ V2) ++ Y))) := by simp
        rw [e9] at s20
        have := ih V2 (U1 ++ [u]) (V1 ++ [w]) G20 (by rw [hU]; simp) (by rw [hV]; simp) (by omega) s20
        have e10 : ((U1 ++ [u]).length : Int) = (U1.length : Int) + 1 := by simp
        rw [e10] at this
        exact this
  exact loop U V [] [] G rfl rfl hUV (by simpa using hs)

set_option maxHeartbeats 2000000 in
theorem rotate.use {v : AVal} {X U V Y : List PenM} {a m b : Int} {f : AVal} (hok : ∀ p ∈ X ++ (U ++ (V ++ Y)), p.ok) (hlen : (X ++ (U ++ (V ++ Y))).length ≤ 1048576) (hU : U ≠ []) (hV : V ≠ []) (ha : a = (X.length : Int)) (hm : m = ((X.length + U.length : Nat) : Int)) (hb : b = ((X.length + U.length + V.length : Nat) : Int))
    (hs : Sp F0 G0 (OwnL 35 v ((X ++ (U ++ (V ++ Y))).map PenM.av) :: ps) G)
    (hQ : ∀ G', Sp F0 G0 (OwnL 35 v ((X ++ (V ++ (U ++ Y))).map PenM.av) :: ps) G' → Q (.tuple []) G') :
    ACalls P slices_rotateCmpFunc_escrow_api_Pending.n [v, .int .i64 a, .int .i64 m, .int .i64 b, f] G Q := by
  refine slices_rotateCmpFunc_escrow_api_Pending.sound ?_
  unfold slices_rotateCmpFunc_escrow_api_Pending.S
  subst ha hm hb
  simp only [List.length_append] at hlen
  have hU1 : 0 < U.length := List.length_pos_iff.2 hU
  have hV1 : 0 < V.length := List.length_pos_iff.2 hV
  rw [vbin_sub, i64_in (by omega) (by omega), wv_some]
  rw [vbin_sub, i64_in (by omega) (by omega), wv_some]
  intro R hR
  have loop : ∀ (n : Nat) (A Pp Rr B : List PenM) (G' : Heap), Pp.length + Rr.length ≤ n → 0 < Pp.length → 0 < Rr.length → A.length + Pp.length = U.length → A ++ (Rr ++ (Pp ++ B)) = V ++ U → (∀ p ∈ A ++ (Pp ++ (Rr ++ B)), p.ok) →
      Sp F0 G0 (OwnL 35 v ((X ++ (A ++ (Pp ++ (Rr ++ (B ++ Y))))).map PenM.av) :: ps) G' → R [v, .int .i64 ((X.length + U.length : Nat) : Int), f, .int .i64 (Pp.length : Int), .int .i64 (Rr.length : Int)] G' := by
    intro n
    induction n with
    | zero => intro A Pp Rr B G' hn h1 h2; omega
    | succ n ih =>
      intro A Pp Rr B G' hn h1 h2 hA ht ho sp
      have htl := congrArg List.length ht
      simp only [List.length_append] at htl
      have hYo : ∀ p ∈ Y, p.ok := fun p hp => hok p (by simp [hp])
      have hXo : ∀ p ∈ X, p.ok := fun p hp => hok p (by simp [hp])
      refine hR _ _ _ _ _ _ ?_
      rw [vbin_neq, wv_some]
      by_cases he : (Pp.length : Int) = (Rr.length : Int)
      · rw [decide_eq_true he, Bool.not_true, brB_false]
        rw [vbin_sub, i64_in (by omega) (by omega), wv_some]
        have e0 : X ++ (A ++ (Pp ++ (Rr ++ (B ++ Y)))) = (X ++ A) ++ (Pp ++ ([] ++ (Rr ++ (B ++ Y)))) := by simp
        rw [e0] at sp
        refine swapRange.use (X := X ++ A) (U := Pp) (M := []) (V := Rr) (Y := B ++ Y) ?_ ?_ (by omega) ?_ ?_ rfl sp fun G30 s30 => ?_
        · intro p hp
          simp only [List.mem_append] at hp ho hXo hYo
          rcases hp with (h | h) | h | h | h | h | h
          · exact hXo p h
          · exact ho p (.inl h)
          · exact ho p (.inr (.inl h))
          · cases h
          · exact ho p (.inr (.inr (.inl h)))
          · exact ho p (.inr (.inr (.inr h)))
          · exact hYo p h
        · simp only [List.length_append, List.length_nil]; omega
        · rw [List.length_append]; omega
        · simp only [List.length_append, List.length_nil]; omega
        · refine hQ _ ?_
          have e1 : (X ++ A) ++ (Rr ++ ([] ++ (Pp ++ (B ++ Y)))) = X ++ ((A ++ (Rr ++ (Pp ++ B))) ++ Y) := by simp
          rw [e1, ht] at s30
          simpa using s30
      · rw [decide_eq_false he, Bool.not_false, brB_true]
        rw [vbin_gtr, wv_some, brB_dec]
        refine ⟨fun hgt => ?_, fun hle => ?_⟩
        · rw [vbin_sub, i64_in (by omega) (by omega), wv_some]
          have hsp : Pp = Pp.take Rr.length ++ Pp.drop Rr.length := (List.take_append_drop _ _).symm
          obtain ⟨P1, hP1⟩ : ∃ x, x = Pp.take Rr.length := ⟨_, rfl⟩
          obtain ⟨P2, hP2⟩ : ∃ x, x = Pp.drop Rr.length := ⟨_, rfl⟩
          rw [← hP1, ← hP2] at hsp
          have hl1 : P1.length = Rr.length := by rw [hP1, List.length_take]; omega
          have hl2 : P2.length = Pp.length - Rr.length := by rw [hP2, List.length_drop]
          have hl3 : Pp.length = P1.length + P2.length := by omega
          have e0 : X ++ (A ++ (Pp ++ (Rr ++ (B ++ Y)))) = (X ++ A) ++ (P1 ++ (P2 ++ (Rr ++ (B ++ Y)))) := by rw [hsp]; simp
          rw [e0] at sp
          rw [hsp] at ho ht
          refine swapRange.use (X := X ++ A) (U := P1) (M := P2) (V := Rr) (Y := B ++ Y) ?_ ?_ hl1 ?_ ?_ (by omega) sp fun G14 s14 => ?_
          · intro p hp
            simp only [List.mem_append] at hp ho hXo hYo
            rcases hp with (h | h) | h | h | h | h | h
            · exact hXo p h
            · exact ho p (.inl h)
            · exact ho p (.inr (.inl (.inl h)))
            · exact ho p (.inr (.inl (.inr h)))
            · exact ho p (.inr (.inr (.inl h)))
            · exact ho p (.inr (.inr (.inr h)))
            · exact hYo p h
          · simp only [List.length_append]; omega
          · rw [List.length_append]; omega
          · simp only [List.length_append]; omega
          · rw [vbin_sub, i64_in (by omega) (by omega), wv_some]
            have e1 : (X ++ A) ++ (Rr ++ (P2 ++ (P1 ++ (B ++ Y)))) = X ++ ((A ++ Rr) ++ (P2 ++ (P1 ++ (B ++ Y)))) := by simp
            rw [e1] at s14
            have := ih (A ++ Rr) P2 P1 B G14 (by omega) (by omega) (by omega) (by rw [List.length_append]; omega) (by rw [← ht]; simp) (by
              intro p hp
              simp only [List.mem_append] at hp ho
              rcases hp with (h | h) | h | h | h
              · exact ho p (.inl h)
              · exact ho p (.inr (.inr (.inl h)))
              · exact ho p (.inr (.inl (.inr h)))
              · exact ho p (.inr (.inl (.inl h)))
              · exact ho p (.inr (.inr (.inr h)))) s14
            have e2 : (Pp.length : Int) - (Rr.length : Int) = (P2.length : Int) := by omega
            rw [e2, ← hl1]
            exact this
        · rw [vbin_sub, i64_in (by omega) (by omega), wv_some]
          rw [vbin_add, i64_in (by omega) (by omega), wv_some]
          rw [vbin_sub, i64_in (by omega) (by omega), wv_some]
          have hsp : Rr = Rr.take (Rr.length - Pp.length) ++ Rr.drop (Rr.length - Pp.length) := (List.take_append_drop _ _).symm
          obtain ⟨R1, hR1⟩ : ∃ x, x = Rr.take (Rr.length - Pp.length) := ⟨_, rfl⟩
          obtain ⟨R2, hR2⟩ : ∃ x, x = Rr.drop (Rr.length - Pp.length) := ⟨_, rfl⟩
          rw [← hR1, ← hR2] at hsp
          have hl1 : R1.length = Rr.length - Pp.length := by rw [hR1, List.length_take]; omega
          have hl2 : R2.length = Pp.length := by rw [hR2, List.length_drop]; omega
          have hl3 : Rr.length = R1.length + R2.length := by omega
          have e0 : X ++ (A ++ (Pp ++ (Rr ++ (B ++ Y)))) = (X ++ A) ++ (Pp ++ (R1 ++ (R2 ++ (B ++ Y)))) := by rw [hsp]; simp
          rw [e0] at sp
          rw [hsp] at ho ht
          refine swapRange.use (X := X ++ A) (U := Pp) (M := R1) (V := R2) (Y := B ++ Y) ?_ ?_ hl2.symm ?_ ?_ rfl sp fun G20 s20 => ?_
          · intro p hp
            simp only [List.mem_append] at hp ho hXo hYo
            rcases hp with (h | h) | h | h | h | h | h
            · exact hXo p h
            · exact ho p (.inl h)
            · exact ho p (.inr (.inl h))
            · exact ho p (.inr (.inr (.inl (.inl h))))
            · exact ho p (.inr (.inr (.inl (.inr h))))
            · exact ho p (.inr (.inr (.inr h)))
            · exact hYo p h
          · simp only [List.length_append]; omega
          · rw [List.length_append]; omega
          · simp only [List.length_append]; omega
          · rw [vbin_sub, i64_in (by omega) (by omega), wv_some]
            have e1 : (X ++ A) ++ (R2 ++ (R1 ++ (Pp ++ (B ++ Y)))) = X ++ (A ++ (R2 ++ (R1 ++ ((Pp ++ B) ++ Y)))) := by simp
            rw [e1] at s20
            have := ih A R2 R1 (Pp ++ B) G20 (by omega) (by omega) (by omega) (by omega) (by rw [← ht]; simp) (by
              intro p hp
              simp only [List.mem_append] at hp ho
              rcases hp with h | h | h | h | h
              · exact ho p (.inl h)
              · exact ho p (.inr (.inr (.inl (.inr h))))
              · exact ho p (.inr (.inr (.inl (.inl h))))
              · exact ho p (.inr (.inl h))
              · exact ho p (.inr (.inr (.inr h)))) s20
            have e2 : (Rr.length : Int) - (Pp.length : Int) = (R1.length : Int) := by omega
            rw [e2, ← hl2]
            exact this
  have e1 : ((X.length + U.length : Nat) : Int) - (X.length : Int) = (U.length : Int) := by omega
  have e2 : ((X.length + U.length + V.length : Nat) : Int) - ((X.length + U.length : Nat) : Int) = (V.length : Int) := by omega
  rw [e1, e2]
  refine loop (U.length + V.length) [] U V [] G (Nat.le_refl _) hU1 hV1 (by simp) (by simp) (fun p hp => hok p (by simp at hp ⊢; rcases hp with h | h <;> simp [h])) (by simpa using hs)

end

end Go.Esc.M

/- Own work. Chapter 13: the sort: merging, plain; small steps. -/
set_option linter.unusedSimpArgs false
set_option linter.unusedVariables false
set_option maxRecDepth 20000
namespace Go.Esc.M
open Go Go.Esc

theorem sorted_get {B : List PenM} (h : SortedP B) {i j : Nat} {x y : PenM} (hij : i ≤ j) (hi : B[i]? = some x) (hj : B[j]? = some y) : x.id ≤ y.id := by
  obtain ⟨h1, rfl⟩ := List.getElem?_eq_some_iff.1 hi
  obtain ⟨h2, rfl⟩ := List.getElem?_eq_some_iff.1 hj
  by_cases he : i = j
  · subst he; exact Int.le_refl _
  · exact (List.pairwise_iff_getElem.1 h) i j h1 h2 (by omega)
theorem sorted_append {a b : List PenM} : SortedP (a ++ b) ↔ SortedP a ∧ SortedP b ∧ ∀ x ∈ a, ∀ y ∈ b, x.id ≤ y.id := List.pairwise_append
/-- Two merges side by side are one. -/
theorem merge_ok {A1 U V B2 S1 S2 : List PenM} (hA : SortedP (A1 ++ U)) (hB : SortedP (V ++ B2)) (h1 : ∀ x ∈ A1, ∀ y ∈ B2, x.id ≤ y.id) (h2 : ∀ x ∈ V, ∀ y ∈ U, x.id < y.id) (hs1 : StEq S1 (A1 ++ V)) (ho1 : SortedP S1) (hs2 : StEq S2 (U ++ B2)) (ho2 : SortedP S2) :
    StEq (S1 ++ S2) ((A1 ++ U) ++ (V ++ B2)) ∧ SortedP (S1 ++ S2) := by
  obtain ⟨_, _, a3⟩ := sorted_append.1 hA
  obtain ⟨_, _, b3⟩ := sorted_append.1 hB
  refine ⟨?_, sorted_append.2 ⟨ho1, ho2, fun x hx y hy => ?_⟩⟩
  · refine (StEq.append hs1 hs2).trans ?_
    have := StEq.append (StEq.append (StEq.refl A1) (StEq.swap (a := V) (b := U) (fun x hx y hy => by have := h2 x hx y hy; omega))) (StEq.refl B2)
    simpa using this
  · have hx := hs1.mem.1 hx
    have hy := hs2.mem.1 hy
    rcases List.mem_append.1 hx with hx | hx <;> rcases List.mem_append.1 hy with hy | hy
    · exact a3 x hx y hy
    · exact h1 x hx y hy
    · have := h2 x hx y hy; omega
    · exact b3 x hx y hy
/-- One laid into a sorted list. -/
theorem one_left {p : PenM} {B1 B2 : List PenM} (hB : SortedP (B1 ++ B2)) (h1 : ∀ q ∈ B1, q.id < p.id) (h2 : ∀ q ∈ B2, p.id ≤ q.id) : StEq (B1 ++ p :: B2) ([p] ++ (B1 ++ B2)) ∧ SortedP (B1 ++ p :: B2) := by
  obtain ⟨b1, b2, b3⟩ := sorted_append.1 hB
  refine ⟨?_, sorted_append.2 ⟨b1, List.pairwise_cons.2 ⟨h2, b2⟩, fun x hx y hy => ?_⟩⟩
  · have := StEq.append (StEq.swap (a := B1) (b := [p]) (fun x hx y hy => by rw [List.mem_singleton.1 hy]; have := h1 x hx; omega)) (StEq.refl B2)
    simpa using this
  · rcases List.mem_cons.1 hy with rfl | hy
    · have := h1 x hx; omega
    · exact b3 x hx y hy
theorem one_right {q : PenM} {A1 A2 : List PenM} (hA : SortedP (A1 ++ A2)) (h1 : ∀ p ∈ A1, p.id ≤ q.id) (h2 : ∀ p ∈ A2, q.id < p.id) : StEq (A1 ++ q :: A2) ((A1 ++ A2) ++ [q]) ∧ SortedP (A1 ++ q :: A2) := by
  obtain ⟨a1, a2, a3⟩ := sorted_append.1 hA
  refine ⟨?_, sorted_append.2 ⟨a1, List.pairwise_cons.2 ⟨fun x hx => by have := h2 x hx; omega, a2⟩, fun x hx y hy => ?_⟩⟩
  · have := StEq.append (StEq.refl A1) (StEq.swap (a := [q]) (b := A2) (fun x hx y hy => by rw [List.mem_singleton.1 hx]; have := h2 y hy; omega))
    simpa using this
  · rcases List.mem_cons.1 hy with rfl | hy
    · exact h1 x hx
    · exact a3 x hx y hy
/-- What a search leaves: a list parted at a place. -/
theorem part_at {B : List PenM} {lo : Nat} (hlo : lo ≤ B.length) {P1 P2 : PenM → Prop} (h1 : ∀ k x, k < lo → B[k]? = some x → P1 x) (h2 : ∀ k x, lo ≤ k → B[k]? = some x → P2 x) : ∃ B1 B2, B = B1 ++ B2 ∧ B1.length = lo ∧ (∀ x ∈ B1, P1 x) ∧ ∀ x ∈ B2, P2 x := by
  refine ⟨B.take lo, B.drop lo, (List.take_append_drop _ _).symm, by rw [List.length_take]; omega, fun x hx => ?_, fun x hx => ?_⟩
  · obtain ⟨k, hk⟩ := List.mem_iff_getElem?.1 hx
    have hkl := (List.getElem?_eq_some_iff.1 hk).1
    rw [List.length_take] at hkl
    rw [List.getElem?_take_of_lt (by omega)] at hk
    exact h1 k x (by omega) hk
  · obtain ⟨k, hk⟩ := List.mem_iff_getElem?.1 hx
    rw [List.getElem?_drop] at hk
    exact h2 (lo + k) x (by omega) hk

section
variable {F0 : List AId} {G0 G : Heap} {ps : List LP} {Q : AVal → Heap → Prop}

theorem halfU {n : Nat} {x : Int} {K : AVal → Prop} (hx : x = (n : Int)) (hn : n ≤ 1099511627776) (hK : K (.int .i64 ((n / 2 : Nat) : Int))) :
    wv (vconv T G t_int t_uint (.int .i64 x)) fun v12 => wv (vbin T .shr t_uint v12 (.int .u64 1)) fun v13 => wv (vconv T G t_uint t_int v13) K := by
  subst hx
  refine wv_of (v := .int .u64 (n : Int)) (by rw [vconv_int T_int T_uint rfl, u64_in (by omega) (by omega)]) ?_
  refine wv_of (v := .int .u64 ((n / 2 : Nat) : Int)) ?_ ?_
  · rw [vbin_shr _ _ _ _ _ _ (by decide)]
    have h1 : min (1 : Int).toNat IntKind.u64.bits = 1 := by decide
    have h2 : (2 : Int) ^ 1 = 2 := by decide
    rw [h1, h2, Int.fdiv_eq_ediv_of_nonneg _ (by decide)]
    rfl
  refine wv_of (v := .int .i64 ((n / 2 : Nat) : Int)) (by rw [vconv_int T_uint T_int rfl, i64_in (by omega) (by omega)]) hK

/-- Two neighbours change places; the later is read first. -/
theorem pen_swap2 {v : AVal} {A B : List PenM} {u p : PenM} {y z : Int} {K : Heap → Prop} (hu : u.ok) (hp : p.ok) (hy : y = (A.length : Int)) (hz : z = ((A.length + 1 : Nat) : Int)) (hs : Sp F0 G0 (OwnL 35 v ((A ++ u :: p :: B).map PenM.av) :: ps) G)
    (hK : ∀ G', Sp F0 G0 (OwnL 35 v ((A ++ p :: u :: B).map PenM.av) :: ps) G' → K G') :
    wv (viaddr T t_sl_api_Pending v (.int .i64 z)) fun v31 => wv (vload T G t_api_Pending v31) fun v32 => wv (viaddr T t_sl_api_Pending v (.int .i64 y)) fun v33 => wv (vload T G t_api_Pending v33) fun v34 => wv (viaddr T t_sl_api_Pending v (.int .i64 y)) fun v35 => wg (vstore T G t_api_Pending v35 v32) fun G36 => wv (viaddr T t_sl_api_Pending v (.int .i64 z)) fun v37 => wg (vstore T G36 t_api_Pending v37 v34) K := by
  have hsl := (OwnL.own (i := 0) hs rfl).is
  have g1 : (A ++ u :: p :: B)[A.length]? = some u := get_at A (p :: B) u
  have g2 : (A ++ u :: p :: B)[A.length + 1]? = some p := by
    rw [List.getElem?_append_right (by omega), Nat.add_sub_cancel_left]
    rfl
  obtain ⟨b, e3, e4⟩ := pen_atx hsl hz g2
  refine wv_of e3 ?_
  refine wv_of e4 ?_
  obtain ⟨a, e1, e2⟩ := pen_atx hsl hy g1
  refine wv_of e1 ?_
  refine wv_of e2 ?_
  obtain ⟨d, e7, e8⟩ := pen_put (i := 0) (p := p) hy hs rfl (by simp) hp
  refine wv_of e7 ?_
  refine e8 _ fun G36 s36 => ?_
  have s36 : Sp F0 G0 (OwnL 35 v (((A ++ u :: p :: B).set A.length p).map PenM.av) :: ps) G36 := s36
  obtain ⟨c, e5, e6⟩ := pen_put (i := 0) (p := u) hz s36 rfl (by simp) hu
  refine wv_of e5 ?_
  refine e6 _ fun G38 s38 => ?_
  have s38 : Sp F0 G0 (OwnL 35 v ((((A ++ u :: p :: B).set A.length p).set (A.length + 1) u).map PenM.av) :: ps) G38 := s38
  have e : ((A ++ u :: p :: B).set A.length p).set (A.length + 1) u = A ++ p :: u :: B := by
    rw [List.set_append_right _ _ (by omega), Nat.sub_self, List.set_cons_zero, List.set_append_right _ _ (by omega), Nat.add_sub_cancel_left]
    rfl
  rw [e] at s38
  exact hK _ s38

end

end Go.Esc.M
