import Derived.Test.YtooeiljhobdfpaaLFg
/- Own work. Chapter 13: the sort: blocks swapped, blocks rotated. -/
set_option linter.unusedSimpArgs false
set_option linter.unusedVariables false
namespace Go.Esc.M
open Go Go.Esc

theorem swap_far (A B C : List PenM) (u v : PenM) : ((A ++ u :: (B ++ v :: C)).set A.length v).set (A.length + (B.length + 1)) u = A ++ v :: (B ++ u :: C) := by
  rw [List.set_append_right _ _ (by omega), Nat.sub_self, List.set_cons_zero, List.set_append_right _ _ (by omega), Nat.add_sub_cancel_left, List.set_cons_succ, List.set_append_right _ _ (by omega), Nat.sub_self, List.set_cons_zero]

section
variable {F0 : List AId} {G0 G : Heap} {ps : List LP} {Q : AVal → Heap → Prop}

set_option maxHeartbeats 1000000 in
theorem swapRange.use {v : AVal} {X U M V Y : List PenM} {a b n : Int} {f : AVal} (hok : ∀ p ∈ X ++ (U ++ (M ++ (V ++ Y))), p.ok) (hlen : (X ++ (U ++ (M ++ (V ++ Y)))).length ≤ 1048576) (hUV : U.length = V.length) (ha : a = (X.length : Int)) (hb : b = ((X.length + (U.length + M.length) : Nat) : Int)) (hn : n = (U.length : Int))
    (hs : Sp F0 G0 (OwnL 35 v ((X ++ (U ++ (M ++ (V ++ Y)))).map PenM.av) :: ps) G)
    (hQ : ∀ G', Sp F0 G0 (OwnL 35 v ((X ++ (V ++ (M ++ (U ++ Y)))).map PenM.av) :: ps) G' → Q (.tuple []) G') :
    ACalls P slices_swapRangeCmpFunc_escrow_api_Pending.n [v, .int .i64 a, .int .i64 b, .int .i64 n, f] G Q := by
  refine slices_swapRangeCmpFunc_escrow_api_Pending.sound ?_
  unfold slices_swapRangeCmpFunc_escrow_api_Pending.S
  subst ha hb hn
  simp only [List.length_append] at hlen
  intro R hR
  have loop : ∀ (U2 V2 U1 V1 : List PenM) (G' : Heap), U = U1 ++ U2 → V = V1 ++ V2 → U2.length = V2.length → Sp F0 G0 (OwnL 35 v ((X ++ ((V1 ++ U2) ++ (M ++ ((U1 ++ V2) ++ Y)))).map PenM.av) :: ps) G' →
      R [v, .int .i64 (X.length : Int), .int .i64 ((X.length + (U.length + M.length) : Nat) : Int), .int .i64 (U.length : Int), .int .i64 (U1.length : Int)] G' := by
    intro U2
    induction U2 with
    | nil =>
      intro V2 U1 V1 G' hU hV hl sp
      have hV2 : V2 = [] := List.length_eq_zero_iff.1 (by simpa using hl.symm)
      subst hV2
      rw [List.append_nil] at hU hV
      subst hU hV
      refine hR _ _ _ _ _ _ ?_
      rw [vbin_lss, wv_some, decide_eq_false (by omega), brB_false]
      refine hQ _ ?_
      simpa using sp
    | cons u U2 ih =>
      intro V2 U1 V1 G' hU hV hl sp
      cases V2 with
      | nil => simp at hl
      | cons w V2 =>
        have hUl := congrArg List.length hU
        have hVl := congrArg List.length hV
        simp only [List.length_append, List.length_cons] at hUl hVl hl
        have huo : u.ok := hok u (by rw [hU]; simp)
        have hwo : w.ok := hok w (by rw [hV]; simp)
        refine hR _ _ _ _ _ _ ?_
        rw [vbin_lss, wv_some, decide_eq_true (by omega), brB_true]
        rw [vbin_add, i64_in (by omega) (by omega), wv_some]
        rw [vbin_add, i64_in (by omega) (by omega), wv_some, wv_some]
        have e0 : X ++ ((V1 ++ u :: U2) ++ (M ++ ((U1 ++ w :: V2) ++ Y))) = (X ++ V1) ++ u :: ((U2 ++ M ++ U1) ++ w :: (V2 ++ Y)) := by simp
        rw [e0] at sp
        have hA : (X ++ V1).length = X.length + U1.length := by rw [List.length_append]; omega
        have hB : (U2 ++ M ++ U1).length = U2.length + M.length + U1.length := by simp; omega
        have hsl := (OwnL.own (i := 0) sp rfl).is
        have g1 := get_at (X ++ V1) ((U2 ++ M ++ U1) ++ w :: (V2 ++ Y)) u
        have g2 : ((X ++ V1) ++ u :: ((U2 ++ M ++ U1) ++ w :: (V2 ++ Y)))[(X ++ V1).length + ((U2 ++ M ++ U1).length + 1)]? = some w := by
          rw [List.getElem?_append_right (by omega), Nat.add_sub_cancel_left, List.getElem?_cons_succ]
          exact get_at (U2 ++ M ++ U1) (V2 ++ Y) w
        obtain ⟨p1, e1, e2⟩ := pen_atx (x := ((X.length + (U.length + M.length) : Nat) : Int) + (U1.length : Int)) hsl (by rw [hA, hB]; omega) g2
        refine wv_of e1 ?_
        refine wv_of e2 ?_
        rw [wv_some]
        obtain ⟨p2, e3, e4⟩ := pen_atx (x := (X.length : Int) + (U1.length : Int)) hsl (by rw [hA]; omega) g1
        refine wv_of e3 ?_
        refine wv_of e4 ?_
        obtain ⟨p3, e5, e6⟩ := pen_put (i := 0) (p := w) (j := (X ++ V1).length) (x := (X.length : Int) + (U1.length : Int)) (by rw [hA]; omega) sp rfl (by simp) hwo
        refine wv_of e5 ?_
        refine e6 _ fun G18 s18 => ?_
        have s18 : Sp F0 G0 (OwnL 35 v ((((X ++ V1) ++ u :: ((U2 ++ M ++ U1) ++ w :: (V2 ++ Y))).set (X ++ V1).length w).map PenM.av) :: ps) G18 := s18
        obtain ⟨p4, e7, e8⟩ := pen_put (i := 0) (p := u) (j := (X ++ V1).length + ((U2 ++ M ++ U1).length + 1)) (x := ((X.length + (U.length + M.length) : Nat) : Int) + (U1.length : Int)) (by rw [hA, hB]; omega) s18 rfl (by simp; omega) huo
        refine wv_of e7 ?_
        refine e8 _ fun G20 s20 => ?_
        have s20 : Sp F0 G0 (OwnL 35 v (((((X ++ V1) ++ u :: ((U2 ++ M ++ U1) ++ w :: (V2 ++ Y))).set (X ++ V1).length w).set ((X ++ V1).length + ((U2 ++ M ++ U1).length + 1)) u).map PenM.av) :: ps) G20 := s20
        rw [swap_far] at s20
        rw [vbin_add, i64_in (by omega) (by omega), wv_some]
        have e9 : (X ++ V1) ++ w :: ((U2 ++ M ++ U1) ++ u :: (V2 ++ Y)) = X ++ (((V1 ++ [w]) ++ U2) ++ (M ++ (((U1 ++ [u]) ++ V2) ++ Y))) := by simp
        rw [e9] at s20
        have := ih V2 (U1 ++ [u]) (V1 ++ [w]) G20 (by rw [hU]; simp) (by rw [hV]; simp) (by omega) s20
        have e10 : ((U1 ++ [u]).length : Int) = (U1.length : Int) + 1 := by simp
        rw [e10] at this
        exact this
  exact loop U V [] [] G rfl rfl hUV (by simpa using hs)

set_option maxHeartbeats 2000000 in
theorem rotate.use {v : AVal} {X U V Y : List PenM} {a m b : Int} {f : AVal} (hok : ∀ p ∈ X ++ (U ++ (V ++ Y)), p.ok) (hlen : (X ++ (U ++ (V ++ Y))).length ≤ 1048576) (hU : U ≠ []) (hV : V ≠ []) (ha : a = (X.length : Int)) (hm : m = ((X.length + U.length : Nat) : Int)) (hb : b = ((X.length + U.length + V.length : Nat) : Int))
    (hs : Sp F0 G0 (OwnL 35 v ((X ++ (U ++ (V ++ Y))).map PenM.av) :: ps) G)
    (hQ : ∀ G', Sp F0 G0 (OwnL 35 v ((X ++ (V ++ (U ++ Y))).map PenM.av) :: ps) G' → Q (.tuple []) G') :
    ACalls P slices_rotateCmpFunc_escrow_api_Pending.n [v, .int .i64 a, .int .i64 m, .int .i64 b, f] G Q := by
  refine slices_rotateCmpFunc_escrow_api_Pending.sound ?_
  unfold slices_rotateCmpFunc_escrow_api_Pending.S
  subst ha hm hb
  simp only [List.length_append] at hlen
  have hU1 : 0 < U.length := List.length_pos_iff.2 hU
  have hV1 : 0 < V.length := List.length_pos_iff.2 hV
  rw [vbin_sub, i64_in (by omega) (by omega), wv_some]
  rw [vbin_sub, i64_in (by omega) (by omega), wv_some]
  intro R hR
  have loop : ∀ (n : Nat) (A Pp Rr B : List PenM) (G' : Heap), Pp.length + Rr.length ≤ n → 0 < Pp.length → 0 < Rr.length → A.length + Pp.length = U.length → A ++ (Rr ++ (Pp ++ B)) = V ++ U → (∀ p ∈ A ++ (Pp ++ (Rr ++ B)), p.ok) →
      Sp F0 G0 (OwnL 35 v ((X ++ (A ++ (Pp ++ (Rr ++ (B ++ Y))))).map PenM.av) :: ps) G' → R [v, .int .i64 ((X.length + U.length : Nat) : Int), f, .int .i64 (Pp.length : Int), .int .i64 (Rr.length : Int)] G' := by
    intro n
    induction n with
    | zero => intro A Pp Rr B G' hn h1 h2; omega
    | succ n ih =>
      intro A Pp Rr B G' hn h1 h2 hA ht ho sp
      have htl := congrArg List.length ht
      simp only [List.length_append] at htl
      have hYo : ∀ p ∈ Y, p.ok := fun p hp => hok p (by simp [hp])
      have hXo : ∀ p ∈ X, p.ok := fun p hp => hok p (by simp [hp])
      refine hR _ _ _ _ _ _ ?_
      rw [vbin_neq, wv_some]
      by_cases he : (Pp.length : Int) = (Rr.length : Int)
      · rw [decide_eq_true he, Bool.not_true, brB_false]
        rw [vbin_sub, i64_in (by omega) (by omega), wv_some]
        have e0 : X ++ (A ++ (Pp ++ (Rr ++ (B ++ Y)))) = (X ++ A) ++ (Pp ++ ([] ++ (Rr ++ (B ++ Y)))) := by simp
        rw [e0] at sp
        refine swapRange.use (X := X ++ A) (U := Pp) (M := []) (V := Rr) (Y := B ++ Y) ?_ ?_ (by omega) ?_ ?_ rfl sp fun G30 s30 => ?_
        · intro p hp
          simp only [List.mem_append] at hp ho hXo hYo
          rcases hp with (h | h) | h | h | h | h | h
          · exact hXo p h
          · exact ho p (.inl h)
          · exact ho p (.inr (.inl h))
          · cases h
          · exact ho p (.inr (.inr (.inl h)))
          · exact ho p (.inr (.inr (.inr h)))
          · exact hYo p h
        · simp only [List.length_append, List.length_nil]; omega
        · rw [List.length_append]; omega
        · simp only [List.length_append, List.length_nil]; omega
        · refine hQ _ ?_
          have e1 : (X ++ A) ++ (Rr ++ ([] ++ (Pp ++ (B ++ Y)))) = X ++ ((A ++ (Rr ++ (Pp ++ B))) ++ Y) := by simp
          rw [e1, ht] at s30
          simpa using s30
      · rw [decide_eq_false he, Bool.not_false, brB_true]
        rw [vbin_gtr, wv_some, brB_dec]
        refine ⟨fun hgt => ?_, fun hle => ?_⟩
        · rw [vbin_sub, i64_in (by omega) (by omega), wv_some]
          have hsp : Pp = Pp.take Rr.length ++ Pp.drop Rr.length := (List.take_append_drop _ _).symm
          obtain ⟨P1, hP1⟩ : ∃ x, x = Pp.take Rr.length := ⟨_, rfl⟩
          obtain ⟨P2, hP2⟩ : ∃ x, x = Pp.drop Rr.length := ⟨_, rfl⟩
          rw [← hP1, ← hP2] at hsp
          have hl1 : P1.length = Rr.length := by rw [hP1, List.length_take]; omega
          have hl2 : P2.length = Pp.length - Rr.length := by rw [hP2, List.length_drop]
          have hl3 : Pp.length = P1.length + P2.length := by omega
          have e0 : X ++ (A ++ (Pp ++ (Rr ++ (B ++ Y)))) = (X ++ A) ++ (P1 ++ (P2 ++ (Rr ++ (B ++ Y)))) := by rw [hsp]; simp
          rw [e0] at sp
          rw [hsp] at ho ht
          refine swapRange.use (X := X ++ A) (U := P1) (M := P2) (V := Rr) (Y := B ++ Y) ?_ ?_ hl1 ?_ ?_ (by omega) sp fun G14 s14 => ?_
          · intro p hp
            simp only [List.mem_append] at hp ho hXo hYo
            rcases hp with (h | h) | h | h | h | h | h
            · exact hXo p h
            · exact ho p (.inl h)
            · exact ho p (.inr (.inl (.inl h)))
            · exact ho p (.inr (.inl (.inr h)))
            · exact ho p (.inr (.inr (.inl h)))
            · exact ho p (.inr (.inr (.inr h)))
            · exact hYo p h
          · simp only [List.length_append]; omega
          · rw [List.length_append]; omega
          · simp only [List.length_append]; omega
          · rw [vbin_sub, i64_in (by omega) (by omega), wv_some]
            have e1 : (X ++ A) ++ (Rr ++ (P2 ++ (P1 ++ (B ++ Y)))) = X ++ ((A ++ Rr) ++ (P2 ++ (P1 ++ (B ++ Y)))) := by simp
            rw [e1] at s14
            have := ih (A ++ Rr) P2 P1 B G14 (by omega) (by omega) (by omega) (by rw [List.length_append]; omega) (by rw [← ht]; simp) (by
              intro p hp
              simp only [List.mem_append] at hp ho
              rcases hp with (h | h) | h | h | h
              · exact ho p (.inl h)
              · exact ho p (.inr (.inr (.inl h)))
              · exact ho p (.inr (.inl (.inr h)))
              · exact ho p (.inr (.inl (.inl h)))
              · exact ho p (.inr (.inr (.inr h)))) s14
            have e2 : (Pp.length : Int) - (Rr.length : Int) = (P2.length : Int) := by omega
            rw [e2, ← hl1]
            exact this
        · rw [vbin_sub, i64_in (by omega) (by omega), wv_some]
          rw [vbin_add, i64_in (by omega) (by omega), wv_some]
          rw [vbin_sub, i64_in (by omega) (by omega), wv_some]
          have hsp : Rr = Rr.take (Rr.length - Pp.length) ++ Rr.drop (Rr.length - Pp.length) := (List.take_append_drop _ _).symm
          obtain ⟨R1, hR1⟩ : ∃ x, x = Rr.take (Rr.length - Pp.length) := ⟨_, rfl⟩
          obtain ⟨R2, hR2⟩ : ∃ x, x = Rr.drop (Rr.length - Pp.length) := ⟨_, rfl⟩
          rw [← hR1, ← hR2] at hsp
          have hl1 : R1.length = Rr.length - Pp.length := by rw [hR1, List.length_take]; omega
          have hl2 : R2.length = Pp.length := by rw [hR2, List.length_drop]; omega
          have hl3 : Rr.length = R1.length + R2.length := by omega
          have e0 : X ++ (A ++ (Pp ++ (Rr ++ (B ++ Y)))) = (X ++ A) ++ (Pp ++ (R1 ++ (R2 ++ (B ++ Y)))) := by rw [hsp]; simp
          rw [e0] at sp
          rw [hsp] at ho ht
          refine swapRange.use (X := X ++ A) (U := Pp) (M := R1) (V := R2) (Y := B ++ Y) ?_ ?_ hl2.symm ?_ ?_ rfl sp fun G20 s20 => ?_
          · intro p hp
            simp only [List.mem_append] at hp ho hXo hYo
            rcases hp with (h | h) | h | h | h | h | h
            · exact hXo p h
            · exact ho p (.inl h)
            · exact ho p (.inr (.inl h))
            · exact ho p (.inr (.inr (.inl (.inl h))))
            · exact ho p (.inr (.inr (.inl (.inr h))))
            · exact ho p (.inr (.inr (.inr h)))
            · exact hYo p h
          · simp only [List.length_append]; omega
          · rw [List.length_append]; omega
          · simp only [List.length_append]; omega
          · rw [vbin_sub, i64_in (by omega) (by omega), wv_some]
            have e1 : (X ++ A) ++ (R2 ++ (R1 ++ (Pp ++ (B ++ Y)))) = X ++ (A ++ (R2 ++ (R1 ++ ((Pp ++ B) ++ Y)))) := by simp
            rw [e1] at s20
            have := ih A R2 R1 (Pp ++ B) G20 (by omega) (by omega) (by omega) (by omega) (by rw [← ht]; simp) (by
              intro p hp
              simp only [List.mem_append] at hp ho
              rcases hp with h | h | h | h | h
              · exact ho p (.inl h)
              · exact ho p (.inr (.inr (.inl (.inr h))))
              · exact ho p (.inr (.inr (.inl (.inl h))))
              · exact ho p (.inr (.inl h))
              · exact ho p (.inr (.inr (.inr h)))) s20
            have e2 : (Rr.length : Int) - (Pp.length : Int) = (R1.length : Int) := by omega
            rw [e2, ← hl2]
            exact this
  have e1 : ((X.length + U.length : Nat) : Int) - (X.length : Int) = (U.length : Int) := by omega
  have e2 : ((X.length + U.length + V.length : Nat) : Int) - ((X.length + U.length : Nat) : Int) = (V.length : Int) := by omega
  rw [e1, e2]
  refine loop (U.length + V.length) [] U V [] G (Nat.le_refl _) hU1 hV1 (by simp) (by simp) (fun p hp => hok p (by simp at hp ⊢; rcases hp with h | h <;> simp [h])) (by simpa using hs)

end

end Go.Esc.M

/- Own work. Chapter 13: the sort: merging, plain; small steps. -/
set_option linter.unusedSimpArgs false
set_option linter.unusedVariables false
namespace Go.Esc.M
open Go Go.Esc

theorem sorted_get {B : List PenM} (h : SortedP B) {i j : Nat} {x y : PenM} (hij : i ≤ j) (hi : B[i]? = some x) (hj : B[j]? = some y) : x.id ≤ y.id := by
  obtain ⟨h1, rfl⟩ := List.getElem?_eq_some_iff.1 hi
  obtain ⟨h2, rfl⟩ := List.getElem?_eq_some_iff.1 hj
  by_cases he : i = j
  · subst he; exact Int.le_refl _
  · exact (List.pairwise_iff_getElem.1 h) i j h1 h2 (by omega)
theorem sorted_append {a b : List PenM} : SortedP (a ++ b) ↔ SortedP a ∧ SortedP b ∧ ∀ x ∈ a, ∀ y ∈ b, x.id ≤ y.id := List.pairwise_append
/-- Two merges side by side are one. -/
theorem merge_ok {A1 U V B2 S1 S2 : List PenM} (hA : SortedP (A1 ++ U)) (hB : SortedP (V ++ B2)) (h1 : ∀ x ∈ A1, ∀ y ∈ B2, x.id ≤ y.id) (h2 : ∀ x ∈ V, ∀ y ∈ U, x.id < y.id) (hs1 : StEq S1 (A1 ++ V)) (ho1 : SortedP S1) (hs2 : StEq S2 (U ++ B2)) (ho2 : SortedP S2) :
    StEq (S1 ++ S2) ((A1 ++ U) ++ (V ++ B2)) ∧ SortedP (S1 ++ S2) := by
  obtain ⟨_, _, a3⟩ := sorted_append.1 hA
  obtain ⟨_, _, b3⟩ := sorted_append.1 hB
  refine ⟨?_, sorted_append.2 ⟨ho1, ho2, fun x hx y hy => ?_⟩⟩
  · refine (StEq.append hs1 hs2).trans ?_
    have := StEq.append (StEq.append (StEq.refl A1) (StEq.swap (a := V) (b := U) (fun x hx y hy => by have := h2 x hx y hy; omega))) (StEq.refl B2)
    simpa using this
  · have hx := hs1.mem.1 hx
    have hy := hs2.mem.1 hy
    rcases List.mem_append.1 hx with hx | hx <;> rcases List.mem_append.1 hy with hy | hy
    · exact a3 x hx y hy
    · exact h1 x hx y hy
    · have := h2 x hx y hy; omega
    · exact b3 x hx y hy
/-- One laid into a sorted list. -/
theorem one_left {p : PenM} {B1 B2 : List PenM} (hB : SortedP (B1 ++ B2)) (h1 : ∀ q ∈ B1, q.id < p.id) (h2 : ∀ q ∈ B2, p.id ≤ q.id) : StEq (B1 ++ p :: B2) ([p] ++ (B1 ++ B2)) ∧ SortedP (B1 ++ p :: B2) := by
  obtain ⟨b1, b2, b3⟩ := sorted_append.1 hB
  refine ⟨?_, sorted_append.2 ⟨b1, List.pairwise_cons.2 ⟨h2, b2⟩, fun x hx y hy => ?_⟩⟩
  · have := StEq.append (StEq.swap (a := B1) (b := [p]) (fun x hx y hy => by rw [List.mem_singleton.1 hy]; have := h1 x hx; omega)) (StEq.refl B2)
    simpa using this
  · rcases List.mem_cons.1 hy with rfl | hy
    · have := h1 x hx; omega
    · exact b3 x hx y hy
theorem one_right {q : PenM} {A1 A2 : List PenM} (hA : SortedP (A1 ++ A2)) (h1 : ∀ p ∈ A1, p.id ≤ q.id) (h2 : ∀ p ∈ A2, q.id < p.id) : StEq (A1 ++ q :: A2) ((A1 ++ A2) ++ [q]) ∧ SortedP (A1 ++ q :: A2) := by
  obtain ⟨a1, a2, a3⟩ := sorted_append.1 hA
  refine ⟨?_, sorted_append.2 ⟨a1, List.pairwise_cons.2 ⟨fun x hx => by have := h2 x hx; omega, a2⟩, fun x hx y hy => ?_⟩⟩
  · have := StEq.append (StEq.refl A1) (StEq.swap (a := [q]) (b := A2) (fun x hx y hy => by rw [List.mem_singleton.1 hx]; have := h2 y hy; omega))
    simpa using this
  · rcases List.mem_cons.1 hy with rfl | hy
    · exact h1 x hx
    · exact a3 x hx y hy
/-- What a search leaves: a list parted at a place. -/
theorem part_at {B : List PenM} {lo : Nat} (hlo : lo ≤ B.length) {P1 P2 : PenM → Prop} (h1 : ∀ k x, k < lo → B[k]? = some x → P1 x) (h2 : ∀ k x, lo ≤ k → B[k]? = some x → P2 x) : ∃ B1 B2, B = B1 ++ B2 ∧ B1.length = lo ∧ (∀ x ∈ B1, P1 x) ∧ ∀ x ∈ B2, P2 x := by
  refine ⟨B.take lo, B.drop lo, (List.take_append_drop _ _).symm, by rw [List.length_take]; omega, fun x hx => ?_, fun x hx => ?_⟩
  · obtain ⟨k, hk⟩ := List.mem_iff_getElem?.1 hx
    have hkl := (List.getElem?_eq_some_iff.1 hk).1
    rw [List.length_take] at hkl
    rw [List.getElem?_take_of_lt (by omega)] at hk
    exact h1 k x (by omega) hk
  · obtain ⟨k, hk⟩ := List.mem_iff_getElem?.1 hx
    rw [List.getElem?_drop] at hk
    exact h2 (lo + k) x (by omega) hk

section
variable {F0 : List AId} {G0 G : Heap} {ps : List LP} {Q : AVal → Heap → Prop}

theorem halfU {n : Nat} {x : Int} {K : AVal → Prop} (hx : x = (n : Int)) (hn : n ≤ 1099511627776) (hK : K (.int .i64 ((n / 2 : Nat) : Int))) :
    wv (vconv T G t_int t_uint (.int .i64 x)) fun v12 => wv (vbin T .shr t_uint v12 (.int .u64 1)) fun v13 => wv (vconv T G t_uint t_int v13) K := by
  subst hx
  refine wv_of (v := .int .u64 (n : Int)) (by rw [vconv_int T_int T_uint rfl, u64_in (by omega) (by omega)]) ?_
  refine wv_of (v := .int .u64 ((n / 2 : Nat) : Int)) ?_ ?_
  · rw [vbin_shr _ _ _ _ _ _ (by decide)]
    have h1 : min (1 : Int).toNat IntKind.u64.bits = 1 := by decide
    have h2 : (2 : Int) ^ 1 = 2 := by decide
    rw [h1, h2, Int.fdiv_eq_ediv_of_nonneg _ (by decide)]
    rfl
  refine wv_of (v := .int .i64 ((n / 2 : Nat) : Int)) (by rw [vconv_int T_uint T_int rfl, i64_in (by omega) (by omega)]) hK

/-- Two neighbours change places; the later is read first. -/
theorem pen_swap2 {v : AVal} {A B : List PenM} {u p : PenM} {y z : Int} {K : Heap → Prop} (hu : u.ok) (hp : p.ok) (hy : y = (A.length : Int)) (hz : z = ((A.length + 1 : Nat) : Int)) (hs : Sp F0 G0 (OwnL 35 v ((A ++ u :: p :: B).map PenM.av) :: ps) G)
    (hK : ∀ G', Sp F0 G0 (OwnL 35 v ((A ++ p :: u :: B).map PenM.av) :: ps) G' → K G') :
    wv (viaddr T t_sl_api_Pending v (.int .i64 z)) fun v31 => wv (vload T G t_api_Pending v31) fun v32 => wv (viaddr T t_sl_api_Pending v (.int .i64 y)) fun v33 => wv (vload T G t_api_Pending v33) fun v34 => wv (viaddr T t_sl_api_Pending v (.int .i64 y)) fun v35 => wg (vstore T G t_api_Pending v35 v32) fun G36 => wv (viaddr T t_sl_api_Pending v (.int .i64 z)) fun v37 => wg (vstore T G36 t_api_Pending v37 v34) K := by
  have hsl := (OwnL.own (i := 0) hs rfl).is
  have g1 : (A ++ u :: p :: B)[A.length]? = some u := get_at A (p :: B) u
  have g2 : (A ++ u :: p :: B)[A.length + 1]? = some p := by
    rw [List.getElem?_append_right (by omega), Nat.add_sub_cancel_left]
    rfl
  obtain ⟨b, e3, e4⟩ := pen_atx hsl hz g2
  refine wv_of e3 ?_
  refine wv_of e4 ?_
  obtain ⟨a, e1, e2⟩ := pen_atx hsl hy g1
  refine wv_of e1 ?_
  refine wv_of e2 ?_
  obtain ⟨d, e7, e8⟩ := pen_put (i := 0) (p := p) hy hs rfl (by simp) hp
  refine wv_of e7 ?_
  refine e8 _ fun G36 s36 => ?_
  have s36 : Sp F0 G0 (OwnL 35 v (((A ++ u :: p :: B).set A.length p).map PenM.av) :: ps) G36 := s36
  obtain ⟨c, e5, e6⟩ := pen_put (i := 0) (p := u) hz s36 rfl (by simp) hu
  refine wv_of e5 ?_
  refine e6 _ fun G38 s38 => ?_
  have s38 : Sp F0 G0 (OwnL 35 v ((((A ++ u :: p :: B).set A.length p).set (A.length + 1) u).map PenM.av) :: ps) G38 := s38
  have e : ((A ++ u :: p :: B).set A.length p).set (A.length + 1) u = A ++ p :: u :: B := by
    rw [List.set_append_right _ _ (by omega), Nat.sub_self, List.set_cons_zero, List.set_append_right _ _ (by omega), Nat.add_sub_cancel_left]
    rfl
  rw [e] at s38
  exact hK _ s38

end

end Go.Esc.M

/- Own work. Chapter 13: the sort: symMerge. -/
set_option linter.unusedSimpArgs false
set_option linter.unusedVariables false
namespace Go.Esc.M
open Go Go.Esc

theorem get_mid {X A B Y : List PenM} {k : Nat} {x : PenM} (h : A[k]? = some x) : (X ++ (A ++ (B ++ Y)))[X.length + k]? = some x := by
  have hk := (List.getElem?_eq_some_iff.1 h).1
  rw [List.getElem?_append_right (by omega), Nat.add_sub_cancel_left, List.getElem?_append_left hk]
  exact h
theorem get_mid2 {X A B Y : List PenM} {k : Nat} {x : PenM} (h : B[k]? = some x) : (X ++ (A ++ (B ++ Y)))[X.length + A.length + k]? = some x := by
  have hk := (List.getElem?_eq_some_iff.1 h).1
  rw [List.getElem?_append_right (by omega), List.getElem?_append_right (by omega), show X.length + A.length + k - X.length - A.length = k by omega, List.getElem?_append_left hk]
  exact h
theorem some_at {B : List PenM} {k : Nat} (h : k < B.length) : ∃ x, B[k]? = some x := ⟨_, List.getElem?_eq_getElem h⟩

theorem take_le {A : List PenM} (h : SortedP A) {k : Nat} {x z : PenM} (hz : A[k]? = some z) (hx : x ∈ A.take (k + 1)) : x.id ≤ z.id := by
  obtain ⟨i, hi⟩ := List.mem_iff_getElem?.1 hx
  have hil := (List.getElem?_eq_some_iff.1 hi).1
  rw [List.length_take] at hil
  rw [List.getElem?_take_of_lt (by omega)] at hi
  exact sorted_get h (by omega) hi hz
theorem drop_ge {A : List PenM} (h : SortedP A) {k : Nat} {x z : PenM} (hz : A[k]? = some z) (hx : x ∈ A.drop k) : z.id ≤ x.id := by
  obtain ⟨i, hi⟩ := List.mem_iff_getElem?.1 hx
  rw [List.getElem?_drop] at hi
  exact sorted_get h (by omega) hz hi

section
variable {F0 : List AId} {G0 : Heap} {ps : List LP}

set_option maxHeartbeats 8000000 in
theorem symMerge.use : ∀ (N : Nat) {v : AVal} {X A B Y : List PenM} {a m b : Int} {G : Heap} {Q : AVal → Heap → Prop}, A.length + B.length ≤ N → (∀ p ∈ X ++ (A ++ (B ++ Y)), p.ok) → (X ++ (A ++ (B ++ Y))).length ≤ 1048576 → A ≠ [] → B ≠ [] → SortedP A → SortedP B →
    a = (X.length : Int) → m = ((X.length + A.length : Nat) : Int) → b = ((X.length + A.length + B.length : Nat) : Int) → Sp F0 G0 (OwnL 35 v ((X ++ (A ++ (B ++ Y))).map PenM.av) :: ps) G →
    (∀ S G', StEq S (A ++ B) → SortedP S → Sp F0 G0 (OwnL 35 v ((X ++ (S ++ Y)).map PenM.av) :: ps) G' → Q (.tuple []) G') →
    ACalls P slices_symMergeCmpFunc_escrow_api_Pending.n [v, .int .i64 a, .int .i64 m, .int .i64 b, cmpF] G Q := by
  intro N
  induction N with
  | zero =>
    intro v X A B Y a m b G Q hN hok hlen hA hB
    have := List.length_pos_iff.2 hA
    omega
  | succ N ihN =>
    intro v X A B Y a m b G Q hN hok hlen hA hB hsA hsB ha hm hb hs hQ
    have hA1 := List.length_pos_iff.2 hA
    have hB1 := List.length_pos_iff.2 hB
    refine slices_symMergeCmpFunc_escrow_api_Pending.sound ?_
    unfold slices_symMergeCmpFunc_escrow_api_Pending.S
    subst ha hm hb
    simp only [List.length_append] at hlen
    have okA : ∀ x ∈ A, x.ok := fun x hx => hok x (by simp [hx])
    have okB : ∀ x ∈ B, x.ok := fun x hx => hok x (by simp [hx])
    have okX : ∀ x ∈ X, x.ok := fun x hx => hok x (by simp [hx])
    have okY : ∀ x ∈ Y, x.ok := fun x hx => hok x (by simp [hx])
    rw [vbin_sub, i64_in (by omega) (by omega), wv_some, vbin_eql, wv_some, brB_dec]
    refine ⟨fun hone => ?_, fun hne1 => ?_⟩
    · -- one on the left
      obtain ⟨p, rfl⟩ : ∃ p, A = [p] := by
        match A, hone with
        | [p], _ => exact ⟨p, rfl⟩
        | [], h => exact absurd rfl hA
        | _ :: _ :: _, h => exfalso; simp only [List.length_cons] at h; omega
      have hpo := okA p (by simp)
      simp only [List.length_singleton] at *
      intro R hR
      have loop : ∀ (n lo hi : Nat) (G' : Heap), hi - lo ≤ n → lo ≤ hi → hi ≤ B.length → (∀ k x, k < lo → B[k]? = some x → x.id < p.id) → (∀ k x, hi ≤ k → B[k]? = some x → p.id ≤ x.id) → Sp F0 G0 (OwnL 35 v ((X ++ ([p] ++ (B ++ Y))).map PenM.av) :: ps) G' →
          R [v, .int .i64 (X.length : Int), cmpF, .int .i64 ((X.length + 1 + lo : Nat) : Int), .int .i64 ((X.length + 1 + hi : Nat) : Int)] G' := by
        intro n
        induction n with
        | zero =>
          intro lo hi G' hn h1 h2 hl hh sp
          have he : lo = hi := by omega
          subst he
          refine hR _ _ _ _ _ _ ?_
          rw [vbin_lss, wv_some, decide_eq_false (by omega), brB_false]
          obtain ⟨B1, B2, hBe, hB1l, hl1, hl2⟩ := part_at h2 (P1 := fun x => x.id < p.id) (P2 := fun x => p.id ≤ x.id) hl hh
          rw [hBe] at hsB hQ sp okB
          obtain ⟨hst, hso⟩ := one_left hsB hl1 hl2
          intro R2 hR2
          have loop2 : ∀ (E D : List PenM) (G' : Heap), B1 = D ++ E → Sp F0 G0 (OwnL 35 v (((X ++ D) ++ p :: (E ++ (B2 ++ Y))).map PenM.av) :: ps) G' → R2 [v, .int .i64 ((X.length + 1 + lo : Nat) : Int), .int .i64 ((X.length + D.length : Nat) : Int)] G' := by
            intro E
            induction E with
            | nil =>
              intro D G' hD sp
              rw [List.append_nil] at hD
              subst hD
              refine hR2 _ _ _ _ ?_
              rw [vbin_sub, i64_in (by omega) (by omega), wv_some, vbin_lss, wv_some, decide_eq_false (by omega), brB_false]
              refine hQ _ _ hst hso ?_
              simpa using sp
            | cons u E ih =>
              intro D G' hD sp
              have hDl := congrArg List.length hD
              simp only [List.length_append, List.length_cons] at hDl
              have huo : u.ok := okB u (by rw [hD]; simp)
              refine hR2 _ _ _ _ ?_
              rw [vbin_sub, i64_in (by omega) (by omega), wv_some, vbin_lss, wv_some, decide_eq_true (by omega), brB_true]
              rw [vbin_add, i64_in (by omega) (by omega), wv_some, wv_some]
              refine pen_swap2 (A := X ++ D) (B := E ++ (B2 ++ Y)) hpo huo (by rw [List.length_append]) (by rw [List.length_append]; omega) sp fun G45 s45 => ?_
              rw [wv_some]
              have e : (X ++ D) ++ u :: p :: (E ++ (B2 ++ Y)) = (X ++ (D ++ [u])) ++ p :: (E ++ (B2 ++ Y)) := by simp
              rw [e] at s45
              have := ih (D ++ [u]) G45 (by rw [hD]; simp) s45
              have e2 : ((X.length + (D ++ [u]).length : Nat) : Int) = ((X.length + D.length : Nat) : Int) + 1 := by simp; omega
              rw [e2] at this
              exact this
          have := loop2 B1 [] G' rfl (by simpa using sp)
          simpa using this
        | succ n ih =>
          intro lo hi G' hn h1 h2 hl hh sp
          by_cases he : lo = hi
          · exact ih lo hi G' (by omega) h1 h2 hl hh sp
          · refine hR _ _ _ _ _ _ ?_
            rw [vbin_lss, wv_some, decide_eq_true (by omega), brB_true]
            rw [vbin_add, i64_in (by omega) (by omega), wv_some]
            refine halfU (n := X.length + 1 + lo + (X.length + 1 + hi)) (by omega) (by omega) ?_
            obtain ⟨md, hmd⟩ : ∃ md, md = (lo + hi) / 2 := ⟨_, rfl⟩
            have hh2 : (X.length + 1 + lo + (X.length + 1 + hi)) / 2 = X.length + 1 + md := by omega
            rw [hh2]
            obtain ⟨x, hx⟩ := some_at (B := B) (k := md) (by omega)
            have hxo := okB x (List.mem_of_getElem? hx)
            have hsl := (OwnL.own (i := 0) sp rfl).is
            have g1 := get_mid2 (X := X) (A := [p]) (Y := Y) hx
            have g2 := get_mid (X := X) (A := [p]) (B := B) (Y := Y) (k := 0) (x := p) rfl
            obtain ⟨c1, e1, e2⟩ := pen_atx (x := ((X.length + 1 + md : Nat) : Int)) hsl (by simp) g1
            refine wv_of e1 ?_
            refine wv_of e2 ?_
            obtain ⟨c2, e3, e4⟩ := pen_atx (x := (X.length : Int)) hsl (by simp) g2
            refine wv_of e3 ?_
            refine wv_of e4 ?_
            refine cmp_call hxo hpo fun G20 c20 => ?_
            have s20 := sp.tmp c20
            rw [vbin_lss, wv_some, cmpI_neg, brB_dec]
            refine ⟨fun hlt => ?_, fun hnl => ?_⟩
            · rw [vbin_add, i64_in (by omega) (by omega), wv_some]
              have := ih (md + 1) hi G20 (by omega) (by omega) h2 (fun k y hk hy => by
                have := sorted_get hsB (show k ≤ md by omega) hy hx
                omega) hh s20
              have e5 : ((X.length + 1 + md : Nat) : Int) + 1 = ((X.length + 1 + (md + 1) : Nat) : Int) := by omega
              rw [e5]
              exact this
            · exact ih lo md G20 (by omega) (by omega) (by omega) hl (fun k y hk hy => by
                have := sorted_get hsB hk hx hy
                omega) s20
      have := loop B.length 0 B.length G (by omega) (by omega) (by omega) (fun k x hk => by omega) (fun k x hk hx => by
        have := (List.getElem?_eq_some_iff.1 hx).1
        omega) hs
      simpa using this
    · rw [vbin_sub, i64_in (by omega) (by omega), wv_some, vbin_eql, wv_some, brB_dec]
      refine ⟨fun hone => ?_, fun hne2 => ?_⟩
      · -- one on the right
        obtain ⟨q, rfl⟩ : ∃ p, B = [p] := by
          match B, hone with
          | [p], _ => exact ⟨p, rfl⟩
          | [], h => exact absurd rfl hB
          | _ :: _ :: _, h => exfalso; simp only [List.length_cons] at h; omega
        have hqo := okB q (by simp)
        simp only [List.length_singleton] at *
        intro R hR
        have loop : ∀ (n lo hi : Nat) (G' : Heap), hi - lo ≤ n → lo ≤ hi → hi ≤ A.length → (∀ k x, k < lo → A[k]? = some x → x.id ≤ q.id) → (∀ k x, hi ≤ k → A[k]? = some x → q.id < x.id) → Sp F0 G0 (OwnL 35 v ((X ++ (A ++ ([q] ++ Y))).map PenM.av) :: ps) G' →
            R [v, .int .i64 ((X.length + A.length : Nat) : Int), cmpF, .int .i64 ((X.length + lo : Nat) : Int), .int .i64 ((X.length + hi : Nat) : Int)] G' := by
          intro n
          induction n with
          | zero =>
            intro lo hi G' hn h1 h2 hl hh sp
            have he : lo = hi := by omega
            subst he
            refine hR _ _ _ _ _ _ ?_
            rw [vbin_lss, wv_some, decide_eq_false (by omega), brB_false]
            obtain ⟨A1, A2, hAe, hA1l, hl1, hl2⟩ := part_at h2 (P1 := fun x => x.id ≤ q.id) (P2 := fun x => q.id < x.id) hl hh
            have hAle := congrArg List.length hAe
            rw [List.length_append] at hAle
            rw [hAe] at hsA hQ sp okA
            obtain ⟨hst, hso⟩ := one_right hsA hl1 hl2
            intro R2 hR2
            have loop2 : ∀ (n : Nat) (D E : List PenM) (G' : Heap), D.length = n → A2 = D ++ E → Sp F0 G0 (OwnL 35 v (((X ++ (A1 ++ D)) ++ q :: (E ++ Y)).map PenM.av) :: ps) G' → R2 [v, .int .i64 ((X.length + lo : Nat) : Int), .int .i64 ((X.length + lo + D.length : Nat) : Int)] G' := by
              intro n
              induction n with
              | zero =>
                intro D E G' hDl hD sp
                have : D = [] := List.length_eq_zero_iff.1 hDl
                subst this
                rw [List.nil_append] at hD
                subst hD
                refine hR2 _ _ _ _ ?_
                rw [vbin_gtr, wv_some, decide_eq_false (by simp), brB_false]
                refine hQ _ _ hst hso ?_
                simpa using sp
              | succ n ih =>
                intro D E G' hDl hD sp
                obtain ⟨W, u, rfl⟩ : ∃ W u, D = W ++ [u] := ⟨D.dropLast, D.getLast (by intro h; rw [h] at hDl; simp at hDl), (List.dropLast_concat_getLast _).symm⟩
                have hWl : W.length = n := by simpa using hDl
                have hDle := congrArg List.length hD
                simp only [List.length_append, List.length_singleton] at hDle
                have hUl : (W ++ [u]).length = W.length + 1 := by simp
                have huo : u.ok := okA u (by rw [hD]; simp)
                rw [hUl]
                refine hR2 _ _ _ _ ?_
                rw [vbin_gtr, wv_some, decide_eq_true (by omega), brB_true]
                rw [vbin_sub, i64_in (by omega) (by omega), wv_some, wv_some]
                have e0 : (X ++ (A1 ++ (W ++ [u]))) ++ q :: (E ++ Y) = (X ++ (A1 ++ W)) ++ u :: q :: (E ++ Y) := by simp
                rw [e0] at sp
                refine pen_swap (A := X ++ (A1 ++ W)) (B := E ++ Y) huo hqo (by simp only [List.length_append]; omega) (by simp only [List.length_append]; omega) sp fun G91 s91 => ?_
                rw [wv_some]
                have e1 : (X ++ (A1 ++ W)) ++ q :: u :: (E ++ Y) = (X ++ (A1 ++ W)) ++ q :: ((u :: E) ++ Y) := by simp
                rw [e1] at s91
                have := ih W (u :: E) G91 hWl (by rw [hD]; simp) s91
                have e2 : ((X.length + lo + (W.length + 1) : Nat) : Int) - 1 = ((X.length + lo + W.length : Nat) : Int) := by omega
                rw [e2]
                exact this
            have := loop2 A2.length A2 [] G' rfl (by simp) (by simpa using sp)
            have e3 : ((X.length + A.length : Nat) : Int) = ((X.length + lo + A2.length : Nat) : Int) := by omega
            rw [e3]
            exact this
          | succ n ih =>
            intro lo hi G' hn h1 h2 hl hh sp
            by_cases he : lo = hi
            · exact ih lo hi G' (by omega) h1 h2 hl hh sp
            · refine hR _ _ _ _ _ _ ?_
              rw [vbin_lss, wv_some, decide_eq_true (by omega), brB_true]
              rw [vbin_add, i64_in (by omega) (by omega), wv_some]
              refine halfU (n := X.length + lo + (X.length + hi)) (by omega) (by omega) ?_
              obtain ⟨md, hmd⟩ : ∃ md, md = (lo + hi) / 2 := ⟨_, rfl⟩
              have hh2 : (X.length + lo + (X.length + hi)) / 2 = X.length + md := by omega
              rw [hh2]
              obtain ⟨x, hx⟩ := some_at (B := A) (k := md) (by omega)
              have hxo := okA x (List.mem_of_getElem? hx)
              have hsl := (OwnL.own (i := 0) sp rfl).is
              have g1 := get_mid (X := X) (B := [q]) (Y := Y) hx
              have g2 := get_mid2 (X := X) (A := A) (B := [q]) (Y := Y) (k := 0) (x := q) rfl
              obtain ⟨c2, e3, e4⟩ := pen_atx (x := ((X.length + A.length : Nat) : Int)) hsl (by simp) g2
              refine wv_of e3 ?_
              refine wv_of e4 ?_
              obtain ⟨c1, e1, e2⟩ := pen_atx (x := ((X.length + md : Nat) : Int)) hsl rfl g1
              refine wv_of e1 ?_
              refine wv_of e2 ?_
              refine cmp_call hqo hxo fun G20 c20 => ?_
              have s20 := sp.tmp c20
              rw [vbin_lss, wv_some, cmpI_neg, vun_not, wv_some]
              by_cases hlt : q.id < x.id
              · rw [decide_eq_true hlt, Bool.not_true, brB_false]
                exact ih lo md G20 (by omega) (by omega) (by omega) hl (fun k y hk hy => by
                  have := sorted_get hsA hk hx hy
                  omega) s20
              · rw [decide_eq_false hlt, Bool.not_false, brB_true]
                rw [vbin_add, i64_in (by omega) (by omega), wv_some]
                have := ih (md + 1) hi G20 (by omega) (by omega) h2 (fun k y hk hy => by
                  have := sorted_get hsA (show k ≤ md by omega) hy hx
                  omega) hh s20
                have e5 : ((X.length + md : Nat) : Int) + 1 = ((X.length + (md + 1) : Nat) : Int) := by omega
                rw [e5]
                exact this
        have := loop A.length 0 A.length G (by omega) (by omega) (by omega) (fun k x hk => by omega) (fun k x hk hx => by
          have := (List.getElem?_eq_some_iff.1 hx).1
          omega) hs
        simpa using this
      · -- the general one
        obtain ⟨h, hhe⟩ : ∃ h, h = (A.length + B.length) / 2 := ⟨_, rfl⟩
        have hA2 : 2 ≤ A.length := by omega
        have hB2 : 2 ≤ B.length := by omega
        rw [vbin_add, i64_in (by omega) (by omega), wv_some]
        refine halfU (n := X.length + (X.length + A.length + B.length)) (by omega) (by omega) ?_
        have hmid : (X.length + (X.length + A.length + B.length)) / 2 = X.length + h := by omega
        rw [hmid, vbin_add, i64_in (by omega) (by omega), wv_some]
        refine wv_of (v := .bool (decide (((X.length + A.length : Nat) : Int) > ((X.length + h : Nat) : Int)))) (by rw [vbin_gtr]) ?_
        intro J185
        have core : ∀ (σ0 ρ0 : Nat), σ0 ≤ ρ0 → ρ0 ≤ h → ρ0 ≤ A.length → h ≤ σ0 + B.length → (σ0 = 0 ∨ h = σ0 + B.length) → (ρ0 = A.length ∨ ρ0 = h) → J185 (.int .i64 ((X.length + σ0 : Nat) : Int)) (.int .i64 ((X.length + ρ0 : Nat) : Int)) G := by
          intro σ0 ρ0 c1 c2 c3 c4 c5 c6
          simp -zeta only [J185]
          rw [vbin_sub, i64_in (by omega) (by omega), wv_some]
          intro R hR
          have loop : ∀ (n σ ρ : Nat) (G' : Heap), ρ - σ ≤ n → σ0 ≤ σ → σ ≤ ρ → ρ ≤ ρ0 → (∀ x ∈ A.take σ, ∀ y ∈ B.drop (h - σ), x.id ≤ y.id) → (∀ x ∈ B.take (h - ρ), ∀ y ∈ A.drop ρ, x.id < y.id) → Sp F0 G0 (OwnL 35 v ((X ++ (A ++ (B ++ Y))).map PenM.av) :: ps) G' →
              R [v, .int .i64 (X.length : Int), .int .i64 ((X.length + A.length : Nat) : Int), .int .i64 ((X.length + A.length + B.length : Nat) : Int), cmpF, .int .i64 ((X.length + h : Nat) : Int), .int .i64 (((X.length + h : Nat) : Int) + ((X.length + A.length : Nat) : Int)), .int .i64 ((X.length + σ : Nat) : Int), .int .i64 ((X.length + ρ : Nat) : Int), .int .i64 (((X.length + h : Nat) : Int) + ((X.length + A.length : Nat) : Int) - 1)] G' := by
            intro n
            induction n with
            | zero =>
              intro σ ρ G' hn k1 k2 k3 i1 i2 sp
              have he : σ = ρ := by omega
              subst he
              refine hR _ _ _ _ _ _ _ _ _ _ _ ?_
              rw [vbin_lss, wv_some, decide_eq_false (by omega), brB_false]
              obtain ⟨A1, hA1⟩ : ∃ x, x = A.take σ := ⟨_, rfl⟩
              obtain ⟨U, hU⟩ : ∃ x, x = A.drop σ := ⟨_, rfl⟩
              obtain ⟨V, hV⟩ : ∃ x, x = B.take (h - σ) := ⟨_, rfl⟩
              obtain ⟨B2, hB2⟩ : ∃ x, x = B.drop (h - σ) := ⟨_, rfl⟩
              have hAe : A = A1 ++ U := by rw [hA1, hU, List.take_append_drop]
              have hBe : B = V ++ B2 := by rw [hV, hB2, List.take_append_drop]
              have lA1 : A1.length = σ := by rw [hA1, List.length_take]; omega
              have lU : U.length = A.length - σ := by rw [hU, List.length_drop]
              have lV : V.length = h - σ := by rw [hV, List.length_take]; omega
              have lB2 : B2.length = B.length - (h - σ) := by rw [hB2, List.length_drop]
              rw [← hA1, ← hB2] at i1
              rw [← hV, ← hU] at i2
              have hsA' := hsA
              have hsB' := hsB
              rw [hAe] at hsA'
              rw [hBe] at hsB'
              obtain ⟨sA1, sU, _⟩ := sorted_append.1 hsA'
              obtain ⟨sV, sB2, _⟩ := sorted_append.1 hsB'
              have okA1 : ∀ x ∈ A1, x.ok := fun x hx => okA x (by rw [hAe]; simp [hx])
              have okU : ∀ x ∈ U, x.ok := fun x hx => okA x (by rw [hAe]; simp [hx])
              have okV : ∀ x ∈ V, x.ok := fun x hx => okB x (by rw [hBe]; simp [hx])
              have okB2 : ∀ x ∈ B2, x.ok := fun x hx => okB x (by rw [hBe]; simp [hx])
              have hQ' : ∀ S1 S2 G', StEq S1 (A1 ++ V) → SortedP S1 → StEq S2 (U ++ B2) → SortedP S2 → Sp F0 G0 (OwnL 35 v ((X ++ (S1 ++ (S2 ++ Y))).map PenM.av) :: ps) G' → Q (.tuple []) G' := by
                intro S1 S2 G' q1 q2 q3 q4 sp
                obtain ⟨r1, r2⟩ := merge_ok hsA' hsB' i1 i2 q1 q2 q3 q4
                rw [← hAe, ← hBe] at r1
                exact hQ _ _ r1 r2 (by simpa using sp)
              rw [vbin_sub, i64_in (by omega) (by omega), wv_some]
              have eend : ((X.length + h : Nat) : Int) + ((X.length + A.length : Nat) : Int) - ((X.length + σ : Nat) : Int) = ((X.length + A.length + (h - σ) : Nat) : Int) := by omega
              rw [eend]
              have fin : ∀ (S1 : List PenM) (G1 : Heap), StEq S1 (A1 ++ V) → SortedP S1 → Sp F0 G0 (OwnL 35 v ((X ++ (S1 ++ (U ++ (B2 ++ Y)))).map PenM.av) :: ps) G1 →
                  wv (vbin T .lss t_int (.int .i64 ((X.length + h : Nat) : Int)) (.int .i64 ((X.length + A.length + (h - σ) : Nat) : Int))) fun v162 => brB (some v162)
                    (wv (vbin T .lss t_int (.int .i64 ((X.length + A.length + (h - σ) : Nat) : Int)) (.int .i64 ((X.length + A.length + B.length : Nat) : Int))) fun v163 => brB (some v163)
                      (ACalls P slices_symMergeCmpFunc_escrow_api_Pending.n [v, .int .i64 ((X.length + h : Nat) : Int), .int .i64 ((X.length + A.length + (h - σ) : Nat) : Int), .int .i64 ((X.length + A.length + B.length : Nat) : Int), cmpF] G1 fun v169 G170 => Q (.tuple []) G170)
                      (Q (.tuple []) G1))
                    (Q (.tuple []) G1) := by
                intro S1 G1 q1 q2 sp1
                have lS1 := q1.length
                rw [List.length_append] at lS1
                have okS1 : ∀ x ∈ S1, x.ok := fun x hx => by
                  rcases List.mem_append.1 (q1.mem.1 hx) with hx | hx
                  · exact okA1 x hx
                  · exact okV x hx
                have noU : U = [] → Q (.tuple []) G1 := fun hu => hQ' S1 (U ++ B2) G1 q1 q2 (StEq.refl _) (by rw [hu]; simpa using sB2) (by simpa using sp1)
                have noB : B2 = [] → Q (.tuple []) G1 := fun hu => hQ' S1 (U ++ B2) G1 q1 q2 (StEq.refl _) (by rw [hu]; simpa using sU) (by simpa using sp1)
                rw [vbin_lss, wv_some, brB_dec]
                refine ⟨fun hlt => ?_, fun hge => noU (List.length_eq_zero_iff.1 (by omega))⟩
                rw [vbin_lss, wv_some, brB_dec]
                refine ⟨fun hlt2 => ?_, fun hge => noB (List.length_eq_zero_iff.1 (by omega))⟩
                refine ihN (X := X ++ S1) (A := U) (B := B2) (Y := Y) (by omega) ?_ ?_ (fun e => by rw [e] at lU; simp at lU; omega) (fun e => by rw [e] at lB2; simp at lB2; omega) sU sB2 (by rw [List.length_append]; omega) (by rw [List.length_append]; omega) (by rw [List.length_append]; omega) (by simpa using sp1) fun S2 G2 q3 q4 sp2 => ?_
                · intro x hx
                  simp only [List.mem_append] at hx
                  rcases hx with (hx | hx) | hx | hx | hx
                  · exact okX x hx
                  · exact okS1 x hx
                  · exact okU x hx
                  · exact okB2 x hx
                  · exact okY x hx
                · simp only [List.length_append]; omega
                · exact hQ' S1 S2 G2 q1 q2 q3 q4 (by simpa using sp2)
              intro J184
              have j184 : ∀ (bb : Bool) (G1 : Heap), (bb = false → U = [] ∨ V = []) → (bb = true → U ≠ [] ∧ V ≠ []) → Sp F0 G0 (OwnL 35 v ((X ++ (A ++ (B ++ Y))).map PenM.av) :: ps) G1 → J184 (.bool bb) G1 := by
                intro bb G1 hb0 hb1 sp1
                simp -zeta only [J184]
                intro J183
                have j183 : ∀ G2, Sp F0 G0 (OwnL 35 v ((X ++ (A1 ++ (V ++ (U ++ (B2 ++ Y))))).map PenM.av) :: ps) G2 → J183 G2 := by
                  intro G2 sp2
                  simp -zeta only [J183]
                  intro J182
                  have no : (A1 = [] ∨ V = []) → J182 (.bool false) G2 := by
                    intro hor
                    simp -zeta only [J182, brB_false]
                    refine fin (A1 ++ V) G2 (StEq.refl _) ?_ (by simpa using sp2)
                    rcases hor with e | e
                    · rw [e]; simpa using sV
                    · rw [e]; simpa using sA1
                  rw [vbin_lss, wv_some, brB_dec]
                  refine ⟨fun hlt => ?_, fun hge => no (.inl (List.length_eq_zero_iff.1 (by omega)))⟩
                  rw [vbin_lss, wv_some]
                  by_cases hlt2 : ((X.length + σ : Nat) : Int) < ((X.length + h : Nat) : Int)
                  · rw [decide_eq_true hlt2]
                    simp -zeta only [J182, brB_true]
                    refine ihN (X := X) (A := A1) (B := V) (Y := U ++ (B2 ++ Y)) (by omega) ?_ ?_ (fun e => by rw [e] at lA1; simp at lA1; omega) (fun e => by rw [e] at lV; simp at lV; omega) sA1 sV rfl (by omega) (by omega) sp2 fun S1 G3 q1 q2 sp3 => ?_
                    · intro x hx
                      simp only [List.mem_append] at hx
                      rcases hx with hx | hx | hx | hx | hx | hx
                      · exact okX x hx
                      · exact okA1 x hx
                      · exact okV x hx
                      · exact okU x hx
                      · exact okB2 x hx
                      · exact okY x hx
                    · simp only [List.length_append]; omega
                    · exact fin S1 G3 q1 q2 sp3
                  · rw [decide_eq_false hlt2]
                    exact no (.inr (List.length_eq_zero_iff.1 (by omega)))
                cases bb with
                | false =>
                  rw [brB_false]
                  refine j183 G1 ?_
                  rw [hAe, hBe] at sp1
                  rcases hb0 rfl with e | e
                  · rw [e] at sp1 ⊢; simpa using sp1
                  · rw [e] at sp1 ⊢; simpa using sp1
                | true =>
                  rw [brB_true]
                  obtain ⟨hUn, hVn⟩ := hb1 rfl
                  rw [hAe, hBe] at sp1
                  refine rotate.use (X := X ++ A1) (U := U) (V := V) (Y := B2 ++ Y) ?_ ?_ hUn hVn (by rw [List.length_append]; omega) (by rw [List.length_append]; omega) (by rw [List.length_append]; omega) (by simpa using sp1) fun G2 sp2 => ?_
                  · intro x hx
                    simp only [List.mem_append] at hx
                    rcases hx with (hx | hx) | hx | hx | hx | hx
                    · exact okX x hx
                    · exact okA1 x hx
                    · exact okU x hx
                    · exact okV x hx
                    · exact okB2 x hx
                    · exact okY x hx
                  · simp only [List.length_append]; omega
                  · exact j183 G2 (by simpa using sp2)
              rw [vbin_lss, wv_some, brB_dec]
              refine ⟨fun hlt => ?_, fun hge => j184 false G' (fun _ => .inl (List.length_eq_zero_iff.1 (by omega))) (fun e => by cases e) sp⟩
              rw [vbin_lss, wv_some]
              by_cases hlt2 : ((X.length + A.length : Nat) : Int) < ((X.length + A.length + (h - σ) : Nat) : Int)
              · rw [decide_eq_true hlt2]
                exact j184 true G' (fun e => by cases e) (fun _ => ⟨fun e => by rw [e] at lU; simp at lU; omega, fun e => by rw [e] at lV; simp at lV; omega⟩) sp
              · rw [decide_eq_false hlt2]
                exact j184 false G' (fun _ => .inr (List.length_eq_zero_iff.1 (by omega))) (fun e => by cases e) sp
            | succ n ih =>
              intro σ ρ G' hn k1 k2 k3 i1 i2 sp
              by_cases he : σ = ρ
              · exact ih σ ρ G' (by omega) k1 k2 k3 i1 i2 sp
              · refine hR _ _ _ _ _ _ _ _ _ _ _ ?_
                rw [vbin_lss, wv_some, decide_eq_true (by omega), brB_true]
                rw [vbin_add, i64_in (by omega) (by omega), wv_some]
                refine halfU (n := X.length + σ + (X.length + ρ)) (by omega) (by omega) ?_
                obtain ⟨κ, hκ⟩ : ∃ κ, κ = (σ + ρ) / 2 := ⟨_, rfl⟩
                have hh2 : (X.length + σ + (X.length + ρ)) / 2 = X.length + κ := by omega
                rw [hh2]
                rw [vbin_sub, i64_in (by omega) (by omega), wv_some]
                obtain ⟨x, hx⟩ := some_at (B := A) (k := κ) (by omega)
                obtain ⟨y, hy⟩ := some_at (B := B) (k := h - 1 - κ) (by omega)
                have hxo := okA x (List.mem_of_getElem? hx)
                have hyo := okB y (List.mem_of_getElem? hy)
                have hsl := (OwnL.own (i := 0) sp rfl).is
                have g1 := get_mid (X := X) (B := B) (Y := Y) hx
                have g2 := get_mid2 (X := X) (A := A) (Y := Y) hy
                obtain ⟨c7, e1, e2⟩ := pen_atx (x := ((X.length + h : Nat) : Int) + ((X.length + A.length : Nat) : Int) - 1 - ((X.length + κ : Nat) : Int)) hsl (by omega) g2
                refine wv_of e1 ?_
                refine wv_of e2 ?_
                obtain ⟨c8, e3, e4⟩ := pen_atx (x := ((X.length + κ : Nat) : Int)) hsl rfl g1
                refine wv_of e3 ?_
                refine wv_of e4 ?_
                refine cmp_call hyo hxo fun G127 c127 => ?_
                have s127 := sp.tmp c127
                rw [vbin_lss, wv_some, cmpI_neg, vun_not, wv_some]
                by_cases hlt : y.id < x.id
                · rw [decide_eq_true hlt, Bool.not_true, brB_false]
                  refine ih σ κ G127 (by omega) k1 (by omega) (by omega) i1 (fun u hu w hw => ?_) s127
                  have hk : h - κ = h - 1 - κ + 1 := by omega
                  rw [hk] at hu
                  have h5 := take_le hsB hy hu
                  have h6 := drop_ge hsA hx hw
                  omega
                · rw [decide_eq_false hlt, Bool.not_false, brB_true]
                  rw [vbin_add, i64_in (by omega) (by omega), wv_some]
                  have := ih (κ + 1) ρ G127 (by omega) (by omega) (by omega) k3 (fun u hu w hw => by
                    have hk : h - (κ + 1) = h - 1 - κ := by omega
                    rw [hk] at hw
                    have h5 := take_le hsA hx hu
                    have h6 := drop_ge hsB hy hw
                    omega) i2 s127
                  have e5 : ((X.length + κ : Nat) : Int) + 1 = ((X.length + (κ + 1) : Nat) : Int) := by omega
                  rw [e5]
                  exact this
          refine loop (ρ0 - σ0) σ0 ρ0 G (Nat.le_refl _) (Nat.le_refl _) c1 (Nat.le_refl _) ?_ ?_ hs
          · rcases c5 with e | e
            · subst e; intro x hx; simp at hx
            · intro x hx y hy
              rw [List.drop_eq_nil_of_le (by omega)] at hy
              cases hy
          · rcases c6 with e | e
            · intro x hx y hy
              rw [List.drop_eq_nil_of_le (by omega)] at hy
              cases hy
            · subst e
              intro x hx
              rw [Nat.sub_self] at hx
              simp at hx
        rw [brB_dec]
        refine ⟨fun hgt => ?_, fun hle => ?_⟩
        · rw [vbin_sub, i64_in (by omega) (by omega), wv_some]
          have := core (h - B.length) h (by omega) (by omega) (by omega) (by omega) (.inr (by omega)) (.inr rfl)
          have e : ((X.length + h : Nat) : Int) + ((X.length + A.length : Nat) : Int) - ((X.length + A.length + B.length : Nat) : Int) = ((X.length + (h - B.length) : Nat) : Int) := by omega
          rw [e]
          exact this
        · have := core 0 A.length (by omega) (by omega) (by omega) (by omega) (.inl rfl) (.inl rfl)
          simpa using this

end

end Go.Esc.M
