import Derived.Test.YtbckpbdamfhehaaGreatDoorLFh
/- Own work. Chapter 13: the sort: merging, plain; small steps. -/
set_option linter.unusedSimpArgs false
set_option linter.unusedVariables false
set_option maxRecDepth 20000
namespace Go.Esc.M
open Go Go.Esc

theorem sorted_get {B : List PenM} (h : SortedP B) {i j : Nat} {x y : PenM} (hij : i ≤ j) (hi : B[i]? = some x) (hj : B[j]? = some y) : x.id ≤ y.id := by
  obtain ⟨h1, rfl⟩ := List.getElem?_eq_some_iff.1 hi
  obtain ⟨h2, rfl⟩ := List.getElem?_eq_some_iff.1 hj
  by_cases he : i = j
  · subst he; exact Int.le_refl _
  · exact (List.pairwise_iff_getElem.1 h) i j h1 h2 (by omega)
theorem sorted_append {a b : List PenM} : SortedP (a ++ b) ↔ SortedP a ∧ SortedP b ∧ ∀ x ∈ a, ∀ y ∈ b, x.id ≤ y.id := List.pairwise_append
/-- Two merges side by side are one. -/
theorem merge_ok {A1 U V B2 S1 S2 : List PenM} (hA : SortedP (A1 ++ U)) (hB : SortedP (V ++ B2)) (h1 : ∀ x ∈ A1, ∀ y ∈ B2, x.id ≤ y.id) (h2 : ∀ x ∈ V, ∀ y ∈ U, x.id < y.id) (hs1 : StEq S1 (A1 ++ V)) (ho1 : SortedP S1) (hs2 : StEq S2 (U ++ B2)) (ho2 : SortedP S2) :
    StEq (S1 ++ S2) ((A1 ++ U) ++ (V ++ B2)) ∧ SortedP (S1 ++ S2) := by
  obtain ⟨_, _, a3⟩ := sorted_append.1 hA
  obtain ⟨_, _, b3⟩ := sorted_append.1 hB
  refine ⟨?_, sorted_append.2 ⟨ho1, ho2, fun x hx y hy => ?_⟩⟩
  · refine (StEq.append hs1 hs2).trans ?_
    have := StEq.append (StEq.append (StEq.refl A1) (StEq.swap (a := V) (b := U) (fun x hx y hy => by have := h2 x hx y hy; omega))) (StEq.refl B2)
    simpa using this
  · have hx := hs1.mem.1 hx
    have hy := hs2.mem.1 hy
    rcases List.mem_append.1 hx with hx | hx <;> rcases List.mem_append.1 hy with hy | hy
    · exact a3 x hx y hy
    · exact h1 x hx y hy
    · have := h2 x hx y hy; omega
    · exact b3 x hx y hy
/-- One laid into a sorted list. -/
theorem one_left {p : PenM} {B1 B2 : List PenM} (hB : SortedP (B1 ++ B2)) (h1 : ∀ q ∈ B1, q.id < p.id) (h2 : ∀ q ∈ B2, p.id ≤ q.id) : StEq (B1 ++ p :: B2) ([p] ++ (B1 ++ B2)) ∧ SortedP (B1 ++ p :: B2) := by
  obtain ⟨b1, b2, b3⟩ := sorted_append.1 hB
  refine ⟨?_, sorted_append.2 ⟨b1, List.pairwise_cons.2 ⟨h2, b2⟩, fun x hx y hy => ?_⟩⟩
  · have := StEq.append (StEq.swap (a := B1) (b := [p]) (fun x hx y hy => by rw [List.mem_singleton.1 hy]; have := h1 x hx; omega)) (StEq.refl B2)
    simpa using this
  · rcases List.mem_cons.1 hy with rfl | hy
    · have := h1 x hx; omega
    · exact b3 x hx y hy
theorem one_right {q : PenM} {A1 A2 : List PenM} (hA : SortedP (A1 ++ A2)) (h1 : ∀ p ∈ A1, p.id ≤ q.id) (h2 : ∀ p ∈ A2, q.id < p.id) : StEq (A1 ++ q :: A2) ((A1 ++ A2) ++ [q]) ∧ SortedP (A1 ++ q :: A2) := by
  obtain ⟨a1, a2, a3⟩ := sorted_append.1 hA
  refine ⟨?_, sorted_append.2 ⟨a1, List.pairwise_cons.2 ⟨fun x hx => by have := h2 x hx; omega, a2⟩, fun x hx y hy => ?_⟩⟩
  · have := StEq.append (StEq.refl A1) (StEq.swap (a := [q]) (b := A2) (fun x hx y hy => by rw [List.mem_singleton.1 hx]; have := h2 y hy; omega))
    simpa using this
  · rcases List.mem_cons.1 hy with rfl | hy
    · exact h1 x hx
    · exact a3 x hx y hy
/-- What a search leaves: a list parted at a place. -/
theorem part_at {B : List PenM} {lo : Nat} (hlo : lo ≤ B.length) {P1 P2 : PenM → Prop} (h1 : ∀ k x, k < lo → B[k]? = some x → P1 x) (h2 : ∀ k x, lo ≤ k → B[k]? = some x → P2 x) : ∃ B1 B2, B = B1 ++ B2 ∧ B1.length = lo ∧ (∀ x ∈ B1, P1 x) ∧ ∀ x ∈ B2, P2 x := by
  refine ⟨B.take lo, B.drop lo, (List.take_append_drop _ _).symm, by rw [List.length_take]; omega, fun x hx => ?_, fun x hx => ?_⟩
  · obtain ⟨k, hk⟩ := List.mem_iff_getElem?.1 hx
    have hkl := (List.getElem?_eq_some_iff.1 hk).1
    rw [List.length_take] at hkl
    rw [List.getElem?_take_of_lt (by omega)] at hk
    exact h1 k x (by omega) hk
  · obtain ⟨k, hk⟩ := List.mem_iff_getElem?.1 hx
    rw [List.getElem?_drop] at hk
    exact h2 (lo + k) x (by omega) hk

section
variable {F0 : List AId} {G0 G : Heap} {ps : List LP} {Q : AVal → Heap → Prop}

theorem halfU {n : Nat} {x : Int} {K : AVal → Prop} (hx : x = (n : Int)) (hn : n ≤ 4611686018427387904) (hK : K (.int .i64 ((n / 2 : Nat) : Int))) :
    wv (vconv T G t_int t_uint (.int .i64 x)) fun v12 => wv (vbin T .shr t_uint v12 (.int .u64 1)) fun v13 => wv (vconv T G t_uint t_int v13) K := by
  subst hx
  refine wv_of (v := .int .u64 (n : Int)) (by rw [vconv_int T_int T_uint rfl, u64_in (by omega) (by omega)]) ?_
  refine wv_of (v := .int .u64 ((n / 2 : Nat) : Int)) ?_ ?_
  · rw [vbin_shr _ _ _ _ _ _ (by decide)]
    have h1 : min (1 : Int).toNat IntKind.u64.bits = 1 := by decide
    have h2 : (2 : Int) ^ 1 = 2 := by decide
    rw [h1, h2, Int.fdiv_eq_ediv_of_nonneg _ (by decide)]
    rfl
  refine wv_of (v := .int .i64 ((n / 2 : Nat) : Int)) (by rw [vconv_int T_uint T_int rfl, i64_in (by omega) (by omega)]) hK

/-- Two neighbours change places; the later is read first. -/
theorem pen_swap2 {v : AVal} {A B : List PenM} {u p : PenM} {y z : Int} {K : Heap → Prop} (hu : u.ok) (hp : p.ok) (hy : y = (A.length : Int)) (hz : z = ((A.length + 1 : Nat) : Int)) (hs : Sp F0 G0 (OwnL 35 v ((A ++ u :: p :: B).map PenM.av) :: ps) G)
    (hK : ∀ G', Sp F0 G0 (OwnL 35 v ((A ++ p :: u :: B).map PenM.av) :: ps) G' → K G') :
    wv (viaddr T t_sl_api_Pending v (.int .i64 z)) fun v31 => wv (vload T G t_api_Pending v31) fun v32 => wv (viaddr T t_sl_api_Pending v (.int .i64 y)) fun v33 => wv (vload T G t_api_Pending v33) fun v34 => wv (viaddr T t_sl_api_Pending v (.int .i64 y)) fun v35 => wg (vstore T G t_api_Pending v35 v32) fun G36 => wv (viaddr T t_sl_api_Pending v (.int .i64 z)) fun v37 => wg (vstore T G36 t_api_Pending v37 v34) K := by
  have hsl := (OwnL.own (i := 0) hs rfl).is
  have g1 : (A ++ u :: p :: B)[A.length]? = some u := get_at A (p :: B) u
  have g2 : (A ++ u :: p :: B)[A.length + 1]? = some p := by
    rw [List.getElem?_append_right (by omega), Nat.add_sub_cancel_left]
    rfl
  obtain ⟨b, e3, e4⟩ := pen_atx hsl hz g2
  refine wv_of e3 ?_
  refine wv_of e4 ?_
  obtain ⟨a, e1, e2⟩ := pen_atx hsl hy g1
  refine wv_of e1 ?_
  refine wv_of e2 ?_
  obtain ⟨d, e7, e8⟩ := pen_put (i := 0) (p := p) hy hs rfl (by simp) hp
  refine wv_of e7 ?_
  refine e8 _ fun G36 s36 => ?_
  have s36 : Sp F0 G0 (OwnL 35 v (((A ++ u :: p :: B).set A.length p).map PenM.av) :: ps) G36 := s36
  obtain ⟨c, e5, e6⟩ := pen_put (i := 0) (p := u) hz s36 rfl (by simp) hu
  refine wv_of e5 ?_
  refine e6 _ fun G38 s38 => ?_
  have s38 : Sp F0 G0 (OwnL 35 v ((((A ++ u :: p :: B).set A.length p).set (A.length + 1) u).map PenM.av) :: ps) G38 := s38
  have e : ((A ++ u :: p :: B).set A.length p).set (A.length + 1) u = A ++ p :: u :: B := by
    rw [List.set_append_right _ _ (by omega), Nat.sub_self, List.set_cons_zero, List.set_append_right _ _ (by omega), Nat.add_sub_cancel_left]
    rfl
  rw [e] at s38
  exact hK _ s38

end

end Go.Esc.M

/- Own work. Chapter 13: the sort: symMerge. -/
set_option linter.unusedSimpArgs false
set_option linter.unusedVariables false
set_option maxRecDepth 20000
namespace Go.Esc.M
open Go Go.Esc

theorem get_mid {X A B Y : List PenM} {k : Nat} {x : PenM} (h : A[k]? = some x) : (X ++ (A ++ (B ++ Y)))[X.length + k]? = some x := by
  have hk := (List.getElem?_eq_some_iff.1 h).1
  rw [List.getElem?_append_right (by omega), Nat.add_sub_cancel_left, List.getElem?_append_left hk]
  exact h
theorem get_mid2 {X A B Y : List PenM} {k : Nat} {x : PenM} (h : B[k]? = some x) : (X ++ (A ++ (B ++ Y)))[X.length + A.length + k]? = some x := by
  have hk := (List.getElem?_eq_some_iff.1 h).1
  rw [List.getElem?_append_right (by omega), List.getElem?_append_right (by omega), show X.length + A.length + k - X.length - A.length = k by omega, List.getElem?_append_left hk]
  exact h
theorem some_at {B : List PenM} {k : Nat} (h : k < B.length) : ∃ x, B[k]? = some x := ⟨_, List.getElem?_eq_getElem h⟩

theorem take_le {A : List PenM} (h : SortedP A) {k : Nat} {x z : PenM} (hz : A[k]? = some z) (hx : x ∈ A.take (k + 1)) : x.id ≤ z.id := by
  obtain ⟨i, hi⟩ := List.mem_iff_getElem?.1 hx
  have hil := (List.getElem?_eq_some_iff.1 hi).1
  rw [List.length_take] at hil
  rw [List.getElem?_take_of_lt (by omega)] at hi
  exact sorted_get h (by omega) hi hz
theorem drop_ge {A : List PenM} (h : SortedP A) {k : Nat} {x z : PenM} (hz : A[k]? = some z) (hx : x ∈ A.drop k) : z.id ≤ x.id := by
  obtain ⟨i, hi⟩ := List.mem_iff_getElem?.1 hx
  rw [List.getElem?_drop] at hi
  exact sorted_get h (by omega) hz hi

section
variable {F0 : List AId} {G0 : Heap} {ps : List LP}

set_option maxHeartbeats 8000000 in
theorem symMerge.use : ∀ (N : Nat) {v : AVal} {X A B Y : List PenM} {a m b : Int} {G : Heap} {Q : AVal → Heap → Prop}, A.length + B.length ≤ N → (∀ p ∈ X ++ (A ++ (B ++ Y)), p.ok) → (X ++ (A ++ (B ++ Y))).length ≤ 2000000000000 → A ≠ [] → B ≠ [] → SortedP A → SortedP B →
    a = (X.length : Int) → m = ((X.length + A.length : Nat) : Int) → b = ((X.length + A.length + B.length : Nat) : Int) → Sp F0 G0 (OwnL 35 v ((X ++ (A ++ (B ++ Y))).map PenM.av) :: ps) G →
    (∀ S G', StEq S (A ++ B) → SortedP S → Sp F0 G0 (OwnL 35 v ((X ++ (S ++ Y)).map PenM.av) :: ps) G' → Q (.tuple []) G') →
    ACalls P slices_symMergeCmpFunc_escrow_api_Pending.n [v, .int .i64 a, .int .i64 m, .int .i64 b, cmpF] G Q := by
  intro N
  induction N with
  | zero =>
    intro v X A B Y a m b G Q hN hok hlen hA hB
    have := List.length_pos_iff.2 hA
    omega
  | succ N ihN =>
    intro v X A B Y a m b G Q hN hok hlen hA hB hsA hsB ha hm hb hs hQ
    have hA1 := List.length_pos_iff.2 hA
    have hB1 := List.length_pos_iff.2 hB
    refine slices_symMergeCmpFunc_escrow_api_Pending.sound ?_
    unfold slices_symMergeCmpFunc_escrow_api_Pending.S
    subst ha hm hb
    simp only [List.length_append] at hlen
    have okA : ∀ x ∈ A, x.ok := fun x hx => hok x (by simp [hx])
    have okB : ∀ x ∈ B, x.ok := fun x hx => hok x (by simp [hx])
    have okX : ∀ x ∈ X, x.ok := fun x hx => hok x (by simp [hx])
    have okY : ∀ x ∈ Y, x.ok := fun x hx => hok x (by simp [hx])
    rw [vbin_sub, i64_in (by omega) (by omega), wv_some, vbin_eql, wv_some, brB_dec]
    refine ⟨fun hone => ?_, fun hne1 => ?_⟩
    · -- one on the left
      obtain ⟨p, rfl⟩ : ∃ p, A = [p] := by
        match A, hone with
        | [p], _ => exact ⟨p, rfl⟩
        | [], h => exact absurd rfl hA
        | _ :: _ :: _, h => exfalso; simp only [List.length_cons] at h; omega
      have hpo := okA p (by simp)
      simp only [List.length_singleton] at *
      intro R hR
      have loop : ∀ (n lo hi : Nat) (G' : Heap), hi - lo ≤ n → lo ≤ hi → hi ≤ B.length → (∀ k x, k < lo → B[k]? = some x → x.id < p.id) → (∀ k x, hi ≤ k → B[k]? = some x → p.id ≤ x.id) → Sp F0 G0 (OwnL 35 v ((X ++ ([p] ++ (B ++ Y))).map PenM.av) :: ps) G' →
          R [v, .int .i64 (X.length : Int), cmpF, .int .i64 ((X.length + 1 + lo : Nat) : Int), .int .i64 ((X.length + 1 + hi : Nat) : Int)] G' := by
        intro n
        induction n with
        | zero =>
          intro lo hi G' hn h1 h2 hl hh sp
          have he : lo = hi := by omega
          subst he
          refine hR _ _ _ _ _ _ ?_
          rw [vbin_lss, wv_some, decide_eq_false (by omega), brB_false]
          obtain ⟨B1, B2, hBe, hB1l, hl1, hl2⟩ := part_at h2 (P1 := fun x => x.id < p.id) (P2 := fun x => p.id ≤ x.id) hl hh
          rw [hBe] at hsB hQ sp okB
          obtain ⟨hst, hso⟩ := one_left hsB hl1 hl2
          intro R2 hR2
          have loop2 : ∀ (E D : List PenM) (G' : Heap), B1 = D ++ E → Sp F0 G0 (OwnL 35 v (((X ++ D) ++ p :: (E ++ (B2 ++ Y))).map PenM.av) :: ps) G' → R2 [v, .int .i64 ((X.length + 1 + lo : Nat) : Int), .int .i64 ((X.length + D.length : Nat) : Int)] G' := by
            intro E
            induction E with
            | nil =>
              intro D G' hD sp
              rw [List.append_nil] at hD
              subst hD
              refine hR2 _ _ _ _ ?_
              rw [vbin_sub, i64_in (by omega) (by omega), wv_some, vbin_lss, wv_some, decide_eq_false (by omega), brB_false]
              refine hQ _ _ hst hso ?_
              simpa using sp
            | cons u E ih =>
              intro D G' hD sp
              have hDl := congrArg List.length hD
              simp only [List.length_append, List.length_cons] at hDl
              have huo : u.ok := okB u (by rw [hD]; simp)
              refine hR2 _ _ _ _ ?_
              rw [vbin_sub, i64_in (by omega) (by omega), wv_some, vbin_lss, wv_some, decide_eq_true (by omega), brB_true]
              rw [vbin_add, i64_in (by omega) (by omega), wv_some, wv_some]
              refine pen_swap2 (A := X ++ D) (B := E ++ (B2 ++ Y)) hpo huo (by rw [List.length_append]) (by rw [List.length_append]; omega) sp fun G45 s45 => ?_
              rw [wv_some]
              have e : (X ++ D) ++ u :: p :: (E ++ (B2 ++ Y)) = (X ++ (D ++ [u])) ++ p :: (E ++ (B2 ++ Y)) := by simp
              rw [e] at s45
              have := ih (D ++ [u]) G45 (by rw [hD]; simp) s45
              have e2 : ((X.length + (D ++ [u]).length : Nat) : Int) = ((X.length + D.length : Nat) : Int) + 1 := by simp; omega
              rw [e2] at this
              exact this
          have := loop2 B1 [] G' rfl (by simpa using sp)
          simpa using this
        | succ n ih =>
          intro lo hi G' hn h1 h2 hl hh sp
          by_cases he : lo = hi
          · exact ih lo hi G' (by omega) h1 h2 hl hh sp
          · refine hR _ _ _ _ _ _ ?_
            rw [vbin_lss, wv_some, decide_eq_true (by omega), brB_true]
            rw [vbin_add, i64_in (by omega) (by omega), wv_some]
            refine halfU (n := X.length + 1 + lo + (X.length + 1 + hi)) (by omega) (by omega) ?_
            obtain ⟨md, hmd⟩ : ∃ md, md = (lo + hi) / 2 := ⟨_, rfl⟩
            have hh2 : (X.length + 1 + lo + (X.length + 1 + hi)) / 2 = X.length + 1 + md := by omega
            rw [hh2]
            obtain ⟨x, hx⟩ := some_at (B := B) (k := md) (by omega)
            have hxo := okB x (List.mem_of_getElem? hx)
            have hsl := (OwnL.own (i := 0) sp rfl).is
            have g1 := get_mid2 (X := X) (A := [p]) (Y := Y) hx
            have g2 := get_mid (X := X) (A := [p]) (B := B) (Y := Y) (k := 0) (x := p) rfl
            obtain ⟨c1, e1, e2⟩ := pen_atx (x := ((X.length + 1 + md : Nat) : Int)) hsl (by simp) g1
            refine wv_of e1 ?_
            refine wv_of e2 ?_
            obtain ⟨c2, e3, e4⟩ := pen_atx (x := (X.length : Int)) hsl (by simp) g2
            refine wv_of e3 ?_
            refine wv_of e4 ?_
            refine cmp_call hxo hpo fun G20 c20 => ?_
            have s20 := sp.tmp c20
            rw [vbin_lss, wv_some, cmpI_neg, brB_dec]
            refine ⟨fun hlt => ?_, fun hnl => ?_⟩
            · rw [vbin_add, i64_in (by omega) (by omega), wv_some]
              have := ih (md + 1) hi G20 (by omega) (by omega) h2 (fun k y hk hy => by
                have := sorted_get hsB (show k ≤ md by omega) hy hx
                omega) hh s20
              have e5 : ((X.length + 1 + md : Nat) : Int) + 1 = ((X.length + 1 + (md + 1) : Nat) : Int) := by omega
              rw [e5]
              exact this
            · exact ih lo md G20 (by omega) (by omega) (by omega) hl (fun k y hk hy => by
                have := sorted_get hsB hk hx hy
                omega) s20
      have := loop B.length 0 B.length G (by omega) (by omega) (by omega) (fun k x hk => by omega) (fun k x hk hx => by
        have := (List.getElem?_eq_some_iff.1 hx).1
        omega) hs
      simpa using this
    · rw [vbin_sub, i64_in (by omega) (by omega), wv_some, vbin_eql, wv_some, brB_dec]
      refine ⟨fun hone => ?_, fun hne2 => ?_⟩
      · -- one on the right
        obtain ⟨q, rfl⟩ : ∃ p, B = [p] := by
          match B, hone with
          | [p], _ => exact ⟨p, rfl⟩
          | [], h => exact absurd rfl hB
          | _ :: _ :: _, h => exfalso; simp only [List.length_cons] at h; omega
        have hqo := okB q (by simp)
        simp only [List.length_singleton] at *
        intro R hR
        have loop : ∀ (n lo hi : Nat) (G' : Heap), hi - lo ≤ n → lo ≤ hi → hi ≤ A.length → (∀ k x, k < lo → A[k]? = some x → x.id ≤ q.id) → (∀ k x, hi ≤ k → A[k]? = some x → q.id < x.id) → Sp F0 G0 (OwnL 35 v ((X ++ (A ++ ([q] ++ Y))).map PenM.av) :: ps) G' →
            R [v, .int .i64 ((X.length + A.length : Nat) : Int), cmpF, .int .i64 ((X.length + lo : Nat) : Int), .int .i64 ((X.length + hi : Nat) : Int)] G' := by
          intro n
          induction n with
          | zero =>
            intro lo hi G' hn h1 h2 hl hh sp
            have he : lo = hi := by omega
            subst he
            refine hR _ _ _ _ _ _ ?_
            rw [vbin_lss, wv_some, decide_eq_false (by omega), brB_false]
            obtain ⟨A1, A2, hAe, hA1l, hl1, hl2⟩ := part_at h2 (P1 := fun x => x.id ≤ q.id) (P2 := fun x => q.id < x.id) hl hh
            have hAle := congrArg List.length hAe
            rw [List.length_append] at hAle
            rw [hAe] at hsA hQ sp okA
            obtain ⟨hst, hso⟩ := one_right hsA hl1 hl2
            intro R2 hR2
            have loop2 : ∀ (n : Nat) (D E : List PenM) (G' : Heap), D.length = n → A2 = D ++ E → Sp F0 G0 (OwnL 35 v (((X ++ (A1 ++ D)) ++ q :: (E ++ Y)).map PenM.av) :: ps) G' → R2 [v, .int .i64 ((X.length + lo : Nat) : Int), .int .i64 ((X.length + lo + D.length : Nat) : Int)] G' := by
              intro n
              induction n with
              | zero =>
                intro D E G' hDl hD sp
                have : D = [] := List.length_eq_zero_iff.1 hDl
                subst this
                rw [List.nil_append] at hD
                subst hD
                refine hR2 _ _ _ _ ?_
                rw [vbin_gtr, wv_some, decide_eq_false (by simp), brB_false]
                refine hQ _ _ hst hso ?_
                simpa using sp
              | succ n ih =>
                intro D E G' hDl hD sp
                obtain ⟨W, u, rfl⟩ : ∃ W u, D = W ++ [u] := ⟨D.dropLast, D.getLast (by intro h; rw [h] at hDl; simp at hDl), (List.dropLast_concat_getLast _).symm⟩
                have hWl : W.length = n := by simpa using hDl
                have hDle := congrArg List.length hD
                simp only [List.length_append, List.length_singleton] at hDle
                have hUl : (W ++ [u]).length = W.length + 1 := by simp
                have huo : u.ok := okA u (by rw [hD]; simp)
                rw [hUl]
                refine hR2 _ _ _ _ ?_
                rw [vbin_gtr, wv_some, decide_eq_true (by omega), brB_true]
                rw [vbin_sub, i64_in (by omega) (by omega), wv_some, wv_some]
                have e0 : (X ++ (A1 ++ (W ++ [u]))) ++ q :: (E ++ Y) = (X ++ (A1 ++ W)) ++ u :: q :: (E ++ Y) := by simp
                rw [e0] at sp
                refine pen_swap (A := X ++ (A1 ++ W)) (B := E ++ Y) huo hqo (by simp only [List.length_append]; omega) (by simp only [List.length_append]; omega) sp fun G91 s91 => ?_
                rw [wv_some]
                have e1 : (X ++ (A1 ++ W)) ++ q :: u :: (E ++ Y) = (X ++ (A1 ++ W)) ++ q :: ((u :: E) ++ Y) := by simp
                rw [e1] at s91
                have := ih W (u :: E) G91 hWl (by rw [hD]; simp) s91
                have e2 : ((X.length + lo + (W.length + 1) : Nat) : Int) - 1 = ((X.length + lo + W.length : Nat) : Int) := by omega
                rw [e2]
                exact this
            have := loop2 A2.length A2 [] G' rfl (by simp) (by simpa using sp)
            have e3 : ((X.length + A.length : Nat) : Int) = ((X.length + lo + A2.length : Nat) : Int) := by omega
            rw [e3]
            exact this
          | succ n ih =>
            intro lo hi G' hn h1 h2 hl hh sp
            by_cases he : lo = hi
            · exact ih lo hi G' (by omega) h1 h2 hl hh sp
            · refine hR _ _ _ _ _ _ ?_
              rw [vbin_lss, wv_some, decide_eq_true (by omega), brB_true]
              rw [vbin_add, i64_in (by omega) (by omega), wv_some]
              refine halfU (n := X.length + lo + (X.length + hi)) (by omega) (by omega) ?_
              obtain ⟨md, hmd⟩ : ∃ md, md = (lo + hi) / 2 := ⟨_, rfl⟩
              have hh2 : (X.length + lo + (X.length + hi)) / 2 = X.length + md := by omega
              rw [hh2]
              obtain ⟨x, hx⟩ := some_at (B := A) (k := md) (by omega)
              have hxo := okA x (List.mem_of_getElem? hx)
              have hsl := (OwnL.own (i := 0) sp rfl).is
              have g1 := get_mid (X := X) (B := [q]) (Y := Y) hx
              have g2 := get_mid2 (X := X) (A := A) (B := [q]) (Y := Y) (k := 0) (x := q) rfl
              obtain ⟨c2, e3, e4⟩ := pen_atx (x := ((X.length + A.length : Nat) : Int)) hsl (by simp) g2
              refine wv_of e3 ?_
              refine wv_of e4 ?_
              obtain ⟨c1, e1, e2⟩ := pen_atx (x := ((X.length + md : Nat) : Int)) hsl rfl g1
              refine wv_of e1 ?_
              refine wv_of e2 ?_
              refine cmp_call hqo hxo fun G20 c20 => ?_
              have s20 := sp.tmp c20
              rw [vbin_lss, wv_some, cmpI_neg, vun_not, wv_some]
              by_cases hlt : q.id < x.id
              · rw [decide_eq_true hlt, Bool.not_true, brB_false]
                exact ih lo md G20 (by omega) (by omega) (by omega) hl (fun k y hk hy => by
                  have := sorted_get hsA hk hx hy
                  omega) s20
              · rw [decide_eq_false hlt, Bool.not_false, brB_true]
                rw [vbin_add, i64_in (by omega) (by omega), wv_some]
                have := ih (md + 1) hi G20 (by omega) (by omega) h2 (fun k y hk hy => by
                  have := sorted_get hsA (show k ≤ md by omega) hy hx
                  omega) hh s20
                have e5 : ((X.length + md : Nat) : Int) + 1 = ((X.length + (md + 1) : Nat) : Int) := by omega
                rw [e5]
                exact this
        have := loop A.length 0 A.length G (by omega) (by omega) (by omega) (fun k x hk => by omega) (fun k x hk hx => by
          have := (List.getElem?_eq_some_iff.1 hx).1
          omega) hs
        simpa using this
      · -- the general one
        obtain ⟨h, hhe⟩ : ∃ h, h = (A.length + B.length) / 2 := ⟨_, rfl⟩
        have hA2 : 2 ≤ A.length := by omega
        have hB2 : 2 ≤ B.length := by omega
        rw [vbin_add, i64_in (by omega) (by omega), wv_some]
        refine halfU (n := X.length + (X.length + A.length + B.length)) (by omega) (by omega) ?_
        have hmid : (X.length + (X.length + A.length + B.length)) / 2 = X.length + h := by omega
        rw [hmid, vbin_add, i64_in (by omega) (by omega), wv_some]
        refine wv_of (v := .bool (decide (((X.length + A.length : Nat) : Int) > ((X.length + h : Nat) : Int)))) (by rw [vbin_gtr]) ?_
        intro J185
        have core : ∀ (σ0 ρ0 : Nat), σ0 ≤ ρ0 → ρ0 ≤ h → ρ0 ≤ A.length → h ≤ σ0 + B.length → (σ0 = 0 ∨ h = σ0 + B.length) → (ρ0 = A.length ∨ ρ0 = h) → J185 (.int .i64 ((X.length + σ0 : Nat) : Int)) (.int .i64 ((X.length + ρ0 : Nat) : Int)) G := by
          intro σ0 ρ0 c1 c2 c3 c4 c5 c6
          simp -zeta only [J185]
          rw [vbin_sub, i64_in (by omega) (by omega), wv_some]
          intro R hR
          have loop : ∀ (n σ ρ : Nat) (G' : Heap), ρ - σ ≤ n → σ0 ≤ σ → σ ≤ ρ → ρ ≤ ρ0 → (∀ x ∈ A.take σ, ∀ y ∈ B.drop (h - σ), x.id ≤ y.id) → (∀ x ∈ B.take (h - ρ), ∀ y ∈ A.drop ρ, x.id < y.id) → Sp F0 G0 (OwnL 35 v ((X ++ (A ++ (B ++ Y))).map PenM.av) :: ps) G' →
              R [v, .int .i64 (X.length : Int), .int .i64 ((X.length + A.length : Nat) : Int), .int .i64 ((X.length + A.length + B.length : Nat) : Int), cmpF, .int .i64 ((X.length + h : Nat) : Int), .int .i64 (((X.length + h : Nat) : Int) + ((X.length + A.length : Nat) : Int)), .int .i64 ((X.length + σ : Nat) : Int), .int .i64 ((X.length + ρ : Nat) : Int), .int .i64 (((X.length + h : Nat) : Int) + ((X.length + A.length : Nat) : Int) - 1)] G' := by
            intro n
            induction n with
            | zero =>
              intro σ ρ G' hn k1 k2 k3 i1 i2 sp
              have he : σ = ρ := by omega
              subst he
              refine hR _ _ _ _ _ _ _ _ _ _ _ ?_
              rw [vbin_lss, wv_some, decide_eq_false (by omega), brB_false]
              obtain ⟨A1, hA1⟩ : ∃ x, x = A.take σ := ⟨_, rfl⟩
              obtain ⟨U, hU⟩ : ∃ x, x = A.drop σ := ⟨_, rfl⟩
              obtain ⟨V, hV⟩ : ∃ x, x = B.take (h - σ) := ⟨_, rfl⟩
              obtain ⟨B2, hB2⟩ : ∃ x, x = B.drop (h - σ) := ⟨_, rfl⟩
              have hAe : A = A1 ++ U := by rw [hA1, hU, List.take_append_drop]
              have hBe : B = V ++ B2 := by rw [hV, hB2, List.take_append_drop]
              have lA1 : A1.length = σ := by rw [hA1, List.length_take]; omega
              have lU : U.length = A.length - σ := by rw [hU, List.length_drop]
              have lV : V.length = h - σ := by rw [hV, List.length_take]; omega
              have lB2 : B2.length = B.length - (h - σ) := by rw [hB2, List.length_drop]
              rw [← hA1, ← hB2] at i1
              rw [← hV, ← hU] at i2
              have hsA' := hsA
              have hsB' := hsB
              rw [hAe] at hsA'
              rw [hBe] at hsB'
              obtain ⟨sA1, sU, _⟩ := sorted_append.1 hsA'
              obtain ⟨sV, sB2, _⟩ := sorted_append.1 hsB'
              have okA1 : ∀ x ∈ A1, x.ok := fun x hx => okA x (by rw [hAe]; simp [hx])
              have okU : ∀ x ∈ U, x.ok := fun x hx => okA x (by rw [hAe]; simp [hx])
              have okV : ∀ x ∈ V, x.ok := fun x hx => okB x (by rw [hBe]; simp [hx])
              have okB2 : ∀ x ∈ B2, x.ok := fun x hx => okB x (by rw [hBe]; simp [hx])
              have hQ' : ∀ S1 S2 G', StEq S1 (A1 ++ V) → SortedP S1 → StEq S2 (U ++ B2) → SortedP S2 → Sp F0 G0 (OwnL 35 v ((X ++ (S1 ++ (S2 ++ Y))).map PenM.av) :: ps) G' → Q (.tuple []) G' := by
                intro S1 S2 G' q1 q2 q3 q4 sp
                obtain ⟨r1, r2⟩ := merge_ok hsA' hsB' i1 i2 q1 q2 q3 q4
                rw [← hAe, ← hBe] at r1
                exact hQ _ _ r1 r2 (by simpa using sp)
              rw [vbin_sub, i64_in (by omega) (by omega), wv_some]
              have eend : ((X.length + h : Nat) : Int) + ((X.length + A.length : Nat) : Int) - ((X.length + σ : Nat) : Int) = ((X.length + A.length + (h - σ) : Nat) : Int) := by omega
              rw [eend]
              have fin : ∀ (S1 : List PenM) (G1 : Heap), StEq S1 (A1 ++ V) → SortedP S1 → Sp F0 G0 (OwnL 35 v ((X ++ (S1 ++ (U ++ (B2 ++ Y)))).map PenM.av) :: ps) G1 →
                  wv (vbin T .lss t_int (.int .i64 ((X.length + h : Nat) : Int)) (.int .i64 ((X.length + A.length + (h - σ) : Nat) : Int))) fun v162 => brB (some v162)
                    (wv (vbin T .lss t_int (.int .i64 ((X.length + A.length + (h - σ) : Nat) : Int)) (.int .i64 ((X.length + A.length + B.length : Nat) : Int))) fun v163 => brB (some v163)
                      (ACalls P slices_symMergeCmpFunc_escrow_api_Pending.n [v, .int .i64 ((X.length + h : Nat) : Int), .int .i64 ((X.length + A.length + (h - σ) : Nat) : Int), .int .i64 ((X.length + A.length + B.length : Nat) : Int), cmpF] G1 fun v169 G170 => Q (.tuple []) G170)
                      (Q (.tuple []) G1))
                    (Q (.tuple []) G1) := by
                intro S1 G1 q1 q2 sp1
                have lS1 := q1.length
                rw [List.length_append] at lS1
                have okS1 : ∀ x ∈ S1, x.ok := fun x hx => by
                  rcases List.mem_append.1 (q1.mem.1 hx) with hx | hx
                  · exact okA1 x hx
                  · exact okV x hx
                have noU : U = [] → Q (.tuple []) G1 := fun hu => hQ' S1 (U ++ B2) G1 q1 q2 (StEq.refl _) (by rw [hu]; simpa using sB2) (by simpa using sp1)
                have noB : B2 = [] → Q (.tuple []) G1 := fun hu => hQ' S1 (U ++ B2) G1 q1 q2 (StEq.refl _) (by rw [hu]; simpa using sU) (by simpa using sp1)
                rw [vbin_lss, wv_some, brB_dec]
                refine ⟨fun hlt => ?_, fun hge => noU (List.length_eq_zero_iff.1 (by omega))⟩
                rw [vbin_lss, wv_some, brB_dec]
                refine ⟨fun hlt2 => ?_, fun hge => noB (List.length_eq_zero_iff.1 (by omega))⟩
                refine ihN (X := X ++ S1) (A := U) (B := B2) (Y := Y) (by omega) ?_ ?_ (fun e => by rw [e] at lU; simp at lU; omega) (fun e => by rw [e] at lB2; simp at lB2; omega) sU sB2 (by rw [List.length_append]; omega) (by rw [List.length_append]; omega) (by rw [List.length_append]; omega) (by simpa using sp1) fun S2 G2 q3 q4 sp2 => ?_
                · intro x hx
                  simp only [List.mem_append] at hx
                  rcases hx with (hx | hx) | hx | hx | hx
                  · exact okX x hx
                  · exact okS1 x hx
                  · exact okU x hx
                  · exact okB2 x hx
                  · exact okY x hx
                · simp only [List.length_append]; omega
                · exact hQ' S1 S2 G2 q1 q2 q3 q4 (by simpa using sp2)
              intro J184
              have j184 : ∀ (bb : Bool) (G1 : Heap), (bb = false → U = [] ∨ V = []) → (bb = true → U ≠ [] ∧ V ≠ []) → Sp F0 G0 (OwnL 35 v ((X ++ (A ++ (B ++ Y))).map PenM.av) :: ps) G1 → J184 (.bool bb) G1 := by
                intro bb G1 hb0 hb1 sp1
                simp -zeta only [J184]
                intro J183
                have j183 : ∀ G2, Sp F0 G0 (OwnL 35 v ((X ++ (A1 ++ (V ++ (U ++ (B2 ++ Y))))).map PenM.av) :: ps) G2 → J183 G2 := by
                  intro G2 sp2
                  simp -zeta only [J183]
                  intro J182
                  have no : (A1 = [] ∨ V = []) → J182 (.bool false) G2 := by
                    intro hor
                    simp -zeta only [J182, brB_false]
                    refine fin (A1 ++ V) G2 (StEq.refl _) ?_ (by simpa using sp2)
                    rcases hor with e | e
                    · rw [e]; simpa using sV
                    · rw [e]; simpa using sA1
                  rw [vbin_lss, wv_some, brB_dec]
                  refine ⟨fun hlt => ?_, fun hge => no (.inl (List.length_eq_zero_iff.1 (by omega)))⟩
                  rw [vbin_lss, wv_some]
                  by_cases hlt2 : ((X.length + σ : Nat) : Int) < ((X.length + h : Nat) : Int)
                  · rw [decide_eq_true hlt2]
                    simp -zeta only [J182, brB_true]
                    refine ihN (X := X) (A := A1) (B := V) (Y := U ++ (B2 ++ Y)) (by omega) ?_ ?_ (fun e => by rw [e] at lA1; simp at lA1; omega) (fun e => by rw [e] at lV; simp at lV; omega) sA1 sV rfl (by omega) (by omega) sp2 fun S1 G3 q1 q2 sp3 => ?_
                    · intro x hx
                      simp only [List.mem_append] at hx
                      rcases hx with hx | hx | hx | hx | hx | hx
                      · exact okX x hx
                      · exact okA1 x hx
                      · exact okV x hx
                      · exact okU x hx
                      · exact okB2 x hx
                      · exact okY x hx
                    · simp only [List.length_append]; omega
                    · exact fin S1 G3 q1 q2 sp3
                  · rw [decide_eq_false hlt2]
                    exact no (.inr (List.length_eq_zero_iff.1 (by omega)))
                cases bb with
                | false =>
                  rw [brB_false]
                  refine j183 G1 ?_
                  rw [hAe, hBe] at sp1
                  rcases hb0 rfl with e | e
                  · rw [e] at sp1 ⊢; simpa using sp1
                  · rw [e] at sp1 ⊢; simpa using sp1
                | true =>
                  rw [brB_true]
                  obtain ⟨hUn, hVn⟩ := hb1 rfl
                  rw [hAe, hBe] at sp1
                  refine rotate.use (X := X ++ A1) (U := U) (V := V) (Y := B2 ++ Y) ?_ ?_ hUn hVn (by rw [List.length_append]; omega) (by rw [List.length_append]; omega) (by rw [List.length_append]; omega) (by simpa using sp1) fun G2 sp2 => ?_
                  · intro x hx
                    simp only [List.mem_append] at hx
                    rcases hx with (hx | hx) | hx | hx | hx | hx
                    · exact okX x hx
                    · exact okA1 x hx
                    · exact okU x hx
                    · exact okV x hx
                    · exact okB2 x hx
                    · exact okY x hx
                  · simp only [List.length_append]; omega
                  · exact j183 G2 (by simpa using sp2)
              rw [vbin_lss, wv_some, brB_dec]
              refine ⟨fun hlt => ?_, fun hge => j184 false G' (fun _ => .inl (List.length_eq_zero_iff.1 (by omega))) (fun e => by cases e) sp⟩
              rw [vbin_lss, wv_some]
              by_cases hlt2 : ((X.length + A.length : Nat) : Int) < ((X.length + A.length + (h - σ) : Nat) : Int)
              · rw [decide_eq_true hlt2]
                exact j184 true G' (fun e => by cases e) (fun _ => ⟨fun e => by rw [e] at lU; simp at lU; omega, fun e => by rw [e] at lV; simp at lV; omega⟩) sp
              · rw [decide_eq_false hlt2]
                exact j184 false G' (fun _ => .inr (List.length_eq_zero_iff.1 (by omega))) (fun e => by cases e) sp
            | succ n ih =>
              intro σ ρ G' hn k1 k2 k3 i1 i2 sp
              by_cases he : σ = ρ
              · exact ih σ ρ G' (by omega) k1 k2 k3 i1 i2 sp
              · refine hR _ _ _ _ _ _ _ _ _ _ _ ?_
                rw [vbin_lss, wv_some, decide_eq_true (by omega), brB_true]
                rw [vbin_add, i64_in (by omega) (by omega), wv_some]
                refine halfU (n := X.length + σ + (X.length + ρ)) (by omega) (by omega) ?_
                obtain ⟨κ, hκ⟩ : ∃ κ, κ = (σ + ρ) / 2 := ⟨_, rfl⟩
                have hh2 : (X.length + σ + (X.length + ρ)) / 2 = X.length + κ := by omega
                rw [hh2]
                rw [vbin_sub, i64_in (by omega) (by omega), wv_some]
                obtain ⟨x, hx⟩ := some_at (B := A) (k := κ) (by omega)
                obtain ⟨y, hy⟩ := some_at (B := B) (k := h - 1 - κ) (by omega)
                have hxo := okA x (List.mem_of_getElem? hx)
                have hyo := okB y (List.mem_of_getElem? hy)
                have hsl := (OwnL.own (i := 0) sp rfl).is
                have g1 := get_mid (X := X) (B := B) (Y := Y) hx
                have g2 := get_mid2 (X := X) (A := A) (Y := Y) hy
                obtain ⟨c7, e1, e2⟩ := pen_atx (x := ((X.length + h : Nat) : Int) + ((X.length + A.length : Nat) : Int) - 1 - ((X.length + κ : Nat) : Int)) hsl (by omega) g2
                refine wv_of e1 ?_
                refine wv_of e2 ?_
                obtain ⟨c8, e3, e4⟩ := pen_atx (x := ((X.length + κ : Nat) : Int)) hsl rfl g1
                refine wv_of e3 ?_
                refine wv_of e4 ?_
                refine cmp_call hyo hxo fun G127 c127 => ?_
                have s127 := sp.tmp c127
                rw [vbin_lss, wv_some, cmpI_neg, vun_not, wv_some]
                by_cases hlt : y.id < x.id
                · rw [decide_eq_true hlt, Bool.not_true, brB_false]
                  refine ih σ κ G127 (by omega) k1 (by omega) (by omega) i1 (fun u hu w hw => ?_) s127
                  have hk : h - κ = h - 1 - κ + 1 := by omega
                  rw [hk] at hu
                  have h5 := take_le hsB hy hu
                  have h6 := drop_ge hsA hx hw
                  omega
                · rw [decide_eq_false hlt, Bool.not_false, brB_true]
                  rw [vbin_add, i64_in (by omega) (by omega), wv_some]
                  have := ih (κ + 1) ρ G127 (by omega) (by omega) (by omega) k3 (fun u hu w hw => by
                    have hk : h - (κ + 1) = h - 1 - κ := by omega
                    rw [hk] at hw
                    have h5 := take_le hsA hx hu
                    have h6 := drop_ge hsB hy hw
                    omega) i2 s127
                  have e5 : ((X.length + κ : Nat) : Int) + 1 = ((X.length + (κ + 1) : Nat) : Int) := by omega
                  rw [e5]
                  exact this
          refine loop (ρ0 - σ0) σ0 ρ0 G (Nat.le_refl _) (Nat.le_refl _) c1 (Nat.le_refl _) ?_ ?_ hs
          · rcases c5 with e | e
            · subst e; intro x hx; simp at hx
            · intro x hx y hy
              rw [List.drop_eq_nil_of_le (by omega)] at hy
              cases hy
          · rcases c6 with e | e
            · intro x hx y hy
              rw [List.drop_eq_nil_of_le (by omega)] at hy
              cases hy
            · subst e
              intro x hx
              rw [Nat.sub_self] at hx
              simp at hx
        rw [brB_dec]
        refine ⟨fun hgt => ?_, fun hle => ?_⟩
        · rw [vbin_sub, i64_in (by omega) (by omega), wv_some]
          have := core (h - B.length) h (by omega) (by omega) (by omega) (by omega) (.inr (by omega)) (.inr rfl)
          have e : ((X.length + h : Nat) : Int) + ((X.length + A.length : Nat) : Int) - ((X.length + A.length + B.length : Nat) : Int) = ((X.length + (h - B.length) : Nat) : Int) := by omega
          rw [e]
          exact this
        · have := core 0 A.length (by omega) (by omega) (by omega) (by omega) (.inl rfl) (.inl rfl)
          simpa using this

end

end Go.Esc.M

/- Own work. Chapter 13: the sort: blocks, merged by and by. -/
set_option linter.unusedSimpArgs false
set_option linter.unusedVariables false
set_option maxRecDepth 20000
namespace Go.Esc.M
open Go Go.Esc

/-- Each block of so many is sorted. -/
def Blk (s : Nat) (l : List PenM) : Prop := ∀ i, SortedP ((l.drop (i * s)).take s)
theorem blk_nil (s : Nat) : Blk s [] := fun i => by simp [SortedP]
theorem blk_snoc {s c : Nat} {X S : List PenM} (h : Blk s X) (hl : X.length = c * s) (hS : S.length ≤ s) (ho : SortedP S) : Blk s (X ++ S) := by
  intro i
  by_cases h1 : i < c
  · have e : c * s = i * s + s + (c - i - 1) * s := by
      have : c = i + 1 + (c - i - 1) := by omega
      conv => lhs; rw [this]
      rw [Nat.add_mul, Nat.add_mul, Nat.one_mul]
    rw [List.drop_append_of_le_length (by omega), List.take_append_of_le_length (by rw [List.length_drop]; omega)]
    exact h i
  · by_cases h2 : i = c
    · subst h2
      rw [← hl, List.drop_left, List.take_of_length_le hS]
      exact ho
    · have e : i * s = c * s + s + (i - c - 1) * s := by
        have : i = c + 1 + (i - c - 1) := by omega
        conv => lhs; rw [this]
        rw [Nat.add_mul, Nat.add_mul, Nat.one_mul]
      rw [List.drop_eq_nil_of_le (by rw [List.length_append]; omega)]
      simp [SortedP]
theorem blk_drop {s c : Nat} {l : List PenM} (h : Blk s l) : Blk s (l.drop (c * s)) := fun i => by
  rw [List.drop_drop, ← Nat.add_mul]
  exact h _
theorem blk_all {s : Nat} {l : List PenM} (h : Blk s l) (hl : l.length ≤ s) : SortedP l := by
  have := h 0
  rw [Nat.zero_mul, List.drop_zero, List.take_of_length_le hl] at this
  exact this
theorem blk_first {s : Nat} {P T : List PenM} (h : Blk s (P ++ T)) (hP : P.length = s) : SortedP P ∧ Blk s T := by
  constructor
  · have := h 0
    rw [Nat.zero_mul, List.drop_zero, ← hP, List.take_left] at this
    exact this
  · have := blk_drop (c := 1) h
    rw [Nat.one_mul, ← hP, List.drop_left] at this
    rw [hP] at this
    exact this

section
variable {F0 : List AId} {G0 G : Heap} {ps : List LP} {Q : AVal → Heap → Prop}

set_option maxHeartbeats 4000000 in
theorem stable.use {v : AVal} {L : List PenM} (hok : ∀ p ∈ L, p.ok) (hlen : L.length ≤ 2000000000000) (hs : Sp F0 G0 (OwnL 35 v (L.map PenM.av) :: ps) G)
    (hQ : ∀ S G', StEq S L → SortedP S → Sp F0 G0 (OwnL 35 v (S.map PenM.av) :: ps) G' → Q (.tuple []) G') :
    ACalls P slices_stableCmpFunc_escrow_api_Pending.n [v, .int .i64 (L.length : Int), cmpF] G Q := by
  refine slices_stableCmpFunc_escrow_api_Pending.sound ?_
  unfold slices_stableCmpFunc_escrow_api_Pending.S
  have okS : ∀ {S : List PenM}, StEq S L → ∀ p ∈ S, p.ok := fun h p hp => hok p (h.mem.1 hp)
  have last : ∀ (c : Nat) (X T0 : List PenM) (G' : Heap), T0.length < 20 → X.length = c * 20 → Blk 20 X → StEq (X ++ T0) L → Sp F0 G0 (OwnL 35 v ((X ++ T0).map PenM.av) :: ps) G' → ∀ R1 : List AVal → Heap → Prop, (∀ (x3 x4 x5 x6 x7 x8 : AVal) (G2 : Heap), (wv (vbin T .leq t_int x8 x4) fun v9 => brB (some v9)   (ACalls P slices_insertionSortCmpFunc_escrow_api_Pending.n [x3, x7, x8, x5] G2 fun v10 G11 => wv (vbin T .add t_int x8 x6) fun v12 => R1 [x3, x4, x5, x6, x8, v12] G11)   (ACalls P slices_insertionSortCmpFunc_escrow_api_Pending.n [x3, x7, x4, x5] G2 fun v13 G14 => ∀ R15 : List AVal → Heap → Prop,   (∀ (x17 x18 x19 x20 : AVal) (G16 : Heap), (wv (vbin T .lss t_int x20 x18) fun v21 => brB (some v21)   (wv (vbin T .mul t_int (.int .i64 2) x20) fun v22 => ∀ R23 : List AVal → Heap → Prop,   (∀ (x25 x26 x27 x28 x29 x30 : AVal) (G24 : Heap), (wv (vbin T .leq t_int x30 x26) fun v31 => brB (some v31)   (wv (vbin T .add t_int x29 x28) fun v32 => ACalls P slices_symMergeCmpFunc_escrow_api_Pending.n [x25, x29, v32, x30, x27] G24 fun v33 G34 => wv (vbin T .mul t_int (.int .i64 2) x28) fun v35 => wv (vbin T .add t_int x30 v35) fun v36 => R23 [x25, x26, x27, x28, x30, v36] G34)   (wv (vbin T .add t_int x29 x28) fun v37 => wv (vbin T .lss t_int v37 x26) fun v38 => brB (some v38)   (ACalls P slices_symMergeCmpFunc_escrow_api_Pending.n [x25, x29, v37, x26, x27] G24 fun v39 G40 => wv (vbin T .mul t_int x28 (.int .i64 2)) fun v43 => R15 [x25, x26, x27, v43] G40)   (wv (vbin T .mul t_int x28 (.int .i64 2)) fun v44 => R15 [x25, x26, x27, v44] G24))) → R23 [x25, x26, x27, x28, x29, x30] G24) →   R23 [x17, x18, x19, x20, .int .i64 0, v22] G16)   (Q (.tuple []) G16)) → R15 [x17, x18, x19, x20] G16) →   R15 [x3, x4, x5, x6] G14)) → R1 [x3, x4, x5, x6, x7, x8] G2) → R1 [v, .int .i64 (L.length : Int), cmpF, .int .i64 20, .int .i64 (X.length : Int), .int .i64 ((X.length + 20 : Nat) : Int)] G' := by
    intro c X T0 G' h20 hX hb hst sp R hR
    have hL := hst.length
    rw [List.length_append] at hL
    refine hR _ _ _ _ _ _ _ ?_
    rw [vbin_leq, wv_some, decide_eq_false (by omega), brB_false]
    refine insertion.use (X := X) (S := T0) (Y := []) (fun p hp => okS hst p (by simpa using hp)) (by simp only [List.length_append, List.length_nil]; omega) rfl (by omega) (by simpa using sp) fun S' G1 q1 q2 sp1 => ?_
    have lS := q1.length
    have hM : Blk 20 (X ++ S') := blk_snoc hb hX (by omega) q2
    have hMst : StEq (X ++ S') L := (StEq.append (StEq.refl X) q1).trans hst
    have sp1 : Sp F0 G0 (OwnL 35 v ((X ++ S').map PenM.av) :: ps) G1 := by simpa using sp1
    intro R15 hR15
    have outer : ∀ (n bs : Nat) (M : List PenM) (G' : Heap), L.length - bs ≤ n → 1 ≤ bs → bs ≤ 4000000000000 → Blk bs M → StEq M L → Sp F0 G0 (OwnL 35 v (M.map PenM.av) :: ps) G' → R15 [v, .int .i64 (L.length : Int), cmpF, .int .i64 (bs : Int)] G' := by
      intro n
      induction n with
      | zero =>
        intro bs M G' hn h1 h2 hb hst sp
        refine hR15 _ _ _ _ _ ?_
        rw [vbin_lss, wv_some, decide_eq_false (by omega), brB_false]
        exact hQ M G' hst (blk_all hb (by rw [hst.length]; omega)) sp
      | succ n ihn =>
        intro bs M G' hn h1 h2 hb hst sp
        have hML := hst.length
        by_cases hbl : L.length ≤ bs
        · exact ihn bs M G' (by omega) h1 h2 hb hst sp
        · refine hR15 _ _ _ _ _ ?_
          rw [vbin_lss, wv_some, decide_eq_true (by omega), brB_true]
          rw [vbin_mul, i64_in (by omega) (by omega), wv_some]
          intro R23 hR23
          have inner : ∀ (k c : Nat) (X T0 : List PenM) (G' : Heap), T0.length ≤ k → X.length = c * (2 * bs) → Blk (2 * bs) X → Blk bs T0 → StEq (X ++ T0) L → Sp F0 G0 (OwnL 35 v ((X ++ T0).map PenM.av) :: ps) G' →
              R23 [v, .int .i64 (L.length : Int), cmpF, .int .i64 (bs : Int), .int .i64 (X.length : Int), .int .i64 ((X.length + 2 * bs : Nat) : Int)] G' := by
            intro k
            have fin : ∀ (c : Nat) (X T0 : List PenM) (G' : Heap), T0.length < 2 * bs → X.length = c * (2 * bs) → Blk (2 * bs) X → Blk bs T0 → StEq (X ++ T0) L → Sp F0 G0 (OwnL 35 v ((X ++ T0).map PenM.av) :: ps) G' →
                R23 [v, .int .i64 (L.length : Int), cmpF, .int .i64 (bs : Int), .int .i64 (X.length : Int), .int .i64 ((X.length + 2 * bs : Nat) : Int)] G' := by
              intro c X T0 G' hlt hX hbX hbT hst sp
              have hL := hst.length
              rw [List.length_append] at hL
              refine hR23 _ _ _ _ _ _ _ ?_
              rw [vbin_leq, wv_some, decide_eq_false (by omega), brB_false]
              rw [vbin_add, i64_in (by omega) (by omega), wv_some, vbin_lss, wv_some, brB_dec]
              refine ⟨fun hlt2 => ?_, fun hge => ?_⟩
              · obtain ⟨P, hP⟩ : ∃ x, x = T0.take bs := ⟨_, rfl⟩
                obtain ⟨T1, hT1⟩ : ∃ x, x = T0.drop bs := ⟨_, rfl⟩
                have hT : T0 = P ++ T1 := by rw [hP, hT1, List.take_append_drop]
                have lP : P.length = bs := by rw [hP, List.length_take]; omega
                have lT1 : T1.length = T0.length - bs := by rw [hT1, List.length_drop]
                rw [hT] at sp hst hbT
                obtain ⟨sP, bT1⟩ := blk_first hbT lP
                refine symMerge.use (P.length + T1.length) (X := X) (A := P) (B := T1) (Y := []) (Nat.le_refl _) (fun p hp => okS hst p (by simpa using hp)) (by simp only [List.length_append, List.length_nil]; omega) (fun e => by rw [e] at lP; simp at lP; omega) (fun e => by rw [e] at lT1; simp at lT1; omega) sP (blk_all bT1 (by omega)) rfl (by omega) (by omega) (by simpa using sp) fun S G1 q1 q2 sp1 => ?_
                have lS := q1.length
                rw [List.length_append] at lS
                rw [vbin_mul, i64_in (by omega) (by omega), wv_some]
                have := ihn (2 * bs) (X ++ S) G1 (by omega) (by omega) (by omega) (blk_snoc hbX hX (by omega) q2) ((StEq.append (StEq.refl X) q1).trans hst) (by simpa using sp1)
                have e : ((2 * bs : Nat) : Int) = (bs : Int) * 2 := by omega
                rw [e] at this
                exact this
              · rw [vbin_mul, i64_in (by omega) (by omega), wv_some]
                have := ihn (2 * bs) (X ++ T0) G' (by omega) (by omega) (by omega) (blk_snoc hbX hX (by omega) (blk_all hbT (by omega))) hst sp
                have e : ((2 * bs : Nat) : Int) = (bs : Int) * 2 := by omega
                rw [e] at this
                exact this
            induction k with
            | zero =>
              intro c X T0 G' hk
              exact fin c X T0 G' (by omega)
            | succ k ihk =>
              intro c X T0 G' hk hX hbX hbT hst sp
              by_cases hlt : T0.length < 2 * bs
              · exact fin c X T0 G' hlt hX hbX hbT hst sp
              · have hL := hst.length
                rw [List.length_append] at hL
                refine hR23 _ _ _ _ _ _ _ ?_
                rw [vbin_leq, wv_some, decide_eq_true (by omega), brB_true]
                rw [vbin_add, i64_in (by omega) (by omega), wv_some]
                obtain ⟨P, hP⟩ : ∃ x, x = T0.take bs := ⟨_, rfl⟩
                obtain ⟨T1, hT1⟩ : ∃ x, x = (T0.drop bs).take bs := ⟨_, rfl⟩
                obtain ⟨T2, hT2⟩ : ∃ x, x = (T0.drop bs).drop bs := ⟨_, rfl⟩
                have hT : T0 = P ++ (T1 ++ T2) := by rw [hT1, hT2, List.take_append_drop, hP, List.take_append_drop]
                have lP : P.length = bs := by rw [hP, List.length_take]; omega
                have lT1 : T1.length = bs := by rw [hT1, List.length_take, List.length_drop]; omega
                have lT2 : T2.length = T0.length - bs - bs := by rw [hT2, List.length_drop, List.length_drop]
                rw [hT] at sp hst hbT
                obtain ⟨sP, bT1⟩ := blk_first hbT lP
                obtain ⟨sT1, bT2⟩ := blk_first bT1 lT1
                refine symMerge.use (P.length + T1.length) (X := X) (A := P) (B := T1) (Y := T2) (Nat.le_refl _) (fun p hp => okS hst p (by simpa using hp)) (by simp only [List.length_append]; omega) (fun e => by rw [e] at lP; simp at lP; omega) (fun e => by rw [e] at lT1; simp at lT1; omega) sP sT1 rfl (by omega) (by omega) (by simpa using sp) fun S G1 q1 q2 sp1 => ?_
                have lS := q1.length
                rw [List.length_append] at lS
                rw [vbin_mul, i64_in (by omega) (by omega), wv_some]
                rw [vbin_add, i64_in (by omega) (by omega), wv_some]
                have e1 : (X ++ S).length = X.length + 2 * bs := by rw [List.length_append]; omega
                have := ihk (c + 1) (X ++ S) T2 G1 (by omega) (by rw [e1, hX, Nat.add_mul]; omega) (blk_snoc hbX hX (by omega) q2) bT2 (by
                  refine StEq.trans ?_ hst
                  have := StEq.append (StEq.refl X) (StEq.append q1 (StEq.refl T2))
                  simpa using this) (by simpa using sp1)
                rw [e1] at this
                have e2 : ((X.length + 2 * bs : Nat) : Int) + 2 * (bs : Int) = ((X.length + 2 * bs + 2 * bs : Nat) : Int) := by omega
                rw [e2]
                exact this
          have := inner M.length 0 [] M G' (Nat.le_refl _) (by simp) (blk_nil _) hb (by simpa using hst) (by simpa using sp)
          have e : (2 * (bs : Int)) = ((([] : List PenM).length + 2 * bs : Nat) : Int) := by simp
          rw [e]
          exact this
    exact outer L.length 20 (X ++ S') G1 (by omega) (by decide) (by decide) hM hMst sp1
  intro R hR
  have loop : ∀ (n c : Nat) (X T0 : List PenM) (G' : Heap), T0.length ≤ n → X.length = c * 20 → Blk 20 X → StEq (X ++ T0) L → Sp F0 G0 (OwnL 35 v ((X ++ T0).map PenM.av) :: ps) G' →
      R [v, .int .i64 (L.length : Int), cmpF, .int .i64 20, .int .i64 (X.length : Int), .int .i64 ((X.length + 20 : Nat) : Int)] G' := by
    intro n
    induction n with
    | zero =>
      intro c X T0 G' hn hX hb hst sp
      exact last c X T0 G' (by omega) hX hb hst sp R hR
    | succ n ih =>
      intro c X T0 G' hn hX hb hst sp
      have hL := hst.length
      rw [List.length_append] at hL
      by_cases h20 : 20 ≤ T0.length
      · refine hR _ _ _ _ _ _ _ ?_
        rw [vbin_leq, wv_some, decide_eq_true (by omega), brB_true]
        obtain ⟨P, hP⟩ : ∃ x, x = T0.take 20 := ⟨_, rfl⟩
        obtain ⟨T1, hT1⟩ : ∃ x, x = T0.drop 20 := ⟨_, rfl⟩
        have hT : T0 = P ++ T1 := by rw [hP, hT1, List.take_append_drop]
        have lP : P.length = 20 := by rw [hP, List.length_take]; omega
        have lT1 : T1.length = T0.length - 20 := by rw [hT1, List.length_drop]
        rw [hT] at sp hst
        refine insertion.use (X := X) (S := P) (Y := T1) (fun p hp => okS hst p (by simpa using hp)) (by simp only [List.length_append]; omega) rfl (by rw [lP]) (by simpa using sp) fun S' G1 q1 q2 sp1 => ?_
        rw [vbin_add, i64_in (by omega) (by omega), wv_some]
        have lS := q1.length
        have e1 : (X ++ S').length = X.length + 20 := by rw [List.length_append, lS, lP]
        have := ih (c + 1) (X ++ S') T1 G1 (by omega) (by rw [e1, hX]; omega) (blk_snoc hb hX (by omega) q2) (by
          refine StEq.trans ?_ hst
          have := StEq.append (StEq.refl X) (StEq.append q1 (StEq.refl T1))
          simpa using this) sp1
        rw [e1] at this
        exact this
      · exact last c X T0 G' (by omega) hX hb hst sp R hR
  have := loop L.length 0 [] L G (Nat.le_refl _) (by simp) (blk_nil 20) (StEq.refl _) (by simpa using hs)
  simpa using this

theorem sortStable.use {v : AVal} {L : List PenM} (hok : ∀ p ∈ L, p.ok) (hlen : L.length ≤ 2000000000000) (hs : Sp F0 G0 (OwnL 35 v (L.map PenM.av) :: ps) G)
    (hQ : ∀ G', Sp F0 G0 (OwnL 35 v ((sortP L).map PenM.av) :: ps) G' → Q (.tuple []) G') :
    ACalls P slices_SortStableFunc_escrow_api_Pending_escrow_api_Pending.n [v, cmpF] G Q := by
  refine slices_SortStableFunc_escrow_api_Pending_escrow_api_Pending.sound ?_
  unfold slices_SortStableFunc_escrow_api_Pending_escrow_api_Pending.S
  refine wv_of (v := .int .i64 (L.length : Nat)) ?_ ?_
  · rw [(OwnL.own (i := 0) hs rfl).is.len (i := ti_sl_api_Pending) T_sl_api_Pending rfl, List.length_map]
  refine stable.use hok hlen hs fun S G' q1 q2 sp => ?_
  rw [sort_is q1 q2] at sp
  exact hQ G' sp

end

end Go.Esc.M

/- Own work. Chapter 13: part: one side's adds on the two balances. -/
set_option linter.unusedSimpArgs false
set_option linter.unusedVariables false
set_option maxRecDepth 20000
namespace Go.Esc.M
open Go Go.Esc

def stays (r : List UpdM) (u : UpdM) : Bool := decide (u.kind = 1) && !decide (remS u.id r = 3)
def paid (r : List UpdM) (u : UpdM) : Bool := decide (u.kind = 1) && decide (remS u.id r = 2)
def opens (r : List UpdM) (u : UpdM) : Bool := stays r u && !decide (remS u.id r = 2)
def sumF (f : UpdM → Bool) (l : List UpdM) : Int := ((l.filter f).map (·.amount)).sum
def pend (mine : Bool) (u : UpdM) : PenM := ⟨mine, u.id, u.amount, u.hash⟩
def pensF (mine : Bool) (f : UpdM → Bool) (l : List UpdM) : List PenM := (l.filter f).map (pend mine)
theorem sumF_next {f : UpdM → Bool} {l : List UpdM} {j : Nat} {u : UpdM} (h : l[j]? = some u) : sumF f (l.take (j + 1)) = sumF f (l.take j) + if f u = true then u.amount else 0 := by
  unfold sumF
  rw [List.take_add_one, h, List.filter_append, List.map_append, List.sum_append]
  congr 1
  simp only [Option.toList_some, List.filter_cons, List.filter_nil]
  split <;> simp
theorem pensF_next {mine : Bool} {f : UpdM → Bool} {l : List UpdM} {j : Nat} {u : UpdM} (h : l[j]? = some u) : pensF mine f (l.take (j + 1)) = pensF mine f (l.take j) ++ if f u = true then [pend mine u] else [] := by
  unfold pensF
  rw [List.take_add_one, h, List.filter_append, List.map_append]
  congr 1
  simp only [Option.toList_some, List.filter_cons, List.filter_nil]
  split <;> simp
theorem pensF_len (mine : Bool) (f : UpdM → Bool) (l : List UpdM) : (pensF mine f l).length ≤ l.length := by
  unfold pensF
  rw [List.length_map]
  exact List.length_filter_le _ _
theorem pend_ok {mine : Bool} {u : UpdM} (h : u.ok) : (pend mine u).ok := ⟨h.id, h.amount, h.hash⟩
theorem pensF_ok {mine : Bool} {f : UpdM → Bool} {l : List UpdM} (h : ∀ u ∈ l, u.ok) : ∀ p ∈ pensF mine f l, p.ok := by
  intro p hp
  obtain ⟨u, hu, rfl⟩ := List.mem_map.1 hp
  exact pend_ok (h u (List.mem_filter.1 hu).1)

section
variable {F0 : List AId} {G0 G : Heap} {ps : List LP} {Q : AVal → Heap → Prop}

set_option maxHeartbeats 4000000 in
theorem ledger_part.use {n : Nat} {v : AVal} {l r : List UpdM} {mid : AId} {es : List (Int × Int)} {mine : Bool} {u1 l1 u2 l2 : Int} (hl : IsSl 36 G v (l.map UpdM.av)) (hok : ∀ u ∈ l, u.ok) (hval : ∀ u ∈ l, validU u = true) (hlen : l.length ≤ 1048576) (hm : G mid = some (.map (mapE es))) (hes : ∀ id, lookE es id = optR (remS id r)) (hw1 : Wd n u1 l1) (hw2 : Wd n u2 l2) (hn : n ≤ 16777216)
    (hQ : ∀ a b c d w G', Wd (n + l.length) a b → Wd (n + l.length) c d → totW a b = totW u1 l1 - sumF (stays r) l → totW c d = totW u2 l2 + sumF (paid r) l → Sp [] G [OwnL 35 w ((sortP (pensF mine (opens r) l)).map PenM.av)] G' → Q (.tuple [pairW a b, pairW c d, w]) G') :
    ACalls P ledger_part.n [v, .map mid, .bool mine, pairW u1 l1, pairW u2 l2] G Q := by
  refine ledger_part.sound ?_
  unfold ledger_part.S
  rw [zWide]
  intro i1 f1
  have s1 := (Sp.nil G).row f1 (pairW u1 l1)
  intro i3 f3
  have s3 := s1.row f3 (pairW u2 l2)
  intro i5 f5
  have s5 := s3.row f5 (pairW 0 0)
  intro i7 f7
  have s7 := s5.row f7 (pairW 0 0)
  refine wv_of (upd_len (hl.ch' s7.ch)) ?_
  intro R hR
  have loop : ∀ (k j : Nat) (a b c d : Int) (w : AVal) (G' : Heap), l.length - j = k → j ≤ l.length → Wd (n + j) a b → Wd (n + j) c d → totW a b = totW u1 l1 - sumF (stays r) (l.take j) → totW c d = totW u2 l2 + sumF (paid r) (l.take j) →
      Sp [] G [OwnL 35 w ((pensF mine (opens r) (l.take j)).map PenM.av), RowL i7 (pairW 0 0), RowL i5 (pairW 0 0), RowL i3 (pairW c d), RowL i1 (pairW a b)] G' →
      R [.map mid, .bool mine, .ptr i1 [] 0, .ptr i3 [] 0, .ptr i5 [] 0, .ptr i7 [] 0, w, v, .int .i64 (l.length : Int), .int .i64 (j : Int)] G' := by
    intro k
    induction k with
    | zero =>
      intro j a b c d w G' hk hj w1 w2 t1 t2 sp
      have hjl : j = l.length := by omega
      subst hjl
      rw [List.take_length] at t1 t2 sp
      refine hR _ _ _ _ _ _ _ _ _ _ _ ?_
      rw [vbin_lss, wv_some, decide_eq_false (by omega), brB_false]
      have hpl := pensF_len mine (opens r) l
      refine sortStable.use (pensF_ok hok) (by omega) sp fun G64 s64 => ?_
      refine wv_of (pair_load (RowL.own (i := 4) s64 rfl) T_ledger_wide rfl).2.2 ?_
      refine wv_of (pair_load (RowL.own (i := 3) s64 rfl) T_ledger_wide rfl).2.2 ?_
      refine wide_store (i := 2) s64 rfl fun G67 s67 => ?_
      refine ⟨⟨(pair_load (RowL.own (i := 3) s67 rfl) T_ledger_wide rfl).2.2, trivial⟩, ?_⟩
      refine wide_store (i := 1) s67 rfl fun G68 s68 => ?_
      refine wv_of (pair_load (RowL.own (i := 2) s68 rfl) T_ledger_wide rfl).2.2 ?_
      refine wv_of (pair_load (RowL.own (i := 1) s68 rfl) T_ledger_wide rfl).2.2 ?_
      exact hQ _ _ _ _ _ _ w1 w2 t1 t2 ((((s68.erase 1).erase 1).erase 1).erase 1)
    | succ k ih =>
      intro j a b c d w G' hk hj w1 w2 t1 t2 sp
      obtain ⟨u, hu⟩ : ∃ u, l[j]? = some u := ⟨_, List.getElem?_eq_getElem (by omega)⟩
      have huo := hok u (List.mem_of_getElem? hu)
      have huv := hval u (List.mem_of_getElem? hu)
      have n1 := sumF_next (f := stays r) hu
      have n2 := sumF_next (f := paid r) hu
      have n3 := pensF_next (mine := mine) (f := opens r) hu
      refine hR _ _ _ _ _ _ _ _ _ _ _ ?_
      rw [vbin_lss, wv_some, decide_eq_true (by omega), brB_true]
      have ev : vbin T .add t_int (.int .i64 (j : Int)) (.int .i64 1) = some (.int .i64 ((j + 1 : Nat) : Int)) := by
        rw [vbin_add, i64_in (by omega) (by omega)]
        rfl
      have wmono : ∀ {x y : Int}, Wd (n + j) x y → Wd (n + (j + 1)) x y := fun h => ⟨by have := h.u1; omega, by have := h.u2; omega, by have := h.l1; omega, by have := h.l2; omega⟩
      intro J62
      obtain ⟨p, e1, e2⟩ := upd_at (hl.ch' sp.ch) hu
      refine wv_of e1 ?_
      refine wv_of e2 ?_
      refine newU sp huo fun i25 G27 s27 => ?_
      intro J58
      have look : ∀ {G2 : Heap}, Ch [] G [] G2 → vlookup T G2 t_map_int64_int (.map mid) (.int .i64 u.id) false = some (.int .i64 (remS u.id r)) := fun hc => by
        rw [rem_look (ch_own hc hm), hes]
        congr 2
        unfold optR
        split
        · rename_i h; rw [h]; rfl
        · rfl
      have skip : ∀ G33, Sp [] G [RowL i25 u.av, OwnL 35 w ((pensF mine (opens r) (l.take j)).map PenM.av), RowL i7 (pairW 0 0), RowL i5 (pairW 0 0), RowL i3 (pairW c d), RowL i1 (pairW a b)] G33 → stays r u = false → J58 (.bool true) G33 := by
        intro G33 s33 hst
        simp -zeta only [J58, brB_true, J62]
        have hp : paid r u = false := by
          unfold stays at hst; unfold paid
          by_cases hk : u.kind = 1
          · rw [decide_eq_true hk, Bool.true_and] at hst ⊢
            have h3 : remS u.id r = 3 := by simpa using hst
            rw [h3]; rfl
          · rw [decide_eq_false hk]; rfl
        have ho : opens r u = false := by unfold opens; rw [hst]; rfl
        rw [hst] at n1; rw [hp] at n2; rw [ho] at n3
        refine wv_of ev (ih (j + 1) a b c d w G33 (by omega) (by omega) (wmono w1) (wmono w2) (by rw [t1, n1]; simp) (by rw [t2, n2]; simp) ?_)
        rw [n3]
        simpa using s33.erase 0
      have take : ∀ G33, Sp [] G [RowL i25 u.av, OwnL 35 w ((pensF mine (opens r) (l.take j)).map PenM.av), RowL i7 (pairW 0 0), RowL i5 (pairW 0 0), RowL i3 (pairW c d), RowL i1 (pairW a b)] G33 → u.kind = 1 → ¬ remS u.id r = 3 → J58 (.bool false) G33 := by
        intro G33 s33 hk h3
        simp -zeta only [J58, brB_false]
        have hst : stays r u = true := by simp [stays, hk, h3]
        rw [hst] at n1
        have ham : amt u.amount := by
          have := (valid_spec huv).2.2
          constructor <;> omega
        refine wv_of (pair_load (RowL.own (i := 5) s33 rfl) T_ledger_wide rfl).2.2 ?_
        refine wv_of (upd_load (i := 0) s33 rfl huo).2.2.1 ?_
        refine ledger_wide_minus.use w1 (by omega) ham fun a' b' G38 c38 wd ht => ?_
        have s38 := s33.tmp c38
        refine wide_store (i := 5) s38 rfl fun G39 s39 => ?_
        obtain ⟨q0, q1, q2, q3, q4, q5⟩ := upd_load (i := 0) s39 rfl huo
        refine wv_of q1 ?_
        refine wv_of (look s39.ch) ?_
        have ht1 : totW a' b' = totW u1 l1 - sumF (stays r) (l.take (j + 1)) := by rw [ht, t1, n1]; simp; omega
        rw [vbin_eql, wv_some, brB_dec]
        refine ⟨fun h2 => ?_, fun h2 => ?_⟩
        · have hp : paid r u = true := by simp [paid, hk, h2]
          have ho : opens r u = false := by simp [opens, h2]
          rw [hp] at n2; rw [ho] at n3
          refine wv_of (pair_load (RowL.own (i := 4) s39 rfl) T_ledger_wide rfl).2.2 ?_
          refine wv_of q2 ?_
          refine ledger_wide_plus.use w2 (by omega) ham fun c' d' G46 c46 wd2 ht2 => ?_
          have s46 := s39.tmp c46
          refine wide_store (i := 4) s46 rfl fun G47 s47 => ?_
          simp -zeta only [J62]
          refine wv_of ev (ih (j + 1) a' b' c' d' w G47 (by omega) (by omega) wd wd2 ht1 (by rw [ht2, t2, n2]; simp; omega) ?_)
          rw [n3]
          simpa using s47.erase 0
        · have hp : paid r u = false := by simp [paid, h2]
          have ho : opens r u = true := by simp [opens, hst, h2]
          rw [hp] at n2; rw [ho] at n3
          refine wv_of q1 ?_
          refine wv_of q2 ?_
          refine wv_of q3 ?_
          refine wv_of (build_pen (p := pend mine u) (pend_ok huo)) ?_
          have hal := pensF_len mine (opens r) (l.take j)
          rw [List.length_take] at hal
          have hb : ti_api_Pending.bytes = 56 := rfl
          refine growV (T := T) (ts := t_sl_api_Pending) (e := t_api_Pending) (si := ti_sl_api_Pending) (ie := ti_api_Pending) (i := 1) (c := (pend mine u).av) T_sl_api_Pending rfl T_api_Pending rfl (by decide) s39 rfl (PenM.sz (pend_ok huo)) (PenM.okv _) (by decide) ?_ fun w' G55 s55 => ?_
          · rw [hb, List.length_map]; omega
          simp -zeta only [J62]
          refine wv_of ev (ih (j + 1) a' b' c d w' G55 (by omega) (by omega) wd (wmono w2) ht1 (by rw [t2, n2]; simp) ?_)
          rw [n3]
          have s : Sp [] G [OwnL 35 w' ((pensF mine (opens r) (l.take j)).map PenM.av ++ [(pend mine u).av]), RowL i7 (pairW 0 0), RowL i5 (pairW 0 0), RowL i3 (pairW c d), RowL i1 (pairW a' b')] G55 := s55.erase 0
          simpa using s
      obtain ⟨q0, q1, q2, q3, q4, q5⟩ := upd_load (i := 0) s27 rfl huo
      refine wv_of q0 ?_
      rw [vbin_neq, wv_some]
      by_cases hk1 : u.kind = 1
      · rw [decide_eq_true hk1, Bool.not_true, brB_false]
        refine wv_of q1 ?_
        refine wv_of (look s27.ch) ?_
        rw [vbin_eql, wv_some]
        by_cases h3 : remS u.id r = 3
        · rw [decide_eq_true h3]
          exact skip _ s27 (by simp [stays, h3])
        · rw [decide_eq_false h3]
          exact take _ s27 hk1 h3
      · rw [decide_eq_false hk1, Bool.not_false, brB_true]
        exact skip _ s27 (by simp [stays, hk1])
  exact loop l.length 0 u1 l1 u2 l2 .nilSlice _ rfl (by omega) hw1 hw2 (by simp [sumF]) (by simp [sumF]) (s7.nilL 35)

end

end Go.Esc.M

/- Own work. Chapter 13: are all valid; the document's Open. -/
set_option linter.unusedSimpArgs false
set_option linter.unusedVariables false
set_option maxRecDepth 20000
namespace Go.Esc.M
open Go Go.Esc

def allV (l : List UpdM) : Bool := l.all validU
theorem allV_take {l : List UpdM} {j : Nat} {u : UpdM} (hu : l[j]? = some u) (h : ∀ x ∈ l.take j, validU x = true) (hv : validU u = true) : ∀ x ∈ l.take (j + 1), validU x = true := by
  intro x hx
  rw [List.take_add_one, hu] at hx
  rcases List.mem_append.1 hx with hx | hx
  · exact h x hx
  · have : x = u := by simpa using hx
    rw [this]; exact hv
theorem allV_no {l : List UpdM} {j : Nat} {u : UpdM} (hu : l[j]? = some u) (hv : validU u = false) : allV l = false := by
  refine Bool.eq_false_iff.2 fun h => ?_
  have := List.all_eq_true.1 h u (List.mem_of_getElem? hu)
  rw [hv] at this
  cases this

section
variable {F0 : List AId} {G0 G : Heap} {ps : List LP} {Q : AVal → Heap → Prop}

theorem ledger_invalid.use {u : UpdM} (h : u.ok) (hQ : ∀ G', Ch [] G [] G' → Q (.bool (!validU u)) G') : ACalls P ledger_invalid.n [u.av] G Q := by
  refine ledger_invalid.sound ?_
  unfold ledger_invalid.S
  intro i1 f1
  have s1 := (Sp.nil G).row f1 u.av
  refine wv_of (upd_load (i := 0) s1 rfl h).2.2.2.2.2 ?_
  refine update_Valid.use h fun G5 c5 => ?_
  have s5 := s1.tmp c5
  rw [vun_not, wv_some]
  exact hQ _ s5.ch
def invF : AVal := .func (.func ledger_invalid.n) [] []

theorem contains.use {v : AVal} {l : List UpdM} (hl : IsSl 36 G v (l.map UpdM.av)) (hok : ∀ u ∈ l, u.ok) (hlen : l.length ≤ 2000000000000) (hQ : ∀ G', Ch [] G [] G' → Q (.bool (!allV l)) G') : ACalls P slices_ContainsFunc_escrow_api_Update_escrow_api_Update.n [v, invF] G Q := by
  refine slices_ContainsFunc_escrow_api_Update_escrow_api_Update.sound ?_
  unfold slices_ContainsFunc_escrow_api_Update_escrow_api_Update.S
  refine slices_IndexFunc_escrow_api_Update_escrow_api_Update.sound ?_
  unfold slices_IndexFunc_escrow_api_Update_escrow_api_Update.S
  refine wv_of (upd_len hl) ?_
  intro R hR
  have loop : ∀ (m j : Nat) (G' : Heap), l.length - j = m → j ≤ l.length → (∀ x ∈ l.take j, validU x = true) → Ch [] G [] G' → R [v, invF, .int .i64 (l.length : Int), .int .i64 (j : Int)] G' := by
    intro m
    induction m with
    | zero =>
      intro j G' hm hj h0 hc
      refine hR _ _ _ _ _ ?_
      rw [vbin_lss, wv_some, decide_eq_false (by omega), brB_false]
      rw [List.take_of_length_le (by omega)] at h0
      have : allV l = true := List.all_eq_true.2 h0
      rw [this] at hQ
      refine wv_of (v := .bool false) rfl ?_
      exact hQ _ hc
    | succ m ih =>
      intro j G' hm hj h0 hc
      obtain ⟨u, hu⟩ : ∃ u, l[j]? = some u := ⟨_, List.getElem?_eq_getElem (by omega)⟩
      have huo := hok u (List.mem_of_getElem? hu)
      refine hR _ _ _ _ _ ?_
      rw [vbin_lss, wv_some, decide_eq_true (by omega), brB_true]
      obtain ⟨a, e1, e2⟩ := upd_at (hl.ch' hc) hu
      refine wv_of e1 ?_
      refine wv_of e2 ?_
      refine ledger_invalid.use huo fun G12 c12 => ?_
      have c12 : Ch [] G [] G12 := hc.trans c12
      cases hv : validU u with
      | true =>
        rw [Bool.not_true, brB_false, vbin_add, i64_in (by omega) (by omega), wv_some]
        exact ih (j + 1) G12 (by omega) (by omega) (allV_take hu h0 hv) c12
      | false =>
        rw [Bool.not_false, brB_true]
        rw [allV_no hu hv] at hQ
        refine wv_of (v := .bool true) (by rw [vbin_geq, decide_eq_true (by omega)]) ?_
        exact hQ _ c12
  exact loop l.length 0 G rfl (by omega) (by simp) (Ch.refl _ _)

end

end Go.Esc.M

/- Own work. Chapter 13: the document's Open. -/
set_option linter.unusedSimpArgs false
set_option linter.unusedVariables false
set_option maxRecDepth 20000
namespace Go.Esc.M
open Go Go.Esc

section
variable {F0 : List AId} {G0 G : Heap} {ps : List LP} {Q : AVal → Heap → Prop}

end

end Go.Esc.M

/- Own work. Chapter 13: the document's placed. -/
set_option linter.unusedSimpArgs false
set_option linter.unusedVariables false
set_option maxRecDepth 20000
namespace Go.Esc.M
open Go Go.Esc

section
variable {F0 : List AId} {G0 G : Heap} {ps : List LP} {Q : AVal → Heap → Prop}

end

end Go.Esc.M

/- Own work. Chapter 13: the document's side: plain. -/
set_option linter.unusedSimpArgs false
set_option linter.unusedVariables false
set_option maxRecDepth 20000
namespace Go.Esc.M
open Go Go.Esc

theorem sortP_len (l : List PenM) : (sortP l).length = l.length := (sort_st l).1.length
theorem sortP_ok {l : List PenM} (h : ∀ p ∈ l, p.ok) : ∀ p ∈ sortP l, p.ok := fun p hp => h p ((sort_st l).1.mem.1 hp)
theorem sumF_bound {f : UpdM → Bool} {l : List UpdM} (hv : ∀ u ∈ l, f u = true → amt u.amount) : 0 ≤ sumF f l ∧ sumF f l ≤ (l.length : Int) * 1152921504606846976 := by
  unfold sumF
  have h1 := sum_bound (A := (l.filter f).map (·.amount)) (fun a ha => by
    obtain ⟨u, hu, rfl⟩ := List.mem_map.1 ha
    obtain ⟨h1, h2⟩ := List.mem_filter.1 hu
    exact hv u h1 h2)
  have h2 := List.length_filter_le f l
  rw [List.length_map] at h1
  omega

end Go.Esc.M

/- Own work. Chapter 13: the document's side. -/
set_option linter.unusedSimpArgs false
set_option linter.unusedVariables false
set_option maxRecDepth 20000
namespace Go.Esc.M
open Go Go.Esc

section
variable {F0 : List AId} {G0 G : Heap} {ps : List LP} {Q : AVal → Heap → Prop}

end

end Go.Esc.M
