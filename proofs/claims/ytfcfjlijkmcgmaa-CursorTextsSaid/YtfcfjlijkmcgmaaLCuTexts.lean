/- Own work. Chapter 3: CursorTexts. -/
import Derived.Test.YtfcfjlijkmcgmaaLCs
set_option linter.unusedSimpArgs false
set_option linter.unusedVariables false
namespace Go.Esc.M
open Go Go.Esc

theorem num_be2 {n : Nat} (h : n ≤ 65535) : num (be 2 n) = n := by
  simp only [be, num, numA]
  simp
  omega

/-- A text as it is laid. -/
def wire (s : List UInt8) : List UInt8 := be 2 s.length ++ s
theorem length_wire (s : List UInt8) : (wire s).length = s.length + 2 := by simp [wire, length_be]; omega
theorem wire_take2 (s : List UInt8) : (wire s).take 2 = be 2 s.length := by
  unfold wire
  rw [List.take_left' (length_be _ _)]

theorem texts_two {b : List UInt8} {most : Int} (h : 2 ≤ b.length) : texts (b, 0) most = if most < num (b.take 2) then ([], ([], 3)) else takes (b.drop 2, 0) (num (b.take 2)) := by
  unfold texts
  by_cases hm : most < num (b.take 2)
  · rw [if_pos ⟨rfl, h, hm⟩, if_pos hm]
  · rw [if_neg (fun hh => hm hh.2.2), if_neg hm]
    have : takes (b, 0) 2 = (b.take 2, (b.drop 2, 0)) := by
      unfold takes
      have hl : ¬ ((b.length : Int) < 2) := by omega
      simp [hl]
    rw [this]

theorem texts_short {b : List UInt8} {most : Int} (h : b.length < 2) : texts (b, 0) most = ([], ([], 2)) := by
  unfold texts
  rw [if_neg (fun hh => absurd hh.2.1 (Nat.not_le.2 h))]
  have : takes (b, 0) 2 = ([], ([], 2)) := by
    unfold takes
    have hl : (b.length : Int) < 2 := by omega
    simp [hl]
  rw [this]
  simp [takes]

theorem texts_wire {s more : List UInt8} {most : Int} (h : s.length ≤ 65535) : texts (wire s ++ more, 0) most = if most < s.length then ([], ([], 3)) else (s, (more, 0)) := by
  rw [texts_two (by simp [length_wire]; omega)]
  have h1 : (wire s ++ more).take 2 = be 2 s.length := by
    rw [List.take_append_of_le_length (by rw [length_wire]; omega), wire_take2]
  rw [h1, num_be2 h]
  by_cases hm : most < s.length
  · rw [if_pos hm, if_pos hm]
  · rw [if_neg hm, if_neg hm]
    have h2 : (wire s ++ more).drop 2 = s ++ more := by
      unfold wire
      rw [List.append_assoc, List.drop_left' (length_be _ _)]
    rw [h2]
    unfold takes
    have hl : ¬ (((s ++ more).length : Int) < s.length) := by rw [List.length_append]; omega
    simp only [if_true]
    rw [if_neg hl]
    simp

theorem escrowlaw03_cuts.use {s : List UInt8} {most want : Int} {G : Heap} {Q : AVal → Heap → Prop} (hs : s.length ≤ 65535) (h3 : most < s.length → want = 3) (h2 : ¬ most < s.length → want = 2) (h : ∀ G', Ch [] G [] G' → Q (.bool true) G') :
    ACalls P escrowlaw03_cuts.n [.str (wire s), .int .i64 most, .int .i64 want] G Q := by
  refine escrowlaw03_cuts.sound ?_
  unfold escrowlaw03_cuts.S
  have hlen : ∀ G, vlen T G t_string (.str (wire s)) = some (.int .i64 (wire s).length) := fun _ => rfl
  have hl := length_wire s
  rw [hlen]
  simp -zeta only [wv_some, vbin_sub]
  rw [i64_in (by omega) (by omega), str_take (by omega) (by omega), wv_some]
  refine cursor_Open.use fun i1 G1 r1 c1 => ?_
  rw [str_take (by omega) (by omega), wv_some]
  refine cursor_Open.use fun i2 G2 r2 c2 => ?_
  have r1' : Rd i1 ((wire s).take ((wire s).length - 1), 0) G2 := by
    have := r1.ch c2 (by simp)
    rwa [show (((wire s).length : Int) - 1).toNat = (wire s).length - 1 by omega] at this
  have hne : i2 ≠ i1 := fun e => by
    have := c2.apart (E := [i1]) (by simp [r1.row]) (by simp) i1 (by simp)
    simp [e] at this
  intro J32
  have h32 : J32 (.bool false) G2 := by
    simp -zeta only [J32, brB_false, hlen, wv_some, vbin_eql, brB_dec]
    intro J31
    have h31 : ∀ w : Int, w = (texts ((wire s).take ((wire s).length - 1), 0) most).2.2 → (texts ((wire s).take ((wire s).length - 1), 0) most).1 = [] → J31 (.int .i64 w) G2 := by
      intro w hw he
      simp -zeta only [J31]
      refine cursor_Reader_Text.use r1' fun G3 r3 c3 => ?_
      rw [he]
      simp -zeta only [vbin_seql, wv_some, decide_true, brB_true]
      refine cursor_Reader_Err.use r3 ?_
      rw [← hw]
      simp -zeta only [vbin_eql, wv_some, decide_true, brB_true]
      have r2' := r2.ch c3 (by simpa using hne)
      refine cursor_Reader_Text.use r2' fun G4 r4 c4 => ?_
      rw [texts_short (by simp; omega)] at r4 ⊢
      simp -zeta only [vbin_seql, wv_some, decide_true, brB_true]
      refine cursor_Reader_Err.use r4 ?_
      simp -zeta only [vbin_eql, wv_some, decide_true]
      refine h G4 ?_
      have k2 : Ch [] G [i2, i1] G2 := c1.trans (c2.sub (E := [i1]) (E' := [i2, i1]) (by simp) (by simp))
      have k3 : Ch [i2, i1] G2 [i2, i1] G3 := c3.sub (by simp) (fun j hj => .inr hj)
      have k4 : Ch [i2, i1] G3 [i2, i1] G4 := c4.sub (by simp) (fun j hj => .inr hj)
      exact ((k2.trans k3).trans k4).drop
    refine ⟨fun h0 => ?_, fun h0 => ?_⟩
    · have hs0 : (wire s).length - 1 < 2 := by omega
      refine h31 2 ?_ ?_ <;> rw [texts_short (by simp; omega)]
    · have hs1 : 1 ≤ s.length := by omega
      have htw : texts ((wire s).take ((wire s).length - 1), 0) most = if most < s.length then ([], ([], 3)) else ([], ([], 2)) := by
        rw [texts_two (by simp; omega), List.take_take, Nat.min_eq_left (by omega), wire_take2, num_be2 hs]
        by_cases hm : most < s.length
        · rw [if_pos hm, if_pos hm]
        · rw [if_neg hm, if_neg hm]
          unfold takes
          have hlt : ((((wire s).take ((wire s).length - 1)).drop 2).length : Int) < s.length := by
            simp
            omega
          simp only [if_true]
          rw [if_pos hlt]
      by_cases hm : most < s.length
      · refine h31 want ?_ ?_ <;> rw [htw, if_pos hm]
        exact h3 hm
      · refine h31 want ?_ ?_ <;> rw [htw, if_neg hm]
        exact h2 hm
  rw [vbin_ptrnil T_pt_cursor_Reader rfl, wv_some, brB_false, vbin_ptrnil T_pt_cursor_Reader rfl, wv_some]
  exact h32

theorem takes_broken {st : List UInt8 × Int} {n : Int} (h : st.2 ≠ 0) : takes st n = ([], st) := by simp [takes, h]
theorem texts_broken {st : List UInt8 × Int} {n : Int} (h : st.2 ≠ 0) : texts st n = ([], st) := by
  unfold texts
  rw [if_neg (fun hh => h hh.1), takes_broken h, takes_broken h]

theorem laidText_new {s : List UInt8} (h : s.length ≤ 65535) : laidText ([], 0) s = (wire s, 0) := by
  have : ¬ 65535 < s.length := by omega
  simp [laidText, laid, this, wire]

set_option maxRecDepth 20000 in
theorem law_CursorTexts {G : Heap} {s most more : AVal} {ms mm mo : Nat} (hs : wt T G reachBytes 4 t_string s ms) (hm : wt T G reachBytes 4 t_int most mm) (ho : wt T G reachBytes 4 t_string more mo) :
    ACalls P escrowlaw03_CursorTexts.n [s, most, more] G fun v _ => v = .bool true := by
  obtain ⟨s, rfl, hsR, _, _⟩ := wt_str T_string rfl hs
  obtain ⟨most, rfl, hmw, _⟩ := wt_int T_int rfl hm
  obtain ⟨more, rfl, hoR, _, _⟩ := wt_str T_string rfl ho
  have hsR : s.length ≤ 140737488351232 := hsR
  have hoR : more.length ≤ 140737488351232 := hoR
  have hlen : ∀ G (l : List UInt8), vlen T G t_string (.str l) = some (.int .i64 l.length) := fun _ _ => rfl
  refine escrowlaw03_CursorTexts.sound ?_
  unfold escrowlaw03_CursorTexts.S
  refine escrowlaw03_head.use fun G2 _ => ?_
  simp -zeta only [vun_not, wv_some, Bool.not_true, brB_false, hlen, vbin_gtr]
  intro J98
  have h98 : ∀ s : List UInt8, s.length ≤ 65535 → J98 (.str s) G2 := by
    intro s hs
    simp -zeta only [J98]
    refine cursor_New.use fun iw G3 w3 c3 => ?_
    rw [vbin_ptrnil T_pt_cursor_Writer rfl, wv_some, brB_false]
    refine cursor_Writer_Text.use w3 (by simp; omega) fun F4 G4 w4 c4 => ?_
    rw [laidText_new hs] at w4
    refine cursor_Writer_Out.use w4 ?_
    simp -zeta only [vext0, vext1, wv_some, if_true]
    have hwl := length_wire s
    rw [vbin_sadd _ _ (by omega), wv_some]
    refine cursor_Open.use fun ir G5 r5 c5 => ?_
    intro J97
    have h97 : J97 (.bool false) G5 := by
      simp -zeta only [J97, brB_false]
      refine cursor_Reader_Text.use r5 fun G6 r6 c6 => ?_
      rw [texts_wire hs] at r6 ⊢
      simp -zeta only [hlen, wv_some, vbin_gtr]
      by_cases hm : most < s.length
      · rw [if_pos hm] at r6 ⊢
        simp -zeta only [hm, decide_true, brB_true, vbin_seql, wv_some]
        refine cursor_Reader_Err.use r6 ?_
        simp -zeta only [vbin_eql, wv_some, decide_true, brB_true]
        refine cursor_Reader_Rest.use r6 ?_
        simp -zeta only [vbin_seql, wv_some, decide_true, brB_true]
        refine cursor_Reader_U8.use r6 fun G7 r7 c7 => ?_
        rw [takes_broken (by simp)] at r7 ⊢
        have n7 : ((num [] : Nat) : Int) = 0 := rfl
        rw [n7]
        simp -zeta only [vbin_eql, wv_some, decide_true, brB_true]
        refine cursor_Reader_Done.use r7 ?_
        have d7 : dones ([], 3) = 3 := by decide
        rw [d7]
        simp -zeta only [vbin_eql, wv_some, decide_true, brB_true]
        exact escrowlaw03_cuts.use hs (fun _ => rfl) (fun h => absurd hm h) fun _ _ => rfl
      · rw [if_neg hm] at r6 ⊢
        simp -zeta only [hm, decide_false, brB_false]
        intro J96
        have h96 : J96 (.bool false) G6 := by
          simp -zeta only [J96, brB_false, hlen, wv_some, vbin_sub]
          rw [i64_in (by omega) (by omega)]
          refine cursor_Reader_Raw.use r6 fun G7 r7 c7 => ?_
          have e7 : raws (more, 0) (-1 - (more.length : Int)) = ([], ([], 1)) := by
            unfold raws
            rw [if_pos ⟨rfl, by omega⟩]
          rw [e7] at r7 ⊢
          refine cursor_Open.use fun iz G8 z8 c8 => ?_
          have r8 := r7.ch c8 (by simp)
          intro J95
          have hne : iz ≠ ir := fun e => by
            have := c8.apart (E := [ir]) (by simp [r7.row]) (by simp) ir (by simp)
            simp [e] at this
          have h95 : ∀ G, Rd iz (wire s, 0) G → J95 (.bool false) G := by
            intro G9 z9
            simp -zeta only [J95, brB_false, hlen, wv_some]
            refine cursor_Reader_Raw.use z9 fun G10 z10 c10 => ?_
            have e10 : raws (wire s, 0) ((wire s).length : Int) = (wire s, ([], 0)) := by
              unfold raws
              rw [if_neg (fun hh => by omega)]
              simp [takes]
            rw [e10] at z10 ⊢
            simp -zeta only [vbin_seql, wv_some, decide_true, brB_true]
            refine cursor_Reader_Done.use z10 ?_
            have d10 : dones ([], 0) = 0 := by decide
            rw [d10]
            simp -zeta only [vbin_eql, wv_some, decide_true, brB_true]
            refine cursor_Reader_Raw.use z10 fun G11 z11 c11 => ?_
            have e11 : raws ([], 0) 1 = ([], ([], 2)) := by decide
            rw [e11] at z11 ⊢
            simp -zeta only [vbin_seql, wv_some, decide_true, brB_true]
            refine cursor_Reader_Done.use z11 ?_
            have d11 : dones ([], 2) = 2 := by decide
            rw [d11]
            simp -zeta only [vbin_eql, wv_some, decide_true, brB_true]
            exact escrowlaw03_cuts.use hs (fun h => absurd h hm) (fun _ => rfl) fun _ _ => rfl
          rw [vbin_ptrnil T_pt_cursor_Reader rfl, wv_some, brB_false]
          simp -zeta only [vbin_sneq, wv_some, decide_true, Bool.not_true, brB_false]
          refine cursor_Reader_Err.use r8 ?_
          simp -zeta only [vbin_neq, wv_some, decide_true, Bool.not_true, brB_false]
          refine cursor_Reader_Text.use r8 fun G9 r9 c9 => ?_
          rw [texts_broken (by simp)] at r9 ⊢
          simp -zeta only [vbin_sneq, wv_some, decide_true, Bool.not_true, brB_false]
          refine cursor_Reader_Done.use r9 ?_
          have d9 : dones ([], 1) = 1 := by decide
          rw [d9]
          simp -zeta only [vbin_neq, wv_some, decide_true, Bool.not_true]
          exact h95 G9 (z8.ch c9 (by simpa using hne))
        simp -zeta only [vbin_sneq, wv_some, decide_true, Bool.not_true, brB_false]
        refine cursor_Reader_Err.use r6 ?_
        simp -zeta only [vbin_neq, wv_some, decide_true, Bool.not_true, brB_false]
        refine cursor_Reader_Rest.use r6 ?_
        simp -zeta only [vbin_sneq, wv_some, decide_true, Bool.not_true]
        exact h96
    simp -zeta only [vbin_neq, wv_some, decide_true, Bool.not_true, brB_false]
    rw [vbin_ptrnil T_pt_cursor_Reader rfl, wv_some, brB_false]
    simp -zeta only [hlen, wv_some, vbin_add]
    rw [i64_in (by omega) (by omega)]
    simp -zeta only [vbin_neq, wv_some]
    have he : (((wire s).length : Nat) : Int) = (s.length : Int) + 2 := by omega
    rw [he]
    simp -zeta only [decide_true, Bool.not_true]
    exact h97
  rw [brB_dec]
  refine ⟨fun h => ?_, fun h => h98 s (by omega)⟩
  rw [str_take (by omega) (by omega), wv_some]
  exact h98 _ (by simp; omega)

end Go.Esc.M
