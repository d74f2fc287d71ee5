/- Own work. Chapter 3: CursorBack, CursorCut. -/
import Derived.Test.YtnndkeffaabgjaaLCz
set_option linter.unusedSimpArgs false
set_option linter.unusedVariables false
namespace Go.Esc.M
open Go Go.Esc

/-- The bytes of values, one behind the other, and how a writer stands behind them. -/
def wires (l : List ValM) : List UInt8 := l.flatMap ValM.wire
def layAll (l : List ValM) : List UInt8 × Int := l.foldl layV ([], 0)

theorem layAll_ok : ∀ {l : List ValM}, (∀ x ∈ l, ¬ x.long) → ∀ b, l.foldl layV (b, 0) = (b ++ wires l, 0)
  | [], _, b => by simp [wires]
  | x :: l, h, b => by
    rw [List.foldl_cons, layV_ok (h x (by simp)), layAll_ok (fun y hy => h y (by simp [hy]))]
    simp [wires]

theorem length_layAll {l : List ValM} {ms : List Nat} (h : All2 ValM.ok l ms) (st : List UInt8 × Int) : (l.foldl layV st).1.length ≤ st.1.length + l.length * 70002 + ms.sum := by
  induction l generalizing ms st with
  | nil => simp
  | cons x l ih =>
    cases ms with
    | nil => exact h.elim
    | cons m ms =>
      have h1 := length_layV st h.1
      have h2 := ih h.2 (layV st x)
      rw [List.foldl_cons, List.length_cons, List.sum_cons]
      omega

theorem take_succ {α : Type} {l : List α} {j : Nat} {x : α} (h : l[j]? = some x) : l.take (j + 1) = l.take j ++ [x] := by
  rw [List.take_add_one, h]; rfl
theorem drop_cons {α : Type} {l : List α} {j : Nat} {x : α} (h : l[j]? = some x) : l.drop j = x :: l.drop (j + 1) := by
  obtain ⟨hl, rfl⟩ := List.getElem?_eq_some_iff.1 h
  exact List.drop_eq_getElem_cons hl

set_option maxRecDepth 20000 in
theorem law_CursorBack {R : Nat} {G : Heap} {l b : AVal} {ml mb : Nat} (hl : wt T G R 6 t_sl_escrowlaw03_Val l ml) (hb : wt T G R 6 t_string b mb) (hm : ml + mb ≤ 1048576) :
    ACalls P escrowlaw03_CursorBack.n [l, b] G fun v _ => v = .bool true := by
  obtain ⟨xs, ms, hro, hall, hms, _, _⟩ := wt_ro ValM.av ValM.ok T_sl_escrowlaw03_Val rfl T_escrowlaw03_Val (fun c m h => wt_Val h) hl
  obtain ⟨b, rfl, _, _, hbm⟩ := wt_str T_string rfl hb
  have hlen : xs.length ≤ 1048576 := by
    have := hall.length fun c m h => Nat.le_trans (Nat.le_add_left 1 _) h.m
    omega
  refine escrowlaw03_CursorBack.sound ?_
  unfold escrowlaw03_CursorBack.S
  refine escrowlaw03_head.use fun G2 c2 => ?_
  simp -zeta only [vun_not, wv_some, Bool.not_true, brB_false]
  have s2 : Sp [] G [] G2 := (Sp.nil G).tmp c2
  refine cursor_New.use fun iw G5 w5 c5 => ?_
  have s5 := s2.new (p := WrL iw [] 0) w5 c5
  rw [vbin_ptrnil T_pt_cursor_Writer rfl, wv_some, brB_false]
  intro R7 hR7
  have hlenT : ∀ G (l : List UInt8), vlen T G t_string (.str l) = some (.int .i64 l.length) := fun _ _ => rfl
  have loop : ∀ (n j : Nat) (G' : Heap), xs.length - j = n → j ≤ xs.length → Sp [] G [WrL iw (layAll (xs.take j)).1 (layAll (xs.take j)).2] G' → ∀ br : Bool, (br = false → ∀ x ∈ xs.take j, ¬ x.long) → (br = true → (layAll (xs.take j)).2 = 3) →
      R7 [l, .str b, .ptr iw [] 0, .bool br, .int .i64 j] G' := by
    intro n
    induction n with
    | zero =>
      intro j G' hn hj hs br h0 h1
      have : j = xs.length := by omega
      subst this
      rw [List.take_of_length_le (Nat.le_refl _)] at hs h0 h1
      refine hR7 _ _ _ _ _ _ ?_
      rw [(hro.mono hs.ro).is.len (i := ti_sl_escrowlaw03_Val) T_sl_escrowlaw03_Val rfl, List.length_map]
      simp -zeta only [wv_some, vbin_lss, brB_dec]
      refine ⟨fun h => absurd h (by omega), fun _ => ?_⟩
      obtain ⟨F, hw⟩ := hs.get (i := 0) rfl
      refine cursor_Writer_Out.use hw ?_
      simp -zeta only [vext0, vext1, wv_some]
      cases br with
      | true =>
        have h3 := h1 rfl
        rw [h3]
        simp -zeta only [brB_true]
        have : ((if (3 : Int) = 0 then (layAll xs).1 else []) : List UInt8) = [] := rfl
        rw [this]
        simp -zeta only [vbin_seql, wv_some, decide_true, brB_true, vbin_eql]
        refine cursor_Writer_Len.use hw ?_
        rw [h3]
        rfl
      | false =>
        have hno := h0 rfl
        have hst : layAll xs = (wires xs, 0) := by simpa [layAll] using layAll_ok hno []
        have hwl : (wires xs).length ≤ 1048576 * 70002 + 1048576 := by
          have h := length_layAll hall ([], 0)
          change (layAll xs).1.length ≤ _ at h
          rw [hst] at h
          simp only [List.length_nil] at h
          omega
        rw [hst] at hw hs
        rw [hst]
        simp -zeta only [brB_false, if_true]
        rw [vbin_sadd _ _ (by omega), wv_some]
        refine cursor_Open.use fun ir G9 r9 c9 => ?_
        have s9 := hs.new (p := RdL ir (wires xs ++ b, 0)) ⟨r9, rfl⟩ c9
        obtain ⟨F9, hw9⟩ := s9.get (i := 1) rfl
        intro J93
        have h93 : J93 (.bool false) G9 := by
          simp -zeta only [J93, brB_false]
          intro R53 hR53
          have lp : ∀ (n j : Nat) (G' : Heap), xs.length - j = n → j ≤ xs.length → Sp [] G [RdL ir (wires (xs.drop j) ++ b, 0)] G' → R53 [l, .str b, .ptr ir [] 0, .int .i64 j] G' := by
            intro n
            induction n with
            | zero =>
              intro j G' hn hj hs
              have : j = xs.length := by omega
              subst this
              refine hR53 _ _ _ _ _ ?_
              rw [(hro.mono hs.ro).is.len (i := ti_sl_escrowlaw03_Val) T_sl_escrowlaw03_Val rfl, List.length_map]
              simp -zeta only [wv_some, vbin_lss, brB_dec]
              refine ⟨fun h => absurd h (by omega), fun _ => ?_⟩
              obtain ⟨F, hr, _⟩ := hs.get (i := 0) rfl
              have e : wires (xs.drop xs.length) ++ b = b := by simp [wires]
              rw [e] at hr
              refine cursor_Reader_Rest.use hr ?_
              simp -zeta only [vbin_sneq, vbin_seql, wv_some, decide_true, Bool.not_true, brB_false, brB_dec]
              refine ⟨fun hb0 => ?_, fun hb0 => ?_⟩
              · refine cursor_Reader_Done.use hr ?_
                have d : dones (b, 0) = 0 := by simp [dones, hb0]
                rw [d]
                rfl
              · refine cursor_Reader_Done.use hr ?_
                have d : dones (b, 0) = 4 := by simp [dones, hb0]
                rw [d, hlenT]
                simp -zeta only [vbin_eql, wv_some, decide_true, brB_true]
                refine cursor_Reader_Raw.use hr fun G10 r10 c10 => ?_
                have e10 : raws (b, 0) (b.length : Int) = (b, ([], 0)) := by
                  have := raws_ok (b := b) (rest := [])
                  rwa [List.append_nil] at this
                rw [e10] at r10 ⊢
                simp -zeta only [vbin_seql, wv_some, decide_true, brB_true]
                refine cursor_Reader_Done.use r10 ?_
                rfl
            | succ n ih =>
              intro j G' hn hj hs
              have hjl : j < xs.length := by omega
              obtain ⟨x, hx⟩ : ∃ x, xs[j]? = some x := ⟨_, List.getElem?_eq_getElem hjl⟩
              obtain ⟨m, hxm, hmle⟩ := hall.get hx
              have hh32 : szs (x.h.map u8v) = 32 := by rw [szs_uni (n := 1) (uni_u8 x.h)]; simp [hxm.h]
              have hjx : (xs.map ValM.av)[j]? = some x.av := by rw [List.getElem?_map, hx]; rfl
              obtain ⟨a, e1, e2⟩ := hro.elem (k := .i64) T_sl_escrowlaw03_Val rfl T_escrowlaw03_Val hjx rfl
              refine hR53 _ _ _ _ _ ?_
              rw [(hro.mono hs.ro).is.len (i := ti_sl_escrowlaw03_Val) T_sl_escrowlaw03_Val rfl, List.length_map]
              simp -zeta only [wv_some, vbin_lss, brB_dec]
              refine ⟨fun _ => ?_, fun h => absurd (by omega) h⟩
              rw [e1, wv_some, e2 _ hs.ro, wv_some]
              have ed : wires (xs.drop j) ++ b = x.wire ++ (wires (xs.drop (j + 1)) ++ b) := by rw [drop_cons hx]; simp [wires]
              rw [ed] at hs
              refine hs.call (i := 0) rfl (RdL ir (wires (xs.drop (j + 1)) ++ b, 0)) fun F h k => ?_
              obtain ⟨h, rfl⟩ := h
              refine escrowlaw03_again.use hxm (by omega) (hno x (List.mem_of_getElem? hx)) h fun G10 r10 c10 => ?_
              have s10 := k _ _ ⟨r10, rfl⟩ c10
              simp -zeta only [vun_not, wv_some, Bool.not_true, brB_false]
              refine cursor_Reader_Err.use r10 ?_
              simp -zeta only [vbin_neq, wv_some, decide_true, Bool.not_true, brB_false, vbin_add]
              rw [i64_in (by omega) (by omega)]
              exact ih (j + 1) _ (by omega) (by omega) s10
          exact lp _ 0 G9 rfl (by omega) (s9.erase 1)
        simp -zeta only [vbin_neq, wv_some, decide_true, Bool.not_true, brB_false]
        rw [vbin_ptrnil T_pt_cursor_Reader rfl, wv_some, brB_false]
        refine cursor_Writer_Len.use (st := (wires xs, 0)) hw9 ?_
        rw [hlenT]
        simp -zeta only [if_true, vbin_neq, wv_some, decide_true, Bool.not_true]
        exact h93
    | succ n ih =>
      intro j G' hn hj hs br h0 h1
      have hjl : j < xs.length := by omega
      obtain ⟨x, hx⟩ : ∃ x, xs[j]? = some x := ⟨_, List.getElem?_eq_getElem hjl⟩
      obtain ⟨m, hxm, hmle⟩ := hall.get hx
      have hh32 : szs (x.h.map u8v) = 32 := by rw [szs_uni (n := 1) (uni_u8 x.h)]; simp [hxm.h]
      have hjx : (xs.map ValM.av)[j]? = some x.av := by rw [List.getElem?_map, hx]; rfl
      obtain ⟨a, e1, e2⟩ := hro.elem (k := .i64) T_sl_escrowlaw03_Val rfl T_escrowlaw03_Val hjx rfl
      have hts : layAll (xs.take (j + 1)) = layV (layAll (xs.take j)) x := by rw [take_succ hx]; simp [layAll]
      refine hR7 _ _ _ _ _ _ ?_
      rw [(hro.mono hs.ro).is.len (i := ti_sl_escrowlaw03_Val) T_sl_escrowlaw03_Val rfl, List.length_map]
      simp -zeta only [wv_some, vbin_lss, brB_dec]
      refine ⟨fun _ => ?_, fun h => absurd (by omega) h⟩
      rw [e1, wv_some, e2 _ hs.ro, wv_some]
      have hbound : (layAll (xs.take j)).1.length ≤ 1048576 * 70002 + 1048576 := by
        have h := length_layAll (hall.take j) ([], 0)
        have h2 := sum_take_le ms j
        simp only [List.length_nil, List.length_take] at h
        change (layAll (xs.take j)).1.length ≤ _ at h
        have : min j xs.length * 70002 ≤ 1048576 * 70002 := Nat.mul_le_mul_right _ (by omega)
        omega
      refine hs.call (i := 0) rfl (WrL iw (layAll (xs.take (j + 1))).1 (layAll (xs.take (j + 1))).2) fun F h k => ?_
      refine escrowlaw03_lays.use (st := layAll (xs.take j)) (hxm.le (m' := 1048576) (by omega)) (by omega) h (by omega) fun F' G9 w9 c9 => ?_
      rw [← hts] at w9
      have s9 := k _ _ w9 c9
      cases br with
      | true =>
        simp -zeta only [brB_true, vbin_add, wv_some]
        rw [i64_in (by omega) (by omega)]
        refine ih (j + 1) G9 (by omega) (by omega) s9 true (fun h => by cases h) fun _ => ?_
        rw [hts, layV_broken (by rw [h1 rfl]; decide)]
        exact h1 rfl
      | false =>
        simp -zeta only [brB_false]
        rw [wv_some, e2 _ s9.ro, wv_some]
        refine escrowlaw03_long.use hxm (by omega) fun G10 c10 => ?_
        simp -zeta only [vbin_add, wv_some]
        rw [i64_in (by omega) (by omega)]
        refine ih (j + 1) G10 (by omega) (by omega) (s9.tmp c10) _ (fun hd y hy => ?_) fun hd => ?_
        · rw [take_succ hx] at hy
          simp only [List.mem_append, List.mem_singleton] at hy
          rcases hy with hy | rfl
          · exact h0 rfl y hy
          · simpa using hd
        · have hb0 : layAll (xs.take j) = (wires (xs.take j), 0) := by simpa [layAll] using layAll_ok (h0 rfl) []
          rw [hts, hb0, layV_long (by simpa using hd)]
  exact loop _ 0 G5 rfl (by omega) (by simpa [layAll] using s5) false (by simp) (by simp)

end Go.Esc.M
