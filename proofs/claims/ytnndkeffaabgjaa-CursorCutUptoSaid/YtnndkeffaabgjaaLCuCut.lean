/- Own work. Chapter 3: CursorCut. -/
import Derived.Test.YtnndkeffaabgjaaLCuBack
set_option linter.unusedSimpArgs false
set_option linter.unusedVariables false
namespace Go.Esc.M
open Go Go.Esc

/-- The bytes of the values that can be laid. -/
def ValM.wire' (x : ValM) : List UInt8 := if x.long then [] else x.wire
def wires' (l : List ValM) : List UInt8 := l.flatMap ValM.wire'

theorem wires'_append (a b : List ValM) : wires' (a ++ b) = wires' a ++ wires' b := by simp [wires']
theorem wires'_one (x : ValM) : wires' [x] = x.wire' := by simp [wires']
theorem wires'_take {l : List ValM} {j : Nat} {x : ValM} (h : l[j]? = some x) : wires' (l.take (j + 1)) = wires' (l.take j) ++ x.wire' := by
  rw [take_succ h, wires'_append, wires'_one]
theorem wires'_split (l : List ValM) (j : Nat) : wires' l = wires' (l.take j) ++ wires' (l.drop j) := by
  rw [← wires'_append, List.take_append_drop]

theorem length_wires' {l : List ValM} {ms : List Nat} (h : All2 ValM.ok l ms) : (wires' l).length ≤ l.length * 70002 + ms.sum := by
  induction l generalizing ms with
  | nil => simp [wires']
  | cons x l ih =>
    cases ms with
    | nil => exact h.elim
    | cons m ms =>
      have h2 := ih h.2
      have h1 : x.wire'.length ≤ 70002 + m := by
        unfold ValM.wire'
        split
        · simp
        · rename_i hl
          have := length_layV ([], 0) h.1
          rw [layV_ok hl] at this
          simp at this
          omega
      have : wires' (x :: l) = x.wire' ++ wires' l := by simp [wires']
      rw [this, List.length_append, List.length_cons, List.sum_cons]
      omega

def ends (l : List ValM) (n : Nat) : List AVal := (List.range n).map fun j => .int .i64 ((wires' (l.take (j + 1))).length : Nat)

theorem ends_succ (l : List ValM) (n : Nat) : ends l (n + 1) = ends l n ++ [.int .i64 ((wires' (l.take (n + 1))).length : Nat)] := by
  simp [ends, List.range_succ]

theorem drop_take_app {a b c : List UInt8} {k : Nat} (h : a.length + b.length ≤ k) : ((a ++ b ++ c).take k).drop a.length = b ++ ((a ++ b ++ c).take k).drop (a ++ b).length := by
  have h1 : (a ++ b ++ c).take k = (a ++ b) ++ c.take (k - (a ++ b).length) := by
    rw [List.take_append, List.take_of_length_le (by simpa using h)]
  rw [h1, List.drop_left, List.append_assoc, List.drop_left]

theorem drop_take_pre {a b c : List UInt8} {k : Nat} (h0 : a.length ≤ k) (h : k < a.length + b.length) : ∃ t, b = ((a ++ b ++ c).take k).drop a.length ++ t ∧ (((a ++ b ++ c).take k).drop a.length).length < b.length := by
  have h1 : (a ++ b ++ c).take k = a ++ b.take (k - a.length) := by
    rw [List.append_assoc, List.take_append, List.take_of_length_le h0, List.take_append, show k - a.length - b.length = 0 by omega]
    simp
  rw [h1, List.drop_left]
  exact ⟨b.drop (k - a.length), (List.take_append_drop _ _).symm, by rw [List.length_take]; omega⟩

theorem tmod_nat {q : Int} {L : Nat} (h : 0 ≤ q) : ∃ k : Nat, q.tmod ((L : Int) + 1) = (k : Int) ∧ k ≤ L := by
  have h1 := Int.tmod_nonneg ((L : Int) + 1) h
  have h2 := Int.tmod_lt_of_pos q (b := (L : Int) + 1) (by omega)
  exact ⟨(q.tmod ((L : Int) + 1)).toNat, by omega, by omega⟩

set_option maxRecDepth 20000 in
theorem law_CursorCut {R : Nat} {G : Heap} {l a : AVal} {ml ma : Nat} (hl : wt T G R 6 t_sl_escrowlaw03_Val l ml) (ha : wt T G R 6 t_int a ma) (hm : ml + ma ≤ 1048576) :
    ACalls P escrowlaw03_CursorCut.n [l, a] G fun v _ => v = .bool true := by
  obtain ⟨xs, ms, hro, hall, hms, _, _⟩ := wt_ro ValM.av ValM.ok T_sl_escrowlaw03_Val rfl T_escrowlaw03_Val (fun c m h => wt_Val h) hl
  obtain ⟨a, rfl, haw, _⟩ := wt_int T_int rfl ha
  have hai := i64_wf.1 haw
  have hlen : xs.length ≤ 1048576 := by
    have := hall.length fun c m h => Nat.le_trans (Nat.le_add_left 1 _) h.m
    omega
  have hwl : ∀ j, (wires' (xs.take j)).length ≤ 73404000000 := by
    intro j
    have h := length_wires' (hall.take j)
    have h2 := sum_take_le ms j
    rw [List.length_take] at h
    have : min j xs.length * 70002 ≤ 1048576 * 70002 := Nat.mul_le_mul_right _ (by omega)
    omega
  refine escrowlaw03_CursorCut.sound ?_
  unfold escrowlaw03_CursorCut.S
  refine escrowlaw03_head.use fun G2 c2 => ?_
  rw [vun_not, wv_some, Bool.not_true, brB_false]
  have s2 : Sp [] G [] G2 := (Sp.nil G).tmp c2
  refine cursor_New.use fun iw G5 w5 c5 => ?_
  have s5 := s2.new (p := WrL iw [] 0) w5 c5
  rw [vbin_ptrnil T_pt_cursor_Writer rfl, wv_some, brB_false]
  intro R7 hR7
  have hlenT : ∀ G (l : List UInt8), vlen T G t_string (.str l) = some (.int .i64 l.length) := fun _ _ => rfl
  have loop : ∀ (n j : Nat) (e : AVal) (G' : Heap), xs.length - j = n → j ≤ xs.length → Sp [] G [OwnL 1 e (ends xs j), WrL iw (wires' (xs.take j)) 0] G' →
      R7 [l, .int .i64 a, .ptr iw [] 0, e, .int .i64 j] G' := by
    intro n
    induction n with
    | zero =>
      intro j e G' hn hj hs
      have : j = xs.length := by omega
      subst this
      refine hR7 _ _ _ _ _ _ ?_
      rw [(hro.mono hs.ro).is.len (i := ti_sl_escrowlaw03_Val) T_sl_escrowlaw03_Val rfl, List.length_map, wv_some, vbin_lss, wv_some, brB_dec]
      refine ⟨fun h => absurd h (by omega), fun _ => ?_⟩
      obtain ⟨F, hw⟩ := hs.get (i := 1) rfl
      have hall' := hwl xs.length
      rw [List.take_of_length_le (Nat.le_refl _)] at hw hall'
      refine cursor_Writer_Out.use (st := (wires' xs, 0)) hw ?_
      rw [vext0, wv_some, vext1, wv_some, vbin_neq, wv_some, brB_ndec]
      refine ⟨fun h => absurd rfl h, fun _ => ?_⟩
      rw [if_pos rfl, vbin_lss, wv_some]
      intro J122
      have h122 : ∀ q : Int, 0 ≤ q → q ≤ 9223372036854775807 → J122 (.int .i64 q) G' := by
        intro q hq0 hq1
        show wv (vlen T G' t_string (.str (wires' xs))) _
        rw [hlenT, wv_some, vbin_add, wv_some, i64_in (by omega) (by omega), vbin_rem _ _ _ _ _ (by omega), wv_some]
        have hL := tmod_nat (L := (wires' xs).length) hq0
        obtain ⟨k, hk, hkl⟩ := hL
        rw [hk, str_take (by omega) (by simp only; omega), wv_some, Int.toNat_natCast]
        refine cursor_Open.use fun ir G9 r9 c9 => ?_
        have s9 := hs.new (p := RdL ir ((wires' xs).take k, 0)) ⟨r9, rfl⟩ c9
        rw [vbin_ptrnil T_pt_cursor_Reader rfl, wv_some, brB_false]
        intro R66 hR66
        have lp : ∀ (n j : Nat) (G' : Heap) (sh : Bool), xs.length - j = n → j ≤ xs.length → (sh = false → (wires' (xs.take j)).length ≤ k) →
            Sp [] G [RdL ir (if sh then ([], 2) else (((wires' xs).take k).drop (wires' (xs.take j)).length, 0)), OwnL 1 e (ends xs xs.length)] G' → R66 [l, e, .int .i64 k, .ptr ir [] 0, .bool sh, .int .i64 j] G' := by
          intro n
          induction n with
          | zero =>
            intro j G' sh hn hj hsh hs
            have : j = xs.length := by omega
            subst this
            refine hR66 _ _ _ _ _ _ _ ?_
            rw [(hro.mono hs.ro).is.len (i := ti_sl_escrowlaw03_Val) T_sl_escrowlaw03_Val rfl, List.length_map, wv_some, vbin_lss, wv_some, brB_dec]
            refine ⟨fun h => absurd h (by omega), fun _ => ?_⟩
            cases sh with
            | true => exact rfl
            | false =>
              rw [brB_false]
              obtain ⟨F, hr, _⟩ := hs.get (i := 0) rfl
              have h1 := hsh rfl
              rw [List.take_of_length_le (Nat.le_refl _)] at hr h1
              have e : ((wires' xs).take k).drop (wires' xs).length = [] := List.drop_eq_nil_iff.2 (by rw [List.length_take]; omega)
              refine cursor_Reader_Done.use hr ?_
              simp only [Bool.false_eq_true, if_false, e]
              rfl
          | succ n ih =>
            intro j G' sh hn hj hsh hs
            have hjl : j < xs.length := by omega
            obtain ⟨x, hx⟩ : ∃ x, xs[j]? = some x := ⟨_, List.getElem?_eq_getElem hjl⟩
            obtain ⟨m, hxm, hmle⟩ := hall.get hx
            have hjx : (xs.map ValM.av)[j]? = some x.av := by rw [List.getElem?_map, hx]; rfl
            obtain ⟨ad, e1, e2⟩ := hro.elem (k := .i64) T_sl_escrowlaw03_Val rfl T_escrowlaw03_Val hjx rfl
            refine hR66 _ _ _ _ _ _ _ ?_
            rw [(hro.mono hs.ro).is.len (i := ti_sl_escrowlaw03_Val) T_sl_escrowlaw03_Val rfl, List.length_map, wv_some, vbin_lss, wv_some, brB_dec]
            refine ⟨fun _ => ?_, fun h => absurd (by omega) h⟩
            intro J116
            have h116 : ∀ (sh' : Bool) G', (sh' = false → (wires' (xs.take (j + 1))).length ≤ k) → Sp [] G [RdL ir (if sh' then ([], 2) else (((wires' xs).take k).drop (wires' (xs.take (j + 1))).length, 0)), OwnL 1 e (ends xs xs.length)] G' → J116 (.bool sh') G' := by
              intro sh' G' hsh' hs'
              show wv (vbin T .add t_int (.int .i64 j) (.int .i64 1)) _
              rw [vbin_add, wv_some, i64_in (by omega) (by omega)]
              exact ih (j + 1) G' sh' (by omega) (by omega) hsh' hs'
            rw [e1, wv_some, e2 _ hs.ro, wv_some]
            refine escrowlaw03_long.use hxm (by omega) fun G79 c79 => ?_
            have s79 := hs.tmp c79
            have htk := wires'_take hx
            rw [brB_dec]
            refine ⟨fun hlo => ?_, fun hlo => ?_⟩
            · have hw0 : wires' (xs.take (j + 1)) = wires' (xs.take j) := by rw [htk]; simp [ValM.wire', hlo]
              refine h116 sh G79 (by rw [hw0]; exact hsh) ?_
              rw [hw0]
              exact s79
            · have hww : x.wire' = x.wire := by simp [ValM.wire', hlo]
              have hsplit : wires' xs = wires' (xs.take j) ++ x.wire ++ wires' (xs.drop (j + 1)) := by
                rw [← hww, ← htk]
                exact wires'_split xs (j + 1)
              have hlt : (wires' (xs.take (j + 1))).length = (wires' (xs.take j)).length + x.wire.length := by rw [htk, hww, List.length_append]
              intro J112
              have hshort : Lacks x (if sh then ([], 2) else (((wires' xs).take k).drop (wires' (xs.take j)).length, 0)) → J112 (.bool false) G79 := by
                intro hla
                simp -zeta only [J112, brB_false]
                rw [wv_some, e2 _ s79.ro, wv_some]
                refine s79.call (i := 0) rfl (RdL ir ([], 2)) fun F h kk => ?_
                obtain ⟨h, rfl⟩ := h
                refine escrowlaw03_nothing.use hxm (by omega) hlo hla h fun G10 r10 c10 => ?_
                have s10 := kk _ _ ⟨r10, rfl⟩ c10
                rw [vun_not, wv_some, Bool.not_true, brB_false]
                refine cursor_Reader_Err.use r10 ?_
                rw [vbin_neq, wv_some, brB_ndec]
                refine ⟨fun h => absurd rfl h, fun _ => ?_⟩
                refine cursor_Reader_Rest.use r10 ?_
                rw [vbin_sneq, wv_some, brB_ndec]
                refine ⟨fun h => absurd rfl h, fun _ => ?_⟩
                refine cursor_Reader_Done.use r10 ?_
                have d : dones ([], 2) = 2 := by decide
                rw [d, vbin_neq, wv_some, brB_ndec]
                refine ⟨fun h => absurd rfl h, fun _ => ?_⟩
                exact h116 true G10 (fun h => by cases h) s10
              rw [vun_not, wv_some]
              cases sh with
              | true =>
                rw [Bool.not_true, brB_false]
                exact hshort (.inl rfl)
              | false =>
                rw [Bool.not_false, brB_true]
                have hpre := hsh rfl
                obtain ⟨F, ho, _⟩ := s79.get (i := 1) rfl
                have hej : (ends xs xs.length)[j]? = some (.int .i64 ((wires' (xs.take (j + 1))).length : Nat)) := by
                  simp [ends, hjl]
                obtain ⟨ea, x1, x2⟩ := ho.is.at_ (k := .i64) (i := ti_sl_int) (ie := ti_int) (T := T) (t := t_sl_int) (e := t_int) T_sl_int rfl T_int hej rfl
                rw [x1, wv_some, x2, wv_some, vbin_leq, wv_some]
                by_cases hle : (wires' (xs.take (j + 1))).length ≤ k
                · have hd : decide ((((wires' (xs.take (j + 1))).length : Nat) : Int) ≤ (k : Int)) = true := by simp; exact hle
                  rw [hd]
                  simp -zeta only [J112, brB_true]
                  rw [wv_some, e2 _ s79.ro, wv_some]
                  have ed : ((wires' xs).take k).drop (wires' (xs.take j)).length = x.wire ++ ((wires' xs).take k).drop (wires' (xs.take (j + 1))).length := by
                    rw [htk, hww, hsplit]
                    exact drop_take_app (by omega)
                  simp only [Bool.false_eq_true, if_false] at s79
                  rw [ed] at s79
                  refine s79.call (i := 0) rfl (RdL ir (((wires' xs).take k).drop (wires' (xs.take (j + 1))).length, 0)) fun F h kk => ?_
                  obtain ⟨h, rfl⟩ := h
                  refine escrowlaw03_again.use hxm (by omega) hlo h fun G10 r10 c10 => ?_
                  have s10 := kk _ _ ⟨r10, rfl⟩ c10
                  rw [vun_not, wv_some, Bool.not_true, brB_false]
                  refine cursor_Reader_Err.use r10 ?_
                  rw [vbin_neq, wv_some, brB_ndec]
                  refine ⟨fun h => absurd rfl h, fun _ => ?_⟩
                  exact h116 false G10 (fun _ => hle) s10
                · have hd : decide ((((wires' (xs.take (j + 1))).length : Nat) : Int) ≤ (k : Int)) = false := by simp; omega
                  rw [hd]
                  refine hshort (.inr ⟨rfl, ?_⟩)
                  obtain ⟨t, t1, t2⟩ := drop_take_pre (a := wires' (xs.take j)) (b := x.wire) (c := wires' (xs.drop (j + 1))) (k := k) hpre (by omega)
                  rw [← hsplit] at t1 t2
                  exact ⟨t2, t, t1⟩
        refine lp _ 0 G9 false rfl (by omega) (fun _ => by simp [wires']) ?_
        have := s9.erase 2
        simpa [wires'] using this
      rw [brB_dec]
      refine ⟨fun hneg => ?_, fun hpos => h122 a (by omega) hai.2⟩
      have ha0 := hai.1
      rw [vbin_add, wv_some, i64_in (by omega) (by omega), vun_neg, wv_some, i64_in (by omega) (by omega)]
      exact h122 _ (by omega) (by omega)
    | succ n ih =>
      intro j e G' hn hj hs
      have hjl : j < xs.length := by omega
      obtain ⟨x, hx⟩ : ∃ x, xs[j]? = some x := ⟨_, List.getElem?_eq_getElem hjl⟩
      obtain ⟨m, hxm, hmle⟩ := hall.get hx
      have hjx : (xs.map ValM.av)[j]? = some x.av := by rw [List.getElem?_map, hx]; rfl
      obtain ⟨ad, e1, e2⟩ := hro.elem (k := .i64) T_sl_escrowlaw03_Val rfl T_escrowlaw03_Val hjx rfl
      have hb := hwl j
      have htk := wires'_take hx
      refine hR7 _ _ _ _ _ _ ?_
      rw [(hro.mono hs.ro).is.len (i := ti_sl_escrowlaw03_Val) T_sl_escrowlaw03_Val rfl, List.length_map, wv_some, vbin_lss, wv_some, brB_dec]
      refine ⟨fun _ => ?_, fun h => absurd (by omega) h⟩
      have app : ∀ (X : List UInt8) (G9 : Heap), X = wires' (xs.take (j + 1)) → Sp [] G [OwnL 1 e (ends xs j), WrL iw X 0] G9 →
          ACalls P cursor_Writer_Len.n [.ptr iw [] 0] G9 fun v32 G33 => aBuildSlice T t_sl_int 1 [(0, v32)] G33 fun v34 G35 => aAppend T G35 t_sl_int t_sl_int e v34 fun v36 G37 => wv (vbin T .add t_int (.int .i64 j) (.int .i64 1)) fun v47 => R7 [l, .int .i64 a, .ptr iw [] 0, v36, v47] G37 := by
        intro X G9 hX s9
        obtain ⟨F, hw⟩ := s9.get (i := 1) rfl
        refine cursor_Writer_Len.use (st := (X, 0)) hw ?_
        rw [if_pos rfl]
        refine s9.call (i := 0) rfl (OwnL 1 e (ends xs j)) fun F h _ => ?_
        obtain ⟨ho, _⟩ := h
        refine append1 (T := T) (ts := t_sl_int) (e := t_int) (si := ti_sl_int) (ie := ti_int) T_sl_int rfl T_int rfl (by decide) ho rfl rfl (by decide) ?_ fun s' G10 h10 k10 => ?_
        · have : (ends xs j).length = j := by simp [ends]
          rw [this]
          show (j + 1) * 8 ≤ _
          omega
        · rw [vbin_add, wv_some, i64_in (by omega) (by omega)]
          refine ih (j + 1) s' G10 (by omega) (by omega) ?_
          rw [hX] at s9 h10
          refine s9.call (i := 0) rfl (OwnL 1 s' (ends xs (j + 1))) fun F h kk => ?_
          obtain ⟨_, rfl⟩ := h
          exact kk _ _ ⟨by rw [ends_succ]; exact h10, rfl⟩ k10.ch
      rw [e1, wv_some, e2 _ hs.ro, wv_some]
      refine escrowlaw03_long.use hxm (by omega) fun G19 c19 => ?_
      have s19 := hs.tmp c19
      rw [vun_not, wv_some, brB_ndec]
      refine ⟨fun hlo => ?_, fun hlo => ?_⟩
      · rw [wv_some, e2 _ s19.ro, wv_some]
        refine s19.call (i := 1) rfl (WrL iw (wires' (xs.take (j + 1))) 0) fun F h kk => ?_
        refine escrowlaw03_lays.use (st := (wires' (xs.take j), 0)) (hxm.le (m' := 1048576) (by omega)) (by omega) h (by simp only; omega) fun F' G9 w9 c9 => ?_
        have ew : layV (wires' (xs.take j), 0) x = (wires' (xs.take (j + 1)), 0) := by rw [layV_ok hlo, htk]; simp [ValM.wire', hlo]
        rw [ew] at w9
        exact app _ G9 rfl (kk _ _ w9 c9)
      · exact app _ G19 (by rw [htk]; simp [ValM.wire', hlo]) s19
  exact loop _ 0 .nilSlice G5 rfl (by omega) (s5.new (p := OwnL 1 .nilSlice []) ⟨.inl ⟨rfl, rfl⟩, rfl⟩ (Ch.refl _ _))

end Go.Esc.M
