/- Own work. Chapter 10: the document's shelf. -/
import Derived.Test.YtcceblejaanfaaaDoorLVb
set_option linter.unusedSimpArgs false
set_option linter.unusedVariables false
namespace Go.Esc.M
open Go Go.Esc

section
variable {F0 : List AId} {G0 G : Heap} {ps : List LP} {Q : AVal → Heap → Prop}

def askS (k : Nat) (n : Int) : Int := if 49 < k then 1 else if okN n = true then 0 else 90
theorem escrowref10_asked.use {v : AVal} {l : List SlotM} {n : Int} (hl : IsSl 34 G v (l.map SlotM.av)) (hQ : Q (.int .i64 (askS l.length n)) G) : ACalls P escrowref10_asked.n [v, .int .i64 n] G Q := by
  refine escrowref10_asked.sound ?_
  unfold escrowref10_asked.S
  unfold askS at hQ
  have hiff := okN_iff (n := n)
  refine wv_of (slots_len hl) ?_
  rw [vbin_gtr, wv_some, brB_dec]
  refine ⟨fun h => ?_, fun h => ?_⟩
  · rw [if_pos (by omega)] at hQ
    exact hQ
  rw [if_neg (by omega)] at hQ
  rw [vbin_lss, wv_some, brB_dec]
  refine ⟨fun h => ?_, fun h => ?_⟩
  · rw [if_neg (fun hh => by have := hiff.1 hh; omega)] at hQ
    exact hQ
  rw [vbin_gtr, wv_some, brB_dec]
  refine ⟨fun h => ?_, fun h => ?_⟩
  · rw [if_neg (fun hh => by have := hiff.1 hh; omega)] at hQ
    exact hQ
  · rw [if_pos (hiff.2 ⟨by omega, by omega⟩)] at hQ
    exact hQ

theorem escrowref10_at.use {v : AVal} {l : List SlotM} {j : Nat} (hl : IsSl 34 G v (l.map SlotM.av)) (hok : ∀ s ∈ l, s.ok) (hlen : l.length * 48 ≤ 140737488351232) (hQ : ∀ G', Ch [] G [] G' → Q (atS l j).av G') : ACalls P escrowref10_at.n [v, .int .i64 (j : Int)] G Q := by
  refine escrowref10_at.sound ?_
  unfold escrowref10_at.S
  rw [zSlot]
  intro i1 f1
  have s1 := (Sp.nil G).row f1 zeroS.av
  intro J17
  have no : atS l j = zeroS → J17 (.bool false) (G.upd i1 (.own zeroS.av)) := by
    intro h
    rw [h] at hQ
    simp -zeta only [J17, brB_false]
    refine wv_of build_zero ?_
    refine slot_store (i := 0) s1 rfl zeroS_ok zeroS_ok fun G' s => ?_
    refine wv_of (slot_row (i := 0) s rfl zeroS_ok).2.2.2 ?_
    exact hQ _ s.ch
  refine wv_of (slots_len (hl.ch' s1.ch)) ?_
  rw [vbin_lss, wv_some, brB_dec]
  refine ⟨fun h => ?_, fun h => no (atS_none (by omega))⟩
  obtain ⟨s, hsj⟩ : ∃ s, l[j]? = some s := ⟨_, List.getElem?_eq_getElem (by omega)⟩
  have hso := hok s (List.mem_of_getElem? hsj)
  have hat := atS_some hsj
  obtain ⟨a, b, e1, e2, e3⟩ := slot_full (hl.ch' s1.ch) rfl hsj hso
  refine wv_of e1 ?_
  refine wv_of e2 ?_
  refine wv_of e3 ?_
  cases hf : s.full with
  | false =>
    rw [hf, if_neg (by simp)] at hat
    exact no hat
  | true =>
    rw [hf, if_pos rfl] at hat
    rw [hat] at hQ
    simp -zeta only [J17, brB_true]
    obtain ⟨a, e1, e2⟩ := slot_at (hl.ch' s1.ch) rfl hsj
    refine wv_of e1 ?_
    refine wv_of e2 ?_
    refine slot_store (i := 0) s1 rfl zeroS_ok hso fun G' s' => ?_
    refine wv_of (slot_row (i := 0) s' rfl hso).2.2.2 ?_
    exact hQ _ s'.ch

/-- The first of what is laid. -/
def laidN (l : List SlotM) (n : Int) (secret : List UInt8) (j : Nat) : List SlotM := (List.range j).map fun q => if q = level (pl n) then ⟨n, secret, true⟩ else atS l q
theorem laidN_next (l : List SlotM) (n : Int) (secret : List UInt8) (j : Nat) : laidN l n secret (j + 1) = laidN l n secret j ++ [if j = level (pl n) then ⟨n, secret, true⟩ else atS l j] := by
  unfold laidN
  rw [List.range_succ, List.map_append]
  rfl
theorem laidN_len (l : List SlotM) (n : Int) (secret : List UInt8) (j : Nat) : (laidN l n secret j).length = j := by simp [laidN]

set_option maxHeartbeats 2000000 in
theorem escrowref10_Put.use {v : AVal} {l : List SlotM} {n : Int} {secret : List UInt8} (hl : IsSl 34 G v (l.map SlotM.av)) (hok : ∀ s ∈ l, s.ok) (hlen : l.length * 48 ≤ 140737488351232) (hs : secret.length = 32)
    (hQ : ∀ w G', Sp [] G [OwnL 34 w ((putS l n secret).1.map SlotM.av)] G' → Q (.tuple [w, .int .i64 (putS l n secret).2]) G') : ACalls P escrowref10_Put.n [v, .int .i64 n, .agg (secret.map u8v)] G Q := by
  refine escrowref10_Put.sound ?_
  unfold escrowref10_Put.S
  intro i1 f1
  have s1 := (Sp.nil G).row f1 (.agg (secret.map u8v))
  refine escrowref10_asked.use (hl.ch' s1.ch) ?_
  unfold putS at hQ
  unfold askS
  by_cases h49 : 49 < l.length
  · rw [if_pos h49] at hQ ⊢
    refine wv_of (v := .bool true) rfl ?_
    rw [brB_true]
    exact hQ _ _ ((s1.nilL 34).erase 1)
  rw [if_neg h49] at hQ ⊢
  cases hn : okN n with
  | false =>
    rw [hn, if_neg (by simp)] at hQ
    rw [if_neg (by simp)]
    refine wv_of (v := .bool true) rfl ?_
    rw [brB_true]
    exact hQ _ _ ((s1.nilL 34).erase 1)
  | true =>
    rw [hn, if_pos rfl] at hQ
    rw [if_pos rfl, nz0, wv_some, brB_false]
    refine escrowref09_Level.use fun G7 c7 => ?_
    have s1 := s1.tmp c7
    refine wv_of (ii0 _) ?_
    refine wv_of (ii1 _) ?_
    rw [level_ok hn]
    have hlv := level_le (pl n)
    intro R hR
    have loop : ∀ (m j : Nat) (w : AVal) (G' : Heap), 49 - j = m → j ≤ 49 → (∀ q, q < j → q < level (pl n) → badS secret n (atS l q) = false) → Sp [] G [OwnL 34 w ((laidN l n secret j).map SlotM.av), RowL i1 (.agg (secret.map u8v))] G' →
        R [v, .int .i64 n, .ptr i1 [] 0, .int .i64 ((level (pl n) : Nat) : Int), w, .int .i64 (j : Int)] G' := by
      intro m
      induction m with
      | zero =>
        intro j w G' hm hj hb sp
        have hjl : j = 49 := by omega
        subst hjl
        have hall : okputS l n secret = true := by
          rw [okputS_iff]
          intro q hq
          exact hb q (by omega) hq
        rw [hall, if_pos rfl] at hQ
        refine hR _ _ _ _ _ _ _ ?_
        rw [vbin_lss, wv_some, decide_eq_false (by omega), brB_false]
        exact hQ _ _ (sp.erase 1)
      | succ m ih =>
        intro j w G' hm hj hb sp
        refine hR _ _ _ _ _ _ _ ?_
        rw [vbin_lss, wv_some, decide_eq_true (by omega), brB_true]
        have hao := atS_ok hok j
        have ev : vbin T .add t_int (.int .i64 (j : Int)) (.int .i64 1) = some (.int .i64 ((j + 1 : Nat) : Int)) := by
          rw [vbin_add, i64_in (by omega) (by omega)]
          rfl
        refine escrowref10_at.use (hl.ch' sp.ch) hok hlen fun G20 c20 => ?_
        have s20 := sp.tmp c20
        obtain ⟨x, hx⟩ : ∃ x, x = atS l j := ⟨_, rfl⟩
        rw [← hx] at hao ⊢
        refine newS s20 hao fun i21 G23 s23 => ?_
        intro J65
        have h64 : ∀ G43, Sp [] G [RowL i21 x.av, OwnL 34 w ((laidN l n secret j).map SlotM.av), RowL i1 (.agg (secret.map u8v))] G43 → (j < level (pl n) → badS secret n (atS l j) = false) →
            (wv (vbin T .eql t_int (.int .i64 (j : Int)) (.int .i64 ((level (pl n) : Nat) : Int))) fun v44 => brB (some v44)
  (wv (vload T G43 t_api_Hash (.ptr i1 [] 0)) fun v45 => wv (vbuild T t_api_Slot [(0, .int .i64 n), (1, v45), (2, .bool true)]) fun v46 => wg (vstore T G43 t_api_Slot (.ptr i21 [] 0) v46) fun G47 => wv (vload T G47 t_api_Slot (.ptr i21 [] 0)) fun v54 => aBuildSlice T t_sl_api_Slot 1 [(0, v54)] G47 fun v55 G56 => aAppend T G56 t_sl_api_Slot t_sl_api_Slot w v55 fun v57 G58 => wv (vbin T .add t_int (.int .i64 (j : Int)) (.int .i64 1)) fun v69 => R [v, .int .i64 n, .ptr i1 [] 0, .int .i64 ((level (pl n) : Nat) : Int), v57, v69] G58)
  (wv (vload T G43 t_api_Slot (.ptr i21 [] 0)) fun v59 => aBuildSlice T t_sl_api_Slot 1 [(0, v59)] G43 fun v60 G61 => aAppend T G61 t_sl_api_Slot t_sl_api_Slot w v60 fun v62 G63 => wv (vbin T .add t_int (.int .i64 (j : Int)) (.int .i64 1)) fun v70 => R [v, .int .i64 n, .ptr i1 [] 0, .int .i64 ((level (pl n) : Nat) : Int), v62, v70] G63)) := by
          intro G43 s43 hbj
          have hb' : ∀ q, q < j + 1 → q < level (pl n) → badS secret n (atS l q) = false := fun q hq hq2 => by
            by_cases hqj : q = j
            · subst hqj; exact hbj hq2
            · exact hb q (by omega) hq2
          have hgl : ((laidN l n secret j).length + 1) * 48 ≤ 140737488355328 := by rw [laidN_len]; omega
          rw [vbin_eql, wv_some, brB_dec]
          refine ⟨fun he => ?_, fun he => ?_⟩
          · refine wv_of (load_hash hs (RowL.own (i := 2) s43 rfl)) ?_
            refine wv_of (build_slot hs true) ?_
            refine slot_store (i := 0) (s' := ⟨n, secret, true⟩) s43 rfl hao hs fun G47 s47 => ?_
            refine wv_of (slot_row (i := 0) (s := ⟨n, secret, true⟩) s47 rfl hs).2.2.2 ?_
            refine grow_slot (i := 1) (s := ⟨n, secret, true⟩) s47 rfl hs hgl fun w' G58 s58 => ?_
            have s58 := s58.erase 0
            have e : laidN l n secret j ++ [⟨n, secret, true⟩] = laidN l n secret (j + 1) := by rw [laidN_next, if_pos (by omega)]
            rw [e] at s58
            exact wv_of ev (ih (j + 1) w' G58 (by omega) (by omega) hb' s58)
          · refine wv_of (slot_row (i := 0) s43 rfl hao).2.2.2 ?_
            refine grow_slot (i := 1) s43 rfl hao hgl fun w' G58 s58 => ?_
            have s58 := s58.erase 0
            have e : laidN l n secret j ++ [x] = laidN l n secret (j + 1) := by rw [laidN_next, if_neg (by omega), hx]
            rw [e] at s58
            exact wv_of ev (ih (j + 1) w' G58 (by omega) (by omega) hb' s58)
        have hbad : badS secret n (atS l j) = true → j < level (pl n) → okputS l n secret = false := by
          intro hbad hj2
          refine Bool.eq_false_iff.2 fun h => ?_
          rw [okputS_iff] at h
          rw [h j hj2] at hbad
          cases hbad
        have h65n : (j < level (pl n) → badS secret n (atS l j) = false) → J65 (.bool false) G23 := by
          intro hbj
          simp -zeta only [J65, brB_false]
          exact h64 G23 s23 hbj
        rw [vbin_lss, wv_some, brB_dec]
        refine ⟨fun hjl => ?_, fun hjl => h65n fun h => absurd h (by omega)⟩
        have hjl : j < level (pl n) := by omega
        obtain ⟨l0, l1, l2, l3⟩ := slot_row (i := 0) s23 rfl hao
        refine wv_of l2 ?_
        cases hf : x.full with
        | false =>
          refine h65n fun _ => ?_
          rw [← hx]
          unfold badS
          rw [hf]
          rfl
        | true =>
          simp -zeta only [J65, brB_true]
          have hbadj : badS secret n (atS l j) = !decide (deriveS secret n x.index = (x.secret, 0)) := by rw [← hx]; unfold badS; rw [hf, Bool.true_and]
          refine wv_of (load_hash hs (RowL.own (i := 2) s23 rfl)) ?_
          refine wv_of l0 ?_
          refine escrowref09_Derive.use hs fun G31 c31 => ?_
          have s31 := s23.tmp c31
          refine wv_of (hi0 _) ?_
          refine wv_of (hi1 _) ?_
          have hdl := len_derive hs n x.index
          refine newH s31 hdl fun i34 G36 s36 => ?_
          have fail : badS secret n (atS l j) = true → Q (.tuple [.nilSlice, .int .i64 100]) G36 := by
            intro hb1
            rw [hbad hb1 hjl, if_neg (by simp)] at hQ
            exact hQ _ _ (((((s36.nilL 34).erase 1).erase 1).erase 1).erase 1)
          rw [vbin_neq, wv_some]
          by_cases hz : (deriveS secret n x.index).2 = 0
          · rw [decide_eq_true hz, Bool.not_true, brB_false]
            refine wv_of (load_hash hdl (RowL.own (i := 0) s36 rfl)) ?_
            refine wv_of (slot_row (i := 1) s36 rfl hao).2.1 ?_
            refine wv_of (hash_neq2 hdl hao) ?_
            by_cases hd : (deriveS secret n x.index).1 = x.secret
            · rw [decide_eq_true hd, Bool.not_true, brB_false]
              refine h64 G36 (s36.erase 0) fun _ => ?_
              rw [hbadj, decide_eq_true (Prod.ext hd hz)]
              rfl
            · rw [decide_eq_false hd, Bool.not_false, brB_true]
              refine fail ?_
              rw [hbadj, decide_eq_false fun h => hd (by rw [h])]
              rfl
          · rw [decide_eq_false hz, Bool.not_false, brB_true]
            refine fail ?_
            rw [hbadj, decide_eq_false fun h => hz (by rw [h])]
            rfl
    exact loop 49 0 .nilSlice _ rfl (by omega) (fun q hq => by omega) (s1.nilL 34)

theorem getL_drop {n : Int} {l : List SlotM} (j : Nat) : getL n (l.drop j) = if (atS l j).full = true ∧ (deriveS (atS l j).secret (atS l j).index n).2 = 0 then ((deriveS (atS l j).secret (atS l j).index n).1, 0) else getL n (l.drop (j + 1)) := by
  by_cases hj : j < l.length
  · have hx : l[j]? = some l[j] := List.getElem?_eq_getElem hj
    rw [List.drop_eq_getElem_cons hj, getL, atS_some hx]
    cases hf : l[j].full with
    | false => simp [zeroS]
    | true => simp [hf]
  · rw [List.drop_eq_nil_of_le (by omega), List.drop_eq_nil_of_le (by omega), atS_none (by omega)]
    simp [zeroS]

set_option maxHeartbeats 1000000 in
theorem escrowref10_Get.use {v : AVal} {l : List SlotM} {n : Int} (hl : IsSl 34 G v (l.map SlotM.av)) (hok : ∀ s ∈ l, s.ok) (hlen : l.length * 48 ≤ 140737488351232)
    (hQ : ∀ G', Ch [] G [] G' → Q (tupHI (getS l n)) G') : ACalls P escrowref10_Get.n [v, .int .i64 n] G Q := by
  refine escrowref10_Get.sound ?_
  unfold escrowref10_Get.S
  rw [z_hash]
  intro i1 f1
  have s1 := (Sp.nil G).row f1 (.agg ((List.replicate 32 (0 : UInt8)).map u8v))
  unfold getS at hQ
  have out : ∀ (h h' : List UInt8) (e : Int) (G' : Heap), h.length = 32 → h'.length = 32 → Sp [] G [RowL i1 (.agg (h'.map u8v))] G' → (∀ G', Ch [] G [] G' → Q (tupHI (h, e)) G') →
      wg (vstore T G' t_api_Hash (.ptr i1 [] 0) (.agg (h.map u8v))) fun G6 => wv (vload T G6 t_api_Hash (.ptr i1 [] 0)) fun v7 => Q (.tuple [v7, .int .i64 e]) G6 := by
    intro h h' e G' hh hh' sp hk
    refine wg_of (store_hash hh' hh (RowL.own (i := 0) sp rfl)) ?_
    have s2 := Sp.setRow (j := 0) sp rfl (.agg (h.map u8v))
    refine wv_of (load_hash hh (RowL.own (i := 0) s2 rfl)) ?_
    exact hk _ s2.ch
  refine escrowref10_asked.use (hl.ch' s1.ch) ?_
  unfold askS
  by_cases h49 : 49 < l.length
  · rw [if_pos h49] at hQ ⊢
    refine wv_of (v := .bool true) rfl ?_
    rw [brB_true]
    refine wv_of zero_hash2 ?_
    exact out _ _ _ _ (by simp) (by simp) s1 hQ
  rw [if_neg h49] at hQ ⊢
  cases hn : okN n with
  | false =>
    rw [hn, if_neg (by simp)] at hQ
    rw [if_neg (by simp)]
    refine wv_of (v := .bool true) rfl ?_
    rw [brB_true]
    refine wv_of zero_hash2 ?_
    exact out _ _ _ _ (by simp) (by simp) s1 hQ
  | true =>
    rw [hn, if_pos rfl] at hQ
    rw [if_pos rfl, nz0, wv_some, brB_false]
    intro R hR
    have loop : ∀ (m j : Nat) (G' : Heap), 49 - j = m → j ≤ 49 → getL n l = getL n (l.drop j) → Sp [] G [RowL i1 (.agg ((List.replicate 32 (0 : UInt8)).map u8v))] G' →
        R [v, .int .i64 n, .ptr i1 [] 0, .int .i64 (j : Int)] G' := by
      intro m
      induction m with
      | zero =>
        intro j G' hm hj he sp
        refine hR _ _ _ _ _ ?_
        rw [vbin_lss, wv_some, decide_eq_false (by omega), brB_false]
        rw [List.drop_eq_nil_of_le (by omega)] at he
        rw [he] at hQ
        refine wv_of zero_hash2 ?_
        exact out _ _ _ _ (by simp) (by simp) sp hQ
      | succ m ih =>
        intro j G' hm hj he sp
        rw [getL_drop] at he
        refine hR _ _ _ _ _ ?_
        rw [vbin_lss, wv_some, decide_eq_true (by omega), brB_true]
        have hao := atS_ok hok j
        have ev : vbin T .add t_int (.int .i64 (j : Int)) (.int .i64 1) = some (.int .i64 ((j + 1 : Nat) : Int)) := by
          rw [vbin_add, i64_in (by omega) (by omega)]
          rfl
        refine escrowref10_at.use (hl.ch' sp.ch) hok hlen fun G17 c17 => ?_
        have s17 := sp.tmp c17
        obtain ⟨x, hx⟩ : ∃ x, x = atS l j := ⟨_, rfl⟩
        rw [← hx] at hao he ⊢
        refine newS s17 hao fun i18 G20 s20 => ?_
        obtain ⟨l0, l1, l2, l3⟩ := slot_row (i := 0) s20 rfl hao
        refine wv_of l2 ?_
        cases hf : x.full with
        | false =>
          rw [hf, if_neg (by simp)] at he
          rw [brB_false]
          exact wv_of ev (ih (j + 1) G20 (by omega) (by omega) he (s20.erase 0))
        | true =>
          rw [brB_true]
          refine wv_of l1 ?_
          refine wv_of l0 ?_
          refine escrowref09_Derive.use hao fun G25 c25 => ?_
          have s25 := s20.tmp c25
          refine wv_of (hi0 _) ?_
          refine wv_of (hi1 _) ?_
          have hdl := len_derive (s := x.secret) hao x.index n
          refine newH s25 hdl fun i28 G30 s30 => ?_
          rw [vbin_eql, wv_some]
          by_cases hz : (deriveS x.secret x.index n).2 = 0
          · rw [if_pos ⟨hf, hz⟩] at he
            rw [he] at hQ
            rw [decide_eq_true hz, brB_true]
            refine wv_of (load_hash hdl (RowL.own (i := 0) s30 rfl)) ?_
            exact out _ _ _ _ hdl (by simp) ((s30.erase 0).erase 0) hQ
          · rw [if_neg (fun h => hz h.2)] at he
            rw [decide_eq_false hz, brB_false]
            exact wv_of ev (ih (j + 1) G30 (by omega) (by omega) he ((s30.erase 0).erase 0))
    exact loop 49 0 _ rfl (by omega) rfl s1

end

end Go.Esc.M
