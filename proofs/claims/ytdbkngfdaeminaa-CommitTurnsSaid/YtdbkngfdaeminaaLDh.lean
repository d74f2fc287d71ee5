/- Own work. Chapter 14: sound ledgers made of any. -/
import Derived.Test.YtdbkngfdaeminaaLDg
set_option linter.unusedSimpArgs false
set_option linter.unusedVariables false
namespace Go.Esc.M
open Go Go.Esc

theorem andK {T : Tbl} {t : TypeId} (a : Int) {m M : Int} (k : Nat) (hk : k ≤ 63) (hm : m = ((2 ^ k - 1 : Nat) : Int)) (hM : M = ((2 ^ k : Nat) : Int)) : vbin T .and t (.int .i64 a) (.int .i64 m) = some (.int .i64 (a % M)) := by
  subst hm hM
  rw [vbin_and, and_mask a k hk]

def mk (n : Int) (p : PenM) : PenM := ⟨p.ours, n + 1 + p.id % 4, 1 + p.amount % 576460752303423488, p.hash⟩
def madeS (b : Bool) : Int → List PenM → List PenM
  | _, [] => []
  | n, p :: l => if n < 40 then (if p.ours = b then mk n p :: madeS b (n + 1 + p.id % 4) l else madeS b n l) else []
def madeL (l : List PenM) : List PenM := madeS true 0 l ++ madeS false 0 l

theorem madeS_done {b : Bool} {n : Int} {l : List PenM} (h : ¬ n < 40) : madeS b n l = [] := by
  cases l with
  | nil => rfl
  | cons p l => rw [madeS, if_neg h]
theorem length_madeS (b : Bool) : ∀ (l : List PenM) (n : Int), 0 ≤ n → (madeS b n l).length ≤ (40 - n).toNat
  | [], n, _ => by simp [madeS]
  | p :: l, n, h => by
    rw [madeS]
    split
    · split
      · have := length_madeS b l (n + 1 + p.id % 4) (by omega)
        rw [List.length_cons]
        omega
      · exact length_madeS b l n h
    · simp
theorem mk_ok {n : Int} {p : PenM} (h : p.ok) (h0 : 0 ≤ n) (h1 : n < 40) : (mk n p).ok := by
  refine ⟨⟨?_, ?_⟩, ⟨?_, ?_⟩, h.hash⟩ <;> dsimp only [mk] <;> omega
theorem madeS_ok {b : Bool} : ∀ {l : List PenM} {n : Int}, 0 ≤ n → (∀ p ∈ l, p.ok) → ∀ p ∈ madeS b n l, p.ok
  | [], n, _, _ => by simp [madeS]
  | p :: l, n, h, hok => by
    have hl : ∀ q ∈ l, q.ok := fun q hq => hok q (by simp [hq])
    intro q hq
    rw [madeS] at hq
    split at hq
    · split at hq
      · rcases List.mem_cons.1 hq with rfl | hq
        · exact mk_ok (hok p (by simp)) h (by assumption)
        · exact madeS_ok (by omega) hl q hq
      · exact madeS_ok h hl q hq
    · cases hq
theorem madeL_ok {l : List PenM} (h : ∀ p ∈ l, p.ok) : ∀ p ∈ madeL l, p.ok := by
  intro p hp
  rcases List.mem_append.1 hp with hp | hp
  · exact madeS_ok (by decide) h p hp
  · exact madeS_ok (by decide) h p hp
theorem length_madeL (l : List PenM) : (madeL l).length ≤ 80 := by
  have h1 := length_madeS true l 0 (by decide)
  have h2 := length_madeS false l 0 (by decide)
  rw [madeL, List.length_append]
  omega

theorem scan_true : ∀ (l : List PenM) (n lt lf : Int) (ct : Nat) (r : List PenM), lt ≤ n → 0 ≤ n → ∃ lt' ct', ct' ≤ ct + (40 - n).toNat ∧ scanP lt lf ct 0 (madeS true n l ++ r) = scanP lt' lf ct' 0 r
  | [], n, lt, lf, ct, r, _, _ => ⟨lt, ct, by omega, rfl⟩
  | p :: l, n, lt, lf, ct, r, h, h0 => by
    rw [madeS]
    by_cases hn : n < 40
    · rw [if_pos hn]
      by_cases ho : p.ours = true
      · rw [if_pos ho, List.cons_append, scanP, if_neg]
        · have e : (mk n p).ours = true := ho
          rw [e, cond_true]
          obtain ⟨lt', ct', h1, h2⟩ := scan_true l (n + 1 + p.id % 4) (mk n p).id lf (ct + 1) r (by dsimp only [mk]; omega) (by omega)
          exact ⟨lt', ct', by omega, h2⟩
        · have e : (mk n p).ours = true := ho
          rw [e, cond_true]
          unfold maxAmount
          dsimp only [mk]
          omega
      · rw [if_neg ho]
        exact scan_true l n lt lf ct r h h0
    · rw [if_neg hn]
      exact ⟨lt, ct, by omega, rfl⟩
theorem scan_false : ∀ (l : List PenM) (n lt lf : Int) (ct cf : Nat), lf ≤ n → 0 ≤ n → ∃ cf', cf' ≤ cf + (40 - n).toNat ∧ scanP lt lf ct cf (madeS false n l) = some (ct, cf')
  | [], n, lt, lf, ct, cf, _, _ => ⟨cf, by omega, rfl⟩
  | p :: l, n, lt, lf, ct, cf, h, h0 => by
    rw [madeS]
    by_cases hn : n < 40
    · rw [if_pos hn]
      by_cases ho : p.ours = false
      · rw [if_pos ho, scanP, if_neg]
        · have e : (mk n p).ours = false := ho
          rw [e, cond_false]
          obtain ⟨cf', h1, h2⟩ := scan_false l (n + 1 + p.id % 4) lt (mk n p).id ct (cf + 1) (by dsimp only [mk]; omega) (by omega)
          exact ⟨cf', by omega, h2⟩
        · have e : (mk n p).ours = false := ho
          rw [e, cond_false]
          unfold maxAmount
          dsimp only [mk]
          simp only [Bool.false_eq_true, false_and, or_false]
          omega
      · rw [if_neg ho]
        exact scan_false l n lt lf ct cf h h0
    · rw [if_neg hn]
      exact ⟨cf, by omega, rfl⟩
theorem made_sound (o q : Int) (l : List PenM) : soundP (o % 1152921504606846976) (q % 1152921504606846976) (madeL l) = true := by
  obtain ⟨lt', ct', h1, h2⟩ := scan_true l 0 (-1) (-1) 0 (madeS false 0 l) (by decide) (by decide)
  obtain ⟨cf', h3, h4⟩ := scan_false l 0 lt' (-1) ct' 0 (by decide) (by decide)
  unfold soundP
  rw [madeL, h2, h4]
  unfold maxAmount few
  simp only [Bool.and_eq_true, decide_eq_true_eq]
  omega

section
variable {F0 : List AId} {G0 G : Heap} {ps : List LP} {Q : AVal → Heap → Prop}

set_option maxHeartbeats 2000000 in
theorem escrowlaw14_made.use {o q : Int} {v : AVal} {l : List PenM} (hl : IsSl 35 G v (l.map PenM.av)) (hok : ∀ p ∈ l, p.ok) (hlen : l.length ≤ 9223372036854775000)
    (hQ : ∀ s G', Sp [] G [OwnL 35 s ((madeL l).map PenM.av)] G' → Q (ledV (o % 1152921504606846976) (q % 1152921504606846976) s) G') : ACalls P escrowlaw14_made.n [ledV o q v] G Q := by
  have hv := sl_leaf hl
  refine escrowlaw14_made.sound ?_
  unfold escrowlaw14_made.S
  rw [zLed]
  intro i1 f1
  have s1 := (Sp.nil G).row f1 (ledV o q v)
  intro i3 f3
  have s3 := s1.row f3 (ledV 0 0 .nilSlice)
  refine wv_of (led_load (i := 1) s3 rfl hv).1 ?_
  rw [andK o 60 (by decide) (m := 1152921504606846975) (M := 1152921504606846976) rfl rfl, wv_some]
  refine wv_of (led_load (i := 1) s3 rfl hv).2.1 ?_
  rw [andK q 60 (by decide) (m := 1152921504606846975) (M := 1152921504606846976) rfl rfl, wv_some]
  obtain ⟨o', ho'⟩ : ∃ x, x = o % 1152921504606846976 := ⟨_, rfl⟩
  obtain ⟨q', hq'⟩ : ∃ x, x = q % 1152921504606846976 := ⟨_, rfl⟩
  rw [← ho', ← hq']
  rw [← ho', ← hq'] at hQ
  refine wv_of (v := ledV o' q' .nilSlice) rfl ?_
  intro i8 f8
  have s8 := s3.row f8 (ledV 0 0 .nilSlice)
  refine led_store (i := 0) s8 rfl rfl nil_leaf fun G10 s10 => ?_
  have s10 : Sp [] G [RowL i8 (ledV o' q' .nilSlice), RowL i3 (ledV 0 0 .nilSlice), RowL i1 (ledV o q v)] G10 := s10
  have s12 := s10.nilL 35
  have ln : ∀ {G' : Heap}, Ch [] G [] G' → vlen T G' t_sl_api_Pending v = some (.int .i64 (l.length : Nat)) := fun c => by
    rw [(hl.ch' c).len (i := ti_sl_api_Pending) T_sl_api_Pending rfl, List.length_map]
  intro R13 hR13
  have inner : ∀ (side : Bool) (k : Int) (acc : List PenM) (G' : Heap) (s : AVal), acc.length ≤ 40 → (∀ b : Bool, (b == decide (k = 0)) = (b == side)) →
      Sp [] G [OwnL 35 s (acc.map PenM.av), RowL i8 (ledV o' q' s), RowL i3 (ledV 0 0 .nilSlice), RowL i1 (ledV o q v)] G' →
      (∀ (G' : Heap) (s : AVal), Sp [] G [OwnL 35 s ((acc ++ madeS side 0 l).map PenM.av), RowL i8 (ledV o' q' s), RowL i3 (ledV 0 0 .nilSlice), RowL i1 (ledV o q v)] G' → R13 [.ptr i1 [] 0, .ptr i3 [] 0, .ptr i8 [] 0, .int .i64 (IntKind.i64.wrap (k + 1))] G') →
      (∀ R20 : List AVal → Heap → Prop,
  (∀ (x22 x23 x24 x25 x26 x27 : AVal) (G21 : Heap), (let J70 : AVal → Heap → Prop := (fun x34 G33 => brB (some x34)
  (wv (vfaddr T t_api_Ledger x22 2) fun v35 => wv (vload T G33 t_sl_api_Pending v35) fun v36 => wv (viaddr T t_sl_api_Pending v36 x27) fun v37 => wv (vload T G33 t_api_Pending v37) fun v38 => aNew G33 (.own (z_api_Pending)) fun i39 G40 => wg (vstore T G40 t_api_Pending (.ptr i39 [] 0) v38) fun G41 => wv (vload T G41 t_bool (.ptr i39 [0] 0)) fun v42 => wv (vbin T .eql t_int x25 (.int .i64 0)) fun v43 => wv (vbin T .eql t_bool v42 v43) fun v44 => brB (some v44)
  (wv (vbin T .add t_int64 x26 (.int .i64 1)) fun v45 => wv (vload T G41 t_int64 (.ptr i39 [1] 1)) fun v46 => wv (vbin T .and t_int64 v46 (.int .i64 3)) fun v47 => wv (vbin T .add t_int64 v45 v47) fun v48 => wv (vfaddr T t_api_Ledger x24 2) fun v49 => wv (vload T G41 t_sl_api_Pending v49) fun v50 => wv (vload T G41 t_bool (.ptr i39 [0] 0)) fun v51 => wv (vload T G41 t_int64 (.ptr i39 [2] 2)) fun v52 => wv (vbin T .and t_int64 v52 (.int .i64 576460752303423487)) fun v53 => wv (vbin T .add t_int64 (.int .i64 1) v53) fun v54 => wv (vload T G41 t_api_Hash (.ptr i39 [3] 3)) fun v55 => wv (vbuild T t_api_Pending [(0, v51), (1, v48), (2, v54), (3, v55)]) fun v56 => aBuildSlice T t_sl_api_Pending 1 [(0, v56)] G41 fun v57 G58 => aAppend T G58 t_sl_api_Pending t_sl_api_Pending v50 v57 fun v59 G60 => wv (vfaddr T t_api_Ledger x24 2) fun v61 => wg (vstore T G60 t_sl_api_Pending v61 v59) fun G62 => wv (vbin T .add t_int x27 (.int .i64 1)) fun v68 => R20 [x22, x23, x24, x25, v48, v68] G62)
  (wv (vbin T .add t_int x27 (.int .i64 1)) fun v69 => R20 [x22, x23, x24, x25, x26, v69] G41))
  (wv (vbin T .add t_int x25 (.int .i64 1)) fun v71 => R13 [x22, x23, x24, v71] G33));
  wv (vfaddr T t_api_Ledger x22 2) fun v28 => wv (vload T G21 t_sl_api_Pending v28) fun v29 => wv (vlen T G21 t_sl_api_Pending v29) fun v30 => wv (vbin T .lss t_int x27 v30) fun v31 => brB (some v31)
  (wv (vbin T .lss t_int64 x26 (.int .i64 40)) fun v32 => J70 v32 G21)
  (J70 (.bool false) G21)) → R20 [x22, x23, x24, x25, x26, x27] G21) →
  R20 [.ptr i1 [] 0, .ptr i3 [] 0, .ptr i8 [] 0, .int .i64 k, .int .i64 0, .int .i64 0] G') := by
    intro side k acc G' s hacc hside hs hnext
    intro R20 hR20
    have lp : ∀ (m x : Nat) (n : Int) (acc' : List PenM) (s : AVal) (G' : Heap), l.length - x = m → x ≤ l.length → 0 ≤ n → acc' ++ madeS side n (l.drop x) = acc ++ madeS side 0 l → Sp [] G [OwnL 35 s (acc'.map PenM.av), RowL i8 (ledV o' q' s), RowL i3 (ledV 0 0 .nilSlice), RowL i1 (ledV o q v)] G' →
        R20 [.ptr i1 [] 0, .ptr i3 [] 0, .ptr i8 [] 0, .int .i64 k, .int .i64 n, .int .i64 (x : Int)] G' := by
      intro m
      induction m with
      | zero =>
        intro x n acc' s G' hn hx h0 he hs
        have : x = l.length := by omega
        subst this
        refine hR20 _ _ _ _ _ _ _ ?_
        intro J70
        show wv (vload T G' t_sl_api_Pending (.ptr i1 [2] 2)) _
        refine wv_of (led_load (i := 3) hs rfl hv).2.2.1 ?_
        refine wv_of (ln hs.ch) ?_
        rw [vbin_lss, wv_some, brB_dec]
        refine ⟨fun h => absurd h (by omega), fun _ => ?_⟩
        simp -zeta only [J70, brB_false]
        rw [vbin_add, wv_some]
        refine hnext _ s ?_
        rw [← he, List.drop_length]
        simpa [madeS] using hs
      | succ m ih =>
        intro x n acc' s G' hn hx h0 he hs
        obtain ⟨p, hp⟩ : ∃ p, l[x]? = some p := ⟨_, List.getElem?_eq_getElem (by omega)⟩
        have hpo := hok p (List.mem_of_getElem? hp)
        obtain ⟨a, ha, hla⟩ := pen_at (hl.ch' hs.ch) hp
        have hdr : l.drop x = p :: l.drop (x + 1) := by
          obtain ⟨hx, rfl⟩ := List.getElem?_eq_some_iff.1 hp
          exact List.drop_eq_getElem_cons hx
        refine hR20 _ _ _ _ _ _ _ ?_
        intro J70
        show wv (vload T G' t_sl_api_Pending (.ptr i1 [2] 2)) _
        refine wv_of (led_load (i := 3) hs rfl hv).2.2.1 ?_
        refine wv_of (ln hs.ch) ?_
        rw [vbin_lss, wv_some, brB_dec]
        refine ⟨fun _ => ?_, fun h => absurd (by omega) h⟩
        rw [vbin_lss, wv_some]
        by_cases h40 : n < 40
        · rw [decide_eq_true h40]
          simp -zeta only [J70, brB_true]
          rw [hdr, madeS, if_pos h40] at he
          show wv (vload T G' t_sl_api_Pending (.ptr i1 [2] 2)) _
          refine wv_of (led_load (i := 3) hs rfl hv).2.2.1 ?_
          rw [ha, wv_some, hla, wv_some]
          refine newVal hs T_api_Pending (PenM.fits hpo) (by rw [PenM.sz hpo]; rfl) (PenM.okv p) fun i43 G45 s45 => ?_
          obtain ⟨k0, k1, k2, k3⟩ := PenM.fld hpo (RowL.own (i := 0) s45 rfl)
          refine wv_of k0 ?_
          rw [vbin_eql, wv_some, vbin_beql T_bool rfl, wv_some, hside, brB_bool]
          refine ⟨fun h => ?_, fun h => ?_⟩
          · have hne : p.ours = side := by simpa using h
            rw [if_pos hne] at he
            have hmo := mk_ok hpo h0 h40
            rw [vbin_add, wv_some, i64_in (by omega) (by omega), k1, wv_some, andK p.id 2 (by decide) (m := 3) (M := 4) rfl rfl, wv_some, vbin_add, wv_some, i64_in (by omega) (by omega)]
            have ho0 := OwnL.own (i := 1) s45 rfl
            show wv (vload T G45 t_sl_api_Pending (.ptr i8 [2] 2)) _
            refine wv_of (led_load (i := 2) s45 rfl ho0.leaf).2.2.1 ?_
            refine wv_of k0 ?_
            refine wv_of k2 ?_
            rw [andK p.amount 59 (by decide) (m := 576460752303423487) (M := 576460752303423488) rfl rfl, wv_some, vbin_add, wv_some, i64_in (by omega) (by omega)]
            refine wv_of k3 ?_
            refine wv_of (build_pen hmo) ?_
            refine growV (T := T) (ts := t_sl_api_Pending) (e := t_api_Pending) (si := ti_sl_api_Pending) (ie := ti_api_Pending) (i := 1) T_sl_api_Pending rfl T_api_Pending rfl (by decide) s45 rfl (PenM.sz hmo) (PenM.okv _) (by decide) ?_ fun s57 G58 s58 => ?_
            · have : ti_api_Pending.bytes = 56 := rfl
              have h2 := length_madeS side l 0 (by decide)
              have h3 := congrArg List.length he
              rw [List.length_append, List.length_append, List.length_cons] at h3
              rw [List.length_map, this]
              omega
            show wg (vstore T G58 t_sl_api_Pending (.ptr i8 [2] 2) s57) _
            refine led_set (i := 2) s58 rfl ho0.leaf.1 (OwnL.own (i := 1) s58 rfl).leaf fun G60 s60 => ?_
            rw [vbin_add, wv_some, i64_in (by omega) (by omega)]
            refine ih (x + 1) _ (acc' ++ [mk n p]) s57 G60 (by omega) (by omega) (by omega) (by rw [← he]; simp) ?_
            rw [List.map_append]
            exact s60.erase 0
          · have hne : ¬ p.ours = side := by simpa using h
            rw [if_neg hne] at he
            rw [vbin_add, wv_some, i64_in (by omega) (by omega)]
            exact ih (x + 1) n acc' s G45 (by omega) (by omega) h0 he (s45.erase 0)
        · rw [decide_eq_false h40]
          simp -zeta only [J70, brB_false]
          rw [vbin_add, wv_some]
          refine hnext _ s ?_
          rw [madeS_done h40, List.append_nil] at he
          rw [← he]
          exact hs
    refine lp _ 0 0 acc s G' rfl (by omega) (by decide) (by simp) hs
  refine hR13 _ _ _ _ _ ?_
  rw [vbin_lss, wv_some, brB_dec]
  refine ⟨fun _ => ?_, fun h => absurd (by decide) h⟩
  refine inner true 0 [] G10 .nilSlice (by simp) (by decide) s12 fun G' s hs => ?_
  refine hR13 _ _ _ _ _ ?_
  rw [vbin_lss, wv_some, brB_dec]
  refine ⟨fun _ => ?_, fun h => absurd (by decide) h⟩
  refine inner false (IntKind.i64.wrap (0 + 1)) ([] ++ madeS true 0 l) G' s (by simpa using length_madeS true l 0 (by decide)) (by decide) hs fun G' s hs => ?_
  refine hR13 _ _ _ _ _ ?_
  rw [vbin_lss, wv_some, brB_dec]
  refine ⟨fun h => absurd h (by decide), fun _ => ?_⟩
  have ho0 := OwnL.own (i := 0) hs rfl
  refine wv_of (led_load (i := 1) hs rfl ho0.leaf).2.2.2 ?_
  refine led_store (i := 2) hs rfl rfl ho0.leaf fun G65 s65 => ?_
  refine wv_of (led_load (i := 2) s65 rfl ho0.leaf).2.2.2 ?_
  exact hQ s _ (((s65.erase 1).erase 1).erase 1)

end
end Go.Esc.M
