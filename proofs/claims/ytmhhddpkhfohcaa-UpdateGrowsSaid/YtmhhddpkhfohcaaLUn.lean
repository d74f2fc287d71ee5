/- Own work. Chapter 12: UpdateGrows. -/
import Derived.Test.YtmhhddpkhfohcaaLUm
import Derived.Test.YtmhhddpkhfohcaaLUj
import Derived.Test.YtmhhddpkhfohcaaLUk
set_option linter.unusedSimpArgs false
set_option linter.unusedVariables false
namespace Go.Esc.M
open Go Go.Esc

section
variable {F0 : List AId} {G0 G : Heap} {ps : List LP} {Q : AVal → Heap → Prop}

set_option maxHeartbeats 2000000 in
theorem escrowlaw12_may.use {v w : AVal} {A O : List UpdM} {u : UpdM} (hl : IsSl 36 G v (A.map UpdM.av)) (ho : IsSl 36 G w (O.map UpdM.av)) (hok : ∀ u ∈ A, u.ok) (hok2 : ∀ u ∈ O, u.ok) (hlen : A.length < 2048) (hlen2 : O.length ≤ 1000000) (hv : ∀ a ∈ A, validU a = true) (huo : u.ok)
    (hQ : ∀ G', Ch [] G [] G' → Q (.bool (decide (nextU A O u = 0))) G') : ACalls P escrowlaw12_may.n [v, w, u.av] G Q := by
  refine escrowlaw12_may.sound ?_
  unfold escrowlaw12_may.S
  rw [zUpd]
  intro i1 f1
  have s1 := (Sp.nil G).row f1 u.av
  refine wv_of (upd_load (i := 0) s1 rfl huo).2.2.2.2.2 ?_
  refine update_Valid.use huo fun G5 c5 => ?_
  have s5 := s1.tmp c5
  unfold nextU at hQ
  rw [if_neg (by omega)] at hQ
  rw [vun_not, wv_some]
  cases huv : validU u with
  | false =>
    rw [if_pos huv] at hQ
    exact hQ _ s5.ch
  | true =>
    rw [if_neg (by rw [huv]; decide)] at hQ
    rw [Bool.not_true, brB_false]
    intro R hR
    have loop : ∀ (n i : Nat), A.length - i = n → i ≤ A.length → R [v, w, .ptr i1 [] 0, .int .i64 (addsU (A.take i) : Nat), .bool (goneU (A.take i) u.id), .int .i64 (i : Int)] G5 := by
      intro n
      induction n with
      | zero =>
        intro i hn hi
        refine hR _ _ _ _ _ _ _ ?_
        refine wv_of (upd_len (hl.ch' s5.ch)) ?_
        rw [vbin_lss, wv_some, decide_eq_false (by omega), brB_false]
        have hiA : i = A.length := by omega
        subst hiA
        rw [List.take_length]
        refine wv_of (v := .ptr i1 [0] 0) rfl ?_
        refine wv_of (upd_load (i := 0) s5 rfl huo).1 ?_
        rw [vbin_eql, wv_some, brB_dec]
        refine ⟨fun hk1 => ?_, fun hk1 => ?_⟩
        · rw [if_pos hk1] at hQ
          refine wv_of (v := .ptr i1 [1] 1) rfl ?_
          refine wv_of (upd_load (i := 0) s5 rfl huo).2.1 ?_
          rw [vbin_eql, wv_some]
          have := hQ _ s5.ch
          by_cases hid : u.id = ((addsU A : Nat) : Int)
          · rw [if_pos hid] at this
            rw [decide_eq_true hid]
            exact this
          · rw [if_neg hid] at this
            rw [decide_eq_false hid]
            exact this
        · rw [if_neg hk1] at hQ
          refine wv_of (v := .ptr i1 [1] 1) rfl ?_
          refine wv_of (upd_load (i := 0) s5 rfl huo).2.1 ?_
          refine update_Find.use (ho.ch' s5.ch) hok2 (by omega) fun G49 c49 => ?_
          have s49 := s5.tmp c49
          have hf1 := firstU_ok (rm := false) (id := u.id) hok2
          obtain ⟨B, hB⟩ : ∃ A, A = firstU false u.id O := ⟨_, rfl⟩
          rw [← hB] at hf1 hQ ⊢
          rw [opt0, wv_some, opt1, wv_some]
          refine newU s49 hf1 fun i52 G54 s54 => ?_
          rw [gone_first hv]
          have := hQ _ s54.ch
          cases hBs : B.isSome with
          | false =>
            rw [brB_false]
            rwa [if_pos hBs] at this
          | true =>
            rw [if_neg (by rw [hBs]; decide)] at this
            rw [brB_true, vun_not, wv_some]
            cases hgs : (firstU true u.id A).isSome with
            | true =>
              rw [if_pos hgs] at this
              rw [Bool.not_true, brB_false]
              exact this
            | false =>
              rw [if_neg (by rw [hgs]; decide)] at this
              rw [Bool.not_false, brB_true]
              refine wv_of (v := .ptr i1 [0] 0) rfl ?_
              refine wv_of (upd_load (i := 1) s54 rfl huo).1 ?_
              rw [vbin_eql, wv_some, brB_dec]
              refine ⟨fun hk3 => ?_, fun hk3 => ?_⟩
              · rwa [if_neg (fun h => by omega)] at this
              · have hk2 : u.kind = 2 := by
                  have := kinds_valid huv
                  omega
                refine wv_of (v := .ptr i1 [3] 3) rfl ?_
                refine wv_of (upd_load (i := 1) s54 rfl huo).2.2.2.1 ?_
                refine wv_of (upd_load (i := 0) s54 rfl hf1).2.2.2.1 ?_
                refine escrowlaw12_sum.use huo.hash fun G63 c63 => ?_
                have s63 := s54.tmp c63
                refine ⟨⟨(upd_load (i := 0) s63 rfl hf1).2.2.2.1, trivial⟩, ?_⟩
                rw [hash_eql (length_sha' _) hf1.hash, wv_some]
                have := hQ _ s63.ch
                rw [if_neg (by rw [hBs]; decide), if_neg (by rw [hgs]; decide)] at this
                by_cases he : sha u.hash = (B.getD UpdM.zero).hash
                · rw [if_neg (fun h => h.2 he)] at this
                  rw [decide_eq_true he]
                  exact this
                · rw [if_pos ⟨hk2, he⟩] at this
                  rw [decide_eq_false he]
                  exact this
      | succ n ih =>
        intro i hn hi
        obtain ⟨x, hx⟩ : ∃ u, A[i]? = some u := ⟨_, List.getElem?_eq_getElem (by omega)⟩
        have hat := addsU_take hx
        have hle := addsU_le (A.take i)
        rw [List.length_take] at hle
        have hgt : goneU (A.take (i + 1)) u.id = (goneU (A.take i) u.id || (!decide (x.kind = 1) && decide (x.id = u.id))) := by
          unfold goneU
          rw [List.take_add_one, hx, List.any_append]
          simp
        have next := ih (i + 1) (by omega) (by omega)
        rw [hgt] at next
        refine hR _ _ _ _ _ _ _ ?_
        refine wv_of (upd_len (hl.ch' s5.ch)) ?_
        rw [vbin_lss, wv_some, decide_eq_true (by omega), brB_true]
        obtain ⟨a1, b1, e1, e2, e3⟩ := fldK (hl.ch' s5.ch) hx
        obtain ⟨a2, b2, e4, e5, e6⟩ := fldI (hl.ch' s5.ch) hx
        refine wv_of e1 ?_
        refine wv_of e2 ?_
        refine wv_of e3 ?_
        rw [vbin_eql, wv_some, brB_dec]
        refine ⟨fun hk1 => ?_, fun hk1 => ?_⟩
        · rw [if_pos hk1] at hat
          rw [decide_eq_true hk1, Bool.not_true, Bool.false_and, Bool.or_false] at next
          rw [vbin_add, wv_some, i64_in (by omega) (by omega), vbin_add, wv_some, i64_in (by omega) (by omega)]
          have e : ((addsU (A.take i) : Nat) : Int) + 1 = ((addsU (A.take (i + 1)) : Nat) : Int) := by omega
          rw [e]
          exact next
        · rw [if_neg hk1, Nat.add_zero] at hat
          rw [decide_eq_false hk1, Bool.not_false, Bool.true_and, hat] at next
          refine wv_of e4 ?_
          refine wv_of e5 ?_
          refine wv_of e6 ?_
          refine wv_of (v := .ptr i1 [1] 1) rfl ?_
          refine wv_of (upd_load (i := 0) s5 rfl huo).2.1 ?_
          rw [vbin_eql, wv_some, brB_dec]
          refine ⟨fun hid => ?_, fun hid => ?_⟩
          · rw [decide_eq_true hid, Bool.or_true] at next
            rw [vbin_add, wv_some, i64_in (by omega) (by omega)]
            exact next
          · rw [decide_eq_false hid, Bool.or_false] at next
            rw [vbin_add, wv_some, i64_in (by omega) (by omega)]
            exact next
    exact loop A.length 0 rfl (by omega)

end

structure WordM where
  two : Bool
  u : UpdM
  most : Int
  right : Bool
def WordM.av (w : WordM) : AVal := .agg [.bool w.two, w.u.av, .int .i64 w.most, .bool w.right]
def WordM.ok (w : WordM) : Prop := w.u.ok ∧ I64 w.most
theorem WordM.fits {w : WordM} (h : w.ok) : vfits ti_escrowlaw12_Word w.av = true := by
  have := UpdM.sz h.1
  simp [vfits, WordM.av, sz, szs, this, ti_escrowlaw12_Word, AVal.isAgg, ADesc.isAgg]
theorem wt_Words {G : Heap} {R d : Nat} {v : AVal} {m : Nat} (h : wt T G R (d + 5) t_sl_escrowlaw12_Word v m) : ∃ l : List WordM, RoSl 39 G v (l.map WordM.av) ∧ (∀ w ∈ l, w.ok) ∧ l.length * 96 ≤ R ∧ l.length ≤ maxLen := by
  obtain ⟨xs, ms, hro, hall, hms, hR, hm⟩ := wt_ro WordM.av (fun w m => w.ok) T_sl_escrowlaw12_Word rfl T_escrowlaw12_Word (fun c m h => by
    obtain ⟨cs, ms, rfl, hf, rfl⟩ := wt_struct T_escrowlaw12_Word rfl h
    obtain ⟨c1, cs, m1, ms, rfl, rfl, h1, hf⟩ := wfs_cons hf
    obtain ⟨c2, cs, m2, ms, rfl, rfl, h2, hf⟩ := wfs_cons hf
    obtain ⟨c3, cs, m3, ms, rfl, rfl, h3, hf⟩ := wfs_cons hf
    obtain ⟨c4, cs, m4, ms, rfl, rfl, h4, hf⟩ := wfs_cons hf
    obtain ⟨rfl, rfl⟩ := wfs_nil hf
    obtain ⟨a, rfl, _⟩ := wt_bool T_bool rfl h1
    obtain ⟨u, rfl, hu, _⟩ := wt_Upd h2
    obtain ⟨c, rfl, w3, _⟩ := wt_int T_int rfl h3
    obtain ⟨e, rfl, _⟩ := wt_bool T_bool rfl h4
    exact ⟨⟨a, u, c, e⟩, rfl, hu, i64_wf.1 w3⟩) h
  refine ⟨xs, hro, fun u hu => ?_, hR, hm⟩
  obtain ⟨m, hm, _⟩ := hall.mem hu
  exact hm

set_option maxRecDepth 20000 in
set_option maxHeartbeats 4000000 in
theorem law_UpdateGrows {G : Heap} {v : AVal} {m : Nat} (h1 : wt T G reachBytes 6 t_sl_escrowlaw12_Word v m) : ACalls P escrowlaw12_UpdateGrows.n [v] G fun v _ => v = .bool true := by
  obtain ⟨W, hW, hWok, _, hWl⟩ := wt_Words h1
  unfold maxLen at hWl
  refine escrowlaw12_UpdateGrows.sound ?_
  unfold escrowlaw12_UpdateGrows.S
  rw [zUpd]
  refine escrowlaw12_head.use fun G2 c2 => ?_
  have s2 := (Sp.nil G).tmp c2
  rw [vun_not, wv_some, Bool.not_true, brB_false]
  intro i4 f4
  have s4 := s2.row f4 z_ar2_api_Update
  intro R hR
  let Sps : (Nat → AVal) → (Nat → List UpdM) → List LP := fun X L => [RowL i4 (.agg [X 0, X 1]), OwnL 36 (X 0) ((L 0).map UpdM.av), OwnL 36 (X 1) ((L 1).map UpdM.av)]
  have hget : ∀ X L j, j = 0 ∨ j = 1 → (Sps X L)[1 + j]? = some (OwnL 36 (X j) ((L j).map UpdM.av)) := by
    intro X L j hj
    rcases hj with rfl | rfl <;> rfl
  have ld : ∀ {X : Nat → AVal} {L : Nat → List UpdM} {ps : List LP} {G' : Heap} {j : Nat} {t : Int} {q : Nat}, Sp [] G ps G' → ps[q]? = some (RowL i4 (.agg [X 0, X 1])) → sz (X 0) = 1 → sz (X 1) = 1 → (X 0).isAgg = false → (X 1).isAgg = false → (j = 0 ∨ j = 1) → t = (j : Int) →
      viaddr T t_ar2_api_Update (.ptr i4 [] 0) (.int .i64 t) = some (.ptr i4 [j] (0 + j * 1)) ∧ vload T G' t_sl_api_Update (.ptr i4 [j] (0 + j * 1)) = some (X j) := by
    intro X L ps G' j t q s hq z0 z1 a0 a1 hj ht
    refine ⟨arrN_addr T_ar2_api_Update rfl T_sl_api_Update ht (by omega), ?_⟩
    refine arrN_get (s := 1) T_sl_api_Update (RowL.own s hq) (by simp [uni, z0, z1]) (by rcases hj with rfl | rfl <;> rfl) ?_
    rcases hj with rfl | rfl
    · simp [vfits, z0, a0, ti_sl_api_Update, ADesc.isAgg]
    · simp [vfits, z1, a1, ti_sl_api_Update, ADesc.isAgg]
  have loop : ∀ (n i : Nat) (X : Nat → AVal) (L : Nat → List UpdM) G', 80 - i = n → i ≤ 80 → Sp [] G (Sps X L) G' → (∀ j, j = 0 ∨ j = 1 → (L j).length ≤ i ∧ (∀ u ∈ L j, u.ok ∧ validU u = true)) → SoundU (L 0) (L 1) → SoundU (L 1) (L 0) →
      R [v, .ptr i4 [] 0, .int .i64 (i : Int)] G' := by
    intro n
    induction n with
    | zero =>
      intro i X L G' hn hi s hL hs0 hs1
      refine hR _ _ _ _ ?_
      intro J122
      have h122 : J122 (.bool false) G' := by
        simp -zeta only [J122, brB_false]
      have hlen : vlen T G' t_sl_escrowlaw12_Word v = some (.int .i64 (W.length : Nat)) := by
        rw [(hW.mono s.ro).is.len (i := ti_sl_escrowlaw12_Word) T_sl_escrowlaw12_Word rfl, List.length_map]
      refine wv_of hlen ?_
      rw [vbin_lss, wv_some, brB_dec]
      refine ⟨fun _ => ?_, fun _ => h122⟩
      rw [vbin_lss, wv_some, decide_eq_false (by omega)]
      exact h122
    | succ n ih =>
      intro i X L G' hn hi s hL hs0 hs1
      refine hR _ _ _ _ ?_
      intro J122
      have h122 : J122 (.bool false) G' := by
        simp -zeta only [J122, brB_false]
      have hlen : vlen T G' t_sl_escrowlaw12_Word v = some (.int .i64 (W.length : Nat)) := by
        rw [(hW.mono s.ro).is.len (i := ti_sl_escrowlaw12_Word) T_sl_escrowlaw12_Word rfl, List.length_map]
      refine wv_of hlen ?_
      rw [vbin_lss, wv_some, brB_dec]
      refine ⟨fun hiW => ?_, fun _ => h122⟩
      rw [vbin_lss, wv_some, decide_eq_true (by omega)]
      simp -zeta only [J122, brB_true]
      obtain ⟨w, hw⟩ : ∃ w, W[i]? = some w := ⟨_, List.getElem?_eq_getElem (by omega)⟩
      obtain ⟨hwu, hwm⟩ := hWok w (List.mem_of_getElem? hw)
      obtain ⟨a, ha1, ha2⟩ := hW.elem (k := .i64) (j := i) (c := w.av) (i := ti_sl_escrowlaw12_Word) (ie := ti_escrowlaw12_Word) T_sl_escrowlaw12_Word rfl T_escrowlaw12_Word (by rw [List.getElem?_map, hw]; rfl) rfl
      refine wv_of ha1 ?_
      refine wv_of (ha2 _ s.ro) ?_
      refine newVal s T_escrowlaw12_Word (WordM.fits ⟨hwu, hwm⟩) (by rw [WordM.av, sz]; simp [szs, sz, UpdM.sz hwu]; rfl) (by simp [WordM.av, okv, okvs, UpdM.okv]) fun i18 G20 s20 => ?_
      have lw : ∀ {ps : List LP} {q : Nat} {G' : Heap}, Sp [] G ps G' → ps[q]? = some (RowL i18 w.av) → vload T G' t_bool (.ptr i18 [0] 0) = some (.bool w.two) ∧ vload T G' t_api_Update (.ptr i18 [1] 1) = some w.u.av ∧ vload T G' t_int (.ptr i18 [2] 37) = some (.int .i64 w.most) ∧ vload T G' t_bool (.ptr i18 [3] 38) = some (.bool w.right) := by
        intro ps q G' s hq
        have hg := RowL.own s hq
        refine ⟨vload_fld (c := .bool w.two) hg rfl rfl rfl T_bool rfl, vload_fld (c := w.u.av) hg rfl rfl rfl T_api_Update (UpdM.fits hwu), vload_fld (c := .int .i64 w.most) hg rfl ?_ rfl T_int rfl, vload_fld (c := .bool w.right) hg rfl ?_ rfl T_bool rfl⟩
        · simp [szs, sz, UpdM.sz hwu]
        · simp [szs, sz, UpdM.sz hwu]
      refine wv_of (lw (q := 0) s20 rfl).1 ?_
      intro J118
      have h118 : ∀ k : Nat, k = 0 ∨ k = 1 → J118 (.int .i64 (k : Int)) G20 := by
        intro k hk
        have hok' : 1 - k = 0 ∨ 1 - k = 1 := by omega
        simp -zeta only [J118]
        refine wv_of (lw (q := 0) s20 rfl).2.1 ?_
        refine newU s20 hwu fun i25 G27 s27 => ?_
        intro J117
        have h117 : ∀ b, J117 (.bool b) G27 := by
          intro b
          simp -zeta only [J117]
          intro J116
          have h116 : ∀ (u : UpdM) G40, u.ok → Sp [] G (RowL i25 u.av :: RowL i18 w.av :: Sps X L) G40 → J116 G40 := by
            intro u G40 hu s40
            simp -zeta only [J116]
            intro J115
            have h115 : ∀ b, J115 (.bool b) G40 := by
              intro b
              simp -zeta only [J115]
              intro J114
              have h114 : ∀ (u : UpdM) G52, u.ok → Sp [] G (RowL i25 u.av :: RowL i18 w.av :: Sps X L) G52 → J114 G52 := by
                intro u G52 hu s52
                simp -zeta only [J114]
                have own : ∀ {ps : List LP} {q : Nat} {G' : Heap} {j : Nat}, Sp [] G ps G' → ps[q]? = some (OwnL 36 (X j) ((L j).map UpdM.av)) → Own 36 G' (X j) ((L j).map UpdM.av) := by
                  intro ps q G' j s hq
                  obtain ⟨F, h, _⟩ := s.get hq
                  exact h
                have o0 := own (q := 3) (j := 0) s52 rfl
                have o1 := own (q := 4) (j := 1) s52 rfl
                obtain ⟨z0, a0, k0⟩ := o0.leaf
                obtain ⟨z1, a1, k1⟩ := o1.leaf
                have hpos : ∀ j, j = 0 ∨ j = 1 → (RowL i25 u.av :: RowL i18 w.av :: Sps X L)[3 + j]? = some (OwnL 36 (X j) ((L j).map UpdM.av)) := by
                  intro j hj
                  rcases hj with rfl | rfl <;> rfl
                have e1k : (1 : Int) - (k : Int) = ((1 - k : Nat) : Int) := by omega
                refine wv_of (lw (q := 1) s52 rfl).2.2.1 ?_
                refine wv_of (v := .int .i64 ((1 - k : Nat) : Int)) (by rw [vbin_sub, i64_in (by omega) (by omega), e1k]) ?_
                have hld := ld (X := X) (L := L) (q := 2) s52 rfl z0 z1 a0 a1 hok' rfl
                refine wv_of hld.1 ?_
                refine wv_of hld.2 ?_
                have oo := own s52 (hpos _ hok')
                refine wv_of (upd_len oo.is) ?_
                have hLl := (hL _ hok').1
                rw [vbin_add, i64_in (by omega) (by omega), wv_some]
                have eL : (((L (1 - k)).length : Nat) : Int) + 1 = (((L (1 - k)).length + 1 : Nat) : Int) := by omega
                rw [eL]
                refine wv_of (vbin_rem _ _ _ _ _ (by omega)) ?_
                obtain ⟨nn, hnl, hn1, hn2⟩ := abs_mod hwm (show 0 < (L (1 - k)).length + 1 by omega) (by omega)
                refine wv_of (by rw [vbin_lss]) ?_
                intro J113
                have h113 : J113 (.int .i64 (nn : Int)) G52 := by
                  simp -zeta only [J113]
                  refine wv_of (v := .int .i64 ((1 - k : Nat) : Int)) (by rw [vbin_sub, i64_in (by omega) (by omega), e1k]) ?_
                  refine wv_of hld.1 ?_
                  refine wv_of hld.2 ?_
                  obtain ⟨y, hy1, hy2⟩ := own_take (m := nn) oo (by rw [List.length_map]; omega)
                  refine wv_of hy1 ?_
                  have hldk := ld (X := X) (L := L) (q := 2) (t := (k : Int)) s52 rfl z0 z1 a0 a1 hk rfl
                  refine wv_of hldk.1 ?_
                  refine wv_of hldk.2 ?_
                  refine wv_of (upd_load (i := 0) s52 rfl hu).2.2.2.2.2 ?_
                  have hOk : ∀ u ∈ (L (1 - k)).take nn, u.ok := fun u hu => ((hL _ hok').2 u (List.mem_of_mem_take hu)).1
                  have hOl : ((L (1 - k)).take nn).length ≤ 1000000 := by rw [List.length_take]; omega
                  have hMl := (hL _ hk).1
                  have hMo : ∀ u ∈ L k, u.ok := fun u hu => ((hL _ hk).2 u hu).1
                  have hMv : ∀ u ∈ L k, validU u = true := fun u hu => ((hL _ hk).2 u hu).2
                  have om := own s52 (hpos _ hk)
                  have hy2' : ∀ {G' : Heap}, Own 36 G' (X (1 - k)) ((L (1 - k)).map UpdM.av) → IsSl 36 G' y (((L (1 - k)).take nn).map UpdM.av) := fun h => by
                    have := (hy2 h).is
                    rwa [← List.map_take] at this
                  refine update_Next.use om.is (hy2' oo) hMo hOk (by omega) (by omega) hu fun G72 c72 => ?_
                  have s72 := s52.tmp c72
                  intro J112
                  have h112 : J112 (.bool false) G72 := by
                    simp -zeta only [J112, brB_false]
                    refine wv_of (by rw [vbin_eql]) ?_
                    have hldk := ld (X := X) (L := L) (q := 2) (t := (k : Int)) s72 rfl z0 z1 a0 a1 hk rfl
                    refine wv_of hldk.1 ?_
                    refine wv_of hldk.2 ?_
                    refine wv_of (upd_load (i := 0) s72 rfl hu).2.2.2.2.2 ?_
                    refine escrowlaw12_may.use (own s72 (hpos _ hk)).is (hy2' (own s72 (hpos _ hok'))) hMo hOk (by omega) hOl hMv hu fun G82 c82 => ?_
                    have s82 := s72.tmp c82
                    rw [vbin_bneq T_bool rfl, wv_some, beq_self_eq_true, Bool.not_true, brB_false]
                    refine wv_of (by first | rfl | rw [vbin_eql]) ?_
                    intro J111
                    have h111 : ∀ X' L' G94 (u' : UpdM), Sp [] G (RowL i25 u'.av :: RowL i18 w.av :: Sps X' L') G94 → (∀ j, j = 0 ∨ j = 1 → (L' j).length ≤ i + 1 ∧ (∀ u ∈ L' j, u.ok ∧ validU u = true)) → SoundU (L' 0) (L' 1) → SoundU (L' 1) (L' 0) → J111 G94 := by
                      intro X' L' G94 u' s94 hL' hs0' hs1'
                      simp -zeta only [J111]
                      have ow : ∀ {G' : Heap}, Sp [] G (RowL i25 u'.av :: RowL i18 w.av :: Sps X' L') G' → Own 36 G' (X' 0) ((L' 0).map UpdM.av) ∧ Own 36 G' (X' 1) ((L' 1).map UpdM.av) := by
                        intro G' s
                        obtain ⟨F, h, _⟩ := s.get (i := 3) rfl
                        obtain ⟨F', h', _⟩ := s.get (i := 4) rfl
                        exact ⟨h, h'⟩
                      obtain ⟨o0, o1⟩ := ow s94
                      obtain ⟨z0, a0, k0⟩ := o0.leaf
                      obtain ⟨z1, a1, k1⟩ := o1.leaf
                      have l0 := ld (X := X') (L := L') (j := 0) (q := 2) (t := 0) s94 rfl z0 z1 a0 a1 (.inl rfl) rfl
                      have l1 := ld (X := X') (L := L') (j := 1) (q := 2) (t := 1) s94 rfl z0 z1 a0 a1 (.inr rfl) rfl
                      refine wv_of l0.1 ?_
                      refine wv_of l0.2 ?_
                      refine wv_of l1.1 ?_
                      refine wv_of l1.2 ?_
                      have b0 := hL' 0 (.inl rfl)
                      have b1 := hL' 1 (.inr rfl)
                      refine escrowlaw12_sound.use o0.is o1.is (fun u hu => (b0.2 u hu).1) (fun u hu => (b1.2 u hu).1) (by omega) (by omega) hs0' fun G100 c100 => ?_
                      have s100 := s94.tmp c100
                      rw [vun_not, wv_some, Bool.not_true, brB_false]
                      have l0 := ld (X := X') (L := L') (j := 0) (q := 2) (t := 0) s100 rfl z0 z1 a0 a1 (.inl rfl) rfl
                      have l1 := ld (X := X') (L := L') (j := 1) (q := 2) (t := 1) s100 rfl z0 z1 a0 a1 (.inr rfl) rfl
                      refine wv_of l1.1 ?_
                      refine wv_of l1.2 ?_
                      refine wv_of l0.1 ?_
                      refine wv_of l0.2 ?_
                      obtain ⟨o0, o1⟩ := ow s100
                      refine escrowlaw12_sound.use o1.is o0.is (fun u hu => (b1.2 u hu).1) (fun u hu => (b0.2 u hu).1) (by omega) (by omega) hs1' fun G107 c107 => ?_
                      have s107 := s100.tmp c107
                      rw [vun_not, wv_some, Bool.not_true, brB_false, vbin_add, wv_some, i64_in (by omega) (by omega)]
                      exact ih (i + 1) X' L' _ (by omega) (by omega) ((s107.erase 0).erase 0) hL' hs0' hs1'
                    rw [brB_dec]
                    refine ⟨fun hz => ?_, fun hz => ?_⟩
                    · have hldk := ld (X := X) (L := L) (q := 2) (t := (k : Int)) s82 rfl z0 z1 a0 a1 hk rfl
                      refine wv_of hldk.1 ?_
                      refine wv_of hldk.2 ?_
                      refine wv_of (upd_load (i := 0) s82 rfl hu).2.2.2.2.2 ?_
                      refine growV (T := T) (ts := t_sl_api_Update) (e := t_api_Update) (si := ti_sl_api_Update) (ie := ti_api_Update) (i := 3 + k) T_sl_api_Update rfl T_api_Update (by decide) (by decide) s82 (hpos _ hk) (UpdM.sz hu) (UpdM.okv _) (by decide) ?_ fun v2 G91 s91 => ?_
                      · rw [List.length_map]
                        have : ti_api_Update.bytes = 72 := rfl
                        rw [this]
                        omega
                      have hnu := nextU_zero hz
                      have hL2 : ∀ j, j = 0 ∨ j = 1 → ((fun j => if j = k then L k ++ [u] else L j) j).length ≤ i + 1 ∧ (∀ x ∈ (fun j => if j = k then L k ++ [u] else L j) j, x.ok ∧ validU x = true) := by
                        intro j hj
                        dsimp only
                        by_cases hjk : j = k
                        · rw [if_pos hjk]
                          refine ⟨by simp; omega, fun x hx => ?_⟩
                          rcases List.mem_append.1 hx with hx | hx
                          · exact (hL _ hk).2 x hx
                          · rw [List.mem_singleton.1 hx]; exact ⟨hu, hnu.1⟩
                        · rw [if_neg hjk]
                          exact ⟨by have := (hL _ hj).1; omega, (hL _ hj).2⟩
                      refine wv_of (ld (X := X) (L := L) (q := 2) (t := (k : Int)) s82 rfl z0 z1 a0 a1 hk rfl).1 ?_
                      have hown : G91 i4 = some (.own (.agg [X 0, X 1])) := by
                        refine RowL.own (i := 2) s91 ?_
                        rcases hk with rfl | rfl <;> rfl
                      have hv2 : sz v2 = 1 ∧ v2.isAgg = false ∧ okv v2 = true := by
                        obtain ⟨F, h, _⟩ := s91.get (i := 3 + k) (p := OwnL 36 v2 ((L k).map UpdM.av ++ [u.av])) (by rcases hk with rfl | rfl <;> rfl)
                        exact h.leaf
                      refine wg_of (arrN_set (s := 1) (u := X k) (c := v2) T_sl_api_Update hown (by simp [uni, z0, z1]) (by rcases hk with rfl | rfl <;> rfl) (by simp [vfits, hv2.1, hv2.2.1, ti_sl_api_Update, ADesc.isAgg]) (by rcases hk with rfl | rfl <;> simp [z0, z1, hv2.1]) hv2.2.2) ?_
                      have hsnd : SoundU (if 0 = k then L k ++ [u] else L 0) (if 1 = k then L k ++ [u] else L 1) ∧ SoundU (if 1 = k then L k ++ [u] else L 1) (if 0 = k then L k ++ [u] else L 0) := by
                        rcases hk with rfl | rfl
                        · exact sound_grow hs0 hs1 hMv hz
                        · exact ⟨(sound_grow hs1 hs0 hMv hz).2, (sound_grow hs1 hs0 hMv hz).1⟩
                      refine h111 (fun j => if j = k then v2 else X j) (fun j => if j = k then L k ++ [u] else L j) _ u ?_ hL2 hsnd.1 hsnd.2
                      rcases hk with rfl | rfl
                      · have := Sp.setRow (j := 2) s91 rfl (.agg [v2, X 1])
                        have e : ((L 0).map UpdM.av ++ [u.av]) = (L 0 ++ [u]).map UpdM.av := by rw [List.map_append]; rfl
                        rw [e] at this
                        exact this
                      · have := Sp.setRow (j := 2) s91 rfl (.agg [X 0, v2])
                        have e : ((L 1).map UpdM.av ++ [u.av]) = (L 1 ++ [u]).map UpdM.av := by rw [List.map_append]; rfl
                        rw [e] at this
                        exact this
                    · exact h111 X L _ u s82 (fun j hj => ⟨by have := (hL j hj).1; omega, (hL j hj).2⟩) hs0 hs1
                  rw [vbin_neq, wv_some, brB_ndec]
                  refine ⟨fun hne => ?_, fun _ => h112⟩
                  have h120 : nextU (L k) ((L (1 - k)).take nn) u = 120 := (nextU_small (by omega)).resolve_left hne
                  rw [h120, nz0, wv_some]
                  exact h112
                rw [brB_dec]
                refine ⟨fun h => ?_, fun h => ?_⟩
                · rw [vun_neg, wv_some, hn1 h]
                  exact h113
                · rw [hn2 h]
                  exact h113
              cases b with
              | true =>
                rw [brB_true]
                refine wv_of (lw (q := 1) s40 rfl).1 ?_
                rw [vun_not, wv_some]
                refine wv_of (upd_load (i := 0) s40 rfl hu).2.1 ?_
                refine escrowlaw12_preimage.use fun h G50 hh c50 => ?_
                have s50 := s40.tmp c50
                refine upd_hash hh hu s50 (i := 0) rfl fun G51 s51 => ?_
                exact h114 _ _ (mkok hu.kind hu.id hu.amount hh hu.note) s51
              | false =>
                rw [brB_false]
                exact h114 u _ hu s40
            refine wv_of (upd_load (i := 0) s40 rfl hu).1 ?_
            rw [vbin_eql, wv_some, brB_dec]
            refine ⟨fun _ => ?_, fun _ => h115 false⟩
            refine wv_of (lw (q := 1) s40 rfl).2.2.2 ?_
            exact h115 _
          cases b with
          | true =>
            rw [brB_true]
            refine wv_of (lw (q := 1) s27 rfl).1 ?_
            refine wv_of (upd_load (i := 0) s27 rfl hwu).2.1 ?_
            refine escrowlaw12_preimage.use fun h G36 hh c36 => ?_
            have s36 := s27.tmp c36
            refine escrowlaw12_sum.use hh fun G38 c38 => ?_
            have s38 := s36.tmp c38
            refine upd_hash (length_sha' _) hwu s38 (i := 0) rfl fun G39 s39 => ?_
            exact h116 _ _ (mkok hwu.kind hwu.id hwu.amount (length_sha' _) hwu.note) s39
          | false =>
            rw [brB_false]
            exact h116 w.u _ hwu s27
        refine wv_of (upd_load (i := 0) s27 rfl hwu).1 ?_
        rw [vbin_eql, wv_some, brB_dec]
        refine ⟨fun _ => ?_, fun _ => h117 false⟩
        refine wv_of (lw (q := 1) s27 rfl).2.2.2 ?_
        exact h117 _
      cases w.two with
      | true =>
        rw [brB_true]
        exact h118 1 (.inr rfl)
      | false =>
        rw [brB_false]
        exact h118 0 (.inl rfl)
  refine loop 80 0 (fun _ => .nilSlice) (fun _ => []) _ rfl (by omega) ?_ (fun j _ => ⟨by simp, by simp⟩) (SoundU.nil _) (SoundU.nil _)
  have hz : z_ar2_api_Update = .agg [.nilSlice, .nilSlice] := rfl
  rw [hz] at s4 ⊢
  have n1 : Sp [] G [OwnL 36 .nilSlice [], OwnL 36 .nilSlice []] G2 := (s2.new (p := OwnL 36 .nilSlice []) ⟨.inl ⟨rfl, rfl⟩, rfl⟩ (Ch.refl _ _)).new (p := OwnL 36 .nilSlice []) ⟨.inl ⟨rfl, rfl⟩, rfl⟩ (Ch.refl _ _)
  exact n1.row f4 _

end Go.Esc.M
