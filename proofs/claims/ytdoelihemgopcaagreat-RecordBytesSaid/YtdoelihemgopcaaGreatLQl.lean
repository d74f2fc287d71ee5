import Derived.Test.YtdoelihemgopcaaGreatLQh
import Derived.Test.YtdoelihemgopcaaGreatLSh
import Derived.Test.YtdoelihemgopcaaGreatLQd
import Derived.Test.YtdoelihemgopcaaGreatLFb
/- Own work. Chapter 17: Read, in the document: the walk. -/
set_option linter.unusedSimpArgs false
set_option linter.unusedVariables false
set_option maxRecDepth 20000
namespace Go.Esc.M
open Go Go.Esc

section
variable {F0 : List AId} {G0 G : Heap} {ps : List LP} {Q : AVal → Heap → Prop}

theorem rdR {id : AId} {st st' : List UInt8 × Int} {out : AVal} {n : FuncId} {args : List AVal} {i : Nat} {K : AVal → Heap → Prop} (hs : Sp F0 G0 ps G) (hi : ps[i]? = some (RdRL id st))
    (huse : ∀ {G : Heap} {Q : AVal → Heap → Prop}, RdR id st G → (∀ G', RdR id st' G' → Ch [id] G [id] G' → Q out G') → ACalls P n args G Q)
    (hK : ∀ G', Sp F0 G0 (ps.set i (RdRL id st')) G' → K out G') : ACalls P n args G K := by
  refine hs.call hi (RdRL id st') fun F h k => ?_
  obtain ⟨h, rfl⟩ := h
  exact huse h fun G' r c => hK _ (k _ _ ⟨r, rfl⟩ c)
theorem RdRL.rd {id : AId} {st : List UInt8 × Int} {i : Nat} (h : Sp F0 G0 ps G) (hi : ps[i]? = some (RdRL id st)) : RdR id st G := by
  obtain ⟨F, h, _⟩ := h.get hi
  exact h
theorem rc17_count {id : AId} {st : List UInt8 × Int} {i : Nat} {K : AVal → Heap → Prop} (hs : Sp F0 G0 ps G) (hi : ps[i]? = some (RdRL id st)) (hK : ∀ G', Sp F0 G0 (ps.set i (RdRL id (takes st 2).2)) G' → K (.int .i64 ((num (takes st 2).1 : Nat) : Int)) G') : ACalls P escrowref17_count.n [.ptr id [] 0] G K := by
  refine escrowref17_count.sound ?_
  unfold escrowref17_count.S
  have n1 := n2_lt st
  refine rdR hs hi (fun h k => escrowref03_Reader_U16.use h k) fun G2 s2 => ?_
  rw [vconv_int T_uint16 T_int rfl, i64_in (by omega) (by omega), wv_some]
  exact hK _ s2

set_option maxHeartbeats 2000000 in
/-- The updates of a came record. -/
theorem escrowref17_came.use {id : AId} {st : List UInt8 × Int} {rest : List LP} (hs : Sp [] G0 (RdRL id st :: rest) G) (hbl : st.1.length ≤ 9223372036854775807)
    (hno : readL (num (takes st 2).1) (takes st 2).2.1 = none → ∀ st' G', Sp [] G0 (RdRL id st' :: rest) G' → Q (.tuple [.nilSlice, .bool false]) G')
    (hQ : ∀ l t w G', readL (num (takes st 2).1) (takes st 2).2.1 = some (l, t) → Sp [] G0 (OwnL 36 w (l.map UpdM.av) :: RdRL id (t, (takes st 2).2.2) :: rest) G' → Q (.tuple [w, .bool true]) G') : ACalls P escrowref17_came.n [.ptr id [] 0] G Q := by
  refine escrowref17_came.sound ?_
  unfold escrowref17_came.S
  have n1 := n2_lt st
  have l1 := takes_le st 2
  have hz : (takes st 2).2.2 ≠ 0 → (takes st 2).1 = [] := fun h => by
    unfold takes at h ⊢
    split
    · split
      · rfl
      · rename_i h0 h1
        rw [if_pos h0, if_neg h1] at h
        exact absurd rfl h
    · rfl
  refine rc17_count (i := 0) hs rfl fun G2 s2 => ?_
  obtain ⟨C, hC⟩ : ∃ C, C = takes st 2 := ⟨_, rfl⟩
  rw [← hC] at hno hQ s2 n1 l1 hz ⊢
  have s2 : Sp [] G0 (RdRL id C.2 :: rest) G2 := s2
  obtain ⟨n, hn⟩ : ∃ n, n = num C.1 := ⟨_, rfl⟩
  rw [← hn] at hno hQ n1 ⊢
  intro R hR
  have loop : ∀ (m j : Nat) (c : List UInt8) (acc : List UpdM) (w : AVal) (G' : Heap), n - j = m → j ≤ n → acc.length = j → c.length ≤ 9223372036854775807 → readL n C.2.1 = (readL m c).map (fun x => (acc ++ x.1, x.2)) → Sp [] G0 (OwnL 36 w (acc.map UpdM.av) :: RdRL id (c, C.2.2) :: rest) G' →
      R [.ptr id [] 0, .int .i64 (n : Nat), w, .int .i64 (j : Int)] G' := by
    intro m
    induction m with
    | zero =>
      intro j c acc w G' hm hj ha hc he s
      refine hR _ _ _ _ _ ?_
      rw [vbin_lss, wv_some, brB_dec]
      refine ⟨fun h => absurd h (by omega), fun _ => ?_⟩
      rw [readL] at he
      simp only [Option.map_some, List.append_nil] at he
      exact hQ acc c w G' he s
    | succ m ih =>
      intro j c acc w G' hm hj ha hc he s
      have hC0 : C.2.2 = 0 := by
        by_cases h : C.2.2 = 0
        · exact h
        · have := hz h
          rw [this] at hn
          have : num ([] : List UInt8) = 0 := rfl
          omega
      refine hR _ _ _ _ _ ?_
      rw [vbin_lss, wv_some, brB_dec]
      refine ⟨fun _ => ?_, fun h => absurd (by omega) h⟩
      refine escrowref03_Reader_Rest.use (RdRL.rd (i := 1) s rfl) ?_
      refine escrowref12_Read.use hc fun G13 c13 => ?_
      have s13 := s.tmp c13
      have huo := readU_ok hc
      have hlen := @readU_len c hc
      rw [readL] at he
      obtain ⟨X, hX⟩ : ∃ X, X = readU c := ⟨_, rfl⟩
      rw [← hX] at he huo hlen ⊢
      refine wv_of (u_loc0).1 ?_
      refine wv_of (u_loc0).2.1 ?_
      refine wv_of (u_loc0).2.2 ?_
      refine newU s13 huo fun i17 G19 s19 => ?_
      rw [vbin_neq, wv_some, brB_ndec]
      refine ⟨fun h1 => ?_, fun h1 => ?_⟩
      · rw [if_neg h1] at he
        exact hno he _ _ ((s19.erase 0).erase 0)
      · rw [if_pos h1] at he
        obtain ⟨k, hk1, hk2, _⟩ := hlen h1
        clear hlen
        have hr : (raws (c, C.2.2) X.2.1).2 = (c.drop k, C.2.2) := by
          unfold raws
          rw [if_neg (by rintro ⟨_, h⟩; rw [hk1] at h; omega), hC0, hk1, takes_ok (by omega), Int.toNat_natCast]
        refine rdR (i := 2) s19 rfl (fun h k => escrowref03_Reader_Raw.use h k) fun G22 s22 => ?_
        rw [hr] at s22
        refine wv_of (upd_load (i := 0) s22 rfl huo).2.2.2.2.2 ?_
        refine growV (T := T) (ts := t_sl_api_Update) (e := t_api_Update) (si := ti_sl_api_Update) (ie := ti_api_Update) (i := 1) (vs := acc.map UpdM.av) T_sl_api_Update rfl T_api_Update rfl (by decide) s22 rfl (UpdM.sz huo) (UpdM.okv _) (by decide) (by rw [List.length_map]; simp only [ti_api_Update]; omega) fun w' G27 s27 => ?_
        rw [vbin_add, i64_in (by omega) (by omega), wv_some]
        rw [hk1, Int.toNat_natCast] at he
        refine ih (j + 1) (c.drop k) (acc ++ [X.1]) w' G27 (by omega) (by omega) (by simp [ha]) (by rw [List.length_drop]; omega) ?_ ?_
        · rw [he, Option.map_map]
          congr 1
          funext x
          simp
        · have := s27.erase 0
          rw [List.map_append]
          exact this
  refine loop n 0 C.2.1 [] .nilSlice G2 rfl (by omega) rfl (by omega) ?_ (s2.nilL 36)
  cases readL n C.2.1 <;> simp

set_option maxHeartbeats 8000000 in
theorem escrowref17_Read.use {b : List UInt8} (hbl : b.length ≤ 140737488351232)
    (hQ : ∀ w G', Sp [] G [OwnL 36 w ((readR b).l.map UpdM.av)] G' → Q (.tuple [(readR b).x.av w, .int .i64 (readR b).n, .int .i64 (readR b).e]) G') : ACalls P escrowref17_Read.n [.str b] G Q := by
  refine escrowref17_Read.sound ?_
  unfold escrowref17_Read.S
  rw [zRec]
  have hlen := @par_len b (by omega)
  intro i1 f1
  have s1 := (Sp.nil G).row f1 (RcM.zero.av .nilSlice)
  refine escrowref03_Open.use fun ir G4 r4 c4 => ?_
  have s4 := s1.new (p := RdRL ir (b, 0)) ⟨r4, rfl⟩ c4
  refine rdR (i := 0) s4 rfl (fun h k => escrowref03_Reader_U8.use h k) fun G6 s6 => ?_
  have hk8 := kOf_lt b
  have hsl := s1_le b
  have s6 : Sp [] G [RdRL ir (s1Of b), RowL i1 (RcM.zero.av .nilSlice)] G6 := s6
  show wv (vconv T G6 t_uint8 t_int (.int .u8 ((kOf b : Nat) : Int))) _
  unfold readR at hQ
  unfold parR at hlen hQ
  obtain ⟨k, hkk⟩ : ∃ k, k = kOf b := ⟨_, rfl⟩
  obtain ⟨S, hS⟩ : ∃ S, S = s1Of b := ⟨_, rfl⟩
  rw [← hkk] at hk8 hlen hQ ⊢
  rw [← hS] at hsl hlen hQ s6
  rw [vconv_int T_uint8 T_int rfl, i64_in (by omega) (by omega), wv_some]
  have hz : (rk (k : Nat)).ok := rk_ok (i64_n _ (by omega) (by omega))
  refine wv_of (v := (rk (k : Nat)).av .nilSlice) bR0 ?_
  refine Rc.nw s6 hz Leaf.nil fun i9 G11 s11 => ?_
  refine wv_of (Rc.ld_kind (RowL.own (i := 0) s11 rfl) hz Leaf.nil) ?_
  intro J100
  have fin : ∀ (p q : ParM) (w : AVal) (G' : Heap), (p.ok = true ∧ p.st.2 = 0 ∧ validR p.x p.l = true → q = p) → (¬ (p.ok = true ∧ p.st.2 = 0 ∧ validR p.x p.l = true) → ¬ (q.ok = true ∧ q.st.2 = 0 ∧ validR q.x q.l = true)) → p.x.ok → (∀ u ∈ p.l, u.ok) → p.l.length ≤ 140737488351232 →
      (q.ok = true → q.st.2 = 0 → validR q.x q.l = true → (bytesR q.x q.l).length = b.length - q.st.1.length) →
      (∀ w G', Sp [] G [OwnL 36 w ((if q.ok = true ∧ q.st.2 = 0 ∧ validR q.x q.l = true then (⟨q.x, q.l, ((b.length - q.st.1.length : Nat) : Int), 0⟩ : OutM) else ⟨RcM.zero, [], 0, 170⟩).l.map UpdM.av)] G' → Q (.tuple [(if q.ok = true ∧ q.st.2 = 0 ∧ validR q.x q.l = true then (⟨q.x, q.l, ((b.length - q.st.1.length : Nat) : Int), 0⟩ : OutM) else ⟨RcM.zero, [], 0, 170⟩).x.av w, .int .i64 (if q.ok = true ∧ q.st.2 = 0 ∧ validR q.x q.l = true then (⟨q.x, q.l, ((b.length - q.st.1.length : Nat) : Int), 0⟩ : OutM) else ⟨RcM.zero, [], 0, 170⟩).n, .int .i64 (if q.ok = true ∧ q.st.2 = 0 ∧ validR q.x q.l = true then (⟨q.x, q.l, ((b.length - q.st.1.length : Nat) : Int), 0⟩ : OutM) else ⟨RcM.zero, [], 0, 170⟩).e]) G') →
      Sp [] G [RdRL ir p.st, OwnL 36 w (p.l.map UpdM.av), RowL i9 (p.x.av w), RowL i1 (RcM.zero.av .nilSlice)] G' → J100 (.bool p.ok) G' := by
    intro p q w G' hpq hnn hx hl hll hlen hQ s
    have lw := (OwnL.own (i := 1) s rfl).leaf
    simp -zeta only [J100]
    refine wv_of (Rc.ld (RowL.own (i := 2) s rfl) hx lw) ?_
    refine escrowref17_Write.use hx lw (OwnL.own (i := 1) s rfl).is hl hll fun G82 c82 => ?_
    have s82 := s.tmp c82
    have s82 : Sp [] G [RdRL ir p.st, OwnL 36 w (p.l.map UpdM.av), RowL i9 (p.x.av w), RowL i1 (RcM.zero.av .nilSlice)] G82 := s82
    refine wv_of (tv0 _ _) ?_
    refine wv_of (tv1 _ _) ?_
    intro J99
    have bad : ¬ (p.ok = true ∧ p.st.2 = 0 ∧ validR p.x p.l = true) → J99 (.bool true) G82 := by
      intro hb
      simp only [if_neg (hnn hb)] at hQ
      simp -zeta only [J99, brB_true]
      refine wv_of build_rc0 ?_
      refine Rc.st (i := 3) s82 rfl RcM.zero_ok Leaf.nil RcM.zero_ok Leaf.nil fun G115 s115 => ?_
      refine wv_of (Rc.ld (RowL.own (i := 3) s115 rfl) RcM.zero_ok Leaf.nil) ?_
      exact hQ .nilSlice _ (((((s115.erase 0).erase 0).erase 0).erase 0).nilL 36)
    have good : (p.ok = true ∧ p.st.2 = 0 ∧ validR p.x p.l = true) → J99 (.bool false) G82 := by
      intro hb
      have e := hpq hb
      rw [e] at hQ hlen
      simp only [if_pos hb] at hQ
      simp -zeta only [J99, brB_false]
      refine wv_of (Rc.ld (RowL.own (i := 2) s82 rfl) hx lw) ?_
      have hw : (wrR p.x p.l).1 = bytesR p.x p.l := by unfold wrR; rw [hb.2.2]; rfl
      rw [hw]
      refine wv_of (v := .int .i64 ((bytesR p.x p.l).length : Nat)) rfl ?_
      refine Rc.st (i := 3) s82 rfl RcM.zero_ok Leaf.nil hx lw fun G97 s97 => ?_
      refine wv_of (Rc.ld (RowL.own (i := 3) s97 rfl) hx lw) ?_
      rw [hlen hb.1 hb.2.1 hb.2.2]
      exact hQ w _ (((s97.erase 0).erase 1).erase 1)
    rw [vun_not, wv_some]
    cases hok : p.ok with
    | false =>
      rw [Bool.not_false, brB_true]
      exact bad (by rw [hok]; simp)
    | true =>
      rw [Bool.not_true, brB_false]
      refine escrowref03_Reader_Err.use (RdRL.rd (i := 0) s82 rfl) ?_
      rw [vbin_neq, wv_some, brB_ndec]
      refine ⟨fun h => bad (by rintro ⟨_, h2, _⟩; exact h h2), fun h => ?_⟩
      rw [vbin_neq, wv_some]
      cases hv : validR p.x p.l with
      | false =>
        have : (wrR p.x p.l).2 = 170 := by unfold wrR; rw [hv]; rfl
        rw [this]
        exact bad (by rw [hv]; simp)
      | true =>
        have : (wrR p.x p.l).2 = 0 := by unfold wrR; rw [hv]; rfl
        rw [this]
        exact good ⟨hok, h, hv⟩
  have s11 : Sp [] G [RdRL ir S, OwnL 36 .nilSlice (([] : List UpdM).map UpdM.av), RowL i9 ((rk (k : Nat)).av .nilSlice), RowL i1 (RcM.zero.av .nilSlice)] G11 := sp_swap ((sp_swap s11).nilL 36)
  clear s6
  have hnl : ∀ u ∈ ([] : List UpdM), u.ok := fun u hu => by cases hu
  have hn0 : ([] : List UpdM).length ≤ 140737488351232 := by simp
  have idp : ∀ p : ParM, (p.ok = true ∧ p.st.2 = 0 ∧ validR p.x p.l = true → p = p) := fun p _ => rfl
  have idn : ∀ p : ParM, (¬ (p.ok = true ∧ p.st.2 = 0 ∧ validR p.x p.l = true) → ¬ (p.ok = true ∧ p.st.2 = 0 ∧ validR p.x p.l = true)) := fun p h => h
  rw [vbin_eql, wv_some, brB_dec]
  refine ⟨fun h => ?_, fun h1 => ?_⟩
  · have hk : k = 1 := by have h : ((k : Nat) : Int) = 1 := h; omega
    subst hk
    rw [if_pos rfl] at hlen hQ
    have hS0 : S.2 = 0 := by
      by_cases hn : b = []
      · rw [hn] at hkk; exact absurd hkk (by decide)
      · rw [hS]; unfold s1Of
        rw [takes_ok (by cases b with | nil => exact absurd rfl hn | cons x b => simp only [List.length_cons]; omega)]
    refine escrowref03_Reader_Rest.use (RdRL.rd (i := 0) s11 rfl) ?_
    refine escrowref12_Read.use (by omega) fun G17 c17 => ?_
    have s17 := s11.tmp c17
    have huo := @readU_ok S.1 (by omega)
    have hul := @readU_len S.1 (by omega)
    have hcs := @readU_cases S.1 (by omega)
    have hp1 : par1 S = if (readU S.1).2.2 = 0 then ⟨{ rk 1 with upd := (readU S.1).1 }, [], (S.1.drop (readU S.1).2.1.toNat, 0), true⟩ else ⟨rk 1, [], S, false⟩ := by
      unfold par1
      rw [readL]
      by_cases hh : (readU S.1).2.2 = 0
      · rw [if_pos hh, if_pos hh, readL]; rfl
      · rw [if_neg hh, if_neg hh]
    obtain ⟨X, hX⟩ : ∃ X, X = readU S.1 := ⟨_, rfl⟩
    rw [← hX] at huo hul hcs hp1 ⊢
    refine wv_of (u_loc0).1 ?_
    refine wv_of (u_loc0).2.1 ?_
    refine wv_of (u_loc0).2.2 ?_
    refine newU s17 huo fun i21 G23 s23 => ?_
    rw [vbin_eql, wv_some]
    refine rdR (i := 1) s23 rfl (fun h k => escrowref03_Reader_Raw.use h k) fun G26 s26 => ?_
    refine wv_of (upd_load (i := 0) s26 rfl huo).2.2.2.2.2 ?_
    refine Rc.st_upd (i := 3) s26 rfl hz Leaf.nil huo fun G28 s28 => ?_
    have s28 := s28.erase 0
    have hx : ({ rk 1 with upd := X.1 } : RcM).ok := ⟨i64_n 1 (by decide) (by decide), huo, i64_0, i64_0, i64_0, rfl, rfl, rfl, i64_0⟩
    by_cases h5 : X.2.2 = 0
    · rw [if_pos h5] at hp1
      obtain ⟨n, n1, n2, _⟩ := hul h5
      have hr : (raws S X.2.1).2 = (S.1.drop X.2.1.toNat, 0) := by
        unfold raws
        obtain ⟨s, f⟩ := S
        simp only at hS0 n2
        subst hS0
        rw [if_neg (by rintro ⟨_, h⟩; rw [n1] at h; omega), n1, takes_ok (by omega)]
      rw [hr] at s28
      rw [hp1] at hQ hlen
      rw [decide_eq_true h5]
      exact fin ⟨{ rk 1 with upd := X.1 }, [], (S.1.drop X.2.1.toNat, 0), true⟩ _ .nilSlice G28 (idp _) (idn _) hx hnl hn0 hlen hQ s28
    · rw [if_neg h5] at hp1
      rw [hp1] at hQ hlen
      rw [decide_eq_false h5]
      exact fin ⟨{ rk 1 with upd := X.1 }, [], (raws S X.2.1).2, false⟩ ⟨rk 1, [], S, false⟩ .nilSlice G28 (by rintro ⟨h, _⟩; cases h) (by rintro _ ⟨h, _⟩; cases h) hx hnl hn0 hlen hQ s28
  rw [if_neg (show ¬ k = 1 from fun e => h1 (by rw [e]; rfl))] at hlen hQ
  rw [vbin_eql, wv_some, brB_dec]
  refine ⟨fun h => ?_, fun h2 => ?_⟩
  · have hk : k = 2 := by have h : ((k : Nat) : Int) = 2 := h; omega
    subst hk
    rw [if_pos rfl] at hlen hQ
    refine rdR (i := 0) s11 rfl (fun h k => escrowref03_Reader_I64.use h k) fun G30 s30 => ?_
    refine Rc.st_index (i := 2) s30 rfl hz Leaf.nil _ fun G31 s31 => ?_
    refine rc17_count (i := 0) s31 rfl fun G33 s33 => ?_
    have hz1 : ({ rk 2 with index := iOf (takes S 8).1 } : RcM).ok := ⟨hz.kind, UpdM.zero_ok, iOf_ok _, i64_0, i64_0, rfl, rfl, rfl, i64_0⟩
    refine Rc.st_cntA (s := { rk 2 with index := iOf (takes S 8).1 }) (i := 2) s33 rfl hz1 Leaf.nil _ fun G35 s35 => ?_
    refine rc17_count (i := 0) s35 rfl fun G37 s37 => ?_
    have hz2 : ({ rk 2 with index := iOf (takes S 8).1, cntA := (num (takes (takes S 8).2 2).1 : Nat) } : RcM).ok := ⟨hz.kind, UpdM.zero_ok, iOf_ok _, n2_i64 _, i64_0, rfl, rfl, rfl, i64_0⟩
    refine Rc.st_cntB (s := { rk 2 with index := iOf (takes S 8).1, cntA := (num (takes (takes S 8).2 2).1 : Nat) }) (i := 2) s37 rfl hz2 Leaf.nil _ fun G39 s39 => ?_
    have hz3 : (par2 S).x.ok := ⟨hz.kind, UpdM.zero_ok, iOf_ok _, n2_i64 _, n2_i64 _, rfl, rfl, rfl, i64_0⟩
    exact fin (par2 S) _ .nilSlice G39 (idp _) (idn _) hz3 hnl hn0 hlen hQ s39
  rw [if_neg (show ¬ k = 2 from fun e => h2 (by rw [e]; rfl))] at hlen hQ
  rw [vbin_eql, wv_some, brB_dec]
  refine ⟨fun h => ?_, fun h3 => ?_⟩
  · have hk : k = 3 := by have h : ((k : Nat) : Int) = 3 := h; omega
    subst hk
    rw [if_pos rfl] at hlen hQ
    have l1 := takes_le S 8
    have l2 := takes_le (takes S 8).2 2
    have n1 := n2_lt (takes S 8).2
    refine rdR (i := 0) s11 rfl (fun h k => escrowref03_Reader_I64.use h k) fun G41 s41 => ?_
    refine Rc.st_index (i := 2) s41 rfl hz Leaf.nil _ fun G42 s42 => ?_
    have s42 : Sp [] G [RdRL ir (takes S 8).2, OwnL 36 .nilSlice (([] : List UpdM).map UpdM.av), RowL i9 (({ rk 3 with index := iOf (takes S 8).1 } : RcM).av .nilSlice), RowL i1 (RcM.zero.av .nilSlice)] G42 := s42
    have hz1 : ({ rk 3 with index := iOf (takes S 8).1 } : RcM).ok := ⟨hz.kind, UpdM.zero_ok, iOf_ok _, i64_0, i64_0, rfl, rfl, rfl, i64_0⟩
    refine escrowref17_came.use s42 (by omega) (fun hno st' G' s' => ?_) (fun l t w G' hl s' => ?_)
    · refine wv_of (tv0 _ _) ?_
      refine wv_of (tv1 _ _) ?_
      refine Rc.st_upds (i := 2) s' rfl hz1 Leaf.nil Leaf.nil fun G47 s47 => ?_
      refine rdR (i := 0) s47 rfl (fun h k => escrowref03_Reader_Hash.use h k) fun G49 s49 => ?_
      refine Rc.st_sig (s := { rk 3 with index := iOf (takes S 8).1 }) (i := 2) s49 rfl hz1 Leaf.nil (fill_tk _) fun G50 s50 => ?_
      have hz2 : ({ rk 3 with index := iOf (takes S 8).1, sig := fill 32 (takes st' 32).1 } : RcM).ok := ⟨hz.kind, UpdM.zero_ok, iOf_ok _, i64_0, i64_0, fill_tk _, rfl, rfl, i64_0⟩
      refine fin ⟨{ rk 3 with index := iOf (takes S 8).1, sig := fill 32 (takes st' 32).1 }, [], (takes st' 32).2, false⟩ (par3 S) .nilSlice G50 (by rintro ⟨h, _⟩; cases h) (fun _ => ?_) hz2 hnl hn0 hlen hQ s50
      rintro ⟨h, _⟩
      unfold par3 at h
      dsimp only at h
      split at h
      · rw [hno] at h; cases h
      · cases h
    · obtain ⟨hlt, hll⟩ := readL_le _ hl
      have hlo := readL_ok _ (by omega) hl
      refine wv_of (tv0 _ _) ?_
      refine wv_of (tv1 _ _) ?_
      have lw := (OwnL.own (i := 0) s' rfl).leaf
      refine Rc.st_upds (i := 3) s' rfl hz1 Leaf.nil lw fun G47 s47 => ?_
      refine rdR (i := 1) s47 rfl (fun h k => escrowref03_Reader_Hash.use h k) fun G49 s49 => ?_
      refine Rc.st_sig (s := { rk 3 with index := iOf (takes S 8).1 }) (i := 3) s49 rfl hz1 lw (fill_tk _) fun G50 s50 => ?_
      have s50 := sp_swap (s50.erase 2)
      obtain ⟨C, hC⟩ : ∃ C, C = takes (takes S 8).2 2 := ⟨_, rfl⟩
      rw [← hC] at hl n1 hll s50
      have hz2 : ({ rk 3 with index := iOf (takes S 8).1, sig := fill 32 (takes (t, C.2.2) 32).1 } : RcM).ok := ⟨hz.kind, UpdM.zero_ok, iOf_ok _, i64_0, i64_0, fill_tk _, rfl, rfl, i64_0⟩
      have hp3 : C.2.2 = 0 → num C.1 ≤ 512 → par3 S = ⟨{ rk 3 with index := iOf (takes S 8).1, sig := fill 32 (takes (t, C.2.2) 32).1 }, l, (takes (t, C.2.2) 32).2, true⟩ := by
        intro h0 h5
        unfold par3; dsimp only
        rw [← hC, if_pos ⟨h0, h5⟩, hl, h0]
      refine fin ⟨{ rk 3 with index := iOf (takes S 8).1, sig := fill 32 (takes (t, C.2.2) 32).1 }, l, (takes (t, C.2.2) 32).2, true⟩ (par3 S) w G50 ?_ ?_ hz2 hlo (by show l.length ≤ _; omega) hlen hQ s50
      · rintro ⟨_, h2, h3⟩
        have h0 : C.2.2 = 0 := (takes_fin (s := (t, C.2.2)) (n := 32) h2).1
        refine hp3 h0 ?_
        obtain ⟨_, hv, _⟩ := valR_spec h3
        unfold validK at hv
        rw [if_neg (show ¬ (rk 3).kind = 1 from (by decide : ¬ (3 : Int) = 1)), if_neg (show ¬ (rk 3).kind = 2 from (by decide : ¬ (3 : Int) = 2)), if_pos (show (rk 3).kind = 3 from rfl)] at hv
        simp only [Bool.and_eq_true, decide_eq_true_eq] at hv
        have := hv.2.1
        omega
      · intro hb hq
        by_cases h0 : C.2.2 = 0 ∧ num C.1 ≤ 512
        · rw [hp3 h0.1 h0.2] at hq; exact hb hq
        · have hq1 := hq.1
          unfold par3 at hq1; dsimp only at hq1
          rw [← hC, if_neg h0] at hq1
          cases hq1
  rw [if_neg (show ¬ k = 3 from fun e => h3 (by rw [e]; rfl))] at hlen hQ
  rw [vbin_eql, wv_some, brB_dec]
  refine ⟨fun h => ?_, fun h4 => ?_⟩
  · have hk : k = 4 := by have h : ((k : Nat) : Int) = 4 := h; omega
    subst hk
    rw [if_pos rfl] at hlen hQ
    refine rdR (i := 0) s11 rfl (fun h k => escrowref03_Reader_I64.use h k) fun G72 s72 => ?_
    refine Rc.st_index (i := 2) s72 rfl hz Leaf.nil _ fun G73 s73 => ?_
    refine rdR (i := 0) s73 rfl (fun h k => escrowref03_Reader_Hash.use h k) fun G75 s75 => ?_
    have hz1 : ({ rk 4 with index := iOf (takes S 8).1 } : RcM).ok := ⟨hz.kind, UpdM.zero_ok, iOf_ok _, i64_0, i64_0, rfl, rfl, rfl, i64_0⟩
    refine Rc.st_secret (s := { rk 4 with index := iOf (takes S 8).1 }) (i := 2) s75 rfl hz1 Leaf.nil (fill_tk _) fun G76 s76 => ?_
    refine rdR (i := 0) s76 rfl (fun h k => escrowref03_Reader_Hash.use h k) fun G78 s78 => ?_
    have hz2 : ({ rk 4 with index := iOf (takes S 8).1, secret := fill 32 (takes (takes S 8).2 32).1 } : RcM).ok := ⟨hz.kind, UpdM.zero_ok, iOf_ok _, i64_0, i64_0, rfl, fill_tk _, rfl, i64_0⟩
    refine Rc.st_point (s := { rk 4 with index := iOf (takes S 8).1, secret := fill 32 (takes (takes S 8).2 32).1 }) (i := 2) s78 rfl hz2 Leaf.nil (fill_tk _) fun G79 s79 => ?_
    have hz3 : (par4 S).x.ok := ⟨hz.kind, UpdM.zero_ok, iOf_ok _, i64_0, i64_0, rfl, fill_tk _, fill_tk _, i64_0⟩
    exact fin (par4 S) _ .nilSlice G79 (idp _) (idn _) hz3 hnl hn0 hlen hQ s79
  rw [if_neg (show ¬ k = 4 from fun e => h4 (by rw [e]; rfl))] at hlen hQ
  rw [vbin_eql, wv_some, brB_dec]
  refine ⟨fun h => ?_, fun h5 => ?_⟩
  · have hk : k = 5 := by have h : ((k : Nat) : Int) = 5 := h; omega
    subst hk
    rw [if_pos rfl] at hlen hQ
    refine rc17_count (i := 0) s11 rfl fun G82 s82 => ?_
    refine Rc.st_code (i := 2) s82 rfl hz Leaf.nil _ fun G84 s84 => ?_
    have hz1 : (par5 S).x.ok := ⟨hz.kind, UpdM.zero_ok, i64_0, i64_0, i64_0, rfl, rfl, rfl, n2_i64 _⟩
    exact fin (par5 S) _ .nilSlice G84 (idp _) (idn _) hz1 hnl hn0 hlen hQ s84
  rw [if_neg (show ¬ k = 5 from fun e => h5 (by rw [e]; rfl))] at hlen hQ
  rw [vbin_eql, wv_some, brB_dec]
  refine ⟨fun h => ?_, fun h6 => ?_⟩
  · have hk : k = 6 := by have h : ((k : Nat) : Int) = 6 := h; omega
    subst hk
    rw [if_pos rfl] at hlen hQ
    refine rdR (i := 0) s11 rfl (fun h k => escrowref03_Reader_I64.use h k) fun G87 s87 => ?_
    refine Rc.st_index (i := 2) s87 rfl hz Leaf.nil _ fun G88 s88 => ?_
    have hz1 : (par6 S).x.ok := ⟨hz.kind, UpdM.zero_ok, iOf_ok _, i64_0, i64_0, rfl, rfl, rfl, i64_0⟩
    exact fin (par6 S) _ .nilSlice G88 (idp _) (idn _) hz1 hnl hn0 hlen hQ s88
  rw [if_neg (show ¬ k = 6 from fun e => h6 (by rw [e]; rfl))] at hlen hQ
  exact fin ⟨rk (k : Nat), [], S, true⟩ _ .nilSlice G11 (idp _) (idn _) hz hnl hn0 hlen hQ s11

end
end Go.Esc.M

/- Own work. Chapter 17: lent, stays. -/
set_option linter.unusedSimpArgs false
set_option linter.unusedVariables false
set_option maxRecDepth 20000
namespace Go.Esc.M
open Go Go.Esc

def m77 : UpdM := { UpdM.zero with kind := 77 }
def mMark : UpdM := { UpdM.zero with note := [109, 97, 114, 107] }
theorem m77_ok : m77.ok := ⟨i64_n 77 (by decide) (by decide), i64_0, i64_0, rfl, by decide⟩
theorem mMark_ok : mMark.ok := ⟨i64_0, i64_0, i64_0, rfl, by decide⟩

section
variable {F0 : List AId} {G0 G : Heap} {ps : List LP} {Q : AVal → Heap → Prop}

set_option maxHeartbeats 1000000 in
theorem escrowlaw17_lent.use {r : RcM} {l : List UpdM} {v : AVal} (hr : r.ok) (hv : Leaf v) (hl : IsSl 36 G v (l.map UpdM.av)) (hok : ∀ u ∈ l, u.ok) (hlen : (l.length + 2) * 72 ≤ 140737488355328)
    (hQ : ∀ w u G', LentG w u l.length (l.length + 2) → Sp [] G [OwnL 36 u ((l ++ [m77, mMark]).map UpdM.av)] G' → Q (.tuple [r.av w, u]) G') : ACalls P escrowlaw17_lent.n [r.av v] G Q := by
  refine escrowlaw17_lent.sound ?_
  unfold escrowlaw17_lent.S
  rw [zRec]
  intro i1 f1
  have s1 := (Sp.nil G).row f1 (r.av v)
  intro i3 f3
  have s3 := s1.row f3 (RcM.zero.av .nilSlice)
  revert s3
  generalize Heap.upd _ i3 _ = G4
  intro s3
  refine wv_of (Rc.ld_upds (RowL.own (i := 1) s3 rfl) hr hv) ?_
  refine growL (T := T) (ts := t_sl_api_Update) (e := t_api_Update) (si := ti_sl_api_Update) (ie := ti_api_Update) (tx := t_sl_api_Update) (xi := ti_sl_api_Update) (i := 0) (vs := []) (xs := l.map UpdM.av) T_sl_api_Update rfl T_api_Update rfl (by decide) T_sl_api_Update (.inr ⟨_, rfl⟩) (s3.nilL 36) rfl (hl.ch' s3.ch).elems (upds_uni hok).1 (upds_uni hok).2 (by rw [show ti_api_Update.bytes = 72 from rfl, List.length_map]; simp only [List.length_nil]; omega) fun v6 G7 s7 => ?_
  refine wv_of (v := m77.av) rfl ?_
  refine wv_of (v := mMark.av) rfl ?_
  refine buildL (T := T) (ts := t_sl_api_Update) (e := t_api_Update) (si := ti_sl_api_Update) (ie := ti_api_Update) (n := 2) (l := [m77, mMark].map UpdM.av) T_sl_api_Update rfl T_api_Update rfl rfl (by simp [uni, UpdM.sz m77_ok, UpdM.sz mMark_ok, ti_api_Update]) rfl (by simp [UpdM.sz m77_ok, UpdM.sz mMark_ok, ti_api_Update]) (by decide) s7 fun v10 G11 s11 => ?_
  have hok2 : ∀ u ∈ [m77, mMark], u.ok := by
    intro u hu
    simp only [List.mem_cons, List.not_mem_nil, or_false] at hu
    rcases hu with rfl | rfl
    · exact m77_ok
    · exact mMark_ok
  refine growL (T := T) (ts := t_sl_api_Update) (e := t_api_Update) (si := ti_sl_api_Update) (ie := ti_api_Update) (tx := t_sl_api_Update) (xi := ti_sl_api_Update) (i := 1) (vs := [] ++ l.map UpdM.av) (xs := [m77, mMark].map UpdM.av) T_sl_api_Update rfl T_api_Update rfl (by decide) T_sl_api_Update (.inr ⟨_, rfl⟩) s11 rfl (OwnL.own (i := 0) s11 rfl).is.elems (upds_uni hok2).1 (upds_uni hok2).2 (by rw [show ti_api_Update.bytes = 72 from rfl, List.length_map, List.nil_append, List.length_map]; simp only [List.length_cons, List.length_nil]; omega) fun v12 G13 s13 => ?_
  rw [List.nil_append, ← List.map_append] at s13
  have s13 : Sp [] G [OwnL 36 v12 ((l ++ [m77, mMark]).map UpdM.av), RowL i3 (RcM.zero.av .nilSlice), RowL i1 (r.av v)] G13 := s13.erase 0
  refine wv_of (Rc.ld_upds (RowL.own (i := 2) s13 rfl) hr hv) ?_
  refine wv_of (upd_len (hl.ch' s13.ch)) ?_
  obtain ⟨w, hw, hL⟩ := LentG.mk (k := .i64) (m := l.length) T_sl_api_Update rfl T_api_Update (OwnL.own (i := 0) s13 rfl) rfl (by simp)
  refine wv_of hw ?_
  have lw : Leaf w := hL.leaf
  refine Rc.st_upds (i := 2) s13 rfl hr hv lw fun G17 s17 => ?_
  refine wv_of (Rc.ld (RowL.own (i := 2) s17 rfl) hr lw) ?_
  refine Rc.st (i := 1) s17 rfl RcM.zero_ok Leaf.nil hr lw fun G19 s19 => ?_
  refine wv_of (Rc.ld (RowL.own (i := 1) s19 rfl) hr lw) ?_
  have e : ((l ++ [m77, mMark]).map UpdM.av).length = l.length + 2 := by simp
  rw [e] at hL
  exact hQ w v12 _ hL ((s19.erase 1).erase 1)

set_option maxHeartbeats 1000000 in
theorem escrowlaw17_stays.use {u v : AVal} {l : List UpdM} (hu : IsSl 36 G u ((l ++ [m77, mMark]).map UpdM.av)) (hl : IsSl 36 G v (l.map UpdM.av)) (hok : ∀ u ∈ l, u.ok) (hlen : l.length ≤ 140737488351232) (hQ : Q (.bool true) G) : ACalls P escrowlaw17_stays.n [u, v] G Q := by
  refine escrowlaw17_stays.sound ?_
  unfold escrowlaw17_stays.S
  intro J31
  have good : J31 (.bool false) G := by
    simp -zeta only [J31, brB_false]
    intro R hR
    have loop : ∀ (n j : Nat), l.length - j = n → j ≤ l.length → R [u, v, .int .i64 (j : Int)] G := by
      intro n
      induction n with
      | zero =>
        intro j hn hj
        refine hR _ _ _ _ ?_
        refine wv_of (upd_len hl) ?_
        rw [vbin_lss, wv_some, brB_dec]
        exact ⟨fun h => absurd h (by omega), fun _ => hQ⟩
      | succ n ih =>
        intro j hn hj
        obtain ⟨x, hx⟩ : ∃ x, l[j]? = some x := ⟨_, List.getElem?_eq_getElem (by omega)⟩
        have hxo := hok x (List.mem_of_getElem? hx)
        have hx2 : (l ++ [m77, mMark])[j]? = some x := by rw [List.getElem?_append_left (by omega), hx]
        refine hR _ _ _ _ ?_
        refine wv_of (upd_len hl) ?_
        rw [vbin_lss, wv_some, brB_dec]
        refine ⟨fun _ => ?_, fun h => absurd (by omega) h⟩
        obtain ⟨p, p1, p2⟩ := upd_at hu hx2
        obtain ⟨q, q1, q2⟩ := upd_at hl hx
        refine wv_of p1 ?_
        refine wv_of p2 ?_
        refine wv_of q1 ?_
        refine wv_of q2 ?_
        rw [vbin_uneq hxo hxo, wv_some, decide_eq_true rfl, Bool.not_true, brB_false, vbin_add, i64_in (by omega) (by omega), wv_some]
        exact ih (j + 1) (by omega) (by omega)
    exact loop l.length 0 rfl (by omega)
  refine wv_of (upd_len hu) ?_
  refine wv_of (upd_len hl) ?_
  rw [vbin_add, i64_in (by omega) (by omega), wv_some]
  have e2 : (((l ++ [m77, mMark]).length : Nat) : Int) = (l.length : Nat) + 2 := by simp
  rw [e2, nz0, wv_some, brB_false]
  refine wv_of (upd_len hl) ?_
  obtain ⟨p, p1, p2⟩ := upd_at (j := l.length) (u := m77) hu (by simp)
  refine wv_of p1 ?_
  refine wv_of p2 ?_
  refine wv_of (v := m77.av) rfl ?_
  rw [vbin_uneq m77_ok m77_ok, wv_some, decide_eq_true rfl, Bool.not_true, brB_false]
  refine wv_of (upd_len hl) ?_
  rw [vbin_add, i64_in (by omega) (by omega), wv_some]
  obtain ⟨p, p1, p2⟩ := upd_at (j := l.length + 1) (u := mMark) hu (by simp)
  refine wv_of p1 ?_
  refine wv_of p2 ?_
  refine wv_of (v := mMark.av) rfl ?_
  rw [vbin_uneq mMark_ok mMark_ok, wv_some, decide_eq_true rfl, Bool.not_true]
  exact good

end
end Go.Esc.M

/- Own work. Chapter 17: Apply, of the kinds 1, 2 and 5. -/
set_option linter.unusedSimpArgs false
set_option linter.unusedVariables false
set_option maxRecDepth 20000
namespace Go.Esc.M
open Go Go.Esc

def signB (f : StF) (r : RcM) : Prop := f.s.rem ≠ f.s.ack ∨ r.index ≠ IntKind.i64.wrap (f.s.rem + 1) ∨ r.cntB ≠ f.s.atB ∨ r.cntA < f.s.sgnA ∨ (f.o.length : Nat) < r.cntA
instance (f : StF) (r : RcM) : Decidable (signB f r) := by unfold signB; infer_instance
def applyK (f : StF) (r : RcM) : StF × Bool :=
  if r.kind = 1 then (if nextU f.o f.p r.upd = 0 then (⟨f.s, f.o ++ [r.upd], f.p, f.h⟩, true) else (f, false))
  else if r.kind = 2 then (if signB f r then (f, false) else (⟨{ f.s with rem := r.index, sgnA := r.cntA, sgnB := r.cntB, behind := true }, f.o, f.p, f.h⟩, true))
  else ((if f.s.failed = 0 then ⟨{ f.s with failed := r.code }, f.o, f.p, f.h⟩ else f), true)
def apOk (f : StF) (r : RcM) (l : List UpdM) : Bool := validR r l && (applyK f r).2

section
variable {F0 : List AId} {G0 G : Heap} {ps : List LP} {Q : AVal → Heap → Prop}

set_option maxHeartbeats 4000000 in
theorem chg_apply {f : StF} {r : RcM} {v wo wp wh : AVal} {i1 : AId} {L0 L3 L4 : LP} (hr : r.ok) (hv : Leaf v) (hk : r.kind = 1 ∨ r.kind = 2 ∨ r.kind = 5) (ho : f.s.ok) (oko : ∀ u ∈ f.o, u.ok) (okp : ∀ u ∈ f.p, u.ok) (lo : f.o.length ≤ 1048576) (lp : f.p.length ≤ 1048576) (hh : Leaf wh)
    (hs : Sp [] G0 [L0, OwnL 36 wp (f.p.map UpdM.av), OwnL 36 wo (f.o.map UpdM.av), L3, L4, RowL i1 (f.s.av wo wp wh)] G)
    (hQ : ∀ wo' G', Sp [] G0 [L0, OwnL 36 wp ((applyK f r).1.p.map UpdM.av), OwnL 36 wo' ((applyK f r).1.o.map UpdM.av), L3, L4, RowL i1 ((applyK f r).1.s.av wo' wp wh)] G' → Q (.bool (applyK f r).2) G') : aInvoke cx (chgV r v) "escrow/record.apply" [.ptr i1 [] 0] G Q := by
  have lfo := (OwnL.own (i := 2) hs rfl).leaf
  have lfp := (OwnL.own (i := 1) hs rfl).leaf
  have lv : Leaf wo ∧ Leaf wp ∧ Leaf wh := ⟨lfo, lfp, hh⟩
  unfold applyK at hQ
  unfold chgV
  rcases hk with h | h | h
  · rw [if_pos h] at hQ ⊢
    refine inv_record_ours_apply ?_
    refine record_ours_apply.sound ?_
    unfold record_ours_apply.S
    intro i2 f2
    have s2 := hs.row f2 (.agg [r.upd.av])
    refine wv_of (v := .ptr i1 [] 0) rfl ?_
    refine wv_of (v := .ptr i1 [4] 4) rfl ?_
    refine wv_of (St.ld_ours (RowL.own (i := 6) s2 rfl) ho lv) ?_
    refine wv_of (v := .ptr i1 [] 0) rfl ?_
    refine wv_of (v := .ptr i1 [5] 5) rfl ?_
    refine wv_of (St.ld_peers (RowL.own (i := 6) s2 rfl) ho lv) ?_
    refine wv_of (ow_ld hr.upd (RowL.own (i := 0) s2 rfl)) ?_
    refine update_Next.use (OwnL.own (i := 3) s2 rfl).is (OwnL.own (i := 2) s2 rfl).is oko okp (by omega) (by omega) hr.upd fun G11 c11 => ?_
    have s11 := s2.tmp c11
    rw [vbin_neq, wv_some, brB_ndec]
    refine ⟨fun h1 => ?_, fun h1 => ?_⟩
    · rw [if_neg h1] at hQ
      exact hQ wo _ (s11.erase 0)
    · rw [if_pos h1] at hQ
      refine wv_of (v := .ptr i1 [] 0) rfl ?_
      refine wv_of (v := .ptr i1 [4] 4) rfl ?_
      refine wv_of (St.ld_ours (RowL.own (i := 6) s11 rfl) ho lv) ?_
      refine wv_of (ow_ld hr.upd (RowL.own (i := 0) s11 rfl)) ?_
      refine growV (T := T) (ts := t_sl_api_Update) (e := t_api_Update) (si := ti_sl_api_Update) (ie := ti_api_Update) (i := 3) (vs := f.o.map UpdM.av) T_sl_api_Update rfl T_api_Update rfl (by decide) s11 rfl (UpdM.sz hr.upd) (UpdM.okv _) (by decide) (by rw [List.length_map]; simp only [ti_api_Update]; omega) fun w' G20 s20 => ?_
      have lw' := (OwnL.own (i := 3) s20 rfl).leaf
      refine wv_of (v := .ptr i1 [] 0) rfl ?_
      refine wv_of (v := .ptr i1 [4] 4) rfl ?_
      refine St.st_ours (i := 6) s20 rfl ho lv lw' fun G23 s23 => ?_
      refine hQ w' _ ?_
      have := s23.erase 0
      rw [List.map_append]
      exact this
  · rw [if_neg (by omega), if_pos h] at hQ ⊢
    refine inv_record_signed_apply ?_
    refine record_signed_apply.sound ?_
    unfold record_signed_apply.S
    intro i2 f2
    have s2 := hs.row f2 (.agg [.int .i64 r.index, pairW r.cntA r.cntB])
    revert s2
    generalize Heap.upd _ i2 _ = G2
    intro s2
    have hg := RowL.own (i := 6) s2 rfl
    obtain ⟨l0, l1, l2, l3⟩ := sg_ld (RowL.own (i := 0) s2 rfl)
    intro J47
    have bad : signB f r → J47 (.bool true) G2 := by
      intro hb
      rw [if_pos hb] at hQ
      simp -zeta only [J47, brB_true]
      exact hQ wo _ (s2.erase 0)
    have good : ¬ signB f r → J47 (.bool false) G2 := by
      intro hb
      rw [if_neg hb] at hQ
      simp -zeta only [J47, brB_false]
      refine wv_of l0 ?_
      refine wv_of l1 ?_
      refine wv_of (v := .ptr i1 [] 0) rfl ?_
      refine wv_of (v := .ptr i1 [7] 7) rfl ?_
      refine St.st_rem (i := 6) s2 rfl ho lv _ fun G40 s40 => ?_
      have o1 : ({ f.s with rem := r.index } : StM).ok := ⟨ho.side, ho.cap, ho.bo, ho.bp, ho.loc, hr.index, ho.ack, ho.atA, ho.atB, ho.sgnA, ho.sgnB, ho.heldA, ho.heldB, ho.ptsA, ho.ptsB, ho.sig, ho.failed, ho.closed⟩
      refine ⟨⟨(sg_ld (RowL.own (i := 0) s40 rfl)).2.1, trivial⟩, ?_⟩
      refine wv_of (v := .ptr i1 [] 0) rfl ?_
      refine wv_of (v := .ptr i1 [10] 11) rfl ?_
      refine St.st_sgn (s := { f.s with rem := r.index }) (i := 6) s40 rfl o1 lv _ _ fun G43 s43 => ?_
      have o2 : ({ f.s with rem := r.index, sgnA := r.cntA, sgnB := r.cntB } : StM).ok := ⟨ho.side, ho.cap, ho.bo, ho.bp, ho.loc, hr.index, ho.ack, ho.atA, ho.atB, hr.cntA, hr.cntB, ho.heldA, ho.heldB, ho.ptsA, ho.ptsB, ho.sig, ho.failed, ho.closed⟩
      refine wv_of (v := .ptr i1 [] 0) rfl ?_
      refine wv_of (v := .ptr i1 [12] 15) rfl ?_
      refine St.st_behind (s := { f.s with rem := r.index, sgnA := r.cntA, sgnB := r.cntB }) (i := 6) s43 rfl o2 lv _ fun G46 s46 => ?_
      exact hQ wo _ (s46.erase 0)
    refine wv_of (v := .ptr i1 [] 0) rfl ?_
    refine wv_of (v := .ptr i1 [7] 7) rfl ?_
    refine wv_of (St.ld_rem hg ho lv) ?_
    refine wv_of (v := .ptr i1 [] 0) rfl ?_
    refine wv_of (v := .ptr i1 [8] 8) rfl ?_
    refine wv_of (St.ld_ack hg ho lv) ?_
    rw [vbin_neq, wv_some, brB_ndec]
    refine ⟨fun h1 => bad (.inl h1), fun h1 => ?_⟩
    refine wv_of l0 ?_
    refine wv_of (v := .ptr i1 [] 0) rfl ?_
    refine wv_of (v := .ptr i1 [7] 7) rfl ?_
    refine wv_of (St.ld_rem hg ho lv) ?_
    rw [vbin_add, wv_some, vbin_neq, wv_some, brB_ndec]
    refine ⟨fun h2 => bad (.inr (.inl h2)), fun h2 => ?_⟩
    refine wv_of l3 ?_
    refine wv_of (v := .ptr i1 [] 0) rfl ?_
    refine wv_of (v := .ptr i1 [9] 9) rfl ?_
    refine wv_of (v := .ptr i1 [9, 1] 10) rfl ?_
    refine wv_of (St.ld_atB hg ho lv) ?_
    rw [vbin_neq, wv_some, brB_ndec]
    refine ⟨fun h3 => bad (.inr (.inr (.inl h3))), fun h3 => ?_⟩
    refine wv_of l2 ?_
    refine wv_of (v := .ptr i1 [] 0) rfl ?_
    refine wv_of (v := .ptr i1 [10] 11) rfl ?_
    refine wv_of (v := .ptr i1 [10, 0] 11) rfl ?_
    refine wv_of (St.ld_sgnA hg ho lv) ?_
    rw [vbin_lss, wv_some, brB_dec]
    refine ⟨fun h4 => bad (.inr (.inr (.inr (.inl h4)))), fun h4 => ?_⟩
    refine wv_of l2 ?_
    refine wv_of (v := .ptr i1 [] 0) rfl ?_
    refine wv_of (v := .ptr i1 [4] 4) rfl ?_
    refine wv_of (St.ld_ours hg ho lv) ?_
    refine wv_of (upd_len (OwnL.own (i := 3) s2 rfl).is) ?_
    rw [vbin_gtr, wv_some]
    by_cases h5 : (f.o.length : Nat) < r.cntA
    · rw [decide_eq_true (by omega)]; exact bad (.inr (.inr (.inr (.inr h5))))
    · rw [decide_eq_false (by omega)]
      exact good (by rintro (x | x | x | x | x); exact x h1; exact x h2; exact x h3; exact h4 x; exact h5 x)
  · rw [if_neg (by omega), if_neg (by omega)] at hQ
    rw [if_neg (by omega), if_neg (by omega), if_neg (by omega), if_neg (by omega), if_pos h]
    refine inv_record_failed_apply ?_
    refine record_failed_apply.sound ?_
    unfold record_failed_apply.S
    intro i2 f2
    have s2 := hs.row f2 (.agg [.int .i64 r.code])
    refine wv_of (v := .ptr i1 [] 0) rfl ?_
    refine wv_of (v := .ptr i1 [16] 113) rfl ?_
    refine wv_of (St.ld_failed (RowL.own (i := 6) s2 rfl) ho lv) ?_
    rw [vbin_eql, wv_some, brB_dec]
    refine ⟨fun h1 => ?_, fun h1 => ?_⟩
    · rw [if_pos h1] at hQ
      refine wv_of (fl_ld (RowL.own (i := 0) s2 rfl)) ?_
      refine wv_of (v := .ptr i1 [] 0) rfl ?_
      refine wv_of (v := .ptr i1 [16] 113) rfl ?_
      refine St.st_failed (i := 6) s2 rfl ho lv _ fun G10 s10 => ?_
      exact hQ wo _ (s10.erase 0)
    · rw [if_neg h1] at hQ
      exact hQ wo _ (s2.erase 0)

set_option maxHeartbeats 4000000 in
theorem record_Apply.use {f : StF} {r : RcM} {l : List UpdM} {v vo vp vh : AVal} (hS : StIn G f vo vp vh) (hr : r.ok) (hv : Leaf v) (hl : IsSl 36 G v (l.map UpdM.av)) (hok : ∀ u ∈ l, u.ok) (hlen : l.length ≤ 140737488351232) (hk : r.kind = 1 ∨ r.kind = 2 ∨ r.kind = 5) (hso : (applyK f r).1.s.ok)
    (hno : apOk f r l = false → ∀ G', Ch [] G [] G' → Q (.tuple [StM.zero.av .nilSlice .nilSlice .nilSlice, .int .i64 170]) G')
    (hQ : apOk f r l = true → ∀ wo wp wh G', Sp [] G [OwnL 34 wh (f.h.map SlotM.av), OwnL 36 wp ((applyK f r).1.p.map UpdM.av), OwnL 36 wo ((applyK f r).1.o.map UpdM.av)] G' → Q (.tuple [(applyK f r).1.s.av wo wp wh, .int .i64 0]) G') : ACalls P record_Apply.n [f.s.av vo vp vh, r.av v] G Q := by
  have ho := hS.ok
  have lv := hS.lv
  have hlo := hS.lo
  have hlp := hS.lp
  refine record_Apply.sound ?_
  unfold record_Apply.S
  rw [zSta]
  unfold apOk at hno hQ
  intro i1 f1
  have s1 := (Sp.nil G).row f1 (f.s.av vo vp vh)
  intro i3 f3
  have s3 := s1.row f3 (r.av v)
  intro i5 f5
  have s5 := s3.row f5 (StM.zero.av .nilSlice .nilSlice .nilSlice)
  revert s5
  generalize Heap.upd _ i5 _ = G6
  intro s5
  refine wv_of (Rc.ld (RowL.own (i := 1) s5 rfl) hr hv) ?_
  refine record_changed.use hr hv (hl.ch' s5.ch) hok hlen fun G9 c9 => ?_
  have s9 := s5.tmp c9
  have s9 : Sp [] G [RowL i5 (StM.zero.av .nilSlice .nilSlice .nilSlice), RowL i3 (r.av v), RowL i1 (f.s.av vo vp vh)] G9 := s9
  cases hval : validR r l with
  | false =>
    rw [hval, Bool.false_and] at hno
    refine wv_of nil_nil ?_
    rw [brB_true]
    refine wv_of (v := StM.zero.av .nilSlice .nilSlice .nilSlice) rfl ?_
    refine St.st (i := 0) s9 rfl StM.zero_ok lv0 StM.zero_ok lv0 fun G12 s12 => ?_
    refine wv_of (St.ld (RowL.own (i := 0) s12 rfl) StM.zero_ok lv0) ?_
    exact hno rfl _ s12.ch
  | true =>
  rw [hval, Bool.true_and] at hno hQ
  refine wv_of (nil_chg (kind_of (valR_spec hval).1)) ?_
  rw [brB_false]
  have hg := RowL.own (i := 2) s9 rfl
  refine wv_of (St.ld_ours hg ho lv) ?_
  refine wv_of (St.ld_peers hg ho lv) ?_
  refine wv_of (St.ld_shelf hg ho lv) ?_
  refine clone_upd.use (hS.o.mv s9.ch).isSl hS.oko hS.lo fun wo G18 t18 => ?_
  obtain ⟨F18, o18, c18⟩ := t18.out
  have s18 := s9.new o18 c18
  have hg := RowL.own (i := 3) s18 rfl
  refine ⟨⟨St.ld_shelf hg ho lv, St.ld_peers hg ho lv, trivial⟩, ?_⟩
  refine clone_upd.use (hS.p.mv s18.ch).isSl hS.okp hS.lp fun wp G20 t20 => ?_
  obtain ⟨F20, o20, c20⟩ := t20.out
  have s20 := s18.new o20 c20
  have hg := RowL.own (i := 4) s20 rfl
  refine ⟨⟨St.ld_shelf hg ho lv, trivial⟩, ?_⟩
  refine clone_slot.use (hS.h.mv s20.ch).isSl hS.okh (by have := hS.lh; omega) fun wh G22 t22 => ?_
  obtain ⟨F22, o22, c22⟩ := t22.out
  have s22 := s20.new o22 c22
  have lo := (OwnL.own (i := 2) s22 rfl).leaf
  have lp := (OwnL.own (i := 1) s22 rfl).leaf
  have lh := (OwnL.own (i := 0) s22 rfl).leaf
  refine St.st_ours (i := 5) s22 rfl ho lv lo fun G23 s23 => ?_
  refine St.st_peers (i := 5) s23 rfl ho ⟨lo, lv.2.1, lv.2.2⟩ lp fun G24 s24 => ?_
  refine St.st_shelf (i := 5) s24 rfl ho ⟨lo, lp, lv.2.2⟩ lh fun G25 s25 => ?_
  have s25 : Sp [] G [OwnL 34 wh (f.h.map SlotM.av), OwnL 36 wp (f.p.map UpdM.av), OwnL 36 wo (f.o.map UpdM.av), RowL i5 (StM.zero.av .nilSlice .nilSlice .nilSlice), RowL i3 (r.av v), RowL i1 (f.s.av wo wp wh)] G25 := s25
  refine chg_apply hr hv hk ho hS.oko hS.okp hS.lo hS.lp lh s25 fun wo' G27 s27 => ?_
  have lo' := (OwnL.own (i := 2) s27 rfl).leaf
  have lp' := (OwnL.own (i := 1) s27 rfl).leaf
  rw [vun_not, wv_some]
  cases hap : (applyK f r).2 with
  | false =>
    rw [hap] at hno
    rw [Bool.not_false, brB_true]
    refine wv_of (v := StM.zero.av .nilSlice .nilSlice .nilSlice) rfl ?_
    refine St.st (i := 3) s27 rfl StM.zero_ok lv0 StM.zero_ok lv0 fun G30 s30 => ?_
    refine wv_of (St.ld (RowL.own (i := 3) s30 rfl) StM.zero_ok lv0) ?_
    exact hno rfl _ s30.ch
  | true =>
    rw [hap] at hQ
    rw [Bool.not_true, brB_false]
    refine wv_of (St.ld (RowL.own (i := 5) s27 rfl) hso ⟨lo', lp', lh⟩) ?_
    refine St.st (i := 3) s27 rfl StM.zero_ok lv0 hso ⟨lo', lp', lh⟩ fun G33 s33 => ?_
    refine wv_of (St.ld (RowL.own (i := 3) s33 rfl) hso ⟨lo', lp', lh⟩) ?_
    exact hQ rfl wo' wp wh _ (((s33.erase 3).erase 3).erase 3)

end
end Go.Esc.M

/- Own work. Chapter 17: the head; RecordBytes. -/
set_option linter.unusedSimpArgs false
set_option linter.unusedVariables false
set_option maxRecDepth 20000
namespace Go.Esc.M
open Go Go.Esc

def r258 : RcM := { RcM.zero with kind := 5, code := 258 }
theorem r258_ok : r258.ok := ⟨i64_n 5 (by decide) (by decide), UpdM.zero_ok, i64_0, i64_0, i64_0, rfl, rfl, rfl, i64_n 258 (by decide) (by decide)⟩
theorem wr_258 : wrR r258 [] = ([5, 1, 2], 0) := by decide +kernel
theorem rd_258 : (readR [5, 1, 2, 7]).x = r258 ∧ (readR [5, 1, 2, 7]).l = [] ∧ (readR [5, 1, 2, 7]).n = 3 ∧ (readR [5, 1, 2, 7]).e = 0 := by decide +kernel
theorem rd_7 : (readR [7]).x = RcM.zero ∧ (readR [7]).l = [] ∧ (readR [7]).n = 0 ∧ (readR [7]).e = 170 := by decide +kernel
def sA : StM := { StM.zero with closed := -1 }
theorem sA_ok : sA.ok := ⟨i64_0, i64_0, i64_0, i64_0, i64_0, i64_0, i64_0, i64_0, i64_0, i64_0, i64_0, i64_0, i64_0, rfl, rfl, rfl, i64_0, i64_n (-1) (by decide) (by decide)⟩
def sB : StM := { sA with rem := 1, sgnA := 1, sgnB := 0, behind := true }
theorem sB_ok : sB.ok := ⟨i64_0, i64_0, i64_0, i64_0, i64_0, i64_n 1 (by decide) (by decide), i64_0, i64_0, i64_0, i64_n 1 (by decide) (by decide), i64_0, i64_0, i64_0, rfl, rfl, rfl, i64_0, i64_n (-1) (by decide) (by decide)⟩
def u7A : UpdM := ⟨1, 0, 7, h0, []⟩
theorem u7A_ok : u7A.ok := ⟨i64_n 1 (by decide) (by decide), i64_0, i64_n 7 (by decide) (by decide), rfl, by decide⟩
def rA : RcM := { RcM.zero with kind := 1, upd := u7A }
theorem rA_ok : rA.ok := ⟨i64_n 1 (by decide) (by decide), u7A_ok, i64_0, i64_0, i64_0, rfl, rfl, rfl, i64_0⟩
def rB (i : Int) : RcM := { RcM.zero with kind := 2, index := i, cntA := 1 }
theorem rB_ok {i : Int} (h : I64 i) : (rB i).ok := ⟨i64_n 2 (by decide) (by decide), UpdM.zero_ok, h, i64_n 1 (by decide) (by decide), i64_0, rfl, rfl, rfl, i64_0⟩
theorem ap_A : applyK ⟨sA, [], [], []⟩ rA = (⟨sA, [u7A], [], []⟩, true) := rfl
theorem ok_A : apOk ⟨sA, [], [], []⟩ rA [] = true := by decide +kernel
theorem ap_B : applyK ⟨sA, [u7A], [], []⟩ (rB 1) = (⟨sB, [u7A], [], []⟩, true) := rfl
theorem ok_B : apOk ⟨sA, [u7A], [], []⟩ (rB 1) [] = true := by decide +kernel
theorem ap_C : applyK ⟨sB, [u7A], [], []⟩ (rB 2) = (⟨sB, [u7A], [], []⟩, false) := rfl
theorem ok_C : apOk ⟨sB, [u7A], [], []⟩ (rB 2) [] = false := by decide +kernel

theorem readR_ok {b : List UInt8} (hb : b.length ≤ 140737488351232) : (readR b).x.ok ∧ (∀ u ∈ (readR b).l, u.ok) ∧ (readR b).l.length ≤ 140737488351232 := by
  have hz : ∀ k : Int, I64 k → (rk k).ok := fun k h => rk_ok h
  have i16 : ∀ n : Int, 0 ≤ n → n ≤ 255 → I64 n := fun n a b => i64_n n (by omega) (by omega)
  have hp : (parR b).x.ok ∧ (∀ u ∈ (parR b).l, u.ok) ∧ (parR b).l.length ≤ 140737488351232 := by
    have hs := s1_le b
    have hk := kOf_lt b
    have nl : ∀ u ∈ ([] : List UpdM), u.ok := fun u hu => by cases hu
    have n0 : ([] : List UpdM).length ≤ 140737488351232 := by simp
    unfold parR
    obtain ⟨S, hS⟩ : ∃ S, S = s1Of b := ⟨_, rfl⟩
    rw [← hS] at hs ⊢
    split
    · unfold par1
      split
      · rename_i u t hr
        have := readL_ok 1 (by omega) hr
        exact ⟨⟨i16 1 (by decide) (by decide), this u (by simp), i64_0, i64_0, i64_0, rfl, rfl, rfl, i64_0⟩, nl, n0⟩
      · exact ⟨hz 1 (i16 1 (by decide) (by decide)), nl, n0⟩
    split
    · exact ⟨⟨i16 2 (by decide) (by decide), UpdM.zero_ok, iOf_ok _, n2_i64 _, n2_i64 _, rfl, rfl, rfl, i64_0⟩, nl, n0⟩
    split
    · have l1 := takes_le S 8
      have l2 := takes_le (takes S 8).2 2
      have n1 := n2_lt (takes S 8).2
      unfold par3
      dsimp only
      split
      · split
        · rename_i l t hr
          obtain ⟨_, hll⟩ := readL_le _ hr
          exact ⟨⟨i16 3 (by decide) (by decide), UpdM.zero_ok, iOf_ok _, i64_0, i64_0, fill_tk _, rfl, rfl, i64_0⟩, readL_ok _ (by omega) hr, by show l.length ≤ _; omega⟩
        · exact ⟨⟨i16 3 (by decide) (by decide), UpdM.zero_ok, iOf_ok _, i64_0, i64_0, rfl, rfl, rfl, i64_0⟩, nl, n0⟩
      · exact ⟨⟨i16 3 (by decide) (by decide), UpdM.zero_ok, iOf_ok _, i64_0, i64_0, rfl, rfl, rfl, i64_0⟩, nl, n0⟩
    split
    · exact ⟨⟨i16 4 (by decide) (by decide), UpdM.zero_ok, iOf_ok _, i64_0, i64_0, rfl, fill_tk _, fill_tk _, i64_0⟩, nl, n0⟩
    split
    · exact ⟨⟨i16 5 (by decide) (by decide), UpdM.zero_ok, i64_0, i64_0, i64_0, rfl, rfl, rfl, n2_i64 _⟩, nl, n0⟩
    split
    · exact ⟨⟨i16 6 (by decide) (by decide), UpdM.zero_ok, iOf_ok _, i64_0, i64_0, rfl, rfl, rfl, i64_0⟩, nl, n0⟩
    · exact ⟨hz _ (i16 _ (by omega) (by omega)), nl, n0⟩
  unfold readR
  dsimp only
  split
  · exact hp
  · exact ⟨RcM.zero_ok, (show ∀ u ∈ ([] : List UpdM), u.ok from fun u hu => by cases hu), (show ([] : List UpdM).length ≤ 140737488351232 by simp)⟩

section
variable {F0 : List AId} {G0 G : Heap} {ps : List LP} {Q : AVal → Heap → Prop}

theorem Sps.app17 {ps : List LP} {Fs : List (List AId)} {G : Heap} (h : Sps ps Fs G) : ∀ {qs : List LP} {Gs : List (List AId)}, Sps qs Gs G → (∀ j ∈ Gs.flatten, j ∉ Fs.flatten) → Sps (qs ++ ps) (Gs ++ Fs) G
  | [], [], _, _ => h
  | q :: qs, E :: Gs, ⟨h1, h2, h3⟩, hd => by
    refine ⟨h1, fun j hj hm => ?_, Sps.app17 h h3 fun j hj => hd j (by simp only [List.flatten_cons, List.mem_append]; exact .inr hj)⟩
    have hm : j ∈ (Gs ++ Fs).flatten := hm
    rw [List.flatten_append, List.mem_append] at hm
    rcases hm with hm | hm
    · exact h2 j hj hm
    · exact hd j (by simp only [List.flatten_cons, List.mem_append]; exact .inl hj) hm
  | [], _ :: _, h, _ => h.elim
  | _ :: _, [], h, _ => h.elim
theorem sp_app17 {G' : Heap} {qs : List LP} (h : Sp F0 G0 ps G) (t : Sp [] G qs G') : Sp F0 G0 (qs ++ ps) G' := by
  obtain ⟨Fs, h1, h2⟩ := h
  obtain ⟨Gs, t1, t2⟩ := t
  refine ⟨Gs ++ Fs, Sps.app17 (h1.same fun j hj => t2.same (E := Fs.flatten) h1.rows (by simp) j hj) t1 fun j hj hm => ?_, h2.trans ?_⟩
  · rcases t2.row j hj with h' | h'
    · simp at h'
    · have := h1.rows j hm
      rw [h'] at this; cases this
  · have := t2.more (E := Fs.flatten)
    simpa using this
theorem t30 {x y z : AVal} : vextract (.tuple [x, y, z]) 0 = some x := rfl
theorem t31 {x y z : AVal} : vextract (.tuple [x, y, z]) 1 = some y := rfl
theorem t32 {x y z : AVal} : vextract (.tuple [x, y, z]) 2 = some z := rfl
theorem lists_in {s : StM} {o : List UpdM} {wo wp wh : AVal} (hs : s.ok) (ho : ∀ u ∈ o, u.ok) (lo : o.length ≤ 1000) (t : Sp F0 G0 ps G) {i j k : Nat} (hi : ps[i]? = some (OwnL 36 wo (o.map UpdM.av))) (hj : ps[j]? = some (OwnL 36 wp (([] : List UpdM).map UpdM.av))) (hk : ps[k]? = some (OwnL 34 wh (([] : List SlotM).map SlotM.av))) : StIn G ⟨s, o, [], []⟩ wo wp wh :=
  ⟨hs, Own.capSl (OwnL.own t hi), Own.capSl (OwnL.own t hj), Own.capSl (OwnL.own t hk), ho, (fun u hu => by cases hu), (fun u hu => by cases hu), by show o.length ≤ _; omega, by simp, by simp⟩

set_option maxHeartbeats 8000000 in
theorem escrowlaw17_head.use (hQ : ∀ G', Ch [] G [] G' → Q (.bool true) G') : ACalls P escrowlaw17_head.n [] G Q := by
  refine escrowlaw17_head.sound ?_
  unfold escrowlaw17_head.S
  have hnl : ∀ u ∈ ([] : List UpdM), u.ok := fun u hu => by cases hu
  have hn0 : ([] : List UpdM).length ≤ 140737488351232 := by simp
  have hnil : ∀ G' : Heap, IsSl 36 G' .nilSlice (([] : List UpdM).map UpdM.av) := fun _ => .inr ⟨rfl, rfl⟩
  refine wv_of (v := r258.av .nilSlice) rfl ?_
  refine record_Write.use (l := []) r258_ok Leaf.nil (hnil _) hnl hn0 fun G3 c3 => ?_
  have s3 := (Sp.nil G).tmp c3
  rw [wr_258]
  refine wv_of (tv0 _ _) ?_
  refine wv_of (tv1 _ _) ?_
  refine record_Read.use (by simp) fun w G7 t7 => ?_
  obtain ⟨x1, x2, x3, x4⟩ := rd_258
  rw [x1, x3, x4]
  have lw := (OwnL.own (i := 0) t7 rfl).leaf
  have s7 := s3.tmp t7.ch
  refine wv_of t30 ?_
  refine wv_of t31 ?_
  refine wv_of t32 ?_
  refine Rc.nw s7 r258_ok lw fun i11 G13 s13 => ?_
  refine record_Read.use (by simp) fun w2 G15 t15 => ?_
  obtain ⟨y1, y2, y3, y4⟩ := rd_7
  rw [y1, y3, y4]
  have lw2 := (OwnL.own (i := 0) t15 rfl).leaf
  have s15 := s13.tmp t15.ch
  refine wv_of t30 ?_
  refine wv_of t31 ?_
  refine wv_of t32 ?_
  refine Rc.nw s15 RcM.zero_ok lw2 fun i19 G21 s21 => ?_
  intro J74
  have go : J74 (.bool false) G21 := by
    simp -zeta only [J74, brB_false]
    refine wv_of (v := sA.av .nilSlice .nilSlice .nilSlice) rfl ?_
    refine wv_of (v := u7A.av) rfl ?_
    refine wv_of (v := rA.av .nilSlice) (bR1 u7A_ok) ?_
    have hA : StIn G21 ⟨sA, [], [], []⟩ .nilSlice .nilSlice .nilSlice := ⟨sA_ok, CapSl.nil, CapSl.nil, CapSl.nil, hnl, hnl, (fun u hu => by cases hu), by simp, by simp, by simp⟩
    refine record_Apply.use (f := ⟨sA, [], [], []⟩) (l := []) hA rA_ok Leaf.nil (hnil _) hnl hn0 (.inl rfl) (by rw [ap_A]; exact sA_ok) (fun h => by rw [ok_A] at h; cases h) (fun _ wo wp wh G35 t35 => ?_)
    rw [ap_A] at t35 ⊢
    have s35 := sp_app17 s21 t35
    refine wv_of (tv0 _ _) ?_
    refine wv_of (tv1 _ _) ?_
    have lo := (OwnL.own (i := 2) s35 rfl).leaf
    have lp := (OwnL.own (i := 1) s35 rfl).leaf
    have lh := (OwnL.own (i := 0) s35 rfl).leaf
    refine St.nw s35 sA_ok ⟨lo, lp, lh⟩ fun i38 G40 s40 => ?_
    have okA : ∀ u ∈ [u7A], u.ok := fun u hu => by rw [List.mem_singleton.1 hu]; exact u7A_ok
    have hg := RowL.own (i := 0) s40 rfl
    intro J73
    have go2 : J73 (.bool false) G40 := by
      simp -zeta only [J73, brB_false]
      refine wv_of (St.ld hg sA_ok ⟨lo, lp, lh⟩) ?_
      refine wv_of (v := pairW 1 0) rfl ?_
      refine wv_of (v := (rB 1).av .nilSlice) bR2 ?_
      have hB : StIn G40 ⟨sA, [u7A], [], []⟩ wo wp wh := lists_in sA_ok okA (by simp) s40 (i := 3) (j := 2) (k := 1) rfl rfl rfl
      refine record_Apply.use (f := ⟨sA, [u7A], [], []⟩) (l := []) hB (rB_ok (i64_n 1 (by decide) (by decide))) Leaf.nil (hnil _) hnl hn0 (.inr (.inl rfl)) (by rw [ap_B]; exact sB_ok) (fun h => by rw [ok_B] at h; cases h) (fun _ xo xp xh G53 t53 => ?_)
      rw [ap_B] at t53 ⊢
      have s53 := sp_app17 s40 t53
      refine wv_of (tv0 _ _) ?_
      refine wv_of (tv1 _ _) ?_
      have mo := (OwnL.own (i := 2) s53 rfl).leaf
      have mp := (OwnL.own (i := 1) s53 rfl).leaf
      have mh := (OwnL.own (i := 0) s53 rfl).leaf
      refine St.nw s53 sB_ok ⟨mo, mp, mh⟩ fun i56 G58 s58 => ?_
      refine wv_of (St.ld (RowL.own (i := 0) s58 rfl) sB_ok ⟨mo, mp, mh⟩) ?_
      refine wv_of (v := pairW 1 0) rfl ?_
      refine wv_of (v := (rB 2).av .nilSlice) bR2 ?_
      have hC : StIn G58 ⟨sB, [u7A], [], []⟩ xo xp xh := lists_in sB_ok okA (by simp) s58 (i := 3) (j := 2) (k := 1) rfl rfl rfl
      refine record_Apply.use (f := ⟨sB, [u7A], [], []⟩) (l := []) hC (rB_ok (i64_n 2 (by decide) (by decide))) Leaf.nil (hnil _) hnl hn0 (.inr (.inl rfl)) (by rw [ap_C]; exact sB_ok) (fun _ G63 c63 => ?_) (fun h => by rw [ok_C] at h; cases h)
      have s63 := s58.tmp c63
      refine wv_of (tv0 _ _) ?_
      refine wv_of (tv1 _ _) ?_
      have hg := RowL.own (i := 0) s63 rfl
      have ez : ∀ {t : TypeId} (n : Int), vbin T .eql t (.int .i64 n) (.int .i64 n) = some (.bool true) := fun n => ez0
      refine wv_of (ez 0) ?_
      rw [brB_true]
      refine wv_of (St.ld_rem hg sB_ok ⟨mo, mp, mh⟩) ?_
      refine wv_of (ez 1) ?_
      rw [brB_true]
      refine wv_of (St.ld_behind hg sB_ok ⟨mo, mp, mh⟩) ?_
      show brB (some (.bool true)) _ _
      rw [brB_true]
      refine wv_of (ez 170) ?_
      exact hQ _ s63.ch
    refine wv_of nz0 ?_
    rw [brB_false]
    refine wv_of (St.ld_ours hg sA_ok ⟨lo, lp, lh⟩) ?_
    refine wv_of (upd_len (l := [u7A]) (OwnL.own (i := 3) s40 rfl).is) ?_
    refine wv_of (v := .bool false) nz0 ?_
    rw [brB_false]
    refine wv_of (St.ld_closed hg sA_ok ⟨lo, lp, lh⟩) ?_
    refine wv_of (v := .bool false) nz0 ?_
    exact go2
  rw [vbin_sneq, wv_some, decide_eq_true rfl, Bool.not_true, brB_false]
  refine wv_of nz0 ?_
  rw [brB_false]
  refine wv_of (Rc.ld_code (RowL.own (i := 1) s21 rfl) r258_ok lw) ?_
  refine wv_of (v := .bool false) nz0 ?_
  rw [brB_false]
  refine wv_of nz0 ?_
  rw [brB_false]
  refine wv_of nz0 ?_
  rw [brB_false]
  refine wv_of nz0 ?_
  exact go

theorem wt_PairB {G : Heap} {R d : Nat} {v : AVal} {m : Nat} (h : wt T G R (d + 2) t_api_Counts v m) : ∃ a b : Int, v = pairW a b ∧ I64 a ∧ I64 b := by
  obtain ⟨cs, ms, rfl, hf, rfl⟩ := wt_struct T_api_Counts rfl h
  obtain ⟨c1, cs, m1, ms, rfl, rfl, h1, hf⟩ := wfs_cons hf
  obtain ⟨c2, cs, m2, ms, rfl, rfl, h2, hf⟩ := wfs_cons hf
  obtain ⟨rfl, rfl⟩ := wfs_nil hf
  obtain ⟨a, rfl, w1, _⟩ := wt_int T_int rfl h1
  obtain ⟨b, rfl, w2, _⟩ := wt_int T_int rfl h2
  exact ⟨a, b, rfl, i64_wf.1 w1, i64_wf.1 w2⟩
theorem wt_Record {G : Heap} {R d : Nat} {v : AVal} {m : Nat} (h : wt T G R (d + 5) t_api_Record v m) : ∃ (r : RcM) (w : AVal) (l : List UpdM), v = r.av w ∧ r.ok ∧ RoSl 36 G w (l.map UpdM.av) ∧ (∀ u ∈ l, u.ok) ∧ l.length * 72 ≤ R := by
  obtain ⟨cs, ms, rfl, hf, rfl⟩ := wt_struct T_api_Record rfl h
  obtain ⟨c1, cs, m1, ms, rfl, rfl, h1, hf⟩ := wfs_cons hf
  obtain ⟨c2, cs, m2, ms, rfl, rfl, h2, hf⟩ := wfs_cons hf
  obtain ⟨c3, cs, m3, ms, rfl, rfl, h3, hf⟩ := wfs_cons hf
  obtain ⟨c4, cs, m4, ms, rfl, rfl, h4, hf⟩ := wfs_cons hf
  obtain ⟨c5, cs, m5, ms, rfl, rfl, h5, hf⟩ := wfs_cons hf
  obtain ⟨c6, cs, m6, ms, rfl, rfl, h6, hf⟩ := wfs_cons hf
  obtain ⟨c7, cs, m7, ms, rfl, rfl, h7, hf⟩ := wfs_cons hf
  obtain ⟨c8, cs, m8, ms, rfl, rfl, h8, hf⟩ := wfs_cons hf
  obtain ⟨c9, cs, m9, ms, rfl, rfl, h9, hf⟩ := wfs_cons hf
  obtain ⟨rfl, rfl⟩ := wfs_nil hf
  obtain ⟨a1, rfl, w1, _⟩ := wt_int T_int rfl h1
  obtain ⟨u, rfl, hu, _⟩ := wt_Upd h2
  obtain ⟨l, hro, hok, hR⟩ := wt_Upds h3
  obtain ⟨a4, rfl, w4, _⟩ := wt_int T_int64 rfl h4
  obtain ⟨a5, b5, rfl, w5, w5'⟩ := wt_PairB h5
  obtain ⟨a6, rfl, w6, _⟩ := wt_hash T_api_Hash rfl T_uint8 rfl h6
  obtain ⟨a7, rfl, w7, _⟩ := wt_hash T_api_Hash rfl T_uint8 rfl h7
  obtain ⟨a8, rfl, w8, _⟩ := wt_hash T_api_Hash rfl T_uint8 rfl h8
  obtain ⟨a9, rfl, w9, _⟩ := wt_int T_int rfl h9
  exact ⟨⟨a1, u, a4, a5, b5, a6, a7, a8, a9⟩, c3, l, rfl, ⟨i64_wf.1 w1, hu, i64_wf.1 w4, w5, w5', w6, w7, w8, i64_wf.1 w9⟩, hro, hok, hR⟩

set_option maxHeartbeats 4000000 in
theorem law_RecordBytes {G : Heap} {a b : AVal} {m1 m2 : Nat} (h1 : wt T G reachBytes 6 t_api_Record a m1) (h2 : wt T G reachBytes 6 t_string b m2) :
    ACalls P escrowlaw17_RecordBytes.n [a, b] G fun v _ => v = .bool true := by
  obtain ⟨r, v, l, rfl, hr, hro, hok, hR⟩ := wt_Record h1
  obtain ⟨bs, rfl, hbl, _⟩ := wt_str T_string rfl h2
  have hR : l.length * 72 ≤ 140737488351232 := hR
  have hb : bs.length ≤ 140737488351232 := hbl
  have hl := hro.is
  have lv : Leaf v := capLeaf hro.cap
  have hlen : l.length ≤ 140737488351232 := by omega
  refine escrowlaw17_RecordBytes.sound ?_
  unfold escrowlaw17_RecordBytes.S
  intro i1 f1
  have s1 := (Sp.nil G).row f1 (r.av v)
  refine escrowlaw17_head.use fun G4 c4 => ?_
  have s4 := s1.tmp c4
  rw [vun_not, wv_some, Bool.not_true, brB_false]
  refine wv_of (Rc.ld (RowL.own (i := 0) s4 rfl) hr lv) ?_
  refine escrowref17_Write.use hr lv (hl.ch' s4.ch) hok hlen fun G8 c8 => ?_
  have s8 := s4.tmp c8
  obtain ⟨W, hW⟩ : ∃ W, W = wrR r l := ⟨_, rfl⟩
  rw [← hW]
  refine wv_of (tv0 _ _) ?_
  refine wv_of (tv1 _ _) ?_
  refine wv_of (Rc.ld (RowL.own (i := 0) s8 rfl) hr lv) ?_
  refine escrowlaw17_lent.use hr lv (hl.ch' s8.ch) hok (by omega) fun w u G13 hL t13 => ?_
  obtain ⟨F13, o13, c13⟩ := t13.out
  have s13 := s8.new o13 c13
  have lw : Leaf w := hL.leaf
  refine wv_of (tv0 _ _) ?_
  refine wv_of (tv1 _ _) ?_
  refine Rc.nw s13 hr lw fun i16 G18 s18 => ?_
  refine wv_of (Rc.ld (RowL.own (i := 0) s18 rfl) hr lw) ?_
  have hw : ∀ {ps : List LP} {G' : Heap}, Sp [] G (RowL i16 (r.av w) :: OwnL 36 u ((l ++ [m77, mMark]).map UpdM.av) :: ps) G' → IsSl 36 G' w (l.map UpdM.av) := fun s => by
    have := (LentG.cap hL (by simp) (OwnL.own (i := 1) s rfl)).isSl
    rwa [← List.map_take, List.take_left] at this
  refine record_Write.use hr lw (hw s18) hok hlen fun G21 c21 => ?_
  have s21 := s18.tmp c21
  rw [← hW]
  refine wv_of (tv0 _ _) ?_
  refine wv_of (tv1 _ _) ?_
  obtain ⟨xo, lo, xl⟩ := readR_ok hb
  refine record_Read.use hb fun w1 G25 t25 => ?_
  obtain ⟨F25, o25, c25⟩ := t25.out
  have s25 := s21.new o25 c25
  have lw1 := (OwnL.own (i := 0) s25 rfl).leaf
  refine wv_of t30 ?_
  refine wv_of t31 ?_
  refine wv_of t32 ?_
  refine Rc.nw s25 xo lw1 fun i29 G31 s31 => ?_
  refine escrowref17_Read.use hb fun w2 G33 t33 => ?_
  obtain ⟨F33, o33, c33⟩ := t33.out
  have s33 := s31.new o33 c33
  have lw2 := (OwnL.own (i := 0) s33 rfl).leaf
  refine wv_of t30 ?_
  refine wv_of t31 ?_
  refine wv_of t32 ?_
  refine Rc.nw s33 xo lw2 fun i37 G39 s39 => ?_
  have ez : ∀ {t : TypeId} (n : Int), vbin T .eql t (.int .i64 n) (.int .i64 n) = some (.bool true) := fun n => ez0
  rw [vbin_seql, wv_some, decide_eq_true rfl, brB_true]
  refine wv_of (ez _) ?_
  rw [brB_true]
  refine wv_of (Rc.ld_upds (RowL.own (i := 6) s39 rfl) hr lv) ?_
  refine escrowlaw17_stays.use (OwnL.own (i := 5) s39 rfl).is (hl.ch' s39.ch) hok hlen ?_
  rw [brB_true]
  refine wv_of (Rc.ld (RowL.own (i := 2) s39 rfl) xo lw1) ?_
  refine wv_of (Rc.ld (RowL.own (i := 0) s39 rfl) xo lw2) ?_
  refine escrowref17_Same.use xo xo (OwnL.own (i := 3) s39 rfl).is (OwnL.own (i := 1) s39 rfl).is lw1 lw2 lo lo xl xl fun G48 c48 => ?_
  rw [decide_eq_true ⟨rfl, rfl⟩, brB_true]
  refine wv_of (ez _) ?_
  rw [brB_true]
  refine wv_of (ez _) ?_
  rfl

end
end Go.Esc.M
