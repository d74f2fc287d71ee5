import Derived.Test.YtooeiljhobdfpaaLFy
/- Own work. Chapter 13: valid updates out of any; whole ledgers; the other side's view: LedgerViews. -/
set_option linter.unusedSimpArgs false
set_option linter.unusedVariables false
namespace Go.Esc.M
open Go Go.Esc

theorem i64_k (n : Int) (h0 : -9223372036854775808 ≤ n) (h1 : n ≤ 9223372036854775807) : I64 n := ⟨h0, h1⟩
def madeU (u : UpdM) : UpdM :=
  if u.kind % 4 = 2 then ⟨2, u.id % 2048, 0, u.hash, []⟩
  else if u.kind % 4 = 3 then ⟨3, u.id % 2048, 0, h0, []⟩
  else ⟨1, u.id % 2048, 1 + u.amount % 1152921504606846976, u.hash, []⟩
theorem madeU_valid (u : UpdM) : validU (madeU u) = true := by
  have h1 : 0 ≤ u.id % 2048 := by omega
  have h2 : u.id % 2048 < 2048 := by omega
  have h3 : 1 ≤ 1 + u.amount % 1152921504606846976 := by omega
  have h4 : 1 + u.amount % 1152921504606846976 ≤ 1152921504606846976 := by omega
  unfold madeU
  split
  · simp [validU, h1, h2]
  · split
    · simp [validU, h1, h2]
    · simp [validU, maxAm, h1, h2, h3, h4]
theorem madeU_ok {u : UpdM} (h : u.ok) : (madeU u).ok := by
  have h1 : I64 (u.id % 2048) := ⟨by omega, by omega⟩
  unfold madeU
  split
  · exact ⟨i64_k 2 (by decide) (by decide), h1, i64_k 0 (by decide) (by decide), h.hash, by simp⟩
  · split
    · exact ⟨i64_k 3 (by decide) (by decide), h1, i64_k 0 (by decide) (by decide), rfl, by simp⟩
    · exact ⟨i64_k 1 (by decide) (by decide), h1, i64_k (1 + u.amount % 1152921504606846976) (by omega) (by omega), h.hash, by simp⟩
theorem made_ok {l : List UpdM} (h : ∀ u ∈ l, u.ok) : ∀ u ∈ l.map madeU, u.ok := by
  intro u hu
  obtain ⟨x, hx, rfl⟩ := List.mem_map.1 hu
  exact madeU_ok (h x hx)
theorem made_valid (l : List UpdM) : ∀ u ∈ l.map madeU, validU u = true := by
  intro u hu
  obtain ⟨x, _, rfl⟩ := List.mem_map.1 hu
  exact madeU_valid x

section
variable {F0 : List AId} {G0 G : Heap} {ps : List LP} {Q : AVal → Heap → Prop} {i : Nat} {id : AId} {u : UpdM}

theorem upd_kind (n : Int) (hs : Sp F0 G0 ps G) (hi : ps[i]? = some (RowL id u.av)) {K : Heap → Prop} (hK : ∀ G', Sp F0 G0 (ps.set i (RowL id ({ u with kind := n } : UpdM).av)) G' → K G') : wg (vstore T G t_int (.ptr id [0] 0) (.int .i64 n)) K := by
  refine wg_of (vstore_fld (c := .int .i64 n) (u := .int .i64 u.kind) (RowL.own hs hi) rfl rfl T_int rfl rfl rfl) ?_
  exact hK _ (Sp.setRow hs hi _)
theorem fldM {v : AVal} {l : List UpdM} {j : Nat} {p : UpdM} (h : IsSl 36 G v (l.map UpdM.av)) (hj : l[j]? = some p) :
    ∃ a b, viaddr T t_sl_api_Update v (.int .i64 (j : Int)) = some a ∧ vfaddr T t_api_Update a 2 = some b ∧ vload T G t_int64 b = some (.int .i64 p.amount) :=
  upd_fldA h hj (f := 2) rfl T_int64 (by decide) rfl rfl rfl
theorem build_ki (n : Int) : vbuild T t_api_Update [(0, .int .i64 1), (1, .int .i64 n)] = some (UpdM.av ⟨1, n, 0, h0, []⟩) := rfl

set_option maxHeartbeats 2000000 in
theorem escrowlaw13_Made.use {v : AVal} {l : List UpdM} (hl : IsSl 36 G v (l.map UpdM.av)) (hok : ∀ u ∈ l, u.ok) (hlen : l.length ≤ 1048576) (hQ : ∀ w G', Sp [] G [OwnL 36 w ((l.map madeU).map UpdM.av)] G' → Q w G') : ACalls P escrowlaw13_Made.n [v] G Q := by
  refine escrowlaw13_Made.sound ?_
  unfold escrowlaw13_Made.S
  intro R hR
  have loop : ∀ (n j : Nat) (w : AVal) (G' : Heap), l.length - j = n → j ≤ l.length → Sp [] G [OwnL 36 w (((l.take j).map madeU).map UpdM.av)] G' → R [v, w, .int .i64 (j : Int)] G' := by
    intro n
    induction n with
    | zero =>
      intro j w G' hn hj sp
      refine hR _ _ _ _ ?_
      refine wv_of (upd_len (hl.ch' sp.ch)) ?_
      rw [vbin_lss, wv_some, decide_eq_false (by omega), brB_false]
      rw [List.take_of_length_le (by omega)] at sp
      exact hQ _ _ sp
    | succ n ih =>
      intro j w G' hn hj sp
      obtain ⟨u, hu⟩ : ∃ u, l[j]? = some u := ⟨_, List.getElem?_eq_getElem (by omega)⟩
      have huo := hok u (List.mem_of_getElem? hu)
      refine hR _ _ _ _ ?_
      refine wv_of (upd_len (hl.ch' sp.ch)) ?_
      rw [vbin_lss, wv_some, decide_eq_true (by omega), brB_true]
      obtain ⟨a, b, e1, e2, e3⟩ := fldI (hl.ch' sp.ch) hu
      refine wv_of e1 ?_
      refine wv_of e2 ?_
      refine wv_of e3 ?_
      refine wv_of (andK u.id (M := 2048) 11 (by decide) rfl rfl) ?_
      refine wv_of (build_ki _) ?_
      have h1 : I64 (u.id % 2048) := ⟨by omega, by omega⟩
      have h3 : I64 (1 + u.amount % 1152921504606846976) := ⟨by omega, by omega⟩
      have o0 : (⟨1, u.id % 2048, 0, h0, []⟩ : UpdM).ok := ⟨i64_k 1 (by decide) (by decide), h1, i64_k 0 (by decide) (by decide), rfl, by simp⟩
      refine newU sp o0 fun i13 G15 s15 => ?_
      obtain ⟨a, b, e1, e2, e3⟩ := fldK (hl.ch' s15.ch) hu
      refine wv_of e1 ?_
      refine wv_of e2 ?_
      refine wv_of e3 ?_
      refine wv_of (andK u.kind (M := 4) 2 (by decide) rfl rfl) ?_
      intro J46
      have go : ∀ G2, Sp [] G [RowL i13 (madeU u).av, OwnL 36 w (((l.take j).map madeU).map UpdM.av)] G2 → J46 G2 := by
        intro G40 s40
        simp -zeta only [J46]
        have hmo := madeU_ok huo
        refine wv_of (upd_load (i := 0) s40 rfl hmo).2.2.2.2.2 ?_
        refine grow_upd (i := 1) s40 rfl hmo (by rw [List.length_map, List.length_take]; omega) fun w' G45 s45 => ?_
        rw [vbin_add, i64_in (by omega) (by omega), wv_some]
        refine ih (j + 1) w' G45 (by omega) (by omega) ?_
        have e : (l.take (j + 1)).map madeU = (l.take j).map madeU ++ [madeU u] := by rw [List.take_add_one, hu, List.map_append]; rfl
        rw [e]
        exact s45.erase 0
      rw [vbin_eql, wv_some, brB_dec]
      refine ⟨fun k2 => ?_, fun k2 => ?_⟩
      · have em : madeU u = ⟨2, u.id % 2048, 0, u.hash, []⟩ := if_pos k2
        rw [em] at go
        refine upd_kind (i := 0) 2 s15 rfl fun G21 s21 => ?_
        obtain ⟨a, b, e1, e2, e3⟩ := fldH huo (hl.ch' s21.ch) hu
        refine wv_of e1 ?_
        refine wv_of e2 ?_
        refine wv_of e3 ?_
        refine upd_hash (i := 0) (u := ⟨2, u.id % 2048, 0, h0, []⟩) huo.hash ⟨i64_k 2 (by decide) (by decide), h1, i64_k 0 (by decide) (by decide), rfl, by simp⟩ s21 rfl fun G25 s25 => ?_
        exact go G25 s25
      · rw [vbin_eql, wv_some, brB_dec]
        refine ⟨fun k3 => ?_, fun k3 => ?_⟩
        · have em : madeU u = ⟨3, u.id % 2048, 0, h0, []⟩ := by unfold madeU; rw [if_neg k2, if_pos k3]
          rw [em] at go
          refine upd_kind (i := 0) 3 s15 rfl fun G27 s27 => ?_
          exact go G27 s27
        · have em : madeU u = ⟨1, u.id % 2048, 1 + u.amount % 1152921504606846976, u.hash, []⟩ := by unfold madeU; rw [if_neg k2, if_neg k3]
          rw [em] at go
          obtain ⟨a, b, e1, e2, e3⟩ := fldM (hl.ch' s15.ch) hu
          refine wv_of e1 ?_
          refine wv_of e2 ?_
          refine wv_of e3 ?_
          refine wv_of (andK u.amount (M := 1152921504606846976) 60 (by decide) rfl rfl) ?_
          rw [vbin_add, i64_in (by omega) (by omega), wv_some]
          refine upd_amount (i := 0) (1 + u.amount % 1152921504606846976) s15 rfl fun G33 s33 => ?_
          obtain ⟨a, b, e1, e2, e3⟩ := fldH huo (hl.ch' s33.ch) hu
          refine wv_of e1 ?_
          refine wv_of e2 ?_
          refine wv_of e3 ?_
          refine upd_hash (i := 0) (u := ⟨1, u.id % 2048, 1 + u.amount % 1152921504606846976, h0, []⟩) huo.hash ⟨i64_k 1 (by decide) (by decide), h1, h3, rfl, by simp⟩ s33 rfl fun G37 s37 => ?_
          exact go G37 s37
  exact loop _ 0 .nilSlice G rfl (by omega) (by simpa using (Sp.nil G).nilL 36)

theorem escrowlaw13_bases.use {a b : Int} (hQ : ∀ x y : Int, 0 ≤ x → x < 576460752303423488 → 0 ≤ y → y < 576460752303423488 → Q (.tuple [.int .i64 x, .int .i64 y]) G) : ACalls P escrowlaw13_bases.n [.int .i64 a, .int .i64 b] G Q := by
  refine escrowlaw13_bases.sound ?_
  unfold escrowlaw13_bases.S
  refine wv_of (andK a (M := 576460752303423488) 59 (by decide) rfl rfl) ?_
  refine wv_of (andK b (M := 576460752303423488) 59 (by decide) rfl rfl) ?_
  exact hQ _ _ (by omega) (by omega) (by omega) (by omega)

theorem uint_part {a : Int} {n : Nat} (hn : n ≤ 1048576) : ∃ x : Nat, x ≤ n ∧ IntKind.i64.wrap ((IntKind.u64.wrap a).tmod (((n + 1 : Nat) : Int))) = (x : Int) := by
  have h0 : 0 ≤ IntKind.u64.wrap a := by
    rw [wrapU64]; omega
  have h1 : (IntKind.u64.wrap a).tmod (((n + 1 : Nat) : Int)) = (IntKind.u64.wrap a) % (((n + 1 : Nat) : Int)) := Int.tmod_eq_emod_of_nonneg h0
  rw [h1]
  have h2 := Int.emod_nonneg (IntKind.u64.wrap a) (b := ((n + 1 : Nat) : Int)) (by omega)
  have h3 := Int.emod_lt_of_pos (IntKind.u64.wrap a) (b := ((n + 1 : Nat) : Int)) (by omega)
  generalize (IntKind.u64.wrap a) % (((n + 1 : Nat) : Int)) = z at h2 h3
  rw [i64_in (by omega) (by omega)]
  exact ⟨z.toNat, by omega, by omega⟩

theorem escrowlaw13_counts.use {a b : Int} {n m : Nat} (hn : n ≤ 1048576) (hm : m ≤ 1048576) (hQ : ∀ (x y : Nat) G', x ≤ n → y ≤ m → Ch [] G [] G' → Q (pairW x y) G') : ACalls P escrowlaw13_counts.n [pairW a b, .int .i64 ((n : Nat) : Int), .int .i64 ((m : Nat) : Int)] G Q := by
  refine escrowlaw13_counts.sound ?_
  unfold escrowlaw13_counts.S
  intro i1 f1
  have s1 := (Sp.nil G).row f1 (pairW a b)
  intro i3 f3
  have s3 := s1.row f3 (pairW 0 0)
  have zC : z_api_Counts = pairW 0 0 := rfl
  rw [zC]
  revert s3
  generalize Heap.upd _ i3 _ = G4
  intro s3
  obtain ⟨l1, l2, _⟩ := count_load (RowL.own (i := 1) s3 rfl)
  have one : ∀ (a : Int) (n : Nat) (K : AVal → Prop), n ≤ 1048576 → (∀ x : Nat, x ≤ n → K (.int .i64 (x : Int))) → (wv (vconv T G4 t_int t_uint (.int .i64 a)) fun v6 => wv (vbin T .add t_int (.int .i64 (n : Int)) (.int .i64 1)) fun v7 => wv (vconv T G4 t_int t_uint v7) fun v8 => wv (vbin T .rem t_uint v6 v8) fun v9 => wv (vconv T G4 t_uint t_int v9) fun v10 => K v10) := by
    intro a n K hn hK
    refine wv_of (vconv_int T_int T_uint rfl) ?_
    rw [vbin_add, i64_in (by omega) (by omega), wv_some]
    refine wv_of (vconv_int T_int T_uint rfl) ?_
    rw [u64_in (n := (n : Int) + 1) (by omega) (by omega), vbin_rem _ _ _ _ _ (by omega), wv_some]
    refine wv_of (vconv_int T_uint T_int rfl) ?_
    obtain ⟨x, hx, e⟩ := uint_part (a := a) hn
    have e2 : ((n : Int) + 1) = ((n + 1 : Nat) : Int) := by omega
    rw [e2, e]
    exact hK x hx
  refine wv_of l1 ?_
  refine one a n _ hn fun x hx => ?_
  refine wv_of l2 ?_
  refine one b m _ hm fun y hy => ?_
  refine wv_of (v := pairW x y) rfl ?_
  refine wg_of (whole_store (c := pairW x y) T_api_Counts (RowL.own (i := 0) s3 rfl) rfl rfl rfl) ?_
  have s18 := Sp.setRow (j := 0) s3 rfl (pairW x y)
  refine wv_of (count_load (RowL.own (i := 0) s18 rfl)).2.2 ?_
  exact hQ x y _ hx hy s18.ch

theorem pen_fldO {v : AVal} {l : List PenM} {j : Nat} {p : PenM} (h : IsSl 35 G v (l.map PenM.av)) (hj : l[j]? = some p) :
    ∃ a b, viaddr T t_sl_api_Pending v (.int .i64 (j : Int)) = some a ∧ vfaddr T t_api_Pending a 0 = some b ∧ vload T G t_bool b = some (.bool p.ours) :=
  pen_fldA (f := 0) (o := 0) (tf := t_bool) (fi := ti_bool) (c := .bool p.ours) h hj rfl T_bool (by decide) rfl rfl rfl
theorem newP {p : PenM} {K : AId → Heap → Prop} (hs : Sp F0 G0 ps G) (hp : p.ok) (hK : ∀ i G', Sp F0 G0 (RowL i p.av :: ps) G' → K i G') : aNew G (.own z_api_Pending) fun i G2 => wg (vstore T G2 t_api_Pending (.ptr i [] 0) p.av) fun G3 => K i G3 :=
  newVal hs T_api_Pending (PenM.fits hp) (by rw [PenM.sz hp]; rfl) (PenM.okv p) hK
theorem sum_nn {l : List Int} (h : ∀ a ∈ l, 1 ≤ a) : 0 ≤ l.sum := by
  induction l with
  | nil => simp
  | cons a l ih =>
    have := h a (by simp)
    have := ih fun x hx => h x (by simp [hx])
    simp; omega

set_option maxHeartbeats 4000000 in
theorem escrowlaw13_whole.use {o q bases : Int} {v : AVal} {l : List PenM} (hl : IsSl 35 G v (l.map PenM.av)) (hok : ∀ p ∈ l, p.ok) (hlen : l.length ≤ 9223372036854775800) (ho : 0 ≤ o) (hq : 0 ≤ q) (hb : bases ≤ 1152921504606846976) (hw : WholeP (bases - o - q) l) (hQ : ∀ G', Ch [] G [] G' → Q (.bool true) G') :
    ACalls P escrowlaw13_whole.n [ledV o q v, .int .i64 bases] G Q := by
  have hv := sl_leaf hl
  obtain ⟨w1, w2, w3⟩ := hw
  have hsn : 0 ≤ (l.map (·.amount)).sum := sum_nn fun a ha => by
    obtain ⟨p, hp, rfl⟩ := List.mem_map.1 ha
    exact w1 p hp
  refine escrowlaw13_whole.sound ?_
  unfold escrowlaw13_whole.S
  intro i1 f1
  have s1 := (Sp.nil G).row f1 (ledV o q v)
  revert s1
  generalize Heap.upd _ i1 _ = G2
  intro s1 J87
  obtain ⟨a0, a1, a2, _⟩ := led_load (i := 0) s1 rfl hv
  refine wv_of a0 ?_
  rw [vbin_lss, wv_some, decide_eq_false (by omega), brB_false]
  refine wv_of a1 ?_
  rw [vbin_lss, wv_some, decide_eq_false (by omega), brB_false]
  refine wv_of a0 ?_
  rw [vbin_gtr, wv_some, decide_eq_false (by omega), brB_false]
  refine wv_of a1 ?_
  refine wv_of a0 ?_
  rw [vbin_sub, i64_in (by omega) (by omega), wv_some, vbin_gtr, wv_some, decide_eq_false (by omega)]
  simp -zeta only [J87, brB_false]
  refine wv_of a0 ?_
  rw [vbin_sub, i64_in (by omega) (by omega), wv_some]
  refine wv_of a1 ?_
  rw [vbin_sub, i64_in (by omega) (by omega), wv_some]
  intro R hR
  have loop : ∀ (n j : Nat) (left : Int) (G' : Heap), l.length - j = n → j ≤ l.length → left = ((l.drop j).map (·.amount)).sum → Sp [] G [RowL i1 (ledV o q v)] G' → R [.ptr i1 [] 0, .int .i64 left, .int .i64 (j : Int)] G' := by
    intro n
    induction n with
    | zero =>
      intro j left G' hn hj hleft sp
      obtain ⟨_, _, b2, _⟩ := led_load (i := 0) sp rfl hv
      refine hR _ _ _ _ ?_
      refine wv_of (v := .ptr i1 [2] 2) rfl ?_
      refine wv_of b2 ?_
      refine wv_of (pens_len (hl.ch' sp.ch)) ?_
      rw [vbin_lss, wv_some, decide_eq_false (by omega), brB_false, vbin_eql, wv_some]
      rw [List.drop_eq_nil_of_le (by omega)] at hleft
      have : left = 0 := by rw [hleft]; rfl
      rw [decide_eq_true this]
      exact hQ _ sp.ch
    | succ n ih =>
      intro j left G' hn hj hleft sp
      obtain ⟨p, hp⟩ : ∃ p, l[j]? = some p := ⟨_, List.getElem?_eq_getElem (by omega)⟩
      have hpo := hok p (List.mem_of_getElem? hp)
      have hpa := w1 p (List.mem_of_getElem? hp)
      obtain ⟨_, _, b2, _⟩ := led_load (i := 0) sp rfl hv
      have hd : l.drop j = p :: l.drop (j + 1) := by
        obtain ⟨hlt, he⟩ := List.getElem?_eq_some_iff.1 hp
        rw [List.drop_eq_getElem_cons hlt, he]
      have hrest : 0 ≤ ((l.drop (j + 1)).map (·.amount)).sum := sum_nn fun a ha => by
        obtain ⟨x, hx, rfl⟩ := List.mem_map.1 ha
        exact w1 x (List.mem_of_mem_drop hx)
      rw [hd, List.map_cons, List.sum_cons] at hleft
      have hleb : left ≤ 1152921504606846976 := by
        have h1 : (l.map (·.amount)).sum = ((l.take j).map (·.amount)).sum + ((l.drop j).map (·.amount)).sum := by
          rw [← List.sum_append, ← List.map_append, List.take_append_drop]
        have h2 : 0 ≤ ((l.take j).map (·.amount)).sum := sum_nn fun a ha => by
          obtain ⟨x, hx, rfl⟩ := List.mem_map.1 ha
          exact w1 x (List.mem_of_mem_take hx)
        rw [hd, List.map_cons, List.sum_cons] at h1
        omega
      refine hR _ _ _ _ ?_
      refine wv_of (v := .ptr i1 [2] 2) rfl ?_
      refine wv_of b2 ?_
      refine wv_of (pens_len (hl.ch' sp.ch)) ?_
      rw [vbin_lss, wv_some, decide_eq_true (by omega), brB_true]
      refine wv_of (v := .ptr i1 [2] 2) rfl ?_
      refine wv_of b2 ?_
      obtain ⟨a, ha, hla⟩ := pen_at (hl.ch' sp.ch) hp
      refine wv_of ha ?_
      refine wv_of hla ?_
      refine newP sp hpo fun i32 G34 s34 => ?_
      obtain ⟨_, _, b2, _⟩ := led_load (i := 1) s34 rfl hv
      obtain ⟨q0, q1, q2, q3⟩ := PenM.fld hpo (RowL.own (i := 0) s34 rfl)
      intro J84
      have go : J84 (.bool false) G34 := by
        simp -zeta only [J84, brB_false]
        refine wv_of q2 ?_
        rw [vbin_sub, i64_in (by omega) (by omega), wv_some, vbin_add, i64_in (by omega) (by omega), wv_some]
        exact ih (j + 1) _ G34 (by omega) (by omega) (by omega) (s34.erase 0)
      refine wv_of q2 ?_
      rw [vbin_lss, wv_some, decide_eq_false (by omega), brB_false]
      refine wv_of q2 ?_
      rw [vbin_gtr, wv_some, decide_eq_false (by omega), brB_false, vbin_gtr, wv_some, brB_dec]
      refine ⟨fun h0 => ?_, fun _ => go⟩
      obtain ⟨z, hz⟩ : ∃ p, l[j - 1]? = some p := ⟨_, List.getElem?_eq_getElem (by omega)⟩
      have hord := w3 (j - 1) z p hz (by rw [show j - 1 + 1 = j by omega]; exact hp)
      have ej : vbin T .sub t_int (.int .i64 (j : Int)) (.int .i64 1) = some (.int .i64 ((j - 1 : Nat) : Int)) := by
        rw [vbin_sub, i64_in (by omega) (by omega)]
        congr 2
        omega
      have hl34 := hl.ch' s34.ch
      obtain ⟨x0, x1, y1, y2, y3⟩ := pen_fldO hl34 hz
      obtain ⟨x2, x3, z1, z2, z3⟩ := pen_fldI hl34 rfl hz
      refine wv_of q0 ?_
      have back : (wv (vload T G34 t_bool (.ptr i32 [0] 0)) fun v64 => wv (vfaddr T t_api_Ledger (.ptr i1 [] 0) 2) fun v65 => wv (vload T G34 t_sl_api_Pending v65) fun v66 => wv (vbin T .sub t_int (.int .i64 (j : Int)) (.int .i64 1)) fun v67 => wv (viaddr T t_sl_api_Pending v66 v67) fun v68 => wv (vfaddr T t_api_Pending v68 0) fun v69 => wv (vload T G34 t_bool v69) fun v70 => wv (vbin T .eql t_bool v64 v70) fun v71 => brB (some v71)
          (wv (vload T G34 t_int64 (.ptr i32 [1] 1)) fun v72 => wv (vfaddr T t_api_Ledger (.ptr i1 [] 0) 2) fun v73 => wv (vload T G34 t_sl_api_Pending v73) fun v74 => wv (vbin T .sub t_int (.int .i64 (j : Int)) (.int .i64 1)) fun v75 => wv (viaddr T t_sl_api_Pending v74 v75) fun v76 => wv (vfaddr T t_api_Pending v76 1) fun v77 => wv (vload T G34 t_int64 v77) fun v78 => wv (vbin T .lss t_int64 v72 v78) fun v79 => J84 v79 G34)
          (J84 (.bool false) G34)) := by
        refine wv_of q0 ?_
        refine wv_of (v := .ptr i1 [2] 2) rfl ?_
        refine wv_of b2 ?_
        refine wv_of ej ?_
        refine wv_of y1 ?_
        refine wv_of y2 ?_
        refine wv_of y3 ?_
        rw [vbin_beql T_bool rfl, wv_some, brB_bool]
        refine ⟨fun hb => ?_, fun _ => go⟩
        have hb := eq_of_beq hb
        refine wv_of q1 ?_
        refine wv_of (v := .ptr i1 [2] 2) rfl ?_
        refine wv_of b2 ?_
        refine wv_of ej ?_
        refine wv_of z1 ?_
        refine wv_of z2 ?_
        refine wv_of z3 ?_
        have := hord.2 hb
        rw [vbin_lss, wv_some, decide_eq_false (by omega)]
        exact go
      cases hpo' : p.ours with
      | false =>
        rw [brB_false]
        exact back
      | true =>
        rw [brB_true]
        refine wv_of (v := .ptr i1 [2] 2) rfl ?_
        refine wv_of b2 ?_
        refine wv_of ej ?_
        refine wv_of y1 ?_
        refine wv_of y2 ?_
        refine wv_of y3 ?_
        have hzo : z.ours = true := by
          cases h : z.ours with
          | true => rfl
          | false => exact absurd ⟨hpo', h⟩ hord.1
        rw [hzo, vun_not, wv_some, Bool.not_true, brB_false]
        rw [hzo] at y3
        exact back
  exact loop _ 0 _ G2 rfl (by omega) (by rw [List.drop_zero]; exact w2.symm) s1

set_option maxHeartbeats 4000000 in
theorem escrowlaw13_turned.use {o q : Int} {v : AVal} {l : List PenM} (hl : IsSl 35 G v (l.map PenM.av)) (hok : ∀ p ∈ l, p.ok) (hlen : l.length ≤ 1048576) (hQ : ∀ w G', Sp [] G [OwnL 35 w ((turnL l).map PenM.av)] G' → Q (ledV q o w) G') : ACalls P escrowlaw13_turned.n [ledV o q v] G Q := by
  have hv := sl_leaf hl
  refine escrowlaw13_turned.sound ?_
  unfold escrowlaw13_turned.S
  rw [zLed]
  intro i1 f1
  have s1 := (Sp.nil G).row f1 (ledV o q v)
  intro i3 f3
  have s3 := s1.row f3 (ledV 0 0 .nilSlice)
  refine wv_of (led_load (i := 1) s3 rfl hv).2.1 ?_
  refine wv_of (led_load (i := 1) s3 rfl hv).1 ?_
  refine wv_of (v := ledV q o .nilSlice) rfl ?_
  refine newLed s3 nil_leaf fun i8 G10 s10 => ?_
  intro R hR
  have key : ∀ (k : Nat) (acc : List PenM) (w : AVal) (G' : Heap), acc.length ≤ 1048576 → k < 2 → Sp [] G [OwnL 35 w (acc.map PenM.av), RowL i8 (ledV q o w), RowL i3 (ledV 0 0 .nilSlice), RowL i1 (ledV o q v)] G' →
      (∀ w' G2, Sp [] G [OwnL 35 w' ((acc ++ turnS (decide (k = 0)) l).map PenM.av), RowL i8 (ledV q o w'), RowL i3 (ledV 0 0 .nilSlice), RowL i1 (ledV o q v)] G2 → R [.ptr i1 [] 0, .ptr i3 [] 0, .ptr i8 [] 0, .int .i64 ((k + 1 : Nat) : Int)] G2) →
      R [.ptr i1 [] 0, .ptr i3 [] 0, .ptr i8 [] 0, .int .i64 (k : Int)] G' := by
    intro k acc w G' hacc hk sp hnext
    refine hR _ _ _ _ _ ?_
    rw [vbin_lss, wv_some, decide_eq_true (by omega), brB_true]
    intro R18 hR18
    have loop : ∀ (n j : Nat) (w : AVal) (G' : Heap), l.length - j = n → j ≤ l.length → Sp [] G [OwnL 35 w ((acc ++ turnS (decide (k = 0)) (l.take j)).map PenM.av), RowL i8 (ledV q o w), RowL i3 (ledV 0 0 .nilSlice), RowL i1 (ledV o q v)] G' →
        R18 [.ptr i1 [] 0, .ptr i3 [] 0, .ptr i8 [] 0, .int .i64 (k : Int), .int .i64 (j : Int)] G' := by
      intro n
      induction n with
      | zero =>
        intro j w G' hn hj sp
        have : j = l.length := by omega
        subst this
        rw [List.take_length] at sp
        refine hR18 _ _ _ _ _ _ ?_
        refine wv_of (v := .ptr i1 [2] 2) rfl ?_
        refine wv_of (led_load (i := 3) sp rfl hv).2.2.1 ?_
        refine wv_of (pens_len (hl.ch' sp.ch)) ?_
        rw [vbin_lss, wv_some, decide_eq_false (by omega), brB_false, vbin_add, i64_in (by omega) (by omega), wv_some]
        exact hnext w G' sp
      | succ n ih =>
        intro j w G' hn hj sp
        obtain ⟨p, hp⟩ : ∃ p, l[j]? = some p := ⟨_, List.getElem?_eq_getElem (by omega)⟩
        have hpo := hok p (List.mem_of_getElem? hp)
        have hnx := turnS_take (b := decide (k = 0)) hp
        have lw := (OwnL.own (i := 0) sp rfl).leaf
        refine hR18 _ _ _ _ _ _ ?_
        refine wv_of (v := .ptr i1 [2] 2) rfl ?_
        refine wv_of (led_load (i := 3) sp rfl hv).2.2.1 ?_
        refine wv_of (pens_len (hl.ch' sp.ch)) ?_
        rw [vbin_lss, wv_some, decide_eq_true (by omega), brB_true]
        refine wv_of (v := .ptr i1 [2] 2) rfl ?_
        refine wv_of (led_load (i := 3) sp rfl hv).2.2.1 ?_
        obtain ⟨a, ha, hla⟩ := pen_at (hl.ch' sp.ch) hp
        refine wv_of ha ?_
        refine wv_of hla ?_
        refine newP sp hpo fun i33 G35 s35 => ?_
        refine wv_of (PenM.fld hpo (RowL.own (i := 0) s35 rfl)).1 ?_
        rw [vbin_eql, wv_some, vbin_beql T_bool rfl, wv_some, brB_bool]
        have ek : decide ((k : Int) = 1) = !decide (k = 0) := by
          rcases Nat.lt_or_ge k 1 with h | h
          · have : k = 0 := by omega
            subst this; rfl
          · have : k = 1 := by omega
            subst this; rfl
        rw [ek]
        refine ⟨fun hb => ?_, fun hb => ?_⟩
        · have hb := eq_of_beq hb
          rw [if_neg (by rw [hb]; cases decide (k = 0) <;> decide)] at hnx
          refine wv_of (PenM.fld hpo (RowL.own (i := 0) s35 rfl)).1 ?_
          rw [vun_not, wv_some, hb, Bool.not_not]
          refine pen_side (i := 0) s35 rfl (decide (k = 0)) fun G41 s41 => ?_
          refine wv_of (v := .ptr i8 [2] 2) rfl ?_
          refine wv_of (led_load (i := 2) s41 rfl lw).2.2.1 ?_
          refine wv_of (whole_load T_api_Pending (RowL.own (i := 0) s41 rfl) (PenM.fits (hpo.side (decide (k = 0))))) ?_
          have htl := length_turnS (decide (k = 0)) (l.take j)
          rw [List.length_take] at htl
          refine grow_pen (i := 1) s41 rfl (hpo.side (decide (k = 0))) (by rw [List.length_append]; omega) fun w' G48 s48 => ?_
          have lw' := (OwnL.own (i := 1) s48 rfl).leaf
          refine wv_of (v := .ptr i8 [2] 2) rfl ?_
          refine led_set (i := 2) s48 rfl lw.1 lw' fun G50 s50 => ?_
          rw [vbin_add, i64_in (by omega) (by omega), wv_some]
          refine ih (j + 1) w' G50 (by omega) (by omega) ?_
          rw [hnx, ← List.append_assoc]
          exact s50.erase 0
        · have hbe : p.ours = decide (k = 0) := by
            cases hx : p.ours <;> cases hy : decide (k = 0) <;> rw [hx, hy] at hb <;> first | rfl | cases hb
          rw [if_pos hbe, List.append_nil] at hnx
          rw [vbin_add, i64_in (by omega) (by omega), wv_some]
          refine ih (j + 1) w G35 (by omega) (by omega) ?_
          rw [hnx]
          exact s35.erase 0
    exact loop _ 0 w G' rfl (by omega) (by simpa [turnS] using sp)
  have e0 : turnL l = turnS true l ++ turnS false l := rfl
  have hl1 := length_turnS true l
  refine key 0 [] .nilSlice G10 (by simp) (by decide) (s10.nilL 35) fun w' G2 s2 => ?_
  refine key 1 (turnS true l) w' G2 (by omega) (by decide) s2 fun w2 G3 s3 => ?_
  refine hR _ _ _ _ _ ?_
  rw [vbin_lss, wv_some, decide_eq_false (by decide), brB_false]
  have lw := (OwnL.own (i := 0) s3 rfl).leaf
  refine wv_of (led_load (i := 1) s3 rfl lw).2.2.2 ?_
  refine led_store (i := 2) s3 rfl rfl lw fun G4 s4 => ?_
  refine wv_of (led_load (i := 2) s4 rfl lw).2.2.2 ?_
  exact hQ w2 G4 (((s4.erase 1).erase 1).erase 1)

end

end Go.Esc.M

/- Own work. Chapter 13: LedgerViews. -/
set_option linter.unusedSimpArgs false
set_option linter.unusedVariables false
namespace Go.Esc.M
open Go Go.Esc

theorem foldS_in {bo bp : Int} {a b : List UpdM} {co cp : Nat} (h1 : co ≤ a.length) (h2 : cp ≤ b.length) (hb : 0 ≤ bo) (hp : 0 ≤ bp) (hs : bo + bp ≤ 1152921504606846976) : foldS bo bp a b co cp = foldM bo bp (a.take co) (b.take cp) := by
  unfold foldS
  rw [if_pos ⟨⟨by omega, by omega, by omega, by omega⟩, ⟨hb, by omega⟩, ⟨hp, by omega⟩, by omega, hs⟩]
  rfl
theorem foldM_e {bo bp : Int} {a b : List UpdM} (ha : ∀ u ∈ a, validU u = true) (hb : ∀ u ∈ b, validU u = true) : (foldM bo bp a b).e = 0 ∨ foldM bo bp a b = .no 130 := by
  have h : ¬ (allV a = false ∨ allV b = false) := by
    have h1 : allV a = true := List.all_eq_true.2 ha
    have h2 : allV b = true := List.all_eq_true.2 hb
    rw [h1, h2]; simp
  by_cases h2 : foldX bo a b < 0 ∨ foldY bp a b < 0
  · exact .inr (foldM_low h h2)
  · rw [foldM_fine h h2]
    exact .inl rfl

set_option maxRecDepth 20000 in
set_option maxHeartbeats 8000000 in
theorem law_LedgerViews {R : Nat} {G : Heap} {b b' v w f : AVal} {m0 m1 m2 m3 m4 : Nat} (h0' : wt T G R 4 t_int64 b m0) (h1 : wt T G R 4 t_int64 b' m1) (h2 : wt T G R 4 t_sl_api_Update v m2) (h3 : wt T G R 4 t_sl_api_Update w m3) (h4 : wt T G R 4 t_api_Counts f m4) (hm : m0 + (m1 + (m2 + (m3 + m4))) ≤ 1048576) :
    ACalls P escrowlaw13_LedgerViews.n [b, b', v, w, f] G fun v _ => v = .bool true := by
  obtain ⟨a0, rfl, _⟩ := wt_int T_int64 rfl h0'
  obtain ⟨b0, rfl, _⟩ := wt_int T_int64 rfl h1
  obtain ⟨ours, hro1, hok1, _, hl1⟩ := wt_UpdsM h2
  obtain ⟨peers, hro2, hok2, _, hl2⟩ := wt_UpdsM h3
  obtain ⟨fo, fp, rfl, _, _⟩ := wt_Counts h4
  have n1 : ours.length ≤ 1048576 := by omega
  have n2 : peers.length ≤ 1048576 := by omega
  refine escrowlaw13_LedgerViews.sound ?_
  unfold escrowlaw13_LedgerViews.S
  intro i1 f1
  have s1 := (Sp.nil G).row f1 (pairW fo fp)
  refine escrowlaw13_first.use fun G4 c4 => ?_
  have s4 := s1.tmp c4
  rw [vun_not, wv_some, Bool.not_true, brB_false]
  refine escrowlaw13_bases.use fun bo bp x1 x2 x3 x4 => ?_
  refine wv_of (tv0 _ _) ?_
  refine wv_of (tv1 _ _) ?_
  refine escrowlaw13_Made.use (hro1.is.ch' s4.ch) hok1 n1 fun x G11 t11 => ?_
  obtain ⟨F11, o11, c11⟩ := t11.out
  have s11 := s4.new o11 c11
  refine escrowlaw13_Made.use (hro2.is.ch' s11.ch) hok2 n2 fun y G13 t13 => ?_
  obtain ⟨F13, o13, c13⟩ := t13.out
  have s13 := s11.new o13 c13
  obtain ⟨X, hX⟩ : ∃ X, X = ours.map madeU := ⟨_, rfl⟩
  obtain ⟨Y, hY⟩ : ∃ X, X = peers.map madeU := ⟨_, rfl⟩
  have okX : ∀ u ∈ X, u.ok := by rw [hX]; exact made_ok hok1
  have okY : ∀ u ∈ Y, u.ok := by rw [hY]; exact made_ok hok2
  have vX : ∀ u ∈ X, validU u = true := by rw [hX]; exact made_valid ours
  have vY : ∀ u ∈ Y, validU u = true := by rw [hY]; exact made_valid peers
  have lX : X.length ≤ 1048576 := by rw [hX, List.length_map]; exact n1
  have lY : Y.length ≤ 1048576 := by rw [hY, List.length_map]; exact n2
  have lXY : X.length + Y.length ≤ 1048576 := by rw [hX, hY, List.length_map, List.length_map]; omega
  have s13 : Sp [] G [OwnL 36 y (Y.map UpdM.av), OwnL 36 x (X.map UpdM.av), RowL i1 (pairW fo fp)] G13 := by rw [hX, hY]; exact s13
  refine wv_of (count_load (RowL.own (i := 2) s13 rfl)).2.2 ?_
  refine wv_of (upd_len (OwnL.own (i := 1) s13 rfl).is) ?_
  refine wv_of (upd_len (OwnL.own (i := 0) s13 rfl).is) ?_
  refine escrowlaw13_counts.use lX lY fun co cp G18 hco hcp c18 => ?_
  have s18 := s13.tmp c18
  refine wg_of (whole_store (c := pairW co cp) T_api_Counts (RowL.own (i := 2) s18 rfl) rfl rfl rfl) ?_
  have s19 := Sp.setRow (j := 2) s18 rfl (pairW co cp)
  generalize Heap.upd _ _ _ = G19 at s19 ⊢
  have s19 : Sp [] G [OwnL 36 y (Y.map UpdM.av), OwnL 36 x (X.map UpdM.av), RowL i1 (pairW co cp)] G19 := s19
  refine wv_of (count_load (RowL.own (i := 2) s19 rfl)).2.2 ?_
  have hFok := foldS_ok (bo := bo) (bp := bp) (co := co) (cp := cp) okX okY
  have hFlen := foldS_len bo bp X Y co cp
  have hFin := foldS_in (a := X) (b := Y) hco hcp x1 x3 (by omega)
  have hDok := foldS_ok (bo := bp) (bp := bo) (co := cp) (cp := co) okY okX
  have hDlen := foldS_len bp bo Y X cp co
  have hDin := foldS_in (a := Y) (b := X) hcp hco x3 x1 (by omega)
  obtain ⟨F, hF⟩ : ∃ F, F = foldS bo bp X Y co cp := ⟨_, rfl⟩
  obtain ⟨D, hD⟩ : ∃ F, F = foldS bp bo Y X cp co := ⟨_, rfl⟩
  have hturn := foldM_turn bo bp (X.take co) (Y.take cp)
  have hFe := foldM_e (bo := bo) (bp := bp) (a := X.take co) (b := Y.take cp) (fun u hu => vX u (List.mem_of_mem_take hu)) (fun u hu => vY u (List.mem_of_mem_take hu))
  have hwh := whole_foldM (bo := bo) (bp := bp) (a := X.take co) (b := Y.take cp)
  rw [← hF] at hFok hFlen hFin
  rw [← hD] at hDok hDlen hDin
  rw [← hFin, ← hDin] at hturn
  rw [← hFin] at hFe hwh
  obtain ⟨q1, q2, q3, q4⟩ := hturn
  refine ledger_Fold.use (Own.capSl (OwnL.own (i := 1) s19 rfl)) (Own.capSl (OwnL.own (i := 0) s19 rfl)) okX okY lX lY fun xa G22 t22 => ?_
  rw [← hF] at t22 ⊢
  obtain ⟨F22, o22, c22⟩ := t22.out
  have s22 := s19.new o22 c22
  have la := (OwnL.own (i := 0) s22 rfl).leaf
  refine wv_of (tv0 _ _) ?_
  refine wv_of (tv1 _ _) ?_
  refine newLed s22 la fun i25 G27 s27 => ?_
  refine wv_of (count_load (RowL.own (i := 4) s27 rfl)).2.1 ?_
  refine wv_of (count_load (RowL.own (i := 4) s27 rfl)).1 ?_
  refine wv_of (v := pairW cp co) rfl ?_
  refine ledger_Fold.use (Own.capSl (OwnL.own (i := 2) s27 rfl)) (Own.capSl (OwnL.own (i := 3) s27 rfl)) okY okX lY lX fun xb G32 t32 => ?_
  rw [← hD] at t32 ⊢
  obtain ⟨F32, o32, c32⟩ := t32.out
  have s32 := s27.new o32 c32
  have lb := (OwnL.own (i := 0) s32 rfl).leaf
  refine wv_of (tv0 _ _) ?_
  refine wv_of (tv1 _ _) ?_
  refine newLed s32 lb fun i35 G37 s37 => ?_
  have s37 : Sp [] G [RowL i35 (ledV D.o D.q xb), OwnL 35 xb (D.l.map PenM.av), RowL i25 (ledV F.o F.q xa), OwnL 35 xa (F.l.map PenM.av), OwnL 36 y (Y.map UpdM.av), OwnL 36 x (X.map UpdM.av), RowL i1 (pairW co cp)] G37 := s37
  intro J60
  have go : ∀ G2, Sp [] G [RowL i35 (ledV D.o D.q xb), OwnL 35 xb (D.l.map PenM.av), RowL i25 (ledV F.o F.q xa), OwnL 35 xa (F.l.map PenM.av), OwnL 36 y (Y.map UpdM.av), OwnL 36 x (X.map UpdM.av), RowL i1 (pairW co cp)] G2 → J60 (.bool false) G2 := by
    intro G46 s46
    simp -zeta only [J60, brB_false]
    rw [vbin_neq, wv_some, brB_ndec]
    refine ⟨fun he => ?_, fun he => ?_⟩
    · have hno : F = .no 130 := hFe.resolve_left he
      have e1 : F.e = 130 := by rw [hno]; rfl
      rw [e1, ez0, wv_some, brB_true]
      refine wv_of (led_load (i := 2) s46 rfl la).2.2.2 ?_
      refine wv_of (v := ledV 0 0 .nilSlice) rfl ?_
      refine escrowlaw13_SameLedger.use (l := F.l) (l' := []) (OwnL.own (i := 3) s46 rfl).is (.inr ⟨rfl, rfl⟩) hFok (by simp) (by omega) fun bb G53 hbb c53 => ?_
      rw [hbb.2 (by rw [hno]; exact ⟨rfl, rfl, rfl⟩)]
    · obtain ⟨w1, w2, w3⟩ := hwh he
      refine wv_of (led_load (i := 2) s46 rfl la).2.2.2 ?_
      rw [vbin_add, i64_in (by omega) (by omega), wv_some]
      exact escrowlaw13_whole.use (OwnL.own (i := 3) s46 rfl).is hFok (by omega) w1 w2 (by omega) w3 fun _ _ => rfl
  rw [q1, nz0, wv_some, brB_false]
  refine wv_of (led_load (i := 2) s37 rfl la).2.2.2 ?_
  refine wv_of (led_load (i := 0) s37 rfl lb).2.2.2 ?_
  refine escrowlaw13_turned.use (OwnL.own (i := 3) s37 rfl).is hFok (by omega) fun wt G42 t42 => ?_
  obtain ⟨F42, o42, c42⟩ := t42.out
  have s42 := s37.new o42 c42
  refine ⟨⟨(led_load (i := 1) s42 rfl lb).2.2.2, trivial⟩, ?_⟩
  refine escrowlaw13_SameLedger.use (OwnL.own (i := 0) s42 rfl).is (OwnL.own (i := 2) s42 rfl).is (turnL_ok hFok) hDok (by rw [length_turnL]; omega) fun bb G44 hbb c44 => ?_
  have s44 := s42.tmp c44
  rw [hbb.2 ⟨q2.symm, q3.symm, q4.symm⟩, vun_not, wv_some, Bool.not_true]
  exact go _ (s44.erase 0)

end Go.Esc.M

/- Own work. Chapter 13: LedgerMore. -/
set_option linter.unusedSimpArgs false
set_option linter.unusedVariables false
namespace Go.Esc.M
open Go Go.Esc

theorem remS_add {l : List UpdM} {u : UpdM} (hk : u.kind = 1) (id : Int) : remS id (l ++ [u]) = remS id l := by
  rw [remS_append]
  have : remS id [u] = 0 := by
    unfold remS
    rw [if_neg (by simp [isRem, hk])]
    rfl
  rw [this]
  split
  · rename_i h; exact h.symm
  · rfl
theorem remS_none {id : Int} {l : List UpdM} (h : ∀ u ∈ l, u.kind ≠ 1 → u.id < id) : remS id l = 0 := by
  by_cases h0 : remS id l = 0
  · exact h0
  · obtain ⟨u, hu, hk, he⟩ := remS_there h0
    have := h u hu hk
    omega
structure MoreP (bo bp : Int) (A B : List UpdM) (u : UpdM) : Prop where
  low : foldX bo A B < u.amount → foldM bo bp (A ++ [u]) B = .no 130
  fine : u.amount ≤ foldX bo A B → (foldM bo bp (A ++ [u]) B).e = 0 ∧ (foldM bo bp (A ++ [u]) B).o = foldX bo A B - u.amount ∧ (foldM bo bp (A ++ [u]) B).q = foldY bp A B ∧ (foldM bo bp (A ++ [u]) B).l.length = (foldO A B).length + 1 ∧ pend true u ∈ (foldM bo bp (A ++ [u]) B).l
theorem more_law {bo bp : Int} {A B : List UpdM} {u : UpdM} (hA : ∀ u ∈ A, validU u = true) (hB : ∀ u ∈ B, validU u = true) (hu : validU u = true) (hk : u.kind = 1) (hr : remS u.id B = 0) (hX : 0 ≤ foldX bo A B) (hY : 0 ≤ foldY bp A B) : MoreP bo bp A B u := by
  have e1 : ∀ x, stays (A ++ [u]) x = stays A x := fun x => by unfold stays; rw [remS_add hk]
  have e2 : ∀ x, paid (A ++ [u]) x = paid A x := fun x => by unfold paid; rw [remS_add hk]
  have e3 : ∀ x, opens (A ++ [u]) x = opens A x := fun x => by unfold opens; rw [e1, remS_add hk]
  have e1 : stays (A ++ [u]) = stays A := funext e1
  have e2 : paid (A ++ [u]) = paid A := funext e2
  have e3 : opens (A ++ [u]) = opens A := funext e3
  have s1 : stays B u = true := by simp [stays, hk, hr]
  have s2 : paid B u = false := by simp [paid, hr]
  have s3 : opens B u = true := by simp [opens, s1, hr]
  have one : ∀ f : UpdM → Bool, sumF f [u] = if f u = true then u.amount else 0 := fun f => by
    unfold sumF
    simp only [List.filter_cons, List.filter_nil]
    split <;> simp
  have xX : foldX bo (A ++ [u]) B = foldX bo A B - u.amount := by
    unfold foldX
    rw [sumF_append, e2, one, s1]
    simp; omega
  have xY : foldY bp (A ++ [u]) B = foldY bp A B := by
    unfold foldY
    rw [sumF_append, e1, one, s2]
    simp
  have hall : ¬ (allV (A ++ [u]) = false ∨ allV B = false) := by
    have h1 : allV (A ++ [u]) = true := List.all_eq_true.2 (mem_snoc hA hu)
    have h2 : allV B = true := List.all_eq_true.2 hB
    rw [h1, h2]; simp
  refine ⟨fun h => foldM_low hall (by rw [xX]; omega), fun h => ?_⟩
  rw [foldM_fine hall (by rw [xX, xY]; omega)]
  have hp : pensF true (opens B) (A ++ [u]) = pensF true (opens B) A ++ [pend true u] := by
    unfold pensF
    rw [List.filter_append, List.map_append]
    congr 1
    simp [s3]
  refine ⟨rfl, xX, xY, ?_, ?_⟩
  · show (foldO (A ++ [u]) B).length = _
    unfold foldO
    simp only [sortP_len, List.length_append, hp, e3, List.length_singleton]
    omega
  · show pend true u ∈ foldO (A ++ [u]) B
    unfold foldO
    refine List.mem_append.2 (.inl ((sort_st _).1.mem.2 ?_))
    rw [hp]
    simp

section
variable {F0 : List AId} {G0 G : Heap} {ps : List LP} {Q : AVal → Heap → Prop}

theorem buildE {K : AVal → Heap → Prop} (hs : Sp F0 G0 ps G) (hK : ∀ v G', Sp F0 G0 (OwnL 36 v (([] : List UpdM).map UpdM.av) :: ps) G' → K v G') : aBuildSlice T t_sl_api_Update 0 [] G K :=
  buildL (T := T) (ts := t_sl_api_Update) (e := t_api_Update) (si := ti_sl_api_Update) (ie := ti_api_Update) (n := 0) (l := []) T_sl_api_Update rfl T_api_Update rfl rfl rfl rfl (by simp) (by decide) hs hK

set_option maxRecDepth 20000 in
set_option maxHeartbeats 8000000 in
theorem law_LedgerMore {R : Nat} {G : Heap} {b b' v w f am : AVal} {m0 m1 m2 m3 m4 m5 : Nat} (h0' : wt T G R 4 t_int64 b m0) (h1 : wt T G R 4 t_int64 b' m1) (h2 : wt T G R 4 t_sl_api_Update v m2) (h3 : wt T G R 4 t_sl_api_Update w m3) (h4 : wt T G R 4 t_api_Counts f m4) (h5 : wt T G R 4 t_int64 am m5) (hm : m0 + (m1 + (m2 + (m3 + (m4 + m5)))) ≤ 1048576) :
    ACalls P escrowlaw13_LedgerMore.n [b, b', v, w, f, am] G fun v _ => v = .bool true := by
  obtain ⟨a0, rfl, _, e0⟩ := wt_int T_int64 rfl h0'
  obtain ⟨b0, rfl, _⟩ := wt_int T_int64 rfl h1
  obtain ⟨am, rfl, _⟩ := wt_int T_int64 rfl h5
  obtain ⟨ours, hro1, hok1, _, hl1⟩ := wt_UpdsM h2
  obtain ⟨peers, hro2, hok2, _, hl2⟩ := wt_UpdsM h3
  obtain ⟨fo, fp, rfl, _, _⟩ := wt_Counts h4
  have n1 : ours.length ≤ 1048576 := by omega
  have n2 : peers.length ≤ 1048576 := by omega
  refine escrowlaw13_LedgerMore.sound ?_
  unfold escrowlaw13_LedgerMore.S
  intro i1 f1
  have s1 := (Sp.nil G).row f1 (pairW fo fp)
  refine escrowlaw13_first.use fun G4 c4 => ?_
  have s4 := s1.tmp c4
  rw [vun_not, wv_some, Bool.not_true, brB_false]
  refine escrowlaw13_bases.use fun bo bp x1 x2 x3 x4 => ?_
  refine wv_of (tv0 _ _) ?_
  refine wv_of (tv1 _ _) ?_
  refine escrowlaw13_Made.use (hro1.is.ch' s4.ch) hok1 n1 fun x G11 t11 => ?_
  obtain ⟨F11, o11, c11⟩ := t11.out
  have s11 := s4.new o11 c11
  refine escrowlaw13_Made.use (hro2.is.ch' s11.ch) hok2 n2 fun y G13 t13 => ?_
  obtain ⟨F13, o13, c13⟩ := t13.out
  have s13 := s11.new o13 c13
  obtain ⟨X, hX⟩ : ∃ X, X = ours.map madeU := ⟨_, rfl⟩
  obtain ⟨Y, hY⟩ : ∃ X, X = peers.map madeU := ⟨_, rfl⟩
  have okX : ∀ u ∈ X, u.ok := by rw [hX]; exact made_ok hok1
  have okY : ∀ u ∈ Y, u.ok := by rw [hY]; exact made_ok hok2
  have vX : ∀ u ∈ X, validU u = true := by rw [hX]; exact made_valid ours
  have vY : ∀ u ∈ Y, validU u = true := by rw [hY]; exact made_valid peers
  have lX : X.length ≤ 1048575 := by rw [hX, List.length_map]; omega
  have lY : Y.length ≤ 1048575 := by rw [hY, List.length_map]; omega
  have lXY : X.length + Y.length ≤ 1048575 := by rw [hX, hY, List.length_map, List.length_map]; omega
  have s13 : Sp [] G [OwnL 36 y (Y.map UpdM.av), OwnL 36 x (X.map UpdM.av), RowL i1 (pairW fo fp)] G13 := by rw [hX, hY]; exact s13
  refine wv_of (count_load (RowL.own (i := 2) s13 rfl)).2.2 ?_
  refine wv_of (upd_len (OwnL.own (i := 1) s13 rfl).is) ?_
  refine wv_of (upd_len (OwnL.own (i := 0) s13 rfl).is) ?_
  refine escrowlaw13_counts.use (by omega) (by omega) fun co cp G18 hco hcp c18 => ?_
  have s18 := s13.tmp c18
  refine wg_of (whole_store (c := pairW co cp) T_api_Counts (RowL.own (i := 2) s18 rfl) rfl rfl rfl) ?_
  have s19 := Sp.setRow (j := 2) s18 rfl (pairW co cp)
  generalize Heap.upd _ _ _ = G19 at s19 ⊢
  have s19 : Sp [] G [OwnL 36 y (Y.map UpdM.av), OwnL 36 x (X.map UpdM.av), RowL i1 (pairW co cp)] G19 := s19
  refine wv_of (count_load (RowL.own (i := 2) s19 rfl)).2.2 ?_
  have hFok := foldS_ok (bo := bo) (bp := bp) (co := co) (cp := cp) okX okY
  have hFlen := foldS_len bo bp X Y co cp
  have hFin := foldS_in (a := X) (b := Y) hco hcp x1 x3 (by omega)
  obtain ⟨F, hF⟩ : ∃ F, F = foldS bo bp X Y co cp := ⟨_, rfl⟩
  obtain ⟨A, hA⟩ : ∃ A, A = X.take co := ⟨_, rfl⟩
  obtain ⟨B, hB⟩ : ∃ A, A = Y.take cp := ⟨_, rfl⟩
  have okA : ∀ u ∈ A, u.ok := by rw [hA]; exact fun u hu => okX u (List.mem_of_mem_take hu)
  have vA : ∀ u ∈ A, validU u = true := by rw [hA]; exact fun u hu => vX u (List.mem_of_mem_take hu)
  have vB : ∀ u ∈ B, validU u = true := by rw [hB]; exact fun u hu => vY u (List.mem_of_mem_take hu)
  have lA : A.length = co := by rw [hA, List.length_take]; omega
  rw [← hA, ← hB] at hFin
  have hFe := foldM_e (bo := bo) (bp := bp) vA vB
  have hok0 := foldM_ok0 (bo := bo) (bp := bp) (a := A) (b := B)
  rw [← hF] at hFok hFlen hFin
  rw [← hFin] at hFe hok0
  refine ledger_Fold.use (Own.capSl (OwnL.own (i := 1) s19 rfl)) (Own.capSl (OwnL.own (i := 0) s19 rfl)) okX okY (by omega) (by omega) fun xa G22 t22 => ?_
  rw [← hF] at t22 ⊢
  obtain ⟨F22, o22, c22⟩ := t22.out
  have s22 := s19.new o22 c22
  have la := (OwnL.own (i := 0) s22 rfl).leaf
  refine wv_of (tv0 _ _) ?_
  refine wv_of (tv1 _ _) ?_
  refine newLed s22 la fun i25 G27 s27 => ?_
  have s27 : Sp [] G [RowL i25 (ledV F.o F.q xa), OwnL 35 xa (F.l.map PenM.av), OwnL 36 y (Y.map UpdM.av), OwnL 36 x (X.map UpdM.av), RowL i1 (pairW co cp)] G27 := s27
  rw [vbin_neq, wv_some, brB_ndec]
  refine ⟨fun he => ?_, fun he => ?_⟩
  · have hno : F = .no 130 := hFe.resolve_left he
    rw [hno]
    show wv (vbin T .eql t_api_Errno (.int .i64 130) (.int .i64 130)) _
    rw [ez0, wv_some]
  obtain ⟨_, _, g1, g2, g3⟩ := hok0 he
  intro R30 hR30
  have loop : ∀ (n j : Nat) (id : Int), cp - j = n → j ≤ cp → 0 ≤ id → id ≤ 2048 → (∀ u ∈ Y.take j, u.kind ≠ 1 → u.id < id) → R30 [.int .i64 bo, .int .i64 bp, .int .i64 am, .ptr i1 [] 0, x, y, .ptr i25 [] 0, .int .i64 id, .int .i64 (j : Int)] G27 := by
    intro n
    induction n with
    | zero =>
      intro j id hn hj hid0 hid1 hlow
      have hjc : j = cp := by omega
      subst hjc
      rw [← hB] at hlow
      refine hR30 _ _ _ _ _ _ _ _ _ _ ?_
      refine wv_of (v := .ptr i1 [1] 1) rfl ?_
      refine wv_of (count_load (RowL.own (i := 4) s27 rfl)).2.1 ?_
      rw [vbin_lss, wv_some, decide_eq_false (by omega), brB_false, vbin_gtr, wv_some, brB_dec]
      refine ⟨fun _ => rfl, fun hid => ?_⟩
      refine wv_of (andK am (M := 1152921504606846976) 60 (by decide) rfl rfl) ?_
      rw [vbin_add, i64_in (by omega) (by omega), wv_some]
      obtain ⟨z, hz⟩ : ∃ z, z = 1 + am % 1152921504606846976 := ⟨_, rfl⟩
      have hz1 : 1 ≤ z := by omega
      have hz2 : z ≤ 1152921504606846976 := by omega
      rw [← hz]
      obtain ⟨u, hu⟩ : ∃ u : UpdM, u = ⟨1, id, z, h0, []⟩ := ⟨_, rfl⟩
      have huk : u.kind = 1 := by rw [hu]
      have hui : u.id = id := by rw [hu]
      have hua : u.amount = z := by rw [hu]
      have huo : u.ok := by rw [hu]; exact ⟨i64_k 1 (by decide) (by decide), i64_k id (by omega) (by omega), i64_k z (by omega) (by omega), rfl, by simp⟩
      have huv : validU u = true := by
        have q1 : id < 2048 := by omega
        rw [hu]; simp [validU, maxAm, hid0, q1, hz1, hz2]
      have hmore := more_law (bo := bo) (bp := bp) vA vB huv huk (by rw [hui]; exact remS_none hlow) g1 g2
      refine wv_of (v := u.av) (by rw [hu]; rfl) ?_
      refine newU s27 huo fun i74 G76 s76 => ?_
      refine wv_of (v := .ptr i1 [0] 0) rfl ?_
      refine wv_of (count_load (RowL.own (i := 5) s76 rfl)).1 ?_
      obtain ⟨wa, ea, ca⟩ := CapSl.take (ie := ti_api_Update) (k := .i64) (m := co) (x := co) T_sl_api_Update rfl T_api_Update (Own.capSl (OwnL.own (i := 4) s76 rfl)) rfl (by rw [List.length_map]; omega)
      rw [← List.map_take, ← hA] at ca
      refine wv_of ea ?_
      refine wv_of (upd_load (i := 0) s76 rfl huo).2.2.2.2.2 ?_
      refine buildE s76 fun v81 G82 s82 => ?_
      have iA := ca.isSl
      have iA82 : IsSl 36 G82 wa (A.map UpdM.av) := by
        obtain ⟨wa', ea', ca'⟩ := CapSl.take (ie := ti_api_Update) (k := .i64) (m := co) (x := co) T_sl_api_Update rfl T_api_Update (Own.capSl (OwnL.own (i := 5) s82 rfl)) rfl (by rw [List.length_map]; omega)
        rw [ea] at ea'
        injection ea' with ea'
        rw [← List.map_take, ← hA, ← ea'] at ca'
        exact ca'.isSl
      refine growL_upd (i := 0) (l := []) s82 rfl iA82 okA (by simp; omega) fun v83 G84 s84 => ?_
      refine ⟨⟨(upd_load (i := 1) s84 rfl huo).2.2.2.2.2, trivial⟩, ?_⟩
      refine grow_upd (i := 0) (l := A) s84 rfl huo (by omega) fun v87 G88 s88 => ?_
      have s88 : Sp [] G [OwnL 36 v87 ((A ++ [u]).map UpdM.av), RowL i74 u.av, RowL i25 (ledV F.o F.q xa), OwnL 35 xa (F.l.map PenM.av), OwnL 36 y (Y.map UpdM.av), OwnL 36 x (X.map UpdM.av), RowL i1 (pairW co j)] G88 := s88
      refine wv_of (v := .ptr i1 [0] 0) rfl ?_
      refine wv_of (count_load (RowL.own (i := 6) s88 rfl)).1 ?_
      rw [vbin_add, i64_in (by omega) (by omega), wv_some]
      refine wv_of (v := .ptr i1 [1] 1) rfl ?_
      refine wv_of (count_load (RowL.own (i := 6) s88 rfl)).2.1 ?_
      have eco : ((co : Int) + 1) = ((co + 1 : Nat) : Int) := by omega
      refine wv_of (v := pairW ((co + 1 : Nat) : Int) j) (by rw [eco]; rfl) ?_
      have lAu : (A ++ [u]).length = co + 1 := by rw [List.length_append, List.length_singleton, lA]
      have okAu := mem_snoc okA huo
      have hDok := foldS_ok (bo := bo) (bp := bp) (co := ((co + 1 : Nat) : Int)) (cp := j) okAu okY
      have hDlen := foldS_len bo bp (A ++ [u]) Y ((co + 1 : Nat) : Int) j
      have hDin := foldS_in (a := A ++ [u]) (b := Y) (co := co + 1) (by omega) hcp x1 x3 (by omega)
      rw [List.take_of_length_le (by omega), ← hB] at hDin
      obtain ⟨D, hD⟩ : ∃ F, F = foldS bo bp (A ++ [u]) Y ((co + 1 : Nat) : Int) j := ⟨_, rfl⟩
      rw [← hD] at hDok hDlen hDin
      rw [lAu] at hDlen
      refine ledger_Fold.use (Own.capSl (OwnL.own (i := 0) s88 rfl)) (Own.capSl (OwnL.own (i := 4) s88 rfl)) okAu okY (by omega) (by omega) fun xd G96 t96 => ?_
      rw [← hD] at t96 ⊢
      obtain ⟨F96, o96, c96⟩ := t96.out
      have s96 := s88.new o96 c96
      have ld := (OwnL.own (i := 0) s96 rfl).leaf
      refine wv_of (tv0 _ _) ?_
      refine wv_of (tv1 _ _) ?_
      refine newLed s96 ld fun i99 G101 s101 => ?_
      have s101 : Sp [] G [RowL i99 (ledV D.o D.q xd), OwnL 35 xd (D.l.map PenM.av), OwnL 36 v87 ((A ++ [u]).map UpdM.av), RowL i74 u.av, RowL i25 (ledV F.o F.q xa), OwnL 35 xa (F.l.map PenM.av), OwnL 36 y (Y.map UpdM.av), OwnL 36 x (X.map UpdM.av), RowL i1 (pairW co j)] G101 := s101
      have eFo : F.o = foldX bo A B := by rw [g3]
      have eFq : F.q = foldY bp A B := by rw [g3]
      have eFl : F.l = foldO A B := by rw [g3]
      refine wv_of (upd_load (i := 3) s101 rfl huo).2.2.1 ?_
      refine wv_of (v := .ptr i25 [0] 0) rfl ?_
      refine wv_of (led_load (i := 4) s101 rfl la).1 ?_
      rw [vbin_gtr, wv_some, brB_dec]
      refine ⟨fun hlow2 => ?_, fun hge => ?_⟩
      · have hno : D = .no 130 := by rw [hDin]; exact hmore.low (by rw [← eFo]; exact hlow2)
        have e1 : D.e = 130 := by rw [hno]; rfl
        rw [e1, ez0, wv_some, brB_true]
        refine wv_of (led_load (i := 0) s101 rfl ld).2.2.2 ?_
        refine wv_of (v := ledV 0 0 .nilSlice) rfl ?_
        refine escrowlaw13_SameLedger.use (l := D.l) (l' := []) (OwnL.own (i := 1) s101 rfl).is (.inr ⟨rfl, rfl⟩) hDok (by simp) (by omega) fun bb G53 hbb c53 => ?_
        rw [hbb.2 (by rw [hno]; exact ⟨rfl, rfl, rfl⟩)]
      · obtain ⟨d1, d2, d3, d4, d5⟩ := hmore.fine (by rw [← eFo]; omega)
        have hwh := whole_foldM d1
        rw [← hDin] at d1 d2 d3 d4 d5 hwh
        obtain ⟨w1, w2, w3⟩ := hwh
        rw [← eFo] at d2
        rw [← eFq] at d3
        rw [← eFl] at d4
        have hFo1 : 0 ≤ F.o := by rw [eFo]; exact g1
        have hFo2 : F.o ≤ 1152921504606846976 := by
          have := (fold_le (bo := bo) (bp := bp) vA vB (by omega)).1 g2
          rw [eFo]; exact this
        intro J158
        have go : J158 (.bool false) G101 := by
          simp -zeta only [J158, brB_false]
          intro R133 hR133
          have find : ∀ (n k : Nat), D.l.length - k = n → (∃ q, k ≤ q ∧ D.l[q]? = some (pend true u)) → R133 [.int .i64 bo, .int .i64 bp, .int .i64 id, .ptr i74 [] 0, .ptr i99 [] 0, .int .i64 (k : Int)] G101 := by
            intro n
            induction n with
            | zero =>
              rintro k hn ⟨q, hq1, hq2⟩
              have := (List.getElem?_eq_some_iff.1 hq2).1
              omega
            | succ n ih =>
              rintro k hn ⟨q, hq1, hq2⟩
              have hql := (List.getElem?_eq_some_iff.1 hq2).1
              obtain ⟨p, hp⟩ : ∃ p, D.l[k]? = some p := ⟨_, List.getElem?_eq_getElem (by omega)⟩
              have hpo := hDok p (List.mem_of_getElem? hp)
              refine hR133 _ _ _ _ _ _ _ ?_
              refine wv_of (v := .ptr i99 [2] 2) rfl ?_
              refine wv_of (led_load (i := 0) s101 rfl ld).2.2.1 ?_
              refine wv_of (pens_len (OwnL.own (i := 1) s101 rfl).is) ?_
              rw [vbin_lss, wv_some, decide_eq_true (by omega), brB_true]
              refine wv_of (v := .ptr i99 [2] 2) rfl ?_
              refine wv_of (led_load (i := 0) s101 rfl ld).2.2.1 ?_
              obtain ⟨a, ha, hla⟩ := pen_at (OwnL.own (i := 1) s101 rfl).is hp
              refine wv_of ha ?_
              refine wv_of hla ?_
              refine wv_of (v := .ptr i74 [2] 2) rfl ?_
              refine wv_of (upd_load (i := 3) s101 rfl huo).2.2.1 ?_
              have hpu : pend true u = ⟨true, id, u.amount, h0⟩ := by rw [hu]; rfl
              refine wv_of (v := (pend true u).av) (by rw [hpu]; rfl) ?_
              rw [vbin_peql hpo (pend_ok huo), wv_some, brB_dec]
              refine ⟨fun _ => ?_, fun hne => ?_⟩
              · refine wv_of (led_load (i := 0) s101 rfl ld).2.2.2 ?_
                rw [vbin_add, i64_in (by omega) (by omega), wv_some]
                exact escrowlaw13_whole.use (OwnL.own (i := 1) s101 rfl).is hDok (by omega) w1 w2 (by omega) w3 fun _ _ => rfl
              · rw [vbin_add, i64_in (by omega) (by omega), wv_some]
                refine ih (k + 1) (by omega) ⟨q, ?_, hq2⟩
                rcases Nat.lt_or_ge k q with h | h
                · exact h
                · have : q = k := by omega
                  subst this
                  rw [hp] at hq2
                  injection hq2 with hq2
                  exact absurd hq2 hne
          obtain ⟨q, hq⟩ := List.getElem?_of_mem d5
          exact find _ 0 rfl ⟨q, Nat.zero_le _, hq⟩
        rw [d1, nz0, wv_some, brB_false]
        refine wv_of (led_load (i := 0) s101 rfl ld).1 ?_
        refine wv_of (v := .ptr i25 [0] 0) rfl ?_
        refine wv_of (led_load (i := 4) s101 rfl la).1 ?_
        refine wv_of (upd_load (i := 3) s101 rfl huo).2.2.1 ?_
        rw [vbin_sub, i64_in (by omega) (by omega), wv_some, d2, nz0, wv_some, brB_false]
        refine wv_of (led_load (i := 0) s101 rfl ld).2.1 ?_
        refine wv_of (v := .ptr i25 [1] 1) rfl ?_
        refine wv_of (led_load (i := 4) s101 rfl la).2.1 ?_
        rw [d3, nz0, wv_some, brB_false]
        refine wv_of (led_load (i := 0) s101 rfl ld).2.2.1 ?_
        refine wv_of (pens_len (OwnL.own (i := 1) s101 rfl).is) ?_
        refine wv_of (v := .ptr i25 [2] 2) rfl ?_
        refine wv_of (led_load (i := 4) s101 rfl la).2.2.1 ?_
        refine wv_of (pens_len (OwnL.own (i := 5) s101 rfl).is) ?_
        rw [vbin_add, i64_in (by omega) (by omega), wv_some, vbin_neq, wv_some, decide_eq_true (by omega), Bool.not_true]
        exact go
    | succ n ih =>
      intro j id hn hj hid0 hid1 hlow
      obtain ⟨u, hu⟩ : ∃ u, Y[j]? = some u := ⟨_, List.getElem?_eq_getElem (by omega)⟩
      have huv := valid_spec (vY u (List.mem_of_getElem? hu))
      have hY27 := (OwnL.own (i := 2) s27 rfl).is
      refine hR30 _ _ _ _ _ _ _ _ _ _ ?_
      refine wv_of (v := .ptr i1 [1] 1) rfl ?_
      refine wv_of (count_load (RowL.own (i := 4) s27 rfl)).2.1 ?_
      rw [vbin_lss, wv_some, decide_eq_true (by omega), brB_true]
      intro J69
      have go : ∀ id', 0 ≤ id' → id' ≤ 2048 → id ≤ id' → (u.kind ≠ 1 → u.id < id') → J69 (.int .i64 id') G27 := by
        intro id' g0 g1 g2 g3
        simp -zeta only [J69]
        rw [vbin_add, i64_in (by omega) (by omega), wv_some]
        refine ih (j + 1) id' (by omega) (by omega) g0 g1 fun z hz hk => ?_
        rw [List.take_add_one, hu] at hz
        rcases List.mem_append.1 hz with hz | hz
        · have := hlow z hz hk; omega
        · have : z = u := by simpa using hz
          subst this
          exact g3 hk
      obtain ⟨a, b, e1, e2, e3⟩ := fldK hY27 hu
      refine wv_of e1 ?_
      refine wv_of e2 ?_
      refine wv_of e3 ?_
      rw [vbin_neq, wv_some, brB_ndec]
      refine ⟨fun hk => ?_, fun hk => go id hid0 hid1 (Int.le_refl _) fun h => absurd hk h⟩
      obtain ⟨a, b, e1, e2, e3⟩ := fldI hY27 hu
      refine wv_of e1 ?_
      refine wv_of e2 ?_
      refine wv_of e3 ?_
      rw [vbin_geq, wv_some, brB_dec]
      refine ⟨fun hge => ?_, fun hlt => go id hid0 hid1 (Int.le_refl _) fun _ => by omega⟩
      refine wv_of e1 ?_
      refine wv_of e2 ?_
      refine wv_of e3 ?_
      rw [vbin_add, i64_in (by omega) (by omega), wv_some]
      exact go _ (by omega) (by omega) (by omega) fun _ => by omega
  exact loop _ 0 0 rfl (by omega) (by decide) (by decide) (by simp)

end

end Go.Esc.M
