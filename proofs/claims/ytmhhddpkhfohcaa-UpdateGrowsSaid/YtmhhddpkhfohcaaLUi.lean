import Derived.Test.YtmhhddpkhfohcaaLUf
import Derived.Test.YtmhhddpkhfohcaaLHf
import Derived.Test.YtmhhddpkhfohcaaLHd
/- Own work. Chapter 12: the document's finds; Next. -/
set_option linter.unusedSimpArgs false
set_option linter.unusedVariables false
namespace Go.Esc.M
open Go Go.Esc

section
variable {F0 : List AId} {G0 G : Heap} {ps : List LP} {Q : AVal → Heap → Prop}

theorem upd_fldA {v : AVal} {l : List UpdM} {j f o : Nat} {p : UpdM} {tf : TypeId} {fi : TI} {c : AVal} (h : IsSl 36 G v (l.map UpdM.av)) (hj : l[j]? = some p) (hf : [(t_int, 0), (t_int64, 1), (t_int64, 2), (t_api_Hash, 3), (t_string, 35)][f]? = some (tf, o)) (hft : T tf = some fi) (hz : fi.size ≠ 0)
    (hs : szs (p.cs.take f) = o) (hc : p.cs[f]? = some c) (hfit : vfits fi c = true) :
    ∃ a b, viaddr T t_sl_api_Update v (.int .i64 (j : Int)) = some a ∧ vfaddr T t_api_Update a f = some b ∧ vload T G tf b = some c :=
  IsSl.fld (k := .i64) (i := ti_sl_api_Update) (ie := ti_api_Update) T_sl_api_Update rfl T_api_Update rfl hf hft hz h (by rw [List.getElem?_map, hj]; rfl) hs hc hfit

set_option maxHeartbeats 1000000 in
theorem escrowref12_Find.use {v : AVal} {l : List UpdM} {id : Int} (hl : IsSl 36 G v (l.map UpdM.av)) (hok : ∀ u ∈ l, u.ok) (hlen : l.length ≤ 9223372036854775807) (hQ : ∀ G', Ch [] G [] G' → Q (optU (firstU false id l)) G') :
    ACalls P escrowref12_Find.n [v, .int .i64 id] G Q := by
  refine escrowref12_Find.sound ?_
  unfold escrowref12_Find.S
  rw [zUpd]
  intro i1 f1
  have s1 := (Sp.nil G).row f1 UpdM.zero.av
  revert s1
  generalize Heap.upd _ i1 (.own UpdM.zero.av) = G2
  intro s1 R hR
  have loop : ∀ (n j : Nat), l.length - j = n → j ≤ l.length → firstU false id (l.drop j) = firstU false id l → R [v, .int .i64 id, .ptr i1 [] 0, .int .i64 (j : Int)] G2 := by
    intro n
    induction n with
    | zero =>
      intro j hn hj he
      have : j = l.length := by omega
      subst this
      rw [List.drop_length] at he
      refine hR _ _ _ _ _ ?_
      refine wv_of (upd_len (hl.ch' s1.ch)) ?_
      rw [vbin_lss, wv_some, brB_dec]
      refine ⟨fun h => absurd h (by omega), fun _ => ?_⟩
      rw [build_none, wv_some]
      refine upd_store (i := 0) s1 rfl UpdM.zero_ok UpdM.zero_ok fun G2 s2 => ?_
      refine wv_of (upd_load (i := 0) s2 rfl UpdM.zero_ok).2.2.2.2.2 ?_
      have := hQ _ s2.ch
      rw [← he] at this
      exact this
    | succ n ih =>
      intro j hn hj he
      obtain ⟨u, hu⟩ : ∃ u, l[j]? = some u := ⟨_, List.getElem?_eq_getElem (by omega)⟩
      have huo := hok u (List.mem_of_getElem? hu)
      obtain ⟨a, ha, hla⟩ := upd_at (hl.ch' s1.ch) hu
      obtain ⟨a0, b0, ha0, hb0, hl0⟩ := upd_fldA (f := 0) (o := 0) (tf := t_int) (fi := ti_int) (hl.ch' s1.ch) hu rfl T_int (by decide) rfl rfl rfl
      obtain ⟨a1, b1, ha1, hb1, hl1⟩ := upd_fldA (f := 1) (o := 1) (tf := t_int64) (fi := ti_int64) (hl.ch' s1.ch) hu rfl T_int64 (by decide) rfl rfl rfl
      have hdr : l.drop j = u :: l.drop (j + 1) := by
        obtain ⟨hx, rfl⟩ := List.getElem?_eq_some_iff.1 hu
        exact List.drop_eq_getElem_cons hx
      rw [hdr, firstU, List.find?_cons] at he
      have next : hits false id u = false → wv (vbin T .add t_int (.int .i64 (j : Int)) (.int .i64 1)) fun v31 => R [v, .int .i64 id, .ptr i1 [] 0, v31] G2 := by
        intro h
        rw [h] at he
        rw [vbin_add, wv_some, i64_in (by omega) (by omega)]
        exact ih (j + 1) (by omega) (by omega) he
      unfold hits at next he
      refine hR _ _ _ _ _ ?_
      refine wv_of (upd_len (hl.ch' s1.ch)) ?_
      rw [vbin_lss, wv_some, brB_dec]
      refine ⟨fun _ => ?_, fun h => absurd (by omega) h⟩
      refine wv_of ha0 ?_
      refine wv_of hb0 ?_
      refine wv_of hl0 ?_
      rw [vbin_eql, wv_some, brB_dec]
      refine ⟨fun hk => ?_, fun hk => next (by rw [cond_false, decide_eq_false hk, Bool.and_false])⟩
      refine wv_of ha1 ?_
      refine wv_of hb1 ?_
      refine wv_of hl1 ?_
      rw [vbin_eql, wv_some, brB_dec]
      refine ⟨fun hid => ?_, fun hid => next (by rw [decide_eq_false hid, Bool.false_and])⟩
      rw [cond_false, decide_eq_true hid, decide_eq_true hk] at he
      refine wv_of ha ?_
      refine wv_of hla ?_
      refine upd_store (i := 0) s1 rfl UpdM.zero_ok huo fun G2 s2 => ?_
      refine wv_of (upd_load (i := 0) s2 rfl huo).2.2.2.2.2 ?_
      have := hQ _ s2.ch
      rw [← he] at this
      exact this
  exact loop _ 0 rfl (by omega) (by simp)

set_option maxHeartbeats 1000000 in
theorem escrowref12_Removal.use {v : AVal} {l : List UpdM} {id : Int} (hl : IsSl 36 G v (l.map UpdM.av)) (hok : ∀ u ∈ l, u.ok) (hlen : l.length ≤ 9223372036854775807) (hQ : ∀ G', Ch [] G [] G' → Q (optU (firstU true id l)) G') :
    ACalls P escrowref12_Removal.n [v, .int .i64 id] G Q := by
  refine escrowref12_Removal.sound ?_
  unfold escrowref12_Removal.S
  rw [zUpd]
  intro i1 f1
  have s1 := (Sp.nil G).row f1 UpdM.zero.av
  revert s1
  generalize Heap.upd _ i1 (.own UpdM.zero.av) = G2
  intro s1 R hR
  have loop : ∀ (n j : Nat), l.length - j = n → j ≤ l.length → firstU true id (l.drop j) = firstU true id l → R [v, .int .i64 id, .ptr i1 [] 0, .int .i64 (j : Int)] G2 := by
    intro n
    induction n with
    | zero =>
      intro j hn hj he
      have : j = l.length := by omega
      subst this
      rw [List.drop_length] at he
      refine hR _ _ _ _ _ ?_
      refine wv_of (upd_len (hl.ch' s1.ch)) ?_
      rw [vbin_lss, wv_some, brB_dec]
      refine ⟨fun h => absurd h (by omega), fun _ => ?_⟩
      rw [build_none, wv_some]
      refine upd_store (i := 0) s1 rfl UpdM.zero_ok UpdM.zero_ok fun G2 s2 => ?_
      refine wv_of (upd_load (i := 0) s2 rfl UpdM.zero_ok).2.2.2.2.2 ?_
      have := hQ _ s2.ch
      rw [← he] at this
      exact this
    | succ n ih =>
      intro j hn hj he
      obtain ⟨u, hu⟩ : ∃ u, l[j]? = some u := ⟨_, List.getElem?_eq_getElem (by omega)⟩
      have huo := hok u (List.mem_of_getElem? hu)
      obtain ⟨a, ha, hla⟩ := upd_at (hl.ch' s1.ch) hu
      obtain ⟨a0, b0, ha0, hb0, hl0⟩ := upd_fldA (f := 0) (o := 0) (tf := t_int) (fi := ti_int) (hl.ch' s1.ch) hu rfl T_int (by decide) rfl rfl rfl
      obtain ⟨a1, b1, ha1, hb1, hl1⟩ := upd_fldA (f := 1) (o := 1) (tf := t_int64) (fi := ti_int64) (hl.ch' s1.ch) hu rfl T_int64 (by decide) rfl rfl rfl
      have hdr : l.drop j = u :: l.drop (j + 1) := by
        obtain ⟨hx, rfl⟩ := List.getElem?_eq_some_iff.1 hu
        exact List.drop_eq_getElem_cons hx
      rw [hdr, firstU, List.find?_cons] at he
      refine hR _ _ _ _ _ ?_
      refine wv_of (upd_len (hl.ch' s1.ch)) ?_
      rw [vbin_lss, wv_some, brB_dec]
      refine ⟨fun _ => ?_, fun h => absurd (by omega) h⟩
      intro J33
      have no : hits true id u = false → J33 (.bool false) G2 := by
        intro h
        rw [h] at he
        simp -zeta only [J33, brB_false]
        rw [vbin_add, wv_some, i64_in (by omega) (by omega)]
        exact ih (j + 1) (by omega) (by omega) he
      have yes : hits true id u = true → J33 (.bool true) G2 := by
        intro h
        rw [h] at he
        simp -zeta only [J33, brB_true]
        refine wv_of ha ?_
        refine wv_of hla ?_
        refine upd_store (i := 0) s1 rfl UpdM.zero_ok huo fun G2 s2 => ?_
        refine wv_of (upd_load (i := 0) s2 rfl huo).2.2.2.2.2 ?_
        have := hQ _ s2.ch
        rw [← he] at this
        exact this
      have idt : (u.kind = 2 ∨ u.kind = 3) → J33 (.bool (decide (u.id = id))) G2 := by
        intro hk
        have hkk : (decide (u.kind = 2) || decide (u.kind = 3)) = true := by
          rw [Bool.or_eq_true, decide_eq_true_eq, decide_eq_true_eq]; exact hk
        unfold hits at yes no
        rw [cond_true, hkk, Bool.and_true] at yes no
        by_cases h : u.id = id
        · rw [decide_eq_true h]; exact yes (decide_eq_true h)
        · rw [decide_eq_false h]; exact no (decide_eq_false h)
      refine wv_of ha0 ?_
      refine wv_of hb0 ?_
      refine wv_of hl0 ?_
      rw [vbin_eql, wv_some, brB_dec]
      refine ⟨fun hk => ?_, fun hk => ?_⟩
      · refine wv_of ha1 ?_
        refine wv_of hb1 ?_
        refine wv_of hl1 ?_
        rw [vbin_eql, wv_some]
        exact idt (.inl hk)
      · refine wv_of ha0 ?_
        refine wv_of hb0 ?_
        refine wv_of hl0 ?_
        rw [vbin_eql, wv_some, brB_dec]
        refine ⟨fun hk3 => ?_, fun hk3 => no (by unfold hits; rw [cond_true, decide_eq_false hk, decide_eq_false hk3, Bool.or_self, Bool.and_false])⟩
        refine wv_of ha1 ?_
        refine wv_of hb1 ?_
        refine wv_of hl1 ?_
        rw [vbin_eql, wv_some]
        exact idt (.inr hk3)
  exact loop _ 0 rfl (by omega) (by simp)

theorem escrowref12_Adds.use {v : AVal} {l : List UpdM} (hl : IsSl 36 G v (l.map UpdM.av)) (hlen : l.length ≤ 9223372036854775807) (hQ : Q (.int .i64 (addsU l : Nat)) G) : ACalls P escrowref12_Adds.n [v] G Q := by
  refine escrowref12_Adds.sound ?_
  unfold escrowref12_Adds.S
  intro R hR
  have loop : ∀ (n j : Nat), l.length - j = n → j ≤ l.length → R [v, .int .i64 (addsU (l.take j) : Nat), .int .i64 (j : Int)] G := by
    intro n
    induction n with
    | zero =>
      intro j hn hj
      have : j = l.length := by omega
      subst this
      refine hR _ _ _ _ ?_
      refine wv_of (upd_len hl) ?_
      rw [vbin_lss, wv_some, brB_dec]
      refine ⟨fun h => absurd h (by omega), fun _ => ?_⟩
      rw [List.take_length]
      exact hQ
    | succ n ih =>
      intro j hn hj
      obtain ⟨u, hu⟩ : ∃ u, l[j]? = some u := ⟨_, List.getElem?_eq_getElem (by omega)⟩
      obtain ⟨a0, b0, ha0, hb0, hl0⟩ := upd_fldA (f := 0) (o := 0) (tf := t_int) (fi := ti_int) hl hu rfl T_int (by decide) rfl rfl rfl
      have ht := addsU_take hu
      have hle := addsU_le (l.take j)
      have hlj : (l.take j).length ≤ j := List.length_take_le _ _
      refine hR _ _ _ _ ?_
      refine wv_of (upd_len hl) ?_
      rw [vbin_lss, wv_some, brB_dec]
      refine ⟨fun _ => ?_, fun h => absurd (by omega) h⟩
      refine wv_of ha0 ?_
      refine wv_of hb0 ?_
      refine wv_of hl0 ?_
      rw [vbin_eql, wv_some, brB_dec]
      refine ⟨fun hk => ?_, fun hk => ?_⟩
      · rw [if_pos hk] at ht
        rw [vbin_add, wv_some, i64_in (by omega) (by omega), vbin_add, wv_some, i64_in (by omega) (by omega), show ((addsU (l.take j) : Nat) : Int) + 1 = ((addsU (l.take (j + 1)) : Nat) : Int) by omega]
        exact ih (j + 1) (by omega) (by omega)
      · rw [if_neg hk] at ht
        rw [vbin_add, wv_some, i64_in (by omega) (by omega), show addsU (l.take j) = addsU (l.take (j + 1)) by omega]
        exact ih (j + 1) (by omega) (by omega)
  exact loop _ 0 rfl (by omega)

/-- May an update stand behind a list? -/
def nextU (mine others : List UpdM) (u : UpdM) : Int :=
  if 2048 ≤ mine.length then 6 else if validU u = false then 120
  else if u.kind = 1 then (if u.id = (addsU mine : Nat) then 0 else 120)
  else if (firstU false u.id others).isSome = false then 120
  else if (firstU true u.id mine).isSome then 120
  else if u.kind = 2 ∧ sha u.hash ≠ ((firstU false u.id others).getD UpdM.zero).hash then 120 else 0

theorem length_sha' (s : List UInt8) : (sha s).length = 32 := length_sha s

theorem one_str {F0 : List AId} {G0 : Heap} {ps : List LP} {s : List UInt8} {K : AVal → Heap → Prop} (hs : Sp F0 G0 ps G) (hK : ∀ v G2, Sp F0 G0 (OwnL 1 v ([s].map .str) :: ps) G2 → K v G2) : aBuildSlice T t_sl_string 1 [(0, .str s)] G K :=
  buildV (T := T) (ts := t_sl_string) (e := t_string) (si := ti_sl_string) (ie := ti_string) T_sl_string rfl T_string rfl hs rfl (by decide) hK

set_option maxHeartbeats 2000000 in
theorem update_Next.use {v w : AVal} {mine others : List UpdM} {u : UpdM} (hl : IsSl 36 G v (mine.map UpdM.av)) (ho : IsSl 36 G w (others.map UpdM.av)) (hok : ∀ u ∈ mine, u.ok) (hok2 : ∀ u ∈ others, u.ok) (hlen : mine.length ≤ 9223372036854775807) (hlen2 : others.length ≤ 9223372036854775807) (hu : u.ok)
    (hQ : ∀ G', Ch [] G [] G' → Q (.int .i64 (nextU mine others u)) G') : ACalls P update_Next.n [v, w, u.av] G Q := by
  refine update_Next.sound ?_
  unfold update_Next.S
  rw [zUpd]
  intro i1 f1
  have s1 := (Sp.nil G).row f1 u.av
  refine wv_of (upd_len (hl.ch' s1.ch)) ?_
  unfold nextU at hQ
  rw [vbin_geq, wv_some, brB_dec]
  refine ⟨fun h => ?_, fun h => ?_⟩
  · rw [if_pos (by omega)] at hQ
    exact hQ _ s1.ch
  rw [if_neg (by omega)] at hQ
  refine wv_of (upd_load (i := 0) s1 rfl hu).2.2.2.2.2 ?_
  refine update_Valid.use hu fun G7 c7 => ?_
  have s7 := s1.tmp c7
  rw [vun_not, wv_some]
  cases hv : validU u with
  | false =>
    rw [if_pos hv] at hQ
    exact hQ _ s7.ch
  | true =>
    rw [if_neg (by rw [hv]; decide)] at hQ
    rw [Bool.not_true, brB_false]
    refine wv_of (upd_load (i := 0) s7 rfl hu).1 ?_
    rw [vbin_eql, wv_some, brB_dec]
    refine ⟨fun hk1 => ?_, fun hk1 => ?_⟩
    · rw [if_pos hk1] at hQ
      refine wv_of (upd_load (i := 0) s7 rfl hu).2.1 ?_
      refine update_adds.use (hl.ch' s7.ch) hok hlen fun G13 c13 => ?_
      have s13 := s7.tmp c13
      refine ⟨⟨(upd_load (i := 0) s13 rfl hu).2.1, trivial⟩, ?_⟩
      rw [vbin_neq, wv_some, brB_ndec]
      exact ⟨fun h => by rw [if_neg h] at hQ; exact hQ _ s13.ch, fun h => by rw [if_pos h] at hQ; exact hQ _ s13.ch⟩
    rw [if_neg hk1] at hQ
    refine wv_of (upd_load (i := 0) s7 rfl hu).2.1 ?_
    refine update_Find.use (ho.ch' s7.ch) hok2 hlen2 fun G17 c17 => ?_
    have s17 := s7.tmp c17
    have hf1 := firstU_ok (rm := false) (id := u.id) hok2
    have hf2 := firstU_ok (rm := true) (id := u.id) hok
    rw [opt0, wv_some, opt1, wv_some]
    obtain ⟨A, hA⟩ : ∃ A, A = firstU false u.id others := ⟨_, rfl⟩
    obtain ⟨B, hB⟩ : ∃ A, A = firstU true u.id mine := ⟨_, rfl⟩
    rw [← hA] at hf1 hQ ⊢
    rw [← hB] at hf2 hQ
    intro i20 f20
    have s20 := s17.row f20 UpdM.zero.av
    refine upd_store (i := 0) s20 rfl UpdM.zero_ok hf1 fun G22 s22 => ?_
    refine wv_of (upd_load (i := 1) s22 rfl hu).2.1 ?_
    refine update_Removal.use (hl.ch' s22.ch) hok hlen fun G25 c25 => ?_
    have s25 := s22.tmp c25
    rw [← hB, opt0, wv_some, opt1, wv_some]
    intro i28 f28
    have s28 := s25.row f28 UpdM.zero.av
    refine upd_store (i := 0) s28 rfl UpdM.zero_ok hf2 fun G30 s30 => ?_
    have s30 : Sp [] G [RowL i28 (B.getD UpdM.zero).av, RowL i20 (A.getD UpdM.zero).av, RowL i1 u.av] G30 := s30
    rw [vun_not, wv_some]
    cases hAs : A.isSome with
    | false =>
      rw [if_pos hAs] at hQ
      exact hQ _ s30.ch
    | true =>
      rw [if_neg (by rw [hAs]; decide)] at hQ
      rw [Bool.not_true, brB_false]
      cases hBs : B.isSome with
      | true =>
        rw [if_pos hBs] at hQ
        exact hQ _ s30.ch
      | false =>
        rw [if_neg (by rw [hBs]; decide)] at hQ
        rw [brB_false]
        refine wv_of (upd_load (i := 2) s30 rfl hu).1 ?_
        rw [vbin_eql, wv_some, brB_dec]
        refine ⟨fun hk2 => ?_, fun hk2 => ?_⟩
        · obtain ⟨x, hx, hxs⟩ := slice_upd hu (RowL.own (i := 2) s30 rfl)
          refine wv_of hx ?_
          refine wv_of (conv_bytes (si := ti_sl_uint8) (ie := ti_uint8) (di := ti_string) T_sl_uint8 rfl T_uint8 rfl T_string rfl hxs) ?_
          refine wv_of (upd_load (i := 1) s30 rfl hf1).2.2.2.1 ?_
          refine one_str s30 fun v37 G38 s38 => ?_
          have hh := hu.hash
          refine hash_Sum.use (xs := [u.hash]) (OwnL.own (i := 0) s38 rfl).cap (by simp) (by simp; omega) fun G40 c40 => ?_
          have s40 := s38.tmp c40
          refine ⟨⟨(upd_load (i := 2) s40 rfl hf1).2.2.2.1, trivial⟩, ?_⟩
          have e1 : [u.hash].flatten = u.hash := by simp
          rw [e1, hash_neq (length_sha' _) hf1.hash, wv_some, brB_ndec]
          refine ⟨fun h => ?_, fun h => ?_⟩
          · rw [if_pos ⟨hk2, h⟩] at hQ
            exact hQ _ s40.ch
          · rw [if_neg (fun hh => hh.2 h)] at hQ
            exact hQ _ s40.ch
        · rw [if_neg (fun hh => hk2 hh.1)] at hQ
          exact hQ _ s30.ch

end
end Go.Esc.M

/- Own work. Chapter 12: UpdateNexts. -/
set_option linter.unusedSimpArgs false
set_option linter.unusedVariables false
namespace Go.Esc.M
open Go Go.Esc

section
variable {F0 : List AId} {G0 G : Heap} {ps : List LP} {Q : AVal → Heap → Prop}

theorem escrowref02_Sum.use {v : AVal} {xs : List (List UInt8)} (hl : IsSl 1 G v (xs.map .str)) (hN : xs.length ≤ 9223372036854775807) (hlen : xs.flatten.length ≤ 140737488355000) (hQ : ∀ G', Ch [] G [] G' → Q (.agg ((sha xs.flatten).map u8v)) G') : ACalls P escrowref02_Sum.n [v] G Q := by
  refine escrowref02_Sum.sound ?_
  unfold escrowref02_Sum.S
  rw [z_hash]
  intro i1 f1
  have s1 := (Sp.nil G).row f1 (.agg ((List.replicate 32 (0 : UInt8)).map u8v))
  revert s1
  generalize Heap.upd _ i1 _ = G2
  intro s1 R hR
  have hl1 := hl.ch' s1.ch
  have hle : ∀ j, (xs.take j).flatten.length ≤ xs.flatten.length := fun j => by
    conv => rhs; rw [← List.take_append_drop j xs, List.flatten_append, List.length_append]
    omega
  have loop : ∀ (n j : Nat), xs.length - j = n → j ≤ xs.length → R [v, .ptr i1 [] 0, .str (xs.take j).flatten, .int .i64 (j : Int)] G2 := by
    intro n
    induction n with
    | zero =>
      intro j hn hj
      have : j = xs.length := by omega
      subst this
      refine hR _ _ _ _ _ ?_
      rw [hl1.len (i := ti_sl_string) T_sl_string rfl, List.length_map, wv_some, vbin_lss, wv_some, brB_dec]
      refine ⟨fun h => absurd h (by omega), fun _ => ?_⟩
      rw [List.take_length]
      refine escrowref02_One.use hlen fun G16 c16 => ?_
      have s16 := s1.tmp c16
      refine hash_store (i := 0) s16 rfl zh_len (length_sha' _) fun G17 s17 => ?_
      refine wv_of (load_hash (length_sha' _) (RowL.own (i := 0) s17 rfl)) ?_
      exact hQ _ s17.ch
    | succ n ih =>
      intro j hn hj
      obtain ⟨x, hx⟩ : ∃ x, xs[j]? = some x := ⟨_, List.getElem?_eq_getElem (by omega)⟩
      obtain ⟨a, ha, hla⟩ := hl1.at_ (k := .i64) (j := j) (i := ti_sl_string) (ie := ti_string) (T := T) (t := t_sl_string) (e := t_string) (c := .str x) T_sl_string rfl T_string (by rw [List.getElem?_map, hx]; rfl) rfl
      have et : (xs.take (j + 1)).flatten = (xs.take j).flatten ++ x := by rw [List.take_add_one, hx]; simp
      have h1 := hle (j + 1)
      rw [et, List.length_append] at h1
      refine hR _ _ _ _ _ ?_
      rw [hl1.len (i := ti_sl_string) T_sl_string rfl, List.length_map, wv_some, vbin_lss, wv_some, brB_dec]
      refine ⟨fun _ => ?_, fun h => absurd (by omega) h⟩
      rw [ha, wv_some, hla, wv_some, vbin_sadd _ _ (by omega), wv_some, vbin_add, wv_some, i64_in (by omega) (by omega), ← et]
      exact ih (j + 1) (by omega) (by omega)
  exact loop _ 0 rfl (by omega)

set_option maxHeartbeats 2000000 in
theorem escrowref12_Next.use {v w : AVal} {mine others : List UpdM} {u : UpdM} (hl : IsSl 36 G v (mine.map UpdM.av)) (ho : IsSl 36 G w (others.map UpdM.av)) (hok : ∀ u ∈ mine, u.ok) (hok2 : ∀ u ∈ others, u.ok) (hlen : mine.length ≤ 9223372036854775807) (hlen2 : others.length ≤ 9223372036854775807) (hu : u.ok)
    (hQ : ∀ G', Ch [] G [] G' → Q (.int .i64 (nextU mine others u)) G') : ACalls P escrowref12_Next.n [v, w, u.av] G Q := by
  refine escrowref12_Next.sound ?_
  unfold escrowref12_Next.S
  rw [zUpd]
  intro i1 f1
  have s1 := (Sp.nil G).row f1 u.av
  refine wv_of (upd_len (hl.ch' s1.ch)) ?_
  unfold nextU at hQ
  rw [vbin_geq, wv_some, brB_dec]
  refine ⟨fun h => ?_, fun h => ?_⟩
  · rw [if_pos (by omega)] at hQ
    exact hQ _ s1.ch
  rw [if_neg (by omega)] at hQ
  refine wv_of (upd_load (i := 0) s1 rfl hu).2.2.2.2.2 ?_
  refine escrowref12_Valid.use hu fun G7 c7 => ?_
  have s7 := s1.tmp c7
  rw [vun_not, wv_some]
  cases hv : validU u with
  | false =>
    rw [if_pos hv] at hQ
    exact hQ _ s7.ch
  | true =>
    rw [if_neg (by rw [hv]; decide)] at hQ
    rw [Bool.not_true, brB_false]
    refine wv_of (upd_load (i := 0) s7 rfl hu).1 ?_
    rw [vbin_eql, wv_some, brB_dec]
    refine ⟨fun hk1 => ?_, fun hk1 => ?_⟩
    · rw [if_pos hk1] at hQ
      refine wv_of (upd_load (i := 0) s7 rfl hu).2.1 ?_
      refine escrowref12_Adds.use (hl.ch' s7.ch) hlen ?_
      refine ⟨⟨(upd_load (i := 0) s7 rfl hu).2.1, trivial⟩, ?_⟩
      rw [vbin_neq, wv_some, brB_ndec]
      exact ⟨fun h => by rw [if_neg h] at hQ; exact hQ _ s7.ch, fun h => by rw [if_pos h] at hQ; exact hQ _ s7.ch⟩
    rw [if_neg hk1] at hQ
    refine wv_of (upd_load (i := 0) s7 rfl hu).2.1 ?_
    refine escrowref12_Find.use (ho.ch' s7.ch) hok2 hlen2 fun G17 c17 => ?_
    have s17 := s7.tmp c17
    have hf1 := firstU_ok (rm := false) (id := u.id) hok2
    have hf2 := firstU_ok (rm := true) (id := u.id) hok
    rw [opt0, wv_some, opt1, wv_some]
    obtain ⟨A, hA⟩ : ∃ A, A = firstU false u.id others := ⟨_, rfl⟩
    obtain ⟨B, hB⟩ : ∃ A, A = firstU true u.id mine := ⟨_, rfl⟩
    rw [← hA] at hf1 hQ ⊢
    rw [← hB] at hf2 hQ
    intro i20 f20
    have s20 := s17.row f20 UpdM.zero.av
    refine upd_store (i := 0) s20 rfl UpdM.zero_ok hf1 fun G22 s22 => ?_
    refine wv_of (upd_load (i := 1) s22 rfl hu).2.1 ?_
    refine escrowref12_Removal.use (hl.ch' s22.ch) hok hlen fun G25 c25 => ?_
    have s25 := s22.tmp c25
    rw [← hB, opt0, wv_some, opt1, wv_some]
    intro i28 f28
    have s28 := s25.row f28 UpdM.zero.av
    refine upd_store (i := 0) s28 rfl UpdM.zero_ok hf2 fun G30 s30 => ?_
    have s30 : Sp [] G [RowL i28 (B.getD UpdM.zero).av, RowL i20 (A.getD UpdM.zero).av, RowL i1 u.av] G30 := s30
    intro J46
    have bad : nextU mine others u = 120 → J46 (.bool true) G30 := by
      intro h
      simp -zeta only [J46, brB_true]
      have := hQ _ s30.ch
      unfold nextU at h
      rw [if_neg (by omega), if_neg (by rw [hv]; decide), if_neg hk1, ← hA, ← hB] at h
      rwa [h] at this
    have hnx : nextU mine others u = if A.isSome = false then 120 else if B.isSome then 120 else if u.kind = 2 ∧ sha u.hash ≠ (A.getD UpdM.zero).hash then 120 else 0 := by
      unfold nextU
      rw [if_neg (by omega), if_neg (by rw [hv]; decide), if_neg hk1, ← hA, ← hB]
    rw [vun_not, wv_some]
    cases hAs : A.isSome with
    | false =>
      rw [if_pos hAs] at hnx
      rw [Bool.not_false, brB_true]
      exact bad hnx
    | true =>
      rw [if_neg (by rw [hAs]; decide)] at hQ hnx
      rw [Bool.not_true, brB_false]
      cases hBs : B.isSome with
      | true =>
        rw [if_pos hBs] at hnx
        exact bad hnx
      | false =>
        rw [if_neg (by rw [hBs]; decide)] at hQ
        simp -zeta only [J46, brB_false]
        refine wv_of (upd_load (i := 2) s30 rfl hu).1 ?_
        rw [vbin_eql, wv_some, brB_dec]
        refine ⟨fun hk2 => ?_, fun hk2 => ?_⟩
        · obtain ⟨x, hx, hxs⟩ := slice_upd hu (RowL.own (i := 2) s30 rfl)
          refine wv_of hx ?_
          refine wv_of (conv_bytes (si := ti_sl_uint8) (ie := ti_uint8) (di := ti_string) T_sl_uint8 rfl T_uint8 rfl T_string rfl hxs) ?_
          refine wv_of (upd_load (i := 1) s30 rfl hf1).2.2.2.1 ?_
          refine one_str s30 fun v37 G38 s38 => ?_
          have hh := hu.hash
          refine escrowref02_Sum.use (xs := [u.hash]) (OwnL.own (i := 0) s38 rfl).is (by simp) (by simp; omega) fun G40 c40 => ?_
          have s40 := s38.tmp c40
          refine ⟨⟨(upd_load (i := 2) s40 rfl hf1).2.2.2.1, trivial⟩, ?_⟩
          have e1 : [u.hash].flatten = u.hash := by simp
          rw [e1, hash_neq (length_sha' _) hf1.hash, wv_some, brB_ndec]
          refine ⟨fun h => ?_, fun h => ?_⟩
          · rw [if_pos ⟨hk2, h⟩] at hQ
            exact hQ _ s40.ch
          · rw [if_neg (fun hh => hh.2 h)] at hQ
            exact hQ _ s40.ch
        · rw [if_neg (fun hh => hk2 hh.1)] at hQ
          exact hQ _ s30.ch

def uM : UpdM := ⟨77, 0, 0, h0, []⟩
def uN : UpdM := ⟨0, 0, 0, h0, [109, 97, 114, 107]⟩
theorem uM_ok : uM.ok := ⟨⟨by decide, by decide⟩, ⟨by decide, by decide⟩, ⟨by decide, by decide⟩, rfl, by decide⟩
theorem uN_ok : uN.ok := ⟨⟨by decide, by decide⟩, ⟨by decide, by decide⟩, ⟨by decide, by decide⟩, rfl, by decide⟩
theorem upds_uni {l : List UpdM} (h : ∀ p ∈ l, p.ok) : Esc.uni 36 (l.map UpdM.av) = true ∧ okvs (l.map UpdM.av) = true := by
  refine ⟨by simp only [Esc.uni, List.all_map, List.all_eq_true]; intro p hp; simp [UpdM.sz (h p hp)], ?_⟩
  induction l with
  | nil => rfl
  | cons p l ih => simp [okvs, UpdM.okv, ih (fun p hp => h p (by simp [hp]))]

theorem escrowlaw12_lent.use {v : AVal} {l : List UpdM} (hl : IsSl 36 G v (l.map UpdM.av)) (hok : ∀ u ∈ l, u.ok) (hlen : (l.length + 2) * 72 ≤ 140737488355328)
    (hQ : ∀ w G', Sp [] G [OwnL 36 w ((l ++ [uM, uN]).map UpdM.av)] G' → Q w G') : ACalls P escrowlaw12_lent.n [v] G Q := by
  refine escrowlaw12_lent.sound ?_
  unfold escrowlaw12_lent.S
  have hbytes : ti_api_Update.bytes = 72 := rfl
  obtain ⟨h1, h2⟩ := upds_uni hok
  have hok2 : ∀ u ∈ [uM, uN], u.ok := fun u hu => by
    rcases List.mem_cons.1 hu with rfl | hu
    · exact uM_ok
    · rw [List.mem_singleton.1 hu]; exact uN_ok
  obtain ⟨h3, h4⟩ := upds_uni hok2
  refine growL (T := T) (ts := t_sl_api_Update) (e := t_api_Update) (si := ti_sl_api_Update) (ie := ti_api_Update) (tx := t_sl_api_Update) (xi := ti_sl_api_Update) (i := 0) (vs := []) (xs := l.map UpdM.av) T_sl_api_Update rfl T_api_Update rfl (by decide) T_sl_api_Update (.inr ⟨_, rfl⟩) ((Sp.nil G).nilL 36) rfl hl.elems h1 h2
    (by rw [hbytes, List.length_map]; simp; omega) fun v1 G2 s2 => ?_
  have s2 : Sp [] G [OwnL 36 v1 (l.map UpdM.av)] G2 := s2
  refine wv_of (v := uM.av) rfl ?_
  refine wv_of (v := uN.av) rfl ?_
  refine buildV2 (T := T) (ts := t_sl_api_Update) (e := t_api_Update) (si := ti_sl_api_Update) (ie := ti_api_Update) T_sl_api_Update rfl T_api_Update rfl s2 (UpdM.sz uM_ok) (UpdM.sz uN_ok) (by decide) fun v5 G6 s6 => ?_
  refine growL (T := T) (ts := t_sl_api_Update) (e := t_api_Update) (si := ti_sl_api_Update) (ie := ti_api_Update) (tx := t_sl_api_Update) (xi := ti_sl_api_Update) (i := 1) (xs := [uM, uN].map UpdM.av) T_sl_api_Update rfl T_api_Update rfl (by decide) T_sl_api_Update (.inr ⟨_, rfl⟩) s6 rfl (OwnL.own (i := 0) s6 rfl).is.elems h3 h4
    (by rw [hbytes, List.length_map, List.length_map]; exact hlen) fun v7 G8 s8 => ?_
  refine hQ v7 G8 ?_
  rw [List.map_append]
  exact s8.erase 0

theorem own_take {v : AVal} {vs : List AVal} {m : Nat} (h : Own 36 G v vs) (hm : m ≤ vs.length) : ∃ w, vslice T t_sl_api_Update v none (some (.int .i64 ((m : Nat) : Int))) none = some w ∧ ∀ {G' : Heap}, Own 36 G' v vs → Own 36 G' w (vs.take m) := by
  have e1 : T t_sl_api_Update = some ti_sl_api_Update := T_sl_api_Update
  have e2 : ti_sl_api_Update.desc = .slice t_api_Update := rfl
  rcases h with ⟨rfl, rfl⟩ | ⟨id, len, cap, cs, rfl, hg, hc, hl, hu, he⟩
  · simp at hm
    subst hm
    exact ⟨.nilSlice, by simp [vslice, e1, e2, T_api_Update, sbounds, sbound], fun _ => .inl ⟨rfl, rfl⟩⟩
  · have hvl : vs.length = len := by rw [he, List.length_take]; omega
    refine ⟨.slice id [] 0 0 m cap, ?_, fun {G'} h' => ?_⟩
    · simp only [vslice, e1, e2, T_api_Update]
      rw [sbounds_high (by omega)]
      simp
    · rcases h' with ⟨h, _⟩ | ⟨id', len', cap', cs', h1, hg', hc', hl', hu', he'⟩
      · cases h
      · injection h1 with i1 i2 i3 i4 i5 i6
        subst i1 i5 i6
        refine .inr ⟨id, m, cap, cs', rfl, hg', hc', by omega, hu', ?_⟩
        rw [he', List.take_take, Nat.min_eq_left (by omega)]

theorem escrowref12_Same.use {v w : AVal} {l : List UpdM} (hl : IsSl 36 G v (l.map UpdM.av)) (hl' : IsSl 36 G w (l.map UpdM.av)) (hok : ∀ u ∈ l, u.ok) (hlen : l.length ≤ 9223372036854775807) (hQ : Q (.bool true) G) : ACalls P escrowref12_Same.n [v, w] G Q := by
  refine escrowref12_Same.sound ?_
  unfold escrowref12_Same.S
  refine wv_of (upd_len hl) ?_
  refine wv_of (upd_len hl') ?_
  rw [nz0, wv_some, brB_false]
  intro R hR
  have loop : ∀ (n j : Nat), l.length - j = n → j ≤ l.length → R [v, w, .int .i64 (j : Int)] G := by
    intro n
    induction n with
    | zero =>
      intro j hn hj
      refine hR _ _ _ _ ?_
      refine wv_of (upd_len hl) ?_
      rw [vbin_lss, wv_some, brB_dec]
      exact ⟨fun h => absurd h (by omega), fun _ => hQ⟩
    | succ n ih =>
      intro j hn hj
      obtain ⟨u, hu⟩ : ∃ u, l[j]? = some u := ⟨_, List.getElem?_eq_getElem (by omega)⟩
      have huo := hok u (List.mem_of_getElem? hu)
      obtain ⟨a, ha, hla⟩ := upd_at hl hu
      obtain ⟨b, hb, hlb⟩ := upd_at hl' hu
      refine hR _ _ _ _ ?_
      refine wv_of (upd_len hl) ?_
      rw [vbin_lss, wv_some, brB_dec]
      refine ⟨fun _ => ?_, fun h => absurd (by omega) h⟩
      rw [ha, wv_some, hla, wv_some, hb, wv_some, hlb, wv_some, vbin_uneq huo huo, decide_eq_true rfl, Bool.not_true, wv_some, brB_false, vbin_add, wv_some, i64_in (by omega) (by omega)]
      exact ih (j + 1) (by omega) (by omega)
  exact loop _ 0 rfl (by omega)

end
end Go.Esc.M
