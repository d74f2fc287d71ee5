import Derived.Test.YtbckpbdamfhehaaGreatDoorLFa
import Derived.Test.YtbckpbdamfhehaaGreatDoorLLib
import Derived.Test.YtbckpbdamfhehaaGreatDoorLDa
import Derived.Test.YtbckpbdamfhehaaGreatDoorLRS
/- Own work. Chapter 13: removals; first; adds. -/
set_option linter.unusedSimpArgs false
set_option linter.unusedVariables false
set_option maxRecDepth 20000
namespace Go.Esc
open Go Go.RowKit
theorem CapSl.isSl {n : Nat} {G : Heap} {v : AVal} {vs : List AVal} (h : CapSl n G v vs) : IsSl n G v vs := by
  rcases h with ⟨id, p, st, off, len, cap, rfl, _, h⟩ | h
  · exact .inl ⟨_, _, _, _, _, _, rfl, h⟩
  · exact .inr h
theorem CapSl.mv {n : Nat} {G G' : Heap} {E : List AId} {v : AVal} {vs : List AVal} (h : CapSl n G v vs) (hc : Ch [] G E G') : CapSl n G' v vs := by
  rcases h with ⟨id, p, st, off, len, cap, rfl, hl, h⟩ | h
  · refine .inl ⟨_, _, _, _, _, _, rfl, hl, selems_le (fun j o hj => hc.others j o hj (by simp)) h⟩
  · exact .inr h
theorem CapSl.take {T : Tbl} {t e : TypeId} {i ie : TI} (ht : T t = some i) (hd : i.desc = .slice e) (he : T e = some ie) {G : Heap} {v : AVal} {vs : List AVal} (h : CapSl ie.size G v vs) {k : IntKind} {m : Nat} {x : Int} (hx : x = (m : Int)) (hm : m ≤ vs.length) :
    ∃ v', vslice T t v none (some (.int k x)) none = some v' ∧ CapSl ie.size G v' (vs.take m) := by
  subst hx
  rcases h with ⟨id, p, st, off, len, cap, rfl, hlc, h⟩ | ⟨rfl, rfl⟩
  · obtain ⟨cs, h1, h0, h2, h3, rfl, harr⟩ := selems_spec h
    have hl : ((cs.drop st).take len).length = len := by rw [List.length_take, List.length_drop]; omega
    rw [hl] at hm
    refine ⟨.slice id p st off m cap, ?_, .inl ⟨id, p, st, off, m, cap, rfl, by omega, ?_⟩⟩
    · simp only [vslice, ht, hd, he]
      rw [sbounds_high (by omega)]
      simp
    · simp only [selems, harr]
      rw [if_pos (by omega), List.take_take, Nat.min_eq_left hm]
  · simp at hm
    subst hm
    exact ⟨.nilSlice, by simp [vslice, ht, hd, he, sbounds, sbound], .inr ⟨rfl, by simp⟩⟩

/-! ### Maps of numbers -/
def mapE (es : List (Int × Int)) : List (AVal × AVal) := es.map fun p => (.int .i64 p.1, .int .i64 p.2)
def lookE : List (Int × Int) → Int → Option Int
  | [], _ => none
  | p :: es, k => if k = p.1 then some p.2 else lookE es k
theorem find_mapE (k : Int) : ∀ (es : List (Int × Int)) (i : Nat), match lookE es k with
    | some v => ∃ j, findA (.int .i64 k) (mapE es) i = some (some (j, .int .i64 v))
    | none => findA (.int .i64 k) (mapE es) i = some none
  | [], i => rfl
  | p :: es, i => by
    unfold lookE
    by_cases h : k = p.1
    · rw [if_pos h]
      exact ⟨i, by simp [mapE, findA, sameA, h]⟩
    · rw [if_neg h]
      have ih := find_mapE k es (i + 1)
      have e : findA (.int .i64 k) (mapE (p :: es)) i = findA (.int .i64 k) (mapE es) (i + 1) := by simp [mapE, findA, sameA, h]
      rw [e]
      exact ih
theorem lookE_append (k : Int) : ∀ (es : List (Int × Int)) (a v : Int), lookE (es ++ [(a, v)]) k = match lookE es k with
    | some x => some x
    | none => if k = a then some v else none
  | [], a, v => rfl
  | p :: es, a, v => by
    have ih := lookE_append k es a v
    simp only [List.cons_append, lookE]
    by_cases h : k = p.1
    · rw [if_pos h, if_pos h]
    · rw [if_neg h, if_neg h, ih]
theorem mapE_append (es : List (Int × Int)) (a v : Int) : mapE es ++ [(.int .i64 a, .int .i64 v)] = mapE (es ++ [(a, v)]) := by simp [mapE]
end Go.Esc
namespace Go.Esc.M
open Go Go.Esc

theorem tv0 (v : AVal) (e : AVal) : vextract (.tuple [v, e]) 0 = some v := rfl
theorem tv1 (v : AVal) (e : AVal) : vextract (.tuple [v, e]) 1 = some e := rfl
def isRem (id : Int) (u : UpdM) : Bool := decide (u.kind ≠ 1) && (decide (u.id = id) && validU u)
/-- The kind of an ID's first removal. -/
def remS (id : Int) : List UpdM → Int
  | [] => 0
  | u :: l => if isRem id u = true then u.kind else remS id l
theorem isRem_kind {id : Int} {u : UpdM} (h : isRem id u = true) : u.kind ≠ 0 := by
  simp only [isRem, Bool.and_eq_true, decide_eq_true_eq] at h
  have := (valid_spec h.2.2).2.2
  omega
theorem remS_append (id : Int) : ∀ (a b : List UpdM), remS id (a ++ b) = if remS id a = 0 then remS id b else remS id a
  | [], b => rfl
  | u :: a, b => by
    have ih := remS_append id a b
    by_cases h : isRem id u = true
    · have hk := isRem_kind h
      have e1 : remS id (u :: (a ++ b)) = u.kind := if_pos h
      have e2 : remS id (u :: a) = u.kind := if_pos h
      rw [List.cons_append, e1, e2, if_neg hk]
    · have e1 : remS id (u :: (a ++ b)) = remS id (a ++ b) := if_neg h
      have e2 : remS id (u :: a) = remS id a := if_neg h
      rw [List.cons_append, e1, e2, ih]
theorem remS_next {id : Int} {l : List UpdM} {j : Nat} {u : UpdM} (h : l[j]? = some u) : remS id (l.take (j + 1)) = if remS id (l.take j) = 0 then (if isRem id u = true then u.kind else 0) else remS id (l.take j) := by
  rw [List.take_add_one, h, remS_append]
  rfl
def optR (x : Int) : Option Int := if x = 0 then none else some x
def firstN (l : List UpdM) (n : Int) : List UpdM := l.take n.toNat
theorem firstN_ok {l : List UpdM} {n : Int} (h : ∀ u ∈ l, u.ok) : ∀ u ∈ firstN l n, u.ok := fun u hu => h u (List.mem_of_mem_take hu)
theorem firstN_len (l : List UpdM) (n : Int) : (firstN l n).length ≤ l.length := by unfold firstN; rw [List.length_take]; omega
/-- The amounts of the valid adds that a test takes. -/
def addsL (test : Int → Bool) (l : List UpdM) : List Int := (l.filter fun u => decide (u.kind = 1) && (validU u && test u.id)).map (·.amount)
theorem addsL_next {test : Int → Bool} {l : List UpdM} {j : Nat} {u : UpdM} (h : l[j]? = some u) : addsL test (l.take (j + 1)) = addsL test (l.take j) ++ if decide (u.kind = 1) && (validU u && test u.id) then [u.amount] else [] := by
  unfold addsL
  rw [List.take_add_one, h]
  simp only [Option.toList_some, List.filter_append, List.map_append]
  congr 1
  simp only [List.filter_cons, List.filter_nil]
  split <;> rfl
theorem addsL_len (test : Int → Bool) (l : List UpdM) : (addsL test l).length ≤ l.length := by
  unfold addsL
  rw [List.length_map]
  exact List.length_filter_le _ _
theorem addsL_amt {test : Int → Bool} {l : List UpdM} : ∀ a ∈ addsL test l, amt a := by
  intro a ha
  unfold addsL at ha
  obtain ⟨u, hu, rfl⟩ := List.mem_map.1 ha
  have hf := (List.mem_filter.1 hu).2
  simp only [Bool.and_eq_true, decide_eq_true_eq] at hf
  have := (valid_spec hf.2.1).2.2
  constructor <;> omega

section
variable {F0 : List AId} {G0 G : Heap} {ps : List LP} {Q : AVal → Heap → Prop}

theorem rem_look {es : List (Int × Int)} {mid : AId} {k : Int} (hg : G mid = some (.map (mapE es))) : vlookup T G t_map_int64_int (.map mid) (.int .i64 k) false = some (.int .i64 ((lookE es k).getD 0)) := by
  have hf : keyFits ti_int64.desc (.int .i64 k) = true := rfl
  have h := find_mapE k es 0
  have hd : ti_map_int64_int.desc = .map t_int64 t_int := rfl
  have hz : ti_int.zero = .int .i64 0 := rfl
  simp only [vlookup, T_map_int64_int, hd, T_int64, T_int, hf, if_true, mapEs, hg]
  cases hl : lookE es k with
  | none => rw [hl] at h; rw [h]; simp [hz]
  | some v => rw [hl] at h; obtain ⟨j, h⟩ := h; rw [h]; simp
theorem rem_look2 {es : List (Int × Int)} {mid : AId} {k : Int} (hg : G mid = some (.map (mapE es))) : vlookup T G t_map_int64_int (.map mid) (.int .i64 k) true = some (.tuple [.int .i64 ((lookE es k).getD 0), .bool (lookE es k).isSome]) := by
  have hf : keyFits ti_int64.desc (.int .i64 k) = true := rfl
  have h := find_mapE k es 0
  have hd : ti_map_int64_int.desc = .map t_int64 t_int := rfl
  have hz : ti_int.zero = .int .i64 0 := rfl
  simp only [vlookup, T_map_int64_int, hd, T_int64, T_int, hf, if_true, mapEs, hg]
  cases hl : lookE es k with
  | none => rw [hl] at h; rw [h]; simp [hz]
  | some v => rw [hl] at h; obtain ⟨j, h⟩ := h; rw [h]; simp

theorem ledger_first.use {v : AVal} {l : List UpdM} {n : Int} (hl : CapSl 36 G v (l.map UpdM.av)) (hlen : l.length ≤ 2000000000000) (hQ : ∀ w, CapSl 36 G w ((firstN l n).map UpdM.av) → Q w G) : ACalls P ledger_first.n [v, .int .i64 n] G Q := by
  refine ledger_first.sound ?_
  unfold ledger_first.S
  refine wv_of (v := .int .i64 (if n < 0 then 0 else n)) rfl ?_
  refine wv_of (upd_len hl.isSl) ?_
  obtain ⟨m, hm, hml, he⟩ : ∃ m : Nat, (if ((l.length : Nat) : Int) < (if n < 0 then 0 else n) then ((l.length : Nat) : Int) else (if n < 0 then 0 else n)) = (m : Int) ∧ m ≤ l.length ∧ l.take m = firstN l n := by
    unfold firstN
    by_cases h0 : n < 0
    · refine ⟨0, ?_, by omega, ?_⟩
      · rw [if_pos h0, if_neg (by omega)]; rfl
      · rw [show n.toNat = 0 by omega]
    · by_cases h1 : ((l.length : Nat) : Int) < n
      · refine ⟨l.length, ?_, by omega, ?_⟩
        · rw [if_neg h0, if_pos h1]
        · rw [List.take_length, List.take_of_length_le (by omega)]
      · refine ⟨n.toNat, ?_, by omega, rfl⟩
        rw [if_neg h0, if_neg h1]; omega
  refine wv_of (v := .int .i64 (m : Int)) (by rw [← hm]; rfl) ?_
  obtain ⟨w, e1, e2⟩ := CapSl.take (ie := ti_api_Update) (k := .i64) (m := m) T_sl_api_Update rfl T_api_Update hl rfl (by rw [List.length_map]; exact hml)
  refine wv_of e1 ?_
  refine hQ w ?_
  rw [← he, List.map_take]
  exact e2

set_option maxHeartbeats 1000000 in
theorem ledger_removals.use {v : AVal} {l : List UpdM} (hl : IsSl 36 G v (l.map UpdM.av)) (hok : ∀ u ∈ l, u.ok) (hlen : l.length ≤ 2000000000000)
    (hQ : ∀ mid es G', (∀ id, lookE es id = optR (remS id l)) → Sp [] G [MapL mid (mapE es)] G' → Q (.map mid) G') : ACalls P ledger_removals.n [v] G Q := by
  refine ledger_removals.sound ?_
  unfold ledger_removals.S
  intro mid f1
  have s1 := (Sp.nil G).new (p := MapL mid (mapE [])) ⟨Heap.upd_self _ _ _, rfl⟩ (Ch.new (o := .map []) f1)
  refine wv_of (upd_len (hl.ch' s1.ch)) ?_
  intro R hR
  have loop : ∀ (m j : Nat) (es : List (Int × Int)) (G' : Heap), l.length - j = m → j ≤ l.length → (∀ id, lookE es id = optR (remS id (l.take j))) → Sp [] G [MapL mid (mapE es)] G' → R [.map mid, v, .int .i64 (l.length : Int), .int .i64 (j : Int)] G' := by
    intro m
    induction m with
    | zero =>
      intro j es G' hm hj hes sp
      refine hR _ _ _ _ _ ?_
      rw [vbin_lss, wv_some, decide_eq_false (by omega), brB_false]
      rw [List.take_of_length_le (by omega)] at hes
      exact hQ _ _ _ hes sp
    | succ m ih =>
      intro j es G' hm hj hes sp
      obtain ⟨u, hu⟩ : ∃ u, l[j]? = some u := ⟨_, List.getElem?_eq_getElem (by omega)⟩
      have huo := hok u (List.mem_of_getElem? hu)
      refine hR _ _ _ _ _ ?_
      rw [vbin_lss, wv_some, decide_eq_true (by omega), brB_true]
      have ev : vbin T .add t_int (.int .i64 (j : Int)) (.int .i64 1) = some (.int .i64 ((j + 1 : Nat) : Int)) := by
        rw [vbin_add, i64_in (by omega) (by omega)]
        rfl
      obtain ⟨a, e1, e2⟩ := upd_at (hl.ch' sp.ch) hu
      refine wv_of e1 ?_
      refine wv_of e2 ?_
      refine newU sp huo fun i13 G15 s15 => ?_
      obtain ⟨l0, l1, l2, l3, l4, l5⟩ := upd_load (i := 0) s15 rfl huo
      refine wv_of l1 ?_
      refine wv_of (rem_look2 (MapL.own (i := 1) s15 rfl)) ?_
      refine wv_of (tv0 _ _) ?_
      refine wv_of (tv1 _ _) ?_
      intro J32
      have skip : ∀ G26, Sp [] G [RowL i13 u.av, MapL mid (mapE es)] G26 → (isRem u.id u = false ∨ remS u.id (l.take j) ≠ 0) → J32 (.bool false) G26 := by
        intro G26 s26 hno
        simp -zeta only [J32, brB_false]
        refine wv_of ev (ih (j + 1) es G26 (by omega) (by omega) (fun id => ?_) (s26.erase 0))
        rw [hes id, remS_next hu]
        congr 1
        by_cases h0 : remS id (l.take j) = 0
        · rw [if_pos h0, h0]
          by_cases hr : isRem id u = true
          · have hid : u.id = id := by
              simp only [isRem, Bool.and_eq_true, decide_eq_true_eq] at hr
              exact hr.2.1
            subst hid
            rcases hno with hno | hno
            · rw [hr] at hno; cases hno
            · exact absurd h0 hno
          · rw [if_neg hr]
        · rw [if_neg h0]
      rw [vun_not, wv_some]
      have hlk := hes u.id
      by_cases h0 : remS u.id (l.take j) = 0
      · rw [h0] at hlk
        have hlk : lookE es u.id = none := hlk
        rw [hlk]
        show brB (some (.bool true)) _ _
        rw [brB_true]
        refine wv_of l0 ?_
        rw [vbin_neq, wv_some]
        by_cases hk : u.kind = 1
        · rw [decide_eq_true hk, Bool.not_true, brB_false]
          exact skip _ s15 (.inl (by simp [isRem, hk]))
        · rw [decide_eq_false hk, Bool.not_false, brB_true]
          refine wv_of l5 ?_
          refine update_Valid.use huo fun G25 c25 => ?_
          have s25 := s15.tmp c25
          cases hv : validU u with
          | false => exact skip _ s25 (.inl (by simp [isRem, hv]))
          | true =>
            simp -zeta only [J32, brB_true]
            obtain ⟨k0, k1, _, _, _, _⟩ := upd_load (i := 0) s25 rfl huo
            refine wv_of k1 ?_
            refine wv_of k0 ?_
            have hfd := find_mapE u.id es 0
            rw [hlk] at hfd
            refine map_upd (T := T) (i := ti_map_int64_int) (r := none) T_map_int64_int rfl T_int64 (MapL.own (i := 1) s25 rfl) rfl hfd ?_
            have s30 := Sp.setMap' (j := 1) s25 rfl (mapE (es ++ [(u.id, u.kind)]))
            rw [← mapE_append] at s30
            refine wv_of ev (ih (j + 1) (es ++ [(u.id, u.kind)]) _ (by omega) (by omega) (fun id => ?_) ?_)
            · rw [lookE_append, hes id, remS_next hu]
              by_cases hz : remS id (l.take j) = 0
              · rw [if_pos hz, hz]
                show (if id = u.id then some u.kind else none) = _
                by_cases hid : id = u.id
                · subst hid
                  have hr : isRem u.id u = true := by simp [isRem, hk, hv]
                  rw [if_pos rfl, if_pos hr, optR, if_neg (isRem_kind hr)]
                · have hr : isRem id u = false := by
                    have : ¬ u.id = id := fun h => hid h.symm
                    simp [isRem, this]
                  rw [if_neg hid, hr]
                  rfl
              · rw [if_neg hz]
                unfold optR
                rw [if_neg hz]
            · rw [← mapE_append]
              exact s30.erase 0
      · have hlk : lookE es u.id = some (remS u.id (l.take j)) := by rw [hlk, optR, if_neg h0]
        rw [hlk]
        show brB (some (.bool false)) _ _
        rw [brB_false]
        exact skip _ s15 (.inr h0)
  exact loop l.length 0 [] _ rfl (by omega) (fun id => rfl) s1

end

end Go.Esc.M

/- Own work. Chapter 13: what is spendable; what is open. -/
set_option linter.unusedSimpArgs false
set_option linter.unusedVariables false
set_option maxRecDepth 20000
namespace Go.Esc.M
open Go Go.Esc

section
variable {F0 : List AId} {G0 G : Heap} {ps : List LP} {Q : AVal → Heap → Prop}

/-- A test, called. -/
def TestOk (G : Heap) (f : AVal) (test : Int → Bool) : Prop := ∀ (G' : Heap) (id : Int) (K : AVal → Heap → Prop), Ch [] G [] G' → K (.bool (test id)) G' → aCallV P f [.int .i64 id] G' K

set_option maxHeartbeats 1000000 in
theorem ledger_adds.use {v f : AVal} {l : List UpdM} {test : Int → Bool} (hl : IsSl 36 G v (l.map UpdM.av)) (hok : ∀ u ∈ l, u.ok) (hlen : l.length ≤ 2000000000000) (hf : TestOk G f test)
    (hQ : ∀ w G', Sp [] G [OwnL 1 w ((addsL test l).map (.int .i64))] G' → Q w G') : ACalls P ledger_adds.n [v, f] G Q := by
  refine ledger_adds.sound ?_
  unfold ledger_adds.S
  refine wv_of (upd_len hl) ?_
  intro R hR
  have loop : ∀ (m j : Nat) (w : AVal) (G' : Heap), l.length - j = m → j ≤ l.length → Sp [] G [OwnL 1 w ((addsL test (l.take j)).map (.int .i64))] G' → R [f, w, v, .int .i64 (l.length : Int), .int .i64 (j : Int)] G' := by
    intro m
    induction m with
    | zero =>
      intro j w G' hm hj sp
      refine hR _ _ _ _ _ _ ?_
      rw [vbin_lss, wv_some, decide_eq_false (by omega), brB_false]
      rw [List.take_of_length_le (by omega)] at sp
      exact hQ _ _ sp
    | succ m ih =>
      intro j w G' hm hj sp
      obtain ⟨u, hu⟩ : ∃ u, l[j]? = some u := ⟨_, List.getElem?_eq_getElem (by omega)⟩
      have huo := hok u (List.mem_of_getElem? hu)
      have hnx := addsL_next (test := test) hu
      refine hR _ _ _ _ _ _ ?_
      rw [vbin_lss, wv_some, decide_eq_true (by omega), brB_true]
      have ev : vbin T .add t_int (.int .i64 (j : Int)) (.int .i64 1) = some (.int .i64 ((j + 1 : Nat) : Int)) := by
        rw [vbin_add, i64_in (by omega) (by omega)]
        rfl
      obtain ⟨a, e1, e2⟩ := upd_at (hl.ch' sp.ch) hu
      refine wv_of e1 ?_
      refine wv_of e2 ?_
      refine newU sp huo fun i12 G14 s14 => ?_
      intro J32
      have no : ∀ G23, Sp [] G [RowL i12 u.av, OwnL 1 w ((addsL test (l.take j)).map (.int .i64))] G23 → (decide (u.kind = 1) && (validU u && test u.id)) = false → J32 (.bool false) G23 := by
        intro G23 s23 h
        simp -zeta only [J32, brB_false]
        rw [h] at hnx
        have s := s23.erase 0
        have e : addsL test (l.take j) = addsL test (l.take (j + 1)) := by rw [hnx]; simp
        rw [e] at s
        exact wv_of ev (ih (j + 1) w G23 (by omega) (by omega) s)
      obtain ⟨l0, l1, l2, l3, l4, l5⟩ := upd_load (i := 0) s14 rfl huo
      refine wv_of l0 ?_
      rw [vbin_eql, wv_some]
      by_cases hk : u.kind = 1
      · rw [decide_eq_true hk, brB_true]
        refine wv_of l5 ?_
        refine update_Valid.use huo fun G19 c19 => ?_
        have s19 := s14.tmp c19
        cases hv : validU u with
        | false =>
          rw [brB_false]
          exact no _ s19 (by rw [hv]; simp)
        | true =>
          rw [brB_true]
          refine wv_of (upd_load (i := 0) s19 rfl huo).2.1 ?_
          refine hf _ _ _ s19.ch ?_
          cases ht : test u.id with
          | false => exact no _ s19 (by rw [ht]; simp)
          | true =>
            simp -zeta only [J32, brB_true]
            refine wv_of (upd_load (i := 0) s19 rfl huo).2.2.1 ?_
            have hal := addsL_len test (l.take j)
            rw [List.length_take] at hal
            have hb : ti_int64.bytes = 8 := rfl
            refine growV (T := T) (ts := t_sl_int64) (e := t_int64) (si := ti_sl_int64) (ie := ti_int64) (i := 1) (c := .int .i64 u.amount) T_sl_int64 rfl T_int64 rfl (by decide) s19 rfl rfl rfl (by decide) ?_ fun w' G29 s29 => ?_
            · rw [hb, List.length_map]; omega
            have s : Sp [] G [OwnL 1 w' ((addsL test (l.take j)).map (.int .i64) ++ [.int .i64 u.amount])] G29 := s29.erase 0
            have e : (addsL test (l.take j)).map (AVal.int .i64) ++ [.int .i64 u.amount] = (addsL test (l.take (j + 1))).map (.int .i64) := by
              rw [hnx, hk, hv, ht]
              simp
            rw [e] at s
            exact wv_of ev (ih (j + 1) w' G29 (by omega) (by omega) s)
      · rw [decide_eq_false hk, brB_false]
        exact no _ s14 (by rw [decide_eq_false hk]; rfl)
  exact loop l.length 0 .nilSlice G rfl (by omega) ((Sp.nil G).nilL 1)

/-- A map read through a captured place. -/
theorem cap_look {i mid : AId} {es : List (Int × Int)} {G' : Heap} {k : Int} {l : List UpdM} (h1 : G' i = some (.own (.map mid))) (h2 : G' mid = some (.map (mapE es))) (hes : ∀ id, lookE es id = optR (remS id l)) :
    vload T G' t_map_int64_int (.ptr i [] 0) = some (.map mid) ∧ vlookup T G' t_map_int64_int (.map mid) (.int .i64 k) false = some (.int .i64 (remS k l)) := by
  refine ⟨whole_load T_map_int64_int h1 rfl, ?_⟩
  rw [rem_look h2, hes k]
  congr 2
  unfold optR
  split
  · rename_i h; rw [h]; rfl
  · rfl
theorem ch_own {G G' : Heap} {E : List AId} {j : AId} {o : AObj} (hc : Ch [] G E G') (h : G j = some o) : G' j = some o := hc.others j o h (by simp)
theorem test_Open {G : Heap} {i mid : AId} {es : List (Int × Int)} {l : List UpdM} (h1 : G i = some (.own (.map mid))) (h2 : G mid = some (.map (mapE es))) (hes : ∀ id, lookE es id = optR (remS id l)) :
    TestOk G (.func (.func ledger_Open_1.n) [] [.ptr i [] 0]) fun id => decide (remS id l = 0) := by
  intro G' id K hc hK
  refine ledger_Open_1.sound ?_
  unfold ledger_Open_1.S
  obtain ⟨e1, e2⟩ := cap_look (k := id) (ch_own hc h1) (ch_own hc h2) hes
  refine wv_of e1 ?_
  refine wv_of e2 ?_
  rw [vbin_eql, wv_some]
  exact hK
theorem test_Spend1 {G : Heap} {i mid : AId} {es : List (Int × Int)} {l : List UpdM} (h1 : G i = some (.own (.map mid))) (h2 : G mid = some (.map (mapE es))) (hes : ∀ id, lookE es id = optR (remS id l)) :
    TestOk G (.func (.func ledger_Spendable_1.n) [] [.ptr i [] 0]) fun id => !decide (remS id l = 3) := by
  intro G' id K hc hK
  refine ledger_Spendable_1.sound ?_
  unfold ledger_Spendable_1.S
  obtain ⟨e1, e2⟩ := cap_look (k := id) (ch_own hc h1) (ch_own hc h2) hes
  refine wv_of e1 ?_
  refine wv_of e2 ?_
  rw [vbin_neq, wv_some]
  exact hK
theorem test_Spend2 {G : Heap} {i mid : AId} {es : List (Int × Int)} {l : List UpdM} (h1 : G i = some (.own (.map mid))) (h2 : G mid = some (.map (mapE es))) (hes : ∀ id, lookE es id = optR (remS id l)) :
    TestOk G (.func (.func ledger_Spendable_2.n) [] [.ptr i [] 0]) fun id => decide (remS id l = 2) := by
  intro G' id K hc hK
  refine ledger_Spendable_2.sound ?_
  unfold ledger_Spendable_2.S
  obtain ⟨e1, e2⟩ := cap_look (k := id) (ch_own hc h1) (ch_own hc h2) hes
  refine wv_of e1 ?_
  refine wv_of e2 ?_
  rw [vbin_eql, wv_some]
  exact hK

def openN (mine others : List UpdM) (fixed : Int) : Nat := (addsL (fun id => decide (remS id (firstN others fixed) = 0)) mine).length
theorem newMap {mid : AId} {K : AId → Heap → Prop} (hs : Sp F0 G0 ps G) (hK : ∀ i G', Sp F0 G0 (RowL i (.map mid) :: ps) G' → K i G') :
    aNew G (.own z_map_int64_int) fun i G2 => wg (vstore T G2 t_map_int64_int (.ptr i [] 0) (.map mid)) fun G3 => K i G3 := newVal hs T_map_int64_int rfl rfl rfl hK

theorem ledger_Open.use {v w : AVal} {mine others : List UpdM} {fixed : Int} (hl : IsSl 36 G v (mine.map UpdM.av)) (ho : CapSl 36 G w (others.map UpdM.av)) (hok : ∀ u ∈ mine, u.ok) (hok2 : ∀ u ∈ others, u.ok) (hlen : mine.length ≤ 2000000000000) (hlen2 : others.length ≤ 2000000000000)
    (hQ : ∀ G', Ch [] G [] G' → Q (.int .i64 ((openN mine others fixed : Nat) : Int)) G') : ACalls P ledger_Open.n [v, w, .int .i64 fixed] G Q := by
  refine ledger_Open.sound ?_
  unfold ledger_Open.S
  refine ledger_first.use ho hlen2 fun w1 h1 => ?_
  have hfl := firstN_len others fixed
  refine ledger_removals.use h1.isSl (firstN_ok hok2) (by omega) fun mid es G4 hes s4 => ?_
  refine newMap s4 fun i5 G7 s7 => ?_
  refine ledger_adds.use (hl.ch' s7.ch) hok hlen (test_Open (RowL.own (i := 0) s7 rfl) (MapL.own (i := 1) s7 rfl) hes) fun x G9 t9 => ?_
  obtain ⟨F9, o9, c9⟩ := t9.out
  have s9 := s7.new o9 c9
  refine wv_of (v := .int .i64 ((openN mine others fixed : Nat) : Int)) ?_ ?_
  · rw [(OwnL.own (i := 0) s9 rfl).is.len (i := ti_sl_int64) T_sl_int64 rfl, List.length_map]
    rfl
  exact hQ _ s9.ch

end

end Go.Esc.M

/- Own work. Chapter 13: Spendable, both; the document's Open. -/
set_option linter.unusedSimpArgs false
set_option linter.unusedVariables false
set_option maxRecDepth 20000
namespace Go.Esc.M
open Go Go.Esc

def tSpend1 (others : List UpdM) (fp : Int) (id : Int) : Bool := !decide (remS id (firstN others fp) = 3)
def tSpend2 (mine : List UpdM) (fo : Int) (id : Int) : Bool := decide (remS id (firstN mine fo) = 2)
def capB (b : Int) : Int := if 1152921504606846976 < b then 1152921504606846976 else b
def spendS (base : Int) (mine others : List UpdM) (fo fp : Int) : Int :=
  if base < 0 then 0 else cutW (capB base - (addsL (tSpend1 others fp) mine).sum + (addsL (tSpend2 mine fo) others).sum)
theorem sum_take_next {A : List Int} {j : Nat} {a : Int} (h : A[j]? = some a) : (A.take (j + 1)).sum = (A.take j).sum + a := by
  rw [List.take_add_one, h, List.sum_append]
  simp
theorem clamp_value (t : Int) : (if 1152921504606846976 < (if valueW t < 0 then 0 else valueW t) then (1152921504606846976 : Int) else (if valueW t < 0 then 0 else valueW t)) = cutW t := by
  unfold valueW cutW
  by_cases h1 : t < 0
  · simp [h1]
  · by_cases h2 : t < 1152921505680588800
    · rw [if_neg h1, if_pos h2, if_neg h1, if_neg h1]
      by_cases h3 : t < 1152921504606846976
      · rw [if_pos h3, if_neg (by omega)]
      · rw [if_neg h3]
        split <;> omega
    · have hv : (if t < 0 then (-1 : Int) else if t < 1152921505680588800 then t else 1152921504606846977) = 1152921504606846977 := by rw [if_neg h1, if_neg h2]
      rw [hv, if_neg h1, if_neg (show ¬ t < 1152921504606846976 by omega), if_neg (show ¬ (1152921504606846977 : Int) < 0 by decide), if_pos (by decide)]
theorem capB_amt {b : Int} (h : ¬ b < 0) : amt (capB b) := by
  unfold capB amt
  split <;> constructor <;> omega
theorem sum_bound {A : List Int} (h : ∀ a ∈ A, amt a) : 0 ≤ A.sum ∧ A.sum ≤ (A.length : Int) * 1152921504606846976 := by
  induction A with
  | nil => simp
  | cons a A ih =>
    obtain ⟨h1, h2⟩ := ih fun x hx => h x (by simp [hx])
    obtain ⟨h3, h4⟩ := h a (by simp)
    rw [List.sum_cons, List.length_cons]
    constructor
    · omega
    · push_cast
      omega

section
variable {F0 : List AId} {G0 G : Heap} {ps : List LP} {Q : AVal → Heap → Prop}

theorem count_load {id : AId} {a b : Int} (hg : G id = some (.own (pairW a b))) :
    vload T G t_int (.ptr id [0] 0) = some (.int .i64 a) ∧ vload T G t_int (.ptr id [1] 1) = some (.int .i64 b) ∧ vload T G t_api_Counts (.ptr id [] 0) = some (pairW a b) :=
  ⟨vload_fld (c := .int .i64 a) hg rfl rfl rfl T_int rfl, vload_fld (c := .int .i64 b) hg rfl rfl rfl T_int rfl, whole_load T_api_Counts hg rfl⟩
theorem newW {a b : Int} {K : AId → Heap → Prop} (hs : Sp F0 G0 ps G) (hK : ∀ i G', Sp F0 G0 (RowL i (pairW a b) :: ps) G' → K i G') :
    aNew G (.own z_ledger_wide) fun i G2 => wg (vstore T G2 t_ledger_wide (.ptr i [] 0) (pairW a b)) fun G3 => K i G3 := newVal hs T_ledger_wide rfl rfl rfl hK
theorem int_at {v : AVal} {A : List Int} {j : Nat} {a : Int} (h : IsSl 1 G v (A.map (.int .i64))) (hj : A[j]? = some a) : ∃ p, viaddr T t_sl_int64 v (.int .i64 (j : Int)) = some p ∧ vload T G t_int64 p = some (.int .i64 a) :=
  h.at_ (k := .i64) (i := ti_sl_int64) (ie := ti_int64) (T := T) (t := t_sl_int64) (e := t_int64) T_sl_int64 rfl T_int64 (by rw [List.getElem?_map, hj]; rfl) rfl

set_option maxHeartbeats 2000000 in
theorem ledger_Spendable.use {v w : AVal} {base fo fp : Int} {mine others : List UpdM} (hl : CapSl 36 G v (mine.map UpdM.av)) (ho : CapSl 36 G w (others.map UpdM.av)) (hok : ∀ u ∈ mine, u.ok) (hok2 : ∀ u ∈ others, u.ok) (hlen : mine.length ≤ 1048576) (hlen2 : others.length ≤ 1048576)
    (hQ : ∀ G', Ch [] G [] G' → Q (.int .i64 (spendS base mine others fo fp)) G') : ACalls P ledger_Spendable.n [.int .i64 base, v, w, pairW fo fp] G Q := by
  refine ledger_Spendable.sound ?_
  unfold ledger_Spendable.S
  intro i1 f1
  have s1 := (Sp.nil G).row f1 (pairW fo fp)
  unfold spendS at hQ
  rw [vbin_lss, wv_some, brB_dec]
  refine ⟨fun h => ?_, fun h => ?_⟩
  · rw [if_pos h] at hQ
    exact hQ _ s1.ch
  rw [if_neg h] at hQ
  obtain ⟨c0, c1, c2⟩ := count_load (RowL.own (i := 0) s1 rfl)
  refine wv_of c1 ?_
  refine wv_of c0 ?_
  refine ledger_first.use (ho.mv s1.ch) (by omega) fun w1 hw1 => ?_
  refine ⟨⟨c0, trivial⟩, ?_⟩
  have hfl2 := firstN_len others fp
  have hfl := firstN_len mine fo
  refine ledger_removals.use hw1.isSl (firstN_ok hok2) (by omega) fun mid1 es1 G9 hes1 t9 => ?_
  obtain ⟨F9, o9, k9⟩ := t9.out
  have s9 := s1.new o9 k9
  refine ⟨⟨(count_load (RowL.own (i := 1) s9 rfl)).1, trivial⟩, ?_⟩
  refine ledger_first.use (hl.mv s9.ch) (by omega) fun w2 hw2 => ?_
  refine ledger_removals.use hw2.isSl (firstN_ok hok) (by omega) fun mid2 es2 G13 hes2 t13 => ?_
  obtain ⟨F13, o13, k13⟩ := t13.out
  have s13 := s9.new o13 k13
  intro i14 f14
  have s14 := s13.row f14 z_map_int64_int
  intro i16 f16
  have s16 := s14.row f16 z_map_int64_int
  refine wg_of (whole_store (c := .map mid1) T_map_int64_int (RowL.own (i := 1) s16 rfl) rfl rfl rfl) ?_
  have s18 := Sp.setRow (j := 1) s16 rfl (.map mid1)
  refine wg_of (whole_store (c := .map mid2) T_map_int64_int (RowL.own (i := 0) s18 rfl) rfl rfl rfl) ?_
  have s19 := Sp.setRow (j := 0) s18 rfl (.map mid2)
  generalize Heap.upd _ _ _ = G19 at s19 ⊢
  have s19 : Sp [] G [RowL i16 (.map mid2), RowL i14 (.map mid1), MapL mid2 (mapE es2), MapL mid1 (mapE es1), RowL i1 (pairW fo fp)] G19 := s19
  refine wv_of (v := pairW 0 0) rfl ?_
  refine wv_of (v := .int .i64 (capB base)) rfl ?_
  refine ledger_wide_plus.use (n := 0) ⟨by decide, by decide, by decide, by decide⟩ (by decide) (capB_amt h) fun u0 l0 G23 c23 hw0 ht0 => ?_
  have s23 := s19.tmp c23
  have ht0 : totW u0 l0 = capB base := by rw [ht0]; unfold totW; omega
  refine newW s23 fun i24 G26 s26 => ?_
  refine ledger_adds.use (hl.isSl.ch' s26.ch) hok (by omega) (test_Spend1 (RowL.own (i := 2) s26 rfl) (MapL.own (i := 4) s26 rfl) hes1) fun x G28 t28 => ?_
  obtain ⟨F28, o28, k28⟩ := t28.out
  have s28 := s26.new o28 k28
  obtain ⟨A, hA⟩ : ∃ A, A = addsL (tSpend1 others fp) mine := ⟨_, rfl⟩
  obtain ⟨B, hB⟩ : ∃ B, B = addsL (tSpend2 mine fo) others := ⟨_, rfl⟩
  have hAl : A.length ≤ 1048576 := by have := addsL_len (tSpend1 others fp) mine; rw [hA]; omega
  have hBl : B.length ≤ 1048576 := by have := addsL_len (tSpend2 mine fo) others; rw [hB]; omega
  have hAa : ∀ a ∈ A, amt a := by rw [hA]; exact addsL_amt
  have hBa : ∀ a ∈ B, amt a := by rw [hB]; exact addsL_amt
  have s28 : Sp [] G [OwnL 1 x (A.map (.int .i64)), RowL i24 (pairW u0 l0), RowL i16 (.map mid2), RowL i14 (.map mid1), MapL mid2 (mapE es2), MapL mid1 (mapE es1), RowL i1 (pairW fo fp)] G28 := by rw [hA]; exact s28
  rw [← hA, ← hB] at hQ
  have alen : ∀ {ps : List LP} {q : Nat} {G' : Heap} {x : AVal} {A : List Int}, Sp [] G ps G' → ps[q]? = some (OwnL 1 x (A.map (.int .i64))) → vlen T G' t_sl_int64 x = some (.int .i64 (A.length : Nat)) := fun sp hq => by
    rw [(OwnL.own sp hq).is.len (i := ti_sl_int64) T_sl_int64 rfl, List.length_map]
  refine wv_of (alen (q := 0) s28 rfl) ?_
  intro R hR
  have loop : ∀ (m j : Nat) (u l : Int) (G' : Heap), A.length - j = m → j ≤ A.length → Wd (j + 1) u l → totW u l = capB base - (A.take j).sum → Sp [] G [OwnL 1 x (A.map (.int .i64)), RowL i24 (pairW u l), RowL i16 (.map mid2), RowL i14 (.map mid1), MapL mid2 (mapE es2), MapL mid1 (mapE es1), RowL i1 (pairW fo fp)] G' →
      R [w, .ptr i16 [] 0, .ptr i24 [] 0, x, .int .i64 (A.length : Int), .int .i64 (j : Int)] G' := by
    intro m
    induction m with
    | zero =>
      intro j u l G' hm hj hw ht sp
      have hjl : j = A.length := by omega
      subst hjl
      rw [List.take_length] at ht
      refine hR _ _ _ _ _ _ _ ?_
      rw [vbin_lss, wv_some, decide_eq_false (by omega), brB_false]
      refine ledger_adds.use (ho.isSl.ch' sp.ch) hok2 (by omega) (test_Spend2 (RowL.own (i := 2) sp rfl) (MapL.own (i := 4) sp rfl) hes2) fun y G47 t47 => ?_
      obtain ⟨F47, o47, k47⟩ := t47.out
      have s47 := sp.new o47 k47
      have s47 : Sp [] G [OwnL 1 y (B.map (.int .i64)), OwnL 1 x (A.map (.int .i64)), RowL i24 (pairW u l), RowL i16 (.map mid2), RowL i14 (.map mid1), MapL mid2 (mapE es2), MapL mid1 (mapE es1), RowL i1 (pairW fo fp)] G47 := by rw [hB]; exact s47
      refine wv_of (alen (q := 0) s47 rfl) ?_
      intro R2 hR2
      have loop2 : ∀ (m j : Nat) (u l : Int) (G' : Heap), B.length - j = m → j ≤ B.length → Wd (A.length + 1 + j) u l → totW u l = capB base - A.sum + (B.take j).sum → Sp [] G [OwnL 1 y (B.map (.int .i64)), OwnL 1 x (A.map (.int .i64)), RowL i24 (pairW u l), RowL i16 (.map mid2), RowL i14 (.map mid1), MapL mid2 (mapE es2), MapL mid1 (mapE es1), RowL i1 (pairW fo fp)] G' →
          R2 [.ptr i24 [] 0, y, .int .i64 (B.length : Int), .int .i64 (j : Int)] G' := by
        intro m
        induction m with
        | zero =>
          intro j u l G' hm hj hw ht sp
          have hjl : j = B.length := by omega
          subst hjl
          rw [List.take_length] at ht
          refine hR2 _ _ _ _ _ ?_
          rw [vbin_lss, wv_some, decide_eq_false (by omega), brB_false]
          refine wv_of (pair_load (RowL.own (i := 2) sp rfl) T_ledger_wide rfl).2.2 ?_
          refine ledger_wide_value.use hw (by omega) fun G65 c65 => ?_
          have s65 := sp.tmp c65
          rw [ht]
          obtain ⟨t, ht'⟩ : ∃ t, t = capB base - A.sum + B.sum := ⟨_, rfl⟩
          rw [← ht'] at hQ ⊢
          refine wv_of (v := .int .i64 (if valueW t < 0 then 0 else valueW t)) rfl ?_
          refine wv_of (v := .int .i64 (cutW t)) (by rw [← clamp_value]; rfl) ?_
          exact hQ _ s65.ch
        | succ m ih =>
          intro j u l G' hm hj hw ht sp
          obtain ⟨a, ha⟩ : ∃ a, B[j]? = some a := ⟨_, List.getElem?_eq_getElem (by omega)⟩
          refine hR2 _ _ _ _ _ ?_
          rw [vbin_lss, wv_some, decide_eq_true (by omega), brB_true]
          obtain ⟨p, e1, e2⟩ := int_at (OwnL.own (i := 0) sp rfl).is ha
          refine wv_of e1 ?_
          refine wv_of e2 ?_
          refine wv_of (pair_load (RowL.own (i := 2) sp rfl) T_ledger_wide rfl).2.2 ?_
          refine ledger_wide_plus.use hw (by omega) (hBa a (List.mem_of_getElem? ha)) fun u' l' G60 c60 hw' ht2 => ?_
          have s60 := sp.tmp c60
          refine wide_store (i := 2) s60 rfl fun G61 s61 => ?_
          rw [vbin_add, i64_in (by omega) (by omega), wv_some]
          exact ih (j + 1) u' l' G61 (by omega) (by omega) hw' (by rw [ht2, ht, sum_take_next ha]; omega) s61
      exact loop2 B.length 0 u l G47 rfl (by omega) hw (by rw [ht]; simp) s47
    | succ m ih =>
      intro j u l G' hm hj hw ht sp
      obtain ⟨a, ha⟩ : ∃ a, A[j]? = some a := ⟨_, List.getElem?_eq_getElem (by omega)⟩
      refine hR _ _ _ _ _ _ _ ?_
      rw [vbin_lss, wv_some, decide_eq_true (by omega), brB_true]
      obtain ⟨p, e1, e2⟩ := int_at (OwnL.own (i := 0) sp rfl).is ha
      refine wv_of e1 ?_
      refine wv_of e2 ?_
      refine wv_of (pair_load (RowL.own (i := 1) sp rfl) T_ledger_wide rfl).2.2 ?_
      refine ledger_wide_minus.use hw (by omega) (hAa a (List.mem_of_getElem? ha)) fun u' l' G60 c60 hw' ht2 => ?_
      have s60 := sp.tmp c60
      refine wide_store (i := 1) s60 rfl fun G61 s61 => ?_
      rw [vbin_add, i64_in (by omega) (by omega), wv_some]
      exact ih (j + 1) u' l' G61 (by omega) (by omega) hw' (by rw [ht2, ht, sum_take_next ha]; omega) s61
  exact loop A.length 0 u0 l0 G28 rfl (by omega) hw0 (by rw [ht0]; simp) s28

end

end Go.Esc.M

/- Own work. Chapter 13: the document's Spendable and Open. -/
set_option linter.unusedSimpArgs false
set_option linter.unusedVariables false
set_option maxRecDepth 20000
namespace Go.Esc.M
open Go Go.Esc

section
variable {F0 : List AId} {G0 G : Heap} {ps : List LP} {Q : AVal → Heap → Prop}

end

end Go.Esc.M

/- Own work. Chapter 13: lists sorted by ID, those of one ID in their order. -/
set_option linter.unusedSimpArgs false
set_option linter.unusedVariables false
set_option maxRecDepth 20000
namespace Go.Esc.M
open Go Go.Esc

/-- Those of each ID in the same order. -/
def StEq (a b : List PenM) : Prop := ∀ k : Int, a.filter (fun p => decide (p.id = k)) = b.filter (fun p => decide (p.id = k))
def SortedP (l : List PenM) : Prop := l.Pairwise fun p q => p.id ≤ q.id
theorem StEq.refl (a : List PenM) : StEq a a := fun _ => rfl
theorem StEq.symm {a b : List PenM} (h : StEq a b) : StEq b a := fun k => (h k).symm
theorem StEq.trans {a b c : List PenM} (h : StEq a b) (h' : StEq b c) : StEq a c := fun k => (h k).trans (h' k)
theorem StEq.mem {a b : List PenM} (h : StEq a b) {p : PenM} : p ∈ a ↔ p ∈ b := by
  have e := h p.id
  constructor
  · intro hp
    have : p ∈ a.filter (fun q => decide (q.id = p.id)) := List.mem_filter.2 ⟨hp, by simp⟩
    rw [e] at this
    exact (List.mem_filter.1 this).1
  · intro hp
    have : p ∈ b.filter (fun q => decide (q.id = p.id)) := List.mem_filter.2 ⟨hp, by simp⟩
    rw [← e] at this
    exact (List.mem_filter.1 this).1
theorem StEq.append {a b c d : List PenM} (h : StEq a b) (h' : StEq c d) : StEq (a ++ c) (b ++ d) := fun k => by rw [List.filter_append, List.filter_append, h k, h' k]
/-- Blocks that share no ID may change places. -/
theorem StEq.swap {a b : List PenM} (h : ∀ p ∈ a, ∀ q ∈ b, p.id ≠ q.id) : StEq (a ++ b) (b ++ a) := by
  intro k
  rw [List.filter_append, List.filter_append]
  by_cases ha : a.filter (fun p => decide (p.id = k)) = []
  · rw [ha, List.nil_append, List.append_nil]
  · have hb : b.filter (fun p => decide (p.id = k)) = [] := by
      rw [List.filter_eq_nil_iff]
      intro q hq hk
      obtain ⟨p, hp⟩ := List.exists_mem_of_ne_nil _ ha
      obtain ⟨h1, h2⟩ := List.mem_filter.1 hp
      have h2 := of_decide_eq_true h2
      have hk := of_decide_eq_true hk
      exact h p h1 q hq (by rw [h2, hk])
    rw [hb, List.nil_append, List.append_nil]
theorem StEq.cons {a b : List PenM} (p : PenM) (h : StEq a b) : StEq (p :: a) (p :: b) := StEq.append (a := [p]) (b := [p]) (StEq.refl _) h

theorem StEq.length {a b : List PenM} (h : StEq a b) : a.length = b.length := by
  have key : ∀ (n : Nat) (a b : List PenM), a.length = n → StEq a b → a.length = b.length := by
    intro n
    induction n with
    | zero =>
      intro a b ha h
      have : a = [] := List.length_eq_zero_iff.1 ha
      subst this
      cases b with
      | nil => rfl
      | cons p b => exact absurd (h.mem.2 (List.mem_cons_self)) (by simp)
    | succ n ih =>
      intro a b ha h
      match a, ha with
      | p :: a, ha =>
        have hp : p ∈ b := h.mem.1 (by simp)
        have hf := h p.id
        rw [List.filter_cons, if_pos (by simp)] at hf
        -- the first of p's ID in b is p
        obtain ⟨u, v, hb, hu⟩ : ∃ u v, b = u ++ p :: v ∧ ∀ q ∈ u, q.id ≠ p.id := by
          have : ∀ b : List PenM, (∃ r, b.filter (fun q => decide (q.id = p.id)) = p :: r) → ∃ u v, b = u ++ p :: v ∧ ∀ q ∈ u, q.id ≠ p.id := by
            intro b
            induction b with
            | nil => rintro ⟨r, hr⟩; cases hr
            | cons x b ihb =>
              rintro ⟨r, hr⟩
              rw [List.filter_cons] at hr
              by_cases hx : x.id = p.id
              · rw [if_pos (by simp [hx])] at hr
                injection hr with h1 h2
                subst h1
                exact ⟨[], b, rfl, by simp⟩
              · rw [if_neg (by simp [hx])] at hr
                obtain ⟨u, v, h1, h2⟩ := ihb ⟨r, hr⟩
                refine ⟨x :: u, v, by rw [h1]; rfl, fun q hq => ?_⟩
                rcases List.mem_cons.1 hq with rfl | hq
                · exact hx
                · exact h2 q hq
          exact this b ⟨_, hf.symm⟩
        have h1 : StEq (u ++ p :: v) (p :: (u ++ v)) := by
          have := StEq.append (StEq.swap (a := u) (b := [p]) (fun q hq r hr => by rw [List.mem_singleton.1 hr]; exact hu q hq)) (StEq.refl v)
          simpa using this
        rw [hb] at h
        have h2 : StEq (p :: a) (p :: (u ++ v)) := h.trans h1
        have h3 : StEq a (u ++ v) := fun k => by
          have e := h2 k
          rw [List.filter_cons, List.filter_cons] at e
          by_cases hk : p.id = k
          · rw [if_pos (by simp [hk]), if_pos (by simp [hk])] at e
            injection e
          · rw [if_neg (by simp [hk]), if_neg (by simp [hk])] at e
            exact e
        have := ih a (u ++ v) (by simpa using ha) h3
        rw [hb]
        simp only [List.length_cons, List.length_append] at this ⊢
        omega
  exact key _ a b rfl h

/-- Sorted, and those of each ID in their order: there is one such list. -/
theorem sorted_one : ∀ {a b : List PenM}, SortedP a → SortedP b → StEq a b → a = b
  | [], b, _, _, h => by
    have := h.length
    exact (List.length_eq_zero_iff.1 this.symm).symm
  | p :: a, [], _, _, h => by
    have := h.length
    simp at this
  | p :: a, q :: b, ha, hb, h => by
    have ha' := List.pairwise_cons.1 ha
    have hb' := List.pairwise_cons.1 hb
    have hpq : p.id = q.id := by
      have h1 : p ∈ q :: b := h.mem.1 (by simp)
      have h2 : q ∈ p :: a := h.mem.2 (by simp)
      have e1 : q.id ≤ p.id := by
        rcases List.mem_cons.1 h1 with rfl | h1
        · exact Int.le_refl _
        · exact hb'.1 p h1
      have e2 : p.id ≤ q.id := by
        rcases List.mem_cons.1 h2 with rfl | h2
        · exact Int.le_refl _
        · exact ha'.1 q h2
      omega
    have hf := h p.id
    rw [List.filter_cons, List.filter_cons, if_pos (by simp), if_pos (by simp [hpq])] at hf
    injection hf with h1 _
    subst h1
    have h3 : StEq a b := fun k => by
      have e := h k
      rw [List.filter_cons, List.filter_cons] at e
      by_cases hk : p.id = k
      · rw [if_pos (by simp [hk]), if_pos (by simp [hk])] at e
        injection e
      · rw [if_neg (by simp [hk]), if_neg (by simp [hk])] at e
        exact e
    rw [sorted_one ha'.2 hb'.2 h3]

/-- The document's: one more, behind those of its ID. -/
def placedP : List PenM → PenM → List PenM
  | [], p => [p]
  | q :: l, p => if p.id < q.id then p :: q :: l else q :: placedP l p
def sortP (l : List PenM) : List PenM := l.foldl placedP []
theorem placed_st (p : PenM) : ∀ {l : List PenM}, SortedP l → StEq (placedP l p) (l ++ [p]) ∧ SortedP (placedP l p)
  | [], _ => ⟨StEq.refl _, by simp [placedP, SortedP]⟩
  | q :: l, h => by
    have h' := List.pairwise_cons.1 h
    have ih := placed_st p h'.2
    unfold placedP
    by_cases hlt : p.id < q.id
    · rw [if_pos hlt]
      refine ⟨?_, List.pairwise_cons.2 ⟨fun x hx => ?_, h⟩⟩
      · have := StEq.swap (a := [p]) (b := q :: l) (fun x hx y hy => by
          rw [List.mem_singleton.1 hx]
          rcases List.mem_cons.1 hy with rfl | hy
          · omega
          · have := h'.1 y hy; omega)
        exact this
      · rcases List.mem_cons.1 hx with rfl | hx
        · omega
        · have := h'.1 x hx; omega
    · rw [if_neg hlt]
      refine ⟨StEq.cons q ih.1, List.pairwise_cons.2 ⟨fun x hx => ?_, ih.2⟩⟩
      have := ih.1.mem.1 hx
      rcases List.mem_append.1 this with hx | hx
      · exact h'.1 x hx
      · rw [List.mem_singleton.1 hx]; omega
theorem sort_st (l : List PenM) : StEq (sortP l) l ∧ SortedP (sortP l) := by
  have : ∀ (l acc : List PenM), SortedP acc → StEq (l.foldl placedP acc) (acc ++ l) ∧ SortedP (l.foldl placedP acc) := by
    intro l
    induction l with
    | nil => intro acc h; exact ⟨by simpa using StEq.refl acc, h⟩
    | cons p l ih =>
      intro acc h
      obtain ⟨h1, h2⟩ := placed_st p h
      obtain ⟨h3, h4⟩ := ih (placedP acc p) h2
      refine ⟨?_, h4⟩
      have := h3.trans (StEq.append h1 (StEq.refl l))
      simpa using this
  have := this l [] (by simp [SortedP])
  rw [List.nil_append] at this
  exact this
/-- What is sorted and keeps each ID's order is this. -/
theorem sort_is {l s : List PenM} (h1 : StEq s l) (h2 : SortedP s) : s = sortP l := sorted_one h2 (sort_st l).2 (h1.trans (sort_st l).1.symm)

end Go.Esc.M

/- Own work. Chapter 13: the sort: comparing, swapping neighbours, insertion. -/
set_option linter.unusedSimpArgs false
set_option linter.unusedVariables false
set_option maxRecDepth 20000
namespace Go.Esc.M
open Go Go.Esc

def cmpI (a b : Int) : Int := if a < b then -1 else if b < a then 1 else 0
theorem cmpI_neg {a b : Int} : decide (cmpI a b < 0) = decide (a < b) := by
  unfold cmpI
  by_cases h : a < b
  · rw [if_pos h, decide_eq_true h]; rfl
  · rw [if_neg h, decide_eq_false h]
    split <;> rfl
theorem swap_at (A B : List PenM) (u p : PenM) : ((A ++ u :: p :: B).set (A.length + 1) u).set A.length p = A ++ p :: u :: B := by
  rw [List.set_append_right _ _ (by omega), Nat.add_sub_cancel_left, List.set_append_right _ _ (by omega), Nat.sub_self]
  rfl
theorem get_at (A B : List PenM) (u : PenM) : (A ++ u :: B)[A.length]? = some u := by
  rw [List.getElem?_append_right (by omega), Nat.sub_self]
  rfl

section
variable {F0 : List AId} {G0 G : Heap} {ps : List LP} {Q : AVal → Heap → Prop}

theorem cmp_isNaN_int64.use {a : Int} (hQ : Q (.bool false) G) : ACalls P cmp_isNaN_int64.n [.int .i64 a] G Q := by
  refine cmp_isNaN_int64.sound ?_
  unfold cmp_isNaN_int64.S
  rw [nz0, wv_some]
  exact hQ
theorem cmp_Compare_int64.use {a b : Int} (hQ : Q (.int .i64 (cmpI a b)) G) : ACalls P cmp_Compare_int64.n [.int .i64 a, .int .i64 b] G Q := by
  refine cmp_Compare_int64.sound ?_
  unfold cmp_Compare_int64.S
  refine cmp_isNaN_int64.use ?_
  refine cmp_isNaN_int64.use ?_
  rw [brB_false, brB_false]
  unfold cmpI at hQ
  rw [vbin_lss, wv_some, brB_dec]
  refine ⟨fun h => by rwa [if_pos h] at hQ, fun h => ?_⟩
  rw [if_neg h] at hQ
  rw [vbin_gtr, wv_some, brB_dec]
  refine ⟨fun h2 => by rwa [if_pos (by omega)] at hQ, fun h2 => by rwa [if_neg (by omega)] at hQ⟩
theorem ledger_part_1.use {p q : PenM} (hp : p.ok) (hq : q.ok) (hQ : ∀ G', Ch [] G [] G' → Q (.int .i64 (cmpI p.id q.id)) G') : ACalls P ledger_part_1.n [p.av, q.av] G Q := by
  refine ledger_part_1.sound ?_
  unfold ledger_part_1.S
  intro i1 f1
  have s1 := (Sp.nil G).row f1 p.av
  intro i3 f3
  have s3 := s1.row f3 q.av
  have hQ := hQ _ s3.ch
  refine wv_of (PenM.fld hp (RowL.own (i := 1) s3 rfl)).2.1 ?_
  refine wv_of (PenM.fld hq (RowL.own (i := 0) s3 rfl)).2.1 ?_
  exact cmp_Compare_int64.use hQ

def cmpF : AVal := .func (.func ledger_part_1.n) [] []
theorem cmp_call {p q : PenM} {K : AVal → Heap → Prop} (hp : p.ok) (hq : q.ok) (hK : ∀ G', Ch [] G [] G' → K (.int .i64 (cmpI p.id q.id)) G') : aCallV P cmpF [p.av, q.av] G K := ledger_part_1.use hp hq hK

theorem pen_atx {v : AVal} {l : List PenM} {j : Nat} {p : PenM} {x : Int} (h : IsSl 35 G v (l.map PenM.av)) (hx : x = (j : Int)) (hj : l[j]? = some p) : ∃ a, viaddr T t_sl_api_Pending v (.int .i64 x) = some a ∧ vload T G t_api_Pending a = some p.av := by
  subst hx
  exact h.at_ (k := .i64) (i := ti_sl_api_Pending) (ie := ti_api_Pending) (T := T) (t := t_sl_api_Pending) (e := t_api_Pending) T_sl_api_Pending rfl T_api_Pending (by rw [List.getElem?_map, hj]; rfl) rfl
theorem pen_put {i j : Nat} {v : AVal} {l : List PenM} {p : PenM} {x : Int} (hx : x = (j : Int)) (hs : Sp F0 G0 ps G) (hi : ps[i]? = some (OwnL 35 v (l.map PenM.av))) (hj : j < l.length) (hp : p.ok) :
    ∃ a, viaddr T t_sl_api_Pending v (.int .i64 x) = some a ∧ ∀ K : Heap → Prop, (∀ G', Sp F0 G0 (ps.set i (OwnL 35 v ((l.set j p).map PenM.av))) G' → K G') → wg (vstore T G t_api_Pending a p.av) K := by
  subst hx
  exact pen_set hs hi hj hp

/-- Two neighbours change places. -/
theorem pen_swap {v : AVal} {A B : List PenM} {u p : PenM} {y z : Int} {K : Heap → Prop} (hu : u.ok) (hp : p.ok) (hy : y = (A.length : Int)) (hz : z = ((A.length + 1 : Nat) : Int)) (hs : Sp F0 G0 (OwnL 35 v ((A ++ u :: p :: B).map PenM.av) :: ps) G)
    (hK : ∀ G', Sp F0 G0 (OwnL 35 v ((A ++ p :: u :: B).map PenM.av) :: ps) G' → K G') :
    wv (viaddr T t_sl_api_Pending v (.int .i64 y)) fun v31 => wv (vload T G t_api_Pending v31) fun v32 => wv (viaddr T t_sl_api_Pending v (.int .i64 z)) fun v33 => wv (vload T G t_api_Pending v33) fun v34 => wv (viaddr T t_sl_api_Pending v (.int .i64 z)) fun v35 => wg (vstore T G t_api_Pending v35 v32) fun G36 => wv (viaddr T t_sl_api_Pending v (.int .i64 y)) fun v37 => wg (vstore T G36 t_api_Pending v37 v34) K := by
  have hsl := (OwnL.own (i := 0) hs rfl).is
  have g1 : (A ++ u :: p :: B)[A.length]? = some u := get_at A (p :: B) u
  have g2 : (A ++ u :: p :: B)[A.length + 1]? = some p := by
    rw [List.getElem?_append_right (by omega), Nat.add_sub_cancel_left]
    rfl
  obtain ⟨a, e1, e2⟩ := pen_atx hsl hy g1
  refine wv_of e1 ?_
  refine wv_of e2 ?_
  obtain ⟨b, e3, e4⟩ := pen_atx hsl hz g2
  refine wv_of e3 ?_
  refine wv_of e4 ?_
  obtain ⟨c, e5, e6⟩ := pen_put (i := 0) (p := u) hz hs rfl (by simp) hu
  refine wv_of e5 ?_
  refine e6 _ fun G36 s36 => ?_
  have s36 : Sp F0 G0 (OwnL 35 v (((A ++ u :: p :: B).set (A.length + 1) u).map PenM.av) :: ps) G36 := s36
  obtain ⟨d, e7, e8⟩ := pen_put (i := 0) (p := p) hy s36 rfl (by simp) hp
  refine wv_of e7 ?_
  refine e8 _ fun G38 s38 => ?_
  have s38 : Sp F0 G0 (OwnL 35 v ((((A ++ u :: p :: B).set (A.length + 1) u).set A.length p).map PenM.av) :: ps) G38 := s38
  rw [swap_at] at s38
  exact hK _ s38

set_option maxHeartbeats 2000000 in
theorem insertion.use {v : AVal} {X S Y : List PenM} {a b : Int} (hok : ∀ p ∈ X ++ S ++ Y, p.ok) (hlen : (X ++ S ++ Y).length ≤ 2000000000000) (ha : a = (X.length : Int)) (hb : b = ((X.length + S.length : Nat) : Int)) (hs : Sp F0 G0 (OwnL 35 v ((X ++ S ++ Y).map PenM.av) :: ps) G)
    (hQ : ∀ S' G', StEq S' S → SortedP S' → Sp F0 G0 (OwnL 35 v ((X ++ S' ++ Y).map PenM.av) :: ps) G' → Q (.tuple []) G') :
    ACalls P slices_insertionSortCmpFunc_escrow_api_Pending.n [v, .int .i64 a, .int .i64 b, cmpF] G Q := by
  refine slices_insertionSortCmpFunc_escrow_api_Pending.sound ?_
  unfold slices_insertionSortCmpFunc_escrow_api_Pending.S
  subst ha hb
  simp only [List.length_append] at hlen
  rw [vbin_add, i64_in (by omega) (by omega), wv_some]
  intro R hR
  have loop : ∀ (m j : Nat) (S0 T0 : List PenM) (G' : Heap), S.length - j = m → (j ≤ S.length ∨ j = 1) → S0.length = min j S.length → StEq (S0 ++ T0) S → SortedP S0 → Sp F0 G0 (OwnL 35 v ((X ++ (S0 ++ T0) ++ Y).map PenM.av) :: ps) G' →
      R [v, .int .i64 (X.length : Int), .int .i64 ((X.length + S.length : Nat) : Int), cmpF, .int .i64 ((X.length + j : Nat) : Int)] G' := by
    intro m
    induction m with
    | zero =>
      intro j S0 T0 G' hm hj hl0 hst hso sp
      refine hR _ _ _ _ _ _ ?_
      rw [vbin_lss, wv_some, decide_eq_false (by omega), brB_false]
      have hlen2 := hst.length
      rw [List.length_append] at hlen2
      have : T0 = [] := List.length_eq_zero_iff.1 (by omega)
      subst this
      rw [List.append_nil] at hst sp
      exact hQ _ _ hst hso sp
    | succ m ih =>
      intro j S0 T0 G' hm hj hl0 hst hso sp
      have hlen2 := hst.length
      rw [List.length_append] at hlen2
      refine hR _ _ _ _ _ _ ?_
      rw [vbin_lss, wv_some, decide_eq_true (by omega), brB_true]
      cases T0 with
      | nil =>
        exfalso
        rw [List.length_nil] at hlen2
        omega
      | cons p T1 =>
        have hmem : ∀ q, q ∈ S0 ++ p :: T1 → q.ok := fun q hq => hok q (by
          have := hst.mem.1 hq
          simp [this])
        have hpo := hmem p (by simp)
        intro R2 hR2
        have inner : ∀ (n : Nat) (U V : List PenM) (G' : Heap), U.length = n → U ++ V = S0 → (∀ q ∈ V, p.id < q.id) → Sp F0 G0 (OwnL 35 v ((X ++ (U ++ p :: V ++ T1) ++ Y).map PenM.av) :: ps) G' →
            R2 [v, .int .i64 (X.length : Int), .int .i64 ((X.length + S.length : Nat) : Int), cmpF, .int .i64 ((X.length + j : Nat) : Int), .int .i64 ((X.length + U.length : Nat) : Int)] G' := by
          intro n
          induction n with
          | zero =>
            intro U V G' hU hUV hV sp
            have : U = [] := List.length_eq_zero_iff.1 hU
            subst this
            refine hR2 _ _ _ _ _ _ _ ?_
            intro J40
            rw [vbin_gtr, wv_some, decide_eq_false (by simp), brB_false]
            simp -zeta only [J40, brB_false]
            rw [vbin_add, i64_in (by omega) (by omega), wv_some]
            have hVS : V = S0 := by simpa using hUV
            refine ih (j + 1) (p :: V) T1 G' (by omega) (by omega) ?_ ?_ ?_ ?_
            · rw [List.length_cons, hVS, hl0]; simp at hlen2; omega
            · refine StEq.trans ?_ hst
              have := StEq.append (StEq.swap (a := [p]) (b := V) (fun x hx y hy => by rw [List.mem_singleton.1 hx]; have := hV y hy; omega)) (StEq.refl T1)
              rw [hVS] at this ⊢
              simpa using this
            · exact List.pairwise_cons.2 ⟨fun q hq => by have := hV q hq; omega, by rw [hVS]; exact hso⟩
            · simpa using sp
          | succ n ihn =>
            intro U V G' hU hUV hV sp
            obtain ⟨W, u, rfl⟩ : ∃ W u, U = W ++ [u] := ⟨U.dropLast, U.getLast (by intro h; rw [h] at hU; simp at hU), (List.dropLast_concat_getLast _).symm⟩
            have huo : u.ok := hmem u (by rw [← hUV]; simp)
            have hWl : W.length = n := by simpa using hU
            have hUl : (W ++ [u]).length = W.length + 1 := by simp
            have e0 : X ++ (W ++ [u] ++ p :: V ++ T1) ++ Y = (X ++ W) ++ u :: p :: (V ++ T1 ++ Y) := by simp
            rw [e0] at sp
            have hsl := (OwnL.own (i := 0) sp rfl).is
            have g1 : ((X ++ W) ++ u :: p :: (V ++ T1 ++ Y))[X.length + W.length]? = some u := by
              have := get_at (X ++ W) (p :: (V ++ T1 ++ Y)) u
              rwa [List.length_append] at this
            have g2 : ((X ++ W) ++ u :: p :: (V ++ T1 ++ Y))[X.length + W.length + 1]? = some p := by
              rw [List.getElem?_append_right (by rw [List.length_append]; omega), List.length_append, Nat.add_sub_cancel_left]
              rfl
            rw [hUl]
            have hjw : W.length + 1 ≤ S.length := by
              have := congrArg List.length hUV
              simp at this
              omega
            refine hR2 _ _ _ _ _ _ _ ?_
            intro J40
            rw [vbin_gtr, wv_some, decide_eq_true (by omega), brB_true]
            obtain ⟨c1, e1, e2⟩ := pen_atx (x := ((X.length + (W.length + 1) : Nat) : Int)) hsl (by omega) g2
            refine wv_of e1 ?_
            refine wv_of e2 ?_
            rw [vbin_sub, i64_in (by omega) (by omega), wv_some]
            obtain ⟨c2, e3, e4⟩ := pen_atx (x := ((X.length + (W.length + 1) : Nat) : Int) - 1) hsl (by omega) g1
            refine wv_of e3 ?_
            refine wv_of e4 ?_
            refine cmp_call hpo huo fun G25 c25 => ?_
            have s25 := sp.tmp c25
            rw [vbin_lss, wv_some, cmpI_neg]
            by_cases hlt : p.id < u.id
            · rw [decide_eq_true hlt]
              simp -zeta only [J40, brB_true]
              rw [vbin_sub, i64_in (by omega) (by omega), wv_some, wv_some]
              refine pen_swap (A := X ++ W) (B := V ++ T1 ++ Y) huo hpo (by rw [List.length_append]; omega) (by rw [List.length_append]; omega) s25 fun G38 s38 => ?_
              rw [wv_some]
              have e5 : (X ++ W) ++ p :: u :: (V ++ T1 ++ Y) = X ++ (W ++ p :: (u :: V) ++ T1) ++ Y := by simp
              rw [e5] at s38
              have := ihn W (u :: V) G38 hWl (by rw [← hUV]; simp) (fun q hq => by
                rcases List.mem_cons.1 hq with rfl | hq
                · exact hlt
                · exact hV q hq) s38
              have e6 : ((X.length + (W.length + 1) : Nat) : Int) - 1 = ((X.length + W.length : Nat) : Int) := by omega
              rw [e6]
              exact this
            · rw [decide_eq_false hlt]
              simp -zeta only [J40, brB_false]
              rw [vbin_add, i64_in (by omega) (by omega), wv_some]
              have e5 : (X ++ W) ++ u :: p :: (V ++ T1 ++ Y) = X ++ ((W ++ [u] ++ p :: V) ++ T1) ++ Y := by simp
              rw [e5] at s25
              have hs0 : SortedP (W ++ [u] ++ V) := by rw [hUV]; exact hso
              have hWu : ∀ q ∈ W ++ [u], q.id ≤ u.id := by
                intro q hq
                rcases List.mem_append.1 hq with hq | hq
                · unfold SortedP at hs0
                  rw [List.append_assoc, List.pairwise_append] at hs0
                  exact hs0.2.2 q hq u (by simp)
                · rw [List.mem_singleton.1 hq]; exact Int.le_refl _
              refine ih (j + 1) (W ++ [u] ++ p :: V) T1 G25 (by omega) (by omega) ?_ ?_ ?_ s25
              · have := congrArg List.length hUV
                simp at this hlen2 ⊢
                omega
              · refine StEq.trans ?_ hst
                have := StEq.append (StEq.refl (W ++ [u])) (StEq.append (StEq.swap (a := [p]) (b := V) (fun x hx y hy => by rw [List.mem_singleton.1 hx]; have := hV y hy; omega)) (StEq.refl T1))
                rw [← hUV]
                simpa using this
              · unfold SortedP at hs0 ⊢
                rw [List.pairwise_append] at hs0 ⊢
                refine ⟨hs0.1, List.pairwise_cons.2 ⟨fun q hq => by have := hV q hq; omega, hs0.2.1⟩, fun x hx y hy => ?_⟩
                rcases List.mem_cons.1 hy with rfl | hy
                · have := hWu x hx; omega
                · exact hs0.2.2 x hx y hy
        have := inner S0.length S0 [] G' rfl (by simp) (by simp) (by simpa using sp)
        have ej : ((X.length + j : Nat) : Int) = ((X.length + S0.length : Nat) : Int) := by rw [hl0]; simp at hlen2; omega
        rw [ej] at this ⊢
        exact this
  have e1 : ((X.length : Int) + 1) = ((X.length + 1 : Nat) : Int) := by omega
  rw [e1]
  cases S with
  | nil => exact loop 0 1 [] [] G rfl (by simp) (by simp) (StEq.refl _) (by simp [SortedP]) hs
  | cons p S => exact loop S.length 1 [p] S G (by simp) (by simp) (by simp) (StEq.refl _) (by simp [SortedP]) (by simpa using hs)

end

end Go.Esc.M

/- Own work. Chapter 13: the sort: blocks swapped, blocks rotated. -/
set_option linter.unusedSimpArgs false
set_option linter.unusedVariables false
set_option maxRecDepth 20000
namespace Go.Esc.M
open Go Go.Esc

theorem swap_far (A B C : List PenM) (u v : PenM) : ((A ++ u :: (B ++ v :: C)).set A.length v).set (A.length + (B.length + 1)) u = A ++ v :: (B ++ u :: C) := by
  rw [List.set_append_right _ _ (by omega), Nat.sub_self, List.set_cons_zero, List.set_append_right _ _ (by omega), Nat.add_sub_cancel_left, List.set_cons_succ, List.set_append_right _ _ (by omega), Nat.sub_self, List.set_cons_zero]

section
variable {F0 : List AId} {G0 G : Heap} {ps : List LP} {Q : AVal → Heap → Prop}

set_option maxHeartbeats 1000000 in
theorem swapRange.use {v : AVal} {X U M V Y : List PenM} {a b n : Int} {f : AVal} (hok : ∀ p ∈ X ++ (U ++ (M ++ (V ++ Y))), p.ok) (hlen : (X ++ (U ++ (M ++ (V ++ Y)))).length ≤ 2000000000000) (hUV : U.length = V.length) (ha : a = (X.length : Int)) (hb : b = ((X.length + (U.length + M.length) : Nat) : Int)) (hn : n = (U.length : Int))
    (hs : Sp F0 G0 (OwnL 35 v ((X ++ (U ++ (M ++ (V ++ Y)))).map PenM.av) :: ps) G)
    (hQ : ∀ G', Sp F0 G0 (OwnL 35 v ((X ++ (V ++ (M ++ (U ++ Y)))).map PenM.av) :: ps) G' → Q (.tuple []) G') :
    ACalls P slices_swapRangeCmpFunc_escrow_api_Pending.n [v, .int .i64 a, .int .i64 b, .int .i64 n, f] G Q := by
  refine slices_swapRangeCmpFunc_escrow_api_Pending.sound ?_
  unfold slices_swapRangeCmpFunc_escrow_api_Pending.S
  subst ha hb hn
  simp only [List.length_append] at hlen
  intro R hR
  have loop : ∀ (U2 V2 U1 V1 : List PenM) (G' : Heap), U = U1 ++ U2 → V = V1 ++ V2 → U2.length = V2.length → Sp F0 G0 (OwnL 35 v ((X ++ ((V1 ++ U2) ++ (M ++ ((U1 ++ V2) ++ Y)))).map PenM.av) :: ps) G' →
      R [v, .int .i64 (X.length : Int), .int .i64 ((X.length + (U.length + M.length) : Nat) : Int), .int .i64 (U.length : Int), .int .i64 (U1.length : Int)] G' := by
    intro U2
    induction U2 with
    | nil =>
      intro V2 U1 V1 G' hU hV hl sp
      have hV2 : V2 = [] := List.length_eq_zero_iff.1 (by simpa using hl.symm)
      subst hV2
      rw [List.append_nil] at hU hV
      subst hU hV
      refine hR _ _ _ _ _ _ ?_
      rw [vbin_lss, wv_some, decide_eq_false (by omega), brB_false]
      refine hQ _ ?_
      simpa using sp
    | cons u U2 ih =>
      intro V2 U1 V1 G' hU hV hl sp
      cases V2 with
      | nil => simp at hl
      | cons w V2 =>
        have hUl := congrArg List.length hU
        have hVl := congrArg List.length hV
        simp only [List.length_append, List.length_cons] at hUl hVl hl
        have huo : u.ok := hok u (by rw [hU]; simp)
        have hwo : w.ok := hok w (by rw [hV]; simp)
        refine hR _ _ _ _ _ _ ?_
        rw [vbin_lss, wv_some, decide_eq_true (by omega), brB_true]
        rw [vbin_add, i64_in (by omega) (by omega), wv_some]
        rw [vbin_add, i64_in (by omega) (by omega), wv_some, wv_some]
        have e0 : X ++ ((V1 ++ u :: U2) ++ (M ++ ((U1 ++ w :: V2) ++ Y))) = (X ++ V1) ++ u :: ((U2 ++ M ++ U1) ++ w :: (V2 ++ Y)) := by simp
        rw [e0] at sp
        have hA : (X ++ V1).length = X.length + U1.length := by rw [List.length_append]; omega
        have hB : (U2 ++ M ++ U1).length = U2.length + M.length + U1.length := by simp; omega
        have hsl := (OwnL.own (i := 0) sp rfl).is
        have g1 := get_at (X ++ V1) ((U2 ++ M ++ U1) ++ w :: (V2 ++ Y)) u
        have g2 : ((X ++ V1) ++ u :: ((U2 ++ M ++ U1) ++ w :: (V2 ++ Y)))[(X ++ V1).length + ((U2 ++ M ++ U1).length + 1)]? = some w := by
          rw [List.getElem?_append_right (by omega), Nat.add_sub_cancel_left, List.getElem?_cons_succ]
          exact get_at (U2 ++ M ++ U1) (V2 ++ Y) w
        obtain ⟨p1, e1, e2⟩ := pen_atx (x := ((X.length + (U.length + M.length) : Nat) : Int) + (U1.length : Int)) hsl (by rw [hA, hB]; omega) g2
        refine wv_of e1 ?_
        refine wv_of e2 ?_
        rw [wv_some]
        obtain ⟨p2, e3, e4⟩ := pen_atx (x := (X.length : Int) + (U1.length : Int)) hsl (by rw [hA]; omega) g1
        refine wv_of e3 ?_
        refine wv_of e4 ?_
        obtain ⟨p3, e5, e6⟩ := pen_put (i := 0) (p := w) (j := (X ++ V1).length) (x := (X.length : Int) + (U1.length : Int)) (by rw [hA]; omega) sp rfl (by simp) hwo
        refine wv_of e5 ?_
        refine e6 _ fun G18 s18 => ?_
        have s18 : Sp F0 G0 (OwnL 35 v ((((X ++ V1) ++ u :: ((U2 ++ M ++ U1) ++ w :: (V2 ++ Y))).set (X ++ V1).length w).map PenM.av) :: ps) G18 := s18
        obtain ⟨p4, e7, e8⟩ := pen_put (i := 0) (p := u) (j := (X ++ V1).length + ((U2 ++ M ++ U1).length + 1)) (x := ((X.length + (U.length + M.length) : Nat) : Int) + (U1.length : Int)) (by rw [hA, hB]; omega) s18 rfl (by simp; omega) huo
        refine wv_of e7 ?_
        refine e8 _ fun G20 s20 => ?_
        have s20 : Sp F0 G0 (OwnL 35 v (((((X ++ V1) ++ u :: ((U2 ++ M ++ U1) ++ w :: (V2 ++ Y))).set (X ++ V1).length w).set ((X ++ V1).length + ((U2 ++ M ++ U1).length + 1)) u).map PenM.av) :: ps) G20 := s20
        rw [swap_far] at s20
        rw [vbin_add, i64_in (by omega) (by omega), wv_some]
        have e9 : (X ++ V1) ++ w :: ((U2 ++ M ++ U1) ++ u :: (V2 ++ Y)) = X ++ (((V1 ++ [w]) ++ U2) ++ (M ++ (((U1 ++ [u]) ++ V2) ++ Y))) := by simp
        rw [e9] at s20
        have := ih V2 (U1 ++ [u]) (V1 ++ [w]) G20 (by rw [hU]; simp) (by rw [hV]; simp) (by omega) s20
        have e10 : ((U1 ++ [u]).length : Int) = (U1.length : Int) + 1 := by simp
        rw [e10] at this
        exact this
  exact loop U V [] [] G rfl rfl hUV (by simpa using hs)

set_option maxHeartbeats 2000000 in
theorem rotate.use {v : AVal} {X U V Y : List PenM} {a m b : Int} {f : AVal} (hok : ∀ p ∈ X ++ (U ++ (V ++ Y)), p.ok) (hlen : (X ++ (U ++ (V ++ Y))).length ≤ 2000000000000) (hU : U ≠ []) (hV : V ≠ []) (ha : a = (X.length : Int)) (hm : m = ((X.length + U.length : Nat) : Int)) (hb : b = ((X.length + U.length + V.length : Nat) : Int))
    (hs : Sp F0 G0 (OwnL 35 v ((X ++ (U ++ (V ++ Y))).map PenM.av) :: ps) G)
    (hQ : ∀ G', Sp F0 G0 (OwnL 35 v ((X ++ (V ++ (U ++ Y))).map PenM.av) :: ps) G' → Q (.tuple []) G') :
    ACalls P slices_rotateCmpFunc_escrow_api_Pending.n [v, .int .i64 a, .int .i64 m, .int .i64 b, f] G Q := by
  refine slices_rotateCmpFunc_escrow_api_Pending.sound ?_
  unfold slices_rotateCmpFunc_escrow_api_Pending.S
  subst ha hm hb
  simp only [List.length_append] at hlen
  have hU1 : 0 < U.length := List.length_pos_iff.2 hU
  have hV1 : 0 < V.length := List.length_pos_iff.2 hV
  rw [vbin_sub, i64_in (by omega) (by omega), wv_some]
  rw [vbin_sub, i64_in (by omega) (by omega), wv_some]
  intro R hR
  have loop : ∀ (n : Nat) (A Pp Rr B : List PenM) (G' : Heap), Pp.length + Rr.length ≤ n → 0 < Pp.length → 0 < Rr.length → A.length + Pp.length = U.length → A ++ (Rr ++ (Pp ++ B)) = V ++ U → (∀ p ∈ A ++ (Pp ++ (Rr ++ B)), p.ok) →
      Sp F0 G0 (OwnL 35 v ((X ++ (A ++ (Pp ++ (Rr ++ (B ++ Y))))).map PenM.av) :: ps) G' → R [v, .int .i64 ((X.length + U.length : Nat) : Int), f, .int .i64 (Pp.length : Int), .int .i64 (Rr.length : Int)] G' := by
    intro n
    induction n with
    | zero => intro A Pp Rr B G' hn h1 h2; omega
    | succ n ih =>
      intro A Pp Rr B G' hn h1 h2 hA ht ho sp
      have htl := congrArg List.length ht
      simp only [List.length_append] at htl
      have hYo : ∀ p ∈ Y, p.ok := fun p hp => hok p (by simp [hp])
      have hXo : ∀ p ∈ X, p.ok := fun p hp => hok p (by simp [hp])
      refine hR _ _ _ _ _ _ ?_
      rw [vbin_neq, wv_some]
      by_cases he : (Pp.length : Int) = (Rr.length : Int)
      · rw [decide_eq_true he, Bool.not_true, brB_false]
        rw [vbin_sub, i64_in (by omega) (by omega), wv_some]
        have e0 : X ++ (A ++ (Pp ++ (Rr ++ (B ++ Y)))) = (X ++ A) ++ (Pp ++ ([] ++ (Rr ++ (B ++ Y)))) := by simp
        rw [e0] at sp
        refine swapRange.use (X := X ++ A) (U := Pp) (M := []) (V := Rr) (Y := B ++ Y) ?_ ?_ (by omega) ?_ ?_ rfl sp fun G30 s30 => ?_
        · intro p hp
          simp only [List.mem_append] at hp ho hXo hYo
          rcases hp with (h | h) | h | h | h | h | h
          · exact hXo p h
          · exact ho p (.inl h)
          · exact ho p (.inr (.inl h))
          · cases h
          · exact ho p (.inr (.inr (.inl h)))
          · exact ho p (.inr (.inr (.inr h)))
          · exact hYo p h
        · simp only [List.length_append, List.length_nil]; omega
        · rw [List.length_append]; omega
        · simp only [List.length_append, List.length_nil]; omega
        · refine hQ _ ?_
          have e1 : (X ++ A) ++ (Rr ++ ([] ++ (Pp ++ (B ++ Y)))) = X ++ ((A ++ (Rr ++ (Pp ++ B))) ++ Y) := by simp
          rw [e1, ht] at s30
          simpa using s30
      · rw [decide_eq_false he, Bool.not_false, brB_true]
        rw [vbin_gtr, wv_some, brB_dec]
        refine ⟨fun hgt => ?_, fun hle => ?_⟩
        · rw [vbin_sub, i64_in (by omega) (by omega), wv_some]
          have hsp : Pp = Pp.take Rr.length ++ Pp.drop Rr.length := (List.take_append_drop _ _).symm
          obtain ⟨P1, hP1⟩ : ∃ x, x = Pp.take Rr.length := ⟨_, rfl⟩
          obtain ⟨P2, hP2⟩ : ∃ x, x = Pp.drop Rr.length := ⟨_, rfl⟩
          rw [← hP1, ← hP2] at hsp
          have hl1 : P1.length = Rr.length := by rw [hP1, List.length_take]; omega
          have hl2 : P2.length = Pp.length - Rr.length := by rw [hP2, List.length_drop]
          have hl3 : Pp.length = P1.length + P2.length := by omega
          have e0 : X ++ (A ++ (Pp ++ (Rr ++ (B ++ Y)))) = (X ++ A) ++ (P1 ++ (P2 ++ (Rr ++ (B ++ Y)))) := by rw [hsp]; simp
          rw [e0] at sp
          rw [hsp] at ho ht
          refine swapRange.use (X := X ++ A) (U := P1) (M := P2) (V := Rr) (Y := B ++ Y) ?_ ?_ hl1 ?_ ?_ (by omega) sp fun G14 s14 => ?_
          · intro p hp
            simp only [List.mem_append] at hp ho hXo hYo
            rcases hp with (h | h) | h | h | h | h | h
            · exact hXo p h
            · exact ho p (.inl h)
            · exact ho p (.inr (.inl (.inl h)))
            · exact ho p (.inr (.inl (.inr h)))
            · exact ho p (.inr (.inr (.inl h)))
            · exact ho p (.inr (.inr (.inr h)))
            · exact hYo p h
          · simp only [List.length_append]; omega
          · rw [List.length_append]; omega
          · simp only [List.length_append]; omega
          · rw [vbin_sub, i64_in (by omega) (by omega), wv_some]
            have e1 : (X ++ A) ++ (Rr ++ (P2 ++ (P1 ++ (B ++ Y)))) = X ++ ((A ++ Rr) ++ (P2 ++ (P1 ++ (B ++ Y)))) := by simp
            rw [e1] at s14
            have := ih (A ++ Rr) P2 P1 B G14 (by omega) (by omega) (by omega) (by rw [List.length_append]; omega) (by rw [← ht]; simp) (by
              intro p hp
              simp only [List.mem_append] at hp ho
              rcases hp with (h | h) | h | h | h
              · exact ho p (.inl h)
              · exact ho p (.inr (.inr (.inl h)))
              · exact ho p (.inr (.inl (.inr h)))
              · exact ho p (.inr (.inl (.inl h)))
              · exact ho p (.inr (.inr (.inr h)))) s14
            have e2 : (Pp.length : Int) - (Rr.length : Int) = (P2.length : Int) := by omega
            rw [e2, ← hl1]
            exact this
        · rw [vbin_sub, i64_in (by omega) (by omega), wv_some]
          rw [vbin_add, i64_in (by omega) (by omega), wv_some]
          rw [vbin_sub, i64_in (by omega) (by omega), wv_some]
          have hsp : Rr = Rr.take (Rr.length - Pp.length) ++ Rr.drop (Rr.length - Pp.length) := (List.take_append_drop _ _).symm
          obtain ⟨R1, hR1⟩ : ∃ x, x = Rr.take (Rr.length - Pp.length) := ⟨_, rfl⟩
          obtain ⟨R2, hR2⟩ : ∃ x, x = Rr.drop (Rr.length - Pp.length) := ⟨_, rfl⟩
          rw [← hR1, ← hR2] at hsp
          have hl1 : R1.length = Rr.length - Pp.length := by rw [hR1, List.length_take]; omega
          have hl2 : R2.length = Pp.length := by rw [hR2, List.length_drop]; omega
          have hl3 : Rr.length = R1.length + R2.length := by omega
          have e0 : X ++ (A ++ (Pp ++ (Rr ++ (B ++ Y)))) = (X ++ A) ++ (Pp ++ (R1 ++ (R2 ++ (B ++ Y)))) := by rw [hsp]; simp
          rw [e0] at sp
          rw [hsp] at ho ht
          refine swapRange.use (X := X ++ A) (U := Pp) (M := R1) (V := R2) (Y := B ++ Y) ?_ ?_ hl2.symm ?_ ?_ rfl sp fun G20 s20 => ?_
          · intro p hp
            simp only [List.mem_append] at hp ho hXo hYo
            rcases hp with (h | h) | h | h | h | h | h
            · exact hXo p h
            · exact ho p (.inl h)
            · exact ho p (.inr (.inl h))
            · exact ho p (.inr (.inr (.inl (.inl h))))
            · exact ho p (.inr (.inr (.inl (.inr h))))
            · exact ho p (.inr (.inr (.inr h)))
            · exact hYo p h
          · simp only [List.length_append]; omega
          · rw [List.length_append]; omega
          · simp only [List.length_append]; omega
          · rw [vbin_sub, i64_in (by omega) (by omega), wv_some]
            have e1 : (X ++ A) ++ (R2 ++ (R1 ++ (Pp ++ (B ++ Y)))) = X ++ (A ++ (R2 ++ (R1 ++ ((Pp ++ B) ++ Y)))) := by simp
            rw [e1] at s20
            have := ih A R2 R1 (Pp ++ B) G20 (by omega) (by omega) (by omega) (by omega) (by rw [← ht]; simp) (by
              intro p hp
              simp only [List.mem_append] at hp ho
              rcases hp with h | h | h | h | h
              · exact ho p (.inl h)
              · exact ho p (.inr (.inr (.inl (.inr h))))
              · exact ho p (.inr (.inr (.inl (.inl h))))
              · exact ho p (.inr (.inl h))
              · exact ho p (.inr (.inr (.inr h)))) s20
            have e2 : (Rr.length : Int) - (Pp.length : Int) = (R1.length : Int) := by omega
            rw [e2, ← hl2]
            exact this
  have e1 : ((X.length + U.length : Nat) : Int) - (X.length : Int) = (U.length : Int) := by omega
  have e2 : ((X.length + U.length + V.length : Nat) : Int) - ((X.length + U.length : Nat) : Int) = (V.length : Int) := by omega
  rw [e1, e2]
  refine loop (U.length + V.length) [] U V [] G (Nat.le_refl _) hU1 hV1 (by simp) (by simp) (fun p hp => hok p (by simp at hp ⊢; rcases hp with h | h <;> simp [h])) (by simpa using hs)

end

end Go.Esc.M
