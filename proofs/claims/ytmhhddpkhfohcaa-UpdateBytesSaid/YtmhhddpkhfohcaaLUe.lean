/- Own work. Chapter 12: finds; adds; UpdateBytes. -/
import Derived.Test.YtmhhddpkhfohcaaLUd
set_option linter.unusedSimpArgs false
set_option linter.unusedVariables false
namespace Go.Esc.M
open Go Go.Esc

def hits (rm : Bool) (id : Int) (u : UpdM) : Bool := decide (u.id = id) && bif rm then decide (u.kind = 2) || decide (u.kind = 3) else decide (u.kind = 1)
def firstU (rm : Bool) (id : Int) (l : List UpdM) : Option UpdM := l.find? (hits rm id)
def optU (o : Option UpdM) : AVal := .tuple [(o.getD UpdM.zero).av, .bool o.isSome]
def addsU (l : List UpdM) : Nat := (l.filter (fun u => decide (u.kind = 1))).length
theorem firstU_ok {rm : Bool} {id : Int} {l : List UpdM} (h : ∀ u ∈ l, u.ok) : ((firstU rm id l).getD UpdM.zero).ok := by
  cases hf : firstU rm id l with
  | none => exact UpdM.zero_ok
  | some u => exact h u (List.mem_of_find?_eq_some hf)
theorem addsU_take {l : List UpdM} {j : Nat} {u : UpdM} (h : l[j]? = some u) : addsU (l.take (j + 1)) = addsU (l.take j) + (if u.kind = 1 then 1 else 0) := by
  rw [List.take_add_one, h]
  unfold addsU
  rw [List.filter_append, List.length_append]
  by_cases hk : u.kind = 1 <;> simp [hk]
theorem addsU_le (l : List UpdM) : addsU l ≤ l.length := List.length_filter_le _ _

section
variable {F0 : List AId} {G0 G : Heap} {ps : List LP} {Q : AVal → Heap → Prop}

theorem upd_at {v : AVal} {l : List UpdM} {j : Nat} {u : UpdM} (h : IsSl 36 G v (l.map UpdM.av)) (hj : l[j]? = some u) : ∃ a, viaddr T t_sl_api_Update v (.int .i64 (j : Int)) = some a ∧ vload T G t_api_Update a = some u.av :=
  h.at_ (k := .i64) (i := ti_sl_api_Update) (ie := ti_api_Update) (T := T) (t := t_sl_api_Update) (e := t_api_Update) T_sl_api_Update rfl T_api_Update (by rw [List.getElem?_map, hj]; rfl) rfl
theorem upd_len {v : AVal} {l : List UpdM} (h : IsSl 36 G v (l.map UpdM.av)) : vlen T G t_sl_api_Update v = some (.int .i64 (l.length : Nat)) := by
  rw [h.len (i := ti_sl_api_Update) T_sl_api_Update rfl, List.length_map]
theorem newU {u : UpdM} {K : AId → Heap → Prop} (hs : Sp F0 G0 ps G) (hu : u.ok) (hK : ∀ i G', Sp F0 G0 (RowL i u.av :: ps) G' → K i G') : aNew G (.own z_api_Update) fun i G2 => wg (vstore T G2 t_api_Update (.ptr i [] 0) u.av) fun G3 => K i G3 :=
  newVal hs T_api_Update (UpdM.fits hu) (by rw [UpdM.sz hu]; rfl) (UpdM.okv u) hK

set_option maxHeartbeats 1000000 in
theorem update_first.use {v : AVal} {l : List UpdM} {id : Int} {rm : Bool} (hl : IsSl 36 G v (l.map UpdM.av)) (hok : ∀ u ∈ l, u.ok) (hlen : l.length ≤ 9223372036854775807) (hQ : ∀ G', Ch [] G [] G' → Q (optU (firstU rm id l)) G') :
    ACalls P update_first.n [v, .int .i64 id, .bool rm] G Q := by
  refine update_first.sound ?_
  unfold update_first.S
  intro i1 f1
  have s1 : Sp [] G [RowL i1 UpdM.zero.av] _ := (Sp.nil G).row f1 UpdM.zero.av
  refine wv_of (upd_len (hl.ch' s1.ch)) ?_
  intro R hR
  have loop : ∀ (n j : Nat) (G' : Heap), l.length - j = n → j ≤ l.length → firstU rm id (l.drop j) = firstU rm id l → Sp [] G [RowL i1 UpdM.zero.av] G' → R [.int .i64 id, .bool rm, .ptr i1 [] 0, v, .int .i64 (l.length : Nat), .int .i64 (j : Int)] G' := by
    intro n
    induction n with
    | zero =>
      intro j G' hn hj he hs
      have : j = l.length := by omega
      subst this
      rw [List.drop_length] at he
      refine hR _ _ _ _ _ _ _ ?_
      rw [vbin_lss, wv_some, brB_dec]
      refine ⟨fun h => absurd h (by omega), fun _ => ?_⟩
      rw [build_none, wv_some]
      refine upd_store (i := 0) hs rfl UpdM.zero_ok UpdM.zero_ok fun G2 s2 => ?_
      refine wv_of (upd_load (i := 0) s2 rfl UpdM.zero_ok).2.2.2.2.2 ?_
      have := hQ _ s2.ch
      rw [← he] at this
      exact this
    | succ n ih =>
      intro j G' hn hj he hs
      obtain ⟨u, hu⟩ : ∃ u, l[j]? = some u := ⟨_, List.getElem?_eq_getElem (by omega)⟩
      have huo := hok u (List.mem_of_getElem? hu)
      obtain ⟨a, ha, hla⟩ := upd_at (hl.ch' hs.ch) hu
      have hdr : l.drop j = u :: l.drop (j + 1) := by
        obtain ⟨hx, rfl⟩ := List.getElem?_eq_some_iff.1 hu
        exact List.drop_eq_getElem_cons hx
      rw [hdr, firstU, List.find?_cons] at he
      refine hR _ _ _ _ _ _ _ ?_
      rw [vbin_lss, wv_some, brB_dec]
      refine ⟨fun _ => ?_, fun h => absurd (by omega) h⟩
      rw [ha, wv_some, hla, wv_some]
      refine newU hs huo fun i15 G17 s17 => ?_
      obtain ⟨l0, l1, _⟩ := upd_load (i := 0) s17 rfl huo
      intro J36
      have yes : hits rm id u = true → J36 (.bool true) G17 := by
        intro h
        rw [h] at he
        simp -zeta only [J36, brB_true]
        refine wv_of (upd_load (i := 0) s17 rfl huo).2.2.2.2.2 ?_
        refine upd_store (i := 1) s17 rfl UpdM.zero_ok huo fun G2 s2 => ?_
        refine wv_of (upd_load (i := 1) s2 rfl huo).2.2.2.2.2 ?_
        have := hQ _ s2.ch
        rw [← he] at this
        exact this
      have no : hits rm id u = false → J36 (.bool false) G17 := by
        intro h
        rw [h] at he
        simp -zeta only [J36, brB_false]
        rw [vbin_add, wv_some, i64_in (by omega) (by omega)]
        exact ih (j + 1) G17 (by omega) (by omega) he (s17.erase 0)
      unfold hits at yes no
      rw [l1, wv_some, vbin_eql, wv_some, brB_dec]
      refine ⟨fun hid => ?_, fun hid => no (by rw [decide_eq_false hid, Bool.false_and])⟩
      rw [decide_eq_true hid, Bool.true_and] at yes no
      cases rm with
      | false =>
        rw [cond_false] at yes no
        rw [vun_not, wv_some, Bool.not_false, brB_true, l0, wv_some, vbin_eql, wv_some, brB_dec]
        refine ⟨fun hk => yes (decide_eq_true hk), fun hk => ?_⟩
        rw [brB_false]
        exact no (decide_eq_false hk)
      | true =>
        rw [cond_true] at yes no
        rw [vun_not, wv_some, Bool.not_true, brB_false, brB_true, l0, wv_some, vbin_eql, wv_some, brB_dec]
        refine ⟨fun hk => yes (by rw [decide_eq_true hk, Bool.true_or]), fun hk => ?_⟩
        rw [decide_eq_false hk, Bool.false_or] at yes no
        rw [wv_some, vbin_eql, wv_some]
        by_cases h3 : u.kind = 3
        · rw [decide_eq_true h3]; exact yes (decide_eq_true h3)
        · rw [decide_eq_false h3]; exact no (decide_eq_false h3)
  exact loop _ 0 _ rfl (by omega) (by simp) s1

theorem opt0 (o : Option UpdM) : vextract (optU o) 0 = some (o.getD UpdM.zero).av := rfl
theorem opt1 (o : Option UpdM) : vextract (optU o) 1 = some (.bool o.isSome) := rfl

theorem update_Find.use {v : AVal} {l : List UpdM} {id : Int} (hl : IsSl 36 G v (l.map UpdM.av)) (hok : ∀ u ∈ l, u.ok) (hlen : l.length ≤ 9223372036854775807) (hQ : ∀ G', Ch [] G [] G' → Q (optU (firstU false id l)) G') :
    ACalls P update_Find.n [v, .int .i64 id] G Q := by
  refine update_Find.sound ?_
  unfold update_Find.S
  intro i1 f1
  have s1 : Sp [] G [RowL i1 UpdM.zero.av] _ := (Sp.nil G).row f1 UpdM.zero.av
  refine update_first.use (hl.ch' s1.ch) hok hlen fun G4 c4 => ?_
  have s4 := s1.tmp c4
  have hf := firstU_ok (rm := false) (id := id) hok
  rw [opt0, wv_some, opt1, wv_some]
  refine upd_store (i := 0) s4 rfl UpdM.zero_ok hf fun G2 s2 => ?_
  refine wv_of (upd_load (i := 0) s2 rfl hf).2.2.2.2.2 ?_
  exact hQ _ s2.ch
theorem update_Removal.use {v : AVal} {l : List UpdM} {id : Int} (hl : IsSl 36 G v (l.map UpdM.av)) (hok : ∀ u ∈ l, u.ok) (hlen : l.length ≤ 9223372036854775807) (hQ : ∀ G', Ch [] G [] G' → Q (optU (firstU true id l)) G') :
    ACalls P update_Removal.n [v, .int .i64 id] G Q := by
  refine update_Removal.sound ?_
  unfold update_Removal.S
  intro i1 f1
  have s1 : Sp [] G [RowL i1 UpdM.zero.av] _ := (Sp.nil G).row f1 UpdM.zero.av
  refine update_first.use (hl.ch' s1.ch) hok hlen fun G4 c4 => ?_
  have s4 := s1.tmp c4
  have hf := firstU_ok (rm := true) (id := id) hok
  rw [opt0, wv_some, opt1, wv_some]
  refine upd_store (i := 0) s4 rfl UpdM.zero_ok hf fun G2 s2 => ?_
  refine wv_of (upd_load (i := 0) s2 rfl hf).2.2.2.2.2 ?_
  exact hQ _ s2.ch

theorem update_adds.use {v : AVal} {l : List UpdM} (hl : IsSl 36 G v (l.map UpdM.av)) (hok : ∀ u ∈ l, u.ok) (hlen : l.length ≤ 9223372036854775807) (hQ : ∀ G', Ch [] G [] G' → Q (.int .i64 (addsU l : Nat)) G') :
    ACalls P update_adds.n [v] G Q := by
  refine update_adds.sound ?_
  unfold update_adds.S
  refine wv_of (upd_len hl) ?_
  intro R hR
  have loop : ∀ (n j : Nat) (G' : Heap), l.length - j = n → j ≤ l.length → Sp [] G [] G' → R [.int .i64 (addsU (l.take j) : Nat), v, .int .i64 (l.length : Nat), .int .i64 (j : Int)] G' := by
    intro n
    induction n with
    | zero =>
      intro j G' hn hj hs
      have : j = l.length := by omega
      subst this
      refine hR _ _ _ _ _ ?_
      rw [vbin_lss, wv_some, brB_dec]
      refine ⟨fun h => absurd h (by omega), fun _ => ?_⟩
      rw [List.take_length]
      exact hQ _ hs.ch
    | succ n ih =>
      intro j G' hn hj hs
      obtain ⟨u, hu⟩ : ∃ u, l[j]? = some u := ⟨_, List.getElem?_eq_getElem (by omega)⟩
      have huo := hok u (List.mem_of_getElem? hu)
      obtain ⟨a, ha, hla⟩ := upd_at (hl.ch' hs.ch) hu
      have ht := addsU_take hu
      have hle := addsU_le (l.take j)
      have hlj : (l.take j).length ≤ j := List.length_take_le _ _
      refine hR _ _ _ _ _ ?_
      rw [vbin_lss, wv_some, brB_dec]
      refine ⟨fun _ => ?_, fun h => absurd (by omega) h⟩
      rw [ha, wv_some, hla, wv_some]
      refine newU hs huo fun i11 G13 s13 => ?_
      refine wv_of (upd_load (i := 0) s13 rfl huo).1 ?_
      rw [vbin_eql, wv_some, brB_dec]
      refine ⟨fun hk => ?_, fun hk => ?_⟩
      · rw [if_pos hk] at ht
        rw [vbin_add, wv_some, i64_in (by omega) (by omega), vbin_add, wv_some, i64_in (by omega) (by omega), show ((addsU (l.take j) : Nat) : Int) + 1 = ((addsU (l.take (j + 1)) : Nat) : Int) by omega]
        exact ih (j + 1) G13 (by omega) (by omega) (s13.erase 0)
      · rw [if_neg hk] at ht
        rw [vbin_add, wv_some, i64_in (by omega) (by omega), show addsU (l.take j) = addsU (l.take (j + 1)) by omega]
        exact ih (j + 1) G13 (by omega) (by omega) (s13.erase 0)
  exact loop _ 0 G rfl (by omega) (Sp.nil G)

/-- May an update stand behind a list? Where no sum is asked for. -/
def nextA (mine : List UpdM) (u : UpdM) : Int := if 2048 ≤ mine.length then 6 else if validU u = false then 120 else if u.id = (addsU mine : Nat) then 0 else 120
theorem update_Next.useA {v w : AVal} {mine : List UpdM} {u : UpdM} (hl : IsSl 36 G v (mine.map UpdM.av)) (hok : ∀ u ∈ mine, u.ok) (hlen : mine.length ≤ 9223372036854775807) (hu : u.ok) (hk : u.kind = 1 ∨ validU u = false ∨ 2048 ≤ mine.length) (hQ : ∀ G', Ch [] G [] G' → Q (.int .i64 (nextA mine u)) G') :
    ACalls P update_Next.n [v, w, u.av] G Q := by
  refine update_Next.sound ?_
  unfold update_Next.S
  intro i1 f1
  have s1 := (Sp.nil G).row f1 u.av
  refine wv_of (upd_len (hl.ch' s1.ch)) ?_
  unfold nextA at hQ
  rw [vbin_geq, wv_some, brB_dec]
  refine ⟨fun h => ?_, fun h => ?_⟩
  · rw [if_pos (by omega)] at hQ
    exact hQ _ s1.ch
  rw [if_neg (by omega)] at hQ
  refine wv_of (upd_load (i := 0) s1 rfl hu).2.2.2.2.2 ?_
  refine update_Valid.use hu fun G7 c7 => ?_
  have s7 := s1.tmp c7
  rw [vun_not, wv_some]
  cases hv : validU u with
  | false =>
    rw [if_pos hv] at hQ
    exact hQ _ s7.ch
  | true =>
    rw [if_neg (by rw [hv]; decide)] at hQ
    rw [Bool.not_true, brB_false]
    have hk1 : u.kind = 1 := by
      rcases hk with h | h' | h'
      · exact h
      · rw [hv] at h'; cases h'
      · omega
    refine wv_of (upd_load (i := 0) s7 rfl hu).1 ?_
    rw [vbin_eql, wv_some, decide_eq_true hk1, brB_true]
    refine wv_of (upd_load (i := 0) s7 rfl hu).2.1 ?_
    refine update_adds.use (hl.ch' s7.ch) hok hlen fun G13 c13 => ?_
    have s13 := s7.tmp c13
    refine ⟨⟨(upd_load (i := 0) s13 rfl hu).2.1, trivial⟩, ?_⟩
    rw [vbin_neq, wv_some, brB_ndec]
    exact ⟨fun h => by rw [if_neg h] at hQ; exact hQ _ s13.ch, fun h => by rw [if_pos h] at hQ; exact hQ _ s13.ch⟩

end
end Go.Esc.M
