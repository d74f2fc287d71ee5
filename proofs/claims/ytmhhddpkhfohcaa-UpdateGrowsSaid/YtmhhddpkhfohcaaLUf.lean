import Derived.Test.YtmhhddpkhfohcaaLUd
import Derived.Test.YtmhhddpkhfohcaaLDd
/- Own work. Chapter 12: finds; adds; UpdateBytes. -/
set_option linter.unusedSimpArgs false
set_option linter.unusedVariables false
namespace Go.Esc.M
open Go Go.Esc

def hits (rm : Bool) (id : Int) (u : UpdM) : Bool := decide (u.id = id) && bif rm then decide (u.kind = 2) || decide (u.kind = 3) else decide (u.kind = 1)
def firstU (rm : Bool) (id : Int) (l : List UpdM) : Option UpdM := l.find? (hits rm id)
def optU (o : Option UpdM) : AVal := .tuple [(o.getD UpdM.zero).av, .bool o.isSome]
def addsU (l : List UpdM) : Nat := (l.filter (fun u => decide (u.kind = 1))).length
theorem firstU_ok {rm : Bool} {id : Int} {l : List UpdM} (h : ∀ u ∈ l, u.ok) : ((firstU rm id l).getD UpdM.zero).ok := by
  cases hf : firstU rm id l with
  | none => exact UpdM.zero_ok
  | some u => exact h u (List.mem_of_find?_eq_some hf)
theorem addsU_take {l : List UpdM} {j : Nat} {u : UpdM} (h : l[j]? = some u) : addsU (l.take (j + 1)) = addsU (l.take j) + (if u.kind = 1 then 1 else 0) := by
  rw [List.take_add_one, h]
  unfold addsU
  rw [List.filter_append, List.length_append]
  by_cases hk : u.kind = 1 <;> simp [hk]
theorem addsU_le (l : List UpdM) : addsU l ≤ l.length := List.length_filter_le _ _

section
variable {F0 : List AId} {G0 G : Heap} {ps : List LP} {Q : AVal → Heap → Prop}

theorem upd_at {v : AVal} {l : List UpdM} {j : Nat} {u : UpdM} (h : IsSl 36 G v (l.map UpdM.av)) (hj : l[j]? = some u) : ∃ a, viaddr T t_sl_api_Update v (.int .i64 (j : Int)) = some a ∧ vload T G t_api_Update a = some u.av :=
  h.at_ (k := .i64) (i := ti_sl_api_Update) (ie := ti_api_Update) (T := T) (t := t_sl_api_Update) (e := t_api_Update) T_sl_api_Update rfl T_api_Update (by rw [List.getElem?_map, hj]; rfl) rfl
theorem upd_len {v : AVal} {l : List UpdM} (h : IsSl 36 G v (l.map UpdM.av)) : vlen T G t_sl_api_Update v = some (.int .i64 (l.length : Nat)) := by
  rw [h.len (i := ti_sl_api_Update) T_sl_api_Update rfl, List.length_map]
theorem newU {u : UpdM} {K : AId → Heap → Prop} (hs : Sp F0 G0 ps G) (hu : u.ok) (hK : ∀ i G', Sp F0 G0 (RowL i u.av :: ps) G' → K i G') : aNew G (.own z_api_Update) fun i G2 => wg (vstore T G2 t_api_Update (.ptr i [] 0) u.av) fun G3 => K i G3 :=
  newVal hs T_api_Update (UpdM.fits hu) (by rw [UpdM.sz hu]; rfl) (UpdM.okv u) hK

set_option maxHeartbeats 1000000 in
theorem update_first.use {v : AVal} {l : List UpdM} {id : Int} {rm : Bool} (hl : IsSl 36 G v (l.map UpdM.av)) (hok : ∀ u ∈ l, u.ok) (hlen : l.length ≤ 9223372036854775807) (hQ : ∀ G', Ch [] G [] G' → Q (optU (firstU rm id l)) G') :
    ACalls P update_first.n [v, .int .i64 id, .bool rm] G Q := by
  refine update_first.sound ?_
  unfold update_first.S
  intro i1 f1
  have s1 : Sp [] G [RowL i1 UpdM.zero.av] _ := (Sp.nil G).row f1 UpdM.zero.av
  refine wv_of (upd_len (hl.ch' s1.ch)) ?_
  intro R hR
  have loop : ∀ (n j : Nat) (G' : Heap), l.length - j = n → j ≤ l.length → firstU rm id (l.drop j) = firstU rm id l → Sp [] G [RowL i1 UpdM.zero.av] G' → R [.int .i64 id, .bool rm, .ptr i1 [] 0, v, .int .i64 (l.length : Nat), .int .i64 (j : Int)] G' := by
    intro n
    induction n with
    | zero =>
      intro j G' hn hj he hs
      have : j = l.length := by omega
      subst this
      rw [List.drop_length] at he
      refine hR _ _ _ _ _ _ _ ?_
      rw [vbin_lss, wv_some, brB_dec]
      refine ⟨fun h => absurd h (by omega), fun _ => ?_⟩
      rw [build_none, wv_some]
      refine upd_store (i := 0) hs rfl UpdM.zero_ok UpdM.zero_ok fun G2 s2 => ?_
      refine wv_of (upd_load (i := 0) s2 rfl UpdM.zero_ok).2.2.2.2.2 ?_
      have := hQ _ s2.ch
      rw [← he] at this
      exact this
    | succ n ih =>
      intro j G' hn hj he hs
      obtain ⟨u, hu⟩ : ∃ u, l[j]? = some u := ⟨_, List.getElem?_eq_getElem (by omega)⟩
      have huo := hok u (List.mem_of_getElem? hu)
      obtain ⟨a, ha, hla⟩ := upd_at (hl.ch' hs.ch) hu
      have hdr : l.drop j = u :: l.drop (j + 1) := by
        obtain ⟨hx, rfl⟩ := List.getElem?_eq_some_iff.1 hu
        exact List.drop_eq_getElem_cons hx
      rw [hdr, firstU, List.find?_cons] at he
      refine hR _ _ _ _ _ _ _ ?_
      rw [vbin_lss, wv_some, brB_dec]
      refine ⟨fun _ => ?_, fun h => absurd (by omega) h⟩
      rw [ha, wv_some, hla, wv_some]
      refine newU hs huo fun i15 G17 s17 => ?_
      obtain ⟨l0, l1, _⟩ := upd_load (i := 0) s17 rfl huo
      intro J36
      have yes : hits rm id u = true → J36 (.bool true) G17 := by
        intro h
        rw [h] at he
        simp -zeta only [J36, brB_true]
        refine wv_of (upd_load (i := 0) s17 rfl huo).2.2.2.2.2 ?_
        refine upd_store (i := 1) s17 rfl UpdM.zero_ok huo fun G2 s2 => ?_
        refine wv_of (upd_load (i := 1) s2 rfl huo).2.2.2.2.2 ?_
        have := hQ _ s2.ch
        rw [← he] at this
        exact this
      have no : hits rm id u = false → J36 (.bool false) G17 := by
        intro h
        rw [h] at he
        simp -zeta only [J36, brB_false]
        rw [vbin_add, wv_some, i64_in (by omega) (by omega)]
        exact ih (j + 1) G17 (by omega) (by omega) he (s17.erase 0)
      unfold hits at yes no
      rw [l1, wv_some, vbin_eql, wv_some, brB_dec]
      refine ⟨fun hid => ?_, fun hid => no (by rw [decide_eq_false hid, Bool.false_and])⟩
      rw [decide_eq_true hid, Bool.true_and] at yes no
      cases rm with
      | false =>
        rw [cond_false] at yes no
        rw [vun_not, wv_some, Bool.not_false, brB_true, l0, wv_some, vbin_eql, wv_some, brB_dec]
        refine ⟨fun hk => yes (decide_eq_true hk), fun hk => ?_⟩
        rw [brB_false]
        exact no (decide_eq_false hk)
      | true =>
        rw [cond_true] at yes no
        rw [vun_not, wv_some, Bool.not_true, brB_false, brB_true, l0, wv_some, vbin_eql, wv_some, brB_dec]
        refine ⟨fun hk => yes (by rw [decide_eq_true hk, Bool.true_or]), fun hk => ?_⟩
        rw [decide_eq_false hk, Bool.false_or] at yes no
        rw [wv_some, vbin_eql, wv_some]
        by_cases h3 : u.kind = 3
        · rw [decide_eq_true h3]; exact yes (decide_eq_true h3)
        · rw [decide_eq_false h3]; exact no (decide_eq_false h3)
  exact loop _ 0 _ rfl (by omega) (by simp) s1

theorem opt0 (o : Option UpdM) : vextract (optU o) 0 = some (o.getD UpdM.zero).av := rfl
theorem opt1 (o : Option UpdM) : vextract (optU o) 1 = some (.bool o.isSome) := rfl

theorem update_Find.use {v : AVal} {l : List UpdM} {id : Int} (hl : IsSl 36 G v (l.map UpdM.av)) (hok : ∀ u ∈ l, u.ok) (hlen : l.length ≤ 9223372036854775807) (hQ : ∀ G', Ch [] G [] G' → Q (optU (firstU false id l)) G') :
    ACalls P update_Find.n [v, .int .i64 id] G Q := by
  refine update_Find.sound ?_
  unfold update_Find.S
  intro i1 f1
  have s1 : Sp [] G [RowL i1 UpdM.zero.av] _ := (Sp.nil G).row f1 UpdM.zero.av
  refine update_first.use (hl.ch' s1.ch) hok hlen fun G4 c4 => ?_
  have s4 := s1.tmp c4
  have hf := firstU_ok (rm := false) (id := id) hok
  rw [opt0, wv_some, opt1, wv_some]
  refine upd_store (i := 0) s4 rfl UpdM.zero_ok hf fun G2 s2 => ?_
  refine wv_of (upd_load (i := 0) s2 rfl hf).2.2.2.2.2 ?_
  exact hQ _ s2.ch
theorem update_Removal.use {v : AVal} {l : List UpdM} {id : Int} (hl : IsSl 36 G v (l.map UpdM.av)) (hok : ∀ u ∈ l, u.ok) (hlen : l.length ≤ 9223372036854775807) (hQ : ∀ G', Ch [] G [] G' → Q (optU (firstU true id l)) G') :
    ACalls P update_Removal.n [v, .int .i64 id] G Q := by
  refine update_Removal.sound ?_
  unfold update_Removal.S
  intro i1 f1
  have s1 : Sp [] G [RowL i1 UpdM.zero.av] _ := (Sp.nil G).row f1 UpdM.zero.av
  refine update_first.use (hl.ch' s1.ch) hok hlen fun G4 c4 => ?_
  have s4 := s1.tmp c4
  have hf := firstU_ok (rm := true) (id := id) hok
  rw [opt0, wv_some, opt1, wv_some]
  refine upd_store (i := 0) s4 rfl UpdM.zero_ok hf fun G2 s2 => ?_
  refine wv_of (upd_load (i := 0) s2 rfl hf).2.2.2.2.2 ?_
  exact hQ _ s2.ch

theorem update_adds.use {v : AVal} {l : List UpdM} (hl : IsSl 36 G v (l.map UpdM.av)) (hok : ∀ u ∈ l, u.ok) (hlen : l.length ≤ 9223372036854775807) (hQ : ∀ G', Ch [] G [] G' → Q (.int .i64 (addsU l : Nat)) G') :
    ACalls P update_adds.n [v] G Q := by
  refine update_adds.sound ?_
  unfold update_adds.S
  refine wv_of (upd_len hl) ?_
  intro R hR
  have loop : ∀ (n j : Nat) (G' : Heap), l.length - j = n → j ≤ l.length → Sp [] G [] G' → R [.int .i64 (addsU (l.take j) : Nat), v, .int .i64 (l.length : Nat), .int .i64 (j : Int)] G' := by
    intro n
    induction n with
    | zero =>
      intro j G' hn hj hs
      have : j = l.length := by omega
      subst this
      refine hR _ _ _ _ _ ?_
      rw [vbin_lss, wv_some, brB_dec]
      refine ⟨fun h => absurd h (by omega), fun _ => ?_⟩
      rw [List.take_length]
      exact hQ _ hs.ch
    | succ n ih =>
      intro j G' hn hj hs
      obtain ⟨u, hu⟩ : ∃ u, l[j]? = some u := ⟨_, List.getElem?_eq_getElem (by omega)⟩
      have huo := hok u (List.mem_of_getElem? hu)
      obtain ⟨a, ha, hla⟩ := upd_at (hl.ch' hs.ch) hu
      have ht := addsU_take hu
      have hle := addsU_le (l.take j)
      have hlj : (l.take j).length ≤ j := List.length_take_le _ _
      refine hR _ _ _ _ _ ?_
      rw [vbin_lss, wv_some, brB_dec]
      refine ⟨fun _ => ?_, fun h => absurd (by omega) h⟩
      rw [ha, wv_some, hla, wv_some]
      refine newU hs huo fun i11 G13 s13 => ?_
      refine wv_of (upd_load (i := 0) s13 rfl huo).1 ?_
      rw [vbin_eql, wv_some, brB_dec]
      refine ⟨fun hk => ?_, fun hk => ?_⟩
      · rw [if_pos hk] at ht
        rw [vbin_add, wv_some, i64_in (by omega) (by omega), vbin_add, wv_some, i64_in (by omega) (by omega), show ((addsU (l.take j) : Nat) : Int) + 1 = ((addsU (l.take (j + 1)) : Nat) : Int) by omega]
        exact ih (j + 1) G13 (by omega) (by omega) (s13.erase 0)
      · rw [if_neg hk] at ht
        rw [vbin_add, wv_some, i64_in (by omega) (by omega), show addsU (l.take j) = addsU (l.take (j + 1)) by omega]
        exact ih (j + 1) G13 (by omega) (by omega) (s13.erase 0)
  exact loop _ 0 G rfl (by omega) (Sp.nil G)

/-- May an update stand behind a list? Where no sum is asked for. -/
def nextA (mine : List UpdM) (u : UpdM) : Int := if 2048 ≤ mine.length then 6 else if validU u = false then 120 else if u.id = (addsU mine : Nat) then 0 else 120
theorem update_Next.useA {v w : AVal} {mine : List UpdM} {u : UpdM} (hl : IsSl 36 G v (mine.map UpdM.av)) (hok : ∀ u ∈ mine, u.ok) (hlen : mine.length ≤ 9223372036854775807) (hu : u.ok) (hk : u.kind = 1 ∨ validU u = false ∨ 2048 ≤ mine.length) (hQ : ∀ G', Ch [] G [] G' → Q (.int .i64 (nextA mine u)) G') :
    ACalls P update_Next.n [v, w, u.av] G Q := by
  refine update_Next.sound ?_
  unfold update_Next.S
  intro i1 f1
  have s1 := (Sp.nil G).row f1 u.av
  refine wv_of (upd_len (hl.ch' s1.ch)) ?_
  unfold nextA at hQ
  rw [vbin_geq, wv_some, brB_dec]
  refine ⟨fun h => ?_, fun h => ?_⟩
  · rw [if_pos (by omega)] at hQ
    exact hQ _ s1.ch
  rw [if_neg (by omega)] at hQ
  refine wv_of (upd_load (i := 0) s1 rfl hu).2.2.2.2.2 ?_
  refine update_Valid.use hu fun G7 c7 => ?_
  have s7 := s1.tmp c7
  rw [vun_not, wv_some]
  cases hv : validU u with
  | false =>
    rw [if_pos hv] at hQ
    exact hQ _ s7.ch
  | true =>
    rw [if_neg (by rw [hv]; decide)] at hQ
    rw [Bool.not_true, brB_false]
    have hk1 : u.kind = 1 := by
      rcases hk with h | h' | h'
      · exact h
      · rw [hv] at h'; cases h'
      · omega
    refine wv_of (upd_load (i := 0) s7 rfl hu).1 ?_
    rw [vbin_eql, wv_some, decide_eq_true hk1, brB_true]
    refine wv_of (upd_load (i := 0) s7 rfl hu).2.1 ?_
    refine update_adds.use (hl.ch' s7.ch) hok hlen fun G13 c13 => ?_
    have s13 := s7.tmp c13
    refine ⟨⟨(upd_load (i := 0) s13 rfl hu).2.1, trivial⟩, ?_⟩
    rw [vbin_neq, wv_some, brB_ndec]
    exact ⟨fun h => by rw [if_neg h] at hQ; exact hQ _ s13.ch, fun h => by rw [if_pos h] at hQ; exact hQ _ s13.ch⟩

end
end Go.Esc.M

/- Own work. Chapter 12: the document's examples; UpdateBytes. -/
set_option linter.unusedSimpArgs false
set_option linter.unusedVariables false
namespace Go.Esc.M
open Go Go.Esc

theorem eqF_upd {p p' : UpdM} (h : p.ok) (h' : p'.ok) : eqF T (veqD T 8) [(t_int, 0), (t_int64, 1), (t_int64, 2), (t_api_Hash, 3), (t_string, 35)] p.cs p'.cs 0 = some (decide (p = p')) := by
  have z1 := fits_hash h.hash
  have z2 := fits_hash h'.hash
  have q2 : ∀ m n : Int, veqD T 8 t_int64 (.int .i64 m) (.int .i64 n) = some (decide (m = n)) := fun m n => by
    rw [veqD]; simp only [T_int64]; rfl
  have q1 : ∀ m n : Int, veqD T 8 t_int (.int .i64 m) (.int .i64 n) = some (decide (m = n)) := fun m n => by
    rw [veqD]; simp only [T_int]; rfl
  have q4 : ∀ m n : List UInt8, veqD T 8 t_string (.str m) (.str n) = some (decide (m = n)) := fun m n => by
    rw [veqD]; simp only [T_string]; rfl
  have v1 : ∀ m : Int, vfits ti_int (.int .i64 m) = true := fun m => rfl
  have v2 : ∀ m : Int, vfits ti_int64 (.int .i64 m) = true := fun m => rfl
  have v4 : ∀ m : List UInt8, vfits ti_string (.str m) = true := fun m => rfl
  have s1 : ti_int.size = 1 := rfl
  have s2 : ti_int64.size = 1 := rfl
  have s3 : ti_api_Hash.size = 32 := rfl
  have q3 := veq_hash h.hash h'.hash
  obtain ⟨a, b, c, d, e⟩ := p
  obtain ⟨a', b', c', d', e'⟩ := p'
  dsimp only at z1 z2 q3
  simp only [UpdM.cs, eqF, T_int, T_int64, T_api_Hash, T_string, v1, v2, v4, z1, z2, s1, s2, s3, Nat.zero_add, q1, q2, q3, q4, beq_self_eq_true, Bool.and_self, Nat.reduceAdd, if_true]
  by_cases h1 : a = a'
  · subst h1
    by_cases h2 : b = b'
    · subst h2
      by_cases h3 : c = c'
      · subst h3
        by_cases h4 : d = d'
        · subst h4
          by_cases h5 : e = e'
          · subst h5; simp
          · simp [h5]
        · simp [h4]
      · simp [h3]
    · simp [h2]
  · simp [h1]

theorem veq_upd {p p' : UpdM} (h : p.ok) (h' : p'.ok) : veqD T 9 t_api_Update p.av p'.av = some (decide (p = p')) := by
  rw [← eqF_upd h h', veqD]
  have e1 : ti_api_Update.desc = .struct [(t_int, 0), (t_int64, 1), (t_int64, 2), (t_api_Hash, 3), (t_string, 35)] := rfl
  simp only [T_api_Update, e1]
  rfl
theorem vbin_ueql {p p' : UpdM} (h : p.ok) (h' : p'.ok) : vbin T .eql t_api_Update p.av p'.av = some (.bool (decide (p = p'))) := by
  have := veq_upd h h'
  unfold UpdM.av at this ⊢
  simp only [vbin, this]
theorem vbin_uneq {p p' : UpdM} (h : p.ok) (h' : p'.ok) : vbin T .neq t_api_Update p.av p'.av = some (.bool (!decide (p = p'))) := by
  have := veq_upd h h'
  unfold UpdM.av at this ⊢
  simp only [vbin, this]

theorem readU_ok {b : List UInt8} (hb : b.length ≤ 9223372036854775807) : (readU b).1.ok := by
  have hz := UpdM.zero_ok
  have ho : ∀ u n, u.ok → (okU u n).1.ok := fun u n h => by
    unfold okU
    cases validU u
    · exact hz
    · exact h
  have hid : I64 (idU b) := i64_small (by unfold idU; omega) (by have := num2_lt (b := b) (a := 1); unfold idU; omega)
  unfold readU
  split
  · exact hz
  split
  · split
    · exact hz
    · exact ho _ _ (mkok ⟨by decide, by decide⟩ hid (hw64 _) (length_slice (by omega)) (by decide : (0 : Nat) ≤ 9223372036854775807))
  split
  · split
    · exact hz
    · exact ho _ _ (mkok ⟨by decide, by decide⟩ hid i64_0 (length_slice (by omega)) (by decide : (0 : Nat) ≤ 9223372036854775807))
  split
  · split
    · exact hz
    split
    · exact hz
    split
    · exact hz
    · exact ho _ _ (mkok ⟨by decide, by decide⟩ hid i64_0 rfl (by rw [length_slice (by omega)]; omega))
  · exact hz

def uA : UpdM := ⟨3, 5, 0, h0, [110, 111]⟩
def uB : UpdM := ⟨1, 0, 7, h0, []⟩
theorem uA_ok : uA.ok := ⟨⟨by decide, by decide⟩, ⟨by decide, by decide⟩, ⟨by decide, by decide⟩, rfl, by decide⟩
theorem uB_ok : uB.ok := ⟨⟨by decide, by decide⟩, ⟨by decide, by decide⟩, ⟨by decide, by decide⟩, rfl, by decide⟩
theorem tup0 (x : UpdM × Int × Int) : vextract (tupU x) 0 = some x.1.av := rfl
theorem tup1 (x : UpdM × Int × Int) : vextract (tupU x) 1 = some (.int .i64 x.2.1) := rfl
theorem tup2 (x : UpdM × Int × Int) : vextract (tupU x) 2 = some (.int .i64 x.2.2) := rfl

section
variable {F0 : List AId} {G0 G : Heap} {ps : List LP} {Q : AVal → Heap → Prop}

theorem nz0 {t : TypeId} {k : IntKind} {n : Int} : vbin T .neq t (.int k n) (.int k n) = some (.bool false) := by rw [vbin_neq, decide_eq_true rfl]; rfl
theorem ez0 {t : TypeId} {k : IntKind} {n : Int} : vbin T .eql t (.int k n) (.int k n) = some (.bool true) := by rw [vbin_eql, decide_eq_true rfl]

set_option maxHeartbeats 2000000 in
theorem escrowlaw12_head.use (hQ : ∀ G', Ch [] G [] G' → Q (.bool true) G') : ACalls P escrowlaw12_head.n [] G Q := by
  refine escrowlaw12_head.sound ?_
  unfold escrowlaw12_head.S
  rw [zUpd]
  refine wv_of (v := uA.av) rfl ?_
  refine update_Write.use uA_ok fun G3 c3 => ?_
  have hw : writeR uA = ([3, 0, 5, 0, 2, 110, 111], 0) := by decide
  rw [hw, vext0, wv_some, vext1, wv_some]
  have s3 := (Sp.nil G).tmp c3
  refine update_Read.use (by decide) fun G7 c7 => ?_
  have hr : readU [3, 0, 5, 0, 2, 110, 111, 33] = (uA, 7, 0) := by decide
  rw [hr, tup0, wv_some, tup1, wv_some, tup2, wv_some]
  have s7 := s3.tmp c7
  intro i11 f11
  have s11 := s7.row f11 UpdM.zero.av
  refine upd_store (i := 0) s11 rfl UpdM.zero_ok uA_ok fun G13 s13 => ?_
  refine update_Read.use (by decide) fun G15 c15 => ?_
  have hr2 : readU [3, 0, 5, 0, 65] = (UpdM.zero, 0, 120) := by decide
  rw [hr2, tup0, wv_some, tup1, wv_some, tup2, wv_some]
  have s15 := s13.tmp c15
  intro i19 f19
  have s19 := s15.row f19 UpdM.zero.av
  refine upd_store (i := 0) s19 rfl UpdM.zero_ok UpdM.zero_ok fun G21 s21 => ?_
  refine wv_of (v := uB.av) rfl ?_
  intro i23 f23
  have s23 := s21.row f23 UpdM.zero.av
  refine upd_store (i := 0) s23 rfl UpdM.zero_ok uB_ok fun G25 s25 => ?_
  have s25 : Sp [] G [RowL i23 uB.av, RowL i19 UpdM.zero.av, RowL i11 uA.av] G25 := s25
  intro J76
  have h76 : J76 (.bool false) G25 := by
    simp -zeta only [J76, brB_false]
    refine wv_of (upd_load (i := 0) s25 rfl uB_ok).2.2.2.2.2 ?_
    have one : ∀ {ps : List LP} {G' : Heap} {K : AVal → Heap → Prop}, Sp [] G ps G' → (∀ v G2, Sp [] G (OwnL 36 v ([uB].map UpdM.av) :: ps) G2 → K v G2) → aBuildSlice T t_sl_api_Update 1 [(0, uB.av)] G' K := fun hs hK =>
      buildV (T := T) (ts := t_sl_api_Update) (e := t_api_Update) (si := ti_sl_api_Update) (ie := ti_api_Update) T_sl_api_Update rfl T_api_Update rfl hs (UpdM.sz uB_ok) (by decide) hK
    have hok1 : ∀ u ∈ [uB], u.ok := fun u hu => by rw [List.mem_singleton.1 hu]; exact uB_ok
    refine one s25 fun v37 G38 s38 => ?_
    refine update_Find.use (OwnL.own (i := 0) s38 rfl).is hok1 (by decide) fun G40 c40 => ?_
    have s40 := s38.tmp c40
    have hf : firstU false 0 [uB] = some uB := by decide
    rw [hf, opt0, wv_some, opt1, wv_some]
    intro i43 f43
    have s43 := s40.row f43 UpdM.zero.av
    refine upd_store (i := 0) (u' := uB) s43 rfl UpdM.zero_ok uB_ok fun G45 s45 => ?_
    refine wv_of (upd_load (i := 2) s45 rfl uB_ok).2.2.2.2.2 ?_
    refine one s45 fun v47 G48 s48 => ?_
    refine update_Removal.use (OwnL.own (i := 0) s48 rfl).is hok1 (by decide) fun G50 c50 => ?_
    have s50 := s48.tmp c50
    have hf : firstU true 0 [uB] = none := by decide
    rw [hf, opt0, wv_some, opt1, wv_some]
    intro i53 f53
    have s53 := s50.row f53 UpdM.zero.av
    refine upd_store (i := 0) (u' := UpdM.zero) s53 rfl UpdM.zero_ok UpdM.zero_ok fun G55 s55 => ?_
    have s55 : Sp [] G [RowL i53 UpdM.zero.av, OwnL 36 v47 ([uB].map UpdM.av), RowL i43 uB.av, OwnL 36 v37 ([uB].map UpdM.av), RowL i23 uB.av, RowL i19 UpdM.zero.av, RowL i11 uA.av] G55 := s55
    refine wv_of (upd_load (i := 4) s55 rfl uB_ok).2.2.2.2.2 ?_
    refine update_Valid.use uB_ok fun G58 c58 => ?_
    have s58 := s55.tmp c58
    have hvB : validU uB = true := by decide
    rw [hvB, brB_true]
    refine wv_of (upd_load (i := 2) s58 rfl uB_ok).2.2.2.2.2 ?_
    refine wv_of (upd_load (i := 4) s58 rfl uB_ok).2.2.2.2.2 ?_
    rw [vbin_ueql uB_ok uB_ok, wv_some, decide_eq_true rfl, brB_true, Option.isSome_some, brB_true, Option.isSome_none, vun_not, wv_some, Bool.not_false, brB_true]
    refine wv_of (upd_load (i := 4) s58 rfl uB_ok).2.2.2.2.2 ?_
    refine update_Next.useA (mine := []) (.inr ⟨rfl, rfl⟩) (by simp) (by decide) uB_ok (.inl rfl) fun G65 c65 => ?_
    have s65 := s58.tmp c65
    have hn : nextA [] uB = 0 := by decide
    rw [hn, ez0, wv_some, brB_true]
    refine wv_of (upd_load (i := 4) s65 rfl uB_ok).2.2.2.2.2 ?_
    refine one s65 fun v68 G69 s69 => ?_
    refine wv_of (upd_load (i := 5) s69 rfl uB_ok).2.2.2.2.2 ?_
    refine update_Next.useA (mine := [uB]) (OwnL.own (i := 0) s69 rfl).is hok1 (by decide) uB_ok (.inl rfl) fun G72 c72 => ?_
    have hn : nextA [uB] uB = 120 := by decide
    rw [hn, ez0, wv_some]
    exact hQ _ (s69.tmp c72).ch
  rw [vbin_sneq, wv_some, decide_eq_true rfl, Bool.not_true, brB_false]
  first | rw [nz0, wv_some, brB_false] | rw [wv_some, brB_false]
  refine wv_of (upd_load (i := 2) s25 rfl uA_ok).2.2.2.2.2 ?_
  refine wv_of (v := uA.av) rfl ?_
  rw [vbin_uneq uA_ok uA_ok, wv_some, decide_eq_true rfl, Bool.not_true, brB_false]
  first | rw [nz0, wv_some, brB_false] | rw [wv_some, brB_false]
  first | rw [nz0, wv_some, brB_false] | rw [wv_some, brB_false]
  first | rw [nz0, wv_some] | rw [wv_some]
  exact h76

end

set_option maxRecDepth 20000 in
theorem law_UpdateBytes {G : Heap} {u b : AVal} {mu mb : Nat} (hu : wt T G reachBytes 4 t_api_Update u mu) (hb : wt T G reachBytes 4 t_string b mb) :
    ACalls P escrowlaw12_UpdateBytes.n [u, b] G fun v _ => v = .bool true := by
  obtain ⟨u, rfl, huo, _, _⟩ := wt_Upd hu
  obtain ⟨b, rfl, _, hbl, _⟩ := wt_str T_string rfl hb
  unfold maxLen at hbl
  refine escrowlaw12_UpdateBytes.sound ?_
  unfold escrowlaw12_UpdateBytes.S
  rw [zUpd]
  intro i1 f1
  have s1 := (Sp.nil G).row f1 u.av
  refine escrowlaw12_head.use fun G4 c4 => ?_
  have s4 := s1.tmp c4
  rw [vun_not, wv_some, Bool.not_true, brB_false]
  refine wv_of (upd_load (i := 0) s4 rfl huo).2.2.2.2.2 ?_
  refine update_Write.use huo fun G8 c8 => ?_
  have s8 := s4.tmp c8
  rw [vext0, wv_some, vext1, wv_some]
  refine wv_of (upd_load (i := 0) s8 rfl huo).2.2.2.2.2 ?_
  refine escrowref12_Write.use huo fun G13 c13 => ?_
  have s13 := s8.tmp c13
  rw [vext0, wv_some, vext1, wv_some]
  refine update_Read.use hbl fun G17 c17 => ?_
  have s17 := s13.tmp c17
  have hro := readU_ok hbl
  obtain ⟨r, hr⟩ : ∃ r, r = readU b := ⟨_, rfl⟩
  rw [← hr] at hro ⊢
  rw [tup0, wv_some, tup1, wv_some, tup2, wv_some]
  intro i21 f21
  have s21 := s17.row f21 UpdM.zero.av
  refine upd_store (i := 0) s21 rfl UpdM.zero_ok hro fun G23 s23 => ?_
  refine escrowref12_Read.use hbl fun G25 c25 => ?_
  have s25 := s23.tmp c25
  rw [← hr, tup0, wv_some, tup1, wv_some, tup2, wv_some]
  intro i29 f29
  have s29 := s25.row f29 UpdM.zero.av
  refine upd_store (i := 0) s29 rfl UpdM.zero_ok hro fun G31 s31 => ?_
  have s31 : Sp [] G [RowL i29 r.1.av, RowL i21 r.1.av, RowL i1 u.av] G31 := s31
  rw [vbin_seql, wv_some, decide_eq_true rfl, brB_true, ez0, wv_some, brB_true]
  refine wv_of (upd_load (i := 1) s31 rfl hro).2.2.2.2.2 ?_
  refine wv_of (upd_load (i := 0) s31 rfl hro).2.2.2.2.2 ?_
  rw [vbin_ueql hro hro, wv_some, decide_eq_true rfl, brB_true]
  simp -zeta only [ez0, wv_some, brB_true]
  refine wv_of (upd_load (i := 2) s31 rfl huo).2.2.2.2.2 ?_
  refine wv_of (upd_load (i := 2) s31 rfl huo).2.2.2.2.2 ?_
  refine update_Valid.use huo fun G42 c42 => ?_
  have s42 := s31.tmp c42
  refine ⟨⟨(upd_load (i := 2) s42 rfl huo).2.2.2.2.2, trivial⟩, ?_⟩
  refine escrowref12_Valid.use huo fun G44 c44 => ?_
  rw [vbin_beql T_bool rfl, wv_some, beq_self_eq_true]

end Go.Esc.M
