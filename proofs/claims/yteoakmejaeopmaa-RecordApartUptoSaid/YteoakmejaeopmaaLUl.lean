import Derived.Test.YteoakmejaeopmaaLUc
import Derived.Test.YteoakmejaeopmaaLDk
import Derived.Test.YteoakmejaeopmaaLHf
/- Own work. Chapter 12: updates read, in the document. -/
set_option linter.unusedSimpArgs false
set_option linter.unusedVariables false
set_option maxRecDepth 20000
namespace Go.Esc.M
open Go Go.Esc

section
variable {F0 : List AId} {G0 G : Heap} {ps : List LP} {Q : AVal → Heap → Prop}

end
end Go.Esc.M

/- Own work. Chapter 12: finds; adds; UpdateBytes. -/
set_option linter.unusedSimpArgs false
set_option linter.unusedVariables false
set_option maxRecDepth 20000
namespace Go.Esc.M
open Go Go.Esc

def hits (rm : Bool) (id : Int) (u : UpdM) : Bool := decide (u.id = id) && bif rm then decide (u.kind = 2) || decide (u.kind = 3) else decide (u.kind = 1)
def firstU (rm : Bool) (id : Int) (l : List UpdM) : Option UpdM := l.find? (hits rm id)
def optU (o : Option UpdM) : AVal := .tuple [(o.getD UpdM.zero).av, .bool o.isSome]
def addsU (l : List UpdM) : Nat := (l.filter (fun u => decide (u.kind = 1))).length
theorem firstU_ok {rm : Bool} {id : Int} {l : List UpdM} (h : ∀ u ∈ l, u.ok) : ((firstU rm id l).getD UpdM.zero).ok := by
  cases hf : firstU rm id l with
  | none => exact UpdM.zero_ok
  | some u => exact h u (List.mem_of_find?_eq_some hf)
theorem addsU_take {l : List UpdM} {j : Nat} {u : UpdM} (h : l[j]? = some u) : addsU (l.take (j + 1)) = addsU (l.take j) + (if u.kind = 1 then 1 else 0) := by
  rw [List.take_add_one, h]
  unfold addsU
  rw [List.filter_append, List.length_append]
  by_cases hk : u.kind = 1 <;> simp [hk]
theorem addsU_le (l : List UpdM) : addsU l ≤ l.length := List.length_filter_le _ _

section
variable {F0 : List AId} {G0 G : Heap} {ps : List LP} {Q : AVal → Heap → Prop}

theorem upd_at {v : AVal} {l : List UpdM} {j : Nat} {u : UpdM} (h : IsSl 36 G v (l.map UpdM.av)) (hj : l[j]? = some u) : ∃ a, viaddr T t_sl_api_Update v (.int .i64 (j : Int)) = some a ∧ vload T G t_api_Update a = some u.av :=
  h.at_ (k := .i64) (i := ti_sl_api_Update) (ie := ti_api_Update) (T := T) (t := t_sl_api_Update) (e := t_api_Update) T_sl_api_Update rfl T_api_Update (by rw [List.getElem?_map, hj]; rfl) rfl
theorem upd_len {v : AVal} {l : List UpdM} (h : IsSl 36 G v (l.map UpdM.av)) : vlen T G t_sl_api_Update v = some (.int .i64 (l.length : Nat)) := by
  rw [h.len (i := ti_sl_api_Update) T_sl_api_Update rfl, List.length_map]
theorem newU {u : UpdM} {K : AId → Heap → Prop} (hs : Sp F0 G0 ps G) (hu : u.ok) (hK : ∀ i G', Sp F0 G0 (RowL i u.av :: ps) G' → K i G') : aNew G (.own z_api_Update) fun i G2 => wg (vstore T G2 t_api_Update (.ptr i [] 0) u.av) fun G3 => K i G3 :=
  newVal hs T_api_Update (UpdM.fits hu) (by rw [UpdM.sz hu]; rfl) (UpdM.okv u) hK

set_option maxHeartbeats 1000000 in
theorem update_first.use {v : AVal} {l : List UpdM} {id : Int} {rm : Bool} (hl : IsSl 36 G v (l.map UpdM.av)) (hok : ∀ u ∈ l, u.ok) (hlen : l.length ≤ 9223372036854775807) (hQ : ∀ G', Ch [] G [] G' → Q (optU (firstU rm id l)) G') :
    ACalls P update_first.n [v, .int .i64 id, .bool rm] G Q := by
  refine update_first.sound ?_
  unfold update_first.S
  intro i1 f1
  have s1 : Sp [] G [RowL i1 UpdM.zero.av] _ := (Sp.nil G).row f1 UpdM.zero.av
  refine wv_of (upd_len (hl.ch' s1.ch)) ?_
  intro R hR
  have loop : ∀ (n j : Nat) (G' : Heap), l.length - j = n → j ≤ l.length → firstU rm id (l.drop j) = firstU rm id l → Sp [] G [RowL i1 UpdM.zero.av] G' → R [.int .i64 id, .bool rm, .ptr i1 [] 0, v, .int .i64 (l.length : Nat), .int .i64 (j : Int)] G' := by
    intro n
    induction n with
    | zero =>
      intro j G' hn hj he hs
      have : j = l.length := by omega
      subst this
      rw [List.drop_length] at he
      refine hR _ _ _ _ _ _ _ ?_
      rw [vbin_lss, wv_some, brB_dec]
      refine ⟨fun h => absurd h (by omega), fun _ => ?_⟩
      rw [build_none, wv_some]
      refine upd_store (i := 0) hs rfl UpdM.zero_ok UpdM.zero_ok fun G2 s2 => ?_
      refine wv_of (upd_load (i := 0) s2 rfl UpdM.zero_ok).2.2.2.2.2 ?_
      have := hQ _ s2.ch
      rw [← he] at this
      exact this
    | succ n ih =>
      intro j G' hn hj he hs
      obtain ⟨u, hu⟩ : ∃ u, l[j]? = some u := ⟨_, List.getElem?_eq_getElem (by omega)⟩
      have huo := hok u (List.mem_of_getElem? hu)
      obtain ⟨a, ha, hla⟩ := upd_at (hl.ch' hs.ch) hu
      have hdr : l.drop j = u :: l.drop (j + 1) := by
        obtain ⟨hx, rfl⟩ := List.getElem?_eq_some_iff.1 hu
        exact List.drop_eq_getElem_cons hx
      rw [hdr, firstU, List.find?_cons] at he
      refine hR _ _ _ _ _ _ _ ?_
      rw [vbin_lss, wv_some, brB_dec]
      refine ⟨fun _ => ?_, fun h => absurd (by omega) h⟩
      rw [ha, wv_some, hla, wv_some]
      refine newU hs huo fun i15 G17 s17 => ?_
      obtain ⟨l0, l1, _⟩ := upd_load (i := 0) s17 rfl huo
      intro J36
      have yes : hits rm id u = true → J36 (.bool true) G17 := by
        intro h
        rw [h] at he
        simp -zeta only [J36, brB_true]
        refine wv_of (upd_load (i := 0) s17 rfl huo).2.2.2.2.2 ?_
        refine upd_store (i := 1) s17 rfl UpdM.zero_ok huo fun G2 s2 => ?_
        refine wv_of (upd_load (i := 1) s2 rfl huo).2.2.2.2.2 ?_
        have := hQ _ s2.ch
        rw [← he] at this
        exact this
      have no : hits rm id u = false → J36 (.bool false) G17 := by
        intro h
        rw [h] at he
        simp -zeta only [J36, brB_false]
        rw [vbin_add, wv_some, i64_in (by omega) (by omega)]
        exact ih (j + 1) G17 (by omega) (by omega) he (s17.erase 0)
      unfold hits at yes no
      rw [l1, wv_some, vbin_eql, wv_some, brB_dec]
      refine ⟨fun hid => ?_, fun hid => no (by rw [decide_eq_false hid, Bool.false_and])⟩
      rw [decide_eq_true hid, Bool.true_and] at yes no
      cases rm with
      | false =>
        rw [cond_false] at yes no
        rw [vun_not, wv_some, Bool.not_false, brB_true, l0, wv_some, vbin_eql, wv_some, brB_dec]
        refine ⟨fun hk => yes (decide_eq_true hk), fun hk => ?_⟩
        rw [brB_false]
        exact no (decide_eq_false hk)
      | true =>
        rw [cond_true] at yes no
        rw [vun_not, wv_some, Bool.not_true, brB_false, brB_true, l0, wv_some, vbin_eql, wv_some, brB_dec]
        refine ⟨fun hk => yes (by rw [decide_eq_true hk, Bool.true_or]), fun hk => ?_⟩
        rw [decide_eq_false hk, Bool.false_or] at yes no
        rw [wv_some, vbin_eql, wv_some]
        by_cases h3 : u.kind = 3
        · rw [decide_eq_true h3]; exact yes (decide_eq_true h3)
        · rw [decide_eq_false h3]; exact no (decide_eq_false h3)
  exact loop _ 0 _ rfl (by omega) (by simp) s1

theorem opt0 (o : Option UpdM) : vextract (optU o) 0 = some (o.getD UpdM.zero).av := rfl
theorem opt1 (o : Option UpdM) : vextract (optU o) 1 = some (.bool o.isSome) := rfl

theorem update_Find.use {v : AVal} {l : List UpdM} {id : Int} (hl : IsSl 36 G v (l.map UpdM.av)) (hok : ∀ u ∈ l, u.ok) (hlen : l.length ≤ 9223372036854775807) (hQ : ∀ G', Ch [] G [] G' → Q (optU (firstU false id l)) G') :
    ACalls P update_Find.n [v, .int .i64 id] G Q := by
  refine update_Find.sound ?_
  unfold update_Find.S
  intro i1 f1
  have s1 : Sp [] G [RowL i1 UpdM.zero.av] _ := (Sp.nil G).row f1 UpdM.zero.av
  refine update_first.use (hl.ch' s1.ch) hok hlen fun G4 c4 => ?_
  have s4 := s1.tmp c4
  have hf := firstU_ok (rm := false) (id := id) hok
  rw [opt0, wv_some, opt1, wv_some]
  refine upd_store (i := 0) s4 rfl UpdM.zero_ok hf fun G2 s2 => ?_
  refine wv_of (upd_load (i := 0) s2 rfl hf).2.2.2.2.2 ?_
  exact hQ _ s2.ch
theorem update_Removal.use {v : AVal} {l : List UpdM} {id : Int} (hl : IsSl 36 G v (l.map UpdM.av)) (hok : ∀ u ∈ l, u.ok) (hlen : l.length ≤ 9223372036854775807) (hQ : ∀ G', Ch [] G [] G' → Q (optU (firstU true id l)) G') :
    ACalls P update_Removal.n [v, .int .i64 id] G Q := by
  refine update_Removal.sound ?_
  unfold update_Removal.S
  intro i1 f1
  have s1 : Sp [] G [RowL i1 UpdM.zero.av] _ := (Sp.nil G).row f1 UpdM.zero.av
  refine update_first.use (hl.ch' s1.ch) hok hlen fun G4 c4 => ?_
  have s4 := s1.tmp c4
  have hf := firstU_ok (rm := true) (id := id) hok
  rw [opt0, wv_some, opt1, wv_some]
  refine upd_store (i := 0) s4 rfl UpdM.zero_ok hf fun G2 s2 => ?_
  refine wv_of (upd_load (i := 0) s2 rfl hf).2.2.2.2.2 ?_
  exact hQ _ s2.ch

theorem update_adds.use {v : AVal} {l : List UpdM} (hl : IsSl 36 G v (l.map UpdM.av)) (hok : ∀ u ∈ l, u.ok) (hlen : l.length ≤ 9223372036854775807) (hQ : ∀ G', Ch [] G [] G' → Q (.int .i64 (addsU l : Nat)) G') :
    ACalls P update_adds.n [v] G Q := by
  refine update_adds.sound ?_
  unfold update_adds.S
  refine wv_of (upd_len hl) ?_
  intro R hR
  have loop : ∀ (n j : Nat) (G' : Heap), l.length - j = n → j ≤ l.length → Sp [] G [] G' → R [.int .i64 (addsU (l.take j) : Nat), v, .int .i64 (l.length : Nat), .int .i64 (j : Int)] G' := by
    intro n
    induction n with
    | zero =>
      intro j G' hn hj hs
      have : j = l.length := by omega
      subst this
      refine hR _ _ _ _ _ ?_
      rw [vbin_lss, wv_some, brB_dec]
      refine ⟨fun h => absurd h (by omega), fun _ => ?_⟩
      rw [List.take_length]
      exact hQ _ hs.ch
    | succ n ih =>
      intro j G' hn hj hs
      obtain ⟨u, hu⟩ : ∃ u, l[j]? = some u := ⟨_, List.getElem?_eq_getElem (by omega)⟩
      have huo := hok u (List.mem_of_getElem? hu)
      obtain ⟨a, ha, hla⟩ := upd_at (hl.ch' hs.ch) hu
      have ht := addsU_take hu
      have hle := addsU_le (l.take j)
      have hlj : (l.take j).length ≤ j := List.length_take_le _ _
      refine hR _ _ _ _ _ ?_
      rw [vbin_lss, wv_some, brB_dec]
      refine ⟨fun _ => ?_, fun h => absurd (by omega) h⟩
      rw [ha, wv_some, hla, wv_some]
      refine newU hs huo fun i11 G13 s13 => ?_
      refine wv_of (upd_load (i := 0) s13 rfl huo).1 ?_
      rw [vbin_eql, wv_some, brB_dec]
      refine ⟨fun hk => ?_, fun hk => ?_⟩
      · rw [if_pos hk] at ht
        rw [vbin_add, wv_some, i64_in (by omega) (by omega), vbin_add, wv_some, i64_in (by omega) (by omega), show ((addsU (l.take j) : Nat) : Int) + 1 = ((addsU (l.take (j + 1)) : Nat) : Int) by omega]
        exact ih (j + 1) G13 (by omega) (by omega) (s13.erase 0)
      · rw [if_neg hk] at ht
        rw [vbin_add, wv_some, i64_in (by omega) (by omega), show addsU (l.take j) = addsU (l.take (j + 1)) by omega]
        exact ih (j + 1) G13 (by omega) (by omega) (s13.erase 0)
  exact loop _ 0 G rfl (by omega) (Sp.nil G)

end
end Go.Esc.M

/- Own work. Chapter 12: the document's examples; UpdateBytes. -/
set_option linter.unusedSimpArgs false
set_option linter.unusedVariables false
set_option maxRecDepth 20000
namespace Go.Esc.M
open Go Go.Esc

theorem eqF_upd {p p' : UpdM} (h : p.ok) (h' : p'.ok) : eqF T (veqD T 8) [(t_int, 0), (t_int64, 1), (t_int64, 2), (t_api_Hash, 3), (t_string, 35)] p.cs p'.cs 0 = some (decide (p = p')) := by
  have z1 := fits_hash h.hash
  have z2 := fits_hash h'.hash
  have q2 : ∀ m n : Int, veqD T 8 t_int64 (.int .i64 m) (.int .i64 n) = some (decide (m = n)) := fun m n => by
    rw [veqD]; simp only [T_int64]; rfl
  have q1 : ∀ m n : Int, veqD T 8 t_int (.int .i64 m) (.int .i64 n) = some (decide (m = n)) := fun m n => by
    rw [veqD]; simp only [T_int]; rfl
  have q4 : ∀ m n : List UInt8, veqD T 8 t_string (.str m) (.str n) = some (decide (m = n)) := fun m n => by
    rw [veqD]; simp only [T_string]; rfl
  have v1 : ∀ m : Int, vfits ti_int (.int .i64 m) = true := fun m => rfl
  have v2 : ∀ m : Int, vfits ti_int64 (.int .i64 m) = true := fun m => rfl
  have v4 : ∀ m : List UInt8, vfits ti_string (.str m) = true := fun m => rfl
  have s1 : ti_int.size = 1 := rfl
  have s2 : ti_int64.size = 1 := rfl
  have s3 : ti_api_Hash.size = 32 := rfl
  have q3 := veq_hash h.hash h'.hash
  obtain ⟨a, b, c, d, e⟩ := p
  obtain ⟨a', b', c', d', e'⟩ := p'
  dsimp only at z1 z2 q3
  simp only [UpdM.cs, eqF, T_int, T_int64, T_api_Hash, T_string, v1, v2, v4, z1, z2, s1, s2, s3, Nat.zero_add, q1, q2, q3, q4, beq_self_eq_true, Bool.and_self, Nat.reduceAdd, if_true]
  by_cases h1 : a = a'
  · subst h1
    by_cases h2 : b = b'
    · subst h2
      by_cases h3 : c = c'
      · subst h3
        by_cases h4 : d = d'
        · subst h4
          by_cases h5 : e = e'
          · subst h5; simp
          · simp [h5]
        · simp [h4]
      · simp [h3]
    · simp [h2]
  · simp [h1]

theorem veq_upd {p p' : UpdM} (h : p.ok) (h' : p'.ok) : veqD T 9 t_api_Update p.av p'.av = some (decide (p = p')) := by
  rw [← eqF_upd h h', veqD]
  have e1 : ti_api_Update.desc = .struct [(t_int, 0), (t_int64, 1), (t_int64, 2), (t_api_Hash, 3), (t_string, 35)] := rfl
  simp only [T_api_Update, e1]
  rfl
theorem vbin_ueql {p p' : UpdM} (h : p.ok) (h' : p'.ok) : vbin T .eql t_api_Update p.av p'.av = some (.bool (decide (p = p'))) := by
  have := veq_upd h h'
  unfold UpdM.av at this ⊢
  simp only [vbin, this]
theorem vbin_uneq {p p' : UpdM} (h : p.ok) (h' : p'.ok) : vbin T .neq t_api_Update p.av p'.av = some (.bool (!decide (p = p'))) := by
  have := veq_upd h h'
  unfold UpdM.av at this ⊢
  simp only [vbin, this]

theorem readU_ok {b : List UInt8} (hb : b.length ≤ 9223372036854775807) : (readU b).1.ok := by
  have hz := UpdM.zero_ok
  have ho : ∀ u n, u.ok → (okU u n).1.ok := fun u n h => by
    unfold okU
    cases validU u
    · exact hz
    · exact h
  have hid : I64 (idU b) := i64_small (by unfold idU; omega) (by have := num2_lt (b := b) (a := 1); unfold idU; omega)
  unfold readU
  split
  · exact hz
  split
  · split
    · exact hz
    · exact ho _ _ (mkok ⟨by decide, by decide⟩ hid (hw64 _) (length_slice (by omega)) (by decide : (0 : Nat) ≤ 9223372036854775807))
  split
  · split
    · exact hz
    · exact ho _ _ (mkok ⟨by decide, by decide⟩ hid i64_0 (length_slice (by omega)) (by decide : (0 : Nat) ≤ 9223372036854775807))
  split
  · split
    · exact hz
    split
    · exact hz
    split
    · exact hz
    · exact ho _ _ (mkok ⟨by decide, by decide⟩ hid i64_0 rfl (by rw [length_slice (by omega)]; omega))
  · exact hz

section
variable {F0 : List AId} {G0 G : Heap} {ps : List LP} {Q : AVal → Heap → Prop}


end

end Go.Esc.M

/- Own work. Chapter 12: UpdateBack. -/
set_option linter.unusedSimpArgs false
set_option linter.unusedVariables false
set_option maxRecDepth 20000
namespace Go.Esc.M
open Go Go.Esc

theorem slice_app {x y z : List UInt8} {a n : Nat} (ha : x.length = a) (hn : y.length = n) : slice (x ++ (y ++ z)) a n = y := by
  rw [slice, List.drop_left' ha, List.take_left' hn]
theorem slice_add (b : List UInt8) (a n m : Nat) : slice b a (n + m) = slice b a n ++ slice b (a + n) m := by
  rw [slice, slice, slice, List.take_add, List.drop_drop]
theorem be_num {l : List UInt8} {k : Nat} (h : l.length = k) : be k (num l) = l := by
  subst h
  exact be_numA l 0
theorem length_tail {u : UpdM} (h : u.ok) (hv : validU u = true) : (bytesU u).length = 3 + (tailU u).length := by
  simp [bytesU, length_be]; omega

theorem readU_bytes {u : UpdM} (h : u.ok) (hv : validU u = true) (r : List UInt8) : readU (bytesU u ++ r) = (u, (((bytesU u).length : Nat) : Int), 0) := by
  obtain ⟨hi0, hi1, hk⟩ := valid_spec hv
  have hkr : 1 ≤ u.kind ∧ u.kind ≤ 3 := by omega
  have hok : ∀ n : Nat, okU u n = (u, (n : Int), 0) := fun n => by rw [okU, hv]; rfl
  have hb : bytesU u ++ r = be 1 u.kind.toNat ++ (be 2 u.id.toNat ++ (tailU u ++ r)) := by simp [bytesU]
  have e0 : slice (bytesU u ++ r) 0 1 = be 1 u.kind.toNat := by rw [hb]; exact slice_app (x := []) rfl (length_be _ _)
  have e1 : slice (bytesU u ++ r) 1 2 = be 2 u.id.toNat := by rw [hb]; exact slice_app (length_be _ _) (length_be _ _)
  have n0 : num (slice (bytesU u ++ r) 0 1) = u.kind.toNat := by rw [e0, num_be_lt (by omega)]
  have n1 : idU (bytesU u ++ r) = u.id := by rw [idU, e1, num_be2 (by omega)]; omega
  have hne : bytesU u ++ r ≠ [] := by rw [hb]; simp [be]
  have hlen : (bytesU u ++ r).length = 3 + (tailU u).length + r.length := by rw [List.length_append, length_tail h hv]
  have hb3 : bytesU u ++ r = (be 1 u.kind.toNat ++ be 2 u.id.toNat) ++ (tailU u ++ r) := by simp [bytesU]
  have h3 : (be 1 u.kind.toNat ++ be 2 u.id.toNat).length = 3 := by simp [length_be]
  have hbl := length_tail h hv
  unfold readU
  rw [if_neg hne, n0, n1]
  obtain ⟨kd, id, am, hs, nt⟩ := u
  have hhs : hs.length = 32 := h.hash
  dsimp only at *
  rcases hk with ⟨rfl, ha1, ha2, rfl⟩ | ⟨rfl, rfl, rfl⟩ | ⟨rfl, rfl, rfl, hnt⟩
  · have ht : tailU ⟨1, id, am, hs, []⟩ = be 8 (bits64 am) ++ hs := by simp [tailU]
    have htl : (tailU ⟨1, id, am, hs, []⟩).length = 40 := by rw [ht]; simp [length_be, hhs]
    rw [if_pos (by decide), if_neg (by omega)]
    rw [ht] at hb3
    have e8 : slice (bytesU ⟨1, id, am, hs, []⟩ ++ r) 3 8 = be 8 (bits64 am) := by
      rw [hb3, List.append_assoc]
      exact slice_app h3 (length_be _ _)
    have e32 : slice (bytesU ⟨1, id, am, hs, []⟩ ++ r) 11 32 = hs := by
      have hb5 : bytesU ⟨1, id, am, hs, []⟩ ++ r = (be 1 (Int.toNat 1) ++ be 2 id.toNat ++ be 8 (bits64 am)) ++ (hs ++ r) := by rw [hb3]; simp
      rw [hb5]
      exact slice_app (by simp [length_be]) hhs
    rw [e8, e32, wrap_be h.amount, hok, hbl, htl]
  · have ht : tailU ⟨2, id, 0, hs, []⟩ = hs := by simp [tailU]
    have htl : (tailU ⟨2, id, 0, hs, []⟩).length = 32 := by rw [ht]; exact hhs
    rw [if_neg (by decide), if_pos (by decide), if_neg (by omega)]
    rw [ht] at hb3
    have e32 : slice (bytesU ⟨2, id, 0, hs, []⟩ ++ r) 3 32 = hs := by
      rw [hb3]
      exact slice_app h3 hhs
    rw [e32, hok, hbl, htl]
  · have ht : tailU ⟨3, id, 0, h0, nt⟩ = be 2 nt.length ++ nt := by simp [tailU]
    have htl : (tailU ⟨3, id, 0, h0, nt⟩).length = 2 + nt.length := by rw [ht]; simp [length_be]
    rw [ht] at hb3
    have e2 : slice (bytesU ⟨3, id, 0, h0, nt⟩ ++ r) 3 2 = be 2 nt.length := by
      rw [hb3, List.append_assoc]
      exact slice_app h3 (length_be _ _)
    have en : slice (bytesU ⟨3, id, 0, h0, nt⟩ ++ r) 5 nt.length = nt := by
      have hb5 : bytesU ⟨3, id, 0, h0, nt⟩ ++ r = (be 1 (Int.toNat 3) ++ be 2 id.toNat ++ be 2 nt.length) ++ (nt ++ r) := by rw [hb3]; simp
      rw [hb5]
      exact slice_app (by simp [length_be]) rfl
    rw [if_neg (by decide), if_neg (by decide), if_pos (by decide), if_neg (by omega), e2, num_be2 (by omega), if_neg (by omega), if_neg (by omega), en, hok, hbl, htl, show 3 + (2 + nt.length) = 5 + nt.length by omega]

theorem readU_cases {b : List UInt8} (hb : b.length ≤ 9223372036854775807) :
    (∃ e, (e = 2 ∨ e = 120) ∧ readU b = (UpdM.zero, 0, e)) ∨ (∃ (u : UpdM) (k : Nat), readU b = (u, (k : Int), 0) ∧ u.ok ∧ validU u = true ∧ 0 < k ∧ k ≤ b.length ∧ bytesU u = b.take k) := by
  have ho := readU_ok hb
  have fin : ∀ (u : UpdM) (k : Nat), readU b = okU u k → 0 < k → k ≤ b.length → bytesU u = b.take k →
      (∃ e, (e = 2 ∨ e = 120) ∧ readU b = (UpdM.zero, 0, e)) ∨ (∃ (u : UpdM) (k : Nat), readU b = (u, (k : Int), 0) ∧ u.ok ∧ validU u = true ∧ 0 < k ∧ k ≤ b.length ∧ bytesU u = b.take k) := by
    intro u k h h1 h2 h3
    unfold okU at h
    cases hv : validU u with
    | false =>
      rw [hv] at h
      exact .inl ⟨120, .inr rfl, h⟩
    | true =>
      rw [hv] at h
      rw [h] at ho
      exact .inr ⟨u, k, h, ho, hv, h1, h2, h3⟩
  have none2 : readU b = (UpdM.zero, 0, 2) → (∃ e, (e = 2 ∨ e = 120) ∧ readU b = (UpdM.zero, 0, e)) ∨ (∃ (u : UpdM) (k : Nat), readU b = (u, (k : Int), 0) ∧ u.ok ∧ validU u = true ∧ 0 < k ∧ k ≤ b.length ∧ bytesU u = b.take k) := fun h => .inl ⟨2, .inl rfl, h⟩
  have none120 : readU b = (UpdM.zero, 0, 120) → (∃ e, (e = 2 ∨ e = 120) ∧ readU b = (UpdM.zero, 0, e)) ∨ (∃ (u : UpdM) (k : Nat), readU b = (u, (k : Int), 0) ∧ u.ok ∧ validU u = true ∧ 0 < k ∧ k ≤ b.length ∧ bytesU u = b.take k) := fun h => .inl ⟨120, .inr rfl, h⟩
  have hid : ∀ {n : Nat}, 3 ≤ b.length → be 2 (idU b).toNat = slice b 1 2 := fun {n} h => by
    rw [idU, Int.toNat_natCast, be_num (length_slice (by omega))]
  have hk1 : ∀ {n : Nat}, num (slice b 0 1) = n → 1 ≤ b.length → be 1 n = slice b 0 1 := fun h hl => by
    rw [← h, be_num (length_slice (by omega))]
  have t0 : ∀ k, b.take k = slice b 0 k := fun k => by rw [slice, List.drop_zero]
  by_cases hne : b = []
  · exact none2 (by unfold readU; rw [if_pos hne])
  have hr : readU b = readU b := rfl
  conv at hr => rhs; unfold readU
  rw [if_neg hne] at hr
  have hn2 := num2_lt (b := b) (a := 3)
  split at hr
  · rename_i h1
    split at hr
    · exact none2 hr
    · refine fin _ 43 hr (by decide) (by omega) ?_
      have hv8 := num_lt_of (l := slice b 3 8) (k := 8) (by rw [length_slice (by omega)]; exact Nat.le_refl _)
      rw [t0, show 43 = 1 + (2 + (8 + 32)) from rfl, slice_add, slice_add, slice_add]
      show be 1 (Int.toNat 1) ++ (be 2 (idU b).toNat ++ tailU _) = _
      have ht : tailU ⟨1, idU b, IntKind.i64.wrap (num (slice b 3 8) : Nat), slice b 11 32, []⟩ = be 8 (bits64 (IntKind.i64.wrap (num (slice b 3 8) : Nat))) ++ slice b 11 32 := by simp [tailU]
      rw [ht, bits64_wrap hv8, be_num (length_slice (by omega)), hid (n := 0) (by omega), show Int.toNat 1 = 1 from rfl, hk1 h1 (by omega)]
  split at hr
  · rename_i h1
    split at hr
    · exact none2 hr
    · refine fin _ 35 hr (by decide) (by omega) ?_
      rw [t0, show 35 = 1 + (2 + 32) from rfl, slice_add, slice_add]
      show be 1 (Int.toNat 2) ++ (be 2 (idU b).toNat ++ tailU _) = _
      have ht : tailU ⟨2, idU b, 0, slice b 3 32, []⟩ = slice b 3 32 := by simp [tailU]
      rw [ht, hid (n := 0) (by omega), show Int.toNat 2 = 2 from rfl, hk1 h1 (by omega)]
  split at hr
  · rename_i h1
    split at hr
    · exact none2 hr
    split at hr
    · exact none120 hr
    split at hr
    · exact none2 hr
    · refine fin _ (5 + num (slice b 3 2)) hr (by omega) (by omega) ?_
      rw [t0, show 5 + num (slice b 3 2) = 1 + (2 + (2 + num (slice b 3 2))) by omega, slice_add, slice_add, slice_add]
      show be 1 (Int.toNat 3) ++ (be 2 (idU b).toNat ++ tailU _) = _
      have hl : (slice b 5 (num (slice b 3 2))).length = num (slice b 3 2) := length_slice (by omega)
      have ht : tailU ⟨3, idU b, 0, h0, slice b 5 (num (slice b 3 2))⟩ = slice b 3 2 ++ slice b 5 (num (slice b 3 2)) := by
        simp only [tailU]
        rw [if_neg (by decide), if_neg (by decide), hl, be_num (length_slice (by omega))]
      rw [ht, hid (n := 0) (by omega), show Int.toNat 3 = 3 from rfl, hk1 h1 (by omega)]
  · exact none120 hr

end Go.Esc.M

/- Own work. Chapter 12: the document's finds; Next. -/
set_option linter.unusedSimpArgs false
set_option linter.unusedVariables false
set_option maxRecDepth 20000
namespace Go.Esc.M
open Go Go.Esc

section
variable {F0 : List AId} {G0 G : Heap} {ps : List LP} {Q : AVal → Heap → Prop}

theorem upd_fldA {v : AVal} {l : List UpdM} {j f o : Nat} {p : UpdM} {tf : TypeId} {fi : TI} {c : AVal} (h : IsSl 36 G v (l.map UpdM.av)) (hj : l[j]? = some p) (hf : [(t_int, 0), (t_int64, 1), (t_int64, 2), (t_api_Hash, 3), (t_string, 35)][f]? = some (tf, o)) (hft : T tf = some fi) (hz : fi.size ≠ 0)
    (hs : szs (p.cs.take f) = o) (hc : p.cs[f]? = some c) (hfit : vfits fi c = true) :
    ∃ a b, viaddr T t_sl_api_Update v (.int .i64 (j : Int)) = some a ∧ vfaddr T t_api_Update a f = some b ∧ vload T G tf b = some c :=
  IsSl.fld (k := .i64) (i := ti_sl_api_Update) (ie := ti_api_Update) T_sl_api_Update rfl T_api_Update rfl hf hft hz h (by rw [List.getElem?_map, hj]; rfl) hs hc hfit

/-- May an update stand behind a list? -/
def nextU (mine others : List UpdM) (u : UpdM) : Int :=
  if 2048 ≤ mine.length then 6 else if validU u = false then 120
  else if u.kind = 1 then (if u.id = (addsU mine : Nat) then 0 else 120)
  else if (firstU false u.id others).isSome = false then 120
  else if (firstU true u.id mine).isSome then 120
  else if u.kind = 2 ∧ sha u.hash ≠ ((firstU false u.id others).getD UpdM.zero).hash then 120 else 0

theorem length_sha' (s : List UInt8) : (sha s).length = 32 := length_sha s

theorem one_str {F0 : List AId} {G0 : Heap} {ps : List LP} {s : List UInt8} {K : AVal → Heap → Prop} (hs : Sp F0 G0 ps G) (hK : ∀ v G2, Sp F0 G0 (OwnL 1 v ([s].map .str) :: ps) G2 → K v G2) : aBuildSlice T t_sl_string 1 [(0, .str s)] G K :=
  buildV (T := T) (ts := t_sl_string) (e := t_string) (si := ti_sl_string) (ie := ti_string) T_sl_string rfl T_string rfl hs rfl (by decide) hK

set_option maxHeartbeats 2000000 in
theorem update_Next.use {v w : AVal} {mine others : List UpdM} {u : UpdM} (hl : IsSl 36 G v (mine.map UpdM.av)) (ho : IsSl 36 G w (others.map UpdM.av)) (hok : ∀ u ∈ mine, u.ok) (hok2 : ∀ u ∈ others, u.ok) (hlen : mine.length ≤ 9223372036854775807) (hlen2 : others.length ≤ 9223372036854775807) (hu : u.ok)
    (hQ : ∀ G', Ch [] G [] G' → Q (.int .i64 (nextU mine others u)) G') : ACalls P update_Next.n [v, w, u.av] G Q := by
  refine update_Next.sound ?_
  unfold update_Next.S
  rw [zUpd]
  intro i1 f1
  have s1 := (Sp.nil G).row f1 u.av
  refine wv_of (upd_len (hl.ch' s1.ch)) ?_
  unfold nextU at hQ
  rw [vbin_geq, wv_some, brB_dec]
  refine ⟨fun h => ?_, fun h => ?_⟩
  · rw [if_pos (by omega)] at hQ
    exact hQ _ s1.ch
  rw [if_neg (by omega)] at hQ
  refine wv_of (upd_load (i := 0) s1 rfl hu).2.2.2.2.2 ?_
  refine update_Valid.use hu fun G7 c7 => ?_
  have s7 := s1.tmp c7
  rw [vun_not, wv_some]
  cases hv : validU u with
  | false =>
    rw [if_pos hv] at hQ
    exact hQ _ s7.ch
  | true =>
    rw [if_neg (by rw [hv]; decide)] at hQ
    rw [Bool.not_true, brB_false]
    refine wv_of (upd_load (i := 0) s7 rfl hu).1 ?_
    rw [vbin_eql, wv_some, brB_dec]
    refine ⟨fun hk1 => ?_, fun hk1 => ?_⟩
    · rw [if_pos hk1] at hQ
      refine wv_of (upd_load (i := 0) s7 rfl hu).2.1 ?_
      refine update_adds.use (hl.ch' s7.ch) hok hlen fun G13 c13 => ?_
      have s13 := s7.tmp c13
      refine ⟨⟨(upd_load (i := 0) s13 rfl hu).2.1, trivial⟩, ?_⟩
      rw [vbin_neq, wv_some, brB_ndec]
      exact ⟨fun h => by rw [if_neg h] at hQ; exact hQ _ s13.ch, fun h => by rw [if_pos h] at hQ; exact hQ _ s13.ch⟩
    rw [if_neg hk1] at hQ
    refine wv_of (upd_load (i := 0) s7 rfl hu).2.1 ?_
    refine update_Find.use (ho.ch' s7.ch) hok2 hlen2 fun G17 c17 => ?_
    have s17 := s7.tmp c17
    have hf1 := firstU_ok (rm := false) (id := u.id) hok2
    have hf2 := firstU_ok (rm := true) (id := u.id) hok
    rw [opt0, wv_some, opt1, wv_some]
    obtain ⟨A, hA⟩ : ∃ A, A = firstU false u.id others := ⟨_, rfl⟩
    obtain ⟨B, hB⟩ : ∃ A, A = firstU true u.id mine := ⟨_, rfl⟩
    rw [← hA] at hf1 hQ ⊢
    rw [← hB] at hf2 hQ
    intro i20 f20
    have s20 := s17.row f20 UpdM.zero.av
    refine upd_store (i := 0) s20 rfl UpdM.zero_ok hf1 fun G22 s22 => ?_
    refine wv_of (upd_load (i := 1) s22 rfl hu).2.1 ?_
    refine update_Removal.use (hl.ch' s22.ch) hok hlen fun G25 c25 => ?_
    have s25 := s22.tmp c25
    rw [← hB, opt0, wv_some, opt1, wv_some]
    intro i28 f28
    have s28 := s25.row f28 UpdM.zero.av
    refine upd_store (i := 0) s28 rfl UpdM.zero_ok hf2 fun G30 s30 => ?_
    have s30 : Sp [] G [RowL i28 (B.getD UpdM.zero).av, RowL i20 (A.getD UpdM.zero).av, RowL i1 u.av] G30 := s30
    rw [vun_not, wv_some]
    cases hAs : A.isSome with
    | false =>
      rw [if_pos hAs] at hQ
      exact hQ _ s30.ch
    | true =>
      rw [if_neg (by rw [hAs]; decide)] at hQ
      rw [Bool.not_true, brB_false]
      cases hBs : B.isSome with
      | true =>
        rw [if_pos hBs] at hQ
        exact hQ _ s30.ch
      | false =>
        rw [if_neg (by rw [hBs]; decide)] at hQ
        rw [brB_false]
        refine wv_of (upd_load (i := 2) s30 rfl hu).1 ?_
        rw [vbin_eql, wv_some, brB_dec]
        refine ⟨fun hk2 => ?_, fun hk2 => ?_⟩
        · obtain ⟨x, hx, hxs⟩ := slice_upd hu (RowL.own (i := 2) s30 rfl)
          refine wv_of hx ?_
          refine wv_of (conv_bytes (si := ti_sl_uint8) (ie := ti_uint8) (di := ti_string) T_sl_uint8 rfl T_uint8 rfl T_string rfl hxs) ?_
          refine wv_of (upd_load (i := 1) s30 rfl hf1).2.2.2.1 ?_
          refine one_str s30 fun v37 G38 s38 => ?_
          have hh := hu.hash
          refine hash_Sum.use (xs := [u.hash]) (OwnL.own (i := 0) s38 rfl).cap (by simp) (by simp; omega) fun G40 c40 => ?_
          have s40 := s38.tmp c40
          refine ⟨⟨(upd_load (i := 2) s40 rfl hf1).2.2.2.1, trivial⟩, ?_⟩
          have e1 : [u.hash].flatten = u.hash := by simp
          rw [e1, hash_neq (length_sha' _) hf1.hash, wv_some, brB_ndec]
          refine ⟨fun h => ?_, fun h => ?_⟩
          · rw [if_pos ⟨hk2, h⟩] at hQ
            exact hQ _ s40.ch
          · rw [if_neg (fun hh => hh.2 h)] at hQ
            exact hQ _ s40.ch
        · rw [if_neg (fun hh => hk2 hh.1)] at hQ
          exact hQ _ s30.ch

end
end Go.Esc.M

/- Own work. Chapter 12: UpdateNexts. -/
set_option linter.unusedSimpArgs false
set_option linter.unusedVariables false
set_option maxRecDepth 20000
namespace Go.Esc.M
open Go Go.Esc

section
variable {F0 : List AId} {G0 G : Heap} {ps : List LP} {Q : AVal → Heap → Prop}

theorem upds_uni {l : List UpdM} (h : ∀ p ∈ l, p.ok) : Esc.uni 36 (l.map UpdM.av) = true ∧ okvs (l.map UpdM.av) = true := by
  refine ⟨by simp only [Esc.uni, List.all_map, List.all_eq_true]; intro p hp; simp [UpdM.sz (h p hp)], ?_⟩
  induction l with
  | nil => rfl
  | cons p l ih => simp [okvs, UpdM.okv, ih (fun p hp => h p (by simp [hp]))]

end
end Go.Esc.M

/- Own work. Chapter 12: UpdateNexts, the law. -/
set_option linter.unusedSimpArgs false
set_option linter.unusedVariables false
set_option maxRecDepth 20000
namespace Go.Esc.M
open Go Go.Esc

end Go.Esc.M

/- Own work. Chapter 12: two lists that grow: the plain law. -/
set_option linter.unusedSimpArgs false
set_option linter.unusedVariables false
set_option maxRecDepth 20000
namespace Go.Esc.M
open Go Go.Esc

def thereF (u : UpdM) (t : Bool) (b : UpdM) : Bool := if b.kind = 1 ∧ b.id = u.id then decide (u.kind = 3) || decide (sha u.hash = b.hash) else t
def thereU (u : UpdM) (B : List UpdM) : Bool := B.foldl (thereF u) false
def SoundU (A B : List UpdM) : Prop := ∀ i u, A[i]? = some u → if u.kind = 1 then u.id = ((addsU (A.take i) : Nat) : Int) else thereU u B = true ∧ ∀ k v, k < i → A[k]? = some v → v.kind ≠ 1 → v.id ≠ u.id

theorem SoundU.nil (B : List UpdM) : SoundU [] B := fun i u h => by simp at h

end Go.Esc.M
