/- Own work. Chapter 12: the document's examples; UpdateBytes. -/
import Derived.Test.YtmhhddpkhfohcaaLUe
import Derived.Test.YtmhhddpkhfohcaaLDd
set_option linter.unusedSimpArgs false
set_option linter.unusedVariables false
namespace Go.Esc.M
open Go Go.Esc

theorem eqF_upd {p p' : UpdM} (h : p.ok) (h' : p'.ok) : eqF T (veqD T 8) [(t_int, 0), (t_int64, 1), (t_int64, 2), (t_api_Hash, 3), (t_string, 35)] p.cs p'.cs 0 = some (decide (p = p')) := by
  have z1 := fits_hash h.hash
  have z2 := fits_hash h'.hash
  have q2 : ∀ m n : Int, veqD T 8 t_int64 (.int .i64 m) (.int .i64 n) = some (decide (m = n)) := fun m n => by
    rw [veqD]; simp only [T_int64]; rfl
  have q1 : ∀ m n : Int, veqD T 8 t_int (.int .i64 m) (.int .i64 n) = some (decide (m = n)) := fun m n => by
    rw [veqD]; simp only [T_int]; rfl
  have q4 : ∀ m n : List UInt8, veqD T 8 t_string (.str m) (.str n) = some (decide (m = n)) := fun m n => by
    rw [veqD]; simp only [T_string]; rfl
  have v1 : ∀ m : Int, vfits ti_int (.int .i64 m) = true := fun m => rfl
  have v2 : ∀ m : Int, vfits ti_int64 (.int .i64 m) = true := fun m => rfl
  have v4 : ∀ m : List UInt8, vfits ti_string (.str m) = true := fun m => rfl
  have s1 : ti_int.size = 1 := rfl
  have s2 : ti_int64.size = 1 := rfl
  have s3 : ti_api_Hash.size = 32 := rfl
  have q3 := veq_hash h.hash h'.hash
  obtain ⟨a, b, c, d, e⟩ := p
  obtain ⟨a', b', c', d', e'⟩ := p'
  dsimp only at z1 z2 q3
  simp only [UpdM.cs, eqF, T_int, T_int64, T_api_Hash, T_string, v1, v2, v4, z1, z2, s1, s2, s3, Nat.zero_add, q1, q2, q3, q4, beq_self_eq_true, Bool.and_self, Nat.reduceAdd, if_true]
  by_cases h1 : a = a'
  · subst h1
    by_cases h2 : b = b'
    · subst h2
      by_cases h3 : c = c'
      · subst h3
        by_cases h4 : d = d'
        · subst h4
          by_cases h5 : e = e'
          · subst h5; simp
          · simp [h5]
        · simp [h4]
      · simp [h3]
    · simp [h2]
  · simp [h1]

theorem veq_upd {p p' : UpdM} (h : p.ok) (h' : p'.ok) : veqD T 9 t_api_Update p.av p'.av = some (decide (p = p')) := by
  rw [← eqF_upd h h', veqD]
  have e1 : ti_api_Update.desc = .struct [(t_int, 0), (t_int64, 1), (t_int64, 2), (t_api_Hash, 3), (t_string, 35)] := rfl
  simp only [T_api_Update, e1]
  rfl
theorem vbin_ueql {p p' : UpdM} (h : p.ok) (h' : p'.ok) : vbin T .eql t_api_Update p.av p'.av = some (.bool (decide (p = p'))) := by
  have := veq_upd h h'
  unfold UpdM.av at this ⊢
  simp only [vbin, this]
theorem vbin_uneq {p p' : UpdM} (h : p.ok) (h' : p'.ok) : vbin T .neq t_api_Update p.av p'.av = some (.bool (!decide (p = p'))) := by
  have := veq_upd h h'
  unfold UpdM.av at this ⊢
  simp only [vbin, this]

theorem readU_ok {b : List UInt8} (hb : b.length ≤ 9223372036854775807) : (readU b).1.ok := by
  have hz := UpdM.zero_ok
  have ho : ∀ u n, u.ok → (okU u n).1.ok := fun u n h => by
    unfold okU
    cases validU u
    · exact hz
    · exact h
  have hid : I64 (idU b) := i64_small (by unfold idU; omega) (by have := num2_lt (b := b) (a := 1); unfold idU; omega)
  unfold readU
  split
  · exact hz
  split
  · split
    · exact hz
    · exact ho _ _ (mkok ⟨by decide, by decide⟩ hid (hw64 _) (length_slice (by omega)) (by decide : (0 : Nat) ≤ 9223372036854775807))
  split
  · split
    · exact hz
    · exact ho _ _ (mkok ⟨by decide, by decide⟩ hid i64_0 (length_slice (by omega)) (by decide : (0 : Nat) ≤ 9223372036854775807))
  split
  · split
    · exact hz
    split
    · exact hz
    split
    · exact hz
    · exact ho _ _ (mkok ⟨by decide, by decide⟩ hid i64_0 rfl (by rw [length_slice (by omega)]; omega))
  · exact hz

def uA : UpdM := ⟨3, 5, 0, h0, [110, 111]⟩
def uB : UpdM := ⟨1, 0, 7, h0, []⟩
theorem uA_ok : uA.ok := ⟨⟨by decide, by decide⟩, ⟨by decide, by decide⟩, ⟨by decide, by decide⟩, rfl, by decide⟩
theorem uB_ok : uB.ok := ⟨⟨by decide, by decide⟩, ⟨by decide, by decide⟩, ⟨by decide, by decide⟩, rfl, by decide⟩
theorem tup0 (x : UpdM × Int × Int) : vextract (tupU x) 0 = some x.1.av := rfl
theorem tup1 (x : UpdM × Int × Int) : vextract (tupU x) 1 = some (.int .i64 x.2.1) := rfl
theorem tup2 (x : UpdM × Int × Int) : vextract (tupU x) 2 = some (.int .i64 x.2.2) := rfl

section
variable {F0 : List AId} {G0 G : Heap} {ps : List LP} {Q : AVal → Heap → Prop}

theorem nz0 {t : TypeId} {k : IntKind} {n : Int} : vbin T .neq t (.int k n) (.int k n) = some (.bool false) := by rw [vbin_neq, decide_eq_true rfl]; rfl
theorem ez0 {t : TypeId} {k : IntKind} {n : Int} : vbin T .eql t (.int k n) (.int k n) = some (.bool true) := by rw [vbin_eql, decide_eq_true rfl]

set_option maxHeartbeats 2000000 in
theorem escrowlaw12_head.use (hQ : ∀ G', Ch [] G [] G' → Q (.bool true) G') : ACalls P escrowlaw12_head.n [] G Q := by
  refine escrowlaw12_head.sound ?_
  unfold escrowlaw12_head.S
  rw [zUpd]
  refine wv_of (v := uA.av) rfl ?_
  refine update_Write.use uA_ok fun G3 c3 => ?_
  have hw : writeR uA = ([3, 0, 5, 0, 2, 110, 111], 0) := by decide
  rw [hw, vext0, wv_some, vext1, wv_some]
  have s3 := (Sp.nil G).tmp c3
  refine update_Read.use (by decide) fun G7 c7 => ?_
  have hr : readU [3, 0, 5, 0, 2, 110, 111, 33] = (uA, 7, 0) := by decide
  rw [hr, tup0, wv_some, tup1, wv_some, tup2, wv_some]
  have s7 := s3.tmp c7
  intro i11 f11
  have s11 := s7.row f11 UpdM.zero.av
  refine upd_store (i := 0) s11 rfl UpdM.zero_ok uA_ok fun G13 s13 => ?_
  refine update_Read.use (by decide) fun G15 c15 => ?_
  have hr2 : readU [3, 0, 5, 0, 65] = (UpdM.zero, 0, 120) := by decide
  rw [hr2, tup0, wv_some, tup1, wv_some, tup2, wv_some]
  have s15 := s13.tmp c15
  intro i19 f19
  have s19 := s15.row f19 UpdM.zero.av
  refine upd_store (i := 0) s19 rfl UpdM.zero_ok UpdM.zero_ok fun G21 s21 => ?_
  refine wv_of (v := uB.av) rfl ?_
  intro i23 f23
  have s23 := s21.row f23 UpdM.zero.av
  refine upd_store (i := 0) s23 rfl UpdM.zero_ok uB_ok fun G25 s25 => ?_
  have s25 : Sp [] G [RowL i23 uB.av, RowL i19 UpdM.zero.av, RowL i11 uA.av] G25 := s25
  intro J76
  have h76 : J76 (.bool false) G25 := by
    simp -zeta only [J76, brB_false]
    refine wv_of (upd_load (i := 0) s25 rfl uB_ok).2.2.2.2.2 ?_
    have one : ∀ {ps : List LP} {G' : Heap} {K : AVal → Heap → Prop}, Sp [] G ps G' → (∀ v G2, Sp [] G (OwnL 36 v ([uB].map UpdM.av) :: ps) G2 → K v G2) → aBuildSlice T t_sl_api_Update 1 [(0, uB.av)] G' K := fun hs hK =>
      buildV (T := T) (ts := t_sl_api_Update) (e := t_api_Update) (si := ti_sl_api_Update) (ie := ti_api_Update) T_sl_api_Update rfl T_api_Update rfl hs (UpdM.sz uB_ok) (by decide) hK
    have hok1 : ∀ u ∈ [uB], u.ok := fun u hu => by rw [List.mem_singleton.1 hu]; exact uB_ok
    refine one s25 fun v37 G38 s38 => ?_
    refine update_Find.use (OwnL.own (i := 0) s38 rfl).is hok1 (by decide) fun G40 c40 => ?_
    have s40 := s38.tmp c40
    have hf : firstU false 0 [uB] = some uB := by decide
    rw [hf, opt0, wv_some, opt1, wv_some]
    intro i43 f43
    have s43 := s40.row f43 UpdM.zero.av
    refine upd_store (i := 0) (u' := uB) s43 rfl UpdM.zero_ok uB_ok fun G45 s45 => ?_
    refine wv_of (upd_load (i := 2) s45 rfl uB_ok).2.2.2.2.2 ?_
    refine one s45 fun v47 G48 s48 => ?_
    refine update_Removal.use (OwnL.own (i := 0) s48 rfl).is hok1 (by decide) fun G50 c50 => ?_
    have s50 := s48.tmp c50
    have hf : firstU true 0 [uB] = none := by decide
    rw [hf, opt0, wv_some, opt1, wv_some]
    intro i53 f53
    have s53 := s50.row f53 UpdM.zero.av
    refine upd_store (i := 0) (u' := UpdM.zero) s53 rfl UpdM.zero_ok UpdM.zero_ok fun G55 s55 => ?_
    have s55 : Sp [] G [RowL i53 UpdM.zero.av, OwnL 36 v47 ([uB].map UpdM.av), RowL i43 uB.av, OwnL 36 v37 ([uB].map UpdM.av), RowL i23 uB.av, RowL i19 UpdM.zero.av, RowL i11 uA.av] G55 := s55
    refine wv_of (upd_load (i := 4) s55 rfl uB_ok).2.2.2.2.2 ?_
    refine update_Valid.use uB_ok fun G58 c58 => ?_
    have s58 := s55.tmp c58
    have hvB : validU uB = true := by decide
    rw [hvB, brB_true]
    refine wv_of (upd_load (i := 2) s58 rfl uB_ok).2.2.2.2.2 ?_
    refine wv_of (upd_load (i := 4) s58 rfl uB_ok).2.2.2.2.2 ?_
    rw [vbin_ueql uB_ok uB_ok, wv_some, decide_eq_true rfl, brB_true, Option.isSome_some, brB_true, Option.isSome_none, vun_not, wv_some, Bool.not_false, brB_true]
    refine wv_of (upd_load (i := 4) s58 rfl uB_ok).2.2.2.2.2 ?_
    refine update_Next.useA (mine := []) (.inr ⟨rfl, rfl⟩) (by simp) (by decide) uB_ok (.inl rfl) fun G65 c65 => ?_
    have s65 := s58.tmp c65
    have hn : nextA [] uB = 0 := by decide
    rw [hn, ez0, wv_some, brB_true]
    refine wv_of (upd_load (i := 4) s65 rfl uB_ok).2.2.2.2.2 ?_
    refine one s65 fun v68 G69 s69 => ?_
    refine wv_of (upd_load (i := 5) s69 rfl uB_ok).2.2.2.2.2 ?_
    refine update_Next.useA (mine := [uB]) (OwnL.own (i := 0) s69 rfl).is hok1 (by decide) uB_ok (.inl rfl) fun G72 c72 => ?_
    have hn : nextA [uB] uB = 120 := by decide
    rw [hn, ez0, wv_some]
    exact hQ _ (s69.tmp c72).ch
  rw [vbin_sneq, wv_some, decide_eq_true rfl, Bool.not_true, brB_false]
  first | rw [nz0, wv_some, brB_false] | rw [wv_some, brB_false]
  refine wv_of (upd_load (i := 2) s25 rfl uA_ok).2.2.2.2.2 ?_
  refine wv_of (v := uA.av) rfl ?_
  rw [vbin_uneq uA_ok uA_ok, wv_some, decide_eq_true rfl, Bool.not_true, brB_false]
  first | rw [nz0, wv_some, brB_false] | rw [wv_some, brB_false]
  first | rw [nz0, wv_some, brB_false] | rw [wv_some, brB_false]
  first | rw [nz0, wv_some] | rw [wv_some]
  exact h76

end

set_option maxRecDepth 20000 in
theorem law_UpdateBytes {G : Heap} {u b : AVal} {mu mb : Nat} (hu : wt T G reachBytes 4 t_api_Update u mu) (hb : wt T G reachBytes 4 t_string b mb) :
    ACalls P escrowlaw12_UpdateBytes.n [u, b] G fun v _ => v = .bool true := by
  obtain ⟨u, rfl, huo, _, _⟩ := wt_Upd hu
  obtain ⟨b, rfl, _, hbl, _⟩ := wt_str T_string rfl hb
  unfold maxLen at hbl
  refine escrowlaw12_UpdateBytes.sound ?_
  unfold escrowlaw12_UpdateBytes.S
  rw [zUpd]
  intro i1 f1
  have s1 := (Sp.nil G).row f1 u.av
  refine escrowlaw12_head.use fun G4 c4 => ?_
  have s4 := s1.tmp c4
  rw [vun_not, wv_some, Bool.not_true, brB_false]
  refine wv_of (upd_load (i := 0) s4 rfl huo).2.2.2.2.2 ?_
  refine update_Write.use huo fun G8 c8 => ?_
  have s8 := s4.tmp c8
  rw [vext0, wv_some, vext1, wv_some]
  refine wv_of (upd_load (i := 0) s8 rfl huo).2.2.2.2.2 ?_
  refine escrowref12_Write.use huo fun G13 c13 => ?_
  have s13 := s8.tmp c13
  rw [vext0, wv_some, vext1, wv_some]
  refine update_Read.use hbl fun G17 c17 => ?_
  have s17 := s13.tmp c17
  have hro := readU_ok hbl
  obtain ⟨r, hr⟩ : ∃ r, r = readU b := ⟨_, rfl⟩
  rw [← hr] at hro ⊢
  rw [tup0, wv_some, tup1, wv_some, tup2, wv_some]
  intro i21 f21
  have s21 := s17.row f21 UpdM.zero.av
  refine upd_store (i := 0) s21 rfl UpdM.zero_ok hro fun G23 s23 => ?_
  refine escrowref12_Read.use hbl fun G25 c25 => ?_
  have s25 := s23.tmp c25
  rw [← hr, tup0, wv_some, tup1, wv_some, tup2, wv_some]
  intro i29 f29
  have s29 := s25.row f29 UpdM.zero.av
  refine upd_store (i := 0) s29 rfl UpdM.zero_ok hro fun G31 s31 => ?_
  have s31 : Sp [] G [RowL i29 r.1.av, RowL i21 r.1.av, RowL i1 u.av] G31 := s31
  rw [vbin_seql, wv_some, decide_eq_true rfl, brB_true, ez0, wv_some, brB_true]
  refine wv_of (upd_load (i := 1) s31 rfl hro).2.2.2.2.2 ?_
  refine wv_of (upd_load (i := 0) s31 rfl hro).2.2.2.2.2 ?_
  rw [vbin_ueql hro hro, wv_some, decide_eq_true rfl, brB_true]
  simp -zeta only [ez0, wv_some, brB_true]
  refine wv_of (upd_load (i := 2) s31 rfl huo).2.2.2.2.2 ?_
  refine wv_of (upd_load (i := 2) s31 rfl huo).2.2.2.2.2 ?_
  refine update_Valid.use huo fun G42 c42 => ?_
  have s42 := s31.tmp c42
  refine ⟨⟨(upd_load (i := 2) s42 rfl huo).2.2.2.2.2, trivial⟩, ?_⟩
  refine escrowref12_Valid.use huo fun G44 c44 => ?_
  rw [vbin_beql T_bool rfl, wv_some, beq_self_eq_true]

end Go.Esc.M
