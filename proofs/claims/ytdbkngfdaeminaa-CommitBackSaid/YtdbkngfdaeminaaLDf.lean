/- Own work. Chapter 14: CommitReads. -/
import Derived.Test.YtdbkngfdaeminaaLDc
import Derived.Test.YtdbkngfdaeminaaLDe
set_option linter.unusedSimpArgs false
set_option linter.unusedVariables false
namespace Go.Esc.M
open Go Go.Esc

/-- What Read gives: a commitment's parts, or nothing. -/
def readS (b : List UInt8) (x : Int × Int × List UInt8 × Int × Int × List PenM × Int) : Prop :=
  (∃ c : Com, c.Valid ∧ b = c.text ∧ x = (c.owner, c.index, c.point, c.o, c.q, c.l, 0)) ∨ ((∀ c : Com, c.Valid → b ≠ c.text) ∧ x = (0, 0, List.replicate 32 0, 0, 0, [], 4))
theorem readS_only {b : List UInt8} {x y : Int × Int × List UInt8 × Int × Int × List PenM × Int} (h : readS b x) (k : readS b y) : x = y := by
  rcases h with ⟨c, hc, hb, rfl⟩ | ⟨h, rfl⟩
  · rcases k with ⟨d, hd, hb', rfl⟩ | ⟨k, rfl⟩
    · have : c = d := by
        have e1 := comR_text hc []
        have e2 := comR_text hd []
        rw [← hb, hb', e2] at e1
        simp only [Prod.mk.injEq] at e1
        exact e1.1.symm
      rw [this]
    · exact absurd hb (k c hc)
  · rcases k with ⟨d, hd, hb', rfl⟩ | ⟨k, rfl⟩
    · exact absurd hb' (h d hd)
    · rfl
theorem readS_ok {b : List UInt8} {ow ix o q e : Int} {pt : List UInt8} {l : List PenM} (h : readS b (ow, ix, pt, o, q, l, e)) : pt.length = 32 ∧ (∀ p ∈ l, p.ok) ∧ l.length ≤ 966 := by
  rcases h with ⟨c, hc, _, h⟩ | ⟨_, h⟩
  · injection h with h1 h
    injection h with h2 h
    injection h with h3 h
    injection h with h4 h
    injection h with h5 h
    injection h with h6 h
    subst h3 h6
    exact ⟨hc.point, hc.ok, soundP_length hc.sound⟩
  · injection h with h1 h
    injection h with h2 h
    injection h with h3 h
    injection h with h4 h
    injection h with h5 h
    injection h with h6 h
    subst h3 h6
    exact ⟨rfl, by simp, by simp⟩

section
variable {F0 : List AId} {G0 G : Heap} {ps : List LP} {Q : AVal → Heap → Prop}

theorem commit_Read.use' {b : List UInt8}
    (hQ : ∀ ow ix pt o q l e v G', readS b (ow, ix, pt, o, q, l, e) → Sp [] G [OwnL 35 v (l.map PenM.av)] G' → Q (.tuple [.int .i64 ow, .int .i64 ix, .agg (pt.map u8v), ledV o q v, .int .i64 e]) G') :
    ACalls P commit_Read.n [.str b] G Q := by
  refine commit_Read.use (fun c hc hb v G' s => hQ _ _ _ _ _ c.l _ v G' (.inl ⟨c, hc, hb, rfl⟩) s) fun hall G' c => ?_
  exact hQ 0 0 (List.replicate 32 0) 0 0 [] 4 .nilSlice G' (.inr ⟨hall, rfl⟩) (((Sp.nil G).tmp c).nilL 35)
theorem escrowref14_Read.use' {b : List UInt8} (hbl : b.length ≤ 70368744177664)
    (hQ : ∀ ow ix pt o q l e v G', readS b (ow, ix, pt, o, q, l, e) → Sp [] G [OwnL 35 v (l.map PenM.av)] G' → Q (.tuple [.int .i64 ow, .int .i64 ix, .agg (pt.map u8v), ledV o q v, .int .i64 e]) G') :
    ACalls P escrowref14_Read.n [.str b] G Q := by
  refine escrowref14_Read.use hbl (fun c hc hb v G' s => hQ _ _ _ _ _ c.l _ v G' (.inl ⟨c, hc, hb, rfl⟩) s) fun hall G' c => ?_
  exact hQ 0 0 (List.replicate 32 0) 0 0 [] 4 .nilSlice G' (.inr ⟨hall, rfl⟩) (((Sp.nil G).tmp c).nilL 35)

end

set_option maxRecDepth 20000 in
theorem law_CommitReads {R : Nat} {G : Heap} {b : AVal} {mb : Nat} (hb : wt T G R 4 t_string b mb) (hm : mb ≤ 1048576) :
    ACalls P escrowlaw14_CommitReads.n [b] G fun v _ => v = .bool true := by
  obtain ⟨b, rfl, _, _, hbm⟩ := wt_str T_string rfl hb
  refine escrowlaw14_CommitReads.sound ?_
  unfold escrowlaw14_CommitReads.S
  rw [z_hash, zLed]
  refine commit_Read.use' fun ow ix pt o q l e v G2 hr s2 => ?_
  refine wv_of (v := .int .i64 ow) rfl ?_
  refine wv_of (v := .int .i64 ix) rfl ?_
  refine wv_of (v := .agg (pt.map u8v)) rfl ?_
  refine wv_of (v := ledV o q v) rfl ?_
  refine wv_of (v := .int .i64 e) rfl ?_
  obtain ⟨hpt, hok, hl⟩ := readS_ok hr
  have hv := (OwnL.own (i := 0) s2 rfl).leaf
  intro i8 f8
  have s8 := s2.row f8 (.agg ((List.replicate 32 (0 : UInt8)).map u8v))
  intro i10 f10
  have s10 := s8.row f10 (ledV 0 0 .nilSlice)
  refine hash_store (i := 1) s10 rfl zh_len hpt fun G12 s12 => ?_
  refine led_store (i := 0) s12 rfl rfl hv fun G13 s13 => ?_
  have s13 : Sp [] G [RowL i10 (ledV o q v), RowL i8 (.agg (pt.map u8v)), OwnL 35 v (l.map PenM.av)] G13 := s13
  refine escrowref14_Read.use' (by omega) fun ow' ix' pt' o' q' l' e' v' G15 hr' s15 => ?_
  have hsame := readS_only hr hr'
  simp only [Prod.mk.injEq] at hsame
  obtain ⟨rfl, rfl, rfl, rfl, rfl, rfl, rfl⟩ := hsame
  obtain ⟨F15, ho15, c15⟩ := s15.out
  have s15 := s13.new ho15 c15
  refine wv_of (v := .int .i64 ow) rfl ?_
  refine wv_of (v := .int .i64 ix) rfl ?_
  refine wv_of (v := .agg (pt.map u8v)) rfl ?_
  refine wv_of (v := ledV o q v') rfl ?_
  refine wv_of (v := .int .i64 e) rfl ?_
  have hv' := (OwnL.own (i := 0) s15 rfl).leaf
  intro i21 f21
  have s21 := s15.row f21 (.agg ((List.replicate 32 (0 : UInt8)).map u8v))
  intro i23 f23
  have s23 := s21.row f23 (ledV 0 0 .nilSlice)
  refine hash_store (i := 1) s23 rfl zh_len hpt fun G25 s25 => ?_
  refine led_store (i := 0) s25 rfl rfl hv' fun G26 s26 => ?_
  have s26 : Sp [] G [RowL i23 (ledV o q v'), RowL i21 (.agg (pt.map u8v)), OwnL 35 v' (l.map PenM.av), RowL i10 (ledV o q v), RowL i8 (.agg (pt.map u8v)), OwnL 35 v (l.map PenM.av)] G26 := s26
  rw [vbin_eql, wv_some, decide_eq_true rfl, brB_true, vbin_eql, wv_some, decide_eq_true rfl, brB_true]
  refine wv_of (load_hash hpt (RowL.own (i := 4) s26 rfl)) ?_
  refine wv_of (load_hash hpt (RowL.own (i := 1) s26 rfl)) ?_
  rw [vbin_heql (i := ti_api_Hash) (ie := ti_uint8) (n := 32) T_api_Hash rfl T_uint8 rfl rfl hpt hpt, wv_some, decide_eq_true rfl, brB_true]
  refine wv_of (led_load (i := 3) s26 rfl hv).2.2.2 ?_
  refine wv_of (led_load (i := 0) s26 rfl hv').2.2.2 ?_
  refine escrowlaw14_same.use (OwnL.own (i := 5) s26 rfl).is (OwnL.own (i := 2) s26 rfl).is hok hok (by omega) fun bb G35 hbb c35 => ?_
  rw [hbb.2 ⟨rfl, rfl, rfl⟩, brB_true, vbin_eql, wv_some, decide_eq_true rfl, brB_true]
  exact escrowlaw14_first.use fun _ _ => rfl

end Go.Esc.M
