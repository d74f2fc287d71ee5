import Derived.Test.YtdbkngfdaeminaaLDd
import Derived.Test.YtdbkngfdaeminaaLDc
/- Own work. Chapter 14: the document's example. -/
set_option linter.unusedSimpArgs false
set_option linter.unusedVariables false
set_option maxRecDepth 20000
namespace Go.Esc.M
open Go Go.Esc

def z32 : List UInt8 := List.replicate 32 0
def p1 : PenM := ⟨true, 3, 9, z32⟩
def h7 : List UInt8 := 7 :: List.replicate 31 0
def c1 : Com := ⟨1, 5, h7, 10, 20, [p1]⟩
theorem p1_ok : p1.ok := ⟨⟨by decide, by decide⟩, ⟨by decide, by decide⟩, rfl⟩
theorem c1_valid : c1.Valid := ⟨by decide, by decide, rfl, fun p hp => by rw [List.mem_singleton.1 hp]; exact p1_ok⟩
theorem c1_len : c1.text.length = 108 := by decide
theorem c1_at : c1.text[0]? = some 1 ∧ c1.text[8]? = some 5 ∧ c1.text[9]? = some 7 ∧ c1.text[59]? = some 1 := by decide

theorem idx {l : List UInt8} {j : Nat} {b : UInt8} (h : l[j]? = some b) : vindex T t_string (.str l) (.int .i64 (j : Nat)) = some (.int .u8 (b.toNat : Nat)) := by
  obtain ⟨hj, rfl⟩ := List.getElem?_eq_some_iff.1 h
  exact vindex_str hj

theorem build_led {o q : Int} {v : AVal} (hv : sz v = 1) : vbuild T t_api_Ledger [(0, .int .i64 o), (1, .int .i64 q), (2, v)] = some (ledV o q v) := by
  have hf : ∀ pl : Nat → Option (Nat × Nat), pl 0 = some (0, 1) → pl 1 = some (1, 1) → pl 2 = some (2, 1) → fillA pl [.int .i64 0, .int .i64 0, .nilSlice] [(0, .int .i64 o), (1, .int .i64 q), (2, v)] = some [.int .i64 o, .int .i64 q, v] := by
    intro pl e0 e1 e2
    simp [fillA, e0, e1, e2, sz, szs, hv]
  have ha : [(t_int64, 0), (t_int64, 1), (t_sl_api_Pending, 2)].all (fun g => (T g.1).isSome) = true := rfl
  have hf := hf (places T [(t_int64, 0), (t_int64, 1), (t_sl_api_Pending, 2)]) rfl rfl rfl
  unfold vbuild
  have e1 : ti_api_Ledger.desc = .struct [(t_int64, 0), (t_int64, 1), (t_sl_api_Pending, 2)] := rfl
  have e2 : ti_api_Ledger.zero = .agg [.int .i64 0, .int .i64 0, .nilSlice] := rfl
  simp only [T_api_Ledger, e1, e2, ha, if_true, hf]
  rfl

section
variable {F0 : List AId} {G0 G : Heap} {ps : List LP} {Q : AVal → Heap → Prop}

set_option maxHeartbeats 2000000 in
theorem escrowlaw14_first.use (hQ : ∀ G', Ch [] G [] G' → Q (.bool true) G') : ACalls P escrowlaw14_first.n [] G Q := by
  refine escrowlaw14_first.sound ?_
  unfold escrowlaw14_first.S
  rw [zLed]
  refine wv_of (v := p1.av) rfl ?_
  refine buildV (T := T) (ts := t_sl_api_Pending) (e := t_api_Pending) (si := ti_sl_api_Pending) (ie := ti_api_Pending) T_sl_api_Pending rfl T_api_Pending rfl (Sp.nil G) (PenM.sz p1_ok) (by decide) fun v2 G3 s3 => ?_
  have s3 : Sp [] G [OwnL 35 v2 ([p1].map PenM.av)] G3 := s3
  have hv := (OwnL.own (i := 0) s3 rfl).leaf
  refine wv_of (build_led hv.1) ?_
  intro i5 f5
  have s5 := s3.row f5 (ledV 0 0 .nilSlice)
  refine led_store (i := 0) s5 rfl rfl hv fun G7 s7 => ?_
  have s7 : Sp [] G [RowL i5 (ledV 10 20 v2), OwnL 35 v2 ([p1].map PenM.av)] G7 := s7
  refine wv_of (v := .agg (h7.map u8v)) rfl ?_
  refine wv_of (led_load (i := 0) s7 rfl hv).2.2.2 ?_
  have hok1 : ∀ p ∈ [p1], p.ok := c1_valid.ok
  refine commit_Text.use (point := h7) rfl (OwnL.own (i := 1) s7 rfl).is hok1 (by decide) fun G11 c11 => ?_
  have hR : textR 1 5 h7 10 20 [p1] = (c1.text, 0) := rfl
  rw [hR]
  have s11 := s7.tmp c11
  obtain ⟨b, hb⟩ : ∃ b, b = c1.text := ⟨_, rfl⟩
  have hat := c1_at
  have hlen := c1_len
  rw [← hb] at hat hlen ⊢
  rw [vext0, wv_some, vext1, wv_some]
  refine commit_Read.use (fun c hc hbc v G15 s15 => ?_) fun hall => absurd hb (hall c1 c1_valid)
  have hcc : c = c1 := by
    have e1 := comR_text hc []
    have e2 := comR_text c1_valid []
    rw [← hbc, hb, e2] at e1
    simp only [Prod.mk.injEq] at e1
    exact e1.1.symm
  subst hcc
  obtain ⟨F15, ho15, c15⟩ := s15.out
  have s15 := s11.new ho15 c15
  have s15 : Sp [] G [OwnL 35 v ([p1].map PenM.av), RowL i5 (ledV 10 20 v2), OwnL 35 v2 ([p1].map PenM.av)] G15 := s15
  refine wv_of (v := .int .i64 1) rfl ?_
  refine wv_of (v := .int .i64 5) rfl ?_
  refine wv_of (v := .agg (h7.map u8v)) rfl ?_
  refine wv_of (v := ledV 10 20 v) rfl ?_
  refine wv_of (v := .int .i64 0) rfl ?_
  have hw := (OwnL.own (i := 0) s15 rfl).leaf
  rw [z_hash]
  intro i21 f21
  have s21 := s15.row f21 (.agg ((List.replicate 32 (0 : UInt8)).map u8v))
  intro i23 f23
  have s23 := s21.row f23 (ledV 0 0 .nilSlice)
  refine hash_store (i := 1) (h' := h7) s23 rfl zh_len rfl fun G25 s25 => ?_
  refine led_store (i := 0) s25 rfl rfl hw fun G26 s26 => ?_
  have s26 : Sp [] G [RowL i23 (ledV 10 20 v), RowL i21 (.agg (h7.map u8v)), OwnL 35 v ([p1].map PenM.av), RowL i5 (ledV 10 20 v2), OwnL 35 v2 ([p1].map PenM.av)] G26 := s26
  refine wv_of (led_load (i := 3) s26 rfl hv).2.2.2 ?_
  refine commit_Turn.use (OwnL.own (i := 4) s26 rfl).is hok1 (by decide) fun v28 G29 s29 => ?_
  obtain ⟨F29, ho29, c29⟩ := s29.out
  have s29 := s26.new ho29 c29
  have ht := (OwnL.own (i := 0) s29 rfl).leaf
  intro i30 f30
  have s30 := s29.row f30 (ledV 0 0 .nilSlice)
  refine led_store (i := 0) s30 rfl rfl ht fun G32 s32 => ?_
  have s32 : Sp [] G [RowL i30 (ledV 20 10 v28), OwnL 35 v28 ((turnL [p1]).map PenM.av), RowL i23 (ledV 10 20 v), RowL i21 (.agg (h7.map u8v)), OwnL 35 v ([p1].map PenM.av), RowL i5 (ledV 10 20 v2), OwnL 35 v2 ([p1].map PenM.av)] G32 := s32
  first | rw [vbin_eql, wv_some, brB_dec] | rw [wv_some, brB_dec]
  refine ⟨fun _ => ?_, fun h => absurd rfl h⟩
  first | rw [vbin_eql, wv_some, brB_dec] | rw [wv_some, brB_dec]
  refine ⟨fun _ => ?_, fun h => absurd rfl h⟩
  show wv (some (.int .i64 (b.length : Nat))) _
  rw [hlen, wv_some, vbin_eql, wv_some, brB_dec]
  refine ⟨fun _ => ?_, fun h => absurd rfl h⟩
  refine wv_of (idx hat.1) ?_
  first | rw [vbin_eql, wv_some, brB_dec] | rw [wv_some, brB_dec]
  refine ⟨fun _ => ?_, fun h => absurd rfl h⟩
  refine wv_of (idx hat.2.1) ?_
  first | rw [vbin_eql, wv_some, brB_dec] | rw [wv_some, brB_dec]
  refine ⟨fun _ => ?_, fun h => absurd rfl h⟩
  refine wv_of (idx hat.2.2.1) ?_
  first | rw [vbin_eql, wv_some, brB_dec] | rw [wv_some, brB_dec]
  refine ⟨fun _ => ?_, fun h => absurd rfl h⟩
  refine wv_of (idx hat.2.2.2) ?_
  first | rw [vbin_eql, wv_some, brB_dec] | rw [wv_some, brB_dec]
  refine ⟨fun _ => ?_, fun h => absurd rfl h⟩
  first | rw [vbin_eql, wv_some, brB_dec] | rw [wv_some, brB_dec]
  refine ⟨fun _ => ?_, fun h => absurd rfl h⟩
  first | rw [vbin_eql, wv_some, brB_dec] | rw [wv_some, brB_dec]
  refine ⟨fun _ => ?_, fun h => absurd rfl h⟩
  refine wv_of (load_hash (hs := h7) rfl (RowL.own (i := 3) s32 rfl)) ?_
  refine wv_of (v := .agg (h7.map u8v)) rfl ?_
  rw [vbin_heql (i := ti_api_Hash) (ie := ti_uint8) (n := 32) T_api_Hash rfl T_uint8 rfl rfl rfl rfl, wv_some, brB_dec]
  refine ⟨fun _ => ?_, fun h => absurd rfl h⟩
  refine wv_of (led_load (i := 2) s32 rfl hw).2.2.2 ?_
  refine wv_of (led_load (i := 5) s32 rfl hv).2.2.2 ?_
  refine escrowlaw14_same.use (OwnL.own (i := 4) s32 rfl).is (OwnL.own (i := 6) s32 rfl).is hok1 hok1 (by decide) fun bb G53 hbb c53 => ?_
  have s53 := s32.tmp c53
  rw [brB_bool]
  refine ⟨fun _ => ?_, fun h => absurd (hbb.2 ⟨rfl, rfl, rfl⟩) (by rw [h]; decide)⟩
  refine wv_of (led_load (i := 0) s53 rfl ht).2.2.2 ?_
  refine wv_of (v := ({ p1 with ours := false } : PenM).av) rfl ?_
  refine buildV (T := T) (ts := t_sl_api_Pending) (e := t_api_Pending) (si := ti_sl_api_Pending) (ie := ti_api_Pending) T_sl_api_Pending rfl T_api_Pending rfl s53 rfl (by decide) fun v56 G57 s57 => ?_
  have hx := (OwnL.own (i := 0) s57 rfl).leaf
  refine wv_of (build_led hx.1) ?_
  have hokt : ∀ p ∈ [({ p1 with ours := false } : PenM)], p.ok := fun p hp => by rw [List.mem_singleton.1 hp]; exact p1_ok.side false
  refine escrowlaw14_same.use (l' := [({ p1 with ours := false } : PenM)]) (OwnL.own (i := 2) s57 rfl).is (OwnL.own (i := 0) s57 rfl).is (turnL_ok hok1) hokt (by decide) fun bb G60 hbb c60 => ?_
  have : bb = true := hbb.2 ⟨rfl, rfl, by decide⟩
  rw [this]
  exact hQ _ (s57.tmp c60).ch

end
end Go.Esc.M

/- Own work. Chapter 14: CommitReads. -/
set_option linter.unusedSimpArgs false
set_option linter.unusedVariables false
set_option maxRecDepth 20000
namespace Go.Esc.M
open Go Go.Esc

/-- What Read gives: a commitment's parts, or nothing. -/
def readS (b : List UInt8) (x : Int × Int × List UInt8 × Int × Int × List PenM × Int) : Prop :=
  (∃ c : Com, c.Valid ∧ b = c.text ∧ x = (c.owner, c.index, c.point, c.o, c.q, c.l, 0)) ∨ ((∀ c : Com, c.Valid → b ≠ c.text) ∧ x = (0, 0, List.replicate 32 0, 0, 0, [], 4))
theorem readS_only {b : List UInt8} {x y : Int × Int × List UInt8 × Int × Int × List PenM × Int} (h : readS b x) (k : readS b y) : x = y := by
  rcases h with ⟨c, hc, hb, rfl⟩ | ⟨h, rfl⟩
  · rcases k with ⟨d, hd, hb', rfl⟩ | ⟨k, rfl⟩
    · have : c = d := by
        have e1 := comR_text hc []
        have e2 := comR_text hd []
        rw [← hb, hb', e2] at e1
        simp only [Prod.mk.injEq] at e1
        exact e1.1.symm
      rw [this]
    · exact absurd hb (k c hc)
  · rcases k with ⟨d, hd, hb', rfl⟩ | ⟨k, rfl⟩
    · exact absurd hb' (h d hd)
    · rfl
theorem readS_ok {b : List UInt8} {ow ix o q e : Int} {pt : List UInt8} {l : List PenM} (h : readS b (ow, ix, pt, o, q, l, e)) : pt.length = 32 ∧ (∀ p ∈ l, p.ok) ∧ l.length ≤ 966 := by
  rcases h with ⟨c, hc, _, h⟩ | ⟨_, h⟩
  · injection h with h1 h
    injection h with h2 h
    injection h with h3 h
    injection h with h4 h
    injection h with h5 h
    injection h with h6 h
    subst h3 h6
    exact ⟨hc.point, hc.ok, soundP_length hc.sound⟩
  · injection h with h1 h
    injection h with h2 h
    injection h with h3 h
    injection h with h4 h
    injection h with h5 h
    injection h with h6 h
    subst h3 h6
    exact ⟨rfl, by simp, by simp⟩

section
variable {F0 : List AId} {G0 G : Heap} {ps : List LP} {Q : AVal → Heap → Prop}

theorem commit_Read.use' {b : List UInt8}
    (hQ : ∀ ow ix pt o q l e v G', readS b (ow, ix, pt, o, q, l, e) → Sp [] G [OwnL 35 v (l.map PenM.av)] G' → Q (.tuple [.int .i64 ow, .int .i64 ix, .agg (pt.map u8v), ledV o q v, .int .i64 e]) G') :
    ACalls P commit_Read.n [.str b] G Q := by
  refine commit_Read.use (fun c hc hb v G' s => hQ _ _ _ _ _ c.l _ v G' (.inl ⟨c, hc, hb, rfl⟩) s) fun hall G' c => ?_
  exact hQ 0 0 (List.replicate 32 0) 0 0 [] 4 .nilSlice G' (.inr ⟨hall, rfl⟩) (((Sp.nil G).tmp c).nilL 35)
theorem escrowref14_Read.use' {b : List UInt8} (hbl : b.length ≤ 140737488355328)
    (hQ : ∀ ow ix pt o q l e v G', readS b (ow, ix, pt, o, q, l, e) → Sp [] G [OwnL 35 v (l.map PenM.av)] G' → Q (.tuple [.int .i64 ow, .int .i64 ix, .agg (pt.map u8v), ledV o q v, .int .i64 e]) G') :
    ACalls P escrowref14_Read.n [.str b] G Q := by
  refine escrowref14_Read.use hbl (fun c hc hb v G' s => hQ _ _ _ _ _ c.l _ v G' (.inl ⟨c, hc, hb, rfl⟩) s) fun hall G' c => ?_
  exact hQ 0 0 (List.replicate 32 0) 0 0 [] 4 .nilSlice G' (.inr ⟨hall, rfl⟩) (((Sp.nil G).tmp c).nilL 35)

end

set_option maxRecDepth 20000 in
theorem law_CommitReads {G : Heap} {b : AVal} {mb : Nat} (hb : wt T G reachBytes 4 t_string b mb) :
    ACalls P escrowlaw14_CommitReads.n [b] G fun v _ => v = .bool true := by
  obtain ⟨b, rfl, hbl, _⟩ := wt_str T_string rfl hb
  have hbl : b.length ≤ 140737488351232 := hbl
  refine escrowlaw14_CommitReads.sound ?_
  unfold escrowlaw14_CommitReads.S
  rw [z_hash, zLed]
  refine commit_Read.use' fun ow ix pt o q l e v G2 hr s2 => ?_
  refine wv_of (v := .int .i64 ow) rfl ?_
  refine wv_of (v := .int .i64 ix) rfl ?_
  refine wv_of (v := .agg (pt.map u8v)) rfl ?_
  refine wv_of (v := ledV o q v) rfl ?_
  refine wv_of (v := .int .i64 e) rfl ?_
  obtain ⟨hpt, hok, hl⟩ := readS_ok hr
  have hv := (OwnL.own (i := 0) s2 rfl).leaf
  intro i8 f8
  have s8 := s2.row f8 (.agg ((List.replicate 32 (0 : UInt8)).map u8v))
  intro i10 f10
  have s10 := s8.row f10 (ledV 0 0 .nilSlice)
  refine hash_store (i := 1) s10 rfl zh_len hpt fun G12 s12 => ?_
  refine led_store (i := 0) s12 rfl rfl hv fun G13 s13 => ?_
  have s13 : Sp [] G [RowL i10 (ledV o q v), RowL i8 (.agg (pt.map u8v)), OwnL 35 v (l.map PenM.av)] G13 := s13
  refine escrowref14_Read.use' (by omega) fun ow' ix' pt' o' q' l' e' v' G15 hr' s15 => ?_
  have hsame := readS_only hr hr'
  simp only [Prod.mk.injEq] at hsame
  obtain ⟨rfl, rfl, rfl, rfl, rfl, rfl, rfl⟩ := hsame
  obtain ⟨F15, ho15, c15⟩ := s15.out
  have s15 := s13.new ho15 c15
  refine wv_of (v := .int .i64 ow) rfl ?_
  refine wv_of (v := .int .i64 ix) rfl ?_
  refine wv_of (v := .agg (pt.map u8v)) rfl ?_
  refine wv_of (v := ledV o q v') rfl ?_
  refine wv_of (v := .int .i64 e) rfl ?_
  have hv' := (OwnL.own (i := 0) s15 rfl).leaf
  intro i21 f21
  have s21 := s15.row f21 (.agg ((List.replicate 32 (0 : UInt8)).map u8v))
  intro i23 f23
  have s23 := s21.row f23 (ledV 0 0 .nilSlice)
  refine hash_store (i := 1) s23 rfl zh_len hpt fun G25 s25 => ?_
  refine led_store (i := 0) s25 rfl rfl hv' fun G26 s26 => ?_
  have s26 : Sp [] G [RowL i23 (ledV o q v'), RowL i21 (.agg (pt.map u8v)), OwnL 35 v' (l.map PenM.av), RowL i10 (ledV o q v), RowL i8 (.agg (pt.map u8v)), OwnL 35 v (l.map PenM.av)] G26 := s26
  rw [vbin_eql, wv_some, decide_eq_true rfl, brB_true, vbin_eql, wv_some, decide_eq_true rfl, brB_true]
  refine wv_of (load_hash hpt (RowL.own (i := 4) s26 rfl)) ?_
  refine wv_of (load_hash hpt (RowL.own (i := 1) s26 rfl)) ?_
  rw [vbin_heql (i := ti_api_Hash) (ie := ti_uint8) (n := 32) T_api_Hash rfl T_uint8 rfl rfl hpt hpt, wv_some, decide_eq_true rfl, brB_true]
  refine wv_of (led_load (i := 3) s26 rfl hv).2.2.2 ?_
  refine wv_of (led_load (i := 0) s26 rfl hv').2.2.2 ?_
  refine escrowlaw14_same.use (OwnL.own (i := 5) s26 rfl).is (OwnL.own (i := 2) s26 rfl).is hok hok (by omega) fun bb G35 hbb c35 => ?_
  rw [hbb.2 ⟨rfl, rfl, rfl⟩, brB_true, vbin_eql, wv_some, decide_eq_true rfl, brB_true]
  exact escrowlaw14_first.use fun _ _ => rfl

end Go.Esc.M
