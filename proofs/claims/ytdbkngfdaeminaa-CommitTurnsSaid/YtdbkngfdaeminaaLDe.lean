/- Own work. Chapter 14: the document's example. -/
import Derived.Test.YtdbkngfdaeminaaLDd
set_option linter.unusedSimpArgs false
set_option linter.unusedVariables false
namespace Go.Esc.M
open Go Go.Esc

def z32 : List UInt8 := List.replicate 32 0
def p1 : PenM := ⟨true, 3, 9, z32⟩
def h7 : List UInt8 := 7 :: List.replicate 31 0
def c1 : Com := ⟨1, 5, h7, 10, 20, [p1]⟩
theorem p1_ok : p1.ok := ⟨⟨by decide, by decide⟩, ⟨by decide, by decide⟩, rfl⟩
theorem c1_valid : c1.Valid := ⟨by decide, by decide, rfl, fun p hp => by rw [List.mem_singleton.1 hp]; exact p1_ok⟩
theorem c1_len : c1.text.length = 108 := by decide
theorem c1_at : c1.text[0]? = some 1 ∧ c1.text[8]? = some 5 ∧ c1.text[9]? = some 7 ∧ c1.text[59]? = some 1 := by decide

theorem idx {l : List UInt8} {j : Nat} {b : UInt8} (h : l[j]? = some b) : vindex T t_string (.str l) (.int .i64 (j : Nat)) = some (.int .u8 (b.toNat : Nat)) := by
  obtain ⟨hj, rfl⟩ := List.getElem?_eq_some_iff.1 h
  exact vindex_str hj

theorem build_led {o q : Int} {v : AVal} (hv : sz v = 1) : vbuild T t_api_Ledger [(0, .int .i64 o), (1, .int .i64 q), (2, v)] = some (ledV o q v) := by
  have hf : ∀ pl : Nat → Option (Nat × Nat), pl 0 = some (0, 1) → pl 1 = some (1, 1) → pl 2 = some (2, 1) → fillA pl [.int .i64 0, .int .i64 0, .nilSlice] [(0, .int .i64 o), (1, .int .i64 q), (2, v)] = some [.int .i64 o, .int .i64 q, v] := by
    intro pl e0 e1 e2
    simp [fillA, e0, e1, e2, sz, szs, hv]
  have ha : [(t_int64, 0), (t_int64, 1), (t_sl_api_Pending, 2)].all (fun g => (T g.1).isSome) = true := rfl
  have hf := hf (places T [(t_int64, 0), (t_int64, 1), (t_sl_api_Pending, 2)]) rfl rfl rfl
  unfold vbuild
  have e1 : ti_api_Ledger.desc = .struct [(t_int64, 0), (t_int64, 1), (t_sl_api_Pending, 2)] := rfl
  have e2 : ti_api_Ledger.zero = .agg [.int .i64 0, .int .i64 0, .nilSlice] := rfl
  simp only [T_api_Ledger, e1, e2, ha, if_true, hf]
  rfl

section
variable {F0 : List AId} {G0 G : Heap} {ps : List LP} {Q : AVal → Heap → Prop}

set_option maxHeartbeats 2000000 in
theorem escrowlaw14_first.use (hQ : ∀ G', Ch [] G [] G' → Q (.bool true) G') : ACalls P escrowlaw14_first.n [] G Q := by
  refine escrowlaw14_first.sound ?_
  unfold escrowlaw14_first.S
  rw [zLed]
  refine wv_of (v := p1.av) rfl ?_
  refine buildV (T := T) (ts := t_sl_api_Pending) (e := t_api_Pending) (si := ti_sl_api_Pending) (ie := ti_api_Pending) T_sl_api_Pending rfl T_api_Pending rfl (Sp.nil G) (PenM.sz p1_ok) (by decide) fun v2 G3 s3 => ?_
  have s3 : Sp [] G [OwnL 35 v2 ([p1].map PenM.av)] G3 := s3
  have hv := (OwnL.own (i := 0) s3 rfl).leaf
  refine wv_of (build_led hv.1) ?_
  intro i5 f5
  have s5 := s3.row f5 (ledV 0 0 .nilSlice)
  refine led_store (i := 0) s5 rfl rfl hv fun G7 s7 => ?_
  have s7 : Sp [] G [RowL i5 (ledV 10 20 v2), OwnL 35 v2 ([p1].map PenM.av)] G7 := s7
  refine wv_of (v := .agg (h7.map u8v)) rfl ?_
  refine wv_of (led_load (i := 0) s7 rfl hv).2.2.2 ?_
  have hok1 : ∀ p ∈ [p1], p.ok := c1_valid.ok
  refine commit_Text.use (point := h7) rfl (OwnL.own (i := 1) s7 rfl).is hok1 (by decide) fun G11 c11 => ?_
  have hR : textR 1 5 h7 10 20 [p1] = (c1.text, 0) := rfl
  rw [hR]
  have s11 := s7.tmp c11
  obtain ⟨b, hb⟩ : ∃ b, b = c1.text := ⟨_, rfl⟩
  have hat := c1_at
  have hlen := c1_len
  rw [← hb] at hat hlen ⊢
  rw [vext0, wv_some, vext1, wv_some]
  refine commit_Read.use (fun c hc hbc v G15 s15 => ?_) fun hall => absurd hb (hall c1 c1_valid)
  have hcc : c = c1 := by
    have e1 := comR_text hc []
    have e2 := comR_text c1_valid []
    rw [← hbc, hb, e2] at e1
    simp only [Prod.mk.injEq] at e1
    exact e1.1.symm
  subst hcc
  obtain ⟨F15, ho15, c15⟩ := s15.out
  have s15 := s11.new ho15 c15
  have s15 : Sp [] G [OwnL 35 v ([p1].map PenM.av), RowL i5 (ledV 10 20 v2), OwnL 35 v2 ([p1].map PenM.av)] G15 := s15
  refine wv_of (v := .int .i64 1) rfl ?_
  refine wv_of (v := .int .i64 5) rfl ?_
  refine wv_of (v := .agg (h7.map u8v)) rfl ?_
  refine wv_of (v := ledV 10 20 v) rfl ?_
  refine wv_of (v := .int .i64 0) rfl ?_
  have hw := (OwnL.own (i := 0) s15 rfl).leaf
  rw [z_hash]
  intro i21 f21
  have s21 := s15.row f21 (.agg ((List.replicate 32 (0 : UInt8)).map u8v))
  intro i23 f23
  have s23 := s21.row f23 (ledV 0 0 .nilSlice)
  refine hash_store (i := 1) (h' := h7) s23 rfl zh_len rfl fun G25 s25 => ?_
  refine led_store (i := 0) s25 rfl rfl hw fun G26 s26 => ?_
  have s26 : Sp [] G [RowL i23 (ledV 10 20 v), RowL i21 (.agg (h7.map u8v)), OwnL 35 v ([p1].map PenM.av), RowL i5 (ledV 10 20 v2), OwnL 35 v2 ([p1].map PenM.av)] G26 := s26
  refine wv_of (led_load (i := 3) s26 rfl hv).2.2.2 ?_
  refine commit_Turn.use (OwnL.own (i := 4) s26 rfl).is hok1 (by decide) fun v28 G29 s29 => ?_
  obtain ⟨F29, ho29, c29⟩ := s29.out
  have s29 := s26.new ho29 c29
  have ht := (OwnL.own (i := 0) s29 rfl).leaf
  intro i30 f30
  have s30 := s29.row f30 (ledV 0 0 .nilSlice)
  refine led_store (i := 0) s30 rfl rfl ht fun G32 s32 => ?_
  have s32 : Sp [] G [RowL i30 (ledV 20 10 v28), OwnL 35 v28 ((turnL [p1]).map PenM.av), RowL i23 (ledV 10 20 v), RowL i21 (.agg (h7.map u8v)), OwnL 35 v ([p1].map PenM.av), RowL i5 (ledV 10 20 v2), OwnL 35 v2 ([p1].map PenM.av)] G32 := s32
  first | rw [vbin_eql, wv_some, brB_dec] | rw [wv_some, brB_dec]
  refine ⟨fun _ => ?_, fun h => absurd rfl h⟩
  first | rw [vbin_eql, wv_some, brB_dec] | rw [wv_some, brB_dec]
  refine ⟨fun _ => ?_, fun h => absurd rfl h⟩
  show wv (some (.int .i64 (b.length : Nat))) _
  rw [hlen, wv_some, vbin_eql, wv_some, brB_dec]
  refine ⟨fun _ => ?_, fun h => absurd rfl h⟩
  refine wv_of (idx hat.1) ?_
  first | rw [vbin_eql, wv_some, brB_dec] | rw [wv_some, brB_dec]
  refine ⟨fun _ => ?_, fun h => absurd rfl h⟩
  refine wv_of (idx hat.2.1) ?_
  first | rw [vbin_eql, wv_some, brB_dec] | rw [wv_some, brB_dec]
  refine ⟨fun _ => ?_, fun h => absurd rfl h⟩
  refine wv_of (idx hat.2.2.1) ?_
  first | rw [vbin_eql, wv_some, brB_dec] | rw [wv_some, brB_dec]
  refine ⟨fun _ => ?_, fun h => absurd rfl h⟩
  refine wv_of (idx hat.2.2.2) ?_
  first | rw [vbin_eql, wv_some, brB_dec] | rw [wv_some, brB_dec]
  refine ⟨fun _ => ?_, fun h => absurd rfl h⟩
  first | rw [vbin_eql, wv_some, brB_dec] | rw [wv_some, brB_dec]
  refine ⟨fun _ => ?_, fun h => absurd rfl h⟩
  first | rw [vbin_eql, wv_some, brB_dec] | rw [wv_some, brB_dec]
  refine ⟨fun _ => ?_, fun h => absurd rfl h⟩
  refine wv_of (load_hash (hs := h7) rfl (RowL.own (i := 3) s32 rfl)) ?_
  refine wv_of (v := .agg (h7.map u8v)) rfl ?_
  rw [vbin_heql (i := ti_api_Hash) (ie := ti_uint8) (n := 32) T_api_Hash rfl T_uint8 rfl rfl rfl rfl, wv_some, brB_dec]
  refine ⟨fun _ => ?_, fun h => absurd rfl h⟩
  refine wv_of (led_load (i := 2) s32 rfl hw).2.2.2 ?_
  refine wv_of (led_load (i := 5) s32 rfl hv).2.2.2 ?_
  refine escrowlaw14_same.use (OwnL.own (i := 4) s32 rfl).is (OwnL.own (i := 6) s32 rfl).is hok1 hok1 (by decide) fun bb G53 hbb c53 => ?_
  have s53 := s32.tmp c53
  rw [brB_bool]
  refine ⟨fun _ => ?_, fun h => absurd (hbb.2 ⟨rfl, rfl, rfl⟩) (by rw [h]; decide)⟩
  refine wv_of (led_load (i := 0) s53 rfl ht).2.2.2 ?_
  refine wv_of (v := ({ p1 with ours := false } : PenM).av) rfl ?_
  refine buildV (T := T) (ts := t_sl_api_Pending) (e := t_api_Pending) (si := ti_sl_api_Pending) (ie := ti_api_Pending) T_sl_api_Pending rfl T_api_Pending rfl s53 rfl (by decide) fun v56 G57 s57 => ?_
  have hx := (OwnL.own (i := 0) s57 rfl).leaf
  refine wv_of (build_led hx.1) ?_
  have hokt : ∀ p ∈ [({ p1 with ours := false } : PenM)], p.ok := fun p hp => by rw [List.mem_singleton.1 hp]; exact p1_ok.side false
  refine escrowlaw14_same.use (l' := [({ p1 with ours := false } : PenM)]) (OwnL.own (i := 2) s57 rfl).is (OwnL.own (i := 0) s57 rfl).is (turnL_ok hok1) hokt (by decide) fun bb G60 hbb c60 => ?_
  have : bb = true := hbb.2 ⟨rfl, rfl, by decide⟩
  rw [this]
  exact hQ _ (s57.tmp c60).ch

end
end Go.Esc.M
