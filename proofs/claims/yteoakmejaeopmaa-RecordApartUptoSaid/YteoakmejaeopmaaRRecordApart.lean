/- Proved: escrowlaw17.RecordApart returns true for every input, where what it reads is of bulk at most 1048576: and what was handed in reads as before. Its condition is that bulk. -/
import Derived.Test.YteoakmejaeopmaaRows
import Derived.Test.YteoakmejaeopmaaLQp
set_option linter.unusedSimpArgs false
set_option linter.unusedVariables false
namespace Go.Proofs.Yteoakmejaeopmaa.recordApart
open Go Go.Esc Go.Esc.M

theorem own : ownKnob Try.prog.godebug = none := by kernel_rfl
theorem laidOut : laidOutB Try.prog = true := by kernel_rfl

mutual
theorem bulk_eq {H : Type} : ∀ d : DataW H, Rows.uptoBulk d = bulk d
  | .lit l => by cases l <;> simp [Rows.uptoBulk, bulk]
  | .nil => by simp [Rows.uptoBulk, bulk]
  | .ptr d => by simp [Rows.uptoBulk, bulk, bulk_eq d]
  | .slice a b => by simp [Rows.uptoBulk, bulk, bulkAll_eq a, bulkAll_eq b]
  | .agg a => by simp [Rows.uptoBulk, bulk, bulkAll_eq a]
  | .iface _ d => by simp [Rows.uptoBulk, bulk, bulk_eq d]
  | .map a => by simp [Rows.uptoBulk, bulk, bulkEntries_eq a]
  | .held _ => by simp [Rows.uptoBulk, bulk]
theorem bulkAll_eq {H : Type} : ∀ l : List (DataW H), Rows.uptoBulkAll l = bulkAll l
  | [] => by simp [Rows.uptoBulkAll, bulkAll]
  | d :: l => by simp [Rows.uptoBulkAll, bulkAll, bulk_eq d, bulkAll_eq l]
theorem bulkEntries_eq {H : Type} : ∀ l : List (Lit × DataW H), Rows.uptoBulkEntries l = bulkEntries l
  | [] => by simp [Rows.uptoBulkEntries, bulkEntries]
  | d :: l => by simp [Rows.uptoBulkEntries, bulkEntries, bulkEntry_eq d, bulkEntries_eq l]
theorem bulkEntry_eq {H : Type} : ∀ x : Lit × DataW H, Rows.uptoBulkEntry x = bulkEntry x
  | (l, d) => by cases l <;> simp [Rows.uptoBulkEntry, bulkEntry, bulk_eq d]
end

theorem small {H : Type} {ds : List (DataW H)} (h : Rows.uptoSmall H (ds ++ []) = true) : bulkAll ds ≤ 1048576 := by
  rw [← bulkAll_eq]
  rw [List.append_nil] at h
  exact of_decide_eq_true h

theorem bounded (l : List Nat) : ∃ R, ∀ n ∈ l, n ≤ R := by
  induction l with
  | nil => exact ⟨0, by simp⟩
  | cons x l ih =>
    obtain ⟨R, hR⟩ := ih
    exact ⟨x + R, fun n hn => by
      rcases List.mem_cons.1 hn with rfl | hn
      · omega
      · have := hR n hn
        omega⟩


set_option maxRecDepth 100000 in
theorem lifted (os : Os) (started : os.Started) (H : Type) (enc : TypeId × Value → H) (F : Stop.Interp) :
    ReturnsInHanded {} Try.checked os 4 .any ((Rows.OpenSpec.upto Rows.recordApartSpec).pre6 enc Try.prog Try.f4 Rows.recordApartUptoRow.domain false) (((Rows.OpenSpec.upto Rows.recordApartSpec).at F).post enc Try.prog Try.f4 false true false false) := by
  refine returnsInHanded_of_cond (C := Try.checked) (s := Rows.OpenSpec.upto Rows.recordApartSpec) (k := Rows.uptoSmall) rfl own started (by kernel_rfl) Try.func4
    (OpenSpec.witness (enc := enc) (C := Try.checked) (s := Rows.OpenSpec.upto Rows.recordApartSpec) (k := Rows.uptoSmall) rfl false ⟨#[], #[.slice none 0 0, .slice none 0 0, .slice none 0 0, .int .i64 0], []⟩ 8 (by kernel_rfl) (by kernel_rfl) (by kernel_rfl)
      (x := ([.nil, .nil, .nil, .lit (.int .i64 0)], [], [])) (by kernel_rfl) rfl (by kernel_rfl)) ?_
  intro W base args ds gs before hval hW _ hk _
  have hg : gs = [] := by
    obtain ⟨p, q, _, hV, _⟩ := hW
    exact (ChangeShapes.trodVars_none hV).1
  subst hg
  obtain ⟨R, hR⟩ := bounded (DataW.weightsEach Try.prog Try.f4.params.toList ds)
  refine law_run (d := 6) (tb := 4) tblOk laidOut Try.func4 (by kernel_rfl) (by kernel_rfl) (by kernel_rfl) (by kernel_rfl) rfl (by kernel_rfl) Try.underlying4 (fun hl => by
    have hl : ds.length = 4 := hl.trans (by kernel_rfl)
    match ds, hl with
    | [xa, xb, xc, xd], _ => exact ⟨rfl, rfl, rfl⟩) hval hW hR fun avs ms hwt hsum => ?_
  · rw [Try.params4] at hwt
    obtain ⟨a, avs, ma, ms, rfl, rfl, ha, hwt⟩ := wtl_cons hwt
    obtain ⟨b, avs, mb, ms, rfl, rfl, hb, hwt⟩ := wtl_cons hwt
    obtain ⟨c, avs, mc, ms, rfl, rfl, hc, hwt⟩ := wtl_cons hwt
    obtain ⟨d, avs, md, ms, rfl, rfl, hd, hwt⟩ := wtl_cons hwt
    obtain ⟨rfl, rfl⟩ := wtl_nil hwt
    have hs := small hk
    rw [← hsum] at hs
    simp only [List.sum_cons, List.sum_nil, Nat.add_zero] at hs
    exact law_RecordApart ha hb hc hd hs

theorem over : Rows.recordApartUptoRow.holds Try.pinned (Rows.OpenSpec.upto Rows.recordApartSpec) :=
  OpenClaim.holds_of_cond 4 Try.f4 rfl rfl rfl rfl rfl rfl rfl ⟨rfl, rfl, rfl, rfl, rfl⟩ rfl rfl rfl rfl rfl (by kernel_rfl) Try.func4 (by kernel_rfl)
    (of_decide_eq_true (by kernel_rfl)) (by unfold Func.isWrapper; first | (rw [if_pos (by decide +kernel)]; kernel_rfl) | (rw [if_neg (by decide +kernel)]; exact ⟨rfl, rfl⟩))
    (fun os started H enc _ F => lifted os started H enc F)
end Go.Proofs.Yteoakmejaeopmaa.recordApart
namespace Go.Proofs.Yteoakmejaeopmaa
theorem recordApart_holds : Rows.RecordApartUptoSaid := recordApart.over
end Go.Proofs.Yteoakmejaeopmaa
