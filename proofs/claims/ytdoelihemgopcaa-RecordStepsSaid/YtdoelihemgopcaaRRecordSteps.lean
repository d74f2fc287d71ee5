/- Proved: escrowlaw17.RecordSteps returns true for every input, and what was handed in reads as before, whatever 64 bytes math/bits' table holds. No condition. -/
import Derived.Test.YtdoelihemgopcaaRows
import Derived.Test.YtdoelihemgopcaaLTg
import Derived.HandedShaped
set_option linter.unusedSimpArgs false
set_option linter.unusedVariables false
namespace Go.Proofs.Ytdoelihemgopcaa.recordSteps
open Go Go.Esc Go.Esc.M

theorem own : ownKnob Try.prog.godebug = none := by kernel_rfl
theorem laidOut : laidOutB Try.prog = true := by kernel_rfl
def zeroTab : Array Value := #[.int .u8 0, .int .u8 0, .int .u8 0, .int .u8 0, .int .u8 0, .int .u8 0, .int .u8 0, .int .u8 0, .int .u8 0, .int .u8 0, .int .u8 0, .int .u8 0, .int .u8 0, .int .u8 0, .int .u8 0, .int .u8 0, .int .u8 0, .int .u8 0, .int .u8 0, .int .u8 0, .int .u8 0, .int .u8 0, .int .u8 0, .int .u8 0, .int .u8 0, .int .u8 0, .int .u8 0, .int .u8 0, .int .u8 0, .int .u8 0, .int .u8 0, .int .u8 0, .int .u8 0, .int .u8 0, .int .u8 0, .int .u8 0, .int .u8 0, .int .u8 0, .int .u8 0, .int .u8 0, .int .u8 0, .int .u8 0, .int .u8 0, .int .u8 0, .int .u8 0, .int .u8 0, .int .u8 0, .int .u8 0, .int .u8 0, .int .u8 0, .int .u8 0, .int .u8 0, .int .u8 0, .int .u8 0, .int .u8 0, .int .u8 0, .int .u8 0, .int .u8 0, .int .u8 0, .int .u8 0, .int .u8 0, .int .u8 0, .int .u8 0, .int .u8 0]
theorem gS : (decide (1 < Try.prog.globals.size)) = true := by kernel_rfl
theorem gO : ((begin Try.prog (fun _ _ => 0) default).world.heap[1]?).bind Obj.row? = some (zeroTab, 166) := by kernel_rfl
theorem gB : Try.prog.buildable 166 = true := by kernel_rfl
theorem gC : Try.prog.cellTypes Try.prog.depth 166 = some (List.replicate 64 5) := by kernel_rfl

theorem weights_of {H : Type} {vars : List TypeId} {ts : List TypeId} {ds gs : List (DataW H)} (hg : gs = []) (hv : vars = []) (hs : (DataW.weightsEach Try.prog (ts ++ vars) (ds ++ gs)).all (· ≤ reachBytes) = true) :
    ∀ n ∈ DataW.weightsEach Try.prog ts ds, n ≤ reachBytes := by
  subst hg hv
  rw [List.append_nil, List.append_nil] at hs
  simpa using hs

set_option maxRecDepth 100000 in
theorem lifted (os : Os) (started : os.Started) (H : Type) (enc : TypeId × Value → H) :
    ReturnsInHanded {} Try.checked os 4 .any (Rows.recordStepsSpec.pre6 enc Try.prog Try.f4 Rows.recordStepsRow.domain false) (Rows.recordStepsSpec.post enc Try.prog Try.f4 false true false false) := by
  refine returnsInHanded_of_change_shaped (C := Try.checked) own started (by kernel_rfl) Try.func4
    (ChangeSpec.witness6 (enc := enc) (C := Try.checked) false ⟨#[], #[.int .i64 0, .int .i64 0, .agg #[.int .i64 0, .int .i64 0], .agg #[.int .u8 0, .int .u8 0, .int .u8 0, .int .u8 0, .int .u8 0, .int .u8 0, .int .u8 0, .int .u8 0, .int .u8 0, .int .u8 0, .int .u8 0, .int .u8 0, .int .u8 0, .int .u8 0, .int .u8 0, .int .u8 0, .int .u8 0, .int .u8 0, .int .u8 0, .int .u8 0, .int .u8 0, .int .u8 0, .int .u8 0, .int .u8 0, .int .u8 0, .int .u8 0, .int .u8 0, .int .u8 0, .int .u8 0, .int .u8 0, .int .u8 0, .int .u8 0], .int .i64 0], []⟩ 8 (by kernel_rfl) (by kernel_rfl) (by kernel_rfl) (by kernel_rfl)) ?_
  intro W base args ds gs before hval hW hcnd hsz hsh _
  have hg : gs = [] := by
    obtain ⟨p, q, _, hV, _⟩ := hW
    exact (ChangeShapes.trodVars_none hV).1
  obtain ⟨zs, hz1, hz2, hz3⟩ := anyTab hsh (of_decide_eq_true gS) gO rfl gB gC (by decide) Try.underlying5
  have hz : zs ≠ [] := fun h => by rw [h] at hz1; cases hz1
  refine law_laid (d := 4) (tb := 4) tblOk (anyLaid hz hz3) laidOut Try.func4 (by kernel_rfl) (by kernel_rfl) (by kernel_rfl) (by kernel_rfl) rfl (by kernel_rfl) Try.underlying4 (fun hl => by
    have hl : ds.length = 5 := hl.trans (by kernel_rfl)
    match ds, hl with
    | [xa, xb, xc, xd, xe], _ => exact ⟨rfl, rfl, rfl⟩) hval hW (weights_of hg rfl hsz) fun avs ms hwt hsum => ?_
  · rw [Try.params4] at hwt
    obtain ⟨a, avs, ma, ms, rfl, rfl, ha, hwt⟩ := wtl_cons hwt
    obtain ⟨b, avs, mb, ms, rfl, rfl, hb, hwt⟩ := wtl_cons hwt
    obtain ⟨c, avs, mc, ms, rfl, rfl, hc, hwt⟩ := wtl_cons hwt
    obtain ⟨d, avs, md, ms, rfl, rfl, hd, hwt⟩ := wtl_cons hwt
    obtain ⟨e, avs, me, ms, rfl, rfl, he, hwt⟩ := wtl_cons hwt
    obtain ⟨rfl, rfl⟩ := wtl_nil hwt
    exact law_RecordSteps ⟨zs, hz1, hz2, laid_row rfl⟩ ha hb hc hd he

theorem over : Rows.recordStepsRow.holds Try.pinned (OpenSpec.ofChange Rows.recordStepsSpec) :=
  OpenClaim.holds_of_wide 4 Try.f4 rfl rfl rfl rfl rfl rfl rfl ⟨rfl, rfl, rfl, rfl, rfl⟩ rfl rfl rfl rfl rfl (by kernel_rfl) Try.func4 (by kernel_rfl)
    (of_decide_eq_true (by kernel_rfl)) (by unfold Func.isWrapper; first | (rw [if_pos (by decide +kernel)]; kernel_rfl) | (rw [if_neg (by decide +kernel)]; exact ⟨rfl, rfl⟩))
    (fun os started H enc _ => lifted os started H enc)
end Go.Proofs.Ytdoelihemgopcaa.recordSteps
namespace Go.Proofs.Ytdoelihemgopcaa
theorem recordSteps_holds : Rows.RecordStepsSaid := recordSteps.over
end Go.Proofs.Ytdoelihemgopcaa
