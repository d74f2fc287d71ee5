/- Proved: escrowlaw14.CommitReads returns true for every input, and what was handed in reads as before. No condition. -/
import Derived.Test.YtdbkngfdaeminaaRows
import Derived.Test.YtdbkngfdaeminaaLDf
set_option linter.unusedSimpArgs false
set_option linter.unusedVariables false
namespace Go.Proofs.Ytdbkngfdaeminaa.commitReads
open Go Go.Esc Go.Esc.M

theorem own : ownKnob Try.prog.godebug = none := by kernel_rfl
theorem laidOut : laidOutB Try.prog = true := by kernel_rfl

theorem weights_of {H : Type} {vars : List TypeId} {ts : List TypeId} {ds gs : List (DataW H)} (hg : gs = []) (hv : vars = []) (hs : (DataW.weightsEach Try.prog (ts ++ vars) (ds ++ gs)).all (· ≤ reachBytes) = true) :
    ∀ n ∈ DataW.weightsEach Try.prog ts ds, n ≤ reachBytes := by
  subst hg hv
  rw [List.append_nil, List.append_nil] at hs
  simpa using hs

set_option maxRecDepth 100000 in
theorem lifted (os : Os) (started : os.Started) (H : Type) (enc : TypeId × Value → H) :
    ReturnsInHanded {} Try.checked os 4 .any (Rows.commitReadsSpec.pre6 enc Try.prog Try.f4 Rows.commitReadsRow.domain false) (Rows.commitReadsSpec.post enc Try.prog Try.f4 false true false false) := by
  refine returnsInHanded_of_change_sized (C := Try.checked) own started (by kernel_rfl) Try.func4
    (ChangeSpec.witness6 (enc := enc) (C := Try.checked) false ⟨#[], #[.string .empty], []⟩ 8 (by kernel_rfl) (by kernel_rfl) (by kernel_rfl) (by kernel_rfl)) ?_
  intro W base args ds gs before hval hW hcnd hsz _
  have hg : gs = [] := by
    obtain ⟨p, q, _, hV, _⟩ := hW
    exact (ChangeShapes.trodVars_none hV).1
  refine law_run (d := 4) (tb := 4) tblOk laidOut Try.func4 (by kernel_rfl) (by kernel_rfl) (by kernel_rfl) (by kernel_rfl) rfl (by kernel_rfl) Try.underlying4 (fun hl => by
    have hl : ds.length = 1 := hl.trans (by kernel_rfl)
    match ds, hl with
    | [xa], _ => exact ⟨rfl, rfl, rfl⟩) hval hW (weights_of hg rfl hsz) fun avs ms hwt hsum => ?_
  · rw [Try.params4] at hwt
    obtain ⟨a, avs, ma, ms, rfl, rfl, ha, hwt⟩ := wtl_cons hwt
    obtain ⟨rfl, rfl⟩ := wtl_nil hwt
    exact law_CommitReads ha

theorem over : Rows.commitReadsRow.holds Try.pinned (OpenSpec.ofChange Rows.commitReadsSpec) :=
  OpenClaim.holds_of_wide 4 Try.f4 rfl rfl rfl rfl rfl rfl rfl ⟨rfl, rfl, rfl, rfl, rfl⟩ rfl rfl rfl rfl rfl (by kernel_rfl) Try.func4 (by kernel_rfl)
    (of_decide_eq_true (by kernel_rfl)) (by unfold Func.isWrapper; first | (rw [if_pos (by decide +kernel)]; kernel_rfl) | (rw [if_neg (by decide +kernel)]; exact ⟨rfl, rfl⟩))
    (fun os started H enc _ => lifted os started H enc)
end Go.Proofs.Ytdbkngfdaeminaa.commitReads
namespace Go.Proofs.Ytdbkngfdaeminaa
theorem commitReads_holds : Rows.CommitReadsSaid := commitReads.over
end Go.Proofs.Ytdbkngfdaeminaa
