/-
  No cell of these rows narrows 'for every input' (looked for: loops, veiled, ifaces, maps, wideKeys, modest, calm, conditions, laid).
  DERIVED. THE GIVEN ROWS OF THIS SEAT. 5 by the template 'for every input the law returns true; each argument reads behind the call as it read before'; 0 by the template 'total and deterministic' (their statements: YtmhhddpkhfohcaaTotals.lean).
  GIVEN WITH THE SEED: the statements are not yours to turn. If you find one false, say at which input.
  Laid BY PROGRAM, IN A SANDBOX (cutbox-rows.mjs): the forced cells as the released guide's own fill.sh prints them over the translation 41d7d688aa95728d… (all of the seat's roots in one cut). By AI agents, Wed Nov 11 2026. No macro, syntax, notation, axiom, sorry.
-/
import Derived.Test.YtmhhddpkhfohcaaChecked
import GoSem.Claim
import GoSem.ClaimJoined
import GoSem.ClaimMapViews
import Derived.JoinedTies
import Derived.KernelRfl
namespace Go.Proofs.Ytmhhddpkhfohcaa
/- THE CELL 'sum', in the pinned program and in every row, IS THE sha256 OF THE DUMP (.gsa) THAT YtmhhddpkhfohcaaProg.lean LOADS. Nothing in Lean hashes anything: it is a label: what it is worth is what the hold of that sum in a sandbox is worth. -/
noncomputable def Try.pinned : Pinned := { name := "ytmhhddpkhfohcaa", sum := "41d7d688aa95728d828f47361704243195a3ed10fc8b329e499114a125723838", checked := Try.checked }
namespace Rows
def none {H : Type} : Left H := { results := [], args := [] }

/-- 'escrowlaw12.UpdateBytes': WHATEVER THE INPUT: true; the input reads as it did. -/
def updateBytesSpec : ChangeSpec := { name := "updateBytes", fn := fun _ => fun
  | [d1, d2] => { results := [.lit (.bool true)], args := [d1, d2] }
  | _ => none }
def updateBytesRow : OpenClaim := { program := "ytmhhddpkhfohcaa", sum := "41d7d688aa95728d828f47361704243195a3ed10fc8b329e499114a125723838", func := "escrow/escrowlaw12.UpdateBytes", spec := "updateBytes", inPlace := ["internal/abi.NoEscape", "internal/bytealg.MakeNoZero"], apart := false }
def UpdateBytesSaid : Prop := updateBytesRow.holds Try.pinned (OpenSpec.ofChange updateBytesSpec)

/-- ITS FALSE NEIGHBOUR: 'it returns false'. Refute it at one input. -/
def updateBytesWrong : ChangeSpec := { name := "updateBytes", fn := fun _ => fun
  | [d1, d2] => { results := [.lit (.bool false)], args := [d1, d2] }
  | _ => none }
def UpdateBytesWrongFalsely : Prop := updateBytesRow.holds Try.pinned (OpenSpec.ofChange updateBytesWrong)

/-- 'escrowlaw12.UpdateNexts': WHATEVER THE INPUT: true; the input reads as it did. -/
def updateNextsSpec : ChangeSpec := { name := "updateNexts", fn := fun _ => fun
  | [d1, d2, d3, d4] => { results := [.lit (.bool true)], args := [d1, d2, d3, d4] }
  | _ => none }
def updateNextsRow : OpenClaim := { program := "ytmhhddpkhfohcaa", sum := "41d7d688aa95728d828f47361704243195a3ed10fc8b329e499114a125723838", func := "escrow/escrowlaw12.UpdateNexts", spec := "updateNexts", inPlace := ["internal/abi.NoEscape", "internal/bytealg.MakeNoZero"], apart := false }
def UpdateNextsSaid : Prop := updateNextsRow.holds Try.pinned (OpenSpec.ofChange updateNextsSpec)

/-- ITS FALSE NEIGHBOUR: 'it returns false'. Refute it at one input. -/
def updateNextsWrong : ChangeSpec := { name := "updateNexts", fn := fun _ => fun
  | [d1, d2, d3, d4] => { results := [.lit (.bool false)], args := [d1, d2, d3, d4] }
  | _ => none }
def UpdateNextsWrongFalsely : Prop := updateNextsRow.holds Try.pinned (OpenSpec.ofChange updateNextsWrong)

/-- 'escrowlaw12.UpdateBack': WHATEVER THE INPUT: true; the input reads as it did. -/
def updateBackSpec : ChangeSpec := { name := "updateBack", fn := fun _ => fun
  | [d1, d2, d3, d4] => { results := [.lit (.bool true)], args := [d1, d2, d3, d4] }
  | _ => none }
def updateBackRow : OpenClaim := { program := "ytmhhddpkhfohcaa", sum := "41d7d688aa95728d828f47361704243195a3ed10fc8b329e499114a125723838", func := "escrow/escrowlaw12.UpdateBack", spec := "updateBack", inPlace := ["internal/abi.NoEscape", "internal/bytealg.MakeNoZero"], apart := false }
def UpdateBackSaid : Prop := updateBackRow.holds Try.pinned (OpenSpec.ofChange updateBackSpec)

/-- ITS FALSE NEIGHBOUR: 'it returns false'. Refute it at one input. -/
def updateBackWrong : ChangeSpec := { name := "updateBack", fn := fun _ => fun
  | [d1, d2, d3, d4] => { results := [.lit (.bool false)], args := [d1, d2, d3, d4] }
  | _ => none }
def UpdateBackWrongFalsely : Prop := updateBackRow.holds Try.pinned (OpenSpec.ofChange updateBackWrong)

/-- 'escrowlaw12.UpdateGrows': WHATEVER THE INPUT: true; the input reads as it did. -/
def updateGrowsSpec : ChangeSpec := { name := "updateGrows", fn := fun _ => fun
  | [d] => { results := [.lit (.bool true)], args := [d] }
  | _ => none }
def updateGrowsRow : OpenClaim := { program := "ytmhhddpkhfohcaa", sum := "41d7d688aa95728d828f47361704243195a3ed10fc8b329e499114a125723838", func := "escrow/escrowlaw12.UpdateGrows", spec := "updateGrows", inPlace := ["internal/abi.NoEscape", "internal/bytealg.MakeNoZero"], apart := false }
def UpdateGrowsSaid : Prop := updateGrowsRow.holds Try.pinned (OpenSpec.ofChange updateGrowsSpec)

/-- ITS FALSE NEIGHBOUR: 'it returns false'. Refute it at one input. -/
def updateGrowsWrong : ChangeSpec := { name := "updateGrows", fn := fun _ => fun
  | [d] => { results := [.lit (.bool false)], args := [d] }
  | _ => none }
def UpdateGrowsWrongFalsely : Prop := updateGrowsRow.holds Try.pinned (OpenSpec.ofChange updateGrowsWrong)

/-- 'escrowlaw12.UpdateLimits': WHATEVER THE INPUT: true; the input reads as it did. -/
def updateLimitsSpec : ChangeSpec := { name := "updateLimits", fn := fun _ => fun
  | [d1, d2, d3] => { results := [.lit (.bool true)], args := [d1, d2, d3] }
  | _ => none }
def updateLimitsRow : OpenClaim := { program := "ytmhhddpkhfohcaa", sum := "41d7d688aa95728d828f47361704243195a3ed10fc8b329e499114a125723838", func := "escrow/escrowlaw12.UpdateLimits", spec := "updateLimits", inPlace := ["internal/abi.NoEscape", "internal/bytealg.MakeNoZero"], apart := false }
def UpdateLimitsSaid : Prop := updateLimitsRow.holds Try.pinned (OpenSpec.ofChange updateLimitsSpec)

/-- ITS FALSE NEIGHBOUR: 'it returns false'. Refute it at one input. -/
def updateLimitsWrong : ChangeSpec := { name := "updateLimits", fn := fun _ => fun
  | [d1, d2, d3] => { results := [.lit (.bool false)], args := [d1, d2, d3] }
  | _ => none }
def UpdateLimitsWrongFalsely : Prop := updateLimitsRow.holds Try.pinned (OpenSpec.ofChange updateLimitsWrong)

/- THE SECOND FORM. 'bulk': how many values and letters a reading holds, each counted each time it is reached (what is shared counts as often as it is met; a slice's spare places count too). A statement '..UptoSaid' is the law's where the arguments, and the package variables that the reading takes, are together of bulk at most 1048576: NARROWER than '..Said'. Prove '..Said' where nothing that the law and all that it calls make is longer than what came in: it says more and counts as full. Else prove '..UptoSaid'. A law counts once. -/
mutual
def uptoBulk {H : Type} : DataW H → Nat
  | .lit (.string bytes) => bytes.length + 1
  | .lit _ => 1
  | .nil => 1
  | .ptr d => uptoBulk d + 1
  | .slice elems spare => uptoBulkAll elems + uptoBulkAll spare + 1
  | .agg parts => uptoBulkAll parts + 1
  | .iface _ d => uptoBulk d + 1
  | .map entries => uptoBulkEntries entries + 1
  | .held _ => 1
def uptoBulkAll {H : Type} : List (DataW H) → Nat
  | [] => 0
  | d :: r => uptoBulk d + uptoBulkAll r
def uptoBulkEntries {H : Type} : List (Lit × DataW H) → Nat
  | [] => 0
  | x :: r => uptoBulkEntry x + uptoBulkEntries r
def uptoBulkEntry {H : Type} : Lit × DataW H → Nat
  | (.string bytes, d) => bytes.length + uptoBulk d + 1
  | (_, d) => uptoBulk d + 1
 end
def uptoSmall : (H : Type) → List (DataW H) → Bool := fun _ ds => decide (uptoBulkAll ds ≤ 1048576)
def OpenSpec.upto (s : _root_.Go.ChangeSpec) : _root_.Go.OpenSpec := { _root_.Go.OpenSpec.ofChange s with cond := some uptoSmall }

/-- 'escrowlaw12.UpdateBytes', WHERE WHAT IT READS IS OF BULK AT MOST 1048576: true; the input reads as it did. -/
def updateBytesUptoRow : OpenClaim := { program := "ytmhhddpkhfohcaa", sum := "41d7d688aa95728d828f47361704243195a3ed10fc8b329e499114a125723838", func := "escrow/escrowlaw12.UpdateBytes", spec := "updateBytes", inPlace := ["internal/abi.NoEscape", "internal/bytealg.MakeNoZero"], apart := false, narrowed := true }
def UpdateBytesUptoSaid : Prop := updateBytesUptoRow.holds Try.pinned (OpenSpec.upto updateBytesSpec)

/-- 'escrowlaw12.UpdateNexts', WHERE WHAT IT READS IS OF BULK AT MOST 1048576: true; the input reads as it did. -/
def updateNextsUptoRow : OpenClaim := { program := "ytmhhddpkhfohcaa", sum := "41d7d688aa95728d828f47361704243195a3ed10fc8b329e499114a125723838", func := "escrow/escrowlaw12.UpdateNexts", spec := "updateNexts", inPlace := ["internal/abi.NoEscape", "internal/bytealg.MakeNoZero"], apart := false, narrowed := true }
def UpdateNextsUptoSaid : Prop := updateNextsUptoRow.holds Try.pinned (OpenSpec.upto updateNextsSpec)

/-- 'escrowlaw12.UpdateBack', WHERE WHAT IT READS IS OF BULK AT MOST 1048576: true; the input reads as it did. -/
def updateBackUptoRow : OpenClaim := { program := "ytmhhddpkhfohcaa", sum := "41d7d688aa95728d828f47361704243195a3ed10fc8b329e499114a125723838", func := "escrow/escrowlaw12.UpdateBack", spec := "updateBack", inPlace := ["internal/abi.NoEscape", "internal/bytealg.MakeNoZero"], apart := false, narrowed := true }
def UpdateBackUptoSaid : Prop := updateBackUptoRow.holds Try.pinned (OpenSpec.upto updateBackSpec)

/-- 'escrowlaw12.UpdateGrows', WHERE WHAT IT READS IS OF BULK AT MOST 1048576: true; the input reads as it did. -/
def updateGrowsUptoRow : OpenClaim := { program := "ytmhhddpkhfohcaa", sum := "41d7d688aa95728d828f47361704243195a3ed10fc8b329e499114a125723838", func := "escrow/escrowlaw12.UpdateGrows", spec := "updateGrows", inPlace := ["internal/abi.NoEscape", "internal/bytealg.MakeNoZero"], apart := false, narrowed := true }
def UpdateGrowsUptoSaid : Prop := updateGrowsUptoRow.holds Try.pinned (OpenSpec.upto updateGrowsSpec)

/-- 'escrowlaw12.UpdateLimits', WHERE WHAT IT READS IS OF BULK AT MOST 1048576: true; the input reads as it did. -/
def updateLimitsUptoRow : OpenClaim := { program := "ytmhhddpkhfohcaa", sum := "41d7d688aa95728d828f47361704243195a3ed10fc8b329e499114a125723838", func := "escrow/escrowlaw12.UpdateLimits", spec := "updateLimits", inPlace := ["internal/abi.NoEscape", "internal/bytealg.MakeNoZero"], apart := false, narrowed := true }
def UpdateLimitsUptoSaid : Prop := updateLimitsUptoRow.holds Try.pinned (OpenSpec.upto updateLimitsSpec)

end Rows
end Go.Proofs.Ytmhhddpkhfohcaa
