/-
  No cell of these rows narrows 'for every input' (looked for: loops, veiled, ifaces, maps, wideKeys, modest, calm, conditions, laid).
  DERIVED. THE GIVEN ROWS OF THIS SEAT. 4 by the template 'for every input the law returns true; each argument reads behind the call as it read before'; 0 by the template 'total and deterministic' (their statements: YtdbkngfdaeminaaTotals.lean).
  GIVEN WITH THE SEED: the statements are not yours to turn. If you find one false, say at which input.
  Laid BY PROGRAM, IN A SANDBOX (cutbox-rows.mjs): the forced cells as the released guide's own fill.sh prints them over the translation 64999658b7043df6… (all of the seat's roots in one cut). By AI agents, Wed Nov 11 2026. No macro, syntax, notation, axiom, sorry.
-/
import Derived.Test.YtdbkngfdaeminaaChecked
import GoSem.Claim
import GoSem.ClaimJoined
import GoSem.ClaimMapViews
import Derived.JoinedTies
import Derived.KernelRfl
namespace Go.Proofs.Ytdbkngfdaeminaa
/- THE CELL 'sum', in the pinned program and in every row, IS THE sha256 OF THE DUMP (.gsa) THAT YtdbkngfdaeminaaProg.lean LOADS. Nothing in Lean hashes anything: it is a label: what it is worth is what the hold of that sum in a sandbox is worth. -/
noncomputable def Try.pinned : Pinned := { name := "ytdbkngfdaeminaa", sum := "64999658b7043df63e5b3b6ce2e729d2ef9645239b6d7b1aa953dd3b0d7a2839", checked := Try.checked }
namespace Rows
def none {H : Type} : Left H := { results := [], args := [] }

/-- 'escrowlaw14.CommitTexts': WHATEVER THE INPUT: true; the input reads as it did. -/
def commitTextsSpec : ChangeSpec := { name := "commitTexts", fn := fun _ => fun
  | [d1, d2, d3, d4] => { results := [.lit (.bool true)], args := [d1, d2, d3, d4] }
  | _ => none }
def commitTextsRow : OpenClaim := { program := "ytdbkngfdaeminaa", sum := "64999658b7043df63e5b3b6ce2e729d2ef9645239b6d7b1aa953dd3b0d7a2839", func := "escrow/escrowlaw14.CommitTexts", spec := "commitTexts", apart := false }
def CommitTextsSaid : Prop := commitTextsRow.holds Try.pinned (OpenSpec.ofChange commitTextsSpec)

/-- ITS FALSE NEIGHBOUR: 'it returns false'. Refute it at one input. -/
def commitTextsWrong : ChangeSpec := { name := "commitTexts", fn := fun _ => fun
  | [d1, d2, d3, d4] => { results := [.lit (.bool false)], args := [d1, d2, d3, d4] }
  | _ => none }
def CommitTextsWrongFalsely : Prop := commitTextsRow.holds Try.pinned (OpenSpec.ofChange commitTextsWrong)

/-- 'escrowlaw14.CommitReads': WHATEVER THE INPUT: true; the input reads as it did. -/
def commitReadsSpec : ChangeSpec := { name := "commitReads", fn := fun _ => fun
  | [d] => { results := [.lit (.bool true)], args := [d] }
  | _ => none }
def commitReadsRow : OpenClaim := { program := "ytdbkngfdaeminaa", sum := "64999658b7043df63e5b3b6ce2e729d2ef9645239b6d7b1aa953dd3b0d7a2839", func := "escrow/escrowlaw14.CommitReads", spec := "commitReads", apart := false }
def CommitReadsSaid : Prop := commitReadsRow.holds Try.pinned (OpenSpec.ofChange commitReadsSpec)

/-- ITS FALSE NEIGHBOUR: 'it returns false'. Refute it at one input. -/
def commitReadsWrong : ChangeSpec := { name := "commitReads", fn := fun _ => fun
  | [d] => { results := [.lit (.bool false)], args := [d] }
  | _ => none }
def CommitReadsWrongFalsely : Prop := commitReadsRow.holds Try.pinned (OpenSpec.ofChange commitReadsWrong)

/-- 'escrowlaw14.CommitBack': WHATEVER THE INPUT: true; the input reads as it did. -/
def commitBackSpec : ChangeSpec := { name := "commitBack", fn := fun _ => fun
  | [d1, d2, d3, d4, d5, d6] => { results := [.lit (.bool true)], args := [d1, d2, d3, d4, d5, d6] }
  | _ => none }
def commitBackRow : OpenClaim := { program := "ytdbkngfdaeminaa", sum := "64999658b7043df63e5b3b6ce2e729d2ef9645239b6d7b1aa953dd3b0d7a2839", func := "escrow/escrowlaw14.CommitBack", spec := "commitBack", apart := false }
def CommitBackSaid : Prop := commitBackRow.holds Try.pinned (OpenSpec.ofChange commitBackSpec)

/-- ITS FALSE NEIGHBOUR: 'it returns false'. Refute it at one input. -/
def commitBackWrong : ChangeSpec := { name := "commitBack", fn := fun _ => fun
  | [d1, d2, d3, d4, d5, d6] => { results := [.lit (.bool false)], args := [d1, d2, d3, d4, d5, d6] }
  | _ => none }
def CommitBackWrongFalsely : Prop := commitBackRow.holds Try.pinned (OpenSpec.ofChange commitBackWrong)

/-- 'escrowlaw14.CommitTurns': WHATEVER THE INPUT: true; the input reads as it did. -/
def commitTurnsSpec : ChangeSpec := { name := "commitTurns", fn := fun _ => fun
  | [d] => { results := [.lit (.bool true)], args := [d] }
  | _ => none }
def commitTurnsRow : OpenClaim := { program := "ytdbkngfdaeminaa", sum := "64999658b7043df63e5b3b6ce2e729d2ef9645239b6d7b1aa953dd3b0d7a2839", func := "escrow/escrowlaw14.CommitTurns", spec := "commitTurns", unfollowed := true, recurses := true, apart := false }
def CommitTurnsSaid : Prop := commitTurnsRow.holds Try.pinned (OpenSpec.ofChange commitTurnsSpec)

/-- ITS FALSE NEIGHBOUR: 'it returns false'. Refute it at one input. -/
def commitTurnsWrong : ChangeSpec := { name := "commitTurns", fn := fun _ => fun
  | [d] => { results := [.lit (.bool false)], args := [d] }
  | _ => none }
def CommitTurnsWrongFalsely : Prop := commitTurnsRow.holds Try.pinned (OpenSpec.ofChange commitTurnsWrong)

/- THE SECOND FORM. 'bulk': how many values and letters a reading holds, each counted each time it is reached (what is shared counts as often as it is met; a slice's spare places count too). A statement '..UptoSaid' is the law's where the arguments, and the package variables that the reading takes, are together of bulk at most 1048576: NARROWER than '..Said'. Prove '..Said' where nothing that the law and all that it calls make is longer than what came in: it says more and counts as full. Else prove '..UptoSaid'. A law counts once. -/
mutual
def uptoBulk {H : Type} : DataW H → Nat
  | .lit (.string bytes) => bytes.length + 1
  | .lit _ => 1
  | .nil => 1
  | .ptr d => uptoBulk d + 1
  | .slice elems spare => uptoBulkAll elems + uptoBulkAll spare + 1
  | .agg parts => uptoBulkAll parts + 1
  | .iface _ d => uptoBulk d + 1
  | .map entries => uptoBulkEntries entries + 1
  | .held _ => 1
def uptoBulkAll {H : Type} : List (DataW H) → Nat
  | [] => 0
  | d :: r => uptoBulk d + uptoBulkAll r
def uptoBulkEntries {H : Type} : List (Lit × DataW H) → Nat
  | [] => 0
  | x :: r => uptoBulkEntry x + uptoBulkEntries r
def uptoBulkEntry {H : Type} : Lit × DataW H → Nat
  | (.string bytes, d) => bytes.length + uptoBulk d + 1
  | (_, d) => uptoBulk d + 1
 end
def uptoSmall : (H : Type) → List (DataW H) → Bool := fun _ ds => decide (uptoBulkAll ds ≤ 1048576)
def OpenSpec.upto (s : _root_.Go.ChangeSpec) : _root_.Go.OpenSpec := { _root_.Go.OpenSpec.ofChange s with cond := some uptoSmall }

/-- 'escrowlaw14.CommitTexts', WHERE WHAT IT READS IS OF BULK AT MOST 1048576: true; the input reads as it did. -/
def commitTextsUptoRow : OpenClaim := { program := "ytdbkngfdaeminaa", sum := "64999658b7043df63e5b3b6ce2e729d2ef9645239b6d7b1aa953dd3b0d7a2839", func := "escrow/escrowlaw14.CommitTexts", spec := "commitTexts", apart := false, narrowed := true }
def CommitTextsUptoSaid : Prop := commitTextsUptoRow.holds Try.pinned (OpenSpec.upto commitTextsSpec)

/-- 'escrowlaw14.CommitReads', WHERE WHAT IT READS IS OF BULK AT MOST 1048576: true; the input reads as it did. -/
def commitReadsUptoRow : OpenClaim := { program := "ytdbkngfdaeminaa", sum := "64999658b7043df63e5b3b6ce2e729d2ef9645239b6d7b1aa953dd3b0d7a2839", func := "escrow/escrowlaw14.CommitReads", spec := "commitReads", apart := false, narrowed := true }
def CommitReadsUptoSaid : Prop := commitReadsUptoRow.holds Try.pinned (OpenSpec.upto commitReadsSpec)

/-- 'escrowlaw14.CommitBack', WHERE WHAT IT READS IS OF BULK AT MOST 1048576: true; the input reads as it did. -/
def commitBackUptoRow : OpenClaim := { program := "ytdbkngfdaeminaa", sum := "64999658b7043df63e5b3b6ce2e729d2ef9645239b6d7b1aa953dd3b0d7a2839", func := "escrow/escrowlaw14.CommitBack", spec := "commitBack", apart := false, narrowed := true }
def CommitBackUptoSaid : Prop := commitBackUptoRow.holds Try.pinned (OpenSpec.upto commitBackSpec)

/-- 'escrowlaw14.CommitTurns', WHERE WHAT IT READS IS OF BULK AT MOST 1048576: true; the input reads as it did. -/
def commitTurnsUptoRow : OpenClaim := { program := "ytdbkngfdaeminaa", sum := "64999658b7043df63e5b3b6ce2e729d2ef9645239b6d7b1aa953dd3b0d7a2839", func := "escrow/escrowlaw14.CommitTurns", spec := "commitTurns", unfollowed := true, recurses := true, apart := false, narrowed := true }
def CommitTurnsUptoSaid : Prop := commitTurnsUptoRow.holds Try.pinned (OpenSpec.upto commitTurnsSpec)

end Rows
end Go.Proofs.Ytdbkngfdaeminaa
