/-
  No cell of these rows narrows 'for every input' (looked for: loops, veiled, ifaces, maps, wideKeys, modest, calm, conditions, laid).
  DERIVED. THE GIVEN ROWS OF THIS SEAT. 4 by the template 'for every input the law returns true; each argument reads behind the call as it read before'; 0 by the template 'total and deterministic' (their statements: YthaockalmnlceaaTotals.lean).
  GIVEN WITH THE SEED: the statements are not yours to turn. If you find one false, say at which input.
  Laid BY PROGRAM, IN A SANDBOX (cutbox-rows.mjs): the forced cells as the released guide's own fill.sh prints them over the translation e064e52f1e00fb4d… (all of the seat's roots in one cut). By AI agents, Wed Nov 11 2026. No macro, syntax, notation, axiom, sorry.
-/
import Derived.Test.YthaockalmnlceaaChecked
import GoSem.Claim
import GoSem.ClaimJoined
import GoSem.ClaimMapViews
import Derived.JoinedTies
import Derived.KernelRfl
namespace Go.Proofs.Ythaockalmnlceaa
/- THE CELL 'sum', in the pinned program and in every row, IS THE sha256 OF THE DUMP (.gsa) THAT YthaockalmnlceaaProg.lean LOADS. Nothing in Lean hashes anything: it is a label: what it is worth is what the hold of that sum in a sandbox is worth. -/
noncomputable def Try.pinned : Pinned := { name := "ythaockalmnlceaa", sum := "e064e52f1e00fb4d6e3fb9162e09d5c4c0c675ec54ed2d9961ad03a34f3da871", checked := Try.checked }
namespace Rows
def none {H : Type} : Left H := { results := [], args := [] }

/-- 'escrowlaw16.MsgBytes': WHATEVER THE INPUT: true; the input reads as it did. -/
def msgBytesSpec : ChangeSpec := { name := "msgBytes", fn := fun _ => fun
  | [d1, d2, d3] => { results := [.lit (.bool true)], args := [d1, d2, d3] }
  | _ => none }
def msgBytesRow : OpenClaim := { program := "ythaockalmnlceaa", sum := "e064e52f1e00fb4d6e3fb9162e09d5c4c0c675ec54ed2d9961ad03a34f3da871", func := "escrow/escrowlaw16.MsgBytes", spec := "msgBytes", apart := false }
def MsgBytesSaid : Prop := msgBytesRow.holds Try.pinned (OpenSpec.ofChange msgBytesSpec)

/-- ITS FALSE NEIGHBOUR: 'it returns false'. Refute it at one input. -/
def msgBytesWrong : ChangeSpec := { name := "msgBytes", fn := fun _ => fun
  | [d1, d2, d3] => { results := [.lit (.bool false)], args := [d1, d2, d3] }
  | _ => none }
def MsgBytesWrongFalsely : Prop := msgBytesRow.holds Try.pinned (OpenSpec.ofChange msgBytesWrong)

/-- 'escrowlaw16.MsgBack': WHATEVER THE INPUT: true; the input reads as it did. -/
def msgBackSpec : ChangeSpec := { name := "msgBack", fn := fun _ => fun
  | [d1, d2, d3, d4] => { results := [.lit (.bool true)], args := [d1, d2, d3, d4] }
  | _ => none }
def msgBackRow : OpenClaim := { program := "ythaockalmnlceaa", sum := "e064e52f1e00fb4d6e3fb9162e09d5c4c0c675ec54ed2d9961ad03a34f3da871", func := "escrow/escrowlaw16.MsgBack", spec := "msgBack", apart := false }
def MsgBackSaid : Prop := msgBackRow.holds Try.pinned (OpenSpec.ofChange msgBackSpec)

/-- ITS FALSE NEIGHBOUR: 'it returns false'. Refute it at one input. -/
def msgBackWrong : ChangeSpec := { name := "msgBack", fn := fun _ => fun
  | [d1, d2, d3, d4] => { results := [.lit (.bool false)], args := [d1, d2, d3, d4] }
  | _ => none }
def MsgBackWrongFalsely : Prop := msgBackRow.holds Try.pinned (OpenSpec.ofChange msgBackWrong)

/-- 'escrowlaw16.MsgUpdates': WHATEVER THE INPUT: true; the input reads as it did. -/
def msgUpdatesSpec : ChangeSpec := { name := "msgUpdates", fn := fun _ => fun
  | [d1, d2, d3] => { results := [.lit (.bool true)], args := [d1, d2, d3] }
  | _ => none }
def msgUpdatesRow : OpenClaim := { program := "ythaockalmnlceaa", sum := "e064e52f1e00fb4d6e3fb9162e09d5c4c0c675ec54ed2d9961ad03a34f3da871", func := "escrow/escrowlaw16.MsgUpdates", spec := "msgUpdates", apart := false }
def MsgUpdatesSaid : Prop := msgUpdatesRow.holds Try.pinned (OpenSpec.ofChange msgUpdatesSpec)

/-- ITS FALSE NEIGHBOUR: 'it returns false'. Refute it at one input. -/
def msgUpdatesWrong : ChangeSpec := { name := "msgUpdates", fn := fun _ => fun
  | [d1, d2, d3] => { results := [.lit (.bool false)], args := [d1, d2, d3] }
  | _ => none }
def MsgUpdatesWrongFalsely : Prop := msgUpdatesRow.holds Try.pinned (OpenSpec.ofChange msgUpdatesWrong)

/-- 'escrowlaw16.MsgForms': WHATEVER THE INPUT: true; the input reads as it did. -/
def msgFormsSpec : ChangeSpec := { name := "msgForms", fn := fun _ => fun
  | [d1, d2, d3, d4, d5] => { results := [.lit (.bool true)], args := [d1, d2, d3, d4, d5] }
  | _ => none }
def msgFormsRow : OpenClaim := { program := "ythaockalmnlceaa", sum := "e064e52f1e00fb4d6e3fb9162e09d5c4c0c675ec54ed2d9961ad03a34f3da871", func := "escrow/escrowlaw16.MsgForms", spec := "msgForms", apart := false }
def MsgFormsSaid : Prop := msgFormsRow.holds Try.pinned (OpenSpec.ofChange msgFormsSpec)

/-- ITS FALSE NEIGHBOUR: 'it returns false'. Refute it at one input. -/
def msgFormsWrong : ChangeSpec := { name := "msgForms", fn := fun _ => fun
  | [d1, d2, d3, d4, d5] => { results := [.lit (.bool false)], args := [d1, d2, d3, d4, d5] }
  | _ => none }
def MsgFormsWrongFalsely : Prop := msgFormsRow.holds Try.pinned (OpenSpec.ofChange msgFormsWrong)

/- THE SECOND FORM. 'bulk': how many values and letters a reading holds, each counted each time it is reached (what is shared counts as often as it is met; a slice's spare places count too). A statement '..UptoSaid' is the law's where the arguments, and the package variables that the reading takes, are together of bulk at most 1048576: NARROWER than '..Said'. Prove '..Said' where nothing that the law and all that it calls make is longer than what came in: it says more and counts as full. Else prove '..UptoSaid'. A law counts once. -/
mutual
def uptoBulk {H : Type} : DataW H → Nat
  | .lit (.string bytes) => bytes.length + 1
  | .lit _ => 1
  | .nil => 1
  | .ptr d => uptoBulk d + 1
  | .slice elems spare => uptoBulkAll elems + uptoBulkAll spare + 1
  | .agg parts => uptoBulkAll parts + 1
  | .iface _ d => uptoBulk d + 1
  | .map entries => uptoBulkEntries entries + 1
  | .held _ => 1
def uptoBulkAll {H : Type} : List (DataW H) → Nat
  | [] => 0
  | d :: r => uptoBulk d + uptoBulkAll r
def uptoBulkEntries {H : Type} : List (Lit × DataW H) → Nat
  | [] => 0
  | x :: r => uptoBulkEntry x + uptoBulkEntries r
def uptoBulkEntry {H : Type} : Lit × DataW H → Nat
  | (.string bytes, d) => bytes.length + uptoBulk d + 1
  | (_, d) => uptoBulk d + 1
 end
def uptoSmall : (H : Type) → List (DataW H) → Bool := fun _ ds => decide (uptoBulkAll ds ≤ 1048576)
def OpenSpec.upto (s : _root_.Go.ChangeSpec) : _root_.Go.OpenSpec := { _root_.Go.OpenSpec.ofChange s with cond := some uptoSmall }

/-- 'escrowlaw16.MsgBytes', WHERE WHAT IT READS IS OF BULK AT MOST 1048576: true; the input reads as it did. -/
def msgBytesUptoRow : OpenClaim := { program := "ythaockalmnlceaa", sum := "e064e52f1e00fb4d6e3fb9162e09d5c4c0c675ec54ed2d9961ad03a34f3da871", func := "escrow/escrowlaw16.MsgBytes", spec := "msgBytes", apart := false, narrowed := true }
def MsgBytesUptoSaid : Prop := msgBytesUptoRow.holds Try.pinned (OpenSpec.upto msgBytesSpec)

/-- 'escrowlaw16.MsgBack', WHERE WHAT IT READS IS OF BULK AT MOST 1048576: true; the input reads as it did. -/
def msgBackUptoRow : OpenClaim := { program := "ythaockalmnlceaa", sum := "e064e52f1e00fb4d6e3fb9162e09d5c4c0c675ec54ed2d9961ad03a34f3da871", func := "escrow/escrowlaw16.MsgBack", spec := "msgBack", apart := false, narrowed := true }
def MsgBackUptoSaid : Prop := msgBackUptoRow.holds Try.pinned (OpenSpec.upto msgBackSpec)

/-- 'escrowlaw16.MsgUpdates', WHERE WHAT IT READS IS OF BULK AT MOST 1048576: true; the input reads as it did. -/
def msgUpdatesUptoRow : OpenClaim := { program := "ythaockalmnlceaa", sum := "e064e52f1e00fb4d6e3fb9162e09d5c4c0c675ec54ed2d9961ad03a34f3da871", func := "escrow/escrowlaw16.MsgUpdates", spec := "msgUpdates", apart := false, narrowed := true }
def MsgUpdatesUptoSaid : Prop := msgUpdatesUptoRow.holds Try.pinned (OpenSpec.upto msgUpdatesSpec)

/-- 'escrowlaw16.MsgForms', WHERE WHAT IT READS IS OF BULK AT MOST 1048576: true; the input reads as it did. -/
def msgFormsUptoRow : OpenClaim := { program := "ythaockalmnlceaa", sum := "e064e52f1e00fb4d6e3fb9162e09d5c4c0c675ec54ed2d9961ad03a34f3da871", func := "escrow/escrowlaw16.MsgForms", spec := "msgForms", apart := false, narrowed := true }
def MsgFormsUptoSaid : Prop := msgFormsUptoRow.holds Try.pinned (OpenSpec.upto msgFormsSpec)

end Rows
end Go.Proofs.Ythaockalmnlceaa
