/-
  No cell of these rows narrows 'for every input' (looked for: loops, veiled, ifaces, maps, wideKeys, modest, calm, conditions, laid).
  DERIVED. THE GIVEN ROWS OF THIS SEAT. 10 by the template 'for every input the law returns true; each argument reads behind the call as it read before'; 0 by the template 'total and deterministic' (their statements: YtfcfjlijkmcgmaaTotals.lean).
  GIVEN WITH THE SEED: the statements are not yours to turn. If you find one false, say at which input.
  Laid BY PROGRAM, IN A SANDBOX (cutbox-rows.mjs): the forced cells as the released guide's own fill.sh prints them over the translation 6c05cdced12308c2… (all of the seat's roots in one cut). By AI agents, Wed Nov 11 2026. No macro, syntax, notation, axiom, sorry.
-/
import Derived.Test.YtfcfjlijkmcgmaaChecked
import GoSem.Claim
import GoSem.ClaimJoined
import GoSem.ClaimMapViews
import Derived.JoinedTies
import Derived.KernelRfl
namespace Go.Proofs.Ytfcfjlijkmcgmaa
/- THE CELL 'sum', in the pinned program and in every row, IS THE sha256 OF THE DUMP (.gsa) THAT YtfcfjlijkmcgmaaProg.lean LOADS. Nothing in Lean hashes anything: it is a label: what it is worth is what the hold of that sum in a sandbox is worth. -/
noncomputable def Try.pinned : Pinned := { name := "ytfcfjlijkmcgmaa", sum := "6c05cdced12308c25662b2e445dfb7e15c08f0baaa7d48f409b32f0caebc9950", checked := Try.checked }
namespace Rows
def none {H : Type} : Left H := { results := [], args := [] }

/-- 'escrowlaw08.AmountPairs': WHATEVER THE INPUT: true; the input reads as it did. -/
def amountPairsSpec : ChangeSpec := { name := "amountPairs", fn := fun _ => fun
  | [d1, d2] => { results := [.lit (.bool true)], args := [d1, d2] }
  | _ => none }
def amountPairsRow : OpenClaim := { program := "ytfcfjlijkmcgmaa", sum := "6c05cdced12308c25662b2e445dfb7e15c08f0baaa7d48f409b32f0caebc9950", func := "escrow/escrowlaw08.AmountPairs", spec := "amountPairs", apart := false }
def AmountPairsSaid : Prop := amountPairsRow.holds Try.pinned (OpenSpec.ofChange amountPairsSpec)

/-- ITS FALSE NEIGHBOUR: 'it returns false'. Refute it at one input. -/
def amountPairsWrong : ChangeSpec := { name := "amountPairs", fn := fun _ => fun
  | [d1, d2] => { results := [.lit (.bool false)], args := [d1, d2] }
  | _ => none }
def AmountPairsWrongFalsely : Prop := amountPairsRow.holds Try.pinned (OpenSpec.ofChange amountPairsWrong)

/-- 'escrowlaw08.AmountSums': WHATEVER THE INPUT: true; the input reads as it did. -/
def amountSumsSpec : ChangeSpec := { name := "amountSums", fn := fun _ => fun
  | [d] => { results := [.lit (.bool true)], args := [d] }
  | _ => none }
def amountSumsRow : OpenClaim := { program := "ytfcfjlijkmcgmaa", sum := "6c05cdced12308c25662b2e445dfb7e15c08f0baaa7d48f409b32f0caebc9950", func := "escrow/escrowlaw08.AmountSums", spec := "amountSums", apart := false }
def AmountSumsSaid : Prop := amountSumsRow.holds Try.pinned (OpenSpec.ofChange amountSumsSpec)

/-- ITS FALSE NEIGHBOUR: 'it returns false'. Refute it at one input. -/
def amountSumsWrong : ChangeSpec := { name := "amountSums", fn := fun _ => fun
  | [d] => { results := [.lit (.bool false)], args := [d] }
  | _ => none }
def AmountSumsWrongFalsely : Prop := amountSumsRow.holds Try.pinned (OpenSpec.ofChange amountSumsWrong)

/-- 'escrowlaw08.AmountBack': WHATEVER THE INPUT: true; the input reads as it did. -/
def amountBackSpec : ChangeSpec := { name := "amountBack", fn := fun _ => fun
  | [d1, d2] => { results := [.lit (.bool true)], args := [d1, d2] }
  | _ => none }
def amountBackRow : OpenClaim := { program := "ytfcfjlijkmcgmaa", sum := "6c05cdced12308c25662b2e445dfb7e15c08f0baaa7d48f409b32f0caebc9950", func := "escrow/escrowlaw08.AmountBack", spec := "amountBack", apart := false }
def AmountBackSaid : Prop := amountBackRow.holds Try.pinned (OpenSpec.ofChange amountBackSpec)

/-- ITS FALSE NEIGHBOUR: 'it returns false'. Refute it at one input. -/
def amountBackWrong : ChangeSpec := { name := "amountBack", fn := fun _ => fun
  | [d1, d2] => { results := [.lit (.bool false)], args := [d1, d2] }
  | _ => none }
def AmountBackWrongFalsely : Prop := amountBackRow.holds Try.pinned (OpenSpec.ofChange amountBackWrong)

/-- 'escrowlaw08.AmountParts': WHATEVER THE INPUT: true; the input reads as it did. -/
def amountPartsSpec : ChangeSpec := { name := "amountParts", fn := fun _ => fun
  | [d1, d2] => { results := [.lit (.bool true)], args := [d1, d2] }
  | _ => none }
def amountPartsRow : OpenClaim := { program := "ytfcfjlijkmcgmaa", sum := "6c05cdced12308c25662b2e445dfb7e15c08f0baaa7d48f409b32f0caebc9950", func := "escrow/escrowlaw08.AmountParts", spec := "amountParts", apart := false }
def AmountPartsSaid : Prop := amountPartsRow.holds Try.pinned (OpenSpec.ofChange amountPartsSpec)

/-- ITS FALSE NEIGHBOUR: 'it returns false'. Refute it at one input. -/
def amountPartsWrong : ChangeSpec := { name := "amountParts", fn := fun _ => fun
  | [d1, d2] => { results := [.lit (.bool false)], args := [d1, d2] }
  | _ => none }
def AmountPartsWrongFalsely : Prop := amountPartsRow.holds Try.pinned (OpenSpec.ofChange amountPartsWrong)

/-- 'escrowlaw03.CursorWrites': WHATEVER THE INPUT: true; the input reads as it did. -/
def cursorWritesSpec : ChangeSpec := { name := "cursorWrites", fn := fun _ => fun
  | [d] => { results := [.lit (.bool true)], args := [d] }
  | _ => none }
def cursorWritesRow : OpenClaim := { program := "ytfcfjlijkmcgmaa", sum := "6c05cdced12308c25662b2e445dfb7e15c08f0baaa7d48f409b32f0caebc9950", func := "escrow/escrowlaw03.CursorWrites", spec := "cursorWrites", apart := false }
def CursorWritesSaid : Prop := cursorWritesRow.holds Try.pinned (OpenSpec.ofChange cursorWritesSpec)

/-- ITS FALSE NEIGHBOUR: 'it returns false'. Refute it at one input. -/
def cursorWritesWrong : ChangeSpec := { name := "cursorWrites", fn := fun _ => fun
  | [d] => { results := [.lit (.bool false)], args := [d] }
  | _ => none }
def CursorWritesWrongFalsely : Prop := cursorWritesRow.holds Try.pinned (OpenSpec.ofChange cursorWritesWrong)

/-- 'escrowlaw03.CursorHalves': WHATEVER THE INPUT: true; the input reads as it did. -/
def cursorHalvesSpec : ChangeSpec := { name := "cursorHalves", fn := fun _ => fun
  | [d1, d2] => { results := [.lit (.bool true)], args := [d1, d2] }
  | _ => none }
def cursorHalvesRow : OpenClaim := { program := "ytfcfjlijkmcgmaa", sum := "6c05cdced12308c25662b2e445dfb7e15c08f0baaa7d48f409b32f0caebc9950", func := "escrow/escrowlaw03.CursorHalves", spec := "cursorHalves", apart := false }
def CursorHalvesSaid : Prop := cursorHalvesRow.holds Try.pinned (OpenSpec.ofChange cursorHalvesSpec)

/-- ITS FALSE NEIGHBOUR: 'it returns false'. Refute it at one input. -/
def cursorHalvesWrong : ChangeSpec := { name := "cursorHalves", fn := fun _ => fun
  | [d1, d2] => { results := [.lit (.bool false)], args := [d1, d2] }
  | _ => none }
def CursorHalvesWrongFalsely : Prop := cursorHalvesRow.holds Try.pinned (OpenSpec.ofChange cursorHalvesWrong)

/-- 'escrowlaw03.CursorTexts': WHATEVER THE INPUT: true; the input reads as it did. -/
def cursorTextsSpec : ChangeSpec := { name := "cursorTexts", fn := fun _ => fun
  | [d1, d2, d3] => { results := [.lit (.bool true)], args := [d1, d2, d3] }
  | _ => none }
def cursorTextsRow : OpenClaim := { program := "ytfcfjlijkmcgmaa", sum := "6c05cdced12308c25662b2e445dfb7e15c08f0baaa7d48f409b32f0caebc9950", func := "escrow/escrowlaw03.CursorTexts", spec := "cursorTexts", apart := false }
def CursorTextsSaid : Prop := cursorTextsRow.holds Try.pinned (OpenSpec.ofChange cursorTextsSpec)

/-- ITS FALSE NEIGHBOUR: 'it returns false'. Refute it at one input. -/
def cursorTextsWrong : ChangeSpec := { name := "cursorTexts", fn := fun _ => fun
  | [d1, d2, d3] => { results := [.lit (.bool false)], args := [d1, d2, d3] }
  | _ => none }
def CursorTextsWrongFalsely : Prop := cursorTextsRow.holds Try.pinned (OpenSpec.ofChange cursorTextsWrong)

/-- 'escrowlaw03.CursorReads': WHATEVER THE INPUT: true; the input reads as it did. -/
def cursorReadsSpec : ChangeSpec := { name := "cursorReads", fn := fun _ => fun
  | [d1, d2, d3] => { results := [.lit (.bool true)], args := [d1, d2, d3] }
  | _ => none }
def cursorReadsRow : OpenClaim := { program := "ytfcfjlijkmcgmaa", sum := "6c05cdced12308c25662b2e445dfb7e15c08f0baaa7d48f409b32f0caebc9950", func := "escrow/escrowlaw03.CursorReads", spec := "cursorReads", apart := false }
def CursorReadsSaid : Prop := cursorReadsRow.holds Try.pinned (OpenSpec.ofChange cursorReadsSpec)

/-- ITS FALSE NEIGHBOUR: 'it returns false'. Refute it at one input. -/
def cursorReadsWrong : ChangeSpec := { name := "cursorReads", fn := fun _ => fun
  | [d1, d2, d3] => { results := [.lit (.bool false)], args := [d1, d2, d3] }
  | _ => none }
def CursorReadsWrongFalsely : Prop := cursorReadsRow.holds Try.pinned (OpenSpec.ofChange cursorReadsWrong)

/-- 'escrowlaw03.CursorBack': WHATEVER THE INPUT: true; the input reads as it did. -/
def cursorBackSpec : ChangeSpec := { name := "cursorBack", fn := fun _ => fun
  | [d1, d2] => { results := [.lit (.bool true)], args := [d1, d2] }
  | _ => none }
def cursorBackRow : OpenClaim := { program := "ytfcfjlijkmcgmaa", sum := "6c05cdced12308c25662b2e445dfb7e15c08f0baaa7d48f409b32f0caebc9950", func := "escrow/escrowlaw03.CursorBack", spec := "cursorBack", apart := false }
def CursorBackSaid : Prop := cursorBackRow.holds Try.pinned (OpenSpec.ofChange cursorBackSpec)

/-- ITS FALSE NEIGHBOUR: 'it returns false'. Refute it at one input. -/
def cursorBackWrong : ChangeSpec := { name := "cursorBack", fn := fun _ => fun
  | [d1, d2] => { results := [.lit (.bool false)], args := [d1, d2] }
  | _ => none }
def CursorBackWrongFalsely : Prop := cursorBackRow.holds Try.pinned (OpenSpec.ofChange cursorBackWrong)

/-- 'escrowlaw03.CursorCut': WHATEVER THE INPUT: true; the input reads as it did. -/
def cursorCutSpec : ChangeSpec := { name := "cursorCut", fn := fun _ => fun
  | [d1, d2] => { results := [.lit (.bool true)], args := [d1, d2] }
  | _ => none }
def cursorCutRow : OpenClaim := { program := "ytfcfjlijkmcgmaa", sum := "6c05cdced12308c25662b2e445dfb7e15c08f0baaa7d48f409b32f0caebc9950", func := "escrow/escrowlaw03.CursorCut", spec := "cursorCut", apart := false }
def CursorCutSaid : Prop := cursorCutRow.holds Try.pinned (OpenSpec.ofChange cursorCutSpec)

/-- ITS FALSE NEIGHBOUR: 'it returns false'. Refute it at one input. -/
def cursorCutWrong : ChangeSpec := { name := "cursorCut", fn := fun _ => fun
  | [d1, d2] => { results := [.lit (.bool false)], args := [d1, d2] }
  | _ => none }
def CursorCutWrongFalsely : Prop := cursorCutRow.holds Try.pinned (OpenSpec.ofChange cursorCutWrong)

/- THE SECOND FORM. 'bulk': how many values and letters a reading holds, each counted each time it is reached (what is shared counts as often as it is met; a slice's spare places count too). A statement '..UptoSaid' is the law's where the arguments, and the package variables that the reading takes, are together of bulk at most 1048576: NARROWER than '..Said'. Prove '..Said' where nothing that the law and all that it calls make is longer than what came in: it says more and counts as full. Else prove '..UptoSaid'. A law counts once. -/
mutual
def uptoBulk {H : Type} : DataW H → Nat
  | .lit (.string bytes) => bytes.length + 1
  | .lit _ => 1
  | .nil => 1
  | .ptr d => uptoBulk d + 1
  | .slice elems spare => uptoBulkAll elems + uptoBulkAll spare + 1
  | .agg parts => uptoBulkAll parts + 1
  | .iface _ d => uptoBulk d + 1
  | .map entries => uptoBulkEntries entries + 1
  | .held _ => 1
def uptoBulkAll {H : Type} : List (DataW H) → Nat
  | [] => 0
  | d :: r => uptoBulk d + uptoBulkAll r
def uptoBulkEntries {H : Type} : List (Lit × DataW H) → Nat
  | [] => 0
  | x :: r => uptoBulkEntry x + uptoBulkEntries r
def uptoBulkEntry {H : Type} : Lit × DataW H → Nat
  | (.string bytes, d) => bytes.length + uptoBulk d + 1
  | (_, d) => uptoBulk d + 1
 end
def uptoSmall : (H : Type) → List (DataW H) → Bool := fun _ ds => decide (uptoBulkAll ds ≤ 1048576)
def OpenSpec.upto (s : _root_.Go.ChangeSpec) : _root_.Go.OpenSpec := { _root_.Go.OpenSpec.ofChange s with cond := some uptoSmall }

/-- 'escrowlaw08.AmountPairs', WHERE WHAT IT READS IS OF BULK AT MOST 1048576: true; the input reads as it did. -/
def amountPairsUptoRow : OpenClaim := { program := "ytfcfjlijkmcgmaa", sum := "6c05cdced12308c25662b2e445dfb7e15c08f0baaa7d48f409b32f0caebc9950", func := "escrow/escrowlaw08.AmountPairs", spec := "amountPairs", apart := false, narrowed := true }
def AmountPairsUptoSaid : Prop := amountPairsUptoRow.holds Try.pinned (OpenSpec.upto amountPairsSpec)

/-- 'escrowlaw08.AmountSums', WHERE WHAT IT READS IS OF BULK AT MOST 1048576: true; the input reads as it did. -/
def amountSumsUptoRow : OpenClaim := { program := "ytfcfjlijkmcgmaa", sum := "6c05cdced12308c25662b2e445dfb7e15c08f0baaa7d48f409b32f0caebc9950", func := "escrow/escrowlaw08.AmountSums", spec := "amountSums", apart := false, narrowed := true }
def AmountSumsUptoSaid : Prop := amountSumsUptoRow.holds Try.pinned (OpenSpec.upto amountSumsSpec)

/-- 'escrowlaw08.AmountBack', WHERE WHAT IT READS IS OF BULK AT MOST 1048576: true; the input reads as it did. -/
def amountBackUptoRow : OpenClaim := { program := "ytfcfjlijkmcgmaa", sum := "6c05cdced12308c25662b2e445dfb7e15c08f0baaa7d48f409b32f0caebc9950", func := "escrow/escrowlaw08.AmountBack", spec := "amountBack", apart := false, narrowed := true }
def AmountBackUptoSaid : Prop := amountBackUptoRow.holds Try.pinned (OpenSpec.upto amountBackSpec)

/-- 'escrowlaw08.AmountParts', WHERE WHAT IT READS IS OF BULK AT MOST 1048576: true; the input reads as it did. -/
def amountPartsUptoRow : OpenClaim := { program := "ytfcfjlijkmcgmaa", sum := "6c05cdced12308c25662b2e445dfb7e15c08f0baaa7d48f409b32f0caebc9950", func := "escrow/escrowlaw08.AmountParts", spec := "amountParts", apart := false, narrowed := true }
def AmountPartsUptoSaid : Prop := amountPartsUptoRow.holds Try.pinned (OpenSpec.upto amountPartsSpec)

/-- 'escrowlaw03.CursorWrites', WHERE WHAT IT READS IS OF BULK AT MOST 1048576: true; the input reads as it did. -/
def cursorWritesUptoRow : OpenClaim := { program := "ytfcfjlijkmcgmaa", sum := "6c05cdced12308c25662b2e445dfb7e15c08f0baaa7d48f409b32f0caebc9950", func := "escrow/escrowlaw03.CursorWrites", spec := "cursorWrites", apart := false, narrowed := true }
def CursorWritesUptoSaid : Prop := cursorWritesUptoRow.holds Try.pinned (OpenSpec.upto cursorWritesSpec)

/-- 'escrowlaw03.CursorHalves', WHERE WHAT IT READS IS OF BULK AT MOST 1048576: true; the input reads as it did. -/
def cursorHalvesUptoRow : OpenClaim := { program := "ytfcfjlijkmcgmaa", sum := "6c05cdced12308c25662b2e445dfb7e15c08f0baaa7d48f409b32f0caebc9950", func := "escrow/escrowlaw03.CursorHalves", spec := "cursorHalves", apart := false, narrowed := true }
def CursorHalvesUptoSaid : Prop := cursorHalvesUptoRow.holds Try.pinned (OpenSpec.upto cursorHalvesSpec)

/-- 'escrowlaw03.CursorTexts', WHERE WHAT IT READS IS OF BULK AT MOST 1048576: true; the input reads as it did. -/
def cursorTextsUptoRow : OpenClaim := { program := "ytfcfjlijkmcgmaa", sum := "6c05cdced12308c25662b2e445dfb7e15c08f0baaa7d48f409b32f0caebc9950", func := "escrow/escrowlaw03.CursorTexts", spec := "cursorTexts", apart := false, narrowed := true }
def CursorTextsUptoSaid : Prop := cursorTextsUptoRow.holds Try.pinned (OpenSpec.upto cursorTextsSpec)

/-- 'escrowlaw03.CursorReads', WHERE WHAT IT READS IS OF BULK AT MOST 1048576: true; the input reads as it did. -/
def cursorReadsUptoRow : OpenClaim := { program := "ytfcfjlijkmcgmaa", sum := "6c05cdced12308c25662b2e445dfb7e15c08f0baaa7d48f409b32f0caebc9950", func := "escrow/escrowlaw03.CursorReads", spec := "cursorReads", apart := false, narrowed := true }
def CursorReadsUptoSaid : Prop := cursorReadsUptoRow.holds Try.pinned (OpenSpec.upto cursorReadsSpec)

/-- 'escrowlaw03.CursorBack', WHERE WHAT IT READS IS OF BULK AT MOST 1048576: true; the input reads as it did. -/
def cursorBackUptoRow : OpenClaim := { program := "ytfcfjlijkmcgmaa", sum := "6c05cdced12308c25662b2e445dfb7e15c08f0baaa7d48f409b32f0caebc9950", func := "escrow/escrowlaw03.CursorBack", spec := "cursorBack", apart := false, narrowed := true }
def CursorBackUptoSaid : Prop := cursorBackUptoRow.holds Try.pinned (OpenSpec.upto cursorBackSpec)

/-- 'escrowlaw03.CursorCut', WHERE WHAT IT READS IS OF BULK AT MOST 1048576: true; the input reads as it did. -/
def cursorCutUptoRow : OpenClaim := { program := "ytfcfjlijkmcgmaa", sum := "6c05cdced12308c25662b2e445dfb7e15c08f0baaa7d48f409b32f0caebc9950", func := "escrow/escrowlaw03.CursorCut", spec := "cursorCut", apart := false, narrowed := true }
def CursorCutUptoSaid : Prop := cursorCutUptoRow.holds Try.pinned (OpenSpec.upto cursorCutSpec)

end Rows
end Go.Proofs.Ytfcfjlijkmcgmaa
