/-
  No cell of these rows narrows 'for every input' (looked for: loops, veiled, ifaces, maps, wideKeys, modest, calm, conditions, laid).
  DERIVED. THE GIVEN ROWS OF THIS SEAT. 5 by the template 'for every input the law returns true; each argument reads behind the call as it read before'; 0 by the template 'total and deterministic' (their statements: YtooeiljhobdfpaaTotals.lean).
  GIVEN WITH THE SEED: the statements are not yours to turn. If you find one false, say at which input.
  Laid BY PROGRAM, IN A SANDBOX (cutbox-rows.mjs): the forced cells as the released guide's own fill.sh prints them over the translation 3577ea09efbe8ba4… (all of the seat's roots in one cut). By AI agents, Wed Nov 11 2026. No macro, syntax, notation, axiom, sorry.
-/
import Derived.Test.YtooeiljhobdfpaaChecked
import GoSem.Claim
import GoSem.ClaimJoined
import GoSem.ClaimMapViews
import Derived.JoinedTies
import Derived.KernelRfl
namespace Go.Proofs.Ytooeiljhobdfpaa
/- THE CELL 'sum', in the pinned program and in every row, IS THE sha256 OF THE DUMP (.gsa) THAT YtooeiljhobdfpaaProg.lean LOADS. Nothing in Lean hashes anything: it is a label: what it is worth is what the hold of that sum in a sandbox is worth. -/
noncomputable def Try.pinned : Pinned := { name := "ytooeiljhobdfpaa", sum := "3577ea09efbe8ba4a48fb25190e3aa5d3e4b50e09fcd03a4cf23536aa2b45328", checked := Try.checked }
namespace Rows
def none {H : Type} : Left H := { results := [], args := [] }

/-- 'escrowlaw13.LedgerFolds': WHATEVER THE INPUT: true; the input reads as it did. -/
def ledgerFoldsSpec : ChangeSpec := { name := "ledgerFolds", fn := fun _ => fun
  | [d1, d2, d3, d4, d5] => { results := [.lit (.bool true)], args := [d1, d2, d3, d4, d5] }
  | _ => none }
def ledgerFoldsRow : OpenClaim := { program := "ytooeiljhobdfpaa", sum := "3577ea09efbe8ba4a48fb25190e3aa5d3e4b50e09fcd03a4cf23536aa2b45328", func := "escrow/escrowlaw13.LedgerFolds", spec := "ledgerFolds", unfollowed := true, recurses := true, apart := false }
def LedgerFoldsSaid : Prop := ledgerFoldsRow.holds Try.pinned (OpenSpec.ofChange ledgerFoldsSpec)

/-- ITS FALSE NEIGHBOUR: 'it returns false'. Refute it at one input. -/
def ledgerFoldsWrong : ChangeSpec := { name := "ledgerFolds", fn := fun _ => fun
  | [d1, d2, d3, d4, d5] => { results := [.lit (.bool false)], args := [d1, d2, d3, d4, d5] }
  | _ => none }
def LedgerFoldsWrongFalsely : Prop := ledgerFoldsRow.holds Try.pinned (OpenSpec.ofChange ledgerFoldsWrong)

/-- 'escrowlaw13.LedgerSpends': WHATEVER THE INPUT: true; the input reads as it did. -/
def ledgerSpendsSpec : ChangeSpec := { name := "ledgerSpends", fn := fun _ => fun
  | [d1, d2, d3, d4] => { results := [.lit (.bool true)], args := [d1, d2, d3, d4] }
  | _ => none }
def ledgerSpendsRow : OpenClaim := { program := "ytooeiljhobdfpaa", sum := "3577ea09efbe8ba4a48fb25190e3aa5d3e4b50e09fcd03a4cf23536aa2b45328", func := "escrow/escrowlaw13.LedgerSpends", spec := "ledgerSpends", unfollowed := true, recurses := true, apart := false }
def LedgerSpendsSaid : Prop := ledgerSpendsRow.holds Try.pinned (OpenSpec.ofChange ledgerSpendsSpec)

/-- ITS FALSE NEIGHBOUR: 'it returns false'. Refute it at one input. -/
def ledgerSpendsWrong : ChangeSpec := { name := "ledgerSpends", fn := fun _ => fun
  | [d1, d2, d3, d4] => { results := [.lit (.bool false)], args := [d1, d2, d3, d4] }
  | _ => none }
def LedgerSpendsWrongFalsely : Prop := ledgerSpendsRow.holds Try.pinned (OpenSpec.ofChange ledgerSpendsWrong)

/-- 'escrowlaw13.LedgerViews': WHATEVER THE INPUT: true; the input reads as it did. -/
def ledgerViewsSpec : ChangeSpec := { name := "ledgerViews", fn := fun _ => fun
  | [d1, d2, d3, d4, d5] => { results := [.lit (.bool true)], args := [d1, d2, d3, d4, d5] }
  | _ => none }
def ledgerViewsRow : OpenClaim := { program := "ytooeiljhobdfpaa", sum := "3577ea09efbe8ba4a48fb25190e3aa5d3e4b50e09fcd03a4cf23536aa2b45328", func := "escrow/escrowlaw13.LedgerViews", spec := "ledgerViews", unfollowed := true, recurses := true, apart := false }
def LedgerViewsSaid : Prop := ledgerViewsRow.holds Try.pinned (OpenSpec.ofChange ledgerViewsSpec)

/-- ITS FALSE NEIGHBOUR: 'it returns false'. Refute it at one input. -/
def ledgerViewsWrong : ChangeSpec := { name := "ledgerViews", fn := fun _ => fun
  | [d1, d2, d3, d4, d5] => { results := [.lit (.bool false)], args := [d1, d2, d3, d4, d5] }
  | _ => none }
def LedgerViewsWrongFalsely : Prop := ledgerViewsRow.holds Try.pinned (OpenSpec.ofChange ledgerViewsWrong)

/-- 'escrowlaw13.LedgerNever': WHATEVER THE INPUT: true; the input reads as it did. -/
def ledgerNeverSpec : ChangeSpec := { name := "ledgerNever", fn := fun _ => fun
  | [d1, d2, d3] => { results := [.lit (.bool true)], args := [d1, d2, d3] }
  | _ => none }
def ledgerNeverRow : OpenClaim := { program := "ytooeiljhobdfpaa", sum := "3577ea09efbe8ba4a48fb25190e3aa5d3e4b50e09fcd03a4cf23536aa2b45328", func := "escrow/escrowlaw13.LedgerNever", spec := "ledgerNever", unfollowed := true, recurses := true, apart := false }
def LedgerNeverSaid : Prop := ledgerNeverRow.holds Try.pinned (OpenSpec.ofChange ledgerNeverSpec)

/-- ITS FALSE NEIGHBOUR: 'it returns false'. Refute it at one input. -/
def ledgerNeverWrong : ChangeSpec := { name := "ledgerNever", fn := fun _ => fun
  | [d1, d2, d3] => { results := [.lit (.bool false)], args := [d1, d2, d3] }
  | _ => none }
def LedgerNeverWrongFalsely : Prop := ledgerNeverRow.holds Try.pinned (OpenSpec.ofChange ledgerNeverWrong)

/-- 'escrowlaw13.LedgerMore': WHATEVER THE INPUT: true; the input reads as it did. -/
def ledgerMoreSpec : ChangeSpec := { name := "ledgerMore", fn := fun _ => fun
  | [d1, d2, d3, d4, d5, d6] => { results := [.lit (.bool true)], args := [d1, d2, d3, d4, d5, d6] }
  | _ => none }
def ledgerMoreRow : OpenClaim := { program := "ytooeiljhobdfpaa", sum := "3577ea09efbe8ba4a48fb25190e3aa5d3e4b50e09fcd03a4cf23536aa2b45328", func := "escrow/escrowlaw13.LedgerMore", spec := "ledgerMore", unfollowed := true, recurses := true, apart := false }
def LedgerMoreSaid : Prop := ledgerMoreRow.holds Try.pinned (OpenSpec.ofChange ledgerMoreSpec)

/-- ITS FALSE NEIGHBOUR: 'it returns false'. Refute it at one input. -/
def ledgerMoreWrong : ChangeSpec := { name := "ledgerMore", fn := fun _ => fun
  | [d1, d2, d3, d4, d5, d6] => { results := [.lit (.bool false)], args := [d1, d2, d3, d4, d5, d6] }
  | _ => none }
def LedgerMoreWrongFalsely : Prop := ledgerMoreRow.holds Try.pinned (OpenSpec.ofChange ledgerMoreWrong)

/- THE SECOND FORM. 'bulk': how many values and letters a reading holds, each counted each time it is reached (what is shared counts as often as it is met; a slice's spare places count too). A statement '..UptoSaid' is the law's where the arguments, and the package variables that the reading takes, are together of bulk at most 1048576: NARROWER than '..Said'. Prove '..Said' where nothing that the law and all that it calls make is longer than what came in: it says more and counts as full. Else prove '..UptoSaid'. A law counts once. -/
mutual
def uptoBulk {H : Type} : DataW H → Nat
  | .lit (.string bytes) => bytes.length + 1
  | .lit _ => 1
  | .nil => 1
  | .ptr d => uptoBulk d + 1
  | .slice elems spare => uptoBulkAll elems + uptoBulkAll spare + 1
  | .agg parts => uptoBulkAll parts + 1
  | .iface _ d => uptoBulk d + 1
  | .map entries => uptoBulkEntries entries + 1
  | .held _ => 1
def uptoBulkAll {H : Type} : List (DataW H) → Nat
  | [] => 0
  | d :: r => uptoBulk d + uptoBulkAll r
def uptoBulkEntries {H : Type} : List (Lit × DataW H) → Nat
  | [] => 0
  | x :: r => uptoBulkEntry x + uptoBulkEntries r
def uptoBulkEntry {H : Type} : Lit × DataW H → Nat
  | (.string bytes, d) => bytes.length + uptoBulk d + 1
  | (_, d) => uptoBulk d + 1
 end
def uptoSmall : (H : Type) → List (DataW H) → Bool := fun _ ds => decide (uptoBulkAll ds ≤ 1048576)
def OpenSpec.upto (s : _root_.Go.ChangeSpec) : _root_.Go.OpenSpec := { _root_.Go.OpenSpec.ofChange s with cond := some uptoSmall }

/-- 'escrowlaw13.LedgerFolds', WHERE WHAT IT READS IS OF BULK AT MOST 1048576: true; the input reads as it did. -/
def ledgerFoldsUptoRow : OpenClaim := { program := "ytooeiljhobdfpaa", sum := "3577ea09efbe8ba4a48fb25190e3aa5d3e4b50e09fcd03a4cf23536aa2b45328", func := "escrow/escrowlaw13.LedgerFolds", spec := "ledgerFolds", unfollowed := true, recurses := true, apart := false, narrowed := true }
def LedgerFoldsUptoSaid : Prop := ledgerFoldsUptoRow.holds Try.pinned (OpenSpec.upto ledgerFoldsSpec)

/-- 'escrowlaw13.LedgerSpends', WHERE WHAT IT READS IS OF BULK AT MOST 1048576: true; the input reads as it did. -/
def ledgerSpendsUptoRow : OpenClaim := { program := "ytooeiljhobdfpaa", sum := "3577ea09efbe8ba4a48fb25190e3aa5d3e4b50e09fcd03a4cf23536aa2b45328", func := "escrow/escrowlaw13.LedgerSpends", spec := "ledgerSpends", unfollowed := true, recurses := true, apart := false, narrowed := true }
def LedgerSpendsUptoSaid : Prop := ledgerSpendsUptoRow.holds Try.pinned (OpenSpec.upto ledgerSpendsSpec)

/-- 'escrowlaw13.LedgerViews', WHERE WHAT IT READS IS OF BULK AT MOST 1048576: true; the input reads as it did. -/
def ledgerViewsUptoRow : OpenClaim := { program := "ytooeiljhobdfpaa", sum := "3577ea09efbe8ba4a48fb25190e3aa5d3e4b50e09fcd03a4cf23536aa2b45328", func := "escrow/escrowlaw13.LedgerViews", spec := "ledgerViews", unfollowed := true, recurses := true, apart := false, narrowed := true }
def LedgerViewsUptoSaid : Prop := ledgerViewsUptoRow.holds Try.pinned (OpenSpec.upto ledgerViewsSpec)

/-- 'escrowlaw13.LedgerNever', WHERE WHAT IT READS IS OF BULK AT MOST 1048576: true; the input reads as it did. -/
def ledgerNeverUptoRow : OpenClaim := { program := "ytooeiljhobdfpaa", sum := "3577ea09efbe8ba4a48fb25190e3aa5d3e4b50e09fcd03a4cf23536aa2b45328", func := "escrow/escrowlaw13.LedgerNever", spec := "ledgerNever", unfollowed := true, recurses := true, apart := false, narrowed := true }
def LedgerNeverUptoSaid : Prop := ledgerNeverUptoRow.holds Try.pinned (OpenSpec.upto ledgerNeverSpec)

/-- 'escrowlaw13.LedgerMore', WHERE WHAT IT READS IS OF BULK AT MOST 1048576: true; the input reads as it did. -/
def ledgerMoreUptoRow : OpenClaim := { program := "ytooeiljhobdfpaa", sum := "3577ea09efbe8ba4a48fb25190e3aa5d3e4b50e09fcd03a4cf23536aa2b45328", func := "escrow/escrowlaw13.LedgerMore", spec := "ledgerMore", unfollowed := true, recurses := true, apart := false, narrowed := true }
def LedgerMoreUptoSaid : Prop := ledgerMoreUptoRow.holds Try.pinned (OpenSpec.upto ledgerMoreSpec)

end Rows
end Go.Proofs.Ytooeiljhobdfpaa
