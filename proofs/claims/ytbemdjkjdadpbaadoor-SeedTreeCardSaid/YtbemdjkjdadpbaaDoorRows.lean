/-
  NARROWER THAN 'FOR EVERY INPUT', by the rows' own cells (each row's printed sentence says how): SeedSecrets: laid · SeedDerives: laid · SeedTree: laid · SeedSteps: laid · SeedEdges: laid.
  DERIVED. THE GIVEN ROWS OF THIS SEAT. 5 by the template 'for every input the law returns true; each argument reads behind the call as it read before'; 0 by the template 'total and deterministic' (their statements: YtbemdjkjdadpbaaDoorTotals.lean).
  GIVEN WITH THE SEED: the statements are not yours to turn. If you find one false, say at which input.
  Laid BY PROGRAM, IN A SANDBOX (cutbox-rows.mjs): the forced cells as the released guide's own fill.sh prints them over the translation 1e208e3f4cacf0df… (all of the seat's roots in one cut). By AI agents, Wed Nov 11 2026. No macro, syntax, notation, axiom, sorry.
-/
import Derived.Test.YtbemdjkjdadpbaaDoorChecked
import GoSem.Claim
import GoSem.ClaimJoined
import GoSem.ClaimMapViews
import Derived.JoinedTies
import Derived.KernelRfl
namespace Go.Proofs.YtbemdjkjdadpbaaDoor
/- THE CELL 'sum', in the pinned program and in every row, IS THE sha256 OF THE DUMP (.gsa) THAT YtbemdjkjdadpbaaDoorProg.lean LOADS. Nothing in Lean hashes anything: it is a label: what it is worth is what the hold of that sum in a sandbox is worth. -/
noncomputable def Tryd.pinned : Pinned := { name := "ytbemdjkjdadpbaadoor", sum := "1e208e3f4cacf0df2c0955445c729b46f8616e38709cb268ceca169652d68b68", checked := Tryd.checked }
namespace Rows
def none {H : Type} : Left H := { results := [], args := [] }

/- WHAT THE LISTED PACKAGE-LEVEL VARIABLES READ AS WHEN THE CALL BEGINS. Each datum BY PROGRAM (the guide's laid-datum.mjs) off the statement by which the dump's own 'gosem.cut.vars' lays the variable. In a bare row this is a premise. The card (YtbemdjkjdadpbaaDoorCards.lean) ties it to the program's text. -/
def laid_math_bits_deBruijn64tab {H : Type} : DataW H := .agg [.lit (.int .u8 0), .lit (.int .u8 1), .lit (.int .u8 56), .lit (.int .u8 2), .lit (.int .u8 57), .lit (.int .u8 49), .lit (.int .u8 28), .lit (.int .u8 3), .lit (.int .u8 61), .lit (.int .u8 58), .lit (.int .u8 42), .lit (.int .u8 50), .lit (.int .u8 38), .lit (.int .u8 29), .lit (.int .u8 17), .lit (.int .u8 4), .lit (.int .u8 62), .lit (.int .u8 47), .lit (.int .u8 59), .lit (.int .u8 36), .lit (.int .u8 45), .lit (.int .u8 43), .lit (.int .u8 51), .lit (.int .u8 22), .lit (.int .u8 53), .lit (.int .u8 39), .lit (.int .u8 33), .lit (.int .u8 30), .lit (.int .u8 24), .lit (.int .u8 18), .lit (.int .u8 12), .lit (.int .u8 5), .lit (.int .u8 63), .lit (.int .u8 55), .lit (.int .u8 48), .lit (.int .u8 27), .lit (.int .u8 60), .lit (.int .u8 41), .lit (.int .u8 37), .lit (.int .u8 16), .lit (.int .u8 46), .lit (.int .u8 35), .lit (.int .u8 44), .lit (.int .u8 21), .lit (.int .u8 52), .lit (.int .u8 32), .lit (.int .u8 23), .lit (.int .u8 11), .lit (.int .u8 54), .lit (.int .u8 26), .lit (.int .u8 40), .lit (.int .u8 15), .lit (.int .u8 34), .lit (.int .u8 20), .lit (.int .u8 31), .lit (.int .u8 10), .lit (.int .u8 25), .lit (.int .u8 14), .lit (.int .u8 19), .lit (.int .u8 9), .lit (.int .u8 13), .lit (.int .u8 8), .lit (.int .u8 7), .lit (.int .u8 6)]

/-- 'escrowlaw09.SeedSecrets': WHATEVER THE INPUT: true; the input reads as it did. -/
def seedSecretsSpec : ChangeSpec := { name := "seedSecrets", fn := fun _ => fun
  | [d1, d2] => { results := [.lit (.bool true)], args := [d1, d2] }
  | _ => none }
def seedSecretsRow : OpenClaim := { program := "ytbemdjkjdadpbaadoor", sum := "1e208e3f4cacf0df2c0955445c729b46f8616e38709cb268ceca169652d68b68", func := "escrow/escrowlaw09.SeedSecrets", spec := "seedSecrets", inPlace := ["internal/abi.NoEscape", "internal/bytealg.MakeNoZero"], named := ["math/bits.deBruijn64tab"], apart := false, laid := [("math/bits.deBruijn64tab", laid_math_bits_deBruijn64tab)] }
def SeedSecretsSaid : Prop := seedSecretsRow.holds Tryd.pinned (OpenSpec.ofChange seedSecretsSpec)

/-- ITS FALSE NEIGHBOUR: 'it returns false'. Refute it at one input. -/
def seedSecretsWrong : ChangeSpec := { name := "seedSecrets", fn := fun _ => fun
  | [d1, d2] => { results := [.lit (.bool false)], args := [d1, d2] }
  | _ => none }
def SeedSecretsWrongFalsely : Prop := seedSecretsRow.holds Tryd.pinned (OpenSpec.ofChange seedSecretsWrong)

/-- 'escrowlaw09.SeedDerives': WHATEVER THE INPUT: true; the input reads as it did. -/
def seedDerivesSpec : ChangeSpec := { name := "seedDerives", fn := fun _ => fun
  | [d1, d2, d3] => { results := [.lit (.bool true)], args := [d1, d2, d3] }
  | _ => none }
def seedDerivesRow : OpenClaim := { program := "ytbemdjkjdadpbaadoor", sum := "1e208e3f4cacf0df2c0955445c729b46f8616e38709cb268ceca169652d68b68", func := "escrow/escrowlaw09.SeedDerives", spec := "seedDerives", inPlace := ["internal/abi.NoEscape", "internal/bytealg.MakeNoZero"], named := ["math/bits.deBruijn64tab"], apart := false, laid := [("math/bits.deBruijn64tab", laid_math_bits_deBruijn64tab)] }
def SeedDerivesSaid : Prop := seedDerivesRow.holds Tryd.pinned (OpenSpec.ofChange seedDerivesSpec)

/-- ITS FALSE NEIGHBOUR: 'it returns false'. Refute it at one input. -/
def seedDerivesWrong : ChangeSpec := { name := "seedDerives", fn := fun _ => fun
  | [d1, d2, d3] => { results := [.lit (.bool false)], args := [d1, d2, d3] }
  | _ => none }
def SeedDerivesWrongFalsely : Prop := seedDerivesRow.holds Tryd.pinned (OpenSpec.ofChange seedDerivesWrong)

/-- 'escrowlaw09.SeedTree': WHATEVER THE INPUT: true; the input reads as it did. -/
def seedTreeSpec : ChangeSpec := { name := "seedTree", fn := fun _ => fun
  | [d1, d2, d3] => { results := [.lit (.bool true)], args := [d1, d2, d3] }
  | _ => none }
def seedTreeRow : OpenClaim := { program := "ytbemdjkjdadpbaadoor", sum := "1e208e3f4cacf0df2c0955445c729b46f8616e38709cb268ceca169652d68b68", func := "escrow/escrowlaw09.SeedTree", spec := "seedTree", inPlace := ["internal/abi.NoEscape", "internal/bytealg.MakeNoZero"], named := ["math/bits.deBruijn64tab"], apart := false, laid := [("math/bits.deBruijn64tab", laid_math_bits_deBruijn64tab)] }
def SeedTreeSaid : Prop := seedTreeRow.holds Tryd.pinned (OpenSpec.ofChange seedTreeSpec)

/-- ITS FALSE NEIGHBOUR: 'it returns false'. Refute it at one input. -/
def seedTreeWrong : ChangeSpec := { name := "seedTree", fn := fun _ => fun
  | [d1, d2, d3] => { results := [.lit (.bool false)], args := [d1, d2, d3] }
  | _ => none }
def SeedTreeWrongFalsely : Prop := seedTreeRow.holds Tryd.pinned (OpenSpec.ofChange seedTreeWrong)

/-- 'escrowlaw09.SeedSteps': WHATEVER THE INPUT: true; the input reads as it did. -/
def seedStepsSpec : ChangeSpec := { name := "seedSteps", fn := fun _ => fun
  | [d1, d2, d3, d4] => { results := [.lit (.bool true)], args := [d1, d2, d3, d4] }
  | _ => none }
def seedStepsRow : OpenClaim := { program := "ytbemdjkjdadpbaadoor", sum := "1e208e3f4cacf0df2c0955445c729b46f8616e38709cb268ceca169652d68b68", func := "escrow/escrowlaw09.SeedSteps", spec := "seedSteps", inPlace := ["internal/abi.NoEscape", "internal/bytealg.MakeNoZero"], named := ["math/bits.deBruijn64tab"], apart := false, laid := [("math/bits.deBruijn64tab", laid_math_bits_deBruijn64tab)] }
def SeedStepsSaid : Prop := seedStepsRow.holds Tryd.pinned (OpenSpec.ofChange seedStepsSpec)

/-- ITS FALSE NEIGHBOUR: 'it returns false'. Refute it at one input. -/
def seedStepsWrong : ChangeSpec := { name := "seedSteps", fn := fun _ => fun
  | [d1, d2, d3, d4] => { results := [.lit (.bool false)], args := [d1, d2, d3, d4] }
  | _ => none }
def SeedStepsWrongFalsely : Prop := seedStepsRow.holds Tryd.pinned (OpenSpec.ofChange seedStepsWrong)

/-- 'escrowlaw09.SeedEdges': WHATEVER THE INPUT: true; the input reads as it did. -/
def seedEdgesSpec : ChangeSpec := { name := "seedEdges", fn := fun _ => fun
  | [d1, d2, d3] => { results := [.lit (.bool true)], args := [d1, d2, d3] }
  | _ => none }
def seedEdgesRow : OpenClaim := { program := "ytbemdjkjdadpbaadoor", sum := "1e208e3f4cacf0df2c0955445c729b46f8616e38709cb268ceca169652d68b68", func := "escrow/escrowlaw09.SeedEdges", spec := "seedEdges", inPlace := ["internal/abi.NoEscape", "internal/bytealg.MakeNoZero"], named := ["math/bits.deBruijn64tab"], apart := false, laid := [("math/bits.deBruijn64tab", laid_math_bits_deBruijn64tab)] }
def SeedEdgesSaid : Prop := seedEdgesRow.holds Tryd.pinned (OpenSpec.ofChange seedEdgesSpec)

/-- ITS FALSE NEIGHBOUR: 'it returns false'. Refute it at one input. -/
def seedEdgesWrong : ChangeSpec := { name := "seedEdges", fn := fun _ => fun
  | [d1, d2, d3] => { results := [.lit (.bool false)], args := [d1, d2, d3] }
  | _ => none }
def SeedEdgesWrongFalsely : Prop := seedEdgesRow.holds Tryd.pinned (OpenSpec.ofChange seedEdgesWrong)

/- THE SECOND FORM. 'bulk': how many values and letters a reading holds, each counted each time it is reached (what is shared counts as often as it is met; a slice's spare places count too). A statement '..UptoSaid' is the law's where the arguments, and the package variables that the reading takes, are together of bulk at most 1048576: NARROWER than '..Said'. Prove '..Said' where nothing that the law and all that it calls make is longer than what came in: it says more and counts as full. Else prove '..UptoSaid'. A law counts once. -/
mutual
def uptoBulk {H : Type} : DataW H → Nat
  | .lit (.string bytes) => bytes.length + 1
  | .lit _ => 1
  | .nil => 1
  | .ptr d => uptoBulk d + 1
  | .slice elems spare => uptoBulkAll elems + uptoBulkAll spare + 1
  | .agg parts => uptoBulkAll parts + 1
  | .iface _ d => uptoBulk d + 1
  | .map entries => uptoBulkEntries entries + 1
  | .held _ => 1
def uptoBulkAll {H : Type} : List (DataW H) → Nat
  | [] => 0
  | d :: r => uptoBulk d + uptoBulkAll r
def uptoBulkEntries {H : Type} : List (Lit × DataW H) → Nat
  | [] => 0
  | x :: r => uptoBulkEntry x + uptoBulkEntries r
def uptoBulkEntry {H : Type} : Lit × DataW H → Nat
  | (.string bytes, d) => bytes.length + uptoBulk d + 1
  | (_, d) => uptoBulk d + 1
 end
def uptoSmall : (H : Type) → List (DataW H) → Bool := fun _ ds => decide (uptoBulkAll ds ≤ 1048576)
def OpenSpec.upto (s : _root_.Go.ChangeSpec) : _root_.Go.OpenSpec := { _root_.Go.OpenSpec.ofChange s with cond := some uptoSmall }

/-- 'escrowlaw09.SeedSecrets', WHERE WHAT IT READS IS OF BULK AT MOST 1048576: true; the input reads as it did. -/
def seedSecretsUptoRow : OpenClaim := { program := "ytbemdjkjdadpbaadoor", sum := "1e208e3f4cacf0df2c0955445c729b46f8616e38709cb268ceca169652d68b68", func := "escrow/escrowlaw09.SeedSecrets", spec := "seedSecrets", inPlace := ["internal/abi.NoEscape", "internal/bytealg.MakeNoZero"], named := ["math/bits.deBruijn64tab"], apart := false, laid := [("math/bits.deBruijn64tab", laid_math_bits_deBruijn64tab)], narrowed := true }
def SeedSecretsUptoSaid : Prop := seedSecretsUptoRow.holds Tryd.pinned (OpenSpec.upto seedSecretsSpec)

/-- 'escrowlaw09.SeedDerives', WHERE WHAT IT READS IS OF BULK AT MOST 1048576: true; the input reads as it did. -/
def seedDerivesUptoRow : OpenClaim := { program := "ytbemdjkjdadpbaadoor", sum := "1e208e3f4cacf0df2c0955445c729b46f8616e38709cb268ceca169652d68b68", func := "escrow/escrowlaw09.SeedDerives", spec := "seedDerives", inPlace := ["internal/abi.NoEscape", "internal/bytealg.MakeNoZero"], named := ["math/bits.deBruijn64tab"], apart := false, laid := [("math/bits.deBruijn64tab", laid_math_bits_deBruijn64tab)], narrowed := true }
def SeedDerivesUptoSaid : Prop := seedDerivesUptoRow.holds Tryd.pinned (OpenSpec.upto seedDerivesSpec)

/-- 'escrowlaw09.SeedTree', WHERE WHAT IT READS IS OF BULK AT MOST 1048576: true; the input reads as it did. -/
def seedTreeUptoRow : OpenClaim := { program := "ytbemdjkjdadpbaadoor", sum := "1e208e3f4cacf0df2c0955445c729b46f8616e38709cb268ceca169652d68b68", func := "escrow/escrowlaw09.SeedTree", spec := "seedTree", inPlace := ["internal/abi.NoEscape", "internal/bytealg.MakeNoZero"], named := ["math/bits.deBruijn64tab"], apart := false, laid := [("math/bits.deBruijn64tab", laid_math_bits_deBruijn64tab)], narrowed := true }
def SeedTreeUptoSaid : Prop := seedTreeUptoRow.holds Tryd.pinned (OpenSpec.upto seedTreeSpec)

/-- 'escrowlaw09.SeedSteps', WHERE WHAT IT READS IS OF BULK AT MOST 1048576: true; the input reads as it did. -/
def seedStepsUptoRow : OpenClaim := { program := "ytbemdjkjdadpbaadoor", sum := "1e208e3f4cacf0df2c0955445c729b46f8616e38709cb268ceca169652d68b68", func := "escrow/escrowlaw09.SeedSteps", spec := "seedSteps", inPlace := ["internal/abi.NoEscape", "internal/bytealg.MakeNoZero"], named := ["math/bits.deBruijn64tab"], apart := false, laid := [("math/bits.deBruijn64tab", laid_math_bits_deBruijn64tab)], narrowed := true }
def SeedStepsUptoSaid : Prop := seedStepsUptoRow.holds Tryd.pinned (OpenSpec.upto seedStepsSpec)

/-- 'escrowlaw09.SeedEdges', WHERE WHAT IT READS IS OF BULK AT MOST 1048576: true; the input reads as it did. -/
def seedEdgesUptoRow : OpenClaim := { program := "ytbemdjkjdadpbaadoor", sum := "1e208e3f4cacf0df2c0955445c729b46f8616e38709cb268ceca169652d68b68", func := "escrow/escrowlaw09.SeedEdges", spec := "seedEdges", inPlace := ["internal/abi.NoEscape", "internal/bytealg.MakeNoZero"], named := ["math/bits.deBruijn64tab"], apart := false, laid := [("math/bits.deBruijn64tab", laid_math_bits_deBruijn64tab)], narrowed := true }
def SeedEdgesUptoSaid : Prop := seedEdgesUptoRow.holds Tryd.pinned (OpenSpec.upto seedEdgesSpec)

end Rows
end Go.Proofs.YtbemdjkjdadpbaaDoor
