/-
  NARROWER THAN 'FOR EVERY INPUT', by the rows' own cells (each row's printed sentence says how): ResumeAnswers: laid · ResumeJoins: laid · ResumeLost: laid · DanceTwo: laid · DanceSettles: laid · DancePlays: laid · DanceApart: laid.
  DERIVED. THE GIVEN ROWS OF THIS SEAT. 7 by the template 'for every input the law returns true; each argument reads behind the call as it read before'; 0 by the template 'total and deterministic' (their statements: YtkojimdacnohpaaGreatDoorTotals.lean).
  GIVEN WITH THE SEED: the statements are not yours to turn. If you find one false, say at which input.
  Laid BY PROGRAM, IN A SANDBOX (cutbox-rows.mjs): the forced cells as the released guide's own fill.sh prints them over the translation 8906a4f12bd27782… (all of the seat's roots in one cut). By AI agents, Wed Nov 11 2026. No macro, syntax, notation, axiom, sorry.
-/
import Derived.Test.YtkojimdacnohpaaGreatDoorChecked
import GoSem.Claim
import GoSem.ClaimJoined
import GoSem.ClaimMapViews
import Derived.JoinedTies
import Derived.KernelRfl
namespace Go.Proofs.YtkojimdacnohpaaGreatDoor
/- THE CELL 'sum', in the pinned program and in every row, IS THE sha256 OF THE DUMP (.gsa) THAT YtkojimdacnohpaaGreatDoorProg.lean LOADS. Nothing in Lean hashes anything: it is a label: what it is worth is what the hold of that sum in a sandbox is worth. -/
noncomputable def Tryz.pinned : Pinned := { name := "ytkojimdacnohpaagreatdoor", sum := "8906a4f12bd2778209e3ed9a68a9b9bc84855011e0c80e8309c00f80dc5ab945", checked := Tryz.checked }
namespace Rows
def none {H : Type} : Left H := { results := [], args := [] }

/- WHAT THE LISTED PACKAGE-LEVEL VARIABLES READ AS WHEN THE CALL BEGINS. Each datum BY PROGRAM (the guide's laid-datum.mjs) off the statement by which the dump's own 'gosem.cut.vars' lays the variable. In a bare row this is a premise. The card (YtkojimdacnohpaaGreatDoorCards.lean) ties it to the program's text. -/
def laid_math_bits_deBruijn64tab {H : Type} : DataW H := .agg [.lit (.int .u8 0), .lit (.int .u8 1), .lit (.int .u8 56), .lit (.int .u8 2), .lit (.int .u8 57), .lit (.int .u8 49), .lit (.int .u8 28), .lit (.int .u8 3), .lit (.int .u8 61), .lit (.int .u8 58), .lit (.int .u8 42), .lit (.int .u8 50), .lit (.int .u8 38), .lit (.int .u8 29), .lit (.int .u8 17), .lit (.int .u8 4), .lit (.int .u8 62), .lit (.int .u8 47), .lit (.int .u8 59), .lit (.int .u8 36), .lit (.int .u8 45), .lit (.int .u8 43), .lit (.int .u8 51), .lit (.int .u8 22), .lit (.int .u8 53), .lit (.int .u8 39), .lit (.int .u8 33), .lit (.int .u8 30), .lit (.int .u8 24), .lit (.int .u8 18), .lit (.int .u8 12), .lit (.int .u8 5), .lit (.int .u8 63), .lit (.int .u8 55), .lit (.int .u8 48), .lit (.int .u8 27), .lit (.int .u8 60), .lit (.int .u8 41), .lit (.int .u8 37), .lit (.int .u8 16), .lit (.int .u8 46), .lit (.int .u8 35), .lit (.int .u8 44), .lit (.int .u8 21), .lit (.int .u8 52), .lit (.int .u8 32), .lit (.int .u8 23), .lit (.int .u8 11), .lit (.int .u8 54), .lit (.int .u8 26), .lit (.int .u8 40), .lit (.int .u8 15), .lit (.int .u8 34), .lit (.int .u8 20), .lit (.int .u8 31), .lit (.int .u8 10), .lit (.int .u8 25), .lit (.int .u8 14), .lit (.int .u8 19), .lit (.int .u8 9), .lit (.int .u8 13), .lit (.int .u8 8), .lit (.int .u8 7), .lit (.int .u8 6)]

/-- 'escrowlaw18.ResumeAnswers': WHATEVER THE INPUT: true; the input reads as it did. -/
def resumeAnswersSpec : ChangeSpec := { name := "resumeAnswers", fn := fun _ => fun
  | [d1, d2, d3] => { results := [.lit (.bool true)], args := [d1, d2, d3] }
  | _ => none }
def resumeAnswersRow : OpenClaim := { program := "ytkojimdacnohpaagreatdoor", sum := "8906a4f12bd2778209e3ed9a68a9b9bc84855011e0c80e8309c00f80dc5ab945", func := "escrow/escrowlaw18.ResumeAnswers", spec := "resumeAnswers", inPlace := ["internal/abi.NoEscape", "internal/bytealg.MakeNoZero"], unfollowed := true, recurses := true, named := ["math/bits.deBruijn64tab"], apart := false, laid := [("math/bits.deBruijn64tab", laid_math_bits_deBruijn64tab)] }
def ResumeAnswersSaid : Prop := resumeAnswersRow.holds Tryz.pinned (OpenSpec.ofChange resumeAnswersSpec)

/-- ITS FALSE NEIGHBOUR: 'it returns false'. Refute it at one input. -/
def resumeAnswersWrong : ChangeSpec := { name := "resumeAnswers", fn := fun _ => fun
  | [d1, d2, d3] => { results := [.lit (.bool false)], args := [d1, d2, d3] }
  | _ => none }
def ResumeAnswersWrongFalsely : Prop := resumeAnswersRow.holds Tryz.pinned (OpenSpec.ofChange resumeAnswersWrong)

/-- 'escrowlaw18.ResumeJoins': WHATEVER THE INPUT: true; the input reads as it did. -/
def resumeJoinsSpec : ChangeSpec := { name := "resumeJoins", fn := fun _ => fun
  | [d1, d2, d3] => { results := [.lit (.bool true)], args := [d1, d2, d3] }
  | _ => none }
def resumeJoinsRow : OpenClaim := { program := "ytkojimdacnohpaagreatdoor", sum := "8906a4f12bd2778209e3ed9a68a9b9bc84855011e0c80e8309c00f80dc5ab945", func := "escrow/escrowlaw18.ResumeJoins", spec := "resumeJoins", inPlace := ["internal/abi.NoEscape", "internal/bytealg.MakeNoZero"], unfollowed := true, recurses := true, named := ["math/bits.deBruijn64tab"], apart := false, laid := [("math/bits.deBruijn64tab", laid_math_bits_deBruijn64tab)] }
def ResumeJoinsSaid : Prop := resumeJoinsRow.holds Tryz.pinned (OpenSpec.ofChange resumeJoinsSpec)

/-- ITS FALSE NEIGHBOUR: 'it returns false'. Refute it at one input. -/
def resumeJoinsWrong : ChangeSpec := { name := "resumeJoins", fn := fun _ => fun
  | [d1, d2, d3] => { results := [.lit (.bool false)], args := [d1, d2, d3] }
  | _ => none }
def ResumeJoinsWrongFalsely : Prop := resumeJoinsRow.holds Tryz.pinned (OpenSpec.ofChange resumeJoinsWrong)

/-- 'escrowlaw18.ResumeLost': WHATEVER THE INPUT: true; the input reads as it did. -/
def resumeLostSpec : ChangeSpec := { name := "resumeLost", fn := fun _ => fun
  | [d1, d2, d3, d4, d5] => { results := [.lit (.bool true)], args := [d1, d2, d3, d4, d5] }
  | _ => none }
def resumeLostRow : OpenClaim := { program := "ytkojimdacnohpaagreatdoor", sum := "8906a4f12bd2778209e3ed9a68a9b9bc84855011e0c80e8309c00f80dc5ab945", func := "escrow/escrowlaw18.ResumeLost", spec := "resumeLost", inPlace := ["internal/abi.NoEscape", "internal/bytealg.MakeNoZero"], unfollowed := true, recurses := true, named := ["math/bits.deBruijn64tab"], apart := false, laid := [("math/bits.deBruijn64tab", laid_math_bits_deBruijn64tab)] }
def ResumeLostSaid : Prop := resumeLostRow.holds Tryz.pinned (OpenSpec.ofChange resumeLostSpec)

/-- ITS FALSE NEIGHBOUR: 'it returns false'. Refute it at one input. -/
def resumeLostWrong : ChangeSpec := { name := "resumeLost", fn := fun _ => fun
  | [d1, d2, d3, d4, d5] => { results := [.lit (.bool false)], args := [d1, d2, d3, d4, d5] }
  | _ => none }
def ResumeLostWrongFalsely : Prop := resumeLostRow.holds Tryz.pinned (OpenSpec.ofChange resumeLostWrong)

/-- 'escrowlaw15.DanceTwo': WHATEVER THE INPUT: true; the input reads as it did. -/
def danceTwoSpec : ChangeSpec := { name := "danceTwo", fn := fun _ => fun
  | [d1, d2] => { results := [.lit (.bool true)], args := [d1, d2] }
  | _ => none }
def danceTwoRow : OpenClaim := { program := "ytkojimdacnohpaagreatdoor", sum := "8906a4f12bd2778209e3ed9a68a9b9bc84855011e0c80e8309c00f80dc5ab945", func := "escrow/escrowlaw15.DanceTwo", spec := "danceTwo", inPlace := ["internal/abi.NoEscape", "internal/bytealg.MakeNoZero"], unfollowed := true, recurses := true, named := ["math/bits.deBruijn64tab"], apart := false, laid := [("math/bits.deBruijn64tab", laid_math_bits_deBruijn64tab)] }
def DanceTwoSaid : Prop := danceTwoRow.holds Tryz.pinned (OpenSpec.ofChange danceTwoSpec)

/-- ITS FALSE NEIGHBOUR: 'it returns false'. Refute it at one input. -/
def danceTwoWrong : ChangeSpec := { name := "danceTwo", fn := fun _ => fun
  | [d1, d2] => { results := [.lit (.bool false)], args := [d1, d2] }
  | _ => none }
def DanceTwoWrongFalsely : Prop := danceTwoRow.holds Tryz.pinned (OpenSpec.ofChange danceTwoWrong)

/-- 'escrowlaw15.DanceSettles': WHATEVER THE INPUT: true; the input reads as it did. -/
def danceSettlesSpec : ChangeSpec := { name := "danceSettles", fn := fun _ => fun
  | [d1, d2, d3, d4, d5] => { results := [.lit (.bool true)], args := [d1, d2, d3, d4, d5] }
  | _ => none }
def danceSettlesRow : OpenClaim := { program := "ytkojimdacnohpaagreatdoor", sum := "8906a4f12bd2778209e3ed9a68a9b9bc84855011e0c80e8309c00f80dc5ab945", func := "escrow/escrowlaw15.DanceSettles", spec := "danceSettles", inPlace := ["internal/abi.NoEscape", "internal/bytealg.MakeNoZero"], unfollowed := true, recurses := true, named := ["math/bits.deBruijn64tab"], apart := false, laid := [("math/bits.deBruijn64tab", laid_math_bits_deBruijn64tab)] }
def DanceSettlesSaid : Prop := danceSettlesRow.holds Tryz.pinned (OpenSpec.ofChange danceSettlesSpec)

/-- ITS FALSE NEIGHBOUR: 'it returns false'. Refute it at one input. -/
def danceSettlesWrong : ChangeSpec := { name := "danceSettles", fn := fun _ => fun
  | [d1, d2, d3, d4, d5] => { results := [.lit (.bool false)], args := [d1, d2, d3, d4, d5] }
  | _ => none }
def DanceSettlesWrongFalsely : Prop := danceSettlesRow.holds Tryz.pinned (OpenSpec.ofChange danceSettlesWrong)

/-- 'escrowlaw15.DancePlays': WHATEVER THE INPUT: true; the input reads as it did. -/
def dancePlaysSpec : ChangeSpec := { name := "dancePlays", fn := fun _ => fun
  | [d1, d2] => { results := [.lit (.bool true)], args := [d1, d2] }
  | _ => none }
def dancePlaysRow : OpenClaim := { program := "ytkojimdacnohpaagreatdoor", sum := "8906a4f12bd2778209e3ed9a68a9b9bc84855011e0c80e8309c00f80dc5ab945", func := "escrow/escrowlaw15.DancePlays", spec := "dancePlays", inPlace := ["internal/abi.NoEscape", "internal/bytealg.MakeNoZero"], unfollowed := true, recurses := true, named := ["math/bits.deBruijn64tab"], apart := false, laid := [("math/bits.deBruijn64tab", laid_math_bits_deBruijn64tab)] }
def DancePlaysSaid : Prop := dancePlaysRow.holds Tryz.pinned (OpenSpec.ofChange dancePlaysSpec)

/-- ITS FALSE NEIGHBOUR: 'it returns false'. Refute it at one input. -/
def dancePlaysWrong : ChangeSpec := { name := "dancePlays", fn := fun _ => fun
  | [d1, d2] => { results := [.lit (.bool false)], args := [d1, d2] }
  | _ => none }
def DancePlaysWrongFalsely : Prop := dancePlaysRow.holds Tryz.pinned (OpenSpec.ofChange dancePlaysWrong)

/-- 'escrowlaw15.DanceApart': WHATEVER THE INPUT: true; the input reads as it did. -/
def danceApartSpec : ChangeSpec := { name := "danceApart", fn := fun _ => fun
  | [d1, d2] => { results := [.lit (.bool true)], args := [d1, d2] }
  | _ => none }
def danceApartRow : OpenClaim := { program := "ytkojimdacnohpaagreatdoor", sum := "8906a4f12bd2778209e3ed9a68a9b9bc84855011e0c80e8309c00f80dc5ab945", func := "escrow/escrowlaw15.DanceApart", spec := "danceApart", inPlace := ["internal/abi.NoEscape", "internal/bytealg.MakeNoZero"], unfollowed := true, recurses := true, named := ["math/bits.deBruijn64tab"], apart := false, laid := [("math/bits.deBruijn64tab", laid_math_bits_deBruijn64tab)] }
def DanceApartSaid : Prop := danceApartRow.holds Tryz.pinned (OpenSpec.ofChange danceApartSpec)

/-- ITS FALSE NEIGHBOUR: 'it returns false'. Refute it at one input. -/
def danceApartWrong : ChangeSpec := { name := "danceApart", fn := fun _ => fun
  | [d1, d2] => { results := [.lit (.bool false)], args := [d1, d2] }
  | _ => none }
def DanceApartWrongFalsely : Prop := danceApartRow.holds Tryz.pinned (OpenSpec.ofChange danceApartWrong)

/- THE SECOND FORM. 'bulk': how many values and letters a reading holds, each counted each time it is reached (what is shared counts as often as it is met; a slice's spare places count too). A statement '..UptoSaid' is the law's where the arguments, and the package variables that the reading takes, are together of bulk at most 1048576: NARROWER than '..Said'. Prove '..Said' where nothing that the law and all that it calls make is longer than what came in: it says more and counts as full. Else prove '..UptoSaid'. A law counts once. -/
mutual
def uptoBulk {H : Type} : DataW H → Nat
  | .lit (.string bytes) => bytes.length + 1
  | .lit _ => 1
  | .nil => 1
  | .ptr d => uptoBulk d + 1
  | .slice elems spare => uptoBulkAll elems + uptoBulkAll spare + 1
  | .agg parts => uptoBulkAll parts + 1
  | .iface _ d => uptoBulk d + 1
  | .map entries => uptoBulkEntries entries + 1
  | .held _ => 1
def uptoBulkAll {H : Type} : List (DataW H) → Nat
  | [] => 0
  | d :: r => uptoBulk d + uptoBulkAll r
def uptoBulkEntries {H : Type} : List (Lit × DataW H) → Nat
  | [] => 0
  | x :: r => uptoBulkEntry x + uptoBulkEntries r
def uptoBulkEntry {H : Type} : Lit × DataW H → Nat
  | (.string bytes, d) => bytes.length + uptoBulk d + 1
  | (_, d) => uptoBulk d + 1
 end
def uptoSmall : (H : Type) → List (DataW H) → Bool := fun _ ds => decide (uptoBulkAll ds ≤ 1048576)
def OpenSpec.upto (s : _root_.Go.ChangeSpec) : _root_.Go.OpenSpec := { _root_.Go.OpenSpec.ofChange s with cond := some uptoSmall }

/-- 'escrowlaw18.ResumeAnswers', WHERE WHAT IT READS IS OF BULK AT MOST 1048576: true; the input reads as it did. -/
def resumeAnswersUptoRow : OpenClaim := { program := "ytkojimdacnohpaagreatdoor", sum := "8906a4f12bd2778209e3ed9a68a9b9bc84855011e0c80e8309c00f80dc5ab945", func := "escrow/escrowlaw18.ResumeAnswers", spec := "resumeAnswers", inPlace := ["internal/abi.NoEscape", "internal/bytealg.MakeNoZero"], unfollowed := true, recurses := true, named := ["math/bits.deBruijn64tab"], apart := false, laid := [("math/bits.deBruijn64tab", laid_math_bits_deBruijn64tab)], narrowed := true }
def ResumeAnswersUptoSaid : Prop := resumeAnswersUptoRow.holds Tryz.pinned (OpenSpec.upto resumeAnswersSpec)

/-- 'escrowlaw18.ResumeJoins', WHERE WHAT IT READS IS OF BULK AT MOST 1048576: true; the input reads as it did. -/
def resumeJoinsUptoRow : OpenClaim := { program := "ytkojimdacnohpaagreatdoor", sum := "8906a4f12bd2778209e3ed9a68a9b9bc84855011e0c80e8309c00f80dc5ab945", func := "escrow/escrowlaw18.ResumeJoins", spec := "resumeJoins", inPlace := ["internal/abi.NoEscape", "internal/bytealg.MakeNoZero"], unfollowed := true, recurses := true, named := ["math/bits.deBruijn64tab"], apart := false, laid := [("math/bits.deBruijn64tab", laid_math_bits_deBruijn64tab)], narrowed := true }
def ResumeJoinsUptoSaid : Prop := resumeJoinsUptoRow.holds Tryz.pinned (OpenSpec.upto resumeJoinsSpec)

/-- 'escrowlaw18.ResumeLost', WHERE WHAT IT READS IS OF BULK AT MOST 1048576: true; the input reads as it did. -/
def resumeLostUptoRow : OpenClaim := { program := "ytkojimdacnohpaagreatdoor", sum := "8906a4f12bd2778209e3ed9a68a9b9bc84855011e0c80e8309c00f80dc5ab945", func := "escrow/escrowlaw18.ResumeLost", spec := "resumeLost", inPlace := ["internal/abi.NoEscape", "internal/bytealg.MakeNoZero"], unfollowed := true, recurses := true, named := ["math/bits.deBruijn64tab"], apart := false, laid := [("math/bits.deBruijn64tab", laid_math_bits_deBruijn64tab)], narrowed := true }
def ResumeLostUptoSaid : Prop := resumeLostUptoRow.holds Tryz.pinned (OpenSpec.upto resumeLostSpec)

/-- 'escrowlaw15.DanceTwo', WHERE WHAT IT READS IS OF BULK AT MOST 1048576: true; the input reads as it did. -/
def danceTwoUptoRow : OpenClaim := { program := "ytkojimdacnohpaagreatdoor", sum := "8906a4f12bd2778209e3ed9a68a9b9bc84855011e0c80e8309c00f80dc5ab945", func := "escrow/escrowlaw15.DanceTwo", spec := "danceTwo", inPlace := ["internal/abi.NoEscape", "internal/bytealg.MakeNoZero"], unfollowed := true, recurses := true, named := ["math/bits.deBruijn64tab"], apart := false, laid := [("math/bits.deBruijn64tab", laid_math_bits_deBruijn64tab)], narrowed := true }
def DanceTwoUptoSaid : Prop := danceTwoUptoRow.holds Tryz.pinned (OpenSpec.upto danceTwoSpec)

/-- 'escrowlaw15.DanceSettles', WHERE WHAT IT READS IS OF BULK AT MOST 1048576: true; the input reads as it did. -/
def danceSettlesUptoRow : OpenClaim := { program := "ytkojimdacnohpaagreatdoor", sum := "8906a4f12bd2778209e3ed9a68a9b9bc84855011e0c80e8309c00f80dc5ab945", func := "escrow/escrowlaw15.DanceSettles", spec := "danceSettles", inPlace := ["internal/abi.NoEscape", "internal/bytealg.MakeNoZero"], unfollowed := true, recurses := true, named := ["math/bits.deBruijn64tab"], apart := false, laid := [("math/bits.deBruijn64tab", laid_math_bits_deBruijn64tab)], narrowed := true }
def DanceSettlesUptoSaid : Prop := danceSettlesUptoRow.holds Tryz.pinned (OpenSpec.upto danceSettlesSpec)

/-- 'escrowlaw15.DancePlays', WHERE WHAT IT READS IS OF BULK AT MOST 1048576: true; the input reads as it did. -/
def dancePlaysUptoRow : OpenClaim := { program := "ytkojimdacnohpaagreatdoor", sum := "8906a4f12bd2778209e3ed9a68a9b9bc84855011e0c80e8309c00f80dc5ab945", func := "escrow/escrowlaw15.DancePlays", spec := "dancePlays", inPlace := ["internal/abi.NoEscape", "internal/bytealg.MakeNoZero"], unfollowed := true, recurses := true, named := ["math/bits.deBruijn64tab"], apart := false, laid := [("math/bits.deBruijn64tab", laid_math_bits_deBruijn64tab)], narrowed := true }
def DancePlaysUptoSaid : Prop := dancePlaysUptoRow.holds Tryz.pinned (OpenSpec.upto dancePlaysSpec)

/-- 'escrowlaw15.DanceApart', WHERE WHAT IT READS IS OF BULK AT MOST 1048576: true; the input reads as it did. -/
def danceApartUptoRow : OpenClaim := { program := "ytkojimdacnohpaagreatdoor", sum := "8906a4f12bd2778209e3ed9a68a9b9bc84855011e0c80e8309c00f80dc5ab945", func := "escrow/escrowlaw15.DanceApart", spec := "danceApart", inPlace := ["internal/abi.NoEscape", "internal/bytealg.MakeNoZero"], unfollowed := true, recurses := true, named := ["math/bits.deBruijn64tab"], apart := false, laid := [("math/bits.deBruijn64tab", laid_math_bits_deBruijn64tab)], narrowed := true }
def DanceApartUptoSaid : Prop := danceApartUptoRow.holds Tryz.pinned (OpenSpec.upto danceApartSpec)

end Rows
end Go.Proofs.YtkojimdacnohpaaGreatDoor
