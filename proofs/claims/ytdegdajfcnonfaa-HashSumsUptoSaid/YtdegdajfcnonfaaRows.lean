/-
  No cell of these rows narrows 'for every input' (looked for: loops, veiled, ifaces, maps, wideKeys, modest, calm, conditions, laid).
  DERIVED. THE GIVEN ROWS OF THIS SEAT. 6 by the template 'for every input the law returns true; each argument reads behind the call as it read before'; 0 by the template 'total and deterministic' (their statements: YtdegdajfcnonfaaTotals.lean).
  GIVEN WITH THE SEED: the statements are not yours to turn. If you find one false, say at which input.
  Laid BY PROGRAM, IN A SANDBOX (cutbox-rows.mjs): the forced cells as the released guide's own fill.sh prints them over the translation d8e2cc1590b0a358… (all of the seat's roots in one cut). By AI agents, Wed Nov 11 2026. No macro, syntax, notation, axiom, sorry.
-/
import Derived.Test.YtdegdajfcnonfaaChecked
import GoSem.Claim
import GoSem.ClaimJoined
import GoSem.ClaimMapViews
import Derived.JoinedTies
import Derived.KernelRfl
namespace Go.Proofs.Ytdegdajfcnonfaa
/- THE CELL 'sum', in the pinned program and in every row, IS THE sha256 OF THE DUMP (.gsa) THAT YtdegdajfcnonfaaProg.lean LOADS. Nothing in Lean hashes anything: it is a label: what it is worth is what the hold of that sum in a sandbox is worth. -/
noncomputable def Try.pinned : Pinned := { name := "ytdegdajfcnonfaa", sum := "d8e2cc1590b0a358a83c62c1c5f2e952ca32a9a8bd2ad4c1c1cbacdcdb09e776", checked := Try.checked }
namespace Rows
def none {H : Type} : Left H := { results := [], args := [] }

/-- 'escrowlaw02.HashSums': WHATEVER THE INPUT: true; the input reads as it did. -/
def hashSumsSpec : ChangeSpec := { name := "hashSums", fn := fun _ => fun
  | [d] => { results := [.lit (.bool true)], args := [d] }
  | _ => none }
def hashSumsRow : OpenClaim := { program := "ytdegdajfcnonfaa", sum := "d8e2cc1590b0a358a83c62c1c5f2e952ca32a9a8bd2ad4c1c1cbacdcdb09e776", func := "escrow/escrowlaw02.HashSums", spec := "hashSums", inPlace := ["internal/bytealg.IndexByteString", "internal/abi.NoEscape", "internal/bytealg.MakeNoZero"], apart := false }
def HashSumsSaid : Prop := hashSumsRow.holds Try.pinned (OpenSpec.ofChange hashSumsSpec)

/-- ITS FALSE NEIGHBOUR: 'it returns false'. Refute it at one input. -/
def hashSumsWrong : ChangeSpec := { name := "hashSums", fn := fun _ => fun
  | [d] => { results := [.lit (.bool false)], args := [d] }
  | _ => none }
def HashSumsWrongFalsely : Prop := hashSumsRow.holds Try.pinned (OpenSpec.ofChange hashSumsWrong)

/-- 'escrowlaw02.HashMacs': WHATEVER THE INPUT: true; the input reads as it did. -/
def hashMacsSpec : ChangeSpec := { name := "hashMacs", fn := fun _ => fun
  | [d1, d2] => { results := [.lit (.bool true)], args := [d1, d2] }
  | _ => none }
def hashMacsRow : OpenClaim := { program := "ytdegdajfcnonfaa", sum := "d8e2cc1590b0a358a83c62c1c5f2e952ca32a9a8bd2ad4c1c1cbacdcdb09e776", func := "escrow/escrowlaw02.HashMacs", spec := "hashMacs", inPlace := ["internal/abi.NoEscape", "internal/bytealg.MakeNoZero", "internal/bytealg.IndexByteString"], apart := false }
def HashMacsSaid : Prop := hashMacsRow.holds Try.pinned (OpenSpec.ofChange hashMacsSpec)

/-- ITS FALSE NEIGHBOUR: 'it returns false'. Refute it at one input. -/
def hashMacsWrong : ChangeSpec := { name := "hashMacs", fn := fun _ => fun
  | [d1, d2] => { results := [.lit (.bool false)], args := [d1, d2] }
  | _ => none }
def HashMacsWrongFalsely : Prop := hashMacsRow.holds Try.pinned (OpenSpec.ofChange hashMacsWrong)

/-- 'escrowlaw02.HashHexes': WHATEVER THE INPUT: true; the input reads as it did. -/
def hashHexesSpec : ChangeSpec := { name := "hashHexes", fn := fun _ => fun
  | [d1, d2] => { results := [.lit (.bool true)], args := [d1, d2] }
  | _ => none }
def hashHexesRow : OpenClaim := { program := "ytdegdajfcnonfaa", sum := "d8e2cc1590b0a358a83c62c1c5f2e952ca32a9a8bd2ad4c1c1cbacdcdb09e776", func := "escrow/escrowlaw02.HashHexes", spec := "hashHexes", inPlace := ["internal/abi.NoEscape", "internal/bytealg.IndexByteString", "internal/bytealg.MakeNoZero"], apart := false }
def HashHexesSaid : Prop := hashHexesRow.holds Try.pinned (OpenSpec.ofChange hashHexesSpec)

/-- ITS FALSE NEIGHBOUR: 'it returns false'. Refute it at one input. -/
def hashHexesWrong : ChangeSpec := { name := "hashHexes", fn := fun _ => fun
  | [d1, d2] => { results := [.lit (.bool false)], args := [d1, d2] }
  | _ => none }
def HashHexesWrongFalsely : Prop := hashHexesRow.holds Try.pinned (OpenSpec.ofChange hashHexesWrong)

/-- 'escrowlaw02.HashParts': WHATEVER THE INPUT: true; the input reads as it did. -/
def hashPartsSpec : ChangeSpec := { name := "hashParts", fn := fun _ => fun
  | [d1, d2] => { results := [.lit (.bool true)], args := [d1, d2] }
  | _ => none }
def hashPartsRow : OpenClaim := { program := "ytdegdajfcnonfaa", sum := "d8e2cc1590b0a358a83c62c1c5f2e952ca32a9a8bd2ad4c1c1cbacdcdb09e776", func := "escrow/escrowlaw02.HashParts", spec := "hashParts", inPlace := ["internal/bytealg.IndexByteString", "internal/abi.NoEscape", "internal/bytealg.MakeNoZero"], apart := false }
def HashPartsSaid : Prop := hashPartsRow.holds Try.pinned (OpenSpec.ofChange hashPartsSpec)

/-- ITS FALSE NEIGHBOUR: 'it returns false'. Refute it at one input. -/
def hashPartsWrong : ChangeSpec := { name := "hashParts", fn := fun _ => fun
  | [d1, d2] => { results := [.lit (.bool false)], args := [d1, d2] }
  | _ => none }
def HashPartsWrongFalsely : Prop := hashPartsRow.holds Try.pinned (OpenSpec.ofChange hashPartsWrong)

/-- 'escrowlaw02.HashMac': WHATEVER THE INPUT: true; the input reads as it did. -/
def hashMacSpec : ChangeSpec := { name := "hashMac", fn := fun _ => fun
  | [d1, d2, d3] => { results := [.lit (.bool true)], args := [d1, d2, d3] }
  | _ => none }
def hashMacRow : OpenClaim := { program := "ytdegdajfcnonfaa", sum := "d8e2cc1590b0a358a83c62c1c5f2e952ca32a9a8bd2ad4c1c1cbacdcdb09e776", func := "escrow/escrowlaw02.HashMac", spec := "hashMac", inPlace := ["internal/bytealg.IndexByteString", "internal/abi.NoEscape", "internal/bytealg.MakeNoZero"], apart := false }
def HashMacSaid : Prop := hashMacRow.holds Try.pinned (OpenSpec.ofChange hashMacSpec)

/-- ITS FALSE NEIGHBOUR: 'it returns false'. Refute it at one input. -/
def hashMacWrong : ChangeSpec := { name := "hashMac", fn := fun _ => fun
  | [d1, d2, d3] => { results := [.lit (.bool false)], args := [d1, d2, d3] }
  | _ => none }
def HashMacWrongFalsely : Prop := hashMacRow.holds Try.pinned (OpenSpec.ofChange hashMacWrong)

/-- 'escrowlaw02.HashDigits': WHATEVER THE INPUT: true; the input reads as it did. -/
def hashDigitsSpec : ChangeSpec := { name := "hashDigits", fn := fun _ => fun
  | [d1, d2] => { results := [.lit (.bool true)], args := [d1, d2] }
  | _ => none }
def hashDigitsRow : OpenClaim := { program := "ytdegdajfcnonfaa", sum := "d8e2cc1590b0a358a83c62c1c5f2e952ca32a9a8bd2ad4c1c1cbacdcdb09e776", func := "escrow/escrowlaw02.HashDigits", spec := "hashDigits", inPlace := ["internal/bytealg.IndexByteString", "internal/abi.NoEscape", "internal/bytealg.MakeNoZero"], apart := false }
def HashDigitsSaid : Prop := hashDigitsRow.holds Try.pinned (OpenSpec.ofChange hashDigitsSpec)

/-- ITS FALSE NEIGHBOUR: 'it returns false'. Refute it at one input. -/
def hashDigitsWrong : ChangeSpec := { name := "hashDigits", fn := fun _ => fun
  | [d1, d2] => { results := [.lit (.bool false)], args := [d1, d2] }
  | _ => none }
def HashDigitsWrongFalsely : Prop := hashDigitsRow.holds Try.pinned (OpenSpec.ofChange hashDigitsWrong)

/- THE SECOND FORM. 'bulk': how many values and letters a reading holds, each counted each time it is reached (what is shared counts as often as it is met; a slice's spare places count too). A statement '..UptoSaid' is the law's where the arguments, and the package variables that the reading takes, are together of bulk at most 1048576: NARROWER than '..Said'. Prove '..Said' where nothing that the law and all that it calls make is longer than what came in: it says more and counts as full. Else prove '..UptoSaid'. A law counts once. -/
mutual
def uptoBulk {H : Type} : DataW H → Nat
  | .lit (.string bytes) => bytes.length + 1
  | .lit _ => 1
  | .nil => 1
  | .ptr d => uptoBulk d + 1
  | .slice elems spare => uptoBulkAll elems + uptoBulkAll spare + 1
  | .agg parts => uptoBulkAll parts + 1
  | .iface _ d => uptoBulk d + 1
  | .map entries => uptoBulkEntries entries + 1
  | .held _ => 1
def uptoBulkAll {H : Type} : List (DataW H) → Nat
  | [] => 0
  | d :: r => uptoBulk d + uptoBulkAll r
def uptoBulkEntries {H : Type} : List (Lit × DataW H) → Nat
  | [] => 0
  | x :: r => uptoBulkEntry x + uptoBulkEntries r
def uptoBulkEntry {H : Type} : Lit × DataW H → Nat
  | (.string bytes, d) => bytes.length + uptoBulk d + 1
  | (_, d) => uptoBulk d + 1
 end
def uptoSmall : (H : Type) → List (DataW H) → Bool := fun _ ds => decide (uptoBulkAll ds ≤ 1048576)
def OpenSpec.upto (s : _root_.Go.ChangeSpec) : _root_.Go.OpenSpec := { _root_.Go.OpenSpec.ofChange s with cond := some uptoSmall }

/-- 'escrowlaw02.HashSums', WHERE WHAT IT READS IS OF BULK AT MOST 1048576: true; the input reads as it did. -/
def hashSumsUptoRow : OpenClaim := { program := "ytdegdajfcnonfaa", sum := "d8e2cc1590b0a358a83c62c1c5f2e952ca32a9a8bd2ad4c1c1cbacdcdb09e776", func := "escrow/escrowlaw02.HashSums", spec := "hashSums", inPlace := ["internal/bytealg.IndexByteString", "internal/abi.NoEscape", "internal/bytealg.MakeNoZero"], apart := false, narrowed := true }
def HashSumsUptoSaid : Prop := hashSumsUptoRow.holds Try.pinned (OpenSpec.upto hashSumsSpec)

/-- 'escrowlaw02.HashMacs', WHERE WHAT IT READS IS OF BULK AT MOST 1048576: true; the input reads as it did. -/
def hashMacsUptoRow : OpenClaim := { program := "ytdegdajfcnonfaa", sum := "d8e2cc1590b0a358a83c62c1c5f2e952ca32a9a8bd2ad4c1c1cbacdcdb09e776", func := "escrow/escrowlaw02.HashMacs", spec := "hashMacs", inPlace := ["internal/abi.NoEscape", "internal/bytealg.MakeNoZero", "internal/bytealg.IndexByteString"], apart := false, narrowed := true }
def HashMacsUptoSaid : Prop := hashMacsUptoRow.holds Try.pinned (OpenSpec.upto hashMacsSpec)

/-- 'escrowlaw02.HashHexes', WHERE WHAT IT READS IS OF BULK AT MOST 1048576: true; the input reads as it did. -/
def hashHexesUptoRow : OpenClaim := { program := "ytdegdajfcnonfaa", sum := "d8e2cc1590b0a358a83c62c1c5f2e952ca32a9a8bd2ad4c1c1cbacdcdb09e776", func := "escrow/escrowlaw02.HashHexes", spec := "hashHexes", inPlace := ["internal/abi.NoEscape", "internal/bytealg.IndexByteString", "internal/bytealg.MakeNoZero"], apart := false, narrowed := true }
def HashHexesUptoSaid : Prop := hashHexesUptoRow.holds Try.pinned (OpenSpec.upto hashHexesSpec)

/-- 'escrowlaw02.HashParts', WHERE WHAT IT READS IS OF BULK AT MOST 1048576: true; the input reads as it did. -/
def hashPartsUptoRow : OpenClaim := { program := "ytdegdajfcnonfaa", sum := "d8e2cc1590b0a358a83c62c1c5f2e952ca32a9a8bd2ad4c1c1cbacdcdb09e776", func := "escrow/escrowlaw02.HashParts", spec := "hashParts", inPlace := ["internal/bytealg.IndexByteString", "internal/abi.NoEscape", "internal/bytealg.MakeNoZero"], apart := false, narrowed := true }
def HashPartsUptoSaid : Prop := hashPartsUptoRow.holds Try.pinned (OpenSpec.upto hashPartsSpec)

/-- 'escrowlaw02.HashMac', WHERE WHAT IT READS IS OF BULK AT MOST 1048576: true; the input reads as it did. -/
def hashMacUptoRow : OpenClaim := { program := "ytdegdajfcnonfaa", sum := "d8e2cc1590b0a358a83c62c1c5f2e952ca32a9a8bd2ad4c1c1cbacdcdb09e776", func := "escrow/escrowlaw02.HashMac", spec := "hashMac", inPlace := ["internal/bytealg.IndexByteString", "internal/abi.NoEscape", "internal/bytealg.MakeNoZero"], apart := false, narrowed := true }
def HashMacUptoSaid : Prop := hashMacUptoRow.holds Try.pinned (OpenSpec.upto hashMacSpec)

/-- 'escrowlaw02.HashDigits', WHERE WHAT IT READS IS OF BULK AT MOST 1048576: true; the input reads as it did. -/
def hashDigitsUptoRow : OpenClaim := { program := "ytdegdajfcnonfaa", sum := "d8e2cc1590b0a358a83c62c1c5f2e952ca32a9a8bd2ad4c1c1cbacdcdb09e776", func := "escrow/escrowlaw02.HashDigits", spec := "hashDigits", inPlace := ["internal/bytealg.IndexByteString", "internal/abi.NoEscape", "internal/bytealg.MakeNoZero"], apart := false, narrowed := true }
def HashDigitsUptoSaid : Prop := hashDigitsUptoRow.holds Try.pinned (OpenSpec.upto hashDigitsSpec)

end Rows
end Go.Proofs.Ytdegdajfcnonfaa
