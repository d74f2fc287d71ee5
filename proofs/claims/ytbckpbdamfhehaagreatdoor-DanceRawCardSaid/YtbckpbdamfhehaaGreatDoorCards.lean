/-
  DERIVED. GIVEN WITH THE SEED: THE CARDS: each row of YtbckpbdamfhehaaGreatDoorRows.lean that lists a variable, with what it lists TIED to the program's text (the seventh form; the later family's looks); each row that meets fmt, with fmt's text TOLD by the authors' own Lean function (tested against real Go, not proved from fmt's source: count such statements apart). THE CARD IS WHAT COUNTS. Prove the row's statement (the work); the ties are given (YtbckpbdamfhehaaGreatDoorTie.lean); close each card by the builder's one call (the guide's Derived/Test/ToyasCard.lean, 'card_holds'). Laid BY PROGRAM, IN A SANDBOX (cutbox-door.mjs). By AI agents, Wed Nov 11 2026. No macro, syntax, notation, axiom, sorry.
-/
import Derived.Test.YtbckpbdamfhehaaGreatDoorRows
import GoSem.ClaimSeven
namespace Go.Proofs.YtbckpbdamfhehaaGreatDoor
namespace Rows

/-- THE TIED CARD OF 'escrowlaw15.DanceRaw'. -/
def danceRawCard : Claim7 := { stood := { row := danceRawRow, standIns := [], harness := (true, "aad79b1f07d35cbaa9f91c4ef9125db94abcb0e0104a1aeb4121f777f7c11f30"), looks := false }, kinds := [], alts := [], laidByText := true, laidKinds := [.data], laidTests := true, laidLooks := .later }
def DanceRawCardSaid : Prop := Claim7.holds Tryz.pinned (.plain (OpenSpec.ofChange danceRawSpec)) danceRawCard

/-- THE SECOND FORM's CARD OF 'escrowlaw15.DanceRaw'. -/
def danceRawUptoCard : Claim7 := { stood := { row := danceRawUptoRow, standIns := [], harness := (true, "aad79b1f07d35cbaa9f91c4ef9125db94abcb0e0104a1aeb4121f777f7c11f30"), looks := false }, kinds := [], alts := [], laidByText := true, laidKinds := [.data], laidTests := true, laidLooks := .later }
def DanceRawUptoCardSaid : Prop := Claim7.holds Tryz.pinned (.plain (OpenSpec.upto danceRawSpec)) danceRawUptoCard
end Rows
end Go.Proofs.YtbckpbdamfhehaaGreatDoor
