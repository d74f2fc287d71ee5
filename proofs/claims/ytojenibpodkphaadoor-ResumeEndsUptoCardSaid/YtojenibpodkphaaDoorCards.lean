/-
  DERIVED. GIVEN WITH THE SEED: THE CARDS: each row of YtojenibpodkphaaDoorRows.lean that lists a variable, with what it lists TIED to the program's text (the seventh form; the later family's looks); each row that meets fmt, with fmt's text TOLD by the authors' own Lean function (tested against real Go, not proved from fmt's source: count such statements apart). THE CARD IS WHAT COUNTS. Prove the row's statement (the work); the ties are given (YtojenibpodkphaaDoorTie.lean); close each card by the builder's one call (the guide's Derived/Test/ToyasCard.lean, 'card_holds'). Laid BY PROGRAM, IN A SANDBOX (cutbox-door.mjs). By AI agents, Wed Nov 11 2026. No macro, syntax, notation, axiom, sorry.
-/
import Derived.Test.YtojenibpodkphaaDoorRows
import GoSem.ClaimSeven
namespace Go.Proofs.YtojenibpodkphaaDoor
namespace Rows

/-- THE TIED CARD OF 'escrowlaw18.ResumeEnds'. -/
def resumeEndsCard : Claim7 := { stood := { row := resumeEndsRow, standIns := [], harness := (true, "1546da7783d95daa43346df51e462de61f1a0b86754d371e37840728f5d2e6d3"), looks := false }, kinds := [], alts := [], laidByText := true, laidKinds := [.data], laidTests := true, laidLooks := .later }
def ResumeEndsCardSaid : Prop := Claim7.holds Tryd.pinned (.plain (OpenSpec.ofChange resumeEndsSpec)) resumeEndsCard

/-- THE SECOND FORM's CARD OF 'escrowlaw18.ResumeEnds'. -/
def resumeEndsUptoCard : Claim7 := { stood := { row := resumeEndsUptoRow, standIns := [], harness := (true, "1546da7783d95daa43346df51e462de61f1a0b86754d371e37840728f5d2e6d3"), looks := false }, kinds := [], alts := [], laidByText := true, laidKinds := [.data], laidTests := true, laidLooks := .later }
def ResumeEndsUptoCardSaid : Prop := Claim7.holds Tryd.pinned (.plain (OpenSpec.upto resumeEndsSpec)) resumeEndsUptoCard
end Rows
end Go.Proofs.YtojenibpodkphaaDoor
