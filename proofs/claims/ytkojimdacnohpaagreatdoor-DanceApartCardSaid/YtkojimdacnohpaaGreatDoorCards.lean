/-
  DERIVED. GIVEN WITH THE SEED: THE CARDS: each row of YtkojimdacnohpaaGreatDoorRows.lean that lists a variable, with what it lists TIED to the program's text (the seventh form; the later family's looks); each row that meets fmt, with fmt's text TOLD by the authors' own Lean function (tested against real Go, not proved from fmt's source: count such statements apart). THE CARD IS WHAT COUNTS. Prove the row's statement (the work); the ties are given (YtkojimdacnohpaaGreatDoorTie.lean); close each card by the builder's one call (the guide's Derived/Test/ToyasCard.lean, 'card_holds'). Laid BY PROGRAM, IN A SANDBOX (cutbox-door.mjs). By AI agents, Wed Nov 11 2026. No macro, syntax, notation, axiom, sorry.
-/
import Derived.Test.YtkojimdacnohpaaGreatDoorRows
import GoSem.ClaimSeven
namespace Go.Proofs.YtkojimdacnohpaaGreatDoor
namespace Rows

/-- THE TIED CARD OF 'escrowlaw18.ResumeAnswers'. -/
def resumeAnswersCard : Claim7 := { stood := { row := resumeAnswersRow, standIns := [], harness := (true, "35e75812772031919e6c66031fd79ca5390eb81c7b3d72923df80e90aa44b87f"), looks := false }, kinds := [], alts := [], laidByText := true, laidKinds := [.data], laidTests := true, laidLooks := .later }
def ResumeAnswersCardSaid : Prop := Claim7.holds Tryz.pinned (.plain (OpenSpec.ofChange resumeAnswersSpec)) resumeAnswersCard

/-- THE TIED CARD OF 'escrowlaw18.ResumeJoins'. -/
def resumeJoinsCard : Claim7 := { stood := { row := resumeJoinsRow, standIns := [], harness := (true, "35e75812772031919e6c66031fd79ca5390eb81c7b3d72923df80e90aa44b87f"), looks := false }, kinds := [], alts := [], laidByText := true, laidKinds := [.data], laidTests := true, laidLooks := .later }
def ResumeJoinsCardSaid : Prop := Claim7.holds Tryz.pinned (.plain (OpenSpec.ofChange resumeJoinsSpec)) resumeJoinsCard

/-- THE TIED CARD OF 'escrowlaw18.ResumeLost'. -/
def resumeLostCard : Claim7 := { stood := { row := resumeLostRow, standIns := [], harness := (true, "35e75812772031919e6c66031fd79ca5390eb81c7b3d72923df80e90aa44b87f"), looks := false }, kinds := [], alts := [], laidByText := true, laidKinds := [.data], laidTests := true, laidLooks := .later }
def ResumeLostCardSaid : Prop := Claim7.holds Tryz.pinned (.plain (OpenSpec.ofChange resumeLostSpec)) resumeLostCard

/-- THE TIED CARD OF 'escrowlaw15.DanceTwo'. -/
def danceTwoCard : Claim7 := { stood := { row := danceTwoRow, standIns := [], harness := (true, "35e75812772031919e6c66031fd79ca5390eb81c7b3d72923df80e90aa44b87f"), looks := false }, kinds := [], alts := [], laidByText := true, laidKinds := [.data], laidTests := true, laidLooks := .later }
def DanceTwoCardSaid : Prop := Claim7.holds Tryz.pinned (.plain (OpenSpec.ofChange danceTwoSpec)) danceTwoCard

/-- THE TIED CARD OF 'escrowlaw15.DanceSettles'. -/
def danceSettlesCard : Claim7 := { stood := { row := danceSettlesRow, standIns := [], harness := (true, "35e75812772031919e6c66031fd79ca5390eb81c7b3d72923df80e90aa44b87f"), looks := false }, kinds := [], alts := [], laidByText := true, laidKinds := [.data], laidTests := true, laidLooks := .later }
def DanceSettlesCardSaid : Prop := Claim7.holds Tryz.pinned (.plain (OpenSpec.ofChange danceSettlesSpec)) danceSettlesCard

/-- THE TIED CARD OF 'escrowlaw15.DancePlays'. -/
def dancePlaysCard : Claim7 := { stood := { row := dancePlaysRow, standIns := [], harness := (true, "35e75812772031919e6c66031fd79ca5390eb81c7b3d72923df80e90aa44b87f"), looks := false }, kinds := [], alts := [], laidByText := true, laidKinds := [.data], laidTests := true, laidLooks := .later }
def DancePlaysCardSaid : Prop := Claim7.holds Tryz.pinned (.plain (OpenSpec.ofChange dancePlaysSpec)) dancePlaysCard

/-- THE TIED CARD OF 'escrowlaw15.DanceApart'. -/
def danceApartCard : Claim7 := { stood := { row := danceApartRow, standIns := [], harness := (true, "35e75812772031919e6c66031fd79ca5390eb81c7b3d72923df80e90aa44b87f"), looks := false }, kinds := [], alts := [], laidByText := true, laidKinds := [.data], laidTests := true, laidLooks := .later }
def DanceApartCardSaid : Prop := Claim7.holds Tryz.pinned (.plain (OpenSpec.ofChange danceApartSpec)) danceApartCard

/-- THE SECOND FORM's CARD OF 'escrowlaw18.ResumeAnswers'. -/
def resumeAnswersUptoCard : Claim7 := { stood := { row := resumeAnswersUptoRow, standIns := [], harness := (true, "35e75812772031919e6c66031fd79ca5390eb81c7b3d72923df80e90aa44b87f"), looks := false }, kinds := [], alts := [], laidByText := true, laidKinds := [.data], laidTests := true, laidLooks := .later }
def ResumeAnswersUptoCardSaid : Prop := Claim7.holds Tryz.pinned (.plain (OpenSpec.upto resumeAnswersSpec)) resumeAnswersUptoCard

/-- THE SECOND FORM's CARD OF 'escrowlaw18.ResumeJoins'. -/
def resumeJoinsUptoCard : Claim7 := { stood := { row := resumeJoinsUptoRow, standIns := [], harness := (true, "35e75812772031919e6c66031fd79ca5390eb81c7b3d72923df80e90aa44b87f"), looks := false }, kinds := [], alts := [], laidByText := true, laidKinds := [.data], laidTests := true, laidLooks := .later }
def ResumeJoinsUptoCardSaid : Prop := Claim7.holds Tryz.pinned (.plain (OpenSpec.upto resumeJoinsSpec)) resumeJoinsUptoCard

/-- THE SECOND FORM's CARD OF 'escrowlaw18.ResumeLost'. -/
def resumeLostUptoCard : Claim7 := { stood := { row := resumeLostUptoRow, standIns := [], harness := (true, "35e75812772031919e6c66031fd79ca5390eb81c7b3d72923df80e90aa44b87f"), looks := false }, kinds := [], alts := [], laidByText := true, laidKinds := [.data], laidTests := true, laidLooks := .later }
def ResumeLostUptoCardSaid : Prop := Claim7.holds Tryz.pinned (.plain (OpenSpec.upto resumeLostSpec)) resumeLostUptoCard

/-- THE SECOND FORM's CARD OF 'escrowlaw15.DanceTwo'. -/
def danceTwoUptoCard : Claim7 := { stood := { row := danceTwoUptoRow, standIns := [], harness := (true, "35e75812772031919e6c66031fd79ca5390eb81c7b3d72923df80e90aa44b87f"), looks := false }, kinds := [], alts := [], laidByText := true, laidKinds := [.data], laidTests := true, laidLooks := .later }
def DanceTwoUptoCardSaid : Prop := Claim7.holds Tryz.pinned (.plain (OpenSpec.upto danceTwoSpec)) danceTwoUptoCard

/-- THE SECOND FORM's CARD OF 'escrowlaw15.DanceSettles'. -/
def danceSettlesUptoCard : Claim7 := { stood := { row := danceSettlesUptoRow, standIns := [], harness := (true, "35e75812772031919e6c66031fd79ca5390eb81c7b3d72923df80e90aa44b87f"), looks := false }, kinds := [], alts := [], laidByText := true, laidKinds := [.data], laidTests := true, laidLooks := .later }
def DanceSettlesUptoCardSaid : Prop := Claim7.holds Tryz.pinned (.plain (OpenSpec.upto danceSettlesSpec)) danceSettlesUptoCard

/-- THE SECOND FORM's CARD OF 'escrowlaw15.DancePlays'. -/
def dancePlaysUptoCard : Claim7 := { stood := { row := dancePlaysUptoRow, standIns := [], harness := (true, "35e75812772031919e6c66031fd79ca5390eb81c7b3d72923df80e90aa44b87f"), looks := false }, kinds := [], alts := [], laidByText := true, laidKinds := [.data], laidTests := true, laidLooks := .later }
def DancePlaysUptoCardSaid : Prop := Claim7.holds Tryz.pinned (.plain (OpenSpec.upto dancePlaysSpec)) dancePlaysUptoCard

/-- THE SECOND FORM's CARD OF 'escrowlaw15.DanceApart'. -/
def danceApartUptoCard : Claim7 := { stood := { row := danceApartUptoRow, standIns := [], harness := (true, "35e75812772031919e6c66031fd79ca5390eb81c7b3d72923df80e90aa44b87f"), looks := false }, kinds := [], alts := [], laidByText := true, laidKinds := [.data], laidTests := true, laidLooks := .later }
def DanceApartUptoCardSaid : Prop := Claim7.holds Tryz.pinned (.plain (OpenSpec.upto danceApartSpec)) danceApartUptoCard
end Rows
end Go.Proofs.YtkojimdacnohpaaGreatDoor
