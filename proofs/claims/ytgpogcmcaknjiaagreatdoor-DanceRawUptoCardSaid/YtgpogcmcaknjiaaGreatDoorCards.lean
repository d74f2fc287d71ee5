/-
  DERIVED. GIVEN WITH THE SEED: THE CARDS: each row of YtgpogcmcaknjiaaGreatDoorRows.lean that lists a variable, with what it lists TIED to the program's text (the seventh form; the later family's looks); each row that meets fmt, with fmt's text TOLD by the authors' own Lean function (tested against real Go, not proved from fmt's source: count such statements apart). THE CARD IS WHAT COUNTS. Prove the row's statement (the work); the ties are given (YtgpogcmcaknjiaaGreatDoorTie.lean); close each card by the builder's one call (the guide's Derived/Test/ToyasCard.lean, 'card_holds'). Laid BY PROGRAM, IN A SANDBOX (cutbox-door.mjs). By AI agents, Wed Nov 11 2026. No macro, syntax, notation, axiom, sorry.
-/
import Derived.Test.YtgpogcmcaknjiaaGreatDoorRows
import GoSem.ClaimSeven
namespace Go.Proofs.YtgpogcmcaknjiaaGreatDoor
namespace Rows

/-- THE TIED CARD OF 'escrowlaw15.DanceTwo'. -/
def danceTwoCard : Claim7 := { stood := { row := danceTwoRow, standIns := [], harness := (true, "f204aee5b4c564c265a03e4d8fd5f9c715c348e8999601dda257d278ca6b4053"), looks := false }, kinds := [], alts := [], laidByText := true, laidKinds := [.data], laidTests := true, laidLooks := .later }
def DanceTwoCardSaid : Prop := Claim7.holds Tryz.pinned (.plain (OpenSpec.ofChange danceTwoSpec)) danceTwoCard

/-- THE TIED CARD OF 'escrowlaw15.DanceSettles'. -/
def danceSettlesCard : Claim7 := { stood := { row := danceSettlesRow, standIns := [], harness := (true, "f204aee5b4c564c265a03e4d8fd5f9c715c348e8999601dda257d278ca6b4053"), looks := false }, kinds := [], alts := [], laidByText := true, laidKinds := [.data], laidTests := true, laidLooks := .later }
def DanceSettlesCardSaid : Prop := Claim7.holds Tryz.pinned (.plain (OpenSpec.ofChange danceSettlesSpec)) danceSettlesCard

/-- THE TIED CARD OF 'escrowlaw15.DancePlays'. -/
def dancePlaysCard : Claim7 := { stood := { row := dancePlaysRow, standIns := [], harness := (true, "f204aee5b4c564c265a03e4d8fd5f9c715c348e8999601dda257d278ca6b4053"), looks := false }, kinds := [], alts := [], laidByText := true, laidKinds := [.data], laidTests := true, laidLooks := .later }
def DancePlaysCardSaid : Prop := Claim7.holds Tryz.pinned (.plain (OpenSpec.ofChange dancePlaysSpec)) dancePlaysCard

/-- THE TIED CARD OF 'escrowlaw15.DanceRaw'. -/
def danceRawCard : Claim7 := { stood := { row := danceRawRow, standIns := [], harness := (true, "f204aee5b4c564c265a03e4d8fd5f9c715c348e8999601dda257d278ca6b4053"), looks := false }, kinds := [], alts := [], laidByText := true, laidKinds := [.data], laidTests := true, laidLooks := .later }
def DanceRawCardSaid : Prop := Claim7.holds Tryz.pinned (.plain (OpenSpec.ofChange danceRawSpec)) danceRawCard

/-- THE TIED CARD OF 'escrowlaw15.DanceApart'. -/
def danceApartCard : Claim7 := { stood := { row := danceApartRow, standIns := [], harness := (true, "f204aee5b4c564c265a03e4d8fd5f9c715c348e8999601dda257d278ca6b4053"), looks := false }, kinds := [], alts := [], laidByText := true, laidKinds := [.data], laidTests := true, laidLooks := .later }
def DanceApartCardSaid : Prop := Claim7.holds Tryz.pinned (.plain (OpenSpec.ofChange danceApartSpec)) danceApartCard

/-- THE SECOND FORM's CARD OF 'escrowlaw15.DanceTwo'. -/
def danceTwoUptoCard : Claim7 := { stood := { row := danceTwoUptoRow, standIns := [], harness := (true, "f204aee5b4c564c265a03e4d8fd5f9c715c348e8999601dda257d278ca6b4053"), looks := false }, kinds := [], alts := [], laidByText := true, laidKinds := [.data], laidTests := true, laidLooks := .later }
def DanceTwoUptoCardSaid : Prop := Claim7.holds Tryz.pinned (.plain (OpenSpec.upto danceTwoSpec)) danceTwoUptoCard

/-- THE SECOND FORM's CARD OF 'escrowlaw15.DanceSettles'. -/
def danceSettlesUptoCard : Claim7 := { stood := { row := danceSettlesUptoRow, standIns := [], harness := (true, "f204aee5b4c564c265a03e4d8fd5f9c715c348e8999601dda257d278ca6b4053"), looks := false }, kinds := [], alts := [], laidByText := true, laidKinds := [.data], laidTests := true, laidLooks := .later }
def DanceSettlesUptoCardSaid : Prop := Claim7.holds Tryz.pinned (.plain (OpenSpec.upto danceSettlesSpec)) danceSettlesUptoCard

/-- THE SECOND FORM's CARD OF 'escrowlaw15.DancePlays'. -/
def dancePlaysUptoCard : Claim7 := { stood := { row := dancePlaysUptoRow, standIns := [], harness := (true, "f204aee5b4c564c265a03e4d8fd5f9c715c348e8999601dda257d278ca6b4053"), looks := false }, kinds := [], alts := [], laidByText := true, laidKinds := [.data], laidTests := true, laidLooks := .later }
def DancePlaysUptoCardSaid : Prop := Claim7.holds Tryz.pinned (.plain (OpenSpec.upto dancePlaysSpec)) dancePlaysUptoCard

/-- THE SECOND FORM's CARD OF 'escrowlaw15.DanceRaw'. -/
def danceRawUptoCard : Claim7 := { stood := { row := danceRawUptoRow, standIns := [], harness := (true, "f204aee5b4c564c265a03e4d8fd5f9c715c348e8999601dda257d278ca6b4053"), looks := false }, kinds := [], alts := [], laidByText := true, laidKinds := [.data], laidTests := true, laidLooks := .later }
def DanceRawUptoCardSaid : Prop := Claim7.holds Tryz.pinned (.plain (OpenSpec.upto danceRawSpec)) danceRawUptoCard

/-- THE SECOND FORM's CARD OF 'escrowlaw15.DanceApart'. -/
def danceApartUptoCard : Claim7 := { stood := { row := danceApartUptoRow, standIns := [], harness := (true, "f204aee5b4c564c265a03e4d8fd5f9c715c348e8999601dda257d278ca6b4053"), looks := false }, kinds := [], alts := [], laidByText := true, laidKinds := [.data], laidTests := true, laidLooks := .later }
def DanceApartUptoCardSaid : Prop := Claim7.holds Tryz.pinned (.plain (OpenSpec.upto danceApartSpec)) danceApartUptoCard
end Rows
end Go.Proofs.YtgpogcmcaknjiaaGreatDoor
