/-
  DERIVED. GIVEN WITH THE SEED: THE CARDS: each row of YtcceblejaanfaaaDoorRows.lean that lists a variable, with what it lists TIED to the program's text (the seventh form; the later family's looks); each row that meets fmt, with fmt's text TOLD by the authors' own Lean function (tested against real Go, not proved from fmt's source: count such statements apart). THE CARD IS WHAT COUNTS. Prove the row's statement (the work); the ties are given (YtcceblejaanfaaaDoorTie.lean); close each card by the builder's one call (the guide's Derived/Test/ToyasCard.lean, 'card_holds'). Laid BY PROGRAM, IN A SANDBOX (cutbox-door.mjs). By AI agents, Wed Nov 11 2026. No macro, syntax, notation, axiom, sorry.
-/
import Derived.Test.YtcceblejaanfaaaDoorRows
import GoSem.ClaimSeven
namespace Go.Proofs.YtcceblejaanfaaaDoor
namespace Rows

/-- THE TIED CARD OF 'escrowlaw10.ShelfPuts'. -/
def shelfPutsCard : Claim7 := { stood := { row := shelfPutsRow, standIns := [], harness := (true, "e15a9dad83db7cf42bc2a16faf86769d265a3800ad72b83c5466677c1ab91179"), looks := false }, kinds := [], alts := [], laidByText := true, laidKinds := [.data], laidTests := true, laidLooks := .later }
def ShelfPutsCardSaid : Prop := Claim7.holds Tryd.pinned (.plain (OpenSpec.ofChange shelfPutsSpec)) shelfPutsCard

/-- THE TIED CARD OF 'escrowlaw10.ShelfGets'. -/
def shelfGetsCard : Claim7 := { stood := { row := shelfGetsRow, standIns := [], harness := (true, "e15a9dad83db7cf42bc2a16faf86769d265a3800ad72b83c5466677c1ab91179"), looks := false }, kinds := [], alts := [], laidByText := true, laidKinds := [.data], laidTests := true, laidLooks := .later }
def ShelfGetsCardSaid : Prop := Claim7.holds Tryd.pinned (.plain (OpenSpec.ofChange shelfGetsSpec)) shelfGetsCard

/-- THE TIED CARD OF 'escrowlaw10.ShelfKeeps'. -/
def shelfKeepsCard : Claim7 := { stood := { row := shelfKeepsRow, standIns := [], harness := (true, "e15a9dad83db7cf42bc2a16faf86769d265a3800ad72b83c5466677c1ab91179"), looks := false }, kinds := [], alts := [], laidByText := true, laidKinds := [.data], laidTests := true, laidLooks := .later }
def ShelfKeepsCardSaid : Prop := Claim7.holds Tryd.pinned (.plain (OpenSpec.ofChange shelfKeepsSpec)) shelfKeepsCard

/-- THE TIED CARD OF 'escrowlaw10.ShelfAgrees'. -/
def shelfAgreesCard : Claim7 := { stood := { row := shelfAgreesRow, standIns := [], harness := (true, "e15a9dad83db7cf42bc2a16faf86769d265a3800ad72b83c5466677c1ab91179"), looks := false }, kinds := [], alts := [], laidByText := true, laidKinds := [.data], laidTests := true, laidLooks := .later }
def ShelfAgreesCardSaid : Prop := Claim7.holds Tryd.pinned (.plain (OpenSpec.ofChange shelfAgreesSpec)) shelfAgreesCard

/-- THE TIED CARD OF 'escrowlaw10.ShelfFew'. -/
def shelfFewCard : Claim7 := { stood := { row := shelfFewRow, standIns := [], harness := (true, "e15a9dad83db7cf42bc2a16faf86769d265a3800ad72b83c5466677c1ab91179"), looks := false }, kinds := [], alts := [], laidByText := true, laidKinds := [.data], laidTests := true, laidLooks := .later }
def ShelfFewCardSaid : Prop := Claim7.holds Tryd.pinned (.plain (OpenSpec.ofChange shelfFewSpec)) shelfFewCard

/-- THE SECOND FORM's CARD OF 'escrowlaw10.ShelfPuts'. -/
def shelfPutsUptoCard : Claim7 := { stood := { row := shelfPutsUptoRow, standIns := [], harness := (true, "e15a9dad83db7cf42bc2a16faf86769d265a3800ad72b83c5466677c1ab91179"), looks := false }, kinds := [], alts := [], laidByText := true, laidKinds := [.data], laidTests := true, laidLooks := .later }
def ShelfPutsUptoCardSaid : Prop := Claim7.holds Tryd.pinned (.plain (OpenSpec.upto shelfPutsSpec)) shelfPutsUptoCard

/-- THE SECOND FORM's CARD OF 'escrowlaw10.ShelfGets'. -/
def shelfGetsUptoCard : Claim7 := { stood := { row := shelfGetsUptoRow, standIns := [], harness := (true, "e15a9dad83db7cf42bc2a16faf86769d265a3800ad72b83c5466677c1ab91179"), looks := false }, kinds := [], alts := [], laidByText := true, laidKinds := [.data], laidTests := true, laidLooks := .later }
def ShelfGetsUptoCardSaid : Prop := Claim7.holds Tryd.pinned (.plain (OpenSpec.upto shelfGetsSpec)) shelfGetsUptoCard

/-- THE SECOND FORM's CARD OF 'escrowlaw10.ShelfKeeps'. -/
def shelfKeepsUptoCard : Claim7 := { stood := { row := shelfKeepsUptoRow, standIns := [], harness := (true, "e15a9dad83db7cf42bc2a16faf86769d265a3800ad72b83c5466677c1ab91179"), looks := false }, kinds := [], alts := [], laidByText := true, laidKinds := [.data], laidTests := true, laidLooks := .later }
def ShelfKeepsUptoCardSaid : Prop := Claim7.holds Tryd.pinned (.plain (OpenSpec.upto shelfKeepsSpec)) shelfKeepsUptoCard

/-- THE SECOND FORM's CARD OF 'escrowlaw10.ShelfAgrees'. -/
def shelfAgreesUptoCard : Claim7 := { stood := { row := shelfAgreesUptoRow, standIns := [], harness := (true, "e15a9dad83db7cf42bc2a16faf86769d265a3800ad72b83c5466677c1ab91179"), looks := false }, kinds := [], alts := [], laidByText := true, laidKinds := [.data], laidTests := true, laidLooks := .later }
def ShelfAgreesUptoCardSaid : Prop := Claim7.holds Tryd.pinned (.plain (OpenSpec.upto shelfAgreesSpec)) shelfAgreesUptoCard

/-- THE SECOND FORM's CARD OF 'escrowlaw10.ShelfFew'. -/
def shelfFewUptoCard : Claim7 := { stood := { row := shelfFewUptoRow, standIns := [], harness := (true, "e15a9dad83db7cf42bc2a16faf86769d265a3800ad72b83c5466677c1ab91179"), looks := false }, kinds := [], alts := [], laidByText := true, laidKinds := [.data], laidTests := true, laidLooks := .later }
def ShelfFewUptoCardSaid : Prop := Claim7.holds Tryd.pinned (.plain (OpenSpec.upto shelfFewSpec)) shelfFewUptoCard
end Rows
end Go.Proofs.YtcceblejaanfaaaDoor
