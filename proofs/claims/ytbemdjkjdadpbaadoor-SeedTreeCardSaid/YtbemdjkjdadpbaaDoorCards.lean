/-
  DERIVED. GIVEN WITH THE SEED: THE CARDS: each row of YtbemdjkjdadpbaaDoorRows.lean that lists a variable, with what it lists TIED to the program's text (the seventh form; the later family's looks); each row that meets fmt, with fmt's text TOLD by the authors' own Lean function (tested against real Go, not proved from fmt's source: count such statements apart). THE CARD IS WHAT COUNTS. Prove the row's statement (the work); the ties are given (YtbemdjkjdadpbaaDoorTie.lean); close each card by the builder's one call (the guide's Derived/Test/ToyasCard.lean, 'card_holds'). Laid BY PROGRAM, IN A SANDBOX (cutbox-door.mjs). By AI agents, Wed Nov 11 2026. No macro, syntax, notation, axiom, sorry.
-/
import Derived.Test.YtbemdjkjdadpbaaDoorRows
import GoSem.ClaimSeven
namespace Go.Proofs.YtbemdjkjdadpbaaDoor
namespace Rows

/-- THE TIED CARD OF 'escrowlaw09.SeedSecrets'. -/
def seedSecretsCard : Claim7 := { stood := { row := seedSecretsRow, standIns := [], harness := (true, "bc85a5371979aa6c2d6a45691de26962349164dfd18e1925e45433a7d20a5c3e"), looks := false }, kinds := [], alts := [], laidByText := true, laidKinds := [.data], laidTests := true, laidLooks := .later }
def SeedSecretsCardSaid : Prop := Claim7.holds Tryd.pinned (.plain (OpenSpec.ofChange seedSecretsSpec)) seedSecretsCard

/-- THE TIED CARD OF 'escrowlaw09.SeedDerives'. -/
def seedDerivesCard : Claim7 := { stood := { row := seedDerivesRow, standIns := [], harness := (true, "bc85a5371979aa6c2d6a45691de26962349164dfd18e1925e45433a7d20a5c3e"), looks := false }, kinds := [], alts := [], laidByText := true, laidKinds := [.data], laidTests := true, laidLooks := .later }
def SeedDerivesCardSaid : Prop := Claim7.holds Tryd.pinned (.plain (OpenSpec.ofChange seedDerivesSpec)) seedDerivesCard

/-- THE TIED CARD OF 'escrowlaw09.SeedTree'. -/
def seedTreeCard : Claim7 := { stood := { row := seedTreeRow, standIns := [], harness := (true, "bc85a5371979aa6c2d6a45691de26962349164dfd18e1925e45433a7d20a5c3e"), looks := false }, kinds := [], alts := [], laidByText := true, laidKinds := [.data], laidTests := true, laidLooks := .later }
def SeedTreeCardSaid : Prop := Claim7.holds Tryd.pinned (.plain (OpenSpec.ofChange seedTreeSpec)) seedTreeCard

/-- THE TIED CARD OF 'escrowlaw09.SeedSteps'. -/
def seedStepsCard : Claim7 := { stood := { row := seedStepsRow, standIns := [], harness := (true, "bc85a5371979aa6c2d6a45691de26962349164dfd18e1925e45433a7d20a5c3e"), looks := false }, kinds := [], alts := [], laidByText := true, laidKinds := [.data], laidTests := true, laidLooks := .later }
def SeedStepsCardSaid : Prop := Claim7.holds Tryd.pinned (.plain (OpenSpec.ofChange seedStepsSpec)) seedStepsCard

/-- THE TIED CARD OF 'escrowlaw09.SeedEdges'. -/
def seedEdgesCard : Claim7 := { stood := { row := seedEdgesRow, standIns := [], harness := (true, "bc85a5371979aa6c2d6a45691de26962349164dfd18e1925e45433a7d20a5c3e"), looks := false }, kinds := [], alts := [], laidByText := true, laidKinds := [.data], laidTests := true, laidLooks := .later }
def SeedEdgesCardSaid : Prop := Claim7.holds Tryd.pinned (.plain (OpenSpec.ofChange seedEdgesSpec)) seedEdgesCard

/-- THE SECOND FORM's CARD OF 'escrowlaw09.SeedSecrets'. -/
def seedSecretsUptoCard : Claim7 := { stood := { row := seedSecretsUptoRow, standIns := [], harness := (true, "bc85a5371979aa6c2d6a45691de26962349164dfd18e1925e45433a7d20a5c3e"), looks := false }, kinds := [], alts := [], laidByText := true, laidKinds := [.data], laidTests := true, laidLooks := .later }
def SeedSecretsUptoCardSaid : Prop := Claim7.holds Tryd.pinned (.plain (OpenSpec.upto seedSecretsSpec)) seedSecretsUptoCard

/-- THE SECOND FORM's CARD OF 'escrowlaw09.SeedDerives'. -/
def seedDerivesUptoCard : Claim7 := { stood := { row := seedDerivesUptoRow, standIns := [], harness := (true, "bc85a5371979aa6c2d6a45691de26962349164dfd18e1925e45433a7d20a5c3e"), looks := false }, kinds := [], alts := [], laidByText := true, laidKinds := [.data], laidTests := true, laidLooks := .later }
def SeedDerivesUptoCardSaid : Prop := Claim7.holds Tryd.pinned (.plain (OpenSpec.upto seedDerivesSpec)) seedDerivesUptoCard

/-- THE SECOND FORM's CARD OF 'escrowlaw09.SeedTree'. -/
def seedTreeUptoCard : Claim7 := { stood := { row := seedTreeUptoRow, standIns := [], harness := (true, "bc85a5371979aa6c2d6a45691de26962349164dfd18e1925e45433a7d20a5c3e"), looks := false }, kinds := [], alts := [], laidByText := true, laidKinds := [.data], laidTests := true, laidLooks := .later }
def SeedTreeUptoCardSaid : Prop := Claim7.holds Tryd.pinned (.plain (OpenSpec.upto seedTreeSpec)) seedTreeUptoCard

/-- THE SECOND FORM's CARD OF 'escrowlaw09.SeedSteps'. -/
def seedStepsUptoCard : Claim7 := { stood := { row := seedStepsUptoRow, standIns := [], harness := (true, "bc85a5371979aa6c2d6a45691de26962349164dfd18e1925e45433a7d20a5c3e"), looks := false }, kinds := [], alts := [], laidByText := true, laidKinds := [.data], laidTests := true, laidLooks := .later }
def SeedStepsUptoCardSaid : Prop := Claim7.holds Tryd.pinned (.plain (OpenSpec.upto seedStepsSpec)) seedStepsUptoCard

/-- THE SECOND FORM's CARD OF 'escrowlaw09.SeedEdges'. -/
def seedEdgesUptoCard : Claim7 := { stood := { row := seedEdgesUptoRow, standIns := [], harness := (true, "bc85a5371979aa6c2d6a45691de26962349164dfd18e1925e45433a7d20a5c3e"), looks := false }, kinds := [], alts := [], laidByText := true, laidKinds := [.data], laidTests := true, laidLooks := .later }
def SeedEdgesUptoCardSaid : Prop := Claim7.holds Tryd.pinned (.plain (OpenSpec.upto seedEdgesSpec)) seedEdgesUptoCard
end Rows
end Go.Proofs.YtbemdjkjdadpbaaDoor
