/-
  DERIVED. GIVEN WITH THE SEED: THE CARDS: each row of YtnjiokmleoimgaaDoorRows.lean that lists a variable, with what it lists TIED to the program's text (the seventh form; the later family's looks); each row that meets fmt, with fmt's text TOLD by the authors' own Lean function (tested against real Go, not proved from fmt's source: count such statements apart). THE CARD IS WHAT COUNTS. Prove the row's statement (the work); the ties are given (YtnjiokmleoimgaaDoorTie.lean); close each card by the builder's one call (the guide's Derived/Test/ToyasCard.lean, 'card_holds'). Laid BY PROGRAM, IN A SANDBOX (cutbox-door.mjs). By AI agents, Wed Nov 11 2026. No macro, syntax, notation, axiom, sorry.
-/
import Derived.Test.YtnjiokmleoimgaaDoorRows
import GoSem.ClaimSeven
namespace Go.Proofs.YtnjiokmleoimgaaDoor
namespace Rows

/-- THE TIED CARD OF 'stagepostlaw05.WalNames'. -/
def walNamesCard : Claim7 := { stood := { row := walNamesRow, standIns := [], harness := (true, "b2bce2a4df4e4212a8b96ac298433ed6de9cff061857f34450d8f3c5fa0e4428"), looks := true }, kinds := [], alts := [], laidByText := true, laidKinds := [.data, .data, .data], laidTests := true, laidLooks := .later }
def WalNamesCardSaid : Prop := Claim7.holds Tryd.pinned (.plain (OpenSpec.ofChange walNamesSpec)) walNamesCard

/-- THE TIED CARD OF 'stagepostlaw05.WalKeeps'. -/
def walKeepsCard : Claim7 := { stood := { row := walKeepsRow, standIns := [], harness := (true, "b2bce2a4df4e4212a8b96ac298433ed6de9cff061857f34450d8f3c5fa0e4428"), looks := true }, kinds := [], alts := [], laidByText := true, laidKinds := [.data, .data, .data], laidTests := true, laidLooks := .later }
def WalKeepsCardSaid : Prop := Claim7.holds Tryd.pinned (.plain (OpenSpec.ofChange walKeepsSpec)) walKeepsCard

/-- THE TIED CARD OF 'stagepostlaw05.WalAltered'. -/
def walAlteredCard : Claim7 := { stood := { row := walAlteredRow, standIns := [], harness := (true, "b2bce2a4df4e4212a8b96ac298433ed6de9cff061857f34450d8f3c5fa0e4428"), looks := true }, kinds := [], alts := [], laidByText := true, laidKinds := [.data, .data, .data], laidTests := true, laidLooks := .later }
def WalAlteredCardSaid : Prop := Claim7.holds Tryd.pinned (.plain (OpenSpec.ofChange walAlteredSpec)) walAlteredCard

/-- THE SECOND FORM's CARD OF 'stagepostlaw05.WalNames'. -/
def walNamesUptoCard : Claim7 := { stood := { row := walNamesUptoRow, standIns := [], harness := (true, "b2bce2a4df4e4212a8b96ac298433ed6de9cff061857f34450d8f3c5fa0e4428"), looks := true }, kinds := [], alts := [], laidByText := true, laidKinds := [.data, .data, .data], laidTests := true, laidLooks := .later }
def WalNamesUptoCardSaid : Prop := Claim7.holds Tryd.pinned (.plain (OpenSpec.upto walNamesSpec)) walNamesUptoCard

/-- THE SECOND FORM's CARD OF 'stagepostlaw05.WalKeeps'. -/
def walKeepsUptoCard : Claim7 := { stood := { row := walKeepsUptoRow, standIns := [], harness := (true, "b2bce2a4df4e4212a8b96ac298433ed6de9cff061857f34450d8f3c5fa0e4428"), looks := true }, kinds := [], alts := [], laidByText := true, laidKinds := [.data, .data, .data], laidTests := true, laidLooks := .later }
def WalKeepsUptoCardSaid : Prop := Claim7.holds Tryd.pinned (.plain (OpenSpec.upto walKeepsSpec)) walKeepsUptoCard

/-- THE SECOND FORM's CARD OF 'stagepostlaw05.WalAltered'. -/
def walAlteredUptoCard : Claim7 := { stood := { row := walAlteredUptoRow, standIns := [], harness := (true, "b2bce2a4df4e4212a8b96ac298433ed6de9cff061857f34450d8f3c5fa0e4428"), looks := true }, kinds := [], alts := [], laidByText := true, laidKinds := [.data, .data, .data], laidTests := true, laidLooks := .later }
def WalAlteredUptoCardSaid : Prop := Claim7.holds Tryd.pinned (.plain (OpenSpec.upto walAlteredSpec)) walAlteredUptoCard
end Rows
end Go.Proofs.YtnjiokmleoimgaaDoor
