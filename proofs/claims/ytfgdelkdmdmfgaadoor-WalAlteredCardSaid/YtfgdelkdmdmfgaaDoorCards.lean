/-
  DERIVED. GIVEN WITH THE SEED: THE CARDS: each row of YtfgdelkdmdmfgaaDoorRows.lean that lists a variable, with what it lists TIED to the program's text (the seventh form; the later family's looks); each row that meets fmt, with fmt's text TOLD by the authors' own Lean function (tested against real Go, not proved from fmt's source: count such statements apart). THE CARD IS WHAT COUNTS. Prove the row's statement (the work); the ties are given (YtfgdelkdmdmfgaaDoorTie.lean); close each card by the builder's one call (the guide's Derived/Test/ToyasCard.lean, 'card_holds'). Laid BY PROGRAM, IN A SANDBOX (cutbox-door.mjs). By AI agents, Wed Nov 11 2026. No macro, syntax, notation, axiom, sorry.
-/
import Derived.Test.YtfgdelkdmdmfgaaDoorRows
import GoSem.ClaimSeven
namespace Go.Proofs.YtfgdelkdmdmfgaaDoor
namespace Rows

/-- THE TIED CARD OF 'stagepostlaw05.WalAltered'. -/
def walAlteredCard : Claim7 := { stood := { row := walAlteredRow, standIns := [], harness := (true, "3a33e1bae4fd55a6ec13e0280c777d90014ed865b7961596403cfd7c736b775e"), looks := true }, kinds := [], alts := [], laidByText := true, laidKinds := [.data, .data, .data], laidTests := true, laidLooks := .later }
def WalAlteredCardSaid : Prop := Claim7.holds Tryd.pinned (.plain (OpenSpec.ofChange walAlteredSpec)) walAlteredCard

/-- THE SECOND FORM's CARD OF 'stagepostlaw05.WalAltered'. -/
def walAlteredUptoCard : Claim7 := { stood := { row := walAlteredUptoRow, standIns := [], harness := (true, "3a33e1bae4fd55a6ec13e0280c777d90014ed865b7961596403cfd7c736b775e"), looks := true }, kinds := [], alts := [], laidByText := true, laidKinds := [.data, .data, .data], laidTests := true, laidLooks := .later }
def WalAlteredUptoCardSaid : Prop := Claim7.holds Tryd.pinned (.plain (OpenSpec.upto walAlteredSpec)) walAlteredUptoCard
end Rows
end Go.Proofs.YtfgdelkdmdmfgaaDoor
