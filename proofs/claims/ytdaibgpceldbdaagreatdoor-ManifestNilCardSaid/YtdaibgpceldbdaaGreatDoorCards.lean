/-
  DERIVED. GIVEN WITH THE SEED: THE CARDS: each row of YtdaibgpceldbdaaGreatDoorRows.lean that lists a variable, with what it lists TIED to the program's text (the seventh form; the later family's looks); each row that meets fmt, with fmt's text TOLD by the authors' own Lean function (tested against real Go, not proved from fmt's source: count such statements apart). THE CARD IS WHAT COUNTS. Prove the row's statement (the work); the ties are given (YtdaibgpceldbdaaGreatDoorTie.lean); close each card by the builder's one call (the guide's Derived/Test/ToyasCard.lean, 'card_holds'). Laid BY PROGRAM, IN A SANDBOX (cutbox-door.mjs). By AI agents, Wed Nov 11 2026. No macro, syntax, notation, axiom, sorry.
-/
import Derived.Test.YtdaibgpceldbdaaGreatDoorRows
import GoSem.ClaimSeven
namespace Go.Proofs.YtdaibgpceldbdaaGreatDoor
namespace Rows

/-- THE TIED CARD OF 'stagepostlaw10.ManifestNames'. -/
def manifestNamesCard : Claim7 := { stood := { row := manifestNamesRow, standIns := [], harness := (true, "5159fd5d1557fa99b1f242973c2cda931f613c6edc99684a5ad67aa69a0314cb"), looks := true }, kinds := [], alts := [], laidByText := true, laidKinds := [.data, .data, .data, .sentinel, .sentinel], laidTests := true, laidLooks := .later }
def ManifestNamesCardSaid : Prop := Claim7.holds Tryz.pinned (.plain (OpenSpec.ofChange manifestNamesSpec)) manifestNamesCard

/-- THE TIED CARD OF 'stagepostlaw10.ManifestNil'. -/
def manifestNilCard : Claim7 := { stood := { row := manifestNilRow, standIns := [], harness := (true, "5159fd5d1557fa99b1f242973c2cda931f613c6edc99684a5ad67aa69a0314cb"), looks := true }, kinds := [], alts := [], laidByText := true, laidKinds := [.data, .data, .data, .sentinel, .sentinel], laidTests := true, laidLooks := .later }
def ManifestNilCardSaid : Prop := Claim7.holds Tryz.pinned (.plain (OpenSpec.ofChange manifestNilSpec)) manifestNilCard

/-- THE SECOND FORM's CARD OF 'stagepostlaw10.ManifestNames'. -/
def manifestNamesUptoCard : Claim7 := { stood := { row := manifestNamesUptoRow, standIns := [], harness := (true, "5159fd5d1557fa99b1f242973c2cda931f613c6edc99684a5ad67aa69a0314cb"), looks := true }, kinds := [], alts := [], laidByText := true, laidKinds := [.data, .data, .data, .sentinel, .sentinel], laidTests := true, laidLooks := .later }
def ManifestNamesUptoCardSaid : Prop := Claim7.holds Tryz.pinned (.plain (OpenSpec.upto manifestNamesSpec)) manifestNamesUptoCard

/-- THE SECOND FORM's CARD OF 'stagepostlaw10.ManifestNil'. -/
def manifestNilUptoCard : Claim7 := { stood := { row := manifestNilUptoRow, standIns := [], harness := (true, "5159fd5d1557fa99b1f242973c2cda931f613c6edc99684a5ad67aa69a0314cb"), looks := true }, kinds := [], alts := [], laidByText := true, laidKinds := [.data, .data, .data, .sentinel, .sentinel], laidTests := true, laidLooks := .later }
def ManifestNilUptoCardSaid : Prop := Claim7.holds Tryz.pinned (.plain (OpenSpec.upto manifestNilSpec)) manifestNilUptoCard
end Rows
end Go.Proofs.YtdaibgpceldbdaaGreatDoor
