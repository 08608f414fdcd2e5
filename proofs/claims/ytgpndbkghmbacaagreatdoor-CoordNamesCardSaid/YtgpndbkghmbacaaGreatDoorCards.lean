/-
  DERIVED. GIVEN WITH THE SEED: THE CARDS: each row of YtgpndbkghmbacaaGreatDoorRows.lean that lists a variable, with what it lists TIED to the program's text (the seventh form; the later family's looks); each row that meets fmt, with fmt's text TOLD by the authors' own Lean function (tested against real Go, not proved from fmt's source: count such statements apart). THE CARD IS WHAT COUNTS. Prove the row's statement (the work); the ties are given (YtgpndbkghmbacaaGreatDoorTie.lean); close each card by the builder's one call (the guide's Derived/Test/ToyasCard.lean, 'card_holds'). Laid BY PROGRAM, IN A SANDBOX (cutbox-door.mjs). By AI agents, Wed Nov 11 2026. No macro, syntax, notation, axiom, sorry.
-/
import Derived.Test.YtgpndbkghmbacaaGreatDoorRows
import GoSem.ClaimSeven
namespace Go.Proofs.YtgpndbkghmbacaaGreatDoor
namespace Rows

/-- THE TIED CARD OF 'stagepostlaw30.CoordNames'. -/
def coordNamesCard : Claim7 := { stood := { row := coordNamesRow, standIns := [], harness := (true, "1fc923a627fcec30c55f5004c8f514dcac01a3b1ba4a04fa517317bde4eb1dbe"), looks := true }, kinds := [], alts := [], laidByText := true, laidKinds := [.pinned, .data, .pinned, .sentinel, .sentinel, .data, .data, .data, .data, .listed], laidTests := true, laidLooks := .later }
def CoordNamesCardSaid : Prop := Claim7.holds Tryz.pinned (.plain (OpenSpec.ofChange coordNamesSpec)) coordNamesCard

/-- THE TIED CARD OF 'stagepostlaw30.CoordNil'. -/
def coordNilCard : Claim7 := { stood := { row := coordNilRow, standIns := [], harness := (true, "1fc923a627fcec30c55f5004c8f514dcac01a3b1ba4a04fa517317bde4eb1dbe"), looks := true }, kinds := [], alts := [], laidByText := true, laidKinds := [.pinned, .data, .pinned, .sentinel, .sentinel, .data, .data, .data, .data, .listed], laidTests := true, laidLooks := .later }
def CoordNilCardSaid : Prop := Claim7.holds Tryz.pinned (.plain (OpenSpec.ofChange coordNilSpec)) coordNilCard

/-- THE SECOND FORM's CARD OF 'stagepostlaw30.CoordNames'. -/
def coordNamesUptoCard : Claim7 := { stood := { row := coordNamesUptoRow, standIns := [], harness := (true, "1fc923a627fcec30c55f5004c8f514dcac01a3b1ba4a04fa517317bde4eb1dbe"), looks := true }, kinds := [], alts := [], laidByText := true, laidKinds := [.pinned, .data, .pinned, .sentinel, .sentinel, .data, .data, .data, .data, .listed], laidTests := true, laidLooks := .later }
def CoordNamesUptoCardSaid : Prop := Claim7.holds Tryz.pinned (.plain (OpenSpec.upto coordNamesSpec)) coordNamesUptoCard

/-- THE SECOND FORM's CARD OF 'stagepostlaw30.CoordNil'. -/
def coordNilUptoCard : Claim7 := { stood := { row := coordNilUptoRow, standIns := [], harness := (true, "1fc923a627fcec30c55f5004c8f514dcac01a3b1ba4a04fa517317bde4eb1dbe"), looks := true }, kinds := [], alts := [], laidByText := true, laidKinds := [.pinned, .data, .pinned, .sentinel, .sentinel, .data, .data, .data, .data, .listed], laidTests := true, laidLooks := .later }
def CoordNilUptoCardSaid : Prop := Claim7.holds Tryz.pinned (.plain (OpenSpec.upto coordNilSpec)) coordNilUptoCard
end Rows
end Go.Proofs.YtgpndbkghmbacaaGreatDoor
