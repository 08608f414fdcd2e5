/-
  DERIVED. GIVEN WITH THE SEED: THE CARDS: each row of YtfbdniomnnpemaaGreatDoorRows.lean that lists a variable, with what it lists TIED to the program's text (the seventh form; the later family's looks); each row that meets fmt, with fmt's text TOLD by the authors' own Lean function (tested against real Go, not proved from fmt's source: count such statements apart). THE CARD IS WHAT COUNTS. Prove the row's statement (the work); the ties are given (YtfbdniomnnpemaaGreatDoorTie.lean); close each card by the builder's one call (the guide's Derived/Test/ToyasCard.lean, 'card_holds'). Laid BY PROGRAM, IN A SANDBOX (cutbox-door.mjs). By AI agents, Wed Nov 11 2026. No macro, syntax, notation, axiom, sorry.
-/
import Derived.Test.YtfbdniomnnpemaaGreatDoorRows
import GoSem.ClaimSeven
namespace Go.Proofs.YtfbdniomnnpemaaGreatDoor
namespace Rows

/-- THE TIED CARD OF 'stagepostlaw11.LsmNil'. -/
def lsmNilCard : Claim7 := { stood := { row := lsmNilRow, standIns := [], harness := (true, "9d111955fd34d2cd4541d62ac786a85c7f3015b4604e56115ba9bf5dfde3e27a"), looks := true }, kinds := [], alts := [], laidByText := true, laidKinds := [.data, .data, .data, .sentinel, .sentinel], laidTests := true, laidLooks := .later }
def LsmNilCardSaid : Prop := Claim7.holds Tryz.pinned (.plain (OpenSpec.ofChange lsmNilSpec)) lsmNilCard

/-- THE TIED CARD OF 'stagepostlaw11.LsmNames'. -/
def lsmNamesCard : Claim7 := { stood := { row := lsmNamesRow, standIns := [], harness := (true, "9d111955fd34d2cd4541d62ac786a85c7f3015b4604e56115ba9bf5dfde3e27a"), looks := true }, kinds := [], alts := [], laidByText := true, laidKinds := [.data, .data, .data, .sentinel, .sentinel], laidTests := true, laidLooks := .later }
def LsmNamesCardSaid : Prop := Claim7.holds Tryz.pinned (.plain (OpenSpec.ofChange lsmNamesSpec)) lsmNamesCard

/-- THE SECOND FORM's CARD OF 'stagepostlaw11.LsmNil'. -/
def lsmNilUptoCard : Claim7 := { stood := { row := lsmNilUptoRow, standIns := [], harness := (true, "9d111955fd34d2cd4541d62ac786a85c7f3015b4604e56115ba9bf5dfde3e27a"), looks := true }, kinds := [], alts := [], laidByText := true, laidKinds := [.data, .data, .data, .sentinel, .sentinel], laidTests := true, laidLooks := .later }
def LsmNilUptoCardSaid : Prop := Claim7.holds Tryz.pinned (.plain (OpenSpec.upto lsmNilSpec)) lsmNilUptoCard

/-- THE SECOND FORM's CARD OF 'stagepostlaw11.LsmNames'. -/
def lsmNamesUptoCard : Claim7 := { stood := { row := lsmNamesUptoRow, standIns := [], harness := (true, "9d111955fd34d2cd4541d62ac786a85c7f3015b4604e56115ba9bf5dfde3e27a"), looks := true }, kinds := [], alts := [], laidByText := true, laidKinds := [.data, .data, .data, .sentinel, .sentinel], laidTests := true, laidLooks := .later }
def LsmNamesUptoCardSaid : Prop := Claim7.holds Tryz.pinned (.plain (OpenSpec.upto lsmNamesSpec)) lsmNamesUptoCard
end Rows
end Go.Proofs.YtfbdniomnnpemaaGreatDoor
