/-
  DERIVED. GIVEN WITH THE SEED: THE CARDS: each row of YtcifllconkchmaaGreatDoorRows.lean that lists a variable, with what it lists TIED to the program's text (the seventh form; the later family's looks); each row that meets fmt, with fmt's text TOLD by the authors' own Lean function (tested against real Go, not proved from fmt's source: count such statements apart). THE CARD IS WHAT COUNTS. Prove the row's statement (the work); the ties are given (YtcifllconkchmaaGreatDoorTie.lean); close each card by the builder's one call (the guide's Derived/Test/ToyasCard.lean, 'card_holds'). Laid BY PROGRAM, IN A SANDBOX (cutbox-door.mjs). By AI agents, Wed Nov 11 2026. No macro, syntax, notation, axiom, sorry.
-/
import Derived.Test.YtcifllconkchmaaGreatDoorRows
import GoSem.ClaimSeven
namespace Go.Proofs.YtcifllconkchmaaGreatDoor
namespace Rows

/-- THE TIED CARD OF 'stagepostlaw28.ServerNames'. -/
def serverNamesCard : Claim7 := { stood := { row := serverNamesRow, standIns := [], harness := (true, "e786933c8a1ab9cbaf4b1521576e22eaae7ce4c325e0ea807b90e05f0d7fac15"), looks := true }, kinds := [], alts := [], laidByText := true, laidKinds := [.data, .data, .data, .sentinel, .sentinel], laidTests := true, laidLooks := .later }
def ServerNamesCardSaid : Prop := Claim7.holds Tryz.pinned (.plain (OpenSpec.ofChange serverNamesSpec)) serverNamesCard

/-- THE TIED CARD OF 'stagepostlaw28.ServerNil'. -/
def serverNilCard : Claim7 := { stood := { row := serverNilRow, standIns := [], harness := (true, "e786933c8a1ab9cbaf4b1521576e22eaae7ce4c325e0ea807b90e05f0d7fac15"), looks := true }, kinds := [], alts := [], laidByText := true, laidKinds := [.data, .data, .data, .sentinel, .sentinel], laidTests := true, laidLooks := .later }
def ServerNilCardSaid : Prop := Claim7.holds Tryz.pinned (.plain (OpenSpec.ofChange serverNilSpec)) serverNilCard

/-- THE SECOND FORM's CARD OF 'stagepostlaw28.ServerNames'. -/
def serverNamesUptoCard : Claim7 := { stood := { row := serverNamesUptoRow, standIns := [], harness := (true, "e786933c8a1ab9cbaf4b1521576e22eaae7ce4c325e0ea807b90e05f0d7fac15"), looks := true }, kinds := [], alts := [], laidByText := true, laidKinds := [.data, .data, .data, .sentinel, .sentinel], laidTests := true, laidLooks := .later }
def ServerNamesUptoCardSaid : Prop := Claim7.holds Tryz.pinned (.plain (OpenSpec.upto serverNamesSpec)) serverNamesUptoCard

/-- THE SECOND FORM's CARD OF 'stagepostlaw28.ServerNil'. -/
def serverNilUptoCard : Claim7 := { stood := { row := serverNilUptoRow, standIns := [], harness := (true, "e786933c8a1ab9cbaf4b1521576e22eaae7ce4c325e0ea807b90e05f0d7fac15"), looks := true }, kinds := [], alts := [], laidByText := true, laidKinds := [.data, .data, .data, .sentinel, .sentinel], laidTests := true, laidLooks := .later }
def ServerNilUptoCardSaid : Prop := Claim7.holds Tryz.pinned (.plain (OpenSpec.upto serverNilSpec)) serverNilUptoCard
end Rows
end Go.Proofs.YtcifllconkchmaaGreatDoor
