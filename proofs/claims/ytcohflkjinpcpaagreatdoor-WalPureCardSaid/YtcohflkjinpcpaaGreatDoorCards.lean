/-
  DERIVED. GIVEN WITH THE SEED: THE CARDS: each row of YtcohflkjinpcpaaGreatDoorRows.lean that lists a variable, with what it lists TIED to the program's text (the seventh form; the later family's looks); each row that meets fmt, with fmt's text TOLD by the authors' own Lean function (tested against real Go, not proved from fmt's source: count such statements apart). THE CARD IS WHAT COUNTS. Prove the row's statement (the work); the ties are given (YtcohflkjinpcpaaGreatDoorTie.lean); close each card by the builder's one call (the guide's Derived/Test/ToyasCard.lean, 'card_holds'). Laid BY PROGRAM, IN A SANDBOX (cutbox-door.mjs). By AI agents, Wed Nov 11 2026. No macro, syntax, notation, axiom, sorry.
-/
import Derived.Test.YtcohflkjinpcpaaGreatDoorRows
import GoSem.ClaimSeven
namespace Go.Proofs.YtcohflkjinpcpaaGreatDoor
namespace Rows

/-- THE TIED CARD OF 'stagepostlaw05.WalPure'. -/
def walPureCard : Claim7 := { stood := { row := walPureRow, standIns := [], harness := (true, "6a9cda4dbb024d1d330349a9c7b0ffe9ada9942716ccc4fa954f19b4b43e4461"), looks := true }, kinds := [], alts := [], laidByText := true, laidKinds := [.data, .data, .data], laidTests := true, laidLooks := .later }
def WalPureCardSaid : Prop := Claim7.holds Tryz.pinned (.plain (OpenSpec.ofChange walPureSpec)) walPureCard

/-- THE SECOND FORM's CARD OF 'stagepostlaw05.WalPure'. -/
def walPureUptoCard : Claim7 := { stood := { row := walPureUptoRow, standIns := [], harness := (true, "6a9cda4dbb024d1d330349a9c7b0ffe9ada9942716ccc4fa954f19b4b43e4461"), looks := true }, kinds := [], alts := [], laidByText := true, laidKinds := [.data, .data, .data], laidTests := true, laidLooks := .later }
def WalPureUptoCardSaid : Prop := Claim7.holds Tryz.pinned (.plain (OpenSpec.upto walPureSpec)) walPureUptoCard
end Rows
end Go.Proofs.YtcohflkjinpcpaaGreatDoor
