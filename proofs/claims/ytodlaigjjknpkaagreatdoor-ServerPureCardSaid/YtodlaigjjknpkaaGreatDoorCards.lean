/-
  DERIVED. GIVEN WITH THE SEED: THE CARDS: each row of YtodlaigjjknpkaaGreatDoorRows.lean that lists a variable, with what it lists TIED to the program's text (the seventh form; the later family's looks); each row that meets fmt, with fmt's text TOLD by the authors' own Lean function (tested against real Go, not proved from fmt's source: count such statements apart). THE CARD IS WHAT COUNTS. Prove the row's statement (the work); the ties are given (YtodlaigjjknpkaaGreatDoorTie.lean); close each card by the builder's one call (the guide's Derived/Test/ToyasCard.lean, 'card_holds'). Laid BY PROGRAM, IN A SANDBOX (cutbox-door.mjs). By AI agents, Wed Nov 11 2026. No macro, syntax, notation, axiom, sorry.
-/
import Derived.Test.YtodlaigjjknpkaaGreatDoorRows
import GoSem.ClaimSeven
namespace Go.Proofs.YtodlaigjjknpkaaGreatDoor
namespace Rows

/-- THE TIED CARD OF 'stagepostlaw28.ServerPure'. -/
def serverPureCard : Claim7 := { stood := { row := serverPureRow, standIns := [], harness := (true, "65266040757319c89fe6c07ef69dacd10c5f825309a4864d5f7a6bbf89956ffe"), looks := true }, kinds := [], alts := [], laidByText := true, laidKinds := [.data, .data, .data, .sentinel, .sentinel], laidTests := true, laidLooks := .later }
def ServerPureCardSaid : Prop := Claim7.holds Tryz.pinned (.plain (OpenSpec.ofChange serverPureSpec)) serverPureCard

/-- THE SECOND FORM's CARD OF 'stagepostlaw28.ServerPure'. -/
def serverPureUptoCard : Claim7 := { stood := { row := serverPureUptoRow, standIns := [], harness := (true, "65266040757319c89fe6c07ef69dacd10c5f825309a4864d5f7a6bbf89956ffe"), looks := true }, kinds := [], alts := [], laidByText := true, laidKinds := [.data, .data, .data, .sentinel, .sentinel], laidTests := true, laidLooks := .later }
def ServerPureUptoCardSaid : Prop := Claim7.holds Tryz.pinned (.plain (OpenSpec.upto serverPureSpec)) serverPureUptoCard
end Rows
end Go.Proofs.YtodlaigjjknpkaaGreatDoor
