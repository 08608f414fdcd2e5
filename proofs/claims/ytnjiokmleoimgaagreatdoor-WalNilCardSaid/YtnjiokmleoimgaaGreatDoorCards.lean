/-
  DERIVED. GIVEN WITH THE SEED: THE CARDS: each row of YtnjiokmleoimgaaGreatDoorRows.lean that lists a variable, with what it lists TIED to the program's text (the seventh form; the later family's looks); each row that meets fmt, with fmt's text TOLD by the authors' own Lean function (tested against real Go, not proved from fmt's source: count such statements apart). THE CARD IS WHAT COUNTS. Prove the row's statement (the work); the ties are given (YtnjiokmleoimgaaGreatDoorTie.lean); close each card by the builder's one call (the guide's Derived/Test/ToyasCard.lean, 'card_holds'). Laid BY PROGRAM, IN A SANDBOX (cutbox-door.mjs). By AI agents, Wed Nov 11 2026. No macro, syntax, notation, axiom, sorry.
-/
import Derived.Test.YtnjiokmleoimgaaGreatDoorRows
import GoSem.ClaimSeven
namespace Go.Proofs.YtnjiokmleoimgaaGreatDoor
namespace Rows

/-- THE TIED CARD OF 'stagepostlaw05.WalPure'. -/
def walPureCard : Claim7 := { stood := { row := walPureRow, standIns := [], harness := (true, "8c987d27e698e2fc5273cc4eaef05a40ec9835c457c47badfa4225c9d17e66f8"), looks := true }, kinds := [], alts := [], laidByText := true, laidKinds := [.data, .data, .data], laidTests := true, laidLooks := .later }
def WalPureCardSaid : Prop := Claim7.holds Tryz.pinned (.plain (OpenSpec.ofChange walPureSpec)) walPureCard

/-- THE TIED CARD OF 'stagepostlaw05.WalNil'. -/
def walNilCard : Claim7 := { stood := { row := walNilRow, standIns := [], harness := (true, "8c987d27e698e2fc5273cc4eaef05a40ec9835c457c47badfa4225c9d17e66f8"), looks := true }, kinds := [], alts := [], laidByText := true, laidKinds := [.data, .data, .data, .sentinel, .sentinel], laidTests := true, laidLooks := .later }
def WalNilCardSaid : Prop := Claim7.holds Tryz.pinned (.plain (OpenSpec.ofChange walNilSpec)) walNilCard

/-- THE TIED CARD OF 'stagepostlaw05.WalDrops'. -/
def walDropsCard : Claim7 := { stood := { row := walDropsRow, standIns := [], harness := (true, "8c987d27e698e2fc5273cc4eaef05a40ec9835c457c47badfa4225c9d17e66f8"), looks := true }, kinds := [], alts := [], laidByText := true, laidKinds := [.data, .data, .data, .sentinel, .sentinel], laidTests := true, laidLooks := .later }
def WalDropsCardSaid : Prop := Claim7.holds Tryz.pinned (.plain (OpenSpec.ofChange walDropsSpec)) walDropsCard

/-- THE SECOND FORM's CARD OF 'stagepostlaw05.WalPure'. -/
def walPureUptoCard : Claim7 := { stood := { row := walPureUptoRow, standIns := [], harness := (true, "8c987d27e698e2fc5273cc4eaef05a40ec9835c457c47badfa4225c9d17e66f8"), looks := true }, kinds := [], alts := [], laidByText := true, laidKinds := [.data, .data, .data], laidTests := true, laidLooks := .later }
def WalPureUptoCardSaid : Prop := Claim7.holds Tryz.pinned (.plain (OpenSpec.upto walPureSpec)) walPureUptoCard

/-- THE SECOND FORM's CARD OF 'stagepostlaw05.WalNil'. -/
def walNilUptoCard : Claim7 := { stood := { row := walNilUptoRow, standIns := [], harness := (true, "8c987d27e698e2fc5273cc4eaef05a40ec9835c457c47badfa4225c9d17e66f8"), looks := true }, kinds := [], alts := [], laidByText := true, laidKinds := [.data, .data, .data, .sentinel, .sentinel], laidTests := true, laidLooks := .later }
def WalNilUptoCardSaid : Prop := Claim7.holds Tryz.pinned (.plain (OpenSpec.upto walNilSpec)) walNilUptoCard

/-- THE SECOND FORM's CARD OF 'stagepostlaw05.WalDrops'. -/
def walDropsUptoCard : Claim7 := { stood := { row := walDropsUptoRow, standIns := [], harness := (true, "8c987d27e698e2fc5273cc4eaef05a40ec9835c457c47badfa4225c9d17e66f8"), looks := true }, kinds := [], alts := [], laidByText := true, laidKinds := [.data, .data, .data, .sentinel, .sentinel], laidTests := true, laidLooks := .later }
def WalDropsUptoCardSaid : Prop := Claim7.holds Tryz.pinned (.plain (OpenSpec.upto walDropsSpec)) walDropsUptoCard
end Rows
end Go.Proofs.YtnjiokmleoimgaaGreatDoor
