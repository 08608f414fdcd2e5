/- The row of 'WalPure'. No condition. -/
import Derived.Test.YtcohflkjinpcpaaGreatDoorCards
import Derived.Test.YtcohflkjinpcpaaGreatDoorTie
import Derived.Test.YtcohflkjinpcpaaGreatDoorWalPureA
import Derived.Test.YtcohflkjinpcpaaGreatDoorWalPureF
import Derived.Test.YtcohflkjinpcpaaGreatDoorAmL7
import Derived.Lay
import Derived.LaidLaws
import Derived.MakeChecks
import Derived.SevenTiedAt
namespace Go.Proofs.YtcohflkjinpcpaaGreatDoor
open Go Go.Am Go.ChangeShapes Go.WideShapes Go.ChangeAt Go.RowKit
set_option maxRecDepth 100000
theorem law_row : Rows.WalPureSaid :=
  OpenClaim.holds_of_wide 3 Tryz.f3 rfl rfl rfl rfl rfl rfl rfl ⟨rfl, rfl, rfl, rfl, rfl⟩ rfl rfl rfl rfl rfl (by kernel_rfl) Tryz.func3 law_facts
    (of_decide_eq_true (by kernel_rfl)) (by unfold Func.isWrapper; first | (rw [if_pos (by decide +kernel)]; kernel_rfl) | (rw [if_neg (by decide +kernel)]; exact ⟨rfl, rfl⟩))
    (fun os started H enc _ => law_lifted os started H enc)
end Go.Proofs.YtcohflkjinpcpaaGreatDoor
