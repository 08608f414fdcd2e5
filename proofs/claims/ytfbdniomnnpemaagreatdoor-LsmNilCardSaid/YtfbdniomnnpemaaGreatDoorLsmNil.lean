/- The statement 'LsmNil', tied: whatever comes in, the law returns true, and what came in reads as it did. The listed package variables read as the program's text lays them. -/
import Derived.Test.YtfbdniomnnpemaaGreatDoorCards
import Derived.Test.YtfbdniomnnpemaaGreatDoorTie
import Derived.Test.YtfbdniomnnpemaaGreatDoorLsmNilB
import Derived.Test.YtfbdniomnnpemaaGreatDoorAmL7
import Derived.Lay
import Derived.LaidLaws
import Derived.MakeChecks
import Derived.SevenTiedAt
namespace Go.Proofs.YtfbdniomnnpemaaGreatDoor
open Go Go.Am Go.ChangeShapes Go.WideShapes Go.ChangeAt Go.RowKit
set_option maxRecDepth 100000
theorem nil_holds : Rows.LsmNilCardSaid :=
  Claim7.holds_tied_plain_at .later [] [.data, .data, .data, .sentinel, .sentinel] true (true, "9d111955fd34d2cd4541d62ac786a85c7f3015b4604e56115ba9bf5dfde3e27a") true
    law_row (fun _ h => by cases h) (by kernel_rfl) (fun _ h => by cases h) lsmNil_row_tie rfl ⟨rfl, rfl⟩ (by kernel_rfl) rfl
    (fun f fn hf hfn => by
      obtain rfl : f = 3 := Option.some.inj ((show Tryz.prog.funcNamed "stagepost/stagepostlaw11.LsmNil" = some 3 by kernel_rfl).symm.trans hf) |>.symm
      obtain rfl : fn = Tryz.f3 := (Option.some.inj (Tryz.func3.symm.trans hfn)).symm
      exact ⟨by kernel_rfl, fun j t ht => by
        rw [Tryz.params3] at ht
        rcases j with _ | j
        · obtain rfl : t = 26 := by simpa using ht.symm
          exact (show Tryz.prog.wantsStandIn 26 = false by kernel_rfl)
        · skip
          simp at ht⟩)
    (by kernel_rfl)
end Go.Proofs.YtfbdniomnnpemaaGreatDoor
