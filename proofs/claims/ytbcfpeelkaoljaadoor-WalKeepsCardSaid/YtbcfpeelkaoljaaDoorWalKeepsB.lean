import Derived.Test.YtbcfpeelkaoljaaDoorCards
import Derived.Test.YtbcfpeelkaoljaaDoorTie
import Derived.Test.YtbcfpeelkaoljaaDoorWalKeepsA
import Derived.Test.YtbcfpeelkaoljaaDoorWalKeepsF
import Derived.Test.YtbcfpeelkaoljaaDoorAmL7
import Derived.Lay
import Derived.LaidLaws
import Derived.MakeChecks
import Derived.SevenTiedAt
namespace Go.Proofs.YtbcfpeelkaoljaaDoor
open Go Go.Am Go.ChangeShapes Go.WideShapes Go.ChangeAt Go.RowKit
set_option maxRecDepth 100000
theorem law_row:Rows.WalKeepsSaid :=
  OpenClaim.holds_of_wide 3 Tryd.f3 rfl rfl rfl rfl rfl rfl rfl ⟨rfl,rfl,rfl,rfl,rfl⟩ rfl rfl rfl rfl rfl (by kernel_rfl) Tryd.func3 law_facts
    (of_decide_eq_true (by kernel_rfl)) (by unfold Func.isWrapper;first | (rw [if_pos (by decide +kernel)];kernel_rfl) | (rw [if_neg (by decide +kernel)];exact ⟨rfl,rfl⟩))
    (fun os started H enc _=>law_lifted os started H enc)
end Go.Proofs.YtbcfpeelkaoljaaDoor
