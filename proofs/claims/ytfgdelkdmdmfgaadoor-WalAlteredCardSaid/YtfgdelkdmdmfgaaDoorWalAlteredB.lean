import Derived.Test.YtfgdelkdmdmfgaaDoorCards
import Derived.Test.YtfgdelkdmdmfgaaDoorTie
import Derived.Test.YtfgdelkdmdmfgaaDoorWalAlteredA
import Derived.Test.YtfgdelkdmdmfgaaDoorWalAlteredF
import Derived.Test.YtfgdelkdmdmfgaaDoorAmL7
import Derived.Lay
import Derived.LaidLaws
import Derived.MakeChecks
import Derived.SevenTiedAt
namespace Go.Proofs.YtfgdelkdmdmfgaaDoor
open Go Go.Am Go.ChangeShapes Go.WideShapes Go.ChangeAt Go.RowKit
set_option maxRecDepth 100000
theorem law_row:Rows.WalAlteredSaid :=
  OpenClaim.holds_of_wide 3 Tryd.f3 rfl rfl rfl rfl rfl rfl rfl ⟨rfl,rfl,rfl,rfl,rfl⟩ rfl rfl rfl rfl rfl (by kernel_rfl) Tryd.func3 law_facts
    (of_decide_eq_true (by kernel_rfl)) (by unfold Func.isWrapper;first | (rw [if_pos (by decide +kernel)];kernel_rfl) | (rw [if_neg (by decide +kernel)];exact ⟨rfl,rfl⟩))
    (fun os started H enc _=>law_lifted os started H enc)
end Go.Proofs.YtfgdelkdmdmfgaaDoor
