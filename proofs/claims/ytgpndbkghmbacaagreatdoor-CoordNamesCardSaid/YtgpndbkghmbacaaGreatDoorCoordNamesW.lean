/- A fit start of 'CoordNames': more facts. No condition. -/
import Derived.Test.YtgpndbkghmbacaaGreatDoorCards
import Derived.Test.YtgpndbkghmbacaaGreatDoorAmS17
import Derived.Test.YtgpndbkghmbacaaGreatDoorAmL7
import Derived.Lay
import Derived.LaidLaws
import Derived.MakeChecks
import Derived.SevenTiedAt
namespace Go.Proofs.YtgpndbkghmbacaaGreatDoor
open Go Go.Am Go.ChangeShapes Go.WideShapes Go.ChangeAt Go.RowKit
set_option maxRecDepth 100000
theorem wit_p {H : Type} (enc : TypeId × Value → H) (os : Os) : Rows.coordNamesSpec.preB enc Tryz.checked.prog Tryz.f3 Rows.coordNamesRow.domain false ((World.laidAll Tryz.prog os Rows.coordNamesRow.laid).forCall (fun _ _ => 0) ⟨#[], #[], []⟩).memory #[] 8 = true := by kernel_rfl
theorem wit_s {H : Type} (enc : TypeId × Value → H) (os : Os) : Rows.coordNamesSpec.sizedB enc Tryz.checked.prog Tryz.f3 false ((World.laidAll Tryz.prog os Rows.coordNamesRow.laid).forCall (fun _ _ => 0) ⟨#[], #[], []⟩).memory #[] 8 = true := by kernel_rfl
theorem wit_f (os : Os) : (World.holding Tryz.prog os ⟨#[], #[], []⟩).layFits Tryz.prog Rows.coordNamesRow.laid [] = true := by kernel_rfl
theorem wit_i (os : Os) : (World.holding Tryz.prog os ⟨#[], #[], []⟩).layIfaces Tryz.prog Rows.coordNamesRow.laid (World.laidAll Tryz.prog os Rows.coordNamesRow.laid) = true := by kernel_rfl
theorem wit_h : (Rows.coordNamesRow.laid.filter fun x => x.2.handleName?.isSome) = [] := by kernel_rfl
theorem wit_n : (Rows.coordNamesRow.laid.all fun x => x.2.handleName?.isNone) = true := by kernel_rfl
end Go.Proofs.YtgpndbkghmbacaaGreatDoor
