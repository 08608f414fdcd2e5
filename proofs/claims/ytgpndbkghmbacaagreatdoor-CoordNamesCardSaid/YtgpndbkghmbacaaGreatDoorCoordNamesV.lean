/- A fit start of 'CoordNames': facts. No condition. -/
import Derived.Test.YtgpndbkghmbacaaGreatDoorCards
import Derived.Test.YtgpndbkghmbacaaGreatDoorAmS17
import Derived.Test.YtgpndbkghmbacaaGreatDoorAmL7
import Derived.Lay
import Derived.LaidLaws
import Derived.MakeChecks
import Derived.SevenTiedAt
namespace Go.Proofs.YtgpndbkghmbacaaGreatDoor
open Go Go.Am Go.ChangeShapes Go.WideShapes Go.ChangeAt Go.RowKit
set_option maxRecDepth 100000
theorem Tryz.own : ownKnob Tryz.prog.godebug = none := by kernel_rfl
theorem Tryz.laidOut : laidOutB Tryz.prog = true := by kernel_rfl
theorem wit_z (os : Os) : ((World.laidAll Tryz.prog os Rows.coordNamesRow.laid).forCall (fun _ _ => 0) ⟨#[], #[], []⟩).variablesZipB Tryz.checked.prog = true := by kernel_rfl
theorem wit_r (os : Os) : (((World.laidAll Tryz.prog os Rows.coordNamesRow.laid).forCall (fun _ _ => 0) ⟨#[], #[], []⟩).heap.toList.drop Tryz.checked.prog.globals.size).take ((begin Tryz.checked.prog (fun _ _ => 0) default).world.heap.size - Tryz.checked.prog.globals.size) = (begin Tryz.checked.prog (fun _ _ => 0) default).world.heap.toList.drop Tryz.checked.prog.globals.size := by kernel_rfl
theorem wit_o (os : Os) : Input.okWideB Tryz.checked.prog ((World.laidAll Tryz.prog os Rows.coordNamesRow.laid).forCall (fun _ _ => 0) ⟨#[], #[], []⟩) 3 ⟨#[], #[], []⟩ = true := by kernel_rfl
end Go.Proofs.YtgpndbkghmbacaaGreatDoor
