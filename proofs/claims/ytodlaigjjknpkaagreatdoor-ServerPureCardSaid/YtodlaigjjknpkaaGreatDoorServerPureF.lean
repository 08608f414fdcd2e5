import Derived.Test.YtodlaigjjknpkaaGreatDoorCards
import Derived.Test.YtodlaigjjknpkaaGreatDoorTie
import Derived.Test.YtodlaigjjknpkaaGreatDoorAmS16
import Derived.Test.YtodlaigjjknpkaaGreatDoorAmL7
import Derived.Lay
import Derived.LaidLaws
import Derived.MakeChecks
import Derived.SevenTiedAt
namespace Go.Proofs.YtodlaigjjknpkaaGreatDoor
open Go Go.Am Go.ChangeShapes Go.WideShapes Go.ChangeAt Go.RowKit
set_option maxRecDepth 100000
theorem and_ok {a b : Bool} (h1 : a = true) (h2 : b = true) : (a && b) = true:=by rw [h1,h2]; rfl
theorem fact0 : (Rows.serverPureRow.inPlace == Tryz.prog.inPlace 3) = true:=by kernel_rfl
theorem fact1 : (Rows.serverPureRow.unfollowed == Tryz.prog.unfollowed 3) = true:=by kernel_rfl
theorem fact2 : (Rows.serverPureRow.recurses == Tryz.prog.recurses 3) = true:=by kernel_rfl
theorem fact3 : (Rows.serverPureRow.named == Tryz.prog.varsNamed 3) = true:=by kernel_rfl
theorem fact4 : laidOutB Tryz.prog = true:=by kernel_rfl
theorem fact5 : mapsRowed Tryz.prog = true:=by kernel_rfl
theorem fact6 : (Tryz.prog.stops == []) = true:=by kernel_rfl
theorem fact7 : (Tryz.prog.stopKnobs == []) = true:=by kernel_rfl
theorem fact8 : Tryz.prog.stopsHeard = true:=by kernel_rfl
theorem fact9 : Tryz.prog.mayEnter = true:=by kernel_rfl
theorem fact10 : (Rows.serverPureRow.lifted == Tryz.prog.liftsFinal) = true:=by kernel_rfl
theorem fact11 : (Rows.serverPureRow.plainKeys == Tryz.prog.plainKeys) = true:=by kernel_rfl
theorem fact12 : namedTie Tryz.prog Rows.serverPureRow.named Rows.serverPureSpec.vars = true:=by kernel_rfl
theorem fact13 : (Tryz.prog.make == some Rows.serverPureRow.make) = true:=by kernel_rfl
theorem law_facts : joinedFacts Tryz.prog 3 Tryz.f3 Rows.serverPureSpec Rows.serverPureRow = true:=by
  unfold joinedFacts
  repeat' (with_reducible apply and_ok)
  all_goals first | with_reducible exact fact0 | with_reducible exact fact1 | with_reducible exact fact2 | with_reducible exact fact3 | with_reducible exact fact4 | with_reducible exact fact5 | with_reducible exact fact6 | with_reducible exact fact7 | with_reducible exact fact8 | with_reducible exact fact9 | with_reducible exact fact10 | with_reducible exact fact11 | with_reducible exact fact12 | with_reducible exact fact13 | kernel_rfl
end Go.Proofs.YtodlaigjjknpkaaGreatDoor
