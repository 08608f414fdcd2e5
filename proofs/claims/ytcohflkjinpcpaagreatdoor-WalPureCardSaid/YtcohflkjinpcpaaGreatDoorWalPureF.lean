/- The facts of the row of 'WalPure'. No condition. -/
import Derived.Test.YtcohflkjinpcpaaGreatDoorCards
import Derived.Test.YtcohflkjinpcpaaGreatDoorTie
import Derived.Test.YtcohflkjinpcpaaGreatDoorAmS4
import Derived.Test.YtcohflkjinpcpaaGreatDoorAmL7
import Derived.Lay
import Derived.LaidLaws
import Derived.MakeChecks
import Derived.SevenTiedAt
namespace Go.Proofs.YtcohflkjinpcpaaGreatDoor
open Go Go.Am Go.ChangeShapes Go.WideShapes Go.ChangeAt Go.RowKit
set_option maxRecDepth 100000
theorem and_ok {a b : Bool} (h1 : a = true) (h2 : b = true) : (a && b) = true := by rw [h1, h2]; rfl
theorem fact0 : (Rows.walPureRow.inPlace == Tryz.prog.inPlace 3) = true := by kernel_rfl
theorem fact1 : (Rows.walPureRow.unfollowed == Tryz.prog.unfollowed 3) = true := by kernel_rfl
theorem fact2 : (Rows.walPureRow.recurses == Tryz.prog.recurses 3) = true := by kernel_rfl
theorem fact3 : (Rows.walPureRow.named == Tryz.prog.varsNamed 3) = true := by kernel_rfl
theorem fact4 : laidOutB Tryz.prog = true := by kernel_rfl
theorem fact5 : mapsRowed Tryz.prog = true := by kernel_rfl
theorem fact6 : (Tryz.prog.stops == []) = true := by kernel_rfl
theorem fact7 : (Tryz.prog.stopKnobs == []) = true := by kernel_rfl
theorem fact8 : Tryz.prog.stopsHeard = true := by kernel_rfl
theorem fact9 : Tryz.prog.mayEnter = true := by kernel_rfl
theorem fact10 : (Rows.walPureRow.lifted == Tryz.prog.liftsFinal) = true := by kernel_rfl
theorem fact11 : (Rows.walPureRow.plainKeys == Tryz.prog.plainKeys) = true := by kernel_rfl
theorem fact12 : namedTie Tryz.prog Rows.walPureRow.named Rows.walPureSpec.vars = true := by kernel_rfl
theorem fact13 : (Tryz.prog.make == some Rows.walPureRow.make) = true := by kernel_rfl
theorem law_facts : joinedFacts Tryz.prog 3 Tryz.f3 Rows.walPureSpec Rows.walPureRow = true := by
  unfold joinedFacts
  repeat' (with_reducible apply and_ok)
  all_goals first | with_reducible exact fact0 | with_reducible exact fact1 | with_reducible exact fact2 | with_reducible exact fact3 | with_reducible exact fact4 | with_reducible exact fact5 | with_reducible exact fact6 | with_reducible exact fact7 | with_reducible exact fact8 | with_reducible exact fact9 | with_reducible exact fact10 | with_reducible exact fact11 | with_reducible exact fact12 | with_reducible exact fact13 | kernel_rfl
end Go.Proofs.YtcohflkjinpcpaaGreatDoor
