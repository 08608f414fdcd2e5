import Derived.Test.YtfgdelkdmdmfgaaDoorCards
import Derived.Test.YtfgdelkdmdmfgaaDoorTie
import Derived.Test.YtfgdelkdmdmfgaaDoorAmS2
import Derived.Test.YtfgdelkdmdmfgaaDoorAmL7
import Derived.Lay
import Derived.LaidLaws
import Derived.MakeChecks
import Derived.SevenTiedAt
namespace Go.Proofs.YtfgdelkdmdmfgaaDoor
open Go Go.Am Go.ChangeShapes Go.WideShapes Go.ChangeAt Go.RowKit
set_option maxRecDepth 100000
theorem and_ok {a b:Bool} (h1:a=true) (h2:b=true):(a && b)=true:=by rw [h1,h2];rfl
theorem fact0:(Rows.walAlteredRow.inPlace == Tryd.prog.inPlace 3)=true:=by kernel_rfl
theorem fact1:(Rows.walAlteredRow.unfollowed == Tryd.prog.unfollowed 3)=true:=by kernel_rfl
theorem fact2:(Rows.walAlteredRow.recurses == Tryd.prog.recurses 3)=true:=by kernel_rfl
theorem fact3:(Rows.walAlteredRow.named == Tryd.prog.varsNamed 3)=true:=by kernel_rfl
theorem fact4:laidOutB Tryd.prog=true:=by kernel_rfl
theorem fact5:mapsRowed Tryd.prog=true:=by kernel_rfl
theorem fact6:(Tryd.prog.stops == [])=true:=by kernel_rfl
theorem fact7:(Tryd.prog.stopKnobs == [])=true:=by kernel_rfl
theorem fact8:Tryd.prog.stopsHeard=true:=by kernel_rfl
theorem fact9:Tryd.prog.mayEnter=true:=by kernel_rfl
theorem fact10:(Rows.walAlteredRow.lifted == Tryd.prog.liftsFinal)=true:=by kernel_rfl
theorem fact11:(Rows.walAlteredRow.plainKeys == Tryd.prog.plainKeys)=true:=by kernel_rfl
theorem fact12:namedTie Tryd.prog Rows.walAlteredRow.named Rows.walAlteredSpec.vars=true:=by kernel_rfl
theorem fact13:(Tryd.prog.make == some Rows.walAlteredRow.make)=true:=by kernel_rfl
theorem law_facts:joinedFacts Tryd.prog 3 Tryd.f3 Rows.walAlteredSpec Rows.walAlteredRow=true:=by
  unfold joinedFacts
  repeat' (with_reducible apply and_ok)
  all_goals first | with_reducible exact fact0 | with_reducible exact fact1 | with_reducible exact fact2 | with_reducible exact fact3 | with_reducible exact fact4 | with_reducible exact fact5 | with_reducible exact fact6 | with_reducible exact fact7 | with_reducible exact fact8 | with_reducible exact fact9 | with_reducible exact fact10 | with_reducible exact fact11 | with_reducible exact fact12 | with_reducible exact fact13 | kernel_rfl
end Go.Proofs.YtfgdelkdmdmfgaaDoor
