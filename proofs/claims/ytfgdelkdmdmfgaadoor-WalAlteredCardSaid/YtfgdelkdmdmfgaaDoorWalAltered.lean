import Derived.Test.YtfgdelkdmdmfgaaDoorCards
import Derived.Test.YtfgdelkdmdmfgaaDoorTie
import Derived.Test.YtfgdelkdmdmfgaaDoorWalAlteredB
import Derived.Test.YtfgdelkdmdmfgaaDoorAmL7
import Derived.Lay
import Derived.LaidLaws
import Derived.MakeChecks
import Derived.SevenTiedAt
namespace Go.Proofs.YtfgdelkdmdmfgaaDoor
open Go Go.Am Go.ChangeShapes Go.WideShapes Go.ChangeAt Go.RowKit
set_option maxRecDepth 100000
theorem card_wf:Rows.walAlteredRow.wfByText (OpenSpec.ofChange Rows.walAlteredSpec)=true:=by kernel_rfl
theorem card_main:Tryd.prog.mainIs=some (true,("3a33e1bae4fd55a6ec13e0280c777d90014ed865b7961596403cfd7c736b775e" : String).toList):=by kernel_rfl
theorem card_looks:true=Tryd.prog.looks []:=by kernel_rfl
theorem QdD:Tryd.prog.funcNamed "stagepost/stagepostlaw05.WalAltered" = some 3:=by kernel_rfl
theorem goes_none {P:Program} (h:(P.funcs.toList.any Func.goes)=false) (f:FuncId):P.goes f=false:=by
  have h2:P.funcs.any Func.goes=false:=by rw [← Array.any_toList];exact h
  unfold Program.goes
  rw [h2,Bool.and_false,Bool.or_false,List.any_eq_false]
  intro g _
  cases hg:P.funcs[g]? with
  | none=>simp
  | some fn =>
    have hm:fn∈P.funcs.toList:=by rw [Array.getElem?_eq_some_iff] at hg;obtain ⟨hl,rfl⟩:=hg;simp
    have:=List.any_eq_false.1 h fn hm
    simpa using this
theorem any_parts {α:Type} (p:α→Bool) (l:List α) (n:Nat) (h1:(l.take n).any p=false) (h2:(l.drop n).any p=false):l.any p=false:=by
  rw [← List.take_append_drop n l,List.any_append,h1,h2];rfl
theorem goes_part0:(((Tryd.prog.funcs.toList.drop 0).take 60).any Func.goes)=false:=by kernel_rfl
theorem goes_part1:((Tryd.prog.funcs.toList.drop 60).any Func.goes)=false:=by kernel_rfl
theorem goes_all:(Tryd.prog.funcs.toList.any Func.goes)=false:=by
  have h:((Tryd.prog.funcs.toList.drop 0).any Func.goes)=false:=any_parts _ _ 60 goes_part0 (by rw [List.drop_drop];exact goes_part1)
  exact h
theorem goes_this:Tryd.prog.goes 3=false:=goes_none goes_all 3
theorem or_is {a:Bool} (h:a=false):false=(a || false):=by rw [h];rfl
theorem any_some {p:Nat→Bool} {f:Nat} (h:p f=false):(some f).any p=false:=h
theorem card_goes:false=Rows.walAlteredRow.goesBy Tryd.prog:=by
  show false=(((Tryd.prog.funcNamed "stagepost/stagepostlaw05.WalAltered").any Tryd.prog.goes) || false)
  refine or_is ?_
  rw [QdD]
  exact any_some goes_this
theorem card_in0:Tryd.prog.wantsStandIn 22=false:=by kernel_rfl
theorem card_in1:Tryd.prog.wantsStandIn 3=false:=by kernel_rfl
theorem card_in2:Tryd.prog.wantsStandIn 3=false:=by kernel_rfl
theorem card_in3:Tryd.prog.wantsStandIn 23=false:=by kernel_rfl
theorem law_holds : Rows.WalAlteredCardSaid :=
  Claim7.holds_tied_plain_at .later [] [.data,.data,.data] true (true, "3a33e1bae4fd55a6ec13e0280c777d90014ed865b7961596403cfd7c736b775e") true
    law_row (fun _ h=>by cases h) card_wf (fun _ h=>by cases h) walAltered_row_tie rfl ⟨rfl,rfl⟩ card_main rfl
    (fun f fn hf hfn => by
      obtain rfl:f=3:=Option.some.inj (QdD.symm.trans hf) |>.symm
      obtain rfl:fn=Tryd.f3:=(Option.some.inj (Tryd.func3.symm.trans hfn)).symm
      exact ⟨card_looks, fun j t ht => by
        rw [Tryd.params3] at ht
        rcases j with _ | j
        · obtain rfl : t = 22 := by simpa using ht.symm
          exact card_in0
        · skip
          rcases j with _ | j
          · obtain rfl : t = 3 := by simpa using ht.symm
            exact card_in1
          · skip
            rcases j with _ | j
            · obtain rfl : t = 3 := by simpa using ht.symm
              exact card_in2
            · skip
              rcases j with _ | j
              · obtain rfl : t = 23 := by simpa using ht.symm
                exact card_in3
              · skip
                simp at ht⟩)
    card_goes
end Go.Proofs.YtfgdelkdmdmfgaaDoor
