import Derived.Test.YtodlaigjjknpkaaGreatDoorCards
import Derived.Test.YtodlaigjjknpkaaGreatDoorTie
import Derived.Test.YtodlaigjjknpkaaGreatDoorServerPureB
import Derived.Test.YtodlaigjjknpkaaGreatDoorAmL7
import Derived.Lay
import Derived.LaidLaws
import Derived.MakeChecks
import Derived.SevenTiedAt
namespace Go.Proofs.YtodlaigjjknpkaaGreatDoor
open Go Go.Am Go.ChangeShapes Go.WideShapes Go.ChangeAt Go.RowKit
set_option maxRecDepth 100000
theorem card_wf : Rows.serverPureRow.wfByText (OpenSpec.ofChange Rows.serverPureSpec) = true:=by kernel_rfl
theorem card_main : Tryz.prog.mainIs = some (true,("65266040757319c89fe6c07ef69dacd10c5f825309a4864d5f7a6bbf89956ffe" : String).toList):=by kernel_rfl
theorem card_looks : true = Tryz.prog.looks []:=by kernel_rfl
theorem Qc8 : Tryz.prog.funcNamed "stagepost/stagepostlaw28.ServerPure" = some 3:=by kernel_rfl
theorem goes_none {P : Program} (h : (P.funcs.toList.any Func.goes) = false) (f : FuncId) : P.goes f = false:=by
  have h2 : P.funcs.any Func.goes = false:=by rw [← Array.any_toList]; exact h
  unfold Program.goes
  rw [h2,Bool.and_false,Bool.or_false,List.any_eq_false]
  intro g _
  cases hg : P.funcs[g]? with
  | none=>simp
  | some fn =>
    have hm : fn ∈ P.funcs.toList:=by rw [Array.getElem?_eq_some_iff] at hg; obtain ⟨hl,rfl⟩:=hg; simp
    have:=List.any_eq_false.1 h fn hm
    simpa using this
theorem Y1 {α : Type} (p : α→Bool) (l : List α) (n : Nat) (h1 : (l.take n).any p = false) (h2 : (l.drop n).any p = false) : l.any p = false:=by
  rw [← List.take_append_drop n l,List.any_append,h1,h2]; rfl
theorem goes_part0 : (((Tryz.prog.funcs.toList.drop 0).take 60).any Func.goes) = false:=by kernel_rfl
theorem goes_part1 : (((Tryz.prog.funcs.toList.drop 60).take 60).any Func.goes) = false:=by kernel_rfl
theorem goes_part2 : (((Tryz.prog.funcs.toList.drop 120).take 60).any Func.goes) = false:=by kernel_rfl
theorem goes_part3 : (((Tryz.prog.funcs.toList.drop 180).take 60).any Func.goes) = false:=by kernel_rfl
theorem goes_part4 : (((Tryz.prog.funcs.toList.drop 240).take 60).any Func.goes) = false:=by kernel_rfl
theorem goes_part5 : (((Tryz.prog.funcs.toList.drop 300).take 60).any Func.goes) = false:=by kernel_rfl
theorem goes_part6 : (((Tryz.prog.funcs.toList.drop 360).take 60).any Func.goes) = false:=by kernel_rfl
theorem goes_part7 : ((Tryz.prog.funcs.toList.drop 420).any Func.goes) = false:=by kernel_rfl
theorem goes_all : (Tryz.prog.funcs.toList.any Func.goes) = false:=by
  have h : ((Tryz.prog.funcs.toList.drop 0).any Func.goes) = false:=Y1 _ _ 60 goes_part0 (by rw [List.drop_drop]; exact Y1 _ _ 60 goes_part1 (by rw [List.drop_drop]; exact Y1 _ _ 60 goes_part2 (by rw [List.drop_drop]; exact Y1 _ _ 60 goes_part3 (by rw [List.drop_drop]; exact Y1 _ _ 60 goes_part4 (by rw [List.drop_drop]; exact Y1 _ _ 60 goes_part5 (by rw [List.drop_drop]; exact Y1 _ _ 60 goes_part6 (by rw [List.drop_drop]; exact goes_part7)))))))
  exact h
theorem goes_this : Tryz.prog.goes 3 = false:=goes_none goes_all 3
theorem or_is {a : Bool} (h : a = false) : false = (a || false):=by rw [h]; rfl
theorem any_some {p : Nat→Bool} {f : Nat} (h : p f = false) : (some f).any p = false:=h
theorem card_goes : false = Rows.serverPureRow.goesBy Tryz.prog:=by
  show false = (((Tryz.prog.funcNamed "stagepost/stagepostlaw28.ServerPure").any Tryz.prog.goes) || false)
  refine or_is ?_
  rw [Qc8]
  exact any_some goes_this
theorem card_in0 : Tryz.prog.wantsStandIn 27 = false:=by kernel_rfl
theorem card_in1 : Tryz.prog.wantsStandIn 40 = false:=by kernel_rfl
theorem law_holds : Rows.ServerPureCardSaid :=
  Claim7.holds_tied_plain_at .later [] [.data,.data,.data,.sentinel,.sentinel] true (true, "65266040757319c89fe6c07ef69dacd10c5f825309a4864d5f7a6bbf89956ffe") true
    law_row (fun _ h=>by cases h) card_wf (fun _ h=>by cases h) serverPure_row_tie rfl ⟨rfl,rfl⟩ card_main rfl
    (fun f fn hf hfn=>by
      obtain rfl : f = 3:=Option.some.inj (Qc8.symm.trans hf) |>.symm
      obtain rfl : fn = Tryz.f3:=(Option.some.inj (Tryz.func3.symm.trans hfn)).symm
      exact ⟨card_looks, fun j t ht => by
        rw [Tryz.params3] at ht
        rcases j with _ | j
        · obtain rfl : t = 27 := by simpa using ht.symm
          exact card_in0
        · skip
          rcases j with _ | j
          · obtain rfl : t = 40 := by simpa using ht.symm
            exact card_in1
          · skip
            simp at ht⟩)
    card_goes
end Go.Proofs.YtodlaigjjknpkaaGreatDoor
