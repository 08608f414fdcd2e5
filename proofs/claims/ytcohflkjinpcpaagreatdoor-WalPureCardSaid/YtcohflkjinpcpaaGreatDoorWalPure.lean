/- The statement 'WalPure', tied: whatever comes in, the law returns true, and what came in reads as it did. The listed package variables read as the program's text lays them. -/
import Derived.Test.YtcohflkjinpcpaaGreatDoorCards
import Derived.Test.YtcohflkjinpcpaaGreatDoorTie
import Derived.Test.YtcohflkjinpcpaaGreatDoorWalPureB
import Derived.Test.YtcohflkjinpcpaaGreatDoorAmL7
import Derived.Lay
import Derived.LaidLaws
import Derived.MakeChecks
import Derived.SevenTiedAt
namespace Go.Proofs.YtcohflkjinpcpaaGreatDoor
open Go Go.Am Go.ChangeShapes Go.WideShapes Go.ChangeAt Go.RowKit
set_option maxRecDepth 100000
theorem card_wf : Rows.walPureRow.wfByText (OpenSpec.ofChange Rows.walPureSpec) = true := by kernel_rfl
theorem card_main : Tryz.prog.mainIs = some (true, ("6a9cda4dbb024d1d330349a9c7b0ffe9ada9942716ccc4fa954f19b4b43e4461" : String).toList) := by kernel_rfl
theorem card_looks : true = Tryz.prog.looks [] := by kernel_rfl
theorem card_fn : Tryz.prog.funcNamed "stagepost/stagepostlaw05.WalPure" = some 3 := by kernel_rfl
theorem goes_none {P : Program} (h : (P.funcs.toList.any Func.goes) = false) (f : FuncId) : P.goes f = false := by
  have h2 : P.funcs.any Func.goes = false := by rw [← Array.any_toList]; exact h
  unfold Program.goes
  rw [h2, Bool.and_false, Bool.or_false, List.any_eq_false]
  intro g _
  cases hg : P.funcs[g]? with
  | none => simp
  | some fn =>
    have hm : fn ∈ P.funcs.toList := by rw [Array.getElem?_eq_some_iff] at hg; obtain ⟨hl, rfl⟩ := hg; simp
    have := List.any_eq_false.1 h fn hm
    simpa using this
theorem any_parts {α : Type} (p : α → Bool) (l : List α) (n : Nat) (h1 : (l.take n).any p = false) (h2 : (l.drop n).any p = false) : l.any p = false := by
  rw [← List.take_append_drop n l, List.any_append, h1, h2]; rfl
theorem goes_part0 : (((Tryz.prog.funcs.toList.drop 0).take 60).any Func.goes) = false := by kernel_rfl
theorem goes_part1 : (((Tryz.prog.funcs.toList.drop 60).take 60).any Func.goes) = false := by kernel_rfl
theorem goes_part2 : ((Tryz.prog.funcs.toList.drop 120).any Func.goes) = false := by kernel_rfl
theorem goes_all : (Tryz.prog.funcs.toList.any Func.goes) = false := by
  have h : ((Tryz.prog.funcs.toList.drop 0).any Func.goes) = false := any_parts _ _ 60 goes_part0 (by rw [List.drop_drop]; exact any_parts _ _ 60 goes_part1 (by rw [List.drop_drop]; exact goes_part2))
  exact h
theorem goes_this : Tryz.prog.goes 3 = false := goes_none goes_all 3
theorem or_is {a : Bool} (h : a = false) : false = (a || false) := by rw [h]; rfl
theorem any_some {p : Nat → Bool} {f : Nat} (h : p f = false) : (some f).any p = false := h
theorem card_goes : false = Rows.walPureRow.goesBy Tryz.prog := by
  show false = (((Tryz.prog.funcNamed "stagepost/stagepostlaw05.WalPure").any Tryz.prog.goes) || false)
  refine or_is ?_
  rw [card_fn]
  exact any_some goes_this
theorem card_in0 : Tryz.prog.wantsStandIn 24 = false := by kernel_rfl
theorem card_in1 : Tryz.prog.wantsStandIn 25 = false := by kernel_rfl
theorem card_in2 : Tryz.prog.wantsStandIn 3 = false := by kernel_rfl
theorem law_holds : Rows.WalPureCardSaid :=
  Claim7.holds_tied_plain_at .later [] [.data, .data, .data] true (true, "6a9cda4dbb024d1d330349a9c7b0ffe9ada9942716ccc4fa954f19b4b43e4461") true
    law_row (fun _ h => by cases h) card_wf (fun _ h => by cases h) walPure_row_tie rfl ⟨rfl, rfl⟩ card_main rfl
    (fun f fn hf hfn => by
      obtain rfl : f = 3 := Option.some.inj (card_fn.symm.trans hf) |>.symm
      obtain rfl : fn = Tryz.f3 := (Option.some.inj (Tryz.func3.symm.trans hfn)).symm
      exact ⟨card_looks, fun j t ht => by
        rw [Tryz.params3] at ht
        rcases j with _ | j
        · obtain rfl : t = 24 := by simpa using ht.symm
          exact card_in0
        · skip
          rcases j with _ | j
          · obtain rfl : t = 25 := by simpa using ht.symm
            exact card_in1
          · skip
            rcases j with _ | j
            · obtain rfl : t = 3 := by simpa using ht.symm
              exact card_in2
            · skip
              simp at ht⟩)
    card_goes
end Go.Proofs.YtcohflkjinpcpaaGreatDoor
