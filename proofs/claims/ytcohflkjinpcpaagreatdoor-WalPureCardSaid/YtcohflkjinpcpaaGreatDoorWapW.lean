/- A fit start of 'WalPure': facts. No condition. -/
import Derived.Test.YtcohflkjinpcpaaGreatDoorCards
import Derived.Test.YtcohflkjinpcpaaGreatDoorWaU
import Derived.Test.YtcohflkjinpcpaaGreatDoorWapQ
import Derived.Lay
import Derived.LaidLaws
import Derived.MakeChecks
import Derived.SevenTiedAt
namespace Go.Proofs.YtcohflkjinpcpaaGreatDoor
open Go Go.Am Go.ChangeShapes Go.WideShapes Go.ChangeAt Go.RowKit
set_option maxRecDepth 100000
set_option linter.all false
theorem Tryz.own : ownKnob Tryz.prog.godebug = none := by kernel_rfl
theorem Tryz.laidOut : laidOutB Tryz.prog = true := by kernel_rfl
theorem hg_is (ts us : Nat → Nat) : Hg (glBlks Tryz.prog Rows.walPureRow.laid ts us) = HgLit ts us := by kernel_rfl
theorem shapesL_cons {P : Program} {t : Nat} {ts : List Nat} {l : List AV} (h : ShapesL P (t :: ts) l) : ∃ a l', l = a :: l' ∧ ShapeL P t a ∧ ShapesL P ts l' := by
  cases l with
  | nil => exact h.elim
  | cons a l => exact ⟨a, l, rfl, h.1, h.2⟩
theorem shapesL_nil {P : Program} {l : List AV} (h : ShapesL P [] l) : l = [] := by
  cases l with
  | nil => rfl
  | cons a l => exact h.elim
theorem shape0 {l : List AV} (h : ShapesL Tryz.prog [3, 22] l) : ∃ x0, l = [.int .i64 x0, .junk] := by
  obtain ⟨a0, l0, rfl, h0, h⟩ := shapesL_cons h
  obtain ⟨a1, l1, rfl, h1, h⟩ := shapesL_cons h
  obtain rfl := shapesL_nil h
  unfold ShapeL at h0; rw [Tryz.underlying3] at h0
  obtain ⟨y0, rfl⟩ := h0
  unfold ShapeL at h1; rw [Tryz.underlying22] at h1
  obtain rfl := h1
  exact ⟨y0, rfl⟩
theorem wit_z (os : Os) : ((World.laidAll Tryz.prog os Rows.walPureRow.laid).forCall (fun _ _ => 0) ⟨#[], #[.agg #[.int .i64 0, .slice none 0 0], .slice none 0 0, .int .i64 0], []⟩).variablesZipB Tryz.checked.prog = true := by kernel_rfl
theorem wit_r (os : Os) : (((World.laidAll Tryz.prog os Rows.walPureRow.laid).forCall (fun _ _ => 0) ⟨#[], #[.agg #[.int .i64 0, .slice none 0 0], .slice none 0 0, .int .i64 0], []⟩).heap.toList.drop Tryz.checked.prog.globals.size).take ((begin Tryz.checked.prog (fun _ _ => 0) default).world.heap.size - Tryz.checked.prog.globals.size) = (begin Tryz.checked.prog (fun _ _ => 0) default).world.heap.toList.drop Tryz.checked.prog.globals.size := by kernel_rfl
theorem wit_o (os : Os) : Input.okWideB Tryz.checked.prog ((World.laidAll Tryz.prog os Rows.walPureRow.laid).forCall (fun _ _ => 0) ⟨#[], #[.agg #[.int .i64 0, .slice none 0 0], .slice none 0 0, .int .i64 0], []⟩) 3 ⟨#[], #[.agg #[.int .i64 0, .slice none 0 0], .slice none 0 0, .int .i64 0], []⟩ = true := by kernel_rfl
theorem wit_p {H : Type} (enc : TypeId × Value → H) (os : Os) : Rows.walPureSpec.preB enc Tryz.checked.prog Tryz.f3 Rows.walPureRow.domain false ((World.laidAll Tryz.prog os Rows.walPureRow.laid).forCall (fun _ _ => 0) ⟨#[], #[.agg #[.int .i64 0, .slice none 0 0], .slice none 0 0, .int .i64 0], []⟩).memory #[.agg #[.int .i64 0, .slice none 0 0], .slice none 0 0, .int .i64 0] 8 = true := by kernel_rfl
theorem wit_s {H : Type} (enc : TypeId × Value → H) (os : Os) : Rows.walPureSpec.sizedB enc Tryz.checked.prog Tryz.f3 false ((World.laidAll Tryz.prog os Rows.walPureRow.laid).forCall (fun _ _ => 0) ⟨#[], #[.agg #[.int .i64 0, .slice none 0 0], .slice none 0 0, .int .i64 0], []⟩).memory #[.agg #[.int .i64 0, .slice none 0 0], .slice none 0 0, .int .i64 0] 8 = true := by kernel_rfl
theorem wit_f (os : Os) : (World.holding Tryz.prog os ⟨#[], #[], []⟩).layFits Tryz.prog Rows.walPureRow.laid [] = true := by kernel_rfl
theorem wit_i (os : Os) : (World.holding Tryz.prog os ⟨#[], #[], []⟩).layIfaces Tryz.prog Rows.walPureRow.laid (World.laidAll Tryz.prog os Rows.walPureRow.laid) = true := by kernel_rfl
theorem wit_h : (Rows.walPureRow.laid.filter fun x => x.2.handleName?.isSome) = [] := by kernel_rfl
theorem wit_n : (Rows.walPureRow.laid.all fun x => x.2.handleName?.isNone) = true := by kernel_rfl
end Go.Proofs.YtcohflkjinpcpaaGreatDoor
