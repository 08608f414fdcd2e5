/- The row of 'LsmNames'. No condition. -/
import Derived.Test.YtfbdniomnnpemaaGreatDoorCards
import Derived.Test.YtfbdniomnnpemaaGreatDoorTie
import Derived.Test.YtfbdniomnnpemaaGreatDoorLsmNamesA
import Derived.Test.YtfbdniomnnpemaaGreatDoorAmL7
import Derived.Lay
import Derived.LaidLaws
import Derived.MakeChecks
import Derived.SevenTiedAt
namespace Go.Proofs.YtfbdniomnnpemaaGreatDoor
open Go Go.Am Go.ChangeShapes Go.WideShapes Go.ChangeAt Go.RowKit
set_option maxRecDepth 100000
theorem and_ok {a b : Bool} (h1 : a = true) (h2 : b = true) : (a && b) = true := by rw [h1, h2]; rfl
theorem clo_fuel : 1 + (Tryz.prog.funcs.toList.map fun g => (Tryz.prog.leadsTo g).length + 1).sum = 885 := by kernel_rfl
theorem clo_part0 (r : Nat) : Tryz.prog.closureVia (r + 200) [4] [] = Tryz.prog.closureVia r [135, 134, 111, 114, 98, 115, 98, 111, 117, 54, 59, 29, 60, 61, 37, 46, 26, 62, 63, 54, 62, 63, 54, 65, 65, 5, 66, 65, 5, 19, 10, 16, 7, 8, 11, 16, 6, 21, 22, 18, 17, 6, 6, 12, 9, 11, 13] [76, 179, 189, 133, 132, 75, 178, 96, 177, 159, 102, 54, 113, 112, 80, 110, 72, 81, 109, 267, 263, 251, 250, 229, 202, 228, 200, 201, 140, 190, 141, 191, 142, 203, 227, 199, 155, 176, 175, 129, 174, 108, 214, 226, 193, 213, 173, 172, 166, 165, 164, 235, 210, 234, 209, 163, 162, 207, 206, 161, 104, 117, 224, 249, 265, 264, 255, 254, 233, 232, 253, 252, 246, 231, 230, 205, 160, 103, 223, 222, 248, 221, 187, 262, 261, 247, 220, 186, 127, 208, 204, 158, 171, 225, 188, 131, 212, 170, 169, 107, 58, 46, 57, 105, 67, 168, 211, 167, 106, 181, 123, 101, 56, 17, 18, 64, 20, 4] := by kernel_rfl
theorem clo_part1 (r : Nat) : Tryz.prog.closureVia (r + 200) [135, 134, 111, 114, 98, 115, 98, 111, 117, 54, 59, 29, 60, 61, 37, 46, 26, 62, 63, 54, 62, 63, 54, 65, 65, 5, 66, 65, 5, 19, 10, 16, 7, 8, 11, 16, 6, 21, 22, 18, 17, 6, 6, 12, 9, 11, 13] [76, 179, 189, 133, 132, 75, 178, 96, 177, 159, 102, 54, 113, 112, 80, 110, 72, 81, 109, 267, 263, 251, 250, 229, 202, 228, 200, 201, 140, 190, 141, 191, 142, 203, 227, 199, 155, 176, 175, 129, 174, 108, 214, 226, 193, 213, 173, 172, 166, 165, 164, 235, 210, 234, 209, 163, 162, 207, 206, 161, 104, 117, 224, 249, 265, 264, 255, 254, 233, 232, 253, 252, 246, 231, 230, 205, 160, 103, 223, 222, 248, 221, 187, 262, 261, 247, 220, 186, 127, 208, 204, 158, 171, 225, 188, 131, 212, 170, 169, 107, 58, 46, 57, 105, 67, 168, 211, 167, 106, 181, 123, 101, 56, 17, 18, 64, 20, 4] = Tryz.prog.closureVia r [87, 88, 25, 6, 10, 16, 7, 8, 11, 16, 6, 21, 22, 18, 17, 6, 6, 12, 9, 11, 13] [84, 85, 139, 138, 83, 30, 28, 27, 6, 12, 19, 66, 25, 130, 71, 69, 24, 68, 23, 5, 65, 185, 126, 63, 244, 243, 241, 240, 266, 260, 259, 239, 258, 257, 238, 256, 237, 242, 236, 218, 245, 219, 183, 217, 182, 124, 184, 125, 62, 79, 136, 78, 77, 26, 37, 74, 94, 128, 70, 216, 215, 180, 122, 73, 121, 120, 61, 119, 82, 118, 86, 198, 153, 137, 152, 143, 97, 55, 60, 29, 59, 116, 115, 154, 98, 114, 111, 134, 135, 76, 179, 189, 133, 132, 75, 178, 96, 177, 159, 102, 54, 113, 112, 80, 110, 72, 81, 109, 267, 263, 251, 250, 229, 202, 228, 200, 201, 140, 190, 141, 191, 142, 203, 227, 199, 155, 176, 175, 129, 174, 108, 214, 226, 193, 213, 173, 172, 166, 165, 164, 235, 210, 234, 209, 163, 162, 207, 206, 161, 104, 117, 224, 249, 265, 264, 255, 254, 233, 232, 253, 252, 246, 231, 230, 205, 160, 103, 223, 222, 248, 221, 187, 262, 261, 247, 220, 186, 127, 208, 204, 158, 171, 225, 188, 131, 212, 170, 169, 107, 58, 46, 57, 105, 67, 168, 211, 167, 106, 181, 123, 101, 56, 17, 18, 64, 20, 4] := by kernel_rfl
def cloL : List FuncId := [4, 20, 64, 18, 17, 56, 101, 123, 181, 106, 167, 211, 168, 67, 105, 57, 46, 58, 107, 169, 170, 212, 131, 188, 225, 171, 158, 204, 208, 127, 186, 220, 247, 261, 262, 187, 221, 248, 222, 223, 103, 160, 205, 230, 231, 246, 252, 253, 232, 233, 254, 255, 264, 265, 249, 224, 117, 104, 161, 206, 207, 162, 163, 209, 234, 210, 235, 164, 165, 166, 172, 173, 213, 193, 226, 214, 108, 174, 129, 175, 176, 155, 199, 227, 203, 142, 191, 141, 190, 140, 201, 200, 228, 202, 229, 250, 251, 263, 267, 109, 81, 72, 110, 80, 112, 113, 54, 102, 159, 177, 96, 178, 75, 132, 133, 189, 179, 76, 135, 134, 111, 114, 98, 154, 115, 116, 59, 29, 60, 55, 97, 143, 152, 137, 153, 198, 86, 118, 82, 119, 61, 120, 121, 73, 122, 180, 215, 216, 70, 128, 94, 74, 37, 26, 77, 78, 136, 79, 62, 125, 184, 124, 182, 217, 183, 219, 245, 218, 236, 242, 237, 256, 238, 257, 258, 239, 259, 260, 266, 240, 241, 243, 244, 63, 126, 185, 65, 5, 23, 68, 24, 69, 71, 130, 25, 66, 19, 12, 6, 27, 28, 30, 83, 138, 139, 85, 84, 87, 144, 192, 194, 148, 196, 92, 197, 88, 145, 146, 10, 38, 39, 32, 90, 31, 89, 40, 41, 42, 43, 95, 147, 195, 149, 150, 151, 44, 45, 99, 156, 157, 47, 100, 16, 7, 33, 34, 91, 35, 93, 36, 8, 11, 48, 49, 50, 51, 52, 53, 21, 22, 9, 13]
theorem clo_last : Tryz.prog.closureVia 485 [87, 88, 25, 6, 10, 16, 7, 8, 11, 16, 6, 21, 22, 18, 17, 6, 6, 12, 9, 11, 13] [84, 85, 139, 138, 83, 30, 28, 27, 6, 12, 19, 66, 25, 130, 71, 69, 24, 68, 23, 5, 65, 185, 126, 63, 244, 243, 241, 240, 266, 260, 259, 239, 258, 257, 238, 256, 237, 242, 236, 218, 245, 219, 183, 217, 182, 124, 184, 125, 62, 79, 136, 78, 77, 26, 37, 74, 94, 128, 70, 216, 215, 180, 122, 73, 121, 120, 61, 119, 82, 118, 86, 198, 153, 137, 152, 143, 97, 55, 60, 29, 59, 116, 115, 154, 98, 114, 111, 134, 135, 76, 179, 189, 133, 132, 75, 178, 96, 177, 159, 102, 54, 113, 112, 80, 110, 72, 81, 109, 267, 263, 251, 250, 229, 202, 228, 200, 201, 140, 190, 141, 191, 142, 203, 227, 199, 155, 176, 175, 129, 174, 108, 214, 226, 193, 213, 173, 172, 166, 165, 164, 235, 210, 234, 209, 163, 162, 207, 206, 161, 104, 117, 224, 249, 265, 264, 255, 254, 233, 232, 253, 252, 246, 231, 230, 205, 160, 103, 223, 222, 248, 221, 187, 262, 261, 247, 220, 186, 127, 208, 204, 158, 171, 225, 188, 131, 212, 170, 169, 107, 58, 46, 57, 105, 67, 168, 211, 167, 106, 181, 123, 101, 56, 17, 18, 64, 20, 4] = cloL := by kernel_rfl
theorem clo : Tryz.prog.closure 4 = cloL := by
  unfold Program.closure
  rw [clo_fuel]
  exact (clo_part0 685).trans ((clo_part1 485).trans (clo_last))
theorem clo_unf : Tryz.prog.unfollowed 4 = true := by
  unfold Program.unfollowed
  rw [clo]
  kernel_rfl
theorem fact0 : (Rows.lsmNamesRow.inPlace == Tryz.prog.inPlace 4) = true := by
  unfold Program.inPlace
  rw [clo]
  kernel_rfl
theorem fact1 : (Rows.lsmNamesRow.unfollowed == Tryz.prog.unfollowed 4) = true := by
  rw [clo_unf]
  kernel_rfl
theorem fact2 : (Rows.lsmNamesRow.recurses == Tryz.prog.recurses 4) = true := by
  unfold Program.recurses
  rw [clo_unf]
  kernel_rfl
theorem fact3 : (Rows.lsmNamesRow.named == Tryz.prog.varsNamed 4) = true := by
  unfold Program.varsNamed
  rw [clo]
  kernel_rfl
theorem fact4 : laidOutB Tryz.prog = true := by kernel_rfl
theorem fact5 : mapsRowed Tryz.prog = true := by kernel_rfl
theorem fact6 : (Tryz.prog.stops == []) = true := by kernel_rfl
theorem fact7 : (Tryz.prog.stopKnobs == []) = true := by kernel_rfl
theorem fact8 : Tryz.prog.stopsHeard = true := by kernel_rfl
theorem fact9 : Tryz.prog.mayEnter = true := by kernel_rfl
theorem fact10 : (Rows.lsmNamesRow.lifted == Tryz.prog.liftsFinal) = true := by kernel_rfl
theorem fact11 : (Rows.lsmNamesRow.plainKeys == Tryz.prog.plainKeys) = true := by kernel_rfl
theorem fact12 : namedTie Tryz.prog Rows.lsmNamesRow.named Rows.lsmNamesSpec.vars = true := by kernel_rfl
theorem fact13 : (Tryz.prog.make == some Rows.lsmNamesRow.make) = true := by kernel_rfl
theorem law_facts : joinedFacts Tryz.prog 4 Tryz.f4 Rows.lsmNamesSpec Rows.lsmNamesRow = true := by
  unfold joinedFacts
  repeat' (with_reducible apply and_ok)
  all_goals first | with_reducible exact fact0 | with_reducible exact fact1 | with_reducible exact fact2 | with_reducible exact fact3 | with_reducible exact fact4 | with_reducible exact fact5 | with_reducible exact fact6 | with_reducible exact fact7 | with_reducible exact fact8 | with_reducible exact fact9 | with_reducible exact fact10 | with_reducible exact fact11 | with_reducible exact fact12 | with_reducible exact fact13 | kernel_rfl
theorem law_row : Rows.LsmNamesSaid :=
  OpenClaim.holds_of_wide 4 Tryz.f4 rfl rfl rfl rfl rfl rfl rfl ⟨rfl, rfl, rfl, rfl, rfl⟩ rfl rfl rfl rfl rfl (by kernel_rfl) Tryz.func4 law_facts
    (of_decide_eq_true (by kernel_rfl)) (by unfold Func.isWrapper; first | (rw [if_pos (by decide +kernel)]; kernel_rfl) | (rw [if_neg (by decide +kernel)]; exact ⟨rfl, rfl⟩))
    (fun os started H enc _ => law_lifted os started H enc)
end Go.Proofs.YtfbdniomnnpemaaGreatDoor
