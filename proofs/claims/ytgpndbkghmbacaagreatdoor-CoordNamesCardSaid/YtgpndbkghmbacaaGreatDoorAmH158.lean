/- stagepost/lexer.signs: a row of texts, made anew. Its words are told by one run. -/
import Derived.Test.YtgpndbkghmbacaaGreatDoorAmS1
import Derived.KernelRfl
namespace Go.Proofs.YtgpndbkghmbacaaGreatDoor
open Go Go.Am
set_option linter.all false
set_option maxRecDepth 100000
def spc158 : List Nat := [0, 0, 0, 0, 0, 0, 0, 0, 0, 1, 1, 1, 1, 1, 0, 0, 0, 0, 0, 0, 0, 0, 0, 0, 0, 0, 0, 0, 0, 0, 0, 0, 1, 0, 0, 0, 0, 0, 0, 0, 0, 0, 0, 0, 0, 0, 0, 0, 0, 0, 0, 0, 0, 0, 0, 0, 0, 0, 0, 0, 0, 0, 0, 0, 0, 0, 0, 0, 0, 0, 0, 0, 0, 0, 0, 0, 0, 0, 0, 0, 0, 0, 0, 0, 0, 0, 0, 0, 0, 0, 0, 0, 0, 0, 0, 0, 0, 0, 0, 0, 0, 0, 0, 0, 0, 0, 0, 0, 0, 0, 0, 0, 0, 0, 0, 0, 0, 0, 0, 0, 0, 0, 0, 0, 0, 0, 0, 0, 0, 0, 0, 0, 0, 0, 0, 0, 0, 0, 0, 0, 0, 0, 0, 0, 0, 0, 0, 0, 0, 0, 0, 0, 0, 0, 0, 0, 0, 0, 0, 0, 0, 0, 0, 0, 0, 0, 0, 0, 0, 0, 0, 0, 0, 0, 0, 0, 0, 0, 0, 0, 0, 0, 0, 0, 0, 0, 0, 0, 0, 0, 0, 0, 0, 0, 0, 0, 0, 0, 0, 0, 0, 0, 0, 0, 0, 0, 0, 0, 0, 0, 0, 0, 0, 0, 0, 0, 0, 0, 0, 0, 0, 0, 0, 0, 0, 0, 0, 0, 0, 0, 0, 0, 0, 0, 0, 0, 0, 0, 0, 0, 0, 0, 0, 0, 0, 0, 0, 0, 0, 0, 0, 0, 0, 0, 0, 0]
def words158 : List Str := [⟨2, 15422⟩, ⟨2, 15421⟩, ⟨2, 15933⟩, ⟨2, 31868⟩, ⟨1, 40⟩, ⟨1, 41⟩, ⟨1, 44⟩, ⟨1, 59⟩, ⟨1, 46⟩, ⟨1, 42⟩, ⟨1, 43⟩, ⟨1, 45⟩, ⟨1, 47⟩, ⟨1, 37⟩, ⟨1, 61⟩, ⟨1, 60⟩, ⟨1, 62⟩]
theorem words158_run (tt : Nat) : (true = true) = g158 [] (oneG 1 tt (u8s spc158)) (fun r h1 => wordsTestG (Nat.succ 1) false 9 17 words158 r h1 = true) := by kernel_rfl
noncomputable def g158' : Fun := wordsGF 1 spc158 false 9 17 words158
theorem g158'_ok : FunOk Tryz.prog 158 g158' := wordsG_ok g158_ok fun tt => ⟨Eq.mp (words158_run tt) rfl⟩
end Go.Proofs.YtgpndbkghmbacaaGreatDoor
