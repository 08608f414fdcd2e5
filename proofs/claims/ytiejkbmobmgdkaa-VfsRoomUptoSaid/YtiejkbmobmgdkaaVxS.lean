/- The law VfsMoves, walked: a file is put in the place of another one wholly or not at all. No condition. -/
import Derived.Test.YtiejkbmobmgdkaaVxS0
namespace Go.Proofs.Ytiejkbmobmgdkaa
open Go Go.Am
set_option linter.all false
set_option maxRecDepth 100000
theorem zz : eqI (0 : Int) (Int.ofNat 0) = true := eqI_true.2 rfl
theorem nz0 : Bool.not (eqI (0 : Int) (Int.ofNat 0)) = false := by rw [zz]; rfl
end Go.Proofs.Ytiejkbmobmgdkaa
