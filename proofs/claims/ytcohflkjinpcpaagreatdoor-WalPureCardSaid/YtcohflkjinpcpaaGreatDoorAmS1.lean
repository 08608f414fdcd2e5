/- Functions as they are reckoned. MADE BY PROGRAM (wip/tools/shal.py). -/
import Derived.Test.YtcohflkjinpcpaaGreatDoorAmS0
namespace Go.Proofs.YtcohflkjinpcpaaGreatDoor
open Go Go.Am
set_option maxRecDepth 100000
set_option linter.all false
/-- internal/abi.NoEscape -/
noncomputable def g91 : Fun := noEsc
theorem g91_ok : FunOk Tryz.prog 91 g91 := noEscape_ok Tryz.func91 (by kernel_rfl) (by kernel_rfl) (by kernel_rfl) (by kernel_rfl)
/-- (*strings.Builder).copyCheck -/
noncomputable def g77 : Fun := denFS ty (gam J0 [(91, g91)]) Tryz.f77
theorem g77_ok : FunOk Tryz.prog 77 g77 := fun_okS ty_ok mixed (gam_ok (J := J0) (tab_cons g91_ok (tab_nil fls_fun))) Tryz.func77 (fun args w => by simp)
/-- internal/bytealg.MakeNoZero -/
noncomputable def g92 : Fun := mnzF 5
theorem g92_ok : FunOk Tryz.prog 92 g92 := makeNoZero_ok (t := 25) (e := 5) Tryz.func92 (by kernel_rfl) (by kernel_rfl) (by kernel_rfl) (by kernel_rfl) Tryz.underlying25
/-- (*strings.Builder).grow -/
noncomputable def g78 : Fun := denFS ty (gam J0 [(92, g92)]) Tryz.f78
theorem g78_ok : FunOk Tryz.prog 78 g78 := fun_okS ty_ok mixed (gam_ok (J := J0) (tab_cons g92_ok (tab_nil fls_fun))) Tryz.func78 (fun args w => by simp)
/-- (*strings.Builder).Grow -/
noncomputable def g56 : Fun := denFS ty (gam J0 [(77, g77), (78, g78)]) Tryz.f56
theorem g56_ok : FunOk Tryz.prog 56 g56 := fun_okS ty_ok mixed (gam_ok (J := J0) (tab_cons g77_ok (tab_cons g78_ok (tab_nil fls_fun)))) Tryz.func56 (fun args w => by simp)
end Go.Proofs.YtcohflkjinpcpaaGreatDoor
