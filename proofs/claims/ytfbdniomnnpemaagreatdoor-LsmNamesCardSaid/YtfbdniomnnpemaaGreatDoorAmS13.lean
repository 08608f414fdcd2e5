/- Functions as they are reckoned. MADE BY PROGRAM (wip/tools/shal.py). -/
import Derived.Test.YtfbdniomnnpemaaGreatDoorAmH22
namespace Go.Proofs.YtfbdniomnnpemaaGreatDoor
open Go Go.Am
set_option maxRecDepth 100000
set_option linter.all false
/-- stagepost/stagepostlaw11.LsmNames -/
noncomputable def g4 : Fun := denFS ty (gam J0 [(6, g6), (7, g7), (8, g8), (9, g9), (10, g10), (11, g11'), (12, g12), (13, g13), (16, g16), (17, g17), (18, g18), (19, g19), (20, g20), (21, g21), (22, g22')]) Tryz.f4
theorem g4_ok : FunOk Tryz.prog 4 g4 := fun_okS ty_ok mixed (gam_ok (J := J0) (tab_cons g6_ok (tab_cons g7_ok (tab_cons g8_ok (tab_cons g9_ok (tab_cons g10_ok (tab_cons g11'_ok (tab_cons g12_ok (tab_cons g13_ok (tab_cons g16_ok (tab_cons g17_ok (tab_cons g18_ok (tab_cons g19_ok (tab_cons g20_ok (tab_cons g21_ok (tab_cons g22'_ok (tab_nil fls_fun))))))))))))))))) Tryz.func4 (fun args w => by simp)
end Go.Proofs.YtfbdniomnnpemaaGreatDoor
