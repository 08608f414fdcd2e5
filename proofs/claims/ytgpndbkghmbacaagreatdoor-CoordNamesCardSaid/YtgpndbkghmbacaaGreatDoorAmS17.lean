/- Functions as they are reckoned. MADE BY PROGRAM (wip/tools/shal.py). -/
import Derived.Test.YtgpndbkghmbacaaGreatDoorAmS16
namespace Go.Proofs.YtgpndbkghmbacaaGreatDoor
open Go Go.Am
set_option maxRecDepth 100000
set_option linter.all false
/-- (*stagepost/coord.Coord).Txn -/
noncomputable def g13 : Fun := denFS ty (gam J0 [(17, g17)]) Tryz.f13
theorem g13_ok : FunOk Tryz.prog 13 g13 := fun_okS ty_ok mixed (gam_ok (J := J0) (tab_cons g17_ok (tab_nil fls_fun))) Tryz.func13 (fun args w => by simp)
/-- (*stagepost/coord.Coord).Busy -/
noncomputable def g16 : Fun := denFS ty (gam J0 [(22, g22)]) Tryz.f16
theorem g16_ok : FunOk Tryz.prog 16 g16 := fun_okS ty_ok mixed (gam_ok (J := J0) (tab_cons g22_ok (tab_nil fls_fun))) Tryz.func16 (fun args w => by simp)
/-- stagepost/stagepostlaw30.lives -/
noncomputable def g6 : Fun := denFS ty (gam J0 [(5, g5), (7, g7), (8, g8), (11, g11), (13, g13), (16, g16), (17, g17)]) Tryz.f6
theorem g6_ok : FunOk Tryz.prog 6 g6 := fun_okS ty_ok mixed (gam_ok (J := J0) (tab_cons g5_ok (tab_cons g7_ok (tab_cons g8_ok (tab_cons g11_ok (tab_cons g13_ok (tab_cons g16_ok (tab_cons g17_ok (tab_nil fls_fun))))))))) Tryz.func6 (fun args w => by simp)
/-- stagepost/coord.scanned -/
noncomputable def g50 : Fun := denFS ty (gam J0 [(58, g58), (91, g91)]) Tryz.f50
theorem g50_ok : FunOk Tryz.prog 50 g50 := fun_okS ty_ok mixed (gam_ok (J := J0) (tab_cons g58_ok (tab_cons g91_ok (tab_nil fls_fun)))) Tryz.func50 (fun args w => by simp)
/-- stagepost/coord.put -/
noncomputable def g51 : Fun := denFS ty (gam J0 [(58, g58), (91, g91)]) Tryz.f51
theorem g51_ok : FunOk Tryz.prog 51 g51 := fun_okS ty_ok mixed (gam_ok (J := J0) (tab_cons g58_ok (tab_cons g91_ok (tab_nil fls_fun)))) Tryz.func51 (fun args w => by simp)
/-- stagepost/coord.fits -/
noncomputable def g25 : Fun := denFS ty (gam J0 [(50, g50), (51, g51)]) Tryz.f25
theorem g25_ok : FunOk Tryz.prog 25 g25 := fun_okS ty_ok mixed (gam_ok (J := J0) (tab_cons g50_ok (tab_cons g51_ok (tab_nil fls_fun)))) Tryz.func25 (fun args w => by simp)
/-- slices.Delete[[]*stagepost/coord.asked,*stagepost/coord.asked] -/
noncomputable def g26 : Fun := denFS ty (gam J0 []) Tryz.f26
theorem g26_ok : FunOk Tryz.prog 26 g26 := fun_okS ty_ok mixed (gam_ok (J := J0) (tab_nil fls_fun)) Tryz.func26 (fun args w => by simp)
/-- (*stagepost/coord.Coord).Take -/
noncomputable def g9 : Fun := denFS ty (gam J0 [(22, g22), (23, g23), (24, g24), (25, g25), (26, g26), (125, g125), (203, g203), (290, g290), (300, g300)]) Tryz.f9
theorem g9_ok : FunOk Tryz.prog 9 g9 := fun_okS ty_ok mixed (gam_ok (J := J0) (tab_cons g22_ok (tab_cons g23_ok (tab_cons g24_ok (tab_cons g25_ok (tab_cons g26_ok (tab_cons g125_ok (tab_cons g203_ok (tab_cons g290_ok (tab_cons g300_ok (tab_nil fls_fun))))))))))) Tryz.func9 (fun args w => by simp)
/-- slices.Clone[[]*stagepost/coord.asked,*stagepost/coord.asked] -/
noncomputable def g27 : Fun := denFS ty (gam J0 []) Tryz.f27
theorem g27_ok : FunOk Tryz.prog 27 g27 := fun_okS ty_ok mixed (gam_ok (J := J0) (tab_nil fls_fun)) Tryz.func27 (fun args w => by simp)
/-- slices.Index[[]*stagepost/coord.asked,*stagepost/coord.asked] -/
noncomputable def g54 : Fun := denFS ty (gam J0 []) Tryz.f54
theorem g54_ok : FunOk Tryz.prog 54 g54 := fun_okS ty_ok mixed (gam_ok (J := J0) (tab_nil fls_fun)) Tryz.func54 (fun args w => by simp)
/-- slices.Contains[[]*stagepost/coord.asked,*stagepost/coord.asked] -/
noncomputable def g28 : Fun := denFS ty (gam J0 [(54, g54)]) Tryz.f28
theorem g28_ok : FunOk Tryz.prog 28 g28 := fun_okS ty_ok mixed (gam_ok (J := J0) (tab_cons g54_ok (tab_nil fls_fun))) Tryz.func28 (fun args w => by simp)
/-- (*stagepost/coord.Coord).Tick -/
noncomputable def g12 : Fun := denFS ty (gam J0 [(22, g22), (27, g27), (28, g28), (29, g29), (30, g30), (32, g32), (33, g33), (60, g60), (75, g75), (163, g163), (167, g167), (169, g169), (171, g171), (172, g172), (248, g248), (249, g249), (291, g291), (293, g293), (324, g324), (409, g409), (420, g420), (495, g495), (512, g512), (527, g527), (532, g532), (534, g534)]) Tryz.f12
theorem g12_ok : FunOk Tryz.prog 12 g12 := fun_okS ty_ok mixed (gam_ok (J := J0) (tab_cons g22_ok (tab_cons g27_ok (tab_cons g28_ok (tab_cons g29_ok (tab_cons g30_ok (tab_cons g32_ok (tab_cons g33_ok (tab_cons g60_ok (tab_cons g75_ok (tab_cons g163_ok (tab_cons g167_ok (tab_cons g169_ok (tab_cons g171_ok (tab_cons g172_ok (tab_cons g248_ok (tab_cons g249_ok (tab_cons g291_ok (tab_cons g293_ok (tab_cons g324_ok (tab_cons g409_ok (tab_cons g420_ok (tab_cons g495_ok (tab_cons g512_ok (tab_cons g527_ok (tab_cons g532_ok (tab_cons g534_ok (tab_nil fls_fun)))))))))))))))))))))))))))) Tryz.func12 (fun args w => by simp)
/-- stagepost/stagepostlaw30.CoordNames -/
noncomputable def g3 : Fun := denFS ty (gam J0 [(5, g5), (6, g6), (7, g7), (8, g8), (9, g9), (10, g10), (11, g11), (12, g12)]) Tryz.f3
theorem g3_ok : FunOk Tryz.prog 3 g3 := fun_okS ty_ok mixed (gam_ok (J := J0) (tab_cons g5_ok (tab_cons g6_ok (tab_cons g7_ok (tab_cons g8_ok (tab_cons g9_ok (tab_cons g10_ok (tab_cons g11_ok (tab_cons g12_ok (tab_nil fls_fun)))))))))) Tryz.func3 (fun args w => by simp)
end Go.Proofs.YtgpndbkghmbacaaGreatDoor
