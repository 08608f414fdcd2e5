/- Functions as they are reckoned. MADE BY PROGRAM (wip/tools/shal.py). -/
import Derived.Test.YtcifllconkchmaaGreatDoorAmS13
namespace Go.Proofs.YtcifllconkchmaaGreatDoor
open Go Go.Am
set_option maxRecDepth 100000
set_option linter.all false
/-- stagepost/stagepostlaw28.fresh -/
noncomputable def g5 : Fun := denFS ty (gam J0 [(23, g23), (24, g24), (25, g25)]) Tryz.f5
theorem g5_ok : FunOk Tryz.prog 5 g5 := fun_okS ty_ok mixed (gam_ok (J := J0) (tab_cons g23_ok (tab_cons g24_ok (tab_cons g25_ok (tab_nil fls_fun))))) Tryz.func5 (fun args w => by simp)
noncomputable def gd62 : Fun := denD ty (gam J0 [(63, g63)]) Tryz.f62
theorem gd62_ok : DFunOk Tryz.prog 62 gd62 := dfun_ok ty_ok mixed (gam_ok (J := J0) (tab_cons g63_ok (tab_nil fls_fun))) Tryz.func62 (fun args w => by simp)
/-- (*stagepost/server.Server).do -/
noncomputable def g26 : Fun := denFS ty (gamD J0 [(27, g27), (32, g32), (35, g35), (36, g36), (38, g38), (40, g40), (42, g42), (44, g44), (46, g46), (48, g48), (62, g62), (63, g63), (190, g190), (220, g220), (222, g222), (223, g223), (324, g324), (325, g325), (326, g326)] [] [(62, gd62)] noCode) Tryz.f26
theorem g26_ok : FunOk Tryz.prog 26 g26 := fun_okS ty_ok mixed (gamD_ok (J := J0) (tab_cons g27_ok (tab_cons g32_ok (tab_cons g35_ok (tab_cons g36_ok (tab_cons g38_ok (tab_cons g40_ok (tab_cons g42_ok (tab_cons g44_ok (tab_cons g46_ok (tab_cons g48_ok (tab_cons g62_ok (tab_cons g63_ok (tab_cons g190_ok (tab_cons g220_ok (tab_cons g222_ok (tab_cons g223_ok (tab_cons g324_ok (tab_cons g325_ok (tab_cons g326_ok (tab_nil fls_fun)))))))))))))))))))) (tab_nil fls_it) (tab_cons gd62_ok (tab_nil fls_dfn)) noCode_ok) Tryz.func26 (fun args w => by simp)
/-- (*stagepost/server.Server).Begin -/
noncomputable def g7 : Fun := denFS ty (gam J0 [(26, g26), (27, g27)]) Tryz.f7
theorem g7_ok : FunOk Tryz.prog 7 g7 := fun_okS ty_ok mixed (gam_ok (J := J0) (tab_cons g26_ok (tab_cons g27_ok (tab_nil fls_fun)))) Tryz.func7 (fun args w => by simp)
/-- stagepost/stagepostlaw28.st -/
noncomputable def g9 : Fun := denFS ty (gam J0 []) Tryz.f9
theorem g9_ok : FunOk Tryz.prog 9 g9 := fun_okS ty_ok mixed (gam_ok (J := J0) (tab_nil fls_fun)) Tryz.func9 (fun args w => by simp)
/-- (*stagepost/server.Server).Serve -/
noncomputable def g11 : Fun := denFS ty (gam J0 [(26, g26), (32, g32)]) Tryz.f11
theorem g11_ok : FunOk Tryz.prog 11 g11 := fun_okS ty_ok mixed (gam_ok (J := J0) (tab_cons g26_ok (tab_cons g32_ok (tab_nil fls_fun)))) Tryz.func11 (fun args w => by simp)
/-- stagepost/stagepostlaw28.asked -/
noncomputable def g8 : Fun := denFS ty (gam J0 [(9, g9), (11, g11)]) Tryz.f8
theorem g8_ok : FunOk Tryz.prog 8 g8 := fun_okS ty_ok mixed (gam_ok (J := J0) (tab_cons g9_ok (tab_cons g11_ok (tab_nil fls_fun)))) Tryz.func8 (fun args w => by simp)
/-- (*stagepost/server.Server).Bound -/
noncomputable def g21 : Fun := denFS ty (gam J0 []) Tryz.f21
theorem g21_ok : FunOk Tryz.prog 21 g21 := fun_okS ty_ok mixed (gam_ok (J := J0) (tab_nil fls_fun)) Tryz.func21 (fun args w => by simp)
/-- stagepost/stagepostlaw28.lives -/
noncomputable def g6 : Fun := denFS ty (gam J0 [(5, g5), (7, g7), (8, g8), (9, g9), (21, g21)]) Tryz.f6
theorem g6_ok : FunOk Tryz.prog 6 g6 := fun_okS ty_ok mixed (gam_ok (J := J0) (tab_cons g5_ok (tab_cons g7_ok (tab_cons g8_ok (tab_cons g9_ok (tab_cons g21_ok (tab_nil fls_fun))))))) Tryz.func6 (fun args w => by simp)
/-- (*stagepost/server.Server).Now -/
noncomputable def g12 : Fun := denFS ty (gam J0 [(26, g26), (35, g35)]) Tryz.f12
theorem g12_ok : FunOk Tryz.prog 12 g12 := fun_okS ty_ok mixed (gam_ok (J := J0) (tab_cons g26_ok (tab_cons g35_ok (tab_nil fls_fun)))) Tryz.func12 (fun args w => by simp)
/-- (*stagepost/server.Server).Cells -/
noncomputable def g13 : Fun := denFS ty (gam J0 [(26, g26), (36, g36)]) Tryz.f13
theorem g13_ok : FunOk Tryz.prog 13 g13 := fun_okS ty_ok mixed (gam_ok (J := J0) (tab_cons g26_ok (tab_cons g36_ok (tab_nil fls_fun)))) Tryz.func13 (fun args w => by simp)
/-- (*stagepost/server.Server).Intents -/
noncomputable def g14 : Fun := denFS ty (gam J0 [(26, g26), (38, g38)]) Tryz.f14
theorem g14_ok : FunOk Tryz.prog 14 g14 := fun_okS ty_ok mixed (gam_ok (J := J0) (tab_cons g26_ok (tab_cons g38_ok (tab_nil fls_fun)))) Tryz.func14 (fun args w => by simp)
/-- (*stagepost/server.Server).Records -/
noncomputable def g15 : Fun := denFS ty (gam J0 [(26, g26), (40, g40)]) Tryz.f15
theorem g15_ok : FunOk Tryz.prog 15 g15 := fun_okS ty_ok mixed (gam_ok (J := J0) (tab_cons g26_ok (tab_cons g40_ok (tab_nil fls_fun)))) Tryz.func15 (fun args w => by simp)
/-- (*stagepost/server.Server).Hear -/
noncomputable def g16 : Fun := denFS ty (gam J0 [(26, g26), (42, g42)]) Tryz.f16
theorem g16_ok : FunOk Tryz.prog 16 g16 := fun_okS ty_ok mixed (gam_ok (J := J0) (tab_cons g26_ok (tab_cons g42_ok (tab_nil fls_fun)))) Tryz.func16 (fun args w => by simp)
/-- (*stagepost/server.Server).Flush -/
noncomputable def g17 : Fun := denFS ty (gam J0 [(26, g26), (44, g44)]) Tryz.f17
theorem g17_ok : FunOk Tryz.prog 17 g17 := fun_okS ty_ok mixed (gam_ok (J := J0) (tab_cons g26_ok (tab_cons g44_ok (tab_nil fls_fun)))) Tryz.func17 (fun args w => by simp)
/-- (*stagepost/server.Server).Compact -/
noncomputable def g18 : Fun := denFS ty (gam J0 [(26, g26), (46, g46)]) Tryz.f18
theorem g18_ok : FunOk Tryz.prog 18 g18 := fun_okS ty_ok mixed (gam_ok (J := J0) (tab_cons g26_ok (tab_cons g46_ok (tab_nil fls_fun)))) Tryz.func18 (fun args w => by simp)
/-- (*stagepost/server.Server).Collect -/
noncomputable def g19 : Fun := denFS ty (gam J0 [(26, g26), (48, g48)]) Tryz.f19
theorem g19_ok : FunOk Tryz.prog 19 g19 := fun_okS ty_ok mixed (gam_ok (J := J0) (tab_cons g26_ok (tab_cons g48_ok (tab_nil fls_fun)))) Tryz.func19 (fun args w => by simp)
/-- (*stagepost/server.Server).Up -/
noncomputable def g20 : Fun := denFS ty (gam J0 []) Tryz.f20
theorem g20_ok : FunOk Tryz.prog 20 g20 := fun_okS ty_ok mixed (gam_ok (J := J0) (tab_nil fls_fun)) Tryz.func20 (fun args w => by simp)
/-- (*stagepost/server.Server).Mark -/
noncomputable def g22 : Fun := denFS ty (gam J0 [(20, g20), (55, g55)]) Tryz.f22
theorem g22_ok : FunOk Tryz.prog 22 g22 := fun_okS ty_ok mixed (gam_ok (J := J0) (tab_cons g20_ok (tab_cons g55_ok (tab_nil fls_fun)))) Tryz.func22 (fun args w => by simp)
/-- stagepost/stagepostlaw28.ServerNil -/
noncomputable def g4 : Fun := denFS ty (gam J0 [(6, g6), (7, g7), (11, g11), (12, g12), (13, g13), (14, g14), (15, g15), (16, g16), (17, g17), (18, g18), (19, g19), (20, g20), (21, g21), (22, g22), (23, g23), (24, g24)]) Tryz.f4
theorem g4_ok : FunOk Tryz.prog 4 g4 := fun_okS ty_ok mixed (gam_ok (J := J0) (tab_cons g6_ok (tab_cons g7_ok (tab_cons g11_ok (tab_cons g12_ok (tab_cons g13_ok (tab_cons g14_ok (tab_cons g15_ok (tab_cons g16_ok (tab_cons g17_ok (tab_cons g18_ok (tab_cons g19_ok (tab_cons g20_ok (tab_cons g21_ok (tab_cons g22_ok (tab_cons g23_ok (tab_cons g24_ok (tab_nil fls_fun)))))))))))))))))) Tryz.func4 (fun args w => by simp)
/-- stagepost/stagepostkit.SameRows -/
noncomputable def g10 : Fun := denFS ty (gam J0 []) Tryz.f10
theorem g10_ok : FunOk Tryz.prog 10 g10 := fun_okS ty_ok mixed (gam_ok (J := J0) (tab_nil fls_fun)) Tryz.func10 (fun args w => by simp)
/-- stagepost/stagepostlaw28.ServerNames -/
noncomputable def g3 : Fun := denFS ty (gam J0 [(5, g5), (6, g6), (7, g7), (8, g8), (9, g9), (10, g10)]) Tryz.f3
theorem g3_ok : FunOk Tryz.prog 3 g3 := fun_okS ty_ok mixed (gam_ok (J := J0) (tab_cons g5_ok (tab_cons g6_ok (tab_cons g7_ok (tab_cons g8_ok (tab_cons g9_ok (tab_cons g10_ok (tab_nil fls_fun)))))))) Tryz.func3 (fun args w => by simp)
end Go.Proofs.YtcifllconkchmaaGreatDoor
