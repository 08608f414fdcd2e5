/- Functions as they are reckoned. MADE BY PROGRAM (wip/tools/shal.py). -/
import Derived.Test.YtcifllconkchmaaGreatDoorAmS10
namespace Go.Proofs.YtcifllconkchmaaGreatDoor
open Go Go.Am
set_option maxRecDepth 100000
set_option linter.all false
/-- (*stagepost/server.Server).Now$1 -/
noncomputable def g35 : Fun := denFS ty (gam J0 [(29, g29), (31, g31)]) Tryz.f35
theorem g35_ok : FunOk Tryz.prog 35 g35 := fun_okS ty_ok mixed (gam_ok (J := J0) (tab_cons g29_ok (tab_cons g31_ok (tab_nil fls_fun)))) Tryz.func35 (fun args w => by simp)
/-- (*stagepost/server.Server).Cells$1 -/
noncomputable def g36 : Fun := denFS ty (gam J0 [(37, g37)]) Tryz.f36
theorem g36_ok : FunOk Tryz.prog 36 g36 := fun_okS ty_ok mixed (gam_ok (J := J0) (tab_cons g37_ok (tab_nil fls_fun))) Tryz.func36 (fun args w => by simp)
/-- (*stagepost/server.Server).Intents$1 -/
noncomputable def g38 : Fun := denFS ty (gam J0 [(39, g39)]) Tryz.f38
theorem g38_ok : FunOk Tryz.prog 38 g38 := fun_okS ty_ok mixed (gam_ok (J := J0) (tab_cons g39_ok (tab_nil fls_fun))) Tryz.func38 (fun args w => by simp)
/-- (*stagepost/server.Server).Records$1 -/
noncomputable def g40 : Fun := denFS ty (gam J0 []) Tryz.f40
theorem g40_ok : FunOk Tryz.prog 40 g40 := fun_okS ty_ok mixed (gam_ok (J := J0) (tab_nil fls_fun)) Tryz.func40 (fun args w => by simp)
/-- (*stagepost/server.Server).Hear$1 -/
noncomputable def g42 : Fun := denFS ty (gam J0 [(43, g43)]) Tryz.f42
theorem g42_ok : FunOk Tryz.prog 42 g42 := fun_okS ty_ok mixed (gam_ok (J := J0) (tab_cons g43_ok (tab_nil fls_fun))) Tryz.func42 (fun args w => by simp)
/-- (*stagepost/server.Server).Flush$1 -/
noncomputable def g44 : Fun := denFS ty (gam J0 []) Tryz.f44
theorem g44_ok : FunOk Tryz.prog 44 g44 := fun_okS ty_ok mixed (gam_ok (J := J0) (tab_nil fls_fun)) Tryz.func44 (fun args w => by simp)
/-- (*stagepost/server.Server).Compact$1 -/
noncomputable def g46 : Fun := denFS ty (gam J0 []) Tryz.f46
theorem g46_ok : FunOk Tryz.prog 46 g46 := fun_okS ty_ok mixed (gam_ok (J := J0) (tab_nil fls_fun)) Tryz.func46 (fun args w => by simp)
/-- (*stagepost/server.Server).Collect$1 -/
noncomputable def g48 : Fun := denFS ty (gam J0 [(34, g34), (37, g37), (49, g49), (50, g50), (51, g51), (52, g52), (54, g54)]) Tryz.f48
theorem g48_ok : FunOk Tryz.prog 48 g48 := fun_okS ty_ok mixed (gam_ok (J := J0) (tab_cons g34_ok (tab_cons g37_ok (tab_cons g49_ok (tab_cons g50_ok (tab_cons g51_ok (tab_cons g52_ok (tab_cons g54_ok (tab_nil fls_fun))))))))) Tryz.func48 (fun args w => by simp)
/-- (*stagepost/server.Server).do$1 -/
noncomputable def g62 : Fun := denFS ty (gam J0 [(63, g63)]) Tryz.f62
theorem g62_ok : FunOk Tryz.prog 62 g62 := fun_okS ty_ok mixed (gam_ok (J := J0) (tab_cons g63_ok (tab_nil fls_fun))) Tryz.func62 (fun args w => by simp)
/-- (*stagepost/vfs.FS).Rename -/
noncomputable def g224 : Fun := denFS ty (gam J0 [(200, g200), (201, g201), (232, g232)]) Tryz.f224
theorem g224_ok : FunOk Tryz.prog 224 g224 := fun_okS ty_ok mixed (gam_ok (J := J0) (tab_cons g200_ok (tab_cons g201_ok (tab_cons g232_ok (tab_nil fls_fun))))) Tryz.func224 (fun args w => by simp)
/-- stagepost/manifest.Open$3 -/
noncomputable def g223 : Fun := denFS ty (gam J0 [(224, g224)]) Tryz.f223
theorem g223_ok : FunOk Tryz.prog 223 g223 := fun_okS ty_ok mixed (gam_ok (J := J0) (tab_cons g224_ok (tab_nil fls_fun))) Tryz.func223 (fun args w => by simp)
/-- (*stagepost/vfs.FS).Create -/
noncomputable def g186 : Fun := denFS ty (gam J0 [(201, g201), (213, g213), (232, g232)]) Tryz.f186
theorem g186_ok : FunOk Tryz.prog 186 g186 := fun_okS ty_ok mixed (gam_ok (J := J0) (tab_cons g201_ok (tab_cons g213_ok (tab_cons g232_ok (tab_nil fls_fun))))) Tryz.func186 (fun args w => by simp)
/-- stagepost/manifest.fresh$1 -/
noncomputable def g324 : Fun := denFS ty (gam J0 [(186, g186)]) Tryz.f324
theorem g324_ok : FunOk Tryz.prog 324 g324 := fun_okS ty_ok mixed (gam_ok (J := J0) (tab_cons g186_ok (tab_nil fls_fun))) Tryz.func324 (fun args w => by simp)
/-- stagepost/manifest.fresh$2 -/
noncomputable def g325 : Fun := denFS ty (gam J0 [(187, g187)]) Tryz.f325
theorem g325_ok : FunOk Tryz.prog 325 g325 := fun_okS ty_ok mixed (gam_ok (J := J0) (tab_cons g187_ok (tab_nil fls_fun))) Tryz.func325 (fun args w => by simp)
/-- stagepost/manifest.fresh$3 -/
noncomputable def g326 : Fun := denFS ty (gam J0 [(188, g188)]) Tryz.f326
theorem g326_ok : FunOk Tryz.prog 326 g326 := fun_okS ty_ok mixed (gam_ok (J := J0) (tab_cons g188_ok (tab_nil fls_fun))) Tryz.func326 (fun args w => by simp)
/-- stagepost/manifest.steps -/
noncomputable def g219 : Fun := denFS ty (gam J0 [(27, g27), (32, g32), (35, g35), (36, g36), (38, g38), (40, g40), (42, g42), (44, g44), (46, g46), (48, g48), (62, g62), (190, g190), (223, g223), (324, g324), (325, g325), (326, g326)]) Tryz.f219
theorem g219_ok : FunOk Tryz.prog 219 g219 := fun_okS ty_ok mixed (gam_ok (J := J0) (tab_cons g27_ok (tab_cons g32_ok (tab_cons g35_ok (tab_cons g36_ok (tab_cons g38_ok (tab_cons g40_ok (tab_cons g42_ok (tab_cons g44_ok (tab_cons g46_ok (tab_cons g48_ok (tab_cons g62_ok (tab_cons g190_ok (tab_cons g223_ok (tab_cons g324_ok (tab_cons g325_ok (tab_cons g326_ok (tab_nil fls_fun)))))))))))))))))) Tryz.func219 (fun args w => by simp)
/-- stagepost/manifest.fresh -/
noncomputable def g221 : Fun := denFS ty (gam J0 [(130, g130), (219, g219), (324, g324), (325, g325), (326, g326)]) Tryz.f221
theorem g221_ok : FunOk Tryz.prog 221 g221 := fun_okS ty_ok mixed (gam_ok (J := J0) (tab_cons g130_ok (tab_cons g219_ok (tab_cons g324_ok (tab_cons g325_ok (tab_cons g326_ok (tab_nil fls_fun))))))) Tryz.func221 (fun args w => by simp)
/-- stagepost/manifest.Open$1 -/
noncomputable def g220 : Fun := denFS ty (gam J0 [(218, g218), (221, g221)]) Tryz.f220
theorem g220_ok : FunOk Tryz.prog 220 g220 := fun_okS ty_ok mixed (gam_ok (J := J0) (tab_cons g218_ok (tab_cons g221_ok (tab_nil fls_fun)))) Tryz.func220 (fun args w => by simp)
/-- stagepost/manifest.Open$2 -/
noncomputable def g222 : Fun := denFS ty (gam J0 [(221, g221)]) Tryz.f222
theorem g222_ok : FunOk Tryz.prog 222 g222 := fun_okS ty_ok mixed (gam_ok (J := J0) (tab_cons g221_ok (tab_nil fls_fun))) Tryz.func222 (fun args w => by simp)
/-- stagepost/manifest.steps -/
noncomputable def g219b : Fun := denFS ty (gam J0 [(27, g27), (32, g32), (35, g35), (36, g36), (38, g38), (40, g40), (42, g42), (44, g44), (46, g46), (48, g48), (62, g62), (190, g190), (220, g220), (222, g222), (223, g223), (324, g324), (325, g325), (326, g326)]) Tryz.f219
theorem g219b_ok : FunOk Tryz.prog 219 g219b := fun_okS ty_ok mixed (gam_ok (J := J0) (tab_cons g27_ok (tab_cons g32_ok (tab_cons g35_ok (tab_cons g36_ok (tab_cons g38_ok (tab_cons g40_ok (tab_cons g42_ok (tab_cons g44_ok (tab_cons g46_ok (tab_cons g48_ok (tab_cons g62_ok (tab_cons g190_ok (tab_cons g220_ok (tab_cons g222_ok (tab_cons g223_ok (tab_cons g324_ok (tab_cons g325_ok (tab_cons g326_ok (tab_nil fls_fun)))))))))))))))))))) Tryz.func219 (fun args w => by simp)
/-- stagepost/manifest.Open -/
noncomputable def g131 : Fun := denFS ty (gam J0 [(130, g130), (190, g190), (214, g214), (215, g215), (216, g216), (217, g217), (218, g218), (219, g219b), (220, g220), (222, g222), (223, g223), (225, g225)]) Tryz.f131
theorem g131_ok : FunOk Tryz.prog 131 g131 := fun_okS ty_ok mixed (gam_ok (J := J0) (tab_cons g130_ok (tab_cons g190_ok (tab_cons g214_ok (tab_cons g215_ok (tab_cons g216_ok (tab_cons g217_ok (tab_cons g218_ok (tab_cons g219b_ok (tab_cons g220_ok (tab_cons g222_ok (tab_cons g223_ok (tab_cons g225_ok (tab_nil fls_fun)))))))))))))) Tryz.func131 (fun args w => by simp)
end Go.Proofs.YtcifllconkchmaaGreatDoor
