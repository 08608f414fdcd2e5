/- Functions as they are reckoned. MADE BY PROGRAM (wip/tools/shal.py). -/
import Derived.Test.YtfbdniomnnpemaaGreatDoorAmS3
namespace Go.Proofs.YtfbdniomnnpemaaGreatDoor
open Go Go.Am
set_option maxRecDepth 100000
set_option linter.all false
/-- slices.BinarySearchFunc[[]stagepost/api.Entry,stagepost/api.Entry,stagepost/api.Entry] -/
noncomputable def g145 : Fun := denF ty (gam J0 [(146, g146)]) Tryz.f145
theorem g145_ok : FunOk Tryz.prog 145 g145 := fun_ok ty_ok mixed (gam_ok (J := J0) (tab_cons g146_ok (tab_nil fls_fun))) Tryz.func145 (fun args w => by simp)
/-- stagepost/block.Find -/
noncomputable def g88 : Fun := denF ty (gam J0 [(145, g145), (146, g146)]) Tryz.f88
theorem g88_ok : FunOk Tryz.prog 88 g88 := fun_ok ty_ok mixed (gam_ok (J := J0) (tab_cons g145_ok (tab_cons g146_ok (tab_nil fls_fun)))) Tryz.func88 (fun args w => by simp)
/-- (*stagepost/sst.Table).Get -/
noncomputable def g30 : Fun := denF ty (gam J0 [(82, g82), (83, g83), (84, g84), (85, g85), (87, g87), (88, g88)]) Tryz.f30
theorem g30_ok : FunOk Tryz.prog 30 g30 := fun_ok ty_ok mixed (gam_ok (J := J0) (tab_cons g82_ok (tab_cons g83_ok (tab_cons g84_ok (tab_cons g85_ok (tab_cons g87_ok (tab_cons g88_ok (tab_nil fls_fun)))))))) Tryz.func30 (fun args w => by simp)
/-- (*stagepost/lsm.Store).Get -/
noncomputable def g6 : Fun := denF ty (gam J0 [(25, g25), (27, g27), (28, g28), (29, g29), (30, g30)]) Tryz.f6
theorem g6_ok : FunOk Tryz.prog 6 g6 := fun_ok ty_ok mixed (gam_ok (J := J0) (tab_cons g25_ok (tab_cons g27_ok (tab_cons g28_ok (tab_cons g29_ok (tab_cons g30_ok (tab_nil fls_fun))))))) Tryz.func6 (fun args w => by simp)
/-- slices.AppendSeq[[]stagepost/api.Entry,stagepost/api.Entry] -/
noncomputable def g89 : Fun := denF ty (gam J0 []) Tryz.f89
theorem g89_ok : FunOk Tryz.prog 89 g89 := fun_ok ty_ok mixed (gam_ok (J := J0) (tab_nil fls_fun)) Tryz.func89 (fun args w => by simp)
/-- slices.Collect[stagepost/api.Entry] -/
noncomputable def g31 : Fun := denF ty (gam J0 [(89, g89)]) Tryz.f31
theorem g31_ok : FunOk Tryz.prog 31 g31 := fun_ok ty_ok mixed (gam_ok (J := J0) (tab_cons g89_ok (tab_nil fls_fun))) Tryz.func31 (fun args w => by simp)
/-- (*stagepost/mem.Table).All$1 -/
noncomputable def g90 : Fun := denF ty (gam J0 [(78, g78)]) Tryz.f90
theorem g90_ok : FunOk Tryz.prog 90 g90 := fun_ok ty_ok mixed (gam_ok (J := J0) (tab_cons g78_ok (tab_nil fls_fun))) Tryz.func90 (fun args w => by simp)
/-- (*stagepost/mem.Table).All -/
noncomputable def g32 : Fun := denF ty (gam J0 [(90, g90)]) Tryz.f32
theorem g32_ok : FunOk Tryz.prog 32 g32 := fun_ok ty_ok mixed (gam_ok (J := J0) (tab_cons g90_ok (tab_nil fls_fun))) Tryz.func32 (fun args w => by simp)
/-- stagepost/lsm.meets -/
noncomputable def g33 : Fun := denF ty (gam J0 []) Tryz.f33
theorem g33_ok : FunOk Tryz.prog 33 g33 := fun_ok ty_ok mixed (gam_ok (J := J0) (tab_nil fls_fun)) Tryz.func33 (fun args w => by simp)
/-- stagepost/enc.In -/
noncomputable def g91 : Fun := denF ty (gam J0 []) Tryz.f91
theorem g91_ok : FunOk Tryz.prog 91 g91 := fun_ok ty_ok mixed (gam_ok (J := J0) (tab_nil fls_fun)) Tryz.func91 (fun args w => by simp)
/-- (*stagepost/sst.Table).Scan -/
noncomputable def g34 : Fun := denF ty (gam J0 [(82, g82), (87, g87), (91, g91)]) Tryz.f34
theorem g34_ok : FunOk Tryz.prog 34 g34 := fun_ok ty_ok mixed (gam_ok (J := J0) (tab_cons g82_ok (tab_cons g87_ok (tab_cons g91_ok (tab_nil fls_fun))))) Tryz.func34 (fun args w => by simp)
/-- slices.Clone[[][]stagepost/api.Entry,[]stagepost/api.Entry] -/
noncomputable def g93 : Fun := denF ty (gam J0 []) Tryz.f93
theorem g93_ok : FunOk Tryz.prog 93 g93 := fun_ok ty_ok mixed (gam_ok (J := J0) (tab_nil fls_fun)) Tryz.func93 (fun args w => by simp)
/-- stagepost/block.Merge -/
noncomputable def g35 : Fun := denF ty (gam J0 [(86, g86), (92, g92), (93, g93)]) Tryz.f35
theorem g35_ok : FunOk Tryz.prog 35 g35 := fun_ok ty_ok mixed (gam_ok (J := J0) (tab_cons g86_ok (tab_cons g92_ok (tab_cons g93_ok (tab_nil fls_fun))))) Tryz.func35 (fun args w => by simp)
/-- stagepost/block.Visible -/
noncomputable def g36 : Fun := denF ty (gam J0 [(91, g91)]) Tryz.f36
theorem g36_ok : FunOk Tryz.prog 36 g36 := fun_ok ty_ok mixed (gam_ok (J := J0) (tab_cons g91_ok (tab_nil fls_fun))) Tryz.func36 (fun args w => by simp)
/-- (*stagepost/lsm.Store).Scan -/
noncomputable def g7 : Fun := denF ty (gam J0 [(25, g25), (27, g27), (29, g29), (31, g31), (32, g32), (33, g33), (34, g34), (35, g35), (36, g36)]) Tryz.f7
theorem g7_ok : FunOk Tryz.prog 7 g7 := fun_ok ty_ok mixed (gam_ok (J := J0) (tab_cons g25_ok (tab_cons g27_ok (tab_cons g29_ok (tab_cons g31_ok (tab_cons g32_ok (tab_cons g33_ok (tab_cons g34_ok (tab_cons g35_ok (tab_cons g36_ok (tab_nil fls_fun))))))))))) Tryz.func7 (fun args w => by simp)
/-- (*stagepost/lsm.Store).Snapshot -/
noncomputable def g8 : Fun := denF ty (gam J0 [(23, g23), (37, g37)]) Tryz.f8
theorem g8_ok : FunOk Tryz.prog 8 g8 := fun_ok ty_ok mixed (gam_ok (J := J0) (tab_cons g23_ok (tab_cons g37_ok (tab_nil fls_fun)))) Tryz.func8 (fun args w => by simp)
/-- (*stagepost/lsm.Store).Release -/
noncomputable def g9 : Fun := denF ty (gam J0 [(23, g23)]) Tryz.f9
theorem g9_ok : FunOk Tryz.prog 9 g9 := fun_ok ty_ok mixed (gam_ok (J := J0) (tab_cons g23_ok (tab_nil fls_fun))) Tryz.func9 (fun args w => by simp)
/-- (*stagepost/mem.Table).Len -/
noncomputable def g38 : Fun := denF ty (gam J0 [(78, g78)]) Tryz.f38
theorem g38_ok : FunOk Tryz.prog 38 g38 := fun_ok ty_ok mixed (gam_ok (J := J0) (tab_cons g78_ok (tab_nil fls_fun))) Tryz.func38 (fun args w => by simp)
/-- (*stagepost/lsm.Store).Flush$1 -/
noncomputable def g39 : Fun := denF ty (gam J0 [(25, g25)]) Tryz.f39
theorem g39_ok : FunOk Tryz.prog 39 g39 := fun_ok ty_ok mixed (gam_ok (J := J0) (tab_cons g25_ok (tab_nil fls_fun))) Tryz.func39 (fun args w => by simp)
/-- (*stagepost/lsm.Store).cuts -/
noncomputable def g40 : Fun := denF ty (gam J0 []) Tryz.f40
theorem g40_ok : FunOk Tryz.prog 40 g40 := fun_ok ty_ok mixed (gam_ok (J := J0) (tab_nil fls_fun)) Tryz.func40 (fun args w => by simp)
/-- (*stagepost/lsm.Store).plan -/
noncomputable def g41 : Fun := denF ty (gam J0 [(29, g29)]) Tryz.f41
theorem g41_ok : FunOk Tryz.prog 41 g41 := fun_ok ty_ok mixed (gam_ok (J := J0) (tab_cons g29_ok (tab_nil fls_fun))) Tryz.func41 (fun args w => by simp)
end Go.Proofs.YtfbdniomnnpemaaGreatDoor
