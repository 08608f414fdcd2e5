/- Functions as they are reckoned. MADE BY PROGRAM (wip/tools/shal.py). -/
import Derived.Test.YtfbdniomnnpemaaGreatDoorAmH11
namespace Go.Proofs.YtfbdniomnnpemaaGreatDoor
open Go Go.Am
set_option maxRecDepth 100000
set_option linter.all false
/-- (*stagepost/lsm.Store).Seq -/
noncomputable def g12 : Fun := denFS ty (gam J0 [(23, g23), (37, g37)]) Tryz.f12
theorem g12_ok : FunOk Tryz.prog 12 g12 := fun_okS ty_ok mixed (gam_ok (J := J0) (tab_cons g23_ok (tab_cons g37_ok (tab_nil fls_fun)))) Tryz.func12 (fun args w => by simp)
/-- (*stagepost/lsm.Store).Due -/
noncomputable def g13 : Fun := denFS ty (gam J0 [(23, g23), (48, g48)]) Tryz.f13
theorem g13_ok : FunOk Tryz.prog 13 g13 := fun_okS ty_ok mixed (gam_ok (J := J0) (tab_cons g23_ok (tab_cons g48_ok (tab_nil fls_fun)))) Tryz.func13 (fun args w => by simp)
/-- (*stagepost/lsm.Store).Tables -/
noncomputable def g16 : Fun := denFS ty (gam J0 [(23, g23), (29, g29)]) Tryz.f16
theorem g16_ok : FunOk Tryz.prog 16 g16 := fun_okS ty_ok mixed (gam_ok (J := J0) (tab_cons g23_ok (tab_cons g29_ok (tab_nil fls_fun)))) Tryz.func16 (fun args w => by simp)
/-- (*stagepost/mem.Table).Add -/
noncomputable def g77 : Fun := denFS ty (gam J0 [(78, g78), (79, g79), (136, g136)]) Tryz.f77
theorem g77_ok : FunOk Tryz.prog 77 g77 := fun_okS ty_ok mixed (gam_ok (J := J0) (tab_cons g78_ok (tab_cons g79_ok (tab_cons g136_ok (tab_nil fls_fun))))) Tryz.func77 (fun args w => by simp)
/-- (*stagepost/lsm.Store).remember -/
noncomputable def g26 : Fun := denFS ty (gam J0 [(77, g77)]) Tryz.f26
theorem g26_ok : FunOk Tryz.prog 26 g26 := fun_okS ty_ok mixed (gam_ok (J := J0) (tab_cons g77_ok (tab_nil fls_fun))) Tryz.func26 (fun args w => by simp)
/-- stagepost/lsm.Check -/
noncomputable def g57 : Fun := denFS ty (gam J0 [(46, g46)]) Tryz.f57
theorem g57_ok : FunOk Tryz.prog 57 g57 := fun_okS ty_ok mixed (gam_ok (J := J0) (tab_cons g46_ok (tab_nil fls_fun))) Tryz.func57 (fun args w => by simp)
/-- stagepost/manifest.first -/
noncomputable def g169 : Fun := denFS ty (gam J0 []) Tryz.f169
theorem g169_ok : FunOk Tryz.prog 169 g169 := fun_okS ty_ok mixed (gam_ok (J := J0) (tab_nil fls_fun)) Tryz.func169 (fun args w => by simp)
/-- stagepost/manifest.number -/
noncomputable def g171 : Fun := denFS ty (gam J0 [(117, g117), (127, g127), (158, g158)]) Tryz.f171
theorem g171_ok : FunOk Tryz.prog 171 g171 := fun_okS ty_ok mixed (gam_ok (J := J0) (tab_cons g117_ok (tab_cons g127_ok (tab_cons g158_ok (tab_nil fls_fun))))) Tryz.func171 (fun args w => by simp)
/-- stagepost/frame.Scan -/
noncomputable def g172 : Fun := denFS ty (gam J0 [(170, g170)]) Tryz.f172
theorem g172_ok : FunOk Tryz.prog 172 g172 := fun_okS ty_ok mixed (gam_ok (J := J0) (tab_cons g170_ok (tab_nil fls_fun))) Tryz.func172 (fun args w => by simp)
/-- (*stagepost/manifest.reader).small -/
noncomputable def g213 : Fun := denFS ty (gam J0 [(193, g193)]) Tryz.f213
theorem g213_ok : FunOk Tryz.prog 213 g213 := fun_okS ty_ok mixed (gam_ok (J := J0) (tab_cons g193_ok (tab_nil fls_fun))) Tryz.func213 (fun args w => by simp)
/-- (*stagepost/manifest.reader).word -/
noncomputable def g214 : Fun := denFS ty (gam J0 [(213, g213)]) Tryz.f214
theorem g214_ok : FunOk Tryz.prog 214 g214 := fun_okS ty_ok mixed (gam_ok (J := J0) (tab_cons g213_ok (tab_nil fls_fun))) Tryz.func214 (fun args w => by simp)
/-- stagepost/manifest.Decode -/
noncomputable def g173 : Fun := denFS ty (gam J0 [(108, g108), (213, g213), (214, g214)]) Tryz.f173
theorem g173_ok : FunOk Tryz.prog 173 g173 := fun_okS ty_ok mixed (gam_ok (J := J0) (tab_cons g108_ok (tab_cons g213_ok (tab_cons g214_ok (tab_nil fls_fun))))) Tryz.func173 (fun args w => by simp)
/-- stagepost/manifest.known -/
noncomputable def g107 : Fun := denFS ty (gam J0 [(56, g56), (117, g117), (155, g155), (169, g169), (170, g170), (171, g171), (172, g172), (173, g173)]) Tryz.f107
theorem g107_ok : FunOk Tryz.prog 107 g107 := fun_okS ty_ok mixed (gam_ok (J := J0) (tab_cons g56_ok (tab_cons g117_ok (tab_cons g155_ok (tab_cons g169_ok (tab_cons g170_ok (tab_cons g171_ok (tab_cons g172_ok (tab_cons g173_ok (tab_nil fls_fun)))))))))) Tryz.func107 (fun args w => by simp)
/-- stagepost/manifest.From -/
noncomputable def g109 : Fun := denFS ty (gam J0 [(81, g81)]) Tryz.f109
theorem g109_ok : FunOk Tryz.prog 109 g109 := fun_okS ty_ok mixed (gam_ok (J := J0) (tab_cons g81_ok (tab_nil fls_fun))) Tryz.func109 (fun args w => by simp)
/-- stagepost/manifest.Open -/
noncomputable def g58 : Fun := denFS ty (gam J0 [(54, g54), (56, g56), (72, g72), (98, g98), (107, g107), (108, g108), (109, g109), (110, g110), (111, g111), (112, g112), (114, g114), (115, g115), (117, g117)]) Tryz.f58
theorem g58_ok : FunOk Tryz.prog 58 g58 := fun_okS ty_ok mixed (gam_ok (J := J0) (tab_cons g54_ok (tab_cons g56_ok (tab_cons g72_ok (tab_cons g98_ok (tab_cons g107_ok (tab_cons g108_ok (tab_cons g109_ok (tab_cons g110_ok (tab_cons g111_ok (tab_cons g112_ok (tab_cons g114_ok (tab_cons g115_ok (tab_cons g117_ok (tab_nil fls_fun))))))))))))))) Tryz.func58 (fun args w => by simp)
/-- slices.Clone[[]int,int] -/
noncomputable def g59 : Fun := denFS ty (gam J0 []) Tryz.f59
theorem g59_ok : FunOk Tryz.prog 59 g59 := fun_okS ty_ok mixed (gam_ok (J := J0) (tab_nil fls_fun)) Tryz.func59 (fun args w => by simp)
/-- (*stagepost/sst.Table).Len -/
noncomputable def g118 : Fun := denFS ty (gam J0 [(82, g82)]) Tryz.f118
theorem g118_ok : FunOk Tryz.prog 118 g118 := fun_okS ty_ok mixed (gam_ok (J := J0) (tab_cons g82_ok (tab_nil fls_fun))) Tryz.func118 (fun args w => by simp)
/-- (*stagepost/sst.Table).Last -/
noncomputable def g119 : Fun := denFS ty (gam J0 [(82, g82)]) Tryz.f119
theorem g119_ok : FunOk Tryz.prog 119 g119 := fun_okS ty_ok mixed (gam_ok (J := J0) (tab_cons g82_ok (tab_nil fls_fun))) Tryz.func119 (fun args w => by simp)
/-- stagepost/lsm.table -/
noncomputable def g60 : Fun := denFS ty (gam J0 [(55, g55), (56, g56), (97, g97), (118, g118), (119, g119)]) Tryz.f60
theorem g60_ok : FunOk Tryz.prog 60 g60 := fun_okS ty_ok mixed (gam_ok (J := J0) (tab_cons g55_ok (tab_cons g56_ok (tab_cons g97_ok (tab_cons g118_ok (tab_cons g119_ok (tab_nil fls_fun))))))) Tryz.func60 (fun args w => by simp)
/-- stagepost/wal.held -/
noncomputable def g121 : Fun := denFS ty (gam J0 [(56, g56), (73, g73)]) Tryz.f121
theorem g121_ok : FunOk Tryz.prog 121 g121 := fun_okS ty_ok mixed (gam_ok (J := J0) (tab_cons g56_ok (tab_cons g73_ok (tab_nil fls_fun)))) Tryz.func121 (fun args w => by simp)
/-- stagepost/wal.segment -/
noncomputable def g122 : Fun := denFS ty (gam J0 [(56, g56), (73, g73), (172, g172)]) Tryz.f122
theorem g122_ok : FunOk Tryz.prog 122 g122 := fun_okS ty_ok mixed (gam_ok (J := J0) (tab_cons g56_ok (tab_cons g73_ok (tab_cons g172_ok (tab_nil fls_fun))))) Tryz.func122 (fun args w => by simp)
end Go.Proofs.YtfbdniomnnpemaaGreatDoor
