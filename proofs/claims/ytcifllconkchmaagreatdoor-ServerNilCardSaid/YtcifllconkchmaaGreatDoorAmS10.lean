/- Functions as they are reckoned. MADE BY PROGRAM (wip/tools/shal.py). -/
import Derived.Test.YtcifllconkchmaaGreatDoorAmS9
namespace Go.Proofs.YtcifllconkchmaaGreatDoor
open Go Go.Am
set_option maxRecDepth 100000
set_option linter.all false
/-- stagepost/mvcc.Record -/
noncomputable def g86 : Fun := denFS ty (gam J0 [(170, g170), (173, g173), (174, g174), (176, g176), (177, g177), (178, g178)]) Tryz.f86
theorem g86_ok : FunOk Tryz.prog 86 g86 := fun_okS ty_ok mixed (gam_ok (J := J0) (tab_cons g170_ok (tab_cons g173_ok (tab_cons g174_ok (tab_cons g176_ok (tab_cons g177_ok (tab_cons g178_ok (tab_nil fls_fun)))))))) Tryz.func86 (fun args w => by simp)
/-- (*stagepost/mem.Table).Get -/
noncomputable def g238 : Fun := denFS ty (gam J0 [(180, g180), (328, g328)]) Tryz.f238
theorem g238_ok : FunOk Tryz.prog 238 g238 := fun_okS ty_ok mixed (gam_ok (J := J0) (tab_cons g180_ok (tab_cons g328_ok (tab_nil fls_fun)))) Tryz.func238 (fun args w => by simp)
/-- (*stagepost/lsm.Store).Get -/
noncomputable def g138 : Fun := denFS ty (gam J0 [(106, g106), (237, g237), (238, g238)]) Tryz.f138
theorem g138_ok : FunOk Tryz.prog 138 g138 := fun_okS ty_ok mixed (gam_ok (J := J0) (tab_cons g106_ok (tab_cons g237_ok (tab_cons g238_ok (tab_nil fls_fun))))) Tryz.func138 (fun args w => by simp)
/-- stagepost/mvcc.Find -/
noncomputable def g153 : Fun := denFS ty (gam J0 [(63, g63), (86, g86), (138, g138), (139, g139), (262, g262), (263, g263)]) Tryz.f153
theorem g153_ok : FunOk Tryz.prog 153 g153 := fun_okS ty_ok mixed (gam_ok (J := J0) (tab_cons g63_ok (tab_cons g86_ok (tab_cons g138_ok (tab_cons g139_ok (tab_cons g262_ok (tab_cons g263_ok (tab_nil fls_fun)))))))) Tryz.func153 (fun args w => by simp)
/-- stagepost/record.Fresh -/
noncomputable def g154 : Fun := denFS ty (gam J0 [(247, g247)]) Tryz.f154
theorem g154_ok : FunOk Tryz.prog 154 g154 := fun_okS ty_ok mixed (gam_ok (J := J0) (tab_cons g247_ok (tab_nil fls_fun))) Tryz.func154 (fun args w => by simp)
/-- slices.Clone[[]string,string] -/
noncomputable def g344 : Fun := denFS ty (gam J0 []) Tryz.f344
theorem g344_ok : FunOk Tryz.prog 344 g344 := fun_okS ty_ok mixed (gam_ok (J := J0) (tab_nil fls_fun)) Tryz.func344 (fun args w => by simp)
/-- stagepost/record.ended -/
noncomputable def g264 : Fun := denFS ty (gam J0 [(344, g344)]) Tryz.f264
theorem g264_ok : FunOk Tryz.prog 264 g264 := fun_okS ty_ok mixed (gam_ok (J := J0) (tab_cons g344_ok (tab_nil fls_fun))) Tryz.func264 (fun args w => by simp)
/-- stagepost/record.both -/
noncomputable def g265 : Fun := denFS ty (gam J0 [(247, g247)]) Tryz.f265
theorem g265_ok : FunOk Tryz.prog 265 g265 := fun_okS ty_ok mixed (gam_ok (J := J0) (tab_cons g247_ok (tab_nil fls_fun))) Tryz.func265 (fun args w => by simp)
/-- slices.Equal[[]string,string] -/
noncomputable def g267 : Fun := denFS ty (gam J0 []) Tryz.f267
theorem g267_ok : FunOk Tryz.prog 267 g267 := fun_okS ty_ok mixed (gam_ok (J := J0) (tab_nil fls_fun)) Tryz.func267 (fun args w => by simp)
/-- stagepost/record.pushed -/
noncomputable def g268 : Fun := denFS ty (gam J0 [(50, g50)]) Tryz.f268
theorem g268_ok : FunOk Tryz.prog 268 g268 := fun_okS ty_ok mixed (gam_ok (J := J0) (tab_cons g50_ok (tab_nil fls_fun))) Tryz.func268 (fun args w => by simp)
/-- stagepost/record.Stage -/
noncomputable def g155 : Fun := denFS ty (gam J0 [(264, g264), (265, g265), (267, g267), (268, g268)]) Tryz.f155
theorem g155_ok : FunOk Tryz.prog 155 g155 := fun_okS ty_ok mixed (gam_ok (J := J0) (tab_cons g264_ok (tab_cons g265_ok (tab_cons g267_ok (tab_cons g268_ok (tab_nil fls_fun)))))) Tryz.func155 (fun args w => by simp)
/-- stagepost/record.Commit -/
noncomputable def g156 : Fun := denFS ty (gam J0 [(50, g50), (264, g264), (265, g265), (267, g267), (268, g268)]) Tryz.f156
theorem g156_ok : FunOk Tryz.prog 156 g156 := fun_okS ty_ok mixed (gam_ok (J := J0) (tab_cons g50_ok (tab_cons g264_ok (tab_cons g265_ok (tab_cons g267_ok (tab_cons g268_ok (tab_nil fls_fun))))))) Tryz.func156 (fun args w => by simp)
/-- (*stagepost/server.Server).write -/
noncomputable def g159 : Fun := denFS ty (gam J0 [(52, g52), (178, g178)]) Tryz.f159
theorem g159_ok : FunOk Tryz.prog 159 g159 := fun_okS ty_ok mixed (gam_ok (J := J0) (tab_cons g52_ok (tab_cons g178_ok (tab_nil fls_fun)))) Tryz.func159 (fun args w => by simp)
/-- (*stagepost/server.Server).own -/
noncomputable def g73 : Fun := denFS ty (gam J0 [(153, g153), (154, g154), (155, g155), (156, g156), (159, g159)]) Tryz.f73
theorem g73_ok : FunOk Tryz.prog 73 g73 := fun_okS ty_ok mixed (gam_ok (J := J0) (tab_cons g153_ok (tab_cons g154_ok (tab_cons g155_ok (tab_cons g156_ok (tab_cons g159_ok (tab_nil fls_fun))))))) Tryz.func73 (fun args w => by simp)
/-- (*stagepost/server.Server).query -/
noncomputable def g75 : Fun := denFS ty (gam J0 [(50, g50), (146, g146), (148, g148), (150, g150)]) Tryz.f75
theorem g75_ok : FunOk Tryz.prog 75 g75 := fun_okS ty_ok mixed (gam_ok (J := J0) (tab_cons g50_ok (tab_cons g146_ok (tab_cons g148_ok (tab_cons g150_ok (tab_nil fls_fun)))))) Tryz.func75 (fun args w => by simp)
/-- stagepost/intent.has -/
noncomputable def g273 : Fun := denFS ty (gam J0 []) Tryz.f273
theorem g273_ok : FunOk Tryz.prog 273 g273 := fun_okS ty_ok mixed (gam_ok (J := J0) (tab_nil fls_fun)) Tryz.func273 (fun args w => by simp)
/-- stagepost/intent.Settled -/
noncomputable def g164 : Fun := denFS ty (gam J0 [(208, g208), (247, g247), (259, g259), (273, g273)]) Tryz.f164
theorem g164_ok : FunOk Tryz.prog 164 g164 := fun_okS ty_ok mixed (gam_ok (J := J0) (tab_cons g208_ok (tab_cons g247_ok (tab_cons g259_ok (tab_cons g273_ok (tab_nil fls_fun)))))) Tryz.func164 (fun args w => by simp)
/-- stagepost/mvcc.Lift -/
noncomputable def g165 : Fun := denFS ty (gam J0 [(121, g121), (209, g209)]) Tryz.f165
theorem g165_ok : FunOk Tryz.prog 165 g165 := fun_okS ty_ok mixed (gam_ok (J := J0) (tab_cons g121_ok (tab_cons g209_ok (tab_nil fls_fun)))) Tryz.func165 (fun args w => by simp)
/-- (*stagepost/server.Server).resolve -/
noncomputable def g77 : Fun := denFS ty (gam J0 [(52, g52), (54, g54), (146, g146), (150, g150), (164, g164), (165, g165)]) Tryz.f77
theorem g77_ok : FunOk Tryz.prog 77 g77 := fun_okS ty_ok mixed (gam_ok (J := J0) (tab_cons g52_ok (tab_cons g54_ok (tab_cons g146_ok (tab_cons g150_ok (tab_cons g164_ok (tab_cons g165_ok (tab_nil fls_fun)))))))) Tryz.func77 (fun args w => by simp)
/-- (*stagepost/server.Server).serve -/
noncomputable def g33 : Fun := denFS ty (gam J0 [(31, g31), (34, g34), (43, g43), (69, g69), (70, g70), (71, g71), (72, g72), (73, g73), (75, g75), (77, g77)]) Tryz.f33
theorem g33_ok : FunOk Tryz.prog 33 g33 := fun_okS ty_ok mixed (gam_ok (J := J0) (tab_cons g31_ok (tab_cons g34_ok (tab_cons g43_ok (tab_cons g69_ok (tab_cons g70_ok (tab_cons g71_ok (tab_cons g72_ok (tab_cons g73_ok (tab_cons g75_ok (tab_cons g77_ok (tab_nil fls_fun)))))))))))) Tryz.func33 (fun args w => by simp)
/-- (*stagepost/server.Server).Serve$1 -/
noncomputable def g32 : Fun := denFS ty (gam J0 [(28, g28), (33, g33), (34, g34)]) Tryz.f32
theorem g32_ok : FunOk Tryz.prog 32 g32 := fun_okS ty_ok mixed (gam_ok (J := J0) (tab_cons g28_ok (tab_cons g33_ok (tab_cons g34_ok (tab_nil fls_fun))))) Tryz.func32 (fun args w => by simp)
end Go.Proofs.YtcifllconkchmaaGreatDoor
