/- Functions as they are reckoned. MADE BY PROGRAM (wip/tools/shal.py). -/
import Derived.Test.YtcifllconkchmaaGreatDoorAmS8
namespace Go.Proofs.YtcifllconkchmaaGreatDoor
open Go Go.Am
set_option maxRecDepth 100000
set_option linter.all false
/-- (*stagepost/server.Server).found -/
noncomputable def g146 : Fun := denFS ty (gam J0 [(37, g37), (39, g39)]) Tryz.f146
theorem g146_ok : FunOk Tryz.prog 146 g146 := fun_okS ty_ok mixed (gam_ok (J := J0) (tab_cons g37_ok (tab_cons g39_ok (tab_nil fls_fun)))) Tryz.func146 (fun args w => by simp)
/-- stagepost/intent.Check -/
noncomputable def g208 : Fun := denFS ty (gam J0 [(50, g50), (120, g120), (259, g259)]) Tryz.f208
theorem g208_ok : FunOk Tryz.prog 208 g208 := fun_okS ty_ok mixed (gam_ok (J := J0) (tab_cons g50_ok (tab_cons g120_ok (tab_cons g259_ok (tab_nil fls_fun))))) Tryz.func208 (fun args w => by simp)
/-- stagepost/intent.checked -/
noncomputable def g119 : Fun := denFS ty (gam J0 [(49, g49), (208, g208)]) Tryz.f119
theorem g119_ok : FunOk Tryz.prog 119 g119 := fun_okS ty_ok mixed (gam_ok (J := J0) (tab_cons g49_ok (tab_cons g208_ok (tab_nil fls_fun)))) Tryz.func119 (fun args w => by simp)
/-- stagepost/intent.rows -/
noncomputable def g253 : Fun := denFS ty (gam J0 [(50, g50)]) Tryz.f253
theorem g253_ok : FunOk Tryz.prog 253 g253 := fun_okS ty_ok mixed (gam_ok (J := J0) (tab_cons g50_ok (tab_nil fls_fun))) Tryz.func253 (fun args w => by simp)
/-- stagepost/intent.Scan -/
noncomputable def g147 : Fun := denFS ty (gam J0 [(50, g50), (119, g119), (126, g126), (253, g253)]) Tryz.f147
theorem g147_ok : FunOk Tryz.prog 147 g147 := fun_okS ty_ok mixed (gam_ok (J := J0) (tab_cons g50_ok (tab_cons g119_ok (tab_cons g126_ok (tab_cons g253_ok (tab_nil fls_fun)))))) Tryz.func147 (fun args w => by simp)
/-- (*stagepost/cache.Cache).none -/
noncomputable def g124 : Fun := denFS ty (gam J0 []) Tryz.f124
theorem g124_ok : FunOk Tryz.prog 124 g124 := fun_okS ty_ok mixed (gam_ok (J := J0) (tab_nil fls_fun)) Tryz.func124 (fun args w => by simp)
/-- slices.Index[[]stagepost/cache.mark,stagepost/cache.mark] -/
noncomputable def g257 : Fun := denFS ty (gam J0 []) Tryz.f257
theorem g257_ok : FunOk Tryz.prog 257 g257 := fun_okS ty_ok mixed (gam_ok (J := J0) (tab_nil fls_fun)) Tryz.func257 (fun args w => by simp)
/-- (*stagepost/cache.Cache).Read -/
noncomputable def g148 : Fun := denFS ty (gam J0 [(49, g49), (50, g50), (124, g124), (126, g126), (254, g254), (257, g257)]) Tryz.f148
theorem g148_ok : FunOk Tryz.prog 148 g148 := fun_okS ty_ok mixed (gam_ok (J := J0) (tab_cons g49_ok (tab_cons g50_ok (tab_cons g124_ok (tab_cons g126_ok (tab_cons g254_ok (tab_cons g257_ok (tab_nil fls_fun)))))))) Tryz.func148 (fun args w => by simp)
/-- (*stagepost/server.Server).scan -/
noncomputable def g71 : Fun := denFS ty (gam J0 [(50, g50), (146, g146), (147, g147), (148, g148)]) Tryz.f71
theorem g71_ok : FunOk Tryz.prog 71 g71 := fun_okS ty_ok mixed (gam_ok (J := J0) (tab_cons g50_ok (tab_cons g146_ok (tab_cons g147_ok (tab_cons g148_ok (tab_nil fls_fun)))))) Tryz.func71 (fun args w => by simp)
/-- stagepost/ranges.Has -/
noncomputable def g125 : Fun := denFS ty (gam J0 []) Tryz.f125
theorem g125_ok : FunOk Tryz.prog 125 g125 := fun_okS ty_ok mixed (gam_ok (J := J0) (tab_nil fls_fun)) Tryz.func125 (fun args w => by simp)
/-- (*stagepost/cache.Cache).At -/
noncomputable def g55 : Fun := denFS ty (gam J0 [(124, g124), (125, g125), (126, g126)]) Tryz.f55
theorem g55_ok : FunOk Tryz.prog 55 g55 := fun_okS ty_ok mixed (gam_ok (J := J0) (tab_cons g124_ok (tab_cons g125_ok (tab_cons g126_ok (tab_nil fls_fun))))) Tryz.func55 (fun args w => by simp)
/-- stagepost/ranges.One -/
noncomputable def g150 : Fun := denFS ty (gam J0 []) Tryz.f150
theorem g150_ok : FunOk Tryz.prog 150 g150 := fun_okS ty_ok mixed (gam_ok (J := J0) (tab_nil fls_fun)) Tryz.func150 (fun args w => by simp)
/-- stagepost/hlc.Next -/
noncomputable def g260 : Fun := denFS ty (gam J0 [(49, g49)]) Tryz.f260
theorem g260_ok : FunOk Tryz.prog 260 g260 := fun_okS ty_ok mixed (gam_ok (J := J0) (tab_cons g49_ok (tab_nil fls_fun))) Tryz.func260 (fun args w => by simp)
/-- stagepost/intent.Write -/
noncomputable def g151 : Fun := denFS ty (gam J0 [(50, g50), (119, g119), (126, g126), (259, g259), (260, g260)]) Tryz.f151
theorem g151_ok : FunOk Tryz.prog 151 g151 := fun_okS ty_ok mixed (gam_ok (J := J0) (tab_cons g50_ok (tab_cons g119_ok (tab_cons g126_ok (tab_cons g259_ok (tab_cons g260_ok (tab_nil fls_fun))))))) Tryz.func151 (fun args w => by simp)
/-- (*stagepost/server.Server).put -/
noncomputable def g72 : Fun := denFS ty (gam J0 [(52, g52), (55, g55), (126, g126), (146, g146), (149, g149), (150, g150), (151, g151), (152, g152)]) Tryz.f72
theorem g72_ok : FunOk Tryz.prog 72 g72 := fun_okS ty_ok mixed (gam_ok (J := J0) (tab_cons g52_ok (tab_cons g55_ok (tab_cons g126_ok (tab_cons g146_ok (tab_cons g149_ok (tab_cons g150_ok (tab_cons g151_ok (tab_cons g152_ok (tab_nil fls_fun)))))))))) Tryz.func72 (fun args w => by simp)
/-- stagepost/mvcc.fours -/
noncomputable def g176 : Fun := denFS ty (gam J0 []) Tryz.f176
theorem g176_ok : FunOk Tryz.prog 176 g176 := fun_okS ty_ok mixed (gam_ok (J := J0) (tab_nil fls_fun)) Tryz.func176 (fun args w => by simp)
/-- stagepost/mvcc.ends -/
noncomputable def g177 : Fun := denFS ty (gam J0 []) Tryz.f177
theorem g177_ok : FunOk Tryz.prog 177 g177 := fun_okS ty_ok mixed (gam_ok (J := J0) (tab_nil fls_fun)) Tryz.func177 (fun args w => by simp)
/-- stagepost/mvcc.four -/
noncomputable def g343 : Fun := denFS ty (gam J0 []) Tryz.f343
theorem g343_ok : FunOk Tryz.prog 343 g343 := fun_okS ty_ok mixed (gam_ok (J := J0) (tab_nil fls_fun)) Tryz.func343 (fun args w => by simp)
/-- stagepost/mvcc.place -/
noncomputable def g263 : Fun := denFS ty (gam J0 [(343, g343)]) Tryz.f263
theorem g263_ok : FunOk Tryz.prog 263 g263 := fun_okS ty_ok mixed (gam_ok (J := J0) (tab_cons g343_ok (tab_nil fls_fun))) Tryz.func263 (fun args w => by simp)
/-- stagepost/mvcc.known -/
noncomputable def g276 : Fun := denFS ty (gam J0 [(209, g209), (247, g247)]) Tryz.f276
theorem g276_ok : FunOk Tryz.prog 276 g276 := fun_okS ty_ok mixed (gam_ok (J := J0) (tab_cons g209_ok (tab_cons g247_ok (tab_nil fls_fun)))) Tryz.func276 (fun args w => by simp)
/-- stagepost/mvcc.Keep -/
noncomputable def g178 : Fun := denFS ty (gam J0 [(117, g117), (122, g122), (177, g177), (261, g261), (263, g263), (276, g276), (277, g277)]) Tryz.f178
theorem g178_ok : FunOk Tryz.prog 178 g178 := fun_okS ty_ok mixed (gam_ok (J := J0) (tab_cons g117_ok (tab_cons g122_ok (tab_cons g177_ok (tab_cons g261_ok (tab_cons g263_ok (tab_cons g276_ok (tab_cons g277_ok (tab_nil fls_fun))))))))) Tryz.func178 (fun args w => by simp)
end Go.Proofs.YtcifllconkchmaaGreatDoor
