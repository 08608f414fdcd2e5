/- Functions as they are reckoned. MADE BY PROGRAM (wip/tools/shal.py). -/
import Derived.Test.YtgpndbkghmbacaaGreatDoorAmH56
namespace Go.Proofs.YtgpndbkghmbacaaGreatDoor
open Go Go.Am
set_option maxRecDepth 100000
set_option linter.all false
/-- maps.Keys[map[string]stagepost/api.Write,string,stagepost/api.Write] -/
noncomputable def g57 : Fun := denFS ty (gam J0 [(95, g95)]) Tryz.f57
theorem g57_ok : FunOk Tryz.prog 57 g57 := fun_okS ty_ok mixed (gam_ok (J := J0) (tab_cons g95_ok (tab_nil fls_fun))) Tryz.func57 (fun args w => by simp)
/-- (*stagepost/coord.txn).last -/
noncomputable def g32 : Fun := denFS ty (gam J0 [(56, g56'), (57, g57)]) Tryz.f32
theorem g32_ok : FunOk Tryz.prog 32 g32 := fun_okS ty_ok mixed (gam_ok (J := J0) (tab_cons g56'_ok (tab_cons g57_ok (tab_nil fls_fun)))) Tryz.func32 (fun args w => by simp)
/-- (*stagepost/coord.Coord).ends -/
noncomputable def g121 : Fun := denFS ty (gam J0 [(38, g38)]) Tryz.f121
theorem g121_ok : FunOk Tryz.prog 121 g121 := fun_okS ty_ok mixed (gam_ok (J := J0) (tab_cons g38_ok (tab_nil fls_fun))) Tryz.func121 (fun args w => by simp)
/-- slices.BinarySearch[[]string,string] -/
noncomputable def g391 : Fun := denFS ty (gam J0 [(232, g232)]) Tryz.f391
theorem g391_ok : FunOk Tryz.prog 391 g391 := fun_okS ty_ok mixed (gam_ok (J := J0) (tab_cons g232_ok (tab_nil fls_fun))) Tryz.func391 (fun args w => by simp)
/-- stagepost/ranges.Of -/
noncomputable def g295 : Fun := denFS ty (gam J0 [(85, g85), (391, g391)]) Tryz.f295
theorem g295_ok : FunOk Tryz.prog 295 g295 := fun_okS ty_ok mixed (gam_ok (J := J0) (tab_cons g85_ok (tab_cons g391_ok (tab_nil fls_fun)))) Tryz.func295 (fun args w => by simp)
/-- stagepost/ranges.Node -/
noncomputable def g202 : Fun := denFS ty (gam J0 [(295, g295)]) Tryz.f202
theorem g202_ok : FunOk Tryz.prog 202 g202 := fun_okS ty_ok mixed (gam_ok (J := J0) (tab_cons g295_ok (tab_nil fls_fun))) Tryz.func202 (fun args w => by simp)
/-- (*stagepost/coord.Coord).at -/
noncomputable def g122 : Fun := denFS ty (gam J0 [(202, g202)]) Tryz.f122
theorem g122_ok : FunOk Tryz.prog 122 g122 := fun_okS ty_ok mixed (gam_ok (J := J0) (tab_cons g202_ok (tab_nil fls_fun))) Tryz.func122 (fun args w => by simp)
/-- (*stagepost/coord.Coord).send -/
noncomputable def g33 : Fun := denFS ty (gam J0 []) Tryz.f33
theorem g33_ok : FunOk Tryz.prog 33 g33 := fun_okS ty_ok mixed (gam_ok (J := J0) (tab_nil fls_fun)) Tryz.func33 (fun args w => by simp)
/-- (*stagepost/coord.Coord).ask -/
noncomputable def g124 : Fun := denFS ty (gam J0 [(33, g33)]) Tryz.f124
theorem g124_ok : FunOk Tryz.prog 124 g124 := fun_okS ty_ok mixed (gam_ok (J := J0) (tab_cons g33_ok (tab_nil fls_fun))) Tryz.func124 (fun args w => by simp)
/-- cmp.Or[int] -/
noncomputable def g146 : Fun := denFS ty (gam J0 []) Tryz.f146
theorem g146_ok : FunOk Tryz.prog 146 g146 := fun_okS ty_ok mixed (gam_ok (J := J0) (tab_nil fls_fun)) Tryz.func146 (fun args w => by simp)
/-- cmp.isNaN[int64] -/
noncomputable def g224 : Fun := denFS ty (gam J0 []) Tryz.f224
theorem g224_ok : FunOk Tryz.prog 224 g224 := fun_okS ty_ok mixed (gam_ok (J := J0) (tab_nil fls_fun)) Tryz.func224 (fun args w => by simp)
/-- cmp.Compare[int64] -/
noncomputable def g147 : Fun := denFS ty (gam J0 [(224, g224)]) Tryz.f147
theorem g147_ok : FunOk Tryz.prog 147 g147 := fun_okS ty_ok mixed (gam_ok (J := J0) (tab_cons g224_ok (tab_nil fls_fun))) Tryz.func147 (fun args w => by simp)
/-- cmp.isNaN[int32] -/
noncomputable def g225 : Fun := denFS ty (gam J0 []) Tryz.f225
theorem g225_ok : FunOk Tryz.prog 225 g225 := fun_okS ty_ok mixed (gam_ok (J := J0) (tab_nil fls_fun)) Tryz.func225 (fun args w => by simp)
/-- cmp.Compare[int32] -/
noncomputable def g148 : Fun := denFS ty (gam J0 [(225, g225)]) Tryz.f148
theorem g148_ok : FunOk Tryz.prog 148 g148 := fun_okS ty_ok mixed (gam_ok (J := J0) (tab_cons g225_ok (tab_nil fls_fun))) Tryz.func148 (fun args w => by simp)
/-- stagepost/hlc.Compare -/
noncomputable def g91 : Fun := denFS ty (gam J0 [(146, g146), (147, g147), (148, g148)]) Tryz.f91
theorem g91_ok : FunOk Tryz.prog 91 g91 := fun_okS ty_ok mixed (gam_ok (J := J0) (tab_cons g146_ok (tab_cons g147_ok (tab_cons g148_ok (tab_nil fls_fun))))) Tryz.func91 (fun args w => by simp)
/-- (*stagepost/coord.Coord).decide$1 -/
noncomputable def g206 : Fun := denFS ty (gam J0 []) Tryz.f206
theorem g206_ok : FunOk Tryz.prog 206 g206 := fun_okS ty_ok mixed (gam_ok (J := J0) (tab_nil fls_fun)) Tryz.func206 (fun args w => by simp)
/-- slices.IndexFunc[[]*stagepost/coord.putting,*stagepost/coord.putting] -/
noncomputable def g297 : Fun := denFS ty (gam J0 [(206, g206)]) Tryz.f297
theorem g297_ok : FunOk Tryz.prog 297 g297 := fun_okS ty_ok mixed (gam_ok (J := J0) (tab_cons g206_ok (tab_nil fls_fun))) Tryz.func297 (fun args w => by simp)
/-- slices.ContainsFunc[[]*stagepost/coord.putting,*stagepost/coord.putting] -/
noncomputable def g205 : Fun := denFS ty (gam J0 [(297, g297)]) Tryz.f205
theorem g205_ok : FunOk Tryz.prog 205 g205 := fun_okS ty_ok mixed (gam_ok (J := J0) (tab_cons g297_ok (tab_nil fls_fun))) Tryz.func205 (fun args w => by simp)
/-- stagepost/hlc.Max -/
noncomputable def g298 : Fun := denFS ty (gam J0 [(91, g91)]) Tryz.f298
theorem g298_ok : FunOk Tryz.prog 298 g298 := fun_okS ty_ok mixed (gam_ok (J := J0) (tab_cons g91_ok (tab_nil fls_fun))) Tryz.func298 (fun args w => by simp)
/-- (*stagepost/coord.Coord).greatest -/
noncomputable def g207 : Fun := denFS ty (gam J0 [(298, g298)]) Tryz.f207
theorem g207_ok : FunOk Tryz.prog 207 g207 := fun_okS ty_ok mixed (gam_ok (J := J0) (tab_cons g298_ok (tab_nil fls_fun))) Tryz.func207 (fun args w => by simp)
/-- (*stagepost/coord.Coord).committed$1 -/
noncomputable def g300 : Fun := denFS ty (gam J0 []) Tryz.f300
theorem g300_ok : FunOk Tryz.prog 300 g300 := fun_okS ty_ok mixed (gam_ok (J := J0) (tab_nil fls_fun)) Tryz.func300 (fun args w => by simp)
end Go.Proofs.YtgpndbkghmbacaaGreatDoor
