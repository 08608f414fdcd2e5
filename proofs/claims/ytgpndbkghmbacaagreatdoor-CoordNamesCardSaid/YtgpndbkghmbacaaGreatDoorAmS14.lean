/- Functions as they are reckoned. MADE BY PROGRAM (wip/tools/shal.py). -/
import Derived.Test.YtgpndbkghmbacaaGreatDoorAmS13
namespace Go.Proofs.YtgpndbkghmbacaaGreatDoor
open Go Go.Am
set_option maxRecDepth 100000
set_option linter.all false
/-- (*stagepost/coord.Coord).committed -/
noncomputable def g208 : Fun := denFS ty (gam J0 [(33, g33), (121, g121), (300, g300)]) Tryz.f208
theorem g208_ok : FunOk Tryz.prog 208 g208 := fun_okS ty_ok mixed (gam_ok (J := J0) (tab_cons g33_ok (tab_cons g121_ok (tab_cons g300_ok (tab_nil fls_fun))))) Tryz.func208 (fun args w => by simp)
/-- (*stagepost/coord.Coord).decide -/
noncomputable def g126 : Fun := denFS ty (gam J0 [(91, g91), (205, g205), (206, g206), (207, g207), (208, g208)]) Tryz.f126
theorem g126_ok : FunOk Tryz.prog 126 g126 := fun_okS ty_ok mixed (gam_ok (J := J0) (tab_cons g91_ok (tab_cons g205_ok (tab_cons g206_ok (tab_cons g207_ok (tab_cons g208_ok (tab_nil fls_fun))))))) Tryz.func126 (fun args w => by simp)
/-- (*stagepost/coord.Coord).put$1 -/
noncomputable def g203 : Fun := denFS ty (gam J0 [(32, g32), (126, g126)]) Tryz.f203
theorem g203_ok : FunOk Tryz.prog 203 g203 := fun_okS ty_ok mixed (gam_ok (J := J0) (tab_cons g32_ok (tab_cons g126_ok (tab_nil fls_fun)))) Tryz.func203 (fun args w => by simp)
/-- (*stagepost/coord.Coord).put -/
noncomputable def g123 : Fun := denFS ty (gam J0 [(124, g124), (203, g203)]) Tryz.f123
theorem g123_ok : FunOk Tryz.prog 123 g123 := fun_okS ty_ok mixed (gam_ok (J := J0) (tab_cons g124_ok (tab_cons g203_ok (tab_nil fls_fun)))) Tryz.func123 (fun args w => by simp)
/-- (*stagepost/coord.Coord).commit$1 -/
noncomputable def g125 : Fun := denFS ty (gam J0 [(126, g126)]) Tryz.f125
theorem g125_ok : FunOk Tryz.prog 125 g125 := fun_okS ty_ok mixed (gam_ok (J := J0) (tab_cons g126_ok (tab_nil fls_fun))) Tryz.func125 (fun args w => by simp)
/-- (*stagepost/coord.Coord).commit -/
noncomputable def g72 : Fun := denFS ty (gam J0 [(32, g32), (121, g121), (122, g122), (123, g123), (124, g124), (125, g125)]) Tryz.f72
theorem g72_ok : FunOk Tryz.prog 72 g72 := fun_okS ty_ok mixed (gam_ok (J := J0) (tab_cons g32_ok (tab_cons g121_ok (tab_cons g122_ok (tab_cons g123_ok (tab_cons g124_ok (tab_cons g125_ok (tab_nil fls_fun)))))))) Tryz.func72 (fun args w => by simp)
/-- maps.Keys[map[string]string,string,string] -/
noncomputable def g192 : Fun := denFS ty (gam J0 [(277, g277)]) Tryz.f192
theorem g192_ok : FunOk Tryz.prog 192 g192 := fun_okS ty_ok mixed (gam_ok (J := J0) (tab_cons g277_ok (tab_nil fls_fun))) Tryz.func192 (fun args w => by simp)
/-- (*stagepost/coord.Coord).sees -/
noncomputable def g114 : Fun := denFS ty (gam J0 [(56, g56'), (192, g192)]) Tryz.f114
theorem g114_ok : FunOk Tryz.prog 114 g114 := fun_okS ty_ok mixed (gam_ok (J := J0) (tab_cons g56'_ok (tab_cons g192_ok (tab_nil fls_fun)))) Tryz.func114 (fun args w => by simp)
/-- (*stagepost/exec.source).round -/
noncomputable def g384 : Fun := denFS ty (gam J0 []) Tryz.f384
theorem g384_ok : FunOk Tryz.prog 384 g384 := fun_okS ty_ok mixed (gam_ok (J := J0) (tab_nil fls_fun)) Tryz.func384 (fun args w => by simp)
/-- stagepost/exec.point -/
noncomputable def g385 : Fun := denFS ty (gam J0 []) Tryz.f385
theorem g385_ok : FunOk Tryz.prog 385 g385 := fun_okS ty_ok mixed (gam_ok (J := J0) (tab_nil fls_fun)) Tryz.func385 (fun args w => by simp)
/-- (*stagepost/exec.work).rows -/
noncomputable def g369 : Fun := denFS ty (gam J0 [(384, g384), (385, g385)]) Tryz.f369
theorem g369_ok : FunOk Tryz.prog 369 g369 := fun_okS ty_ok mixed (gam_ok (J := J0) (tab_cons g384_ok (tab_cons g385_ok (tab_nil fls_fun)))) Tryz.func369 (fun args w => by simp)
noncomputable def ring273 : Nat → List (Nat × Fun) := fun n => Nat.rec (motive := fun _ => List (Nat × Fun)) [] (fun _ r => [(273, denFS ty (gam J0 (r)) Tryz.f273)]) n
theorem ring273_ok : ∀ n, TabOk (FunOk Tryz.prog) (ring273 n)
  | 0 => tab_nil fls_fun
  | n + 1 => (tab_cons (fun_okS ty_ok mixed (gam_ok (J := J0) (ring273_ok n)) Tryz.func273 (fun args w => by simp)) (tab_nil fls_fun))
/-- stagepost/plan.Eval -/
noncomputable def g273 : Fun := tab (ring273 24) 273
theorem g273_ok : FunOk Tryz.prog 273 g273 := ring273_ok 24 273
/-- (*stagepost/exec.work).atoms -/
noncomputable def g439 : Fun := denFS ty (gam J0 [(67, g67)]) Tryz.f439
theorem g439_ok : FunOk Tryz.prog 439 g439 := fun_okS ty_ok mixed (gam_ok (J := J0) (tab_cons g67_ok (tab_nil fls_fun))) Tryz.func439 (fun args w => by simp)
/-- (*stagepost/exec.work).letIn -/
noncomputable def g370 : Fun := denFS ty (gam J0 [(273, g273), (439, g439)]) Tryz.f370
theorem g370_ok : FunOk Tryz.prog 370 g370 := fun_okS ty_ok mixed (gam_ok (J := J0) (tab_cons g273_ok (tab_cons g439_ok (tab_nil fls_fun)))) Tryz.func370 (fun args w => by simp)
noncomputable def ring371 : Nat → List (Nat × Fun) := fun n => Nat.rec (motive := fun _ => List (Nat × Fun)) [] (fun _ r => [(371, denFS ty (gam J0 ((191, g191) :: r)) Tryz.f371)]) n
theorem ring371_ok : ∀ n, TabOk (FunOk Tryz.prog) (ring371 n)
  | 0 => tab_nil fls_fun
  | n + 1 => (tab_cons (fun_okS ty_ok mixed (gam_ok (J := J0) (tab_cons g191_ok (ring371_ok n))) Tryz.func371 (fun args w => by simp)) (tab_nil fls_fun))
/-- (*stagepost/exec.work).combine -/
noncomputable def g371 : Fun := tab (ring371 24) 371
theorem g371_ok : FunOk Tryz.prog 371 g371 := ring371_ok 24 371
/-- (*stagepost/exec.work).combinations -/
noncomputable def g278 : Fun := denFS ty (gam J0 [(369, g369), (370, g370), (371, g371)]) Tryz.f278
theorem g278_ok : FunOk Tryz.prog 278 g278 := fun_okS ty_ok mixed (gam_ok (J := J0) (tab_cons g369_ok (tab_cons g370_ok (tab_cons g371_ok (tab_nil fls_fun))))) Tryz.func278 (fun args w => by simp)
/-- (*stagepost/exec.work).lines -/
noncomputable def g279 : Fun := denFS ty (gam J0 [(260, g260), (263, g263), (372, g372), (374, g374)]) Tryz.f279
theorem g279_ok : FunOk Tryz.prog 279 g279 := fun_okS ty_ok mixed (gam_ok (J := J0) (tab_cons g260_ok (tab_cons g263_ok (tab_cons g372_ok (tab_cons g374_ok (tab_nil fls_fun)))))) Tryz.func279 (fun args w => by simp)
/-- (*stagepost/exec.work).selects$1 -/
noncomputable def g281 : Fun := denFS ty (gam J0 []) Tryz.f281
theorem g281_ok : FunOk Tryz.prog 281 g281 := fun_okS ty_ok mixed (gam_ok (J := J0) (tab_nil fls_fun)) Tryz.func281 (fun args w => by simp)
/-- slices.insertionSortCmpFunc[stagepost/exec.line] -/
noncomputable def g446 : Fun := denFS ty (gam J0 [(281, g281)]) Tryz.f446
theorem g446_ok : FunOk Tryz.prog 446 g446 := fun_okS ty_ok mixed (gam_ok (J := J0) (tab_cons g281_ok (tab_nil fls_fun))) Tryz.func446 (fun args w => by simp)
/-- slices.stableCmpFunc[stagepost/exec.line] -/
noncomputable def g377 : Fun := denFS ty (gam J0 [(446, g446)]) Tryz.f377
theorem g377_ok : FunOk Tryz.prog 377 g377 := fun_okS ty_ok mixed (gam_ok (J := J0) (tab_cons g446_ok (tab_nil fls_fun))) Tryz.func377 (fun args w => by simp)
/-- slices.SortStableFunc[[]stagepost/exec.line,stagepost/exec.line] -/
noncomputable def g280 : Fun := denFS ty (gam J0 [(377, g377)]) Tryz.f280
theorem g280_ok : FunOk Tryz.prog 280 g280 := fun_okS ty_ok mixed (gam_ok (J := J0) (tab_cons g377_ok (tab_nil fls_fun))) Tryz.func280 (fun args w => by simp)
/-- (*stagepost/exec.work).selects -/
noncomputable def g193 : Fun := denFS ty (gam J0 [(278, g278), (279, g279), (280, g280), (281, g281)]) Tryz.f193
theorem g193_ok : FunOk Tryz.prog 193 g193 := fun_okS ty_ok mixed (gam_ok (J := J0) (tab_cons g278_ok (tab_cons g279_ok (tab_cons g280_ok (tab_cons g281_ok (tab_nil fls_fun)))))) Tryz.func193 (fun args w => by simp)
end Go.Proofs.YtgpndbkghmbacaaGreatDoor
