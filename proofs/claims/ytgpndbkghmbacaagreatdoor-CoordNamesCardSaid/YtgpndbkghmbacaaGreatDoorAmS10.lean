/- Functions as they are reckoned. MADE BY PROGRAM (wip/tools/shal.py). -/
import Derived.Test.YtgpndbkghmbacaaGreatDoorAmS9
namespace Go.Proofs.YtgpndbkghmbacaaGreatDoor
open Go Go.Am
set_option maxRecDepth 100000
set_option linter.all false
/-- slices.ContainsFunc[[]stagepost/api.Source,stagepost/api.Source] -/
noncomputable def g352 : Fun := denFS ty (gam J0 [(428, g428)]) Tryz.f352
theorem g352_ok : FunOk Tryz.prog 352 g352 := fun_okS ty_ok mixed (gam_ok (J := J0) (tab_cons g428_ok (tab_nil fls_fun))) Tryz.func352 (fun args w => by simp)
/-- stagepost/check.sources -/
noncomputable def g255 : Fun := denFS ty (gam J0 [(68, g68), (180, g180), (352, g352), (353, g353), (354, g354)]) Tryz.f255
theorem g255_ok : FunOk Tryz.prog 255 g255 := fun_okS ty_ok mixed (gam_ok (J := J0) (tab_cons g68_ok (tab_cons g180_ok (tab_cons g352_ok (tab_cons g353_ok (tab_cons g354_ok (tab_nil fls_fun))))))) Tryz.func255 (fun args w => by simp)
/-- slices.Clone[[]stagepost/api.Source,stagepost/api.Source] -/
noncomputable def g256 : Fun := denFS ty (gam J0 []) Tryz.f256
theorem g256_ok : FunOk Tryz.prog 256 g256 := fun_okS ty_ok mixed (gam_ok (J := J0) (tab_nil fls_fun)) Tryz.func256 (fun args w => by simp)
/-- slices.Clone[[]stagepost/api.Expr,stagepost/api.Expr] -/
noncomputable def g258 : Fun := denFS ty (gam J0 []) Tryz.f258
theorem g258_ok : FunOk Tryz.prog 258 g258 := fun_okS ty_ok mixed (gam_ok (J := J0) (tab_nil fls_fun)) Tryz.func258 (fun args w => by simp)
/-- (stagepost/check.scope).name -/
noncomputable def g355 : Fun := denFS ty (gam J0 [(140, g140)]) Tryz.f355
theorem g355_ok : FunOk Tryz.prog 355 g355 := fun_okS ty_ok mixed (gam_ok (J := J0) (tab_cons g140_ok (tab_nil fls_fun))) Tryz.func355 (fun args w => by simp)
/-- stagepost/check.aggregate -/
noncomputable def g356 : Fun := denFS ty (gam J0 []) Tryz.f356
theorem g356_ok : FunOk Tryz.prog 356 g356 := fun_okS ty_ok mixed (gam_ok (J := J0) (tab_nil fls_fun)) Tryz.func356 (fun args w => by simp)
noncomputable def ring259 : Nat → List (Nat × Fun) := fun n => Nat.rec (motive := fun _ => List (Nat × Fun)) [] (fun _ r => [(259, denFS ty (gam J0 ((258, g258) :: (355, g355) :: (356, g356) :: r)) Tryz.f259)]) n
theorem ring259_ok : ∀ n, TabOk (FunOk Tryz.prog) (ring259 n)
  | 0 => tab_nil fls_fun
  | n + 1 => (tab_cons (fun_okS ty_ok mixed (gam_ok (J := J0) (tab_cons g258_ok (tab_cons g355_ok (tab_cons g356_ok (ring259_ok n))))) Tryz.func259 (fun args w => by simp)) (tab_nil fls_fun))
/-- (stagepost/check.scope).bind -/
noncomputable def g259 : Fun := tab (ring259 24) 259
theorem g259_ok : FunOk Tryz.prog 259 g259 := ring259_ok 24 259
/-- stagepost/exec.aggregate -/
noncomputable def g441 : Fun := denFS ty (gam J0 []) Tryz.f441
theorem g441_ok : FunOk Tryz.prog 441 g441 := fun_okS ty_ok mixed (gam_ok (J := J0) (tab_nil fls_fun)) Tryz.func441 (fun args w => by simp)
noncomputable def ring262 : Nat → List (Nat × Fun) := fun n => Nat.rec (motive := fun _ => List (Nat × Fun)) [] (fun _ r => [(262, denFS ty (gam J0 ((356, g356) :: r)) Tryz.f262),
  (359, denFS ty (gam J0 (r)) Tryz.f359),
  (430, denFS ty (gam J0 (r)) Tryz.f430),
  (373, denFS ty (gam J0 ((441, g441) :: r)) Tryz.f373)]) n
theorem ring262_ok : ∀ n, TabOk (FunOk Tryz.prog) (ring262 n)
  | 0 => tab_nil fls_fun
  | n + 1 => (tab_cons (fun_okS ty_ok mixed (gam_ok (J := J0) (tab_cons g356_ok (ring262_ok n))) Tryz.func262 (fun args w => by simp)) 
    (tab_cons (fun_okS ty_ok mixed (gam_ok (J := J0) (ring262_ok n)) Tryz.func359 (fun args w => by simp)) 
    (tab_cons (fun_okS ty_ok mixed (gam_ok (J := J0) (ring262_ok n)) Tryz.func430 (fun args w => by simp)) 
    (tab_cons (fun_okS ty_ok mixed (gam_ok (J := J0) (tab_cons g441_ok (ring262_ok n))) Tryz.func373 (fun args w => by simp)) (tab_nil fls_fun)))))
/-- stagepost/check.has -/
noncomputable def g262 : Fun := tab (ring262 24) 262
theorem g262_ok : FunOk Tryz.prog 262 g262 := ring262_ok 24 262
/-- slices.ContainsFunc[[]stagepost/api.Expr,stagepost/api.Expr] -/
noncomputable def g359 : Fun := tab (ring262 24) 359
theorem g359_ok : FunOk Tryz.prog 359 g359 := ring262_ok 24 359
/-- slices.IndexFunc[[]stagepost/api.Expr,stagepost/api.Expr] -/
noncomputable def g430 : Fun := tab (ring262 24) 430
theorem g430_ok : FunOk Tryz.prog 430 g430 := ring262_ok 24 430
/-- stagepost/exec.has -/
noncomputable def g373 : Fun := tab (ring262 24) 373
theorem g373_ok : FunOk Tryz.prog 373 g373 := ring262_ok 24 373
/-- stagepost/check.selects$1 -/
noncomputable def g261 : Fun := denFS ty (gam J0 [(262, g262)]) Tryz.f261
theorem g261_ok : FunOk Tryz.prog 261 g261 := fun_okS ty_ok mixed (gam_ok (J := J0) (tab_cons g262_ok (tab_nil fls_fun))) Tryz.func261 (fun args w => by simp)
/-- (*stagepost/exec.work).lines$1 -/
noncomputable def g372 : Fun := denFS ty (gam J0 [(373, g373)]) Tryz.f372
theorem g372_ok : FunOk Tryz.prog 372 g372 := fun_okS ty_ok mixed (gam_ok (J := J0) (tab_cons g373_ok (tab_nil fls_fun))) Tryz.func372 (fun args w => by simp)
/-- slices.IndexFunc[[]stagepost/api.Item,stagepost/api.Item] -/
noncomputable def g358 : Fun := denFS ty (gam J0 [(261, g261), (372, g372)]) Tryz.f358
theorem g358_ok : FunOk Tryz.prog 358 g358 := fun_okS ty_ok mixed (gam_ok (J := J0) (tab_cons g261_ok (tab_cons g372_ok (tab_nil fls_fun)))) Tryz.func358 (fun args w => by simp)
/-- slices.ContainsFunc[[]stagepost/api.Item,stagepost/api.Item] -/
noncomputable def g260 : Fun := denFS ty (gam J0 [(358, g358)]) Tryz.f260
theorem g260_ok : FunOk Tryz.prog 260 g260 := fun_okS ty_ok mixed (gam_ok (J := J0) (tab_cons g358_ok (tab_nil fls_fun))) Tryz.func260 (fun args w => by simp)
/-- stagepost/check.selects$2 -/
noncomputable def g264 : Fun := denFS ty (gam J0 [(262, g262)]) Tryz.f264
theorem g264_ok : FunOk Tryz.prog 264 g264 := fun_okS ty_ok mixed (gam_ok (J := J0) (tab_cons g262_ok (tab_nil fls_fun))) Tryz.func264 (fun args w => by simp)
/-- (*stagepost/exec.work).lines$2 -/
noncomputable def g374 : Fun := denFS ty (gam J0 [(373, g373)]) Tryz.f374
theorem g374_ok : FunOk Tryz.prog 374 g374 := fun_okS ty_ok mixed (gam_ok (J := J0) (tab_cons g373_ok (tab_nil fls_fun))) Tryz.func374 (fun args w => by simp)
/-- slices.IndexFunc[[]stagepost/api.Order,stagepost/api.Order] -/
noncomputable def g360 : Fun := denFS ty (gam J0 [(264, g264), (374, g374)]) Tryz.f360
theorem g360_ok : FunOk Tryz.prog 360 g360 := fun_okS ty_ok mixed (gam_ok (J := J0) (tab_cons g264_ok (tab_cons g374_ok (tab_nil fls_fun)))) Tryz.func360 (fun args w => by simp)
/-- slices.ContainsFunc[[]stagepost/api.Order,stagepost/api.Order] -/
noncomputable def g263 : Fun := denFS ty (gam J0 [(360, g360)]) Tryz.f263
theorem g263_ok : FunOk Tryz.prog 263 g263 := fun_okS ty_ok mixed (gam_ok (J := J0) (tab_cons g360_ok (tab_nil fls_fun))) Tryz.func263 (fun args w => by simp)
/-- (stagepost/check.scope).items -/
noncomputable def g265 : Fun := denFS ty (gam J0 [(259, g259)]) Tryz.f265
theorem g265_ok : FunOk Tryz.prog 265 g265 := fun_okS ty_ok mixed (gam_ok (J := J0) (tab_cons g259_ok (tab_nil fls_fun))) Tryz.func265 (fun args w => by simp)
/-- slices.Clone[[]stagepost/api.Order,stagepost/api.Order] -/
noncomputable def g266 : Fun := denFS ty (gam J0 []) Tryz.f266
theorem g266_ok : FunOk Tryz.prog 266 g266 := fun_okS ty_ok mixed (gam_ok (J := J0) (tab_nil fls_fun)) Tryz.func266 (fun args w => by simp)
/-- stagepost/check.selects -/
noncomputable def g179 : Fun := denFS ty (gam J0 [(140, g140), (183, g183), (255, g255), (256, g256), (258, g258), (259, g259), (260, g260), (261, g261), (263, g263), (264, g264), (265, g265), (266, g266)]) Tryz.f179
theorem g179_ok : FunOk Tryz.prog 179 g179 := fun_okS ty_ok mixed (gam_ok (J := J0) (tab_cons g140_ok (tab_cons g183_ok (tab_cons g255_ok (tab_cons g256_ok (tab_cons g258_ok (tab_cons g259_ok (tab_cons g260_ok (tab_cons g261_ok (tab_cons g263_ok (tab_cons g264_ok (tab_cons g265_ok (tab_cons g266_ok (tab_nil fls_fun)))))))))))))) Tryz.func179 (fun args w => by simp)
/-- stagepost/check.fits -/
noncomputable def g267 : Fun := denFS ty (gam J0 []) Tryz.f267
theorem g267_ok : FunOk Tryz.prog 267 g267 := fun_okS ty_ok mixed (gam_ok (J := J0) (tab_nil fls_fun)) Tryz.func267 (fun args w => by simp)
end Go.Proofs.YtgpndbkghmbacaaGreatDoor
