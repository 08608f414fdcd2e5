/- Functions as they are reckoned. MADE BY PROGRAM (wip/tools/shal.py). -/
import Derived.Test.YtgpndbkghmbacaaGreatDoorAmH286
namespace Go.Proofs.YtgpndbkghmbacaaGreatDoor
open Go Go.Am
set_option maxRecDepth 100000
set_option linter.all false
/-- (*stagepost/exec.work).insert -/
noncomputable def g194 : Fun := denFS ty (gam J0 [(273, g273), (283, g283), (284, g284), (285, g285), (286, g286')]) Tryz.f194
theorem g194_ok : FunOk Tryz.prog 194 g194 := fun_okS ty_ok mixed (gam_ok (J := J0) (tab_cons g273_ok (tab_cons g283_ok (tab_cons g284_ok (tab_cons g285_ok (tab_cons g286'_ok (tab_nil fls_fun))))))) Tryz.func194 (fun args w => by simp)
/-- stagepost/exec.Step -/
noncomputable def g115 : Fun := denFS ty (gam J0 [(193, g193), (194, g194)]) Tryz.f115
theorem g115_ok : FunOk Tryz.prog 115 g115 := fun_okS ty_ok mixed (gam_ok (J := J0) (tab_cons g193_ok (tab_cons g194_ok (tab_nil fls_fun)))) Tryz.func115 (fun args w => by simp)
/-- stagepost/coord.wide -/
noncomputable def g117 : Fun := denFS ty (gam J0 []) Tryz.f117
theorem g117_ok : FunOk Tryz.prog 117 g117 := fun_okS ty_ok mixed (gam_ok (J := J0) (tab_nil fls_fun)) Tryz.func117 (fun args w => by simp)
/-- slices.IndexFunc[[]stagepost/api.Write,stagepost/api.Write] -/
noncomputable def g196 : Fun := denFS ty (gam J0 [(117, g117)]) Tryz.f196
theorem g196_ok : FunOk Tryz.prog 196 g196 := fun_okS ty_ok mixed (gam_ok (J := J0) (tab_cons g117_ok (tab_nil fls_fun))) Tryz.func196 (fun args w => by simp)
/-- slices.ContainsFunc[[]stagepost/api.Write,stagepost/api.Write] -/
noncomputable def g116 : Fun := denFS ty (gam J0 [(196, g196)]) Tryz.f116
theorem g116_ok : FunOk Tryz.prog 116 g116 := fun_okS ty_ok mixed (gam_ok (J := J0) (tab_cons g196_ok (tab_nil fls_fun))) Tryz.func116 (fun args w => by simp)
/-- stagepost/ranges.Empty -/
noncomputable def g197 : Fun := denFS ty (gam J0 []) Tryz.f197
theorem g197_ok : FunOk Tryz.prog 197 g197 := fun_okS ty_ok mixed (gam_ok (J := J0) (tab_nil fls_fun)) Tryz.func197 (fun args w => by simp)
/-- stagepost/ranges.Span -/
noncomputable def g198 : Fun := denFS ty (gam J0 [(85, g85)]) Tryz.f198
theorem g198_ok : FunOk Tryz.prog 198 g198 := fun_okS ty_ok mixed (gam_ok (J := J0) (tab_cons g85_ok (tab_nil fls_fun))) Tryz.func198 (fun args w => by simp)
/-- stagepost/ranges.Meet -/
noncomputable def g199 : Fun := denFS ty (gam J0 [(197, g197)]) Tryz.f199
theorem g199_ok : FunOk Tryz.prog 199 g199 := fun_okS ty_ok mixed (gam_ok (J := J0) (tab_cons g197_ok (tab_nil fls_fun))) Tryz.func199 (fun args w => by simp)
/-- stagepost/ranges.Parts -/
noncomputable def g118 : Fun := denFS ty (gam J0 [(85, g85), (197, g197), (198, g198), (199, g199)]) Tryz.f118
theorem g118_ok : FunOk Tryz.prog 118 g118 := fun_okS ty_ok mixed (gam_ok (J := J0) (tab_cons g85_ok (tab_cons g197_ok (tab_cons g198_ok (tab_cons g199_ok (tab_nil fls_fun)))))) Tryz.func118 (fun args w => by simp)
/-- (*stagepost/coord.Coord).limit -/
noncomputable def g288 : Fun := denFS ty (gam J0 [(298, g298)]) Tryz.f288
theorem g288_ok : FunOk Tryz.prog 288 g288 := fun_okS ty_ok mixed (gam_ok (J := J0) (tab_cons g298_ok (tab_nil fls_fun))) Tryz.func288 (fun args w => by simp)
/-- slices.Clone[[]stagepost/api.Txn,stagepost/api.Txn] -/
noncomputable def g289 : Fun := denFS ty (gam J0 []) Tryz.f289
theorem g289_ok : FunOk Tryz.prog 289 g289 := fun_okS ty_ok mixed (gam_ok (J := J0) (tab_nil fls_fun)) Tryz.func289 (fun args w => by simp)
/-- (*stagepost/coord.Coord).scan$1$2 -/
noncomputable def g293 : Fun := denFS ty (gam J0 []) Tryz.f293
theorem g293_ok : FunOk Tryz.prog 293 g293 := fun_okS ty_ok mixed (gam_ok (J := J0) (tab_nil fls_fun)) Tryz.func293 (fun args w => by simp)
/-- slices.Index[[]stagepost/api.Span,stagepost/api.Span] -/
noncomputable def g390 : Fun := denFS ty (gam J0 []) Tryz.f390
theorem g390_ok : FunOk Tryz.prog 390 g390 := fun_okS ty_ok mixed (gam_ok (J := J0) (tab_nil fls_fun)) Tryz.func390 (fun args w => by simp)
/-- slices.Contains[[]stagepost/api.Span,stagepost/api.Span] -/
noncomputable def g294 : Fun := denFS ty (gam J0 [(390, g390)]) Tryz.f294
theorem g294_ok : FunOk Tryz.prog 294 g294 := fun_okS ty_ok mixed (gam_ok (J := J0) (tab_cons g390_ok (tab_nil fls_fun))) Tryz.func294 (fun args w => by simp)
noncomputable def ring70 : Nat → List (Nat × Fun) := fun n => Nat.rec (motive := fun _ => List (Nat × Fun)) [] (fun _ r => [(70, denFS ty (gam J0 ((38, g38) :: (72, g72) :: (114, g114) :: (115, g115) :: (116, g116) :: (117, g117) :: (118, g118) :: r)) Tryz.f70),
  (119, denFS ty (gam J0 (r)) Tryz.f119),
  (200, denFS ty (gam J0 ((124, g124) :: (288, g288) :: (289, g289) :: r)) Tryz.f200),
  (290, denFS ty (gam J0 ((36, g36) :: (293, g293) :: (294, g294) :: r)) Tryz.f290),
  (291, denFS ty (gam J0 (r)) Tryz.f291)]) n
theorem ring70_ok : ∀ n, TabOk (FunOk Tryz.prog) (ring70 n)
  | 0 => tab_nil fls_fun
  | n + 1 => (tab_cons (fun_okS ty_ok mixed (gam_ok (J := J0) (tab_cons g38_ok (tab_cons g72_ok (tab_cons g114_ok (tab_cons g115_ok (tab_cons g116_ok (tab_cons g117_ok (tab_cons g118_ok (ring70_ok n))))))))) Tryz.func70 (fun args w => by simp)) 
    (tab_cons (fun_okS ty_ok mixed (gam_ok (J := J0) (ring70_ok n)) Tryz.func119 (fun args w => by simp)) 
    (tab_cons (fun_okS ty_ok mixed (gam_ok (J := J0) (tab_cons g124_ok (tab_cons g288_ok (tab_cons g289_ok (ring70_ok n))))) Tryz.func200 (fun args w => by simp)) 
    (tab_cons (fun_okS ty_ok mixed (gam_ok (J := J0) (tab_cons g36_ok (tab_cons g293_ok (tab_cons g294_ok (ring70_ok n))))) Tryz.func290 (fun args w => by simp)) 
    (tab_cons (fun_okS ty_ok mixed (gam_ok (J := J0) (ring70_ok n)) Tryz.func291 (fun args w => by simp)) (tab_nil fls_fun))))))
/-- (*stagepost/coord.Coord).run -/
noncomputable def g70 : Fun := tab (ring70 24) 70
theorem g70_ok : FunOk Tryz.prog 70 g70 := ring70_ok 24 70
/-- (*stagepost/coord.Coord).read -/
noncomputable def g119 : Fun := tab (ring70 24) 119
theorem g119_ok : FunOk Tryz.prog 119 g119 := ring70_ok 24 119
/-- (*stagepost/coord.Coord).scan -/
noncomputable def g200 : Fun := tab (ring70 24) 200
theorem g200_ok : FunOk Tryz.prog 200 g200 := ring70_ok 24 200
/-- (*stagepost/coord.Coord).scan$1 -/
noncomputable def g290 : Fun := tab (ring70 24) 290
theorem g290_ok : FunOk Tryz.prog 290 g290 := ring70_ok 24 290
/-- (*stagepost/coord.Coord).scan$1$1 -/
noncomputable def g291 : Fun := tab (ring70 24) 291
theorem g291_ok : FunOk Tryz.prog 291 g291 := ring70_ok 24 291
/-- (*stagepost/coord.Coord).begin -/
noncomputable def g40 : Fun := denFS ty (gam J0 [(38, g38), (70, g70), (72, g72)]) Tryz.f40
theorem g40_ok : FunOk Tryz.prog 40 g40 := fun_okS ty_ok mixed (gam_ok (J := J0) (tab_cons g38_ok (tab_cons g70_ok (tab_cons g72_ok (tab_nil fls_fun))))) Tryz.func40 (fun args w => by simp)
/-- (*stagepost/coord.Coord).Say -/
noncomputable def g14 : Fun := denFS ty (gam J0 [(22, g22), (34, g34), (35, g35), (36, g36), (37, g37), (38, g38), (39, g39), (40, g40)]) Tryz.f14
theorem g14_ok : FunOk Tryz.prog 14 g14 := fun_okS ty_ok mixed (gam_ok (J := J0) (tab_cons g22_ok (tab_cons g34_ok (tab_cons g35_ok (tab_cons g36_ok (tab_cons g37_ok (tab_cons g38_ok (tab_cons g39_ok (tab_cons g40_ok (tab_nil fls_fun)))))))))) Tryz.func14 (fun args w => by simp)
/-- stagepost/stagepostlaw30.said -/
noncomputable def g7 : Fun := denFS ty (gam J0 [(10, g10), (11, g11), (14, g14)]) Tryz.f7
theorem g7_ok : FunOk Tryz.prog 7 g7 := fun_okS ty_ok mixed (gam_ok (J := J0) (tab_cons g10_ok (tab_cons g11_ok (tab_cons g14_ok (tab_nil fls_fun))))) Tryz.func7 (fun args w => by simp)
/-- (*stagepost/coord.Coord).Out -/
noncomputable def g8 : Fun := denFS ty (gam J0 [(22, g22)]) Tryz.f8
theorem g8_ok : FunOk Tryz.prog 8 g8 := fun_okS ty_ok mixed (gam_ok (J := J0) (tab_cons g22_ok (tab_nil fls_fun))) Tryz.func8 (fun args w => by simp)
/-- (*stagepost/coord.Coord).Open -/
noncomputable def g17 : Fun := denFS ty (gam J0 [(22, g22)]) Tryz.f17
theorem g17_ok : FunOk Tryz.prog 17 g17 := fun_okS ty_ok mixed (gam_ok (J := J0) (tab_cons g22_ok (tab_nil fls_fun))) Tryz.func17 (fun args w => by simp)
end Go.Proofs.YtgpndbkghmbacaaGreatDoor
