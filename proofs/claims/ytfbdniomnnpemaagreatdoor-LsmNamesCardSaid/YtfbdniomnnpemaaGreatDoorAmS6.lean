/- Functions as they are reckoned. MADE BY PROGRAM (wip/tools/shal.py). -/
import Derived.Test.YtfbdniomnnpemaaGreatDoorAmS5
namespace Go.Proofs.YtfbdniomnnpemaaGreatDoor
open Go Go.Am
set_option maxRecDepth 100000
set_option linter.all false
/-- (*stagepost/lsm.Store).Compact$1 -/
noncomputable def g49 : Fun := denFS ty (gam J0 [(25, g25)]) Tryz.f49
theorem g49_ok : FunOk Tryz.prog 49 g49 := fun_okS ty_ok mixed (gam_ok (J := J0) (tab_cons g25_ok (tab_nil fls_fun))) Tryz.func49 (fun args w => by simp)
/-- stagepost/manifest.named -/
noncomputable def g117 : Fun := denFS ty (gam J0 [(103, g103), (104, g104)]) Tryz.f117
theorem g117_ok : FunOk Tryz.prog 117 g117 := fun_okS ty_ok mixed (gam_ok (J := J0) (tab_cons g103_ok (tab_cons g104_ok (tab_nil fls_fun)))) Tryz.func117 (fun args w => by simp)
/-- (*stagepost/manifest.Manifest).File -/
noncomputable def g110 : Fun := denFS ty (gam J0 [(80, g80), (117, g117)]) Tryz.f110
theorem g110_ok : FunOk Tryz.prog 110 g110 := fun_okS ty_ok mixed (gam_ok (J := J0) (tab_cons g80_ok (tab_cons g117_ok (tab_nil fls_fun)))) Tryz.func110 (fun args w => by simp)
/-- stagepost/manifest.fresh$1 -/
noncomputable def g177 : Fun := denFS ty (gam J0 [(96, g96)]) Tryz.f177
theorem g177_ok : FunOk Tryz.prog 177 g177 := fun_okS ty_ok mixed (gam_ok (J := J0) (tab_cons g96_ok (tab_nil fls_fun))) Tryz.func177 (fun args w => by simp)
/-- stagepost/manifest.fresh$2 -/
noncomputable def g178 : Fun := denFS ty (gam J0 [(75, g75)]) Tryz.f178
theorem g178_ok : FunOk Tryz.prog 178 g178 := fun_okS ty_ok mixed (gam_ok (J := J0) (tab_cons g75_ok (tab_nil fls_fun))) Tryz.func178 (fun args w => by simp)
/-- stagepost/manifest.fresh$3 -/
noncomputable def g179 : Fun := denFS ty (gam J0 [(76, g76)]) Tryz.f179
theorem g179_ok : FunOk Tryz.prog 179 g179 := fun_okS ty_ok mixed (gam_ok (J := J0) (tab_cons g76_ok (tab_nil fls_fun))) Tryz.func179 (fun args w => by simp)
/-- (*stagepost/vfs.FS).Rename -/
noncomputable def g116 : Fun := denFS ty (gam J0 [(101, g101), (102, g102), (123, g123)]) Tryz.f116
theorem g116_ok : FunOk Tryz.prog 116 g116 := fun_okS ty_ok mixed (gam_ok (J := J0) (tab_cons g101_ok (tab_cons g102_ok (tab_cons g123_ok (tab_nil fls_fun))))) Tryz.func116 (fun args w => by simp)
/-- stagepost/manifest.Open$3 -/
noncomputable def g115 : Fun := denFS ty (gam J0 [(116, g116)]) Tryz.f115
theorem g115_ok : FunOk Tryz.prog 115 g115 := fun_okS ty_ok mixed (gam_ok (J := J0) (tab_cons g116_ok (tab_nil fls_fun))) Tryz.func115 (fun args w => by simp)
/-- (*stagepost/manifest.Manifest).Add$1 -/
noncomputable def g156 : Fun := denFS ty (gam J0 [(75, g75), (110, g110)]) Tryz.f156
theorem g156_ok : FunOk Tryz.prog 156 g156 := fun_okS ty_ok mixed (gam_ok (J := J0) (tab_cons g75_ok (tab_cons g110_ok (tab_nil fls_fun)))) Tryz.func156 (fun args w => by simp)
/-- (*stagepost/manifest.Manifest).Add$2 -/
noncomputable def g157 : Fun := denFS ty (gam J0 [(76, g76), (110, g110)]) Tryz.f157
theorem g157_ok : FunOk Tryz.prog 157 g157 := fun_okS ty_ok mixed (gam_ok (J := J0) (tab_cons g76_ok (tab_cons g110_ok (tab_nil fls_fun)))) Tryz.func157 (fun args w => by simp)
noncomputable def ring111 : Nat → List (Nat × Fun) := fun n => Nat.rec (motive := fun _ => List (Nat × Fun)) [] (fun _ r => [(111, denFS ty (gam J0 ((39, g39) :: (49, g49) :: (98, g98) :: (115, g115) :: (156, g156) :: (157, g157) :: (177, g177) :: (178, g178) :: (179, g179) :: r)) Tryz.f111),
  (112, denFS ty (gam J0 ((110, g110) :: r)) Tryz.f112),
  (113, denFS ty (gam J0 ((54, g54) :: (56, g56) :: (177, g177) :: (178, g178) :: (179, g179) :: r)) Tryz.f113),
  (114, denFS ty (gam J0 (r)) Tryz.f114)]) n
theorem ring111_ok : ∀ n, TabOk (FunOk Tryz.prog) (ring111 n)
  | 0 => tab_nil fls_fun
  | n + 1 => (tab_cons (fun_okS ty_ok mixed (gam_ok (J := J0) (tab_cons g39_ok (tab_cons g49_ok (tab_cons g98_ok (tab_cons g115_ok (tab_cons g156_ok (tab_cons g157_ok (tab_cons g177_ok (tab_cons g178_ok (tab_cons g179_ok (ring111_ok n))))))))))) Tryz.func111 (fun args w => by simp)) 
    (tab_cons (fun_okS ty_ok mixed (gam_ok (J := J0) (tab_cons g110_ok (ring111_ok n))) Tryz.func112 (fun args w => by simp)) 
    (tab_cons (fun_okS ty_ok mixed (gam_ok (J := J0) (tab_cons g54_ok (tab_cons g56_ok (tab_cons g177_ok (tab_cons g178_ok (tab_cons g179_ok (ring111_ok n))))))) Tryz.func113 (fun args w => by simp)) 
    (tab_cons (fun_okS ty_ok mixed (gam_ok (J := J0) (ring111_ok n)) Tryz.func114 (fun args w => by simp)) (tab_nil fls_fun)))))
/-- stagepost/manifest.steps -/
noncomputable def g111 : Fun := tab (ring111 24) 111
theorem g111_ok : FunOk Tryz.prog 111 g111 := ring111_ok 24 111
/-- stagepost/manifest.Open$1 -/
noncomputable def g112 : Fun := tab (ring111 24) 112
theorem g112_ok : FunOk Tryz.prog 112 g112 := ring111_ok 24 112
/-- stagepost/manifest.fresh -/
noncomputable def g113 : Fun := tab (ring111 24) 113
theorem g113_ok : FunOk Tryz.prog 113 g113 := ring111_ok 24 113
/-- stagepost/manifest.Open$2 -/
noncomputable def g114 : Fun := tab (ring111 24) 114
theorem g114_ok : FunOk Tryz.prog 114 g114 := ring111_ok 24 114
/-- slices.IsSortedFunc[[]stagepost/api.Meta,stagepost/api.Meta] -/
noncomputable def g227 : Fun := denFS ty (gam J0 []) Tryz.f227
theorem g227_ok : FunOk Tryz.prog 227 g227 := fun_okS ty_ok mixed (gam_ok (J := J0) (tab_nil fls_fun)) Tryz.func227 (fun args w => by simp)
/-- stagepost/manifest.Check -/
noncomputable def g199 : Fun := denFS ty (gam J0 [(174, g174), (175, g175), (227, g227)]) Tryz.f199
theorem g199_ok : FunOk Tryz.prog 199 g199 := fun_okS ty_ok mixed (gam_ok (J := J0) (tab_cons g174_ok (tab_cons g175_ok (tab_cons g227_ok (tab_nil fls_fun))))) Tryz.func199 (fun args w => by simp)
/-- stagepost/manifest.Behind$1 -/
noncomputable def g201 : Fun := denFS ty (gam J0 []) Tryz.f201
theorem g201_ok : FunOk Tryz.prog 201 g201 := fun_okS ty_ok mixed (gam_ok (J := J0) (tab_nil fls_fun)) Tryz.func201 (fun args w => by simp)
/-- slices.IndexFunc[[]stagepost/api.Meta,stagepost/api.Meta] -/
noncomputable def g228 : Fun := denFS ty (gam J0 [(201, g201)]) Tryz.f228
theorem g228_ok : FunOk Tryz.prog 228 g228 := fun_okS ty_ok mixed (gam_ok (J := J0) (tab_cons g201_ok (tab_nil fls_fun))) Tryz.func228 (fun args w => by simp)
/-- slices.ContainsFunc[[]stagepost/api.Meta,stagepost/api.Meta] -/
noncomputable def g200 : Fun := denFS ty (gam J0 [(228, g228)]) Tryz.f200
theorem g200_ok : FunOk Tryz.prog 200 g200 := fun_okS ty_ok mixed (gam_ok (J := J0) (tab_cons g228_ok (tab_nil fls_fun))) Tryz.func200 (fun args w => by simp)
/-- slices.insertionSortCmpFunc[stagepost/api.Meta] -/
noncomputable def g250 : Fun := denFS ty (gam J0 []) Tryz.f250
theorem g250_ok : FunOk Tryz.prog 250 g250 := fun_okS ty_ok mixed (gam_ok (J := J0) (tab_nil fls_fun)) Tryz.func250 (fun args w => by simp)
/-- slices.stableCmpFunc[stagepost/api.Meta] -/
noncomputable def g229 : Fun := denFS ty (gam J0 [(250, g250)]) Tryz.f229
theorem g229_ok : FunOk Tryz.prog 229 g229 := fun_okS ty_ok mixed (gam_ok (J := J0) (tab_cons g250_ok (tab_nil fls_fun))) Tryz.func229 (fun args w => by simp)
/-- slices.SortStableFunc[[]stagepost/api.Meta,stagepost/api.Meta] -/
noncomputable def g202 : Fun := denFS ty (gam J0 [(229, g229)]) Tryz.f202
theorem g202_ok : FunOk Tryz.prog 202 g202 := fun_okS ty_ok mixed (gam_ok (J := J0) (tab_cons g229_ok (tab_nil fls_fun))) Tryz.func202 (fun args w => by simp)
/-- stagepost/manifest.Behind -/
noncomputable def g155 : Fun := denFS ty (gam J0 [(199, g199), (200, g200), (201, g201), (202, g202)]) Tryz.f155
theorem g155_ok : FunOk Tryz.prog 155 g155 := fun_okS ty_ok mixed (gam_ok (J := J0) (tab_cons g199_ok (tab_cons g200_ok (tab_cons g201_ok (tab_cons g202_ok (tab_nil fls_fun)))))) Tryz.func155 (fun args w => by simp)
end Go.Proofs.YtfbdniomnnpemaaGreatDoor
