/- Functions as they are reckoned. MADE BY PROGRAM (wip/tools/shal.py). -/
import Derived.Test.YtfbdniomnnpemaaGreatDoorAmH132
namespace Go.Proofs.YtfbdniomnnpemaaGreatDoor
open Go Go.Am
set_option maxRecDepth 100000
set_option linter.all false
/-- slices.Chunk[[]byte,byte]$1 -/
noncomputable def g189 : Fun := denFS ty (gam J0 []) Tryz.f189
theorem g189_ok : FunOk Tryz.prog 189 g189 := fun_okS ty_ok mixed (gam_ok (J := J0) (tab_nil fls_fun)) Tryz.func189 (fun args w => by simp)
/-- slices.Chunk[[]byte,byte] -/
noncomputable def g133 : Fun := denFS ty (gam J0 [(189, g189)]) Tryz.f133
theorem g133_ok : FunOk Tryz.prog 133 g133 := fun_okS ty_ok mixed (gam_ok (J := J0) (tab_cons g189_ok (tab_nil fls_fun))) Tryz.func133 (fun args w => by simp)
/-- function 189 as function 75 ranges over it -/
noncomputable def it189_75 : Fun := denF ty (gamI J0 [] [] (denR ty (gamI J0 [(101, g101), (102, g102), (105, g105), (132, g132'), (133, g133)] [] noCode))) Tryz.f189
theorem it189_75_ok : ItOk Tryz.prog 189 it189_75 := it_ok ty_ok mixed (gamI_ok (J := J0) (tab_nil fls_fun) (tab_nil fls_it) (code_ok ty_ok mixed (gamI_ok (J := J0) (tab_cons g101_ok (tab_cons g102_ok (tab_cons g105_ok (tab_cons g132'_ok (tab_cons g133_ok (tab_nil fls_fun)))))) (tab_nil fls_it) noCode_ok))) Tryz.func189 (fun args w => by simp)
/-- (*stagepost/vfs.FS).Append -/
noncomputable def g75 : Fun := denFS ty (gamI J0 [(101, g101), (102, g102), (105, g105), (132, g132'), (133, g133)] [(189, it189_75)] noCode) Tryz.f75
theorem g75_ok : FunOk Tryz.prog 75 g75 := fun_okS ty_ok mixed (gamI_ok (J := J0) (tab_cons g101_ok (tab_cons g102_ok (tab_cons g105_ok (tab_cons g132'_ok (tab_cons g133_ok (tab_nil fls_fun)))))) (tab_cons it189_75_ok (tab_nil fls_it)) noCode_ok) Tryz.func75 (fun args w => by simp)
/-- (*stagepost/vfs.FS).Sync -/
noncomputable def g76 : Fun := denFS ty (gam J0 [(101, g101), (134, g134), (135, g135)]) Tryz.f76
theorem g76_ok : FunOk Tryz.prog 76 g76 := fun_okS ty_ok mixed (gam_ok (J := J0) (tab_cons g101_ok (tab_cons g134_ok (tab_cons g135_ok (tab_nil fls_fun))))) Tryz.func76 (fun args w => by simp)
/-- slices.Chunk[[]stagepost/api.Entry,stagepost/api.Entry]$1 -/
noncomputable def g195 : Fun := denFS ty (gam J0 []) Tryz.f195
theorem g195_ok : FunOk Tryz.prog 195 g195 := fun_okS ty_ok mixed (gam_ok (J := J0) (tab_nil fls_fun)) Tryz.func195 (fun args w => by simp)
/-- slices.Chunk[[]stagepost/api.Entry,stagepost/api.Entry] -/
noncomputable def g147 : Fun := denFS ty (gam J0 [(195, g195)]) Tryz.f147
theorem g147_ok : FunOk Tryz.prog 147 g147 := fun_okS ty_ok mixed (gam_ok (J := J0) (tab_cons g195_ok (tab_nil fls_fun))) Tryz.func147 (fun args w => by simp)
/-- stagepost/frame.Append -/
noncomputable def g72 : Fun := denFS ty (gam J0 [(131, g131)]) Tryz.f72
theorem g72_ok : FunOk Tryz.prog 72 g72 := fun_okS ty_ok mixed (gam_ok (J := J0) (tab_cons g131_ok (tab_nil fls_fun))) Tryz.func72 (fun args w => by simp)
/-- stagepost/sst.framed -/
noncomputable def g149 : Fun := denFS ty (gam J0 [(72, g72)]) Tryz.f149
theorem g149_ok : FunOk Tryz.prog 149 g149 := fun_okS ty_ok mixed (gam_ok (J := J0) (tab_cons g72_ok (tab_nil fls_fun))) Tryz.func149 (fun args w => by simp)
/-- stagepost/bloom.Of -/
noncomputable def g150 : Fun := denFS ty (gam J0 [(138, g138), (139, g139)]) Tryz.f150
theorem g150_ok : FunOk Tryz.prog 150 g150 := fun_okS ty_ok mixed (gam_ok (J := J0) (tab_cons g138_ok (tab_cons g139_ok (tab_nil fls_fun)))) Tryz.func150 (fun args w => by simp)
/-- stagepost/sst.eight -/
noncomputable def g151 : Fun := denFS ty (gam J0 []) Tryz.f151
theorem g151_ok : FunOk Tryz.prog 151 g151 := fun_okS ty_ok mixed (gam_ok (J := J0) (tab_nil fls_fun)) Tryz.func151 (fun args w => by simp)
/-- function 195 as function 95 ranges over it -/
noncomputable def it195_95 : Fun := denF ty (gamI J0 [] [] (denR ty (gamI J0 [(86, g86), (129, g129), (136, g136), (147, g147), (148, g148), (149, g149), (150, g150), (151, g151)] [] noCode))) Tryz.f195
theorem it195_95_ok : ItOk Tryz.prog 195 it195_95 := it_ok ty_ok mixed (gamI_ok (J := J0) (tab_nil fls_fun) (tab_nil fls_it) (code_ok ty_ok mixed (gamI_ok (J := J0) (tab_cons g86_ok (tab_cons g129_ok (tab_cons g136_ok (tab_cons g147_ok (tab_cons g148_ok (tab_cons g149_ok (tab_cons g150_ok (tab_cons g151_ok (tab_nil fls_fun))))))))) (tab_nil fls_it) noCode_ok))) Tryz.func195 (fun args w => by simp)
/-- stagepost/sst.Build -/
noncomputable def g95 : Fun := denFS ty (gamI J0 [(86, g86), (129, g129), (136, g136), (147, g147), (148, g148), (149, g149), (150, g150), (151, g151)] [(195, it195_95)] noCode) Tryz.f95
theorem g95_ok : FunOk Tryz.prog 95 g95 := fun_okS ty_ok mixed (gamI_ok (J := J0) (tab_cons g86_ok (tab_cons g129_ok (tab_cons g136_ok (tab_cons g147_ok (tab_cons g148_ok (tab_cons g149_ok (tab_cons g150_ok (tab_cons g151_ok (tab_nil fls_fun))))))))) (tab_cons it195_95_ok (tab_nil fls_it)) noCode_ok) Tryz.func95 (fun args w => by simp)
/-- stagepost/sst.uneight -/
noncomputable def g152 : Fun := denFS ty (gam J0 []) Tryz.f152
theorem g152_ok : FunOk Tryz.prog 152 g152 := fun_okS ty_ok mixed (gam_ok (J := J0) (tab_nil fls_fun)) Tryz.func152 (fun args w => by simp)
/-- stagepost/sst.indexed$1 -/
noncomputable def g198 : Fun := denFS ty (gam J0 [(193, g193)]) Tryz.f198
theorem g198_ok : FunOk Tryz.prog 198 g198 := fun_okS ty_ok mixed (gam_ok (J := J0) (tab_cons g193_ok (tab_nil fls_fun))) Tryz.func198 (fun args w => by simp)
/-- stagepost/sst.indexed -/
noncomputable def g153 : Fun := denFS ty (gam J0 [(86, g86), (193, g193), (198, g198)]) Tryz.f153
theorem g153_ok : FunOk Tryz.prog 153 g153 := fun_okS ty_ok mixed (gam_ok (J := J0) (tab_cons g86_ok (tab_cons g193_ok (tab_cons g198_ok (tab_nil fls_fun))))) Tryz.func153 (fun args w => by simp)
/-- stagepost/sst.Open -/
noncomputable def g97 : Fun := denFS ty (gam J0 [(105, g105), (137, g137), (143, g143), (152, g152), (153, g153)]) Tryz.f97
theorem g97_ok : FunOk Tryz.prog 97 g97 := fun_okS ty_ok mixed (gam_ok (J := J0) (tab_cons g105_ok (tab_cons g137_ok (tab_cons g143_ok (tab_cons g152_ok (tab_cons g153_ok (tab_nil fls_fun))))))) Tryz.func97 (fun args w => by simp)
/-- (*stagepost/lsm.Store).write -/
noncomputable def g43 : Fun := denFS ty (gam J0 [(54, g54), (55, g55), (56, g56), (75, g75), (76, g76), (95, g95), (96, g96), (97, g97), (98, g98)]) Tryz.f43
theorem g43_ok : FunOk Tryz.prog 43 g43 := fun_okS ty_ok mixed (gam_ok (J := J0) (tab_cons g54_ok (tab_cons g55_ok (tab_cons g56_ok (tab_cons g75_ok (tab_cons g76_ok (tab_cons g95_ok (tab_cons g96_ok (tab_cons g97_ok (tab_cons g98_ok (tab_nil fls_fun))))))))))) Tryz.func43 (fun args w => by simp)
/-- (*stagepost/wal.Wal).Segment -/
noncomputable def g44 : Fun := denFS ty (gam J0 []) Tryz.f44
theorem g44_ok : FunOk Tryz.prog 44 g44 := fun_okS ty_ok mixed (gam_ok (J := J0) (tab_nil fls_fun)) Tryz.func44 (fun args w => by simp)
/-- stagepost/manifest.numbers -/
noncomputable def g174 : Fun := denFS ty (gam J0 []) Tryz.f174
theorem g174_ok : FunOk Tryz.prog 174 g174 := fun_okS ty_ok mixed (gam_ok (J := J0) (tab_nil fls_fun)) Tryz.func174 (fun args w => by simp)
/-- stagepost/manifest.meta -/
noncomputable def g175 : Fun := denFS ty (gam J0 []) Tryz.f175
theorem g175_ok : FunOk Tryz.prog 175 g175 := fun_okS ty_ok mixed (gam_ok (J := J0) (tab_nil fls_fun)) Tryz.func175 (fun args w => by simp)
/-- stagepost/manifest.word -/
noncomputable def g176 : Fun := denFS ty (gam J0 [(129, g129)]) Tryz.f176
theorem g176_ok : FunOk Tryz.prog 176 g176 := fun_okS ty_ok mixed (gam_ok (J := J0) (tab_cons g129_ok (tab_nil fls_fun))) Tryz.func176 (fun args w => by simp)
/-- stagepost/manifest.Encode -/
noncomputable def g108 : Fun := denFS ty (gam J0 [(129, g129), (174, g174), (175, g175), (176, g176)]) Tryz.f108
theorem g108_ok : FunOk Tryz.prog 108 g108 := fun_okS ty_ok mixed (gam_ok (J := J0) (tab_cons g129_ok (tab_cons g174_ok (tab_cons g175_ok (tab_cons g176_ok (tab_nil fls_fun)))))) Tryz.func108 (fun args w => by simp)
end Go.Proofs.YtfbdniomnnpemaaGreatDoor
