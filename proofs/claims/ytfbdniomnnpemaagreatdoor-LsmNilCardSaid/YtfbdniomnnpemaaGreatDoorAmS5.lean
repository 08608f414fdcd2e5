/- Functions as they are reckoned. MADE BY PROGRAM (wip/tools/shal.py). -/
import Derived.Test.YtfbdniomnnpemaaGreatDoorAmS4
namespace Go.Proofs.YtfbdniomnnpemaaGreatDoor
open Go Go.Am
set_option maxRecDepth 100000
set_option linter.all false
/-- (*stagepost/vfs.FS).Create -/
noncomputable def g96 : Fun := denF ty (gam J0 [(102, g102), (106, g106), (123, g123)]) Tryz.f96
theorem g96_ok : FunOk Tryz.prog 96 g96 := fun_ok ty_ok mixed (gam_ok (J := J0) (tab_cons g102_ok (tab_cons g106_ok (tab_cons g123_ok (tab_nil fls_fun))))) Tryz.func96 (fun args w => by simp)
/-- (*stagepost/vfs.FS).SyncNames -/
noncomputable def g98 : Fun := denF ty (gam J0 [(123, g123), (134, g134), (154, g154)]) Tryz.f98
theorem g98_ok : FunOk Tryz.prog 98 g98 := fun_ok ty_ok mixed (gam_ok (J := J0) (tab_cons g123_ok (tab_cons g134_ok (tab_cons g154_ok (tab_nil fls_fun))))) Tryz.func98 (fun args w => by simp)
/-- (*stagepost/wal.Wal).begin -/
noncomputable def g94 : Fun := denF ty (gam J0 [(73, g73), (74, g74), (96, g96), (98, g98)]) Tryz.f94
theorem g94_ok : FunOk Tryz.prog 94 g94 := fun_ok ty_ok mixed (gam_ok (J := J0) (tab_cons g73_ok (tab_cons g74_ok (tab_cons g96_ok (tab_cons g98_ok (tab_nil fls_fun)))))) Tryz.func94 (fun args w => by simp)
/-- (*stagepost/wal.Wal).Roll -/
noncomputable def g42 : Fun := denF ty (gam J0 [(69, g69), (94, g94)]) Tryz.f42
theorem g42_ok : FunOk Tryz.prog 42 g42 := fun_ok ty_ok mixed (gam_ok (J := J0) (tab_cons g69_ok (tab_cons g94_ok (tab_nil fls_fun)))) Tryz.func42 (fun args w => by simp)
/-- (*stagepost/vfs.FS).Remove -/
noncomputable def g54 : Fun := denF ty (gam J0 [(101, g101), (102, g102)]) Tryz.f54
theorem g54_ok : FunOk Tryz.prog 54 g54 := fun_ok ty_ok mixed (gam_ok (J := J0) (tab_cons g101_ok (tab_cons g102_ok (tab_nil fls_fun)))) Tryz.func54 (fun args w => by simp)
/-- stagepost/lsm.named -/
noncomputable def g55 : Fun := denF ty (gam J0 [(103, g103), (104, g104)]) Tryz.f55
theorem g55_ok : FunOk Tryz.prog 55 g55 := fun_ok ty_ok mixed (gam_ok (J := J0) (tab_cons g103_ok (tab_cons g104_ok (tab_nil fls_fun)))) Tryz.func55 (fun args w => by simp)
/-- slices.Chunk[[]stagepost/api.Entry,stagepost/api.Entry]$1 -/
noncomputable def g195 : Fun := denF ty (gam J0 []) Tryz.f195
theorem g195_ok : FunOk Tryz.prog 195 g195 := fun_ok ty_ok mixed (gam_ok (J := J0) (tab_nil fls_fun)) Tryz.func195 (fun args w => by simp)
/-- slices.Chunk[[]stagepost/api.Entry,stagepost/api.Entry] -/
noncomputable def g147 : Fun := denF ty (gam J0 [(195, g195)]) Tryz.f147
theorem g147_ok : FunOk Tryz.prog 147 g147 := fun_ok ty_ok mixed (gam_ok (J := J0) (tab_cons g195_ok (tab_nil fls_fun))) Tryz.func147 (fun args w => by simp)
/-- stagepost/sst.framed -/
noncomputable def g149 : Fun := denF ty (gam J0 [(72, g72)]) Tryz.f149
theorem g149_ok : FunOk Tryz.prog 149 g149 := fun_ok ty_ok mixed (gam_ok (J := J0) (tab_cons g72_ok (tab_nil fls_fun))) Tryz.func149 (fun args w => by simp)
/-- stagepost/bloom.Of -/
noncomputable def g150 : Fun := denF ty (gam J0 [(138, g138), (139, g139)]) Tryz.f150
theorem g150_ok : FunOk Tryz.prog 150 g150 := fun_ok ty_ok mixed (gam_ok (J := J0) (tab_cons g138_ok (tab_cons g139_ok (tab_nil fls_fun)))) Tryz.func150 (fun args w => by simp)
/-- stagepost/sst.eight -/
noncomputable def g151 : Fun := denF ty (gam J0 []) Tryz.f151
theorem g151_ok : FunOk Tryz.prog 151 g151 := fun_ok ty_ok mixed (gam_ok (J := J0) (tab_nil fls_fun)) Tryz.func151 (fun args w => by simp)
/-- stagepost/sst.Build -/
noncomputable def g95 : Fun := denF ty (gam J0 [(86, g86), (129, g129), (136, g136), (147, g147), (148, g148), (149, g149), (150, g150), (151, g151)]) Tryz.f95
theorem g95_ok : FunOk Tryz.prog 95 g95 := fun_ok ty_ok mixed (gam_ok (J := J0) (tab_cons g86_ok (tab_cons g129_ok (tab_cons g136_ok (tab_cons g147_ok (tab_cons g148_ok (tab_cons g149_ok (tab_cons g150_ok (tab_cons g151_ok (tab_nil fls_fun)))))))))) Tryz.func95 (fun args w => by simp)
/-- stagepost/sst.uneight -/
noncomputable def g152 : Fun := denF ty (gam J0 []) Tryz.f152
theorem g152_ok : FunOk Tryz.prog 152 g152 := fun_ok ty_ok mixed (gam_ok (J := J0) (tab_nil fls_fun)) Tryz.func152 (fun args w => by simp)
/-- stagepost/sst.indexed$1 -/
noncomputable def g198 : Fun := denF ty (gam J0 [(193, g193)]) Tryz.f198
theorem g198_ok : FunOk Tryz.prog 198 g198 := fun_ok ty_ok mixed (gam_ok (J := J0) (tab_cons g193_ok (tab_nil fls_fun))) Tryz.func198 (fun args w => by simp)
/-- stagepost/sst.indexed -/
noncomputable def g153 : Fun := denF ty (gam J0 [(86, g86), (193, g193), (198, g198)]) Tryz.f153
theorem g153_ok : FunOk Tryz.prog 153 g153 := fun_ok ty_ok mixed (gam_ok (J := J0) (tab_cons g86_ok (tab_cons g193_ok (tab_cons g198_ok (tab_nil fls_fun))))) Tryz.func153 (fun args w => by simp)
/-- stagepost/sst.Open -/
noncomputable def g97 : Fun := denF ty (gam J0 [(105, g105), (137, g137), (143, g143), (152, g152), (153, g153)]) Tryz.f97
theorem g97_ok : FunOk Tryz.prog 97 g97 := fun_ok ty_ok mixed (gam_ok (J := J0) (tab_cons g105_ok (tab_cons g137_ok (tab_cons g143_ok (tab_cons g152_ok (tab_cons g153_ok (tab_nil fls_fun))))))) Tryz.func97 (fun args w => by simp)
/-- (*stagepost/lsm.Store).write -/
noncomputable def g43 : Fun := denF ty (gam J0 [(54, g54), (55, g55), (56, g56), (75, g75), (76, g76), (95, g95), (96, g96), (97, g97), (98, g98)]) Tryz.f43
theorem g43_ok : FunOk Tryz.prog 43 g43 := fun_ok ty_ok mixed (gam_ok (J := J0) (tab_cons g54_ok (tab_cons g55_ok (tab_cons g56_ok (tab_cons g75_ok (tab_cons g76_ok (tab_cons g95_ok (tab_cons g96_ok (tab_cons g97_ok (tab_cons g98_ok (tab_nil fls_fun))))))))))) Tryz.func43 (fun args w => by simp)
/-- (*stagepost/wal.Wal).Segment -/
noncomputable def g44 : Fun := denF ty (gam J0 []) Tryz.f44
theorem g44_ok : FunOk Tryz.prog 44 g44 := fun_ok ty_ok mixed (gam_ok (J := J0) (tab_nil fls_fun)) Tryz.func44 (fun args w => by simp)
/-- stagepost/manifest.numbers -/
noncomputable def g174 : Fun := denF ty (gam J0 []) Tryz.f174
theorem g174_ok : FunOk Tryz.prog 174 g174 := fun_ok ty_ok mixed (gam_ok (J := J0) (tab_nil fls_fun)) Tryz.func174 (fun args w => by simp)
/-- stagepost/manifest.meta -/
noncomputable def g175 : Fun := denF ty (gam J0 []) Tryz.f175
theorem g175_ok : FunOk Tryz.prog 175 g175 := fun_ok ty_ok mixed (gam_ok (J := J0) (tab_nil fls_fun)) Tryz.func175 (fun args w => by simp)
/-- stagepost/manifest.word -/
noncomputable def g176 : Fun := denF ty (gam J0 [(129, g129)]) Tryz.f176
theorem g176_ok : FunOk Tryz.prog 176 g176 := fun_ok ty_ok mixed (gam_ok (J := J0) (tab_cons g129_ok (tab_nil fls_fun))) Tryz.func176 (fun args w => by simp)
end Go.Proofs.YtfbdniomnnpemaaGreatDoor
