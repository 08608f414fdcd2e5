/- Functions as they are reckoned. MADE BY PROGRAM (wip/tools/shal.py). -/
import Derived.Test.YtcifllconkchmaaGreatDoorAmH285
namespace Go.Proofs.YtcifllconkchmaaGreatDoor
open Go Go.Am
set_option maxRecDepth 100000
set_option linter.all false
/-- slices.Chunk[[]byte,byte]$1 -/
noncomputable def g352 : Fun := denFS ty (gam J0 []) Tryz.f352
theorem g352_ok : FunOk Tryz.prog 352 g352 := fun_okS ty_ok mixed (gam_ok (J := J0) (tab_nil fls_fun)) Tryz.func352 (fun args w => by simp)
/-- slices.Chunk[[]byte,byte] -/
noncomputable def g286 : Fun := denFS ty (gam J0 [(352, g352)]) Tryz.f286
theorem g286_ok : FunOk Tryz.prog 286 g286 := fun_okS ty_ok mixed (gam_ok (J := J0) (tab_cons g352_ok (tab_nil fls_fun))) Tryz.func286 (fun args w => by simp)
/-- function 352 as function 187 ranges over it -/
noncomputable def it352_187 : Fun := denF ty (gamI J0 [] [] (denR ty (gamI J0 [(200, g200), (201, g201), (211, g211), (285, g285'), (286, g286)] [] noCode))) Tryz.f352
theorem it352_187_ok : ItOk Tryz.prog 352 it352_187 := it_ok ty_ok mixed (gamI_ok (J := J0) (tab_nil fls_fun) (tab_nil fls_it) (code_ok ty_ok mixed (gamI_ok (J := J0) (tab_cons g200_ok (tab_cons g201_ok (tab_cons g211_ok (tab_cons g285'_ok (tab_cons g286_ok (tab_nil fls_fun)))))) (tab_nil fls_it) noCode_ok))) Tryz.func352 (fun args w => by simp)
/-- (*stagepost/vfs.FS).Append -/
noncomputable def g187 : Fun := denFS ty (gamI J0 [(200, g200), (201, g201), (211, g211), (285, g285'), (286, g286)] [(352, it352_187)] noCode) Tryz.f187
theorem g187_ok : FunOk Tryz.prog 187 g187 := fun_okS ty_ok mixed (gamI_ok (J := J0) (tab_cons g200_ok (tab_cons g201_ok (tab_cons g211_ok (tab_cons g285'_ok (tab_cons g286_ok (tab_nil fls_fun)))))) (tab_cons it352_187_ok (tab_nil fls_it)) noCode_ok) Tryz.func187 (fun args w => by simp)
/-- (*stagepost/vfs.FS).Sync -/
noncomputable def g188 : Fun := denFS ty (gam J0 [(200, g200), (287, g287), (288, g288)]) Tryz.f188
theorem g188_ok : FunOk Tryz.prog 188 g188 := fun_okS ty_ok mixed (gam_ok (J := J0) (tab_cons g200_ok (tab_cons g287_ok (tab_cons g288_ok (tab_nil fls_fun))))) Tryz.func188 (fun args w => by simp)
/-- (*stagepost/wal.Wal).seen -/
noncomputable def g193 : Fun := denFS ty (gam J0 []) Tryz.f193
theorem g193_ok : FunOk Tryz.prog 193 g193 := fun_okS ty_ok mixed (gam_ok (J := J0) (tab_nil fls_fun)) Tryz.func193 (fun args w => by simp)
/-- stagepost/wal.Name -/
noncomputable def g278 : Fun := denFS ty (gam J0 [(202, g202), (203, g203)]) Tryz.f278
theorem g278_ok : FunOk Tryz.prog 278 g278 := fun_okS ty_ok mixed (gam_ok (J := J0) (tab_cons g202_ok (tab_cons g203_ok (tab_nil fls_fun)))) Tryz.func278 (fun args w => by simp)
/-- stagepost/wal.text -/
noncomputable def g370 : Fun := denFS ty (gam J0 [(68, g68)]) Tryz.f370
theorem g370_ok : FunOk Tryz.prog 370 g370 := fun_okS ty_ok mixed (gam_ok (J := J0) (tab_cons g68_ok (tab_nil fls_fun))) Tryz.func370 (fun args w => by simp)
/-- stagepost/wal.Encode -/
noncomputable def g311 : Fun := denFS ty (gam J0 [(68, g68), (310, g310), (370, g370)]) Tryz.f311
theorem g311_ok : FunOk Tryz.prog 311 g311 := fun_okS ty_ok mixed (gam_ok (J := J0) (tab_cons g68_ok (tab_cons g310_ok (tab_cons g370_ok (tab_nil fls_fun))))) Tryz.func311 (fun args w => by simp)
/-- (*stagepost/wal.Wal).Append -/
noncomputable def g207 : Fun := denFS ty (gam J0 [(183, g183), (187, g187), (188, g188), (193, g193), (217, g217), (278, g278), (310, g310), (311, g311)]) Tryz.f207
theorem g207_ok : FunOk Tryz.prog 207 g207 := fun_okS ty_ok mixed (gam_ok (J := J0) (tab_cons g183_ok (tab_cons g187_ok (tab_cons g188_ok (tab_cons g193_ok (tab_cons g217_ok (tab_cons g278_ok (tab_cons g310_ok (tab_cons g311_ok (tab_nil fls_fun)))))))))) Tryz.func207 (fun args w => by simp)
/-- (*stagepost/lsm.Store).Apply -/
noncomputable def g118 : Fun := denFS ty (gam J0 [(87, g87), (135, g135), (207, g207)]) Tryz.f118
theorem g118_ok : FunOk Tryz.prog 118 g118 := fun_okS ty_ok mixed (gam_ok (J := J0) (tab_cons g87_ok (tab_cons g135_ok (tab_cons g207_ok (tab_nil fls_fun))))) Tryz.func118 (fun args w => by simp)
/-- (*stagepost/server.Server).apply -/
noncomputable def g52 : Fun := denFS ty (gam J0 [(118, g118)]) Tryz.f52
theorem g52_ok : FunOk Tryz.prog 52 g52 := fun_okS ty_ok mixed (gam_ok (J := J0) (tab_cons g118_ok (tab_nil fls_fun))) Tryz.func52 (fun args w => by simp)
/-- (*stagepost/server.Server).keep -/
noncomputable def g30 : Fun := denFS ty (gam J0 [(51, g51), (52, g52), (68, g68)]) Tryz.f30
theorem g30_ok : FunOk Tryz.prog 30 g30 := fun_okS ty_ok mixed (gam_ok (J := J0) (tab_cons g51_ok (tab_cons g52_ok (tab_cons g68_ok (tab_nil fls_fun))))) Tryz.func30 (fun args w => by simp)
/-- (*stagepost/server.Server).raise -/
noncomputable def g31 : Fun := denFS ty (gam J0 [(30, g30)]) Tryz.f31
theorem g31_ok : FunOk Tryz.prog 31 g31 := fun_okS ty_ok mixed (gam_ok (J := J0) (tab_cons g30_ok (tab_nil fls_fun))) Tryz.func31 (fun args w => by simp)
/-- (*stagepost/server.Server).Begin$1 -/
noncomputable def g27 : Fun := denFS ty (gam J0 [(28, g28), (29, g29), (30, g30), (31, g31)]) Tryz.f27
theorem g27_ok : FunOk Tryz.prog 27 g27 := fun_okS ty_ok mixed (gam_ok (J := J0) (tab_cons g28_ok (tab_cons g29_ok (tab_cons g30_ok (tab_cons g31_ok (tab_nil fls_fun)))))) Tryz.func27 (fun args w => by simp)
/-- (*stagepost/hlc.Clock).Last -/
noncomputable def g34 : Fun := denFS ty (gam J0 [(65, g65)]) Tryz.f34
theorem g34_ok : FunOk Tryz.prog 34 g34 := fun_okS ty_ok mixed (gam_ok (J := J0) (tab_cons g65_ok (tab_nil fls_fun))) Tryz.func34 (fun args w => by simp)
/-- stagepost/hlc.Check -/
noncomputable def g49 : Fun := denFS ty (gam J0 []) Tryz.f49
theorem g49_ok : FunOk Tryz.prog 49 g49 := fun_okS ty_ok mixed (gam_ok (J := J0) (tab_nil fls_fun)) Tryz.func49 (fun args w => by simp)
/-- (*stagepost/hlc.Clock).Hear -/
noncomputable def g43 : Fun := denFS ty (gam J0 [(49, g49), (65, g65), (66, g66), (67, g67)]) Tryz.f43
theorem g43_ok : FunOk Tryz.prog 43 g43 := fun_okS ty_ok mixed (gam_ok (J := J0) (tab_cons g49_ok (tab_cons g65_ok (tab_cons g66_ok (tab_cons g67_ok (tab_nil fls_fun)))))) Tryz.func43 (fun args w => by simp)
/-- stagepost/server.stamps -/
noncomputable def g142 : Fun := denFS ty (gam J0 [(49, g49)]) Tryz.f142
theorem g142_ok : FunOk Tryz.prog 142 g142 := fun_okS ty_ok mixed (gam_ok (J := J0) (tab_cons g49_ok (tab_nil fls_fun))) Tryz.func142 (fun args w => by simp)
/-- stagepost/record.Tag -/
noncomputable def g262 : Fun := denFS ty (gam J0 []) Tryz.f262
theorem g262_ok : FunOk Tryz.prog 262 g262 := fun_okS ty_ok mixed (gam_ok (J := J0) (tab_nil fls_fun)) Tryz.func262 (fun args w => by simp)
/-- stagepost/server.txn -/
noncomputable def g242 : Fun := denFS ty (gam J0 [(262, g262)]) Tryz.f242
theorem g242_ok : FunOk Tryz.prog 242 g242 := fun_okS ty_ok mixed (gam_ok (J := J0) (tab_cons g262_ok (tab_nil fls_fun))) Tryz.func242 (fun args w => by simp)
/-- stagepost/server.key -/
noncomputable def g243 : Fun := denFS ty (gam J0 []) Tryz.f243
theorem g243_ok : FunOk Tryz.prog 243 g243 := fun_okS ty_ok mixed (gam_ok (J := J0) (tab_nil fls_fun)) Tryz.func243 (fun args w => by simp)
end Go.Proofs.YtcifllconkchmaaGreatDoor
