/- Functions as they are reckoned. MADE BY PROGRAM (wip/tools/shal.py). -/
import Derived.Test.YtfbdniomnnpemaaGreatDoorAmS3
namespace Go.Proofs.YtfbdniomnnpemaaGreatDoor
open Go Go.Am
set_option maxRecDepth 100000
set_option linter.all false
/-- (*stagepost/vfs.FS).Create -/
noncomputable def g96 : Fun := denFS ty (gam J0 [(102, g102), (106, g106), (123, g123)]) Tryz.f96
theorem g96_ok : FunOk Tryz.prog 96 g96 := fun_okS ty_ok mixed (gam_ok (J := J0) (tab_cons g102_ok (tab_cons g106_ok (tab_cons g123_ok (tab_nil fls_fun))))) Tryz.func96 (fun args w => by simp)
/-- (*stagepost/vfs.FS).Sync$1 -/
noncomputable def g135 : Fun := denFS ty (gam J0 []) Tryz.f135
theorem g135_ok : FunOk Tryz.prog 135 g135 := fun_okS ty_ok mixed (gam_ok (J := J0) (tab_nil fls_fun)) Tryz.func135 (fun args w => by simp)
/-- (*stagepost/vfs.FS).SyncNames$1 -/
noncomputable def g154 : Fun := denFS ty (gam J0 []) Tryz.f154
theorem g154_ok : FunOk Tryz.prog 154 g154 := fun_okS ty_ok mixed (gam_ok (J := J0) (tab_nil fls_fun)) Tryz.func154 (fun args w => by simp)
/-- (*stagepost/vfs.FS).settle -/
noncomputable def g134 : Fun := denFS ty (gam J0 [(67, g67), (135, g135), (154, g154), (159, g159)]) Tryz.f134
theorem g134_ok : FunOk Tryz.prog 134 g134 := fun_okS ty_ok mixed (gam_ok (J := J0) (tab_cons g67_ok (tab_cons g135_ok (tab_cons g154_ok (tab_cons g159_ok (tab_nil fls_fun)))))) Tryz.func134 (fun args w => by simp)
/-- (*stagepost/vfs.FS).SyncNames -/
noncomputable def g98 : Fun := denFS ty (gam J0 [(123, g123), (134, g134), (154, g154)]) Tryz.f98
theorem g98_ok : FunOk Tryz.prog 98 g98 := fun_okS ty_ok mixed (gam_ok (J := J0) (tab_cons g123_ok (tab_cons g134_ok (tab_cons g154_ok (tab_nil fls_fun))))) Tryz.func98 (fun args w => by simp)
/-- (*stagepost/wal.Wal).begin -/
noncomputable def g94 : Fun := denFS ty (gam J0 [(73, g73), (74, g74), (96, g96), (98, g98)]) Tryz.f94
theorem g94_ok : FunOk Tryz.prog 94 g94 := fun_okS ty_ok mixed (gam_ok (J := J0) (tab_cons g73_ok (tab_cons g74_ok (tab_cons g96_ok (tab_cons g98_ok (tab_nil fls_fun)))))) Tryz.func94 (fun args w => by simp)
/-- (*stagepost/wal.Wal).Roll -/
noncomputable def g42 : Fun := denFS ty (gam J0 [(69, g69), (94, g94)]) Tryz.f42
theorem g42_ok : FunOk Tryz.prog 42 g42 := fun_okS ty_ok mixed (gam_ok (J := J0) (tab_cons g69_ok (tab_cons g94_ok (tab_nil fls_fun)))) Tryz.func42 (fun args w => by simp)
/-- (*stagepost/vfs.FS).Remove -/
noncomputable def g54 : Fun := denFS ty (gam J0 [(101, g101), (102, g102)]) Tryz.f54
theorem g54_ok : FunOk Tryz.prog 54 g54 := fun_okS ty_ok mixed (gam_ok (J := J0) (tab_cons g101_ok (tab_cons g102_ok (tab_nil fls_fun)))) Tryz.func54 (fun args w => by simp)
/-- stagepost/lsm.named -/
noncomputable def g55 : Fun := denFS ty (gam J0 [(103, g103), (104, g104)]) Tryz.f55
theorem g55_ok : FunOk Tryz.prog 55 g55 := fun_okS ty_ok mixed (gam_ok (J := J0) (tab_cons g103_ok (tab_cons g104_ok (tab_nil fls_fun)))) Tryz.func55 (fun args w => by simp)
/-- (*stagepost/vfs.FS).Left -/
noncomputable def s132G (J : Joins) (c106 : AV → H → (AV → H → Prop) → Prop) (c123 : AV → AV → H → (Int → H → Prop) → Prop) (a0 : AV) (h : H) (k : Int → H → Prop) : Prop :=
c123 a0 AV.nils h fun x2 h1 =>
fB (Bool.not (eqI x2 (Int.ofNat 0))) fun b3 =>
br b3 (
k (Int.ofNat 0) h1) (
okNil a0 (
faK 3 a0 fun p4 =>
ldI .i64 p4 h1 fun x5 =>
pushK (.cells false 60 [(.nilm), (.nilm)]) h1 fun n6 h7 =>
c106 a0 h7 fun v9 h8 =>
ck (readsSo (aLoad1 p4 h8) (AV.int .i64 x5)) (
Go.Am.asAgg v9 fun l11 =>
stN 2 (AV.ptr n6 0) l11 h8 fun h10 =>
ck (readsSo (aLoad1 p4 h10) (AV.int .i64 x5)) (
ldV (AV.ptr n6 1) h10 fun v12 =>
aRangeK v12 h10 fun v13 h14 =>
J.lp (α := AV × AV × AV × Unit) (fun r18 v15 d16 h17 =>
aNext v15.2.2.1 h17 fun v19 h20 =>
asTup v19 fun l21 =>
op' (lgetO l21 0) fun v22 =>
asB v22 fun b23 =>
br b23 (
op' (aEntry v15.2.2.1 h20) fun v24 =>
asTup v24 fun l25 =>
op' (lgetO l25 1) fun v26 =>
asI .i64 v26 fun x27 =>
faK 0 v15.1 fun p28 =>
ldV p28 h20 fun v29 =>
op' (aLookup ty 3 117 false v29 (AV.int .i64 x27) h20) fun v30 =>
lenK v30 fun x31 =>
asI .i64 v15.2.1 fun x32 =>
fI (wrapF .i64 (Int.sub x32 (Int.ofNat x31))) fun x33 =>
r18 (v15.1, (AV.int .i64 x33), v15.2.2.1, ()) d16 h20) (
leaveK (gam J [(106, w106 c106), (123, w123 c123)]) d16 h20 fun h34 =>
asI .i64 v15.2.1 fun x35 =>
k x35 h34)) ((AV.ptr n6 0), (AV.int .i64 x5), v13, ()) [] h14))))
noncomputable def s132 : AV → H → (Int → H → Prop) → Prop := s132G J0 s106 s123
noncomputable def w132 (c : AV → H → (Int → H → Prop) → Prop) : Fun := fun xs h k => arg xs fun a0 xs => noArg xs <| c a0 h fun r0 h => k (.int .i64 r0) h
theorem s132_eq (J : Joins) (c106 : AV → H → (AV → H → Prop) → Prop) (c123 : AV → AV → H → (Int → H → Prop) → Prop) (a0 : AV) (h : H) (k : AV → H → Prop) : denF ty (gam J [(106, w106 c106), (123, w123 c123)]) Tryz.f132 [a0] h k = s132G J c106 c123 a0 h (fun r0 h => k (.int .i64 r0) h) := by kernel_rfl
noncomputable def g132 : Fun := w132 s132
theorem g132_ok : FunOk Tryz.prog 132 g132 := (fun_ok ty_ok mixed (gam_ok (J := J0) (tab_cons g106_ok (tab_cons g123_ok (tab_nil fls_fun)))) Tryz.func132 (fun args w => by simp)).imp fun xs h k e0 => by
  obtain ⟨a0, xs0, rfl, e1⟩ := arg_imp e0
  obtain ⟨rfl, e2⟩ := noArg_imp e1
  exact (s132_eq J0 s106 s123 a0 h k).mpr e2
end Go.Proofs.YtfbdniomnnpemaaGreatDoor
