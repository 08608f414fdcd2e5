/- Functions as they are reckoned. MADE BY PROGRAM (wip/tools/shal.py). -/
import Derived.Test.YtcifllconkchmaaGreatDoorAmS3
namespace Go.Proofs.YtcifllconkchmaaGreatDoor
open Go Go.Am
set_option maxRecDepth 100000
set_option linter.all false
/-- (*stagepost/mem.Table).Add -/
noncomputable def g231 : Fun := denFS ty (gam J0 [(180, g180), (279, g279), (328, g328)]) Tryz.f231
theorem g231_ok : FunOk Tryz.prog 231 g231 := fun_okS ty_ok mixed (gam_ok (J := J0) (tab_cons g180_ok (tab_cons g279_ok (tab_cons g328_ok (tab_nil fls_fun))))) Tryz.func231 (fun args w => by simp)
/-- (*stagepost/lsm.Store).remember -/
noncomputable def g135 : Fun := denFS ty (gam J0 [(231, g231)]) Tryz.f135
theorem g135_ok : FunOk Tryz.prog 135 g135 := fun_okS ty_ok mixed (gam_ok (J := J0) (tab_cons g231_ok (tab_nil fls_fun))) Tryz.func135 (fun args w => by simp)
/-- stagepost/wal.off -/
noncomputable def g228 : Fun := denFS ty (gam J0 [(130, g130)]) Tryz.f228
theorem g228_ok : FunOk Tryz.prog 228 g228 := fun_okS ty_ok mixed (gam_ok (J := J0) (tab_cons g130_ok (tab_nil fls_fun))) Tryz.func228 (fun args w => by simp)
/-- (*stagepost/wal.Wal).asked -/
noncomputable def g183 : Fun := denFS ty (gam J0 [(228, g228)]) Tryz.f183
theorem g183_ok : FunOk Tryz.prog 183 g183 := fun_okS ty_ok mixed (gam_ok (J := J0) (tab_cons g228_ok (tab_nil fls_fun))) Tryz.func183 (fun args w => by simp)
/-- (*stagepost/vfs.FS).pend -/
noncomputable def g201 : Fun := denFS ty (gam J0 [(303, g303)]) Tryz.f201
theorem g201_ok : FunOk Tryz.prog 201 g201 := fun_okS ty_ok mixed (gam_ok (J := J0) (tab_cons g303_ok (tab_nil fls_fun))) Tryz.func201 (fun args w => by simp)
/-- (*stagepost/vfs.FS).Left -/
noncomputable def s285G (J : Joins) (c213 : AV → H → (AV → H → Prop) → Prop) (c232 : AV → AV → H → (Int → H → Prop) → Prop) (a0 : AV) (h : H) (k : Int → H → Prop) : Prop :=
c232 a0 AV.nils h fun x2 h1 =>
fB (Bool.not (eqI x2 (Int.ofNat 0))) fun b3 =>
br b3 (
k (Int.ofNat 0) h1) (
okNil a0 (
faK 3 a0 fun p4 =>
ldI .i64 p4 h1 fun x5 =>
pushK (.cells false 93 [(.nilm), (.nilm)]) h1 fun n6 h7 =>
c213 a0 h7 fun v9 h8 =>
ck (readsSo (aLoad1 p4 h8) (AV.int .i64 x5)) (
Go.Am.asAgg v9 fun l11 =>
stN 2 (AV.ptr n6 0) l11 h8 fun h10 =>
ck (readsSo (aLoad1 p4 h10) (AV.int .i64 x5)) (
ldV (AV.ptr n6 1) h10 fun v12 =>
aRangeK v12 h10 fun v13 h14 =>
J.lp (α := AV × AV × AV × Unit) (fun r18 v15 d16 h17 =>
aNext v15.2.2.1 h17 fun v19 h20 =>
asTup v19 fun l21 =>
op' (lgetO l21 0) fun v22 =>
asB v22 fun b23 =>
br b23 (
op' (aEntry v15.2.2.1 h20) fun v24 =>
asTup v24 fun l25 =>
op' (lgetO l25 1) fun v26 =>
asI .i64 v26 fun x27 =>
faK 0 v15.1 fun p28 =>
ldV p28 h20 fun v29 =>
op' (aLookup ty 3 131 false v29 (AV.int .i64 x27) h20) fun v30 =>
lenK v30 fun x31 =>
asI .i64 v15.2.1 fun x32 =>
fI (wrapF .i64 (Int.sub x32 (Int.ofNat x31))) fun x33 =>
r18 (v15.1, (AV.int .i64 x33), v15.2.2.1, ()) d16 h20) (
leaveK (gam J [(213, w213 c213), (232, w232 c232)]) d16 h20 fun h34 =>
asI .i64 v15.2.1 fun x35 =>
k x35 h34)) ((AV.ptr n6 0), (AV.int .i64 x5), v13, ()) [] h14))))
noncomputable def s285 : AV → H → (Int → H → Prop) → Prop := s285G J0 s213 s232
noncomputable def w285 (c : AV → H → (Int → H → Prop) → Prop) : Fun := fun xs h k => arg xs fun a0 xs => noArg xs <| c a0 h fun r0 h => k (.int .i64 r0) h
theorem s285_eq (J : Joins) (c213 : AV → H → (AV → H → Prop) → Prop) (c232 : AV → AV → H → (Int → H → Prop) → Prop) (a0 : AV) (h : H) (k : AV → H → Prop) : denF ty (gam J [(213, w213 c213), (232, w232 c232)]) Tryz.f285 [a0] h k = s285G J c213 c232 a0 h (fun r0 h => k (.int .i64 r0) h) := by kernel_rfl
noncomputable def g285 : Fun := w285 s285
theorem g285_ok : FunOk Tryz.prog 285 g285 := (fun_ok ty_ok mixed (gam_ok (J := J0) (tab_cons g213_ok (tab_cons g232_ok (tab_nil fls_fun)))) Tryz.func285 (fun args w => by simp)).imp fun xs h k e0 => by
  obtain ⟨a0, xs0, rfl, e1⟩ := arg_imp e0
  obtain ⟨rfl, e2⟩ := noArg_imp e1
  exact (s285_eq J0 s213 s232 a0 h k).mpr e2
end Go.Proofs.YtcifllconkchmaaGreatDoor
