/- Functions as they are reckoned. MADE BY PROGRAM (wip/tools/shal.py). -/
import Derived.Test.YtcifllconkchmaaGreatDoorAmS2
namespace Go.Proofs.YtcifllconkchmaaGreatDoor
open Go Go.Am
set_option maxRecDepth 100000
set_option linter.all false
/-- stagepost/frame.Append -/
noncomputable def g217 : Fun := denFS ty (gam J0 [(323, g323)]) Tryz.f217
theorem g217_ok : FunOk Tryz.prog 217 g217 := fun_okS ty_ok mixed (gam_ok (J := J0) (tab_cons g323_ok (tab_nil fls_fun))) Tryz.func217 (fun args w => by simp)
/-- (*stagepost/manifest.Manifest).File -/
noncomputable def g218 : Fun := denFS ty (gam J0 [(194, g194), (225, g225)]) Tryz.f218
theorem g218_ok : FunOk Tryz.prog 218 g218 := fun_okS ty_ok mixed (gam_ok (J := J0) (tab_cons g194_ok (tab_cons g225_ok (tab_nil fls_fun)))) Tryz.func218 (fun args w => by simp)
/-- stagepost/server.wall -/
noncomputable def g28 : Fun := denFS ty (gam J0 [(64, g64)]) Tryz.f28
theorem g28_ok : FunOk Tryz.prog 28 g28 := fun_okS ty_ok mixed (gam_ok (J := J0) (tab_cons g64_ok (tab_nil fls_fun))) Tryz.func28 (fun args w => by simp)
/-- (*stagepost/hlc.Clock).wrong -/
noncomputable def g65 : Fun := denFS ty (gam J0 []) Tryz.f65
theorem g65_ok : FunOk Tryz.prog 65 g65 := fun_okS ty_ok mixed (gam_ok (J := J0) (tab_nil fls_fun)) Tryz.func65 (fun args w => by simp)
/-- stagepost/hlc.wall -/
noncomputable def g66 : Fun := denFS ty (gam J0 []) Tryz.f66
theorem g66_ok : FunOk Tryz.prog 66 g66 := fun_okS ty_ok mixed (gam_ok (J := J0) (tab_nil fls_fun)) Tryz.func66 (fun args w => by simp)
/-- cmp.Or[int] -/
noncomputable def s112G (J : Joins) (a0 : AV) (h : H) (k : Int → H → Prop) : Prop :=
lenK a0 fun x1 =>
J.lp (α := AV × AV × AV × AV × Unit) (fun r5 v2 d3 h4 =>
asI .i64 v2.2.2.2.1 fun x6 =>
asI .i64 v2.2.2.1 fun x7 =>
fB (ltI x6 x7) fun b8 =>
br b8 (
ixK 1 v2.2.1 v2.2.2.2.1 fun p9 =>
ldI .i64 p9 h4 fun x10 =>
asI .i64 v2.1 fun x11 =>
fB (Bool.not (eqI x10 x11)) fun b12 =>
br b12 (
leaveK (gam J []) d3 h4 fun h13 =>
k x10 h13) (
asI .i64 v2.2.2.2.1 fun x14 =>
fI (wrapF .i64 (Int.add x14 (Int.ofNat 1))) fun x15 =>
r5 (v2.1, v2.2.1, v2.2.2.1, (AV.int .i64 x15), ()) d3 h4)) (
leaveK (gam J []) d3 h4 fun h16 =>
asI .i64 v2.1 fun x17 =>
k x17 h16)) ((AV.int .i64 (Int.ofNat 0)), a0, (AV.int .i64 (Int.ofNat x1)), (AV.int .i64 (Int.ofNat 0)), ()) [] h
noncomputable def s112 : AV → H → (Int → H → Prop) → Prop := s112G J0 
noncomputable def w112 (c : AV → H → (Int → H → Prop) → Prop) : Fun := fun xs h k => arg xs fun a0 xs => noArg xs <| c a0 h fun r0 h => k (.int .i64 r0) h
theorem s112_eq (J : Joins) (a0 : AV) (h : H) (k : AV → H → Prop) : denF ty (gam J []) Tryz.f112 [a0] h k = s112G J  a0 h (fun r0 h => k (.int .i64 r0) h) := by kernel_rfl
noncomputable def g112 : Fun := w112 s112
theorem g112_ok : FunOk Tryz.prog 112 g112 := (fun_ok ty_ok mixed (gam_ok (J := J0) (tab_nil fls_fun)) Tryz.func112 (fun args w => by simp)).imp fun xs h k e0 => by
  obtain ⟨a0, xs0, rfl, e1⟩ := arg_imp e0
  obtain ⟨rfl, e2⟩ := noArg_imp e1
  exact (s112_eq J0  a0 h k).mpr e2
/-- cmp.isNaN[int64] -/
noncomputable def s204G (J : Joins) (a0 : Int) (h : H) (k : Bool → H → Prop) : Prop :=
fB (Bool.not (eqI a0 a0)) fun b1 =>
k b1 h
noncomputable def s204 : Int → H → (Bool → H → Prop) → Prop := s204G J0 
noncomputable def w204 (c : Int → H → (Bool → H → Prop) → Prop) : Fun := fun xs h k => arg xs fun a0 xs => noArg xs <| asI .i64 a0 fun a0 => c a0 h fun r0 h => k (.bool r0) h
theorem s204_eq (J : Joins) (a0 : Int) (h : H) (k : AV → H → Prop) : denF ty (gam J []) Tryz.f204 [(.int .i64 a0)] h k = s204G J  a0 h (fun r0 h => k (.bool r0) h) := by kernel_rfl
noncomputable def g204 : Fun := w204 s204
theorem g204_ok : FunOk Tryz.prog 204 g204 := (fun_ok ty_ok mixed (gam_ok (J := J0) (tab_nil fls_fun)) Tryz.func204 (fun args w => by simp)).imp fun xs h k e0 => by
  obtain ⟨a0, xs0, rfl, e1⟩ := arg_imp e0
  obtain ⟨rfl, e2⟩ := noArg_imp e1
  obtain ⟨a0, rfl, e3⟩ := asI_iff.1 e2
  exact (s204_eq J0  a0 h k).mpr e3
/-- cmp.Compare[int64] -/
noncomputable def s113G (J : Joins) (c204 : Int → H → (Bool → H → Prop) → Prop) (a0 : Int) (a1 : Int) (h : H) (k : Int → H → Prop) : Prop :=
c204 a0 h fun b2 h1 =>
c204 a1 h1 fun b4 h3 =>
br b2 (
br b4 (
k (Int.ofNat 0) h3) (
k (Int.negSucc 0) h3)) (
br b4 (
k (Int.ofNat 1) h3) (
fB (ltI a0 a1) fun b5 =>
br b5 (
k (Int.negSucc 0) h3) (
fB (ltI a1 a0) fun b6 =>
br b6 (
k (Int.ofNat 1) h3) (
k (Int.ofNat 0) h3))))
noncomputable def s113 : Int → Int → H → (Int → H → Prop) → Prop := s113G J0 s204
noncomputable def w113 (c : Int → Int → H → (Int → H → Prop) → Prop) : Fun := fun xs h k => arg xs fun a0 xs => arg xs fun a1 xs => noArg xs <| asI .i64 a0 fun a0 => asI .i64 a1 fun a1 => c a0 a1 h fun r0 h => k (.int .i64 r0) h
theorem s113_eq (J : Joins) (c204 : Int → H → (Bool → H → Prop) → Prop) (a0 : Int) (a1 : Int) (h : H) (k : AV → H → Prop) : denF ty (gam J [(204, w204 c204)]) Tryz.f113 [(.int .i64 a0), (.int .i64 a1)] h k = s113G J c204 a0 a1 h (fun r0 h => k (.int .i64 r0) h) := by kernel_rfl
noncomputable def g113 : Fun := w113 s113
theorem g113_ok : FunOk Tryz.prog 113 g113 := (fun_ok ty_ok mixed (gam_ok (J := J0) (tab_cons g204_ok (tab_nil fls_fun))) Tryz.func113 (fun args w => by simp)).imp fun xs h k e0 => by
  obtain ⟨a0, xs0, rfl, e1⟩ := arg_imp e0
  obtain ⟨a1, xs1, rfl, e2⟩ := arg_imp e1
  obtain ⟨rfl, e3⟩ := noArg_imp e2
  obtain ⟨a0, rfl, e4⟩ := asI_iff.1 e3
  obtain ⟨a1, rfl, e5⟩ := asI_iff.1 e4
  exact (s113_eq J0 s204 a0 a1 h k).mpr e5
/-- cmp.isNaN[int32] -/
noncomputable def s205G (J : Joins) (a0 : Int) (h : H) (k : Bool → H → Prop) : Prop :=
fB (Bool.not (eqI a0 a0)) fun b1 =>
k b1 h
noncomputable def s205 : Int → H → (Bool → H → Prop) → Prop := s205G J0 
noncomputable def w205 (c : Int → H → (Bool → H → Prop) → Prop) : Fun := fun xs h k => arg xs fun a0 xs => noArg xs <| asI .i32 a0 fun a0 => c a0 h fun r0 h => k (.bool r0) h
theorem s205_eq (J : Joins) (a0 : Int) (h : H) (k : AV → H → Prop) : denF ty (gam J []) Tryz.f205 [(.int .i32 a0)] h k = s205G J  a0 h (fun r0 h => k (.bool r0) h) := by kernel_rfl
noncomputable def g205 : Fun := w205 s205
theorem g205_ok : FunOk Tryz.prog 205 g205 := (fun_ok ty_ok mixed (gam_ok (J := J0) (tab_nil fls_fun)) Tryz.func205 (fun args w => by simp)).imp fun xs h k e0 => by
  obtain ⟨a0, xs0, rfl, e1⟩ := arg_imp e0
  obtain ⟨rfl, e2⟩ := noArg_imp e1
  obtain ⟨a0, rfl, e3⟩ := asI_iff.1 e2
  exact (s205_eq J0  a0 h k).mpr e3
/-- cmp.Compare[int32] -/
noncomputable def s114G (J : Joins) (c205 : Int → H → (Bool → H → Prop) → Prop) (a0 : Int) (a1 : Int) (h : H) (k : Int → H → Prop) : Prop :=
c205 a0 h fun b2 h1 =>
c205 a1 h1 fun b4 h3 =>
br b2 (
br b4 (
k (Int.ofNat 0) h3) (
k (Int.negSucc 0) h3)) (
br b4 (
k (Int.ofNat 1) h3) (
fB (ltI a0 a1) fun b5 =>
br b5 (
k (Int.negSucc 0) h3) (
fB (ltI a1 a0) fun b6 =>
br b6 (
k (Int.ofNat 1) h3) (
k (Int.ofNat 0) h3))))
noncomputable def s114 : Int → Int → H → (Int → H → Prop) → Prop := s114G J0 s205
noncomputable def w114 (c : Int → Int → H → (Int → H → Prop) → Prop) : Fun := fun xs h k => arg xs fun a0 xs => arg xs fun a1 xs => noArg xs <| asI .i32 a0 fun a0 => asI .i32 a1 fun a1 => c a0 a1 h fun r0 h => k (.int .i64 r0) h
theorem s114_eq (J : Joins) (c205 : Int → H → (Bool → H → Prop) → Prop) (a0 : Int) (a1 : Int) (h : H) (k : AV → H → Prop) : denF ty (gam J [(205, w205 c205)]) Tryz.f114 [(.int .i32 a0), (.int .i32 a1)] h k = s114G J c205 a0 a1 h (fun r0 h => k (.int .i64 r0) h) := by kernel_rfl
noncomputable def g114 : Fun := w114 s114
theorem g114_ok : FunOk Tryz.prog 114 g114 := (fun_ok ty_ok mixed (gam_ok (J := J0) (tab_cons g205_ok (tab_nil fls_fun))) Tryz.func114 (fun args w => by simp)).imp fun xs h k e0 => by
  obtain ⟨a0, xs0, rfl, e1⟩ := arg_imp e0
  obtain ⟨a1, xs1, rfl, e2⟩ := arg_imp e1
  obtain ⟨rfl, e3⟩ := noArg_imp e2
  obtain ⟨a0, rfl, e4⟩ := asI_iff.1 e3
  obtain ⟨a1, rfl, e5⟩ := asI_iff.1 e4
  exact (s114_eq J0 s205 a0 a1 h k).mpr e5
/-- stagepost/hlc.Compare -/
noncomputable def g50 : Fun := denFS ty (gam J0 [(112, g112), (113, g113), (114, g114)]) Tryz.f50
theorem g50_ok : FunOk Tryz.prog 50 g50 := fun_okS ty_ok mixed (gam_ok (J := J0) (tab_cons g112_ok (tab_cons g113_ok (tab_cons g114_ok (tab_nil fls_fun))))) Tryz.func50 (fun args w => by simp)
/-- stagepost/hlc.Max -/
noncomputable def g126 : Fun := denFS ty (gam J0 [(50, g50)]) Tryz.f126
theorem g126_ok : FunOk Tryz.prog 126 g126 := fun_okS ty_ok mixed (gam_ok (J := J0) (tab_cons g50_ok (tab_nil fls_fun))) Tryz.func126 (fun args w => by simp)
/-- (*stagepost/hlc.Clock).raise -/
noncomputable def g67 : Fun := denFS ty (gam J0 [(126, g126)]) Tryz.f67
theorem g67_ok : FunOk Tryz.prog 67 g67 := fun_okS ty_ok mixed (gam_ok (J := J0) (tab_cons g126_ok (tab_nil fls_fun))) Tryz.func67 (fun args w => by simp)
/-- (*stagepost/hlc.Clock).Now -/
noncomputable def g29 : Fun := denFS ty (gam J0 [(65, g65), (66, g66), (67, g67)]) Tryz.f29
theorem g29_ok : FunOk Tryz.prog 29 g29 := fun_okS ty_ok mixed (gam_ok (J := J0) (tab_cons g65_ok (tab_cons g66_ok (tab_cons g67_ok (tab_nil fls_fun))))) Tryz.func29 (fun args w => by simp)
/-- stagepost/enc.stamp -/
noncomputable def g115 : Fun := denFS ty (gam J0 []) Tryz.f115
theorem g115_ok : FunOk Tryz.prog 115 g115 := fun_okS ty_ok mixed (gam_ok (J := J0) (tab_nil fls_fun)) Tryz.func115 (fun args w => by simp)
/-- (*strings.Builder).WriteByte -/
noncomputable def s206G (J : Joins) (c309 : AV → H → (H → Prop) → Prop) (a0 : AV) (a1 : Int) (h : H) (k : AV → H → Prop) : Prop :=
c309 a0 h fun  h1 =>
okNil a0 (
faK 1 a0 fun p2 =>
ldV p2 h1 fun v3 =>
op' (asRow true 5 [(AV.int .u8 a1)]) fun k6 =>
pushK k6 h1 fun n4 h5 =>
apB (.slice 5) 5 v3 (AV.slice n4 0 1 1 1 true) h5 fun v7 h8 =>
okNil a0 (
faK 1 a0 fun p9 =>
stV p9 v7 h8 fun h10 =>
k AV.nili h10))
noncomputable def s206 : AV → Int → H → (AV → H → Prop) → Prop := s206G J0 s309
noncomputable def w206 (c : AV → Int → H → (AV → H → Prop) → Prop) : Fun := fun xs h k => arg xs fun a0 xs => arg xs fun a1 xs => noArg xs <| asI .u8 a1 fun a1 => c a0 a1 h fun r0 h => k r0 h
theorem s206_eq (J : Joins) (c309 : AV → H → (H → Prop) → Prop) (a0 : AV) (a1 : Int) (h : H) (k : AV → H → Prop) : denF ty (gam J [(309, w309 c309)]) Tryz.f206 [a0, (.int .u8 a1)] h k = s206G J c309 a0 a1 h (fun r0 h => k r0 h) := by kernel_rfl
noncomputable def g206 : Fun := w206 s206
theorem g206_ok : FunOk Tryz.prog 206 g206 := (fun_ok ty_ok mixed (gam_ok (J := J0) (tab_cons g309_ok (tab_nil fls_fun))) Tryz.func206 (fun args w => by simp)).imp fun xs h k e0 => by
  obtain ⟨a0, xs0, rfl, e1⟩ := arg_imp e0
  obtain ⟨a1, xs1, rfl, e2⟩ := arg_imp e1
  obtain ⟨rfl, e3⟩ := noArg_imp e2
  obtain ⟨a1, rfl, e4⟩ := asI_iff.1 e3
  exact (s206_eq J0 s309 a0 a1 h k).mpr e4
/-- stagepost/enc.fixed -/
noncomputable def s116G (J : Joins) (c206 : AV → Int → H → (AV → H → Prop) → Prop) (a0 : AV) (a1 : Int) (a2 : Int) (h : H) (k : H → Prop) : Prop :=
fI (wrapF .i64 (Int.sub a2 (Int.ofNat 1))) fun x1 =>
J.lp (α := AV × AV × AV × Unit) (fun r5 v2 d3 h4 =>
asI .i64 v2.2.2.1 fun x6 =>
fB (Bool.not (ltI x6 (Int.ofNat 0))) fun b7 =>
br b7 (
asI .i64 v2.2.2.1 fun x8 =>
fI (wrapF .i64 (Int.mul (Int.ofNat 8) x8)) fun x9 =>
asI .u64 v2.2.1 fun x10 =>
asNat (AV.int .i64 x9) fun n11 =>
fI (shrF x10 (nmin n11 (IntKind.bits .u64))) fun x12 =>
fI (wrapF .u8 x12) fun x13 =>
c206 v2.1 x13 h4 fun v15 h14 =>
asI .i64 v2.2.2.1 fun x16 =>
fI (wrapF .i64 (Int.sub x16 (Int.ofNat 1))) fun x17 =>
r5 (v2.1, v2.2.1, (AV.int .i64 x17), ()) d3 h14) (
leaveK (gam J [(206, w206 c206)]) d3 h4 fun h18 =>
k  h18)) (a0, (AV.int .u64 a1), (AV.int .i64 x1), ()) [] h
noncomputable def s116 : AV → Int → Int → H → (H → Prop) → Prop := s116G J0 s206
noncomputable def w116 (c : AV → Int → Int → H → (H → Prop) → Prop) : Fun := fun xs h k => arg xs fun a0 xs => arg xs fun a1 xs => arg xs fun a2 xs => noArg xs <| asI .u64 a1 fun a1 => asI .i64 a2 fun a2 => c a0 a1 a2 h fun  h => k (.tuple []) h
theorem s116_eq (J : Joins) (c206 : AV → Int → H → (AV → H → Prop) → Prop) (a0 : AV) (a1 : Int) (a2 : Int) (h : H) (k : AV → H → Prop) : denF ty (gam J [(206, w206 c206)]) Tryz.f116 [a0, (.int .u64 a1), (.int .i64 a2)] h k = s116G J c206 a0 a1 a2 h (fun  h => k (.tuple []) h) := by kernel_rfl
noncomputable def g116 : Fun := w116 s116
theorem g116_ok : FunOk Tryz.prog 116 g116 := (fun_ok ty_ok mixed (gam_ok (J := J0) (tab_cons g206_ok (tab_nil fls_fun))) Tryz.func116 (fun args w => by simp)).imp fun xs h k e0 => by
  obtain ⟨a0, xs0, rfl, e1⟩ := arg_imp e0
  obtain ⟨a1, xs1, rfl, e2⟩ := arg_imp e1
  obtain ⟨a2, xs2, rfl, e3⟩ := arg_imp e2
  obtain ⟨rfl, e4⟩ := noArg_imp e3
  obtain ⟨a1, rfl, e5⟩ := asI_iff.1 e4
  obtain ⟨a2, rfl, e6⟩ := asI_iff.1 e5
  exact (s116_eq J0 s206 a0 a1 a2 h k).mpr e6
/-- stagepost/enc.Stamp -/
noncomputable def g51 : Fun := denFS ty (gam J0 [(115, g115), (116, g116), (117, g117)]) Tryz.f51
theorem g51_ok : FunOk Tryz.prog 51 g51 := fun_okS ty_ok mixed (gam_ok (J := J0) (tab_cons g115_ok (tab_cons g116_ok (tab_cons g117_ok (tab_nil fls_fun))))) Tryz.func51 (fun args w => by simp)
/-- (*stagepost/vfs.FS).On -/
noncomputable def g179 : Fun := denFS ty (gam J0 [(232, g232)]) Tryz.f179
theorem g179_ok : FunOk Tryz.prog 179 g179 := fun_okS ty_ok mixed (gam_ok (J := J0) (tab_cons g232_ok (tab_nil fls_fun))) Tryz.func179 (fun args w => by simp)
/-- (*stagepost/lsm.Store).asked -/
noncomputable def g87 : Fun := denFS ty (gam J0 [(179, g179)]) Tryz.f87
theorem g87_ok : FunOk Tryz.prog 87 g87 := fun_okS ty_ok mixed (gam_ok (J := J0) (tab_cons g179_ok (tab_nil fls_fun))) Tryz.func87 (fun args w => by simp)
/-- (*stagepost/mem.Table).none -/
noncomputable def g180 : Fun := denFS ty (gam J0 []) Tryz.f180
theorem g180_ok : FunOk Tryz.prog 180 g180 := fun_okS ty_ok mixed (gam_ok (J := J0) (tab_nil fls_fun)) Tryz.func180 (fun args w => by simp)
/-- stagepost/wal.fine -/
noncomputable def g369 : Fun := denFS ty (gam J0 []) Tryz.f369
theorem g369_ok : FunOk Tryz.prog 369 g369 := fun_okS ty_ok mixed (gam_ok (J := J0) (tab_nil fls_fun)) Tryz.func369 (fun args w => by simp)
/-- stagepost/wal.Check -/
noncomputable def g310 : Fun := denFS ty (gam J0 [(369, g369)]) Tryz.f310
theorem g310_ok : FunOk Tryz.prog 310 g310 := fun_okS ty_ok mixed (gam_ok (J := J0) (tab_cons g369_ok (tab_nil fls_fun))) Tryz.func310 (fun args w => by simp)
/-- stagepost/mem.Check -/
noncomputable def g279 : Fun := denFS ty (gam J0 [(310, g310)]) Tryz.f279
theorem g279_ok : FunOk Tryz.prog 279 g279 := fun_okS ty_ok mixed (gam_ok (J := J0) (tab_cons g310_ok (tab_nil fls_fun))) Tryz.func279 (fun args w => by simp)
/-- cmp.isNaN[string] -/
noncomputable def s361G (J : Joins) (a0 : Str) (h : H) (k : Bool → H → Prop) : Prop :=
fB (Bool.not (Str.beq a0 a0)) fun b1 =>
k b1 h
noncomputable def s361 : Str → H → (Bool → H → Prop) → Prop := s361G J0 
noncomputable def w361 (c : Str → H → (Bool → H → Prop) → Prop) : Fun := fun xs h k => arg xs fun a0 xs => noArg xs <| asS a0 fun a0 => c a0 h fun r0 h => k (.bool r0) h
theorem s361_eq (J : Joins) (a0 : Str) (h : H) (k : AV → H → Prop) : denF ty (gam J []) Tryz.f361 [(.str a0)] h k = s361G J  a0 h (fun r0 h => k (.bool r0) h) := by kernel_rfl
noncomputable def g361 : Fun := w361 s361
theorem g361_ok : FunOk Tryz.prog 361 g361 := (fun_ok ty_ok mixed (gam_ok (J := J0) (tab_nil fls_fun)) Tryz.func361 (fun args w => by simp)).imp fun xs h k e0 => by
  obtain ⟨a0, xs0, rfl, e1⟩ := arg_imp e0
  obtain ⟨rfl, e2⟩ := noArg_imp e1
  obtain ⟨a0, rfl, e3⟩ := asS_iff.1 e2
  exact (s361_eq J0  a0 h k).mpr e3
/-- cmp.Compare[string] -/
noncomputable def s301G (J : Joins) (c361 : Str → H → (Bool → H → Prop) → Prop) (a0 : Str) (a1 : Str) (h : H) (k : Int → H → Prop) : Prop :=
c361 a0 h fun b2 h1 =>
c361 a1 h1 fun b4 h3 =>
br b2 (
br b4 (
k (Int.ofNat 0) h3) (
k (Int.negSucc 0) h3)) (
br b4 (
k (Int.ofNat 1) h3) (
fB (Str.lt a0 a1) fun b5 =>
br b5 (
k (Int.negSucc 0) h3) (
fB (Str.lt a1 a0) fun b6 =>
br b6 (
k (Int.ofNat 1) h3) (
k (Int.ofNat 0) h3))))
noncomputable def s301 : Str → Str → H → (Int → H → Prop) → Prop := s301G J0 s361
noncomputable def w301 (c : Str → Str → H → (Int → H → Prop) → Prop) : Fun := fun xs h k => arg xs fun a0 xs => arg xs fun a1 xs => noArg xs <| asS a0 fun a0 => asS a1 fun a1 => c a0 a1 h fun r0 h => k (.int .i64 r0) h
theorem s301_eq (J : Joins) (c361 : Str → H → (Bool → H → Prop) → Prop) (a0 : Str) (a1 : Str) (h : H) (k : AV → H → Prop) : denF ty (gam J [(361, w361 c361)]) Tryz.f301 [(.str a0), (.str a1)] h k = s301G J c361 a0 a1 h (fun r0 h => k (.int .i64 r0) h) := by kernel_rfl
noncomputable def g301 : Fun := w301 s301
theorem g301_ok : FunOk Tryz.prog 301 g301 := (fun_ok ty_ok mixed (gam_ok (J := J0) (tab_cons g361_ok (tab_nil fls_fun))) Tryz.func301 (fun args w => by simp)).imp fun xs h k e0 => by
  obtain ⟨a0, xs0, rfl, e1⟩ := arg_imp e0
  obtain ⟨a1, xs1, rfl, e2⟩ := arg_imp e1
  obtain ⟨rfl, e3⟩ := noArg_imp e2
  obtain ⟨a0, rfl, e4⟩ := asS_iff.1 e3
  obtain ⟨a1, rfl, e5⟩ := asS_iff.1 e4
  exact (s301_eq J0 s361 a0 a1 h k).mpr e5
/-- cmp.isNaN[int] -/
noncomputable def s362G (J : Joins) (a0 : Int) (h : H) (k : Bool → H → Prop) : Prop :=
fB (Bool.not (eqI a0 a0)) fun b1 =>
k b1 h
noncomputable def s362 : Int → H → (Bool → H → Prop) → Prop := s362G J0 
noncomputable def w362 (c : Int → H → (Bool → H → Prop) → Prop) : Fun := fun xs h k => arg xs fun a0 xs => noArg xs <| asI .i64 a0 fun a0 => c a0 h fun r0 h => k (.bool r0) h
theorem s362_eq (J : Joins) (a0 : Int) (h : H) (k : AV → H → Prop) : denF ty (gam J []) Tryz.f362 [(.int .i64 a0)] h k = s362G J  a0 h (fun r0 h => k (.bool r0) h) := by kernel_rfl
noncomputable def g362 : Fun := w362 s362
theorem g362_ok : FunOk Tryz.prog 362 g362 := (fun_ok ty_ok mixed (gam_ok (J := J0) (tab_nil fls_fun)) Tryz.func362 (fun args w => by simp)).imp fun xs h k e0 => by
  obtain ⟨a0, xs0, rfl, e1⟩ := arg_imp e0
  obtain ⟨rfl, e2⟩ := noArg_imp e1
  obtain ⟨a0, rfl, e3⟩ := asI_iff.1 e2
  exact (s362_eq J0  a0 h k).mpr e3
/-- cmp.Compare[int] -/
noncomputable def s302G (J : Joins) (c362 : Int → H → (Bool → H → Prop) → Prop) (a0 : Int) (a1 : Int) (h : H) (k : Int → H → Prop) : Prop :=
c362 a0 h fun b2 h1 =>
c362 a1 h1 fun b4 h3 =>
br b2 (
br b4 (
k (Int.ofNat 0) h3) (
k (Int.negSucc 0) h3)) (
br b4 (
k (Int.ofNat 1) h3) (
fB (ltI a0 a1) fun b5 =>
br b5 (
k (Int.negSucc 0) h3) (
fB (ltI a1 a0) fun b6 =>
br b6 (
k (Int.ofNat 1) h3) (
k (Int.ofNat 0) h3))))
noncomputable def s302 : Int → Int → H → (Int → H → Prop) → Prop := s302G J0 s362
noncomputable def w302 (c : Int → Int → H → (Int → H → Prop) → Prop) : Fun := fun xs h k => arg xs fun a0 xs => arg xs fun a1 xs => noArg xs <| asI .i64 a0 fun a0 => asI .i64 a1 fun a1 => c a0 a1 h fun r0 h => k (.int .i64 r0) h
theorem s302_eq (J : Joins) (c362 : Int → H → (Bool → H → Prop) → Prop) (a0 : Int) (a1 : Int) (h : H) (k : AV → H → Prop) : denF ty (gam J [(362, w362 c362)]) Tryz.f302 [(.int .i64 a0), (.int .i64 a1)] h k = s302G J c362 a0 a1 h (fun r0 h => k (.int .i64 r0) h) := by kernel_rfl
noncomputable def g302 : Fun := w302 s302
theorem g302_ok : FunOk Tryz.prog 302 g302 := (fun_ok ty_ok mixed (gam_ok (J := J0) (tab_cons g362_ok (tab_nil fls_fun))) Tryz.func302 (fun args w => by simp)).imp fun xs h k e0 => by
  obtain ⟨a0, xs0, rfl, e1⟩ := arg_imp e0
  obtain ⟨a1, xs1, rfl, e2⟩ := arg_imp e1
  obtain ⟨rfl, e3⟩ := noArg_imp e2
  obtain ⟨a0, rfl, e4⟩ := asI_iff.1 e3
  obtain ⟨a1, rfl, e5⟩ := asI_iff.1 e4
  exact (s302_eq J0 s362 a0 a1 h k).mpr e5
/-- stagepost/mem.Ahead -/
noncomputable def g199 : Fun := denFS ty (gam J0 [(112, g112), (301, g301), (302, g302)]) Tryz.f199
theorem g199_ok : FunOk Tryz.prog 199 g199 := fun_okS ty_ok mixed (gam_ok (J := J0) (tab_cons g112_ok (tab_cons g301_ok (tab_cons g302_ok (tab_nil fls_fun))))) Tryz.func199 (fun args w => by simp)
/-- (*stagepost/mem.Table).find -/
noncomputable def s328G (J : Joins) (c199 : Fun) (a0 : AV) (a1 : AV) (h : H) (k : AV → Int → H → Prop) : Prop :=
Go.Am.asAgg a1 fun l3 =>
pushK (.cells false 164 l3) h fun n1 h2 =>
pushK (.cells false 290 [(.nilp), (.nilp), (.nilp), (.nilp), (.nilp), (.nilp), (.nilp), (.nilp), (.nilp), (.nilp), (.nilp), (.nilp)]) h2 fun n4 h5 =>
okNil a0 (
faK 0 a0 fun p6 =>
J.lp (α := AV × AV × AV × AV × AV × Unit) (fun r10 v7 d8 h9 =>
asI .i64 v7.2.2.2.2.1 fun x11 =>
fB (Bool.not (ltI x11 (Int.ofNat 0))) fun b12 =>
br b12 (
J.jd (α := AV × AV × AV × AV × AV × Unit) (fun v13 d14 h15 =>
ixaK 12 1 v13.2.1 v13.2.2.2.2.1 fun p17 =>
stV p17 v13.2.2.2.1 h15 fun h18 =>
asI .i64 v13.2.2.2.2.1 fun x19 =>
fI (wrapF .i64 (Int.sub x19 (Int.ofNat 1))) fun x20 =>
r10 (v13.1, v13.2.1, v13.2.2.1, v13.2.2.2.1, (AV.int .i64 x20), ()) d14 h18) fun j16 =>
okNil v7.2.2.2.1 (
faK 5 v7.2.2.2.1 fun p21 =>
ixaK 12 1 p21 v7.2.2.2.2.1 fun p22 =>
ldV p22 h9 fun v23 =>
J.lp (α := AV × AV × AV × AV × AV × AV × Unit) (fun r27 v24 d25 h26 =>
nilB 0 v24.2.2.2.2.2.1 fun b28 =>
fB (Bool.not b28) fun b29 =>
br b29 (
asI .i64 v24.2.2.1 fun x30 =>
fI (wrapF .i64 (Int.add x30 (Int.ofNat 1))) fun x31 =>
okNil v24.2.2.2.2.2.1 (
faK 0 v24.2.2.2.2.2.1 fun p32 =>
ldN 4 p32 h26 fun l33 =>
ldN 4 v24.1 h26 fun l34 =>
c199 [(AV.agg l33), (AV.agg l34)] h26 fun v35 h36 =>
asB v35 fun b37 =>
fB (Bool.not b37) fun b38 =>
br b38 (
j16 (v24.1, v24.2.1, (AV.int .i64 x31), v24.2.2.2.1, v24.2.2.2.2.1, ()) d25 h36) (
okNil v24.2.2.2.2.2.1 (
faK 5 v24.2.2.2.2.2.1 fun p39 =>
ixaK 12 1 p39 v24.2.2.2.2.1 fun p40 =>
ldV p40 h36 fun v41 =>
r27 (v24.1, v24.2.1, (AV.int .i64 x31), v24.2.2.2.2.2.1, v24.2.2.2.2.1, v41, ()) d25 h36)))) (
j16 (v24.1, v24.2.1, v24.2.2.1, v24.2.2.2.1, v24.2.2.2.2.1, ()) d25 h26)) (v7.1, v7.2.1, v7.2.2.1, v7.2.2.2.1, v7.2.2.2.2.1, v23, ()) d8 h9)) (
ldN 12 v7.2.1 h9 fun l42 =>
stN 12 v7.2.1 l42 h9 fun h43 =>
leaveK (gam J [(199, c199)]) d8 h43 fun h44 =>
ldN 12 v7.2.1 h44 fun l45 =>
asI .i64 v7.2.2.1 fun x46 =>
k (AV.agg l45) x46 h44)) ((AV.ptr n1 0), (AV.ptr n4 0), (AV.int .i64 (Int.ofNat 0)), p6, (AV.int .i64 (Int.ofNat 11)), ()) [] h5)
noncomputable def s328 : AV → AV → H → (AV → Int → H → Prop) → Prop := s328G J0 g199
noncomputable def w328 (c : AV → AV → H → (AV → Int → H → Prop) → Prop) : Fun := fun xs h k => arg xs fun a0 xs => arg xs fun a1 xs => noArg xs <| c a0 a1 h fun r0 r1 h => k (.tuple [r0, (.int .i64 r1)]) h
theorem s328_eq (J : Joins) (c199 : Fun) (a0 : AV) (a1 : AV) (h : H) (k : AV → H → Prop) : denF ty (gam J [(199, c199)]) Tryz.f328 [a0, a1] h k = s328G J c199 a0 a1 h (fun r0 r1 h => k (.tuple [r0, (.int .i64 r1)]) h) := by kernel_rfl
noncomputable def g328 : Fun := w328 s328
theorem g328_ok : FunOk Tryz.prog 328 g328 := (fun_ok ty_ok mixed (gam_ok (J := J0) (tab_cons g199_ok (tab_nil fls_fun))) Tryz.func328 (fun args w => by simp)).imp fun xs h k e0 => by
  obtain ⟨a0, xs0, rfl, e1⟩ := arg_imp e0
  obtain ⟨a1, xs1, rfl, e2⟩ := arg_imp e1
  obtain ⟨rfl, e3⟩ := noArg_imp e2
  exact (s328_eq J0 g199 a0 a1 h k).mpr e3
end Go.Proofs.YtcifllconkchmaaGreatDoor
