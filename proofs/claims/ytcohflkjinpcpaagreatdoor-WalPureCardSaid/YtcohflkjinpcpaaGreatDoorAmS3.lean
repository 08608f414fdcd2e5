/- Functions as they are reckoned. MADE BY PROGRAM (wip/tools/shal.py). -/
import Derived.Test.YtcohflkjinpcpaaGreatDoorAmS2
namespace Go.Proofs.YtcohflkjinpcpaaGreatDoor
open Go Go.Am
set_option maxRecDepth 100000
set_option linter.all false
/-- (*stagepost/vfs.FS).Sync$1 -/
noncomputable def g71 : Fun := denFS ty (gam J0 []) Tryz.f71
theorem g71_ok : FunOk Tryz.prog 71 g71 := fun_okS ty_ok mixed (gam_ok (J := J0) (tab_nil fls_fun)) Tryz.func71 (fun args w => by simp)
/-- (*stagepost/vfs.FS).SyncNames$1 -/
noncomputable def g82 : Fun := denFS ty (gam J0 []) Tryz.f82
theorem g82_ok : FunOk Tryz.prog 82 g82 := fun_okS ty_ok mixed (gam_ok (J := J0) (tab_nil fls_fun)) Tryz.func82 (fun args w => by simp)
/-- (*stagepost/vfs.FS).settle -/
noncomputable def g70 : Fun := denFS ty (gam J0 [(71, g71), (82, g82), (85, g85), (86, g86)]) Tryz.f70
theorem g70_ok : FunOk Tryz.prog 70 g70 := fun_okS ty_ok mixed (gam_ok (J := J0) (tab_cons g71_ok (tab_cons g82_ok (tab_cons g85_ok (tab_cons g86_ok (tab_nil fls_fun)))))) Tryz.func70 (fun args w => by simp)
/-- (*stagepost/vfs.FS).SyncNames -/
noncomputable def g63 : Fun := denFS ty (gam J0 [(70, g70), (81, g81), (82, g82)]) Tryz.f63
theorem g63_ok : FunOk Tryz.prog 63 g63 := fun_okS ty_ok mixed (gam_ok (J := J0) (tab_cons g70_ok (tab_cons g81_ok (tab_cons g82_ok (tab_nil fls_fun))))) Tryz.func63 (fun args w => by simp)
/-- (*stagepost/wal.Wal).begin -/
noncomputable def g45 : Fun := denFS ty (gam J0 [(12, g12), (48, g48), (62, g62), (63, g63)]) Tryz.f45
theorem g45_ok : FunOk Tryz.prog 45 g45 := fun_okS ty_ok mixed (gam_ok (J := J0) (tab_cons g12_ok (tab_cons g48_ok (tab_cons g62_ok (tab_cons g63_ok (tab_nil fls_fun)))))) Tryz.func45 (fun args w => by simp)
/-- stagepost/wal.Open -/
noncomputable def g21 : Fun := denFS ty (gam J0 [(42, g42), (43, g43), (44, g44), (45, g45)]) Tryz.f21
theorem g21_ok : FunOk Tryz.prog 21 g21 := fun_okS ty_ok mixed (gam_ok (J := J0) (tab_cons g42_ok (tab_cons g43_ok (tab_cons g44_ok (tab_cons g45_ok (tab_nil fls_fun)))))) Tryz.func21 (fun args w => by simp)
/-- stagepost/enc.Append -/
noncomputable def s27G (J : Joins) (a0 : AV) (a1 : Int) (h : H) (k : AV → H → Prop) : Prop :=
apB (.slice 5) 5 AV.nils a0 h fun v1 h2 =>
J.lp (α := AV × AV × Unit) (fun r6 v3 d4 h5 =>
asI .u64 v3.1 fun x7 =>
fB (Bool.not (ltI x7 (Int.ofNat 128))) fun b8 =>
br b8 (
asI .u64 v3.1 fun x9 =>
fI (wrapF .u8 x9) fun x10 =>
fI (lorF .u8 x10 (Int.ofNat 128)) fun x11 =>
op' (asRow true 5 [(AV.int .u8 x11)]) fun k14 =>
pushK k14 h5 fun n12 h13 =>
apB (.slice 5) 5 v3.2.1 (AV.slice n12 0 1 1 1 true) h13 fun v15 h16 =>
asI .u64 v3.1 fun x17 =>
fI (shrF x17 (nmin 7 (IntKind.bits .u64))) fun x18 =>
r6 ((AV.int .u64 x18), v15, ()) d4 h16) (
asI .u64 v3.1 fun x19 =>
fI (wrapF .u8 x19) fun x20 =>
op' (asRow true 5 [(AV.int .u8 x20)]) fun k23 =>
pushK k23 h5 fun n21 h22 =>
apB (.slice 5) 5 v3.2.1 (AV.slice n21 0 1 1 1 true) h22 fun v24 h25 =>
leaveK (gam J []) d4 h25 fun h26 =>
k v24 h26)) ((AV.int .u64 a1), v1, ()) [] h2
noncomputable def s27 : AV → Int → H → (AV → H → Prop) → Prop := s27G J0 
noncomputable def w27 (c : AV → Int → H → (AV → H → Prop) → Prop) : Fun := fun xs h k => arg xs fun a0 xs => arg xs fun a1 xs => noArg xs <| asI .u64 a1 fun a1 => c a0 a1 h fun r0 h => k r0 h
theorem s27_eq (J : Joins) (a0 : AV) (a1 : Int) (h : H) (k : AV → H → Prop) : denF ty (gam J []) Tryz.f27 [a0, (.int .u64 a1)] h k = s27G J  a0 a1 h (fun r0 h => k r0 h) := by kernel_rfl
noncomputable def g27 : Fun := w27 s27
theorem g27_ok : FunOk Tryz.prog 27 g27 := (fun_ok ty_ok mixed (gam_ok (J := J0) (tab_nil fls_fun)) Tryz.func27 (fun args w => by simp)).imp fun xs h k e0 => by
  obtain ⟨a0, xs0, rfl, e1⟩ := arg_imp e0
  obtain ⟨a1, xs1, rfl, e2⟩ := arg_imp e1
  obtain ⟨rfl, e3⟩ := noArg_imp e2
  obtain ⟨a1, rfl, e4⟩ := asI_iff.1 e3
  exact (s27_eq J0  a0 a1 h k).mpr e4
/-- stagepost/wal.text -/
noncomputable def s28G (J : Joins) (c27 : AV → Int → H → (AV → H → Prop) → Prop) (a0 : AV) (a1 : Str) (h : H) (k : AV → H → Prop) : Prop :=
fI (wrapF .u64 (Int.ofNat a1.len)) fun x1 =>
c27 a0 x1 h fun v3 h2 =>
apB .str 5 v3 (AV.str a1) h2 fun v4 h5 =>
k v4 h5
noncomputable def s28 : AV → Str → H → (AV → H → Prop) → Prop := s28G J0 s27
noncomputable def w28 (c : AV → Str → H → (AV → H → Prop) → Prop) : Fun := fun xs h k => arg xs fun a0 xs => arg xs fun a1 xs => noArg xs <| asS a1 fun a1 => c a0 a1 h fun r0 h => k r0 h
theorem s28_eq (J : Joins) (c27 : AV → Int → H → (AV → H → Prop) → Prop) (a0 : AV) (a1 : Str) (h : H) (k : AV → H → Prop) : denF ty (gam J [(27, w27 c27)]) Tryz.f28 [a0, (.str a1)] h k = s28G J c27 a0 a1 h (fun r0 h => k r0 h) := by kernel_rfl
noncomputable def g28 : Fun := w28 s28
theorem g28_ok : FunOk Tryz.prog 28 g28 := (fun_ok ty_ok mixed (gam_ok (J := J0) (tab_cons g27_ok (tab_nil fls_fun))) Tryz.func28 (fun args w => by simp)).imp fun xs h k e0 => by
  obtain ⟨a0, xs0, rfl, e1⟩ := arg_imp e0
  obtain ⟨a1, xs1, rfl, e2⟩ := arg_imp e1
  obtain ⟨rfl, e3⟩ := noArg_imp e2
  obtain ⟨a1, rfl, e4⟩ := asS_iff.1 e3
  exact (s28_eq J0 s27 a0 a1 h k).mpr e4
/-- stagepost/wal.Encode -/
noncomputable def s8G (J : Joins) (c14 : AV → H → (Int → H → Prop) → Prop) (c27 : AV → Int → H → (AV → H → Prop) → Prop) (c28 : AV → Str → H → (AV → H → Prop) → Prop) (a0 : AV) (h : H) (k : AV → Int → H → Prop) : Prop :=
Go.Am.asAgg a0 fun l3 =>
pushK (.cells false 24 l3) h fun n1 h2 =>
ldI .i64 (AV.ptr n1 0) h2 fun x4 =>
fB (ltI x4 (Int.ofNat 1)) fun b5 =>
J.jn (fun v6 h7 =>
J.jn (fun v9 h10 =>
J.jn (fun v13 h14 =>
pickB (AV.bool b5) (AV.bool true) v13 fun b18 =>
br b18 (
k AV.nils (Int.ofNat 2) h14) (
ldV (AV.ptr n1 1) h14 fun v19 =>
c14 v19 h14 fun x21 h20 =>
fB (Bool.not (eqI x21 (Int.ofNat 0))) fun b22 =>
br b22 (
k AV.nils x21 h20) (
ldI .i64 (AV.ptr n1 0) h20 fun x23 =>
fI (wrapF .u64 x23) fun x24 =>
c27 AV.nils x24 h20 fun v26 h25 =>
ldV (AV.ptr n1 1) h25 fun v27 =>
lenK v27 fun x28 =>
fI (wrapF .u64 (Int.ofNat x28)) fun x29 =>
c27 v26 x29 h25 fun v31 h30 =>
ldV (AV.ptr n1 1) h30 fun v32 =>
lenK v32 fun x33 =>
J.lp (α := AV × AV × AV × AV × Unit) (fun r37 v34 d35 h36 =>
asI .i64 v34.2.2.2.1 fun x38 =>
asI .i64 v34.2.2.1 fun x39 =>
fB (ltI x38 x39) fun b40 =>
br b40 (
J.jd (α := AV × AV × AV × AV × Unit) (fun v41 d42 h43 =>
asI .i64 v41.2.2.2.1 fun x45 =>
fI (wrapF .i64 (Int.add x45 (Int.ofNat 1))) fun x46 =>
r37 (v41.1, v41.2.1, v41.2.2.1, (AV.int .i64 x46), ()) d42 h43) fun j44 =>
ixK 3 v34.2.1 v34.2.2.2.1 fun p47 =>
ldN 3 p47 h36 fun l48 =>
pushK (.cells false 53 [(.str ⟨0, 0⟩), (.str ⟨0, 0⟩), (.bool false)]) h36 fun n49 h50 =>
stN 3 (AV.ptr n49 0) l48 h50 fun h51 =>
ldB (AV.ptr n49 2) h51 fun b52 =>
br b52 (
op' (asRow true 5 [(AV.int .u8 (Int.ofNat 1))]) fun k55 =>
pushK k55 h51 fun n53 h54 =>
ldS (AV.ptr n49 0) h54 fun s56 =>
apB (.slice 5) 5 v34.1 (AV.slice n53 0 1 1 1 true) h54 fun v57 h58 =>
ck (readsSo (aLoad1 (AV.ptr n49 0) h58) (AV.str s56)) (
c28 v57 s56 h58 fun v60 h59 =>
j44 (v60, v34.2.1, v34.2.2.1, v34.2.2.2.1, ()) d35 h59)) (
op' (asRow true 5 [(AV.int .u8 (Int.ofNat 0))]) fun k63 =>
pushK k63 h51 fun n61 h62 =>
ldS (AV.ptr n49 0) h62 fun s64 =>
apB (.slice 5) 5 v34.1 (AV.slice n61 0 1 1 1 true) h62 fun v65 h66 =>
ck (readsSo (aLoad1 (AV.ptr n49 0) h66) (AV.str s64)) (
c28 v65 s64 h66 fun v68 h67 =>
ldS (AV.ptr n49 1) h67 fun s69 =>
c28 v68 s69 h67 fun v71 h70 =>
j44 (v71, v34.2.1, v34.2.2.1, v34.2.2.2.1, ()) d35 h70))) (
leaveK (gam J [(14, w14 c14), (27, w27 c27), (28, w28 c28)]) d35 h36 fun h72 =>
k v34.1 (Int.ofNat 0) h72)) (v31, v32, (AV.int .i64 (Int.ofNat x33)), (AV.int .i64 (Int.ofNat 0)), ()) [] h30))) fun j15 =>
br b5 (
j15 skipV h10) (
asI .i64 v9 fun x16 =>
fB (ltI (Int.ofNat 1073741824) x16) fun b17 =>
j15 (AV.bool b17) h10)) fun j11 =>
br b5 (
j11 skipV h7) (
ldI .i64 v6 h7 fun x12 =>
j11 (AV.int .i64 x12) h7)) fun j8 =>
br b5 (
j8 skipV h2) (
j8 (AV.ptr n1 0) h2)
noncomputable def s8 : AV → H → (AV → Int → H → Prop) → Prop := s8G J0 s14 s27 s28
noncomputable def w8 (c : AV → H → (AV → Int → H → Prop) → Prop) : Fun := fun xs h k => arg xs fun a0 xs => noArg xs <| c a0 h fun r0 r1 h => k (.tuple [r0, (.int .i64 r1)]) h
theorem s8_eq (J : Joins) (c14 : AV → H → (Int → H → Prop) → Prop) (c27 : AV → Int → H → (AV → H → Prop) → Prop) (c28 : AV → Str → H → (AV → H → Prop) → Prop) (a0 : AV) (h : H) (k : AV → H → Prop) : denF ty (gam J [(14, w14 c14), (27, w27 c27), (28, w28 c28)]) Tryz.f8 [a0] h k = s8G J c14 c27 c28 a0 h (fun r0 r1 h => k (.tuple [r0, (.int .i64 r1)]) h) := by kernel_rfl
noncomputable def g8 : Fun := w8 s8
theorem g8_ok : FunOk Tryz.prog 8 g8 := (fun_ok ty_ok mixed (gam_ok (J := J0) (tab_cons g14_ok (tab_cons g27_ok (tab_cons g28_ok (tab_nil fls_fun))))) Tryz.func8 (fun args w => by simp)).imp fun xs h k e0 => by
  obtain ⟨a0, xs0, rfl, e1⟩ := arg_imp e0
  obtain ⟨rfl, e2⟩ := noArg_imp e1
  exact (s8_eq J0 s14 s27 s28 a0 h k).mpr e2
/-- (*stagepost/wal.Wal).asked -/
noncomputable def g46 : Fun := denFS ty (gam J0 [(42, g42)]) Tryz.f46
theorem g46_ok : FunOk Tryz.prog 46 g46 := fun_okS ty_ok mixed (gam_ok (J := J0) (tab_cons g42_ok (tab_nil fls_fun))) Tryz.func46 (fun args w => by simp)
/-- stagepost/frame.Append -/
noncomputable def g47 : Fun := denFS ty (gam J0 [(64, g64)]) Tryz.f47
theorem g47_ok : FunOk Tryz.prog 47 g47 := fun_okS ty_ok mixed (gam_ok (J := J0) (tab_cons g64_ok (tab_nil fls_fun))) Tryz.func47 (fun args w => by simp)
/-- (*stagepost/vfs.FS).Left -/
noncomputable def s66G (J : Joins) (c79 : AV → H → (AV → H → Prop) → Prop) (c81 : AV → AV → H → (Int → H → Prop) → Prop) (a0 : AV) (h : H) (k : Int → H → Prop) : Prop :=
c81 a0 AV.nils h fun x2 h1 =>
fB (Bool.not (eqI x2 (Int.ofNat 0))) fun b3 =>
br b3 (
k (Int.ofNat 0) h1) (
okNil a0 (
faK 3 a0 fun p4 =>
ldI .i64 p4 h1 fun x5 =>
pushK (.cells false 76 [(.nilm), (.nilm)]) h1 fun n6 h7 =>
c79 a0 h7 fun v9 h8 =>
ck (readsSo (aLoad1 p4 h8) (AV.int .i64 x5)) (
Go.Am.asAgg v9 fun l11 =>
stN 2 (AV.ptr n6 0) l11 h8 fun h10 =>
ck (readsSo (aLoad1 p4 h10) (AV.int .i64 x5)) (
ldV (AV.ptr n6 1) h10 fun v12 =>
aRangeK v12 h10 fun v13 h14 =>
J.lp (α := AV × AV × AV × Unit) (fun r18 v15 d16 h17 =>
aNext v15.2.2.1 h17 fun v19 h20 =>
asTup v19 fun l21 =>
op' (lgetO l21 0) fun v22 =>
asB v22 fun b23 =>
br b23 (
op' (aEntry v15.2.2.1 h20) fun v24 =>
asTup v24 fun l25 =>
op' (lgetO l25 1) fun v26 =>
asI .i64 v26 fun x27 =>
faK 0 v15.1 fun p28 =>
ldV p28 h20 fun v29 =>
op' (aLookup ty 3 25 false v29 (AV.int .i64 x27) h20) fun v30 =>
lenK v30 fun x31 =>
asI .i64 v15.2.1 fun x32 =>
fI (wrapF .i64 (Int.sub x32 (Int.ofNat x31))) fun x33 =>
r18 (v15.1, (AV.int .i64 x33), v15.2.2.1, ()) d16 h20) (
leaveK (gam J [(79, w79 c79), (81, w81 c81)]) d16 h20 fun h34 =>
asI .i64 v15.2.1 fun x35 =>
k x35 h34)) ((AV.ptr n6 0), (AV.int .i64 x5), v13, ()) [] h14))))
noncomputable def s66 : AV → H → (Int → H → Prop) → Prop := s66G J0 s79 s81
noncomputable def w66 (c : AV → H → (Int → H → Prop) → Prop) : Fun := fun xs h k => arg xs fun a0 xs => noArg xs <| c a0 h fun r0 h => k (.int .i64 r0) h
theorem s66_eq (J : Joins) (c79 : AV → H → (AV → H → Prop) → Prop) (c81 : AV → AV → H → (Int → H → Prop) → Prop) (a0 : AV) (h : H) (k : AV → H → Prop) : denF ty (gam J [(79, w79 c79), (81, w81 c81)]) Tryz.f66 [a0] h k = s66G J c79 c81 a0 h (fun r0 h => k (.int .i64 r0) h) := by kernel_rfl
end Go.Proofs.YtcohflkjinpcpaaGreatDoor
