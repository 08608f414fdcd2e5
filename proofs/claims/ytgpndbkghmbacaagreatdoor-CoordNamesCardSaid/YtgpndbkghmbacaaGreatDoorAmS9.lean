/- Functions as they are reckoned. MADE BY PROGRAM (wip/tools/shal.py). -/
import Derived.Test.YtgpndbkghmbacaaGreatDoorAmS8
namespace Go.Proofs.YtgpndbkghmbacaaGreatDoor
open Go Go.Am
set_option maxRecDepth 100000
set_option linter.all false
/-- stagepost/parser.Same$4 -/
noncomputable def g349 : Fun := denFS ty (gam J0 [(343, g343)]) Tryz.f349
theorem g349_ok : FunOk Tryz.prog 349 g349 := fun_okS ty_ok mixed (gam_ok (J := J0) (tab_cons g343_ok (tab_nil fls_fun))) Tryz.func349 (fun args w => by simp)
/-- slices.EqualFunc[[]stagepost/api.Order,[]stagepost/api.Order,stagepost/api.Order,stagepost/api.Order] -/
noncomputable def g348 : Fun := denFS ty (gam J0 [(349, g349)]) Tryz.f348
theorem g348_ok : FunOk Tryz.prog 348 g348 := fun_okS ty_ok mixed (gam_ok (J := J0) (tab_cons g349_ok (tab_nil fls_fun))) Tryz.func348 (fun args w => by simp)
/-- stagepost/parser.Same$5 -/
noncomputable def g351 : Fun := denFS ty (gam J0 [(343, g343)]) Tryz.f351
theorem g351_ok : FunOk Tryz.prog 351 g351 := fun_okS ty_ok mixed (gam_ok (J := J0) (tab_cons g343_ok (tab_nil fls_fun))) Tryz.func351 (fun args w => by simp)
/-- slices.EqualFunc[[]stagepost/api.Assign,[]stagepost/api.Assign,stagepost/api.Assign,stagepost/api.Assign] -/
noncomputable def g350 : Fun := denFS ty (gam J0 [(351, g351)]) Tryz.f350
theorem g350_ok : FunOk Tryz.prog 350 g350 := fun_okS ty_ok mixed (gam_ok (J := J0) (tab_cons g351_ok (tab_nil fls_fun))) Tryz.func350 (fun args w => by simp)
/-- stagepost/parser.Same -/
noncomputable def g254 : Fun := denFS ty (gam J0 [(143, g143), (339, g339), (340, g340), (341, g341), (342, g342), (343, g343), (344, g344), (345, g345), (346, g346), (347, g347), (348, g348), (349, g349), (350, g350), (351, g351)]) Tryz.f254
theorem g254_ok : FunOk Tryz.prog 254 g254 := fun_okS ty_ok mixed (gam_ok (J := J0) (tab_cons g143_ok (tab_cons g339_ok (tab_cons g340_ok (tab_cons g341_ok (tab_cons g342_ok (tab_cons g343_ok (tab_cons g344_ok (tab_cons g345_ok (tab_cons g346_ok (tab_cons g347_ok (tab_cons g348_ok (tab_cons g349_ok (tab_cons g350_ok (tab_cons g351_ok (tab_nil fls_fun)))))))))))))))) Tryz.func254 (fun args w => by simp)
/-- stagepost/parser.Print -/
noncomputable def s178G (J : Joins) (c37 : Fun) (c252 : AV → AV → H → (H → Prop) → Prop) (c253 : AV → H → (Str → AV → H → Prop) → Prop) (c254 : Fun) (a0 : AV) (h : H) (k : Str → Int → H → Prop) : Prop :=
Go.Am.asAgg a0 fun l3 =>
pushK (.cells false 89 l3) h fun n1 h2 =>
pushK (.cells false 407 [(.nils), (.bool false)]) h2 fun n4 h5 =>
ldN 23 (AV.ptr n1 0) h5 fun l6 =>
c252 (AV.ptr n4 0) (AV.agg l6) h5 fun  h7 =>
ldB (AV.ptr n4 1) h7 fun b8 =>
br b8 (
k ⟨0, 0⟩ (Int.ofNat 2) h7) (
ldV (AV.ptr n4 0) h7 fun v9 =>
c253 v9 h7 fun s11 v12 h10 =>
pushK (.cells false 108 [(.int .i64 0), (.int .i64 0)]) h10 fun n13 h14 =>
Go.Am.asAgg v12 fun l16 =>
stN 2 (AV.ptr n13 0) l16 h14 fun h15 =>
ldN 2 (AV.ptr n13 0) h15 fun l17 =>
obK (aBin ty .neq 108 false (AV.agg l17) (AV.agg [(.int .i64 0), (.int .i64 0)])) fun b18 =>
br b18 (
k ⟨0, 0⟩ (Int.ofNat 2) h15) (
c37 [(AV.str s11)] h15 fun v19 h20 =>
asTup v19 fun l21 =>
op' (lgetO l21 0) fun v22 =>
asTup v19 fun l23 =>
op' (lgetO l23 1) fun v24 =>
pushK (.cells false 89 [(.int .u8 0), (.str ⟨0, 0⟩), (.str ⟨0, 0⟩), (.nils), (.nils), (.bool false), (.nils), (.nils), (.nils), (.nils), (.int .u8 0), (.int .u8 0), (.int .i64 0), (.str ⟨0, 0⟩), (.str ⟨0, 0⟩), (.str ⟨0, 0⟩), (.int .i64 0), (.int .u8 0), (.nils), (.nils), (.nils), (.int .i64 0), (.nils)]) h20 fun n25 h26 =>
Go.Am.asAgg v22 fun l28 =>
stN 23 (AV.ptr n25 0) l28 h26 fun h27 =>
Go.Am.asAgg v24 fun l30 =>
stN 2 (AV.ptr n13 0) l30 h27 fun h29 =>
ldN 2 (AV.ptr n13 0) h29 fun l31 =>
obK (aBin ty .neq 108 false (AV.agg l31) (AV.agg [(.int .i64 0), (.int .i64 0)])) fun b32 =>
J.jn (fun v33 h34 =>
J.jn (fun v37 h38 =>
J.jn (fun v41 h42 =>
J.jn (fun v47 h48 =>
pickB (AV.bool b32) (AV.bool true) v47 fun b52 =>
br b52 (
k ⟨0, 0⟩ (Int.ofNat 2) h48) (
k s11 (Int.ofNat 0) h48)) fun j49 =>
br b32 (
j49 skipV h42) (
asB v41 fun b50 =>
fB (Bool.not b50) fun b51 =>
j49 (AV.bool b51) h42)) fun j43 =>
br b32 (
j43 skipV h38) (
c254 [v33, v37] h38 fun v44 h45 =>
asB v44 fun b46 =>
j43 (AV.bool b46) h45)) fun j39 =>
br b32 (
j39 skipV h34) (
ldN 23 (AV.ptr n1 0) h34 fun l40 =>
j39 (AV.agg l40) h34)) fun j35 =>
br b32 (
j35 skipV h29) (
ldN 23 (AV.ptr n25 0) h29 fun l36 =>
j35 (AV.agg l36) h29)))
noncomputable def s178 : AV → H → (Str → Int → H → Prop) → Prop := s178G J0 g37 s252' s253 g254
noncomputable def w178 (c : AV → H → (Str → Int → H → Prop) → Prop) : Fun := fun xs h k => arg xs fun a0 xs => noArg xs <| c a0 h fun r0 r1 h => k (.tuple [(.str r0), (.int .i64 r1)]) h
theorem s178_eq (J : Joins) (c37 : Fun) (c252 : AV → AV → H → (H → Prop) → Prop) (c253 : AV → H → (Str → AV → H → Prop) → Prop) (c254 : Fun) (a0 : AV) (h : H) (k : AV → H → Prop) : denF ty (gam J [(37, c37), (252, w252 c252), (253, w253 c253), (254, c254)]) Tryz.f178 [a0] h k = s178G J c37 c252 c253 c254 a0 h (fun r0 r1 h => k (.tuple [(.str r0), (.int .i64 r1)]) h) := by kernel_rfl
noncomputable def g178 : Fun := w178 s178
theorem g178_ok : FunOk Tryz.prog 178 g178 := (fun_ok ty_ok mixed (gam_ok (J := J0) (tab_cons g37_ok (tab_cons g252'_ok (tab_cons g253_ok (tab_cons g254_ok (tab_nil fls_fun)))))) Tryz.func178 (fun args w => by simp)).imp fun xs h k e0 => by
  obtain ⟨a0, xs0, rfl, e1⟩ := arg_imp e0
  obtain ⟨rfl, e2⟩ := noArg_imp e1
  exact (s178_eq J0 g37 s252' s253 g254 a0 h k).mpr e2
/-- stagepost/catalog.names -/
noncomputable def s410G (J : Joins) (a0 : AV) (a1 : AV) (h : H) (k : AV → Bool → H → Prop) : Prop :=
lenK a1 fun x1 =>
J.lp (α := AV × AV × AV × AV × AV × Unit) (fun r5 v2 d3 h4 =>
asI .i64 v2.2.2.2.2.1 fun x6 =>
asI .i64 v2.2.2.2.1 fun x7 =>
fB (ltI x6 x7) fun b8 =>
br b8 (
ixK 1 v2.2.2.1 v2.2.2.2.2.1 fun p9 =>
ldI .i64 p9 h4 fun x10 =>
fB (ltI x10 (Int.ofNat 0)) fun b11 =>
J.jn (fun v12 h13 =>
J.jn (fun v15 h16 =>
J.jn (fun v18 h19 =>
J.jn (fun v22 h23 =>
pickB (AV.bool b11) (AV.bool true) v22 fun b28 =>
br b28 (
leaveK (gam J []) d3 h23 fun h29 =>
k AV.nils false h29) (
ixK 3 v2.1 (AV.int .i64 x10) fun p30 =>
faK 0 p30 fun p31 =>
ldS p31 h23 fun s32 =>
pushK (.cells false 9 [(AV.str s32)]) h23 fun n33 h34 =>
apC 9 1 16 v2.2.1 (AV.slice n33 0 1 1 1 true) h34 fun v35 h36 =>
asI .i64 v2.2.2.2.2.1 fun x37 =>
fI (wrapF .i64 (Int.add x37 (Int.ofNat 1))) fun x38 =>
r5 (v2.1, v35, v2.2.2.1, v2.2.2.2.1, (AV.int .i64 x38), ()) d3 h36)) fun j24 =>
br b11 (
j24 skipV h19) (
asI .i64 v12 fun x25 =>
asI .i64 v18 fun x26 =>
fB (Bool.not (ltI x25 x26)) fun b27 =>
j24 (AV.bool b27) h19)) fun j20 =>
br b11 (
j20 skipV h16) (
lenK v15 fun x21 =>
j20 (AV.int .i64 (Int.ofNat x21)) h16)) fun j17 =>
br b11 (
j17 skipV h13) (
j17 v2.1 h13)) fun j14 =>
br b11 (
j14 skipV h4) (
j14 (AV.int .i64 x10) h4)) (
leaveK (gam J []) d3 h4 fun h39 =>
k v2.2.1 true h39)) (a0, AV.nils, a1, (AV.int .i64 (Int.ofNat x1)), (AV.int .i64 (Int.ofNat 0)), ()) [] h
noncomputable def s410 : AV → AV → H → (AV → Bool → H → Prop) → Prop := s410G J0 
noncomputable def w410 (c : AV → AV → H → (AV → Bool → H → Prop) → Prop) : Fun := fun xs h k => arg xs fun a0 xs => arg xs fun a1 xs => noArg xs <| c a0 a1 h fun r0 r1 h => k (.tuple [r0, (.bool r1)]) h
theorem s410_eq (J : Joins) (a0 : AV) (a1 : AV) (h : H) (k : AV → H → Prop) : denF ty (gam J []) Tryz.f410 [a0, a1] h k = s410G J  a0 a1 h (fun r0 r1 h => k (.tuple [r0, (.bool r1)]) h) := by kernel_rfl
noncomputable def g410 : Fun := w410 s410
theorem g410_ok : FunOk Tryz.prog 410 g410 := (fun_ok ty_ok mixed (gam_ok (J := J0) (tab_nil fls_fun)) Tryz.func410 (fun args w => by simp)).imp fun xs h k e0 => by
  obtain ⟨a0, xs0, rfl, e1⟩ := arg_imp e0
  obtain ⟨a1, xs1, rfl, e2⟩ := arg_imp e1
  obtain ⟨rfl, e3⟩ := noArg_imp e2
  exact (s410_eq J0  a0 a1 h k).mpr e3
/-- stagepost/catalog.told -/
noncomputable def s325G (J : Joins) (c80 : Fun) (c410 : AV → AV → H → (AV → Bool → H → Prop) → Prop) (a0 : AV) (h : H) (k : AV → Bool → H → Prop) : Prop :=
Go.Am.asAgg a0 fun l3 =>
pushK (.cells false 182 l3) h fun n1 h2 =>
ldV (AV.ptr n1 2) h2 fun v4 =>
ldV (AV.ptr n1 3) h2 fun v5 =>
c410 v4 v5 h2 fun v7 b8 h6 =>
ldS (AV.ptr n1 0) h6 fun s9 =>
ldV (AV.ptr n1 2) h6 fun v10 =>
pushK (.cells false 89 [(.int .u8 0), (.str ⟨0, 0⟩), (.str ⟨0, 0⟩), (.nils), (.nils), (.bool false), (.nils), (.nils), (.nils), (.nils), (.int .u8 0), (.int .u8 0), (.int .i64 0), (.str ⟨0, 0⟩), (.str ⟨0, 0⟩), (.str ⟨0, 0⟩), (.int .i64 0), (.int .u8 0), (.nils), (.nils), (.nils), (.int .i64 0), (.nils)]) h6 fun n11 h12 =>
c80 [v10] h12 fun v13 h14 =>
ck (readsSo (aLoad1 (AV.ptr n1 0) h14) (AV.str s9)) (
ck (isOne v7) (ck (isOne v13) (stN 23 (AV.ptr n11 0) [(AV.int .u8 (Int.ofNat 5)), (AV.str s9), (.str ⟨0, 0⟩), v13, v7, (.bool false), (.nils), (.nils), (.nils), (.nils), (.int .u8 0), (.int .u8 0), (.int .i64 0), (.str ⟨0, 0⟩), (.str ⟨0, 0⟩), (.str ⟨0, 0⟩), (.int .i64 0), (.int .u8 0), (.nils), (.nils), (.nils), (.int .i64 0), (.nils)] h14 fun h15 =>
ldV (AV.ptr n1 3) h15 fun v16 =>
lenK v16 fun x17 =>
J.lp (α := AV × AV × AV × AV × AV × AV × Unit) (fun r21 v18 d19 h20 =>
asI .i64 v18.2.2.2.2.2.1 fun x22 =>
asI .i64 v18.2.2.2.2.1 fun x23 =>
fB (ltI x22 x23) fun b24 =>
br b24 (
J.jd (α := AV × AV × AV × AV × AV × AV × Unit) (fun v25 d26 h27 =>
asI .i64 v25.2.2.2.2.2.1 fun x29 =>
fI (wrapF .i64 (Int.add x29 (Int.ofNat 1))) fun x30 =>
r21 (v25.1, v25.2.1, v25.2.2.1, v25.2.2.2.1, v25.2.2.2.2.1, (AV.int .i64 x30), ()) d26 h27) fun j28 =>
ixK 1 v18.2.2.2.1 v18.2.2.2.2.2.1 fun p31 =>
ldI .i64 p31 h20 fun x32 =>
asB v18.2.1 fun b33 =>
br b33 (
faK 3 v18.2.2.1 fun p34 =>
ldV p34 h20 fun v35 =>
ixK 3 v35 (AV.int .i64 x32) fun p36 =>
faK 2 p36 fun p37 =>
stV p37 (AV.bool false) h20 fun h38 =>
j28 (v18.1, v18.2.1, v18.2.2.1, v18.2.2.2.1, v18.2.2.2.2.1, v18.2.2.2.2.2.1, ()) d19 h38) (
j28 (v18.1, v18.2.1, v18.2.2.1, v18.2.2.2.1, v18.2.2.2.2.1, v18.2.2.2.2.2.1, ()) d19 h20)) (
ldN 23 v18.2.2.1 h20 fun l39 =>
ck (Nat.beq (List.length l39) 23) (op' (lputAt 0 l39 [(.int .u8 0), (.str ⟨0, 0⟩), (.str ⟨0, 0⟩), (.nils), (.nils), (.bool false), (.nils), (.nils), (.nils), (.nils), (.int .u8 0), (.int .u8 0), (.int .i64 0), (.str ⟨0, 0⟩), (.str ⟨0, 0⟩), (.str ⟨0, 0⟩), (.int .i64 0), (.int .u8 0), (.nils), (.nils), (.nils), (.int .i64 0), (.nils)]) fun l42 =>
pushK (.cells false 89 l42) h20 fun n40 h41 =>
faK 4 v18.1 fun p43 =>
ldV p43 h41 fun v44 =>
lenK v44 fun x45 =>
J.lp (α := AV × AV × AV × AV × AV × AV × Unit) (fun r49 v46 d47 h48 =>
asI .i64 v46.2.2.2.2.2.1 fun x50 =>
asI .i64 v46.2.2.2.2.1 fun x51 =>
fB (ltI x50 x51) fun b52 =>
br b52 (
ixK 4 v46.2.2.2.1 v46.2.2.2.2.2.1 fun p53 =>
ldN 4 p53 h48 fun l54 =>
pushK (.cells false 203 [(.str ⟨0, 0⟩), (.int .i64 0), (.nils), (.bool false)]) h48 fun n55 h56 =>
stN 4 (AV.ptr n55 0) l54 h56 fun h57 =>
faK 2 v46.1 fun p58 =>
ldV p58 h57 fun v59 =>
ldV (AV.ptr n55 2) h57 fun v60 =>
c410 v59 v60 h57 fun v62 b63 h61 =>
J.jn (fun v64 h65 =>
pickB v46.2.1 v64 (AV.bool false) fun b67 =>
ldS (AV.ptr n55 0) h65 fun s68 =>
faK 0 v46.1 fun p69 =>
ldS p69 h65 fun s70 =>
ldB (AV.ptr n55 3) h65 fun b71 =>
ck (isOne v62) (ck (Nat.beq (List.length [(AV.int .u8 (Int.ofNat 6)), (AV.str s68), (AV.str s70), (.nils), (.nils), (AV.bool b71), v62, (.nils), (.nils), (.nils), (.int .u8 0), (.int .u8 0), (.int .i64 0), (.str ⟨0, 0⟩), (.str ⟨0, 0⟩), (.str ⟨0, 0⟩), (.int .i64 0), (.int .u8 0), (.nils), (.nils), (.nils), (.int .i64 0), (.nils)]) 23) (op' (lputAt 0 [(AV.int .u8 (Int.ofNat 6)), (AV.str s68), (AV.str s70), (.nils), (.nils), (AV.bool b71), v62, (.nils), (.nils), (.nils), (.int .u8 0), (.int .u8 0), (.int .i64 0), (.str ⟨0, 0⟩), (.str ⟨0, 0⟩), (.str ⟨0, 0⟩), (.int .i64 0), (.int .u8 0), (.nils), (.nils), (.nils), (.int .i64 0), (.nils)] [(.int .u8 0), (.str ⟨0, 0⟩), (.str ⟨0, 0⟩), (.nils), (.nils), (.bool false), (.nils), (.nils), (.nils), (.nils), (.int .u8 0), (.int .u8 0), (.int .i64 0), (.str ⟨0, 0⟩), (.str ⟨0, 0⟩), (.str ⟨0, 0⟩), (.int .i64 0), (.int .u8 0), (.nils), (.nils), (.nils), (.int .i64 0), (.nils)]) fun l74 =>
pushK (.cells false 89 l74) h65 fun n72 h73 =>
apC 89 23 384 v46.2.2.1 (AV.slice n72 0 1 1 23 true) h73 fun v75 h76 =>
asI .i64 v46.2.2.2.2.2.1 fun x77 =>
fI (wrapF .i64 (Int.add x77 (Int.ofNat 1))) fun x78 =>
r49 (v46.1, (AV.bool b67), v75, v46.2.2.2.1, v46.2.2.2.2.1, (AV.int .i64 x78), ()) d47 h76))) fun j66 =>
asBU v46.2.1 (fun b79 =>
br b79 (
j66 (AV.bool b63) h61) (
j66 skipV h61)) (
j66 skipV h61)) (
leaveK (gam J [(80, c80), (410, w410 c410)]) d47 h48 fun h80 =>
asB v46.2.1 fun b81 =>
k v46.2.2.1 b81 h80)) (v18.1, v18.2.1, (AV.slice n40 0 1 1 23 true), v44, (AV.int .i64 (Int.ofNat x45)), (AV.int .i64 (Int.ofNat 0)), ()) d19 h41))) ((AV.ptr n1 0), (AV.bool b8), (AV.ptr n11 0), v16, (AV.int .i64 (Int.ofNat x17)), (AV.int .i64 (Int.ofNat 0)), ()) [] h15)))
noncomputable def s325 : AV → H → (AV → Bool → H → Prop) → Prop := s325G J0 g80 s410
noncomputable def w325 (c : AV → H → (AV → Bool → H → Prop) → Prop) : Fun := fun xs h k => arg xs fun a0 xs => noArg xs <| c a0 h fun r0 r1 h => k (.tuple [r0, (.bool r1)]) h
theorem s325_eq (J : Joins) (c80 : Fun) (c410 : AV → AV → H → (AV → Bool → H → Prop) → Prop) (a0 : AV) (h : H) (k : AV → H → Prop) : denF ty (gam J [(80, c80), (410, w410 c410)]) Tryz.f325 [a0] h k = s325G J c80 c410 a0 h (fun r0 r1 h => k (.tuple [r0, (.bool r1)]) h) := by kernel_rfl
noncomputable def g325 : Fun := w325 s325
theorem g325_ok : FunOk Tryz.prog 325 g325 := (fun_ok ty_ok mixed (gam_ok (J := J0) (tab_cons g80_ok (tab_cons g410_ok (tab_nil fls_fun)))) Tryz.func325 (fun args w => by simp)).imp fun xs h k e0 => by
  obtain ⟨a0, xs0, rfl, e1⟩ := arg_imp e0
  obtain ⟨rfl, e2⟩ := noArg_imp e1
  exact (s325_eq J0 g80 s410 a0 h k).mpr e2
/-- slices.Equal[[]int,int] -/
noncomputable def s413G (J : Joins) (a0 : AV) (a1 : AV) (h : H) (k : Bool → H → Prop) : Prop :=
lenK a0 fun x1 =>
lenK a1 fun x2 =>
fB (Bool.not (eqI (Int.ofNat x1) (Int.ofNat x2))) fun b3 =>
br b3 (
k false h) (
lenK a0 fun x4 =>
J.lp (α := AV × AV × AV × AV × Unit) (fun r8 v5 d6 h7 =>
asI .i64 v5.2.2.2.1 fun x9 =>
asI .i64 v5.2.2.1 fun x10 =>
fB (ltI x9 x10) fun b11 =>
br b11 (
ixK 1 v5.1 v5.2.2.2.1 fun p12 =>
ldI .i64 p12 h7 fun x13 =>
ixK 1 v5.2.1 v5.2.2.2.1 fun p14 =>
ldI .i64 p14 h7 fun x15 =>
fB (Bool.not (eqI x13 x15)) fun b16 =>
br b16 (
leaveK (gam J []) d6 h7 fun h17 =>
k false h17) (
asI .i64 v5.2.2.2.1 fun x18 =>
fI (wrapF .i64 (Int.add x18 (Int.ofNat 1))) fun x19 =>
r8 (v5.1, v5.2.1, v5.2.2.1, (AV.int .i64 x19), ()) d6 h7)) (
leaveK (gam J []) d6 h7 fun h20 =>
k true h20)) (a0, a1, (AV.int .i64 (Int.ofNat x4)), (AV.int .i64 (Int.ofNat 0)), ()) [] h)
noncomputable def s413 : AV → AV → H → (Bool → H → Prop) → Prop := s413G J0 
noncomputable def w413 (c : AV → AV → H → (Bool → H → Prop) → Prop) : Fun := fun xs h k => arg xs fun a0 xs => arg xs fun a1 xs => noArg xs <| c a0 a1 h fun r0 h => k (.bool r0) h
theorem s413_eq (J : Joins) (a0 : AV) (a1 : AV) (h : H) (k : AV → H → Prop) : denF ty (gam J []) Tryz.f413 [a0, a1] h k = s413G J  a0 a1 h (fun r0 h => k (.bool r0) h) := by kernel_rfl
noncomputable def g413 : Fun := w413 s413
theorem g413_ok : FunOk Tryz.prog 413 g413 := (fun_ok ty_ok mixed (gam_ok (J := J0) (tab_nil fls_fun)) Tryz.func413 (fun args w => by simp)).imp fun xs h k e0 => by
  obtain ⟨a0, xs0, rfl, e1⟩ := arg_imp e0
  obtain ⟨a1, xs1, rfl, e2⟩ := arg_imp e1
  obtain ⟨rfl, e3⟩ := noArg_imp e2
  exact (s413_eq J0  a0 a1 h k).mpr e3
/-- stagepost/catalog.same$1$1 -/
noncomputable def g415 : Fun := denFS ty (gam J0 [(413, g413)]) Tryz.f415
theorem g415_ok : FunOk Tryz.prog 415 g415 := fun_okS ty_ok mixed (gam_ok (J := J0) (tab_cons g413_ok (tab_nil fls_fun))) Tryz.func415 (fun args w => by simp)
/-- slices.EqualFunc[[]stagepost/api.Index,[]stagepost/api.Index,stagepost/api.Index,stagepost/api.Index] -/
noncomputable def g414 : Fun := denFS ty (gam J0 [(415, g415)]) Tryz.f414
theorem g414_ok : FunOk Tryz.prog 414 g414 := fun_okS ty_ok mixed (gam_ok (J := J0) (tab_cons g415_ok (tab_nil fls_fun))) Tryz.func414 (fun args w => by simp)
/-- stagepost/catalog.same$1 -/
noncomputable def g412 : Fun := denFS ty (gam J0 [(339, g339), (413, g413), (414, g414), (415, g415)]) Tryz.f412
theorem g412_ok : FunOk Tryz.prog 412 g412 := fun_okS ty_ok mixed (gam_ok (J := J0) (tab_cons g339_ok (tab_cons g413_ok (tab_cons g414_ok (tab_cons g415_ok (tab_nil fls_fun)))))) Tryz.func412 (fun args w => by simp)
/-- slices.EqualFunc[[]stagepost/api.Table,[]stagepost/api.Table,stagepost/api.Table,stagepost/api.Table] -/
noncomputable def g411 : Fun := denFS ty (gam J0 [(412, g412)]) Tryz.f411
theorem g411_ok : FunOk Tryz.prog 411 g411 := fun_okS ty_ok mixed (gam_ok (J := J0) (tab_cons g412_ok (tab_nil fls_fun))) Tryz.func411 (fun args w => by simp)
/-- stagepost/catalog.same -/
noncomputable def g326 : Fun := denFS ty (gam J0 [(411, g411), (412, g412)]) Tryz.f326
theorem g326_ok : FunOk Tryz.prog 326 g326 := fun_okS ty_ok mixed (gam_ok (J := J0) (tab_cons g411_ok (tab_cons g412_ok (tab_nil fls_fun)))) Tryz.func326 (fun args w => by simp)
/-- stagepost/catalog.Text -/
noncomputable def s251G (J : Joins) (c19 : Fun) (c178 : AV → H → (Str → Int → H → Prop) → Prop) (c241 : AV → Str → H → (Int → AV → H → Prop) → Prop) (c244 : AV → H → (Str → H → Prop) → Prop) (c325 : AV → H → (AV → Bool → H → Prop) → Prop) (c326 : Fun) (a0 : AV) (h : H) (k : Str → Int → H → Prop) : Prop :=
Go.Am.asAgg a0 fun l3 =>
pushK (.cells false 66 l3) h fun n1 h2 =>
pushK (.cells false 395 [(.nilp), (.nils)]) h2 fun n4 h5 =>
ldV (AV.ptr n1 0) h5 fun v6 =>
lenK v6 fun x7 =>
J.lp (α := AV × AV × AV × AV × AV × Unit) (fun r11 v8 d9 h10 =>
asI .i64 v8.2.2.2.2.1 fun x12 =>
asI .i64 v8.2.2.2.1 fun x13 =>
fB (ltI x12 x13) fun b14 =>
br b14 (
ixK 5 v8.2.2.1 v8.2.2.2.2.1 fun p15 =>
ldN 5 p15 h10 fun l16 =>
pushK (.cells false 182 [(.str ⟨0, 0⟩), (.int .i64 0), (.nils), (.nils), (.nils)]) h10 fun n17 h18 =>
stN 5 (AV.ptr n17 0) l16 h18 fun h19 =>
ldN 5 (AV.ptr n17 0) h19 fun l20 =>
c325 (AV.agg l20) h19 fun v22 b23 h21 =>
fB (Bool.not b23) fun b24 =>
br b24 (
leaveK (gam J [(19, c19), (178, w178 c178), (241, w241 c241), (244, w244 c244), (325, w325 c325), (326, c326)]) d9 h21 fun h25 =>
k ⟨0, 0⟩ (Int.ofNat 2) h25) (
lenK v22 fun x26 =>
J.lp (α := AV × AV × AV × AV × AV × AV × AV × AV × Unit) (fun r30 v27 d28 h29 =>
asI .i64 v27.2.2.2.2.2.2.2.1 fun x31 =>
asI .i64 v27.2.2.2.2.2.2.1 fun x32 =>
fB (ltI x31 x32) fun b33 =>
br b33 (
ixK 23 v27.2.2.2.2.2.1 v27.2.2.2.2.2.2.2.1 fun p34 =>
ldN 23 p34 h29 fun l35 =>
pushK (.cells false 89 [(.int .u8 0), (.str ⟨0, 0⟩), (.str ⟨0, 0⟩), (.nils), (.nils), (.bool false), (.nils), (.nils), (.nils), (.nils), (.int .u8 0), (.int .u8 0), (.int .i64 0), (.str ⟨0, 0⟩), (.str ⟨0, 0⟩), (.str ⟨0, 0⟩), (.int .i64 0), (.int .u8 0), (.nils), (.nils), (.nils), (.int .i64 0), (.nils)]) h29 fun n36 h37 =>
stN 23 (AV.ptr n36 0) l35 h37 fun h38 =>
ldN 23 (AV.ptr n36 0) h38 fun l39 =>
c178 (AV.agg l39) h38 fun s41 x42 h40 =>
fB (Bool.not (eqI x42 (Int.ofNat 0))) fun b43 =>
br b43 (
leaveK (gam J [(19, c19), (178, w178 c178), (241, w241 c241), (244, w244 c244), (325, w325 c325), (326, c326)]) d28 h40 fun h44 =>
k ⟨0, 0⟩ (Int.ofNat 2) h44) (
ck (Nat.ble (Nat.add s41.len (⟨3, 2112266⟩ : Str).len) 9223372036854775807) (fS (Str.cat s41 (⟨3, 2112266⟩ : Str)) fun s45 =>
c241 v27.2.1 s45 h40 fun x47 v48 h46 =>
asI .i64 v27.2.2.2.2.2.2.2.1 fun x49 =>
fI (wrapF .i64 (Int.add x49 (Int.ofNat 1))) fun x50 =>
r30 (v27.1, v27.2.1, v27.2.2.1, v27.2.2.2.1, v27.2.2.2.2.1, v27.2.2.2.2.2.1, v27.2.2.2.2.2.2.1, (AV.int .i64 x50), ()) d28 h46))) (
asI .i64 v27.2.2.2.2.1 fun x51 =>
fI (wrapF .i64 (Int.add x51 (Int.ofNat 1))) fun x52 =>
r11 (v27.1, v27.2.1, v27.2.2.1, v27.2.2.2.1, (AV.int .i64 x52), ()) d28 h29)) (v8.1, v8.2.1, v8.2.2.1, v8.2.2.2.1, v8.2.2.2.2.1, v22, (AV.int .i64 (Int.ofNat x26)), (AV.int .i64 (Int.ofNat 0)), ()) d9 h21)) (
c244 v8.2.1 h10 fun s54 h53 =>
c19 [(AV.str s54)] h53 fun v55 h56 =>
asTup v55 fun l57 =>
op' (lgetO l57 0) fun v58 =>
asTup v55 fun l59 =>
op' (lgetO l59 1) fun v60 =>
pushK (.cells false 66 [(.nils)]) h56 fun n61 h62 =>
pushK (.cells false 108 [(.int .i64 0), (.int .i64 0)]) h62 fun n63 h64 =>
Go.Am.asAgg v58 fun l66 =>
stN 1 (AV.ptr n61 0) l66 h64 fun h65 =>
Go.Am.asAgg v60 fun l68 =>
stN 2 (AV.ptr n63 0) l68 h65 fun h67 =>
ldN 2 (AV.ptr n63 0) h67 fun l69 =>
obK (aBin ty .neq 108 false (AV.agg l69) (AV.agg [(.int .i64 0), (.int .i64 0)])) fun b70 =>
J.jn (fun v71 h72 =>
J.jn (fun v75 h76 =>
J.jn (fun v79 h80 =>
J.jn (fun v85 h86 =>
pickB (AV.bool b70) (AV.bool true) v85 fun b90 =>
br b90 (
leaveK (gam J [(19, c19), (178, w178 c178), (241, w241 c241), (244, w244 c244), (325, w325 c325), (326, c326)]) d9 h86 fun h91 =>
k ⟨0, 0⟩ (Int.ofNat 2) h91) (
c244 v8.2.1 h86 fun s93 h92 =>
leaveK (gam J [(19, c19), (178, w178 c178), (241, w241 c241), (244, w244 c244), (325, w325 c325), (326, c326)]) d9 h92 fun h94 =>
k s93 (Int.ofNat 0) h94)) fun j87 =>
br b70 (
j87 skipV h80) (
asB v79 fun b88 =>
fB (Bool.not b88) fun b89 =>
j87 (AV.bool b89) h80)) fun j81 =>
br b70 (
j81 skipV h76) (
c326 [v71, v75] h76 fun v82 h83 =>
asB v82 fun b84 =>
j81 (AV.bool b84) h83)) fun j77 =>
br b70 (
j77 skipV h72) (
ldN 1 v8.1 h72 fun l78 =>
j77 (AV.agg l78) h72)) fun j73 =>
br b70 (
j73 skipV h67) (
ldN 1 (AV.ptr n61 0) h67 fun l74 =>
j73 (AV.agg l74) h67))) ((AV.ptr n1 0), (AV.ptr n4 0), v6, (AV.int .i64 (Int.ofNat x7)), (AV.int .i64 (Int.ofNat 0)), ()) [] h5
noncomputable def s251 : AV → H → (Str → Int → H → Prop) → Prop := s251G J0 g19 s178 s241 s244 s325 g326
noncomputable def w251 (c : AV → H → (Str → Int → H → Prop) → Prop) : Fun := fun xs h k => arg xs fun a0 xs => noArg xs <| c a0 h fun r0 r1 h => k (.tuple [(.str r0), (.int .i64 r1)]) h
theorem s251_eq (J : Joins) (c19 : Fun) (c178 : AV → H → (Str → Int → H → Prop) → Prop) (c241 : AV → Str → H → (Int → AV → H → Prop) → Prop) (c244 : AV → H → (Str → H → Prop) → Prop) (c325 : AV → H → (AV → Bool → H → Prop) → Prop) (c326 : Fun) (a0 : AV) (h : H) (k : AV → H → Prop) : denF ty (gam J [(19, c19), (178, w178 c178), (241, w241 c241), (244, w244 c244), (325, w325 c325), (326, c326)]) Tryz.f251 [a0] h k = s251G J c19 c178 c241 c244 c325 c326 a0 h (fun r0 r1 h => k (.tuple [(.str r0), (.int .i64 r1)]) h) := by kernel_rfl
noncomputable def g251 : Fun := w251 s251
theorem g251_ok : FunOk Tryz.prog 251 g251 := (fun_ok ty_ok mixed (gam_ok (J := J0) (tab_cons g19_ok (tab_cons g178_ok (tab_cons g241_ok (tab_cons g244_ok (tab_cons g325_ok (tab_cons g326_ok (tab_nil fls_fun)))))))) Tryz.func251 (fun args w => by simp)).imp fun xs h k e0 => by
  obtain ⟨a0, xs0, rfl, e1⟩ := arg_imp e0
  obtain ⟨rfl, e2⟩ := noArg_imp e1
  exact (s251_eq J0 g19 s178 s241 s244 s325 g326 a0 h k).mpr e2
/-- stagepost/catalog.Check -/
noncomputable def g177 : Fun := denFS ty (gam J0 [(251, g251)]) Tryz.f177
theorem g177_ok : FunOk Tryz.prog 177 g177 := fun_okS ty_ok mixed (gam_ok (J := J0) (tab_cons g251_ok (tab_nil fls_fun))) Tryz.func177 (fun args w => by simp)
/-- (stagepost/check.scope).where -/
noncomputable def g183 : Fun := denFS ty (gam J0 []) Tryz.f183
theorem g183_ok : FunOk Tryz.prog 183 g183 := fun_okS ty_ok mixed (gam_ok (J := J0) (tab_nil fls_fun)) Tryz.func183 (fun args w => by simp)
/-- stagepost/check.slots -/
noncomputable def g180 : Fun := denFS ty (gam J0 []) Tryz.f180
theorem g180_ok : FunOk Tryz.prog 180 g180 := fun_okS ty_ok mixed (gam_ok (J := J0) (tab_nil fls_fun)) Tryz.func180 (fun args w => by simp)
/-- stagepost/check.called -/
noncomputable def g354 : Fun := denFS ty (gam J0 []) Tryz.f354
theorem g354_ok : FunOk Tryz.prog 354 g354 := fun_okS ty_ok mixed (gam_ok (J := J0) (tab_nil fls_fun)) Tryz.func354 (fun args w => by simp)
/-- stagepost/check.sources$1 -/
noncomputable def g353 : Fun := denFS ty (gam J0 [(354, g354)]) Tryz.f353
theorem g353_ok : FunOk Tryz.prog 353 g353 := fun_okS ty_ok mixed (gam_ok (J := J0) (tab_cons g354_ok (tab_nil fls_fun))) Tryz.func353 (fun args w => by simp)
/-- slices.IndexFunc[[]stagepost/api.Source,stagepost/api.Source] -/
noncomputable def g428 : Fun := denFS ty (gam J0 [(353, g353)]) Tryz.f428
theorem g428_ok : FunOk Tryz.prog 428 g428 := fun_okS ty_ok mixed (gam_ok (J := J0) (tab_cons g353_ok (tab_nil fls_fun))) Tryz.func428 (fun args w => by simp)
end Go.Proofs.YtgpndbkghmbacaaGreatDoor
