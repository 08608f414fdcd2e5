/- Functions as they are reckoned. MADE BY PROGRAM (wip/tools/shal.py). -/
import Derived.Test.YtgpndbkghmbacaaGreatDoorAmS5
namespace Go.Proofs.YtgpndbkghmbacaaGreatDoor
open Go Go.Am
set_option maxRecDepth 100000
set_option linter.all false
/-- stagepost/coord.New -/
noncomputable def g20 : Fun := denFS ty (gam J0 [(47, g47), (48, g48)]) Tryz.f20
theorem g20_ok : FunOk Tryz.prog 20 g20 := fun_okS ty_ok mixed (gam_ok (J := J0) (tab_cons g47_ok (tab_cons g48_ok (tab_nil fls_fun)))) Tryz.func20 (fun args w => by simp)
/-- stagepost/stagepostlaw30.config -/
noncomputable def g21 : Fun := denFS ty (gam J0 []) Tryz.f21
theorem g21_ok : FunOk Tryz.prog 21 g21 := fun_okS ty_ok mixed (gam_ok (J := J0) (tab_nil fls_fun)) Tryz.func21 (fun args w => by simp)
/-- stagepost/stagepostlaw30.fresh -/
noncomputable def g5 : Fun := denFS ty (gam J0 [(19, g19), (20, g20), (21, g21)]) Tryz.f5
theorem g5_ok : FunOk Tryz.prog 5 g5 := fun_okS ty_ok mixed (gam_ok (J := J0) (tab_cons g19_ok (tab_cons g20_ok (tab_cons g21_ok (tab_nil fls_fun))))) Tryz.func5 (fun args w => by simp)
/-- (*stagepost/coord.Coord).none -/
noncomputable def g22 : Fun := denFS ty (gam J0 []) Tryz.f22
theorem g22_ok : FunOk Tryz.prog 22 g22 := fun_okS ty_ok mixed (gam_ok (J := J0) (tab_nil fls_fun)) Tryz.func22 (fun args w => by simp)
/-- (*stagepost/coord.Coord).Done -/
noncomputable def g10 : Fun := denFS ty (gam J0 [(22, g22)]) Tryz.f10
theorem g10_ok : FunOk Tryz.prog 10 g10 := fun_okS ty_ok mixed (gam_ok (J := J0) (tab_cons g22_ok (tab_nil fls_fun))) Tryz.func10 (fun args w => by simp)
/-- stagepost/stagepostlaw30.st -/
noncomputable def g11 : Fun := denFS ty (gam J0 []) Tryz.f11
theorem g11_ok : FunOk Tryz.prog 11 g11 := fun_okS ty_ok mixed (gam_ok (J := J0) (tab_nil fls_fun)) Tryz.func11 (fun args w => by simp)
/-- (*stagepost/coord.Coord).locked -/
noncomputable def g34 : Fun := denFS ty (gam J0 []) Tryz.f34
theorem g34_ok : FunOk Tryz.prog 34 g34 := fun_okS ty_ok mixed (gam_ok (J := J0) (tab_nil fls_fun)) Tryz.func34 (fun args w => by simp)
/-- stagepost/record.Tag -/
noncomputable def g35 : Fun := denFS ty (gam J0 []) Tryz.f35
theorem g35_ok : FunOk Tryz.prog 35 g35 := fun_okS ty_ok mixed (gam_ok (J := J0) (tab_nil fls_fun)) Tryz.func35 (fun args w => by simp)
/-- stagepost/hlc.Check -/
noncomputable def g58 : Fun := denFS ty (gam J0 []) Tryz.f58
theorem g58_ok : FunOk Tryz.prog 58 g58 := fun_okS ty_ok mixed (gam_ok (J := J0) (tab_nil fls_fun)) Tryz.func58 (fun args w => by simp)
/-- stagepost/hlc.Next -/
noncomputable def g36 : Fun := denFS ty (gam J0 [(58, g58)]) Tryz.f36
theorem g36_ok : FunOk Tryz.prog 36 g36 := fun_okS ty_ok mixed (gam_ok (J := J0) (tab_cons g58_ok (tab_nil fls_fun))) Tryz.func36 (fun args w => by simp)
/-- stagepost/parser.Parse$1 -/
noncomputable def g60 : Fun := denFS ty (gam J0 []) Tryz.f60
theorem g60_ok : FunOk Tryz.prog 60 g60 := fun_okS ty_ok mixed (gam_ok (J := J0) (tab_nil fls_fun)) Tryz.func60 (fun args w => by simp)
noncomputable def gd60 : Fun := denD ty (gam J0 []) Tryz.f60
theorem gd60_ok : DFunOk Tryz.prog 60 gd60 := dfun_ok ty_ok mixed (gam_ok (J := J0) (tab_nil fls_fun)) Tryz.func60 (fun args w => by simp)
/-- stagepost/parser.Parse -/
noncomputable def g37 : Fun := denFS ty (gamD J0 [(59, g59), (60, g60), (61, g61'), (62, g62), (63, g63), (64, g64)] [] [(60, gd60), (61, gd61)] noCode) Tryz.f37
theorem g37_ok : FunOk Tryz.prog 37 g37 := fun_okS ty_ok mixed (gamD_ok (J := J0) (tab_cons g59_ok (tab_cons g60_ok (tab_cons g61'_ok (tab_cons g62_ok (tab_cons g63_ok (tab_cons g64_ok (tab_nil fls_fun))))))) (tab_nil fls_it) (tab_cons gd60_ok (tab_cons gd61_ok (tab_nil fls_dfn))) noCode_ok) Tryz.func37 (fun args w => by simp)
/-- (*stagepost/coord.Coord).Take$1 -/
noncomputable def g24 : Fun := denFS ty (gam J0 []) Tryz.f24
theorem g24_ok : FunOk Tryz.prog 24 g24 := fun_okS ty_ok mixed (gam_ok (J := J0) (tab_nil fls_fun)) Tryz.func24 (fun args w => by simp)
/-- (*stagepost/coord.Coord).Tick$1 -/
noncomputable def g30 : Fun := denFS ty (gam J0 []) Tryz.f30
theorem g30_ok : FunOk Tryz.prog 30 g30 := fun_okS ty_ok mixed (gam_ok (J := J0) (tab_nil fls_fun)) Tryz.func30 (fun args w => by simp)
/-- (*stagepost/coord.Coord).end$1 -/
noncomputable def g65 : Fun := denFS ty (gam J0 []) Tryz.f65
theorem g65_ok : FunOk Tryz.prog 65 g65 := fun_okS ty_ok mixed (gam_ok (J := J0) (tab_nil fls_fun)) Tryz.func65 (fun args w => by simp)
/-- slices.IndexFunc[[]*stagepost/coord.asked,*stagepost/coord.asked] -/
noncomputable def g23 : Fun := denFS ty (gam J0 [(24, g24), (30, g30), (65, g65)]) Tryz.f23
theorem g23_ok : FunOk Tryz.prog 23 g23 := fun_okS ty_ok mixed (gam_ok (J := J0) (tab_cons g24_ok (tab_cons g30_ok (tab_cons g65_ok (tab_nil fls_fun))))) Tryz.func23 (fun args w => by simp)
/-- slices.DeleteFunc[[]*stagepost/coord.asked,*stagepost/coord.asked] -/
noncomputable def g29 : Fun := denFS ty (gam J0 [(23, g23), (24, g24), (30, g30), (65, g65)]) Tryz.f29
theorem g29_ok : FunOk Tryz.prog 29 g29 := fun_okS ty_ok mixed (gam_ok (J := J0) (tab_cons g23_ok (tab_cons g24_ok (tab_cons g30_ok (tab_cons g65_ok (tab_nil fls_fun)))))) Tryz.func29 (fun args w => by simp)
/-- (*stagepost/coord.Coord).end -/
noncomputable def g38 : Fun := denFS ty (gam J0 [(29, g29), (65, g65)]) Tryz.f38
theorem g38_ok : FunOk Tryz.prog 38 g38 := fun_okS ty_ok mixed (gam_ok (J := J0) (tab_cons g29_ok (tab_cons g65_ok (tab_nil fls_fun)))) Tryz.func38 (fun args w => by simp)
/-- stagepost/catalog.Find -/
noncomputable def g68 : Fun := denFS ty (gam J0 [(77, g77)]) Tryz.f68
theorem g68_ok : FunOk Tryz.prog 68 g68 := fun_okS ty_ok mixed (gam_ok (J := J0) (tab_cons g77_ok (tab_nil fls_fun))) Tryz.func68 (fun args w => by simp)
/-- (*stagepost/parser.writer).say -/
noncomputable def s328G (J : Joins) (a0 : AV) (a1 : AV) (h : H) (k : H → Prop) : Prop :=
lenK a1 fun x1 =>
J.lp (α := AV × AV × AV × AV × Unit) (fun r5 v2 d3 h4 =>
asI .i64 v2.2.2.2.1 fun x6 =>
asI .i64 v2.2.2.1 fun x7 =>
fB (ltI x6 x7) fun b8 =>
br b8 (
ixK 1 v2.2.1 v2.2.2.2.1 fun p9 =>
ldS p9 h4 fun s10 =>
J.jd (α := AV × AV × AV × AV × AV × AV × Unit) (fun v11 d12 h13 =>
okNil v11.1 (
faK 0 v11.1 fun p15 =>
ldV p15 h13 fun v16 =>
asI .u8 v11.2.2.1 fun x17 =>
asS v11.2.1 fun s18 =>
ck (Nat.beq (List.length [(AV.int .u8 x17), (AV.str s18), (.int .u64 0), (.int .i64 0)]) 4) (op' (lputAt 0 [(AV.int .u8 x17), (AV.str s18), (.int .u64 0), (.int .i64 0)] [(.int .u8 0), (.str ⟨0, 0⟩), (.int .u64 0), (.int .i64 0)]) fun l21 =>
pushK (.cells false 222 l21) h13 fun n19 h20 =>
apC 222 4 40 v16 (AV.slice n19 0 1 1 4 true) h20 fun v22 h23 =>
okNil v11.1 (
faK 0 v11.1 fun p24 =>
stV p24 v22 h23 fun h25 =>
asI .i64 v11.2.2.2.2.2.1 fun x26 =>
fI (wrapF .i64 (Int.add x26 (Int.ofNat 1))) fun x27 =>
r5 (v11.1, v11.2.2.2.1, v11.2.2.2.2.1, (AV.int .i64 x27), ()) d12 h25)))) fun j14 =>
fB (Bool.not (Str.beq s10 (⟨0, 0⟩ : Str))) fun b28 =>
J.jn (fun v29 h30 =>
J.jn (fun v32 h33 =>
J.jn (fun v36 h37 =>
J.jn (fun v41 h42 =>
J.jn (fun v44 h45 =>
J.jn (fun v47 h48 =>
J.jn (fun v51 h52 =>
J.jn (fun v56 h57 =>
J.jn (fun v60 h61 =>
J.jn (fun v63 h64 =>
J.jn (fun v66 h67 =>
J.jn (fun v70 h71 =>
J.jn (fun v75 h76 =>
pickB (AV.bool b28) v75 (AV.bool false) fun b79 =>
br b79 (
j14 (v2.1, (AV.str s10), (AV.int .u8 (Int.ofNat 1)), v2.2.1, v2.2.2.1, v2.2.2.2.1, ()) d3 h76) (
j14 (v2.1, (AV.str s10), (AV.int .u8 (Int.ofNat 4)), v2.2.1, v2.2.2.1, v2.2.2.2.1, ()) d3 h76)) fun j77 =>
br b28 (
pickB v60 (AV.bool true) v70 fun b78 =>
j77 (AV.bool b78) h71) (
j77 skipV h71)) fun j72 =>
asBU v60 (fun b80 =>
br b80 (
j72 skipV h67) (
asI .u8 v66 fun x73 =>
fB (eqI x73 (Int.ofNat 95)) fun b74 =>
j72 (AV.bool b74) h67)) (
j72 skipV h67)) fun j68 =>
asBU v60 (fun b81 =>
br b81 (
j68 skipV h64) (
ixsK v63 (AV.int .i64 (Int.ofNat 0)) fun x69 =>
j68 (AV.int .u8 x69) h64)) (
j68 skipV h64)) fun j65 =>
asBU v60 (fun b82 =>
br b82 (
j65 skipV h61) (
j65 (AV.str s10) h61)) (
j65 skipV h61)) fun j62 =>
br b28 (
j62 v56 h57) (
j62 skipV h57)) fun j58 =>
br b28 (
pickB v41 v51 (AV.bool false) fun b59 =>
j58 (AV.bool b59) h52) (
j58 skipV h52)) fun j53 =>
asBU v41 (fun b83 =>
br b83 (
asI .u8 v47 fun x54 =>
fB (Bool.not (ltI (Int.ofNat 122) x54)) fun b55 =>
j53 (AV.bool b55) h48) (
j53 skipV h48)) (
j53 skipV h48)) fun j49 =>
asBU v41 (fun b84 =>
br b84 (
ixsK v44 (AV.int .i64 (Int.ofNat 0)) fun x50 =>
j49 (AV.int .u8 x50) h45) (
j49 skipV h45)) (
j49 skipV h45)) fun j46 =>
asBU v41 (fun b85 =>
br b85 (
j46 (AV.str s10) h42) (
j46 skipV h42)) (
j46 skipV h42)) fun j43 =>
br b28 (
j43 v36 h37) (
j43 skipV h37)) fun j38 =>
br b28 (
asI .u8 v32 fun x39 =>
fB (Bool.not (ltI x39 (Int.ofNat 97))) fun b40 =>
j38 (AV.bool b40) h33) (
j38 skipV h33)) fun j34 =>
br b28 (
ixsK v29 (AV.int .i64 (Int.ofNat 0)) fun x35 =>
j34 (AV.int .u8 x35) h30) (
j34 skipV h30)) fun j31 =>
br b28 (
j31 (AV.str s10) h4) (
j31 skipV h4)) (
leaveK (gam J []) d3 h4 fun h86 =>
k  h86)) (a0, a1, (AV.int .i64 (Int.ofNat x1)), (AV.int .i64 (Int.ofNat 0)), ()) [] h
noncomputable def s328 : AV → AV → H → (H → Prop) → Prop := s328G J0 
noncomputable def w328 (c : AV → AV → H → (H → Prop) → Prop) : Fun := fun xs h k => arg xs fun a0 xs => arg xs fun a1 xs => noArg xs <| c a0 a1 h fun  h => k (.tuple []) h
theorem s328_eq (J : Joins) (a0 : AV) (a1 : AV) (h : H) (k : AV → H → Prop) : denF ty (gam J []) Tryz.f328 [a0, a1] h k = s328G J  a0 a1 h (fun  h => k (.tuple []) h) := by kernel_rfl
noncomputable def g328 : Fun := w328 s328
theorem g328_ok : FunOk Tryz.prog 328 g328 := (fun_ok ty_ok mixed (gam_ok (J := J0) (tab_nil fls_fun)) Tryz.func328 (fun args w => by simp)).imp fun xs h k e0 => by
  obtain ⟨a0, xs0, rfl, e1⟩ := arg_imp e0
  obtain ⟨a1, xs1, rfl, e2⟩ := arg_imp e1
  obtain ⟨rfl, e3⟩ := noArg_imp e2
  exact (s328_eq J0  a0 a1 h k).mpr e3
end Go.Proofs.YtgpndbkghmbacaaGreatDoor
