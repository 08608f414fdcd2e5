/- Functions as they are reckoned. MADE BY PROGRAM (wip/tools/shal.py). -/
import Derived.Test.YtgpndbkghmbacaaGreatDoorAmS4
namespace Go.Proofs.YtgpndbkghmbacaaGreatDoor
open Go Go.Am
set_option maxRecDepth 100000
set_option linter.all false
/-- (*stagepost/parser.reader).index -/
noncomputable def s104G (J : Joins) (c63 : AV → Str → H → (Bool → H → Prop) → Prop) (c105 : AV → H → (Str → H → Prop) → Prop) (c161 : AV → AV → H → (H → Prop) → Prop) (c170 : AV → Int → H → (AV → H → Prop) → Prop) (a0 : AV) (h : H) (k : AV → H → Prop) : Prop :=
pushK (.cells false 89 [(.int .u8 0), (.str ⟨0, 0⟩), (.str ⟨0, 0⟩), (.nils), (.nils), (.bool false), (.nils), (.nils), (.nils), (.nils), (.int .u8 0), (.int .u8 0), (.int .i64 0), (.str ⟨0, 0⟩), (.str ⟨0, 0⟩), (.str ⟨0, 0⟩), (.int .i64 0), (.int .u8 0), (.nils), (.nils), (.nils), (.int .i64 0), (.nils)]) h fun n1 h2 =>
c63 a0 ⟨6, 129117075895653⟩ h2 fun b4 h3 =>
pushK (.cells false 89 [(.int .u8 0), (.str ⟨0, 0⟩), (.str ⟨0, 0⟩), (.nils), (.nils), (.bool false), (.nils), (.nils), (.nils), (.nils), (.int .u8 0), (.int .u8 0), (.int .i64 0), (.str ⟨0, 0⟩), (.str ⟨0, 0⟩), (.str ⟨0, 0⟩), (.int .i64 0), (.int .u8 0), (.nils), (.nils), (.nils), (.int .i64 0), (.nils)]) h3 fun n5 h6 =>
stN 23 (AV.ptr n5 0) [(AV.int .u8 (Int.ofNat 6)), (.str ⟨0, 0⟩), (.str ⟨0, 0⟩), (.nils), (.nils), (AV.bool b4), (.nils), (.nils), (.nils), (.nils), (.int .u8 0), (.int .u8 0), (.int .i64 0), (.str ⟨0, 0⟩), (.str ⟨0, 0⟩), (.str ⟨0, 0⟩), (.int .i64 0), (.int .u8 0), (.nils), (.nils), (.nils), (.int .i64 0), (.nils)] h6 fun h7 =>
pushK (.cells false 9 [(AV.str ⟨5, 452823639416⟩)]) h7 fun n8 h9 =>
c161 a0 (AV.slice n8 0 1 1 1 true) h9 fun  h10 =>
c105 a0 h10 fun s12 h11 =>
stV (AV.ptr n5 1) (AV.str s12) h11 fun h13 =>
pushK (.cells false 9 [(AV.str ⟨2, 28526⟩)]) h13 fun n14 h15 =>
c161 a0 (AV.slice n14 0 1 1 1 true) h15 fun  h16 =>
c105 a0 h16 fun s18 h17 =>
stV (AV.ptr n5 2) (AV.str s18) h17 fun h19 =>
c170 a0 (Int.ofNat 4) h19 fun v21 h20 =>
stV (AV.ptr n5 6) v21 h20 fun h22 =>
ldN 23 (AV.ptr n5 0) h22 fun l23 =>
stN 23 (AV.ptr n1 0) l23 h22 fun h24 =>
ldN 23 (AV.ptr n1 0) h24 fun l25 =>
k (AV.agg l25) h24
noncomputable def s104 : AV → H → (AV → H → Prop) → Prop := s104G J0 s63 s105 s161 s170
noncomputable def w104 (c : AV → H → (AV → H → Prop) → Prop) : Fun := fun xs h k => arg xs fun a0 xs => noArg xs <| c a0 h fun r0 h => k r0 h
theorem s104_eq (J : Joins) (c63 : AV → Str → H → (Bool → H → Prop) → Prop) (c105 : AV → H → (Str → H → Prop) → Prop) (c161 : AV → AV → H → (H → Prop) → Prop) (c170 : AV → Int → H → (AV → H → Prop) → Prop) (a0 : AV) (h : H) (k : AV → H → Prop) : denF ty (gam J [(63, w63 c63), (105, w105 c105), (161, w161 c161), (170, w170 c170)]) Tryz.f104 [a0] h k = s104G J c63 c105 c161 c170 a0 h (fun r0 h => k r0 h) := by kernel_rfl
noncomputable def g104 : Fun := w104 s104
theorem g104_ok : FunOk Tryz.prog 104 g104 := (fun_ok ty_ok mixed (gam_ok (J := J0) (tab_cons g63_ok (tab_cons g105_ok (tab_cons g161_ok (tab_cons g170_ok (tab_nil fls_fun)))))) Tryz.func104 (fun args w => by simp)).imp fun xs h k e0 => by
  obtain ⟨a0, xs0, rfl, e1⟩ := arg_imp e0
  obtain ⟨rfl, e2⟩ := noArg_imp e1
  exact (s104_eq J0 s63 s105 s161 s170 a0 h k).mpr e2
/-- (*stagepost/parser.reader).stmt -/
noncomputable def g62 : Fun := denFS ty (gam J0 [(63, g63), (98, g98), (99, g99), (100, g100), (103, g103), (104, g104), (105, g105)]) Tryz.f62
theorem g62_ok : FunOk Tryz.prog 62 g62 := fun_okS ty_ok mixed (gam_ok (J := J0) (tab_cons g63_ok (tab_cons g98_ok (tab_cons g99_ok (tab_cons g100_ok (tab_cons g103_ok (tab_cons g104_ok (tab_cons g105_ok (tab_nil fls_fun))))))))) Tryz.func62 (fun args w => by simp)
/-- (*stagepost/parser.reader).ended -/
noncomputable def s64G (J : Joins) (a0 : AV) (h : H) (k : H → Prop) : Prop :=
okNil a0 (
faK 1 a0 fun p1 =>
ldI .i64 p1 h fun x2 =>
okNil a0 (
faK 0 a0 fun p3 =>
ldV p3 h fun v4 =>
lenK v4 fun x5 =>
fB (ltI x2 (Int.ofNat x5)) fun b6 =>
br b6 (
False) (
k  h)))
noncomputable def s64 : AV → H → (H → Prop) → Prop := s64G J0 
noncomputable def w64 (c : AV → H → (H → Prop) → Prop) : Fun := fun xs h k => arg xs fun a0 xs => noArg xs <| c a0 h fun  h => k (.tuple []) h
theorem s64_eq (J : Joins) (a0 : AV) (h : H) (k : AV → H → Prop) : denF ty (gam J []) Tryz.f64 [a0] h k = s64G J  a0 h (fun  h => k (.tuple []) h) := by kernel_rfl
noncomputable def g64 : Fun := w64 s64
theorem g64_ok : FunOk Tryz.prog 64 g64 := (fun_ok ty_ok mixed (gam_ok (J := J0) (tab_nil fls_fun)) Tryz.func64 (fun args w => by simp)).imp fun xs h k e0 => by
  obtain ⟨a0, xs0, rfl, e1⟩ := arg_imp e0
  obtain ⟨rfl, e2⟩ := noArg_imp e1
  exact (s64_eq J0  a0 h k).mpr e2
/-- stagepost/parser.Script$1 -/
noncomputable def g75 : Fun := denFS ty (gam J0 []) Tryz.f75
theorem g75_ok : FunOk Tryz.prog 75 g75 := fun_okS ty_ok mixed (gam_ok (J := J0) (tab_nil fls_fun)) Tryz.func75 (fun args w => by simp)
noncomputable def gd75 : Fun := denD ty (gam J0 []) Tryz.f75
theorem gd75_ok : DFunOk Tryz.prog 75 gd75 := dfun_ok ty_ok mixed (gam_ok (J := J0) (tab_nil fls_fun)) Tryz.func75 (fun args w => by simp)
/-- stagepost/parser.Script -/
noncomputable def g44 : Fun := denFS ty (gamD J0 [(59, g59), (61, g61'), (62, g62), (63, g63), (64, g64), (75, g75), (76, g76)] [] [(61, gd61), (75, gd75)] noCode) Tryz.f44
theorem g44_ok : FunOk Tryz.prog 44 g44 := fun_okS ty_ok mixed (gamD_ok (J := J0) (tab_cons g59_ok (tab_cons g61'_ok (tab_cons g62_ok (tab_cons g63_ok (tab_cons g64_ok (tab_cons g75_ok (tab_cons g76_ok (tab_nil fls_fun)))))))) (tab_nil fls_it) (tab_cons gd61_ok (tab_cons gd75_ok (tab_nil fls_dfn))) noCode_ok) Tryz.func44 (fun args w => by simp)
/-- stagepost/catalog.place$1 -/
noncomputable def s136G (J : Joins) (a0 : AV) (a1 : AV) (h : H) (k : Bool → H → Prop) : Prop :=
Go.Am.asAgg a0 fun l3 =>
pushK (.cells false 182 l3) h fun n1 h2 =>
ldS (AV.ptr n1 0) h2 fun s4 =>
ldS a1 h2 fun s5 =>
fB (Str.beq s4 s5) fun b6 =>
k b6 h2
noncomputable def s136 : AV → AV → H → (Bool → H → Prop) → Prop := s136G J0 
noncomputable def w136 (c : AV → AV → H → (Bool → H → Prop) → Prop) : Fun := fun xs h k => arg xs fun a0 xs => arg xs fun a1 xs => noArg xs <| c a0 a1 h fun r0 h => k (.bool r0) h
theorem s136_eq (J : Joins) (a0 : AV) (a1 : AV) (h : H) (k : AV → H → Prop) : denF ty (gam J []) Tryz.f136 [a0, a1] h k = s136G J  a0 a1 h (fun r0 h => k (.bool r0) h) := by kernel_rfl
noncomputable def g136 : Fun := w136 s136
theorem g136_ok : FunOk Tryz.prog 136 g136 := (fun_ok ty_ok mixed (gam_ok (J := J0) (tab_nil fls_fun)) Tryz.func136 (fun args w => by simp)).imp fun xs h k e0 => by
  obtain ⟨a0, xs0, rfl, e1⟩ := arg_imp e0
  obtain ⟨a1, xs1, rfl, e2⟩ := arg_imp e1
  obtain ⟨rfl, e3⟩ := noArg_imp e2
  exact (s136_eq J0  a0 a1 h k).mpr e3
/-- slices.IndexFunc[[]stagepost/api.Table,stagepost/api.Table] -/
noncomputable def s135G (J : Joins) (c136 : AV → AV → H → (Bool → H → Prop) → Prop) (a0 : AV) (a1 : AV) (h : H) (k : Int → H → Prop) : Prop :=
lenK a0 fun x1 =>
J.lp (α := AV × AV × AV × AV × Unit) (fun r5 v2 d3 h4 =>
asI .i64 v2.2.2.2.1 fun x6 =>
asI .i64 v2.2.2.1 fun x7 =>
fB (ltI x6 x7) fun b8 =>
br b8 (
ixK 5 v2.1 v2.2.2.2.1 fun p9 =>
ldN 5 p9 h4 fun l10 =>
callK (gam J [(136, w136 c136)]) v2.2.1 [(AV.agg l10)] h4 fun v11 h12 =>
asB v11 fun b13 =>
br b13 (
leaveK (gam J [(136, w136 c136)]) d3 h12 fun h14 =>
asI .i64 v2.2.2.2.1 fun x15 =>
k x15 h14) (
asI .i64 v2.2.2.2.1 fun x16 =>
fI (wrapF .i64 (Int.add x16 (Int.ofNat 1))) fun x17 =>
r5 (v2.1, v2.2.1, v2.2.2.1, (AV.int .i64 x17), ()) d3 h12)) (
leaveK (gam J [(136, w136 c136)]) d3 h4 fun h18 =>
k (Int.negSucc 0) h18)) (a0, a1, (AV.int .i64 (Int.ofNat x1)), (AV.int .i64 (Int.ofNat 0)), ()) [] h
noncomputable def s135 : AV → AV → H → (Int → H → Prop) → Prop := s135G J0 s136
noncomputable def w135 (c : AV → AV → H → (Int → H → Prop) → Prop) : Fun := fun xs h k => arg xs fun a0 xs => arg xs fun a1 xs => noArg xs <| c a0 a1 h fun r0 h => k (.int .i64 r0) h
theorem s135_eq (J : Joins) (c136 : AV → AV → H → (Bool → H → Prop) → Prop) (a0 : AV) (a1 : AV) (h : H) (k : AV → H → Prop) : denF ty (gam J [(136, w136 c136)]) Tryz.f135 [a0, a1] h k = s135G J c136 a0 a1 h (fun r0 h => k (.int .i64 r0) h) := by kernel_rfl
noncomputable def g135 : Fun := w135 s135
theorem g135_ok : FunOk Tryz.prog 135 g135 := (fun_ok ty_ok mixed (gam_ok (J := J0) (tab_cons g136_ok (tab_nil fls_fun))) Tryz.func135 (fun args w => by simp)).imp fun xs h k e0 => by
  obtain ⟨a0, xs0, rfl, e1⟩ := arg_imp e0
  obtain ⟨a1, xs1, rfl, e2⟩ := arg_imp e1
  obtain ⟨rfl, e3⟩ := noArg_imp e2
  exact (s135_eq J0 s136 a0 a1 h k).mpr e3
/-- stagepost/catalog.place -/
noncomputable def s77G (J : Joins) (c135 : AV → AV → H → (Int → H → Prop) → Prop) (c136 : AV → AV → H → (Bool → H → Prop) → Prop) (a0 : AV) (a1 : Str) (h : H) (k : Int → H → Prop) : Prop :=
Go.Am.asAgg a0 fun l3 =>
pushK (.cells false 66 l3) h fun n1 h2 =>
pushK (.cells false 9 [(AV.str a1)]) h2 fun n4 h5 =>
ldV (AV.ptr n1 0) h5 fun v6 =>
c135 v6 (AV.func (.func 136) [] [(AV.ptr n4 0)]) h5 fun x8 h7 =>
k x8 h7
noncomputable def s77 : AV → Str → H → (Int → H → Prop) → Prop := s77G J0 s135 s136
noncomputable def w77 (c : AV → Str → H → (Int → H → Prop) → Prop) : Fun := fun xs h k => arg xs fun a0 xs => arg xs fun a1 xs => noArg xs <| asS a1 fun a1 => c a0 a1 h fun r0 h => k (.int .i64 r0) h
theorem s77_eq (J : Joins) (c135 : AV → AV → H → (Int → H → Prop) → Prop) (c136 : AV → AV → H → (Bool → H → Prop) → Prop) (a0 : AV) (a1 : Str) (h : H) (k : AV → H → Prop) : denF ty (gam J [(135, w135 c135), (136, w136 c136)]) Tryz.f77 [a0, (.str a1)] h k = s77G J c135 c136 a0 a1 h (fun r0 h => k (.int .i64 r0) h) := by kernel_rfl
noncomputable def g77 : Fun := w77 s77
theorem g77_ok : FunOk Tryz.prog 77 g77 := (fun_ok ty_ok mixed (gam_ok (J := J0) (tab_cons g135_ok (tab_cons g136_ok (tab_nil fls_fun)))) Tryz.func77 (fun args w => by simp)).imp fun xs h k e0 => by
  obtain ⟨a0, xs0, rfl, e1⟩ := arg_imp e0
  obtain ⟨a1, xs1, rfl, e2⟩ := arg_imp e1
  obtain ⟨rfl, e3⟩ := noArg_imp e2
  obtain ⟨a1, rfl, e4⟩ := asS_iff.1 e3
  exact (s77_eq J0 s135 s136 a0 a1 h k).mpr e4
/-- stagepost/catalog.column$1 -/
noncomputable def s138G (J : Joins) (a0 : AV) (a1 : AV) (h : H) (k : Bool → H → Prop) : Prop :=
Go.Am.asAgg a0 fun l3 =>
pushK (.cells false 195 l3) h fun n1 h2 =>
ldS (AV.ptr n1 0) h2 fun s4 =>
ldS a1 h2 fun s5 =>
fB (Str.beq s4 s5) fun b6 =>
k b6 h2
noncomputable def s138 : AV → AV → H → (Bool → H → Prop) → Prop := s138G J0 
noncomputable def w138 (c : AV → AV → H → (Bool → H → Prop) → Prop) : Fun := fun xs h k => arg xs fun a0 xs => arg xs fun a1 xs => noArg xs <| c a0 a1 h fun r0 h => k (.bool r0) h
theorem s138_eq (J : Joins) (a0 : AV) (a1 : AV) (h : H) (k : AV → H → Prop) : denF ty (gam J []) Tryz.f138 [a0, a1] h k = s138G J  a0 a1 h (fun r0 h => k (.bool r0) h) := by kernel_rfl
noncomputable def g138 : Fun := w138 s138
theorem g138_ok : FunOk Tryz.prog 138 g138 := (fun_ok ty_ok mixed (gam_ok (J := J0) (tab_nil fls_fun)) Tryz.func138 (fun args w => by simp)).imp fun xs h k e0 => by
  obtain ⟨a0, xs0, rfl, e1⟩ := arg_imp e0
  obtain ⟨a1, xs1, rfl, e2⟩ := arg_imp e1
  obtain ⟨rfl, e3⟩ := noArg_imp e2
  exact (s138_eq J0  a0 a1 h k).mpr e3
/-- slices.IndexFunc[[]stagepost/api.Column,stagepost/api.Column] -/
noncomputable def s137G (J : Joins) (c138 : AV → AV → H → (Bool → H → Prop) → Prop) (a0 : AV) (a1 : AV) (h : H) (k : Int → H → Prop) : Prop :=
lenK a0 fun x1 =>
J.lp (α := AV × AV × AV × AV × Unit) (fun r5 v2 d3 h4 =>
asI .i64 v2.2.2.2.1 fun x6 =>
asI .i64 v2.2.2.1 fun x7 =>
fB (ltI x6 x7) fun b8 =>
br b8 (
ixK 3 v2.1 v2.2.2.2.1 fun p9 =>
ldN 3 p9 h4 fun l10 =>
callK (gam J [(138, w138 c138)]) v2.2.1 [(AV.agg l10)] h4 fun v11 h12 =>
asB v11 fun b13 =>
br b13 (
leaveK (gam J [(138, w138 c138)]) d3 h12 fun h14 =>
asI .i64 v2.2.2.2.1 fun x15 =>
k x15 h14) (
asI .i64 v2.2.2.2.1 fun x16 =>
fI (wrapF .i64 (Int.add x16 (Int.ofNat 1))) fun x17 =>
r5 (v2.1, v2.2.1, v2.2.2.1, (AV.int .i64 x17), ()) d3 h12)) (
leaveK (gam J [(138, w138 c138)]) d3 h4 fun h18 =>
k (Int.negSucc 0) h18)) (a0, a1, (AV.int .i64 (Int.ofNat x1)), (AV.int .i64 (Int.ofNat 0)), ()) [] h
noncomputable def s137 : AV → AV → H → (Int → H → Prop) → Prop := s137G J0 s138
noncomputable def w137 (c : AV → AV → H → (Int → H → Prop) → Prop) : Fun := fun xs h k => arg xs fun a0 xs => arg xs fun a1 xs => noArg xs <| c a0 a1 h fun r0 h => k (.int .i64 r0) h
theorem s137_eq (J : Joins) (c138 : AV → AV → H → (Bool → H → Prop) → Prop) (a0 : AV) (a1 : AV) (h : H) (k : AV → H → Prop) : denF ty (gam J [(138, w138 c138)]) Tryz.f137 [a0, a1] h k = s137G J c138 a0 a1 h (fun r0 h => k (.int .i64 r0) h) := by kernel_rfl
noncomputable def g137 : Fun := w137 s137
theorem g137_ok : FunOk Tryz.prog 137 g137 := (fun_ok ty_ok mixed (gam_ok (J := J0) (tab_cons g138_ok (tab_nil fls_fun))) Tryz.func137 (fun args w => by simp)).imp fun xs h k e0 => by
  obtain ⟨a0, xs0, rfl, e1⟩ := arg_imp e0
  obtain ⟨a1, xs1, rfl, e2⟩ := arg_imp e1
  obtain ⟨rfl, e3⟩ := noArg_imp e2
  exact (s137_eq J0 s138 a0 a1 h k).mpr e3
/-- stagepost/catalog.column -/
noncomputable def s78G (J : Joins) (c137 : AV → AV → H → (Int → H → Prop) → Prop) (c138 : AV → AV → H → (Bool → H → Prop) → Prop) (a0 : AV) (a1 : Str) (h : H) (k : Int → H → Prop) : Prop :=
pushK (.cells false 9 [(AV.str a1)]) h fun n1 h2 =>
c137 a0 (AV.func (.func 138) [] [(AV.ptr n1 0)]) h2 fun x4 h3 =>
k x4 h3
noncomputable def s78 : AV → Str → H → (Int → H → Prop) → Prop := s78G J0 s137 s138
noncomputable def w78 (c : AV → Str → H → (Int → H → Prop) → Prop) : Fun := fun xs h k => arg xs fun a0 xs => arg xs fun a1 xs => noArg xs <| asS a1 fun a1 => c a0 a1 h fun r0 h => k (.int .i64 r0) h
theorem s78_eq (J : Joins) (c137 : AV → AV → H → (Int → H → Prop) → Prop) (c138 : AV → AV → H → (Bool → H → Prop) → Prop) (a0 : AV) (a1 : Str) (h : H) (k : AV → H → Prop) : denF ty (gam J [(137, w137 c137), (138, w138 c138)]) Tryz.f78 [a0, (.str a1)] h k = s78G J c137 c138 a0 a1 h (fun r0 h => k (.int .i64 r0) h) := by kernel_rfl
noncomputable def g78 : Fun := w78 s78
theorem g78_ok : FunOk Tryz.prog 78 g78 := (fun_ok ty_ok mixed (gam_ok (J := J0) (tab_cons g137_ok (tab_cons g138_ok (tab_nil fls_fun)))) Tryz.func78 (fun args w => by simp)).imp fun xs h k e0 => by
  obtain ⟨a0, xs0, rfl, e1⟩ := arg_imp e0
  obtain ⟨a1, xs1, rfl, e2⟩ := arg_imp e1
  obtain ⟨rfl, e3⟩ := noArg_imp e2
  obtain ⟨a1, rfl, e4⟩ := asS_iff.1 e3
  exact (s78_eq J0 s137 s138 a0 a1 h k).mpr e4
/-- slices.Index[[]int,int] -/
noncomputable def g220 : Fun := denFS ty (gam J0 []) Tryz.f220
theorem g220_ok : FunOk Tryz.prog 220 g220 := fun_okS ty_ok mixed (gam_ok (J := J0) (tab_nil fls_fun)) Tryz.func220 (fun args w => by simp)
/-- slices.Contains[[]int,int] -/
noncomputable def g140 : Fun := denFS ty (gam J0 [(220, g220)]) Tryz.f140
theorem g140_ok : FunOk Tryz.prog 140 g140 := fun_okS ty_ok mixed (gam_ok (J := J0) (tab_cons g220_ok (tab_nil fls_fun))) Tryz.func140 (fun args w => by simp)
/-- stagepost/catalog.places -/
noncomputable def s83G (J : Joins) (c78 : AV → Str → H → (Int → H → Prop) → Prop) (c140 : Fun) (a0 : AV) (a1 : AV) (h : H) (k : AV → Int → H → Prop) : Prop :=
lenK a1 fun x1 =>
J.lp (α := AV × AV × AV × AV × AV × Unit) (fun r5 v2 d3 h4 =>
asI .i64 v2.2.2.2.2.1 fun x6 =>
asI .i64 v2.2.2.2.1 fun x7 =>
fB (ltI x6 x7) fun b8 =>
br b8 (
ixK 1 v2.2.2.1 v2.2.2.2.2.1 fun p9 =>
ldS p9 h4 fun s10 =>
c78 v2.1 s10 h4 fun x12 h11 =>
fB (ltI x12 (Int.ofNat 0)) fun b13 =>
br b13 (
leaveK (gam J [(78, w78 c78), (140, c140)]) d3 h11 fun h14 =>
k AV.nils (Int.ofNat 4) h14) (
pushK (.cells false 3 [(AV.int .i64 x12)]) h11 fun n15 h16 =>
apC 3 1 8 v2.2.1 (AV.slice n15 0 1 1 1 true) h16 fun v17 h18 =>
asI .i64 v2.2.2.2.2.1 fun x19 =>
fI (wrapF .i64 (Int.add x19 (Int.ofNat 1))) fun x20 =>
r5 (v2.1, v17, v2.2.2.1, v2.2.2.2.1, (AV.int .i64 x20), ()) d3 h18)) (
lenK v2.2.1 fun x21 =>
J.lp (α := AV × AV × AV × AV × Unit) (fun r25 v22 d23 h24 =>
asI .i64 v22.2.2.2.1 fun x26 =>
asI .i64 v22.2.2.1 fun x27 =>
fB (ltI x26 x27) fun b28 =>
br b28 (
ixK 1 v22.2.1 v22.2.2.2.1 fun p29 =>
ldI .i64 p29 h24 fun x30 =>
slK 1 v22.1 none (some v22.2.2.2.1) fun v31 =>
c140 [v31, (AV.int .i64 x30)] h24 fun v32 h33 =>
asB v32 fun b34 =>
br b34 (
leaveK (gam J [(78, w78 c78), (140, c140)]) d23 h33 fun h35 =>
k AV.nils (Int.ofNat 9) h35) (
asI .i64 v22.2.2.2.1 fun x36 =>
fI (wrapF .i64 (Int.add x36 (Int.ofNat 1))) fun x37 =>
r25 (v22.1, v22.2.1, v22.2.2.1, (AV.int .i64 x37), ()) d23 h33)) (
leaveK (gam J [(78, w78 c78), (140, c140)]) d23 h24 fun h38 =>
k v22.1 (Int.ofNat 0) h38)) (v2.2.1, v2.2.1, (AV.int .i64 (Int.ofNat x21)), (AV.int .i64 (Int.ofNat 0)), ()) d3 h4)) (a0, AV.nils, a1, (AV.int .i64 (Int.ofNat x1)), (AV.int .i64 (Int.ofNat 0)), ()) [] h
noncomputable def s83 : AV → AV → H → (AV → Int → H → Prop) → Prop := s83G J0 s78 g140
noncomputable def w83 (c : AV → AV → H → (AV → Int → H → Prop) → Prop) : Fun := fun xs h k => arg xs fun a0 xs => arg xs fun a1 xs => noArg xs <| c a0 a1 h fun r0 r1 h => k (.tuple [r0, (.int .i64 r1)]) h
theorem s83_eq (J : Joins) (c78 : AV → Str → H → (Int → H → Prop) → Prop) (c140 : Fun) (a0 : AV) (a1 : AV) (h : H) (k : AV → H → Prop) : denF ty (gam J [(78, w78 c78), (140, c140)]) Tryz.f83 [a0, a1] h k = s83G J c78 c140 a0 a1 h (fun r0 r1 h => k (.tuple [r0, (.int .i64 r1)]) h) := by kernel_rfl
noncomputable def g83 : Fun := w83 s83
theorem g83_ok : FunOk Tryz.prog 83 g83 := (fun_ok ty_ok mixed (gam_ok (J := J0) (tab_cons g78_ok (tab_cons g140_ok (tab_nil fls_fun)))) Tryz.func83 (fun args w => by simp)).imp fun xs h k e0 => by
  obtain ⟨a0, xs0, rfl, e1⟩ := arg_imp e0
  obtain ⟨a1, xs1, rfl, e2⟩ := arg_imp e1
  obtain ⟨rfl, e3⟩ := noArg_imp e2
  exact (s83_eq J0 s78 g140 a0 a1 h k).mpr e3
/-- stagepost/catalog.keys -/
noncomputable def s79G (J : Joins) (c83 : AV → AV → H → (AV → Int → H → Prop) → Prop) (a0 : AV) (h : H) (k : AV → Int → H → Prop) : Prop :=
Go.Am.asAgg a0 fun l3 =>
pushK (.cells false 89 l3) h fun n1 h2 =>
ldV (AV.ptr n1 3) h2 fun v4 =>
ldV (AV.ptr n1 4) h2 fun v5 =>
c83 v4 v5 h2 fun v7 x8 h6 =>
k v7 x8 h6
noncomputable def s79 : AV → H → (AV → Int → H → Prop) → Prop := s79G J0 s83
noncomputable def w79 (c : AV → H → (AV → Int → H → Prop) → Prop) : Fun := fun xs h k => arg xs fun a0 xs => noArg xs <| c a0 h fun r0 r1 h => k (.tuple [r0, (.int .i64 r1)]) h
theorem s79_eq (J : Joins) (c83 : AV → AV → H → (AV → Int → H → Prop) → Prop) (a0 : AV) (h : H) (k : AV → H → Prop) : denF ty (gam J [(83, w83 c83)]) Tryz.f79 [a0] h k = s79G J c83 a0 h (fun r0 r1 h => k (.tuple [r0, (.int .i64 r1)]) h) := by kernel_rfl
noncomputable def g79 : Fun := w79 s79
theorem g79_ok : FunOk Tryz.prog 79 g79 := (fun_ok ty_ok mixed (gam_ok (J := J0) (tab_cons g83_ok (tab_nil fls_fun))) Tryz.func79 (fun args w => by simp)).imp fun xs h k e0 => by
  obtain ⟨a0, xs0, rfl, e1⟩ := arg_imp e0
  obtain ⟨rfl, e2⟩ := noArg_imp e1
  exact (s79_eq J0 s83 a0 h k).mpr e2
/-- slices.Clone[[]stagepost/api.Column,stagepost/api.Column] -/
noncomputable def g80 : Fun := denFS ty (gam J0 []) Tryz.f80
theorem g80_ok : FunOk Tryz.prog 80 g80 := fun_okS ty_ok mixed (gam_ok (J := J0) (tab_nil fls_fun)) Tryz.func80 (fun args w => by simp)
/-- stagepost/catalog.table -/
noncomputable def s45G (J : Joins) (c77 : AV → Str → H → (Int → H → Prop) → Prop) (c78 : AV → Str → H → (Int → H → Prop) → Prop) (c79 : AV → H → (AV → Int → H → Prop) → Prop) (c80 : Fun) (a0 : AV) (a1 : AV) (h : H) (k : Int → H → Prop) : Prop :=
Go.Am.asAgg a1 fun l3 =>
pushK (.cells false 89 l3) h fun n1 h2 =>
okNil a0 (
faK 0 a0 fun p4 =>
ldV p4 h2 fun v5 =>
lenK v5 fun x6 =>
fB (Bool.not (ltI (Int.ofNat x6) (Int.ofNat 16))) fun b7 =>
br b7 (
k (Int.ofNat 3) h2) (
okNil a0 (
ldN 1 a0 h2 fun l8 =>
ldS (AV.ptr n1 1) h2 fun s9 =>
c77 (AV.agg l8) s9 h2 fun x11 h10 =>
fB (Bool.not (ltI x11 (Int.ofNat 0))) fun b12 =>
br b12 (
k (Int.ofNat 9) h10) (
ldV (AV.ptr n1 3) h10 fun v13 =>
lenK v13 fun x14 =>
J.lp (α := AV × AV × AV × AV × AV × Unit) (fun r18 v15 d16 h17 =>
asI .i64 v15.2.2.2.2.1 fun x19 =>
asI .i64 v15.2.2.2.1 fun x20 =>
fB (ltI x19 x20) fun b21 =>
br b21 (
ixK 3 v15.2.2.1 v15.2.2.2.2.1 fun p22 =>
ldN 3 p22 h17 fun l23 =>
pushK (.cells false 195 [(.str ⟨0, 0⟩), (.int .u8 0), (.bool false)]) h17 fun n24 h25 =>
stN 3 (AV.ptr n24 0) l23 h25 fun h26 =>
faK 3 v15.2.1 fun p27 =>
ldV p27 h26 fun v28 =>
slK 3 v28 none (some v15.2.2.2.2.1) fun v29 =>
ldS (AV.ptr n24 0) h26 fun s30 =>
c78 v29 s30 h26 fun x32 h31 =>
fB (Bool.not (ltI x32 (Int.ofNat 0))) fun b33 =>
br b33 (
leaveK (gam J [(77, w77 c77), (78, w78 c78), (79, w79 c79), (80, c80)]) d16 h31 fun h34 =>
k (Int.ofNat 9) h34) (
asI .i64 v15.2.2.2.2.1 fun x35 =>
fI (wrapF .i64 (Int.add x35 (Int.ofNat 1))) fun x36 =>
r18 (v15.1, v15.2.1, v15.2.2.1, v15.2.2.2.1, (AV.int .i64 x36), ()) d16 h31)) (
ldN 23 v15.2.1 h17 fun l37 =>
c79 (AV.agg l37) h17 fun v39 x40 h38 =>
fB (Bool.not (eqI x40 (Int.ofNat 0))) fun b41 =>
br b41 (
leaveK (gam J [(77, w77 c77), (78, w78 c78), (79, w79 c79), (80, c80)]) d16 h38 fun h42 =>
k x40 h42) (
faK 1 v15.2.1 fun p43 =>
ldS p43 h38 fun s44 =>
okNil v15.1 (
faK 0 v15.1 fun p45 =>
ldV p45 h38 fun v46 =>
lenK v46 fun x47 =>
fI (wrapF .i64 (Int.add (Int.ofNat x47) (Int.ofNat 1))) fun x48 =>
faK 3 v15.2.1 fun p49 =>
ldV p49 h38 fun v50 =>
pushK (.cells false 182 [(.str ⟨0, 0⟩), (.int .i64 0), (.nils), (.nils), (.nils)]) h38 fun n51 h52 =>
c80 [v50] h52 fun v53 h54 =>
ck (readsSo (aLoad1 p45 h54) v46) (
ck (readsSo (aLoad1 p43 h54) (AV.str s44)) (
ck (isOne v53) (ck (isOne v39) (stN 5 (AV.ptr n51 0) [(AV.str s44), (AV.int .i64 x48), v53, v39, (.nils)] h54 fun h55 =>
lenK v39 fun x56 =>
J.lp (α := AV × AV × AV × AV × AV × Unit) (fun r60 v57 d58 h59 =>
asI .i64 v57.2.2.2.2.1 fun x61 =>
asI .i64 v57.2.2.2.1 fun x62 =>
fB (ltI x61 x62) fun b63 =>
br b63 (
ixK 1 v57.2.2.1 v57.2.2.2.2.1 fun p64 =>
ldI .i64 p64 h59 fun x65 =>
faK 2 v57.2.1 fun p66 =>
ldV p66 h59 fun v67 =>
ixK 3 v67 (AV.int .i64 x65) fun p68 =>
faK 2 p68 fun p69 =>
stV p69 (AV.bool true) h59 fun h70 =>
asI .i64 v57.2.2.2.2.1 fun x71 =>
fI (wrapF .i64 (Int.add x71 (Int.ofNat 1))) fun x72 =>
r60 (v57.1, v57.2.1, v57.2.2.1, v57.2.2.2.1, (AV.int .i64 x72), ()) d58 h70) (
okNil v57.1 (
faK 0 v57.1 fun p73 =>
ldV p73 h59 fun v74 =>
ldN 5 v57.2.1 h59 fun l75 =>
ck (Nat.beq (List.length l75) 5) (op' (lputAt 0 l75 [(.str ⟨0, 0⟩), (.int .i64 0), (.nils), (.nils), (.nils)]) fun l78 =>
pushK (.cells false 182 l78) h59 fun n76 h77 =>
apC 182 5 96 v74 (AV.slice n76 0 1 1 5 true) h77 fun v79 h80 =>
okNil v57.1 (
faK 0 v57.1 fun p81 =>
stV p81 v79 h80 fun h82 =>
leaveK (gam J [(77, w77 c77), (78, w78 c78), (79, w79 c79), (80, c80)]) d58 h82 fun h83 =>
k (Int.ofNat 0) h83))))) (v15.1, (AV.ptr n51 0), v39, (AV.int .i64 (Int.ofNat x56)), (AV.int .i64 (Int.ofNat 0)), ()) d16 h55)))))))) (a0, (AV.ptr n1 0), v13, (AV.int .i64 (Int.ofNat x14)), (AV.int .i64 (Int.ofNat 0)), ()) [] h10))))
noncomputable def s45 : AV → AV → H → (Int → H → Prop) → Prop := s45G J0 s77 s78 s79 g80
noncomputable def w45 (c : AV → AV → H → (Int → H → Prop) → Prop) : Fun := fun xs h k => arg xs fun a0 xs => arg xs fun a1 xs => noArg xs <| c a0 a1 h fun r0 h => k (.int .i64 r0) h
theorem s45_eq (J : Joins) (c77 : AV → Str → H → (Int → H → Prop) → Prop) (c78 : AV → Str → H → (Int → H → Prop) → Prop) (c79 : AV → H → (AV → Int → H → Prop) → Prop) (c80 : Fun) (a0 : AV) (a1 : AV) (h : H) (k : AV → H → Prop) : denF ty (gam J [(77, w77 c77), (78, w78 c78), (79, w79 c79), (80, c80)]) Tryz.f45 [a0, a1] h k = s45G J c77 c78 c79 c80 a0 a1 h (fun r0 h => k (.int .i64 r0) h) := by kernel_rfl
noncomputable def g45 : Fun := w45 s45
theorem g45_ok : FunOk Tryz.prog 45 g45 := (fun_ok ty_ok mixed (gam_ok (J := J0) (tab_cons g77_ok (tab_cons g78_ok (tab_cons g79_ok (tab_cons g80_ok (tab_nil fls_fun)))))) Tryz.func45 (fun args w => by simp)).imp fun xs h k e0 => by
  obtain ⟨a0, xs0, rfl, e1⟩ := arg_imp e0
  obtain ⟨a1, xs1, rfl, e2⟩ := arg_imp e1
  obtain ⟨rfl, e3⟩ := noArg_imp e2
  exact (s45_eq J0 s77 s78 s79 g80 a0 a1 h k).mpr e3
/-- stagepost/catalog.index$1 -/
noncomputable def g82 : Fun := denFS ty (gam J0 []) Tryz.f82
theorem g82_ok : FunOk Tryz.prog 82 g82 := fun_okS ty_ok mixed (gam_ok (J := J0) (tab_nil fls_fun)) Tryz.func82 (fun args w => by simp)
/-- slices.IndexFunc[[]stagepost/api.Index,stagepost/api.Index] -/
noncomputable def g139 : Fun := denFS ty (gam J0 [(82, g82)]) Tryz.f139
theorem g139_ok : FunOk Tryz.prog 139 g139 := fun_okS ty_ok mixed (gam_ok (J := J0) (tab_cons g82_ok (tab_nil fls_fun))) Tryz.func139 (fun args w => by simp)
/-- slices.ContainsFunc[[]stagepost/api.Index,stagepost/api.Index] -/
noncomputable def g81 : Fun := denFS ty (gam J0 [(139, g139)]) Tryz.f81
theorem g81_ok : FunOk Tryz.prog 81 g81 := fun_okS ty_ok mixed (gam_ok (J := J0) (tab_cons g139_ok (tab_nil fls_fun))) Tryz.func81 (fun args w => by simp)
/-- stagepost/catalog.index -/
noncomputable def s46G (J : Joins) (c77 : AV → Str → H → (Int → H → Prop) → Prop) (c81 : Fun) (c82 : Fun) (c83 : AV → AV → H → (AV → Int → H → Prop) → Prop) (a0 : AV) (a1 : AV) (h : H) (k : Int → H → Prop) : Prop :=
Go.Am.asAgg a1 fun l3 =>
pushK (.cells false 89 l3) h fun n1 h2 =>
okNil a0 (
ldN 1 a0 h2 fun l4 =>
ldS (AV.ptr n1 2) h2 fun s5 =>
c77 (AV.agg l4) s5 h2 fun x7 h6 =>
fB (ltI x7 (Int.ofNat 0)) fun b8 =>
br b8 (
k (Int.ofNat 4) h6) (
okNil a0 (
faK 0 a0 fun p9 =>
ldV p9 h6 fun v10 =>
ixK 5 v10 (AV.int .i64 x7) fun p11 =>
okNil p11 (
faK 4 p11 fun p12 =>
ldV p12 h6 fun v13 =>
lenK v13 fun x14 =>
fB (Bool.not (ltI (Int.ofNat x14) (Int.ofNat 8))) fun b15 =>
br b15 (
k (Int.ofNat 3) h6) (
okNil a0 (
faK 0 a0 fun p16 =>
ldV p16 h6 fun v17 =>
lenK v17 fun x18 =>
J.lp (α := AV × AV × AV × AV × AV × Unit) (fun r22 v19 d20 h21 =>
asI .i64 v19.2.2.2.2.1 fun x23 =>
asI .i64 v19.2.2.2.1 fun x24 =>
fB (ltI x23 x24) fun b25 =>
br b25 (
ixK 5 v19.2.2.1 v19.2.2.2.2.1 fun p26 =>
ldN 5 p26 h21 fun l27 =>
pushK (.cells false 182 [(.str ⟨0, 0⟩), (.int .i64 0), (.nils), (.nils), (.nils)]) h21 fun n28 h29 =>
stN 5 (AV.ptr n28 0) l27 h29 fun h30 =>
ldV (AV.ptr n28 4) h30 fun v31 =>
c81 [v31, (AV.func (.func 82) [] [v19.1])] h30 fun v32 h33 =>
asB v32 fun b34 =>
br b34 (
leaveK (gam J [(77, w77 c77), (81, c81), (82, c82), (83, w83 c83)]) d20 h33 fun h35 =>
k (Int.ofNat 9) h35) (
asI .i64 v19.2.2.2.2.1 fun x36 =>
fI (wrapF .i64 (Int.add x36 (Int.ofNat 1))) fun x37 =>
r22 (v19.1, v19.2.1, v19.2.2.1, v19.2.2.2.1, (AV.int .i64 x37), ()) d20 h33)) (
okNil v19.2.1 (
faK 2 v19.2.1 fun p38 =>
ldV p38 h21 fun v39 =>
faK 6 v19.1 fun p40 =>
ldV p40 h21 fun v41 =>
c83 v39 v41 h21 fun v43 x44 h42 =>
fB (Bool.not (eqI x44 (Int.ofNat 0))) fun b45 =>
br b45 (
leaveK (gam J [(77, w77 c77), (81, c81), (82, c82), (83, w83 c83)]) d20 h42 fun h46 =>
k x44 h46) (
okNil v19.2.1 (
faK 4 v19.2.1 fun p47 =>
ldV p47 h42 fun v48 =>
faK 1 v19.1 fun p49 =>
ldS p49 h42 fun s50 =>
okNil v19.2.1 (
faK 4 v19.2.1 fun p51 =>
ldV p51 h42 fun v52 =>
lenK v52 fun x53 =>
fI (wrapF .i64 (Int.add (Int.ofNat x53) (Int.ofNat 1))) fun x54 =>
faK 5 v19.1 fun p55 =>
ldB p55 h42 fun b56 =>
ck (isOne v43) (ck (Nat.beq (List.length [(AV.str s50), (AV.int .i64 x54), v43, (AV.bool b56)]) 4) (op' (lputAt 0 [(AV.str s50), (AV.int .i64 x54), v43, (AV.bool b56)] [(.str ⟨0, 0⟩), (.int .i64 0), (.nils), (.bool false)]) fun l59 =>
pushK (.cells false 203 l59) h42 fun n57 h58 =>
apC 203 4 56 v48 (AV.slice n57 0 1 1 4 true) h58 fun v60 h61 =>
okNil v19.2.1 (
faK 4 v19.2.1 fun p62 =>
stV p62 v60 h61 fun h63 =>
leaveK (gam J [(77, w77 c77), (81, c81), (82, c82), (83, w83 c83)]) d20 h63 fun h64 =>
k (Int.ofNat 0) h64))))))))) ((AV.ptr n1 0), p11, v17, (AV.int .i64 (Int.ofNat x18)), (AV.int .i64 (Int.ofNat 0)), ()) [] h6))))))
noncomputable def s46 : AV → AV → H → (Int → H → Prop) → Prop := s46G J0 s77 g81 g82 s83
noncomputable def w46 (c : AV → AV → H → (Int → H → Prop) → Prop) : Fun := fun xs h k => arg xs fun a0 xs => arg xs fun a1 xs => noArg xs <| c a0 a1 h fun r0 h => k (.int .i64 r0) h
theorem s46_eq (J : Joins) (c77 : AV → Str → H → (Int → H → Prop) → Prop) (c81 : Fun) (c82 : Fun) (c83 : AV → AV → H → (AV → Int → H → Prop) → Prop) (a0 : AV) (a1 : AV) (h : H) (k : AV → H → Prop) : denF ty (gam J [(77, w77 c77), (81, c81), (82, c82), (83, w83 c83)]) Tryz.f46 [a0, a1] h k = s46G J c77 c81 c82 c83 a0 a1 h (fun r0 h => k (.int .i64 r0) h) := by kernel_rfl
noncomputable def g46 : Fun := w46 s46
theorem g46_ok : FunOk Tryz.prog 46 g46 := (fun_ok ty_ok mixed (gam_ok (J := J0) (tab_cons g77_ok (tab_cons g81_ok (tab_cons g82_ok (tab_cons g83_ok (tab_nil fls_fun)))))) Tryz.func46 (fun args w => by simp)).imp fun xs h k e0 => by
  obtain ⟨a0, xs0, rfl, e1⟩ := arg_imp e0
  obtain ⟨a1, xs1, rfl, e2⟩ := arg_imp e1
  obtain ⟨rfl, e3⟩ := noArg_imp e2
  exact (s46_eq J0 s77 g81 g82 s83 a0 a1 h k).mpr e3
/-- stagepost/catalog.Of -/
noncomputable def g19 : Fun := denFS ty (gam J0 [(44, g44), (45, g45), (46, g46)]) Tryz.f19
theorem g19_ok : FunOk Tryz.prog 19 g19 := fun_okS ty_ok mixed (gam_ok (J := J0) (tab_cons g44_ok (tab_cons g45_ok (tab_cons g46_ok (tab_nil fls_fun))))) Tryz.func19 (fun args w => by simp)
/-- stagepost/server.count -/
noncomputable def g84 : Fun := denFS ty (gam J0 []) Tryz.f84
theorem g84_ok : FunOk Tryz.prog 84 g84 := fun_okS ty_ok mixed (gam_ok (J := J0) (tab_nil fls_fun)) Tryz.func84 (fun args w => by simp)
/-- stagepost/ranges.Check -/
noncomputable def g85 : Fun := denFS ty (gam J0 [(141, g141)]) Tryz.f85
theorem g85_ok : FunOk Tryz.prog 85 g85 := fun_okS ty_ok mixed (gam_ok (J := J0) (tab_cons g141_ok (tab_nil fls_fun))) Tryz.func85 (fun args w => by simp)
/-- stagepost/mem.New -/
noncomputable def g142 : Fun := denFS ty (gam J0 []) Tryz.f142
theorem g142_ok : FunOk Tryz.prog 142 g142 := fun_okS ty_ok mixed (gam_ok (J := J0) (tab_nil fls_fun)) Tryz.func142 (fun args w => by simp)
/-- stagepost/lsm.Check -/
noncomputable def g86 : Fun := denFS ty (gam J0 [(142, g142)]) Tryz.f86
theorem g86_ok : FunOk Tryz.prog 86 g86 := fun_okS ty_ok mixed (gam_ok (J := J0) (tab_cons g142_ok (tab_nil fls_fun))) Tryz.func86 (fun args w => by simp)
/-- stagepost/server.Check -/
noncomputable def g47 : Fun := denFS ty (gam J0 [(84, g84), (85, g85), (86, g86)]) Tryz.f47
theorem g47_ok : FunOk Tryz.prog 47 g47 := fun_okS ty_ok mixed (gam_ok (J := J0) (tab_cons g84_ok (tab_cons g85_ok (tab_cons g86_ok (tab_nil fls_fun))))) Tryz.func47 (fun args w => by simp)
/-- slices.Clone[[]string,string] -/
noncomputable def g48 : Fun := denFS ty (gam J0 []) Tryz.f48
theorem g48_ok : FunOk Tryz.prog 48 g48 := fun_okS ty_ok mixed (gam_ok (J := J0) (tab_nil fls_fun)) Tryz.func48 (fun args w => by simp)
end Go.Proofs.YtgpndbkghmbacaaGreatDoor
