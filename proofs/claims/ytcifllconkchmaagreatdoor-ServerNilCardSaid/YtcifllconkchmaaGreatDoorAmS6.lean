/- Functions as they are reckoned. MADE BY PROGRAM (wip/tools/shal.py). -/
import Derived.Test.YtcifllconkchmaaGreatDoorAmS5
namespace Go.Proofs.YtcifllconkchmaaGreatDoor
open Go Go.Am
set_option maxRecDepth 100000
set_option linter.all false
/-- stagepost/server.reader -/
noncomputable def g249 : Fun := denFS ty (gam J0 [(242, g242)]) Tryz.f249
theorem g249_ok : FunOk Tryz.prog 249 g249 := fun_okS ty_ok mixed (gam_ok (J := J0) (tab_cons g242_ok (tab_nil fls_fun))) Tryz.func249 (fun args w => by simp)
/-- stagepost/ranges.Empty -/
noncomputable def g254 : Fun := denFS ty (gam J0 []) Tryz.f254
theorem g254_ok : FunOk Tryz.prog 254 g254 := fun_okS ty_ok mixed (gam_ok (J := J0) (tab_nil fls_fun)) Tryz.func254 (fun args w => by simp)
/-- stagepost/ranges.Span -/
noncomputable def g388 : Fun := denFS ty (gam J0 [(128, g128)]) Tryz.f388
theorem g388_ok : FunOk Tryz.prog 388 g388 := fun_okS ty_ok mixed (gam_ok (J := J0) (tab_cons g128_ok (tab_nil fls_fun))) Tryz.func388 (fun args w => by simp)
/-- stagepost/ranges.Meet -/
noncomputable def g389 : Fun := denFS ty (gam J0 [(254, g254)]) Tryz.f389
theorem g389_ok : FunOk Tryz.prog 389 g389 := fun_okS ty_ok mixed (gam_ok (J := J0) (tab_cons g254_ok (tab_nil fls_fun))) Tryz.func389 (fun args w => by simp)
/-- stagepost/ranges.Parts -/
noncomputable def g341 : Fun := denFS ty (gam J0 [(128, g128), (254, g254), (388, g388), (389, g389)]) Tryz.f341
theorem g341_ok : FunOk Tryz.prog 341 g341 := fun_okS ty_ok mixed (gam_ok (J := J0) (tab_cons g128_ok (tab_cons g254_ok (tab_cons g388_ok (tab_cons g389_ok (tab_nil fls_fun)))))) Tryz.func341 (fun args w => by simp)
/-- stagepost/server.one -/
noncomputable def g250 : Fun := denFS ty (gam J0 [(341, g341)]) Tryz.f250
theorem g250_ok : FunOk Tryz.prog 250 g250 := fun_okS ty_ok mixed (gam_ok (J := J0) (tab_cons g341_ok (tab_nil fls_fun))) Tryz.func250 (fun args w => by simp)
/-- stagepost/server.scans -/
noncomputable def g244 : Fun := denFS ty (gam J0 [(50, g50), (142, g142), (242, g242), (249, g249), (250, g250)]) Tryz.f244
theorem g244_ok : FunOk Tryz.prog 244 g244 := fun_okS ty_ok mixed (gam_ok (J := J0) (tab_cons g50_ok (tab_cons g142_ok (tab_cons g242_ok (tab_cons g249_ok (tab_cons g250_ok (tab_nil fls_fun))))))) Tryz.func244 (fun args w => by simp)
/-- stagepost/server.written -/
noncomputable def g149 : Fun := denFS ty (gam J0 []) Tryz.f149
theorem g149_ok : FunOk Tryz.prog 149 g149 := fun_okS ty_ok mixed (gam_ok (J := J0) (tab_nil fls_fun)) Tryz.func149 (fun args w => by simp)
/-- stagepost/mvcc.user -/
noncomputable def g209 : Fun := denFS ty (gam J0 []) Tryz.f209
theorem g209_ok : FunOk Tryz.prog 209 g209 := fun_okS ty_ok mixed (gam_ok (J := J0) (tab_nil fls_fun)) Tryz.func209 (fun args w => by simp)
/-- stagepost/mvcc.held -/
noncomputable def g210 : Fun := denFS ty (gam J0 []) Tryz.f210
theorem g210_ok : FunOk Tryz.prog 210 g210 := fun_okS ty_ok mixed (gam_ok (J := J0) (tab_nil fls_fun)) Tryz.func210 (fun args w => by simp)
/-- stagepost/mvcc.CheckIntent -/
noncomputable def g259 : Fun := denFS ty (gam J0 [(49, g49), (209, g209), (210, g210), (262, g262)]) Tryz.f259
theorem g259_ok : FunOk Tryz.prog 259 g259 := fun_okS ty_ok mixed (gam_ok (J := J0) (tab_cons g49_ok (tab_cons g209_ok (tab_cons g210_ok (tab_cons g262_ok (tab_nil fls_fun)))))) Tryz.func259 (fun args w => by simp)
/-- stagepost/server.puts -/
noncomputable def g245 : Fun := denFS ty (gam J0 [(149, g149), (259, g259)]) Tryz.f245
theorem g245_ok : FunOk Tryz.prog 245 g245 := fun_okS ty_ok mixed (gam_ok (J := J0) (tab_cons g149_ok (tab_cons g259_ok (tab_nil fls_fun)))) Tryz.func245 (fun args w => by simp)
/-- stagepost/record.rising -/
noncomputable def g340 : Fun := denFS ty (gam J0 []) Tryz.f340
theorem g340_ok : FunOk Tryz.prog 340 g340 := fun_okS ty_ok mixed (gam_ok (J := J0) (tab_nil fls_fun)) Tryz.func340 (fun args w => by simp)
/-- stagepost/record.Check -/
noncomputable def g247 : Fun := denFS ty (gam J0 [(49, g49), (262, g262), (340, g340)]) Tryz.f247
theorem g247_ok : FunOk Tryz.prog 247 g247 := fun_okS ty_ok mixed (gam_ok (J := J0) (tab_cons g49_ok (tab_cons g262_ok (tab_cons g340_ok (tab_nil fls_fun))))) Tryz.func247 (fun args w => by simp)
/-- stagepost/server.keys -/
noncomputable def g248 : Fun := denFS ty (gam J0 [(243, g243)]) Tryz.f248
theorem g248_ok : FunOk Tryz.prog 248 g248 := fun_okS ty_ok mixed (gam_ok (J := J0) (tab_cons g243_ok (tab_nil fls_fun))) Tryz.func248 (fun args w => by simp)
/-- stagepost/server.stages -/
noncomputable def g246 : Fun := denFS ty (gam J0 [(247, g247), (248, g248)]) Tryz.f246
theorem g246_ok : FunOk Tryz.prog 246 g246 := fun_okS ty_ok mixed (gam_ok (J := J0) (tab_cons g247_ok (tab_cons g248_ok (tab_nil fls_fun)))) Tryz.func246 (fun args w => by simp)
/-- stagepost/server.may -/
noncomputable def g143 : Fun := denFS ty (gam J0 [(50, g50), (142, g142), (242, g242), (243, g243), (244, g244), (245, g245), (246, g246), (247, g247), (248, g248), (249, g249), (250, g250)]) Tryz.f143
theorem g143_ok : FunOk Tryz.prog 143 g143 := fun_okS ty_ok mixed (gam_ok (J := J0) (tab_cons g50_ok (tab_cons g142_ok (tab_cons g242_ok (tab_cons g243_ok (tab_cons g244_ok (tab_cons g245_ok (tab_cons g246_ok (tab_cons g247_ok (tab_cons g248_ok (tab_cons g249_ok (tab_cons g250_ok (tab_nil fls_fun))))))))))))) Tryz.func143 (fun args w => by simp)
/-- stagepost/server.about -/
noncomputable def g144 : Fun := denFS ty (gam J0 []) Tryz.f144
theorem g144_ok : FunOk Tryz.prog 144 g144 := fun_okS ty_ok mixed (gam_ok (J := J0) (tab_nil fls_fun)) Tryz.func144 (fun args w => by simp)
/-- cmp.Less[string] -/
noncomputable def s390G (J : Joins) (c361 : Str → H → (Bool → H → Prop) → Prop) (a0 : Str) (a1 : Str) (h : H) (k : Bool → H → Prop) : Prop :=
c361 a0 h fun b2 h1 =>
J.jn (fun v3 h4 =>
J.jn (fun v6 h7 =>
J.jn (fun v12 h13 =>
pickB (AV.bool b2) v12 (AV.bool false) fun b17 =>
J.jn (fun v18 h19 =>
J.jn (fun v21 h22 =>
J.jn (fun v24 h25 =>
pickB (AV.bool b17) (AV.bool true) v24 fun b30 =>
k b30 h25) fun j26 =>
br b17 (
j26 skipV h22) (
asS v18 fun s27 =>
asS v21 fun s28 =>
fB (Str.lt s27 s28) fun b29 =>
j26 (AV.bool b29) h22)) fun j23 =>
br b17 (
j23 skipV h19) (
j23 (AV.str a1) h19)) fun j20 =>
br b17 (
j20 skipV h13) (
j20 (AV.str a0) h13)) fun j14 =>
br b2 (
asB v6 fun b15 =>
fB (Bool.not b15) fun b16 =>
j14 (AV.bool b16) h7) (
j14 skipV h7)) fun j8 =>
br b2 (
asS v3 fun s10 =>
c361 s10 h4 fun b11 h9 =>
j8 (AV.bool b11) h9) (
j8 skipV h4)) fun j5 =>
br b2 (
j5 (AV.str a1) h1) (
j5 skipV h1)
noncomputable def s390 : Str → Str → H → (Bool → H → Prop) → Prop := s390G J0 s361
noncomputable def w390 (c : Str → Str → H → (Bool → H → Prop) → Prop) : Fun := fun xs h k => arg xs fun a0 xs => arg xs fun a1 xs => noArg xs <| asS a0 fun a0 => asS a1 fun a1 => c a0 a1 h fun r0 h => k (.bool r0) h
theorem s390_eq (J : Joins) (c361 : Str → H → (Bool → H → Prop) → Prop) (a0 : Str) (a1 : Str) (h : H) (k : AV → H → Prop) : denF ty (gam J [(361, w361 c361)]) Tryz.f390 [(.str a0), (.str a1)] h k = s390G J c361 a0 a1 h (fun r0 h => k (.bool r0) h) := by kernel_rfl
noncomputable def g390 : Fun := w390 s390
theorem g390_ok : FunOk Tryz.prog 390 g390 := (fun_ok ty_ok mixed (gam_ok (J := J0) (tab_cons g361_ok (tab_nil fls_fun))) Tryz.func390 (fun args w => by simp)).imp fun xs h k e0 => by
  obtain ⟨a0, xs0, rfl, e1⟩ := arg_imp e0
  obtain ⟨a1, xs1, rfl, e2⟩ := arg_imp e1
  obtain ⟨rfl, e3⟩ := noArg_imp e2
  obtain ⟨a0, rfl, e4⟩ := asS_iff.1 e3
  obtain ⟨a1, rfl, e5⟩ := asS_iff.1 e4
  exact (s390_eq J0 s361 a0 a1 h k).mpr e5
/-- slices.BinarySearch[[]string,string] -/
noncomputable def g342 : Fun := denFS ty (gam J0 [(390, g390)]) Tryz.f342
theorem g342_ok : FunOk Tryz.prog 342 g342 := fun_okS ty_ok mixed (gam_ok (J := J0) (tab_cons g390_ok (tab_nil fls_fun))) Tryz.func342 (fun args w => by simp)
/-- stagepost/ranges.Of -/
noncomputable def g251 : Fun := denFS ty (gam J0 [(128, g128), (342, g342)]) Tryz.f251
theorem g251_ok : FunOk Tryz.prog 251 g251 := fun_okS ty_ok mixed (gam_ok (J := J0) (tab_cons g128_ok (tab_cons g342_ok (tab_nil fls_fun)))) Tryz.func251 (fun args w => by simp)
end Go.Proofs.YtcifllconkchmaaGreatDoor
