/- Functions as they are reckoned. MADE BY PROGRAM (wip/tools/shal.py). -/
import Derived.Test.YtcifllconkchmaaGreatDoorAmS6
namespace Go.Proofs.YtcifllconkchmaaGreatDoor
open Go Go.Am
set_option maxRecDepth 100000
set_option linter.all false
/-- stagepost/ranges.Node -/
noncomputable def g145 : Fun := denFS ty (gam J0 [(251, g251)]) Tryz.f145
theorem g145_ok : FunOk Tryz.prog 145 g145 := fun_okS ty_ok mixed (gam_ok (J := J0) (tab_cons g251_ok (tab_nil fls_fun))) Tryz.func145 (fun args w => by simp)
/-- stagepost/server.Place -/
noncomputable def g69 : Fun := denFS ty (gam J0 [(57, g57), (142, g142), (143, g143), (144, g144), (145, g145)]) Tryz.f69
theorem g69_ok : FunOk Tryz.prog 69 g69 := fun_okS ty_ok mixed (gam_ok (J := J0) (tab_cons g57_ok (tab_cons g142_ok (tab_cons g143_ok (tab_cons g144_ok (tab_cons g145_ok (tab_nil fls_fun))))))) Tryz.func69 (fun args w => by simp)
/-- stagepost/server.heard -/
noncomputable def g70 : Fun := denFS ty (gam J0 [(126, g126)]) Tryz.f70
theorem g70_ok : FunOk Tryz.prog 70 g70 := fun_okS ty_ok mixed (gam_ok (J := J0) (tab_cons g126_ok (tab_nil fls_fun))) Tryz.func70 (fun args w => by simp)
/-- (*stagepost/lsm.Store).Stopped -/
noncomputable def g63 : Fun := denFS ty (gam J0 [(87, g87)]) Tryz.f63
theorem g63_ok : FunOk Tryz.prog 63 g63 := fun_okS ty_ok mixed (gam_ok (J := J0) (tab_cons g87_ok (tab_nil fls_fun))) Tryz.func63 (fun args w => by simp)
/-- (*stagepost/lsm.Store).Seq -/
noncomputable def g139 : Fun := denFS ty (gam J0 [(87, g87), (98, g98)]) Tryz.f139
theorem g139_ok : FunOk Tryz.prog 139 g139 := fun_okS ty_ok mixed (gam_ok (J := J0) (tab_cons g87_ok (tab_cons g98_ok (tab_nil fls_fun)))) Tryz.func139 (fun args w => by simp)
/-- (*stagepost/mem.Table).All$1 -/
noncomputable def g182 : Fun := denFS ty (gam J0 [(180, g180)]) Tryz.f182
theorem g182_ok : FunOk Tryz.prog 182 g182 := fun_okS ty_ok mixed (gam_ok (J := J0) (tab_cons g180_ok (tab_nil fls_fun))) Tryz.func182 (fun args w => by simp)
/-- function 182 as function 181 ranges over it -/
noncomputable def it182_181 : Fun := denF ty (gamI J0 [(180, g180)] [] (denR ty (gamI J0 [] [] noCode))) Tryz.f182
theorem it182_181_ok : ItOk Tryz.prog 182 it182_181 := it_ok ty_ok mixed (gamI_ok (J := J0) (tab_cons g180_ok (tab_nil fls_fun)) (tab_nil fls_it) (code_ok ty_ok mixed (gamI_ok (J := J0) (tab_nil fls_fun) (tab_nil fls_it) noCode_ok))) Tryz.func182 (fun args w => by simp)
/-- slices.AppendSeq[[]stagepost/api.Entry,stagepost/api.Entry] -/
noncomputable def g181 : Fun := denFS ty (gamI J0 [] [(182, it182_181)] noCode) Tryz.f181
theorem g181_ok : FunOk Tryz.prog 181 g181 := fun_okS ty_ok mixed (gamI_ok (J := J0) (tab_nil fls_fun) (tab_cons it182_181_ok (tab_nil fls_it)) noCode_ok) Tryz.func181 (fun args w => by simp)
/-- slices.Collect[stagepost/api.Entry] -/
noncomputable def g92 : Fun := denFS ty (gam J0 [(181, g181)]) Tryz.f92
theorem g92_ok : FunOk Tryz.prog 92 g92 := fun_okS ty_ok mixed (gam_ok (J := J0) (tab_cons g181_ok (tab_nil fls_fun))) Tryz.func92 (fun args w => by simp)
/-- (*stagepost/mem.Table).All -/
noncomputable def g93 : Fun := denFS ty (gam J0 [(182, g182)]) Tryz.f93
theorem g93_ok : FunOk Tryz.prog 93 g93 := fun_okS ty_ok mixed (gam_ok (J := J0) (tab_cons g182_ok (tab_nil fls_fun))) Tryz.func93 (fun args w => by simp)
/-- stagepost/block.ordered -/
noncomputable def g197 : Fun := denFS ty (gam J0 [(199, g199)]) Tryz.f197
theorem g197_ok : FunOk Tryz.prog 197 g197 := fun_okS ty_ok mixed (gam_ok (J := J0) (tab_cons g199_ok (tab_nil fls_fun))) Tryz.func197 (fun args w => by simp)
/-- slices.Clone[[][]stagepost/api.Entry,[]stagepost/api.Entry] -/
noncomputable def g198 : Fun := denFS ty (gam J0 []) Tryz.f198
theorem g198_ok : FunOk Tryz.prog 198 g198 := fun_okS ty_ok mixed (gam_ok (J := J0) (tab_nil fls_fun)) Tryz.func198 (fun args w => by simp)
/-- stagepost/block.Merge -/
noncomputable def g108 : Fun := denFS ty (gam J0 [(197, g197), (198, g198), (199, g199)]) Tryz.f108
theorem g108_ok : FunOk Tryz.prog 108 g108 := fun_okS ty_ok mixed (gam_ok (J := J0) (tab_cons g197_ok (tab_cons g198_ok (tab_cons g199_ok (tab_nil fls_fun))))) Tryz.func108 (fun args w => by simp)
/-- (*stagepost/lsm.Store).may -/
noncomputable def g237 : Fun := denFS ty (gam J0 [(87, g87), (98, g98)]) Tryz.f237
theorem g237_ok : FunOk Tryz.prog 237 g237 := fun_okS ty_ok mixed (gam_ok (J := J0) (tab_cons g87_ok (tab_cons g98_ok (tab_nil fls_fun)))) Tryz.func237 (fun args w => by simp)
/-- stagepost/enc.In -/
noncomputable def g300 : Fun := denFS ty (gam J0 []) Tryz.f300
theorem g300_ok : FunOk Tryz.prog 300 g300 := fun_okS ty_ok mixed (gam_ok (J := J0) (tab_nil fls_fun)) Tryz.func300 (fun args w => by simp)
/-- stagepost/block.Visible -/
noncomputable def g275 : Fun := denFS ty (gam J0 [(300, g300)]) Tryz.f275
theorem g275_ok : FunOk Tryz.prog 275 g275 := fun_okS ty_ok mixed (gam_ok (J := J0) (tab_cons g300_ok (tab_nil fls_fun))) Tryz.func275 (fun args w => by simp)
/-- (*stagepost/lsm.Store).Scan -/
noncomputable def g175 : Fun := denFS ty (gam J0 [(92, g92), (93, g93), (106, g106), (108, g108), (237, g237), (275, g275)]) Tryz.f175
theorem g175_ok : FunOk Tryz.prog 175 g175 := fun_okS ty_ok mixed (gam_ok (J := J0) (tab_cons g92_ok (tab_cons g93_ok (tab_cons g106_ok (tab_cons g108_ok (tab_cons g237_ok (tab_cons g275_ok (tab_nil fls_fun)))))))) Tryz.func175 (fun args w => by simp)
/-- stagepost/mvcc.all -/
noncomputable def g84 : Fun := denFS ty (gam J0 [(139, g139), (175, g175)]) Tryz.f84
theorem g84_ok : FunOk Tryz.prog 84 g84 := fun_okS ty_ok mixed (gam_ok (J := J0) (tab_cons g139_ok (tab_cons g175_ok (tab_nil fls_fun)))) Tryz.func84 (fun args w => by simp)
/-- stagepost/enc.After -/
noncomputable def g85 : Fun := denFS ty (gam J0 []) Tryz.f85
theorem g85_ok : FunOk Tryz.prog 85 g85 := fun_okS ty_ok mixed (gam_ok (J := J0) (tab_nil fls_fun)) Tryz.func85 (fun args w => by simp)
/-- stagepost/mvcc.middle -/
noncomputable def s121G (J : Joins) (a0 : Str) (a1 : Str) (h : H) (k : Str → H → Prop) : Prop :=
pushK (.bytes 5 0 true a0) h fun n1 h2 =>
J.lp (α := AV × AV × AV × Unit) (fun r6 v3 d4 h5 =>
asS v3.1 fun s7 =>
asI .i64 v3.2.2.1 fun x8 =>
fB (ltI x8 (Int.ofNat s7.len)) fun b9 =>
br b9 (
J.jd (α := AV × AV × AV × Unit) (fun v10 d11 h12 =>
asI .i64 v10.2.2.1 fun x14 =>
fI (wrapF .i64 (Int.add x14 (Int.ofNat 1))) fun x15 =>
r6 (v10.1, v10.2.1, (AV.int .i64 x15), ()) d11 h12) fun j13 =>
ixsK v3.1 v3.2.2.1 fun x16 =>
op' (asRow true 5 [(AV.int .u8 x16)]) fun k19 =>
pushK k19 h5 fun n17 h18 =>
apB (.slice 5) 5 v3.2.1 (AV.slice n17 0 1 1 1 true) h18 fun v20 h21 =>
ixsK v3.1 v3.2.2.1 fun x22 =>
fB (eqI x22 (Int.ofNat 0)) fun b23 =>
br b23 (
op' (asRow true 5 [(AV.int .u8 (Int.ofNat 255))]) fun k26 =>
pushK k26 h21 fun n24 h25 =>
apB (.slice 5) 5 v20 (AV.slice n24 0 1 1 1 true) h25 fun v27 h28 =>
j13 (v3.1, v27, v3.2.2.1, ()) d4 h28) (
j13 (v3.1, v20, v3.2.2.1, ()) d4 h21)) (
op' (asRow true 5 [(AV.int .u8 (Int.ofNat 0)), (AV.int .u8 (Int.ofNat 1))]) fun k31 =>
pushK k31 h5 fun n29 h30 =>
apB (.slice 5) 5 v3.2.1 (AV.slice n29 0 2 2 1 true) h30 fun v32 h33 =>
toStrK v32 h33 fun s34 =>
leaveK (gam J []) d4 h33 fun h35 =>
k s34 h35)) ((AV.str a1), (AV.slice n1 0 a0.len a0.len 1 false), (AV.int .i64 (Int.ofNat 0)), ()) [] h2
noncomputable def s121 : Str → Str → H → (Str → H → Prop) → Prop := s121G J0 
noncomputable def w121 (c : Str → Str → H → (Str → H → Prop) → Prop) : Fun := fun xs h k => arg xs fun a0 xs => arg xs fun a1 xs => noArg xs <| asS a0 fun a0 => asS a1 fun a1 => c a0 a1 h fun r0 h => k (.str r0) h
theorem s121_eq (J : Joins) (a0 : Str) (a1 : Str) (h : H) (k : AV → H → Prop) : denF ty (gam J []) Tryz.f121 [(.str a0), (.str a1)] h k = s121G J  a0 a1 h (fun r0 h => k (.str r0) h) := by kernel_rfl
noncomputable def g121 : Fun := w121 s121
theorem g121_ok : FunOk Tryz.prog 121 g121 := (fun_ok ty_ok mixed (gam_ok (J := J0) (tab_nil fls_fun)) Tryz.func121 (fun args w => by simp)).imp fun xs h k e0 => by
  obtain ⟨a0, xs0, rfl, e1⟩ := arg_imp e0
  obtain ⟨a1, xs1, rfl, e2⟩ := arg_imp e1
  obtain ⟨rfl, e3⟩ := noArg_imp e2
  obtain ⟨a0, rfl, e4⟩ := asS_iff.1 e3
  obtain ⟨a1, rfl, e5⟩ := asS_iff.1 e4
  exact (s121_eq J0  a0 a1 h k).mpr e5
/-- stagepost/mvcc.where -/
noncomputable def g168 : Fun := denFS ty (gam J0 [(85, g85), (121, g121)]) Tryz.f168
theorem g168_ok : FunOk Tryz.prog 168 g168 := fun_okS ty_ok mixed (gam_ok (J := J0) (tab_cons g85_ok (tab_cons g121_ok (tab_nil fls_fun)))) Tryz.func168 (fun args w => by simp)
/-- stagepost/mvcc.CheckCell -/
noncomputable def g120 : Fun := denFS ty (gam J0 [(49, g49), (209, g209), (210, g210)]) Tryz.f120
theorem g120_ok : FunOk Tryz.prog 120 g120 := fun_okS ty_ok mixed (gam_ok (J := J0) (tab_cons g49_ok (tab_cons g209_ok (tab_cons g210_ok (tab_nil fls_fun))))) Tryz.func120 (fun args w => by simp)
end Go.Proofs.YtcifllconkchmaaGreatDoor
