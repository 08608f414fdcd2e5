/- Functions as they are reckoned. MADE BY PROGRAM (wip/tools/shal.py). -/
import Derived.Test.YtcifllconkchmaaGreatDoorAmS7
namespace Go.Proofs.YtcifllconkchmaaGreatDoor
open Go Go.Am
set_option maxRecDepth 100000
set_option linter.all false
/-- stagepost/mvcc.stamp -/
noncomputable def g122 : Fun := denFS ty (gam J0 [(51, g51)]) Tryz.f122
theorem g122_ok : FunOk Tryz.prog 122 g122 := fun_okS ty_ok mixed (gam_ok (J := J0) (tab_cons g51_ok (tab_nil fls_fun))) Tryz.func122 (fun args w => by simp)
/-- stagepost/mvcc.flag -/
noncomputable def g123 : Fun := denFS ty (gam J0 []) Tryz.f123
theorem g123_ok : FunOk Tryz.prog 123 g123 := fun_okS ty_ok mixed (gam_ok (J := J0) (tab_nil fls_fun)) Tryz.func123 (fun args w => by simp)
/-- stagepost/mvcc.Put -/
noncomputable def g54 : Fun := denFS ty (gam J0 [(120, g120), (121, g121), (122, g122), (123, g123)]) Tryz.f54
theorem g54_ok : FunOk Tryz.prog 54 g54 := fun_okS ty_ok mixed (gam_ok (J := J0) (tab_cons g120_ok (tab_cons g121_ok (tab_cons g122_ok (tab_cons g123_ok (tab_nil fls_fun)))))) Tryz.func54 (fun args w => by simp)
/-- (*stagepost/mvcc.reader).bytes -/
noncomputable def s173G (J : Joins) (a0 : AV) (a1 : Int) (h : H) (k : Str → H → Prop) : Prop :=
okNil a0 (
faK 1 a0 fun p1 =>
ldB p1 h fun b2 =>
J.jn (fun v3 h4 =>
J.jn (fun v6 h7 =>
J.jn (fun v9 h10 =>
J.jn (fun v12 h13 =>
J.jn (fun v16 h17 =>
J.jn (fun v20 h21 =>
J.jn (fun v24 h25 =>
pickB (AV.bool b2) (AV.bool true) v24 fun b30 =>
br b30 (
okNil a0 (
faK 1 a0 fun p31 =>
stV p31 (AV.bool true) h25 fun h32 =>
k ⟨0, 0⟩ h32)) (
okNil a0 (
faK 0 a0 fun p33 =>
ldS p33 h25 fun s34 =>
subK (AV.str s34) none (some (AV.int .i64 a1)) fun s35 =>
okNil a0 (
faK 0 a0 fun p36 =>
ldS p36 h25 fun s37 =>
subK (AV.str s37) (some (AV.int .i64 a1)) none fun s38 =>
okNil a0 (
faK 0 a0 fun p39 =>
stV p39 (AV.str s38) h25 fun h40 =>
k s35 h40))))) fun j26 =>
br b2 (
j26 skipV h21) (
asI .i64 v3 fun x27 =>
asI .i64 v20 fun x28 =>
fB (ltI x28 x27) fun b29 =>
j26 (AV.bool b29) h21)) fun j22 =>
br b2 (
j22 skipV h17) (
asS v16 fun s23 =>
j22 (AV.int .i64 (Int.ofNat s23.len)) h17)) fun j18 =>
br b2 (
j18 skipV h13) (
ldS v12 h13 fun s19 =>
j18 (AV.str s19) h13)) fun j14 =>
br b2 (
j14 skipV h10) (
faK 0 v9 fun p15 =>
j14 p15 h10)) fun j11 =>
br b2 (
j11 skipV h7) (
okNil v6 (
j11 v6 h7))) fun j8 =>
br b2 (
j8 skipV h4) (
j8 a0 h4)) fun j5 =>
br b2 (
j5 skipV h) (
j5 (AV.int .i64 a1) h))
noncomputable def s173 : AV → Int → H → (Str → H → Prop) → Prop := s173G J0 
noncomputable def w173 (c : AV → Int → H → (Str → H → Prop) → Prop) : Fun := fun xs h k => arg xs fun a0 xs => arg xs fun a1 xs => noArg xs <| asI .i64 a1 fun a1 => c a0 a1 h fun r0 h => k (.str r0) h
theorem s173_eq (J : Joins) (a0 : AV) (a1 : Int) (h : H) (k : AV → H → Prop) : denF ty (gam J []) Tryz.f173 [a0, (.int .i64 a1)] h k = s173G J  a0 a1 h (fun r0 h => k (.str r0) h) := by kernel_rfl
noncomputable def g173 : Fun := w173 s173
theorem g173_ok : FunOk Tryz.prog 173 g173 := (fun_ok ty_ok mixed (gam_ok (J := J0) (tab_nil fls_fun)) Tryz.func173 (fun args w => by simp)).imp fun xs h k e0 => by
  obtain ⟨a0, xs0, rfl, e1⟩ := arg_imp e0
  obtain ⟨a1, xs1, rfl, e2⟩ := arg_imp e1
  obtain ⟨rfl, e3⟩ := noArg_imp e2
  obtain ⟨a1, rfl, e4⟩ := asI_iff.1 e3
  exact (s173_eq J0  a0 a1 h k).mpr e4
/-- (*stagepost/mvcc.reader).of -/
noncomputable def g169 : Fun := denFS ty (gam J0 [(173, g173)]) Tryz.f169
theorem g169_ok : FunOk Tryz.prog 169 g169 := fun_okS ty_ok mixed (gam_ok (J := J0) (tab_cons g173_ok (tab_nil fls_fun))) Tryz.func169 (fun args w => by simp)
/-- stagepost/enc.unfixed -/
noncomputable def g240 : Fun := denFS ty (gam J0 []) Tryz.f240
theorem g240_ok : FunOk Tryz.prog 240 g240 := fun_okS ty_ok mixed (gam_ok (J := J0) (tab_nil fls_fun)) Tryz.func240 (fun args w => by simp)
/-- stagepost/enc.Unstamp -/
noncomputable def g140 : Fun := denFS ty (gam J0 [(115, g115), (240, g240)]) Tryz.f140
theorem g140_ok : FunOk Tryz.prog 140 g140 := fun_okS ty_ok mixed (gam_ok (J := J0) (tab_cons g115_ok (tab_cons g240_ok (tab_nil fls_fun)))) Tryz.func140 (fun args w => by simp)
/-- (*stagepost/mvcc.reader).stamp -/
noncomputable def g170 : Fun := denFS ty (gam J0 [(140, g140), (173, g173)]) Tryz.f170
theorem g170_ok : FunOk Tryz.prog 170 g170 := fun_okS ty_ok mixed (gam_ok (J := J0) (tab_cons g140_ok (tab_cons g173_ok (tab_nil fls_fun)))) Tryz.func170 (fun args w => by simp)
/-- (*stagepost/mvcc.reader).flag -/
noncomputable def g171 : Fun := denFS ty (gam J0 [(173, g173)]) Tryz.f171
theorem g171_ok : FunOk Tryz.prog 171 g171 := fun_okS ty_ok mixed (gam_ok (J := J0) (tab_cons g173_ok (tab_nil fls_fun))) Tryz.func171 (fun args w => by simp)
/-- stagepost/mvcc.Cell -/
noncomputable def g81 : Fun := denFS ty (gam J0 [(54, g54), (169, g169), (170, g170), (171, g171)]) Tryz.f81
theorem g81_ok : FunOk Tryz.prog 81 g81 := fun_okS ty_ok mixed (gam_ok (J := J0) (tab_cons g54_ok (tab_cons g169_ok (tab_cons g170_ok (tab_cons g171_ok (tab_nil fls_fun)))))) Tryz.func81 (fun args w => by simp)
/-- stagepost/mvcc.number -/
noncomputable def g261 : Fun := denFS ty (gam J0 [(68, g68)]) Tryz.f261
theorem g261_ok : FunOk Tryz.prog 261 g261 := fun_okS ty_ok mixed (gam_ok (J := J0) (tab_cons g68_ok (tab_nil fls_fun))) Tryz.func261 (fun args w => by simp)
/-- stagepost/mvcc.Lay -/
noncomputable def g152 : Fun := denFS ty (gam J0 [(121, g121), (122, g122), (123, g123), (259, g259), (261, g261)]) Tryz.f152
theorem g152_ok : FunOk Tryz.prog 152 g152 := fun_okS ty_ok mixed (gam_ok (J := J0) (tab_cons g121_ok (tab_cons g122_ok (tab_cons g123_ok (tab_cons g259_ok (tab_cons g261_ok (tab_nil fls_fun))))))) Tryz.func152 (fun args w => by simp)
/-- stagepost/enc.Read -/
noncomputable def s241G (J : Joins) (a0 : AV) (h : H) (k : Int → Int → Int → H → Prop) : Prop :=
J.jd (α := Unit) (fun v1 d2 h3 =>
leaveK (gam J []) d2 h3 fun h5 =>
k (Int.ofNat 0) (Int.ofNat 0) (Int.ofNat 5) h5) fun j4 =>
J.lp (α := AV × AV × AV × Unit) (fun r9 v6 d7 h8 =>
lenK v6.1 fun x10 =>
asI .i64 v6.2.2.1 fun x11 =>
fB (ltI x11 (Int.ofNat x10)) fun b12 =>
J.jn (fun v13 h14 =>
J.jn (fun v16 h17 =>
pickB (AV.bool b12) v16 (AV.bool false) fun b21 =>
br b21 (
ixK 1 v6.1 v6.2.2.1 fun p22 =>
ldI .u8 p22 h17 fun x23 =>
asI .i64 v6.2.2.1 fun x24 =>
fB (eqI x24 (Int.ofNat 9)) fun b25 =>
J.jn (fun v26 h27 =>
J.jn (fun v29 h30 =>
pickB (AV.bool b25) v29 (AV.bool false) fun b34 =>
J.jn (fun v35 h36 =>
J.jn (fun v38 h39 =>
J.jn (fun v43 h44 =>
J.jn (fun v46 h47 =>
J.jn (fun v49 h50 =>
J.jn (fun v54 h55 =>
pickB (AV.bool b34) (AV.bool true) v54 fun b58 =>
br b58 (
j4 (()) d7 h55) (
fI (landnF .u8 x23 (Int.ofNat 128)) fun x59 =>
fI (wrapF .u64 x59) fun x60 =>
asI .i64 v6.2.2.1 fun x61 =>
fI (wrapF .i64 (Int.mul (Int.ofNat 7) x61)) fun x62 =>
asNat (AV.int .i64 x62) fun n63 =>
fI (shlF .u64 x60 n63) fun x64 =>
asI .u64 v6.2.1 fun x65 =>
fI (lorF .u64 x65 x64) fun x66 =>
asI .i64 v6.2.2.1 fun x67 =>
fI (wrapF .i64 (Int.add x67 (Int.ofNat 1))) fun x68 =>
fB (ltI x23 (Int.ofNat 128)) fun b69 =>
br b69 (
leaveK (gam J []) d7 h55 fun h70 =>
k x66 x68 (Int.ofNat 0) h70) (
r9 (v6.1, (AV.int .u64 x66), (AV.int .i64 x68), ()) d7 h55))) fun j56 =>
br b34 (
j56 skipV h50) (
pickB v43 v49 (AV.bool false) fun b57 =>
j56 (AV.bool b57) h50)) fun j51 =>
asBU v43 (fun b71 =>
br b71 (
asI .u8 v46 fun x52 =>
fB (eqI x52 (Int.ofNat 0)) fun b53 =>
j51 (AV.bool b53) h47) (
j51 skipV h47)) (
j51 skipV h47)) fun j48 =>
asBU v43 (fun b72 =>
br b72 (
j48 (AV.int .u8 x23) h44) (
j48 skipV h44)) (
j48 skipV h44)) fun j45 =>
br b34 (
j45 skipV h39) (
j45 v38 h39)) fun j40 =>
br b34 (
j40 skipV h36) (
asI .i64 v35 fun x41 =>
fB (ltI (Int.ofNat 0) x41) fun b42 =>
j40 (AV.bool b42) h36)) fun j37 =>
br b34 (
j37 skipV h30) (
j37 v6.2.2.1 h30)) fun j31 =>
br b25 (
asI .u8 v26 fun x32 =>
fB (ltI (Int.ofNat 1) x32) fun b33 =>
j31 (AV.bool b33) h27) (
j31 skipV h27)) fun j28 =>
br b25 (
j28 (AV.int .u8 x23) h17) (
j28 skipV h17)) (
j4 (()) d7 h17)) fun j18 =>
br b12 (
asI .i64 v13 fun x19 =>
fB (ltI x19 (Int.ofNat 10)) fun b20 =>
j18 (AV.bool b20) h14) (
j18 skipV h14)) fun j15 =>
br b12 (
j15 v6.2.2.1 h8) (
j15 skipV h8)) (a0, (AV.int .u64 (Int.ofNat 0)), (AV.int .i64 (Int.ofNat 0)), ()) [] h
noncomputable def s241 : AV → H → (Int → Int → Int → H → Prop) → Prop := s241G J0 
noncomputable def w241 (c : AV → H → (Int → Int → Int → H → Prop) → Prop) : Fun := fun xs h k => arg xs fun a0 xs => noArg xs <| c a0 h fun r0 r1 r2 h => k (.tuple [(.int .u64 r0), (.int .i64 r1), (.int .i64 r2)]) h
theorem s241_eq (J : Joins) (a0 : AV) (h : H) (k : AV → H → Prop) : denF ty (gam J []) Tryz.f241 [a0] h k = s241G J  a0 h (fun r0 r1 r2 h => k (.tuple [(.int .u64 r0), (.int .i64 r1), (.int .i64 r2)]) h) := by kernel_rfl
noncomputable def g241 : Fun := w241 s241
theorem g241_ok : FunOk Tryz.prog 241 g241 := (fun_ok ty_ok mixed (gam_ok (J := J0) (tab_nil fls_fun)) Tryz.func241 (fun args w => by simp)).imp fun xs h k e0 => by
  obtain ⟨a0, xs0, rfl, e1⟩ := arg_imp e0
  obtain ⟨rfl, e2⟩ := noArg_imp e1
  exact (s241_eq J0  a0 h k).mpr e2
/-- stagepost/enc.Small -/
noncomputable def g141 : Fun := denFS ty (gam J0 [(241, g241)]) Tryz.f141
theorem g141_ok : FunOk Tryz.prog 141 g141 := fun_okS ty_ok mixed (gam_ok (J := J0) (tab_cons g241_ok (tab_nil fls_fun))) Tryz.func141 (fun args w => by simp)
/-- (*stagepost/mvcc.reader).number -/
noncomputable def g174 : Fun := denFS ty (gam J0 [(141, g141)]) Tryz.f174
theorem g174_ok : FunOk Tryz.prog 174 g174 := fun_okS ty_ok mixed (gam_ok (J := J0) (tab_cons g141_ok (tab_nil fls_fun))) Tryz.func174 (fun args w => by simp)
/-- (*stagepost/mvcc.reader).txn -/
noncomputable def g172 : Fun := denFS ty (gam J0 [(174, g174)]) Tryz.f172
theorem g172_ok : FunOk Tryz.prog 172 g172 := fun_okS ty_ok mixed (gam_ok (J := J0) (tab_cons g174_ok (tab_nil fls_fun))) Tryz.func172 (fun args w => by simp)
/-- stagepost/mvcc.Intent -/
noncomputable def g83 : Fun := denFS ty (gam J0 [(152, g152), (169, g169), (170, g170), (171, g171), (172, g172), (173, g173), (174, g174)]) Tryz.f83
theorem g83_ok : FunOk Tryz.prog 83 g83 := fun_okS ty_ok mixed (gam_ok (J := J0) (tab_cons g152_ok (tab_cons g169_ok (tab_cons g170_ok (tab_cons g171_ok (tab_cons g172_ok (tab_cons g173_ok (tab_cons g174_ok (tab_nil fls_fun))))))))) Tryz.func83 (fun args w => by simp)
/-- stagepost/mvcc.found[stagepost/api.Cell] -/
noncomputable def g80 : Fun := denFS ty (gam J0 [(63, g63), (81, g81), (83, g83), (84, g84), (168, g168)]) Tryz.f80
theorem g80_ok : FunOk Tryz.prog 80 g80 := fun_okS ty_ok mixed (gam_ok (J := J0) (tab_cons g63_ok (tab_cons g81_ok (tab_cons g83_ok (tab_cons g84_ok (tab_cons g168_ok (tab_nil fls_fun))))))) Tryz.func80 (fun args w => by simp)
/-- stagepost/mvcc.Cells -/
noncomputable def g37 : Fun := denFS ty (gam J0 [(80, g80), (81, g81)]) Tryz.f37
theorem g37_ok : FunOk Tryz.prog 37 g37 := fun_okS ty_ok mixed (gam_ok (J := J0) (tab_cons g80_ok (tab_cons g81_ok (tab_nil fls_fun)))) Tryz.func37 (fun args w => by simp)
/-- stagepost/mvcc.found[stagepost/api.Intent] -/
noncomputable def g82 : Fun := denFS ty (gam J0 [(63, g63), (81, g81), (83, g83), (84, g84), (168, g168)]) Tryz.f82
theorem g82_ok : FunOk Tryz.prog 82 g82 := fun_okS ty_ok mixed (gam_ok (J := J0) (tab_cons g63_ok (tab_cons g81_ok (tab_cons g83_ok (tab_cons g84_ok (tab_cons g168_ok (tab_nil fls_fun))))))) Tryz.func82 (fun args w => by simp)
/-- stagepost/mvcc.Intents -/
noncomputable def g39 : Fun := denFS ty (gam J0 [(82, g82), (83, g83)]) Tryz.f39
theorem g39_ok : FunOk Tryz.prog 39 g39 := fun_okS ty_ok mixed (gam_ok (J := J0) (tab_cons g82_ok (tab_cons g83_ok (tab_nil fls_fun)))) Tryz.func39 (fun args w => by simp)
end Go.Proofs.YtcifllconkchmaaGreatDoor
