/- Functions as they are reckoned. MADE BY PROGRAM (wip/tools/shal.py). -/
import Derived.Test.YtfbdniomnnpemaaGreatDoorAmS2
namespace Go.Proofs.YtfbdniomnnpemaaGreatDoor
open Go Go.Am
set_option maxRecDepth 100000
set_option linter.all false
/-- (*stagepost/manifest.Manifest).Version -/
noncomputable def g29 : Fun := denF ty (gam J0 [(80, g80), (81, g81)]) Tryz.f29
theorem g29_ok : FunOk Tryz.prog 29 g29 := fun_ok ty_ok mixed (gam_ok (J := J0) (tab_cons g80_ok (tab_cons g81_ok (tab_nil fls_fun)))) Tryz.func29 (fun args w => by simp)
/-- (*stagepost/sst.Table).none -/
noncomputable def g82 : Fun := denF ty (gam J0 []) Tryz.f82
theorem g82_ok : FunOk Tryz.prog 82 g82 := fun_ok ty_ok mixed (gam_ok (J := J0) (tab_nil fls_fun)) Tryz.func82 (fun args w => by simp)
/-- stagepost/bloom.Check -/
noncomputable def g137 : Fun := denF ty (gam J0 []) Tryz.f137
theorem g137_ok : FunOk Tryz.prog 137 g137 := fun_ok ty_ok mixed (gam_ok (J := J0) (tab_nil fls_fun)) Tryz.func137 (fun args w => by simp)
/-- stagepost/bloom.Hash -/
noncomputable def s138G (J : Joins) (a0 : Str) (h : H) (k : Int → H → Prop) : Prop :=
J.lp (α := AV × AV × AV × AV × Unit) (fun r4 v1 d2 h3 =>
asI .i64 v1.2.2.2.1 fun x5 =>
asI .i64 v1.2.2.1 fun x6 =>
fB (ltI x5 x6) fun b7 =>
br b7 (
ixsK v1.1 v1.2.2.2.1 fun x8 =>
fI (wrapF .u64 x8) fun x9 =>
asI .u64 v1.2.1 fun x10 =>
fI (lxorF .u64 x10 x9) fun x11 =>
fI (wrapF .u64 (Int.mul x11 (Int.ofNat 1099511628211))) fun x12 =>
asI .i64 v1.2.2.2.1 fun x13 =>
fI (wrapF .i64 (Int.add x13 (Int.ofNat 1))) fun x14 =>
r4 (v1.1, (AV.int .u64 x12), v1.2.2.1, (AV.int .i64 x14), ()) d2 h3) (
leaveK (gam J []) d2 h3 fun h15 =>
asI .u64 v1.2.1 fun x16 =>
k x16 h15)) ((AV.str a0), (AV.int .u64 (Int.ofNat 14695981039346656037)), (AV.int .i64 (Int.ofNat a0.len)), (AV.int .i64 (Int.ofNat 0)), ()) [] h
noncomputable def s138 : Str → H → (Int → H → Prop) → Prop := s138G J0 
noncomputable def w138 (c : Str → H → (Int → H → Prop) → Prop) : Fun := fun xs h k => arg xs fun a0 xs => noArg xs <| asS a0 fun a0 => c a0 h fun r0 h => k (.int .u64 r0) h
theorem s138_eq (J : Joins) (a0 : Str) (h : H) (k : AV → H → Prop) : denF ty (gam J []) Tryz.f138 [(.str a0)] h k = s138G J  a0 h (fun r0 h => k (.int .u64 r0) h) := by kernel_rfl
noncomputable def g138 : Fun := w138 s138
theorem g138_ok : FunOk Tryz.prog 138 g138 := (fun_ok ty_ok mixed (gam_ok (J := J0) (tab_nil fls_fun)) Tryz.func138 (fun args w => by simp)).imp fun xs h k e0 => by
  obtain ⟨a0, xs0, rfl, e1⟩ := arg_imp e0
  obtain ⟨rfl, e2⟩ := noArg_imp e1
  obtain ⟨a0, rfl, e3⟩ := asS_iff.1 e2
  exact (s138_eq J0  a0 h k).mpr e3
/-- stagepost/bloom.bit -/
noncomputable def s139G (J : Joins) (a0 : Int) (a1 : Int) (a2 : Int) (h : H) (k : Int → H → Prop) : Prop :=
fI (landF .u64 a0 (Int.ofNat 4294967295)) fun x1 =>
fI (shrF a0 (nmin 32 (IntKind.bits .u64))) fun x2 =>
fI (lorF .u64 x2 (Int.ofNat 1)) fun x3 =>
fI (wrapF .u64 a1) fun x4 =>
fI (wrapF .u64 (Int.mul x4 x3)) fun x5 =>
fI (wrapF .u64 (Int.add x1 x5)) fun x6 =>
fI (wrapF .u64 a2) fun x7 =>
ck (Bool.not (eqI x7 0)) (fI (Int.tmod x6 x7) fun x8 =>
fI (wrapF .i64 x8) fun x9 =>
k x9 h)
noncomputable def s139 : Int → Int → Int → H → (Int → H → Prop) → Prop := s139G J0 
noncomputable def w139 (c : Int → Int → Int → H → (Int → H → Prop) → Prop) : Fun := fun xs h k => arg xs fun a0 xs => arg xs fun a1 xs => arg xs fun a2 xs => noArg xs <| asI .u64 a0 fun a0 => asI .i64 a1 fun a1 => asI .i64 a2 fun a2 => c a0 a1 a2 h fun r0 h => k (.int .i64 r0) h
theorem s139_eq (J : Joins) (a0 : Int) (a1 : Int) (a2 : Int) (h : H) (k : AV → H → Prop) : denF ty (gam J []) Tryz.f139 [(.int .u64 a0), (.int .i64 a1), (.int .i64 a2)] h k = s139G J  a0 a1 a2 h (fun r0 h => k (.int .i64 r0) h) := by kernel_rfl
noncomputable def g139 : Fun := w139 s139
theorem g139_ok : FunOk Tryz.prog 139 g139 := (fun_ok ty_ok mixed (gam_ok (J := J0) (tab_nil fls_fun)) Tryz.func139 (fun args w => by simp)).imp fun xs h k e0 => by
  obtain ⟨a0, xs0, rfl, e1⟩ := arg_imp e0
  obtain ⟨a1, xs1, rfl, e2⟩ := arg_imp e1
  obtain ⟨a2, xs2, rfl, e3⟩ := arg_imp e2
  obtain ⟨rfl, e4⟩ := noArg_imp e3
  obtain ⟨a0, rfl, e5⟩ := asI_iff.1 e4
  obtain ⟨a1, rfl, e6⟩ := asI_iff.1 e5
  obtain ⟨a2, rfl, e7⟩ := asI_iff.1 e6
  exact (s139_eq J0  a0 a1 a2 h k).mpr e7
/-- stagepost/bloom.Has -/
noncomputable def g83 : Fun := denF ty (gam J0 [(137, g137), (138, g138), (139, g139)]) Tryz.f83
theorem g83_ok : FunOk Tryz.prog 83 g83 := fun_ok ty_ok mixed (gam_ok (J := J0) (tab_cons g137_ok (tab_cons g138_ok (tab_cons g139_ok (tab_nil fls_fun))))) Tryz.func83 (fun args w => by simp)
/-- (*stagepost/sst.Table).Get$1 -/
noncomputable def g85 : Fun := denF ty (gam J0 [(86, g86)]) Tryz.f85
theorem g85_ok : FunOk Tryz.prog 85 g85 := fun_ok ty_ok mixed (gam_ok (J := J0) (tab_cons g86_ok (tab_nil fls_fun))) Tryz.func85 (fun args w => by simp)
/-- stagepost/enc.Read -/
noncomputable def s226G (J : Joins) (a0 : AV) (h : H) (k : Int → Int → Int → H → Prop) : Prop :=
J.jd (α := Unit) (fun v1 d2 h3 =>
leaveK (gam J []) d2 h3 fun h5 =>
k (Int.ofNat 0) (Int.ofNat 0) (Int.ofNat 5) h5) fun j4 =>
J.lp (α := AV × AV × AV × Unit) (fun r9 v6 d7 h8 =>
lenK v6.1 fun x10 =>
asI .i64 v6.2.2.1 fun x11 =>
fB (ltI x11 (Int.ofNat x10)) fun b12 =>
J.jn (fun v13 h14 =>
J.jn (fun v16 h17 =>
pickB (AV.bool b12) v16 (AV.bool false) fun b21 =>
br b21 (
ixK 1 v6.1 v6.2.2.1 fun p22 =>
ldI .u8 p22 h17 fun x23 =>
asI .i64 v6.2.2.1 fun x24 =>
fB (eqI x24 (Int.ofNat 9)) fun b25 =>
J.jn (fun v26 h27 =>
J.jn (fun v29 h30 =>
pickB (AV.bool b25) v29 (AV.bool false) fun b34 =>
J.jn (fun v35 h36 =>
J.jn (fun v38 h39 =>
J.jn (fun v43 h44 =>
J.jn (fun v46 h47 =>
J.jn (fun v49 h50 =>
J.jn (fun v54 h55 =>
pickB (AV.bool b34) (AV.bool true) v54 fun b58 =>
br b58 (
j4 (()) d7 h55) (
fI (landnF .u8 x23 (Int.ofNat 128)) fun x59 =>
fI (wrapF .u64 x59) fun x60 =>
asI .i64 v6.2.2.1 fun x61 =>
fI (wrapF .i64 (Int.mul (Int.ofNat 7) x61)) fun x62 =>
asNat (AV.int .i64 x62) fun n63 =>
fI (shlF .u64 x60 n63) fun x64 =>
asI .u64 v6.2.1 fun x65 =>
fI (lorF .u64 x65 x64) fun x66 =>
asI .i64 v6.2.2.1 fun x67 =>
fI (wrapF .i64 (Int.add x67 (Int.ofNat 1))) fun x68 =>
fB (ltI x23 (Int.ofNat 128)) fun b69 =>
br b69 (
leaveK (gam J []) d7 h55 fun h70 =>
k x66 x68 (Int.ofNat 0) h70) (
r9 (v6.1, (AV.int .u64 x66), (AV.int .i64 x68), ()) d7 h55))) fun j56 =>
br b34 (
j56 skipV h50) (
pickB v43 v49 (AV.bool false) fun b57 =>
j56 (AV.bool b57) h50)) fun j51 =>
asBU v43 (fun b71 =>
br b71 (
asI .u8 v46 fun x52 =>
fB (eqI x52 (Int.ofNat 0)) fun b53 =>
j51 (AV.bool b53) h47) (
j51 skipV h47)) (
j51 skipV h47)) fun j48 =>
asBU v43 (fun b72 =>
br b72 (
j48 (AV.int .u8 x23) h44) (
j48 skipV h44)) (
j48 skipV h44)) fun j45 =>
br b34 (
j45 skipV h39) (
j45 v38 h39)) fun j40 =>
br b34 (
j40 skipV h36) (
asI .i64 v35 fun x41 =>
fB (ltI (Int.ofNat 0) x41) fun b42 =>
j40 (AV.bool b42) h36)) fun j37 =>
br b34 (
j37 skipV h30) (
j37 v6.2.2.1 h30)) fun j31 =>
br b25 (
asI .u8 v26 fun x32 =>
fB (ltI (Int.ofNat 1) x32) fun b33 =>
j31 (AV.bool b33) h27) (
j31 skipV h27)) fun j28 =>
br b25 (
j28 (AV.int .u8 x23) h17) (
j28 skipV h17)) (
j4 (()) d7 h17)) fun j18 =>
br b12 (
asI .i64 v13 fun x19 =>
fB (ltI x19 (Int.ofNat 10)) fun b20 =>
j18 (AV.bool b20) h14) (
j18 skipV h14)) fun j15 =>
br b12 (
j15 v6.2.2.1 h8) (
j15 skipV h8)) (a0, (AV.int .u64 (Int.ofNat 0)), (AV.int .i64 (Int.ofNat 0)), ()) [] h
noncomputable def s226 : AV → H → (Int → Int → Int → H → Prop) → Prop := s226G J0 
noncomputable def w226 (c : AV → H → (Int → Int → Int → H → Prop) → Prop) : Fun := fun xs h k => arg xs fun a0 xs => noArg xs <| c a0 h fun r0 r1 r2 h => k (.tuple [(.int .u64 r0), (.int .i64 r1), (.int .i64 r2)]) h
theorem s226_eq (J : Joins) (a0 : AV) (h : H) (k : AV → H → Prop) : denF ty (gam J []) Tryz.f226 [a0] h k = s226G J  a0 h (fun r0 r1 r2 h => k (.tuple [(.int .u64 r0), (.int .i64 r1), (.int .i64 r2)]) h) := by kernel_rfl
noncomputable def g226 : Fun := w226 s226
theorem g226_ok : FunOk Tryz.prog 226 g226 := (fun_ok ty_ok mixed (gam_ok (J := J0) (tab_nil fls_fun)) Tryz.func226 (fun args w => by simp)).imp fun xs h k e0 => by
  obtain ⟨a0, xs0, rfl, e1⟩ := arg_imp e0
  obtain ⟨rfl, e2⟩ := noArg_imp e1
  exact (s226_eq J0  a0 h k).mpr e2
/-- stagepost/enc.Small -/
noncomputable def g193 : Fun := denF ty (gam J0 [(226, g226)]) Tryz.f193
theorem g193_ok : FunOk Tryz.prog 193 g193 := fun_ok ty_ok mixed (gam_ok (J := J0) (tab_cons g226_ok (tab_nil fls_fun))) Tryz.func193 (fun args w => by simp)
/-- stagepost/block.Decode$1 -/
noncomputable def g192 : Fun := denF ty (gam J0 [(193, g193)]) Tryz.f192
theorem g192_ok : FunOk Tryz.prog 192 g192 := fun_ok ty_ok mixed (gam_ok (J := J0) (tab_cons g193_ok (tab_nil fls_fun))) Tryz.func192 (fun args w => by simp)
/-- stagepost/block.Decode$2 -/
noncomputable def g194 : Fun := denF ty (gam J0 [(85, g85), (192, g192)]) Tryz.f194
theorem g194_ok : FunOk Tryz.prog 194 g194 := fun_ok ty_ok mixed (gam_ok (J := J0) (tab_cons g85_ok (tab_cons g192_ok (tab_nil fls_fun)))) Tryz.func194 (fun args w => by simp)
/-- sort.Search -/
noncomputable def g84 : Fun := denF ty (gam J0 [(85, g85), (192, g192), (194, g194)]) Tryz.f84
theorem g84_ok : FunOk Tryz.prog 84 g84 := fun_ok ty_ok mixed (gam_ok (J := J0) (tab_cons g85_ok (tab_cons g192_ok (tab_cons g194_ok (tab_nil fls_fun))))) Tryz.func84 (fun args w => by simp)
/-- stagepost/crc.Opened -/
noncomputable def g212 : Fun := denF ty (gam J0 [(131, g131)]) Tryz.f212
theorem g212_ok : FunOk Tryz.prog 212 g212 := fun_ok ty_ok mixed (gam_ok (J := J0) (tab_cons g131_ok (tab_nil fls_fun))) Tryz.func212 (fun args w => by simp)
/-- stagepost/frame.Read -/
noncomputable def g170 : Fun := denF ty (gam J0 [(212, g212)]) Tryz.f170
theorem g170_ok : FunOk Tryz.prog 170 g170 := fun_ok ty_ok mixed (gam_ok (J := J0) (tab_cons g212_ok (tab_nil fls_fun))) Tryz.func170 (fun args w => by simp)
/-- stagepost/sst.record -/
noncomputable def g143 : Fun := denF ty (gam J0 [(170, g170)]) Tryz.f143
theorem g143_ok : FunOk Tryz.prog 143 g143 := fun_ok ty_ok mixed (gam_ok (J := J0) (tab_cons g170_ok (tab_nil fls_fun))) Tryz.func143 (fun args w => by simp)
/-- stagepost/block.ordered -/
noncomputable def g92 : Fun := denF ty (gam J0 [(86, g86)]) Tryz.f92
theorem g92_ok : FunOk Tryz.prog 92 g92 := fun_ok ty_ok mixed (gam_ok (J := J0) (tab_cons g86_ok (tab_nil fls_fun))) Tryz.func92 (fun args w => by simp)
/-- stagepost/block.Check -/
noncomputable def g196 : Fun := denF ty (gam J0 [(92, g92), (136, g136)]) Tryz.f196
theorem g196_ok : FunOk Tryz.prog 196 g196 := fun_ok ty_ok mixed (gam_ok (J := J0) (tab_cons g92_ok (tab_cons g136_ok (tab_nil fls_fun)))) Tryz.func196 (fun args w => by simp)
/-- stagepost/block.shared -/
noncomputable def g197 : Fun := denF ty (gam J0 []) Tryz.f197
theorem g197_ok : FunOk Tryz.prog 197 g197 := fun_ok ty_ok mixed (gam_ok (J := J0) (tab_nil fls_fun)) Tryz.func197 (fun args w => by simp)
/-- stagepost/block.Encode -/
noncomputable def g148 : Fun := denF ty (gam J0 [(129, g129), (196, g196), (197, g197)]) Tryz.f148
theorem g148_ok : FunOk Tryz.prog 148 g148 := fun_ok ty_ok mixed (gam_ok (J := J0) (tab_cons g129_ok (tab_cons g196_ok (tab_cons g197_ok (tab_nil fls_fun))))) Tryz.func148 (fun args w => by simp)
/-- stagepost/block.Decode -/
noncomputable def g144 : Fun := denF ty (gam J0 [(85, g85), (148, g148), (192, g192), (194, g194)]) Tryz.f144
theorem g144_ok : FunOk Tryz.prog 144 g144 := fun_ok ty_ok mixed (gam_ok (J := J0) (tab_cons g85_ok (tab_cons g148_ok (tab_cons g192_ok (tab_cons g194_ok (tab_nil fls_fun)))))) Tryz.func144 (fun args w => by simp)
/-- (*stagepost/sst.Table).read -/
noncomputable def g87 : Fun := denF ty (gam J0 [(143, g143), (144, g144)]) Tryz.f87
theorem g87_ok : FunOk Tryz.prog 87 g87 := fun_ok ty_ok mixed (gam_ok (J := J0) (tab_cons g143_ok (tab_cons g144_ok (tab_nil fls_fun)))) Tryz.func87 (fun args w => by simp)
/-- stagepost/block.Find$1 -/
noncomputable def g146 : Fun := denF ty (gam J0 [(86, g86)]) Tryz.f146
theorem g146_ok : FunOk Tryz.prog 146 g146 := fun_ok ty_ok mixed (gam_ok (J := J0) (tab_cons g86_ok (tab_nil fls_fun))) Tryz.func146 (fun args w => by simp)
end Go.Proofs.YtfbdniomnnpemaaGreatDoor
