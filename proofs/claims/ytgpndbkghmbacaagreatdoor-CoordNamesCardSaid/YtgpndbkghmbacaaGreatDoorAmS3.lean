/- Functions as they are reckoned. MADE BY PROGRAM (wip/tools/shal.py). -/
import Derived.Test.YtgpndbkghmbacaaGreatDoorAmH61
namespace Go.Proofs.YtgpndbkghmbacaaGreatDoor
open Go Go.Am
set_option maxRecDepth 100000
set_option linter.all false
/-- (*stagepost/parser.reader).peek -/
noncomputable def s160G (J : Joins) (a0 : AV) (h : H) (k : AV → H → Prop) : Prop :=
pushK (.cells false 222 [(.int .u8 0), (.str ⟨0, 0⟩), (.int .u64 0), (.int .i64 0)]) h fun n1 h2 =>
okNil a0 (
faK 1 a0 fun p3 =>
ldI .i64 p3 h2 fun x4 =>
okNil a0 (
faK 0 a0 fun p5 =>
ldV p5 h2 fun v6 =>
lenK v6 fun x7 =>
fB (ltI x4 (Int.ofNat x7)) fun b8 =>
br b8 (
okNil a0 (
faK 0 a0 fun p9 =>
ldV p9 h2 fun v10 =>
okNil a0 (
faK 1 a0 fun p11 =>
ldI .i64 p11 h2 fun x12 =>
ixK 4 v10 (AV.int .i64 x12) fun p13 =>
ldN 4 p13 h2 fun l14 =>
stN 4 (AV.ptr n1 0) l14 h2 fun h15 =>
ldN 4 (AV.ptr n1 0) h15 fun l16 =>
k (AV.agg l16) h15))) (
stN 4 (AV.ptr n1 0) [(.int .u8 0), (.str ⟨0, 0⟩), (.int .u64 0), (.int .i64 0)] h2 fun h17 =>
ldN 4 (AV.ptr n1 0) h17 fun l18 =>
k (AV.agg l18) h17)))
noncomputable def s160 : AV → H → (AV → H → Prop) → Prop := s160G J0 
noncomputable def w160 (c : AV → H → (AV → H → Prop) → Prop) : Fun := fun xs h k => arg xs fun a0 xs => noArg xs <| c a0 h fun r0 h => k r0 h
theorem s160_eq (J : Joins) (a0 : AV) (h : H) (k : AV → H → Prop) : denF ty (gam J []) Tryz.f160 [a0] h k = s160G J  a0 h (fun r0 h => k r0 h) := by kernel_rfl
noncomputable def g160 : Fun := w160 s160
theorem g160_ok : FunOk Tryz.prog 160 g160 := (fun_ok ty_ok mixed (gam_ok (J := J0) (tab_nil fls_fun)) Tryz.func160 (fun args w => by simp)).imp fun xs h k e0 => by
  obtain ⟨a0, xs0, rfl, e1⟩ := arg_imp e0
  obtain ⟨rfl, e2⟩ := noArg_imp e1
  exact (s160_eq J0  a0 h k).mpr e2
/-- (*stagepost/parser.reader).is -/
noncomputable def s98G (J : Joins) (c160 : AV → H → (AV → H → Prop) → Prop) (a0 : AV) (a1 : Str) (h : H) (k : Bool → H → Prop) : Prop :=
c160 a0 h fun v2 h1 =>
pushK (.cells false 222 [(.int .u8 0), (.str ⟨0, 0⟩), (.int .u64 0), (.int .i64 0)]) h1 fun n3 h4 =>
Go.Am.asAgg v2 fun l6 =>
stN 4 (AV.ptr n3 0) l6 h4 fun h5 =>
ldI .u8 (AV.ptr n3 0) h5 fun x7 =>
fB (eqI x7 (Int.ofNat 1)) fun b8 =>
J.jn (fun v9 h10 =>
J.jn (fun v12 h13 =>
J.jn (fun v16 h17 =>
pickB (AV.bool b8) (AV.bool true) v16 fun b21 =>
J.jn (fun v22 h23 =>
J.jn (fun v25 h26 =>
J.jn (fun v29 h30 =>
J.jn (fun v32 h33 =>
pickB (AV.bool b21) v32 (AV.bool false) fun b38 =>
k b38 h33) fun j34 =>
br b21 (
asS v25 fun s35 =>
asS v29 fun s36 =>
fB (Str.beq s35 s36) fun b37 =>
j34 (AV.bool b37) h30) (
j34 skipV h30)) fun j31 =>
br b21 (
j31 (AV.str a1) h26) (
j31 skipV h26)) fun j27 =>
br b21 (
ldS v22 h23 fun s28 =>
j27 (AV.str s28) h23) (
j27 skipV h23)) fun j24 =>
br b21 (
j24 (AV.ptr n3 1) h17) (
j24 skipV h17)) fun j18 =>
br b8 (
j18 skipV h13) (
asI .u8 v12 fun x19 =>
fB (eqI x19 (Int.ofNat 4)) fun b20 =>
j18 (AV.bool b20) h13)) fun j14 =>
br b8 (
j14 skipV h10) (
ldI .u8 v9 h10 fun x15 =>
j14 (AV.int .u8 x15) h10)) fun j11 =>
br b8 (
j11 skipV h5) (
j11 (AV.ptr n3 0) h5)
noncomputable def s98 : AV → Str → H → (Bool → H → Prop) → Prop := s98G J0 s160
noncomputable def w98 (c : AV → Str → H → (Bool → H → Prop) → Prop) : Fun := fun xs h k => arg xs fun a0 xs => arg xs fun a1 xs => noArg xs <| asS a1 fun a1 => c a0 a1 h fun r0 h => k (.bool r0) h
theorem s98_eq (J : Joins) (c160 : AV → H → (AV → H → Prop) → Prop) (a0 : AV) (a1 : Str) (h : H) (k : AV → H → Prop) : denF ty (gam J [(160, w160 c160)]) Tryz.f98 [a0, (.str a1)] h k = s98G J c160 a0 a1 h (fun r0 h => k (.bool r0) h) := by kernel_rfl
noncomputable def g98 : Fun := w98 s98
theorem g98_ok : FunOk Tryz.prog 98 g98 := (fun_ok ty_ok mixed (gam_ok (J := J0) (tab_cons g160_ok (tab_nil fls_fun))) Tryz.func98 (fun args w => by simp)).imp fun xs h k e0 => by
  obtain ⟨a0, xs0, rfl, e1⟩ := arg_imp e0
  obtain ⟨a1, xs1, rfl, e2⟩ := arg_imp e1
  obtain ⟨rfl, e3⟩ := noArg_imp e2
  obtain ⟨a1, rfl, e4⟩ := asS_iff.1 e3
  exact (s98_eq J0 s160 a0 a1 h k).mpr e4
/-- (*stagepost/parser.reader).got -/
noncomputable def s63G (J : Joins) (c98 : AV → Str → H → (Bool → H → Prop) → Prop) (a0 : AV) (a1 : Str) (h : H) (k : Bool → H → Prop) : Prop :=
c98 a0 a1 h fun b2 h1 =>
fB (Bool.not b2) fun b3 =>
br b3 (
k false h1) (
okNil a0 (
faK 1 a0 fun p4 =>
ldI .i64 p4 h1 fun x5 =>
fI (wrapF .i64 (Int.add x5 (Int.ofNat 1))) fun x6 =>
okNil a0 (
faK 1 a0 fun p7 =>
stV p7 (AV.int .i64 x6) h1 fun h8 =>
k true h8)))
noncomputable def s63 : AV → Str → H → (Bool → H → Prop) → Prop := s63G J0 s98
noncomputable def w63 (c : AV → Str → H → (Bool → H → Prop) → Prop) : Fun := fun xs h k => arg xs fun a0 xs => arg xs fun a1 xs => noArg xs <| asS a1 fun a1 => c a0 a1 h fun r0 h => k (.bool r0) h
theorem s63_eq (J : Joins) (c98 : AV → Str → H → (Bool → H → Prop) → Prop) (a0 : AV) (a1 : Str) (h : H) (k : AV → H → Prop) : denF ty (gam J [(98, w98 c98)]) Tryz.f63 [a0, (.str a1)] h k = s63G J c98 a0 a1 h (fun r0 h => k (.bool r0) h) := by kernel_rfl
noncomputable def g63 : Fun := w63 s63
theorem g63_ok : FunOk Tryz.prog 63 g63 := (fun_ok ty_ok mixed (gam_ok (J := J0) (tab_cons g98_ok (tab_nil fls_fun))) Tryz.func63 (fun args w => by simp)).imp fun xs h k e0 => by
  obtain ⟨a0, xs0, rfl, e1⟩ := arg_imp e0
  obtain ⟨a1, xs1, rfl, e2⟩ := arg_imp e1
  obtain ⟨rfl, e3⟩ := noArg_imp e2
  obtain ⟨a1, rfl, e4⟩ := asS_iff.1 e3
  exact (s63_eq J0 s98 a0 a1 h k).mpr e4
/-- (*stagepost/parser.reader).full -/
noncomputable def s76G (J : Joins) (a0 : AV) (a1 : Int) (a2 : Int) (h : H) (k : H → Prop) : Prop :=
fB (ltI a1 a2) fun b1 =>
br b1 (
k  h) (
J.jd (α := AV × Unit) (fun v2 d3 h4 =>
False) fun j5 =>
okNil a0 (
faK 1 a0 fun p6 =>
ldI .i64 p6 h fun x7 =>
okNil a0 (
faK 0 a0 fun p8 =>
ldV p8 h fun v9 =>
lenK v9 fun x10 =>
fB (ltI x7 (Int.ofNat x10)) fun b11 =>
br b11 (
False) (
j5 (a0, ()) [] h))))
noncomputable def s76 : AV → Int → Int → H → (H → Prop) → Prop := s76G J0 
noncomputable def w76 (c : AV → Int → Int → H → (H → Prop) → Prop) : Fun := fun xs h k => arg xs fun a0 xs => arg xs fun a1 xs => arg xs fun a2 xs => noArg xs <| asI .i64 a1 fun a1 => asI .i64 a2 fun a2 => c a0 a1 a2 h fun  h => k (.tuple []) h
theorem s76_eq (J : Joins) (a0 : AV) (a1 : Int) (a2 : Int) (h : H) (k : AV → H → Prop) : denF ty (gam J []) Tryz.f76 [a0, (.int .i64 a1), (.int .i64 a2)] h k = s76G J  a0 a1 a2 h (fun  h => k (.tuple []) h) := by kernel_rfl
noncomputable def g76 : Fun := w76 s76
theorem g76_ok : FunOk Tryz.prog 76 g76 := (fun_ok ty_ok mixed (gam_ok (J := J0) (tab_nil fls_fun)) Tryz.func76 (fun args w => by simp)).imp fun xs h k e0 => by
  obtain ⟨a0, xs0, rfl, e1⟩ := arg_imp e0
  obtain ⟨a1, xs1, rfl, e2⟩ := arg_imp e1
  obtain ⟨a2, xs2, rfl, e3⟩ := arg_imp e2
  obtain ⟨rfl, e4⟩ := noArg_imp e3
  obtain ⟨a1, rfl, e5⟩ := asI_iff.1 e4
  obtain ⟨a2, rfl, e6⟩ := asI_iff.1 e5
  exact (s76_eq J0  a0 a1 a2 h k).mpr e6
/-- (*stagepost/parser.reader).must -/
noncomputable def s161G (J : Joins) (c63 : AV → Str → H → (Bool → H → Prop) → Prop) (a0 : AV) (a1 : AV) (h : H) (k : H → Prop) : Prop :=
lenK a1 fun x1 =>
J.lp (α := AV × AV × AV × AV × Unit) (fun r5 v2 d3 h4 =>
asI .i64 v2.2.2.2.1 fun x6 =>
asI .i64 v2.2.2.1 fun x7 =>
fB (ltI x6 x7) fun b8 =>
br b8 (
J.jd (α := AV × AV × AV × AV × Unit) (fun v9 d10 h11 =>
asI .i64 v9.2.2.2.1 fun x13 =>
fI (wrapF .i64 (Int.add x13 (Int.ofNat 1))) fun x14 =>
r5 (v9.1, v9.2.1, v9.2.2.1, (AV.int .i64 x14), ()) d10 h11) fun j12 =>
ixK 1 v2.2.1 v2.2.2.2.1 fun p15 =>
ldS p15 h4 fun s16 =>
c63 v2.1 s16 h4 fun b18 h17 =>
fB (Bool.not b18) fun b19 =>
br b19 (
False) (
j12 (v2.1, v2.2.1, v2.2.2.1, v2.2.2.2.1, ()) d3 h17)) (
leaveK (gam J [(63, w63 c63)]) d3 h4 fun h20 =>
k  h20)) (a0, a1, (AV.int .i64 (Int.ofNat x1)), (AV.int .i64 (Int.ofNat 0)), ()) [] h
noncomputable def s161 : AV → AV → H → (H → Prop) → Prop := s161G J0 s63
noncomputable def w161 (c : AV → AV → H → (H → Prop) → Prop) : Fun := fun xs h k => arg xs fun a0 xs => arg xs fun a1 xs => noArg xs <| c a0 a1 h fun  h => k (.tuple []) h
theorem s161_eq (J : Joins) (c63 : AV → Str → H → (Bool → H → Prop) → Prop) (a0 : AV) (a1 : AV) (h : H) (k : AV → H → Prop) : denF ty (gam J [(63, w63 c63)]) Tryz.f161 [a0, a1] h k = s161G J c63 a0 a1 h (fun  h => k (.tuple []) h) := by kernel_rfl
noncomputable def g161 : Fun := w161 s161
theorem g161_ok : FunOk Tryz.prog 161 g161 := (fun_ok ty_ok mixed (gam_ok (J := J0) (tab_cons g63_ok (tab_nil fls_fun))) Tryz.func161 (fun args w => by simp)).imp fun xs h k e0 => by
  obtain ⟨a0, xs0, rfl, e1⟩ := arg_imp e0
  obtain ⟨a1, xs1, rfl, e2⟩ := arg_imp e1
  obtain ⟨rfl, e3⟩ := noArg_imp e2
  exact (s161_eq J0 s63 a0 a1 h k).mpr e3
/-- slices.Index[[]string,string] -/
noncomputable def s221G (J : Joins) (a0 : AV) (a1 : Str) (h : H) (k : Int → H → Prop) : Prop :=
lenK a0 fun x1 =>
J.lp (α := AV × AV × AV × AV × Unit) (fun r5 v2 d3 h4 =>
asI .i64 v2.2.2.2.1 fun x6 =>
asI .i64 v2.2.2.1 fun x7 =>
fB (ltI x6 x7) fun b8 =>
br b8 (
ixK 1 v2.1 v2.2.2.2.1 fun p9 =>
ldS p9 h4 fun s10 =>
asS v2.2.1 fun s11 =>
fB (Str.beq s11 s10) fun b12 =>
br b12 (
leaveK (gam J []) d3 h4 fun h13 =>
asI .i64 v2.2.2.2.1 fun x14 =>
k x14 h13) (
asI .i64 v2.2.2.2.1 fun x15 =>
fI (wrapF .i64 (Int.add x15 (Int.ofNat 1))) fun x16 =>
r5 (v2.1, v2.2.1, v2.2.2.1, (AV.int .i64 x16), ()) d3 h4)) (
leaveK (gam J []) d3 h4 fun h17 =>
k (Int.negSucc 0) h17)) (a0, (AV.str a1), (AV.int .i64 (Int.ofNat x1)), (AV.int .i64 (Int.ofNat 0)), ()) [] h
noncomputable def s221 : AV → Str → H → (Int → H → Prop) → Prop := s221G J0 
noncomputable def w221 (c : AV → Str → H → (Int → H → Prop) → Prop) : Fun := fun xs h k => arg xs fun a0 xs => arg xs fun a1 xs => noArg xs <| asS a1 fun a1 => c a0 a1 h fun r0 h => k (.int .i64 r0) h
theorem s221_eq (J : Joins) (a0 : AV) (a1 : Str) (h : H) (k : AV → H → Prop) : denF ty (gam J []) Tryz.f221 [a0, (.str a1)] h k = s221G J  a0 a1 h (fun r0 h => k (.int .i64 r0) h) := by kernel_rfl
noncomputable def g221 : Fun := w221 s221
theorem g221_ok : FunOk Tryz.prog 221 g221 := (fun_ok ty_ok mixed (gam_ok (J := J0) (tab_nil fls_fun)) Tryz.func221 (fun args w => by simp)).imp fun xs h k e0 => by
  obtain ⟨a0, xs0, rfl, e1⟩ := arg_imp e0
  obtain ⟨a1, xs1, rfl, e2⟩ := arg_imp e1
  obtain ⟨rfl, e3⟩ := noArg_imp e2
  obtain ⟨a1, rfl, e4⟩ := asS_iff.1 e3
  exact (s221_eq J0  a0 a1 h k).mpr e4
/-- slices.Contains[[]string,string] -/
noncomputable def s141G (J : Joins) (c221 : AV → Str → H → (Int → H → Prop) → Prop) (a0 : AV) (a1 : Str) (h : H) (k : Bool → H → Prop) : Prop :=
c221 a0 a1 h fun x2 h1 =>
fB (Bool.not (ltI x2 (Int.ofNat 0))) fun b3 =>
k b3 h1
noncomputable def s141 : AV → Str → H → (Bool → H → Prop) → Prop := s141G J0 s221
noncomputable def w141 (c : AV → Str → H → (Bool → H → Prop) → Prop) : Fun := fun xs h k => arg xs fun a0 xs => arg xs fun a1 xs => noArg xs <| asS a1 fun a1 => c a0 a1 h fun r0 h => k (.bool r0) h
theorem s141_eq (J : Joins) (c221 : AV → Str → H → (Int → H → Prop) → Prop) (a0 : AV) (a1 : Str) (h : H) (k : AV → H → Prop) : denF ty (gam J [(221, w221 c221)]) Tryz.f141 [a0, (.str a1)] h k = s141G J c221 a0 a1 h (fun r0 h => k (.bool r0) h) := by kernel_rfl
noncomputable def g141 : Fun := w141 s141
theorem g141_ok : FunOk Tryz.prog 141 g141 := (fun_ok ty_ok mixed (gam_ok (J := J0) (tab_cons g221_ok (tab_nil fls_fun))) Tryz.func141 (fun args w => by simp)).imp fun xs h k e0 => by
  obtain ⟨a0, xs0, rfl, e1⟩ := arg_imp e0
  obtain ⟨a1, xs1, rfl, e2⟩ := arg_imp e1
  obtain ⟨rfl, e3⟩ := noArg_imp e2
  obtain ⟨a1, rfl, e4⟩ := asS_iff.1 e3
  exact (s141_eq J0 s221 a0 a1 h k).mpr e4
/-- stagepost/lexer.reserved -/
noncomputable def g250 : Fun := denFS ty (gam J0 [(245, g245)]) Tryz.f250
theorem g250_ok : FunOk Tryz.prog 250 g250 := fun_okS ty_ok mixed (gam_ok (J := J0) (tab_cons g245_ok (tab_nil fls_fun))) Tryz.func250 (fun args w => by simp)
end Go.Proofs.YtgpndbkghmbacaaGreatDoor
