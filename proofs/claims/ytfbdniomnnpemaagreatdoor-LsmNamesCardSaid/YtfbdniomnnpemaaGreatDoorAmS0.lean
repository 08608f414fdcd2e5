/- Functions as they are reckoned. MADE BY PROGRAM (wip/tools/shal.py). -/
import Derived.Test.YtfbdniomnnpemaaGreatDoorAmTys
namespace Go.Proofs.YtfbdniomnnpemaaGreatDoor
open Go Go.Am
set_option maxRecDepth 100000
set_option linter.all false
/-- (*stagepost/lsm.Store).seen -/
noncomputable def g25 : Fun := denFS ty (gam J0 []) Tryz.f25
theorem g25_ok : FunOk Tryz.prog 25 g25 := fun_okS ty_ok mixed (gam_ok (J := J0) (tab_nil fls_fun)) Tryz.func25 (fun args w => by simp)
/-- stagepost/vfs.named -/
noncomputable def s181G (J : Joins) (a0 : Str) (h : H) (k : Bool → H → Prop) : Prop :=
fB (Str.beq a0 (⟨0, 0⟩ : Str)) fun b1 =>
J.jn (fun v2 h3 =>
J.jn (fun v5 h6 =>
J.jn (fun v9 h10 =>
pickB (AV.bool b1) (AV.bool true) v9 fun b14 =>
br b14 (
k false h10) (
J.lp (α := AV × AV × AV × Unit) (fun r18 v15 d16 h17 =>
asI .i64 v15.2.2.1 fun x19 =>
asI .i64 v15.2.1 fun x20 =>
fB (ltI x19 x20) fun b21 =>
br b21 (
ixsK v15.1 v15.2.2.1 fun x22 =>
fB (ltI x22 (Int.ofNat 33)) fun b23 =>
J.jn (fun v24 h25 =>
J.jn (fun v27 h28 =>
J.jn (fun v30 h31 =>
J.jn (fun v34 h35 =>
pickB (AV.bool b23) (AV.bool true) v34 fun b39 =>
br b39 (
leaveK (gam J []) d16 h35 fun h40 =>
k false h40) (
asI .i64 v15.2.2.1 fun x41 =>
fI (wrapF .i64 (Int.add x41 (Int.ofNat 1))) fun x42 =>
r18 (v15.1, v15.2.1, (AV.int .i64 x42), ()) d16 h35)) fun j36 =>
br b23 (
j36 skipV h31) (
asI .u8 v30 fun x37 =>
fB (ltI (Int.ofNat 126) x37) fun b38 =>
j36 (AV.bool b38) h31)) fun j32 =>
br b23 (
j32 skipV h28) (
ixsK v24 v27 fun x33 =>
j32 (AV.int .u8 x33) h28)) fun j29 =>
br b23 (
j29 skipV h25) (
j29 v15.2.2.1 h25)) fun j26 =>
br b23 (
j26 skipV h17) (
j26 v15.1 h17)) (
leaveK (gam J []) d16 h17 fun h43 =>
k true h43)) ((AV.str a0), (AV.int .i64 (Int.ofNat a0.len)), (AV.int .i64 (Int.ofNat 0)), ()) [] h10)) fun j11 =>
br b1 (
j11 skipV h6) (
asI .i64 v5 fun x12 =>
fB (ltI (Int.ofNat 32) x12) fun b13 =>
j11 (AV.bool b13) h6)) fun j7 =>
br b1 (
j7 skipV h3) (
asS v2 fun s8 =>
j7 (AV.int .i64 (Int.ofNat s8.len)) h3)) fun j4 =>
br b1 (
j4 skipV h) (
j4 (AV.str a0) h)
noncomputable def s181 : Str → H → (Bool → H → Prop) → Prop := s181G J0 
noncomputable def w181 (c : Str → H → (Bool → H → Prop) → Prop) : Fun := fun xs h k => arg xs fun a0 xs => noArg xs <| asS a0 fun a0 => c a0 h fun r0 h => k (.bool r0) h
theorem s181_eq (J : Joins) (a0 : Str) (h : H) (k : AV → H → Prop) : denF ty (gam J []) Tryz.f181 [(.str a0)] h k = s181G J  a0 h (fun r0 h => k (.bool r0) h) := by kernel_rfl
noncomputable def g181 : Fun := w181 s181
theorem g181_ok : FunOk Tryz.prog 181 g181 := (fun_ok ty_ok mixed (gam_ok (J := J0) (tab_nil fls_fun)) Tryz.func181 (fun args w => by simp)).imp fun xs h k e0 => by
  obtain ⟨a0, xs0, rfl, e1⟩ := arg_imp e0
  obtain ⟨rfl, e2⟩ := noArg_imp e1
  obtain ⟨a0, rfl, e3⟩ := asS_iff.1 e2
  exact (s181_eq J0  a0 h k).mpr e3
/-- (*stagepost/vfs.FS).asked -/
noncomputable def s123G (J : Joins) (c181 : Str → H → (Bool → H → Prop) → Prop) (a0 : AV) (a1 : AV) (h : H) (k : Int → H → Prop) : Prop :=
nilB 0 a0 fun b1 =>
J.jn (fun v2 h3 =>
J.jn (fun v5 h6 =>
J.jn (fun v8 h9 =>
J.jn (fun v12 h13 =>
J.jn (fun v16 h17 =>
pickB (AV.bool b1) (AV.bool true) v16 fun b21 =>
br b21 (
k (Int.ofNat 1) h17) (
okNil a0 (
faK 5 a0 fun p22 =>
ldB p22 h17 fun b23 =>
br b23 (
k (Int.ofNat 7) h17) (
lenK a1 fun x24 =>
J.lp (α := AV × AV × AV × Unit) (fun r28 v25 d26 h27 =>
asI .i64 v25.2.2.1 fun x29 =>
asI .i64 v25.2.1 fun x30 =>
fB (ltI x29 x30) fun b31 =>
br b31 (
ixK 1 v25.1 v25.2.2.1 fun p32 =>
ldS p32 h27 fun s33 =>
c181 s33 h27 fun b35 h34 =>
fB (Bool.not b35) fun b36 =>
br b36 (
leaveK (gam J [(181, w181 c181)]) d26 h34 fun h37 =>
k (Int.ofNat 2) h37) (
asI .i64 v25.2.2.1 fun x38 =>
fI (wrapF .i64 (Int.add x38 (Int.ofNat 1))) fun x39 =>
r28 (v25.1, v25.2.1, (AV.int .i64 x39), ()) d26 h34)) (
leaveK (gam J [(181, w181 c181)]) d26 h27 fun h40 =>
k (Int.ofNat 0) h40)) (a1, (AV.int .i64 (Int.ofNat x24)), (AV.int .i64 (Int.ofNat 0)), ()) [] h17)))) fun j18 =>
br b1 (
j18 skipV h13) (
asB v12 fun b19 =>
fB (Bool.not b19) fun b20 =>
j18 (AV.bool b20) h13)) fun j14 =>
br b1 (
j14 skipV h9) (
ldB v8 h9 fun b15 =>
j14 (AV.bool b15) h9)) fun j10 =>
br b1 (
j10 skipV h6) (
faK 9 v5 fun p11 =>
j10 p11 h6)) fun j7 =>
br b1 (
j7 skipV h3) (
okNil v2 (
j7 v2 h3))) fun j4 =>
br b1 (
j4 skipV h) (
j4 a0 h)
noncomputable def s123 : AV → AV → H → (Int → H → Prop) → Prop := s123G J0 s181
noncomputable def w123 (c : AV → AV → H → (Int → H → Prop) → Prop) : Fun := fun xs h k => arg xs fun a0 xs => arg xs fun a1 xs => noArg xs <| c a0 a1 h fun r0 h => k (.int .i64 r0) h
theorem s123_eq (J : Joins) (c181 : Str → H → (Bool → H → Prop) → Prop) (a0 : AV) (a1 : AV) (h : H) (k : AV → H → Prop) : denF ty (gam J [(181, w181 c181)]) Tryz.f123 [a0, a1] h k = s123G J c181 a0 a1 h (fun r0 h => k (.int .i64 r0) h) := by kernel_rfl
noncomputable def g123 : Fun := w123 s123
theorem g123_ok : FunOk Tryz.prog 123 g123 := (fun_ok ty_ok mixed (gam_ok (J := J0) (tab_cons g181_ok (tab_nil fls_fun))) Tryz.func123 (fun args w => by simp)).imp fun xs h k e0 => by
  obtain ⟨a0, xs0, rfl, e1⟩ := arg_imp e0
  obtain ⟨a1, xs1, rfl, e2⟩ := arg_imp e1
  obtain ⟨rfl, e3⟩ := noArg_imp e2
  exact (s123_eq J0 s181 a0 a1 h k).mpr e3
/-- s123, of which less may be asked -/
def up123 : AV → AV → H → (Int → H → Prop) → Prop := fun a0 a1 h k => ∃ K : Int → H → Prop, s123 a0 a1 h K ∧ ∀ r0 h', K r0 h' → k r0 h'
theorem up123_ok : FunOk Tryz.prog 123 (w123 up123) := g123_ok.up fun xs h k e0 => by
  obtain ⟨a0, xs0, rfl, e1⟩ := arg_imp e0
  obtain ⟨a1, xs1, rfl, e2⟩ := arg_imp e1
  obtain ⟨rfl, e3⟩ := noArg_imp e2
  obtain ⟨K, q1, q2⟩ := e3
  refine ⟨fun r h' => ∃ r0, r = (.int .i64 r0) ∧ K r0 h', ?_, ?_⟩
  · have hK : (fun r0 h' => ∃ r0', ((.int .i64 r0) : AV) = (.int .i64 r0') ∧ K r0' h') = K := by funext r0 h'; apply propext; simp
    exact (congrArg (s123 a0 a1 h) hK).mpr q1
  · rintro r h' ⟨r0, rfl, q3⟩; exact q2 _ _ q3
/-- (*stagepost/vfs.FS).On -/
noncomputable def g68 : Fun := denFS ty (gam J0 [(123, g123)]) Tryz.f68
theorem g68_ok : FunOk Tryz.prog 68 g68 := fun_okS ty_ok mixed (gam_ok (J := J0) (tab_cons g123_ok (tab_nil fls_fun))) Tryz.func68 (fun args w => by simp)
/-- (*stagepost/lsm.Store).asked -/
noncomputable def g23 : Fun := denFS ty (gam J0 [(68, g68)]) Tryz.f23
theorem g23_ok : FunOk Tryz.prog 23 g23 := fun_okS ty_ok mixed (gam_ok (J := J0) (tab_cons g68_ok (tab_nil fls_fun))) Tryz.func23 (fun args w => by simp)
/-- (*stagepost/wal.Wal).Seq -/
noncomputable def g37 : Fun := denFS ty (gam J0 []) Tryz.f37
theorem g37_ok : FunOk Tryz.prog 37 g37 := fun_okS ty_ok mixed (gam_ok (J := J0) (tab_nil fls_fun)) Tryz.func37 (fun args w => by simp)
/-- (*stagepost/lsm.Store).may -/
noncomputable def g27 : Fun := denFS ty (gam J0 [(23, g23), (37, g37)]) Tryz.f27
theorem g27_ok : FunOk Tryz.prog 27 g27 := fun_okS ty_ok mixed (gam_ok (J := J0) (tab_cons g23_ok (tab_cons g37_ok (tab_nil fls_fun)))) Tryz.func27 (fun args w => by simp)
/-- (*stagepost/mem.Table).none -/
noncomputable def g78 : Fun := denFS ty (gam J0 []) Tryz.f78
theorem g78_ok : FunOk Tryz.prog 78 g78 := fun_okS ty_ok mixed (gam_ok (J := J0) (tab_nil fls_fun)) Tryz.func78 (fun args w => by simp)
/-- cmp.Or[int] -/
noncomputable def s140G (J : Joins) (a0 : AV) (h : H) (k : Int → H → Prop) : Prop :=
lenK a0 fun x1 =>
J.lp (α := AV × AV × AV × AV × Unit) (fun r5 v2 d3 h4 =>
asI .i64 v2.2.2.2.1 fun x6 =>
asI .i64 v2.2.2.1 fun x7 =>
fB (ltI x6 x7) fun b8 =>
br b8 (
ixK 1 v2.2.1 v2.2.2.2.1 fun p9 =>
ldI .i64 p9 h4 fun x10 =>
asI .i64 v2.1 fun x11 =>
fB (Bool.not (eqI x10 x11)) fun b12 =>
br b12 (
leaveK (gam J []) d3 h4 fun h13 =>
k x10 h13) (
asI .i64 v2.2.2.2.1 fun x14 =>
fI (wrapF .i64 (Int.add x14 (Int.ofNat 1))) fun x15 =>
r5 (v2.1, v2.2.1, v2.2.2.1, (AV.int .i64 x15), ()) d3 h4)) (
leaveK (gam J []) d3 h4 fun h16 =>
asI .i64 v2.1 fun x17 =>
k x17 h16)) ((AV.int .i64 (Int.ofNat 0)), a0, (AV.int .i64 (Int.ofNat x1)), (AV.int .i64 (Int.ofNat 0)), ()) [] h
noncomputable def s140 : AV → H → (Int → H → Prop) → Prop := s140G J0 
noncomputable def w140 (c : AV → H → (Int → H → Prop) → Prop) : Fun := fun xs h k => arg xs fun a0 xs => noArg xs <| c a0 h fun r0 h => k (.int .i64 r0) h
theorem s140_eq (J : Joins) (a0 : AV) (h : H) (k : AV → H → Prop) : denF ty (gam J []) Tryz.f140 [a0] h k = s140G J  a0 h (fun r0 h => k (.int .i64 r0) h) := by kernel_rfl
noncomputable def g140 : Fun := w140 s140
theorem g140_ok : FunOk Tryz.prog 140 g140 := (fun_ok ty_ok mixed (gam_ok (J := J0) (tab_nil fls_fun)) Tryz.func140 (fun args w => by simp)).imp fun xs h k e0 => by
  obtain ⟨a0, xs0, rfl, e1⟩ := arg_imp e0
  obtain ⟨rfl, e2⟩ := noArg_imp e1
  exact (s140_eq J0  a0 h k).mpr e2
/-- cmp.isNaN[string] -/
noncomputable def s190G (J : Joins) (a0 : Str) (h : H) (k : Bool → H → Prop) : Prop :=
fB (Bool.not (Str.beq a0 a0)) fun b1 =>
k b1 h
noncomputable def s190 : Str → H → (Bool → H → Prop) → Prop := s190G J0 
noncomputable def w190 (c : Str → H → (Bool → H → Prop) → Prop) : Fun := fun xs h k => arg xs fun a0 xs => noArg xs <| asS a0 fun a0 => c a0 h fun r0 h => k (.bool r0) h
theorem s190_eq (J : Joins) (a0 : Str) (h : H) (k : AV → H → Prop) : denF ty (gam J []) Tryz.f190 [(.str a0)] h k = s190G J  a0 h (fun r0 h => k (.bool r0) h) := by kernel_rfl
noncomputable def g190 : Fun := w190 s190
theorem g190_ok : FunOk Tryz.prog 190 g190 := (fun_ok ty_ok mixed (gam_ok (J := J0) (tab_nil fls_fun)) Tryz.func190 (fun args w => by simp)).imp fun xs h k e0 => by
  obtain ⟨a0, xs0, rfl, e1⟩ := arg_imp e0
  obtain ⟨rfl, e2⟩ := noArg_imp e1
  obtain ⟨a0, rfl, e3⟩ := asS_iff.1 e2
  exact (s190_eq J0  a0 h k).mpr e3
/-- cmp.Compare[string] -/
noncomputable def s141G (J : Joins) (c190 : Str → H → (Bool → H → Prop) → Prop) (a0 : Str) (a1 : Str) (h : H) (k : Int → H → Prop) : Prop :=
c190 a0 h fun b2 h1 =>
c190 a1 h1 fun b4 h3 =>
br b2 (
br b4 (
k (Int.ofNat 0) h3) (
k (Int.negSucc 0) h3)) (
br b4 (
k (Int.ofNat 1) h3) (
fB (Str.lt a0 a1) fun b5 =>
br b5 (
k (Int.negSucc 0) h3) (
fB (Str.lt a1 a0) fun b6 =>
br b6 (
k (Int.ofNat 1) h3) (
k (Int.ofNat 0) h3))))
noncomputable def s141 : Str → Str → H → (Int → H → Prop) → Prop := s141G J0 s190
noncomputable def w141 (c : Str → Str → H → (Int → H → Prop) → Prop) : Fun := fun xs h k => arg xs fun a0 xs => arg xs fun a1 xs => noArg xs <| asS a0 fun a0 => asS a1 fun a1 => c a0 a1 h fun r0 h => k (.int .i64 r0) h
theorem s141_eq (J : Joins) (c190 : Str → H → (Bool → H → Prop) → Prop) (a0 : Str) (a1 : Str) (h : H) (k : AV → H → Prop) : denF ty (gam J [(190, w190 c190)]) Tryz.f141 [(.str a0), (.str a1)] h k = s141G J c190 a0 a1 h (fun r0 h => k (.int .i64 r0) h) := by kernel_rfl
noncomputable def g141 : Fun := w141 s141
theorem g141_ok : FunOk Tryz.prog 141 g141 := (fun_ok ty_ok mixed (gam_ok (J := J0) (tab_cons g190_ok (tab_nil fls_fun))) Tryz.func141 (fun args w => by simp)).imp fun xs h k e0 => by
  obtain ⟨a0, xs0, rfl, e1⟩ := arg_imp e0
  obtain ⟨a1, xs1, rfl, e2⟩ := arg_imp e1
  obtain ⟨rfl, e3⟩ := noArg_imp e2
  obtain ⟨a0, rfl, e4⟩ := asS_iff.1 e3
  obtain ⟨a1, rfl, e5⟩ := asS_iff.1 e4
  exact (s141_eq J0 s190 a0 a1 h k).mpr e5
/-- cmp.isNaN[int] -/
noncomputable def s191G (J : Joins) (a0 : Int) (h : H) (k : Bool → H → Prop) : Prop :=
fB (Bool.not (eqI a0 a0)) fun b1 =>
k b1 h
noncomputable def s191 : Int → H → (Bool → H → Prop) → Prop := s191G J0 
noncomputable def w191 (c : Int → H → (Bool → H → Prop) → Prop) : Fun := fun xs h k => arg xs fun a0 xs => noArg xs <| asI .i64 a0 fun a0 => c a0 h fun r0 h => k (.bool r0) h
theorem s191_eq (J : Joins) (a0 : Int) (h : H) (k : AV → H → Prop) : denF ty (gam J []) Tryz.f191 [(.int .i64 a0)] h k = s191G J  a0 h (fun r0 h => k (.bool r0) h) := by kernel_rfl
noncomputable def g191 : Fun := w191 s191
theorem g191_ok : FunOk Tryz.prog 191 g191 := (fun_ok ty_ok mixed (gam_ok (J := J0) (tab_nil fls_fun)) Tryz.func191 (fun args w => by simp)).imp fun xs h k e0 => by
  obtain ⟨a0, xs0, rfl, e1⟩ := arg_imp e0
  obtain ⟨rfl, e2⟩ := noArg_imp e1
  obtain ⟨a0, rfl, e3⟩ := asI_iff.1 e2
  exact (s191_eq J0  a0 h k).mpr e3
/-- cmp.Compare[int] -/
noncomputable def s142G (J : Joins) (c191 : Int → H → (Bool → H → Prop) → Prop) (a0 : Int) (a1 : Int) (h : H) (k : Int → H → Prop) : Prop :=
c191 a0 h fun b2 h1 =>
c191 a1 h1 fun b4 h3 =>
br b2 (
br b4 (
k (Int.ofNat 0) h3) (
k (Int.negSucc 0) h3)) (
br b4 (
k (Int.ofNat 1) h3) (
fB (ltI a0 a1) fun b5 =>
br b5 (
k (Int.negSucc 0) h3) (
fB (ltI a1 a0) fun b6 =>
br b6 (
k (Int.ofNat 1) h3) (
k (Int.ofNat 0) h3))))
noncomputable def s142 : Int → Int → H → (Int → H → Prop) → Prop := s142G J0 s191
noncomputable def w142 (c : Int → Int → H → (Int → H → Prop) → Prop) : Fun := fun xs h k => arg xs fun a0 xs => arg xs fun a1 xs => noArg xs <| asI .i64 a0 fun a0 => asI .i64 a1 fun a1 => c a0 a1 h fun r0 h => k (.int .i64 r0) h
theorem s142_eq (J : Joins) (c191 : Int → H → (Bool → H → Prop) → Prop) (a0 : Int) (a1 : Int) (h : H) (k : AV → H → Prop) : denF ty (gam J [(191, w191 c191)]) Tryz.f142 [(.int .i64 a0), (.int .i64 a1)] h k = s142G J c191 a0 a1 h (fun r0 h => k (.int .i64 r0) h) := by kernel_rfl
noncomputable def g142 : Fun := w142 s142
theorem g142_ok : FunOk Tryz.prog 142 g142 := (fun_ok ty_ok mixed (gam_ok (J := J0) (tab_cons g191_ok (tab_nil fls_fun))) Tryz.func142 (fun args w => by simp)).imp fun xs h k e0 => by
  obtain ⟨a0, xs0, rfl, e1⟩ := arg_imp e0
  obtain ⟨a1, xs1, rfl, e2⟩ := arg_imp e1
  obtain ⟨rfl, e3⟩ := noArg_imp e2
  obtain ⟨a0, rfl, e4⟩ := asI_iff.1 e3
  obtain ⟨a1, rfl, e5⟩ := asI_iff.1 e4
  exact (s142_eq J0 s191 a0 a1 h k).mpr e5
/-- stagepost/mem.Ahead -/
noncomputable def g86 : Fun := denFS ty (gam J0 [(140, g140), (141, g141), (142, g142)]) Tryz.f86
theorem g86_ok : FunOk Tryz.prog 86 g86 := fun_okS ty_ok mixed (gam_ok (J := J0) (tab_cons g140_ok (tab_cons g141_ok (tab_cons g142_ok (tab_nil fls_fun))))) Tryz.func86 (fun args w => by simp)
/-- (*stagepost/mem.Table).find -/
noncomputable def s79G (J : Joins) (c86 : Fun) (a0 : AV) (a1 : AV) (h : H) (k : AV → Int → H → Prop) : Prop :=
Go.Am.asAgg a1 fun l3 =>
pushK (.cells false 79 l3) h fun n1 h2 =>
pushK (.cells false 154 [(.nilp), (.nilp), (.nilp), (.nilp), (.nilp), (.nilp), (.nilp), (.nilp), (.nilp), (.nilp), (.nilp), (.nilp)]) h2 fun n4 h5 =>
okNil a0 (
faK 0 a0 fun p6 =>
J.lp (α := AV × AV × AV × AV × AV × Unit) (fun r10 v7 d8 h9 =>
asI .i64 v7.2.2.2.2.1 fun x11 =>
fB (Bool.not (ltI x11 (Int.ofNat 0))) fun b12 =>
br b12 (
J.jd (α := AV × AV × AV × AV × AV × Unit) (fun v13 d14 h15 =>
ixaK 12 1 v13.2.1 v13.2.2.2.2.1 fun p17 =>
stV p17 v13.2.2.2.1 h15 fun h18 =>
asI .i64 v13.2.2.2.2.1 fun x19 =>
fI (wrapF .i64 (Int.sub x19 (Int.ofNat 1))) fun x20 =>
r10 (v13.1, v13.2.1, v13.2.2.1, v13.2.2.2.1, (AV.int .i64 x20), ()) d14 h18) fun j16 =>
okNil v7.2.2.2.1 (
faK 5 v7.2.2.2.1 fun p21 =>
ixaK 12 1 p21 v7.2.2.2.2.1 fun p22 =>
ldV p22 h9 fun v23 =>
J.lp (α := AV × AV × AV × AV × AV × AV × Unit) (fun r27 v24 d25 h26 =>
nilB 0 v24.2.2.2.2.2.1 fun b28 =>
fB (Bool.not b28) fun b29 =>
br b29 (
asI .i64 v24.2.2.1 fun x30 =>
fI (wrapF .i64 (Int.add x30 (Int.ofNat 1))) fun x31 =>
okNil v24.2.2.2.2.2.1 (
faK 0 v24.2.2.2.2.2.1 fun p32 =>
ldN 4 p32 h26 fun l33 =>
ldN 4 v24.1 h26 fun l34 =>
c86 [(AV.agg l33), (AV.agg l34)] h26 fun v35 h36 =>
asB v35 fun b37 =>
fB (Bool.not b37) fun b38 =>
br b38 (
j16 (v24.1, v24.2.1, (AV.int .i64 x31), v24.2.2.2.1, v24.2.2.2.2.1, ()) d25 h36) (
okNil v24.2.2.2.2.2.1 (
faK 5 v24.2.2.2.2.2.1 fun p39 =>
ixaK 12 1 p39 v24.2.2.2.2.1 fun p40 =>
ldV p40 h36 fun v41 =>
r27 (v24.1, v24.2.1, (AV.int .i64 x31), v24.2.2.2.2.2.1, v24.2.2.2.2.1, v41, ()) d25 h36)))) (
j16 (v24.1, v24.2.1, v24.2.2.1, v24.2.2.2.1, v24.2.2.2.2.1, ()) d25 h26)) (v7.1, v7.2.1, v7.2.2.1, v7.2.2.2.1, v7.2.2.2.2.1, v23, ()) d8 h9)) (
ldN 12 v7.2.1 h9 fun l42 =>
stN 12 v7.2.1 l42 h9 fun h43 =>
leaveK (gam J [(86, c86)]) d8 h43 fun h44 =>
ldN 12 v7.2.1 h44 fun l45 =>
asI .i64 v7.2.2.1 fun x46 =>
k (AV.agg l45) x46 h44)) ((AV.ptr n1 0), (AV.ptr n4 0), (AV.int .i64 (Int.ofNat 0)), p6, (AV.int .i64 (Int.ofNat 11)), ()) [] h5)
noncomputable def s79 : AV → AV → H → (AV → Int → H → Prop) → Prop := s79G J0 g86
noncomputable def w79 (c : AV → AV → H → (AV → Int → H → Prop) → Prop) : Fun := fun xs h k => arg xs fun a0 xs => arg xs fun a1 xs => noArg xs <| c a0 a1 h fun r0 r1 h => k (.tuple [r0, (.int .i64 r1)]) h
theorem s79_eq (J : Joins) (c86 : Fun) (a0 : AV) (a1 : AV) (h : H) (k : AV → H → Prop) : denF ty (gam J [(86, c86)]) Tryz.f79 [a0, a1] h k = s79G J c86 a0 a1 h (fun r0 r1 h => k (.tuple [r0, (.int .i64 r1)]) h) := by kernel_rfl
noncomputable def g79 : Fun := w79 s79
theorem g79_ok : FunOk Tryz.prog 79 g79 := (fun_ok ty_ok mixed (gam_ok (J := J0) (tab_cons g86_ok (tab_nil fls_fun))) Tryz.func79 (fun args w => by simp)).imp fun xs h k e0 => by
  obtain ⟨a0, xs0, rfl, e1⟩ := arg_imp e0
  obtain ⟨a1, xs1, rfl, e2⟩ := arg_imp e1
  obtain ⟨rfl, e3⟩ := noArg_imp e2
  exact (s79_eq J0 g86 a0 a1 h k).mpr e3
/-- (*stagepost/mem.Table).Get -/
noncomputable def g28 : Fun := denFS ty (gam J0 [(78, g78), (79, g79)]) Tryz.f28
theorem g28_ok : FunOk Tryz.prog 28 g28 := fun_okS ty_ok mixed (gam_ok (J := J0) (tab_cons g78_ok (tab_cons g79_ok (tab_nil fls_fun)))) Tryz.func28 (fun args w => by simp)
/-- (*stagepost/manifest.Manifest).none -/
noncomputable def g80 : Fun := denFS ty (gam J0 []) Tryz.f80
theorem g80_ok : FunOk Tryz.prog 80 g80 := fun_okS ty_ok mixed (gam_ok (J := J0) (tab_nil fls_fun)) Tryz.func80 (fun args w => by simp)
/-- slices.Clone[[]stagepost/api.Meta,stagepost/api.Meta] -/
noncomputable def g81 : Fun := denFS ty (gam J0 []) Tryz.f81
theorem g81_ok : FunOk Tryz.prog 81 g81 := fun_okS ty_ok mixed (gam_ok (J := J0) (tab_nil fls_fun)) Tryz.func81 (fun args w => by simp)
/-- (*stagepost/manifest.Manifest).Version -/
noncomputable def g29 : Fun := denFS ty (gam J0 [(80, g80), (81, g81)]) Tryz.f29
theorem g29_ok : FunOk Tryz.prog 29 g29 := fun_okS ty_ok mixed (gam_ok (J := J0) (tab_cons g80_ok (tab_cons g81_ok (tab_nil fls_fun)))) Tryz.func29 (fun args w => by simp)
/-- (*stagepost/sst.Table).none -/
noncomputable def g82 : Fun := denFS ty (gam J0 []) Tryz.f82
theorem g82_ok : FunOk Tryz.prog 82 g82 := fun_okS ty_ok mixed (gam_ok (J := J0) (tab_nil fls_fun)) Tryz.func82 (fun args w => by simp)
/-- stagepost/bloom.Check -/
noncomputable def g137 : Fun := denFS ty (gam J0 []) Tryz.f137
theorem g137_ok : FunOk Tryz.prog 137 g137 := fun_okS ty_ok mixed (gam_ok (J := J0) (tab_nil fls_fun)) Tryz.func137 (fun args w => by simp)
/-- stagepost/bloom.Hash -/
noncomputable def s138G (J : Joins) (a0 : Str) (h : H) (k : Int → H → Prop) : Prop :=
J.lp (α := AV × AV × AV × AV × Unit) (fun r4 v1 d2 h3 =>
asI .i64 v1.2.2.2.1 fun x5 =>
asI .i64 v1.2.2.1 fun x6 =>
fB (ltI x5 x6) fun b7 =>
br b7 (
ixsK v1.1 v1.2.2.2.1 fun x8 =>
fI (wrapF .u64 x8) fun x9 =>
asI .u64 v1.2.1 fun x10 =>
fI (lxorF .u64 x10 x9) fun x11 =>
fI (wrapF .u64 (Int.mul x11 (Int.ofNat 1099511628211))) fun x12 =>
asI .i64 v1.2.2.2.1 fun x13 =>
fI (wrapF .i64 (Int.add x13 (Int.ofNat 1))) fun x14 =>
r4 (v1.1, (AV.int .u64 x12), v1.2.2.1, (AV.int .i64 x14), ()) d2 h3) (
leaveK (gam J []) d2 h3 fun h15 =>
asI .u64 v1.2.1 fun x16 =>
k x16 h15)) ((AV.str a0), (AV.int .u64 (Int.ofNat 14695981039346656037)), (AV.int .i64 (Int.ofNat a0.len)), (AV.int .i64 (Int.ofNat 0)), ()) [] h
noncomputable def s138 : Str → H → (Int → H → Prop) → Prop := s138G J0 
noncomputable def w138 (c : Str → H → (Int → H → Prop) → Prop) : Fun := fun xs h k => arg xs fun a0 xs => noArg xs <| asS a0 fun a0 => c a0 h fun r0 h => k (.int .u64 r0) h
theorem s138_eq (J : Joins) (a0 : Str) (h : H) (k : AV → H → Prop) : denF ty (gam J []) Tryz.f138 [(.str a0)] h k = s138G J  a0 h (fun r0 h => k (.int .u64 r0) h) := by kernel_rfl
noncomputable def g138 : Fun := w138 s138
theorem g138_ok : FunOk Tryz.prog 138 g138 := (fun_ok ty_ok mixed (gam_ok (J := J0) (tab_nil fls_fun)) Tryz.func138 (fun args w => by simp)).imp fun xs h k e0 => by
  obtain ⟨a0, xs0, rfl, e1⟩ := arg_imp e0
  obtain ⟨rfl, e2⟩ := noArg_imp e1
  obtain ⟨a0, rfl, e3⟩ := asS_iff.1 e2
  exact (s138_eq J0  a0 h k).mpr e3
/-- stagepost/bloom.bit -/
noncomputable def s139G (J : Joins) (a0 : Int) (a1 : Int) (a2 : Int) (h : H) (k : Int → H → Prop) : Prop :=
fI (landF .u64 a0 (Int.ofNat 4294967295)) fun x1 =>
fI (shrF a0 (nmin 32 (IntKind.bits .u64))) fun x2 =>
fI (lorF .u64 x2 (Int.ofNat 1)) fun x3 =>
fI (wrapF .u64 a1) fun x4 =>
fI (wrapF .u64 (Int.mul x4 x3)) fun x5 =>
fI (wrapF .u64 (Int.add x1 x5)) fun x6 =>
fI (wrapF .u64 a2) fun x7 =>
ck (Bool.not (eqI x7 0)) (fI (Int.tmod x6 x7) fun x8 =>
fI (wrapF .i64 x8) fun x9 =>
k x9 h)
noncomputable def s139 : Int → Int → Int → H → (Int → H → Prop) → Prop := s139G J0 
noncomputable def w139 (c : Int → Int → Int → H → (Int → H → Prop) → Prop) : Fun := fun xs h k => arg xs fun a0 xs => arg xs fun a1 xs => arg xs fun a2 xs => noArg xs <| asI .u64 a0 fun a0 => asI .i64 a1 fun a1 => asI .i64 a2 fun a2 => c a0 a1 a2 h fun r0 h => k (.int .i64 r0) h
theorem s139_eq (J : Joins) (a0 : Int) (a1 : Int) (a2 : Int) (h : H) (k : AV → H → Prop) : denF ty (gam J []) Tryz.f139 [(.int .u64 a0), (.int .i64 a1), (.int .i64 a2)] h k = s139G J  a0 a1 a2 h (fun r0 h => k (.int .i64 r0) h) := by kernel_rfl
noncomputable def g139 : Fun := w139 s139
theorem g139_ok : FunOk Tryz.prog 139 g139 := (fun_ok ty_ok mixed (gam_ok (J := J0) (tab_nil fls_fun)) Tryz.func139 (fun args w => by simp)).imp fun xs h k e0 => by
  obtain ⟨a0, xs0, rfl, e1⟩ := arg_imp e0
  obtain ⟨a1, xs1, rfl, e2⟩ := arg_imp e1
  obtain ⟨a2, xs2, rfl, e3⟩ := arg_imp e2
  obtain ⟨rfl, e4⟩ := noArg_imp e3
  obtain ⟨a0, rfl, e5⟩ := asI_iff.1 e4
  obtain ⟨a1, rfl, e6⟩ := asI_iff.1 e5
  obtain ⟨a2, rfl, e7⟩ := asI_iff.1 e6
  exact (s139_eq J0  a0 a1 a2 h k).mpr e7
/-- stagepost/bloom.Has -/
noncomputable def g83 : Fun := denFS ty (gam J0 [(137, g137), (138, g138), (139, g139)]) Tryz.f83
theorem g83_ok : FunOk Tryz.prog 83 g83 := fun_okS ty_ok mixed (gam_ok (J := J0) (tab_cons g137_ok (tab_cons g138_ok (tab_cons g139_ok (tab_nil fls_fun))))) Tryz.func83 (fun args w => by simp)
/-- (*stagepost/sst.Table).Get$1 -/
noncomputable def g85 : Fun := denFS ty (gam J0 [(86, g86)]) Tryz.f85
theorem g85_ok : FunOk Tryz.prog 85 g85 := fun_okS ty_ok mixed (gam_ok (J := J0) (tab_cons g86_ok (tab_nil fls_fun))) Tryz.func85 (fun args w => by simp)
/-- stagepost/enc.Read -/
noncomputable def s226G (J : Joins) (a0 : AV) (h : H) (k : Int → Int → Int → H → Prop) : Prop :=
J.jd (α := Unit) (fun v1 d2 h3 =>
leaveK (gam J []) d2 h3 fun h5 =>
k (Int.ofNat 0) (Int.ofNat 0) (Int.ofNat 5) h5) fun j4 =>
J.lp (α := AV × AV × AV × Unit) (fun r9 v6 d7 h8 =>
lenK v6.1 fun x10 =>
asI .i64 v6.2.2.1 fun x11 =>
fB (ltI x11 (Int.ofNat x10)) fun b12 =>
J.jn (fun v13 h14 =>
J.jn (fun v16 h17 =>
pickB (AV.bool b12) v16 (AV.bool false) fun b21 =>
br b21 (
ixK 1 v6.1 v6.2.2.1 fun p22 =>
ldI .u8 p22 h17 fun x23 =>
asI .i64 v6.2.2.1 fun x24 =>
fB (eqI x24 (Int.ofNat 9)) fun b25 =>
J.jn (fun v26 h27 =>
J.jn (fun v29 h30 =>
pickB (AV.bool b25) v29 (AV.bool false) fun b34 =>
J.jn (fun v35 h36 =>
J.jn (fun v38 h39 =>
J.jn (fun v43 h44 =>
J.jn (fun v46 h47 =>
J.jn (fun v49 h50 =>
J.jn (fun v54 h55 =>
pickB (AV.bool b34) (AV.bool true) v54 fun b58 =>
br b58 (
j4 (()) d7 h55) (
fI (landnF .u8 x23 (Int.ofNat 128)) fun x59 =>
fI (wrapF .u64 x59) fun x60 =>
asI .i64 v6.2.2.1 fun x61 =>
fI (wrapF .i64 (Int.mul (Int.ofNat 7) x61)) fun x62 =>
asNat (AV.int .i64 x62) fun n63 =>
fI (shlF .u64 x60 n63) fun x64 =>
asI .u64 v6.2.1 fun x65 =>
fI (lorF .u64 x65 x64) fun x66 =>
asI .i64 v6.2.2.1 fun x67 =>
fI (wrapF .i64 (Int.add x67 (Int.ofNat 1))) fun x68 =>
fB (ltI x23 (Int.ofNat 128)) fun b69 =>
br b69 (
leaveK (gam J []) d7 h55 fun h70 =>
k x66 x68 (Int.ofNat 0) h70) (
r9 (v6.1, (AV.int .u64 x66), (AV.int .i64 x68), ()) d7 h55))) fun j56 =>
br b34 (
j56 skipV h50) (
pickB v43 v49 (AV.bool false) fun b57 =>
j56 (AV.bool b57) h50)) fun j51 =>
asBU v43 (fun b71 =>
br b71 (
asI .u8 v46 fun x52 =>
fB (eqI x52 (Int.ofNat 0)) fun b53 =>
j51 (AV.bool b53) h47) (
j51 skipV h47)) (
j51 skipV h47)) fun j48 =>
asBU v43 (fun b72 =>
br b72 (
j48 (AV.int .u8 x23) h44) (
j48 skipV h44)) (
j48 skipV h44)) fun j45 =>
br b34 (
j45 skipV h39) (
j45 v38 h39)) fun j40 =>
br b34 (
j40 skipV h36) (
asI .i64 v35 fun x41 =>
fB (ltI (Int.ofNat 0) x41) fun b42 =>
j40 (AV.bool b42) h36)) fun j37 =>
br b34 (
j37 skipV h30) (
j37 v6.2.2.1 h30)) fun j31 =>
br b25 (
asI .u8 v26 fun x32 =>
fB (ltI (Int.ofNat 1) x32) fun b33 =>
j31 (AV.bool b33) h27) (
j31 skipV h27)) fun j28 =>
br b25 (
j28 (AV.int .u8 x23) h17) (
j28 skipV h17)) (
j4 (()) d7 h17)) fun j18 =>
br b12 (
asI .i64 v13 fun x19 =>
fB (ltI x19 (Int.ofNat 10)) fun b20 =>
j18 (AV.bool b20) h14) (
j18 skipV h14)) fun j15 =>
br b12 (
j15 v6.2.2.1 h8) (
j15 skipV h8)) (a0, (AV.int .u64 (Int.ofNat 0)), (AV.int .i64 (Int.ofNat 0)), ()) [] h
noncomputable def s226 : AV → H → (Int → Int → Int → H → Prop) → Prop := s226G J0 
noncomputable def w226 (c : AV → H → (Int → Int → Int → H → Prop) → Prop) : Fun := fun xs h k => arg xs fun a0 xs => noArg xs <| c a0 h fun r0 r1 r2 h => k (.tuple [(.int .u64 r0), (.int .i64 r1), (.int .i64 r2)]) h
theorem s226_eq (J : Joins) (a0 : AV) (h : H) (k : AV → H → Prop) : denF ty (gam J []) Tryz.f226 [a0] h k = s226G J  a0 h (fun r0 r1 r2 h => k (.tuple [(.int .u64 r0), (.int .i64 r1), (.int .i64 r2)]) h) := by kernel_rfl
noncomputable def g226 : Fun := w226 s226
theorem g226_ok : FunOk Tryz.prog 226 g226 := (fun_ok ty_ok mixed (gam_ok (J := J0) (tab_nil fls_fun)) Tryz.func226 (fun args w => by simp)).imp fun xs h k e0 => by
  obtain ⟨a0, xs0, rfl, e1⟩ := arg_imp e0
  obtain ⟨rfl, e2⟩ := noArg_imp e1
  exact (s226_eq J0  a0 h k).mpr e2
/-- stagepost/enc.Small -/
noncomputable def g193 : Fun := denFS ty (gam J0 [(226, g226)]) Tryz.f193
theorem g193_ok : FunOk Tryz.prog 193 g193 := fun_okS ty_ok mixed (gam_ok (J := J0) (tab_cons g226_ok (tab_nil fls_fun))) Tryz.func193 (fun args w => by simp)
/-- stagepost/block.Decode$1 -/
noncomputable def g192 : Fun := denFS ty (gam J0 [(193, g193)]) Tryz.f192
theorem g192_ok : FunOk Tryz.prog 192 g192 := fun_okS ty_ok mixed (gam_ok (J := J0) (tab_cons g193_ok (tab_nil fls_fun))) Tryz.func192 (fun args w => by simp)
end Go.Proofs.YtfbdniomnnpemaaGreatDoor
