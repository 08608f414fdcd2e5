/- Functions as they are reckoned. MADE BY PROGRAM (wip/tools/shal.py). -/
import Derived.Test.YtlbigopkplckaaaAmTys
namespace Go.Proofs.Ytlbigopkplckaaa
open Go Go.Am
set_option maxRecDepth 100000
set_option linter.all false
/-- stagepost/mvcc.user -/
noncomputable def s35G (J : Joins) (a0 : Str) (h : H) (k : Bool → H → Prop) : Prop :=
fB (Bool.not (ltI (Int.ofNat a0.len) (Int.ofNat 1))) fun b1 =>
J.jn (fun v2 h3 =>
J.jn (fun v5 h6 =>
J.jn (fun v9 h10 =>
pickB (AV.bool b1) v9 (AV.bool false) fun b14 =>
k b14 h10) fun j11 =>
br b1 (
asI .i64 v5 fun x12 =>
fB (Bool.not (ltI (Int.ofNat 128) x12)) fun b13 =>
j11 (AV.bool b13) h6) (
j11 skipV h6)) fun j7 =>
br b1 (
asS v2 fun s8 =>
j7 (AV.int .i64 (Int.ofNat s8.len)) h3) (
j7 skipV h3)) fun j4 =>
br b1 (
j4 (AV.str a0) h) (
j4 skipV h)
noncomputable def s35 : Str → H → (Bool → H → Prop) → Prop := s35G J0 
noncomputable def w35 (c : Str → H → (Bool → H → Prop) → Prop) : Fun := fun xs h k => arg xs fun a0 xs => noArg xs <| asS a0 fun a0 => c a0 h fun r0 h => k (.bool r0) h
theorem s35_eq (J : Joins) (a0 : Str) (h : H) (k : AV → H → Prop) : denF ty (gam J []) Try.f35 [(.str a0)] h k = s35G J  a0 h (fun r0 h => k (.bool r0) h) := by kernel_rfl
noncomputable def g35 : Fun := w35 s35
theorem g35_ok : FunOk Try.prog 35 g35 := (fun_ok ty_ok mixed (gam_ok (J := J0) (tab_nil fls_fun)) Try.func35 (fun args w => by simp)).imp fun xs h k e0 => by
  obtain ⟨a0, xs0, rfl, e1⟩ := arg_imp e0
  obtain ⟨rfl, e2⟩ := noArg_imp e1
  obtain ⟨a0, rfl, e3⟩ := asS_iff.1 e2
  exact (s35_eq J0  a0 h k).mpr e3
/-- stagepost/mvcc.held -/
noncomputable def s36G (J : Joins) (a0 : Str) (a1 : Bool) (h : H) (k : Bool → H → Prop) : Prop :=
fB (Bool.not (ltI (Int.ofNat 2048) (Int.ofNat a0.len))) fun b1 =>
J.jn (fun v2 h3 =>
J.jn (fun v5 h6 =>
J.jn (fun v10 h11 =>
J.jn (fun v13 h14 =>
J.jn (fun v16 h17 =>
J.jn (fun v21 h22 =>
pickB (AV.bool b1) v21 (AV.bool false) fun b25 =>
k b25 h22) fun j23 =>
br b1 (
pickB v10 (AV.bool true) v16 fun b24 =>
j23 (AV.bool b24) h17) (
j23 skipV h17)) fun j18 =>
asBU v10 (fun b26 =>
br b26 (
j18 skipV h14) (
asS v13 fun s19 =>
fB (Str.beq s19 (⟨0, 0⟩ : Str)) fun b20 =>
j18 (AV.bool b20) h14)) (
j18 skipV h14)) fun j15 =>
asBU v10 (fun b27 =>
br b27 (
j15 skipV h11) (
j15 (AV.str a0) h11)) (
j15 skipV h11)) fun j12 =>
br b1 (
j12 v5 h6) (
j12 skipV h6)) fun j7 =>
br b1 (
asB v2 fun b8 =>
fB (Bool.not b8) fun b9 =>
j7 (AV.bool b9) h3) (
j7 skipV h3)) fun j4 =>
br b1 (
j4 (AV.bool a1) h) (
j4 skipV h)
noncomputable def s36 : Str → Bool → H → (Bool → H → Prop) → Prop := s36G J0 
noncomputable def w36 (c : Str → Bool → H → (Bool → H → Prop) → Prop) : Fun := fun xs h k => arg xs fun a0 xs => arg xs fun a1 xs => noArg xs <| asS a0 fun a0 => asB a1 fun a1 => c a0 a1 h fun r0 h => k (.bool r0) h
theorem s36_eq (J : Joins) (a0 : Str) (a1 : Bool) (h : H) (k : AV → H → Prop) : denF ty (gam J []) Try.f36 [(.str a0), (.bool a1)] h k = s36G J  a0 a1 h (fun r0 h => k (.bool r0) h) := by kernel_rfl
noncomputable def g36 : Fun := w36 s36
theorem g36_ok : FunOk Try.prog 36 g36 := (fun_ok ty_ok mixed (gam_ok (J := J0) (tab_nil fls_fun)) Try.func36 (fun args w => by simp)).imp fun xs h k e0 => by
  obtain ⟨a0, xs0, rfl, e1⟩ := arg_imp e0
  obtain ⟨a1, xs1, rfl, e2⟩ := arg_imp e1
  obtain ⟨rfl, e3⟩ := noArg_imp e2
  obtain ⟨a0, rfl, e4⟩ := asS_iff.1 e3
  obtain ⟨a1, rfl, e5⟩ := asB_iff.1 e4
  exact (s36_eq J0  a0 a1 h k).mpr e5
/-- stagepost/hlc.Check -/
noncomputable def s37G (J : Joins) (a0 : AV) (h : H) (k : Int → H → Prop) : Prop :=
Go.Am.asAgg a0 fun l3 =>
pushK (.cells false 28 l3) h fun n1 h2 =>
ldI .i64 (AV.ptr n1 0) h2 fun x4 =>
fB (ltI x4 (Int.ofNat 0)) fun b5 =>
J.jn (fun v6 h7 =>
J.jn (fun v9 h10 =>
J.jn (fun v13 h14 =>
pickB (AV.bool b5) (AV.bool true) v13 fun b18 =>
J.jn (fun v19 h20 =>
J.jn (fun v22 h23 =>
J.jn (fun v26 h27 =>
pickB (AV.bool b18) (AV.bool true) v26 fun b31 =>
J.jn (fun v32 h33 =>
J.jn (fun v35 h36 =>
J.jn (fun v39 h40 =>
pickB (AV.bool b31) (AV.bool true) v39 fun b44 =>
J.jn (fun v45 h46 =>
J.jn (fun v48 h49 =>
J.jn (fun v52 h53 =>
pickB (AV.bool b44) (AV.bool true) v52 fun b57 =>
J.jn (fun v58 h59 =>
J.jn (fun v61 h62 =>
J.jn (fun v65 h66 =>
pickB (AV.bool b57) (AV.bool true) v65 fun b70 =>
br b70 (
k (Int.ofNat 2) h66) (
k (Int.ofNat 0) h66)) fun j67 =>
br b57 (
j67 skipV h62) (
asI .i32 v61 fun x68 =>
fB (ltI (Int.ofNat 1048576) x68) fun b69 =>
j67 (AV.bool b69) h62)) fun j63 =>
br b57 (
j63 skipV h59) (
ldI .i32 v58 h59 fun x64 =>
j63 (AV.int .i32 x64) h59)) fun j60 =>
br b57 (
j60 skipV h53) (
j60 (AV.ptr n1 2) h53)) fun j54 =>
br b44 (
j54 skipV h49) (
asI .i32 v48 fun x55 =>
fB (ltI x55 (Int.ofNat 0)) fun b56 =>
j54 (AV.bool b56) h49)) fun j50 =>
br b44 (
j50 skipV h46) (
ldI .i32 v45 h46 fun x51 =>
j50 (AV.int .i32 x51) h46)) fun j47 =>
br b44 (
j47 skipV h40) (
j47 (AV.ptr n1 2) h40)) fun j41 =>
br b31 (
j41 skipV h36) (
asI .i32 v35 fun x42 =>
fB (ltI (Int.ofNat 1048576) x42) fun b43 =>
j41 (AV.bool b43) h36)) fun j37 =>
br b31 (
j37 skipV h33) (
ldI .i32 v32 h33 fun x38 =>
j37 (AV.int .i32 x38) h33)) fun j34 =>
br b31 (
j34 skipV h27) (
j34 (AV.ptr n1 1) h27)) fun j28 =>
br b18 (
j28 skipV h23) (
asI .i32 v22 fun x29 =>
fB (ltI x29 (Int.ofNat 0)) fun b30 =>
j28 (AV.bool b30) h23)) fun j24 =>
br b18 (
j24 skipV h20) (
ldI .i32 v19 h20 fun x25 =>
j24 (AV.int .i32 x25) h20)) fun j21 =>
br b18 (
j21 skipV h14) (
j21 (AV.ptr n1 1) h14)) fun j15 =>
br b5 (
j15 skipV h10) (
asI .i64 v9 fun x16 =>
fB (ltI (Int.ofNat 1099511627776) x16) fun b17 =>
j15 (AV.bool b17) h10)) fun j11 =>
br b5 (
j11 skipV h7) (
ldI .i64 v6 h7 fun x12 =>
j11 (AV.int .i64 x12) h7)) fun j8 =>
br b5 (
j8 skipV h2) (
j8 (AV.ptr n1 0) h2)
noncomputable def s37 : AV → H → (Int → H → Prop) → Prop := s37G J0 
noncomputable def w37 (c : AV → H → (Int → H → Prop) → Prop) : Fun := fun xs h k => arg xs fun a0 xs => noArg xs <| c a0 h fun r0 h => k (.int .i64 r0) h
theorem s37_eq (J : Joins) (a0 : AV) (h : H) (k : AV → H → Prop) : denF ty (gam J []) Try.f37 [a0] h k = s37G J  a0 h (fun r0 h => k (.int .i64 r0) h) := by kernel_rfl
noncomputable def g37 : Fun := w37 s37
theorem g37_ok : FunOk Try.prog 37 g37 := (fun_ok ty_ok mixed (gam_ok (J := J0) (tab_nil fls_fun)) Try.func37 (fun args w => by simp)).imp fun xs h k e0 => by
  obtain ⟨a0, xs0, rfl, e1⟩ := arg_imp e0
  obtain ⟨rfl, e2⟩ := noArg_imp e1
  exact (s37_eq J0  a0 h k).mpr e2
/-- stagepost/mvcc.CheckCell -/
noncomputable def s11G (J : Joins) (c35 : Str → H → (Bool → H → Prop) → Prop) (c36 : Str → Bool → H → (Bool → H → Prop) → Prop) (c37 : AV → H → (Int → H → Prop) → Prop) (a0 : AV) (h : H) (k : Int → H → Prop) : Prop :=
Go.Am.asAgg a0 fun l3 =>
pushK (.cells false 31 l3) h fun n1 h2 =>
ldS (AV.ptr n1 0) h2 fun s4 =>
c35 s4 h2 fun b6 h5 =>
fB (Bool.not b6) fun b7 =>
J.jn (fun v8 h9 =>
J.jn (fun v11 h12 =>
J.jn (fun v15 h16 =>
J.jn (fun v18 h19 =>
J.jn (fun v22 h23 =>
J.jn (fun v29 h30 =>
pickB (AV.bool b7) (AV.bool true) v29 fun b34 =>
J.jn (fun v35 h36 =>
J.jn (fun v38 h39 =>
J.jn (fun v42 h43 =>
J.jn (fun v47 h48 =>
pickB (AV.bool b34) (AV.bool true) v47 fun b52 =>
br b52 (
k (Int.ofNat 2) h48) (
k (Int.ofNat 0) h48)) fun j49 =>
br b34 (
j49 skipV h43) (
asI .i64 v42 fun x50 =>
fB (Bool.not (eqI x50 (Int.ofNat 0))) fun b51 =>
j49 (AV.bool b51) h43)) fun j44 =>
br b34 (
j44 skipV h39) (
c37 v38 h39 fun x46 h45 =>
j44 (AV.int .i64 x46) h45)) fun j40 =>
br b34 (
j40 skipV h36) (
ldN 3 v35 h36 fun l41 =>
j40 (AV.agg l41) h36)) fun j37 =>
br b34 (
j37 skipV h30) (
j37 (AV.ptr n1 1) h30)) fun j31 =>
br b7 (
j31 skipV h23) (
asB v22 fun b32 =>
fB (Bool.not b32) fun b33 =>
j31 (AV.bool b33) h23)) fun j24 =>
br b7 (
j24 skipV h19) (
asS v11 fun s26 =>
asB v18 fun b27 =>
c36 s26 b27 h19 fun b28 h25 =>
j24 (AV.bool b28) h25)) fun j20 =>
br b7 (
j20 skipV h16) (
ldB v15 h16 fun b21 =>
j20 (AV.bool b21) h16)) fun j17 =>
br b7 (
j17 skipV h12) (
j17 (AV.ptr n1 5) h12)) fun j13 =>
br b7 (
j13 skipV h9) (
ldS v8 h9 fun s14 =>
j13 (AV.str s14) h9)) fun j10 =>
br b7 (
j10 skipV h5) (
j10 (AV.ptr n1 4) h5)
noncomputable def s11 : AV → H → (Int → H → Prop) → Prop := s11G J0 s35 s36 s37
noncomputable def w11 (c : AV → H → (Int → H → Prop) → Prop) : Fun := fun xs h k => arg xs fun a0 xs => noArg xs <| c a0 h fun r0 h => k (.int .i64 r0) h
theorem s11_eq (J : Joins) (c35 : Str → H → (Bool → H → Prop) → Prop) (c36 : Str → Bool → H → (Bool → H → Prop) → Prop) (c37 : AV → H → (Int → H → Prop) → Prop) (a0 : AV) (h : H) (k : AV → H → Prop) : denF ty (gam J [(35, w35 c35), (36, w36 c36), (37, w37 c37)]) Try.f11 [a0] h k = s11G J c35 c36 c37 a0 h (fun r0 h => k (.int .i64 r0) h) := by kernel_rfl
noncomputable def g11 : Fun := w11 s11
theorem g11_ok : FunOk Try.prog 11 g11 := (fun_ok ty_ok mixed (gam_ok (J := J0) (tab_cons g35_ok (tab_cons g36_ok (tab_cons g37_ok (tab_nil fls_fun))))) Try.func11 (fun args w => by simp)).imp fun xs h k e0 => by
  obtain ⟨a0, xs0, rfl, e1⟩ := arg_imp e0
  obtain ⟨rfl, e2⟩ := noArg_imp e1
  exact (s11_eq J0 s35 s36 s37 a0 h k).mpr e2
/-- stagepost/mvcc.middle -/
noncomputable def s29G (J : Joins) (a0 : Str) (a1 : Str) (h : H) (k : Str → H → Prop) : Prop :=
pushK (.bytes 5 0 true a0) h fun n1 h2 =>
J.lp (α := AV × AV × AV × Unit) (fun r6 v3 d4 h5 =>
asS v3.1 fun s7 =>
asI .i64 v3.2.2.1 fun x8 =>
fB (ltI x8 (Int.ofNat s7.len)) fun b9 =>
br b9 (
J.jd (α := AV × AV × AV × Unit) (fun v10 d11 h12 =>
asI .i64 v10.2.2.1 fun x14 =>
fI (wrapF .i64 (Int.add x14 (Int.ofNat 1))) fun x15 =>
r6 (v10.1, v10.2.1, (AV.int .i64 x15), ()) d11 h12) fun j13 =>
ixsK v3.1 v3.2.2.1 fun x16 =>
op' (asRow true 5 [(AV.int .u8 x16)]) fun k19 =>
pushK k19 h5 fun n17 h18 =>
apB (.slice 5) 5 v3.2.1 (AV.slice n17 0 1 1 1 true) h18 fun v20 h21 =>
ixsK v3.1 v3.2.2.1 fun x22 =>
fB (eqI x22 (Int.ofNat 0)) fun b23 =>
br b23 (
op' (asRow true 5 [(AV.int .u8 (Int.ofNat 255))]) fun k26 =>
pushK k26 h21 fun n24 h25 =>
apB (.slice 5) 5 v20 (AV.slice n24 0 1 1 1 true) h25 fun v27 h28 =>
j13 (v3.1, v27, v3.2.2.1, ()) d4 h28) (
j13 (v3.1, v20, v3.2.2.1, ()) d4 h21)) (
op' (asRow true 5 [(AV.int .u8 (Int.ofNat 0)), (AV.int .u8 (Int.ofNat 1))]) fun k31 =>
pushK k31 h5 fun n29 h30 =>
apB (.slice 5) 5 v3.2.1 (AV.slice n29 0 2 2 1 true) h30 fun v32 h33 =>
toStrK v32 h33 fun s34 =>
leaveK (gam J []) d4 h33 fun h35 =>
k s34 h35)) ((AV.str a1), (AV.slice n1 0 a0.len a0.len 1 false), (AV.int .i64 (Int.ofNat 0)), ()) [] h2
noncomputable def s29 : Str → Str → H → (Str → H → Prop) → Prop := s29G J0 
noncomputable def w29 (c : Str → Str → H → (Str → H → Prop) → Prop) : Fun := fun xs h k => arg xs fun a0 xs => arg xs fun a1 xs => noArg xs <| asS a0 fun a0 => asS a1 fun a1 => c a0 a1 h fun r0 h => k (.str r0) h
theorem s29_eq (J : Joins) (a0 : Str) (a1 : Str) (h : H) (k : AV → H → Prop) : denF ty (gam J []) Try.f29 [(.str a0), (.str a1)] h k = s29G J  a0 a1 h (fun r0 h => k (.str r0) h) := by kernel_rfl
noncomputable def g29 : Fun := w29 s29
theorem g29_ok : FunOk Try.prog 29 g29 := (fun_ok ty_ok mixed (gam_ok (J := J0) (tab_nil fls_fun)) Try.func29 (fun args w => by simp)).imp fun xs h k e0 => by
  obtain ⟨a0, xs0, rfl, e1⟩ := arg_imp e0
  obtain ⟨a1, xs1, rfl, e2⟩ := arg_imp e1
  obtain ⟨rfl, e3⟩ := noArg_imp e2
  obtain ⟨a0, rfl, e4⟩ := asS_iff.1 e3
  obtain ⟨a1, rfl, e5⟩ := asS_iff.1 e4
  exact (s29_eq J0  a0 a1 h k).mpr e5
/-- (*strings.Builder).String -/
noncomputable def s52G (J : Joins) (a0 : AV) (h : H) (k : Str → H → Prop) : Prop :=
okNil a0 (
faK 1 a0 fun p1 =>
ldV p1 h fun v2 =>
spX (aSliceData v2) fun v3 =>
okNil a0 (
faK 1 a0 fun p4 =>
ldV p4 h fun v5 =>
lenK v5 fun x6 =>
op2 (aUnStr 5 v3 (AV.int .i64 (Int.ofNat x6)) h) fun v7 h8 =>
asS v7 fun s9 =>
k s9 h8))
noncomputable def s52 : AV → H → (Str → H → Prop) → Prop := s52G J0 
noncomputable def w52 (c : AV → H → (Str → H → Prop) → Prop) : Fun := fun xs h k => arg xs fun a0 xs => noArg xs <| c a0 h fun r0 h => k (.str r0) h
theorem s52_eq (J : Joins) (a0 : AV) (h : H) (k : AV → H → Prop) : denF ty (gam J []) Try.f52 [a0] h k = s52G J  a0 h (fun r0 h => k (.str r0) h) := by kernel_rfl
noncomputable def g52 : Fun := w52 s52
theorem g52_ok : FunOk Try.prog 52 g52 := (fun_ok ty_ok mixed (gam_ok (J := J0) (tab_nil fls_fun)) Try.func52 (fun args w => by simp)).imp fun xs h k e0 => by
  obtain ⟨a0, xs0, rfl, e1⟩ := arg_imp e0
  obtain ⟨rfl, e2⟩ := noArg_imp e1
  exact (s52_eq J0  a0 h k).mpr e2
/-- stagepost/enc.stamp -/
noncomputable def s78G (J : Joins) (a0 : AV) (h : H) (k : Bool → H → Prop) : Prop :=
Go.Am.asAgg a0 fun l3 =>
pushK (.cells false 28 l3) h fun n1 h2 =>
ldI .i64 (AV.ptr n1 0) h2 fun x4 =>
fB (Bool.not (ltI x4 (Int.ofNat 0))) fun b5 =>
J.jn (fun v6 h7 =>
J.jn (fun v9 h10 =>
J.jn (fun v13 h14 =>
pickB (AV.bool b5) v13 (AV.bool false) fun b18 =>
J.jn (fun v19 h20 =>
J.jn (fun v22 h23 =>
J.jn (fun v26 h27 =>
pickB (AV.bool b18) v26 (AV.bool false) fun b31 =>
J.jn (fun v32 h33 =>
J.jn (fun v35 h36 =>
J.jn (fun v39 h40 =>
pickB (AV.bool b31) v39 (AV.bool false) fun b44 =>
J.jn (fun v45 h46 =>
J.jn (fun v48 h49 =>
J.jn (fun v52 h53 =>
pickB (AV.bool b44) v52 (AV.bool false) fun b57 =>
J.jn (fun v58 h59 =>
J.jn (fun v61 h62 =>
J.jn (fun v65 h66 =>
pickB (AV.bool b57) v65 (AV.bool false) fun b70 =>
k b70 h66) fun j67 =>
br b57 (
asI .i32 v61 fun x68 =>
fB (Bool.not (ltI (Int.ofNat 1048576) x68)) fun b69 =>
j67 (AV.bool b69) h62) (
j67 skipV h62)) fun j63 =>
br b57 (
ldI .i32 v58 h59 fun x64 =>
j63 (AV.int .i32 x64) h59) (
j63 skipV h59)) fun j60 =>
br b57 (
j60 (AV.ptr n1 2) h53) (
j60 skipV h53)) fun j54 =>
br b44 (
asI .i32 v48 fun x55 =>
fB (Bool.not (ltI x55 (Int.ofNat 0))) fun b56 =>
j54 (AV.bool b56) h49) (
j54 skipV h49)) fun j50 =>
br b44 (
ldI .i32 v45 h46 fun x51 =>
j50 (AV.int .i32 x51) h46) (
j50 skipV h46)) fun j47 =>
br b44 (
j47 (AV.ptr n1 2) h40) (
j47 skipV h40)) fun j41 =>
br b31 (
asI .i32 v35 fun x42 =>
fB (Bool.not (ltI (Int.ofNat 1048576) x42)) fun b43 =>
j41 (AV.bool b43) h36) (
j41 skipV h36)) fun j37 =>
br b31 (
ldI .i32 v32 h33 fun x38 =>
j37 (AV.int .i32 x38) h33) (
j37 skipV h33)) fun j34 =>
br b31 (
j34 (AV.ptr n1 1) h27) (
j34 skipV h27)) fun j28 =>
br b18 (
asI .i32 v22 fun x29 =>
fB (Bool.not (ltI x29 (Int.ofNat 0))) fun b30 =>
j28 (AV.bool b30) h23) (
j28 skipV h23)) fun j24 =>
br b18 (
ldI .i32 v19 h20 fun x25 =>
j24 (AV.int .i32 x25) h20) (
j24 skipV h20)) fun j21 =>
br b18 (
j21 (AV.ptr n1 1) h14) (
j21 skipV h14)) fun j15 =>
br b5 (
asI .i64 v9 fun x16 =>
fB (Bool.not (ltI (Int.ofNat 1099511627776) x16)) fun b17 =>
j15 (AV.bool b17) h10) (
j15 skipV h10)) fun j11 =>
br b5 (
ldI .i64 v6 h7 fun x12 =>
j11 (AV.int .i64 x12) h7) (
j11 skipV h7)) fun j8 =>
br b5 (
j8 (AV.ptr n1 0) h2) (
j8 skipV h2)
noncomputable def s78 : AV → H → (Bool → H → Prop) → Prop := s78G J0 
noncomputable def w78 (c : AV → H → (Bool → H → Prop) → Prop) : Fun := fun xs h k => arg xs fun a0 xs => noArg xs <| c a0 h fun r0 h => k (.bool r0) h
theorem s78_eq (J : Joins) (a0 : AV) (h : H) (k : AV → H → Prop) : denF ty (gam J []) Try.f78 [a0] h k = s78G J  a0 h (fun r0 h => k (.bool r0) h) := by kernel_rfl
noncomputable def g78 : Fun := w78 s78
theorem g78_ok : FunOk Try.prog 78 g78 := (fun_ok ty_ok mixed (gam_ok (J := J0) (tab_nil fls_fun)) Try.func78 (fun args w => by simp)).imp fun xs h k e0 => by
  obtain ⟨a0, xs0, rfl, e1⟩ := arg_imp e0
  obtain ⟨rfl, e2⟩ := noArg_imp e1
  exact (s78_eq J0  a0 h k).mpr e2
/-- internal/abi.NoEscape -/
noncomputable def g83 : Fun := noEsc
theorem g83_ok : FunOk Try.prog 83 g83 := noEscape_ok Try.func83 (by kernel_rfl) (by kernel_rfl) (by kernel_rfl) (by kernel_rfl)
/-- (*strings.Builder).copyCheck -/
noncomputable def s72G (J : Joins) (c83 : Fun) (a0 : AV) (h : H) (k : H → Prop) : Prop :=
okNil a0 (
faK 0 a0 fun p1 =>
ldV p1 h fun v2 =>
nilB 0 v2 fun b3 =>
br b3 (
op' (aToU a0 h) fun v4 =>
c83 [v4] h fun v5 h6 =>
op' (aOfU 81 2 v5 h6) fun v7 =>
okNil a0 (
faK 0 a0 fun p8 =>
stV p8 v7 h6 fun h9 =>
k  h9)) (
okNil a0 (
faK 0 a0 fun p10 =>
ldV p10 h fun v11 =>
obK (aBin ty .neq 79 false v11 a0) fun b12 =>
br b12 (
False) (
k  h))))
noncomputable def s72 : AV → H → (H → Prop) → Prop := s72G J0 g83
noncomputable def w72 (c : AV → H → (H → Prop) → Prop) : Fun := fun xs h k => arg xs fun a0 xs => noArg xs <| c a0 h fun  h => k (.tuple []) h
theorem s72_eq (J : Joins) (c83 : Fun) (a0 : AV) (h : H) (k : AV → H → Prop) : denF ty (gam J [(83, c83)]) Try.f72 [a0] h k = s72G J c83 a0 h (fun  h => k (.tuple []) h) := by kernel_rfl
noncomputable def g72 : Fun := w72 s72
theorem g72_ok : FunOk Try.prog 72 g72 := (fun_ok ty_ok mixed (gam_ok (J := J0) (tab_cons g83_ok (tab_nil fls_fun))) Try.func72 (fun args w => by simp)).imp fun xs h k e0 => by
  obtain ⟨a0, xs0, rfl, e1⟩ := arg_imp e0
  obtain ⟨rfl, e2⟩ := noArg_imp e1
  exact (s72_eq J0 g83 a0 h k).mpr e2
/-- (*strings.Builder).WriteByte -/
noncomputable def s87G (J : Joins) (c72 : AV → H → (H → Prop) → Prop) (a0 : AV) (a1 : Int) (h : H) (k : AV → H → Prop) : Prop :=
c72 a0 h fun  h1 =>
okNil a0 (
faK 1 a0 fun p2 =>
ldV p2 h1 fun v3 =>
op' (asRow true 5 [(AV.int .u8 a1)]) fun k6 =>
pushK k6 h1 fun n4 h5 =>
apB (.slice 5) 5 v3 (AV.slice n4 0 1 1 1 true) h5 fun v7 h8 =>
okNil a0 (
faK 1 a0 fun p9 =>
stV p9 v7 h8 fun h10 =>
k AV.nili h10))
noncomputable def s87 : AV → Int → H → (AV → H → Prop) → Prop := s87G J0 s72
noncomputable def w87 (c : AV → Int → H → (AV → H → Prop) → Prop) : Fun := fun xs h k => arg xs fun a0 xs => arg xs fun a1 xs => noArg xs <| asI .u8 a1 fun a1 => c a0 a1 h fun r0 h => k r0 h
theorem s87_eq (J : Joins) (c72 : AV → H → (H → Prop) → Prop) (a0 : AV) (a1 : Int) (h : H) (k : AV → H → Prop) : denF ty (gam J [(72, w72 c72)]) Try.f87 [a0, (.int .u8 a1)] h k = s87G J c72 a0 a1 h (fun r0 h => k r0 h) := by kernel_rfl
noncomputable def g87 : Fun := w87 s87
theorem g87_ok : FunOk Try.prog 87 g87 := (fun_ok ty_ok mixed (gam_ok (J := J0) (tab_cons g72_ok (tab_nil fls_fun))) Try.func87 (fun args w => by simp)).imp fun xs h k e0 => by
  obtain ⟨a0, xs0, rfl, e1⟩ := arg_imp e0
  obtain ⟨a1, xs1, rfl, e2⟩ := arg_imp e1
  obtain ⟨rfl, e3⟩ := noArg_imp e2
  obtain ⟨a1, rfl, e4⟩ := asI_iff.1 e3
  exact (s87_eq J0 s72 a0 a1 h k).mpr e4
/-- stagepost/enc.fixed -/
noncomputable def s79G (J : Joins) (c87 : AV → Int → H → (AV → H → Prop) → Prop) (a0 : AV) (a1 : Int) (a2 : Int) (h : H) (k : H → Prop) : Prop :=
fI (wrapF .i64 (Int.sub a2 (Int.ofNat 1))) fun x1 =>
J.lp (α := AV × AV × AV × Unit) (fun r5 v2 d3 h4 =>
asI .i64 v2.2.2.1 fun x6 =>
fB (Bool.not (ltI x6 (Int.ofNat 0))) fun b7 =>
br b7 (
asI .i64 v2.2.2.1 fun x8 =>
fI (wrapF .i64 (Int.mul (Int.ofNat 8) x8)) fun x9 =>
asI .u64 v2.2.1 fun x10 =>
asNat (AV.int .i64 x9) fun n11 =>
fI (shrF x10 (nmin n11 (IntKind.bits .u64))) fun x12 =>
fI (wrapF .u8 x12) fun x13 =>
c87 v2.1 x13 h4 fun v15 h14 =>
asI .i64 v2.2.2.1 fun x16 =>
fI (wrapF .i64 (Int.sub x16 (Int.ofNat 1))) fun x17 =>
r5 (v2.1, v2.2.1, (AV.int .i64 x17), ()) d3 h14) (
leaveK (gam J [(87, w87 c87)]) d3 h4 fun h18 =>
k  h18)) (a0, (AV.int .u64 a1), (AV.int .i64 x1), ()) [] h
noncomputable def s79 : AV → Int → Int → H → (H → Prop) → Prop := s79G J0 s87
noncomputable def w79 (c : AV → Int → Int → H → (H → Prop) → Prop) : Fun := fun xs h k => arg xs fun a0 xs => arg xs fun a1 xs => arg xs fun a2 xs => noArg xs <| asI .u64 a1 fun a1 => asI .i64 a2 fun a2 => c a0 a1 a2 h fun  h => k (.tuple []) h
theorem s79_eq (J : Joins) (c87 : AV → Int → H → (AV → H → Prop) → Prop) (a0 : AV) (a1 : Int) (a2 : Int) (h : H) (k : AV → H → Prop) : denF ty (gam J [(87, w87 c87)]) Try.f79 [a0, (.int .u64 a1), (.int .i64 a2)] h k = s79G J c87 a0 a1 a2 h (fun  h => k (.tuple []) h) := by kernel_rfl
noncomputable def g79 : Fun := w79 s79
theorem g79_ok : FunOk Try.prog 79 g79 := (fun_ok ty_ok mixed (gam_ok (J := J0) (tab_cons g87_ok (tab_nil fls_fun))) Try.func79 (fun args w => by simp)).imp fun xs h k e0 => by
  obtain ⟨a0, xs0, rfl, e1⟩ := arg_imp e0
  obtain ⟨a1, xs1, rfl, e2⟩ := arg_imp e1
  obtain ⟨a2, xs2, rfl, e3⟩ := arg_imp e2
  obtain ⟨rfl, e4⟩ := noArg_imp e3
  obtain ⟨a1, rfl, e5⟩ := asI_iff.1 e4
  obtain ⟨a2, rfl, e6⟩ := asI_iff.1 e5
  exact (s79_eq J0 s87 a0 a1 a2 h k).mpr e6
/-- stagepost/enc.Stamp -/
noncomputable def s66G (J : Joins) (c52 : AV → H → (Str → H → Prop) → Prop) (c78 : AV → H → (Bool → H → Prop) → Prop) (c79 : AV → Int → Int → H → (H → Prop) → Prop) (a0 : AV) (h : H) (k : Str → Int → H → Prop) : Prop :=
Go.Am.asAgg a0 fun l3 =>
pushK (.cells false 28 l3) h fun n1 h2 =>
ldN 3 (AV.ptr n1 0) h2 fun l4 =>
c78 (AV.agg l4) h2 fun b6 h5 =>
fB (Bool.not b6) fun b7 =>
br b7 (
k ⟨0, 0⟩ (Int.ofNat 2) h5) (
pushK (.cells false 81 [(.nilp), (.nils)]) h5 fun n8 h9 =>
ldI .i64 (AV.ptr n1 0) h9 fun x10 =>
fI (wrapF .i64 (Int.sub (Int.ofNat 9223372036854775807) x10)) fun x11 =>
fI (wrapF .u64 x11) fun x12 =>
c79 (AV.ptr n8 0) x12 (Int.ofNat 8) h9 fun  h13 =>
ldI .i32 (AV.ptr n1 1) h13 fun x14 =>
fI (wrapF .i32 (Int.sub (Int.ofNat 2147483647) x14)) fun x15 =>
fI (wrapF .u64 x15) fun x16 =>
c79 (AV.ptr n8 0) x16 (Int.ofNat 4) h13 fun  h17 =>
ldI .i32 (AV.ptr n1 2) h17 fun x18 =>
fI (wrapF .i32 (Int.sub (Int.ofNat 2147483647) x18)) fun x19 =>
fI (wrapF .u64 x19) fun x20 =>
c79 (AV.ptr n8 0) x20 (Int.ofNat 4) h17 fun  h21 =>
c52 (AV.ptr n8 0) h21 fun s23 h22 =>
k s23 (Int.ofNat 0) h22)
noncomputable def s66 : AV → H → (Str → Int → H → Prop) → Prop := s66G J0 s52 s78 s79
noncomputable def w66 (c : AV → H → (Str → Int → H → Prop) → Prop) : Fun := fun xs h k => arg xs fun a0 xs => noArg xs <| c a0 h fun r0 r1 h => k (.tuple [(.str r0), (.int .i64 r1)]) h
theorem s66_eq (J : Joins) (c52 : AV → H → (Str → H → Prop) → Prop) (c78 : AV → H → (Bool → H → Prop) → Prop) (c79 : AV → Int → Int → H → (H → Prop) → Prop) (a0 : AV) (h : H) (k : AV → H → Prop) : denF ty (gam J [(52, w52 c52), (78, w78 c78), (79, w79 c79)]) Try.f66 [a0] h k = s66G J c52 c78 c79 a0 h (fun r0 r1 h => k (.tuple [(.str r0), (.int .i64 r1)]) h) := by kernel_rfl
noncomputable def g66 : Fun := w66 s66
theorem g66_ok : FunOk Try.prog 66 g66 := (fun_ok ty_ok mixed (gam_ok (J := J0) (tab_cons g52_ok (tab_cons g78_ok (tab_cons g79_ok (tab_nil fls_fun))))) Try.func66 (fun args w => by simp)).imp fun xs h k e0 => by
  obtain ⟨a0, xs0, rfl, e1⟩ := arg_imp e0
  obtain ⟨rfl, e2⟩ := noArg_imp e1
  exact (s66_eq J0 s52 s78 s79 a0 h k).mpr e2
/-- stagepost/mvcc.stamp -/
noncomputable def s30G (J : Joins) (c66 : AV → H → (Str → Int → H → Prop) → Prop) (a0 : AV) (h : H) (k : Str → H → Prop) : Prop :=
Go.Am.asAgg a0 fun l3 =>
pushK (.cells false 28 l3) h fun n1 h2 =>
ldN 3 (AV.ptr n1 0) h2 fun l4 =>
c66 (AV.agg l4) h2 fun s6 x7 h5 =>
k s6 h5
noncomputable def s30 : AV → H → (Str → H → Prop) → Prop := s30G J0 s66
noncomputable def w30 (c : AV → H → (Str → H → Prop) → Prop) : Fun := fun xs h k => arg xs fun a0 xs => noArg xs <| c a0 h fun r0 h => k (.str r0) h
theorem s30_eq (J : Joins) (c66 : AV → H → (Str → Int → H → Prop) → Prop) (a0 : AV) (h : H) (k : AV → H → Prop) : denF ty (gam J [(66, w66 c66)]) Try.f30 [a0] h k = s30G J c66 a0 h (fun r0 h => k (.str r0) h) := by kernel_rfl
noncomputable def g30 : Fun := w30 s30
theorem g30_ok : FunOk Try.prog 30 g30 := (fun_ok ty_ok mixed (gam_ok (J := J0) (tab_cons g66_ok (tab_nil fls_fun))) Try.func30 (fun args w => by simp)).imp fun xs h k e0 => by
  obtain ⟨a0, xs0, rfl, e1⟩ := arg_imp e0
  obtain ⟨rfl, e2⟩ := noArg_imp e1
  exact (s30_eq J0 s66 a0 h k).mpr e2
/-- stagepost/mvcc.flag -/
noncomputable def s31G (J : Joins) (a0 : Bool) (a1 : Str) (h : H) (k : Str → H → Prop) : Prop :=
br a0 (
k ⟨1, 1⟩ h) (
ck (Nat.ble (Nat.add (⟨1, 0⟩ : Str).len a1.len) 9223372036854775807) (fS (Str.cat (⟨1, 0⟩ : Str) a1) fun s1 =>
k s1 h))
noncomputable def s31 : Bool → Str → H → (Str → H → Prop) → Prop := s31G J0 
noncomputable def w31 (c : Bool → Str → H → (Str → H → Prop) → Prop) : Fun := fun xs h k => arg xs fun a0 xs => arg xs fun a1 xs => noArg xs <| asB a0 fun a0 => asS a1 fun a1 => c a0 a1 h fun r0 h => k (.str r0) h
theorem s31_eq (J : Joins) (a0 : Bool) (a1 : Str) (h : H) (k : AV → H → Prop) : denF ty (gam J []) Try.f31 [(.bool a0), (.str a1)] h k = s31G J  a0 a1 h (fun r0 h => k (.str r0) h) := by kernel_rfl
noncomputable def g31 : Fun := w31 s31
theorem g31_ok : FunOk Try.prog 31 g31 := (fun_ok ty_ok mixed (gam_ok (J := J0) (tab_nil fls_fun)) Try.func31 (fun args w => by simp)).imp fun xs h k e0 => by
  obtain ⟨a0, xs0, rfl, e1⟩ := arg_imp e0
  obtain ⟨a1, xs1, rfl, e2⟩ := arg_imp e1
  obtain ⟨rfl, e3⟩ := noArg_imp e2
  obtain ⟨a0, rfl, e4⟩ := asB_iff.1 e3
  obtain ⟨a1, rfl, e5⟩ := asS_iff.1 e4
  exact (s31_eq J0  a0 a1 h k).mpr e5
/-- stagepost/mvcc.Put -/
noncomputable def s7G (J : Joins) (c11 : AV → H → (Int → H → Prop) → Prop) (c29 : Str → Str → H → (Str → H → Prop) → Prop) (c30 : AV → H → (Str → H → Prop) → Prop) (c31 : Bool → Str → H → (Str → H → Prop) → Prop) (a0 : AV) (h : H) (k : AV → Int → H → Prop) : Prop :=
Go.Am.asAgg a0 fun l3 =>
pushK (.cells false 31 l3) h fun n1 h2 =>
pushK (.cells false 23 [(.str ⟨0, 0⟩), (.str ⟨0, 0⟩), (.bool false)]) h2 fun n4 h5 =>
ldN 6 (AV.ptr n1 0) h5 fun l6 =>
c11 (AV.agg l6) h5 fun x8 h7 =>
fB (Bool.not (eqI x8 (Int.ofNat 0))) fun b9 =>
br b9 (
stN 3 (AV.ptr n4 0) [(.str ⟨0, 0⟩), (.str ⟨0, 0⟩), (.bool false)] h7 fun h10 =>
ldN 3 (AV.ptr n4 0) h10 fun l11 =>
k (AV.agg l11) x8 h10) (
ldS (AV.ptr n1 0) h7 fun s12 =>
ldN 3 (AV.ptr n1 1) h7 fun l13 =>
ldB (AV.ptr n1 5) h7 fun b14 =>
ldS (AV.ptr n1 4) h7 fun s15 =>
c29 ⟨1, 99⟩ s12 h7 fun s17 h16 =>
ck (readsSo (aLoad1 (AV.ptr n1 4) h16) (AV.str s15)) (
ck (readsSo (aLoad1 (AV.ptr n1 5) h16) (AV.bool b14)) (
ck (readsSo (aLoadN 3 (AV.ptr n1 1) h16) (AV.agg l13)) (
c30 (AV.agg l13) h16 fun s19 h18 =>
ck (readsSo (aLoad1 (AV.ptr n1 4) h18) (AV.str s15)) (
ck (readsSo (aLoad1 (AV.ptr n1 5) h18) (AV.bool b14)) (
ck (Nat.ble (Nat.add s17.len s19.len) 9223372036854775807) (fS (Str.cat s17 s19) fun s20 =>
c31 b14 s15 h18 fun s22 h21 =>
stN 3 (AV.ptr n4 0) [(AV.str s20), (AV.str s22), (.bool false)] h21 fun h23 =>
ldN 3 (AV.ptr n4 0) h23 fun l24 =>
k (AV.agg l24) (Int.ofNat 0) h23)))))))
noncomputable def s7 : AV → H → (AV → Int → H → Prop) → Prop := s7G J0 s11 s29 s30 s31
noncomputable def w7 (c : AV → H → (AV → Int → H → Prop) → Prop) : Fun := fun xs h k => arg xs fun a0 xs => noArg xs <| c a0 h fun r0 r1 h => k (.tuple [r0, (.int .i64 r1)]) h
theorem s7_eq (J : Joins) (c11 : AV → H → (Int → H → Prop) → Prop) (c29 : Str → Str → H → (Str → H → Prop) → Prop) (c30 : AV → H → (Str → H → Prop) → Prop) (c31 : Bool → Str → H → (Str → H → Prop) → Prop) (a0 : AV) (h : H) (k : AV → H → Prop) : denF ty (gam J [(11, w11 c11), (29, w29 c29), (30, w30 c30), (31, w31 c31)]) Try.f7 [a0] h k = s7G J c11 c29 c30 c31 a0 h (fun r0 r1 h => k (.tuple [r0, (.int .i64 r1)]) h) := by kernel_rfl
noncomputable def g7 : Fun := w7 s7
theorem g7_ok : FunOk Try.prog 7 g7 := (fun_ok ty_ok mixed (gam_ok (J := J0) (tab_cons g11_ok (tab_cons g29_ok (tab_cons g30_ok (tab_cons g31_ok (tab_nil fls_fun)))))) Try.func7 (fun args w => by simp)).imp fun xs h k e0 => by
  obtain ⟨a0, xs0, rfl, e1⟩ := arg_imp e0
  obtain ⟨rfl, e2⟩ := noArg_imp e1
  exact (s7_eq J0 s11 s29 s30 s31 a0 h k).mpr e2
/-- stagepost/stagepostlaw23.st -/
noncomputable def s8G (J : Joins) (a0 : Int) (a1 : Int) (a2 : Int) (h : H) (k : AV → H → Prop) : Prop :=
pushK (.cells false 28 [(.int .i64 0), (.int .i32 0), (.int .i32 0)]) h fun n1 h2 =>
stN 3 (AV.ptr n1 0) [(AV.int .i64 a0), (AV.int .i32 a1), (AV.int .i32 a2)] h2 fun h3 =>
ldN 3 (AV.ptr n1 0) h3 fun l4 =>
k (AV.agg l4) h3
noncomputable def s8 : Int → Int → Int → H → (AV → H → Prop) → Prop := s8G J0 
noncomputable def w8 (c : Int → Int → Int → H → (AV → H → Prop) → Prop) : Fun := fun xs h k => arg xs fun a0 xs => arg xs fun a1 xs => arg xs fun a2 xs => noArg xs <| asI .i64 a0 fun a0 => asI .i32 a1 fun a1 => asI .i32 a2 fun a2 => c a0 a1 a2 h fun r0 h => k r0 h
theorem s8_eq (J : Joins) (a0 : Int) (a1 : Int) (a2 : Int) (h : H) (k : AV → H → Prop) : denF ty (gam J []) Try.f8 [(.int .i64 a0), (.int .i32 a1), (.int .i32 a2)] h k = s8G J  a0 a1 a2 h (fun r0 h => k r0 h) := by kernel_rfl
noncomputable def g8 : Fun := w8 s8
theorem g8_ok : FunOk Try.prog 8 g8 := (fun_ok ty_ok mixed (gam_ok (J := J0) (tab_nil fls_fun)) Try.func8 (fun args w => by simp)).imp fun xs h k e0 => by
  obtain ⟨a0, xs0, rfl, e1⟩ := arg_imp e0
  obtain ⟨a1, xs1, rfl, e2⟩ := arg_imp e1
  obtain ⟨a2, xs2, rfl, e3⟩ := arg_imp e2
  obtain ⟨rfl, e4⟩ := noArg_imp e3
  obtain ⟨a0, rfl, e5⟩ := asI_iff.1 e4
  obtain ⟨a1, rfl, e6⟩ := asI_iff.1 e5
  obtain ⟨a2, rfl, e7⟩ := asI_iff.1 e6
  exact (s8_eq J0  a0 a1 a2 h k).mpr e7
/-- (*stagepost/mvcc.reader).bytes -/
noncomputable def s58G (J : Joins) (a0 : AV) (a1 : Int) (h : H) (k : Str → H → Prop) : Prop :=
okNil a0 (
faK 1 a0 fun p1 =>
ldB p1 h fun b2 =>
J.jn (fun v3 h4 =>
J.jn (fun v6 h7 =>
J.jn (fun v9 h10 =>
J.jn (fun v12 h13 =>
J.jn (fun v16 h17 =>
J.jn (fun v20 h21 =>
J.jn (fun v24 h25 =>
pickB (AV.bool b2) (AV.bool true) v24 fun b30 =>
br b30 (
okNil a0 (
faK 1 a0 fun p31 =>
stV p31 (AV.bool true) h25 fun h32 =>
k ⟨0, 0⟩ h32)) (
okNil a0 (
faK 0 a0 fun p33 =>
ldS p33 h25 fun s34 =>
subK (AV.str s34) none (some (AV.int .i64 a1)) fun s35 =>
okNil a0 (
faK 0 a0 fun p36 =>
ldS p36 h25 fun s37 =>
subK (AV.str s37) (some (AV.int .i64 a1)) none fun s38 =>
okNil a0 (
faK 0 a0 fun p39 =>
stV p39 (AV.str s38) h25 fun h40 =>
k s35 h40))))) fun j26 =>
br b2 (
j26 skipV h21) (
asI .i64 v3 fun x27 =>
asI .i64 v20 fun x28 =>
fB (ltI x28 x27) fun b29 =>
j26 (AV.bool b29) h21)) fun j22 =>
br b2 (
j22 skipV h17) (
asS v16 fun s23 =>
j22 (AV.int .i64 (Int.ofNat s23.len)) h17)) fun j18 =>
br b2 (
j18 skipV h13) (
ldS v12 h13 fun s19 =>
j18 (AV.str s19) h13)) fun j14 =>
br b2 (
j14 skipV h10) (
faK 0 v9 fun p15 =>
j14 p15 h10)) fun j11 =>
br b2 (
j11 skipV h7) (
okNil v6 (
j11 v6 h7))) fun j8 =>
br b2 (
j8 skipV h4) (
j8 a0 h4)) fun j5 =>
br b2 (
j5 skipV h) (
j5 (AV.int .i64 a1) h))
noncomputable def s58 : AV → Int → H → (Str → H → Prop) → Prop := s58G J0 
noncomputable def w58 (c : AV → Int → H → (Str → H → Prop) → Prop) : Fun := fun xs h k => arg xs fun a0 xs => arg xs fun a1 xs => noArg xs <| asI .i64 a1 fun a1 => c a0 a1 h fun r0 h => k (.str r0) h
theorem s58_eq (J : Joins) (a0 : AV) (a1 : Int) (h : H) (k : AV → H → Prop) : denF ty (gam J []) Try.f58 [a0, (.int .i64 a1)] h k = s58G J  a0 a1 h (fun r0 h => k (.str r0) h) := by kernel_rfl
noncomputable def g58 : Fun := w58 s58
theorem g58_ok : FunOk Try.prog 58 g58 := (fun_ok ty_ok mixed (gam_ok (J := J0) (tab_nil fls_fun)) Try.func58 (fun args w => by simp)).imp fun xs h k e0 => by
  obtain ⟨a0, xs0, rfl, e1⟩ := arg_imp e0
  obtain ⟨a1, xs1, rfl, e2⟩ := arg_imp e1
  obtain ⟨rfl, e3⟩ := noArg_imp e2
  obtain ⟨a1, rfl, e4⟩ := asI_iff.1 e3
  exact (s58_eq J0  a0 a1 h k).mpr e4
/-- (*stagepost/mvcc.reader).of -/
noncomputable def s32G (J : Joins) (c58 : AV → Int → H → (Str → H → Prop) → Prop) (a0 : AV) (a1 : Str) (h : H) (k : Str → H → Prop) : Prop :=
J.jd (α := AV × Unit) (fun v1 d2 h3 =>
J.lp (α := AV × AV × Unit) (fun r8 v5 d6 h7 =>
okNil v5.1 (
faK 1 v5.1 fun p9 =>
ldB p9 h7 fun b10 =>
fB (Bool.not b10) fun b11 =>
br b11 (
c58 v5.1 (Int.ofNat 1) h7 fun s13 h12 =>
fB (Bool.not (Str.beq s13 (⟨1, 0⟩ : Str))) fun b14 =>
br b14 (
apB .str 5 v5.2.1 (AV.str s13) h12 fun v15 h16 =>
r8 (v5.1, v15, ()) d6 h16) (
c58 v5.1 (Int.ofNat 1) h12 fun s18 h17 =>
fB (Str.beq s18 (⟨1, 255⟩ : Str)) fun b19 =>
br b19 (
op' (asRow true 5 [(AV.int .u8 (Int.ofNat 0))]) fun k22 =>
pushK k22 h17 fun n20 h21 =>
apB (.slice 5) 5 v5.2.1 (AV.slice n20 0 1 1 1 true) h21 fun v23 h24 =>
r8 (v5.1, v23, ()) d6 h24) (
fB (Str.beq s18 (⟨1, 1⟩ : Str)) fun b25 =>
br b25 (
toStrK v5.2.1 h17 fun s26 =>
leaveK (gam J [(58, w58 c58)]) d6 h17 fun h27 =>
k s26 h27) (
okNil v5.1 (
faK 1 v5.1 fun p28 =>
stV p28 (AV.bool true) h17 fun h29 =>
r8 (v5.1, v5.2.1, ()) d6 h29))))) (
leaveK (gam J [(58, w58 c58)]) d6 h7 fun h30 =>
k ⟨0, 0⟩ h30))) (v1.1, AV.nils, ()) d2 h3) fun j4 =>
c58 a0 (Int.ofNat 1) h fun s32 h31 =>
fB (Bool.not (Str.beq s32 a1)) fun b33 =>
br b33 (
okNil a0 (
faK 1 a0 fun p34 =>
stV p34 (AV.bool true) h31 fun h35 =>
j4 (a0, ()) [] h35)) (
j4 (a0, ()) [] h31)
noncomputable def s32 : AV → Str → H → (Str → H → Prop) → Prop := s32G J0 s58
noncomputable def w32 (c : AV → Str → H → (Str → H → Prop) → Prop) : Fun := fun xs h k => arg xs fun a0 xs => arg xs fun a1 xs => noArg xs <| asS a1 fun a1 => c a0 a1 h fun r0 h => k (.str r0) h
theorem s32_eq (J : Joins) (c58 : AV → Int → H → (Str → H → Prop) → Prop) (a0 : AV) (a1 : Str) (h : H) (k : AV → H → Prop) : denF ty (gam J [(58, w58 c58)]) Try.f32 [a0, (.str a1)] h k = s32G J c58 a0 a1 h (fun r0 h => k (.str r0) h) := by kernel_rfl
noncomputable def g32 : Fun := w32 s32
theorem g32_ok : FunOk Try.prog 32 g32 := (fun_ok ty_ok mixed (gam_ok (J := J0) (tab_cons g58_ok (tab_nil fls_fun))) Try.func32 (fun args w => by simp)).imp fun xs h k e0 => by
  obtain ⟨a0, xs0, rfl, e1⟩ := arg_imp e0
  obtain ⟨a1, xs1, rfl, e2⟩ := arg_imp e1
  obtain ⟨rfl, e3⟩ := noArg_imp e2
  obtain ⟨a1, rfl, e4⟩ := asS_iff.1 e3
  exact (s32_eq J0 s58 a0 a1 h k).mpr e4
/-- stagepost/enc.unfixed -/
noncomputable def s80G (J : Joins) (a0 : Str) (h : H) (k : Int → H → Prop) : Prop :=
J.lp (α := AV × AV × AV × AV × Unit) (fun r4 v1 d2 h3 =>
asI .i64 v1.2.2.2.1 fun x5 =>
asI .i64 v1.2.2.1 fun x6 =>
fB (ltI x5 x6) fun b7 =>
br b7 (
asI .u64 v1.2.1 fun x8 =>
fI (shlF .u64 x8 8) fun x9 =>
ixsK v1.1 v1.2.2.2.1 fun x10 =>
fI (wrapF .u64 x10) fun x11 =>
fI (lorF .u64 x9 x11) fun x12 =>
asI .i64 v1.2.2.2.1 fun x13 =>
fI (wrapF .i64 (Int.add x13 (Int.ofNat 1))) fun x14 =>
r4 (v1.1, (AV.int .u64 x12), v1.2.2.1, (AV.int .i64 x14), ()) d2 h3) (
leaveK (gam J []) d2 h3 fun h15 =>
asI .u64 v1.2.1 fun x16 =>
k x16 h15)) ((AV.str a0), (AV.int .u64 (Int.ofNat 0)), (AV.int .i64 (Int.ofNat a0.len)), (AV.int .i64 (Int.ofNat 0)), ()) [] h
noncomputable def s80 : Str → H → (Int → H → Prop) → Prop := s80G J0 
noncomputable def w80 (c : Str → H → (Int → H → Prop) → Prop) : Fun := fun xs h k => arg xs fun a0 xs => noArg xs <| asS a0 fun a0 => c a0 h fun r0 h => k (.int .u64 r0) h
theorem s80_eq (J : Joins) (a0 : Str) (h : H) (k : AV → H → Prop) : denF ty (gam J []) Try.f80 [(.str a0)] h k = s80G J  a0 h (fun r0 h => k (.int .u64 r0) h) := by kernel_rfl
noncomputable def g80 : Fun := w80 s80
theorem g80_ok : FunOk Try.prog 80 g80 := (fun_ok ty_ok mixed (gam_ok (J := J0) (tab_nil fls_fun)) Try.func80 (fun args w => by simp)).imp fun xs h k e0 => by
  obtain ⟨a0, xs0, rfl, e1⟩ := arg_imp e0
  obtain ⟨rfl, e2⟩ := noArg_imp e1
  obtain ⟨a0, rfl, e3⟩ := asS_iff.1 e2
  exact (s80_eq J0  a0 h k).mpr e3
/-- stagepost/enc.Unstamp -/
noncomputable def s67G (J : Joins) (c78 : AV → H → (Bool → H → Prop) → Prop) (c80 : Str → H → (Int → H → Prop) → Prop) (a0 : Str) (h : H) (k : AV → Int → H → Prop) : Prop :=
pushK (.cells false 28 [(.int .i64 0), (.int .i32 0), (.int .i32 0)]) h fun n1 h2 =>
fB (Bool.not (eqI (Int.ofNat a0.len) (Int.ofNat 16))) fun b3 =>
br b3 (
stN 3 (AV.ptr n1 0) [(.int .i64 0), (.int .i32 0), (.int .i32 0)] h2 fun h4 =>
ldN 3 (AV.ptr n1 0) h4 fun l5 =>
k (AV.agg l5) (Int.ofNat 5) h4) (
subK (AV.str a0) none (some (AV.int .i64 (Int.ofNat 8))) fun s6 =>
subK (AV.str a0) (some (AV.int .i64 (Int.ofNat 8))) (some (AV.int .i64 (Int.ofNat 12))) fun s7 =>
subK (AV.str a0) (some (AV.int .i64 (Int.ofNat 12))) none fun s8 =>
c80 s6 h2 fun x10 h9 =>
c80 s7 h9 fun x12 h11 =>
c80 s8 h11 fun x14 h13 =>
fB (ltI (Int.ofNat 9223372036854775807) x10) fun b15 =>
J.jn (fun v16 h17 =>
J.jn (fun v19 h20 =>
pickB (AV.bool b15) (AV.bool true) v19 fun b24 =>
J.jn (fun v25 h26 =>
J.jn (fun v28 h29 =>
pickB (AV.bool b24) (AV.bool true) v28 fun b33 =>
br b33 (
stN 3 (AV.ptr n1 0) [(.int .i64 0), (.int .i32 0), (.int .i32 0)] h29 fun h34 =>
ldN 3 (AV.ptr n1 0) h34 fun l35 =>
k (AV.agg l35) (Int.ofNat 5) h34) (
fI (wrapF .i64 x10) fun x36 =>
fI (wrapF .i64 (Int.sub (Int.ofNat 9223372036854775807) x36)) fun x37 =>
fI (wrapF .i32 x12) fun x38 =>
fI (wrapF .i32 (Int.sub (Int.ofNat 2147483647) x38)) fun x39 =>
fI (wrapF .i32 x14) fun x40 =>
fI (wrapF .i32 (Int.sub (Int.ofNat 2147483647) x40)) fun x41 =>
pushK (.cells false 28 [(.int .i64 0), (.int .i32 0), (.int .i32 0)]) h29 fun n42 h43 =>
stN 3 (AV.ptr n42 0) [(AV.int .i64 x37), (AV.int .i32 x39), (AV.int .i32 x41)] h43 fun h44 =>
ldN 3 (AV.ptr n42 0) h44 fun l45 =>
c78 (AV.agg l45) h44 fun b47 h46 =>
fB (Bool.not b47) fun b48 =>
br b48 (
stN 3 (AV.ptr n1 0) [(.int .i64 0), (.int .i32 0), (.int .i32 0)] h46 fun h49 =>
ldN 3 (AV.ptr n1 0) h49 fun l50 =>
k (AV.agg l50) (Int.ofNat 5) h49) (
ldN 3 (AV.ptr n42 0) h46 fun l51 =>
stN 3 (AV.ptr n1 0) l51 h46 fun h52 =>
ldN 3 (AV.ptr n1 0) h52 fun l53 =>
k (AV.agg l53) (Int.ofNat 0) h52))) fun j30 =>
br b24 (
j30 skipV h26) (
asI .u64 v25 fun x31 =>
fB (ltI (Int.ofNat 2147483647) x31) fun b32 =>
j30 (AV.bool b32) h26)) fun j27 =>
br b24 (
j27 skipV h20) (
j27 (AV.int .u64 x14) h20)) fun j21 =>
br b15 (
j21 skipV h17) (
asI .u64 v16 fun x22 =>
fB (ltI (Int.ofNat 2147483647) x22) fun b23 =>
j21 (AV.bool b23) h17)) fun j18 =>
br b15 (
j18 skipV h13) (
j18 (AV.int .u64 x12) h13))
noncomputable def s67 : Str → H → (AV → Int → H → Prop) → Prop := s67G J0 s78 s80
noncomputable def w67 (c : Str → H → (AV → Int → H → Prop) → Prop) : Fun := fun xs h k => arg xs fun a0 xs => noArg xs <| asS a0 fun a0 => c a0 h fun r0 r1 h => k (.tuple [r0, (.int .i64 r1)]) h
theorem s67_eq (J : Joins) (c78 : AV → H → (Bool → H → Prop) → Prop) (c80 : Str → H → (Int → H → Prop) → Prop) (a0 : Str) (h : H) (k : AV → H → Prop) : denF ty (gam J [(78, w78 c78), (80, w80 c80)]) Try.f67 [(.str a0)] h k = s67G J c78 c80 a0 h (fun r0 r1 h => k (.tuple [r0, (.int .i64 r1)]) h) := by kernel_rfl
noncomputable def g67 : Fun := w67 s67
theorem g67_ok : FunOk Try.prog 67 g67 := (fun_ok ty_ok mixed (gam_ok (J := J0) (tab_cons g78_ok (tab_cons g80_ok (tab_nil fls_fun)))) Try.func67 (fun args w => by simp)).imp fun xs h k e0 => by
  obtain ⟨a0, xs0, rfl, e1⟩ := arg_imp e0
  obtain ⟨rfl, e2⟩ := noArg_imp e1
  obtain ⟨a0, rfl, e3⟩ := asS_iff.1 e2
  exact (s67_eq J0 s78 s80 a0 h k).mpr e3
/-- (*stagepost/mvcc.reader).stamp -/
noncomputable def s33G (J : Joins) (c58 : AV → Int → H → (Str → H → Prop) → Prop) (c67 : Str → H → (AV → Int → H → Prop) → Prop) (a0 : AV) (h : H) (k : AV → H → Prop) : Prop :=
pushK (.cells false 28 [(.int .i64 0), (.int .i32 0), (.int .i32 0)]) h fun n1 h2 =>
c58 a0 (Int.ofNat 16) h2 fun s4 h3 =>
c67 s4 h3 fun v6 x7 h5 =>
pushK (.cells false 28 [(.int .i64 0), (.int .i32 0), (.int .i32 0)]) h5 fun n8 h9 =>
Go.Am.asAgg v6 fun l11 =>
stN 3 (AV.ptr n8 0) l11 h9 fun h10 =>
J.jd (α := AV × AV × Unit) (fun v12 d13 h14 =>
ldN 3 v12.2.1 h14 fun l16 =>
stN 3 v12.1 l16 h14 fun h17 =>
leaveK (gam J [(58, w58 c58), (67, w67 c67)]) d13 h17 fun h18 =>
ldN 3 v12.1 h18 fun l19 =>
k (AV.agg l19) h18) fun j15 =>
fB (Bool.not (eqI x7 (Int.ofNat 0))) fun b20 =>
br b20 (
okNil a0 (
faK 1 a0 fun p21 =>
stV p21 (AV.bool true) h10 fun h22 =>
j15 ((AV.ptr n1 0), (AV.ptr n8 0), ()) [] h22)) (
j15 ((AV.ptr n1 0), (AV.ptr n8 0), ()) [] h10)
noncomputable def s33 : AV → H → (AV → H → Prop) → Prop := s33G J0 s58 s67
noncomputable def w33 (c : AV → H → (AV → H → Prop) → Prop) : Fun := fun xs h k => arg xs fun a0 xs => noArg xs <| c a0 h fun r0 h => k r0 h
theorem s33_eq (J : Joins) (c58 : AV → Int → H → (Str → H → Prop) → Prop) (c67 : Str → H → (AV → Int → H → Prop) → Prop) (a0 : AV) (h : H) (k : AV → H → Prop) : denF ty (gam J [(58, w58 c58), (67, w67 c67)]) Try.f33 [a0] h k = s33G J c58 c67 a0 h (fun r0 h => k r0 h) := by kernel_rfl
noncomputable def g33 : Fun := w33 s33
theorem g33_ok : FunOk Try.prog 33 g33 := (fun_ok ty_ok mixed (gam_ok (J := J0) (tab_cons g58_ok (tab_cons g67_ok (tab_nil fls_fun)))) Try.func33 (fun args w => by simp)).imp fun xs h k e0 => by
  obtain ⟨a0, xs0, rfl, e1⟩ := arg_imp e0
  obtain ⟨rfl, e2⟩ := noArg_imp e1
  exact (s33_eq J0 s58 s67 a0 h k).mpr e2
/-- (*stagepost/mvcc.reader).flag -/
noncomputable def s34G (J : Joins) (c58 : AV → Int → H → (Str → H → Prop) → Prop) (a0 : AV) (h : H) (k : Bool → Str → H → Prop) : Prop :=
c58 a0 (Int.ofNat 1) h fun s2 h1 =>
fB (Str.beq s2 (⟨1, 0⟩ : Str)) fun b3 =>
br b3 (
okNil a0 (
faK 0 a0 fun p4 =>
ldS p4 h1 fun s5 =>
c58 a0 (Int.ofNat s5.len) h1 fun s7 h6 =>
k false s7 h6)) (
fB (Str.beq s2 (⟨1, 1⟩ : Str)) fun b8 =>
br b8 (
k true ⟨0, 0⟩ h1) (
okNil a0 (
faK 1 a0 fun p9 =>
stV p9 (AV.bool true) h1 fun h10 =>
k false ⟨0, 0⟩ h10)))
noncomputable def s34 : AV → H → (Bool → Str → H → Prop) → Prop := s34G J0 s58
noncomputable def w34 (c : AV → H → (Bool → Str → H → Prop) → Prop) : Fun := fun xs h k => arg xs fun a0 xs => noArg xs <| c a0 h fun r0 r1 h => k (.tuple [(.bool r0), (.str r1)]) h
theorem s34_eq (J : Joins) (c58 : AV → Int → H → (Str → H → Prop) → Prop) (a0 : AV) (h : H) (k : AV → H → Prop) : denF ty (gam J [(58, w58 c58)]) Try.f34 [a0] h k = s34G J c58 a0 h (fun r0 r1 h => k (.tuple [(.bool r0), (.str r1)]) h) := by kernel_rfl
noncomputable def g34 : Fun := w34 s34
theorem g34_ok : FunOk Try.prog 34 g34 := (fun_ok ty_ok mixed (gam_ok (J := J0) (tab_cons g58_ok (tab_nil fls_fun))) Try.func34 (fun args w => by simp)).imp fun xs h k e0 => by
  obtain ⟨a0, xs0, rfl, e1⟩ := arg_imp e0
  obtain ⟨rfl, e2⟩ := noArg_imp e1
  exact (s34_eq J0 s58 a0 h k).mpr e2
/-- stagepost/mvcc.Cell -/
noncomputable def s10G (J : Joins) (c7 : AV → H → (AV → Int → H → Prop) → Prop) (c32 : AV → Str → H → (Str → H → Prop) → Prop) (c33 : AV → H → (AV → H → Prop) → Prop) (c34 : AV → H → (Bool → Str → H → Prop) → Prop) (a0 : AV) (h : H) (k : AV → Int → H → Prop) : Prop :=
Go.Am.asAgg a0 fun l3 =>
pushK (.cells false 36 l3) h fun n1 h2 =>
pushK (.cells false 31 [(.str ⟨0, 0⟩), (.int .i64 0), (.int .i32 0), (.int .i32 0), (.str ⟨0, 0⟩), (.bool false)]) h2 fun n4 h5 =>
ldS (AV.ptr n1 0) h5 fun s6 =>
pushK (.cells false 63 [(AV.str s6), (.bool false)]) h5 fun n7 h8 =>
ldS (AV.ptr n1 1) h8 fun s9 =>
pushK (.cells false 63 [(AV.str s9), (.bool false)]) h8 fun n10 h11 =>
c32 (AV.ptr n7 0) ⟨1, 99⟩ h11 fun s13 h12 =>
pushK (.cells false 31 [(.str ⟨0, 0⟩), (.int .i64 0), (.int .i32 0), (.int .i32 0), (.str ⟨0, 0⟩), (.bool false)]) h12 fun n14 h15 =>
stN 6 (AV.ptr n14 0) [(AV.str s13), (.int .i64 0), (.int .i32 0), (.int .i32 0), (.str ⟨0, 0⟩), (.bool false)] h15 fun h16 =>
c33 (AV.ptr n7 0) h16 fun v18 h17 =>
Go.Am.asAgg v18 fun l20 =>
stN 3 (AV.ptr n14 1) l20 h17 fun h19 =>
c34 (AV.ptr n10 0) h19 fun b22 s23 h21 =>
stV (AV.ptr n14 5) (AV.bool b22) h21 fun h24 =>
stV (AV.ptr n14 4) (AV.str s23) h24 fun h25 =>
ldN 6 (AV.ptr n14 0) h25 fun l26 =>
c7 (AV.agg l26) h25 fun v28 x29 h27 =>
pushK (.cells false 23 [(.str ⟨0, 0⟩), (.str ⟨0, 0⟩), (.bool false)]) h27 fun n30 h31 =>
Go.Am.asAgg v28 fun l33 =>
stN 3 (AV.ptr n30 0) l33 h31 fun h32 =>
fB (Bool.not (eqI x29 (Int.ofNat 0))) fun b34 =>
J.jn (fun v35 h36 =>
J.jn (fun v38 h39 =>
J.jn (fun v41 h42 =>
J.jn (fun v45 h46 =>
pickB (AV.bool b34) (AV.bool true) v45 fun b49 =>
J.jn (fun v50 h51 =>
J.jn (fun v53 h54 =>
J.jn (fun v56 h57 =>
J.jn (fun v60 h61 =>
pickB (AV.bool b49) (AV.bool true) v60 fun b64 =>
J.jn (fun v65 h66 =>
J.jn (fun v68 h69 =>
J.jn (fun v72 h73 =>
J.jn (fun v75 h76 =>
J.jn (fun v79 h80 =>
pickB (AV.bool b64) (AV.bool true) v79 fun b85 =>
J.jn (fun v86 h87 =>
J.jn (fun v89 h90 =>
J.jn (fun v93 h94 =>
J.jn (fun v96 h97 =>
J.jn (fun v100 h101 =>
pickB (AV.bool b85) (AV.bool true) v100 fun b106 =>
br b106 (
stN 6 (AV.ptr n4 0) [(.str ⟨0, 0⟩), (.int .i64 0), (.int .i32 0), (.int .i32 0), (.str ⟨0, 0⟩), (.bool false)] h101 fun h107 =>
ldN 6 (AV.ptr n4 0) h107 fun l108 =>
k (AV.agg l108) (Int.ofNat 5) h107) (
ldN 6 (AV.ptr n14 0) h101 fun l109 =>
stN 6 (AV.ptr n4 0) l109 h101 fun h110 =>
ldN 6 (AV.ptr n4 0) h110 fun l111 =>
k (AV.agg l111) (Int.ofNat 0) h110)) fun j102 =>
br b85 (
j102 skipV h97) (
asS v89 fun s103 =>
asS v96 fun s104 =>
fB (Bool.not (Str.beq s103 s104)) fun b105 =>
j102 (AV.bool b105) h97)) fun j98 =>
br b85 (
j98 skipV h94) (
ldS v93 h94 fun s99 =>
j98 (AV.str s99) h94)) fun j95 =>
br b85 (
j95 skipV h90) (
j95 (AV.ptr n1 1) h90)) fun j91 =>
br b85 (
j91 skipV h87) (
ldS v86 h87 fun s92 =>
j91 (AV.str s92) h87)) fun j88 =>
br b85 (
j88 skipV h80) (
j88 (AV.ptr n30 1) h80)) fun j81 =>
br b64 (
j81 skipV h76) (
asS v68 fun s82 =>
asS v75 fun s83 =>
fB (Bool.not (Str.beq s82 s83)) fun b84 =>
j81 (AV.bool b84) h76)) fun j77 =>
br b64 (
j77 skipV h73) (
ldS v72 h73 fun s78 =>
j77 (AV.str s78) h73)) fun j74 =>
br b64 (
j74 skipV h69) (
j74 (AV.ptr n1 0) h69)) fun j70 =>
br b64 (
j70 skipV h66) (
ldS v65 h66 fun s71 =>
j70 (AV.str s71) h66)) fun j67 =>
br b64 (
j67 skipV h61) (
j67 (AV.ptr n30 0) h61)) fun j62 =>
br b49 (
j62 skipV h57) (
ldB v56 h57 fun b63 =>
j62 (AV.bool b63) h57)) fun j58 =>
br b49 (
j58 skipV h54) (
faK 1 v53 fun p59 =>
j58 p59 h54)) fun j55 =>
br b49 (
j55 skipV h51) (
okNil v50 (
j55 v50 h51))) fun j52 =>
br b49 (
j52 skipV h46) (
j52 (AV.ptr n10 0) h46)) fun j47 =>
br b34 (
j47 skipV h42) (
ldB v41 h42 fun b48 =>
j47 (AV.bool b48) h42)) fun j43 =>
br b34 (
j43 skipV h39) (
faK 1 v38 fun p44 =>
j43 p44 h39)) fun j40 =>
br b34 (
j40 skipV h36) (
okNil v35 (
j40 v35 h36))) fun j37 =>
br b34 (
j37 skipV h32) (
j37 (AV.ptr n7 0) h32)
noncomputable def s10 : AV → H → (AV → Int → H → Prop) → Prop := s10G J0 s7 s32 s33 s34
noncomputable def w10 (c : AV → H → (AV → Int → H → Prop) → Prop) : Fun := fun xs h k => arg xs fun a0 xs => noArg xs <| c a0 h fun r0 r1 h => k (.tuple [r0, (.int .i64 r1)]) h
theorem s10_eq (J : Joins) (c7 : AV → H → (AV → Int → H → Prop) → Prop) (c32 : AV → Str → H → (Str → H → Prop) → Prop) (c33 : AV → H → (AV → H → Prop) → Prop) (c34 : AV → H → (Bool → Str → H → Prop) → Prop) (a0 : AV) (h : H) (k : AV → H → Prop) : denF ty (gam J [(7, w7 c7), (32, w32 c32), (33, w33 c33), (34, w34 c34)]) Try.f10 [a0] h k = s10G J c7 c32 c33 c34 a0 h (fun r0 r1 h => k (.tuple [r0, (.int .i64 r1)]) h) := by kernel_rfl
noncomputable def g10 : Fun := w10 s10
theorem g10_ok : FunOk Try.prog 10 g10 := (fun_ok ty_ok mixed (gam_ok (J := J0) (tab_cons g7_ok (tab_cons g32_ok (tab_cons g33_ok (tab_cons g34_ok (tab_nil fls_fun)))))) Try.func10 (fun args w => by simp)).imp fun xs h k e0 => by
  obtain ⟨a0, xs0, rfl, e1⟩ := arg_imp e0
  obtain ⟨rfl, e2⟩ := noArg_imp e1
  exact (s10_eq J0 s7 s32 s33 s34 a0 h k).mpr e2
/-- stagepost/mvcc.Lift -/
noncomputable def s20G (J : Joins) (c29 : Str → Str → H → (Str → H → Prop) → Prop) (c35 : Str → H → (Bool → H → Prop) → Prop) (a0 : Str) (h : H) (k : AV → Int → H → Prop) : Prop :=
pushK (.cells false 23 [(.str ⟨0, 0⟩), (.str ⟨0, 0⟩), (.bool false)]) h fun n1 h2 =>
c35 a0 h2 fun b4 h3 =>
fB (Bool.not b4) fun b5 =>
br b5 (
stN 3 (AV.ptr n1 0) [(.str ⟨0, 0⟩), (.str ⟨0, 0⟩), (.bool false)] h3 fun h6 =>
ldN 3 (AV.ptr n1 0) h6 fun l7 =>
k (AV.agg l7) (Int.ofNat 2) h6) (
c29 ⟨1, 105⟩ a0 h3 fun s9 h8 =>
stN 3 (AV.ptr n1 0) [(AV.str s9), (.str ⟨0, 0⟩), (AV.bool true)] h8 fun h10 =>
ldN 3 (AV.ptr n1 0) h10 fun l11 =>
k (AV.agg l11) (Int.ofNat 0) h10)
noncomputable def s20 : Str → H → (AV → Int → H → Prop) → Prop := s20G J0 s29 s35
noncomputable def w20 (c : Str → H → (AV → Int → H → Prop) → Prop) : Fun := fun xs h k => arg xs fun a0 xs => noArg xs <| asS a0 fun a0 => c a0 h fun r0 r1 h => k (.tuple [r0, (.int .i64 r1)]) h
theorem s20_eq (J : Joins) (c29 : Str → Str → H → (Str → H → Prop) → Prop) (c35 : Str → H → (Bool → H → Prop) → Prop) (a0 : Str) (h : H) (k : AV → H → Prop) : denF ty (gam J [(29, w29 c29), (35, w35 c35)]) Try.f20 [(.str a0)] h k = s20G J c29 c35 a0 h (fun r0 r1 h => k (.tuple [r0, (.int .i64 r1)]) h) := by kernel_rfl
noncomputable def g20 : Fun := w20 s20
theorem g20_ok : FunOk Try.prog 20 g20 := (fun_ok ty_ok mixed (gam_ok (J := J0) (tab_cons g29_ok (tab_cons g35_ok (tab_nil fls_fun)))) Try.func20 (fun args w => by simp)).imp fun xs h k e0 => by
  obtain ⟨a0, xs0, rfl, e1⟩ := arg_imp e0
  obtain ⟨rfl, e2⟩ := noArg_imp e1
  obtain ⟨a0, rfl, e3⟩ := asS_iff.1 e2
  exact (s20_eq J0 s29 s35 a0 h k).mpr e3
/-- stagepost/stagepostlaw23.lives -/
noncomputable def s9G (J : Joins) (c7 : AV → H → (AV → Int → H → Prop) → Prop) (c8 : Int → Int → Int → H → (AV → H → Prop) → Prop) (c10 : AV → H → (AV → Int → H → Prop) → Prop) (c20 : Str → H → (AV → Int → H → Prop) → Prop) (h : H) (k : Bool → H → Prop) : Prop :=
c8 (Int.ofNat 1) (Int.ofNat 0) (Int.ofNat 0) h fun v2 h1 =>
Go.Am.asAgg v2 fun l3 =>
ck (Nat.beq (List.length l3) 3) (op' (lputAt 1 l3 [(AV.str ⟨1, 97⟩), (.int .i64 0), (.int .i32 0), (.int .i32 0), (.str ⟨0, 0⟩), (.bool false)]) fun l4 =>
op' (lputAt 4 [(AV.str ⟨1, 120⟩)] l4) fun l5 =>
c7 (AV.agg l5) h1 fun v7 x8 h6 =>
pushK (.cells false 23 [(.str ⟨0, 0⟩), (.str ⟨0, 0⟩), (.bool false)]) h6 fun n9 h10 =>
Go.Am.asAgg v7 fun l12 =>
stN 3 (AV.ptr n9 0) l12 h10 fun h11 =>
c20 ⟨1, 97⟩ h11 fun v14 x15 h13 =>
pushK (.cells false 23 [(.str ⟨0, 0⟩), (.str ⟨0, 0⟩), (.bool false)]) h13 fun n16 h17 =>
Go.Am.asAgg v14 fun l19 =>
stN 3 (AV.ptr n16 0) l19 h17 fun h18 =>
fB (Bool.not (eqI x8 (Int.ofNat 0))) fun b20 =>
J.jn (fun v21 h22 =>
J.jn (fun v24 h25 =>
pickB (AV.bool b20) (AV.bool true) v24 fun b29 =>
J.jn (fun v30 h31 =>
J.jn (fun v33 h34 =>
J.jn (fun v37 h38 =>
J.jn (fun v41 h42 =>
pickB (AV.bool b29) (AV.bool true) v41 fun b46 =>
J.jn (fun v47 h48 =>
J.jn (fun v50 h51 =>
J.jn (fun v54 h55 =>
J.jn (fun v58 h59 =>
pickB (AV.bool b46) (AV.bool true) v58 fun b63 =>
J.jn (fun v64 h65 =>
J.jn (fun v67 h68 =>
J.jn (fun v71 h72 =>
pickB (AV.bool b63) (AV.bool true) v71 fun b76 =>
J.jn (fun v77 h78 =>
J.jn (fun v80 h81 =>
pickB (AV.bool b76) (AV.bool true) v80 fun b84 =>
br b84 (
k false h81) (
ldS (AV.ptr n9 0) h81 fun s85 =>
ldS (AV.ptr n9 1) h81 fun s86 =>
c10 (AV.agg [(AV.str s85), (AV.str s86)]) h81 fun v88 x89 h87 =>
pushK (.cells false 31 [(.str ⟨0, 0⟩), (.int .i64 0), (.int .i32 0), (.int .i32 0), (.str ⟨0, 0⟩), (.bool false)]) h87 fun n90 h91 =>
Go.Am.asAgg v88 fun l93 =>
stN 6 (AV.ptr n90 0) l93 h91 fun h92 =>
ldN 3 (AV.ptr n16 0) h92 fun l94 =>
obK (aBin ty .eql 23 false (AV.agg l94) (AV.agg [(AV.str ⟨4, 1767964673⟩), (.str ⟨0, 0⟩), (AV.bool true)])) fun b95 =>
J.jn (fun v96 h97 =>
J.jn (fun v99 h100 =>
pickB (AV.bool b95) v99 (AV.bool false) fun b104 =>
J.jb (fun b105 v106 =>
J.jn (fun v109 h110 =>
ck (Bool.rec (motive := fun _ => Bool) true (readsSo (aLoadN 6 (AV.ptr n90 0) h110) v106) b105) (
J.jn (fun v114 h115 =>
J.jn (fun v120 h121 =>
pickB (AV.bool b104) v120 (AV.bool false) fun b124 =>
k b124 h121) fun j122 =>
br b104 (
obK (aBin ty .eql 31 false v106 v114) fun b123 =>
j122 (AV.bool b123) h115) (
j122 skipV h115)) fun j116 =>
br b104 (
Go.Am.asAgg v109 fun l117 =>
ck (Nat.beq (List.length l117) 3) (op' (lputAt 1 l117 [(AV.str ⟨1, 97⟩), (.int .i64 0), (.int .i32 0), (.int .i32 0), (.str ⟨0, 0⟩), (.bool false)]) fun l118 =>
op' (lputAt 4 [(AV.str ⟨1, 120⟩)] l118) fun l119 =>
j116 (AV.agg l119) h110)) (
j116 skipV h110))) fun j111 =>
br b104 (
c8 (Int.ofNat 1) (Int.ofNat 0) (Int.ofNat 0) h100 fun v113 h112 =>
j111 v113 h112) (
j111 skipV h100)) fun j107 =>
br b104 (
ldN 6 (AV.ptr n90 0) h100 fun l108 =>
j107 true (AV.agg l108)) (
j107 false skipV)) fun j101 =>
br b95 (
asI .i64 v96 fun x102 =>
fB (eqI x102 (Int.ofNat 0)) fun b103 =>
j101 (AV.bool b103) h97) (
j101 skipV h97)) fun j98 =>
br b95 (
j98 (AV.int .i64 x89) h92) (
j98 skipV h92))) fun j82 =>
br b76 (
j82 skipV h78) (
ldB v77 h78 fun b83 =>
j82 (AV.bool b83) h78)) fun j79 =>
br b76 (
j79 skipV h72) (
j79 (AV.ptr n9 2) h72)) fun j73 =>
br b63 (
j73 skipV h68) (
asS v67 fun s74 =>
fB (Bool.not (Str.beq s74 (⟨2, 120⟩ : Str))) fun b75 =>
j73 (AV.bool b75) h68)) fun j69 =>
br b63 (
j69 skipV h65) (
ldS v64 h65 fun s70 =>
j69 (AV.str s70) h65)) fun j66 =>
br b63 (
j66 skipV h59) (
j66 (AV.ptr n9 1) h59)) fun j60 =>
br b46 (
j60 skipV h55) (
asS v54 fun s61 =>
fB (Bool.not (Str.beq s61 (⟨4, 1667301377⟩ : Str))) fun b62 =>
j60 (AV.bool b62) h55)) fun j56 =>
br b46 (
j56 skipV h51) (
subK v50 none (some (AV.int .i64 (Int.ofNat 4))) fun s57 =>
j56 (AV.str s57) h51)) fun j52 =>
br b46 (
j52 skipV h48) (
ldS v47 h48 fun s53 =>
j52 (AV.str s53) h48)) fun j49 =>
br b46 (
j49 skipV h42) (
j49 (AV.ptr n9 0) h42)) fun j43 =>
br b29 (
j43 skipV h38) (
asI .i64 v37 fun x44 =>
fB (Bool.not (eqI x44 (Int.ofNat 20))) fun b45 =>
j43 (AV.bool b45) h38)) fun j39 =>
br b29 (
j39 skipV h34) (
asS v33 fun s40 =>
j39 (AV.int .i64 (Int.ofNat s40.len)) h34)) fun j35 =>
br b29 (
j35 skipV h31) (
ldS v30 h31 fun s36 =>
j35 (AV.str s36) h31)) fun j32 =>
br b29 (
j32 skipV h25) (
j32 (AV.ptr n9 0) h25)) fun j26 =>
br b20 (
j26 skipV h22) (
asI .i64 v21 fun x27 =>
fB (Bool.not (eqI x27 (Int.ofNat 0))) fun b28 =>
j26 (AV.bool b28) h22)) fun j23 =>
br b20 (
j23 skipV h18) (
j23 (AV.int .i64 x15) h18))
noncomputable def s9 : H → (Bool → H → Prop) → Prop := s9G J0 s7 s8 s10 s20
noncomputable def w9 (c : H → (Bool → H → Prop) → Prop) : Fun := fun xs h k => noArg xs <| c  h fun r0 h => k (.bool r0) h
theorem s9_eq (J : Joins) (c7 : AV → H → (AV → Int → H → Prop) → Prop) (c8 : Int → Int → Int → H → (AV → H → Prop) → Prop) (c10 : AV → H → (AV → Int → H → Prop) → Prop) (c20 : Str → H → (AV → Int → H → Prop) → Prop)  (h : H) (k : AV → H → Prop) : denF ty (gam J [(7, w7 c7), (8, w8 c8), (10, w10 c10), (20, w20 c20)]) Try.f9 [] h k = s9G J c7 c8 c10 c20  h (fun r0 h => k (.bool r0) h) := by kernel_rfl
noncomputable def g9 : Fun := w9 s9
theorem g9_ok : FunOk Try.prog 9 g9 := (fun_ok ty_ok mixed (gam_ok (J := J0) (tab_cons g7_ok (tab_cons g8_ok (tab_cons g10_ok (tab_cons g20_ok (tab_nil fls_fun)))))) Try.func9 (fun args w => by simp)).imp fun xs h k e0 => by
  obtain ⟨rfl, e1⟩ := noArg_imp e0
  exact (s9_eq J0 s7 s8 s10 s20  h k).mpr e1
/-- stagepost/stagepostref23.user -/
noncomputable def s43G (J : Joins) (a0 : Str) (h : H) (k : Bool → H → Prop) : Prop :=
fB (Bool.not (ltI (Int.ofNat a0.len) (Int.ofNat 1))) fun b1 =>
J.jn (fun v2 h3 =>
J.jn (fun v5 h6 =>
J.jn (fun v9 h10 =>
pickB (AV.bool b1) v9 (AV.bool false) fun b14 =>
k b14 h10) fun j11 =>
br b1 (
asI .i64 v5 fun x12 =>
fB (Bool.not (ltI (Int.ofNat 128) x12)) fun b13 =>
j11 (AV.bool b13) h6) (
j11 skipV h6)) fun j7 =>
br b1 (
asS v2 fun s8 =>
j7 (AV.int .i64 (Int.ofNat s8.len)) h3) (
j7 skipV h3)) fun j4 =>
br b1 (
j4 (AV.str a0) h) (
j4 skipV h)
noncomputable def s43 : Str → H → (Bool → H → Prop) → Prop := s43G J0 
noncomputable def w43 (c : Str → H → (Bool → H → Prop) → Prop) : Fun := fun xs h k => arg xs fun a0 xs => noArg xs <| asS a0 fun a0 => c a0 h fun r0 h => k (.bool r0) h
theorem s43_eq (J : Joins) (a0 : Str) (h : H) (k : AV → H → Prop) : denF ty (gam J []) Try.f43 [(.str a0)] h k = s43G J  a0 h (fun r0 h => k (.bool r0) h) := by kernel_rfl
noncomputable def g43 : Fun := w43 s43
theorem g43_ok : FunOk Try.prog 43 g43 := (fun_ok ty_ok mixed (gam_ok (J := J0) (tab_nil fls_fun)) Try.func43 (fun args w => by simp)).imp fun xs h k e0 => by
  obtain ⟨a0, xs0, rfl, e1⟩ := arg_imp e0
  obtain ⟨rfl, e2⟩ := noArg_imp e1
  obtain ⟨a0, rfl, e3⟩ := asS_iff.1 e2
  exact (s43_eq J0  a0 h k).mpr e3
/-- stagepost/stagepostref23.worth -/
noncomputable def s44G (J : Joins) (a0 : Str) (a1 : Bool) (h : H) (k : Bool → H → Prop) : Prop :=
fB (Bool.not (ltI (Int.ofNat 2048) (Int.ofNat a0.len))) fun b1 =>
J.jn (fun v2 h3 =>
J.jn (fun v5 h6 =>
J.jn (fun v10 h11 =>
J.jn (fun v13 h14 =>
J.jn (fun v16 h17 =>
J.jn (fun v21 h22 =>
pickB (AV.bool b1) v21 (AV.bool false) fun b25 =>
k b25 h22) fun j23 =>
br b1 (
pickB v10 (AV.bool true) v16 fun b24 =>
j23 (AV.bool b24) h17) (
j23 skipV h17)) fun j18 =>
asBU v10 (fun b26 =>
br b26 (
j18 skipV h14) (
asS v13 fun s19 =>
fB (Str.beq s19 (⟨0, 0⟩ : Str)) fun b20 =>
j18 (AV.bool b20) h14)) (
j18 skipV h14)) fun j15 =>
asBU v10 (fun b27 =>
br b27 (
j15 skipV h11) (
j15 (AV.str a0) h11)) (
j15 skipV h11)) fun j12 =>
br b1 (
j12 v5 h6) (
j12 skipV h6)) fun j7 =>
br b1 (
asB v2 fun b8 =>
fB (Bool.not b8) fun b9 =>
j7 (AV.bool b9) h3) (
j7 skipV h3)) fun j4 =>
br b1 (
j4 (AV.bool a1) h) (
j4 skipV h)
noncomputable def s44 : Str → Bool → H → (Bool → H → Prop) → Prop := s44G J0 
noncomputable def w44 (c : Str → Bool → H → (Bool → H → Prop) → Prop) : Fun := fun xs h k => arg xs fun a0 xs => arg xs fun a1 xs => noArg xs <| asS a0 fun a0 => asB a1 fun a1 => c a0 a1 h fun r0 h => k (.bool r0) h
theorem s44_eq (J : Joins) (a0 : Str) (a1 : Bool) (h : H) (k : AV → H → Prop) : denF ty (gam J []) Try.f44 [(.str a0), (.bool a1)] h k = s44G J  a0 a1 h (fun r0 h => k (.bool r0) h) := by kernel_rfl
noncomputable def g44 : Fun := w44 s44
theorem g44_ok : FunOk Try.prog 44 g44 := (fun_ok ty_ok mixed (gam_ok (J := J0) (tab_nil fls_fun)) Try.func44 (fun args w => by simp)).imp fun xs h k e0 => by
  obtain ⟨a0, xs0, rfl, e1⟩ := arg_imp e0
  obtain ⟨a1, xs1, rfl, e2⟩ := arg_imp e1
  obtain ⟨rfl, e3⟩ := noArg_imp e2
  obtain ⟨a0, rfl, e4⟩ := asS_iff.1 e3
  obtain ⟨a1, rfl, e5⟩ := asB_iff.1 e4
  exact (s44_eq J0  a0 a1 h k).mpr e5
/-- stagepost/stagepostref20.Check -/
noncomputable def s45G (J : Joins) (a0 : AV) (h : H) (k : Int → H → Prop) : Prop :=
Go.Am.asAgg a0 fun l3 =>
pushK (.cells false 28 l3) h fun n1 h2 =>
ldI .i64 (AV.ptr n1 0) h2 fun x4 =>
fB (ltI x4 (Int.ofNat 0)) fun b5 =>
J.jn (fun v6 h7 =>
J.jn (fun v9 h10 =>
J.jn (fun v13 h14 =>
pickB (AV.bool b5) (AV.bool true) v13 fun b18 =>
J.jn (fun v19 h20 =>
J.jn (fun v22 h23 =>
J.jn (fun v26 h27 =>
pickB (AV.bool b18) (AV.bool true) v26 fun b31 =>
J.jn (fun v32 h33 =>
J.jn (fun v35 h36 =>
J.jn (fun v39 h40 =>
pickB (AV.bool b31) (AV.bool true) v39 fun b44 =>
J.jn (fun v45 h46 =>
J.jn (fun v48 h49 =>
J.jn (fun v52 h53 =>
pickB (AV.bool b44) (AV.bool true) v52 fun b57 =>
J.jn (fun v58 h59 =>
J.jn (fun v61 h62 =>
J.jn (fun v65 h66 =>
pickB (AV.bool b57) (AV.bool true) v65 fun b70 =>
br b70 (
k (Int.ofNat 2) h66) (
k (Int.ofNat 0) h66)) fun j67 =>
br b57 (
j67 skipV h62) (
asI .i32 v61 fun x68 =>
fB (ltI (Int.ofNat 1048576) x68) fun b69 =>
j67 (AV.bool b69) h62)) fun j63 =>
br b57 (
j63 skipV h59) (
ldI .i32 v58 h59 fun x64 =>
j63 (AV.int .i32 x64) h59)) fun j60 =>
br b57 (
j60 skipV h53) (
j60 (AV.ptr n1 2) h53)) fun j54 =>
br b44 (
j54 skipV h49) (
asI .i32 v48 fun x55 =>
fB (ltI x55 (Int.ofNat 0)) fun b56 =>
j54 (AV.bool b56) h49)) fun j50 =>
br b44 (
j50 skipV h46) (
ldI .i32 v45 h46 fun x51 =>
j50 (AV.int .i32 x51) h46)) fun j47 =>
br b44 (
j47 skipV h40) (
j47 (AV.ptr n1 2) h40)) fun j41 =>
br b31 (
j41 skipV h36) (
asI .i32 v35 fun x42 =>
fB (ltI (Int.ofNat 1048576) x42) fun b43 =>
j41 (AV.bool b43) h36)) fun j37 =>
br b31 (
j37 skipV h33) (
ldI .i32 v32 h33 fun x38 =>
j37 (AV.int .i32 x38) h33)) fun j34 =>
br b31 (
j34 skipV h27) (
j34 (AV.ptr n1 1) h27)) fun j28 =>
br b18 (
j28 skipV h23) (
asI .i32 v22 fun x29 =>
fB (ltI x29 (Int.ofNat 0)) fun b30 =>
j28 (AV.bool b30) h23)) fun j24 =>
br b18 (
j24 skipV h20) (
ldI .i32 v19 h20 fun x25 =>
j24 (AV.int .i32 x25) h20)) fun j21 =>
br b18 (
j21 skipV h14) (
j21 (AV.ptr n1 1) h14)) fun j15 =>
br b5 (
j15 skipV h10) (
asI .i64 v9 fun x16 =>
fB (ltI (Int.ofNat 1099511627776) x16) fun b17 =>
j15 (AV.bool b17) h10)) fun j11 =>
br b5 (
j11 skipV h7) (
ldI .i64 v6 h7 fun x12 =>
j11 (AV.int .i64 x12) h7)) fun j8 =>
br b5 (
j8 skipV h2) (
j8 (AV.ptr n1 0) h2)
noncomputable def s45 : AV → H → (Int → H → Prop) → Prop := s45G J0 
noncomputable def w45 (c : AV → H → (Int → H → Prop) → Prop) : Fun := fun xs h k => arg xs fun a0 xs => noArg xs <| c a0 h fun r0 h => k (.int .i64 r0) h
theorem s45_eq (J : Joins) (a0 : AV) (h : H) (k : AV → H → Prop) : denF ty (gam J []) Try.f45 [a0] h k = s45G J  a0 h (fun r0 h => k (.int .i64 r0) h) := by kernel_rfl
noncomputable def g45 : Fun := w45 s45
theorem g45_ok : FunOk Try.prog 45 g45 := (fun_ok ty_ok mixed (gam_ok (J := J0) (tab_nil fls_fun)) Try.func45 (fun args w => by simp)).imp fun xs h k e0 => by
  obtain ⟨a0, xs0, rfl, e1⟩ := arg_imp e0
  obtain ⟨rfl, e2⟩ := noArg_imp e1
  exact (s45_eq J0  a0 h k).mpr e2
/-- stagepost/stagepostref23.CheckCell -/
noncomputable def s15G (J : Joins) (c43 : Str → H → (Bool → H → Prop) → Prop) (c44 : Str → Bool → H → (Bool → H → Prop) → Prop) (c45 : AV → H → (Int → H → Prop) → Prop) (a0 : AV) (h : H) (k : Int → H → Prop) : Prop :=
Go.Am.asAgg a0 fun l3 =>
pushK (.cells false 31 l3) h fun n1 h2 =>
ldS (AV.ptr n1 0) h2 fun s4 =>
c43 s4 h2 fun b6 h5 =>
fB (Bool.not b6) fun b7 =>
J.jn (fun v8 h9 =>
J.jn (fun v11 h12 =>
J.jn (fun v15 h16 =>
J.jn (fun v18 h19 =>
J.jn (fun v22 h23 =>
J.jn (fun v29 h30 =>
pickB (AV.bool b7) (AV.bool true) v29 fun b34 =>
J.jn (fun v35 h36 =>
J.jn (fun v38 h39 =>
J.jn (fun v42 h43 =>
J.jn (fun v47 h48 =>
pickB (AV.bool b34) (AV.bool true) v47 fun b52 =>
br b52 (
k (Int.ofNat 2) h48) (
k (Int.ofNat 0) h48)) fun j49 =>
br b34 (
j49 skipV h43) (
asI .i64 v42 fun x50 =>
fB (Bool.not (eqI x50 (Int.ofNat 0))) fun b51 =>
j49 (AV.bool b51) h43)) fun j44 =>
br b34 (
j44 skipV h39) (
c45 v38 h39 fun x46 h45 =>
j44 (AV.int .i64 x46) h45)) fun j40 =>
br b34 (
j40 skipV h36) (
ldN 3 v35 h36 fun l41 =>
j40 (AV.agg l41) h36)) fun j37 =>
br b34 (
j37 skipV h30) (
j37 (AV.ptr n1 1) h30)) fun j31 =>
br b7 (
j31 skipV h23) (
asB v22 fun b32 =>
fB (Bool.not b32) fun b33 =>
j31 (AV.bool b33) h23)) fun j24 =>
br b7 (
j24 skipV h19) (
asS v11 fun s26 =>
asB v18 fun b27 =>
c44 s26 b27 h19 fun b28 h25 =>
j24 (AV.bool b28) h25)) fun j20 =>
br b7 (
j20 skipV h16) (
ldB v15 h16 fun b21 =>
j20 (AV.bool b21) h16)) fun j17 =>
br b7 (
j17 skipV h12) (
j17 (AV.ptr n1 5) h12)) fun j13 =>
br b7 (
j13 skipV h9) (
ldS v8 h9 fun s14 =>
j13 (AV.str s14) h9)) fun j10 =>
br b7 (
j10 skipV h5) (
j10 (AV.ptr n1 4) h5)
noncomputable def s15 : AV → H → (Int → H → Prop) → Prop := s15G J0 s43 s44 s45
noncomputable def w15 (c : AV → H → (Int → H → Prop) → Prop) : Fun := fun xs h k => arg xs fun a0 xs => noArg xs <| c a0 h fun r0 h => k (.int .i64 r0) h
theorem s15_eq (J : Joins) (c43 : Str → H → (Bool → H → Prop) → Prop) (c44 : Str → Bool → H → (Bool → H → Prop) → Prop) (c45 : AV → H → (Int → H → Prop) → Prop) (a0 : AV) (h : H) (k : AV → H → Prop) : denF ty (gam J [(43, w43 c43), (44, w44 c44), (45, w45 c45)]) Try.f15 [a0] h k = s15G J c43 c44 c45 a0 h (fun r0 h => k (.int .i64 r0) h) := by kernel_rfl
noncomputable def g15 : Fun := w15 s15
theorem g15_ok : FunOk Try.prog 15 g15 := (fun_ok ty_ok mixed (gam_ok (J := J0) (tab_cons g43_ok (tab_cons g44_ok (tab_cons g45_ok (tab_nil fls_fun))))) Try.func15 (fun args w => by simp)).imp fun xs h k e0 => by
  obtain ⟨a0, xs0, rfl, e1⟩ := arg_imp e0
  obtain ⟨rfl, e2⟩ := noArg_imp e1
  exact (s15_eq J0 s43 s44 s45 a0 h k).mpr e2
/-- stagepost/stagepostref23.middle -/
noncomputable def s38G (J : Joins) (a0 : Str) (h : H) (k : Str → H → Prop) : Prop :=
J.lp (α := AV × AV × AV × Unit) (fun r4 v1 d2 h3 =>
asS v1.1 fun s5 =>
asI .i64 v1.2.2.1 fun x6 =>
fB (ltI x6 (Int.ofNat s5.len)) fun b7 =>
br b7 (
J.jd (α := AV × AV × AV × Unit) (fun v8 d9 h10 =>
asI .i64 v8.2.2.1 fun x12 =>
fI (wrapF .i64 (Int.add x12 (Int.ofNat 1))) fun x13 =>
r4 (v8.1, v8.2.1, (AV.int .i64 x13), ()) d9 h10) fun j11 =>
ixsK v1.1 v1.2.2.1 fun x14 =>
op' (asRow true 5 [(AV.int .u8 x14)]) fun k17 =>
pushK k17 h3 fun n15 h16 =>
apB (.slice 5) 5 v1.2.1 (AV.slice n15 0 1 1 1 true) h16 fun v18 h19 =>
ixsK v1.1 v1.2.2.1 fun x20 =>
fB (eqI x20 (Int.ofNat 0)) fun b21 =>
br b21 (
op' (asRow true 5 [(AV.int .u8 (Int.ofNat 255))]) fun k24 =>
pushK k24 h19 fun n22 h23 =>
apB (.slice 5) 5 v18 (AV.slice n22 0 1 1 1 true) h23 fun v25 h26 =>
j11 (v1.1, v25, v1.2.2.1, ()) d2 h26) (
j11 (v1.1, v18, v1.2.2.1, ()) d2 h19)) (
op' (asRow true 5 [(AV.int .u8 (Int.ofNat 0)), (AV.int .u8 (Int.ofNat 1))]) fun k29 =>
pushK k29 h3 fun n27 h28 =>
apB (.slice 5) 5 v1.2.1 (AV.slice n27 0 2 2 1 true) h28 fun v30 h31 =>
toStrK v30 h31 fun s32 =>
leaveK (gam J []) d2 h31 fun h33 =>
k s32 h33)) ((AV.str a0), AV.nils, (AV.int .i64 (Int.ofNat 0)), ()) [] h
noncomputable def s38 : Str → H → (Str → H → Prop) → Prop := s38G J0 
noncomputable def w38 (c : Str → H → (Str → H → Prop) → Prop) : Fun := fun xs h k => arg xs fun a0 xs => noArg xs <| asS a0 fun a0 => c a0 h fun r0 h => k (.str r0) h
theorem s38_eq (J : Joins) (a0 : Str) (h : H) (k : AV → H → Prop) : denF ty (gam J []) Try.f38 [(.str a0)] h k = s38G J  a0 h (fun r0 h => k (.str r0) h) := by kernel_rfl
noncomputable def g38 : Fun := w38 s38
theorem g38_ok : FunOk Try.prog 38 g38 := (fun_ok ty_ok mixed (gam_ok (J := J0) (tab_nil fls_fun)) Try.func38 (fun args w => by simp)).imp fun xs h k e0 => by
  obtain ⟨a0, xs0, rfl, e1⟩ := arg_imp e0
  obtain ⟨rfl, e2⟩ := noArg_imp e1
  obtain ⟨a0, rfl, e3⟩ := asS_iff.1 e2
  exact (s38_eq J0  a0 h k).mpr e3
/-- stagepost/stagepostref01.eight -/
noncomputable def s81G (J : Joins) (a0 : Int) (h : H) (k : AV → H → Prop) : Prop :=
J.lp (α := AV × AV × AV × Unit) (fun r4 v1 d2 h3 =>
asI .i64 v1.2.2.1 fun x5 =>
fB (ltI x5 (Int.ofNat 8)) fun b6 =>
br b6 (
asI .i64 v1.2.2.1 fun x7 =>
fI (wrapF .i64 (Int.mul (Int.ofNat 8) x7)) fun x8 =>
fI (wrapF .i64 (Int.sub (Int.ofNat 56) x8)) fun x9 =>
asI .u64 v1.1 fun x10 =>
asNat (AV.int .i64 x9) fun n11 =>
fI (shrF x10 (nmin n11 (IntKind.bits .u64))) fun x12 =>
fI (wrapF .u8 x12) fun x13 =>
op' (asRow true 5 [(AV.int .u8 x13)]) fun k16 =>
pushK k16 h3 fun n14 h15 =>
apB (.slice 5) 5 v1.2.1 (AV.slice n14 0 1 1 1 true) h15 fun v17 h18 =>
asI .i64 v1.2.2.1 fun x19 =>
fI (wrapF .i64 (Int.add x19 (Int.ofNat 1))) fun x20 =>
r4 (v1.1, v17, (AV.int .i64 x20), ()) d2 h18) (
leaveK (gam J []) d2 h3 fun h21 =>
k v1.2.1 h21)) ((AV.int .u64 a0), AV.nils, (AV.int .i64 (Int.ofNat 0)), ()) [] h
noncomputable def s81 : Int → H → (AV → H → Prop) → Prop := s81G J0 
noncomputable def w81 (c : Int → H → (AV → H → Prop) → Prop) : Fun := fun xs h k => arg xs fun a0 xs => noArg xs <| asI .u64 a0 fun a0 => c a0 h fun r0 h => k r0 h
theorem s81_eq (J : Joins) (a0 : Int) (h : H) (k : AV → H → Prop) : denF ty (gam J []) Try.f81 [(.int .u64 a0)] h k = s81G J  a0 h (fun r0 h => k r0 h) := by kernel_rfl
noncomputable def g81 : Fun := w81 s81
theorem g81_ok : FunOk Try.prog 81 g81 := (fun_ok ty_ok mixed (gam_ok (J := J0) (tab_nil fls_fun)) Try.func81 (fun args w => by simp)).imp fun xs h k e0 => by
  obtain ⟨a0, xs0, rfl, e1⟩ := arg_imp e0
  obtain ⟨rfl, e2⟩ := noArg_imp e1
  obtain ⟨a0, rfl, e3⟩ := asI_iff.1 e2
  exact (s81_eq J0  a0 h k).mpr e3
/-- stagepost/stagepostref01.Stamp -/
noncomputable def s68G (J : Joins) (c81 : Int → H → (AV → H → Prop) → Prop) (a0 : AV) (h : H) (k : Str → Int → H → Prop) : Prop :=
Go.Am.asAgg a0 fun l3 =>
pushK (.cells false 28 l3) h fun n1 h2 =>
ldI .i64 (AV.ptr n1 0) h2 fun x4 =>
fB (ltI x4 (Int.ofNat 0)) fun b5 =>
J.jn (fun v6 h7 =>
J.jn (fun v9 h10 =>
J.jn (fun v13 h14 =>
pickB (AV.bool b5) (AV.bool true) v13 fun b18 =>
J.jn (fun v19 h20 =>
J.jn (fun v22 h23 =>
J.jn (fun v26 h27 =>
pickB (AV.bool b18) (AV.bool true) v26 fun b31 =>
J.jn (fun v32 h33 =>
J.jn (fun v35 h36 =>
J.jn (fun v39 h40 =>
pickB (AV.bool b31) (AV.bool true) v39 fun b44 =>
J.jn (fun v45 h46 =>
J.jn (fun v48 h49 =>
J.jn (fun v52 h53 =>
pickB (AV.bool b44) (AV.bool true) v52 fun b57 =>
J.jn (fun v58 h59 =>
J.jn (fun v61 h62 =>
J.jn (fun v65 h66 =>
pickB (AV.bool b57) (AV.bool true) v65 fun b70 =>
br b70 (
k ⟨0, 0⟩ (Int.ofNat 2) h66) (
ldI .i64 (AV.ptr n1 0) h66 fun x71 =>
fI (wrapF .u64 x71) fun x72 =>
fI (wrapF .u64 (Int.sub (Int.ofNat 9223372036854775807) x72)) fun x73 =>
c81 x73 h66 fun v75 h74 =>
ldI .i32 (AV.ptr n1 1) h74 fun x76 =>
fI (wrapF .u64 x76) fun x77 =>
fI (wrapF .u64 (Int.sub (Int.ofNat 2147483647) x77)) fun x78 =>
c81 x78 h74 fun v80 h79 =>
slK 1 v80 (some (AV.int .i64 (Int.ofNat 4))) none fun v81 =>
apB (.slice 5) 5 v75 v81 h79 fun v82 h83 =>
ldI .i32 (AV.ptr n1 2) h83 fun x84 =>
fI (wrapF .u64 x84) fun x85 =>
fI (wrapF .u64 (Int.sub (Int.ofNat 2147483647) x85)) fun x86 =>
c81 x86 h83 fun v88 h87 =>
slK 1 v88 (some (AV.int .i64 (Int.ofNat 4))) none fun v89 =>
apB (.slice 5) 5 v82 v89 h87 fun v90 h91 =>
toStrK v90 h91 fun s92 =>
k s92 (Int.ofNat 0) h91)) fun j67 =>
br b57 (
j67 skipV h62) (
asI .i32 v61 fun x68 =>
fB (ltI (Int.ofNat 1048576) x68) fun b69 =>
j67 (AV.bool b69) h62)) fun j63 =>
br b57 (
j63 skipV h59) (
ldI .i32 v58 h59 fun x64 =>
j63 (AV.int .i32 x64) h59)) fun j60 =>
br b57 (
j60 skipV h53) (
j60 (AV.ptr n1 2) h53)) fun j54 =>
br b44 (
j54 skipV h49) (
asI .i32 v48 fun x55 =>
fB (ltI x55 (Int.ofNat 0)) fun b56 =>
j54 (AV.bool b56) h49)) fun j50 =>
br b44 (
j50 skipV h46) (
ldI .i32 v45 h46 fun x51 =>
j50 (AV.int .i32 x51) h46)) fun j47 =>
br b44 (
j47 skipV h40) (
j47 (AV.ptr n1 2) h40)) fun j41 =>
br b31 (
j41 skipV h36) (
asI .i32 v35 fun x42 =>
fB (ltI (Int.ofNat 1048576) x42) fun b43 =>
j41 (AV.bool b43) h36)) fun j37 =>
br b31 (
j37 skipV h33) (
ldI .i32 v32 h33 fun x38 =>
j37 (AV.int .i32 x38) h33)) fun j34 =>
br b31 (
j34 skipV h27) (
j34 (AV.ptr n1 1) h27)) fun j28 =>
br b18 (
j28 skipV h23) (
asI .i32 v22 fun x29 =>
fB (ltI x29 (Int.ofNat 0)) fun b30 =>
j28 (AV.bool b30) h23)) fun j24 =>
br b18 (
j24 skipV h20) (
ldI .i32 v19 h20 fun x25 =>
j24 (AV.int .i32 x25) h20)) fun j21 =>
br b18 (
j21 skipV h14) (
j21 (AV.ptr n1 1) h14)) fun j15 =>
br b5 (
j15 skipV h10) (
asI .i64 v9 fun x16 =>
fB (ltI (Int.ofNat 1099511627776) x16) fun b17 =>
j15 (AV.bool b17) h10)) fun j11 =>
br b5 (
j11 skipV h7) (
ldI .i64 v6 h7 fun x12 =>
j11 (AV.int .i64 x12) h7)) fun j8 =>
br b5 (
j8 skipV h2) (
j8 (AV.ptr n1 0) h2)
noncomputable def s68 : AV → H → (Str → Int → H → Prop) → Prop := s68G J0 s81
noncomputable def w68 (c : AV → H → (Str → Int → H → Prop) → Prop) : Fun := fun xs h k => arg xs fun a0 xs => noArg xs <| c a0 h fun r0 r1 h => k (.tuple [(.str r0), (.int .i64 r1)]) h
theorem s68_eq (J : Joins) (c81 : Int → H → (AV → H → Prop) → Prop) (a0 : AV) (h : H) (k : AV → H → Prop) : denF ty (gam J [(81, w81 c81)]) Try.f68 [a0] h k = s68G J c81 a0 h (fun r0 r1 h => k (.tuple [(.str r0), (.int .i64 r1)]) h) := by kernel_rfl
noncomputable def g68 : Fun := w68 s68
theorem g68_ok : FunOk Try.prog 68 g68 := (fun_ok ty_ok mixed (gam_ok (J := J0) (tab_cons g81_ok (tab_nil fls_fun))) Try.func68 (fun args w => by simp)).imp fun xs h k e0 => by
  obtain ⟨a0, xs0, rfl, e1⟩ := arg_imp e0
  obtain ⟨rfl, e2⟩ := noArg_imp e1
  exact (s68_eq J0 s81 a0 h k).mpr e2
/-- stagepost/stagepostref23.stamp -/
noncomputable def s39G (J : Joins) (c68 : AV → H → (Str → Int → H → Prop) → Prop) (a0 : AV) (h : H) (k : Str → H → Prop) : Prop :=
Go.Am.asAgg a0 fun l3 =>
pushK (.cells false 28 l3) h fun n1 h2 =>
ldN 3 (AV.ptr n1 0) h2 fun l4 =>
c68 (AV.agg l4) h2 fun s6 x7 h5 =>
k s6 h5
noncomputable def s39 : AV → H → (Str → H → Prop) → Prop := s39G J0 s68
noncomputable def w39 (c : AV → H → (Str → H → Prop) → Prop) : Fun := fun xs h k => arg xs fun a0 xs => noArg xs <| c a0 h fun r0 h => k (.str r0) h
theorem s39_eq (J : Joins) (c68 : AV → H → (Str → Int → H → Prop) → Prop) (a0 : AV) (h : H) (k : AV → H → Prop) : denF ty (gam J [(68, w68 c68)]) Try.f39 [a0] h k = s39G J c68 a0 h (fun r0 h => k (.str r0) h) := by kernel_rfl
noncomputable def g39 : Fun := w39 s39
theorem g39_ok : FunOk Try.prog 39 g39 := (fun_ok ty_ok mixed (gam_ok (J := J0) (tab_cons g68_ok (tab_nil fls_fun))) Try.func39 (fun args w => by simp)).imp fun xs h k e0 => by
  obtain ⟨a0, xs0, rfl, e1⟩ := arg_imp e0
  obtain ⟨rfl, e2⟩ := noArg_imp e1
  exact (s39_eq J0 s68 a0 h k).mpr e2
/-- stagepost/stagepostref23.end -/
noncomputable def s40G (J : Joins) (a0 : AV) (a1 : Str) (a2 : Bool) (h : H) (k : Str → H → Prop) : Prop :=
J.jd (α := AV × AV × AV × Unit) (fun v1 d2 h3 =>
asI .u8 v1.2.2.1 fun x7 =>
op' (asRow true 5 [(AV.int .u8 x7)]) fun k8 =>
pushK k8 h3 fun n5 h6 =>
apB (.slice 5) 5 v1.1 (AV.slice n5 0 1 1 1 true) h6 fun v9 h10 =>
apB .str 5 v9 v1.2.1 h10 fun v11 h12 =>
toStrK v11 h12 fun s13 =>
leaveK (gam J []) d2 h12 fun h14 =>
k s13 h14) fun j4 =>
br a2 (
j4 (a0, (AV.str a1), (AV.int .u8 (Int.ofNat 1)), ()) [] h) (
j4 (a0, (AV.str a1), (AV.int .u8 (Int.ofNat 0)), ()) [] h)
noncomputable def s40 : AV → Str → Bool → H → (Str → H → Prop) → Prop := s40G J0 
noncomputable def w40 (c : AV → Str → Bool → H → (Str → H → Prop) → Prop) : Fun := fun xs h k => arg xs fun a0 xs => arg xs fun a1 xs => arg xs fun a2 xs => noArg xs <| asS a1 fun a1 => asB a2 fun a2 => c a0 a1 a2 h fun r0 h => k (.str r0) h
theorem s40_eq (J : Joins) (a0 : AV) (a1 : Str) (a2 : Bool) (h : H) (k : AV → H → Prop) : denF ty (gam J []) Try.f40 [a0, (.str a1), (.bool a2)] h k = s40G J  a0 a1 a2 h (fun r0 h => k (.str r0) h) := by kernel_rfl
noncomputable def g40 : Fun := w40 s40
theorem g40_ok : FunOk Try.prog 40 g40 := (fun_ok ty_ok mixed (gam_ok (J := J0) (tab_nil fls_fun)) Try.func40 (fun args w => by simp)).imp fun xs h k e0 => by
  obtain ⟨a0, xs0, rfl, e1⟩ := arg_imp e0
  obtain ⟨a1, xs1, rfl, e2⟩ := arg_imp e1
  obtain ⟨a2, xs2, rfl, e3⟩ := arg_imp e2
  obtain ⟨rfl, e4⟩ := noArg_imp e3
  obtain ⟨a1, rfl, e5⟩ := asS_iff.1 e4
  obtain ⟨a2, rfl, e6⟩ := asB_iff.1 e5
  exact (s40_eq J0  a0 a1 a2 h k).mpr e6
/-- stagepost/stagepostref23.Put -/
noncomputable def s12G (J : Joins) (c15 : AV → H → (Int → H → Prop) → Prop) (c38 : Str → H → (Str → H → Prop) → Prop) (c39 : AV → H → (Str → H → Prop) → Prop) (c40 : AV → Str → Bool → H → (Str → H → Prop) → Prop) (a0 : AV) (h : H) (k : AV → Int → H → Prop) : Prop :=
Go.Am.asAgg a0 fun l3 =>
pushK (.cells false 31 l3) h fun n1 h2 =>
pushK (.cells false 23 [(.str ⟨0, 0⟩), (.str ⟨0, 0⟩), (.bool false)]) h2 fun n4 h5 =>
ldN 6 (AV.ptr n1 0) h5 fun l6 =>
c15 (AV.agg l6) h5 fun x8 h7 =>
fB (Bool.not (eqI x8 (Int.ofNat 0))) fun b9 =>
br b9 (
stN 3 (AV.ptr n4 0) [(.str ⟨0, 0⟩), (.str ⟨0, 0⟩), (.bool false)] h7 fun h10 =>
ldN 3 (AV.ptr n4 0) h10 fun l11 =>
k (AV.agg l11) x8 h10) (
ldS (AV.ptr n1 0) h7 fun s12 =>
ldN 3 (AV.ptr n1 1) h7 fun l13 =>
ldS (AV.ptr n1 4) h7 fun s14 =>
ldB (AV.ptr n1 5) h7 fun b15 =>
c38 s12 h7 fun s17 h16 =>
ck (readsSo (aLoad1 (AV.ptr n1 5) h16) (AV.bool b15)) (
ck (readsSo (aLoad1 (AV.ptr n1 4) h16) (AV.str s14)) (
ck (readsSo (aLoadN 3 (AV.ptr n1 1) h16) (AV.agg l13)) (
ck (Nat.ble (Nat.add (⟨1, 99⟩ : Str).len s17.len) 9223372036854775807) (fS (Str.cat (⟨1, 99⟩ : Str) s17) fun s18 =>
c39 (AV.agg l13) h16 fun s20 h19 =>
ck (readsSo (aLoad1 (AV.ptr n1 5) h19) (AV.bool b15)) (
ck (readsSo (aLoad1 (AV.ptr n1 4) h19) (AV.str s14)) (
ck (Nat.ble (Nat.add s18.len s20.len) 9223372036854775807) (fS (Str.cat s18 s20) fun s21 =>
c40 AV.nils s14 b15 h19 fun s23 h22 =>
stN 3 (AV.ptr n4 0) [(AV.str s21), (AV.str s23), (.bool false)] h22 fun h24 =>
ldN 3 (AV.ptr n4 0) h24 fun l25 =>
k (AV.agg l25) (Int.ofNat 0) h24))))))))
noncomputable def s12 : AV → H → (AV → Int → H → Prop) → Prop := s12G J0 s15 s38 s39 s40
noncomputable def w12 (c : AV → H → (AV → Int → H → Prop) → Prop) : Fun := fun xs h k => arg xs fun a0 xs => noArg xs <| c a0 h fun r0 r1 h => k (.tuple [r0, (.int .i64 r1)]) h
theorem s12_eq (J : Joins) (c15 : AV → H → (Int → H → Prop) → Prop) (c38 : Str → H → (Str → H → Prop) → Prop) (c39 : AV → H → (Str → H → Prop) → Prop) (c40 : AV → Str → Bool → H → (Str → H → Prop) → Prop) (a0 : AV) (h : H) (k : AV → H → Prop) : denF ty (gam J [(15, w15 c15), (38, w38 c38), (39, w39 c39), (40, w40 c40)]) Try.f12 [a0] h k = s12G J c15 c38 c39 c40 a0 h (fun r0 r1 h => k (.tuple [r0, (.int .i64 r1)]) h) := by kernel_rfl
noncomputable def g12 : Fun := w12 s12
theorem g12_ok : FunOk Try.prog 12 g12 := (fun_ok ty_ok mixed (gam_ok (J := J0) (tab_cons g15_ok (tab_cons g38_ok (tab_cons g39_ok (tab_cons g40_ok (tab_nil fls_fun)))))) Try.func12 (fun args w => by simp)).imp fun xs h k e0 => by
  obtain ⟨a0, xs0, rfl, e1⟩ := arg_imp e0
  obtain ⟨rfl, e2⟩ := noArg_imp e1
  exact (s12_eq J0 s15 s38 s39 s40 a0 h k).mpr e2
/-- stagepost/record.Tag -/
noncomputable def s46G (J : Joins) (a0 : AV) (h : H) (k : Int → Int → H → Prop) : Prop :=
Go.Am.asAgg a0 fun l3 =>
pushK (.cells false 39 l3) h fun n1 h2 =>
ldI .i32 (AV.ptr n1 0) h2 fun x4 =>
fB (ltI x4 (Int.ofNat 0)) fun b5 =>
J.jn (fun v6 h7 =>
J.jn (fun v9 h10 =>
J.jn (fun v13 h14 =>
pickB (AV.bool b5) (AV.bool true) v13 fun b18 =>
J.jn (fun v19 h20 =>
J.jn (fun v22 h23 =>
J.jn (fun v26 h27 =>
pickB (AV.bool b18) (AV.bool true) v26 fun b31 =>
J.jn (fun v32 h33 =>
J.jn (fun v35 h36 =>
J.jn (fun v39 h40 =>
pickB (AV.bool b31) (AV.bool true) v39 fun b44 =>
br b44 (
k (Int.ofNat 0) (Int.ofNat 2) h40) (
ldI .i32 (AV.ptr n1 1) h40 fun x45 =>
fI (wrapF .i32 (Int.mul x45 (Int.ofNat 8))) fun x46 =>
ldI .i32 (AV.ptr n1 0) h40 fun x47 =>
fI (wrapF .i32 (Int.add x46 x47)) fun x48 =>
k x48 (Int.ofNat 0) h40)) fun j41 =>
br b31 (
j41 skipV h36) (
asI .i32 v35 fun x42 =>
fB (ltI (Int.ofNat 100000) x42) fun b43 =>
j41 (AV.bool b43) h36)) fun j37 =>
br b31 (
j37 skipV h33) (
ldI .i32 v32 h33 fun x38 =>
j37 (AV.int .i32 x38) h33)) fun j34 =>
br b31 (
j34 skipV h27) (
j34 (AV.ptr n1 1) h27)) fun j28 =>
br b18 (
j28 skipV h23) (
asI .i32 v22 fun x29 =>
fB (ltI x29 (Int.ofNat 1)) fun b30 =>
j28 (AV.bool b30) h23)) fun j24 =>
br b18 (
j24 skipV h20) (
ldI .i32 v19 h20 fun x25 =>
j24 (AV.int .i32 x25) h20)) fun j21 =>
br b18 (
j21 skipV h14) (
j21 (AV.ptr n1 1) h14)) fun j15 =>
br b5 (
j15 skipV h10) (
asI .i32 v9 fun x16 =>
fB (Bool.not (ltI x16 (Int.ofNat 7))) fun b17 =>
j15 (AV.bool b17) h10)) fun j11 =>
br b5 (
j11 skipV h7) (
ldI .i32 v6 h7 fun x12 =>
j11 (AV.int .i32 x12) h7)) fun j8 =>
br b5 (
j8 skipV h2) (
j8 (AV.ptr n1 0) h2)
noncomputable def s46 : AV → H → (Int → Int → H → Prop) → Prop := s46G J0 
noncomputable def w46 (c : AV → H → (Int → Int → H → Prop) → Prop) : Fun := fun xs h k => arg xs fun a0 xs => noArg xs <| c a0 h fun r0 r1 h => k (.tuple [(.int .i32 r0), (.int .i64 r1)]) h
theorem s46_eq (J : Joins) (a0 : AV) (h : H) (k : AV → H → Prop) : denF ty (gam J []) Try.f46 [a0] h k = s46G J  a0 h (fun r0 r1 h => k (.tuple [(.int .i32 r0), (.int .i64 r1)]) h) := by kernel_rfl
noncomputable def g46 : Fun := w46 s46
theorem g46_ok : FunOk Try.prog 46 g46 := (fun_ok ty_ok mixed (gam_ok (J := J0) (tab_nil fls_fun)) Try.func46 (fun args w => by simp)).imp fun xs h k e0 => by
  obtain ⟨a0, xs0, rfl, e1⟩ := arg_imp e0
  obtain ⟨rfl, e2⟩ := noArg_imp e1
  exact (s46_eq J0  a0 h k).mpr e2
/-- stagepost/mvcc.CheckIntent -/
noncomputable def s16G (J : Joins) (c35 : Str → H → (Bool → H → Prop) → Prop) (c36 : Str → Bool → H → (Bool → H → Prop) → Prop) (c37 : AV → H → (Int → H → Prop) → Prop) (c46 : AV → H → (Int → Int → H → Prop) → Prop) (a0 : AV) (h : H) (k : Int → H → Prop) : Prop :=
Go.Am.asAgg a0 fun l3 =>
pushK (.cells false 41 l3) h fun n1 h2 =>
ldN 2 (AV.ptr n1 1) h2 fun l4 =>
c46 (AV.agg l4) h2 fun x6 x7 h5 =>
fB (Bool.not (eqI x7 (Int.ofNat 0))) fun b8 =>
J.jn (fun v9 h10 =>
J.jn (fun v12 h13 =>
J.jn (fun v16 h17 =>
J.jn (fun v22 h23 =>
pickB (AV.bool b8) (AV.bool true) v22 fun b27 =>
J.jn (fun v28 h29 =>
J.jn (fun v31 h32 =>
J.jn (fun v35 h36 =>
J.jn (fun v41 h42 =>
pickB (AV.bool b27) (AV.bool true) v41 fun b46 =>
J.jn (fun v47 h48 =>
J.jn (fun v50 h51 =>
J.jn (fun v54 h55 =>
J.jn (fun v57 h58 =>
J.jn (fun v61 h62 =>
J.jn (fun v68 h69 =>
pickB (AV.bool b46) (AV.bool true) v68 fun b73 =>
J.jn (fun v74 h75 =>
J.jn (fun v77 h78 =>
J.jn (fun v81 h82 =>
J.jn (fun v86 h87 =>
pickB (AV.bool b73) (AV.bool true) v86 fun b91 =>
J.jn (fun v92 h93 =>
J.jn (fun v95 h96 =>
J.jn (fun v99 h100 =>
J.jn (fun v104 h105 =>
pickB (AV.bool b91) (AV.bool true) v104 fun b109 =>
J.jn (fun v110 h111 =>
J.jn (fun v113 h114 =>
J.jn (fun v117 h118 =>
J.jn (fun v121 h122 =>
J.jn (fun v124 h125 =>
pickB (AV.bool b109) (AV.bool true) v124 fun b130 =>
br b130 (
k (Int.ofNat 2) h125) (
k (Int.ofNat 0) h125)) fun j126 =>
br b109 (
j126 skipV h122) (
asI .i32 v117 fun x127 =>
asI .i32 v121 fun x128 =>
fB (Bool.not (eqI x127 x128)) fun b129 =>
j126 (AV.bool b129) h122)) fun j123 =>
br b109 (
j123 skipV h118) (
j123 (AV.int .i32 x6) h118)) fun j119 =>
br b109 (
j119 skipV h114) (
ldI .i32 v113 h114 fun x120 =>
j119 (AV.int .i32 x120) h114)) fun j115 =>
br b109 (
j115 skipV h111) (
faK 2 v110 fun p116 =>
j115 p116 h111)) fun j112 =>
br b109 (
j112 skipV h105) (
j112 (AV.ptr n1 7) h105)) fun j106 =>
br b91 (
j106 skipV h100) (
asI .i64 v99 fun x107 =>
fB (Bool.not (eqI x107 (Int.ofNat 0))) fun b108 =>
j106 (AV.bool b108) h100)) fun j101 =>
br b91 (
j101 skipV h96) (
c37 v95 h96 fun x103 h102 =>
j101 (AV.int .i64 x103) h102)) fun j97 =>
br b91 (
j97 skipV h93) (
ldN 3 v92 h93 fun l98 =>
j97 (AV.agg l98) h93)) fun j94 =>
br b91 (
j94 skipV h87) (
j94 (AV.ptr n1 7) h87)) fun j88 =>
br b73 (
j88 skipV h82) (
asI .i64 v81 fun x89 =>
fB (Bool.not (eqI x89 (Int.ofNat 0))) fun b90 =>
j88 (AV.bool b90) h82)) fun j83 =>
br b73 (
j83 skipV h78) (
c37 v77 h78 fun x85 h84 =>
j83 (AV.int .i64 x85) h84)) fun j79 =>
br b73 (
j79 skipV h75) (
ldN 3 v74 h75 fun l80 =>
j79 (AV.agg l80) h75)) fun j76 =>
br b73 (
j76 skipV h69) (
j76 (AV.ptr n1 3) h69)) fun j70 =>
br b46 (
j70 skipV h62) (
asB v61 fun b71 =>
fB (Bool.not b71) fun b72 =>
j70 (AV.bool b72) h62)) fun j63 =>
br b46 (
j63 skipV h58) (
asS v50 fun s65 =>
asB v57 fun b66 =>
c36 s65 b66 h58 fun b67 h64 =>
j63 (AV.bool b67) h64)) fun j59 =>
br b46 (
j59 skipV h55) (
ldB v54 h55 fun b60 =>
j59 (AV.bool b60) h55)) fun j56 =>
br b46 (
j56 skipV h51) (
j56 (AV.ptr n1 11) h51)) fun j52 =>
br b46 (
j52 skipV h48) (
ldS v47 h48 fun s53 =>
j52 (AV.str s53) h48)) fun j49 =>
br b46 (
j49 skipV h42) (
j49 (AV.ptr n1 10) h42)) fun j43 =>
br b27 (
j43 skipV h36) (
asB v35 fun b44 =>
fB (Bool.not b44) fun b45 =>
j43 (AV.bool b45) h36)) fun j37 =>
br b27 (
j37 skipV h32) (
asS v31 fun s39 =>
c35 s39 h32 fun b40 h38 =>
j37 (AV.bool b40) h38)) fun j33 =>
br b27 (
j33 skipV h29) (
ldS v28 h29 fun s34 =>
j33 (AV.str s34) h29)) fun j30 =>
br b27 (
j30 skipV h23) (
j30 (AV.ptr n1 6) h23)) fun j24 =>
br b8 (
j24 skipV h17) (
asB v16 fun b25 =>
fB (Bool.not b25) fun b26 =>
j24 (AV.bool b26) h17)) fun j18 =>
br b8 (
j18 skipV h13) (
asS v12 fun s20 =>
c35 s20 h13 fun b21 h19 =>
j18 (AV.bool b21) h19)) fun j14 =>
br b8 (
j14 skipV h10) (
ldS v9 h10 fun s15 =>
j14 (AV.str s15) h10)) fun j11 =>
br b8 (
j11 skipV h5) (
j11 (AV.ptr n1 0) h5)
noncomputable def s16 : AV → H → (Int → H → Prop) → Prop := s16G J0 s35 s36 s37 s46
noncomputable def w16 (c : AV → H → (Int → H → Prop) → Prop) : Fun := fun xs h k => arg xs fun a0 xs => noArg xs <| c a0 h fun r0 h => k (.int .i64 r0) h
theorem s16_eq (J : Joins) (c35 : Str → H → (Bool → H → Prop) → Prop) (c36 : Str → Bool → H → (Bool → H → Prop) → Prop) (c37 : AV → H → (Int → H → Prop) → Prop) (c46 : AV → H → (Int → Int → H → Prop) → Prop) (a0 : AV) (h : H) (k : AV → H → Prop) : denF ty (gam J [(35, w35 c35), (36, w36 c36), (37, w37 c37), (46, w46 c46)]) Try.f16 [a0] h k = s16G J c35 c36 c37 c46 a0 h (fun r0 h => k (.int .i64 r0) h) := by kernel_rfl
noncomputable def g16 : Fun := w16 s16
theorem g16_ok : FunOk Try.prog 16 g16 := (fun_ok ty_ok mixed (gam_ok (J := J0) (tab_cons g35_ok (tab_cons g36_ok (tab_cons g37_ok (tab_cons g46_ok (tab_nil fls_fun)))))) Try.func16 (fun args w => by simp)).imp fun xs h k e0 => by
  obtain ⟨a0, xs0, rfl, e1⟩ := arg_imp e0
  obtain ⟨rfl, e2⟩ := noArg_imp e1
  exact (s16_eq J0 s35 s36 s37 s46 a0 h k).mpr e2
/-- stagepost/enc.Append -/
noncomputable def s69G (J : Joins) (a0 : AV) (a1 : Int) (h : H) (k : AV → H → Prop) : Prop :=
apB (.slice 5) 5 AV.nils a0 h fun v1 h2 =>
J.lp (α := AV × AV × Unit) (fun r6 v3 d4 h5 =>
asI .u64 v3.1 fun x7 =>
fB (Bool.not (ltI x7 (Int.ofNat 128))) fun b8 =>
br b8 (
asI .u64 v3.1 fun x9 =>
fI (wrapF .u8 x9) fun x10 =>
fI (lorF .u8 x10 (Int.ofNat 128)) fun x11 =>
op' (asRow true 5 [(AV.int .u8 x11)]) fun k14 =>
pushK k14 h5 fun n12 h13 =>
apB (.slice 5) 5 v3.2.1 (AV.slice n12 0 1 1 1 true) h13 fun v15 h16 =>
asI .u64 v3.1 fun x17 =>
fI (shrF x17 (nmin 7 (IntKind.bits .u64))) fun x18 =>
r6 ((AV.int .u64 x18), v15, ()) d4 h16) (
asI .u64 v3.1 fun x19 =>
fI (wrapF .u8 x19) fun x20 =>
op' (asRow true 5 [(AV.int .u8 x20)]) fun k23 =>
pushK k23 h5 fun n21 h22 =>
apB (.slice 5) 5 v3.2.1 (AV.slice n21 0 1 1 1 true) h22 fun v24 h25 =>
leaveK (gam J []) d4 h25 fun h26 =>
k v24 h26)) ((AV.int .u64 a1), v1, ()) [] h2
noncomputable def s69 : AV → Int → H → (AV → H → Prop) → Prop := s69G J0 
noncomputable def w69 (c : AV → Int → H → (AV → H → Prop) → Prop) : Fun := fun xs h k => arg xs fun a0 xs => arg xs fun a1 xs => noArg xs <| asI .u64 a1 fun a1 => c a0 a1 h fun r0 h => k r0 h
theorem s69_eq (J : Joins) (a0 : AV) (a1 : Int) (h : H) (k : AV → H → Prop) : denF ty (gam J []) Try.f69 [a0, (.int .u64 a1)] h k = s69G J  a0 a1 h (fun r0 h => k r0 h) := by kernel_rfl
noncomputable def g69 : Fun := w69 s69
theorem g69_ok : FunOk Try.prog 69 g69 := (fun_ok ty_ok mixed (gam_ok (J := J0) (tab_nil fls_fun)) Try.func69 (fun args w => by simp)).imp fun xs h k e0 => by
  obtain ⟨a0, xs0, rfl, e1⟩ := arg_imp e0
  obtain ⟨a1, xs1, rfl, e2⟩ := arg_imp e1
  obtain ⟨rfl, e3⟩ := noArg_imp e2
  obtain ⟨a1, rfl, e4⟩ := asI_iff.1 e3
  exact (s69_eq J0  a0 a1 h k).mpr e4
/-- stagepost/mvcc.number -/
noncomputable def s41G (J : Joins) (c69 : AV → Int → H → (AV → H → Prop) → Prop) (a0 : Int) (h : H) (k : Str → H → Prop) : Prop :=
fI (wrapF .u64 a0) fun x1 =>
c69 AV.nils x1 h fun v3 h2 =>
toStrK v3 h2 fun s4 =>
k s4 h2
noncomputable def s41 : Int → H → (Str → H → Prop) → Prop := s41G J0 s69
noncomputable def w41 (c : Int → H → (Str → H → Prop) → Prop) : Fun := fun xs h k => arg xs fun a0 xs => noArg xs <| asI .i64 a0 fun a0 => c a0 h fun r0 h => k (.str r0) h
theorem s41_eq (J : Joins) (c69 : AV → Int → H → (AV → H → Prop) → Prop) (a0 : Int) (h : H) (k : AV → H → Prop) : denF ty (gam J [(69, w69 c69)]) Try.f41 [(.int .i64 a0)] h k = s41G J c69 a0 h (fun r0 h => k (.str r0) h) := by kernel_rfl
noncomputable def g41 : Fun := w41 s41
theorem g41_ok : FunOk Try.prog 41 g41 := (fun_ok ty_ok mixed (gam_ok (J := J0) (tab_cons g69_ok (tab_nil fls_fun))) Try.func41 (fun args w => by simp)).imp fun xs h k e0 => by
  obtain ⟨a0, xs0, rfl, e1⟩ := arg_imp e0
  obtain ⟨rfl, e2⟩ := noArg_imp e1
  obtain ⟨a0, rfl, e3⟩ := asI_iff.1 e2
  exact (s41_eq J0 s69 a0 h k).mpr e3
/-- stagepost/mvcc.Lay -/
noncomputable def s13G (J : Joins) (c16 : AV → H → (Int → H → Prop) → Prop) (c29 : Str → Str → H → (Str → H → Prop) → Prop) (c30 : AV → H → (Str → H → Prop) → Prop) (c31 : Bool → Str → H → (Str → H → Prop) → Prop) (c41 : Int → H → (Str → H → Prop) → Prop) (a0 : AV) (h : H) (k : AV → Int → H → Prop) : Prop :=
Go.Am.asAgg a0 fun l3 =>
pushK (.cells false 41 l3) h fun n1 h2 =>
pushK (.cells false 23 [(.str ⟨0, 0⟩), (.str ⟨0, 0⟩), (.bool false)]) h2 fun n4 h5 =>
ldN 12 (AV.ptr n1 0) h5 fun l6 =>
c16 (AV.agg l6) h5 fun x8 h7 =>
fB (Bool.not (eqI x8 (Int.ofNat 0))) fun b9 =>
br b9 (
stN 3 (AV.ptr n4 0) [(.str ⟨0, 0⟩), (.str ⟨0, 0⟩), (.bool false)] h7 fun h10 =>
ldN 3 (AV.ptr n4 0) h10 fun l11 =>
k (AV.agg l11) x8 h10) (
ldI .i32 (AV.ptr n1 1) h7 fun x12 =>
fI (wrapF .i64 x12) fun x13 =>
ldI .i32 (AV.ptr n1 2) h7 fun x14 =>
fI (wrapF .i64 x14) fun x15 =>
ldN 3 (AV.ptr n1 3) h7 fun l16 =>
ldN 3 (AV.ptr n1 7) h7 fun l17 =>
ldS (AV.ptr n1 6) h7 fun s18 =>
ldS (AV.ptr n1 6) h7 fun s19 =>
ldB (AV.ptr n1 11) h7 fun b20 =>
ldS (AV.ptr n1 10) h7 fun s21 =>
c41 x13 h7 fun s23 h22 =>
ck (readsSo (aLoad1 (AV.ptr n1 10) h22) (AV.str s21)) (
ck (readsSo (aLoad1 (AV.ptr n1 11) h22) (AV.bool b20)) (
ck (readsSo (aLoad1 (AV.ptr n1 6) h22) (AV.str s19)) (
ck (readsSo (aLoad1 (AV.ptr n1 6) h22) (AV.str s18)) (
ck (readsSo (aLoadN 3 (AV.ptr n1 7) h22) (AV.agg l17)) (
ck (readsSo (aLoadN 3 (AV.ptr n1 3) h22) (AV.agg l16)) (
ck (readsSo (aLoad1 (AV.ptr n1 2) h22) (AV.int .i32 x14)) (
c41 x15 h22 fun s25 h24 =>
ck (readsSo (aLoad1 (AV.ptr n1 10) h24) (AV.str s21)) (
ck (readsSo (aLoad1 (AV.ptr n1 11) h24) (AV.bool b20)) (
ck (readsSo (aLoad1 (AV.ptr n1 6) h24) (AV.str s19)) (
ck (readsSo (aLoad1 (AV.ptr n1 6) h24) (AV.str s18)) (
ck (readsSo (aLoadN 3 (AV.ptr n1 7) h24) (AV.agg l17)) (
ck (readsSo (aLoadN 3 (AV.ptr n1 3) h24) (AV.agg l16)) (
ck (Nat.ble (Nat.add s23.len s25.len) 9223372036854775807) (fS (Str.cat s23 s25) fun s26 =>
c30 (AV.agg l16) h24 fun s28 h27 =>
ck (readsSo (aLoad1 (AV.ptr n1 10) h27) (AV.str s21)) (
ck (readsSo (aLoad1 (AV.ptr n1 11) h27) (AV.bool b20)) (
ck (readsSo (aLoad1 (AV.ptr n1 6) h27) (AV.str s19)) (
ck (readsSo (aLoad1 (AV.ptr n1 6) h27) (AV.str s18)) (
ck (readsSo (aLoadN 3 (AV.ptr n1 7) h27) (AV.agg l17)) (
ck (Nat.ble (Nat.add s26.len s28.len) 9223372036854775807) (fS (Str.cat s26 s28) fun s29 =>
c30 (AV.agg l17) h27 fun s31 h30 =>
ck (readsSo (aLoad1 (AV.ptr n1 10) h30) (AV.str s21)) (
ck (readsSo (aLoad1 (AV.ptr n1 11) h30) (AV.bool b20)) (
ck (readsSo (aLoad1 (AV.ptr n1 6) h30) (AV.str s19)) (
ck (readsSo (aLoad1 (AV.ptr n1 6) h30) (AV.str s18)) (
ck (Nat.ble (Nat.add s29.len s31.len) 9223372036854775807) (fS (Str.cat s29 s31) fun s32 =>
c41 (Int.ofNat s18.len) h30 fun s34 h33 =>
ck (readsSo (aLoad1 (AV.ptr n1 10) h33) (AV.str s21)) (
ck (readsSo (aLoad1 (AV.ptr n1 11) h33) (AV.bool b20)) (
ck (readsSo (aLoad1 (AV.ptr n1 6) h33) (AV.str s19)) (
ck (Nat.ble (Nat.add s32.len s34.len) 9223372036854775807) (fS (Str.cat s32 s34) fun s35 =>
ck (Nat.ble (Nat.add s35.len s19.len) 9223372036854775807) (fS (Str.cat s35 s19) fun s36 =>
c31 b20 s21 h33 fun s38 h37 =>
ck (readsSo (aLoad1 (AV.ptr n1 6) h37) (AV.str s19)) (
ck (Nat.ble (Nat.add s36.len s38.len) 9223372036854775807) (fS (Str.cat s36 s38) fun s39 =>
ldS (AV.ptr n1 0) h37 fun s40 =>
c29 ⟨1, 105⟩ s40 h37 fun s42 h41 =>
stN 3 (AV.ptr n4 0) [(AV.str s42), (AV.str s39), (.bool false)] h41 fun h43 =>
ldN 3 (AV.ptr n4 0) h43 fun l44 =>
k (AV.agg l44) (Int.ofNat 0) h43)))))))))))))))))))))))))))))))))
noncomputable def s13 : AV → H → (AV → Int → H → Prop) → Prop := s13G J0 s16 s29 s30 s31 s41
noncomputable def w13 (c : AV → H → (AV → Int → H → Prop) → Prop) : Fun := fun xs h k => arg xs fun a0 xs => noArg xs <| c a0 h fun r0 r1 h => k (.tuple [r0, (.int .i64 r1)]) h
theorem s13_eq (J : Joins) (c16 : AV → H → (Int → H → Prop) → Prop) (c29 : Str → Str → H → (Str → H → Prop) → Prop) (c30 : AV → H → (Str → H → Prop) → Prop) (c31 : Bool → Str → H → (Str → H → Prop) → Prop) (c41 : Int → H → (Str → H → Prop) → Prop) (a0 : AV) (h : H) (k : AV → H → Prop) : denF ty (gam J [(16, w16 c16), (29, w29 c29), (30, w30 c30), (31, w31 c31), (41, w41 c41)]) Try.f13 [a0] h k = s13G J c16 c29 c30 c31 c41 a0 h (fun r0 r1 h => k (.tuple [r0, (.int .i64 r1)]) h) := by kernel_rfl
noncomputable def g13 : Fun := w13 s13
theorem g13_ok : FunOk Try.prog 13 g13 := (fun_ok ty_ok mixed (gam_ok (J := J0) (tab_cons g16_ok (tab_cons g29_ok (tab_cons g30_ok (tab_cons g31_ok (tab_cons g41_ok (tab_nil fls_fun))))))) Try.func13 (fun args w => by simp)).imp fun xs h k e0 => by
  obtain ⟨a0, xs0, rfl, e1⟩ := arg_imp e0
  obtain ⟨rfl, e2⟩ := noArg_imp e1
  exact (s13_eq J0 s16 s29 s30 s31 s41 a0 h k).mpr e2
/-- stagepost/stagepostref22.Tag -/
noncomputable def s47G (J : Joins) (a0 : AV) (h : H) (k : Int → Int → H → Prop) : Prop :=
Go.Am.asAgg a0 fun l3 =>
pushK (.cells false 39 l3) h fun n1 h2 =>
ldI .i32 (AV.ptr n1 0) h2 fun x4 =>
fB (ltI x4 (Int.ofNat 0)) fun b5 =>
J.jn (fun v6 h7 =>
J.jn (fun v9 h10 =>
J.jn (fun v13 h14 =>
pickB (AV.bool b5) (AV.bool true) v13 fun b18 =>
J.jn (fun v19 h20 =>
J.jn (fun v22 h23 =>
J.jn (fun v26 h27 =>
pickB (AV.bool b18) (AV.bool true) v26 fun b31 =>
J.jn (fun v32 h33 =>
J.jn (fun v35 h36 =>
J.jn (fun v39 h40 =>
pickB (AV.bool b31) (AV.bool true) v39 fun b44 =>
br b44 (
k (Int.ofNat 0) (Int.ofNat 2) h40) (
ldI .i32 (AV.ptr n1 1) h40 fun x45 =>
fI (wrapF .i32 (Int.mul x45 (Int.ofNat 8))) fun x46 =>
ldI .i32 (AV.ptr n1 0) h40 fun x47 =>
fI (wrapF .i32 (Int.add x46 x47)) fun x48 =>
k x48 (Int.ofNat 0) h40)) fun j41 =>
br b31 (
j41 skipV h36) (
asI .i32 v35 fun x42 =>
fB (ltI (Int.ofNat 100000) x42) fun b43 =>
j41 (AV.bool b43) h36)) fun j37 =>
br b31 (
j37 skipV h33) (
ldI .i32 v32 h33 fun x38 =>
j37 (AV.int .i32 x38) h33)) fun j34 =>
br b31 (
j34 skipV h27) (
j34 (AV.ptr n1 1) h27)) fun j28 =>
br b18 (
j28 skipV h23) (
asI .i32 v22 fun x29 =>
fB (ltI x29 (Int.ofNat 1)) fun b30 =>
j28 (AV.bool b30) h23)) fun j24 =>
br b18 (
j24 skipV h20) (
ldI .i32 v19 h20 fun x25 =>
j24 (AV.int .i32 x25) h20)) fun j21 =>
br b18 (
j21 skipV h14) (
j21 (AV.ptr n1 1) h14)) fun j15 =>
br b5 (
j15 skipV h10) (
asI .i32 v9 fun x16 =>
fB (Bool.not (ltI x16 (Int.ofNat 7))) fun b17 =>
j15 (AV.bool b17) h10)) fun j11 =>
br b5 (
j11 skipV h7) (
ldI .i32 v6 h7 fun x12 =>
j11 (AV.int .i32 x12) h7)) fun j8 =>
br b5 (
j8 skipV h2) (
j8 (AV.ptr n1 0) h2)
noncomputable def s47 : AV → H → (Int → Int → H → Prop) → Prop := s47G J0 
noncomputable def w47 (c : AV → H → (Int → Int → H → Prop) → Prop) : Fun := fun xs h k => arg xs fun a0 xs => noArg xs <| c a0 h fun r0 r1 h => k (.tuple [(.int .i32 r0), (.int .i64 r1)]) h
theorem s47_eq (J : Joins) (a0 : AV) (h : H) (k : AV → H → Prop) : denF ty (gam J []) Try.f47 [a0] h k = s47G J  a0 h (fun r0 r1 h => k (.tuple [(.int .i32 r0), (.int .i64 r1)]) h) := by kernel_rfl
noncomputable def g47 : Fun := w47 s47
theorem g47_ok : FunOk Try.prog 47 g47 := (fun_ok ty_ok mixed (gam_ok (J := J0) (tab_nil fls_fun)) Try.func47 (fun args w => by simp)).imp fun xs h k e0 => by
  obtain ⟨a0, xs0, rfl, e1⟩ := arg_imp e0
  obtain ⟨rfl, e2⟩ := noArg_imp e1
  exact (s47_eq J0  a0 h k).mpr e2
/-- stagepost/stagepostref23.CheckIntent -/
noncomputable def s17G (J : Joins) (c43 : Str → H → (Bool → H → Prop) → Prop) (c44 : Str → Bool → H → (Bool → H → Prop) → Prop) (c45 : AV → H → (Int → H → Prop) → Prop) (c47 : AV → H → (Int → Int → H → Prop) → Prop) (a0 : AV) (h : H) (k : Int → H → Prop) : Prop :=
Go.Am.asAgg a0 fun l3 =>
pushK (.cells false 41 l3) h fun n1 h2 =>
ldN 2 (AV.ptr n1 1) h2 fun l4 =>
c47 (AV.agg l4) h2 fun x6 x7 h5 =>
fB (Bool.not (eqI x7 (Int.ofNat 0))) fun b8 =>
J.jn (fun v9 h10 =>
J.jn (fun v12 h13 =>
J.jn (fun v16 h17 =>
J.jn (fun v22 h23 =>
pickB (AV.bool b8) (AV.bool true) v22 fun b27 =>
J.jn (fun v28 h29 =>
J.jn (fun v31 h32 =>
J.jn (fun v35 h36 =>
J.jn (fun v41 h42 =>
pickB (AV.bool b27) (AV.bool true) v41 fun b46 =>
J.jn (fun v47 h48 =>
J.jn (fun v50 h51 =>
J.jn (fun v54 h55 =>
J.jn (fun v57 h58 =>
J.jn (fun v61 h62 =>
J.jn (fun v68 h69 =>
pickB (AV.bool b46) (AV.bool true) v68 fun b73 =>
J.jn (fun v74 h75 =>
J.jn (fun v77 h78 =>
J.jn (fun v81 h82 =>
J.jn (fun v86 h87 =>
pickB (AV.bool b73) (AV.bool true) v86 fun b91 =>
J.jn (fun v92 h93 =>
J.jn (fun v95 h96 =>
J.jn (fun v99 h100 =>
J.jn (fun v104 h105 =>
pickB (AV.bool b91) (AV.bool true) v104 fun b109 =>
J.jn (fun v110 h111 =>
J.jn (fun v113 h114 =>
J.jn (fun v117 h118 =>
J.jn (fun v121 h122 =>
J.jn (fun v124 h125 =>
pickB (AV.bool b109) (AV.bool true) v124 fun b130 =>
br b130 (
k (Int.ofNat 2) h125) (
k (Int.ofNat 0) h125)) fun j126 =>
br b109 (
j126 skipV h122) (
asI .i32 v117 fun x127 =>
asI .i32 v121 fun x128 =>
fB (Bool.not (eqI x127 x128)) fun b129 =>
j126 (AV.bool b129) h122)) fun j123 =>
br b109 (
j123 skipV h118) (
j123 (AV.int .i32 x6) h118)) fun j119 =>
br b109 (
j119 skipV h114) (
ldI .i32 v113 h114 fun x120 =>
j119 (AV.int .i32 x120) h114)) fun j115 =>
br b109 (
j115 skipV h111) (
faK 2 v110 fun p116 =>
j115 p116 h111)) fun j112 =>
br b109 (
j112 skipV h105) (
j112 (AV.ptr n1 7) h105)) fun j106 =>
br b91 (
j106 skipV h100) (
asI .i64 v99 fun x107 =>
fB (Bool.not (eqI x107 (Int.ofNat 0))) fun b108 =>
j106 (AV.bool b108) h100)) fun j101 =>
br b91 (
j101 skipV h96) (
c45 v95 h96 fun x103 h102 =>
j101 (AV.int .i64 x103) h102)) fun j97 =>
br b91 (
j97 skipV h93) (
ldN 3 v92 h93 fun l98 =>
j97 (AV.agg l98) h93)) fun j94 =>
br b91 (
j94 skipV h87) (
j94 (AV.ptr n1 7) h87)) fun j88 =>
br b73 (
j88 skipV h82) (
asI .i64 v81 fun x89 =>
fB (Bool.not (eqI x89 (Int.ofNat 0))) fun b90 =>
j88 (AV.bool b90) h82)) fun j83 =>
br b73 (
j83 skipV h78) (
c45 v77 h78 fun x85 h84 =>
j83 (AV.int .i64 x85) h84)) fun j79 =>
br b73 (
j79 skipV h75) (
ldN 3 v74 h75 fun l80 =>
j79 (AV.agg l80) h75)) fun j76 =>
br b73 (
j76 skipV h69) (
j76 (AV.ptr n1 3) h69)) fun j70 =>
br b46 (
j70 skipV h62) (
asB v61 fun b71 =>
fB (Bool.not b71) fun b72 =>
j70 (AV.bool b72) h62)) fun j63 =>
br b46 (
j63 skipV h58) (
asS v50 fun s65 =>
asB v57 fun b66 =>
c44 s65 b66 h58 fun b67 h64 =>
j63 (AV.bool b67) h64)) fun j59 =>
br b46 (
j59 skipV h55) (
ldB v54 h55 fun b60 =>
j59 (AV.bool b60) h55)) fun j56 =>
br b46 (
j56 skipV h51) (
j56 (AV.ptr n1 11) h51)) fun j52 =>
br b46 (
j52 skipV h48) (
ldS v47 h48 fun s53 =>
j52 (AV.str s53) h48)) fun j49 =>
br b46 (
j49 skipV h42) (
j49 (AV.ptr n1 10) h42)) fun j43 =>
br b27 (
j43 skipV h36) (
asB v35 fun b44 =>
fB (Bool.not b44) fun b45 =>
j43 (AV.bool b45) h36)) fun j37 =>
br b27 (
j37 skipV h32) (
asS v31 fun s39 =>
c43 s39 h32 fun b40 h38 =>
j37 (AV.bool b40) h38)) fun j33 =>
br b27 (
j33 skipV h29) (
ldS v28 h29 fun s34 =>
j33 (AV.str s34) h29)) fun j30 =>
br b27 (
j30 skipV h23) (
j30 (AV.ptr n1 6) h23)) fun j24 =>
br b8 (
j24 skipV h17) (
asB v16 fun b25 =>
fB (Bool.not b25) fun b26 =>
j24 (AV.bool b26) h17)) fun j18 =>
br b8 (
j18 skipV h13) (
asS v12 fun s20 =>
c43 s20 h13 fun b21 h19 =>
j18 (AV.bool b21) h19)) fun j14 =>
br b8 (
j14 skipV h10) (
ldS v9 h10 fun s15 =>
j14 (AV.str s15) h10)) fun j11 =>
br b8 (
j11 skipV h5) (
j11 (AV.ptr n1 0) h5)
noncomputable def s17 : AV → H → (Int → H → Prop) → Prop := s17G J0 s43 s44 s45 s47
noncomputable def w17 (c : AV → H → (Int → H → Prop) → Prop) : Fun := fun xs h k => arg xs fun a0 xs => noArg xs <| c a0 h fun r0 h => k (.int .i64 r0) h
theorem s17_eq (J : Joins) (c43 : Str → H → (Bool → H → Prop) → Prop) (c44 : Str → Bool → H → (Bool → H → Prop) → Prop) (c45 : AV → H → (Int → H → Prop) → Prop) (c47 : AV → H → (Int → Int → H → Prop) → Prop) (a0 : AV) (h : H) (k : AV → H → Prop) : denF ty (gam J [(43, w43 c43), (44, w44 c44), (45, w45 c45), (47, w47 c47)]) Try.f17 [a0] h k = s17G J c43 c44 c45 c47 a0 h (fun r0 h => k (.int .i64 r0) h) := by kernel_rfl
noncomputable def g17 : Fun := w17 s17
theorem g17_ok : FunOk Try.prog 17 g17 := (fun_ok ty_ok mixed (gam_ok (J := J0) (tab_cons g43_ok (tab_cons g44_ok (tab_cons g45_ok (tab_cons g47_ok (tab_nil fls_fun)))))) Try.func17 (fun args w => by simp)).imp fun xs h k e0 => by
  obtain ⟨a0, xs0, rfl, e1⟩ := arg_imp e0
  obtain ⟨rfl, e2⟩ := noArg_imp e1
  exact (s17_eq J0 s43 s44 s45 s47 a0 h k).mpr e2
/-- stagepost/stagepostref01.Bytes -/
noncomputable def s70G (J : Joins) (c70 : Int → H → (AV → H → Prop) → Prop) (a0 : Int) (h : H) (k : AV → H → Prop) : Prop :=
fB (ltI a0 (Int.ofNat 128)) fun b1 =>
br b1 (
fI (wrapF .u8 a0) fun x2 =>
op' (asRow true 5 [(AV.int .u8 x2)]) fun k5 =>
pushK k5 h fun n3 h4 =>
k (AV.slice n3 0 1 1 1 true) h4) (
ck (Bool.not (eqI (Int.ofNat 128) 0)) (fI (Int.tmod a0 (Int.ofNat 128)) fun x6 =>
fI (wrapF .u8 x6) fun x7 =>
fI (wrapF .u8 (Int.add x7 (Int.ofNat 128))) fun x8 =>
op' (asRow true 5 [(AV.int .u8 x8)]) fun k11 =>
pushK k11 h fun n9 h10 =>
ck (Bool.not (eqI (Int.ofNat 128) 0)) (fI (wrapF .u64 (Int.tdiv a0 (Int.ofNat 128))) fun x12 =>
c70 x12 h10 fun v14 h13 =>
apB (.slice 5) 5 (AV.slice n9 0 1 1 1 true) v14 h13 fun v15 h16 =>
k v15 h16)))
noncomputable def rec70 : Nat → Int → H → (AV → H → Prop) → Prop := fun n => Nat.rec (motive := fun _ => Int → H → (AV → H → Prop) → Prop) (fun _ _ _ => False) (fun _ r => s70G J0 r) n
noncomputable def s70 : Int → H → (AV → H → Prop) → Prop := rec70 64
noncomputable def w70 (c : Int → H → (AV → H → Prop) → Prop) : Fun := fun xs h k => arg xs fun a0 xs => noArg xs <| asI .u64 a0 fun a0 => c a0 h fun r0 h => k r0 h
theorem s70_eq (J : Joins) (c70 : Int → H → (AV → H → Prop) → Prop) (a0 : Int) (h : H) (k : AV → H → Prop) : denF ty (gam J [(70, w70 c70)]) Try.f70 [(.int .u64 a0)] h k = s70G J c70 a0 h (fun r0 h => k r0 h) := by kernel_rfl
noncomputable def g70 : Fun := w70 s70
theorem rec70_ok : ∀ n, FunOk Try.prog 70 (w70 (rec70 n))
  | 0 => fun xs h k e0 => by
    obtain ⟨a0, xs0, rfl, e1⟩ := arg_imp e0
    obtain ⟨rfl, e2⟩ := noArg_imp e1
    obtain ⟨a0, rfl, e3⟩ := asI_iff.1 e2
    exact e3.elim
  | n + 1 => (fun_ok ty_ok mixed (gam_ok (J := J0) (tab_cons (rec70_ok n) (tab_nil fls_fun))) Try.func70 (fun args w => by simp)).imp fun xs h k e0 => by
    obtain ⟨a0, xs0, rfl, e1⟩ := arg_imp e0
    obtain ⟨rfl, e2⟩ := noArg_imp e1
    obtain ⟨a0, rfl, e3⟩ := asI_iff.1 e2
    exact (s70_eq J0 (rec70 n) a0 h k).mpr e3
theorem g70_ok : FunOk Try.prog 70 g70 := rec70_ok 64
/-- stagepost/stagepostref01.Append -/
noncomputable def s42G (J : Joins) (c70 : Int → H → (AV → H → Prop) → Prop) (a0 : AV) (a1 : Int) (h : H) (k : AV → H → Prop) : Prop :=
op' (asRow true 5 []) fun k3 =>
pushK k3 h fun n1 h2 =>
apB (.slice 5) 5 (AV.slice n1 0 0 0 1 true) a0 h2 fun v4 h5 =>
c70 a1 h5 fun v7 h6 =>
apB (.slice 5) 5 v4 v7 h6 fun v8 h9 =>
k v8 h9
noncomputable def s42 : AV → Int → H → (AV → H → Prop) → Prop := s42G J0 s70
noncomputable def w42 (c : AV → Int → H → (AV → H → Prop) → Prop) : Fun := fun xs h k => arg xs fun a0 xs => arg xs fun a1 xs => noArg xs <| asI .u64 a1 fun a1 => c a0 a1 h fun r0 h => k r0 h
theorem s42_eq (J : Joins) (c70 : Int → H → (AV → H → Prop) → Prop) (a0 : AV) (a1 : Int) (h : H) (k : AV → H → Prop) : denF ty (gam J [(70, w70 c70)]) Try.f42 [a0, (.int .u64 a1)] h k = s42G J c70 a0 a1 h (fun r0 h => k r0 h) := by kernel_rfl
noncomputable def g42 : Fun := w42 s42
theorem g42_ok : FunOk Try.prog 42 g42 := (fun_ok ty_ok mixed (gam_ok (J := J0) (tab_cons g70_ok (tab_nil fls_fun))) Try.func42 (fun args w => by simp)).imp fun xs h k e0 => by
  obtain ⟨a0, xs0, rfl, e1⟩ := arg_imp e0
  obtain ⟨a1, xs1, rfl, e2⟩ := arg_imp e1
  obtain ⟨rfl, e3⟩ := noArg_imp e2
  obtain ⟨a1, rfl, e4⟩ := asI_iff.1 e3
  exact (s42_eq J0 s70 a0 a1 h k).mpr e4
end Go.Proofs.Ytlbigopkplckaaa
