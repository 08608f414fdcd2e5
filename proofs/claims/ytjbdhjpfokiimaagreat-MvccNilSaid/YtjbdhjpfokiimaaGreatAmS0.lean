/- Functions as they are reckoned. MADE BY PROGRAM (wip/tools/shal.py). -/
import Derived.Test.YtjbdhjpfokiimaaGreatAmTys
namespace Go.Proofs.YtjbdhjpfokiimaaGreat
open Go Go.Am
set_option maxRecDepth 100000
set_option linter.all false
/-- (*stagepost/lsm.Store).asked -/
noncomputable def s32G (J : Joins) (a0 : AV) (h : H) (k : Int → H → Prop) : Prop :=
nilB 0 a0 fun b1 =>
J.jn (fun v2 h3 =>
J.jn (fun v5 h6 =>
J.jn (fun v8 h9 =>
J.jn (fun v12 h13 =>
J.jn (fun v16 h17 =>
pickB (AV.bool b1) (AV.bool true) v16 fun b21 =>
br b21 (
k (Int.ofNat 1) h17) (
J.jd (α := AV × Unit) (fun v22 d23 h24 =>
okNil v22.1 (
faK 12 v22.1 fun p26 =>
ldI .i64 p26 h24 fun x27 =>
leaveK (gam J []) d23 h24 fun h28 =>
k x27 h28)) fun j25 =>
okNil a0 (
faK 12 a0 fun p29 =>
ldI .i64 p29 h17 fun x30 =>
fB (eqI x30 (Int.ofNat 0)) fun b31 =>
J.jn (fun v32 h33 =>
J.jn (fun v35 h36 =>
J.jn (fun v38 h39 =>
J.jn (fun v42 h43 =>
J.jn (fun v46 h47 =>
J.jn (fun v49 h50 =>
pickB (AV.bool b31) v49 (AV.bool false) fun b54 =>
br b54 (
okNil a0 (
faK 12 a0 fun p55 =>
stV p55 (AV.int .i64 (Int.ofNat 7)) h50 fun h56 =>
j25 (a0, ()) [] h56)) (
j25 (a0, ()) [] h50)) fun j51 =>
br b31 (
asB v46 fun b52 =>
fB (Bool.not b52) fun b53 =>
j51 (AV.bool b53) h47) (
j51 .junk h47)) fun j48 =>
br b31 (
False) (
j48 .junk h43)) fun j44 =>
br b31 (
ldV v38 h39 fun v45 =>
j44 v45 h39) (
j44 .junk h39)) fun j40 =>
br b31 (
faK 0 v35 fun p41 =>
j40 p41 h36) (
j40 .junk h36)) fun j37 =>
br b31 (
okNil v32 (
j37 v32 h33)) (
j37 .junk h33)) fun j34 =>
br b31 (
j34 a0 h17) (
j34 .junk h17)))) fun j18 =>
br b1 (
j18 .junk h13) (
asB v12 fun b19 =>
fB (Bool.not b19) fun b20 =>
j18 (AV.bool b20) h13)) fun j14 =>
br b1 (
j14 .junk h9) (
ldB v8 h9 fun b15 =>
j14 (AV.bool b15) h9)) fun j10 =>
br b1 (
j10 .junk h6) (
faK 13 v5 fun p11 =>
j10 p11 h6)) fun j7 =>
br b1 (
j7 .junk h3) (
okNil v2 (
j7 v2 h3))) fun j4 =>
br b1 (
j4 .junk h) (
j4 a0 h)
noncomputable def s32 : AV → H → (Int → H → Prop) → Prop := s32G J0 
noncomputable def w32 (c : AV → H → (Int → H → Prop) → Prop) : Fun := fun xs h k => arg xs fun a0 xs => noArg xs <| c a0 h fun r0 h => k (.int .i64 r0) h
theorem s32_eq (J : Joins) (a0 : AV) (h : H) (k : AV → H → Prop) : denF ty (gam J []) Tryz.f32 [a0] h k = s32G J  a0 h (fun r0 h => k (.int .i64 r0) h) := by kernel_rfl
noncomputable def g32 : Fun := w32 s32
theorem g32_ok : FunOk Tryz.prog 32 g32 := (fun_ok ty_ok mixed (gam_ok (J := J0) (tab_nil fls_fun)) Tryz.func32 (fun args w => by simp)).imp fun xs h k e0 => by
  obtain ⟨a0, xs0, rfl, e1⟩ := arg_imp e0
  obtain ⟨rfl, e2⟩ := noArg_imp e1
  exact (s32_eq J0  a0 h k).mpr e2
/-- (*stagepost/lsm.Store).Stopped -/
noncomputable def s13G (J : Joins) (c32 : AV → H → (Int → H → Prop) → Prop) (a0 : AV) (h : H) (k : Int → H → Prop) : Prop :=
c32 a0 h fun x2 h1 =>
k x2 h1
noncomputable def s13 : AV → H → (Int → H → Prop) → Prop := s13G J0 s32
noncomputable def w13 (c : AV → H → (Int → H → Prop) → Prop) : Fun := fun xs h k => arg xs fun a0 xs => noArg xs <| c a0 h fun r0 h => k (.int .i64 r0) h
theorem s13_eq (J : Joins) (c32 : AV → H → (Int → H → Prop) → Prop) (a0 : AV) (h : H) (k : AV → H → Prop) : denF ty (gam J [(32, w32 c32)]) Tryz.f13 [a0] h k = s13G J c32 a0 h (fun r0 h => k (.int .i64 r0) h) := by kernel_rfl
noncomputable def g13 : Fun := w13 s13
theorem g13_ok : FunOk Tryz.prog 13 g13 := (fun_ok ty_ok mixed (gam_ok (J := J0) (tab_cons g32_ok (tab_nil fls_fun))) Tryz.func13 (fun args w => by simp)).imp fun xs h k e0 => by
  obtain ⟨a0, xs0, rfl, e1⟩ := arg_imp e0
  obtain ⟨rfl, e2⟩ := noArg_imp e1
  exact (s13_eq J0 s32 a0 h k).mpr e2
/-- stagepost/mvcc.found[stagepost/api.Cell] -/
noncomputable def s9G (J : Joins) (c13 : AV → H → (Int → H → Prop) → Prop) (a0 : AV) (a1 : Str) (a2 : AV) (a3 : AV) (h : H) (k : AV → Int → H → Prop) : Prop :=
Go.Am.asAgg a2 fun l3 =>
pushK (.cells false 23 l3) h fun n1 h2 =>
c13 a0 h2 fun x5 h4 =>
fB (eqI x5 (Int.ofNat 1)) fun b6 =>
br b6 (
k AV.nils (Int.ofNat 1) h4) (
ldS (AV.ptr n1 1) h4 fun s7 =>
fB (Bool.not (Str.beq s7 (⟨0, 0⟩ : Str))) fun b8 =>
J.jn (fun v9 h10 =>
J.jn (fun v12 h13 =>
J.jn (fun v16 h17 =>
J.jn (fun v19 h20 =>
J.jn (fun v23 h24 =>
pickB (AV.bool b8) v23 (AV.bool false) fun b29 =>
br b29 (
k AV.nils (Int.ofNat 0) h24) (
ldN 2 (AV.ptr n1 0) h24 fun l30 =>
False)) fun j25 =>
br b8 (
asS v12 fun s26 =>
asS v19 fun s27 =>
fB (Bool.not (Str.lt s27 s26)) fun b28 =>
j25 (AV.bool b28) h20) (
j25 .junk h20)) fun j21 =>
br b8 (
ldS v16 h17 fun s22 =>
j21 (AV.str s22) h17) (
j21 .junk h17)) fun j18 =>
br b8 (
j18 (AV.ptr n1 0) h13) (
j18 .junk h13)) fun j14 =>
br b8 (
ldS v9 h10 fun s15 =>
j14 (AV.str s15) h10) (
j14 .junk h10)) fun j11 =>
br b8 (
j11 (AV.ptr n1 1) h4) (
j11 .junk h4))
noncomputable def s9 : AV → Str → AV → AV → H → (AV → Int → H → Prop) → Prop := s9G J0 s13
noncomputable def w9 (c : AV → Str → AV → AV → H → (AV → Int → H → Prop) → Prop) : Fun := fun xs h k => arg xs fun a0 xs => arg xs fun a1 xs => arg xs fun a2 xs => arg xs fun a3 xs => noArg xs <| asS a1 fun a1 => c a0 a1 a2 a3 h fun r0 r1 h => k (.tuple [r0, (.int .i64 r1)]) h
theorem s9_eq (J : Joins) (c13 : AV → H → (Int → H → Prop) → Prop) (a0 : AV) (a1 : Str) (a2 : AV) (a3 : AV) (h : H) (k : AV → H → Prop) : denF ty (gam J [(13, w13 c13)]) Tryz.f9 [a0, (.str a1), a2, a3] h k = s9G J c13 a0 a1 a2 a3 h (fun r0 r1 h => k (.tuple [r0, (.int .i64 r1)]) h) := by kernel_rfl
noncomputable def g9 : Fun := w9 s9
theorem g9_ok : FunOk Tryz.prog 9 g9 := (fun_ok ty_ok mixed (gam_ok (J := J0) (tab_cons g13_ok (tab_nil fls_fun))) Tryz.func9 (fun args w => by simp)).imp fun xs h k e0 => by
  obtain ⟨a0, xs0, rfl, e1⟩ := arg_imp e0
  obtain ⟨a1, xs1, rfl, e2⟩ := arg_imp e1
  obtain ⟨a2, xs2, rfl, e3⟩ := arg_imp e2
  obtain ⟨a3, xs3, rfl, e4⟩ := arg_imp e3
  obtain ⟨rfl, e5⟩ := noArg_imp e4
  obtain ⟨a1, rfl, e6⟩ := asS_iff.1 e5
  exact (s9_eq J0 s13 a0 a1 a2 a3 h k).mpr e6
/-- stagepost/mvcc.user -/
noncomputable def s48G (J : Joins) (a0 : Str) (h : H) (k : Bool → H → Prop) : Prop :=
fB (Bool.not (ltI (Int.ofNat a0.len) (Int.ofNat 1))) fun b1 =>
J.jn (fun v2 h3 =>
J.jn (fun v5 h6 =>
J.jn (fun v9 h10 =>
pickB (AV.bool b1) v9 (AV.bool false) fun b14 =>
k b14 h10) fun j11 =>
br b1 (
asI .i64 v5 fun x12 =>
fB (Bool.not (ltI (Int.ofNat 128) x12)) fun b13 =>
j11 (AV.bool b13) h6) (
j11 .junk h6)) fun j7 =>
br b1 (
asS v2 fun s8 =>
j7 (AV.int .i64 (Int.ofNat s8.len)) h3) (
j7 .junk h3)) fun j4 =>
br b1 (
j4 (AV.str a0) h) (
j4 .junk h)
noncomputable def s48 : Str → H → (Bool → H → Prop) → Prop := s48G J0 
noncomputable def w48 (c : Str → H → (Bool → H → Prop) → Prop) : Fun := fun xs h k => arg xs fun a0 xs => noArg xs <| asS a0 fun a0 => c a0 h fun r0 h => k (.bool r0) h
theorem s48_eq (J : Joins) (a0 : Str) (h : H) (k : AV → H → Prop) : denF ty (gam J []) Tryz.f48 [(.str a0)] h k = s48G J  a0 h (fun r0 h => k (.bool r0) h) := by kernel_rfl
noncomputable def g48 : Fun := w48 s48
theorem g48_ok : FunOk Tryz.prog 48 g48 := (fun_ok ty_ok mixed (gam_ok (J := J0) (tab_nil fls_fun)) Tryz.func48 (fun args w => by simp)).imp fun xs h k e0 => by
  obtain ⟨a0, xs0, rfl, e1⟩ := arg_imp e0
  obtain ⟨rfl, e2⟩ := noArg_imp e1
  obtain ⟨a0, rfl, e3⟩ := asS_iff.1 e2
  exact (s48_eq J0  a0 h k).mpr e3
/-- stagepost/mvcc.held -/
noncomputable def s74G (J : Joins) (a0 : Str) (a1 : Bool) (h : H) (k : Bool → H → Prop) : Prop :=
fB (Bool.not (ltI (Int.ofNat 2048) (Int.ofNat a0.len))) fun b1 =>
J.jn (fun v2 h3 =>
J.jn (fun v5 h6 =>
J.jn (fun v10 h11 =>
asB v10 fun b16 =>
J.jn (fun v13 h14 =>
asB v10 fun b20 =>
J.jn (fun v17 h18 =>
J.jn (fun v23 h24 =>
pickB (AV.bool b1) v23 (AV.bool false) fun b27 =>
k b27 h24) fun j25 =>
br b1 (
pickB v10 (AV.bool true) v17 fun b26 =>
j25 (AV.bool b26) h18) (
j25 .junk h18)) fun j19 =>
br b20 (
j19 .junk h14) (
asS v13 fun s21 =>
fB (Str.beq s21 (⟨0, 0⟩ : Str)) fun b22 =>
j19 (AV.bool b22) h14)) fun j15 =>
br b16 (
j15 .junk h11) (
j15 (AV.str a0) h11)) fun j12 =>
br b1 (
j12 v5 h6) (
j12 .junk h6)) fun j7 =>
br b1 (
asB v2 fun b8 =>
fB (Bool.not b8) fun b9 =>
j7 (AV.bool b9) h3) (
j7 .junk h3)) fun j4 =>
br b1 (
j4 (AV.bool a1) h) (
j4 .junk h)
noncomputable def s74 : Str → Bool → H → (Bool → H → Prop) → Prop := s74G J0 
noncomputable def w74 (c : Str → Bool → H → (Bool → H → Prop) → Prop) : Fun := fun xs h k => arg xs fun a0 xs => arg xs fun a1 xs => noArg xs <| asS a0 fun a0 => asB a1 fun a1 => c a0 a1 h fun r0 h => k (.bool r0) h
theorem s74_eq (J : Joins) (a0 : Str) (a1 : Bool) (h : H) (k : AV → H → Prop) : denF ty (gam J []) Tryz.f74 [(.str a0), (.bool a1)] h k = s74G J  a0 a1 h (fun r0 h => k (.bool r0) h) := by kernel_rfl
noncomputable def g74 : Fun := w74 s74
theorem g74_ok : FunOk Tryz.prog 74 g74 := (fun_ok ty_ok mixed (gam_ok (J := J0) (tab_nil fls_fun)) Tryz.func74 (fun args w => by simp)).imp fun xs h k e0 => by
  obtain ⟨a0, xs0, rfl, e1⟩ := arg_imp e0
  obtain ⟨a1, xs1, rfl, e2⟩ := arg_imp e1
  obtain ⟨rfl, e3⟩ := noArg_imp e2
  obtain ⟨a0, rfl, e4⟩ := asS_iff.1 e3
  obtain ⟨a1, rfl, e5⟩ := asB_iff.1 e4
  exact (s74_eq J0  a0 a1 h k).mpr e5
/-- stagepost/hlc.Check -/
noncomputable def s75G (J : Joins) (a0 : AV) (h : H) (k : Int → H → Prop) : Prop :=
Go.Am.asAgg a0 fun l3 =>
pushK (.cells false 51 l3) h fun n1 h2 =>
ldI .i64 (AV.ptr n1 0) h2 fun x4 =>
fB (ltI x4 (Int.ofNat 0)) fun b5 =>
J.jn (fun v6 h7 =>
J.jn (fun v9 h10 =>
J.jn (fun v13 h14 =>
pickB (AV.bool b5) (AV.bool true) v13 fun b18 =>
J.jn (fun v19 h20 =>
J.jn (fun v22 h23 =>
J.jn (fun v26 h27 =>
pickB (AV.bool b18) (AV.bool true) v26 fun b31 =>
J.jn (fun v32 h33 =>
J.jn (fun v35 h36 =>
J.jn (fun v39 h40 =>
pickB (AV.bool b31) (AV.bool true) v39 fun b44 =>
J.jn (fun v45 h46 =>
J.jn (fun v48 h49 =>
J.jn (fun v52 h53 =>
pickB (AV.bool b44) (AV.bool true) v52 fun b57 =>
J.jn (fun v58 h59 =>
J.jn (fun v61 h62 =>
J.jn (fun v65 h66 =>
pickB (AV.bool b57) (AV.bool true) v65 fun b70 =>
br b70 (
k (Int.ofNat 2) h66) (
k (Int.ofNat 0) h66)) fun j67 =>
br b57 (
j67 .junk h62) (
asI .i32 v61 fun x68 =>
fB (ltI (Int.ofNat 1048576) x68) fun b69 =>
j67 (AV.bool b69) h62)) fun j63 =>
br b57 (
j63 .junk h59) (
ldI .i32 v58 h59 fun x64 =>
j63 (AV.int .i32 x64) h59)) fun j60 =>
br b57 (
j60 .junk h53) (
j60 (AV.ptr n1 2) h53)) fun j54 =>
br b44 (
j54 .junk h49) (
asI .i32 v48 fun x55 =>
fB (ltI x55 (Int.ofNat 0)) fun b56 =>
j54 (AV.bool b56) h49)) fun j50 =>
br b44 (
j50 .junk h46) (
ldI .i32 v45 h46 fun x51 =>
j50 (AV.int .i32 x51) h46)) fun j47 =>
br b44 (
j47 .junk h40) (
j47 (AV.ptr n1 2) h40)) fun j41 =>
br b31 (
j41 .junk h36) (
asI .i32 v35 fun x42 =>
fB (ltI (Int.ofNat 1048576) x42) fun b43 =>
j41 (AV.bool b43) h36)) fun j37 =>
br b31 (
j37 .junk h33) (
ldI .i32 v32 h33 fun x38 =>
j37 (AV.int .i32 x38) h33)) fun j34 =>
br b31 (
j34 .junk h27) (
j34 (AV.ptr n1 1) h27)) fun j28 =>
br b18 (
j28 .junk h23) (
asI .i32 v22 fun x29 =>
fB (ltI x29 (Int.ofNat 0)) fun b30 =>
j28 (AV.bool b30) h23)) fun j24 =>
br b18 (
j24 .junk h20) (
ldI .i32 v19 h20 fun x25 =>
j24 (AV.int .i32 x25) h20)) fun j21 =>
br b18 (
j21 .junk h14) (
j21 (AV.ptr n1 1) h14)) fun j15 =>
br b5 (
j15 .junk h10) (
asI .i64 v9 fun x16 =>
fB (ltI (Int.ofNat 1099511627776) x16) fun b17 =>
j15 (AV.bool b17) h10)) fun j11 =>
br b5 (
j11 .junk h7) (
ldI .i64 v6 h7 fun x12 =>
j11 (AV.int .i64 x12) h7)) fun j8 =>
br b5 (
j8 .junk h2) (
j8 (AV.ptr n1 0) h2)
noncomputable def s75 : AV → H → (Int → H → Prop) → Prop := s75G J0 
noncomputable def w75 (c : AV → H → (Int → H → Prop) → Prop) : Fun := fun xs h k => arg xs fun a0 xs => noArg xs <| c a0 h fun r0 h => k (.int .i64 r0) h
theorem s75_eq (J : Joins) (a0 : AV) (h : H) (k : AV → H → Prop) : denF ty (gam J []) Tryz.f75 [a0] h k = s75G J  a0 h (fun r0 h => k (.int .i64 r0) h) := by kernel_rfl
noncomputable def g75 : Fun := w75 s75
theorem g75_ok : FunOk Tryz.prog 75 g75 := (fun_ok ty_ok mixed (gam_ok (J := J0) (tab_nil fls_fun)) Tryz.func75 (fun args w => by simp)).imp fun xs h k e0 => by
  obtain ⟨a0, xs0, rfl, e1⟩ := arg_imp e0
  obtain ⟨rfl, e2⟩ := noArg_imp e1
  exact (s75_eq J0  a0 h k).mpr e2
/-- stagepost/mvcc.CheckCell -/
noncomputable def s44G (J : Joins) (c48 : Str → H → (Bool → H → Prop) → Prop) (c74 : Str → Bool → H → (Bool → H → Prop) → Prop) (c75 : AV → H → (Int → H → Prop) → Prop) (a0 : AV) (h : H) (k : Int → H → Prop) : Prop :=
Go.Am.asAgg a0 fun l3 =>
pushK (.cells false 61 l3) h fun n1 h2 =>
ldS (AV.ptr n1 0) h2 fun s4 =>
c48 s4 h2 fun b6 h5 =>
fB (Bool.not b6) fun b7 =>
J.jn (fun v8 h9 =>
J.jn (fun v11 h12 =>
J.jn (fun v15 h16 =>
J.jn (fun v18 h19 =>
J.jn (fun v22 h23 =>
J.jn (fun v29 h30 =>
pickB (AV.bool b7) (AV.bool true) v29 fun b34 =>
J.jn (fun v35 h36 =>
J.jn (fun v38 h39 =>
J.jn (fun v42 h43 =>
J.jn (fun v47 h48 =>
pickB (AV.bool b34) (AV.bool true) v47 fun b52 =>
br b52 (
k (Int.ofNat 2) h48) (
k (Int.ofNat 0) h48)) fun j49 =>
br b34 (
j49 .junk h43) (
asI .i64 v42 fun x50 =>
fB (Bool.not (eqI x50 (Int.ofNat 0))) fun b51 =>
j49 (AV.bool b51) h43)) fun j44 =>
br b34 (
j44 .junk h39) (
c75 v38 h39 fun x46 h45 =>
j44 (AV.int .i64 x46) h45)) fun j40 =>
br b34 (
j40 .junk h36) (
ldN 3 v35 h36 fun l41 =>
j40 (AV.agg l41) h36)) fun j37 =>
br b34 (
j37 .junk h30) (
j37 (AV.ptr n1 1) h30)) fun j31 =>
br b7 (
j31 .junk h23) (
asB v22 fun b32 =>
fB (Bool.not b32) fun b33 =>
j31 (AV.bool b33) h23)) fun j24 =>
br b7 (
j24 .junk h19) (
asS v11 fun s26 =>
asB v18 fun b27 =>
c74 s26 b27 h19 fun b28 h25 =>
j24 (AV.bool b28) h25)) fun j20 =>
br b7 (
j20 .junk h16) (
ldB v15 h16 fun b21 =>
j20 (AV.bool b21) h16)) fun j17 =>
br b7 (
j17 .junk h12) (
j17 (AV.ptr n1 5) h12)) fun j13 =>
br b7 (
j13 .junk h9) (
ldS v8 h9 fun s14 =>
j13 (AV.str s14) h9)) fun j10 =>
br b7 (
j10 .junk h5) (
j10 (AV.ptr n1 4) h5)
noncomputable def s44 : AV → H → (Int → H → Prop) → Prop := s44G J0 s48 s74 s75
noncomputable def w44 (c : AV → H → (Int → H → Prop) → Prop) : Fun := fun xs h k => arg xs fun a0 xs => noArg xs <| c a0 h fun r0 h => k (.int .i64 r0) h
theorem s44_eq (J : Joins) (c48 : Str → H → (Bool → H → Prop) → Prop) (c74 : Str → Bool → H → (Bool → H → Prop) → Prop) (c75 : AV → H → (Int → H → Prop) → Prop) (a0 : AV) (h : H) (k : AV → H → Prop) : denF ty (gam J [(48, w48 c48), (74, w74 c74), (75, w75 c75)]) Tryz.f44 [a0] h k = s44G J c48 c74 c75 a0 h (fun r0 h => k (.int .i64 r0) h) := by kernel_rfl
noncomputable def g44 : Fun := w44 s44
theorem g44_ok : FunOk Tryz.prog 44 g44 := (fun_ok ty_ok mixed (gam_ok (J := J0) (tab_cons g48_ok (tab_cons g74_ok (tab_cons g75_ok (tab_nil fls_fun))))) Tryz.func44 (fun args w => by simp)).imp fun xs h k e0 => by
  obtain ⟨a0, xs0, rfl, e1⟩ := arg_imp e0
  obtain ⟨rfl, e2⟩ := noArg_imp e1
  exact (s44_eq J0 s48 s74 s75 a0 h k).mpr e2
/-- stagepost/mvcc.middle -/
noncomputable def s45G (J : Joins) (a0 : Str) (a1 : Str) (h : H) (k : Str → H → Prop) : Prop :=
pushK (.bytes 5 0 true a0) h fun n1 h2 =>
J.lp (α := AV × AV × AV × Unit) (fun r6 v3 d4 h5 =>
asS v3.1 fun s7 =>
asI .i64 v3.2.2.1 fun x8 =>
fB (ltI x8 (Int.ofNat s7.len)) fun b9 =>
br b9 (
J.jd (α := AV × AV × AV × Unit) (fun v10 d11 h12 =>
asI .i64 v10.2.2.1 fun x14 =>
fI (wrapF .i64 (Int.add x14 (Int.ofNat 1))) fun x15 =>
r6 (v10.1, v10.2.1, (AV.int .i64 x15), ()) d11 h12) fun j13 =>
ixsK v3.1 v3.2.2.1 fun x16 =>
op' (asRow true 5 [(AV.int .u8 x16)]) fun k19 =>
pushK k19 h5 fun n17 h18 =>
apB (.slice 5) 5 v3.2.1 (AV.slice n17 0 1 1 1 true) h18 fun v20 h21 =>
ixsK v3.1 v3.2.2.1 fun x22 =>
fB (eqI x22 (Int.ofNat 0)) fun b23 =>
br b23 (
op' (asRow true 5 [(AV.int .u8 (Int.ofNat 255))]) fun k26 =>
pushK k26 h21 fun n24 h25 =>
apB (.slice 5) 5 v20 (AV.slice n24 0 1 1 1 true) h25 fun v27 h28 =>
j13 (v3.1, v27, v3.2.2.1, ()) d4 h28) (
j13 (v3.1, v20, v3.2.2.1, ()) d4 h21)) (
op' (asRow true 5 [(AV.int .u8 (Int.ofNat 0)), (AV.int .u8 (Int.ofNat 1))]) fun k31 =>
pushK k31 h5 fun n29 h30 =>
apB (.slice 5) 5 v3.2.1 (AV.slice n29 0 2 2 1 true) h30 fun v32 h33 =>
toStrK v32 h33 fun s34 =>
leaveK (gam J []) d4 h33 fun h35 =>
k s34 h35)) ((AV.str a1), (AV.slice n1 0 a0.len a0.len 1 false), (AV.int .i64 (Int.ofNat 0)), ()) [] h2
noncomputable def s45 : Str → Str → H → (Str → H → Prop) → Prop := s45G J0 
noncomputable def w45 (c : Str → Str → H → (Str → H → Prop) → Prop) : Fun := fun xs h k => arg xs fun a0 xs => arg xs fun a1 xs => noArg xs <| asS a0 fun a0 => asS a1 fun a1 => c a0 a1 h fun r0 h => k (.str r0) h
theorem s45_eq (J : Joins) (a0 : Str) (a1 : Str) (h : H) (k : AV → H → Prop) : denF ty (gam J []) Tryz.f45 [(.str a0), (.str a1)] h k = s45G J  a0 a1 h (fun r0 h => k (.str r0) h) := by kernel_rfl
noncomputable def g45 : Fun := w45 s45
theorem g45_ok : FunOk Tryz.prog 45 g45 := (fun_ok ty_ok mixed (gam_ok (J := J0) (tab_nil fls_fun)) Tryz.func45 (fun args w => by simp)).imp fun xs h k e0 => by
  obtain ⟨a0, xs0, rfl, e1⟩ := arg_imp e0
  obtain ⟨a1, xs1, rfl, e2⟩ := arg_imp e1
  obtain ⟨rfl, e3⟩ := noArg_imp e2
  obtain ⟨a0, rfl, e4⟩ := asS_iff.1 e3
  obtain ⟨a1, rfl, e5⟩ := asS_iff.1 e4
  exact (s45_eq J0  a0 a1 h k).mpr e5
/-- (*strings.Builder).String -/
noncomputable def s62G (J : Joins) (a0 : AV) (h : H) (k : Str → H → Prop) : Prop :=
okNil a0 (
faK 1 a0 fun p1 =>
ldV p1 h fun v2 =>
spX (aSliceData v2) fun v3 =>
okNil a0 (
faK 1 a0 fun p4 =>
ldV p4 h fun v5 =>
lenK v5 fun x6 =>
op2 (aUnStr 5 v3 (AV.int .i64 (Int.ofNat x6)) h) fun v7 h8 =>
asS v7 fun s9 =>
k s9 h8))
noncomputable def s62 : AV → H → (Str → H → Prop) → Prop := s62G J0 
noncomputable def w62 (c : AV → H → (Str → H → Prop) → Prop) : Fun := fun xs h k => arg xs fun a0 xs => noArg xs <| c a0 h fun r0 h => k (.str r0) h
theorem s62_eq (J : Joins) (a0 : AV) (h : H) (k : AV → H → Prop) : denF ty (gam J []) Tryz.f62 [a0] h k = s62G J  a0 h (fun r0 h => k (.str r0) h) := by kernel_rfl
noncomputable def g62 : Fun := w62 s62
theorem g62_ok : FunOk Tryz.prog 62 g62 := (fun_ok ty_ok mixed (gam_ok (J := J0) (tab_nil fls_fun)) Tryz.func62 (fun args w => by simp)).imp fun xs h k e0 => by
  obtain ⟨a0, xs0, rfl, e1⟩ := arg_imp e0
  obtain ⟨rfl, e2⟩ := noArg_imp e1
  exact (s62_eq J0  a0 h k).mpr e2
/-- stagepost/enc.stamp -/
noncomputable def s78G (J : Joins) (a0 : AV) (h : H) (k : Bool → H → Prop) : Prop :=
Go.Am.asAgg a0 fun l3 =>
pushK (.cells false 51 l3) h fun n1 h2 =>
ldI .i64 (AV.ptr n1 0) h2 fun x4 =>
fB (Bool.not (ltI x4 (Int.ofNat 0))) fun b5 =>
J.jn (fun v6 h7 =>
J.jn (fun v9 h10 =>
J.jn (fun v13 h14 =>
pickB (AV.bool b5) v13 (AV.bool false) fun b18 =>
J.jn (fun v19 h20 =>
J.jn (fun v22 h23 =>
J.jn (fun v26 h27 =>
pickB (AV.bool b18) v26 (AV.bool false) fun b31 =>
J.jn (fun v32 h33 =>
J.jn (fun v35 h36 =>
J.jn (fun v39 h40 =>
pickB (AV.bool b31) v39 (AV.bool false) fun b44 =>
J.jn (fun v45 h46 =>
J.jn (fun v48 h49 =>
J.jn (fun v52 h53 =>
pickB (AV.bool b44) v52 (AV.bool false) fun b57 =>
J.jn (fun v58 h59 =>
J.jn (fun v61 h62 =>
J.jn (fun v65 h66 =>
pickB (AV.bool b57) v65 (AV.bool false) fun b70 =>
k b70 h66) fun j67 =>
br b57 (
asI .i32 v61 fun x68 =>
fB (Bool.not (ltI (Int.ofNat 1048576) x68)) fun b69 =>
j67 (AV.bool b69) h62) (
j67 .junk h62)) fun j63 =>
br b57 (
ldI .i32 v58 h59 fun x64 =>
j63 (AV.int .i32 x64) h59) (
j63 .junk h59)) fun j60 =>
br b57 (
j60 (AV.ptr n1 2) h53) (
j60 .junk h53)) fun j54 =>
br b44 (
asI .i32 v48 fun x55 =>
fB (Bool.not (ltI x55 (Int.ofNat 0))) fun b56 =>
j54 (AV.bool b56) h49) (
j54 .junk h49)) fun j50 =>
br b44 (
ldI .i32 v45 h46 fun x51 =>
j50 (AV.int .i32 x51) h46) (
j50 .junk h46)) fun j47 =>
br b44 (
j47 (AV.ptr n1 2) h40) (
j47 .junk h40)) fun j41 =>
br b31 (
asI .i32 v35 fun x42 =>
fB (Bool.not (ltI (Int.ofNat 1048576) x42)) fun b43 =>
j41 (AV.bool b43) h36) (
j41 .junk h36)) fun j37 =>
br b31 (
ldI .i32 v32 h33 fun x38 =>
j37 (AV.int .i32 x38) h33) (
j37 .junk h33)) fun j34 =>
br b31 (
j34 (AV.ptr n1 1) h27) (
j34 .junk h27)) fun j28 =>
br b18 (
asI .i32 v22 fun x29 =>
fB (Bool.not (ltI x29 (Int.ofNat 0))) fun b30 =>
j28 (AV.bool b30) h23) (
j28 .junk h23)) fun j24 =>
br b18 (
ldI .i32 v19 h20 fun x25 =>
j24 (AV.int .i32 x25) h20) (
j24 .junk h20)) fun j21 =>
br b18 (
j21 (AV.ptr n1 1) h14) (
j21 .junk h14)) fun j15 =>
br b5 (
asI .i64 v9 fun x16 =>
fB (Bool.not (ltI (Int.ofNat 1099511627776) x16)) fun b17 =>
j15 (AV.bool b17) h10) (
j15 .junk h10)) fun j11 =>
br b5 (
ldI .i64 v6 h7 fun x12 =>
j11 (AV.int .i64 x12) h7) (
j11 .junk h7)) fun j8 =>
br b5 (
j8 (AV.ptr n1 0) h2) (
j8 .junk h2)
noncomputable def s78 : AV → H → (Bool → H → Prop) → Prop := s78G J0 
noncomputable def w78 (c : AV → H → (Bool → H → Prop) → Prop) : Fun := fun xs h k => arg xs fun a0 xs => noArg xs <| c a0 h fun r0 h => k (.bool r0) h
theorem s78_eq (J : Joins) (a0 : AV) (h : H) (k : AV → H → Prop) : denF ty (gam J []) Tryz.f78 [a0] h k = s78G J  a0 h (fun r0 h => k (.bool r0) h) := by kernel_rfl
noncomputable def g78 : Fun := w78 s78
theorem g78_ok : FunOk Tryz.prog 78 g78 := (fun_ok ty_ok mixed (gam_ok (J := J0) (tab_nil fls_fun)) Tryz.func78 (fun args w => by simp)).imp fun xs h k e0 => by
  obtain ⟨a0, xs0, rfl, e1⟩ := arg_imp e0
  obtain ⟨rfl, e2⟩ := noArg_imp e1
  exact (s78_eq J0  a0 h k).mpr e2
/-- internal/abi.NoEscape -/
noncomputable def g102 : Fun := noEsc
theorem g102_ok : FunOk Tryz.prog 102 g102 := noEscape_ok Tryz.func102 (by kernel_rfl) (by kernel_rfl) (by kernel_rfl) (by kernel_rfl)
/-- (*strings.Builder).copyCheck -/
noncomputable def s88G (J : Joins) (c102 : Fun) (a0 : AV) (h : H) (k : H → Prop) : Prop :=
okNil a0 (
faK 0 a0 fun p1 =>
ldV p1 h fun v2 =>
nilB 0 v2 fun b3 =>
br b3 (
op' (aToU a0 h) fun v4 =>
c102 [v4] h fun v5 h6 =>
op' (aOfU 147 2 v5 h6) fun v7 =>
okNil a0 (
faK 0 a0 fun p8 =>
stV p8 v7 h6 fun h9 =>
k  h9)) (
okNil a0 (
faK 0 a0 fun p10 =>
ldV p10 h fun v11 =>
obK (aBin ty .neq 145 false v11 a0) fun b12 =>
br b12 (
False) (
k  h))))
noncomputable def s88 : AV → H → (H → Prop) → Prop := s88G J0 g102
noncomputable def w88 (c : AV → H → (H → Prop) → Prop) : Fun := fun xs h k => arg xs fun a0 xs => noArg xs <| c a0 h fun  h => k (.tuple []) h
theorem s88_eq (J : Joins) (c102 : Fun) (a0 : AV) (h : H) (k : AV → H → Prop) : denF ty (gam J [(102, c102)]) Tryz.f88 [a0] h k = s88G J c102 a0 h (fun  h => k (.tuple []) h) := by kernel_rfl
noncomputable def g88 : Fun := w88 s88
theorem g88_ok : FunOk Tryz.prog 88 g88 := (fun_ok ty_ok mixed (gam_ok (J := J0) (tab_cons g102_ok (tab_nil fls_fun))) Tryz.func88 (fun args w => by simp)).imp fun xs h k e0 => by
  obtain ⟨a0, xs0, rfl, e1⟩ := arg_imp e0
  obtain ⟨rfl, e2⟩ := noArg_imp e1
  exact (s88_eq J0 g102 a0 h k).mpr e2
/-- (*strings.Builder).WriteByte -/
noncomputable def s109G (J : Joins) (c88 : AV → H → (H → Prop) → Prop) (a0 : AV) (a1 : Int) (h : H) (k : AV → H → Prop) : Prop :=
c88 a0 h fun  h1 =>
okNil a0 (
faK 1 a0 fun p2 =>
ldV p2 h1 fun v3 =>
op' (asRow true 5 [(AV.int .u8 a1)]) fun k6 =>
pushK k6 h1 fun n4 h5 =>
apB (.slice 5) 5 v3 (AV.slice n4 0 1 1 1 true) h5 fun v7 h8 =>
okNil a0 (
faK 1 a0 fun p9 =>
stV p9 v7 h8 fun h10 =>
k AV.nili h10))
noncomputable def s109 : AV → Int → H → (AV → H → Prop) → Prop := s109G J0 s88
noncomputable def w109 (c : AV → Int → H → (AV → H → Prop) → Prop) : Fun := fun xs h k => arg xs fun a0 xs => arg xs fun a1 xs => noArg xs <| asI .u8 a1 fun a1 => c a0 a1 h fun r0 h => k r0 h
theorem s109_eq (J : Joins) (c88 : AV → H → (H → Prop) → Prop) (a0 : AV) (a1 : Int) (h : H) (k : AV → H → Prop) : denF ty (gam J [(88, w88 c88)]) Tryz.f109 [a0, (.int .u8 a1)] h k = s109G J c88 a0 a1 h (fun r0 h => k r0 h) := by kernel_rfl
noncomputable def g109 : Fun := w109 s109
theorem g109_ok : FunOk Tryz.prog 109 g109 := (fun_ok ty_ok mixed (gam_ok (J := J0) (tab_cons g88_ok (tab_nil fls_fun))) Tryz.func109 (fun args w => by simp)).imp fun xs h k e0 => by
  obtain ⟨a0, xs0, rfl, e1⟩ := arg_imp e0
  obtain ⟨a1, xs1, rfl, e2⟩ := arg_imp e1
  obtain ⟨rfl, e3⟩ := noArg_imp e2
  obtain ⟨a1, rfl, e4⟩ := asI_iff.1 e3
  exact (s109_eq J0 s88 a0 a1 h k).mpr e4
/-- stagepost/enc.fixed -/
noncomputable def s99G (J : Joins) (c109 : AV → Int → H → (AV → H → Prop) → Prop) (a0 : AV) (a1 : Int) (a2 : Int) (h : H) (k : H → Prop) : Prop :=
fI (wrapF .i64 (Int.sub a2 (Int.ofNat 1))) fun x1 =>
J.lp (α := AV × AV × AV × Unit) (fun r5 v2 d3 h4 =>
asI .i64 v2.2.2.1 fun x6 =>
fB (Bool.not (ltI x6 (Int.ofNat 0))) fun b7 =>
br b7 (
asI .i64 v2.2.2.1 fun x8 =>
fI (wrapF .i64 (Int.mul (Int.ofNat 8) x8)) fun x9 =>
asI .u64 v2.2.1 fun x10 =>
asNat (AV.int .i64 x9) fun n11 =>
fI (shrF x10 (nmin n11 (IntKind.bits .u64))) fun x12 =>
fI (wrapF .u8 x12) fun x13 =>
c109 v2.1 x13 h4 fun v15 h14 =>
asI .i64 v2.2.2.1 fun x16 =>
fI (wrapF .i64 (Int.sub x16 (Int.ofNat 1))) fun x17 =>
r5 (v2.1, v2.2.1, (AV.int .i64 x17), ()) d3 h14) (
leaveK (gam J [(109, w109 c109)]) d3 h4 fun h18 =>
k  h18)) (a0, (AV.int .u64 a1), (AV.int .i64 x1), ()) [] h
noncomputable def s99 : AV → Int → Int → H → (H → Prop) → Prop := s99G J0 s109
noncomputable def w99 (c : AV → Int → Int → H → (H → Prop) → Prop) : Fun := fun xs h k => arg xs fun a0 xs => arg xs fun a1 xs => arg xs fun a2 xs => noArg xs <| asI .u64 a1 fun a1 => asI .i64 a2 fun a2 => c a0 a1 a2 h fun  h => k (.tuple []) h
theorem s99_eq (J : Joins) (c109 : AV → Int → H → (AV → H → Prop) → Prop) (a0 : AV) (a1 : Int) (a2 : Int) (h : H) (k : AV → H → Prop) : denF ty (gam J [(109, w109 c109)]) Tryz.f99 [a0, (.int .u64 a1), (.int .i64 a2)] h k = s99G J c109 a0 a1 a2 h (fun  h => k (.tuple []) h) := by kernel_rfl
noncomputable def g99 : Fun := w99 s99
theorem g99_ok : FunOk Tryz.prog 99 g99 := (fun_ok ty_ok mixed (gam_ok (J := J0) (tab_cons g109_ok (tab_nil fls_fun))) Tryz.func99 (fun args w => by simp)).imp fun xs h k e0 => by
  obtain ⟨a0, xs0, rfl, e1⟩ := arg_imp e0
  obtain ⟨a1, xs1, rfl, e2⟩ := arg_imp e1
  obtain ⟨a2, xs2, rfl, e3⟩ := arg_imp e2
  obtain ⟨rfl, e4⟩ := noArg_imp e3
  obtain ⟨a1, rfl, e5⟩ := asI_iff.1 e4
  obtain ⟨a2, rfl, e6⟩ := asI_iff.1 e5
  exact (s99_eq J0 s109 a0 a1 a2 h k).mpr e6
/-- stagepost/enc.Stamp -/
noncomputable def s76G (J : Joins) (c62 : AV → H → (Str → H → Prop) → Prop) (c78 : AV → H → (Bool → H → Prop) → Prop) (c99 : AV → Int → Int → H → (H → Prop) → Prop) (a0 : AV) (h : H) (k : Str → Int → H → Prop) : Prop :=
Go.Am.asAgg a0 fun l3 =>
pushK (.cells false 51 l3) h fun n1 h2 =>
ldN 3 (AV.ptr n1 0) h2 fun l4 =>
c78 (AV.agg l4) h2 fun b6 h5 =>
fB (Bool.not b6) fun b7 =>
br b7 (
k ⟨0, 0⟩ (Int.ofNat 2) h5) (
pushK (.cells false 147 [(.nilp), (.nils)]) h5 fun n8 h9 =>
ldI .i64 (AV.ptr n1 0) h9 fun x10 =>
fI (wrapF .i64 (Int.sub (Int.ofNat 9223372036854775807) x10)) fun x11 =>
fI (wrapF .u64 x11) fun x12 =>
c99 (AV.ptr n8 0) x12 (Int.ofNat 8) h9 fun  h13 =>
ldI .i32 (AV.ptr n1 1) h13 fun x14 =>
fI (wrapF .i32 (Int.sub (Int.ofNat 2147483647) x14)) fun x15 =>
fI (wrapF .u64 x15) fun x16 =>
c99 (AV.ptr n8 0) x16 (Int.ofNat 4) h13 fun  h17 =>
ldI .i32 (AV.ptr n1 2) h17 fun x18 =>
fI (wrapF .i32 (Int.sub (Int.ofNat 2147483647) x18)) fun x19 =>
fI (wrapF .u64 x19) fun x20 =>
c99 (AV.ptr n8 0) x20 (Int.ofNat 4) h17 fun  h21 =>
c62 (AV.ptr n8 0) h21 fun s23 h22 =>
k s23 (Int.ofNat 0) h22)
noncomputable def s76 : AV → H → (Str → Int → H → Prop) → Prop := s76G J0 s62 s78 s99
noncomputable def w76 (c : AV → H → (Str → Int → H → Prop) → Prop) : Fun := fun xs h k => arg xs fun a0 xs => noArg xs <| c a0 h fun r0 r1 h => k (.tuple [(.str r0), (.int .i64 r1)]) h
theorem s76_eq (J : Joins) (c62 : AV → H → (Str → H → Prop) → Prop) (c78 : AV → H → (Bool → H → Prop) → Prop) (c99 : AV → Int → Int → H → (H → Prop) → Prop) (a0 : AV) (h : H) (k : AV → H → Prop) : denF ty (gam J [(62, w62 c62), (78, w78 c78), (99, w99 c99)]) Tryz.f76 [a0] h k = s76G J c62 c78 c99 a0 h (fun r0 r1 h => k (.tuple [(.str r0), (.int .i64 r1)]) h) := by kernel_rfl
noncomputable def g76 : Fun := w76 s76
theorem g76_ok : FunOk Tryz.prog 76 g76 := (fun_ok ty_ok mixed (gam_ok (J := J0) (tab_cons g62_ok (tab_cons g78_ok (tab_cons g99_ok (tab_nil fls_fun))))) Tryz.func76 (fun args w => by simp)).imp fun xs h k e0 => by
  obtain ⟨a0, xs0, rfl, e1⟩ := arg_imp e0
  obtain ⟨rfl, e2⟩ := noArg_imp e1
  exact (s76_eq J0 s62 s78 s99 a0 h k).mpr e2
/-- stagepost/mvcc.stamp -/
noncomputable def s46G (J : Joins) (c76 : AV → H → (Str → Int → H → Prop) → Prop) (a0 : AV) (h : H) (k : Str → H → Prop) : Prop :=
Go.Am.asAgg a0 fun l3 =>
pushK (.cells false 51 l3) h fun n1 h2 =>
ldN 3 (AV.ptr n1 0) h2 fun l4 =>
c76 (AV.agg l4) h2 fun s6 x7 h5 =>
k s6 h5
noncomputable def s46 : AV → H → (Str → H → Prop) → Prop := s46G J0 s76
noncomputable def w46 (c : AV → H → (Str → H → Prop) → Prop) : Fun := fun xs h k => arg xs fun a0 xs => noArg xs <| c a0 h fun r0 h => k (.str r0) h
theorem s46_eq (J : Joins) (c76 : AV → H → (Str → Int → H → Prop) → Prop) (a0 : AV) (h : H) (k : AV → H → Prop) : denF ty (gam J [(76, w76 c76)]) Tryz.f46 [a0] h k = s46G J c76 a0 h (fun r0 h => k (.str r0) h) := by kernel_rfl
noncomputable def g46 : Fun := w46 s46
theorem g46_ok : FunOk Tryz.prog 46 g46 := (fun_ok ty_ok mixed (gam_ok (J := J0) (tab_cons g76_ok (tab_nil fls_fun))) Tryz.func46 (fun args w => by simp)).imp fun xs h k e0 => by
  obtain ⟨a0, xs0, rfl, e1⟩ := arg_imp e0
  obtain ⟨rfl, e2⟩ := noArg_imp e1
  exact (s46_eq J0 s76 a0 h k).mpr e2
/-- stagepost/mvcc.flag -/
noncomputable def s47G (J : Joins) (a0 : Bool) (a1 : Str) (h : H) (k : Str → H → Prop) : Prop :=
br a0 (
k ⟨1, 1⟩ h) (
ck (Nat.ble (Nat.add (⟨1, 0⟩ : Str).len a1.len) 9223372036854775807) (fS (Str.cat (⟨1, 0⟩ : Str) a1) fun s1 =>
k s1 h))
noncomputable def s47 : Bool → Str → H → (Str → H → Prop) → Prop := s47G J0 
noncomputable def w47 (c : Bool → Str → H → (Str → H → Prop) → Prop) : Fun := fun xs h k => arg xs fun a0 xs => arg xs fun a1 xs => noArg xs <| asB a0 fun a0 => asS a1 fun a1 => c a0 a1 h fun r0 h => k (.str r0) h
theorem s47_eq (J : Joins) (a0 : Bool) (a1 : Str) (h : H) (k : AV → H → Prop) : denF ty (gam J []) Tryz.f47 [(.bool a0), (.str a1)] h k = s47G J  a0 a1 h (fun r0 h => k (.str r0) h) := by kernel_rfl
noncomputable def g47 : Fun := w47 s47
theorem g47_ok : FunOk Tryz.prog 47 g47 := (fun_ok ty_ok mixed (gam_ok (J := J0) (tab_nil fls_fun)) Tryz.func47 (fun args w => by simp)).imp fun xs h k e0 => by
  obtain ⟨a0, xs0, rfl, e1⟩ := arg_imp e0
  obtain ⟨a1, xs1, rfl, e2⟩ := arg_imp e1
  obtain ⟨rfl, e3⟩ := noArg_imp e2
  obtain ⟨a0, rfl, e4⟩ := asB_iff.1 e3
  obtain ⟨a1, rfl, e5⟩ := asS_iff.1 e4
  exact (s47_eq J0  a0 a1 h k).mpr e5
/-- stagepost/mvcc.Put -/
noncomputable def s21G (J : Joins) (c44 : AV → H → (Int → H → Prop) → Prop) (c45 : Str → Str → H → (Str → H → Prop) → Prop) (c46 : AV → H → (Str → H → Prop) → Prop) (c47 : Bool → Str → H → (Str → H → Prop) → Prop) (a0 : AV) (h : H) (k : AV → Int → H → Prop) : Prop :=
Go.Am.asAgg a0 fun l3 =>
pushK (.cells false 61 l3) h fun n1 h2 =>
pushK (.cells false 83 [(.str ⟨0, 0⟩), (.str ⟨0, 0⟩), (.bool false)]) h2 fun n4 h5 =>
ldN 6 (AV.ptr n1 0) h5 fun l6 =>
c44 (AV.agg l6) h5 fun x8 h7 =>
fB (Bool.not (eqI x8 (Int.ofNat 0))) fun b9 =>
br b9 (
stN 3 (AV.ptr n4 0) [(.str ⟨0, 0⟩), (.str ⟨0, 0⟩), (.bool false)] h7 fun h10 =>
ldN 3 (AV.ptr n4 0) h10 fun l11 =>
k (AV.agg l11) x8 h10) (
ldS (AV.ptr n1 0) h7 fun s12 =>
ldN 3 (AV.ptr n1 1) h7 fun l13 =>
ldB (AV.ptr n1 5) h7 fun b14 =>
ldS (AV.ptr n1 4) h7 fun s15 =>
c45 ⟨1, 99⟩ s12 h7 fun s17 h16 =>
ck (readsSo (aLoad1 (AV.ptr n1 4) h16) (AV.str s15)) (
ck (readsSo (aLoad1 (AV.ptr n1 5) h16) (AV.bool b14)) (
ck (readsSo (aLoadN 3 (AV.ptr n1 1) h16) (AV.agg l13)) (
c46 (AV.agg l13) h16 fun s19 h18 =>
ck (readsSo (aLoad1 (AV.ptr n1 4) h18) (AV.str s15)) (
ck (readsSo (aLoad1 (AV.ptr n1 5) h18) (AV.bool b14)) (
ck (Nat.ble (Nat.add s17.len s19.len) 9223372036854775807) (fS (Str.cat s17 s19) fun s20 =>
c47 b14 s15 h18 fun s22 h21 =>
stN 3 (AV.ptr n4 0) [(AV.str s20), (AV.str s22), (.bool false)] h21 fun h23 =>
ldN 3 (AV.ptr n4 0) h23 fun l24 =>
k (AV.agg l24) (Int.ofNat 0) h23)))))))
noncomputable def s21 : AV → H → (AV → Int → H → Prop) → Prop := s21G J0 s44 s45 s46 s47
noncomputable def w21 (c : AV → H → (AV → Int → H → Prop) → Prop) : Fun := fun xs h k => arg xs fun a0 xs => noArg xs <| c a0 h fun r0 r1 h => k (.tuple [r0, (.int .i64 r1)]) h
theorem s21_eq (J : Joins) (c44 : AV → H → (Int → H → Prop) → Prop) (c45 : Str → Str → H → (Str → H → Prop) → Prop) (c46 : AV → H → (Str → H → Prop) → Prop) (c47 : Bool → Str → H → (Str → H → Prop) → Prop) (a0 : AV) (h : H) (k : AV → H → Prop) : denF ty (gam J [(44, w44 c44), (45, w45 c45), (46, w46 c46), (47, w47 c47)]) Tryz.f21 [a0] h k = s21G J c44 c45 c46 c47 a0 h (fun r0 r1 h => k (.tuple [r0, (.int .i64 r1)]) h) := by kernel_rfl
noncomputable def g21 : Fun := w21 s21
theorem g21_ok : FunOk Tryz.prog 21 g21 := (fun_ok ty_ok mixed (gam_ok (J := J0) (tab_cons g44_ok (tab_cons g45_ok (tab_cons g46_ok (tab_cons g47_ok (tab_nil fls_fun)))))) Tryz.func21 (fun args w => by simp)).imp fun xs h k e0 => by
  obtain ⟨a0, xs0, rfl, e1⟩ := arg_imp e0
  obtain ⟨rfl, e2⟩ := noArg_imp e1
  exact (s21_eq J0 s44 s45 s46 s47 a0 h k).mpr e2
/-- (*stagepost/mvcc.reader).bytes -/
noncomputable def s29G (J : Joins) (a0 : AV) (a1 : Int) (h : H) (k : Str → H → Prop) : Prop :=
okNil a0 (
faK 1 a0 fun p1 =>
ldB p1 h fun b2 =>
J.jn (fun v3 h4 =>
J.jn (fun v6 h7 =>
J.jn (fun v9 h10 =>
J.jn (fun v12 h13 =>
J.jn (fun v16 h17 =>
J.jn (fun v20 h21 =>
J.jn (fun v24 h25 =>
pickB (AV.bool b2) (AV.bool true) v24 fun b30 =>
br b30 (
okNil a0 (
faK 1 a0 fun p31 =>
stV p31 (AV.bool true) h25 fun h32 =>
k ⟨0, 0⟩ h32)) (
okNil a0 (
faK 0 a0 fun p33 =>
ldS p33 h25 fun s34 =>
subK (AV.str s34) none (some (AV.int .i64 a1)) fun s35 =>
okNil a0 (
faK 0 a0 fun p36 =>
ldS p36 h25 fun s37 =>
subK (AV.str s37) (some (AV.int .i64 a1)) none fun s38 =>
okNil a0 (
faK 0 a0 fun p39 =>
stV p39 (AV.str s38) h25 fun h40 =>
k s35 h40))))) fun j26 =>
br b2 (
j26 .junk h21) (
asI .i64 v3 fun x27 =>
asI .i64 v20 fun x28 =>
fB (ltI x28 x27) fun b29 =>
j26 (AV.bool b29) h21)) fun j22 =>
br b2 (
j22 .junk h17) (
asS v16 fun s23 =>
j22 (AV.int .i64 (Int.ofNat s23.len)) h17)) fun j18 =>
br b2 (
j18 .junk h13) (
ldS v12 h13 fun s19 =>
j18 (AV.str s19) h13)) fun j14 =>
br b2 (
j14 .junk h10) (
faK 0 v9 fun p15 =>
j14 p15 h10)) fun j11 =>
br b2 (
j11 .junk h7) (
okNil v6 (
j11 v6 h7))) fun j8 =>
br b2 (
j8 .junk h4) (
j8 a0 h4)) fun j5 =>
br b2 (
j5 .junk h) (
j5 (AV.int .i64 a1) h))
noncomputable def s29 : AV → Int → H → (Str → H → Prop) → Prop := s29G J0 
noncomputable def w29 (c : AV → Int → H → (Str → H → Prop) → Prop) : Fun := fun xs h k => arg xs fun a0 xs => arg xs fun a1 xs => noArg xs <| asI .i64 a1 fun a1 => c a0 a1 h fun r0 h => k (.str r0) h
theorem s29_eq (J : Joins) (a0 : AV) (a1 : Int) (h : H) (k : AV → H → Prop) : denF ty (gam J []) Tryz.f29 [a0, (.int .i64 a1)] h k = s29G J  a0 a1 h (fun r0 h => k (.str r0) h) := by kernel_rfl
noncomputable def g29 : Fun := w29 s29
theorem g29_ok : FunOk Tryz.prog 29 g29 := (fun_ok ty_ok mixed (gam_ok (J := J0) (tab_nil fls_fun)) Tryz.func29 (fun args w => by simp)).imp fun xs h k e0 => by
  obtain ⟨a0, xs0, rfl, e1⟩ := arg_imp e0
  obtain ⟨a1, xs1, rfl, e2⟩ := arg_imp e1
  obtain ⟨rfl, e3⟩ := noArg_imp e2
  obtain ⟨a1, rfl, e4⟩ := asI_iff.1 e3
  exact (s29_eq J0  a0 a1 h k).mpr e4
/-- (*stagepost/mvcc.reader).of -/
noncomputable def s25G (J : Joins) (c29 : AV → Int → H → (Str → H → Prop) → Prop) (a0 : AV) (a1 : Str) (h : H) (k : Str → H → Prop) : Prop :=
J.jd (α := AV × Unit) (fun v1 d2 h3 =>
J.lp (α := AV × AV × Unit) (fun r8 v5 d6 h7 =>
okNil v5.1 (
faK 1 v5.1 fun p9 =>
ldB p9 h7 fun b10 =>
fB (Bool.not b10) fun b11 =>
br b11 (
c29 v5.1 (Int.ofNat 1) h7 fun s13 h12 =>
fB (Bool.not (Str.beq s13 (⟨1, 0⟩ : Str))) fun b14 =>
br b14 (
apB .str 5 v5.2.1 (AV.str s13) h12 fun v15 h16 =>
r8 (v5.1, v15, ()) d6 h16) (
c29 v5.1 (Int.ofNat 1) h12 fun s18 h17 =>
fB (Str.beq s18 (⟨1, 255⟩ : Str)) fun b19 =>
br b19 (
op' (asRow true 5 [(AV.int .u8 (Int.ofNat 0))]) fun k22 =>
pushK k22 h17 fun n20 h21 =>
apB (.slice 5) 5 v5.2.1 (AV.slice n20 0 1 1 1 true) h21 fun v23 h24 =>
r8 (v5.1, v23, ()) d6 h24) (
fB (Str.beq s18 (⟨1, 1⟩ : Str)) fun b25 =>
br b25 (
toStrK v5.2.1 h17 fun s26 =>
leaveK (gam J [(29, w29 c29)]) d6 h17 fun h27 =>
k s26 h27) (
okNil v5.1 (
faK 1 v5.1 fun p28 =>
stV p28 (AV.bool true) h17 fun h29 =>
r8 (v5.1, v5.2.1, ()) d6 h29))))) (
leaveK (gam J [(29, w29 c29)]) d6 h7 fun h30 =>
k ⟨0, 0⟩ h30))) (v1.1, AV.nils, ()) d2 h3) fun j4 =>
c29 a0 (Int.ofNat 1) h fun s32 h31 =>
fB (Bool.not (Str.beq s32 a1)) fun b33 =>
br b33 (
okNil a0 (
faK 1 a0 fun p34 =>
stV p34 (AV.bool true) h31 fun h35 =>
j4 (a0, ()) [] h35)) (
j4 (a0, ()) [] h31)
noncomputable def s25 : AV → Str → H → (Str → H → Prop) → Prop := s25G J0 s29
noncomputable def w25 (c : AV → Str → H → (Str → H → Prop) → Prop) : Fun := fun xs h k => arg xs fun a0 xs => arg xs fun a1 xs => noArg xs <| asS a1 fun a1 => c a0 a1 h fun r0 h => k (.str r0) h
theorem s25_eq (J : Joins) (c29 : AV → Int → H → (Str → H → Prop) → Prop) (a0 : AV) (a1 : Str) (h : H) (k : AV → H → Prop) : denF ty (gam J [(29, w29 c29)]) Tryz.f25 [a0, (.str a1)] h k = s25G J c29 a0 a1 h (fun r0 h => k (.str r0) h) := by kernel_rfl
noncomputable def g25 : Fun := w25 s25
theorem g25_ok : FunOk Tryz.prog 25 g25 := (fun_ok ty_ok mixed (gam_ok (J := J0) (tab_cons g29_ok (tab_nil fls_fun))) Tryz.func25 (fun args w => by simp)).imp fun xs h k e0 => by
  obtain ⟨a0, xs0, rfl, e1⟩ := arg_imp e0
  obtain ⟨a1, xs1, rfl, e2⟩ := arg_imp e1
  obtain ⟨rfl, e3⟩ := noArg_imp e2
  obtain ⟨a1, rfl, e4⟩ := asS_iff.1 e3
  exact (s25_eq J0 s29 a0 a1 h k).mpr e4
/-- stagepost/enc.unfixed -/
noncomputable def s77G (J : Joins) (a0 : Str) (h : H) (k : Int → H → Prop) : Prop :=
J.lp (α := AV × AV × AV × AV × Unit) (fun r4 v1 d2 h3 =>
asI .i64 v1.2.2.2.1 fun x5 =>
asI .i64 v1.2.2.1 fun x6 =>
fB (ltI x5 x6) fun b7 =>
br b7 (
asI .u64 v1.2.1 fun x8 =>
fI (shlF .u64 x8 8) fun x9 =>
ixsK v1.1 v1.2.2.2.1 fun x10 =>
fI (wrapF .u64 x10) fun x11 =>
fI (lorF .u64 x9 x11) fun x12 =>
asI .i64 v1.2.2.2.1 fun x13 =>
fI (wrapF .i64 (Int.add x13 (Int.ofNat 1))) fun x14 =>
r4 (v1.1, (AV.int .u64 x12), v1.2.2.1, (AV.int .i64 x14), ()) d2 h3) (
leaveK (gam J []) d2 h3 fun h15 =>
asI .u64 v1.2.1 fun x16 =>
k x16 h15)) ((AV.str a0), (AV.int .u64 (Int.ofNat 0)), (AV.int .i64 (Int.ofNat a0.len)), (AV.int .i64 (Int.ofNat 0)), ()) [] h
noncomputable def s77 : Str → H → (Int → H → Prop) → Prop := s77G J0 
noncomputable def w77 (c : Str → H → (Int → H → Prop) → Prop) : Fun := fun xs h k => arg xs fun a0 xs => noArg xs <| asS a0 fun a0 => c a0 h fun r0 h => k (.int .u64 r0) h
theorem s77_eq (J : Joins) (a0 : Str) (h : H) (k : AV → H → Prop) : denF ty (gam J []) Tryz.f77 [(.str a0)] h k = s77G J  a0 h (fun r0 h => k (.int .u64 r0) h) := by kernel_rfl
noncomputable def g77 : Fun := w77 s77
theorem g77_ok : FunOk Tryz.prog 77 g77 := (fun_ok ty_ok mixed (gam_ok (J := J0) (tab_nil fls_fun)) Tryz.func77 (fun args w => by simp)).imp fun xs h k e0 => by
  obtain ⟨a0, xs0, rfl, e1⟩ := arg_imp e0
  obtain ⟨rfl, e2⟩ := noArg_imp e1
  obtain ⟨a0, rfl, e3⟩ := asS_iff.1 e2
  exact (s77_eq J0  a0 h k).mpr e3
/-- stagepost/enc.Unstamp -/
noncomputable def s49G (J : Joins) (c77 : Str → H → (Int → H → Prop) → Prop) (c78 : AV → H → (Bool → H → Prop) → Prop) (a0 : Str) (h : H) (k : AV → Int → H → Prop) : Prop :=
pushK (.cells false 51 [(.int .i64 0), (.int .i32 0), (.int .i32 0)]) h fun n1 h2 =>
fB (Bool.not (eqI (Int.ofNat a0.len) (Int.ofNat 16))) fun b3 =>
br b3 (
stN 3 (AV.ptr n1 0) [(.int .i64 0), (.int .i32 0), (.int .i32 0)] h2 fun h4 =>
ldN 3 (AV.ptr n1 0) h4 fun l5 =>
k (AV.agg l5) (Int.ofNat 5) h4) (
subK (AV.str a0) none (some (AV.int .i64 (Int.ofNat 8))) fun s6 =>
subK (AV.str a0) (some (AV.int .i64 (Int.ofNat 8))) (some (AV.int .i64 (Int.ofNat 12))) fun s7 =>
subK (AV.str a0) (some (AV.int .i64 (Int.ofNat 12))) none fun s8 =>
c77 s6 h2 fun x10 h9 =>
c77 s7 h9 fun x12 h11 =>
c77 s8 h11 fun x14 h13 =>
fB (ltI (Int.ofNat 9223372036854775807) x10) fun b15 =>
J.jn (fun v16 h17 =>
J.jn (fun v19 h20 =>
pickB (AV.bool b15) (AV.bool true) v19 fun b24 =>
J.jn (fun v25 h26 =>
J.jn (fun v28 h29 =>
pickB (AV.bool b24) (AV.bool true) v28 fun b33 =>
br b33 (
stN 3 (AV.ptr n1 0) [(.int .i64 0), (.int .i32 0), (.int .i32 0)] h29 fun h34 =>
ldN 3 (AV.ptr n1 0) h34 fun l35 =>
k (AV.agg l35) (Int.ofNat 5) h34) (
fI (wrapF .i64 x10) fun x36 =>
fI (wrapF .i64 (Int.sub (Int.ofNat 9223372036854775807) x36)) fun x37 =>
fI (wrapF .i32 x12) fun x38 =>
fI (wrapF .i32 (Int.sub (Int.ofNat 2147483647) x38)) fun x39 =>
fI (wrapF .i32 x14) fun x40 =>
fI (wrapF .i32 (Int.sub (Int.ofNat 2147483647) x40)) fun x41 =>
pushK (.cells false 51 [(.int .i64 0), (.int .i32 0), (.int .i32 0)]) h29 fun n42 h43 =>
stN 3 (AV.ptr n42 0) [(AV.int .i64 x37), (AV.int .i32 x39), (AV.int .i32 x41)] h43 fun h44 =>
ldN 3 (AV.ptr n42 0) h44 fun l45 =>
c78 (AV.agg l45) h44 fun b47 h46 =>
fB (Bool.not b47) fun b48 =>
br b48 (
stN 3 (AV.ptr n1 0) [(.int .i64 0), (.int .i32 0), (.int .i32 0)] h46 fun h49 =>
ldN 3 (AV.ptr n1 0) h49 fun l50 =>
k (AV.agg l50) (Int.ofNat 5) h49) (
ldN 3 (AV.ptr n42 0) h46 fun l51 =>
stN 3 (AV.ptr n1 0) l51 h46 fun h52 =>
ldN 3 (AV.ptr n1 0) h52 fun l53 =>
k (AV.agg l53) (Int.ofNat 0) h52))) fun j30 =>
br b24 (
j30 .junk h26) (
asI .u64 v25 fun x31 =>
fB (ltI (Int.ofNat 2147483647) x31) fun b32 =>
j30 (AV.bool b32) h26)) fun j27 =>
br b24 (
j27 .junk h20) (
j27 (AV.int .u64 x14) h20)) fun j21 =>
br b15 (
j21 .junk h17) (
asI .u64 v16 fun x22 =>
fB (ltI (Int.ofNat 2147483647) x22) fun b23 =>
j21 (AV.bool b23) h17)) fun j18 =>
br b15 (
j18 .junk h13) (
j18 (AV.int .u64 x12) h13))
noncomputable def s49 : Str → H → (AV → Int → H → Prop) → Prop := s49G J0 s77 s78
noncomputable def w49 (c : Str → H → (AV → Int → H → Prop) → Prop) : Fun := fun xs h k => arg xs fun a0 xs => noArg xs <| asS a0 fun a0 => c a0 h fun r0 r1 h => k (.tuple [r0, (.int .i64 r1)]) h
theorem s49_eq (J : Joins) (c77 : Str → H → (Int → H → Prop) → Prop) (c78 : AV → H → (Bool → H → Prop) → Prop) (a0 : Str) (h : H) (k : AV → H → Prop) : denF ty (gam J [(77, w77 c77), (78, w78 c78)]) Tryz.f49 [(.str a0)] h k = s49G J c77 c78 a0 h (fun r0 r1 h => k (.tuple [r0, (.int .i64 r1)]) h) := by kernel_rfl
noncomputable def g49 : Fun := w49 s49
theorem g49_ok : FunOk Tryz.prog 49 g49 := (fun_ok ty_ok mixed (gam_ok (J := J0) (tab_cons g77_ok (tab_cons g78_ok (tab_nil fls_fun)))) Tryz.func49 (fun args w => by simp)).imp fun xs h k e0 => by
  obtain ⟨a0, xs0, rfl, e1⟩ := arg_imp e0
  obtain ⟨rfl, e2⟩ := noArg_imp e1
  obtain ⟨a0, rfl, e3⟩ := asS_iff.1 e2
  exact (s49_eq J0 s77 s78 a0 h k).mpr e3
/-- (*stagepost/mvcc.reader).stamp -/
noncomputable def s26G (J : Joins) (c29 : AV → Int → H → (Str → H → Prop) → Prop) (c49 : Str → H → (AV → Int → H → Prop) → Prop) (a0 : AV) (h : H) (k : AV → H → Prop) : Prop :=
pushK (.cells false 51 [(.int .i64 0), (.int .i32 0), (.int .i32 0)]) h fun n1 h2 =>
c29 a0 (Int.ofNat 16) h2 fun s4 h3 =>
c49 s4 h3 fun v6 x7 h5 =>
pushK (.cells false 51 [(.int .i64 0), (.int .i32 0), (.int .i32 0)]) h5 fun n8 h9 =>
Go.Am.asAgg v6 fun l11 =>
stN 3 (AV.ptr n8 0) l11 h9 fun h10 =>
J.jd (α := AV × AV × Unit) (fun v12 d13 h14 =>
ldN 3 v12.2.1 h14 fun l16 =>
stN 3 v12.1 l16 h14 fun h17 =>
leaveK (gam J [(29, w29 c29), (49, w49 c49)]) d13 h17 fun h18 =>
ldN 3 v12.1 h18 fun l19 =>
k (AV.agg l19) h18) fun j15 =>
fB (Bool.not (eqI x7 (Int.ofNat 0))) fun b20 =>
br b20 (
okNil a0 (
faK 1 a0 fun p21 =>
stV p21 (AV.bool true) h10 fun h22 =>
j15 ((AV.ptr n1 0), (AV.ptr n8 0), ()) [] h22)) (
j15 ((AV.ptr n1 0), (AV.ptr n8 0), ()) [] h10)
noncomputable def s26 : AV → H → (AV → H → Prop) → Prop := s26G J0 s29 s49
noncomputable def w26 (c : AV → H → (AV → H → Prop) → Prop) : Fun := fun xs h k => arg xs fun a0 xs => noArg xs <| c a0 h fun r0 h => k r0 h
theorem s26_eq (J : Joins) (c29 : AV → Int → H → (Str → H → Prop) → Prop) (c49 : Str → H → (AV → Int → H → Prop) → Prop) (a0 : AV) (h : H) (k : AV → H → Prop) : denF ty (gam J [(29, w29 c29), (49, w49 c49)]) Tryz.f26 [a0] h k = s26G J c29 c49 a0 h (fun r0 h => k r0 h) := by kernel_rfl
noncomputable def g26 : Fun := w26 s26
theorem g26_ok : FunOk Tryz.prog 26 g26 := (fun_ok ty_ok mixed (gam_ok (J := J0) (tab_cons g29_ok (tab_cons g49_ok (tab_nil fls_fun)))) Tryz.func26 (fun args w => by simp)).imp fun xs h k e0 => by
  obtain ⟨a0, xs0, rfl, e1⟩ := arg_imp e0
  obtain ⟨rfl, e2⟩ := noArg_imp e1
  exact (s26_eq J0 s29 s49 a0 h k).mpr e2
/-- (*stagepost/mvcc.reader).flag -/
noncomputable def s27G (J : Joins) (c29 : AV → Int → H → (Str → H → Prop) → Prop) (a0 : AV) (h : H) (k : Bool → Str → H → Prop) : Prop :=
c29 a0 (Int.ofNat 1) h fun s2 h1 =>
fB (Str.beq s2 (⟨1, 0⟩ : Str)) fun b3 =>
br b3 (
okNil a0 (
faK 0 a0 fun p4 =>
ldS p4 h1 fun s5 =>
c29 a0 (Int.ofNat s5.len) h1 fun s7 h6 =>
k false s7 h6)) (
fB (Str.beq s2 (⟨1, 1⟩ : Str)) fun b8 =>
br b8 (
k true ⟨0, 0⟩ h1) (
okNil a0 (
faK 1 a0 fun p9 =>
stV p9 (AV.bool true) h1 fun h10 =>
k false ⟨0, 0⟩ h10)))
noncomputable def s27 : AV → H → (Bool → Str → H → Prop) → Prop := s27G J0 s29
noncomputable def w27 (c : AV → H → (Bool → Str → H → Prop) → Prop) : Fun := fun xs h k => arg xs fun a0 xs => noArg xs <| c a0 h fun r0 r1 h => k (.tuple [(.bool r0), (.str r1)]) h
theorem s27_eq (J : Joins) (c29 : AV → Int → H → (Str → H → Prop) → Prop) (a0 : AV) (h : H) (k : AV → H → Prop) : denF ty (gam J [(29, w29 c29)]) Tryz.f27 [a0] h k = s27G J c29 a0 h (fun r0 r1 h => k (.tuple [(.bool r0), (.str r1)]) h) := by kernel_rfl
noncomputable def g27 : Fun := w27 s27
theorem g27_ok : FunOk Tryz.prog 27 g27 := (fun_ok ty_ok mixed (gam_ok (J := J0) (tab_cons g29_ok (tab_nil fls_fun))) Tryz.func27 (fun args w => by simp)).imp fun xs h k e0 => by
  obtain ⟨a0, xs0, rfl, e1⟩ := arg_imp e0
  obtain ⟨rfl, e2⟩ := noArg_imp e1
  exact (s27_eq J0 s29 a0 h k).mpr e2
/-- stagepost/mvcc.Cell -/
noncomputable def s10G (J : Joins) (c21 : AV → H → (AV → Int → H → Prop) → Prop) (c25 : AV → Str → H → (Str → H → Prop) → Prop) (c26 : AV → H → (AV → H → Prop) → Prop) (c27 : AV → H → (Bool → Str → H → Prop) → Prop) (a0 : AV) (h : H) (k : AV → Int → H → Prop) : Prop :=
Go.Am.asAgg a0 fun l3 =>
pushK (.cells false 73 l3) h fun n1 h2 =>
pushK (.cells false 61 [(.str ⟨0, 0⟩), (.int .i64 0), (.int .i32 0), (.int .i32 0), (.str ⟨0, 0⟩), (.bool false)]) h2 fun n4 h5 =>
ldS (AV.ptr n1 0) h5 fun s6 =>
pushK (.cells false 92 [(AV.str s6), (.bool false)]) h5 fun n7 h8 =>
ldS (AV.ptr n1 1) h8 fun s9 =>
pushK (.cells false 92 [(AV.str s9), (.bool false)]) h8 fun n10 h11 =>
c25 (AV.ptr n7 0) ⟨1, 99⟩ h11 fun s13 h12 =>
pushK (.cells false 61 [(.str ⟨0, 0⟩), (.int .i64 0), (.int .i32 0), (.int .i32 0), (.str ⟨0, 0⟩), (.bool false)]) h12 fun n14 h15 =>
stN 6 (AV.ptr n14 0) [(AV.str s13), (.int .i64 0), (.int .i32 0), (.int .i32 0), (.str ⟨0, 0⟩), (.bool false)] h15 fun h16 =>
c26 (AV.ptr n7 0) h16 fun v18 h17 =>
Go.Am.asAgg v18 fun l20 =>
stN 3 (AV.ptr n14 1) l20 h17 fun h19 =>
c27 (AV.ptr n10 0) h19 fun b22 s23 h21 =>
stV (AV.ptr n14 5) (AV.bool b22) h21 fun h24 =>
stV (AV.ptr n14 4) (AV.str s23) h24 fun h25 =>
ldN 6 (AV.ptr n14 0) h25 fun l26 =>
c21 (AV.agg l26) h25 fun v28 x29 h27 =>
pushK (.cells false 83 [(.str ⟨0, 0⟩), (.str ⟨0, 0⟩), (.bool false)]) h27 fun n30 h31 =>
Go.Am.asAgg v28 fun l33 =>
stN 3 (AV.ptr n30 0) l33 h31 fun h32 =>
fB (Bool.not (eqI x29 (Int.ofNat 0))) fun b34 =>
J.jn (fun v35 h36 =>
J.jn (fun v38 h39 =>
J.jn (fun v41 h42 =>
J.jn (fun v45 h46 =>
pickB (AV.bool b34) (AV.bool true) v45 fun b49 =>
J.jn (fun v50 h51 =>
J.jn (fun v53 h54 =>
J.jn (fun v56 h57 =>
J.jn (fun v60 h61 =>
pickB (AV.bool b49) (AV.bool true) v60 fun b64 =>
J.jn (fun v65 h66 =>
J.jn (fun v68 h69 =>
J.jn (fun v72 h73 =>
J.jn (fun v75 h76 =>
J.jn (fun v79 h80 =>
pickB (AV.bool b64) (AV.bool true) v79 fun b85 =>
J.jn (fun v86 h87 =>
J.jn (fun v89 h90 =>
J.jn (fun v93 h94 =>
J.jn (fun v96 h97 =>
J.jn (fun v100 h101 =>
pickB (AV.bool b85) (AV.bool true) v100 fun b106 =>
br b106 (
stN 6 (AV.ptr n4 0) [(.str ⟨0, 0⟩), (.int .i64 0), (.int .i32 0), (.int .i32 0), (.str ⟨0, 0⟩), (.bool false)] h101 fun h107 =>
ldN 6 (AV.ptr n4 0) h107 fun l108 =>
k (AV.agg l108) (Int.ofNat 5) h107) (
ldN 6 (AV.ptr n14 0) h101 fun l109 =>
stN 6 (AV.ptr n4 0) l109 h101 fun h110 =>
ldN 6 (AV.ptr n4 0) h110 fun l111 =>
k (AV.agg l111) (Int.ofNat 0) h110)) fun j102 =>
br b85 (
j102 .junk h97) (
asS v89 fun s103 =>
asS v96 fun s104 =>
fB (Bool.not (Str.beq s103 s104)) fun b105 =>
j102 (AV.bool b105) h97)) fun j98 =>
br b85 (
j98 .junk h94) (
ldS v93 h94 fun s99 =>
j98 (AV.str s99) h94)) fun j95 =>
br b85 (
j95 .junk h90) (
j95 (AV.ptr n1 1) h90)) fun j91 =>
br b85 (
j91 .junk h87) (
ldS v86 h87 fun s92 =>
j91 (AV.str s92) h87)) fun j88 =>
br b85 (
j88 .junk h80) (
j88 (AV.ptr n30 1) h80)) fun j81 =>
br b64 (
j81 .junk h76) (
asS v68 fun s82 =>
asS v75 fun s83 =>
fB (Bool.not (Str.beq s82 s83)) fun b84 =>
j81 (AV.bool b84) h76)) fun j77 =>
br b64 (
j77 .junk h73) (
ldS v72 h73 fun s78 =>
j77 (AV.str s78) h73)) fun j74 =>
br b64 (
j74 .junk h69) (
j74 (AV.ptr n1 0) h69)) fun j70 =>
br b64 (
j70 .junk h66) (
ldS v65 h66 fun s71 =>
j70 (AV.str s71) h66)) fun j67 =>
br b64 (
j67 .junk h61) (
j67 (AV.ptr n30 0) h61)) fun j62 =>
br b49 (
j62 .junk h57) (
ldB v56 h57 fun b63 =>
j62 (AV.bool b63) h57)) fun j58 =>
br b49 (
j58 .junk h54) (
faK 1 v53 fun p59 =>
j58 p59 h54)) fun j55 =>
br b49 (
j55 .junk h51) (
okNil v50 (
j55 v50 h51))) fun j52 =>
br b49 (
j52 .junk h46) (
j52 (AV.ptr n10 0) h46)) fun j47 =>
br b34 (
j47 .junk h42) (
ldB v41 h42 fun b48 =>
j47 (AV.bool b48) h42)) fun j43 =>
br b34 (
j43 .junk h39) (
faK 1 v38 fun p44 =>
j43 p44 h39)) fun j40 =>
br b34 (
j40 .junk h36) (
okNil v35 (
j40 v35 h36))) fun j37 =>
br b34 (
j37 .junk h32) (
j37 (AV.ptr n7 0) h32)
noncomputable def s10 : AV → H → (AV → Int → H → Prop) → Prop := s10G J0 s21 s25 s26 s27
noncomputable def w10 (c : AV → H → (AV → Int → H → Prop) → Prop) : Fun := fun xs h k => arg xs fun a0 xs => noArg xs <| c a0 h fun r0 r1 h => k (.tuple [r0, (.int .i64 r1)]) h
theorem s10_eq (J : Joins) (c21 : AV → H → (AV → Int → H → Prop) → Prop) (c25 : AV → Str → H → (Str → H → Prop) → Prop) (c26 : AV → H → (AV → H → Prop) → Prop) (c27 : AV → H → (Bool → Str → H → Prop) → Prop) (a0 : AV) (h : H) (k : AV → H → Prop) : denF ty (gam J [(21, w21 c21), (25, w25 c25), (26, w26 c26), (27, w27 c27)]) Tryz.f10 [a0] h k = s10G J c21 c25 c26 c27 a0 h (fun r0 r1 h => k (.tuple [r0, (.int .i64 r1)]) h) := by kernel_rfl
noncomputable def g10 : Fun := w10 s10
theorem g10_ok : FunOk Tryz.prog 10 g10 := (fun_ok ty_ok mixed (gam_ok (J := J0) (tab_cons g21_ok (tab_cons g25_ok (tab_cons g26_ok (tab_cons g27_ok (tab_nil fls_fun)))))) Tryz.func10 (fun args w => by simp)).imp fun xs h k e0 => by
  obtain ⟨a0, xs0, rfl, e1⟩ := arg_imp e0
  obtain ⟨rfl, e2⟩ := noArg_imp e1
  exact (s10_eq J0 s21 s25 s26 s27 a0 h k).mpr e2
/-- stagepost/mvcc.Cells -/
noncomputable def s4G (J : Joins) (c9 : AV → Str → AV → AV → H → (AV → Int → H → Prop) → Prop) (c10 : AV → H → (AV → Int → H → Prop) → Prop) (a0 : AV) (a1 : AV) (h : H) (k : AV → Int → H → Prop) : Prop :=
Go.Am.asAgg a1 fun l3 =>
pushK (.cells false 23 l3) h fun n1 h2 =>
ldN 2 (AV.ptr n1 0) h2 fun l4 =>
c9 a0 ⟨1, 99⟩ (AV.agg l4) (AV.func (.func 10) [] []) h2 fun v6 x7 h5 =>
k v6 x7 h5
noncomputable def s4 : AV → AV → H → (AV → Int → H → Prop) → Prop := s4G J0 s9 s10
noncomputable def w4 (c : AV → AV → H → (AV → Int → H → Prop) → Prop) : Fun := fun xs h k => arg xs fun a0 xs => arg xs fun a1 xs => noArg xs <| c a0 a1 h fun r0 r1 h => k (.tuple [r0, (.int .i64 r1)]) h
theorem s4_eq (J : Joins) (c9 : AV → Str → AV → AV → H → (AV → Int → H → Prop) → Prop) (c10 : AV → H → (AV → Int → H → Prop) → Prop) (a0 : AV) (a1 : AV) (h : H) (k : AV → H → Prop) : denF ty (gam J [(9, w9 c9), (10, w10 c10)]) Tryz.f4 [a0, a1] h k = s4G J c9 c10 a0 a1 h (fun r0 r1 h => k (.tuple [r0, (.int .i64 r1)]) h) := by kernel_rfl
noncomputable def g4 : Fun := w4 s4
theorem g4_ok : FunOk Tryz.prog 4 g4 := (fun_ok ty_ok mixed (gam_ok (J := J0) (tab_cons g9_ok (tab_cons g10_ok (tab_nil fls_fun)))) Tryz.func4 (fun args w => by simp)).imp fun xs h k e0 => by
  obtain ⟨a0, xs0, rfl, e1⟩ := arg_imp e0
  obtain ⟨a1, xs1, rfl, e2⟩ := arg_imp e1
  obtain ⟨rfl, e3⟩ := noArg_imp e2
  exact (s4_eq J0 s9 s10 a0 a1 h k).mpr e3
/-- stagepost/mvcc.found[stagepost/api.Intent] -/
noncomputable def s11G (J : Joins) (c13 : AV → H → (Int → H → Prop) → Prop) (a0 : AV) (a1 : Str) (a2 : AV) (a3 : AV) (h : H) (k : AV → Int → H → Prop) : Prop :=
Go.Am.asAgg a2 fun l3 =>
pushK (.cells false 23 l3) h fun n1 h2 =>
c13 a0 h2 fun x5 h4 =>
fB (eqI x5 (Int.ofNat 1)) fun b6 =>
br b6 (
k AV.nils (Int.ofNat 1) h4) (
ldS (AV.ptr n1 1) h4 fun s7 =>
fB (Bool.not (Str.beq s7 (⟨0, 0⟩ : Str))) fun b8 =>
J.jn (fun v9 h10 =>
J.jn (fun v12 h13 =>
J.jn (fun v16 h17 =>
J.jn (fun v19 h20 =>
J.jn (fun v23 h24 =>
pickB (AV.bool b8) v23 (AV.bool false) fun b29 =>
br b29 (
k AV.nils (Int.ofNat 0) h24) (
ldN 2 (AV.ptr n1 0) h24 fun l30 =>
False)) fun j25 =>
br b8 (
asS v12 fun s26 =>
asS v19 fun s27 =>
fB (Bool.not (Str.lt s27 s26)) fun b28 =>
j25 (AV.bool b28) h20) (
j25 .junk h20)) fun j21 =>
br b8 (
ldS v16 h17 fun s22 =>
j21 (AV.str s22) h17) (
j21 .junk h17)) fun j18 =>
br b8 (
j18 (AV.ptr n1 0) h13) (
j18 .junk h13)) fun j14 =>
br b8 (
ldS v9 h10 fun s15 =>
j14 (AV.str s15) h10) (
j14 .junk h10)) fun j11 =>
br b8 (
j11 (AV.ptr n1 1) h4) (
j11 .junk h4))
noncomputable def s11 : AV → Str → AV → AV → H → (AV → Int → H → Prop) → Prop := s11G J0 s13
noncomputable def w11 (c : AV → Str → AV → AV → H → (AV → Int → H → Prop) → Prop) : Fun := fun xs h k => arg xs fun a0 xs => arg xs fun a1 xs => arg xs fun a2 xs => arg xs fun a3 xs => noArg xs <| asS a1 fun a1 => c a0 a1 a2 a3 h fun r0 r1 h => k (.tuple [r0, (.int .i64 r1)]) h
theorem s11_eq (J : Joins) (c13 : AV → H → (Int → H → Prop) → Prop) (a0 : AV) (a1 : Str) (a2 : AV) (a3 : AV) (h : H) (k : AV → H → Prop) : denF ty (gam J [(13, w13 c13)]) Tryz.f11 [a0, (.str a1), a2, a3] h k = s11G J c13 a0 a1 a2 a3 h (fun r0 r1 h => k (.tuple [r0, (.int .i64 r1)]) h) := by kernel_rfl
noncomputable def g11 : Fun := w11 s11
theorem g11_ok : FunOk Tryz.prog 11 g11 := (fun_ok ty_ok mixed (gam_ok (J := J0) (tab_cons g13_ok (tab_nil fls_fun))) Tryz.func11 (fun args w => by simp)).imp fun xs h k e0 => by
  obtain ⟨a0, xs0, rfl, e1⟩ := arg_imp e0
  obtain ⟨a1, xs1, rfl, e2⟩ := arg_imp e1
  obtain ⟨a2, xs2, rfl, e3⟩ := arg_imp e2
  obtain ⟨a3, xs3, rfl, e4⟩ := arg_imp e3
  obtain ⟨rfl, e5⟩ := noArg_imp e4
  obtain ⟨a1, rfl, e6⟩ := asS_iff.1 e5
  exact (s11_eq J0 s13 a0 a1 a2 a3 h k).mpr e6
/-- stagepost/mvcc.Intents -/
noncomputable def s5G (J : Joins) (c11 : AV → Str → AV → AV → H → (AV → Int → H → Prop) → Prop) (a0 : AV) (a1 : AV) (h : H) (k : AV → Int → H → Prop) : Prop :=
Go.Am.asAgg a1 fun l3 =>
pushK (.cells false 23 l3) h fun n1 h2 =>
ldN 2 (AV.ptr n1 0) h2 fun l4 =>
c11 a0 ⟨1, 105⟩ (AV.agg l4) (AV.func (.func 12) [] []) h2 fun v6 x7 h5 =>
k v6 x7 h5
noncomputable def s5 : AV → AV → H → (AV → Int → H → Prop) → Prop := s5G J0 s11
noncomputable def w5 (c : AV → AV → H → (AV → Int → H → Prop) → Prop) : Fun := fun xs h k => arg xs fun a0 xs => arg xs fun a1 xs => noArg xs <| c a0 a1 h fun r0 r1 h => k (.tuple [r0, (.int .i64 r1)]) h
theorem s5_eq (J : Joins) (c11 : AV → Str → AV → AV → H → (AV → Int → H → Prop) → Prop) (a0 : AV) (a1 : AV) (h : H) (k : AV → H → Prop) : denF ty (gam J [(11, w11 c11)]) Tryz.f5 [a0, a1] h k = s5G J c11 a0 a1 h (fun r0 r1 h => k (.tuple [r0, (.int .i64 r1)]) h) := by kernel_rfl
noncomputable def g5 : Fun := w5 s5
theorem g5_ok : FunOk Tryz.prog 5 g5 := (fun_ok ty_ok mixed (gam_ok (J := J0) (tab_cons g11_ok (tab_nil fls_fun))) Tryz.func5 (fun args w => by simp)).imp fun xs h k e0 => by
  obtain ⟨a0, xs0, rfl, e1⟩ := arg_imp e0
  obtain ⟨a1, xs1, rfl, e2⟩ := arg_imp e1
  obtain ⟨rfl, e3⟩ := noArg_imp e2
  exact (s5_eq J0 s11 a0 a1 h k).mpr e3
/-- stagepost/mvcc.Records -/
noncomputable def s6G (J : Joins) (c13 : AV → H → (Int → H → Prop) → Prop) (a0 : AV) (h : H) (k : AV → Int → H → Prop) : Prop :=
c13 a0 h fun x2 h1 =>
fB (eqI x2 (Int.ofNat 1)) fun b3 =>
br b3 (
k AV.nils (Int.ofNat 1) h1) (
False)
noncomputable def s6 : AV → H → (AV → Int → H → Prop) → Prop := s6G J0 s13
noncomputable def w6 (c : AV → H → (AV → Int → H → Prop) → Prop) : Fun := fun xs h k => arg xs fun a0 xs => noArg xs <| c a0 h fun r0 r1 h => k (.tuple [r0, (.int .i64 r1)]) h
theorem s6_eq (J : Joins) (c13 : AV → H → (Int → H → Prop) → Prop) (a0 : AV) (h : H) (k : AV → H → Prop) : denF ty (gam J [(13, w13 c13)]) Tryz.f6 [a0] h k = s6G J c13 a0 h (fun r0 r1 h => k (.tuple [r0, (.int .i64 r1)]) h) := by kernel_rfl
noncomputable def g6 : Fun := w6 s6
theorem g6_ok : FunOk Tryz.prog 6 g6 := (fun_ok ty_ok mixed (gam_ok (J := J0) (tab_cons g13_ok (tab_nil fls_fun))) Tryz.func6 (fun args w => by simp)).imp fun xs h k e0 => by
  obtain ⟨a0, xs0, rfl, e1⟩ := arg_imp e0
  obtain ⟨rfl, e2⟩ := noArg_imp e1
  exact (s6_eq J0 s13 a0 h k).mpr e2
/-- stagepost/mvcc.Find -/
noncomputable def s7G (J : Joins) (c13 : AV → H → (Int → H → Prop) → Prop) (a0 : AV) (a1 : AV) (h : H) (k : AV → Bool → Int → H → Prop) : Prop :=
Go.Am.asAgg a1 fun l3 =>
pushK (.cells false 25 l3) h fun n1 h2 =>
pushK (.cells false 54 [(.int .i32 0), (.int .i32 0), (.int .u8 0), (.int .i64 0), (.int .i32 0), (.int .i32 0), (.nils), (.int .i64 0), (.int .i64 0), (.int .i32 0), (.int .i32 0)]) h2 fun n4 h5 =>
c13 a0 h5 fun x7 h6 =>
fB (eqI x7 (Int.ofNat 1)) fun b8 =>
br b8 (
stN 11 (AV.ptr n4 0) [(.int .i32 0), (.int .i32 0), (.int .u8 0), (.int .i64 0), (.int .i32 0), (.int .i32 0), (.nils), (.int .i64 0), (.int .i64 0), (.int .i32 0), (.int .i32 0)] h6 fun h9 =>
ldN 11 (AV.ptr n4 0) h9 fun l10 =>
k (AV.agg l10) false (Int.ofNat 1) h9) (
ldN 2 (AV.ptr n1 0) h6 fun l11 =>
False)
noncomputable def s7 : AV → AV → H → (AV → Bool → Int → H → Prop) → Prop := s7G J0 s13
noncomputable def w7 (c : AV → AV → H → (AV → Bool → Int → H → Prop) → Prop) : Fun := fun xs h k => arg xs fun a0 xs => arg xs fun a1 xs => noArg xs <| c a0 a1 h fun r0 r1 r2 h => k (.tuple [r0, (.bool r1), (.int .i64 r2)]) h
theorem s7_eq (J : Joins) (c13 : AV → H → (Int → H → Prop) → Prop) (a0 : AV) (a1 : AV) (h : H) (k : AV → H → Prop) : denF ty (gam J [(13, w13 c13)]) Tryz.f7 [a0, a1] h k = s7G J c13 a0 a1 h (fun r0 r1 r2 h => k (.tuple [r0, (.bool r1), (.int .i64 r2)]) h) := by kernel_rfl
noncomputable def g7 : Fun := w7 s7
theorem g7_ok : FunOk Tryz.prog 7 g7 := (fun_ok ty_ok mixed (gam_ok (J := J0) (tab_cons g13_ok (tab_nil fls_fun))) Tryz.func7 (fun args w => by simp)).imp fun xs h k e0 => by
  obtain ⟨a0, xs0, rfl, e1⟩ := arg_imp e0
  obtain ⟨a1, xs1, rfl, e2⟩ := arg_imp e1
  obtain ⟨rfl, e3⟩ := noArg_imp e2
  exact (s7_eq J0 s13 a0 a1 h k).mpr e3
/-- stagepost/stagepostlaw23.st -/
noncomputable def s22G (J : Joins) (a0 : Int) (a1 : Int) (a2 : Int) (h : H) (k : AV → H → Prop) : Prop :=
pushK (.cells false 51 [(.int .i64 0), (.int .i32 0), (.int .i32 0)]) h fun n1 h2 =>
stN 3 (AV.ptr n1 0) [(AV.int .i64 a0), (AV.int .i32 a1), (AV.int .i32 a2)] h2 fun h3 =>
ldN 3 (AV.ptr n1 0) h3 fun l4 =>
k (AV.agg l4) h3
noncomputable def s22 : Int → Int → Int → H → (AV → H → Prop) → Prop := s22G J0 
noncomputable def w22 (c : Int → Int → Int → H → (AV → H → Prop) → Prop) : Fun := fun xs h k => arg xs fun a0 xs => arg xs fun a1 xs => arg xs fun a2 xs => noArg xs <| asI .i64 a0 fun a0 => asI .i32 a1 fun a1 => asI .i32 a2 fun a2 => c a0 a1 a2 h fun r0 h => k r0 h
theorem s22_eq (J : Joins) (a0 : Int) (a1 : Int) (a2 : Int) (h : H) (k : AV → H → Prop) : denF ty (gam J []) Tryz.f22 [(.int .i64 a0), (.int .i32 a1), (.int .i32 a2)] h k = s22G J  a0 a1 a2 h (fun r0 h => k r0 h) := by kernel_rfl
noncomputable def g22 : Fun := w22 s22
theorem g22_ok : FunOk Tryz.prog 22 g22 := (fun_ok ty_ok mixed (gam_ok (J := J0) (tab_nil fls_fun)) Tryz.func22 (fun args w => by simp)).imp fun xs h k e0 => by
  obtain ⟨a0, xs0, rfl, e1⟩ := arg_imp e0
  obtain ⟨a1, xs1, rfl, e2⟩ := arg_imp e1
  obtain ⟨a2, xs2, rfl, e3⟩ := arg_imp e2
  obtain ⟨rfl, e4⟩ := noArg_imp e3
  obtain ⟨a0, rfl, e5⟩ := asI_iff.1 e4
  obtain ⟨a1, rfl, e6⟩ := asI_iff.1 e5
  obtain ⟨a2, rfl, e7⟩ := asI_iff.1 e6
  exact (s22_eq J0  a0 a1 a2 h k).mpr e7
/-- stagepost/mvcc.Lift -/
noncomputable def s23G (J : Joins) (c45 : Str → Str → H → (Str → H → Prop) → Prop) (c48 : Str → H → (Bool → H → Prop) → Prop) (a0 : Str) (h : H) (k : AV → Int → H → Prop) : Prop :=
pushK (.cells false 83 [(.str ⟨0, 0⟩), (.str ⟨0, 0⟩), (.bool false)]) h fun n1 h2 =>
c48 a0 h2 fun b4 h3 =>
fB (Bool.not b4) fun b5 =>
br b5 (
stN 3 (AV.ptr n1 0) [(.str ⟨0, 0⟩), (.str ⟨0, 0⟩), (.bool false)] h3 fun h6 =>
ldN 3 (AV.ptr n1 0) h6 fun l7 =>
k (AV.agg l7) (Int.ofNat 2) h6) (
c45 ⟨1, 105⟩ a0 h3 fun s9 h8 =>
stN 3 (AV.ptr n1 0) [(AV.str s9), (.str ⟨0, 0⟩), (AV.bool true)] h8 fun h10 =>
ldN 3 (AV.ptr n1 0) h10 fun l11 =>
k (AV.agg l11) (Int.ofNat 0) h10)
noncomputable def s23 : Str → H → (AV → Int → H → Prop) → Prop := s23G J0 s45 s48
noncomputable def w23 (c : Str → H → (AV → Int → H → Prop) → Prop) : Fun := fun xs h k => arg xs fun a0 xs => noArg xs <| asS a0 fun a0 => c a0 h fun r0 r1 h => k (.tuple [r0, (.int .i64 r1)]) h
theorem s23_eq (J : Joins) (c45 : Str → Str → H → (Str → H → Prop) → Prop) (c48 : Str → H → (Bool → H → Prop) → Prop) (a0 : Str) (h : H) (k : AV → H → Prop) : denF ty (gam J [(45, w45 c45), (48, w48 c48)]) Tryz.f23 [(.str a0)] h k = s23G J c45 c48 a0 h (fun r0 r1 h => k (.tuple [r0, (.int .i64 r1)]) h) := by kernel_rfl
noncomputable def g23 : Fun := w23 s23
theorem g23_ok : FunOk Tryz.prog 23 g23 := (fun_ok ty_ok mixed (gam_ok (J := J0) (tab_cons g45_ok (tab_cons g48_ok (tab_nil fls_fun)))) Tryz.func23 (fun args w => by simp)).imp fun xs h k e0 => by
  obtain ⟨a0, xs0, rfl, e1⟩ := arg_imp e0
  obtain ⟨rfl, e2⟩ := noArg_imp e1
  obtain ⟨a0, rfl, e3⟩ := asS_iff.1 e2
  exact (s23_eq J0 s45 s48 a0 h k).mpr e3
/-- stagepost/stagepostlaw23.lives -/
noncomputable def s8G (J : Joins) (c10 : AV → H → (AV → Int → H → Prop) → Prop) (c21 : AV → H → (AV → Int → H → Prop) → Prop) (c22 : Int → Int → Int → H → (AV → H → Prop) → Prop) (c23 : Str → H → (AV → Int → H → Prop) → Prop) (h : H) (k : Bool → H → Prop) : Prop :=
c22 (Int.ofNat 1) (Int.ofNat 0) (Int.ofNat 0) h fun v2 h1 =>
Go.Am.asAgg v2 fun l3 =>
ck (Nat.beq (List.length l3) 3) (op' (lputAt 1 l3 [(AV.str ⟨1, 97⟩), (.int .i64 0), (.int .i32 0), (.int .i32 0), (.str ⟨0, 0⟩), (.bool false)]) fun l4 =>
op' (lputAt 4 [(AV.str ⟨1, 120⟩)] l4) fun l5 =>
c21 (AV.agg l5) h1 fun v7 x8 h6 =>
pushK (.cells false 83 [(.str ⟨0, 0⟩), (.str ⟨0, 0⟩), (.bool false)]) h6 fun n9 h10 =>
Go.Am.asAgg v7 fun l12 =>
stN 3 (AV.ptr n9 0) l12 h10 fun h11 =>
c23 ⟨1, 97⟩ h11 fun v14 x15 h13 =>
pushK (.cells false 83 [(.str ⟨0, 0⟩), (.str ⟨0, 0⟩), (.bool false)]) h13 fun n16 h17 =>
Go.Am.asAgg v14 fun l19 =>
stN 3 (AV.ptr n16 0) l19 h17 fun h18 =>
fB (Bool.not (eqI x8 (Int.ofNat 0))) fun b20 =>
J.jn (fun v21 h22 =>
J.jn (fun v24 h25 =>
pickB (AV.bool b20) (AV.bool true) v24 fun b29 =>
J.jn (fun v30 h31 =>
J.jn (fun v33 h34 =>
J.jn (fun v37 h38 =>
J.jn (fun v41 h42 =>
pickB (AV.bool b29) (AV.bool true) v41 fun b46 =>
J.jn (fun v47 h48 =>
J.jn (fun v50 h51 =>
J.jn (fun v54 h55 =>
J.jn (fun v58 h59 =>
pickB (AV.bool b46) (AV.bool true) v58 fun b63 =>
J.jn (fun v64 h65 =>
J.jn (fun v67 h68 =>
J.jn (fun v71 h72 =>
pickB (AV.bool b63) (AV.bool true) v71 fun b76 =>
J.jn (fun v77 h78 =>
J.jn (fun v80 h81 =>
pickB (AV.bool b76) (AV.bool true) v80 fun b84 =>
br b84 (
k false h81) (
ldS (AV.ptr n9 0) h81 fun s85 =>
ldS (AV.ptr n9 1) h81 fun s86 =>
c10 (AV.agg [(AV.str s85), (AV.str s86)]) h81 fun v88 x89 h87 =>
pushK (.cells false 61 [(.str ⟨0, 0⟩), (.int .i64 0), (.int .i32 0), (.int .i32 0), (.str ⟨0, 0⟩), (.bool false)]) h87 fun n90 h91 =>
Go.Am.asAgg v88 fun l93 =>
stN 6 (AV.ptr n90 0) l93 h91 fun h92 =>
ldN 3 (AV.ptr n16 0) h92 fun l94 =>
obK (aBin ty .eql 83 false (AV.agg l94) (AV.agg [(AV.str ⟨4, 1767964673⟩), (.str ⟨0, 0⟩), (AV.bool true)])) fun b95 =>
J.jn (fun v96 h97 =>
J.jn (fun v99 h100 =>
pickB (AV.bool b95) v99 (AV.bool false) fun b104 =>
J.jb (fun b105 v106 =>
J.jn (fun v109 h110 =>
ck (Bool.rec (motive := fun _ => Bool) true (readsSo (aLoadN 6 (AV.ptr n90 0) h110) v106) b105) (
J.jn (fun v114 h115 =>
J.jn (fun v120 h121 =>
pickB (AV.bool b104) v120 (AV.bool false) fun b124 =>
k b124 h121) fun j122 =>
br b104 (
obK (aBin ty .eql 61 false v106 v114) fun b123 =>
j122 (AV.bool b123) h115) (
j122 .junk h115)) fun j116 =>
br b104 (
Go.Am.asAgg v109 fun l117 =>
ck (Nat.beq (List.length l117) 3) (op' (lputAt 1 l117 [(AV.str ⟨1, 97⟩), (.int .i64 0), (.int .i32 0), (.int .i32 0), (.str ⟨0, 0⟩), (.bool false)]) fun l118 =>
op' (lputAt 4 [(AV.str ⟨1, 120⟩)] l118) fun l119 =>
j116 (AV.agg l119) h110)) (
j116 .junk h110))) fun j111 =>
br b104 (
c22 (Int.ofNat 1) (Int.ofNat 0) (Int.ofNat 0) h100 fun v113 h112 =>
j111 v113 h112) (
j111 .junk h100)) fun j107 =>
br b104 (
ldN 6 (AV.ptr n90 0) h100 fun l108 =>
j107 true (AV.agg l108)) (
j107 false .junk)) fun j101 =>
br b95 (
asI .i64 v96 fun x102 =>
fB (eqI x102 (Int.ofNat 0)) fun b103 =>
j101 (AV.bool b103) h97) (
j101 .junk h97)) fun j98 =>
br b95 (
j98 (AV.int .i64 x89) h92) (
j98 .junk h92))) fun j82 =>
br b76 (
j82 .junk h78) (
ldB v77 h78 fun b83 =>
j82 (AV.bool b83) h78)) fun j79 =>
br b76 (
j79 .junk h72) (
j79 (AV.ptr n9 2) h72)) fun j73 =>
br b63 (
j73 .junk h68) (
asS v67 fun s74 =>
fB (Bool.not (Str.beq s74 (⟨2, 120⟩ : Str))) fun b75 =>
j73 (AV.bool b75) h68)) fun j69 =>
br b63 (
j69 .junk h65) (
ldS v64 h65 fun s70 =>
j69 (AV.str s70) h65)) fun j66 =>
br b63 (
j66 .junk h59) (
j66 (AV.ptr n9 1) h59)) fun j60 =>
br b46 (
j60 .junk h55) (
asS v54 fun s61 =>
fB (Bool.not (Str.beq s61 (⟨4, 1667301377⟩ : Str))) fun b62 =>
j60 (AV.bool b62) h55)) fun j56 =>
br b46 (
j56 .junk h51) (
subK v50 none (some (AV.int .i64 (Int.ofNat 4))) fun s57 =>
j56 (AV.str s57) h51)) fun j52 =>
br b46 (
j52 .junk h48) (
ldS v47 h48 fun s53 =>
j52 (AV.str s53) h48)) fun j49 =>
br b46 (
j49 .junk h42) (
j49 (AV.ptr n9 0) h42)) fun j43 =>
br b29 (
j43 .junk h38) (
asI .i64 v37 fun x44 =>
fB (Bool.not (eqI x44 (Int.ofNat 20))) fun b45 =>
j43 (AV.bool b45) h38)) fun j39 =>
br b29 (
j39 .junk h34) (
asS v33 fun s40 =>
j39 (AV.int .i64 (Int.ofNat s40.len)) h34)) fun j35 =>
br b29 (
j35 .junk h31) (
ldS v30 h31 fun s36 =>
j35 (AV.str s36) h31)) fun j32 =>
br b29 (
j32 .junk h25) (
j32 (AV.ptr n9 0) h25)) fun j26 =>
br b20 (
j26 .junk h22) (
asI .i64 v21 fun x27 =>
fB (Bool.not (eqI x27 (Int.ofNat 0))) fun b28 =>
j26 (AV.bool b28) h22)) fun j23 =>
br b20 (
j23 .junk h18) (
j23 (AV.int .i64 x15) h18))
noncomputable def s8 : H → (Bool → H → Prop) → Prop := s8G J0 s10 s21 s22 s23
noncomputable def w8 (c : H → (Bool → H → Prop) → Prop) : Fun := fun xs h k => noArg xs <| c  h fun r0 h => k (.bool r0) h
theorem s8_eq (J : Joins) (c10 : AV → H → (AV → Int → H → Prop) → Prop) (c21 : AV → H → (AV → Int → H → Prop) → Prop) (c22 : Int → Int → Int → H → (AV → H → Prop) → Prop) (c23 : Str → H → (AV → Int → H → Prop) → Prop)  (h : H) (k : AV → H → Prop) : denF ty (gam J [(10, w10 c10), (21, w21 c21), (22, w22 c22), (23, w23 c23)]) Tryz.f8 [] h k = s8G J c10 c21 c22 c23  h (fun r0 h => k (.bool r0) h) := by kernel_rfl
noncomputable def g8 : Fun := w8 s8
theorem g8_ok : FunOk Tryz.prog 8 g8 := (fun_ok ty_ok mixed (gam_ok (J := J0) (tab_cons g10_ok (tab_cons g21_ok (tab_cons g22_ok (tab_cons g23_ok (tab_nil fls_fun)))))) Tryz.func8 (fun args w => by simp)).imp fun xs h k e0 => by
  obtain ⟨rfl, e1⟩ := noArg_imp e0
  exact (s8_eq J0 s10 s21 s22 s23  h k).mpr e1
/-- stagepost/stagepostlaw23.MvccNil -/
noncomputable def s3G (J : Joins) (c4 : AV → AV → H → (AV → Int → H → Prop) → Prop) (c5 : AV → AV → H → (AV → Int → H → Prop) → Prop) (c6 : AV → H → (AV → Int → H → Prop) → Prop) (c7 : AV → AV → H → (AV → Bool → Int → H → Prop) → Prop) (c8 : H → (Bool → H → Prop) → Prop) (a0 : AV) (a1 : AV) (h : H) (k : Bool → H → Prop) : Prop :=
Go.Am.asAgg a0 fun l3 =>
pushK (.cells false 23 l3) h fun n1 h2 =>
Go.Am.asAgg a1 fun l6 =>
pushK (.cells false 25 l6) h2 fun n4 h5 =>
pushK (.cells false 38 [(.nilp), (.nils), (.int .i64 0), (.int .i64 0), (.int .i64 0), (.int .i64 0), (.nilp), (.nilp), (.nilp), (.nilm), (.nilm), (.int .i64 0), (.int .i64 0), (.bool false)]) h5 fun n7 h8 =>
pushK (.cells false 26 [AV.nilp, (AV.ptr n7 0)]) h8 fun n9 h10 =>
J.lp (α := AV × AV × AV × AV × Unit) (fun r14 v11 d12 h13 =>
lenK v11.2.2.1 fun x15 =>
asI .i64 v11.2.2.2.1 fun x16 =>
fB (ltI x16 (Int.ofNat x15)) fun b17 =>
br b17 (
ixK 1 v11.2.2.1 v11.2.2.2.1 fun p18 =>
ldV p18 h13 fun v19 =>
ldN 2 v11.1 h13 fun l20 =>
c4 v19 (AV.agg l20) h13 fun v22 x23 h21 =>
ixK 1 v11.2.2.1 v11.2.2.2.1 fun p24 =>
ldV p24 h21 fun v25 =>
ldN 2 v11.1 h21 fun l26 =>
c5 v25 (AV.agg l26) h21 fun v28 x29 h27 =>
ixK 1 v11.2.2.1 v11.2.2.2.1 fun p30 =>
ldV p30 h27 fun v31 =>
c6 v31 h27 fun v33 x34 h32 =>
ixK 1 v11.2.2.1 v11.2.2.2.1 fun p35 =>
ldV p35 h32 fun v36 =>
ldN 2 v11.2.1 h32 fun l37 =>
pushK (.cells false 54 [(.int .i32 0), (.int .i32 0), (.int .u8 0), (.int .i64 0), (.int .i32 0), (.int .i32 0), (.nils), (.int .i64 0), (.int .i64 0), (.int .i32 0), (.int .i32 0)]) h32 fun n38 h39 =>
c7 v36 (AV.agg l37) h39 fun v41 b42 x43 h40 =>
Go.Am.asAgg v41 fun l45 =>
stN 11 (AV.ptr n38 0) l45 h40 fun h44 =>
lenK v22 fun x46 =>
fB (Bool.not (eqI (Int.ofNat x46) (Int.ofNat 0))) fun b47 =>
J.jn (fun v48 h49 =>
J.jn (fun v51 h52 =>
pickB (AV.bool b47) (AV.bool true) v51 fun b56 =>
J.jn (fun v57 h58 =>
J.jn (fun v60 h61 =>
J.jn (fun v64 h65 =>
pickB (AV.bool b56) (AV.bool true) v64 fun b69 =>
J.jn (fun v70 h71 =>
J.jn (fun v73 h74 =>
pickB (AV.bool b69) (AV.bool true) v73 fun b78 =>
J.jn (fun v79 h80 =>
J.jn (fun v82 h83 =>
J.jn (fun v86 h87 =>
pickB (AV.bool b78) (AV.bool true) v86 fun b91 =>
J.jn (fun v92 h93 =>
J.jn (fun v95 h96 =>
pickB (AV.bool b91) (AV.bool true) v95 fun b100 =>
J.jn (fun v101 h102 =>
pickB (AV.bool b100) (AV.bool true) v101 fun b104 =>
J.jn (fun v105 h106 =>
J.jn (fun v108 h109 =>
pickB (AV.bool b104) (AV.bool true) v108 fun b113 =>
br b113 (
leaveK (gam J [(4, w4 c4), (5, w5 c5), (6, w6 c6), (7, w7 c7), (8, w8 c8)]) d12 h109 fun h114 =>
k false h114) (
asI .i64 v11.2.2.2.1 fun x115 =>
fI (wrapF .i64 (Int.add x115 (Int.ofNat 1))) fun x116 =>
r14 (v11.1, v11.2.1, v11.2.2.1, (AV.int .i64 x116), ()) d12 h109)) fun j110 =>
br b104 (
j110 .junk h106) (
asI .i64 v105 fun x111 =>
fB (Bool.not (eqI x111 (Int.ofNat 1))) fun b112 =>
j110 (AV.bool b112) h106)) fun j107 =>
br b104 (
j107 .junk h102) (
j107 (AV.int .i64 x43) h102)) fun j103 =>
br b100 (
j103 .junk h96) (
j103 (AV.bool b42) h96)) fun j97 =>
br b91 (
j97 .junk h93) (
asI .i64 v92 fun x98 =>
fB (Bool.not (eqI x98 (Int.ofNat 1))) fun b99 =>
j97 (AV.bool b99) h93)) fun j94 =>
br b91 (
j94 .junk h87) (
j94 (AV.int .i64 x34) h87)) fun j88 =>
br b78 (
j88 .junk h83) (
asI .i64 v82 fun x89 =>
fB (Bool.not (eqI x89 (Int.ofNat 0))) fun b90 =>
j88 (AV.bool b90) h83)) fun j84 =>
br b78 (
j84 .junk h80) (
lenK v79 fun x85 =>
j84 (AV.int .i64 (Int.ofNat x85)) h80)) fun j81 =>
br b78 (
j81 .junk h74) (
j81 v33 h74)) fun j75 =>
br b69 (
j75 .junk h71) (
asI .i64 v70 fun x76 =>
fB (Bool.not (eqI x76 (Int.ofNat 1))) fun b77 =>
j75 (AV.bool b77) h71)) fun j72 =>
br b69 (
j72 .junk h65) (
j72 (AV.int .i64 x29) h65)) fun j66 =>
br b56 (
j66 .junk h61) (
asI .i64 v60 fun x67 =>
fB (Bool.not (eqI x67 (Int.ofNat 0))) fun b68 =>
j66 (AV.bool b68) h61)) fun j62 =>
br b56 (
j62 .junk h58) (
lenK v57 fun x63 =>
j62 (AV.int .i64 (Int.ofNat x63)) h58)) fun j59 =>
br b56 (
j59 .junk h52) (
j59 v28 h52)) fun j53 =>
br b47 (
j53 .junk h49) (
asI .i64 v48 fun x54 =>
fB (Bool.not (eqI x54 (Int.ofNat 1))) fun b55 =>
j53 (AV.bool b55) h49)) fun j50 =>
br b47 (
j50 .junk h44) (
j50 (AV.int .i64 x23) h44)) (
c8  h13 fun b118 h117 =>
leaveK (gam J [(4, w4 c4), (5, w5 c5), (6, w6 c6), (7, w7 c7), (8, w8 c8)]) d12 h117 fun h119 =>
k b118 h119)) ((AV.ptr n1 0), (AV.ptr n4 0), (AV.slice n9 0 2 2 1 true), (AV.int .i64 (Int.ofNat 0)), ()) [] h10
noncomputable def s3 : AV → AV → H → (Bool → H → Prop) → Prop := s3G J0 s4 s5 s6 s7 s8
noncomputable def w3 (c : AV → AV → H → (Bool → H → Prop) → Prop) : Fun := fun xs h k => arg xs fun a0 xs => arg xs fun a1 xs => noArg xs <| c a0 a1 h fun r0 h => k (.bool r0) h
theorem s3_eq (J : Joins) (c4 : AV → AV → H → (AV → Int → H → Prop) → Prop) (c5 : AV → AV → H → (AV → Int → H → Prop) → Prop) (c6 : AV → H → (AV → Int → H → Prop) → Prop) (c7 : AV → AV → H → (AV → Bool → Int → H → Prop) → Prop) (c8 : H → (Bool → H → Prop) → Prop) (a0 : AV) (a1 : AV) (h : H) (k : AV → H → Prop) : denF ty (gam J [(4, w4 c4), (5, w5 c5), (6, w6 c6), (7, w7 c7), (8, w8 c8)]) Tryz.f3 [a0, a1] h k = s3G J c4 c5 c6 c7 c8 a0 a1 h (fun r0 h => k (.bool r0) h) := by kernel_rfl
noncomputable def g3 : Fun := w3 s3
theorem g3_ok : FunOk Tryz.prog 3 g3 := (fun_ok ty_ok mixed (gam_ok (J := J0) (tab_cons g4_ok (tab_cons g5_ok (tab_cons g6_ok (tab_cons g7_ok (tab_cons g8_ok (tab_nil fls_fun))))))) Tryz.func3 (fun args w => by simp)).imp fun xs h k e0 => by
  obtain ⟨a0, xs0, rfl, e1⟩ := arg_imp e0
  obtain ⟨a1, xs1, rfl, e2⟩ := arg_imp e1
  obtain ⟨rfl, e3⟩ := noArg_imp e2
  exact (s3_eq J0 s4 s5 s6 s7 s8 a0 a1 h k).mpr e3
end Go.Proofs.YtjbdhjpfokiimaaGreat
