/- Functions as they are reckoned. MADE BY PROGRAM (wip/tools/shal.py). -/
import Derived.Test.YtcohflkjinpcpaaGreatDoorAmH56
namespace Go.Proofs.YtcohflkjinpcpaaGreatDoor
open Go Go.Am
set_option maxRecDepth 100000
set_option linter.all false
/-- (*strings.Builder).WriteString -/
noncomputable def g57 : Fun := denFS ty (gam J0 [(77, g77)]) Tryz.f57
theorem g57_ok : FunOk Tryz.prog 57 g57 := fun_okS ty_ok mixed (gam_ok (J := J0) (tab_cons g77_ok (tab_nil fls_fun))) Tryz.func57 (fun args w => by simp)
/-- (*strings.Builder).String -/
noncomputable def g59 : Fun := denFS ty (gam J0 []) Tryz.f59
theorem g59_ok : FunOk Tryz.prog 59 g59 := fun_okS ty_ok mixed (gam_ok (J := J0) (tab_nil fls_fun)) Tryz.func59 (fun args w => by simp)
/-- strings.Repeat -/
noncomputable def g37 : Fun := denFS ty (gam J0 [(54, g54), (55, g55), (56, g56'), (57, g57), (59, g59)]) Tryz.f37
theorem g37_ok : FunOk Tryz.prog 37 g37 := fun_okS ty_ok mixed (gam_ok (J := J0) (tab_cons g54_ok (tab_cons g55_ok (tab_cons g56'_ok (tab_cons g57_ok (tab_cons g59_ok (tab_nil fls_fun))))))) Tryz.func37 (fun args w => by simp)
/-- stagepost/wal.Name -/
noncomputable def s12G (J : Joins) (c36 : Int → H → (Str → H → Prop) → Prop) (c37 : Fun) (a0 : Int) (h : H) (k : Str → Int → H → Prop) : Prop :=
fB (ltI a0 (Int.ofNat 1)) fun b1 =>
J.jn (fun v2 h3 =>
J.jn (fun v5 h6 =>
pickB (AV.bool b1) (AV.bool true) v5 fun b10 =>
br b10 (
k ⟨0, 0⟩ (Int.ofNat 2) h6) (
c36 a0 h6 fun s12 h11 =>
fI (wrapF .i64 (Int.sub (Int.ofNat 6) (Int.ofNat s12.len))) fun x13 =>
c37 [(AV.str ⟨1, 48⟩), (AV.int .i64 x13)] h11 fun v14 h15 =>
asS v14 fun s16 =>
ck (Nat.ble (Nat.add (⟨4, 2002873389⟩ : Str).len s16.len) 9223372036854775807) (fS (Str.cat (⟨4, 2002873389⟩ : Str) s16) fun s17 =>
ck (Nat.ble (Nat.add s17.len s12.len) 9223372036854775807) (fS (Str.cat s17 s12) fun s18 =>
k s18 (Int.ofNat 0) h15)))) fun j7 =>
br b1 (
j7 skipV h3) (
asI .i64 v2 fun x8 =>
fB (ltI (Int.ofNat 999999) x8) fun b9 =>
j7 (AV.bool b9) h3)) fun j4 =>
br b1 (
j4 skipV h) (
j4 (AV.int .i64 a0) h)
noncomputable def s12 : Int → H → (Str → Int → H → Prop) → Prop := s12G J0 s36 g37
noncomputable def w12 (c : Int → H → (Str → Int → H → Prop) → Prop) : Fun := fun xs h k => arg xs fun a0 xs => noArg xs <| asI .i64 a0 fun a0 => c a0 h fun r0 r1 h => k (.tuple [(.str r0), (.int .i64 r1)]) h
theorem s12_eq (J : Joins) (c36 : Int → H → (Str → H → Prop) → Prop) (c37 : Fun) (a0 : Int) (h : H) (k : AV → H → Prop) : denF ty (gam J [(36, w36 c36), (37, c37)]) Tryz.f12 [(.int .i64 a0)] h k = s12G J c36 c37 a0 h (fun r0 r1 h => k (.tuple [(.str r0), (.int .i64 r1)]) h) := by kernel_rfl
noncomputable def g12 : Fun := w12 s12
theorem g12_ok : FunOk Tryz.prog 12 g12 := (fun_ok ty_ok mixed (gam_ok (J := J0) (tab_cons g36_ok (tab_cons g37_ok (tab_nil fls_fun)))) Tryz.func12 (fun args w => by simp)).imp fun xs h k e0 => by
  obtain ⟨a0, xs0, rfl, e1⟩ := arg_imp e0
  obtain ⟨rfl, e2⟩ := noArg_imp e1
  obtain ⟨a0, rfl, e3⟩ := asI_iff.1 e2
  exact (s12_eq J0 s36 g37 a0 h k).mpr e3
/-- stagepost/wal.held -/
noncomputable def g43 : Fun := denFS ty (gam J0 [(12, g12), (60, g60)]) Tryz.f43
theorem g43_ok : FunOk Tryz.prog 43 g43 := fun_okS ty_ok mixed (gam_ok (J := J0) (tab_cons g12_ok (tab_cons g60_ok (tab_nil fls_fun)))) Tryz.func43 (fun args w => by simp)
/-- stagepost/wal.fine -/
noncomputable def s39G (J : Joins) (a0 : AV) (h : H) (k : Bool → H → Prop) : Prop :=
Go.Am.asAgg a0 fun l3 =>
pushK (.cells false 53 l3) h fun n1 h2 =>
ldS (AV.ptr n1 0) h2 fun s4 =>
fB (Bool.not (Str.beq s4 (⟨0, 0⟩ : Str))) fun b5 =>
J.jn (fun v6 h7 =>
J.jn (fun v9 h10 =>
J.jn (fun v13 h14 =>
J.jn (fun v17 h18 =>
pickB (AV.bool b5) v17 (AV.bool false) fun b22 =>
J.jn (fun v23 h24 =>
J.jn (fun v26 h27 =>
J.jn (fun v30 h31 =>
J.jn (fun v34 h35 =>
pickB (AV.bool b22) v34 (AV.bool false) fun b39 =>
J.jn (fun v40 h41 =>
J.jn (fun v43 h44 =>
J.jn (fun v47 h48 =>
J.jn (fun v52 h53 =>
J.jn (fun v55 h56 =>
J.jn (fun v58 h59 =>
J.jn (fun v62 h63 =>
J.jn (fun v67 h68 =>
pickB (AV.bool b39) v67 (AV.bool false) fun b71 =>
k b71 h68) fun j69 =>
br b39 (
pickB v52 (AV.bool true) v62 fun b70 =>
j69 (AV.bool b70) h63) (
j69 skipV h63)) fun j64 =>
asBU v52 (fun b72 =>
br b72 (
j64 skipV h59) (
asS v58 fun s65 =>
fB (Str.beq s65 (⟨0, 0⟩ : Str)) fun b66 =>
j64 (AV.bool b66) h59)) (
j64 skipV h59)) fun j60 =>
asBU v52 (fun b73 =>
br b73 (
j60 skipV h56) (
ldS v55 h56 fun s61 =>
j60 (AV.str s61) h56)) (
j60 skipV h56)) fun j57 =>
asBU v52 (fun b74 =>
br b74 (
j57 skipV h53) (
j57 (AV.ptr n1 1) h53)) (
j57 skipV h53)) fun j54 =>
br b39 (
j54 v47 h48) (
j54 skipV h48)) fun j49 =>
br b39 (
asB v43 fun b50 =>
fB (Bool.not b50) fun b51 =>
j49 (AV.bool b51) h44) (
j49 skipV h44)) fun j45 =>
br b39 (
ldB v40 h41 fun b46 =>
j45 (AV.bool b46) h41) (
j45 skipV h41)) fun j42 =>
br b39 (
j42 (AV.ptr n1 2) h35) (
j42 skipV h35)) fun j36 =>
br b22 (
asI .i64 v30 fun x37 =>
fB (Bool.not (ltI (Int.ofNat 4096) x37)) fun b38 =>
j36 (AV.bool b38) h31) (
j36 skipV h31)) fun j32 =>
br b22 (
asS v26 fun s33 =>
j32 (AV.int .i64 (Int.ofNat s33.len)) h27) (
j32 skipV h27)) fun j28 =>
br b22 (
ldS v23 h24 fun s29 =>
j28 (AV.str s29) h24) (
j28 skipV h24)) fun j25 =>
br b22 (
j25 (AV.ptr n1 1) h18) (
j25 skipV h18)) fun j19 =>
br b5 (
asI .i64 v13 fun x20 =>
fB (Bool.not (ltI (Int.ofNat 512) x20)) fun b21 =>
j19 (AV.bool b21) h14) (
j19 skipV h14)) fun j15 =>
br b5 (
asS v9 fun s16 =>
j15 (AV.int .i64 (Int.ofNat s16.len)) h10) (
j15 skipV h10)) fun j11 =>
br b5 (
ldS v6 h7 fun s12 =>
j11 (AV.str s12) h7) (
j11 skipV h7)) fun j8 =>
br b5 (
j8 (AV.ptr n1 0) h2) (
j8 skipV h2)
noncomputable def s39 : AV → H → (Bool → H → Prop) → Prop := s39G J0 
noncomputable def w39 (c : AV → H → (Bool → H → Prop) → Prop) : Fun := fun xs h k => arg xs fun a0 xs => noArg xs <| c a0 h fun r0 h => k (.bool r0) h
theorem s39_eq (J : Joins) (a0 : AV) (h : H) (k : AV → H → Prop) : denF ty (gam J []) Tryz.f39 [a0] h k = s39G J  a0 h (fun r0 h => k (.bool r0) h) := by kernel_rfl
noncomputable def g39 : Fun := w39 s39
theorem g39_ok : FunOk Tryz.prog 39 g39 := (fun_ok ty_ok mixed (gam_ok (J := J0) (tab_nil fls_fun)) Tryz.func39 (fun args w => by simp)).imp fun xs h k e0 => by
  obtain ⟨a0, xs0, rfl, e1⟩ := arg_imp e0
  obtain ⟨rfl, e2⟩ := noArg_imp e1
  exact (s39_eq J0  a0 h k).mpr e2
/-- stagepost/wal.Check -/
noncomputable def s14G (J : Joins) (c39 : AV → H → (Bool → H → Prop) → Prop) (a0 : AV) (h : H) (k : Int → H → Prop) : Prop :=
lenK a0 fun x1 =>
fB (eqI (Int.ofNat x1) (Int.ofNat 0)) fun b2 =>
br b2 (
k (Int.ofNat 2) h) (
lenK a0 fun x3 =>
fB (ltI (Int.ofNat 64) (Int.ofNat x3)) fun b4 =>
br b4 (
k (Int.ofNat 3) h) (
lenK a0 fun x5 =>
J.lp (α := AV × AV × AV × AV × Unit) (fun r9 v6 d7 h8 =>
asI .i64 v6.2.2.2.1 fun x10 =>
asI .i64 v6.2.2.1 fun x11 =>
fB (ltI x10 x11) fun b12 =>
br b12 (
ixK 3 v6.2.1 v6.2.2.2.1 fun p13 =>
ldN 3 p13 h8 fun l14 =>
pushK (.cells false 53 [(.str ⟨0, 0⟩), (.str ⟨0, 0⟩), (.bool false)]) h8 fun n15 h16 =>
stN 3 (AV.ptr n15 0) l14 h16 fun h17 =>
ldN 3 (AV.ptr n15 0) h17 fun l18 =>
c39 (AV.agg l18) h17 fun b20 h19 =>
fB (Bool.not b20) fun b21 =>
br b21 (
leaveK (gam J [(39, w39 c39)]) d7 h19 fun h22 =>
k (Int.ofNat 2) h22) (
asI .i64 v6.2.2.2.1 fun x23 =>
fI (wrapF .i64 (Int.add x23 (Int.ofNat 1))) fun x24 =>
r9 (v6.1, v6.2.1, v6.2.2.1, (AV.int .i64 x24), ()) d7 h19)) (
pushK (.smap []) h8 fun n25 h26 =>
lenK v6.1 fun x27 =>
J.lp (α := AV × AV × AV × AV × Unit) (fun r31 v28 d29 h30 =>
asI .i64 v28.2.2.2.1 fun x32 =>
asI .i64 v28.2.2.1 fun x33 =>
fB (ltI x32 x33) fun b34 =>
br b34 (
ixK 3 v28.2.1 v28.2.2.2.1 fun p35 =>
ldN 3 p35 h30 fun l36 =>
pushK (.cells false 53 [(.str ⟨0, 0⟩), (.str ⟨0, 0⟩), (.bool false)]) h30 fun n37 h38 =>
stN 3 (AV.ptr n37 0) l36 h38 fun h39 =>
ldS (AV.ptr n37 0) h39 fun s40 =>
op' (aLookup ty 9 71 true v28.1 (AV.str s40) h39) fun v41 =>
asTup v41 fun l42 =>
op' (lgetO l42 0) fun v43 =>
asTup v41 fun l44 =>
op' (lgetO l44 1) fun v45 =>
asB v45 fun b46 =>
pushK (.cells false 71 []) h39 fun n47 h48 =>
Go.Am.asAgg v43 fun l50 =>
stN 0 (AV.ptr n47 0) l50 h48 fun h49 =>
br b46 (
leaveK (gam J [(39, w39 c39)]) d29 h49 fun h51 =>
k (Int.ofNat 9) h51) (
ldS (AV.ptr n37 0) h49 fun s52 =>
op' (mapBlk ty 9 v28.1 (AV.str s52) (AV.agg []) h49) fun k53 =>
putK k53.1 k53.2 h49 fun h54 =>
asI .i64 v28.2.2.2.1 fun x55 =>
fI (wrapF .i64 (Int.add x55 (Int.ofNat 1))) fun x56 =>
r31 (v28.1, v28.2.1, v28.2.2.1, (AV.int .i64 x56), ()) d29 h54)) (
leaveK (gam J [(39, w39 c39)]) d29 h30 fun h57 =>
k (Int.ofNat 0) h57)) ((AV.map n25), v6.1, (AV.int .i64 (Int.ofNat x27)), (AV.int .i64 (Int.ofNat 0)), ()) d7 h26)) (a0, a0, (AV.int .i64 (Int.ofNat x5)), (AV.int .i64 (Int.ofNat 0)), ()) [] h))
noncomputable def s14 : AV → H → (Int → H → Prop) → Prop := s14G J0 s39
noncomputable def w14 (c : AV → H → (Int → H → Prop) → Prop) : Fun := fun xs h k => arg xs fun a0 xs => noArg xs <| c a0 h fun r0 h => k (.int .i64 r0) h
theorem s14_eq (J : Joins) (c39 : AV → H → (Bool → H → Prop) → Prop) (a0 : AV) (h : H) (k : AV → H → Prop) : denF ty (gam J [(39, w39 c39)]) Tryz.f14 [a0] h k = s14G J c39 a0 h (fun r0 h => k (.int .i64 r0) h) := by kernel_rfl
noncomputable def g14 : Fun := w14 s14
theorem g14_ok : FunOk Tryz.prog 14 g14 := (fun_ok ty_ok mixed (gam_ok (J := J0) (tab_cons g39_ok (tab_nil fls_fun))) Tryz.func14 (fun args w => by simp)).imp fun xs h k e0 => by
  obtain ⟨a0, xs0, rfl, e1⟩ := arg_imp e0
  obtain ⟨rfl, e2⟩ := noArg_imp e1
  exact (s14_eq J0 s39 a0 h k).mpr e2
/-- stagepost/enc.Read -/
noncomputable def s72G (J : Joins) (a0 : AV) (h : H) (k : Int → Int → Int → H → Prop) : Prop :=
J.jd (α := Unit) (fun v1 d2 h3 =>
leaveK (gam J []) d2 h3 fun h5 =>
k (Int.ofNat 0) (Int.ofNat 0) (Int.ofNat 5) h5) fun j4 =>
J.lp (α := AV × AV × AV × Unit) (fun r9 v6 d7 h8 =>
lenK v6.1 fun x10 =>
asI .i64 v6.2.2.1 fun x11 =>
fB (ltI x11 (Int.ofNat x10)) fun b12 =>
J.jn (fun v13 h14 =>
J.jn (fun v16 h17 =>
pickB (AV.bool b12) v16 (AV.bool false) fun b21 =>
br b21 (
ixK 1 v6.1 v6.2.2.1 fun p22 =>
ldI .u8 p22 h17 fun x23 =>
asI .i64 v6.2.2.1 fun x24 =>
fB (eqI x24 (Int.ofNat 9)) fun b25 =>
J.jn (fun v26 h27 =>
J.jn (fun v29 h30 =>
pickB (AV.bool b25) v29 (AV.bool false) fun b34 =>
J.jn (fun v35 h36 =>
J.jn (fun v38 h39 =>
J.jn (fun v43 h44 =>
J.jn (fun v46 h47 =>
J.jn (fun v49 h50 =>
J.jn (fun v54 h55 =>
pickB (AV.bool b34) (AV.bool true) v54 fun b58 =>
br b58 (
j4 (()) d7 h55) (
fI (landnF .u8 x23 (Int.ofNat 128)) fun x59 =>
fI (wrapF .u64 x59) fun x60 =>
asI .i64 v6.2.2.1 fun x61 =>
fI (wrapF .i64 (Int.mul (Int.ofNat 7) x61)) fun x62 =>
asNat (AV.int .i64 x62) fun n63 =>
fI (shlF .u64 x60 n63) fun x64 =>
asI .u64 v6.2.1 fun x65 =>
fI (lorF .u64 x65 x64) fun x66 =>
asI .i64 v6.2.2.1 fun x67 =>
fI (wrapF .i64 (Int.add x67 (Int.ofNat 1))) fun x68 =>
fB (ltI x23 (Int.ofNat 128)) fun b69 =>
br b69 (
leaveK (gam J []) d7 h55 fun h70 =>
k x66 x68 (Int.ofNat 0) h70) (
r9 (v6.1, (AV.int .u64 x66), (AV.int .i64 x68), ()) d7 h55))) fun j56 =>
br b34 (
j56 skipV h50) (
pickB v43 v49 (AV.bool false) fun b57 =>
j56 (AV.bool b57) h50)) fun j51 =>
asBU v43 (fun b71 =>
br b71 (
asI .u8 v46 fun x52 =>
fB (eqI x52 (Int.ofNat 0)) fun b53 =>
j51 (AV.bool b53) h47) (
j51 skipV h47)) (
j51 skipV h47)) fun j48 =>
asBU v43 (fun b72 =>
br b72 (
j48 (AV.int .u8 x23) h44) (
j48 skipV h44)) (
j48 skipV h44)) fun j45 =>
br b34 (
j45 skipV h39) (
j45 v38 h39)) fun j40 =>
br b34 (
j40 skipV h36) (
asI .i64 v35 fun x41 =>
fB (ltI (Int.ofNat 0) x41) fun b42 =>
j40 (AV.bool b42) h36)) fun j37 =>
br b34 (
j37 skipV h30) (
j37 v6.2.2.1 h30)) fun j31 =>
br b25 (
asI .u8 v26 fun x32 =>
fB (ltI (Int.ofNat 1) x32) fun b33 =>
j31 (AV.bool b33) h27) (
j31 skipV h27)) fun j28 =>
br b25 (
j28 (AV.int .u8 x23) h17) (
j28 skipV h17)) (
j4 (()) d7 h17)) fun j18 =>
br b12 (
asI .i64 v13 fun x19 =>
fB (ltI x19 (Int.ofNat 10)) fun b20 =>
j18 (AV.bool b20) h14) (
j18 skipV h14)) fun j15 =>
br b12 (
j15 v6.2.2.1 h8) (
j15 skipV h8)) (a0, (AV.int .u64 (Int.ofNat 0)), (AV.int .i64 (Int.ofNat 0)), ()) [] h
noncomputable def s72 : AV → H → (Int → Int → Int → H → Prop) → Prop := s72G J0 
noncomputable def w72 (c : AV → H → (Int → Int → Int → H → Prop) → Prop) : Fun := fun xs h k => arg xs fun a0 xs => noArg xs <| c a0 h fun r0 r1 r2 h => k (.tuple [(.int .u64 r0), (.int .i64 r1), (.int .i64 r2)]) h
theorem s72_eq (J : Joins) (a0 : AV) (h : H) (k : AV → H → Prop) : denF ty (gam J []) Tryz.f72 [a0] h k = s72G J  a0 h (fun r0 r1 r2 h => k (.tuple [(.int .u64 r0), (.int .i64 r1), (.int .i64 r2)]) h) := by kernel_rfl
noncomputable def g72 : Fun := w72 s72
theorem g72_ok : FunOk Tryz.prog 72 g72 := (fun_ok ty_ok mixed (gam_ok (J := J0) (tab_nil fls_fun)) Tryz.func72 (fun args w => by simp)).imp fun xs h k e0 => by
  obtain ⟨a0, xs0, rfl, e1⟩ := arg_imp e0
  obtain ⟨rfl, e2⟩ := noArg_imp e1
  exact (s72_eq J0  a0 h k).mpr e2
/-- stagepost/enc.Small -/
noncomputable def s51G (J : Joins) (c72 : AV → H → (Int → Int → Int → H → Prop) → Prop) (a0 : AV) (a1 : Int) (h : H) (k : Int → Int → Int → H → Prop) : Prop :=
c72 a0 h fun x2 x3 x4 h1 =>
fB (Bool.not (eqI x4 (Int.ofNat 0))) fun b5 =>
J.jn (fun v6 h7 =>
J.jn (fun v9 h10 =>
pickB (AV.bool b5) (AV.bool true) v9 fun b14 =>
J.jn (fun v15 h16 =>
J.jn (fun v18 h19 =>
J.jn (fun v21 h22 =>
J.jn (fun v26 h27 =>
pickB (AV.bool b14) (AV.bool true) v26 fun b32 =>
br b32 (
k (Int.ofNat 0) (Int.ofNat 0) (Int.ofNat 5) h27) (
fI (wrapF .i64 x2) fun x33 =>
k x33 x3 (Int.ofNat 0) h27)) fun j28 =>
br b14 (
j28 skipV h22) (
asI .u64 v15 fun x29 =>
asI .u64 v21 fun x30 =>
fB (ltI x30 x29) fun b31 =>
j28 (AV.bool b31) h22)) fun j23 =>
br b14 (
j23 skipV h19) (
asI .i64 v18 fun x24 =>
fI (wrapF .u64 x24) fun x25 =>
j23 (AV.int .u64 x25) h19)) fun j20 =>
br b14 (
j20 skipV h16) (
j20 (AV.int .i64 a1) h16)) fun j17 =>
br b14 (
j17 skipV h10) (
j17 (AV.int .u64 x2) h10)) fun j11 =>
br b5 (
j11 skipV h7) (
asI .i64 v6 fun x12 =>
fB (ltI x12 (Int.ofNat 0)) fun b13 =>
j11 (AV.bool b13) h7)) fun j8 =>
br b5 (
j8 skipV h1) (
j8 (AV.int .i64 a1) h1)
noncomputable def s51 : AV → Int → H → (Int → Int → Int → H → Prop) → Prop := s51G J0 s72
noncomputable def w51 (c : AV → Int → H → (Int → Int → Int → H → Prop) → Prop) : Fun := fun xs h k => arg xs fun a0 xs => arg xs fun a1 xs => noArg xs <| asI .i64 a1 fun a1 => c a0 a1 h fun r0 r1 r2 h => k (.tuple [(.int .i64 r0), (.int .i64 r1), (.int .i64 r2)]) h
theorem s51_eq (J : Joins) (c72 : AV → H → (Int → Int → Int → H → Prop) → Prop) (a0 : AV) (a1 : Int) (h : H) (k : AV → H → Prop) : denF ty (gam J [(72, w72 c72)]) Tryz.f51 [a0, (.int .i64 a1)] h k = s51G J c72 a0 a1 h (fun r0 r1 r2 h => k (.tuple [(.int .i64 r0), (.int .i64 r1), (.int .i64 r2)]) h) := by kernel_rfl
noncomputable def g51 : Fun := w51 s51
theorem g51_ok : FunOk Tryz.prog 51 g51 := (fun_ok ty_ok mixed (gam_ok (J := J0) (tab_cons g72_ok (tab_nil fls_fun))) Tryz.func51 (fun args w => by simp)).imp fun xs h k e0 => by
  obtain ⟨a0, xs0, rfl, e1⟩ := arg_imp e0
  obtain ⟨a1, xs1, rfl, e2⟩ := arg_imp e1
  obtain ⟨rfl, e3⟩ := noArg_imp e2
  obtain ⟨a1, rfl, e4⟩ := asI_iff.1 e3
  exact (s51_eq J0 s72 a0 a1 h k).mpr e4
/-- (*stagepost/wal.reader).small -/
noncomputable def s32G (J : Joins) (c51 : AV → Int → H → (Int → Int → Int → H → Prop) → Prop) (a0 : AV) (a1 : Int) (h : H) (k : Int → H → Prop) : Prop :=
okNil a0 (
faK 1 a0 fun p1 =>
ldI .i64 p1 h fun x2 =>
fB (Bool.not (eqI x2 (Int.ofNat 0))) fun b3 =>
br b3 (
k (Int.ofNat 0) h) (
okNil a0 (
faK 0 a0 fun p4 =>
ldV p4 h fun v5 =>
c51 v5 a1 h fun x7 x8 x9 h6 =>
okNil a0 (
faK 0 a0 fun p10 =>
ldV p10 h6 fun v11 =>
slK 1 v11 (some (AV.int .i64 x8)) none fun v12 =>
okNil a0 (
faK 0 a0 fun p13 =>
stV p13 v12 h6 fun h14 =>
okNil a0 (
faK 1 a0 fun p15 =>
stV p15 (AV.int .i64 x9) h14 fun h16 =>
k x7 h16))))))
noncomputable def s32 : AV → Int → H → (Int → H → Prop) → Prop := s32G J0 s51
noncomputable def w32 (c : AV → Int → H → (Int → H → Prop) → Prop) : Fun := fun xs h k => arg xs fun a0 xs => arg xs fun a1 xs => noArg xs <| asI .i64 a1 fun a1 => c a0 a1 h fun r0 h => k (.int .i64 r0) h
theorem s32_eq (J : Joins) (c51 : AV → Int → H → (Int → Int → Int → H → Prop) → Prop) (a0 : AV) (a1 : Int) (h : H) (k : AV → H → Prop) : denF ty (gam J [(51, w51 c51)]) Tryz.f32 [a0, (.int .i64 a1)] h k = s32G J c51 a0 a1 h (fun r0 h => k (.int .i64 r0) h) := by kernel_rfl
noncomputable def g32 : Fun := w32 s32
theorem g32_ok : FunOk Tryz.prog 32 g32 := (fun_ok ty_ok mixed (gam_ok (J := J0) (tab_cons g51_ok (tab_nil fls_fun))) Tryz.func32 (fun args w => by simp)).imp fun xs h k e0 => by
  obtain ⟨a0, xs0, rfl, e1⟩ := arg_imp e0
  obtain ⟨a1, xs1, rfl, e2⟩ := arg_imp e1
  obtain ⟨rfl, e3⟩ := noArg_imp e2
  obtain ⟨a1, rfl, e4⟩ := asI_iff.1 e3
  exact (s32_eq J0 s51 a0 a1 h k).mpr e4
/-- (*stagepost/wal.reader).text -/
noncomputable def s33G (J : Joins) (c32 : AV → Int → H → (Int → H → Prop) → Prop) (a0 : AV) (a1 : Int) (h : H) (k : Str → H → Prop) : Prop :=
c32 a0 a1 h fun x2 h1 =>
okNil a0 (
faK 1 a0 fun p3 =>
ldI .i64 p3 h1 fun x4 =>
fB (Bool.not (eqI x4 (Int.ofNat 0))) fun b5 =>
J.jn (fun v6 h7 =>
J.jn (fun v9 h10 =>
J.jn (fun v12 h13 =>
J.jn (fun v15 h16 =>
J.jn (fun v19 h20 =>
J.jn (fun v23 h24 =>
J.jn (fun v27 h28 =>
pickB (AV.bool b5) (AV.bool true) v27 fun b33 =>
br b33 (
okNil a0 (
faK 1 a0 fun p34 =>
stV p34 (AV.int .i64 (Int.ofNat 5)) h28 fun h35 =>
k ⟨0, 0⟩ h35)) (
okNil a0 (
faK 0 a0 fun p36 =>
ldV p36 h28 fun v37 =>
slK 1 v37 none (some (AV.int .i64 x2)) fun v38 =>
toStrK v38 h28 fun s39 =>
okNil a0 (
faK 0 a0 fun p40 =>
ldV p40 h28 fun v41 =>
slK 1 v41 (some (AV.int .i64 x2)) none fun v42 =>
okNil a0 (
faK 0 a0 fun p43 =>
stV p43 v42 h28 fun h44 =>
k s39 h44))))) fun j29 =>
br b5 (
j29 skipV h24) (
asI .i64 v6 fun x30 =>
asI .i64 v23 fun x31 =>
fB (ltI x31 x30) fun b32 =>
j29 (AV.bool b32) h24)) fun j25 =>
br b5 (
j25 skipV h20) (
lenK v19 fun x26 =>
j25 (AV.int .i64 (Int.ofNat x26)) h20)) fun j21 =>
br b5 (
j21 skipV h16) (
ldV v15 h16 fun v22 =>
j21 v22 h16)) fun j17 =>
br b5 (
j17 skipV h13) (
faK 0 v12 fun p18 =>
j17 p18 h13)) fun j14 =>
br b5 (
j14 skipV h10) (
okNil v9 (
j14 v9 h10))) fun j11 =>
br b5 (
j11 skipV h7) (
j11 a0 h7)) fun j8 =>
br b5 (
j8 skipV h1) (
j8 (AV.int .i64 x2) h1))
noncomputable def s33 : AV → Int → H → (Str → H → Prop) → Prop := s33G J0 s32
noncomputable def w33 (c : AV → Int → H → (Str → H → Prop) → Prop) : Fun := fun xs h k => arg xs fun a0 xs => arg xs fun a1 xs => noArg xs <| asI .i64 a1 fun a1 => c a0 a1 h fun r0 h => k (.str r0) h
theorem s33_eq (J : Joins) (c32 : AV → Int → H → (Int → H → Prop) → Prop) (a0 : AV) (a1 : Int) (h : H) (k : AV → H → Prop) : denF ty (gam J [(32, w32 c32)]) Tryz.f33 [a0, (.int .i64 a1)] h k = s33G J c32 a0 a1 h (fun r0 h => k (.str r0) h) := by kernel_rfl
noncomputable def g33 : Fun := w33 s33
theorem g33_ok : FunOk Tryz.prog 33 g33 := (fun_ok ty_ok mixed (gam_ok (J := J0) (tab_cons g32_ok (tab_nil fls_fun))) Tryz.func33 (fun args w => by simp)).imp fun xs h k e0 => by
  obtain ⟨a0, xs0, rfl, e1⟩ := arg_imp e0
  obtain ⟨a1, xs1, rfl, e2⟩ := arg_imp e1
  obtain ⟨rfl, e3⟩ := noArg_imp e2
  obtain ⟨a1, rfl, e4⟩ := asI_iff.1 e3
  exact (s33_eq J0 s32 a0 a1 h k).mpr e4
/-- stagepost/wal.Decode -/
noncomputable def s10G (J : Joins) (c14 : AV → H → (Int → H → Prop) → Prop) (c32 : AV → Int → H → (Int → H → Prop) → Prop) (c33 : AV → Int → H → (Str → H → Prop) → Prop) (a0 : AV) (h : H) (k : AV → Int → H → Prop) : Prop :=
pushK (.cells false 24 [(.int .i64 0), (.nils)]) h fun n1 h2 =>
ck (isOne a0) (pushK (.cells false 61 [a0, (.int .i64 0)]) h2 fun n3 h4 =>
c32 (AV.ptr n3 0) (Int.ofNat 1073741824) h4 fun x6 h5 =>
pushK (.cells false 24 [(.int .i64 0), (.nils)]) h5 fun n7 h8 =>
stN 2 (AV.ptr n7 0) [(AV.int .i64 x6), (.nils)] h8 fun h9 =>
c32 (AV.ptr n3 0) (Int.ofNat 64) h9 fun x11 h10 =>
J.lp (α := AV × AV × AV × AV × Unit) (fun r15 v12 d13 h14 =>
asI .i64 v12.2.2.2.1 fun x16 =>
fB (ltI (Int.ofNat 0) x16) fun b17 =>
J.jn (fun v18 h19 =>
J.jn (fun v21 h22 =>
J.jn (fun v24 h25 =>
J.jn (fun v28 h29 =>
J.jn (fun v32 h33 =>
pickB (AV.bool b17) v32 (AV.bool false) fun b37 =>
br b37 (
c32 v12.2.1 (Int.ofNat 1) h33 fun x39 h38 =>
fB (eqI x39 (Int.ofNat 1)) fun b40 =>
c33 v12.2.1 (Int.ofNat 512) h38 fun s42 h41 =>
pushK (.cells false 53 [(.str ⟨0, 0⟩), (.str ⟨0, 0⟩), (.bool false)]) h41 fun n43 h44 =>
stN 3 (AV.ptr n43 0) [(AV.str s42), (.str ⟨0, 0⟩), (AV.bool b40)] h44 fun h45 =>
J.jd (α := AV × AV × AV × AV × AV × Unit) (fun v46 d47 h48 =>
faK 1 v46.2.2.1 fun p50 =>
ldV p50 h48 fun v51 =>
ldN 3 v46.2.2.2.2.1 h48 fun l52 =>
ck (Nat.beq (List.length l52) 3) (op' (lputAt 0 l52 [(.str ⟨0, 0⟩), (.str ⟨0, 0⟩), (.bool false)]) fun l55 =>
pushK (.cells false 53 l55) h48 fun n53 h54 =>
apC 53 3 40 v51 (AV.slice n53 0 1 1 3 true) h54 fun v56 h57 =>
faK 1 v46.2.2.1 fun p58 =>
stV p58 v56 h57 fun h59 =>
asI .i64 v46.2.2.2.1 fun x60 =>
fI (wrapF .i64 (Int.sub x60 (Int.ofNat 1))) fun x61 =>
r15 (v46.1, v46.2.1, v46.2.2.1, (AV.int .i64 x61), ()) d47 h59)) fun j49 =>
ldB (AV.ptr n43 2) h45 fun b62 =>
fB (Bool.not b62) fun b63 =>
br b63 (
c33 v12.2.1 (Int.ofNat 4096) h45 fun s65 h64 =>
stV (AV.ptr n43 1) (AV.str s65) h64 fun h66 =>
j49 (v12.1, v12.2.1, v12.2.2.1, v12.2.2.2.1, (AV.ptr n43 0), ()) d13 h66) (
j49 (v12.1, v12.2.1, v12.2.2.1, v12.2.2.2.1, (AV.ptr n43 0), ()) d13 h45)) (
okNil v12.2.1 (
faK 1 v12.2.1 fun p67 =>
ldI .i64 p67 h33 fun x68 =>
fB (Bool.not (eqI x68 (Int.ofNat 0))) fun b69 =>
J.jn (fun v70 h71 =>
J.jn (fun v73 h74 =>
J.jn (fun v76 h77 =>
J.jn (fun v80 h81 =>
J.jn (fun v84 h85 =>
J.jn (fun v88 h89 =>
pickB (AV.bool b69) (AV.bool true) v88 fun b93 =>
J.jn (fun v94 h95 =>
J.jn (fun v98 h99 =>
J.jn (fun v102 h103 =>
pickB (AV.bool b93) (AV.bool true) v102 fun b107 =>
J.jn (fun v108 h109 =>
J.jn (fun v112 h113 =>
J.jn (fun v116 h117 =>
J.jn (fun v121 h122 =>
pickB (AV.bool b107) (AV.bool true) v121 fun b126 =>
br b126 (
stN 2 v12.1 [(.int .i64 0), (.nils)] h122 fun h127 =>
leaveK (gam J [(14, w14 c14), (32, w32 c32), (33, w33 c33)]) d13 h127 fun h128 =>
ldN 2 v12.1 h128 fun l129 =>
k (AV.agg l129) (Int.ofNat 5) h128) (
ldN 2 v12.2.2.1 h122 fun l130 =>
stN 2 v12.1 l130 h122 fun h131 =>
leaveK (gam J [(14, w14 c14), (32, w32 c32), (33, w33 c33)]) d13 h131 fun h132 =>
ldN 2 v12.1 h132 fun l133 =>
k (AV.agg l133) (Int.ofNat 0) h132)) fun j123 =>
br b107 (
j123 skipV h117) (
asI .i64 v116 fun x124 =>
fB (Bool.not (eqI x124 (Int.ofNat 0))) fun b125 =>
j123 (AV.bool b125) h117)) fun j118 =>
br b107 (
j118 skipV h113) (
c14 v112 h113 fun x120 h119 =>
j118 (AV.int .i64 x120) h119)) fun j114 =>
br b107 (
j114 skipV h109) (
ldV v108 h109 fun v115 =>
j114 v115 h109)) fun j110 =>
br b107 (
j110 skipV h103) (
faK 1 v12.2.2.1 fun p111 =>
j110 p111 h103)) fun j104 =>
br b93 (
j104 skipV h99) (
asI .i64 v98 fun x105 =>
fB (ltI x105 (Int.ofNat 1)) fun b106 =>
j104 (AV.bool b106) h99)) fun j100 =>
br b93 (
j100 skipV h95) (
ldI .i64 v94 h95 fun x101 =>
j100 (AV.int .i64 x101) h95)) fun j96 =>
br b93 (
j96 skipV h89) (
faK 0 v12.2.2.1 fun p97 =>
j96 p97 h89)) fun j90 =>
br b69 (
j90 skipV h85) (
asI .i64 v84 fun x91 =>
fB (ltI (Int.ofNat 0) x91) fun b92 =>
j90 (AV.bool b92) h85)) fun j86 =>
br b69 (
j86 skipV h81) (
lenK v80 fun x87 =>
j86 (AV.int .i64 (Int.ofNat x87)) h81)) fun j82 =>
br b69 (
j82 skipV h77) (
ldV v76 h77 fun v83 =>
j82 v83 h77)) fun j78 =>
br b69 (
j78 skipV h74) (
faK 0 v73 fun p79 =>
j78 p79 h74)) fun j75 =>
br b69 (
j75 skipV h71) (
okNil v70 (
j75 v70 h71))) fun j72 =>
br b69 (
j72 skipV h33) (
j72 v12.2.1 h33)))) fun j34 =>
br b17 (
asI .i64 v28 fun x35 =>
fB (eqI x35 (Int.ofNat 0)) fun b36 =>
j34 (AV.bool b36) h29) (
j34 skipV h29)) fun j30 =>
br b17 (
ldI .i64 v24 h25 fun x31 =>
j30 (AV.int .i64 x31) h25) (
j30 skipV h25)) fun j26 =>
br b17 (
faK 1 v21 fun p27 =>
j26 p27 h22) (
j26 skipV h22)) fun j23 =>
br b17 (
okNil v18 (
j23 v18 h19)) (
j23 skipV h19)) fun j20 =>
br b17 (
j20 v12.2.1 h14) (
j20 skipV h14)) ((AV.ptr n1 0), (AV.ptr n3 0), (AV.ptr n7 0), (AV.int .i64 x11), ()) [] h10)
noncomputable def s10 : AV → H → (AV → Int → H → Prop) → Prop := s10G J0 s14 s32 s33
noncomputable def w10 (c : AV → H → (AV → Int → H → Prop) → Prop) : Fun := fun xs h k => arg xs fun a0 xs => noArg xs <| c a0 h fun r0 r1 h => k (.tuple [r0, (.int .i64 r1)]) h
theorem s10_eq (J : Joins) (c14 : AV → H → (Int → H → Prop) → Prop) (c32 : AV → Int → H → (Int → H → Prop) → Prop) (c33 : AV → Int → H → (Str → H → Prop) → Prop) (a0 : AV) (h : H) (k : AV → H → Prop) : denF ty (gam J [(14, w14 c14), (32, w32 c32), (33, w33 c33)]) Tryz.f10 [a0] h k = s10G J c14 c32 c33 a0 h (fun r0 r1 h => k (.tuple [r0, (.int .i64 r1)]) h) := by kernel_rfl
noncomputable def g10 : Fun := w10 s10
theorem g10_ok : FunOk Tryz.prog 10 g10 := (fun_ok ty_ok mixed (gam_ok (J := J0) (tab_cons g14_ok (tab_cons g32_ok (tab_cons g33_ok (tab_nil fls_fun))))) Tryz.func10 (fun args w => by simp)).imp fun xs h k e0 => by
  obtain ⟨a0, xs0, rfl, e1⟩ := arg_imp e0
  obtain ⟨rfl, e2⟩ := noArg_imp e1
  exact (s10_eq J0 s14 s32 s33 a0 h k).mpr e2
/-- stagepost/crc.More -/
noncomputable def g97 : Fun := denFS ty (gam J0 []) Tryz.f97
theorem g97_ok : FunOk Tryz.prog 97 g97 := fun_okS ty_ok mixed (gam_ok (J := J0) (tab_nil fls_fun)) Tryz.func97 (fun args w => by simp)
/-- stagepost/crc.Sum -/
noncomputable def g83 : Fun := denFS ty (gam J0 [(97, g97)]) Tryz.f83
theorem g83_ok : FunOk Tryz.prog 83 g83 := fun_okS ty_ok mixed (gam_ok (J := J0) (tab_cons g97_ok (tab_nil fls_fun))) Tryz.func83 (fun args w => by simp)
/-- stagepost/crc.Sealed -/
noncomputable def g64 : Fun := denFS ty (gam J0 [(83, g83)]) Tryz.f64
theorem g64_ok : FunOk Tryz.prog 64 g64 := fun_okS ty_ok mixed (gam_ok (J := J0) (tab_cons g83_ok (tab_nil fls_fun))) Tryz.func64 (fun args w => by simp)
/-- stagepost/crc.Opened -/
noncomputable def g95 : Fun := denFS ty (gam J0 [(64, g64)]) Tryz.f95
theorem g95_ok : FunOk Tryz.prog 95 g95 := fun_okS ty_ok mixed (gam_ok (J := J0) (tab_cons g64_ok (tab_nil fls_fun))) Tryz.func95 (fun args w => by simp)
/-- stagepost/frame.Read -/
noncomputable def g80 : Fun := denFS ty (gam J0 [(95, g95)]) Tryz.f80
theorem g80_ok : FunOk Tryz.prog 80 g80 := fun_okS ty_ok mixed (gam_ok (J := J0) (tab_cons g95_ok (tab_nil fls_fun))) Tryz.func80 (fun args w => by simp)
/-- stagepost/frame.Scan -/
noncomputable def g61 : Fun := denFS ty (gam J0 [(80, g80)]) Tryz.f61
theorem g61_ok : FunOk Tryz.prog 61 g61 := fun_okS ty_ok mixed (gam_ok (J := J0) (tab_cons g80_ok (tab_nil fls_fun))) Tryz.func61 (fun args w => by simp)
/-- stagepost/wal.segment -/
noncomputable def g44 : Fun := denFS ty (gam J0 [(10, g10), (12, g12), (60, g60), (61, g61)]) Tryz.f44
theorem g44_ok : FunOk Tryz.prog 44 g44 := fun_okS ty_ok mixed (gam_ok (J := J0) (tab_cons g10_ok (tab_cons g12_ok (tab_cons g60_ok (tab_cons g61_ok (tab_nil fls_fun)))))) Tryz.func44 (fun args w => by simp)
/-- (*stagepost/wal.Wal).seen -/
noncomputable def g48 : Fun := denFS ty (gam J0 []) Tryz.f48
theorem g48_ok : FunOk Tryz.prog 48 g48 := fun_okS ty_ok mixed (gam_ok (J := J0) (tab_nil fls_fun)) Tryz.func48 (fun args w => by simp)
/-- (*stagepost/vfs.FS).raw -/
noncomputable def g85 : Fun := denFS ty (gam J0 []) Tryz.f85
theorem g85_ok : FunOk Tryz.prog 85 g85 := fun_okS ty_ok mixed (gam_ok (J := J0) (tab_nil fls_fun)) Tryz.func85 (fun args w => by simp)
/-- (*stagepost/vfs.FS).pend -/
noncomputable def g68 : Fun := denFS ty (gam J0 [(85, g85)]) Tryz.f68
theorem g68_ok : FunOk Tryz.prog 68 g68 := fun_okS ty_ok mixed (gam_ok (J := J0) (tab_cons g85_ok (tab_nil fls_fun))) Tryz.func68 (fun args w => by simp)
/-- (*stagepost/vfs.FS).Create -/
noncomputable def g62 : Fun := denFS ty (gam J0 [(68, g68), (79, g79), (81, g81)]) Tryz.f62
theorem g62_ok : FunOk Tryz.prog 62 g62 := fun_okS ty_ok mixed (gam_ok (J := J0) (tab_cons g68_ok (tab_cons g79_ok (tab_cons g81_ok (tab_nil fls_fun))))) Tryz.func62 (fun args w => by simp)
end Go.Proofs.YtcohflkjinpcpaaGreatDoor
