/- Functions as they are reckoned. MADE BY PROGRAM (wip/tools/shal.py). -/
import Derived.Test.YtnjiokmleoimgaaDoorAmTys
namespace Go.Proofs.YtnjiokmleoimgaaDoor
open Go Go.Am
set_option maxRecDepth 100000
set_option linter.all false
/-- stagepost/wal.fine -/
noncomputable def s31G (J : Joins) (a0 : AV) (h : H) (k : Bool → H → Prop) : Prop :=
Go.Am.asAgg a0 fun l3 =>
pushK (.cells false 34 l3) h fun n1 h2 =>
ldS (AV.ptr n1 0) h2 fun s4 =>
fB (Bool.not (Str.beq s4 (⟨0, 0⟩ : Str))) fun b5 =>
J.jn (fun v6 h7 =>
J.jn (fun v9 h10 =>
J.jn (fun v13 h14 =>
J.jn (fun v17 h18 =>
pickB (AV.bool b5) v17 (AV.bool false) fun b22 =>
J.jn (fun v23 h24 =>
J.jn (fun v26 h27 =>
J.jn (fun v30 h31 =>
J.jn (fun v34 h35 =>
pickB (AV.bool b22) v34 (AV.bool false) fun b39 =>
J.jn (fun v40 h41 =>
J.jn (fun v43 h44 =>
J.jn (fun v47 h48 =>
J.jn (fun v52 h53 =>
J.jn (fun v55 h56 =>
J.jn (fun v58 h59 =>
J.jn (fun v62 h63 =>
J.jn (fun v67 h68 =>
pickB (AV.bool b39) v67 (AV.bool false) fun b71 =>
k b71 h68) fun j69 =>
br b39 (
pickB v52 (AV.bool true) v62 fun b70 =>
j69 (AV.bool b70) h63) (
j69 skipV h63)) fun j64 =>
asBU v52 (fun b72 =>
br b72 (
j64 skipV h59) (
asS v58 fun s65 =>
fB (Str.beq s65 (⟨0, 0⟩ : Str)) fun b66 =>
j64 (AV.bool b66) h59)) (
j64 skipV h59)) fun j60 =>
asBU v52 (fun b73 =>
br b73 (
j60 skipV h56) (
ldS v55 h56 fun s61 =>
j60 (AV.str s61) h56)) (
j60 skipV h56)) fun j57 =>
asBU v52 (fun b74 =>
br b74 (
j57 skipV h53) (
j57 (AV.ptr n1 1) h53)) (
j57 skipV h53)) fun j54 =>
br b39 (
j54 v47 h48) (
j54 skipV h48)) fun j49 =>
br b39 (
asB v43 fun b50 =>
fB (Bool.not b50) fun b51 =>
j49 (AV.bool b51) h44) (
j49 skipV h44)) fun j45 =>
br b39 (
ldB v40 h41 fun b46 =>
j45 (AV.bool b46) h41) (
j45 skipV h41)) fun j42 =>
br b39 (
j42 (AV.ptr n1 2) h35) (
j42 skipV h35)) fun j36 =>
br b22 (
asI .i64 v30 fun x37 =>
fB (Bool.not (ltI (Int.ofNat 4096) x37)) fun b38 =>
j36 (AV.bool b38) h31) (
j36 skipV h31)) fun j32 =>
br b22 (
asS v26 fun s33 =>
j32 (AV.int .i64 (Int.ofNat s33.len)) h27) (
j32 skipV h27)) fun j28 =>
br b22 (
ldS v23 h24 fun s29 =>
j28 (AV.str s29) h24) (
j28 skipV h24)) fun j25 =>
br b22 (
j25 (AV.ptr n1 1) h18) (
j25 skipV h18)) fun j19 =>
br b5 (
asI .i64 v13 fun x20 =>
fB (Bool.not (ltI (Int.ofNat 512) x20)) fun b21 =>
j19 (AV.bool b21) h14) (
j19 skipV h14)) fun j15 =>
br b5 (
asS v9 fun s16 =>
j15 (AV.int .i64 (Int.ofNat s16.len)) h10) (
j15 skipV h10)) fun j11 =>
br b5 (
ldS v6 h7 fun s12 =>
j11 (AV.str s12) h7) (
j11 skipV h7)) fun j8 =>
br b5 (
j8 (AV.ptr n1 0) h2) (
j8 skipV h2)
noncomputable def s31 : AV → H → (Bool → H → Prop) → Prop := s31G J0 
noncomputable def w31 (c : AV → H → (Bool → H → Prop) → Prop) : Fun := fun xs h k => arg xs fun a0 xs => noArg xs <| c a0 h fun r0 h => k (.bool r0) h
theorem s31_eq (J : Joins) (a0 : AV) (h : H) (k : AV → H → Prop) : denF ty (gam J []) Tryd.f31 [a0] h k = s31G J  a0 h (fun r0 h => k (.bool r0) h) := by kernel_rfl
noncomputable def g31 : Fun := w31 s31
theorem g31_ok : FunOk Tryd.prog 31 g31 := (fun_ok ty_ok mixed (gam_ok (J := J0) (tab_nil fls_fun)) Tryd.func31 (fun args w => by simp)).imp fun xs h k e0 => by
  obtain ⟨a0, xs0, rfl, e1⟩ := arg_imp e0
  obtain ⟨rfl, e2⟩ := noArg_imp e1
  exact (s31_eq J0  a0 h k).mpr e2
/-- stagepost/wal.Check -/
noncomputable def s9G (J : Joins) (c31 : AV → H → (Bool → H → Prop) → Prop) (a0 : AV) (h : H) (k : Int → H → Prop) : Prop :=
lenK a0 fun x1 =>
fB (eqI (Int.ofNat x1) (Int.ofNat 0)) fun b2 =>
br b2 (
k (Int.ofNat 2) h) (
lenK a0 fun x3 =>
fB (ltI (Int.ofNat 64) (Int.ofNat x3)) fun b4 =>
br b4 (
k (Int.ofNat 3) h) (
lenK a0 fun x5 =>
J.lp (α := AV × AV × AV × AV × Unit) (fun r9 v6 d7 h8 =>
asI .i64 v6.2.2.2.1 fun x10 =>
asI .i64 v6.2.2.1 fun x11 =>
fB (ltI x10 x11) fun b12 =>
br b12 (
ixK 3 v6.2.1 v6.2.2.2.1 fun p13 =>
ldN 3 p13 h8 fun l14 =>
pushK (.cells false 34 [(.str ⟨0, 0⟩), (.str ⟨0, 0⟩), (.bool false)]) h8 fun n15 h16 =>
stN 3 (AV.ptr n15 0) l14 h16 fun h17 =>
ldN 3 (AV.ptr n15 0) h17 fun l18 =>
c31 (AV.agg l18) h17 fun b20 h19 =>
fB (Bool.not b20) fun b21 =>
br b21 (
leaveK (gam J [(31, w31 c31)]) d7 h19 fun h22 =>
k (Int.ofNat 2) h22) (
asI .i64 v6.2.2.2.1 fun x23 =>
fI (wrapF .i64 (Int.add x23 (Int.ofNat 1))) fun x24 =>
r9 (v6.1, v6.2.1, v6.2.2.1, (AV.int .i64 x24), ()) d7 h19)) (
pushK (.smap []) h8 fun n25 h26 =>
lenK v6.1 fun x27 =>
J.lp (α := AV × AV × AV × AV × Unit) (fun r31 v28 d29 h30 =>
asI .i64 v28.2.2.2.1 fun x32 =>
asI .i64 v28.2.2.1 fun x33 =>
fB (ltI x32 x33) fun b34 =>
br b34 (
ixK 3 v28.2.1 v28.2.2.2.1 fun p35 =>
ldN 3 p35 h30 fun l36 =>
pushK (.cells false 34 [(.str ⟨0, 0⟩), (.str ⟨0, 0⟩), (.bool false)]) h30 fun n37 h38 =>
stN 3 (AV.ptr n37 0) l36 h38 fun h39 =>
ldS (AV.ptr n37 0) h39 fun s40 =>
op' (aLookup ty 9 71 true v28.1 (AV.str s40) h39) fun v41 =>
asTup v41 fun l42 =>
op' (lgetO l42 0) fun v43 =>
asTup v41 fun l44 =>
op' (lgetO l44 1) fun v45 =>
asB v45 fun b46 =>
pushK (.cells false 71 []) h39 fun n47 h48 =>
Go.Am.asAgg v43 fun l50 =>
stN 0 (AV.ptr n47 0) l50 h48 fun h49 =>
br b46 (
leaveK (gam J [(31, w31 c31)]) d29 h49 fun h51 =>
k (Int.ofNat 9) h51) (
ldS (AV.ptr n37 0) h49 fun s52 =>
op' (mapBlk ty 9 v28.1 (AV.str s52) (AV.agg []) h49) fun k53 =>
putK k53.1 k53.2 h49 fun h54 =>
asI .i64 v28.2.2.2.1 fun x55 =>
fI (wrapF .i64 (Int.add x55 (Int.ofNat 1))) fun x56 =>
r31 (v28.1, v28.2.1, v28.2.2.1, (AV.int .i64 x56), ()) d29 h54)) (
leaveK (gam J [(31, w31 c31)]) d29 h30 fun h57 =>
k (Int.ofNat 0) h57)) ((AV.map n25), v6.1, (AV.int .i64 (Int.ofNat x27)), (AV.int .i64 (Int.ofNat 0)), ()) d7 h26)) (a0, a0, (AV.int .i64 (Int.ofNat x5)), (AV.int .i64 (Int.ofNat 0)), ()) [] h))
noncomputable def s9 : AV → H → (Int → H → Prop) → Prop := s9G J0 s31
noncomputable def w9 (c : AV → H → (Int → H → Prop) → Prop) : Fun := fun xs h k => arg xs fun a0 xs => noArg xs <| c a0 h fun r0 h => k (.int .i64 r0) h
theorem s9_eq (J : Joins) (c31 : AV → H → (Bool → H → Prop) → Prop) (a0 : AV) (h : H) (k : AV → H → Prop) : denF ty (gam J [(31, w31 c31)]) Tryd.f9 [a0] h k = s9G J c31 a0 h (fun r0 h => k (.int .i64 r0) h) := by kernel_rfl
noncomputable def g9 : Fun := w9 s9
theorem g9_ok : FunOk Tryd.prog 9 g9 := (fun_ok ty_ok mixed (gam_ok (J := J0) (tab_cons g31_ok (tab_nil fls_fun))) Tryd.func9 (fun args w => by simp)).imp fun xs h k e0 => by
  obtain ⟨a0, xs0, rfl, e1⟩ := arg_imp e0
  obtain ⟨rfl, e2⟩ := noArg_imp e1
  exact (s9_eq J0 s31 a0 h k).mpr e2
/-- stagepost/enc.Append -/
noncomputable def s27G (J : Joins) (a0 : AV) (a1 : Int) (h : H) (k : AV → H → Prop) : Prop :=
apB (.slice 5) 5 AV.nils a0 h fun v1 h2 =>
J.lp (α := AV × AV × Unit) (fun r6 v3 d4 h5 =>
asI .u64 v3.1 fun x7 =>
fB (Bool.not (ltI x7 (Int.ofNat 128))) fun b8 =>
br b8 (
asI .u64 v3.1 fun x9 =>
fI (wrapF .u8 x9) fun x10 =>
fI (lorF .u8 x10 (Int.ofNat 128)) fun x11 =>
op' (asRow true 5 [(AV.int .u8 x11)]) fun k14 =>
pushK k14 h5 fun n12 h13 =>
apB (.slice 5) 5 v3.2.1 (AV.slice n12 0 1 1 1 true) h13 fun v15 h16 =>
asI .u64 v3.1 fun x17 =>
fI (shrF x17 (nmin 7 (IntKind.bits .u64))) fun x18 =>
r6 ((AV.int .u64 x18), v15, ()) d4 h16) (
asI .u64 v3.1 fun x19 =>
fI (wrapF .u8 x19) fun x20 =>
op' (asRow true 5 [(AV.int .u8 x20)]) fun k23 =>
pushK k23 h5 fun n21 h22 =>
apB (.slice 5) 5 v3.2.1 (AV.slice n21 0 1 1 1 true) h22 fun v24 h25 =>
leaveK (gam J []) d4 h25 fun h26 =>
k v24 h26)) ((AV.int .u64 a1), v1, ()) [] h2
noncomputable def s27 : AV → Int → H → (AV → H → Prop) → Prop := s27G J0 
noncomputable def w27 (c : AV → Int → H → (AV → H → Prop) → Prop) : Fun := fun xs h k => arg xs fun a0 xs => arg xs fun a1 xs => noArg xs <| asI .u64 a1 fun a1 => c a0 a1 h fun r0 h => k r0 h
theorem s27_eq (J : Joins) (a0 : AV) (a1 : Int) (h : H) (k : AV → H → Prop) : denF ty (gam J []) Tryd.f27 [a0, (.int .u64 a1)] h k = s27G J  a0 a1 h (fun r0 h => k r0 h) := by kernel_rfl
noncomputable def g27 : Fun := w27 s27
theorem g27_ok : FunOk Tryd.prog 27 g27 := (fun_ok ty_ok mixed (gam_ok (J := J0) (tab_nil fls_fun)) Tryd.func27 (fun args w => by simp)).imp fun xs h k e0 => by
  obtain ⟨a0, xs0, rfl, e1⟩ := arg_imp e0
  obtain ⟨a1, xs1, rfl, e2⟩ := arg_imp e1
  obtain ⟨rfl, e3⟩ := noArg_imp e2
  obtain ⟨a1, rfl, e4⟩ := asI_iff.1 e3
  exact (s27_eq J0  a0 a1 h k).mpr e4
/-- stagepost/wal.text -/
noncomputable def s28G (J : Joins) (c27 : AV → Int → H → (AV → H → Prop) → Prop) (a0 : AV) (a1 : Str) (h : H) (k : AV → H → Prop) : Prop :=
fI (wrapF .u64 (Int.ofNat a1.len)) fun x1 =>
c27 a0 x1 h fun v3 h2 =>
apB .str 5 v3 (AV.str a1) h2 fun v4 h5 =>
k v4 h5
noncomputable def s28 : AV → Str → H → (AV → H → Prop) → Prop := s28G J0 s27
noncomputable def w28 (c : AV → Str → H → (AV → H → Prop) → Prop) : Fun := fun xs h k => arg xs fun a0 xs => arg xs fun a1 xs => noArg xs <| asS a1 fun a1 => c a0 a1 h fun r0 h => k r0 h
theorem s28_eq (J : Joins) (c27 : AV → Int → H → (AV → H → Prop) → Prop) (a0 : AV) (a1 : Str) (h : H) (k : AV → H → Prop) : denF ty (gam J [(27, w27 c27)]) Tryd.f28 [a0, (.str a1)] h k = s28G J c27 a0 a1 h (fun r0 h => k r0 h) := by kernel_rfl
noncomputable def g28 : Fun := w28 s28
theorem g28_ok : FunOk Tryd.prog 28 g28 := (fun_ok ty_ok mixed (gam_ok (J := J0) (tab_cons g27_ok (tab_nil fls_fun))) Tryd.func28 (fun args w => by simp)).imp fun xs h k e0 => by
  obtain ⟨a0, xs0, rfl, e1⟩ := arg_imp e0
  obtain ⟨a1, xs1, rfl, e2⟩ := arg_imp e1
  obtain ⟨rfl, e3⟩ := noArg_imp e2
  obtain ⟨a1, rfl, e4⟩ := asS_iff.1 e3
  exact (s28_eq J0 s27 a0 a1 h k).mpr e4
/-- stagepost/wal.Encode -/
noncomputable def s6G (J : Joins) (c9 : AV → H → (Int → H → Prop) → Prop) (c27 : AV → Int → H → (AV → H → Prop) → Prop) (c28 : AV → Str → H → (AV → H → Prop) → Prop) (a0 : AV) (h : H) (k : AV → Int → H → Prop) : Prop :=
Go.Am.asAgg a0 fun l3 =>
pushK (.cells false 29 l3) h fun n1 h2 =>
ldI .i64 (AV.ptr n1 0) h2 fun x4 =>
fB (ltI x4 (Int.ofNat 1)) fun b5 =>
J.jn (fun v6 h7 =>
J.jn (fun v9 h10 =>
J.jn (fun v13 h14 =>
pickB (AV.bool b5) (AV.bool true) v13 fun b18 =>
br b18 (
k AV.nils (Int.ofNat 2) h14) (
ldV (AV.ptr n1 1) h14 fun v19 =>
c9 v19 h14 fun x21 h20 =>
fB (Bool.not (eqI x21 (Int.ofNat 0))) fun b22 =>
br b22 (
k AV.nils x21 h20) (
ldI .i64 (AV.ptr n1 0) h20 fun x23 =>
fI (wrapF .u64 x23) fun x24 =>
c27 AV.nils x24 h20 fun v26 h25 =>
ldV (AV.ptr n1 1) h25 fun v27 =>
lenK v27 fun x28 =>
fI (wrapF .u64 (Int.ofNat x28)) fun x29 =>
c27 v26 x29 h25 fun v31 h30 =>
ldV (AV.ptr n1 1) h30 fun v32 =>
lenK v32 fun x33 =>
J.lp (α := AV × AV × AV × AV × Unit) (fun r37 v34 d35 h36 =>
asI .i64 v34.2.2.2.1 fun x38 =>
asI .i64 v34.2.2.1 fun x39 =>
fB (ltI x38 x39) fun b40 =>
br b40 (
J.jd (α := AV × AV × AV × AV × Unit) (fun v41 d42 h43 =>
asI .i64 v41.2.2.2.1 fun x45 =>
fI (wrapF .i64 (Int.add x45 (Int.ofNat 1))) fun x46 =>
r37 (v41.1, v41.2.1, v41.2.2.1, (AV.int .i64 x46), ()) d42 h43) fun j44 =>
ixK 3 v34.2.1 v34.2.2.2.1 fun p47 =>
ldN 3 p47 h36 fun l48 =>
pushK (.cells false 34 [(.str ⟨0, 0⟩), (.str ⟨0, 0⟩), (.bool false)]) h36 fun n49 h50 =>
stN 3 (AV.ptr n49 0) l48 h50 fun h51 =>
ldB (AV.ptr n49 2) h51 fun b52 =>
br b52 (
op' (asRow true 5 [(AV.int .u8 (Int.ofNat 1))]) fun k55 =>
pushK k55 h51 fun n53 h54 =>
ldS (AV.ptr n49 0) h54 fun s56 =>
apB (.slice 5) 5 v34.1 (AV.slice n53 0 1 1 1 true) h54 fun v57 h58 =>
ck (readsSo (aLoad1 (AV.ptr n49 0) h58) (AV.str s56)) (
c28 v57 s56 h58 fun v60 h59 =>
j44 (v60, v34.2.1, v34.2.2.1, v34.2.2.2.1, ()) d35 h59)) (
op' (asRow true 5 [(AV.int .u8 (Int.ofNat 0))]) fun k63 =>
pushK k63 h51 fun n61 h62 =>
ldS (AV.ptr n49 0) h62 fun s64 =>
apB (.slice 5) 5 v34.1 (AV.slice n61 0 1 1 1 true) h62 fun v65 h66 =>
ck (readsSo (aLoad1 (AV.ptr n49 0) h66) (AV.str s64)) (
c28 v65 s64 h66 fun v68 h67 =>
ldS (AV.ptr n49 1) h67 fun s69 =>
c28 v68 s69 h67 fun v71 h70 =>
j44 (v71, v34.2.1, v34.2.2.1, v34.2.2.2.1, ()) d35 h70))) (
leaveK (gam J [(9, w9 c9), (27, w27 c27), (28, w28 c28)]) d35 h36 fun h72 =>
k v34.1 (Int.ofNat 0) h72)) (v31, v32, (AV.int .i64 (Int.ofNat x33)), (AV.int .i64 (Int.ofNat 0)), ()) [] h30))) fun j15 =>
br b5 (
j15 skipV h10) (
asI .i64 v9 fun x16 =>
fB (ltI (Int.ofNat 1073741824) x16) fun b17 =>
j15 (AV.bool b17) h10)) fun j11 =>
br b5 (
j11 skipV h7) (
ldI .i64 v6 h7 fun x12 =>
j11 (AV.int .i64 x12) h7)) fun j8 =>
br b5 (
j8 skipV h2) (
j8 (AV.ptr n1 0) h2)
noncomputable def s6 : AV → H → (AV → Int → H → Prop) → Prop := s6G J0 s9 s27 s28
noncomputable def w6 (c : AV → H → (AV → Int → H → Prop) → Prop) : Fun := fun xs h k => arg xs fun a0 xs => noArg xs <| c a0 h fun r0 r1 h => k (.tuple [r0, (.int .i64 r1)]) h
theorem s6_eq (J : Joins) (c9 : AV → H → (Int → H → Prop) → Prop) (c27 : AV → Int → H → (AV → H → Prop) → Prop) (c28 : AV → Str → H → (AV → H → Prop) → Prop) (a0 : AV) (h : H) (k : AV → H → Prop) : denF ty (gam J [(9, w9 c9), (27, w27 c27), (28, w28 c28)]) Tryd.f6 [a0] h k = s6G J c9 c27 c28 a0 h (fun r0 r1 h => k (.tuple [r0, (.int .i64 r1)]) h) := by kernel_rfl
noncomputable def g6 : Fun := w6 s6
theorem g6_ok : FunOk Tryd.prog 6 g6 := (fun_ok ty_ok mixed (gam_ok (J := J0) (tab_cons g9_ok (tab_cons g27_ok (tab_cons g28_ok (tab_nil fls_fun))))) Tryd.func6 (fun args w => by simp)).imp fun xs h k e0 => by
  obtain ⟨a0, xs0, rfl, e1⟩ := arg_imp e0
  obtain ⟨rfl, e2⟩ := noArg_imp e1
  exact (s6_eq J0 s9 s27 s28 a0 h k).mpr e2
/-- stagepost/stagepostlaw05.put -/
noncomputable def s7G (J : Joins) (a0 : Str) (a1 : Str) (h : H) (k : AV → H → Prop) : Prop :=
ck (Nat.beq (List.length [(AV.str a0), (AV.str a1), (.bool false)]) 3) (op' (lputAt 0 [(AV.str a0), (AV.str a1), (.bool false)] [(.str ⟨0, 0⟩), (.str ⟨0, 0⟩), (.bool false)]) fun l3 =>
pushK (.cells false 34 l3) h fun n1 h2 =>
k (AV.slice n1 0 1 1 3 true) h2)
noncomputable def s7 : Str → Str → H → (AV → H → Prop) → Prop := s7G J0 
noncomputable def w7 (c : Str → Str → H → (AV → H → Prop) → Prop) : Fun := fun xs h k => arg xs fun a0 xs => arg xs fun a1 xs => noArg xs <| asS a0 fun a0 => asS a1 fun a1 => c a0 a1 h fun r0 h => k r0 h
theorem s7_eq (J : Joins) (a0 : Str) (a1 : Str) (h : H) (k : AV → H → Prop) : denF ty (gam J []) Tryd.f7 [(.str a0), (.str a1)] h k = s7G J  a0 a1 h (fun r0 h => k r0 h) := by kernel_rfl
noncomputable def g7 : Fun := w7 s7
theorem g7_ok : FunOk Tryd.prog 7 g7 := (fun_ok ty_ok mixed (gam_ok (J := J0) (tab_nil fls_fun)) Tryd.func7 (fun args w => by simp)).imp fun xs h k e0 => by
  obtain ⟨a0, xs0, rfl, e1⟩ := arg_imp e0
  obtain ⟨a1, xs1, rfl, e2⟩ := arg_imp e1
  obtain ⟨rfl, e3⟩ := noArg_imp e2
  obtain ⟨a0, rfl, e4⟩ := asS_iff.1 e3
  obtain ⟨a1, rfl, e5⟩ := asS_iff.1 e4
  exact (s7_eq J0  a0 a1 h k).mpr e5
/-- internal/strconv.small -/
noncomputable def s82G (J : Joins) (a0 : Int) (h : H) (k : Str → H → Prop) : Prop :=
fB (ltI a0 (Int.ofNat 10)) fun b1 =>
br b1 (
fI (wrapF .i64 (Int.add a0 (Int.ofNat 1))) fun x2 =>
subK (AV.str ⟨36, 93621433862240650313326231306435056417042768930449266319129758623240466503934737414522⟩) (some (AV.int .i64 a0)) (some (AV.int .i64 x2)) fun s3 =>
k s3 h) (
fI (wrapF .i64 (Int.mul a0 (Int.ofNat 2))) fun x4 =>
fI (wrapF .i64 (Int.mul a0 (Int.ofNat 2))) fun x5 =>
fI (wrapF .i64 (Int.add x5 (Int.ofNat 2))) fun x6 =>
subK (AV.str ⟨200, 8369396053099643259884660439900312228746471110943504458504829912206407100469475510520505676855750014530596077689858408204562721349408824591789441711103775826291439126061900675989976254244761425382494394669896706626295868329681710377411642562040512013377776180902291979747008038411282346274188424097310996521951660972735479027990947060043115083917949168200323041593656569302669535377774123378085539195783572932112166539323561441937920580889744256865042652178519653545620815178381625⟩) (some (AV.int .i64 x4)) (some (AV.int .i64 x6)) fun s7 =>
k s7 h)
noncomputable def s82 : Int → H → (Str → H → Prop) → Prop := s82G J0 
noncomputable def w82 (c : Int → H → (Str → H → Prop) → Prop) : Fun := fun xs h k => arg xs fun a0 xs => noArg xs <| asI .i64 a0 fun a0 => c a0 h fun r0 h => k (.str r0) h
theorem s82_eq (J : Joins) (a0 : Int) (h : H) (k : AV → H → Prop) : denF ty (gam J []) Tryd.f82 [(.int .i64 a0)] h k = s82G J  a0 h (fun r0 h => k (.str r0) h) := by kernel_rfl
noncomputable def g82 : Fun := w82 s82
theorem g82_ok : FunOk Tryd.prog 82 g82 := (fun_ok ty_ok mixed (gam_ok (J := J0) (tab_nil fls_fun)) Tryd.func82 (fun args w => by simp)).imp fun xs h k e0 => by
  obtain ⟨a0, xs0, rfl, e1⟩ := arg_imp e0
  obtain ⟨rfl, e2⟩ := noArg_imp e1
  obtain ⟨a0, rfl, e3⟩ := asI_iff.1 e2
  exact (s82_eq J0  a0 h k).mpr e3
/-- internal/strconv.log10Pow2 -/
noncomputable def s91G (J : Joins) (a0 : Int) (h : H) (k : Int → H → Prop) : Prop :=
fI (wrapF .i64 (Int.mul a0 (Int.ofNat 78913))) fun x1 =>
fI (shrF x1 (nmin 18 (IntKind.bits .i64))) fun x2 =>
k x2 h
noncomputable def s91 : Int → H → (Int → H → Prop) → Prop := s91G J0 
noncomputable def w91 (c : Int → H → (Int → H → Prop) → Prop) : Fun := fun xs h k => arg xs fun a0 xs => noArg xs <| asI .i64 a0 fun a0 => c a0 h fun r0 h => k (.int .i64 r0) h
theorem s91_eq (J : Joins) (a0 : Int) (h : H) (k : AV → H → Prop) : denF ty (gam J []) Tryd.f91 [(.int .i64 a0)] h k = s91G J  a0 h (fun r0 h => k (.int .i64 r0) h) := by kernel_rfl
noncomputable def g91 : Fun := w91 s91
theorem g91_ok : FunOk Tryd.prog 91 g91 := (fun_ok ty_ok mixed (gam_ok (J := J0) (tab_nil fls_fun)) Tryd.func91 (fun args w => by simp)).imp fun xs h k e0 => by
  obtain ⟨a0, xs0, rfl, e1⟩ := arg_imp e0
  obtain ⟨rfl, e2⟩ := noArg_imp e1
  obtain ⟨a0, rfl, e3⟩ := asI_iff.1 e2
  exact (s91_eq J0  a0 h k).mpr e3
/-- math/bits.Len64 -/
noncomputable def s92G (J : Joins) (a0 : Int) (h : H) (k : Int → H → Prop) : Prop :=
J.jd (α := AV × AV × Unit) (fun v1 d2 h3 =>
J.jd (α := AV × AV × Unit) (fun v5 d6 h7 =>
J.jd (α := AV × AV × Unit) (fun v9 d10 h11 =>
asI .u64 v9.1 fun x13 =>
fI (wrapF .u8 x13) fun x14 =>
ixsK (AV.str ⟨256, 496986003408712215933005303621146343841837811690876167382323004466384420695090407243345123874780946046625255262057845613767806773758184921447759720770971536008171983842311960805720366577116933250839345203839274948261284255908394484732272583221484877694546905335834403051067785895034095251181560891789708940188598129052595634438001880866652824740680664595948164050600812232986714152902334120417949232733424961741260388658846598210939813666227264727603044226856020347194099943897342244906131705541414413428559898943151040826816076322978570758226444464494629814583418847495712557856038296917933182380796641777551368⟩) (AV.int .u8 x14) fun x15 =>
fI (wrapF .i64 x15) fun x16 =>
asI .i64 v9.2.1 fun x17 =>
fI (wrapF .i64 (Int.add x17 x16)) fun x18 =>
leaveK (gam J []) d10 h11 fun h19 =>
k x18 h19) fun j12 =>
asI .u64 v5.1 fun x20 =>
fB (Bool.not (ltI x20 (Int.ofNat 256))) fun b21 =>
br b21 (
asI .u64 v5.1 fun x22 =>
fI (shrF x22 (nmin 8 (IntKind.bits .u64))) fun x23 =>
asI .i64 v5.2.1 fun x24 =>
fI (wrapF .i64 (Int.add x24 (Int.ofNat 8))) fun x25 =>
j12 ((AV.int .u64 x23), (AV.int .i64 x25), ()) d6 h7) (
j12 (v5.1, v5.2.1, ()) d6 h7)) fun j8 =>
asI .u64 v1.1 fun x26 =>
fB (Bool.not (ltI x26 (Int.ofNat 65536))) fun b27 =>
br b27 (
asI .u64 v1.1 fun x28 =>
fI (shrF x28 (nmin 16 (IntKind.bits .u64))) fun x29 =>
asI .i64 v1.2.1 fun x30 =>
fI (wrapF .i64 (Int.add x30 (Int.ofNat 16))) fun x31 =>
j8 ((AV.int .u64 x29), (AV.int .i64 x31), ()) d2 h3) (
j8 (v1.1, v1.2.1, ()) d2 h3)) fun j4 =>
fB (Bool.not (ltI a0 (Int.ofNat 4294967296))) fun b32 =>
br b32 (
fI (shrF a0 (nmin 32 (IntKind.bits .u64))) fun x33 =>
j4 ((AV.int .u64 x33), (AV.int .i64 (Int.ofNat 32)), ()) [] h) (
j4 ((AV.int .u64 a0), (AV.int .i64 (Int.ofNat 0)), ()) [] h)
noncomputable def s92 : Int → H → (Int → H → Prop) → Prop := s92G J0 
noncomputable def w92 (c : Int → H → (Int → H → Prop) → Prop) : Fun := fun xs h k => arg xs fun a0 xs => noArg xs <| asI .u64 a0 fun a0 => c a0 h fun r0 h => k (.int .i64 r0) h
theorem s92_eq (J : Joins) (a0 : Int) (h : H) (k : AV → H → Prop) : denF ty (gam J []) Tryd.f92 [(.int .u64 a0)] h k = s92G J  a0 h (fun r0 h => k (.int .i64 r0) h) := by kernel_rfl
noncomputable def g92 : Fun := w92 s92
theorem g92_ok : FunOk Tryd.prog 92 g92 := (fun_ok ty_ok mixed (gam_ok (J := J0) (tab_nil fls_fun)) Tryd.func92 (fun args w => by simp)).imp fun xs h k e0 => by
  obtain ⟨a0, xs0, rfl, e1⟩ := arg_imp e0
  obtain ⟨rfl, e2⟩ := noArg_imp e1
  obtain ⟨a0, rfl, e3⟩ := asI_iff.1 e2
  exact (s92_eq J0  a0 h k).mpr e3
/-- internal/strconv.bool2[int] -/
noncomputable def s93G (J : Joins) (a0 : Bool) (h : H) (k : Int → H → Prop) : Prop :=
br a0 (
k (Int.ofNat 1) h) (
k (Int.ofNat 0) h)
noncomputable def s93 : Bool → H → (Int → H → Prop) → Prop := s93G J0 
noncomputable def w93 (c : Bool → H → (Int → H → Prop) → Prop) : Fun := fun xs h k => arg xs fun a0 xs => noArg xs <| asB a0 fun a0 => c a0 h fun r0 h => k (.int .i64 r0) h
theorem s93_eq (J : Joins) (a0 : Bool) (h : H) (k : AV → H → Prop) : denF ty (gam J []) Tryd.f93 [(.bool a0)] h k = s93G J  a0 h (fun r0 h => k (.int .i64 r0) h) := by kernel_rfl
noncomputable def g93 : Fun := w93 s93
theorem g93_ok : FunOk Tryd.prog 93 g93 := (fun_ok ty_ok mixed (gam_ok (J := J0) (tab_nil fls_fun)) Tryd.func93 (fun args w => by simp)).imp fun xs h k e0 => by
  obtain ⟨a0, xs0, rfl, e1⟩ := arg_imp e0
  obtain ⟨rfl, e2⟩ := noArg_imp e1
  obtain ⟨a0, rfl, e3⟩ := asB_iff.1 e2
  exact (s93_eq J0  a0 h k).mpr e3
/-- internal/strconv.numDigits -/
noncomputable def s83G (J : Joins) (c91 : Int → H → (Int → H → Prop) → Prop) (c92 : Int → H → (Int → H → Prop) → Prop) (c93 : Bool → H → (Int → H → Prop) → Prop) (a0 : Int) (h : H) (k : Int → H → Prop) : Prop :=
c92 a0 h fun x2 h1 =>
c91 x2 h1 fun x4 h3 =>
ixaK 20 1 AV.junk (AV.int .i64 x4) fun p5 =>
ldI .u64 p5 h3 fun x6 =>
fB (Bool.not (ltI a0 x6)) fun b7 =>
c93 b7 h3 fun x9 h8 =>
fI (wrapF .i64 (Int.add x4 x9)) fun x10 =>
k x10 h8
noncomputable def s83 : Int → H → (Int → H → Prop) → Prop := s83G J0 s91 s92 s93
noncomputable def w83 (c : Int → H → (Int → H → Prop) → Prop) : Fun := fun xs h k => arg xs fun a0 xs => noArg xs <| asI .u64 a0 fun a0 => c a0 h fun r0 h => k (.int .i64 r0) h
theorem s83_eq (J : Joins) (c91 : Int → H → (Int → H → Prop) → Prop) (c92 : Int → H → (Int → H → Prop) → Prop) (c93 : Bool → H → (Int → H → Prop) → Prop) (a0 : Int) (h : H) (k : AV → H → Prop) : denF ty (gam J [(91, w91 c91), (92, w92 c92), (93, w93 c93)]) Tryd.f83 [(.int .u64 a0)] h k = s83G J c91 c92 c93 a0 h (fun r0 h => k (.int .i64 r0) h) := by kernel_rfl
noncomputable def g83 : Fun := w83 s83
theorem g83_ok : FunOk Tryd.prog 83 g83 := (fun_ok ty_ok mixed (gam_ok (J := J0) (tab_cons g91_ok (tab_cons g92_ok (tab_cons g93_ok (tab_nil fls_fun))))) Tryd.func83 (fun args w => by simp)).imp fun xs h k e0 => by
  obtain ⟨a0, xs0, rfl, e1⟩ := arg_imp e0
  obtain ⟨rfl, e2⟩ := noArg_imp e1
  obtain ⟨a0, rfl, e3⟩ := asI_iff.1 e2
  exact (s83_eq J0 s91 s92 s93 a0 h k).mpr e3
/-- internal/strconv.formatBase10 -/
noncomputable def s84G (J : Joins) (a0 : AV) (a1 : Int) (h : H) (k : H → Prop) : Prop :=
lenK a0 fun x1 =>
J.lp (α := AV × AV × AV × Unit) (fun r5 v2 d3 h4 =>
asI .i64 v2.2.2.1 fun x6 =>
fB (Bool.not (ltI x6 (Int.ofNat 8))) fun b7 =>
br b7 (
asI .u64 v2.2.1 fun x8 =>
ck (Bool.not (eqI (Int.ofNat 100000000) 0)) (fI (Int.tmod x8 (Int.ofNat 100000000)) fun x9 =>
fI (wrapF .u32 x9) fun x10 =>
asI .u64 v2.2.1 fun x11 =>
ck (Bool.not (eqI (Int.ofNat 100000000) 0)) (fI (wrapF .u64 (Int.tdiv x11 (Int.ofNat 100000000))) fun x12 =>
ck (Bool.not (eqI (Int.ofNat 10000) 0)) (fI (wrapF .u32 (Int.tdiv x10 (Int.ofNat 10000))) fun x13 =>
ck (Bool.not (eqI (Int.ofNat 10000) 0)) (fI (Int.tmod x10 (Int.ofNat 10000)) fun x14 =>
ck (Bool.not (eqI (Int.ofNat 100) 0)) (fI (wrapF .u32 (Int.tdiv x14 (Int.ofNat 100))) fun x15 =>
fI (wrapF .u32 (Int.mul x15 (Int.ofNat 2))) fun x16 =>
ck (Bool.not (eqI (Int.ofNat 100) 0)) (fI (Int.tmod x14 (Int.ofNat 100)) fun x17 =>
fI (wrapF .u32 (Int.mul x17 (Int.ofNat 2))) fun x18 =>
ck (Bool.not (eqI (Int.ofNat 100) 0)) (fI (wrapF .u32 (Int.tdiv x13 (Int.ofNat 100))) fun x19 =>
fI (wrapF .u32 (Int.mul x19 (Int.ofNat 2))) fun x20 =>
ck (Bool.not (eqI (Int.ofNat 100) 0)) (fI (Int.tmod x13 (Int.ofNat 100)) fun x21 =>
fI (wrapF .u32 (Int.mul x21 (Int.ofNat 2))) fun x22 =>
asI .i64 v2.2.2.1 fun x23 =>
fI (wrapF .i64 (Int.sub x23 (Int.ofNat 1))) fun x24 =>
asI .i64 v2.2.2.1 fun x25 =>
fI (wrapF .i64 (Int.sub x25 (Int.ofNat 2))) fun x26 =>
fI (wrapF .u32 (Int.add x18 (Int.ofNat 1))) fun x27 =>
ixsK (AV.str ⟨200, 8369396053099643259884660439900312228746471110943504458504829912206407100469475510520505676855750014530596077689858408204562721349408824591789441711103775826291439126061900675989976254244761425382494394669896706626295868329681710377411642562040512013377776180902291979747008038411282346274188424097310996521951660972735479027990947060043115083917949168200323041593656569302669535377774123378085539195783572932112166539323561441937920580889744256865042652178519653545620815178381625⟩) (AV.int .u32 x27) fun x28 =>
ixsK (AV.str ⟨200, 8369396053099643259884660439900312228746471110943504458504829912206407100469475510520505676855750014530596077689858408204562721349408824591789441711103775826291439126061900675989976254244761425382494394669896706626295868329681710377411642562040512013377776180902291979747008038411282346274188424097310996521951660972735479027990947060043115083917949168200323041593656569302669535377774123378085539195783572932112166539323561441937920580889744256865042652178519653545620815178381625⟩) (AV.int .u32 x18) fun x29 =>
ixK 1 v2.1 (AV.int .i64 x24) fun p30 =>
stV p30 (AV.int .u8 x28) h4 fun h31 =>
ixK 1 v2.1 (AV.int .i64 x26) fun p32 =>
stV p32 (AV.int .u8 x29) h31 fun h33 =>
asI .i64 v2.2.2.1 fun x34 =>
fI (wrapF .i64 (Int.sub x34 (Int.ofNat 3))) fun x35 =>
asI .i64 v2.2.2.1 fun x36 =>
fI (wrapF .i64 (Int.sub x36 (Int.ofNat 4))) fun x37 =>
fI (wrapF .u32 (Int.add x16 (Int.ofNat 1))) fun x38 =>
ixsK (AV.str ⟨200, 8369396053099643259884660439900312228746471110943504458504829912206407100469475510520505676855750014530596077689858408204562721349408824591789441711103775826291439126061900675989976254244761425382494394669896706626295868329681710377411642562040512013377776180902291979747008038411282346274188424097310996521951660972735479027990947060043115083917949168200323041593656569302669535377774123378085539195783572932112166539323561441937920580889744256865042652178519653545620815178381625⟩) (AV.int .u32 x38) fun x39 =>
ixsK (AV.str ⟨200, 8369396053099643259884660439900312228746471110943504458504829912206407100469475510520505676855750014530596077689858408204562721349408824591789441711103775826291439126061900675989976254244761425382494394669896706626295868329681710377411642562040512013377776180902291979747008038411282346274188424097310996521951660972735479027990947060043115083917949168200323041593656569302669535377774123378085539195783572932112166539323561441937920580889744256865042652178519653545620815178381625⟩) (AV.int .u32 x16) fun x40 =>
ixK 1 v2.1 (AV.int .i64 x35) fun p41 =>
stV p41 (AV.int .u8 x39) h33 fun h42 =>
ixK 1 v2.1 (AV.int .i64 x37) fun p43 =>
stV p43 (AV.int .u8 x40) h42 fun h44 =>
asI .i64 v2.2.2.1 fun x45 =>
fI (wrapF .i64 (Int.sub x45 (Int.ofNat 5))) fun x46 =>
asI .i64 v2.2.2.1 fun x47 =>
fI (wrapF .i64 (Int.sub x47 (Int.ofNat 6))) fun x48 =>
fI (wrapF .u32 (Int.add x22 (Int.ofNat 1))) fun x49 =>
ixsK (AV.str ⟨200, 8369396053099643259884660439900312228746471110943504458504829912206407100469475510520505676855750014530596077689858408204562721349408824591789441711103775826291439126061900675989976254244761425382494394669896706626295868329681710377411642562040512013377776180902291979747008038411282346274188424097310996521951660972735479027990947060043115083917949168200323041593656569302669535377774123378085539195783572932112166539323561441937920580889744256865042652178519653545620815178381625⟩) (AV.int .u32 x49) fun x50 =>
ixsK (AV.str ⟨200, 8369396053099643259884660439900312228746471110943504458504829912206407100469475510520505676855750014530596077689858408204562721349408824591789441711103775826291439126061900675989976254244761425382494394669896706626295868329681710377411642562040512013377776180902291979747008038411282346274188424097310996521951660972735479027990947060043115083917949168200323041593656569302669535377774123378085539195783572932112166539323561441937920580889744256865042652178519653545620815178381625⟩) (AV.int .u32 x22) fun x51 =>
ixK 1 v2.1 (AV.int .i64 x46) fun p52 =>
stV p52 (AV.int .u8 x50) h44 fun h53 =>
ixK 1 v2.1 (AV.int .i64 x48) fun p54 =>
stV p54 (AV.int .u8 x51) h53 fun h55 =>
asI .i64 v2.2.2.1 fun x56 =>
fI (wrapF .i64 (Int.sub x56 (Int.ofNat 7))) fun x57 =>
asI .i64 v2.2.2.1 fun x58 =>
fI (wrapF .i64 (Int.sub x58 (Int.ofNat 8))) fun x59 =>
fI (wrapF .u32 (Int.add x20 (Int.ofNat 1))) fun x60 =>
ixsK (AV.str ⟨200, 8369396053099643259884660439900312228746471110943504458504829912206407100469475510520505676855750014530596077689858408204562721349408824591789441711103775826291439126061900675989976254244761425382494394669896706626295868329681710377411642562040512013377776180902291979747008038411282346274188424097310996521951660972735479027990947060043115083917949168200323041593656569302669535377774123378085539195783572932112166539323561441937920580889744256865042652178519653545620815178381625⟩) (AV.int .u32 x60) fun x61 =>
ixsK (AV.str ⟨200, 8369396053099643259884660439900312228746471110943504458504829912206407100469475510520505676855750014530596077689858408204562721349408824591789441711103775826291439126061900675989976254244761425382494394669896706626295868329681710377411642562040512013377776180902291979747008038411282346274188424097310996521951660972735479027990947060043115083917949168200323041593656569302669535377774123378085539195783572932112166539323561441937920580889744256865042652178519653545620815178381625⟩) (AV.int .u32 x20) fun x62 =>
ixK 1 v2.1 (AV.int .i64 x57) fun p63 =>
stV p63 (AV.int .u8 x61) h55 fun h64 =>
ixK 1 v2.1 (AV.int .i64 x59) fun p65 =>
stV p65 (AV.int .u8 x62) h64 fun h66 =>
asI .i64 v2.2.2.1 fun x67 =>
fI (wrapF .i64 (Int.sub x67 (Int.ofNat 8))) fun x68 =>
r5 (v2.1, (AV.int .u64 x12), (AV.int .i64 x68), ()) d3 h66))))))))) (
asI .u64 v2.2.1 fun x69 =>
fI (wrapF .u32 x69) fun x70 =>
J.jd (α := AV × AV × AV × Unit) (fun v71 d72 h73 =>
J.jd (α := AV × AV × AV × Unit) (fun v75 d76 h77 =>
asI .i64 v75.2.1 fun x79 =>
fB (ltI (Int.ofNat 0) x79) fun b80 =>
br b80 (
asI .u32 v75.2.2.1 fun x81 =>
fI (wrapF .u32 (Int.add (Int.ofNat 48) x81)) fun x82 =>
fI (wrapF .u8 x82) fun x83 =>
ixK 1 v75.1 (AV.int .i64 (Int.ofNat 0)) fun p84 =>
stV p84 (AV.int .u8 x83) h77 fun h85 =>
leaveK (gam J []) d76 h85 fun h86 =>
k  h86) (
leaveK (gam J []) d76 h77 fun h87 =>
k  h87)) fun j78 =>
asI .i64 v71.2.1 fun x88 =>
fB (Bool.not (ltI x88 (Int.ofNat 2))) fun b89 =>
br b89 (
asI .u32 v71.2.2.1 fun x90 =>
ck (Bool.not (eqI (Int.ofNat 100) 0)) (fI (Int.tmod x90 (Int.ofNat 100)) fun x91 =>
fI (wrapF .u32 (Int.mul x91 (Int.ofNat 2))) fun x92 =>
asI .u32 v71.2.2.1 fun x93 =>
ck (Bool.not (eqI (Int.ofNat 100) 0)) (fI (wrapF .u32 (Int.tdiv x93 (Int.ofNat 100))) fun x94 =>
asI .i64 v71.2.1 fun x95 =>
fI (wrapF .i64 (Int.sub x95 (Int.ofNat 1))) fun x96 =>
asI .i64 v71.2.1 fun x97 =>
fI (wrapF .i64 (Int.sub x97 (Int.ofNat 2))) fun x98 =>
fI (wrapF .u32 (Int.add x92 (Int.ofNat 1))) fun x99 =>
ixsK (AV.str ⟨200, 8369396053099643259884660439900312228746471110943504458504829912206407100469475510520505676855750014530596077689858408204562721349408824591789441711103775826291439126061900675989976254244761425382494394669896706626295868329681710377411642562040512013377776180902291979747008038411282346274188424097310996521951660972735479027990947060043115083917949168200323041593656569302669535377774123378085539195783572932112166539323561441937920580889744256865042652178519653545620815178381625⟩) (AV.int .u32 x99) fun x100 =>
ixsK (AV.str ⟨200, 8369396053099643259884660439900312228746471110943504458504829912206407100469475510520505676855750014530596077689858408204562721349408824591789441711103775826291439126061900675989976254244761425382494394669896706626295868329681710377411642562040512013377776180902291979747008038411282346274188424097310996521951660972735479027990947060043115083917949168200323041593656569302669535377774123378085539195783572932112166539323561441937920580889744256865042652178519653545620815178381625⟩) (AV.int .u32 x92) fun x101 =>
ixK 1 v71.1 (AV.int .i64 x96) fun p102 =>
stV p102 (AV.int .u8 x100) h73 fun h103 =>
ixK 1 v71.1 (AV.int .i64 x98) fun p104 =>
stV p104 (AV.int .u8 x101) h103 fun h105 =>
asI .i64 v71.2.1 fun x106 =>
fI (wrapF .i64 (Int.sub x106 (Int.ofNat 2))) fun x107 =>
j78 (v71.1, (AV.int .i64 x107), (AV.int .u32 x94), ()) d72 h105))) (
j78 (v71.1, v71.2.1, v71.2.2.1, ()) d72 h73)) fun j74 =>
asI .i64 v2.2.2.1 fun x108 =>
fB (Bool.not (ltI x108 (Int.ofNat 4))) fun b109 =>
br b109 (
ck (Bool.not (eqI (Int.ofNat 10000) 0)) (fI (Int.tmod x70 (Int.ofNat 10000)) fun x110 =>
ck (Bool.not (eqI (Int.ofNat 10000) 0)) (fI (wrapF .u32 (Int.tdiv x70 (Int.ofNat 10000))) fun x111 =>
ck (Bool.not (eqI (Int.ofNat 100) 0)) (fI (wrapF .u32 (Int.tdiv x110 (Int.ofNat 100))) fun x112 =>
fI (wrapF .u32 (Int.mul x112 (Int.ofNat 2))) fun x113 =>
ck (Bool.not (eqI (Int.ofNat 100) 0)) (fI (Int.tmod x110 (Int.ofNat 100)) fun x114 =>
fI (wrapF .u32 (Int.mul x114 (Int.ofNat 2))) fun x115 =>
asI .i64 v2.2.2.1 fun x116 =>
fI (wrapF .i64 (Int.sub x116 (Int.ofNat 1))) fun x117 =>
asI .i64 v2.2.2.1 fun x118 =>
fI (wrapF .i64 (Int.sub x118 (Int.ofNat 2))) fun x119 =>
fI (wrapF .u32 (Int.add x115 (Int.ofNat 1))) fun x120 =>
ixsK (AV.str ⟨200, 8369396053099643259884660439900312228746471110943504458504829912206407100469475510520505676855750014530596077689858408204562721349408824591789441711103775826291439126061900675989976254244761425382494394669896706626295868329681710377411642562040512013377776180902291979747008038411282346274188424097310996521951660972735479027990947060043115083917949168200323041593656569302669535377774123378085539195783572932112166539323561441937920580889744256865042652178519653545620815178381625⟩) (AV.int .u32 x120) fun x121 =>
ixsK (AV.str ⟨200, 8369396053099643259884660439900312228746471110943504458504829912206407100469475510520505676855750014530596077689858408204562721349408824591789441711103775826291439126061900675989976254244761425382494394669896706626295868329681710377411642562040512013377776180902291979747008038411282346274188424097310996521951660972735479027990947060043115083917949168200323041593656569302669535377774123378085539195783572932112166539323561441937920580889744256865042652178519653545620815178381625⟩) (AV.int .u32 x115) fun x122 =>
ixK 1 v2.1 (AV.int .i64 x117) fun p123 =>
stV p123 (AV.int .u8 x121) h4 fun h124 =>
ixK 1 v2.1 (AV.int .i64 x119) fun p125 =>
stV p125 (AV.int .u8 x122) h124 fun h126 =>
asI .i64 v2.2.2.1 fun x127 =>
fI (wrapF .i64 (Int.sub x127 (Int.ofNat 3))) fun x128 =>
asI .i64 v2.2.2.1 fun x129 =>
fI (wrapF .i64 (Int.sub x129 (Int.ofNat 4))) fun x130 =>
fI (wrapF .u32 (Int.add x113 (Int.ofNat 1))) fun x131 =>
ixsK (AV.str ⟨200, 8369396053099643259884660439900312228746471110943504458504829912206407100469475510520505676855750014530596077689858408204562721349408824591789441711103775826291439126061900675989976254244761425382494394669896706626295868329681710377411642562040512013377776180902291979747008038411282346274188424097310996521951660972735479027990947060043115083917949168200323041593656569302669535377774123378085539195783572932112166539323561441937920580889744256865042652178519653545620815178381625⟩) (AV.int .u32 x131) fun x132 =>
ixsK (AV.str ⟨200, 8369396053099643259884660439900312228746471110943504458504829912206407100469475510520505676855750014530596077689858408204562721349408824591789441711103775826291439126061900675989976254244761425382494394669896706626295868329681710377411642562040512013377776180902291979747008038411282346274188424097310996521951660972735479027990947060043115083917949168200323041593656569302669535377774123378085539195783572932112166539323561441937920580889744256865042652178519653545620815178381625⟩) (AV.int .u32 x113) fun x133 =>
ixK 1 v2.1 (AV.int .i64 x128) fun p134 =>
stV p134 (AV.int .u8 x132) h126 fun h135 =>
ixK 1 v2.1 (AV.int .i64 x130) fun p136 =>
stV p136 (AV.int .u8 x133) h135 fun h137 =>
asI .i64 v2.2.2.1 fun x138 =>
fI (wrapF .i64 (Int.sub x138 (Int.ofNat 4))) fun x139 =>
j74 (v2.1, (AV.int .i64 x139), (AV.int .u32 x111), ()) d3 h137))))) (
j74 (v2.1, v2.2.2.1, (AV.int .u32 x70), ()) d3 h4))) (a0, (AV.int .u64 a1), (AV.int .i64 (Int.ofNat x1)), ()) [] h
noncomputable def s84 : AV → Int → H → (H → Prop) → Prop := s84G J0 
noncomputable def w84 (c : AV → Int → H → (H → Prop) → Prop) : Fun := fun xs h k => arg xs fun a0 xs => arg xs fun a1 xs => noArg xs <| asI .u64 a1 fun a1 => c a0 a1 h fun  h => k (.tuple []) h
theorem s84_eq (J : Joins) (a0 : AV) (a1 : Int) (h : H) (k : AV → H → Prop) : denF ty (gam J []) Tryd.f84 [a0, (.int .u64 a1)] h k = s84G J  a0 a1 h (fun  h => k (.tuple []) h) := by kernel_rfl
noncomputable def g84 : Fun := w84 s84
theorem g84_ok : FunOk Tryd.prog 84 g84 := (fun_ok ty_ok mixed (gam_ok (J := J0) (tab_nil fls_fun)) Tryd.func84 (fun args w => by simp)).imp fun xs h k e0 => by
  obtain ⟨a0, xs0, rfl, e1⟩ := arg_imp e0
  obtain ⟨a1, xs1, rfl, e2⟩ := arg_imp e1
  obtain ⟨rfl, e3⟩ := noArg_imp e2
  obtain ⟨a1, rfl, e4⟩ := asI_iff.1 e3
  exact (s84_eq J0  a0 a1 h k).mpr e4
/-- internal/strconv.FormatInt -/
noncomputable def s68G (J : Joins) (c82 : Int → H → (Str → H → Prop) → Prop) (c83 : Int → H → (Int → H → Prop) → Prop) (c84 : AV → Int → H → (H → Prop) → Prop) (a0 : Int) (a1 : Int) (h : H) (k : Str → H → Prop) : Prop :=
fB (eqI a1 (Int.ofNat 10)) fun b1 =>
br b1 (
fB (Bool.not (ltI a0 (Int.ofNat 0))) fun b2 =>
J.jn (fun v3 h4 =>
J.jn (fun v6 h7 =>
pickB (AV.bool b2) v6 (AV.bool false) fun b11 =>
br b11 (
c82 a0 h7 fun s13 h12 =>
k s13 h12) (
pushK (.cells false 144 [(.int .u8 0), (.int .u8 0), (.int .u8 0), (.int .u8 0), (.int .u8 0), (.int .u8 0), (.int .u8 0), (.int .u8 0), (.int .u8 0), (.int .u8 0), (.int .u8 0), (.int .u8 0), (.int .u8 0), (.int .u8 0), (.int .u8 0), (.int .u8 0), (.int .u8 0), (.int .u8 0), (.int .u8 0), (.int .u8 0), (.int .u8 0), (.int .u8 0), (.int .u8 0), (.int .u8 0)]) h7 fun n14 h15 =>
fI (wrapF .u64 a0) fun x16 =>
J.jd (α := AV × AV × AV × Unit) (fun v17 d18 h19 =>
asI .u64 v17.2.2.1 fun x22 =>
c83 x22 h19 fun x23 h21 =>
fI (wrapF .i64 (Int.add (Int.ofNat 1) x23)) fun x24 =>
False) fun j20 =>
fB (ltI a0 (Int.ofNat 0)) fun b25 =>
br b25 (
op' (aUn .neg (AV.int .u64 x16)) fun v26 =>
asI .u64 v26 fun x27 =>
j20 ((AV.int .i64 a0), (AV.ptr n14 0), (AV.int .u64 x27), ()) [] h15) (
j20 ((AV.int .i64 a0), (AV.ptr n14 0), (AV.int .u64 x16), ()) [] h15))) fun j8 =>
br b2 (
asI .i64 v3 fun x9 =>
fB (ltI x9 (Int.ofNat 100)) fun b10 =>
j8 (AV.bool b10) h4) (
j8 skipV h4)) fun j5 =>
br b2 (
j5 (AV.int .i64 a0) h) (
j5 skipV h)) (
fI (wrapF .u64 a0) fun x28 =>
fB (ltI a0 (Int.ofNat 0)) fun b29 =>
False)
noncomputable def s68 : Int → Int → H → (Str → H → Prop) → Prop := s68G J0 s82 s83 s84
noncomputable def w68 (c : Int → Int → H → (Str → H → Prop) → Prop) : Fun := fun xs h k => arg xs fun a0 xs => arg xs fun a1 xs => noArg xs <| asI .i64 a0 fun a0 => asI .i64 a1 fun a1 => c a0 a1 h fun r0 h => k (.str r0) h
theorem s68_eq (J : Joins) (c82 : Int → H → (Str → H → Prop) → Prop) (c83 : Int → H → (Int → H → Prop) → Prop) (c84 : AV → Int → H → (H → Prop) → Prop) (a0 : Int) (a1 : Int) (h : H) (k : AV → H → Prop) : denF ty (gam J [(82, w82 c82), (83, w83 c83), (84, w84 c84)]) Tryd.f68 [(.int .i64 a0), (.int .i64 a1)] h k = s68G J c82 c83 c84 a0 a1 h (fun r0 h => k (.str r0) h) := by kernel_rfl
noncomputable def g68 : Fun := w68 s68
theorem g68_ok : FunOk Tryd.prog 68 g68 := (fun_ok ty_ok mixed (gam_ok (J := J0) (tab_cons g82_ok (tab_cons g83_ok (tab_cons g84_ok (tab_nil fls_fun))))) Tryd.func68 (fun args w => by simp)).imp fun xs h k e0 => by
  obtain ⟨a0, xs0, rfl, e1⟩ := arg_imp e0
  obtain ⟨a1, xs1, rfl, e2⟩ := arg_imp e1
  obtain ⟨rfl, e3⟩ := noArg_imp e2
  obtain ⟨a0, rfl, e4⟩ := asI_iff.1 e3
  obtain ⟨a1, rfl, e5⟩ := asI_iff.1 e4
  exact (s68_eq J0 s82 s83 s84 a0 a1 h k).mpr e5
/-- internal/strconv.Itoa -/
noncomputable def s49G (J : Joins) (c68 : Int → Int → H → (Str → H → Prop) → Prop) (a0 : Int) (h : H) (k : Str → H → Prop) : Prop :=
c68 a0 (Int.ofNat 10) h fun s2 h1 =>
k s2 h1
noncomputable def s49 : Int → H → (Str → H → Prop) → Prop := s49G J0 s68
noncomputable def w49 (c : Int → H → (Str → H → Prop) → Prop) : Fun := fun xs h k => arg xs fun a0 xs => noArg xs <| asI .i64 a0 fun a0 => c a0 h fun r0 h => k (.str r0) h
theorem s49_eq (J : Joins) (c68 : Int → Int → H → (Str → H → Prop) → Prop) (a0 : Int) (h : H) (k : AV → H → Prop) : denF ty (gam J [(68, w68 c68)]) Tryd.f49 [(.int .i64 a0)] h k = s49G J c68 a0 h (fun r0 h => k (.str r0) h) := by kernel_rfl
noncomputable def g49 : Fun := w49 s49
theorem g49_ok : FunOk Tryd.prog 49 g49 := (fun_ok ty_ok mixed (gam_ok (J := J0) (tab_cons g68_ok (tab_nil fls_fun))) Tryd.func49 (fun args w => by simp)).imp fun xs h k e0 => by
  obtain ⟨a0, xs0, rfl, e1⟩ := arg_imp e0
  obtain ⟨rfl, e2⟩ := noArg_imp e1
  obtain ⟨a0, rfl, e3⟩ := asI_iff.1 e2
  exact (s49_eq J0 s68 a0 h k).mpr e3
/-- strconv.Itoa -/
noncomputable def s29G (J : Joins) (c49 : Int → H → (Str → H → Prop) → Prop) (a0 : Int) (h : H) (k : Str → H → Prop) : Prop :=
c49 a0 h fun s2 h1 =>
k s2 h1
noncomputable def s29 : Int → H → (Str → H → Prop) → Prop := s29G J0 s49
noncomputable def w29 (c : Int → H → (Str → H → Prop) → Prop) : Fun := fun xs h k => arg xs fun a0 xs => noArg xs <| asI .i64 a0 fun a0 => c a0 h fun r0 h => k (.str r0) h
theorem s29_eq (J : Joins) (c49 : Int → H → (Str → H → Prop) → Prop) (a0 : Int) (h : H) (k : AV → H → Prop) : denF ty (gam J [(49, w49 c49)]) Tryd.f29 [(.int .i64 a0)] h k = s29G J c49 a0 h (fun r0 h => k (.str r0) h) := by kernel_rfl
noncomputable def g29 : Fun := w29 s29
theorem g29_ok : FunOk Tryd.prog 29 g29 := (fun_ok ty_ok mixed (gam_ok (J := J0) (tab_cons g49_ok (tab_nil fls_fun))) Tryd.func29 (fun args w => by simp)).imp fun xs h k e0 => by
  obtain ⟨a0, xs0, rfl, e1⟩ := arg_imp e0
  obtain ⟨rfl, e2⟩ := noArg_imp e1
  obtain ⟨a0, rfl, e3⟩ := asI_iff.1 e2
  exact (s29_eq J0 s49 a0 h k).mpr e3
/-- math/bits.Mul32 -/
noncomputable def s69G (J : Joins) (a0 : Int) (a1 : Int) (h : H) (k : Int → Int → H → Prop) : Prop :=
fI (wrapF .u64 a0) fun x1 =>
fI (wrapF .u64 a1) fun x2 =>
fI (wrapF .u64 (Int.mul x1 x2)) fun x3 =>
fI (shrF x3 (nmin 32 (IntKind.bits .u64))) fun x4 =>
fI (wrapF .u32 x4) fun x5 =>
fI (wrapF .u32 x3) fun x6 =>
k x5 x6 h
noncomputable def s69 : Int → Int → H → (Int → Int → H → Prop) → Prop := s69G J0 
noncomputable def w69 (c : Int → Int → H → (Int → Int → H → Prop) → Prop) : Fun := fun xs h k => arg xs fun a0 xs => arg xs fun a1 xs => noArg xs <| asI .u32 a0 fun a0 => asI .u32 a1 fun a1 => c a0 a1 h fun r0 r1 h => k (.tuple [(.int .u32 r0), (.int .u32 r1)]) h
theorem s69_eq (J : Joins) (a0 : Int) (a1 : Int) (h : H) (k : AV → H → Prop) : denF ty (gam J []) Tryd.f69 [(.int .u32 a0), (.int .u32 a1)] h k = s69G J  a0 a1 h (fun r0 r1 h => k (.tuple [(.int .u32 r0), (.int .u32 r1)]) h) := by kernel_rfl
noncomputable def g69 : Fun := w69 s69
theorem g69_ok : FunOk Tryd.prog 69 g69 := (fun_ok ty_ok mixed (gam_ok (J := J0) (tab_nil fls_fun)) Tryd.func69 (fun args w => by simp)).imp fun xs h k e0 => by
  obtain ⟨a0, xs0, rfl, e1⟩ := arg_imp e0
  obtain ⟨a1, xs1, rfl, e2⟩ := arg_imp e1
  obtain ⟨rfl, e3⟩ := noArg_imp e2
  obtain ⟨a0, rfl, e4⟩ := asI_iff.1 e3
  obtain ⟨a1, rfl, e5⟩ := asI_iff.1 e4
  exact (s69_eq J0  a0 a1 h k).mpr e5
/-- math/bits.Mul64 -/
noncomputable def s70G (J : Joins) (a0 : Int) (a1 : Int) (h : H) (k : Int → Int → H → Prop) : Prop :=
fI (landF .u64 a0 (Int.ofNat 4294967295)) fun x1 =>
fI (shrF a0 (nmin 32 (IntKind.bits .u64))) fun x2 =>
fI (landF .u64 a1 (Int.ofNat 4294967295)) fun x3 =>
fI (shrF a1 (nmin 32 (IntKind.bits .u64))) fun x4 =>
fI (wrapF .u64 (Int.mul x1 x3)) fun x5 =>
fI (wrapF .u64 (Int.mul x2 x3)) fun x6 =>
fI (shrF x5 (nmin 32 (IntKind.bits .u64))) fun x7 =>
fI (wrapF .u64 (Int.add x6 x7)) fun x8 =>
fI (landF .u64 x8 (Int.ofNat 4294967295)) fun x9 =>
fI (shrF x8 (nmin 32 (IntKind.bits .u64))) fun x10 =>
fI (wrapF .u64 (Int.mul x1 x4)) fun x11 =>
fI (wrapF .u64 (Int.add x9 x11)) fun x12 =>
fI (wrapF .u64 (Int.mul x2 x4)) fun x13 =>
fI (wrapF .u64 (Int.add x13 x10)) fun x14 =>
fI (shrF x12 (nmin 32 (IntKind.bits .u64))) fun x15 =>
fI (wrapF .u64 (Int.add x14 x15)) fun x16 =>
fI (wrapF .u64 (Int.mul a0 a1)) fun x17 =>
k x16 x17 h
noncomputable def s70 : Int → Int → H → (Int → Int → H → Prop) → Prop := s70G J0 
noncomputable def w70 (c : Int → Int → H → (Int → Int → H → Prop) → Prop) : Fun := fun xs h k => arg xs fun a0 xs => arg xs fun a1 xs => noArg xs <| asI .u64 a0 fun a0 => asI .u64 a1 fun a1 => c a0 a1 h fun r0 r1 h => k (.tuple [(.int .u64 r0), (.int .u64 r1)]) h
theorem s70_eq (J : Joins) (a0 : Int) (a1 : Int) (h : H) (k : AV → H → Prop) : denF ty (gam J []) Tryd.f70 [(.int .u64 a0), (.int .u64 a1)] h k = s70G J  a0 a1 h (fun r0 r1 h => k (.tuple [(.int .u64 r0), (.int .u64 r1)]) h) := by kernel_rfl
noncomputable def g70 : Fun := w70 s70
theorem g70_ok : FunOk Tryd.prog 70 g70 := (fun_ok ty_ok mixed (gam_ok (J := J0) (tab_nil fls_fun)) Tryd.func70 (fun args w => by simp)).imp fun xs h k e0 => by
  obtain ⟨a0, xs0, rfl, e1⟩ := arg_imp e0
  obtain ⟨a1, xs1, rfl, e2⟩ := arg_imp e1
  obtain ⟨rfl, e3⟩ := noArg_imp e2
  obtain ⟨a0, rfl, e4⟩ := asI_iff.1 e3
  obtain ⟨a1, rfl, e5⟩ := asI_iff.1 e4
  exact (s70_eq J0  a0 a1 h k).mpr e5
/-- math/bits.Mul -/
noncomputable def s50G (J : Joins) (c69 : Int → Int → H → (Int → Int → H → Prop) → Prop) (c70 : Int → Int → H → (Int → Int → H → Prop) → Prop) (a0 : Int) (a1 : Int) (h : H) (k : Int → Int → H → Prop) : Prop :=
br false (
fI (wrapF .u32 a0) fun x1 =>
fI (wrapF .u32 a1) fun x2 =>
c69 x1 x2 h fun x4 x5 h3 =>
fI (wrapF .u64 x4) fun x6 =>
fI (wrapF .u64 x5) fun x7 =>
k x6 x7 h3) (
c70 a0 a1 h fun x9 x10 h8 =>
k x9 x10 h8)
noncomputable def s50 : Int → Int → H → (Int → Int → H → Prop) → Prop := s50G J0 s69 s70
noncomputable def w50 (c : Int → Int → H → (Int → Int → H → Prop) → Prop) : Fun := fun xs h k => arg xs fun a0 xs => arg xs fun a1 xs => noArg xs <| asI .u64 a0 fun a0 => asI .u64 a1 fun a1 => c a0 a1 h fun r0 r1 h => k (.tuple [(.int .u64 r0), (.int .u64 r1)]) h
theorem s50_eq (J : Joins) (c69 : Int → Int → H → (Int → Int → H → Prop) → Prop) (c70 : Int → Int → H → (Int → Int → H → Prop) → Prop) (a0 : Int) (a1 : Int) (h : H) (k : AV → H → Prop) : denF ty (gam J [(69, w69 c69), (70, w70 c70)]) Tryd.f50 [(.int .u64 a0), (.int .u64 a1)] h k = s50G J c69 c70 a0 a1 h (fun r0 r1 h => k (.tuple [(.int .u64 r0), (.int .u64 r1)]) h) := by kernel_rfl
noncomputable def g50 : Fun := w50 s50
theorem g50_ok : FunOk Tryd.prog 50 g50 := (fun_ok ty_ok mixed (gam_ok (J := J0) (tab_cons g69_ok (tab_cons g70_ok (tab_nil fls_fun)))) Tryd.func50 (fun args w => by simp)).imp fun xs h k e0 => by
  obtain ⟨a0, xs0, rfl, e1⟩ := arg_imp e0
  obtain ⟨a1, xs1, rfl, e2⟩ := arg_imp e1
  obtain ⟨rfl, e3⟩ := noArg_imp e2
  obtain ⟨a0, rfl, e4⟩ := asI_iff.1 e3
  obtain ⟨a1, rfl, e5⟩ := asI_iff.1 e4
  exact (s50_eq J0 s69 s70 a0 a1 h k).mpr e5
/-- internal/stringslite.HasPrefix -/
noncomputable def s71G (J : Joins) (a0 : Str) (a1 : Str) (h : H) (k : Bool → H → Prop) : Prop :=
fB (Bool.not (ltI (Int.ofNat a0.len) (Int.ofNat a1.len))) fun b1 =>
J.jn (fun v2 h3 =>
J.jn (fun v5 h6 =>
J.jn (fun v8 h9 =>
J.jn (fun v12 h13 =>
J.jn (fun v16 h17 =>
J.jn (fun v19 h20 =>
pickB (AV.bool b1) v19 (AV.bool false) fun b25 =>
k b25 h20) fun j21 =>
br b1 (
asS v12 fun s22 =>
asS v16 fun s23 =>
fB (Str.beq s22 s23) fun b24 =>
j21 (AV.bool b24) h17) (
j21 skipV h17)) fun j18 =>
br b1 (
j18 (AV.str a1) h13) (
j18 skipV h13)) fun j14 =>
br b1 (
subK v2 none (some v8) fun s15 =>
j14 (AV.str s15) h9) (
j14 skipV h9)) fun j10 =>
br b1 (
asS v5 fun s11 =>
j10 (AV.int .i64 (Int.ofNat s11.len)) h6) (
j10 skipV h6)) fun j7 =>
br b1 (
j7 (AV.str a1) h3) (
j7 skipV h3)) fun j4 =>
br b1 (
j4 (AV.str a0) h) (
j4 skipV h)
noncomputable def s71 : Str → Str → H → (Bool → H → Prop) → Prop := s71G J0 
noncomputable def w71 (c : Str → Str → H → (Bool → H → Prop) → Prop) : Fun := fun xs h k => arg xs fun a0 xs => arg xs fun a1 xs => noArg xs <| asS a0 fun a0 => asS a1 fun a1 => c a0 a1 h fun r0 h => k (.bool r0) h
theorem s71_eq (J : Joins) (a0 : Str) (a1 : Str) (h : H) (k : AV → H → Prop) : denF ty (gam J []) Tryd.f71 [(.str a0), (.str a1)] h k = s71G J  a0 a1 h (fun r0 h => k (.bool r0) h) := by kernel_rfl
noncomputable def g71 : Fun := w71 s71
theorem g71_ok : FunOk Tryd.prog 71 g71 := (fun_ok ty_ok mixed (gam_ok (J := J0) (tab_nil fls_fun)) Tryd.func71 (fun args w => by simp)).imp fun xs h k e0 => by
  obtain ⟨a0, xs0, rfl, e1⟩ := arg_imp e0
  obtain ⟨a1, xs1, rfl, e2⟩ := arg_imp e1
  obtain ⟨rfl, e3⟩ := noArg_imp e2
  obtain ⟨a0, rfl, e4⟩ := asS_iff.1 e3
  obtain ⟨a1, rfl, e5⟩ := asS_iff.1 e4
  exact (s71_eq J0  a0 a1 h k).mpr e5
/-- strings.HasPrefix -/
noncomputable def s51G (J : Joins) (c71 : Str → Str → H → (Bool → H → Prop) → Prop) (a0 : Str) (a1 : Str) (h : H) (k : Bool → H → Prop) : Prop :=
c71 a0 a1 h fun b2 h1 =>
k b2 h1
noncomputable def s51 : Str → Str → H → (Bool → H → Prop) → Prop := s51G J0 s71
noncomputable def w51 (c : Str → Str → H → (Bool → H → Prop) → Prop) : Fun := fun xs h k => arg xs fun a0 xs => arg xs fun a1 xs => noArg xs <| asS a0 fun a0 => asS a1 fun a1 => c a0 a1 h fun r0 h => k (.bool r0) h
theorem s51_eq (J : Joins) (c71 : Str → Str → H → (Bool → H → Prop) → Prop) (a0 : Str) (a1 : Str) (h : H) (k : AV → H → Prop) : denF ty (gam J [(71, w71 c71)]) Tryd.f51 [(.str a0), (.str a1)] h k = s51G J c71 a0 a1 h (fun r0 h => k (.bool r0) h) := by kernel_rfl
noncomputable def g51 : Fun := w51 s51
theorem g51_ok : FunOk Tryd.prog 51 g51 := (fun_ok ty_ok mixed (gam_ok (J := J0) (tab_cons g71_ok (tab_nil fls_fun))) Tryd.func51 (fun args w => by simp)).imp fun xs h k e0 => by
  obtain ⟨a0, xs0, rfl, e1⟩ := arg_imp e0
  obtain ⟨a1, xs1, rfl, e2⟩ := arg_imp e1
  obtain ⟨rfl, e3⟩ := noArg_imp e2
  obtain ⟨a0, rfl, e4⟩ := asS_iff.1 e3
  obtain ⟨a1, rfl, e5⟩ := asS_iff.1 e4
  exact (s51_eq J0 s71 a0 a1 h k).mpr e5
/-- internal/abi.NoEscape -/
noncomputable def g86 : Fun := noEsc
theorem g86_ok : FunOk Tryd.prog 86 g86 := noEscape_ok Tryd.func86 (by kernel_rfl) (by kernel_rfl) (by kernel_rfl) (by kernel_rfl)
/-- (*strings.Builder).copyCheck -/
noncomputable def s72G (J : Joins) (c86 : Fun) (a0 : AV) (h : H) (k : H → Prop) : Prop :=
okNil a0 (
faK 0 a0 fun p1 =>
ldV p1 h fun v2 =>
nilB 0 v2 fun b3 =>
br b3 (
op' (aToU a0 h) fun v4 =>
c86 [v4] h fun v5 h6 =>
op' (aOfU 108 2 v5 h6) fun v7 =>
okNil a0 (
faK 0 a0 fun p8 =>
stV p8 v7 h6 fun h9 =>
k  h9)) (
okNil a0 (
faK 0 a0 fun p10 =>
ldV p10 h fun v11 =>
obK (aBin ty .neq 106 false v11 a0) fun b12 =>
br b12 (
False) (
k  h))))
noncomputable def s72 : AV → H → (H → Prop) → Prop := s72G J0 g86
noncomputable def w72 (c : AV → H → (H → Prop) → Prop) : Fun := fun xs h k => arg xs fun a0 xs => noArg xs <| c a0 h fun  h => k (.tuple []) h
theorem s72_eq (J : Joins) (c86 : Fun) (a0 : AV) (h : H) (k : AV → H → Prop) : denF ty (gam J [(86, c86)]) Tryd.f72 [a0] h k = s72G J c86 a0 h (fun  h => k (.tuple []) h) := by kernel_rfl
noncomputable def g72 : Fun := w72 s72
theorem g72_ok : FunOk Tryd.prog 72 g72 := (fun_ok ty_ok mixed (gam_ok (J := J0) (tab_cons g86_ok (tab_nil fls_fun))) Tryd.func72 (fun args w => by simp)).imp fun xs h k e0 => by
  obtain ⟨a0, xs0, rfl, e1⟩ := arg_imp e0
  obtain ⟨rfl, e2⟩ := noArg_imp e1
  exact (s72_eq J0 g86 a0 h k).mpr e2
/-- (*strings.Builder).grow -/
noncomputable def s73G (J : Joins) (a0 : AV) (a1 : Int) (h : H) (k : H → Prop) : Prop :=
okNil a0 (
faK 1 a0 fun p1 =>
ldV p1 h fun v2 =>
okNil a0 (
faK 1 a0 fun p3 =>
ldV p3 h fun v4 =>
lenK v4 fun x5 =>
False))
noncomputable def s73 : AV → Int → H → (H → Prop) → Prop := s73G J0 
noncomputable def w73 (c : AV → Int → H → (H → Prop) → Prop) : Fun := fun xs h k => arg xs fun a0 xs => arg xs fun a1 xs => noArg xs <| asI .i64 a1 fun a1 => c a0 a1 h fun  h => k (.tuple []) h
theorem s73_eq (J : Joins) (a0 : AV) (a1 : Int) (h : H) (k : AV → H → Prop) : denF ty (gam J []) Tryd.f73 [a0, (.int .i64 a1)] h k = s73G J  a0 a1 h (fun  h => k (.tuple []) h) := by kernel_rfl
noncomputable def g73 : Fun := w73 s73
theorem g73_ok : FunOk Tryd.prog 73 g73 := (fun_ok ty_ok mixed (gam_ok (J := J0) (tab_nil fls_fun)) Tryd.func73 (fun args w => by simp)).imp fun xs h k e0 => by
  obtain ⟨a0, xs0, rfl, e1⟩ := arg_imp e0
  obtain ⟨a1, xs1, rfl, e2⟩ := arg_imp e1
  obtain ⟨rfl, e3⟩ := noArg_imp e2
  obtain ⟨a1, rfl, e4⟩ := asI_iff.1 e3
  exact (s73_eq J0  a0 a1 h k).mpr e4
/-- (*strings.Builder).Grow -/
noncomputable def s52G (J : Joins) (c72 : AV → H → (H → Prop) → Prop) (c73 : AV → Int → H → (H → Prop) → Prop) (a0 : AV) (a1 : Int) (h : H) (k : H → Prop) : Prop :=
c72 a0 h fun  h1 =>
J.jd (α := AV × AV × Unit) (fun v2 d3 h4 =>
okNil v2.1 (
faK 1 v2.1 fun p6 =>
ldV p6 h4 fun v7 =>
okNil v2.1 (
faK 1 v2.1 fun p8 =>
ldV p8 h4 fun v9 =>
lenK v9 fun x10 =>
False))) fun j5 =>
fB (ltI a1 (Int.ofNat 0)) fun b11 =>
br b11 (
False) (
j5 (a0, (AV.int .i64 a1), ()) [] h1)
noncomputable def s52 : AV → Int → H → (H → Prop) → Prop := s52G J0 s72 s73
noncomputable def w52 (c : AV → Int → H → (H → Prop) → Prop) : Fun := fun xs h k => arg xs fun a0 xs => arg xs fun a1 xs => noArg xs <| asI .i64 a1 fun a1 => c a0 a1 h fun  h => k (.tuple []) h
theorem s52_eq (J : Joins) (c72 : AV → H → (H → Prop) → Prop) (c73 : AV → Int → H → (H → Prop) → Prop) (a0 : AV) (a1 : Int) (h : H) (k : AV → H → Prop) : denF ty (gam J [(72, w72 c72), (73, w73 c73)]) Tryd.f52 [a0, (.int .i64 a1)] h k = s52G J c72 c73 a0 a1 h (fun  h => k (.tuple []) h) := by kernel_rfl
noncomputable def g52 : Fun := w52 s52
theorem g52_ok : FunOk Tryd.prog 52 g52 := (fun_ok ty_ok mixed (gam_ok (J := J0) (tab_cons g72_ok (tab_cons g73_ok (tab_nil fls_fun)))) Tryd.func52 (fun args w => by simp)).imp fun xs h k e0 => by
  obtain ⟨a0, xs0, rfl, e1⟩ := arg_imp e0
  obtain ⟨a1, xs1, rfl, e2⟩ := arg_imp e1
  obtain ⟨rfl, e3⟩ := noArg_imp e2
  obtain ⟨a1, rfl, e4⟩ := asI_iff.1 e3
  exact (s52_eq J0 s72 s73 a0 a1 h k).mpr e4
/-- (*strings.Builder).WriteString -/
noncomputable def s53G (J : Joins) (c72 : AV → H → (H → Prop) → Prop) (a0 : AV) (a1 : Str) (h : H) (k : Int → AV → H → Prop) : Prop :=
c72 a0 h fun  h1 =>
okNil a0 (
faK 1 a0 fun p2 =>
ldV p2 h1 fun v3 =>
apB .str 5 v3 (AV.str a1) h1 fun v4 h5 =>
okNil a0 (
faK 1 a0 fun p6 =>
stV p6 v4 h5 fun h7 =>
k (Int.ofNat a1.len) AV.nili h7))
noncomputable def s53 : AV → Str → H → (Int → AV → H → Prop) → Prop := s53G J0 s72
noncomputable def w53 (c : AV → Str → H → (Int → AV → H → Prop) → Prop) : Fun := fun xs h k => arg xs fun a0 xs => arg xs fun a1 xs => noArg xs <| asS a1 fun a1 => c a0 a1 h fun r0 r1 h => k (.tuple [(.int .i64 r0), r1]) h
theorem s53_eq (J : Joins) (c72 : AV → H → (H → Prop) → Prop) (a0 : AV) (a1 : Str) (h : H) (k : AV → H → Prop) : denF ty (gam J [(72, w72 c72)]) Tryd.f53 [a0, (.str a1)] h k = s53G J c72 a0 a1 h (fun r0 r1 h => k (.tuple [(.int .i64 r0), r1]) h) := by kernel_rfl
noncomputable def g53 : Fun := w53 s53
theorem g53_ok : FunOk Tryd.prog 53 g53 := (fun_ok ty_ok mixed (gam_ok (J := J0) (tab_cons g72_ok (tab_nil fls_fun))) Tryd.func53 (fun args w => by simp)).imp fun xs h k e0 => by
  obtain ⟨a0, xs0, rfl, e1⟩ := arg_imp e0
  obtain ⟨a1, xs1, rfl, e2⟩ := arg_imp e1
  obtain ⟨rfl, e3⟩ := noArg_imp e2
  obtain ⟨a1, rfl, e4⟩ := asS_iff.1 e3
  exact (s53_eq J0 s72 a0 a1 h k).mpr e4
/-- (*strings.Builder).String -/
noncomputable def s55G (J : Joins) (a0 : AV) (h : H) (k : Str → H → Prop) : Prop :=
okNil a0 (
faK 1 a0 fun p1 =>
ldV p1 h fun v2 =>
spX (aSliceData v2) fun v3 =>
okNil a0 (
faK 1 a0 fun p4 =>
ldV p4 h fun v5 =>
lenK v5 fun x6 =>
op2 (aUnStr 5 v3 (AV.int .i64 (Int.ofNat x6)) h) fun v7 h8 =>
asS v7 fun s9 =>
k s9 h8))
noncomputable def s55 : AV → H → (Str → H → Prop) → Prop := s55G J0 
noncomputable def w55 (c : AV → H → (Str → H → Prop) → Prop) : Fun := fun xs h k => arg xs fun a0 xs => noArg xs <| c a0 h fun r0 h => k (.str r0) h
theorem s55_eq (J : Joins) (a0 : AV) (h : H) (k : AV → H → Prop) : denF ty (gam J []) Tryd.f55 [a0] h k = s55G J  a0 h (fun r0 h => k (.str r0) h) := by kernel_rfl
noncomputable def g55 : Fun := w55 s55
theorem g55_ok : FunOk Tryd.prog 55 g55 := (fun_ok ty_ok mixed (gam_ok (J := J0) (tab_nil fls_fun)) Tryd.func55 (fun args w => by simp)).imp fun xs h k e0 => by
  obtain ⟨a0, xs0, rfl, e1⟩ := arg_imp e0
  obtain ⟨rfl, e2⟩ := noArg_imp e1
  exact (s55_eq J0  a0 h k).mpr e2
/-- strings.Repeat -/
noncomputable def s30G (J : Joins) (c50 : Int → Int → H → (Int → Int → H → Prop) → Prop) (c51 : Str → Str → H → (Bool → H → Prop) → Prop) (c52 : AV → Int → H → (H → Prop) → Prop) (c53 : AV → Str → H → (Int → AV → H → Prop) → Prop) (c55 : AV → H → (Str → H → Prop) → Prop) (a0 : Str) (a1 : Int) (h : H) (k : Str → H → Prop) : Prop :=
fB (eqI a1 (Int.ofNat 0)) fun b1 =>
br b1 (
k ⟨0, 0⟩ h) (
fB (eqI a1 (Int.ofNat 1)) fun b2 =>
br b2 (
k a0 h) (
J.jd (α := AV × AV × Unit) (fun v3 d4 h5 =>
asS v3.1 fun s7 =>
fI (wrapF .u64 (Int.ofNat s7.len)) fun x8 =>
asI .i64 v3.2.1 fun x9 =>
fI (wrapF .u64 x9) fun x10 =>
c50 x8 x10 h5 fun x12 x13 h11 =>
J.jd (α := AV × AV × Unit) (fun v14 d15 h16 =>
asI .u64 v14.2.1 fun x18 =>
fI (wrapF .i64 x18) fun x19 =>
asS v14.1 fun s20 =>
fB (eqI (Int.ofNat s20.len) (Int.ofNat 0)) fun b21 =>
br b21 (
leaveK (gam J [(50, w50 c50), (51, w51 c51), (52, w52 c52), (53, w53 c53), (55, w55 c55)]) d15 h16 fun h22 =>
k ⟨0, 0⟩ h22) (
J.jd (α := AV × AV × Unit) (fun v23 d24 h25 =>
J.jd (α := AV × AV × AV × Unit) (fun v27 d28 h29 =>
pushK (.cells false 108 [(.nilp), (.nils)]) h29 fun n31 h32 =>
asI .i64 v27.2.1 fun x34 =>
c52 (AV.ptr n31 0) x34 h32 fun  h33 =>
asS v27.1 fun s36 =>
c53 (AV.ptr n31 0) s36 h33 fun x37 v38 h35 =>
J.lp (α := AV × AV × AV × Unit) (fun r42 v39 d40 h41 =>
False) (v27.2.1, v27.2.2.1, (AV.ptr n31 0), ()) d28 h35) fun j30 =>
asI .i64 v23.2.1 fun x43 =>
fB (ltI (Int.ofNat 8192) x43) fun b44 =>
br b44 (
asS v23.1 fun s45 =>
ck (Bool.not (eqI (Int.ofNat s45.len) 0)) (fI (wrapF .i64 (Int.tdiv (Int.ofNat 8192) (Int.ofNat s45.len))) fun x46 =>
asS v23.1 fun s47 =>
fI (wrapF .i64 (Int.mul x46 (Int.ofNat s47.len))) fun x48 =>
fB (eqI x48 (Int.ofNat 0)) fun b49 =>
br b49 (
asS v23.1 fun s50 =>
j30 (v23.1, v23.2.1, (AV.int .i64 (Int.ofNat s50.len)), ()) d24 h25) (
j30 (v23.1, v23.2.1, (AV.int .i64 x48), ()) d24 h25))) (
j30 (v23.1, v23.2.1, v23.2.1, ()) d24 h25)) fun j26 =>
ixsK v14.1 (AV.int .i64 (Int.ofNat 0)) fun x51 =>
J.jd (α := AV × AV × AV × Unit) (fun v52 d53 h54 =>
asB v52.2.2.1 fun b56 =>
br b56 (
asI .i64 v52.2.1 fun x57 =>
fB (Bool.not (ltI (Int.ofNat 128) x57)) fun b58 =>
J.jn (fun v59 h60 =>
J.jn (fun v62 h63 =>
pickB (AV.bool b58) v62 (AV.bool false) fun b68 =>
br b68 (
subK (AV.str ⟨128, 22559286398272199626406967100097565284617750323981886402940245478617433826572669883320279507125651579120955467277978774294436363145338556548122030511620282274857147410179198152320278538195588281656857468496941900403218909156701224341824390342378319957753789576104947230111026941299415379430319225678334009376⟩) none (some v52.2.1) fun s69 =>
leaveK (gam J [(50, w50 c50), (51, w51 c51), (52, w52 c52), (53, w53 c53), (55, w55 c55)]) d53 h63 fun h70 =>
k s69 h70) (
asI .i64 v52.2.1 fun x71 =>
fB (Bool.not (ltI (Int.ofNat 128) x71)) fun b72 =>
J.jn (fun v73 h74 =>
J.jn (fun v76 h77 =>
pickB (AV.bool b72) v76 (AV.bool false) fun b82 =>
br b82 (
subK (AV.str ⟨128, 31723996497570280724634797484512201181493711393099527754134720204305766318617817023419143056895447533138843625859657651351551135673132345145796605406966021949017863545564497401700391694337546021079955815073824547442026591001611096730690548918969512440591266591397582042343631636202302877323886411110157200685⟩) none (some v52.2.1) fun s83 =>
leaveK (gam J [(50, w50 c50), (51, w51 c51), (52, w52 c52), (53, w53 c53), (55, w55 c55)]) d53 h77 fun h84 =>
k s83 h84) (
asI .i64 v52.2.1 fun x85 =>
fB (Bool.not (ltI (Int.ofNat 64) x85)) fun b86 =>
J.jn (fun v87 h88 =>
J.jn (fun v90 h91 =>
pickB (AV.bool b86) v90 (AV.bool false) fun b96 =>
br b96 (
subK (AV.str ⟨64, 2523822669165665336390404705544629859290233566229156400512670389406449699778550019162705750243181821682829526246867962513647789705778177872269863342321712⟩) none (some v52.2.1) fun s97 =>
leaveK (gam J [(50, w50 c50), (51, w51 c51), (52, w52 c52), (53, w53 c53), (55, w55 c55)]) d53 h91 fun h98 =>
k s97 h98) (
asI .i64 v52.2.1 fun x99 =>
fB (Bool.not (ltI (Int.ofNat 128) x99)) fun b100 =>
J.jn (fun v101 h102 =>
J.jn (fun v104 h105 =>
pickB (AV.bool b100) v104 (AV.bool false) fun b110 =>
br b110 (
subK (AV.str ⟨128, 43003639696706380537838281034560983823802586555090470955604842943614483231904151965079282810458273322699321359498647038498769317245801623419857620662776163086446437250654096477860530963435340161908384549322295497643636045579961708901602744090158672419468161379450055657399145106852010567039046023949324205373⟩) none (some v52.2.1) fun s111 =>
leaveK (gam J [(50, w50 c50), (51, w51 c51), (52, w52 c52), (53, w53 c53), (55, w55 c55)]) d53 h105 fun h112 =>
k s111 h112) (
asI .i64 v52.2.1 fun x113 =>
fB (Bool.not (ltI (Int.ofNat 64) x113)) fun b114 =>
J.jn (fun v115 h116 =>
J.jn (fun v118 h119 =>
pickB (AV.bool b114) v118 (AV.bool false) fun b124 =>
br b124 (
subK (AV.str ⟨64, 473216750468562250573200882289618098616918793667966825096125698013709318708478128593007328170596591565530536171287742971308960569833408351050599376685321⟩) none (some v52.2.1) fun s125 =>
leaveK (gam J [(50, w50 c50), (51, w51 c51), (52, w52 c52), (53, w53 c53), (55, w55 c55)]) d53 h119 fun h126 =>
k s125 h126) (
j26 (v52.1, v52.2.1, ()) d53 h119)) fun j120 =>
br b114 (
asS v115 fun s122 =>
c51 ⟨64, 473216750468562250573200882289618098616918793667966825096125698013709318708478128593007328170596591565530536171287742971308960569833408351050599376685321⟩ s122 h116 fun b123 h121 =>
j120 (AV.bool b123) h121) (
j120 skipV h116)) fun j117 =>
br b114 (
j117 v52.1 h105) (
j117 skipV h105))) fun j106 =>
br b100 (
asS v101 fun s108 =>
c51 ⟨128, 43003639696706380537838281034560983823802586555090470955604842943614483231904151965079282810458273322699321359498647038498769317245801623419857620662776163086446437250654096477860530963435340161908384549322295497643636045579961708901602744090158672419468161379450055657399145106852010567039046023949324205373⟩ s108 h102 fun b109 h107 =>
j106 (AV.bool b109) h107) (
j106 skipV h102)) fun j103 =>
br b100 (
j103 v52.1 h91) (
j103 skipV h91))) fun j92 =>
br b86 (
asS v87 fun s94 =>
c51 ⟨64, 2523822669165665336390404705544629859290233566229156400512670389406449699778550019162705750243181821682829526246867962513647789705778177872269863342321712⟩ s94 h88 fun b95 h93 =>
j92 (AV.bool b95) h93) (
j92 skipV h88)) fun j89 =>
br b86 (
j89 v52.1 h77) (
j89 skipV h77))) fun j78 =>
br b72 (
asS v73 fun s80 =>
c51 ⟨128, 31723996497570280724634797484512201181493711393099527754134720204305766318617817023419143056895447533138843625859657651351551135673132345145796605406966021949017863545564497401700391694337546021079955815073824547442026591001611096730690548918969512440591266591397582042343631636202302877323886411110157200685⟩ s80 h74 fun b81 h79 =>
j78 (AV.bool b81) h79) (
j78 skipV h74)) fun j75 =>
br b72 (
j75 v52.1 h63) (
j75 skipV h63))) fun j64 =>
br b58 (
asS v59 fun s66 =>
c51 ⟨128, 22559286398272199626406967100097565284617750323981886402940245478617433826572669883320279507125651579120955467277978774294436363145338556548122030511620282274857147410179198152320278538195588281656857468496941900403218909156701224341824390342378319957753789576104947230111026941299415379430319225678334009376⟩ s66 h60 fun b67 h65 =>
j64 (AV.bool b67) h65) (
j64 skipV h60)) fun j61 =>
br b58 (
j61 v52.1 h54) (
j61 skipV h54)) (
j26 (v52.1, v52.2.1, ()) d53 h54)) fun j55 =>
fB (eqI x51 (Int.ofNat 32)) fun b127 =>
br b127 (
j55 (v14.1, (AV.int .i64 x19), (AV.bool b127), ()) d15 h16) (
fB (eqI x51 (Int.ofNat 45)) fun b128 =>
br b128 (
j55 (v14.1, (AV.int .i64 x19), (AV.bool b128), ()) d15 h16) (
fB (eqI x51 (Int.ofNat 48)) fun b129 =>
br b129 (
j55 (v14.1, (AV.int .i64 x19), (AV.bool b129), ()) d15 h16) (
fB (eqI x51 (Int.ofNat 61)) fun b130 =>
br b130 (
j55 (v14.1, (AV.int .i64 x19), (AV.bool b130), ()) d15 h16) (
fB (eqI x51 (Int.ofNat 9)) fun b131 =>
j55 (v14.1, (AV.int .i64 x19), (AV.bool b131), ()) d15 h16)))))) fun j17 =>
fB (ltI (Int.ofNat 0) x12) fun b132 =>
J.jn (fun v133 h134 =>
J.jn (fun v136 h137 =>
pickB (AV.bool b132) (AV.bool true) v136 fun b141 =>
br b141 (
False) (
j17 (v3.1, (AV.int .u64 x13), ()) d4 h137)) fun j138 =>
br b132 (
j138 skipV h134) (
asI .u64 v133 fun x139 =>
fB (ltI (Int.ofNat 9223372036854775807) x139) fun b140 =>
j138 (AV.bool b140) h134)) fun j135 =>
br b132 (
j135 skipV h11) (
j135 (AV.int .u64 x13) h11)) fun j6 =>
fB (ltI a1 (Int.ofNat 0)) fun b142 =>
br b142 (
False) (
j6 ((AV.str a0), (AV.int .i64 a1), ()) [] h)))
noncomputable def s30 : Str → Int → H → (Str → H → Prop) → Prop := s30G J0 s50 s51 s52 s53 s55
noncomputable def w30 (c : Str → Int → H → (Str → H → Prop) → Prop) : Fun := fun xs h k => arg xs fun a0 xs => arg xs fun a1 xs => noArg xs <| asS a0 fun a0 => asI .i64 a1 fun a1 => c a0 a1 h fun r0 h => k (.str r0) h
theorem s30_eq (J : Joins) (c50 : Int → Int → H → (Int → Int → H → Prop) → Prop) (c51 : Str → Str → H → (Bool → H → Prop) → Prop) (c52 : AV → Int → H → (H → Prop) → Prop) (c53 : AV → Str → H → (Int → AV → H → Prop) → Prop) (c55 : AV → H → (Str → H → Prop) → Prop) (a0 : Str) (a1 : Int) (h : H) (k : AV → H → Prop) : denF ty (gam J [(50, w50 c50), (51, w51 c51), (52, w52 c52), (53, w53 c53), (55, w55 c55)]) Tryd.f30 [(.str a0), (.int .i64 a1)] h k = s30G J c50 c51 c52 c53 c55 a0 a1 h (fun r0 h => k (.str r0) h) := by kernel_rfl
noncomputable def g30 : Fun := w30 s30
theorem g30_ok : FunOk Tryd.prog 30 g30 := (fun_ok ty_ok mixed (gam_ok (J := J0) (tab_cons g50_ok (tab_cons g51_ok (tab_cons g52_ok (tab_cons g53_ok (tab_cons g55_ok (tab_nil fls_fun))))))) Tryd.func30 (fun args w => by simp)).imp fun xs h k e0 => by
  obtain ⟨a0, xs0, rfl, e1⟩ := arg_imp e0
  obtain ⟨a1, xs1, rfl, e2⟩ := arg_imp e1
  obtain ⟨rfl, e3⟩ := noArg_imp e2
  obtain ⟨a0, rfl, e4⟩ := asS_iff.1 e3
  obtain ⟨a1, rfl, e5⟩ := asI_iff.1 e4
  exact (s30_eq J0 s50 s51 s52 s53 s55 a0 a1 h k).mpr e5
/-- stagepost/wal.Name -/
noncomputable def s8G (J : Joins) (c29 : Int → H → (Str → H → Prop) → Prop) (c30 : Str → Int → H → (Str → H → Prop) → Prop) (a0 : Int) (h : H) (k : Str → Int → H → Prop) : Prop :=
fB (ltI a0 (Int.ofNat 1)) fun b1 =>
J.jn (fun v2 h3 =>
J.jn (fun v5 h6 =>
pickB (AV.bool b1) (AV.bool true) v5 fun b10 =>
br b10 (
k ⟨0, 0⟩ (Int.ofNat 2) h6) (
c29 a0 h6 fun s12 h11 =>
fI (wrapF .i64 (Int.sub (Int.ofNat 6) (Int.ofNat s12.len))) fun x13 =>
c30 ⟨1, 48⟩ x13 h11 fun s15 h14 =>
ck (Nat.ble (Nat.add (⟨4, 2002873389⟩ : Str).len s15.len) 9223372036854775807) (fS (Str.cat (⟨4, 2002873389⟩ : Str) s15) fun s16 =>
ck (Nat.ble (Nat.add s16.len s12.len) 9223372036854775807) (fS (Str.cat s16 s12) fun s17 =>
k s17 (Int.ofNat 0) h14)))) fun j7 =>
br b1 (
j7 skipV h3) (
asI .i64 v2 fun x8 =>
fB (ltI (Int.ofNat 999999) x8) fun b9 =>
j7 (AV.bool b9) h3)) fun j4 =>
br b1 (
j4 skipV h) (
j4 (AV.int .i64 a0) h)
noncomputable def s8 : Int → H → (Str → Int → H → Prop) → Prop := s8G J0 s29 s30
noncomputable def w8 (c : Int → H → (Str → Int → H → Prop) → Prop) : Fun := fun xs h k => arg xs fun a0 xs => noArg xs <| asI .i64 a0 fun a0 => c a0 h fun r0 r1 h => k (.tuple [(.str r0), (.int .i64 r1)]) h
theorem s8_eq (J : Joins) (c29 : Int → H → (Str → H → Prop) → Prop) (c30 : Str → Int → H → (Str → H → Prop) → Prop) (a0 : Int) (h : H) (k : AV → H → Prop) : denF ty (gam J [(29, w29 c29), (30, w30 c30)]) Tryd.f8 [(.int .i64 a0)] h k = s8G J c29 c30 a0 h (fun r0 r1 h => k (.tuple [(.str r0), (.int .i64 r1)]) h) := by kernel_rfl
noncomputable def g8 : Fun := w8 s8
theorem g8_ok : FunOk Tryd.prog 8 g8 := (fun_ok ty_ok mixed (gam_ok (J := J0) (tab_cons g29_ok (tab_cons g30_ok (tab_nil fls_fun)))) Tryd.func8 (fun args w => by simp)).imp fun xs h k e0 => by
  obtain ⟨a0, xs0, rfl, e1⟩ := arg_imp e0
  obtain ⟨rfl, e2⟩ := noArg_imp e1
  obtain ⟨a0, rfl, e3⟩ := asI_iff.1 e2
  exact (s8_eq J0 s29 s30 a0 h k).mpr e3
/-- stagepost/vfs.New -/
noncomputable def s12G (J : Joins) (a0 : Int) (h : H) (k : AV → Int → H → Prop) : Prop :=
fB (ltI a0 (Int.ofNat 0)) fun b1 =>
J.jn (fun v2 h3 =>
J.jn (fun v5 h6 =>
pickB (AV.bool b1) (AV.bool true) v5 fun b10 =>
br b10 (
k AV.nilp (Int.ofNat 2) h6) (
pushK (.smap []) h6 fun n11 h12 =>
pushK (.smap []) h12 fun n13 h14 =>
ck (Nat.beq (List.length [(AV.map n11), (AV.map n13)]) 2) (op' (lputAt 0 [(AV.map n11), (AV.map n13)] [(.nilm), (.nilm), (.nils), (.int .i64 0), (.int .i64 0), (.bool false), (.bool false), (.int .i64 0), (.int .i64 0), (.bool false)]) fun l15 =>
op' (lputAt 3 [(AV.int .i64 a0)] l15) fun l16 =>
op' (lputAt 9 [(AV.bool true)] l16) fun l17 =>
pushK (.cells false 79 l17) h14 fun n18 h19 =>
k (AV.ptr n18 0) (Int.ofNat 0) h19))) fun j7 =>
br b1 (
j7 skipV h3) (
asI .i64 v2 fun x8 =>
fB (ltI (Int.ofNat 1073741824) x8) fun b9 =>
j7 (AV.bool b9) h3)) fun j4 =>
br b1 (
j4 skipV h) (
j4 (AV.int .i64 a0) h)
noncomputable def s12 : Int → H → (AV → Int → H → Prop) → Prop := s12G J0 
noncomputable def w12 (c : Int → H → (AV → Int → H → Prop) → Prop) : Fun := fun xs h k => arg xs fun a0 xs => noArg xs <| asI .i64 a0 fun a0 => c a0 h fun r0 r1 h => k (.tuple [r0, (.int .i64 r1)]) h
theorem s12_eq (J : Joins) (a0 : Int) (h : H) (k : AV → H → Prop) : denF ty (gam J []) Tryd.f12 [(.int .i64 a0)] h k = s12G J  a0 h (fun r0 r1 h => k (.tuple [r0, (.int .i64 r1)]) h) := by kernel_rfl
noncomputable def g12 : Fun := w12 s12
theorem g12_ok : FunOk Tryd.prog 12 g12 := (fun_ok ty_ok mixed (gam_ok (J := J0) (tab_nil fls_fun)) Tryd.func12 (fun args w => by simp)).imp fun xs h k e0 => by
  obtain ⟨a0, xs0, rfl, e1⟩ := arg_imp e0
  obtain ⟨rfl, e2⟩ := noArg_imp e1
  obtain ⟨a0, rfl, e3⟩ := asI_iff.1 e2
  exact (s12_eq J0  a0 h k).mpr e3
/-- stagepost/vfs.named -/
noncomputable def s48G (J : Joins) (a0 : Str) (h : H) (k : Bool → H → Prop) : Prop :=
fB (Str.beq a0 (⟨0, 0⟩ : Str)) fun b1 =>
J.jn (fun v2 h3 =>
J.jn (fun v5 h6 =>
J.jn (fun v9 h10 =>
pickB (AV.bool b1) (AV.bool true) v9 fun b14 =>
br b14 (
k false h10) (
J.lp (α := AV × AV × AV × Unit) (fun r18 v15 d16 h17 =>
asI .i64 v15.2.2.1 fun x19 =>
asI .i64 v15.2.1 fun x20 =>
fB (ltI x19 x20) fun b21 =>
br b21 (
ixsK v15.1 v15.2.2.1 fun x22 =>
fB (ltI x22 (Int.ofNat 33)) fun b23 =>
J.jn (fun v24 h25 =>
J.jn (fun v27 h28 =>
J.jn (fun v30 h31 =>
J.jn (fun v34 h35 =>
pickB (AV.bool b23) (AV.bool true) v34 fun b39 =>
br b39 (
leaveK (gam J []) d16 h35 fun h40 =>
k false h40) (
asI .i64 v15.2.2.1 fun x41 =>
fI (wrapF .i64 (Int.add x41 (Int.ofNat 1))) fun x42 =>
r18 (v15.1, v15.2.1, (AV.int .i64 x42), ()) d16 h35)) fun j36 =>
br b23 (
j36 skipV h31) (
asI .u8 v30 fun x37 =>
fB (ltI (Int.ofNat 126) x37) fun b38 =>
j36 (AV.bool b38) h31)) fun j32 =>
br b23 (
j32 skipV h28) (
ixsK v24 v27 fun x33 =>
j32 (AV.int .u8 x33) h28)) fun j29 =>
br b23 (
j29 skipV h25) (
j29 v15.2.2.1 h25)) fun j26 =>
br b23 (
j26 skipV h17) (
j26 v15.1 h17)) (
leaveK (gam J []) d16 h17 fun h43 =>
k true h43)) ((AV.str a0), (AV.int .i64 (Int.ofNat a0.len)), (AV.int .i64 (Int.ofNat 0)), ()) [] h10)) fun j11 =>
br b1 (
j11 skipV h6) (
asI .i64 v5 fun x12 =>
fB (ltI (Int.ofNat 32) x12) fun b13 =>
j11 (AV.bool b13) h6)) fun j7 =>
br b1 (
j7 skipV h3) (
asS v2 fun s8 =>
j7 (AV.int .i64 (Int.ofNat s8.len)) h3)) fun j4 =>
br b1 (
j4 skipV h) (
j4 (AV.str a0) h)
noncomputable def s48 : Str → H → (Bool → H → Prop) → Prop := s48G J0 
noncomputable def w48 (c : Str → H → (Bool → H → Prop) → Prop) : Fun := fun xs h k => arg xs fun a0 xs => noArg xs <| asS a0 fun a0 => c a0 h fun r0 h => k (.bool r0) h
theorem s48_eq (J : Joins) (a0 : Str) (h : H) (k : AV → H → Prop) : denF ty (gam J []) Tryd.f48 [(.str a0)] h k = s48G J  a0 h (fun r0 h => k (.bool r0) h) := by kernel_rfl
noncomputable def g48 : Fun := w48 s48
theorem g48_ok : FunOk Tryd.prog 48 g48 := (fun_ok ty_ok mixed (gam_ok (J := J0) (tab_nil fls_fun)) Tryd.func48 (fun args w => by simp)).imp fun xs h k e0 => by
  obtain ⟨a0, xs0, rfl, e1⟩ := arg_imp e0
  obtain ⟨rfl, e2⟩ := noArg_imp e1
  obtain ⟨a0, rfl, e3⟩ := asS_iff.1 e2
  exact (s48_eq J0  a0 h k).mpr e3
/-- (*stagepost/vfs.FS).asked -/
noncomputable def s42G (J : Joins) (c48 : Str → H → (Bool → H → Prop) → Prop) (a0 : AV) (a1 : AV) (h : H) (k : Int → H → Prop) : Prop :=
nilB 0 a0 fun b1 =>
J.jn (fun v2 h3 =>
J.jn (fun v5 h6 =>
J.jn (fun v8 h9 =>
J.jn (fun v12 h13 =>
J.jn (fun v16 h17 =>
pickB (AV.bool b1) (AV.bool true) v16 fun b21 =>
br b21 (
k (Int.ofNat 1) h17) (
okNil a0 (
faK 5 a0 fun p22 =>
ldB p22 h17 fun b23 =>
br b23 (
k (Int.ofNat 7) h17) (
lenK a1 fun x24 =>
J.lp (α := AV × AV × AV × Unit) (fun r28 v25 d26 h27 =>
asI .i64 v25.2.2.1 fun x29 =>
asI .i64 v25.2.1 fun x30 =>
fB (ltI x29 x30) fun b31 =>
br b31 (
ixK 1 v25.1 v25.2.2.1 fun p32 =>
ldS p32 h27 fun s33 =>
c48 s33 h27 fun b35 h34 =>
fB (Bool.not b35) fun b36 =>
br b36 (
leaveK (gam J [(48, w48 c48)]) d26 h34 fun h37 =>
k (Int.ofNat 2) h37) (
asI .i64 v25.2.2.1 fun x38 =>
fI (wrapF .i64 (Int.add x38 (Int.ofNat 1))) fun x39 =>
r28 (v25.1, v25.2.1, (AV.int .i64 x39), ()) d26 h34)) (
leaveK (gam J [(48, w48 c48)]) d26 h27 fun h40 =>
k (Int.ofNat 0) h40)) (a1, (AV.int .i64 (Int.ofNat x24)), (AV.int .i64 (Int.ofNat 0)), ()) [] h17)))) fun j18 =>
br b1 (
j18 skipV h13) (
asB v12 fun b19 =>
fB (Bool.not b19) fun b20 =>
j18 (AV.bool b20) h13)) fun j14 =>
br b1 (
j14 skipV h9) (
ldB v8 h9 fun b15 =>
j14 (AV.bool b15) h9)) fun j10 =>
br b1 (
j10 skipV h6) (
faK 9 v5 fun p11 =>
j10 p11 h6)) fun j7 =>
br b1 (
j7 skipV h3) (
okNil v2 (
j7 v2 h3))) fun j4 =>
br b1 (
j4 skipV h) (
j4 a0 h)
noncomputable def s42 : AV → AV → H → (Int → H → Prop) → Prop := s42G J0 s48
noncomputable def w42 (c : AV → AV → H → (Int → H → Prop) → Prop) : Fun := fun xs h k => arg xs fun a0 xs => arg xs fun a1 xs => noArg xs <| c a0 a1 h fun r0 h => k (.int .i64 r0) h
theorem s42_eq (J : Joins) (c48 : Str → H → (Bool → H → Prop) → Prop) (a0 : AV) (a1 : AV) (h : H) (k : AV → H → Prop) : denF ty (gam J [(48, w48 c48)]) Tryd.f42 [a0, a1] h k = s42G J c48 a0 a1 h (fun r0 h => k (.int .i64 r0) h) := by kernel_rfl
noncomputable def g42 : Fun := w42 s42
theorem g42_ok : FunOk Tryd.prog 42 g42 := (fun_ok ty_ok mixed (gam_ok (J := J0) (tab_cons g48_ok (tab_nil fls_fun))) Tryd.func42 (fun args w => by simp)).imp fun xs h k e0 => by
  obtain ⟨a0, xs0, rfl, e1⟩ := arg_imp e0
  obtain ⟨a1, xs1, rfl, e2⟩ := arg_imp e1
  obtain ⟨rfl, e3⟩ := noArg_imp e2
  exact (s42_eq J0 s48 a0 a1 h k).mpr e3
/-- s42, of which less may be asked -/
def up42 : AV → AV → H → (Int → H → Prop) → Prop := fun a0 a1 h k => ∃ K : Int → H → Prop, s42 a0 a1 h K ∧ ∀ r0 h', K r0 h' → k r0 h'
theorem up42_ok : FunOk Tryd.prog 42 (w42 up42) := g42_ok.up fun xs h k e0 => by
  obtain ⟨a0, xs0, rfl, e1⟩ := arg_imp e0
  obtain ⟨a1, xs1, rfl, e2⟩ := arg_imp e1
  obtain ⟨rfl, e3⟩ := noArg_imp e2
  obtain ⟨K, q1, q2⟩ := e3
  refine ⟨fun r h' => ∃ r0, r = (.int .i64 r0) ∧ K r0 h', ?_, ?_⟩
  · have hK : (fun r0 h' => ∃ r0', ((.int .i64 r0) : AV) = (.int .i64 r0') ∧ K r0' h') = K := by funext r0 h'; apply propext; simp
    exact (congrArg (s42 a0 a1 h) hK).mpr q1
  · rintro r h' ⟨r0, rfl, q3⟩; exact q2 _ _ q3
/-- slices.Clone[[]byte,byte] -/
noncomputable def s45G (J : Joins) (a0 : AV) (h : H) (k : AV → H → Prop) : Prop :=
nilB 2 a0 fun b1 =>
br b1 (
k AV.nils h) (
op' (asRow true 5 []) fun k4 =>
pushK k4 h fun n2 h3 =>
apB (.slice 5) 5 (AV.slice n2 0 0 0 1 true) a0 h3 fun v5 h6 =>
k v5 h6)
noncomputable def s45 : AV → H → (AV → H → Prop) → Prop := s45G J0 
noncomputable def w45 (c : AV → H → (AV → H → Prop) → Prop) : Fun := fun xs h k => arg xs fun a0 xs => noArg xs <| c a0 h fun r0 h => k r0 h
theorem s45_eq (J : Joins) (a0 : AV) (h : H) (k : AV → H → Prop) : denF ty (gam J []) Tryd.f45 [a0] h k = s45G J  a0 h (fun r0 h => k r0 h) := by kernel_rfl
noncomputable def g45 : Fun := w45 s45
theorem g45_ok : FunOk Tryd.prog 45 g45 := (fun_ok ty_ok mixed (gam_ok (J := J0) (tab_nil fls_fun)) Tryd.func45 (fun args w => by simp)).imp fun xs h k e0 => by
  obtain ⟨a0, xs0, rfl, e1⟩ := arg_imp e0
  obtain ⟨rfl, e2⟩ := noArg_imp e1
  exact (s45_eq J0  a0 h k).mpr e2
/-- s45, of which less may be asked -/
def up45 : AV → H → (AV → H → Prop) → Prop := fun a0 h k => ∃ K : AV → H → Prop, s45 a0 h K ∧ ∀ r0 h', K r0 h' → k r0 h'
theorem up45_ok : FunOk Tryd.prog 45 (w45 up45) := g45_ok.up fun xs h k e0 => by
  obtain ⟨a0, xs0, rfl, e1⟩ := arg_imp e0
  obtain ⟨rfl, e2⟩ := noArg_imp e1
  obtain ⟨K, q1, q2⟩ := e2
  refine ⟨fun r h' => ∃ r0, r = r0 ∧ K r0 h', ?_, ?_⟩
  · have hK : (fun r0 h' => ∃ r0', (r0 : AV) = r0' ∧ K r0' h') = K := by funext r0 h'; apply propext; simp
    exact (congrArg (s45 a0 h) hK).mpr q1
  · rintro r h' ⟨r0, rfl, q3⟩; exact q2 _ _ q3
/-- (stagepost/vfs.tree).done -/
noncomputable def s43G (J : Joins) (c45 : AV → H → (AV → H → Prop) → Prop) (a0 : AV) (a1 : AV) (h : H) (k : H → Prop) : Prop :=
Go.Am.asAgg a0 fun l3 =>
pushK (.cells false 76 l3) h fun n1 h2 =>
Go.Am.asAgg a1 fun l6 =>
pushK (.cells false 94 l6) h2 fun n4 h5 =>
ldI .i64 (AV.ptr n4 0) h5 fun x7 =>
fB (eqI x7 (Int.ofNat 0)) fun b8 =>
br b8 (
ldV (AV.ptr n1 0) h5 fun v9 =>
ldI .i64 (AV.ptr n4 3) h5 fun x10 =>
ldV (AV.ptr n1 0) h5 fun v11 =>
ldI .i64 (AV.ptr n4 3) h5 fun x12 =>
op' (aLookup ty 3 22 false v11 (AV.int .i64 x12) h5) fun v13 =>
ldV (AV.ptr n4 4) h5 fun v14 =>
c45 v13 h5 fun v16 h15 =>
ck (readsSo (aLoad1 (AV.ptr n4 4) h15) v14) (
ck (readsSo (aLoad1 (AV.ptr n4 3) h15) (AV.int .i64 x10)) (
ck (readsSo (aLoad1 (AV.ptr n1 0) h15) v9) (
apB (.slice 5) 5 v16 v14 h15 fun v17 h18 =>
ck (readsSo (aLoad1 (AV.ptr n4 3) h18) (AV.int .i64 x10)) (
ck (readsSo (aLoad1 (AV.ptr n1 0) h18) v9) (
op' (mapBlk ty 3 v9 (AV.int .i64 x10) v17 h18) fun k19 =>
putK k19.1 k19.2 h18 fun h20 =>
k  h20)))))) (
fB (eqI x7 (Int.ofNat 1)) fun b21 =>
br b21 (
ldV (AV.ptr n1 1) h5 fun v22 =>
ldS (AV.ptr n4 1) h5 fun s23 =>
ldI .i64 (AV.ptr n4 3) h5 fun x24 =>
op' (mapBlk ty 9 v22 (AV.str s23) (AV.int .i64 x24) h5) fun k25 =>
putK k25.1 k25.2 h5 fun h26 =>
k  h26) (
fB (eqI x7 (Int.ofNat 2)) fun b27 =>
br b27 (
ldS (AV.ptr n4 1) h5 fun s28 =>
ldS (AV.ptr n4 2) h5 fun s29 =>
fB (Bool.not (Str.beq s28 s29)) fun b30 =>
br b30 (
ldV (AV.ptr n1 1) h5 fun v31 =>
ldS (AV.ptr n4 2) h5 fun s32 =>
ldV (AV.ptr n1 1) h5 fun v33 =>
ldS (AV.ptr n4 1) h5 fun s34 =>
op' (aLookup ty 9 3 false v33 (AV.str s34) h5) fun v35 =>
asI .i64 v35 fun x36 =>
op' (mapBlk ty 9 v31 (AV.str s32) (AV.int .i64 x36) h5) fun k37 =>
putK k37.1 k37.2 h5 fun h38 =>
ldV (AV.ptr n1 1) h38 fun v39 =>
ldS (AV.ptr n4 1) h38 fun s40 =>
delK (mapBlkD ty 9 v39 (AV.str s40) h38) h38 fun h42 =>
k  h42) (
k  h5)) (
fB (eqI x7 (Int.ofNat 3)) fun b43 =>
br b43 (
ldV (AV.ptr n1 1) h5 fun v44 =>
ldS (AV.ptr n4 1) h5 fun s45 =>
delK (mapBlkD ty 9 v44 (AV.str s45) h5) h5 fun h47 =>
k  h47) (
k  h5))))
noncomputable def s43 : AV → AV → H → (H → Prop) → Prop := s43G J0 s45
noncomputable def w43 (c : AV → AV → H → (H → Prop) → Prop) : Fun := fun xs h k => arg xs fun a0 xs => arg xs fun a1 xs => noArg xs <| c a0 a1 h fun  h => k (.tuple []) h
theorem s43_eq (J : Joins) (c45 : AV → H → (AV → H → Prop) → Prop) (a0 : AV) (a1 : AV) (h : H) (k : AV → H → Prop) : denF ty (gam J [(45, w45 c45)]) Tryd.f43 [a0, a1] h k = s43G J c45 a0 a1 h (fun  h => k (.tuple []) h) := by kernel_rfl
noncomputable def g43 : Fun := w43 s43
theorem g43_ok : FunOk Tryd.prog 43 g43 := (fun_ok ty_ok mixed (gam_ok (J := J0) (tab_cons g45_ok (tab_nil fls_fun))) Tryd.func43 (fun args w => by simp)).imp fun xs h k e0 => by
  obtain ⟨a0, xs0, rfl, e1⟩ := arg_imp e0
  obtain ⟨a1, xs1, rfl, e2⟩ := arg_imp e1
  obtain ⟨rfl, e3⟩ := noArg_imp e2
  exact (s43_eq J0 s45 a0 a1 h k).mpr e3
/-- s43, of which less may be asked -/
def up43 : AV → AV → H → (H → Prop) → Prop := fun a0 a1 h k => ∃ K : H → Prop, s43 a0 a1 h K ∧ ∀  h', K  h' → k  h'
theorem up43_ok : FunOk Tryd.prog 43 (w43 up43) := g43_ok.up fun xs h k e0 => by
  obtain ⟨a0, xs0, rfl, e1⟩ := arg_imp e0
  obtain ⟨a1, xs1, rfl, e2⟩ := arg_imp e1
  obtain ⟨rfl, e3⟩ := noArg_imp e2
  obtain ⟨K, q1, q2⟩ := e3
  refine ⟨fun r h' => r = .tuple [] ∧ K h', ?_, ?_⟩
  · have hK : (fun  h' => AV.tuple [] = .tuple [] ∧ K h') = K := by funext  h'; apply propext; simp
    exact (congrArg (s43 a0 a1 h) hK).mpr q1
  · rintro r h' ⟨rfl, q3⟩; exact q2 _ q3
/-- maps.clone -/
noncomputable def g81 : Fun := cloneF
theorem g81_ok : FunOk Tryd.prog 81 g81 := cloneF_ok Tryd.func81 (by kernel_rfl) (by kernel_rfl) (by kernel_rfl) (by kernel_rfl)
/-- maps.Clone[map[int][]byte,int,[]byte] -/
noncomputable def s66G (J : Joins) (c81 : Fun) (a0 : AV) (h : H) (k : AV → H → Prop) : Prop :=
nilB 4 a0 fun b1 =>
br b1 (
k AV.nilm h) (
c81 [(AV.iface 73 a0)] h fun v2 h3 =>
op' (aAssert ty 73 false v2) fun v4 =>
k v4 h3)
noncomputable def s66 : AV → H → (AV → H → Prop) → Prop := s66G J0 g81
noncomputable def w66 (c : AV → H → (AV → H → Prop) → Prop) : Fun := fun xs h k => arg xs fun a0 xs => noArg xs <| c a0 h fun r0 h => k r0 h
theorem s66_eq (J : Joins) (c81 : Fun) (a0 : AV) (h : H) (k : AV → H → Prop) : denF ty (gam J [(81, c81)]) Tryd.f66 [a0] h k = s66G J c81 a0 h (fun r0 h => k r0 h) := by kernel_rfl
noncomputable def g66 : Fun := w66 s66
theorem g66_ok : FunOk Tryd.prog 66 g66 := (fun_ok ty_ok mixed (gam_ok (J := J0) (tab_cons g81_ok (tab_nil fls_fun))) Tryd.func66 (fun args w => by simp)).imp fun xs h k e0 => by
  obtain ⟨a0, xs0, rfl, e1⟩ := arg_imp e0
  obtain ⟨rfl, e2⟩ := noArg_imp e1
  exact (s66_eq J0 g81 a0 h k).mpr e2
/-- maps.Clone[map[string]int,string,int] -/
noncomputable def s67G (J : Joins) (c81 : Fun) (a0 : AV) (h : H) (k : AV → H → Prop) : Prop :=
nilB 4 a0 fun b1 =>
br b1 (
k AV.nilm h) (
c81 [(AV.iface 74 a0)] h fun v2 h3 =>
op' (aAssert ty 74 false v2) fun v4 =>
k v4 h3)
noncomputable def s67 : AV → H → (AV → H → Prop) → Prop := s67G J0 g81
noncomputable def w67 (c : AV → H → (AV → H → Prop) → Prop) : Fun := fun xs h k => arg xs fun a0 xs => noArg xs <| c a0 h fun r0 h => k r0 h
theorem s67_eq (J : Joins) (c81 : Fun) (a0 : AV) (h : H) (k : AV → H → Prop) : denF ty (gam J [(81, c81)]) Tryd.f67 [a0] h k = s67G J c81 a0 h (fun r0 h => k r0 h) := by kernel_rfl
noncomputable def g67 : Fun := w67 s67
theorem g67_ok : FunOk Tryd.prog 67 g67 := (fun_ok ty_ok mixed (gam_ok (J := J0) (tab_cons g81_ok (tab_nil fls_fun))) Tryd.func67 (fun args w => by simp)).imp fun xs h k e0 => by
  obtain ⟨a0, xs0, rfl, e1⟩ := arg_imp e0
  obtain ⟨rfl, e2⟩ := noArg_imp e1
  exact (s67_eq J0 g81 a0 h k).mpr e2
/-- (*stagepost/vfs.FS).held -/
noncomputable def s46G (J : Joins) (c43 : AV → AV → H → (H → Prop) → Prop) (c66 : AV → H → (AV → H → Prop) → Prop) (c67 : AV → H → (AV → H → Prop) → Prop) (a0 : AV) (h : H) (k : AV → H → Prop) : Prop :=
pushK (.cells false 76 [(.nilm), (.nilm)]) h fun n1 h2 =>
okNil a0 (
faK 0 a0 fun p3 =>
faK 0 p3 fun p4 =>
ldV p4 h2 fun v5 =>
okNil a0 (
faK 0 a0 fun p6 =>
faK 1 p6 fun p7 =>
ldV p7 h2 fun v8 =>
pushK (.cells false 76 [(.nilm), (.nilm)]) h2 fun n9 h10 =>
c66 v5 h10 fun v12 h11 =>
ck (readsSo (aLoad1 p7 h11) v8) (
c67 v8 h11 fun v14 h13 =>
ck (isOne v12) (ck (isOne v14) (stN 2 (AV.ptr n9 0) [v12, v14] h13 fun h15 =>
okNil a0 (
faK 2 a0 fun p16 =>
ldV p16 h15 fun v17 =>
lenK v17 fun x18 =>
J.lp (α := AV × AV × AV × AV × AV × Unit) (fun r22 v19 d20 h21 =>
asI .i64 v19.2.2.2.2.1 fun x23 =>
asI .i64 v19.2.2.2.1 fun x24 =>
fB (ltI x23 x24) fun b25 =>
br b25 (
ixK 5 v19.2.2.1 v19.2.2.2.2.1 fun p26 =>
ldN 5 p26 h21 fun l27 =>
pushK (.cells false 94 [(.int .i64 0), (.str ⟨0, 0⟩), (.str ⟨0, 0⟩), (.int .i64 0), (.nils)]) h21 fun n28 h29 =>
stN 5 (AV.ptr n28 0) l27 h29 fun h30 =>
ldN 2 v19.2.1 h30 fun l31 =>
ldN 5 (AV.ptr n28 0) h30 fun l32 =>
c43 (AV.agg l31) (AV.agg l32) h30 fun  h33 =>
asI .i64 v19.2.2.2.2.1 fun x34 =>
fI (wrapF .i64 (Int.add x34 (Int.ofNat 1))) fun x35 =>
r22 (v19.1, v19.2.1, v19.2.2.1, v19.2.2.2.1, (AV.int .i64 x35), ()) d20 h33) (
ldN 2 v19.2.1 h21 fun l36 =>
stN 2 v19.1 l36 h21 fun h37 =>
leaveK (gam J [(43, w43 c43), (66, w66 c66), (67, w67 c67)]) d20 h37 fun h38 =>
ldN 2 v19.1 h38 fun l39 =>
k (AV.agg l39) h38)) ((AV.ptr n1 0), (AV.ptr n9 0), v17, (AV.int .i64 (Int.ofNat x18)), (AV.int .i64 (Int.ofNat 0)), ()) [] h15))))))
noncomputable def s46 : AV → H → (AV → H → Prop) → Prop := s46G J0 s43 s66 s67
noncomputable def w46 (c : AV → H → (AV → H → Prop) → Prop) : Fun := fun xs h k => arg xs fun a0 xs => noArg xs <| c a0 h fun r0 h => k r0 h
theorem s46_eq (J : Joins) (c43 : AV → AV → H → (H → Prop) → Prop) (c66 : AV → H → (AV → H → Prop) → Prop) (c67 : AV → H → (AV → H → Prop) → Prop) (a0 : AV) (h : H) (k : AV → H → Prop) : denF ty (gam J [(43, w43 c43), (66, w66 c66), (67, w67 c67)]) Tryd.f46 [a0] h k = s46G J c43 c66 c67 a0 h (fun r0 h => k r0 h) := by kernel_rfl
noncomputable def g46 : Fun := w46 s46
theorem g46_ok : FunOk Tryd.prog 46 g46 := (fun_ok ty_ok mixed (gam_ok (J := J0) (tab_cons g43_ok (tab_cons g66_ok (tab_cons g67_ok (tab_nil fls_fun))))) Tryd.func46 (fun args w => by simp)).imp fun xs h k e0 => by
  obtain ⟨a0, xs0, rfl, e1⟩ := arg_imp e0
  obtain ⟨rfl, e2⟩ := noArg_imp e1
  exact (s46_eq J0 s43 s66 s67 a0 h k).mpr e2
/-- s46, of which less may be asked -/
def up46 : AV → H → (AV → H → Prop) → Prop := fun a0 h k => ∃ K : AV → H → Prop, s46 a0 h K ∧ ∀ r0 h', K r0 h' → k r0 h'
theorem up46_ok : FunOk Tryd.prog 46 (w46 up46) := g46_ok.up fun xs h k e0 => by
  obtain ⟨a0, xs0, rfl, e1⟩ := arg_imp e0
  obtain ⟨rfl, e2⟩ := noArg_imp e1
  obtain ⟨K, q1, q2⟩ := e2
  refine ⟨fun r h' => ∃ r0, r = r0 ∧ K r0 h', ?_, ?_⟩
  · have hK : (fun r0 h' => ∃ r0', (r0 : AV) = r0' ∧ K r0' h') = K := by funext r0 h'; apply propext; simp
    exact (congrArg (s46 a0 h) hK).mpr q1
  · rintro r h' ⟨r0, rfl, q3⟩; exact q2 _ _ q3
/-- (*stagepost/vfs.FS).file -/
noncomputable def s44G (J : Joins) (c42 : AV → AV → H → (Int → H → Prop) → Prop) (c46 : AV → H → (AV → H → Prop) → Prop) (a0 : AV) (a1 : Str) (h : H) (k : Int → Int → H → Prop) : Prop :=
pushK (.cells false 9 [(AV.str a1)]) h fun n1 h2 =>
c42 a0 (AV.slice n1 0 1 1 1 true) h2 fun x4 h3 =>
fB (Bool.not (eqI x4 (Int.ofNat 0))) fun b5 =>
br b5 (
k (Int.ofNat 0) x4 h3) (
c46 a0 h3 fun v7 h6 =>
Go.Am.asAgg v7 fun l8 =>
op' (lgetO l8 1) fun v9 =>
op' (aLookup ty 9 3 true v9 (AV.str a1) h6) fun v10 =>
asTup v10 fun l11 =>
op' (lgetO l11 0) fun v12 =>
asI .i64 v12 fun x13 =>
asTup v10 fun l14 =>
op' (lgetO l14 1) fun v15 =>
asB v15 fun b16 =>
fB (Bool.not b16) fun b17 =>
br b17 (
k (Int.ofNat 0) (Int.ofNat 4) h6) (
k x13 (Int.ofNat 0) h6))
noncomputable def s44 : AV → Str → H → (Int → Int → H → Prop) → Prop := s44G J0 s42 s46
noncomputable def w44 (c : AV → Str → H → (Int → Int → H → Prop) → Prop) : Fun := fun xs h k => arg xs fun a0 xs => arg xs fun a1 xs => noArg xs <| asS a1 fun a1 => c a0 a1 h fun r0 r1 h => k (.tuple [(.int .i64 r0), (.int .i64 r1)]) h
theorem s44_eq (J : Joins) (c42 : AV → AV → H → (Int → H → Prop) → Prop) (c46 : AV → H → (AV → H → Prop) → Prop) (a0 : AV) (a1 : Str) (h : H) (k : AV → H → Prop) : denF ty (gam J [(42, w42 c42), (46, w46 c46)]) Tryd.f44 [a0, (.str a1)] h k = s44G J c42 c46 a0 a1 h (fun r0 r1 h => k (.tuple [(.int .i64 r0), (.int .i64 r1)]) h) := by kernel_rfl
noncomputable def g44 : Fun := w44 s44
theorem g44_ok : FunOk Tryd.prog 44 g44 := (fun_ok ty_ok mixed (gam_ok (J := J0) (tab_cons g42_ok (tab_cons g46_ok (tab_nil fls_fun)))) Tryd.func44 (fun args w => by simp)).imp fun xs h k e0 => by
  obtain ⟨a0, xs0, rfl, e1⟩ := arg_imp e0
  obtain ⟨a1, xs1, rfl, e2⟩ := arg_imp e1
  obtain ⟨rfl, e3⟩ := noArg_imp e2
  obtain ⟨a1, rfl, e4⟩ := asS_iff.1 e3
  exact (s44_eq J0 s42 s46 a0 a1 h k).mpr e4
/-- (*stagepost/vfs.FS).Read -/
noncomputable def s23G (J : Joins) (c44 : AV → Str → H → (Int → Int → H → Prop) → Prop) (c45 : AV → H → (AV → H → Prop) → Prop) (c46 : AV → H → (AV → H → Prop) → Prop) (a0 : AV) (a1 : Str) (h : H) (k : AV → Int → H → Prop) : Prop :=
c44 a0 a1 h fun x2 x3 h1 =>
fB (Bool.not (eqI x3 (Int.ofNat 0))) fun b4 =>
br b4 (
k AV.nils x3 h1) (
c46 a0 h1 fun v6 h5 =>
Go.Am.asAgg v6 fun l7 =>
op' (lgetO l7 0) fun v8 =>
op' (aLookup ty 3 22 false v8 (AV.int .i64 x2) h5) fun v9 =>
c45 v9 h5 fun v11 h10 =>
k v11 (Int.ofNat 0) h10)
noncomputable def s23 : AV → Str → H → (AV → Int → H → Prop) → Prop := s23G J0 s44 s45 s46
noncomputable def w23 (c : AV → Str → H → (AV → Int → H → Prop) → Prop) : Fun := fun xs h k => arg xs fun a0 xs => arg xs fun a1 xs => noArg xs <| asS a1 fun a1 => c a0 a1 h fun r0 r1 h => k (.tuple [r0, (.int .i64 r1)]) h
theorem s23_eq (J : Joins) (c44 : AV → Str → H → (Int → Int → H → Prop) → Prop) (c45 : AV → H → (AV → H → Prop) → Prop) (c46 : AV → H → (AV → H → Prop) → Prop) (a0 : AV) (a1 : Str) (h : H) (k : AV → H → Prop) : denF ty (gam J [(44, w44 c44), (45, w45 c45), (46, w46 c46)]) Tryd.f23 [a0, (.str a1)] h k = s23G J c44 c45 c46 a0 a1 h (fun r0 r1 h => k (.tuple [r0, (.int .i64 r1)]) h) := by kernel_rfl
noncomputable def g23 : Fun := w23 s23
theorem g23_ok : FunOk Tryd.prog 23 g23 := (fun_ok ty_ok mixed (gam_ok (J := J0) (tab_cons g44_ok (tab_cons g45_ok (tab_cons g46_ok (tab_nil fls_fun))))) Tryd.func23 (fun args w => by simp)).imp fun xs h k e0 => by
  obtain ⟨a0, xs0, rfl, e1⟩ := arg_imp e0
  obtain ⟨a1, xs1, rfl, e2⟩ := arg_imp e1
  obtain ⟨rfl, e3⟩ := noArg_imp e2
  obtain ⟨a1, rfl, e4⟩ := asS_iff.1 e3
  exact (s23_eq J0 s44 s45 s46 a0 a1 h k).mpr e4
/-- stagepost/wal.off -/
noncomputable def s32G (J : Joins) (c23 : AV → Str → H → (AV → Int → H → Prop) → Prop) (a0 : AV) (h : H) (k : Int → H → Prop) : Prop :=
c23 a0 ⟨3, 6385273⟩ h fun v2 x3 h1 =>
fB (eqI x3 (Int.ofNat 1)) fun b4 =>
J.jn (fun v5 h6 =>
J.jn (fun v8 h9 =>
pickB (AV.bool b4) (AV.bool true) v8 fun b13 =>
br b13 (
k x3 h9) (
k (Int.ofNat 0) h9)) fun j10 =>
br b4 (
j10 skipV h6) (
asI .i64 v5 fun x11 =>
fB (eqI x11 (Int.ofNat 7)) fun b12 =>
j10 (AV.bool b12) h6)) fun j7 =>
br b4 (
j7 skipV h1) (
j7 (AV.int .i64 x3) h1)
noncomputable def s32 : AV → H → (Int → H → Prop) → Prop := s32G J0 s23
noncomputable def w32 (c : AV → H → (Int → H → Prop) → Prop) : Fun := fun xs h k => arg xs fun a0 xs => noArg xs <| c a0 h fun r0 h => k (.int .i64 r0) h
theorem s32_eq (J : Joins) (c23 : AV → Str → H → (AV → Int → H → Prop) → Prop) (a0 : AV) (h : H) (k : AV → H → Prop) : denF ty (gam J [(23, w23 c23)]) Tryd.f32 [a0] h k = s32G J c23 a0 h (fun r0 h => k (.int .i64 r0) h) := by kernel_rfl
noncomputable def g32 : Fun := w32 s32
theorem g32_ok : FunOk Tryd.prog 32 g32 := (fun_ok ty_ok mixed (gam_ok (J := J0) (tab_cons g23_ok (tab_nil fls_fun))) Tryd.func32 (fun args w => by simp)).imp fun xs h k e0 => by
  obtain ⟨a0, xs0, rfl, e1⟩ := arg_imp e0
  obtain ⟨rfl, e2⟩ := noArg_imp e1
  exact (s32_eq J0 s23 a0 h k).mpr e2
/-- stagepost/wal.held -/
noncomputable def s33G (J : Joins) (c8 : Int → H → (Str → Int → H → Prop) → Prop) (c23 : AV → Str → H → (AV → Int → H → Prop) → Prop) (a0 : AV) (a1 : Int) (h : H) (k : Bool → H → Prop) : Prop :=
c8 a1 h fun s2 x3 h1 =>
fB (Bool.not (eqI x3 (Int.ofNat 0))) fun b4 =>
br b4 (
k false h1) (
c23 a0 s2 h1 fun v6 x7 h5 =>
fB (eqI x7 (Int.ofNat 0)) fun b8 =>
k b8 h5)
noncomputable def s33 : AV → Int → H → (Bool → H → Prop) → Prop := s33G J0 s8 s23
noncomputable def w33 (c : AV → Int → H → (Bool → H → Prop) → Prop) : Fun := fun xs h k => arg xs fun a0 xs => arg xs fun a1 xs => noArg xs <| asI .i64 a1 fun a1 => c a0 a1 h fun r0 h => k (.bool r0) h
theorem s33_eq (J : Joins) (c8 : Int → H → (Str → Int → H → Prop) → Prop) (c23 : AV → Str → H → (AV → Int → H → Prop) → Prop) (a0 : AV) (a1 : Int) (h : H) (k : AV → H → Prop) : denF ty (gam J [(8, w8 c8), (23, w23 c23)]) Tryd.f33 [a0, (.int .i64 a1)] h k = s33G J c8 c23 a0 a1 h (fun r0 h => k (.bool r0) h) := by kernel_rfl
noncomputable def g33 : Fun := w33 s33
theorem g33_ok : FunOk Tryd.prog 33 g33 := (fun_ok ty_ok mixed (gam_ok (J := J0) (tab_cons g8_ok (tab_cons g23_ok (tab_nil fls_fun)))) Tryd.func33 (fun args w => by simp)).imp fun xs h k e0 => by
  obtain ⟨a0, xs0, rfl, e1⟩ := arg_imp e0
  obtain ⟨a1, xs1, rfl, e2⟩ := arg_imp e1
  obtain ⟨rfl, e3⟩ := noArg_imp e2
  obtain ⟨a1, rfl, e4⟩ := asI_iff.1 e3
  exact (s33_eq J0 s8 s23 a0 a1 h k).mpr e4
/-- stagepost/crc.More -/
noncomputable def s90G (J : Joins) (a0 : Int) (a1 : AV) (h : H) (k : Int → H → Prop) : Prop :=
op' (aUn .xor (AV.int .u32 a0)) fun v1 =>
asI .u32 v1 fun x2 =>
lenK a1 fun x3 =>
J.lp (α := AV × AV × AV × AV × Unit) (fun r7 v4 d5 h6 =>
asI .i64 v4.2.2.2.1 fun x8 =>
asI .i64 v4.2.2.1 fun x9 =>
fB (ltI x8 x9) fun b10 =>
br b10 (
ixK 1 v4.2.1 v4.2.2.2.1 fun p11 =>
ldI .u8 p11 h6 fun x12 =>
fI (wrapF .u32 x12) fun x13 =>
asI .u32 v4.1 fun x14 =>
fI (lxorF .u32 x14 x13) fun x15 =>
J.lp (α := AV × AV × AV × AV × AV × Unit) (fun r19 v16 d17 h18 =>
asI .i64 v16.2.2.2.2.1 fun x20 =>
fB (ltI x20 (Int.ofNat 8)) fun b21 =>
br b21 (
J.jd (α := AV × AV × AV × AV × AV × Unit) (fun v22 d23 h24 =>
asI .i64 v22.2.2.2.2.1 fun x26 =>
fI (wrapF .i64 (Int.add x26 (Int.ofNat 1))) fun x27 =>
r19 (v22.1, v22.2.1, v22.2.2.1, v22.2.2.2.1, (AV.int .i64 x27), ()) d23 h24) fun j25 =>
asI .u32 v16.1 fun x28 =>
fI (landF .u32 x28 (Int.ofNat 1)) fun x29 =>
asI .u32 v16.1 fun x30 =>
fI (shrF x30 (nmin 1 (IntKind.bits .u32))) fun x31 =>
fB (eqI x29 (Int.ofNat 1)) fun b32 =>
br b32 (
fI (lxorF .u32 x31 (Int.ofNat 2197175160)) fun x33 =>
j25 ((AV.int .u32 x33), v16.2.1, v16.2.2.1, v16.2.2.2.1, v16.2.2.2.2.1, ()) d17 h18) (
j25 ((AV.int .u32 x31), v16.2.1, v16.2.2.1, v16.2.2.2.1, v16.2.2.2.2.1, ()) d17 h18)) (
asI .i64 v16.2.2.2.1 fun x34 =>
fI (wrapF .i64 (Int.add x34 (Int.ofNat 1))) fun x35 =>
r7 (v16.1, v16.2.1, v16.2.2.1, (AV.int .i64 x35), ()) d17 h18)) ((AV.int .u32 x15), v4.2.1, v4.2.2.1, v4.2.2.2.1, (AV.int .i64 (Int.ofNat 0)), ()) d5 h6) (
op' (aUn .xor v4.1) fun v36 =>
asI .u32 v36 fun x37 =>
leaveK (gam J []) d5 h6 fun h38 =>
k x37 h38)) ((AV.int .u32 x2), a1, (AV.int .i64 (Int.ofNat x3)), (AV.int .i64 (Int.ofNat 0)), ()) [] h
noncomputable def s90 : Int → AV → H → (Int → H → Prop) → Prop := s90G J0 
noncomputable def w90 (c : Int → AV → H → (Int → H → Prop) → Prop) : Fun := fun xs h k => arg xs fun a0 xs => arg xs fun a1 xs => noArg xs <| asI .u32 a0 fun a0 => c a0 a1 h fun r0 h => k (.int .u32 r0) h
theorem s90_eq (J : Joins) (a0 : Int) (a1 : AV) (h : H) (k : AV → H → Prop) : denF ty (gam J []) Tryd.f90 [(.int .u32 a0), a1] h k = s90G J  a0 a1 h (fun r0 h => k (.int .u32 r0) h) := by kernel_rfl
noncomputable def g90 : Fun := w90 s90
theorem g90_ok : FunOk Tryd.prog 90 g90 := (fun_ok ty_ok mixed (gam_ok (J := J0) (tab_nil fls_fun)) Tryd.func90 (fun args w => by simp)).imp fun xs h k e0 => by
  obtain ⟨a0, xs0, rfl, e1⟩ := arg_imp e0
  obtain ⟨a1, xs1, rfl, e2⟩ := arg_imp e1
  obtain ⟨rfl, e3⟩ := noArg_imp e2
  obtain ⟨a0, rfl, e4⟩ := asI_iff.1 e3
  exact (s90_eq J0  a0 a1 h k).mpr e4
/-- stagepost/crc.Sum -/
noncomputable def s78G (J : Joins) (c90 : Int → AV → H → (Int → H → Prop) → Prop) (a0 : AV) (h : H) (k : Int → H → Prop) : Prop :=
c90 (Int.ofNat 0) a0 h fun x2 h1 =>
k x2 h1
noncomputable def s78 : AV → H → (Int → H → Prop) → Prop := s78G J0 s90
noncomputable def w78 (c : AV → H → (Int → H → Prop) → Prop) : Fun := fun xs h k => arg xs fun a0 xs => noArg xs <| c a0 h fun r0 h => k (.int .u32 r0) h
theorem s78_eq (J : Joins) (c90 : Int → AV → H → (Int → H → Prop) → Prop) (a0 : AV) (h : H) (k : AV → H → Prop) : denF ty (gam J [(90, w90 c90)]) Tryd.f78 [a0] h k = s78G J c90 a0 h (fun r0 h => k (.int .u32 r0) h) := by kernel_rfl
noncomputable def g78 : Fun := w78 s78
theorem g78_ok : FunOk Tryd.prog 78 g78 := (fun_ok ty_ok mixed (gam_ok (J := J0) (tab_cons g90_ok (tab_nil fls_fun))) Tryd.func78 (fun args w => by simp)).imp fun xs h k e0 => by
  obtain ⟨a0, xs0, rfl, e1⟩ := arg_imp e0
  obtain ⟨rfl, e2⟩ := noArg_imp e1
  exact (s78_eq J0 s90 a0 h k).mpr e2
/-- stagepost/crc.Sealed -/
noncomputable def s60G (J : Joins) (c78 : AV → H → (Int → H → Prop) → Prop) (a0 : AV) (h : H) (k : AV → H → Prop) : Prop :=
apB (.slice 5) 5 AV.nils a0 h fun v1 h2 =>
c78 a0 h2 fun x4 h3 =>
J.lp (α := AV × AV × AV × Unit) (fun r8 v5 d6 h7 =>
asI .i64 v5.2.2.1 fun x9 =>
fB (ltI x9 (Int.ofNat 4)) fun b10 =>
br b10 (
asI .i64 v5.2.2.1 fun x11 =>
fI (wrapF .i64 (Int.mul (Int.ofNat 8) x11)) fun x12 =>
asI .u32 v5.2.1 fun x13 =>
asNat (AV.int .i64 x12) fun n14 =>
fI (shrF x13 (nmin n14 (IntKind.bits .u32))) fun x15 =>
fI (wrapF .u8 x15) fun x16 =>
op' (asRow true 5 [(AV.int .u8 x16)]) fun k19 =>
pushK k19 h7 fun n17 h18 =>
apB (.slice 5) 5 v5.1 (AV.slice n17 0 1 1 1 true) h18 fun v20 h21 =>
asI .i64 v5.2.2.1 fun x22 =>
fI (wrapF .i64 (Int.add x22 (Int.ofNat 1))) fun x23 =>
r8 (v20, v5.2.1, (AV.int .i64 x23), ()) d6 h21) (
leaveK (gam J [(78, w78 c78)]) d6 h7 fun h24 =>
k v5.1 h24)) (v1, (AV.int .u32 x4), (AV.int .i64 (Int.ofNat 0)), ()) [] h3
noncomputable def s60 : AV → H → (AV → H → Prop) → Prop := s60G J0 s78
noncomputable def w60 (c : AV → H → (AV → H → Prop) → Prop) : Fun := fun xs h k => arg xs fun a0 xs => noArg xs <| c a0 h fun r0 h => k r0 h
theorem s60_eq (J : Joins) (c78 : AV → H → (Int → H → Prop) → Prop) (a0 : AV) (h : H) (k : AV → H → Prop) : denF ty (gam J [(78, w78 c78)]) Tryd.f60 [a0] h k = s60G J c78 a0 h (fun r0 h => k r0 h) := by kernel_rfl
noncomputable def g60 : Fun := w60 s60
theorem g60_ok : FunOk Tryd.prog 60 g60 := (fun_ok ty_ok mixed (gam_ok (J := J0) (tab_cons g78_ok (tab_nil fls_fun))) Tryd.func60 (fun args w => by simp)).imp fun xs h k e0 => by
  obtain ⟨a0, xs0, rfl, e1⟩ := arg_imp e0
  obtain ⟨rfl, e2⟩ := noArg_imp e1
  exact (s60_eq J0 s78 a0 h k).mpr e2
/-- stagepost/crc.Opened -/
noncomputable def s88G (J : Joins) (c60 : AV → H → (AV → H → Prop) → Prop) (a0 : AV) (h : H) (k : AV → Bool → H → Prop) : Prop :=
lenK a0 fun x1 =>
fI (wrapF .i64 (Int.sub (Int.ofNat x1) (Int.ofNat 4))) fun x2 =>
fB (ltI x2 (Int.ofNat 0)) fun b3 =>
J.jn (fun v4 h5 =>
J.jn (fun v7 h8 =>
J.jn (fun v10 h11 =>
J.jn (fun v14 h15 =>
J.jb (fun b17 v18 =>
J.jn (fun v21 h22 =>
ck (Bool.rec (motive := fun _ => Bool) true (readsSo (aToStr v14 h22) v18) b17) (
J.jb (fun b26 v27 =>
J.jn (fun v30 h31 =>
pickB (AV.bool b3) (AV.bool true) v30 fun b36 =>
br b36 (
k AV.nils false h31) (
slK 1 a0 none (some (AV.int .i64 x2)) fun v37 =>
apB (.slice 5) 5 AV.nils v37 h31 fun v38 h39 =>
k v38 true h39)) fun j32 =>
br b3 (
j32 skipV h22) (
asS v27 fun s33 =>
asS v18 fun s34 =>
fB (Bool.not (Str.beq s33 s34)) fun b35 =>
j32 (AV.bool b35) h22)) fun j28 =>
br b3 (
j28 false skipV) (
toStrK v21 h22 fun s29 =>
j28 true (AV.str s29)))) fun j23 =>
br b3 (
j23 skipV h15) (
c60 v10 h15 fun v25 h24 =>
j23 v25 h24)) fun j19 =>
br b3 (
j19 false skipV) (
toStrK v14 h15 fun s20 =>
j19 true (AV.str s20))) fun j16 =>
br b3 (
j16 skipV h11) (
j16 a0 h11)) fun j12 =>
br b3 (
j12 skipV h8) (
slK 1 v4 none (some v7) fun v13 =>
j12 v13 h8)) fun j9 =>
br b3 (
j9 skipV h5) (
j9 (AV.int .i64 x2) h5)) fun j6 =>
br b3 (
j6 skipV h) (
j6 a0 h)
noncomputable def s88 : AV → H → (AV → Bool → H → Prop) → Prop := s88G J0 s60
noncomputable def w88 (c : AV → H → (AV → Bool → H → Prop) → Prop) : Fun := fun xs h k => arg xs fun a0 xs => noArg xs <| c a0 h fun r0 r1 h => k (.tuple [r0, (.bool r1)]) h
theorem s88_eq (J : Joins) (c60 : AV → H → (AV → H → Prop) → Prop) (a0 : AV) (h : H) (k : AV → H → Prop) : denF ty (gam J [(60, w60 c60)]) Tryd.f88 [a0] h k = s88G J c60 a0 h (fun r0 r1 h => k (.tuple [r0, (.bool r1)]) h) := by kernel_rfl
noncomputable def g88 : Fun := w88 s88
theorem g88_ok : FunOk Tryd.prog 88 g88 := (fun_ok ty_ok mixed (gam_ok (J := J0) (tab_cons g60_ok (tab_nil fls_fun))) Tryd.func88 (fun args w => by simp)).imp fun xs h k e0 => by
  obtain ⟨a0, xs0, rfl, e1⟩ := arg_imp e0
  obtain ⟨rfl, e2⟩ := noArg_imp e1
  exact (s88_eq J0 s60 a0 h k).mpr e2
/-- stagepost/frame.Read -/
noncomputable def g74 : Fun := denF ty (gam J0 [(88, g88)]) Tryd.f74
theorem g74_ok : FunOk Tryd.prog 74 g74 := fun_ok ty_ok mixed (gam_ok (J := J0) (tab_cons g88_ok (tab_nil fls_fun))) Tryd.func74 (fun args w => by simp)
/-- stagepost/frame.Scan -/
noncomputable def s56G (J : Joins) (c74 : Fun) (a0 : AV) (h : H) (k : AV → Int → Int → H → Prop) : Prop :=
J.jd (α := AV × AV × Unit) (fun v1 d2 h3 =>
leaveK (gam J [(74, c74)]) d2 h3 fun h5 =>
asI .i64 v1.2.1 fun x6 =>
k v1.1 x6 (Int.ofNat 0) h5) fun j4 =>
J.lp (α := AV × AV × AV × Unit) (fun r10 v7 d8 h9 =>
lenK v7.1 fun x11 =>
asI .i64 v7.2.2.1 fun x12 =>
fB (ltI x12 (Int.ofNat x11)) fun b13 =>
br b13 (
slK 1 v7.1 (some v7.2.2.1) none fun v14 =>
c74 [v14] h9 fun v15 h16 =>
asTup v15 fun l17 =>
op' (lgetO l17 0) fun v18 =>
asTup v15 fun l19 =>
op' (lgetO l19 1) fun v20 =>
asI .i64 v20 fun x21 =>
asTup v15 fun l22 =>
op' (lgetO l22 2) fun v23 =>
asI .i64 v23 fun x24 =>
fB (eqI x24 (Int.ofNat 0)) fun b25 =>
br b25 (
ck (isOne v18) (pushK (.cells false 22 [v18]) h16 fun n26 h27 =>
apC 22 1 24 v7.2.1 (AV.slice n26 0 1 1 1 true) h27 fun v28 h29 =>
asI .i64 v7.2.2.1 fun x30 =>
fI (wrapF .i64 (Int.add x30 x21)) fun x31 =>
lenK v7.1 fun x32 =>
fB (eqI x31 (Int.ofNat x32)) fun b33 =>
br b33 (
j4 (v28, (AV.int .i64 x31), ()) d8 h29) (
r10 (v7.1, v28, (AV.int .i64 x31), ()) d8 h29))) (
leaveK (gam J [(74, c74)]) d8 h16 fun h34 =>
asI .i64 v7.2.2.1 fun x35 =>
k v7.2.1 x35 x24 h34)) (
j4 (v7.2.1, v7.2.2.1, ()) d8 h9)) (a0, AV.nils, (AV.int .i64 (Int.ofNat 0)), ()) [] h
noncomputable def s56 : AV → H → (AV → Int → Int → H → Prop) → Prop := s56G J0 g74
noncomputable def w56 (c : AV → H → (AV → Int → Int → H → Prop) → Prop) : Fun := fun xs h k => arg xs fun a0 xs => noArg xs <| c a0 h fun r0 r1 r2 h => k (.tuple [r0, (.int .i64 r1), (.int .i64 r2)]) h
theorem s56_eq (J : Joins) (c74 : Fun) (a0 : AV) (h : H) (k : AV → H → Prop) : denF ty (gam J [(74, c74)]) Tryd.f56 [a0] h k = s56G J c74 a0 h (fun r0 r1 r2 h => k (.tuple [r0, (.int .i64 r1), (.int .i64 r2)]) h) := by kernel_rfl
noncomputable def g56 : Fun := w56 s56
theorem g56_ok : FunOk Tryd.prog 56 g56 := (fun_ok ty_ok mixed (gam_ok (J := J0) (tab_cons g74_ok (tab_nil fls_fun))) Tryd.func56 (fun args w => by simp)).imp fun xs h k e0 => by
  obtain ⟨a0, xs0, rfl, e1⟩ := arg_imp e0
  obtain ⟨rfl, e2⟩ := noArg_imp e1
  exact (s56_eq J0 g74 a0 h k).mpr e2
end Go.Proofs.YtnjiokmleoimgaaDoor
