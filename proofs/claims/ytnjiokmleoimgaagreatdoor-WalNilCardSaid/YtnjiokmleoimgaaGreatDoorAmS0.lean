/- Functions as they are reckoned. MADE BY PROGRAM (wip/tools/shal.py). -/
import Derived.Test.YtnjiokmleoimgaaGreatDoorAmTys
namespace Go.Proofs.YtnjiokmleoimgaaGreatDoor
open Go Go.Am
set_option maxRecDepth 100000
set_option linter.all false
/-- stagepost/wal.fine -/
noncomputable def s45G (J : Joins) (a0 : AV) (h : H) (k : Bool → H → Prop) : Prop :=
Go.Am.asAgg a0 fun l3 =>
pushK (.cells false 74 l3) h fun n1 h2 =>
ldS (AV.ptr n1 0) h2 fun s4 =>
fB (Bool.not (Str.beq s4 (⟨0, 0⟩ : Str))) fun b5 =>
J.jn (fun v6 h7 =>
J.jn (fun v9 h10 =>
J.jn (fun v13 h14 =>
J.jn (fun v17 h18 =>
pickB (AV.bool b5) v17 (AV.bool false) fun b22 =>
J.jn (fun v23 h24 =>
J.jn (fun v26 h27 =>
J.jn (fun v30 h31 =>
J.jn (fun v34 h35 =>
pickB (AV.bool b22) v34 (AV.bool false) fun b39 =>
J.jn (fun v40 h41 =>
J.jn (fun v43 h44 =>
J.jn (fun v47 h48 =>
J.jn (fun v52 h53 =>
J.jn (fun v55 h56 =>
J.jn (fun v58 h59 =>
J.jn (fun v62 h63 =>
J.jn (fun v67 h68 =>
pickB (AV.bool b39) v67 (AV.bool false) fun b71 =>
k b71 h68) fun j69 =>
br b39 (
pickB v52 (AV.bool true) v62 fun b70 =>
j69 (AV.bool b70) h63) (
j69 skipV h63)) fun j64 =>
asBU v52 (fun b72 =>
br b72 (
j64 skipV h59) (
asS v58 fun s65 =>
fB (Str.beq s65 (⟨0, 0⟩ : Str)) fun b66 =>
j64 (AV.bool b66) h59)) (
j64 skipV h59)) fun j60 =>
asBU v52 (fun b73 =>
br b73 (
j60 skipV h56) (
ldS v55 h56 fun s61 =>
j60 (AV.str s61) h56)) (
j60 skipV h56)) fun j57 =>
asBU v52 (fun b74 =>
br b74 (
j57 skipV h53) (
j57 (AV.ptr n1 1) h53)) (
j57 skipV h53)) fun j54 =>
br b39 (
j54 v47 h48) (
j54 skipV h48)) fun j49 =>
br b39 (
asB v43 fun b50 =>
fB (Bool.not b50) fun b51 =>
j49 (AV.bool b51) h44) (
j49 skipV h44)) fun j45 =>
br b39 (
ldB v40 h41 fun b46 =>
j45 (AV.bool b46) h41) (
j45 skipV h41)) fun j42 =>
br b39 (
j42 (AV.ptr n1 2) h35) (
j42 skipV h35)) fun j36 =>
br b22 (
asI .i64 v30 fun x37 =>
fB (Bool.not (ltI (Int.ofNat 4096) x37)) fun b38 =>
j36 (AV.bool b38) h31) (
j36 skipV h31)) fun j32 =>
br b22 (
asS v26 fun s33 =>
j32 (AV.int .i64 (Int.ofNat s33.len)) h27) (
j32 skipV h27)) fun j28 =>
br b22 (
ldS v23 h24 fun s29 =>
j28 (AV.str s29) h24) (
j28 skipV h24)) fun j25 =>
br b22 (
j25 (AV.ptr n1 1) h18) (
j25 skipV h18)) fun j19 =>
br b5 (
asI .i64 v13 fun x20 =>
fB (Bool.not (ltI (Int.ofNat 512) x20)) fun b21 =>
j19 (AV.bool b21) h14) (
j19 skipV h14)) fun j15 =>
br b5 (
asS v9 fun s16 =>
j15 (AV.int .i64 (Int.ofNat s16.len)) h10) (
j15 skipV h10)) fun j11 =>
br b5 (
ldS v6 h7 fun s12 =>
j11 (AV.str s12) h7) (
j11 skipV h7)) fun j8 =>
br b5 (
j8 (AV.ptr n1 0) h2) (
j8 skipV h2)
noncomputable def s45 : AV → H → (Bool → H → Prop) → Prop := s45G J0 
noncomputable def w45 (c : AV → H → (Bool → H → Prop) → Prop) : Fun := fun xs h k => arg xs fun a0 xs => noArg xs <| c a0 h fun r0 h => k (.bool r0) h
theorem s45_eq (J : Joins) (a0 : AV) (h : H) (k : AV → H → Prop) : denF ty (gam J []) Tryz.f45 [a0] h k = s45G J  a0 h (fun r0 h => k (.bool r0) h) := by kernel_rfl
noncomputable def g45 : Fun := w45 s45
theorem g45_ok : FunOk Tryz.prog 45 g45 := (fun_ok ty_ok mixed (gam_ok (J := J0) (tab_nil fls_fun)) Tryz.func45 (fun args w => by simp)).imp fun xs h k e0 => by
  obtain ⟨a0, xs0, rfl, e1⟩ := arg_imp e0
  obtain ⟨rfl, e2⟩ := noArg_imp e1
  exact (s45_eq J0  a0 h k).mpr e2
/-- stagepost/wal.Check -/
noncomputable def s16G (J : Joins) (c45 : AV → H → (Bool → H → Prop) → Prop) (a0 : AV) (h : H) (k : Int → H → Prop) : Prop :=
lenK a0 fun x1 =>
fB (eqI (Int.ofNat x1) (Int.ofNat 0)) fun b2 =>
br b2 (
k (Int.ofNat 2) h) (
lenK a0 fun x3 =>
fB (ltI (Int.ofNat 64) (Int.ofNat x3)) fun b4 =>
br b4 (
k (Int.ofNat 3) h) (
lenK a0 fun x5 =>
J.lp (α := AV × AV × AV × AV × Unit) (fun r9 v6 d7 h8 =>
asI .i64 v6.2.2.2.1 fun x10 =>
asI .i64 v6.2.2.1 fun x11 =>
fB (ltI x10 x11) fun b12 =>
br b12 (
ixK 3 v6.2.1 v6.2.2.2.1 fun p13 =>
ldN 3 p13 h8 fun l14 =>
pushK (.cells false 74 [(.str ⟨0, 0⟩), (.str ⟨0, 0⟩), (.bool false)]) h8 fun n15 h16 =>
stN 3 (AV.ptr n15 0) l14 h16 fun h17 =>
ldN 3 (AV.ptr n15 0) h17 fun l18 =>
c45 (AV.agg l18) h17 fun b20 h19 =>
fB (Bool.not b20) fun b21 =>
br b21 (
leaveK (gam J [(45, w45 c45)]) d7 h19 fun h22 =>
k (Int.ofNat 2) h22) (
asI .i64 v6.2.2.2.1 fun x23 =>
fI (wrapF .i64 (Int.add x23 (Int.ofNat 1))) fun x24 =>
r9 (v6.1, v6.2.1, v6.2.2.1, (AV.int .i64 x24), ()) d7 h19)) (
pushK (.smap []) h8 fun n25 h26 =>
lenK v6.1 fun x27 =>
J.lp (α := AV × AV × AV × AV × Unit) (fun r31 v28 d29 h30 =>
asI .i64 v28.2.2.2.1 fun x32 =>
asI .i64 v28.2.2.1 fun x33 =>
fB (ltI x32 x33) fun b34 =>
br b34 (
ixK 3 v28.2.1 v28.2.2.2.1 fun p35 =>
ldN 3 p35 h30 fun l36 =>
pushK (.cells false 74 [(.str ⟨0, 0⟩), (.str ⟨0, 0⟩), (.bool false)]) h30 fun n37 h38 =>
stN 3 (AV.ptr n37 0) l36 h38 fun h39 =>
ldS (AV.ptr n37 0) h39 fun s40 =>
op' (aLookup ty 9 91 true v28.1 (AV.str s40) h39) fun v41 =>
asTup v41 fun l42 =>
op' (lgetO l42 0) fun v43 =>
asTup v41 fun l44 =>
op' (lgetO l44 1) fun v45 =>
asB v45 fun b46 =>
pushK (.cells false 91 []) h39 fun n47 h48 =>
Go.Am.asAgg v43 fun l50 =>
stN 0 (AV.ptr n47 0) l50 h48 fun h49 =>
br b46 (
leaveK (gam J [(45, w45 c45)]) d29 h49 fun h51 =>
k (Int.ofNat 9) h51) (
ldS (AV.ptr n37 0) h49 fun s52 =>
op' (mapBlk ty 9 v28.1 (AV.str s52) (AV.agg []) h49) fun k53 =>
putK k53.1 k53.2 h49 fun h54 =>
asI .i64 v28.2.2.2.1 fun x55 =>
fI (wrapF .i64 (Int.add x55 (Int.ofNat 1))) fun x56 =>
r31 (v28.1, v28.2.1, v28.2.2.1, (AV.int .i64 x56), ()) d29 h54)) (
leaveK (gam J [(45, w45 c45)]) d29 h30 fun h57 =>
k (Int.ofNat 0) h57)) ((AV.map n25), v6.1, (AV.int .i64 (Int.ofNat x27)), (AV.int .i64 (Int.ofNat 0)), ()) d7 h26)) (a0, a0, (AV.int .i64 (Int.ofNat x5)), (AV.int .i64 (Int.ofNat 0)), ()) [] h))
noncomputable def s16 : AV → H → (Int → H → Prop) → Prop := s16G J0 s45
noncomputable def w16 (c : AV → H → (Int → H → Prop) → Prop) : Fun := fun xs h k => arg xs fun a0 xs => noArg xs <| c a0 h fun r0 h => k (.int .i64 r0) h
theorem s16_eq (J : Joins) (c45 : AV → H → (Bool → H → Prop) → Prop) (a0 : AV) (h : H) (k : AV → H → Prop) : denF ty (gam J [(45, w45 c45)]) Tryz.f16 [a0] h k = s16G J c45 a0 h (fun r0 h => k (.int .i64 r0) h) := by kernel_rfl
noncomputable def g16 : Fun := w16 s16
theorem g16_ok : FunOk Tryz.prog 16 g16 := (fun_ok ty_ok mixed (gam_ok (J := J0) (tab_cons g45_ok (tab_nil fls_fun))) Tryz.func16 (fun args w => by simp)).imp fun xs h k e0 => by
  obtain ⟨a0, xs0, rfl, e1⟩ := arg_imp e0
  obtain ⟨rfl, e2⟩ := noArg_imp e1
  exact (s16_eq J0 s45 a0 h k).mpr e2
/-- stagepost/enc.Append -/
noncomputable def s33G (J : Joins) (a0 : AV) (a1 : Int) (h : H) (k : AV → H → Prop) : Prop :=
apB (.slice 5) 5 AV.nils a0 h fun v1 h2 =>
J.lp (α := AV × AV × Unit) (fun r6 v3 d4 h5 =>
asI .u64 v3.1 fun x7 =>
fB (Bool.not (ltI x7 (Int.ofNat 128))) fun b8 =>
br b8 (
asI .u64 v3.1 fun x9 =>
fI (wrapF .u8 x9) fun x10 =>
fI (lorF .u8 x10 (Int.ofNat 128)) fun x11 =>
op' (asRow true 5 [(AV.int .u8 x11)]) fun k14 =>
pushK k14 h5 fun n12 h13 =>
apB (.slice 5) 5 v3.2.1 (AV.slice n12 0 1 1 1 true) h13 fun v15 h16 =>
asI .u64 v3.1 fun x17 =>
fI (shrF x17 (nmin 7 (IntKind.bits .u64))) fun x18 =>
r6 ((AV.int .u64 x18), v15, ()) d4 h16) (
asI .u64 v3.1 fun x19 =>
fI (wrapF .u8 x19) fun x20 =>
op' (asRow true 5 [(AV.int .u8 x20)]) fun k23 =>
pushK k23 h5 fun n21 h22 =>
apB (.slice 5) 5 v3.2.1 (AV.slice n21 0 1 1 1 true) h22 fun v24 h25 =>
leaveK (gam J []) d4 h25 fun h26 =>
k v24 h26)) ((AV.int .u64 a1), v1, ()) [] h2
noncomputable def s33 : AV → Int → H → (AV → H → Prop) → Prop := s33G J0 
noncomputable def w33 (c : AV → Int → H → (AV → H → Prop) → Prop) : Fun := fun xs h k => arg xs fun a0 xs => arg xs fun a1 xs => noArg xs <| asI .u64 a1 fun a1 => c a0 a1 h fun r0 h => k r0 h
theorem s33_eq (J : Joins) (a0 : AV) (a1 : Int) (h : H) (k : AV → H → Prop) : denF ty (gam J []) Tryz.f33 [a0, (.int .u64 a1)] h k = s33G J  a0 a1 h (fun r0 h => k r0 h) := by kernel_rfl
noncomputable def g33 : Fun := w33 s33
theorem g33_ok : FunOk Tryz.prog 33 g33 := (fun_ok ty_ok mixed (gam_ok (J := J0) (tab_nil fls_fun)) Tryz.func33 (fun args w => by simp)).imp fun xs h k e0 => by
  obtain ⟨a0, xs0, rfl, e1⟩ := arg_imp e0
  obtain ⟨a1, xs1, rfl, e2⟩ := arg_imp e1
  obtain ⟨rfl, e3⟩ := noArg_imp e2
  obtain ⟨a1, rfl, e4⟩ := asI_iff.1 e3
  exact (s33_eq J0  a0 a1 h k).mpr e4
/-- stagepost/wal.text -/
noncomputable def s34G (J : Joins) (c33 : AV → Int → H → (AV → H → Prop) → Prop) (a0 : AV) (a1 : Str) (h : H) (k : AV → H → Prop) : Prop :=
fI (wrapF .u64 (Int.ofNat a1.len)) fun x1 =>
c33 a0 x1 h fun v3 h2 =>
apB .str 5 v3 (AV.str a1) h2 fun v4 h5 =>
k v4 h5
noncomputable def s34 : AV → Str → H → (AV → H → Prop) → Prop := s34G J0 s33
noncomputable def w34 (c : AV → Str → H → (AV → H → Prop) → Prop) : Fun := fun xs h k => arg xs fun a0 xs => arg xs fun a1 xs => noArg xs <| asS a1 fun a1 => c a0 a1 h fun r0 h => k r0 h
theorem s34_eq (J : Joins) (c33 : AV → Int → H → (AV → H → Prop) → Prop) (a0 : AV) (a1 : Str) (h : H) (k : AV → H → Prop) : denF ty (gam J [(33, w33 c33)]) Tryz.f34 [a0, (.str a1)] h k = s34G J c33 a0 a1 h (fun r0 h => k r0 h) := by kernel_rfl
noncomputable def g34 : Fun := w34 s34
theorem g34_ok : FunOk Tryz.prog 34 g34 := (fun_ok ty_ok mixed (gam_ok (J := J0) (tab_cons g33_ok (tab_nil fls_fun))) Tryz.func34 (fun args w => by simp)).imp fun xs h k e0 => by
  obtain ⟨a0, xs0, rfl, e1⟩ := arg_imp e0
  obtain ⟨a1, xs1, rfl, e2⟩ := arg_imp e1
  obtain ⟨rfl, e3⟩ := noArg_imp e2
  obtain ⟨a1, rfl, e4⟩ := asS_iff.1 e3
  exact (s34_eq J0 s33 a0 a1 h k).mpr e4
/-- stagepost/wal.Encode -/
noncomputable def s10G (J : Joins) (c16 : AV → H → (Int → H → Prop) → Prop) (c33 : AV → Int → H → (AV → H → Prop) → Prop) (c34 : AV → Str → H → (AV → H → Prop) → Prop) (a0 : AV) (h : H) (k : AV → Int → H → Prop) : Prop :=
Go.Am.asAgg a0 fun l3 =>
pushK (.cells false 24 l3) h fun n1 h2 =>
ldI .i64 (AV.ptr n1 0) h2 fun x4 =>
fB (ltI x4 (Int.ofNat 1)) fun b5 =>
J.jn (fun v6 h7 =>
J.jn (fun v9 h10 =>
J.jn (fun v13 h14 =>
pickB (AV.bool b5) (AV.bool true) v13 fun b18 =>
br b18 (
k AV.nils (Int.ofNat 2) h14) (
ldV (AV.ptr n1 1) h14 fun v19 =>
c16 v19 h14 fun x21 h20 =>
fB (Bool.not (eqI x21 (Int.ofNat 0))) fun b22 =>
br b22 (
k AV.nils x21 h20) (
ldI .i64 (AV.ptr n1 0) h20 fun x23 =>
fI (wrapF .u64 x23) fun x24 =>
c33 AV.nils x24 h20 fun v26 h25 =>
ldV (AV.ptr n1 1) h25 fun v27 =>
lenK v27 fun x28 =>
fI (wrapF .u64 (Int.ofNat x28)) fun x29 =>
c33 v26 x29 h25 fun v31 h30 =>
ldV (AV.ptr n1 1) h30 fun v32 =>
lenK v32 fun x33 =>
J.lp (α := AV × AV × AV × AV × Unit) (fun r37 v34 d35 h36 =>
asI .i64 v34.2.2.2.1 fun x38 =>
asI .i64 v34.2.2.1 fun x39 =>
fB (ltI x38 x39) fun b40 =>
br b40 (
J.jd (α := AV × AV × AV × AV × Unit) (fun v41 d42 h43 =>
asI .i64 v41.2.2.2.1 fun x45 =>
fI (wrapF .i64 (Int.add x45 (Int.ofNat 1))) fun x46 =>
r37 (v41.1, v41.2.1, v41.2.2.1, (AV.int .i64 x46), ()) d42 h43) fun j44 =>
ixK 3 v34.2.1 v34.2.2.2.1 fun p47 =>
ldN 3 p47 h36 fun l48 =>
pushK (.cells false 74 [(.str ⟨0, 0⟩), (.str ⟨0, 0⟩), (.bool false)]) h36 fun n49 h50 =>
stN 3 (AV.ptr n49 0) l48 h50 fun h51 =>
ldB (AV.ptr n49 2) h51 fun b52 =>
br b52 (
op' (asRow true 5 [(AV.int .u8 (Int.ofNat 1))]) fun k55 =>
pushK k55 h51 fun n53 h54 =>
ldS (AV.ptr n49 0) h54 fun s56 =>
apB (.slice 5) 5 v34.1 (AV.slice n53 0 1 1 1 true) h54 fun v57 h58 =>
ck (readsSo (aLoad1 (AV.ptr n49 0) h58) (AV.str s56)) (
c34 v57 s56 h58 fun v60 h59 =>
j44 (v60, v34.2.1, v34.2.2.1, v34.2.2.2.1, ()) d35 h59)) (
op' (asRow true 5 [(AV.int .u8 (Int.ofNat 0))]) fun k63 =>
pushK k63 h51 fun n61 h62 =>
ldS (AV.ptr n49 0) h62 fun s64 =>
apB (.slice 5) 5 v34.1 (AV.slice n61 0 1 1 1 true) h62 fun v65 h66 =>
ck (readsSo (aLoad1 (AV.ptr n49 0) h66) (AV.str s64)) (
c34 v65 s64 h66 fun v68 h67 =>
ldS (AV.ptr n49 1) h67 fun s69 =>
c34 v68 s69 h67 fun v71 h70 =>
j44 (v71, v34.2.1, v34.2.2.1, v34.2.2.2.1, ()) d35 h70))) (
leaveK (gam J [(16, w16 c16), (33, w33 c33), (34, w34 c34)]) d35 h36 fun h72 =>
k v34.1 (Int.ofNat 0) h72)) (v31, v32, (AV.int .i64 (Int.ofNat x33)), (AV.int .i64 (Int.ofNat 0)), ()) [] h30))) fun j15 =>
br b5 (
j15 skipV h10) (
asI .i64 v9 fun x16 =>
fB (ltI (Int.ofNat 1073741824) x16) fun b17 =>
j15 (AV.bool b17) h10)) fun j11 =>
br b5 (
j11 skipV h7) (
ldI .i64 v6 h7 fun x12 =>
j11 (AV.int .i64 x12) h7)) fun j8 =>
br b5 (
j8 skipV h2) (
j8 (AV.ptr n1 0) h2)
noncomputable def s10 : AV → H → (AV → Int → H → Prop) → Prop := s10G J0 s16 s33 s34
noncomputable def w10 (c : AV → H → (AV → Int → H → Prop) → Prop) : Fun := fun xs h k => arg xs fun a0 xs => noArg xs <| c a0 h fun r0 r1 h => k (.tuple [r0, (.int .i64 r1)]) h
theorem s10_eq (J : Joins) (c16 : AV → H → (Int → H → Prop) → Prop) (c33 : AV → Int → H → (AV → H → Prop) → Prop) (c34 : AV → Str → H → (AV → H → Prop) → Prop) (a0 : AV) (h : H) (k : AV → H → Prop) : denF ty (gam J [(16, w16 c16), (33, w33 c33), (34, w34 c34)]) Tryz.f10 [a0] h k = s10G J c16 c33 c34 a0 h (fun r0 r1 h => k (.tuple [r0, (.int .i64 r1)]) h) := by kernel_rfl
noncomputable def g10 : Fun := w10 s10
theorem g10_ok : FunOk Tryz.prog 10 g10 := (fun_ok ty_ok mixed (gam_ok (J := J0) (tab_cons g16_ok (tab_cons g33_ok (tab_cons g34_ok (tab_nil fls_fun))))) Tryz.func10 (fun args w => by simp)).imp fun xs h k e0 => by
  obtain ⟨a0, xs0, rfl, e1⟩ := arg_imp e0
  obtain ⟨rfl, e2⟩ := noArg_imp e1
  exact (s10_eq J0 s16 s33 s34 a0 h k).mpr e2
/-- internal/strconv.small -/
noncomputable def s108G (J : Joins) (a0 : Int) (h : H) (k : Str → H → Prop) : Prop :=
fB (ltI a0 (Int.ofNat 10)) fun b1 =>
br b1 (
fI (wrapF .i64 (Int.add a0 (Int.ofNat 1))) fun x2 =>
subK (AV.str ⟨36, 93621433862240650313326231306435056417042768930449266319129758623240466503934737414522⟩) (some (AV.int .i64 a0)) (some (AV.int .i64 x2)) fun s3 =>
k s3 h) (
fI (wrapF .i64 (Int.mul a0 (Int.ofNat 2))) fun x4 =>
fI (wrapF .i64 (Int.mul a0 (Int.ofNat 2))) fun x5 =>
fI (wrapF .i64 (Int.add x5 (Int.ofNat 2))) fun x6 =>
subK (AV.str ⟨200, 8369396053099643259884660439900312228746471110943504458504829912206407100469475510520505676855750014530596077689858408204562721349408824591789441711103775826291439126061900675989976254244761425382494394669896706626295868329681710377411642562040512013377776180902291979747008038411282346274188424097310996521951660972735479027990947060043115083917949168200323041593656569302669535377774123378085539195783572932112166539323561441937920580889744256865042652178519653545620815178381625⟩) (some (AV.int .i64 x4)) (some (AV.int .i64 x6)) fun s7 =>
k s7 h)
noncomputable def s108 : Int → H → (Str → H → Prop) → Prop := s108G J0 
noncomputable def w108 (c : Int → H → (Str → H → Prop) → Prop) : Fun := fun xs h k => arg xs fun a0 xs => noArg xs <| asI .i64 a0 fun a0 => c a0 h fun r0 h => k (.str r0) h
theorem s108_eq (J : Joins) (a0 : Int) (h : H) (k : AV → H → Prop) : denF ty (gam J []) Tryz.f108 [(.int .i64 a0)] h k = s108G J  a0 h (fun r0 h => k (.str r0) h) := by kernel_rfl
noncomputable def g108 : Fun := w108 s108
theorem g108_ok : FunOk Tryz.prog 108 g108 := (fun_ok ty_ok mixed (gam_ok (J := J0) (tab_nil fls_fun)) Tryz.func108 (fun args w => by simp)).imp fun xs h k e0 => by
  obtain ⟨a0, xs0, rfl, e1⟩ := arg_imp e0
  obtain ⟨rfl, e2⟩ := noArg_imp e1
  obtain ⟨a0, rfl, e3⟩ := asI_iff.1 e2
  exact (s108_eq J0  a0 h k).mpr e3
/-- internal/strconv.log10Pow2 -/
noncomputable def s125G (J : Joins) (a0 : Int) (h : H) (k : Int → H → Prop) : Prop :=
fI (wrapF .i64 (Int.mul a0 (Int.ofNat 78913))) fun x1 =>
fI (shrF x1 (nmin 18 (IntKind.bits .i64))) fun x2 =>
k x2 h
noncomputable def s125 : Int → H → (Int → H → Prop) → Prop := s125G J0 
noncomputable def w125 (c : Int → H → (Int → H → Prop) → Prop) : Fun := fun xs h k => arg xs fun a0 xs => noArg xs <| asI .i64 a0 fun a0 => c a0 h fun r0 h => k (.int .i64 r0) h
theorem s125_eq (J : Joins) (a0 : Int) (h : H) (k : AV → H → Prop) : denF ty (gam J []) Tryz.f125 [(.int .i64 a0)] h k = s125G J  a0 h (fun r0 h => k (.int .i64 r0) h) := by kernel_rfl
noncomputable def g125 : Fun := w125 s125
theorem g125_ok : FunOk Tryz.prog 125 g125 := (fun_ok ty_ok mixed (gam_ok (J := J0) (tab_nil fls_fun)) Tryz.func125 (fun args w => by simp)).imp fun xs h k e0 => by
  obtain ⟨a0, xs0, rfl, e1⟩ := arg_imp e0
  obtain ⟨rfl, e2⟩ := noArg_imp e1
  obtain ⟨a0, rfl, e3⟩ := asI_iff.1 e2
  exact (s125_eq J0  a0 h k).mpr e3
/-- math/bits.Len64 -/
noncomputable def s126G (J : Joins) (a0 : Int) (h : H) (k : Int → H → Prop) : Prop :=
J.jd (α := AV × AV × Unit) (fun v1 d2 h3 =>
J.jd (α := AV × AV × Unit) (fun v5 d6 h7 =>
J.jd (α := AV × AV × Unit) (fun v9 d10 h11 =>
asI .u64 v9.1 fun x13 =>
fI (wrapF .u8 x13) fun x14 =>
ixsK (AV.str ⟨256, 496986003408712215933005303621146343841837811690876167382323004466384420695090407243345123874780946046625255262057845613767806773758184921447759720770971536008171983842311960805720366577116933250839345203839274948261284255908394484732272583221484877694546905335834403051067785895034095251181560891789708940188598129052595634438001880866652824740680664595948164050600812232986714152902334120417949232733424961741260388658846598210939813666227264727603044226856020347194099943897342244906131705541414413428559898943151040826816076322978570758226444464494629814583418847495712557856038296917933182380796641777551368⟩) (AV.int .u8 x14) fun x15 =>
fI (wrapF .i64 x15) fun x16 =>
asI .i64 v9.2.1 fun x17 =>
fI (wrapF .i64 (Int.add x17 x16)) fun x18 =>
leaveK (gam J []) d10 h11 fun h19 =>
k x18 h19) fun j12 =>
asI .u64 v5.1 fun x20 =>
fB (Bool.not (ltI x20 (Int.ofNat 256))) fun b21 =>
br b21 (
asI .u64 v5.1 fun x22 =>
fI (shrF x22 (nmin 8 (IntKind.bits .u64))) fun x23 =>
asI .i64 v5.2.1 fun x24 =>
fI (wrapF .i64 (Int.add x24 (Int.ofNat 8))) fun x25 =>
j12 ((AV.int .u64 x23), (AV.int .i64 x25), ()) d6 h7) (
j12 (v5.1, v5.2.1, ()) d6 h7)) fun j8 =>
asI .u64 v1.1 fun x26 =>
fB (Bool.not (ltI x26 (Int.ofNat 65536))) fun b27 =>
br b27 (
asI .u64 v1.1 fun x28 =>
fI (shrF x28 (nmin 16 (IntKind.bits .u64))) fun x29 =>
asI .i64 v1.2.1 fun x30 =>
fI (wrapF .i64 (Int.add x30 (Int.ofNat 16))) fun x31 =>
j8 ((AV.int .u64 x29), (AV.int .i64 x31), ()) d2 h3) (
j8 (v1.1, v1.2.1, ()) d2 h3)) fun j4 =>
fB (Bool.not (ltI a0 (Int.ofNat 4294967296))) fun b32 =>
br b32 (
fI (shrF a0 (nmin 32 (IntKind.bits .u64))) fun x33 =>
j4 ((AV.int .u64 x33), (AV.int .i64 (Int.ofNat 32)), ()) [] h) (
j4 ((AV.int .u64 a0), (AV.int .i64 (Int.ofNat 0)), ()) [] h)
noncomputable def s126 : Int → H → (Int → H → Prop) → Prop := s126G J0 
noncomputable def w126 (c : Int → H → (Int → H → Prop) → Prop) : Fun := fun xs h k => arg xs fun a0 xs => noArg xs <| asI .u64 a0 fun a0 => c a0 h fun r0 h => k (.int .i64 r0) h
theorem s126_eq (J : Joins) (a0 : Int) (h : H) (k : AV → H → Prop) : denF ty (gam J []) Tryz.f126 [(.int .u64 a0)] h k = s126G J  a0 h (fun r0 h => k (.int .i64 r0) h) := by kernel_rfl
noncomputable def g126 : Fun := w126 s126
theorem g126_ok : FunOk Tryz.prog 126 g126 := (fun_ok ty_ok mixed (gam_ok (J := J0) (tab_nil fls_fun)) Tryz.func126 (fun args w => by simp)).imp fun xs h k e0 => by
  obtain ⟨a0, xs0, rfl, e1⟩ := arg_imp e0
  obtain ⟨rfl, e2⟩ := noArg_imp e1
  obtain ⟨a0, rfl, e3⟩ := asI_iff.1 e2
  exact (s126_eq J0  a0 h k).mpr e3
/-- internal/strconv.bool2[int] -/
noncomputable def s127G (J : Joins) (a0 : Bool) (h : H) (k : Int → H → Prop) : Prop :=
br a0 (
k (Int.ofNat 1) h) (
k (Int.ofNat 0) h)
noncomputable def s127 : Bool → H → (Int → H → Prop) → Prop := s127G J0 
noncomputable def w127 (c : Bool → H → (Int → H → Prop) → Prop) : Fun := fun xs h k => arg xs fun a0 xs => noArg xs <| asB a0 fun a0 => c a0 h fun r0 h => k (.int .i64 r0) h
theorem s127_eq (J : Joins) (a0 : Bool) (h : H) (k : AV → H → Prop) : denF ty (gam J []) Tryz.f127 [(.bool a0)] h k = s127G J  a0 h (fun r0 h => k (.int .i64 r0) h) := by kernel_rfl
noncomputable def g127 : Fun := w127 s127
theorem g127_ok : FunOk Tryz.prog 127 g127 := (fun_ok ty_ok mixed (gam_ok (J := J0) (tab_nil fls_fun)) Tryz.func127 (fun args w => by simp)).imp fun xs h k e0 => by
  obtain ⟨a0, xs0, rfl, e1⟩ := arg_imp e0
  obtain ⟨rfl, e2⟩ := noArg_imp e1
  obtain ⟨a0, rfl, e3⟩ := asB_iff.1 e2
  exact (s127_eq J0  a0 h k).mpr e3
/-- internal/strconv.numDigits -/
noncomputable def s109G (J : Joins) (c125 : Int → H → (Int → H → Prop) → Prop) (c126 : Int → H → (Int → H → Prop) → Prop) (c127 : Bool → H → (Int → H → Prop) → Prop) (a0 : Int) (h : H) (k : Int → H → Prop) : Prop :=
c126 a0 h fun x2 h1 =>
c125 x2 h1 fun x4 h3 =>
ixaK 20 1 AV.junk (AV.int .i64 x4) fun p5 =>
ldI .u64 p5 h3 fun x6 =>
fB (Bool.not (ltI a0 x6)) fun b7 =>
c127 b7 h3 fun x9 h8 =>
fI (wrapF .i64 (Int.add x4 x9)) fun x10 =>
k x10 h8
noncomputable def s109 : Int → H → (Int → H → Prop) → Prop := s109G J0 s125 s126 s127
noncomputable def w109 (c : Int → H → (Int → H → Prop) → Prop) : Fun := fun xs h k => arg xs fun a0 xs => noArg xs <| asI .u64 a0 fun a0 => c a0 h fun r0 h => k (.int .i64 r0) h
theorem s109_eq (J : Joins) (c125 : Int → H → (Int → H → Prop) → Prop) (c126 : Int → H → (Int → H → Prop) → Prop) (c127 : Bool → H → (Int → H → Prop) → Prop) (a0 : Int) (h : H) (k : AV → H → Prop) : denF ty (gam J [(125, w125 c125), (126, w126 c126), (127, w127 c127)]) Tryz.f109 [(.int .u64 a0)] h k = s109G J c125 c126 c127 a0 h (fun r0 h => k (.int .i64 r0) h) := by kernel_rfl
noncomputable def g109 : Fun := w109 s109
theorem g109_ok : FunOk Tryz.prog 109 g109 := (fun_ok ty_ok mixed (gam_ok (J := J0) (tab_cons g125_ok (tab_cons g126_ok (tab_cons g127_ok (tab_nil fls_fun))))) Tryz.func109 (fun args w => by simp)).imp fun xs h k e0 => by
  obtain ⟨a0, xs0, rfl, e1⟩ := arg_imp e0
  obtain ⟨rfl, e2⟩ := noArg_imp e1
  obtain ⟨a0, rfl, e3⟩ := asI_iff.1 e2
  exact (s109_eq J0 s125 s126 s127 a0 h k).mpr e3
/-- internal/strconv.formatBase10 -/
noncomputable def s110G (J : Joins) (a0 : AV) (a1 : Int) (h : H) (k : H → Prop) : Prop :=
lenK a0 fun x1 =>
J.lp (α := AV × AV × AV × Unit) (fun r5 v2 d3 h4 =>
asI .i64 v2.2.2.1 fun x6 =>
fB (Bool.not (ltI x6 (Int.ofNat 8))) fun b7 =>
br b7 (
asI .u64 v2.2.1 fun x8 =>
ck (Bool.not (eqI (Int.ofNat 100000000) 0)) (fI (Int.tmod x8 (Int.ofNat 100000000)) fun x9 =>
fI (wrapF .u32 x9) fun x10 =>
asI .u64 v2.2.1 fun x11 =>
ck (Bool.not (eqI (Int.ofNat 100000000) 0)) (fI (wrapF .u64 (Int.tdiv x11 (Int.ofNat 100000000))) fun x12 =>
ck (Bool.not (eqI (Int.ofNat 10000) 0)) (fI (wrapF .u32 (Int.tdiv x10 (Int.ofNat 10000))) fun x13 =>
ck (Bool.not (eqI (Int.ofNat 10000) 0)) (fI (Int.tmod x10 (Int.ofNat 10000)) fun x14 =>
ck (Bool.not (eqI (Int.ofNat 100) 0)) (fI (wrapF .u32 (Int.tdiv x14 (Int.ofNat 100))) fun x15 =>
fI (wrapF .u32 (Int.mul x15 (Int.ofNat 2))) fun x16 =>
ck (Bool.not (eqI (Int.ofNat 100) 0)) (fI (Int.tmod x14 (Int.ofNat 100)) fun x17 =>
fI (wrapF .u32 (Int.mul x17 (Int.ofNat 2))) fun x18 =>
ck (Bool.not (eqI (Int.ofNat 100) 0)) (fI (wrapF .u32 (Int.tdiv x13 (Int.ofNat 100))) fun x19 =>
fI (wrapF .u32 (Int.mul x19 (Int.ofNat 2))) fun x20 =>
ck (Bool.not (eqI (Int.ofNat 100) 0)) (fI (Int.tmod x13 (Int.ofNat 100)) fun x21 =>
fI (wrapF .u32 (Int.mul x21 (Int.ofNat 2))) fun x22 =>
asI .i64 v2.2.2.1 fun x23 =>
fI (wrapF .i64 (Int.sub x23 (Int.ofNat 1))) fun x24 =>
asI .i64 v2.2.2.1 fun x25 =>
fI (wrapF .i64 (Int.sub x25 (Int.ofNat 2))) fun x26 =>
fI (wrapF .u32 (Int.add x18 (Int.ofNat 1))) fun x27 =>
ixsK (AV.str ⟨200, 8369396053099643259884660439900312228746471110943504458504829912206407100469475510520505676855750014530596077689858408204562721349408824591789441711103775826291439126061900675989976254244761425382494394669896706626295868329681710377411642562040512013377776180902291979747008038411282346274188424097310996521951660972735479027990947060043115083917949168200323041593656569302669535377774123378085539195783572932112166539323561441937920580889744256865042652178519653545620815178381625⟩) (AV.int .u32 x27) fun x28 =>
ixsK (AV.str ⟨200, 8369396053099643259884660439900312228746471110943504458504829912206407100469475510520505676855750014530596077689858408204562721349408824591789441711103775826291439126061900675989976254244761425382494394669896706626295868329681710377411642562040512013377776180902291979747008038411282346274188424097310996521951660972735479027990947060043115083917949168200323041593656569302669535377774123378085539195783572932112166539323561441937920580889744256865042652178519653545620815178381625⟩) (AV.int .u32 x18) fun x29 =>
ixK 1 v2.1 (AV.int .i64 x24) fun p30 =>
stV p30 (AV.int .u8 x28) h4 fun h31 =>
ixK 1 v2.1 (AV.int .i64 x26) fun p32 =>
stV p32 (AV.int .u8 x29) h31 fun h33 =>
asI .i64 v2.2.2.1 fun x34 =>
fI (wrapF .i64 (Int.sub x34 (Int.ofNat 3))) fun x35 =>
asI .i64 v2.2.2.1 fun x36 =>
fI (wrapF .i64 (Int.sub x36 (Int.ofNat 4))) fun x37 =>
fI (wrapF .u32 (Int.add x16 (Int.ofNat 1))) fun x38 =>
ixsK (AV.str ⟨200, 8369396053099643259884660439900312228746471110943504458504829912206407100469475510520505676855750014530596077689858408204562721349408824591789441711103775826291439126061900675989976254244761425382494394669896706626295868329681710377411642562040512013377776180902291979747008038411282346274188424097310996521951660972735479027990947060043115083917949168200323041593656569302669535377774123378085539195783572932112166539323561441937920580889744256865042652178519653545620815178381625⟩) (AV.int .u32 x38) fun x39 =>
ixsK (AV.str ⟨200, 8369396053099643259884660439900312228746471110943504458504829912206407100469475510520505676855750014530596077689858408204562721349408824591789441711103775826291439126061900675989976254244761425382494394669896706626295868329681710377411642562040512013377776180902291979747008038411282346274188424097310996521951660972735479027990947060043115083917949168200323041593656569302669535377774123378085539195783572932112166539323561441937920580889744256865042652178519653545620815178381625⟩) (AV.int .u32 x16) fun x40 =>
ixK 1 v2.1 (AV.int .i64 x35) fun p41 =>
stV p41 (AV.int .u8 x39) h33 fun h42 =>
ixK 1 v2.1 (AV.int .i64 x37) fun p43 =>
stV p43 (AV.int .u8 x40) h42 fun h44 =>
asI .i64 v2.2.2.1 fun x45 =>
fI (wrapF .i64 (Int.sub x45 (Int.ofNat 5))) fun x46 =>
asI .i64 v2.2.2.1 fun x47 =>
fI (wrapF .i64 (Int.sub x47 (Int.ofNat 6))) fun x48 =>
fI (wrapF .u32 (Int.add x22 (Int.ofNat 1))) fun x49 =>
ixsK (AV.str ⟨200, 8369396053099643259884660439900312228746471110943504458504829912206407100469475510520505676855750014530596077689858408204562721349408824591789441711103775826291439126061900675989976254244761425382494394669896706626295868329681710377411642562040512013377776180902291979747008038411282346274188424097310996521951660972735479027990947060043115083917949168200323041593656569302669535377774123378085539195783572932112166539323561441937920580889744256865042652178519653545620815178381625⟩) (AV.int .u32 x49) fun x50 =>
ixsK (AV.str ⟨200, 8369396053099643259884660439900312228746471110943504458504829912206407100469475510520505676855750014530596077689858408204562721349408824591789441711103775826291439126061900675989976254244761425382494394669896706626295868329681710377411642562040512013377776180902291979747008038411282346274188424097310996521951660972735479027990947060043115083917949168200323041593656569302669535377774123378085539195783572932112166539323561441937920580889744256865042652178519653545620815178381625⟩) (AV.int .u32 x22) fun x51 =>
ixK 1 v2.1 (AV.int .i64 x46) fun p52 =>
stV p52 (AV.int .u8 x50) h44 fun h53 =>
ixK 1 v2.1 (AV.int .i64 x48) fun p54 =>
stV p54 (AV.int .u8 x51) h53 fun h55 =>
asI .i64 v2.2.2.1 fun x56 =>
fI (wrapF .i64 (Int.sub x56 (Int.ofNat 7))) fun x57 =>
asI .i64 v2.2.2.1 fun x58 =>
fI (wrapF .i64 (Int.sub x58 (Int.ofNat 8))) fun x59 =>
fI (wrapF .u32 (Int.add x20 (Int.ofNat 1))) fun x60 =>
ixsK (AV.str ⟨200, 8369396053099643259884660439900312228746471110943504458504829912206407100469475510520505676855750014530596077689858408204562721349408824591789441711103775826291439126061900675989976254244761425382494394669896706626295868329681710377411642562040512013377776180902291979747008038411282346274188424097310996521951660972735479027990947060043115083917949168200323041593656569302669535377774123378085539195783572932112166539323561441937920580889744256865042652178519653545620815178381625⟩) (AV.int .u32 x60) fun x61 =>
ixsK (AV.str ⟨200, 8369396053099643259884660439900312228746471110943504458504829912206407100469475510520505676855750014530596077689858408204562721349408824591789441711103775826291439126061900675989976254244761425382494394669896706626295868329681710377411642562040512013377776180902291979747008038411282346274188424097310996521951660972735479027990947060043115083917949168200323041593656569302669535377774123378085539195783572932112166539323561441937920580889744256865042652178519653545620815178381625⟩) (AV.int .u32 x20) fun x62 =>
ixK 1 v2.1 (AV.int .i64 x57) fun p63 =>
stV p63 (AV.int .u8 x61) h55 fun h64 =>
ixK 1 v2.1 (AV.int .i64 x59) fun p65 =>
stV p65 (AV.int .u8 x62) h64 fun h66 =>
asI .i64 v2.2.2.1 fun x67 =>
fI (wrapF .i64 (Int.sub x67 (Int.ofNat 8))) fun x68 =>
r5 (v2.1, (AV.int .u64 x12), (AV.int .i64 x68), ()) d3 h66))))))))) (
asI .u64 v2.2.1 fun x69 =>
fI (wrapF .u32 x69) fun x70 =>
J.jd (α := AV × AV × AV × Unit) (fun v71 d72 h73 =>
J.jd (α := AV × AV × AV × Unit) (fun v75 d76 h77 =>
asI .i64 v75.2.1 fun x79 =>
fB (ltI (Int.ofNat 0) x79) fun b80 =>
br b80 (
asI .u32 v75.2.2.1 fun x81 =>
fI (wrapF .u32 (Int.add (Int.ofNat 48) x81)) fun x82 =>
fI (wrapF .u8 x82) fun x83 =>
ixK 1 v75.1 (AV.int .i64 (Int.ofNat 0)) fun p84 =>
stV p84 (AV.int .u8 x83) h77 fun h85 =>
leaveK (gam J []) d76 h85 fun h86 =>
k  h86) (
leaveK (gam J []) d76 h77 fun h87 =>
k  h87)) fun j78 =>
asI .i64 v71.2.1 fun x88 =>
fB (Bool.not (ltI x88 (Int.ofNat 2))) fun b89 =>
br b89 (
asI .u32 v71.2.2.1 fun x90 =>
ck (Bool.not (eqI (Int.ofNat 100) 0)) (fI (Int.tmod x90 (Int.ofNat 100)) fun x91 =>
fI (wrapF .u32 (Int.mul x91 (Int.ofNat 2))) fun x92 =>
asI .u32 v71.2.2.1 fun x93 =>
ck (Bool.not (eqI (Int.ofNat 100) 0)) (fI (wrapF .u32 (Int.tdiv x93 (Int.ofNat 100))) fun x94 =>
asI .i64 v71.2.1 fun x95 =>
fI (wrapF .i64 (Int.sub x95 (Int.ofNat 1))) fun x96 =>
asI .i64 v71.2.1 fun x97 =>
fI (wrapF .i64 (Int.sub x97 (Int.ofNat 2))) fun x98 =>
fI (wrapF .u32 (Int.add x92 (Int.ofNat 1))) fun x99 =>
ixsK (AV.str ⟨200, 8369396053099643259884660439900312228746471110943504458504829912206407100469475510520505676855750014530596077689858408204562721349408824591789441711103775826291439126061900675989976254244761425382494394669896706626295868329681710377411642562040512013377776180902291979747008038411282346274188424097310996521951660972735479027990947060043115083917949168200323041593656569302669535377774123378085539195783572932112166539323561441937920580889744256865042652178519653545620815178381625⟩) (AV.int .u32 x99) fun x100 =>
ixsK (AV.str ⟨200, 8369396053099643259884660439900312228746471110943504458504829912206407100469475510520505676855750014530596077689858408204562721349408824591789441711103775826291439126061900675989976254244761425382494394669896706626295868329681710377411642562040512013377776180902291979747008038411282346274188424097310996521951660972735479027990947060043115083917949168200323041593656569302669535377774123378085539195783572932112166539323561441937920580889744256865042652178519653545620815178381625⟩) (AV.int .u32 x92) fun x101 =>
ixK 1 v71.1 (AV.int .i64 x96) fun p102 =>
stV p102 (AV.int .u8 x100) h73 fun h103 =>
ixK 1 v71.1 (AV.int .i64 x98) fun p104 =>
stV p104 (AV.int .u8 x101) h103 fun h105 =>
asI .i64 v71.2.1 fun x106 =>
fI (wrapF .i64 (Int.sub x106 (Int.ofNat 2))) fun x107 =>
j78 (v71.1, (AV.int .i64 x107), (AV.int .u32 x94), ()) d72 h105))) (
j78 (v71.1, v71.2.1, v71.2.2.1, ()) d72 h73)) fun j74 =>
asI .i64 v2.2.2.1 fun x108 =>
fB (Bool.not (ltI x108 (Int.ofNat 4))) fun b109 =>
br b109 (
ck (Bool.not (eqI (Int.ofNat 10000) 0)) (fI (Int.tmod x70 (Int.ofNat 10000)) fun x110 =>
ck (Bool.not (eqI (Int.ofNat 10000) 0)) (fI (wrapF .u32 (Int.tdiv x70 (Int.ofNat 10000))) fun x111 =>
ck (Bool.not (eqI (Int.ofNat 100) 0)) (fI (wrapF .u32 (Int.tdiv x110 (Int.ofNat 100))) fun x112 =>
fI (wrapF .u32 (Int.mul x112 (Int.ofNat 2))) fun x113 =>
ck (Bool.not (eqI (Int.ofNat 100) 0)) (fI (Int.tmod x110 (Int.ofNat 100)) fun x114 =>
fI (wrapF .u32 (Int.mul x114 (Int.ofNat 2))) fun x115 =>
asI .i64 v2.2.2.1 fun x116 =>
fI (wrapF .i64 (Int.sub x116 (Int.ofNat 1))) fun x117 =>
asI .i64 v2.2.2.1 fun x118 =>
fI (wrapF .i64 (Int.sub x118 (Int.ofNat 2))) fun x119 =>
fI (wrapF .u32 (Int.add x115 (Int.ofNat 1))) fun x120 =>
ixsK (AV.str ⟨200, 8369396053099643259884660439900312228746471110943504458504829912206407100469475510520505676855750014530596077689858408204562721349408824591789441711103775826291439126061900675989976254244761425382494394669896706626295868329681710377411642562040512013377776180902291979747008038411282346274188424097310996521951660972735479027990947060043115083917949168200323041593656569302669535377774123378085539195783572932112166539323561441937920580889744256865042652178519653545620815178381625⟩) (AV.int .u32 x120) fun x121 =>
ixsK (AV.str ⟨200, 8369396053099643259884660439900312228746471110943504458504829912206407100469475510520505676855750014530596077689858408204562721349408824591789441711103775826291439126061900675989976254244761425382494394669896706626295868329681710377411642562040512013377776180902291979747008038411282346274188424097310996521951660972735479027990947060043115083917949168200323041593656569302669535377774123378085539195783572932112166539323561441937920580889744256865042652178519653545620815178381625⟩) (AV.int .u32 x115) fun x122 =>
ixK 1 v2.1 (AV.int .i64 x117) fun p123 =>
stV p123 (AV.int .u8 x121) h4 fun h124 =>
ixK 1 v2.1 (AV.int .i64 x119) fun p125 =>
stV p125 (AV.int .u8 x122) h124 fun h126 =>
asI .i64 v2.2.2.1 fun x127 =>
fI (wrapF .i64 (Int.sub x127 (Int.ofNat 3))) fun x128 =>
asI .i64 v2.2.2.1 fun x129 =>
fI (wrapF .i64 (Int.sub x129 (Int.ofNat 4))) fun x130 =>
fI (wrapF .u32 (Int.add x113 (Int.ofNat 1))) fun x131 =>
ixsK (AV.str ⟨200, 8369396053099643259884660439900312228746471110943504458504829912206407100469475510520505676855750014530596077689858408204562721349408824591789441711103775826291439126061900675989976254244761425382494394669896706626295868329681710377411642562040512013377776180902291979747008038411282346274188424097310996521951660972735479027990947060043115083917949168200323041593656569302669535377774123378085539195783572932112166539323561441937920580889744256865042652178519653545620815178381625⟩) (AV.int .u32 x131) fun x132 =>
ixsK (AV.str ⟨200, 8369396053099643259884660439900312228746471110943504458504829912206407100469475510520505676855750014530596077689858408204562721349408824591789441711103775826291439126061900675989976254244761425382494394669896706626295868329681710377411642562040512013377776180902291979747008038411282346274188424097310996521951660972735479027990947060043115083917949168200323041593656569302669535377774123378085539195783572932112166539323561441937920580889744256865042652178519653545620815178381625⟩) (AV.int .u32 x113) fun x133 =>
ixK 1 v2.1 (AV.int .i64 x128) fun p134 =>
stV p134 (AV.int .u8 x132) h126 fun h135 =>
ixK 1 v2.1 (AV.int .i64 x130) fun p136 =>
stV p136 (AV.int .u8 x133) h135 fun h137 =>
asI .i64 v2.2.2.1 fun x138 =>
fI (wrapF .i64 (Int.sub x138 (Int.ofNat 4))) fun x139 =>
j74 (v2.1, (AV.int .i64 x139), (AV.int .u32 x111), ()) d3 h137))))) (
j74 (v2.1, v2.2.2.1, (AV.int .u32 x70), ()) d3 h4))) (a0, (AV.int .u64 a1), (AV.int .i64 (Int.ofNat x1)), ()) [] h
noncomputable def s110 : AV → Int → H → (H → Prop) → Prop := s110G J0 
noncomputable def w110 (c : AV → Int → H → (H → Prop) → Prop) : Fun := fun xs h k => arg xs fun a0 xs => arg xs fun a1 xs => noArg xs <| asI .u64 a1 fun a1 => c a0 a1 h fun  h => k (.tuple []) h
theorem s110_eq (J : Joins) (a0 : AV) (a1 : Int) (h : H) (k : AV → H → Prop) : denF ty (gam J []) Tryz.f110 [a0, (.int .u64 a1)] h k = s110G J  a0 a1 h (fun  h => k (.tuple []) h) := by kernel_rfl
noncomputable def g110 : Fun := w110 s110
theorem g110_ok : FunOk Tryz.prog 110 g110 := (fun_ok ty_ok mixed (gam_ok (J := J0) (tab_nil fls_fun)) Tryz.func110 (fun args w => by simp)).imp fun xs h k e0 => by
  obtain ⟨a0, xs0, rfl, e1⟩ := arg_imp e0
  obtain ⟨a1, xs1, rfl, e2⟩ := arg_imp e1
  obtain ⟨rfl, e3⟩ := noArg_imp e2
  obtain ⟨a1, rfl, e4⟩ := asI_iff.1 e3
  exact (s110_eq J0  a0 a1 h k).mpr e4
/-- internal/strconv.FormatInt -/
noncomputable def s88G (J : Joins) (c108 : Int → H → (Str → H → Prop) → Prop) (c109 : Int → H → (Int → H → Prop) → Prop) (c110 : AV → Int → H → (H → Prop) → Prop) (a0 : Int) (a1 : Int) (h : H) (k : Str → H → Prop) : Prop :=
fB (eqI a1 (Int.ofNat 10)) fun b1 =>
br b1 (
fB (Bool.not (ltI a0 (Int.ofNat 0))) fun b2 =>
J.jn (fun v3 h4 =>
J.jn (fun v6 h7 =>
pickB (AV.bool b2) v6 (AV.bool false) fun b11 =>
br b11 (
c108 a0 h7 fun s13 h12 =>
k s13 h12) (
pushK (.cells false 158 [(.int .u8 0), (.int .u8 0), (.int .u8 0), (.int .u8 0), (.int .u8 0), (.int .u8 0), (.int .u8 0), (.int .u8 0), (.int .u8 0), (.int .u8 0), (.int .u8 0), (.int .u8 0), (.int .u8 0), (.int .u8 0), (.int .u8 0), (.int .u8 0), (.int .u8 0), (.int .u8 0), (.int .u8 0), (.int .u8 0), (.int .u8 0), (.int .u8 0), (.int .u8 0), (.int .u8 0)]) h7 fun n14 h15 =>
fI (wrapF .u64 a0) fun x16 =>
J.jd (α := AV × AV × AV × Unit) (fun v17 d18 h19 =>
asI .u64 v17.2.2.1 fun x22 =>
c109 x22 h19 fun x23 h21 =>
fI (wrapF .i64 (Int.add (Int.ofNat 1) x23)) fun x24 =>
False) fun j20 =>
fB (ltI a0 (Int.ofNat 0)) fun b25 =>
br b25 (
op' (aUn .neg (AV.int .u64 x16)) fun v26 =>
asI .u64 v26 fun x27 =>
j20 ((AV.int .i64 a0), (AV.ptr n14 0), (AV.int .u64 x27), ()) [] h15) (
j20 ((AV.int .i64 a0), (AV.ptr n14 0), (AV.int .u64 x16), ()) [] h15))) fun j8 =>
br b2 (
asI .i64 v3 fun x9 =>
fB (ltI x9 (Int.ofNat 100)) fun b10 =>
j8 (AV.bool b10) h4) (
j8 skipV h4)) fun j5 =>
br b2 (
j5 (AV.int .i64 a0) h) (
j5 skipV h)) (
fI (wrapF .u64 a0) fun x28 =>
fB (ltI a0 (Int.ofNat 0)) fun b29 =>
False)
noncomputable def s88 : Int → Int → H → (Str → H → Prop) → Prop := s88G J0 s108 s109 s110
noncomputable def w88 (c : Int → Int → H → (Str → H → Prop) → Prop) : Fun := fun xs h k => arg xs fun a0 xs => arg xs fun a1 xs => noArg xs <| asI .i64 a0 fun a0 => asI .i64 a1 fun a1 => c a0 a1 h fun r0 h => k (.str r0) h
theorem s88_eq (J : Joins) (c108 : Int → H → (Str → H → Prop) → Prop) (c109 : Int → H → (Int → H → Prop) → Prop) (c110 : AV → Int → H → (H → Prop) → Prop) (a0 : Int) (a1 : Int) (h : H) (k : AV → H → Prop) : denF ty (gam J [(108, w108 c108), (109, w109 c109), (110, w110 c110)]) Tryz.f88 [(.int .i64 a0), (.int .i64 a1)] h k = s88G J c108 c109 c110 a0 a1 h (fun r0 h => k (.str r0) h) := by kernel_rfl
noncomputable def g88 : Fun := w88 s88
theorem g88_ok : FunOk Tryz.prog 88 g88 := (fun_ok ty_ok mixed (gam_ok (J := J0) (tab_cons g108_ok (tab_cons g109_ok (tab_cons g110_ok (tab_nil fls_fun))))) Tryz.func88 (fun args w => by simp)).imp fun xs h k e0 => by
  obtain ⟨a0, xs0, rfl, e1⟩ := arg_imp e0
  obtain ⟨a1, xs1, rfl, e2⟩ := arg_imp e1
  obtain ⟨rfl, e3⟩ := noArg_imp e2
  obtain ⟨a0, rfl, e4⟩ := asI_iff.1 e3
  obtain ⟨a1, rfl, e5⟩ := asI_iff.1 e4
  exact (s88_eq J0 s108 s109 s110 a0 a1 h k).mpr e5
/-- internal/strconv.Itoa -/
noncomputable def s62G (J : Joins) (c88 : Int → Int → H → (Str → H → Prop) → Prop) (a0 : Int) (h : H) (k : Str → H → Prop) : Prop :=
c88 a0 (Int.ofNat 10) h fun s2 h1 =>
k s2 h1
noncomputable def s62 : Int → H → (Str → H → Prop) → Prop := s62G J0 s88
noncomputable def w62 (c : Int → H → (Str → H → Prop) → Prop) : Fun := fun xs h k => arg xs fun a0 xs => noArg xs <| asI .i64 a0 fun a0 => c a0 h fun r0 h => k (.str r0) h
theorem s62_eq (J : Joins) (c88 : Int → Int → H → (Str → H → Prop) → Prop) (a0 : Int) (h : H) (k : AV → H → Prop) : denF ty (gam J [(88, w88 c88)]) Tryz.f62 [(.int .i64 a0)] h k = s62G J c88 a0 h (fun r0 h => k (.str r0) h) := by kernel_rfl
noncomputable def g62 : Fun := w62 s62
theorem g62_ok : FunOk Tryz.prog 62 g62 := (fun_ok ty_ok mixed (gam_ok (J := J0) (tab_cons g88_ok (tab_nil fls_fun))) Tryz.func62 (fun args w => by simp)).imp fun xs h k e0 => by
  obtain ⟨a0, xs0, rfl, e1⟩ := arg_imp e0
  obtain ⟨rfl, e2⟩ := noArg_imp e1
  obtain ⟨a0, rfl, e3⟩ := asI_iff.1 e2
  exact (s62_eq J0 s88 a0 h k).mpr e3
/-- strconv.Itoa -/
noncomputable def s42G (J : Joins) (c62 : Int → H → (Str → H → Prop) → Prop) (a0 : Int) (h : H) (k : Str → H → Prop) : Prop :=
c62 a0 h fun s2 h1 =>
k s2 h1
noncomputable def s42 : Int → H → (Str → H → Prop) → Prop := s42G J0 s62
noncomputable def w42 (c : Int → H → (Str → H → Prop) → Prop) : Fun := fun xs h k => arg xs fun a0 xs => noArg xs <| asI .i64 a0 fun a0 => c a0 h fun r0 h => k (.str r0) h
theorem s42_eq (J : Joins) (c62 : Int → H → (Str → H → Prop) → Prop) (a0 : Int) (h : H) (k : AV → H → Prop) : denF ty (gam J [(62, w62 c62)]) Tryz.f42 [(.int .i64 a0)] h k = s42G J c62 a0 h (fun r0 h => k (.str r0) h) := by kernel_rfl
noncomputable def g42 : Fun := w42 s42
theorem g42_ok : FunOk Tryz.prog 42 g42 := (fun_ok ty_ok mixed (gam_ok (J := J0) (tab_cons g62_ok (tab_nil fls_fun))) Tryz.func42 (fun args w => by simp)).imp fun xs h k e0 => by
  obtain ⟨a0, xs0, rfl, e1⟩ := arg_imp e0
  obtain ⟨rfl, e2⟩ := noArg_imp e1
  obtain ⟨a0, rfl, e3⟩ := asI_iff.1 e2
  exact (s42_eq J0 s62 a0 h k).mpr e3
/-- math/bits.Mul32 -/
noncomputable def s89G (J : Joins) (a0 : Int) (a1 : Int) (h : H) (k : Int → Int → H → Prop) : Prop :=
fI (wrapF .u64 a0) fun x1 =>
fI (wrapF .u64 a1) fun x2 =>
fI (wrapF .u64 (Int.mul x1 x2)) fun x3 =>
fI (shrF x3 (nmin 32 (IntKind.bits .u64))) fun x4 =>
fI (wrapF .u32 x4) fun x5 =>
fI (wrapF .u32 x3) fun x6 =>
k x5 x6 h
noncomputable def s89 : Int → Int → H → (Int → Int → H → Prop) → Prop := s89G J0 
noncomputable def w89 (c : Int → Int → H → (Int → Int → H → Prop) → Prop) : Fun := fun xs h k => arg xs fun a0 xs => arg xs fun a1 xs => noArg xs <| asI .u32 a0 fun a0 => asI .u32 a1 fun a1 => c a0 a1 h fun r0 r1 h => k (.tuple [(.int .u32 r0), (.int .u32 r1)]) h
theorem s89_eq (J : Joins) (a0 : Int) (a1 : Int) (h : H) (k : AV → H → Prop) : denF ty (gam J []) Tryz.f89 [(.int .u32 a0), (.int .u32 a1)] h k = s89G J  a0 a1 h (fun r0 r1 h => k (.tuple [(.int .u32 r0), (.int .u32 r1)]) h) := by kernel_rfl
noncomputable def g89 : Fun := w89 s89
theorem g89_ok : FunOk Tryz.prog 89 g89 := (fun_ok ty_ok mixed (gam_ok (J := J0) (tab_nil fls_fun)) Tryz.func89 (fun args w => by simp)).imp fun xs h k e0 => by
  obtain ⟨a0, xs0, rfl, e1⟩ := arg_imp e0
  obtain ⟨a1, xs1, rfl, e2⟩ := arg_imp e1
  obtain ⟨rfl, e3⟩ := noArg_imp e2
  obtain ⟨a0, rfl, e4⟩ := asI_iff.1 e3
  obtain ⟨a1, rfl, e5⟩ := asI_iff.1 e4
  exact (s89_eq J0  a0 a1 h k).mpr e5
/-- math/bits.Mul64 -/
noncomputable def s90G (J : Joins) (a0 : Int) (a1 : Int) (h : H) (k : Int → Int → H → Prop) : Prop :=
fI (landF .u64 a0 (Int.ofNat 4294967295)) fun x1 =>
fI (shrF a0 (nmin 32 (IntKind.bits .u64))) fun x2 =>
fI (landF .u64 a1 (Int.ofNat 4294967295)) fun x3 =>
fI (shrF a1 (nmin 32 (IntKind.bits .u64))) fun x4 =>
fI (wrapF .u64 (Int.mul x1 x3)) fun x5 =>
fI (wrapF .u64 (Int.mul x2 x3)) fun x6 =>
fI (shrF x5 (nmin 32 (IntKind.bits .u64))) fun x7 =>
fI (wrapF .u64 (Int.add x6 x7)) fun x8 =>
fI (landF .u64 x8 (Int.ofNat 4294967295)) fun x9 =>
fI (shrF x8 (nmin 32 (IntKind.bits .u64))) fun x10 =>
fI (wrapF .u64 (Int.mul x1 x4)) fun x11 =>
fI (wrapF .u64 (Int.add x9 x11)) fun x12 =>
fI (wrapF .u64 (Int.mul x2 x4)) fun x13 =>
fI (wrapF .u64 (Int.add x13 x10)) fun x14 =>
fI (shrF x12 (nmin 32 (IntKind.bits .u64))) fun x15 =>
fI (wrapF .u64 (Int.add x14 x15)) fun x16 =>
fI (wrapF .u64 (Int.mul a0 a1)) fun x17 =>
k x16 x17 h
noncomputable def s90 : Int → Int → H → (Int → Int → H → Prop) → Prop := s90G J0 
noncomputable def w90 (c : Int → Int → H → (Int → Int → H → Prop) → Prop) : Fun := fun xs h k => arg xs fun a0 xs => arg xs fun a1 xs => noArg xs <| asI .u64 a0 fun a0 => asI .u64 a1 fun a1 => c a0 a1 h fun r0 r1 h => k (.tuple [(.int .u64 r0), (.int .u64 r1)]) h
theorem s90_eq (J : Joins) (a0 : Int) (a1 : Int) (h : H) (k : AV → H → Prop) : denF ty (gam J []) Tryz.f90 [(.int .u64 a0), (.int .u64 a1)] h k = s90G J  a0 a1 h (fun r0 r1 h => k (.tuple [(.int .u64 r0), (.int .u64 r1)]) h) := by kernel_rfl
noncomputable def g90 : Fun := w90 s90
theorem g90_ok : FunOk Tryz.prog 90 g90 := (fun_ok ty_ok mixed (gam_ok (J := J0) (tab_nil fls_fun)) Tryz.func90 (fun args w => by simp)).imp fun xs h k e0 => by
  obtain ⟨a0, xs0, rfl, e1⟩ := arg_imp e0
  obtain ⟨a1, xs1, rfl, e2⟩ := arg_imp e1
  obtain ⟨rfl, e3⟩ := noArg_imp e2
  obtain ⟨a0, rfl, e4⟩ := asI_iff.1 e3
  obtain ⟨a1, rfl, e5⟩ := asI_iff.1 e4
  exact (s90_eq J0  a0 a1 h k).mpr e5
/-- math/bits.Mul -/
noncomputable def s63G (J : Joins) (c89 : Int → Int → H → (Int → Int → H → Prop) → Prop) (c90 : Int → Int → H → (Int → Int → H → Prop) → Prop) (a0 : Int) (a1 : Int) (h : H) (k : Int → Int → H → Prop) : Prop :=
br false (
fI (wrapF .u32 a0) fun x1 =>
fI (wrapF .u32 a1) fun x2 =>
c89 x1 x2 h fun x4 x5 h3 =>
fI (wrapF .u64 x4) fun x6 =>
fI (wrapF .u64 x5) fun x7 =>
k x6 x7 h3) (
c90 a0 a1 h fun x9 x10 h8 =>
k x9 x10 h8)
noncomputable def s63 : Int → Int → H → (Int → Int → H → Prop) → Prop := s63G J0 s89 s90
noncomputable def w63 (c : Int → Int → H → (Int → Int → H → Prop) → Prop) : Fun := fun xs h k => arg xs fun a0 xs => arg xs fun a1 xs => noArg xs <| asI .u64 a0 fun a0 => asI .u64 a1 fun a1 => c a0 a1 h fun r0 r1 h => k (.tuple [(.int .u64 r0), (.int .u64 r1)]) h
theorem s63_eq (J : Joins) (c89 : Int → Int → H → (Int → Int → H → Prop) → Prop) (c90 : Int → Int → H → (Int → Int → H → Prop) → Prop) (a0 : Int) (a1 : Int) (h : H) (k : AV → H → Prop) : denF ty (gam J [(89, w89 c89), (90, w90 c90)]) Tryz.f63 [(.int .u64 a0), (.int .u64 a1)] h k = s63G J c89 c90 a0 a1 h (fun r0 r1 h => k (.tuple [(.int .u64 r0), (.int .u64 r1)]) h) := by kernel_rfl
noncomputable def g63 : Fun := w63 s63
theorem g63_ok : FunOk Tryz.prog 63 g63 := (fun_ok ty_ok mixed (gam_ok (J := J0) (tab_cons g89_ok (tab_cons g90_ok (tab_nil fls_fun)))) Tryz.func63 (fun args w => by simp)).imp fun xs h k e0 => by
  obtain ⟨a0, xs0, rfl, e1⟩ := arg_imp e0
  obtain ⟨a1, xs1, rfl, e2⟩ := arg_imp e1
  obtain ⟨rfl, e3⟩ := noArg_imp e2
  obtain ⟨a0, rfl, e4⟩ := asI_iff.1 e3
  obtain ⟨a1, rfl, e5⟩ := asI_iff.1 e4
  exact (s63_eq J0 s89 s90 a0 a1 h k).mpr e5
/-- internal/stringslite.HasPrefix -/
noncomputable def s91G (J : Joins) (a0 : Str) (a1 : Str) (h : H) (k : Bool → H → Prop) : Prop :=
fB (Bool.not (ltI (Int.ofNat a0.len) (Int.ofNat a1.len))) fun b1 =>
J.jn (fun v2 h3 =>
J.jn (fun v5 h6 =>
J.jn (fun v8 h9 =>
J.jn (fun v12 h13 =>
J.jn (fun v16 h17 =>
J.jn (fun v19 h20 =>
pickB (AV.bool b1) v19 (AV.bool false) fun b25 =>
k b25 h20) fun j21 =>
br b1 (
asS v12 fun s22 =>
asS v16 fun s23 =>
fB (Str.beq s22 s23) fun b24 =>
j21 (AV.bool b24) h17) (
j21 skipV h17)) fun j18 =>
br b1 (
j18 (AV.str a1) h13) (
j18 skipV h13)) fun j14 =>
br b1 (
subK v2 none (some v8) fun s15 =>
j14 (AV.str s15) h9) (
j14 skipV h9)) fun j10 =>
br b1 (
asS v5 fun s11 =>
j10 (AV.int .i64 (Int.ofNat s11.len)) h6) (
j10 skipV h6)) fun j7 =>
br b1 (
j7 (AV.str a1) h3) (
j7 skipV h3)) fun j4 =>
br b1 (
j4 (AV.str a0) h) (
j4 skipV h)
noncomputable def s91 : Str → Str → H → (Bool → H → Prop) → Prop := s91G J0 
noncomputable def w91 (c : Str → Str → H → (Bool → H → Prop) → Prop) : Fun := fun xs h k => arg xs fun a0 xs => arg xs fun a1 xs => noArg xs <| asS a0 fun a0 => asS a1 fun a1 => c a0 a1 h fun r0 h => k (.bool r0) h
theorem s91_eq (J : Joins) (a0 : Str) (a1 : Str) (h : H) (k : AV → H → Prop) : denF ty (gam J []) Tryz.f91 [(.str a0), (.str a1)] h k = s91G J  a0 a1 h (fun r0 h => k (.bool r0) h) := by kernel_rfl
noncomputable def g91 : Fun := w91 s91
theorem g91_ok : FunOk Tryz.prog 91 g91 := (fun_ok ty_ok mixed (gam_ok (J := J0) (tab_nil fls_fun)) Tryz.func91 (fun args w => by simp)).imp fun xs h k e0 => by
  obtain ⟨a0, xs0, rfl, e1⟩ := arg_imp e0
  obtain ⟨a1, xs1, rfl, e2⟩ := arg_imp e1
  obtain ⟨rfl, e3⟩ := noArg_imp e2
  obtain ⟨a0, rfl, e4⟩ := asS_iff.1 e3
  obtain ⟨a1, rfl, e5⟩ := asS_iff.1 e4
  exact (s91_eq J0  a0 a1 h k).mpr e5
/-- strings.HasPrefix -/
noncomputable def s64G (J : Joins) (c91 : Str → Str → H → (Bool → H → Prop) → Prop) (a0 : Str) (a1 : Str) (h : H) (k : Bool → H → Prop) : Prop :=
c91 a0 a1 h fun b2 h1 =>
k b2 h1
noncomputable def s64 : Str → Str → H → (Bool → H → Prop) → Prop := s64G J0 s91
noncomputable def w64 (c : Str → Str → H → (Bool → H → Prop) → Prop) : Fun := fun xs h k => arg xs fun a0 xs => arg xs fun a1 xs => noArg xs <| asS a0 fun a0 => asS a1 fun a1 => c a0 a1 h fun r0 h => k (.bool r0) h
theorem s64_eq (J : Joins) (c91 : Str → Str → H → (Bool → H → Prop) → Prop) (a0 : Str) (a1 : Str) (h : H) (k : AV → H → Prop) : denF ty (gam J [(91, w91 c91)]) Tryz.f64 [(.str a0), (.str a1)] h k = s64G J c91 a0 a1 h (fun r0 h => k (.bool r0) h) := by kernel_rfl
noncomputable def g64 : Fun := w64 s64
theorem g64_ok : FunOk Tryz.prog 64 g64 := (fun_ok ty_ok mixed (gam_ok (J := J0) (tab_cons g91_ok (tab_nil fls_fun))) Tryz.func64 (fun args w => by simp)).imp fun xs h k e0 => by
  obtain ⟨a0, xs0, rfl, e1⟩ := arg_imp e0
  obtain ⟨a1, xs1, rfl, e2⟩ := arg_imp e1
  obtain ⟨rfl, e3⟩ := noArg_imp e2
  obtain ⟨a0, rfl, e4⟩ := asS_iff.1 e3
  obtain ⟨a1, rfl, e5⟩ := asS_iff.1 e4
  exact (s64_eq J0 s91 a0 a1 h k).mpr e5
/-- internal/abi.NoEscape -/
noncomputable def g112 : Fun := noEsc
theorem g112_ok : FunOk Tryz.prog 112 g112 := noEscape_ok Tryz.func112 (by kernel_rfl) (by kernel_rfl) (by kernel_rfl) (by kernel_rfl)
/-- (*strings.Builder).copyCheck -/
noncomputable def s92G (J : Joins) (c112 : Fun) (a0 : AV) (h : H) (k : H → Prop) : Prop :=
okNil a0 (
faK 0 a0 fun p1 =>
ldV p1 h fun v2 =>
nilB 0 v2 fun b3 =>
br b3 (
op' (aToU a0 h) fun v4 =>
c112 [v4] h fun v5 h6 =>
op' (aOfU 113 2 v5 h6) fun v7 =>
okNil a0 (
faK 0 a0 fun p8 =>
stV p8 v7 h6 fun h9 =>
k  h9)) (
okNil a0 (
faK 0 a0 fun p10 =>
ldV p10 h fun v11 =>
obK (aBin ty .neq 111 false v11 a0) fun b12 =>
br b12 (
False) (
k  h))))
noncomputable def s92 : AV → H → (H → Prop) → Prop := s92G J0 g112
noncomputable def w92 (c : AV → H → (H → Prop) → Prop) : Fun := fun xs h k => arg xs fun a0 xs => noArg xs <| c a0 h fun  h => k (.tuple []) h
theorem s92_eq (J : Joins) (c112 : Fun) (a0 : AV) (h : H) (k : AV → H → Prop) : denF ty (gam J [(112, c112)]) Tryz.f92 [a0] h k = s92G J c112 a0 h (fun  h => k (.tuple []) h) := by kernel_rfl
noncomputable def g92 : Fun := w92 s92
theorem g92_ok : FunOk Tryz.prog 92 g92 := (fun_ok ty_ok mixed (gam_ok (J := J0) (tab_cons g112_ok (tab_nil fls_fun))) Tryz.func92 (fun args w => by simp)).imp fun xs h k e0 => by
  obtain ⟨a0, xs0, rfl, e1⟩ := arg_imp e0
  obtain ⟨rfl, e2⟩ := noArg_imp e1
  exact (s92_eq J0 g112 a0 h k).mpr e2
/-- (*strings.Builder).grow -/
noncomputable def s93G (J : Joins) (a0 : AV) (a1 : Int) (h : H) (k : H → Prop) : Prop :=
okNil a0 (
faK 1 a0 fun p1 =>
ldV p1 h fun v2 =>
okNil a0 (
faK 1 a0 fun p3 =>
ldV p3 h fun v4 =>
lenK v4 fun x5 =>
False))
noncomputable def s93 : AV → Int → H → (H → Prop) → Prop := s93G J0 
noncomputable def w93 (c : AV → Int → H → (H → Prop) → Prop) : Fun := fun xs h k => arg xs fun a0 xs => arg xs fun a1 xs => noArg xs <| asI .i64 a1 fun a1 => c a0 a1 h fun  h => k (.tuple []) h
theorem s93_eq (J : Joins) (a0 : AV) (a1 : Int) (h : H) (k : AV → H → Prop) : denF ty (gam J []) Tryz.f93 [a0, (.int .i64 a1)] h k = s93G J  a0 a1 h (fun  h => k (.tuple []) h) := by kernel_rfl
noncomputable def g93 : Fun := w93 s93
theorem g93_ok : FunOk Tryz.prog 93 g93 := (fun_ok ty_ok mixed (gam_ok (J := J0) (tab_nil fls_fun)) Tryz.func93 (fun args w => by simp)).imp fun xs h k e0 => by
  obtain ⟨a0, xs0, rfl, e1⟩ := arg_imp e0
  obtain ⟨a1, xs1, rfl, e2⟩ := arg_imp e1
  obtain ⟨rfl, e3⟩ := noArg_imp e2
  obtain ⟨a1, rfl, e4⟩ := asI_iff.1 e3
  exact (s93_eq J0  a0 a1 h k).mpr e4
/-- (*strings.Builder).Grow -/
noncomputable def s65G (J : Joins) (c92 : AV → H → (H → Prop) → Prop) (c93 : AV → Int → H → (H → Prop) → Prop) (a0 : AV) (a1 : Int) (h : H) (k : H → Prop) : Prop :=
c92 a0 h fun  h1 =>
J.jd (α := AV × AV × Unit) (fun v2 d3 h4 =>
okNil v2.1 (
faK 1 v2.1 fun p6 =>
ldV p6 h4 fun v7 =>
okNil v2.1 (
faK 1 v2.1 fun p8 =>
ldV p8 h4 fun v9 =>
lenK v9 fun x10 =>
False))) fun j5 =>
fB (ltI a1 (Int.ofNat 0)) fun b11 =>
br b11 (
False) (
j5 (a0, (AV.int .i64 a1), ()) [] h1)
noncomputable def s65 : AV → Int → H → (H → Prop) → Prop := s65G J0 s92 s93
noncomputable def w65 (c : AV → Int → H → (H → Prop) → Prop) : Fun := fun xs h k => arg xs fun a0 xs => arg xs fun a1 xs => noArg xs <| asI .i64 a1 fun a1 => c a0 a1 h fun  h => k (.tuple []) h
theorem s65_eq (J : Joins) (c92 : AV → H → (H → Prop) → Prop) (c93 : AV → Int → H → (H → Prop) → Prop) (a0 : AV) (a1 : Int) (h : H) (k : AV → H → Prop) : denF ty (gam J [(92, w92 c92), (93, w93 c93)]) Tryz.f65 [a0, (.int .i64 a1)] h k = s65G J c92 c93 a0 a1 h (fun  h => k (.tuple []) h) := by kernel_rfl
noncomputable def g65 : Fun := w65 s65
theorem g65_ok : FunOk Tryz.prog 65 g65 := (fun_ok ty_ok mixed (gam_ok (J := J0) (tab_cons g92_ok (tab_cons g93_ok (tab_nil fls_fun)))) Tryz.func65 (fun args w => by simp)).imp fun xs h k e0 => by
  obtain ⟨a0, xs0, rfl, e1⟩ := arg_imp e0
  obtain ⟨a1, xs1, rfl, e2⟩ := arg_imp e1
  obtain ⟨rfl, e3⟩ := noArg_imp e2
  obtain ⟨a1, rfl, e4⟩ := asI_iff.1 e3
  exact (s65_eq J0 s92 s93 a0 a1 h k).mpr e4
/-- (*strings.Builder).WriteString -/
noncomputable def s66G (J : Joins) (c92 : AV → H → (H → Prop) → Prop) (a0 : AV) (a1 : Str) (h : H) (k : Int → AV → H → Prop) : Prop :=
c92 a0 h fun  h1 =>
okNil a0 (
faK 1 a0 fun p2 =>
ldV p2 h1 fun v3 =>
apB .str 5 v3 (AV.str a1) h1 fun v4 h5 =>
okNil a0 (
faK 1 a0 fun p6 =>
stV p6 v4 h5 fun h7 =>
k (Int.ofNat a1.len) AV.nili h7))
noncomputable def s66 : AV → Str → H → (Int → AV → H → Prop) → Prop := s66G J0 s92
noncomputable def w66 (c : AV → Str → H → (Int → AV → H → Prop) → Prop) : Fun := fun xs h k => arg xs fun a0 xs => arg xs fun a1 xs => noArg xs <| asS a1 fun a1 => c a0 a1 h fun r0 r1 h => k (.tuple [(.int .i64 r0), r1]) h
theorem s66_eq (J : Joins) (c92 : AV → H → (H → Prop) → Prop) (a0 : AV) (a1 : Str) (h : H) (k : AV → H → Prop) : denF ty (gam J [(92, w92 c92)]) Tryz.f66 [a0, (.str a1)] h k = s66G J c92 a0 a1 h (fun r0 r1 h => k (.tuple [(.int .i64 r0), r1]) h) := by kernel_rfl
noncomputable def g66 : Fun := w66 s66
theorem g66_ok : FunOk Tryz.prog 66 g66 := (fun_ok ty_ok mixed (gam_ok (J := J0) (tab_cons g92_ok (tab_nil fls_fun))) Tryz.func66 (fun args w => by simp)).imp fun xs h k e0 => by
  obtain ⟨a0, xs0, rfl, e1⟩ := arg_imp e0
  obtain ⟨a1, xs1, rfl, e2⟩ := arg_imp e1
  obtain ⟨rfl, e3⟩ := noArg_imp e2
  obtain ⟨a1, rfl, e4⟩ := asS_iff.1 e3
  exact (s66_eq J0 s92 a0 a1 h k).mpr e4
/-- (*strings.Builder).String -/
noncomputable def s68G (J : Joins) (a0 : AV) (h : H) (k : Str → H → Prop) : Prop :=
okNil a0 (
faK 1 a0 fun p1 =>
ldV p1 h fun v2 =>
spX (aSliceData v2) fun v3 =>
okNil a0 (
faK 1 a0 fun p4 =>
ldV p4 h fun v5 =>
lenK v5 fun x6 =>
op2 (aUnStr 5 v3 (AV.int .i64 (Int.ofNat x6)) h) fun v7 h8 =>
asS v7 fun s9 =>
k s9 h8))
noncomputable def s68 : AV → H → (Str → H → Prop) → Prop := s68G J0 
noncomputable def w68 (c : AV → H → (Str → H → Prop) → Prop) : Fun := fun xs h k => arg xs fun a0 xs => noArg xs <| c a0 h fun r0 h => k (.str r0) h
theorem s68_eq (J : Joins) (a0 : AV) (h : H) (k : AV → H → Prop) : denF ty (gam J []) Tryz.f68 [a0] h k = s68G J  a0 h (fun r0 h => k (.str r0) h) := by kernel_rfl
noncomputable def g68 : Fun := w68 s68
theorem g68_ok : FunOk Tryz.prog 68 g68 := (fun_ok ty_ok mixed (gam_ok (J := J0) (tab_nil fls_fun)) Tryz.func68 (fun args w => by simp)).imp fun xs h k e0 => by
  obtain ⟨a0, xs0, rfl, e1⟩ := arg_imp e0
  obtain ⟨rfl, e2⟩ := noArg_imp e1
  exact (s68_eq J0  a0 h k).mpr e2
/-- strings.Repeat -/
noncomputable def s43G (J : Joins) (c63 : Int → Int → H → (Int → Int → H → Prop) → Prop) (c64 : Str → Str → H → (Bool → H → Prop) → Prop) (c65 : AV → Int → H → (H → Prop) → Prop) (c66 : AV → Str → H → (Int → AV → H → Prop) → Prop) (c68 : AV → H → (Str → H → Prop) → Prop) (a0 : Str) (a1 : Int) (h : H) (k : Str → H → Prop) : Prop :=
fB (eqI a1 (Int.ofNat 0)) fun b1 =>
br b1 (
k ⟨0, 0⟩ h) (
fB (eqI a1 (Int.ofNat 1)) fun b2 =>
br b2 (
k a0 h) (
J.jd (α := AV × AV × Unit) (fun v3 d4 h5 =>
asS v3.1 fun s7 =>
fI (wrapF .u64 (Int.ofNat s7.len)) fun x8 =>
asI .i64 v3.2.1 fun x9 =>
fI (wrapF .u64 x9) fun x10 =>
c63 x8 x10 h5 fun x12 x13 h11 =>
J.jd (α := AV × AV × Unit) (fun v14 d15 h16 =>
asI .u64 v14.2.1 fun x18 =>
fI (wrapF .i64 x18) fun x19 =>
asS v14.1 fun s20 =>
fB (eqI (Int.ofNat s20.len) (Int.ofNat 0)) fun b21 =>
br b21 (
leaveK (gam J [(63, w63 c63), (64, w64 c64), (65, w65 c65), (66, w66 c66), (68, w68 c68)]) d15 h16 fun h22 =>
k ⟨0, 0⟩ h22) (
J.jd (α := AV × AV × Unit) (fun v23 d24 h25 =>
J.jd (α := AV × AV × AV × Unit) (fun v27 d28 h29 =>
pushK (.cells false 113 [(.nilp), (.nils)]) h29 fun n31 h32 =>
asI .i64 v27.2.1 fun x34 =>
c65 (AV.ptr n31 0) x34 h32 fun  h33 =>
asS v27.1 fun s36 =>
c66 (AV.ptr n31 0) s36 h33 fun x37 v38 h35 =>
J.lp (α := AV × AV × AV × Unit) (fun r42 v39 d40 h41 =>
False) (v27.2.1, v27.2.2.1, (AV.ptr n31 0), ()) d28 h35) fun j30 =>
asI .i64 v23.2.1 fun x43 =>
fB (ltI (Int.ofNat 8192) x43) fun b44 =>
br b44 (
asS v23.1 fun s45 =>
ck (Bool.not (eqI (Int.ofNat s45.len) 0)) (fI (wrapF .i64 (Int.tdiv (Int.ofNat 8192) (Int.ofNat s45.len))) fun x46 =>
asS v23.1 fun s47 =>
fI (wrapF .i64 (Int.mul x46 (Int.ofNat s47.len))) fun x48 =>
fB (eqI x48 (Int.ofNat 0)) fun b49 =>
br b49 (
asS v23.1 fun s50 =>
j30 (v23.1, v23.2.1, (AV.int .i64 (Int.ofNat s50.len)), ()) d24 h25) (
j30 (v23.1, v23.2.1, (AV.int .i64 x48), ()) d24 h25))) (
j30 (v23.1, v23.2.1, v23.2.1, ()) d24 h25)) fun j26 =>
ixsK v14.1 (AV.int .i64 (Int.ofNat 0)) fun x51 =>
J.jd (α := AV × AV × AV × Unit) (fun v52 d53 h54 =>
asB v52.2.2.1 fun b56 =>
br b56 (
asI .i64 v52.2.1 fun x57 =>
fB (Bool.not (ltI (Int.ofNat 128) x57)) fun b58 =>
J.jn (fun v59 h60 =>
J.jn (fun v62 h63 =>
pickB (AV.bool b58) v62 (AV.bool false) fun b68 =>
br b68 (
subK (AV.str ⟨128, 22559286398272199626406967100097565284617750323981886402940245478617433826572669883320279507125651579120955467277978774294436363145338556548122030511620282274857147410179198152320278538195588281656857468496941900403218909156701224341824390342378319957753789576104947230111026941299415379430319225678334009376⟩) none (some v52.2.1) fun s69 =>
leaveK (gam J [(63, w63 c63), (64, w64 c64), (65, w65 c65), (66, w66 c66), (68, w68 c68)]) d53 h63 fun h70 =>
k s69 h70) (
asI .i64 v52.2.1 fun x71 =>
fB (Bool.not (ltI (Int.ofNat 128) x71)) fun b72 =>
J.jn (fun v73 h74 =>
J.jn (fun v76 h77 =>
pickB (AV.bool b72) v76 (AV.bool false) fun b82 =>
br b82 (
subK (AV.str ⟨128, 31723996497570280724634797484512201181493711393099527754134720204305766318617817023419143056895447533138843625859657651351551135673132345145796605406966021949017863545564497401700391694337546021079955815073824547442026591001611096730690548918969512440591266591397582042343631636202302877323886411110157200685⟩) none (some v52.2.1) fun s83 =>
leaveK (gam J [(63, w63 c63), (64, w64 c64), (65, w65 c65), (66, w66 c66), (68, w68 c68)]) d53 h77 fun h84 =>
k s83 h84) (
asI .i64 v52.2.1 fun x85 =>
fB (Bool.not (ltI (Int.ofNat 64) x85)) fun b86 =>
J.jn (fun v87 h88 =>
J.jn (fun v90 h91 =>
pickB (AV.bool b86) v90 (AV.bool false) fun b96 =>
br b96 (
subK (AV.str ⟨64, 2523822669165665336390404705544629859290233566229156400512670389406449699778550019162705750243181821682829526246867962513647789705778177872269863342321712⟩) none (some v52.2.1) fun s97 =>
leaveK (gam J [(63, w63 c63), (64, w64 c64), (65, w65 c65), (66, w66 c66), (68, w68 c68)]) d53 h91 fun h98 =>
k s97 h98) (
asI .i64 v52.2.1 fun x99 =>
fB (Bool.not (ltI (Int.ofNat 128) x99)) fun b100 =>
J.jn (fun v101 h102 =>
J.jn (fun v104 h105 =>
pickB (AV.bool b100) v104 (AV.bool false) fun b110 =>
br b110 (
subK (AV.str ⟨128, 43003639696706380537838281034560983823802586555090470955604842943614483231904151965079282810458273322699321359498647038498769317245801623419857620662776163086446437250654096477860530963435340161908384549322295497643636045579961708901602744090158672419468161379450055657399145106852010567039046023949324205373⟩) none (some v52.2.1) fun s111 =>
leaveK (gam J [(63, w63 c63), (64, w64 c64), (65, w65 c65), (66, w66 c66), (68, w68 c68)]) d53 h105 fun h112 =>
k s111 h112) (
asI .i64 v52.2.1 fun x113 =>
fB (Bool.not (ltI (Int.ofNat 64) x113)) fun b114 =>
J.jn (fun v115 h116 =>
J.jn (fun v118 h119 =>
pickB (AV.bool b114) v118 (AV.bool false) fun b124 =>
br b124 (
subK (AV.str ⟨64, 473216750468562250573200882289618098616918793667966825096125698013709318708478128593007328170596591565530536171287742971308960569833408351050599376685321⟩) none (some v52.2.1) fun s125 =>
leaveK (gam J [(63, w63 c63), (64, w64 c64), (65, w65 c65), (66, w66 c66), (68, w68 c68)]) d53 h119 fun h126 =>
k s125 h126) (
j26 (v52.1, v52.2.1, ()) d53 h119)) fun j120 =>
br b114 (
asS v115 fun s122 =>
c64 ⟨64, 473216750468562250573200882289618098616918793667966825096125698013709318708478128593007328170596591565530536171287742971308960569833408351050599376685321⟩ s122 h116 fun b123 h121 =>
j120 (AV.bool b123) h121) (
j120 skipV h116)) fun j117 =>
br b114 (
j117 v52.1 h105) (
j117 skipV h105))) fun j106 =>
br b100 (
asS v101 fun s108 =>
c64 ⟨128, 43003639696706380537838281034560983823802586555090470955604842943614483231904151965079282810458273322699321359498647038498769317245801623419857620662776163086446437250654096477860530963435340161908384549322295497643636045579961708901602744090158672419468161379450055657399145106852010567039046023949324205373⟩ s108 h102 fun b109 h107 =>
j106 (AV.bool b109) h107) (
j106 skipV h102)) fun j103 =>
br b100 (
j103 v52.1 h91) (
j103 skipV h91))) fun j92 =>
br b86 (
asS v87 fun s94 =>
c64 ⟨64, 2523822669165665336390404705544629859290233566229156400512670389406449699778550019162705750243181821682829526246867962513647789705778177872269863342321712⟩ s94 h88 fun b95 h93 =>
j92 (AV.bool b95) h93) (
j92 skipV h88)) fun j89 =>
br b86 (
j89 v52.1 h77) (
j89 skipV h77))) fun j78 =>
br b72 (
asS v73 fun s80 =>
c64 ⟨128, 31723996497570280724634797484512201181493711393099527754134720204305766318617817023419143056895447533138843625859657651351551135673132345145796605406966021949017863545564497401700391694337546021079955815073824547442026591001611096730690548918969512440591266591397582042343631636202302877323886411110157200685⟩ s80 h74 fun b81 h79 =>
j78 (AV.bool b81) h79) (
j78 skipV h74)) fun j75 =>
br b72 (
j75 v52.1 h63) (
j75 skipV h63))) fun j64 =>
br b58 (
asS v59 fun s66 =>
c64 ⟨128, 22559286398272199626406967100097565284617750323981886402940245478617433826572669883320279507125651579120955467277978774294436363145338556548122030511620282274857147410179198152320278538195588281656857468496941900403218909156701224341824390342378319957753789576104947230111026941299415379430319225678334009376⟩ s66 h60 fun b67 h65 =>
j64 (AV.bool b67) h65) (
j64 skipV h60)) fun j61 =>
br b58 (
j61 v52.1 h54) (
j61 skipV h54)) (
j26 (v52.1, v52.2.1, ()) d53 h54)) fun j55 =>
fB (eqI x51 (Int.ofNat 32)) fun b127 =>
br b127 (
j55 (v14.1, (AV.int .i64 x19), (AV.bool b127), ()) d15 h16) (
fB (eqI x51 (Int.ofNat 45)) fun b128 =>
br b128 (
j55 (v14.1, (AV.int .i64 x19), (AV.bool b128), ()) d15 h16) (
fB (eqI x51 (Int.ofNat 48)) fun b129 =>
br b129 (
j55 (v14.1, (AV.int .i64 x19), (AV.bool b129), ()) d15 h16) (
fB (eqI x51 (Int.ofNat 61)) fun b130 =>
br b130 (
j55 (v14.1, (AV.int .i64 x19), (AV.bool b130), ()) d15 h16) (
fB (eqI x51 (Int.ofNat 9)) fun b131 =>
j55 (v14.1, (AV.int .i64 x19), (AV.bool b131), ()) d15 h16)))))) fun j17 =>
fB (ltI (Int.ofNat 0) x12) fun b132 =>
J.jn (fun v133 h134 =>
J.jn (fun v136 h137 =>
pickB (AV.bool b132) (AV.bool true) v136 fun b141 =>
br b141 (
False) (
j17 (v3.1, (AV.int .u64 x13), ()) d4 h137)) fun j138 =>
br b132 (
j138 skipV h134) (
asI .u64 v133 fun x139 =>
fB (ltI (Int.ofNat 9223372036854775807) x139) fun b140 =>
j138 (AV.bool b140) h134)) fun j135 =>
br b132 (
j135 skipV h11) (
j135 (AV.int .u64 x13) h11)) fun j6 =>
fB (ltI a1 (Int.ofNat 0)) fun b142 =>
br b142 (
False) (
j6 ((AV.str a0), (AV.int .i64 a1), ()) [] h)))
noncomputable def s43 : Str → Int → H → (Str → H → Prop) → Prop := s43G J0 s63 s64 s65 s66 s68
noncomputable def w43 (c : Str → Int → H → (Str → H → Prop) → Prop) : Fun := fun xs h k => arg xs fun a0 xs => arg xs fun a1 xs => noArg xs <| asS a0 fun a0 => asI .i64 a1 fun a1 => c a0 a1 h fun r0 h => k (.str r0) h
theorem s43_eq (J : Joins) (c63 : Int → Int → H → (Int → Int → H → Prop) → Prop) (c64 : Str → Str → H → (Bool → H → Prop) → Prop) (c65 : AV → Int → H → (H → Prop) → Prop) (c66 : AV → Str → H → (Int → AV → H → Prop) → Prop) (c68 : AV → H → (Str → H → Prop) → Prop) (a0 : Str) (a1 : Int) (h : H) (k : AV → H → Prop) : denF ty (gam J [(63, w63 c63), (64, w64 c64), (65, w65 c65), (66, w66 c66), (68, w68 c68)]) Tryz.f43 [(.str a0), (.int .i64 a1)] h k = s43G J c63 c64 c65 c66 c68 a0 a1 h (fun r0 h => k (.str r0) h) := by kernel_rfl
noncomputable def g43 : Fun := w43 s43
theorem g43_ok : FunOk Tryz.prog 43 g43 := (fun_ok ty_ok mixed (gam_ok (J := J0) (tab_cons g63_ok (tab_cons g64_ok (tab_cons g65_ok (tab_cons g66_ok (tab_cons g68_ok (tab_nil fls_fun))))))) Tryz.func43 (fun args w => by simp)).imp fun xs h k e0 => by
  obtain ⟨a0, xs0, rfl, e1⟩ := arg_imp e0
  obtain ⟨a1, xs1, rfl, e2⟩ := arg_imp e1
  obtain ⟨rfl, e3⟩ := noArg_imp e2
  obtain ⟨a0, rfl, e4⟩ := asS_iff.1 e3
  obtain ⟨a1, rfl, e5⟩ := asI_iff.1 e4
  exact (s43_eq J0 s63 s64 s65 s66 s68 a0 a1 h k).mpr e5
/-- stagepost/wal.Name -/
noncomputable def s14G (J : Joins) (c42 : Int → H → (Str → H → Prop) → Prop) (c43 : Str → Int → H → (Str → H → Prop) → Prop) (a0 : Int) (h : H) (k : Str → Int → H → Prop) : Prop :=
fB (ltI a0 (Int.ofNat 1)) fun b1 =>
J.jn (fun v2 h3 =>
J.jn (fun v5 h6 =>
pickB (AV.bool b1) (AV.bool true) v5 fun b10 =>
br b10 (
k ⟨0, 0⟩ (Int.ofNat 2) h6) (
c42 a0 h6 fun s12 h11 =>
fI (wrapF .i64 (Int.sub (Int.ofNat 6) (Int.ofNat s12.len))) fun x13 =>
c43 ⟨1, 48⟩ x13 h11 fun s15 h14 =>
ck (Nat.ble (Nat.add (⟨4, 2002873389⟩ : Str).len s15.len) 9223372036854775807) (fS (Str.cat (⟨4, 2002873389⟩ : Str) s15) fun s16 =>
ck (Nat.ble (Nat.add s16.len s12.len) 9223372036854775807) (fS (Str.cat s16 s12) fun s17 =>
k s17 (Int.ofNat 0) h14)))) fun j7 =>
br b1 (
j7 skipV h3) (
asI .i64 v2 fun x8 =>
fB (ltI (Int.ofNat 999999) x8) fun b9 =>
j7 (AV.bool b9) h3)) fun j4 =>
br b1 (
j4 skipV h) (
j4 (AV.int .i64 a0) h)
noncomputable def s14 : Int → H → (Str → Int → H → Prop) → Prop := s14G J0 s42 s43
noncomputable def w14 (c : Int → H → (Str → Int → H → Prop) → Prop) : Fun := fun xs h k => arg xs fun a0 xs => noArg xs <| asI .i64 a0 fun a0 => c a0 h fun r0 r1 h => k (.tuple [(.str r0), (.int .i64 r1)]) h
theorem s14_eq (J : Joins) (c42 : Int → H → (Str → H → Prop) → Prop) (c43 : Str → Int → H → (Str → H → Prop) → Prop) (a0 : Int) (h : H) (k : AV → H → Prop) : denF ty (gam J [(42, w42 c42), (43, w43 c43)]) Tryz.f14 [(.int .i64 a0)] h k = s14G J c42 c43 a0 h (fun r0 r1 h => k (.tuple [(.str r0), (.int .i64 r1)]) h) := by kernel_rfl
noncomputable def g14 : Fun := w14 s14
theorem g14_ok : FunOk Tryz.prog 14 g14 := (fun_ok ty_ok mixed (gam_ok (J := J0) (tab_cons g42_ok (tab_cons g43_ok (tab_nil fls_fun)))) Tryz.func14 (fun args w => by simp)).imp fun xs h k e0 => by
  obtain ⟨a0, xs0, rfl, e1⟩ := arg_imp e0
  obtain ⟨rfl, e2⟩ := noArg_imp e1
  obtain ⟨a0, rfl, e3⟩ := asI_iff.1 e2
  exact (s14_eq J0 s42 s43 a0 h k).mpr e3
/-- stagepost/vfs.named -/
noncomputable def s98G (J : Joins) (a0 : Str) (h : H) (k : Bool → H → Prop) : Prop :=
fB (Str.beq a0 (⟨0, 0⟩ : Str)) fun b1 =>
J.jn (fun v2 h3 =>
J.jn (fun v5 h6 =>
J.jn (fun v9 h10 =>
pickB (AV.bool b1) (AV.bool true) v9 fun b14 =>
br b14 (
k false h10) (
J.lp (α := AV × AV × AV × Unit) (fun r18 v15 d16 h17 =>
asI .i64 v15.2.2.1 fun x19 =>
asI .i64 v15.2.1 fun x20 =>
fB (ltI x19 x20) fun b21 =>
br b21 (
ixsK v15.1 v15.2.2.1 fun x22 =>
fB (ltI x22 (Int.ofNat 33)) fun b23 =>
J.jn (fun v24 h25 =>
J.jn (fun v27 h28 =>
J.jn (fun v30 h31 =>
J.jn (fun v34 h35 =>
pickB (AV.bool b23) (AV.bool true) v34 fun b39 =>
br b39 (
leaveK (gam J []) d16 h35 fun h40 =>
k false h40) (
asI .i64 v15.2.2.1 fun x41 =>
fI (wrapF .i64 (Int.add x41 (Int.ofNat 1))) fun x42 =>
r18 (v15.1, v15.2.1, (AV.int .i64 x42), ()) d16 h35)) fun j36 =>
br b23 (
j36 skipV h31) (
asI .u8 v30 fun x37 =>
fB (ltI (Int.ofNat 126) x37) fun b38 =>
j36 (AV.bool b38) h31)) fun j32 =>
br b23 (
j32 skipV h28) (
ixsK v24 v27 fun x33 =>
j32 (AV.int .u8 x33) h28)) fun j29 =>
br b23 (
j29 skipV h25) (
j29 v15.2.2.1 h25)) fun j26 =>
br b23 (
j26 skipV h17) (
j26 v15.1 h17)) (
leaveK (gam J []) d16 h17 fun h43 =>
k true h43)) ((AV.str a0), (AV.int .i64 (Int.ofNat a0.len)), (AV.int .i64 (Int.ofNat 0)), ()) [] h10)) fun j11 =>
br b1 (
j11 skipV h6) (
asI .i64 v5 fun x12 =>
fB (ltI (Int.ofNat 32) x12) fun b13 =>
j11 (AV.bool b13) h6)) fun j7 =>
br b1 (
j7 skipV h3) (
asS v2 fun s8 =>
j7 (AV.int .i64 (Int.ofNat s8.len)) h3)) fun j4 =>
br b1 (
j4 skipV h) (
j4 (AV.str a0) h)
noncomputable def s98 : Str → H → (Bool → H → Prop) → Prop := s98G J0 
noncomputable def w98 (c : Str → H → (Bool → H → Prop) → Prop) : Fun := fun xs h k => arg xs fun a0 xs => noArg xs <| asS a0 fun a0 => c a0 h fun r0 h => k (.bool r0) h
theorem s98_eq (J : Joins) (a0 : Str) (h : H) (k : AV → H → Prop) : denF ty (gam J []) Tryz.f98 [(.str a0)] h k = s98G J  a0 h (fun r0 h => k (.bool r0) h) := by kernel_rfl
noncomputable def g98 : Fun := w98 s98
theorem g98_ok : FunOk Tryz.prog 98 g98 := (fun_ok ty_ok mixed (gam_ok (J := J0) (tab_nil fls_fun)) Tryz.func98 (fun args w => by simp)).imp fun xs h k e0 => by
  obtain ⟨a0, xs0, rfl, e1⟩ := arg_imp e0
  obtain ⟨rfl, e2⟩ := noArg_imp e1
  obtain ⟨a0, rfl, e3⟩ := asS_iff.1 e2
  exact (s98_eq J0  a0 h k).mpr e3
/-- (*stagepost/vfs.FS).asked -/
noncomputable def s78G (J : Joins) (c98 : Str → H → (Bool → H → Prop) → Prop) (a0 : AV) (a1 : AV) (h : H) (k : Int → H → Prop) : Prop :=
nilB 0 a0 fun b1 =>
J.jn (fun v2 h3 =>
J.jn (fun v5 h6 =>
J.jn (fun v8 h9 =>
J.jn (fun v12 h13 =>
J.jn (fun v16 h17 =>
pickB (AV.bool b1) (AV.bool true) v16 fun b21 =>
br b21 (
k (Int.ofNat 1) h17) (
okNil a0 (
faK 5 a0 fun p22 =>
ldB p22 h17 fun b23 =>
br b23 (
k (Int.ofNat 7) h17) (
lenK a1 fun x24 =>
J.lp (α := AV × AV × AV × Unit) (fun r28 v25 d26 h27 =>
asI .i64 v25.2.2.1 fun x29 =>
asI .i64 v25.2.1 fun x30 =>
fB (ltI x29 x30) fun b31 =>
br b31 (
ixK 1 v25.1 v25.2.2.1 fun p32 =>
ldS p32 h27 fun s33 =>
c98 s33 h27 fun b35 h34 =>
fB (Bool.not b35) fun b36 =>
br b36 (
leaveK (gam J [(98, w98 c98)]) d26 h34 fun h37 =>
k (Int.ofNat 2) h37) (
asI .i64 v25.2.2.1 fun x38 =>
fI (wrapF .i64 (Int.add x38 (Int.ofNat 1))) fun x39 =>
r28 (v25.1, v25.2.1, (AV.int .i64 x39), ()) d26 h34)) (
leaveK (gam J [(98, w98 c98)]) d26 h27 fun h40 =>
k (Int.ofNat 0) h40)) (a1, (AV.int .i64 (Int.ofNat x24)), (AV.int .i64 (Int.ofNat 0)), ()) [] h17)))) fun j18 =>
br b1 (
j18 skipV h13) (
asB v12 fun b19 =>
fB (Bool.not b19) fun b20 =>
j18 (AV.bool b20) h13)) fun j14 =>
br b1 (
j14 skipV h9) (
ldB v8 h9 fun b15 =>
j14 (AV.bool b15) h9)) fun j10 =>
br b1 (
j10 skipV h6) (
faK 9 v5 fun p11 =>
j10 p11 h6)) fun j7 =>
br b1 (
j7 skipV h3) (
okNil v2 (
j7 v2 h3))) fun j4 =>
br b1 (
j4 skipV h) (
j4 a0 h)
noncomputable def s78 : AV → AV → H → (Int → H → Prop) → Prop := s78G J0 s98
noncomputable def w78 (c : AV → AV → H → (Int → H → Prop) → Prop) : Fun := fun xs h k => arg xs fun a0 xs => arg xs fun a1 xs => noArg xs <| c a0 a1 h fun r0 h => k (.int .i64 r0) h
theorem s78_eq (J : Joins) (c98 : Str → H → (Bool → H → Prop) → Prop) (a0 : AV) (a1 : AV) (h : H) (k : AV → H → Prop) : denF ty (gam J [(98, w98 c98)]) Tryz.f78 [a0, a1] h k = s78G J c98 a0 a1 h (fun r0 h => k (.int .i64 r0) h) := by kernel_rfl
noncomputable def g78 : Fun := w78 s78
theorem g78_ok : FunOk Tryz.prog 78 g78 := (fun_ok ty_ok mixed (gam_ok (J := J0) (tab_cons g98_ok (tab_nil fls_fun))) Tryz.func78 (fun args w => by simp)).imp fun xs h k e0 => by
  obtain ⟨a0, xs0, rfl, e1⟩ := arg_imp e0
  obtain ⟨a1, xs1, rfl, e2⟩ := arg_imp e1
  obtain ⟨rfl, e3⟩ := noArg_imp e2
  exact (s78_eq J0 s98 a0 a1 h k).mpr e3
/-- s78, of which less may be asked -/
def up78 : AV → AV → H → (Int → H → Prop) → Prop := fun a0 a1 h k => ∃ K : Int → H → Prop, s78 a0 a1 h K ∧ ∀ r0 h', K r0 h' → k r0 h'
theorem up78_ok : FunOk Tryz.prog 78 (w78 up78) := g78_ok.up fun xs h k e0 => by
  obtain ⟨a0, xs0, rfl, e1⟩ := arg_imp e0
  obtain ⟨a1, xs1, rfl, e2⟩ := arg_imp e1
  obtain ⟨rfl, e3⟩ := noArg_imp e2
  obtain ⟨K, q1, q2⟩ := e3
  refine ⟨fun r h' => ∃ r0, r = (.int .i64 r0) ∧ K r0 h', ?_, ?_⟩
  · have hK : (fun r0 h' => ∃ r0', ((.int .i64 r0) : AV) = (.int .i64 r0') ∧ K r0' h') = K := by funext r0 h'; apply propext; simp
    exact (congrArg (s78 a0 a1 h) hK).mpr q1
  · rintro r h' ⟨r0, rfl, q3⟩; exact q2 _ _ q3
/-- slices.Clone[[]byte,byte] -/
noncomputable def s74G (J : Joins) (a0 : AV) (h : H) (k : AV → H → Prop) : Prop :=
nilB 2 a0 fun b1 =>
br b1 (
k AV.nils h) (
op' (asRow true 5 []) fun k4 =>
pushK k4 h fun n2 h3 =>
apB (.slice 5) 5 (AV.slice n2 0 0 0 1 true) a0 h3 fun v5 h6 =>
k v5 h6)
noncomputable def s74 : AV → H → (AV → H → Prop) → Prop := s74G J0 
noncomputable def w74 (c : AV → H → (AV → H → Prop) → Prop) : Fun := fun xs h k => arg xs fun a0 xs => noArg xs <| c a0 h fun r0 h => k r0 h
theorem s74_eq (J : Joins) (a0 : AV) (h : H) (k : AV → H → Prop) : denF ty (gam J []) Tryz.f74 [a0] h k = s74G J  a0 h (fun r0 h => k r0 h) := by kernel_rfl
noncomputable def g74 : Fun := w74 s74
theorem g74_ok : FunOk Tryz.prog 74 g74 := (fun_ok ty_ok mixed (gam_ok (J := J0) (tab_nil fls_fun)) Tryz.func74 (fun args w => by simp)).imp fun xs h k e0 => by
  obtain ⟨a0, xs0, rfl, e1⟩ := arg_imp e0
  obtain ⟨rfl, e2⟩ := noArg_imp e1
  exact (s74_eq J0  a0 h k).mpr e2
/-- s74, of which less may be asked -/
def up74 : AV → H → (AV → H → Prop) → Prop := fun a0 h k => ∃ K : AV → H → Prop, s74 a0 h K ∧ ∀ r0 h', K r0 h' → k r0 h'
theorem up74_ok : FunOk Tryz.prog 74 (w74 up74) := g74_ok.up fun xs h k e0 => by
  obtain ⟨a0, xs0, rfl, e1⟩ := arg_imp e0
  obtain ⟨rfl, e2⟩ := noArg_imp e1
  obtain ⟨K, q1, q2⟩ := e2
  refine ⟨fun r h' => ∃ r0, r = r0 ∧ K r0 h', ?_, ?_⟩
  · have hK : (fun r0 h' => ∃ r0', (r0 : AV) = r0' ∧ K r0' h') = K := by funext r0 h'; apply propext; simp
    exact (congrArg (s74 a0 h) hK).mpr q1
  · rintro r h' ⟨r0, rfl, q3⟩; exact q2 _ _ q3
/-- (stagepost/vfs.tree).done -/
noncomputable def s97G (J : Joins) (c74 : AV → H → (AV → H → Prop) → Prop) (a0 : AV) (a1 : AV) (h : H) (k : H → Prop) : Prop :=
Go.Am.asAgg a0 fun l3 =>
pushK (.cells false 60 l3) h fun n1 h2 =>
Go.Am.asAgg a1 fun l6 =>
pushK (.cells false 127 l6) h2 fun n4 h5 =>
ldI .i64 (AV.ptr n4 0) h5 fun x7 =>
fB (eqI x7 (Int.ofNat 0)) fun b8 =>
br b8 (
ldV (AV.ptr n1 0) h5 fun v9 =>
ldI .i64 (AV.ptr n4 3) h5 fun x10 =>
ldV (AV.ptr n1 0) h5 fun v11 =>
ldI .i64 (AV.ptr n4 3) h5 fun x12 =>
op' (aLookup ty 3 25 false v11 (AV.int .i64 x12) h5) fun v13 =>
ldV (AV.ptr n4 4) h5 fun v14 =>
c74 v13 h5 fun v16 h15 =>
ck (readsSo (aLoad1 (AV.ptr n4 4) h15) v14) (
ck (readsSo (aLoad1 (AV.ptr n4 3) h15) (AV.int .i64 x10)) (
ck (readsSo (aLoad1 (AV.ptr n1 0) h15) v9) (
apB (.slice 5) 5 v16 v14 h15 fun v17 h18 =>
ck (readsSo (aLoad1 (AV.ptr n4 3) h18) (AV.int .i64 x10)) (
ck (readsSo (aLoad1 (AV.ptr n1 0) h18) v9) (
op' (mapBlk ty 3 v9 (AV.int .i64 x10) v17 h18) fun k19 =>
putK k19.1 k19.2 h18 fun h20 =>
k  h20)))))) (
fB (eqI x7 (Int.ofNat 1)) fun b21 =>
br b21 (
ldV (AV.ptr n1 1) h5 fun v22 =>
ldS (AV.ptr n4 1) h5 fun s23 =>
ldI .i64 (AV.ptr n4 3) h5 fun x24 =>
op' (mapBlk ty 9 v22 (AV.str s23) (AV.int .i64 x24) h5) fun k25 =>
putK k25.1 k25.2 h5 fun h26 =>
k  h26) (
fB (eqI x7 (Int.ofNat 2)) fun b27 =>
br b27 (
ldS (AV.ptr n4 1) h5 fun s28 =>
ldS (AV.ptr n4 2) h5 fun s29 =>
fB (Bool.not (Str.beq s28 s29)) fun b30 =>
br b30 (
ldV (AV.ptr n1 1) h5 fun v31 =>
ldS (AV.ptr n4 2) h5 fun s32 =>
ldV (AV.ptr n1 1) h5 fun v33 =>
ldS (AV.ptr n4 1) h5 fun s34 =>
op' (aLookup ty 9 3 false v33 (AV.str s34) h5) fun v35 =>
asI .i64 v35 fun x36 =>
op' (mapBlk ty 9 v31 (AV.str s32) (AV.int .i64 x36) h5) fun k37 =>
putK k37.1 k37.2 h5 fun h38 =>
ldV (AV.ptr n1 1) h38 fun v39 =>
ldS (AV.ptr n4 1) h38 fun s40 =>
delK (mapBlkD ty 9 v39 (AV.str s40) h38) h38 fun h42 =>
k  h42) (
k  h5)) (
fB (eqI x7 (Int.ofNat 3)) fun b43 =>
br b43 (
ldV (AV.ptr n1 1) h5 fun v44 =>
ldS (AV.ptr n4 1) h5 fun s45 =>
delK (mapBlkD ty 9 v44 (AV.str s45) h5) h5 fun h47 =>
k  h47) (
k  h5))))
noncomputable def s97 : AV → AV → H → (H → Prop) → Prop := s97G J0 s74
noncomputable def w97 (c : AV → AV → H → (H → Prop) → Prop) : Fun := fun xs h k => arg xs fun a0 xs => arg xs fun a1 xs => noArg xs <| c a0 a1 h fun  h => k (.tuple []) h
theorem s97_eq (J : Joins) (c74 : AV → H → (AV → H → Prop) → Prop) (a0 : AV) (a1 : AV) (h : H) (k : AV → H → Prop) : denF ty (gam J [(74, w74 c74)]) Tryz.f97 [a0, a1] h k = s97G J c74 a0 a1 h (fun  h => k (.tuple []) h) := by kernel_rfl
noncomputable def g97 : Fun := w97 s97
theorem g97_ok : FunOk Tryz.prog 97 g97 := (fun_ok ty_ok mixed (gam_ok (J := J0) (tab_cons g74_ok (tab_nil fls_fun))) Tryz.func97 (fun args w => by simp)).imp fun xs h k e0 => by
  obtain ⟨a0, xs0, rfl, e1⟩ := arg_imp e0
  obtain ⟨a1, xs1, rfl, e2⟩ := arg_imp e1
  obtain ⟨rfl, e3⟩ := noArg_imp e2
  exact (s97_eq J0 s74 a0 a1 h k).mpr e3
/-- s97, of which less may be asked -/
def up97 : AV → AV → H → (H → Prop) → Prop := fun a0 a1 h k => ∃ K : H → Prop, s97 a0 a1 h K ∧ ∀  h', K  h' → k  h'
theorem up97_ok : FunOk Tryz.prog 97 (w97 up97) := g97_ok.up fun xs h k e0 => by
  obtain ⟨a0, xs0, rfl, e1⟩ := arg_imp e0
  obtain ⟨a1, xs1, rfl, e2⟩ := arg_imp e1
  obtain ⟨rfl, e3⟩ := noArg_imp e2
  obtain ⟨K, q1, q2⟩ := e3
  refine ⟨fun r h' => r = .tuple [] ∧ K h', ?_, ?_⟩
  · have hK : (fun  h' => AV.tuple [] = .tuple [] ∧ K h') = K := by funext  h'; apply propext; simp
    exact (congrArg (s97 a0 a1 h) hK).mpr q1
  · rintro r h' ⟨rfl, q3⟩; exact q2 _ q3
/-- maps.clone -/
noncomputable def g118 : Fun := cloneF
theorem g118_ok : FunOk Tryz.prog 118 g118 := cloneF_ok Tryz.func118 (by kernel_rfl) (by kernel_rfl) (by kernel_rfl) (by kernel_rfl)
/-- maps.Clone[map[int][]byte,int,[]byte] -/
noncomputable def s102G (J : Joins) (c118 : Fun) (a0 : AV) (h : H) (k : AV → H → Prop) : Prop :=
nilB 4 a0 fun b1 =>
br b1 (
k AV.nilm h) (
c118 [(AV.iface 57 a0)] h fun v2 h3 =>
op' (aAssert ty 57 false v2) fun v4 =>
k v4 h3)
noncomputable def s102 : AV → H → (AV → H → Prop) → Prop := s102G J0 g118
noncomputable def w102 (c : AV → H → (AV → H → Prop) → Prop) : Fun := fun xs h k => arg xs fun a0 xs => noArg xs <| c a0 h fun r0 h => k r0 h
theorem s102_eq (J : Joins) (c118 : Fun) (a0 : AV) (h : H) (k : AV → H → Prop) : denF ty (gam J [(118, c118)]) Tryz.f102 [a0] h k = s102G J c118 a0 h (fun r0 h => k r0 h) := by kernel_rfl
noncomputable def g102 : Fun := w102 s102
theorem g102_ok : FunOk Tryz.prog 102 g102 := (fun_ok ty_ok mixed (gam_ok (J := J0) (tab_cons g118_ok (tab_nil fls_fun))) Tryz.func102 (fun args w => by simp)).imp fun xs h k e0 => by
  obtain ⟨a0, xs0, rfl, e1⟩ := arg_imp e0
  obtain ⟨rfl, e2⟩ := noArg_imp e1
  exact (s102_eq J0 g118 a0 h k).mpr e2
/-- maps.Clone[map[string]int,string,int] -/
noncomputable def s103G (J : Joins) (c118 : Fun) (a0 : AV) (h : H) (k : AV → H → Prop) : Prop :=
nilB 4 a0 fun b1 =>
br b1 (
k AV.nilm h) (
c118 [(AV.iface 58 a0)] h fun v2 h3 =>
op' (aAssert ty 58 false v2) fun v4 =>
k v4 h3)
noncomputable def s103 : AV → H → (AV → H → Prop) → Prop := s103G J0 g118
noncomputable def w103 (c : AV → H → (AV → H → Prop) → Prop) : Fun := fun xs h k => arg xs fun a0 xs => noArg xs <| c a0 h fun r0 h => k r0 h
theorem s103_eq (J : Joins) (c118 : Fun) (a0 : AV) (h : H) (k : AV → H → Prop) : denF ty (gam J [(118, c118)]) Tryz.f103 [a0] h k = s103G J c118 a0 h (fun r0 h => k r0 h) := by kernel_rfl
noncomputable def g103 : Fun := w103 s103
theorem g103_ok : FunOk Tryz.prog 103 g103 := (fun_ok ty_ok mixed (gam_ok (J := J0) (tab_cons g118_ok (tab_nil fls_fun))) Tryz.func103 (fun args w => by simp)).imp fun xs h k e0 => by
  obtain ⟨a0, xs0, rfl, e1⟩ := arg_imp e0
  obtain ⟨rfl, e2⟩ := noArg_imp e1
  exact (s103_eq J0 g118 a0 h k).mpr e2
/-- (*stagepost/vfs.FS).held -/
noncomputable def s81G (J : Joins) (c97 : AV → AV → H → (H → Prop) → Prop) (c102 : AV → H → (AV → H → Prop) → Prop) (c103 : AV → H → (AV → H → Prop) → Prop) (a0 : AV) (h : H) (k : AV → H → Prop) : Prop :=
pushK (.cells false 60 [(.nilm), (.nilm)]) h fun n1 h2 =>
okNil a0 (
faK 0 a0 fun p3 =>
faK 0 p3 fun p4 =>
ldV p4 h2 fun v5 =>
okNil a0 (
faK 0 a0 fun p6 =>
faK 1 p6 fun p7 =>
ldV p7 h2 fun v8 =>
pushK (.cells false 60 [(.nilm), (.nilm)]) h2 fun n9 h10 =>
c102 v5 h10 fun v12 h11 =>
ck (readsSo (aLoad1 p7 h11) v8) (
c103 v8 h11 fun v14 h13 =>
ck (isOne v12) (ck (isOne v14) (stN 2 (AV.ptr n9 0) [v12, v14] h13 fun h15 =>
okNil a0 (
faK 2 a0 fun p16 =>
ldV p16 h15 fun v17 =>
lenK v17 fun x18 =>
J.lp (α := AV × AV × AV × AV × AV × Unit) (fun r22 v19 d20 h21 =>
asI .i64 v19.2.2.2.2.1 fun x23 =>
asI .i64 v19.2.2.2.1 fun x24 =>
fB (ltI x23 x24) fun b25 =>
br b25 (
ixK 5 v19.2.2.1 v19.2.2.2.2.1 fun p26 =>
ldN 5 p26 h21 fun l27 =>
pushK (.cells false 127 [(.int .i64 0), (.str ⟨0, 0⟩), (.str ⟨0, 0⟩), (.int .i64 0), (.nils)]) h21 fun n28 h29 =>
stN 5 (AV.ptr n28 0) l27 h29 fun h30 =>
ldN 2 v19.2.1 h30 fun l31 =>
ldN 5 (AV.ptr n28 0) h30 fun l32 =>
c97 (AV.agg l31) (AV.agg l32) h30 fun  h33 =>
asI .i64 v19.2.2.2.2.1 fun x34 =>
fI (wrapF .i64 (Int.add x34 (Int.ofNat 1))) fun x35 =>
r22 (v19.1, v19.2.1, v19.2.2.1, v19.2.2.2.1, (AV.int .i64 x35), ()) d20 h33) (
ldN 2 v19.2.1 h21 fun l36 =>
stN 2 v19.1 l36 h21 fun h37 =>
leaveK (gam J [(97, w97 c97), (102, w102 c102), (103, w103 c103)]) d20 h37 fun h38 =>
ldN 2 v19.1 h38 fun l39 =>
k (AV.agg l39) h38)) ((AV.ptr n1 0), (AV.ptr n9 0), v17, (AV.int .i64 (Int.ofNat x18)), (AV.int .i64 (Int.ofNat 0)), ()) [] h15))))))
noncomputable def s81 : AV → H → (AV → H → Prop) → Prop := s81G J0 s97 s102 s103
noncomputable def w81 (c : AV → H → (AV → H → Prop) → Prop) : Fun := fun xs h k => arg xs fun a0 xs => noArg xs <| c a0 h fun r0 h => k r0 h
theorem s81_eq (J : Joins) (c97 : AV → AV → H → (H → Prop) → Prop) (c102 : AV → H → (AV → H → Prop) → Prop) (c103 : AV → H → (AV → H → Prop) → Prop) (a0 : AV) (h : H) (k : AV → H → Prop) : denF ty (gam J [(97, w97 c97), (102, w102 c102), (103, w103 c103)]) Tryz.f81 [a0] h k = s81G J c97 c102 c103 a0 h (fun r0 h => k r0 h) := by kernel_rfl
noncomputable def g81 : Fun := w81 s81
theorem g81_ok : FunOk Tryz.prog 81 g81 := (fun_ok ty_ok mixed (gam_ok (J := J0) (tab_cons g97_ok (tab_cons g102_ok (tab_cons g103_ok (tab_nil fls_fun))))) Tryz.func81 (fun args w => by simp)).imp fun xs h k e0 => by
  obtain ⟨a0, xs0, rfl, e1⟩ := arg_imp e0
  obtain ⟨rfl, e2⟩ := noArg_imp e1
  exact (s81_eq J0 s97 s102 s103 a0 h k).mpr e2
/-- s81, of which less may be asked -/
def up81 : AV → H → (AV → H → Prop) → Prop := fun a0 h k => ∃ K : AV → H → Prop, s81 a0 h K ∧ ∀ r0 h', K r0 h' → k r0 h'
theorem up81_ok : FunOk Tryz.prog 81 (w81 up81) := g81_ok.up fun xs h k e0 => by
  obtain ⟨a0, xs0, rfl, e1⟩ := arg_imp e0
  obtain ⟨rfl, e2⟩ := noArg_imp e1
  obtain ⟨K, q1, q2⟩ := e2
  refine ⟨fun r h' => ∃ r0, r = r0 ∧ K r0 h', ?_, ?_⟩
  · have hK : (fun r0 h' => ∃ r0', (r0 : AV) = r0' ∧ K r0' h') = K := by funext r0 h'; apply propext; simp
    exact (congrArg (s81 a0 h) hK).mpr q1
  · rintro r h' ⟨r0, rfl, q3⟩; exact q2 _ _ q3
/-- (*stagepost/vfs.FS).file -/
noncomputable def s70G (J : Joins) (c78 : AV → AV → H → (Int → H → Prop) → Prop) (c81 : AV → H → (AV → H → Prop) → Prop) (a0 : AV) (a1 : Str) (h : H) (k : Int → Int → H → Prop) : Prop :=
pushK (.cells false 9 [(AV.str a1)]) h fun n1 h2 =>
c78 a0 (AV.slice n1 0 1 1 1 true) h2 fun x4 h3 =>
fB (Bool.not (eqI x4 (Int.ofNat 0))) fun b5 =>
br b5 (
k (Int.ofNat 0) x4 h3) (
c81 a0 h3 fun v7 h6 =>
Go.Am.asAgg v7 fun l8 =>
op' (lgetO l8 1) fun v9 =>
op' (aLookup ty 9 3 true v9 (AV.str a1) h6) fun v10 =>
asTup v10 fun l11 =>
op' (lgetO l11 0) fun v12 =>
asI .i64 v12 fun x13 =>
asTup v10 fun l14 =>
op' (lgetO l14 1) fun v15 =>
asB v15 fun b16 =>
fB (Bool.not b16) fun b17 =>
br b17 (
k (Int.ofNat 0) (Int.ofNat 4) h6) (
k x13 (Int.ofNat 0) h6))
noncomputable def s70 : AV → Str → H → (Int → Int → H → Prop) → Prop := s70G J0 s78 s81
noncomputable def w70 (c : AV → Str → H → (Int → Int → H → Prop) → Prop) : Fun := fun xs h k => arg xs fun a0 xs => arg xs fun a1 xs => noArg xs <| asS a1 fun a1 => c a0 a1 h fun r0 r1 h => k (.tuple [(.int .i64 r0), (.int .i64 r1)]) h
theorem s70_eq (J : Joins) (c78 : AV → AV → H → (Int → H → Prop) → Prop) (c81 : AV → H → (AV → H → Prop) → Prop) (a0 : AV) (a1 : Str) (h : H) (k : AV → H → Prop) : denF ty (gam J [(78, w78 c78), (81, w81 c81)]) Tryz.f70 [a0, (.str a1)] h k = s70G J c78 c81 a0 a1 h (fun r0 r1 h => k (.tuple [(.int .i64 r0), (.int .i64 r1)]) h) := by kernel_rfl
noncomputable def g70 : Fun := w70 s70
theorem g70_ok : FunOk Tryz.prog 70 g70 := (fun_ok ty_ok mixed (gam_ok (J := J0) (tab_cons g78_ok (tab_cons g81_ok (tab_nil fls_fun)))) Tryz.func70 (fun args w => by simp)).imp fun xs h k e0 => by
  obtain ⟨a0, xs0, rfl, e1⟩ := arg_imp e0
  obtain ⟨a1, xs1, rfl, e2⟩ := arg_imp e1
  obtain ⟨rfl, e3⟩ := noArg_imp e2
  obtain ⟨a1, rfl, e4⟩ := asS_iff.1 e3
  exact (s70_eq J0 s78 s81 a0 a1 h k).mpr e4
/-- (*stagepost/vfs.FS).Read -/
noncomputable def s85G (J : Joins) (c70 : AV → Str → H → (Int → Int → H → Prop) → Prop) (c74 : AV → H → (AV → H → Prop) → Prop) (c81 : AV → H → (AV → H → Prop) → Prop) (a0 : AV) (a1 : Str) (h : H) (k : AV → Int → H → Prop) : Prop :=
c70 a0 a1 h fun x2 x3 h1 =>
fB (Bool.not (eqI x3 (Int.ofNat 0))) fun b4 =>
br b4 (
k AV.nils x3 h1) (
c81 a0 h1 fun v6 h5 =>
Go.Am.asAgg v6 fun l7 =>
op' (lgetO l7 0) fun v8 =>
op' (aLookup ty 3 25 false v8 (AV.int .i64 x2) h5) fun v9 =>
c74 v9 h5 fun v11 h10 =>
k v11 (Int.ofNat 0) h10)
noncomputable def s85 : AV → Str → H → (AV → Int → H → Prop) → Prop := s85G J0 s70 s74 s81
noncomputable def w85 (c : AV → Str → H → (AV → Int → H → Prop) → Prop) : Fun := fun xs h k => arg xs fun a0 xs => arg xs fun a1 xs => noArg xs <| asS a1 fun a1 => c a0 a1 h fun r0 r1 h => k (.tuple [r0, (.int .i64 r1)]) h
theorem s85_eq (J : Joins) (c70 : AV → Str → H → (Int → Int → H → Prop) → Prop) (c74 : AV → H → (AV → H → Prop) → Prop) (c81 : AV → H → (AV → H → Prop) → Prop) (a0 : AV) (a1 : Str) (h : H) (k : AV → H → Prop) : denF ty (gam J [(70, w70 c70), (74, w74 c74), (81, w81 c81)]) Tryz.f85 [a0, (.str a1)] h k = s85G J c70 c74 c81 a0 a1 h (fun r0 r1 h => k (.tuple [r0, (.int .i64 r1)]) h) := by kernel_rfl
noncomputable def g85 : Fun := w85 s85
theorem g85_ok : FunOk Tryz.prog 85 g85 := (fun_ok ty_ok mixed (gam_ok (J := J0) (tab_cons g70_ok (tab_cons g74_ok (tab_cons g81_ok (tab_nil fls_fun))))) Tryz.func85 (fun args w => by simp)).imp fun xs h k e0 => by
  obtain ⟨a0, xs0, rfl, e1⟩ := arg_imp e0
  obtain ⟨a1, xs1, rfl, e2⟩ := arg_imp e1
  obtain ⟨rfl, e3⟩ := noArg_imp e2
  obtain ⟨a1, rfl, e4⟩ := asS_iff.1 e3
  exact (s85_eq J0 s70 s74 s81 a0 a1 h k).mpr e4
/-- stagepost/wal.off -/
noncomputable def s57G (J : Joins) (c85 : AV → Str → H → (AV → Int → H → Prop) → Prop) (a0 : AV) (h : H) (k : Int → H → Prop) : Prop :=
c85 a0 ⟨3, 6385273⟩ h fun v2 x3 h1 =>
fB (eqI x3 (Int.ofNat 1)) fun b4 =>
J.jn (fun v5 h6 =>
J.jn (fun v8 h9 =>
pickB (AV.bool b4) (AV.bool true) v8 fun b13 =>
br b13 (
k x3 h9) (
k (Int.ofNat 0) h9)) fun j10 =>
br b4 (
j10 skipV h6) (
asI .i64 v5 fun x11 =>
fB (eqI x11 (Int.ofNat 7)) fun b12 =>
j10 (AV.bool b12) h6)) fun j7 =>
br b4 (
j7 skipV h1) (
j7 (AV.int .i64 x3) h1)
noncomputable def s57 : AV → H → (Int → H → Prop) → Prop := s57G J0 s85
noncomputable def w57 (c : AV → H → (Int → H → Prop) → Prop) : Fun := fun xs h k => arg xs fun a0 xs => noArg xs <| c a0 h fun r0 h => k (.int .i64 r0) h
theorem s57_eq (J : Joins) (c85 : AV → Str → H → (AV → Int → H → Prop) → Prop) (a0 : AV) (h : H) (k : AV → H → Prop) : denF ty (gam J [(85, w85 c85)]) Tryz.f57 [a0] h k = s57G J c85 a0 h (fun r0 h => k (.int .i64 r0) h) := by kernel_rfl
noncomputable def g57 : Fun := w57 s57
theorem g57_ok : FunOk Tryz.prog 57 g57 := (fun_ok ty_ok mixed (gam_ok (J := J0) (tab_cons g85_ok (tab_nil fls_fun))) Tryz.func57 (fun args w => by simp)).imp fun xs h k e0 => by
  obtain ⟨a0, xs0, rfl, e1⟩ := arg_imp e0
  obtain ⟨rfl, e2⟩ := noArg_imp e1
  exact (s57_eq J0 s85 a0 h k).mpr e2
/-- (*stagepost/wal.Wal).asked -/
noncomputable def s47G (J : Joins) (c57 : AV → H → (Int → H → Prop) → Prop) (a0 : AV) (h : H) (k : Int → H → Prop) : Prop :=
nilB 0 a0 fun b1 =>
J.jn (fun v2 h3 =>
J.jn (fun v5 h6 =>
J.jn (fun v8 h9 =>
J.jn (fun v12 h13 =>
J.jn (fun v16 h17 =>
pickB (AV.bool b1) (AV.bool true) v16 fun b21 =>
br b21 (
k (Int.ofNat 1) h17) (
okNil a0 (
faK 3 a0 fun p22 =>
ldB p22 h17 fun b23 =>
J.jn (fun v24 h25 =>
J.jn (fun v27 h28 =>
J.jn (fun v30 h31 =>
J.jn (fun v34 h35 =>
J.jn (fun v38 h39 =>
J.jn (fun v43 h44 =>
pickB (AV.bool b23) (AV.bool true) v43 fun b48 =>
br b48 (
okNil a0 (
faK 3 a0 fun p49 =>
stV p49 (AV.bool true) h44 fun h50 =>
k (Int.ofNat 7) h50)) (
k (Int.ofNat 0) h44)) fun j45 =>
br b23 (
j45 skipV h39) (
asI .i64 v38 fun x46 =>
fB (Bool.not (eqI x46 (Int.ofNat 0))) fun b47 =>
j45 (AV.bool b47) h39)) fun j40 =>
br b23 (
j40 skipV h35) (
c57 v34 h35 fun x42 h41 =>
j40 (AV.int .i64 x42) h41)) fun j36 =>
br b23 (
j36 skipV h31) (
ldV v30 h31 fun v37 =>
j36 v37 h31)) fun j32 =>
br b23 (
j32 skipV h28) (
faK 0 v27 fun p33 =>
j32 p33 h28)) fun j29 =>
br b23 (
j29 skipV h25) (
okNil v24 (
j29 v24 h25))) fun j26 =>
br b23 (
j26 skipV h17) (
j26 a0 h17)))) fun j18 =>
br b1 (
j18 skipV h13) (
asB v12 fun b19 =>
fB (Bool.not b19) fun b20 =>
j18 (AV.bool b20) h13)) fun j14 =>
br b1 (
j14 skipV h9) (
ldB v8 h9 fun b15 =>
j14 (AV.bool b15) h9)) fun j10 =>
br b1 (
j10 skipV h6) (
faK 4 v5 fun p11 =>
j10 p11 h6)) fun j7 =>
br b1 (
j7 skipV h3) (
okNil v2 (
j7 v2 h3))) fun j4 =>
br b1 (
j4 skipV h) (
j4 a0 h)
noncomputable def s47 : AV → H → (Int → H → Prop) → Prop := s47G J0 s57
noncomputable def w47 (c : AV → H → (Int → H → Prop) → Prop) : Fun := fun xs h k => arg xs fun a0 xs => noArg xs <| c a0 h fun r0 h => k (.int .i64 r0) h
theorem s47_eq (J : Joins) (c57 : AV → H → (Int → H → Prop) → Prop) (a0 : AV) (h : H) (k : AV → H → Prop) : denF ty (gam J [(57, w57 c57)]) Tryz.f47 [a0] h k = s47G J c57 a0 h (fun r0 h => k (.int .i64 r0) h) := by kernel_rfl
noncomputable def g47 : Fun := w47 s47
theorem g47_ok : FunOk Tryz.prog 47 g47 := (fun_ok ty_ok mixed (gam_ok (J := J0) (tab_cons g57_ok (tab_nil fls_fun))) Tryz.func47 (fun args w => by simp)).imp fun xs h k e0 => by
  obtain ⟨a0, xs0, rfl, e1⟩ := arg_imp e0
  obtain ⟨rfl, e2⟩ := noArg_imp e1
  exact (s47_eq J0 s57 a0 h k).mpr e2
/-- stagepost/crc.More -/
noncomputable def s114G (J : Joins) (a0 : Int) (a1 : AV) (h : H) (k : Int → H → Prop) : Prop :=
op' (aUn .xor (AV.int .u32 a0)) fun v1 =>
asI .u32 v1 fun x2 =>
lenK a1 fun x3 =>
J.lp (α := AV × AV × AV × AV × Unit) (fun r7 v4 d5 h6 =>
asI .i64 v4.2.2.2.1 fun x8 =>
asI .i64 v4.2.2.1 fun x9 =>
fB (ltI x8 x9) fun b10 =>
br b10 (
ixK 1 v4.2.1 v4.2.2.2.1 fun p11 =>
ldI .u8 p11 h6 fun x12 =>
fI (wrapF .u32 x12) fun x13 =>
asI .u32 v4.1 fun x14 =>
fI (lxorF .u32 x14 x13) fun x15 =>
J.lp (α := AV × AV × AV × AV × AV × Unit) (fun r19 v16 d17 h18 =>
asI .i64 v16.2.2.2.2.1 fun x20 =>
fB (ltI x20 (Int.ofNat 8)) fun b21 =>
br b21 (
J.jd (α := AV × AV × AV × AV × AV × Unit) (fun v22 d23 h24 =>
asI .i64 v22.2.2.2.2.1 fun x26 =>
fI (wrapF .i64 (Int.add x26 (Int.ofNat 1))) fun x27 =>
r19 (v22.1, v22.2.1, v22.2.2.1, v22.2.2.2.1, (AV.int .i64 x27), ()) d23 h24) fun j25 =>
asI .u32 v16.1 fun x28 =>
fI (landF .u32 x28 (Int.ofNat 1)) fun x29 =>
asI .u32 v16.1 fun x30 =>
fI (shrF x30 (nmin 1 (IntKind.bits .u32))) fun x31 =>
fB (eqI x29 (Int.ofNat 1)) fun b32 =>
br b32 (
fI (lxorF .u32 x31 (Int.ofNat 2197175160)) fun x33 =>
j25 ((AV.int .u32 x33), v16.2.1, v16.2.2.1, v16.2.2.2.1, v16.2.2.2.2.1, ()) d17 h18) (
j25 ((AV.int .u32 x31), v16.2.1, v16.2.2.1, v16.2.2.2.1, v16.2.2.2.2.1, ()) d17 h18)) (
asI .i64 v16.2.2.2.1 fun x34 =>
fI (wrapF .i64 (Int.add x34 (Int.ofNat 1))) fun x35 =>
r7 (v16.1, v16.2.1, v16.2.2.1, (AV.int .i64 x35), ()) d17 h18)) ((AV.int .u32 x15), v4.2.1, v4.2.2.1, v4.2.2.2.1, (AV.int .i64 (Int.ofNat 0)), ()) d5 h6) (
op' (aUn .xor v4.1) fun v36 =>
asI .u32 v36 fun x37 =>
leaveK (gam J []) d5 h6 fun h38 =>
k x37 h38)) ((AV.int .u32 x2), a1, (AV.int .i64 (Int.ofNat x3)), (AV.int .i64 (Int.ofNat 0)), ()) [] h
noncomputable def s114 : Int → AV → H → (Int → H → Prop) → Prop := s114G J0 
noncomputable def w114 (c : Int → AV → H → (Int → H → Prop) → Prop) : Fun := fun xs h k => arg xs fun a0 xs => arg xs fun a1 xs => noArg xs <| asI .u32 a0 fun a0 => c a0 a1 h fun r0 h => k (.int .u32 r0) h
theorem s114_eq (J : Joins) (a0 : Int) (a1 : AV) (h : H) (k : AV → H → Prop) : denF ty (gam J []) Tryz.f114 [(.int .u32 a0), a1] h k = s114G J  a0 a1 h (fun r0 h => k (.int .u32 r0) h) := by kernel_rfl
noncomputable def g114 : Fun := w114 s114
theorem g114_ok : FunOk Tryz.prog 114 g114 := (fun_ok ty_ok mixed (gam_ok (J := J0) (tab_nil fls_fun)) Tryz.func114 (fun args w => by simp)).imp fun xs h k e0 => by
  obtain ⟨a0, xs0, rfl, e1⟩ := arg_imp e0
  obtain ⟨a1, xs1, rfl, e2⟩ := arg_imp e1
  obtain ⟨rfl, e3⟩ := noArg_imp e2
  obtain ⟨a0, rfl, e4⟩ := asI_iff.1 e3
  exact (s114_eq J0  a0 a1 h k).mpr e4
/-- stagepost/crc.Sum -/
noncomputable def s94G (J : Joins) (c114 : Int → AV → H → (Int → H → Prop) → Prop) (a0 : AV) (h : H) (k : Int → H → Prop) : Prop :=
c114 (Int.ofNat 0) a0 h fun x2 h1 =>
k x2 h1
noncomputable def s94 : AV → H → (Int → H → Prop) → Prop := s94G J0 s114
noncomputable def w94 (c : AV → H → (Int → H → Prop) → Prop) : Fun := fun xs h k => arg xs fun a0 xs => noArg xs <| c a0 h fun r0 h => k (.int .u32 r0) h
theorem s94_eq (J : Joins) (c114 : Int → AV → H → (Int → H → Prop) → Prop) (a0 : AV) (h : H) (k : AV → H → Prop) : denF ty (gam J [(114, w114 c114)]) Tryz.f94 [a0] h k = s94G J c114 a0 h (fun r0 h => k (.int .u32 r0) h) := by kernel_rfl
noncomputable def g94 : Fun := w94 s94
theorem g94_ok : FunOk Tryz.prog 94 g94 := (fun_ok ty_ok mixed (gam_ok (J := J0) (tab_cons g114_ok (tab_nil fls_fun))) Tryz.func94 (fun args w => by simp)).imp fun xs h k e0 => by
  obtain ⟨a0, xs0, rfl, e1⟩ := arg_imp e0
  obtain ⟨rfl, e2⟩ := noArg_imp e1
  exact (s94_eq J0 s114 a0 h k).mpr e2
/-- stagepost/crc.Sealed -/
noncomputable def s69G (J : Joins) (c94 : AV → H → (Int → H → Prop) → Prop) (a0 : AV) (h : H) (k : AV → H → Prop) : Prop :=
apB (.slice 5) 5 AV.nils a0 h fun v1 h2 =>
c94 a0 h2 fun x4 h3 =>
J.lp (α := AV × AV × AV × Unit) (fun r8 v5 d6 h7 =>
asI .i64 v5.2.2.1 fun x9 =>
fB (ltI x9 (Int.ofNat 4)) fun b10 =>
br b10 (
asI .i64 v5.2.2.1 fun x11 =>
fI (wrapF .i64 (Int.mul (Int.ofNat 8) x11)) fun x12 =>
asI .u32 v5.2.1 fun x13 =>
asNat (AV.int .i64 x12) fun n14 =>
fI (shrF x13 (nmin n14 (IntKind.bits .u32))) fun x15 =>
fI (wrapF .u8 x15) fun x16 =>
op' (asRow true 5 [(AV.int .u8 x16)]) fun k19 =>
pushK k19 h7 fun n17 h18 =>
apB (.slice 5) 5 v5.1 (AV.slice n17 0 1 1 1 true) h18 fun v20 h21 =>
asI .i64 v5.2.2.1 fun x22 =>
fI (wrapF .i64 (Int.add x22 (Int.ofNat 1))) fun x23 =>
r8 (v20, v5.2.1, (AV.int .i64 x23), ()) d6 h21) (
leaveK (gam J [(94, w94 c94)]) d6 h7 fun h24 =>
k v5.1 h24)) (v1, (AV.int .u32 x4), (AV.int .i64 (Int.ofNat 0)), ()) [] h3
noncomputable def s69 : AV → H → (AV → H → Prop) → Prop := s69G J0 s94
noncomputable def w69 (c : AV → H → (AV → H → Prop) → Prop) : Fun := fun xs h k => arg xs fun a0 xs => noArg xs <| c a0 h fun r0 h => k r0 h
theorem s69_eq (J : Joins) (c94 : AV → H → (Int → H → Prop) → Prop) (a0 : AV) (h : H) (k : AV → H → Prop) : denF ty (gam J [(94, w94 c94)]) Tryz.f69 [a0] h k = s69G J c94 a0 h (fun r0 h => k r0 h) := by kernel_rfl
noncomputable def g69 : Fun := w69 s69
theorem g69_ok : FunOk Tryz.prog 69 g69 := (fun_ok ty_ok mixed (gam_ok (J := J0) (tab_cons g94_ok (tab_nil fls_fun))) Tryz.func69 (fun args w => by simp)).imp fun xs h k e0 => by
  obtain ⟨a0, xs0, rfl, e1⟩ := arg_imp e0
  obtain ⟨rfl, e2⟩ := noArg_imp e1
  exact (s69_eq J0 s94 a0 h k).mpr e2
/-- stagepost/frame.Append -/
noncomputable def s48G (J : Joins) (c69 : AV → H → (AV → H → Prop) → Prop) (a0 : AV) (a1 : AV) (h : H) (k : AV → Int → H → Prop) : Prop :=
lenK a1 fun x1 =>
fB (ltI (Int.ofNat 1048576) (Int.ofNat x1)) fun b2 =>
br b2 (
k AV.nils (Int.ofNat 3) h) (
apB (.slice 5) 5 AV.nils a0 h fun v3 h4 =>
fI (wrapF .u8 (Int.ofNat x1)) fun x5 =>
fI (shrF (Int.ofNat x1) (nmin 8 (IntKind.bits .i64))) fun x6 =>
fI (wrapF .u8 x6) fun x7 =>
fI (shrF (Int.ofNat x1) (nmin 16 (IntKind.bits .i64))) fun x8 =>
fI (wrapF .u8 x8) fun x9 =>
fI (shrF (Int.ofNat x1) (nmin 24 (IntKind.bits .i64))) fun x10 =>
fI (wrapF .u8 x10) fun x11 =>
op' (asRow true 5 [(AV.int .u8 x5), (AV.int .u8 x7), (AV.int .u8 x9), (AV.int .u8 x11)]) fun k14 =>
pushK k14 h4 fun n12 h13 =>
c69 (AV.slice n12 0 4 4 1 true) h13 fun v16 h15 =>
apB (.slice 5) 5 v3 v16 h15 fun v17 h18 =>
c69 a1 h18 fun v20 h19 =>
apB (.slice 5) 5 v17 v20 h19 fun v21 h22 =>
k v21 (Int.ofNat 0) h22)
noncomputable def s48 : AV → AV → H → (AV → Int → H → Prop) → Prop := s48G J0 s69
noncomputable def w48 (c : AV → AV → H → (AV → Int → H → Prop) → Prop) : Fun := fun xs h k => arg xs fun a0 xs => arg xs fun a1 xs => noArg xs <| c a0 a1 h fun r0 r1 h => k (.tuple [r0, (.int .i64 r1)]) h
theorem s48_eq (J : Joins) (c69 : AV → H → (AV → H → Prop) → Prop) (a0 : AV) (a1 : AV) (h : H) (k : AV → H → Prop) : denF ty (gam J [(69, w69 c69)]) Tryz.f48 [a0, a1] h k = s48G J c69 a0 a1 h (fun r0 r1 h => k (.tuple [r0, (.int .i64 r1)]) h) := by kernel_rfl
noncomputable def g48 : Fun := w48 s48
theorem g48_ok : FunOk Tryz.prog 48 g48 := (fun_ok ty_ok mixed (gam_ok (J := J0) (tab_cons g69_ok (tab_nil fls_fun))) Tryz.func48 (fun args w => by simp)).imp fun xs h k e0 => by
  obtain ⟨a0, xs0, rfl, e1⟩ := arg_imp e0
  obtain ⟨a1, xs1, rfl, e2⟩ := arg_imp e1
  obtain ⟨rfl, e3⟩ := noArg_imp e2
  exact (s48_eq J0 s69 a0 a1 h k).mpr e3
/-- (*stagepost/wal.Wal).seen -/
noncomputable def s49G (J : Joins) (a0 : AV) (a1 : Int) (h : H) (k : Int → H → Prop) : Prop :=
okNil a0 (
faK 3 a0 fun p1 =>
ldB p1 h fun b2 =>
J.jn (fun v3 h4 =>
J.jn (fun v6 h7 =>
pickB (AV.bool b2) (AV.bool true) v6 fun b11 =>
okNil a0 (
faK 3 a0 fun p12 =>
stV p12 (AV.bool b11) h7 fun h13 =>
k a1 h13)) fun j8 =>
br b2 (
j8 skipV h4) (
asI .i64 v3 fun x9 =>
fB (eqI x9 (Int.ofNat 7)) fun b10 =>
j8 (AV.bool b10) h4)) fun j5 =>
br b2 (
j5 skipV h) (
j5 (AV.int .i64 a1) h))
noncomputable def s49 : AV → Int → H → (Int → H → Prop) → Prop := s49G J0 
noncomputable def w49 (c : AV → Int → H → (Int → H → Prop) → Prop) : Fun := fun xs h k => arg xs fun a0 xs => arg xs fun a1 xs => noArg xs <| asI .i64 a1 fun a1 => c a0 a1 h fun r0 h => k (.int .i64 r0) h
theorem s49_eq (J : Joins) (a0 : AV) (a1 : Int) (h : H) (k : AV → H → Prop) : denF ty (gam J []) Tryz.f49 [a0, (.int .i64 a1)] h k = s49G J  a0 a1 h (fun r0 h => k (.int .i64 r0) h) := by kernel_rfl
noncomputable def g49 : Fun := w49 s49
theorem g49_ok : FunOk Tryz.prog 49 g49 := (fun_ok ty_ok mixed (gam_ok (J := J0) (tab_nil fls_fun)) Tryz.func49 (fun args w => by simp)).imp fun xs h k e0 => by
  obtain ⟨a0, xs0, rfl, e1⟩ := arg_imp e0
  obtain ⟨a1, xs1, rfl, e2⟩ := arg_imp e1
  obtain ⟨rfl, e3⟩ := noArg_imp e2
  obtain ⟨a1, rfl, e4⟩ := asI_iff.1 e3
  exact (s49_eq J0  a0 a1 h k).mpr e4
/-- (*stagepost/vfs.FS).Left -/
noncomputable def s71G (J : Joins) (c78 : AV → AV → H → (Int → H → Prop) → Prop) (c81 : AV → H → (AV → H → Prop) → Prop) (a0 : AV) (h : H) (k : Int → H → Prop) : Prop :=
c78 a0 AV.nils h fun x2 h1 =>
fB (Bool.not (eqI x2 (Int.ofNat 0))) fun b3 =>
br b3 (
k (Int.ofNat 0) h1) (
okNil a0 (
faK 3 a0 fun p4 =>
ldI .i64 p4 h1 fun x5 =>
pushK (.cells false 60 [(.nilm), (.nilm)]) h1 fun n6 h7 =>
c81 a0 h7 fun v9 h8 =>
ck (readsSo (aLoad1 p4 h8) (AV.int .i64 x5)) (
Go.Am.asAgg v9 fun l11 =>
stN 2 (AV.ptr n6 0) l11 h8 fun h10 =>
ck (readsSo (aLoad1 p4 h10) (AV.int .i64 x5)) (
ldV (AV.ptr n6 1) h10 fun v12 =>
aRangeK v12 h10 fun v13 h14 =>
J.lp (α := AV × AV × AV × Unit) (fun r18 v15 d16 h17 =>
aNext v15.2.2.1 h17 fun v19 h20 =>
asTup v19 fun l21 =>
op' (lgetO l21 0) fun v22 =>
asB v22 fun b23 =>
br b23 (
op' (aEntry v15.2.2.1 h20) fun v24 =>
asTup v24 fun l25 =>
op' (lgetO l25 1) fun v26 =>
asI .i64 v26 fun x27 =>
faK 0 v15.1 fun p28 =>
ldV p28 h20 fun v29 =>
op' (aLookup ty 3 25 false v29 (AV.int .i64 x27) h20) fun v30 =>
lenK v30 fun x31 =>
asI .i64 v15.2.1 fun x32 =>
fI (wrapF .i64 (Int.sub x32 (Int.ofNat x31))) fun x33 =>
r18 (v15.1, (AV.int .i64 x33), v15.2.2.1, ()) d16 h20) (
leaveK (gam J [(78, w78 c78), (81, w81 c81)]) d16 h20 fun h34 =>
asI .i64 v15.2.1 fun x35 =>
k x35 h34)) ((AV.ptr n6 0), (AV.int .i64 x5), v13, ()) [] h14))))
noncomputable def s71 : AV → H → (Int → H → Prop) → Prop := s71G J0 s78 s81
noncomputable def w71 (c : AV → H → (Int → H → Prop) → Prop) : Fun := fun xs h k => arg xs fun a0 xs => noArg xs <| c a0 h fun r0 h => k (.int .i64 r0) h
theorem s71_eq (J : Joins) (c78 : AV → AV → H → (Int → H → Prop) → Prop) (c81 : AV → H → (AV → H → Prop) → Prop) (a0 : AV) (h : H) (k : AV → H → Prop) : denF ty (gam J [(78, w78 c78), (81, w81 c81)]) Tryz.f71 [a0] h k = s71G J c78 c81 a0 h (fun r0 h => k (.int .i64 r0) h) := by kernel_rfl
noncomputable def g71 : Fun := w71 s71
theorem g71_ok : FunOk Tryz.prog 71 g71 := (fun_ok ty_ok mixed (gam_ok (J := J0) (tab_cons g78_ok (tab_cons g81_ok (tab_nil fls_fun)))) Tryz.func71 (fun args w => by simp)).imp fun xs h k e0 => by
  obtain ⟨a0, xs0, rfl, e1⟩ := arg_imp e0
  obtain ⟨rfl, e2⟩ := noArg_imp e1
  exact (s71_eq J0 s78 s81 a0 h k).mpr e2
end Go.Proofs.YtnjiokmleoimgaaGreatDoor
