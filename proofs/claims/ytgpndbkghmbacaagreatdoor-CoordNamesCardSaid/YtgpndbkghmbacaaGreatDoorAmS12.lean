/- Functions as they are reckoned. MADE BY PROGRAM (wip/tools/shal.py). -/
import Derived.Test.YtgpndbkghmbacaaGreatDoorAmS11
namespace Go.Proofs.YtgpndbkghmbacaaGreatDoor
open Go Go.Am
set_option maxRecDepth 100000
set_option linter.all false
/-- stagepost/plan.access -/
noncomputable def g69 : Fun := denFS ty (gam J0 [(109, g109), (110, g110), (111, g111), (112, g112), (113, g113)]) Tryz.f69
theorem g69_ok : FunOk Tryz.prog 69 g69 := fun_okS ty_ok mixed (gam_ok (J := J0) (tab_cons g109_ok (tab_cons g110_ok (tab_cons g111_ok (tab_cons g112_ok (tab_cons g113_ok (tab_nil fls_fun))))))) Tryz.func69 (fun args w => by simp)
/-- stagepost/plan.Of -/
noncomputable def g39 : Fun := denFS ty (gam J0 [(66, g66), (67, g67), (68, g68), (69, g69)]) Tryz.f39
theorem g39_ok : FunOk Tryz.prog 39 g39 := fun_okS ty_ok mixed (gam_ok (J := J0) (tab_cons g66_ok (tab_cons g67_ok (tab_cons g68_ok (tab_cons g69_ok (tab_nil fls_fun)))))) Tryz.func39 (fun args w => by simp)
/-- maps.Keys[map[string]stagepost/api.Write,string,stagepost/api.Write]$1 -/
noncomputable def s95G (J : Joins) (cd : Code → Ks → List AV → List Dfr → H → Prop) (a0 : AV) (a1 : AV) (h : H) (k : H → Prop) : Prop :=
ldV a1 h fun v1 =>
aRangeK v1 h fun v2 h3 =>
J.lp (α := AV × AV × Unit) (fun r7 v4 d5 h6 =>
aNext v4.2.1 h6 fun v8 h9 =>
asTup v8 fun l10 =>
op' (lgetO l10 0) fun v11 =>
asB v11 fun b12 =>
br b12 (
op' (aEntry v4.2.1 h9) fun v13 =>
asTup v13 fun l14 =>
op' (lgetO l14 0) fun v15 =>
asS v15 fun s16 =>
callK (gamI J [] [] cd) v4.1 [(AV.str s16)] h9 fun v17 h18 =>
asB v17 fun b19 =>
fB (Bool.not b19) fun b20 =>
br b20 (
leaveK (gamI J [] [] cd) d5 h18 fun h21 =>
k  h21) (
r7 (v4.1, v4.2.1, ()) d5 h18)) (
leaveK (gamI J [] [] cd) d5 h9 fun h22 =>
k  h22)) (a0, v2, ()) [] h3
noncomputable def s95 : AV → AV → H → (H → Prop) → Prop := s95G J0  noCode
noncomputable def w95 (c : AV → AV → H → (H → Prop) → Prop) : Fun := fun xs h k => arg xs fun a0 xs => arg xs fun a1 xs => noArg xs <| c a0 a1 h fun  h => k (.tuple []) h
theorem s95_eq (J : Joins) (cd : Code → Ks → List AV → List Dfr → H → Prop) (a0 : AV) (a1 : AV) (h : H) (k : AV → H → Prop) : denF ty (gamI J [] [] cd) Tryz.f95 [a0, a1] h k = s95G J  cd a0 a1 h (fun  h => k (.tuple []) h) := by kernel_rfl
noncomputable def g95 : Fun := w95 s95
theorem g95_ok : FunOk Tryz.prog 95 g95 := (fun_ok ty_ok mixed (gamI_ok (J := J0) (tab_nil fls_fun) (tab_nil fls_it) noCode_ok) Tryz.func95 (fun args w => by simp)).imp fun xs h k e0 => by
  obtain ⟨a0, xs0, rfl, e1⟩ := arg_imp e0
  obtain ⟨a1, xs1, rfl, e2⟩ := arg_imp e1
  obtain ⟨rfl, e3⟩ := noArg_imp e2
  exact (s95_eq J0  noCode a0 a1 h k).mpr e3
/-- maps.Keys[map[string]string,string,string]$1 -/
noncomputable def s277G (J : Joins) (cd : Code → Ks → List AV → List Dfr → H → Prop) (a0 : AV) (a1 : AV) (h : H) (k : H → Prop) : Prop :=
ldV a1 h fun v1 =>
aRangeK v1 h fun v2 h3 =>
J.lp (α := AV × AV × Unit) (fun r7 v4 d5 h6 =>
aNext v4.2.1 h6 fun v8 h9 =>
asTup v8 fun l10 =>
op' (lgetO l10 0) fun v11 =>
asB v11 fun b12 =>
br b12 (
op' (aEntry v4.2.1 h9) fun v13 =>
asTup v13 fun l14 =>
op' (lgetO l14 0) fun v15 =>
asS v15 fun s16 =>
callK (gamI J [] [] cd) v4.1 [(AV.str s16)] h9 fun v17 h18 =>
asB v17 fun b19 =>
fB (Bool.not b19) fun b20 =>
br b20 (
leaveK (gamI J [] [] cd) d5 h18 fun h21 =>
k  h21) (
r7 (v4.1, v4.2.1, ()) d5 h18)) (
leaveK (gamI J [] [] cd) d5 h9 fun h22 =>
k  h22)) (a0, v2, ()) [] h3
noncomputable def s277 : AV → AV → H → (H → Prop) → Prop := s277G J0  noCode
noncomputable def w277 (c : AV → AV → H → (H → Prop) → Prop) : Fun := fun xs h k => arg xs fun a0 xs => arg xs fun a1 xs => noArg xs <| c a0 a1 h fun  h => k (.tuple []) h
theorem s277_eq (J : Joins) (cd : Code → Ks → List AV → List Dfr → H → Prop) (a0 : AV) (a1 : AV) (h : H) (k : AV → H → Prop) : denF ty (gamI J [] [] cd) Tryz.f277 [a0, a1] h k = s277G J  cd a0 a1 h (fun  h => k (.tuple []) h) := by kernel_rfl
noncomputable def g277 : Fun := w277 s277
theorem g277_ok : FunOk Tryz.prog 277 g277 := (fun_ok ty_ok mixed (gamI_ok (J := J0) (tab_nil fls_fun) (tab_nil fls_it) noCode_ok) Tryz.func277 (fun args w => by simp)).imp fun xs h k e0 => by
  obtain ⟨a0, xs0, rfl, e1⟩ := arg_imp e0
  obtain ⟨a1, xs1, rfl, e2⟩ := arg_imp e1
  obtain ⟨rfl, e3⟩ := noArg_imp e2
  exact (s277_eq J0  noCode a0 a1 h k).mpr e3
/-- function 95 as function 149 ranges over it -/
noncomputable def s95_149 : AV → AV → H → (H → Prop) → Prop := s95G J0  (denR ty (gamI J0 [] [] noCode))
theorem i95_149_ok : ItOk Tryz.prog 95 (w95 s95_149) := (it_ok ty_ok mixed (gamI_ok (J := J0) (tab_nil fls_fun) (tab_nil fls_it) (code_ok ty_ok mixed (gamI_ok (J := J0) (tab_nil fls_fun) (tab_nil fls_it) noCode_ok))) Tryz.func95 (fun args w => by simp)).imp fun xs h k e0 => by
  obtain ⟨a0, xs0, rfl, e1⟩ := arg_imp e0
  obtain ⟨a1, xs1, rfl, e2⟩ := arg_imp e1
  obtain ⟨rfl, e3⟩ := noArg_imp e2
  exact (s95_eq J0  (denR ty (gamI J0 [] [] noCode)) a0 a1 h k).mpr e3
/-- function 277 as function 149 ranges over it -/
noncomputable def s277_149 : AV → AV → H → (H → Prop) → Prop := s277G J0  (denR ty (gamI J0 [] [] noCode))
theorem i277_149_ok : ItOk Tryz.prog 277 (w277 s277_149) := (it_ok ty_ok mixed (gamI_ok (J := J0) (tab_nil fls_fun) (tab_nil fls_it) (code_ok ty_ok mixed (gamI_ok (J := J0) (tab_nil fls_fun) (tab_nil fls_it) noCode_ok))) Tryz.func277 (fun args w => by simp)).imp fun xs h k e0 => by
  obtain ⟨a0, xs0, rfl, e1⟩ := arg_imp e0
  obtain ⟨a1, xs1, rfl, e2⟩ := arg_imp e1
  obtain ⟨rfl, e3⟩ := noArg_imp e2
  exact (s277_eq J0  (denR ty (gamI J0 [] [] noCode)) a0 a1 h k).mpr e3
/-- slices.AppendSeq[[]string,string] -/
noncomputable def s149G (J : Joins) (i95 : AV → AV → H → (H → Prop) → Prop) (i277 : AV → AV → H → (H → Prop) → Prop) (a0 : AV) (a1 : AV) (h : H) (k : AV → H → Prop) : Prop :=
ck (isOne a0) (
pushK (.cells false 26 [a0]) h fun n1 h2 =>
J.jd (α := AV × Unit) (fun v3 d4 h5 =>
ldV v3.1 h5 fun v7 =>
leaveK (gamI J [] [(95, w95 i95), (277, w277 i277)] noCode) d4 h5 fun h8 =>
k v7 h8) fun j6 =>
rfK (gamI J [] [(95, w95 i95), (277, w277 i277)] noCode) a1 [7] (rfAt Tryz.f149 0) [a0, a1, (AV.ptr n1 0), AV.junk, AV.nils, AV.junk, a1, AV.junk, AV.junk, AV.junk, AV.junk, AV.junk, AV.junk] h2 fun n9 n10 h11 =>
endR n9 n10 (fun d12 h13 =>
j6 ((AV.ptr n1 0), ()) d12 h13) (fun d12 h13 =>
leaveK (gamI J [] [(95, w95 i95), (277, w277 i277)] noCode) d12 h13 fun h15 =>
k AV.nils h15) (fun i14 d12 h13 =>
exB (Nat.beq i14 0) (fun d12 h13 =>
j6 ((AV.ptr n1 0), ()) d12 h13) (fun d12 h13 =>
False) d12 h13) [] h11)
noncomputable def s149 : AV → AV → H → (AV → H → Prop) → Prop := s149G J0  s95_149 s277_149
noncomputable def w149 (c : AV → AV → H → (AV → H → Prop) → Prop) : Fun := fun xs h k => arg xs fun a0 xs => arg xs fun a1 xs => noArg xs <| c a0 a1 h fun r0 h => k r0 h
theorem s149_eq (J : Joins) (i95 : AV → AV → H → (H → Prop) → Prop) (i277 : AV → AV → H → (H → Prop) → Prop) (a0 : AV) (a1 : AV) (h : H) (k : AV → H → Prop) : denF ty (gamI J [] [(95, w95 i95), (277, w277 i277)] noCode) Tryz.f149 [a0, a1] h k = s149G J  i95 i277 a0 a1 h (fun r0 h => k r0 h) := by kernel_rfl
noncomputable def g149 : Fun := w149 s149
theorem g149_ok : FunOk Tryz.prog 149 g149 := (fun_ok ty_ok mixed (gamI_ok (J := J0) (tab_nil fls_fun) (tab_cons i95_149_ok (tab_cons i277_149_ok (tab_nil fls_it))) noCode_ok) Tryz.func149 (fun args w => by simp)).imp fun xs h k e0 => by
  obtain ⟨a0, xs0, rfl, e1⟩ := arg_imp e0
  obtain ⟨a1, xs1, rfl, e2⟩ := arg_imp e1
  obtain ⟨rfl, e3⟩ := noArg_imp e2
  exact (s149_eq J0  s95_149 s277_149 a0 a1 h k).mpr e3
/-- slices.Collect[string] -/
noncomputable def s93G (J : Joins) (c149 : AV → AV → H → (AV → H → Prop) → Prop) (a0 : AV) (h : H) (k : AV → H → Prop) : Prop :=
c149 AV.nils a0 h fun v2 h1 =>
k v2 h1
noncomputable def s93 : AV → H → (AV → H → Prop) → Prop := s93G J0 s149
noncomputable def w93 (c : AV → H → (AV → H → Prop) → Prop) : Fun := fun xs h k => arg xs fun a0 xs => noArg xs <| c a0 h fun r0 h => k r0 h
theorem s93_eq (J : Joins) (c149 : AV → AV → H → (AV → H → Prop) → Prop) (a0 : AV) (h : H) (k : AV → H → Prop) : denF ty (gam J [(149, w149 c149)]) Tryz.f93 [a0] h k = s93G J c149 a0 h (fun r0 h => k r0 h) := by kernel_rfl
noncomputable def g93 : Fun := w93 s93
theorem g93_ok : FunOk Tryz.prog 93 g93 := (fun_ok ty_ok mixed (gam_ok (J := J0) (tab_cons g149_ok (tab_nil fls_fun))) Tryz.func93 (fun args w => by simp)).imp fun xs h k e0 => by
  obtain ⟨a0, xs0, rfl, e1⟩ := arg_imp e0
  obtain ⟨rfl, e2⟩ := noArg_imp e1
  exact (s93_eq J0 s149 a0 h k).mpr e2
/-- cmp.isNaN[string] -/
noncomputable def s314G (J : Joins) (a0 : Str) (h : H) (k : Bool → H → Prop) : Prop :=
fB (Bool.not (Str.beq a0 a0)) fun b1 =>
k b1 h
noncomputable def s314 : Str → H → (Bool → H → Prop) → Prop := s314G J0 
noncomputable def w314 (c : Str → H → (Bool → H → Prop) → Prop) : Fun := fun xs h k => arg xs fun a0 xs => noArg xs <| asS a0 fun a0 => c a0 h fun r0 h => k (.bool r0) h
theorem s314_eq (J : Joins) (a0 : Str) (h : H) (k : AV → H → Prop) : denF ty (gam J []) Tryz.f314 [(.str a0)] h k = s314G J  a0 h (fun r0 h => k (.bool r0) h) := by kernel_rfl
noncomputable def g314 : Fun := w314 s314
theorem g314_ok : FunOk Tryz.prog 314 g314 := (fun_ok ty_ok mixed (gam_ok (J := J0) (tab_nil fls_fun)) Tryz.func314 (fun args w => by simp)).imp fun xs h k e0 => by
  obtain ⟨a0, xs0, rfl, e1⟩ := arg_imp e0
  obtain ⟨rfl, e2⟩ := noArg_imp e1
  obtain ⟨a0, rfl, e3⟩ := asS_iff.1 e2
  exact (s314_eq J0  a0 h k).mpr e3
/-- cmp.Less[string] -/
noncomputable def s232G (J : Joins) (c314 : Str → H → (Bool → H → Prop) → Prop) (a0 : Str) (a1 : Str) (h : H) (k : Bool → H → Prop) : Prop :=
c314 a0 h fun b2 h1 =>
J.jn (fun v3 h4 =>
J.jn (fun v6 h7 =>
J.jn (fun v12 h13 =>
pickB (AV.bool b2) v12 (AV.bool false) fun b17 =>
J.jn (fun v18 h19 =>
J.jn (fun v21 h22 =>
J.jn (fun v24 h25 =>
pickB (AV.bool b17) (AV.bool true) v24 fun b30 =>
k b30 h25) fun j26 =>
br b17 (
j26 skipV h22) (
asS v18 fun s27 =>
asS v21 fun s28 =>
fB (Str.lt s27 s28) fun b29 =>
j26 (AV.bool b29) h22)) fun j23 =>
br b17 (
j23 skipV h19) (
j23 (AV.str a1) h19)) fun j20 =>
br b17 (
j20 skipV h13) (
j20 (AV.str a0) h13)) fun j14 =>
br b2 (
asB v6 fun b15 =>
fB (Bool.not b15) fun b16 =>
j14 (AV.bool b16) h7) (
j14 skipV h7)) fun j8 =>
br b2 (
asS v3 fun s10 =>
c314 s10 h4 fun b11 h9 =>
j8 (AV.bool b11) h9) (
j8 skipV h4)) fun j5 =>
br b2 (
j5 (AV.str a1) h1) (
j5 skipV h1)
noncomputable def s232 : Str → Str → H → (Bool → H → Prop) → Prop := s232G J0 s314
noncomputable def w232 (c : Str → Str → H → (Bool → H → Prop) → Prop) : Fun := fun xs h k => arg xs fun a0 xs => arg xs fun a1 xs => noArg xs <| asS a0 fun a0 => asS a1 fun a1 => c a0 a1 h fun r0 h => k (.bool r0) h
theorem s232_eq (J : Joins) (c314 : Str → H → (Bool → H → Prop) → Prop) (a0 : Str) (a1 : Str) (h : H) (k : AV → H → Prop) : denF ty (gam J [(314, w314 c314)]) Tryz.f232 [(.str a0), (.str a1)] h k = s232G J c314 a0 a1 h (fun r0 h => k (.bool r0) h) := by kernel_rfl
noncomputable def g232 : Fun := w232 s232
theorem g232_ok : FunOk Tryz.prog 232 g232 := (fun_ok ty_ok mixed (gam_ok (J := J0) (tab_cons g314_ok (tab_nil fls_fun))) Tryz.func232 (fun args w => by simp)).imp fun xs h k e0 => by
  obtain ⟨a0, xs0, rfl, e1⟩ := arg_imp e0
  obtain ⟨a1, xs1, rfl, e2⟩ := arg_imp e1
  obtain ⟨rfl, e3⟩ := noArg_imp e2
  obtain ⟨a0, rfl, e4⟩ := asS_iff.1 e3
  obtain ⟨a1, rfl, e5⟩ := asS_iff.1 e4
  exact (s232_eq J0 s314 a0 a1 h k).mpr e5
/-- slices.insertionSortOrdered[string] -/
noncomputable def s226G (J : Joins) (c232 : Str → Str → H → (Bool → H → Prop) → Prop) (a0 : AV) (a1 : Int) (a2 : Int) (h : H) (k : H → Prop) : Prop :=
fI (wrapF .i64 (Int.add a1 (Int.ofNat 1))) fun x1 =>
J.lp (α := AV × AV × AV × AV × Unit) (fun r5 v2 d3 h4 =>
asI .i64 v2.2.2.2.1 fun x6 =>
asI .i64 v2.2.2.1 fun x7 =>
fB (ltI x6 x7) fun b8 =>
br b8 (
J.lp (α := AV × AV × AV × AV × AV × Unit) (fun r12 v9 d10 h11 =>
asI .i64 v9.2.2.2.2.1 fun x13 =>
asI .i64 v9.2.1 fun x14 =>
fB (ltI x14 x13) fun b15 =>
J.jn (fun v16 h17 =>
J.jn (fun v19 h20 =>
J.jn (fun v22 h23 =>
J.jb (fun b26 v27 =>
J.jn (fun v30 h31 =>
J.jn (fun v33 h34 =>
J.jn (fun v36 h37 =>
J.jn (fun v41 h42 =>
J.jb (fun b45 v46 =>
J.jn (fun v49 h50 =>
pickB (AV.bool b15) v49 (AV.bool false) fun b56 =>
br b56 (
asI .i64 v9.2.2.2.2.1 fun x57 =>
fI (wrapF .i64 (Int.sub x57 (Int.ofNat 1))) fun x58 =>
asI .i64 v9.2.2.2.2.1 fun x59 =>
fI (wrapF .i64 (Int.sub x59 (Int.ofNat 1))) fun x60 =>
ixK 1 v9.1 (AV.int .i64 x60) fun p61 =>
ldS p61 h50 fun s62 =>
ixK 1 v9.1 v9.2.2.2.2.1 fun p63 =>
ldS p63 h50 fun s64 =>
ixK 1 v9.1 v9.2.2.2.2.1 fun p65 =>
stV p65 (AV.str s62) h50 fun h66 =>
ixK 1 v9.1 (AV.int .i64 x58) fun p67 =>
stV p67 (AV.str s64) h66 fun h68 =>
asI .i64 v9.2.2.2.2.1 fun x69 =>
fI (wrapF .i64 (Int.sub x69 (Int.ofNat 1))) fun x70 =>
r12 (v9.1, v9.2.1, v9.2.2.1, v9.2.2.2.1, (AV.int .i64 x70), ()) d10 h68) (
asI .i64 v9.2.2.2.1 fun x71 =>
fI (wrapF .i64 (Int.add x71 (Int.ofNat 1))) fun x72 =>
r5 (v9.1, v9.2.1, v9.2.2.1, (AV.int .i64 x72), ()) d10 h50)) fun j51 =>
br b15 (
asS v27 fun s53 =>
asS v46 fun s54 =>
c232 s53 s54 h42 fun b55 h52 =>
j51 (AV.bool b55) h52) (
j51 skipV h42)) fun j47 =>
br b15 (
ldS v41 h42 fun s48 =>
j47 true (AV.str s48)) (
j47 false skipV)) fun j43 =>
br b15 (
ixK 1 v30 v36 fun p44 =>
j43 p44 h37) (
j43 skipV h37)) fun j38 =>
br b15 (
asI .i64 v33 fun x39 =>
fI (wrapF .i64 (Int.sub x39 (Int.ofNat 1))) fun x40 =>
j38 (AV.int .i64 x40) h34) (
j38 skipV h34)) fun j35 =>
br b15 (
j35 v9.2.2.2.2.1 h31) (
j35 skipV h31)) fun j32 =>
br b15 (
j32 v9.1 h23) (
j32 skipV h23)) fun j28 =>
br b15 (
ldS v22 h23 fun s29 =>
j28 true (AV.str s29)) (
j28 false skipV)) fun j24 =>
br b15 (
ixK 1 v16 v19 fun p25 =>
j24 p25 h20) (
j24 skipV h20)) fun j21 =>
br b15 (
j21 v9.2.2.2.2.1 h17) (
j21 skipV h17)) fun j18 =>
br b15 (
j18 v9.1 h11) (
j18 skipV h11)) (v2.1, v2.2.1, v2.2.2.1, v2.2.2.2.1, v2.2.2.2.1, ()) d3 h4) (
leaveK (gam J [(232, w232 c232)]) d3 h4 fun h73 =>
k  h73)) (a0, (AV.int .i64 a1), (AV.int .i64 a2), (AV.int .i64 x1), ()) [] h
noncomputable def s226 : AV → Int → Int → H → (H → Prop) → Prop := s226G J0 s232
noncomputable def w226 (c : AV → Int → Int → H → (H → Prop) → Prop) : Fun := fun xs h k => arg xs fun a0 xs => arg xs fun a1 xs => arg xs fun a2 xs => noArg xs <| asI .i64 a1 fun a1 => asI .i64 a2 fun a2 => c a0 a1 a2 h fun  h => k (.tuple []) h
theorem s226_eq (J : Joins) (c232 : Str → Str → H → (Bool → H → Prop) → Prop) (a0 : AV) (a1 : Int) (a2 : Int) (h : H) (k : AV → H → Prop) : denF ty (gam J [(232, w232 c232)]) Tryz.f226 [a0, (.int .i64 a1), (.int .i64 a2)] h k = s226G J c232 a0 a1 a2 h (fun  h => k (.tuple []) h) := by kernel_rfl
noncomputable def g226 : Fun := w226 s226
theorem g226_ok : FunOk Tryz.prog 226 g226 := (fun_ok ty_ok mixed (gam_ok (J := J0) (tab_cons g232_ok (tab_nil fls_fun))) Tryz.func226 (fun args w => by simp)).imp fun xs h k e0 => by
  obtain ⟨a0, xs0, rfl, e1⟩ := arg_imp e0
  obtain ⟨a1, xs1, rfl, e2⟩ := arg_imp e1
  obtain ⟨a2, xs2, rfl, e3⟩ := arg_imp e2
  obtain ⟨rfl, e4⟩ := noArg_imp e3
  obtain ⟨a1, rfl, e5⟩ := asI_iff.1 e4
  obtain ⟨a2, rfl, e6⟩ := asI_iff.1 e5
  exact (s226_eq J0 s232 a0 a1 a2 h k).mpr e6
/-- slices.pdqsortOrdered[string] -/
noncomputable def s150G (J : Joins) (c226 : AV → Int → Int → H → (H → Prop) → Prop) (c232 : Str → Str → H → (Bool → H → Prop) → Prop) (a0 : AV) (a1 : Int) (a2 : Int) (a3 : Int) (h : H) (k : H → Prop) : Prop :=
J.lp (α := AV × AV × AV × AV × AV × AV × Unit) (fun r4 v1 d2 h3 =>
asI .i64 v1.2.2.1 fun x5 =>
asI .i64 v1.2.1 fun x6 =>
fI (wrapF .i64 (Int.sub x5 x6)) fun x7 =>
fB (Bool.not (ltI (Int.ofNat 12) x7)) fun b8 =>
br b8 (
asI .i64 v1.2.1 fun x10 =>
asI .i64 v1.2.2.1 fun x11 =>
c226 v1.1 x10 x11 h3 fun  h9 =>
leaveK (gam J [(226, w226 c226), (232, w232 c232)]) d2 h9 fun h12 =>
k  h12) (
asI .i64 v1.2.2.2.1 fun x13 =>
fB (eqI x13 (Int.ofNat 0)) fun b14 =>
br b14 (
False) (
J.jd (α := AV × AV × AV × AV × AV × AV × AV × Unit) (fun v15 d16 h17 =>
False) fun j18 =>
asB v1.2.2.2.2.1 fun b19 =>
fB (Bool.not b19) fun b20 =>
br b20 (
False) (
j18 (v1.1, v1.2.1, v1.2.2.1, v1.2.2.2.1, v1.2.2.2.2.1, v1.2.2.2.2.2.1, (AV.int .i64 x7), ()) d2 h3)))) (a0, (AV.int .i64 a1), (AV.int .i64 a2), (AV.int .i64 a3), (AV.bool true), (AV.bool true), ()) [] h
noncomputable def s150 : AV → Int → Int → Int → H → (H → Prop) → Prop := s150G J0 s226 s232
noncomputable def w150 (c : AV → Int → Int → Int → H → (H → Prop) → Prop) : Fun := fun xs h k => arg xs fun a0 xs => arg xs fun a1 xs => arg xs fun a2 xs => arg xs fun a3 xs => noArg xs <| asI .i64 a1 fun a1 => asI .i64 a2 fun a2 => asI .i64 a3 fun a3 => c a0 a1 a2 a3 h fun  h => k (.tuple []) h
theorem s150_eq (J : Joins) (c226 : AV → Int → Int → H → (H → Prop) → Prop) (c232 : Str → Str → H → (Bool → H → Prop) → Prop) (a0 : AV) (a1 : Int) (a2 : Int) (a3 : Int) (h : H) (k : AV → H → Prop) : denF ty (gam J [(226, w226 c226), (232, w232 c232)]) Tryz.f150 [a0, (.int .i64 a1), (.int .i64 a2), (.int .i64 a3)] h k = s150G J c226 c232 a0 a1 a2 a3 h (fun  h => k (.tuple []) h) := by kernel_rfl
noncomputable def g150 : Fun := w150 s150
theorem g150_ok : FunOk Tryz.prog 150 g150 := (fun_ok ty_ok mixed (gam_ok (J := J0) (tab_cons g226_ok (tab_cons g232_ok (tab_nil fls_fun)))) Tryz.func150 (fun args w => by simp)).imp fun xs h k e0 => by
  obtain ⟨a0, xs0, rfl, e1⟩ := arg_imp e0
  obtain ⟨a1, xs1, rfl, e2⟩ := arg_imp e1
  obtain ⟨a2, xs2, rfl, e3⟩ := arg_imp e2
  obtain ⟨a3, xs3, rfl, e4⟩ := arg_imp e3
  obtain ⟨rfl, e5⟩ := noArg_imp e4
  obtain ⟨a1, rfl, e6⟩ := asI_iff.1 e5
  obtain ⟨a2, rfl, e7⟩ := asI_iff.1 e6
  obtain ⟨a3, rfl, e8⟩ := asI_iff.1 e7
  exact (s150_eq J0 s226 s232 a0 a1 a2 a3 h k).mpr e8
/-- math/bits.Len32 -/
noncomputable def g235 : Fun := denFS ty (gam J0 []) Tryz.f235
theorem g235_ok : FunOk Tryz.prog 235 g235 := fun_okS ty_ok mixed (gam_ok (J := J0) (tab_nil fls_fun)) Tryz.func235 (fun args w => by simp)
/-- math/bits.Len -/
noncomputable def s151G (J : Joins) (c235 : Fun) (c236 : Int → H → (Int → H → Prop) → Prop) (a0 : Int) (h : H) (k : Int → H → Prop) : Prop :=
br false (
fI (wrapF .u32 a0) fun x1 =>
c235 [(AV.int .u32 x1)] h fun v2 h3 =>
asI .i64 v2 fun x4 =>
k x4 h3) (
c236 a0 h fun x6 h5 =>
k x6 h5)
noncomputable def s151 : Int → H → (Int → H → Prop) → Prop := s151G J0 g235 s236
noncomputable def w151 (c : Int → H → (Int → H → Prop) → Prop) : Fun := fun xs h k => arg xs fun a0 xs => noArg xs <| asI .u64 a0 fun a0 => c a0 h fun r0 h => k (.int .i64 r0) h
theorem s151_eq (J : Joins) (c235 : Fun) (c236 : Int → H → (Int → H → Prop) → Prop) (a0 : Int) (h : H) (k : AV → H → Prop) : denF ty (gam J [(235, c235), (236, w236 c236)]) Tryz.f151 [(.int .u64 a0)] h k = s151G J c235 c236 a0 h (fun r0 h => k (.int .i64 r0) h) := by kernel_rfl
noncomputable def g151 : Fun := w151 s151
theorem g151_ok : FunOk Tryz.prog 151 g151 := (fun_ok ty_ok mixed (gam_ok (J := J0) (tab_cons g235_ok (tab_cons g236_ok (tab_nil fls_fun)))) Tryz.func151 (fun args w => by simp)).imp fun xs h k e0 => by
  obtain ⟨a0, xs0, rfl, e1⟩ := arg_imp e0
  obtain ⟨rfl, e2⟩ := noArg_imp e1
  obtain ⟨a0, rfl, e3⟩ := asI_iff.1 e2
  exact (s151_eq J0 g235 s236 a0 h k).mpr e3
/-- slices.Sort[[]string,string] -/
noncomputable def s94G (J : Joins) (c150 : AV → Int → Int → Int → H → (H → Prop) → Prop) (c151 : Int → H → (Int → H → Prop) → Prop) (a0 : AV) (h : H) (k : H → Prop) : Prop :=
lenK a0 fun x1 =>
fI (wrapF .u64 (Int.ofNat x1)) fun x2 =>
c151 x2 h fun x4 h3 =>
c150 a0 (Int.ofNat 0) (Int.ofNat x1) x4 h3 fun  h5 =>
k  h5
noncomputable def s94 : AV → H → (H → Prop) → Prop := s94G J0 s150 s151
noncomputable def w94 (c : AV → H → (H → Prop) → Prop) : Fun := fun xs h k => arg xs fun a0 xs => noArg xs <| c a0 h fun  h => k (.tuple []) h
theorem s94_eq (J : Joins) (c150 : AV → Int → Int → Int → H → (H → Prop) → Prop) (c151 : Int → H → (Int → H → Prop) → Prop) (a0 : AV) (h : H) (k : AV → H → Prop) : denF ty (gam J [(150, w150 c150), (151, w151 c151)]) Tryz.f94 [a0] h k = s94G J c150 c151 a0 h (fun  h => k (.tuple []) h) := by kernel_rfl
noncomputable def g94 : Fun := w94 s94
theorem g94_ok : FunOk Tryz.prog 94 g94 := (fun_ok ty_ok mixed (gam_ok (J := J0) (tab_cons g150_ok (tab_cons g151_ok (tab_nil fls_fun)))) Tryz.func94 (fun args w => by simp)).imp fun xs h k e0 => by
  obtain ⟨a0, xs0, rfl, e1⟩ := arg_imp e0
  obtain ⟨rfl, e2⟩ := noArg_imp e1
  exact (s94_eq J0 s150 s151 a0 h k).mpr e2
/-- slices.Sorted[string] -/
noncomputable def s56G (J : Joins) (c93 : AV → H → (AV → H → Prop) → Prop) (c94 : AV → H → (H → Prop) → Prop) (a0 : AV) (h : H) (k : AV → H → Prop) : Prop :=
c93 a0 h fun v2 h1 =>
c94 v2 h1 fun  h3 =>
k v2 h3
noncomputable def s56 : AV → H → (AV → H → Prop) → Prop := s56G J0 s93 s94
noncomputable def w56 (c : AV → H → (AV → H → Prop) → Prop) : Fun := fun xs h k => arg xs fun a0 xs => noArg xs <| c a0 h fun r0 h => k r0 h
theorem s56_eq (J : Joins) (c93 : AV → H → (AV → H → Prop) → Prop) (c94 : AV → H → (H → Prop) → Prop) (a0 : AV) (h : H) (k : AV → H → Prop) : denF ty (gam J [(93, w93 c93), (94, w94 c94)]) Tryz.f56 [a0] h k = s56G J c93 c94 a0 h (fun r0 h => k r0 h) := by kernel_rfl
noncomputable def g56 : Fun := w56 s56
theorem g56_ok : FunOk Tryz.prog 56 g56 := (fun_ok ty_ok mixed (gam_ok (J := J0) (tab_cons g93_ok (tab_cons g94_ok (tab_nil fls_fun)))) Tryz.func56 (fun args w => by simp)).imp fun xs h k e0 => by
  obtain ⟨a0, xs0, rfl, e1⟩ := arg_imp e0
  obtain ⟨rfl, e2⟩ := noArg_imp e1
  exact (s56_eq J0 s93 s94 a0 h k).mpr e2
end Go.Proofs.YtgpndbkghmbacaaGreatDoor
