/- Functions as they are reckoned. MADE BY PROGRAM (wip/tools/shal.py). -/
import Derived.Test.YtiejkbmobmgdkaaAmH17
namespace Go.Proofs.Ytiejkbmobmgdkaa
open Go Go.Am
set_option maxRecDepth 100000
set_option linter.all false
/-- (*stagepost/vfs.FS).Pending -/
noncomputable def s19G (J : Joins) (a0 : AV) (h : H) (k : Int → H → Prop) : Prop :=
nilB 0 a0 fun b1 =>
br b1 (
k (Int.ofNat 0) h) (
okNil a0 (
faK 2 a0 fun p2 =>
ldV p2 h fun v3 =>
lenK v3 fun x4 =>
k (Int.ofNat x4) h))
noncomputable def s19 : AV → H → (Int → H → Prop) → Prop := s19G J0 
noncomputable def w19 (c : AV → H → (Int → H → Prop) → Prop) : Fun := fun xs h k => arg xs fun a0 xs => noArg xs <| c a0 h fun r0 h => k (.int .i64 r0) h
theorem s19_eq (J : Joins) (a0 : AV) (h : H) (k : AV → H → Prop) : denF ty (gam J []) Try.f19 [a0] h k = s19G J  a0 h (fun r0 h => k (.int .i64 r0) h) := by kernel_rfl
noncomputable def g19 : Fun := w19 s19
theorem g19_ok : FunOk Try.prog 19 g19 := (fun_ok ty_ok mixed (gam_ok (J := J0) (tab_nil fls_fun)) Try.func19 (fun args w => by simp)).imp fun xs h k e0 => by
  obtain ⟨a0, xs0, rfl, e1⟩ := arg_imp e0
  obtain ⟨rfl, e2⟩ := noArg_imp e1
  exact (s19_eq J0  a0 h k).mpr e2
/-- maps.Keys[map[string]int,string,int]$1 -/
noncomputable def s53G (J : Joins) (cd : Code → Ks → List AV → List Dfr → H → Prop) (a0 : AV) (a1 : AV) (h : H) (k : H → Prop) : Prop :=
ldV a1 h fun v1 =>
aRangeK v1 h fun v2 h3 =>
J.lp (α := AV × AV × Unit) (fun r7 v4 d5 h6 =>
aNext v4.2.1 h6 fun v8 h9 =>
asTup v8 fun l10 =>
op' (lgetO l10 0) fun v11 =>
asB v11 fun b12 =>
br b12 (
op' (aEntry v4.2.1 h9) fun v13 =>
asTup v13 fun l14 =>
op' (lgetO l14 0) fun v15 =>
asS v15 fun s16 =>
callK (gamI J [] [] cd) v4.1 [(AV.str s16)] h9 fun v17 h18 =>
asB v17 fun b19 =>
fB (Bool.not b19) fun b20 =>
br b20 (
leaveK (gamI J [] [] cd) d5 h18 fun h21 =>
k  h21) (
r7 (v4.1, v4.2.1, ()) d5 h18)) (
leaveK (gamI J [] [] cd) d5 h9 fun h22 =>
k  h22)) (a0, v2, ()) [] h3
noncomputable def s53 : AV → AV → H → (H → Prop) → Prop := s53G J0  noCode
noncomputable def w53 (c : AV → AV → H → (H → Prop) → Prop) : Fun := fun xs h k => arg xs fun a0 xs => arg xs fun a1 xs => noArg xs <| c a0 a1 h fun  h => k (.tuple []) h
theorem s53_eq (J : Joins) (cd : Code → Ks → List AV → List Dfr → H → Prop) (a0 : AV) (a1 : AV) (h : H) (k : AV → H → Prop) : denF ty (gamI J [] [] cd) Try.f53 [a0, a1] h k = s53G J  cd a0 a1 h (fun  h => k (.tuple []) h) := by kernel_rfl
noncomputable def g53 : Fun := w53 s53
theorem g53_ok : FunOk Try.prog 53 g53 := (fun_ok ty_ok mixed (gamI_ok (J := J0) (tab_nil fls_fun) (tab_nil fls_it) noCode_ok) Try.func53 (fun args w => by simp)).imp fun xs h k e0 => by
  obtain ⟨a0, xs0, rfl, e1⟩ := arg_imp e0
  obtain ⟨a1, xs1, rfl, e2⟩ := arg_imp e1
  obtain ⟨rfl, e3⟩ := noArg_imp e2
  exact (s53_eq J0  noCode a0 a1 h k).mpr e3
/-- function 53 as function 55 ranges over it -/
noncomputable def s53_55 : AV → AV → H → (H → Prop) → Prop := s53G J0  (denR ty (gamI J0 [] [] noCode))
theorem i53_55_ok : ItOk Try.prog 53 (w53 s53_55) := (it_ok ty_ok mixed (gamI_ok (J := J0) (tab_nil fls_fun) (tab_nil fls_it) (code_ok ty_ok mixed (gamI_ok (J := J0) (tab_nil fls_fun) (tab_nil fls_it) noCode_ok))) Try.func53 (fun args w => by simp)).imp fun xs h k e0 => by
  obtain ⟨a0, xs0, rfl, e1⟩ := arg_imp e0
  obtain ⟨a1, xs1, rfl, e2⟩ := arg_imp e1
  obtain ⟨rfl, e3⟩ := noArg_imp e2
  exact (s53_eq J0  (denR ty (gamI J0 [] [] noCode)) a0 a1 h k).mpr e3
/-- slices.AppendSeq[[]string,string] -/
noncomputable def s55G (J : Joins) (i53 : AV → AV → H → (H → Prop) → Prop) (a0 : AV) (a1 : AV) (h : H) (k : AV → H → Prop) : Prop :=
ck (isOne a0) (
pushK (.cells false 46 [a0]) h fun n1 h2 =>
J.jd (α := AV × Unit) (fun v3 d4 h5 =>
ldV v3.1 h5 fun v7 =>
leaveK (gamI J [] [(53, w53 i53)] noCode) d4 h5 fun h8 =>
k v7 h8) fun j6 =>
rfK (gamI J [] [(53, w53 i53)] noCode) a1 [7] (rfAt Try.f55 0) [a0, a1, (AV.ptr n1 0), AV.junk, AV.nils, AV.junk, a1, AV.junk, AV.junk, AV.junk, AV.junk, AV.junk, AV.junk] h2 fun n9 n10 h11 =>
endR n9 n10 (fun d12 h13 =>
j6 ((AV.ptr n1 0), ()) d12 h13) (fun d12 h13 =>
leaveK (gamI J [] [(53, w53 i53)] noCode) d12 h13 fun h15 =>
k AV.nils h15) (fun i14 d12 h13 =>
exB (Nat.beq i14 0) (fun d12 h13 =>
j6 ((AV.ptr n1 0), ()) d12 h13) (fun d12 h13 =>
False) d12 h13) [] h11)
noncomputable def s55 : AV → AV → H → (AV → H → Prop) → Prop := s55G J0  s53_55
noncomputable def w55 (c : AV → AV → H → (AV → H → Prop) → Prop) : Fun := fun xs h k => arg xs fun a0 xs => arg xs fun a1 xs => noArg xs <| c a0 a1 h fun r0 h => k r0 h
theorem s55_eq (J : Joins) (i53 : AV → AV → H → (H → Prop) → Prop) (a0 : AV) (a1 : AV) (h : H) (k : AV → H → Prop) : denF ty (gamI J [] [(53, w53 i53)] noCode) Try.f55 [a0, a1] h k = s55G J  i53 a0 a1 h (fun r0 h => k r0 h) := by kernel_rfl
noncomputable def g55 : Fun := w55 s55
theorem g55_ok : FunOk Try.prog 55 g55 := (fun_ok ty_ok mixed (gamI_ok (J := J0) (tab_nil fls_fun) (tab_cons i53_55_ok (tab_nil fls_it)) noCode_ok) Try.func55 (fun args w => by simp)).imp fun xs h k e0 => by
  obtain ⟨a0, xs0, rfl, e1⟩ := arg_imp e0
  obtain ⟨a1, xs1, rfl, e2⟩ := arg_imp e1
  obtain ⟨rfl, e3⟩ := noArg_imp e2
  exact (s55_eq J0  s53_55 a0 a1 h k).mpr e3
/-- slices.Collect[string] -/
noncomputable def s51G (J : Joins) (c55 : AV → AV → H → (AV → H → Prop) → Prop) (a0 : AV) (h : H) (k : AV → H → Prop) : Prop :=
c55 AV.nils a0 h fun v2 h1 =>
k v2 h1
noncomputable def s51 : AV → H → (AV → H → Prop) → Prop := s51G J0 s55
noncomputable def w51 (c : AV → H → (AV → H → Prop) → Prop) : Fun := fun xs h k => arg xs fun a0 xs => noArg xs <| c a0 h fun r0 h => k r0 h
theorem s51_eq (J : Joins) (c55 : AV → AV → H → (AV → H → Prop) → Prop) (a0 : AV) (h : H) (k : AV → H → Prop) : denF ty (gam J [(55, w55 c55)]) Try.f51 [a0] h k = s51G J c55 a0 h (fun r0 h => k r0 h) := by kernel_rfl
noncomputable def g51 : Fun := w51 s51
theorem g51_ok : FunOk Try.prog 51 g51 := (fun_ok ty_ok mixed (gam_ok (J := J0) (tab_cons g55_ok (tab_nil fls_fun))) Try.func51 (fun args w => by simp)).imp fun xs h k e0 => by
  obtain ⟨a0, xs0, rfl, e1⟩ := arg_imp e0
  obtain ⟨rfl, e2⟩ := noArg_imp e1
  exact (s51_eq J0 s55 a0 h k).mpr e2
/-- cmp.isNaN[string] -/
noncomputable def s74G (J : Joins) (a0 : Str) (h : H) (k : Bool → H → Prop) : Prop :=
fB (Bool.not (Str.beq a0 a0)) fun b1 =>
k b1 h
noncomputable def s74 : Str → H → (Bool → H → Prop) → Prop := s74G J0 
noncomputable def w74 (c : Str → H → (Bool → H → Prop) → Prop) : Fun := fun xs h k => arg xs fun a0 xs => noArg xs <| asS a0 fun a0 => c a0 h fun r0 h => k (.bool r0) h
theorem s74_eq (J : Joins) (a0 : Str) (h : H) (k : AV → H → Prop) : denF ty (gam J []) Try.f74 [(.str a0)] h k = s74G J  a0 h (fun r0 h => k (.bool r0) h) := by kernel_rfl
noncomputable def g74 : Fun := w74 s74
theorem g74_ok : FunOk Try.prog 74 g74 := (fun_ok ty_ok mixed (gam_ok (J := J0) (tab_nil fls_fun)) Try.func74 (fun args w => by simp)).imp fun xs h k e0 => by
  obtain ⟨a0, xs0, rfl, e1⟩ := arg_imp e0
  obtain ⟨rfl, e2⟩ := noArg_imp e1
  obtain ⟨a0, rfl, e3⟩ := asS_iff.1 e2
  exact (s74_eq J0  a0 h k).mpr e3
/-- cmp.Less[string] -/
noncomputable def s64G (J : Joins) (c74 : Str → H → (Bool → H → Prop) → Prop) (a0 : Str) (a1 : Str) (h : H) (k : Bool → H → Prop) : Prop :=
c74 a0 h fun b2 h1 =>
J.jn (fun v3 h4 =>
J.jn (fun v6 h7 =>
J.jn (fun v12 h13 =>
pickB (AV.bool b2) v12 (AV.bool false) fun b17 =>
J.jn (fun v18 h19 =>
J.jn (fun v21 h22 =>
J.jn (fun v24 h25 =>
pickB (AV.bool b17) (AV.bool true) v24 fun b30 =>
k b30 h25) fun j26 =>
br b17 (
j26 skipV h22) (
asS v18 fun s27 =>
asS v21 fun s28 =>
fB (Str.lt s27 s28) fun b29 =>
j26 (AV.bool b29) h22)) fun j23 =>
br b17 (
j23 skipV h19) (
j23 (AV.str a1) h19)) fun j20 =>
br b17 (
j20 skipV h13) (
j20 (AV.str a0) h13)) fun j14 =>
br b2 (
asB v6 fun b15 =>
fB (Bool.not b15) fun b16 =>
j14 (AV.bool b16) h7) (
j14 skipV h7)) fun j8 =>
br b2 (
asS v3 fun s10 =>
c74 s10 h4 fun b11 h9 =>
j8 (AV.bool b11) h9) (
j8 skipV h4)) fun j5 =>
br b2 (
j5 (AV.str a1) h1) (
j5 skipV h1)
noncomputable def s64 : Str → Str → H → (Bool → H → Prop) → Prop := s64G J0 s74
noncomputable def w64 (c : Str → Str → H → (Bool → H → Prop) → Prop) : Fun := fun xs h k => arg xs fun a0 xs => arg xs fun a1 xs => noArg xs <| asS a0 fun a0 => asS a1 fun a1 => c a0 a1 h fun r0 h => k (.bool r0) h
theorem s64_eq (J : Joins) (c74 : Str → H → (Bool → H → Prop) → Prop) (a0 : Str) (a1 : Str) (h : H) (k : AV → H → Prop) : denF ty (gam J [(74, w74 c74)]) Try.f64 [(.str a0), (.str a1)] h k = s64G J c74 a0 a1 h (fun r0 h => k (.bool r0) h) := by kernel_rfl
noncomputable def g64 : Fun := w64 s64
theorem g64_ok : FunOk Try.prog 64 g64 := (fun_ok ty_ok mixed (gam_ok (J := J0) (tab_cons g74_ok (tab_nil fls_fun))) Try.func64 (fun args w => by simp)).imp fun xs h k e0 => by
  obtain ⟨a0, xs0, rfl, e1⟩ := arg_imp e0
  obtain ⟨a1, xs1, rfl, e2⟩ := arg_imp e1
  obtain ⟨rfl, e3⟩ := noArg_imp e2
  obtain ⟨a0, rfl, e4⟩ := asS_iff.1 e3
  obtain ⟨a1, rfl, e5⟩ := asS_iff.1 e4
  exact (s64_eq J0 s74 a0 a1 h k).mpr e5
/-- slices.insertionSortOrdered[string] -/
noncomputable def s58G (J : Joins) (c64 : Str → Str → H → (Bool → H → Prop) → Prop) (a0 : AV) (a1 : Int) (a2 : Int) (h : H) (k : H → Prop) : Prop :=
fI (wrapF .i64 (Int.add a1 (Int.ofNat 1))) fun x1 =>
J.lp (α := AV × AV × AV × AV × Unit) (fun r5 v2 d3 h4 =>
asI .i64 v2.2.2.2.1 fun x6 =>
asI .i64 v2.2.2.1 fun x7 =>
fB (ltI x6 x7) fun b8 =>
br b8 (
J.lp (α := AV × AV × AV × AV × AV × Unit) (fun r12 v9 d10 h11 =>
asI .i64 v9.2.2.2.2.1 fun x13 =>
asI .i64 v9.2.1 fun x14 =>
fB (ltI x14 x13) fun b15 =>
J.jn (fun v16 h17 =>
J.jn (fun v19 h20 =>
J.jn (fun v22 h23 =>
J.jb (fun b26 v27 =>
J.jn (fun v30 h31 =>
J.jn (fun v33 h34 =>
J.jn (fun v36 h37 =>
J.jn (fun v41 h42 =>
J.jb (fun b45 v46 =>
J.jn (fun v49 h50 =>
pickB (AV.bool b15) v49 (AV.bool false) fun b56 =>
br b56 (
asI .i64 v9.2.2.2.2.1 fun x57 =>
fI (wrapF .i64 (Int.sub x57 (Int.ofNat 1))) fun x58 =>
asI .i64 v9.2.2.2.2.1 fun x59 =>
fI (wrapF .i64 (Int.sub x59 (Int.ofNat 1))) fun x60 =>
ixK 1 v9.1 (AV.int .i64 x60) fun p61 =>
ldS p61 h50 fun s62 =>
ixK 1 v9.1 v9.2.2.2.2.1 fun p63 =>
ldS p63 h50 fun s64 =>
ixK 1 v9.1 v9.2.2.2.2.1 fun p65 =>
stV p65 (AV.str s62) h50 fun h66 =>
ixK 1 v9.1 (AV.int .i64 x58) fun p67 =>
stV p67 (AV.str s64) h66 fun h68 =>
asI .i64 v9.2.2.2.2.1 fun x69 =>
fI (wrapF .i64 (Int.sub x69 (Int.ofNat 1))) fun x70 =>
r12 (v9.1, v9.2.1, v9.2.2.1, v9.2.2.2.1, (AV.int .i64 x70), ()) d10 h68) (
asI .i64 v9.2.2.2.1 fun x71 =>
fI (wrapF .i64 (Int.add x71 (Int.ofNat 1))) fun x72 =>
r5 (v9.1, v9.2.1, v9.2.2.1, (AV.int .i64 x72), ()) d10 h50)) fun j51 =>
br b15 (
asS v27 fun s53 =>
asS v46 fun s54 =>
c64 s53 s54 h42 fun b55 h52 =>
j51 (AV.bool b55) h52) (
j51 skipV h42)) fun j47 =>
br b15 (
ldS v41 h42 fun s48 =>
j47 true (AV.str s48)) (
j47 false skipV)) fun j43 =>
br b15 (
ixK 1 v30 v36 fun p44 =>
j43 p44 h37) (
j43 skipV h37)) fun j38 =>
br b15 (
asI .i64 v33 fun x39 =>
fI (wrapF .i64 (Int.sub x39 (Int.ofNat 1))) fun x40 =>
j38 (AV.int .i64 x40) h34) (
j38 skipV h34)) fun j35 =>
br b15 (
j35 v9.2.2.2.2.1 h31) (
j35 skipV h31)) fun j32 =>
br b15 (
j32 v9.1 h23) (
j32 skipV h23)) fun j28 =>
br b15 (
ldS v22 h23 fun s29 =>
j28 true (AV.str s29)) (
j28 false skipV)) fun j24 =>
br b15 (
ixK 1 v16 v19 fun p25 =>
j24 p25 h20) (
j24 skipV h20)) fun j21 =>
br b15 (
j21 v9.2.2.2.2.1 h17) (
j21 skipV h17)) fun j18 =>
br b15 (
j18 v9.1 h11) (
j18 skipV h11)) (v2.1, v2.2.1, v2.2.2.1, v2.2.2.2.1, v2.2.2.2.1, ()) d3 h4) (
leaveK (gam J [(64, w64 c64)]) d3 h4 fun h73 =>
k  h73)) (a0, (AV.int .i64 a1), (AV.int .i64 a2), (AV.int .i64 x1), ()) [] h
noncomputable def s58 : AV → Int → Int → H → (H → Prop) → Prop := s58G J0 s64
noncomputable def w58 (c : AV → Int → Int → H → (H → Prop) → Prop) : Fun := fun xs h k => arg xs fun a0 xs => arg xs fun a1 xs => arg xs fun a2 xs => noArg xs <| asI .i64 a1 fun a1 => asI .i64 a2 fun a2 => c a0 a1 a2 h fun  h => k (.tuple []) h
theorem s58_eq (J : Joins) (c64 : Str → Str → H → (Bool → H → Prop) → Prop) (a0 : AV) (a1 : Int) (a2 : Int) (h : H) (k : AV → H → Prop) : denF ty (gam J [(64, w64 c64)]) Try.f58 [a0, (.int .i64 a1), (.int .i64 a2)] h k = s58G J c64 a0 a1 a2 h (fun  h => k (.tuple []) h) := by kernel_rfl
noncomputable def g58 : Fun := w58 s58
theorem g58_ok : FunOk Try.prog 58 g58 := (fun_ok ty_ok mixed (gam_ok (J := J0) (tab_cons g64_ok (tab_nil fls_fun))) Try.func58 (fun args w => by simp)).imp fun xs h k e0 => by
  obtain ⟨a0, xs0, rfl, e1⟩ := arg_imp e0
  obtain ⟨a1, xs1, rfl, e2⟩ := arg_imp e1
  obtain ⟨a2, xs2, rfl, e3⟩ := arg_imp e2
  obtain ⟨rfl, e4⟩ := noArg_imp e3
  obtain ⟨a1, rfl, e5⟩ := asI_iff.1 e4
  obtain ⟨a2, rfl, e6⟩ := asI_iff.1 e5
  exact (s58_eq J0 s64 a0 a1 a2 h k).mpr e6
/-- slices.siftDownOrdered[string] -/
noncomputable def s69G (J : Joins) (c64 : Str → Str → H → (Bool → H → Prop) → Prop) (a0 : AV) (a1 : Int) (a2 : Int) (a3 : Int) (h : H) (k : H → Prop) : Prop :=
J.lp (α := AV × AV × AV × AV × Unit) (fun r4 v1 d2 h3 =>
asI .i64 v1.2.2.2.1 fun x5 =>
fI (wrapF .i64 (Int.mul (Int.ofNat 2) x5)) fun x6 =>
fI (wrapF .i64 (Int.add x6 (Int.ofNat 1))) fun x7 =>
asI .i64 v1.2.1 fun x8 =>
fB (Bool.not (ltI x7 x8)) fun b9 =>
br b9 (
leaveK (gam J [(64, w64 c64)]) d2 h3 fun h10 =>
k  h10) (
J.jd (α := AV × AV × AV × AV × AV × Unit) (fun v11 d12 h13 =>
asI .i64 v11.2.2.1 fun x15 =>
asI .i64 v11.2.2.2.1 fun x16 =>
fI (wrapF .i64 (Int.add x15 x16)) fun x17 =>
ixK 1 v11.1 (AV.int .i64 x17) fun p18 =>
ldS p18 h13 fun s19 =>
asI .i64 v11.2.2.1 fun x20 =>
asI .i64 v11.2.2.2.2.1 fun x21 =>
fI (wrapF .i64 (Int.add x20 x21)) fun x22 =>
ixK 1 v11.1 (AV.int .i64 x22) fun p23 =>
ldS p23 h13 fun s24 =>
c64 s19 s24 h13 fun b26 h25 =>
fB (Bool.not b26) fun b27 =>
br b27 (
leaveK (gam J [(64, w64 c64)]) d12 h25 fun h28 =>
k  h28) (
asI .i64 v11.2.2.1 fun x29 =>
asI .i64 v11.2.2.2.1 fun x30 =>
fI (wrapF .i64 (Int.add x29 x30)) fun x31 =>
asI .i64 v11.2.2.1 fun x32 =>
asI .i64 v11.2.2.2.2.1 fun x33 =>
fI (wrapF .i64 (Int.add x32 x33)) fun x34 =>
asI .i64 v11.2.2.1 fun x35 =>
asI .i64 v11.2.2.2.2.1 fun x36 =>
fI (wrapF .i64 (Int.add x35 x36)) fun x37 =>
ixK 1 v11.1 (AV.int .i64 x37) fun p38 =>
ldS p38 h25 fun s39 =>
asI .i64 v11.2.2.1 fun x40 =>
asI .i64 v11.2.2.2.1 fun x41 =>
fI (wrapF .i64 (Int.add x40 x41)) fun x42 =>
ixK 1 v11.1 (AV.int .i64 x42) fun p43 =>
ldS p43 h25 fun s44 =>
ixK 1 v11.1 (AV.int .i64 x31) fun p45 =>
stV p45 (AV.str s39) h25 fun h46 =>
ixK 1 v11.1 (AV.int .i64 x34) fun p47 =>
stV p47 (AV.str s44) h46 fun h48 =>
r4 (v11.1, v11.2.1, v11.2.2.1, v11.2.2.2.2.1, ()) d12 h48)) fun j14 =>
fI (wrapF .i64 (Int.add x7 (Int.ofNat 1))) fun x49 =>
asI .i64 v1.2.1 fun x50 =>
fB (ltI x49 x50) fun b51 =>
J.jn (fun v52 h53 =>
J.jn (fun v55 h56 =>
J.jn (fun v58 h59 =>
J.jn (fun v61 h62 =>
J.jn (fun v67 h68 =>
J.jb (fun b71 v72 =>
J.jn (fun v75 h76 =>
J.jn (fun v78 h79 =>
J.jn (fun v81 h82 =>
J.jn (fun v84 h85 =>
J.jn (fun v90 h91 =>
J.jn (fun v95 h96 =>
J.jb (fun b99 v100 =>
J.jn (fun v103 h104 =>
pickB (AV.bool b51) v103 (AV.bool false) fun b110 =>
br b110 (
fI (wrapF .i64 (Int.add x7 (Int.ofNat 1))) fun x111 =>
j14 (v1.1, v1.2.1, v1.2.2.1, v1.2.2.2.1, (AV.int .i64 x111), ()) d2 h104) (
j14 (v1.1, v1.2.1, v1.2.2.1, v1.2.2.2.1, (AV.int .i64 x7), ()) d2 h104)) fun j105 =>
br b51 (
asS v72 fun s107 =>
asS v100 fun s108 =>
c64 s107 s108 h96 fun b109 h106 =>
j105 (AV.bool b109) h106) (
j105 skipV h96)) fun j101 =>
br b51 (
ldS v95 h96 fun s102 =>
j101 true (AV.str s102)) (
j101 false skipV)) fun j97 =>
br b51 (
ixK 1 v75 v90 fun p98 =>
j97 p98 h91) (
j97 skipV h91)) fun j92 =>
br b51 (
asI .i64 v84 fun x93 =>
fI (wrapF .i64 (Int.add x93 (Int.ofNat 1))) fun x94 =>
j92 (AV.int .i64 x94) h85) (
j92 skipV h85)) fun j86 =>
br b51 (
asI .i64 v78 fun x87 =>
asI .i64 v81 fun x88 =>
fI (wrapF .i64 (Int.add x87 x88)) fun x89 =>
j86 (AV.int .i64 x89) h82) (
j86 skipV h82)) fun j83 =>
br b51 (
j83 (AV.int .i64 x7) h79) (
j83 skipV h79)) fun j80 =>
br b51 (
j80 v1.2.2.1 h76) (
j80 skipV h76)) fun j77 =>
br b51 (
j77 v1.1 h68) (
j77 skipV h68)) fun j73 =>
br b51 (
ldS v67 h68 fun s74 =>
j73 true (AV.str s74)) (
j73 false skipV)) fun j69 =>
br b51 (
ixK 1 v52 v61 fun p70 =>
j69 p70 h62) (
j69 skipV h62)) fun j63 =>
br b51 (
asI .i64 v55 fun x64 =>
asI .i64 v58 fun x65 =>
fI (wrapF .i64 (Int.add x64 x65)) fun x66 =>
j63 (AV.int .i64 x66) h59) (
j63 skipV h59)) fun j60 =>
br b51 (
j60 (AV.int .i64 x7) h56) (
j60 skipV h56)) fun j57 =>
br b51 (
j57 v1.2.2.1 h53) (
j57 skipV h53)) fun j54 =>
br b51 (
j54 v1.1 h3) (
j54 skipV h3))) (a0, (AV.int .i64 a2), (AV.int .i64 a3), (AV.int .i64 a1), ()) [] h
noncomputable def s69 : AV → Int → Int → Int → H → (H → Prop) → Prop := s69G J0 s64
noncomputable def w69 (c : AV → Int → Int → Int → H → (H → Prop) → Prop) : Fun := fun xs h k => arg xs fun a0 xs => arg xs fun a1 xs => arg xs fun a2 xs => arg xs fun a3 xs => noArg xs <| asI .i64 a1 fun a1 => asI .i64 a2 fun a2 => asI .i64 a3 fun a3 => c a0 a1 a2 a3 h fun  h => k (.tuple []) h
theorem s69_eq (J : Joins) (c64 : Str → Str → H → (Bool → H → Prop) → Prop) (a0 : AV) (a1 : Int) (a2 : Int) (a3 : Int) (h : H) (k : AV → H → Prop) : denF ty (gam J [(64, w64 c64)]) Try.f69 [a0, (.int .i64 a1), (.int .i64 a2), (.int .i64 a3)] h k = s69G J c64 a0 a1 a2 a3 h (fun  h => k (.tuple []) h) := by kernel_rfl
noncomputable def g69 : Fun := w69 s69
theorem g69_ok : FunOk Try.prog 69 g69 := (fun_ok ty_ok mixed (gam_ok (J := J0) (tab_cons g64_ok (tab_nil fls_fun))) Try.func69 (fun args w => by simp)).imp fun xs h k e0 => by
  obtain ⟨a0, xs0, rfl, e1⟩ := arg_imp e0
  obtain ⟨a1, xs1, rfl, e2⟩ := arg_imp e1
  obtain ⟨a2, xs2, rfl, e3⟩ := arg_imp e2
  obtain ⟨a3, xs3, rfl, e4⟩ := arg_imp e3
  obtain ⟨rfl, e5⟩ := noArg_imp e4
  obtain ⟨a1, rfl, e6⟩ := asI_iff.1 e5
  obtain ⟨a2, rfl, e7⟩ := asI_iff.1 e6
  obtain ⟨a3, rfl, e8⟩ := asI_iff.1 e7
  exact (s69_eq J0 s64 a0 a1 a2 a3 h k).mpr e8
/-- slices.heapSortOrdered[string] -/
noncomputable def s59G (J : Joins) (c69 : AV → Int → Int → Int → H → (H → Prop) → Prop) (a0 : AV) (a1 : Int) (a2 : Int) (h : H) (k : H → Prop) : Prop :=
fI (wrapF .i64 (Int.sub a2 a1)) fun x1 =>
fI (wrapF .i64 (Int.sub x1 (Int.ofNat 1))) fun x2 =>
ck (Bool.not (eqI (Int.ofNat 2) 0)) (fI (wrapF .i64 (Int.tdiv x2 (Int.ofNat 2))) fun x3 =>
J.lp (α := AV × AV × AV × AV × AV × Unit) (fun r7 v4 d5 h6 =>
asI .i64 v4.2.2.2.2.1 fun x8 =>
fB (Bool.not (ltI x8 (Int.ofNat 0))) fun b9 =>
br b9 (
asI .i64 v4.2.2.2.2.1 fun x11 =>
asI .i64 v4.2.2.2.1 fun x12 =>
asI .i64 v4.2.1 fun x13 =>
c69 v4.1 x11 x12 x13 h6 fun  h10 =>
asI .i64 v4.2.2.2.2.1 fun x14 =>
fI (wrapF .i64 (Int.sub x14 (Int.ofNat 1))) fun x15 =>
r7 (v4.1, v4.2.1, v4.2.2.1, v4.2.2.2.1, (AV.int .i64 x15), ()) d5 h10) (
asI .i64 v4.2.2.2.1 fun x16 =>
fI (wrapF .i64 (Int.sub x16 (Int.ofNat 1))) fun x17 =>
J.lp (α := AV × AV × AV × AV × Unit) (fun r21 v18 d19 h20 =>
asI .i64 v18.2.2.2.1 fun x22 =>
fB (Bool.not (ltI x22 (Int.ofNat 0))) fun b23 =>
br b23 (
asI .i64 v18.2.1 fun x24 =>
asI .i64 v18.2.2.2.1 fun x25 =>
fI (wrapF .i64 (Int.add x24 x25)) fun x26 =>
asI .i64 v18.2.1 fun x27 =>
asI .i64 v18.2.2.2.1 fun x28 =>
fI (wrapF .i64 (Int.add x27 x28)) fun x29 =>
ixK 1 v18.1 (AV.int .i64 x29) fun p30 =>
ldS p30 h20 fun s31 =>
ixK 1 v18.1 v18.2.1 fun p32 =>
ldS p32 h20 fun s33 =>
ixK 1 v18.1 v18.2.1 fun p34 =>
stV p34 (AV.str s31) h20 fun h35 =>
ixK 1 v18.1 (AV.int .i64 x26) fun p36 =>
stV p36 (AV.str s33) h35 fun h37 =>
asI .i64 v18.2.2.1 fun x39 =>
asI .i64 v18.2.2.2.1 fun x40 =>
asI .i64 v18.2.1 fun x41 =>
c69 v18.1 x39 x40 x41 h37 fun  h38 =>
asI .i64 v18.2.2.2.1 fun x42 =>
fI (wrapF .i64 (Int.sub x42 (Int.ofNat 1))) fun x43 =>
r21 (v18.1, v18.2.1, v18.2.2.1, (AV.int .i64 x43), ()) d19 h38) (
leaveK (gam J [(69, w69 c69)]) d19 h20 fun h44 =>
k  h44)) (v4.1, v4.2.1, v4.2.2.1, (AV.int .i64 x17), ()) d5 h6)) (a0, (AV.int .i64 a1), (AV.int .i64 (Int.ofNat 0)), (AV.int .i64 x1), (AV.int .i64 x3), ()) [] h)
noncomputable def s59 : AV → Int → Int → H → (H → Prop) → Prop := s59G J0 s69
noncomputable def w59 (c : AV → Int → Int → H → (H → Prop) → Prop) : Fun := fun xs h k => arg xs fun a0 xs => arg xs fun a1 xs => arg xs fun a2 xs => noArg xs <| asI .i64 a1 fun a1 => asI .i64 a2 fun a2 => c a0 a1 a2 h fun  h => k (.tuple []) h
theorem s59_eq (J : Joins) (c69 : AV → Int → Int → Int → H → (H → Prop) → Prop) (a0 : AV) (a1 : Int) (a2 : Int) (h : H) (k : AV → H → Prop) : denF ty (gam J [(69, w69 c69)]) Try.f59 [a0, (.int .i64 a1), (.int .i64 a2)] h k = s59G J c69 a0 a1 a2 h (fun  h => k (.tuple []) h) := by kernel_rfl
noncomputable def g59 : Fun := w59 s59
theorem g59_ok : FunOk Try.prog 59 g59 := (fun_ok ty_ok mixed (gam_ok (J := J0) (tab_cons g69_ok (tab_nil fls_fun))) Try.func59 (fun args w => by simp)).imp fun xs h k e0 => by
  obtain ⟨a0, xs0, rfl, e1⟩ := arg_imp e0
  obtain ⟨a1, xs1, rfl, e2⟩ := arg_imp e1
  obtain ⟨a2, xs2, rfl, e3⟩ := arg_imp e2
  obtain ⟨rfl, e4⟩ := noArg_imp e3
  obtain ⟨a1, rfl, e5⟩ := asI_iff.1 e4
  obtain ⟨a2, rfl, e6⟩ := asI_iff.1 e5
  exact (s59_eq J0 s69 a0 a1 a2 h k).mpr e6
/-- math/bits.Len32 -/
noncomputable def s67G (J : Joins) (a0 : Int) (h : H) (k : Int → H → Prop) : Prop :=
J.jd (α := AV × AV × Unit) (fun v1 d2 h3 =>
J.jd (α := AV × AV × Unit) (fun v5 d6 h7 =>
asI .u32 v5.1 fun x9 =>
fI (wrapF .u8 x9) fun x10 =>
ixsK (AV.str ⟨256, 496986003408712215933005303621146343841837811690876167382323004466384420695090407243345123874780946046625255262057845613767806773758184921447759720770971536008171983842311960805720366577116933250839345203839274948261284255908394484732272583221484877694546905335834403051067785895034095251181560891789708940188598129052595634438001880866652824740680664595948164050600812232986714152902334120417949232733424961741260388658846598210939813666227264727603044226856020347194099943897342244906131705541414413428559898943151040826816076322978570758226444464494629814583418847495712557856038296917933182380796641777551368⟩) (AV.int .u8 x10) fun x11 =>
fI (wrapF .i64 x11) fun x12 =>
asI .i64 v5.2.1 fun x13 =>
fI (wrapF .i64 (Int.add x13 x12)) fun x14 =>
leaveK (gam J []) d6 h7 fun h15 =>
k x14 h15) fun j8 =>
asI .u32 v1.1 fun x16 =>
fB (Bool.not (ltI x16 (Int.ofNat 256))) fun b17 =>
br b17 (
asI .u32 v1.1 fun x18 =>
fI (shrF x18 (nmin 8 (IntKind.bits .u32))) fun x19 =>
asI .i64 v1.2.1 fun x20 =>
fI (wrapF .i64 (Int.add x20 (Int.ofNat 8))) fun x21 =>
j8 ((AV.int .u32 x19), (AV.int .i64 x21), ()) d2 h3) (
j8 (v1.1, v1.2.1, ()) d2 h3)) fun j4 =>
fB (Bool.not (ltI a0 (Int.ofNat 65536))) fun b22 =>
br b22 (
fI (shrF a0 (nmin 16 (IntKind.bits .u32))) fun x23 =>
j4 ((AV.int .u32 x23), (AV.int .i64 (Int.ofNat 16)), ()) [] h) (
j4 ((AV.int .u32 a0), (AV.int .i64 (Int.ofNat 0)), ()) [] h)
noncomputable def s67 : Int → H → (Int → H → Prop) → Prop := s67G J0 
noncomputable def w67 (c : Int → H → (Int → H → Prop) → Prop) : Fun := fun xs h k => arg xs fun a0 xs => noArg xs <| asI .u32 a0 fun a0 => c a0 h fun r0 h => k (.int .i64 r0) h
theorem s67_eq (J : Joins) (a0 : Int) (h : H) (k : AV → H → Prop) : denF ty (gam J []) Try.f67 [(.int .u32 a0)] h k = s67G J  a0 h (fun r0 h => k (.int .i64 r0) h) := by kernel_rfl
noncomputable def g67 : Fun := w67 s67
theorem g67_ok : FunOk Try.prog 67 g67 := (fun_ok ty_ok mixed (gam_ok (J := J0) (tab_nil fls_fun)) Try.func67 (fun args w => by simp)).imp fun xs h k e0 => by
  obtain ⟨a0, xs0, rfl, e1⟩ := arg_imp e0
  obtain ⟨rfl, e2⟩ := noArg_imp e1
  obtain ⟨a0, rfl, e3⟩ := asI_iff.1 e2
  exact (s67_eq J0  a0 h k).mpr e3
/-- math/bits.Len64 -/
noncomputable def s68G (J : Joins) (a0 : Int) (h : H) (k : Int → H → Prop) : Prop :=
J.jd (α := AV × AV × Unit) (fun v1 d2 h3 =>
J.jd (α := AV × AV × Unit) (fun v5 d6 h7 =>
J.jd (α := AV × AV × Unit) (fun v9 d10 h11 =>
asI .u64 v9.1 fun x13 =>
fI (wrapF .u8 x13) fun x14 =>
ixsK (AV.str ⟨256, 496986003408712215933005303621146343841837811690876167382323004466384420695090407243345123874780946046625255262057845613767806773758184921447759720770971536008171983842311960805720366577116933250839345203839274948261284255908394484732272583221484877694546905335834403051067785895034095251181560891789708940188598129052595634438001880866652824740680664595948164050600812232986714152902334120417949232733424961741260388658846598210939813666227264727603044226856020347194099943897342244906131705541414413428559898943151040826816076322978570758226444464494629814583418847495712557856038296917933182380796641777551368⟩) (AV.int .u8 x14) fun x15 =>
fI (wrapF .i64 x15) fun x16 =>
asI .i64 v9.2.1 fun x17 =>
fI (wrapF .i64 (Int.add x17 x16)) fun x18 =>
leaveK (gam J []) d10 h11 fun h19 =>
k x18 h19) fun j12 =>
asI .u64 v5.1 fun x20 =>
fB (Bool.not (ltI x20 (Int.ofNat 256))) fun b21 =>
br b21 (
asI .u64 v5.1 fun x22 =>
fI (shrF x22 (nmin 8 (IntKind.bits .u64))) fun x23 =>
asI .i64 v5.2.1 fun x24 =>
fI (wrapF .i64 (Int.add x24 (Int.ofNat 8))) fun x25 =>
j12 ((AV.int .u64 x23), (AV.int .i64 x25), ()) d6 h7) (
j12 (v5.1, v5.2.1, ()) d6 h7)) fun j8 =>
asI .u64 v1.1 fun x26 =>
fB (Bool.not (ltI x26 (Int.ofNat 65536))) fun b27 =>
br b27 (
asI .u64 v1.1 fun x28 =>
fI (shrF x28 (nmin 16 (IntKind.bits .u64))) fun x29 =>
asI .i64 v1.2.1 fun x30 =>
fI (wrapF .i64 (Int.add x30 (Int.ofNat 16))) fun x31 =>
j8 ((AV.int .u64 x29), (AV.int .i64 x31), ()) d2 h3) (
j8 (v1.1, v1.2.1, ()) d2 h3)) fun j4 =>
fB (Bool.not (ltI a0 (Int.ofNat 4294967296))) fun b32 =>
br b32 (
fI (shrF a0 (nmin 32 (IntKind.bits .u64))) fun x33 =>
j4 ((AV.int .u64 x33), (AV.int .i64 (Int.ofNat 32)), ()) [] h) (
j4 ((AV.int .u64 a0), (AV.int .i64 (Int.ofNat 0)), ()) [] h)
noncomputable def s68 : Int → H → (Int → H → Prop) → Prop := s68G J0 
noncomputable def w68 (c : Int → H → (Int → H → Prop) → Prop) : Fun := fun xs h k => arg xs fun a0 xs => noArg xs <| asI .u64 a0 fun a0 => c a0 h fun r0 h => k (.int .i64 r0) h
theorem s68_eq (J : Joins) (a0 : Int) (h : H) (k : AV → H → Prop) : denF ty (gam J []) Try.f68 [(.int .u64 a0)] h k = s68G J  a0 h (fun r0 h => k (.int .i64 r0) h) := by kernel_rfl
noncomputable def g68 : Fun := w68 s68
theorem g68_ok : FunOk Try.prog 68 g68 := (fun_ok ty_ok mixed (gam_ok (J := J0) (tab_nil fls_fun)) Try.func68 (fun args w => by simp)).imp fun xs h k e0 => by
  obtain ⟨a0, xs0, rfl, e1⟩ := arg_imp e0
  obtain ⟨rfl, e2⟩ := noArg_imp e1
  obtain ⟨a0, rfl, e3⟩ := asI_iff.1 e2
  exact (s68_eq J0  a0 h k).mpr e3
/-- math/bits.Len -/
noncomputable def s57G (J : Joins) (c67 : Int → H → (Int → H → Prop) → Prop) (c68 : Int → H → (Int → H → Prop) → Prop) (a0 : Int) (h : H) (k : Int → H → Prop) : Prop :=
br false (
fI (wrapF .u32 a0) fun x1 =>
c67 x1 h fun x3 h2 =>
k x3 h2) (
c68 a0 h fun x5 h4 =>
k x5 h4)
noncomputable def s57 : Int → H → (Int → H → Prop) → Prop := s57G J0 s67 s68
noncomputable def w57 (c : Int → H → (Int → H → Prop) → Prop) : Fun := fun xs h k => arg xs fun a0 xs => noArg xs <| asI .u64 a0 fun a0 => c a0 h fun r0 h => k (.int .i64 r0) h
theorem s57_eq (J : Joins) (c67 : Int → H → (Int → H → Prop) → Prop) (c68 : Int → H → (Int → H → Prop) → Prop) (a0 : Int) (h : H) (k : AV → H → Prop) : denF ty (gam J [(67, w67 c67), (68, w68 c68)]) Try.f57 [(.int .u64 a0)] h k = s57G J c67 c68 a0 h (fun r0 h => k (.int .i64 r0) h) := by kernel_rfl
noncomputable def g57 : Fun := w57 s57
theorem g57_ok : FunOk Try.prog 57 g57 := (fun_ok ty_ok mixed (gam_ok (J := J0) (tab_cons g67_ok (tab_cons g68_ok (tab_nil fls_fun)))) Try.func57 (fun args w => by simp)).imp fun xs h k e0 => by
  obtain ⟨a0, xs0, rfl, e1⟩ := arg_imp e0
  obtain ⟨rfl, e2⟩ := noArg_imp e1
  obtain ⟨a0, rfl, e3⟩ := asI_iff.1 e2
  exact (s57_eq J0 s67 s68 a0 h k).mpr e3
/-- slices.nextPowerOfTwo -/
noncomputable def s70G (J : Joins) (c57 : Int → H → (Int → H → Prop) → Prop) (a0 : Int) (h : H) (k : Int → H → Prop) : Prop :=
fI (wrapF .u64 a0) fun x1 =>
c57 x1 h fun x3 h2 =>
asNat (AV.int .i64 x3) fun n4 =>
fI (shlF .u64 (Int.ofNat 1) n4) fun x5 =>
k x5 h2
noncomputable def s70 : Int → H → (Int → H → Prop) → Prop := s70G J0 s57
noncomputable def w70 (c : Int → H → (Int → H → Prop) → Prop) : Fun := fun xs h k => arg xs fun a0 xs => noArg xs <| asI .i64 a0 fun a0 => c a0 h fun r0 h => k (.int .u64 r0) h
theorem s70_eq (J : Joins) (c57 : Int → H → (Int → H → Prop) → Prop) (a0 : Int) (h : H) (k : AV → H → Prop) : denF ty (gam J [(57, w57 c57)]) Try.f70 [(.int .i64 a0)] h k = s70G J c57 a0 h (fun r0 h => k (.int .u64 r0) h) := by kernel_rfl
noncomputable def g70 : Fun := w70 s70
theorem g70_ok : FunOk Try.prog 70 g70 := (fun_ok ty_ok mixed (gam_ok (J := J0) (tab_cons g57_ok (tab_nil fls_fun))) Try.func70 (fun args w => by simp)).imp fun xs h k e0 => by
  obtain ⟨a0, xs0, rfl, e1⟩ := arg_imp e0
  obtain ⟨rfl, e2⟩ := noArg_imp e1
  obtain ⟨a0, rfl, e3⟩ := asI_iff.1 e2
  exact (s70_eq J0 s57 a0 h k).mpr e3
/-- (*slices.xorshift).Next -/
noncomputable def s71G (J : Joins) (a0 : AV) (h : H) (k : Int → H → Prop) : Prop :=
okNil a0 (
ldI .u64 a0 h fun x1 =>
okNil a0 (
ldI .u64 a0 h fun x2 =>
fI (shlF .u64 x2 13) fun x3 =>
fI (lxorF .u64 x1 x3) fun x4 =>
okNil a0 (
stV a0 (AV.int .u64 x4) h fun h5 =>
okNil a0 (
ldI .u64 a0 h5 fun x6 =>
okNil a0 (
ldI .u64 a0 h5 fun x7 =>
fI (shrF x7 (nmin 7 (IntKind.bits .u64))) fun x8 =>
fI (lxorF .u64 x6 x8) fun x9 =>
okNil a0 (
stV a0 (AV.int .u64 x9) h5 fun h10 =>
okNil a0 (
ldI .u64 a0 h10 fun x11 =>
okNil a0 (
ldI .u64 a0 h10 fun x12 =>
fI (shlF .u64 x12 17) fun x13 =>
fI (lxorF .u64 x11 x13) fun x14 =>
okNil a0 (
stV a0 (AV.int .u64 x14) h10 fun h15 =>
okNil a0 (
ldI .u64 a0 h15 fun x16 =>
k x16 h15))))))))))
noncomputable def s71 : AV → H → (Int → H → Prop) → Prop := s71G J0 
noncomputable def w71 (c : AV → H → (Int → H → Prop) → Prop) : Fun := fun xs h k => arg xs fun a0 xs => noArg xs <| c a0 h fun r0 h => k (.int .u64 r0) h
theorem s71_eq (J : Joins) (a0 : AV) (h : H) (k : AV → H → Prop) : denF ty (gam J []) Try.f71 [a0] h k = s71G J  a0 h (fun r0 h => k (.int .u64 r0) h) := by kernel_rfl
noncomputable def g71 : Fun := w71 s71
theorem g71_ok : FunOk Try.prog 71 g71 := (fun_ok ty_ok mixed (gam_ok (J := J0) (tab_nil fls_fun)) Try.func71 (fun args w => by simp)).imp fun xs h k e0 => by
  obtain ⟨a0, xs0, rfl, e1⟩ := arg_imp e0
  obtain ⟨rfl, e2⟩ := noArg_imp e1
  exact (s71_eq J0  a0 h k).mpr e2
/-- slices.breakPatternsOrdered[string] -/
noncomputable def s60G (J : Joins) (c70 : Int → H → (Int → H → Prop) → Prop) (c71 : AV → H → (Int → H → Prop) → Prop) (a0 : AV) (a1 : Int) (a2 : Int) (h : H) (k : H → Prop) : Prop :=
fI (wrapF .i64 (Int.sub a2 a1)) fun x1 =>
fB (Bool.not (ltI x1 (Int.ofNat 8))) fun b2 =>
br b2 (
fI (wrapF .u64 x1) fun x3 =>
pushK (.cells false 106 [(.int .u64 0)]) h fun n4 h5 =>
stV (AV.ptr n4 0) (AV.int .u64 x3) h5 fun h6 =>
c70 x1 h6 fun x8 h7 =>
ck (Bool.not (eqI (Int.ofNat 4) 0)) (fI (wrapF .i64 (Int.tdiv x1 (Int.ofNat 4))) fun x9 =>
fI (wrapF .i64 (Int.mul x9 (Int.ofNat 2))) fun x10 =>
fI (wrapF .i64 (Int.add a1 x10)) fun x11 =>
fI (wrapF .i64 (Int.sub x11 (Int.ofNat 1))) fun x12 =>
J.lp (α := AV × AV × AV × AV × AV × AV × Unit) (fun r16 v13 d14 h15 =>
asI .i64 v13.2.2.1 fun x17 =>
ck (Bool.not (eqI (Int.ofNat 4) 0)) (fI (wrapF .i64 (Int.tdiv x17 (Int.ofNat 4))) fun x18 =>
fI (wrapF .i64 (Int.mul x18 (Int.ofNat 2))) fun x19 =>
asI .i64 v13.2.1 fun x20 =>
fI (wrapF .i64 (Int.add x20 x19)) fun x21 =>
fI (wrapF .i64 (Int.add x21 (Int.ofNat 1))) fun x22 =>
asI .i64 v13.2.2.2.2.2.1 fun x23 =>
fB (Bool.not (ltI x22 x23)) fun b24 =>
br b24 (
c71 v13.2.2.2.1 h15 fun x26 h25 =>
asI .u64 v13.2.2.2.2.1 fun x27 =>
fI (wrapF .u64 (Int.sub x27 (Int.ofNat 1))) fun x28 =>
fI (landF .u64 x26 x28) fun x29 =>
fI (wrapF .i64 x29) fun x30 =>
J.jd (α := AV × AV × AV × AV × AV × AV × AV × Unit) (fun v31 d32 h33 =>
asI .i64 v31.2.1 fun x35 =>
asI .i64 v31.2.2.2.2.2.2.1 fun x36 =>
fI (wrapF .i64 (Int.add x35 x36)) fun x37 =>
asI .i64 v31.2.1 fun x38 =>
asI .i64 v31.2.2.2.2.2.2.1 fun x39 =>
fI (wrapF .i64 (Int.add x38 x39)) fun x40 =>
ixK 1 v31.1 (AV.int .i64 x40) fun p41 =>
ldS p41 h33 fun s42 =>
ixK 1 v31.1 v31.2.2.2.2.2.1 fun p43 =>
ldS p43 h33 fun s44 =>
ixK 1 v31.1 v31.2.2.2.2.2.1 fun p45 =>
stV p45 (AV.str s42) h33 fun h46 =>
ixK 1 v31.1 (AV.int .i64 x37) fun p47 =>
stV p47 (AV.str s44) h46 fun h48 =>
asI .i64 v31.2.2.2.2.2.1 fun x49 =>
fI (wrapF .i64 (Int.add x49 (Int.ofNat 1))) fun x50 =>
r16 (v31.1, v31.2.1, v31.2.2.1, v31.2.2.2.1, v31.2.2.2.2.1, (AV.int .i64 x50), ()) d32 h48) fun j34 =>
asI .i64 v13.2.2.1 fun x51 =>
fB (Bool.not (ltI x30 x51)) fun b52 =>
br b52 (
asI .i64 v13.2.2.1 fun x53 =>
fI (wrapF .i64 (Int.sub x30 x53)) fun x54 =>
j34 (v13.1, v13.2.1, v13.2.2.1, v13.2.2.2.1, v13.2.2.2.2.1, v13.2.2.2.2.2.1, (AV.int .i64 x54), ()) d14 h25) (
j34 (v13.1, v13.2.1, v13.2.2.1, v13.2.2.2.1, v13.2.2.2.2.1, v13.2.2.2.2.2.1, (AV.int .i64 x30), ()) d14 h25)) (
leaveK (gam J [(70, w70 c70), (71, w71 c71)]) d14 h15 fun h55 =>
k  h55))) (a0, (AV.int .i64 a1), (AV.int .i64 x1), (AV.ptr n4 0), (AV.int .u64 x8), (AV.int .i64 x12), ()) [] h7)) (
k  h)
noncomputable def s60 : AV → Int → Int → H → (H → Prop) → Prop := s60G J0 s70 s71
noncomputable def w60 (c : AV → Int → Int → H → (H → Prop) → Prop) : Fun := fun xs h k => arg xs fun a0 xs => arg xs fun a1 xs => arg xs fun a2 xs => noArg xs <| asI .i64 a1 fun a1 => asI .i64 a2 fun a2 => c a0 a1 a2 h fun  h => k (.tuple []) h
theorem s60_eq (J : Joins) (c70 : Int → H → (Int → H → Prop) → Prop) (c71 : AV → H → (Int → H → Prop) → Prop) (a0 : AV) (a1 : Int) (a2 : Int) (h : H) (k : AV → H → Prop) : denF ty (gam J [(70, w70 c70), (71, w71 c71)]) Try.f60 [a0, (.int .i64 a1), (.int .i64 a2)] h k = s60G J c70 c71 a0 a1 a2 h (fun  h => k (.tuple []) h) := by kernel_rfl
noncomputable def g60 : Fun := w60 s60
theorem g60_ok : FunOk Try.prog 60 g60 := (fun_ok ty_ok mixed (gam_ok (J := J0) (tab_cons g70_ok (tab_cons g71_ok (tab_nil fls_fun)))) Try.func60 (fun args w => by simp)).imp fun xs h k e0 => by
  obtain ⟨a0, xs0, rfl, e1⟩ := arg_imp e0
  obtain ⟨a1, xs1, rfl, e2⟩ := arg_imp e1
  obtain ⟨a2, xs2, rfl, e3⟩ := arg_imp e2
  obtain ⟨rfl, e4⟩ := noArg_imp e3
  obtain ⟨a1, rfl, e5⟩ := asI_iff.1 e4
  obtain ⟨a2, rfl, e6⟩ := asI_iff.1 e5
  exact (s60_eq J0 s70 s71 a0 a1 a2 h k).mpr e6
/-- slices.order2Ordered[string] -/
noncomputable def s75G (J : Joins) (c64 : Str → Str → H → (Bool → H → Prop) → Prop) (a0 : AV) (a1 : Int) (a2 : Int) (a3 : AV) (h : H) (k : Int → Int → H → Prop) : Prop :=
ixK 1 a0 (AV.int .i64 a2) fun p1 =>
ldS p1 h fun s2 =>
ixK 1 a0 (AV.int .i64 a1) fun p3 =>
ldS p3 h fun s4 =>
c64 s2 s4 h fun b6 h5 =>
br b6 (
okNil a3 (
ldI .i64 a3 h5 fun x7 =>
fI (wrapF .i64 (Int.add x7 (Int.ofNat 1))) fun x8 =>
okNil a3 (
stV a3 (AV.int .i64 x8) h5 fun h9 =>
k a2 a1 h9))) (
k a1 a2 h5)
noncomputable def s75 : AV → Int → Int → AV → H → (Int → Int → H → Prop) → Prop := s75G J0 s64
noncomputable def w75 (c : AV → Int → Int → AV → H → (Int → Int → H → Prop) → Prop) : Fun := fun xs h k => arg xs fun a0 xs => arg xs fun a1 xs => arg xs fun a2 xs => arg xs fun a3 xs => noArg xs <| asI .i64 a1 fun a1 => asI .i64 a2 fun a2 => c a0 a1 a2 a3 h fun r0 r1 h => k (.tuple [(.int .i64 r0), (.int .i64 r1)]) h
theorem s75_eq (J : Joins) (c64 : Str → Str → H → (Bool → H → Prop) → Prop) (a0 : AV) (a1 : Int) (a2 : Int) (a3 : AV) (h : H) (k : AV → H → Prop) : denF ty (gam J [(64, w64 c64)]) Try.f75 [a0, (.int .i64 a1), (.int .i64 a2), a3] h k = s75G J c64 a0 a1 a2 a3 h (fun r0 r1 h => k (.tuple [(.int .i64 r0), (.int .i64 r1)]) h) := by kernel_rfl
noncomputable def g75 : Fun := w75 s75
theorem g75_ok : FunOk Try.prog 75 g75 := (fun_ok ty_ok mixed (gam_ok (J := J0) (tab_cons g64_ok (tab_nil fls_fun))) Try.func75 (fun args w => by simp)).imp fun xs h k e0 => by
  obtain ⟨a0, xs0, rfl, e1⟩ := arg_imp e0
  obtain ⟨a1, xs1, rfl, e2⟩ := arg_imp e1
  obtain ⟨a2, xs2, rfl, e3⟩ := arg_imp e2
  obtain ⟨a3, xs3, rfl, e4⟩ := arg_imp e3
  obtain ⟨rfl, e5⟩ := noArg_imp e4
  obtain ⟨a1, rfl, e6⟩ := asI_iff.1 e5
  obtain ⟨a2, rfl, e7⟩ := asI_iff.1 e6
  exact (s75_eq J0 s64 a0 a1 a2 a3 h k).mpr e7
/-- slices.medianOrdered[string] -/
noncomputable def s73G (J : Joins) (c75 : AV → Int → Int → AV → H → (Int → Int → H → Prop) → Prop) (a0 : AV) (a1 : Int) (a2 : Int) (a3 : Int) (a4 : AV) (h : H) (k : Int → H → Prop) : Prop :=
c75 a0 a1 a2 a4 h fun x2 x3 h1 =>
c75 a0 x3 a3 a4 h1 fun x5 x6 h4 =>
c75 a0 x2 x5 a4 h4 fun x8 x9 h7 =>
k x9 h7
noncomputable def s73 : AV → Int → Int → Int → AV → H → (Int → H → Prop) → Prop := s73G J0 s75
noncomputable def w73 (c : AV → Int → Int → Int → AV → H → (Int → H → Prop) → Prop) : Fun := fun xs h k => arg xs fun a0 xs => arg xs fun a1 xs => arg xs fun a2 xs => arg xs fun a3 xs => arg xs fun a4 xs => noArg xs <| asI .i64 a1 fun a1 => asI .i64 a2 fun a2 => asI .i64 a3 fun a3 => c a0 a1 a2 a3 a4 h fun r0 h => k (.int .i64 r0) h
theorem s73_eq (J : Joins) (c75 : AV → Int → Int → AV → H → (Int → Int → H → Prop) → Prop) (a0 : AV) (a1 : Int) (a2 : Int) (a3 : Int) (a4 : AV) (h : H) (k : AV → H → Prop) : denF ty (gam J [(75, w75 c75)]) Try.f73 [a0, (.int .i64 a1), (.int .i64 a2), (.int .i64 a3), a4] h k = s73G J c75 a0 a1 a2 a3 a4 h (fun r0 h => k (.int .i64 r0) h) := by kernel_rfl
noncomputable def g73 : Fun := w73 s73
theorem g73_ok : FunOk Try.prog 73 g73 := (fun_ok ty_ok mixed (gam_ok (J := J0) (tab_cons g75_ok (tab_nil fls_fun))) Try.func73 (fun args w => by simp)).imp fun xs h k e0 => by
  obtain ⟨a0, xs0, rfl, e1⟩ := arg_imp e0
  obtain ⟨a1, xs1, rfl, e2⟩ := arg_imp e1
  obtain ⟨a2, xs2, rfl, e3⟩ := arg_imp e2
  obtain ⟨a3, xs3, rfl, e4⟩ := arg_imp e3
  obtain ⟨a4, xs4, rfl, e5⟩ := arg_imp e4
  obtain ⟨rfl, e6⟩ := noArg_imp e5
  obtain ⟨a1, rfl, e7⟩ := asI_iff.1 e6
  obtain ⟨a2, rfl, e8⟩ := asI_iff.1 e7
  obtain ⟨a3, rfl, e9⟩ := asI_iff.1 e8
  exact (s73_eq J0 s75 a0 a1 a2 a3 a4 h k).mpr e9
/-- slices.medianAdjacentOrdered[string] -/
noncomputable def s72G (J : Joins) (c73 : AV → Int → Int → Int → AV → H → (Int → H → Prop) → Prop) (a0 : AV) (a1 : Int) (a2 : AV) (h : H) (k : Int → H → Prop) : Prop :=
fI (wrapF .i64 (Int.sub a1 (Int.ofNat 1))) fun x1 =>
fI (wrapF .i64 (Int.add a1 (Int.ofNat 1))) fun x2 =>
c73 a0 x1 a1 x2 a2 h fun x4 h3 =>
k x4 h3
noncomputable def s72 : AV → Int → AV → H → (Int → H → Prop) → Prop := s72G J0 s73
noncomputable def w72 (c : AV → Int → AV → H → (Int → H → Prop) → Prop) : Fun := fun xs h k => arg xs fun a0 xs => arg xs fun a1 xs => arg xs fun a2 xs => noArg xs <| asI .i64 a1 fun a1 => c a0 a1 a2 h fun r0 h => k (.int .i64 r0) h
theorem s72_eq (J : Joins) (c73 : AV → Int → Int → Int → AV → H → (Int → H → Prop) → Prop) (a0 : AV) (a1 : Int) (a2 : AV) (h : H) (k : AV → H → Prop) : denF ty (gam J [(73, w73 c73)]) Try.f72 [a0, (.int .i64 a1), a2] h k = s72G J c73 a0 a1 a2 h (fun r0 h => k (.int .i64 r0) h) := by kernel_rfl
noncomputable def g72 : Fun := w72 s72
theorem g72_ok : FunOk Try.prog 72 g72 := (fun_ok ty_ok mixed (gam_ok (J := J0) (tab_cons g73_ok (tab_nil fls_fun))) Try.func72 (fun args w => by simp)).imp fun xs h k e0 => by
  obtain ⟨a0, xs0, rfl, e1⟩ := arg_imp e0
  obtain ⟨a1, xs1, rfl, e2⟩ := arg_imp e1
  obtain ⟨a2, xs2, rfl, e3⟩ := arg_imp e2
  obtain ⟨rfl, e4⟩ := noArg_imp e3
  obtain ⟨a1, rfl, e5⟩ := asI_iff.1 e4
  exact (s72_eq J0 s73 a0 a1 a2 h k).mpr e5
/-- slices.choosePivotOrdered[string] -/
noncomputable def s61G (J : Joins) (c72 : AV → Int → AV → H → (Int → H → Prop) → Prop) (c73 : AV → Int → Int → Int → AV → H → (Int → H → Prop) → Prop) (a0 : AV) (a1 : Int) (a2 : Int) (h : H) (k : Int → Int → H → Prop) : Prop :=
fI (wrapF .i64 (Int.sub a2 a1)) fun x1 =>
pushK (.cells false 3 [(.int .i64 0)]) h fun n2 h3 =>
ck (Bool.not (eqI (Int.ofNat 4) 0)) (fI (wrapF .i64 (Int.tdiv x1 (Int.ofNat 4))) fun x4 =>
fI (wrapF .i64 (Int.mul x4 (Int.ofNat 1))) fun x5 =>
fI (wrapF .i64 (Int.add a1 x5)) fun x6 =>
ck (Bool.not (eqI (Int.ofNat 4) 0)) (fI (wrapF .i64 (Int.tdiv x1 (Int.ofNat 4))) fun x7 =>
fI (wrapF .i64 (Int.mul x7 (Int.ofNat 2))) fun x8 =>
fI (wrapF .i64 (Int.add a1 x8)) fun x9 =>
ck (Bool.not (eqI (Int.ofNat 4) 0)) (fI (wrapF .i64 (Int.tdiv x1 (Int.ofNat 4))) fun x10 =>
fI (wrapF .i64 (Int.mul x10 (Int.ofNat 3))) fun x11 =>
fI (wrapF .i64 (Int.add a1 x11)) fun x12 =>
J.jd (α := AV × AV × Unit) (fun v13 d14 h15 =>
ldI .i64 v13.1 h15 fun x17 =>
fB (eqI x17 (Int.ofNat 0)) fun b18 =>
br b18 (
leaveK (gam J [(72, w72 c72), (73, w73 c73)]) d14 h15 fun h19 =>
asI .i64 v13.2.1 fun x20 =>
k x20 (Int.ofNat 1) h19) (
fB (eqI x17 (Int.ofNat 12)) fun b21 =>
br b21 (
leaveK (gam J [(72, w72 c72), (73, w73 c73)]) d14 h15 fun h22 =>
asI .i64 v13.2.1 fun x23 =>
k x23 (Int.ofNat 2) h22) (
leaveK (gam J [(72, w72 c72), (73, w73 c73)]) d14 h15 fun h24 =>
asI .i64 v13.2.1 fun x25 =>
k x25 (Int.ofNat 0) h24))) fun j16 =>
fB (Bool.not (ltI x1 (Int.ofNat 8))) fun b26 =>
br b26 (
J.jd (α := AV × AV × AV × AV × AV × Unit) (fun v27 d28 h29 =>
asI .i64 v27.2.2.1 fun x32 =>
asI .i64 v27.2.2.2.1 fun x33 =>
asI .i64 v27.2.2.2.2.1 fun x34 =>
c73 v27.1 x32 x33 x34 v27.2.1 h29 fun x35 h31 =>
j16 (v27.2.1, (AV.int .i64 x35), ()) d28 h31) fun j30 =>
fB (Bool.not (ltI x1 (Int.ofNat 50))) fun b36 =>
br b36 (
c72 a0 x6 (AV.ptr n2 0) h3 fun x38 h37 =>
c72 a0 x9 (AV.ptr n2 0) h37 fun x40 h39 =>
c72 a0 x12 (AV.ptr n2 0) h39 fun x42 h41 =>
j30 (a0, (AV.ptr n2 0), (AV.int .i64 x38), (AV.int .i64 x40), (AV.int .i64 x42), ()) [] h41) (
j30 (a0, (AV.ptr n2 0), (AV.int .i64 x6), (AV.int .i64 x9), (AV.int .i64 x12), ()) [] h3)) (
j16 ((AV.ptr n2 0), (AV.int .i64 x9), ()) [] h3))))
noncomputable def s61 : AV → Int → Int → H → (Int → Int → H → Prop) → Prop := s61G J0 s72 s73
noncomputable def w61 (c : AV → Int → Int → H → (Int → Int → H → Prop) → Prop) : Fun := fun xs h k => arg xs fun a0 xs => arg xs fun a1 xs => arg xs fun a2 xs => noArg xs <| asI .i64 a1 fun a1 => asI .i64 a2 fun a2 => c a0 a1 a2 h fun r0 r1 h => k (.tuple [(.int .i64 r0), (.int .i64 r1)]) h
theorem s61_eq (J : Joins) (c72 : AV → Int → AV → H → (Int → H → Prop) → Prop) (c73 : AV → Int → Int → Int → AV → H → (Int → H → Prop) → Prop) (a0 : AV) (a1 : Int) (a2 : Int) (h : H) (k : AV → H → Prop) : denF ty (gam J [(72, w72 c72), (73, w73 c73)]) Try.f61 [a0, (.int .i64 a1), (.int .i64 a2)] h k = s61G J c72 c73 a0 a1 a2 h (fun r0 r1 h => k (.tuple [(.int .i64 r0), (.int .i64 r1)]) h) := by kernel_rfl
noncomputable def g61 : Fun := w61 s61
theorem g61_ok : FunOk Try.prog 61 g61 := (fun_ok ty_ok mixed (gam_ok (J := J0) (tab_cons g72_ok (tab_cons g73_ok (tab_nil fls_fun)))) Try.func61 (fun args w => by simp)).imp fun xs h k e0 => by
  obtain ⟨a0, xs0, rfl, e1⟩ := arg_imp e0
  obtain ⟨a1, xs1, rfl, e2⟩ := arg_imp e1
  obtain ⟨a2, xs2, rfl, e3⟩ := arg_imp e2
  obtain ⟨rfl, e4⟩ := noArg_imp e3
  obtain ⟨a1, rfl, e5⟩ := asI_iff.1 e4
  obtain ⟨a2, rfl, e6⟩ := asI_iff.1 e5
  exact (s61_eq J0 s72 s73 a0 a1 a2 h k).mpr e6
/-- slices.reverseRangeOrdered[string] -/
noncomputable def s62G (J : Joins) (a0 : AV) (a1 : Int) (a2 : Int) (h : H) (k : H → Prop) : Prop :=
fI (wrapF .i64 (Int.sub a2 (Int.ofNat 1))) fun x1 =>
J.lp (α := AV × AV × AV × Unit) (fun r5 v2 d3 h4 =>
asI .i64 v2.2.1 fun x6 =>
asI .i64 v2.2.2.1 fun x7 =>
fB (ltI x6 x7) fun b8 =>
br b8 (
ixK 1 v2.1 v2.2.2.1 fun p9 =>
ldS p9 h4 fun s10 =>
ixK 1 v2.1 v2.2.1 fun p11 =>
ldS p11 h4 fun s12 =>
ixK 1 v2.1 v2.2.1 fun p13 =>
stV p13 (AV.str s10) h4 fun h14 =>
ixK 1 v2.1 v2.2.2.1 fun p15 =>
stV p15 (AV.str s12) h14 fun h16 =>
asI .i64 v2.2.1 fun x17 =>
fI (wrapF .i64 (Int.add x17 (Int.ofNat 1))) fun x18 =>
asI .i64 v2.2.2.1 fun x19 =>
fI (wrapF .i64 (Int.sub x19 (Int.ofNat 1))) fun x20 =>
r5 (v2.1, (AV.int .i64 x18), (AV.int .i64 x20), ()) d3 h16) (
leaveK (gam J []) d3 h4 fun h21 =>
k  h21)) (a0, (AV.int .i64 a1), (AV.int .i64 x1), ()) [] h
noncomputable def s62 : AV → Int → Int → H → (H → Prop) → Prop := s62G J0 
noncomputable def w62 (c : AV → Int → Int → H → (H → Prop) → Prop) : Fun := fun xs h k => arg xs fun a0 xs => arg xs fun a1 xs => arg xs fun a2 xs => noArg xs <| asI .i64 a1 fun a1 => asI .i64 a2 fun a2 => c a0 a1 a2 h fun  h => k (.tuple []) h
theorem s62_eq (J : Joins) (a0 : AV) (a1 : Int) (a2 : Int) (h : H) (k : AV → H → Prop) : denF ty (gam J []) Try.f62 [a0, (.int .i64 a1), (.int .i64 a2)] h k = s62G J  a0 a1 a2 h (fun  h => k (.tuple []) h) := by kernel_rfl
noncomputable def g62 : Fun := w62 s62
theorem g62_ok : FunOk Try.prog 62 g62 := (fun_ok ty_ok mixed (gam_ok (J := J0) (tab_nil fls_fun)) Try.func62 (fun args w => by simp)).imp fun xs h k e0 => by
  obtain ⟨a0, xs0, rfl, e1⟩ := arg_imp e0
  obtain ⟨a1, xs1, rfl, e2⟩ := arg_imp e1
  obtain ⟨a2, xs2, rfl, e3⟩ := arg_imp e2
  obtain ⟨rfl, e4⟩ := noArg_imp e3
  obtain ⟨a1, rfl, e5⟩ := asI_iff.1 e4
  obtain ⟨a2, rfl, e6⟩ := asI_iff.1 e5
  exact (s62_eq J0  a0 a1 a2 h k).mpr e6
/-- slices.partialInsertionSortOrdered[string] -/
noncomputable def s63G (J : Joins) (c64 : Str → Str → H → (Bool → H → Prop) → Prop) (a0 : AV) (a1 : Int) (a2 : Int) (h : H) (k : Bool → H → Prop) : Prop :=
fI (wrapF .i64 (Int.add a1 (Int.ofNat 1))) fun x1 =>
J.lp (α := AV × AV × AV × AV × AV × Unit) (fun r5 v2 d3 h4 =>
asI .i64 v2.2.2.2.2.1 fun x6 =>
fB (ltI x6 (Int.ofNat 5)) fun b7 =>
br b7 (
J.jd (α := AV × AV × AV × AV × AV × Unit) (fun v8 d9 h10 =>
asI .i64 v8.2.2.2.2.1 fun x12 =>
fI (wrapF .i64 (Int.add x12 (Int.ofNat 1))) fun x13 =>
r5 (v8.1, v8.2.1, v8.2.2.1, v8.2.2.2.1, (AV.int .i64 x13), ()) d9 h10) fun j11 =>
J.lp (α := AV × AV × AV × AV × AV × Unit) (fun r17 v14 d15 h16 =>
asI .i64 v14.2.2.2.1 fun x18 =>
asI .i64 v14.2.2.1 fun x19 =>
fB (ltI x18 x19) fun b20 =>
J.jn (fun v21 h22 =>
J.jn (fun v24 h25 =>
J.jn (fun v27 h28 =>
J.jb (fun b31 v32 =>
J.jn (fun v35 h36 =>
J.jn (fun v38 h39 =>
J.jn (fun v41 h42 =>
J.jn (fun v46 h47 =>
J.jb (fun b50 v51 =>
J.jn (fun v54 h55 =>
J.jn (fun v61 h62 =>
pickB (AV.bool b20) v61 (AV.bool false) fun b66 =>
br b66 (
asI .i64 v14.2.2.2.1 fun x67 =>
fI (wrapF .i64 (Int.add x67 (Int.ofNat 1))) fun x68 =>
r17 (v14.1, v14.2.1, v14.2.2.1, (AV.int .i64 x68), v14.2.2.2.2.1, ()) d15 h62) (
asI .i64 v14.2.2.2.1 fun x69 =>
asI .i64 v14.2.2.1 fun x70 =>
fB (eqI x69 x70) fun b71 =>
br b71 (
leaveK (gam J [(64, w64 c64)]) d15 h62 fun h72 =>
k true h72) (
asI .i64 v14.2.2.1 fun x73 =>
asI .i64 v14.2.1 fun x74 =>
fI (wrapF .i64 (Int.sub x73 x74)) fun x75 =>
fB (ltI x75 (Int.ofNat 50)) fun b76 =>
br b76 (
leaveK (gam J [(64, w64 c64)]) d15 h62 fun h77 =>
k false h77) (
asI .i64 v14.2.2.2.1 fun x78 =>
fI (wrapF .i64 (Int.sub x78 (Int.ofNat 1))) fun x79 =>
asI .i64 v14.2.2.2.1 fun x80 =>
fI (wrapF .i64 (Int.sub x80 (Int.ofNat 1))) fun x81 =>
ixK 1 v14.1 (AV.int .i64 x81) fun p82 =>
ldS p82 h62 fun s83 =>
ixK 1 v14.1 v14.2.2.2.1 fun p84 =>
ldS p84 h62 fun s85 =>
ixK 1 v14.1 v14.2.2.2.1 fun p86 =>
stV p86 (AV.str s83) h62 fun h87 =>
ixK 1 v14.1 (AV.int .i64 x79) fun p88 =>
stV p88 (AV.str s85) h87 fun h89 =>
J.jd (α := AV × AV × AV × AV × AV × Unit) (fun v90 d91 h92 =>
asI .i64 v90.2.2.1 fun x94 =>
asI .i64 v90.2.2.2.1 fun x95 =>
fI (wrapF .i64 (Int.sub x94 x95)) fun x96 =>
fB (Bool.not (ltI x96 (Int.ofNat 2))) fun b97 =>
br b97 (
asI .i64 v90.2.2.2.1 fun x98 =>
fI (wrapF .i64 (Int.add x98 (Int.ofNat 1))) fun x99 =>
J.lp (α := AV × AV × AV × AV × AV × AV × Unit) (fun r103 v100 d101 h102 =>
asI .i64 v100.2.2.2.2.2.1 fun x104 =>
asI .i64 v100.2.2.1 fun x105 =>
fB (ltI x104 x105) fun b106 =>
br b106 (
ixK 1 v100.1 v100.2.2.2.2.2.1 fun p107 =>
ldS p107 h102 fun s108 =>
asI .i64 v100.2.2.2.2.2.1 fun x109 =>
fI (wrapF .i64 (Int.sub x109 (Int.ofNat 1))) fun x110 =>
ixK 1 v100.1 (AV.int .i64 x110) fun p111 =>
ldS p111 h102 fun s112 =>
c64 s108 s112 h102 fun b114 h113 =>
fB (Bool.not b114) fun b115 =>
br b115 (
j11 (v100.1, v100.2.1, v100.2.2.1, v100.2.2.2.1, v100.2.2.2.2.1, ()) d101 h113) (
asI .i64 v100.2.2.2.2.2.1 fun x116 =>
fI (wrapF .i64 (Int.sub x116 (Int.ofNat 1))) fun x117 =>
asI .i64 v100.2.2.2.2.2.1 fun x118 =>
fI (wrapF .i64 (Int.sub x118 (Int.ofNat 1))) fun x119 =>
ixK 1 v100.1 (AV.int .i64 x119) fun p120 =>
ldS p120 h113 fun s121 =>
ixK 1 v100.1 v100.2.2.2.2.2.1 fun p122 =>
ldS p122 h113 fun s123 =>
ixK 1 v100.1 v100.2.2.2.2.2.1 fun p124 =>
stV p124 (AV.str s121) h113 fun h125 =>
ixK 1 v100.1 (AV.int .i64 x117) fun p126 =>
stV p126 (AV.str s123) h125 fun h127 =>
asI .i64 v100.2.2.2.2.2.1 fun x128 =>
fI (wrapF .i64 (Int.add x128 (Int.ofNat 1))) fun x129 =>
r103 (v100.1, v100.2.1, v100.2.2.1, v100.2.2.2.1, v100.2.2.2.2.1, (AV.int .i64 x129), ()) d101 h127)) (
j11 (v100.1, v100.2.1, v100.2.2.1, v100.2.2.2.1, v100.2.2.2.2.1, ()) d101 h102)) (v90.1, v90.2.1, v90.2.2.1, v90.2.2.2.1, v90.2.2.2.2.1, (AV.int .i64 x99), ()) d91 h92) (
j11 (v90.1, v90.2.1, v90.2.2.1, v90.2.2.2.1, v90.2.2.2.2.1, ()) d91 h92)) fun j93 =>
asI .i64 v14.2.2.2.1 fun x130 =>
asI .i64 v14.2.1 fun x131 =>
fI (wrapF .i64 (Int.sub x130 x131)) fun x132 =>
fB (Bool.not (ltI x132 (Int.ofNat 2))) fun b133 =>
br b133 (
asI .i64 v14.2.2.2.1 fun x134 =>
fI (wrapF .i64 (Int.sub x134 (Int.ofNat 1))) fun x135 =>
J.lp (α := AV × AV × AV × AV × AV × AV × Unit) (fun r139 v136 d137 h138 =>
asI .i64 v136.2.2.2.2.2.1 fun x140 =>
fB (Bool.not (ltI x140 (Int.ofNat 1))) fun b141 =>
br b141 (
ixK 1 v136.1 v136.2.2.2.2.2.1 fun p142 =>
ldS p142 h138 fun s143 =>
asI .i64 v136.2.2.2.2.2.1 fun x144 =>
fI (wrapF .i64 (Int.sub x144 (Int.ofNat 1))) fun x145 =>
ixK 1 v136.1 (AV.int .i64 x145) fun p146 =>
ldS p146 h138 fun s147 =>
c64 s143 s147 h138 fun b149 h148 =>
fB (Bool.not b149) fun b150 =>
br b150 (
j93 (v136.1, v136.2.1, v136.2.2.1, v136.2.2.2.1, v136.2.2.2.2.1, ()) d137 h148) (
asI .i64 v136.2.2.2.2.2.1 fun x151 =>
fI (wrapF .i64 (Int.sub x151 (Int.ofNat 1))) fun x152 =>
asI .i64 v136.2.2.2.2.2.1 fun x153 =>
fI (wrapF .i64 (Int.sub x153 (Int.ofNat 1))) fun x154 =>
ixK 1 v136.1 (AV.int .i64 x154) fun p155 =>
ldS p155 h148 fun s156 =>
ixK 1 v136.1 v136.2.2.2.2.2.1 fun p157 =>
ldS p157 h148 fun s158 =>
ixK 1 v136.1 v136.2.2.2.2.2.1 fun p159 =>
stV p159 (AV.str s156) h148 fun h160 =>
ixK 1 v136.1 (AV.int .i64 x152) fun p161 =>
stV p161 (AV.str s158) h160 fun h162 =>
asI .i64 v136.2.2.2.2.2.1 fun x163 =>
fI (wrapF .i64 (Int.sub x163 (Int.ofNat 1))) fun x164 =>
r139 (v136.1, v136.2.1, v136.2.2.1, v136.2.2.2.1, v136.2.2.2.2.1, (AV.int .i64 x164), ()) d137 h162)) (
j93 (v136.1, v136.2.1, v136.2.2.1, v136.2.2.2.1, v136.2.2.2.2.1, ()) d137 h138)) (v14.1, v14.2.1, v14.2.2.1, v14.2.2.2.1, v14.2.2.2.2.1, (AV.int .i64 x135), ()) d15 h89) (
j93 (v14.1, v14.2.1, v14.2.2.1, v14.2.2.2.1, v14.2.2.2.2.1, ()) d15 h89))))) fun j63 =>
br b20 (
asB v54 fun b64 =>
fB (Bool.not b64) fun b65 =>
j63 (AV.bool b65) h55) (
j63 skipV h55)) fun j56 =>
br b20 (
asS v32 fun s58 =>
asS v51 fun s59 =>
c64 s58 s59 h47 fun b60 h57 =>
j56 (AV.bool b60) h57) (
j56 skipV h47)) fun j52 =>
br b20 (
ldS v46 h47 fun s53 =>
j52 true (AV.str s53)) (
j52 false skipV)) fun j48 =>
br b20 (
ixK 1 v35 v41 fun p49 =>
j48 p49 h42) (
j48 skipV h42)) fun j43 =>
br b20 (
asI .i64 v38 fun x44 =>
fI (wrapF .i64 (Int.sub x44 (Int.ofNat 1))) fun x45 =>
j43 (AV.int .i64 x45) h39) (
j43 skipV h39)) fun j40 =>
br b20 (
j40 v14.2.2.2.1 h36) (
j40 skipV h36)) fun j37 =>
br b20 (
j37 v14.1 h28) (
j37 skipV h28)) fun j33 =>
br b20 (
ldS v27 h28 fun s34 =>
j33 true (AV.str s34)) (
j33 false skipV)) fun j29 =>
br b20 (
ixK 1 v21 v24 fun p30 =>
j29 p30 h25) (
j29 skipV h25)) fun j26 =>
br b20 (
j26 v14.2.2.2.1 h22) (
j26 skipV h22)) fun j23 =>
br b20 (
j23 v14.1 h16) (
j23 skipV h16)) (v2.1, v2.2.1, v2.2.2.1, v2.2.2.2.1, v2.2.2.2.2.1, ()) d3 h4) (
leaveK (gam J [(64, w64 c64)]) d3 h4 fun h165 =>
k false h165)) (a0, (AV.int .i64 a1), (AV.int .i64 a2), (AV.int .i64 x1), (AV.int .i64 (Int.ofNat 0)), ()) [] h
noncomputable def s63 : AV → Int → Int → H → (Bool → H → Prop) → Prop := s63G J0 s64
noncomputable def w63 (c : AV → Int → Int → H → (Bool → H → Prop) → Prop) : Fun := fun xs h k => arg xs fun a0 xs => arg xs fun a1 xs => arg xs fun a2 xs => noArg xs <| asI .i64 a1 fun a1 => asI .i64 a2 fun a2 => c a0 a1 a2 h fun r0 h => k (.bool r0) h
theorem s63_eq (J : Joins) (c64 : Str → Str → H → (Bool → H → Prop) → Prop) (a0 : AV) (a1 : Int) (a2 : Int) (h : H) (k : AV → H → Prop) : denF ty (gam J [(64, w64 c64)]) Try.f63 [a0, (.int .i64 a1), (.int .i64 a2)] h k = s63G J c64 a0 a1 a2 h (fun r0 h => k (.bool r0) h) := by kernel_rfl
noncomputable def g63 : Fun := w63 s63
theorem g63_ok : FunOk Try.prog 63 g63 := (fun_ok ty_ok mixed (gam_ok (J := J0) (tab_cons g64_ok (tab_nil fls_fun))) Try.func63 (fun args w => by simp)).imp fun xs h k e0 => by
  obtain ⟨a0, xs0, rfl, e1⟩ := arg_imp e0
  obtain ⟨a1, xs1, rfl, e2⟩ := arg_imp e1
  obtain ⟨a2, xs2, rfl, e3⟩ := arg_imp e2
  obtain ⟨rfl, e4⟩ := noArg_imp e3
  obtain ⟨a1, rfl, e5⟩ := asI_iff.1 e4
  obtain ⟨a2, rfl, e6⟩ := asI_iff.1 e5
  exact (s63_eq J0 s64 a0 a1 a2 h k).mpr e6
/-- slices.partitionEqualOrdered[string] -/
noncomputable def s65G (J : Joins) (c64 : Str → Str → H → (Bool → H → Prop) → Prop) (a0 : AV) (a1 : Int) (a2 : Int) (a3 : Int) (h : H) (k : Int → H → Prop) : Prop :=
ixK 1 a0 (AV.int .i64 a3) fun p1 =>
ldS p1 h fun s2 =>
ixK 1 a0 (AV.int .i64 a1) fun p3 =>
ldS p3 h fun s4 =>
ixK 1 a0 (AV.int .i64 a1) fun p5 =>
stV p5 (AV.str s2) h fun h6 =>
ixK 1 a0 (AV.int .i64 a3) fun p7 =>
stV p7 (AV.str s4) h6 fun h8 =>
fI (wrapF .i64 (Int.add a1 (Int.ofNat 1))) fun x9 =>
fI (wrapF .i64 (Int.sub a2 (Int.ofNat 1))) fun x10 =>
J.lp (α := AV × AV × AV × AV × Unit) (fun r14 v11 d12 h13 =>
J.lp (α := AV × AV × AV × AV × Unit) (fun r18 v15 d16 h17 =>
asI .i64 v15.2.2.1 fun x19 =>
asI .i64 v15.2.2.2.1 fun x20 =>
fB (Bool.not (ltI x20 x19)) fun b21 =>
J.jn (fun v22 h23 =>
J.jn (fun v25 h26 =>
J.jn (fun v28 h29 =>
J.jb (fun b32 v33 =>
J.jn (fun v36 h37 =>
J.jn (fun v39 h40 =>
J.jn (fun v42 h43 =>
J.jb (fun b46 v47 =>
J.jn (fun v50 h51 =>
J.jn (fun v57 h58 =>
pickB (AV.bool b21) v57 (AV.bool false) fun b62 =>
br b62 (
asI .i64 v15.2.2.1 fun x63 =>
fI (wrapF .i64 (Int.add x63 (Int.ofNat 1))) fun x64 =>
r18 (v15.1, v15.2.1, (AV.int .i64 x64), v15.2.2.2.1, ()) d16 h58) (
J.lp (α := AV × AV × AV × AV × Unit) (fun r68 v65 d66 h67 =>
asI .i64 v65.2.2.1 fun x69 =>
asI .i64 v65.2.2.2.1 fun x70 =>
fB (Bool.not (ltI x70 x69)) fun b71 =>
J.jn (fun v72 h73 =>
J.jn (fun v75 h76 =>
J.jn (fun v78 h79 =>
J.jb (fun b82 v83 =>
J.jn (fun v86 h87 =>
J.jn (fun v89 h90 =>
J.jn (fun v92 h93 =>
J.jb (fun b96 v97 =>
J.jn (fun v100 h101 =>
pickB (AV.bool b71) v100 (AV.bool false) fun b107 =>
br b107 (
asI .i64 v65.2.2.2.1 fun x108 =>
fI (wrapF .i64 (Int.sub x108 (Int.ofNat 1))) fun x109 =>
r68 (v65.1, v65.2.1, v65.2.2.1, (AV.int .i64 x109), ()) d66 h101) (
asI .i64 v65.2.2.1 fun x110 =>
asI .i64 v65.2.2.2.1 fun x111 =>
fB (ltI x111 x110) fun b112 =>
br b112 (
leaveK (gam J [(64, w64 c64)]) d66 h101 fun h113 =>
asI .i64 v65.2.2.1 fun x114 =>
k x114 h113) (
ixK 1 v65.1 v65.2.2.2.1 fun p115 =>
ldS p115 h101 fun s116 =>
ixK 1 v65.1 v65.2.2.1 fun p117 =>
ldS p117 h101 fun s118 =>
ixK 1 v65.1 v65.2.2.1 fun p119 =>
stV p119 (AV.str s116) h101 fun h120 =>
ixK 1 v65.1 v65.2.2.2.1 fun p121 =>
stV p121 (AV.str s118) h120 fun h122 =>
asI .i64 v65.2.2.1 fun x123 =>
fI (wrapF .i64 (Int.add x123 (Int.ofNat 1))) fun x124 =>
asI .i64 v65.2.2.2.1 fun x125 =>
fI (wrapF .i64 (Int.sub x125 (Int.ofNat 1))) fun x126 =>
r14 (v65.1, v65.2.1, (AV.int .i64 x124), (AV.int .i64 x126), ()) d66 h122))) fun j102 =>
br b71 (
asS v83 fun s104 =>
asS v97 fun s105 =>
c64 s104 s105 h93 fun b106 h103 =>
j102 (AV.bool b106) h103) (
j102 skipV h93)) fun j98 =>
br b71 (
ldS v92 h93 fun s99 =>
j98 true (AV.str s99)) (
j98 false skipV)) fun j94 =>
br b71 (
ixK 1 v86 v89 fun p95 =>
j94 p95 h90) (
j94 skipV h90)) fun j91 =>
br b71 (
j91 v65.2.2.2.1 h87) (
j91 skipV h87)) fun j88 =>
br b71 (
j88 v65.1 h79) (
j88 skipV h79)) fun j84 =>
br b71 (
ldS v78 h79 fun s85 =>
j84 true (AV.str s85)) (
j84 false skipV)) fun j80 =>
br b71 (
ixK 1 v72 v75 fun p81 =>
j80 p81 h76) (
j80 skipV h76)) fun j77 =>
br b71 (
j77 v65.2.1 h73) (
j77 skipV h73)) fun j74 =>
br b71 (
j74 v65.1 h67) (
j74 skipV h67)) (v15.1, v15.2.1, v15.2.2.1, v15.2.2.2.1, ()) d16 h58)) fun j59 =>
br b21 (
asB v50 fun b60 =>
fB (Bool.not b60) fun b61 =>
j59 (AV.bool b61) h51) (
j59 skipV h51)) fun j52 =>
br b21 (
asS v33 fun s54 =>
asS v47 fun s55 =>
c64 s54 s55 h43 fun b56 h53 =>
j52 (AV.bool b56) h53) (
j52 skipV h43)) fun j48 =>
br b21 (
ldS v42 h43 fun s49 =>
j48 true (AV.str s49)) (
j48 false skipV)) fun j44 =>
br b21 (
ixK 1 v36 v39 fun p45 =>
j44 p45 h40) (
j44 skipV h40)) fun j41 =>
br b21 (
j41 v15.2.2.1 h37) (
j41 skipV h37)) fun j38 =>
br b21 (
j38 v15.1 h29) (
j38 skipV h29)) fun j34 =>
br b21 (
ldS v28 h29 fun s35 =>
j34 true (AV.str s35)) (
j34 false skipV)) fun j30 =>
br b21 (
ixK 1 v22 v25 fun p31 =>
j30 p31 h26) (
j30 skipV h26)) fun j27 =>
br b21 (
j27 v15.2.1 h23) (
j27 skipV h23)) fun j24 =>
br b21 (
j24 v15.1 h17) (
j24 skipV h17)) (v11.1, v11.2.1, v11.2.2.1, v11.2.2.2.1, ()) d12 h13) (a0, (AV.int .i64 a1), (AV.int .i64 x9), (AV.int .i64 x10), ()) [] h8
noncomputable def s65 : AV → Int → Int → Int → H → (Int → H → Prop) → Prop := s65G J0 s64
noncomputable def w65 (c : AV → Int → Int → Int → H → (Int → H → Prop) → Prop) : Fun := fun xs h k => arg xs fun a0 xs => arg xs fun a1 xs => arg xs fun a2 xs => arg xs fun a3 xs => noArg xs <| asI .i64 a1 fun a1 => asI .i64 a2 fun a2 => asI .i64 a3 fun a3 => c a0 a1 a2 a3 h fun r0 h => k (.int .i64 r0) h
theorem s65_eq (J : Joins) (c64 : Str → Str → H → (Bool → H → Prop) → Prop) (a0 : AV) (a1 : Int) (a2 : Int) (a3 : Int) (h : H) (k : AV → H → Prop) : denF ty (gam J [(64, w64 c64)]) Try.f65 [a0, (.int .i64 a1), (.int .i64 a2), (.int .i64 a3)] h k = s65G J c64 a0 a1 a2 a3 h (fun r0 h => k (.int .i64 r0) h) := by kernel_rfl
noncomputable def g65 : Fun := w65 s65
theorem g65_ok : FunOk Try.prog 65 g65 := (fun_ok ty_ok mixed (gam_ok (J := J0) (tab_cons g64_ok (tab_nil fls_fun))) Try.func65 (fun args w => by simp)).imp fun xs h k e0 => by
  obtain ⟨a0, xs0, rfl, e1⟩ := arg_imp e0
  obtain ⟨a1, xs1, rfl, e2⟩ := arg_imp e1
  obtain ⟨a2, xs2, rfl, e3⟩ := arg_imp e2
  obtain ⟨a3, xs3, rfl, e4⟩ := arg_imp e3
  obtain ⟨rfl, e5⟩ := noArg_imp e4
  obtain ⟨a1, rfl, e6⟩ := asI_iff.1 e5
  obtain ⟨a2, rfl, e7⟩ := asI_iff.1 e6
  obtain ⟨a3, rfl, e8⟩ := asI_iff.1 e7
  exact (s65_eq J0 s64 a0 a1 a2 a3 h k).mpr e8
/-- slices.partitionOrdered[string] -/
noncomputable def s66G (J : Joins) (c64 : Str → Str → H → (Bool → H → Prop) → Prop) (a0 : AV) (a1 : Int) (a2 : Int) (a3 : Int) (h : H) (k : Int → Bool → H → Prop) : Prop :=
ixK 1 a0 (AV.int .i64 a3) fun p1 =>
ldS p1 h fun s2 =>
ixK 1 a0 (AV.int .i64 a1) fun p3 =>
ldS p3 h fun s4 =>
ixK 1 a0 (AV.int .i64 a1) fun p5 =>
stV p5 (AV.str s2) h fun h6 =>
ixK 1 a0 (AV.int .i64 a3) fun p7 =>
stV p7 (AV.str s4) h6 fun h8 =>
fI (wrapF .i64 (Int.add a1 (Int.ofNat 1))) fun x9 =>
fI (wrapF .i64 (Int.sub a2 (Int.ofNat 1))) fun x10 =>
J.lp (α := AV × AV × AV × AV × Unit) (fun r14 v11 d12 h13 =>
asI .i64 v11.2.2.1 fun x15 =>
asI .i64 v11.2.2.2.1 fun x16 =>
fB (Bool.not (ltI x16 x15)) fun b17 =>
J.jn (fun v18 h19 =>
J.jn (fun v21 h22 =>
J.jn (fun v24 h25 =>
J.jb (fun b28 v29 =>
J.jn (fun v32 h33 =>
J.jn (fun v35 h36 =>
J.jn (fun v38 h39 =>
J.jb (fun b42 v43 =>
J.jn (fun v46 h47 =>
pickB (AV.bool b17) v46 (AV.bool false) fun b53 =>
br b53 (
asI .i64 v11.2.2.1 fun x54 =>
fI (wrapF .i64 (Int.add x54 (Int.ofNat 1))) fun x55 =>
r14 (v11.1, v11.2.1, (AV.int .i64 x55), v11.2.2.2.1, ()) d12 h47) (
J.lp (α := AV × AV × AV × AV × Unit) (fun r59 v56 d57 h58 =>
asI .i64 v56.2.2.1 fun x60 =>
asI .i64 v56.2.2.2.1 fun x61 =>
fB (Bool.not (ltI x61 x60)) fun b62 =>
J.jn (fun v63 h64 =>
J.jn (fun v66 h67 =>
J.jn (fun v69 h70 =>
J.jb (fun b73 v74 =>
J.jn (fun v77 h78 =>
J.jn (fun v80 h81 =>
J.jn (fun v83 h84 =>
J.jb (fun b87 v88 =>
J.jn (fun v91 h92 =>
J.jn (fun v98 h99 =>
pickB (AV.bool b62) v98 (AV.bool false) fun b103 =>
br b103 (
asI .i64 v56.2.2.2.1 fun x104 =>
fI (wrapF .i64 (Int.sub x104 (Int.ofNat 1))) fun x105 =>
r59 (v56.1, v56.2.1, v56.2.2.1, (AV.int .i64 x105), ()) d57 h99) (
asI .i64 v56.2.2.1 fun x106 =>
asI .i64 v56.2.2.2.1 fun x107 =>
fB (ltI x107 x106) fun b108 =>
br b108 (
ixK 1 v56.1 v56.2.1 fun p109 =>
ldS p109 h99 fun s110 =>
ixK 1 v56.1 v56.2.2.2.1 fun p111 =>
ldS p111 h99 fun s112 =>
ixK 1 v56.1 v56.2.2.2.1 fun p113 =>
stV p113 (AV.str s110) h99 fun h114 =>
ixK 1 v56.1 v56.2.1 fun p115 =>
stV p115 (AV.str s112) h114 fun h116 =>
leaveK (gam J [(64, w64 c64)]) d57 h116 fun h117 =>
asI .i64 v56.2.2.2.1 fun x118 =>
k x118 true h117) (
ixK 1 v56.1 v56.2.2.2.1 fun p119 =>
ldS p119 h99 fun s120 =>
ixK 1 v56.1 v56.2.2.1 fun p121 =>
ldS p121 h99 fun s122 =>
ixK 1 v56.1 v56.2.2.1 fun p123 =>
stV p123 (AV.str s120) h99 fun h124 =>
ixK 1 v56.1 v56.2.2.2.1 fun p125 =>
stV p125 (AV.str s122) h124 fun h126 =>
asI .i64 v56.2.2.1 fun x127 =>
fI (wrapF .i64 (Int.add x127 (Int.ofNat 1))) fun x128 =>
asI .i64 v56.2.2.2.1 fun x129 =>
fI (wrapF .i64 (Int.sub x129 (Int.ofNat 1))) fun x130 =>
J.lp (α := AV × AV × AV × AV × Unit) (fun r134 v131 d132 h133 =>
J.lp (α := AV × AV × AV × AV × Unit) (fun r138 v135 d136 h137 =>
asI .i64 v135.2.2.1 fun x139 =>
asI .i64 v135.2.2.2.1 fun x140 =>
fB (Bool.not (ltI x140 x139)) fun b141 =>
J.jn (fun v142 h143 =>
J.jn (fun v145 h146 =>
J.jn (fun v148 h149 =>
J.jb (fun b152 v153 =>
J.jn (fun v156 h157 =>
J.jn (fun v159 h160 =>
J.jn (fun v162 h163 =>
J.jb (fun b166 v167 =>
J.jn (fun v170 h171 =>
pickB (AV.bool b141) v170 (AV.bool false) fun b177 =>
br b177 (
asI .i64 v135.2.2.1 fun x178 =>
fI (wrapF .i64 (Int.add x178 (Int.ofNat 1))) fun x179 =>
r138 (v135.1, v135.2.1, (AV.int .i64 x179), v135.2.2.2.1, ()) d136 h171) (
J.lp (α := AV × AV × AV × AV × Unit) (fun r183 v180 d181 h182 =>
asI .i64 v180.2.2.1 fun x184 =>
asI .i64 v180.2.2.2.1 fun x185 =>
fB (Bool.not (ltI x185 x184)) fun b186 =>
J.jn (fun v187 h188 =>
J.jn (fun v190 h191 =>
J.jn (fun v193 h194 =>
J.jb (fun b197 v198 =>
J.jn (fun v201 h202 =>
J.jn (fun v204 h205 =>
J.jn (fun v207 h208 =>
J.jb (fun b211 v212 =>
J.jn (fun v215 h216 =>
J.jn (fun v222 h223 =>
pickB (AV.bool b186) v222 (AV.bool false) fun b227 =>
br b227 (
asI .i64 v180.2.2.2.1 fun x228 =>
fI (wrapF .i64 (Int.sub x228 (Int.ofNat 1))) fun x229 =>
r183 (v180.1, v180.2.1, v180.2.2.1, (AV.int .i64 x229), ()) d181 h223) (
asI .i64 v180.2.2.1 fun x230 =>
asI .i64 v180.2.2.2.1 fun x231 =>
fB (ltI x231 x230) fun b232 =>
br b232 (
ixK 1 v180.1 v180.2.1 fun p233 =>
ldS p233 h223 fun s234 =>
ixK 1 v180.1 v180.2.2.2.1 fun p235 =>
ldS p235 h223 fun s236 =>
ixK 1 v180.1 v180.2.2.2.1 fun p237 =>
stV p237 (AV.str s234) h223 fun h238 =>
ixK 1 v180.1 v180.2.1 fun p239 =>
stV p239 (AV.str s236) h238 fun h240 =>
leaveK (gam J [(64, w64 c64)]) d181 h240 fun h241 =>
asI .i64 v180.2.2.2.1 fun x242 =>
k x242 false h241) (
ixK 1 v180.1 v180.2.2.2.1 fun p243 =>
ldS p243 h223 fun s244 =>
ixK 1 v180.1 v180.2.2.1 fun p245 =>
ldS p245 h223 fun s246 =>
ixK 1 v180.1 v180.2.2.1 fun p247 =>
stV p247 (AV.str s244) h223 fun h248 =>
ixK 1 v180.1 v180.2.2.2.1 fun p249 =>
stV p249 (AV.str s246) h248 fun h250 =>
asI .i64 v180.2.2.1 fun x251 =>
fI (wrapF .i64 (Int.add x251 (Int.ofNat 1))) fun x252 =>
asI .i64 v180.2.2.2.1 fun x253 =>
fI (wrapF .i64 (Int.sub x253 (Int.ofNat 1))) fun x254 =>
r134 (v180.1, v180.2.1, (AV.int .i64 x252), (AV.int .i64 x254), ()) d181 h250))) fun j224 =>
br b186 (
asB v215 fun b225 =>
fB (Bool.not b225) fun b226 =>
j224 (AV.bool b226) h216) (
j224 skipV h216)) fun j217 =>
br b186 (
asS v198 fun s219 =>
asS v212 fun s220 =>
c64 s219 s220 h208 fun b221 h218 =>
j217 (AV.bool b221) h218) (
j217 skipV h208)) fun j213 =>
br b186 (
ldS v207 h208 fun s214 =>
j213 true (AV.str s214)) (
j213 false skipV)) fun j209 =>
br b186 (
ixK 1 v201 v204 fun p210 =>
j209 p210 h205) (
j209 skipV h205)) fun j206 =>
br b186 (
j206 v180.2.1 h202) (
j206 skipV h202)) fun j203 =>
br b186 (
j203 v180.1 h194) (
j203 skipV h194)) fun j199 =>
br b186 (
ldS v193 h194 fun s200 =>
j199 true (AV.str s200)) (
j199 false skipV)) fun j195 =>
br b186 (
ixK 1 v187 v190 fun p196 =>
j195 p196 h191) (
j195 skipV h191)) fun j192 =>
br b186 (
j192 v180.2.2.2.1 h188) (
j192 skipV h188)) fun j189 =>
br b186 (
j189 v180.1 h182) (
j189 skipV h182)) (v135.1, v135.2.1, v135.2.2.1, v135.2.2.2.1, ()) d136 h171)) fun j172 =>
br b141 (
asS v153 fun s174 =>
asS v167 fun s175 =>
c64 s174 s175 h163 fun b176 h173 =>
j172 (AV.bool b176) h173) (
j172 skipV h163)) fun j168 =>
br b141 (
ldS v162 h163 fun s169 =>
j168 true (AV.str s169)) (
j168 false skipV)) fun j164 =>
br b141 (
ixK 1 v156 v159 fun p165 =>
j164 p165 h160) (
j164 skipV h160)) fun j161 =>
br b141 (
j161 v135.2.1 h157) (
j161 skipV h157)) fun j158 =>
br b141 (
j158 v135.1 h149) (
j158 skipV h149)) fun j154 =>
br b141 (
ldS v148 h149 fun s155 =>
j154 true (AV.str s155)) (
j154 false skipV)) fun j150 =>
br b141 (
ixK 1 v142 v145 fun p151 =>
j150 p151 h146) (
j150 skipV h146)) fun j147 =>
br b141 (
j147 v135.2.2.1 h143) (
j147 skipV h143)) fun j144 =>
br b141 (
j144 v135.1 h137) (
j144 skipV h137)) (v131.1, v131.2.1, v131.2.2.1, v131.2.2.2.1, ()) d132 h133) (v56.1, v56.2.1, (AV.int .i64 x128), (AV.int .i64 x130), ()) d57 h126))) fun j100 =>
br b62 (
asB v91 fun b101 =>
fB (Bool.not b101) fun b102 =>
j100 (AV.bool b102) h92) (
j100 skipV h92)) fun j93 =>
br b62 (
asS v74 fun s95 =>
asS v88 fun s96 =>
c64 s95 s96 h84 fun b97 h94 =>
j93 (AV.bool b97) h94) (
j93 skipV h84)) fun j89 =>
br b62 (
ldS v83 h84 fun s90 =>
j89 true (AV.str s90)) (
j89 false skipV)) fun j85 =>
br b62 (
ixK 1 v77 v80 fun p86 =>
j85 p86 h81) (
j85 skipV h81)) fun j82 =>
br b62 (
j82 v56.2.1 h78) (
j82 skipV h78)) fun j79 =>
br b62 (
j79 v56.1 h70) (
j79 skipV h70)) fun j75 =>
br b62 (
ldS v69 h70 fun s76 =>
j75 true (AV.str s76)) (
j75 false skipV)) fun j71 =>
br b62 (
ixK 1 v63 v66 fun p72 =>
j71 p72 h67) (
j71 skipV h67)) fun j68 =>
br b62 (
j68 v56.2.2.2.1 h64) (
j68 skipV h64)) fun j65 =>
br b62 (
j65 v56.1 h58) (
j65 skipV h58)) (v11.1, v11.2.1, v11.2.2.1, v11.2.2.2.1, ()) d12 h47)) fun j48 =>
br b17 (
asS v29 fun s50 =>
asS v43 fun s51 =>
c64 s50 s51 h39 fun b52 h49 =>
j48 (AV.bool b52) h49) (
j48 skipV h39)) fun j44 =>
br b17 (
ldS v38 h39 fun s45 =>
j44 true (AV.str s45)) (
j44 false skipV)) fun j40 =>
br b17 (
ixK 1 v32 v35 fun p41 =>
j40 p41 h36) (
j40 skipV h36)) fun j37 =>
br b17 (
j37 v11.2.1 h33) (
j37 skipV h33)) fun j34 =>
br b17 (
j34 v11.1 h25) (
j34 skipV h25)) fun j30 =>
br b17 (
ldS v24 h25 fun s31 =>
j30 true (AV.str s31)) (
j30 false skipV)) fun j26 =>
br b17 (
ixK 1 v18 v21 fun p27 =>
j26 p27 h22) (
j26 skipV h22)) fun j23 =>
br b17 (
j23 v11.2.2.1 h19) (
j23 skipV h19)) fun j20 =>
br b17 (
j20 v11.1 h13) (
j20 skipV h13)) (a0, (AV.int .i64 a1), (AV.int .i64 x9), (AV.int .i64 x10), ()) [] h8
noncomputable def s66 : AV → Int → Int → Int → H → (Int → Bool → H → Prop) → Prop := s66G J0 s64
noncomputable def w66 (c : AV → Int → Int → Int → H → (Int → Bool → H → Prop) → Prop) : Fun := fun xs h k => arg xs fun a0 xs => arg xs fun a1 xs => arg xs fun a2 xs => arg xs fun a3 xs => noArg xs <| asI .i64 a1 fun a1 => asI .i64 a2 fun a2 => asI .i64 a3 fun a3 => c a0 a1 a2 a3 h fun r0 r1 h => k (.tuple [(.int .i64 r0), (.bool r1)]) h
theorem s66_eq (J : Joins) (c64 : Str → Str → H → (Bool → H → Prop) → Prop) (a0 : AV) (a1 : Int) (a2 : Int) (a3 : Int) (h : H) (k : AV → H → Prop) : denF ty (gam J [(64, w64 c64)]) Try.f66 [a0, (.int .i64 a1), (.int .i64 a2), (.int .i64 a3)] h k = s66G J c64 a0 a1 a2 a3 h (fun r0 r1 h => k (.tuple [(.int .i64 r0), (.bool r1)]) h) := by kernel_rfl
noncomputable def g66 : Fun := w66 s66
theorem g66_ok : FunOk Try.prog 66 g66 := (fun_ok ty_ok mixed (gam_ok (J := J0) (tab_cons g64_ok (tab_nil fls_fun))) Try.func66 (fun args w => by simp)).imp fun xs h k e0 => by
  obtain ⟨a0, xs0, rfl, e1⟩ := arg_imp e0
  obtain ⟨a1, xs1, rfl, e2⟩ := arg_imp e1
  obtain ⟨a2, xs2, rfl, e3⟩ := arg_imp e2
  obtain ⟨a3, xs3, rfl, e4⟩ := arg_imp e3
  obtain ⟨rfl, e5⟩ := noArg_imp e4
  obtain ⟨a1, rfl, e6⟩ := asI_iff.1 e5
  obtain ⟨a2, rfl, e7⟩ := asI_iff.1 e6
  obtain ⟨a3, rfl, e8⟩ := asI_iff.1 e7
  exact (s66_eq J0 s64 a0 a1 a2 a3 h k).mpr e8
noncomputable def w56 (c : AV → Int → Int → Int → H → (H → Prop) → Prop) : Fun := fun xs h k => arg xs fun a0 xs => arg xs fun a1 xs => arg xs fun a2 xs => arg xs fun a3 xs => noArg xs <| asI .i64 a1 fun a1 => asI .i64 a2 fun a2 => asI .i64 a3 fun a3 => c a0 a1 a2 a3 h fun  h => k (.tuple []) h
/-- slices.pdqsortOrdered[string] -/
noncomputable def s56G (J : Joins) (c56 : AV → Int → Int → Int → H → (H → Prop) → Prop) (c58 : AV → Int → Int → H → (H → Prop) → Prop) (c59 : AV → Int → Int → H → (H → Prop) → Prop) (c60 : AV → Int → Int → H → (H → Prop) → Prop) (c61 : AV → Int → Int → H → (Int → Int → H → Prop) → Prop) (c62 : AV → Int → Int → H → (H → Prop) → Prop) (c63 : AV → Int → Int → H → (Bool → H → Prop) → Prop) (c64 : Str → Str → H → (Bool → H → Prop) → Prop) (c65 : AV → Int → Int → Int → H → (Int → H → Prop) → Prop) (c66 : AV → Int → Int → Int → H → (Int → Bool → H → Prop) → Prop) (a0 : AV) (a1 : Int) (a2 : Int) (a3 : Int) (h : H) (k : H → Prop) : Prop :=
J.lp (α := AV × AV × AV × AV × AV × AV × Unit) (fun r4 v1 d2 h3 =>
asI .i64 v1.2.2.1 fun x5 =>
asI .i64 v1.2.1 fun x6 =>
fI (wrapF .i64 (Int.sub x5 x6)) fun x7 =>
fB (Bool.not (ltI (Int.ofNat 12) x7)) fun b8 =>
br b8 (
asI .i64 v1.2.1 fun x10 =>
asI .i64 v1.2.2.1 fun x11 =>
c58 v1.1 x10 x11 h3 fun  h9 =>
leaveK (gam J [(56, w56 c56), (58, w58 c58), (59, w59 c59), (60, w60 c60), (61, w61 c61), (62, w62 c62), (63, w63 c63), (64, w64 c64), (65, w65 c65), (66, w66 c66)]) d2 h9 fun h12 =>
k  h12) (
asI .i64 v1.2.2.2.1 fun x13 =>
fB (eqI x13 (Int.ofNat 0)) fun b14 =>
br b14 (
asI .i64 v1.2.1 fun x16 =>
asI .i64 v1.2.2.1 fun x17 =>
c59 v1.1 x16 x17 h3 fun  h15 =>
leaveK (gam J [(56, w56 c56), (58, w58 c58), (59, w59 c59), (60, w60 c60), (61, w61 c61), (62, w62 c62), (63, w63 c63), (64, w64 c64), (65, w65 c65), (66, w66 c66)]) d2 h15 fun h18 =>
k  h18) (
J.jd (α := AV × AV × AV × AV × AV × AV × AV × Unit) (fun v19 d20 h21 =>
asI .i64 v19.2.1 fun x24 =>
asI .i64 v19.2.2.1 fun x25 =>
c61 v19.1 x24 x25 h21 fun x26 x27 h23 =>
J.jd (α := AV × AV × AV × AV × AV × AV × AV × AV × AV × Unit) (fun v28 d29 h30 =>
J.jd (α := AV × AV × AV × AV × AV × AV × AV × AV × Unit) (fun v32 d33 h34 =>
asI .i64 v32.2.1 fun x36 =>
fB (ltI (Int.ofNat 0) x36) fun b37 =>
J.jn (fun v38 h39 =>
J.jn (fun v41 h42 =>
J.jn (fun v44 h45 =>
J.jn (fun v49 h50 =>
J.jb (fun b53 v54 =>
J.jn (fun v57 h58 =>
J.jn (fun v60 h61 =>
J.jn (fun v63 h64 =>
J.jb (fun b67 v68 =>
J.jn (fun v71 h72 =>
J.jn (fun v78 h79 =>
pickB (AV.bool b37) v78 (AV.bool false) fun b83 =>
br b83 (
asI .i64 v32.2.1 fun x85 =>
asI .i64 v32.2.2.1 fun x86 =>
asI .i64 v32.2.2.2.2.2.2.2.1 fun x87 =>
c65 v32.1 x85 x86 x87 h79 fun x88 h84 =>
r4 (v32.1, (AV.int .i64 x88), v32.2.2.1, v32.2.2.2.1, v32.2.2.2.2.1, v32.2.2.2.2.2.1, ()) d33 h84) (
asI .i64 v32.2.1 fun x90 =>
asI .i64 v32.2.2.1 fun x91 =>
asI .i64 v32.2.2.2.2.2.2.2.1 fun x92 =>
c66 v32.1 x90 x91 x92 h79 fun x93 b94 h89 =>
asI .i64 v32.2.1 fun x95 =>
fI (wrapF .i64 (Int.sub x93 x95)) fun x96 =>
asI .i64 v32.2.2.1 fun x97 =>
fI (wrapF .i64 (Int.sub x97 x93)) fun x98 =>
asI .i64 v32.2.2.2.2.2.2.1 fun x99 =>
ck (Bool.not (eqI (Int.ofNat 8) 0)) (fI (wrapF .i64 (Int.tdiv x99 (Int.ofNat 8))) fun x100 =>
fB (ltI x96 x98) fun b101 =>
br b101 (
fB (Bool.not (ltI x96 x100)) fun b102 =>
asI .i64 v32.2.1 fun x104 =>
asI .i64 v32.2.2.2.1 fun x105 =>
c56 v32.1 x104 x93 x105 h89 fun  h103 =>
fI (wrapF .i64 (Int.add x93 (Int.ofNat 1))) fun x106 =>
r4 (v32.1, (AV.int .i64 x106), v32.2.2.1, v32.2.2.2.1, (AV.bool b102), (AV.bool b94), ()) d33 h103) (
fB (Bool.not (ltI x98 x100)) fun b107 =>
fI (wrapF .i64 (Int.add x93 (Int.ofNat 1))) fun x108 =>
asI .i64 v32.2.2.1 fun x110 =>
asI .i64 v32.2.2.2.1 fun x111 =>
c56 v32.1 x108 x110 x111 h89 fun  h109 =>
r4 (v32.1, v32.2.1, (AV.int .i64 x93), v32.2.2.2.1, (AV.bool b107), (AV.bool b94), ()) d33 h109)))) fun j80 =>
br b37 (
asB v71 fun b81 =>
fB (Bool.not b81) fun b82 =>
j80 (AV.bool b82) h72) (
j80 skipV h72)) fun j73 =>
br b37 (
asS v54 fun s75 =>
asS v68 fun s76 =>
c64 s75 s76 h64 fun b77 h74 =>
j73 (AV.bool b77) h74) (
j73 skipV h64)) fun j69 =>
br b37 (
ldS v63 h64 fun s70 =>
j69 true (AV.str s70)) (
j69 false skipV)) fun j65 =>
br b37 (
ixK 1 v57 v60 fun p66 =>
j65 p66 h61) (
j65 skipV h61)) fun j62 =>
br b37 (
j62 v32.2.2.2.2.2.2.2.1 h58) (
j62 skipV h58)) fun j59 =>
br b37 (
j59 v32.1 h50) (
j59 skipV h50)) fun j55 =>
br b37 (
ldS v49 h50 fun s56 =>
j55 true (AV.str s56)) (
j55 false skipV)) fun j51 =>
br b37 (
ixK 1 v38 v44 fun p52 =>
j51 p52 h45) (
j51 skipV h45)) fun j46 =>
br b37 (
asI .i64 v41 fun x47 =>
fI (wrapF .i64 (Int.sub x47 (Int.ofNat 1))) fun x48 =>
j46 (AV.int .i64 x48) h42) (
j46 skipV h42)) fun j43 =>
br b37 (
j43 v32.2.1 h39) (
j43 skipV h39)) fun j40 =>
br b37 (
j40 v32.1 h34) (
j40 skipV h34)) fun j35 =>
J.jn (fun v112 h113 =>
pickB v28.2.2.2.2.1 v112 (AV.bool false) fun b115 =>
J.jn (fun v116 h117 =>
J.jn (fun v119 h120 =>
pickB (AV.bool b115) v119 (AV.bool false) fun b124 =>
br b124 (
asI .i64 v28.2.1 fun x126 =>
asI .i64 v28.2.2.1 fun x127 =>
c63 v28.1 x126 x127 h120 fun b128 h125 =>
br b128 (
leaveK (gam J [(56, w56 c56), (58, w58 c58), (59, w59 c59), (60, w60 c60), (61, w61 c61), (62, w62 c62), (63, w63 c63), (64, w64 c64), (65, w65 c65), (66, w66 c66)]) d29 h125 fun h129 =>
k  h129) (
j35 (v28.1, v28.2.1, v28.2.2.1, v28.2.2.2.1, v28.2.2.2.2.1, v28.2.2.2.2.2.1, v28.2.2.2.2.2.2.1, v28.2.2.2.2.2.2.2.1, ()) d29 h125)) (
j35 (v28.1, v28.2.1, v28.2.2.1, v28.2.2.2.1, v28.2.2.2.2.1, v28.2.2.2.2.2.1, v28.2.2.2.2.2.2.1, v28.2.2.2.2.2.2.2.1, ()) d29 h120)) fun j121 =>
br b115 (
asI .i64 v116 fun x122 =>
fB (eqI x122 (Int.ofNat 1)) fun b123 =>
j121 (AV.bool b123) h117) (
j121 skipV h117)) fun j118 =>
br b115 (
j118 v28.2.2.2.2.2.2.2.2.1 h113) (
j118 skipV h113)) fun j114 =>
asBU v28.2.2.2.2.1 (fun b130 =>
br b130 (
j114 v28.2.2.2.2.2.1 h30) (
j114 skipV h30)) (
j114 skipV h30)) fun j31 =>
fB (eqI x27 (Int.ofNat 2)) fun b131 =>
br b131 (
asI .i64 v19.2.1 fun x133 =>
asI .i64 v19.2.2.1 fun x134 =>
c62 v19.1 x133 x134 h23 fun  h132 =>
asI .i64 v19.2.2.1 fun x135 =>
fI (wrapF .i64 (Int.sub x135 (Int.ofNat 1))) fun x136 =>
asI .i64 v19.2.1 fun x137 =>
fI (wrapF .i64 (Int.sub x26 x137)) fun x138 =>
fI (wrapF .i64 (Int.sub x136 x138)) fun x139 =>
j31 (v19.1, v19.2.1, v19.2.2.1, v19.2.2.2.1, v19.2.2.2.2.1, v19.2.2.2.2.2.1, v19.2.2.2.2.2.2.1, (AV.int .i64 x139), (AV.int .i64 (Int.ofNat 1)), ()) d20 h132) (
j31 (v19.1, v19.2.1, v19.2.2.1, v19.2.2.2.1, v19.2.2.2.2.1, v19.2.2.2.2.2.1, v19.2.2.2.2.2.2.1, (AV.int .i64 x26), (AV.int .i64 x27), ()) d20 h23)) fun j22 =>
asB v1.2.2.2.2.1 fun b140 =>
fB (Bool.not b140) fun b141 =>
br b141 (
asI .i64 v1.2.1 fun x143 =>
asI .i64 v1.2.2.1 fun x144 =>
c60 v1.1 x143 x144 h3 fun  h142 =>
asI .i64 v1.2.2.2.1 fun x145 =>
fI (wrapF .i64 (Int.sub x145 (Int.ofNat 1))) fun x146 =>
j22 (v1.1, v1.2.1, v1.2.2.1, (AV.int .i64 x146), v1.2.2.2.2.1, v1.2.2.2.2.2.1, (AV.int .i64 x7), ()) d2 h142) (
j22 (v1.1, v1.2.1, v1.2.2.1, v1.2.2.2.1, v1.2.2.2.2.1, v1.2.2.2.2.2.1, (AV.int .i64 x7), ()) d2 h3)))) (a0, (AV.int .i64 a1), (AV.int .i64 a2), (AV.int .i64 a3), (AV.bool true), (AV.bool true), ()) [] h
noncomputable def rec56 : Nat → AV → Int → Int → Int → H → (H → Prop) → Prop := fun n => Nat.rec (motive := fun _ => AV → Int → Int → Int → H → (H → Prop) → Prop) (fun _ _ _ _ _ _ => False) (fun _ r => s56G J0 r s58 s59 s60 s61 s62 s63 s64 s65 s66) n
noncomputable def s56 : AV → Int → Int → Int → H → (H → Prop) → Prop := rec56 64
theorem s56_eq (J : Joins) (c56 : AV → Int → Int → Int → H → (H → Prop) → Prop) (c58 : AV → Int → Int → H → (H → Prop) → Prop) (c59 : AV → Int → Int → H → (H → Prop) → Prop) (c60 : AV → Int → Int → H → (H → Prop) → Prop) (c61 : AV → Int → Int → H → (Int → Int → H → Prop) → Prop) (c62 : AV → Int → Int → H → (H → Prop) → Prop) (c63 : AV → Int → Int → H → (Bool → H → Prop) → Prop) (c64 : Str → Str → H → (Bool → H → Prop) → Prop) (c65 : AV → Int → Int → Int → H → (Int → H → Prop) → Prop) (c66 : AV → Int → Int → Int → H → (Int → Bool → H → Prop) → Prop) (a0 : AV) (a1 : Int) (a2 : Int) (a3 : Int) (h : H) (k : AV → H → Prop) : denF ty (gam J [(56, w56 c56), (58, w58 c58), (59, w59 c59), (60, w60 c60), (61, w61 c61), (62, w62 c62), (63, w63 c63), (64, w64 c64), (65, w65 c65), (66, w66 c66)]) Try.f56 [a0, (.int .i64 a1), (.int .i64 a2), (.int .i64 a3)] h k = s56G J c56 c58 c59 c60 c61 c62 c63 c64 c65 c66 a0 a1 a2 a3 h (fun  h => k (.tuple []) h) := by kernel_rfl
noncomputable def g56 : Fun := w56 s56
theorem rec56_ok : ∀ n, FunOk Try.prog 56 (w56 (rec56 n))
  | 0 => fun xs h k e0 => by
    obtain ⟨a0, xs0, rfl, e1⟩ := arg_imp e0
    obtain ⟨a1, xs1, rfl, e2⟩ := arg_imp e1
    obtain ⟨a2, xs2, rfl, e3⟩ := arg_imp e2
    obtain ⟨a3, xs3, rfl, e4⟩ := arg_imp e3
    obtain ⟨rfl, e5⟩ := noArg_imp e4
    obtain ⟨a1, rfl, e6⟩ := asI_iff.1 e5
    obtain ⟨a2, rfl, e7⟩ := asI_iff.1 e6
    obtain ⟨a3, rfl, e8⟩ := asI_iff.1 e7
    exact e8.elim
  | n + 1 => (fun_ok ty_ok mixed (gam_ok (J := J0) (tab_cons (rec56_ok n) (tab_cons g58_ok (tab_cons g59_ok (tab_cons g60_ok (tab_cons g61_ok (tab_cons g62_ok (tab_cons g63_ok (tab_cons g64_ok (tab_cons g65_ok (tab_cons g66_ok (tab_nil fls_fun)))))))))))) Try.func56 (fun args w => by simp)).imp fun xs h k e0 => by
    obtain ⟨a0, xs0, rfl, e1⟩ := arg_imp e0
    obtain ⟨a1, xs1, rfl, e2⟩ := arg_imp e1
    obtain ⟨a2, xs2, rfl, e3⟩ := arg_imp e2
    obtain ⟨a3, xs3, rfl, e4⟩ := arg_imp e3
    obtain ⟨rfl, e5⟩ := noArg_imp e4
    obtain ⟨a1, rfl, e6⟩ := asI_iff.1 e5
    obtain ⟨a2, rfl, e7⟩ := asI_iff.1 e6
    obtain ⟨a3, rfl, e8⟩ := asI_iff.1 e7
    exact (s56_eq J0 (rec56 n) s58 s59 s60 s61 s62 s63 s64 s65 s66 a0 a1 a2 a3 h k).mpr e8
theorem g56_ok : FunOk Try.prog 56 g56 := rec56_ok 64
/-- slices.Sort[[]string,string] -/
noncomputable def s52G (J : Joins) (c56 : AV → Int → Int → Int → H → (H → Prop) → Prop) (c57 : Int → H → (Int → H → Prop) → Prop) (a0 : AV) (h : H) (k : H → Prop) : Prop :=
lenK a0 fun x1 =>
fI (wrapF .u64 (Int.ofNat x1)) fun x2 =>
c57 x2 h fun x4 h3 =>
c56 a0 (Int.ofNat 0) (Int.ofNat x1) x4 h3 fun  h5 =>
k  h5
noncomputable def s52 : AV → H → (H → Prop) → Prop := s52G J0 s56 s57
noncomputable def w52 (c : AV → H → (H → Prop) → Prop) : Fun := fun xs h k => arg xs fun a0 xs => noArg xs <| c a0 h fun  h => k (.tuple []) h
theorem s52_eq (J : Joins) (c56 : AV → Int → Int → Int → H → (H → Prop) → Prop) (c57 : Int → H → (Int → H → Prop) → Prop) (a0 : AV) (h : H) (k : AV → H → Prop) : denF ty (gam J [(56, w56 c56), (57, w57 c57)]) Try.f52 [a0] h k = s52G J c56 c57 a0 h (fun  h => k (.tuple []) h) := by kernel_rfl
noncomputable def g52 : Fun := w52 s52
theorem g52_ok : FunOk Try.prog 52 g52 := (fun_ok ty_ok mixed (gam_ok (J := J0) (tab_cons g56_ok (tab_cons g57_ok (tab_nil fls_fun)))) Try.func52 (fun args w => by simp)).imp fun xs h k e0 => by
  obtain ⟨a0, xs0, rfl, e1⟩ := arg_imp e0
  obtain ⟨rfl, e2⟩ := noArg_imp e1
  exact (s52_eq J0 s56 s57 a0 h k).mpr e2
/-- slices.Sorted[string] -/
noncomputable def s44G (J : Joins) (c51 : AV → H → (AV → H → Prop) → Prop) (c52 : AV → H → (H → Prop) → Prop) (a0 : AV) (h : H) (k : AV → H → Prop) : Prop :=
c51 a0 h fun v2 h1 =>
c52 v2 h1 fun  h3 =>
k v2 h3
noncomputable def s44 : AV → H → (AV → H → Prop) → Prop := s44G J0 s51 s52
noncomputable def w44 (c : AV → H → (AV → H → Prop) → Prop) : Fun := fun xs h k => arg xs fun a0 xs => noArg xs <| c a0 h fun r0 h => k r0 h
theorem s44_eq (J : Joins) (c51 : AV → H → (AV → H → Prop) → Prop) (c52 : AV → H → (H → Prop) → Prop) (a0 : AV) (h : H) (k : AV → H → Prop) : denF ty (gam J [(51, w51 c51), (52, w52 c52)]) Try.f44 [a0] h k = s44G J c51 c52 a0 h (fun r0 h => k r0 h) := by kernel_rfl
end Go.Proofs.Ytiejkbmobmgdkaa
