/- Functions as they are reckoned. MADE BY PROGRAM (wip/tools/shal.py). -/
import Derived.Test.YtfbdniomnnpemaaGreatDoorAmH45
namespace Go.Proofs.YtfbdniomnnpemaaGreatDoor
open Go Go.Am
set_option maxRecDepth 100000
set_option linter.all false
/-- stagepost/mem.New -/
noncomputable def g46 : Fun := denFS ty (gam J0 []) Tryz.f46
theorem g46_ok : FunOk Tryz.prog 46 g46 := fun_okS ty_ok mixed (gam_ok (J := J0) (tab_nil fls_fun)) Tryz.func46 (fun args w => by simp)
/-- maps.Keys[map[string]int,string,int]$1 -/
noncomputable def s184G (J : Joins) (cd : Code → Ks → List AV → List Dfr → H → Prop) (a0 : AV) (a1 : AV) (h : H) (k : H → Prop) : Prop :=
ldV a1 h fun v1 =>
aRangeK v1 h fun v2 h3 =>
J.lp (α := AV × AV × Unit) (fun r7 v4 d5 h6 =>
aNext v4.2.1 h6 fun v8 h9 =>
asTup v8 fun l10 =>
op' (lgetO l10 0) fun v11 =>
asB v11 fun b12 =>
br b12 (
op' (aEntry v4.2.1 h9) fun v13 =>
asTup v13 fun l14 =>
op' (lgetO l14 0) fun v15 =>
asS v15 fun s16 =>
callK (gamI J [] [] cd) v4.1 [(AV.str s16)] h9 fun v17 h18 =>
asB v17 fun b19 =>
fB (Bool.not b19) fun b20 =>
br b20 (
leaveK (gamI J [] [] cd) d5 h18 fun h21 =>
k  h21) (
r7 (v4.1, v4.2.1, ()) d5 h18)) (
leaveK (gamI J [] [] cd) d5 h9 fun h22 =>
k  h22)) (a0, v2, ()) [] h3
noncomputable def s184 : AV → AV → H → (H → Prop) → Prop := s184G J0  noCode
noncomputable def w184 (c : AV → AV → H → (H → Prop) → Prop) : Fun := fun xs h k => arg xs fun a0 xs => arg xs fun a1 xs => noArg xs <| c a0 a1 h fun  h => k (.tuple []) h
theorem s184_eq (J : Joins) (cd : Code → Ks → List AV → List Dfr → H → Prop) (a0 : AV) (a1 : AV) (h : H) (k : AV → H → Prop) : denF ty (gamI J [] [] cd) Tryz.f184 [a0, a1] h k = s184G J  cd a0 a1 h (fun  h => k (.tuple []) h) := by kernel_rfl
noncomputable def g184 : Fun := w184 s184
theorem g184_ok : FunOk Tryz.prog 184 g184 := (fun_ok ty_ok mixed (gamI_ok (J := J0) (tab_nil fls_fun) (tab_nil fls_it) noCode_ok) Tryz.func184 (fun args w => by simp)).imp fun xs h k e0 => by
  obtain ⟨a0, xs0, rfl, e1⟩ := arg_imp e0
  obtain ⟨a1, xs1, rfl, e2⟩ := arg_imp e1
  obtain ⟨rfl, e3⟩ := noArg_imp e2
  exact (s184_eq J0  noCode a0 a1 h k).mpr e3
/-- function 184 as function 217 ranges over it -/
noncomputable def s184_217 : AV → AV → H → (H → Prop) → Prop := s184G J0  (denR ty (gamI J0 [] [] noCode))
theorem i184_217_ok : ItOk Tryz.prog 184 (w184 s184_217) := (it_ok ty_ok mixed (gamI_ok (J := J0) (tab_nil fls_fun) (tab_nil fls_it) (code_ok ty_ok mixed (gamI_ok (J := J0) (tab_nil fls_fun) (tab_nil fls_it) noCode_ok))) Tryz.func184 (fun args w => by simp)).imp fun xs h k e0 => by
  obtain ⟨a0, xs0, rfl, e1⟩ := arg_imp e0
  obtain ⟨a1, xs1, rfl, e2⟩ := arg_imp e1
  obtain ⟨rfl, e3⟩ := noArg_imp e2
  exact (s184_eq J0  (denR ty (gamI J0 [] [] noCode)) a0 a1 h k).mpr e3
/-- slices.AppendSeq[[]string,string] -/
noncomputable def s217G (J : Joins) (i184 : AV → AV → H → (H → Prop) → Prop) (a0 : AV) (a1 : AV) (h : H) (k : AV → H → Prop) : Prop :=
ck (isOne a0) (
pushK (.cells false 129 [a0]) h fun n1 h2 =>
J.jd (α := AV × Unit) (fun v3 d4 h5 =>
ldV v3.1 h5 fun v7 =>
leaveK (gamI J [] [(184, w184 i184)] noCode) d4 h5 fun h8 =>
k v7 h8) fun j6 =>
rfK (gamI J [] [(184, w184 i184)] noCode) a1 [7] (rfAt Tryz.f217 0) [a0, a1, (AV.ptr n1 0), AV.junk, AV.nils, AV.junk, a1, AV.junk, AV.junk, AV.junk, AV.junk, AV.junk, AV.junk] h2 fun n9 n10 h11 =>
endR n9 n10 (fun d12 h13 =>
j6 ((AV.ptr n1 0), ()) d12 h13) (fun d12 h13 =>
leaveK (gamI J [] [(184, w184 i184)] noCode) d12 h13 fun h15 =>
k AV.nils h15) (fun i14 d12 h13 =>
exB (Nat.beq i14 0) (fun d12 h13 =>
j6 ((AV.ptr n1 0), ()) d12 h13) (fun d12 h13 =>
False) d12 h13) [] h11)
noncomputable def s217 : AV → AV → H → (AV → H → Prop) → Prop := s217G J0  s184_217
noncomputable def w217 (c : AV → AV → H → (AV → H → Prop) → Prop) : Fun := fun xs h k => arg xs fun a0 xs => arg xs fun a1 xs => noArg xs <| c a0 a1 h fun r0 h => k r0 h
theorem s217_eq (J : Joins) (i184 : AV → AV → H → (H → Prop) → Prop) (a0 : AV) (a1 : AV) (h : H) (k : AV → H → Prop) : denF ty (gamI J [] [(184, w184 i184)] noCode) Tryz.f217 [a0, a1] h k = s217G J  i184 a0 a1 h (fun r0 h => k r0 h) := by kernel_rfl
noncomputable def g217 : Fun := w217 s217
theorem g217_ok : FunOk Tryz.prog 217 g217 := (fun_ok ty_ok mixed (gamI_ok (J := J0) (tab_nil fls_fun) (tab_cons i184_217_ok (tab_nil fls_it)) noCode_ok) Tryz.func217 (fun args w => by simp)).imp fun xs h k e0 => by
  obtain ⟨a0, xs0, rfl, e1⟩ := arg_imp e0
  obtain ⟨a1, xs1, rfl, e2⟩ := arg_imp e1
  obtain ⟨rfl, e3⟩ := noArg_imp e2
  exact (s217_eq J0  s184_217 a0 a1 h k).mpr e3
/-- slices.Collect[string] -/
noncomputable def s182G (J : Joins) (c217 : AV → AV → H → (AV → H → Prop) → Prop) (a0 : AV) (h : H) (k : AV → H → Prop) : Prop :=
c217 AV.nils a0 h fun v2 h1 =>
k v2 h1
noncomputable def s182 : AV → H → (AV → H → Prop) → Prop := s182G J0 s217
noncomputable def w182 (c : AV → H → (AV → H → Prop) → Prop) : Fun := fun xs h k => arg xs fun a0 xs => noArg xs <| c a0 h fun r0 h => k r0 h
theorem s182_eq (J : Joins) (c217 : AV → AV → H → (AV → H → Prop) → Prop) (a0 : AV) (h : H) (k : AV → H → Prop) : denF ty (gam J [(217, w217 c217)]) Tryz.f182 [a0] h k = s182G J c217 a0 h (fun r0 h => k r0 h) := by kernel_rfl
noncomputable def g182 : Fun := w182 s182
theorem g182_ok : FunOk Tryz.prog 182 g182 := (fun_ok ty_ok mixed (gam_ok (J := J0) (tab_cons g217_ok (tab_nil fls_fun))) Tryz.func182 (fun args w => by simp)).imp fun xs h k e0 => by
  obtain ⟨a0, xs0, rfl, e1⟩ := arg_imp e0
  obtain ⟨rfl, e2⟩ := noArg_imp e1
  exact (s182_eq J0 s217 a0 h k).mpr e2
/-- cmp.Less[string] -/
noncomputable def s242G (J : Joins) (c190 : Str → H → (Bool → H → Prop) → Prop) (a0 : Str) (a1 : Str) (h : H) (k : Bool → H → Prop) : Prop :=
c190 a0 h fun b2 h1 =>
J.jn (fun v3 h4 =>
J.jn (fun v6 h7 =>
J.jn (fun v12 h13 =>
pickB (AV.bool b2) v12 (AV.bool false) fun b17 =>
J.jn (fun v18 h19 =>
J.jn (fun v21 h22 =>
J.jn (fun v24 h25 =>
pickB (AV.bool b17) (AV.bool true) v24 fun b30 =>
k b30 h25) fun j26 =>
br b17 (
j26 skipV h22) (
asS v18 fun s27 =>
asS v21 fun s28 =>
fB (Str.lt s27 s28) fun b29 =>
j26 (AV.bool b29) h22)) fun j23 =>
br b17 (
j23 skipV h19) (
j23 (AV.str a1) h19)) fun j20 =>
br b17 (
j20 skipV h13) (
j20 (AV.str a0) h13)) fun j14 =>
br b2 (
asB v6 fun b15 =>
fB (Bool.not b15) fun b16 =>
j14 (AV.bool b16) h7) (
j14 skipV h7)) fun j8 =>
br b2 (
asS v3 fun s10 =>
c190 s10 h4 fun b11 h9 =>
j8 (AV.bool b11) h9) (
j8 skipV h4)) fun j5 =>
br b2 (
j5 (AV.str a1) h1) (
j5 skipV h1)
noncomputable def s242 : Str → Str → H → (Bool → H → Prop) → Prop := s242G J0 s190
noncomputable def w242 (c : Str → Str → H → (Bool → H → Prop) → Prop) : Fun := fun xs h k => arg xs fun a0 xs => arg xs fun a1 xs => noArg xs <| asS a0 fun a0 => asS a1 fun a1 => c a0 a1 h fun r0 h => k (.bool r0) h
theorem s242_eq (J : Joins) (c190 : Str → H → (Bool → H → Prop) → Prop) (a0 : Str) (a1 : Str) (h : H) (k : AV → H → Prop) : denF ty (gam J [(190, w190 c190)]) Tryz.f242 [(.str a0), (.str a1)] h k = s242G J c190 a0 a1 h (fun r0 h => k (.bool r0) h) := by kernel_rfl
noncomputable def g242 : Fun := w242 s242
theorem g242_ok : FunOk Tryz.prog 242 g242 := (fun_ok ty_ok mixed (gam_ok (J := J0) (tab_cons g190_ok (tab_nil fls_fun))) Tryz.func242 (fun args w => by simp)).imp fun xs h k e0 => by
  obtain ⟨a0, xs0, rfl, e1⟩ := arg_imp e0
  obtain ⟨a1, xs1, rfl, e2⟩ := arg_imp e1
  obtain ⟨rfl, e3⟩ := noArg_imp e2
  obtain ⟨a0, rfl, e4⟩ := asS_iff.1 e3
  obtain ⟨a1, rfl, e5⟩ := asS_iff.1 e4
  exact (s242_eq J0 s190 a0 a1 h k).mpr e5
/-- slices.insertionSortOrdered[string] -/
noncomputable def s236G (J : Joins) (c242 : Str → Str → H → (Bool → H → Prop) → Prop) (a0 : AV) (a1 : Int) (a2 : Int) (h : H) (k : H → Prop) : Prop :=
fI (wrapF .i64 (Int.add a1 (Int.ofNat 1))) fun x1 =>
J.lp (α := AV × AV × AV × AV × Unit) (fun r5 v2 d3 h4 =>
asI .i64 v2.2.2.2.1 fun x6 =>
asI .i64 v2.2.2.1 fun x7 =>
fB (ltI x6 x7) fun b8 =>
br b8 (
J.lp (α := AV × AV × AV × AV × AV × Unit) (fun r12 v9 d10 h11 =>
asI .i64 v9.2.2.2.2.1 fun x13 =>
asI .i64 v9.2.1 fun x14 =>
fB (ltI x14 x13) fun b15 =>
J.jn (fun v16 h17 =>
J.jn (fun v19 h20 =>
J.jn (fun v22 h23 =>
J.jb (fun b26 v27 =>
J.jn (fun v30 h31 =>
J.jn (fun v33 h34 =>
J.jn (fun v36 h37 =>
J.jn (fun v41 h42 =>
J.jb (fun b45 v46 =>
J.jn (fun v49 h50 =>
pickB (AV.bool b15) v49 (AV.bool false) fun b56 =>
br b56 (
asI .i64 v9.2.2.2.2.1 fun x57 =>
fI (wrapF .i64 (Int.sub x57 (Int.ofNat 1))) fun x58 =>
asI .i64 v9.2.2.2.2.1 fun x59 =>
fI (wrapF .i64 (Int.sub x59 (Int.ofNat 1))) fun x60 =>
ixK 1 v9.1 (AV.int .i64 x60) fun p61 =>
ldS p61 h50 fun s62 =>
ixK 1 v9.1 v9.2.2.2.2.1 fun p63 =>
ldS p63 h50 fun s64 =>
ixK 1 v9.1 v9.2.2.2.2.1 fun p65 =>
stV p65 (AV.str s62) h50 fun h66 =>
ixK 1 v9.1 (AV.int .i64 x58) fun p67 =>
stV p67 (AV.str s64) h66 fun h68 =>
asI .i64 v9.2.2.2.2.1 fun x69 =>
fI (wrapF .i64 (Int.sub x69 (Int.ofNat 1))) fun x70 =>
r12 (v9.1, v9.2.1, v9.2.2.1, v9.2.2.2.1, (AV.int .i64 x70), ()) d10 h68) (
asI .i64 v9.2.2.2.1 fun x71 =>
fI (wrapF .i64 (Int.add x71 (Int.ofNat 1))) fun x72 =>
r5 (v9.1, v9.2.1, v9.2.2.1, (AV.int .i64 x72), ()) d10 h50)) fun j51 =>
br b15 (
asS v27 fun s53 =>
asS v46 fun s54 =>
c242 s53 s54 h42 fun b55 h52 =>
j51 (AV.bool b55) h52) (
j51 skipV h42)) fun j47 =>
br b15 (
ldS v41 h42 fun s48 =>
j47 true (AV.str s48)) (
j47 false skipV)) fun j43 =>
br b15 (
ixK 1 v30 v36 fun p44 =>
j43 p44 h37) (
j43 skipV h37)) fun j38 =>
br b15 (
asI .i64 v33 fun x39 =>
fI (wrapF .i64 (Int.sub x39 (Int.ofNat 1))) fun x40 =>
j38 (AV.int .i64 x40) h34) (
j38 skipV h34)) fun j35 =>
br b15 (
j35 v9.2.2.2.2.1 h31) (
j35 skipV h31)) fun j32 =>
br b15 (
j32 v9.1 h23) (
j32 skipV h23)) fun j28 =>
br b15 (
ldS v22 h23 fun s29 =>
j28 true (AV.str s29)) (
j28 false skipV)) fun j24 =>
br b15 (
ixK 1 v16 v19 fun p25 =>
j24 p25 h20) (
j24 skipV h20)) fun j21 =>
br b15 (
j21 v9.2.2.2.2.1 h17) (
j21 skipV h17)) fun j18 =>
br b15 (
j18 v9.1 h11) (
j18 skipV h11)) (v2.1, v2.2.1, v2.2.2.1, v2.2.2.2.1, v2.2.2.2.1, ()) d3 h4) (
leaveK (gam J [(242, w242 c242)]) d3 h4 fun h73 =>
k  h73)) (a0, (AV.int .i64 a1), (AV.int .i64 a2), (AV.int .i64 x1), ()) [] h
noncomputable def s236 : AV → Int → Int → H → (H → Prop) → Prop := s236G J0 s242
noncomputable def w236 (c : AV → Int → Int → H → (H → Prop) → Prop) : Fun := fun xs h k => arg xs fun a0 xs => arg xs fun a1 xs => arg xs fun a2 xs => noArg xs <| asI .i64 a1 fun a1 => asI .i64 a2 fun a2 => c a0 a1 a2 h fun  h => k (.tuple []) h
theorem s236_eq (J : Joins) (c242 : Str → Str → H → (Bool → H → Prop) → Prop) (a0 : AV) (a1 : Int) (a2 : Int) (h : H) (k : AV → H → Prop) : denF ty (gam J [(242, w242 c242)]) Tryz.f236 [a0, (.int .i64 a1), (.int .i64 a2)] h k = s236G J c242 a0 a1 a2 h (fun  h => k (.tuple []) h) := by kernel_rfl
noncomputable def g236 : Fun := w236 s236
theorem g236_ok : FunOk Tryz.prog 236 g236 := (fun_ok ty_ok mixed (gam_ok (J := J0) (tab_cons g242_ok (tab_nil fls_fun))) Tryz.func236 (fun args w => by simp)).imp fun xs h k e0 => by
  obtain ⟨a0, xs0, rfl, e1⟩ := arg_imp e0
  obtain ⟨a1, xs1, rfl, e2⟩ := arg_imp e1
  obtain ⟨a2, xs2, rfl, e3⟩ := arg_imp e2
  obtain ⟨rfl, e4⟩ := noArg_imp e3
  obtain ⟨a1, rfl, e5⟩ := asI_iff.1 e4
  obtain ⟨a2, rfl, e6⟩ := asI_iff.1 e5
  exact (s236_eq J0 s242 a0 a1 a2 h k).mpr e6
/-- slices.pdqsortOrdered[string] -/
noncomputable def s218G (J : Joins) (c236 : AV → Int → Int → H → (H → Prop) → Prop) (c242 : Str → Str → H → (Bool → H → Prop) → Prop) (a0 : AV) (a1 : Int) (a2 : Int) (a3 : Int) (h : H) (k : H → Prop) : Prop :=
J.lp (α := AV × AV × AV × AV × AV × AV × Unit) (fun r4 v1 d2 h3 =>
asI .i64 v1.2.2.1 fun x5 =>
asI .i64 v1.2.1 fun x6 =>
fI (wrapF .i64 (Int.sub x5 x6)) fun x7 =>
fB (Bool.not (ltI (Int.ofNat 12) x7)) fun b8 =>
br b8 (
asI .i64 v1.2.1 fun x10 =>
asI .i64 v1.2.2.1 fun x11 =>
c236 v1.1 x10 x11 h3 fun  h9 =>
leaveK (gam J [(236, w236 c236), (242, w242 c242)]) d2 h9 fun h12 =>
k  h12) (
asI .i64 v1.2.2.2.1 fun x13 =>
fB (eqI x13 (Int.ofNat 0)) fun b14 =>
br b14 (
False) (
J.jd (α := AV × AV × AV × AV × AV × AV × AV × Unit) (fun v15 d16 h17 =>
False) fun j18 =>
asB v1.2.2.2.2.1 fun b19 =>
fB (Bool.not b19) fun b20 =>
br b20 (
False) (
j18 (v1.1, v1.2.1, v1.2.2.1, v1.2.2.2.1, v1.2.2.2.2.1, v1.2.2.2.2.2.1, (AV.int .i64 x7), ()) d2 h3)))) (a0, (AV.int .i64 a1), (AV.int .i64 a2), (AV.int .i64 a3), (AV.bool true), (AV.bool true), ()) [] h
noncomputable def s218 : AV → Int → Int → Int → H → (H → Prop) → Prop := s218G J0 s236 s242
noncomputable def w218 (c : AV → Int → Int → Int → H → (H → Prop) → Prop) : Fun := fun xs h k => arg xs fun a0 xs => arg xs fun a1 xs => arg xs fun a2 xs => arg xs fun a3 xs => noArg xs <| asI .i64 a1 fun a1 => asI .i64 a2 fun a2 => asI .i64 a3 fun a3 => c a0 a1 a2 a3 h fun  h => k (.tuple []) h
theorem s218_eq (J : Joins) (c236 : AV → Int → Int → H → (H → Prop) → Prop) (c242 : Str → Str → H → (Bool → H → Prop) → Prop) (a0 : AV) (a1 : Int) (a2 : Int) (a3 : Int) (h : H) (k : AV → H → Prop) : denF ty (gam J [(236, w236 c236), (242, w242 c242)]) Tryz.f218 [a0, (.int .i64 a1), (.int .i64 a2), (.int .i64 a3)] h k = s218G J c236 c242 a0 a1 a2 a3 h (fun  h => k (.tuple []) h) := by kernel_rfl
noncomputable def g218 : Fun := w218 s218
theorem g218_ok : FunOk Tryz.prog 218 g218 := (fun_ok ty_ok mixed (gam_ok (J := J0) (tab_cons g236_ok (tab_cons g242_ok (tab_nil fls_fun)))) Tryz.func218 (fun args w => by simp)).imp fun xs h k e0 => by
  obtain ⟨a0, xs0, rfl, e1⟩ := arg_imp e0
  obtain ⟨a1, xs1, rfl, e2⟩ := arg_imp e1
  obtain ⟨a2, xs2, rfl, e3⟩ := arg_imp e2
  obtain ⟨a3, xs3, rfl, e4⟩ := arg_imp e3
  obtain ⟨rfl, e5⟩ := noArg_imp e4
  obtain ⟨a1, rfl, e6⟩ := asI_iff.1 e5
  obtain ⟨a2, rfl, e7⟩ := asI_iff.1 e6
  obtain ⟨a3, rfl, e8⟩ := asI_iff.1 e7
  exact (s218_eq J0 s236 s242 a0 a1 a2 a3 h k).mpr e8
/-- math/bits.Len32 -/
noncomputable def g245 : Fun := denFS ty (gam J0 []) Tryz.f245
theorem g245_ok : FunOk Tryz.prog 245 g245 := fun_okS ty_ok mixed (gam_ok (J := J0) (tab_nil fls_fun)) Tryz.func245 (fun args w => by simp)
/-- math/bits.Len -/
noncomputable def s219G (J : Joins) (c245 : Fun) (c246 : Int → H → (Int → H → Prop) → Prop) (a0 : Int) (h : H) (k : Int → H → Prop) : Prop :=
br false (
fI (wrapF .u32 a0) fun x1 =>
c245 [(AV.int .u32 x1)] h fun v2 h3 =>
asI .i64 v2 fun x4 =>
k x4 h3) (
c246 a0 h fun x6 h5 =>
k x6 h5)
noncomputable def s219 : Int → H → (Int → H → Prop) → Prop := s219G J0 g245 s246
noncomputable def w219 (c : Int → H → (Int → H → Prop) → Prop) : Fun := fun xs h k => arg xs fun a0 xs => noArg xs <| asI .u64 a0 fun a0 => c a0 h fun r0 h => k (.int .i64 r0) h
theorem s219_eq (J : Joins) (c245 : Fun) (c246 : Int → H → (Int → H → Prop) → Prop) (a0 : Int) (h : H) (k : AV → H → Prop) : denF ty (gam J [(245, c245), (246, w246 c246)]) Tryz.f219 [(.int .u64 a0)] h k = s219G J c245 c246 a0 h (fun r0 h => k (.int .i64 r0) h) := by kernel_rfl
noncomputable def g219 : Fun := w219 s219
theorem g219_ok : FunOk Tryz.prog 219 g219 := (fun_ok ty_ok mixed (gam_ok (J := J0) (tab_cons g245_ok (tab_cons g246_ok (tab_nil fls_fun)))) Tryz.func219 (fun args w => by simp)).imp fun xs h k e0 => by
  obtain ⟨a0, xs0, rfl, e1⟩ := arg_imp e0
  obtain ⟨rfl, e2⟩ := noArg_imp e1
  obtain ⟨a0, rfl, e3⟩ := asI_iff.1 e2
  exact (s219_eq J0 g245 s246 a0 h k).mpr e3
/-- slices.Sort[[]string,string] -/
noncomputable def s183G (J : Joins) (c218 : AV → Int → Int → Int → H → (H → Prop) → Prop) (c219 : Int → H → (Int → H → Prop) → Prop) (a0 : AV) (h : H) (k : H → Prop) : Prop :=
lenK a0 fun x1 =>
fI (wrapF .u64 (Int.ofNat x1)) fun x2 =>
c219 x2 h fun x4 h3 =>
c218 a0 (Int.ofNat 0) (Int.ofNat x1) x4 h3 fun  h5 =>
k  h5
noncomputable def s183 : AV → H → (H → Prop) → Prop := s183G J0 s218 s219
noncomputable def w183 (c : AV → H → (H → Prop) → Prop) : Fun := fun xs h k => arg xs fun a0 xs => noArg xs <| c a0 h fun  h => k (.tuple []) h
theorem s183_eq (J : Joins) (c218 : AV → Int → Int → Int → H → (H → Prop) → Prop) (c219 : Int → H → (Int → H → Prop) → Prop) (a0 : AV) (h : H) (k : AV → H → Prop) : denF ty (gam J [(218, w218 c218), (219, w219 c219)]) Tryz.f183 [a0] h k = s183G J c218 c219 a0 h (fun  h => k (.tuple []) h) := by kernel_rfl
noncomputable def g183 : Fun := w183 s183
theorem g183_ok : FunOk Tryz.prog 183 g183 := (fun_ok ty_ok mixed (gam_ok (J := J0) (tab_cons g218_ok (tab_cons g219_ok (tab_nil fls_fun)))) Tryz.func183 (fun args w => by simp)).imp fun xs h k e0 => by
  obtain ⟨a0, xs0, rfl, e1⟩ := arg_imp e0
  obtain ⟨rfl, e2⟩ := noArg_imp e1
  exact (s183_eq J0 s218 s219 a0 h k).mpr e2
/-- slices.Sorted[string] -/
noncomputable def s124G (J : Joins) (c182 : AV → H → (AV → H → Prop) → Prop) (c183 : AV → H → (H → Prop) → Prop) (a0 : AV) (h : H) (k : AV → H → Prop) : Prop :=
c182 a0 h fun v2 h1 =>
c183 v2 h1 fun  h3 =>
k v2 h3
noncomputable def s124 : AV → H → (AV → H → Prop) → Prop := s124G J0 s182 s183
noncomputable def w124 (c : AV → H → (AV → H → Prop) → Prop) : Fun := fun xs h k => arg xs fun a0 xs => noArg xs <| c a0 h fun r0 h => k r0 h
theorem s124_eq (J : Joins) (c182 : AV → H → (AV → H → Prop) → Prop) (c183 : AV → H → (H → Prop) → Prop) (a0 : AV) (h : H) (k : AV → H → Prop) : denF ty (gam J [(182, w182 c182), (183, w183 c183)]) Tryz.f124 [a0] h k = s124G J c182 c183 a0 h (fun r0 h => k r0 h) := by kernel_rfl
noncomputable def g124 : Fun := w124 s124
theorem g124_ok : FunOk Tryz.prog 124 g124 := (fun_ok ty_ok mixed (gam_ok (J := J0) (tab_cons g182_ok (tab_cons g183_ok (tab_nil fls_fun)))) Tryz.func124 (fun args w => by simp)).imp fun xs h k e0 => by
  obtain ⟨a0, xs0, rfl, e1⟩ := arg_imp e0
  obtain ⟨rfl, e2⟩ := noArg_imp e1
  exact (s124_eq J0 s182 s183 a0 h k).mpr e2
end Go.Proofs.YtfbdniomnnpemaaGreatDoor
