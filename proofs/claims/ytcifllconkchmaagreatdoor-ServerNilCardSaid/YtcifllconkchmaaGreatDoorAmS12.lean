/- Functions as they are reckoned. MADE BY PROGRAM (wip/tools/shal.py). -/
import Derived.Test.YtcifllconkchmaaGreatDoorAmS11
namespace Go.Proofs.YtcifllconkchmaaGreatDoor
open Go Go.Am
set_option maxRecDepth 100000
set_option linter.all false
/-- slices.Clone[[]int,int] -/
noncomputable def g132 : Fun := denFS ty (gam J0 []) Tryz.f132
theorem g132_ok : FunOk Tryz.prog 132 g132 := fun_okS ty_ok mixed (gam_ok (J := J0) (tab_nil fls_fun)) Tryz.func132 (fun args w => by simp)
/-- (*stagepost/wal.Wal).begin -/
noncomputable def g184 : Fun := denFS ty (gam J0 [(186, g186), (190, g190), (193, g193), (278, g278)]) Tryz.f184
theorem g184_ok : FunOk Tryz.prog 184 g184 := fun_okS ty_ok mixed (gam_ok (J := J0) (tab_cons g186_ok (tab_cons g190_ok (tab_cons g193_ok (tab_cons g278_ok (tab_nil fls_fun)))))) Tryz.func184 (fun args w => by simp)
/-- stagepost/wal.held -/
noncomputable def g229 : Fun := denFS ty (gam J0 [(130, g130), (278, g278)]) Tryz.f229
theorem g229_ok : FunOk Tryz.prog 229 g229 := fun_okS ty_ok mixed (gam_ok (J := J0) (tab_cons g130_ok (tab_cons g278_ok (tab_nil fls_fun)))) Tryz.func229 (fun args w => by simp)
/-- stagepost/wal.Open -/
noncomputable def g134 : Fun := denFS ty (gam J0 [(184, g184), (228, g228), (229, g229)]) Tryz.f134
theorem g134_ok : FunOk Tryz.prog 134 g134 := fun_okS ty_ok mixed (gam_ok (J := J0) (tab_cons g184_ok (tab_cons g228_ok (tab_cons g229_ok (tab_nil fls_fun))))) Tryz.func134 (fun args w => by simp)
/-- maps.Keys[map[string]int,string,int]$1 -/
noncomputable def s332G (J : Joins) (cd : Code → Ks → List AV → List Dfr → H → Prop) (a0 : AV) (a1 : AV) (h : H) (k : H → Prop) : Prop :=
ldV a1 h fun v1 =>
aRangeK v1 h fun v2 h3 =>
J.lp (α := AV × AV × Unit) (fun r7 v4 d5 h6 =>
aNext v4.2.1 h6 fun v8 h9 =>
asTup v8 fun l10 =>
op' (lgetO l10 0) fun v11 =>
asB v11 fun b12 =>
br b12 (
op' (aEntry v4.2.1 h9) fun v13 =>
asTup v13 fun l14 =>
op' (lgetO l14 0) fun v15 =>
asS v15 fun s16 =>
callK (gamI J [] [] cd) v4.1 [(AV.str s16)] h9 fun v17 h18 =>
asB v17 fun b19 =>
fB (Bool.not b19) fun b20 =>
br b20 (
leaveK (gamI J [] [] cd) d5 h18 fun h21 =>
k  h21) (
r7 (v4.1, v4.2.1, ()) d5 h18)) (
leaveK (gamI J [] [] cd) d5 h9 fun h22 =>
k  h22)) (a0, v2, ()) [] h3
noncomputable def s332 : AV → AV → H → (H → Prop) → Prop := s332G J0  noCode
noncomputable def w332 (c : AV → AV → H → (H → Prop) → Prop) : Fun := fun xs h k => arg xs fun a0 xs => arg xs fun a1 xs => noArg xs <| c a0 a1 h fun  h => k (.tuple []) h
theorem s332_eq (J : Joins) (cd : Code → Ks → List AV → List Dfr → H → Prop) (a0 : AV) (a1 : AV) (h : H) (k : AV → H → Prop) : denF ty (gamI J [] [] cd) Tryz.f332 [a0, a1] h k = s332G J  cd a0 a1 h (fun  h => k (.tuple []) h) := by kernel_rfl
noncomputable def g332 : Fun := w332 s332
theorem g332_ok : FunOk Tryz.prog 332 g332 := (fun_ok ty_ok mixed (gamI_ok (J := J0) (tab_nil fls_fun) (tab_nil fls_it) noCode_ok) Tryz.func332 (fun args w => by simp)).imp fun xs h k e0 => by
  obtain ⟨a0, xs0, rfl, e1⟩ := arg_imp e0
  obtain ⟨a1, xs1, rfl, e2⟩ := arg_imp e1
  obtain ⟨rfl, e3⟩ := noArg_imp e2
  exact (s332_eq J0  noCode a0 a1 h k).mpr e3
/-- function 332 as function 378 ranges over it -/
noncomputable def s332_378 : AV → AV → H → (H → Prop) → Prop := s332G J0  (denR ty (gamI J0 [] [] noCode))
theorem i332_378_ok : ItOk Tryz.prog 332 (w332 s332_378) := (it_ok ty_ok mixed (gamI_ok (J := J0) (tab_nil fls_fun) (tab_nil fls_it) (code_ok ty_ok mixed (gamI_ok (J := J0) (tab_nil fls_fun) (tab_nil fls_it) noCode_ok))) Tryz.func332 (fun args w => by simp)).imp fun xs h k e0 => by
  obtain ⟨a0, xs0, rfl, e1⟩ := arg_imp e0
  obtain ⟨a1, xs1, rfl, e2⟩ := arg_imp e1
  obtain ⟨rfl, e3⟩ := noArg_imp e2
  exact (s332_eq J0  (denR ty (gamI J0 [] [] noCode)) a0 a1 h k).mpr e3
/-- slices.AppendSeq[[]string,string] -/
noncomputable def s378G (J : Joins) (i332 : AV → AV → H → (H → Prop) → Prop) (a0 : AV) (a1 : AV) (h : H) (k : AV → H → Prop) : Prop :=
ck (isOne a0) (
pushK (.cells false 39 [a0]) h fun n1 h2 =>
J.jd (α := AV × Unit) (fun v3 d4 h5 =>
ldV v3.1 h5 fun v7 =>
leaveK (gamI J [] [(332, w332 i332)] noCode) d4 h5 fun h8 =>
k v7 h8) fun j6 =>
rfK (gamI J [] [(332, w332 i332)] noCode) a1 [7] (rfAt Tryz.f378 0) [a0, a1, (AV.ptr n1 0), AV.junk, AV.nils, AV.junk, a1, AV.junk, AV.junk, AV.junk, AV.junk, AV.junk, AV.junk] h2 fun n9 n10 h11 =>
endR n9 n10 (fun d12 h13 =>
j6 ((AV.ptr n1 0), ()) d12 h13) (fun d12 h13 =>
leaveK (gamI J [] [(332, w332 i332)] noCode) d12 h13 fun h15 =>
k AV.nils h15) (fun i14 d12 h13 =>
exB (Nat.beq i14 0) (fun d12 h13 =>
j6 ((AV.ptr n1 0), ()) d12 h13) (fun d12 h13 =>
False) d12 h13) [] h11)
noncomputable def s378 : AV → AV → H → (AV → H → Prop) → Prop := s378G J0  s332_378
noncomputable def w378 (c : AV → AV → H → (AV → H → Prop) → Prop) : Fun := fun xs h k => arg xs fun a0 xs => arg xs fun a1 xs => noArg xs <| c a0 a1 h fun r0 h => k r0 h
theorem s378_eq (J : Joins) (i332 : AV → AV → H → (H → Prop) → Prop) (a0 : AV) (a1 : AV) (h : H) (k : AV → H → Prop) : denF ty (gamI J [] [(332, w332 i332)] noCode) Tryz.f378 [a0, a1] h k = s378G J  i332 a0 a1 h (fun r0 h => k r0 h) := by kernel_rfl
noncomputable def g378 : Fun := w378 s378
theorem g378_ok : FunOk Tryz.prog 378 g378 := (fun_ok ty_ok mixed (gamI_ok (J := J0) (tab_nil fls_fun) (tab_cons i332_378_ok (tab_nil fls_it)) noCode_ok) Tryz.func378 (fun args w => by simp)).imp fun xs h k e0 => by
  obtain ⟨a0, xs0, rfl, e1⟩ := arg_imp e0
  obtain ⟨a1, xs1, rfl, e2⟩ := arg_imp e1
  obtain ⟨rfl, e3⟩ := noArg_imp e2
  exact (s378_eq J0  s332_378 a0 a1 h k).mpr e3
/-- slices.Collect[string] -/
noncomputable def s330G (J : Joins) (c378 : AV → AV → H → (AV → H → Prop) → Prop) (a0 : AV) (h : H) (k : AV → H → Prop) : Prop :=
c378 AV.nils a0 h fun v2 h1 =>
k v2 h1
noncomputable def s330 : AV → H → (AV → H → Prop) → Prop := s330G J0 s378
noncomputable def w330 (c : AV → H → (AV → H → Prop) → Prop) : Fun := fun xs h k => arg xs fun a0 xs => noArg xs <| c a0 h fun r0 h => k r0 h
theorem s330_eq (J : Joins) (c378 : AV → AV → H → (AV → H → Prop) → Prop) (a0 : AV) (h : H) (k : AV → H → Prop) : denF ty (gam J [(378, w378 c378)]) Tryz.f330 [a0] h k = s330G J c378 a0 h (fun r0 h => k r0 h) := by kernel_rfl
noncomputable def g330 : Fun := w330 s330
theorem g330_ok : FunOk Tryz.prog 330 g330 := (fun_ok ty_ok mixed (gam_ok (J := J0) (tab_cons g378_ok (tab_nil fls_fun))) Tryz.func330 (fun args w => by simp)).imp fun xs h k e0 => by
  obtain ⟨a0, xs0, rfl, e1⟩ := arg_imp e0
  obtain ⟨rfl, e2⟩ := noArg_imp e1
  exact (s330_eq J0 s378 a0 h k).mpr e2
/-- slices.insertionSortOrdered[string] -/
noncomputable def s404G (J : Joins) (c390 : Str → Str → H → (Bool → H → Prop) → Prop) (a0 : AV) (a1 : Int) (a2 : Int) (h : H) (k : H → Prop) : Prop :=
fI (wrapF .i64 (Int.add a1 (Int.ofNat 1))) fun x1 =>
J.lp (α := AV × AV × AV × AV × Unit) (fun r5 v2 d3 h4 =>
asI .i64 v2.2.2.2.1 fun x6 =>
asI .i64 v2.2.2.1 fun x7 =>
fB (ltI x6 x7) fun b8 =>
br b8 (
J.lp (α := AV × AV × AV × AV × AV × Unit) (fun r12 v9 d10 h11 =>
asI .i64 v9.2.2.2.2.1 fun x13 =>
asI .i64 v9.2.1 fun x14 =>
fB (ltI x14 x13) fun b15 =>
J.jn (fun v16 h17 =>
J.jn (fun v19 h20 =>
J.jn (fun v22 h23 =>
J.jb (fun b26 v27 =>
J.jn (fun v30 h31 =>
J.jn (fun v33 h34 =>
J.jn (fun v36 h37 =>
J.jn (fun v41 h42 =>
J.jb (fun b45 v46 =>
J.jn (fun v49 h50 =>
pickB (AV.bool b15) v49 (AV.bool false) fun b56 =>
br b56 (
asI .i64 v9.2.2.2.2.1 fun x57 =>
fI (wrapF .i64 (Int.sub x57 (Int.ofNat 1))) fun x58 =>
asI .i64 v9.2.2.2.2.1 fun x59 =>
fI (wrapF .i64 (Int.sub x59 (Int.ofNat 1))) fun x60 =>
ixK 1 v9.1 (AV.int .i64 x60) fun p61 =>
ldS p61 h50 fun s62 =>
ixK 1 v9.1 v9.2.2.2.2.1 fun p63 =>
ldS p63 h50 fun s64 =>
ixK 1 v9.1 v9.2.2.2.2.1 fun p65 =>
stV p65 (AV.str s62) h50 fun h66 =>
ixK 1 v9.1 (AV.int .i64 x58) fun p67 =>
stV p67 (AV.str s64) h66 fun h68 =>
asI .i64 v9.2.2.2.2.1 fun x69 =>
fI (wrapF .i64 (Int.sub x69 (Int.ofNat 1))) fun x70 =>
r12 (v9.1, v9.2.1, v9.2.2.1, v9.2.2.2.1, (AV.int .i64 x70), ()) d10 h68) (
asI .i64 v9.2.2.2.1 fun x71 =>
fI (wrapF .i64 (Int.add x71 (Int.ofNat 1))) fun x72 =>
r5 (v9.1, v9.2.1, v9.2.2.1, (AV.int .i64 x72), ()) d10 h50)) fun j51 =>
br b15 (
asS v27 fun s53 =>
asS v46 fun s54 =>
c390 s53 s54 h42 fun b55 h52 =>
j51 (AV.bool b55) h52) (
j51 skipV h42)) fun j47 =>
br b15 (
ldS v41 h42 fun s48 =>
j47 true (AV.str s48)) (
j47 false skipV)) fun j43 =>
br b15 (
ixK 1 v30 v36 fun p44 =>
j43 p44 h37) (
j43 skipV h37)) fun j38 =>
br b15 (
asI .i64 v33 fun x39 =>
fI (wrapF .i64 (Int.sub x39 (Int.ofNat 1))) fun x40 =>
j38 (AV.int .i64 x40) h34) (
j38 skipV h34)) fun j35 =>
br b15 (
j35 v9.2.2.2.2.1 h31) (
j35 skipV h31)) fun j32 =>
br b15 (
j32 v9.1 h23) (
j32 skipV h23)) fun j28 =>
br b15 (
ldS v22 h23 fun s29 =>
j28 true (AV.str s29)) (
j28 false skipV)) fun j24 =>
br b15 (
ixK 1 v16 v19 fun p25 =>
j24 p25 h20) (
j24 skipV h20)) fun j21 =>
br b15 (
j21 v9.2.2.2.2.1 h17) (
j21 skipV h17)) fun j18 =>
br b15 (
j18 v9.1 h11) (
j18 skipV h11)) (v2.1, v2.2.1, v2.2.2.1, v2.2.2.2.1, v2.2.2.2.1, ()) d3 h4) (
leaveK (gam J [(390, w390 c390)]) d3 h4 fun h73 =>
k  h73)) (a0, (AV.int .i64 a1), (AV.int .i64 a2), (AV.int .i64 x1), ()) [] h
noncomputable def s404 : AV → Int → Int → H → (H → Prop) → Prop := s404G J0 s390
noncomputable def w404 (c : AV → Int → Int → H → (H → Prop) → Prop) : Fun := fun xs h k => arg xs fun a0 xs => arg xs fun a1 xs => arg xs fun a2 xs => noArg xs <| asI .i64 a1 fun a1 => asI .i64 a2 fun a2 => c a0 a1 a2 h fun  h => k (.tuple []) h
theorem s404_eq (J : Joins) (c390 : Str → Str → H → (Bool → H → Prop) → Prop) (a0 : AV) (a1 : Int) (a2 : Int) (h : H) (k : AV → H → Prop) : denF ty (gam J [(390, w390 c390)]) Tryz.f404 [a0, (.int .i64 a1), (.int .i64 a2)] h k = s404G J c390 a0 a1 a2 h (fun  h => k (.tuple []) h) := by kernel_rfl
noncomputable def g404 : Fun := w404 s404
theorem g404_ok : FunOk Tryz.prog 404 g404 := (fun_ok ty_ok mixed (gam_ok (J := J0) (tab_cons g390_ok (tab_nil fls_fun))) Tryz.func404 (fun args w => by simp)).imp fun xs h k e0 => by
  obtain ⟨a0, xs0, rfl, e1⟩ := arg_imp e0
  obtain ⟨a1, xs1, rfl, e2⟩ := arg_imp e1
  obtain ⟨a2, xs2, rfl, e3⟩ := arg_imp e2
  obtain ⟨rfl, e4⟩ := noArg_imp e3
  obtain ⟨a1, rfl, e5⟩ := asI_iff.1 e4
  obtain ⟨a2, rfl, e6⟩ := asI_iff.1 e5
  exact (s404_eq J0 s390 a0 a1 a2 h k).mpr e6
/-- slices.pdqsortOrdered[string] -/
noncomputable def s379G (J : Joins) (c390 : Str → Str → H → (Bool → H → Prop) → Prop) (c404 : AV → Int → Int → H → (H → Prop) → Prop) (a0 : AV) (a1 : Int) (a2 : Int) (a3 : Int) (h : H) (k : H → Prop) : Prop :=
J.lp (α := AV × AV × AV × AV × AV × AV × Unit) (fun r4 v1 d2 h3 =>
asI .i64 v1.2.2.1 fun x5 =>
asI .i64 v1.2.1 fun x6 =>
fI (wrapF .i64 (Int.sub x5 x6)) fun x7 =>
fB (Bool.not (ltI (Int.ofNat 12) x7)) fun b8 =>
br b8 (
asI .i64 v1.2.1 fun x10 =>
asI .i64 v1.2.2.1 fun x11 =>
c404 v1.1 x10 x11 h3 fun  h9 =>
leaveK (gam J [(390, w390 c390), (404, w404 c404)]) d2 h9 fun h12 =>
k  h12) (
asI .i64 v1.2.2.2.1 fun x13 =>
fB (eqI x13 (Int.ofNat 0)) fun b14 =>
br b14 (
False) (
J.jd (α := AV × AV × AV × AV × AV × AV × AV × Unit) (fun v15 d16 h17 =>
False) fun j18 =>
asB v1.2.2.2.2.1 fun b19 =>
fB (Bool.not b19) fun b20 =>
br b20 (
False) (
j18 (v1.1, v1.2.1, v1.2.2.1, v1.2.2.2.1, v1.2.2.2.2.1, v1.2.2.2.2.2.1, (AV.int .i64 x7), ()) d2 h3)))) (a0, (AV.int .i64 a1), (AV.int .i64 a2), (AV.int .i64 a3), (AV.bool true), (AV.bool true), ()) [] h
noncomputable def s379 : AV → Int → Int → Int → H → (H → Prop) → Prop := s379G J0 s390 s404
noncomputable def w379 (c : AV → Int → Int → Int → H → (H → Prop) → Prop) : Fun := fun xs h k => arg xs fun a0 xs => arg xs fun a1 xs => arg xs fun a2 xs => arg xs fun a3 xs => noArg xs <| asI .i64 a1 fun a1 => asI .i64 a2 fun a2 => asI .i64 a3 fun a3 => c a0 a1 a2 a3 h fun  h => k (.tuple []) h
theorem s379_eq (J : Joins) (c390 : Str → Str → H → (Bool → H → Prop) → Prop) (c404 : AV → Int → Int → H → (H → Prop) → Prop) (a0 : AV) (a1 : Int) (a2 : Int) (a3 : Int) (h : H) (k : AV → H → Prop) : denF ty (gam J [(390, w390 c390), (404, w404 c404)]) Tryz.f379 [a0, (.int .i64 a1), (.int .i64 a2), (.int .i64 a3)] h k = s379G J c390 c404 a0 a1 a2 a3 h (fun  h => k (.tuple []) h) := by kernel_rfl
noncomputable def g379 : Fun := w379 s379
theorem g379_ok : FunOk Tryz.prog 379 g379 := (fun_ok ty_ok mixed (gam_ok (J := J0) (tab_cons g390_ok (tab_cons g404_ok (tab_nil fls_fun)))) Tryz.func379 (fun args w => by simp)).imp fun xs h k e0 => by
  obtain ⟨a0, xs0, rfl, e1⟩ := arg_imp e0
  obtain ⟨a1, xs1, rfl, e2⟩ := arg_imp e1
  obtain ⟨a2, xs2, rfl, e3⟩ := arg_imp e2
  obtain ⟨a3, xs3, rfl, e4⟩ := arg_imp e3
  obtain ⟨rfl, e5⟩ := noArg_imp e4
  obtain ⟨a1, rfl, e6⟩ := asI_iff.1 e5
  obtain ⟨a2, rfl, e7⟩ := asI_iff.1 e6
  obtain ⟨a3, rfl, e8⟩ := asI_iff.1 e7
  exact (s379_eq J0 s390 s404 a0 a1 a2 a3 h k).mpr e8
/-- math/bits.Len32 -/
noncomputable def g412 : Fun := denFS ty (gam J0 []) Tryz.f412
theorem g412_ok : FunOk Tryz.prog 412 g412 := fun_okS ty_ok mixed (gam_ok (J := J0) (tab_nil fls_fun)) Tryz.func412 (fun args w => by simp)
/-- math/bits.Len -/
noncomputable def s380G (J : Joins) (c412 : Fun) (c413 : Int → H → (Int → H → Prop) → Prop) (a0 : Int) (h : H) (k : Int → H → Prop) : Prop :=
br false (
fI (wrapF .u32 a0) fun x1 =>
c412 [(AV.int .u32 x1)] h fun v2 h3 =>
asI .i64 v2 fun x4 =>
k x4 h3) (
c413 a0 h fun x6 h5 =>
k x6 h5)
noncomputable def s380 : Int → H → (Int → H → Prop) → Prop := s380G J0 g412 s413
noncomputable def w380 (c : Int → H → (Int → H → Prop) → Prop) : Fun := fun xs h k => arg xs fun a0 xs => noArg xs <| asI .u64 a0 fun a0 => c a0 h fun r0 h => k (.int .i64 r0) h
theorem s380_eq (J : Joins) (c412 : Fun) (c413 : Int → H → (Int → H → Prop) → Prop) (a0 : Int) (h : H) (k : AV → H → Prop) : denF ty (gam J [(412, c412), (413, w413 c413)]) Tryz.f380 [(.int .u64 a0)] h k = s380G J c412 c413 a0 h (fun r0 h => k (.int .i64 r0) h) := by kernel_rfl
noncomputable def g380 : Fun := w380 s380
theorem g380_ok : FunOk Tryz.prog 380 g380 := (fun_ok ty_ok mixed (gam_ok (J := J0) (tab_cons g412_ok (tab_cons g413_ok (tab_nil fls_fun)))) Tryz.func380 (fun args w => by simp)).imp fun xs h k e0 => by
  obtain ⟨a0, xs0, rfl, e1⟩ := arg_imp e0
  obtain ⟨rfl, e2⟩ := noArg_imp e1
  obtain ⟨a0, rfl, e3⟩ := asI_iff.1 e2
  exact (s380_eq J0 g412 s413 a0 h k).mpr e3
/-- slices.Sort[[]string,string] -/
noncomputable def s331G (J : Joins) (c379 : AV → Int → Int → Int → H → (H → Prop) → Prop) (c380 : Int → H → (Int → H → Prop) → Prop) (a0 : AV) (h : H) (k : H → Prop) : Prop :=
lenK a0 fun x1 =>
fI (wrapF .u64 (Int.ofNat x1)) fun x2 =>
c380 x2 h fun x4 h3 =>
c379 a0 (Int.ofNat 0) (Int.ofNat x1) x4 h3 fun  h5 =>
k  h5
noncomputable def s331 : AV → H → (H → Prop) → Prop := s331G J0 s379 s380
noncomputable def w331 (c : AV → H → (H → Prop) → Prop) : Fun := fun xs h k => arg xs fun a0 xs => noArg xs <| c a0 h fun  h => k (.tuple []) h
theorem s331_eq (J : Joins) (c379 : AV → Int → Int → Int → H → (H → Prop) → Prop) (c380 : Int → H → (Int → H → Prop) → Prop) (a0 : AV) (h : H) (k : AV → H → Prop) : denF ty (gam J [(379, w379 c379), (380, w380 c380)]) Tryz.f331 [a0] h k = s331G J c379 c380 a0 h (fun  h => k (.tuple []) h) := by kernel_rfl
noncomputable def g331 : Fun := w331 s331
theorem g331_ok : FunOk Tryz.prog 331 g331 := (fun_ok ty_ok mixed (gam_ok (J := J0) (tab_cons g379_ok (tab_cons g380_ok (tab_nil fls_fun)))) Tryz.func331 (fun args w => by simp)).imp fun xs h k e0 => by
  obtain ⟨a0, xs0, rfl, e1⟩ := arg_imp e0
  obtain ⟨rfl, e2⟩ := noArg_imp e1
  exact (s331_eq J0 s379 s380 a0 h k).mpr e2
/-- slices.Sorted[string] -/
noncomputable def s233G (J : Joins) (c330 : AV → H → (AV → H → Prop) → Prop) (c331 : AV → H → (H → Prop) → Prop) (a0 : AV) (h : H) (k : AV → H → Prop) : Prop :=
c330 a0 h fun v2 h1 =>
c331 v2 h1 fun  h3 =>
k v2 h3
noncomputable def s233 : AV → H → (AV → H → Prop) → Prop := s233G J0 s330 s331
noncomputable def w233 (c : AV → H → (AV → H → Prop) → Prop) : Fun := fun xs h k => arg xs fun a0 xs => noArg xs <| c a0 h fun r0 h => k r0 h
theorem s233_eq (J : Joins) (c330 : AV → H → (AV → H → Prop) → Prop) (c331 : AV → H → (H → Prop) → Prop) (a0 : AV) (h : H) (k : AV → H → Prop) : denF ty (gam J [(330, w330 c330), (331, w331 c331)]) Tryz.f233 [a0] h k = s233G J c330 c331 a0 h (fun r0 h => k r0 h) := by kernel_rfl
noncomputable def g233 : Fun := w233 s233
theorem g233_ok : FunOk Tryz.prog 233 g233 := (fun_ok ty_ok mixed (gam_ok (J := J0) (tab_cons g330_ok (tab_cons g331_ok (tab_nil fls_fun)))) Tryz.func233 (fun args w => by simp)).imp fun xs h k e0 => by
  obtain ⟨a0, xs0, rfl, e1⟩ := arg_imp e0
  obtain ⟨rfl, e2⟩ := noArg_imp e1
  exact (s233_eq J0 s330 s331 a0 h k).mpr e2
end Go.Proofs.YtcifllconkchmaaGreatDoor
