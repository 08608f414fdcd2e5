/- Functions as they are reckoned. MADE BY PROGRAM (wip/tools/shal.py). -/
import Derived.Test.YtiejkbmobmgdkaaAmH27
namespace Go.Proofs.Ytiejkbmobmgdkaa
open Go Go.Am
set_option maxRecDepth 100000
set_option linter.all false
/-- slices.Chunk[[]byte,byte]$1 -/
noncomputable def s50G (J : Joins) (cd : Code → Ks → List AV → List Dfr → H → Prop) (a0 : AV) (a1 : AV) (a2 : AV) (h : H) (k : H → Prop) : Prop :=
J.lp (α := AV × AV × AV × AV × Unit) (fun r4 v1 d2 h3 =>
ldV v1.2.1 h3 fun v5 =>
lenK v5 fun x6 =>
asI .i64 v1.2.2.2.1 fun x7 =>
fB (ltI x7 (Int.ofNat x6)) fun b8 =>
br b8 (
ldI .i64 v1.2.2.1 h3 fun x9 =>
ldV v1.2.1 h3 fun v10 =>
slK 1 v10 (some v1.2.2.2.1) none fun v11 =>
lenK v11 fun x12 =>
op' (aMin (AV.int .i64 x9) (AV.int .i64 (Int.ofNat x12))) fun v13 =>
asI .i64 v13 fun x14 =>
ldV v1.2.1 h3 fun v15 =>
asI .i64 v1.2.2.2.1 fun x16 =>
fI (wrapF .i64 (Int.add x16 x14)) fun x17 =>
asI .i64 v1.2.2.2.1 fun x18 =>
fI (wrapF .i64 (Int.add x18 x14)) fun x19 =>
spX (aSlice3 1 v15 (some v1.2.2.2.1) (some (AV.int .i64 x17)) (AV.int .i64 x19)) fun v20 =>
callK (gamI J [] [] cd) v1.1 [v20] h3 fun v21 h22 =>
asB v21 fun b23 =>
fB (Bool.not b23) fun b24 =>
br b24 (
leaveK (gamI J [] [] cd) d2 h22 fun h25 =>
k  h25) (
ldI .i64 v1.2.2.1 h22 fun x26 =>
asI .i64 v1.2.2.2.1 fun x27 =>
fI (wrapF .i64 (Int.add x27 x26)) fun x28 =>
r4 (v1.1, v1.2.1, v1.2.2.1, (AV.int .i64 x28), ()) d2 h22)) (
leaveK (gamI J [] [] cd) d2 h3 fun h29 =>
k  h29)) (a0, a1, a2, (AV.int .i64 (Int.ofNat 0)), ()) [] h
noncomputable def s50 : AV → AV → AV → H → (H → Prop) → Prop := s50G J0  noCode
noncomputable def w50 (c : AV → AV → AV → H → (H → Prop) → Prop) : Fun := fun xs h k => arg xs fun a0 xs => arg xs fun a1 xs => arg xs fun a2 xs => noArg xs <| c a0 a1 a2 h fun  h => k (.tuple []) h
theorem s50_eq (J : Joins) (cd : Code → Ks → List AV → List Dfr → H → Prop) (a0 : AV) (a1 : AV) (a2 : AV) (h : H) (k : AV → H → Prop) : denF ty (gamI J [] [] cd) Try.f50 [a0, a1, a2] h k = s50G J  cd a0 a1 a2 h (fun  h => k (.tuple []) h) := by kernel_rfl
noncomputable def g50 : Fun := w50 s50
theorem g50_ok : FunOk Try.prog 50 g50 := (fun_ok ty_ok mixed (gamI_ok (J := J0) (tab_nil fls_fun) (tab_nil fls_it) noCode_ok) Try.func50 (fun args w => by simp)).imp fun xs h k e0 => by
  obtain ⟨a0, xs0, rfl, e1⟩ := arg_imp e0
  obtain ⟨a1, xs1, rfl, e2⟩ := arg_imp e1
  obtain ⟨a2, xs2, rfl, e3⟩ := arg_imp e2
  obtain ⟨rfl, e4⟩ := noArg_imp e3
  exact (s50_eq J0  noCode a0 a1 a2 h k).mpr e4
/-- slices.Chunk[[]byte,byte] -/
noncomputable def s41G (J : Joins) (c50 : AV → AV → AV → H → (H → Prop) → Prop) (a0 : AV) (a1 : Int) (h : H) (k : AV → H → Prop) : Prop :=
ck (isOne a0) (
pushK (.cells false 31 [a0]) h fun n1 h2 =>
pushK (.cells false 3 [(AV.int .i64 a1)]) h2 fun n3 h4 =>
J.jd (α := AV × AV × Unit) (fun v5 d6 h7 =>
leaveK (gam J [(50, w50 c50)]) d6 h7 fun h9 =>
k (AV.func (.func 50) [] [v5.1, v5.2.1]) h9) fun j8 =>
ldI .i64 (AV.ptr n3 0) h4 fun x10 =>
fB (ltI x10 (Int.ofNat 1)) fun b11 =>
br b11 (
False) (
j8 ((AV.ptr n1 0), (AV.ptr n3 0), ()) [] h4))
noncomputable def s41 : AV → Int → H → (AV → H → Prop) → Prop := s41G J0 s50
noncomputable def w41 (c : AV → Int → H → (AV → H → Prop) → Prop) : Fun := fun xs h k => arg xs fun a0 xs => arg xs fun a1 xs => noArg xs <| asI .i64 a1 fun a1 => c a0 a1 h fun r0 h => k r0 h
theorem s41_eq (J : Joins) (c50 : AV → AV → AV → H → (H → Prop) → Prop) (a0 : AV) (a1 : Int) (h : H) (k : AV → H → Prop) : denF ty (gam J [(50, w50 c50)]) Try.f41 [a0, (.int .i64 a1)] h k = s41G J c50 a0 a1 h (fun r0 h => k r0 h) := by kernel_rfl
noncomputable def g41 : Fun := w41 s41
theorem g41_ok : FunOk Try.prog 41 g41 := (fun_ok ty_ok mixed (gam_ok (J := J0) (tab_cons g50_ok (tab_nil fls_fun))) Try.func41 (fun args w => by simp)).imp fun xs h k e0 => by
  obtain ⟨a0, xs0, rfl, e1⟩ := arg_imp e0
  obtain ⟨a1, xs1, rfl, e2⟩ := arg_imp e1
  obtain ⟨rfl, e3⟩ := noArg_imp e2
  obtain ⟨a1, rfl, e4⟩ := asI_iff.1 e3
  exact (s41_eq J0 s50 a0 a1 h k).mpr e4
/-- function 50 as function 16 ranges over it -/
noncomputable def s50_16 : AV → AV → AV → H → (H → Prop) → Prop := s50G J0  (denR ty (gamI J0 [(27, g27'), (36, g36), (39, g39), (41, g41), (42, g42)] [] noCode))
theorem i50_16_ok : ItOk Try.prog 50 (w50 s50_16) := (it_ok ty_ok mixed (gamI_ok (J := J0) (tab_nil fls_fun) (tab_nil fls_it) (code_ok ty_ok mixed (gamI_ok (J := J0) (tab_cons g27'_ok (tab_cons g36_ok (tab_cons g39_ok (tab_cons g41_ok (tab_cons g42_ok (tab_nil fls_fun)))))) (tab_nil fls_it) noCode_ok))) Try.func50 (fun args w => by simp)).imp fun xs h k e0 => by
  obtain ⟨a0, xs0, rfl, e1⟩ := arg_imp e0
  obtain ⟨a1, xs1, rfl, e2⟩ := arg_imp e1
  obtain ⟨a2, xs2, rfl, e3⟩ := arg_imp e2
  obtain ⟨rfl, e4⟩ := noArg_imp e3
  exact (s50_eq J0  (denR ty (gamI J0 [(27, g27'), (36, g36), (39, g39), (41, g41), (42, g42)] [] noCode)) a0 a1 a2 h k).mpr e4
/-- (*stagepost/vfs.FS).Append -/
noncomputable def s16G (J : Joins) (c27 : AV → H → (Int → H → Prop) → Prop) (c36 : AV → AV → H → (Int → H → Prop) → Prop) (c39 : AV → Str → H → (Int → Int → H → Prop) → Prop) (c41 : AV → Int → H → (AV → H → Prop) → Prop) (c42 : AV → H → (AV → H → Prop) → Prop) (i50 : AV → AV → AV → H → (H → Prop) → Prop) (a0 : AV) (a1 : Str) (a2 : AV) (h : H) (k : Int → H → Prop) : Prop :=
ck (isOne a0) (
pushK (.cells false 24 [a0]) h fun n1 h2 =>
pushK (.cells false 25 [(.int .i64 0)]) h2 fun n3 h4 =>
ldV (AV.ptr n1 0) h4 fun v5 =>
c39 v5 a1 h4 fun x7 x8 h6 =>
pushK (.cells false 3 [(.int .i64 0)]) h6 fun n9 h10 =>
stV (AV.ptr n9 0) (AV.int .i64 x7) h10 fun h11 =>
fB (Bool.not (eqI x8 (Int.ofNat 0))) fun b12 =>
br b12 (
stV (AV.ptr n3 0) (AV.int .i64 x8) h11 fun h13 =>
ldI .i64 (AV.ptr n3 0) h13 fun x14 =>
k x14 h13) (
lenK a2 fun x15 =>
ldV (AV.ptr n1 0) h11 fun v16 =>
c27 v16 h11 fun x18 h17 =>
fB (ltI x18 (Int.ofNat x15)) fun b19 =>
br b19 (
stV (AV.ptr n3 0) (AV.int .i64 (Int.ofNat 8)) h17 fun h20 =>
ldI .i64 (AV.ptr n3 0) h20 fun x21 =>
k x21 h20) (
J.jd (α := AV × Unit) (fun v22 d23 h24 =>
stV v22.1 (AV.int .i64 (Int.ofNat 0)) h24 fun h26 =>
leaveK (gamI J [(27, w27 c27), (36, w36 c36), (39, w39 c39), (41, w41 c41), (42, w42 c42)] [(50, w50 i50)] noCode) d23 h26 fun h27 =>
ldI .i64 v22.1 h27 fun x28 =>
k x28 h27) fun j25 =>
c41 a2 (Int.ofNat 64) h17 fun v30 h29 =>
rfK (gamI J [(27, w27 c27), (36, w36 c36), (39, w39 c39), (41, w41 c41), (42, w42 c42)] [(50, w50 i50)] noCode) v30 [27] (rfAt Try.f16 0) [a0, (AV.str a1), a2, (AV.ptr n1 0), AV.junk, AV.junk, (AV.ptr n3 0), (AV.ptr n9 0), (AV.int .i64 x8), AV.junk, AV.junk, (AV.tuple [(AV.int .i64 x7), (AV.int .i64 x8)]), v5, (AV.str a1), (AV.tuple [(AV.int .i64 x7), (AV.int .i64 x8)]), (AV.int .i64 x7), (AV.int .i64 x8), (AV.int .i64 x8), (AV.bool b12), AV.junk, a2, (AV.int .i64 (Int.ofNat x15)), v16, (AV.int .i64 x18), (AV.bool b19), a2, v30, AV.junk, AV.junk, AV.junk, AV.junk, AV.junk, AV.junk, AV.junk, AV.junk, AV.junk, AV.junk] h29 fun n31 n32 h33 =>
endR n31 n32 (fun d34 h35 =>
j25 ((AV.ptr n3 0), ()) d34 h35) (fun d34 h35 =>
leaveK (gamI J [(27, w27 c27), (36, w36 c36), (39, w39 c39), (41, w41 c41), (42, w42 c42)] [(50, w50 i50)] noCode) d34 h35 fun h37 =>
ldI .i64 (AV.ptr n3 0) h37 fun x38 =>
k x38 h37) (fun i36 d34 h35 =>
exB (Nat.beq i36 0) (fun d34 h35 =>
j25 ((AV.ptr n3 0), ()) d34 h35) (fun d34 h35 =>
False) d34 h35) [] h33)))
noncomputable def s16 : AV → Str → AV → H → (Int → H → Prop) → Prop := s16G J0 s27' s36 s39 s41 s42 s50_16
noncomputable def w16 (c : AV → Str → AV → H → (Int → H → Prop) → Prop) : Fun := fun xs h k => arg xs fun a0 xs => arg xs fun a1 xs => arg xs fun a2 xs => noArg xs <| asS a1 fun a1 => c a0 a1 a2 h fun r0 h => k (.int .i64 r0) h
theorem s16_eq (J : Joins) (c27 : AV → H → (Int → H → Prop) → Prop) (c36 : AV → AV → H → (Int → H → Prop) → Prop) (c39 : AV → Str → H → (Int → Int → H → Prop) → Prop) (c41 : AV → Int → H → (AV → H → Prop) → Prop) (c42 : AV → H → (AV → H → Prop) → Prop) (i50 : AV → AV → AV → H → (H → Prop) → Prop) (a0 : AV) (a1 : Str) (a2 : AV) (h : H) (k : AV → H → Prop) : denF ty (gamI J [(27, w27 c27), (36, w36 c36), (39, w39 c39), (41, w41 c41), (42, w42 c42)] [(50, w50 i50)] noCode) Try.f16 [a0, (.str a1), a2] h k = s16G J c27 c36 c39 c41 c42 i50 a0 a1 a2 h (fun r0 h => k (.int .i64 r0) h) := by kernel_rfl
noncomputable def g16 : Fun := w16 s16
theorem g16_ok : FunOk Try.prog 16 g16 := (fun_ok ty_ok mixed (gamI_ok (J := J0) (tab_cons g27'_ok (tab_cons g36_ok (tab_cons g39_ok (tab_cons g41_ok (tab_cons g42_ok (tab_nil fls_fun)))))) (tab_cons i50_16_ok (tab_nil fls_it)) noCode_ok) Try.func16 (fun args w => by simp)).imp fun xs h k e0 => by
  obtain ⟨a0, xs0, rfl, e1⟩ := arg_imp e0
  obtain ⟨a1, xs1, rfl, e2⟩ := arg_imp e1
  obtain ⟨a2, xs2, rfl, e3⟩ := arg_imp e2
  obtain ⟨rfl, e4⟩ := noArg_imp e3
  obtain ⟨a1, rfl, e5⟩ := asS_iff.1 e4
  exact (s16_eq J0 s27' s36 s39 s41 s42 s50_16 a0 a1 a2 h k).mpr e5
/-- (*stagepost/vfs.FS).Crash -/
noncomputable def s17G (J : Joins) (c43 : AV → AV → H → (H → Prop) → Prop) (a0 : AV) (a1 : Int) (a2 : Int) (h : H) (k : Int → H → Prop) : Prop :=
nilB 0 a0 fun b1 =>
J.jn (fun v2 h3 =>
J.jn (fun v5 h6 =>
J.jn (fun v8 h9 =>
J.jn (fun v12 h13 =>
J.jn (fun v16 h17 =>
pickB (AV.bool b1) (AV.bool true) v16 fun b21 =>
br b21 (
k (Int.ofNat 1) h17) (
fB (ltI a1 (Int.ofNat 0)) fun b22 =>
J.jn (fun v23 h24 =>
J.jn (fun v26 h27 =>
pickB (AV.bool b22) (AV.bool true) v26 fun b31 =>
br b31 (
k (Int.ofNat 2) h27) (
J.jd (α := AV × Unit) (fun v32 d33 h34 =>
okNil v32.1 (
faK 2 v32.1 fun p36 =>
stV p36 AV.nils h34 fun h37 =>
okNil v32.1 (
faK 6 v32.1 fun p38 =>
stV p38 (AV.bool false) h37 fun h39 =>
okNil v32.1 (
faK 5 v32.1 fun p40 =>
stV p40 (AV.bool false) h39 fun h41 =>
pushK (.smap []) h41 fun n42 h43 =>
okNil v32.1 (
faK 0 v32.1 fun p44 =>
faK 1 p44 fun p45 =>
ldV p45 h43 fun v46 =>
aRangeK v46 h43 fun v47 h48 =>
J.lp (α := AV × AV × AV × Unit) (fun r52 v49 d50 h51 =>
aNext v49.2.2.1 h51 fun v53 h54 =>
asTup v53 fun l55 =>
op' (lgetO l55 0) fun v56 =>
asB v56 fun b57 =>
br b57 (
op' (aEntry v49.2.2.1 h54) fun v58 =>
asTup v58 fun l59 =>
op' (lgetO l59 1) fun v60 =>
asI .i64 v60 fun x61 =>
okNil v49.1 (
faK 0 v49.1 fun p62 =>
faK 0 p62 fun p63 =>
ldV p63 h54 fun v64 =>
op' (aLookup ty 3 31 false v64 (AV.int .i64 x61) h54) fun v65 =>
op' (mapBlk ty 3 v49.2.1 (AV.int .i64 x61) v65 h54) fun k66 =>
putK k66.1 k66.2 h54 fun h67 =>
r52 (v49.1, v49.2.1, v49.2.2.1, ()) d50 h67)) (
okNil v49.1 (
faK 0 v49.1 fun p68 =>
faK 0 p68 fun p69 =>
stV p69 v49.2.1 h54 fun h70 =>
leaveK (gam J [(43, w43 c43)]) d50 h70 fun h71 =>
k (Int.ofNat 0) h71))) (v32.1, (AV.map n42), v47, ()) d33 h48))))) fun j35 =>
okNil a0 (
faK 2 a0 fun p72 =>
ldV p72 h27 fun v73 =>
lenK v73 fun x74 =>
J.lp (α := AV × AV × AV × AV × AV × AV × Unit) (fun r78 v75 d76 h77 =>
asI .i64 v75.2.2.2.2.2.1 fun x79 =>
asI .i64 v75.2.2.2.2.1 fun x80 =>
fB (ltI x79 x80) fun b81 =>
br b81 (
ixK 5 v75.2.2.2.1 v75.2.2.2.2.2.1 fun p82 =>
ldN 5 p82 h77 fun l83 =>
pushK (.cells false 71 [(.int .i64 0), (.str ⟨0, 0⟩), (.str ⟨0, 0⟩), (.int .i64 0), (.nils)]) h77 fun n84 h85 =>
stN 5 (AV.ptr n84 0) l83 h85 fun h86 =>
J.jd (α := AV × AV × AV × AV × AV × AV × AV × AV × Unit) (fun v87 d88 h89 =>
asI .i64 v87.2.2.2.1 fun x91 =>
asI .i64 v87.2.1 fun x92 =>
fB (Bool.not (ltI x91 x92)) fun b93 =>
br b93 (
j35 (v87.1, ()) d88 h89) (
okNil v87.1 (
faK 0 v87.1 fun p94 =>
ldN 2 p94 h89 fun l95 =>
ldN 5 v87.2.2.2.2.1 h89 fun l96 =>
c43 (AV.agg l95) (AV.agg l96) h89 fun  h97 =>
asI .i64 v87.2.2.2.2.2.2.2.1 fun x98 =>
fI (wrapF .i64 (Int.add x98 (Int.ofNat 1))) fun x99 =>
r78 (v87.1, v87.2.1, v87.2.2.1, v87.2.2.2.2.2.1, v87.2.2.2.2.2.2.1, (AV.int .i64 x99), ()) d88 h97))) fun j90 =>
asI .i64 v75.2.2.2.2.2.1 fun x100 =>
asI .i64 v75.2.1 fun x101 =>
fB (eqI x100 x101) fun b102 =>
J.jn (fun v103 h104 =>
J.jn (fun v106 h107 =>
J.jn (fun v110 h111 =>
pickB (AV.bool b102) v110 (AV.bool false) fun b115 =>
br b115 (
ldV (AV.ptr n84 4) h111 fun v116 =>
ldV (AV.ptr n84 4) h111 fun v117 =>
lenK v117 fun x118 =>
fI (wrapF .i64 (Int.sub (Int.ofNat x118) (Int.ofNat 1))) fun x119 =>
op' (aMin v75.2.2.1 (AV.int .i64 x119)) fun v120 =>
asI .i64 v120 fun x121 =>
slK 1 v116 none (some (AV.int .i64 x121)) fun v122 =>
stV (AV.ptr n84 4) v122 h111 fun h123 =>
okNil v75.1 (
faK 0 v75.1 fun p124 =>
ldN 2 p124 h123 fun l125 =>
ldN 5 (AV.ptr n84 0) h123 fun l126 =>
c43 (AV.agg l125) (AV.agg l126) h123 fun  h127 =>
j90 (v75.1, v75.2.1, v75.2.2.1, v75.2.2.2.2.2.1, (AV.ptr n84 0), v75.2.2.2.1, v75.2.2.2.2.1, v75.2.2.2.2.2.1, ()) d76 h127)) (
j90 (v75.1, v75.2.1, v75.2.2.1, v75.2.2.2.2.2.1, (AV.ptr n84 0), v75.2.2.2.1, v75.2.2.2.2.1, v75.2.2.2.2.2.1, ()) d76 h111)) fun j112 =>
br b102 (
asI .i64 v106 fun x113 =>
fB (eqI x113 (Int.ofNat 0)) fun b114 =>
j112 (AV.bool b114) h107) (
j112 skipV h107)) fun j108 =>
br b102 (
ldI .i64 v103 h104 fun x109 =>
j108 (AV.int .i64 x109) h104) (
j108 skipV h104)) fun j105 =>
br b102 (
j105 (AV.ptr n84 0) h86) (
j105 skipV h86)) (
j35 (v75.1, ()) d76 h77)) (a0, (AV.int .i64 a1), (AV.int .i64 a2), v73, (AV.int .i64 (Int.ofNat x74)), (AV.int .i64 (Int.ofNat 0)), ()) [] h27))) fun j28 =>
br b22 (
j28 skipV h24) (
asI .i64 v23 fun x29 =>
fB (ltI x29 (Int.ofNat 0)) fun b30 =>
j28 (AV.bool b30) h24)) fun j25 =>
br b22 (
j25 skipV h17) (
j25 (AV.int .i64 a2) h17))) fun j18 =>
br b1 (
j18 skipV h13) (
asB v12 fun b19 =>
fB (Bool.not b19) fun b20 =>
j18 (AV.bool b20) h13)) fun j14 =>
br b1 (
j14 skipV h9) (
ldB v8 h9 fun b15 =>
j14 (AV.bool b15) h9)) fun j10 =>
br b1 (
j10 skipV h6) (
faK 9 v5 fun p11 =>
j10 p11 h6)) fun j7 =>
br b1 (
j7 skipV h3) (
okNil v2 (
j7 v2 h3))) fun j4 =>
br b1 (
j4 skipV h) (
j4 a0 h)
noncomputable def s17R (J : Joins) (c43 : AV → AV → H → (H → Prop) → Prop) (k : Int → H → Prop) (v32 : AV × Unit) (d33 : List Dfr) (h34 : H) : Prop :=
okNil v32.1 (
faK 2 v32.1 fun p36 =>
stV p36 AV.nils h34 fun h37 =>
okNil v32.1 (
faK 6 v32.1 fun p38 =>
stV p38 (AV.bool false) h37 fun h39 =>
okNil v32.1 (
faK 5 v32.1 fun p40 =>
stV p40 (AV.bool false) h39 fun h41 =>
pushK (.smap []) h41 fun n42 h43 =>
okNil v32.1 (
faK 0 v32.1 fun p44 =>
faK 1 p44 fun p45 =>
ldV p45 h43 fun v46 =>
aRangeK v46 h43 fun v47 h48 =>
J.lp (α := AV × AV × AV × Unit) (fun r52 v49 d50 h51 =>
aNext v49.2.2.1 h51 fun v53 h54 =>
asTup v53 fun l55 =>
op' (lgetO l55 0) fun v56 =>
asB v56 fun b57 =>
br b57 (
op' (aEntry v49.2.2.1 h54) fun v58 =>
asTup v58 fun l59 =>
op' (lgetO l59 1) fun v60 =>
asI .i64 v60 fun x61 =>
okNil v49.1 (
faK 0 v49.1 fun p62 =>
faK 0 p62 fun p63 =>
ldV p63 h54 fun v64 =>
op' (aLookup ty 3 31 false v64 (AV.int .i64 x61) h54) fun v65 =>
op' (mapBlk ty 3 v49.2.1 (AV.int .i64 x61) v65 h54) fun k66 =>
putK k66.1 k66.2 h54 fun h67 =>
r52 (v49.1, v49.2.1, v49.2.2.1, ()) d50 h67)) (
okNil v49.1 (
faK 0 v49.1 fun p68 =>
faK 0 p68 fun p69 =>
stV p69 v49.2.1 h54 fun h70 =>
leaveK (gam J [(43, w43 c43)]) d50 h70 fun h71 =>
k (Int.ofNat 0) h71))) (v32.1, (AV.map n42), v47, ()) d33 h48))))
noncomputable def s17H (J : Joins) (c43 : AV → AV → H → (H → Prop) → Prop) (R : AV × Unit → List Dfr → H → Prop) (a0 : AV) (a1 : Int) (a2 : Int) (h : H) (k : Int → H → Prop) : Prop :=
nilB 0 a0 fun b1 =>
J.jn (fun v2 h3 =>
J.jn (fun v5 h6 =>
J.jn (fun v8 h9 =>
J.jn (fun v12 h13 =>
J.jn (fun v16 h17 =>
pickB (AV.bool b1) (AV.bool true) v16 fun b21 =>
br b21 (
k (Int.ofNat 1) h17) (
fB (ltI a1 (Int.ofNat 0)) fun b22 =>
J.jn (fun v23 h24 =>
J.jn (fun v26 h27 =>
pickB (AV.bool b22) (AV.bool true) v26 fun b31 =>
br b31 (
k (Int.ofNat 2) h27) (
J.jd (α := AV × Unit) (fun v32 d33 h34 =>
R v32 d33 h34) fun j35 =>
okNil a0 (
faK 2 a0 fun p72 =>
ldV p72 h27 fun v73 =>
lenK v73 fun x74 =>
J.lp (α := AV × AV × AV × AV × AV × AV × Unit) (fun r78 v75 d76 h77 =>
asI .i64 v75.2.2.2.2.2.1 fun x79 =>
asI .i64 v75.2.2.2.2.1 fun x80 =>
fB (ltI x79 x80) fun b81 =>
br b81 (
ixK 5 v75.2.2.2.1 v75.2.2.2.2.2.1 fun p82 =>
ldN 5 p82 h77 fun l83 =>
pushK (.cells false 71 [(.int .i64 0), (.str ⟨0, 0⟩), (.str ⟨0, 0⟩), (.int .i64 0), (.nils)]) h77 fun n84 h85 =>
stN 5 (AV.ptr n84 0) l83 h85 fun h86 =>
J.jd (α := AV × AV × AV × AV × AV × AV × AV × AV × Unit) (fun v87 d88 h89 =>
asI .i64 v87.2.2.2.1 fun x91 =>
asI .i64 v87.2.1 fun x92 =>
fB (Bool.not (ltI x91 x92)) fun b93 =>
br b93 (
j35 (v87.1, ()) d88 h89) (
okNil v87.1 (
faK 0 v87.1 fun p94 =>
ldN 2 p94 h89 fun l95 =>
ldN 5 v87.2.2.2.2.1 h89 fun l96 =>
c43 (AV.agg l95) (AV.agg l96) h89 fun  h97 =>
asI .i64 v87.2.2.2.2.2.2.2.1 fun x98 =>
fI (wrapF .i64 (Int.add x98 (Int.ofNat 1))) fun x99 =>
r78 (v87.1, v87.2.1, v87.2.2.1, v87.2.2.2.2.2.1, v87.2.2.2.2.2.2.1, (AV.int .i64 x99), ()) d88 h97))) fun j90 =>
asI .i64 v75.2.2.2.2.2.1 fun x100 =>
asI .i64 v75.2.1 fun x101 =>
fB (eqI x100 x101) fun b102 =>
J.jn (fun v103 h104 =>
J.jn (fun v106 h107 =>
J.jn (fun v110 h111 =>
pickB (AV.bool b102) v110 (AV.bool false) fun b115 =>
br b115 (
ldV (AV.ptr n84 4) h111 fun v116 =>
ldV (AV.ptr n84 4) h111 fun v117 =>
lenK v117 fun x118 =>
fI (wrapF .i64 (Int.sub (Int.ofNat x118) (Int.ofNat 1))) fun x119 =>
op' (aMin v75.2.2.1 (AV.int .i64 x119)) fun v120 =>
asI .i64 v120 fun x121 =>
slK 1 v116 none (some (AV.int .i64 x121)) fun v122 =>
stV (AV.ptr n84 4) v122 h111 fun h123 =>
okNil v75.1 (
faK 0 v75.1 fun p124 =>
ldN 2 p124 h123 fun l125 =>
ldN 5 (AV.ptr n84 0) h123 fun l126 =>
c43 (AV.agg l125) (AV.agg l126) h123 fun  h127 =>
j90 (v75.1, v75.2.1, v75.2.2.1, v75.2.2.2.2.2.1, (AV.ptr n84 0), v75.2.2.2.1, v75.2.2.2.2.1, v75.2.2.2.2.2.1, ()) d76 h127)) (
j90 (v75.1, v75.2.1, v75.2.2.1, v75.2.2.2.2.2.1, (AV.ptr n84 0), v75.2.2.2.1, v75.2.2.2.2.1, v75.2.2.2.2.2.1, ()) d76 h111)) fun j112 =>
br b102 (
asI .i64 v106 fun x113 =>
fB (eqI x113 (Int.ofNat 0)) fun b114 =>
j112 (AV.bool b114) h107) (
j112 skipV h107)) fun j108 =>
br b102 (
ldI .i64 v103 h104 fun x109 =>
j108 (AV.int .i64 x109) h104) (
j108 skipV h104)) fun j105 =>
br b102 (
j105 (AV.ptr n84 0) h86) (
j105 skipV h86)) (
j35 (v75.1, ()) d76 h77)) (a0, (AV.int .i64 a1), (AV.int .i64 a2), v73, (AV.int .i64 (Int.ofNat x74)), (AV.int .i64 (Int.ofNat 0)), ()) [] h27))) fun j28 =>
br b22 (
j28 skipV h24) (
asI .i64 v23 fun x29 =>
fB (ltI x29 (Int.ofNat 0)) fun b30 =>
j28 (AV.bool b30) h24)) fun j25 =>
br b22 (
j25 skipV h17) (
j25 (AV.int .i64 a2) h17))) fun j18 =>
br b1 (
j18 skipV h13) (
asB v12 fun b19 =>
fB (Bool.not b19) fun b20 =>
j18 (AV.bool b20) h13)) fun j14 =>
br b1 (
j14 skipV h9) (
ldB v8 h9 fun b15 =>
j14 (AV.bool b15) h9)) fun j10 =>
br b1 (
j10 skipV h6) (
faK 9 v5 fun p11 =>
j10 p11 h6)) fun j7 =>
br b1 (
j7 skipV h3) (
okNil v2 (
j7 v2 h3))) fun j4 =>
br b1 (
j4 skipV h) (
j4 a0 h)
theorem s17_hole (J : Joins) (c43 : AV → AV → H → (H → Prop) → Prop) (a0 : AV) (a1 : Int) (a2 : Int) (h : H) (k : Int → H → Prop) : s17G J c43 a0 a1 a2 h k = s17H J c43 (s17R J c43 k) a0 a1 a2 h k := by kernel_rfl
noncomputable def s17 : AV → Int → Int → H → (Int → H → Prop) → Prop := s17G J0 s43
noncomputable def w17 (c : AV → Int → Int → H → (Int → H → Prop) → Prop) : Fun := fun xs h k => arg xs fun a0 xs => arg xs fun a1 xs => arg xs fun a2 xs => noArg xs <| asI .i64 a1 fun a1 => asI .i64 a2 fun a2 => c a0 a1 a2 h fun r0 h => k (.int .i64 r0) h
theorem s17_eq (J : Joins) (c43 : AV → AV → H → (H → Prop) → Prop) (a0 : AV) (a1 : Int) (a2 : Int) (h : H) (k : AV → H → Prop) : denF ty (gam J [(43, w43 c43)]) Try.f17 [a0, (.int .i64 a1), (.int .i64 a2)] h k = s17G J c43 a0 a1 a2 h (fun r0 h => k (.int .i64 r0) h) := by kernel_rfl
noncomputable def g17 : Fun := w17 s17
end Go.Proofs.Ytiejkbmobmgdkaa
