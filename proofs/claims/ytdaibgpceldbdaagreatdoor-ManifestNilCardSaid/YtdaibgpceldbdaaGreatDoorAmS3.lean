/- Functions as they are reckoned. MADE BY PROGRAM (wip/tools/shal.py). -/
import Derived.Test.YtdaibgpceldbdaaGreatDoorAmH70
namespace Go.Proofs.YtdaibgpceldbdaaGreatDoor
open Go Go.Am
set_option maxRecDepth 100000
set_option linter.all false
/-- slices.Chunk[[]byte,byte]$1 -/
noncomputable def s99G (J : Joins) (cd : Code → Ks → List AV → List Dfr → H → Prop) (a0 : AV) (a1 : AV) (a2 : AV) (h : H) (k : H → Prop) : Prop :=
J.lp (α := AV × AV × AV × AV × Unit) (fun r4 v1 d2 h3 =>
ldV v1.2.1 h3 fun v5 =>
lenK v5 fun x6 =>
asI .i64 v1.2.2.2.1 fun x7 =>
fB (ltI x7 (Int.ofNat x6)) fun b8 =>
br b8 (
ldI .i64 v1.2.2.1 h3 fun x9 =>
ldV v1.2.1 h3 fun v10 =>
slK 1 v10 (some v1.2.2.2.1) none fun v11 =>
lenK v11 fun x12 =>
op' (aMin (AV.int .i64 x9) (AV.int .i64 (Int.ofNat x12))) fun v13 =>
asI .i64 v13 fun x14 =>
ldV v1.2.1 h3 fun v15 =>
asI .i64 v1.2.2.2.1 fun x16 =>
fI (wrapF .i64 (Int.add x16 x14)) fun x17 =>
asI .i64 v1.2.2.2.1 fun x18 =>
fI (wrapF .i64 (Int.add x18 x14)) fun x19 =>
spX (aSlice3 1 v15 (some v1.2.2.2.1) (some (AV.int .i64 x17)) (AV.int .i64 x19)) fun v20 =>
callK (gamI J [] [] cd) v1.1 [v20] h3 fun v21 h22 =>
asB v21 fun b23 =>
fB (Bool.not b23) fun b24 =>
br b24 (
leaveK (gamI J [] [] cd) d2 h22 fun h25 =>
k  h25) (
ldI .i64 v1.2.2.1 h22 fun x26 =>
asI .i64 v1.2.2.2.1 fun x27 =>
fI (wrapF .i64 (Int.add x27 x26)) fun x28 =>
r4 (v1.1, v1.2.1, v1.2.2.1, (AV.int .i64 x28), ()) d2 h22)) (
leaveK (gamI J [] [] cd) d2 h3 fun h29 =>
k  h29)) (a0, a1, a2, (AV.int .i64 (Int.ofNat 0)), ()) [] h
noncomputable def s99 : AV → AV → AV → H → (H → Prop) → Prop := s99G J0  noCode
noncomputable def w99 (c : AV → AV → AV → H → (H → Prop) → Prop) : Fun := fun xs h k => arg xs fun a0 xs => arg xs fun a1 xs => arg xs fun a2 xs => noArg xs <| c a0 a1 a2 h fun  h => k (.tuple []) h
theorem s99_eq (J : Joins) (cd : Code → Ks → List AV → List Dfr → H → Prop) (a0 : AV) (a1 : AV) (a2 : AV) (h : H) (k : AV → H → Prop) : denF ty (gamI J [] [] cd) Tryz.f99 [a0, a1, a2] h k = s99G J  cd a0 a1 a2 h (fun  h => k (.tuple []) h) := by kernel_rfl
noncomputable def g99 : Fun := w99 s99
theorem g99_ok : FunOk Tryz.prog 99 g99 := (fun_ok ty_ok mixed (gamI_ok (J := J0) (tab_nil fls_fun) (tab_nil fls_it) noCode_ok) Tryz.func99 (fun args w => by simp)).imp fun xs h k e0 => by
  obtain ⟨a0, xs0, rfl, e1⟩ := arg_imp e0
  obtain ⟨a1, xs1, rfl, e2⟩ := arg_imp e1
  obtain ⟨a2, xs2, rfl, e3⟩ := arg_imp e2
  obtain ⟨rfl, e4⟩ := noArg_imp e3
  exact (s99_eq J0  noCode a0 a1 a2 h k).mpr e4
/-- slices.Chunk[[]byte,byte] -/
noncomputable def s71G (J : Joins) (c99 : AV → AV → AV → H → (H → Prop) → Prop) (a0 : AV) (a1 : Int) (h : H) (k : AV → H → Prop) : Prop :=
ck (isOne a0) (
pushK (.cells false 60 [a0]) h fun n1 h2 =>
pushK (.cells false 3 [(AV.int .i64 a1)]) h2 fun n3 h4 =>
J.jd (α := AV × AV × Unit) (fun v5 d6 h7 =>
leaveK (gam J [(99, w99 c99)]) d6 h7 fun h9 =>
k (AV.func (.func 99) [] [v5.1, v5.2.1]) h9) fun j8 =>
ldI .i64 (AV.ptr n3 0) h4 fun x10 =>
fB (ltI x10 (Int.ofNat 1)) fun b11 =>
br b11 (
False) (
j8 ((AV.ptr n1 0), (AV.ptr n3 0), ()) [] h4))
noncomputable def s71 : AV → Int → H → (AV → H → Prop) → Prop := s71G J0 s99
noncomputable def w71 (c : AV → Int → H → (AV → H → Prop) → Prop) : Fun := fun xs h k => arg xs fun a0 xs => arg xs fun a1 xs => noArg xs <| asI .i64 a1 fun a1 => c a0 a1 h fun r0 h => k r0 h
theorem s71_eq (J : Joins) (c99 : AV → AV → AV → H → (H → Prop) → Prop) (a0 : AV) (a1 : Int) (h : H) (k : AV → H → Prop) : denF ty (gam J [(99, w99 c99)]) Tryz.f71 [a0, (.int .i64 a1)] h k = s71G J c99 a0 a1 h (fun r0 h => k r0 h) := by kernel_rfl
noncomputable def g71 : Fun := w71 s71
theorem g71_ok : FunOk Tryz.prog 71 g71 := (fun_ok ty_ok mixed (gam_ok (J := J0) (tab_cons g99_ok (tab_nil fls_fun))) Tryz.func71 (fun args w => by simp)).imp fun xs h k e0 => by
  obtain ⟨a0, xs0, rfl, e1⟩ := arg_imp e0
  obtain ⟨a1, xs1, rfl, e2⟩ := arg_imp e1
  obtain ⟨rfl, e3⟩ := noArg_imp e2
  obtain ⟨a1, rfl, e4⟩ := asI_iff.1 e3
  exact (s71_eq J0 s99 a0 a1 h k).mpr e4
/-- function 99 as function 36 ranges over it -/
noncomputable def s99_36 : AV → AV → AV → H → (H → Prop) → Prop := s99G J0  (denR ty (gamI J0 [(48, g48), (49, g49), (64, g64), (70, g70'), (71, g71)] [] noCode))
theorem i99_36_ok : ItOk Tryz.prog 99 (w99 s99_36) := (it_ok ty_ok mixed (gamI_ok (J := J0) (tab_nil fls_fun) (tab_nil fls_it) (code_ok ty_ok mixed (gamI_ok (J := J0) (tab_cons g48_ok (tab_cons g49_ok (tab_cons g64_ok (tab_cons g70'_ok (tab_cons g71_ok (tab_nil fls_fun)))))) (tab_nil fls_it) noCode_ok))) Tryz.func99 (fun args w => by simp)).imp fun xs h k e0 => by
  obtain ⟨a0, xs0, rfl, e1⟩ := arg_imp e0
  obtain ⟨a1, xs1, rfl, e2⟩ := arg_imp e1
  obtain ⟨a2, xs2, rfl, e3⟩ := arg_imp e2
  obtain ⟨rfl, e4⟩ := noArg_imp e3
  exact (s99_eq J0  (denR ty (gamI J0 [(48, g48), (49, g49), (64, g64), (70, g70'), (71, g71)] [] noCode)) a0 a1 a2 h k).mpr e4
/-- (*stagepost/vfs.FS).Append -/
noncomputable def s36G (J : Joins) (c48 : AV → Str → H → (Int → Int → H → Prop) → Prop) (c49 : AV → H → (AV → H → Prop) → Prop) (c64 : AV → AV → H → (Int → H → Prop) → Prop) (c70 : AV → H → (Int → H → Prop) → Prop) (c71 : AV → Int → H → (AV → H → Prop) → Prop) (i99 : AV → AV → AV → H → (H → Prop) → Prop) (a0 : AV) (a1 : Str) (a2 : AV) (h : H) (k : Int → H → Prop) : Prop :=
ck (isOne a0) (
pushK (.cells false 22 [a0]) h fun n1 h2 =>
pushK (.cells false 23 [(.int .i64 0)]) h2 fun n3 h4 =>
ldV (AV.ptr n1 0) h4 fun v5 =>
c48 v5 a1 h4 fun x7 x8 h6 =>
pushK (.cells false 3 [(.int .i64 0)]) h6 fun n9 h10 =>
stV (AV.ptr n9 0) (AV.int .i64 x7) h10 fun h11 =>
fB (Bool.not (eqI x8 (Int.ofNat 0))) fun b12 =>
br b12 (
stV (AV.ptr n3 0) (AV.int .i64 x8) h11 fun h13 =>
ldI .i64 (AV.ptr n3 0) h13 fun x14 =>
k x14 h13) (
lenK a2 fun x15 =>
ldV (AV.ptr n1 0) h11 fun v16 =>
c70 v16 h11 fun x18 h17 =>
fB (ltI x18 (Int.ofNat x15)) fun b19 =>
br b19 (
stV (AV.ptr n3 0) (AV.int .i64 (Int.ofNat 8)) h17 fun h20 =>
ldI .i64 (AV.ptr n3 0) h20 fun x21 =>
k x21 h20) (
J.jd (α := AV × Unit) (fun v22 d23 h24 =>
stV v22.1 (AV.int .i64 (Int.ofNat 0)) h24 fun h26 =>
leaveK (gamI J [(48, w48 c48), (49, w49 c49), (64, w64 c64), (70, w70 c70), (71, w71 c71)] [(99, w99 i99)] noCode) d23 h26 fun h27 =>
ldI .i64 v22.1 h27 fun x28 =>
k x28 h27) fun j25 =>
c71 a2 (Int.ofNat 64) h17 fun v30 h29 =>
rfK (gamI J [(48, w48 c48), (49, w49 c49), (64, w64 c64), (70, w70 c70), (71, w71 c71)] [(99, w99 i99)] noCode) v30 [27] (rfAt Tryz.f36 0) [a0, (AV.str a1), a2, (AV.ptr n1 0), AV.junk, AV.junk, (AV.ptr n3 0), (AV.ptr n9 0), (AV.int .i64 x8), AV.junk, AV.junk, (AV.tuple [(AV.int .i64 x7), (AV.int .i64 x8)]), v5, (AV.str a1), (AV.tuple [(AV.int .i64 x7), (AV.int .i64 x8)]), (AV.int .i64 x7), (AV.int .i64 x8), (AV.int .i64 x8), (AV.bool b12), AV.junk, a2, (AV.int .i64 (Int.ofNat x15)), v16, (AV.int .i64 x18), (AV.bool b19), a2, v30, AV.junk, AV.junk, AV.junk, AV.junk, AV.junk, AV.junk, AV.junk, AV.junk, AV.junk, AV.junk] h29 fun n31 n32 h33 =>
endR n31 n32 (fun d34 h35 =>
j25 ((AV.ptr n3 0), ()) d34 h35) (fun d34 h35 =>
leaveK (gamI J [(48, w48 c48), (49, w49 c49), (64, w64 c64), (70, w70 c70), (71, w71 c71)] [(99, w99 i99)] noCode) d34 h35 fun h37 =>
ldI .i64 (AV.ptr n3 0) h37 fun x38 =>
k x38 h37) (fun i36 d34 h35 =>
exB (Nat.beq i36 0) (fun d34 h35 =>
j25 ((AV.ptr n3 0), ()) d34 h35) (fun d34 h35 =>
False) d34 h35) [] h33)))
noncomputable def s36 : AV → Str → AV → H → (Int → H → Prop) → Prop := s36G J0 s48 s49 s64 s70' s71 s99_36
noncomputable def w36 (c : AV → Str → AV → H → (Int → H → Prop) → Prop) : Fun := fun xs h k => arg xs fun a0 xs => arg xs fun a1 xs => arg xs fun a2 xs => noArg xs <| asS a1 fun a1 => c a0 a1 a2 h fun r0 h => k (.int .i64 r0) h
theorem s36_eq (J : Joins) (c48 : AV → Str → H → (Int → Int → H → Prop) → Prop) (c49 : AV → H → (AV → H → Prop) → Prop) (c64 : AV → AV → H → (Int → H → Prop) → Prop) (c70 : AV → H → (Int → H → Prop) → Prop) (c71 : AV → Int → H → (AV → H → Prop) → Prop) (i99 : AV → AV → AV → H → (H → Prop) → Prop) (a0 : AV) (a1 : Str) (a2 : AV) (h : H) (k : AV → H → Prop) : denF ty (gamI J [(48, w48 c48), (49, w49 c49), (64, w64 c64), (70, w70 c70), (71, w71 c71)] [(99, w99 i99)] noCode) Tryz.f36 [a0, (.str a1), a2] h k = s36G J c48 c49 c64 c70 c71 i99 a0 a1 a2 h (fun r0 h => k (.int .i64 r0) h) := by kernel_rfl
noncomputable def g36 : Fun := w36 s36
theorem g36_ok : FunOk Tryz.prog 36 g36 := (fun_ok ty_ok mixed (gamI_ok (J := J0) (tab_cons g48_ok (tab_cons g49_ok (tab_cons g64_ok (tab_cons g70'_ok (tab_cons g71_ok (tab_nil fls_fun)))))) (tab_cons i99_36_ok (tab_nil fls_it)) noCode_ok) Tryz.func36 (fun args w => by simp)).imp fun xs h k e0 => by
  obtain ⟨a0, xs0, rfl, e1⟩ := arg_imp e0
  obtain ⟨a1, xs1, rfl, e2⟩ := arg_imp e1
  obtain ⟨a2, xs2, rfl, e3⟩ := arg_imp e2
  obtain ⟨rfl, e4⟩ := noArg_imp e3
  obtain ⟨a1, rfl, e5⟩ := asS_iff.1 e4
  exact (s36_eq J0 s48 s49 s64 s70' s71 s99_36 a0 a1 a2 h k).mpr e5
/-- (*stagepost/manifest.Manifest).Add$1 -/
noncomputable def s35G (J : Joins) (c10 : AV → H → (Str → H → Prop) → Prop) (c36 : AV → Str → AV → H → (Int → H → Prop) → Prop) (a0 : AV) (a1 : AV) (h : H) (k : Int → H → Prop) : Prop :=
ldV a0 h fun v1 =>
okNil v1 (
faK 0 v1 fun p2 =>
ldV p2 h fun v3 =>
ldV a0 h fun v4 =>
ldV a1 h fun v5 =>
c10 v4 h fun s7 h6 =>
ck (readsSo (aLoad1 a1 h6) v5) (
ck (readsSo (aLoad1 p2 h6) v3) (
ck (readsSo (aLoad1 a0 h6) v1) (
c36 v3 s7 v5 h6 fun x9 h8 =>
k x9 h8))))
noncomputable def s35 : AV → AV → H → (Int → H → Prop) → Prop := s35G J0 s10 s36
noncomputable def w35 (c : AV → AV → H → (Int → H → Prop) → Prop) : Fun := fun xs h k => arg xs fun a0 xs => arg xs fun a1 xs => noArg xs <| c a0 a1 h fun r0 h => k (.int .i64 r0) h
theorem s35_eq (J : Joins) (c10 : AV → H → (Str → H → Prop) → Prop) (c36 : AV → Str → AV → H → (Int → H → Prop) → Prop) (a0 : AV) (a1 : AV) (h : H) (k : AV → H → Prop) : denF ty (gam J [(10, w10 c10), (36, w36 c36)]) Tryz.f35 [a0, a1] h k = s35G J c10 c36 a0 a1 h (fun r0 h => k (.int .i64 r0) h) := by kernel_rfl
noncomputable def g35 : Fun := w35 s35
theorem g35_ok : FunOk Tryz.prog 35 g35 := (fun_ok ty_ok mixed (gam_ok (J := J0) (tab_cons g10_ok (tab_cons g36_ok (tab_nil fls_fun)))) Tryz.func35 (fun args w => by simp)).imp fun xs h k e0 => by
  obtain ⟨a0, xs0, rfl, e1⟩ := arg_imp e0
  obtain ⟨a1, xs1, rfl, e2⟩ := arg_imp e1
  obtain ⟨rfl, e3⟩ := noArg_imp e2
  exact (s35_eq J0 s10 s36 a0 a1 h k).mpr e3
/-- (*stagepost/vfs.FS).Sync -/
noncomputable def s38G (J : Joins) (c48 : AV → Str → H → (Int → Int → H → Prop) → Prop) (c62 : AV → AV → H → (Int → H → Prop) → Prop) (c72 : AV → AV → H → (Bool → H → Prop) → Prop) (a0 : AV) (a1 : Str) (h : H) (k : Int → H → Prop) : Prop :=
c48 a0 a1 h fun x2 x3 h1 =>
pushK (.cells false 3 [(.int .i64 0)]) h1 fun n4 h5 =>
stV (AV.ptr n4 0) (AV.int .i64 x2) h5 fun h6 =>
fB (Bool.not (eqI x3 (Int.ofNat 0))) fun b7 =>
br b7 (
k x3 h6) (
c62 a0 (AV.func (.func 72) [] [(AV.ptr n4 0)]) h6 fun x9 h8 =>
k x9 h8)
noncomputable def s38 : AV → Str → H → (Int → H → Prop) → Prop := s38G J0 s48 s62 s72
noncomputable def w38 (c : AV → Str → H → (Int → H → Prop) → Prop) : Fun := fun xs h k => arg xs fun a0 xs => arg xs fun a1 xs => noArg xs <| asS a1 fun a1 => c a0 a1 h fun r0 h => k (.int .i64 r0) h
theorem s38_eq (J : Joins) (c48 : AV → Str → H → (Int → Int → H → Prop) → Prop) (c62 : AV → AV → H → (Int → H → Prop) → Prop) (c72 : AV → AV → H → (Bool → H → Prop) → Prop) (a0 : AV) (a1 : Str) (h : H) (k : AV → H → Prop) : denF ty (gam J [(48, w48 c48), (62, w62 c62), (72, w72 c72)]) Tryz.f38 [a0, (.str a1)] h k = s38G J c48 c62 c72 a0 a1 h (fun r0 h => k (.int .i64 r0) h) := by kernel_rfl
noncomputable def g38 : Fun := w38 s38
theorem g38_ok : FunOk Tryz.prog 38 g38 := (fun_ok ty_ok mixed (gam_ok (J := J0) (tab_cons g48_ok (tab_cons g62_ok (tab_cons g72_ok (tab_nil fls_fun))))) Tryz.func38 (fun args w => by simp)).imp fun xs h k e0 => by
  obtain ⟨a0, xs0, rfl, e1⟩ := arg_imp e0
  obtain ⟨a1, xs1, rfl, e2⟩ := arg_imp e1
  obtain ⟨rfl, e3⟩ := noArg_imp e2
  obtain ⟨a1, rfl, e4⟩ := asS_iff.1 e3
  exact (s38_eq J0 s48 s62 s72 a0 a1 h k).mpr e4
/-- (*stagepost/manifest.Manifest).Add$2 -/
noncomputable def s37G (J : Joins) (c10 : AV → H → (Str → H → Prop) → Prop) (c38 : AV → Str → H → (Int → H → Prop) → Prop) (a0 : AV) (h : H) (k : Int → H → Prop) : Prop :=
ldV a0 h fun v1 =>
okNil v1 (
faK 0 v1 fun p2 =>
ldV p2 h fun v3 =>
ldV a0 h fun v4 =>
c10 v4 h fun s6 h5 =>
ck (readsSo (aLoad1 p2 h5) v3) (
ck (readsSo (aLoad1 a0 h5) v1) (
c38 v3 s6 h5 fun x8 h7 =>
k x8 h7)))
noncomputable def s37 : AV → H → (Int → H → Prop) → Prop := s37G J0 s10 s38
noncomputable def w37 (c : AV → H → (Int → H → Prop) → Prop) : Fun := fun xs h k => arg xs fun a0 xs => noArg xs <| c a0 h fun r0 h => k (.int .i64 r0) h
theorem s37_eq (J : Joins) (c10 : AV → H → (Str → H → Prop) → Prop) (c38 : AV → Str → H → (Int → H → Prop) → Prop) (a0 : AV) (h : H) (k : AV → H → Prop) : denF ty (gam J [(10, w10 c10), (38, w38 c38)]) Tryz.f37 [a0] h k = s37G J c10 c38 a0 h (fun r0 h => k (.int .i64 r0) h) := by kernel_rfl
noncomputable def g37 : Fun := w37 s37
theorem g37_ok : FunOk Tryz.prog 37 g37 := (fun_ok ty_ok mixed (gam_ok (J := J0) (tab_cons g10_ok (tab_cons g38_ok (tab_nil fls_fun)))) Tryz.func37 (fun args w => by simp)).imp fun xs h k e0 => by
  obtain ⟨a0, xs0, rfl, e1⟩ := arg_imp e0
  obtain ⟨rfl, e2⟩ := noArg_imp e1
  exact (s37_eq J0 s10 s38 a0 h k).mpr e2
/-- (*stagepost/vfs.FS).Create -/
noncomputable def s59G (J : Joins) (c40 : AV → AV → H → (Int → H → Prop) → Prop) (c43 : AV → H → (AV → H → Prop) → Prop) (c64 : AV → AV → H → (Int → H → Prop) → Prop) (a0 : AV) (a1 : Str) (h : H) (k : Int → H → Prop) : Prop :=
pushK (.cells false 9 [(AV.str a1)]) h fun n1 h2 =>
c40 a0 (AV.slice n1 0 1 1 1 true) h2 fun x4 h3 =>
fB (Bool.not (eqI x4 (Int.ofNat 0))) fun b5 =>
br b5 (
k x4 h3) (
c43 a0 h3 fun v7 h6 =>
Go.Am.asAgg v7 fun l8 =>
op' (lgetO l8 1) fun v9 =>
op' (aLookup ty 9 3 true v9 (AV.str a1) h6) fun v10 =>
asTup v10 fun l11 =>
op' (lgetO l11 0) fun v12 =>
asI .i64 v12 fun x13 =>
asTup v10 fun l14 =>
op' (lgetO l14 1) fun v15 =>
asB v15 fun b16 =>
br b16 (
k (Int.ofNat 9) h6) (
okNil a0 (
faK 4 a0 fun p17 =>
ldI .i64 p17 h6 fun x18 =>
c64 a0 (AV.agg [(AV.int .i64 (Int.ofNat 1)), (AV.str a1), (.str ⟨0, 0⟩), (AV.int .i64 x18), (.nils)]) h6 fun x20 h19 =>
okNil a0 (
faK 4 a0 fun p21 =>
ldI .i64 p21 h19 fun x22 =>
fI (wrapF .i64 (Int.add x22 (Int.ofNat 1))) fun x23 =>
okNil a0 (
faK 4 a0 fun p24 =>
stV p24 (AV.int .i64 x23) h19 fun h25 =>
k x20 h25)))))
noncomputable def s59 : AV → Str → H → (Int → H → Prop) → Prop := s59G J0 s40 s43 s64
noncomputable def w59 (c : AV → Str → H → (Int → H → Prop) → Prop) : Fun := fun xs h k => arg xs fun a0 xs => arg xs fun a1 xs => noArg xs <| asS a1 fun a1 => c a0 a1 h fun r0 h => k (.int .i64 r0) h
theorem s59_eq (J : Joins) (c40 : AV → AV → H → (Int → H → Prop) → Prop) (c43 : AV → H → (AV → H → Prop) → Prop) (c64 : AV → AV → H → (Int → H → Prop) → Prop) (a0 : AV) (a1 : Str) (h : H) (k : AV → H → Prop) : denF ty (gam J [(40, w40 c40), (43, w43 c43), (64, w64 c64)]) Tryz.f59 [a0, (.str a1)] h k = s59G J c40 c43 c64 a0 a1 h (fun r0 h => k (.int .i64 r0) h) := by kernel_rfl
noncomputable def g59 : Fun := w59 s59
theorem g59_ok : FunOk Tryz.prog 59 g59 := (fun_ok ty_ok mixed (gam_ok (J := J0) (tab_cons g40_ok (tab_cons g43_ok (tab_cons g64_ok (tab_nil fls_fun))))) Tryz.func59 (fun args w => by simp)).imp fun xs h k e0 => by
  obtain ⟨a0, xs0, rfl, e1⟩ := arg_imp e0
  obtain ⟨a1, xs1, rfl, e2⟩ := arg_imp e1
  obtain ⟨rfl, e3⟩ := noArg_imp e2
  obtain ⟨a1, rfl, e4⟩ := asS_iff.1 e3
  exact (s59_eq J0 s40 s43 s64 a0 a1 h k).mpr e4
/-- stagepost/manifest.fresh$1 -/
noncomputable def s58G (J : Joins) (c59 : AV → Str → H → (Int → H → Prop) → Prop) (a0 : AV) (a1 : AV) (h : H) (k : Int → H → Prop) : Prop :=
ldV a0 h fun v1 =>
ldS a1 h fun s2 =>
c59 v1 s2 h fun x4 h3 =>
k x4 h3
noncomputable def s58 : AV → AV → H → (Int → H → Prop) → Prop := s58G J0 s59
noncomputable def w58 (c : AV → AV → H → (Int → H → Prop) → Prop) : Fun := fun xs h k => arg xs fun a0 xs => arg xs fun a1 xs => noArg xs <| c a0 a1 h fun r0 h => k (.int .i64 r0) h
theorem s58_eq (J : Joins) (c59 : AV → Str → H → (Int → H → Prop) → Prop) (a0 : AV) (a1 : AV) (h : H) (k : AV → H → Prop) : denF ty (gam J [(59, w59 c59)]) Tryz.f58 [a0, a1] h k = s58G J c59 a0 a1 h (fun r0 h => k (.int .i64 r0) h) := by kernel_rfl
noncomputable def g58 : Fun := w58 s58
theorem g58_ok : FunOk Tryz.prog 58 g58 := (fun_ok ty_ok mixed (gam_ok (J := J0) (tab_cons g59_ok (tab_nil fls_fun))) Tryz.func58 (fun args w => by simp)).imp fun xs h k e0 => by
  obtain ⟨a0, xs0, rfl, e1⟩ := arg_imp e0
  obtain ⟨a1, xs1, rfl, e2⟩ := arg_imp e1
  obtain ⟨rfl, e3⟩ := noArg_imp e2
  exact (s58_eq J0 s59 a0 a1 h k).mpr e3
/-- stagepost/manifest.fresh$2 -/
noncomputable def s60G (J : Joins) (c36 : AV → Str → AV → H → (Int → H → Prop) → Prop) (a0 : AV) (a1 : AV) (a2 : AV) (h : H) (k : Int → H → Prop) : Prop :=
ldV a0 h fun v1 =>
ldS a1 h fun s2 =>
ldV a2 h fun v3 =>
c36 v1 s2 v3 h fun x5 h4 =>
k x5 h4
noncomputable def s60 : AV → AV → AV → H → (Int → H → Prop) → Prop := s60G J0 s36
noncomputable def w60 (c : AV → AV → AV → H → (Int → H → Prop) → Prop) : Fun := fun xs h k => arg xs fun a0 xs => arg xs fun a1 xs => arg xs fun a2 xs => noArg xs <| c a0 a1 a2 h fun r0 h => k (.int .i64 r0) h
theorem s60_eq (J : Joins) (c36 : AV → Str → AV → H → (Int → H → Prop) → Prop) (a0 : AV) (a1 : AV) (a2 : AV) (h : H) (k : AV → H → Prop) : denF ty (gam J [(36, w36 c36)]) Tryz.f60 [a0, a1, a2] h k = s60G J c36 a0 a1 a2 h (fun r0 h => k (.int .i64 r0) h) := by kernel_rfl
noncomputable def g60 : Fun := w60 s60
theorem g60_ok : FunOk Tryz.prog 60 g60 := (fun_ok ty_ok mixed (gam_ok (J := J0) (tab_cons g36_ok (tab_nil fls_fun))) Tryz.func60 (fun args w => by simp)).imp fun xs h k e0 => by
  obtain ⟨a0, xs0, rfl, e1⟩ := arg_imp e0
  obtain ⟨a1, xs1, rfl, e2⟩ := arg_imp e1
  obtain ⟨a2, xs2, rfl, e3⟩ := arg_imp e2
  obtain ⟨rfl, e4⟩ := noArg_imp e3
  exact (s60_eq J0 s36 a0 a1 a2 h k).mpr e4
/-- stagepost/manifest.fresh$3 -/
noncomputable def s61G (J : Joins) (c38 : AV → Str → H → (Int → H → Prop) → Prop) (a0 : AV) (a1 : AV) (h : H) (k : Int → H → Prop) : Prop :=
ldV a0 h fun v1 =>
ldS a1 h fun s2 =>
c38 v1 s2 h fun x4 h3 =>
k x4 h3
noncomputable def s61 : AV → AV → H → (Int → H → Prop) → Prop := s61G J0 s38
noncomputable def w61 (c : AV → AV → H → (Int → H → Prop) → Prop) : Fun := fun xs h k => arg xs fun a0 xs => arg xs fun a1 xs => noArg xs <| c a0 a1 h fun r0 h => k (.int .i64 r0) h
theorem s61_eq (J : Joins) (c38 : AV → Str → H → (Int → H → Prop) → Prop) (a0 : AV) (a1 : AV) (h : H) (k : AV → H → Prop) : denF ty (gam J [(38, w38 c38)]) Tryz.f61 [a0, a1] h k = s61G J c38 a0 a1 h (fun r0 h => k (.int .i64 r0) h) := by kernel_rfl
noncomputable def g61 : Fun := w61 s61
theorem g61_ok : FunOk Tryz.prog 61 g61 := (fun_ok ty_ok mixed (gam_ok (J := J0) (tab_cons g38_ok (tab_nil fls_fun))) Tryz.func61 (fun args w => by simp)).imp fun xs h k e0 => by
  obtain ⟨a0, xs0, rfl, e1⟩ := arg_imp e0
  obtain ⟨a1, xs1, rfl, e2⟩ := arg_imp e1
  obtain ⟨rfl, e3⟩ := noArg_imp e2
  exact (s61_eq J0 s38 a0 a1 h k).mpr e3
/-- stagepost/manifest.steps -/
noncomputable def s23G (J : Joins) (c27 : AV → H → (Int → H → Prop) → Prop) (c28 : AV → H → (Int → H → Prop) → Prop) (c35 : AV → AV → H → (Int → H → Prop) → Prop) (c37 : AV → H → (Int → H → Prop) → Prop) (c58 : AV → AV → H → (Int → H → Prop) → Prop) (c60 : AV → AV → AV → H → (Int → H → Prop) → Prop) (c61 : AV → AV → H → (Int → H → Prop) → Prop) (a0 : AV) (h : H) (k : Int → H → Prop) : Prop :=
lenK a0 fun x1 =>
J.lp (α := AV × AV × AV × Unit) (fun r5 v2 d3 h4 =>
asI .i64 v2.2.2.1 fun x6 =>
asI .i64 v2.2.1 fun x7 =>
fB (ltI x6 x7) fun b8 =>
br b8 (
ixK 1 v2.1 v2.2.2.1 fun p9 =>
ldV p9 h4 fun v10 =>
callK (gam J [(27, w27 c27), (28, w28 c28), (35, w35 c35), (37, w37 c37), (58, w58 c58), (60, w60 c60), (61, w61 c61)]) v10 [] h4 fun v11 h12 =>
asI .i64 v11 fun x13 =>
fB (Bool.not (eqI x13 (Int.ofNat 0))) fun b14 =>
br b14 (
leaveK (gam J [(27, w27 c27), (28, w28 c28), (35, w35 c35), (37, w37 c37), (58, w58 c58), (60, w60 c60), (61, w61 c61)]) d3 h12 fun h15 =>
k x13 h15) (
asI .i64 v2.2.2.1 fun x16 =>
fI (wrapF .i64 (Int.add x16 (Int.ofNat 1))) fun x17 =>
r5 (v2.1, v2.2.1, (AV.int .i64 x17), ()) d3 h12)) (
leaveK (gam J [(27, w27 c27), (28, w28 c28), (35, w35 c35), (37, w37 c37), (58, w58 c58), (60, w60 c60), (61, w61 c61)]) d3 h4 fun h18 =>
k (Int.ofNat 0) h18)) (a0, (AV.int .i64 (Int.ofNat x1)), (AV.int .i64 (Int.ofNat 0)), ()) [] h
noncomputable def s23 : AV → H → (Int → H → Prop) → Prop := s23G J0 s27 s28 s35 s37 s58 s60 s61
noncomputable def w23 (c : AV → H → (Int → H → Prop) → Prop) : Fun := fun xs h k => arg xs fun a0 xs => noArg xs <| c a0 h fun r0 h => k (.int .i64 r0) h
theorem s23_eq (J : Joins) (c27 : AV → H → (Int → H → Prop) → Prop) (c28 : AV → H → (Int → H → Prop) → Prop) (c35 : AV → AV → H → (Int → H → Prop) → Prop) (c37 : AV → H → (Int → H → Prop) → Prop) (c58 : AV → AV → H → (Int → H → Prop) → Prop) (c60 : AV → AV → AV → H → (Int → H → Prop) → Prop) (c61 : AV → AV → H → (Int → H → Prop) → Prop) (a0 : AV) (h : H) (k : AV → H → Prop) : denF ty (gam J [(27, w27 c27), (28, w28 c28), (35, w35 c35), (37, w37 c37), (58, w58 c58), (60, w60 c60), (61, w61 c61)]) Tryz.f23 [a0] h k = s23G J c27 c28 c35 c37 c58 c60 c61 a0 h (fun r0 h => k (.int .i64 r0) h) := by kernel_rfl
noncomputable def g23 : Fun := w23 s23
theorem g23_ok : FunOk Tryz.prog 23 g23 := (fun_ok ty_ok mixed (gam_ok (J := J0) (tab_cons g27_ok (tab_cons g28_ok (tab_cons g35_ok (tab_cons g37_ok (tab_cons g58_ok (tab_cons g60_ok (tab_cons g61_ok (tab_nil fls_fun))))))))) Tryz.func23 (fun args w => by simp)).imp fun xs h k e0 => by
  obtain ⟨a0, xs0, rfl, e1⟩ := arg_imp e0
  obtain ⟨rfl, e2⟩ := noArg_imp e1
  exact (s23_eq J0 s27 s28 s35 s37 s58 s60 s61 a0 h k).mpr e2
/-- (*stagepost/vfs.FS).Remove -/
noncomputable def s30G (J : Joins) (c48 : AV → Str → H → (Int → Int → H → Prop) → Prop) (c64 : AV → AV → H → (Int → H → Prop) → Prop) (a0 : AV) (a1 : Str) (h : H) (k : Int → H → Prop) : Prop :=
c48 a0 a1 h fun x2 x3 h1 =>
fB (Bool.not (eqI x3 (Int.ofNat 0))) fun b4 =>
br b4 (
k x3 h1) (
c64 a0 (AV.agg [(AV.int .i64 (Int.ofNat 3)), (AV.str a1), (.str ⟨0, 0⟩), (.int .i64 0), (.nils)]) h1 fun x6 h5 =>
k x6 h5)
noncomputable def s30 : AV → Str → H → (Int → H → Prop) → Prop := s30G J0 s48 s64
noncomputable def w30 (c : AV → Str → H → (Int → H → Prop) → Prop) : Fun := fun xs h k => arg xs fun a0 xs => arg xs fun a1 xs => noArg xs <| asS a1 fun a1 => c a0 a1 h fun r0 h => k (.int .i64 r0) h
theorem s30_eq (J : Joins) (c48 : AV → Str → H → (Int → Int → H → Prop) → Prop) (c64 : AV → AV → H → (Int → H → Prop) → Prop) (a0 : AV) (a1 : Str) (h : H) (k : AV → H → Prop) : denF ty (gam J [(48, w48 c48), (64, w64 c64)]) Tryz.f30 [a0, (.str a1)] h k = s30G J c48 c64 a0 a1 h (fun r0 h => k (.int .i64 r0) h) := by kernel_rfl
noncomputable def g30 : Fun := w30 s30
theorem g30_ok : FunOk Tryz.prog 30 g30 := (fun_ok ty_ok mixed (gam_ok (J := J0) (tab_cons g48_ok (tab_cons g64_ok (tab_nil fls_fun)))) Tryz.func30 (fun args w => by simp)).imp fun xs h k e0 => by
  obtain ⟨a0, xs0, rfl, e1⟩ := arg_imp e0
  obtain ⟨a1, xs1, rfl, e2⟩ := arg_imp e1
  obtain ⟨rfl, e3⟩ := noArg_imp e2
  obtain ⟨a1, rfl, e4⟩ := asS_iff.1 e3
  exact (s30_eq J0 s48 s64 a0 a1 h k).mpr e4
/-- stagepost/manifest.fresh -/
noncomputable def s25G (J : Joins) (c18 : AV → Str → H → (AV → Int → H → Prop) → Prop) (c23 : AV → H → (Int → H → Prop) → Prop) (c30 : AV → Str → H → (Int → H → Prop) → Prop) (c58 : AV → AV → H → (Int → H → Prop) → Prop) (c60 : AV → AV → AV → H → (Int → H → Prop) → Prop) (c61 : AV → AV → H → (Int → H → Prop) → Prop) (a0 : AV) (a1 : Str) (a2 : AV) (h : H) (k : Int → H → Prop) : Prop :=
ck (isOne a0) (
pushK (.cells false 22 [a0]) h fun n1 h2 =>
pushK (.cells false 9 [(AV.str a1)]) h2 fun n3 h4 =>
ck (isOne a2) (
pushK (.cells false 60 [a2]) h4 fun n5 h6 =>
J.jd (α := AV × AV × AV × Unit) (fun v7 d8 h9 =>
pushK (.cells false 70 [(AV.func (.func 58) [] [v7.1, v7.2.1]), (AV.func (.func 60) [] [v7.1, v7.2.1, v7.2.2.1]), (AV.func (.func 61) [] [v7.1, v7.2.1])]) h9 fun n11 h12 =>
c23 (AV.slice n11 0 3 3 1 true) h12 fun x14 h13 =>
leaveK (gam J [(18, w18 c18), (23, w23 c23), (30, w30 c30), (58, w58 c58), (60, w60 c60), (61, w61 c61)]) d8 h13 fun h15 =>
k x14 h15) fun j10 =>
ldV (AV.ptr n1 0) h6 fun v16 =>
ldS (AV.ptr n3 0) h6 fun s17 =>
c18 v16 s17 h6 fun v19 x20 h18 =>
fB (eqI x20 (Int.ofNat 0)) fun b21 =>
br b21 (
ldV (AV.ptr n1 0) h18 fun v22 =>
ldS (AV.ptr n3 0) h18 fun s23 =>
c30 v22 s23 h18 fun x25 h24 =>
fB (Bool.not (eqI x25 (Int.ofNat 0))) fun b26 =>
br b26 (
k x25 h24) (
j10 ((AV.ptr n1 0), (AV.ptr n3 0), (AV.ptr n5 0), ()) [] h24)) (
j10 ((AV.ptr n1 0), (AV.ptr n3 0), (AV.ptr n5 0), ()) [] h18)))
noncomputable def s25 : AV → Str → AV → H → (Int → H → Prop) → Prop := s25G J0 s18 s23 s30 s58 s60 s61
noncomputable def w25 (c : AV → Str → AV → H → (Int → H → Prop) → Prop) : Fun := fun xs h k => arg xs fun a0 xs => arg xs fun a1 xs => arg xs fun a2 xs => noArg xs <| asS a1 fun a1 => c a0 a1 a2 h fun r0 h => k (.int .i64 r0) h
theorem s25_eq (J : Joins) (c18 : AV → Str → H → (AV → Int → H → Prop) → Prop) (c23 : AV → H → (Int → H → Prop) → Prop) (c30 : AV → Str → H → (Int → H → Prop) → Prop) (c58 : AV → AV → H → (Int → H → Prop) → Prop) (c60 : AV → AV → AV → H → (Int → H → Prop) → Prop) (c61 : AV → AV → H → (Int → H → Prop) → Prop) (a0 : AV) (a1 : Str) (a2 : AV) (h : H) (k : AV → H → Prop) : denF ty (gam J [(18, w18 c18), (23, w23 c23), (30, w30 c30), (58, w58 c58), (60, w60 c60), (61, w61 c61)]) Tryz.f25 [a0, (.str a1), a2] h k = s25G J c18 c23 c30 c58 c60 c61 a0 a1 a2 h (fun r0 h => k (.int .i64 r0) h) := by kernel_rfl
noncomputable def g25 : Fun := w25 s25
theorem g25_ok : FunOk Tryz.prog 25 g25 := (fun_ok ty_ok mixed (gam_ok (J := J0) (tab_cons g18_ok (tab_cons g23_ok (tab_cons g30_ok (tab_cons g58_ok (tab_cons g60_ok (tab_cons g61_ok (tab_nil fls_fun)))))))) Tryz.func25 (fun args w => by simp)).imp fun xs h k e0 => by
  obtain ⟨a0, xs0, rfl, e1⟩ := arg_imp e0
  obtain ⟨a1, xs1, rfl, e2⟩ := arg_imp e1
  obtain ⟨a2, xs2, rfl, e3⟩ := arg_imp e2
  obtain ⟨rfl, e4⟩ := noArg_imp e3
  obtain ⟨a1, rfl, e5⟩ := asS_iff.1 e4
  exact (s25_eq J0 s18 s23 s30 s58 s60 s61 a0 a1 a2 h k).mpr e5
/-- stagepost/manifest.Open$1 -/
noncomputable def s24G (J : Joins) (c10 : AV → H → (Str → H → Prop) → Prop) (c25 : AV → Str → AV → H → (Int → H → Prop) → Prop) (a0 : AV) (a1 : AV) (a2 : AV) (h : H) (k : Int → H → Prop) : Prop :=
ldV a0 h fun v1 =>
ldV a1 h fun v2 =>
ldV a2 h fun v3 =>
c10 v2 h fun s5 h4 =>
ck (readsSo (aLoad1 a2 h4) v3) (
ck (readsSo (aLoad1 a0 h4) v1) (
c25 v1 s5 v3 h4 fun x7 h6 =>
k x7 h6))
noncomputable def s24 : AV → AV → AV → H → (Int → H → Prop) → Prop := s24G J0 s10 s25
noncomputable def w24 (c : AV → AV → AV → H → (Int → H → Prop) → Prop) : Fun := fun xs h k => arg xs fun a0 xs => arg xs fun a1 xs => arg xs fun a2 xs => noArg xs <| c a0 a1 a2 h fun r0 h => k (.int .i64 r0) h
theorem s24_eq (J : Joins) (c10 : AV → H → (Str → H → Prop) → Prop) (c25 : AV → Str → AV → H → (Int → H → Prop) → Prop) (a0 : AV) (a1 : AV) (a2 : AV) (h : H) (k : AV → H → Prop) : denF ty (gam J [(10, w10 c10), (25, w25 c25)]) Tryz.f24 [a0, a1, a2] h k = s24G J c10 c25 a0 a1 a2 h (fun r0 h => k (.int .i64 r0) h) := by kernel_rfl
noncomputable def g24 : Fun := w24 s24
theorem g24_ok : FunOk Tryz.prog 24 g24 := (fun_ok ty_ok mixed (gam_ok (J := J0) (tab_cons g10_ok (tab_cons g25_ok (tab_nil fls_fun)))) Tryz.func24 (fun args w => by simp)).imp fun xs h k e0 => by
  obtain ⟨a0, xs0, rfl, e1⟩ := arg_imp e0
  obtain ⟨a1, xs1, rfl, e2⟩ := arg_imp e1
  obtain ⟨a2, xs2, rfl, e3⟩ := arg_imp e2
  obtain ⟨rfl, e4⟩ := noArg_imp e3
  exact (s24_eq J0 s10 s25 a0 a1 a2 h k).mpr e4
/-- stagepost/manifest.Open$2 -/
noncomputable def s26G (J : Joins) (c25 : AV → Str → AV → H → (Int → H → Prop) → Prop) (a0 : AV) (a1 : AV) (h : H) (k : Int → H → Prop) : Prop :=
ldV a0 h fun v1 =>
ldV a1 h fun v2 =>
c25 v1 ⟨11, 120238284192284577920607607⟩ v2 h fun x4 h3 =>
k x4 h3
noncomputable def s26 : AV → AV → H → (Int → H → Prop) → Prop := s26G J0 s25
noncomputable def w26 (c : AV → AV → H → (Int → H → Prop) → Prop) : Fun := fun xs h k => arg xs fun a0 xs => arg xs fun a1 xs => noArg xs <| c a0 a1 h fun r0 h => k (.int .i64 r0) h
theorem s26_eq (J : Joins) (c25 : AV → Str → AV → H → (Int → H → Prop) → Prop) (a0 : AV) (a1 : AV) (h : H) (k : AV → H → Prop) : denF ty (gam J [(25, w25 c25)]) Tryz.f26 [a0, a1] h k = s26G J c25 a0 a1 h (fun r0 h => k (.int .i64 r0) h) := by kernel_rfl
noncomputable def g26 : Fun := w26 s26
theorem g26_ok : FunOk Tryz.prog 26 g26 := (fun_ok ty_ok mixed (gam_ok (J := J0) (tab_cons g25_ok (tab_nil fls_fun))) Tryz.func26 (fun args w => by simp)).imp fun xs h k e0 => by
  obtain ⟨a0, xs0, rfl, e1⟩ := arg_imp e0
  obtain ⟨a1, xs1, rfl, e2⟩ := arg_imp e1
  obtain ⟨rfl, e3⟩ := noArg_imp e2
  exact (s26_eq J0 s25 a0 a1 h k).mpr e3
/-- stagepost/manifest.steps -/
noncomputable def s23bG (J : Joins) (c24 : AV → AV → AV → H → (Int → H → Prop) → Prop) (c26 : AV → AV → H → (Int → H → Prop) → Prop) (c27 : AV → H → (Int → H → Prop) → Prop) (c28 : AV → H → (Int → H → Prop) → Prop) (c35 : AV → AV → H → (Int → H → Prop) → Prop) (c37 : AV → H → (Int → H → Prop) → Prop) (c58 : AV → AV → H → (Int → H → Prop) → Prop) (c60 : AV → AV → AV → H → (Int → H → Prop) → Prop) (c61 : AV → AV → H → (Int → H → Prop) → Prop) (a0 : AV) (h : H) (k : Int → H → Prop) : Prop :=
lenK a0 fun x1 =>
J.lp (α := AV × AV × AV × Unit) (fun r5 v2 d3 h4 =>
asI .i64 v2.2.2.1 fun x6 =>
asI .i64 v2.2.1 fun x7 =>
fB (ltI x6 x7) fun b8 =>
br b8 (
ixK 1 v2.1 v2.2.2.1 fun p9 =>
ldV p9 h4 fun v10 =>
callK (gam J [(24, w24 c24), (26, w26 c26), (27, w27 c27), (28, w28 c28), (35, w35 c35), (37, w37 c37), (58, w58 c58), (60, w60 c60), (61, w61 c61)]) v10 [] h4 fun v11 h12 =>
asI .i64 v11 fun x13 =>
fB (Bool.not (eqI x13 (Int.ofNat 0))) fun b14 =>
br b14 (
leaveK (gam J [(24, w24 c24), (26, w26 c26), (27, w27 c27), (28, w28 c28), (35, w35 c35), (37, w37 c37), (58, w58 c58), (60, w60 c60), (61, w61 c61)]) d3 h12 fun h15 =>
k x13 h15) (
asI .i64 v2.2.2.1 fun x16 =>
fI (wrapF .i64 (Int.add x16 (Int.ofNat 1))) fun x17 =>
r5 (v2.1, v2.2.1, (AV.int .i64 x17), ()) d3 h12)) (
leaveK (gam J [(24, w24 c24), (26, w26 c26), (27, w27 c27), (28, w28 c28), (35, w35 c35), (37, w37 c37), (58, w58 c58), (60, w60 c60), (61, w61 c61)]) d3 h4 fun h18 =>
k (Int.ofNat 0) h18)) (a0, (AV.int .i64 (Int.ofNat x1)), (AV.int .i64 (Int.ofNat 0)), ()) [] h
noncomputable def s23b : AV → H → (Int → H → Prop) → Prop := s23bG J0 s24 s26 s27 s28 s35 s37 s58 s60 s61
theorem s23b_eq (J : Joins) (c24 : AV → AV → AV → H → (Int → H → Prop) → Prop) (c26 : AV → AV → H → (Int → H → Prop) → Prop) (c27 : AV → H → (Int → H → Prop) → Prop) (c28 : AV → H → (Int → H → Prop) → Prop) (c35 : AV → AV → H → (Int → H → Prop) → Prop) (c37 : AV → H → (Int → H → Prop) → Prop) (c58 : AV → AV → H → (Int → H → Prop) → Prop) (c60 : AV → AV → AV → H → (Int → H → Prop) → Prop) (c61 : AV → AV → H → (Int → H → Prop) → Prop) (a0 : AV) (h : H) (k : AV → H → Prop) : denF ty (gam J [(24, w24 c24), (26, w26 c26), (27, w27 c27), (28, w28 c28), (35, w35 c35), (37, w37 c37), (58, w58 c58), (60, w60 c60), (61, w61 c61)]) Tryz.f23 [a0] h k = s23bG J c24 c26 c27 c28 c35 c37 c58 c60 c61 a0 h (fun r0 h => k (.int .i64 r0) h) := by kernel_rfl
noncomputable def g23b : Fun := w23 s23b
theorem g23b_ok : FunOk Tryz.prog 23 g23b := (fun_ok ty_ok mixed (gam_ok (J := J0) (tab_cons g24_ok (tab_cons g26_ok (tab_cons g27_ok (tab_cons g28_ok (tab_cons g35_ok (tab_cons g37_ok (tab_cons g58_ok (tab_cons g60_ok (tab_cons g61_ok (tab_nil fls_fun))))))))))) Tryz.func23 (fun args w => by simp)).imp fun xs h k e0 => by
  obtain ⟨a0, xs0, rfl, e1⟩ := arg_imp e0
  obtain ⟨rfl, e2⟩ := noArg_imp e1
  exact (s23b_eq J0 s24 s26 s27 s28 s35 s37 s58 s60 s61 a0 h k).mpr e2
/-- stagepost/manifest.Open -/
noncomputable def s6G (J : Joins) (c10 : AV → H → (Str → H → Prop) → Prop) (c18 : AV → Str → H → (AV → Int → H → Prop) → Prop) (c19 : AV → H → (AV → Int → Int → H → Prop) → Prop) (c20 : AV → H → (AV → Int → H → Prop) → Prop) (c21 : AV → H → (AV → H → Prop) → Prop) (c22 : AV → AV → H → (AV → Int → H → Prop) → Prop) (c23 : AV → H → (Int → H → Prop) → Prop) (c24 : AV → AV → AV → H → (Int → H → Prop) → Prop) (c26 : AV → AV → H → (Int → H → Prop) → Prop) (c27 : AV → H → (Int → H → Prop) → Prop) (c28 : AV → H → (Int → H → Prop) → Prop) (c30 : AV → Str → H → (Int → H → Prop) → Prop) (c31 : Int → H → (Str → H → Prop) → Prop) (a0 : AV) (h : H) (k : AV → Int → H → Prop) : Prop :=
ck (isOne a0) (
pushK (.cells false 22 [a0]) h fun n1 h2 =>
ldV (AV.ptr n1 0) h2 fun v3 =>
c18 v3 ⟨7, 27995157100326516⟩ h2 fun v5 x6 h4 =>
fB (eqI x6 (Int.ofNat 1)) fun b7 =>
J.jn (fun v8 h9 =>
J.jn (fun v11 h12 =>
pickB (AV.bool b7) (AV.bool true) v11 fun b16 =>
br b16 (
k AV.nilp x6 h12) (
ldV (AV.ptr n1 0) h12 fun v17 =>
c19 v17 h12 fun v19 x20 x21 h18 =>
pushK (.cells false 39 [(.nils), (.int .i64 0), (.int .i64 0), (.int .i64 0)]) h18 fun n22 h23 =>
Go.Am.asAgg v19 fun l25 =>
stN 4 (AV.ptr n22 0) l25 h23 fun h24 =>
fB (Bool.not (eqI x21 (Int.ofNat 0))) fun b26 =>
br b26 (
k AV.nilp x21 h24) (
fB (eqI x20 (Int.ofNat 999999)) fun b27 =>
br b27 (
k AV.nilp (Int.ofNat 3) h24) (
ldV (AV.ptr n1 0) h24 fun v28 =>
ldN 4 (AV.ptr n22 0) h24 fun l29 =>
fI (wrapF .i64 (Int.add x20 (Int.ofNat 1))) fun x30 =>
ck (isOne v28) (ck (Nat.beq (List.length l29) 4) (op' (lputAt 1 l29 [v28, (.nils), (.int .i64 0), (.int .i64 0), (.int .i64 0), (.int .i64 0), (.bool false), (.bool false)]) fun l31 =>
op' (lputAt 5 [(AV.int .i64 x30)] l31) fun l32 =>
op' (lputAt 7 [(AV.bool true)] l32) fun l33 =>
pushK (.cells false 49 l33) h24 fun n34 h35 =>
pushK (.cells false 26 [(.nilp)]) h35 fun n36 h37 =>
stV (AV.ptr n36 0) (AV.ptr n34 0) h37 fun h38 =>
ldN 4 (AV.ptr n22 0) h38 fun l39 =>
c21 (AV.agg l39) h38 fun v41 h40 =>
c20 v41 h40 fun v43 x44 h42 =>
c22 AV.nils v43 h42 fun v46 x47 h45 =>
pushK (.cells false 60 [(.nils)]) h45 fun n48 h49 =>
stV (AV.ptr n48 0) v46 h49 fun h50 =>
fB (Bool.not (eqI x47 (Int.ofNat 0))) fun b51 =>
br b51 (
k AV.nilp x47 h50) (
ldV (AV.ptr n36 0) h50 fun v52 =>
c10 v52 h50 fun s54 h53 =>
pushK (.bytes 5 0 true s54) h53 fun n55 h56 =>
c22 AV.nils (AV.slice n55 0 s54.len s54.len 1 false) h56 fun v58 x59 h57 =>
pushK (.cells false 60 [(.nils)]) h57 fun n60 h61 =>
stV (AV.ptr n60 0) v58 h61 fun h62 =>
ldV (AV.ptr n1 0) h62 fun v63 =>
ldV (AV.ptr n1 0) h62 fun v64 =>
pushK (.cells false 70 [(AV.func (.func 24) [] [(AV.ptr n1 0), (AV.ptr n36 0), (AV.ptr n48 0)]), (AV.func (.func 26) [] [(AV.ptr n1 0), (AV.ptr n60 0)]), (AV.func (.func 27) [v63] []), (AV.func (.func 28) [] [(AV.ptr n1 0)]), (AV.func (.func 27) [v64] [])]) h62 fun n65 h66 =>
c23 (AV.slice n65 0 5 5 1 true) h66 fun x68 h67 =>
J.jd (α := AV × AV × Unit) (fun v69 d70 h71 =>
asI .i64 v69.1 fun x73 =>
fB (Bool.not (eqI x73 (Int.ofNat 0))) fun b74 =>
br b74 (
leaveK (gam J [(10, w10 c10), (18, w18 c18), (19, w19 c19), (20, w20 c20), (21, w21 c21), (22, w22 c22), (23, w23 c23), (24, w24 c24), (26, w26 c26), (27, w27 c27), (28, w28 c28), (30, w30 c30), (31, w31 c31)]) d70 h71 fun h75 =>
asI .i64 v69.1 fun x76 =>
k AV.nilp x76 h75) (
ldV v69.2.1 h71 fun v77 =>
leaveK (gam J [(10, w10 c10), (18, w18 c18), (19, w19 c19), (20, w20 c20), (21, w21 c21), (22, w22 c22), (23, w23 c23), (24, w24 c24), (26, w26 c26), (27, w27 c27), (28, w28 c28), (30, w30 c30), (31, w31 c31)]) d70 h71 fun h78 =>
k v77 (Int.ofNat 0) h78)) fun j72 =>
fB (eqI x68 (Int.ofNat 0)) fun b79 =>
J.jn (fun v80 h81 =>
J.jn (fun v83 h84 =>
pickB (AV.bool b79) v83 (AV.bool false) fun b88 =>
br b88 (
ldV (AV.ptr n1 0) h84 fun v89 =>
c31 x20 h84 fun s91 h90 =>
ck (readsSo (aLoad1 (AV.ptr n1 0) h90) v89) (
c30 v89 s91 h90 fun x93 h92 =>
j72 ((AV.int .i64 x93), (AV.ptr n36 0), ()) [] h92)) (
j72 ((AV.int .i64 x68), (AV.ptr n36 0), ()) [] h84)) fun j85 =>
br b79 (
asI .i64 v80 fun x86 =>
fB (ltI (Int.ofNat 0) x86) fun b87 =>
j85 (AV.bool b87) h81) (
j85 skipV h81)) fun j82 =>
br b79 (
j82 (AV.int .i64 x20) h67) (
j82 skipV h67)))))))) fun j13 =>
br b7 (
j13 skipV h9) (
asI .i64 v8 fun x14 =>
fB (eqI x14 (Int.ofNat 7)) fun b15 =>
j13 (AV.bool b15) h9)) fun j10 =>
br b7 (
j10 skipV h4) (
j10 (AV.int .i64 x6) h4))
noncomputable def s6 : AV → H → (AV → Int → H → Prop) → Prop := s6G J0 s10 s18 s19 s20 s21 s22 s23b s24 s26 s27 s28 s30 s31
noncomputable def w6 (c : AV → H → (AV → Int → H → Prop) → Prop) : Fun := fun xs h k => arg xs fun a0 xs => noArg xs <| c a0 h fun r0 r1 h => k (.tuple [r0, (.int .i64 r1)]) h
theorem s6_eq (J : Joins) (c10 : AV → H → (Str → H → Prop) → Prop) (c18 : AV → Str → H → (AV → Int → H → Prop) → Prop) (c19 : AV → H → (AV → Int → Int → H → Prop) → Prop) (c20 : AV → H → (AV → Int → H → Prop) → Prop) (c21 : AV → H → (AV → H → Prop) → Prop) (c22 : AV → AV → H → (AV → Int → H → Prop) → Prop) (c23 : AV → H → (Int → H → Prop) → Prop) (c24 : AV → AV → AV → H → (Int → H → Prop) → Prop) (c26 : AV → AV → H → (Int → H → Prop) → Prop) (c27 : AV → H → (Int → H → Prop) → Prop) (c28 : AV → H → (Int → H → Prop) → Prop) (c30 : AV → Str → H → (Int → H → Prop) → Prop) (c31 : Int → H → (Str → H → Prop) → Prop) (a0 : AV) (h : H) (k : AV → H → Prop) : denF ty (gam J [(10, w10 c10), (18, w18 c18), (19, w19 c19), (20, w20 c20), (21, w21 c21), (22, w22 c22), (23, w23 c23), (24, w24 c24), (26, w26 c26), (27, w27 c27), (28, w28 c28), (30, w30 c30), (31, w31 c31)]) Tryz.f6 [a0] h k = s6G J c10 c18 c19 c20 c21 c22 c23 c24 c26 c27 c28 c30 c31 a0 h (fun r0 r1 h => k (.tuple [r0, (.int .i64 r1)]) h) := by kernel_rfl
noncomputable def g6 : Fun := w6 s6
theorem g6_ok : FunOk Tryz.prog 6 g6 := (fun_ok ty_ok mixed (gam_ok (J := J0) (tab_cons g10_ok (tab_cons g18_ok (tab_cons g19_ok (tab_cons g20_ok (tab_cons g21_ok (tab_cons g22_ok (tab_cons g23b_ok (tab_cons g24_ok (tab_cons g26_ok (tab_cons g27_ok (tab_cons g28_ok (tab_cons g30_ok (tab_cons g31_ok (tab_nil fls_fun))))))))))))))) Tryz.func6 (fun args w => by simp)).imp fun xs h k e0 => by
  obtain ⟨a0, xs0, rfl, e1⟩ := arg_imp e0
  obtain ⟨rfl, e2⟩ := noArg_imp e1
  exact (s6_eq J0 s10 s18 s19 s20 s21 s22 s23b s24 s26 s27 s28 s30 s31 a0 h k).mpr e2
/-- (*stagepost/vfs.FS).On -/
noncomputable def s33G (J : Joins) (c40 : AV → AV → H → (Int → H → Prop) → Prop) (a0 : AV) (h : H) (k : Bool → H → Prop) : Prop :=
c40 a0 AV.nils h fun x2 h1 =>
fB (eqI x2 (Int.ofNat 0)) fun b3 =>
k b3 h1
noncomputable def s33 : AV → H → (Bool → H → Prop) → Prop := s33G J0 s40
noncomputable def w33 (c : AV → H → (Bool → H → Prop) → Prop) : Fun := fun xs h k => arg xs fun a0 xs => noArg xs <| c a0 h fun r0 h => k (.bool r0) h
theorem s33_eq (J : Joins) (c40 : AV → AV → H → (Int → H → Prop) → Prop) (a0 : AV) (h : H) (k : AV → H → Prop) : denF ty (gam J [(40, w40 c40)]) Tryz.f33 [a0] h k = s33G J c40 a0 h (fun r0 h => k (.bool r0) h) := by kernel_rfl
noncomputable def g33 : Fun := w33 s33
theorem g33_ok : FunOk Tryz.prog 33 g33 := (fun_ok ty_ok mixed (gam_ok (J := J0) (tab_cons g40_ok (tab_nil fls_fun))) Tryz.func33 (fun args w => by simp)).imp fun xs h k e0 => by
  obtain ⟨a0, xs0, rfl, e1⟩ := arg_imp e0
  obtain ⟨rfl, e2⟩ := noArg_imp e1
  exact (s33_eq J0 s40 a0 h k).mpr e2
/-- (*stagepost/manifest.Manifest).Add -/
noncomputable def s8G (J : Joins) (c20 : AV → H → (AV → Int → H → Prop) → Prop) (c22 : AV → AV → H → (AV → Int → H → Prop) → Prop) (c23 : AV → H → (Int → H → Prop) → Prop) (c32 : AV → H → (Bool → H → Prop) → Prop) (c33 : AV → H → (Bool → H → Prop) → Prop) (c34 : AV → AV → H → (AV → Int → H → Prop) → Prop) (c35 : AV → AV → H → (Int → H → Prop) → Prop) (c37 : AV → H → (Int → H → Prop) → Prop) (a0 : AV) (a1 : AV) (h : H) (k : Int → H → Prop) : Prop :=
ck (isOne a0) (
pushK (.cells false 26 [a0]) h fun n1 h2 =>
Go.Am.asAgg a1 fun l5 =>
pushK (.cells false 34 l5) h2 fun n3 h4 =>
ldV (AV.ptr n1 0) h4 fun v6 =>
c32 v6 h4 fun b8 h7 =>
br b8 (
k (Int.ofNat 1) h7) (
ldV (AV.ptr n1 0) h7 fun v9 =>
okNil v9 (
faK 6 v9 fun p10 =>
ldB p10 h7 fun b11 =>
J.jn (fun v12 h13 =>
J.jn (fun v16 h17 =>
J.jn (fun v19 h20 =>
J.jn (fun v23 h24 =>
J.jn (fun v27 h28 =>
J.jn (fun v32 h33 =>
pickB (AV.bool b11) (AV.bool true) v32 fun b37 =>
br b37 (
ldV (AV.ptr n1 0) h33 fun v38 =>
okNil v38 (
faK 6 v38 fun p39 =>
stV p39 (AV.bool true) h33 fun h40 =>
k (Int.ofNat 7) h40)) (
ldN 5 (AV.ptr n3 0) h33 fun l41 =>
c20 (AV.agg l41) h33 fun v43 x44 h42 =>
pushK (.cells false 60 [(.nils)]) h42 fun n45 h46 =>
stV (AV.ptr n45 0) v43 h46 fun h47 =>
fB (Bool.not (eqI x44 (Int.ofNat 0))) fun b48 =>
br b48 (
k x44 h47) (
ldV (AV.ptr n1 0) h47 fun v49 =>
okNil v49 (
faK 1 v49 fun p50 =>
ldN 4 p50 h47 fun l51 =>
ldN 5 (AV.ptr n3 0) h47 fun l52 =>
pushK (.cells false 39 [(.nils), (.int .i64 0), (.int .i64 0), (.int .i64 0)]) h47 fun n53 h54 =>
c34 (AV.agg l51) (AV.agg l52) h54 fun v56 x57 h55 =>
Go.Am.asAgg v56 fun l59 =>
stN 4 (AV.ptr n53 0) l59 h55 fun h58 =>
fB (Bool.not (eqI x57 (Int.ofNat 0))) fun b60 =>
br b60 (
k x57 h58) (
ldV (AV.ptr n45 0) h58 fun v61 =>
c22 AV.nils v61 h58 fun v63 x64 h62 =>
stV (AV.ptr n45 0) v63 h62 fun h65 =>
fB (Bool.not (eqI x64 (Int.ofNat 0))) fun b66 =>
br b66 (
k x64 h65) (
pushK (.cells false 70 [(AV.func (.func 35) [] [(AV.ptr n1 0), (AV.ptr n45 0)]), (AV.func (.func 37) [] [(AV.ptr n1 0)])]) h65 fun n67 h68 =>
c23 (AV.slice n67 0 2 2 1 true) h68 fun x70 h69 =>
fB (Bool.not (eqI x70 (Int.ofNat 0))) fun b71 =>
br b71 (
ldV (AV.ptr n1 0) h69 fun v72 =>
ldV (AV.ptr n1 0) h69 fun v73 =>
okNil v73 (
faK 6 v73 fun p74 =>
ldB p74 h69 fun b75 =>
J.jn (fun v76 h77 =>
J.jn (fun v79 h80 =>
pickB (AV.bool b75) (AV.bool true) v79 fun b84 =>
okNil v72 (
faK 6 v72 fun p85 =>
stV p85 (AV.bool b84) h80 fun h86 =>
k x70 h86)) fun j81 =>
br b75 (
j81 skipV h77) (
asI .i64 v76 fun x82 =>
fB (eqI x82 (Int.ofNat 7)) fun b83 =>
j81 (AV.bool b83) h77)) fun j78 =>
br b75 (
j78 skipV h69) (
j78 (AV.int .i64 x70) h69))) (
ldV (AV.ptr n1 0) h69 fun v87 =>
ldN 4 (AV.ptr n53 0) h69 fun l88 =>
okNil v87 (
faK 1 v87 fun p89 =>
stN 4 p89 l88 h69 fun h90 =>
k (Int.ofNat 0) h90)))))))) fun j34 =>
br b11 (
j34 skipV h28) (
asB v27 fun b35 =>
fB (Bool.not b35) fun b36 =>
j34 (AV.bool b36) h28)) fun j29 =>
br b11 (
j29 skipV h24) (
c33 v23 h24 fun b31 h30 =>
j29 (AV.bool b31) h30)) fun j25 =>
br b11 (
j25 skipV h20) (
ldV v19 h20 fun v26 =>
j25 v26 h20)) fun j21 =>
br b11 (
j21 skipV h17) (
faK 0 v16 fun p22 =>
j21 p22 h17)) fun j18 =>
br b11 (
j18 skipV h13) (
okNil v12 (
j18 v12 h13))) fun j14 =>
br b11 (
j14 skipV h7) (
ldV (AV.ptr n1 0) h7 fun v15 =>
j14 v15 h7))))
noncomputable def s8 : AV → AV → H → (Int → H → Prop) → Prop := s8G J0 s20 s22 s23b s32 s33 s34 s35 s37
noncomputable def w8 (c : AV → AV → H → (Int → H → Prop) → Prop) : Fun := fun xs h k => arg xs fun a0 xs => arg xs fun a1 xs => noArg xs <| c a0 a1 h fun r0 h => k (.int .i64 r0) h
theorem s8_eq (J : Joins) (c20 : AV → H → (AV → Int → H → Prop) → Prop) (c22 : AV → AV → H → (AV → Int → H → Prop) → Prop) (c23 : AV → H → (Int → H → Prop) → Prop) (c32 : AV → H → (Bool → H → Prop) → Prop) (c33 : AV → H → (Bool → H → Prop) → Prop) (c34 : AV → AV → H → (AV → Int → H → Prop) → Prop) (c35 : AV → AV → H → (Int → H → Prop) → Prop) (c37 : AV → H → (Int → H → Prop) → Prop) (a0 : AV) (a1 : AV) (h : H) (k : AV → H → Prop) : denF ty (gam J [(20, w20 c20), (22, w22 c22), (23, w23 c23), (32, w32 c32), (33, w33 c33), (34, w34 c34), (35, w35 c35), (37, w37 c37)]) Tryz.f8 [a0, a1] h k = s8G J c20 c22 c23 c32 c33 c34 c35 c37 a0 a1 h (fun r0 h => k (.int .i64 r0) h) := by kernel_rfl
noncomputable def g8 : Fun := w8 s8
theorem g8_ok : FunOk Tryz.prog 8 g8 := (fun_ok ty_ok mixed (gam_ok (J := J0) (tab_cons g20_ok (tab_cons g22_ok (tab_cons g23b_ok (tab_cons g32_ok (tab_cons g33_ok (tab_cons g34_ok (tab_cons g35_ok (tab_cons g37_ok (tab_nil fls_fun)))))))))) Tryz.func8 (fun args w => by simp)).imp fun xs h k e0 => by
  obtain ⟨a0, xs0, rfl, e1⟩ := arg_imp e0
  obtain ⟨a1, xs1, rfl, e2⟩ := arg_imp e1
  obtain ⟨rfl, e3⟩ := noArg_imp e2
  exact (s8_eq J0 s20 s22 s23b s32 s33 s34 s35 s37 a0 a1 h k).mpr e3
/-- stagepost/stagepostlaw10.meta -/
noncomputable def s15G (J : Joins) (a0 : Int) (a1 : Int) (a2 : Str) (a3 : Str) (h : H) (k : AV → H → Prop) : Prop :=
pushK (.cells false 45 [(.int .i64 0), (.int .i64 0), (.int .i64 0), (.str ⟨0, 0⟩), (.str ⟨0, 0⟩)]) h fun n1 h2 =>
stN 5 (AV.ptr n1 0) [(AV.int .i64 a0), (AV.int .i64 a1), (AV.int .i64 (Int.ofNat 3)), (AV.str a2), (AV.str a3)] h2 fun h3 =>
ldN 5 (AV.ptr n1 0) h3 fun l4 =>
k (AV.agg l4) h3
noncomputable def s15 : Int → Int → Str → Str → H → (AV → H → Prop) → Prop := s15G J0 
noncomputable def w15 (c : Int → Int → Str → Str → H → (AV → H → Prop) → Prop) : Fun := fun xs h k => arg xs fun a0 xs => arg xs fun a1 xs => arg xs fun a2 xs => arg xs fun a3 xs => noArg xs <| asI .i64 a0 fun a0 => asI .i64 a1 fun a1 => asS a2 fun a2 => asS a3 fun a3 => c a0 a1 a2 a3 h fun r0 h => k r0 h
theorem s15_eq (J : Joins) (a0 : Int) (a1 : Int) (a2 : Str) (a3 : Str) (h : H) (k : AV → H → Prop) : denF ty (gam J []) Tryz.f15 [(.int .i64 a0), (.int .i64 a1), (.str a2), (.str a3)] h k = s15G J  a0 a1 a2 a3 h (fun r0 h => k r0 h) := by kernel_rfl
noncomputable def g15 : Fun := w15 s15
theorem g15_ok : FunOk Tryz.prog 15 g15 := (fun_ok ty_ok mixed (gam_ok (J := J0) (tab_nil fls_fun)) Tryz.func15 (fun args w => by simp)).imp fun xs h k e0 => by
  obtain ⟨a0, xs0, rfl, e1⟩ := arg_imp e0
  obtain ⟨a1, xs1, rfl, e2⟩ := arg_imp e1
  obtain ⟨a2, xs2, rfl, e3⟩ := arg_imp e2
  obtain ⟨a3, xs3, rfl, e4⟩ := arg_imp e3
  obtain ⟨rfl, e5⟩ := noArg_imp e4
  obtain ⟨a0, rfl, e6⟩ := asI_iff.1 e5
  obtain ⟨a1, rfl, e7⟩ := asI_iff.1 e6
  obtain ⟨a2, rfl, e8⟩ := asS_iff.1 e7
  obtain ⟨a3, rfl, e9⟩ := asS_iff.1 e8
  exact (s15_eq J0  a0 a1 a2 a3 h k).mpr e9
/-- stagepost/stagepostlaw10.edit -/
noncomputable def s9G (J : Joins) (c15 : Int → Int → Str → Str → H → (AV → H → Prop) → Prop) (h : H) (k : AV → H → Prop) : Prop :=
pushK (.cells false 34 [(.nils), (.nils), (.int .i64 0), (.int .i64 0), (.int .i64 0)]) h fun n1 h2 =>
c15 (Int.ofNat 1) (Int.ofNat 0) ⟨1, 97⟩ ⟨1, 99⟩ h2 fun v4 h3 =>
Go.Am.asAgg v4 fun l7 =>
ck (Nat.beq (List.length l7) 5) (op' (lputAt 0 l7 [(.int .i64 0), (.int .i64 0), (.int .i64 0), (.str ⟨0, 0⟩), (.str ⟨0, 0⟩)]) fun l8 =>
pushK (.cells false 45 l8) h3 fun n5 h6 =>
stN 5 (AV.ptr n1 0) [(.nils), (AV.slice n5 0 1 1 5 true), (AV.int .i64 (Int.ofNat 2)), (AV.int .i64 (Int.ofNat 5)), (AV.int .i64 (Int.ofNat 2))] h6 fun h9 =>
ldN 5 (AV.ptr n1 0) h9 fun l10 =>
k (AV.agg l10) h9)
noncomputable def s9 : H → (AV → H → Prop) → Prop := s9G J0 s15
noncomputable def w9 (c : H → (AV → H → Prop) → Prop) : Fun := fun xs h k => noArg xs <| c  h fun r0 h => k r0 h
theorem s9_eq (J : Joins) (c15 : Int → Int → Str → Str → H → (AV → H → Prop) → Prop)  (h : H) (k : AV → H → Prop) : denF ty (gam J [(15, w15 c15)]) Tryz.f9 [] h k = s9G J c15  h (fun r0 h => k r0 h) := by kernel_rfl
noncomputable def g9 : Fun := w9 s9
theorem g9_ok : FunOk Tryz.prog 9 g9 := (fun_ok ty_ok mixed (gam_ok (J := J0) (tab_cons g15_ok (tab_nil fls_fun))) Tryz.func9 (fun args w => by simp)).imp fun xs h k e0 => by
  obtain ⟨rfl, e1⟩ := noArg_imp e0
  exact (s9_eq J0 s15  h k).mpr e1
/-- (*stagepost/manifest.Manifest).Version -/
noncomputable def s12G (J : Joins) (c32 : AV → H → (Bool → H → Prop) → Prop) (c39 : AV → H → (AV → H → Prop) → Prop) (a0 : AV) (h : H) (k : AV → H → Prop) : Prop :=
pushK (.cells false 39 [(.nils), (.int .i64 0), (.int .i64 0), (.int .i64 0)]) h fun n1 h2 =>
c32 a0 h2 fun b4 h3 =>
br b4 (
stN 4 (AV.ptr n1 0) [(.nils), (.int .i64 0), (.int .i64 0), (.int .i64 0)] h3 fun h5 =>
ldN 4 (AV.ptr n1 0) h5 fun l6 =>
k (AV.agg l6) h5) (
okNil a0 (
faK 1 a0 fun p7 =>
ldN 4 p7 h3 fun l8 =>
pushK (.cells false 39 [(.nils), (.int .i64 0), (.int .i64 0), (.int .i64 0)]) h3 fun n9 h10 =>
stN 4 (AV.ptr n9 0) l8 h10 fun h11 =>
ldV (AV.ptr n9 0) h11 fun v12 =>
c39 v12 h11 fun v14 h13 =>
stV (AV.ptr n9 0) v14 h13 fun h15 =>
ldN 4 (AV.ptr n9 0) h15 fun l16 =>
stN 4 (AV.ptr n1 0) l16 h15 fun h17 =>
ldN 4 (AV.ptr n1 0) h17 fun l18 =>
k (AV.agg l18) h17))
noncomputable def s12 : AV → H → (AV → H → Prop) → Prop := s12G J0 s32 s39
noncomputable def w12 (c : AV → H → (AV → H → Prop) → Prop) : Fun := fun xs h k => arg xs fun a0 xs => noArg xs <| c a0 h fun r0 h => k r0 h
theorem s12_eq (J : Joins) (c32 : AV → H → (Bool → H → Prop) → Prop) (c39 : AV → H → (AV → H → Prop) → Prop) (a0 : AV) (h : H) (k : AV → H → Prop) : denF ty (gam J [(32, w32 c32), (39, w39 c39)]) Tryz.f12 [a0] h k = s12G J c32 c39 a0 h (fun r0 h => k r0 h) := by kernel_rfl
noncomputable def g12 : Fun := w12 s12
theorem g12_ok : FunOk Tryz.prog 12 g12 := (fun_ok ty_ok mixed (gam_ok (J := J0) (tab_cons g32_ok (tab_cons g39_ok (tab_nil fls_fun)))) Tryz.func12 (fun args w => by simp)).imp fun xs h k e0 => by
  obtain ⟨a0, xs0, rfl, e1⟩ := arg_imp e0
  obtain ⟨rfl, e2⟩ := noArg_imp e1
  exact (s12_eq J0 s32 s39 a0 h k).mpr e2
/-- stagepost/stagepostkit.SameTexts -/
noncomputable def s13G (J : Joins) (a0 : AV) (a1 : AV) (h : H) (k : Bool → H → Prop) : Prop :=
lenK a0 fun x1 =>
lenK a1 fun x2 =>
fB (Bool.not (eqI (Int.ofNat x1) (Int.ofNat x2))) fun b3 =>
br b3 (
k false h) (
J.lp (α := AV × AV × AV × Unit) (fun r7 v4 d5 h6 =>
lenK v4.1 fun x8 =>
asI .i64 v4.2.2.1 fun x9 =>
fB (ltI x9 (Int.ofNat x8)) fun b10 =>
br b10 (
ixK 1 v4.1 v4.2.2.1 fun p11 =>
ldS p11 h6 fun s12 =>
ixK 1 v4.2.1 v4.2.2.1 fun p13 =>
ldS p13 h6 fun s14 =>
fB (Bool.not (Str.beq s12 s14)) fun b15 =>
br b15 (
leaveK (gam J []) d5 h6 fun h16 =>
k false h16) (
asI .i64 v4.2.2.1 fun x17 =>
fI (wrapF .i64 (Int.add x17 (Int.ofNat 1))) fun x18 =>
r7 (v4.1, v4.2.1, (AV.int .i64 x18), ()) d5 h6)) (
leaveK (gam J []) d5 h6 fun h19 =>
k true h19)) (a0, a1, (AV.int .i64 (Int.ofNat 0)), ()) [] h)
noncomputable def s13 : AV → AV → H → (Bool → H → Prop) → Prop := s13G J0 
noncomputable def w13 (c : AV → AV → H → (Bool → H → Prop) → Prop) : Fun := fun xs h k => arg xs fun a0 xs => arg xs fun a1 xs => noArg xs <| c a0 a1 h fun r0 h => k (.bool r0) h
theorem s13_eq (J : Joins) (a0 : AV) (a1 : AV) (h : H) (k : AV → H → Prop) : denF ty (gam J []) Tryz.f13 [a0, a1] h k = s13G J  a0 a1 h (fun r0 h => k (.bool r0) h) := by kernel_rfl
noncomputable def g13 : Fun := w13 s13
theorem g13_ok : FunOk Tryz.prog 13 g13 := (fun_ok ty_ok mixed (gam_ok (J := J0) (tab_nil fls_fun)) Tryz.func13 (fun args w => by simp)).imp fun xs h k e0 => by
  obtain ⟨a0, xs0, rfl, e1⟩ := arg_imp e0
  obtain ⟨a1, xs1, rfl, e2⟩ := arg_imp e1
  obtain ⟨rfl, e3⟩ := noArg_imp e2
  exact (s13_eq J0  a0 a1 h k).mpr e3
/-- maps.Keys[map[string]int,string,int]$1 -/
noncomputable def s76G (J : Joins) (cd : Code → Ks → List AV → List Dfr → H → Prop) (a0 : AV) (a1 : AV) (h : H) (k : H → Prop) : Prop :=
ldV a1 h fun v1 =>
aRangeK v1 h fun v2 h3 =>
J.lp (α := AV × AV × Unit) (fun r7 v4 d5 h6 =>
aNext v4.2.1 h6 fun v8 h9 =>
asTup v8 fun l10 =>
op' (lgetO l10 0) fun v11 =>
asB v11 fun b12 =>
br b12 (
op' (aEntry v4.2.1 h9) fun v13 =>
asTup v13 fun l14 =>
op' (lgetO l14 0) fun v15 =>
asS v15 fun s16 =>
callK (gamI J [] [] cd) v4.1 [(AV.str s16)] h9 fun v17 h18 =>
asB v17 fun b19 =>
fB (Bool.not b19) fun b20 =>
br b20 (
leaveK (gamI J [] [] cd) d5 h18 fun h21 =>
k  h21) (
r7 (v4.1, v4.2.1, ()) d5 h18)) (
leaveK (gamI J [] [] cd) d5 h9 fun h22 =>
k  h22)) (a0, v2, ()) [] h3
noncomputable def s76 : AV → AV → H → (H → Prop) → Prop := s76G J0  noCode
noncomputable def w76 (c : AV → AV → H → (H → Prop) → Prop) : Fun := fun xs h k => arg xs fun a0 xs => arg xs fun a1 xs => noArg xs <| c a0 a1 h fun  h => k (.tuple []) h
theorem s76_eq (J : Joins) (cd : Code → Ks → List AV → List Dfr → H → Prop) (a0 : AV) (a1 : AV) (h : H) (k : AV → H → Prop) : denF ty (gamI J [] [] cd) Tryz.f76 [a0, a1] h k = s76G J  cd a0 a1 h (fun  h => k (.tuple []) h) := by kernel_rfl
noncomputable def g76 : Fun := w76 s76
theorem g76_ok : FunOk Tryz.prog 76 g76 := (fun_ok ty_ok mixed (gamI_ok (J := J0) (tab_nil fls_fun) (tab_nil fls_it) noCode_ok) Tryz.func76 (fun args w => by simp)).imp fun xs h k e0 => by
  obtain ⟨a0, xs0, rfl, e1⟩ := arg_imp e0
  obtain ⟨a1, xs1, rfl, e2⟩ := arg_imp e1
  obtain ⟨rfl, e3⟩ := noArg_imp e2
  exact (s76_eq J0  noCode a0 a1 h k).mpr e3
/-- function 76 as function 100 ranges over it -/
noncomputable def s76_100 : AV → AV → H → (H → Prop) → Prop := s76G J0  (denR ty (gamI J0 [] [] noCode))
theorem i76_100_ok : ItOk Tryz.prog 76 (w76 s76_100) := (it_ok ty_ok mixed (gamI_ok (J := J0) (tab_nil fls_fun) (tab_nil fls_it) (code_ok ty_ok mixed (gamI_ok (J := J0) (tab_nil fls_fun) (tab_nil fls_it) noCode_ok))) Tryz.func76 (fun args w => by simp)).imp fun xs h k e0 => by
  obtain ⟨a0, xs0, rfl, e1⟩ := arg_imp e0
  obtain ⟨a1, xs1, rfl, e2⟩ := arg_imp e1
  obtain ⟨rfl, e3⟩ := noArg_imp e2
  exact (s76_eq J0  (denR ty (gamI J0 [] [] noCode)) a0 a1 h k).mpr e3
/-- slices.AppendSeq[[]string,string] -/
noncomputable def s100G (J : Joins) (i76 : AV → AV → H → (H → Prop) → Prop) (a0 : AV) (a1 : AV) (h : H) (k : AV → H → Prop) : Prop :=
ck (isOne a0) (
pushK (.cells false 42 [a0]) h fun n1 h2 =>
J.jd (α := AV × Unit) (fun v3 d4 h5 =>
ldV v3.1 h5 fun v7 =>
leaveK (gamI J [] [(76, w76 i76)] noCode) d4 h5 fun h8 =>
k v7 h8) fun j6 =>
rfK (gamI J [] [(76, w76 i76)] noCode) a1 [7] (rfAt Tryz.f100 0) [a0, a1, (AV.ptr n1 0), AV.junk, AV.nils, AV.junk, a1, AV.junk, AV.junk, AV.junk, AV.junk, AV.junk, AV.junk] h2 fun n9 n10 h11 =>
endR n9 n10 (fun d12 h13 =>
j6 ((AV.ptr n1 0), ()) d12 h13) (fun d12 h13 =>
leaveK (gamI J [] [(76, w76 i76)] noCode) d12 h13 fun h15 =>
k AV.nils h15) (fun i14 d12 h13 =>
exB (Nat.beq i14 0) (fun d12 h13 =>
j6 ((AV.ptr n1 0), ()) d12 h13) (fun d12 h13 =>
False) d12 h13) [] h11)
noncomputable def s100 : AV → AV → H → (AV → H → Prop) → Prop := s100G J0  s76_100
noncomputable def w100 (c : AV → AV → H → (AV → H → Prop) → Prop) : Fun := fun xs h k => arg xs fun a0 xs => arg xs fun a1 xs => noArg xs <| c a0 a1 h fun r0 h => k r0 h
theorem s100_eq (J : Joins) (i76 : AV → AV → H → (H → Prop) → Prop) (a0 : AV) (a1 : AV) (h : H) (k : AV → H → Prop) : denF ty (gamI J [] [(76, w76 i76)] noCode) Tryz.f100 [a0, a1] h k = s100G J  i76 a0 a1 h (fun r0 h => k r0 h) := by kernel_rfl
noncomputable def g100 : Fun := w100 s100
theorem g100_ok : FunOk Tryz.prog 100 g100 := (fun_ok ty_ok mixed (gamI_ok (J := J0) (tab_nil fls_fun) (tab_cons i76_100_ok (tab_nil fls_it)) noCode_ok) Tryz.func100 (fun args w => by simp)).imp fun xs h k e0 => by
  obtain ⟨a0, xs0, rfl, e1⟩ := arg_imp e0
  obtain ⟨a1, xs1, rfl, e2⟩ := arg_imp e1
  obtain ⟨rfl, e3⟩ := noArg_imp e2
  exact (s100_eq J0  s76_100 a0 a1 h k).mpr e3
/-- slices.Collect[string] -/
noncomputable def s74G (J : Joins) (c100 : AV → AV → H → (AV → H → Prop) → Prop) (a0 : AV) (h : H) (k : AV → H → Prop) : Prop :=
c100 AV.nils a0 h fun v2 h1 =>
k v2 h1
noncomputable def s74 : AV → H → (AV → H → Prop) → Prop := s74G J0 s100
noncomputable def w74 (c : AV → H → (AV → H → Prop) → Prop) : Fun := fun xs h k => arg xs fun a0 xs => noArg xs <| c a0 h fun r0 h => k r0 h
theorem s74_eq (J : Joins) (c100 : AV → AV → H → (AV → H → Prop) → Prop) (a0 : AV) (h : H) (k : AV → H → Prop) : denF ty (gam J [(100, w100 c100)]) Tryz.f74 [a0] h k = s74G J c100 a0 h (fun r0 h => k r0 h) := by kernel_rfl
noncomputable def g74 : Fun := w74 s74
theorem g74_ok : FunOk Tryz.prog 74 g74 := (fun_ok ty_ok mixed (gam_ok (J := J0) (tab_cons g100_ok (tab_nil fls_fun))) Tryz.func74 (fun args w => by simp)).imp fun xs h k e0 => by
  obtain ⟨a0, xs0, rfl, e1⟩ := arg_imp e0
  obtain ⟨rfl, e2⟩ := noArg_imp e1
  exact (s74_eq J0 s100 a0 h k).mpr e2
/-- cmp.Less[string] -/
noncomputable def s125G (J : Joins) (c105 : Str → H → (Bool → H → Prop) → Prop) (a0 : Str) (a1 : Str) (h : H) (k : Bool → H → Prop) : Prop :=
c105 a0 h fun b2 h1 =>
J.jn (fun v3 h4 =>
J.jn (fun v6 h7 =>
J.jn (fun v12 h13 =>
pickB (AV.bool b2) v12 (AV.bool false) fun b17 =>
J.jn (fun v18 h19 =>
J.jn (fun v21 h22 =>
J.jn (fun v24 h25 =>
pickB (AV.bool b17) (AV.bool true) v24 fun b30 =>
k b30 h25) fun j26 =>
br b17 (
j26 skipV h22) (
asS v18 fun s27 =>
asS v21 fun s28 =>
fB (Str.lt s27 s28) fun b29 =>
j26 (AV.bool b29) h22)) fun j23 =>
br b17 (
j23 skipV h19) (
j23 (AV.str a1) h19)) fun j20 =>
br b17 (
j20 skipV h13) (
j20 (AV.str a0) h13)) fun j14 =>
br b2 (
asB v6 fun b15 =>
fB (Bool.not b15) fun b16 =>
j14 (AV.bool b16) h7) (
j14 skipV h7)) fun j8 =>
br b2 (
asS v3 fun s10 =>
c105 s10 h4 fun b11 h9 =>
j8 (AV.bool b11) h9) (
j8 skipV h4)) fun j5 =>
br b2 (
j5 (AV.str a1) h1) (
j5 skipV h1)
noncomputable def s125 : Str → Str → H → (Bool → H → Prop) → Prop := s125G J0 s105
noncomputable def w125 (c : Str → Str → H → (Bool → H → Prop) → Prop) : Fun := fun xs h k => arg xs fun a0 xs => arg xs fun a1 xs => noArg xs <| asS a0 fun a0 => asS a1 fun a1 => c a0 a1 h fun r0 h => k (.bool r0) h
theorem s125_eq (J : Joins) (c105 : Str → H → (Bool → H → Prop) → Prop) (a0 : Str) (a1 : Str) (h : H) (k : AV → H → Prop) : denF ty (gam J [(105, w105 c105)]) Tryz.f125 [(.str a0), (.str a1)] h k = s125G J c105 a0 a1 h (fun r0 h => k (.bool r0) h) := by kernel_rfl
noncomputable def g125 : Fun := w125 s125
theorem g125_ok : FunOk Tryz.prog 125 g125 := (fun_ok ty_ok mixed (gam_ok (J := J0) (tab_cons g105_ok (tab_nil fls_fun))) Tryz.func125 (fun args w => by simp)).imp fun xs h k e0 => by
  obtain ⟨a0, xs0, rfl, e1⟩ := arg_imp e0
  obtain ⟨a1, xs1, rfl, e2⟩ := arg_imp e1
  obtain ⟨rfl, e3⟩ := noArg_imp e2
  obtain ⟨a0, rfl, e4⟩ := asS_iff.1 e3
  obtain ⟨a1, rfl, e5⟩ := asS_iff.1 e4
  exact (s125_eq J0 s105 a0 a1 h k).mpr e5
/-- slices.insertionSortOrdered[string] -/
noncomputable def s119G (J : Joins) (c125 : Str → Str → H → (Bool → H → Prop) → Prop) (a0 : AV) (a1 : Int) (a2 : Int) (h : H) (k : H → Prop) : Prop :=
fI (wrapF .i64 (Int.add a1 (Int.ofNat 1))) fun x1 =>
J.lp (α := AV × AV × AV × AV × Unit) (fun r5 v2 d3 h4 =>
asI .i64 v2.2.2.2.1 fun x6 =>
asI .i64 v2.2.2.1 fun x7 =>
fB (ltI x6 x7) fun b8 =>
br b8 (
J.lp (α := AV × AV × AV × AV × AV × Unit) (fun r12 v9 d10 h11 =>
asI .i64 v9.2.2.2.2.1 fun x13 =>
asI .i64 v9.2.1 fun x14 =>
fB (ltI x14 x13) fun b15 =>
J.jn (fun v16 h17 =>
J.jn (fun v19 h20 =>
J.jn (fun v22 h23 =>
J.jb (fun b26 v27 =>
J.jn (fun v30 h31 =>
J.jn (fun v33 h34 =>
J.jn (fun v36 h37 =>
J.jn (fun v41 h42 =>
J.jb (fun b45 v46 =>
J.jn (fun v49 h50 =>
pickB (AV.bool b15) v49 (AV.bool false) fun b56 =>
br b56 (
asI .i64 v9.2.2.2.2.1 fun x57 =>
fI (wrapF .i64 (Int.sub x57 (Int.ofNat 1))) fun x58 =>
asI .i64 v9.2.2.2.2.1 fun x59 =>
fI (wrapF .i64 (Int.sub x59 (Int.ofNat 1))) fun x60 =>
ixK 1 v9.1 (AV.int .i64 x60) fun p61 =>
ldS p61 h50 fun s62 =>
ixK 1 v9.1 v9.2.2.2.2.1 fun p63 =>
ldS p63 h50 fun s64 =>
ixK 1 v9.1 v9.2.2.2.2.1 fun p65 =>
stV p65 (AV.str s62) h50 fun h66 =>
ixK 1 v9.1 (AV.int .i64 x58) fun p67 =>
stV p67 (AV.str s64) h66 fun h68 =>
asI .i64 v9.2.2.2.2.1 fun x69 =>
fI (wrapF .i64 (Int.sub x69 (Int.ofNat 1))) fun x70 =>
r12 (v9.1, v9.2.1, v9.2.2.1, v9.2.2.2.1, (AV.int .i64 x70), ()) d10 h68) (
asI .i64 v9.2.2.2.1 fun x71 =>
fI (wrapF .i64 (Int.add x71 (Int.ofNat 1))) fun x72 =>
r5 (v9.1, v9.2.1, v9.2.2.1, (AV.int .i64 x72), ()) d10 h50)) fun j51 =>
br b15 (
asS v27 fun s53 =>
asS v46 fun s54 =>
c125 s53 s54 h42 fun b55 h52 =>
j51 (AV.bool b55) h52) (
j51 skipV h42)) fun j47 =>
br b15 (
ldS v41 h42 fun s48 =>
j47 true (AV.str s48)) (
j47 false skipV)) fun j43 =>
br b15 (
ixK 1 v30 v36 fun p44 =>
j43 p44 h37) (
j43 skipV h37)) fun j38 =>
br b15 (
asI .i64 v33 fun x39 =>
fI (wrapF .i64 (Int.sub x39 (Int.ofNat 1))) fun x40 =>
j38 (AV.int .i64 x40) h34) (
j38 skipV h34)) fun j35 =>
br b15 (
j35 v9.2.2.2.2.1 h31) (
j35 skipV h31)) fun j32 =>
br b15 (
j32 v9.1 h23) (
j32 skipV h23)) fun j28 =>
br b15 (
ldS v22 h23 fun s29 =>
j28 true (AV.str s29)) (
j28 false skipV)) fun j24 =>
br b15 (
ixK 1 v16 v19 fun p25 =>
j24 p25 h20) (
j24 skipV h20)) fun j21 =>
br b15 (
j21 v9.2.2.2.2.1 h17) (
j21 skipV h17)) fun j18 =>
br b15 (
j18 v9.1 h11) (
j18 skipV h11)) (v2.1, v2.2.1, v2.2.2.1, v2.2.2.2.1, v2.2.2.2.1, ()) d3 h4) (
leaveK (gam J [(125, w125 c125)]) d3 h4 fun h73 =>
k  h73)) (a0, (AV.int .i64 a1), (AV.int .i64 a2), (AV.int .i64 x1), ()) [] h
noncomputable def s119 : AV → Int → Int → H → (H → Prop) → Prop := s119G J0 s125
noncomputable def w119 (c : AV → Int → Int → H → (H → Prop) → Prop) : Fun := fun xs h k => arg xs fun a0 xs => arg xs fun a1 xs => arg xs fun a2 xs => noArg xs <| asI .i64 a1 fun a1 => asI .i64 a2 fun a2 => c a0 a1 a2 h fun  h => k (.tuple []) h
theorem s119_eq (J : Joins) (c125 : Str → Str → H → (Bool → H → Prop) → Prop) (a0 : AV) (a1 : Int) (a2 : Int) (h : H) (k : AV → H → Prop) : denF ty (gam J [(125, w125 c125)]) Tryz.f119 [a0, (.int .i64 a1), (.int .i64 a2)] h k = s119G J c125 a0 a1 a2 h (fun  h => k (.tuple []) h) := by kernel_rfl
noncomputable def g119 : Fun := w119 s119
theorem g119_ok : FunOk Tryz.prog 119 g119 := (fun_ok ty_ok mixed (gam_ok (J := J0) (tab_cons g125_ok (tab_nil fls_fun))) Tryz.func119 (fun args w => by simp)).imp fun xs h k e0 => by
  obtain ⟨a0, xs0, rfl, e1⟩ := arg_imp e0
  obtain ⟨a1, xs1, rfl, e2⟩ := arg_imp e1
  obtain ⟨a2, xs2, rfl, e3⟩ := arg_imp e2
  obtain ⟨rfl, e4⟩ := noArg_imp e3
  obtain ⟨a1, rfl, e5⟩ := asI_iff.1 e4
  obtain ⟨a2, rfl, e6⟩ := asI_iff.1 e5
  exact (s119_eq J0 s125 a0 a1 a2 h k).mpr e6
/-- slices.pdqsortOrdered[string] -/
noncomputable def s101G (J : Joins) (c119 : AV → Int → Int → H → (H → Prop) → Prop) (c125 : Str → Str → H → (Bool → H → Prop) → Prop) (a0 : AV) (a1 : Int) (a2 : Int) (a3 : Int) (h : H) (k : H → Prop) : Prop :=
J.lp (α := AV × AV × AV × AV × AV × AV × Unit) (fun r4 v1 d2 h3 =>
asI .i64 v1.2.2.1 fun x5 =>
asI .i64 v1.2.1 fun x6 =>
fI (wrapF .i64 (Int.sub x5 x6)) fun x7 =>
fB (Bool.not (ltI (Int.ofNat 12) x7)) fun b8 =>
br b8 (
asI .i64 v1.2.1 fun x10 =>
asI .i64 v1.2.2.1 fun x11 =>
c119 v1.1 x10 x11 h3 fun  h9 =>
leaveK (gam J [(119, w119 c119), (125, w125 c125)]) d2 h9 fun h12 =>
k  h12) (
asI .i64 v1.2.2.2.1 fun x13 =>
fB (eqI x13 (Int.ofNat 0)) fun b14 =>
br b14 (
False) (
J.jd (α := AV × AV × AV × AV × AV × AV × AV × Unit) (fun v15 d16 h17 =>
False) fun j18 =>
asB v1.2.2.2.2.1 fun b19 =>
fB (Bool.not b19) fun b20 =>
br b20 (
False) (
j18 (v1.1, v1.2.1, v1.2.2.1, v1.2.2.2.1, v1.2.2.2.2.1, v1.2.2.2.2.2.1, (AV.int .i64 x7), ()) d2 h3)))) (a0, (AV.int .i64 a1), (AV.int .i64 a2), (AV.int .i64 a3), (AV.bool true), (AV.bool true), ()) [] h
noncomputable def s101 : AV → Int → Int → Int → H → (H → Prop) → Prop := s101G J0 s119 s125
noncomputable def w101 (c : AV → Int → Int → Int → H → (H → Prop) → Prop) : Fun := fun xs h k => arg xs fun a0 xs => arg xs fun a1 xs => arg xs fun a2 xs => arg xs fun a3 xs => noArg xs <| asI .i64 a1 fun a1 => asI .i64 a2 fun a2 => asI .i64 a3 fun a3 => c a0 a1 a2 a3 h fun  h => k (.tuple []) h
theorem s101_eq (J : Joins) (c119 : AV → Int → Int → H → (H → Prop) → Prop) (c125 : Str → Str → H → (Bool → H → Prop) → Prop) (a0 : AV) (a1 : Int) (a2 : Int) (a3 : Int) (h : H) (k : AV → H → Prop) : denF ty (gam J [(119, w119 c119), (125, w125 c125)]) Tryz.f101 [a0, (.int .i64 a1), (.int .i64 a2), (.int .i64 a3)] h k = s101G J c119 c125 a0 a1 a2 a3 h (fun  h => k (.tuple []) h) := by kernel_rfl
noncomputable def g101 : Fun := w101 s101
theorem g101_ok : FunOk Tryz.prog 101 g101 := (fun_ok ty_ok mixed (gam_ok (J := J0) (tab_cons g119_ok (tab_cons g125_ok (tab_nil fls_fun)))) Tryz.func101 (fun args w => by simp)).imp fun xs h k e0 => by
  obtain ⟨a0, xs0, rfl, e1⟩ := arg_imp e0
  obtain ⟨a1, xs1, rfl, e2⟩ := arg_imp e1
  obtain ⟨a2, xs2, rfl, e3⟩ := arg_imp e2
  obtain ⟨a3, xs3, rfl, e4⟩ := arg_imp e3
  obtain ⟨rfl, e5⟩ := noArg_imp e4
  obtain ⟨a1, rfl, e6⟩ := asI_iff.1 e5
  obtain ⟨a2, rfl, e7⟩ := asI_iff.1 e6
  obtain ⟨a3, rfl, e8⟩ := asI_iff.1 e7
  exact (s101_eq J0 s119 s125 a0 a1 a2 a3 h k).mpr e8
/-- math/bits.Len32 -/
noncomputable def s128G (J : Joins) (a0 : Int) (h : H) (k : Int → H → Prop) : Prop :=
J.jd (α := AV × AV × Unit) (fun v1 d2 h3 =>
J.jd (α := AV × AV × Unit) (fun v5 d6 h7 =>
asI .u32 v5.1 fun x9 =>
fI (wrapF .u8 x9) fun x10 =>
ixsK (AV.str ⟨256, 496986003408712215933005303621146343841837811690876167382323004466384420695090407243345123874780946046625255262057845613767806773758184921447759720770971536008171983842311960805720366577116933250839345203839274948261284255908394484732272583221484877694546905335834403051067785895034095251181560891789708940188598129052595634438001880866652824740680664595948164050600812232986714152902334120417949232733424961741260388658846598210939813666227264727603044226856020347194099943897342244906131705541414413428559898943151040826816076322978570758226444464494629814583418847495712557856038296917933182380796641777551368⟩) (AV.int .u8 x10) fun x11 =>
fI (wrapF .i64 x11) fun x12 =>
asI .i64 v5.2.1 fun x13 =>
fI (wrapF .i64 (Int.add x13 x12)) fun x14 =>
leaveK (gam J []) d6 h7 fun h15 =>
k x14 h15) fun j8 =>
asI .u32 v1.1 fun x16 =>
fB (Bool.not (ltI x16 (Int.ofNat 256))) fun b17 =>
br b17 (
asI .u32 v1.1 fun x18 =>
fI (shrF x18 (nmin 8 (IntKind.bits .u32))) fun x19 =>
asI .i64 v1.2.1 fun x20 =>
fI (wrapF .i64 (Int.add x20 (Int.ofNat 8))) fun x21 =>
j8 ((AV.int .u32 x19), (AV.int .i64 x21), ()) d2 h3) (
j8 (v1.1, v1.2.1, ()) d2 h3)) fun j4 =>
fB (Bool.not (ltI a0 (Int.ofNat 65536))) fun b22 =>
br b22 (
fI (shrF a0 (nmin 16 (IntKind.bits .u32))) fun x23 =>
j4 ((AV.int .u32 x23), (AV.int .i64 (Int.ofNat 16)), ()) [] h) (
j4 ((AV.int .u32 a0), (AV.int .i64 (Int.ofNat 0)), ()) [] h)
noncomputable def s128 : Int → H → (Int → H → Prop) → Prop := s128G J0 
noncomputable def w128 (c : Int → H → (Int → H → Prop) → Prop) : Fun := fun xs h k => arg xs fun a0 xs => noArg xs <| asI .u32 a0 fun a0 => c a0 h fun r0 h => k (.int .i64 r0) h
theorem s128_eq (J : Joins) (a0 : Int) (h : H) (k : AV → H → Prop) : denF ty (gam J []) Tryz.f128 [(.int .u32 a0)] h k = s128G J  a0 h (fun r0 h => k (.int .i64 r0) h) := by kernel_rfl
noncomputable def g128 : Fun := w128 s128
theorem g128_ok : FunOk Tryz.prog 128 g128 := (fun_ok ty_ok mixed (gam_ok (J := J0) (tab_nil fls_fun)) Tryz.func128 (fun args w => by simp)).imp fun xs h k e0 => by
  obtain ⟨a0, xs0, rfl, e1⟩ := arg_imp e0
  obtain ⟨rfl, e2⟩ := noArg_imp e1
  obtain ⟨a0, rfl, e3⟩ := asI_iff.1 e2
  exact (s128_eq J0  a0 h k).mpr e3
/-- math/bits.Len -/
noncomputable def s102G (J : Joins) (c128 : Int → H → (Int → H → Prop) → Prop) (c129 : Int → H → (Int → H → Prop) → Prop) (a0 : Int) (h : H) (k : Int → H → Prop) : Prop :=
br false (
fI (wrapF .u32 a0) fun x1 =>
c128 x1 h fun x3 h2 =>
k x3 h2) (
c129 a0 h fun x5 h4 =>
k x5 h4)
noncomputable def s102 : Int → H → (Int → H → Prop) → Prop := s102G J0 s128 s129
noncomputable def w102 (c : Int → H → (Int → H → Prop) → Prop) : Fun := fun xs h k => arg xs fun a0 xs => noArg xs <| asI .u64 a0 fun a0 => c a0 h fun r0 h => k (.int .i64 r0) h
theorem s102_eq (J : Joins) (c128 : Int → H → (Int → H → Prop) → Prop) (c129 : Int → H → (Int → H → Prop) → Prop) (a0 : Int) (h : H) (k : AV → H → Prop) : denF ty (gam J [(128, w128 c128), (129, w129 c129)]) Tryz.f102 [(.int .u64 a0)] h k = s102G J c128 c129 a0 h (fun r0 h => k (.int .i64 r0) h) := by kernel_rfl
noncomputable def g102 : Fun := w102 s102
theorem g102_ok : FunOk Tryz.prog 102 g102 := (fun_ok ty_ok mixed (gam_ok (J := J0) (tab_cons g128_ok (tab_cons g129_ok (tab_nil fls_fun)))) Tryz.func102 (fun args w => by simp)).imp fun xs h k e0 => by
  obtain ⟨a0, xs0, rfl, e1⟩ := arg_imp e0
  obtain ⟨rfl, e2⟩ := noArg_imp e1
  obtain ⟨a0, rfl, e3⟩ := asI_iff.1 e2
  exact (s102_eq J0 s128 s129 a0 h k).mpr e3
/-- slices.Sort[[]string,string] -/
noncomputable def s75G (J : Joins) (c101 : AV → Int → Int → Int → H → (H → Prop) → Prop) (c102 : Int → H → (Int → H → Prop) → Prop) (a0 : AV) (h : H) (k : H → Prop) : Prop :=
lenK a0 fun x1 =>
fI (wrapF .u64 (Int.ofNat x1)) fun x2 =>
c102 x2 h fun x4 h3 =>
c101 a0 (Int.ofNat 0) (Int.ofNat x1) x4 h3 fun  h5 =>
k  h5
noncomputable def s75 : AV → H → (H → Prop) → Prop := s75G J0 s101 s102
noncomputable def w75 (c : AV → H → (H → Prop) → Prop) : Fun := fun xs h k => arg xs fun a0 xs => noArg xs <| c a0 h fun  h => k (.tuple []) h
theorem s75_eq (J : Joins) (c101 : AV → Int → Int → Int → H → (H → Prop) → Prop) (c102 : Int → H → (Int → H → Prop) → Prop) (a0 : AV) (h : H) (k : AV → H → Prop) : denF ty (gam J [(101, w101 c101), (102, w102 c102)]) Tryz.f75 [a0] h k = s75G J c101 c102 a0 h (fun  h => k (.tuple []) h) := by kernel_rfl
noncomputable def g75 : Fun := w75 s75
theorem g75_ok : FunOk Tryz.prog 75 g75 := (fun_ok ty_ok mixed (gam_ok (J := J0) (tab_cons g101_ok (tab_cons g102_ok (tab_nil fls_fun)))) Tryz.func75 (fun args w => by simp)).imp fun xs h k e0 => by
  obtain ⟨a0, xs0, rfl, e1⟩ := arg_imp e0
  obtain ⟨rfl, e2⟩ := noArg_imp e1
  exact (s75_eq J0 s101 s102 a0 h k).mpr e2
/-- slices.Sorted[string] -/
noncomputable def s41G (J : Joins) (c74 : AV → H → (AV → H → Prop) → Prop) (c75 : AV → H → (H → Prop) → Prop) (a0 : AV) (h : H) (k : AV → H → Prop) : Prop :=
c74 a0 h fun v2 h1 =>
c75 v2 h1 fun  h3 =>
k v2 h3
noncomputable def s41 : AV → H → (AV → H → Prop) → Prop := s41G J0 s74 s75
noncomputable def w41 (c : AV → H → (AV → H → Prop) → Prop) : Fun := fun xs h k => arg xs fun a0 xs => noArg xs <| c a0 h fun r0 h => k r0 h
theorem s41_eq (J : Joins) (c74 : AV → H → (AV → H → Prop) → Prop) (c75 : AV → H → (H → Prop) → Prop) (a0 : AV) (h : H) (k : AV → H → Prop) : denF ty (gam J [(74, w74 c74), (75, w75 c75)]) Tryz.f41 [a0] h k = s41G J c74 c75 a0 h (fun r0 h => k r0 h) := by kernel_rfl
noncomputable def g41 : Fun := w41 s41
theorem g41_ok : FunOk Tryz.prog 41 g41 := (fun_ok ty_ok mixed (gam_ok (J := J0) (tab_cons g74_ok (tab_cons g75_ok (tab_nil fls_fun)))) Tryz.func41 (fun args w => by simp)).imp fun xs h k e0 => by
  obtain ⟨a0, xs0, rfl, e1⟩ := arg_imp e0
  obtain ⟨rfl, e2⟩ := noArg_imp e1
  exact (s41_eq J0 s74 s75 a0 h k).mpr e2
end Go.Proofs.YtdaibgpceldbdaaGreatDoor
