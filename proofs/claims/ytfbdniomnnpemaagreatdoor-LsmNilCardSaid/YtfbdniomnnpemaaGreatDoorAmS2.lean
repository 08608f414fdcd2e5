/- Functions as they are reckoned. MADE BY PROGRAM (wip/tools/shal.py). -/
import Derived.Test.YtfbdniomnnpemaaGreatDoorAmH132
namespace Go.Proofs.YtfbdniomnnpemaaGreatDoor
open Go Go.Am
set_option maxRecDepth 100000
set_option linter.all false
/-- slices.Chunk[[]byte,byte]$1 -/
noncomputable def s189G (J : Joins) (cd : Code → Ks → List AV → List Dfr → H → Prop) (a0 : AV) (a1 : AV) (a2 : AV) (h : H) (k : H → Prop) : Prop :=
J.lp (α := AV × AV × AV × AV × Unit) (fun r4 v1 d2 h3 =>
ldV v1.2.1 h3 fun v5 =>
lenK v5 fun x6 =>
asI .i64 v1.2.2.2.1 fun x7 =>
fB (ltI x7 (Int.ofNat x6)) fun b8 =>
br b8 (
ldI .i64 v1.2.2.1 h3 fun x9 =>
ldV v1.2.1 h3 fun v10 =>
slK 1 v10 (some v1.2.2.2.1) none fun v11 =>
lenK v11 fun x12 =>
op' (aMin (AV.int .i64 x9) (AV.int .i64 (Int.ofNat x12))) fun v13 =>
asI .i64 v13 fun x14 =>
ldV v1.2.1 h3 fun v15 =>
asI .i64 v1.2.2.2.1 fun x16 =>
fI (wrapF .i64 (Int.add x16 x14)) fun x17 =>
asI .i64 v1.2.2.2.1 fun x18 =>
fI (wrapF .i64 (Int.add x18 x14)) fun x19 =>
spX (aSlice3 1 v15 (some v1.2.2.2.1) (some (AV.int .i64 x17)) (AV.int .i64 x19)) fun v20 =>
callK (gamI J [] [] cd) v1.1 [v20] h3 fun v21 h22 =>
asB v21 fun b23 =>
fB (Bool.not b23) fun b24 =>
br b24 (
leaveK (gamI J [] [] cd) d2 h22 fun h25 =>
k  h25) (
ldI .i64 v1.2.2.1 h22 fun x26 =>
asI .i64 v1.2.2.2.1 fun x27 =>
fI (wrapF .i64 (Int.add x27 x26)) fun x28 =>
r4 (v1.1, v1.2.1, v1.2.2.1, (AV.int .i64 x28), ()) d2 h22)) (
leaveK (gamI J [] [] cd) d2 h3 fun h29 =>
k  h29)) (a0, a1, a2, (AV.int .i64 (Int.ofNat 0)), ()) [] h
noncomputable def s189 : AV → AV → AV → H → (H → Prop) → Prop := s189G J0  noCode
noncomputable def w189 (c : AV → AV → AV → H → (H → Prop) → Prop) : Fun := fun xs h k => arg xs fun a0 xs => arg xs fun a1 xs => arg xs fun a2 xs => noArg xs <| c a0 a1 a2 h fun  h => k (.tuple []) h
theorem s189_eq (J : Joins) (cd : Code → Ks → List AV → List Dfr → H → Prop) (a0 : AV) (a1 : AV) (a2 : AV) (h : H) (k : AV → H → Prop) : denF ty (gamI J [] [] cd) Tryz.f189 [a0, a1, a2] h k = s189G J  cd a0 a1 a2 h (fun  h => k (.tuple []) h) := by kernel_rfl
noncomputable def g189 : Fun := w189 s189
theorem g189_ok : FunOk Tryz.prog 189 g189 := (fun_ok ty_ok mixed (gamI_ok (J := J0) (tab_nil fls_fun) (tab_nil fls_it) noCode_ok) Tryz.func189 (fun args w => by simp)).imp fun xs h k e0 => by
  obtain ⟨a0, xs0, rfl, e1⟩ := arg_imp e0
  obtain ⟨a1, xs1, rfl, e2⟩ := arg_imp e1
  obtain ⟨a2, xs2, rfl, e3⟩ := arg_imp e2
  obtain ⟨rfl, e4⟩ := noArg_imp e3
  exact (s189_eq J0  noCode a0 a1 a2 h k).mpr e4
/-- slices.Chunk[[]byte,byte] -/
noncomputable def g133 : Fun := denF ty (gam J0 [(189, g189)]) Tryz.f133
theorem g133_ok : FunOk Tryz.prog 133 g133 := fun_ok ty_ok mixed (gam_ok (J := J0) (tab_cons g189_ok (tab_nil fls_fun))) Tryz.func133 (fun args w => by simp)
/-- function 189 as function 75 ranges over it -/
noncomputable def s189_75 : AV → AV → AV → H → (H → Prop) → Prop := s189G J0  (denR ty (gamI J0 [(101, g101), (102, g102), (105, g105), (132, g132'), (133, g133)] [] noCode))
theorem i189_75_ok : ItOk Tryz.prog 189 (w189 s189_75) := (it_ok ty_ok mixed (gamI_ok (J := J0) (tab_nil fls_fun) (tab_nil fls_it) (code_ok ty_ok mixed (gamI_ok (J := J0) (tab_cons g101_ok (tab_cons g102_ok (tab_cons g105_ok (tab_cons g132'_ok (tab_cons g133_ok (tab_nil fls_fun)))))) (tab_nil fls_it) noCode_ok))) Tryz.func189 (fun args w => by simp)).imp fun xs h k e0 => by
  obtain ⟨a0, xs0, rfl, e1⟩ := arg_imp e0
  obtain ⟨a1, xs1, rfl, e2⟩ := arg_imp e1
  obtain ⟨a2, xs2, rfl, e3⟩ := arg_imp e2
  obtain ⟨rfl, e4⟩ := noArg_imp e3
  exact (s189_eq J0  (denR ty (gamI J0 [(101, g101), (102, g102), (105, g105), (132, g132'), (133, g133)] [] noCode)) a0 a1 a2 h k).mpr e4
/-- (*stagepost/vfs.FS).Append -/
noncomputable def s75G (J : Joins) (c101 : AV → Str → H → (Int → Int → H → Prop) → Prop) (c102 : Fun) (c105 : AV → H → (AV → H → Prop) → Prop) (c132 : AV → H → (Int → H → Prop) → Prop) (c133 : Fun) (i189 : AV → AV → AV → H → (H → Prop) → Prop) (a0 : AV) (a1 : Str) (a2 : AV) (h : H) (k : Int → H → Prop) : Prop :=
ck (isOne a0) (
pushK (.cells false 28 [a0]) h fun n1 h2 =>
pushK (.cells false 37 [(.int .i64 0)]) h2 fun n3 h4 =>
ldV (AV.ptr n1 0) h4 fun v5 =>
c101 v5 a1 h4 fun x7 x8 h6 =>
pushK (.cells false 3 [(.int .i64 0)]) h6 fun n9 h10 =>
stV (AV.ptr n9 0) (AV.int .i64 x7) h10 fun h11 =>
fB (Bool.not (eqI x8 (Int.ofNat 0))) fun b12 =>
br b12 (
stV (AV.ptr n3 0) (AV.int .i64 x8) h11 fun h13 =>
ldI .i64 (AV.ptr n3 0) h13 fun x14 =>
k x14 h13) (
lenK a2 fun x15 =>
ldV (AV.ptr n1 0) h11 fun v16 =>
c132 v16 h11 fun x18 h17 =>
fB (ltI x18 (Int.ofNat x15)) fun b19 =>
br b19 (
stV (AV.ptr n3 0) (AV.int .i64 (Int.ofNat 8)) h17 fun h20 =>
ldI .i64 (AV.ptr n3 0) h20 fun x21 =>
k x21 h20) (
J.jd (α := AV × Unit) (fun v22 d23 h24 =>
stV v22.1 (AV.int .i64 (Int.ofNat 0)) h24 fun h26 =>
leaveK (gamI J [(101, w101 c101), (102, c102), (105, w105 c105), (132, w132 c132), (133, c133)] [(189, w189 i189)] noCode) d23 h26 fun h27 =>
ldI .i64 v22.1 h27 fun x28 =>
k x28 h27) fun j25 =>
c133 [a2, (AV.int .i64 (Int.ofNat 64))] h17 fun v29 h30 =>
rfK (gamI J [(101, w101 c101), (102, c102), (105, w105 c105), (132, w132 c132), (133, c133)] [(189, w189 i189)] noCode) v29 [27] (rfAt Tryz.f75 0) [a0, (AV.str a1), a2, (AV.ptr n1 0), AV.junk, AV.junk, (AV.ptr n3 0), (AV.ptr n9 0), (AV.int .i64 x8), AV.junk, AV.junk, (AV.tuple [(AV.int .i64 x7), (AV.int .i64 x8)]), v5, (AV.str a1), (AV.tuple [(AV.int .i64 x7), (AV.int .i64 x8)]), (AV.int .i64 x7), (AV.int .i64 x8), (AV.int .i64 x8), (AV.bool b12), AV.junk, a2, (AV.int .i64 (Int.ofNat x15)), v16, (AV.int .i64 x18), (AV.bool b19), a2, v29, AV.junk, AV.junk, AV.junk, AV.junk, AV.junk, AV.junk, AV.junk, AV.junk, AV.junk, AV.junk] h30 fun n31 n32 h33 =>
endR n31 n32 (fun d34 h35 =>
j25 ((AV.ptr n3 0), ()) d34 h35) (fun d34 h35 =>
leaveK (gamI J [(101, w101 c101), (102, c102), (105, w105 c105), (132, w132 c132), (133, c133)] [(189, w189 i189)] noCode) d34 h35 fun h37 =>
ldI .i64 (AV.ptr n3 0) h37 fun x38 =>
k x38 h37) (fun i36 d34 h35 =>
exB (Nat.beq i36 0) (fun d34 h35 =>
j25 ((AV.ptr n3 0), ()) d34 h35) (fun d34 h35 =>
False) d34 h35) [] h33)))
noncomputable def s75 : AV → Str → AV → H → (Int → H → Prop) → Prop := s75G J0 s101 g102 s105 s132' g133 s189_75
noncomputable def w75 (c : AV → Str → AV → H → (Int → H → Prop) → Prop) : Fun := fun xs h k => arg xs fun a0 xs => arg xs fun a1 xs => arg xs fun a2 xs => noArg xs <| asS a1 fun a1 => c a0 a1 a2 h fun r0 h => k (.int .i64 r0) h
theorem s75_eq (J : Joins) (c101 : AV → Str → H → (Int → Int → H → Prop) → Prop) (c102 : Fun) (c105 : AV → H → (AV → H → Prop) → Prop) (c132 : AV → H → (Int → H → Prop) → Prop) (c133 : Fun) (i189 : AV → AV → AV → H → (H → Prop) → Prop) (a0 : AV) (a1 : Str) (a2 : AV) (h : H) (k : AV → H → Prop) : denF ty (gamI J [(101, w101 c101), (102, c102), (105, w105 c105), (132, w132 c132), (133, c133)] [(189, w189 i189)] noCode) Tryz.f75 [a0, (.str a1), a2] h k = s75G J c101 c102 c105 c132 c133 i189 a0 a1 a2 h (fun r0 h => k (.int .i64 r0) h) := by kernel_rfl
noncomputable def g75 : Fun := w75 s75
theorem g75_ok : FunOk Tryz.prog 75 g75 := (fun_ok ty_ok mixed (gamI_ok (J := J0) (tab_cons g101_ok (tab_cons g102_ok (tab_cons g105_ok (tab_cons g132'_ok (tab_cons g133_ok (tab_nil fls_fun)))))) (tab_cons i189_75_ok (tab_nil fls_it)) noCode_ok) Tryz.func75 (fun args w => by simp)).imp fun xs h k e0 => by
  obtain ⟨a0, xs0, rfl, e1⟩ := arg_imp e0
  obtain ⟨a1, xs1, rfl, e2⟩ := arg_imp e1
  obtain ⟨a2, xs2, rfl, e3⟩ := arg_imp e2
  obtain ⟨rfl, e4⟩ := noArg_imp e3
  obtain ⟨a1, rfl, e5⟩ := asS_iff.1 e4
  exact (s75_eq J0 s101 g102 s105 s132' g133 s189_75 a0 a1 a2 h k).mpr e5
/-- (*stagepost/vfs.FS).Sync$1 -/
noncomputable def g135 : Fun := denF ty (gam J0 []) Tryz.f135
theorem g135_ok : FunOk Tryz.prog 135 g135 := fun_ok ty_ok mixed (gam_ok (J := J0) (tab_nil fls_fun)) Tryz.func135 (fun args w => by simp)
/-- (*stagepost/vfs.FS).SyncNames$1 -/
noncomputable def g154 : Fun := denF ty (gam J0 []) Tryz.f154
theorem g154_ok : FunOk Tryz.prog 154 g154 := fun_ok ty_ok mixed (gam_ok (J := J0) (tab_nil fls_fun)) Tryz.func154 (fun args w => by simp)
/-- (*stagepost/vfs.FS).settle -/
noncomputable def g134 : Fun := denF ty (gam J0 [(67, g67), (135, g135), (154, g154), (159, g159)]) Tryz.f134
theorem g134_ok : FunOk Tryz.prog 134 g134 := fun_ok ty_ok mixed (gam_ok (J := J0) (tab_cons g67_ok (tab_cons g135_ok (tab_cons g154_ok (tab_cons g159_ok (tab_nil fls_fun)))))) Tryz.func134 (fun args w => by simp)
/-- (*stagepost/vfs.FS).Sync -/
noncomputable def g76 : Fun := denF ty (gam J0 [(101, g101), (134, g134), (135, g135)]) Tryz.f76
theorem g76_ok : FunOk Tryz.prog 76 g76 := fun_ok ty_ok mixed (gam_ok (J := J0) (tab_cons g101_ok (tab_cons g134_ok (tab_cons g135_ok (tab_nil fls_fun))))) Tryz.func76 (fun args w => by simp)
/-- (*stagepost/wal.Wal).Append -/
noncomputable def g24 : Fun := denF ty (gam J0 [(69, g69), (70, g70), (71, g71), (72, g72), (73, g73), (74, g74), (75, g75), (76, g76)]) Tryz.f24
theorem g24_ok : FunOk Tryz.prog 24 g24 := fun_ok ty_ok mixed (gam_ok (J := J0) (tab_cons g69_ok (tab_cons g70_ok (tab_cons g71_ok (tab_cons g72_ok (tab_cons g73_ok (tab_cons g74_ok (tab_cons g75_ok (tab_cons g76_ok (tab_nil fls_fun)))))))))) Tryz.func24 (fun args w => by simp)
/-- (*stagepost/lsm.Store).seen -/
noncomputable def g25 : Fun := denF ty (gam J0 []) Tryz.f25
theorem g25_ok : FunOk Tryz.prog 25 g25 := fun_ok ty_ok mixed (gam_ok (J := J0) (tab_nil fls_fun)) Tryz.func25 (fun args w => by simp)
/-- (*stagepost/mem.Table).none -/
noncomputable def g78 : Fun := denF ty (gam J0 []) Tryz.f78
theorem g78_ok : FunOk Tryz.prog 78 g78 := fun_ok ty_ok mixed (gam_ok (J := J0) (tab_nil fls_fun)) Tryz.func78 (fun args w => by simp)
/-- cmp.Or[int] -/
noncomputable def s140G (J : Joins) (a0 : AV) (h : H) (k : Int → H → Prop) : Prop :=
lenK a0 fun x1 =>
J.lp (α := AV × AV × AV × AV × Unit) (fun r5 v2 d3 h4 =>
asI .i64 v2.2.2.2.1 fun x6 =>
asI .i64 v2.2.2.1 fun x7 =>
fB (ltI x6 x7) fun b8 =>
br b8 (
ixK 1 v2.2.1 v2.2.2.2.1 fun p9 =>
ldI .i64 p9 h4 fun x10 =>
asI .i64 v2.1 fun x11 =>
fB (Bool.not (eqI x10 x11)) fun b12 =>
br b12 (
leaveK (gam J []) d3 h4 fun h13 =>
k x10 h13) (
asI .i64 v2.2.2.2.1 fun x14 =>
fI (wrapF .i64 (Int.add x14 (Int.ofNat 1))) fun x15 =>
r5 (v2.1, v2.2.1, v2.2.2.1, (AV.int .i64 x15), ()) d3 h4)) (
leaveK (gam J []) d3 h4 fun h16 =>
asI .i64 v2.1 fun x17 =>
k x17 h16)) ((AV.int .i64 (Int.ofNat 0)), a0, (AV.int .i64 (Int.ofNat x1)), (AV.int .i64 (Int.ofNat 0)), ()) [] h
noncomputable def s140 : AV → H → (Int → H → Prop) → Prop := s140G J0 
noncomputable def w140 (c : AV → H → (Int → H → Prop) → Prop) : Fun := fun xs h k => arg xs fun a0 xs => noArg xs <| c a0 h fun r0 h => k (.int .i64 r0) h
theorem s140_eq (J : Joins) (a0 : AV) (h : H) (k : AV → H → Prop) : denF ty (gam J []) Tryz.f140 [a0] h k = s140G J  a0 h (fun r0 h => k (.int .i64 r0) h) := by kernel_rfl
noncomputable def g140 : Fun := w140 s140
theorem g140_ok : FunOk Tryz.prog 140 g140 := (fun_ok ty_ok mixed (gam_ok (J := J0) (tab_nil fls_fun)) Tryz.func140 (fun args w => by simp)).imp fun xs h k e0 => by
  obtain ⟨a0, xs0, rfl, e1⟩ := arg_imp e0
  obtain ⟨rfl, e2⟩ := noArg_imp e1
  exact (s140_eq J0  a0 h k).mpr e2
/-- cmp.isNaN[string] -/
noncomputable def s190G (J : Joins) (a0 : Str) (h : H) (k : Bool → H → Prop) : Prop :=
fB (Bool.not (Str.beq a0 a0)) fun b1 =>
k b1 h
noncomputable def s190 : Str → H → (Bool → H → Prop) → Prop := s190G J0 
noncomputable def w190 (c : Str → H → (Bool → H → Prop) → Prop) : Fun := fun xs h k => arg xs fun a0 xs => noArg xs <| asS a0 fun a0 => c a0 h fun r0 h => k (.bool r0) h
theorem s190_eq (J : Joins) (a0 : Str) (h : H) (k : AV → H → Prop) : denF ty (gam J []) Tryz.f190 [(.str a0)] h k = s190G J  a0 h (fun r0 h => k (.bool r0) h) := by kernel_rfl
noncomputable def g190 : Fun := w190 s190
theorem g190_ok : FunOk Tryz.prog 190 g190 := (fun_ok ty_ok mixed (gam_ok (J := J0) (tab_nil fls_fun)) Tryz.func190 (fun args w => by simp)).imp fun xs h k e0 => by
  obtain ⟨a0, xs0, rfl, e1⟩ := arg_imp e0
  obtain ⟨rfl, e2⟩ := noArg_imp e1
  obtain ⟨a0, rfl, e3⟩ := asS_iff.1 e2
  exact (s190_eq J0  a0 h k).mpr e3
/-- cmp.Compare[string] -/
noncomputable def s141G (J : Joins) (c190 : Str → H → (Bool → H → Prop) → Prop) (a0 : Str) (a1 : Str) (h : H) (k : Int → H → Prop) : Prop :=
c190 a0 h fun b2 h1 =>
c190 a1 h1 fun b4 h3 =>
br b2 (
br b4 (
k (Int.ofNat 0) h3) (
k (Int.negSucc 0) h3)) (
br b4 (
k (Int.ofNat 1) h3) (
fB (Str.lt a0 a1) fun b5 =>
br b5 (
k (Int.negSucc 0) h3) (
fB (Str.lt a1 a0) fun b6 =>
br b6 (
k (Int.ofNat 1) h3) (
k (Int.ofNat 0) h3))))
noncomputable def s141 : Str → Str → H → (Int → H → Prop) → Prop := s141G J0 s190
noncomputable def w141 (c : Str → Str → H → (Int → H → Prop) → Prop) : Fun := fun xs h k => arg xs fun a0 xs => arg xs fun a1 xs => noArg xs <| asS a0 fun a0 => asS a1 fun a1 => c a0 a1 h fun r0 h => k (.int .i64 r0) h
theorem s141_eq (J : Joins) (c190 : Str → H → (Bool → H → Prop) → Prop) (a0 : Str) (a1 : Str) (h : H) (k : AV → H → Prop) : denF ty (gam J [(190, w190 c190)]) Tryz.f141 [(.str a0), (.str a1)] h k = s141G J c190 a0 a1 h (fun r0 h => k (.int .i64 r0) h) := by kernel_rfl
noncomputable def g141 : Fun := w141 s141
theorem g141_ok : FunOk Tryz.prog 141 g141 := (fun_ok ty_ok mixed (gam_ok (J := J0) (tab_cons g190_ok (tab_nil fls_fun))) Tryz.func141 (fun args w => by simp)).imp fun xs h k e0 => by
  obtain ⟨a0, xs0, rfl, e1⟩ := arg_imp e0
  obtain ⟨a1, xs1, rfl, e2⟩ := arg_imp e1
  obtain ⟨rfl, e3⟩ := noArg_imp e2
  obtain ⟨a0, rfl, e4⟩ := asS_iff.1 e3
  obtain ⟨a1, rfl, e5⟩ := asS_iff.1 e4
  exact (s141_eq J0 s190 a0 a1 h k).mpr e5
/-- cmp.isNaN[int] -/
noncomputable def s191G (J : Joins) (a0 : Int) (h : H) (k : Bool → H → Prop) : Prop :=
fB (Bool.not (eqI a0 a0)) fun b1 =>
k b1 h
noncomputable def s191 : Int → H → (Bool → H → Prop) → Prop := s191G J0 
noncomputable def w191 (c : Int → H → (Bool → H → Prop) → Prop) : Fun := fun xs h k => arg xs fun a0 xs => noArg xs <| asI .i64 a0 fun a0 => c a0 h fun r0 h => k (.bool r0) h
theorem s191_eq (J : Joins) (a0 : Int) (h : H) (k : AV → H → Prop) : denF ty (gam J []) Tryz.f191 [(.int .i64 a0)] h k = s191G J  a0 h (fun r0 h => k (.bool r0) h) := by kernel_rfl
noncomputable def g191 : Fun := w191 s191
theorem g191_ok : FunOk Tryz.prog 191 g191 := (fun_ok ty_ok mixed (gam_ok (J := J0) (tab_nil fls_fun)) Tryz.func191 (fun args w => by simp)).imp fun xs h k e0 => by
  obtain ⟨a0, xs0, rfl, e1⟩ := arg_imp e0
  obtain ⟨rfl, e2⟩ := noArg_imp e1
  obtain ⟨a0, rfl, e3⟩ := asI_iff.1 e2
  exact (s191_eq J0  a0 h k).mpr e3
/-- cmp.Compare[int] -/
noncomputable def s142G (J : Joins) (c191 : Int → H → (Bool → H → Prop) → Prop) (a0 : Int) (a1 : Int) (h : H) (k : Int → H → Prop) : Prop :=
c191 a0 h fun b2 h1 =>
c191 a1 h1 fun b4 h3 =>
br b2 (
br b4 (
k (Int.ofNat 0) h3) (
k (Int.negSucc 0) h3)) (
br b4 (
k (Int.ofNat 1) h3) (
fB (ltI a0 a1) fun b5 =>
br b5 (
k (Int.negSucc 0) h3) (
fB (ltI a1 a0) fun b6 =>
br b6 (
k (Int.ofNat 1) h3) (
k (Int.ofNat 0) h3))))
noncomputable def s142 : Int → Int → H → (Int → H → Prop) → Prop := s142G J0 s191
noncomputable def w142 (c : Int → Int → H → (Int → H → Prop) → Prop) : Fun := fun xs h k => arg xs fun a0 xs => arg xs fun a1 xs => noArg xs <| asI .i64 a0 fun a0 => asI .i64 a1 fun a1 => c a0 a1 h fun r0 h => k (.int .i64 r0) h
theorem s142_eq (J : Joins) (c191 : Int → H → (Bool → H → Prop) → Prop) (a0 : Int) (a1 : Int) (h : H) (k : AV → H → Prop) : denF ty (gam J [(191, w191 c191)]) Tryz.f142 [(.int .i64 a0), (.int .i64 a1)] h k = s142G J c191 a0 a1 h (fun r0 h => k (.int .i64 r0) h) := by kernel_rfl
noncomputable def g142 : Fun := w142 s142
theorem g142_ok : FunOk Tryz.prog 142 g142 := (fun_ok ty_ok mixed (gam_ok (J := J0) (tab_cons g191_ok (tab_nil fls_fun))) Tryz.func142 (fun args w => by simp)).imp fun xs h k e0 => by
  obtain ⟨a0, xs0, rfl, e1⟩ := arg_imp e0
  obtain ⟨a1, xs1, rfl, e2⟩ := arg_imp e1
  obtain ⟨rfl, e3⟩ := noArg_imp e2
  obtain ⟨a0, rfl, e4⟩ := asI_iff.1 e3
  obtain ⟨a1, rfl, e5⟩ := asI_iff.1 e4
  exact (s142_eq J0 s191 a0 a1 h k).mpr e5
/-- stagepost/mem.Ahead -/
noncomputable def g86 : Fun := denF ty (gam J0 [(140, g140), (141, g141), (142, g142)]) Tryz.f86
theorem g86_ok : FunOk Tryz.prog 86 g86 := fun_ok ty_ok mixed (gam_ok (J := J0) (tab_cons g140_ok (tab_cons g141_ok (tab_cons g142_ok (tab_nil fls_fun))))) Tryz.func86 (fun args w => by simp)
/-- (*stagepost/mem.Table).find -/
noncomputable def s79G (J : Joins) (c86 : Fun) (a0 : AV) (a1 : AV) (h : H) (k : AV → Int → H → Prop) : Prop :=
Go.Am.asAgg a1 fun l3 =>
pushK (.cells false 79 l3) h fun n1 h2 =>
pushK (.cells false 154 [(.nilp), (.nilp), (.nilp), (.nilp), (.nilp), (.nilp), (.nilp), (.nilp), (.nilp), (.nilp), (.nilp), (.nilp)]) h2 fun n4 h5 =>
okNil a0 (
faK 0 a0 fun p6 =>
J.lp (α := AV × AV × AV × AV × AV × Unit) (fun r10 v7 d8 h9 =>
asI .i64 v7.2.2.2.2.1 fun x11 =>
fB (Bool.not (ltI x11 (Int.ofNat 0))) fun b12 =>
br b12 (
J.jd (α := AV × AV × AV × AV × AV × Unit) (fun v13 d14 h15 =>
ixaK 12 1 v13.2.1 v13.2.2.2.2.1 fun p17 =>
stV p17 v13.2.2.2.1 h15 fun h18 =>
asI .i64 v13.2.2.2.2.1 fun x19 =>
fI (wrapF .i64 (Int.sub x19 (Int.ofNat 1))) fun x20 =>
r10 (v13.1, v13.2.1, v13.2.2.1, v13.2.2.2.1, (AV.int .i64 x20), ()) d14 h18) fun j16 =>
okNil v7.2.2.2.1 (
faK 5 v7.2.2.2.1 fun p21 =>
ixaK 12 1 p21 v7.2.2.2.2.1 fun p22 =>
ldV p22 h9 fun v23 =>
J.lp (α := AV × AV × AV × AV × AV × AV × Unit) (fun r27 v24 d25 h26 =>
nilB 0 v24.2.2.2.2.2.1 fun b28 =>
fB (Bool.not b28) fun b29 =>
br b29 (
asI .i64 v24.2.2.1 fun x30 =>
fI (wrapF .i64 (Int.add x30 (Int.ofNat 1))) fun x31 =>
okNil v24.2.2.2.2.2.1 (
faK 0 v24.2.2.2.2.2.1 fun p32 =>
ldN 4 p32 h26 fun l33 =>
ldN 4 v24.1 h26 fun l34 =>
c86 [(AV.agg l33), (AV.agg l34)] h26 fun v35 h36 =>
asB v35 fun b37 =>
fB (Bool.not b37) fun b38 =>
br b38 (
j16 (v24.1, v24.2.1, (AV.int .i64 x31), v24.2.2.2.1, v24.2.2.2.2.1, ()) d25 h36) (
okNil v24.2.2.2.2.2.1 (
faK 5 v24.2.2.2.2.2.1 fun p39 =>
ixaK 12 1 p39 v24.2.2.2.2.1 fun p40 =>
ldV p40 h36 fun v41 =>
r27 (v24.1, v24.2.1, (AV.int .i64 x31), v24.2.2.2.2.2.1, v24.2.2.2.2.1, v41, ()) d25 h36)))) (
j16 (v24.1, v24.2.1, v24.2.2.1, v24.2.2.2.1, v24.2.2.2.2.1, ()) d25 h26)) (v7.1, v7.2.1, v7.2.2.1, v7.2.2.2.1, v7.2.2.2.2.1, v23, ()) d8 h9)) (
ldN 12 v7.2.1 h9 fun l42 =>
stN 12 v7.2.1 l42 h9 fun h43 =>
leaveK (gam J [(86, c86)]) d8 h43 fun h44 =>
ldN 12 v7.2.1 h44 fun l45 =>
asI .i64 v7.2.2.1 fun x46 =>
k (AV.agg l45) x46 h44)) ((AV.ptr n1 0), (AV.ptr n4 0), (AV.int .i64 (Int.ofNat 0)), p6, (AV.int .i64 (Int.ofNat 11)), ()) [] h5)
noncomputable def s79 : AV → AV → H → (AV → Int → H → Prop) → Prop := s79G J0 g86
noncomputable def w79 (c : AV → AV → H → (AV → Int → H → Prop) → Prop) : Fun := fun xs h k => arg xs fun a0 xs => arg xs fun a1 xs => noArg xs <| c a0 a1 h fun r0 r1 h => k (.tuple [r0, (.int .i64 r1)]) h
theorem s79_eq (J : Joins) (c86 : Fun) (a0 : AV) (a1 : AV) (h : H) (k : AV → H → Prop) : denF ty (gam J [(86, c86)]) Tryz.f79 [a0, a1] h k = s79G J c86 a0 a1 h (fun r0 r1 h => k (.tuple [r0, (.int .i64 r1)]) h) := by kernel_rfl
noncomputable def g79 : Fun := w79 s79
theorem g79_ok : FunOk Tryz.prog 79 g79 := (fun_ok ty_ok mixed (gam_ok (J := J0) (tab_cons g86_ok (tab_nil fls_fun))) Tryz.func79 (fun args w => by simp)).imp fun xs h k e0 => by
  obtain ⟨a0, xs0, rfl, e1⟩ := arg_imp e0
  obtain ⟨a1, xs1, rfl, e2⟩ := arg_imp e1
  obtain ⟨rfl, e3⟩ := noArg_imp e2
  exact (s79_eq J0 g86 a0 a1 h k).mpr e3
/-- stagepost/mem.Check -/
noncomputable def g136 : Fun := denF ty (gam J0 [(70, g70)]) Tryz.f136
theorem g136_ok : FunOk Tryz.prog 136 g136 := fun_ok ty_ok mixed (gam_ok (J := J0) (tab_cons g70_ok (tab_nil fls_fun))) Tryz.func136 (fun args w => by simp)
/-- (*stagepost/mem.Table).Add -/
noncomputable def g77 : Fun := denF ty (gam J0 [(78, g78), (79, g79), (136, g136)]) Tryz.f77
theorem g77_ok : FunOk Tryz.prog 77 g77 := fun_ok ty_ok mixed (gam_ok (J := J0) (tab_cons g78_ok (tab_cons g79_ok (tab_cons g136_ok (tab_nil fls_fun))))) Tryz.func77 (fun args w => by simp)
/-- (*stagepost/lsm.Store).remember -/
noncomputable def g26 : Fun := denF ty (gam J0 [(77, g77)]) Tryz.f26
theorem g26_ok : FunOk Tryz.prog 26 g26 := fun_ok ty_ok mixed (gam_ok (J := J0) (tab_cons g77_ok (tab_nil fls_fun))) Tryz.func26 (fun args w => by simp)
/-- (*stagepost/lsm.Store).Apply -/
noncomputable def g5 : Fun := denF ty (gam J0 [(23, g23), (24, g24), (25, g25), (26, g26)]) Tryz.f5
theorem g5_ok : FunOk Tryz.prog 5 g5 := fun_ok ty_ok mixed (gam_ok (J := J0) (tab_cons g23_ok (tab_cons g24_ok (tab_cons g25_ok (tab_cons g26_ok (tab_nil fls_fun)))))) Tryz.func5 (fun args w => by simp)
/-- (*stagepost/wal.Wal).Seq -/
noncomputable def g37 : Fun := denF ty (gam J0 []) Tryz.f37
theorem g37_ok : FunOk Tryz.prog 37 g37 := fun_ok ty_ok mixed (gam_ok (J := J0) (tab_nil fls_fun)) Tryz.func37 (fun args w => by simp)
/-- (*stagepost/lsm.Store).may -/
noncomputable def g27 : Fun := denF ty (gam J0 [(23, g23), (37, g37)]) Tryz.f27
theorem g27_ok : FunOk Tryz.prog 27 g27 := fun_ok ty_ok mixed (gam_ok (J := J0) (tab_cons g23_ok (tab_cons g37_ok (tab_nil fls_fun)))) Tryz.func27 (fun args w => by simp)
/-- (*stagepost/mem.Table).Get -/
noncomputable def g28 : Fun := denF ty (gam J0 [(78, g78), (79, g79)]) Tryz.f28
theorem g28_ok : FunOk Tryz.prog 28 g28 := fun_ok ty_ok mixed (gam_ok (J := J0) (tab_cons g78_ok (tab_cons g79_ok (tab_nil fls_fun)))) Tryz.func28 (fun args w => by simp)
/-- (*stagepost/manifest.Manifest).none -/
noncomputable def g80 : Fun := denF ty (gam J0 []) Tryz.f80
theorem g80_ok : FunOk Tryz.prog 80 g80 := fun_ok ty_ok mixed (gam_ok (J := J0) (tab_nil fls_fun)) Tryz.func80 (fun args w => by simp)
/-- slices.Clone[[]stagepost/api.Meta,stagepost/api.Meta] -/
noncomputable def g81 : Fun := denF ty (gam J0 []) Tryz.f81
theorem g81_ok : FunOk Tryz.prog 81 g81 := fun_ok ty_ok mixed (gam_ok (J := J0) (tab_nil fls_fun)) Tryz.func81 (fun args w => by simp)
end Go.Proofs.YtfbdniomnnpemaaGreatDoor
