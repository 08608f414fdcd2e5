/- Functions as they are reckoned. MADE BY PROGRAM (wip/tools/shal.py). -/
import Derived.Test.YtnjiokmleoimgaaGreatDoorAmH71
namespace Go.Proofs.YtnjiokmleoimgaaGreatDoor
open Go Go.Am
set_option maxRecDepth 100000
set_option linter.all false
/-- slices.Chunk[[]byte,byte]$1 -/
noncomputable def s95G (J : Joins) (cd : Code → Ks → List AV → List Dfr → H → Prop) (a0 : AV) (a1 : AV) (a2 : AV) (h : H) (k : H → Prop) : Prop :=
J.lp (α := AV × AV × AV × AV × Unit) (fun r4 v1 d2 h3 =>
ldV v1.2.1 h3 fun v5 =>
lenK v5 fun x6 =>
asI .i64 v1.2.2.2.1 fun x7 =>
fB (ltI x7 (Int.ofNat x6)) fun b8 =>
br b8 (
ldI .i64 v1.2.2.1 h3 fun x9 =>
ldV v1.2.1 h3 fun v10 =>
slK 1 v10 (some v1.2.2.2.1) none fun v11 =>
lenK v11 fun x12 =>
op' (aMin (AV.int .i64 x9) (AV.int .i64 (Int.ofNat x12))) fun v13 =>
asI .i64 v13 fun x14 =>
ldV v1.2.1 h3 fun v15 =>
asI .i64 v1.2.2.2.1 fun x16 =>
fI (wrapF .i64 (Int.add x16 x14)) fun x17 =>
asI .i64 v1.2.2.2.1 fun x18 =>
fI (wrapF .i64 (Int.add x18 x14)) fun x19 =>
spX (aSlice3 1 v15 (some v1.2.2.2.1) (some (AV.int .i64 x17)) (AV.int .i64 x19)) fun v20 =>
callK (gamI J [] [] cd) v1.1 [v20] h3 fun v21 h22 =>
asB v21 fun b23 =>
fB (Bool.not b23) fun b24 =>
br b24 (
leaveK (gamI J [] [] cd) d2 h22 fun h25 =>
k  h25) (
ldI .i64 v1.2.2.1 h22 fun x26 =>
asI .i64 v1.2.2.2.1 fun x27 =>
fI (wrapF .i64 (Int.add x27 x26)) fun x28 =>
r4 (v1.1, v1.2.1, v1.2.2.1, (AV.int .i64 x28), ()) d2 h22)) (
leaveK (gamI J [] [] cd) d2 h3 fun h29 =>
k  h29)) (a0, a1, a2, (AV.int .i64 (Int.ofNat 0)), ()) [] h
noncomputable def s95 : AV → AV → AV → H → (H → Prop) → Prop := s95G J0  noCode
noncomputable def w95 (c : AV → AV → AV → H → (H → Prop) → Prop) : Fun := fun xs h k => arg xs fun a0 xs => arg xs fun a1 xs => arg xs fun a2 xs => noArg xs <| c a0 a1 a2 h fun  h => k (.tuple []) h
theorem s95_eq (J : Joins) (cd : Code → Ks → List AV → List Dfr → H → Prop) (a0 : AV) (a1 : AV) (a2 : AV) (h : H) (k : AV → H → Prop) : denF ty (gamI J [] [] cd) Tryz.f95 [a0, a1, a2] h k = s95G J  cd a0 a1 a2 h (fun  h => k (.tuple []) h) := by kernel_rfl
noncomputable def g95 : Fun := w95 s95
theorem g95_ok : FunOk Tryz.prog 95 g95 := (fun_ok ty_ok mixed (gamI_ok (J := J0) (tab_nil fls_fun) (tab_nil fls_it) noCode_ok) Tryz.func95 (fun args w => by simp)).imp fun xs h k e0 => by
  obtain ⟨a0, xs0, rfl, e1⟩ := arg_imp e0
  obtain ⟨a1, xs1, rfl, e2⟩ := arg_imp e1
  obtain ⟨a2, xs2, rfl, e3⟩ := arg_imp e2
  obtain ⟨rfl, e4⟩ := noArg_imp e3
  exact (s95_eq J0  noCode a0 a1 a2 h k).mpr e4
/-- slices.Chunk[[]byte,byte] -/
noncomputable def s72G (J : Joins) (c95 : AV → AV → AV → H → (H → Prop) → Prop) (a0 : AV) (a1 : Int) (h : H) (k : AV → H → Prop) : Prop :=
ck (isOne a0) (
pushK (.cells false 25 [a0]) h fun n1 h2 =>
pushK (.cells false 3 [(AV.int .i64 a1)]) h2 fun n3 h4 =>
J.jd (α := AV × AV × Unit) (fun v5 d6 h7 =>
leaveK (gam J [(95, w95 c95)]) d6 h7 fun h9 =>
k (AV.func (.func 95) [] [v5.1, v5.2.1]) h9) fun j8 =>
ldI .i64 (AV.ptr n3 0) h4 fun x10 =>
fB (ltI x10 (Int.ofNat 1)) fun b11 =>
br b11 (
False) (
j8 ((AV.ptr n1 0), (AV.ptr n3 0), ()) [] h4))
noncomputable def s72 : AV → Int → H → (AV → H → Prop) → Prop := s72G J0 s95
noncomputable def w72 (c : AV → Int → H → (AV → H → Prop) → Prop) : Fun := fun xs h k => arg xs fun a0 xs => arg xs fun a1 xs => noArg xs <| asI .i64 a1 fun a1 => c a0 a1 h fun r0 h => k r0 h
theorem s72_eq (J : Joins) (c95 : AV → AV → AV → H → (H → Prop) → Prop) (a0 : AV) (a1 : Int) (h : H) (k : AV → H → Prop) : denF ty (gam J [(95, w95 c95)]) Tryz.f72 [a0, (.int .i64 a1)] h k = s72G J c95 a0 a1 h (fun r0 h => k r0 h) := by kernel_rfl
noncomputable def g72 : Fun := w72 s72
theorem g72_ok : FunOk Tryz.prog 72 g72 := (fun_ok ty_ok mixed (gam_ok (J := J0) (tab_cons g95_ok (tab_nil fls_fun))) Tryz.func72 (fun args w => by simp)).imp fun xs h k e0 => by
  obtain ⟨a0, xs0, rfl, e1⟩ := arg_imp e0
  obtain ⟨a1, xs1, rfl, e2⟩ := arg_imp e1
  obtain ⟨rfl, e3⟩ := noArg_imp e2
  obtain ⟨a1, rfl, e4⟩ := asI_iff.1 e3
  exact (s72_eq J0 s95 a0 a1 h k).mpr e4
/-- (*stagepost/vfs.FS).raw -/
noncomputable def s96G (J : Joins) (a0 : AV) (h : H) (k : Int → H → Prop) : Prop :=
okNil a0 (
faK 6 a0 fun p1 =>
ldB p1 h fun b2 =>
J.jn (fun v3 h4 =>
J.jn (fun v6 h7 =>
J.jn (fun v9 h10 =>
J.jn (fun v13 h14 =>
J.jn (fun v17 h18 =>
pickB (AV.bool b2) v17 (AV.bool false) fun b22 =>
br b22 (
okNil a0 (
faK 5 a0 fun p23 =>
stV p23 (AV.bool true) h18 fun h24 =>
k (Int.ofNat 7) h24)) (
J.jd (α := AV × Unit) (fun v25 d26 h27 =>
okNil v25.1 (
faK 8 v25.1 fun p29 =>
ldI .i64 p29 h27 fun x30 =>
fI (wrapF .i64 (Int.add x30 (Int.ofNat 1))) fun x31 =>
okNil v25.1 (
faK 8 v25.1 fun p32 =>
stV p32 (AV.int .i64 x31) h27 fun h33 =>
leaveK (gam J []) d26 h33 fun h34 =>
k (Int.ofNat 0) h34))) fun j28 =>
okNil a0 (
faK 6 a0 fun p35 =>
ldB p35 h18 fun b36 =>
br b36 (
okNil a0 (
faK 7 a0 fun p37 =>
ldI .i64 p37 h18 fun x38 =>
fI (wrapF .i64 (Int.sub x38 (Int.ofNat 1))) fun x39 =>
okNil a0 (
faK 7 a0 fun p40 =>
stV p40 (AV.int .i64 x39) h18 fun h41 =>
j28 (a0, ()) [] h41))) (
j28 (a0, ()) [] h18)))) fun j19 =>
br b2 (
asI .i64 v13 fun x20 =>
fB (eqI x20 (Int.ofNat 0)) fun b21 =>
j19 (AV.bool b21) h14) (
j19 skipV h14)) fun j15 =>
br b2 (
ldI .i64 v9 h10 fun x16 =>
j15 (AV.int .i64 x16) h10) (
j15 skipV h10)) fun j11 =>
br b2 (
faK 7 v6 fun p12 =>
j11 p12 h7) (
j11 skipV h7)) fun j8 =>
br b2 (
okNil v3 (
j8 v3 h4)) (
j8 skipV h4)) fun j5 =>
br b2 (
j5 a0 h) (
j5 skipV h))
noncomputable def s96 : AV → H → (Int → H → Prop) → Prop := s96G J0 
noncomputable def w96 (c : AV → H → (Int → H → Prop) → Prop) : Fun := fun xs h k => arg xs fun a0 xs => noArg xs <| c a0 h fun r0 h => k (.int .i64 r0) h
theorem s96_eq (J : Joins) (a0 : AV) (h : H) (k : AV → H → Prop) : denF ty (gam J []) Tryz.f96 [a0] h k = s96G J  a0 h (fun r0 h => k (.int .i64 r0) h) := by kernel_rfl
noncomputable def g96 : Fun := w96 s96
theorem g96_ok : FunOk Tryz.prog 96 g96 := (fun_ok ty_ok mixed (gam_ok (J := J0) (tab_nil fls_fun)) Tryz.func96 (fun args w => by simp)).imp fun xs h k e0 => by
  obtain ⟨a0, xs0, rfl, e1⟩ := arg_imp e0
  obtain ⟨rfl, e2⟩ := noArg_imp e1
  exact (s96_eq J0  a0 h k).mpr e2
/-- (*stagepost/vfs.FS).pend -/
noncomputable def s73G (J : Joins) (c96 : AV → H → (Int → H → Prop) → Prop) (a0 : AV) (a1 : AV) (h : H) (k : Int → H → Prop) : Prop :=
Go.Am.asAgg a1 fun l3 =>
pushK (.cells false 127 l3) h fun n1 h2 =>
c96 a0 h2 fun x5 h4 =>
J.jd (α := AV × Unit) (fun v6 d7 h8 =>
leaveK (gam J [(96, w96 c96)]) d7 h8 fun h10 =>
asI .i64 v6.1 fun x11 =>
k x11 h10) fun j9 =>
fB (eqI x5 (Int.ofNat 0)) fun b12 =>
br b12 (
okNil a0 (
faK 2 a0 fun p13 =>
ldV p13 h4 fun v14 =>
ldN 5 (AV.ptr n1 0) h4 fun l15 =>
ck (Nat.beq (List.length l15) 5) (op' (lputAt 0 l15 [(.int .i64 0), (.str ⟨0, 0⟩), (.str ⟨0, 0⟩), (.int .i64 0), (.nils)]) fun l18 =>
pushK (.cells false 127 l18) h4 fun n16 h17 =>
apC 127 5 72 v14 (AV.slice n16 0 1 1 5 true) h17 fun v19 h20 =>
okNil a0 (
faK 2 a0 fun p21 =>
stV p21 v19 h20 fun h22 =>
j9 ((AV.int .i64 x5), ()) [] h22)))) (
j9 ((AV.int .i64 x5), ()) [] h4)
noncomputable def s73 : AV → AV → H → (Int → H → Prop) → Prop := s73G J0 s96
noncomputable def w73 (c : AV → AV → H → (Int → H → Prop) → Prop) : Fun := fun xs h k => arg xs fun a0 xs => arg xs fun a1 xs => noArg xs <| c a0 a1 h fun r0 h => k (.int .i64 r0) h
theorem s73_eq (J : Joins) (c96 : AV → H → (Int → H → Prop) → Prop) (a0 : AV) (a1 : AV) (h : H) (k : AV → H → Prop) : denF ty (gam J [(96, w96 c96)]) Tryz.f73 [a0, a1] h k = s73G J c96 a0 a1 h (fun r0 h => k (.int .i64 r0) h) := by kernel_rfl
noncomputable def g73 : Fun := w73 s73
theorem g73_ok : FunOk Tryz.prog 73 g73 := (fun_ok ty_ok mixed (gam_ok (J := J0) (tab_cons g96_ok (tab_nil fls_fun))) Tryz.func73 (fun args w => by simp)).imp fun xs h k e0 => by
  obtain ⟨a0, xs0, rfl, e1⟩ := arg_imp e0
  obtain ⟨a1, xs1, rfl, e2⟩ := arg_imp e1
  obtain ⟨rfl, e3⟩ := noArg_imp e2
  exact (s73_eq J0 s96 a0 a1 h k).mpr e3
/-- function 95 as function 50 ranges over it -/
noncomputable def s95_50 : AV → AV → AV → H → (H → Prop) → Prop := s95G J0  (denR ty (gamI J0 [(70, g70), (71, g71'), (72, g72), (73, g73), (74, g74)] [] noCode))
theorem i95_50_ok : ItOk Tryz.prog 95 (w95 s95_50) := (it_ok ty_ok mixed (gamI_ok (J := J0) (tab_nil fls_fun) (tab_nil fls_it) (code_ok ty_ok mixed (gamI_ok (J := J0) (tab_cons g70_ok (tab_cons g71'_ok (tab_cons g72_ok (tab_cons g73_ok (tab_cons g74_ok (tab_nil fls_fun)))))) (tab_nil fls_it) noCode_ok))) Tryz.func95 (fun args w => by simp)).imp fun xs h k e0 => by
  obtain ⟨a0, xs0, rfl, e1⟩ := arg_imp e0
  obtain ⟨a1, xs1, rfl, e2⟩ := arg_imp e1
  obtain ⟨a2, xs2, rfl, e3⟩ := arg_imp e2
  obtain ⟨rfl, e4⟩ := noArg_imp e3
  exact (s95_eq J0  (denR ty (gamI J0 [(70, g70), (71, g71'), (72, g72), (73, g73), (74, g74)] [] noCode)) a0 a1 a2 h k).mpr e4
/-- (*stagepost/vfs.FS).Append -/
noncomputable def s50G (J : Joins) (c70 : AV → Str → H → (Int → Int → H → Prop) → Prop) (c71 : AV → H → (Int → H → Prop) → Prop) (c72 : AV → Int → H → (AV → H → Prop) → Prop) (c73 : AV → AV → H → (Int → H → Prop) → Prop) (c74 : AV → H → (AV → H → Prop) → Prop) (i95 : AV → AV → AV → H → (H → Prop) → Prop) (a0 : AV) (a1 : Str) (a2 : AV) (h : H) (k : Int → H → Prop) : Prop :=
ck (isOne a0) (
pushK (.cells false 46 [a0]) h fun n1 h2 =>
pushK (.cells false 30 [(.int .i64 0)]) h2 fun n3 h4 =>
ldV (AV.ptr n1 0) h4 fun v5 =>
c70 v5 a1 h4 fun x7 x8 h6 =>
pushK (.cells false 3 [(.int .i64 0)]) h6 fun n9 h10 =>
stV (AV.ptr n9 0) (AV.int .i64 x7) h10 fun h11 =>
fB (Bool.not (eqI x8 (Int.ofNat 0))) fun b12 =>
br b12 (
stV (AV.ptr n3 0) (AV.int .i64 x8) h11 fun h13 =>
ldI .i64 (AV.ptr n3 0) h13 fun x14 =>
k x14 h13) (
lenK a2 fun x15 =>
ldV (AV.ptr n1 0) h11 fun v16 =>
c71 v16 h11 fun x18 h17 =>
fB (ltI x18 (Int.ofNat x15)) fun b19 =>
br b19 (
stV (AV.ptr n3 0) (AV.int .i64 (Int.ofNat 8)) h17 fun h20 =>
ldI .i64 (AV.ptr n3 0) h20 fun x21 =>
k x21 h20) (
J.jd (α := AV × Unit) (fun v22 d23 h24 =>
stV v22.1 (AV.int .i64 (Int.ofNat 0)) h24 fun h26 =>
leaveK (gamI J [(70, w70 c70), (71, w71 c71), (72, w72 c72), (73, w73 c73), (74, w74 c74)] [(95, w95 i95)] noCode) d23 h26 fun h27 =>
ldI .i64 v22.1 h27 fun x28 =>
k x28 h27) fun j25 =>
c72 a2 (Int.ofNat 64) h17 fun v30 h29 =>
rfK (gamI J [(70, w70 c70), (71, w71 c71), (72, w72 c72), (73, w73 c73), (74, w74 c74)] [(95, w95 i95)] noCode) v30 [27] (rfAt Tryz.f50 0) [a0, (AV.str a1), a2, (AV.ptr n1 0), AV.junk, AV.junk, (AV.ptr n3 0), (AV.ptr n9 0), (AV.int .i64 x8), AV.junk, AV.junk, (AV.tuple [(AV.int .i64 x7), (AV.int .i64 x8)]), v5, (AV.str a1), (AV.tuple [(AV.int .i64 x7), (AV.int .i64 x8)]), (AV.int .i64 x7), (AV.int .i64 x8), (AV.int .i64 x8), (AV.bool b12), AV.junk, a2, (AV.int .i64 (Int.ofNat x15)), v16, (AV.int .i64 x18), (AV.bool b19), a2, v30, AV.junk, AV.junk, AV.junk, AV.junk, AV.junk, AV.junk, AV.junk, AV.junk, AV.junk, AV.junk] h29 fun n31 n32 h33 =>
endR n31 n32 (fun d34 h35 =>
j25 ((AV.ptr n3 0), ()) d34 h35) (fun d34 h35 =>
leaveK (gamI J [(70, w70 c70), (71, w71 c71), (72, w72 c72), (73, w73 c73), (74, w74 c74)] [(95, w95 i95)] noCode) d34 h35 fun h37 =>
ldI .i64 (AV.ptr n3 0) h37 fun x38 =>
k x38 h37) (fun i36 d34 h35 =>
exB (Nat.beq i36 0) (fun d34 h35 =>
j25 ((AV.ptr n3 0), ()) d34 h35) (fun d34 h35 =>
False) d34 h35) [] h33)))
noncomputable def s50 : AV → Str → AV → H → (Int → H → Prop) → Prop := s50G J0 s70 s71' s72 s73 s74 s95_50
noncomputable def w50 (c : AV → Str → AV → H → (Int → H → Prop) → Prop) : Fun := fun xs h k => arg xs fun a0 xs => arg xs fun a1 xs => arg xs fun a2 xs => noArg xs <| asS a1 fun a1 => c a0 a1 a2 h fun r0 h => k (.int .i64 r0) h
theorem s50_eq (J : Joins) (c70 : AV → Str → H → (Int → Int → H → Prop) → Prop) (c71 : AV → H → (Int → H → Prop) → Prop) (c72 : AV → Int → H → (AV → H → Prop) → Prop) (c73 : AV → AV → H → (Int → H → Prop) → Prop) (c74 : AV → H → (AV → H → Prop) → Prop) (i95 : AV → AV → AV → H → (H → Prop) → Prop) (a0 : AV) (a1 : Str) (a2 : AV) (h : H) (k : AV → H → Prop) : denF ty (gamI J [(70, w70 c70), (71, w71 c71), (72, w72 c72), (73, w73 c73), (74, w74 c74)] [(95, w95 i95)] noCode) Tryz.f50 [a0, (.str a1), a2] h k = s50G J c70 c71 c72 c73 c74 i95 a0 a1 a2 h (fun r0 h => k (.int .i64 r0) h) := by kernel_rfl
noncomputable def g50 : Fun := w50 s50
theorem g50_ok : FunOk Tryz.prog 50 g50 := (fun_ok ty_ok mixed (gamI_ok (J := J0) (tab_cons g70_ok (tab_cons g71'_ok (tab_cons g72_ok (tab_cons g73_ok (tab_cons g74_ok (tab_nil fls_fun)))))) (tab_cons i95_50_ok (tab_nil fls_it)) noCode_ok) Tryz.func50 (fun args w => by simp)).imp fun xs h k e0 => by
  obtain ⟨a0, xs0, rfl, e1⟩ := arg_imp e0
  obtain ⟨a1, xs1, rfl, e2⟩ := arg_imp e1
  obtain ⟨a2, xs2, rfl, e3⟩ := arg_imp e2
  obtain ⟨rfl, e4⟩ := noArg_imp e3
  obtain ⟨a1, rfl, e5⟩ := asS_iff.1 e4
  exact (s50_eq J0 s70 s71' s72 s73 s74 s95_50 a0 a1 a2 h k).mpr e5
/-- (*stagepost/vfs.FS).SyncNames$1 -/
noncomputable def s84G (J : Joins) (a0 : AV) (h : H) (k : Bool → H → Prop) : Prop :=
Go.Am.asAgg a0 fun l3 =>
pushK (.cells false 127 l3) h fun n1 h2 =>
ldI .i64 (AV.ptr n1 0) h2 fun x4 =>
fB (Bool.not (eqI x4 (Int.ofNat 0))) fun b5 =>
k b5 h2
noncomputable def s84 : AV → H → (Bool → H → Prop) → Prop := s84G J0 
noncomputable def w84 (c : AV → H → (Bool → H → Prop) → Prop) : Fun := fun xs h k => arg xs fun a0 xs => noArg xs <| c a0 h fun r0 h => k (.bool r0) h
theorem s84_eq (J : Joins) (a0 : AV) (h : H) (k : AV → H → Prop) : denF ty (gam J []) Tryz.f84 [a0] h k = s84G J  a0 h (fun r0 h => k (.bool r0) h) := by kernel_rfl
noncomputable def g84 : Fun := w84 s84
theorem g84_ok : FunOk Tryz.prog 84 g84 := (fun_ok ty_ok mixed (gam_ok (J := J0) (tab_nil fls_fun)) Tryz.func84 (fun args w => by simp)).imp fun xs h k e0 => by
  obtain ⟨a0, xs0, rfl, e1⟩ := arg_imp e0
  obtain ⟨rfl, e2⟩ := noArg_imp e1
  exact (s84_eq J0  a0 h k).mpr e2
/-- (*stagepost/vfs.FS).Sync$1 -/
noncomputable def s76G (J : Joins) (a0 : AV) (a1 : AV) (h : H) (k : Bool → H → Prop) : Prop :=
Go.Am.asAgg a0 fun l3 =>
pushK (.cells false 127 l3) h fun n1 h2 =>
ldI .i64 (AV.ptr n1 0) h2 fun x4 =>
fB (eqI x4 (Int.ofNat 0)) fun b5 =>
J.jn (fun v6 h7 =>
J.jn (fun v9 h10 =>
J.jn (fun v13 h14 =>
J.jn (fun v17 h18 =>
pickB (AV.bool b5) v17 (AV.bool false) fun b23 =>
k b23 h18) fun j19 =>
br b5 (
asI .i64 v9 fun x20 =>
asI .i64 v13 fun x21 =>
fB (eqI x20 x21) fun b22 =>
j19 (AV.bool b22) h14) (
j19 skipV h14)) fun j15 =>
br b5 (
ldI .i64 a1 h10 fun x16 =>
j15 (AV.int .i64 x16) h10) (
j15 skipV h10)) fun j11 =>
br b5 (
ldI .i64 v6 h7 fun x12 =>
j11 (AV.int .i64 x12) h7) (
j11 skipV h7)) fun j8 =>
br b5 (
j8 (AV.ptr n1 3) h2) (
j8 skipV h2)
noncomputable def s76 : AV → AV → H → (Bool → H → Prop) → Prop := s76G J0 
noncomputable def w76 (c : AV → AV → H → (Bool → H → Prop) → Prop) : Fun := fun xs h k => arg xs fun a0 xs => arg xs fun a1 xs => noArg xs <| c a0 a1 h fun r0 h => k (.bool r0) h
theorem s76_eq (J : Joins) (a0 : AV) (a1 : AV) (h : H) (k : AV → H → Prop) : denF ty (gam J []) Tryz.f76 [a0, a1] h k = s76G J  a0 a1 h (fun r0 h => k (.bool r0) h) := by kernel_rfl
noncomputable def g76 : Fun := w76 s76
theorem g76_ok : FunOk Tryz.prog 76 g76 := (fun_ok ty_ok mixed (gam_ok (J := J0) (tab_nil fls_fun)) Tryz.func76 (fun args w => by simp)).imp fun xs h k e0 => by
  obtain ⟨a0, xs0, rfl, e1⟩ := arg_imp e0
  obtain ⟨a1, xs1, rfl, e2⟩ := arg_imp e1
  obtain ⟨rfl, e3⟩ := noArg_imp e2
  exact (s76_eq J0  a0 a1 h k).mpr e3
/-- (*stagepost/vfs.FS).settle -/
noncomputable def s75G (J : Joins) (c76 : AV → AV → H → (Bool → H → Prop) → Prop) (c84 : AV → H → (Bool → H → Prop) → Prop) (c96 : AV → H → (Int → H → Prop) → Prop) (c97 : AV → AV → H → (H → Prop) → Prop) (a0 : AV) (a1 : AV) (h : H) (k : Int → H → Prop) : Prop :=
c96 a0 h fun x2 h1 =>
fB (Bool.not (eqI x2 (Int.ofNat 0))) fun b3 =>
br b3 (
k x2 h1) (
okNil a0 (
faK 2 a0 fun p4 =>
ldV p4 h1 fun v5 =>
lenK v5 fun x6 =>
J.lp (α := AV × AV × AV × AV × AV × AV × Unit) (fun r10 v7 d8 h9 =>
asI .i64 v7.2.2.2.2.2.1 fun x11 =>
asI .i64 v7.2.2.2.2.1 fun x12 =>
fB (ltI x11 x12) fun b13 =>
br b13 (
J.jd (α := AV × AV × AV × AV × AV × AV × Unit) (fun v14 d15 h16 =>
asI .i64 v14.2.2.2.2.2.1 fun x18 =>
fI (wrapF .i64 (Int.add x18 (Int.ofNat 1))) fun x19 =>
r10 (v14.1, v14.2.1, v14.2.2.1, v14.2.2.2.1, v14.2.2.2.2.1, (AV.int .i64 x19), ()) d15 h16) fun j17 =>
ixK 5 v7.2.2.2.1 v7.2.2.2.2.2.1 fun p20 =>
ldN 5 p20 h9 fun l21 =>
pushK (.cells false 127 [(.int .i64 0), (.str ⟨0, 0⟩), (.str ⟨0, 0⟩), (.int .i64 0), (.nils)]) h9 fun n22 h23 =>
stN 5 (AV.ptr n22 0) l21 h23 fun h24 =>
ldN 5 (AV.ptr n22 0) h24 fun l25 =>
callK (gam J [(76, w76 c76), (84, w84 c84), (96, w96 c96), (97, w97 c97)]) v7.2.1 [(AV.agg l25)] h24 fun v26 h27 =>
asB v26 fun b28 =>
br b28 (
okNil v7.1 (
faK 0 v7.1 fun p29 =>
ldN 2 p29 h27 fun l30 =>
ldN 5 (AV.ptr n22 0) h27 fun l31 =>
c97 (AV.agg l30) (AV.agg l31) h27 fun  h32 =>
j17 (v7.1, v7.2.1, v7.2.2.1, v7.2.2.2.1, v7.2.2.2.2.1, v7.2.2.2.2.2.1, ()) d8 h32)) (
ldN 5 (AV.ptr n22 0) h27 fun l33 =>
ck (Nat.beq (List.length l33) 5) (op' (lputAt 0 l33 [(.int .i64 0), (.str ⟨0, 0⟩), (.str ⟨0, 0⟩), (.int .i64 0), (.nils)]) fun l36 =>
pushK (.cells false 127 l36) h27 fun n34 h35 =>
apC 127 5 72 v7.2.2.1 (AV.slice n34 0 1 1 5 true) h35 fun v37 h38 =>
j17 (v7.1, v7.2.1, v37, v7.2.2.2.1, v7.2.2.2.2.1, v7.2.2.2.2.2.1, ()) d8 h38))) (
okNil v7.1 (
faK 2 v7.1 fun p39 =>
stV p39 v7.2.2.1 h9 fun h40 =>
leaveK (gam J [(76, w76 c76), (84, w84 c84), (96, w96 c96), (97, w97 c97)]) d8 h40 fun h41 =>
k (Int.ofNat 0) h41))) (a0, a1, AV.nils, v5, (AV.int .i64 (Int.ofNat x6)), (AV.int .i64 (Int.ofNat 0)), ()) [] h1))
noncomputable def s75 : AV → AV → H → (Int → H → Prop) → Prop := s75G J0 s76 s84 s96 s97
noncomputable def w75 (c : AV → AV → H → (Int → H → Prop) → Prop) : Fun := fun xs h k => arg xs fun a0 xs => arg xs fun a1 xs => noArg xs <| c a0 a1 h fun r0 h => k (.int .i64 r0) h
theorem s75_eq (J : Joins) (c76 : AV → AV → H → (Bool → H → Prop) → Prop) (c84 : AV → H → (Bool → H → Prop) → Prop) (c96 : AV → H → (Int → H → Prop) → Prop) (c97 : AV → AV → H → (H → Prop) → Prop) (a0 : AV) (a1 : AV) (h : H) (k : AV → H → Prop) : denF ty (gam J [(76, w76 c76), (84, w84 c84), (96, w96 c96), (97, w97 c97)]) Tryz.f75 [a0, a1] h k = s75G J c76 c84 c96 c97 a0 a1 h (fun r0 h => k (.int .i64 r0) h) := by kernel_rfl
noncomputable def g75 : Fun := w75 s75
theorem g75_ok : FunOk Tryz.prog 75 g75 := (fun_ok ty_ok mixed (gam_ok (J := J0) (tab_cons g76_ok (tab_cons g84_ok (tab_cons g96_ok (tab_cons g97_ok (tab_nil fls_fun)))))) Tryz.func75 (fun args w => by simp)).imp fun xs h k e0 => by
  obtain ⟨a0, xs0, rfl, e1⟩ := arg_imp e0
  obtain ⟨a1, xs1, rfl, e2⟩ := arg_imp e1
  obtain ⟨rfl, e3⟩ := noArg_imp e2
  exact (s75_eq J0 s76 s84 s96 s97 a0 a1 h k).mpr e3
/-- (*stagepost/vfs.FS).Sync -/
noncomputable def s51G (J : Joins) (c70 : AV → Str → H → (Int → Int → H → Prop) → Prop) (c75 : AV → AV → H → (Int → H → Prop) → Prop) (c76 : AV → AV → H → (Bool → H → Prop) → Prop) (a0 : AV) (a1 : Str) (h : H) (k : Int → H → Prop) : Prop :=
c70 a0 a1 h fun x2 x3 h1 =>
pushK (.cells false 3 [(.int .i64 0)]) h1 fun n4 h5 =>
stV (AV.ptr n4 0) (AV.int .i64 x2) h5 fun h6 =>
fB (Bool.not (eqI x3 (Int.ofNat 0))) fun b7 =>
br b7 (
k x3 h6) (
c75 a0 (AV.func (.func 76) [] [(AV.ptr n4 0)]) h6 fun x9 h8 =>
k x9 h8)
noncomputable def s51 : AV → Str → H → (Int → H → Prop) → Prop := s51G J0 s70 s75 s76
noncomputable def w51 (c : AV → Str → H → (Int → H → Prop) → Prop) : Fun := fun xs h k => arg xs fun a0 xs => arg xs fun a1 xs => noArg xs <| asS a1 fun a1 => c a0 a1 h fun r0 h => k (.int .i64 r0) h
theorem s51_eq (J : Joins) (c70 : AV → Str → H → (Int → Int → H → Prop) → Prop) (c75 : AV → AV → H → (Int → H → Prop) → Prop) (c76 : AV → AV → H → (Bool → H → Prop) → Prop) (a0 : AV) (a1 : Str) (h : H) (k : AV → H → Prop) : denF ty (gam J [(70, w70 c70), (75, w75 c75), (76, w76 c76)]) Tryz.f51 [a0, (.str a1)] h k = s51G J c70 c75 c76 a0 a1 h (fun r0 h => k (.int .i64 r0) h) := by kernel_rfl
noncomputable def g51 : Fun := w51 s51
theorem g51_ok : FunOk Tryz.prog 51 g51 := (fun_ok ty_ok mixed (gam_ok (J := J0) (tab_cons g70_ok (tab_cons g75_ok (tab_cons g76_ok (tab_nil fls_fun))))) Tryz.func51 (fun args w => by simp)).imp fun xs h k e0 => by
  obtain ⟨a0, xs0, rfl, e1⟩ := arg_imp e0
  obtain ⟨a1, xs1, rfl, e2⟩ := arg_imp e1
  obtain ⟨rfl, e3⟩ := noArg_imp e2
  obtain ⟨a1, rfl, e4⟩ := asS_iff.1 e3
  exact (s51_eq J0 s70 s75 s76 a0 a1 h k).mpr e4
/-- (*stagepost/wal.Wal).Append -/
noncomputable def s22G (J : Joins) (c10 : AV → H → (AV → Int → H → Prop) → Prop) (c14 : Int → H → (Str → Int → H → Prop) → Prop) (c16 : AV → H → (Int → H → Prop) → Prop) (c47 : AV → H → (Int → H → Prop) → Prop) (c48 : AV → AV → H → (AV → Int → H → Prop) → Prop) (c49 : AV → Int → H → (Int → H → Prop) → Prop) (c50 : AV → Str → AV → H → (Int → H → Prop) → Prop) (c51 : AV → Str → H → (Int → H → Prop) → Prop) (a0 : AV) (a1 : AV) (h : H) (k : Int → Int → H → Prop) : Prop :=
c47 a0 h fun x2 h1 =>
fB (Bool.not (eqI x2 (Int.ofNat 0))) fun b3 =>
br b3 (
k (Int.ofNat 0) x2 h1) (
c16 a1 h1 fun x5 h4 =>
fB (Bool.not (eqI x5 (Int.ofNat 0))) fun b6 =>
br b6 (
k (Int.ofNat 0) x5 h4) (
okNil a0 (
faK 1 a0 fun p7 =>
ldI .i64 p7 h4 fun x8 =>
fB (eqI x8 (Int.ofNat 1073741824)) fun b9 =>
br b9 (
k (Int.ofNat 0) (Int.ofNat 3) h4) (
okNil a0 (
faK 1 a0 fun p10 =>
ldI .i64 p10 h4 fun x11 =>
fI (wrapF .i64 (Int.add x11 (Int.ofNat 1))) fun x12 =>
ck (isOne a1) (c10 (AV.agg [(AV.int .i64 x12), a1]) h4 fun v14 x15 h13 =>
c48 AV.nils v14 h13 fun v17 x18 h16 =>
okNil a0 (
faK 2 a0 fun p19 =>
ldI .i64 p19 h16 fun x20 =>
c14 x20 h16 fun s22 x23 h21 =>
okNil a0 (
faK 0 a0 fun p24 =>
ldV p24 h21 fun v25 =>
c50 v25 s22 v17 h21 fun x27 h26 =>
c49 a0 x27 h26 fun x29 h28 =>
fB (Bool.not (eqI x29 (Int.ofNat 0))) fun b30 =>
br b30 (
k (Int.ofNat 0) x29 h28) (
okNil a0 (
faK 0 a0 fun p31 =>
ldV p31 h28 fun v32 =>
c51 v32 s22 h28 fun x34 h33 =>
c49 a0 x34 h33 fun x36 h35 =>
fB (Bool.not (eqI x36 (Int.ofNat 0))) fun b37 =>
br b37 (
k (Int.ofNat 0) x36 h35) (
okNil a0 (
faK 1 a0 fun p38 =>
ldI .i64 p38 h35 fun x39 =>
fI (wrapF .i64 (Int.add x39 (Int.ofNat 1))) fun x40 =>
okNil a0 (
faK 1 a0 fun p41 =>
stV p41 (AV.int .i64 x40) h35 fun h42 =>
okNil a0 (
faK 1 a0 fun p43 =>
ldI .i64 p43 h42 fun x44 =>
k x44 (Int.ofNat 0) h42))))))))))))))
noncomputable def s22 : AV → AV → H → (Int → Int → H → Prop) → Prop := s22G J0 s10 s14 s16 s47 s48 s49 s50 s51
noncomputable def w22 (c : AV → AV → H → (Int → Int → H → Prop) → Prop) : Fun := fun xs h k => arg xs fun a0 xs => arg xs fun a1 xs => noArg xs <| c a0 a1 h fun r0 r1 h => k (.tuple [(.int .i64 r0), (.int .i64 r1)]) h
theorem s22_eq (J : Joins) (c10 : AV → H → (AV → Int → H → Prop) → Prop) (c14 : Int → H → (Str → Int → H → Prop) → Prop) (c16 : AV → H → (Int → H → Prop) → Prop) (c47 : AV → H → (Int → H → Prop) → Prop) (c48 : AV → AV → H → (AV → Int → H → Prop) → Prop) (c49 : AV → Int → H → (Int → H → Prop) → Prop) (c50 : AV → Str → AV → H → (Int → H → Prop) → Prop) (c51 : AV → Str → H → (Int → H → Prop) → Prop) (a0 : AV) (a1 : AV) (h : H) (k : AV → H → Prop) : denF ty (gam J [(10, w10 c10), (14, w14 c14), (16, w16 c16), (47, w47 c47), (48, w48 c48), (49, w49 c49), (50, w50 c50), (51, w51 c51)]) Tryz.f22 [a0, a1] h k = s22G J c10 c14 c16 c47 c48 c49 c50 c51 a0 a1 h (fun r0 r1 h => k (.tuple [(.int .i64 r0), (.int .i64 r1)]) h) := by kernel_rfl
noncomputable def g22 : Fun := w22 s22
theorem g22_ok : FunOk Tryz.prog 22 g22 := (fun_ok ty_ok mixed (gam_ok (J := J0) (tab_cons g10_ok (tab_cons g14_ok (tab_cons g16_ok (tab_cons g47_ok (tab_cons g48_ok (tab_cons g49_ok (tab_cons g50_ok (tab_cons g51_ok (tab_nil fls_fun)))))))))) Tryz.func22 (fun args w => by simp)).imp fun xs h k e0 => by
  obtain ⟨a0, xs0, rfl, e1⟩ := arg_imp e0
  obtain ⟨a1, xs1, rfl, e2⟩ := arg_imp e1
  obtain ⟨rfl, e3⟩ := noArg_imp e2
  exact (s22_eq J0 s10 s14 s16 s47 s48 s49 s50 s51 a0 a1 h k).mpr e3
/-- (*stagepost/wal.Wal).Seq -/
noncomputable def s25G (J : Joins) (a0 : AV) (h : H) (k : Int → H → Prop) : Prop :=
nilB 0 a0 fun b1 =>
br b1 (
k (Int.ofNat 0) h) (
okNil a0 (
faK 1 a0 fun p2 =>
ldI .i64 p2 h fun x3 =>
k x3 h))
noncomputable def s25 : AV → H → (Int → H → Prop) → Prop := s25G J0 
noncomputable def w25 (c : AV → H → (Int → H → Prop) → Prop) : Fun := fun xs h k => arg xs fun a0 xs => noArg xs <| c a0 h fun r0 h => k (.int .i64 r0) h
theorem s25_eq (J : Joins) (a0 : AV) (h : H) (k : AV → H → Prop) : denF ty (gam J []) Tryz.f25 [a0] h k = s25G J  a0 h (fun r0 h => k (.int .i64 r0) h) := by kernel_rfl
noncomputable def g25 : Fun := w25 s25
theorem g25_ok : FunOk Tryz.prog 25 g25 := (fun_ok ty_ok mixed (gam_ok (J := J0) (tab_nil fls_fun)) Tryz.func25 (fun args w => by simp)).imp fun xs h k e0 => by
  obtain ⟨a0, xs0, rfl, e1⟩ := arg_imp e0
  obtain ⟨rfl, e2⟩ := noArg_imp e1
  exact (s25_eq J0  a0 h k).mpr e2
/-- (*stagepost/wal.Wal).Segment -/
noncomputable def s26G (J : Joins) (a0 : AV) (h : H) (k : Int → H → Prop) : Prop :=
nilB 0 a0 fun b1 =>
br b1 (
k (Int.ofNat 0) h) (
okNil a0 (
faK 2 a0 fun p2 =>
ldI .i64 p2 h fun x3 =>
k x3 h))
noncomputable def s26 : AV → H → (Int → H → Prop) → Prop := s26G J0 
noncomputable def w26 (c : AV → H → (Int → H → Prop) → Prop) : Fun := fun xs h k => arg xs fun a0 xs => noArg xs <| c a0 h fun r0 h => k (.int .i64 r0) h
theorem s26_eq (J : Joins) (a0 : AV) (h : H) (k : AV → H → Prop) : denF ty (gam J []) Tryz.f26 [a0] h k = s26G J  a0 h (fun r0 h => k (.int .i64 r0) h) := by kernel_rfl
noncomputable def g26 : Fun := w26 s26
theorem g26_ok : FunOk Tryz.prog 26 g26 := (fun_ok ty_ok mixed (gam_ok (J := J0) (tab_nil fls_fun)) Tryz.func26 (fun args w => by simp)).imp fun xs h k e0 => by
  obtain ⟨a0, xs0, rfl, e1⟩ := arg_imp e0
  obtain ⟨rfl, e2⟩ := noArg_imp e1
  exact (s26_eq J0  a0 h k).mpr e2
/-- (*stagepost/vfs.FS).SyncNames -/
noncomputable def s56G (J : Joins) (c75 : AV → AV → H → (Int → H → Prop) → Prop) (c78 : AV → AV → H → (Int → H → Prop) → Prop) (c84 : AV → H → (Bool → H → Prop) → Prop) (a0 : AV) (h : H) (k : Int → H → Prop) : Prop :=
c78 a0 AV.nils h fun x2 h1 =>
fB (Bool.not (eqI x2 (Int.ofNat 0))) fun b3 =>
br b3 (
k x2 h1) (
c75 a0 (AV.func (.func 84) [] []) h1 fun x5 h4 =>
k x5 h4)
noncomputable def s56 : AV → H → (Int → H → Prop) → Prop := s56G J0 s75 s78 s84
noncomputable def w56 (c : AV → H → (Int → H → Prop) → Prop) : Fun := fun xs h k => arg xs fun a0 xs => noArg xs <| c a0 h fun r0 h => k (.int .i64 r0) h
theorem s56_eq (J : Joins) (c75 : AV → AV → H → (Int → H → Prop) → Prop) (c78 : AV → AV → H → (Int → H → Prop) → Prop) (c84 : AV → H → (Bool → H → Prop) → Prop) (a0 : AV) (h : H) (k : AV → H → Prop) : denF ty (gam J [(75, w75 c75), (78, w78 c78), (84, w84 c84)]) Tryz.f56 [a0] h k = s56G J c75 c78 c84 a0 h (fun r0 h => k (.int .i64 r0) h) := by kernel_rfl
noncomputable def g56 : Fun := w56 s56
theorem g56_ok : FunOk Tryz.prog 56 g56 := (fun_ok ty_ok mixed (gam_ok (J := J0) (tab_cons g75_ok (tab_cons g78_ok (tab_cons g84_ok (tab_nil fls_fun))))) Tryz.func56 (fun args w => by simp)).imp fun xs h k e0 => by
  obtain ⟨a0, xs0, rfl, e1⟩ := arg_imp e0
  obtain ⟨rfl, e2⟩ := noArg_imp e1
  exact (s56_eq J0 s75 s78 s84 a0 h k).mpr e2
/-- (*stagepost/vfs.FS).Create -/
noncomputable def s77G (J : Joins) (c73 : AV → AV → H → (Int → H → Prop) → Prop) (c78 : AV → AV → H → (Int → H → Prop) → Prop) (c81 : AV → H → (AV → H → Prop) → Prop) (a0 : AV) (a1 : Str) (h : H) (k : Int → H → Prop) : Prop :=
pushK (.cells false 9 [(AV.str a1)]) h fun n1 h2 =>
c78 a0 (AV.slice n1 0 1 1 1 true) h2 fun x4 h3 =>
fB (Bool.not (eqI x4 (Int.ofNat 0))) fun b5 =>
br b5 (
k x4 h3) (
c81 a0 h3 fun v7 h6 =>
Go.Am.asAgg v7 fun l8 =>
op' (lgetO l8 1) fun v9 =>
op' (aLookup ty 9 3 true v9 (AV.str a1) h6) fun v10 =>
asTup v10 fun l11 =>
op' (lgetO l11 0) fun v12 =>
asI .i64 v12 fun x13 =>
asTup v10 fun l14 =>
op' (lgetO l14 1) fun v15 =>
asB v15 fun b16 =>
br b16 (
k (Int.ofNat 9) h6) (
okNil a0 (
faK 4 a0 fun p17 =>
ldI .i64 p17 h6 fun x18 =>
c73 a0 (AV.agg [(AV.int .i64 (Int.ofNat 1)), (AV.str a1), (.str ⟨0, 0⟩), (AV.int .i64 x18), (.nils)]) h6 fun x20 h19 =>
okNil a0 (
faK 4 a0 fun p21 =>
ldI .i64 p21 h19 fun x22 =>
fI (wrapF .i64 (Int.add x22 (Int.ofNat 1))) fun x23 =>
okNil a0 (
faK 4 a0 fun p24 =>
stV p24 (AV.int .i64 x23) h19 fun h25 =>
k x20 h25)))))
noncomputable def s77 : AV → Str → H → (Int → H → Prop) → Prop := s77G J0 s73 s78 s81
noncomputable def w77 (c : AV → Str → H → (Int → H → Prop) → Prop) : Fun := fun xs h k => arg xs fun a0 xs => arg xs fun a1 xs => noArg xs <| asS a1 fun a1 => c a0 a1 h fun r0 h => k (.int .i64 r0) h
theorem s77_eq (J : Joins) (c73 : AV → AV → H → (Int → H → Prop) → Prop) (c78 : AV → AV → H → (Int → H → Prop) → Prop) (c81 : AV → H → (AV → H → Prop) → Prop) (a0 : AV) (a1 : Str) (h : H) (k : AV → H → Prop) : denF ty (gam J [(73, w73 c73), (78, w78 c78), (81, w81 c81)]) Tryz.f77 [a0, (.str a1)] h k = s77G J c73 c78 c81 a0 a1 h (fun r0 h => k (.int .i64 r0) h) := by kernel_rfl
noncomputable def g77 : Fun := w77 s77
theorem g77_ok : FunOk Tryz.prog 77 g77 := (fun_ok ty_ok mixed (gam_ok (J := J0) (tab_cons g73_ok (tab_cons g78_ok (tab_cons g81_ok (tab_nil fls_fun))))) Tryz.func77 (fun args w => by simp)).imp fun xs h k e0 => by
  obtain ⟨a0, xs0, rfl, e1⟩ := arg_imp e0
  obtain ⟨a1, xs1, rfl, e2⟩ := arg_imp e1
  obtain ⟨rfl, e3⟩ := noArg_imp e2
  obtain ⟨a1, rfl, e4⟩ := asS_iff.1 e3
  exact (s77_eq J0 s73 s78 s81 a0 a1 h k).mpr e4
/-- (*stagepost/wal.Wal).begin -/
noncomputable def s52G (J : Joins) (c14 : Int → H → (Str → Int → H → Prop) → Prop) (c49 : AV → Int → H → (Int → H → Prop) → Prop) (c56 : AV → H → (Int → H → Prop) → Prop) (c77 : AV → Str → H → (Int → H → Prop) → Prop) (a0 : AV) (h : H) (k : Int → H → Prop) : Prop :=
okNil a0 (
faK 2 a0 fun p1 =>
ldI .i64 p1 h fun x2 =>
fI (wrapF .i64 (Int.add x2 (Int.ofNat 1))) fun x3 =>
c14 x3 h fun s5 x6 h4 =>
fB (Bool.not (eqI x6 (Int.ofNat 0))) fun b7 =>
br b7 (
k (Int.ofNat 3) h4) (
okNil a0 (
faK 0 a0 fun p8 =>
ldV p8 h4 fun v9 =>
c77 v9 s5 h4 fun x11 h10 =>
c49 a0 x11 h10 fun x13 h12 =>
fB (Bool.not (eqI x13 (Int.ofNat 0))) fun b14 =>
br b14 (
k x13 h12) (
okNil a0 (
faK 0 a0 fun p15 =>
ldV p15 h12 fun v16 =>
c56 v16 h12 fun x18 h17 =>
c49 a0 x18 h17 fun x20 h19 =>
fB (Bool.not (eqI x20 (Int.ofNat 0))) fun b21 =>
br b21 (
k x20 h19) (
okNil a0 (
faK 2 a0 fun p22 =>
ldI .i64 p22 h19 fun x23 =>
fI (wrapF .i64 (Int.add x23 (Int.ofNat 1))) fun x24 =>
okNil a0 (
faK 2 a0 fun p25 =>
stV p25 (AV.int .i64 x24) h19 fun h26 =>
k (Int.ofNat 0) h26))))))))
noncomputable def s52 : AV → H → (Int → H → Prop) → Prop := s52G J0 s14 s49 s56 s77
noncomputable def w52 (c : AV → H → (Int → H → Prop) → Prop) : Fun := fun xs h k => arg xs fun a0 xs => noArg xs <| c a0 h fun r0 h => k (.int .i64 r0) h
theorem s52_eq (J : Joins) (c14 : Int → H → (Str → Int → H → Prop) → Prop) (c49 : AV → Int → H → (Int → H → Prop) → Prop) (c56 : AV → H → (Int → H → Prop) → Prop) (c77 : AV → Str → H → (Int → H → Prop) → Prop) (a0 : AV) (h : H) (k : AV → H → Prop) : denF ty (gam J [(14, w14 c14), (49, w49 c49), (56, w56 c56), (77, w77 c77)]) Tryz.f52 [a0] h k = s52G J c14 c49 c56 c77 a0 h (fun r0 h => k (.int .i64 r0) h) := by kernel_rfl
noncomputable def g52 : Fun := w52 s52
theorem g52_ok : FunOk Tryz.prog 52 g52 := (fun_ok ty_ok mixed (gam_ok (J := J0) (tab_cons g14_ok (tab_cons g49_ok (tab_cons g56_ok (tab_cons g77_ok (tab_nil fls_fun)))))) Tryz.func52 (fun args w => by simp)).imp fun xs h k e0 => by
  obtain ⟨a0, xs0, rfl, e1⟩ := arg_imp e0
  obtain ⟨rfl, e2⟩ := noArg_imp e1
  exact (s52_eq J0 s14 s49 s56 s77 a0 h k).mpr e2
/-- stagepost/wal.held -/
noncomputable def s58G (J : Joins) (c14 : Int → H → (Str → Int → H → Prop) → Prop) (c85 : AV → Str → H → (AV → Int → H → Prop) → Prop) (a0 : AV) (a1 : Int) (h : H) (k : Bool → H → Prop) : Prop :=
c14 a1 h fun s2 x3 h1 =>
fB (Bool.not (eqI x3 (Int.ofNat 0))) fun b4 =>
br b4 (
k false h1) (
c85 a0 s2 h1 fun v6 x7 h5 =>
fB (eqI x7 (Int.ofNat 0)) fun b8 =>
k b8 h5)
noncomputable def s58 : AV → Int → H → (Bool → H → Prop) → Prop := s58G J0 s14 s85
noncomputable def w58 (c : AV → Int → H → (Bool → H → Prop) → Prop) : Fun := fun xs h k => arg xs fun a0 xs => arg xs fun a1 xs => noArg xs <| asI .i64 a1 fun a1 => c a0 a1 h fun r0 h => k (.bool r0) h
theorem s58_eq (J : Joins) (c14 : Int → H → (Str → Int → H → Prop) → Prop) (c85 : AV → Str → H → (AV → Int → H → Prop) → Prop) (a0 : AV) (a1 : Int) (h : H) (k : AV → H → Prop) : denF ty (gam J [(14, w14 c14), (85, w85 c85)]) Tryz.f58 [a0, (.int .i64 a1)] h k = s58G J c14 c85 a0 a1 h (fun r0 h => k (.bool r0) h) := by kernel_rfl
noncomputable def g58 : Fun := w58 s58
theorem g58_ok : FunOk Tryz.prog 58 g58 := (fun_ok ty_ok mixed (gam_ok (J := J0) (tab_cons g14_ok (tab_cons g85_ok (tab_nil fls_fun)))) Tryz.func58 (fun args w => by simp)).imp fun xs h k e0 => by
  obtain ⟨a0, xs0, rfl, e1⟩ := arg_imp e0
  obtain ⟨a1, xs1, rfl, e2⟩ := arg_imp e1
  obtain ⟨rfl, e3⟩ := noArg_imp e2
  obtain ⟨a1, rfl, e4⟩ := asI_iff.1 e3
  exact (s58_eq J0 s14 s85 a0 a1 h k).mpr e4
/-- stagepost/wal.Open -/
noncomputable def s27G (J : Joins) (c52 : AV → H → (Int → H → Prop) → Prop) (c57 : AV → H → (Int → H → Prop) → Prop) (c58 : AV → Int → H → (Bool → H → Prop) → Prop) (a0 : AV) (a1 : Int) (a2 : Int) (h : H) (k : AV → AV → Int → H → Prop) : Prop :=
c57 a0 h fun x2 h1 =>
fB (Bool.not (eqI x2 (Int.ofNat 0))) fun b3 =>
br b3 (
k AV.nilp AV.nils x2 h1) (
fB (ltI a1 (Int.ofNat 1)) fun b4 =>
J.jn (fun v5 h6 =>
J.jn (fun v8 h9 =>
pickB (AV.bool b4) (AV.bool true) v8 fun b13 =>
J.jn (fun v14 h15 =>
J.jn (fun v17 h18 =>
pickB (AV.bool b13) (AV.bool true) v17 fun b22 =>
J.jn (fun v23 h24 =>
J.jn (fun v26 h27 =>
pickB (AV.bool b22) (AV.bool true) v26 fun b31 =>
br b31 (
k AV.nilp AV.nils (Int.ofNat 2) h27) (
J.lp (α := AV × AV × AV × AV × Unit) (fun r35 v32 d33 h34 =>
asI .i64 v32.2.2.2.1 fun x37 =>
c58 v32.1 x37 h34 fun b38 h36 =>
br b38 (
False) (
lenK v32.2.2.1 fun x39 =>
fB (ltI (Int.ofNat 0) (Int.ofNat x39)) fun b40 =>
J.jn (fun v41 h42 =>
J.jn (fun v44 h45 =>
J.jn (fun v48 h49 =>
J.jn (fun v52 h53 =>
J.jn (fun v56 h57 =>
J.jn (fun v59 h60 =>
J.jn (fun v64 h65 =>
J.jn (fun v70 h71 =>
J.jn (fun v73 h74 =>
J.jn (fun v76 h77 =>
J.jn (fun v79 h80 =>
J.jn (fun v84 h85 =>
J.jn (fun v88 h89 =>
J.jn (fun v92 h93 =>
J.jn (fun v96 h97 =>
J.jn (fun v99 h100 =>
J.jn (fun v105 h106 =>
pickB (AV.bool b40) v105 (AV.bool false) fun b109 =>
br b109 (
leaveK (gam J [(52, w52 c52), (57, w57 c57), (58, w58 c58)]) d33 h106 fun h110 =>
k AV.nilp AV.nils (Int.ofNat 6) h110) (
asI .i64 v32.2.2.2.1 fun x111 =>
fI (wrapF .i64 (Int.sub x111 (Int.ofNat 1))) fun x112 =>
ck (isOne v32.1) (asI .i64 v32.2.1 fun x113 =>
pushK (.cells false 48 [v32.1, (AV.int .i64 x113), (AV.int .i64 x112), (.bool false), (AV.bool true)]) h106 fun n114 h115 =>
c52 (AV.ptr n114 0) h115 fun x117 h116 =>
fB (Bool.not (eqI x117 (Int.ofNat 0))) fun b118 =>
br b118 (
leaveK (gam J [(52, w52 c52), (57, w57 c57), (58, w58 c58)]) d33 h116 fun h119 =>
k AV.nilp AV.nils x117 h119) (
J.jd (α := AV × AV × AV × Unit) (fun v120 d121 h122 =>
J.lp (α := AV × AV × AV × Unit) (fun r127 v124 d125 h126 =>
lenK v124.2.1 fun x128 =>
fB (ltI (Int.ofNat 0) (Int.ofNat x128)) fun b129 =>
J.jn (fun v130 h131 =>
J.jn (fun v133 h134 =>
J.jn (fun v137 h138 =>
J.jn (fun v141 h142 =>
J.jn (fun v145 h146 =>
J.jn (fun v148 h149 =>
pickB (AV.bool b129) v148 (AV.bool false) fun b154 =>
br b154 (
slK 2 v124.2.1 (some (AV.int .i64 (Int.ofNat 1))) none fun v155 =>
r127 (v124.1, v155, v124.2.2.1, ()) d125 h149) (
leaveK (gam J [(52, w52 c52), (57, w57 c57), (58, w58 c58)]) d125 h149 fun h156 =>
k v124.2.2.1 v124.2.1 (Int.ofNat 0) h156)) fun j150 =>
br b129 (
asI .i64 v141 fun x151 =>
asI .i64 v145 fun x152 =>
fB (Bool.not (ltI x152 x151)) fun b153 =>
j150 (AV.bool b153) h146) (
j150 skipV h146)) fun j147 =>
br b129 (
j147 v124.1 h142) (
j147 skipV h142)) fun j143 =>
br b129 (
ldI .i64 v137 h138 fun x144 =>
j143 (AV.int .i64 x144) h138) (
j143 skipV h138)) fun j139 =>
br b129 (
faK 0 v133 fun p140 =>
j139 p140 h134) (
j139 skipV h134)) fun j135 =>
br b129 (
ixK 2 v130 (AV.int .i64 (Int.ofNat 0)) fun p136 =>
j135 p136 h131) (
j135 skipV h131)) fun j132 =>
br b129 (
j132 v124.2.1 h126) (
j132 skipV h126)) (v120.1, v120.2.1, v120.2.2.1, ()) d121 h122) fun j123 =>
lenK v32.2.2.1 fun x157 =>
fB (ltI (Int.ofNat 0) (Int.ofNat x157)) fun b158 =>
br b158 (
fI (wrapF .i64 (Int.sub (Int.ofNat x157) (Int.ofNat 1))) fun x159 =>
ixK 2 v32.2.2.1 (AV.int .i64 x159) fun p160 =>
faK 0 p160 fun p161 =>
ldI .i64 p161 h116 fun x162 =>
stV (AV.ptr n114 1) (AV.int .i64 x162) h116 fun h163 =>
j123 (v32.2.1, v32.2.2.1, (AV.ptr n114 0), ()) d33 h163) (
j123 (v32.2.1, v32.2.2.1, (AV.ptr n114 0), ()) d33 h116))))) fun j107 =>
br b40 (
pickB v70 (AV.bool true) v99 fun b108 =>
j107 (AV.bool b108) h100) (
j107 skipV h100)) fun j101 =>
asBU v70 (fun b164 =>
br b164 (
j101 skipV h97) (
asI .i64 v92 fun x102 =>
asI .i64 v96 fun x103 =>
fB (ltI x102 x103) fun b104 =>
j101 (AV.bool b104) h97)) (
j101 skipV h97)) fun j98 =>
asBU v70 (fun b165 =>
br b165 (
j98 skipV h93) (
j98 v32.2.1 h93)) (
j98 skipV h93)) fun j94 =>
asBU v70 (fun b166 =>
br b166 (
j94 skipV h89) (
ldI .i64 v88 h89 fun x95 =>
j94 (AV.int .i64 x95) h89)) (
j94 skipV h89)) fun j90 =>
asBU v70 (fun b167 =>
br b167 (
j90 skipV h85) (
faK 0 v84 fun p91 =>
j90 p91 h85)) (
j90 skipV h85)) fun j86 =>
asBU v70 (fun b168 =>
br b168 (
j86 skipV h80) (
ixK 2 v73 v79 fun p87 =>
j86 p87 h80)) (
j86 skipV h80)) fun j81 =>
asBU v70 (fun b169 =>
br b169 (
j81 skipV h77) (
asI .i64 v76 fun x82 =>
fI (wrapF .i64 (Int.sub x82 (Int.ofNat 1))) fun x83 =>
j81 (AV.int .i64 x83) h77)) (
j81 skipV h77)) fun j78 =>
asBU v70 (fun b170 =>
br b170 (
j78 skipV h74) (
j78 (AV.int .i64 (Int.ofNat x39)) h74)) (
j78 skipV h74)) fun j75 =>
asBU v70 (fun b171 =>
br b171 (
j75 skipV h71) (
j75 v32.2.2.1 h71)) (
j75 skipV h71)) fun j72 =>
br b40 (
j72 v64 h65) (
j72 skipV h65)) fun j66 =>
br b40 (
asI .i64 v52 fun x67 =>
asI .i64 v59 fun x68 =>
fB (ltI x68 x67) fun b69 =>
j66 (AV.bool b69) h60) (
j66 skipV h60)) fun j61 =>
br b40 (
asI .i64 v56 fun x62 =>
fI (wrapF .i64 (Int.add x62 (Int.ofNat 1))) fun x63 =>
j61 (AV.int .i64 x63) h57) (
j61 skipV h57)) fun j58 =>
br b40 (
j58 v32.2.1 h53) (
j58 skipV h53)) fun j54 =>
br b40 (
ldI .i64 v48 h49 fun x55 =>
j54 (AV.int .i64 x55) h49) (
j54 skipV h49)) fun j50 =>
br b40 (
faK 0 v44 fun p51 =>
j50 p51 h45) (
j50 skipV h45)) fun j46 =>
br b40 (
ixK 2 v41 (AV.int .i64 (Int.ofNat 0)) fun p47 =>
j46 p47 h42) (
j46 skipV h42)) fun j43 =>
br b40 (
j43 v32.2.2.1 h36) (
j43 skipV h36))) (a0, (AV.int .i64 a2), AV.nils, (AV.int .i64 a1), ()) [] h27)) fun j28 =>
br b22 (
j28 skipV h24) (
asI .i64 v23 fun x29 =>
fB (ltI (Int.ofNat 1073741824) x29) fun b30 =>
j28 (AV.bool b30) h24)) fun j25 =>
br b22 (
j25 skipV h18) (
j25 (AV.int .i64 a2) h18)) fun j19 =>
br b13 (
j19 skipV h15) (
asI .i64 v14 fun x20 =>
fB (ltI x20 (Int.ofNat 0)) fun b21 =>
j19 (AV.bool b21) h15)) fun j16 =>
br b13 (
j16 skipV h9) (
j16 (AV.int .i64 a2) h9)) fun j10 =>
br b4 (
j10 skipV h6) (
asI .i64 v5 fun x11 =>
fB (ltI (Int.ofNat 999999) x11) fun b12 =>
j10 (AV.bool b12) h6)) fun j7 =>
br b4 (
j7 skipV h1) (
j7 (AV.int .i64 a1) h1))
noncomputable def s27 : AV → Int → Int → H → (AV → AV → Int → H → Prop) → Prop := s27G J0 s52 s57 s58
noncomputable def w27 (c : AV → Int → Int → H → (AV → AV → Int → H → Prop) → Prop) : Fun := fun xs h k => arg xs fun a0 xs => arg xs fun a1 xs => arg xs fun a2 xs => noArg xs <| asI .i64 a1 fun a1 => asI .i64 a2 fun a2 => c a0 a1 a2 h fun r0 r1 r2 h => k (.tuple [r0, r1, (.int .i64 r2)]) h
theorem s27_eq (J : Joins) (c52 : AV → H → (Int → H → Prop) → Prop) (c57 : AV → H → (Int → H → Prop) → Prop) (c58 : AV → Int → H → (Bool → H → Prop) → Prop) (a0 : AV) (a1 : Int) (a2 : Int) (h : H) (k : AV → H → Prop) : denF ty (gam J [(52, w52 c52), (57, w57 c57), (58, w58 c58)]) Tryz.f27 [a0, (.int .i64 a1), (.int .i64 a2)] h k = s27G J c52 c57 c58 a0 a1 a2 h (fun r0 r1 r2 h => k (.tuple [r0, r1, (.int .i64 r2)]) h) := by kernel_rfl
noncomputable def g27 : Fun := w27 s27
theorem g27_ok : FunOk Tryz.prog 27 g27 := (fun_ok ty_ok mixed (gam_ok (J := J0) (tab_cons g52_ok (tab_cons g57_ok (tab_cons g58_ok (tab_nil fls_fun))))) Tryz.func27 (fun args w => by simp)).imp fun xs h k e0 => by
  obtain ⟨a0, xs0, rfl, e1⟩ := arg_imp e0
  obtain ⟨a1, xs1, rfl, e2⟩ := arg_imp e1
  obtain ⟨a2, xs2, rfl, e3⟩ := arg_imp e2
  obtain ⟨rfl, e4⟩ := noArg_imp e3
  obtain ⟨a1, rfl, e5⟩ := asI_iff.1 e4
  obtain ⟨a2, rfl, e6⟩ := asI_iff.1 e5
  exact (s27_eq J0 s52 s57 s58 a0 a1 a2 h k).mpr e6
/-- stagepost/vfs.New -/
noncomputable def s28G (J : Joins) (a0 : Int) (h : H) (k : AV → Int → H → Prop) : Prop :=
fB (ltI a0 (Int.ofNat 0)) fun b1 =>
J.jn (fun v2 h3 =>
J.jn (fun v5 h6 =>
pickB (AV.bool b1) (AV.bool true) v5 fun b10 =>
br b10 (
k AV.nilp (Int.ofNat 2) h6) (
pushK (.smap []) h6 fun n11 h12 =>
pushK (.smap []) h12 fun n13 h14 =>
ck (Nat.beq (List.length [(AV.map n11), (AV.map n13)]) 2) (op' (lputAt 0 [(AV.map n11), (AV.map n13)] [(.nilm), (.nilm), (.nils), (.int .i64 0), (.int .i64 0), (.bool false), (.bool false), (.int .i64 0), (.int .i64 0), (.bool false)]) fun l15 =>
op' (lputAt 3 [(AV.int .i64 a0)] l15) fun l16 =>
op' (lputAt 9 [(AV.bool true)] l16) fun l17 =>
pushK (.cells false 63 l17) h14 fun n18 h19 =>
k (AV.ptr n18 0) (Int.ofNat 0) h19))) fun j7 =>
br b1 (
j7 skipV h3) (
asI .i64 v2 fun x8 =>
fB (ltI (Int.ofNat 1073741824) x8) fun b9 =>
j7 (AV.bool b9) h3)) fun j4 =>
br b1 (
j4 skipV h) (
j4 (AV.int .i64 a0) h)
noncomputable def s28 : Int → H → (AV → Int → H → Prop) → Prop := s28G J0 
noncomputable def w28 (c : Int → H → (AV → Int → H → Prop) → Prop) : Fun := fun xs h k => arg xs fun a0 xs => noArg xs <| asI .i64 a0 fun a0 => c a0 h fun r0 r1 h => k (.tuple [r0, (.int .i64 r1)]) h
theorem s28_eq (J : Joins) (a0 : Int) (h : H) (k : AV → H → Prop) : denF ty (gam J []) Tryz.f28 [(.int .i64 a0)] h k = s28G J  a0 h (fun r0 r1 h => k (.tuple [r0, (.int .i64 r1)]) h) := by kernel_rfl
noncomputable def g28 : Fun := w28 s28
theorem g28_ok : FunOk Tryz.prog 28 g28 := (fun_ok ty_ok mixed (gam_ok (J := J0) (tab_nil fls_fun)) Tryz.func28 (fun args w => by simp)).imp fun xs h k e0 => by
  obtain ⟨a0, xs0, rfl, e1⟩ := arg_imp e0
  obtain ⟨rfl, e2⟩ := noArg_imp e1
  obtain ⟨a0, rfl, e3⟩ := asI_iff.1 e2
  exact (s28_eq J0  a0 h k).mpr e3
/-- stagepost/stagepostlaw05.put -/
noncomputable def s31G (J : Joins) (a0 : Str) (a1 : Str) (h : H) (k : AV → H → Prop) : Prop :=
ck (Nat.beq (List.length [(AV.str a0), (AV.str a1), (.bool false)]) 3) (op' (lputAt 0 [(AV.str a0), (AV.str a1), (.bool false)] [(.str ⟨0, 0⟩), (.str ⟨0, 0⟩), (.bool false)]) fun l3 =>
pushK (.cells false 74 l3) h fun n1 h2 =>
k (AV.slice n1 0 1 1 3 true) h2)
noncomputable def s31 : Str → Str → H → (AV → H → Prop) → Prop := s31G J0 
noncomputable def w31 (c : Str → Str → H → (AV → H → Prop) → Prop) : Fun := fun xs h k => arg xs fun a0 xs => arg xs fun a1 xs => noArg xs <| asS a0 fun a0 => asS a1 fun a1 => c a0 a1 h fun r0 h => k r0 h
theorem s31_eq (J : Joins) (a0 : Str) (a1 : Str) (h : H) (k : AV → H → Prop) : denF ty (gam J []) Tryz.f31 [(.str a0), (.str a1)] h k = s31G J  a0 a1 h (fun r0 h => k r0 h) := by kernel_rfl
noncomputable def g31 : Fun := w31 s31
theorem g31_ok : FunOk Tryz.prog 31 g31 := (fun_ok ty_ok mixed (gam_ok (J := J0) (tab_nil fls_fun)) Tryz.func31 (fun args w => by simp)).imp fun xs h k e0 => by
  obtain ⟨a0, xs0, rfl, e1⟩ := arg_imp e0
  obtain ⟨a1, xs1, rfl, e2⟩ := arg_imp e1
  obtain ⟨rfl, e3⟩ := noArg_imp e2
  obtain ⟨a0, rfl, e4⟩ := asS_iff.1 e3
  obtain ⟨a1, rfl, e5⟩ := asS_iff.1 e4
  exact (s31_eq J0  a0 a1 h k).mpr e5
/-- stagepost/stagepostlaw05.lives -/
noncomputable def s6G (J : Joins) (c22 : AV → AV → H → (Int → Int → H → Prop) → Prop) (c25 : AV → H → (Int → H → Prop) → Prop) (c26 : AV → H → (Int → H → Prop) → Prop) (c27 : AV → Int → Int → H → (AV → AV → Int → H → Prop) → Prop) (c28 : Int → H → (AV → Int → H → Prop) → Prop) (c31 : Str → Str → H → (AV → H → Prop) → Prop) (h : H) (k : Bool → H → Prop) : Prop :=
c28 (Int.ofNat 10000) h fun v2 x3 h1 =>
c27 v2 (Int.ofNat 1) (Int.ofNat 0) h1 fun v5 v6 x7 h4 =>
fB (Bool.not (eqI x3 (Int.ofNat 0))) fun b8 =>
J.jn (fun v9 h10 =>
J.jn (fun v12 h13 =>
pickB (AV.bool b8) (AV.bool true) v12 fun b17 =>
J.jn (fun v18 h19 =>
J.jn (fun v21 h22 =>
pickB (AV.bool b17) (AV.bool true) v21 fun b25 =>
J.jn (fun v26 h27 =>
J.jn (fun v29 h30 =>
J.jn (fun v33 h34 =>
pickB (AV.bool b25) (AV.bool true) v33 fun b38 =>
br b38 (
k false h34) (
c31 ⟨1, 97⟩ ⟨1, 49⟩ h34 fun v40 h39 =>
c22 v5 v40 h39 fun x42 x43 h41 =>
ck (Nat.beq (List.length [(AV.str ⟨1, 97⟩), (.str ⟨0, 0⟩), (AV.bool true)]) 3) (op' (lputAt 0 [(AV.str ⟨1, 97⟩), (.str ⟨0, 0⟩), (AV.bool true)] [(.str ⟨0, 0⟩), (.str ⟨0, 0⟩), (.bool false)]) fun l46 =>
pushK (.cells false 74 l46) h41 fun n44 h45 =>
c22 v5 (AV.slice n44 0 1 1 3 true) h45 fun x48 x49 h47 =>
fB (eqI x42 (Int.ofNat 1)) fun b50 =>
J.jn (fun v51 h52 =>
J.jn (fun v54 h55 =>
pickB (AV.bool b50) v54 (AV.bool false) fun b59 =>
J.jn (fun v60 h61 =>
J.jn (fun v63 h64 =>
pickB (AV.bool b59) v63 (AV.bool false) fun b68 =>
J.jn (fun v69 h70 =>
J.jn (fun v72 h73 =>
pickB (AV.bool b68) v72 (AV.bool false) fun b77 =>
J.jn (fun v78 h79 =>
J.jn (fun v81 h82 =>
J.jn (fun v86 h87 =>
pickB (AV.bool b77) v86 (AV.bool false) fun b91 =>
J.jn (fun v92 h93 =>
J.jn (fun v95 h96 =>
J.jn (fun v100 h101 =>
pickB (AV.bool b91) v100 (AV.bool false) fun b105 =>
k b105 h101) fun j102 =>
br b91 (
asI .i64 v95 fun x103 =>
fB (eqI x103 (Int.ofNat 1)) fun b104 =>
j102 (AV.bool b104) h96) (
j102 skipV h96)) fun j97 =>
br b91 (
c26 v92 h93 fun x99 h98 =>
j97 (AV.int .i64 x99) h98) (
j97 skipV h93)) fun j94 =>
br b91 (
j94 v5 h87) (
j94 skipV h87)) fun j88 =>
br b77 (
asI .i64 v81 fun x89 =>
fB (eqI x89 (Int.ofNat 2)) fun b90 =>
j88 (AV.bool b90) h82) (
j88 skipV h82)) fun j83 =>
br b77 (
c25 v78 h79 fun x85 h84 =>
j83 (AV.int .i64 x85) h84) (
j83 skipV h79)) fun j80 =>
br b77 (
j80 v5 h73) (
j80 skipV h73)) fun j74 =>
br b68 (
asI .i64 v69 fun x75 =>
fB (eqI x75 (Int.ofNat 0)) fun b76 =>
j74 (AV.bool b76) h70) (
j74 skipV h70)) fun j71 =>
br b68 (
j71 (AV.int .i64 x49) h64) (
j71 skipV h64)) fun j65 =>
br b59 (
asI .i64 v60 fun x66 =>
fB (eqI x66 (Int.ofNat 2)) fun b67 =>
j65 (AV.bool b67) h61) (
j65 skipV h61)) fun j62 =>
br b59 (
j62 (AV.int .i64 x48) h55) (
j62 skipV h55)) fun j56 =>
br b50 (
asI .i64 v51 fun x57 =>
fB (eqI x57 (Int.ofNat 0)) fun b58 =>
j56 (AV.bool b58) h52) (
j56 skipV h52)) fun j53 =>
br b50 (
j53 (AV.int .i64 x43) h47) (
j53 skipV h47)))) fun j35 =>
br b25 (
j35 skipV h30) (
asI .i64 v29 fun x36 =>
fB (Bool.not (eqI x36 (Int.ofNat 0))) fun b37 =>
j35 (AV.bool b37) h30)) fun j31 =>
br b25 (
j31 skipV h27) (
lenK v26 fun x32 =>
j31 (AV.int .i64 (Int.ofNat x32)) h27)) fun j28 =>
br b25 (
j28 skipV h22) (
j28 v6 h22)) fun j23 =>
br b17 (
j23 skipV h19) (
nilB 0 v18 fun b24 =>
j23 (AV.bool b24) h19)) fun j20 =>
br b17 (
j20 skipV h13) (
j20 v5 h13)) fun j14 =>
br b8 (
j14 skipV h10) (
asI .i64 v9 fun x15 =>
fB (Bool.not (eqI x15 (Int.ofNat 0))) fun b16 =>
j14 (AV.bool b16) h10)) fun j11 =>
br b8 (
j11 skipV h4) (
j11 (AV.int .i64 x7) h4)
noncomputable def s6 : H → (Bool → H → Prop) → Prop := s6G J0 s22 s25 s26 s27 s28 s31
noncomputable def w6 (c : H → (Bool → H → Prop) → Prop) : Fun := fun xs h k => noArg xs <| c  h fun r0 h => k (.bool r0) h
theorem s6_eq (J : Joins) (c22 : AV → AV → H → (Int → Int → H → Prop) → Prop) (c25 : AV → H → (Int → H → Prop) → Prop) (c26 : AV → H → (Int → H → Prop) → Prop) (c27 : AV → Int → Int → H → (AV → AV → Int → H → Prop) → Prop) (c28 : Int → H → (AV → Int → H → Prop) → Prop) (c31 : Str → Str → H → (AV → H → Prop) → Prop)  (h : H) (k : AV → H → Prop) : denF ty (gam J [(22, w22 c22), (25, w25 c25), (26, w26 c26), (27, w27 c27), (28, w28 c28), (31, w31 c31)]) Tryz.f6 [] h k = s6G J c22 c25 c26 c27 c28 c31  h (fun r0 h => k (.bool r0) h) := by kernel_rfl
noncomputable def g6 : Fun := w6 s6
theorem g6_ok : FunOk Tryz.prog 6 g6 := (fun_ok ty_ok mixed (gam_ok (J := J0) (tab_cons g22_ok (tab_cons g25_ok (tab_cons g26_ok (tab_cons g27_ok (tab_cons g28_ok (tab_cons g31_ok (tab_nil fls_fun)))))))) Tryz.func6 (fun args w => by simp)).imp fun xs h k e0 => by
  obtain ⟨rfl, e1⟩ := noArg_imp e0
  exact (s6_eq J0 s22 s25 s26 s27 s28 s31  h k).mpr e1
/-- (*stagepost/wal.Wal).Roll -/
noncomputable def s23G (J : Joins) (c47 : AV → H → (Int → H → Prop) → Prop) (c52 : AV → H → (Int → H → Prop) → Prop) (a0 : AV) (h : H) (k : Int → H → Prop) : Prop :=
c47 a0 h fun x2 h1 =>
fB (Bool.not (eqI x2 (Int.ofNat 0))) fun b3 =>
br b3 (
k x2 h1) (
c52 a0 h1 fun x5 h4 =>
k x5 h4)
noncomputable def s23 : AV → H → (Int → H → Prop) → Prop := s23G J0 s47 s52
noncomputable def w23 (c : AV → H → (Int → H → Prop) → Prop) : Fun := fun xs h k => arg xs fun a0 xs => noArg xs <| c a0 h fun r0 h => k (.int .i64 r0) h
theorem s23_eq (J : Joins) (c47 : AV → H → (Int → H → Prop) → Prop) (c52 : AV → H → (Int → H → Prop) → Prop) (a0 : AV) (h : H) (k : AV → H → Prop) : denF ty (gam J [(47, w47 c47), (52, w52 c52)]) Tryz.f23 [a0] h k = s23G J c47 c52 a0 h (fun r0 h => k (.int .i64 r0) h) := by kernel_rfl
noncomputable def g23 : Fun := w23 s23
theorem g23_ok : FunOk Tryz.prog 23 g23 := (fun_ok ty_ok mixed (gam_ok (J := J0) (tab_cons g47_ok (tab_cons g52_ok (tab_nil fls_fun)))) Tryz.func23 (fun args w => by simp)).imp fun xs h k e0 => by
  obtain ⟨a0, xs0, rfl, e1⟩ := arg_imp e0
  obtain ⟨rfl, e2⟩ := noArg_imp e1
  exact (s23_eq J0 s47 s52 a0 h k).mpr e2
/-- (*stagepost/wal.Wal).Drop -/
noncomputable def s24G (J : Joins) (c47 : AV → H → (Int → H → Prop) → Prop) (c49 : AV → Int → H → (Int → H → Prop) → Prop) (c56 : AV → H → (Int → H → Prop) → Prop) (a0 : AV) (a1 : Int) (h : H) (k : Int → H → Prop) : Prop :=
c47 a0 h fun x2 h1 =>
fB (Bool.not (eqI x2 (Int.ofNat 0))) fun b3 =>
br b3 (
k x2 h1) (
okNil a0 (
faK 2 a0 fun p4 =>
ldI .i64 p4 h1 fun x5 =>
fB (ltI x5 a1) fun b6 =>
br b6 (
k (Int.ofNat 2) h1) (
okNil a0 (
faK 0 a0 fun p7 =>
ldV p7 h1 fun v8 =>
False))))
noncomputable def s24 : AV → Int → H → (Int → H → Prop) → Prop := s24G J0 s47 s49 s56
noncomputable def w24 (c : AV → Int → H → (Int → H → Prop) → Prop) : Fun := fun xs h k => arg xs fun a0 xs => arg xs fun a1 xs => noArg xs <| asI .i64 a1 fun a1 => c a0 a1 h fun r0 h => k (.int .i64 r0) h
theorem s24_eq (J : Joins) (c47 : AV → H → (Int → H → Prop) → Prop) (c49 : AV → Int → H → (Int → H → Prop) → Prop) (c56 : AV → H → (Int → H → Prop) → Prop) (a0 : AV) (a1 : Int) (h : H) (k : AV → H → Prop) : denF ty (gam J [(47, w47 c47), (49, w49 c49), (56, w56 c56)]) Tryz.f24 [a0, (.int .i64 a1)] h k = s24G J c47 c49 c56 a0 a1 h (fun r0 h => k (.int .i64 r0) h) := by kernel_rfl
noncomputable def g24 : Fun := w24 s24
theorem g24_ok : FunOk Tryz.prog 24 g24 := (fun_ok ty_ok mixed (gam_ok (J := J0) (tab_cons g47_ok (tab_cons g49_ok (tab_cons g56_ok (tab_nil fls_fun))))) Tryz.func24 (fun args w => by simp)).imp fun xs h k e0 => by
  obtain ⟨a0, xs0, rfl, e1⟩ := arg_imp e0
  obtain ⟨a1, xs1, rfl, e2⟩ := arg_imp e1
  obtain ⟨rfl, e3⟩ := noArg_imp e2
  obtain ⟨a1, rfl, e4⟩ := asI_iff.1 e3
  exact (s24_eq J0 s47 s49 s56 a0 a1 h k).mpr e4
/-- stagepost/stagepostlaw05.WalNil -/
noncomputable def s4G (J : Joins) (c6 : H → (Bool → H → Prop) → Prop) (c22 : AV → AV → H → (Int → Int → H → Prop) → Prop) (c23 : AV → H → (Int → H → Prop) → Prop) (c24 : AV → Int → H → (Int → H → Prop) → Prop) (c25 : AV → H → (Int → H → Prop) → Prop) (c26 : AV → H → (Int → H → Prop) → Prop) (c27 : AV → Int → Int → H → (AV → AV → Int → H → Prop) → Prop) (a0 : AV) (h : H) (k : Bool → H → Prop) : Prop :=
Go.Am.asAgg a0 fun l3 =>
pushK (.cells false 44 l3) h fun n1 h2 =>
pushK (.cells false 48 [(.nilp), (.int .i64 0), (.int .i64 0), (.bool false), (.bool false)]) h2 fun n4 h5 =>
pushK (.cells false 45 [AV.nilp, (AV.ptr n4 0)]) h5 fun n6 h7 =>
J.lp (α := AV × AV × AV × Unit) (fun r11 v8 d9 h10 =>
lenK v8.2.1 fun x12 =>
asI .i64 v8.2.2.1 fun x13 =>
fB (ltI x13 (Int.ofNat x12)) fun b14 =>
br b14 (
ixK 1 v8.2.1 v8.2.2.1 fun p15 =>
ldV p15 h10 fun v16 =>
faK 3 v8.1 fun p17 =>
ldV p17 h10 fun v18 =>
c22 v16 v18 h10 fun x20 x21 h19 =>
fB (Bool.not (eqI x20 (Int.ofNat 0))) fun b22 =>
J.jn (fun v23 h24 =>
J.jn (fun v26 h27 =>
pickB (AV.bool b22) (AV.bool true) v26 fun b31 =>
J.jn (fun v32 h33 =>
J.jn (fun v35 h36 =>
J.jn (fun v40 h41 =>
pickB (AV.bool b31) (AV.bool true) v40 fun b45 =>
J.jn (fun v46 h47 =>
J.jn (fun v49 h50 =>
J.jn (fun v53 h54 =>
J.jn (fun v57 h58 =>
J.jn (fun v63 h64 =>
pickB (AV.bool b45) (AV.bool true) v63 fun b68 =>
J.jn (fun v69 h70 =>
J.jn (fun v72 h73 =>
J.jn (fun v77 h78 =>
pickB (AV.bool b68) (AV.bool true) v77 fun b82 =>
J.jn (fun v83 h84 =>
J.jn (fun v86 h87 =>
J.jn (fun v91 h92 =>
pickB (AV.bool b82) (AV.bool true) v91 fun b96 =>
br b96 (
leaveK (gam J [(6, w6 c6), (22, w22 c22), (23, w23 c23), (24, w24 c24), (25, w25 c25), (26, w26 c26), (27, w27 c27)]) d9 h92 fun h97 =>
k false h97) (
asI .i64 v8.2.2.1 fun x98 =>
fI (wrapF .i64 (Int.add x98 (Int.ofNat 1))) fun x99 =>
r11 (v8.1, v8.2.1, (AV.int .i64 x99), ()) d9 h92)) fun j93 =>
br b82 (
j93 skipV h87) (
asI .i64 v86 fun x94 =>
fB (Bool.not (eqI x94 (Int.ofNat 0))) fun b95 =>
j93 (AV.bool b95) h87)) fun j88 =>
br b82 (
j88 skipV h84) (
c26 v83 h84 fun x90 h89 =>
j88 (AV.int .i64 x90) h89)) fun j85 =>
br b82 (
j85 skipV h78) (
j85 v16 h78)) fun j79 =>
br b68 (
j79 skipV h73) (
asI .i64 v72 fun x80 =>
fB (Bool.not (eqI x80 (Int.ofNat 0))) fun b81 =>
j79 (AV.bool b81) h73)) fun j74 =>
br b68 (
j74 skipV h70) (
c25 v69 h70 fun x76 h75 =>
j74 (AV.int .i64 x76) h75)) fun j71 =>
br b68 (
j71 skipV h64) (
j71 v16 h64)) fun j65 =>
br b45 (
j65 skipV h58) (
asI .i64 v57 fun x66 =>
fB (Bool.not (eqI x66 (Int.ofNat 1))) fun b67 =>
j65 (AV.bool b67) h58)) fun j59 =>
br b45 (
j59 skipV h54) (
asI .i64 v53 fun x61 =>
c24 v46 x61 h54 fun x62 h60 =>
j59 (AV.int .i64 x62) h60)) fun j55 =>
br b45 (
j55 skipV h50) (
ldI .i64 v49 h50 fun x56 =>
j55 (AV.int .i64 x56) h50)) fun j51 =>
br b45 (
j51 skipV h47) (
faK 1 v8.1 fun p52 =>
j51 p52 h47)) fun j48 =>
br b45 (
j48 skipV h41) (
j48 v16 h41)) fun j42 =>
br b31 (
j42 skipV h36) (
asI .i64 v35 fun x43 =>
fB (Bool.not (eqI x43 (Int.ofNat 1))) fun b44 =>
j42 (AV.bool b44) h36)) fun j37 =>
br b31 (
j37 skipV h33) (
c23 v32 h33 fun x39 h38 =>
j37 (AV.int .i64 x39) h38)) fun j34 =>
br b31 (
j34 skipV h27) (
j34 v16 h27)) fun j28 =>
br b22 (
j28 skipV h24) (
asI .i64 v23 fun x29 =>
fB (Bool.not (eqI x29 (Int.ofNat 1))) fun b30 =>
j28 (AV.bool b30) h24)) fun j25 =>
br b22 (
j25 skipV h19) (
j25 (AV.int .i64 x21) h19)) (
faK 1 v8.1 fun p100 =>
ldI .i64 p100 h10 fun x101 =>
faK 2 v8.1 fun p102 =>
ldI .i64 p102 h10 fun x103 =>
c27 AV.nilp x101 x103 h10 fun v105 v106 x107 h104 =>
pushK (.cells false 63 [(.nilm), (.nilm), (.nils), (.int .i64 0), (.int .i64 0), (.bool false), (.bool false), (.int .i64 0), (.int .i64 0), (.bool false)]) h104 fun n108 h109 =>
faK 1 v8.1 fun p110 =>
ldI .i64 p110 h109 fun x111 =>
faK 2 v8.1 fun p112 =>
ldI .i64 p112 h109 fun x113 =>
c27 (AV.ptr n108 0) x111 x113 h109 fun v115 v116 x117 h114 =>
c6  h114 fun b119 h118 =>
J.jn (fun v120 h121 =>
J.jn (fun v123 h124 =>
pickB (AV.bool b119) v123 (AV.bool false) fun b127 =>
J.jn (fun v128 h129 =>
J.jn (fun v131 h132 =>
J.jn (fun v135 h136 =>
pickB (AV.bool b127) v135 (AV.bool false) fun b140 =>
J.jn (fun v141 h142 =>
J.jn (fun v144 h145 =>
pickB (AV.bool b140) v144 (AV.bool false) fun b149 =>
J.jn (fun v150 h151 =>
J.jn (fun v153 h154 =>
pickB (AV.bool b149) v153 (AV.bool false) fun b157 =>
J.jn (fun v158 h159 =>
J.jn (fun v161 h162 =>
J.jn (fun v165 h166 =>
pickB (AV.bool b157) v165 (AV.bool false) fun b170 =>
J.jn (fun v171 h172 =>
J.jn (fun v174 h175 =>
pickB (AV.bool b170) v174 (AV.bool false) fun b179 =>
leaveK (gam J [(6, w6 c6), (22, w22 c22), (23, w23 c23), (24, w24 c24), (25, w25 c25), (26, w26 c26), (27, w27 c27)]) d9 h175 fun h180 =>
k b179 h180) fun j176 =>
br b170 (
asI .i64 v171 fun x177 =>
fB (eqI x177 (Int.ofNat 1)) fun b178 =>
j176 (AV.bool b178) h172) (
j176 skipV h172)) fun j173 =>
br b170 (
j173 (AV.int .i64 x117) h166) (
j173 skipV h166)) fun j167 =>
br b157 (
asI .i64 v161 fun x168 =>
fB (eqI x168 (Int.ofNat 0)) fun b169 =>
j167 (AV.bool b169) h162) (
j167 skipV h162)) fun j163 =>
br b157 (
lenK v158 fun x164 =>
j163 (AV.int .i64 (Int.ofNat x164)) h159) (
j163 skipV h159)) fun j160 =>
br b157 (
j160 v116 h154) (
j160 skipV h154)) fun j155 =>
br b149 (
nilB 0 v150 fun b156 =>
j155 (AV.bool b156) h151) (
j155 skipV h151)) fun j152 =>
br b149 (
j152 v115 h145) (
j152 skipV h145)) fun j146 =>
br b140 (
asI .i64 v141 fun x147 =>
fB (eqI x147 (Int.ofNat 1)) fun b148 =>
j146 (AV.bool b148) h142) (
j146 skipV h142)) fun j143 =>
br b140 (
j143 (AV.int .i64 x107) h136) (
j143 skipV h136)) fun j137 =>
br b127 (
asI .i64 v131 fun x138 =>
fB (eqI x138 (Int.ofNat 0)) fun b139 =>
j137 (AV.bool b139) h132) (
j137 skipV h132)) fun j133 =>
br b127 (
lenK v128 fun x134 =>
j133 (AV.int .i64 (Int.ofNat x134)) h129) (
j133 skipV h129)) fun j130 =>
br b127 (
j130 v106 h124) (
j130 skipV h124)) fun j125 =>
br b119 (
nilB 0 v120 fun b126 =>
j125 (AV.bool b126) h121) (
j125 skipV h121)) fun j122 =>
br b119 (
j122 v105 h118) (
j122 skipV h118))) ((AV.ptr n1 0), (AV.slice n6 0 2 2 1 true), (AV.int .i64 (Int.ofNat 0)), ()) [] h7
noncomputable def s4 : AV → H → (Bool → H → Prop) → Prop := s4G J0 s6 s22 s23 s24 s25 s26 s27
noncomputable def w4 (c : AV → H → (Bool → H → Prop) → Prop) : Fun := fun xs h k => arg xs fun a0 xs => noArg xs <| c a0 h fun r0 h => k (.bool r0) h
theorem s4_eq (J : Joins) (c6 : H → (Bool → H → Prop) → Prop) (c22 : AV → AV → H → (Int → Int → H → Prop) → Prop) (c23 : AV → H → (Int → H → Prop) → Prop) (c24 : AV → Int → H → (Int → H → Prop) → Prop) (c25 : AV → H → (Int → H → Prop) → Prop) (c26 : AV → H → (Int → H → Prop) → Prop) (c27 : AV → Int → Int → H → (AV → AV → Int → H → Prop) → Prop) (a0 : AV) (h : H) (k : AV → H → Prop) : denF ty (gam J [(6, w6 c6), (22, w22 c22), (23, w23 c23), (24, w24 c24), (25, w25 c25), (26, w26 c26), (27, w27 c27)]) Tryz.f4 [a0] h k = s4G J c6 c22 c23 c24 c25 c26 c27 a0 h (fun r0 h => k (.bool r0) h) := by kernel_rfl
noncomputable def g4 : Fun := w4 s4
theorem g4_ok : FunOk Tryz.prog 4 g4 := (fun_ok ty_ok mixed (gam_ok (J := J0) (tab_cons g6_ok (tab_cons g22_ok (tab_cons g23_ok (tab_cons g24_ok (tab_cons g25_ok (tab_cons g26_ok (tab_cons g27_ok (tab_nil fls_fun))))))))) Tryz.func4 (fun args w => by simp)).imp fun xs h k e0 => by
  obtain ⟨a0, xs0, rfl, e1⟩ := arg_imp e0
  obtain ⟨rfl, e2⟩ := noArg_imp e1
  exact (s4_eq J0 s6 s22 s23 s24 s25 s26 s27 a0 h k).mpr e2
end Go.Proofs.YtnjiokmleoimgaaGreatDoor
