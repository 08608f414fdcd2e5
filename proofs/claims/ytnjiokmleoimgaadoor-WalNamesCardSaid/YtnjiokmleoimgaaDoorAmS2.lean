/- Functions as they are reckoned. MADE BY PROGRAM (wip/tools/shal.py). -/
import Derived.Test.YtnjiokmleoimgaaDoorAmH61
namespace Go.Proofs.YtnjiokmleoimgaaDoor
open Go Go.Am
set_option maxRecDepth 100000
set_option linter.all false
/-- slices.Chunk[[]byte,byte]$1 -/
noncomputable def s79G (J : Joins) (cd : Code → Ks → List AV → List Dfr → H → Prop) (a0 : AV) (a1 : AV) (a2 : AV) (h : H) (k : H → Prop) : Prop :=
J.lp (α := AV × AV × AV × AV × Unit) (fun r4 v1 d2 h3 =>
ldV v1.2.1 h3 fun v5 =>
lenK v5 fun x6 =>
asI .i64 v1.2.2.2.1 fun x7 =>
fB (ltI x7 (Int.ofNat x6)) fun b8 =>
br b8 (
ldI .i64 v1.2.2.1 h3 fun x9 =>
ldV v1.2.1 h3 fun v10 =>
slK 1 v10 (some v1.2.2.2.1) none fun v11 =>
lenK v11 fun x12 =>
op' (aMin (AV.int .i64 x9) (AV.int .i64 (Int.ofNat x12))) fun v13 =>
asI .i64 v13 fun x14 =>
ldV v1.2.1 h3 fun v15 =>
asI .i64 v1.2.2.2.1 fun x16 =>
fI (wrapF .i64 (Int.add x16 x14)) fun x17 =>
asI .i64 v1.2.2.2.1 fun x18 =>
fI (wrapF .i64 (Int.add x18 x14)) fun x19 =>
spX (aSlice3 1 v15 (some v1.2.2.2.1) (some (AV.int .i64 x17)) (AV.int .i64 x19)) fun v20 =>
callK (gamI J [] [] cd) v1.1 [v20] h3 fun v21 h22 =>
asB v21 fun b23 =>
fB (Bool.not b23) fun b24 =>
br b24 (
leaveK (gamI J [] [] cd) d2 h22 fun h25 =>
k  h25) (
ldI .i64 v1.2.2.1 h22 fun x26 =>
asI .i64 v1.2.2.2.1 fun x27 =>
fI (wrapF .i64 (Int.add x27 x26)) fun x28 =>
r4 (v1.1, v1.2.1, v1.2.2.1, (AV.int .i64 x28), ()) d2 h22)) (
leaveK (gamI J [] [] cd) d2 h3 fun h29 =>
k  h29)) (a0, a1, a2, (AV.int .i64 (Int.ofNat 0)), ()) [] h
noncomputable def s79 : AV → AV → AV → H → (H → Prop) → Prop := s79G J0  noCode
noncomputable def w79 (c : AV → AV → AV → H → (H → Prop) → Prop) : Fun := fun xs h k => arg xs fun a0 xs => arg xs fun a1 xs => arg xs fun a2 xs => noArg xs <| c a0 a1 a2 h fun  h => k (.tuple []) h
theorem s79_eq (J : Joins) (cd : Code → Ks → List AV → List Dfr → H → Prop) (a0 : AV) (a1 : AV) (a2 : AV) (h : H) (k : AV → H → Prop) : denF ty (gamI J [] [] cd) Tryd.f79 [a0, a1, a2] h k = s79G J  cd a0 a1 a2 h (fun  h => k (.tuple []) h) := by kernel_rfl
noncomputable def g79 : Fun := w79 s79
theorem g79_ok : FunOk Tryd.prog 79 g79 := (fun_ok ty_ok mixed (gamI_ok (J := J0) (tab_nil fls_fun) (tab_nil fls_it) noCode_ok) Tryd.func79 (fun args w => by simp)).imp fun xs h k e0 => by
  obtain ⟨a0, xs0, rfl, e1⟩ := arg_imp e0
  obtain ⟨a1, xs1, rfl, e2⟩ := arg_imp e1
  obtain ⟨a2, xs2, rfl, e3⟩ := arg_imp e2
  obtain ⟨rfl, e4⟩ := noArg_imp e3
  exact (s79_eq J0  noCode a0 a1 a2 h k).mpr e4
/-- slices.Chunk[[]byte,byte] -/
noncomputable def s62G (J : Joins) (c79 : AV → AV → AV → H → (H → Prop) → Prop) (a0 : AV) (a1 : Int) (h : H) (k : AV → H → Prop) : Prop :=
ck (isOne a0) (
pushK (.cells false 22 [a0]) h fun n1 h2 =>
pushK (.cells false 3 [(AV.int .i64 a1)]) h2 fun n3 h4 =>
J.jd (α := AV × AV × Unit) (fun v5 d6 h7 =>
leaveK (gam J [(79, w79 c79)]) d6 h7 fun h9 =>
k (AV.func (.func 79) [] [v5.1, v5.2.1]) h9) fun j8 =>
ldI .i64 (AV.ptr n3 0) h4 fun x10 =>
fB (ltI x10 (Int.ofNat 1)) fun b11 =>
br b11 (
False) (
j8 ((AV.ptr n1 0), (AV.ptr n3 0), ()) [] h4))
noncomputable def s62 : AV → Int → H → (AV → H → Prop) → Prop := s62G J0 s79
noncomputable def w62 (c : AV → Int → H → (AV → H → Prop) → Prop) : Fun := fun xs h k => arg xs fun a0 xs => arg xs fun a1 xs => noArg xs <| asI .i64 a1 fun a1 => c a0 a1 h fun r0 h => k r0 h
theorem s62_eq (J : Joins) (c79 : AV → AV → AV → H → (H → Prop) → Prop) (a0 : AV) (a1 : Int) (h : H) (k : AV → H → Prop) : denF ty (gam J [(79, w79 c79)]) Tryd.f62 [a0, (.int .i64 a1)] h k = s62G J c79 a0 a1 h (fun r0 h => k r0 h) := by kernel_rfl
noncomputable def g62 : Fun := w62 s62
theorem g62_ok : FunOk Tryd.prog 62 g62 := (fun_ok ty_ok mixed (gam_ok (J := J0) (tab_cons g79_ok (tab_nil fls_fun))) Tryd.func62 (fun args w => by simp)).imp fun xs h k e0 => by
  obtain ⟨a0, xs0, rfl, e1⟩ := arg_imp e0
  obtain ⟨a1, xs1, rfl, e2⟩ := arg_imp e1
  obtain ⟨rfl, e3⟩ := noArg_imp e2
  obtain ⟨a1, rfl, e4⟩ := asI_iff.1 e3
  exact (s62_eq J0 s79 a0 a1 h k).mpr e4
/-- function 79 as function 39 ranges over it -/
noncomputable def s79_39 : AV → AV → AV → H → (H → Prop) → Prop := s79G J0  (denR ty (gamI J0 [(44, g44), (45, g45), (61, g61'), (62, g62), (63, g63)] [] noCode))
theorem i79_39_ok : ItOk Tryd.prog 79 (w79 s79_39) := (it_ok ty_ok mixed (gamI_ok (J := J0) (tab_nil fls_fun) (tab_nil fls_it) (code_ok ty_ok mixed (gamI_ok (J := J0) (tab_cons g44_ok (tab_cons g45_ok (tab_cons g61'_ok (tab_cons g62_ok (tab_cons g63_ok (tab_nil fls_fun)))))) (tab_nil fls_it) noCode_ok))) Tryd.func79 (fun args w => by simp)).imp fun xs h k e0 => by
  obtain ⟨a0, xs0, rfl, e1⟩ := arg_imp e0
  obtain ⟨a1, xs1, rfl, e2⟩ := arg_imp e1
  obtain ⟨a2, xs2, rfl, e3⟩ := arg_imp e2
  obtain ⟨rfl, e4⟩ := noArg_imp e3
  exact (s79_eq J0  (denR ty (gamI J0 [(44, g44), (45, g45), (61, g61'), (62, g62), (63, g63)] [] noCode)) a0 a1 a2 h k).mpr e4
/-- (*stagepost/vfs.FS).Append -/
noncomputable def s39G (J : Joins) (c44 : AV → Str → H → (Int → Int → H → Prop) → Prop) (c45 : AV → H → (AV → H → Prop) → Prop) (c61 : AV → H → (Int → H → Prop) → Prop) (c62 : AV → Int → H → (AV → H → Prop) → Prop) (c63 : AV → AV → H → (Int → H → Prop) → Prop) (i79 : AV → AV → AV → H → (H → Prop) → Prop) (a0 : AV) (a1 : Str) (a2 : AV) (h : H) (k : Int → H → Prop) : Prop :=
ck (isOne a0) (
pushK (.cells false 37 [a0]) h fun n1 h2 =>
pushK (.cells false 23 [(.int .i64 0)]) h2 fun n3 h4 =>
ldV (AV.ptr n1 0) h4 fun v5 =>
c44 v5 a1 h4 fun x7 x8 h6 =>
pushK (.cells false 3 [(.int .i64 0)]) h6 fun n9 h10 =>
stV (AV.ptr n9 0) (AV.int .i64 x7) h10 fun h11 =>
fB (Bool.not (eqI x8 (Int.ofNat 0))) fun b12 =>
br b12 (
stV (AV.ptr n3 0) (AV.int .i64 x8) h11 fun h13 =>
ldI .i64 (AV.ptr n3 0) h13 fun x14 =>
k x14 h13) (
lenK a2 fun x15 =>
ldV (AV.ptr n1 0) h11 fun v16 =>
c61 v16 h11 fun x18 h17 =>
fB (ltI x18 (Int.ofNat x15)) fun b19 =>
br b19 (
stV (AV.ptr n3 0) (AV.int .i64 (Int.ofNat 8)) h17 fun h20 =>
ldI .i64 (AV.ptr n3 0) h20 fun x21 =>
k x21 h20) (
J.jd (α := AV × Unit) (fun v22 d23 h24 =>
stV v22.1 (AV.int .i64 (Int.ofNat 0)) h24 fun h26 =>
leaveK (gamI J [(44, w44 c44), (45, w45 c45), (61, w61 c61), (62, w62 c62), (63, w63 c63)] [(79, w79 i79)] noCode) d23 h26 fun h27 =>
ldI .i64 v22.1 h27 fun x28 =>
k x28 h27) fun j25 =>
c62 a2 (Int.ofNat 64) h17 fun v30 h29 =>
rfK (gamI J [(44, w44 c44), (45, w45 c45), (61, w61 c61), (62, w62 c62), (63, w63 c63)] [(79, w79 i79)] noCode) v30 [27] (rfAt Tryd.f39 0) [a0, (AV.str a1), a2, (AV.ptr n1 0), AV.junk, AV.junk, (AV.ptr n3 0), (AV.ptr n9 0), (AV.int .i64 x8), AV.junk, AV.junk, (AV.tuple [(AV.int .i64 x7), (AV.int .i64 x8)]), v5, (AV.str a1), (AV.tuple [(AV.int .i64 x7), (AV.int .i64 x8)]), (AV.int .i64 x7), (AV.int .i64 x8), (AV.int .i64 x8), (AV.bool b12), AV.junk, a2, (AV.int .i64 (Int.ofNat x15)), v16, (AV.int .i64 x18), (AV.bool b19), a2, v30, AV.junk, AV.junk, AV.junk, AV.junk, AV.junk, AV.junk, AV.junk, AV.junk, AV.junk, AV.junk] h29 fun n31 n32 h33 =>
endR n31 n32 (fun d34 h35 =>
j25 ((AV.ptr n3 0), ()) d34 h35) (fun d34 h35 =>
leaveK (gamI J [(44, w44 c44), (45, w45 c45), (61, w61 c61), (62, w62 c62), (63, w63 c63)] [(79, w79 i79)] noCode) d34 h35 fun h37 =>
ldI .i64 (AV.ptr n3 0) h37 fun x38 =>
k x38 h37) (fun i36 d34 h35 =>
exB (Nat.beq i36 0) (fun d34 h35 =>
j25 ((AV.ptr n3 0), ()) d34 h35) (fun d34 h35 =>
False) d34 h35) [] h33)))
noncomputable def s39 : AV → Str → AV → H → (Int → H → Prop) → Prop := s39G J0 s44 s45 s61' s62 s63 s79_39
noncomputable def w39 (c : AV → Str → AV → H → (Int → H → Prop) → Prop) : Fun := fun xs h k => arg xs fun a0 xs => arg xs fun a1 xs => arg xs fun a2 xs => noArg xs <| asS a1 fun a1 => c a0 a1 a2 h fun r0 h => k (.int .i64 r0) h
theorem s39_eq (J : Joins) (c44 : AV → Str → H → (Int → Int → H → Prop) → Prop) (c45 : AV → H → (AV → H → Prop) → Prop) (c61 : AV → H → (Int → H → Prop) → Prop) (c62 : AV → Int → H → (AV → H → Prop) → Prop) (c63 : AV → AV → H → (Int → H → Prop) → Prop) (i79 : AV → AV → AV → H → (H → Prop) → Prop) (a0 : AV) (a1 : Str) (a2 : AV) (h : H) (k : AV → H → Prop) : denF ty (gamI J [(44, w44 c44), (45, w45 c45), (61, w61 c61), (62, w62 c62), (63, w63 c63)] [(79, w79 i79)] noCode) Tryd.f39 [a0, (.str a1), a2] h k = s39G J c44 c45 c61 c62 c63 i79 a0 a1 a2 h (fun r0 h => k (.int .i64 r0) h) := by kernel_rfl
noncomputable def g39 : Fun := w39 s39
theorem g39_ok : FunOk Tryd.prog 39 g39 := (fun_ok ty_ok mixed (gamI_ok (J := J0) (tab_cons g44_ok (tab_cons g45_ok (tab_cons g61'_ok (tab_cons g62_ok (tab_cons g63_ok (tab_nil fls_fun)))))) (tab_cons i79_39_ok (tab_nil fls_it)) noCode_ok) Tryd.func39 (fun args w => by simp)).imp fun xs h k e0 => by
  obtain ⟨a0, xs0, rfl, e1⟩ := arg_imp e0
  obtain ⟨a1, xs1, rfl, e2⟩ := arg_imp e1
  obtain ⟨a2, xs2, rfl, e3⟩ := arg_imp e2
  obtain ⟨rfl, e4⟩ := noArg_imp e3
  obtain ⟨a1, rfl, e5⟩ := asS_iff.1 e4
  exact (s39_eq J0 s44 s45 s61' s62 s63 s79_39 a0 a1 a2 h k).mpr e5
/-- (*stagepost/vfs.FS).Sync -/
noncomputable def s40G (J : Joins) (c44 : AV → Str → H → (Int → Int → H → Prop) → Prop) (c64 : AV → AV → H → (Int → H → Prop) → Prop) (c65 : AV → AV → H → (Bool → H → Prop) → Prop) (a0 : AV) (a1 : Str) (h : H) (k : Int → H → Prop) : Prop :=
c44 a0 a1 h fun x2 x3 h1 =>
pushK (.cells false 3 [(.int .i64 0)]) h1 fun n4 h5 =>
stV (AV.ptr n4 0) (AV.int .i64 x2) h5 fun h6 =>
fB (Bool.not (eqI x3 (Int.ofNat 0))) fun b7 =>
br b7 (
k x3 h6) (
c64 a0 (AV.func (.func 65) [] [(AV.ptr n4 0)]) h6 fun x9 h8 =>
k x9 h8)
noncomputable def s40 : AV → Str → H → (Int → H → Prop) → Prop := s40G J0 s44 s64 s65
noncomputable def w40 (c : AV → Str → H → (Int → H → Prop) → Prop) : Fun := fun xs h k => arg xs fun a0 xs => arg xs fun a1 xs => noArg xs <| asS a1 fun a1 => c a0 a1 h fun r0 h => k (.int .i64 r0) h
theorem s40_eq (J : Joins) (c44 : AV → Str → H → (Int → Int → H → Prop) → Prop) (c64 : AV → AV → H → (Int → H → Prop) → Prop) (c65 : AV → AV → H → (Bool → H → Prop) → Prop) (a0 : AV) (a1 : Str) (h : H) (k : AV → H → Prop) : denF ty (gam J [(44, w44 c44), (64, w64 c64), (65, w65 c65)]) Tryd.f40 [a0, (.str a1)] h k = s40G J c44 c64 c65 a0 a1 h (fun r0 h => k (.int .i64 r0) h) := by kernel_rfl
noncomputable def g40 : Fun := w40 s40
theorem g40_ok : FunOk Tryd.prog 40 g40 := (fun_ok ty_ok mixed (gam_ok (J := J0) (tab_cons g44_ok (tab_cons g64_ok (tab_cons g65_ok (tab_nil fls_fun))))) Tryd.func40 (fun args w => by simp)).imp fun xs h k e0 => by
  obtain ⟨a0, xs0, rfl, e1⟩ := arg_imp e0
  obtain ⟨a1, xs1, rfl, e2⟩ := arg_imp e1
  obtain ⟨rfl, e3⟩ := noArg_imp e2
  obtain ⟨a1, rfl, e4⟩ := asS_iff.1 e3
  exact (s40_eq J0 s44 s64 s65 a0 a1 h k).mpr e4
/-- (*stagepost/wal.Wal).Append -/
noncomputable def s14G (J : Joins) (c6 : AV → H → (AV → Int → H → Prop) → Prop) (c8 : Int → H → (Str → Int → H → Prop) → Prop) (c9 : AV → H → (Int → H → Prop) → Prop) (c36 : AV → H → (Int → H → Prop) → Prop) (c37 : AV → AV → H → (AV → Int → H → Prop) → Prop) (c38 : AV → Int → H → (Int → H → Prop) → Prop) (c39 : AV → Str → AV → H → (Int → H → Prop) → Prop) (c40 : AV → Str → H → (Int → H → Prop) → Prop) (a0 : AV) (a1 : AV) (h : H) (k : Int → Int → H → Prop) : Prop :=
c36 a0 h fun x2 h1 =>
fB (Bool.not (eqI x2 (Int.ofNat 0))) fun b3 =>
br b3 (
k (Int.ofNat 0) x2 h1) (
c9 a1 h1 fun x5 h4 =>
fB (Bool.not (eqI x5 (Int.ofNat 0))) fun b6 =>
br b6 (
k (Int.ofNat 0) x5 h4) (
okNil a0 (
faK 1 a0 fun p7 =>
ldI .i64 p7 h4 fun x8 =>
fB (eqI x8 (Int.ofNat 1073741824)) fun b9 =>
br b9 (
k (Int.ofNat 0) (Int.ofNat 3) h4) (
okNil a0 (
faK 1 a0 fun p10 =>
ldI .i64 p10 h4 fun x11 =>
fI (wrapF .i64 (Int.add x11 (Int.ofNat 1))) fun x12 =>
ck (isOne a1) (c6 (AV.agg [(AV.int .i64 x12), a1]) h4 fun v14 x15 h13 =>
c37 AV.nils v14 h13 fun v17 x18 h16 =>
okNil a0 (
faK 2 a0 fun p19 =>
ldI .i64 p19 h16 fun x20 =>
c8 x20 h16 fun s22 x23 h21 =>
okNil a0 (
faK 0 a0 fun p24 =>
ldV p24 h21 fun v25 =>
c39 v25 s22 v17 h21 fun x27 h26 =>
c38 a0 x27 h26 fun x29 h28 =>
fB (Bool.not (eqI x29 (Int.ofNat 0))) fun b30 =>
br b30 (
k (Int.ofNat 0) x29 h28) (
okNil a0 (
faK 0 a0 fun p31 =>
ldV p31 h28 fun v32 =>
c40 v32 s22 h28 fun x34 h33 =>
c38 a0 x34 h33 fun x36 h35 =>
fB (Bool.not (eqI x36 (Int.ofNat 0))) fun b37 =>
br b37 (
k (Int.ofNat 0) x36 h35) (
okNil a0 (
faK 1 a0 fun p38 =>
ldI .i64 p38 h35 fun x39 =>
fI (wrapF .i64 (Int.add x39 (Int.ofNat 1))) fun x40 =>
okNil a0 (
faK 1 a0 fun p41 =>
stV p41 (AV.int .i64 x40) h35 fun h42 =>
okNil a0 (
faK 1 a0 fun p43 =>
ldI .i64 p43 h42 fun x44 =>
k x44 (Int.ofNat 0) h42))))))))))))))
noncomputable def s14 : AV → AV → H → (Int → Int → H → Prop) → Prop := s14G J0 s6 s8 s9 s36 s37 s38 s39 s40
noncomputable def w14 (c : AV → AV → H → (Int → Int → H → Prop) → Prop) : Fun := fun xs h k => arg xs fun a0 xs => arg xs fun a1 xs => noArg xs <| c a0 a1 h fun r0 r1 h => k (.tuple [(.int .i64 r0), (.int .i64 r1)]) h
theorem s14_eq (J : Joins) (c6 : AV → H → (AV → Int → H → Prop) → Prop) (c8 : Int → H → (Str → Int → H → Prop) → Prop) (c9 : AV → H → (Int → H → Prop) → Prop) (c36 : AV → H → (Int → H → Prop) → Prop) (c37 : AV → AV → H → (AV → Int → H → Prop) → Prop) (c38 : AV → Int → H → (Int → H → Prop) → Prop) (c39 : AV → Str → AV → H → (Int → H → Prop) → Prop) (c40 : AV → Str → H → (Int → H → Prop) → Prop) (a0 : AV) (a1 : AV) (h : H) (k : AV → H → Prop) : denF ty (gam J [(6, w6 c6), (8, w8 c8), (9, w9 c9), (36, w36 c36), (37, w37 c37), (38, w38 c38), (39, w39 c39), (40, w40 c40)]) Tryd.f14 [a0, a1] h k = s14G J c6 c8 c9 c36 c37 c38 c39 c40 a0 a1 h (fun r0 r1 h => k (.tuple [(.int .i64 r0), (.int .i64 r1)]) h) := by kernel_rfl
noncomputable def g14 : Fun := w14 s14
theorem g14_ok : FunOk Tryd.prog 14 g14 := (fun_ok ty_ok mixed (gam_ok (J := J0) (tab_cons g6_ok (tab_cons g8_ok (tab_cons g9_ok (tab_cons g36_ok (tab_cons g37_ok (tab_cons g38_ok (tab_cons g39_ok (tab_cons g40_ok (tab_nil fls_fun)))))))))) Tryd.func14 (fun args w => by simp)).imp fun xs h k e0 => by
  obtain ⟨a0, xs0, rfl, e1⟩ := arg_imp e0
  obtain ⟨a1, xs1, rfl, e2⟩ := arg_imp e1
  obtain ⟨rfl, e3⟩ := noArg_imp e2
  exact (s14_eq J0 s6 s8 s9 s36 s37 s38 s39 s40 a0 a1 h k).mpr e3
/-- (*stagepost/wal.Wal).Segment -/
noncomputable def s15G (J : Joins) (a0 : AV) (h : H) (k : Int → H → Prop) : Prop :=
nilB 0 a0 fun b1 =>
br b1 (
k (Int.ofNat 0) h) (
okNil a0 (
faK 2 a0 fun p2 =>
ldI .i64 p2 h fun x3 =>
k x3 h))
noncomputable def s15 : AV → H → (Int → H → Prop) → Prop := s15G J0 
noncomputable def w15 (c : AV → H → (Int → H → Prop) → Prop) : Fun := fun xs h k => arg xs fun a0 xs => noArg xs <| c a0 h fun r0 h => k (.int .i64 r0) h
theorem s15_eq (J : Joins) (a0 : AV) (h : H) (k : AV → H → Prop) : denF ty (gam J []) Tryd.f15 [a0] h k = s15G J  a0 h (fun r0 h => k (.int .i64 r0) h) := by kernel_rfl
noncomputable def g15 : Fun := w15 s15
theorem g15_ok : FunOk Tryd.prog 15 g15 := (fun_ok ty_ok mixed (gam_ok (J := J0) (tab_nil fls_fun)) Tryd.func15 (fun args w => by simp)).imp fun xs h k e0 => by
  obtain ⟨a0, xs0, rfl, e1⟩ := arg_imp e0
  obtain ⟨rfl, e2⟩ := noArg_imp e1
  exact (s15_eq J0  a0 h k).mpr e2
/-- (*stagepost/wal.Wal).Seq -/
noncomputable def s16G (J : Joins) (a0 : AV) (h : H) (k : Int → H → Prop) : Prop :=
nilB 0 a0 fun b1 =>
br b1 (
k (Int.ofNat 0) h) (
okNil a0 (
faK 1 a0 fun p2 =>
ldI .i64 p2 h fun x3 =>
k x3 h))
noncomputable def s16 : AV → H → (Int → H → Prop) → Prop := s16G J0 
noncomputable def w16 (c : AV → H → (Int → H → Prop) → Prop) : Fun := fun xs h k => arg xs fun a0 xs => noArg xs <| c a0 h fun r0 h => k (.int .i64 r0) h
theorem s16_eq (J : Joins) (a0 : AV) (h : H) (k : AV → H → Prop) : denF ty (gam J []) Tryd.f16 [a0] h k = s16G J  a0 h (fun r0 h => k (.int .i64 r0) h) := by kernel_rfl
noncomputable def g16 : Fun := w16 s16
theorem g16_ok : FunOk Tryd.prog 16 g16 := (fun_ok ty_ok mixed (gam_ok (J := J0) (tab_nil fls_fun)) Tryd.func16 (fun args w => by simp)).imp fun xs h k e0 => by
  obtain ⟨a0, xs0, rfl, e1⟩ := arg_imp e0
  obtain ⟨rfl, e2⟩ := noArg_imp e1
  exact (s16_eq J0  a0 h k).mpr e2
/-- stagepost/stagepostlaw05.lives -/
noncomputable def s10G (J : Joins) (c7 : Str → Str → H → (AV → H → Prop) → Prop) (c12 : Int → H → (AV → Int → H → Prop) → Prop) (c13 : AV → Int → Int → H → (AV → AV → Int → H → Prop) → Prop) (c14 : AV → AV → H → (Int → Int → H → Prop) → Prop) (c15 : AV → H → (Int → H → Prop) → Prop) (c16 : AV → H → (Int → H → Prop) → Prop) (h : H) (k : Bool → H → Prop) : Prop :=
c12 (Int.ofNat 10000) h fun v2 x3 h1 =>
c13 v2 (Int.ofNat 1) (Int.ofNat 0) h1 fun v5 v6 x7 h4 =>
fB (Bool.not (eqI x3 (Int.ofNat 0))) fun b8 =>
J.jn (fun v9 h10 =>
J.jn (fun v12 h13 =>
pickB (AV.bool b8) (AV.bool true) v12 fun b17 =>
J.jn (fun v18 h19 =>
J.jn (fun v21 h22 =>
pickB (AV.bool b17) (AV.bool true) v21 fun b25 =>
J.jn (fun v26 h27 =>
J.jn (fun v29 h30 =>
J.jn (fun v33 h34 =>
pickB (AV.bool b25) (AV.bool true) v33 fun b38 =>
br b38 (
k false h34) (
c7 ⟨1, 97⟩ ⟨1, 49⟩ h34 fun v40 h39 =>
c14 v5 v40 h39 fun x42 x43 h41 =>
ck (Nat.beq (List.length [(AV.str ⟨1, 97⟩), (.str ⟨0, 0⟩), (AV.bool true)]) 3) (op' (lputAt 0 [(AV.str ⟨1, 97⟩), (.str ⟨0, 0⟩), (AV.bool true)] [(.str ⟨0, 0⟩), (.str ⟨0, 0⟩), (.bool false)]) fun l46 =>
pushK (.cells false 34 l46) h41 fun n44 h45 =>
c14 v5 (AV.slice n44 0 1 1 3 true) h45 fun x48 x49 h47 =>
fB (eqI x42 (Int.ofNat 1)) fun b50 =>
J.jn (fun v51 h52 =>
J.jn (fun v54 h55 =>
pickB (AV.bool b50) v54 (AV.bool false) fun b59 =>
J.jn (fun v60 h61 =>
J.jn (fun v63 h64 =>
pickB (AV.bool b59) v63 (AV.bool false) fun b68 =>
J.jn (fun v69 h70 =>
J.jn (fun v72 h73 =>
pickB (AV.bool b68) v72 (AV.bool false) fun b77 =>
J.jn (fun v78 h79 =>
J.jn (fun v81 h82 =>
J.jn (fun v86 h87 =>
pickB (AV.bool b77) v86 (AV.bool false) fun b91 =>
J.jn (fun v92 h93 =>
J.jn (fun v95 h96 =>
J.jn (fun v100 h101 =>
pickB (AV.bool b91) v100 (AV.bool false) fun b105 =>
k b105 h101) fun j102 =>
br b91 (
asI .i64 v95 fun x103 =>
fB (eqI x103 (Int.ofNat 1)) fun b104 =>
j102 (AV.bool b104) h96) (
j102 skipV h96)) fun j97 =>
br b91 (
c15 v92 h93 fun x99 h98 =>
j97 (AV.int .i64 x99) h98) (
j97 skipV h93)) fun j94 =>
br b91 (
j94 v5 h87) (
j94 skipV h87)) fun j88 =>
br b77 (
asI .i64 v81 fun x89 =>
fB (eqI x89 (Int.ofNat 2)) fun b90 =>
j88 (AV.bool b90) h82) (
j88 skipV h82)) fun j83 =>
br b77 (
c16 v78 h79 fun x85 h84 =>
j83 (AV.int .i64 x85) h84) (
j83 skipV h79)) fun j80 =>
br b77 (
j80 v5 h73) (
j80 skipV h73)) fun j74 =>
br b68 (
asI .i64 v69 fun x75 =>
fB (eqI x75 (Int.ofNat 0)) fun b76 =>
j74 (AV.bool b76) h70) (
j74 skipV h70)) fun j71 =>
br b68 (
j71 (AV.int .i64 x49) h64) (
j71 skipV h64)) fun j65 =>
br b59 (
asI .i64 v60 fun x66 =>
fB (eqI x66 (Int.ofNat 2)) fun b67 =>
j65 (AV.bool b67) h61) (
j65 skipV h61)) fun j62 =>
br b59 (
j62 (AV.int .i64 x48) h55) (
j62 skipV h55)) fun j56 =>
br b50 (
asI .i64 v51 fun x57 =>
fB (eqI x57 (Int.ofNat 0)) fun b58 =>
j56 (AV.bool b58) h52) (
j56 skipV h52)) fun j53 =>
br b50 (
j53 (AV.int .i64 x43) h47) (
j53 skipV h47)))) fun j35 =>
br b25 (
j35 skipV h30) (
asI .i64 v29 fun x36 =>
fB (Bool.not (eqI x36 (Int.ofNat 0))) fun b37 =>
j35 (AV.bool b37) h30)) fun j31 =>
br b25 (
j31 skipV h27) (
lenK v26 fun x32 =>
j31 (AV.int .i64 (Int.ofNat x32)) h27)) fun j28 =>
br b25 (
j28 skipV h22) (
j28 v6 h22)) fun j23 =>
br b17 (
j23 skipV h19) (
nilB 0 v18 fun b24 =>
j23 (AV.bool b24) h19)) fun j20 =>
br b17 (
j20 skipV h13) (
j20 v5 h13)) fun j14 =>
br b8 (
j14 skipV h10) (
asI .i64 v9 fun x15 =>
fB (Bool.not (eqI x15 (Int.ofNat 0))) fun b16 =>
j14 (AV.bool b16) h10)) fun j11 =>
br b8 (
j11 skipV h4) (
j11 (AV.int .i64 x7) h4)
noncomputable def s10 : H → (Bool → H → Prop) → Prop := s10G J0 s7 s12 s13 s14 s15 s16
noncomputable def w10 (c : H → (Bool → H → Prop) → Prop) : Fun := fun xs h k => noArg xs <| c  h fun r0 h => k (.bool r0) h
theorem s10_eq (J : Joins) (c7 : Str → Str → H → (AV → H → Prop) → Prop) (c12 : Int → H → (AV → Int → H → Prop) → Prop) (c13 : AV → Int → Int → H → (AV → AV → Int → H → Prop) → Prop) (c14 : AV → AV → H → (Int → Int → H → Prop) → Prop) (c15 : AV → H → (Int → H → Prop) → Prop) (c16 : AV → H → (Int → H → Prop) → Prop)  (h : H) (k : AV → H → Prop) : denF ty (gam J [(7, w7 c7), (12, w12 c12), (13, w13 c13), (14, w14 c14), (15, w15 c15), (16, w16 c16)]) Tryd.f10 [] h k = s10G J c7 c12 c13 c14 c15 c16  h (fun r0 h => k (.bool r0) h) := by kernel_rfl
noncomputable def g10 : Fun := w10 s10
theorem g10_ok : FunOk Tryd.prog 10 g10 := (fun_ok ty_ok mixed (gam_ok (J := J0) (tab_cons g7_ok (tab_cons g12_ok (tab_cons g13_ok (tab_cons g14_ok (tab_cons g15_ok (tab_cons g16_ok (tab_nil fls_fun)))))))) Tryd.func10 (fun args w => by simp)).imp fun xs h k e0 => by
  obtain ⟨rfl, e1⟩ := noArg_imp e0
  exact (s10_eq J0 s7 s12 s13 s14 s15 s16  h k).mpr e1
/-- stagepost/stagepostkit.SameBytes -/
noncomputable def s11G (J : Joins) (a0 : AV) (a1 : AV) (h : H) (k : Bool → H → Prop) : Prop :=
lenK a0 fun x1 =>
lenK a1 fun x2 =>
fB (Bool.not (eqI (Int.ofNat x1) (Int.ofNat x2))) fun b3 =>
br b3 (
k false h) (
J.lp (α := AV × AV × AV × Unit) (fun r7 v4 d5 h6 =>
lenK v4.1 fun x8 =>
asI .i64 v4.2.2.1 fun x9 =>
fB (ltI x9 (Int.ofNat x8)) fun b10 =>
br b10 (
ixK 1 v4.1 v4.2.2.1 fun p11 =>
ldI .u8 p11 h6 fun x12 =>
ixK 1 v4.2.1 v4.2.2.1 fun p13 =>
ldI .u8 p13 h6 fun x14 =>
fB (Bool.not (eqI x12 x14)) fun b15 =>
br b15 (
leaveK (gam J []) d5 h6 fun h16 =>
k false h16) (
asI .i64 v4.2.2.1 fun x17 =>
fI (wrapF .i64 (Int.add x17 (Int.ofNat 1))) fun x18 =>
r7 (v4.1, v4.2.1, (AV.int .i64 x18), ()) d5 h6)) (
leaveK (gam J []) d5 h6 fun h19 =>
k true h19)) (a0, a1, (AV.int .i64 (Int.ofNat 0)), ()) [] h)
noncomputable def s11 : AV → AV → H → (Bool → H → Prop) → Prop := s11G J0 
noncomputable def w11 (c : AV → AV → H → (Bool → H → Prop) → Prop) : Fun := fun xs h k => arg xs fun a0 xs => arg xs fun a1 xs => noArg xs <| c a0 a1 h fun r0 h => k (.bool r0) h
theorem s11_eq (J : Joins) (a0 : AV) (a1 : AV) (h : H) (k : AV → H → Prop) : denF ty (gam J []) Tryd.f11 [a0, a1] h k = s11G J  a0 a1 h (fun r0 h => k (.bool r0) h) := by kernel_rfl
noncomputable def g11 : Fun := w11 s11
theorem g11_ok : FunOk Tryd.prog 11 g11 := (fun_ok ty_ok mixed (gam_ok (J := J0) (tab_nil fls_fun)) Tryd.func11 (fun args w => by simp)).imp fun xs h k e0 => by
  obtain ⟨a0, xs0, rfl, e1⟩ := arg_imp e0
  obtain ⟨a1, xs1, rfl, e2⟩ := arg_imp e1
  obtain ⟨rfl, e3⟩ := noArg_imp e2
  exact (s11_eq J0  a0 a1 h k).mpr e3
/-- stagepost/stagepostkit.SameWrites -/
noncomputable def s41G (J : Joins) (a0 : AV) (a1 : AV) (h : H) (k : Bool → H → Prop) : Prop :=
lenK a0 fun x1 =>
lenK a1 fun x2 =>
fB (Bool.not (eqI (Int.ofNat x1) (Int.ofNat x2))) fun b3 =>
br b3 (
k false h) (
J.lp (α := AV × AV × AV × Unit) (fun r7 v4 d5 h6 =>
lenK v4.1 fun x8 =>
asI .i64 v4.2.2.1 fun x9 =>
fB (ltI x9 (Int.ofNat x8)) fun b10 =>
br b10 (
ixK 3 v4.1 v4.2.2.1 fun p11 =>
ldN 3 p11 h6 fun l12 =>
ixK 3 v4.2.1 v4.2.2.1 fun p13 =>
ldN 3 p13 h6 fun l14 =>
obK (aBin ty .neq 34 false (AV.agg l12) (AV.agg l14)) fun b15 =>
br b15 (
leaveK (gam J []) d5 h6 fun h16 =>
k false h16) (
asI .i64 v4.2.2.1 fun x17 =>
fI (wrapF .i64 (Int.add x17 (Int.ofNat 1))) fun x18 =>
r7 (v4.1, v4.2.1, (AV.int .i64 x18), ()) d5 h6)) (
leaveK (gam J []) d5 h6 fun h19 =>
k true h19)) (a0, a1, (AV.int .i64 (Int.ofNat 0)), ()) [] h)
noncomputable def s41 : AV → AV → H → (Bool → H → Prop) → Prop := s41G J0 
noncomputable def w41 (c : AV → AV → H → (Bool → H → Prop) → Prop) : Fun := fun xs h k => arg xs fun a0 xs => arg xs fun a1 xs => noArg xs <| c a0 a1 h fun r0 h => k (.bool r0) h
theorem s41_eq (J : Joins) (a0 : AV) (a1 : AV) (h : H) (k : AV → H → Prop) : denF ty (gam J []) Tryd.f41 [a0, a1] h k = s41G J  a0 a1 h (fun r0 h => k (.bool r0) h) := by kernel_rfl
noncomputable def g41 : Fun := w41 s41
theorem g41_ok : FunOk Tryd.prog 41 g41 := (fun_ok ty_ok mixed (gam_ok (J := J0) (tab_nil fls_fun)) Tryd.func41 (fun args w => by simp)).imp fun xs h k e0 => by
  obtain ⟨a0, xs0, rfl, e1⟩ := arg_imp e0
  obtain ⟨a1, xs1, rfl, e2⟩ := arg_imp e1
  obtain ⟨rfl, e3⟩ := noArg_imp e2
  exact (s41_eq J0  a0 a1 h k).mpr e3
/-- stagepost/stagepostkit.SameBatches -/
noncomputable def s17G (J : Joins) (c41 : AV → AV → H → (Bool → H → Prop) → Prop) (a0 : AV) (a1 : AV) (h : H) (k : Bool → H → Prop) : Prop :=
lenK a0 fun x1 =>
lenK a1 fun x2 =>
fB (Bool.not (eqI (Int.ofNat x1) (Int.ofNat x2))) fun b3 =>
br b3 (
k false h) (
J.lp (α := AV × AV × AV × Unit) (fun r7 v4 d5 h6 =>
lenK v4.1 fun x8 =>
asI .i64 v4.2.2.1 fun x9 =>
fB (ltI x9 (Int.ofNat x8)) fun b10 =>
br b10 (
ixK 2 v4.1 v4.2.2.1 fun p11 =>
faK 0 p11 fun p12 =>
ldI .i64 p12 h6 fun x13 =>
ixK 2 v4.2.1 v4.2.2.1 fun p14 =>
faK 0 p14 fun p15 =>
ldI .i64 p15 h6 fun x16 =>
fB (Bool.not (eqI x13 x16)) fun b17 =>
J.jn (fun v18 h19 =>
J.jn (fun v21 h22 =>
J.jn (fun v24 h25 =>
J.jn (fun v28 h29 =>
J.jb (fun b32 v33 =>
J.jn (fun v36 h37 =>
J.jn (fun v39 h40 =>
J.jn (fun v42 h43 =>
J.jn (fun v46 h47 =>
J.jb (fun b50 v51 =>
J.jn (fun v54 h55 =>
J.jn (fun v59 h60 =>
pickB (AV.bool b17) (AV.bool true) v59 fun b64 =>
br b64 (
leaveK (gam J [(41, w41 c41)]) d5 h60 fun h65 =>
k false h65) (
asI .i64 v4.2.2.1 fun x66 =>
fI (wrapF .i64 (Int.add x66 (Int.ofNat 1))) fun x67 =>
r7 (v4.1, v4.2.1, (AV.int .i64 x67), ()) d5 h60)) fun j61 =>
br b17 (
j61 skipV h55) (
asB v54 fun b62 =>
fB (Bool.not b62) fun b63 =>
j61 (AV.bool b63) h55)) fun j56 =>
br b17 (
j56 skipV h47) (
c41 v33 v51 h47 fun b58 h57 =>
j56 (AV.bool b58) h57)) fun j52 =>
br b17 (
j52 false skipV) (
ldV v46 h47 fun v53 =>
j52 true v53)) fun j48 =>
br b17 (
j48 skipV h43) (
faK 1 v42 fun p49 =>
j48 p49 h43)) fun j44 =>
br b17 (
j44 skipV h40) (
ixK 2 v36 v39 fun p45 =>
j44 p45 h40)) fun j41 =>
br b17 (
j41 skipV h37) (
j41 v4.2.2.1 h37)) fun j38 =>
br b17 (
j38 skipV h29) (
j38 v4.2.1 h29)) fun j34 =>
br b17 (
j34 false skipV) (
ldV v28 h29 fun v35 =>
j34 true v35)) fun j30 =>
br b17 (
j30 skipV h25) (
faK 1 v24 fun p31 =>
j30 p31 h25)) fun j26 =>
br b17 (
j26 skipV h22) (
ixK 2 v18 v21 fun p27 =>
j26 p27 h22)) fun j23 =>
br b17 (
j23 skipV h19) (
j23 v4.2.2.1 h19)) fun j20 =>
br b17 (
j20 skipV h6) (
j20 v4.1 h6)) (
leaveK (gam J [(41, w41 c41)]) d5 h6 fun h68 =>
k true h68)) (a0, a1, (AV.int .i64 (Int.ofNat 0)), ()) [] h)
noncomputable def s17 : AV → AV → H → (Bool → H → Prop) → Prop := s17G J0 s41
noncomputable def w17 (c : AV → AV → H → (Bool → H → Prop) → Prop) : Fun := fun xs h k => arg xs fun a0 xs => arg xs fun a1 xs => noArg xs <| c a0 a1 h fun r0 h => k (.bool r0) h
theorem s17_eq (J : Joins) (c41 : AV → AV → H → (Bool → H → Prop) → Prop) (a0 : AV) (a1 : AV) (h : H) (k : AV → H → Prop) : denF ty (gam J [(41, w41 c41)]) Tryd.f17 [a0, a1] h k = s17G J c41 a0 a1 h (fun r0 h => k (.bool r0) h) := by kernel_rfl
noncomputable def g17 : Fun := w17 s17
theorem g17_ok : FunOk Tryd.prog 17 g17 := (fun_ok ty_ok mixed (gam_ok (J := J0) (tab_cons g41_ok (tab_nil fls_fun))) Tryd.func17 (fun args w => by simp)).imp fun xs h k e0 => by
  obtain ⟨a0, xs0, rfl, e1⟩ := arg_imp e0
  obtain ⟨a1, xs1, rfl, e2⟩ := arg_imp e1
  obtain ⟨rfl, e3⟩ := noArg_imp e2
  exact (s17_eq J0 s41 a0 a1 h k).mpr e3
/-- stagepost/stagepostlaw05.WalNames -/
noncomputable def s3G (J : Joins) (c6 : AV → H → (AV → Int → H → Prop) → Prop) (c7 : Str → Str → H → (AV → H → Prop) → Prop) (c8 : Int → H → (Str → Int → H → Prop) → Prop) (c9 : AV → H → (Int → H → Prop) → Prop) (c10 : H → (Bool → H → Prop) → Prop) (c11 : AV → AV → H → (Bool → H → Prop) → Prop) (c12 : Int → H → (AV → Int → H → Prop) → Prop) (c13 : AV → Int → Int → H → (AV → AV → Int → H → Prop) → Prop) (c14 : AV → AV → H → (Int → Int → H → Prop) → Prop) (c15 : AV → H → (Int → H → Prop) → Prop) (c16 : AV → H → (Int → H → Prop) → Prop) (c17 : AV → AV → H → (Bool → H → Prop) → Prop) (h : H) (k : Bool → H → Prop) : Prop :=
c7 ⟨1, 97⟩ ⟨1, 49⟩ h fun v2 h1 =>
ck (isOne v2) (c6 (AV.agg [(AV.int .i64 (Int.ofNat 1)), v2]) h1 fun v4 x5 h3 =>
c8 (Int.ofNat 7) h3 fun s7 x8 h6 =>
c8 (Int.ofNat 0) h6 fun s10 x11 h9 =>
c7 ⟨1, 97⟩ ⟨0, 0⟩ h9 fun v13 h12 =>
c7 ⟨1, 97⟩ ⟨0, 0⟩ h12 fun v15 h14 =>
apC 34 3 40 v13 v15 h14 fun v16 h17 =>
c9 v16 h17 fun x19 h18 =>
fB (eqI x19 (Int.ofNat 9)) fun b20 =>
J.jn (fun v21 h22 =>
J.jn (fun v26 h27 =>
pickB (AV.bool b20) v26 (AV.bool false) fun b31 =>
J.jn (fun v32 h33 =>
J.jn (fun v35 h36 =>
J.jn (fun v42 h43 =>
J.jn (fun v47 h48 =>
pickB (AV.bool b31) v47 (AV.bool false) fun b52 =>
fB (Bool.not true) fun b53 =>
J.jn (fun v54 h55 =>
J.jn (fun v59 h60 =>
pickB (AV.bool b53) (AV.bool true) v59 fun b64 =>
J.jn (fun v65 h66 =>
J.jn (fun v68 h69 =>
pickB (AV.bool b64) (AV.bool true) v68 fun b73 =>
J.jn (fun v74 h75 =>
J.jn (fun v77 h78 =>
pickB (AV.bool b73) (AV.bool true) v77 fun b82 =>
J.jn (fun v83 h84 =>
J.jn (fun v86 h87 =>
J.jn (fun v92 h93 =>
J.jn (fun v97 h98 =>
pickB (AV.bool b82) (AV.bool true) v97 fun b102 =>
J.jn (fun v103 h104 =>
J.jn (fun v106 h107 =>
pickB (AV.bool b102) (AV.bool true) v106 fun b111 =>
J.jn (fun v112 h113 =>
J.jn (fun v115 h116 =>
pickB (AV.bool b111) (AV.bool true) v115 fun b120 =>
J.jn (fun v121 h122 =>
J.jn (fun v124 h125 =>
pickB (AV.bool b120) (AV.bool true) v124 fun b129 =>
br b129 (
k false h125) (
c12 (Int.ofNat 10000) h125 fun v131 x132 h130 =>
c13 v131 (Int.ofNat 1) (Int.ofNat 0) h130 fun v134 v135 x136 h133 =>
c7 ⟨1, 97⟩ ⟨1, 49⟩ h133 fun v138 h137 =>
c14 v134 v138 h137 fun x140 x141 h139 =>
ck (Nat.beq (List.length [(AV.str ⟨1, 97⟩), (.str ⟨0, 0⟩), (AV.bool true)]) 3) (op' (lputAt 0 [(AV.str ⟨1, 97⟩), (.str ⟨0, 0⟩), (AV.bool true)] [(.str ⟨0, 0⟩), (.str ⟨0, 0⟩), (.bool false)]) fun l144 =>
pushK (.cells false 34 l144) h139 fun n142 h143 =>
c14 v134 (AV.slice n142 0 1 1 3 true) h143 fun x146 x147 h145 =>
c13 v131 (Int.ofNat 1) (Int.ofNat 1) h145 fun v149 v150 x151 h148 =>
c13 v131 (Int.ofNat 1) (Int.ofNat 5) h148 fun v153 v154 x155 h152 =>
c13 v131 (Int.ofNat 2) (Int.ofNat 2) h152 fun v157 v158 x159 h156 =>
fB (eqI x151 (Int.ofNat 0)) fun b160 =>
J.jn (fun v161 h162 =>
J.jn (fun v164 h165 =>
J.jn (fun v169 h170 =>
pickB (AV.bool b160) v169 (AV.bool false) fun b174 =>
J.jn (fun v175 h176 =>
J.jn (fun v178 h179 =>
J.jn (fun v183 h184 =>
pickB (AV.bool b174) v183 (AV.bool false) fun b188 =>
J.jn (fun v189 h190 =>
J.jn (fun v192 h193 =>
J.jn (fun v195 h196 =>
J.jn (fun v202 h203 =>
J.jn (fun v205 h206 =>
J.jn (fun v212 h213 =>
pickB (AV.bool b188) v212 (AV.bool false) fun b217 =>
J.jn (fun v218 h219 =>
J.jn (fun v221 h222 =>
pickB (AV.bool b217) v221 (AV.bool false) fun b226 =>
J.jn (fun v227 h228 =>
J.jn (fun v230 h231 =>
pickB (AV.bool b226) v230 (AV.bool false) fun b234 =>
J.jn (fun v235 h236 =>
J.jn (fun v238 h239 =>
J.jn (fun v242 h243 =>
pickB (AV.bool b234) v242 (AV.bool false) fun b247 =>
J.jn (fun v248 h249 =>
J.jn (fun v251 h252 =>
pickB (AV.bool b247) v251 (AV.bool false) fun b256 =>
J.jn (fun v257 h258 =>
J.jn (fun v260 h261 =>
J.jn (fun v264 h265 =>
pickB (AV.bool b256) v264 (AV.bool false) fun b269 =>
J.jn (fun v270 h271 =>
J.jn (fun v273 h274 =>
J.jn (fun v278 h279 =>
pickB (AV.bool b269) v278 (AV.bool false) fun b283 =>
k b283 h279) fun j280 =>
br b269 (
asI .i64 v273 fun x281 =>
fB (eqI x281 (Int.ofNat 2)) fun b282 =>
j280 (AV.bool b282) h274) (
j280 skipV h274)) fun j275 =>
br b269 (
c16 v270 h271 fun x277 h276 =>
j275 (AV.int .i64 x277) h276) (
j275 skipV h271)) fun j272 =>
br b269 (
j272 v157 h265) (
j272 skipV h265)) fun j266 =>
br b256 (
asI .i64 v260 fun x267 =>
fB (eqI x267 (Int.ofNat 0)) fun b268 =>
j266 (AV.bool b268) h261) (
j266 skipV h261)) fun j262 =>
br b256 (
lenK v257 fun x263 =>
j262 (AV.int .i64 (Int.ofNat x263)) h258) (
j262 skipV h258)) fun j259 =>
br b256 (
j259 v158 h252) (
j259 skipV h252)) fun j253 =>
br b247 (
asI .i64 v248 fun x254 =>
fB (eqI x254 (Int.ofNat 0)) fun b255 =>
j253 (AV.bool b255) h249) (
j253 skipV h249)) fun j250 =>
br b247 (
j250 (AV.int .i64 x159) h243) (
j250 skipV h243)) fun j244 =>
br b234 (
asI .i64 v238 fun x245 =>
fB (eqI x245 (Int.ofNat 0)) fun b246 =>
j244 (AV.bool b246) h239) (
j244 skipV h239)) fun j240 =>
br b234 (
lenK v235 fun x241 =>
j240 (AV.int .i64 (Int.ofNat x241)) h236) (
j240 skipV h236)) fun j237 =>
br b234 (
j237 v154 h231) (
j237 skipV h231)) fun j232 =>
br b226 (
nilB 0 v227 fun b233 =>
j232 (AV.bool b233) h228) (
j232 skipV h228)) fun j229 =>
br b226 (
j229 v153 h222) (
j229 skipV h222)) fun j223 =>
br b217 (
asI .i64 v218 fun x224 =>
fB (eqI x224 (Int.ofNat 6)) fun b225 =>
j223 (AV.bool b225) h219) (
j223 skipV h219)) fun j220 =>
br b217 (
j220 (AV.int .i64 x155) h213) (
j220 skipV h213)) fun j214 =>
br b188 (
c17 v189 v205 h206 fun b216 h215 =>
j214 (AV.bool b216) h215) (
j214 skipV h206)) fun j207 =>
br b188 (
Go.Am.asAgg v202 fun l210 =>
ck (Nat.beq (List.length l210) 2) (op' (lputAt 0 l210 [(.int .i64 0), (.nils)]) fun l211 =>
pushK (.cells false 29 l211) h203 fun n208 h209 =>
j207 (AV.slice n208 0 1 1 2 true) h209)) (
j207 skipV h203)) fun j204 =>
br b188 (
ck (isOne v195) (j204 (AV.agg [(AV.int .i64 (Int.ofNat 2)), v195]) h196)) (
j204 skipV h196)) fun j197 =>
br b188 (
Go.Am.asAgg v192 fun l200 =>
ck (Nat.beq (List.length l200) 3) (op' (lputAt 0 l200 [(.str ⟨0, 0⟩), (.str ⟨0, 0⟩), (.bool false)]) fun l201 =>
pushK (.cells false 34 l201) h193 fun n198 h199 =>
j197 (AV.slice n198 0 1 1 3 true) h199)) (
j197 skipV h193)) fun j194 =>
br b188 (
j194 (AV.agg [(AV.str ⟨1, 97⟩), (.str ⟨0, 0⟩), (AV.bool true)]) h190) (
j194 skipV h190)) fun j191 =>
br b188 (
j191 v150 h184) (
j191 skipV h184)) fun j185 =>
br b174 (
asI .i64 v178 fun x186 =>
fB (eqI x186 (Int.ofNat 2)) fun b187 =>
j185 (AV.bool b187) h179) (
j185 skipV h179)) fun j180 =>
br b174 (
c16 v175 h176 fun x182 h181 =>
j180 (AV.int .i64 x182) h181) (
j180 skipV h176)) fun j177 =>
br b174 (
j177 v149 h170) (
j177 skipV h170)) fun j171 =>
br b160 (
asI .i64 v164 fun x172 =>
fB (eqI x172 (Int.ofNat 2)) fun b173 =>
j171 (AV.bool b173) h165) (
j171 skipV h165)) fun j166 =>
br b160 (
c15 v161 h162 fun x168 h167 =>
j166 (AV.int .i64 x168) h167) (
j166 skipV h162)) fun j163 =>
br b160 (
j163 v149 h156) (
j163 skipV h156)))) fun j126 =>
br b120 (
j126 skipV h122) (
asI .i64 v121 fun x127 =>
fB (Bool.not (eqI x127 (Int.ofNat 2))) fun b128 =>
j126 (AV.bool b128) h122)) fun j123 =>
br b120 (
j123 skipV h116) (
j123 (AV.int .i64 x11) h116)) fun j117 =>
br b111 (
j117 skipV h113) (
asI .i64 v112 fun x118 =>
fB (Bool.not (eqI x118 (Int.ofNat 0))) fun b119 =>
j117 (AV.bool b119) h113)) fun j114 =>
br b111 (
j114 skipV h107) (
j114 (AV.int .i64 x8) h107)) fun j108 =>
br b102 (
j108 skipV h104) (
asS v103 fun s109 =>
fB (Bool.not (Str.beq s109 (⟨10, 563758740576151180161079⟩ : Str))) fun b110 =>
j108 (AV.bool b110) h104)) fun j105 =>
br b102 (
j105 skipV h98) (
j105 (AV.str s7) h98)) fun j99 =>
br b82 (
j99 skipV h93) (
asB v92 fun b100 =>
fB (Bool.not b100) fun b101 =>
j99 (AV.bool b101) h93)) fun j94 =>
br b82 (
j94 skipV h87) (
c11 v83 v86 h87 fun b96 h95 =>
j94 (AV.bool b96) h95)) fun j88 =>
br b82 (
j88 skipV h84) (
op' (asRow true 5 [(AV.int .u8 (Int.ofNat 1)), (AV.int .u8 (Int.ofNat 1)), (AV.int .u8 (Int.ofNat 0)), (AV.int .u8 (Int.ofNat 1)), (AV.int .u8 (Int.ofNat 97)), (AV.int .u8 (Int.ofNat 1)), (AV.int .u8 (Int.ofNat 49))]) fun k91 =>
pushK k91 h84 fun n89 h90 =>
j88 (AV.slice n89 0 7 7 1 true) h90)) fun j85 =>
br b82 (
j85 skipV h78) (
j85 v4 h78)) fun j79 =>
br b73 (
j79 skipV h75) (
asI .i64 v74 fun x80 =>
fB (Bool.not (eqI x80 (Int.ofNat 0))) fun b81 =>
j79 (AV.bool b81) h75)) fun j76 =>
br b73 (
j76 skipV h69) (
j76 (AV.int .i64 x5) h69)) fun j70 =>
br b64 (
j70 skipV h66) (
asB v65 fun b71 =>
fB (Bool.not b71) fun b72 =>
j70 (AV.bool b72) h66)) fun j67 =>
br b64 (
j67 skipV h60) (
j67 (AV.bool b52) h60)) fun j61 =>
br b53 (
j61 skipV h55) (
asB v54 fun b62 =>
fB (Bool.not b62) fun b63 =>
j61 (AV.bool b63) h55)) fun j56 =>
br b53 (
j56 skipV h48) (
c10  h48 fun b58 h57 =>
j56 (AV.bool b58) h57)) fun j49 =>
br b31 (
asI .i64 v42 fun x50 =>
fB (eqI x50 (Int.ofNat 2)) fun b51 =>
j49 (AV.bool b51) h43) (
j49 skipV h43)) fun j44 =>
br b31 (
c9 v35 h36 fun x46 h45 =>
j44 (AV.int .i64 x46) h45) (
j44 skipV h36)) fun j37 =>
br b31 (
Go.Am.asAgg v32 fun l40 =>
ck (Nat.beq (List.length l40) 3) (op' (lputAt 0 l40 [(.str ⟨0, 0⟩), (.str ⟨0, 0⟩), (.bool false)]) fun l41 =>
pushK (.cells false 34 l41) h33 fun n38 h39 =>
j37 (AV.slice n38 0 1 1 3 true) h39)) (
j37 skipV h33)) fun j34 =>
br b31 (
j34 (AV.agg [(AV.str ⟨1, 97⟩), (AV.str ⟨1, 98⟩), (AV.bool true)]) h27) (
j34 skipV h27)) fun j28 =>
br b20 (
asI .i64 v21 fun x29 =>
fB (eqI x29 (Int.ofNat 2)) fun b30 =>
j28 (AV.bool b30) h22) (
j28 skipV h22)) fun j23 =>
br b20 (
c9 AV.nils h18 fun x25 h24 =>
j23 (AV.int .i64 x25) h24) (
j23 skipV h18))
noncomputable def s3 : H → (Bool → H → Prop) → Prop := s3G J0 s6 s7 s8 s9 s10 s11 s12 s13 s14 s15 s16 s17
noncomputable def w3 (c : H → (Bool → H → Prop) → Prop) : Fun := fun xs h k => noArg xs <| c  h fun r0 h => k (.bool r0) h
theorem s3_eq (J : Joins) (c6 : AV → H → (AV → Int → H → Prop) → Prop) (c7 : Str → Str → H → (AV → H → Prop) → Prop) (c8 : Int → H → (Str → Int → H → Prop) → Prop) (c9 : AV → H → (Int → H → Prop) → Prop) (c10 : H → (Bool → H → Prop) → Prop) (c11 : AV → AV → H → (Bool → H → Prop) → Prop) (c12 : Int → H → (AV → Int → H → Prop) → Prop) (c13 : AV → Int → Int → H → (AV → AV → Int → H → Prop) → Prop) (c14 : AV → AV → H → (Int → Int → H → Prop) → Prop) (c15 : AV → H → (Int → H → Prop) → Prop) (c16 : AV → H → (Int → H → Prop) → Prop) (c17 : AV → AV → H → (Bool → H → Prop) → Prop)  (h : H) (k : AV → H → Prop) : denF ty (gam J [(6, w6 c6), (7, w7 c7), (8, w8 c8), (9, w9 c9), (10, w10 c10), (11, w11 c11), (12, w12 c12), (13, w13 c13), (14, w14 c14), (15, w15 c15), (16, w16 c16), (17, w17 c17)]) Tryd.f3 [] h k = s3G J c6 c7 c8 c9 c10 c11 c12 c13 c14 c15 c16 c17  h (fun r0 h => k (.bool r0) h) := by kernel_rfl
noncomputable def g3 : Fun := w3 s3
theorem g3_ok : FunOk Tryd.prog 3 g3 := (fun_ok ty_ok mixed (gam_ok (J := J0) (tab_cons g6_ok (tab_cons g7_ok (tab_cons g8_ok (tab_cons g9_ok (tab_cons g10_ok (tab_cons g11_ok (tab_cons g12_ok (tab_cons g13_ok (tab_cons g14_ok (tab_cons g15_ok (tab_cons g16_ok (tab_cons g17_ok (tab_nil fls_fun)))))))))))))) Tryd.func3 (fun args w => by simp)).imp fun xs h k e0 => by
  obtain ⟨rfl, e1⟩ := noArg_imp e0
  exact (s3_eq J0 s6 s7 s8 s9 s10 s11 s12 s13 s14 s15 s16 s17  h k).mpr e1
end Go.Proofs.YtnjiokmleoimgaaDoor
