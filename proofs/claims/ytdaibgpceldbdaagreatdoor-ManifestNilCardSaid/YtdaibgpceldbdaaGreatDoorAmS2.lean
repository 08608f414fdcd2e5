/- Functions as they are reckoned. MADE BY PROGRAM (wip/tools/shal.py). -/
import Derived.Test.YtdaibgpceldbdaaGreatDoorAmS1
namespace Go.Proofs.YtdaibgpceldbdaaGreatDoor
open Go Go.Am
set_option maxRecDepth 100000
set_option linter.all false
/-- stagepost/manifest.known -/
noncomputable def s19G (J : Joins) (c18 : AV → Str → H → (AV → Int → H → Prop) → Prop) (c31 : Int → H → (Str → H → Prop) → Prop) (c34 : AV → AV → H → (AV → Int → H → Prop) → Prop) (c50 : H → (AV → H → Prop) → Prop) (c51 : Fun) (c52 : Str → H → (Int → Bool → H → Prop) → Prop) (c53 : AV → H → (AV → Int → Int → H → Prop) → Prop) (c54 : AV → H → (AV → Int → H → Prop) → Prop) (a0 : AV) (h : H) (k : AV → Int → Int → H → Prop) : Prop :=
pushK (.cells false 39 [(.nils), (.int .i64 0), (.int .i64 0), (.int .i64 0)]) h fun n1 h2 =>
c50  h2 fun v4 h3 =>
pushK (.cells false 39 [(.nils), (.int .i64 0), (.int .i64 0), (.int .i64 0)]) h3 fun n5 h6 =>
Go.Am.asAgg v4 fun l8 =>
stN 4 (AV.ptr n5 0) l8 h6 fun h7 =>
c18 a0 ⟨7, 27995157100326516⟩ h7 fun v10 x11 h9 =>
fB (eqI x11 (Int.ofNat 4)) fun b12 =>
br b12 (
ldN 4 (AV.ptr n5 0) h9 fun l13 =>
stN 4 (AV.ptr n1 0) l13 h9 fun h14 =>
ldN 4 (AV.ptr n1 0) h14 fun l15 =>
k (AV.agg l15) (Int.ofNat 0) (Int.ofNat 0) h14) (
c51 [v10] h9 fun v16 h17 =>
asTup v16 fun l18 =>
op' (lgetO l18 0) fun v19 =>
asTup v16 fun l20 =>
op' (lgetO l20 1) fun v21 =>
asI .i64 v21 fun x22 =>
asTup v16 fun l23 =>
op' (lgetO l23 2) fun v24 =>
asI .i64 v24 fun x25 =>
toStrK v19 h17 fun s26 =>
c52 s26 h17 fun x28 b29 h27 =>
fB (Bool.not (eqI x25 (Int.ofNat 0))) fun b30 =>
J.jn (fun v31 h32 =>
J.jn (fun v34 h35 =>
J.jn (fun v37 h38 =>
J.jn (fun v41 h42 =>
pickB (AV.bool b30) (AV.bool true) v41 fun b47 =>
J.jn (fun v48 h49 =>
J.jn (fun v51 h52 =>
pickB (AV.bool b47) (AV.bool true) v51 fun b56 =>
br b56 (
ldN 4 (AV.ptr n5 0) h52 fun l57 =>
stN 4 (AV.ptr n1 0) l57 h52 fun h58 =>
ldN 4 (AV.ptr n1 0) h58 fun l59 =>
k (AV.agg l59) (Int.ofNat 0) (Int.ofNat 6) h58) (
c31 x28 h52 fun s61 h60 =>
c18 a0 s61 h60 fun v63 x64 h62 =>
fB (Bool.not (eqI x64 (Int.ofNat 0))) fun b65 =>
br b65 (
ldN 4 (AV.ptr n5 0) h62 fun l66 =>
stN 4 (AV.ptr n1 0) l66 h62 fun h67 =>
ldN 4 (AV.ptr n1 0) h67 fun l68 =>
k (AV.agg l68) (Int.ofNat 0) (Int.ofNat 6) h67) (
c53 v63 h62 fun v70 x71 x72 h69 =>
fB (eqI x72 (Int.ofNat 6)) fun b73 =>
J.jn (fun v74 h75 =>
J.jn (fun v77 h78 =>
J.jn (fun v81 h82 =>
pickB (AV.bool b73) (AV.bool true) v81 fun b86 =>
br b86 (
ldN 4 (AV.ptr n5 0) h82 fun l87 =>
stN 4 (AV.ptr n1 0) l87 h82 fun h88 =>
ldN 4 (AV.ptr n1 0) h88 fun l89 =>
k (AV.agg l89) (Int.ofNat 0) (Int.ofNat 6) h88) (
lenK v70 fun x90 =>
J.lp (α := AV × AV × AV × AV × AV × AV × Unit) (fun r94 v91 d92 h93 =>
asI .i64 v91.2.2.2.2.2.1 fun x95 =>
asI .i64 v91.2.2.2.2.1 fun x96 =>
fB (ltI x95 x96) fun b97 =>
br b97 (
ixK 1 v91.2.2.2.1 v91.2.2.2.2.2.1 fun p98 =>
ldV p98 h93 fun v99 =>
c54 v99 h93 fun v101 x102 h100 =>
pushK (.cells false 34 [(.nils), (.nils), (.int .i64 0), (.int .i64 0), (.int .i64 0)]) h100 fun n103 h104 =>
Go.Am.asAgg v101 fun l106 =>
stN 5 (AV.ptr n103 0) l106 h104 fun h105 =>
fB (Bool.not (eqI x102 (Int.ofNat 0))) fun b107 =>
br b107 (
ldN 4 v91.2.1 h105 fun l108 =>
stN 4 v91.1 l108 h105 fun h109 =>
leaveK (gam J [(18, w18 c18), (31, w31 c31), (34, w34 c34), (50, w50 c50), (51, c51), (52, w52 c52), (53, w53 c53), (54, w54 c54)]) d92 h109 fun h110 =>
ldN 4 v91.1 h110 fun l111 =>
k (AV.agg l111) (Int.ofNat 0) (Int.ofNat 6) h110) (
ldN 4 v91.2.1 h105 fun l112 =>
ldN 5 (AV.ptr n103 0) h105 fun l113 =>
c34 (AV.agg l112) (AV.agg l113) h105 fun v115 x116 h114 =>
Go.Am.asAgg v115 fun l118 =>
stN 4 v91.2.1 l118 h114 fun h117 =>
fB (Bool.not (eqI x116 (Int.ofNat 0))) fun b119 =>
br b119 (
ldN 4 v91.2.1 h117 fun l120 =>
stN 4 v91.1 l120 h117 fun h121 =>
leaveK (gam J [(18, w18 c18), (31, w31 c31), (34, w34 c34), (50, w50 c50), (51, c51), (52, w52 c52), (53, w53 c53), (54, w54 c54)]) d92 h121 fun h122 =>
ldN 4 v91.1 h122 fun l123 =>
k (AV.agg l123) (Int.ofNat 0) (Int.ofNat 6) h122) (
asI .i64 v91.2.2.2.2.2.1 fun x124 =>
fI (wrapF .i64 (Int.add x124 (Int.ofNat 1))) fun x125 =>
r94 (v91.1, v91.2.1, v91.2.2.1, v91.2.2.2.1, v91.2.2.2.2.1, (AV.int .i64 x125), ()) d92 h117))) (
ldN 4 v91.2.1 h93 fun l126 =>
stN 4 v91.1 l126 h93 fun h127 =>
leaveK (gam J [(18, w18 c18), (31, w31 c31), (34, w34 c34), (50, w50 c50), (51, c51), (52, w52 c52), (53, w53 c53), (54, w54 c54)]) d92 h127 fun h128 =>
ldN 4 v91.1 h128 fun l129 =>
asI .i64 v91.2.2.1 fun x130 =>
k (AV.agg l129) x130 (Int.ofNat 0) h128)) ((AV.ptr n1 0), (AV.ptr n5 0), (AV.int .i64 x28), v70, (AV.int .i64 (Int.ofNat x90)), (AV.int .i64 (Int.ofNat 0)), ()) [] h82)) fun j83 =>
br b73 (
j83 skipV h78) (
asI .i64 v77 fun x84 =>
fB (eqI x84 (Int.ofNat 0)) fun b85 =>
j83 (AV.bool b85) h78)) fun j79 =>
br b73 (
j79 skipV h75) (
lenK v74 fun x80 =>
j79 (AV.int .i64 (Int.ofNat x80)) h75)) fun j76 =>
br b73 (
j76 skipV h69) (
j76 v70 h69)))) fun j53 =>
br b47 (
j53 skipV h49) (
asB v48 fun b54 =>
fB (Bool.not b54) fun b55 =>
j53 (AV.bool b55) h49)) fun j50 =>
br b47 (
j50 skipV h42) (
j50 (AV.bool b29) h42)) fun j43 =>
br b30 (
j43 skipV h38) (
asI .i64 v31 fun x44 =>
asI .i64 v37 fun x45 =>
fB (Bool.not (eqI x44 x45)) fun b46 =>
j43 (AV.bool b46) h38)) fun j39 =>
br b30 (
j39 skipV h35) (
lenK v34 fun x40 =>
j39 (AV.int .i64 (Int.ofNat x40)) h35)) fun j36 =>
br b30 (
j36 skipV h32) (
j36 v10 h32)) fun j33 =>
br b30 (
j33 skipV h27) (
j33 (AV.int .i64 x22) h27))
noncomputable def s19 : AV → H → (AV → Int → Int → H → Prop) → Prop := s19G J0 s18 s31 s34 s50 g51 s52 s53 s54
noncomputable def w19 (c : AV → H → (AV → Int → Int → H → Prop) → Prop) : Fun := fun xs h k => arg xs fun a0 xs => noArg xs <| c a0 h fun r0 r1 r2 h => k (.tuple [r0, (.int .i64 r1), (.int .i64 r2)]) h
theorem s19_eq (J : Joins) (c18 : AV → Str → H → (AV → Int → H → Prop) → Prop) (c31 : Int → H → (Str → H → Prop) → Prop) (c34 : AV → AV → H → (AV → Int → H → Prop) → Prop) (c50 : H → (AV → H → Prop) → Prop) (c51 : Fun) (c52 : Str → H → (Int → Bool → H → Prop) → Prop) (c53 : AV → H → (AV → Int → Int → H → Prop) → Prop) (c54 : AV → H → (AV → Int → H → Prop) → Prop) (a0 : AV) (h : H) (k : AV → H → Prop) : denF ty (gam J [(18, w18 c18), (31, w31 c31), (34, w34 c34), (50, w50 c50), (51, c51), (52, w52 c52), (53, w53 c53), (54, w54 c54)]) Tryz.f19 [a0] h k = s19G J c18 c31 c34 c50 c51 c52 c53 c54 a0 h (fun r0 r1 r2 h => k (.tuple [r0, (.int .i64 r1), (.int .i64 r2)]) h) := by kernel_rfl
noncomputable def g19 : Fun := w19 s19
theorem g19_ok : FunOk Tryz.prog 19 g19 := (fun_ok ty_ok mixed (gam_ok (J := J0) (tab_cons g18_ok (tab_cons g31_ok (tab_cons g34_ok (tab_cons g50_ok (tab_cons g51_ok (tab_cons g52_ok (tab_cons g53_ok (tab_cons g54_ok (tab_nil fls_fun)))))))))) Tryz.func19 (fun args w => by simp)).imp fun xs h k e0 => by
  obtain ⟨a0, xs0, rfl, e1⟩ := arg_imp e0
  obtain ⟨rfl, e2⟩ := noArg_imp e1
  exact (s19_eq J0 s18 s31 s34 s50 g51 s52 s53 s54 a0 h k).mpr e2
/-- slices.Clone[[]stagepost/api.Meta,stagepost/api.Meta] -/
noncomputable def s39G (J : Joins) (a0 : AV) (h : H) (k : AV → H → Prop) : Prop :=
nilB 2 a0 fun b1 =>
br b1 (
k AV.nils h) (
pushK (.cells false 45 []) h fun n2 h3 =>
apC 45 5 56 (AV.slice n2 0 0 0 5 true) a0 h3 fun v4 h5 =>
k v4 h5)
noncomputable def s39 : AV → H → (AV → H → Prop) → Prop := s39G J0 
noncomputable def w39 (c : AV → H → (AV → H → Prop) → Prop) : Fun := fun xs h k => arg xs fun a0 xs => noArg xs <| c a0 h fun r0 h => k r0 h
theorem s39_eq (J : Joins) (a0 : AV) (h : H) (k : AV → H → Prop) : denF ty (gam J []) Tryz.f39 [a0] h k = s39G J  a0 h (fun r0 h => k r0 h) := by kernel_rfl
noncomputable def g39 : Fun := w39 s39
theorem g39_ok : FunOk Tryz.prog 39 g39 := (fun_ok ty_ok mixed (gam_ok (J := J0) (tab_nil fls_fun)) Tryz.func39 (fun args w => by simp)).imp fun xs h k e0 => by
  obtain ⟨a0, xs0, rfl, e1⟩ := arg_imp e0
  obtain ⟨rfl, e2⟩ := noArg_imp e1
  exact (s39_eq J0  a0 h k).mpr e2
/-- stagepost/manifest.From -/
noncomputable def s21G (J : Joins) (c39 : AV → H → (AV → H → Prop) → Prop) (a0 : AV) (h : H) (k : AV → H → Prop) : Prop :=
Go.Am.asAgg a0 fun l3 =>
pushK (.cells false 39 l3) h fun n1 h2 =>
pushK (.cells false 34 [(.nils), (.nils), (.int .i64 0), (.int .i64 0), (.int .i64 0)]) h2 fun n4 h5 =>
ldV (AV.ptr n1 0) h5 fun v6 =>
ldI .i64 (AV.ptr n1 1) h5 fun x7 =>
ldI .i64 (AV.ptr n1 2) h5 fun x8 =>
ldI .i64 (AV.ptr n1 3) h5 fun x9 =>
c39 v6 h5 fun v11 h10 =>
ck (readsSo (aLoad1 (AV.ptr n1 3) h10) (AV.int .i64 x9)) (
ck (readsSo (aLoad1 (AV.ptr n1 2) h10) (AV.int .i64 x8)) (
ck (readsSo (aLoad1 (AV.ptr n1 1) h10) (AV.int .i64 x7)) (
ck (isOne v11) (stN 5 (AV.ptr n4 0) [(.nils), v11, (AV.int .i64 x7), (AV.int .i64 x8), (AV.int .i64 x9)] h10 fun h12 =>
ldN 5 (AV.ptr n4 0) h12 fun l13 =>
k (AV.agg l13) h12))))
noncomputable def s21 : AV → H → (AV → H → Prop) → Prop := s21G J0 s39
noncomputable def w21 (c : AV → H → (AV → H → Prop) → Prop) : Fun := fun xs h k => arg xs fun a0 xs => noArg xs <| c a0 h fun r0 h => k r0 h
theorem s21_eq (J : Joins) (c39 : AV → H → (AV → H → Prop) → Prop) (a0 : AV) (h : H) (k : AV → H → Prop) : denF ty (gam J [(39, w39 c39)]) Tryz.f21 [a0] h k = s21G J c39 a0 h (fun r0 h => k r0 h) := by kernel_rfl
noncomputable def g21 : Fun := w21 s21
theorem g21_ok : FunOk Tryz.prog 21 g21 := (fun_ok ty_ok mixed (gam_ok (J := J0) (tab_cons g39_ok (tab_nil fls_fun))) Tryz.func21 (fun args w => by simp)).imp fun xs h k e0 => by
  obtain ⟨a0, xs0, rfl, e1⟩ := arg_imp e0
  obtain ⟨rfl, e2⟩ := noArg_imp e1
  exact (s21_eq J0 s39 a0 h k).mpr e2
/-- stagepost/frame.Append -/
noncomputable def s22G (J : Joins) (c57 : AV → H → (AV → H → Prop) → Prop) (a0 : AV) (a1 : AV) (h : H) (k : AV → Int → H → Prop) : Prop :=
lenK a1 fun x1 =>
fB (ltI (Int.ofNat 1048576) (Int.ofNat x1)) fun b2 =>
br b2 (
k AV.nils (Int.ofNat 3) h) (
apB (.slice 5) 5 AV.nils a0 h fun v3 h4 =>
fI (wrapF .u8 (Int.ofNat x1)) fun x5 =>
fI (shrF (Int.ofNat x1) (nmin 8 (IntKind.bits .i64))) fun x6 =>
fI (wrapF .u8 x6) fun x7 =>
fI (shrF (Int.ofNat x1) (nmin 16 (IntKind.bits .i64))) fun x8 =>
fI (wrapF .u8 x8) fun x9 =>
fI (shrF (Int.ofNat x1) (nmin 24 (IntKind.bits .i64))) fun x10 =>
fI (wrapF .u8 x10) fun x11 =>
op' (asRow true 5 [(AV.int .u8 x5), (AV.int .u8 x7), (AV.int .u8 x9), (AV.int .u8 x11)]) fun k14 =>
pushK k14 h4 fun n12 h13 =>
c57 (AV.slice n12 0 4 4 1 true) h13 fun v16 h15 =>
apB (.slice 5) 5 v3 v16 h15 fun v17 h18 =>
c57 a1 h18 fun v20 h19 =>
apB (.slice 5) 5 v17 v20 h19 fun v21 h22 =>
k v21 (Int.ofNat 0) h22)
noncomputable def s22 : AV → AV → H → (AV → Int → H → Prop) → Prop := s22G J0 s57
noncomputable def w22 (c : AV → AV → H → (AV → Int → H → Prop) → Prop) : Fun := fun xs h k => arg xs fun a0 xs => arg xs fun a1 xs => noArg xs <| c a0 a1 h fun r0 r1 h => k (.tuple [r0, (.int .i64 r1)]) h
theorem s22_eq (J : Joins) (c57 : AV → H → (AV → H → Prop) → Prop) (a0 : AV) (a1 : AV) (h : H) (k : AV → H → Prop) : denF ty (gam J [(57, w57 c57)]) Tryz.f22 [a0, a1] h k = s22G J c57 a0 a1 h (fun r0 r1 h => k (.tuple [r0, (.int .i64 r1)]) h) := by kernel_rfl
noncomputable def g22 : Fun := w22 s22
theorem g22_ok : FunOk Tryz.prog 22 g22 := (fun_ok ty_ok mixed (gam_ok (J := J0) (tab_cons g57_ok (tab_nil fls_fun))) Tryz.func22 (fun args w => by simp)).imp fun xs h k e0 => by
  obtain ⟨a0, xs0, rfl, e1⟩ := arg_imp e0
  obtain ⟨a1, xs1, rfl, e2⟩ := arg_imp e1
  obtain ⟨rfl, e3⟩ := noArg_imp e2
  exact (s22_eq J0 s57 a0 a1 h k).mpr e3
/-- (*stagepost/vfs.FS).raw -/
noncomputable def s89G (J : Joins) (a0 : AV) (h : H) (k : Int → H → Prop) : Prop :=
okNil a0 (
faK 6 a0 fun p1 =>
ldB p1 h fun b2 =>
J.jn (fun v3 h4 =>
J.jn (fun v6 h7 =>
J.jn (fun v9 h10 =>
J.jn (fun v13 h14 =>
J.jn (fun v17 h18 =>
pickB (AV.bool b2) v17 (AV.bool false) fun b22 =>
br b22 (
okNil a0 (
faK 5 a0 fun p23 =>
stV p23 (AV.bool true) h18 fun h24 =>
k (Int.ofNat 7) h24)) (
J.jd (α := AV × Unit) (fun v25 d26 h27 =>
okNil v25.1 (
faK 8 v25.1 fun p29 =>
ldI .i64 p29 h27 fun x30 =>
fI (wrapF .i64 (Int.add x30 (Int.ofNat 1))) fun x31 =>
okNil v25.1 (
faK 8 v25.1 fun p32 =>
stV p32 (AV.int .i64 x31) h27 fun h33 =>
leaveK (gam J []) d26 h33 fun h34 =>
k (Int.ofNat 0) h34))) fun j28 =>
okNil a0 (
faK 6 a0 fun p35 =>
ldB p35 h18 fun b36 =>
br b36 (
okNil a0 (
faK 7 a0 fun p37 =>
ldI .i64 p37 h18 fun x38 =>
fI (wrapF .i64 (Int.sub x38 (Int.ofNat 1))) fun x39 =>
okNil a0 (
faK 7 a0 fun p40 =>
stV p40 (AV.int .i64 x39) h18 fun h41 =>
j28 (a0, ()) [] h41))) (
j28 (a0, ()) [] h18)))) fun j19 =>
br b2 (
asI .i64 v13 fun x20 =>
fB (eqI x20 (Int.ofNat 0)) fun b21 =>
j19 (AV.bool b21) h14) (
j19 skipV h14)) fun j15 =>
br b2 (
ldI .i64 v9 h10 fun x16 =>
j15 (AV.int .i64 x16) h10) (
j15 skipV h10)) fun j11 =>
br b2 (
faK 7 v6 fun p12 =>
j11 p12 h7) (
j11 skipV h7)) fun j8 =>
br b2 (
okNil v3 (
j8 v3 h4)) (
j8 skipV h4)) fun j5 =>
br b2 (
j5 a0 h) (
j5 skipV h))
noncomputable def s89 : AV → H → (Int → H → Prop) → Prop := s89G J0 
noncomputable def w89 (c : AV → H → (Int → H → Prop) → Prop) : Fun := fun xs h k => arg xs fun a0 xs => noArg xs <| c a0 h fun r0 h => k (.int .i64 r0) h
theorem s89_eq (J : Joins) (a0 : AV) (h : H) (k : AV → H → Prop) : denF ty (gam J []) Tryz.f89 [a0] h k = s89G J  a0 h (fun r0 h => k (.int .i64 r0) h) := by kernel_rfl
noncomputable def g89 : Fun := w89 s89
theorem g89_ok : FunOk Tryz.prog 89 g89 := (fun_ok ty_ok mixed (gam_ok (J := J0) (tab_nil fls_fun)) Tryz.func89 (fun args w => by simp)).imp fun xs h k e0 => by
  obtain ⟨a0, xs0, rfl, e1⟩ := arg_imp e0
  obtain ⟨rfl, e2⟩ := noArg_imp e1
  exact (s89_eq J0  a0 h k).mpr e2
/-- (*stagepost/vfs.FS).SyncNames$1 -/
noncomputable def s63G (J : Joins) (a0 : AV) (h : H) (k : Bool → H → Prop) : Prop :=
Go.Am.asAgg a0 fun l3 =>
pushK (.cells false 109 l3) h fun n1 h2 =>
ldI .i64 (AV.ptr n1 0) h2 fun x4 =>
fB (Bool.not (eqI x4 (Int.ofNat 0))) fun b5 =>
k b5 h2
noncomputable def s63 : AV → H → (Bool → H → Prop) → Prop := s63G J0 
noncomputable def w63 (c : AV → H → (Bool → H → Prop) → Prop) : Fun := fun xs h k => arg xs fun a0 xs => noArg xs <| c a0 h fun r0 h => k (.bool r0) h
theorem s63_eq (J : Joins) (a0 : AV) (h : H) (k : AV → H → Prop) : denF ty (gam J []) Tryz.f63 [a0] h k = s63G J  a0 h (fun r0 h => k (.bool r0) h) := by kernel_rfl
noncomputable def g63 : Fun := w63 s63
theorem g63_ok : FunOk Tryz.prog 63 g63 := (fun_ok ty_ok mixed (gam_ok (J := J0) (tab_nil fls_fun)) Tryz.func63 (fun args w => by simp)).imp fun xs h k e0 => by
  obtain ⟨a0, xs0, rfl, e1⟩ := arg_imp e0
  obtain ⟨rfl, e2⟩ := noArg_imp e1
  exact (s63_eq J0  a0 h k).mpr e2
/-- (*stagepost/vfs.FS).Sync$1 -/
noncomputable def s72G (J : Joins) (a0 : AV) (a1 : AV) (h : H) (k : Bool → H → Prop) : Prop :=
Go.Am.asAgg a0 fun l3 =>
pushK (.cells false 109 l3) h fun n1 h2 =>
ldI .i64 (AV.ptr n1 0) h2 fun x4 =>
fB (eqI x4 (Int.ofNat 0)) fun b5 =>
J.jn (fun v6 h7 =>
J.jn (fun v9 h10 =>
J.jn (fun v13 h14 =>
J.jn (fun v17 h18 =>
pickB (AV.bool b5) v17 (AV.bool false) fun b23 =>
k b23 h18) fun j19 =>
br b5 (
asI .i64 v9 fun x20 =>
asI .i64 v13 fun x21 =>
fB (eqI x20 x21) fun b22 =>
j19 (AV.bool b22) h14) (
j19 skipV h14)) fun j15 =>
br b5 (
ldI .i64 a1 h10 fun x16 =>
j15 (AV.int .i64 x16) h10) (
j15 skipV h10)) fun j11 =>
br b5 (
ldI .i64 v6 h7 fun x12 =>
j11 (AV.int .i64 x12) h7) (
j11 skipV h7)) fun j8 =>
br b5 (
j8 (AV.ptr n1 3) h2) (
j8 skipV h2)
noncomputable def s72 : AV → AV → H → (Bool → H → Prop) → Prop := s72G J0 
noncomputable def w72 (c : AV → AV → H → (Bool → H → Prop) → Prop) : Fun := fun xs h k => arg xs fun a0 xs => arg xs fun a1 xs => noArg xs <| c a0 a1 h fun r0 h => k (.bool r0) h
theorem s72_eq (J : Joins) (a0 : AV) (a1 : AV) (h : H) (k : AV → H → Prop) : denF ty (gam J []) Tryz.f72 [a0, a1] h k = s72G J  a0 a1 h (fun r0 h => k (.bool r0) h) := by kernel_rfl
noncomputable def g72 : Fun := w72 s72
theorem g72_ok : FunOk Tryz.prog 72 g72 := (fun_ok ty_ok mixed (gam_ok (J := J0) (tab_nil fls_fun)) Tryz.func72 (fun args w => by simp)).imp fun xs h k e0 => by
  obtain ⟨a0, xs0, rfl, e1⟩ := arg_imp e0
  obtain ⟨a1, xs1, rfl, e2⟩ := arg_imp e1
  obtain ⟨rfl, e3⟩ := noArg_imp e2
  exact (s72_eq J0  a0 a1 h k).mpr e3
/-- (*stagepost/vfs.FS).settle -/
noncomputable def s62G (J : Joins) (c63 : AV → H → (Bool → H → Prop) → Prop) (c72 : AV → AV → H → (Bool → H → Prop) → Prop) (c79 : AV → AV → H → (H → Prop) → Prop) (c89 : AV → H → (Int → H → Prop) → Prop) (a0 : AV) (a1 : AV) (h : H) (k : Int → H → Prop) : Prop :=
c89 a0 h fun x2 h1 =>
fB (Bool.not (eqI x2 (Int.ofNat 0))) fun b3 =>
br b3 (
k x2 h1) (
okNil a0 (
faK 2 a0 fun p4 =>
ldV p4 h1 fun v5 =>
lenK v5 fun x6 =>
J.lp (α := AV × AV × AV × AV × AV × AV × Unit) (fun r10 v7 d8 h9 =>
asI .i64 v7.2.2.2.2.2.1 fun x11 =>
asI .i64 v7.2.2.2.2.1 fun x12 =>
fB (ltI x11 x12) fun b13 =>
br b13 (
J.jd (α := AV × AV × AV × AV × AV × AV × Unit) (fun v14 d15 h16 =>
asI .i64 v14.2.2.2.2.2.1 fun x18 =>
fI (wrapF .i64 (Int.add x18 (Int.ofNat 1))) fun x19 =>
r10 (v14.1, v14.2.1, v14.2.2.1, v14.2.2.2.1, v14.2.2.2.2.1, (AV.int .i64 x19), ()) d15 h16) fun j17 =>
ixK 5 v7.2.2.2.1 v7.2.2.2.2.2.1 fun p20 =>
ldN 5 p20 h9 fun l21 =>
pushK (.cells false 109 [(.int .i64 0), (.str ⟨0, 0⟩), (.str ⟨0, 0⟩), (.int .i64 0), (.nils)]) h9 fun n22 h23 =>
stN 5 (AV.ptr n22 0) l21 h23 fun h24 =>
ldN 5 (AV.ptr n22 0) h24 fun l25 =>
callK (gam J [(63, w63 c63), (72, w72 c72), (79, w79 c79), (89, w89 c89)]) v7.2.1 [(AV.agg l25)] h24 fun v26 h27 =>
asB v26 fun b28 =>
br b28 (
okNil v7.1 (
faK 0 v7.1 fun p29 =>
ldN 2 p29 h27 fun l30 =>
ldN 5 (AV.ptr n22 0) h27 fun l31 =>
c79 (AV.agg l30) (AV.agg l31) h27 fun  h32 =>
j17 (v7.1, v7.2.1, v7.2.2.1, v7.2.2.2.1, v7.2.2.2.2.1, v7.2.2.2.2.2.1, ()) d8 h32)) (
ldN 5 (AV.ptr n22 0) h27 fun l33 =>
ck (Nat.beq (List.length l33) 5) (op' (lputAt 0 l33 [(.int .i64 0), (.str ⟨0, 0⟩), (.str ⟨0, 0⟩), (.int .i64 0), (.nils)]) fun l36 =>
pushK (.cells false 109 l36) h27 fun n34 h35 =>
apC 109 5 72 v7.2.2.1 (AV.slice n34 0 1 1 5 true) h35 fun v37 h38 =>
j17 (v7.1, v7.2.1, v37, v7.2.2.2.1, v7.2.2.2.2.1, v7.2.2.2.2.2.1, ()) d8 h38))) (
okNil v7.1 (
faK 2 v7.1 fun p39 =>
stV p39 v7.2.2.1 h9 fun h40 =>
leaveK (gam J [(63, w63 c63), (72, w72 c72), (79, w79 c79), (89, w89 c89)]) d8 h40 fun h41 =>
k (Int.ofNat 0) h41))) (a0, a1, AV.nils, v5, (AV.int .i64 (Int.ofNat x6)), (AV.int .i64 (Int.ofNat 0)), ()) [] h1))
noncomputable def s62 : AV → AV → H → (Int → H → Prop) → Prop := s62G J0 s63 s72 s79 s89
noncomputable def w62 (c : AV → AV → H → (Int → H → Prop) → Prop) : Fun := fun xs h k => arg xs fun a0 xs => arg xs fun a1 xs => noArg xs <| c a0 a1 h fun r0 h => k (.int .i64 r0) h
theorem s62_eq (J : Joins) (c63 : AV → H → (Bool → H → Prop) → Prop) (c72 : AV → AV → H → (Bool → H → Prop) → Prop) (c79 : AV → AV → H → (H → Prop) → Prop) (c89 : AV → H → (Int → H → Prop) → Prop) (a0 : AV) (a1 : AV) (h : H) (k : AV → H → Prop) : denF ty (gam J [(63, w63 c63), (72, w72 c72), (79, w79 c79), (89, w89 c89)]) Tryz.f62 [a0, a1] h k = s62G J c63 c72 c79 c89 a0 a1 h (fun r0 h => k (.int .i64 r0) h) := by kernel_rfl
noncomputable def g62 : Fun := w62 s62
theorem g62_ok : FunOk Tryz.prog 62 g62 := (fun_ok ty_ok mixed (gam_ok (J := J0) (tab_cons g63_ok (tab_cons g72_ok (tab_cons g79_ok (tab_cons g89_ok (tab_nil fls_fun)))))) Tryz.func62 (fun args w => by simp)).imp fun xs h k e0 => by
  obtain ⟨a0, xs0, rfl, e1⟩ := arg_imp e0
  obtain ⟨a1, xs1, rfl, e2⟩ := arg_imp e1
  obtain ⟨rfl, e3⟩ := noArg_imp e2
  exact (s62_eq J0 s63 s72 s79 s89 a0 a1 h k).mpr e3
/-- (*stagepost/vfs.FS).SyncNames -/
noncomputable def s27G (J : Joins) (c40 : AV → AV → H → (Int → H → Prop) → Prop) (c62 : AV → AV → H → (Int → H → Prop) → Prop) (c63 : AV → H → (Bool → H → Prop) → Prop) (a0 : AV) (h : H) (k : Int → H → Prop) : Prop :=
c40 a0 AV.nils h fun x2 h1 =>
fB (Bool.not (eqI x2 (Int.ofNat 0))) fun b3 =>
br b3 (
k x2 h1) (
c62 a0 (AV.func (.func 63) [] []) h1 fun x5 h4 =>
k x5 h4)
noncomputable def s27 : AV → H → (Int → H → Prop) → Prop := s27G J0 s40 s62 s63
noncomputable def w27 (c : AV → H → (Int → H → Prop) → Prop) : Fun := fun xs h k => arg xs fun a0 xs => noArg xs <| c a0 h fun r0 h => k (.int .i64 r0) h
theorem s27_eq (J : Joins) (c40 : AV → AV → H → (Int → H → Prop) → Prop) (c62 : AV → AV → H → (Int → H → Prop) → Prop) (c63 : AV → H → (Bool → H → Prop) → Prop) (a0 : AV) (h : H) (k : AV → H → Prop) : denF ty (gam J [(40, w40 c40), (62, w62 c62), (63, w63 c63)]) Tryz.f27 [a0] h k = s27G J c40 c62 c63 a0 h (fun r0 h => k (.int .i64 r0) h) := by kernel_rfl
noncomputable def g27 : Fun := w27 s27
theorem g27_ok : FunOk Tryz.prog 27 g27 := (fun_ok ty_ok mixed (gam_ok (J := J0) (tab_cons g40_ok (tab_cons g62_ok (tab_cons g63_ok (tab_nil fls_fun))))) Tryz.func27 (fun args w => by simp)).imp fun xs h k e0 => by
  obtain ⟨a0, xs0, rfl, e1⟩ := arg_imp e0
  obtain ⟨rfl, e2⟩ := noArg_imp e1
  exact (s27_eq J0 s40 s62 s63 a0 h k).mpr e2
/-- (*stagepost/vfs.FS).pend -/
noncomputable def s64G (J : Joins) (c89 : AV → H → (Int → H → Prop) → Prop) (a0 : AV) (a1 : AV) (h : H) (k : Int → H → Prop) : Prop :=
Go.Am.asAgg a1 fun l3 =>
pushK (.cells false 109 l3) h fun n1 h2 =>
c89 a0 h2 fun x5 h4 =>
J.jd (α := AV × Unit) (fun v6 d7 h8 =>
leaveK (gam J [(89, w89 c89)]) d7 h8 fun h10 =>
asI .i64 v6.1 fun x11 =>
k x11 h10) fun j9 =>
fB (eqI x5 (Int.ofNat 0)) fun b12 =>
br b12 (
okNil a0 (
faK 2 a0 fun p13 =>
ldV p13 h4 fun v14 =>
ldN 5 (AV.ptr n1 0) h4 fun l15 =>
ck (Nat.beq (List.length l15) 5) (op' (lputAt 0 l15 [(.int .i64 0), (.str ⟨0, 0⟩), (.str ⟨0, 0⟩), (.int .i64 0), (.nils)]) fun l18 =>
pushK (.cells false 109 l18) h4 fun n16 h17 =>
apC 109 5 72 v14 (AV.slice n16 0 1 1 5 true) h17 fun v19 h20 =>
okNil a0 (
faK 2 a0 fun p21 =>
stV p21 v19 h20 fun h22 =>
j9 ((AV.int .i64 x5), ()) [] h22)))) (
j9 ((AV.int .i64 x5), ()) [] h4)
noncomputable def s64 : AV → AV → H → (Int → H → Prop) → Prop := s64G J0 s89
noncomputable def w64 (c : AV → AV → H → (Int → H → Prop) → Prop) : Fun := fun xs h k => arg xs fun a0 xs => arg xs fun a1 xs => noArg xs <| c a0 a1 h fun r0 h => k (.int .i64 r0) h
theorem s64_eq (J : Joins) (c89 : AV → H → (Int → H → Prop) → Prop) (a0 : AV) (a1 : AV) (h : H) (k : AV → H → Prop) : denF ty (gam J [(89, w89 c89)]) Tryz.f64 [a0, a1] h k = s64G J c89 a0 a1 h (fun r0 h => k (.int .i64 r0) h) := by kernel_rfl
noncomputable def g64 : Fun := w64 s64
theorem g64_ok : FunOk Tryz.prog 64 g64 := (fun_ok ty_ok mixed (gam_ok (J := J0) (tab_cons g89_ok (tab_nil fls_fun))) Tryz.func64 (fun args w => by simp)).imp fun xs h k e0 => by
  obtain ⟨a0, xs0, rfl, e1⟩ := arg_imp e0
  obtain ⟨a1, xs1, rfl, e2⟩ := arg_imp e1
  obtain ⟨rfl, e3⟩ := noArg_imp e2
  exact (s64_eq J0 s89 a0 a1 h k).mpr e3
/-- (*stagepost/vfs.FS).Rename -/
noncomputable def s29G (J : Joins) (c40 : AV → AV → H → (Int → H → Prop) → Prop) (c48 : AV → Str → H → (Int → Int → H → Prop) → Prop) (c64 : AV → AV → H → (Int → H → Prop) → Prop) (a0 : AV) (a1 : Str) (a2 : Str) (h : H) (k : Int → H → Prop) : Prop :=
pushK (.cells false 9 [(AV.str a1), (AV.str a2)]) h fun n1 h2 =>
c40 a0 (AV.slice n1 0 2 2 1 true) h2 fun x4 h3 =>
fB (Bool.not (eqI x4 (Int.ofNat 0))) fun b5 =>
br b5 (
k x4 h3) (
c48 a0 a1 h3 fun x7 x8 h6 =>
fB (Bool.not (eqI x8 (Int.ofNat 0))) fun b9 =>
br b9 (
k x8 h6) (
c64 a0 (AV.agg [(AV.int .i64 (Int.ofNat 2)), (AV.str a1), (AV.str a2), (.int .i64 0), (.nils)]) h6 fun x11 h10 =>
k x11 h10))
noncomputable def s29 : AV → Str → Str → H → (Int → H → Prop) → Prop := s29G J0 s40 s48 s64
noncomputable def w29 (c : AV → Str → Str → H → (Int → H → Prop) → Prop) : Fun := fun xs h k => arg xs fun a0 xs => arg xs fun a1 xs => arg xs fun a2 xs => noArg xs <| asS a1 fun a1 => asS a2 fun a2 => c a0 a1 a2 h fun r0 h => k (.int .i64 r0) h
theorem s29_eq (J : Joins) (c40 : AV → AV → H → (Int → H → Prop) → Prop) (c48 : AV → Str → H → (Int → Int → H → Prop) → Prop) (c64 : AV → AV → H → (Int → H → Prop) → Prop) (a0 : AV) (a1 : Str) (a2 : Str) (h : H) (k : AV → H → Prop) : denF ty (gam J [(40, w40 c40), (48, w48 c48), (64, w64 c64)]) Tryz.f29 [a0, (.str a1), (.str a2)] h k = s29G J c40 c48 c64 a0 a1 a2 h (fun r0 h => k (.int .i64 r0) h) := by kernel_rfl
noncomputable def g29 : Fun := w29 s29
theorem g29_ok : FunOk Tryz.prog 29 g29 := (fun_ok ty_ok mixed (gam_ok (J := J0) (tab_cons g40_ok (tab_cons g48_ok (tab_cons g64_ok (tab_nil fls_fun))))) Tryz.func29 (fun args w => by simp)).imp fun xs h k e0 => by
  obtain ⟨a0, xs0, rfl, e1⟩ := arg_imp e0
  obtain ⟨a1, xs1, rfl, e2⟩ := arg_imp e1
  obtain ⟨a2, xs2, rfl, e3⟩ := arg_imp e2
  obtain ⟨rfl, e4⟩ := noArg_imp e3
  obtain ⟨a1, rfl, e5⟩ := asS_iff.1 e4
  obtain ⟨a2, rfl, e6⟩ := asS_iff.1 e5
  exact (s29_eq J0 s40 s48 s64 a0 a1 a2 h k).mpr e6
/-- stagepost/manifest.Open$3 -/
noncomputable def s28G (J : Joins) (c29 : AV → Str → Str → H → (Int → H → Prop) → Prop) (a0 : AV) (h : H) (k : Int → H → Prop) : Prop :=
ldV a0 h fun v1 =>
c29 v1 ⟨11, 120238284192284577920607607⟩ ⟨7, 27995157100326516⟩ h fun x3 h2 =>
k x3 h2
noncomputable def s28 : AV → H → (Int → H → Prop) → Prop := s28G J0 s29
noncomputable def w28 (c : AV → H → (Int → H → Prop) → Prop) : Fun := fun xs h k => arg xs fun a0 xs => noArg xs <| c a0 h fun r0 h => k (.int .i64 r0) h
theorem s28_eq (J : Joins) (c29 : AV → Str → Str → H → (Int → H → Prop) → Prop) (a0 : AV) (h : H) (k : AV → H → Prop) : denF ty (gam J [(29, w29 c29)]) Tryz.f28 [a0] h k = s28G J c29 a0 h (fun r0 h => k (.int .i64 r0) h) := by kernel_rfl
noncomputable def g28 : Fun := w28 s28
theorem g28_ok : FunOk Tryz.prog 28 g28 := (fun_ok ty_ok mixed (gam_ok (J := J0) (tab_cons g29_ok (tab_nil fls_fun))) Tryz.func28 (fun args w => by simp)).imp fun xs h k e0 => by
  obtain ⟨a0, xs0, rfl, e1⟩ := arg_imp e0
  obtain ⟨rfl, e2⟩ := noArg_imp e1
  exact (s28_eq J0 s29 a0 h k).mpr e2
/-- (*stagepost/vfs.FS).Left -/
noncomputable def s70G (J : Joins) (c40 : AV → AV → H → (Int → H → Prop) → Prop) (c43 : AV → H → (AV → H → Prop) → Prop) (a0 : AV) (h : H) (k : Int → H → Prop) : Prop :=
c40 a0 AV.nils h fun x2 h1 =>
fB (Bool.not (eqI x2 (Int.ofNat 0))) fun b3 =>
br b3 (
k (Int.ofNat 0) h1) (
okNil a0 (
faK 3 a0 fun p4 =>
ldI .i64 p4 h1 fun x5 =>
pushK (.cells false 55 [(.nilm), (.nilm)]) h1 fun n6 h7 =>
c43 a0 h7 fun v9 h8 =>
ck (readsSo (aLoad1 p4 h8) (AV.int .i64 x5)) (
Go.Am.asAgg v9 fun l11 =>
stN 2 (AV.ptr n6 0) l11 h8 fun h10 =>
ck (readsSo (aLoad1 p4 h10) (AV.int .i64 x5)) (
ldV (AV.ptr n6 1) h10 fun v12 =>
aRangeK v12 h10 fun v13 h14 =>
J.lp (α := AV × AV × AV × Unit) (fun r18 v15 d16 h17 =>
aNext v15.2.2.1 h17 fun v19 h20 =>
asTup v19 fun l21 =>
op' (lgetO l21 0) fun v22 =>
asB v22 fun b23 =>
br b23 (
op' (aEntry v15.2.2.1 h20) fun v24 =>
asTup v24 fun l25 =>
op' (lgetO l25 1) fun v26 =>
asI .i64 v26 fun x27 =>
faK 0 v15.1 fun p28 =>
ldV p28 h20 fun v29 =>
op' (aLookup ty 3 60 false v29 (AV.int .i64 x27) h20) fun v30 =>
lenK v30 fun x31 =>
asI .i64 v15.2.1 fun x32 =>
fI (wrapF .i64 (Int.sub x32 (Int.ofNat x31))) fun x33 =>
r18 (v15.1, (AV.int .i64 x33), v15.2.2.1, ()) d16 h20) (
leaveK (gam J [(40, w40 c40), (43, w43 c43)]) d16 h20 fun h34 =>
asI .i64 v15.2.1 fun x35 =>
k x35 h34)) ((AV.ptr n6 0), (AV.int .i64 x5), v13, ()) [] h14))))
noncomputable def s70 : AV → H → (Int → H → Prop) → Prop := s70G J0 s40 s43
noncomputable def w70 (c : AV → H → (Int → H → Prop) → Prop) : Fun := fun xs h k => arg xs fun a0 xs => noArg xs <| c a0 h fun r0 h => k (.int .i64 r0) h
theorem s70_eq (J : Joins) (c40 : AV → AV → H → (Int → H → Prop) → Prop) (c43 : AV → H → (AV → H → Prop) → Prop) (a0 : AV) (h : H) (k : AV → H → Prop) : denF ty (gam J [(40, w40 c40), (43, w43 c43)]) Tryz.f70 [a0] h k = s70G J c40 c43 a0 h (fun r0 h => k (.int .i64 r0) h) := by kernel_rfl
noncomputable def g70 : Fun := w70 s70
theorem g70_ok : FunOk Tryz.prog 70 g70 := (fun_ok ty_ok mixed (gam_ok (J := J0) (tab_cons g40_ok (tab_cons g43_ok (tab_nil fls_fun)))) Tryz.func70 (fun args w => by simp)).imp fun xs h k e0 => by
  obtain ⟨a0, xs0, rfl, e1⟩ := arg_imp e0
  obtain ⟨rfl, e2⟩ := noArg_imp e1
  exact (s70_eq J0 s40 s43 a0 h k).mpr e2
end Go.Proofs.YtdaibgpceldbdaaGreatDoor
