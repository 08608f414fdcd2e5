/- Functions as they are reckoned. MADE BY PROGRAM (wip/tools/shal.py). -/
import Derived.Test.YtiejkbmobmgdkaaAmH44
namespace Go.Proofs.Ytiejkbmobmgdkaa
open Go Go.Am
set_option maxRecDepth 100000
set_option linter.all false
/-- maps.Keys[map[string]int,string,int] -/
noncomputable def s45G (J : Joins) (c53 : AV → AV → H → (H → Prop) → Prop) (a0 : AV) (h : H) (k : AV → H → Prop) : Prop :=
ck (isOne a0) (
pushK (.cells false 55 [a0]) h fun n1 h2 =>
k (AV.func (.func 53) [] [(AV.ptr n1 0)]) h2)
noncomputable def s45 : AV → H → (AV → H → Prop) → Prop := s45G J0 s53
noncomputable def w45 (c : AV → H → (AV → H → Prop) → Prop) : Fun := fun xs h k => arg xs fun a0 xs => noArg xs <| c a0 h fun r0 h => k r0 h
theorem s45_eq (J : Joins) (c53 : AV → AV → H → (H → Prop) → Prop) (a0 : AV) (h : H) (k : AV → H → Prop) : denF ty (gam J [(53, w53 c53)]) Try.f45 [a0] h k = s45G J c53 a0 h (fun r0 h => k r0 h) := by kernel_rfl
noncomputable def g45 : Fun := w45 s45
theorem g45_ok : FunOk Try.prog 45 g45 := (fun_ok ty_ok mixed (gam_ok (J := J0) (tab_cons g53_ok (tab_nil fls_fun))) Try.func45 (fun args w => by simp)).imp fun xs h k e0 => by
  obtain ⟨a0, xs0, rfl, e1⟩ := arg_imp e0
  obtain ⟨rfl, e2⟩ := noArg_imp e1
  exact (s45_eq J0 s53 a0 h k).mpr e2
/-- (*stagepost/vfs.FS).Names -/
noncomputable def s26G (J : Joins) (c34 : AV → AV → H → (Int → H → Prop) → Prop) (c35 : AV → H → (AV → H → Prop) → Prop) (c44 : AV → H → (AV → H → Prop) → Prop) (c45 : AV → H → (AV → H → Prop) → Prop) (a0 : AV) (h : H) (k : AV → H → Prop) : Prop :=
c34 a0 AV.nils h fun x2 h1 =>
fB (Bool.not (eqI x2 (Int.ofNat 0))) fun b3 =>
br b3 (
k AV.nils h1) (
c35 a0 h1 fun v5 h4 =>
Go.Am.asAgg v5 fun l6 =>
op' (lgetO l6 1) fun v7 =>
c45 v7 h4 fun v9 h8 =>
c44 v9 h8 fun v11 h10 =>
k v11 h10)
noncomputable def s26 : AV → H → (AV → H → Prop) → Prop := s26G J0 s34 s35 s44' s45
noncomputable def w26 (c : AV → H → (AV → H → Prop) → Prop) : Fun := fun xs h k => arg xs fun a0 xs => noArg xs <| c a0 h fun r0 h => k r0 h
theorem s26_eq (J : Joins) (c34 : AV → AV → H → (Int → H → Prop) → Prop) (c35 : AV → H → (AV → H → Prop) → Prop) (c44 : AV → H → (AV → H → Prop) → Prop) (c45 : AV → H → (AV → H → Prop) → Prop) (a0 : AV) (h : H) (k : AV → H → Prop) : denF ty (gam J [(34, w34 c34), (35, w35 c35), (44, w44 c44), (45, w45 c45)]) Try.f26 [a0] h k = s26G J c34 c35 c44 c45 a0 h (fun r0 h => k r0 h) := by kernel_rfl
noncomputable def g26 : Fun := w26 s26
theorem g26_ok : FunOk Try.prog 26 g26 := (fun_ok ty_ok mixed (gam_ok (J := J0) (tab_cons g34_ok (tab_cons g35_ok (tab_cons g44'_ok (tab_cons g45_ok (tab_nil fls_fun)))))) Try.func26 (fun args w => by simp)).imp fun xs h k e0 => by
  obtain ⟨a0, xs0, rfl, e1⟩ := arg_imp e0
  obtain ⟨rfl, e2⟩ := noArg_imp e1
  exact (s26_eq J0 s34 s35 s44' s45 a0 h k).mpr e2
/-- stagepost/stagepostlaw04.lives -/
noncomputable def s9G (J : Joins) (c10 : Int → H → (AV → Int → H → Prop) → Prop) (c11 : AV → Str → H → (Int → H → Prop) → Prop) (c14 : AV → Str → H → (Int → H → Prop) → Prop) (c16 : AV → Str → AV → H → (Int → H → Prop) → Prop) (c17 : AV → Int → Int → H → (Int → H → Prop) → Prop) (c19 : AV → H → (Int → H → Prop) → Prop) (c26 : AV → H → (AV → H → Prop) → Prop) (c27 : AV → H → (Int → H → Prop) → Prop) (h : H) (k : Bool → H → Prop) : Prop :=
c10 (Int.ofNat 100) h fun v2 x3 h1 =>
fB (Bool.not (eqI x3 (Int.ofNat 0))) fun b4 =>
J.jn (fun v5 h6 =>
J.jn (fun v8 h9 =>
pickB (AV.bool b4) (AV.bool true) v8 fun b12 =>
J.jn (fun v13 h14 =>
J.jn (fun v16 h17 =>
J.jn (fun v21 h22 =>
pickB (AV.bool b12) (AV.bool true) v21 fun b26 =>
J.jn (fun v27 h28 =>
J.jn (fun v30 h31 =>
J.jn (fun v36 h37 =>
J.jn (fun v41 h42 =>
pickB (AV.bool b26) (AV.bool true) v41 fun b46 =>
J.jn (fun v47 h48 =>
J.jn (fun v50 h51 =>
J.jn (fun v55 h56 =>
pickB (AV.bool b46) (AV.bool true) v55 fun b60 =>
J.jn (fun v61 h62 =>
J.jn (fun v64 h65 =>
J.jn (fun v70 h71 =>
J.jn (fun v75 h76 =>
pickB (AV.bool b60) (AV.bool true) v75 fun b80 =>
br b80 (
k false h76) (
c19 v2 h76 fun x82 h81 =>
fB (eqI x82 (Int.ofNat 3)) fun b83 =>
J.jn (fun v84 h85 =>
J.jn (fun v87 h88 =>
J.jn (fun v92 h93 =>
pickB (AV.bool b83) v92 (AV.bool false) fun b97 =>
J.jn (fun v98 h99 =>
J.jn (fun v101 h102 =>
J.jn (fun v106 h107 =>
pickB (AV.bool b97) v106 (AV.bool false) fun b111 =>
J.jn (fun v112 h113 =>
J.jn (fun v115 h116 =>
J.jn (fun v120 h121 =>
pickB (AV.bool b111) v120 (AV.bool false) fun b125 =>
J.jn (fun v126 h127 =>
J.jn (fun v129 h130 =>
J.jn (fun v134 h135 =>
J.jn (fun v138 h139 =>
pickB (AV.bool b125) v138 (AV.bool false) fun b143 =>
k b143 h139) fun j140 =>
br b125 (
asI .i64 v134 fun x141 =>
fB (eqI x141 (Int.ofNat 0)) fun b142 =>
j140 (AV.bool b142) h135) (
j140 skipV h135)) fun j136 =>
br b125 (
lenK v129 fun x137 =>
j136 (AV.int .i64 (Int.ofNat x137)) h130) (
j136 skipV h130)) fun j131 =>
br b125 (
c26 v126 h127 fun v133 h132 =>
j131 v133 h132) (
j131 skipV h127)) fun j128 =>
br b125 (
j128 v2 h121) (
j128 skipV h121)) fun j122 =>
br b111 (
asI .i64 v115 fun x123 =>
fB (eqI x123 (Int.ofNat 0)) fun b124 =>
j122 (AV.bool b124) h116) (
j122 skipV h116)) fun j117 =>
br b111 (
c17 v112 (Int.ofNat 0) (Int.ofNat 0) h113 fun x119 h118 =>
j117 (AV.int .i64 x119) h118) (
j117 skipV h113)) fun j114 =>
br b111 (
j114 v2 h107) (
j114 skipV h107)) fun j108 =>
br b97 (
asI .i64 v101 fun x109 =>
fB (eqI x109 (Int.ofNat 1)) fun b110 =>
j108 (AV.bool b110) h102) (
j108 skipV h102)) fun j103 =>
br b97 (
c19 v98 h99 fun x105 h104 =>
j103 (AV.int .i64 x105) h104) (
j103 skipV h99)) fun j100 =>
br b97 (
j100 v2 h93) (
j100 skipV h93)) fun j94 =>
br b83 (
asI .i64 v87 fun x95 =>
fB (eqI x95 (Int.ofNat 0)) fun b96 =>
j94 (AV.bool b96) h88) (
j94 skipV h88)) fun j89 =>
br b83 (
c14 v84 ⟨1, 97⟩ h85 fun x91 h90 =>
j89 (AV.int .i64 x91) h90) (
j89 skipV h85)) fun j86 =>
br b83 (
j86 v2 h81) (
j86 skipV h81))) fun j77 =>
br b60 (
j77 skipV h71) (
asI .i64 v70 fun x78 =>
fB (Bool.not (eqI x78 (Int.ofNat 8))) fun b79 =>
j77 (AV.bool b79) h71)) fun j72 =>
br b60 (
j72 skipV h65) (
c16 v61 ⟨1, 97⟩ v64 h65 fun x74 h73 =>
j72 (AV.int .i64 x74) h73)) fun j66 =>
br b60 (
j66 skipV h62) (
op' (aMakeSl ty 5 (AV.int .i64 (Int.ofNat 31)) (AV.int .i64 (Int.ofNat 31))) fun k67 =>
pushK k67.1 h62 fun n68 h69 =>
j66 (k67.2 n68) h69)) fun j63 =>
br b60 (
j63 skipV h56) (
j63 v2 h56)) fun j57 =>
br b46 (
j57 skipV h51) (
asI .i64 v50 fun x58 =>
fB (Bool.not (eqI x58 (Int.ofNat 30))) fun b59 =>
j57 (AV.bool b59) h51)) fun j52 =>
br b46 (
j52 skipV h48) (
c27 v47 h48 fun x54 h53 =>
j52 (AV.int .i64 x54) h53)) fun j49 =>
br b46 (
j49 skipV h42) (
j49 v2 h42)) fun j43 =>
br b26 (
j43 skipV h37) (
asI .i64 v36 fun x44 =>
fB (Bool.not (eqI x44 (Int.ofNat 0))) fun b45 =>
j43 (AV.bool b45) h37)) fun j38 =>
br b26 (
j38 skipV h31) (
c16 v27 ⟨1, 97⟩ v30 h31 fun x40 h39 =>
j38 (AV.int .i64 x40) h39)) fun j32 =>
br b26 (
j32 skipV h28) (
op' (aMakeSl ty 5 (AV.int .i64 (Int.ofNat 70)) (AV.int .i64 (Int.ofNat 70))) fun k33 =>
pushK k33.1 h28 fun n34 h35 =>
j32 (k33.2 n34) h35)) fun j29 =>
br b26 (
j29 skipV h22) (
j29 v2 h22)) fun j23 =>
br b12 (
j23 skipV h17) (
asI .i64 v16 fun x24 =>
fB (Bool.not (eqI x24 (Int.ofNat 0))) fun b25 =>
j23 (AV.bool b25) h17)) fun j18 =>
br b12 (
j18 skipV h14) (
c11 v13 ⟨1, 97⟩ h14 fun x20 h19 =>
j18 (AV.int .i64 x20) h19)) fun j15 =>
br b12 (
j15 skipV h9) (
j15 v2 h9)) fun j10 =>
br b4 (
j10 skipV h6) (
nilB 0 v5 fun b11 =>
j10 (AV.bool b11) h6)) fun j7 =>
br b4 (
j7 skipV h1) (
j7 v2 h1)
noncomputable def s9 : H → (Bool → H → Prop) → Prop := s9G J0 s10 s11 s14 s16 s17' s19 s26 s27'
noncomputable def w9 (c : H → (Bool → H → Prop) → Prop) : Fun := fun xs h k => noArg xs <| c  h fun r0 h => k (.bool r0) h
theorem s9_eq (J : Joins) (c10 : Int → H → (AV → Int → H → Prop) → Prop) (c11 : AV → Str → H → (Int → H → Prop) → Prop) (c14 : AV → Str → H → (Int → H → Prop) → Prop) (c16 : AV → Str → AV → H → (Int → H → Prop) → Prop) (c17 : AV → Int → Int → H → (Int → H → Prop) → Prop) (c19 : AV → H → (Int → H → Prop) → Prop) (c26 : AV → H → (AV → H → Prop) → Prop) (c27 : AV → H → (Int → H → Prop) → Prop)  (h : H) (k : AV → H → Prop) : denF ty (gam J [(10, w10 c10), (11, w11 c11), (14, w14 c14), (16, w16 c16), (17, w17 c17), (19, w19 c19), (26, w26 c26), (27, w27 c27)]) Try.f9 [] h k = s9G J c10 c11 c14 c16 c17 c19 c26 c27  h (fun r0 h => k (.bool r0) h) := by kernel_rfl
noncomputable def g9 : Fun := w9 s9
theorem g9_ok : FunOk Try.prog 9 g9 := (fun_ok ty_ok mixed (gam_ok (J := J0) (tab_cons g10_ok (tab_cons g11_ok (tab_cons g14_ok (tab_cons g16_ok (tab_cons g17'_ok (tab_cons g19_ok (tab_cons g26_ok (tab_cons g27'_ok (tab_nil fls_fun)))))))))) Try.func9 (fun args w => by simp)).imp fun xs h k e0 => by
  obtain ⟨rfl, e1⟩ := noArg_imp e0
  exact (s9_eq J0 s10 s11 s14 s16 s17' s19 s26 s27'  h k).mpr e1
/-- (*stagepost/vfs.FS).SyncNames -/
noncomputable def s12G (J : Joins) (c34 : AV → AV → H → (Int → H → Prop) → Prop) (c37 : AV → AV → H → (Int → H → Prop) → Prop) (c38 : AV → H → (Bool → H → Prop) → Prop) (a0 : AV) (h : H) (k : Int → H → Prop) : Prop :=
c34 a0 AV.nils h fun x2 h1 =>
fB (Bool.not (eqI x2 (Int.ofNat 0))) fun b3 =>
br b3 (
k x2 h1) (
c37 a0 (AV.func (.func 38) [] []) h1 fun x5 h4 =>
k x5 h4)
noncomputable def s12 : AV → H → (Int → H → Prop) → Prop := s12G J0 s34 s37 s38
noncomputable def w12 (c : AV → H → (Int → H → Prop) → Prop) : Fun := fun xs h k => arg xs fun a0 xs => noArg xs <| c a0 h fun r0 h => k (.int .i64 r0) h
theorem s12_eq (J : Joins) (c34 : AV → AV → H → (Int → H → Prop) → Prop) (c37 : AV → AV → H → (Int → H → Prop) → Prop) (c38 : AV → H → (Bool → H → Prop) → Prop) (a0 : AV) (h : H) (k : AV → H → Prop) : denF ty (gam J [(34, w34 c34), (37, w37 c37), (38, w38 c38)]) Try.f12 [a0] h k = s12G J c34 c37 c38 a0 h (fun r0 h => k (.int .i64 r0) h) := by kernel_rfl
noncomputable def g12 : Fun := w12 s12
theorem g12_ok : FunOk Try.prog 12 g12 := (fun_ok ty_ok mixed (gam_ok (J := J0) (tab_cons g34_ok (tab_cons g37_ok (tab_cons g38_ok (tab_nil fls_fun))))) Try.func12 (fun args w => by simp)).imp fun xs h k e0 => by
  obtain ⟨a0, xs0, rfl, e1⟩ := arg_imp e0
  obtain ⟨rfl, e2⟩ := noArg_imp e1
  exact (s12_eq J0 s34 s37 s38 a0 h k).mpr e2
/-- (*stagepost/vfs.FS).Fuse -/
noncomputable def s13G (J : Joins) (c34 : AV → AV → H → (Int → H → Prop) → Prop) (a0 : AV) (a1 : Int) (h : H) (k : Int → H → Prop) : Prop :=
c34 a0 AV.nils h fun x2 h1 =>
fB (Bool.not (eqI x2 (Int.ofNat 0))) fun b3 =>
br b3 (
k x2 h1) (
fB (ltI a1 (Int.ofNat 0)) fun b4 =>
br b4 (
k (Int.ofNat 2) h1) (
okNil a0 (
faK 6 a0 fun p5 =>
stV p5 (AV.bool true) h1 fun h6 =>
okNil a0 (
faK 7 a0 fun p7 =>
stV p7 (AV.int .i64 a1) h6 fun h8 =>
k (Int.ofNat 0) h8))))
noncomputable def s13 : AV → Int → H → (Int → H → Prop) → Prop := s13G J0 s34
noncomputable def w13 (c : AV → Int → H → (Int → H → Prop) → Prop) : Fun := fun xs h k => arg xs fun a0 xs => arg xs fun a1 xs => noArg xs <| asI .i64 a1 fun a1 => c a0 a1 h fun r0 h => k (.int .i64 r0) h
noncomputable def g13 : Fun := w13 s13
/-- stagepost/stagepostkit.CopyBytes -/
noncomputable def s15G (J : Joins) (a0 : AV) (h : H) (k : AV → H → Prop) : Prop :=
op' (asRow true 5 []) fun k3 =>
pushK k3 h fun n1 h2 =>
apB (.slice 5) 5 (AV.slice n1 0 0 0 1 true) a0 h2 fun v4 h5 =>
k v4 h5
noncomputable def s15 : AV → H → (AV → H → Prop) → Prop := s15G J0 
noncomputable def w15 (c : AV → H → (AV → H → Prop) → Prop) : Fun := fun xs h k => arg xs fun a0 xs => noArg xs <| c a0 h fun r0 h => k r0 h
noncomputable def g15 : Fun := w15 s15
/-- (*stagepost/vfs.FS).On -/
noncomputable def s18G (J : Joins) (c34 : AV → AV → H → (Int → H → Prop) → Prop) (a0 : AV) (h : H) (k : Bool → H → Prop) : Prop :=
c34 a0 AV.nils h fun x2 h1 =>
fB (eqI x2 (Int.ofNat 0)) fun b3 =>
k b3 h1
noncomputable def s18 : AV → H → (Bool → H → Prop) → Prop := s18G J0 s34
noncomputable def w18 (c : AV → H → (Bool → H → Prop) → Prop) : Fun := fun xs h k => arg xs fun a0 xs => noArg xs <| c a0 h fun r0 h => k (.bool r0) h
/-- (*stagepost/vfs.FS).Read -/
noncomputable def s20G (J : Joins) (c35 : AV → H → (AV → H → Prop) → Prop) (c39 : AV → Str → H → (Int → Int → H → Prop) → Prop) (c42 : AV → H → (AV → H → Prop) → Prop) (a0 : AV) (a1 : Str) (h : H) (k : AV → Int → H → Prop) : Prop :=
c39 a0 a1 h fun x2 x3 h1 =>
fB (Bool.not (eqI x3 (Int.ofNat 0))) fun b4 =>
br b4 (
k AV.nils x3 h1) (
c35 a0 h1 fun v6 h5 =>
Go.Am.asAgg v6 fun l7 =>
op' (lgetO l7 0) fun v8 =>
op' (aLookup ty 3 31 false v8 (AV.int .i64 x2) h5) fun v9 =>
c42 v9 h5 fun v11 h10 =>
k v11 (Int.ofNat 0) h10)
noncomputable def s20 : AV → Str → H → (AV → Int → H → Prop) → Prop := s20G J0 s35 s39 s42
noncomputable def w20 (c : AV → Str → H → (AV → Int → H → Prop) → Prop) : Fun := fun xs h k => arg xs fun a0 xs => arg xs fun a1 xs => noArg xs <| asS a1 fun a1 => c a0 a1 h fun r0 r1 h => k (.tuple [r0, (.int .i64 r1)]) h
theorem s20_eq (J : Joins) (c35 : AV → H → (AV → H → Prop) → Prop) (c39 : AV → Str → H → (Int → Int → H → Prop) → Prop) (c42 : AV → H → (AV → H → Prop) → Prop) (a0 : AV) (a1 : Str) (h : H) (k : AV → H → Prop) : denF ty (gam J [(35, w35 c35), (39, w39 c39), (42, w42 c42)]) Try.f20 [a0, (.str a1)] h k = s20G J c35 c39 c42 a0 a1 h (fun r0 r1 h => k (.tuple [r0, (.int .i64 r1)]) h) := by kernel_rfl
noncomputable def g20 : Fun := w20 s20
theorem g20_ok : FunOk Try.prog 20 g20 := (fun_ok ty_ok mixed (gam_ok (J := J0) (tab_cons g35_ok (tab_cons g39_ok (tab_cons g42_ok (tab_nil fls_fun))))) Try.func20 (fun args w => by simp)).imp fun xs h k e0 => by
  obtain ⟨a0, xs0, rfl, e1⟩ := arg_imp e0
  obtain ⟨a1, xs1, rfl, e2⟩ := arg_imp e1
  obtain ⟨rfl, e3⟩ := noArg_imp e2
  obtain ⟨a1, rfl, e4⟩ := asS_iff.1 e3
  exact (s20_eq J0 s35 s39 s42 a0 a1 h k).mpr e4
/-- stagepost/stagepostkit.SameBytes -/
noncomputable def s21G (J : Joins) (a0 : AV) (a1 : AV) (h : H) (k : Bool → H → Prop) : Prop :=
lenK a0 fun x1 =>
lenK a1 fun x2 =>
fB (Bool.not (eqI (Int.ofNat x1) (Int.ofNat x2))) fun b3 =>
br b3 (
k false h) (
J.lp (α := AV × AV × AV × Unit) (fun r7 v4 d5 h6 =>
lenK v4.1 fun x8 =>
asI .i64 v4.2.2.1 fun x9 =>
fB (ltI x9 (Int.ofNat x8)) fun b10 =>
br b10 (
ixK 1 v4.1 v4.2.2.1 fun p11 =>
ldI .u8 p11 h6 fun x12 =>
ixK 1 v4.2.1 v4.2.2.1 fun p13 =>
ldI .u8 p13 h6 fun x14 =>
fB (Bool.not (eqI x12 x14)) fun b15 =>
br b15 (
leaveK (gam J []) d5 h6 fun h16 =>
k false h16) (
asI .i64 v4.2.2.1 fun x17 =>
fI (wrapF .i64 (Int.add x17 (Int.ofNat 1))) fun x18 =>
r7 (v4.1, v4.2.1, (AV.int .i64 x18), ()) d5 h6)) (
leaveK (gam J []) d5 h6 fun h19 =>
k true h19)) (a0, a1, (AV.int .i64 (Int.ofNat 0)), ()) [] h)
noncomputable def s21 : AV → AV → H → (Bool → H → Prop) → Prop := s21G J0 
noncomputable def w21 (c : AV → AV → H → (Bool → H → Prop) → Prop) : Fun := fun xs h k => arg xs fun a0 xs => arg xs fun a1 xs => noArg xs <| c a0 a1 h fun r0 h => k (.bool r0) h
/-- stagepost/stagepostlaw04.VfsSynced -/
noncomputable def s3G (J : Joins) (c9 : H → (Bool → H → Prop) → Prop) (c10 : Int → H → (AV → Int → H → Prop) → Prop) (c11 : AV → Str → H → (Int → H → Prop) → Prop) (c12 : AV → H → (Int → H → Prop) → Prop) (c13 : AV → Int → H → (Int → H → Prop) → Prop) (c14 : AV → Str → H → (Int → H → Prop) → Prop) (c15 : AV → H → (AV → H → Prop) → Prop) (c16 : AV → Str → AV → H → (Int → H → Prop) → Prop) (c17 : AV → Int → Int → H → (Int → H → Prop) → Prop) (c18 : AV → H → (Bool → H → Prop) → Prop) (c19 : AV → H → (Int → H → Prop) → Prop) (c20 : AV → Str → H → (AV → Int → H → Prop) → Prop) (c21 : AV → AV → H → (Bool → H → Prop) → Prop) (a0 : AV) (a1 : Int) (a2 : Int) (a3 : Int) (h : H) (k : Bool → H → Prop) : Prop :=
c9  h fun b2 h1 =>
fB (Bool.not b2) fun b3 =>
br b3 (
k false h1) (
lenK a0 fun x4 =>
fB (ltI (Int.ofNat 100) (Int.ofNat x4)) fun b5 =>
J.jn (fun v6 h7 =>
J.jn (fun v9 h10 =>
pickB (AV.bool b5) (AV.bool true) v9 fun b14 =>
J.jn (fun v15 h16 =>
J.jn (fun v18 h19 =>
pickB (AV.bool b14) (AV.bool true) v18 fun b23 =>
br b23 (
k true h19) (
c10 (Int.ofNat 1048576) h19 fun v25 x26 h24 =>
fB (Bool.not (eqI x26 (Int.ofNat 0))) fun b27 =>
J.jn (fun v28 h29 =>
J.jn (fun v31 h32 =>
J.jn (fun v36 h37 =>
pickB (AV.bool b27) (AV.bool true) v36 fun b41 =>
J.jn (fun v42 h43 =>
J.jn (fun v45 h46 =>
J.jn (fun v50 h51 =>
pickB (AV.bool b41) (AV.bool true) v50 fun b55 =>
br b55 (
k false h51) (
fB (Bool.not (ltI a1 (Int.ofNat 0))) fun b56 =>
J.jn (fun v57 h58 =>
J.jn (fun v60 h61 =>
J.jn (fun v63 h64 =>
J.jn (fun v69 h70 =>
pickB (AV.bool b56) v69 (AV.bool false) fun b74 =>
br b74 (
k false h70) (
J.jd (α := AV × AV × AV × AV × AV × Unit) (fun v75 d76 h77 =>
asI .i64 v75.1 fun x80 =>
asI .i64 v75.2.1 fun x81 =>
c17 v75.2.2.1 x80 x81 h77 fun x82 h79 =>
fB (Bool.not (eqI x82 (Int.ofNat 0))) fun b83 =>
J.jn (fun v84 h85 =>
J.jn (fun v87 h88 =>
J.jn (fun v92 h93 =>
pickB (AV.bool b83) (AV.bool true) v92 fun b97 =>
J.jn (fun v98 h99 =>
J.jn (fun v101 h102 =>
J.jn (fun v106 h107 =>
pickB (AV.bool b97) (AV.bool true) v106 fun b111 =>
br b111 (
leaveK (gam J [(9, w9 c9), (10, w10 c10), (11, w11 c11), (12, w12 c12), (13, w13 c13), (14, w14 c14), (15, w15 c15), (16, w16 c16), (17, w17 c17), (18, w18 c18), (19, w19 c19), (20, w20 c20), (21, w21 c21)]) d76 h107 fun h112 =>
k false h112) (
c20 v75.2.2.1 ⟨3, 7106407⟩ h107 fun v114 x115 h113 =>
fB (Bool.not (eqI x115 (Int.ofNat 0))) fun b116 =>
J.jn (fun v117 h118 =>
J.jn (fun v120 h121 =>
J.jn (fun v124 h125 =>
J.jn (fun v127 h128 =>
J.jn (fun v131 h132 =>
pickB (AV.bool b116) (AV.bool true) v131 fun b137 =>
J.jn (fun v138 h139 =>
J.jn (fun v141 h142 =>
J.jn (fun v145 h146 =>
J.jn (fun v148 h149 =>
J.jn (fun v152 h153 =>
pickB (AV.bool b137) (AV.bool true) v152 fun b158 =>
br b158 (
leaveK (gam J [(9, w9 c9), (10, w10 c10), (11, w11 c11), (12, w12 c12), (13, w13 c13), (14, w14 c14), (15, w15 c15), (16, w16 c16), (17, w17 c17), (18, w18 c18), (19, w19 c19), (20, w20 c20), (21, w21 c21)]) d76 h153 fun h159 =>
k false h159) (
lenK v114 fun x160 =>
slK 1 v75.2.2.2.1 none (some (AV.int .i64 (Int.ofNat x160))) fun v161 =>
c21 v114 v161 h153 fun b163 h162 =>
leaveK (gam J [(9, w9 c9), (10, w10 c10), (11, w11 c11), (12, w12 c12), (13, w13 c13), (14, w14 c14), (15, w15 c15), (16, w16 c16), (17, w17 c17), (18, w18 c18), (19, w19 c19), (20, w20 c20), (21, w21 c21)]) d76 h162 fun h164 =>
k b163 h164)) fun j154 =>
br b137 (
j154 skipV h149) (
asI .i64 v141 fun x155 =>
asI .i64 v148 fun x156 =>
fB (ltI x155 x156) fun b157 =>
j154 (AV.bool b157) h149)) fun j150 =>
br b137 (
j150 skipV h146) (
lenK v145 fun x151 =>
j150 (AV.int .i64 (Int.ofNat x151)) h146)) fun j147 =>
br b137 (
j147 skipV h142) (
j147 v75.2.2.2.2.1 h142)) fun j143 =>
br b137 (
j143 skipV h139) (
lenK v138 fun x144 =>
j143 (AV.int .i64 (Int.ofNat x144)) h139)) fun j140 =>
br b137 (
j140 skipV h132) (
j140 v114 h132)) fun j133 =>
br b116 (
j133 skipV h128) (
asI .i64 v120 fun x134 =>
asI .i64 v127 fun x135 =>
fB (ltI x135 x134) fun b136 =>
j133 (AV.bool b136) h128)) fun j129 =>
br b116 (
j129 skipV h125) (
lenK v124 fun x130 =>
j129 (AV.int .i64 (Int.ofNat x130)) h125)) fun j126 =>
br b116 (
j126 skipV h121) (
j126 v75.2.2.2.1 h121)) fun j122 =>
br b116 (
j122 skipV h118) (
lenK v117 fun x123 =>
j122 (AV.int .i64 (Int.ofNat x123)) h118)) fun j119 =>
br b116 (
j119 skipV h113) (
j119 v114 h113))) fun j108 =>
br b97 (
j108 skipV h102) (
asI .i64 v101 fun x109 =>
fB (Bool.not (eqI x109 (Int.ofNat 0))) fun b110 =>
j108 (AV.bool b110) h102)) fun j103 =>
br b97 (
j103 skipV h99) (
c19 v98 h99 fun x105 h104 =>
j103 (AV.int .i64 x105) h104)) fun j100 =>
br b97 (
j100 skipV h93) (
j100 v75.2.2.1 h93)) fun j94 =>
br b83 (
j94 skipV h88) (
asB v87 fun b95 =>
fB (Bool.not b95) fun b96 =>
j94 (AV.bool b96) h88)) fun j89 =>
br b83 (
j89 skipV h85) (
c18 v84 h85 fun b91 h90 =>
j89 (AV.bool b91) h90)) fun j86 =>
br b83 (
j86 skipV h79) (
j86 v75.2.2.1 h79)) fun j78 =>
J.lp (α := AV × AV × AV × AV × AV × AV × AV × Unit) (fun r168 v165 d166 h167 =>
lenK v165.1 fun x169 =>
asI .i64 v165.2.2.2.2.2.2.1 fun x170 =>
fB (ltI x170 (Int.ofNat x169)) fun b171 =>
br b171 (
J.jd (α := AV × AV × AV × AV × AV × AV × AV × Unit) (fun v172 d173 h174 =>
asI .i64 v172.2.2.2.2.2.2.1 fun x176 =>
fI (wrapF .i64 (Int.add x176 (Int.ofNat 1))) fun x177 =>
r168 (v172.1, v172.2.1, v172.2.2.1, v172.2.2.2.1, v172.2.2.2.2.1, v172.2.2.2.2.2.1, (AV.int .i64 x177), ()) d173 h174) fun j175 =>
ixK 1 v165.1 v165.2.2.2.2.2.2.1 fun p178 =>
ldV p178 h167 fun v179 =>
lenK v179 fun x180 =>
fB (ltI (Int.ofNat 400) (Int.ofNat x180)) fun b181 =>
br b181 (
leaveK (gam J [(9, w9 c9), (10, w10 c10), (11, w11 c11), (12, w12 c12), (13, w13 c13), (14, w14 c14), (15, w15 c15), (16, w16 c16), (17, w17 c17), (18, w18 c18), (19, w19 c19), (20, w20 c20), (21, w21 c21)]) d166 h167 fun h182 =>
k true h182) (
ixK 1 v165.1 v165.2.2.2.2.2.2.1 fun p183 =>
ldV p183 h167 fun v184 =>
lenK v184 fun x185 =>
fB (eqI (Int.ofNat x185) (Int.ofNat 0)) fun b186 =>
br b186 (
c14 v165.2.2.2.1 ⟨3, 7106407⟩ h167 fun x188 h187 =>
fB (Bool.not (eqI x188 (Int.ofNat 0))) fun b189 =>
br b189 (
j78 (v165.2.1, v165.2.2.1, v165.2.2.2.1, v165.2.2.2.2.1, v165.2.2.2.2.2.1, ()) d166 h187) (
c15 v165.2.2.2.2.1 h187 fun v191 h190 =>
j175 (v165.1, v165.2.1, v165.2.2.1, v165.2.2.2.1, v165.2.2.2.2.1, v191, v165.2.2.2.2.2.2.1, ()) d166 h190)) (
ixK 1 v165.1 v165.2.2.2.2.2.2.1 fun p192 =>
ldV p192 h167 fun v193 =>
c15 v165.2.2.2.2.1 h167 fun v195 h194 =>
ck (readsSo (aLoad1 p192 h194) v193) (
apB (.slice 5) 5 v195 v193 h194 fun v196 h197 =>
ixK 1 v165.1 v165.2.2.2.2.2.2.1 fun p198 =>
ldV p198 h197 fun v199 =>
c16 v165.2.2.2.1 ⟨3, 7106407⟩ v199 h197 fun x201 h200 =>
fB (Bool.not (eqI x201 (Int.ofNat 0))) fun b202 =>
br b202 (
j78 (v165.2.1, v165.2.2.1, v165.2.2.2.1, v196, v165.2.2.2.2.2.1, ()) d166 h200) (
j175 (v165.1, v165.2.1, v165.2.2.1, v165.2.2.2.1, v196, v165.2.2.2.2.2.1, v165.2.2.2.2.2.2.1, ()) d166 h200))))) (
j78 (v165.2.1, v165.2.2.1, v165.2.2.2.1, v165.2.2.2.2.1, v165.2.2.2.2.2.1, ()) d166 h167)) (a0, (AV.int .i64 a2), (AV.int .i64 a3), v25, AV.nils, AV.nils, (AV.int .i64 (Int.ofNat 0)), ()) [] h70)) fun j71 =>
br b56 (
asI .i64 v63 fun x72 =>
fB (Bool.not (eqI x72 (Int.ofNat 0))) fun b73 =>
j71 (AV.bool b73) h64) (
j71 skipV h64)) fun j65 =>
br b56 (
asI .i64 v60 fun x67 =>
c13 v57 x67 h61 fun x68 h66 =>
j65 (AV.int .i64 x68) h66) (
j65 skipV h61)) fun j62 =>
br b56 (
j62 (AV.int .i64 a1) h58) (
j62 skipV h58)) fun j59 =>
br b56 (
j59 v25 h51) (
j59 skipV h51))) fun j52 =>
br b41 (
j52 skipV h46) (
asI .i64 v45 fun x53 =>
fB (Bool.not (eqI x53 (Int.ofNat 0))) fun b54 =>
j52 (AV.bool b54) h46)) fun j47 =>
br b41 (
j47 skipV h43) (
c12 v42 h43 fun x49 h48 =>
j47 (AV.int .i64 x49) h48)) fun j44 =>
br b41 (
j44 skipV h37) (
j44 v25 h37)) fun j38 =>
br b27 (
j38 skipV h32) (
asI .i64 v31 fun x39 =>
fB (Bool.not (eqI x39 (Int.ofNat 0))) fun b40 =>
j38 (AV.bool b40) h32)) fun j33 =>
br b27 (
j33 skipV h29) (
c11 v28 ⟨3, 7106407⟩ h29 fun x35 h34 =>
j33 (AV.int .i64 x35) h34)) fun j30 =>
br b27 (
j30 skipV h24) (
j30 v25 h24))) fun j20 =>
br b14 (
j20 skipV h16) (
asI .i64 v15 fun x21 =>
fB (ltI x21 (Int.ofNat 0)) fun b22 =>
j20 (AV.bool b22) h16)) fun j17 =>
br b14 (
j17 skipV h10) (
j17 (AV.int .i64 a3) h10)) fun j11 =>
br b5 (
j11 skipV h7) (
asI .i64 v6 fun x12 =>
fB (ltI x12 (Int.ofNat 0)) fun b13 =>
j11 (AV.bool b13) h7)) fun j8 =>
br b5 (
j8 skipV h1) (
j8 (AV.int .i64 a2) h1))
noncomputable def s3 : AV → Int → Int → Int → H → (Bool → H → Prop) → Prop := s3G J0 s9 s10 s11 s12 s13 s14 s15 s16 s17' s18 s19 s20 s21
noncomputable def w3 (c : AV → Int → Int → Int → H → (Bool → H → Prop) → Prop) : Fun := fun xs h k => arg xs fun a0 xs => arg xs fun a1 xs => arg xs fun a2 xs => arg xs fun a3 xs => noArg xs <| asI .i64 a1 fun a1 => asI .i64 a2 fun a2 => asI .i64 a3 fun a3 => c a0 a1 a2 a3 h fun r0 h => k (.bool r0) h
noncomputable def g3 : Fun := w3 s3
/-- stagepost/stagepostkit.Pick -/
noncomputable def s22G (J : Joins) (a0 : Int) (a1 : Int) (h : H) (k : Int → H → Prop) : Prop :=
ck (Bool.not (eqI a1 0)) (fI (Int.tmod a0 a1) fun x1 =>
J.jd (α := AV × Unit) (fun v2 d3 h4 =>
leaveK (gam J []) d3 h4 fun h6 =>
asI .i64 v2.1 fun x7 =>
k x7 h6) fun j5 =>
fB (ltI x1 (Int.ofNat 0)) fun b8 =>
br b8 (
fI (wrapF .i64 (Int.add x1 a1)) fun x9 =>
j5 ((AV.int .i64 x9), ()) [] h) (
j5 ((AV.int .i64 x1), ()) [] h))
noncomputable def s22 : Int → Int → H → (Int → H → Prop) → Prop := s22G J0 
noncomputable def w22 (c : Int → Int → H → (Int → H → Prop) → Prop) : Fun := fun xs h k => arg xs fun a0 xs => arg xs fun a1 xs => noArg xs <| asI .i64 a0 fun a0 => asI .i64 a1 fun a1 => c a0 a1 h fun r0 h => k (.int .i64 r0) h
theorem s22_eq (J : Joins) (a0 : Int) (a1 : Int) (h : H) (k : AV → H → Prop) : denF ty (gam J []) Try.f22 [(.int .i64 a0), (.int .i64 a1)] h k = s22G J  a0 a1 h (fun r0 h => k (.int .i64 r0) h) := by kernel_rfl
noncomputable def g22 : Fun := w22 s22
theorem g22_ok : FunOk Try.prog 22 g22 := (fun_ok ty_ok mixed (gam_ok (J := J0) (tab_nil fls_fun)) Try.func22 (fun args w => by simp)).imp fun xs h k e0 => by
  obtain ⟨a0, xs0, rfl, e1⟩ := arg_imp e0
  obtain ⟨a1, xs1, rfl, e2⟩ := arg_imp e1
  obtain ⟨rfl, e3⟩ := noArg_imp e2
  obtain ⟨a0, rfl, e4⟩ := asI_iff.1 e3
  obtain ⟨a1, rfl, e5⟩ := asI_iff.1 e4
  exact (s22_eq J0  a0 a1 h k).mpr e5
/-- stagepost/stagepostlaw04.small -/
noncomputable def s23G (J : Joins) (a0 : AV) (h : H) (k : Bool → H → Prop) : Prop :=
J.lp (α := AV × AV × Unit) (fun r4 v1 d2 h3 =>
lenK v1.1 fun x5 =>
asI .i64 v1.2.1 fun x6 =>
fB (ltI x6 (Int.ofNat x5)) fun b7 =>
br b7 (
ixK 6 v1.1 v1.2.1 fun p8 =>
faK 5 p8 fun p9 =>
ldV p9 h3 fun v10 =>
lenK v10 fun x11 =>
fB (ltI (Int.ofNat 400) (Int.ofNat x11)) fun b12 =>
J.jn (fun v13 h14 =>
J.jn (fun v16 h17 =>
J.jn (fun v19 h20 =>
J.jn (fun v23 h24 =>
J.jn (fun v27 h28 =>
J.jn (fun v31 h32 =>
J.jn (fun v35 h36 =>
pickB (AV.bool b12) (AV.bool true) v35 fun b40 =>
J.jn (fun v41 h42 =>
J.jn (fun v44 h45 =>
J.jn (fun v47 h48 =>
J.jn (fun v51 h52 =>
J.jn (fun v55 h56 =>
J.jn (fun v59 h60 =>
J.jn (fun v63 h64 =>
pickB (AV.bool b40) (AV.bool true) v63 fun b68 =>
br b68 (
leaveK (gam J []) d2 h64 fun h69 =>
k false h69) (
asI .i64 v1.2.1 fun x70 =>
fI (wrapF .i64 (Int.add x70 (Int.ofNat 1))) fun x71 =>
r4 (v1.1, (AV.int .i64 x71), ()) d2 h64)) fun j65 =>
br b40 (
j65 skipV h60) (
asI .i64 v59 fun x66 =>
fB (ltI (Int.ofNat 400) x66) fun b67 =>
j65 (AV.bool b67) h60)) fun j61 =>
br b40 (
j61 skipV h56) (
asS v55 fun s62 =>
j61 (AV.int .i64 (Int.ofNat s62.len)) h56)) fun j57 =>
br b40 (
j57 skipV h52) (
ldS v51 h52 fun s58 =>
j57 (AV.str s58) h52)) fun j53 =>
br b40 (
j53 skipV h48) (
faK 2 v47 fun p54 =>
j53 p54 h48)) fun j49 =>
br b40 (
j49 skipV h45) (
ixK 6 v41 v44 fun p50 =>
j49 p50 h45)) fun j46 =>
br b40 (
j46 skipV h42) (
j46 v1.2.1 h42)) fun j43 =>
br b40 (
j43 skipV h36) (
j43 v1.1 h36)) fun j37 =>
br b12 (
j37 skipV h32) (
asI .i64 v31 fun x38 =>
fB (ltI (Int.ofNat 400) x38) fun b39 =>
j37 (AV.bool b39) h32)) fun j33 =>
br b12 (
j33 skipV h28) (
asS v27 fun s34 =>
j33 (AV.int .i64 (Int.ofNat s34.len)) h28)) fun j29 =>
br b12 (
j29 skipV h24) (
ldS v23 h24 fun s30 =>
j29 (AV.str s30) h24)) fun j25 =>
br b12 (
j25 skipV h20) (
faK 1 v19 fun p26 =>
j25 p26 h20)) fun j21 =>
br b12 (
j21 skipV h17) (
ixK 6 v13 v16 fun p22 =>
j21 p22 h17)) fun j18 =>
br b12 (
j18 skipV h14) (
j18 v1.2.1 h14)) fun j15 =>
br b12 (
j15 skipV h3) (
j15 v1.1 h3)) (
lenK v1.1 fun x72 =>
fB (Bool.not (ltI (Int.ofNat 100) (Int.ofNat x72))) fun b73 =>
leaveK (gam J []) d2 h3 fun h74 =>
k b73 h74)) (a0, (AV.int .i64 (Int.ofNat 0)), ()) [] h
noncomputable def s23 : AV → H → (Bool → H → Prop) → Prop := s23G J0 
noncomputable def w23 (c : AV → H → (Bool → H → Prop) → Prop) : Fun := fun xs h k => arg xs fun a0 xs => noArg xs <| c a0 h fun r0 h => k (.bool r0) h
theorem s23_eq (J : Joins) (a0 : AV) (h : H) (k : AV → H → Prop) : denF ty (gam J []) Try.f23 [a0] h k = s23G J  a0 h (fun r0 h => k (.bool r0) h) := by kernel_rfl
noncomputable def g23 : Fun := w23 s23
theorem g23_ok : FunOk Try.prog 23 g23 := (fun_ok ty_ok mixed (gam_ok (J := J0) (tab_nil fls_fun)) Try.func23 (fun args w => by simp)).imp fun xs h k e0 => by
  obtain ⟨a0, xs0, rfl, e1⟩ := arg_imp e0
  obtain ⟨rfl, e2⟩ := noArg_imp e1
  exact (s23_eq J0  a0 h k).mpr e2
/-- (*stagepost/vfs.FS).Rename -/
noncomputable def s24G (J : Joins) (c34 : AV → AV → H → (Int → H → Prop) → Prop) (c36 : AV → AV → H → (Int → H → Prop) → Prop) (c39 : AV → Str → H → (Int → Int → H → Prop) → Prop) (a0 : AV) (a1 : Str) (a2 : Str) (h : H) (k : Int → H → Prop) : Prop :=
pushK (.cells false 9 [(AV.str a1), (AV.str a2)]) h fun n1 h2 =>
c34 a0 (AV.slice n1 0 2 2 1 true) h2 fun x4 h3 =>
fB (Bool.not (eqI x4 (Int.ofNat 0))) fun b5 =>
br b5 (
k x4 h3) (
c39 a0 a1 h3 fun x7 x8 h6 =>
fB (Bool.not (eqI x8 (Int.ofNat 0))) fun b9 =>
br b9 (
k x8 h6) (
c36 a0 (AV.agg [(AV.int .i64 (Int.ofNat 2)), (AV.str a1), (AV.str a2), (.int .i64 0), (.nils)]) h6 fun x11 h10 =>
k x11 h10))
noncomputable def s24 : AV → Str → Str → H → (Int → H → Prop) → Prop := s24G J0 s34 s36 s39
noncomputable def w24 (c : AV → Str → Str → H → (Int → H → Prop) → Prop) : Fun := fun xs h k => arg xs fun a0 xs => arg xs fun a1 xs => arg xs fun a2 xs => noArg xs <| asS a1 fun a1 => asS a2 fun a2 => c a0 a1 a2 h fun r0 h => k (.int .i64 r0) h
theorem s24_eq (J : Joins) (c34 : AV → AV → H → (Int → H → Prop) → Prop) (c36 : AV → AV → H → (Int → H → Prop) → Prop) (c39 : AV → Str → H → (Int → Int → H → Prop) → Prop) (a0 : AV) (a1 : Str) (a2 : Str) (h : H) (k : AV → H → Prop) : denF ty (gam J [(34, w34 c34), (36, w36 c36), (39, w39 c39)]) Try.f24 [a0, (.str a1), (.str a2)] h k = s24G J c34 c36 c39 a0 a1 a2 h (fun r0 h => k (.int .i64 r0) h) := by kernel_rfl
noncomputable def g24 : Fun := w24 s24
theorem g24_ok : FunOk Try.prog 24 g24 := (fun_ok ty_ok mixed (gam_ok (J := J0) (tab_cons g34_ok (tab_cons g36_ok (tab_cons g39_ok (tab_nil fls_fun))))) Try.func24 (fun args w => by simp)).imp fun xs h k e0 => by
  obtain ⟨a0, xs0, rfl, e1⟩ := arg_imp e0
  obtain ⟨a1, xs1, rfl, e2⟩ := arg_imp e1
  obtain ⟨a2, xs2, rfl, e3⟩ := arg_imp e2
  obtain ⟨rfl, e4⟩ := noArg_imp e3
  obtain ⟨a1, rfl, e5⟩ := asS_iff.1 e4
  obtain ⟨a2, rfl, e6⟩ := asS_iff.1 e5
  exact (s24_eq J0 s34 s36 s39 a0 a1 a2 h k).mpr e6
/-- (*stagepost/vfs.FS).Remove -/
noncomputable def s25G (J : Joins) (c36 : AV → AV → H → (Int → H → Prop) → Prop) (c39 : AV → Str → H → (Int → Int → H → Prop) → Prop) (a0 : AV) (a1 : Str) (h : H) (k : Int → H → Prop) : Prop :=
c39 a0 a1 h fun x2 x3 h1 =>
fB (Bool.not (eqI x3 (Int.ofNat 0))) fun b4 =>
br b4 (
k x3 h1) (
c36 a0 (AV.agg [(AV.int .i64 (Int.ofNat 3)), (AV.str a1), (.str ⟨0, 0⟩), (.int .i64 0), (.nils)]) h1 fun x6 h5 =>
k x6 h5)
noncomputable def s25 : AV → Str → H → (Int → H → Prop) → Prop := s25G J0 s36 s39
noncomputable def w25 (c : AV → Str → H → (Int → H → Prop) → Prop) : Fun := fun xs h k => arg xs fun a0 xs => arg xs fun a1 xs => noArg xs <| asS a1 fun a1 => c a0 a1 h fun r0 h => k (.int .i64 r0) h
theorem s25_eq (J : Joins) (c36 : AV → AV → H → (Int → H → Prop) → Prop) (c39 : AV → Str → H → (Int → Int → H → Prop) → Prop) (a0 : AV) (a1 : Str) (h : H) (k : AV → H → Prop) : denF ty (gam J [(36, w36 c36), (39, w39 c39)]) Try.f25 [a0, (.str a1)] h k = s25G J c36 c39 a0 a1 h (fun r0 h => k (.int .i64 r0) h) := by kernel_rfl
noncomputable def g25 : Fun := w25 s25
theorem g25_ok : FunOk Try.prog 25 g25 := (fun_ok ty_ok mixed (gam_ok (J := J0) (tab_cons g36_ok (tab_cons g39_ok (tab_nil fls_fun)))) Try.func25 (fun args w => by simp)).imp fun xs h k e0 => by
  obtain ⟨a0, xs0, rfl, e1⟩ := arg_imp e0
  obtain ⟨a1, xs1, rfl, e2⟩ := arg_imp e1
  obtain ⟨rfl, e3⟩ := noArg_imp e2
  obtain ⟨a1, rfl, e4⟩ := asS_iff.1 e3
  exact (s25_eq J0 s36 s39 a0 a1 h k).mpr e4
/-- stagepost/stagepostlaw04.VfsRoom -/
noncomputable def s4G (J : Joins) (c9 : H → (Bool → H → Prop) → Prop) (c10 : Int → H → (AV → Int → H → Prop) → Prop) (c11 : AV → Str → H → (Int → H → Prop) → Prop) (c12 : AV → H → (Int → H → Prop) → Prop) (c14 : AV → Str → H → (Int → H → Prop) → Prop) (c16 : AV → Str → AV → H → (Int → H → Prop) → Prop) (c17 : AV → Int → Int → H → (Int → H → Prop) → Prop) (c20 : AV → Str → H → (AV → Int → H → Prop) → Prop) (c22 : Int → Int → H → (Int → H → Prop) → Prop) (c23 : AV → H → (Bool → H → Prop) → Prop) (c24 : AV → Str → Str → H → (Int → H → Prop) → Prop) (c25 : AV → Str → H → (Int → H → Prop) → Prop) (c26 : AV → H → (AV → H → Prop) → Prop) (c27 : AV → H → (Int → H → Prop) → Prop) (a0 : Int) (a1 : AV) (h : H) (k : Bool → H → Prop) : Prop :=
c9  h fun b2 h1 =>
fB (Bool.not b2) fun b3 =>
br b3 (
k false h1) (
c22 a0 (Int.ofNat 2000) h1 fun x5 h4 =>
c10 x5 h4 fun v7 x8 h6 =>
fB (Bool.not (eqI x8 (Int.ofNat 0))) fun b9 =>
br b9 (
k false h6) (
c23 a1 h6 fun b11 h10 =>
fB (Bool.not b11) fun b12 =>
br b12 (
k true h10) (
J.lp (α := AV × AV × AV × AV × Unit) (fun r16 v13 d14 h15 =>
lenK v13.2.1 fun x17 =>
asI .i64 v13.2.2.2.1 fun x18 =>
fB (ltI x18 (Int.ofNat x17)) fun b19 =>
br b19 (
ixK 6 v13.2.1 v13.2.2.2.1 fun p20 =>
ldN 6 p20 h15 fun l21 =>
pushK (.cells false 44 [(.int .i64 0), (.str ⟨0, 0⟩), (.str ⟨0, 0⟩), (.int .i64 0), (.int .i64 0), (.nils)]) h15 fun n22 h23 =>
stN 6 (AV.ptr n22 0) l21 h23 fun h24 =>
J.jd (α := AV × AV × AV × AV × AV × Unit) (fun v25 d26 h27 =>
c26 v25.2.2.1 h27 fun v30 h29 =>
J.lp (α := AV × AV × AV × AV × AV × AV × AV × AV × Unit) (fun r34 v31 d32 h33 =>
lenK v31.2.2.2.2.2.2.1 fun x35 =>
asI .i64 v31.2.2.2.2.2.2.2.1 fun x36 =>
fB (ltI x36 (Int.ofNat x35)) fun b37 =>
br b37 (
ixK 1 v31.2.2.2.2.2.2.1 v31.2.2.2.2.2.2.2.1 fun p38 =>
ldS p38 h33 fun s39 =>
c20 v31.2.2.1 s39 h33 fun v41 x42 h40 =>
fB (Bool.not (eqI x42 (Int.ofNat 0))) fun b43 =>
J.jn (fun v44 h45 =>
J.jn (fun v47 h48 =>
J.jn (fun v52 h53 =>
J.jn (fun v55 h56 =>
J.jn (fun v58 h59 =>
J.jn (fun v61 h62 =>
J.jb (fun b65 v66 =>
J.jn (fun v69 h70 =>
J.jn (fun v72 h73 =>
J.jn (fun v75 h76 =>
J.jn (fun v80 h81 =>
J.jb (fun b84 v85 =>
J.jn (fun v88 h89 =>
J.jn (fun v94 h95 =>
pickB (AV.bool b43) (AV.bool true) v94 fun b98 =>
br b98 (
leaveK (gam J [(9, w9 c9), (10, w10 c10), (11, w11 c11), (12, w12 c12), (14, w14 c14), (16, w16 c16), (17, w17 c17), (20, w20 c20), (22, w22 c22), (23, w23 c23), (24, w24 c24), (25, w25 c25), (26, w26 c26), (27, w27 c27)]) d32 h95 fun h99 =>
k false h99) (
lenK v41 fun x100 =>
asI .i64 v31.2.2.2.2.2.1 fun x101 =>
fI (wrapF .i64 (Int.sub x101 (Int.ofNat x100))) fun x102 =>
asI .i64 v31.2.2.2.2.2.2.2.1 fun x103 =>
fI (wrapF .i64 (Int.add x103 (Int.ofNat 1))) fun x104 =>
r34 (v31.1, v31.2.1, v31.2.2.1, v31.2.2.2.1, v31.2.2.2.2.1, (AV.int .i64 x102), v31.2.2.2.2.2.2.1, (AV.int .i64 x104), ()) d32 h95)) fun j96 =>
br b43 (
j96 skipV h89) (
pickB v52 v88 (AV.bool false) fun b97 =>
j96 (AV.bool b97) h89)) fun j90 =>
asBU v52 (fun b105 =>
br b105 (
asS v66 fun s91 =>
asS v85 fun s92 =>
fB (Bool.not (Str.lt s92 s91)) fun b93 =>
j90 (AV.bool b93) h81) (
j90 skipV h81)) (
j90 skipV h81)) fun j86 =>
asBU v52 (fun b106 =>
br b106 (
ldS v80 h81 fun s87 =>
j86 true (AV.str s87)) (
j86 false skipV)) (
j86 false skipV)) fun j82 =>
asBU v52 (fun b107 =>
br b107 (
ixK 1 v69 v75 fun p83 =>
j82 p83 h76) (
j82 skipV h76)) (
j82 skipV h76)) fun j77 =>
asBU v52 (fun b108 =>
br b108 (
asI .i64 v72 fun x78 =>
fI (wrapF .i64 (Int.sub x78 (Int.ofNat 1))) fun x79 =>
j77 (AV.int .i64 x79) h73) (
j77 skipV h73)) (
j77 skipV h73)) fun j74 =>
asBU v52 (fun b109 =>
br b109 (
j74 v31.2.2.2.2.2.2.2.1 h70) (
j74 skipV h70)) (
j74 skipV h70)) fun j71 =>
asBU v52 (fun b110 =>
br b110 (
j71 v31.2.2.2.2.2.2.1 h62) (
j71 skipV h62)) (
j71 skipV h62)) fun j67 =>
asBU v52 (fun b111 =>
br b111 (
ldS v61 h62 fun s68 =>
j67 true (AV.str s68)) (
j67 false skipV)) (
j67 false skipV)) fun j63 =>
asBU v52 (fun b112 =>
br b112 (
ixK 1 v55 v58 fun p64 =>
j63 p64 h59) (
j63 skipV h59)) (
j63 skipV h59)) fun j60 =>
asBU v52 (fun b113 =>
br b113 (
j60 v31.2.2.2.2.2.2.2.1 h56) (
j60 skipV h56)) (
j60 skipV h56)) fun j57 =>
asBU v52 (fun b114 =>
br b114 (
j57 v31.2.2.2.2.2.2.1 h53) (
j57 skipV h53)) (
j57 skipV h53)) fun j54 =>
br b43 (
j54 skipV h48) (
j54 v47 h48)) fun j49 =>
br b43 (
j49 skipV h45) (
asI .i64 v44 fun x50 =>
fB (ltI (Int.ofNat 0) x50) fun b51 =>
j49 (AV.bool b51) h45)) fun j46 =>
br b43 (
j46 skipV h40) (
j46 v31.2.2.2.2.2.2.2.1 h40)) (
c27 v31.2.2.1 h33 fun x116 h115 =>
asI .i64 v31.2.2.2.2.2.1 fun x117 =>
fB (Bool.not (eqI x116 x117)) fun b118 =>
J.jn (fun v119 h120 =>
J.jn (fun v122 h123 =>
J.jn (fun v125 h126 =>
J.jn (fun v128 h129 =>
J.jn (fun v133 h134 =>
pickB (AV.bool b118) (AV.bool true) v133 fun b137 =>
br b137 (
leaveK (gam J [(9, w9 c9), (10, w10 c10), (11, w11 c11), (12, w12 c12), (14, w14 c14), (16, w16 c16), (17, w17 c17), (20, w20 c20), (22, w22 c22), (23, w23 c23), (24, w24 c24), (25, w25 c25), (26, w26 c26), (27, w27 c27)]) d32 h134 fun h138 =>
k false h138) (
asI .i64 v31.2.2.2.1 fun x139 =>
fI (wrapF .i64 (Int.add x139 (Int.ofNat 1))) fun x140 =>
r16 (v31.1, v31.2.1, v31.2.2.1, (AV.int .i64 x140), ()) d32 h134)) fun j135 =>
br b118 (
j135 skipV h129) (
pickB v122 v128 (AV.bool false) fun b136 =>
j135 (AV.bool b136) h129)) fun j130 =>
asBU v122 (fun b141 =>
br b141 (
asI .i64 v125 fun x131 =>
fB (ltI x131 (Int.ofNat 0)) fun b132 =>
j130 (AV.bool b132) h126) (
j130 skipV h126)) (
j130 skipV h126)) fun j127 =>
asBU v122 (fun b142 =>
br b142 (
j127 v31.2.2.2.2.2.1 h123) (
j127 skipV h123)) (
j127 skipV h123)) fun j124 =>
br b118 (
j124 skipV h120) (
j124 v119 h120)) fun j121 =>
br b118 (
j121 skipV h115) (
j121 v31.2.2.2.2.1 h115))) (v25.1, v25.2.1, v25.2.2.1, v25.2.2.2.1, v25.2.2.2.2.1, v25.1, v30, (AV.int .i64 (Int.ofNat 0)), ()) d26 h29) fun j28 =>
ldI .i64 (AV.ptr n22 0) h24 fun x143 =>
c22 x143 (Int.ofNat 7) h24 fun x145 h144 =>
fB (eqI x145 (Int.ofNat 0)) fun b146 =>
br b146 (
ldS (AV.ptr n22 1) h144 fun s147 =>
c11 v13.2.2.1 s147 h144 fun x149 h148 =>
j28 (v13.1, v13.2.1, v13.2.2.1, v13.2.2.2.1, (AV.bool false), ()) d14 h148) (
fB (eqI x145 (Int.ofNat 1)) fun b150 =>
br b150 (
ldS (AV.ptr n22 1) h144 fun s151 =>
ldV (AV.ptr n22 5) h144 fun v152 =>
c16 v13.2.2.1 s151 v152 h144 fun x154 h153 =>
fB (eqI x154 (Int.ofNat 0)) fun b155 =>
j28 (v13.1, v13.2.1, v13.2.2.1, v13.2.2.2.1, (AV.bool b155), ()) d14 h153) (
fB (eqI x145 (Int.ofNat 2)) fun b156 =>
br b156 (
ldS (AV.ptr n22 1) h144 fun s157 =>
ldS (AV.ptr n22 2) h144 fun s158 =>
c24 v13.2.2.1 s157 s158 h144 fun x160 h159 =>
j28 (v13.1, v13.2.1, v13.2.2.1, v13.2.2.2.1, (AV.bool false), ()) d14 h159) (
fB (eqI x145 (Int.ofNat 3)) fun b161 =>
br b161 (
ldS (AV.ptr n22 1) h144 fun s162 =>
c25 v13.2.2.1 s162 h144 fun x164 h163 =>
j28 (v13.1, v13.2.1, v13.2.2.1, v13.2.2.2.1, (AV.bool false), ()) d14 h163) (
fB (eqI x145 (Int.ofNat 4)) fun b165 =>
br b165 (
ldS (AV.ptr n22 1) h144 fun s166 =>
c14 v13.2.2.1 s166 h144 fun x168 h167 =>
j28 (v13.1, v13.2.1, v13.2.2.1, v13.2.2.2.1, (AV.bool false), ()) d14 h167) (
fB (eqI x145 (Int.ofNat 5)) fun b169 =>
br b169 (
c12 v13.2.2.1 h144 fun x171 h170 =>
j28 (v13.1, v13.2.1, v13.2.2.1, v13.2.2.2.1, (AV.bool false), ()) d14 h170) (
ldI .i64 (AV.ptr n22 3) h144 fun x172 =>
ldI .i64 (AV.ptr n22 4) h144 fun x173 =>
c17 v13.2.2.1 x172 x173 h144 fun x175 h174 =>
j28 (v13.1, v13.2.1, v13.2.2.1, v13.2.2.2.1, (AV.bool false), ()) d14 h174))))))) (
leaveK (gam J [(9, w9 c9), (10, w10 c10), (11, w11 c11), (12, w12 c12), (14, w14 c14), (16, w16 c16), (17, w17 c17), (20, w20 c20), (22, w22 c22), (23, w23 c23), (24, w24 c24), (25, w25 c25), (26, w26 c26), (27, w27 c27)]) d14 h15 fun h176 =>
k true h176)) ((AV.int .i64 x5), a1, v7, (AV.int .i64 (Int.ofNat 0)), ()) [] h10)))
noncomputable def s4 : Int → AV → H → (Bool → H → Prop) → Prop := s4G J0 s9 s10 s11 s12 s14 s16 s17' s20 s22 s23 s24 s25 s26 s27'
noncomputable def w4 (c : Int → AV → H → (Bool → H → Prop) → Prop) : Fun := fun xs h k => arg xs fun a0 xs => arg xs fun a1 xs => noArg xs <| asI .i64 a0 fun a0 => c a0 a1 h fun r0 h => k (.bool r0) h
theorem s4_eq (J : Joins) (c9 : H → (Bool → H → Prop) → Prop) (c10 : Int → H → (AV → Int → H → Prop) → Prop) (c11 : AV → Str → H → (Int → H → Prop) → Prop) (c12 : AV → H → (Int → H → Prop) → Prop) (c14 : AV → Str → H → (Int → H → Prop) → Prop) (c16 : AV → Str → AV → H → (Int → H → Prop) → Prop) (c17 : AV → Int → Int → H → (Int → H → Prop) → Prop) (c20 : AV → Str → H → (AV → Int → H → Prop) → Prop) (c22 : Int → Int → H → (Int → H → Prop) → Prop) (c23 : AV → H → (Bool → H → Prop) → Prop) (c24 : AV → Str → Str → H → (Int → H → Prop) → Prop) (c25 : AV → Str → H → (Int → H → Prop) → Prop) (c26 : AV → H → (AV → H → Prop) → Prop) (c27 : AV → H → (Int → H → Prop) → Prop) (a0 : Int) (a1 : AV) (h : H) (k : AV → H → Prop) : denF ty (gam J [(9, w9 c9), (10, w10 c10), (11, w11 c11), (12, w12 c12), (14, w14 c14), (16, w16 c16), (17, w17 c17), (20, w20 c20), (22, w22 c22), (23, w23 c23), (24, w24 c24), (25, w25 c25), (26, w26 c26), (27, w27 c27)]) Try.f4 [(.int .i64 a0), a1] h k = s4G J c9 c10 c11 c12 c14 c16 c17 c20 c22 c23 c24 c25 c26 c27 a0 a1 h (fun r0 h => k (.bool r0) h) := by kernel_rfl
noncomputable def g4 : Fun := w4 s4
/-- stagepost/stagepostlaw04.VfsMoves -/
noncomputable def s5G (J : Joins) (c9 : H → (Bool → H → Prop) → Prop) (c10 : Int → H → (AV → Int → H → Prop) → Prop) (c11 : AV → Str → H → (Int → H → Prop) → Prop) (c12 : AV → H → (Int → H → Prop) → Prop) (c13 : AV → Int → H → (Int → H → Prop) → Prop) (c14 : AV → Str → H → (Int → H → Prop) → Prop) (c16 : AV → Str → AV → H → (Int → H → Prop) → Prop) (c17 : AV → Int → Int → H → (Int → H → Prop) → Prop) (c20 : AV → Str → H → (AV → Int → H → Prop) → Prop) (c21 : AV → AV → H → (Bool → H → Prop) → Prop) (c24 : AV → Str → Str → H → (Int → H → Prop) → Prop) (a0 : AV) (a1 : AV) (a2 : Int) (a3 : Int) (a4 : Int) (h : H) (k : Bool → H → Prop) : Prop :=
c9  h fun b2 h1 =>
fB (Bool.not b2) fun b3 =>
br b3 (
k false h1) (
lenK a0 fun x4 =>
fB (ltI (Int.ofNat 400) (Int.ofNat x4)) fun b5 =>
J.jn (fun v6 h7 =>
J.jn (fun v9 h10 =>
J.jn (fun v13 h14 =>
pickB (AV.bool b5) (AV.bool true) v13 fun b18 =>
J.jn (fun v19 h20 =>
J.jn (fun v22 h23 =>
pickB (AV.bool b18) (AV.bool true) v22 fun b27 =>
J.jn (fun v28 h29 =>
J.jn (fun v31 h32 =>
pickB (AV.bool b27) (AV.bool true) v31 fun b36 =>
J.jn (fun v37 h38 =>
J.jn (fun v40 h41 =>
pickB (AV.bool b36) (AV.bool true) v40 fun b45 =>
br b45 (
k true h41) (
c10 (Int.ofNat 1048576) h41 fun v47 x48 h46 =>
fB (Bool.not (eqI x48 (Int.ofNat 0))) fun b49 =>
J.jn (fun v50 h51 =>
J.jn (fun v53 h54 =>
J.jn (fun v58 h59 =>
pickB (AV.bool b49) (AV.bool true) v58 fun b63 =>
J.jn (fun v64 h65 =>
J.jn (fun v67 h68 =>
J.jn (fun v70 h71 =>
J.jn (fun v75 h76 =>
pickB (AV.bool b63) (AV.bool true) v75 fun b80 =>
J.jn (fun v81 h82 =>
J.jn (fun v84 h85 =>
J.jn (fun v89 h90 =>
pickB (AV.bool b80) (AV.bool true) v89 fun b94 =>
J.jn (fun v95 h96 =>
J.jn (fun v98 h99 =>
J.jn (fun v103 h104 =>
pickB (AV.bool b94) (AV.bool true) v103 fun b108 =>
J.jn (fun v109 h110 =>
J.jn (fun v112 h113 =>
J.jn (fun v115 h116 =>
J.jn (fun v121 h122 =>
pickB (AV.bool b108) (AV.bool true) v121 fun b126 =>
br b126 (
k false h122) (
c11 v47 ⟨3, 7234935⟩ h122 fun x128 h127 =>
fB (eqI x128 (Int.ofNat 0)) fun b129 =>
J.jn (fun v130 h131 =>
J.jn (fun v133 h134 =>
J.jn (fun v136 h137 =>
J.jn (fun v141 h142 =>
pickB (AV.bool b129) v141 (AV.bool false) fun b146 =>
J.jn (fun v147 h148 =>
J.jn (fun v150 h151 =>
J.jn (fun v155 h156 =>
pickB (AV.bool b146) v155 (AV.bool false) fun b160 =>
J.jn (fun v161 h162 =>
J.jn (fun v164 h165 =>
J.jn (fun v169 h170 =>
pickB (AV.bool b160) v169 (AV.bool false) fun b174 =>
J.jn (fun v175 h176 =>
J.jn (fun v178 h179 =>
J.jn (fun v183 h184 =>
pickB (AV.bool b174) v183 (AV.bool false) fun b188 =>
c17 v47 a3 a4 h184 fun x190 h189 =>
fB (Bool.not (eqI x190 (Int.ofNat 0))) fun b191 =>
br b191 (
k false h189) (
c20 v47 ⟨7, 27995157100326516⟩ h189 fun v193 x194 h192 =>
fB (Bool.not (eqI x194 (Int.ofNat 0))) fun b195 =>
br b195 (
k false h192) (
c21 v193 a1 h192 fun b197 h196 =>
J.jn (fun v198 h199 =>
J.jn (fun v201 h202 =>
J.jn (fun v206 h207 =>
J.jn (fun v209 h210 =>
J.jn (fun v212 h213 =>
J.jn (fun v215 h216 =>
J.jn (fun v220 h221 =>
pickB (AV.bool b197) (AV.bool true) v220 fun b224 =>
k b224 h221) fun j222 =>
br b197 (
j222 skipV h216) (
pickB v206 v215 (AV.bool false) fun b223 =>
j222 (AV.bool b223) h216)) fun j217 =>
asBU v206 (fun b225 =>
br b225 (
c21 v209 v212 h213 fun b219 h218 =>
j217 (AV.bool b219) h218) (
j217 skipV h213)) (
j217 skipV h213)) fun j214 =>
asBU v206 (fun b226 =>
br b226 (
j214 a0 h210) (
j214 skipV h210)) (
j214 skipV h210)) fun j211 =>
asBU v206 (fun b227 =>
br b227 (
j211 v193 h207) (
j211 skipV h207)) (
j211 skipV h207)) fun j208 =>
br b197 (
j208 skipV h202) (
j208 v201 h202)) fun j203 =>
br b197 (
j203 skipV h199) (
asB v198 fun b204 =>
fB (Bool.not b204) fun b205 =>
j203 (AV.bool b205) h199)) fun j200 =>
br b197 (
j200 skipV h196) (
j200 (AV.bool b188) h196)))) fun j185 =>
br b174 (
asI .i64 v178 fun x186 =>
fB (eqI x186 (Int.ofNat 0)) fun b187 =>
j185 (AV.bool b187) h179) (
j185 skipV h179)) fun j180 =>
br b174 (
c12 v175 h176 fun x182 h181 =>
j180 (AV.int .i64 x182) h181) (
j180 skipV h176)) fun j177 =>
br b174 (
j177 v47 h170) (
j177 skipV h170)) fun j171 =>
br b160 (
asI .i64 v164 fun x172 =>
fB (eqI x172 (Int.ofNat 0)) fun b173 =>
j171 (AV.bool b173) h165) (
j171 skipV h165)) fun j166 =>
br b160 (
c24 v161 ⟨3, 7234935⟩ ⟨7, 27995157100326516⟩ h162 fun x168 h167 =>
j166 (AV.int .i64 x168) h167) (
j166 skipV h162)) fun j163 =>
br b160 (
j163 v47 h156) (
j163 skipV h156)) fun j157 =>
br b146 (
asI .i64 v150 fun x158 =>
fB (eqI x158 (Int.ofNat 0)) fun b159 =>
j157 (AV.bool b159) h151) (
j157 skipV h151)) fun j152 =>
br b146 (
c14 v147 ⟨3, 7234935⟩ h148 fun x154 h153 =>
j152 (AV.int .i64 x154) h153) (
j152 skipV h148)) fun j149 =>
br b146 (
j149 v47 h142) (
j149 skipV h142)) fun j143 =>
br b129 (
asI .i64 v136 fun x144 =>
fB (eqI x144 (Int.ofNat 0)) fun b145 =>
j143 (AV.bool b145) h137) (
j143 skipV h137)) fun j138 =>
br b129 (
c16 v130 ⟨3, 7234935⟩ v133 h134 fun x140 h139 =>
j138 (AV.int .i64 x140) h139) (
j138 skipV h134)) fun j135 =>
br b129 (
j135 a1 h131) (
j135 skipV h131)) fun j132 =>
br b129 (
j132 v47 h127) (
j132 skipV h127))) fun j123 =>
br b108 (
j123 skipV h116) (
asI .i64 v115 fun x124 =>
fB (Bool.not (eqI x124 (Int.ofNat 0))) fun b125 =>
j123 (AV.bool b125) h116)) fun j117 =>
br b108 (
j117 skipV h113) (
asI .i64 v112 fun x119 =>
c13 v109 x119 h113 fun x120 h118 =>
j117 (AV.int .i64 x120) h118)) fun j114 =>
br b108 (
j114 skipV h110) (
j114 (AV.int .i64 a2) h110)) fun j111 =>
br b108 (
j111 skipV h104) (
j111 v47 h104)) fun j105 =>
br b94 (
j105 skipV h99) (
asI .i64 v98 fun x106 =>
fB (Bool.not (eqI x106 (Int.ofNat 0))) fun b107 =>
j105 (AV.bool b107) h99)) fun j100 =>
br b94 (
j100 skipV h96) (
c12 v95 h96 fun x102 h101 =>
j100 (AV.int .i64 x102) h101)) fun j97 =>
br b94 (
j97 skipV h90) (
j97 v47 h90)) fun j91 =>
br b80 (
j91 skipV h85) (
asI .i64 v84 fun x92 =>
fB (Bool.not (eqI x92 (Int.ofNat 0))) fun b93 =>
j91 (AV.bool b93) h85)) fun j86 =>
br b80 (
j86 skipV h82) (
c14 v81 ⟨7, 27995157100326516⟩ h82 fun x88 h87 =>
j86 (AV.int .i64 x88) h87)) fun j83 =>
br b80 (
j83 skipV h76) (
j83 v47 h76)) fun j77 =>
br b63 (
j77 skipV h71) (
asI .i64 v70 fun x78 =>
fB (Bool.not (eqI x78 (Int.ofNat 0))) fun b79 =>
j77 (AV.bool b79) h71)) fun j72 =>
br b63 (
j72 skipV h68) (
c16 v64 ⟨7, 27995157100326516⟩ v67 h68 fun x74 h73 =>
j72 (AV.int .i64 x74) h73)) fun j69 =>
br b63 (
j69 skipV h65) (
j69 a0 h65)) fun j66 =>
br b63 (
j66 skipV h59) (
j66 v47 h59)) fun j60 =>
br b49 (
j60 skipV h54) (
asI .i64 v53 fun x61 =>
fB (Bool.not (eqI x61 (Int.ofNat 0))) fun b62 =>
j60 (AV.bool b62) h54)) fun j55 =>
br b49 (
j55 skipV h51) (
c11 v50 ⟨7, 27995157100326516⟩ h51 fun x57 h56 =>
j55 (AV.int .i64 x57) h56)) fun j52 =>
br b49 (
j52 skipV h46) (
j52 v47 h46))) fun j42 =>
br b36 (
j42 skipV h38) (
asI .i64 v37 fun x43 =>
fB (ltI x43 (Int.ofNat 0)) fun b44 =>
j42 (AV.bool b44) h38)) fun j39 =>
br b36 (
j39 skipV h32) (
j39 (AV.int .i64 a2) h32)) fun j33 =>
br b27 (
j33 skipV h29) (
asI .i64 v28 fun x34 =>
fB (ltI x34 (Int.ofNat 0)) fun b35 =>
j33 (AV.bool b35) h29)) fun j30 =>
br b27 (
j30 skipV h23) (
j30 (AV.int .i64 a4) h23)) fun j24 =>
br b18 (
j24 skipV h20) (
asI .i64 v19 fun x25 =>
fB (ltI x25 (Int.ofNat 0)) fun b26 =>
j24 (AV.bool b26) h20)) fun j21 =>
br b18 (
j21 skipV h14) (
j21 (AV.int .i64 a3) h14)) fun j15 =>
br b5 (
j15 skipV h10) (
asI .i64 v9 fun x16 =>
fB (ltI (Int.ofNat 400) x16) fun b17 =>
j15 (AV.bool b17) h10)) fun j11 =>
br b5 (
j11 skipV h7) (
lenK v6 fun x12 =>
j11 (AV.int .i64 (Int.ofNat x12)) h7)) fun j8 =>
br b5 (
j8 skipV h1) (
j8 a1 h1))
noncomputable def s5 : AV → AV → Int → Int → Int → H → (Bool → H → Prop) → Prop := s5G J0 s9 s10 s11 s12 s13 s14 s16 s17' s20 s21 s24
noncomputable def w5 (c : AV → AV → Int → Int → Int → H → (Bool → H → Prop) → Prop) : Fun := fun xs h k => arg xs fun a0 xs => arg xs fun a1 xs => arg xs fun a2 xs => arg xs fun a3 xs => arg xs fun a4 xs => noArg xs <| asI .i64 a2 fun a2 => asI .i64 a3 fun a3 => asI .i64 a4 fun a4 => c a0 a1 a2 a3 a4 h fun r0 h => k (.bool r0) h
noncomputable def g5 : Fun := w5 s5
/-- (*stagepost/vfs.FS).Steps -/
noncomputable def s28G (J : Joins) (a0 : AV) (h : H) (k : Int → H → Prop) : Prop :=
nilB 0 a0 fun b1 =>
br b1 (
k (Int.ofNat 0) h) (
okNil a0 (
faK 8 a0 fun p2 =>
ldI .i64 p2 h fun x3 =>
k x3 h))
noncomputable def s28 : AV → H → (Int → H → Prop) → Prop := s28G J0 
noncomputable def w28 (c : AV → H → (Int → H → Prop) → Prop) : Fun := fun xs h k => arg xs fun a0 xs => noArg xs <| c a0 h fun r0 h => k (.int .i64 r0) h
/-- stagepost/stagepostlaw04.VfsFuse -/
noncomputable def s6G (J : Joins) (c9 : H → (Bool → H → Prop) → Prop) (c10 : Int → H → (AV → Int → H → Prop) → Prop) (c11 : AV → Str → H → (Int → H → Prop) → Prop) (c12 : AV → H → (Int → H → Prop) → Prop) (c13 : AV → Int → H → (Int → H → Prop) → Prop) (c14 : AV → Str → H → (Int → H → Prop) → Prop) (c16 : AV → Str → AV → H → (Int → H → Prop) → Prop) (c17 : AV → Int → Int → H → (Int → H → Prop) → Prop) (c18 : AV → H → (Bool → H → Prop) → Prop) (c22 : Int → Int → H → (Int → H → Prop) → Prop) (c23 : AV → H → (Bool → H → Prop) → Prop) (c24 : AV → Str → Str → H → (Int → H → Prop) → Prop) (c25 : AV → Str → H → (Int → H → Prop) → Prop) (c28 : AV → H → (Int → H → Prop) → Prop) (a0 : AV) (a1 : Int) (h : H) (k : Bool → H → Prop) : Prop :=
c9  h fun b2 h1 =>
fB (Bool.not b2) fun b3 =>
br b3 (
k false h1) (
c23 a0 h1 fun b5 h4 =>
fB (Bool.not b5) fun b6 =>
J.jn (fun v7 h8 =>
J.jn (fun v10 h11 =>
pickB (AV.bool b6) (AV.bool true) v10 fun b15 =>
br b15 (
k true h11) (
c10 (Int.ofNat 1048576) h11 fun v17 x18 h16 =>
fB (Bool.not (eqI x18 (Int.ofNat 0))) fun b19 =>
J.jn (fun v20 h21 =>
J.jn (fun v23 h24 =>
J.jn (fun v28 h29 =>
pickB (AV.bool b19) (AV.bool true) v28 fun b33 =>
J.jn (fun v34 h35 =>
J.jn (fun v37 h38 =>
J.jn (fun v42 h43 =>
pickB (AV.bool b33) (AV.bool true) v42 fun b47 =>
J.jn (fun v48 h49 =>
J.jn (fun v51 h52 =>
J.jn (fun v54 h55 =>
J.jn (fun v60 h61 =>
pickB (AV.bool b47) (AV.bool true) v60 fun b65 =>
br b65 (
k false h61) (
c28 v17 h61 fun x67 h66 =>
J.lp (α := AV × AV × AV × AV × AV × Unit) (fun r71 v68 d69 h70 =>
lenK v68.1 fun x72 =>
asI .i64 v68.2.2.2.2.1 fun x73 =>
fB (ltI x73 (Int.ofNat x72)) fun b74 =>
br b74 (
J.jd (α := AV × AV × AV × AV × AV × Unit) (fun v75 d76 h77 =>
asI .i64 v75.2.2.2.2.1 fun x79 =>
fI (wrapF .i64 (Int.add x79 (Int.ofNat 1))) fun x80 =>
r71 (v75.1, v75.2.1, v75.2.2.1, v75.2.2.2.1, (AV.int .i64 x80), ()) d76 h77) fun j78 =>
ixK 6 v68.1 v68.2.2.2.2.1 fun p81 =>
faK 0 p81 fun p82 =>
ldI .i64 p82 h70 fun x83 =>
c22 x83 (Int.ofNat 6) h70 fun x85 h84 =>
fB (eqI x85 (Int.ofNat 0)) fun b86 =>
br b86 (
ixK 6 v68.1 v68.2.2.2.2.1 fun p87 =>
faK 1 p87 fun p88 =>
ldS p88 h84 fun s89 =>
c11 v68.2.2.1 s89 h84 fun x91 h90 =>
j78 (v68.1, v68.2.1, v68.2.2.1, v68.2.2.2.1, v68.2.2.2.2.1, ()) d69 h90) (
fB (eqI x85 (Int.ofNat 1)) fun b92 =>
br b92 (
ixK 6 v68.1 v68.2.2.2.2.1 fun p93 =>
faK 1 p93 fun p94 =>
ldS p94 h84 fun s95 =>
ixK 6 v68.1 v68.2.2.2.2.1 fun p96 =>
faK 5 p96 fun p97 =>
ldV p97 h84 fun v98 =>
c16 v68.2.2.1 s95 v98 h84 fun x100 h99 =>
j78 (v68.1, v68.2.1, v68.2.2.1, v68.2.2.2.1, v68.2.2.2.2.1, ()) d69 h99) (
fB (eqI x85 (Int.ofNat 2)) fun b101 =>
br b101 (
ixK 6 v68.1 v68.2.2.2.2.1 fun p102 =>
faK 1 p102 fun p103 =>
ldS p103 h84 fun s104 =>
ixK 6 v68.1 v68.2.2.2.2.1 fun p105 =>
faK 2 p105 fun p106 =>
ldS p106 h84 fun s107 =>
c24 v68.2.2.1 s104 s107 h84 fun x109 h108 =>
j78 (v68.1, v68.2.1, v68.2.2.1, v68.2.2.2.1, v68.2.2.2.2.1, ()) d69 h108) (
fB (eqI x85 (Int.ofNat 3)) fun b110 =>
br b110 (
ixK 6 v68.1 v68.2.2.2.2.1 fun p111 =>
faK 1 p111 fun p112 =>
ldS p112 h84 fun s113 =>
c25 v68.2.2.1 s113 h84 fun x115 h114 =>
j78 (v68.1, v68.2.1, v68.2.2.1, v68.2.2.2.1, v68.2.2.2.2.1, ()) d69 h114) (
fB (eqI x85 (Int.ofNat 4)) fun b116 =>
br b116 (
ixK 6 v68.1 v68.2.2.2.2.1 fun p117 =>
faK 1 p117 fun p118 =>
ldS p118 h84 fun s119 =>
c14 v68.2.2.1 s119 h84 fun x121 h120 =>
j78 (v68.1, v68.2.1, v68.2.2.1, v68.2.2.2.1, v68.2.2.2.2.1, ()) d69 h120) (
c12 v68.2.2.1 h84 fun x123 h122 =>
j78 (v68.1, v68.2.1, v68.2.2.1, v68.2.2.2.1, v68.2.2.2.2.1, ()) d69 h122)))))) (
c28 v68.2.2.1 h70 fun x125 h124 =>
asI .i64 v68.2.2.2.1 fun x126 =>
fI (wrapF .i64 (Int.sub x125 x126)) fun x127 =>
asI .i64 v68.2.1 fun x128 =>
fB (ltI x128 x127) fun b129 =>
J.jn (fun v130 h131 =>
J.jn (fun v133 h134 =>
J.jn (fun v138 h139 =>
J.jn (fun v143 h144 =>
J.jn (fun v146 h147 =>
J.jn (fun v149 h150 =>
J.jn (fun v152 h153 =>
J.jn (fun v158 h159 =>
pickB (AV.bool b129) (AV.bool true) v158 fun b162 =>
br b162 (
leaveK (gam J [(9, w9 c9), (10, w10 c10), (11, w11 c11), (12, w12 c12), (13, w13 c13), (14, w14 c14), (16, w16 c16), (17, w17 c17), (18, w18 c18), (22, w22 c22), (23, w23 c23), (24, w24 c24), (25, w25 c25), (28, w28 c28)]) d69 h159 fun h163 =>
k false h163) (
c17 v68.2.2.1 (Int.ofNat 0) (Int.ofNat 0) h159 fun x165 h164 =>
fB (eqI x165 (Int.ofNat 0)) fun b166 =>
J.jn (fun v167 h168 =>
J.jn (fun v170 h171 =>
pickB (AV.bool b166) v170 (AV.bool false) fun b175 =>
J.jn (fun v176 h177 =>
J.jn (fun v179 h180 =>
J.jn (fun v184 h185 =>
J.jn (fun v187 h188 =>
J.jn (fun v193 h194 =>
J.jn (fun v196 h197 =>
pickB (AV.bool b175) v196 (AV.bool false) fun b202 =>
J.jn (fun v203 h204 =>
J.jn (fun v206 h207 =>
J.jn (fun v211 h212 =>
pickB (AV.bool b202) v211 (AV.bool false) fun b216 =>
J.jn (fun v217 h218 =>
J.jn (fun v220 h221 =>
J.jn (fun v225 h226 =>
pickB (AV.bool b216) v225 (AV.bool false) fun b230 =>
J.jn (fun v231 h232 =>
J.jn (fun v234 h235 =>
J.jn (fun v239 h240 =>
J.jn (fun v242 h243 =>
J.jn (fun v248 h249 =>
J.jn (fun v251 h252 =>
J.jn (fun v256 h257 =>
pickB (AV.bool b230) v256 (AV.bool false) fun b262 =>
leaveK (gam J [(9, w9 c9), (10, w10 c10), (11, w11 c11), (12, w12 c12), (13, w13 c13), (14, w14 c14), (16, w16 c16), (17, w17 c17), (18, w18 c18), (22, w22 c22), (23, w23 c23), (24, w24 c24), (25, w25 c25), (28, w28 c28)]) d69 h257 fun h263 =>
k b262 h263) fun j258 =>
br b230 (
asI .i64 v242 fun x259 =>
asI .i64 v251 fun x260 =>
fB (eqI x259 x260) fun b261 =>
j258 (AV.bool b261) h252) (
j258 skipV h252)) fun j253 =>
br b230 (
asI .i64 v248 fun x254 =>
fI (wrapF .i64 (Int.add x254 (Int.ofNat 2))) fun x255 =>
j253 (AV.int .i64 x255) h249) (
j253 skipV h249)) fun j250 =>
br b230 (
j250 (AV.int .i64 x127) h243) (
j250 skipV h243)) fun j244 =>
br b230 (
asI .i64 v234 fun x245 =>
asI .i64 v239 fun x246 =>
fI (wrapF .i64 (Int.sub x245 x246)) fun x247 =>
j244 (AV.int .i64 x247) h240) (
j244 skipV h240)) fun j241 =>
br b230 (
j241 v68.2.2.2.1 h235) (
j241 skipV h235)) fun j236 =>
br b230 (
c28 v231 h232 fun x238 h237 =>
j236 (AV.int .i64 x238) h237) (
j236 skipV h232)) fun j233 =>
br b230 (
j233 v68.2.2.1 h226) (
j233 skipV h226)) fun j227 =>
br b216 (
asI .i64 v220 fun x228 =>
fB (eqI x228 (Int.ofNat 0)) fun b229 =>
j227 (AV.bool b229) h221) (
j227 skipV h221)) fun j222 =>
br b216 (
c12 v217 h218 fun x224 h223 =>
j222 (AV.int .i64 x224) h223) (
j222 skipV h218)) fun j219 =>
br b216 (
j219 v68.2.2.1 h212) (
j219 skipV h212)) fun j213 =>
br b202 (
asI .i64 v206 fun x214 =>
fB (eqI x214 (Int.ofNat 0)) fun b215 =>
j213 (AV.bool b215) h207) (
j213 skipV h207)) fun j208 =>
br b202 (
c12 v203 h204 fun x210 h209 =>
j208 (AV.int .i64 x210) h209) (
j208 skipV h204)) fun j205 =>
br b202 (
j205 v68.2.2.1 h197) (
j205 skipV h197)) fun j198 =>
br b175 (
asI .i64 v187 fun x199 =>
asI .i64 v193 fun x200 =>
fB (eqI x199 x200) fun b201 =>
j198 (AV.bool b201) h194) (
j198 skipV h194)) fun j195 =>
br b175 (
j195 (AV.int .i64 x127) h188) (
j195 skipV h188)) fun j189 =>
br b175 (
asI .i64 v179 fun x190 =>
asI .i64 v184 fun x191 =>
fI (wrapF .i64 (Int.sub x190 x191)) fun x192 =>
j189 (AV.int .i64 x192) h185) (
j189 skipV h185)) fun j186 =>
br b175 (
j186 v68.2.2.2.1 h180) (
j186 skipV h180)) fun j181 =>
br b175 (
c28 v176 h177 fun x183 h182 =>
j181 (AV.int .i64 x183) h182) (
j181 skipV h177)) fun j178 =>
br b175 (
j178 v68.2.2.1 h171) (
j178 skipV h171)) fun j172 =>
br b166 (
c18 v167 h168 fun b174 h173 =>
j172 (AV.bool b174) h173) (
j172 skipV h168)) fun j169 =>
br b166 (
j169 v68.2.2.1 h164) (
j169 skipV h164))) fun j160 =>
br b129 (
j160 skipV h153) (
pickB v143 v152 (AV.bool false) fun b161 =>
j160 (AV.bool b161) h153)) fun j154 =>
asBU v143 (fun b264 =>
br b264 (
asI .i64 v146 fun x155 =>
asI .i64 v149 fun x156 =>
fB (Bool.not (eqI x155 x156)) fun b157 =>
j154 (AV.bool b157) h150) (
j154 skipV h150)) (
j154 skipV h150)) fun j151 =>
asBU v143 (fun b265 =>
br b265 (
j151 v68.2.1 h147) (
j151 skipV h147)) (
j151 skipV h147)) fun j148 =>
asBU v143 (fun b266 =>
br b266 (
j148 (AV.int .i64 x127) h144) (
j148 skipV h144)) (
j148 skipV h144)) fun j145 =>
br b129 (
j145 skipV h139) (
j145 v138 h139)) fun j140 =>
br b129 (
j140 skipV h134) (
asB v133 fun b141 =>
fB (Bool.not b141) fun b142 =>
j140 (AV.bool b142) h134)) fun j135 =>
br b129 (
j135 skipV h131) (
c18 v130 h131 fun b137 h136 =>
j135 (AV.bool b137) h136)) fun j132 =>
br b129 (
j132 skipV h124) (
j132 v68.2.2.1 h124))) (a0, (AV.int .i64 a1), v17, (AV.int .i64 x67), (AV.int .i64 (Int.ofNat 0)), ()) [] h66)) fun j62 =>
br b47 (
j62 skipV h55) (
asI .i64 v54 fun x63 =>
fB (Bool.not (eqI x63 (Int.ofNat 0))) fun b64 =>
j62 (AV.bool b64) h55)) fun j56 =>
br b47 (
j56 skipV h52) (
asI .i64 v51 fun x58 =>
c13 v48 x58 h52 fun x59 h57 =>
j56 (AV.int .i64 x59) h57)) fun j53 =>
br b47 (
j53 skipV h49) (
j53 (AV.int .i64 a1) h49)) fun j50 =>
br b47 (
j50 skipV h43) (
j50 v17 h43)) fun j44 =>
br b33 (
j44 skipV h38) (
asI .i64 v37 fun x45 =>
fB (Bool.not (eqI x45 (Int.ofNat 0))) fun b46 =>
j44 (AV.bool b46) h38)) fun j39 =>
br b33 (
j39 skipV h35) (
c11 v34 ⟨1, 98⟩ h35 fun x41 h40 =>
j39 (AV.int .i64 x41) h40)) fun j36 =>
br b33 (
j36 skipV h29) (
j36 v17 h29)) fun j30 =>
br b19 (
j30 skipV h24) (
asI .i64 v23 fun x31 =>
fB (Bool.not (eqI x31 (Int.ofNat 0))) fun b32 =>
j30 (AV.bool b32) h24)) fun j25 =>
br b19 (
j25 skipV h21) (
c11 v20 ⟨1, 97⟩ h21 fun x27 h26 =>
j25 (AV.int .i64 x27) h26)) fun j22 =>
br b19 (
j22 skipV h16) (
j22 v17 h16))) fun j12 =>
br b6 (
j12 skipV h8) (
asI .i64 v7 fun x13 =>
fB (ltI x13 (Int.ofNat 0)) fun b14 =>
j12 (AV.bool b14) h8)) fun j9 =>
br b6 (
j9 skipV h4) (
j9 (AV.int .i64 a1) h4))
noncomputable def s6 : AV → Int → H → (Bool → H → Prop) → Prop := s6G J0 s9 s10 s11 s12 s13 s14 s16 s17' s18 s22 s23 s24 s25 s28
noncomputable def w6 (c : AV → Int → H → (Bool → H → Prop) → Prop) : Fun := fun xs h k => arg xs fun a0 xs => arg xs fun a1 xs => noArg xs <| asI .i64 a1 fun a1 => c a0 a1 h fun r0 h => k (.bool r0) h
noncomputable def g6 : Fun := w6 s6
end Go.Proofs.Ytiejkbmobmgdkaa
