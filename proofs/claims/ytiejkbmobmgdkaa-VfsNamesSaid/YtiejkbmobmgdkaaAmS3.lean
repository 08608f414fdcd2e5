/- Functions as they are reckoned. MADE BY PROGRAM (wip/tools/shal.py). -/
import Derived.Test.YtiejkbmobmgdkaaAmH44
namespace Go.Proofs.Ytiejkbmobmgdkaa
open Go Go.Am
set_option maxRecDepth 100000
set_option linter.all false
/-- maps.Keys[map[string]int,string,int] -/
noncomputable def s45G (J : Joins) (c53 : AV → AV → H → (H → Prop) → Prop) (a0 : AV) (h : H) (k : AV → H → Prop) : Prop :=
ck (isOne a0) (
pushK (.cells false 55 [a0]) h fun n1 h2 =>
k (AV.func (.func 53) [] [(AV.ptr n1 0)]) h2)
noncomputable def s45 : AV → H → (AV → H → Prop) → Prop := s45G J0 s53
noncomputable def w45 (c : AV → H → (AV → H → Prop) → Prop) : Fun := fun xs h k => arg xs fun a0 xs => noArg xs <| c a0 h fun r0 h => k r0 h
theorem s45_eq (J : Joins) (c53 : AV → AV → H → (H → Prop) → Prop) (a0 : AV) (h : H) (k : AV → H → Prop) : denF ty (gam J [(53, w53 c53)]) Try.f45 [a0] h k = s45G J c53 a0 h (fun r0 h => k r0 h) := by kernel_rfl
noncomputable def g45 : Fun := w45 s45
theorem g45_ok : FunOk Try.prog 45 g45 := (fun_ok ty_ok mixed (gam_ok (J := J0) (tab_cons g53_ok (tab_nil fls_fun))) Try.func45 (fun args w => by simp)).imp fun xs h k e0 => by
  obtain ⟨a0, xs0, rfl, e1⟩ := arg_imp e0
  obtain ⟨rfl, e2⟩ := noArg_imp e1
  exact (s45_eq J0 s53 a0 h k).mpr e2
/-- s45, of which less may be asked -/
def up45 : AV → H → (AV → H → Prop) → Prop := fun a0 h k => ∃ K : AV → H → Prop, s45 a0 h K ∧ ∀ r0 h', K r0 h' → k r0 h'
theorem up45_ok : FunOk Try.prog 45 (w45 up45) := g45_ok.up fun xs h k e0 => by
  obtain ⟨a0, xs0, rfl, e1⟩ := arg_imp e0
  obtain ⟨rfl, e2⟩ := noArg_imp e1
  obtain ⟨K, q1, q2⟩ := e2
  refine ⟨fun r h' => ∃ r0, r = r0 ∧ K r0 h', ?_, ?_⟩
  · have hK : (fun r0 h' => ∃ r0', (r0 : AV) = r0' ∧ K r0' h') = K := by funext r0 h'; apply propext; simp
    exact (congrArg (s45 a0 h) hK).mpr q1
  · rintro r h' ⟨r0, rfl, q3⟩; exact q2 _ _ q3
/-- (*stagepost/vfs.FS).Names -/
noncomputable def s26G (J : Joins) (c34 : AV → AV → H → (Int → H → Prop) → Prop) (c35 : AV → H → (AV → H → Prop) → Prop) (c44 : AV → H → (AV → H → Prop) → Prop) (c45 : AV → H → (AV → H → Prop) → Prop) (a0 : AV) (h : H) (k : AV → H → Prop) : Prop :=
c34 a0 AV.nils h fun x2 h1 =>
fB (Bool.not (eqI x2 (Int.ofNat 0))) fun b3 =>
br b3 (
k AV.nils h1) (
c35 a0 h1 fun v5 h4 =>
Go.Am.asAgg v5 fun l6 =>
op' (lgetO l6 1) fun v7 =>
c45 v7 h4 fun v9 h8 =>
c44 v9 h8 fun v11 h10 =>
k v11 h10)
noncomputable def s26 : AV → H → (AV → H → Prop) → Prop := s26G J0 s34 s35 s44' s45
noncomputable def w26 (c : AV → H → (AV → H → Prop) → Prop) : Fun := fun xs h k => arg xs fun a0 xs => noArg xs <| c a0 h fun r0 h => k r0 h
theorem s26_eq (J : Joins) (c34 : AV → AV → H → (Int → H → Prop) → Prop) (c35 : AV → H → (AV → H → Prop) → Prop) (c44 : AV → H → (AV → H → Prop) → Prop) (c45 : AV → H → (AV → H → Prop) → Prop) (a0 : AV) (h : H) (k : AV → H → Prop) : denF ty (gam J [(34, w34 c34), (35, w35 c35), (44, w44 c44), (45, w45 c45)]) Try.f26 [a0] h k = s26G J c34 c35 c44 c45 a0 h (fun r0 h => k r0 h) := by kernel_rfl
noncomputable def g26 : Fun := w26 s26
theorem g26_ok : FunOk Try.prog 26 g26 := (fun_ok ty_ok mixed (gam_ok (J := J0) (tab_cons g34_ok (tab_cons g35_ok (tab_cons g44'_ok (tab_cons g45_ok (tab_nil fls_fun)))))) Try.func26 (fun args w => by simp)).imp fun xs h k e0 => by
  obtain ⟨a0, xs0, rfl, e1⟩ := arg_imp e0
  obtain ⟨rfl, e2⟩ := noArg_imp e1
  exact (s26_eq J0 s34 s35 s44' s45 a0 h k).mpr e2
/-- stagepost/stagepostlaw04.lives -/
noncomputable def s9G (J : Joins) (c10 : Int → H → (AV → Int → H → Prop) → Prop) (c11 : AV → Str → H → (Int → H → Prop) → Prop) (c14 : AV → Str → H → (Int → H → Prop) → Prop) (c16 : AV → Str → AV → H → (Int → H → Prop) → Prop) (c17 : AV → Int → Int → H → (Int → H → Prop) → Prop) (c19 : AV → H → (Int → H → Prop) → Prop) (c26 : AV → H → (AV → H → Prop) → Prop) (c27 : AV → H → (Int → H → Prop) → Prop) (h : H) (k : Bool → H → Prop) : Prop :=
c10 (Int.ofNat 100) h fun v2 x3 h1 =>
fB (Bool.not (eqI x3 (Int.ofNat 0))) fun b4 =>
J.jn (fun v5 h6 =>
J.jn (fun v8 h9 =>
pickB (AV.bool b4) (AV.bool true) v8 fun b12 =>
J.jn (fun v13 h14 =>
J.jn (fun v16 h17 =>
J.jn (fun v21 h22 =>
pickB (AV.bool b12) (AV.bool true) v21 fun b26 =>
J.jn (fun v27 h28 =>
J.jn (fun v30 h31 =>
J.jn (fun v36 h37 =>
J.jn (fun v41 h42 =>
pickB (AV.bool b26) (AV.bool true) v41 fun b46 =>
J.jn (fun v47 h48 =>
J.jn (fun v50 h51 =>
J.jn (fun v55 h56 =>
pickB (AV.bool b46) (AV.bool true) v55 fun b60 =>
J.jn (fun v61 h62 =>
J.jn (fun v64 h65 =>
J.jn (fun v70 h71 =>
J.jn (fun v75 h76 =>
pickB (AV.bool b60) (AV.bool true) v75 fun b80 =>
br b80 (
k false h76) (
c19 v2 h76 fun x82 h81 =>
fB (eqI x82 (Int.ofNat 3)) fun b83 =>
J.jn (fun v84 h85 =>
J.jn (fun v87 h88 =>
J.jn (fun v92 h93 =>
pickB (AV.bool b83) v92 (AV.bool false) fun b97 =>
J.jn (fun v98 h99 =>
J.jn (fun v101 h102 =>
J.jn (fun v106 h107 =>
pickB (AV.bool b97) v106 (AV.bool false) fun b111 =>
J.jn (fun v112 h113 =>
J.jn (fun v115 h116 =>
J.jn (fun v120 h121 =>
pickB (AV.bool b111) v120 (AV.bool false) fun b125 =>
J.jn (fun v126 h127 =>
J.jn (fun v129 h130 =>
J.jn (fun v134 h135 =>
J.jn (fun v138 h139 =>
pickB (AV.bool b125) v138 (AV.bool false) fun b143 =>
k b143 h139) fun j140 =>
br b125 (
asI .i64 v134 fun x141 =>
fB (eqI x141 (Int.ofNat 0)) fun b142 =>
j140 (AV.bool b142) h135) (
j140 .junk h135)) fun j136 =>
br b125 (
lenK v129 fun x137 =>
j136 (AV.int .i64 (Int.ofNat x137)) h130) (
j136 .junk h130)) fun j131 =>
br b125 (
c26 v126 h127 fun v133 h132 =>
j131 v133 h132) (
j131 .junk h127)) fun j128 =>
br b125 (
j128 v2 h121) (
j128 .junk h121)) fun j122 =>
br b111 (
asI .i64 v115 fun x123 =>
fB (eqI x123 (Int.ofNat 0)) fun b124 =>
j122 (AV.bool b124) h116) (
j122 .junk h116)) fun j117 =>
br b111 (
c17 v112 (Int.ofNat 0) (Int.ofNat 0) h113 fun x119 h118 =>
j117 (AV.int .i64 x119) h118) (
j117 .junk h113)) fun j114 =>
br b111 (
j114 v2 h107) (
j114 .junk h107)) fun j108 =>
br b97 (
asI .i64 v101 fun x109 =>
fB (eqI x109 (Int.ofNat 1)) fun b110 =>
j108 (AV.bool b110) h102) (
j108 .junk h102)) fun j103 =>
br b97 (
c19 v98 h99 fun x105 h104 =>
j103 (AV.int .i64 x105) h104) (
j103 .junk h99)) fun j100 =>
br b97 (
j100 v2 h93) (
j100 .junk h93)) fun j94 =>
br b83 (
asI .i64 v87 fun x95 =>
fB (eqI x95 (Int.ofNat 0)) fun b96 =>
j94 (AV.bool b96) h88) (
j94 .junk h88)) fun j89 =>
br b83 (
c14 v84 ⟨1, 97⟩ h85 fun x91 h90 =>
j89 (AV.int .i64 x91) h90) (
j89 .junk h85)) fun j86 =>
br b83 (
j86 v2 h81) (
j86 .junk h81))) fun j77 =>
br b60 (
j77 .junk h71) (
asI .i64 v70 fun x78 =>
fB (Bool.not (eqI x78 (Int.ofNat 8))) fun b79 =>
j77 (AV.bool b79) h71)) fun j72 =>
br b60 (
j72 .junk h65) (
c16 v61 ⟨1, 97⟩ v64 h65 fun x74 h73 =>
j72 (AV.int .i64 x74) h73)) fun j66 =>
br b60 (
j66 .junk h62) (
op' (aMakeSl ty 5 (AV.int .i64 (Int.ofNat 31)) (AV.int .i64 (Int.ofNat 31))) fun k67 =>
pushK k67.1 h62 fun n68 h69 =>
j66 (k67.2 n68) h69)) fun j63 =>
br b60 (
j63 .junk h56) (
j63 v2 h56)) fun j57 =>
br b46 (
j57 .junk h51) (
asI .i64 v50 fun x58 =>
fB (Bool.not (eqI x58 (Int.ofNat 30))) fun b59 =>
j57 (AV.bool b59) h51)) fun j52 =>
br b46 (
j52 .junk h48) (
c27 v47 h48 fun x54 h53 =>
j52 (AV.int .i64 x54) h53)) fun j49 =>
br b46 (
j49 .junk h42) (
j49 v2 h42)) fun j43 =>
br b26 (
j43 .junk h37) (
asI .i64 v36 fun x44 =>
fB (Bool.not (eqI x44 (Int.ofNat 0))) fun b45 =>
j43 (AV.bool b45) h37)) fun j38 =>
br b26 (
j38 .junk h31) (
c16 v27 ⟨1, 97⟩ v30 h31 fun x40 h39 =>
j38 (AV.int .i64 x40) h39)) fun j32 =>
br b26 (
j32 .junk h28) (
op' (aMakeSl ty 5 (AV.int .i64 (Int.ofNat 70)) (AV.int .i64 (Int.ofNat 70))) fun k33 =>
pushK k33.1 h28 fun n34 h35 =>
j32 (k33.2 n34) h35)) fun j29 =>
br b26 (
j29 .junk h22) (
j29 v2 h22)) fun j23 =>
br b12 (
j23 .junk h17) (
asI .i64 v16 fun x24 =>
fB (Bool.not (eqI x24 (Int.ofNat 0))) fun b25 =>
j23 (AV.bool b25) h17)) fun j18 =>
br b12 (
j18 .junk h14) (
c11 v13 ⟨1, 97⟩ h14 fun x20 h19 =>
j18 (AV.int .i64 x20) h19)) fun j15 =>
br b12 (
j15 .junk h9) (
j15 v2 h9)) fun j10 =>
br b4 (
j10 .junk h6) (
nilB 0 v5 fun b11 =>
j10 (AV.bool b11) h6)) fun j7 =>
br b4 (
j7 .junk h1) (
j7 v2 h1)
noncomputable def s9 : H → (Bool → H → Prop) → Prop := s9G J0 s10 s11 s14 s16 s17' s19 s26 s27'
noncomputable def w9 (c : H → (Bool → H → Prop) → Prop) : Fun := fun xs h k => noArg xs <| c  h fun r0 h => k (.bool r0) h
theorem s9_eq (J : Joins) (c10 : Int → H → (AV → Int → H → Prop) → Prop) (c11 : AV → Str → H → (Int → H → Prop) → Prop) (c14 : AV → Str → H → (Int → H → Prop) → Prop) (c16 : AV → Str → AV → H → (Int → H → Prop) → Prop) (c17 : AV → Int → Int → H → (Int → H → Prop) → Prop) (c19 : AV → H → (Int → H → Prop) → Prop) (c26 : AV → H → (AV → H → Prop) → Prop) (c27 : AV → H → (Int → H → Prop) → Prop)  (h : H) (k : AV → H → Prop) : denF ty (gam J [(10, w10 c10), (11, w11 c11), (14, w14 c14), (16, w16 c16), (17, w17 c17), (19, w19 c19), (26, w26 c26), (27, w27 c27)]) Try.f9 [] h k = s9G J c10 c11 c14 c16 c17 c19 c26 c27  h (fun r0 h => k (.bool r0) h) := by kernel_rfl
noncomputable def g9 : Fun := w9 s9
theorem g9_ok : FunOk Try.prog 9 g9 := (fun_ok ty_ok mixed (gam_ok (J := J0) (tab_cons g10_ok (tab_cons g11_ok (tab_cons g14_ok (tab_cons g16_ok (tab_cons g17'_ok (tab_cons g19_ok (tab_cons g26_ok (tab_cons g27'_ok (tab_nil fls_fun)))))))))) Try.func9 (fun args w => by simp)).imp fun xs h k e0 => by
  obtain ⟨rfl, e1⟩ := noArg_imp e0
  exact (s9_eq J0 s10 s11 s14 s16 s17' s19 s26 s27'  h k).mpr e1
/-- (*stagepost/vfs.FS).SyncNames -/
noncomputable def s12G (J : Joins) (c34 : AV → AV → H → (Int → H → Prop) → Prop) (c37 : AV → AV → H → (Int → H → Prop) → Prop) (c38 : AV → H → (Bool → H → Prop) → Prop) (a0 : AV) (h : H) (k : Int → H → Prop) : Prop :=
c34 a0 AV.nils h fun x2 h1 =>
fB (Bool.not (eqI x2 (Int.ofNat 0))) fun b3 =>
br b3 (
k x2 h1) (
c37 a0 (AV.func (.func 38) [] []) h1 fun x5 h4 =>
k x5 h4)
noncomputable def s12 : AV → H → (Int → H → Prop) → Prop := s12G J0 s34 s37 s38
noncomputable def w12 (c : AV → H → (Int → H → Prop) → Prop) : Fun := fun xs h k => arg xs fun a0 xs => noArg xs <| c a0 h fun r0 h => k (.int .i64 r0) h
theorem s12_eq (J : Joins) (c34 : AV → AV → H → (Int → H → Prop) → Prop) (c37 : AV → AV → H → (Int → H → Prop) → Prop) (c38 : AV → H → (Bool → H → Prop) → Prop) (a0 : AV) (h : H) (k : AV → H → Prop) : denF ty (gam J [(34, w34 c34), (37, w37 c37), (38, w38 c38)]) Try.f12 [a0] h k = s12G J c34 c37 c38 a0 h (fun r0 h => k (.int .i64 r0) h) := by kernel_rfl
noncomputable def g12 : Fun := w12 s12
theorem g12_ok : FunOk Try.prog 12 g12 := (fun_ok ty_ok mixed (gam_ok (J := J0) (tab_cons g34_ok (tab_cons g37_ok (tab_cons g38_ok (tab_nil fls_fun))))) Try.func12 (fun args w => by simp)).imp fun xs h k e0 => by
  obtain ⟨a0, xs0, rfl, e1⟩ := arg_imp e0
  obtain ⟨rfl, e2⟩ := noArg_imp e1
  exact (s12_eq J0 s34 s37 s38 a0 h k).mpr e2
/-- (*stagepost/vfs.FS).Fuse -/
noncomputable def s13G (J : Joins) (c34 : AV → AV → H → (Int → H → Prop) → Prop) (a0 : AV) (a1 : Int) (h : H) (k : Int → H → Prop) : Prop :=
c34 a0 AV.nils h fun x2 h1 =>
fB (Bool.not (eqI x2 (Int.ofNat 0))) fun b3 =>
br b3 (
k x2 h1) (
fB (ltI a1 (Int.ofNat 0)) fun b4 =>
br b4 (
k (Int.ofNat 2) h1) (
okNil a0 (
faK 6 a0 fun p5 =>
stV p5 (AV.bool true) h1 fun h6 =>
okNil a0 (
faK 7 a0 fun p7 =>
stV p7 (AV.int .i64 a1) h6 fun h8 =>
k (Int.ofNat 0) h8))))
noncomputable def s13 : AV → Int → H → (Int → H → Prop) → Prop := s13G J0 s34
noncomputable def w13 (c : AV → Int → H → (Int → H → Prop) → Prop) : Fun := fun xs h k => arg xs fun a0 xs => arg xs fun a1 xs => noArg xs <| asI .i64 a1 fun a1 => c a0 a1 h fun r0 h => k (.int .i64 r0) h
theorem s13_eq (J : Joins) (c34 : AV → AV → H → (Int → H → Prop) → Prop) (a0 : AV) (a1 : Int) (h : H) (k : AV → H → Prop) : denF ty (gam J [(34, w34 c34)]) Try.f13 [a0, (.int .i64 a1)] h k = s13G J c34 a0 a1 h (fun r0 h => k (.int .i64 r0) h) := by kernel_rfl
noncomputable def g13 : Fun := w13 s13
theorem g13_ok : FunOk Try.prog 13 g13 := (fun_ok ty_ok mixed (gam_ok (J := J0) (tab_cons g34_ok (tab_nil fls_fun))) Try.func13 (fun args w => by simp)).imp fun xs h k e0 => by
  obtain ⟨a0, xs0, rfl, e1⟩ := arg_imp e0
  obtain ⟨a1, xs1, rfl, e2⟩ := arg_imp e1
  obtain ⟨rfl, e3⟩ := noArg_imp e2
  obtain ⟨a1, rfl, e4⟩ := asI_iff.1 e3
  exact (s13_eq J0 s34 a0 a1 h k).mpr e4
/-- (*stagepost/vfs.FS).On -/
noncomputable def s18G (J : Joins) (c34 : AV → AV → H → (Int → H → Prop) → Prop) (a0 : AV) (h : H) (k : Bool → H → Prop) : Prop :=
c34 a0 AV.nils h fun x2 h1 =>
fB (eqI x2 (Int.ofNat 0)) fun b3 =>
k b3 h1
noncomputable def s18 : AV → H → (Bool → H → Prop) → Prop := s18G J0 s34
noncomputable def w18 (c : AV → H → (Bool → H → Prop) → Prop) : Fun := fun xs h k => arg xs fun a0 xs => noArg xs <| c a0 h fun r0 h => k (.bool r0) h
theorem s18_eq (J : Joins) (c34 : AV → AV → H → (Int → H → Prop) → Prop) (a0 : AV) (h : H) (k : AV → H → Prop) : denF ty (gam J [(34, w34 c34)]) Try.f18 [a0] h k = s18G J c34 a0 h (fun r0 h => k (.bool r0) h) := by kernel_rfl
noncomputable def g18 : Fun := w18 s18
theorem g18_ok : FunOk Try.prog 18 g18 := (fun_ok ty_ok mixed (gam_ok (J := J0) (tab_cons g34_ok (tab_nil fls_fun))) Try.func18 (fun args w => by simp)).imp fun xs h k e0 => by
  obtain ⟨a0, xs0, rfl, e1⟩ := arg_imp e0
  obtain ⟨rfl, e2⟩ := noArg_imp e1
  exact (s18_eq J0 s34 a0 h k).mpr e2
/-- (*stagepost/vfs.FS).Rename -/
noncomputable def s24G (J : Joins) (c34 : AV → AV → H → (Int → H → Prop) → Prop) (c36 : AV → AV → H → (Int → H → Prop) → Prop) (c39 : AV → Str → H → (Int → Int → H → Prop) → Prop) (a0 : AV) (a1 : Str) (a2 : Str) (h : H) (k : Int → H → Prop) : Prop :=
pushK (.cells false 9 [(AV.str a1), (AV.str a2)]) h fun n1 h2 =>
c34 a0 (AV.slice n1 0 2 2 1 true) h2 fun x4 h3 =>
fB (Bool.not (eqI x4 (Int.ofNat 0))) fun b5 =>
br b5 (
k x4 h3) (
c39 a0 a1 h3 fun x7 x8 h6 =>
fB (Bool.not (eqI x8 (Int.ofNat 0))) fun b9 =>
br b9 (
k x8 h6) (
c36 a0 (AV.agg [(AV.int .i64 (Int.ofNat 2)), (AV.str a1), (AV.str a2), (.int .i64 0), (.nils)]) h6 fun x11 h10 =>
k x11 h10))
noncomputable def s24 : AV → Str → Str → H → (Int → H → Prop) → Prop := s24G J0 s34 s36 s39
noncomputable def w24 (c : AV → Str → Str → H → (Int → H → Prop) → Prop) : Fun := fun xs h k => arg xs fun a0 xs => arg xs fun a1 xs => arg xs fun a2 xs => noArg xs <| asS a1 fun a1 => asS a2 fun a2 => c a0 a1 a2 h fun r0 h => k (.int .i64 r0) h
theorem s24_eq (J : Joins) (c34 : AV → AV → H → (Int → H → Prop) → Prop) (c36 : AV → AV → H → (Int → H → Prop) → Prop) (c39 : AV → Str → H → (Int → Int → H → Prop) → Prop) (a0 : AV) (a1 : Str) (a2 : Str) (h : H) (k : AV → H → Prop) : denF ty (gam J [(34, w34 c34), (36, w36 c36), (39, w39 c39)]) Try.f24 [a0, (.str a1), (.str a2)] h k = s24G J c34 c36 c39 a0 a1 a2 h (fun r0 h => k (.int .i64 r0) h) := by kernel_rfl
noncomputable def g24 : Fun := w24 s24
theorem g24_ok : FunOk Try.prog 24 g24 := (fun_ok ty_ok mixed (gam_ok (J := J0) (tab_cons g34_ok (tab_cons g36_ok (tab_cons g39_ok (tab_nil fls_fun))))) Try.func24 (fun args w => by simp)).imp fun xs h k e0 => by
  obtain ⟨a0, xs0, rfl, e1⟩ := arg_imp e0
  obtain ⟨a1, xs1, rfl, e2⟩ := arg_imp e1
  obtain ⟨a2, xs2, rfl, e3⟩ := arg_imp e2
  obtain ⟨rfl, e4⟩ := noArg_imp e3
  obtain ⟨a1, rfl, e5⟩ := asS_iff.1 e4
  obtain ⟨a2, rfl, e6⟩ := asS_iff.1 e5
  exact (s24_eq J0 s34 s36 s39 a0 a1 a2 h k).mpr e6
/-- (*stagepost/vfs.FS).Read -/
noncomputable def s20G (J : Joins) (c35 : AV → H → (AV → H → Prop) → Prop) (c39 : AV → Str → H → (Int → Int → H → Prop) → Prop) (c42 : AV → H → (AV → H → Prop) → Prop) (a0 : AV) (a1 : Str) (h : H) (k : AV → Int → H → Prop) : Prop :=
c39 a0 a1 h fun x2 x3 h1 =>
fB (Bool.not (eqI x3 (Int.ofNat 0))) fun b4 =>
br b4 (
k AV.nils x3 h1) (
c35 a0 h1 fun v6 h5 =>
Go.Am.asAgg v6 fun l7 =>
op' (lgetO l7 0) fun v8 =>
op' (aLookup ty 3 31 false v8 (AV.int .i64 x2) h5) fun v9 =>
c42 v9 h5 fun v11 h10 =>
k v11 (Int.ofNat 0) h10)
noncomputable def s20 : AV → Str → H → (AV → Int → H → Prop) → Prop := s20G J0 s35 s39 s42
noncomputable def w20 (c : AV → Str → H → (AV → Int → H → Prop) → Prop) : Fun := fun xs h k => arg xs fun a0 xs => arg xs fun a1 xs => noArg xs <| asS a1 fun a1 => c a0 a1 h fun r0 r1 h => k (.tuple [r0, (.int .i64 r1)]) h
theorem s20_eq (J : Joins) (c35 : AV → H → (AV → H → Prop) → Prop) (c39 : AV → Str → H → (Int → Int → H → Prop) → Prop) (c42 : AV → H → (AV → H → Prop) → Prop) (a0 : AV) (a1 : Str) (h : H) (k : AV → H → Prop) : denF ty (gam J [(35, w35 c35), (39, w39 c39), (42, w42 c42)]) Try.f20 [a0, (.str a1)] h k = s20G J c35 c39 c42 a0 a1 h (fun r0 r1 h => k (.tuple [r0, (.int .i64 r1)]) h) := by kernel_rfl
noncomputable def g20 : Fun := w20 s20
theorem g20_ok : FunOk Try.prog 20 g20 := (fun_ok ty_ok mixed (gam_ok (J := J0) (tab_cons g35_ok (tab_cons g39_ok (tab_cons g42_ok (tab_nil fls_fun))))) Try.func20 (fun args w => by simp)).imp fun xs h k e0 => by
  obtain ⟨a0, xs0, rfl, e1⟩ := arg_imp e0
  obtain ⟨a1, xs1, rfl, e2⟩ := arg_imp e1
  obtain ⟨rfl, e3⟩ := noArg_imp e2
  obtain ⟨a1, rfl, e4⟩ := asS_iff.1 e3
  exact (s20_eq J0 s35 s39 s42 a0 a1 h k).mpr e4
/-- stagepost/stagepostlaw04.read -/
noncomputable def s29G (J : Joins) (c20 : AV → Str → H → (AV → Int → H → Prop) → Prop) (a0 : AV) (a1 : Str) (h : H) (k : Str → H → Prop) : Prop :=
c20 a0 a1 h fun v2 x3 h1 =>
fB (Bool.not (eqI x3 (Int.ofNat 0))) fun b4 =>
br b4 (
k ⟨0, 0⟩ h1) (
toStrK v2 h1 fun s5 =>
k s5 h1)
noncomputable def s29 : AV → Str → H → (Str → H → Prop) → Prop := s29G J0 s20
noncomputable def w29 (c : AV → Str → H → (Str → H → Prop) → Prop) : Fun := fun xs h k => arg xs fun a0 xs => arg xs fun a1 xs => noArg xs <| asS a1 fun a1 => c a0 a1 h fun r0 h => k (.str r0) h
theorem s29_eq (J : Joins) (c20 : AV → Str → H → (AV → Int → H → Prop) → Prop) (a0 : AV) (a1 : Str) (h : H) (k : AV → H → Prop) : denF ty (gam J [(20, w20 c20)]) Try.f29 [a0, (.str a1)] h k = s29G J c20 a0 a1 h (fun r0 h => k (.str r0) h) := by kernel_rfl
noncomputable def g29 : Fun := w29 s29
theorem g29_ok : FunOk Try.prog 29 g29 := (fun_ok ty_ok mixed (gam_ok (J := J0) (tab_cons g20_ok (tab_nil fls_fun))) Try.func29 (fun args w => by simp)).imp fun xs h k e0 => by
  obtain ⟨a0, xs0, rfl, e1⟩ := arg_imp e0
  obtain ⟨a1, xs1, rfl, e2⟩ := arg_imp e1
  obtain ⟨rfl, e3⟩ := noArg_imp e2
  obtain ⟨a1, rfl, e4⟩ := asS_iff.1 e3
  exact (s29_eq J0 s20 a0 a1 h k).mpr e4
/-- stagepost/stagepostkit.SameTexts -/
noncomputable def s30G (J : Joins) (a0 : AV) (a1 : AV) (h : H) (k : Bool → H → Prop) : Prop :=
lenK a0 fun x1 =>
lenK a1 fun x2 =>
fB (Bool.not (eqI (Int.ofNat x1) (Int.ofNat x2))) fun b3 =>
br b3 (
k false h) (
J.lp (α := AV × AV × AV × Unit) (fun r7 v4 d5 h6 =>
lenK v4.1 fun x8 =>
asI .i64 v4.2.2.1 fun x9 =>
fB (ltI x9 (Int.ofNat x8)) fun b10 =>
br b10 (
ixK 1 v4.1 v4.2.2.1 fun p11 =>
ldS p11 h6 fun s12 =>
ixK 1 v4.2.1 v4.2.2.1 fun p13 =>
ldS p13 h6 fun s14 =>
fB (Bool.not (Str.beq s12 s14)) fun b15 =>
br b15 (
leaveK (gam J []) d5 h6 fun h16 =>
k false h16) (
asI .i64 v4.2.2.1 fun x17 =>
fI (wrapF .i64 (Int.add x17 (Int.ofNat 1))) fun x18 =>
r7 (v4.1, v4.2.1, (AV.int .i64 x18), ()) d5 h6)) (
leaveK (gam J []) d5 h6 fun h19 =>
k true h19)) (a0, a1, (AV.int .i64 (Int.ofNat 0)), ()) [] h)
noncomputable def s30 : AV → AV → H → (Bool → H → Prop) → Prop := s30G J0 
noncomputable def w30 (c : AV → AV → H → (Bool → H → Prop) → Prop) : Fun := fun xs h k => arg xs fun a0 xs => arg xs fun a1 xs => noArg xs <| c a0 a1 h fun r0 h => k (.bool r0) h
theorem s30_eq (J : Joins) (a0 : AV) (a1 : AV) (h : H) (k : AV → H → Prop) : denF ty (gam J []) Try.f30 [a0, a1] h k = s30G J  a0 a1 h (fun r0 h => k (.bool r0) h) := by kernel_rfl
noncomputable def g30 : Fun := w30 s30
theorem g30_ok : FunOk Try.prog 30 g30 := (fun_ok ty_ok mixed (gam_ok (J := J0) (tab_nil fls_fun)) Try.func30 (fun args w => by simp)).imp fun xs h k e0 => by
  obtain ⟨a0, xs0, rfl, e1⟩ := arg_imp e0
  obtain ⟨a1, xs1, rfl, e2⟩ := arg_imp e1
  obtain ⟨rfl, e3⟩ := noArg_imp e2
  exact (s30_eq J0  a0 a1 h k).mpr e3
/-- (*stagepost/vfs.FS).Alter -/
noncomputable def s31G (J : Joins) (c42 : AV → H → (AV → H → Prop) → Prop) (c46 : Str → H → (Bool → H → Prop) → Prop) (a0 : AV) (a1 : Str) (a2 : Int) (a3 : Int) (h : H) (k : Int → H → Prop) : Prop :=
nilB 0 a0 fun b1 =>
J.jn (fun v2 h3 =>
J.jn (fun v5 h6 =>
J.jn (fun v8 h9 =>
J.jn (fun v12 h13 =>
J.jn (fun v16 h17 =>
pickB (AV.bool b1) (AV.bool true) v16 fun b21 =>
br b21 (
k (Int.ofNat 1) h17) (
c46 a1 h17 fun b23 h22 =>
fB (Bool.not b23) fun b24 =>
br b24 (
k (Int.ofNat 2) h22) (
okNil a0 (
faK 0 a0 fun p25 =>
faK 1 p25 fun p26 =>
ldV p26 h22 fun v27 =>
op' (aLookup ty 9 3 true v27 (AV.str a1) h22) fun v28 =>
asTup v28 fun l29 =>
op' (lgetO l29 0) fun v30 =>
asI .i64 v30 fun x31 =>
asTup v28 fun l32 =>
op' (lgetO l32 1) fun v33 =>
asB v33 fun b34 =>
fB (Bool.not b34) fun b35 =>
br b35 (
k (Int.ofNat 4) h22) (
fB (ltI a2 (Int.ofNat 0)) fun b36 =>
J.jn (fun v37 h38 =>
J.jn (fun v40 h41 =>
J.jn (fun v43 h44 =>
J.jn (fun v46 h47 =>
J.jn (fun v50 h51 =>
J.jn (fun v54 h55 =>
J.jn (fun v58 h59 =>
J.jn (fun v61 h62 =>
J.jn (fun v65 h66 =>
J.jn (fun v69 h70 =>
pickB (AV.bool b36) (AV.bool true) v69 fun b75 =>
br b75 (
k (Int.ofNat 2) h70) (
okNil a0 (
faK 0 a0 fun p76 =>
faK 0 p76 fun p77 =>
ldV p77 h70 fun v78 =>
op' (aLookup ty 3 31 false v78 (AV.int .i64 x31) h70) fun v79 =>
c42 v79 h70 fun v81 h80 =>
ixK 1 v81 (AV.int .i64 a2) fun p82 =>
ldI .u8 p82 h80 fun x83 =>
fI (lxorF .u8 x83 a3) fun x84 =>
ixK 1 v81 (AV.int .i64 a2) fun p85 =>
stV p85 (AV.int .u8 x84) h80 fun h86 =>
okNil a0 (
faK 0 a0 fun p87 =>
faK 0 p87 fun p88 =>
ldV p88 h86 fun v89 =>
op' (mapBlk ty 3 v89 (AV.int .i64 x31) v81 h86) fun k90 =>
putK k90.1 k90.2 h86 fun h91 =>
k (Int.ofNat 0) h91)))) fun j71 =>
br b36 (
j71 .junk h66) (
asI .i64 v37 fun x72 =>
asI .i64 v65 fun x73 =>
fB (Bool.not (ltI x72 x73)) fun b74 =>
j71 (AV.bool b74) h66)) fun j67 =>
br b36 (
j67 .junk h62) (
lenK v61 fun x68 =>
j67 (AV.int .i64 (Int.ofNat x68)) h62)) fun j63 =>
br b36 (
j63 .junk h59) (
op' (aLookup ty 3 31 false v54 v58 h59) fun v64 =>
j63 v64 h59)) fun j60 =>
br b36 (
j60 .junk h55) (
j60 (AV.int .i64 x31) h55)) fun j56 =>
br b36 (
j56 .junk h51) (
ldV v50 h51 fun v57 =>
j56 v57 h51)) fun j52 =>
br b36 (
j52 .junk h47) (
faK 0 v46 fun p53 =>
j52 p53 h47)) fun j48 =>
br b36 (
j48 .junk h44) (
faK 0 v43 fun p49 =>
j48 p49 h44)) fun j45 =>
br b36 (
j45 .junk h41) (
okNil v40 (
j45 v40 h41))) fun j42 =>
br b36 (
j42 .junk h38) (
j42 a0 h38)) fun j39 =>
br b36 (
j39 .junk h22) (
j39 (AV.int .i64 a2) h22)))))) fun j18 =>
br b1 (
j18 .junk h13) (
asB v12 fun b19 =>
fB (Bool.not b19) fun b20 =>
j18 (AV.bool b20) h13)) fun j14 =>
br b1 (
j14 .junk h9) (
ldB v8 h9 fun b15 =>
j14 (AV.bool b15) h9)) fun j10 =>
br b1 (
j10 .junk h6) (
faK 9 v5 fun p11 =>
j10 p11 h6)) fun j7 =>
br b1 (
j7 .junk h3) (
okNil v2 (
j7 v2 h3))) fun j4 =>
br b1 (
j4 .junk h) (
j4 a0 h)
noncomputable def s31 : AV → Str → Int → Int → H → (Int → H → Prop) → Prop := s31G J0 s42 s46
noncomputable def w31 (c : AV → Str → Int → Int → H → (Int → H → Prop) → Prop) : Fun := fun xs h k => arg xs fun a0 xs => arg xs fun a1 xs => arg xs fun a2 xs => arg xs fun a3 xs => noArg xs <| asS a1 fun a1 => asI .i64 a2 fun a2 => asI .u8 a3 fun a3 => c a0 a1 a2 a3 h fun r0 h => k (.int .i64 r0) h
theorem s31_eq (J : Joins) (c42 : AV → H → (AV → H → Prop) → Prop) (c46 : Str → H → (Bool → H → Prop) → Prop) (a0 : AV) (a1 : Str) (a2 : Int) (a3 : Int) (h : H) (k : AV → H → Prop) : denF ty (gam J [(42, w42 c42), (46, w46 c46)]) Try.f31 [a0, (.str a1), (.int .i64 a2), (.int .u8 a3)] h k = s31G J c42 c46 a0 a1 a2 a3 h (fun r0 h => k (.int .i64 r0) h) := by kernel_rfl
noncomputable def g31 : Fun := w31 s31
theorem g31_ok : FunOk Try.prog 31 g31 := (fun_ok ty_ok mixed (gam_ok (J := J0) (tab_cons g42_ok (tab_cons g46_ok (tab_nil fls_fun)))) Try.func31 (fun args w => by simp)).imp fun xs h k e0 => by
  obtain ⟨a0, xs0, rfl, e1⟩ := arg_imp e0
  obtain ⟨a1, xs1, rfl, e2⟩ := arg_imp e1
  obtain ⟨a2, xs2, rfl, e3⟩ := arg_imp e2
  obtain ⟨a3, xs3, rfl, e4⟩ := arg_imp e3
  obtain ⟨rfl, e5⟩ := noArg_imp e4
  obtain ⟨a1, rfl, e6⟩ := asS_iff.1 e5
  obtain ⟨a2, rfl, e7⟩ := asI_iff.1 e6
  obtain ⟨a3, rfl, e8⟩ := asI_iff.1 e7
  exact (s31_eq J0 s42 s46 a0 a1 a2 a3 h k).mpr e8
/-- stagepost/stagepostlaw04.VfsNames -/
noncomputable def s7G (J : Joins) (c9 : H → (Bool → H → Prop) → Prop) (c10 : Int → H → (AV → Int → H → Prop) → Prop) (c11 : AV → Str → H → (Int → H → Prop) → Prop) (c12 : AV → H → (Int → H → Prop) → Prop) (c13 : AV → Int → H → (Int → H → Prop) → Prop) (c14 : AV → Str → H → (Int → H → Prop) → Prop) (c16 : AV → Str → AV → H → (Int → H → Prop) → Prop) (c17 : AV → Int → Int → H → (Int → H → Prop) → Prop) (c18 : AV → H → (Bool → H → Prop) → Prop) (c24 : AV → Str → Str → H → (Int → H → Prop) → Prop) (c26 : AV → H → (AV → H → Prop) → Prop) (c29 : AV → Str → H → (Str → H → Prop) → Prop) (c30 : AV → AV → H → (Bool → H → Prop) → Prop) (c31 : AV → Str → Int → Int → H → (Int → H → Prop) → Prop) (h : H) (k : Bool → H → Prop) : Prop :=
c10 (Int.ofNat 100) h fun v2 x3 h1 =>
fB (Bool.not true) fun b4 =>
J.jn (fun v5 h6 =>
J.jn (fun v10 h11 =>
pickB (AV.bool b4) (AV.bool true) v10 fun b15 =>
J.jn (fun v16 h17 =>
J.jn (fun v19 h20 =>
pickB (AV.bool b15) (AV.bool true) v19 fun b24 =>
br b24 (
k false h20) (
c11 v2 ⟨1, 97⟩ h20 fun x26 h25 =>
fB (eqI x26 (Int.ofNat 0)) fun b27 =>
J.jn (fun v28 h29 =>
J.jn (fun v31 h32 =>
J.jn (fun v37 h38 =>
J.jn (fun v41 h42 =>
J.jn (fun v46 h47 =>
pickB (AV.bool b27) v46 (AV.bool false) fun b51 =>
J.jn (fun v52 h53 =>
J.jn (fun v55 h56 =>
J.jn (fun v60 h61 =>
pickB (AV.bool b51) v60 (AV.bool false) fun b65 =>
J.jn (fun v66 h67 =>
J.jn (fun v69 h70 =>
J.jn (fun v74 h75 =>
pickB (AV.bool b65) v74 (AV.bool false) fun b79 =>
J.jn (fun v80 h81 =>
J.jn (fun v83 h84 =>
J.jn (fun v88 h89 =>
pickB (AV.bool b79) v88 (AV.bool false) fun b93 =>
c11 v2 ⟨1, 98⟩ h89 fun x95 h94 =>
fB (eqI x95 (Int.ofNat 0)) fun b96 =>
J.jn (fun v97 h98 =>
J.jn (fun v100 h101 =>
J.jn (fun v106 h107 =>
J.jn (fun v110 h111 =>
J.jn (fun v115 h116 =>
pickB (AV.bool b96) v115 (AV.bool false) fun b120 =>
J.jn (fun v121 h122 =>
J.jn (fun v124 h125 =>
J.jn (fun v129 h130 =>
pickB (AV.bool b120) v129 (AV.bool false) fun b134 =>
J.jn (fun v135 h136 =>
J.jn (fun v138 h139 =>
J.jn (fun v143 h144 =>
pickB (AV.bool b134) v143 (AV.bool false) fun b148 =>
J.jn (fun v149 h150 =>
J.jn (fun v152 h153 =>
J.jn (fun v157 h158 =>
pickB (AV.bool b148) v157 (AV.bool false) fun b162 =>
J.jn (fun v163 h164 =>
J.jn (fun v166 h167 =>
J.jn (fun v171 h172 =>
pickB (AV.bool b162) v171 (AV.bool false) fun b176 =>
J.jn (fun v177 h178 =>
J.jn (fun v180 h181 =>
J.jn (fun v185 h186 =>
J.jn (fun v190 h191 =>
pickB (AV.bool b176) v190 (AV.bool false) fun b195 =>
c24 v2 ⟨1, 98⟩ ⟨1, 97⟩ h191 fun x197 h196 =>
fB (eqI x197 (Int.ofNat 0)) fun b198 =>
J.jn (fun v199 h200 =>
J.jn (fun v202 h203 =>
J.jn (fun v207 h208 =>
pickB (AV.bool b198) v207 (AV.bool false) fun b212 =>
J.jn (fun v213 h214 =>
J.jn (fun v216 h217 =>
J.jn (fun v221 h222 =>
pickB (AV.bool b212) v221 (AV.bool false) fun b226 =>
J.jn (fun v227 h228 =>
J.jn (fun v230 h231 =>
J.jn (fun v235 h236 =>
J.jn (fun v240 h241 =>
pickB (AV.bool b226) v240 (AV.bool false) fun b245 =>
J.jn (fun v246 h247 =>
J.jn (fun v249 h250 =>
J.jn (fun v254 h255 =>
pickB (AV.bool b245) v254 (AV.bool false) fun b259 =>
c31 v2 ⟨1, 97⟩ (Int.ofNat 0) (Int.ofNat 1) h255 fun x261 h260 =>
fB (eqI x261 (Int.ofNat 0)) fun b262 =>
J.jn (fun v263 h264 =>
J.jn (fun v266 h267 =>
J.jn (fun v271 h272 =>
pickB (AV.bool b262) v271 (AV.bool false) fun b276 =>
J.jn (fun v277 h278 =>
J.jn (fun v280 h281 =>
J.jn (fun v285 h286 =>
pickB (AV.bool b276) v285 (AV.bool false) fun b290 =>
J.jn (fun v291 h292 =>
J.jn (fun v294 h295 =>
J.jn (fun v299 h300 =>
pickB (AV.bool b290) v299 (AV.bool false) fun b304 =>
c13 v2 (Int.ofNat 1) h300 fun x306 h305 =>
fB (eqI x306 (Int.ofNat 0)) fun b307 =>
J.jn (fun v308 h309 =>
J.jn (fun v311 h312 =>
J.jn (fun v316 h317 =>
pickB (AV.bool b307) v316 (AV.bool false) fun b321 =>
J.jn (fun v322 h323 =>
J.jn (fun v325 h326 =>
J.jn (fun v330 h331 =>
pickB (AV.bool b321) v330 (AV.bool false) fun b335 =>
J.jn (fun v336 h337 =>
J.jn (fun v339 h340 =>
J.jn (fun v344 h345 =>
pickB (AV.bool b335) v344 (AV.bool false) fun b349 =>
J.jn (fun v350 h351 =>
J.jn (fun v353 h354 =>
J.jn (fun v358 h359 =>
pickB (AV.bool b349) v358 (AV.bool false) fun b363 =>
J.jn (fun v364 h365 =>
J.jn (fun v367 h368 =>
J.jn (fun v372 h373 =>
J.jn (fun v377 h378 =>
pickB (AV.bool b363) v377 (AV.bool false) fun b382 =>
c10 (Int.negSucc 0) h378 fun v384 x385 h383 =>
J.jn (fun v386 h387 =>
pickB (AV.bool b93) v386 (AV.bool false) fun b389 =>
J.jn (fun v390 h391 =>
pickB (AV.bool b389) v390 (AV.bool false) fun b393 =>
J.jn (fun v394 h395 =>
pickB (AV.bool b393) v394 (AV.bool false) fun b397 =>
J.jn (fun v398 h399 =>
pickB (AV.bool b397) v398 (AV.bool false) fun b401 =>
J.jn (fun v402 h403 =>
J.jn (fun v405 h406 =>
pickB (AV.bool b401) v405 (AV.bool false) fun b410 =>
k b410 h406) fun j407 =>
br b401 (
asI .i64 v402 fun x408 =>
fB (eqI x408 (Int.ofNat 2)) fun b409 =>
j407 (AV.bool b409) h403) (
j407 .junk h403)) fun j404 =>
br b401 (
j404 (AV.int .i64 x385) h399) (
j404 .junk h399)) fun j400 =>
br b397 (
j400 (AV.bool b382) h395) (
j400 .junk h395)) fun j396 =>
br b393 (
j396 (AV.bool b304) h391) (
j396 .junk h391)) fun j392 =>
br b389 (
j392 (AV.bool b259) h387) (
j392 .junk h387)) fun j388 =>
br b93 (
j388 (AV.bool b195) h383) (
j388 .junk h383)) fun j379 =>
br b363 (
c30 v367 v372 h373 fun b381 h380 =>
j379 (AV.bool b381) h380) (
j379 .junk h373)) fun j374 =>
br b363 (
pushK (.cells false 9 [(AV.str ⟨1, 97⟩), (AV.str ⟨1, 99⟩)]) h368 fun n375 h376 =>
j374 (AV.slice n375 0 2 2 1 true) h376) (
j374 .junk h368)) fun j369 =>
br b363 (
c26 v364 h365 fun v371 h370 =>
j369 v371 h370) (
j369 .junk h365)) fun j366 =>
br b363 (
j366 v2 h359) (
j366 .junk h359)) fun j360 =>
br b349 (
asI .i64 v353 fun x361 =>
fB (eqI x361 (Int.ofNat 0)) fun b362 =>
j360 (AV.bool b362) h354) (
j360 .junk h354)) fun j355 =>
br b349 (
c17 v350 (Int.ofNat 9) (Int.ofNat 9) h351 fun x357 h356 =>
j355 (AV.int .i64 x357) h356) (
j355 .junk h351)) fun j352 =>
br b349 (
j352 v2 h345) (
j352 .junk h345)) fun j346 =>
br b335 (
asB v339 fun b347 =>
fB (Bool.not b347) fun b348 =>
j346 (AV.bool b348) h340) (
j346 .junk h340)) fun j341 =>
br b335 (
c18 v336 h337 fun b343 h342 =>
j341 (AV.bool b343) h342) (
j341 .junk h337)) fun j338 =>
br b335 (
j338 v2 h331) (
j338 .junk h331)) fun j332 =>
br b321 (
asI .i64 v325 fun x333 =>
fB (eqI x333 (Int.ofNat 7)) fun b334 =>
j332 (AV.bool b334) h326) (
j332 .junk h326)) fun j327 =>
br b321 (
c12 v322 h323 fun x329 h328 =>
j327 (AV.int .i64 x329) h328) (
j327 .junk h323)) fun j324 =>
br b321 (
j324 v2 h317) (
j324 .junk h317)) fun j318 =>
br b307 (
asI .i64 v311 fun x319 =>
fB (eqI x319 (Int.ofNat 0)) fun b320 =>
j318 (AV.bool b320) h312) (
j318 .junk h312)) fun j313 =>
br b307 (
c11 v308 ⟨1, 99⟩ h309 fun x315 h314 =>
j313 (AV.int .i64 x315) h314) (
j313 .junk h309)) fun j310 =>
br b307 (
j310 v2 h305) (
j310 .junk h305)) fun j301 =>
br b290 (
asI .i64 v294 fun x302 =>
fB (eqI x302 (Int.ofNat 4)) fun b303 =>
j301 (AV.bool b303) h295) (
j301 .junk h295)) fun j296 =>
br b290 (
c31 v291 ⟨1, 99⟩ (Int.ofNat 0) (Int.ofNat 1) h292 fun x298 h297 =>
j296 (AV.int .i64 x298) h297) (
j296 .junk h292)) fun j293 =>
br b290 (
j293 v2 h286) (
j293 .junk h286)) fun j287 =>
br b276 (
asI .i64 v280 fun x288 =>
fB (eqI x288 (Int.ofNat 2)) fun b289 =>
j287 (AV.bool b289) h281) (
j287 .junk h281)) fun j282 =>
br b276 (
c31 v277 ⟨1, 97⟩ (Int.ofNat 1) (Int.ofNat 1) h278 fun x284 h283 =>
j282 (AV.int .i64 x284) h283) (
j282 .junk h278)) fun j279 =>
br b276 (
j279 v2 h272) (
j279 .junk h272)) fun j273 =>
br b262 (
asS v266 fun s274 =>
fB (Str.beq s274 (⟨1, 123⟩ : Str)) fun b275 =>
j273 (AV.bool b275) h267) (
j273 .junk h267)) fun j268 =>
br b262 (
c29 v263 ⟨1, 97⟩ h264 fun s270 h269 =>
j268 (AV.str s270) h269) (
j268 .junk h264)) fun j265 =>
br b262 (
j265 v2 h260) (
j265 .junk h260)) fun j256 =>
br b245 (
asS v249 fun s257 =>
fB (Str.beq s257 (⟨1, 122⟩ : Str)) fun b258 =>
j256 (AV.bool b258) h250) (
j256 .junk h250)) fun j251 =>
br b245 (
c29 v246 ⟨1, 97⟩ h247 fun s253 h252 =>
j251 (AV.str s253) h252) (
j251 .junk h247)) fun j248 =>
br b245 (
j248 v2 h241) (
j248 .junk h241)) fun j242 =>
br b226 (
c30 v230 v235 h236 fun b244 h243 =>
j242 (AV.bool b244) h243) (
j242 .junk h236)) fun j237 =>
br b226 (
pushK (.cells false 9 [(AV.str ⟨1, 97⟩)]) h231 fun n238 h239 =>
j237 (AV.slice n238 0 1 1 1 true) h239) (
j237 .junk h231)) fun j232 =>
br b226 (
c26 v227 h228 fun v234 h233 =>
j232 v234 h233) (
j232 .junk h228)) fun j229 =>
br b226 (
j229 v2 h222) (
j229 .junk h222)) fun j223 =>
br b212 (
asI .i64 v216 fun x224 =>
fB (eqI x224 (Int.ofNat 0)) fun b225 =>
j223 (AV.bool b225) h217) (
j223 .junk h217)) fun j218 =>
br b212 (
c17 v213 (Int.ofNat 0) (Int.ofNat 0) h214 fun x220 h219 =>
j218 (AV.int .i64 x220) h219) (
j218 .junk h214)) fun j215 =>
br b212 (
j215 v2 h208) (
j215 .junk h208)) fun j209 =>
br b198 (
asI .i64 v202 fun x210 =>
fB (eqI x210 (Int.ofNat 0)) fun b211 =>
j209 (AV.bool b211) h203) (
j209 .junk h203)) fun j204 =>
br b198 (
c12 v199 h200 fun x206 h205 =>
j204 (AV.int .i64 x206) h205) (
j204 .junk h200)) fun j201 =>
br b198 (
j201 v2 h196) (
j201 .junk h196)) fun j192 =>
br b176 (
c30 v180 v185 h186 fun b194 h193 =>
j192 (AV.bool b194) h193) (
j192 .junk h186)) fun j187 =>
br b176 (
pushK (.cells false 9 [(AV.str ⟨1, 97⟩), (AV.str ⟨1, 98⟩)]) h181 fun n188 h189 =>
j187 (AV.slice n188 0 2 2 1 true) h189) (
j187 .junk h181)) fun j182 =>
br b176 (
c26 v177 h178 fun v184 h183 =>
j182 v184 h183) (
j182 .junk h178)) fun j179 =>
br b176 (
j179 v2 h172) (
j179 .junk h172)) fun j173 =>
br b162 (
asI .i64 v166 fun x174 =>
fB (eqI x174 (Int.ofNat 0)) fun b175 =>
j173 (AV.bool b175) h167) (
j173 .junk h167)) fun j168 =>
br b162 (
c17 v163 (Int.ofNat 0) (Int.ofNat 0) h164 fun x170 h169 =>
j168 (AV.int .i64 x170) h169) (
j168 .junk h164)) fun j165 =>
br b162 (
j165 v2 h158) (
j165 .junk h158)) fun j159 =>
br b148 (
asI .i64 v152 fun x160 =>
fB (eqI x160 (Int.ofNat 0)) fun b161 =>
j159 (AV.bool b161) h153) (
j159 .junk h153)) fun j154 =>
br b148 (
c24 v149 ⟨1, 98⟩ ⟨1, 97⟩ h150 fun x156 h155 =>
j154 (AV.int .i64 x156) h155) (
j154 .junk h150)) fun j151 =>
br b148 (
j151 v2 h144) (
j151 .junk h144)) fun j145 =>
br b134 (
asI .i64 v138 fun x146 =>
fB (eqI x146 (Int.ofNat 0)) fun b147 =>
j145 (AV.bool b147) h139) (
j145 .junk h139)) fun j140 =>
br b134 (
c12 v135 h136 fun x142 h141 =>
j140 (AV.int .i64 x142) h141) (
j140 .junk h136)) fun j137 =>
br b134 (
j137 v2 h130) (
j137 .junk h130)) fun j131 =>
br b120 (
asI .i64 v124 fun x132 =>
fB (eqI x132 (Int.ofNat 0)) fun b133 =>
j131 (AV.bool b133) h125) (
j131 .junk h125)) fun j126 =>
br b120 (
c14 v121 ⟨1, 98⟩ h122 fun x128 h127 =>
j126 (AV.int .i64 x128) h127) (
j126 .junk h122)) fun j123 =>
br b120 (
j123 v2 h116) (
j123 .junk h116)) fun j117 =>
br b96 (
asI .i64 v110 fun x118 =>
fB (eqI x118 (Int.ofNat 0)) fun b119 =>
j117 (AV.bool b119) h111) (
j117 .junk h111)) fun j112 =>
br b96 (
c16 v97 ⟨1, 98⟩ v106 h107 fun x114 h113 =>
j112 (AV.int .i64 x114) h113) (
j112 .junk h107)) fun j108 =>
br b96 (
markF v100 h101 fun _ h109 =>
j108 v100 h109) (
j108 .junk h101)) fun j102 =>
br b96 (
op' (asRow true 5 [(AV.int .u8 (Int.ofNat 122))]) fun k105 =>
pushK k105 h98 fun n103 h104 =>
j102 (AV.slice n103 0 1 1 1 true) h104) (
j102 .junk h98)) fun j99 =>
br b96 (
j99 v2 h94) (
j99 .junk h94)) fun j90 =>
br b79 (
asS v83 fun s91 =>
fB (Str.beq s91 (⟨1, 120⟩ : Str)) fun b92 =>
j90 (AV.bool b92) h84) (
j90 .junk h84)) fun j85 =>
br b79 (
c29 v80 ⟨1, 97⟩ h81 fun s87 h86 =>
j85 (AV.str s87) h86) (
j85 .junk h81)) fun j82 =>
br b79 (
j82 v2 h75) (
j82 .junk h75)) fun j76 =>
br b65 (
asI .i64 v69 fun x77 =>
fB (eqI x77 (Int.ofNat 0)) fun b78 =>
j76 (AV.bool b78) h70) (
j76 .junk h70)) fun j71 =>
br b65 (
c17 v66 (Int.ofNat 0) (Int.ofNat 1) h67 fun x73 h72 =>
j71 (AV.int .i64 x73) h72) (
j71 .junk h67)) fun j68 =>
br b65 (
j68 v2 h61) (
j68 .junk h61)) fun j62 =>
br b51 (
asI .i64 v55 fun x63 =>
fB (eqI x63 (Int.ofNat 0)) fun b64 =>
j62 (AV.bool b64) h56) (
j62 .junk h56)) fun j57 =>
br b51 (
c12 v52 h53 fun x59 h58 =>
j57 (AV.int .i64 x59) h58) (
j57 .junk h53)) fun j54 =>
br b51 (
j54 v2 h47) (
j54 .junk h47)) fun j48 =>
br b27 (
asI .i64 v41 fun x49 =>
fB (eqI x49 (Int.ofNat 0)) fun b50 =>
j48 (AV.bool b50) h42) (
j48 .junk h42)) fun j43 =>
br b27 (
c16 v28 ⟨1, 97⟩ v37 h38 fun x45 h44 =>
j43 (AV.int .i64 x45) h44) (
j43 .junk h38)) fun j39 =>
br b27 (
markF v31 h32 fun _ h40 =>
j39 v31 h40) (
j39 .junk h32)) fun j33 =>
br b27 (
op' (asRow true 5 [(AV.int .u8 (Int.ofNat 120)), (AV.int .u8 (Int.ofNat 121))]) fun k36 =>
pushK k36 h29 fun n34 h35 =>
j33 (AV.slice n34 0 2 2 1 true) h35) (
j33 .junk h29)) fun j30 =>
br b27 (
j30 v2 h25) (
j30 .junk h25))) fun j21 =>
br b15 (
j21 .junk h17) (
asI .i64 v16 fun x22 =>
fB (Bool.not (eqI x22 (Int.ofNat 0))) fun b23 =>
j21 (AV.bool b23) h17)) fun j18 =>
br b15 (
j18 .junk h11) (
j18 (AV.int .i64 x3) h11)) fun j12 =>
br b4 (
j12 .junk h6) (
asB v5 fun b13 =>
fB (Bool.not b13) fun b14 =>
j12 (AV.bool b14) h6)) fun j7 =>
br b4 (
j7 .junk h1) (
c9  h1 fun b9 h8 =>
j7 (AV.bool b9) h8)
noncomputable def s7 : H → (Bool → H → Prop) → Prop := s7G J0 s9 s10 s11 s12 s13 s14 s16 s17' s18 s24 s26 s29 s30 s31
noncomputable def w7 (c : H → (Bool → H → Prop) → Prop) : Fun := fun xs h k => noArg xs <| c  h fun r0 h => k (.bool r0) h
theorem s7_eq (J : Joins) (c9 : H → (Bool → H → Prop) → Prop) (c10 : Int → H → (AV → Int → H → Prop) → Prop) (c11 : AV → Str → H → (Int → H → Prop) → Prop) (c12 : AV → H → (Int → H → Prop) → Prop) (c13 : AV → Int → H → (Int → H → Prop) → Prop) (c14 : AV → Str → H → (Int → H → Prop) → Prop) (c16 : AV → Str → AV → H → (Int → H → Prop) → Prop) (c17 : AV → Int → Int → H → (Int → H → Prop) → Prop) (c18 : AV → H → (Bool → H → Prop) → Prop) (c24 : AV → Str → Str → H → (Int → H → Prop) → Prop) (c26 : AV → H → (AV → H → Prop) → Prop) (c29 : AV → Str → H → (Str → H → Prop) → Prop) (c30 : AV → AV → H → (Bool → H → Prop) → Prop) (c31 : AV → Str → Int → Int → H → (Int → H → Prop) → Prop)  (h : H) (k : AV → H → Prop) : denF ty (gam J [(9, w9 c9), (10, w10 c10), (11, w11 c11), (12, w12 c12), (13, w13 c13), (14, w14 c14), (16, w16 c16), (17, w17 c17), (18, w18 c18), (24, w24 c24), (26, w26 c26), (29, w29 c29), (30, w30 c30), (31, w31 c31)]) Try.f7 [] h k = s7G J c9 c10 c11 c12 c13 c14 c16 c17 c18 c24 c26 c29 c30 c31  h (fun r0 h => k (.bool r0) h) := by kernel_rfl
noncomputable def g7 : Fun := w7 s7
theorem g7_ok : FunOk Try.prog 7 g7 := (fun_ok ty_ok mixed (gam_ok (J := J0) (tab_cons g9_ok (tab_cons g10_ok (tab_cons g11_ok (tab_cons g12_ok (tab_cons g13_ok (tab_cons g14_ok (tab_cons g16_ok (tab_cons g17'_ok (tab_cons g18_ok (tab_cons g24_ok (tab_cons g26_ok (tab_cons g29_ok (tab_cons g30_ok (tab_cons g31_ok (tab_nil fls_fun)))))))))))))))) Try.func7 (fun args w => by simp)).imp fun xs h k e0 => by
  obtain ⟨rfl, e1⟩ := noArg_imp e0
  exact (s7_eq J0 s9 s10 s11 s12 s13 s14 s16 s17' s18 s24 s26 s29 s30 s31  h k).mpr e1
/-- (*stagepost/vfs.FS).Remove -/
noncomputable def s25G (J : Joins) (c36 : AV → AV → H → (Int → H → Prop) → Prop) (c39 : AV → Str → H → (Int → Int → H → Prop) → Prop) (a0 : AV) (a1 : Str) (h : H) (k : Int → H → Prop) : Prop :=
c39 a0 a1 h fun x2 x3 h1 =>
fB (Bool.not (eqI x3 (Int.ofNat 0))) fun b4 =>
br b4 (
k x3 h1) (
c36 a0 (AV.agg [(AV.int .i64 (Int.ofNat 3)), (AV.str a1), (.str ⟨0, 0⟩), (.int .i64 0), (.nils)]) h1 fun x6 h5 =>
k x6 h5)
noncomputable def s25 : AV → Str → H → (Int → H → Prop) → Prop := s25G J0 s36 s39
noncomputable def w25 (c : AV → Str → H → (Int → H → Prop) → Prop) : Fun := fun xs h k => arg xs fun a0 xs => arg xs fun a1 xs => noArg xs <| asS a1 fun a1 => c a0 a1 h fun r0 h => k (.int .i64 r0) h
theorem s25_eq (J : Joins) (c36 : AV → AV → H → (Int → H → Prop) → Prop) (c39 : AV → Str → H → (Int → Int → H → Prop) → Prop) (a0 : AV) (a1 : Str) (h : H) (k : AV → H → Prop) : denF ty (gam J [(36, w36 c36), (39, w39 c39)]) Try.f25 [a0, (.str a1)] h k = s25G J c36 c39 a0 a1 h (fun r0 h => k (.int .i64 r0) h) := by kernel_rfl
noncomputable def g25 : Fun := w25 s25
theorem g25_ok : FunOk Try.prog 25 g25 := (fun_ok ty_ok mixed (gam_ok (J := J0) (tab_cons g36_ok (tab_cons g39_ok (tab_nil fls_fun)))) Try.func25 (fun args w => by simp)).imp fun xs h k e0 => by
  obtain ⟨a0, xs0, rfl, e1⟩ := arg_imp e0
  obtain ⟨a1, xs1, rfl, e2⟩ := arg_imp e1
  obtain ⟨rfl, e3⟩ := noArg_imp e2
  obtain ⟨a1, rfl, e4⟩ := asS_iff.1 e3
  exact (s25_eq J0 s36 s39 a0 a1 h k).mpr e4
/-- (*stagepost/vfs.FS).Steps -/
noncomputable def s28G (J : Joins) (a0 : AV) (h : H) (k : Int → H → Prop) : Prop :=
nilB 0 a0 fun b1 =>
br b1 (
k (Int.ofNat 0) h) (
okNil a0 (
faK 8 a0 fun p2 =>
ldI .i64 p2 h fun x3 =>
k x3 h))
noncomputable def s28 : AV → H → (Int → H → Prop) → Prop := s28G J0 
noncomputable def w28 (c : AV → H → (Int → H → Prop) → Prop) : Fun := fun xs h k => arg xs fun a0 xs => noArg xs <| c a0 h fun r0 h => k (.int .i64 r0) h
theorem s28_eq (J : Joins) (a0 : AV) (h : H) (k : AV → H → Prop) : denF ty (gam J []) Try.f28 [a0] h k = s28G J  a0 h (fun r0 h => k (.int .i64 r0) h) := by kernel_rfl
noncomputable def g28 : Fun := w28 s28
theorem g28_ok : FunOk Try.prog 28 g28 := (fun_ok ty_ok mixed (gam_ok (J := J0) (tab_nil fls_fun)) Try.func28 (fun args w => by simp)).imp fun xs h k e0 => by
  obtain ⟨a0, xs0, rfl, e1⟩ := arg_imp e0
  obtain ⟨rfl, e2⟩ := noArg_imp e1
  exact (s28_eq J0  a0 h k).mpr e2
/-- (*stagepost/vfs.FS).Durable -/
noncomputable def s32G (J : Joins) (c42 : AV → H → (AV → H → Prop) → Prop) (a0 : AV) (a1 : Str) (h : H) (k : AV → Bool → H → Prop) : Prop :=
nilB 0 a0 fun b1 =>
J.jn (fun v2 h3 =>
J.jn (fun v5 h6 =>
J.jn (fun v8 h9 =>
J.jn (fun v12 h13 =>
J.jn (fun v16 h17 =>
pickB (AV.bool b1) (AV.bool true) v16 fun b21 =>
br b21 (
k AV.nils false h17) (
okNil a0 (
faK 0 a0 fun p22 =>
faK 1 p22 fun p23 =>
ldV p23 h17 fun v24 =>
op' (aLookup ty 9 3 true v24 (AV.str a1) h17) fun v25 =>
asTup v25 fun l26 =>
op' (lgetO l26 0) fun v27 =>
asI .i64 v27 fun x28 =>
asTup v25 fun l29 =>
op' (lgetO l29 1) fun v30 =>
asB v30 fun b31 =>
fB (Bool.not b31) fun b32 =>
br b32 (
k AV.nils false h17) (
okNil a0 (
faK 0 a0 fun p33 =>
faK 0 p33 fun p34 =>
ldV p34 h17 fun v35 =>
op' (aLookup ty 3 31 false v35 (AV.int .i64 x28) h17) fun v36 =>
c42 v36 h17 fun v38 h37 =>
k v38 true h37))))) fun j18 =>
br b1 (
j18 .junk h13) (
asB v12 fun b19 =>
fB (Bool.not b19) fun b20 =>
j18 (AV.bool b20) h13)) fun j14 =>
br b1 (
j14 .junk h9) (
ldB v8 h9 fun b15 =>
j14 (AV.bool b15) h9)) fun j10 =>
br b1 (
j10 .junk h6) (
faK 9 v5 fun p11 =>
j10 p11 h6)) fun j7 =>
br b1 (
j7 .junk h3) (
okNil v2 (
j7 v2 h3))) fun j4 =>
br b1 (
j4 .junk h) (
j4 a0 h)
noncomputable def s32 : AV → Str → H → (AV → Bool → H → Prop) → Prop := s32G J0 s42
noncomputable def w32 (c : AV → Str → H → (AV → Bool → H → Prop) → Prop) : Fun := fun xs h k => arg xs fun a0 xs => arg xs fun a1 xs => noArg xs <| asS a1 fun a1 => c a0 a1 h fun r0 r1 h => k (.tuple [r0, (.bool r1)]) h
theorem s32_eq (J : Joins) (c42 : AV → H → (AV → H → Prop) → Prop) (a0 : AV) (a1 : Str) (h : H) (k : AV → H → Prop) : denF ty (gam J [(42, w42 c42)]) Try.f32 [a0, (.str a1)] h k = s32G J c42 a0 a1 h (fun r0 r1 h => k (.tuple [r0, (.bool r1)]) h) := by kernel_rfl
noncomputable def g32 : Fun := w32 s32
theorem g32_ok : FunOk Try.prog 32 g32 := (fun_ok ty_ok mixed (gam_ok (J := J0) (tab_cons g42_ok (tab_nil fls_fun))) Try.func32 (fun args w => by simp)).imp fun xs h k e0 => by
  obtain ⟨a0, xs0, rfl, e1⟩ := arg_imp e0
  obtain ⟨a1, xs1, rfl, e2⟩ := arg_imp e1
  obtain ⟨rfl, e3⟩ := noArg_imp e2
  obtain ⟨a1, rfl, e4⟩ := asS_iff.1 e3
  exact (s32_eq J0 s42 a0 a1 h k).mpr e4
/-- (*stagepost/vfs.FS).Safe -/
noncomputable def s33G (J : Joins) (c34 : AV → AV → H → (Int → H → Prop) → Prop) (a0 : AV) (h : H) (k : Int → H → Prop) : Prop :=
c34 a0 AV.nils h fun x2 h1 =>
fB (Bool.not (eqI x2 (Int.ofNat 0))) fun b3 =>
br b3 (
k x2 h1) (
okNil a0 (
faK 6 a0 fun p4 =>
stV p4 (AV.bool false) h1 fun h5 =>
k (Int.ofNat 0) h5))
noncomputable def s33 : AV → H → (Int → H → Prop) → Prop := s33G J0 s34
noncomputable def w33 (c : AV → H → (Int → H → Prop) → Prop) : Fun := fun xs h k => arg xs fun a0 xs => noArg xs <| c a0 h fun r0 h => k (.int .i64 r0) h
theorem s33_eq (J : Joins) (c34 : AV → AV → H → (Int → H → Prop) → Prop) (a0 : AV) (h : H) (k : AV → H → Prop) : denF ty (gam J [(34, w34 c34)]) Try.f33 [a0] h k = s33G J c34 a0 h (fun r0 h => k (.int .i64 r0) h) := by kernel_rfl
noncomputable def g33 : Fun := w33 s33
theorem g33_ok : FunOk Try.prog 33 g33 := (fun_ok ty_ok mixed (gam_ok (J := J0) (tab_cons g34_ok (tab_nil fls_fun))) Try.func33 (fun args w => by simp)).imp fun xs h k e0 => by
  obtain ⟨a0, xs0, rfl, e1⟩ := arg_imp e0
  obtain ⟨rfl, e2⟩ := noArg_imp e1
  exact (s33_eq J0 s34 a0 h k).mpr e2
/-- stagepost/stagepostlaw04.VfsNil -/
noncomputable def s8G (J : Joins) (c9 : H → (Bool → H → Prop) → Prop) (c11 : AV → Str → H → (Int → H → Prop) → Prop) (c12 : AV → H → (Int → H → Prop) → Prop) (c13 : AV → Int → H → (Int → H → Prop) → Prop) (c14 : AV → Str → H → (Int → H → Prop) → Prop) (c16 : AV → Str → AV → H → (Int → H → Prop) → Prop) (c17 : AV → Int → Int → H → (Int → H → Prop) → Prop) (c18 : AV → H → (Bool → H → Prop) → Prop) (c19 : AV → H → (Int → H → Prop) → Prop) (c20 : AV → Str → H → (AV → Int → H → Prop) → Prop) (c24 : AV → Str → Str → H → (Int → H → Prop) → Prop) (c25 : AV → Str → H → (Int → H → Prop) → Prop) (c26 : AV → H → (AV → H → Prop) → Prop) (c27 : AV → H → (Int → H → Prop) → Prop) (c28 : AV → H → (Int → H → Prop) → Prop) (c31 : AV → Str → Int → Int → H → (Int → H → Prop) → Prop) (c32 : AV → Str → H → (AV → Bool → H → Prop) → Prop) (c33 : AV → H → (Int → H → Prop) → Prop) (a0 : AV) (h : H) (k : Bool → H → Prop) : Prop :=
Go.Am.asAgg a0 fun l3 =>
pushK (.cells false 44 l3) h fun n1 h2 =>
pushK (.cells false 60 [(.nilm), (.nilm), (.nils), (.int .i64 0), (.int .i64 0), (.bool false), (.bool false), (.int .i64 0), (.int .i64 0), (.bool false)]) h2 fun n4 h5 =>
pushK (.cells false 24 [AV.nilp, (AV.ptr n4 0)]) h5 fun n6 h7 =>
J.lp (α := AV × AV × AV × Unit) (fun r11 v8 d9 h10 =>
lenK v8.2.1 fun x12 =>
asI .i64 v8.2.2.1 fun x13 =>
fB (ltI x13 (Int.ofNat x12)) fun b14 =>
br b14 (
ixK 1 v8.2.1 v8.2.2.1 fun p15 =>
ldV p15 h10 fun v16 =>
faK 1 v8.1 fun p17 =>
ldS p17 h10 fun s18 =>
c20 v16 s18 h10 fun v20 x21 h19 =>
faK 1 v8.1 fun p22 =>
ldS p22 h19 fun s23 =>
c32 v16 s23 h19 fun v25 b26 h24 =>
faK 1 v8.1 fun p27 =>
ldS p27 h24 fun s28 =>
c11 v16 s28 h24 fun x30 h29 =>
fB (Bool.not (eqI x30 (Int.ofNat 1))) fun b31 =>
J.jn (fun v32 h33 =>
J.jn (fun v35 h36 =>
J.jn (fun v39 h40 =>
J.jn (fun v43 h44 =>
J.jn (fun v47 h48 =>
J.jn (fun v51 h52 =>
J.jn (fun v57 h58 =>
pickB (AV.bool b31) (AV.bool true) v57 fun b62 =>
J.jn (fun v63 h64 =>
J.jn (fun v66 h67 =>
J.jn (fun v70 h71 =>
J.jn (fun v74 h75 =>
J.jn (fun v78 h79 =>
J.jn (fun v82 h83 =>
J.jn (fun v89 h90 =>
pickB (AV.bool b62) (AV.bool true) v89 fun b94 =>
J.jn (fun v95 h96 =>
J.jn (fun v98 h99 =>
J.jn (fun v102 h103 =>
J.jn (fun v106 h107 =>
J.jn (fun v112 h113 =>
pickB (AV.bool b94) (AV.bool true) v112 fun b117 =>
J.jn (fun v118 h119 =>
J.jn (fun v121 h122 =>
J.jn (fun v125 h126 =>
J.jn (fun v129 h130 =>
J.jn (fun v135 h136 =>
pickB (AV.bool b117) (AV.bool true) v135 fun b140 =>
J.jn (fun v141 h142 =>
J.jn (fun v144 h145 =>
J.jn (fun v149 h150 =>
pickB (AV.bool b140) (AV.bool true) v149 fun b154 =>
J.jn (fun v155 h156 =>
J.jn (fun v158 h159 =>
J.jn (fun v162 h163 =>
J.jn (fun v166 h167 =>
J.jn (fun v172 h173 =>
pickB (AV.bool b154) (AV.bool true) v172 fun b177 =>
J.jn (fun v178 h179 =>
J.jn (fun v181 h182 =>
J.jn (fun v186 h187 =>
pickB (AV.bool b177) (AV.bool true) v186 fun b191 =>
J.jn (fun v192 h193 =>
J.jn (fun v195 h196 =>
J.jn (fun v199 h200 =>
J.jn (fun v203 h204 =>
J.jn (fun v207 h208 =>
J.jn (fun v211 h212 =>
J.jn (fun v218 h219 =>
pickB (AV.bool b191) (AV.bool true) v218 fun b223 =>
J.jn (fun v224 h225 =>
J.jn (fun v227 h228 =>
J.jn (fun v231 h232 =>
J.jn (fun v235 h236 =>
J.jn (fun v239 h240 =>
J.jn (fun v243 h244 =>
J.jn (fun v250 h251 =>
pickB (AV.bool b223) (AV.bool true) v250 fun b255 =>
br b255 (
leaveK (gam J [(9, w9 c9), (11, w11 c11), (12, w12 c12), (13, w13 c13), (14, w14 c14), (16, w16 c16), (17, w17 c17), (18, w18 c18), (19, w19 c19), (20, w20 c20), (24, w24 c24), (25, w25 c25), (26, w26 c26), (27, w27 c27), (28, w28 c28), (31, w31 c31), (32, w32 c32), (33, w33 c33)]) d9 h251 fun h256 =>
k false h256) (
fB (Bool.not (eqI x21 (Int.ofNat 1))) fun b257 =>
J.jn (fun v258 h259 =>
J.jn (fun v261 h262 =>
J.jn (fun v265 h266 =>
pickB (AV.bool b257) (AV.bool true) v265 fun b270 =>
J.jn (fun v271 h272 =>
pickB (AV.bool b270) (AV.bool true) v271 fun b274 =>
J.jn (fun v275 h276 =>
J.jn (fun v278 h279 =>
J.jn (fun v282 h283 =>
pickB (AV.bool b274) (AV.bool true) v282 fun b287 =>
J.jn (fun v288 h289 =>
J.jn (fun v291 h292 =>
pickB (AV.bool b287) (AV.bool true) v291 fun b296 =>
J.jn (fun v297 h298 =>
J.jn (fun v300 h301 =>
J.jn (fun v305 h306 =>
pickB (AV.bool b296) (AV.bool true) v305 fun b310 =>
J.jn (fun v311 h312 =>
J.jn (fun v314 h315 =>
J.jn (fun v319 h320 =>
pickB (AV.bool b310) (AV.bool true) v319 fun b324 =>
J.jn (fun v325 h326 =>
J.jn (fun v328 h329 =>
J.jn (fun v333 h334 =>
pickB (AV.bool b324) (AV.bool true) v333 fun b338 =>
J.jn (fun v339 h340 =>
J.jn (fun v342 h343 =>
J.jn (fun v347 h348 =>
J.jn (fun v351 h352 =>
pickB (AV.bool b338) (AV.bool true) v351 fun b356 =>
br b356 (
leaveK (gam J [(9, w9 c9), (11, w11 c11), (12, w12 c12), (13, w13 c13), (14, w14 c14), (16, w16 c16), (17, w17 c17), (18, w18 c18), (19, w19 c19), (20, w20 c20), (24, w24 c24), (25, w25 c25), (26, w26 c26), (27, w27 c27), (28, w28 c28), (31, w31 c31), (32, w32 c32), (33, w33 c33)]) d9 h352 fun h357 =>
k false h357) (
asI .i64 v8.2.2.1 fun x358 =>
fI (wrapF .i64 (Int.add x358 (Int.ofNat 1))) fun x359 =>
r11 (v8.1, v8.2.1, (AV.int .i64 x359), ()) d9 h352)) fun j353 =>
br b338 (
j353 .junk h348) (
asI .i64 v347 fun x354 =>
fB (Bool.not (eqI x354 (Int.ofNat 0))) fun b355 =>
j353 (AV.bool b355) h348)) fun j349 =>
br b338 (
j349 .junk h343) (
lenK v342 fun x350 =>
j349 (AV.int .i64 (Int.ofNat x350)) h343)) fun j344 =>
br b338 (
j344 .junk h340) (
c26 v339 h340 fun v346 h345 =>
j344 v346 h345)) fun j341 =>
br b338 (
j341 .junk h334) (
j341 v16 h334)) fun j335 =>
br b324 (
j335 .junk h329) (
asI .i64 v328 fun x336 =>
fB (Bool.not (eqI x336 (Int.ofNat 0))) fun b337 =>
j335 (AV.bool b337) h329)) fun j330 =>
br b324 (
j330 .junk h326) (
c27 v325 h326 fun x332 h331 =>
j330 (AV.int .i64 x332) h331)) fun j327 =>
br b324 (
j327 .junk h320) (
j327 v16 h320)) fun j321 =>
br b310 (
j321 .junk h315) (
asI .i64 v314 fun x322 =>
fB (Bool.not (eqI x322 (Int.ofNat 0))) fun b323 =>
j321 (AV.bool b323) h315)) fun j316 =>
br b310 (
j316 .junk h312) (
c28 v311 h312 fun x318 h317 =>
j316 (AV.int .i64 x318) h317)) fun j313 =>
br b310 (
j313 .junk h306) (
j313 v16 h306)) fun j307 =>
br b296 (
j307 .junk h301) (
asI .i64 v300 fun x308 =>
fB (Bool.not (eqI x308 (Int.ofNat 0))) fun b309 =>
j307 (AV.bool b309) h301)) fun j302 =>
br b296 (
j302 .junk h298) (
c19 v297 h298 fun x304 h303 =>
j302 (AV.int .i64 x304) h303)) fun j299 =>
br b296 (
j299 .junk h292) (
j299 v16 h292)) fun j293 =>
br b287 (
j293 .junk h289) (
c18 v288 h289 fun b295 h294 =>
j293 (AV.bool b295) h294)) fun j290 =>
br b287 (
j290 .junk h283) (
j290 v16 h283)) fun j284 =>
br b274 (
j284 .junk h279) (
asI .i64 v278 fun x285 =>
fB (Bool.not (eqI x285 (Int.ofNat 0))) fun b286 =>
j284 (AV.bool b286) h279)) fun j280 =>
br b274 (
j280 .junk h276) (
lenK v275 fun x281 =>
j280 (AV.int .i64 (Int.ofNat x281)) h276)) fun j277 =>
br b274 (
j277 .junk h272) (
j277 v25 h272)) fun j273 =>
br b270 (
j273 .junk h266) (
j273 (AV.bool b26) h266)) fun j267 =>
br b257 (
j267 .junk h262) (
asI .i64 v261 fun x268 =>
fB (Bool.not (eqI x268 (Int.ofNat 0))) fun b269 =>
j267 (AV.bool b269) h262)) fun j263 =>
br b257 (
j263 .junk h259) (
lenK v258 fun x264 =>
j263 (AV.int .i64 (Int.ofNat x264)) h259)) fun j260 =>
br b257 (
j260 .junk h251) (
j260 v20 h251))) fun j252 =>
br b223 (
j252 .junk h244) (
asI .i64 v243 fun x253 =>
fB (Bool.not (eqI x253 (Int.ofNat 1))) fun b254 =>
j252 (AV.bool b254) h244)) fun j245 =>
br b223 (
j245 .junk h240) (
asS v231 fun s247 =>
asI .i64 v239 fun x248 =>
c31 v224 s247 x248 (Int.ofNat 1) h240 fun x249 h246 =>
j245 (AV.int .i64 x249) h246)) fun j241 =>
br b223 (
j241 .junk h236) (
ldI .i64 v235 h236 fun x242 =>
j241 (AV.int .i64 x242) h236)) fun j237 =>
br b223 (
j237 .junk h232) (
faK 3 v8.1 fun p238 =>
j237 p238 h232)) fun j233 =>
br b223 (
j233 .junk h228) (
ldS v227 h228 fun s234 =>
j233 (AV.str s234) h228)) fun j229 =>
br b223 (
j229 .junk h225) (
faK 1 v8.1 fun p230 =>
j229 p230 h225)) fun j226 =>
br b223 (
j226 .junk h219) (
j226 v16 h219)) fun j220 =>
br b191 (
j220 .junk h212) (
asI .i64 v211 fun x221 =>
fB (Bool.not (eqI x221 (Int.ofNat 1))) fun b222 =>
j220 (AV.bool b222) h212)) fun j213 =>
br b191 (
j213 .junk h208) (
asI .i64 v199 fun x215 =>
asI .i64 v207 fun x216 =>
c17 v192 x215 x216 h208 fun x217 h214 =>
j213 (AV.int .i64 x217) h214)) fun j209 =>
br b191 (
j209 .junk h204) (
ldI .i64 v203 h204 fun x210 =>
j209 (AV.int .i64 x210) h204)) fun j205 =>
br b191 (
j205 .junk h200) (
faK 4 v8.1 fun p206 =>
j205 p206 h200)) fun j201 =>
br b191 (
j201 .junk h196) (
ldI .i64 v195 h196 fun x202 =>
j201 (AV.int .i64 x202) h196)) fun j197 =>
br b191 (
j197 .junk h193) (
faK 3 v8.1 fun p198 =>
j197 p198 h193)) fun j194 =>
br b191 (
j194 .junk h187) (
j194 v16 h187)) fun j188 =>
br b177 (
j188 .junk h182) (
asI .i64 v181 fun x189 =>
fB (Bool.not (eqI x189 (Int.ofNat 1))) fun b190 =>
j188 (AV.bool b190) h182)) fun j183 =>
br b177 (
j183 .junk h179) (
c33 v178 h179 fun x185 h184 =>
j183 (AV.int .i64 x185) h184)) fun j180 =>
br b177 (
j180 .junk h173) (
j180 v16 h173)) fun j174 =>
br b154 (
j174 .junk h167) (
asI .i64 v166 fun x175 =>
fB (Bool.not (eqI x175 (Int.ofNat 1))) fun b176 =>
j174 (AV.bool b176) h167)) fun j168 =>
br b154 (
j168 .junk h163) (
asI .i64 v162 fun x170 =>
c13 v155 x170 h163 fun x171 h169 =>
j168 (AV.int .i64 x171) h169)) fun j164 =>
br b154 (
j164 .junk h159) (
ldI .i64 v158 h159 fun x165 =>
j164 (AV.int .i64 x165) h159)) fun j160 =>
br b154 (
j160 .junk h156) (
faK 3 v8.1 fun p161 =>
j160 p161 h156)) fun j157 =>
br b154 (
j157 .junk h150) (
j157 v16 h150)) fun j151 =>
br b140 (
j151 .junk h145) (
asI .i64 v144 fun x152 =>
fB (Bool.not (eqI x152 (Int.ofNat 1))) fun b153 =>
j151 (AV.bool b153) h145)) fun j146 =>
br b140 (
j146 .junk h142) (
c12 v141 h142 fun x148 h147 =>
j146 (AV.int .i64 x148) h147)) fun j143 =>
br b140 (
j143 .junk h136) (
j143 v16 h136)) fun j137 =>
br b117 (
j137 .junk h130) (
asI .i64 v129 fun x138 =>
fB (Bool.not (eqI x138 (Int.ofNat 1))) fun b139 =>
j137 (AV.bool b139) h130)) fun j131 =>
br b117 (
j131 .junk h126) (
asS v125 fun s133 =>
c14 v118 s133 h126 fun x134 h132 =>
j131 (AV.int .i64 x134) h132)) fun j127 =>
br b117 (
j127 .junk h122) (
ldS v121 h122 fun s128 =>
j127 (AV.str s128) h122)) fun j123 =>
br b117 (
j123 .junk h119) (
faK 1 v8.1 fun p124 =>
j123 p124 h119)) fun j120 =>
br b117 (
j120 .junk h113) (
j120 v16 h113)) fun j114 =>
br b94 (
j114 .junk h107) (
asI .i64 v106 fun x115 =>
fB (Bool.not (eqI x115 (Int.ofNat 1))) fun b116 =>
j114 (AV.bool b116) h107)) fun j108 =>
br b94 (
j108 .junk h103) (
asS v102 fun s110 =>
c25 v95 s110 h103 fun x111 h109 =>
j108 (AV.int .i64 x111) h109)) fun j104 =>
br b94 (
j104 .junk h99) (
ldS v98 h99 fun s105 =>
j104 (AV.str s105) h99)) fun j100 =>
br b94 (
j100 .junk h96) (
faK 1 v8.1 fun p101 =>
j100 p101 h96)) fun j97 =>
br b94 (
j97 .junk h90) (
j97 v16 h90)) fun j91 =>
br b62 (
j91 .junk h83) (
asI .i64 v82 fun x92 =>
fB (Bool.not (eqI x92 (Int.ofNat 1))) fun b93 =>
j91 (AV.bool b93) h83)) fun j84 =>
br b62 (
j84 .junk h79) (
asS v70 fun s86 =>
asS v78 fun s87 =>
c24 v63 s86 s87 h79 fun x88 h85 =>
j84 (AV.int .i64 x88) h85)) fun j80 =>
br b62 (
j80 .junk h75) (
ldS v74 h75 fun s81 =>
j80 (AV.str s81) h75)) fun j76 =>
br b62 (
j76 .junk h71) (
faK 2 v8.1 fun p77 =>
j76 p77 h71)) fun j72 =>
br b62 (
j72 .junk h67) (
ldS v66 h67 fun s73 =>
j72 (AV.str s73) h67)) fun j68 =>
br b62 (
j68 .junk h64) (
faK 1 v8.1 fun p69 =>
j68 p69 h64)) fun j65 =>
br b62 (
j65 .junk h58) (
j65 v16 h58)) fun j59 =>
br b31 (
j59 .junk h52) (
asI .i64 v51 fun x60 =>
fB (Bool.not (eqI x60 (Int.ofNat 1))) fun b61 =>
j59 (AV.bool b61) h52)) fun j53 =>
br b31 (
j53 .junk h48) (
asS v39 fun s55 =>
c16 v32 s55 v47 h48 fun x56 h54 =>
j53 (AV.int .i64 x56) h54)) fun j49 =>
br b31 (
j49 .junk h44) (
ldV v43 h44 fun v50 =>
j49 v50 h44)) fun j45 =>
br b31 (
j45 .junk h40) (
faK 5 v8.1 fun p46 =>
j45 p46 h40)) fun j41 =>
br b31 (
j41 .junk h36) (
ldS v35 h36 fun s42 =>
j41 (AV.str s42) h36)) fun j37 =>
br b31 (
j37 .junk h33) (
faK 1 v8.1 fun p38 =>
j37 p38 h33)) fun j34 =>
br b31 (
j34 .junk h29) (
j34 v16 h29)) (
c9  h10 fun b361 h360 =>
leaveK (gam J [(9, w9 c9), (11, w11 c11), (12, w12 c12), (13, w13 c13), (14, w14 c14), (16, w16 c16), (17, w17 c17), (18, w18 c18), (19, w19 c19), (20, w20 c20), (24, w24 c24), (25, w25 c25), (26, w26 c26), (27, w27 c27), (28, w28 c28), (31, w31 c31), (32, w32 c32), (33, w33 c33)]) d9 h360 fun h362 =>
k b361 h362)) ((AV.ptr n1 0), (AV.slice n6 0 2 2 1 true), (AV.int .i64 (Int.ofNat 0)), ()) [] h7
noncomputable def s8 : AV → H → (Bool → H → Prop) → Prop := s8G J0 s9 s11 s12 s13 s14 s16 s17' s18 s19 s20 s24 s25 s26 s27' s28 s31 s32 s33
noncomputable def w8 (c : AV → H → (Bool → H → Prop) → Prop) : Fun := fun xs h k => arg xs fun a0 xs => noArg xs <| c a0 h fun r0 h => k (.bool r0) h
theorem s8_eq (J : Joins) (c9 : H → (Bool → H → Prop) → Prop) (c11 : AV → Str → H → (Int → H → Prop) → Prop) (c12 : AV → H → (Int → H → Prop) → Prop) (c13 : AV → Int → H → (Int → H → Prop) → Prop) (c14 : AV → Str → H → (Int → H → Prop) → Prop) (c16 : AV → Str → AV → H → (Int → H → Prop) → Prop) (c17 : AV → Int → Int → H → (Int → H → Prop) → Prop) (c18 : AV → H → (Bool → H → Prop) → Prop) (c19 : AV → H → (Int → H → Prop) → Prop) (c20 : AV → Str → H → (AV → Int → H → Prop) → Prop) (c24 : AV → Str → Str → H → (Int → H → Prop) → Prop) (c25 : AV → Str → H → (Int → H → Prop) → Prop) (c26 : AV → H → (AV → H → Prop) → Prop) (c27 : AV → H → (Int → H → Prop) → Prop) (c28 : AV → H → (Int → H → Prop) → Prop) (c31 : AV → Str → Int → Int → H → (Int → H → Prop) → Prop) (c32 : AV → Str → H → (AV → Bool → H → Prop) → Prop) (c33 : AV → H → (Int → H → Prop) → Prop) (a0 : AV) (h : H) (k : AV → H → Prop) : denF ty (gam J [(9, w9 c9), (11, w11 c11), (12, w12 c12), (13, w13 c13), (14, w14 c14), (16, w16 c16), (17, w17 c17), (18, w18 c18), (19, w19 c19), (20, w20 c20), (24, w24 c24), (25, w25 c25), (26, w26 c26), (27, w27 c27), (28, w28 c28), (31, w31 c31), (32, w32 c32), (33, w33 c33)]) Try.f8 [a0] h k = s8G J c9 c11 c12 c13 c14 c16 c17 c18 c19 c20 c24 c25 c26 c27 c28 c31 c32 c33 a0 h (fun r0 h => k (.bool r0) h) := by kernel_rfl
noncomputable def g8 : Fun := w8 s8
theorem g8_ok : FunOk Try.prog 8 g8 := (fun_ok ty_ok mixed (gam_ok (J := J0) (tab_cons g9_ok (tab_cons g11_ok (tab_cons g12_ok (tab_cons g13_ok (tab_cons g14_ok (tab_cons g16_ok (tab_cons g17'_ok (tab_cons g18_ok (tab_cons g19_ok (tab_cons g20_ok (tab_cons g24_ok (tab_cons g25_ok (tab_cons g26_ok (tab_cons g27'_ok (tab_cons g28_ok (tab_cons g31_ok (tab_cons g32_ok (tab_cons g33_ok (tab_nil fls_fun)))))))))))))))))))) Try.func8 (fun args w => by simp)).imp fun xs h k e0 => by
  obtain ⟨a0, xs0, rfl, e1⟩ := arg_imp e0
  obtain ⟨rfl, e2⟩ := noArg_imp e1
  exact (s8_eq J0 s9 s11 s12 s13 s14 s16 s17' s18 s19 s20 s24 s25 s26 s27' s28 s31 s32 s33 a0 h k).mpr e2
end Go.Proofs.Ytiejkbmobmgdkaa
