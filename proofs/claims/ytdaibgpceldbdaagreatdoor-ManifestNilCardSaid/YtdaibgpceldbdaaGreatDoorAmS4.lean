/- Functions as they are reckoned. MADE BY PROGRAM (wip/tools/shal.py). -/
import Derived.Test.YtdaibgpceldbdaaGreatDoorAmH41
namespace Go.Proofs.YtdaibgpceldbdaaGreatDoor
open Go Go.Am
set_option maxRecDepth 100000
set_option linter.all false
/-- maps.Keys[map[string]int,string,int] -/
noncomputable def s42G (J : Joins) (c76 : AV → AV → H → (H → Prop) → Prop) (a0 : AV) (h : H) (k : AV → H → Prop) : Prop :=
ck (isOne a0) (
pushK (.cells false 53 [a0]) h fun n1 h2 =>
k (AV.func (.func 76) [] [(AV.ptr n1 0)]) h2)
noncomputable def s42 : AV → H → (AV → H → Prop) → Prop := s42G J0 s76
noncomputable def w42 (c : AV → H → (AV → H → Prop) → Prop) : Fun := fun xs h k => arg xs fun a0 xs => noArg xs <| c a0 h fun r0 h => k r0 h
theorem s42_eq (J : Joins) (c76 : AV → AV → H → (H → Prop) → Prop) (a0 : AV) (h : H) (k : AV → H → Prop) : denF ty (gam J [(76, w76 c76)]) Tryz.f42 [a0] h k = s42G J c76 a0 h (fun r0 h => k r0 h) := by kernel_rfl
noncomputable def g42 : Fun := w42 s42
theorem g42_ok : FunOk Tryz.prog 42 g42 := (fun_ok ty_ok mixed (gam_ok (J := J0) (tab_cons g76_ok (tab_nil fls_fun))) Tryz.func42 (fun args w => by simp)).imp fun xs h k e0 => by
  obtain ⟨a0, xs0, rfl, e1⟩ := arg_imp e0
  obtain ⟨rfl, e2⟩ := noArg_imp e1
  exact (s42_eq J0 s76 a0 h k).mpr e2
/-- (*stagepost/vfs.FS).Names -/
noncomputable def s14G (J : Joins) (c40 : AV → AV → H → (Int → H → Prop) → Prop) (c41 : AV → H → (AV → H → Prop) → Prop) (c42 : AV → H → (AV → H → Prop) → Prop) (c43 : AV → H → (AV → H → Prop) → Prop) (a0 : AV) (h : H) (k : AV → H → Prop) : Prop :=
c40 a0 AV.nils h fun x2 h1 =>
fB (Bool.not (eqI x2 (Int.ofNat 0))) fun b3 =>
br b3 (
k AV.nils h1) (
c43 a0 h1 fun v5 h4 =>
Go.Am.asAgg v5 fun l6 =>
op' (lgetO l6 1) fun v7 =>
c42 v7 h4 fun v9 h8 =>
c41 v9 h8 fun v11 h10 =>
k v11 h10)
noncomputable def s14 : AV → H → (AV → H → Prop) → Prop := s14G J0 s40 s41' s42 s43
noncomputable def w14 (c : AV → H → (AV → H → Prop) → Prop) : Fun := fun xs h k => arg xs fun a0 xs => noArg xs <| c a0 h fun r0 h => k r0 h
theorem s14_eq (J : Joins) (c40 : AV → AV → H → (Int → H → Prop) → Prop) (c41 : AV → H → (AV → H → Prop) → Prop) (c42 : AV → H → (AV → H → Prop) → Prop) (c43 : AV → H → (AV → H → Prop) → Prop) (a0 : AV) (h : H) (k : AV → H → Prop) : denF ty (gam J [(40, w40 c40), (41, w41 c41), (42, w42 c42), (43, w43 c43)]) Tryz.f14 [a0] h k = s14G J c40 c41 c42 c43 a0 h (fun r0 h => k r0 h) := by kernel_rfl
noncomputable def g14 : Fun := w14 s14
theorem g14_ok : FunOk Tryz.prog 14 g14 := (fun_ok ty_ok mixed (gam_ok (J := J0) (tab_cons g40_ok (tab_cons g41'_ok (tab_cons g42_ok (tab_cons g43_ok (tab_nil fls_fun)))))) Tryz.func14 (fun args w => by simp)).imp fun xs h k e0 => by
  obtain ⟨a0, xs0, rfl, e1⟩ := arg_imp e0
  obtain ⟨rfl, e2⟩ := noArg_imp e1
  exact (s14_eq J0 s40 s41' s42 s43 a0 h k).mpr e2
/-- stagepost/stagepostkit.SameMetas -/
noncomputable def s11G (J : Joins) (a0 : AV) (a1 : AV) (h : H) (k : Bool → H → Prop) : Prop :=
lenK a0 fun x1 =>
lenK a1 fun x2 =>
fB (Bool.not (eqI (Int.ofNat x1) (Int.ofNat x2))) fun b3 =>
br b3 (
k false h) (
J.lp (α := AV × AV × AV × Unit) (fun r7 v4 d5 h6 =>
lenK v4.1 fun x8 =>
asI .i64 v4.2.2.1 fun x9 =>
fB (ltI x9 (Int.ofNat x8)) fun b10 =>
br b10 (
ixK 5 v4.1 v4.2.2.1 fun p11 =>
ldN 5 p11 h6 fun l12 =>
ixK 5 v4.2.1 v4.2.2.1 fun p13 =>
ldN 5 p13 h6 fun l14 =>
obK (aBin ty .neq 45 false (AV.agg l12) (AV.agg l14)) fun b15 =>
br b15 (
leaveK (gam J []) d5 h6 fun h16 =>
k false h16) (
asI .i64 v4.2.2.1 fun x17 =>
fI (wrapF .i64 (Int.add x17 (Int.ofNat 1))) fun x18 =>
r7 (v4.1, v4.2.1, (AV.int .i64 x18), ()) d5 h6)) (
leaveK (gam J []) d5 h6 fun h19 =>
k true h19)) (a0, a1, (AV.int .i64 (Int.ofNat 0)), ()) [] h)
noncomputable def s11 : AV → AV → H → (Bool → H → Prop) → Prop := s11G J0 
noncomputable def w11 (c : AV → AV → H → (Bool → H → Prop) → Prop) : Fun := fun xs h k => arg xs fun a0 xs => arg xs fun a1 xs => noArg xs <| c a0 a1 h fun r0 h => k (.bool r0) h
theorem s11_eq (J : Joins) (a0 : AV) (a1 : AV) (h : H) (k : AV → H → Prop) : denF ty (gam J []) Tryz.f11 [a0, a1] h k = s11G J  a0 a1 h (fun r0 h => k (.bool r0) h) := by kernel_rfl
noncomputable def g11 : Fun := w11 s11
theorem g11_ok : FunOk Tryz.prog 11 g11 := (fun_ok ty_ok mixed (gam_ok (J := J0) (tab_nil fls_fun)) Tryz.func11 (fun args w => by simp)).imp fun xs h k e0 => by
  obtain ⟨a0, xs0, rfl, e1⟩ := arg_imp e0
  obtain ⟨a1, xs1, rfl, e2⟩ := arg_imp e1
  obtain ⟨rfl, e3⟩ := noArg_imp e2
  exact (s11_eq J0  a0 a1 h k).mpr e3
/-- stagepost/stagepostkit.SameVersion -/
noncomputable def s17G (J : Joins) (c11 : AV → AV → H → (Bool → H → Prop) → Prop) (a0 : AV) (a1 : AV) (h : H) (k : Bool → H → Prop) : Prop :=
Go.Am.asAgg a0 fun l3 =>
pushK (.cells false 39 l3) h fun n1 h2 =>
Go.Am.asAgg a1 fun l6 =>
pushK (.cells false 39 l6) h2 fun n4 h5 =>
ldV (AV.ptr n1 0) h5 fun v7 =>
ldV (AV.ptr n4 0) h5 fun v8 =>
c11 v7 v8 h5 fun b10 h9 =>
J.jn (fun v11 h12 =>
J.jn (fun v14 h15 =>
J.jn (fun v18 h19 =>
J.jn (fun v21 h22 =>
J.jn (fun v25 h26 =>
pickB (AV.bool b10) v25 (AV.bool false) fun b31 =>
J.jn (fun v32 h33 =>
J.jn (fun v35 h36 =>
J.jn (fun v39 h40 =>
J.jn (fun v42 h43 =>
J.jn (fun v46 h47 =>
pickB (AV.bool b31) v46 (AV.bool false) fun b52 =>
J.jn (fun v53 h54 =>
J.jn (fun v56 h57 =>
J.jn (fun v60 h61 =>
J.jn (fun v63 h64 =>
J.jn (fun v67 h68 =>
pickB (AV.bool b52) v67 (AV.bool false) fun b73 =>
k b73 h68) fun j69 =>
br b52 (
asI .i64 v56 fun x70 =>
asI .i64 v63 fun x71 =>
fB (eqI x70 x71) fun b72 =>
j69 (AV.bool b72) h64) (
j69 skipV h64)) fun j65 =>
br b52 (
ldI .i64 v60 h61 fun x66 =>
j65 (AV.int .i64 x66) h61) (
j65 skipV h61)) fun j62 =>
br b52 (
j62 (AV.ptr n4 3) h57) (
j62 skipV h57)) fun j58 =>
br b52 (
ldI .i64 v53 h54 fun x59 =>
j58 (AV.int .i64 x59) h54) (
j58 skipV h54)) fun j55 =>
br b52 (
j55 (AV.ptr n1 3) h47) (
j55 skipV h47)) fun j48 =>
br b31 (
asI .i64 v35 fun x49 =>
asI .i64 v42 fun x50 =>
fB (eqI x49 x50) fun b51 =>
j48 (AV.bool b51) h43) (
j48 skipV h43)) fun j44 =>
br b31 (
ldI .i64 v39 h40 fun x45 =>
j44 (AV.int .i64 x45) h40) (
j44 skipV h40)) fun j41 =>
br b31 (
j41 (AV.ptr n4 2) h36) (
j41 skipV h36)) fun j37 =>
br b31 (
ldI .i64 v32 h33 fun x38 =>
j37 (AV.int .i64 x38) h33) (
j37 skipV h33)) fun j34 =>
br b31 (
j34 (AV.ptr n1 2) h26) (
j34 skipV h26)) fun j27 =>
br b10 (
asI .i64 v14 fun x28 =>
asI .i64 v21 fun x29 =>
fB (eqI x28 x29) fun b30 =>
j27 (AV.bool b30) h22) (
j27 skipV h22)) fun j23 =>
br b10 (
ldI .i64 v18 h19 fun x24 =>
j23 (AV.int .i64 x24) h19) (
j23 skipV h19)) fun j20 =>
br b10 (
j20 (AV.ptr n4 1) h15) (
j20 skipV h15)) fun j16 =>
br b10 (
ldI .i64 v11 h12 fun x17 =>
j16 (AV.int .i64 x17) h12) (
j16 skipV h12)) fun j13 =>
br b10 (
j13 (AV.ptr n1 1) h9) (
j13 skipV h9)
noncomputable def s17 : AV → AV → H → (Bool → H → Prop) → Prop := s17G J0 s11
noncomputable def w17 (c : AV → AV → H → (Bool → H → Prop) → Prop) : Fun := fun xs h k => arg xs fun a0 xs => arg xs fun a1 xs => noArg xs <| c a0 a1 h fun r0 h => k (.bool r0) h
theorem s17_eq (J : Joins) (c11 : AV → AV → H → (Bool → H → Prop) → Prop) (a0 : AV) (a1 : AV) (h : H) (k : AV → H → Prop) : denF ty (gam J [(11, w11 c11)]) Tryz.f17 [a0, a1] h k = s17G J c11 a0 a1 h (fun r0 h => k (.bool r0) h) := by kernel_rfl
noncomputable def g17 : Fun := w17 s17
theorem g17_ok : FunOk Tryz.prog 17 g17 := (fun_ok ty_ok mixed (gam_ok (J := J0) (tab_cons g11_ok (tab_nil fls_fun))) Tryz.func17 (fun args w => by simp)).imp fun xs h k e0 => by
  obtain ⟨a0, xs0, rfl, e1⟩ := arg_imp e0
  obtain ⟨a1, xs1, rfl, e2⟩ := arg_imp e1
  obtain ⟨rfl, e3⟩ := noArg_imp e2
  exact (s17_eq J0 s11 a0 a1 h k).mpr e3
/-- stagepost/stagepostlaw10.lives -/
noncomputable def s7G (J : Joins) (c5 : Int → H → (AV → Int → H → Prop) → Prop) (c6 : AV → H → (AV → Int → H → Prop) → Prop) (c8 : AV → AV → H → (Int → H → Prop) → Prop) (c9 : H → (AV → H → Prop) → Prop) (c10 : AV → H → (Str → H → Prop) → Prop) (c12 : AV → H → (AV → H → Prop) → Prop) (c13 : AV → AV → H → (Bool → H → Prop) → Prop) (c14 : AV → H → (AV → H → Prop) → Prop) (c17 : AV → AV → H → (Bool → H → Prop) → Prop) (h : H) (k : Bool → H → Prop) : Prop :=
c5 (Int.ofNat 10000) h fun v2 x3 h1 =>
c6 v2 h1 fun v5 x6 h4 =>
fB (Bool.not (eqI x3 (Int.ofNat 0))) fun b7 =>
J.jn (fun v8 h9 =>
J.jn (fun v11 h12 =>
pickB (AV.bool b7) (AV.bool true) v11 fun b16 =>
J.jn (fun v17 h18 =>
J.jn (fun v20 h21 =>
pickB (AV.bool b16) (AV.bool true) v20 fun b24 =>
br b24 (
k false h21) (
c12 v5 h21 fun v26 h25 =>
c17 v26 (AV.agg [(.nils), (AV.int .i64 (Int.ofNat 1)), (.int .i64 0), (AV.int .i64 (Int.ofNat 1))]) h25 fun b28 h27 =>
J.jn (fun v29 h30 =>
J.jn (fun v32 h33 =>
J.jn (fun v37 h38 =>
pickB (AV.bool b28) v37 (AV.bool false) fun b42 =>
J.jn (fun v43 h44 =>
J.jn (fun v46 h47 =>
J.jn (fun v51 h52 =>
J.jn (fun v56 h57 =>
pickB (AV.bool b42) v56 (AV.bool false) fun b61 =>
J.jn (fun v62 h63 =>
J.jn (fun v65 h66 =>
J.jn (fun v70 h71 =>
J.jn (fun v75 h76 =>
pickB (AV.bool b61) v75 (AV.bool false) fun b80 =>
k b80 h76) fun j77 =>
br b61 (
asI .i64 v70 fun x78 =>
fB (eqI x78 (Int.ofNat 0)) fun b79 =>
j77 (AV.bool b79) h71) (
j77 skipV h71)) fun j72 =>
br b61 (
c8 v62 v65 h66 fun x74 h73 =>
j72 (AV.int .i64 x74) h73) (
j72 skipV h66)) fun j67 =>
br b61 (
c9  h63 fun v69 h68 =>
j67 v69 h68) (
j67 skipV h63)) fun j64 =>
br b61 (
j64 v5 h57) (
j64 skipV h57)) fun j58 =>
br b42 (
c13 v46 v51 h52 fun b60 h59 =>
j58 (AV.bool b60) h59) (
j58 skipV h52)) fun j53 =>
br b42 (
pushK (.cells false 9 [(AV.str ⟨7, 27995157100326516⟩), (AV.str ⟨15, 567936499029442546221745241657978929⟩)]) h47 fun n54 h55 =>
j53 (AV.slice n54 0 2 2 1 true) h55) (
j53 skipV h47)) fun j48 =>
br b42 (
c14 v43 h44 fun v50 h49 =>
j48 v50 h49) (
j48 skipV h44)) fun j45 =>
br b42 (
j45 v2 h38) (
j45 skipV h38)) fun j39 =>
br b28 (
asS v32 fun s40 =>
fB (Str.beq s40 (⟨15, 567936499029442546221745241657978929⟩ : Str)) fun b41 =>
j39 (AV.bool b41) h33) (
j39 skipV h33)) fun j34 =>
br b28 (
c10 v29 h30 fun s36 h35 =>
j34 (AV.str s36) h35) (
j34 skipV h30)) fun j31 =>
br b28 (
j31 v5 h27) (
j31 skipV h27))) fun j22 =>
br b16 (
j22 skipV h18) (
nilB 0 v17 fun b23 =>
j22 (AV.bool b23) h18)) fun j19 =>
br b16 (
j19 skipV h12) (
j19 v5 h12)) fun j13 =>
br b7 (
j13 skipV h9) (
asI .i64 v8 fun x14 =>
fB (Bool.not (eqI x14 (Int.ofNat 0))) fun b15 =>
j13 (AV.bool b15) h9)) fun j10 =>
br b7 (
j10 skipV h4) (
j10 (AV.int .i64 x6) h4)
noncomputable def s7 : H → (Bool → H → Prop) → Prop := s7G J0 s5 s6 s8 s9 s10 s12 s13 s14 s17
noncomputable def w7 (c : H → (Bool → H → Prop) → Prop) : Fun := fun xs h k => noArg xs <| c  h fun r0 h => k (.bool r0) h
theorem s7_eq (J : Joins) (c5 : Int → H → (AV → Int → H → Prop) → Prop) (c6 : AV → H → (AV → Int → H → Prop) → Prop) (c8 : AV → AV → H → (Int → H → Prop) → Prop) (c9 : H → (AV → H → Prop) → Prop) (c10 : AV → H → (Str → H → Prop) → Prop) (c12 : AV → H → (AV → H → Prop) → Prop) (c13 : AV → AV → H → (Bool → H → Prop) → Prop) (c14 : AV → H → (AV → H → Prop) → Prop) (c17 : AV → AV → H → (Bool → H → Prop) → Prop)  (h : H) (k : AV → H → Prop) : denF ty (gam J [(5, w5 c5), (6, w6 c6), (8, w8 c8), (9, w9 c9), (10, w10 c10), (12, w12 c12), (13, w13 c13), (14, w14 c14), (17, w17 c17)]) Tryz.f7 [] h k = s7G J c5 c6 c8 c9 c10 c12 c13 c14 c17  h (fun r0 h => k (.bool r0) h) := by kernel_rfl
noncomputable def g7 : Fun := w7 s7
theorem g7_ok : FunOk Tryz.prog 7 g7 := (fun_ok ty_ok mixed (gam_ok (J := J0) (tab_cons g5_ok (tab_cons g6_ok (tab_cons g8_ok (tab_cons g9_ok (tab_cons g10_ok (tab_cons g12_ok (tab_cons g13_ok (tab_cons g14_ok (tab_cons g17_ok (tab_nil fls_fun))))))))))) Tryz.func7 (fun args w => by simp)).imp fun xs h k e0 => by
  obtain ⟨rfl, e1⟩ := noArg_imp e0
  exact (s7_eq J0 s5 s6 s8 s9 s10 s12 s13 s14 s17  h k).mpr e1
/-- stagepost/stagepostlaw10.ManifestNames -/
noncomputable def s3G (J : Joins) (c5 : Int → H → (AV → Int → H → Prop) → Prop) (c6 : AV → H → (AV → Int → H → Prop) → Prop) (c7 : H → (Bool → H → Prop) → Prop) (c8 : AV → AV → H → (Int → H → Prop) → Prop) (c9 : H → (AV → H → Prop) → Prop) (c10 : AV → H → (Str → H → Prop) → Prop) (c11 : AV → AV → H → (Bool → H → Prop) → Prop) (c12 : AV → H → (AV → H → Prop) → Prop) (c13 : AV → AV → H → (Bool → H → Prop) → Prop) (c14 : AV → H → (AV → H → Prop) → Prop) (c15 : Int → Int → Str → Str → H → (AV → H → Prop) → Prop) (c16 : AV → H → (Int → H → Prop) → Prop) (h : H) (k : Bool → H → Prop) : Prop :=
c5 (Int.ofNat 10000) h fun v2 x3 h1 =>
c6 v2 h1 fun v5 x6 h4 =>
c7  h4 fun b8 h7 =>
fB (Bool.not b8) fun b9 =>
J.jn (fun v10 h11 =>
J.jn (fun v13 h14 =>
pickB (AV.bool b9) (AV.bool true) v13 fun b18 =>
J.jn (fun v19 h20 =>
J.jn (fun v22 h23 =>
J.jn (fun v27 h28 =>
J.jn (fun v32 h33 =>
pickB (AV.bool b18) (AV.bool true) v32 fun b37 =>
pickB (AV.bool b37) (AV.bool true) (AV.bool false) fun b38 =>
pickB (AV.bool b38) (AV.bool true) (AV.bool false) fun b39 =>
br b39 (
k false h33) (
c6 v2 h33 fun v41 x42 h40 =>
fB (Bool.not (eqI x42 (Int.ofNat 0))) fun b43 =>
br b43 (
k false h40) (
c10 v41 h40 fun s45 h44 =>
fB (Str.beq s45 (⟨15, 567936499029442546221745241657978930⟩ : Str)) fun b46 =>
J.jn (fun v47 h48 =>
J.jn (fun v50 h51 =>
J.jn (fun v55 h56 =>
J.jn (fun v60 h61 =>
J.jn (fun v65 h66 =>
J.jn (fun v70 h71 =>
pickB (AV.bool b46) v70 (AV.bool false) fun b75 =>
J.jn (fun v76 h77 =>
J.jn (fun v79 h80 =>
J.jn (fun v84 h85 =>
J.jn (fun v89 h90 =>
pickB (AV.bool b75) v89 (AV.bool false) fun b94 =>
pushK (.cells false 3 [(AV.int .i64 (Int.ofNat 2))]) h90 fun n95 h96 =>
c8 v41 (AV.agg [(AV.slice n95 0 1 1 1 true), (.nils), (AV.int .i64 (Int.ofNat 2)), (AV.int .i64 (Int.ofNat 5)), (AV.int .i64 (Int.ofNat 2))]) h96 fun x98 h97 =>
fB (eqI x98 (Int.ofNat 2)) fun b99 =>
J.jn (fun v100 h101 =>
J.jn (fun v103 h104 =>
J.jn (fun v108 h109 =>
J.jn (fun v115 h116 =>
J.jn (fun v118 h119 =>
J.jn (fun v123 h124 =>
pickB (AV.bool b99) v123 (AV.bool false) fun b128 =>
J.jn (fun v129 h130 =>
J.jn (fun v132 h133 =>
J.jn (fun v135 h136 =>
J.jn (fun v140 h141 =>
pickB (AV.bool b128) v140 (AV.bool false) fun b145 =>
c15 (Int.ofNat 1) (Int.ofNat 1) ⟨1, 97⟩ ⟨1, 99⟩ h141 fun v147 h146 =>
c15 (Int.ofNat 2) (Int.ofNat 1) ⟨1, 99⟩ ⟨1, 100⟩ h146 fun v149 h148 =>
Go.Am.asAgg v147 fun l152 =>
ck (Nat.beq (List.length l152) 5) (op' (lputAt 0 l152 [(.int .i64 0), (.int .i64 0), (.int .i64 0), (.str ⟨0, 0⟩), (.str ⟨0, 0⟩), (.int .i64 0), (.int .i64 0), (.int .i64 0), (.str ⟨0, 0⟩), (.str ⟨0, 0⟩)]) fun l153 =>
Go.Am.asAgg v149 fun l154 =>
ck (Nat.beq (List.length l154) 5) (op' (lputAt 5 l154 l153) fun l155 =>
pushK (.cells false 45 l155) h148 fun n150 h151 =>
c16 (AV.agg [(AV.slice n150 0 2 2 5 true), (AV.int .i64 (Int.ofNat 1)), (.int .i64 0), (AV.int .i64 (Int.ofNat 3))]) h151 fun x157 h156 =>
J.jn (fun v158 h159 =>
pickB (AV.bool b94) v158 (AV.bool false) fun b161 =>
J.jn (fun v162 h163 =>
J.jn (fun v165 h166 =>
pickB (AV.bool b161) v165 (AV.bool false) fun b170 =>
k b170 h166) fun j167 =>
br b161 (
asI .i64 v162 fun x168 =>
fB (eqI x168 (Int.ofNat 2)) fun b169 =>
j167 (AV.bool b169) h163) (
j167 skipV h163)) fun j164 =>
br b161 (
j164 (AV.int .i64 x157) h159) (
j164 skipV h159)) fun j160 =>
br b94 (
j160 (AV.bool b145) h156) (
j160 skipV h156)))) fun j142 =>
br b128 (
asI .i64 v135 fun x143 =>
fB (eqI x143 (Int.ofNat 2)) fun b144 =>
j142 (AV.bool b144) h136) (
j142 skipV h136)) fun j137 =>
br b128 (
c8 v129 v132 h133 fun x139 h138 =>
j137 (AV.int .i64 x139) h138) (
j137 skipV h133)) fun j134 =>
br b128 (
j134 (AV.agg [(.nils), (.nils), (AV.int .i64 (Int.ofNat 1)), (AV.int .i64 (Int.ofNat 5)), (AV.int .i64 (Int.ofNat 2))]) h130) (
j134 skipV h130)) fun j131 =>
br b128 (
j131 v41 h124) (
j131 skipV h124)) fun j125 =>
br b99 (
asI .i64 v118 fun x126 =>
fB (eqI x126 (Int.ofNat 2)) fun b127 =>
j125 (AV.bool b127) h119) (
j125 skipV h119)) fun j120 =>
br b99 (
c8 v100 v115 h116 fun x122 h121 =>
j120 (AV.int .i64 x122) h121) (
j120 skipV h116)) fun j117 =>
br b99 (
ck (isOne v108) (j117 (AV.agg [(.nils), v108, (AV.int .i64 (Int.ofNat 2)), (AV.int .i64 (Int.ofNat 5)), (AV.int .i64 (Int.ofNat 2))]) h109)) (
j117 skipV h109)) fun j110 =>
br b99 (
Go.Am.asAgg v103 fun l113 =>
ck (Nat.beq (List.length l113) 5) (op' (lputAt 0 l113 [(.int .i64 0), (.int .i64 0), (.int .i64 0), (.str ⟨0, 0⟩), (.str ⟨0, 0⟩)]) fun l114 =>
pushK (.cells false 45 l114) h104 fun n111 h112 =>
j110 (AV.slice n111 0 1 1 5 true) h112)) (
j110 skipV h104)) fun j105 =>
br b99 (
c15 (Int.ofNat 2) (Int.ofNat 0) ⟨1, 97⟩ ⟨1, 99⟩ h101 fun v107 h106 =>
j105 v107 h106) (
j105 skipV h101)) fun j102 =>
br b99 (
j102 v41 h97) (
j102 skipV h97)) fun j91 =>
br b75 (
c13 v79 v84 h85 fun b93 h92 =>
j91 (AV.bool b93) h92) (
j91 skipV h85)) fun j86 =>
br b75 (
pushK (.cells false 9 [(AV.str ⟨7, 27995157100326516⟩), (AV.str ⟨15, 567936499029442546221745241657978930⟩)]) h80 fun n87 h88 =>
j86 (AV.slice n87 0 2 2 1 true) h88) (
j86 skipV h80)) fun j81 =>
br b75 (
c14 v76 h77 fun v83 h82 =>
j81 v83 h82) (
j81 skipV h77)) fun j78 =>
br b75 (
j78 v2 h71) (
j78 skipV h71)) fun j72 =>
br b46 (
c11 v55 v65 h66 fun b74 h73 =>
j72 (AV.bool b74) h73) (
j72 skipV h66)) fun j67 =>
br b46 (
Go.Am.asAgg v60 fun l68 =>
op' (lgetO l68 1) fun v69 =>
j67 v69 h61) (
j67 skipV h61)) fun j62 =>
br b46 (
c9  h56 fun v64 h63 =>
j62 v64 h63) (
j62 skipV h56)) fun j57 =>
br b46 (
Go.Am.asAgg v50 fun l58 =>
op' (lgetO l58 0) fun v59 =>
j57 v59 h51) (
j57 skipV h51)) fun j52 =>
br b46 (
c12 v47 h48 fun v54 h53 =>
j52 v54 h53) (
j52 skipV h48)) fun j49 =>
br b46 (
j49 v41 h44) (
j49 skipV h44)))) fun j34 =>
br b18 (
j34 skipV h28) (
asI .i64 v27 fun x35 =>
fB (Bool.not (eqI x35 (Int.ofNat 0))) fun b36 =>
j34 (AV.bool b36) h28)) fun j29 =>
br b18 (
j29 skipV h23) (
c8 v19 v22 h23 fun x31 h30 =>
j29 (AV.int .i64 x31) h30)) fun j24 =>
br b18 (
j24 skipV h20) (
c9  h20 fun v26 h25 =>
j24 v26 h25)) fun j21 =>
br b18 (
j21 skipV h14) (
j21 v5 h14)) fun j15 =>
br b9 (
j15 skipV h11) (
asI .i64 v10 fun x16 =>
fB (Bool.not (eqI x16 (Int.ofNat 0))) fun b17 =>
j15 (AV.bool b17) h11)) fun j12 =>
br b9 (
j12 skipV h7) (
j12 (AV.int .i64 x6) h7)
noncomputable def s3 : H → (Bool → H → Prop) → Prop := s3G J0 s5 s6 s7 s8 s9 s10 s11 s12 s13 s14 s15 s16
noncomputable def w3 (c : H → (Bool → H → Prop) → Prop) : Fun := fun xs h k => noArg xs <| c  h fun r0 h => k (.bool r0) h
theorem s3_eq (J : Joins) (c5 : Int → H → (AV → Int → H → Prop) → Prop) (c6 : AV → H → (AV → Int → H → Prop) → Prop) (c7 : H → (Bool → H → Prop) → Prop) (c8 : AV → AV → H → (Int → H → Prop) → Prop) (c9 : H → (AV → H → Prop) → Prop) (c10 : AV → H → (Str → H → Prop) → Prop) (c11 : AV → AV → H → (Bool → H → Prop) → Prop) (c12 : AV → H → (AV → H → Prop) → Prop) (c13 : AV → AV → H → (Bool → H → Prop) → Prop) (c14 : AV → H → (AV → H → Prop) → Prop) (c15 : Int → Int → Str → Str → H → (AV → H → Prop) → Prop) (c16 : AV → H → (Int → H → Prop) → Prop)  (h : H) (k : AV → H → Prop) : denF ty (gam J [(5, w5 c5), (6, w6 c6), (7, w7 c7), (8, w8 c8), (9, w9 c9), (10, w10 c10), (11, w11 c11), (12, w12 c12), (13, w13 c13), (14, w14 c14), (15, w15 c15), (16, w16 c16)]) Tryz.f3 [] h k = s3G J c5 c6 c7 c8 c9 c10 c11 c12 c13 c14 c15 c16  h (fun r0 h => k (.bool r0) h) := by kernel_rfl
noncomputable def g3 : Fun := w3 s3
theorem g3_ok : FunOk Tryz.prog 3 g3 := (fun_ok ty_ok mixed (gam_ok (J := J0) (tab_cons g5_ok (tab_cons g6_ok (tab_cons g7_ok (tab_cons g8_ok (tab_cons g9_ok (tab_cons g10_ok (tab_cons g11_ok (tab_cons g12_ok (tab_cons g13_ok (tab_cons g14_ok (tab_cons g15_ok (tab_cons g16_ok (tab_nil fls_fun)))))))))))))) Tryz.func3 (fun args w => by simp)).imp fun xs h k e0 => by
  obtain ⟨rfl, e1⟩ := noArg_imp e0
  exact (s3_eq J0 s5 s6 s7 s8 s9 s10 s11 s12 s13 s14 s15 s16  h k).mpr e1
/-- stagepost/stagepostlaw10.ManifestNil -/
noncomputable def s4G (J : Joins) (c6 : AV → H → (AV → Int → H → Prop) → Prop) (c7 : H → (Bool → H → Prop) → Prop) (c8 : AV → AV → H → (Int → H → Prop) → Prop) (c10 : AV → H → (Str → H → Prop) → Prop) (c12 : AV → H → (AV → H → Prop) → Prop) (c17 : AV → AV → H → (Bool → H → Prop) → Prop) (a0 : AV) (h : H) (k : Bool → H → Prop) : Prop :=
Go.Am.asAgg a0 fun l3 =>
pushK (.cells false 34 l3) h fun n1 h2 =>
pushK (.cells false 49 [(.nilp), (.nils), (.int .i64 0), (.int .i64 0), (.int .i64 0), (.int .i64 0), (.bool false), (.bool false)]) h2 fun n4 h5 =>
pushK (.cells false 26 [AV.nilp, (AV.ptr n4 0)]) h5 fun n6 h7 =>
J.lp (α := AV × AV × AV × Unit) (fun r11 v8 d9 h10 =>
lenK v8.2.1 fun x12 =>
asI .i64 v8.2.2.1 fun x13 =>
fB (ltI x13 (Int.ofNat x12)) fun b14 =>
br b14 (
ixK 1 v8.2.1 v8.2.2.1 fun p15 =>
ldV p15 h10 fun v16 =>
ldN 5 v8.1 h10 fun l17 =>
c8 v16 (AV.agg l17) h10 fun x19 h18 =>
fB (Bool.not (eqI x19 (Int.ofNat 1))) fun b20 =>
J.jn (fun v21 h22 =>
J.jn (fun v24 h25 =>
J.jn (fun v27 h28 =>
J.jb (fun b31 v32 =>
J.jn (fun v35 h36 =>
J.jn (fun v40 h41 =>
pickB (AV.bool b20) (AV.bool true) v40 fun b45 =>
J.jn (fun v46 h47 =>
J.jn (fun v49 h50 =>
J.jn (fun v52 h53 =>
J.jb (fun b56 v57 =>
J.jn (fun v60 h61 =>
J.jn (fun v63 h64 =>
J.jn (fun v68 h69 =>
J.jn (fun v73 h74 =>
pickB (AV.bool b45) (AV.bool true) v73 fun b78 =>
br b78 (
leaveK (gam J [(6, w6 c6), (7, w7 c7), (8, w8 c8), (10, w10 c10), (12, w12 c12), (17, w17 c17)]) d9 h74 fun h79 =>
k false h79) (
asI .i64 v8.2.2.1 fun x80 =>
fI (wrapF .i64 (Int.add x80 (Int.ofNat 1))) fun x81 =>
r11 (v8.1, v8.2.1, (AV.int .i64 x81), ()) d9 h74)) fun j75 =>
br b45 (
j75 skipV h69) (
asB v68 fun b76 =>
fB (Bool.not b76) fun b77 =>
j75 (AV.bool b77) h69)) fun j70 =>
br b45 (
j70 skipV h64) (
c17 v63 v60 h64 fun b72 h71 =>
j70 (AV.bool b72) h71)) fun j65 =>
br b45 (
j65 skipV h61) (
c12 v57 h61 fun v67 h66 =>
j65 v67 h66)) fun j62 =>
br b45 (
j62 skipV h53) (
j62 (AV.agg [(.nils), (.int .i64 0), (.int .i64 0), (.int .i64 0)]) h53)) fun j58 =>
br b45 (
j58 false skipV) (
ldV v52 h53 fun v59 =>
j58 true v59)) fun j54 =>
br b45 (
j54 skipV h50) (
ixK 1 v46 v49 fun p55 =>
j54 p55 h50)) fun j51 =>
br b45 (
j51 skipV h47) (
j51 v8.2.2.1 h47)) fun j48 =>
br b45 (
j48 skipV h41) (
j48 v8.2.1 h41)) fun j42 =>
br b20 (
j42 skipV h36) (
asS v35 fun s43 =>
fB (Bool.not (Str.beq s43 (⟨0, 0⟩ : Str))) fun b44 =>
j42 (AV.bool b44) h36)) fun j37 =>
br b20 (
j37 skipV h28) (
c10 v32 h28 fun s39 h38 =>
j37 (AV.str s39) h38)) fun j33 =>
br b20 (
j33 false skipV) (
ldV v27 h28 fun v34 =>
j33 true v34)) fun j29 =>
br b20 (
j29 skipV h25) (
ixK 1 v21 v24 fun p30 =>
j29 p30 h25)) fun j26 =>
br b20 (
j26 skipV h22) (
j26 v8.2.2.1 h22)) fun j23 =>
br b20 (
j23 skipV h18) (
j23 v8.2.1 h18)) (
c6 AV.nilp h10 fun v83 x84 h82 =>
pushK (.cells false 58 [(.nilm), (.nilm), (.nils), (.int .i64 0), (.int .i64 0), (.bool false), (.bool false), (.int .i64 0), (.int .i64 0), (.bool false)]) h82 fun n85 h86 =>
c6 (AV.ptr n85 0) h86 fun v88 x89 h87 =>
c7  h87 fun b91 h90 =>
J.jn (fun v92 h93 =>
J.jn (fun v95 h96 =>
pickB (AV.bool b91) v95 (AV.bool false) fun b99 =>
J.jn (fun v100 h101 =>
J.jn (fun v103 h104 =>
pickB (AV.bool b99) v103 (AV.bool false) fun b108 =>
J.jn (fun v109 h110 =>
J.jn (fun v112 h113 =>
pickB (AV.bool b108) v112 (AV.bool false) fun b116 =>
J.jn (fun v117 h118 =>
J.jn (fun v120 h121 =>
pickB (AV.bool b116) v120 (AV.bool false) fun b125 =>
leaveK (gam J [(6, w6 c6), (7, w7 c7), (8, w8 c8), (10, w10 c10), (12, w12 c12), (17, w17 c17)]) d9 h121 fun h126 =>
k b125 h126) fun j122 =>
br b116 (
asI .i64 v117 fun x123 =>
fB (eqI x123 (Int.ofNat 1)) fun b124 =>
j122 (AV.bool b124) h118) (
j122 skipV h118)) fun j119 =>
br b116 (
j119 (AV.int .i64 x89) h113) (
j119 skipV h113)) fun j114 =>
br b108 (
nilB 0 v109 fun b115 =>
j114 (AV.bool b115) h110) (
j114 skipV h110)) fun j111 =>
br b108 (
j111 v88 h104) (
j111 skipV h104)) fun j105 =>
br b99 (
asI .i64 v100 fun x106 =>
fB (eqI x106 (Int.ofNat 1)) fun b107 =>
j105 (AV.bool b107) h101) (
j105 skipV h101)) fun j102 =>
br b99 (
j102 (AV.int .i64 x84) h96) (
j102 skipV h96)) fun j97 =>
br b91 (
nilB 0 v92 fun b98 =>
j97 (AV.bool b98) h93) (
j97 skipV h93)) fun j94 =>
br b91 (
j94 v83 h90) (
j94 skipV h90))) ((AV.ptr n1 0), (AV.slice n6 0 2 2 1 true), (AV.int .i64 (Int.ofNat 0)), ()) [] h7
noncomputable def s4 : AV → H → (Bool → H → Prop) → Prop := s4G J0 s6 s7 s8 s10 s12 s17
noncomputable def w4 (c : AV → H → (Bool → H → Prop) → Prop) : Fun := fun xs h k => arg xs fun a0 xs => noArg xs <| c a0 h fun r0 h => k (.bool r0) h
theorem s4_eq (J : Joins) (c6 : AV → H → (AV → Int → H → Prop) → Prop) (c7 : H → (Bool → H → Prop) → Prop) (c8 : AV → AV → H → (Int → H → Prop) → Prop) (c10 : AV → H → (Str → H → Prop) → Prop) (c12 : AV → H → (AV → H → Prop) → Prop) (c17 : AV → AV → H → (Bool → H → Prop) → Prop) (a0 : AV) (h : H) (k : AV → H → Prop) : denF ty (gam J [(6, w6 c6), (7, w7 c7), (8, w8 c8), (10, w10 c10), (12, w12 c12), (17, w17 c17)]) Tryz.f4 [a0] h k = s4G J c6 c7 c8 c10 c12 c17 a0 h (fun r0 h => k (.bool r0) h) := by kernel_rfl
noncomputable def g4 : Fun := w4 s4
theorem g4_ok : FunOk Tryz.prog 4 g4 := (fun_ok ty_ok mixed (gam_ok (J := J0) (tab_cons g6_ok (tab_cons g7_ok (tab_cons g8_ok (tab_cons g10_ok (tab_cons g12_ok (tab_cons g17_ok (tab_nil fls_fun)))))))) Tryz.func4 (fun args w => by simp)).imp fun xs h k e0 => by
  obtain ⟨a0, xs0, rfl, e1⟩ := arg_imp e0
  obtain ⟨rfl, e2⟩ := noArg_imp e1
  exact (s4_eq J0 s6 s7 s8 s10 s12 s17 a0 h k).mpr e2
end Go.Proofs.YtdaibgpceldbdaaGreatDoor
