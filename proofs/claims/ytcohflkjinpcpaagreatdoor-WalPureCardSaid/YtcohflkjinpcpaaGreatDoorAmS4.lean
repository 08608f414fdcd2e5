/- Functions as they are reckoned. MADE BY PROGRAM (wip/tools/shal.py). -/
import Derived.Test.YtcohflkjinpcpaaGreatDoorAmH66
namespace Go.Proofs.YtcohflkjinpcpaaGreatDoor
open Go Go.Am
set_option maxRecDepth 100000
set_option linter.all false
/-- slices.Chunk[[]byte,byte]$1 -/
noncomputable def g84 : Fun := denFS ty (gam J0 []) Tryz.f84
theorem g84_ok : FunOk Tryz.prog 84 g84 := fun_okS ty_ok mixed (gam_ok (J := J0) (tab_nil fls_fun)) Tryz.func84 (fun args w => by simp)
/-- slices.Chunk[[]byte,byte] -/
noncomputable def g67 : Fun := denFS ty (gam J0 [(84, g84)]) Tryz.f67
theorem g67_ok : FunOk Tryz.prog 67 g67 := fun_okS ty_ok mixed (gam_ok (J := J0) (tab_cons g84_ok (tab_nil fls_fun))) Tryz.func67 (fun args w => by simp)
/-- function 84 as function 49 ranges over it -/
noncomputable def it84_49 : Fun := denF ty (gamI J0 [] [] (denR ty (gamI J0 [(65, g65), (66, g66'), (67, g67), (68, g68), (69, g69)] [] noCode))) Tryz.f84
theorem it84_49_ok : ItOk Tryz.prog 84 it84_49 := it_ok ty_ok mixed (gamI_ok (J := J0) (tab_nil fls_fun) (tab_nil fls_it) (code_ok ty_ok mixed (gamI_ok (J := J0) (tab_cons g65_ok (tab_cons g66'_ok (tab_cons g67_ok (tab_cons g68_ok (tab_cons g69_ok (tab_nil fls_fun)))))) (tab_nil fls_it) noCode_ok))) Tryz.func84 (fun args w => by simp)
/-- (*stagepost/vfs.FS).Append -/
noncomputable def g49 : Fun := denFS ty (gamI J0 [(65, g65), (66, g66'), (67, g67), (68, g68), (69, g69)] [(84, it84_49)] noCode) Tryz.f49
theorem g49_ok : FunOk Tryz.prog 49 g49 := fun_okS ty_ok mixed (gamI_ok (J := J0) (tab_cons g65_ok (tab_cons g66'_ok (tab_cons g67_ok (tab_cons g68_ok (tab_cons g69_ok (tab_nil fls_fun)))))) (tab_cons it84_49_ok (tab_nil fls_it)) noCode_ok) Tryz.func49 (fun args w => by simp)
/-- (*stagepost/vfs.FS).Sync -/
noncomputable def g50 : Fun := denFS ty (gam J0 [(65, g65), (70, g70), (71, g71)]) Tryz.f50
theorem g50_ok : FunOk Tryz.prog 50 g50 := fun_okS ty_ok mixed (gam_ok (J := J0) (tab_cons g65_ok (tab_cons g70_ok (tab_cons g71_ok (tab_nil fls_fun))))) Tryz.func50 (fun args w => by simp)
/-- (*stagepost/wal.Wal).Append -/
noncomputable def g22 : Fun := denFS ty (gam J0 [(8, g8), (12, g12), (14, g14), (46, g46), (47, g47), (48, g48), (49, g49), (50, g50)]) Tryz.f22
theorem g22_ok : FunOk Tryz.prog 22 g22 := fun_okS ty_ok mixed (gam_ok (J := J0) (tab_cons g8_ok (tab_cons g12_ok (tab_cons g14_ok (tab_cons g46_ok (tab_cons g47_ok (tab_cons g48_ok (tab_cons g49_ok (tab_cons g50_ok (tab_nil fls_fun)))))))))) Tryz.func22 (fun args w => by simp)
/-- stagepost/stagepostlaw05.put -/
noncomputable def g23 : Fun := denFS ty (gam J0 []) Tryz.f23
theorem g23_ok : FunOk Tryz.prog 23 g23 := fun_okS ty_ok mixed (gam_ok (J := J0) (tab_nil fls_fun)) Tryz.func23 (fun args w => by simp)
/-- (*stagepost/wal.Wal).Seq -/
noncomputable def g24 : Fun := denFS ty (gam J0 []) Tryz.f24
theorem g24_ok : FunOk Tryz.prog 24 g24 := fun_okS ty_ok mixed (gam_ok (J := J0) (tab_nil fls_fun)) Tryz.func24 (fun args w => by simp)
/-- (*stagepost/wal.Wal).Segment -/
noncomputable def g25 : Fun := denFS ty (gam J0 []) Tryz.f25
theorem g25_ok : FunOk Tryz.prog 25 g25 := fun_okS ty_ok mixed (gam_ok (J := J0) (tab_nil fls_fun)) Tryz.func25 (fun args w => by simp)
/-- stagepost/stagepostlaw05.lives -/
noncomputable def g4 : Fun := denFS ty (gam J0 [(20, g20), (21, g21), (22, g22), (23, g23), (24, g24), (25, g25)]) Tryz.f4
theorem g4_ok : FunOk Tryz.prog 4 g4 := fun_okS ty_ok mixed (gam_ok (J := J0) (tab_cons g20_ok (tab_cons g21_ok (tab_cons g22_ok (tab_cons g23_ok (tab_cons g24_ok (tab_cons g25_ok (tab_nil fls_fun)))))))) Tryz.func4 (fun args w => by simp)
/-- stagepost/stagepostlaw05.light -/
noncomputable def s5G (J : Joins) (a0 : AV) (h : H) (k : Bool → H → Prop) : Prop :=
J.lp (α := AV × AV × Unit) (fun r4 v1 d2 h3 =>
lenK v1.1 fun x5 =>
asI .i64 v1.2.1 fun x6 =>
fB (ltI x6 (Int.ofNat x5)) fun b7 =>
br b7 (
ixK 3 v1.1 v1.2.1 fun p8 =>
faK 0 p8 fun p9 =>
ldS p9 h3 fun s10 =>
fB (ltI (Int.ofNat 600) (Int.ofNat s10.len)) fun b11 =>
J.jn (fun v12 h13 =>
J.jn (fun v15 h16 =>
J.jn (fun v18 h19 =>
J.jn (fun v22 h23 =>
J.jn (fun v26 h27 =>
J.jn (fun v30 h31 =>
J.jn (fun v34 h35 =>
J.jn (fun v39 h40 =>
J.jn (fun v42 h43 =>
J.jn (fun v45 h46 =>
J.jn (fun v48 h49 =>
J.jn (fun v52 h53 =>
J.jn (fun v56 h57 =>
J.jn (fun v60 h61 =>
J.jn (fun v64 h65 =>
J.jn (fun v69 h70 =>
pickB (AV.bool b11) (AV.bool true) v69 fun b73 =>
J.jn (fun v74 h75 =>
J.jn (fun v77 h78 =>
J.jn (fun v80 h81 =>
J.jn (fun v84 h85 =>
J.jn (fun v88 h89 =>
J.jn (fun v92 h93 =>
J.jn (fun v96 h97 =>
pickB (AV.bool b73) (AV.bool true) v96 fun b101 =>
br b101 (
leaveK (gam J []) d2 h97 fun h102 =>
k false h102) (
asI .i64 v1.2.1 fun x103 =>
fI (wrapF .i64 (Int.add x103 (Int.ofNat 1))) fun x104 =>
r4 (v1.1, (AV.int .i64 x104), ()) d2 h97)) fun j98 =>
br b73 (
j98 skipV h93) (
asI .i64 v92 fun x99 =>
fB (ltI (Int.ofNat 4105) x99) fun b100 =>
j98 (AV.bool b100) h93)) fun j94 =>
br b73 (
j94 skipV h89) (
asS v88 fun s95 =>
j94 (AV.int .i64 (Int.ofNat s95.len)) h89)) fun j90 =>
br b73 (
j90 skipV h85) (
ldS v84 h85 fun s91 =>
j90 (AV.str s91) h85)) fun j86 =>
br b73 (
j86 skipV h81) (
faK 1 v80 fun p87 =>
j86 p87 h81)) fun j82 =>
br b73 (
j82 skipV h78) (
ixK 3 v74 v77 fun p83 =>
j82 p83 h78)) fun j79 =>
br b73 (
j79 skipV h75) (
j79 v1.2.1 h75)) fun j76 =>
br b73 (
j76 skipV h70) (
j76 v1.1 h70)) fun j71 =>
br b11 (
j71 skipV h65) (
pickB v39 v64 (AV.bool false) fun b72 =>
j71 (AV.bool b72) h65)) fun j66 =>
asBU v39 (fun b105 =>
br b105 (
asI .i64 v60 fun x67 =>
fB (Bool.not (ltI (Int.ofNat 4096) x67)) fun b68 =>
j66 (AV.bool b68) h61) (
j66 skipV h61)) (
j66 skipV h61)) fun j62 =>
asBU v39 (fun b106 =>
br b106 (
asS v56 fun s63 =>
j62 (AV.int .i64 (Int.ofNat s63.len)) h57) (
j62 skipV h57)) (
j62 skipV h57)) fun j58 =>
asBU v39 (fun b107 =>
br b107 (
ldS v52 h53 fun s59 =>
j58 (AV.str s59) h53) (
j58 skipV h53)) (
j58 skipV h53)) fun j54 =>
asBU v39 (fun b108 =>
br b108 (
faK 1 v48 fun p55 =>
j54 p55 h49) (
j54 skipV h49)) (
j54 skipV h49)) fun j50 =>
asBU v39 (fun b109 =>
br b109 (
ixK 3 v42 v45 fun p51 =>
j50 p51 h46) (
j50 skipV h46)) (
j50 skipV h46)) fun j47 =>
asBU v39 (fun b110 =>
br b110 (
j47 v1.2.1 h43) (
j47 skipV h43)) (
j47 skipV h43)) fun j44 =>
asBU v39 (fun b111 =>
br b111 (
j44 v1.1 h40) (
j44 skipV h40)) (
j44 skipV h40)) fun j41 =>
br b11 (
j41 skipV h35) (
j41 v34 h35)) fun j36 =>
br b11 (
j36 skipV h31) (
asI .i64 v30 fun x37 =>
fB (ltI (Int.ofNat 600) x37) fun b38 =>
j36 (AV.bool b38) h31)) fun j32 =>
br b11 (
j32 skipV h27) (
asS v26 fun s33 =>
j32 (AV.int .i64 (Int.ofNat s33.len)) h27)) fun j28 =>
br b11 (
j28 skipV h23) (
ldS v22 h23 fun s29 =>
j28 (AV.str s29) h23)) fun j24 =>
br b11 (
j24 skipV h19) (
faK 1 v18 fun p25 =>
j24 p25 h19)) fun j20 =>
br b11 (
j20 skipV h16) (
ixK 3 v12 v15 fun p21 =>
j20 p21 h16)) fun j17 =>
br b11 (
j17 skipV h13) (
j17 v1.2.1 h13)) fun j14 =>
br b11 (
j14 skipV h3) (
j14 v1.1 h3)) (
leaveK (gam J []) d2 h3 fun h112 =>
k true h112)) (a0, (AV.int .i64 (Int.ofNat 0)), ()) [] h
noncomputable def s5 : AV → H → (Bool → H → Prop) → Prop := s5G J0 
noncomputable def w5 (c : AV → H → (Bool → H → Prop) → Prop) : Fun := fun xs h k => arg xs fun a0 xs => noArg xs <| c a0 h fun r0 h => k (.bool r0) h
theorem s5_eq (J : Joins) (a0 : AV) (h : H) (k : AV → H → Prop) : denF ty (gam J []) Tryz.f5 [a0] h k = s5G J  a0 h (fun r0 h => k (.bool r0) h) := by kernel_rfl
noncomputable def g5 : Fun := w5 s5
theorem g5_ok : FunOk Tryz.prog 5 g5 := (fun_ok ty_ok mixed (gam_ok (J := J0) (tab_nil fls_fun)) Tryz.func5 (fun args w => by simp)).imp fun xs h k e0 => by
  obtain ⟨a0, xs0, rfl, e1⟩ := arg_imp e0
  obtain ⟨rfl, e2⟩ := noArg_imp e1
  exact (s5_eq J0  a0 h k).mpr e2
/-- stagepost/stagepostkit.LentWrites -/
noncomputable def s6G (J : Joins) (a0 : AV) (h : H) (k : AV → H → Prop) : Prop :=
pushK (.cells false 53 []) h fun n1 h2 =>
apC 53 3 40 (AV.slice n1 0 0 0 3 true) a0 h2 fun v3 h4 =>
J.lp (α := AV × AV × Unit) (fun r8 v5 d6 h7 =>
asI .i64 v5.2.1 fun x9 =>
fB (ltI x9 (Int.ofNat 3)) fun b10 =>
br b10 (
ck (Nat.beq (List.length [(AV.str ⟨6, 108187682958948⟩), (.str ⟨0, 0⟩), (.bool false)]) 3) (op' (lputAt 0 [(AV.str ⟨6, 108187682958948⟩), (.str ⟨0, 0⟩), (.bool false)] [(.str ⟨0, 0⟩), (.str ⟨0, 0⟩), (.bool false)]) fun l13 =>
pushK (.cells false 53 l13) h7 fun n11 h12 =>
apC 53 3 40 v5.1 (AV.slice n11 0 1 1 3 true) h12 fun v14 h15 =>
asI .i64 v5.2.1 fun x16 =>
fI (wrapF .i64 (Int.add x16 (Int.ofNat 1))) fun x17 =>
r8 (v14, (AV.int .i64 x17), ()) d6 h15)) (
leaveK (gam J []) d6 h7 fun h18 =>
k v5.1 h18)) (v3, (AV.int .i64 (Int.ofNat 0)), ()) [] h4
noncomputable def s6 : AV → H → (AV → H → Prop) → Prop := s6G J0 
noncomputable def w6 (c : AV → H → (AV → H → Prop) → Prop) : Fun := fun xs h k => arg xs fun a0 xs => noArg xs <| c a0 h fun r0 h => k r0 h
theorem s6_eq (J : Joins) (a0 : AV) (h : H) (k : AV → H → Prop) : denF ty (gam J []) Tryz.f6 [a0] h k = s6G J  a0 h (fun r0 h => k r0 h) := by kernel_rfl
noncomputable def g6 : Fun := w6 s6
theorem g6_ok : FunOk Tryz.prog 6 g6 := (fun_ok ty_ok mixed (gam_ok (J := J0) (tab_nil fls_fun)) Tryz.func6 (fun args w => by simp)).imp fun xs h k e0 => by
  obtain ⟨a0, xs0, rfl, e1⟩ := arg_imp e0
  obtain ⟨rfl, e2⟩ := noArg_imp e1
  exact (s6_eq J0  a0 h k).mpr e2
/-- stagepost/stagepostkit.CopyBytes -/
noncomputable def s26G (J : Joins) (a0 : AV) (h : H) (k : AV → H → Prop) : Prop :=
op' (asRow true 5 []) fun k3 =>
pushK k3 h fun n1 h2 =>
apB (.slice 5) 5 (AV.slice n1 0 0 0 1 true) a0 h2 fun v4 h5 =>
k v4 h5
noncomputable def s26 : AV → H → (AV → H → Prop) → Prop := s26G J0 
noncomputable def w26 (c : AV → H → (AV → H → Prop) → Prop) : Fun := fun xs h k => arg xs fun a0 xs => noArg xs <| c a0 h fun r0 h => k r0 h
theorem s26_eq (J : Joins) (a0 : AV) (h : H) (k : AV → H → Prop) : denF ty (gam J []) Tryz.f26 [a0] h k = s26G J  a0 h (fun r0 h => k r0 h) := by kernel_rfl
noncomputable def g26 : Fun := w26 s26
theorem g26_ok : FunOk Tryz.prog 26 g26 := (fun_ok ty_ok mixed (gam_ok (J := J0) (tab_nil fls_fun)) Tryz.func26 (fun args w => by simp)).imp fun xs h k e0 => by
  obtain ⟨a0, xs0, rfl, e1⟩ := arg_imp e0
  obtain ⟨rfl, e2⟩ := noArg_imp e1
  exact (s26_eq J0  a0 h k).mpr e2
/-- stagepost/stagepostkit.LentBytes -/
noncomputable def s7G (J : Joins) (c26 : AV → H → (AV → H → Prop) → Prop) (a0 : AV) (h : H) (k : AV → H → Prop) : Prop :=
c26 a0 h fun v2 h1 =>
J.lp (α := AV × AV × Unit) (fun r6 v3 d4 h5 =>
asI .i64 v3.2.1 fun x7 =>
fB (ltI x7 (Int.ofNat 3)) fun b8 =>
br b8 (
asI .i64 v3.2.1 fun x9 =>
fI (wrapF .u8 x9) fun x10 =>
fI (wrapF .u8 (Int.add (Int.ofNat 201) x10)) fun x11 =>
op' (asRow true 5 [(AV.int .u8 x11)]) fun k14 =>
pushK k14 h5 fun n12 h13 =>
apB (.slice 5) 5 v3.1 (AV.slice n12 0 1 1 1 true) h13 fun v15 h16 =>
asI .i64 v3.2.1 fun x17 =>
fI (wrapF .i64 (Int.add x17 (Int.ofNat 1))) fun x18 =>
r6 (v15, (AV.int .i64 x18), ()) d4 h16) (
leaveK (gam J [(26, w26 c26)]) d4 h5 fun h19 =>
k v3.1 h19)) (v2, (AV.int .i64 (Int.ofNat 0)), ()) [] h1
noncomputable def s7 : AV → H → (AV → H → Prop) → Prop := s7G J0 s26
noncomputable def w7 (c : AV → H → (AV → H → Prop) → Prop) : Fun := fun xs h k => arg xs fun a0 xs => noArg xs <| c a0 h fun r0 h => k r0 h
theorem s7_eq (J : Joins) (c26 : AV → H → (AV → H → Prop) → Prop) (a0 : AV) (h : H) (k : AV → H → Prop) : denF ty (gam J [(26, w26 c26)]) Tryz.f7 [a0] h k = s7G J c26 a0 h (fun r0 h => k r0 h) := by kernel_rfl
noncomputable def g7 : Fun := w7 s7
theorem g7_ok : FunOk Tryz.prog 7 g7 := (fun_ok ty_ok mixed (gam_ok (J := J0) (tab_cons g26_ok (tab_nil fls_fun))) Tryz.func7 (fun args w => by simp)).imp fun xs h k e0 => by
  obtain ⟨a0, xs0, rfl, e1⟩ := arg_imp e0
  obtain ⟨rfl, e2⟩ := noArg_imp e1
  exact (s7_eq J0 s26 a0 h k).mpr e2
/-- stagepost/stagepostref05.Fine -/
noncomputable def s40G (J : Joins) (a0 : AV) (h : H) (k : Bool → H → Prop) : Prop :=
Go.Am.asAgg a0 fun l3 =>
pushK (.cells false 53 l3) h fun n1 h2 =>
ldS (AV.ptr n1 0) h2 fun s4 =>
fB (Bool.not (ltI (Int.ofNat s4.len) (Int.ofNat 1))) fun b5 =>
J.jn (fun v6 h7 =>
J.jn (fun v9 h10 =>
J.jn (fun v13 h14 =>
J.jn (fun v17 h18 =>
pickB (AV.bool b5) v17 (AV.bool false) fun b22 =>
J.jn (fun v23 h24 =>
J.jn (fun v26 h27 =>
J.jn (fun v30 h31 =>
J.jn (fun v34 h35 =>
pickB (AV.bool b22) v34 (AV.bool false) fun b39 =>
J.jn (fun v40 h41 =>
J.jn (fun v43 h44 =>
J.jn (fun v47 h48 =>
J.jn (fun v52 h53 =>
J.jn (fun v55 h56 =>
J.jn (fun v58 h59 =>
J.jn (fun v62 h63 =>
J.jn (fun v67 h68 =>
pickB (AV.bool b39) v67 (AV.bool false) fun b71 =>
k b71 h68) fun j69 =>
br b39 (
pickB v52 (AV.bool true) v62 fun b70 =>
j69 (AV.bool b70) h63) (
j69 skipV h63)) fun j64 =>
asBU v52 (fun b72 =>
br b72 (
j64 skipV h59) (
asS v58 fun s65 =>
fB (Str.beq s65 (⟨0, 0⟩ : Str)) fun b66 =>
j64 (AV.bool b66) h59)) (
j64 skipV h59)) fun j60 =>
asBU v52 (fun b73 =>
br b73 (
j60 skipV h56) (
ldS v55 h56 fun s61 =>
j60 (AV.str s61) h56)) (
j60 skipV h56)) fun j57 =>
asBU v52 (fun b74 =>
br b74 (
j57 skipV h53) (
j57 (AV.ptr n1 1) h53)) (
j57 skipV h53)) fun j54 =>
br b39 (
j54 v47 h48) (
j54 skipV h48)) fun j49 =>
br b39 (
asB v43 fun b50 =>
fB (Bool.not b50) fun b51 =>
j49 (AV.bool b51) h44) (
j49 skipV h44)) fun j45 =>
br b39 (
ldB v40 h41 fun b46 =>
j45 (AV.bool b46) h41) (
j45 skipV h41)) fun j42 =>
br b39 (
j42 (AV.ptr n1 2) h35) (
j42 skipV h35)) fun j36 =>
br b22 (
asI .i64 v30 fun x37 =>
fB (Bool.not (ltI (Int.ofNat 4096) x37)) fun b38 =>
j36 (AV.bool b38) h31) (
j36 skipV h31)) fun j32 =>
br b22 (
asS v26 fun s33 =>
j32 (AV.int .i64 (Int.ofNat s33.len)) h27) (
j32 skipV h27)) fun j28 =>
br b22 (
ldS v23 h24 fun s29 =>
j28 (AV.str s29) h24) (
j28 skipV h24)) fun j25 =>
br b22 (
j25 (AV.ptr n1 1) h18) (
j25 skipV h18)) fun j19 =>
br b5 (
asI .i64 v13 fun x20 =>
fB (Bool.not (ltI (Int.ofNat 512) x20)) fun b21 =>
j19 (AV.bool b21) h14) (
j19 skipV h14)) fun j15 =>
br b5 (
asS v9 fun s16 =>
j15 (AV.int .i64 (Int.ofNat s16.len)) h10) (
j15 skipV h10)) fun j11 =>
br b5 (
ldS v6 h7 fun s12 =>
j11 (AV.str s12) h7) (
j11 skipV h7)) fun j8 =>
br b5 (
j8 (AV.ptr n1 0) h2) (
j8 skipV h2)
noncomputable def s40 : AV → H → (Bool → H → Prop) → Prop := s40G J0 
noncomputable def w40 (c : AV → H → (Bool → H → Prop) → Prop) : Fun := fun xs h k => arg xs fun a0 xs => noArg xs <| c a0 h fun r0 h => k (.bool r0) h
theorem s40_eq (J : Joins) (a0 : AV) (h : H) (k : AV → H → Prop) : denF ty (gam J []) Tryz.f40 [a0] h k = s40G J  a0 h (fun r0 h => k (.bool r0) h) := by kernel_rfl
noncomputable def g40 : Fun := w40 s40
theorem g40_ok : FunOk Tryz.prog 40 g40 := (fun_ok ty_ok mixed (gam_ok (J := J0) (tab_nil fls_fun)) Tryz.func40 (fun args w => by simp)).imp fun xs h k e0 => by
  obtain ⟨a0, xs0, rfl, e1⟩ := arg_imp e0
  obtain ⟨rfl, e2⟩ := noArg_imp e1
  exact (s40_eq J0  a0 h k).mpr e2
/-- stagepost/stagepostref05.Check -/
noncomputable def s15G (J : Joins) (c40 : AV → H → (Bool → H → Prop) → Prop) (a0 : AV) (h : H) (k : Int → H → Prop) : Prop :=
lenK a0 fun x1 =>
fB (eqI (Int.ofNat x1) (Int.ofNat 0)) fun b2 =>
br b2 (
k (Int.ofNat 2) h) (
lenK a0 fun x3 =>
fB (ltI (Int.ofNat 64) (Int.ofNat x3)) fun b4 =>
br b4 (
k (Int.ofNat 3) h) (
J.lp (α := AV × AV × Unit) (fun r8 v5 d6 h7 =>
lenK v5.1 fun x9 =>
asI .i64 v5.2.1 fun x10 =>
fB (ltI x10 (Int.ofNat x9)) fun b11 =>
br b11 (
ixK 3 v5.1 v5.2.1 fun p12 =>
ldN 3 p12 h7 fun l13 =>
c40 (AV.agg l13) h7 fun b15 h14 =>
fB (Bool.not b15) fun b16 =>
br b16 (
leaveK (gam J [(40, w40 c40)]) d6 h14 fun h17 =>
k (Int.ofNat 2) h17) (
asI .i64 v5.2.1 fun x18 =>
fI (wrapF .i64 (Int.add x18 (Int.ofNat 1))) fun x19 =>
r8 (v5.1, (AV.int .i64 x19), ()) d6 h14)) (
J.lp (α := AV × AV × Unit) (fun r23 v20 d21 h22 =>
lenK v20.1 fun x24 =>
asI .i64 v20.2.1 fun x25 =>
fB (ltI x25 (Int.ofNat x24)) fun b26 =>
br b26 (
J.lp (α := AV × AV × AV × Unit) (fun r30 v27 d28 h29 =>
asI .i64 v27.2.2.1 fun x31 =>
asI .i64 v27.2.1 fun x32 =>
fB (ltI x31 x32) fun b33 =>
br b33 (
ixK 3 v27.1 v27.2.1 fun p34 =>
faK 0 p34 fun p35 =>
ldS p35 h29 fun s36 =>
ixK 3 v27.1 v27.2.2.1 fun p37 =>
faK 0 p37 fun p38 =>
ldS p38 h29 fun s39 =>
fB (Str.beq s36 s39) fun b40 =>
br b40 (
leaveK (gam J [(40, w40 c40)]) d28 h29 fun h41 =>
k (Int.ofNat 9) h41) (
asI .i64 v27.2.2.1 fun x42 =>
fI (wrapF .i64 (Int.add x42 (Int.ofNat 1))) fun x43 =>
r30 (v27.1, v27.2.1, (AV.int .i64 x43), ()) d28 h29)) (
asI .i64 v27.2.1 fun x44 =>
fI (wrapF .i64 (Int.add x44 (Int.ofNat 1))) fun x45 =>
r23 (v27.1, (AV.int .i64 x45), ()) d28 h29)) (v20.1, v20.2.1, (AV.int .i64 (Int.ofNat 0)), ()) d21 h22) (
leaveK (gam J [(40, w40 c40)]) d21 h22 fun h46 =>
k (Int.ofNat 0) h46)) (v5.1, (AV.int .i64 (Int.ofNat 0)), ()) d6 h7)) (a0, (AV.int .i64 (Int.ofNat 0)), ()) [] h))
noncomputable def s15 : AV → H → (Int → H → Prop) → Prop := s15G J0 s40
noncomputable def w15 (c : AV → H → (Int → H → Prop) → Prop) : Fun := fun xs h k => arg xs fun a0 xs => noArg xs <| c a0 h fun r0 h => k (.int .i64 r0) h
theorem s15_eq (J : Joins) (c40 : AV → H → (Bool → H → Prop) → Prop) (a0 : AV) (h : H) (k : AV → H → Prop) : denF ty (gam J [(40, w40 c40)]) Tryz.f15 [a0] h k = s15G J c40 a0 h (fun r0 h => k (.int .i64 r0) h) := by kernel_rfl
noncomputable def g15 : Fun := w15 s15
theorem g15_ok : FunOk Tryz.prog 15 g15 := (fun_ok ty_ok mixed (gam_ok (J := J0) (tab_cons g40_ok (tab_nil fls_fun))) Tryz.func15 (fun args w => by simp)).imp fun xs h k e0 => by
  obtain ⟨a0, xs0, rfl, e1⟩ := arg_imp e0
  obtain ⟨rfl, e2⟩ := noArg_imp e1
  exact (s15_eq J0 s40 a0 h k).mpr e2
noncomputable def w30 (c : Int → H → (AV → H → Prop) → Prop) : Fun := fun xs h k => arg xs fun a0 xs => noArg xs <| asI .u64 a0 fun a0 => c a0 h fun r0 h => k r0 h
/-- stagepost/stagepostref01.Bytes -/
noncomputable def s30G (J : Joins) (c30 : Int → H → (AV → H → Prop) → Prop) (a0 : Int) (h : H) (k : AV → H → Prop) : Prop :=
fB (ltI a0 (Int.ofNat 128)) fun b1 =>
br b1 (
fI (wrapF .u8 a0) fun x2 =>
op' (asRow true 5 [(AV.int .u8 x2)]) fun k5 =>
pushK k5 h fun n3 h4 =>
k (AV.slice n3 0 1 1 1 true) h4) (
ck (Bool.not (eqI (Int.ofNat 128) 0)) (fI (Int.tmod a0 (Int.ofNat 128)) fun x6 =>
fI (wrapF .u8 x6) fun x7 =>
fI (wrapF .u8 (Int.add x7 (Int.ofNat 128))) fun x8 =>
op' (asRow true 5 [(AV.int .u8 x8)]) fun k11 =>
pushK k11 h fun n9 h10 =>
ck (Bool.not (eqI (Int.ofNat 128) 0)) (fI (wrapF .u64 (Int.tdiv a0 (Int.ofNat 128))) fun x12 =>
c30 x12 h10 fun v14 h13 =>
apB (.slice 5) 5 (AV.slice n9 0 1 1 1 true) v14 h13 fun v15 h16 =>
k v15 h16)))
noncomputable def rec30 : Nat → Int → H → (AV → H → Prop) → Prop := fun n => Nat.rec (motive := fun _ => Int → H → (AV → H → Prop) → Prop) (fun _ _ _ => False) (fun _ r => s30G J0 r) n
noncomputable def s30 : Int → H → (AV → H → Prop) → Prop := rec30 64
theorem s30_eq (J : Joins) (c30 : Int → H → (AV → H → Prop) → Prop) (a0 : Int) (h : H) (k : AV → H → Prop) : denF ty (gam J [(30, w30 c30)]) Tryz.f30 [(.int .u64 a0)] h k = s30G J c30 a0 h (fun r0 h => k r0 h) := by kernel_rfl
noncomputable def g30 : Fun := w30 s30
theorem rec30_ok : ∀ n, FunOk Tryz.prog 30 (w30 (rec30 n))
  | 0 => fun xs h k e0 => by
    obtain ⟨a0, xs0, rfl, e1⟩ := arg_imp e0
    obtain ⟨rfl, e2⟩ := noArg_imp e1
    obtain ⟨a0, rfl, e3⟩ := asI_iff.1 e2
    exact e3.elim
  | n + 1 => (fun_ok ty_ok mixed (gam_ok (J := J0) (tab_cons (rec30_ok n) (tab_nil fls_fun))) Tryz.func30 (fun args w => by simp)).imp fun xs h k e0 => by
    obtain ⟨a0, xs0, rfl, e1⟩ := arg_imp e0
    obtain ⟨rfl, e2⟩ := noArg_imp e1
    obtain ⟨a0, rfl, e3⟩ := asI_iff.1 e2
    exact (s30_eq J0 (rec30 n) a0 h k).mpr e3
theorem g30_ok : FunOk Tryz.prog 30 g30 := rec30_ok 64
/-- stagepost/stagepostref01.Append -/
noncomputable def s29G (J : Joins) (c30 : Int → H → (AV → H → Prop) → Prop) (a0 : AV) (a1 : Int) (h : H) (k : AV → H → Prop) : Prop :=
op' (asRow true 5 []) fun k3 =>
pushK k3 h fun n1 h2 =>
apB (.slice 5) 5 (AV.slice n1 0 0 0 1 true) a0 h2 fun v4 h5 =>
c30 a1 h5 fun v7 h6 =>
apB (.slice 5) 5 v4 v7 h6 fun v8 h9 =>
k v8 h9
noncomputable def s29 : AV → Int → H → (AV → H → Prop) → Prop := s29G J0 s30
noncomputable def w29 (c : AV → Int → H → (AV → H → Prop) → Prop) : Fun := fun xs h k => arg xs fun a0 xs => arg xs fun a1 xs => noArg xs <| asI .u64 a1 fun a1 => c a0 a1 h fun r0 h => k r0 h
theorem s29_eq (J : Joins) (c30 : Int → H → (AV → H → Prop) → Prop) (a0 : AV) (a1 : Int) (h : H) (k : AV → H → Prop) : denF ty (gam J [(30, w30 c30)]) Tryz.f29 [a0, (.int .u64 a1)] h k = s29G J c30 a0 a1 h (fun r0 h => k r0 h) := by kernel_rfl
noncomputable def g29 : Fun := w29 s29
theorem g29_ok : FunOk Tryz.prog 29 g29 := (fun_ok ty_ok mixed (gam_ok (J := J0) (tab_cons g30_ok (tab_nil fls_fun))) Tryz.func29 (fun args w => by simp)).imp fun xs h k e0 => by
  obtain ⟨a0, xs0, rfl, e1⟩ := arg_imp e0
  obtain ⟨a1, xs1, rfl, e2⟩ := arg_imp e1
  obtain ⟨rfl, e3⟩ := noArg_imp e2
  obtain ⟨a1, rfl, e4⟩ := asI_iff.1 e3
  exact (s29_eq J0 s30 a0 a1 h k).mpr e4
/-- stagepost/stagepostref05.counted -/
noncomputable def s31G (J : Joins) (c29 : AV → Int → H → (AV → H → Prop) → Prop) (a0 : AV) (a1 : Str) (h : H) (k : AV → H → Prop) : Prop :=
fI (wrapF .u64 (Int.ofNat a1.len)) fun x1 =>
c29 a0 x1 h fun v3 h2 =>
apB .str 5 v3 (AV.str a1) h2 fun v4 h5 =>
k v4 h5
noncomputable def s31 : AV → Str → H → (AV → H → Prop) → Prop := s31G J0 s29
noncomputable def w31 (c : AV → Str → H → (AV → H → Prop) → Prop) : Fun := fun xs h k => arg xs fun a0 xs => arg xs fun a1 xs => noArg xs <| asS a1 fun a1 => c a0 a1 h fun r0 h => k r0 h
theorem s31_eq (J : Joins) (c29 : AV → Int → H → (AV → H → Prop) → Prop) (a0 : AV) (a1 : Str) (h : H) (k : AV → H → Prop) : denF ty (gam J [(29, w29 c29)]) Tryz.f31 [a0, (.str a1)] h k = s31G J c29 a0 a1 h (fun r0 h => k r0 h) := by kernel_rfl
noncomputable def g31 : Fun := w31 s31
theorem g31_ok : FunOk Tryz.prog 31 g31 := (fun_ok ty_ok mixed (gam_ok (J := J0) (tab_cons g29_ok (tab_nil fls_fun))) Tryz.func31 (fun args w => by simp)).imp fun xs h k e0 => by
  obtain ⟨a0, xs0, rfl, e1⟩ := arg_imp e0
  obtain ⟨a1, xs1, rfl, e2⟩ := arg_imp e1
  obtain ⟨rfl, e3⟩ := noArg_imp e2
  obtain ⟨a1, rfl, e4⟩ := asS_iff.1 e3
  exact (s31_eq J0 s29 a0 a1 h k).mpr e4
/-- stagepost/stagepostref05.Encode -/
noncomputable def s9G (J : Joins) (c15 : AV → H → (Int → H → Prop) → Prop) (c29 : AV → Int → H → (AV → H → Prop) → Prop) (c30 : Int → H → (AV → H → Prop) → Prop) (c31 : AV → Str → H → (AV → H → Prop) → Prop) (a0 : AV) (h : H) (k : AV → Int → H → Prop) : Prop :=
Go.Am.asAgg a0 fun l3 =>
pushK (.cells false 24 l3) h fun n1 h2 =>
ldI .i64 (AV.ptr n1 0) h2 fun x4 =>
fB (ltI x4 (Int.ofNat 1)) fun b5 =>
J.jn (fun v6 h7 =>
J.jn (fun v9 h10 =>
J.jn (fun v13 h14 =>
pickB (AV.bool b5) (AV.bool true) v13 fun b18 =>
br b18 (
k AV.nils (Int.ofNat 2) h14) (
ldV (AV.ptr n1 1) h14 fun v19 =>
c15 v19 h14 fun x21 h20 =>
fB (Bool.not (eqI x21 (Int.ofNat 0))) fun b22 =>
br b22 (
k AV.nils x21 h20) (
ldI .i64 (AV.ptr n1 0) h20 fun x23 =>
fI (wrapF .u64 x23) fun x24 =>
ldV (AV.ptr n1 1) h20 fun v25 =>
lenK v25 fun x26 =>
fI (wrapF .u64 (Int.ofNat x26)) fun x27 =>
c30 x24 h20 fun v29 h28 =>
ck (readsSo (aLoad1 (AV.ptr n1 1) h28) v25) (
c29 v29 x27 h28 fun v31 h30 =>
J.lp (α := AV × AV × AV × Unit) (fun r35 v32 d33 h34 =>
faK 1 v32.1 fun p36 =>
ldV p36 h34 fun v37 =>
lenK v37 fun x38 =>
asI .i64 v32.2.2.1 fun x39 =>
fB (ltI x39 (Int.ofNat x38)) fun b40 =>
br b40 (
J.jd (α := AV × AV × AV × Unit) (fun v41 d42 h43 =>
asI .i64 v41.2.2.1 fun x45 =>
fI (wrapF .i64 (Int.add x45 (Int.ofNat 1))) fun x46 =>
r35 (v41.1, v41.2.1, (AV.int .i64 x46), ()) d42 h43) fun j44 =>
faK 1 v32.1 fun p47 =>
ldV p47 h34 fun v48 =>
ixK 3 v48 v32.2.2.1 fun p49 =>
ldN 3 p49 h34 fun l50 =>
pushK (.cells false 53 [(.str ⟨0, 0⟩), (.str ⟨0, 0⟩), (.bool false)]) h34 fun n51 h52 =>
stN 3 (AV.ptr n51 0) l50 h52 fun h53 =>
ldB (AV.ptr n51 2) h53 fun b54 =>
br b54 (
op' (asRow true 5 [(AV.int .u8 (Int.ofNat 1))]) fun k57 =>
pushK k57 h53 fun n55 h56 =>
ldS (AV.ptr n51 0) h56 fun s58 =>
apB (.slice 5) 5 v32.2.1 (AV.slice n55 0 1 1 1 true) h56 fun v59 h60 =>
ck (readsSo (aLoad1 (AV.ptr n51 0) h60) (AV.str s58)) (
c31 v59 s58 h60 fun v62 h61 =>
j44 (v32.1, v62, v32.2.2.1, ()) d33 h61)) (
op' (asRow true 5 [(AV.int .u8 (Int.ofNat 0))]) fun k65 =>
pushK k65 h53 fun n63 h64 =>
ldS (AV.ptr n51 0) h64 fun s66 =>
ldS (AV.ptr n51 1) h64 fun s67 =>
apB (.slice 5) 5 v32.2.1 (AV.slice n63 0 1 1 1 true) h64 fun v68 h69 =>
ck (readsSo (aLoad1 (AV.ptr n51 1) h69) (AV.str s67)) (
ck (readsSo (aLoad1 (AV.ptr n51 0) h69) (AV.str s66)) (
c31 v68 s66 h69 fun v71 h70 =>
ck (readsSo (aLoad1 (AV.ptr n51 1) h70) (AV.str s67)) (
c31 v71 s67 h70 fun v73 h72 =>
j44 (v32.1, v73, v32.2.2.1, ()) d33 h72))))) (
leaveK (gam J [(15, w15 c15), (29, w29 c29), (30, w30 c30), (31, w31 c31)]) d33 h34 fun h74 =>
k v32.2.1 (Int.ofNat 0) h74)) ((AV.ptr n1 0), v31, (AV.int .i64 (Int.ofNat 0)), ()) [] h30)))) fun j15 =>
br b5 (
j15 skipV h10) (
asI .i64 v9 fun x16 =>
fB (ltI (Int.ofNat 1073741824) x16) fun b17 =>
j15 (AV.bool b17) h10)) fun j11 =>
br b5 (
j11 skipV h7) (
ldI .i64 v6 h7 fun x12 =>
j11 (AV.int .i64 x12) h7)) fun j8 =>
br b5 (
j8 skipV h2) (
j8 (AV.ptr n1 0) h2)
noncomputable def s9 : AV → H → (AV → Int → H → Prop) → Prop := s9G J0 s15 s29 s30 s31
noncomputable def w9 (c : AV → H → (AV → Int → H → Prop) → Prop) : Fun := fun xs h k => arg xs fun a0 xs => noArg xs <| c a0 h fun r0 r1 h => k (.tuple [r0, (.int .i64 r1)]) h
theorem s9_eq (J : Joins) (c15 : AV → H → (Int → H → Prop) → Prop) (c29 : AV → Int → H → (AV → H → Prop) → Prop) (c30 : Int → H → (AV → H → Prop) → Prop) (c31 : AV → Str → H → (AV → H → Prop) → Prop) (a0 : AV) (h : H) (k : AV → H → Prop) : denF ty (gam J [(15, w15 c15), (29, w29 c29), (30, w30 c30), (31, w31 c31)]) Tryz.f9 [a0] h k = s9G J c15 c29 c30 c31 a0 h (fun r0 r1 h => k (.tuple [r0, (.int .i64 r1)]) h) := by kernel_rfl
noncomputable def g9 : Fun := w9 s9
theorem g9_ok : FunOk Tryz.prog 9 g9 := (fun_ok ty_ok mixed (gam_ok (J := J0) (tab_cons g15_ok (tab_cons g29_ok (tab_cons g30_ok (tab_cons g31_ok (tab_nil fls_fun)))))) Tryz.func9 (fun args w => by simp)).imp fun xs h k e0 => by
  obtain ⟨a0, xs0, rfl, e1⟩ := arg_imp e0
  obtain ⟨rfl, e2⟩ := noArg_imp e1
  exact (s9_eq J0 s15 s29 s30 s31 a0 h k).mpr e2
/-- stagepost/stagepostref01.Read -/
noncomputable def s52G (J : Joins) (c30 : Int → H → (AV → H → Prop) → Prop) (a0 : AV) (h : H) (k : Int → Int → Int → H → Prop) : Prop :=
J.lp (α := AV × AV × Unit) (fun r4 v1 d2 h3 =>
lenK v1.1 fun x5 =>
asI .i64 v1.2.1 fun x6 =>
fB (Bool.not (ltI (Int.ofNat x5) x6)) fun b7 =>
J.jn (fun v8 h9 =>
J.jn (fun v11 h12 =>
pickB (AV.bool b7) v11 (AV.bool false) fun b16 =>
br b16 (
asI .i64 v1.2.1 fun x17 =>
fI (wrapF .i64 (Int.sub x17 (Int.ofNat 1))) fun x18 =>
J.lp (α := AV × AV × AV × AV × Unit) (fun r22 v19 d20 h21 =>
asI .i64 v19.2.2.2.1 fun x23 =>
fB (Bool.not (ltI x23 (Int.ofNat 0))) fun b24 =>
br b24 (
asI .u64 v19.2.1 fun x25 =>
fI (wrapF .u64 (Int.mul x25 (Int.ofNat 128))) fun x26 =>
ixK 1 v19.1 v19.2.2.2.1 fun p27 =>
ldI .u8 p27 h21 fun x28 =>
ck (Bool.not (eqI (Int.ofNat 128) 0)) (fI (Int.tmod x28 (Int.ofNat 128)) fun x29 =>
fI (wrapF .u64 x29) fun x30 =>
fI (wrapF .u64 (Int.add x26 x30)) fun x31 =>
asI .i64 v19.2.2.2.1 fun x32 =>
fI (wrapF .i64 (Int.sub x32 (Int.ofNat 1))) fun x33 =>
r22 (v19.1, (AV.int .u64 x31), v19.2.2.1, (AV.int .i64 x33), ()) d20 h21)) (
asI .u64 v19.2.1 fun x35 =>
c30 x35 h21 fun v36 h34 =>
lenK v36 fun x37 =>
asI .i64 v19.2.2.1 fun x38 =>
fB (eqI (Int.ofNat x37) x38) fun b39 =>
J.lp (α := AV × AV × AV × AV × AV × AV × Unit) (fun r43 v40 d41 h42 =>
asI .i64 v40.2.2.2.2.2.1 fun x44 =>
asI .i64 v40.2.2.1 fun x45 =>
fB (ltI x44 x45) fun b46 =>
J.jn (fun v47 h48 =>
pickB (AV.bool b46) v47 (AV.bool false) fun b50 =>
br b50 (
ixK 1 v40.2.2.2.1 v40.2.2.2.2.2.1 fun p51 =>
ldI .u8 p51 h48 fun x52 =>
ixK 1 v40.1 v40.2.2.2.2.2.1 fun p53 =>
ldI .u8 p53 h48 fun x54 =>
fB (eqI x52 x54) fun b55 =>
asI .i64 v40.2.2.2.2.2.1 fun x56 =>
fI (wrapF .i64 (Int.add x56 (Int.ofNat 1))) fun x57 =>
r43 (v40.1, v40.2.1, v40.2.2.1, v40.2.2.2.1, (AV.bool b55), (AV.int .i64 x57), ()) d41 h48) (
asB v40.2.2.2.2.1 fun b58 =>
br b58 (
leaveK (gam J [(30, w30 c30)]) d41 h48 fun h59 =>
asI .u64 v40.2.1 fun x60 =>
asI .i64 v40.2.2.1 fun x61 =>
k x60 x61 (Int.ofNat 0) h59) (
asI .i64 v40.2.2.1 fun x62 =>
fI (wrapF .i64 (Int.add x62 (Int.ofNat 1))) fun x63 =>
r4 (v40.1, (AV.int .i64 x63), ()) d41 h48))) fun j49 =>
br b46 (
j49 v40.2.2.2.2.1 h42) (
j49 skipV h42)) (v19.1, v19.2.1, v19.2.2.1, v36, (AV.bool b39), (AV.int .i64 (Int.ofNat 0)), ()) d20 h34)) (v1.1, (AV.int .u64 (Int.ofNat 0)), v1.2.1, (AV.int .i64 x18), ()) d2 h12) (
leaveK (gam J [(30, w30 c30)]) d2 h12 fun h64 =>
k (Int.ofNat 0) (Int.ofNat 0) (Int.ofNat 5) h64)) fun j13 =>
br b7 (
asI .i64 v8 fun x14 =>
fB (Bool.not (ltI (Int.ofNat 10) x14)) fun b15 =>
j13 (AV.bool b15) h9) (
j13 skipV h9)) fun j10 =>
br b7 (
j10 v1.2.1 h3) (
j10 skipV h3)) (a0, (AV.int .i64 (Int.ofNat 1)), ()) [] h
noncomputable def s52 : AV → H → (Int → Int → Int → H → Prop) → Prop := s52G J0 s30
noncomputable def w52 (c : AV → H → (Int → Int → Int → H → Prop) → Prop) : Fun := fun xs h k => arg xs fun a0 xs => noArg xs <| c a0 h fun r0 r1 r2 h => k (.tuple [(.int .u64 r0), (.int .i64 r1), (.int .i64 r2)]) h
theorem s52_eq (J : Joins) (c30 : Int → H → (AV → H → Prop) → Prop) (a0 : AV) (h : H) (k : AV → H → Prop) : denF ty (gam J [(30, w30 c30)]) Tryz.f52 [a0] h k = s52G J c30 a0 h (fun r0 r1 r2 h => k (.tuple [(.int .u64 r0), (.int .i64 r1), (.int .i64 r2)]) h) := by kernel_rfl
noncomputable def g52 : Fun := w52 s52
theorem g52_ok : FunOk Tryz.prog 52 g52 := (fun_ok ty_ok mixed (gam_ok (J := J0) (tab_cons g30_ok (tab_nil fls_fun))) Tryz.func52 (fun args w => by simp)).imp fun xs h k e0 => by
  obtain ⟨a0, xs0, rfl, e1⟩ := arg_imp e0
  obtain ⟨rfl, e2⟩ := noArg_imp e1
  exact (s52_eq J0 s30 a0 h k).mpr e2
/-- stagepost/stagepostref01.Small -/
noncomputable def s34G (J : Joins) (c52 : AV → H → (Int → Int → Int → H → Prop) → Prop) (a0 : AV) (a1 : Int) (h : H) (k : Int → Int → Int → H → Prop) : Prop :=
c52 a0 h fun x2 x3 x4 h1 =>
fB (Bool.not (eqI x4 (Int.ofNat 0))) fun b5 =>
J.jn (fun v6 h7 =>
J.jn (fun v9 h10 =>
pickB (AV.bool b5) (AV.bool true) v9 fun b14 =>
J.jn (fun v15 h16 =>
J.jn (fun v18 h19 =>
J.jn (fun v21 h22 =>
J.jn (fun v26 h27 =>
pickB (AV.bool b14) (AV.bool true) v26 fun b32 =>
br b32 (
k (Int.ofNat 0) (Int.ofNat 0) (Int.ofNat 5) h27) (
fI (wrapF .i64 x2) fun x33 =>
k x33 x3 (Int.ofNat 0) h27)) fun j28 =>
br b14 (
j28 skipV h22) (
asI .u64 v15 fun x29 =>
asI .u64 v21 fun x30 =>
fB (ltI x30 x29) fun b31 =>
j28 (AV.bool b31) h22)) fun j23 =>
br b14 (
j23 skipV h19) (
asI .i64 v18 fun x24 =>
fI (wrapF .u64 x24) fun x25 =>
j23 (AV.int .u64 x25) h19)) fun j20 =>
br b14 (
j20 skipV h16) (
j20 (AV.int .i64 a1) h16)) fun j17 =>
br b14 (
j17 skipV h10) (
j17 (AV.int .u64 x2) h10)) fun j11 =>
br b5 (
j11 skipV h7) (
asI .i64 v6 fun x12 =>
fB (ltI x12 (Int.ofNat 0)) fun b13 =>
j11 (AV.bool b13) h7)) fun j8 =>
br b5 (
j8 skipV h1) (
j8 (AV.int .i64 a1) h1)
noncomputable def s34 : AV → Int → H → (Int → Int → Int → H → Prop) → Prop := s34G J0 s52
noncomputable def w34 (c : AV → Int → H → (Int → Int → Int → H → Prop) → Prop) : Fun := fun xs h k => arg xs fun a0 xs => arg xs fun a1 xs => noArg xs <| asI .i64 a1 fun a1 => c a0 a1 h fun r0 r1 r2 h => k (.tuple [(.int .i64 r0), (.int .i64 r1), (.int .i64 r2)]) h
theorem s34_eq (J : Joins) (c52 : AV → H → (Int → Int → Int → H → Prop) → Prop) (a0 : AV) (a1 : Int) (h : H) (k : AV → H → Prop) : denF ty (gam J [(52, w52 c52)]) Tryz.f34 [a0, (.int .i64 a1)] h k = s34G J c52 a0 a1 h (fun r0 r1 r2 h => k (.tuple [(.int .i64 r0), (.int .i64 r1), (.int .i64 r2)]) h) := by kernel_rfl
noncomputable def g34 : Fun := w34 s34
theorem g34_ok : FunOk Tryz.prog 34 g34 := (fun_ok ty_ok mixed (gam_ok (J := J0) (tab_cons g52_ok (tab_nil fls_fun))) Tryz.func34 (fun args w => by simp)).imp fun xs h k e0 => by
  obtain ⟨a0, xs0, rfl, e1⟩ := arg_imp e0
  obtain ⟨a1, xs1, rfl, e2⟩ := arg_imp e1
  obtain ⟨rfl, e3⟩ := noArg_imp e2
  obtain ⟨a1, rfl, e4⟩ := asI_iff.1 e3
  exact (s34_eq J0 s52 a0 a1 h k).mpr e4
/-- stagepost/stagepostref05.text -/
noncomputable def s35G (J : Joins) (c34 : AV → Int → H → (Int → Int → Int → H → Prop) → Prop) (a0 : AV) (a1 : Int) (a2 : Int) (h : H) (k : Str → Int → H → Prop) : Prop :=
fB (ltI a1 (Int.ofNat 0)) fun b1 =>
br b1 (
k ⟨0, 0⟩ (Int.negSucc 0) h) (
slK 1 a0 (some (AV.int .i64 a1)) none fun v2 =>
c34 v2 a2 h fun x4 x5 x6 h3 =>
fB (Bool.not (eqI x6 (Int.ofNat 0))) fun b7 =>
J.jn (fun v8 h9 =>
J.jn (fun v11 h12 =>
J.jn (fun v15 h16 =>
J.jn (fun v18 h19 =>
J.jn (fun v24 h25 =>
J.jn (fun v27 h28 =>
J.jn (fun v33 h34 =>
J.jn (fun v36 h37 =>
pickB (AV.bool b7) (AV.bool true) v36 fun b42 =>
br b42 (
k ⟨0, 0⟩ (Int.negSucc 0) h37) (
fI (wrapF .i64 (Int.add a1 x5)) fun x43 =>
fI (wrapF .i64 (Int.add a1 x5)) fun x44 =>
fI (wrapF .i64 (Int.add x44 x4)) fun x45 =>
slK 1 a0 (some (AV.int .i64 x43)) (some (AV.int .i64 x45)) fun v46 =>
toStrK v46 h37 fun s47 =>
fI (wrapF .i64 (Int.add a1 x5)) fun x48 =>
fI (wrapF .i64 (Int.add x48 x4)) fun x49 =>
k s47 x49 h37)) fun j38 =>
br b7 (
j38 skipV h34) (
asI .i64 v27 fun x39 =>
asI .i64 v33 fun x40 =>
fB (ltI x39 x40) fun b41 =>
j38 (AV.bool b41) h34)) fun j35 =>
br b7 (
j35 skipV h28) (
j35 (AV.int .i64 x4) h28)) fun j29 =>
br b7 (
j29 skipV h25) (
asI .i64 v18 fun x30 =>
asI .i64 v24 fun x31 =>
fI (wrapF .i64 (Int.sub x30 x31)) fun x32 =>
j29 (AV.int .i64 x32) h25)) fun j26 =>
br b7 (
j26 skipV h19) (
j26 (AV.int .i64 x5) h19)) fun j20 =>
br b7 (
j20 skipV h16) (
asI .i64 v11 fun x21 =>
asI .i64 v15 fun x22 =>
fI (wrapF .i64 (Int.sub x21 x22)) fun x23 =>
j20 (AV.int .i64 x23) h16)) fun j17 =>
br b7 (
j17 skipV h12) (
j17 (AV.int .i64 a1) h12)) fun j13 =>
br b7 (
j13 skipV h9) (
lenK v8 fun x14 =>
j13 (AV.int .i64 (Int.ofNat x14)) h9)) fun j10 =>
br b7 (
j10 skipV h3) (
j10 a0 h3))
noncomputable def s35 : AV → Int → Int → H → (Str → Int → H → Prop) → Prop := s35G J0 s34
noncomputable def w35 (c : AV → Int → Int → H → (Str → Int → H → Prop) → Prop) : Fun := fun xs h k => arg xs fun a0 xs => arg xs fun a1 xs => arg xs fun a2 xs => noArg xs <| asI .i64 a1 fun a1 => asI .i64 a2 fun a2 => c a0 a1 a2 h fun r0 r1 h => k (.tuple [(.str r0), (.int .i64 r1)]) h
theorem s35_eq (J : Joins) (c34 : AV → Int → H → (Int → Int → Int → H → Prop) → Prop) (a0 : AV) (a1 : Int) (a2 : Int) (h : H) (k : AV → H → Prop) : denF ty (gam J [(34, w34 c34)]) Tryz.f35 [a0, (.int .i64 a1), (.int .i64 a2)] h k = s35G J c34 a0 a1 a2 h (fun r0 r1 h => k (.tuple [(.str r0), (.int .i64 r1)]) h) := by kernel_rfl
noncomputable def g35 : Fun := w35 s35
theorem g35_ok : FunOk Tryz.prog 35 g35 := (fun_ok ty_ok mixed (gam_ok (J := J0) (tab_cons g34_ok (tab_nil fls_fun))) Tryz.func35 (fun args w => by simp)).imp fun xs h k e0 => by
  obtain ⟨a0, xs0, rfl, e1⟩ := arg_imp e0
  obtain ⟨a1, xs1, rfl, e2⟩ := arg_imp e1
  obtain ⟨a2, xs2, rfl, e3⟩ := arg_imp e2
  obtain ⟨rfl, e4⟩ := noArg_imp e3
  obtain ⟨a1, rfl, e5⟩ := asI_iff.1 e4
  obtain ⟨a2, rfl, e6⟩ := asI_iff.1 e5
  exact (s35_eq J0 s34 a0 a1 a2 h k).mpr e6
/-- stagepost/stagepostref05.Decode -/
noncomputable def s11G (J : Joins) (c9 : AV → H → (AV → Int → H → Prop) → Prop) (c34 : AV → Int → H → (Int → Int → Int → H → Prop) → Prop) (c35 : AV → Int → Int → H → (Str → Int → H → Prop) → Prop) (a0 : AV) (h : H) (k : AV → Int → H → Prop) : Prop :=
pushK (.cells false 24 [(.int .i64 0), (.nils)]) h fun n1 h2 =>
c34 a0 (Int.ofNat 1073741824) h2 fun x4 x5 x6 h3 =>
fB (Bool.not (eqI x6 (Int.ofNat 0))) fun b7 =>
br b7 (
stN 2 (AV.ptr n1 0) [(.int .i64 0), (.nils)] h3 fun h8 =>
ldN 2 (AV.ptr n1 0) h8 fun l9 =>
k (AV.agg l9) (Int.ofNat 5) h8) (
slK 1 a0 (some (AV.int .i64 x5)) none fun v10 =>
c34 v10 (Int.ofNat 64) h3 fun x12 x13 x14 h11 =>
fB (Bool.not (eqI x14 (Int.ofNat 0))) fun b15 =>
br b15 (
stN 2 (AV.ptr n1 0) [(.int .i64 0), (.nils)] h11 fun h16 =>
ldN 2 (AV.ptr n1 0) h16 fun l17 =>
k (AV.agg l17) (Int.ofNat 5) h16) (
pushK (.cells false 24 [(.int .i64 0), (.nils)]) h11 fun n18 h19 =>
stN 2 (AV.ptr n18 0) [(AV.int .i64 x4), (.nils)] h19 fun h20 =>
fI (wrapF .i64 (Int.add x5 x13)) fun x21 =>
J.lp (α := AV × AV × AV × AV × AV × AV × Unit) (fun r25 v22 d23 h24 =>
asI .i64 v22.2.2.2.2.2.1 fun x26 =>
asI .i64 v22.2.2.1 fun x27 =>
fB (ltI x26 x27) fun b28 =>
br b28 (
asI .i64 v22.2.2.2.2.1 fun x29 =>
fB (ltI x29 (Int.ofNat 0)) fun b30 =>
J.jn (fun v31 h32 =>
J.jn (fun v34 h35 =>
J.jn (fun v37 h38 =>
J.jn (fun v41 h42 =>
pickB (AV.bool b30) (AV.bool true) v41 fun b47 =>
J.jn (fun v48 h49 =>
J.jn (fun v51 h52 =>
J.jn (fun v54 h55 =>
J.jn (fun v58 h59 =>
J.jn (fun v62 h63 =>
pickB (AV.bool b47) (AV.bool true) v62 fun b67 =>
br b67 (
stN 2 v22.2.1 [(.int .i64 0), (.nils)] h63 fun h68 =>
leaveK (gam J [(9, w9 c9), (34, w34 c34), (35, w35 c35)]) d23 h68 fun h69 =>
ldN 2 v22.2.1 h69 fun l70 =>
k (AV.agg l70) (Int.ofNat 5) h69) (
ixK 1 v22.1 v22.2.2.2.2.1 fun p71 =>
ldI .u8 p71 h63 fun x72 =>
fB (eqI x72 (Int.ofNat 1)) fun b73 =>
pushK (.cells false 53 [(.str ⟨0, 0⟩), (.str ⟨0, 0⟩), (.bool false)]) h63 fun n74 h75 =>
stN 3 (AV.ptr n74 0) [(.str ⟨0, 0⟩), (.str ⟨0, 0⟩), (AV.bool b73)] h75 fun h76 =>
asI .i64 v22.2.2.2.2.1 fun x77 =>
fI (wrapF .i64 (Int.add x77 (Int.ofNat 1))) fun x78 =>
c35 v22.1 x78 (Int.ofNat 512) h76 fun s80 x81 h79 =>
stV (AV.ptr n74 0) (AV.str s80) h79 fun h82 =>
J.jd (α := AV × AV × AV × AV × AV × AV × AV × Unit) (fun v83 d84 h85 =>
faK 1 v83.2.2.2.1 fun p87 =>
ldV p87 h85 fun v88 =>
ldN 3 v83.2.2.2.2.2.2.1 h85 fun l89 =>
ck (Nat.beq (List.length l89) 3) (op' (lputAt 0 l89 [(.str ⟨0, 0⟩), (.str ⟨0, 0⟩), (.bool false)]) fun l92 =>
pushK (.cells false 53 l92) h85 fun n90 h91 =>
apC 53 3 40 v88 (AV.slice n90 0 1 1 3 true) h91 fun v93 h94 =>
faK 1 v83.2.2.2.1 fun p95 =>
stV p95 v93 h94 fun h96 =>
asI .i64 v83.2.2.2.2.2.1 fun x97 =>
fI (wrapF .i64 (Int.add x97 (Int.ofNat 1))) fun x98 =>
r25 (v83.1, v83.2.1, v83.2.2.1, v83.2.2.2.1, v83.2.2.2.2.1, (AV.int .i64 x98), ()) d84 h96)) fun j86 =>
ldB (AV.ptr n74 2) h82 fun b99 =>
fB (Bool.not b99) fun b100 =>
br b100 (
c35 v22.1 x81 (Int.ofNat 4096) h82 fun s102 x103 h101 =>
stV (AV.ptr n74 1) (AV.str s102) h101 fun h104 =>
j86 (v22.1, v22.2.1, v22.2.2.1, v22.2.2.2.1, (AV.int .i64 x103), v22.2.2.2.2.2.1, (AV.ptr n74 0), ()) d23 h104) (
j86 (v22.1, v22.2.1, v22.2.2.1, v22.2.2.2.1, (AV.int .i64 x81), v22.2.2.2.2.2.1, (AV.ptr n74 0), ()) d23 h82))) fun j64 =>
br b47 (
j64 skipV h59) (
asI .u8 v58 fun x65 =>
fB (ltI (Int.ofNat 1) x65) fun b66 =>
j64 (AV.bool b66) h59)) fun j60 =>
br b47 (
j60 skipV h55) (
ldI .u8 v54 h55 fun x61 =>
j60 (AV.int .u8 x61) h55)) fun j56 =>
br b47 (
j56 skipV h52) (
ixK 1 v48 v51 fun p57 =>
j56 p57 h52)) fun j53 =>
br b47 (
j53 skipV h49) (
j53 v22.2.2.2.2.1 h49)) fun j50 =>
br b47 (
j50 skipV h42) (
j50 v22.1 h42)) fun j43 =>
br b30 (
j43 skipV h38) (
asI .i64 v31 fun x44 =>
asI .i64 v37 fun x45 =>
fB (Bool.not (ltI x44 x45)) fun b46 =>
j43 (AV.bool b46) h38)) fun j39 =>
br b30 (
j39 skipV h35) (
lenK v34 fun x40 =>
j39 (AV.int .i64 (Int.ofNat x40)) h35)) fun j36 =>
br b30 (
j36 skipV h32) (
j36 v22.1 h32)) fun j33 =>
br b30 (
j33 skipV h24) (
j33 v22.2.2.2.2.1 h24)) (
lenK v22.1 fun x105 =>
asI .i64 v22.2.2.2.2.1 fun x106 =>
fB (Bool.not (eqI x106 (Int.ofNat x105))) fun b107 =>
br b107 (
stN 2 v22.2.1 [(.int .i64 0), (.nils)] h24 fun h108 =>
leaveK (gam J [(9, w9 c9), (34, w34 c34), (35, w35 c35)]) d23 h108 fun h109 =>
ldN 2 v22.2.1 h109 fun l110 =>
k (AV.agg l110) (Int.ofNat 5) h109) (
ldN 2 v22.2.2.2.1 h24 fun l111 =>
c9 (AV.agg l111) h24 fun v113 x114 h112 =>
fB (Bool.not (eqI x114 (Int.ofNat 0))) fun b115 =>
br b115 (
stN 2 v22.2.1 [(.int .i64 0), (.nils)] h112 fun h116 =>
leaveK (gam J [(9, w9 c9), (34, w34 c34), (35, w35 c35)]) d23 h116 fun h117 =>
ldN 2 v22.2.1 h117 fun l118 =>
k (AV.agg l118) (Int.ofNat 5) h117) (
ldN 2 v22.2.2.2.1 h112 fun l119 =>
stN 2 v22.2.1 l119 h112 fun h120 =>
leaveK (gam J [(9, w9 c9), (34, w34 c34), (35, w35 c35)]) d23 h120 fun h121 =>
ldN 2 v22.2.1 h121 fun l122 =>
k (AV.agg l122) (Int.ofNat 0) h121)))) (a0, (AV.ptr n1 0), (AV.int .i64 x12), (AV.ptr n18 0), (AV.int .i64 x21), (AV.int .i64 (Int.ofNat 0)), ()) [] h20))
noncomputable def s11 : AV → H → (AV → Int → H → Prop) → Prop := s11G J0 s9 s34 s35
noncomputable def w11 (c : AV → H → (AV → Int → H → Prop) → Prop) : Fun := fun xs h k => arg xs fun a0 xs => noArg xs <| c a0 h fun r0 r1 h => k (.tuple [r0, (.int .i64 r1)]) h
theorem s11_eq (J : Joins) (c9 : AV → H → (AV → Int → H → Prop) → Prop) (c34 : AV → Int → H → (Int → Int → Int → H → Prop) → Prop) (c35 : AV → Int → Int → H → (Str → Int → H → Prop) → Prop) (a0 : AV) (h : H) (k : AV → H → Prop) : denF ty (gam J [(9, w9 c9), (34, w34 c34), (35, w35 c35)]) Tryz.f11 [a0] h k = s11G J c9 c34 c35 a0 h (fun r0 r1 h => k (.tuple [r0, (.int .i64 r1)]) h) := by kernel_rfl
noncomputable def g11 : Fun := w11 s11
theorem g11_ok : FunOk Tryz.prog 11 g11 := (fun_ok ty_ok mixed (gam_ok (J := J0) (tab_cons g9_ok (tab_cons g34_ok (tab_cons g35_ok (tab_nil fls_fun))))) Tryz.func11 (fun args w => by simp)).imp fun xs h k e0 => by
  obtain ⟨a0, xs0, rfl, e1⟩ := arg_imp e0
  obtain ⟨rfl, e2⟩ := noArg_imp e1
  exact (s11_eq J0 s9 s34 s35 a0 h k).mpr e2
/-- stagepost/stagepostref05.Six -/
noncomputable def s38G (J : Joins) (a0 : Int) (h : H) (k : Str → H → Prop) : Prop :=
J.lp (α := AV × AV × AV × Unit) (fun r4 v1 d2 h3 =>
asI .i64 v1.2.2.1 fun x5 =>
fB (ltI x5 (Int.ofNat 6)) fun b6 =>
br b6 (
asI .i64 v1.1 fun x7 =>
ck (Bool.not (eqI (Int.ofNat 10) 0)) (fI (Int.tmod x7 (Int.ofNat 10)) fun x8 =>
asI .i64 v1.1 fun x9 =>
ck (Bool.not (eqI (Int.ofNat 10) 0)) (fI (Int.tmod x9 (Int.ofNat 10)) fun x10 =>
fI (wrapF .i64 (Int.add x10 (Int.ofNat 1))) fun x11 =>
subK (AV.str ⟨10, 227581098929683594426425⟩) (some (AV.int .i64 x8)) (some (AV.int .i64 x11)) fun s12 =>
asS v1.2.1 fun s13 =>
ck (Nat.ble (Nat.add s12.len s13.len) 9223372036854775807) (fS (Str.cat s12 s13) fun s14 =>
asI .i64 v1.1 fun x15 =>
ck (Bool.not (eqI (Int.ofNat 10) 0)) (fI (wrapF .i64 (Int.tdiv x15 (Int.ofNat 10))) fun x16 =>
asI .i64 v1.2.2.1 fun x17 =>
fI (wrapF .i64 (Int.add x17 (Int.ofNat 1))) fun x18 =>
r4 ((AV.int .i64 x16), (AV.str s14), (AV.int .i64 x18), ()) d2 h3))))) (
leaveK (gam J []) d2 h3 fun h19 =>
asS v1.2.1 fun s20 =>
k s20 h19)) ((AV.int .i64 a0), (AV.str ⟨0, 0⟩), (AV.int .i64 (Int.ofNat 0)), ()) [] h
noncomputable def s38 : Int → H → (Str → H → Prop) → Prop := s38G J0 
noncomputable def w38 (c : Int → H → (Str → H → Prop) → Prop) : Fun := fun xs h k => arg xs fun a0 xs => noArg xs <| asI .i64 a0 fun a0 => c a0 h fun r0 h => k (.str r0) h
theorem s38_eq (J : Joins) (a0 : Int) (h : H) (k : AV → H → Prop) : denF ty (gam J []) Tryz.f38 [(.int .i64 a0)] h k = s38G J  a0 h (fun r0 h => k (.str r0) h) := by kernel_rfl
noncomputable def g38 : Fun := w38 s38
theorem g38_ok : FunOk Tryz.prog 38 g38 := (fun_ok ty_ok mixed (gam_ok (J := J0) (tab_nil fls_fun)) Tryz.func38 (fun args w => by simp)).imp fun xs h k e0 => by
  obtain ⟨a0, xs0, rfl, e1⟩ := arg_imp e0
  obtain ⟨rfl, e2⟩ := noArg_imp e1
  obtain ⟨a0, rfl, e3⟩ := asI_iff.1 e2
  exact (s38_eq J0  a0 h k).mpr e3
/-- stagepost/stagepostref05.Name -/
noncomputable def s13G (J : Joins) (c38 : Int → H → (Str → H → Prop) → Prop) (a0 : Int) (h : H) (k : Str → Int → H → Prop) : Prop :=
fB (ltI a0 (Int.ofNat 1)) fun b1 =>
J.jn (fun v2 h3 =>
J.jn (fun v5 h6 =>
pickB (AV.bool b1) (AV.bool true) v5 fun b10 =>
br b10 (
k ⟨0, 0⟩ (Int.ofNat 2) h6) (
c38 a0 h6 fun s12 h11 =>
ck (Nat.ble (Nat.add (⟨4, 2002873389⟩ : Str).len s12.len) 9223372036854775807) (fS (Str.cat (⟨4, 2002873389⟩ : Str) s12) fun s13 =>
k s13 (Int.ofNat 0) h11))) fun j7 =>
br b1 (
j7 skipV h3) (
asI .i64 v2 fun x8 =>
fB (ltI (Int.ofNat 999999) x8) fun b9 =>
j7 (AV.bool b9) h3)) fun j4 =>
br b1 (
j4 skipV h) (
j4 (AV.int .i64 a0) h)
noncomputable def s13 : Int → H → (Str → Int → H → Prop) → Prop := s13G J0 s38
noncomputable def w13 (c : Int → H → (Str → Int → H → Prop) → Prop) : Fun := fun xs h k => arg xs fun a0 xs => noArg xs <| asI .i64 a0 fun a0 => c a0 h fun r0 r1 h => k (.tuple [(.str r0), (.int .i64 r1)]) h
theorem s13_eq (J : Joins) (c38 : Int → H → (Str → H → Prop) → Prop) (a0 : Int) (h : H) (k : AV → H → Prop) : denF ty (gam J [(38, w38 c38)]) Tryz.f13 [(.int .i64 a0)] h k = s13G J c38 a0 h (fun r0 r1 h => k (.tuple [(.str r0), (.int .i64 r1)]) h) := by kernel_rfl
noncomputable def g13 : Fun := w13 s13
theorem g13_ok : FunOk Tryz.prog 13 g13 := (fun_ok ty_ok mixed (gam_ok (J := J0) (tab_cons g38_ok (tab_nil fls_fun))) Tryz.func13 (fun args w => by simp)).imp fun xs h k e0 => by
  obtain ⟨a0, xs0, rfl, e1⟩ := arg_imp e0
  obtain ⟨rfl, e2⟩ := noArg_imp e1
  obtain ⟨a0, rfl, e3⟩ := asI_iff.1 e2
  exact (s13_eq J0 s38 a0 h k).mpr e3
/-- stagepost/stagepostkit.SameBytes -/
noncomputable def s16G (J : Joins) (a0 : AV) (a1 : AV) (h : H) (k : Bool → H → Prop) : Prop :=
lenK a0 fun x1 =>
lenK a1 fun x2 =>
fB (Bool.not (eqI (Int.ofNat x1) (Int.ofNat x2))) fun b3 =>
br b3 (
k false h) (
J.lp (α := AV × AV × AV × Unit) (fun r7 v4 d5 h6 =>
lenK v4.1 fun x8 =>
asI .i64 v4.2.2.1 fun x9 =>
fB (ltI x9 (Int.ofNat x8)) fun b10 =>
br b10 (
ixK 1 v4.1 v4.2.2.1 fun p11 =>
ldI .u8 p11 h6 fun x12 =>
ixK 1 v4.2.1 v4.2.2.1 fun p13 =>
ldI .u8 p13 h6 fun x14 =>
fB (Bool.not (eqI x12 x14)) fun b15 =>
br b15 (
leaveK (gam J []) d5 h6 fun h16 =>
k false h16) (
asI .i64 v4.2.2.1 fun x17 =>
fI (wrapF .i64 (Int.add x17 (Int.ofNat 1))) fun x18 =>
r7 (v4.1, v4.2.1, (AV.int .i64 x18), ()) d5 h6)) (
leaveK (gam J []) d5 h6 fun h19 =>
k true h19)) (a0, a1, (AV.int .i64 (Int.ofNat 0)), ()) [] h)
noncomputable def s16 : AV → AV → H → (Bool → H → Prop) → Prop := s16G J0 
noncomputable def w16 (c : AV → AV → H → (Bool → H → Prop) → Prop) : Fun := fun xs h k => arg xs fun a0 xs => arg xs fun a1 xs => noArg xs <| c a0 a1 h fun r0 h => k (.bool r0) h
theorem s16_eq (J : Joins) (a0 : AV) (a1 : AV) (h : H) (k : AV → H → Prop) : denF ty (gam J []) Tryz.f16 [a0, a1] h k = s16G J  a0 a1 h (fun r0 h => k (.bool r0) h) := by kernel_rfl
noncomputable def g16 : Fun := w16 s16
theorem g16_ok : FunOk Tryz.prog 16 g16 := (fun_ok ty_ok mixed (gam_ok (J := J0) (tab_nil fls_fun)) Tryz.func16 (fun args w => by simp)).imp fun xs h k e0 => by
  obtain ⟨a0, xs0, rfl, e1⟩ := arg_imp e0
  obtain ⟨a1, xs1, rfl, e2⟩ := arg_imp e1
  obtain ⟨rfl, e3⟩ := noArg_imp e2
  exact (s16_eq J0  a0 a1 h k).mpr e3
/-- stagepost/stagepostkit.SameWrites -/
noncomputable def s41G (J : Joins) (a0 : AV) (a1 : AV) (h : H) (k : Bool → H → Prop) : Prop :=
lenK a0 fun x1 =>
lenK a1 fun x2 =>
fB (Bool.not (eqI (Int.ofNat x1) (Int.ofNat x2))) fun b3 =>
br b3 (
k false h) (
J.lp (α := AV × AV × AV × Unit) (fun r7 v4 d5 h6 =>
lenK v4.1 fun x8 =>
asI .i64 v4.2.2.1 fun x9 =>
fB (ltI x9 (Int.ofNat x8)) fun b10 =>
br b10 (
ixK 3 v4.1 v4.2.2.1 fun p11 =>
ldN 3 p11 h6 fun l12 =>
ixK 3 v4.2.1 v4.2.2.1 fun p13 =>
ldN 3 p13 h6 fun l14 =>
obK (aBin ty .neq 53 false (AV.agg l12) (AV.agg l14)) fun b15 =>
br b15 (
leaveK (gam J []) d5 h6 fun h16 =>
k false h16) (
asI .i64 v4.2.2.1 fun x17 =>
fI (wrapF .i64 (Int.add x17 (Int.ofNat 1))) fun x18 =>
r7 (v4.1, v4.2.1, (AV.int .i64 x18), ()) d5 h6)) (
leaveK (gam J []) d5 h6 fun h19 =>
k true h19)) (a0, a1, (AV.int .i64 (Int.ofNat 0)), ()) [] h)
noncomputable def s41 : AV → AV → H → (Bool → H → Prop) → Prop := s41G J0 
noncomputable def w41 (c : AV → AV → H → (Bool → H → Prop) → Prop) : Fun := fun xs h k => arg xs fun a0 xs => arg xs fun a1 xs => noArg xs <| c a0 a1 h fun r0 h => k (.bool r0) h
theorem s41_eq (J : Joins) (a0 : AV) (a1 : AV) (h : H) (k : AV → H → Prop) : denF ty (gam J []) Tryz.f41 [a0, a1] h k = s41G J  a0 a1 h (fun r0 h => k (.bool r0) h) := by kernel_rfl
noncomputable def g41 : Fun := w41 s41
theorem g41_ok : FunOk Tryz.prog 41 g41 := (fun_ok ty_ok mixed (gam_ok (J := J0) (tab_nil fls_fun)) Tryz.func41 (fun args w => by simp)).imp fun xs h k e0 => by
  obtain ⟨a0, xs0, rfl, e1⟩ := arg_imp e0
  obtain ⟨a1, xs1, rfl, e2⟩ := arg_imp e1
  obtain ⟨rfl, e3⟩ := noArg_imp e2
  exact (s41_eq J0  a0 a1 h k).mpr e3
/-- stagepost/stagepostkit.SameBatches -/
noncomputable def s17G (J : Joins) (c41 : AV → AV → H → (Bool → H → Prop) → Prop) (a0 : AV) (a1 : AV) (h : H) (k : Bool → H → Prop) : Prop :=
lenK a0 fun x1 =>
lenK a1 fun x2 =>
fB (Bool.not (eqI (Int.ofNat x1) (Int.ofNat x2))) fun b3 =>
br b3 (
k false h) (
J.lp (α := AV × AV × AV × Unit) (fun r7 v4 d5 h6 =>
lenK v4.1 fun x8 =>
asI .i64 v4.2.2.1 fun x9 =>
fB (ltI x9 (Int.ofNat x8)) fun b10 =>
br b10 (
ixK 2 v4.1 v4.2.2.1 fun p11 =>
faK 0 p11 fun p12 =>
ldI .i64 p12 h6 fun x13 =>
ixK 2 v4.2.1 v4.2.2.1 fun p14 =>
faK 0 p14 fun p15 =>
ldI .i64 p15 h6 fun x16 =>
fB (Bool.not (eqI x13 x16)) fun b17 =>
J.jn (fun v18 h19 =>
J.jn (fun v21 h22 =>
J.jn (fun v24 h25 =>
J.jn (fun v28 h29 =>
J.jb (fun b32 v33 =>
J.jn (fun v36 h37 =>
J.jn (fun v39 h40 =>
J.jn (fun v42 h43 =>
J.jn (fun v46 h47 =>
J.jb (fun b50 v51 =>
J.jn (fun v54 h55 =>
J.jn (fun v59 h60 =>
pickB (AV.bool b17) (AV.bool true) v59 fun b64 =>
br b64 (
leaveK (gam J [(41, w41 c41)]) d5 h60 fun h65 =>
k false h65) (
asI .i64 v4.2.2.1 fun x66 =>
fI (wrapF .i64 (Int.add x66 (Int.ofNat 1))) fun x67 =>
r7 (v4.1, v4.2.1, (AV.int .i64 x67), ()) d5 h60)) fun j61 =>
br b17 (
j61 skipV h55) (
asB v54 fun b62 =>
fB (Bool.not b62) fun b63 =>
j61 (AV.bool b63) h55)) fun j56 =>
br b17 (
j56 skipV h47) (
c41 v33 v51 h47 fun b58 h57 =>
j56 (AV.bool b58) h57)) fun j52 =>
br b17 (
j52 false skipV) (
ldV v46 h47 fun v53 =>
j52 true v53)) fun j48 =>
br b17 (
j48 skipV h43) (
faK 1 v42 fun p49 =>
j48 p49 h43)) fun j44 =>
br b17 (
j44 skipV h40) (
ixK 2 v36 v39 fun p45 =>
j44 p45 h40)) fun j41 =>
br b17 (
j41 skipV h37) (
j41 v4.2.2.1 h37)) fun j38 =>
br b17 (
j38 skipV h29) (
j38 v4.2.1 h29)) fun j34 =>
br b17 (
j34 false skipV) (
ldV v28 h29 fun v35 =>
j34 true v35)) fun j30 =>
br b17 (
j30 skipV h25) (
faK 1 v24 fun p31 =>
j30 p31 h25)) fun j26 =>
br b17 (
j26 skipV h22) (
ixK 2 v18 v21 fun p27 =>
j26 p27 h22)) fun j23 =>
br b17 (
j23 skipV h19) (
j23 v4.2.2.1 h19)) fun j20 =>
br b17 (
j20 skipV h6) (
j20 v4.1 h6)) (
leaveK (gam J [(41, w41 c41)]) d5 h6 fun h68 =>
k true h68)) (a0, a1, (AV.int .i64 (Int.ofNat 0)), ()) [] h)
noncomputable def s17 : AV → AV → H → (Bool → H → Prop) → Prop := s17G J0 s41
noncomputable def w17 (c : AV → AV → H → (Bool → H → Prop) → Prop) : Fun := fun xs h k => arg xs fun a0 xs => arg xs fun a1 xs => noArg xs <| c a0 a1 h fun r0 h => k (.bool r0) h
theorem s17_eq (J : Joins) (c41 : AV → AV → H → (Bool → H → Prop) → Prop) (a0 : AV) (a1 : AV) (h : H) (k : AV → H → Prop) : denF ty (gam J [(41, w41 c41)]) Tryz.f17 [a0, a1] h k = s17G J c41 a0 a1 h (fun r0 h => k (.bool r0) h) := by kernel_rfl
noncomputable def g17 : Fun := w17 s17
theorem g17_ok : FunOk Tryz.prog 17 g17 := (fun_ok ty_ok mixed (gam_ok (J := J0) (tab_cons g41_ok (tab_nil fls_fun))) Tryz.func17 (fun args w => by simp)).imp fun xs h k e0 => by
  obtain ⟨a0, xs0, rfl, e1⟩ := arg_imp e0
  obtain ⟨a1, xs1, rfl, e2⟩ := arg_imp e1
  obtain ⟨rfl, e3⟩ := noArg_imp e2
  exact (s17_eq J0 s41 a0 a1 h k).mpr e3
/-- stagepost/stagepostkit.KeptWrites -/
noncomputable def s18G (J : Joins) (c6 : AV → H → (AV → H → Prop) → Prop) (c41 : AV → AV → H → (Bool → H → Prop) → Prop) (a0 : AV) (a1 : AV) (h : H) (k : Bool → H → Prop) : Prop :=
c6 a1 h fun v2 h1 =>
c41 a0 v2 h1 fun b4 h3 =>
k b4 h3
noncomputable def s18 : AV → AV → H → (Bool → H → Prop) → Prop := s18G J0 s6 s41
noncomputable def w18 (c : AV → AV → H → (Bool → H → Prop) → Prop) : Fun := fun xs h k => arg xs fun a0 xs => arg xs fun a1 xs => noArg xs <| c a0 a1 h fun r0 h => k (.bool r0) h
theorem s18_eq (J : Joins) (c6 : AV → H → (AV → H → Prop) → Prop) (c41 : AV → AV → H → (Bool → H → Prop) → Prop) (a0 : AV) (a1 : AV) (h : H) (k : AV → H → Prop) : denF ty (gam J [(6, w6 c6), (41, w41 c41)]) Tryz.f18 [a0, a1] h k = s18G J c6 c41 a0 a1 h (fun r0 h => k (.bool r0) h) := by kernel_rfl
noncomputable def g18 : Fun := w18 s18
theorem g18_ok : FunOk Tryz.prog 18 g18 := (fun_ok ty_ok mixed (gam_ok (J := J0) (tab_cons g6_ok (tab_cons g41_ok (tab_nil fls_fun)))) Tryz.func18 (fun args w => by simp)).imp fun xs h k e0 => by
  obtain ⟨a0, xs0, rfl, e1⟩ := arg_imp e0
  obtain ⟨a1, xs1, rfl, e2⟩ := arg_imp e1
  obtain ⟨rfl, e3⟩ := noArg_imp e2
  exact (s18_eq J0 s6 s41 a0 a1 h k).mpr e3
/-- stagepost/stagepostkit.KeptBytes -/
noncomputable def s19G (J : Joins) (c7 : AV → H → (AV → H → Prop) → Prop) (c16 : AV → AV → H → (Bool → H → Prop) → Prop) (a0 : AV) (a1 : AV) (h : H) (k : Bool → H → Prop) : Prop :=
c7 a1 h fun v2 h1 =>
c16 a0 v2 h1 fun b4 h3 =>
k b4 h3
noncomputable def s19 : AV → AV → H → (Bool → H → Prop) → Prop := s19G J0 s7 s16
noncomputable def w19 (c : AV → AV → H → (Bool → H → Prop) → Prop) : Fun := fun xs h k => arg xs fun a0 xs => arg xs fun a1 xs => noArg xs <| c a0 a1 h fun r0 h => k (.bool r0) h
theorem s19_eq (J : Joins) (c7 : AV → H → (AV → H → Prop) → Prop) (c16 : AV → AV → H → (Bool → H → Prop) → Prop) (a0 : AV) (a1 : AV) (h : H) (k : AV → H → Prop) : denF ty (gam J [(7, w7 c7), (16, w16 c16)]) Tryz.f19 [a0, a1] h k = s19G J c7 c16 a0 a1 h (fun r0 h => k (.bool r0) h) := by kernel_rfl
noncomputable def g19 : Fun := w19 s19
theorem g19_ok : FunOk Tryz.prog 19 g19 := (fun_ok ty_ok mixed (gam_ok (J := J0) (tab_cons g7_ok (tab_cons g16_ok (tab_nil fls_fun)))) Tryz.func19 (fun args w => by simp)).imp fun xs h k e0 => by
  obtain ⟨a0, xs0, rfl, e1⟩ := arg_imp e0
  obtain ⟨a1, xs1, rfl, e2⟩ := arg_imp e1
  obtain ⟨rfl, e3⟩ := noArg_imp e2
  exact (s19_eq J0 s7 s16 a0 a1 h k).mpr e3
/-- stagepost/stagepostlaw05.WalPure -/
noncomputable def g3 : Fun := denFS ty (gam J0 [(4, g4), (5, g5), (6, g6), (7, g7), (8, g8), (9, g9), (10, g10), (11, g11), (12, g12), (13, g13), (14, g14), (15, g15), (16, g16), (17, g17), (18, g18), (19, g19)]) Tryz.f3
end Go.Proofs.YtcohflkjinpcpaaGreatDoor
