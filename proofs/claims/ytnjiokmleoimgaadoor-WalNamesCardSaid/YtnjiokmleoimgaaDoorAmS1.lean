/- Functions as they are reckoned. MADE BY PROGRAM (wip/tools/shal.py). -/
import Derived.Test.YtnjiokmleoimgaaDoorAmS0
namespace Go.Proofs.YtnjiokmleoimgaaDoor
open Go Go.Am
set_option maxRecDepth 100000
set_option linter.all false
/-- stagepost/enc.Read -/
noncomputable def s96G (J : Joins) (a0 : AV) (h : H) (k : Int → Int → Int → H → Prop) : Prop :=
J.jd (α := Unit) (fun v1 d2 h3 =>
leaveK (gam J []) d2 h3 fun h5 =>
k (Int.ofNat 0) (Int.ofNat 0) (Int.ofNat 5) h5) fun j4 =>
J.lp (α := AV × AV × AV × Unit) (fun r9 v6 d7 h8 =>
lenK v6.1 fun x10 =>
asI .i64 v6.2.2.1 fun x11 =>
fB (ltI x11 (Int.ofNat x10)) fun b12 =>
J.jn (fun v13 h14 =>
J.jn (fun v16 h17 =>
pickB (AV.bool b12) v16 (AV.bool false) fun b21 =>
br b21 (
ixK 1 v6.1 v6.2.2.1 fun p22 =>
ldI .u8 p22 h17 fun x23 =>
asI .i64 v6.2.2.1 fun x24 =>
fB (eqI x24 (Int.ofNat 9)) fun b25 =>
J.jn (fun v26 h27 =>
J.jn (fun v29 h30 =>
pickB (AV.bool b25) v29 (AV.bool false) fun b34 =>
J.jn (fun v35 h36 =>
J.jn (fun v38 h39 =>
J.jn (fun v43 h44 =>
J.jn (fun v46 h47 =>
J.jn (fun v49 h50 =>
J.jn (fun v54 h55 =>
pickB (AV.bool b34) (AV.bool true) v54 fun b58 =>
br b58 (
j4 (()) d7 h55) (
fI (landnF .u8 x23 (Int.ofNat 128)) fun x59 =>
fI (wrapF .u64 x59) fun x60 =>
asI .i64 v6.2.2.1 fun x61 =>
fI (wrapF .i64 (Int.mul (Int.ofNat 7) x61)) fun x62 =>
asNat (AV.int .i64 x62) fun n63 =>
fI (shlF .u64 x60 n63) fun x64 =>
asI .u64 v6.2.1 fun x65 =>
fI (lorF .u64 x65 x64) fun x66 =>
asI .i64 v6.2.2.1 fun x67 =>
fI (wrapF .i64 (Int.add x67 (Int.ofNat 1))) fun x68 =>
fB (ltI x23 (Int.ofNat 128)) fun b69 =>
br b69 (
leaveK (gam J []) d7 h55 fun h70 =>
k x66 x68 (Int.ofNat 0) h70) (
r9 (v6.1, (AV.int .u64 x66), (AV.int .i64 x68), ()) d7 h55))) fun j56 =>
br b34 (
j56 skipV h50) (
pickB v43 v49 (AV.bool false) fun b57 =>
j56 (AV.bool b57) h50)) fun j51 =>
asBU v43 (fun b71 =>
br b71 (
asI .u8 v46 fun x52 =>
fB (eqI x52 (Int.ofNat 0)) fun b53 =>
j51 (AV.bool b53) h47) (
j51 skipV h47)) (
j51 skipV h47)) fun j48 =>
asBU v43 (fun b72 =>
br b72 (
j48 (AV.int .u8 x23) h44) (
j48 skipV h44)) (
j48 skipV h44)) fun j45 =>
br b34 (
j45 skipV h39) (
j45 v38 h39)) fun j40 =>
br b34 (
j40 skipV h36) (
asI .i64 v35 fun x41 =>
fB (ltI (Int.ofNat 0) x41) fun b42 =>
j40 (AV.bool b42) h36)) fun j37 =>
br b34 (
j37 skipV h30) (
j37 v6.2.2.1 h30)) fun j31 =>
br b25 (
asI .u8 v26 fun x32 =>
fB (ltI (Int.ofNat 1) x32) fun b33 =>
j31 (AV.bool b33) h27) (
j31 skipV h27)) fun j28 =>
br b25 (
j28 (AV.int .u8 x23) h17) (
j28 skipV h17)) (
j4 (()) d7 h17)) fun j18 =>
br b12 (
asI .i64 v13 fun x19 =>
fB (ltI x19 (Int.ofNat 10)) fun b20 =>
j18 (AV.bool b20) h14) (
j18 skipV h14)) fun j15 =>
br b12 (
j15 v6.2.2.1 h8) (
j15 skipV h8)) (a0, (AV.int .u64 (Int.ofNat 0)), (AV.int .i64 (Int.ofNat 0)), ()) [] h
noncomputable def s96 : AV → H → (Int → Int → Int → H → Prop) → Prop := s96G J0 
noncomputable def w96 (c : AV → H → (Int → Int → Int → H → Prop) → Prop) : Fun := fun xs h k => arg xs fun a0 xs => noArg xs <| c a0 h fun r0 r1 r2 h => k (.tuple [(.int .u64 r0), (.int .i64 r1), (.int .i64 r2)]) h
theorem s96_eq (J : Joins) (a0 : AV) (h : H) (k : AV → H → Prop) : denF ty (gam J []) Tryd.f96 [a0] h k = s96G J  a0 h (fun r0 r1 r2 h => k (.tuple [(.int .u64 r0), (.int .i64 r1), (.int .i64 r2)]) h) := by kernel_rfl
noncomputable def g96 : Fun := w96 s96
theorem g96_ok : FunOk Tryd.prog 96 g96 := (fun_ok ty_ok mixed (gam_ok (J := J0) (tab_nil fls_fun)) Tryd.func96 (fun args w => by simp)).imp fun xs h k e0 => by
  obtain ⟨a0, xs0, rfl, e1⟩ := arg_imp e0
  obtain ⟨rfl, e2⟩ := noArg_imp e1
  exact (s96_eq J0  a0 h k).mpr e2
/-- stagepost/enc.Small -/
noncomputable def s89G (J : Joins) (c96 : AV → H → (Int → Int → Int → H → Prop) → Prop) (a0 : AV) (a1 : Int) (h : H) (k : Int → Int → Int → H → Prop) : Prop :=
c96 a0 h fun x2 x3 x4 h1 =>
fB (Bool.not (eqI x4 (Int.ofNat 0))) fun b5 =>
J.jn (fun v6 h7 =>
J.jn (fun v9 h10 =>
pickB (AV.bool b5) (AV.bool true) v9 fun b14 =>
J.jn (fun v15 h16 =>
J.jn (fun v18 h19 =>
J.jn (fun v21 h22 =>
J.jn (fun v26 h27 =>
pickB (AV.bool b14) (AV.bool true) v26 fun b32 =>
br b32 (
k (Int.ofNat 0) (Int.ofNat 0) (Int.ofNat 5) h27) (
fI (wrapF .i64 x2) fun x33 =>
k x33 x3 (Int.ofNat 0) h27)) fun j28 =>
br b14 (
j28 skipV h22) (
asI .u64 v15 fun x29 =>
asI .u64 v21 fun x30 =>
fB (ltI x30 x29) fun b31 =>
j28 (AV.bool b31) h22)) fun j23 =>
br b14 (
j23 skipV h19) (
asI .i64 v18 fun x24 =>
fI (wrapF .u64 x24) fun x25 =>
j23 (AV.int .u64 x25) h19)) fun j20 =>
br b14 (
j20 skipV h16) (
j20 (AV.int .i64 a1) h16)) fun j17 =>
br b14 (
j17 skipV h10) (
j17 (AV.int .u64 x2) h10)) fun j11 =>
br b5 (
j11 skipV h7) (
asI .i64 v6 fun x12 =>
fB (ltI x12 (Int.ofNat 0)) fun b13 =>
j11 (AV.bool b13) h7)) fun j8 =>
br b5 (
j8 skipV h1) (
j8 (AV.int .i64 a1) h1)
noncomputable def s89 : AV → Int → H → (Int → Int → Int → H → Prop) → Prop := s89G J0 s96
noncomputable def w89 (c : AV → Int → H → (Int → Int → Int → H → Prop) → Prop) : Fun := fun xs h k => arg xs fun a0 xs => arg xs fun a1 xs => noArg xs <| asI .i64 a1 fun a1 => c a0 a1 h fun r0 r1 r2 h => k (.tuple [(.int .i64 r0), (.int .i64 r1), (.int .i64 r2)]) h
theorem s89_eq (J : Joins) (c96 : AV → H → (Int → Int → Int → H → Prop) → Prop) (a0 : AV) (a1 : Int) (h : H) (k : AV → H → Prop) : denF ty (gam J [(96, w96 c96)]) Tryd.f89 [a0, (.int .i64 a1)] h k = s89G J c96 a0 a1 h (fun r0 r1 r2 h => k (.tuple [(.int .i64 r0), (.int .i64 r1), (.int .i64 r2)]) h) := by kernel_rfl
noncomputable def g89 : Fun := w89 s89
theorem g89_ok : FunOk Tryd.prog 89 g89 := (fun_ok ty_ok mixed (gam_ok (J := J0) (tab_cons g96_ok (tab_nil fls_fun))) Tryd.func89 (fun args w => by simp)).imp fun xs h k e0 => by
  obtain ⟨a0, xs0, rfl, e1⟩ := arg_imp e0
  obtain ⟨a1, xs1, rfl, e2⟩ := arg_imp e1
  obtain ⟨rfl, e3⟩ := noArg_imp e2
  obtain ⟨a1, rfl, e4⟩ := asI_iff.1 e3
  exact (s89_eq J0 s96 a0 a1 h k).mpr e4
/-- (*stagepost/wal.reader).small -/
noncomputable def s75G (J : Joins) (c89 : AV → Int → H → (Int → Int → Int → H → Prop) → Prop) (a0 : AV) (a1 : Int) (h : H) (k : Int → H → Prop) : Prop :=
okNil a0 (
faK 1 a0 fun p1 =>
ldI .i64 p1 h fun x2 =>
fB (Bool.not (eqI x2 (Int.ofNat 0))) fun b3 =>
br b3 (
k (Int.ofNat 0) h) (
okNil a0 (
faK 0 a0 fun p4 =>
ldV p4 h fun v5 =>
c89 v5 a1 h fun x7 x8 x9 h6 =>
okNil a0 (
faK 0 a0 fun p10 =>
ldV p10 h6 fun v11 =>
slK 1 v11 (some (AV.int .i64 x8)) none fun v12 =>
okNil a0 (
faK 0 a0 fun p13 =>
stV p13 v12 h6 fun h14 =>
okNil a0 (
faK 1 a0 fun p15 =>
stV p15 (AV.int .i64 x9) h14 fun h16 =>
k x7 h16))))))
noncomputable def s75 : AV → Int → H → (Int → H → Prop) → Prop := s75G J0 s89
noncomputable def w75 (c : AV → Int → H → (Int → H → Prop) → Prop) : Fun := fun xs h k => arg xs fun a0 xs => arg xs fun a1 xs => noArg xs <| asI .i64 a1 fun a1 => c a0 a1 h fun r0 h => k (.int .i64 r0) h
theorem s75_eq (J : Joins) (c89 : AV → Int → H → (Int → Int → Int → H → Prop) → Prop) (a0 : AV) (a1 : Int) (h : H) (k : AV → H → Prop) : denF ty (gam J [(89, w89 c89)]) Tryd.f75 [a0, (.int .i64 a1)] h k = s75G J c89 a0 a1 h (fun r0 h => k (.int .i64 r0) h) := by kernel_rfl
noncomputable def g75 : Fun := w75 s75
theorem g75_ok : FunOk Tryd.prog 75 g75 := (fun_ok ty_ok mixed (gam_ok (J := J0) (tab_cons g89_ok (tab_nil fls_fun))) Tryd.func75 (fun args w => by simp)).imp fun xs h k e0 => by
  obtain ⟨a0, xs0, rfl, e1⟩ := arg_imp e0
  obtain ⟨a1, xs1, rfl, e2⟩ := arg_imp e1
  obtain ⟨rfl, e3⟩ := noArg_imp e2
  obtain ⟨a1, rfl, e4⟩ := asI_iff.1 e3
  exact (s75_eq J0 s89 a0 a1 h k).mpr e4
/-- (*stagepost/wal.reader).text -/
noncomputable def s76G (J : Joins) (c75 : AV → Int → H → (Int → H → Prop) → Prop) (a0 : AV) (a1 : Int) (h : H) (k : Str → H → Prop) : Prop :=
c75 a0 a1 h fun x2 h1 =>
okNil a0 (
faK 1 a0 fun p3 =>
ldI .i64 p3 h1 fun x4 =>
fB (Bool.not (eqI x4 (Int.ofNat 0))) fun b5 =>
J.jn (fun v6 h7 =>
J.jn (fun v9 h10 =>
J.jn (fun v12 h13 =>
J.jn (fun v15 h16 =>
J.jn (fun v19 h20 =>
J.jn (fun v23 h24 =>
J.jn (fun v27 h28 =>
pickB (AV.bool b5) (AV.bool true) v27 fun b33 =>
br b33 (
okNil a0 (
faK 1 a0 fun p34 =>
stV p34 (AV.int .i64 (Int.ofNat 5)) h28 fun h35 =>
k ⟨0, 0⟩ h35)) (
okNil a0 (
faK 0 a0 fun p36 =>
ldV p36 h28 fun v37 =>
slK 1 v37 none (some (AV.int .i64 x2)) fun v38 =>
toStrK v38 h28 fun s39 =>
okNil a0 (
faK 0 a0 fun p40 =>
ldV p40 h28 fun v41 =>
slK 1 v41 (some (AV.int .i64 x2)) none fun v42 =>
okNil a0 (
faK 0 a0 fun p43 =>
stV p43 v42 h28 fun h44 =>
k s39 h44))))) fun j29 =>
br b5 (
j29 skipV h24) (
asI .i64 v6 fun x30 =>
asI .i64 v23 fun x31 =>
fB (ltI x31 x30) fun b32 =>
j29 (AV.bool b32) h24)) fun j25 =>
br b5 (
j25 skipV h20) (
lenK v19 fun x26 =>
j25 (AV.int .i64 (Int.ofNat x26)) h20)) fun j21 =>
br b5 (
j21 skipV h16) (
ldV v15 h16 fun v22 =>
j21 v22 h16)) fun j17 =>
br b5 (
j17 skipV h13) (
faK 0 v12 fun p18 =>
j17 p18 h13)) fun j14 =>
br b5 (
j14 skipV h10) (
okNil v9 (
j14 v9 h10))) fun j11 =>
br b5 (
j11 skipV h7) (
j11 a0 h7)) fun j8 =>
br b5 (
j8 skipV h1) (
j8 (AV.int .i64 x2) h1))
noncomputable def s76 : AV → Int → H → (Str → H → Prop) → Prop := s76G J0 s75
noncomputable def w76 (c : AV → Int → H → (Str → H → Prop) → Prop) : Fun := fun xs h k => arg xs fun a0 xs => arg xs fun a1 xs => noArg xs <| asI .i64 a1 fun a1 => c a0 a1 h fun r0 h => k (.str r0) h
theorem s76_eq (J : Joins) (c75 : AV → Int → H → (Int → H → Prop) → Prop) (a0 : AV) (a1 : Int) (h : H) (k : AV → H → Prop) : denF ty (gam J [(75, w75 c75)]) Tryd.f76 [a0, (.int .i64 a1)] h k = s76G J c75 a0 a1 h (fun r0 h => k (.str r0) h) := by kernel_rfl
noncomputable def g76 : Fun := w76 s76
theorem g76_ok : FunOk Tryd.prog 76 g76 := (fun_ok ty_ok mixed (gam_ok (J := J0) (tab_cons g75_ok (tab_nil fls_fun))) Tryd.func76 (fun args w => by simp)).imp fun xs h k e0 => by
  obtain ⟨a0, xs0, rfl, e1⟩ := arg_imp e0
  obtain ⟨a1, xs1, rfl, e2⟩ := arg_imp e1
  obtain ⟨rfl, e3⟩ := noArg_imp e2
  obtain ⟨a1, rfl, e4⟩ := asI_iff.1 e3
  exact (s76_eq J0 s75 a0 a1 h k).mpr e4
/-- stagepost/wal.Decode -/
noncomputable def s57G (J : Joins) (c9 : AV → H → (Int → H → Prop) → Prop) (c75 : AV → Int → H → (Int → H → Prop) → Prop) (c76 : AV → Int → H → (Str → H → Prop) → Prop) (a0 : AV) (h : H) (k : AV → Int → H → Prop) : Prop :=
pushK (.cells false 29 [(.int .i64 0), (.nils)]) h fun n1 h2 =>
ck (isOne a0) (pushK (.cells false 139 [a0, (.int .i64 0)]) h2 fun n3 h4 =>
c75 (AV.ptr n3 0) (Int.ofNat 1073741824) h4 fun x6 h5 =>
pushK (.cells false 29 [(.int .i64 0), (.nils)]) h5 fun n7 h8 =>
stN 2 (AV.ptr n7 0) [(AV.int .i64 x6), (.nils)] h8 fun h9 =>
c75 (AV.ptr n3 0) (Int.ofNat 64) h9 fun x11 h10 =>
J.lp (α := AV × AV × AV × AV × Unit) (fun r15 v12 d13 h14 =>
asI .i64 v12.2.2.2.1 fun x16 =>
fB (ltI (Int.ofNat 0) x16) fun b17 =>
J.jn (fun v18 h19 =>
J.jn (fun v21 h22 =>
J.jn (fun v24 h25 =>
J.jn (fun v28 h29 =>
J.jn (fun v32 h33 =>
pickB (AV.bool b17) v32 (AV.bool false) fun b37 =>
br b37 (
c75 v12.2.1 (Int.ofNat 1) h33 fun x39 h38 =>
fB (eqI x39 (Int.ofNat 1)) fun b40 =>
c76 v12.2.1 (Int.ofNat 512) h38 fun s42 h41 =>
pushK (.cells false 34 [(.str ⟨0, 0⟩), (.str ⟨0, 0⟩), (.bool false)]) h41 fun n43 h44 =>
stN 3 (AV.ptr n43 0) [(AV.str s42), (.str ⟨0, 0⟩), (AV.bool b40)] h44 fun h45 =>
J.jd (α := AV × AV × AV × AV × AV × Unit) (fun v46 d47 h48 =>
faK 1 v46.2.2.1 fun p50 =>
ldV p50 h48 fun v51 =>
ldN 3 v46.2.2.2.2.1 h48 fun l52 =>
ck (Nat.beq (List.length l52) 3) (op' (lputAt 0 l52 [(.str ⟨0, 0⟩), (.str ⟨0, 0⟩), (.bool false)]) fun l55 =>
pushK (.cells false 34 l55) h48 fun n53 h54 =>
apC 34 3 40 v51 (AV.slice n53 0 1 1 3 true) h54 fun v56 h57 =>
faK 1 v46.2.2.1 fun p58 =>
stV p58 v56 h57 fun h59 =>
asI .i64 v46.2.2.2.1 fun x60 =>
fI (wrapF .i64 (Int.sub x60 (Int.ofNat 1))) fun x61 =>
r15 (v46.1, v46.2.1, v46.2.2.1, (AV.int .i64 x61), ()) d47 h59)) fun j49 =>
ldB (AV.ptr n43 2) h45 fun b62 =>
fB (Bool.not b62) fun b63 =>
br b63 (
c76 v12.2.1 (Int.ofNat 4096) h45 fun s65 h64 =>
stV (AV.ptr n43 1) (AV.str s65) h64 fun h66 =>
j49 (v12.1, v12.2.1, v12.2.2.1, v12.2.2.2.1, (AV.ptr n43 0), ()) d13 h66) (
j49 (v12.1, v12.2.1, v12.2.2.1, v12.2.2.2.1, (AV.ptr n43 0), ()) d13 h45)) (
okNil v12.2.1 (
faK 1 v12.2.1 fun p67 =>
ldI .i64 p67 h33 fun x68 =>
fB (Bool.not (eqI x68 (Int.ofNat 0))) fun b69 =>
J.jn (fun v70 h71 =>
J.jn (fun v73 h74 =>
J.jn (fun v76 h77 =>
J.jn (fun v80 h81 =>
J.jn (fun v84 h85 =>
J.jn (fun v88 h89 =>
pickB (AV.bool b69) (AV.bool true) v88 fun b93 =>
J.jn (fun v94 h95 =>
J.jn (fun v98 h99 =>
J.jn (fun v102 h103 =>
pickB (AV.bool b93) (AV.bool true) v102 fun b107 =>
J.jn (fun v108 h109 =>
J.jn (fun v112 h113 =>
J.jn (fun v116 h117 =>
J.jn (fun v121 h122 =>
pickB (AV.bool b107) (AV.bool true) v121 fun b126 =>
br b126 (
stN 2 v12.1 [(.int .i64 0), (.nils)] h122 fun h127 =>
leaveK (gam J [(9, w9 c9), (75, w75 c75), (76, w76 c76)]) d13 h127 fun h128 =>
ldN 2 v12.1 h128 fun l129 =>
k (AV.agg l129) (Int.ofNat 5) h128) (
ldN 2 v12.2.2.1 h122 fun l130 =>
stN 2 v12.1 l130 h122 fun h131 =>
leaveK (gam J [(9, w9 c9), (75, w75 c75), (76, w76 c76)]) d13 h131 fun h132 =>
ldN 2 v12.1 h132 fun l133 =>
k (AV.agg l133) (Int.ofNat 0) h132)) fun j123 =>
br b107 (
j123 skipV h117) (
asI .i64 v116 fun x124 =>
fB (Bool.not (eqI x124 (Int.ofNat 0))) fun b125 =>
j123 (AV.bool b125) h117)) fun j118 =>
br b107 (
j118 skipV h113) (
c9 v112 h113 fun x120 h119 =>
j118 (AV.int .i64 x120) h119)) fun j114 =>
br b107 (
j114 skipV h109) (
ldV v108 h109 fun v115 =>
j114 v115 h109)) fun j110 =>
br b107 (
j110 skipV h103) (
faK 1 v12.2.2.1 fun p111 =>
j110 p111 h103)) fun j104 =>
br b93 (
j104 skipV h99) (
asI .i64 v98 fun x105 =>
fB (ltI x105 (Int.ofNat 1)) fun b106 =>
j104 (AV.bool b106) h99)) fun j100 =>
br b93 (
j100 skipV h95) (
ldI .i64 v94 h95 fun x101 =>
j100 (AV.int .i64 x101) h95)) fun j96 =>
br b93 (
j96 skipV h89) (
faK 0 v12.2.2.1 fun p97 =>
j96 p97 h89)) fun j90 =>
br b69 (
j90 skipV h85) (
asI .i64 v84 fun x91 =>
fB (ltI (Int.ofNat 0) x91) fun b92 =>
j90 (AV.bool b92) h85)) fun j86 =>
br b69 (
j86 skipV h81) (
lenK v80 fun x87 =>
j86 (AV.int .i64 (Int.ofNat x87)) h81)) fun j82 =>
br b69 (
j82 skipV h77) (
ldV v76 h77 fun v83 =>
j82 v83 h77)) fun j78 =>
br b69 (
j78 skipV h74) (
faK 0 v73 fun p79 =>
j78 p79 h74)) fun j75 =>
br b69 (
j75 skipV h71) (
okNil v70 (
j75 v70 h71))) fun j72 =>
br b69 (
j72 skipV h33) (
j72 v12.2.1 h33)))) fun j34 =>
br b17 (
asI .i64 v28 fun x35 =>
fB (eqI x35 (Int.ofNat 0)) fun b36 =>
j34 (AV.bool b36) h29) (
j34 skipV h29)) fun j30 =>
br b17 (
ldI .i64 v24 h25 fun x31 =>
j30 (AV.int .i64 x31) h25) (
j30 skipV h25)) fun j26 =>
br b17 (
faK 1 v21 fun p27 =>
j26 p27 h22) (
j26 skipV h22)) fun j23 =>
br b17 (
okNil v18 (
j23 v18 h19)) (
j23 skipV h19)) fun j20 =>
br b17 (
j20 v12.2.1 h14) (
j20 skipV h14)) ((AV.ptr n1 0), (AV.ptr n3 0), (AV.ptr n7 0), (AV.int .i64 x11), ()) [] h10)
noncomputable def s57 : AV → H → (AV → Int → H → Prop) → Prop := s57G J0 s9 s75 s76
noncomputable def w57 (c : AV → H → (AV → Int → H → Prop) → Prop) : Fun := fun xs h k => arg xs fun a0 xs => noArg xs <| c a0 h fun r0 r1 h => k (.tuple [r0, (.int .i64 r1)]) h
theorem s57_eq (J : Joins) (c9 : AV → H → (Int → H → Prop) → Prop) (c75 : AV → Int → H → (Int → H → Prop) → Prop) (c76 : AV → Int → H → (Str → H → Prop) → Prop) (a0 : AV) (h : H) (k : AV → H → Prop) : denF ty (gam J [(9, w9 c9), (75, w75 c75), (76, w76 c76)]) Tryd.f57 [a0] h k = s57G J c9 c75 c76 a0 h (fun r0 r1 h => k (.tuple [r0, (.int .i64 r1)]) h) := by kernel_rfl
noncomputable def g57 : Fun := w57 s57
theorem g57_ok : FunOk Tryd.prog 57 g57 := (fun_ok ty_ok mixed (gam_ok (J := J0) (tab_cons g9_ok (tab_cons g75_ok (tab_cons g76_ok (tab_nil fls_fun))))) Tryd.func57 (fun args w => by simp)).imp fun xs h k e0 => by
  obtain ⟨a0, xs0, rfl, e1⟩ := arg_imp e0
  obtain ⟨rfl, e2⟩ := noArg_imp e1
  exact (s57_eq J0 s9 s75 s76 a0 h k).mpr e2
/-- stagepost/wal.segment -/
noncomputable def s34G (J : Joins) (c8 : Int → H → (Str → Int → H → Prop) → Prop) (c23 : AV → Str → H → (AV → Int → H → Prop) → Prop) (c56 : AV → H → (AV → Int → Int → H → Prop) → Prop) (c57 : AV → H → (AV → Int → H → Prop) → Prop) (a0 : AV) (a1 : Int) (a2 : AV) (h : H) (k : AV → Int → H → Prop) : Prop :=
c8 a1 h fun s2 x3 h1 =>
c23 a0 s2 h1 fun v5 x6 h4 =>
fB (Bool.not (eqI x6 (Int.ofNat 0))) fun b7 =>
br b7 (
k AV.nils x6 h4) (
c56 v5 h4 fun v9 x10 x11 h8 =>
fB (eqI x11 (Int.ofNat 6)) fun b12 =>
br b12 (
k AV.nils x11 h8) (
lenK v9 fun x13 =>
J.lp (α := AV × AV × AV × AV × Unit) (fun r17 v14 d15 h16 =>
asI .i64 v14.2.2.2.1 fun x18 =>
asI .i64 v14.2.2.1 fun x19 =>
fB (ltI x18 x19) fun b20 =>
br b20 (
ixK 1 v14.2.1 v14.2.2.2.1 fun p21 =>
ldV p21 h16 fun v22 =>
c57 v22 h16 fun v24 x25 h23 =>
pushK (.cells false 29 [(.int .i64 0), (.nils)]) h23 fun n26 h27 =>
Go.Am.asAgg v24 fun l29 =>
stN 2 (AV.ptr n26 0) l29 h27 fun h28 =>
fB (Bool.not (eqI x25 (Int.ofNat 0))) fun b30 =>
J.jn (fun v31 h32 =>
J.jn (fun v34 h35 =>
J.jn (fun v38 h39 =>
J.jn (fun v43 h44 =>
J.jn (fun v46 h47 =>
J.jb (fun b49 v50 =>
J.jn (fun v53 h54 =>
J.jn (fun v56 h57 =>
J.jn (fun v59 h60 =>
J.jn (fun v63 h64 =>
J.jn (fun v68 h69 =>
J.jn (fun v72 h73 =>
J.jb (fun b76 v77 =>
J.jn (fun v80 h81 =>
J.jn (fun v85 h86 =>
J.jn (fun v91 h92 =>
pickB (AV.bool b30) (AV.bool true) v91 fun b95 =>
br b95 (
leaveK (gam J [(8, w8 c8), (23, w23 c23), (56, w56 c56), (57, w57 c57)]) d15 h92 fun h96 =>
k AV.nils (Int.ofNat 6) h96) (
ldN 2 (AV.ptr n26 0) h92 fun l97 =>
ck (Nat.beq (List.length l97) 2) (op' (lputAt 0 l97 [(.int .i64 0), (.nils)]) fun l100 =>
pushK (.cells false 29 l100) h92 fun n98 h99 =>
apC 29 2 32 v14.1 (AV.slice n98 0 1 1 2 true) h99 fun v101 h102 =>
asI .i64 v14.2.2.2.1 fun x103 =>
fI (wrapF .i64 (Int.add x103 (Int.ofNat 1))) fun x104 =>
r17 (v101, v14.2.1, v14.2.2.1, (AV.int .i64 x104), ()) d15 h102))) fun j93 =>
br b30 (
j93 skipV h86) (
pickB v43 v85 (AV.bool false) fun b94 =>
j93 (AV.bool b94) h86)) fun j87 =>
asBU v43 (fun b105 =>
br b105 (
asI .i64 v50 fun x88 =>
asI .i64 v80 fun x89 =>
fB (Bool.not (eqI x88 x89)) fun b90 =>
j87 (AV.bool b90) h81) (
j87 skipV h81)) (
j87 skipV h81)) fun j82 =>
asBU v43 (fun b106 =>
br b106 (
asI .i64 v77 fun x83 =>
fI (wrapF .i64 (Int.add x83 (Int.ofNat 1))) fun x84 =>
j82 (AV.int .i64 x84) h73) (
j82 skipV h73)) (
j82 skipV h73)) fun j78 =>
asBU v43 (fun b107 =>
br b107 (
ldI .i64 v72 h73 fun x79 =>
j78 true (AV.int .i64 x79)) (
j78 false skipV)) (
j78 false skipV)) fun j74 =>
asBU v43 (fun b108 =>
br b108 (
faK 0 v68 fun p75 =>
j74 p75 h69) (
j74 skipV h69)) (
j74 skipV h69)) fun j70 =>
asBU v43 (fun b109 =>
br b109 (
ixK 2 v53 v63 fun p71 =>
j70 p71 h64) (
j70 skipV h64)) (
j70 skipV h64)) fun j65 =>
asBU v43 (fun b110 =>
br b110 (
asI .i64 v59 fun x66 =>
fI (wrapF .i64 (Int.sub x66 (Int.ofNat 1))) fun x67 =>
j65 (AV.int .i64 x67) h60) (
j65 skipV h60)) (
j65 skipV h60)) fun j61 =>
asBU v43 (fun b111 =>
br b111 (
lenK v56 fun x62 =>
j61 (AV.int .i64 (Int.ofNat x62)) h57) (
j61 skipV h57)) (
j61 skipV h57)) fun j58 =>
asBU v43 (fun b112 =>
br b112 (
j58 v14.1 h54) (
j58 skipV h54)) (
j58 skipV h54)) fun j55 =>
asBU v43 (fun b113 =>
br b113 (
j55 v14.1 h47) (
j55 skipV h47)) (
j55 skipV h47)) fun j51 =>
asBU v43 (fun b114 =>
br b114 (
ldI .i64 v46 h47 fun x52 =>
j51 true (AV.int .i64 x52)) (
j51 false skipV)) (
j51 false skipV)) fun j48 =>
asBU v43 (fun b115 =>
br b115 (
j48 (AV.ptr n26 0) h44) (
j48 skipV h44)) (
j48 skipV h44)) fun j45 =>
br b30 (
j45 skipV h39) (
j45 v38 h39)) fun j40 =>
br b30 (
j40 skipV h35) (
asI .i64 v34 fun x41 =>
fB (ltI (Int.ofNat 0) x41) fun b42 =>
j40 (AV.bool b42) h35)) fun j36 =>
br b30 (
j36 skipV h32) (
lenK v31 fun x37 =>
j36 (AV.int .i64 (Int.ofNat x37)) h32)) fun j33 =>
br b30 (
j33 skipV h28) (
j33 v14.1 h28)) (
leaveK (gam J [(8, w8 c8), (23, w23 c23), (56, w56 c56), (57, w57 c57)]) d15 h16 fun h116 =>
k v14.1 (Int.ofNat 0) h116)) (a2, v9, (AV.int .i64 (Int.ofNat x13)), (AV.int .i64 (Int.ofNat 0)), ()) [] h8))
noncomputable def s34 : AV → Int → AV → H → (AV → Int → H → Prop) → Prop := s34G J0 s8 s23 s56 s57
noncomputable def w34 (c : AV → Int → AV → H → (AV → Int → H → Prop) → Prop) : Fun := fun xs h k => arg xs fun a0 xs => arg xs fun a1 xs => arg xs fun a2 xs => noArg xs <| asI .i64 a1 fun a1 => c a0 a1 a2 h fun r0 r1 h => k (.tuple [r0, (.int .i64 r1)]) h
theorem s34_eq (J : Joins) (c8 : Int → H → (Str → Int → H → Prop) → Prop) (c23 : AV → Str → H → (AV → Int → H → Prop) → Prop) (c56 : AV → H → (AV → Int → Int → H → Prop) → Prop) (c57 : AV → H → (AV → Int → H → Prop) → Prop) (a0 : AV) (a1 : Int) (a2 : AV) (h : H) (k : AV → H → Prop) : denF ty (gam J [(8, w8 c8), (23, w23 c23), (56, w56 c56), (57, w57 c57)]) Tryd.f34 [a0, (.int .i64 a1), a2] h k = s34G J c8 c23 c56 c57 a0 a1 a2 h (fun r0 r1 h => k (.tuple [r0, (.int .i64 r1)]) h) := by kernel_rfl
noncomputable def g34 : Fun := w34 s34
theorem g34_ok : FunOk Tryd.prog 34 g34 := (fun_ok ty_ok mixed (gam_ok (J := J0) (tab_cons g8_ok (tab_cons g23_ok (tab_cons g56_ok (tab_cons g57_ok (tab_nil fls_fun)))))) Tryd.func34 (fun args w => by simp)).imp fun xs h k e0 => by
  obtain ⟨a0, xs0, rfl, e1⟩ := arg_imp e0
  obtain ⟨a1, xs1, rfl, e2⟩ := arg_imp e1
  obtain ⟨a2, xs2, rfl, e3⟩ := arg_imp e2
  obtain ⟨rfl, e4⟩ := noArg_imp e3
  obtain ⟨a1, rfl, e5⟩ := asI_iff.1 e4
  exact (s34_eq J0 s8 s23 s56 s57 a0 a1 a2 h k).mpr e5
/-- (*stagepost/wal.Wal).seen -/
noncomputable def s38G (J : Joins) (a0 : AV) (a1 : Int) (h : H) (k : Int → H → Prop) : Prop :=
okNil a0 (
faK 3 a0 fun p1 =>
ldB p1 h fun b2 =>
J.jn (fun v3 h4 =>
J.jn (fun v6 h7 =>
pickB (AV.bool b2) (AV.bool true) v6 fun b11 =>
okNil a0 (
faK 3 a0 fun p12 =>
stV p12 (AV.bool b11) h7 fun h13 =>
k a1 h13)) fun j8 =>
br b2 (
j8 skipV h4) (
asI .i64 v3 fun x9 =>
fB (eqI x9 (Int.ofNat 7)) fun b10 =>
j8 (AV.bool b10) h4)) fun j5 =>
br b2 (
j5 skipV h) (
j5 (AV.int .i64 a1) h))
noncomputable def s38 : AV → Int → H → (Int → H → Prop) → Prop := s38G J0 
noncomputable def w38 (c : AV → Int → H → (Int → H → Prop) → Prop) : Fun := fun xs h k => arg xs fun a0 xs => arg xs fun a1 xs => noArg xs <| asI .i64 a1 fun a1 => c a0 a1 h fun r0 h => k (.int .i64 r0) h
theorem s38_eq (J : Joins) (a0 : AV) (a1 : Int) (h : H) (k : AV → H → Prop) : denF ty (gam J []) Tryd.f38 [a0, (.int .i64 a1)] h k = s38G J  a0 a1 h (fun r0 h => k (.int .i64 r0) h) := by kernel_rfl
noncomputable def g38 : Fun := w38 s38
theorem g38_ok : FunOk Tryd.prog 38 g38 := (fun_ok ty_ok mixed (gam_ok (J := J0) (tab_nil fls_fun)) Tryd.func38 (fun args w => by simp)).imp fun xs h k e0 => by
  obtain ⟨a0, xs0, rfl, e1⟩ := arg_imp e0
  obtain ⟨a1, xs1, rfl, e2⟩ := arg_imp e1
  obtain ⟨rfl, e3⟩ := noArg_imp e2
  obtain ⟨a1, rfl, e4⟩ := asI_iff.1 e3
  exact (s38_eq J0  a0 a1 h k).mpr e4
/-- (*stagepost/vfs.FS).raw -/
noncomputable def s80G (J : Joins) (a0 : AV) (h : H) (k : Int → H → Prop) : Prop :=
okNil a0 (
faK 6 a0 fun p1 =>
ldB p1 h fun b2 =>
J.jn (fun v3 h4 =>
J.jn (fun v6 h7 =>
J.jn (fun v9 h10 =>
J.jn (fun v13 h14 =>
J.jn (fun v17 h18 =>
pickB (AV.bool b2) v17 (AV.bool false) fun b22 =>
br b22 (
okNil a0 (
faK 5 a0 fun p23 =>
stV p23 (AV.bool true) h18 fun h24 =>
k (Int.ofNat 7) h24)) (
J.jd (α := AV × Unit) (fun v25 d26 h27 =>
okNil v25.1 (
faK 8 v25.1 fun p29 =>
ldI .i64 p29 h27 fun x30 =>
fI (wrapF .i64 (Int.add x30 (Int.ofNat 1))) fun x31 =>
okNil v25.1 (
faK 8 v25.1 fun p32 =>
stV p32 (AV.int .i64 x31) h27 fun h33 =>
leaveK (gam J []) d26 h33 fun h34 =>
k (Int.ofNat 0) h34))) fun j28 =>
okNil a0 (
faK 6 a0 fun p35 =>
ldB p35 h18 fun b36 =>
br b36 (
okNil a0 (
faK 7 a0 fun p37 =>
ldI .i64 p37 h18 fun x38 =>
fI (wrapF .i64 (Int.sub x38 (Int.ofNat 1))) fun x39 =>
okNil a0 (
faK 7 a0 fun p40 =>
stV p40 (AV.int .i64 x39) h18 fun h41 =>
j28 (a0, ()) [] h41))) (
j28 (a0, ()) [] h18)))) fun j19 =>
br b2 (
asI .i64 v13 fun x20 =>
fB (eqI x20 (Int.ofNat 0)) fun b21 =>
j19 (AV.bool b21) h14) (
j19 skipV h14)) fun j15 =>
br b2 (
ldI .i64 v9 h10 fun x16 =>
j15 (AV.int .i64 x16) h10) (
j15 skipV h10)) fun j11 =>
br b2 (
faK 7 v6 fun p12 =>
j11 p12 h7) (
j11 skipV h7)) fun j8 =>
br b2 (
okNil v3 (
j8 v3 h4)) (
j8 skipV h4)) fun j5 =>
br b2 (
j5 a0 h) (
j5 skipV h))
noncomputable def s80 : AV → H → (Int → H → Prop) → Prop := s80G J0 
noncomputable def w80 (c : AV → H → (Int → H → Prop) → Prop) : Fun := fun xs h k => arg xs fun a0 xs => noArg xs <| c a0 h fun r0 h => k (.int .i64 r0) h
theorem s80_eq (J : Joins) (a0 : AV) (h : H) (k : AV → H → Prop) : denF ty (gam J []) Tryd.f80 [a0] h k = s80G J  a0 h (fun r0 h => k (.int .i64 r0) h) := by kernel_rfl
noncomputable def g80 : Fun := w80 s80
theorem g80_ok : FunOk Tryd.prog 80 g80 := (fun_ok ty_ok mixed (gam_ok (J := J0) (tab_nil fls_fun)) Tryd.func80 (fun args w => by simp)).imp fun xs h k e0 => by
  obtain ⟨a0, xs0, rfl, e1⟩ := arg_imp e0
  obtain ⟨rfl, e2⟩ := noArg_imp e1
  exact (s80_eq J0  a0 h k).mpr e2
/-- (*stagepost/vfs.FS).pend -/
noncomputable def s63G (J : Joins) (c80 : AV → H → (Int → H → Prop) → Prop) (a0 : AV) (a1 : AV) (h : H) (k : Int → H → Prop) : Prop :=
Go.Am.asAgg a1 fun l3 =>
pushK (.cells false 94 l3) h fun n1 h2 =>
c80 a0 h2 fun x5 h4 =>
J.jd (α := AV × Unit) (fun v6 d7 h8 =>
leaveK (gam J [(80, w80 c80)]) d7 h8 fun h10 =>
asI .i64 v6.1 fun x11 =>
k x11 h10) fun j9 =>
fB (eqI x5 (Int.ofNat 0)) fun b12 =>
br b12 (
okNil a0 (
faK 2 a0 fun p13 =>
ldV p13 h4 fun v14 =>
ldN 5 (AV.ptr n1 0) h4 fun l15 =>
ck (Nat.beq (List.length l15) 5) (op' (lputAt 0 l15 [(.int .i64 0), (.str ⟨0, 0⟩), (.str ⟨0, 0⟩), (.int .i64 0), (.nils)]) fun l18 =>
pushK (.cells false 94 l18) h4 fun n16 h17 =>
apC 94 5 72 v14 (AV.slice n16 0 1 1 5 true) h17 fun v19 h20 =>
okNil a0 (
faK 2 a0 fun p21 =>
stV p21 v19 h20 fun h22 =>
j9 ((AV.int .i64 x5), ()) [] h22)))) (
j9 ((AV.int .i64 x5), ()) [] h4)
noncomputable def s63 : AV → AV → H → (Int → H → Prop) → Prop := s63G J0 s80
noncomputable def w63 (c : AV → AV → H → (Int → H → Prop) → Prop) : Fun := fun xs h k => arg xs fun a0 xs => arg xs fun a1 xs => noArg xs <| c a0 a1 h fun r0 h => k (.int .i64 r0) h
theorem s63_eq (J : Joins) (c80 : AV → H → (Int → H → Prop) → Prop) (a0 : AV) (a1 : AV) (h : H) (k : AV → H → Prop) : denF ty (gam J [(80, w80 c80)]) Tryd.f63 [a0, a1] h k = s63G J c80 a0 a1 h (fun r0 h => k (.int .i64 r0) h) := by kernel_rfl
noncomputable def g63 : Fun := w63 s63
theorem g63_ok : FunOk Tryd.prog 63 g63 := (fun_ok ty_ok mixed (gam_ok (J := J0) (tab_cons g80_ok (tab_nil fls_fun))) Tryd.func63 (fun args w => by simp)).imp fun xs h k e0 => by
  obtain ⟨a0, xs0, rfl, e1⟩ := arg_imp e0
  obtain ⟨a1, xs1, rfl, e2⟩ := arg_imp e1
  obtain ⟨rfl, e3⟩ := noArg_imp e2
  exact (s63_eq J0 s80 a0 a1 h k).mpr e3
/-- (*stagepost/vfs.FS).Create -/
noncomputable def s58G (J : Joins) (c42 : AV → AV → H → (Int → H → Prop) → Prop) (c46 : AV → H → (AV → H → Prop) → Prop) (c63 : AV → AV → H → (Int → H → Prop) → Prop) (a0 : AV) (a1 : Str) (h : H) (k : Int → H → Prop) : Prop :=
pushK (.cells false 9 [(AV.str a1)]) h fun n1 h2 =>
c42 a0 (AV.slice n1 0 1 1 1 true) h2 fun x4 h3 =>
fB (Bool.not (eqI x4 (Int.ofNat 0))) fun b5 =>
br b5 (
k x4 h3) (
c46 a0 h3 fun v7 h6 =>
Go.Am.asAgg v7 fun l8 =>
op' (lgetO l8 1) fun v9 =>
op' (aLookup ty 9 3 true v9 (AV.str a1) h6) fun v10 =>
asTup v10 fun l11 =>
op' (lgetO l11 0) fun v12 =>
asI .i64 v12 fun x13 =>
asTup v10 fun l14 =>
op' (lgetO l14 1) fun v15 =>
asB v15 fun b16 =>
br b16 (
k (Int.ofNat 9) h6) (
okNil a0 (
faK 4 a0 fun p17 =>
ldI .i64 p17 h6 fun x18 =>
c63 a0 (AV.agg [(AV.int .i64 (Int.ofNat 1)), (AV.str a1), (.str ⟨0, 0⟩), (AV.int .i64 x18), (.nils)]) h6 fun x20 h19 =>
okNil a0 (
faK 4 a0 fun p21 =>
ldI .i64 p21 h19 fun x22 =>
fI (wrapF .i64 (Int.add x22 (Int.ofNat 1))) fun x23 =>
okNil a0 (
faK 4 a0 fun p24 =>
stV p24 (AV.int .i64 x23) h19 fun h25 =>
k x20 h25)))))
noncomputable def s58 : AV → Str → H → (Int → H → Prop) → Prop := s58G J0 s42 s46 s63
noncomputable def w58 (c : AV → Str → H → (Int → H → Prop) → Prop) : Fun := fun xs h k => arg xs fun a0 xs => arg xs fun a1 xs => noArg xs <| asS a1 fun a1 => c a0 a1 h fun r0 h => k (.int .i64 r0) h
theorem s58_eq (J : Joins) (c42 : AV → AV → H → (Int → H → Prop) → Prop) (c46 : AV → H → (AV → H → Prop) → Prop) (c63 : AV → AV → H → (Int → H → Prop) → Prop) (a0 : AV) (a1 : Str) (h : H) (k : AV → H → Prop) : denF ty (gam J [(42, w42 c42), (46, w46 c46), (63, w63 c63)]) Tryd.f58 [a0, (.str a1)] h k = s58G J c42 c46 c63 a0 a1 h (fun r0 h => k (.int .i64 r0) h) := by kernel_rfl
noncomputable def g58 : Fun := w58 s58
theorem g58_ok : FunOk Tryd.prog 58 g58 := (fun_ok ty_ok mixed (gam_ok (J := J0) (tab_cons g42_ok (tab_cons g46_ok (tab_cons g63_ok (tab_nil fls_fun))))) Tryd.func58 (fun args w => by simp)).imp fun xs h k e0 => by
  obtain ⟨a0, xs0, rfl, e1⟩ := arg_imp e0
  obtain ⟨a1, xs1, rfl, e2⟩ := arg_imp e1
  obtain ⟨rfl, e3⟩ := noArg_imp e2
  obtain ⟨a1, rfl, e4⟩ := asS_iff.1 e3
  exact (s58_eq J0 s42 s46 s63 a0 a1 h k).mpr e4
/-- (*stagepost/vfs.FS).SyncNames$1 -/
noncomputable def s77G (J : Joins) (a0 : AV) (h : H) (k : Bool → H → Prop) : Prop :=
Go.Am.asAgg a0 fun l3 =>
pushK (.cells false 94 l3) h fun n1 h2 =>
ldI .i64 (AV.ptr n1 0) h2 fun x4 =>
fB (Bool.not (eqI x4 (Int.ofNat 0))) fun b5 =>
k b5 h2
noncomputable def s77 : AV → H → (Bool → H → Prop) → Prop := s77G J0 
noncomputable def w77 (c : AV → H → (Bool → H → Prop) → Prop) : Fun := fun xs h k => arg xs fun a0 xs => noArg xs <| c a0 h fun r0 h => k (.bool r0) h
theorem s77_eq (J : Joins) (a0 : AV) (h : H) (k : AV → H → Prop) : denF ty (gam J []) Tryd.f77 [a0] h k = s77G J  a0 h (fun r0 h => k (.bool r0) h) := by kernel_rfl
noncomputable def g77 : Fun := w77 s77
theorem g77_ok : FunOk Tryd.prog 77 g77 := (fun_ok ty_ok mixed (gam_ok (J := J0) (tab_nil fls_fun)) Tryd.func77 (fun args w => by simp)).imp fun xs h k e0 => by
  obtain ⟨a0, xs0, rfl, e1⟩ := arg_imp e0
  obtain ⟨rfl, e2⟩ := noArg_imp e1
  exact (s77_eq J0  a0 h k).mpr e2
/-- (*stagepost/vfs.FS).Sync$1 -/
noncomputable def s65G (J : Joins) (a0 : AV) (a1 : AV) (h : H) (k : Bool → H → Prop) : Prop :=
Go.Am.asAgg a0 fun l3 =>
pushK (.cells false 94 l3) h fun n1 h2 =>
ldI .i64 (AV.ptr n1 0) h2 fun x4 =>
fB (eqI x4 (Int.ofNat 0)) fun b5 =>
J.jn (fun v6 h7 =>
J.jn (fun v9 h10 =>
J.jn (fun v13 h14 =>
J.jn (fun v17 h18 =>
pickB (AV.bool b5) v17 (AV.bool false) fun b23 =>
k b23 h18) fun j19 =>
br b5 (
asI .i64 v9 fun x20 =>
asI .i64 v13 fun x21 =>
fB (eqI x20 x21) fun b22 =>
j19 (AV.bool b22) h14) (
j19 skipV h14)) fun j15 =>
br b5 (
ldI .i64 a1 h10 fun x16 =>
j15 (AV.int .i64 x16) h10) (
j15 skipV h10)) fun j11 =>
br b5 (
ldI .i64 v6 h7 fun x12 =>
j11 (AV.int .i64 x12) h7) (
j11 skipV h7)) fun j8 =>
br b5 (
j8 (AV.ptr n1 3) h2) (
j8 skipV h2)
noncomputable def s65 : AV → AV → H → (Bool → H → Prop) → Prop := s65G J0 
noncomputable def w65 (c : AV → AV → H → (Bool → H → Prop) → Prop) : Fun := fun xs h k => arg xs fun a0 xs => arg xs fun a1 xs => noArg xs <| c a0 a1 h fun r0 h => k (.bool r0) h
theorem s65_eq (J : Joins) (a0 : AV) (a1 : AV) (h : H) (k : AV → H → Prop) : denF ty (gam J []) Tryd.f65 [a0, a1] h k = s65G J  a0 a1 h (fun r0 h => k (.bool r0) h) := by kernel_rfl
noncomputable def g65 : Fun := w65 s65
theorem g65_ok : FunOk Tryd.prog 65 g65 := (fun_ok ty_ok mixed (gam_ok (J := J0) (tab_nil fls_fun)) Tryd.func65 (fun args w => by simp)).imp fun xs h k e0 => by
  obtain ⟨a0, xs0, rfl, e1⟩ := arg_imp e0
  obtain ⟨a1, xs1, rfl, e2⟩ := arg_imp e1
  obtain ⟨rfl, e3⟩ := noArg_imp e2
  exact (s65_eq J0  a0 a1 h k).mpr e3
/-- (*stagepost/vfs.FS).settle -/
noncomputable def s64G (J : Joins) (c43 : AV → AV → H → (H → Prop) → Prop) (c65 : AV → AV → H → (Bool → H → Prop) → Prop) (c77 : AV → H → (Bool → H → Prop) → Prop) (c80 : AV → H → (Int → H → Prop) → Prop) (a0 : AV) (a1 : AV) (h : H) (k : Int → H → Prop) : Prop :=
c80 a0 h fun x2 h1 =>
fB (Bool.not (eqI x2 (Int.ofNat 0))) fun b3 =>
br b3 (
k x2 h1) (
okNil a0 (
faK 2 a0 fun p4 =>
ldV p4 h1 fun v5 =>
lenK v5 fun x6 =>
J.lp (α := AV × AV × AV × AV × AV × AV × Unit) (fun r10 v7 d8 h9 =>
asI .i64 v7.2.2.2.2.2.1 fun x11 =>
asI .i64 v7.2.2.2.2.1 fun x12 =>
fB (ltI x11 x12) fun b13 =>
br b13 (
J.jd (α := AV × AV × AV × AV × AV × AV × Unit) (fun v14 d15 h16 =>
asI .i64 v14.2.2.2.2.2.1 fun x18 =>
fI (wrapF .i64 (Int.add x18 (Int.ofNat 1))) fun x19 =>
r10 (v14.1, v14.2.1, v14.2.2.1, v14.2.2.2.1, v14.2.2.2.2.1, (AV.int .i64 x19), ()) d15 h16) fun j17 =>
ixK 5 v7.2.2.2.1 v7.2.2.2.2.2.1 fun p20 =>
ldN 5 p20 h9 fun l21 =>
pushK (.cells false 94 [(.int .i64 0), (.str ⟨0, 0⟩), (.str ⟨0, 0⟩), (.int .i64 0), (.nils)]) h9 fun n22 h23 =>
stN 5 (AV.ptr n22 0) l21 h23 fun h24 =>
ldN 5 (AV.ptr n22 0) h24 fun l25 =>
callK (gam J [(43, w43 c43), (65, w65 c65), (77, w77 c77), (80, w80 c80)]) v7.2.1 [(AV.agg l25)] h24 fun v26 h27 =>
asB v26 fun b28 =>
br b28 (
okNil v7.1 (
faK 0 v7.1 fun p29 =>
ldN 2 p29 h27 fun l30 =>
ldN 5 (AV.ptr n22 0) h27 fun l31 =>
c43 (AV.agg l30) (AV.agg l31) h27 fun  h32 =>
j17 (v7.1, v7.2.1, v7.2.2.1, v7.2.2.2.1, v7.2.2.2.2.1, v7.2.2.2.2.2.1, ()) d8 h32)) (
ldN 5 (AV.ptr n22 0) h27 fun l33 =>
ck (Nat.beq (List.length l33) 5) (op' (lputAt 0 l33 [(.int .i64 0), (.str ⟨0, 0⟩), (.str ⟨0, 0⟩), (.int .i64 0), (.nils)]) fun l36 =>
pushK (.cells false 94 l36) h27 fun n34 h35 =>
apC 94 5 72 v7.2.2.1 (AV.slice n34 0 1 1 5 true) h35 fun v37 h38 =>
j17 (v7.1, v7.2.1, v37, v7.2.2.2.1, v7.2.2.2.2.1, v7.2.2.2.2.2.1, ()) d8 h38))) (
okNil v7.1 (
faK 2 v7.1 fun p39 =>
stV p39 v7.2.2.1 h9 fun h40 =>
leaveK (gam J [(43, w43 c43), (65, w65 c65), (77, w77 c77), (80, w80 c80)]) d8 h40 fun h41 =>
k (Int.ofNat 0) h41))) (a0, a1, AV.nils, v5, (AV.int .i64 (Int.ofNat x6)), (AV.int .i64 (Int.ofNat 0)), ()) [] h1))
noncomputable def s64 : AV → AV → H → (Int → H → Prop) → Prop := s64G J0 s43 s65 s77 s80
noncomputable def w64 (c : AV → AV → H → (Int → H → Prop) → Prop) : Fun := fun xs h k => arg xs fun a0 xs => arg xs fun a1 xs => noArg xs <| c a0 a1 h fun r0 h => k (.int .i64 r0) h
theorem s64_eq (J : Joins) (c43 : AV → AV → H → (H → Prop) → Prop) (c65 : AV → AV → H → (Bool → H → Prop) → Prop) (c77 : AV → H → (Bool → H → Prop) → Prop) (c80 : AV → H → (Int → H → Prop) → Prop) (a0 : AV) (a1 : AV) (h : H) (k : AV → H → Prop) : denF ty (gam J [(43, w43 c43), (65, w65 c65), (77, w77 c77), (80, w80 c80)]) Tryd.f64 [a0, a1] h k = s64G J c43 c65 c77 c80 a0 a1 h (fun r0 h => k (.int .i64 r0) h) := by kernel_rfl
noncomputable def g64 : Fun := w64 s64
theorem g64_ok : FunOk Tryd.prog 64 g64 := (fun_ok ty_ok mixed (gam_ok (J := J0) (tab_cons g43_ok (tab_cons g65_ok (tab_cons g77_ok (tab_cons g80_ok (tab_nil fls_fun)))))) Tryd.func64 (fun args w => by simp)).imp fun xs h k e0 => by
  obtain ⟨a0, xs0, rfl, e1⟩ := arg_imp e0
  obtain ⟨a1, xs1, rfl, e2⟩ := arg_imp e1
  obtain ⟨rfl, e3⟩ := noArg_imp e2
  exact (s64_eq J0 s43 s65 s77 s80 a0 a1 h k).mpr e3
/-- (*stagepost/vfs.FS).SyncNames -/
noncomputable def s59G (J : Joins) (c42 : AV → AV → H → (Int → H → Prop) → Prop) (c64 : AV → AV → H → (Int → H → Prop) → Prop) (c77 : AV → H → (Bool → H → Prop) → Prop) (a0 : AV) (h : H) (k : Int → H → Prop) : Prop :=
c42 a0 AV.nils h fun x2 h1 =>
fB (Bool.not (eqI x2 (Int.ofNat 0))) fun b3 =>
br b3 (
k x2 h1) (
c64 a0 (AV.func (.func 77) [] []) h1 fun x5 h4 =>
k x5 h4)
noncomputable def s59 : AV → H → (Int → H → Prop) → Prop := s59G J0 s42 s64 s77
noncomputable def w59 (c : AV → H → (Int → H → Prop) → Prop) : Fun := fun xs h k => arg xs fun a0 xs => noArg xs <| c a0 h fun r0 h => k (.int .i64 r0) h
theorem s59_eq (J : Joins) (c42 : AV → AV → H → (Int → H → Prop) → Prop) (c64 : AV → AV → H → (Int → H → Prop) → Prop) (c77 : AV → H → (Bool → H → Prop) → Prop) (a0 : AV) (h : H) (k : AV → H → Prop) : denF ty (gam J [(42, w42 c42), (64, w64 c64), (77, w77 c77)]) Tryd.f59 [a0] h k = s59G J c42 c64 c77 a0 h (fun r0 h => k (.int .i64 r0) h) := by kernel_rfl
noncomputable def g59 : Fun := w59 s59
theorem g59_ok : FunOk Tryd.prog 59 g59 := (fun_ok ty_ok mixed (gam_ok (J := J0) (tab_cons g42_ok (tab_cons g64_ok (tab_cons g77_ok (tab_nil fls_fun))))) Tryd.func59 (fun args w => by simp)).imp fun xs h k e0 => by
  obtain ⟨a0, xs0, rfl, e1⟩ := arg_imp e0
  obtain ⟨rfl, e2⟩ := noArg_imp e1
  exact (s59_eq J0 s42 s64 s77 a0 h k).mpr e2
/-- (*stagepost/wal.Wal).begin -/
noncomputable def s35G (J : Joins) (c8 : Int → H → (Str → Int → H → Prop) → Prop) (c38 : AV → Int → H → (Int → H → Prop) → Prop) (c58 : AV → Str → H → (Int → H → Prop) → Prop) (c59 : AV → H → (Int → H → Prop) → Prop) (a0 : AV) (h : H) (k : Int → H → Prop) : Prop :=
okNil a0 (
faK 2 a0 fun p1 =>
ldI .i64 p1 h fun x2 =>
fI (wrapF .i64 (Int.add x2 (Int.ofNat 1))) fun x3 =>
c8 x3 h fun s5 x6 h4 =>
fB (Bool.not (eqI x6 (Int.ofNat 0))) fun b7 =>
br b7 (
k (Int.ofNat 3) h4) (
okNil a0 (
faK 0 a0 fun p8 =>
ldV p8 h4 fun v9 =>
c58 v9 s5 h4 fun x11 h10 =>
c38 a0 x11 h10 fun x13 h12 =>
fB (Bool.not (eqI x13 (Int.ofNat 0))) fun b14 =>
br b14 (
k x13 h12) (
okNil a0 (
faK 0 a0 fun p15 =>
ldV p15 h12 fun v16 =>
c59 v16 h12 fun x18 h17 =>
c38 a0 x18 h17 fun x20 h19 =>
fB (Bool.not (eqI x20 (Int.ofNat 0))) fun b21 =>
br b21 (
k x20 h19) (
okNil a0 (
faK 2 a0 fun p22 =>
ldI .i64 p22 h19 fun x23 =>
fI (wrapF .i64 (Int.add x23 (Int.ofNat 1))) fun x24 =>
okNil a0 (
faK 2 a0 fun p25 =>
stV p25 (AV.int .i64 x24) h19 fun h26 =>
k (Int.ofNat 0) h26))))))))
noncomputable def s35 : AV → H → (Int → H → Prop) → Prop := s35G J0 s8 s38 s58 s59
noncomputable def w35 (c : AV → H → (Int → H → Prop) → Prop) : Fun := fun xs h k => arg xs fun a0 xs => noArg xs <| c a0 h fun r0 h => k (.int .i64 r0) h
theorem s35_eq (J : Joins) (c8 : Int → H → (Str → Int → H → Prop) → Prop) (c38 : AV → Int → H → (Int → H → Prop) → Prop) (c58 : AV → Str → H → (Int → H → Prop) → Prop) (c59 : AV → H → (Int → H → Prop) → Prop) (a0 : AV) (h : H) (k : AV → H → Prop) : denF ty (gam J [(8, w8 c8), (38, w38 c38), (58, w58 c58), (59, w59 c59)]) Tryd.f35 [a0] h k = s35G J c8 c38 c58 c59 a0 h (fun r0 h => k (.int .i64 r0) h) := by kernel_rfl
noncomputable def g35 : Fun := w35 s35
theorem g35_ok : FunOk Tryd.prog 35 g35 := (fun_ok ty_ok mixed (gam_ok (J := J0) (tab_cons g8_ok (tab_cons g38_ok (tab_cons g58_ok (tab_cons g59_ok (tab_nil fls_fun)))))) Tryd.func35 (fun args w => by simp)).imp fun xs h k e0 => by
  obtain ⟨a0, xs0, rfl, e1⟩ := arg_imp e0
  obtain ⟨rfl, e2⟩ := noArg_imp e1
  exact (s35_eq J0 s8 s38 s58 s59 a0 h k).mpr e2
/-- stagepost/wal.Open -/
noncomputable def s13G (J : Joins) (c32 : AV → H → (Int → H → Prop) → Prop) (c33 : AV → Int → H → (Bool → H → Prop) → Prop) (c34 : AV → Int → AV → H → (AV → Int → H → Prop) → Prop) (c35 : AV → H → (Int → H → Prop) → Prop) (a0 : AV) (a1 : Int) (a2 : Int) (h : H) (k : AV → AV → Int → H → Prop) : Prop :=
c32 a0 h fun x2 h1 =>
fB (Bool.not (eqI x2 (Int.ofNat 0))) fun b3 =>
br b3 (
k AV.nilp AV.nils x2 h1) (
fB (ltI a1 (Int.ofNat 1)) fun b4 =>
J.jn (fun v5 h6 =>
J.jn (fun v8 h9 =>
pickB (AV.bool b4) (AV.bool true) v8 fun b13 =>
J.jn (fun v14 h15 =>
J.jn (fun v17 h18 =>
pickB (AV.bool b13) (AV.bool true) v17 fun b22 =>
J.jn (fun v23 h24 =>
J.jn (fun v26 h27 =>
pickB (AV.bool b22) (AV.bool true) v26 fun b31 =>
br b31 (
k AV.nilp AV.nils (Int.ofNat 2) h27) (
J.lp (α := AV × AV × AV × AV × Unit) (fun r35 v32 d33 h34 =>
asI .i64 v32.2.2.2.1 fun x37 =>
c33 v32.1 x37 h34 fun b38 h36 =>
br b38 (
asI .i64 v32.2.2.2.1 fun x40 =>
c34 v32.1 x40 v32.2.2.1 h36 fun v41 x42 h39 =>
fB (Bool.not (eqI x42 (Int.ofNat 0))) fun b43 =>
br b43 (
leaveK (gam J [(32, w32 c32), (33, w33 c33), (34, w34 c34), (35, w35 c35)]) d33 h39 fun h44 =>
k AV.nilp AV.nils x42 h44) (
asI .i64 v32.2.2.2.1 fun x45 =>
fI (wrapF .i64 (Int.add x45 (Int.ofNat 1))) fun x46 =>
r35 (v32.1, v32.2.1, v41, (AV.int .i64 x46), ()) d33 h39)) (
lenK v32.2.2.1 fun x47 =>
fB (ltI (Int.ofNat 0) (Int.ofNat x47)) fun b48 =>
J.jn (fun v49 h50 =>
J.jn (fun v52 h53 =>
J.jn (fun v56 h57 =>
J.jn (fun v60 h61 =>
J.jn (fun v64 h65 =>
J.jn (fun v67 h68 =>
J.jn (fun v72 h73 =>
J.jn (fun v78 h79 =>
J.jn (fun v81 h82 =>
J.jn (fun v84 h85 =>
J.jn (fun v87 h88 =>
J.jn (fun v92 h93 =>
J.jn (fun v96 h97 =>
J.jn (fun v100 h101 =>
J.jn (fun v104 h105 =>
J.jn (fun v107 h108 =>
J.jn (fun v113 h114 =>
pickB (AV.bool b48) v113 (AV.bool false) fun b117 =>
br b117 (
leaveK (gam J [(32, w32 c32), (33, w33 c33), (34, w34 c34), (35, w35 c35)]) d33 h114 fun h118 =>
k AV.nilp AV.nils (Int.ofNat 6) h118) (
asI .i64 v32.2.2.2.1 fun x119 =>
fI (wrapF .i64 (Int.sub x119 (Int.ofNat 1))) fun x120 =>
ck (isOne v32.1) (asI .i64 v32.2.1 fun x121 =>
pushK (.cells false 85 [v32.1, (AV.int .i64 x121), (AV.int .i64 x120), (.bool false), (AV.bool true)]) h114 fun n122 h123 =>
c35 (AV.ptr n122 0) h123 fun x125 h124 =>
fB (Bool.not (eqI x125 (Int.ofNat 0))) fun b126 =>
br b126 (
leaveK (gam J [(32, w32 c32), (33, w33 c33), (34, w34 c34), (35, w35 c35)]) d33 h124 fun h127 =>
k AV.nilp AV.nils x125 h127) (
J.jd (α := AV × AV × AV × Unit) (fun v128 d129 h130 =>
J.lp (α := AV × AV × AV × Unit) (fun r135 v132 d133 h134 =>
lenK v132.2.1 fun x136 =>
fB (ltI (Int.ofNat 0) (Int.ofNat x136)) fun b137 =>
J.jn (fun v138 h139 =>
J.jn (fun v141 h142 =>
J.jn (fun v145 h146 =>
J.jn (fun v149 h150 =>
J.jn (fun v153 h154 =>
J.jn (fun v156 h157 =>
pickB (AV.bool b137) v156 (AV.bool false) fun b162 =>
br b162 (
slK 2 v132.2.1 (some (AV.int .i64 (Int.ofNat 1))) none fun v163 =>
r135 (v132.1, v163, v132.2.2.1, ()) d133 h157) (
leaveK (gam J [(32, w32 c32), (33, w33 c33), (34, w34 c34), (35, w35 c35)]) d133 h157 fun h164 =>
k v132.2.2.1 v132.2.1 (Int.ofNat 0) h164)) fun j158 =>
br b137 (
asI .i64 v149 fun x159 =>
asI .i64 v153 fun x160 =>
fB (Bool.not (ltI x160 x159)) fun b161 =>
j158 (AV.bool b161) h154) (
j158 skipV h154)) fun j155 =>
br b137 (
j155 v132.1 h150) (
j155 skipV h150)) fun j151 =>
br b137 (
ldI .i64 v145 h146 fun x152 =>
j151 (AV.int .i64 x152) h146) (
j151 skipV h146)) fun j147 =>
br b137 (
faK 0 v141 fun p148 =>
j147 p148 h142) (
j147 skipV h142)) fun j143 =>
br b137 (
ixK 2 v138 (AV.int .i64 (Int.ofNat 0)) fun p144 =>
j143 p144 h139) (
j143 skipV h139)) fun j140 =>
br b137 (
j140 v132.2.1 h134) (
j140 skipV h134)) (v128.1, v128.2.1, v128.2.2.1, ()) d129 h130) fun j131 =>
lenK v32.2.2.1 fun x165 =>
fB (ltI (Int.ofNat 0) (Int.ofNat x165)) fun b166 =>
br b166 (
fI (wrapF .i64 (Int.sub (Int.ofNat x165) (Int.ofNat 1))) fun x167 =>
ixK 2 v32.2.2.1 (AV.int .i64 x167) fun p168 =>
faK 0 p168 fun p169 =>
ldI .i64 p169 h124 fun x170 =>
stV (AV.ptr n122 1) (AV.int .i64 x170) h124 fun h171 =>
j131 (v32.2.1, v32.2.2.1, (AV.ptr n122 0), ()) d33 h171) (
j131 (v32.2.1, v32.2.2.1, (AV.ptr n122 0), ()) d33 h124))))) fun j115 =>
br b48 (
pickB v78 (AV.bool true) v107 fun b116 =>
j115 (AV.bool b116) h108) (
j115 skipV h108)) fun j109 =>
asBU v78 (fun b172 =>
br b172 (
j109 skipV h105) (
asI .i64 v100 fun x110 =>
asI .i64 v104 fun x111 =>
fB (ltI x110 x111) fun b112 =>
j109 (AV.bool b112) h105)) (
j109 skipV h105)) fun j106 =>
asBU v78 (fun b173 =>
br b173 (
j106 skipV h101) (
j106 v32.2.1 h101)) (
j106 skipV h101)) fun j102 =>
asBU v78 (fun b174 =>
br b174 (
j102 skipV h97) (
ldI .i64 v96 h97 fun x103 =>
j102 (AV.int .i64 x103) h97)) (
j102 skipV h97)) fun j98 =>
asBU v78 (fun b175 =>
br b175 (
j98 skipV h93) (
faK 0 v92 fun p99 =>
j98 p99 h93)) (
j98 skipV h93)) fun j94 =>
asBU v78 (fun b176 =>
br b176 (
j94 skipV h88) (
ixK 2 v81 v87 fun p95 =>
j94 p95 h88)) (
j94 skipV h88)) fun j89 =>
asBU v78 (fun b177 =>
br b177 (
j89 skipV h85) (
asI .i64 v84 fun x90 =>
fI (wrapF .i64 (Int.sub x90 (Int.ofNat 1))) fun x91 =>
j89 (AV.int .i64 x91) h85)) (
j89 skipV h85)) fun j86 =>
asBU v78 (fun b178 =>
br b178 (
j86 skipV h82) (
j86 (AV.int .i64 (Int.ofNat x47)) h82)) (
j86 skipV h82)) fun j83 =>
asBU v78 (fun b179 =>
br b179 (
j83 skipV h79) (
j83 v32.2.2.1 h79)) (
j83 skipV h79)) fun j80 =>
br b48 (
j80 v72 h73) (
j80 skipV h73)) fun j74 =>
br b48 (
asI .i64 v60 fun x75 =>
asI .i64 v67 fun x76 =>
fB (ltI x76 x75) fun b77 =>
j74 (AV.bool b77) h68) (
j74 skipV h68)) fun j69 =>
br b48 (
asI .i64 v64 fun x70 =>
fI (wrapF .i64 (Int.add x70 (Int.ofNat 1))) fun x71 =>
j69 (AV.int .i64 x71) h65) (
j69 skipV h65)) fun j66 =>
br b48 (
j66 v32.2.1 h61) (
j66 skipV h61)) fun j62 =>
br b48 (
ldI .i64 v56 h57 fun x63 =>
j62 (AV.int .i64 x63) h57) (
j62 skipV h57)) fun j58 =>
br b48 (
faK 0 v52 fun p59 =>
j58 p59 h53) (
j58 skipV h53)) fun j54 =>
br b48 (
ixK 2 v49 (AV.int .i64 (Int.ofNat 0)) fun p55 =>
j54 p55 h50) (
j54 skipV h50)) fun j51 =>
br b48 (
j51 v32.2.2.1 h36) (
j51 skipV h36))) (a0, (AV.int .i64 a2), AV.nils, (AV.int .i64 a1), ()) [] h27)) fun j28 =>
br b22 (
j28 skipV h24) (
asI .i64 v23 fun x29 =>
fB (ltI (Int.ofNat 1073741824) x29) fun b30 =>
j28 (AV.bool b30) h24)) fun j25 =>
br b22 (
j25 skipV h18) (
j25 (AV.int .i64 a2) h18)) fun j19 =>
br b13 (
j19 skipV h15) (
asI .i64 v14 fun x20 =>
fB (ltI x20 (Int.ofNat 0)) fun b21 =>
j19 (AV.bool b21) h15)) fun j16 =>
br b13 (
j16 skipV h9) (
j16 (AV.int .i64 a2) h9)) fun j10 =>
br b4 (
j10 skipV h6) (
asI .i64 v5 fun x11 =>
fB (ltI (Int.ofNat 999999) x11) fun b12 =>
j10 (AV.bool b12) h6)) fun j7 =>
br b4 (
j7 skipV h1) (
j7 (AV.int .i64 a1) h1))
noncomputable def s13 : AV → Int → Int → H → (AV → AV → Int → H → Prop) → Prop := s13G J0 s32 s33 s34 s35
noncomputable def w13 (c : AV → Int → Int → H → (AV → AV → Int → H → Prop) → Prop) : Fun := fun xs h k => arg xs fun a0 xs => arg xs fun a1 xs => arg xs fun a2 xs => noArg xs <| asI .i64 a1 fun a1 => asI .i64 a2 fun a2 => c a0 a1 a2 h fun r0 r1 r2 h => k (.tuple [r0, r1, (.int .i64 r2)]) h
theorem s13_eq (J : Joins) (c32 : AV → H → (Int → H → Prop) → Prop) (c33 : AV → Int → H → (Bool → H → Prop) → Prop) (c34 : AV → Int → AV → H → (AV → Int → H → Prop) → Prop) (c35 : AV → H → (Int → H → Prop) → Prop) (a0 : AV) (a1 : Int) (a2 : Int) (h : H) (k : AV → H → Prop) : denF ty (gam J [(32, w32 c32), (33, w33 c33), (34, w34 c34), (35, w35 c35)]) Tryd.f13 [a0, (.int .i64 a1), (.int .i64 a2)] h k = s13G J c32 c33 c34 c35 a0 a1 a2 h (fun r0 r1 r2 h => k (.tuple [r0, r1, (.int .i64 r2)]) h) := by kernel_rfl
noncomputable def g13 : Fun := w13 s13
theorem g13_ok : FunOk Tryd.prog 13 g13 := (fun_ok ty_ok mixed (gam_ok (J := J0) (tab_cons g32_ok (tab_cons g33_ok (tab_cons g34_ok (tab_cons g35_ok (tab_nil fls_fun)))))) Tryd.func13 (fun args w => by simp)).imp fun xs h k e0 => by
  obtain ⟨a0, xs0, rfl, e1⟩ := arg_imp e0
  obtain ⟨a1, xs1, rfl, e2⟩ := arg_imp e1
  obtain ⟨a2, xs2, rfl, e3⟩ := arg_imp e2
  obtain ⟨rfl, e4⟩ := noArg_imp e3
  obtain ⟨a1, rfl, e5⟩ := asI_iff.1 e4
  obtain ⟨a2, rfl, e6⟩ := asI_iff.1 e5
  exact (s13_eq J0 s32 s33 s34 s35 a0 a1 a2 h k).mpr e6
/-- (*stagepost/wal.Wal).asked -/
noncomputable def s36G (J : Joins) (c32 : AV → H → (Int → H → Prop) → Prop) (a0 : AV) (h : H) (k : Int → H → Prop) : Prop :=
nilB 0 a0 fun b1 =>
J.jn (fun v2 h3 =>
J.jn (fun v5 h6 =>
J.jn (fun v8 h9 =>
J.jn (fun v12 h13 =>
J.jn (fun v16 h17 =>
pickB (AV.bool b1) (AV.bool true) v16 fun b21 =>
br b21 (
k (Int.ofNat 1) h17) (
okNil a0 (
faK 3 a0 fun p22 =>
ldB p22 h17 fun b23 =>
J.jn (fun v24 h25 =>
J.jn (fun v27 h28 =>
J.jn (fun v30 h31 =>
J.jn (fun v34 h35 =>
J.jn (fun v38 h39 =>
J.jn (fun v43 h44 =>
pickB (AV.bool b23) (AV.bool true) v43 fun b48 =>
br b48 (
okNil a0 (
faK 3 a0 fun p49 =>
stV p49 (AV.bool true) h44 fun h50 =>
k (Int.ofNat 7) h50)) (
k (Int.ofNat 0) h44)) fun j45 =>
br b23 (
j45 skipV h39) (
asI .i64 v38 fun x46 =>
fB (Bool.not (eqI x46 (Int.ofNat 0))) fun b47 =>
j45 (AV.bool b47) h39)) fun j40 =>
br b23 (
j40 skipV h35) (
c32 v34 h35 fun x42 h41 =>
j40 (AV.int .i64 x42) h41)) fun j36 =>
br b23 (
j36 skipV h31) (
ldV v30 h31 fun v37 =>
j36 v37 h31)) fun j32 =>
br b23 (
j32 skipV h28) (
faK 0 v27 fun p33 =>
j32 p33 h28)) fun j29 =>
br b23 (
j29 skipV h25) (
okNil v24 (
j29 v24 h25))) fun j26 =>
br b23 (
j26 skipV h17) (
j26 a0 h17)))) fun j18 =>
br b1 (
j18 skipV h13) (
asB v12 fun b19 =>
fB (Bool.not b19) fun b20 =>
j18 (AV.bool b20) h13)) fun j14 =>
br b1 (
j14 skipV h9) (
ldB v8 h9 fun b15 =>
j14 (AV.bool b15) h9)) fun j10 =>
br b1 (
j10 skipV h6) (
faK 4 v5 fun p11 =>
j10 p11 h6)) fun j7 =>
br b1 (
j7 skipV h3) (
okNil v2 (
j7 v2 h3))) fun j4 =>
br b1 (
j4 skipV h) (
j4 a0 h)
noncomputable def s36 : AV → H → (Int → H → Prop) → Prop := s36G J0 s32
noncomputable def w36 (c : AV → H → (Int → H → Prop) → Prop) : Fun := fun xs h k => arg xs fun a0 xs => noArg xs <| c a0 h fun r0 h => k (.int .i64 r0) h
theorem s36_eq (J : Joins) (c32 : AV → H → (Int → H → Prop) → Prop) (a0 : AV) (h : H) (k : AV → H → Prop) : denF ty (gam J [(32, w32 c32)]) Tryd.f36 [a0] h k = s36G J c32 a0 h (fun r0 h => k (.int .i64 r0) h) := by kernel_rfl
noncomputable def g36 : Fun := w36 s36
theorem g36_ok : FunOk Tryd.prog 36 g36 := (fun_ok ty_ok mixed (gam_ok (J := J0) (tab_cons g32_ok (tab_nil fls_fun))) Tryd.func36 (fun args w => by simp)).imp fun xs h k e0 => by
  obtain ⟨a0, xs0, rfl, e1⟩ := arg_imp e0
  obtain ⟨rfl, e2⟩ := noArg_imp e1
  exact (s36_eq J0 s32 a0 h k).mpr e2
/-- stagepost/frame.Append -/
noncomputable def s37G (J : Joins) (c60 : AV → H → (AV → H → Prop) → Prop) (a0 : AV) (a1 : AV) (h : H) (k : AV → Int → H → Prop) : Prop :=
lenK a1 fun x1 =>
fB (ltI (Int.ofNat 1048576) (Int.ofNat x1)) fun b2 =>
br b2 (
k AV.nils (Int.ofNat 3) h) (
apB (.slice 5) 5 AV.nils a0 h fun v3 h4 =>
fI (wrapF .u8 (Int.ofNat x1)) fun x5 =>
fI (shrF (Int.ofNat x1) (nmin 8 (IntKind.bits .i64))) fun x6 =>
fI (wrapF .u8 x6) fun x7 =>
fI (shrF (Int.ofNat x1) (nmin 16 (IntKind.bits .i64))) fun x8 =>
fI (wrapF .u8 x8) fun x9 =>
fI (shrF (Int.ofNat x1) (nmin 24 (IntKind.bits .i64))) fun x10 =>
fI (wrapF .u8 x10) fun x11 =>
op' (asRow true 5 [(AV.int .u8 x5), (AV.int .u8 x7), (AV.int .u8 x9), (AV.int .u8 x11)]) fun k14 =>
pushK k14 h4 fun n12 h13 =>
c60 (AV.slice n12 0 4 4 1 true) h13 fun v16 h15 =>
apB (.slice 5) 5 v3 v16 h15 fun v17 h18 =>
c60 a1 h18 fun v20 h19 =>
apB (.slice 5) 5 v17 v20 h19 fun v21 h22 =>
k v21 (Int.ofNat 0) h22)
noncomputable def s37 : AV → AV → H → (AV → Int → H → Prop) → Prop := s37G J0 s60
noncomputable def w37 (c : AV → AV → H → (AV → Int → H → Prop) → Prop) : Fun := fun xs h k => arg xs fun a0 xs => arg xs fun a1 xs => noArg xs <| c a0 a1 h fun r0 r1 h => k (.tuple [r0, (.int .i64 r1)]) h
theorem s37_eq (J : Joins) (c60 : AV → H → (AV → H → Prop) → Prop) (a0 : AV) (a1 : AV) (h : H) (k : AV → H → Prop) : denF ty (gam J [(60, w60 c60)]) Tryd.f37 [a0, a1] h k = s37G J c60 a0 a1 h (fun r0 r1 h => k (.tuple [r0, (.int .i64 r1)]) h) := by kernel_rfl
noncomputable def g37 : Fun := w37 s37
theorem g37_ok : FunOk Tryd.prog 37 g37 := (fun_ok ty_ok mixed (gam_ok (J := J0) (tab_cons g60_ok (tab_nil fls_fun))) Tryd.func37 (fun args w => by simp)).imp fun xs h k e0 => by
  obtain ⟨a0, xs0, rfl, e1⟩ := arg_imp e0
  obtain ⟨a1, xs1, rfl, e2⟩ := arg_imp e1
  obtain ⟨rfl, e3⟩ := noArg_imp e2
  exact (s37_eq J0 s60 a0 a1 h k).mpr e3
/-- (*stagepost/vfs.FS).Left -/
noncomputable def s61G (J : Joins) (c42 : AV → AV → H → (Int → H → Prop) → Prop) (c46 : AV → H → (AV → H → Prop) → Prop) (a0 : AV) (h : H) (k : Int → H → Prop) : Prop :=
c42 a0 AV.nils h fun x2 h1 =>
fB (Bool.not (eqI x2 (Int.ofNat 0))) fun b3 =>
br b3 (
k (Int.ofNat 0) h1) (
okNil a0 (
faK 3 a0 fun p4 =>
ldI .i64 p4 h1 fun x5 =>
pushK (.cells false 76 [(.nilm), (.nilm)]) h1 fun n6 h7 =>
c46 a0 h7 fun v9 h8 =>
ck (readsSo (aLoad1 p4 h8) (AV.int .i64 x5)) (
Go.Am.asAgg v9 fun l11 =>
stN 2 (AV.ptr n6 0) l11 h8 fun h10 =>
ck (readsSo (aLoad1 p4 h10) (AV.int .i64 x5)) (
ldV (AV.ptr n6 1) h10 fun v12 =>
aRangeK v12 h10 fun v13 h14 =>
J.lp (α := AV × AV × AV × Unit) (fun r18 v15 d16 h17 =>
aNext v15.2.2.1 h17 fun v19 h20 =>
asTup v19 fun l21 =>
op' (lgetO l21 0) fun v22 =>
asB v22 fun b23 =>
br b23 (
op' (aEntry v15.2.2.1 h20) fun v24 =>
asTup v24 fun l25 =>
op' (lgetO l25 1) fun v26 =>
asI .i64 v26 fun x27 =>
faK 0 v15.1 fun p28 =>
ldV p28 h20 fun v29 =>
op' (aLookup ty 3 22 false v29 (AV.int .i64 x27) h20) fun v30 =>
lenK v30 fun x31 =>
asI .i64 v15.2.1 fun x32 =>
fI (wrapF .i64 (Int.sub x32 (Int.ofNat x31))) fun x33 =>
r18 (v15.1, (AV.int .i64 x33), v15.2.2.1, ()) d16 h20) (
leaveK (gam J [(42, w42 c42), (46, w46 c46)]) d16 h20 fun h34 =>
asI .i64 v15.2.1 fun x35 =>
k x35 h34)) ((AV.ptr n6 0), (AV.int .i64 x5), v13, ()) [] h14))))
noncomputable def s61 : AV → H → (Int → H → Prop) → Prop := s61G J0 s42 s46
noncomputable def w61 (c : AV → H → (Int → H → Prop) → Prop) : Fun := fun xs h k => arg xs fun a0 xs => noArg xs <| c a0 h fun r0 h => k (.int .i64 r0) h
theorem s61_eq (J : Joins) (c42 : AV → AV → H → (Int → H → Prop) → Prop) (c46 : AV → H → (AV → H → Prop) → Prop) (a0 : AV) (h : H) (k : AV → H → Prop) : denF ty (gam J [(42, w42 c42), (46, w46 c46)]) Tryd.f61 [a0] h k = s61G J c42 c46 a0 h (fun r0 h => k (.int .i64 r0) h) := by kernel_rfl
noncomputable def g61 : Fun := w61 s61
theorem g61_ok : FunOk Tryd.prog 61 g61 := (fun_ok ty_ok mixed (gam_ok (J := J0) (tab_cons g42_ok (tab_cons g46_ok (tab_nil fls_fun)))) Tryd.func61 (fun args w => by simp)).imp fun xs h k e0 => by
  obtain ⟨a0, xs0, rfl, e1⟩ := arg_imp e0
  obtain ⟨rfl, e2⟩ := noArg_imp e1
  exact (s61_eq J0 s42 s46 a0 h k).mpr e2
end Go.Proofs.YtnjiokmleoimgaaDoor
