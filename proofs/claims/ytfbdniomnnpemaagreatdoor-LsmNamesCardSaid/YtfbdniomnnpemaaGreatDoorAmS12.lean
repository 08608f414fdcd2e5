/- Functions as they are reckoned. MADE BY PROGRAM (wip/tools/shal.py). -/
import Derived.Test.YtfbdniomnnpemaaGreatDoorAmS11
namespace Go.Proofs.YtfbdniomnnpemaaGreatDoor
open Go Go.Am
set_option maxRecDepth 100000
set_option linter.all false
/-- stagepost/wal.Open -/
noncomputable def g61 : Fun := denFS ty (gam J0 [(94, g94), (120, g120), (121, g121), (122, g122)]) Tryz.f61
theorem g61_ok : FunOk Tryz.prog 61 g61 := fun_okS ty_ok mixed (gam_ok (J := J0) (tab_cons g94_ok (tab_cons g120_ok (tab_cons g121_ok (tab_cons g122_ok (tab_nil fls_fun)))))) Tryz.func61 (fun args w => by simp)
/-- internal/stringslite.CutPrefix -/
noncomputable def g185 : Fun := denFS ty (gam J0 [(208, g208)]) Tryz.f185
theorem g185_ok : FunOk Tryz.prog 185 g185 := fun_okS ty_ok mixed (gam_ok (J := J0) (tab_cons g208_ok (tab_nil fls_fun))) Tryz.func185 (fun args w => by simp)
/-- strings.CutPrefix -/
noncomputable def g126 : Fun := denFS ty (gam J0 [(185, g185)]) Tryz.f126
theorem g126_ok : FunOk Tryz.prog 126 g126 := fun_okS ty_ok mixed (gam_ok (J := J0) (tab_cons g185_ok (tab_nil fls_fun))) Tryz.func126 (fun args w => by simp)
/-- stagepost/lsm.number -/
noncomputable def s63G (J : Joins) (c126 : Fun) (c127 : Str → H → (Int → AV → H → Prop) → Prop) (a0 : Str) (a1 : Str) (h : H) (k : Int → Bool → H → Prop) : Prop :=
c126 [(AV.str a0), (AV.str a1)] h fun v1 h2 =>
asTup v1 fun l3 =>
op' (lgetO l3 0) fun v4 =>
asS v4 fun s5 =>
asTup v1 fun l6 =>
op' (lgetO l6 1) fun v7 =>
asB v7 fun b8 =>
c127 s5 h2 fun x10 v11 h9 =>
J.jn (fun v12 h13 =>
J.jn (fun v15 h16 =>
pickB (AV.bool b8) v15 (AV.bool false) fun b19 =>
J.jn (fun v20 h21 =>
J.jn (fun v23 h24 =>
J.jn (fun v27 h28 =>
pickB (AV.bool b19) v27 (AV.bool false) fun b32 =>
J.jn (fun v33 h34 =>
J.jn (fun v36 h37 =>
pickB (AV.bool b32) v36 (AV.bool false) fun b41 =>
J.jn (fun v42 h43 =>
J.jn (fun v45 h46 =>
J.jn (fun v49 h50 =>
pickB (AV.bool b41) v49 (AV.bool false) fun b54 =>
J.jn (fun v55 h56 =>
J.jn (fun v58 h59 =>
J.jn (fun v62 h63 =>
pickB (AV.bool b54) v62 (AV.bool false) fun b67 =>
k x10 b67 h63) fun j64 =>
br b54 (
asI .u8 v58 fun x65 =>
fB (Bool.not (eqI x65 (Int.ofNat 45))) fun b66 =>
j64 (AV.bool b66) h59) (
j64 skipV h59)) fun j60 =>
br b54 (
ixsK v55 (AV.int .i64 (Int.ofNat 0)) fun x61 =>
j60 (AV.int .u8 x61) h56) (
j60 skipV h56)) fun j57 =>
br b54 (
j57 (AV.str s5) h50) (
j57 skipV h50)) fun j51 =>
br b41 (
asI .u8 v45 fun x52 =>
fB (Bool.not (eqI x52 (Int.ofNat 43))) fun b53 =>
j51 (AV.bool b53) h46) (
j51 skipV h46)) fun j47 =>
br b41 (
ixsK v42 (AV.int .i64 (Int.ofNat 0)) fun x48 =>
j47 (AV.int .u8 x48) h43) (
j47 skipV h43)) fun j44 =>
br b41 (
j44 (AV.str s5) h37) (
j44 skipV h37)) fun j38 =>
br b32 (
asI .i64 v33 fun x39 =>
fB (Bool.not (ltI x39 (Int.ofNat 0))) fun b40 =>
j38 (AV.bool b40) h34) (
j38 skipV h34)) fun j35 =>
br b32 (
j35 (AV.int .i64 x10) h28) (
j35 skipV h28)) fun j29 =>
br b19 (
asI .i64 v23 fun x30 =>
fB (eqI x30 (Int.ofNat 6)) fun b31 =>
j29 (AV.bool b31) h24) (
j29 skipV h24)) fun j25 =>
br b19 (
asS v20 fun s26 =>
j25 (AV.int .i64 (Int.ofNat s26.len)) h21) (
j25 skipV h21)) fun j22 =>
br b19 (
j22 (AV.str s5) h16) (
j22 skipV h16)) fun j17 =>
br b8 (
nilB 10 v12 fun b18 =>
j17 (AV.bool b18) h13) (
j17 skipV h13)) fun j14 =>
br b8 (
j14 v11 h9) (
j14 skipV h9)
noncomputable def s63 : Str → Str → H → (Int → Bool → H → Prop) → Prop := s63G J0 g126 s127
noncomputable def w63 (c : Str → Str → H → (Int → Bool → H → Prop) → Prop) : Fun := fun xs h k => arg xs fun a0 xs => arg xs fun a1 xs => noArg xs <| asS a0 fun a0 => asS a1 fun a1 => c a0 a1 h fun r0 r1 h => k (.tuple [(.int .i64 r0), (.bool r1)]) h
theorem s63_eq (J : Joins) (c126 : Fun) (c127 : Str → H → (Int → AV → H → Prop) → Prop) (a0 : Str) (a1 : Str) (h : H) (k : AV → H → Prop) : denF ty (gam J [(126, c126), (127, w127 c127)]) Tryz.f63 [(.str a0), (.str a1)] h k = s63G J c126 c127 a0 a1 h (fun r0 r1 h => k (.tuple [(.int .i64 r0), (.bool r1)]) h) := by kernel_rfl
noncomputable def g63 : Fun := w63 s63
theorem g63_ok : FunOk Tryz.prog 63 g63 := (fun_ok ty_ok mixed (gam_ok (J := J0) (tab_cons g126_ok (tab_cons g127_ok (tab_nil fls_fun)))) Tryz.func63 (fun args w => by simp)).imp fun xs h k e0 => by
  obtain ⟨a0, xs0, rfl, e1⟩ := arg_imp e0
  obtain ⟨a1, xs1, rfl, e2⟩ := arg_imp e1
  obtain ⟨rfl, e3⟩ := noArg_imp e2
  obtain ⟨a0, rfl, e4⟩ := asS_iff.1 e3
  obtain ⟨a1, rfl, e5⟩ := asS_iff.1 e4
  exact (s63_eq J0 g126 s127 a0 a1 h k).mpr e5
/-- stagepost/lsm.Open -/
noncomputable def g17 : Fun := denFS ty (gam J0 [(26, g26), (29, g29), (37, g37), (46, g46), (54, g54), (56, g56), (57, g57), (58, g58), (59, g59), (60, g60), (61, g61), (62, g62), (63, g63)]) Tryz.f17
theorem g17_ok : FunOk Tryz.prog 17 g17 := fun_okS ty_ok mixed (gam_ok (J := J0) (tab_cons g26_ok (tab_cons g29_ok (tab_cons g37_ok (tab_cons g46_ok (tab_cons g54_ok (tab_cons g56_ok (tab_cons g57_ok (tab_cons g58_ok (tab_cons g59_ok (tab_cons g60_ok (tab_cons g61_ok (tab_cons g62_ok (tab_cons g63_ok (tab_nil fls_fun))))))))))))))) Tryz.func17 (fun args w => by simp)
/-- stagepost/stagepostlaw11.set -/
noncomputable def g18 : Fun := denFS ty (gam J0 []) Tryz.f18
theorem g18_ok : FunOk Tryz.prog 18 g18 := fun_okS ty_ok mixed (gam_ok (J := J0) (tab_nil fls_fun)) Tryz.func18 (fun args w => by simp)
/-- stagepost/wal.text -/
noncomputable def g130 : Fun := denFS ty (gam J0 [(129, g129)]) Tryz.f130
theorem g130_ok : FunOk Tryz.prog 130 g130 := fun_okS ty_ok mixed (gam_ok (J := J0) (tab_cons g129_ok (tab_nil fls_fun))) Tryz.func130 (fun args w => by simp)
/-- stagepost/wal.Encode -/
noncomputable def g71 : Fun := denFS ty (gam J0 [(70, g70), (129, g129), (130, g130)]) Tryz.f71
theorem g71_ok : FunOk Tryz.prog 71 g71 := fun_okS ty_ok mixed (gam_ok (J := J0) (tab_cons g70_ok (tab_cons g129_ok (tab_cons g130_ok (tab_nil fls_fun))))) Tryz.func71 (fun args w => by simp)
/-- (*stagepost/wal.Wal).Append -/
noncomputable def g24 : Fun := denFS ty (gam J0 [(69, g69), (70, g70), (71, g71), (72, g72), (73, g73), (74, g74), (75, g75), (76, g76)]) Tryz.f24
theorem g24_ok : FunOk Tryz.prog 24 g24 := fun_okS ty_ok mixed (gam_ok (J := J0) (tab_cons g69_ok (tab_cons g70_ok (tab_cons g71_ok (tab_cons g72_ok (tab_cons g73_ok (tab_cons g74_ok (tab_cons g75_ok (tab_cons g76_ok (tab_nil fls_fun)))))))))) Tryz.func24 (fun args w => by simp)
/-- (*stagepost/lsm.Store).Apply -/
noncomputable def g5 : Fun := denFS ty (gam J0 [(23, g23), (24, g24), (25, g25), (26, g26)]) Tryz.f5
theorem g5_ok : FunOk Tryz.prog 5 g5 := fun_okS ty_ok mixed (gam_ok (J := J0) (tab_cons g23_ok (tab_cons g24_ok (tab_cons g25_ok (tab_cons g26_ok (tab_nil fls_fun)))))) Tryz.func5 (fun args w => by simp)
/-- stagepost/vfs.New -/
noncomputable def g64 : Fun := denFS ty (gam J0 []) Tryz.f64
theorem g64_ok : FunOk Tryz.prog 64 g64 := fun_okS ty_ok mixed (gam_ok (J := J0) (tab_nil fls_fun)) Tryz.func64 (fun args w => by simp)
/-- stagepost/stagepostlaw11.put -/
noncomputable def g65 : Fun := denFS ty (gam J0 []) Tryz.f65
theorem g65_ok : FunOk Tryz.prog 65 g65 := fun_okS ty_ok mixed (gam_ok (J := J0) (tab_nil fls_fun)) Tryz.func65 (fun args w => by simp)
/-- stagepost/stagepostlaw11.del -/
noncomputable def g66 : Fun := denFS ty (gam J0 []) Tryz.f66
theorem g66_ok : FunOk Tryz.prog 66 g66 := fun_okS ty_ok mixed (gam_ok (J := J0) (tab_nil fls_fun)) Tryz.func66 (fun args w => by simp)
/-- stagepost/stagepostlaw11.example -/
noncomputable def g20 : Fun := denFS ty (gam J0 [(5, g5), (17, g17), (18, g18), (64, g64), (65, g65), (66, g66)]) Tryz.f20
theorem g20_ok : FunOk Tryz.prog 20 g20 := fun_okS ty_ok mixed (gam_ok (J := J0) (tab_cons g5_ok (tab_cons g17_ok (tab_cons g18_ok (tab_cons g64_ok (tab_cons g65_ok (tab_cons g66_ok (tab_nil fls_fun)))))))) Tryz.func20 (fun args w => by simp)
/-- stagepost/stagepostlaw11.lives -/
noncomputable def g19 : Fun := denFS ty (gam J0 [(6, g6), (12, g12), (20, g20)]) Tryz.f19
theorem g19_ok : FunOk Tryz.prog 19 g19 := fun_okS ty_ok mixed (gam_ok (J := J0) (tab_cons g6_ok (tab_cons g12_ok (tab_cons g20_ok (tab_nil fls_fun))))) Tryz.func19 (fun args w => by simp)
/-- stagepost/stagepostkit.SameKVs -/
noncomputable def g21 : Fun := denFS ty (gam J0 []) Tryz.f21
theorem g21_ok : FunOk Tryz.prog 21 g21 := fun_okS ty_ok mixed (gam_ok (J := J0) (tab_nil fls_fun)) Tryz.func21 (fun args w => by simp)
/-- (*stagepost/vfs.FS).Crash -/
noncomputable def s22G (J : Joins) (c67 : AV → AV → H → (H → Prop) → Prop) (a0 : AV) (a1 : Int) (a2 : Int) (h : H) (k : Int → H → Prop) : Prop :=
nilB 0 a0 fun b1 =>
J.jn (fun v2 h3 =>
J.jn (fun v5 h6 =>
J.jn (fun v8 h9 =>
J.jn (fun v12 h13 =>
J.jn (fun v16 h17 =>
pickB (AV.bool b1) (AV.bool true) v16 fun b21 =>
br b21 (
k (Int.ofNat 1) h17) (
fB (ltI a1 (Int.ofNat 0)) fun b22 =>
J.jn (fun v23 h24 =>
J.jn (fun v26 h27 =>
pickB (AV.bool b22) (AV.bool true) v26 fun b31 =>
br b31 (
k (Int.ofNat 2) h27) (
J.jd (α := AV × Unit) (fun v32 d33 h34 =>
okNil v32.1 (
faK 2 v32.1 fun p36 =>
stV p36 AV.nils h34 fun h37 =>
okNil v32.1 (
faK 6 v32.1 fun p38 =>
stV p38 (AV.bool false) h37 fun h39 =>
okNil v32.1 (
faK 5 v32.1 fun p40 =>
stV p40 (AV.bool false) h39 fun h41 =>
pushK (.smap []) h41 fun n42 h43 =>
okNil v32.1 (
faK 0 v32.1 fun p44 =>
faK 1 p44 fun p45 =>
ldV p45 h43 fun v46 =>
aRangeK v46 h43 fun v47 h48 =>
J.lp (α := AV × AV × AV × Unit) (fun r52 v49 d50 h51 =>
aNext v49.2.2.1 h51 fun v53 h54 =>
asTup v53 fun l55 =>
op' (lgetO l55 0) fun v56 =>
asB v56 fun b57 =>
br b57 (
op' (aEntry v49.2.2.1 h54) fun v58 =>
asTup v58 fun l59 =>
op' (lgetO l59 1) fun v60 =>
asI .i64 v60 fun x61 =>
okNil v49.1 (
faK 0 v49.1 fun p62 =>
faK 0 p62 fun p63 =>
ldV p63 h54 fun v64 =>
op' (aLookup ty 3 117 false v64 (AV.int .i64 x61) h54) fun v65 =>
op' (mapBlk ty 3 v49.2.1 (AV.int .i64 x61) v65 h54) fun k66 =>
putK k66.1 k66.2 h54 fun h67 =>
r52 (v49.1, v49.2.1, v49.2.2.1, ()) d50 h67)) (
okNil v49.1 (
faK 0 v49.1 fun p68 =>
faK 0 p68 fun p69 =>
stV p69 v49.2.1 h54 fun h70 =>
leaveK (gam J [(67, w67 c67)]) d50 h70 fun h71 =>
k (Int.ofNat 0) h71))) (v32.1, (AV.map n42), v47, ()) d33 h48))))) fun j35 =>
okNil a0 (
faK 2 a0 fun p72 =>
ldV p72 h27 fun v73 =>
lenK v73 fun x74 =>
J.lp (α := AV × AV × AV × AV × AV × AV × Unit) (fun r78 v75 d76 h77 =>
asI .i64 v75.2.2.2.2.2.1 fun x79 =>
asI .i64 v75.2.2.2.2.1 fun x80 =>
fB (ltI x79 x80) fun b81 =>
br b81 (
ixK 5 v75.2.2.2.1 v75.2.2.2.2.2.1 fun p82 =>
ldN 5 p82 h77 fun l83 =>
pushK (.cells false 142 [(.int .i64 0), (.str ⟨0, 0⟩), (.str ⟨0, 0⟩), (.int .i64 0), (.nils)]) h77 fun n84 h85 =>
stN 5 (AV.ptr n84 0) l83 h85 fun h86 =>
J.jd (α := AV × AV × AV × AV × AV × AV × AV × AV × Unit) (fun v87 d88 h89 =>
asI .i64 v87.2.2.2.1 fun x91 =>
asI .i64 v87.2.1 fun x92 =>
fB (Bool.not (ltI x91 x92)) fun b93 =>
br b93 (
j35 (v87.1, ()) d88 h89) (
okNil v87.1 (
faK 0 v87.1 fun p94 =>
ldN 2 p94 h89 fun l95 =>
ldN 5 v87.2.2.2.2.1 h89 fun l96 =>
c67 (AV.agg l95) (AV.agg l96) h89 fun  h97 =>
asI .i64 v87.2.2.2.2.2.2.2.1 fun x98 =>
fI (wrapF .i64 (Int.add x98 (Int.ofNat 1))) fun x99 =>
r78 (v87.1, v87.2.1, v87.2.2.1, v87.2.2.2.2.2.1, v87.2.2.2.2.2.2.1, (AV.int .i64 x99), ()) d88 h97))) fun j90 =>
asI .i64 v75.2.2.2.2.2.1 fun x100 =>
asI .i64 v75.2.1 fun x101 =>
fB (eqI x100 x101) fun b102 =>
J.jn (fun v103 h104 =>
J.jn (fun v106 h107 =>
J.jn (fun v110 h111 =>
pickB (AV.bool b102) v110 (AV.bool false) fun b115 =>
br b115 (
ldV (AV.ptr n84 4) h111 fun v116 =>
ldV (AV.ptr n84 4) h111 fun v117 =>
lenK v117 fun x118 =>
fI (wrapF .i64 (Int.sub (Int.ofNat x118) (Int.ofNat 1))) fun x119 =>
op' (aMin v75.2.2.1 (AV.int .i64 x119)) fun v120 =>
asI .i64 v120 fun x121 =>
slK 1 v116 none (some (AV.int .i64 x121)) fun v122 =>
stV (AV.ptr n84 4) v122 h111 fun h123 =>
okNil v75.1 (
faK 0 v75.1 fun p124 =>
ldN 2 p124 h123 fun l125 =>
ldN 5 (AV.ptr n84 0) h123 fun l126 =>
c67 (AV.agg l125) (AV.agg l126) h123 fun  h127 =>
j90 (v75.1, v75.2.1, v75.2.2.1, v75.2.2.2.2.2.1, (AV.ptr n84 0), v75.2.2.2.1, v75.2.2.2.2.1, v75.2.2.2.2.2.1, ()) d76 h127)) (
j90 (v75.1, v75.2.1, v75.2.2.1, v75.2.2.2.2.2.1, (AV.ptr n84 0), v75.2.2.2.1, v75.2.2.2.2.1, v75.2.2.2.2.2.1, ()) d76 h111)) fun j112 =>
br b102 (
asI .i64 v106 fun x113 =>
fB (eqI x113 (Int.ofNat 0)) fun b114 =>
j112 (AV.bool b114) h107) (
j112 skipV h107)) fun j108 =>
br b102 (
ldI .i64 v103 h104 fun x109 =>
j108 (AV.int .i64 x109) h104) (
j108 skipV h104)) fun j105 =>
br b102 (
j105 (AV.ptr n84 0) h86) (
j105 skipV h86)) (
j35 (v75.1, ()) d76 h77)) (a0, (AV.int .i64 a1), (AV.int .i64 a2), v73, (AV.int .i64 (Int.ofNat x74)), (AV.int .i64 (Int.ofNat 0)), ()) [] h27))) fun j28 =>
br b22 (
j28 skipV h24) (
asI .i64 v23 fun x29 =>
fB (ltI x29 (Int.ofNat 0)) fun b30 =>
j28 (AV.bool b30) h24)) fun j25 =>
br b22 (
j25 skipV h17) (
j25 (AV.int .i64 a2) h17))) fun j18 =>
br b1 (
j18 skipV h13) (
asB v12 fun b19 =>
fB (Bool.not b19) fun b20 =>
j18 (AV.bool b20) h13)) fun j14 =>
br b1 (
j14 skipV h9) (
ldB v8 h9 fun b15 =>
j14 (AV.bool b15) h9)) fun j10 =>
br b1 (
j10 skipV h6) (
faK 9 v5 fun p11 =>
j10 p11 h6)) fun j7 =>
br b1 (
j7 skipV h3) (
okNil v2 (
j7 v2 h3))) fun j4 =>
br b1 (
j4 skipV h) (
j4 a0 h)
noncomputable def s22R (J : Joins) (c67 : AV → AV → H → (H → Prop) → Prop) (k : Int → H → Prop) (v32 : AV × Unit) (d33 : List Dfr) (h34 : H) : Prop :=
okNil v32.1 (
faK 2 v32.1 fun p36 =>
stV p36 AV.nils h34 fun h37 =>
okNil v32.1 (
faK 6 v32.1 fun p38 =>
stV p38 (AV.bool false) h37 fun h39 =>
okNil v32.1 (
faK 5 v32.1 fun p40 =>
stV p40 (AV.bool false) h39 fun h41 =>
pushK (.smap []) h41 fun n42 h43 =>
okNil v32.1 (
faK 0 v32.1 fun p44 =>
faK 1 p44 fun p45 =>
ldV p45 h43 fun v46 =>
aRangeK v46 h43 fun v47 h48 =>
J.lp (α := AV × AV × AV × Unit) (fun r52 v49 d50 h51 =>
aNext v49.2.2.1 h51 fun v53 h54 =>
asTup v53 fun l55 =>
op' (lgetO l55 0) fun v56 =>
asB v56 fun b57 =>
br b57 (
op' (aEntry v49.2.2.1 h54) fun v58 =>
asTup v58 fun l59 =>
op' (lgetO l59 1) fun v60 =>
asI .i64 v60 fun x61 =>
okNil v49.1 (
faK 0 v49.1 fun p62 =>
faK 0 p62 fun p63 =>
ldV p63 h54 fun v64 =>
op' (aLookup ty 3 117 false v64 (AV.int .i64 x61) h54) fun v65 =>
op' (mapBlk ty 3 v49.2.1 (AV.int .i64 x61) v65 h54) fun k66 =>
putK k66.1 k66.2 h54 fun h67 =>
r52 (v49.1, v49.2.1, v49.2.2.1, ()) d50 h67)) (
okNil v49.1 (
faK 0 v49.1 fun p68 =>
faK 0 p68 fun p69 =>
stV p69 v49.2.1 h54 fun h70 =>
leaveK (gam J [(67, w67 c67)]) d50 h70 fun h71 =>
k (Int.ofNat 0) h71))) (v32.1, (AV.map n42), v47, ()) d33 h48))))
noncomputable def s22H (J : Joins) (c67 : AV → AV → H → (H → Prop) → Prop) (R : AV × Unit → List Dfr → H → Prop) (a0 : AV) (a1 : Int) (a2 : Int) (h : H) (k : Int → H → Prop) : Prop :=
nilB 0 a0 fun b1 =>
J.jn (fun v2 h3 =>
J.jn (fun v5 h6 =>
J.jn (fun v8 h9 =>
J.jn (fun v12 h13 =>
J.jn (fun v16 h17 =>
pickB (AV.bool b1) (AV.bool true) v16 fun b21 =>
br b21 (
k (Int.ofNat 1) h17) (
fB (ltI a1 (Int.ofNat 0)) fun b22 =>
J.jn (fun v23 h24 =>
J.jn (fun v26 h27 =>
pickB (AV.bool b22) (AV.bool true) v26 fun b31 =>
br b31 (
k (Int.ofNat 2) h27) (
J.jd (α := AV × Unit) (fun v32 d33 h34 =>
R v32 d33 h34) fun j35 =>
okNil a0 (
faK 2 a0 fun p72 =>
ldV p72 h27 fun v73 =>
lenK v73 fun x74 =>
J.lp (α := AV × AV × AV × AV × AV × AV × Unit) (fun r78 v75 d76 h77 =>
asI .i64 v75.2.2.2.2.2.1 fun x79 =>
asI .i64 v75.2.2.2.2.1 fun x80 =>
fB (ltI x79 x80) fun b81 =>
br b81 (
ixK 5 v75.2.2.2.1 v75.2.2.2.2.2.1 fun p82 =>
ldN 5 p82 h77 fun l83 =>
pushK (.cells false 142 [(.int .i64 0), (.str ⟨0, 0⟩), (.str ⟨0, 0⟩), (.int .i64 0), (.nils)]) h77 fun n84 h85 =>
stN 5 (AV.ptr n84 0) l83 h85 fun h86 =>
J.jd (α := AV × AV × AV × AV × AV × AV × AV × AV × Unit) (fun v87 d88 h89 =>
asI .i64 v87.2.2.2.1 fun x91 =>
asI .i64 v87.2.1 fun x92 =>
fB (Bool.not (ltI x91 x92)) fun b93 =>
br b93 (
j35 (v87.1, ()) d88 h89) (
okNil v87.1 (
faK 0 v87.1 fun p94 =>
ldN 2 p94 h89 fun l95 =>
ldN 5 v87.2.2.2.2.1 h89 fun l96 =>
c67 (AV.agg l95) (AV.agg l96) h89 fun  h97 =>
asI .i64 v87.2.2.2.2.2.2.2.1 fun x98 =>
fI (wrapF .i64 (Int.add x98 (Int.ofNat 1))) fun x99 =>
r78 (v87.1, v87.2.1, v87.2.2.1, v87.2.2.2.2.2.1, v87.2.2.2.2.2.2.1, (AV.int .i64 x99), ()) d88 h97))) fun j90 =>
asI .i64 v75.2.2.2.2.2.1 fun x100 =>
asI .i64 v75.2.1 fun x101 =>
fB (eqI x100 x101) fun b102 =>
J.jn (fun v103 h104 =>
J.jn (fun v106 h107 =>
J.jn (fun v110 h111 =>
pickB (AV.bool b102) v110 (AV.bool false) fun b115 =>
br b115 (
ldV (AV.ptr n84 4) h111 fun v116 =>
ldV (AV.ptr n84 4) h111 fun v117 =>
lenK v117 fun x118 =>
fI (wrapF .i64 (Int.sub (Int.ofNat x118) (Int.ofNat 1))) fun x119 =>
op' (aMin v75.2.2.1 (AV.int .i64 x119)) fun v120 =>
asI .i64 v120 fun x121 =>
slK 1 v116 none (some (AV.int .i64 x121)) fun v122 =>
stV (AV.ptr n84 4) v122 h111 fun h123 =>
okNil v75.1 (
faK 0 v75.1 fun p124 =>
ldN 2 p124 h123 fun l125 =>
ldN 5 (AV.ptr n84 0) h123 fun l126 =>
c67 (AV.agg l125) (AV.agg l126) h123 fun  h127 =>
j90 (v75.1, v75.2.1, v75.2.2.1, v75.2.2.2.2.2.1, (AV.ptr n84 0), v75.2.2.2.1, v75.2.2.2.2.1, v75.2.2.2.2.2.1, ()) d76 h127)) (
j90 (v75.1, v75.2.1, v75.2.2.1, v75.2.2.2.2.2.1, (AV.ptr n84 0), v75.2.2.2.1, v75.2.2.2.2.1, v75.2.2.2.2.2.1, ()) d76 h111)) fun j112 =>
br b102 (
asI .i64 v106 fun x113 =>
fB (eqI x113 (Int.ofNat 0)) fun b114 =>
j112 (AV.bool b114) h107) (
j112 skipV h107)) fun j108 =>
br b102 (
ldI .i64 v103 h104 fun x109 =>
j108 (AV.int .i64 x109) h104) (
j108 skipV h104)) fun j105 =>
br b102 (
j105 (AV.ptr n84 0) h86) (
j105 skipV h86)) (
j35 (v75.1, ()) d76 h77)) (a0, (AV.int .i64 a1), (AV.int .i64 a2), v73, (AV.int .i64 (Int.ofNat x74)), (AV.int .i64 (Int.ofNat 0)), ()) [] h27))) fun j28 =>
br b22 (
j28 skipV h24) (
asI .i64 v23 fun x29 =>
fB (ltI x29 (Int.ofNat 0)) fun b30 =>
j28 (AV.bool b30) h24)) fun j25 =>
br b22 (
j25 skipV h17) (
j25 (AV.int .i64 a2) h17))) fun j18 =>
br b1 (
j18 skipV h13) (
asB v12 fun b19 =>
fB (Bool.not b19) fun b20 =>
j18 (AV.bool b20) h13)) fun j14 =>
br b1 (
j14 skipV h9) (
ldB v8 h9 fun b15 =>
j14 (AV.bool b15) h9)) fun j10 =>
br b1 (
j10 skipV h6) (
faK 9 v5 fun p11 =>
j10 p11 h6)) fun j7 =>
br b1 (
j7 skipV h3) (
okNil v2 (
j7 v2 h3))) fun j4 =>
br b1 (
j4 skipV h) (
j4 a0 h)
theorem s22_hole (J : Joins) (c67 : AV → AV → H → (H → Prop) → Prop) (a0 : AV) (a1 : Int) (a2 : Int) (h : H) (k : Int → H → Prop) : s22G J c67 a0 a1 a2 h k = s22H J c67 (s22R J c67 k) a0 a1 a2 h k := by kernel_rfl
noncomputable def s22 : AV → Int → Int → H → (Int → H → Prop) → Prop := s22G J0 s67
noncomputable def w22 (c : AV → Int → Int → H → (Int → H → Prop) → Prop) : Fun := fun xs h k => arg xs fun a0 xs => arg xs fun a1 xs => arg xs fun a2 xs => noArg xs <| asI .i64 a1 fun a1 => asI .i64 a2 fun a2 => c a0 a1 a2 h fun r0 h => k (.int .i64 r0) h
theorem s22_eq (J : Joins) (c67 : AV → AV → H → (H → Prop) → Prop) (a0 : AV) (a1 : Int) (a2 : Int) (h : H) (k : AV → H → Prop) : denF ty (gam J [(67, w67 c67)]) Tryz.f22 [a0, (.int .i64 a1), (.int .i64 a2)] h k = s22G J c67 a0 a1 a2 h (fun r0 h => k (.int .i64 r0) h) := by kernel_rfl
noncomputable def g22 : Fun := w22 s22
theorem g22_ok : FunOk Tryz.prog 22 g22 := (fun_ok ty_ok mixed (gam_ok (J := J0) (tab_cons g67_ok (tab_nil fls_fun))) Tryz.func22 (fun args w => by simp)).imp fun xs h k e0 => by
  obtain ⟨a0, xs0, rfl, e1⟩ := arg_imp e0
  obtain ⟨a1, xs1, rfl, e2⟩ := arg_imp e1
  obtain ⟨a2, xs2, rfl, e3⟩ := arg_imp e2
  obtain ⟨rfl, e4⟩ := noArg_imp e3
  obtain ⟨a1, rfl, e5⟩ := asI_iff.1 e4
  obtain ⟨a2, rfl, e6⟩ := asI_iff.1 e5
  exact (s22_eq J0 s67 a0 a1 a2 h k).mpr e6
end Go.Proofs.YtfbdniomnnpemaaGreatDoor
