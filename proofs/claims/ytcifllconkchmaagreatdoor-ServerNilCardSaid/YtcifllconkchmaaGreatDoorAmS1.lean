/- Functions as they are reckoned. MADE BY PROGRAM (wip/tools/shal.py). -/
import Derived.Test.YtcifllconkchmaaGreatDoorAmH56
namespace Go.Proofs.YtcifllconkchmaaGreatDoor
open Go Go.Am
set_option maxRecDepth 100000
set_option linter.all false
/-- stagepost/server.count -/
noncomputable def g64 : Fun := denFS ty (gam J0 []) Tryz.f64
theorem g64_ok : FunOk Tryz.prog 64 g64 := fun_okS ty_ok mixed (gam_ok (J := J0) (tab_nil fls_fun)) Tryz.func64 (fun args w => by simp)
/-- slices.Index[[]string,string] -/
noncomputable def s312G (J : Joins) (a0 : AV) (a1 : Str) (h : H) (k : Int → H → Prop) : Prop :=
lenK a0 fun x1 =>
J.lp (α := AV × AV × AV × AV × Unit) (fun r5 v2 d3 h4 =>
asI .i64 v2.2.2.2.1 fun x6 =>
asI .i64 v2.2.2.1 fun x7 =>
fB (ltI x6 x7) fun b8 =>
br b8 (
ixK 1 v2.1 v2.2.2.2.1 fun p9 =>
ldS p9 h4 fun s10 =>
asS v2.2.1 fun s11 =>
fB (Str.beq s11 s10) fun b12 =>
br b12 (
leaveK (gam J []) d3 h4 fun h13 =>
asI .i64 v2.2.2.2.1 fun x14 =>
k x14 h13) (
asI .i64 v2.2.2.2.1 fun x15 =>
fI (wrapF .i64 (Int.add x15 (Int.ofNat 1))) fun x16 =>
r5 (v2.1, v2.2.1, v2.2.2.1, (AV.int .i64 x16), ()) d3 h4)) (
leaveK (gam J []) d3 h4 fun h17 =>
k (Int.negSucc 0) h17)) (a0, (AV.str a1), (AV.int .i64 (Int.ofNat x1)), (AV.int .i64 (Int.ofNat 0)), ()) [] h
noncomputable def s312 : AV → Str → H → (Int → H → Prop) → Prop := s312G J0 
noncomputable def w312 (c : AV → Str → H → (Int → H → Prop) → Prop) : Fun := fun xs h k => arg xs fun a0 xs => arg xs fun a1 xs => noArg xs <| asS a1 fun a1 => c a0 a1 h fun r0 h => k (.int .i64 r0) h
theorem s312_eq (J : Joins) (a0 : AV) (a1 : Str) (h : H) (k : AV → H → Prop) : denF ty (gam J []) Tryz.f312 [a0, (.str a1)] h k = s312G J  a0 a1 h (fun r0 h => k (.int .i64 r0) h) := by kernel_rfl
noncomputable def g312 : Fun := w312 s312
theorem g312_ok : FunOk Tryz.prog 312 g312 := (fun_ok ty_ok mixed (gam_ok (J := J0) (tab_nil fls_fun)) Tryz.func312 (fun args w => by simp)).imp fun xs h k e0 => by
  obtain ⟨a0, xs0, rfl, e1⟩ := arg_imp e0
  obtain ⟨a1, xs1, rfl, e2⟩ := arg_imp e1
  obtain ⟨rfl, e3⟩ := noArg_imp e2
  obtain ⟨a1, rfl, e4⟩ := asS_iff.1 e3
  exact (s312_eq J0  a0 a1 h k).mpr e4
/-- slices.Contains[[]string,string] -/
noncomputable def g212 : Fun := denFS ty (gam J0 [(312, g312)]) Tryz.f212
theorem g212_ok : FunOk Tryz.prog 212 g212 := fun_okS ty_ok mixed (gam_ok (J := J0) (tab_cons g312_ok (tab_nil fls_fun))) Tryz.func212 (fun args w => by simp)
/-- stagepost/ranges.Check -/
noncomputable def g128 : Fun := denFS ty (gam J0 [(212, g212)]) Tryz.f128
theorem g128_ok : FunOk Tryz.prog 128 g128 := fun_okS ty_ok mixed (gam_ok (J := J0) (tab_cons g212_ok (tab_nil fls_fun))) Tryz.func128 (fun args w => by simp)
/-- stagepost/mem.New -/
noncomputable def g100 : Fun := denFS ty (gam J0 []) Tryz.f100
theorem g100_ok : FunOk Tryz.prog 100 g100 := fun_okS ty_ok mixed (gam_ok (J := J0) (tab_nil fls_fun)) Tryz.func100 (fun args w => by simp)
/-- stagepost/lsm.Check -/
noncomputable def g129 : Fun := denFS ty (gam J0 [(100, g100)]) Tryz.f129
theorem g129_ok : FunOk Tryz.prog 129 g129 := fun_okS ty_ok mixed (gam_ok (J := J0) (tab_cons g100_ok (tab_nil fls_fun))) Tryz.func129 (fun args w => by simp)
/-- stagepost/server.Check -/
noncomputable def g57 : Fun := denFS ty (gam J0 [(64, g64), (128, g128), (129, g129)]) Tryz.f57
theorem g57_ok : FunOk Tryz.prog 57 g57 := fun_okS ty_ok mixed (gam_ok (J := J0) (tab_cons g64_ok (tab_cons g128_ok (tab_cons g129_ok (tab_nil fls_fun))))) Tryz.func57 (fun args w => by simp)
/-- (*stagepost/wal.Wal).Seq -/
noncomputable def g98 : Fun := denFS ty (gam J0 []) Tryz.f98
theorem g98_ok : FunOk Tryz.prog 98 g98 := fun_okS ty_ok mixed (gam_ok (J := J0) (tab_nil fls_fun)) Tryz.func98 (fun args w => by simp)
/-- (*stagepost/manifest.Manifest).none -/
noncomputable def g194 : Fun := denFS ty (gam J0 []) Tryz.f194
theorem g194_ok : FunOk Tryz.prog 194 g194 := fun_okS ty_ok mixed (gam_ok (J := J0) (tab_nil fls_fun)) Tryz.func194 (fun args w => by simp)
/-- slices.Clone[[]stagepost/api.Meta,stagepost/api.Meta] -/
noncomputable def g195 : Fun := denFS ty (gam J0 []) Tryz.f195
theorem g195_ok : FunOk Tryz.prog 195 g195 := fun_okS ty_ok mixed (gam_ok (J := J0) (tab_nil fls_fun)) Tryz.func195 (fun args w => by simp)
/-- (*stagepost/manifest.Manifest).Version -/
noncomputable def g106 : Fun := denFS ty (gam J0 [(194, g194), (195, g195)]) Tryz.f106
theorem g106_ok : FunOk Tryz.prog 106 g106 := fun_okS ty_ok mixed (gam_ok (J := J0) (tab_cons g194_ok (tab_cons g195_ok (tab_nil fls_fun)))) Tryz.func106 (fun args w => by simp)
/-- maps.clone -/
noncomputable def g371 : Fun := cloneF
theorem g371_ok : FunOk Tryz.prog 371 g371 := cloneF_ok Tryz.func371 (by kernel_rfl) (by kernel_rfl) (by kernel_rfl) (by kernel_rfl)
/-- maps.Clone[map[int][]byte,int,[]byte] -/
noncomputable def g313 : Fun := denFS ty (gam J0 [(371, g371)]) Tryz.f313
theorem g313_ok : FunOk Tryz.prog 313 g313 := fun_okS ty_ok mixed (gam_ok (J := J0) (tab_cons g371_ok (tab_nil fls_fun))) Tryz.func313 (fun args w => by simp)
/-- maps.Clone[map[string]int,string,int] -/
noncomputable def g314 : Fun := denFS ty (gam J0 [(371, g371)]) Tryz.f314
theorem g314_ok : FunOk Tryz.prog 314 g314 := fun_okS ty_ok mixed (gam_ok (J := J0) (tab_cons g371_ok (tab_nil fls_fun))) Tryz.func314 (fun args w => by simp)
/-- (*stagepost/vfs.FS).held -/
noncomputable def s213G (J : Joins) (c127 : AV → AV → H → (H → Prop) → Prop) (c313 : Fun) (c314 : Fun) (a0 : AV) (h : H) (k : AV → H → Prop) : Prop :=
pushK (.cells false 93 [(.nilm), (.nilm)]) h fun n1 h2 =>
okNil a0 (
faK 0 a0 fun p3 =>
faK 0 p3 fun p4 =>
ldV p4 h2 fun v5 =>
okNil a0 (
faK 0 a0 fun p6 =>
faK 1 p6 fun p7 =>
ldV p7 h2 fun v8 =>
pushK (.cells false 93 [(.nilm), (.nilm)]) h2 fun n9 h10 =>
c313 [v5] h10 fun v11 h12 =>
ck (readsSo (aLoad1 p7 h12) v8) (
c314 [v8] h12 fun v13 h14 =>
ck (isOne v11) (ck (isOne v13) (stN 2 (AV.ptr n9 0) [v11, v13] h14 fun h15 =>
okNil a0 (
faK 2 a0 fun p16 =>
ldV p16 h15 fun v17 =>
lenK v17 fun x18 =>
J.lp (α := AV × AV × AV × AV × AV × Unit) (fun r22 v19 d20 h21 =>
asI .i64 v19.2.2.2.2.1 fun x23 =>
asI .i64 v19.2.2.2.1 fun x24 =>
fB (ltI x23 x24) fun b25 =>
br b25 (
ixK 5 v19.2.2.1 v19.2.2.2.2.1 fun p26 =>
ldN 5 p26 h21 fun l27 =>
pushK (.cells false 218 [(.int .i64 0), (.str ⟨0, 0⟩), (.str ⟨0, 0⟩), (.int .i64 0), (.nils)]) h21 fun n28 h29 =>
stN 5 (AV.ptr n28 0) l27 h29 fun h30 =>
ldN 2 v19.2.1 h30 fun l31 =>
ldN 5 (AV.ptr n28 0) h30 fun l32 =>
c127 (AV.agg l31) (AV.agg l32) h30 fun  h33 =>
asI .i64 v19.2.2.2.2.1 fun x34 =>
fI (wrapF .i64 (Int.add x34 (Int.ofNat 1))) fun x35 =>
r22 (v19.1, v19.2.1, v19.2.2.1, v19.2.2.2.1, (AV.int .i64 x35), ()) d20 h33) (
ldN 2 v19.2.1 h21 fun l36 =>
stN 2 v19.1 l36 h21 fun h37 =>
leaveK (gam J [(127, w127 c127), (313, c313), (314, c314)]) d20 h37 fun h38 =>
ldN 2 v19.1 h38 fun l39 =>
k (AV.agg l39) h38)) ((AV.ptr n1 0), (AV.ptr n9 0), v17, (AV.int .i64 (Int.ofNat x18)), (AV.int .i64 (Int.ofNat 0)), ()) [] h15))))))
noncomputable def s213 : AV → H → (AV → H → Prop) → Prop := s213G J0 s127 g313 g314
noncomputable def w213 (c : AV → H → (AV → H → Prop) → Prop) : Fun := fun xs h k => arg xs fun a0 xs => noArg xs <| c a0 h fun r0 h => k r0 h
theorem s213_eq (J : Joins) (c127 : AV → AV → H → (H → Prop) → Prop) (c313 : Fun) (c314 : Fun) (a0 : AV) (h : H) (k : AV → H → Prop) : denF ty (gam J [(127, w127 c127), (313, c313), (314, c314)]) Tryz.f213 [a0] h k = s213G J c127 c313 c314 a0 h (fun r0 h => k r0 h) := by kernel_rfl
noncomputable def g213 : Fun := w213 s213
theorem g213_ok : FunOk Tryz.prog 213 g213 := (fun_ok ty_ok mixed (gam_ok (J := J0) (tab_cons g127_ok (tab_cons g313_ok (tab_cons g314_ok (tab_nil fls_fun))))) Tryz.func213 (fun args w => by simp)).imp fun xs h k e0 => by
  obtain ⟨a0, xs0, rfl, e1⟩ := arg_imp e0
  obtain ⟨rfl, e2⟩ := noArg_imp e1
  exact (s213_eq J0 s127 g313 g314 a0 h k).mpr e2
/-- s213, of which less may be asked -/
def up213 : AV → H → (AV → H → Prop) → Prop := fun a0 h k => ∃ K : AV → H → Prop, s213 a0 h K ∧ ∀ r0 h', K r0 h' → k r0 h'
theorem up213_ok : FunOk Tryz.prog 213 (w213 up213) := g213_ok.up fun xs h k e0 => by
  obtain ⟨a0, xs0, rfl, e1⟩ := arg_imp e0
  obtain ⟨rfl, e2⟩ := noArg_imp e1
  obtain ⟨K, q1, q2⟩ := e2
  refine ⟨fun r h' => ∃ r0, r = r0 ∧ K r0 h', ?_, ?_⟩
  · have hK : (fun r0 h' => ∃ r0', (r0 : AV) = r0' ∧ K r0' h') = K := by funext r0 h'; apply propext; simp
    exact (congrArg (s213 a0 h) hK).mpr q1
  · rintro r h' ⟨r0, rfl, q3⟩; exact q2 _ _ q3
/-- stagepost/vfs.named -/
noncomputable def s329G (J : Joins) (a0 : Str) (h : H) (k : Bool → H → Prop) : Prop :=
fB (Str.beq a0 (⟨0, 0⟩ : Str)) fun b1 =>
J.jn (fun v2 h3 =>
J.jn (fun v5 h6 =>
J.jn (fun v9 h10 =>
pickB (AV.bool b1) (AV.bool true) v9 fun b14 =>
br b14 (
k false h10) (
J.lp (α := AV × AV × AV × Unit) (fun r18 v15 d16 h17 =>
asI .i64 v15.2.2.1 fun x19 =>
asI .i64 v15.2.1 fun x20 =>
fB (ltI x19 x20) fun b21 =>
br b21 (
ixsK v15.1 v15.2.2.1 fun x22 =>
fB (ltI x22 (Int.ofNat 33)) fun b23 =>
J.jn (fun v24 h25 =>
J.jn (fun v27 h28 =>
J.jn (fun v30 h31 =>
J.jn (fun v34 h35 =>
pickB (AV.bool b23) (AV.bool true) v34 fun b39 =>
br b39 (
leaveK (gam J []) d16 h35 fun h40 =>
k false h40) (
asI .i64 v15.2.2.1 fun x41 =>
fI (wrapF .i64 (Int.add x41 (Int.ofNat 1))) fun x42 =>
r18 (v15.1, v15.2.1, (AV.int .i64 x42), ()) d16 h35)) fun j36 =>
br b23 (
j36 skipV h31) (
asI .u8 v30 fun x37 =>
fB (ltI (Int.ofNat 126) x37) fun b38 =>
j36 (AV.bool b38) h31)) fun j32 =>
br b23 (
j32 skipV h28) (
ixsK v24 v27 fun x33 =>
j32 (AV.int .u8 x33) h28)) fun j29 =>
br b23 (
j29 skipV h25) (
j29 v15.2.2.1 h25)) fun j26 =>
br b23 (
j26 skipV h17) (
j26 v15.1 h17)) (
leaveK (gam J []) d16 h17 fun h43 =>
k true h43)) ((AV.str a0), (AV.int .i64 (Int.ofNat a0.len)), (AV.int .i64 (Int.ofNat 0)), ()) [] h10)) fun j11 =>
br b1 (
j11 skipV h6) (
asI .i64 v5 fun x12 =>
fB (ltI (Int.ofNat 32) x12) fun b13 =>
j11 (AV.bool b13) h6)) fun j7 =>
br b1 (
j7 skipV h3) (
asS v2 fun s8 =>
j7 (AV.int .i64 (Int.ofNat s8.len)) h3)) fun j4 =>
br b1 (
j4 skipV h) (
j4 (AV.str a0) h)
noncomputable def s329 : Str → H → (Bool → H → Prop) → Prop := s329G J0 
noncomputable def w329 (c : Str → H → (Bool → H → Prop) → Prop) : Fun := fun xs h k => arg xs fun a0 xs => noArg xs <| asS a0 fun a0 => c a0 h fun r0 h => k (.bool r0) h
theorem s329_eq (J : Joins) (a0 : Str) (h : H) (k : AV → H → Prop) : denF ty (gam J []) Tryz.f329 [(.str a0)] h k = s329G J  a0 h (fun r0 h => k (.bool r0) h) := by kernel_rfl
noncomputable def g329 : Fun := w329 s329
theorem g329_ok : FunOk Tryz.prog 329 g329 := (fun_ok ty_ok mixed (gam_ok (J := J0) (tab_nil fls_fun)) Tryz.func329 (fun args w => by simp)).imp fun xs h k e0 => by
  obtain ⟨a0, xs0, rfl, e1⟩ := arg_imp e0
  obtain ⟨rfl, e2⟩ := noArg_imp e1
  obtain ⟨a0, rfl, e3⟩ := asS_iff.1 e2
  exact (s329_eq J0  a0 h k).mpr e3
/-- (*stagepost/vfs.FS).asked -/
noncomputable def s232G (J : Joins) (c329 : Str → H → (Bool → H → Prop) → Prop) (a0 : AV) (a1 : AV) (h : H) (k : Int → H → Prop) : Prop :=
nilB 0 a0 fun b1 =>
J.jn (fun v2 h3 =>
J.jn (fun v5 h6 =>
J.jn (fun v8 h9 =>
J.jn (fun v12 h13 =>
J.jn (fun v16 h17 =>
pickB (AV.bool b1) (AV.bool true) v16 fun b21 =>
br b21 (
k (Int.ofNat 1) h17) (
okNil a0 (
faK 5 a0 fun p22 =>
ldB p22 h17 fun b23 =>
br b23 (
k (Int.ofNat 7) h17) (
lenK a1 fun x24 =>
J.lp (α := AV × AV × AV × Unit) (fun r28 v25 d26 h27 =>
asI .i64 v25.2.2.1 fun x29 =>
asI .i64 v25.2.1 fun x30 =>
fB (ltI x29 x30) fun b31 =>
br b31 (
ixK 1 v25.1 v25.2.2.1 fun p32 =>
ldS p32 h27 fun s33 =>
c329 s33 h27 fun b35 h34 =>
fB (Bool.not b35) fun b36 =>
br b36 (
leaveK (gam J [(329, w329 c329)]) d26 h34 fun h37 =>
k (Int.ofNat 2) h37) (
asI .i64 v25.2.2.1 fun x38 =>
fI (wrapF .i64 (Int.add x38 (Int.ofNat 1))) fun x39 =>
r28 (v25.1, v25.2.1, (AV.int .i64 x39), ()) d26 h34)) (
leaveK (gam J [(329, w329 c329)]) d26 h27 fun h40 =>
k (Int.ofNat 0) h40)) (a1, (AV.int .i64 (Int.ofNat x24)), (AV.int .i64 (Int.ofNat 0)), ()) [] h17)))) fun j18 =>
br b1 (
j18 skipV h13) (
asB v12 fun b19 =>
fB (Bool.not b19) fun b20 =>
j18 (AV.bool b20) h13)) fun j14 =>
br b1 (
j14 skipV h9) (
ldB v8 h9 fun b15 =>
j14 (AV.bool b15) h9)) fun j10 =>
br b1 (
j10 skipV h6) (
faK 9 v5 fun p11 =>
j10 p11 h6)) fun j7 =>
br b1 (
j7 skipV h3) (
okNil v2 (
j7 v2 h3))) fun j4 =>
br b1 (
j4 skipV h) (
j4 a0 h)
noncomputable def s232 : AV → AV → H → (Int → H → Prop) → Prop := s232G J0 s329
noncomputable def w232 (c : AV → AV → H → (Int → H → Prop) → Prop) : Fun := fun xs h k => arg xs fun a0 xs => arg xs fun a1 xs => noArg xs <| c a0 a1 h fun r0 h => k (.int .i64 r0) h
theorem s232_eq (J : Joins) (c329 : Str → H → (Bool → H → Prop) → Prop) (a0 : AV) (a1 : AV) (h : H) (k : AV → H → Prop) : denF ty (gam J [(329, w329 c329)]) Tryz.f232 [a0, a1] h k = s232G J c329 a0 a1 h (fun r0 h => k (.int .i64 r0) h) := by kernel_rfl
noncomputable def g232 : Fun := w232 s232
theorem g232_ok : FunOk Tryz.prog 232 g232 := (fun_ok ty_ok mixed (gam_ok (J := J0) (tab_cons g329_ok (tab_nil fls_fun))) Tryz.func232 (fun args w => by simp)).imp fun xs h k e0 => by
  obtain ⟨a0, xs0, rfl, e1⟩ := arg_imp e0
  obtain ⟨a1, xs1, rfl, e2⟩ := arg_imp e1
  obtain ⟨rfl, e3⟩ := noArg_imp e2
  exact (s232_eq J0 s329 a0 a1 h k).mpr e3
/-- s232, of which less may be asked -/
def up232 : AV → AV → H → (Int → H → Prop) → Prop := fun a0 a1 h k => ∃ K : Int → H → Prop, s232 a0 a1 h K ∧ ∀ r0 h', K r0 h' → k r0 h'
theorem up232_ok : FunOk Tryz.prog 232 (w232 up232) := g232_ok.up fun xs h k e0 => by
  obtain ⟨a0, xs0, rfl, e1⟩ := arg_imp e0
  obtain ⟨a1, xs1, rfl, e2⟩ := arg_imp e1
  obtain ⟨rfl, e3⟩ := noArg_imp e2
  obtain ⟨K, q1, q2⟩ := e3
  refine ⟨fun r h' => ∃ r0, r = (.int .i64 r0) ∧ K r0 h', ?_, ?_⟩
  · have hK : (fun r0 h' => ∃ r0', ((.int .i64 r0) : AV) = (.int .i64 r0') ∧ K r0' h') = K := by funext r0 h'; apply propext; simp
    exact (congrArg (s232 a0 a1 h) hK).mpr q1
  · rintro r h' ⟨r0, rfl, q3⟩; exact q2 _ _ q3
/-- (*stagepost/vfs.FS).file -/
noncomputable def s200G (J : Joins) (c213 : AV → H → (AV → H → Prop) → Prop) (c232 : AV → AV → H → (Int → H → Prop) → Prop) (a0 : AV) (a1 : Str) (h : H) (k : Int → Int → H → Prop) : Prop :=
pushK (.cells false 9 [(AV.str a1)]) h fun n1 h2 =>
c232 a0 (AV.slice n1 0 1 1 1 true) h2 fun x4 h3 =>
fB (Bool.not (eqI x4 (Int.ofNat 0))) fun b5 =>
br b5 (
k (Int.ofNat 0) x4 h3) (
c213 a0 h3 fun v7 h6 =>
Go.Am.asAgg v7 fun l8 =>
op' (lgetO l8 1) fun v9 =>
op' (aLookup ty 9 3 true v9 (AV.str a1) h6) fun v10 =>
asTup v10 fun l11 =>
op' (lgetO l11 0) fun v12 =>
asI .i64 v12 fun x13 =>
asTup v10 fun l14 =>
op' (lgetO l14 1) fun v15 =>
asB v15 fun b16 =>
fB (Bool.not b16) fun b17 =>
br b17 (
k (Int.ofNat 0) (Int.ofNat 4) h6) (
k x13 (Int.ofNat 0) h6))
noncomputable def s200 : AV → Str → H → (Int → Int → H → Prop) → Prop := s200G J0 s213 s232
noncomputable def w200 (c : AV → Str → H → (Int → Int → H → Prop) → Prop) : Fun := fun xs h k => arg xs fun a0 xs => arg xs fun a1 xs => noArg xs <| asS a1 fun a1 => c a0 a1 h fun r0 r1 h => k (.tuple [(.int .i64 r0), (.int .i64 r1)]) h
theorem s200_eq (J : Joins) (c213 : AV → H → (AV → H → Prop) → Prop) (c232 : AV → AV → H → (Int → H → Prop) → Prop) (a0 : AV) (a1 : Str) (h : H) (k : AV → H → Prop) : denF ty (gam J [(213, w213 c213), (232, w232 c232)]) Tryz.f200 [a0, (.str a1)] h k = s200G J c213 c232 a0 a1 h (fun r0 r1 h => k (.tuple [(.int .i64 r0), (.int .i64 r1)]) h) := by kernel_rfl
noncomputable def g200 : Fun := w200 s200
theorem g200_ok : FunOk Tryz.prog 200 g200 := (fun_ok ty_ok mixed (gam_ok (J := J0) (tab_cons g213_ok (tab_cons g232_ok (tab_nil fls_fun)))) Tryz.func200 (fun args w => by simp)).imp fun xs h k e0 => by
  obtain ⟨a0, xs0, rfl, e1⟩ := arg_imp e0
  obtain ⟨a1, xs1, rfl, e2⟩ := arg_imp e1
  obtain ⟨rfl, e3⟩ := noArg_imp e2
  obtain ⟨a1, rfl, e4⟩ := asS_iff.1 e3
  exact (s200_eq J0 s213 s232 a0 a1 h k).mpr e4
/-- (*stagepost/vfs.FS).Read -/
noncomputable def g130 : Fun := denFS ty (gam J0 [(200, g200), (211, g211), (213, g213)]) Tryz.f130
theorem g130_ok : FunOk Tryz.prog 130 g130 := fun_okS ty_ok mixed (gam_ok (J := J0) (tab_cons g200_ok (tab_cons g211_ok (tab_cons g213_ok (tab_nil fls_fun))))) Tryz.func130 (fun args w => by simp)
/-- (*stagepost/vfs.FS).raw -/
noncomputable def s303G (J : Joins) (a0 : AV) (h : H) (k : Int → H → Prop) : Prop :=
okNil a0 (
faK 6 a0 fun p1 =>
ldB p1 h fun b2 =>
J.jn (fun v3 h4 =>
J.jn (fun v6 h7 =>
J.jn (fun v9 h10 =>
J.jn (fun v13 h14 =>
J.jn (fun v17 h18 =>
pickB (AV.bool b2) v17 (AV.bool false) fun b22 =>
br b22 (
okNil a0 (
faK 5 a0 fun p23 =>
stV p23 (AV.bool true) h18 fun h24 =>
k (Int.ofNat 7) h24)) (
J.jd (α := AV × Unit) (fun v25 d26 h27 =>
okNil v25.1 (
faK 8 v25.1 fun p29 =>
ldI .i64 p29 h27 fun x30 =>
fI (wrapF .i64 (Int.add x30 (Int.ofNat 1))) fun x31 =>
okNil v25.1 (
faK 8 v25.1 fun p32 =>
stV p32 (AV.int .i64 x31) h27 fun h33 =>
leaveK (gam J []) d26 h33 fun h34 =>
k (Int.ofNat 0) h34))) fun j28 =>
okNil a0 (
faK 6 a0 fun p35 =>
ldB p35 h18 fun b36 =>
br b36 (
okNil a0 (
faK 7 a0 fun p37 =>
ldI .i64 p37 h18 fun x38 =>
fI (wrapF .i64 (Int.sub x38 (Int.ofNat 1))) fun x39 =>
okNil a0 (
faK 7 a0 fun p40 =>
stV p40 (AV.int .i64 x39) h18 fun h41 =>
j28 (a0, ()) [] h41))) (
j28 (a0, ()) [] h18)))) fun j19 =>
br b2 (
asI .i64 v13 fun x20 =>
fB (eqI x20 (Int.ofNat 0)) fun b21 =>
j19 (AV.bool b21) h14) (
j19 skipV h14)) fun j15 =>
br b2 (
ldI .i64 v9 h10 fun x16 =>
j15 (AV.int .i64 x16) h10) (
j15 skipV h10)) fun j11 =>
br b2 (
faK 7 v6 fun p12 =>
j11 p12 h7) (
j11 skipV h7)) fun j8 =>
br b2 (
okNil v3 (
j8 v3 h4)) (
j8 skipV h4)) fun j5 =>
br b2 (
j5 a0 h) (
j5 skipV h))
noncomputable def s303 : AV → H → (Int → H → Prop) → Prop := s303G J0 
noncomputable def w303 (c : AV → H → (Int → H → Prop) → Prop) : Fun := fun xs h k => arg xs fun a0 xs => noArg xs <| c a0 h fun r0 h => k (.int .i64 r0) h
theorem s303_eq (J : Joins) (a0 : AV) (h : H) (k : AV → H → Prop) : denF ty (gam J []) Tryz.f303 [a0] h k = s303G J  a0 h (fun r0 h => k (.int .i64 r0) h) := by kernel_rfl
noncomputable def g303 : Fun := w303 s303
theorem g303_ok : FunOk Tryz.prog 303 g303 := (fun_ok ty_ok mixed (gam_ok (J := J0) (tab_nil fls_fun)) Tryz.func303 (fun args w => by simp)).imp fun xs h k e0 => by
  obtain ⟨a0, xs0, rfl, e1⟩ := arg_imp e0
  obtain ⟨rfl, e2⟩ := noArg_imp e1
  exact (s303_eq J0  a0 h k).mpr e2
/-- (*stagepost/vfs.FS).Sync$1 -/
noncomputable def g288 : Fun := denFS ty (gam J0 []) Tryz.f288
theorem g288_ok : FunOk Tryz.prog 288 g288 := fun_okS ty_ok mixed (gam_ok (J := J0) (tab_nil fls_fun)) Tryz.func288 (fun args w => by simp)
/-- (*stagepost/vfs.FS).SyncNames$1 -/
noncomputable def g293 : Fun := denFS ty (gam J0 []) Tryz.f293
theorem g293_ok : FunOk Tryz.prog 293 g293 := fun_okS ty_ok mixed (gam_ok (J := J0) (tab_nil fls_fun)) Tryz.func293 (fun args w => by simp)
/-- (*stagepost/vfs.FS).settle -/
noncomputable def g287 : Fun := denFS ty (gam J0 [(127, g127), (288, g288), (293, g293), (303, g303)]) Tryz.f287
theorem g287_ok : FunOk Tryz.prog 287 g287 := fun_okS ty_ok mixed (gam_ok (J := J0) (tab_cons g127_ok (tab_cons g288_ok (tab_cons g293_ok (tab_cons g303_ok (tab_nil fls_fun)))))) Tryz.func287 (fun args w => by simp)
/-- (*stagepost/vfs.FS).SyncNames -/
noncomputable def g190 : Fun := denFS ty (gam J0 [(232, g232), (287, g287), (293, g293)]) Tryz.f190
theorem g190_ok : FunOk Tryz.prog 190 g190 := fun_okS ty_ok mixed (gam_ok (J := J0) (tab_cons g232_ok (tab_cons g287_ok (tab_cons g293_ok (tab_nil fls_fun))))) Tryz.func190 (fun args w => by simp)
/-- internal/strconv.small -/
noncomputable def g398 : Fun := denFS ty (gam J0 []) Tryz.f398
theorem g398_ok : FunOk Tryz.prog 398 g398 := fun_okS ty_ok mixed (gam_ok (J := J0) (tab_nil fls_fun)) Tryz.func398 (fun args w => by simp)
end Go.Proofs.YtcifllconkchmaaGreatDoor
