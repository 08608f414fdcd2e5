/- Functions as they are reckoned. MADE BY PROGRAM (wip/tools/shal.py). -/
import Derived.Test.YtcohflkjinpcpaaGreatDoorAmTys
namespace Go.Proofs.YtcohflkjinpcpaaGreatDoor
open Go Go.Am
set_option maxRecDepth 100000
set_option linter.all false
/-- stagepost/vfs.New -/
noncomputable def g20 : Fun := denFS ty (gam J0 []) Tryz.f20
theorem g20_ok : FunOk Tryz.prog 20 g20 := fun_okS ty_ok mixed (gam_ok (J := J0) (tab_nil fls_fun)) Tryz.func20 (fun args w => by simp)
/-- slices.Clone[[]byte,byte] -/
noncomputable def s69G (J : Joins) (a0 : AV) (h : H) (k : AV → H → Prop) : Prop :=
nilB 2 a0 fun b1 =>
br b1 (
k AV.nils h) (
op' (asRow true 5 []) fun k4 =>
pushK k4 h fun n2 h3 =>
apB (.slice 5) 5 (AV.slice n2 0 0 0 1 true) a0 h3 fun v5 h6 =>
k v5 h6)
noncomputable def s69 : AV → H → (AV → H → Prop) → Prop := s69G J0 
noncomputable def w69 (c : AV → H → (AV → H → Prop) → Prop) : Fun := fun xs h k => arg xs fun a0 xs => noArg xs <| c a0 h fun r0 h => k r0 h
theorem s69_eq (J : Joins) (a0 : AV) (h : H) (k : AV → H → Prop) : denF ty (gam J []) Tryz.f69 [a0] h k = s69G J  a0 h (fun r0 h => k r0 h) := by kernel_rfl
noncomputable def g69 : Fun := w69 s69
theorem g69_ok : FunOk Tryz.prog 69 g69 := (fun_ok ty_ok mixed (gam_ok (J := J0) (tab_nil fls_fun)) Tryz.func69 (fun args w => by simp)).imp fun xs h k e0 => by
  obtain ⟨a0, xs0, rfl, e1⟩ := arg_imp e0
  obtain ⟨rfl, e2⟩ := noArg_imp e1
  exact (s69_eq J0  a0 h k).mpr e2
/-- (stagepost/vfs.tree).done -/
noncomputable def s86G (J : Joins) (c69 : AV → H → (AV → H → Prop) → Prop) (a0 : AV) (a1 : AV) (h : H) (k : H → Prop) : Prop :=
Go.Am.asAgg a0 fun l3 =>
pushK (.cells false 76 l3) h fun n1 h2 =>
Go.Am.asAgg a1 fun l6 =>
pushK (.cells false 117 l6) h2 fun n4 h5 =>
ldI .i64 (AV.ptr n4 0) h5 fun x7 =>
fB (eqI x7 (Int.ofNat 0)) fun b8 =>
br b8 (
ldV (AV.ptr n1 0) h5 fun v9 =>
ldI .i64 (AV.ptr n4 3) h5 fun x10 =>
ldV (AV.ptr n1 0) h5 fun v11 =>
ldI .i64 (AV.ptr n4 3) h5 fun x12 =>
op' (aLookup ty 3 25 false v11 (AV.int .i64 x12) h5) fun v13 =>
ldV (AV.ptr n4 4) h5 fun v14 =>
c69 v13 h5 fun v16 h15 =>
ck (readsSo (aLoad1 (AV.ptr n4 4) h15) v14) (
ck (readsSo (aLoad1 (AV.ptr n4 3) h15) (AV.int .i64 x10)) (
ck (readsSo (aLoad1 (AV.ptr n1 0) h15) v9) (
apB (.slice 5) 5 v16 v14 h15 fun v17 h18 =>
ck (readsSo (aLoad1 (AV.ptr n4 3) h18) (AV.int .i64 x10)) (
ck (readsSo (aLoad1 (AV.ptr n1 0) h18) v9) (
op' (mapBlk ty 3 v9 (AV.int .i64 x10) v17 h18) fun k19 =>
putK k19.1 k19.2 h18 fun h20 =>
k  h20)))))) (
fB (eqI x7 (Int.ofNat 1)) fun b21 =>
br b21 (
ldV (AV.ptr n1 1) h5 fun v22 =>
ldS (AV.ptr n4 1) h5 fun s23 =>
ldI .i64 (AV.ptr n4 3) h5 fun x24 =>
op' (mapBlk ty 9 v22 (AV.str s23) (AV.int .i64 x24) h5) fun k25 =>
putK k25.1 k25.2 h5 fun h26 =>
k  h26) (
fB (eqI x7 (Int.ofNat 2)) fun b27 =>
br b27 (
ldS (AV.ptr n4 1) h5 fun s28 =>
ldS (AV.ptr n4 2) h5 fun s29 =>
fB (Bool.not (Str.beq s28 s29)) fun b30 =>
br b30 (
ldV (AV.ptr n1 1) h5 fun v31 =>
ldS (AV.ptr n4 2) h5 fun s32 =>
ldV (AV.ptr n1 1) h5 fun v33 =>
ldS (AV.ptr n4 1) h5 fun s34 =>
op' (aLookup ty 9 3 false v33 (AV.str s34) h5) fun v35 =>
asI .i64 v35 fun x36 =>
op' (mapBlk ty 9 v31 (AV.str s32) (AV.int .i64 x36) h5) fun k37 =>
putK k37.1 k37.2 h5 fun h38 =>
ldV (AV.ptr n1 1) h38 fun v39 =>
ldS (AV.ptr n4 1) h38 fun s40 =>
delK (mapBlkD ty 9 v39 (AV.str s40) h38) h38 fun h42 =>
k  h42) (
k  h5)) (
fB (eqI x7 (Int.ofNat 3)) fun b43 =>
br b43 (
ldV (AV.ptr n1 1) h5 fun v44 =>
ldS (AV.ptr n4 1) h5 fun s45 =>
delK (mapBlkD ty 9 v44 (AV.str s45) h5) h5 fun h47 =>
k  h47) (
k  h5))))
noncomputable def s86 : AV → AV → H → (H → Prop) → Prop := s86G J0 s69
noncomputable def w86 (c : AV → AV → H → (H → Prop) → Prop) : Fun := fun xs h k => arg xs fun a0 xs => arg xs fun a1 xs => noArg xs <| c a0 a1 h fun  h => k (.tuple []) h
theorem s86_eq (J : Joins) (c69 : AV → H → (AV → H → Prop) → Prop) (a0 : AV) (a1 : AV) (h : H) (k : AV → H → Prop) : denF ty (gam J [(69, w69 c69)]) Tryz.f86 [a0, a1] h k = s86G J c69 a0 a1 h (fun  h => k (.tuple []) h) := by kernel_rfl
noncomputable def g86 : Fun := w86 s86
theorem g86_ok : FunOk Tryz.prog 86 g86 := (fun_ok ty_ok mixed (gam_ok (J := J0) (tab_cons g69_ok (tab_nil fls_fun))) Tryz.func86 (fun args w => by simp)).imp fun xs h k e0 => by
  obtain ⟨a0, xs0, rfl, e1⟩ := arg_imp e0
  obtain ⟨a1, xs1, rfl, e2⟩ := arg_imp e1
  obtain ⟨rfl, e3⟩ := noArg_imp e2
  exact (s86_eq J0 s69 a0 a1 h k).mpr e3
/-- maps.clone -/
noncomputable def g103 : Fun := cloneF
theorem g103_ok : FunOk Tryz.prog 103 g103 := cloneF_ok Tryz.func103 (by kernel_rfl) (by kernel_rfl) (by kernel_rfl) (by kernel_rfl)
/-- maps.Clone[map[int][]byte,int,[]byte] -/
noncomputable def g93 : Fun := denFS ty (gam J0 [(103, g103)]) Tryz.f93
theorem g93_ok : FunOk Tryz.prog 93 g93 := fun_okS ty_ok mixed (gam_ok (J := J0) (tab_cons g103_ok (tab_nil fls_fun))) Tryz.func93 (fun args w => by simp)
/-- maps.Clone[map[string]int,string,int] -/
noncomputable def g94 : Fun := denFS ty (gam J0 [(103, g103)]) Tryz.f94
theorem g94_ok : FunOk Tryz.prog 94 g94 := fun_okS ty_ok mixed (gam_ok (J := J0) (tab_cons g103_ok (tab_nil fls_fun))) Tryz.func94 (fun args w => by simp)
/-- (*stagepost/vfs.FS).held -/
noncomputable def s79G (J : Joins) (c86 : AV → AV → H → (H → Prop) → Prop) (c93 : Fun) (c94 : Fun) (a0 : AV) (h : H) (k : AV → H → Prop) : Prop :=
pushK (.cells false 76 [(.nilm), (.nilm)]) h fun n1 h2 =>
okNil a0 (
faK 0 a0 fun p3 =>
faK 0 p3 fun p4 =>
ldV p4 h2 fun v5 =>
okNil a0 (
faK 0 a0 fun p6 =>
faK 1 p6 fun p7 =>
ldV p7 h2 fun v8 =>
pushK (.cells false 76 [(.nilm), (.nilm)]) h2 fun n9 h10 =>
c93 [v5] h10 fun v11 h12 =>
ck (readsSo (aLoad1 p7 h12) v8) (
c94 [v8] h12 fun v13 h14 =>
ck (isOne v11) (ck (isOne v13) (stN 2 (AV.ptr n9 0) [v11, v13] h14 fun h15 =>
okNil a0 (
faK 2 a0 fun p16 =>
ldV p16 h15 fun v17 =>
lenK v17 fun x18 =>
J.lp (α := AV × AV × AV × AV × AV × Unit) (fun r22 v19 d20 h21 =>
asI .i64 v19.2.2.2.2.1 fun x23 =>
asI .i64 v19.2.2.2.1 fun x24 =>
fB (ltI x23 x24) fun b25 =>
br b25 (
ixK 5 v19.2.2.1 v19.2.2.2.2.1 fun p26 =>
ldN 5 p26 h21 fun l27 =>
pushK (.cells false 117 [(.int .i64 0), (.str ⟨0, 0⟩), (.str ⟨0, 0⟩), (.int .i64 0), (.nils)]) h21 fun n28 h29 =>
stN 5 (AV.ptr n28 0) l27 h29 fun h30 =>
ldN 2 v19.2.1 h30 fun l31 =>
ldN 5 (AV.ptr n28 0) h30 fun l32 =>
c86 (AV.agg l31) (AV.agg l32) h30 fun  h33 =>
asI .i64 v19.2.2.2.2.1 fun x34 =>
fI (wrapF .i64 (Int.add x34 (Int.ofNat 1))) fun x35 =>
r22 (v19.1, v19.2.1, v19.2.2.1, v19.2.2.2.1, (AV.int .i64 x35), ()) d20 h33) (
ldN 2 v19.2.1 h21 fun l36 =>
stN 2 v19.1 l36 h21 fun h37 =>
leaveK (gam J [(86, w86 c86), (93, c93), (94, c94)]) d20 h37 fun h38 =>
ldN 2 v19.1 h38 fun l39 =>
k (AV.agg l39) h38)) ((AV.ptr n1 0), (AV.ptr n9 0), v17, (AV.int .i64 (Int.ofNat x18)), (AV.int .i64 (Int.ofNat 0)), ()) [] h15))))))
noncomputable def s79 : AV → H → (AV → H → Prop) → Prop := s79G J0 s86 g93 g94
noncomputable def w79 (c : AV → H → (AV → H → Prop) → Prop) : Fun := fun xs h k => arg xs fun a0 xs => noArg xs <| c a0 h fun r0 h => k r0 h
theorem s79_eq (J : Joins) (c86 : AV → AV → H → (H → Prop) → Prop) (c93 : Fun) (c94 : Fun) (a0 : AV) (h : H) (k : AV → H → Prop) : denF ty (gam J [(86, w86 c86), (93, c93), (94, c94)]) Tryz.f79 [a0] h k = s79G J c86 c93 c94 a0 h (fun r0 h => k r0 h) := by kernel_rfl
noncomputable def g79 : Fun := w79 s79
theorem g79_ok : FunOk Tryz.prog 79 g79 := (fun_ok ty_ok mixed (gam_ok (J := J0) (tab_cons g86_ok (tab_cons g93_ok (tab_cons g94_ok (tab_nil fls_fun))))) Tryz.func79 (fun args w => by simp)).imp fun xs h k e0 => by
  obtain ⟨a0, xs0, rfl, e1⟩ := arg_imp e0
  obtain ⟨rfl, e2⟩ := noArg_imp e1
  exact (s79_eq J0 s86 g93 g94 a0 h k).mpr e2
/-- s79, of which less may be asked -/
def up79 : AV → H → (AV → H → Prop) → Prop := fun a0 h k => ∃ K : AV → H → Prop, s79 a0 h K ∧ ∀ r0 h', K r0 h' → k r0 h'
theorem up79_ok : FunOk Tryz.prog 79 (w79 up79) := g79_ok.up fun xs h k e0 => by
  obtain ⟨a0, xs0, rfl, e1⟩ := arg_imp e0
  obtain ⟨rfl, e2⟩ := noArg_imp e1
  obtain ⟨K, q1, q2⟩ := e2
  refine ⟨fun r h' => ∃ r0, r = r0 ∧ K r0 h', ?_, ?_⟩
  · have hK : (fun r0 h' => ∃ r0', (r0 : AV) = r0' ∧ K r0' h') = K := by funext r0 h'; apply propext; simp
    exact (congrArg (s79 a0 h) hK).mpr q1
  · rintro r h' ⟨r0, rfl, q3⟩; exact q2 _ _ q3
/-- stagepost/vfs.named -/
noncomputable def g96 : Fun := denFS ty (gam J0 []) Tryz.f96
theorem g96_ok : FunOk Tryz.prog 96 g96 := fun_okS ty_ok mixed (gam_ok (J := J0) (tab_nil fls_fun)) Tryz.func96 (fun args w => by simp)
/-- (*stagepost/vfs.FS).asked -/
noncomputable def s81G (J : Joins) (c96 : Fun) (a0 : AV) (a1 : AV) (h : H) (k : Int → H → Prop) : Prop :=
nilB 0 a0 fun b1 =>
J.jn (fun v2 h3 =>
J.jn (fun v5 h6 =>
J.jn (fun v8 h9 =>
J.jn (fun v12 h13 =>
J.jn (fun v16 h17 =>
pickB (AV.bool b1) (AV.bool true) v16 fun b21 =>
br b21 (
k (Int.ofNat 1) h17) (
okNil a0 (
faK 5 a0 fun p22 =>
ldB p22 h17 fun b23 =>
br b23 (
k (Int.ofNat 7) h17) (
lenK a1 fun x24 =>
J.lp (α := AV × AV × AV × Unit) (fun r28 v25 d26 h27 =>
asI .i64 v25.2.2.1 fun x29 =>
asI .i64 v25.2.1 fun x30 =>
fB (ltI x29 x30) fun b31 =>
br b31 (
ixK 1 v25.1 v25.2.2.1 fun p32 =>
ldS p32 h27 fun s33 =>
c96 [(AV.str s33)] h27 fun v34 h35 =>
asB v34 fun b36 =>
fB (Bool.not b36) fun b37 =>
br b37 (
leaveK (gam J [(96, c96)]) d26 h35 fun h38 =>
k (Int.ofNat 2) h38) (
asI .i64 v25.2.2.1 fun x39 =>
fI (wrapF .i64 (Int.add x39 (Int.ofNat 1))) fun x40 =>
r28 (v25.1, v25.2.1, (AV.int .i64 x40), ()) d26 h35)) (
leaveK (gam J [(96, c96)]) d26 h27 fun h41 =>
k (Int.ofNat 0) h41)) (a1, (AV.int .i64 (Int.ofNat x24)), (AV.int .i64 (Int.ofNat 0)), ()) [] h17)))) fun j18 =>
br b1 (
j18 skipV h13) (
asB v12 fun b19 =>
fB (Bool.not b19) fun b20 =>
j18 (AV.bool b20) h13)) fun j14 =>
br b1 (
j14 skipV h9) (
ldB v8 h9 fun b15 =>
j14 (AV.bool b15) h9)) fun j10 =>
br b1 (
j10 skipV h6) (
faK 9 v5 fun p11 =>
j10 p11 h6)) fun j7 =>
br b1 (
j7 skipV h3) (
okNil v2 (
j7 v2 h3))) fun j4 =>
br b1 (
j4 skipV h) (
j4 a0 h)
noncomputable def s81 : AV → AV → H → (Int → H → Prop) → Prop := s81G J0 g96
noncomputable def w81 (c : AV → AV → H → (Int → H → Prop) → Prop) : Fun := fun xs h k => arg xs fun a0 xs => arg xs fun a1 xs => noArg xs <| c a0 a1 h fun r0 h => k (.int .i64 r0) h
theorem s81_eq (J : Joins) (c96 : Fun) (a0 : AV) (a1 : AV) (h : H) (k : AV → H → Prop) : denF ty (gam J [(96, c96)]) Tryz.f81 [a0, a1] h k = s81G J c96 a0 a1 h (fun r0 h => k (.int .i64 r0) h) := by kernel_rfl
noncomputable def g81 : Fun := w81 s81
theorem g81_ok : FunOk Tryz.prog 81 g81 := (fun_ok ty_ok mixed (gam_ok (J := J0) (tab_cons g96_ok (tab_nil fls_fun))) Tryz.func81 (fun args w => by simp)).imp fun xs h k e0 => by
  obtain ⟨a0, xs0, rfl, e1⟩ := arg_imp e0
  obtain ⟨a1, xs1, rfl, e2⟩ := arg_imp e1
  obtain ⟨rfl, e3⟩ := noArg_imp e2
  exact (s81_eq J0 g96 a0 a1 h k).mpr e3
/-- s81, of which less may be asked -/
def up81 : AV → AV → H → (Int → H → Prop) → Prop := fun a0 a1 h k => ∃ K : Int → H → Prop, s81 a0 a1 h K ∧ ∀ r0 h', K r0 h' → k r0 h'
theorem up81_ok : FunOk Tryz.prog 81 (w81 up81) := g81_ok.up fun xs h k e0 => by
  obtain ⟨a0, xs0, rfl, e1⟩ := arg_imp e0
  obtain ⟨a1, xs1, rfl, e2⟩ := arg_imp e1
  obtain ⟨rfl, e3⟩ := noArg_imp e2
  obtain ⟨K, q1, q2⟩ := e3
  refine ⟨fun r h' => ∃ r0, r = (.int .i64 r0) ∧ K r0 h', ?_, ?_⟩
  · have hK : (fun r0 h' => ∃ r0', ((.int .i64 r0) : AV) = (.int .i64 r0') ∧ K r0' h') = K := by funext r0 h'; apply propext; simp
    exact (congrArg (s81 a0 a1 h) hK).mpr q1
  · rintro r h' ⟨r0, rfl, q3⟩; exact q2 _ _ q3
/-- (*stagepost/vfs.FS).file -/
noncomputable def g65 : Fun := denFS ty (gam J0 [(79, g79), (81, g81)]) Tryz.f65
theorem g65_ok : FunOk Tryz.prog 65 g65 := fun_okS ty_ok mixed (gam_ok (J := J0) (tab_cons g79_ok (tab_cons g81_ok (tab_nil fls_fun)))) Tryz.func65 (fun args w => by simp)
/-- (*stagepost/vfs.FS).Read -/
noncomputable def g60 : Fun := denFS ty (gam J0 [(65, g65), (69, g69), (79, g79)]) Tryz.f60
theorem g60_ok : FunOk Tryz.prog 60 g60 := fun_okS ty_ok mixed (gam_ok (J := J0) (tab_cons g65_ok (tab_cons g69_ok (tab_cons g79_ok (tab_nil fls_fun))))) Tryz.func60 (fun args w => by simp)
/-- stagepost/wal.off -/
noncomputable def g42 : Fun := denFS ty (gam J0 [(60, g60)]) Tryz.f42
theorem g42_ok : FunOk Tryz.prog 42 g42 := fun_okS ty_ok mixed (gam_ok (J := J0) (tab_cons g60_ok (tab_nil fls_fun))) Tryz.func42 (fun args w => by simp)
/-- internal/strconv.small -/
noncomputable def s87G (J : Joins) (a0 : Int) (h : H) (k : Str → H → Prop) : Prop :=
fB (ltI a0 (Int.ofNat 10)) fun b1 =>
br b1 (
fI (wrapF .i64 (Int.add a0 (Int.ofNat 1))) fun x2 =>
subK (AV.str ⟨36, 93621433862240650313326231306435056417042768930449266319129758623240466503934737414522⟩) (some (AV.int .i64 a0)) (some (AV.int .i64 x2)) fun s3 =>
k s3 h) (
fI (wrapF .i64 (Int.mul a0 (Int.ofNat 2))) fun x4 =>
fI (wrapF .i64 (Int.mul a0 (Int.ofNat 2))) fun x5 =>
fI (wrapF .i64 (Int.add x5 (Int.ofNat 2))) fun x6 =>
subK (AV.str ⟨200, 8369396053099643259884660439900312228746471110943504458504829912206407100469475510520505676855750014530596077689858408204562721349408824591789441711103775826291439126061900675989976254244761425382494394669896706626295868329681710377411642562040512013377776180902291979747008038411282346274188424097310996521951660972735479027990947060043115083917949168200323041593656569302669535377774123378085539195783572932112166539323561441937920580889744256865042652178519653545620815178381625⟩) (some (AV.int .i64 x4)) (some (AV.int .i64 x6)) fun s7 =>
k s7 h)
noncomputable def s87 : Int → H → (Str → H → Prop) → Prop := s87G J0 
noncomputable def w87 (c : Int → H → (Str → H → Prop) → Prop) : Fun := fun xs h k => arg xs fun a0 xs => noArg xs <| asI .i64 a0 fun a0 => c a0 h fun r0 h => k (.str r0) h
theorem s87_eq (J : Joins) (a0 : Int) (h : H) (k : AV → H → Prop) : denF ty (gam J []) Tryz.f87 [(.int .i64 a0)] h k = s87G J  a0 h (fun r0 h => k (.str r0) h) := by kernel_rfl
noncomputable def g87 : Fun := w87 s87
theorem g87_ok : FunOk Tryz.prog 87 g87 := (fun_ok ty_ok mixed (gam_ok (J := J0) (tab_nil fls_fun)) Tryz.func87 (fun args w => by simp)).imp fun xs h k e0 => by
  obtain ⟨a0, xs0, rfl, e1⟩ := arg_imp e0
  obtain ⟨rfl, e2⟩ := noArg_imp e1
  obtain ⟨a0, rfl, e3⟩ := asI_iff.1 e2
  exact (s87_eq J0  a0 h k).mpr e3
/-- internal/strconv.log10Pow2 -/
noncomputable def s98G (J : Joins) (a0 : Int) (h : H) (k : Int → H → Prop) : Prop :=
fI (wrapF .i64 (Int.mul a0 (Int.ofNat 78913))) fun x1 =>
fI (shrF x1 (nmin 18 (IntKind.bits .i64))) fun x2 =>
k x2 h
noncomputable def s98 : Int → H → (Int → H → Prop) → Prop := s98G J0 
noncomputable def w98 (c : Int → H → (Int → H → Prop) → Prop) : Fun := fun xs h k => arg xs fun a0 xs => noArg xs <| asI .i64 a0 fun a0 => c a0 h fun r0 h => k (.int .i64 r0) h
theorem s98_eq (J : Joins) (a0 : Int) (h : H) (k : AV → H → Prop) : denF ty (gam J []) Tryz.f98 [(.int .i64 a0)] h k = s98G J  a0 h (fun r0 h => k (.int .i64 r0) h) := by kernel_rfl
noncomputable def g98 : Fun := w98 s98
theorem g98_ok : FunOk Tryz.prog 98 g98 := (fun_ok ty_ok mixed (gam_ok (J := J0) (tab_nil fls_fun)) Tryz.func98 (fun args w => by simp)).imp fun xs h k e0 => by
  obtain ⟨a0, xs0, rfl, e1⟩ := arg_imp e0
  obtain ⟨rfl, e2⟩ := noArg_imp e1
  obtain ⟨a0, rfl, e3⟩ := asI_iff.1 e2
  exact (s98_eq J0  a0 h k).mpr e3
/-- math/bits.Len64 -/
noncomputable def s99G (J : Joins) (a0 : Int) (h : H) (k : Int → H → Prop) : Prop :=
J.jd (α := AV × AV × Unit) (fun v1 d2 h3 =>
J.jd (α := AV × AV × Unit) (fun v5 d6 h7 =>
J.jd (α := AV × AV × Unit) (fun v9 d10 h11 =>
asI .u64 v9.1 fun x13 =>
fI (wrapF .u8 x13) fun x14 =>
ixsK (AV.str ⟨256, 496986003408712215933005303621146343841837811690876167382323004466384420695090407243345123874780946046625255262057845613767806773758184921447759720770971536008171983842311960805720366577116933250839345203839274948261284255908394484732272583221484877694546905335834403051067785895034095251181560891789708940188598129052595634438001880866652824740680664595948164050600812232986714152902334120417949232733424961741260388658846598210939813666227264727603044226856020347194099943897342244906131705541414413428559898943151040826816076322978570758226444464494629814583418847495712557856038296917933182380796641777551368⟩) (AV.int .u8 x14) fun x15 =>
fI (wrapF .i64 x15) fun x16 =>
asI .i64 v9.2.1 fun x17 =>
fI (wrapF .i64 (Int.add x17 x16)) fun x18 =>
leaveK (gam J []) d10 h11 fun h19 =>
k x18 h19) fun j12 =>
asI .u64 v5.1 fun x20 =>
fB (Bool.not (ltI x20 (Int.ofNat 256))) fun b21 =>
br b21 (
asI .u64 v5.1 fun x22 =>
fI (shrF x22 (nmin 8 (IntKind.bits .u64))) fun x23 =>
asI .i64 v5.2.1 fun x24 =>
fI (wrapF .i64 (Int.add x24 (Int.ofNat 8))) fun x25 =>
j12 ((AV.int .u64 x23), (AV.int .i64 x25), ()) d6 h7) (
j12 (v5.1, v5.2.1, ()) d6 h7)) fun j8 =>
asI .u64 v1.1 fun x26 =>
fB (Bool.not (ltI x26 (Int.ofNat 65536))) fun b27 =>
br b27 (
asI .u64 v1.1 fun x28 =>
fI (shrF x28 (nmin 16 (IntKind.bits .u64))) fun x29 =>
asI .i64 v1.2.1 fun x30 =>
fI (wrapF .i64 (Int.add x30 (Int.ofNat 16))) fun x31 =>
j8 ((AV.int .u64 x29), (AV.int .i64 x31), ()) d2 h3) (
j8 (v1.1, v1.2.1, ()) d2 h3)) fun j4 =>
fB (Bool.not (ltI a0 (Int.ofNat 4294967296))) fun b32 =>
br b32 (
fI (shrF a0 (nmin 32 (IntKind.bits .u64))) fun x33 =>
j4 ((AV.int .u64 x33), (AV.int .i64 (Int.ofNat 32)), ()) [] h) (
j4 ((AV.int .u64 a0), (AV.int .i64 (Int.ofNat 0)), ()) [] h)
noncomputable def s99 : Int → H → (Int → H → Prop) → Prop := s99G J0 
noncomputable def w99 (c : Int → H → (Int → H → Prop) → Prop) : Fun := fun xs h k => arg xs fun a0 xs => noArg xs <| asI .u64 a0 fun a0 => c a0 h fun r0 h => k (.int .i64 r0) h
theorem s99_eq (J : Joins) (a0 : Int) (h : H) (k : AV → H → Prop) : denF ty (gam J []) Tryz.f99 [(.int .u64 a0)] h k = s99G J  a0 h (fun r0 h => k (.int .i64 r0) h) := by kernel_rfl
noncomputable def g99 : Fun := w99 s99
theorem g99_ok : FunOk Tryz.prog 99 g99 := (fun_ok ty_ok mixed (gam_ok (J := J0) (tab_nil fls_fun)) Tryz.func99 (fun args w => by simp)).imp fun xs h k e0 => by
  obtain ⟨a0, xs0, rfl, e1⟩ := arg_imp e0
  obtain ⟨rfl, e2⟩ := noArg_imp e1
  obtain ⟨a0, rfl, e3⟩ := asI_iff.1 e2
  exact (s99_eq J0  a0 h k).mpr e3
/-- internal/strconv.bool2[int] -/
noncomputable def s100G (J : Joins) (a0 : Bool) (h : H) (k : Int → H → Prop) : Prop :=
br a0 (
k (Int.ofNat 1) h) (
k (Int.ofNat 0) h)
noncomputable def s100 : Bool → H → (Int → H → Prop) → Prop := s100G J0 
noncomputable def w100 (c : Bool → H → (Int → H → Prop) → Prop) : Fun := fun xs h k => arg xs fun a0 xs => noArg xs <| asB a0 fun a0 => c a0 h fun r0 h => k (.int .i64 r0) h
theorem s100_eq (J : Joins) (a0 : Bool) (h : H) (k : AV → H → Prop) : denF ty (gam J []) Tryz.f100 [(.bool a0)] h k = s100G J  a0 h (fun r0 h => k (.int .i64 r0) h) := by kernel_rfl
noncomputable def g100 : Fun := w100 s100
theorem g100_ok : FunOk Tryz.prog 100 g100 := (fun_ok ty_ok mixed (gam_ok (J := J0) (tab_nil fls_fun)) Tryz.func100 (fun args w => by simp)).imp fun xs h k e0 => by
  obtain ⟨a0, xs0, rfl, e1⟩ := arg_imp e0
  obtain ⟨rfl, e2⟩ := noArg_imp e1
  obtain ⟨a0, rfl, e3⟩ := asB_iff.1 e2
  exact (s100_eq J0  a0 h k).mpr e3
/-- internal/strconv.numDigits -/
noncomputable def s88G (J : Joins) (c98 : Int → H → (Int → H → Prop) → Prop) (c99 : Int → H → (Int → H → Prop) → Prop) (c100 : Bool → H → (Int → H → Prop) → Prop) (a0 : Int) (h : H) (k : Int → H → Prop) : Prop :=
c99 a0 h fun x2 h1 =>
c98 x2 h1 fun x4 h3 =>
ixaK 20 1 (AV.glob 0 0) (AV.int .i64 x4) fun p5 =>
ldI .u64 p5 h3 fun x6 =>
fB (Bool.not (ltI a0 x6)) fun b7 =>
c100 b7 h3 fun x9 h8 =>
fI (wrapF .i64 (Int.add x4 x9)) fun x10 =>
k x10 h8
noncomputable def s88 : Int → H → (Int → H → Prop) → Prop := s88G J0 s98 s99 s100
noncomputable def w88 (c : Int → H → (Int → H → Prop) → Prop) : Fun := fun xs h k => arg xs fun a0 xs => noArg xs <| asI .u64 a0 fun a0 => c a0 h fun r0 h => k (.int .i64 r0) h
theorem s88_eq (J : Joins) (c98 : Int → H → (Int → H → Prop) → Prop) (c99 : Int → H → (Int → H → Prop) → Prop) (c100 : Bool → H → (Int → H → Prop) → Prop) (a0 : Int) (h : H) (k : AV → H → Prop) : denF ty (gam J [(98, w98 c98), (99, w99 c99), (100, w100 c100)]) Tryz.f88 [(.int .u64 a0)] h k = s88G J c98 c99 c100 a0 h (fun r0 h => k (.int .i64 r0) h) := by kernel_rfl
noncomputable def g88 : Fun := w88 s88
theorem g88_ok : FunOk Tryz.prog 88 g88 := (fun_ok ty_ok mixed (gam_ok (J := J0) (tab_cons g98_ok (tab_cons g99_ok (tab_cons g100_ok (tab_nil fls_fun))))) Tryz.func88 (fun args w => by simp)).imp fun xs h k e0 => by
  obtain ⟨a0, xs0, rfl, e1⟩ := arg_imp e0
  obtain ⟨rfl, e2⟩ := noArg_imp e1
  obtain ⟨a0, rfl, e3⟩ := asI_iff.1 e2
  exact (s88_eq J0 s98 s99 s100 a0 h k).mpr e3
/-- internal/strconv.formatBase10 -/
noncomputable def s89G (J : Joins) (a0 : AV) (a1 : Int) (h : H) (k : H → Prop) : Prop :=
lenK a0 fun x1 =>
J.lp (α := AV × AV × AV × Unit) (fun r5 v2 d3 h4 =>
asI .i64 v2.2.2.1 fun x6 =>
fB (Bool.not (ltI x6 (Int.ofNat 8))) fun b7 =>
br b7 (
asI .u64 v2.2.1 fun x8 =>
ck (Bool.not (eqI (Int.ofNat 100000000) 0)) (fI (Int.tmod x8 (Int.ofNat 100000000)) fun x9 =>
fI (wrapF .u32 x9) fun x10 =>
asI .u64 v2.2.1 fun x11 =>
ck (Bool.not (eqI (Int.ofNat 100000000) 0)) (fI (wrapF .u64 (Int.tdiv x11 (Int.ofNat 100000000))) fun x12 =>
ck (Bool.not (eqI (Int.ofNat 10000) 0)) (fI (wrapF .u32 (Int.tdiv x10 (Int.ofNat 10000))) fun x13 =>
ck (Bool.not (eqI (Int.ofNat 10000) 0)) (fI (Int.tmod x10 (Int.ofNat 10000)) fun x14 =>
ck (Bool.not (eqI (Int.ofNat 100) 0)) (fI (wrapF .u32 (Int.tdiv x14 (Int.ofNat 100))) fun x15 =>
fI (wrapF .u32 (Int.mul x15 (Int.ofNat 2))) fun x16 =>
ck (Bool.not (eqI (Int.ofNat 100) 0)) (fI (Int.tmod x14 (Int.ofNat 100)) fun x17 =>
fI (wrapF .u32 (Int.mul x17 (Int.ofNat 2))) fun x18 =>
ck (Bool.not (eqI (Int.ofNat 100) 0)) (fI (wrapF .u32 (Int.tdiv x13 (Int.ofNat 100))) fun x19 =>
fI (wrapF .u32 (Int.mul x19 (Int.ofNat 2))) fun x20 =>
ck (Bool.not (eqI (Int.ofNat 100) 0)) (fI (Int.tmod x13 (Int.ofNat 100)) fun x21 =>
fI (wrapF .u32 (Int.mul x21 (Int.ofNat 2))) fun x22 =>
asI .i64 v2.2.2.1 fun x23 =>
fI (wrapF .i64 (Int.sub x23 (Int.ofNat 1))) fun x24 =>
asI .i64 v2.2.2.1 fun x25 =>
fI (wrapF .i64 (Int.sub x25 (Int.ofNat 2))) fun x26 =>
fI (wrapF .u32 (Int.add x18 (Int.ofNat 1))) fun x27 =>
ixsK (AV.str ⟨200, 8369396053099643259884660439900312228746471110943504458504829912206407100469475510520505676855750014530596077689858408204562721349408824591789441711103775826291439126061900675989976254244761425382494394669896706626295868329681710377411642562040512013377776180902291979747008038411282346274188424097310996521951660972735479027990947060043115083917949168200323041593656569302669535377774123378085539195783572932112166539323561441937920580889744256865042652178519653545620815178381625⟩) (AV.int .u32 x27) fun x28 =>
ixsK (AV.str ⟨200, 8369396053099643259884660439900312228746471110943504458504829912206407100469475510520505676855750014530596077689858408204562721349408824591789441711103775826291439126061900675989976254244761425382494394669896706626295868329681710377411642562040512013377776180902291979747008038411282346274188424097310996521951660972735479027990947060043115083917949168200323041593656569302669535377774123378085539195783572932112166539323561441937920580889744256865042652178519653545620815178381625⟩) (AV.int .u32 x18) fun x29 =>
ixK 1 v2.1 (AV.int .i64 x24) fun p30 =>
stV p30 (AV.int .u8 x28) h4 fun h31 =>
ixK 1 v2.1 (AV.int .i64 x26) fun p32 =>
stV p32 (AV.int .u8 x29) h31 fun h33 =>
asI .i64 v2.2.2.1 fun x34 =>
fI (wrapF .i64 (Int.sub x34 (Int.ofNat 3))) fun x35 =>
asI .i64 v2.2.2.1 fun x36 =>
fI (wrapF .i64 (Int.sub x36 (Int.ofNat 4))) fun x37 =>
fI (wrapF .u32 (Int.add x16 (Int.ofNat 1))) fun x38 =>
ixsK (AV.str ⟨200, 8369396053099643259884660439900312228746471110943504458504829912206407100469475510520505676855750014530596077689858408204562721349408824591789441711103775826291439126061900675989976254244761425382494394669896706626295868329681710377411642562040512013377776180902291979747008038411282346274188424097310996521951660972735479027990947060043115083917949168200323041593656569302669535377774123378085539195783572932112166539323561441937920580889744256865042652178519653545620815178381625⟩) (AV.int .u32 x38) fun x39 =>
ixsK (AV.str ⟨200, 8369396053099643259884660439900312228746471110943504458504829912206407100469475510520505676855750014530596077689858408204562721349408824591789441711103775826291439126061900675989976254244761425382494394669896706626295868329681710377411642562040512013377776180902291979747008038411282346274188424097310996521951660972735479027990947060043115083917949168200323041593656569302669535377774123378085539195783572932112166539323561441937920580889744256865042652178519653545620815178381625⟩) (AV.int .u32 x16) fun x40 =>
ixK 1 v2.1 (AV.int .i64 x35) fun p41 =>
stV p41 (AV.int .u8 x39) h33 fun h42 =>
ixK 1 v2.1 (AV.int .i64 x37) fun p43 =>
stV p43 (AV.int .u8 x40) h42 fun h44 =>
asI .i64 v2.2.2.1 fun x45 =>
fI (wrapF .i64 (Int.sub x45 (Int.ofNat 5))) fun x46 =>
asI .i64 v2.2.2.1 fun x47 =>
fI (wrapF .i64 (Int.sub x47 (Int.ofNat 6))) fun x48 =>
fI (wrapF .u32 (Int.add x22 (Int.ofNat 1))) fun x49 =>
ixsK (AV.str ⟨200, 8369396053099643259884660439900312228746471110943504458504829912206407100469475510520505676855750014530596077689858408204562721349408824591789441711103775826291439126061900675989976254244761425382494394669896706626295868329681710377411642562040512013377776180902291979747008038411282346274188424097310996521951660972735479027990947060043115083917949168200323041593656569302669535377774123378085539195783572932112166539323561441937920580889744256865042652178519653545620815178381625⟩) (AV.int .u32 x49) fun x50 =>
ixsK (AV.str ⟨200, 8369396053099643259884660439900312228746471110943504458504829912206407100469475510520505676855750014530596077689858408204562721349408824591789441711103775826291439126061900675989976254244761425382494394669896706626295868329681710377411642562040512013377776180902291979747008038411282346274188424097310996521951660972735479027990947060043115083917949168200323041593656569302669535377774123378085539195783572932112166539323561441937920580889744256865042652178519653545620815178381625⟩) (AV.int .u32 x22) fun x51 =>
ixK 1 v2.1 (AV.int .i64 x46) fun p52 =>
stV p52 (AV.int .u8 x50) h44 fun h53 =>
ixK 1 v2.1 (AV.int .i64 x48) fun p54 =>
stV p54 (AV.int .u8 x51) h53 fun h55 =>
asI .i64 v2.2.2.1 fun x56 =>
fI (wrapF .i64 (Int.sub x56 (Int.ofNat 7))) fun x57 =>
asI .i64 v2.2.2.1 fun x58 =>
fI (wrapF .i64 (Int.sub x58 (Int.ofNat 8))) fun x59 =>
fI (wrapF .u32 (Int.add x20 (Int.ofNat 1))) fun x60 =>
ixsK (AV.str ⟨200, 8369396053099643259884660439900312228746471110943504458504829912206407100469475510520505676855750014530596077689858408204562721349408824591789441711103775826291439126061900675989976254244761425382494394669896706626295868329681710377411642562040512013377776180902291979747008038411282346274188424097310996521951660972735479027990947060043115083917949168200323041593656569302669535377774123378085539195783572932112166539323561441937920580889744256865042652178519653545620815178381625⟩) (AV.int .u32 x60) fun x61 =>
ixsK (AV.str ⟨200, 8369396053099643259884660439900312228746471110943504458504829912206407100469475510520505676855750014530596077689858408204562721349408824591789441711103775826291439126061900675989976254244761425382494394669896706626295868329681710377411642562040512013377776180902291979747008038411282346274188424097310996521951660972735479027990947060043115083917949168200323041593656569302669535377774123378085539195783572932112166539323561441937920580889744256865042652178519653545620815178381625⟩) (AV.int .u32 x20) fun x62 =>
ixK 1 v2.1 (AV.int .i64 x57) fun p63 =>
stV p63 (AV.int .u8 x61) h55 fun h64 =>
ixK 1 v2.1 (AV.int .i64 x59) fun p65 =>
stV p65 (AV.int .u8 x62) h64 fun h66 =>
asI .i64 v2.2.2.1 fun x67 =>
fI (wrapF .i64 (Int.sub x67 (Int.ofNat 8))) fun x68 =>
r5 (v2.1, (AV.int .u64 x12), (AV.int .i64 x68), ()) d3 h66))))))))) (
asI .u64 v2.2.1 fun x69 =>
fI (wrapF .u32 x69) fun x70 =>
J.jd (α := AV × AV × AV × Unit) (fun v71 d72 h73 =>
J.jd (α := AV × AV × AV × Unit) (fun v75 d76 h77 =>
asI .i64 v75.2.1 fun x79 =>
fB (ltI (Int.ofNat 0) x79) fun b80 =>
br b80 (
asI .u32 v75.2.2.1 fun x81 =>
fI (wrapF .u32 (Int.add (Int.ofNat 48) x81)) fun x82 =>
fI (wrapF .u8 x82) fun x83 =>
ixK 1 v75.1 (AV.int .i64 (Int.ofNat 0)) fun p84 =>
stV p84 (AV.int .u8 x83) h77 fun h85 =>
leaveK (gam J []) d76 h85 fun h86 =>
k  h86) (
leaveK (gam J []) d76 h77 fun h87 =>
k  h87)) fun j78 =>
asI .i64 v71.2.1 fun x88 =>
fB (Bool.not (ltI x88 (Int.ofNat 2))) fun b89 =>
br b89 (
asI .u32 v71.2.2.1 fun x90 =>
ck (Bool.not (eqI (Int.ofNat 100) 0)) (fI (Int.tmod x90 (Int.ofNat 100)) fun x91 =>
fI (wrapF .u32 (Int.mul x91 (Int.ofNat 2))) fun x92 =>
asI .u32 v71.2.2.1 fun x93 =>
ck (Bool.not (eqI (Int.ofNat 100) 0)) (fI (wrapF .u32 (Int.tdiv x93 (Int.ofNat 100))) fun x94 =>
asI .i64 v71.2.1 fun x95 =>
fI (wrapF .i64 (Int.sub x95 (Int.ofNat 1))) fun x96 =>
asI .i64 v71.2.1 fun x97 =>
fI (wrapF .i64 (Int.sub x97 (Int.ofNat 2))) fun x98 =>
fI (wrapF .u32 (Int.add x92 (Int.ofNat 1))) fun x99 =>
ixsK (AV.str ⟨200, 8369396053099643259884660439900312228746471110943504458504829912206407100469475510520505676855750014530596077689858408204562721349408824591789441711103775826291439126061900675989976254244761425382494394669896706626295868329681710377411642562040512013377776180902291979747008038411282346274188424097310996521951660972735479027990947060043115083917949168200323041593656569302669535377774123378085539195783572932112166539323561441937920580889744256865042652178519653545620815178381625⟩) (AV.int .u32 x99) fun x100 =>
ixsK (AV.str ⟨200, 8369396053099643259884660439900312228746471110943504458504829912206407100469475510520505676855750014530596077689858408204562721349408824591789441711103775826291439126061900675989976254244761425382494394669896706626295868329681710377411642562040512013377776180902291979747008038411282346274188424097310996521951660972735479027990947060043115083917949168200323041593656569302669535377774123378085539195783572932112166539323561441937920580889744256865042652178519653545620815178381625⟩) (AV.int .u32 x92) fun x101 =>
ixK 1 v71.1 (AV.int .i64 x96) fun p102 =>
stV p102 (AV.int .u8 x100) h73 fun h103 =>
ixK 1 v71.1 (AV.int .i64 x98) fun p104 =>
stV p104 (AV.int .u8 x101) h103 fun h105 =>
asI .i64 v71.2.1 fun x106 =>
fI (wrapF .i64 (Int.sub x106 (Int.ofNat 2))) fun x107 =>
j78 (v71.1, (AV.int .i64 x107), (AV.int .u32 x94), ()) d72 h105))) (
j78 (v71.1, v71.2.1, v71.2.2.1, ()) d72 h73)) fun j74 =>
asI .i64 v2.2.2.1 fun x108 =>
fB (Bool.not (ltI x108 (Int.ofNat 4))) fun b109 =>
br b109 (
ck (Bool.not (eqI (Int.ofNat 10000) 0)) (fI (Int.tmod x70 (Int.ofNat 10000)) fun x110 =>
ck (Bool.not (eqI (Int.ofNat 10000) 0)) (fI (wrapF .u32 (Int.tdiv x70 (Int.ofNat 10000))) fun x111 =>
ck (Bool.not (eqI (Int.ofNat 100) 0)) (fI (wrapF .u32 (Int.tdiv x110 (Int.ofNat 100))) fun x112 =>
fI (wrapF .u32 (Int.mul x112 (Int.ofNat 2))) fun x113 =>
ck (Bool.not (eqI (Int.ofNat 100) 0)) (fI (Int.tmod x110 (Int.ofNat 100)) fun x114 =>
fI (wrapF .u32 (Int.mul x114 (Int.ofNat 2))) fun x115 =>
asI .i64 v2.2.2.1 fun x116 =>
fI (wrapF .i64 (Int.sub x116 (Int.ofNat 1))) fun x117 =>
asI .i64 v2.2.2.1 fun x118 =>
fI (wrapF .i64 (Int.sub x118 (Int.ofNat 2))) fun x119 =>
fI (wrapF .u32 (Int.add x115 (Int.ofNat 1))) fun x120 =>
ixsK (AV.str ⟨200, 8369396053099643259884660439900312228746471110943504458504829912206407100469475510520505676855750014530596077689858408204562721349408824591789441711103775826291439126061900675989976254244761425382494394669896706626295868329681710377411642562040512013377776180902291979747008038411282346274188424097310996521951660972735479027990947060043115083917949168200323041593656569302669535377774123378085539195783572932112166539323561441937920580889744256865042652178519653545620815178381625⟩) (AV.int .u32 x120) fun x121 =>
ixsK (AV.str ⟨200, 8369396053099643259884660439900312228746471110943504458504829912206407100469475510520505676855750014530596077689858408204562721349408824591789441711103775826291439126061900675989976254244761425382494394669896706626295868329681710377411642562040512013377776180902291979747008038411282346274188424097310996521951660972735479027990947060043115083917949168200323041593656569302669535377774123378085539195783572932112166539323561441937920580889744256865042652178519653545620815178381625⟩) (AV.int .u32 x115) fun x122 =>
ixK 1 v2.1 (AV.int .i64 x117) fun p123 =>
stV p123 (AV.int .u8 x121) h4 fun h124 =>
ixK 1 v2.1 (AV.int .i64 x119) fun p125 =>
stV p125 (AV.int .u8 x122) h124 fun h126 =>
asI .i64 v2.2.2.1 fun x127 =>
fI (wrapF .i64 (Int.sub x127 (Int.ofNat 3))) fun x128 =>
asI .i64 v2.2.2.1 fun x129 =>
fI (wrapF .i64 (Int.sub x129 (Int.ofNat 4))) fun x130 =>
fI (wrapF .u32 (Int.add x113 (Int.ofNat 1))) fun x131 =>
ixsK (AV.str ⟨200, 8369396053099643259884660439900312228746471110943504458504829912206407100469475510520505676855750014530596077689858408204562721349408824591789441711103775826291439126061900675989976254244761425382494394669896706626295868329681710377411642562040512013377776180902291979747008038411282346274188424097310996521951660972735479027990947060043115083917949168200323041593656569302669535377774123378085539195783572932112166539323561441937920580889744256865042652178519653545620815178381625⟩) (AV.int .u32 x131) fun x132 =>
ixsK (AV.str ⟨200, 8369396053099643259884660439900312228746471110943504458504829912206407100469475510520505676855750014530596077689858408204562721349408824591789441711103775826291439126061900675989976254244761425382494394669896706626295868329681710377411642562040512013377776180902291979747008038411282346274188424097310996521951660972735479027990947060043115083917949168200323041593656569302669535377774123378085539195783572932112166539323561441937920580889744256865042652178519653545620815178381625⟩) (AV.int .u32 x113) fun x133 =>
ixK 1 v2.1 (AV.int .i64 x128) fun p134 =>
stV p134 (AV.int .u8 x132) h126 fun h135 =>
ixK 1 v2.1 (AV.int .i64 x130) fun p136 =>
stV p136 (AV.int .u8 x133) h135 fun h137 =>
asI .i64 v2.2.2.1 fun x138 =>
fI (wrapF .i64 (Int.sub x138 (Int.ofNat 4))) fun x139 =>
j74 (v2.1, (AV.int .i64 x139), (AV.int .u32 x111), ()) d3 h137))))) (
j74 (v2.1, v2.2.2.1, (AV.int .u32 x70), ()) d3 h4))) (a0, (AV.int .u64 a1), (AV.int .i64 (Int.ofNat x1)), ()) [] h
noncomputable def s89 : AV → Int → H → (H → Prop) → Prop := s89G J0 
noncomputable def w89 (c : AV → Int → H → (H → Prop) → Prop) : Fun := fun xs h k => arg xs fun a0 xs => arg xs fun a1 xs => noArg xs <| asI .u64 a1 fun a1 => c a0 a1 h fun  h => k (.tuple []) h
theorem s89_eq (J : Joins) (a0 : AV) (a1 : Int) (h : H) (k : AV → H → Prop) : denF ty (gam J []) Tryz.f89 [a0, (.int .u64 a1)] h k = s89G J  a0 a1 h (fun  h => k (.tuple []) h) := by kernel_rfl
noncomputable def g89 : Fun := w89 s89
theorem g89_ok : FunOk Tryz.prog 89 g89 := (fun_ok ty_ok mixed (gam_ok (J := J0) (tab_nil fls_fun)) Tryz.func89 (fun args w => by simp)).imp fun xs h k e0 => by
  obtain ⟨a0, xs0, rfl, e1⟩ := arg_imp e0
  obtain ⟨a1, xs1, rfl, e2⟩ := arg_imp e1
  obtain ⟨rfl, e3⟩ := noArg_imp e2
  obtain ⟨a1, rfl, e4⟩ := asI_iff.1 e3
  exact (s89_eq J0  a0 a1 h k).mpr e4
/-- internal/strconv.FormatInt -/
noncomputable def s73G (J : Joins) (c87 : Int → H → (Str → H → Prop) → Prop) (c88 : Int → H → (Int → H → Prop) → Prop) (c89 : AV → Int → H → (H → Prop) → Prop) (a0 : Int) (a1 : Int) (h : H) (k : Str → H → Prop) : Prop :=
fB (eqI a1 (Int.ofNat 10)) fun b1 =>
br b1 (
fB (Bool.not (ltI a0 (Int.ofNat 0))) fun b2 =>
J.jn (fun v3 h4 =>
J.jn (fun v6 h7 =>
pickB (AV.bool b2) v6 (AV.bool false) fun b11 =>
br b11 (
c87 a0 h7 fun s13 h12 =>
k s13 h12) (
pushK (.cells false 135 [(.int .u8 0), (.int .u8 0), (.int .u8 0), (.int .u8 0), (.int .u8 0), (.int .u8 0), (.int .u8 0), (.int .u8 0), (.int .u8 0), (.int .u8 0), (.int .u8 0), (.int .u8 0), (.int .u8 0), (.int .u8 0), (.int .u8 0), (.int .u8 0), (.int .u8 0), (.int .u8 0), (.int .u8 0), (.int .u8 0), (.int .u8 0), (.int .u8 0), (.int .u8 0), (.int .u8 0)]) h7 fun n14 h15 =>
fI (wrapF .u64 a0) fun x16 =>
J.jd (α := AV × AV × AV × Unit) (fun v17 d18 h19 =>
asI .u64 v17.2.2.1 fun x22 =>
c88 x22 h19 fun x23 h21 =>
fI (wrapF .i64 (Int.add (Int.ofNat 1) x23)) fun x24 =>
op2 (aSliceArr 24 v17.2.1 (some (AV.int .i64 (Int.ofNat 1))) (some (AV.int .i64 x24)) h21) fun v25 h26 =>
asI .u64 v17.2.2.1 fun x28 =>
c89 v25 x28 h26 fun  h27 =>
asI .i64 v17.1 fun x29 =>
fB (ltI x29 (Int.ofNat 0)) fun b30 =>
br b30 (
ixaK 24 1 v17.2.1 (AV.int .i64 (Int.ofNat 0)) fun p31 =>
stV p31 (AV.int .u8 (Int.ofNat 45)) h27 fun h32 =>
fI (wrapF .i64 (Int.add (Int.ofNat 1) x23)) fun x33 =>
op2 (aSliceArr 24 v17.2.1 none (some (AV.int .i64 x33)) h32) fun v34 h35 =>
toStrK v34 h35 fun s36 =>
leaveK (gam J [(87, w87 c87), (88, w88 c88), (89, w89 c89)]) d18 h35 fun h37 =>
k s36 h37) (
fI (wrapF .i64 (Int.add (Int.ofNat 1) x23)) fun x38 =>
op2 (aSliceArr 24 v17.2.1 (some (AV.int .i64 (Int.ofNat 1))) (some (AV.int .i64 x38)) h27) fun v39 h40 =>
toStrK v39 h40 fun s41 =>
leaveK (gam J [(87, w87 c87), (88, w88 c88), (89, w89 c89)]) d18 h40 fun h42 =>
k s41 h42)) fun j20 =>
fB (ltI a0 (Int.ofNat 0)) fun b43 =>
br b43 (
op' (aUn .neg (AV.int .u64 x16)) fun v44 =>
asI .u64 v44 fun x45 =>
j20 ((AV.int .i64 a0), (AV.ptr n14 0), (AV.int .u64 x45), ()) [] h15) (
j20 ((AV.int .i64 a0), (AV.ptr n14 0), (AV.int .u64 x16), ()) [] h15))) fun j8 =>
br b2 (
asI .i64 v3 fun x9 =>
fB (ltI x9 (Int.ofNat 100)) fun b10 =>
j8 (AV.bool b10) h4) (
j8 skipV h4)) fun j5 =>
br b2 (
j5 (AV.int .i64 a0) h) (
j5 skipV h)) (
fI (wrapF .u64 a0) fun x46 =>
fB (ltI a0 (Int.ofNat 0)) fun b47 =>
False)
noncomputable def s73 : Int → Int → H → (Str → H → Prop) → Prop := s73G J0 s87 s88 s89
noncomputable def w73 (c : Int → Int → H → (Str → H → Prop) → Prop) : Fun := fun xs h k => arg xs fun a0 xs => arg xs fun a1 xs => noArg xs <| asI .i64 a0 fun a0 => asI .i64 a1 fun a1 => c a0 a1 h fun r0 h => k (.str r0) h
theorem s73_eq (J : Joins) (c87 : Int → H → (Str → H → Prop) → Prop) (c88 : Int → H → (Int → H → Prop) → Prop) (c89 : AV → Int → H → (H → Prop) → Prop) (a0 : Int) (a1 : Int) (h : H) (k : AV → H → Prop) : denF ty (gam J [(87, w87 c87), (88, w88 c88), (89, w89 c89)]) Tryz.f73 [(.int .i64 a0), (.int .i64 a1)] h k = s73G J c87 c88 c89 a0 a1 h (fun r0 h => k (.str r0) h) := by kernel_rfl
noncomputable def g73 : Fun := w73 s73
theorem g73_ok : FunOk Tryz.prog 73 g73 := (fun_ok ty_ok mixed (gam_ok (J := J0) (tab_cons g87_ok (tab_cons g88_ok (tab_cons g89_ok (tab_nil fls_fun))))) Tryz.func73 (fun args w => by simp)).imp fun xs h k e0 => by
  obtain ⟨a0, xs0, rfl, e1⟩ := arg_imp e0
  obtain ⟨a1, xs1, rfl, e2⟩ := arg_imp e1
  obtain ⟨rfl, e3⟩ := noArg_imp e2
  obtain ⟨a0, rfl, e4⟩ := asI_iff.1 e3
  obtain ⟨a1, rfl, e5⟩ := asI_iff.1 e4
  exact (s73_eq J0 s87 s88 s89 a0 a1 h k).mpr e5
/-- internal/strconv.Itoa -/
noncomputable def s53G (J : Joins) (c73 : Int → Int → H → (Str → H → Prop) → Prop) (a0 : Int) (h : H) (k : Str → H → Prop) : Prop :=
c73 a0 (Int.ofNat 10) h fun s2 h1 =>
k s2 h1
noncomputable def s53 : Int → H → (Str → H → Prop) → Prop := s53G J0 s73
noncomputable def w53 (c : Int → H → (Str → H → Prop) → Prop) : Fun := fun xs h k => arg xs fun a0 xs => noArg xs <| asI .i64 a0 fun a0 => c a0 h fun r0 h => k (.str r0) h
theorem s53_eq (J : Joins) (c73 : Int → Int → H → (Str → H → Prop) → Prop) (a0 : Int) (h : H) (k : AV → H → Prop) : denF ty (gam J [(73, w73 c73)]) Tryz.f53 [(.int .i64 a0)] h k = s53G J c73 a0 h (fun r0 h => k (.str r0) h) := by kernel_rfl
noncomputable def g53 : Fun := w53 s53
theorem g53_ok : FunOk Tryz.prog 53 g53 := (fun_ok ty_ok mixed (gam_ok (J := J0) (tab_cons g73_ok (tab_nil fls_fun))) Tryz.func53 (fun args w => by simp)).imp fun xs h k e0 => by
  obtain ⟨a0, xs0, rfl, e1⟩ := arg_imp e0
  obtain ⟨rfl, e2⟩ := noArg_imp e1
  obtain ⟨a0, rfl, e3⟩ := asI_iff.1 e2
  exact (s53_eq J0 s73 a0 h k).mpr e3
/-- strconv.Itoa -/
noncomputable def s36G (J : Joins) (c53 : Int → H → (Str → H → Prop) → Prop) (a0 : Int) (h : H) (k : Str → H → Prop) : Prop :=
c53 a0 h fun s2 h1 =>
k s2 h1
noncomputable def s36 : Int → H → (Str → H → Prop) → Prop := s36G J0 s53
noncomputable def w36 (c : Int → H → (Str → H → Prop) → Prop) : Fun := fun xs h k => arg xs fun a0 xs => noArg xs <| asI .i64 a0 fun a0 => c a0 h fun r0 h => k (.str r0) h
theorem s36_eq (J : Joins) (c53 : Int → H → (Str → H → Prop) → Prop) (a0 : Int) (h : H) (k : AV → H → Prop) : denF ty (gam J [(53, w53 c53)]) Tryz.f36 [(.int .i64 a0)] h k = s36G J c53 a0 h (fun r0 h => k (.str r0) h) := by kernel_rfl
noncomputable def g36 : Fun := w36 s36
theorem g36_ok : FunOk Tryz.prog 36 g36 := (fun_ok ty_ok mixed (gam_ok (J := J0) (tab_cons g53_ok (tab_nil fls_fun))) Tryz.func36 (fun args w => by simp)).imp fun xs h k e0 => by
  obtain ⟨a0, xs0, rfl, e1⟩ := arg_imp e0
  obtain ⟨rfl, e2⟩ := noArg_imp e1
  obtain ⟨a0, rfl, e3⟩ := asI_iff.1 e2
  exact (s36_eq J0 s53 a0 h k).mpr e3
/-- math/bits.Mul32 -/
noncomputable def g74 : Fun := denFS ty (gam J0 []) Tryz.f74
theorem g74_ok : FunOk Tryz.prog 74 g74 := fun_okS ty_ok mixed (gam_ok (J := J0) (tab_nil fls_fun)) Tryz.func74 (fun args w => by simp)
/-- math/bits.Mul64 -/
noncomputable def g75 : Fun := denFS ty (gam J0 []) Tryz.f75
theorem g75_ok : FunOk Tryz.prog 75 g75 := fun_okS ty_ok mixed (gam_ok (J := J0) (tab_nil fls_fun)) Tryz.func75 (fun args w => by simp)
/-- math/bits.Mul -/
noncomputable def g54 : Fun := denFS ty (gam J0 [(74, g74), (75, g75)]) Tryz.f54
theorem g54_ok : FunOk Tryz.prog 54 g54 := fun_okS ty_ok mixed (gam_ok (J := J0) (tab_cons g74_ok (tab_cons g75_ok (tab_nil fls_fun)))) Tryz.func54 (fun args w => by simp)
/-- internal/stringslite.HasPrefix -/
noncomputable def g76 : Fun := denFS ty (gam J0 []) Tryz.f76
theorem g76_ok : FunOk Tryz.prog 76 g76 := fun_okS ty_ok mixed (gam_ok (J := J0) (tab_nil fls_fun)) Tryz.func76 (fun args w => by simp)
/-- strings.HasPrefix -/
noncomputable def g55 : Fun := denFS ty (gam J0 [(76, g76)]) Tryz.f55
theorem g55_ok : FunOk Tryz.prog 55 g55 := fun_okS ty_ok mixed (gam_ok (J := J0) (tab_cons g76_ok (tab_nil fls_fun))) Tryz.func55 (fun args w => by simp)
end Go.Proofs.YtcohflkjinpcpaaGreatDoor
