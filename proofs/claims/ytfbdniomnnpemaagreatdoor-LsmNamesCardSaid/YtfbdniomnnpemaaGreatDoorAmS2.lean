/- Functions as they are reckoned. MADE BY PROGRAM (wip/tools/shal.py). -/
import Derived.Test.YtfbdniomnnpemaaGreatDoorAmS1
namespace Go.Proofs.YtfbdniomnnpemaaGreatDoor
open Go Go.Am
set_option maxRecDepth 100000
set_option linter.all false
/-- (*stagepost/mem.Table).All$1 -/
noncomputable def g90 : Fun := denFS ty (gam J0 [(78, g78)]) Tryz.f90
theorem g90_ok : FunOk Tryz.prog 90 g90 := fun_okS ty_ok mixed (gam_ok (J := J0) (tab_cons g78_ok (tab_nil fls_fun))) Tryz.func90 (fun args w => by simp)
/-- function 90 as function 89 ranges over it -/
noncomputable def it90_89 : Fun := denF ty (gamI J0 [(78, g78)] [] (denR ty (gamI J0 [] [] noCode))) Tryz.f90
theorem it90_89_ok : ItOk Tryz.prog 90 it90_89 := it_ok ty_ok mixed (gamI_ok (J := J0) (tab_cons g78_ok (tab_nil fls_fun)) (tab_nil fls_it) (code_ok ty_ok mixed (gamI_ok (J := J0) (tab_nil fls_fun) (tab_nil fls_it) noCode_ok))) Tryz.func90 (fun args w => by simp)
/-- slices.AppendSeq[[]stagepost/api.Entry,stagepost/api.Entry] -/
noncomputable def g89 : Fun := denFS ty (gamI J0 [] [(90, it90_89)] noCode) Tryz.f89
theorem g89_ok : FunOk Tryz.prog 89 g89 := fun_okS ty_ok mixed (gamI_ok (J := J0) (tab_nil fls_fun) (tab_cons it90_89_ok (tab_nil fls_it)) noCode_ok) Tryz.func89 (fun args w => by simp)
/-- slices.Collect[stagepost/api.Entry] -/
noncomputable def g31 : Fun := denFS ty (gam J0 [(89, g89)]) Tryz.f31
theorem g31_ok : FunOk Tryz.prog 31 g31 := fun_okS ty_ok mixed (gam_ok (J := J0) (tab_cons g89_ok (tab_nil fls_fun))) Tryz.func31 (fun args w => by simp)
/-- (*stagepost/mem.Table).All -/
noncomputable def g32 : Fun := denFS ty (gam J0 [(90, g90)]) Tryz.f32
theorem g32_ok : FunOk Tryz.prog 32 g32 := fun_okS ty_ok mixed (gam_ok (J := J0) (tab_cons g90_ok (tab_nil fls_fun))) Tryz.func32 (fun args w => by simp)
/-- stagepost/lsm.meets -/
noncomputable def g33 : Fun := denFS ty (gam J0 []) Tryz.f33
theorem g33_ok : FunOk Tryz.prog 33 g33 := fun_okS ty_ok mixed (gam_ok (J := J0) (tab_nil fls_fun)) Tryz.func33 (fun args w => by simp)
/-- stagepost/enc.In -/
noncomputable def g91 : Fun := denFS ty (gam J0 []) Tryz.f91
theorem g91_ok : FunOk Tryz.prog 91 g91 := fun_okS ty_ok mixed (gam_ok (J := J0) (tab_nil fls_fun)) Tryz.func91 (fun args w => by simp)
/-- (*stagepost/sst.Table).Scan -/
noncomputable def g34 : Fun := denFS ty (gam J0 [(82, g82), (87, g87), (91, g91)]) Tryz.f34
theorem g34_ok : FunOk Tryz.prog 34 g34 := fun_okS ty_ok mixed (gam_ok (J := J0) (tab_cons g82_ok (tab_cons g87_ok (tab_cons g91_ok (tab_nil fls_fun))))) Tryz.func34 (fun args w => by simp)
/-- slices.Clone[[][]stagepost/api.Entry,[]stagepost/api.Entry] -/
noncomputable def g93 : Fun := denFS ty (gam J0 []) Tryz.f93
theorem g93_ok : FunOk Tryz.prog 93 g93 := fun_okS ty_ok mixed (gam_ok (J := J0) (tab_nil fls_fun)) Tryz.func93 (fun args w => by simp)
/-- stagepost/block.Merge -/
noncomputable def g35 : Fun := denFS ty (gam J0 [(86, g86), (92, g92), (93, g93)]) Tryz.f35
theorem g35_ok : FunOk Tryz.prog 35 g35 := fun_okS ty_ok mixed (gam_ok (J := J0) (tab_cons g86_ok (tab_cons g92_ok (tab_cons g93_ok (tab_nil fls_fun))))) Tryz.func35 (fun args w => by simp)
/-- stagepost/block.Visible -/
noncomputable def g36 : Fun := denFS ty (gam J0 [(91, g91)]) Tryz.f36
theorem g36_ok : FunOk Tryz.prog 36 g36 := fun_okS ty_ok mixed (gam_ok (J := J0) (tab_cons g91_ok (tab_nil fls_fun))) Tryz.func36 (fun args w => by simp)
/-- (*stagepost/lsm.Store).Scan -/
noncomputable def g7 : Fun := denFS ty (gam J0 [(25, g25), (27, g27), (29, g29), (31, g31), (32, g32), (33, g33), (34, g34), (35, g35), (36, g36)]) Tryz.f7
theorem g7_ok : FunOk Tryz.prog 7 g7 := fun_okS ty_ok mixed (gam_ok (J := J0) (tab_cons g25_ok (tab_cons g27_ok (tab_cons g29_ok (tab_cons g31_ok (tab_cons g32_ok (tab_cons g33_ok (tab_cons g34_ok (tab_cons g35_ok (tab_cons g36_ok (tab_nil fls_fun))))))))))) Tryz.func7 (fun args w => by simp)
/-- (*stagepost/lsm.Store).Snapshot -/
noncomputable def g8 : Fun := denFS ty (gam J0 [(23, g23), (37, g37)]) Tryz.f8
theorem g8_ok : FunOk Tryz.prog 8 g8 := fun_okS ty_ok mixed (gam_ok (J := J0) (tab_cons g23_ok (tab_cons g37_ok (tab_nil fls_fun)))) Tryz.func8 (fun args w => by simp)
/-- (*stagepost/lsm.Store).Release -/
noncomputable def g9 : Fun := denFS ty (gam J0 [(23, g23)]) Tryz.f9
theorem g9_ok : FunOk Tryz.prog 9 g9 := fun_okS ty_ok mixed (gam_ok (J := J0) (tab_cons g23_ok (tab_nil fls_fun))) Tryz.func9 (fun args w => by simp)
/-- (*stagepost/mem.Table).Len -/
noncomputable def g38 : Fun := denFS ty (gam J0 [(78, g78)]) Tryz.f38
theorem g38_ok : FunOk Tryz.prog 38 g38 := fun_okS ty_ok mixed (gam_ok (J := J0) (tab_cons g78_ok (tab_nil fls_fun))) Tryz.func38 (fun args w => by simp)
/-- (*stagepost/lsm.Store).Flush$1 -/
noncomputable def g39 : Fun := denFS ty (gam J0 [(25, g25)]) Tryz.f39
theorem g39_ok : FunOk Tryz.prog 39 g39 := fun_okS ty_ok mixed (gam_ok (J := J0) (tab_cons g25_ok (tab_nil fls_fun))) Tryz.func39 (fun args w => by simp)
/-- (*stagepost/lsm.Store).cuts -/
noncomputable def g40 : Fun := denFS ty (gam J0 []) Tryz.f40
theorem g40_ok : FunOk Tryz.prog 40 g40 := fun_okS ty_ok mixed (gam_ok (J := J0) (tab_nil fls_fun)) Tryz.func40 (fun args w => by simp)
/-- (*stagepost/lsm.Store).plan -/
noncomputable def g41 : Fun := denFS ty (gam J0 [(29, g29)]) Tryz.f41
theorem g41_ok : FunOk Tryz.prog 41 g41 := fun_okS ty_ok mixed (gam_ok (J := J0) (tab_cons g29_ok (tab_nil fls_fun))) Tryz.func41 (fun args w => by simp)
/-- slices.Clone[[]byte,byte] -/
noncomputable def s105G (J : Joins) (a0 : AV) (h : H) (k : AV → H → Prop) : Prop :=
nilB 2 a0 fun b1 =>
br b1 (
k AV.nils h) (
op' (asRow true 5 []) fun k4 =>
pushK k4 h fun n2 h3 =>
apB (.slice 5) 5 (AV.slice n2 0 0 0 1 true) a0 h3 fun v5 h6 =>
k v5 h6)
noncomputable def s105 : AV → H → (AV → H → Prop) → Prop := s105G J0 
noncomputable def w105 (c : AV → H → (AV → H → Prop) → Prop) : Fun := fun xs h k => arg xs fun a0 xs => noArg xs <| c a0 h fun r0 h => k r0 h
theorem s105_eq (J : Joins) (a0 : AV) (h : H) (k : AV → H → Prop) : denF ty (gam J []) Tryz.f105 [a0] h k = s105G J  a0 h (fun r0 h => k r0 h) := by kernel_rfl
noncomputable def g105 : Fun := w105 s105
theorem g105_ok : FunOk Tryz.prog 105 g105 := (fun_ok ty_ok mixed (gam_ok (J := J0) (tab_nil fls_fun)) Tryz.func105 (fun args w => by simp)).imp fun xs h k e0 => by
  obtain ⟨a0, xs0, rfl, e1⟩ := arg_imp e0
  obtain ⟨rfl, e2⟩ := noArg_imp e1
  exact (s105_eq J0  a0 h k).mpr e2
/-- s105, of which less may be asked -/
def up105 : AV → H → (AV → H → Prop) → Prop := fun a0 h k => ∃ K : AV → H → Prop, s105 a0 h K ∧ ∀ r0 h', K r0 h' → k r0 h'
theorem up105_ok : FunOk Tryz.prog 105 (w105 up105) := g105_ok.up fun xs h k e0 => by
  obtain ⟨a0, xs0, rfl, e1⟩ := arg_imp e0
  obtain ⟨rfl, e2⟩ := noArg_imp e1
  obtain ⟨K, q1, q2⟩ := e2
  refine ⟨fun r h' => ∃ r0, r = r0 ∧ K r0 h', ?_, ?_⟩
  · have hK : (fun r0 h' => ∃ r0', (r0 : AV) = r0' ∧ K r0' h') = K := by funext r0 h'; apply propext; simp
    exact (congrArg (s105 a0 h) hK).mpr q1
  · rintro r h' ⟨r0, rfl, q3⟩; exact q2 _ _ q3
/-- (stagepost/vfs.tree).done -/
noncomputable def s67G (J : Joins) (c105 : AV → H → (AV → H → Prop) → Prop) (a0 : AV) (a1 : AV) (h : H) (k : H → Prop) : Prop :=
Go.Am.asAgg a0 fun l3 =>
pushK (.cells false 60 l3) h fun n1 h2 =>
Go.Am.asAgg a1 fun l6 =>
pushK (.cells false 142 l6) h2 fun n4 h5 =>
ldI .i64 (AV.ptr n4 0) h5 fun x7 =>
fB (eqI x7 (Int.ofNat 0)) fun b8 =>
br b8 (
ldV (AV.ptr n1 0) h5 fun v9 =>
ldI .i64 (AV.ptr n4 3) h5 fun x10 =>
ldV (AV.ptr n1 0) h5 fun v11 =>
ldI .i64 (AV.ptr n4 3) h5 fun x12 =>
op' (aLookup ty 3 117 false v11 (AV.int .i64 x12) h5) fun v13 =>
ldV (AV.ptr n4 4) h5 fun v14 =>
c105 v13 h5 fun v16 h15 =>
ck (readsSo (aLoad1 (AV.ptr n4 4) h15) v14) (
ck (readsSo (aLoad1 (AV.ptr n4 3) h15) (AV.int .i64 x10)) (
ck (readsSo (aLoad1 (AV.ptr n1 0) h15) v9) (
apB (.slice 5) 5 v16 v14 h15 fun v17 h18 =>
ck (readsSo (aLoad1 (AV.ptr n4 3) h18) (AV.int .i64 x10)) (
ck (readsSo (aLoad1 (AV.ptr n1 0) h18) v9) (
op' (mapBlk ty 3 v9 (AV.int .i64 x10) v17 h18) fun k19 =>
putK k19.1 k19.2 h18 fun h20 =>
k  h20)))))) (
fB (eqI x7 (Int.ofNat 1)) fun b21 =>
br b21 (
ldV (AV.ptr n1 1) h5 fun v22 =>
ldS (AV.ptr n4 1) h5 fun s23 =>
ldI .i64 (AV.ptr n4 3) h5 fun x24 =>
op' (mapBlk ty 9 v22 (AV.str s23) (AV.int .i64 x24) h5) fun k25 =>
putK k25.1 k25.2 h5 fun h26 =>
k  h26) (
fB (eqI x7 (Int.ofNat 2)) fun b27 =>
br b27 (
ldS (AV.ptr n4 1) h5 fun s28 =>
ldS (AV.ptr n4 2) h5 fun s29 =>
fB (Bool.not (Str.beq s28 s29)) fun b30 =>
br b30 (
ldV (AV.ptr n1 1) h5 fun v31 =>
ldS (AV.ptr n4 2) h5 fun s32 =>
ldV (AV.ptr n1 1) h5 fun v33 =>
ldS (AV.ptr n4 1) h5 fun s34 =>
op' (aLookup ty 9 3 false v33 (AV.str s34) h5) fun v35 =>
asI .i64 v35 fun x36 =>
op' (mapBlk ty 9 v31 (AV.str s32) (AV.int .i64 x36) h5) fun k37 =>
putK k37.1 k37.2 h5 fun h38 =>
ldV (AV.ptr n1 1) h38 fun v39 =>
ldS (AV.ptr n4 1) h38 fun s40 =>
delK (mapBlkD ty 9 v39 (AV.str s40) h38) h38 fun h42 =>
k  h42) (
k  h5)) (
fB (eqI x7 (Int.ofNat 3)) fun b43 =>
br b43 (
ldV (AV.ptr n1 1) h5 fun v44 =>
ldS (AV.ptr n4 1) h5 fun s45 =>
delK (mapBlkD ty 9 v44 (AV.str s45) h5) h5 fun h47 =>
k  h47) (
k  h5))))
noncomputable def s67 : AV → AV → H → (H → Prop) → Prop := s67G J0 s105
noncomputable def w67 (c : AV → AV → H → (H → Prop) → Prop) : Fun := fun xs h k => arg xs fun a0 xs => arg xs fun a1 xs => noArg xs <| c a0 a1 h fun  h => k (.tuple []) h
theorem s67_eq (J : Joins) (c105 : AV → H → (AV → H → Prop) → Prop) (a0 : AV) (a1 : AV) (h : H) (k : AV → H → Prop) : denF ty (gam J [(105, w105 c105)]) Tryz.f67 [a0, a1] h k = s67G J c105 a0 a1 h (fun  h => k (.tuple []) h) := by kernel_rfl
noncomputable def g67 : Fun := w67 s67
theorem g67_ok : FunOk Tryz.prog 67 g67 := (fun_ok ty_ok mixed (gam_ok (J := J0) (tab_cons g105_ok (tab_nil fls_fun))) Tryz.func67 (fun args w => by simp)).imp fun xs h k e0 => by
  obtain ⟨a0, xs0, rfl, e1⟩ := arg_imp e0
  obtain ⟨a1, xs1, rfl, e2⟩ := arg_imp e1
  obtain ⟨rfl, e3⟩ := noArg_imp e2
  exact (s67_eq J0 s105 a0 a1 h k).mpr e3
/-- s67, of which less may be asked -/
def up67 : AV → AV → H → (H → Prop) → Prop := fun a0 a1 h k => ∃ K : H → Prop, s67 a0 a1 h K ∧ ∀  h', K  h' → k  h'
theorem up67_ok : FunOk Tryz.prog 67 (w67 up67) := g67_ok.up fun xs h k e0 => by
  obtain ⟨a0, xs0, rfl, e1⟩ := arg_imp e0
  obtain ⟨a1, xs1, rfl, e2⟩ := arg_imp e1
  obtain ⟨rfl, e3⟩ := noArg_imp e2
  obtain ⟨K, q1, q2⟩ := e3
  refine ⟨fun r h' => r = .tuple [] ∧ K h', ?_, ?_⟩
  · have hK : (fun  h' => AV.tuple [] = .tuple [] ∧ K h') = K := by funext  h'; apply propext; simp
    exact (congrArg (s67 a0 a1 h) hK).mpr q1
  · rintro r h' ⟨rfl, q3⟩; exact q2 _ q3
/-- maps.clone -/
noncomputable def g211 : Fun := cloneF
theorem g211_ok : FunOk Tryz.prog 211 g211 := cloneF_ok Tryz.func211 (by kernel_rfl) (by kernel_rfl) (by kernel_rfl) (by kernel_rfl)
/-- maps.Clone[map[int][]byte,int,[]byte] -/
noncomputable def g167 : Fun := denFS ty (gam J0 [(211, g211)]) Tryz.f167
theorem g167_ok : FunOk Tryz.prog 167 g167 := fun_okS ty_ok mixed (gam_ok (J := J0) (tab_cons g211_ok (tab_nil fls_fun))) Tryz.func167 (fun args w => by simp)
/-- maps.Clone[map[string]int,string,int] -/
noncomputable def g168 : Fun := denFS ty (gam J0 [(211, g211)]) Tryz.f168
theorem g168_ok : FunOk Tryz.prog 168 g168 := fun_okS ty_ok mixed (gam_ok (J := J0) (tab_cons g211_ok (tab_nil fls_fun))) Tryz.func168 (fun args w => by simp)
/-- (*stagepost/vfs.FS).held -/
noncomputable def s106G (J : Joins) (c67 : AV → AV → H → (H → Prop) → Prop) (c167 : Fun) (c168 : Fun) (a0 : AV) (h : H) (k : AV → H → Prop) : Prop :=
pushK (.cells false 60 [(.nilm), (.nilm)]) h fun n1 h2 =>
okNil a0 (
faK 0 a0 fun p3 =>
faK 0 p3 fun p4 =>
ldV p4 h2 fun v5 =>
okNil a0 (
faK 0 a0 fun p6 =>
faK 1 p6 fun p7 =>
ldV p7 h2 fun v8 =>
pushK (.cells false 60 [(.nilm), (.nilm)]) h2 fun n9 h10 =>
c167 [v5] h10 fun v11 h12 =>
ck (readsSo (aLoad1 p7 h12) v8) (
c168 [v8] h12 fun v13 h14 =>
ck (isOne v11) (ck (isOne v13) (stN 2 (AV.ptr n9 0) [v11, v13] h14 fun h15 =>
okNil a0 (
faK 2 a0 fun p16 =>
ldV p16 h15 fun v17 =>
lenK v17 fun x18 =>
J.lp (α := AV × AV × AV × AV × AV × Unit) (fun r22 v19 d20 h21 =>
asI .i64 v19.2.2.2.2.1 fun x23 =>
asI .i64 v19.2.2.2.1 fun x24 =>
fB (ltI x23 x24) fun b25 =>
br b25 (
ixK 5 v19.2.2.1 v19.2.2.2.2.1 fun p26 =>
ldN 5 p26 h21 fun l27 =>
pushK (.cells false 142 [(.int .i64 0), (.str ⟨0, 0⟩), (.str ⟨0, 0⟩), (.int .i64 0), (.nils)]) h21 fun n28 h29 =>
stN 5 (AV.ptr n28 0) l27 h29 fun h30 =>
ldN 2 v19.2.1 h30 fun l31 =>
ldN 5 (AV.ptr n28 0) h30 fun l32 =>
c67 (AV.agg l31) (AV.agg l32) h30 fun  h33 =>
asI .i64 v19.2.2.2.2.1 fun x34 =>
fI (wrapF .i64 (Int.add x34 (Int.ofNat 1))) fun x35 =>
r22 (v19.1, v19.2.1, v19.2.2.1, v19.2.2.2.1, (AV.int .i64 x35), ()) d20 h33) (
ldN 2 v19.2.1 h21 fun l36 =>
stN 2 v19.1 l36 h21 fun h37 =>
leaveK (gam J [(67, w67 c67), (167, c167), (168, c168)]) d20 h37 fun h38 =>
ldN 2 v19.1 h38 fun l39 =>
k (AV.agg l39) h38)) ((AV.ptr n1 0), (AV.ptr n9 0), v17, (AV.int .i64 (Int.ofNat x18)), (AV.int .i64 (Int.ofNat 0)), ()) [] h15))))))
noncomputable def s106 : AV → H → (AV → H → Prop) → Prop := s106G J0 s67 g167 g168
noncomputable def w106 (c : AV → H → (AV → H → Prop) → Prop) : Fun := fun xs h k => arg xs fun a0 xs => noArg xs <| c a0 h fun r0 h => k r0 h
theorem s106_eq (J : Joins) (c67 : AV → AV → H → (H → Prop) → Prop) (c167 : Fun) (c168 : Fun) (a0 : AV) (h : H) (k : AV → H → Prop) : denF ty (gam J [(67, w67 c67), (167, c167), (168, c168)]) Tryz.f106 [a0] h k = s106G J c67 c167 c168 a0 h (fun r0 h => k r0 h) := by kernel_rfl
noncomputable def g106 : Fun := w106 s106
theorem g106_ok : FunOk Tryz.prog 106 g106 := (fun_ok ty_ok mixed (gam_ok (J := J0) (tab_cons g67_ok (tab_cons g167_ok (tab_cons g168_ok (tab_nil fls_fun))))) Tryz.func106 (fun args w => by simp)).imp fun xs h k e0 => by
  obtain ⟨a0, xs0, rfl, e1⟩ := arg_imp e0
  obtain ⟨rfl, e2⟩ := noArg_imp e1
  exact (s106_eq J0 s67 g167 g168 a0 h k).mpr e2
/-- s106, of which less may be asked -/
def up106 : AV → H → (AV → H → Prop) → Prop := fun a0 h k => ∃ K : AV → H → Prop, s106 a0 h K ∧ ∀ r0 h', K r0 h' → k r0 h'
theorem up106_ok : FunOk Tryz.prog 106 (w106 up106) := g106_ok.up fun xs h k e0 => by
  obtain ⟨a0, xs0, rfl, e1⟩ := arg_imp e0
  obtain ⟨rfl, e2⟩ := noArg_imp e1
  obtain ⟨K, q1, q2⟩ := e2
  refine ⟨fun r h' => ∃ r0, r = r0 ∧ K r0 h', ?_, ?_⟩
  · have hK : (fun r0 h' => ∃ r0', (r0 : AV) = r0' ∧ K r0' h') = K := by funext r0 h'; apply propext; simp
    exact (congrArg (s106 a0 h) hK).mpr q1
  · rintro r h' ⟨r0, rfl, q3⟩; exact q2 _ _ q3
end Go.Proofs.YtfbdniomnnpemaaGreatDoor
