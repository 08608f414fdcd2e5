/- Functions as they are reckoned. MADE BY PROGRAM (wip/tools/shal.py). -/
import Derived.Test.YtcifllconkchmaaGreatDoorAmTys
namespace Go.Proofs.YtcifllconkchmaaGreatDoor
open Go Go.Am
set_option maxRecDepth 100000
set_option linter.all false
/-- slices.Clone[[]byte,byte] -/
noncomputable def s211G (J : Joins) (a0 : AV) (h : H) (k : AV → H → Prop) : Prop :=
nilB 2 a0 fun b1 =>
br b1 (
k AV.nils h) (
op' (asRow true 5 []) fun k4 =>
pushK k4 h fun n2 h3 =>
apB (.slice 5) 5 (AV.slice n2 0 0 0 1 true) a0 h3 fun v5 h6 =>
k v5 h6)
noncomputable def s211 : AV → H → (AV → H → Prop) → Prop := s211G J0 
noncomputable def w211 (c : AV → H → (AV → H → Prop) → Prop) : Fun := fun xs h k => arg xs fun a0 xs => noArg xs <| c a0 h fun r0 h => k r0 h
theorem s211_eq (J : Joins) (a0 : AV) (h : H) (k : AV → H → Prop) : denF ty (gam J []) Tryz.f211 [a0] h k = s211G J  a0 h (fun r0 h => k r0 h) := by kernel_rfl
noncomputable def g211 : Fun := w211 s211
theorem g211_ok : FunOk Tryz.prog 211 g211 := (fun_ok ty_ok mixed (gam_ok (J := J0) (tab_nil fls_fun)) Tryz.func211 (fun args w => by simp)).imp fun xs h k e0 => by
  obtain ⟨a0, xs0, rfl, e1⟩ := arg_imp e0
  obtain ⟨rfl, e2⟩ := noArg_imp e1
  exact (s211_eq J0  a0 h k).mpr e2
/-- s211, of which less may be asked -/
def up211 : AV → H → (AV → H → Prop) → Prop := fun a0 h k => ∃ K : AV → H → Prop, s211 a0 h K ∧ ∀ r0 h', K r0 h' → k r0 h'
theorem up211_ok : FunOk Tryz.prog 211 (w211 up211) := g211_ok.up fun xs h k e0 => by
  obtain ⟨a0, xs0, rfl, e1⟩ := arg_imp e0
  obtain ⟨rfl, e2⟩ := noArg_imp e1
  obtain ⟨K, q1, q2⟩ := e2
  refine ⟨fun r h' => ∃ r0, r = r0 ∧ K r0 h', ?_, ?_⟩
  · have hK : (fun r0 h' => ∃ r0', (r0 : AV) = r0' ∧ K r0' h') = K := by funext r0 h'; apply propext; simp
    exact (congrArg (s211 a0 h) hK).mpr q1
  · rintro r h' ⟨r0, rfl, q3⟩; exact q2 _ _ q3
/-- (stagepost/vfs.tree).done -/
noncomputable def s127G (J : Joins) (c211 : AV → H → (AV → H → Prop) → Prop) (a0 : AV) (a1 : AV) (h : H) (k : H → Prop) : Prop :=
Go.Am.asAgg a0 fun l3 =>
pushK (.cells false 93 l3) h fun n1 h2 =>
Go.Am.asAgg a1 fun l6 =>
pushK (.cells false 218 l6) h2 fun n4 h5 =>
ldI .i64 (AV.ptr n4 0) h5 fun x7 =>
fB (eqI x7 (Int.ofNat 0)) fun b8 =>
br b8 (
ldV (AV.ptr n1 0) h5 fun v9 =>
ldI .i64 (AV.ptr n4 3) h5 fun x10 =>
ldV (AV.ptr n1 0) h5 fun v11 =>
ldI .i64 (AV.ptr n4 3) h5 fun x12 =>
op' (aLookup ty 3 131 false v11 (AV.int .i64 x12) h5) fun v13 =>
ldV (AV.ptr n4 4) h5 fun v14 =>
c211 v13 h5 fun v16 h15 =>
ck (readsSo (aLoad1 (AV.ptr n4 4) h15) v14) (
ck (readsSo (aLoad1 (AV.ptr n4 3) h15) (AV.int .i64 x10)) (
ck (readsSo (aLoad1 (AV.ptr n1 0) h15) v9) (
apB (.slice 5) 5 v16 v14 h15 fun v17 h18 =>
ck (readsSo (aLoad1 (AV.ptr n4 3) h18) (AV.int .i64 x10)) (
ck (readsSo (aLoad1 (AV.ptr n1 0) h18) v9) (
op' (mapBlk ty 3 v9 (AV.int .i64 x10) v17 h18) fun k19 =>
putK k19.1 k19.2 h18 fun h20 =>
k  h20)))))) (
fB (eqI x7 (Int.ofNat 1)) fun b21 =>
br b21 (
ldV (AV.ptr n1 1) h5 fun v22 =>
ldS (AV.ptr n4 1) h5 fun s23 =>
ldI .i64 (AV.ptr n4 3) h5 fun x24 =>
op' (mapBlk ty 9 v22 (AV.str s23) (AV.int .i64 x24) h5) fun k25 =>
putK k25.1 k25.2 h5 fun h26 =>
k  h26) (
fB (eqI x7 (Int.ofNat 2)) fun b27 =>
br b27 (
ldS (AV.ptr n4 1) h5 fun s28 =>
ldS (AV.ptr n4 2) h5 fun s29 =>
fB (Bool.not (Str.beq s28 s29)) fun b30 =>
br b30 (
ldV (AV.ptr n1 1) h5 fun v31 =>
ldS (AV.ptr n4 2) h5 fun s32 =>
ldV (AV.ptr n1 1) h5 fun v33 =>
ldS (AV.ptr n4 1) h5 fun s34 =>
op' (aLookup ty 9 3 false v33 (AV.str s34) h5) fun v35 =>
asI .i64 v35 fun x36 =>
op' (mapBlk ty 9 v31 (AV.str s32) (AV.int .i64 x36) h5) fun k37 =>
putK k37.1 k37.2 h5 fun h38 =>
ldV (AV.ptr n1 1) h38 fun v39 =>
ldS (AV.ptr n4 1) h38 fun s40 =>
delK (mapBlkD ty 9 v39 (AV.str s40) h38) h38 fun h42 =>
k  h42) (
k  h5)) (
fB (eqI x7 (Int.ofNat 3)) fun b43 =>
br b43 (
ldV (AV.ptr n1 1) h5 fun v44 =>
ldS (AV.ptr n4 1) h5 fun s45 =>
delK (mapBlkD ty 9 v44 (AV.str s45) h5) h5 fun h47 =>
k  h47) (
k  h5))))
noncomputable def s127 : AV → AV → H → (H → Prop) → Prop := s127G J0 s211
noncomputable def w127 (c : AV → AV → H → (H → Prop) → Prop) : Fun := fun xs h k => arg xs fun a0 xs => arg xs fun a1 xs => noArg xs <| c a0 a1 h fun  h => k (.tuple []) h
theorem s127_eq (J : Joins) (c211 : AV → H → (AV → H → Prop) → Prop) (a0 : AV) (a1 : AV) (h : H) (k : AV → H → Prop) : denF ty (gam J [(211, w211 c211)]) Tryz.f127 [a0, a1] h k = s127G J c211 a0 a1 h (fun  h => k (.tuple []) h) := by kernel_rfl
noncomputable def g127 : Fun := w127 s127
theorem g127_ok : FunOk Tryz.prog 127 g127 := (fun_ok ty_ok mixed (gam_ok (J := J0) (tab_cons g211_ok (tab_nil fls_fun))) Tryz.func127 (fun args w => by simp)).imp fun xs h k e0 => by
  obtain ⟨a0, xs0, rfl, e1⟩ := arg_imp e0
  obtain ⟨a1, xs1, rfl, e2⟩ := arg_imp e1
  obtain ⟨rfl, e3⟩ := noArg_imp e2
  exact (s127_eq J0 s211 a0 a1 h k).mpr e3
/-- s127, of which less may be asked -/
def up127 : AV → AV → H → (H → Prop) → Prop := fun a0 a1 h k => ∃ K : H → Prop, s127 a0 a1 h K ∧ ∀  h', K  h' → k  h'
theorem up127_ok : FunOk Tryz.prog 127 (w127 up127) := g127_ok.up fun xs h k e0 => by
  obtain ⟨a0, xs0, rfl, e1⟩ := arg_imp e0
  obtain ⟨a1, xs1, rfl, e2⟩ := arg_imp e1
  obtain ⟨rfl, e3⟩ := noArg_imp e2
  obtain ⟨K, q1, q2⟩ := e3
  refine ⟨fun r h' => r = .tuple [] ∧ K h', ?_, ?_⟩
  · have hK : (fun  h' => AV.tuple [] = .tuple [] ∧ K h') = K := by funext  h'; apply propext; simp
    exact (congrArg (s127 a0 a1 h) hK).mpr q1
  · rintro r h' ⟨rfl, q3⟩; exact q2 _ q3
/-- (*stagepost/vfs.FS).Crash -/
noncomputable def s56G (J : Joins) (c127 : AV → AV → H → (H → Prop) → Prop) (a0 : AV) (a1 : Int) (a2 : Int) (h : H) (k : Int → H → Prop) : Prop :=
nilB 0 a0 fun b1 =>
J.jn (fun v2 h3 =>
J.jn (fun v5 h6 =>
J.jn (fun v8 h9 =>
J.jn (fun v12 h13 =>
J.jn (fun v16 h17 =>
pickB (AV.bool b1) (AV.bool true) v16 fun b21 =>
br b21 (
k (Int.ofNat 1) h17) (
fB (ltI a1 (Int.ofNat 0)) fun b22 =>
J.jn (fun v23 h24 =>
J.jn (fun v26 h27 =>
pickB (AV.bool b22) (AV.bool true) v26 fun b31 =>
br b31 (
k (Int.ofNat 2) h27) (
J.jd (α := AV × Unit) (fun v32 d33 h34 =>
okNil v32.1 (
faK 2 v32.1 fun p36 =>
stV p36 AV.nils h34 fun h37 =>
okNil v32.1 (
faK 6 v32.1 fun p38 =>
stV p38 (AV.bool false) h37 fun h39 =>
okNil v32.1 (
faK 5 v32.1 fun p40 =>
stV p40 (AV.bool false) h39 fun h41 =>
pushK (.smap []) h41 fun n42 h43 =>
okNil v32.1 (
faK 0 v32.1 fun p44 =>
faK 1 p44 fun p45 =>
ldV p45 h43 fun v46 =>
aRangeK v46 h43 fun v47 h48 =>
J.lp (α := AV × AV × AV × Unit) (fun r52 v49 d50 h51 =>
aNext v49.2.2.1 h51 fun v53 h54 =>
asTup v53 fun l55 =>
op' (lgetO l55 0) fun v56 =>
asB v56 fun b57 =>
br b57 (
op' (aEntry v49.2.2.1 h54) fun v58 =>
asTup v58 fun l59 =>
op' (lgetO l59 1) fun v60 =>
asI .i64 v60 fun x61 =>
okNil v49.1 (
faK 0 v49.1 fun p62 =>
faK 0 p62 fun p63 =>
ldV p63 h54 fun v64 =>
op' (aLookup ty 3 131 false v64 (AV.int .i64 x61) h54) fun v65 =>
op' (mapBlk ty 3 v49.2.1 (AV.int .i64 x61) v65 h54) fun k66 =>
putK k66.1 k66.2 h54 fun h67 =>
r52 (v49.1, v49.2.1, v49.2.2.1, ()) d50 h67)) (
okNil v49.1 (
faK 0 v49.1 fun p68 =>
faK 0 p68 fun p69 =>
stV p69 v49.2.1 h54 fun h70 =>
leaveK (gam J [(127, w127 c127)]) d50 h70 fun h71 =>
k (Int.ofNat 0) h71))) (v32.1, (AV.map n42), v47, ()) d33 h48))))) fun j35 =>
okNil a0 (
faK 2 a0 fun p72 =>
ldV p72 h27 fun v73 =>
lenK v73 fun x74 =>
J.lp (α := AV × AV × AV × AV × AV × AV × Unit) (fun r78 v75 d76 h77 =>
asI .i64 v75.2.2.2.2.2.1 fun x79 =>
asI .i64 v75.2.2.2.2.1 fun x80 =>
fB (ltI x79 x80) fun b81 =>
br b81 (
ixK 5 v75.2.2.2.1 v75.2.2.2.2.2.1 fun p82 =>
ldN 5 p82 h77 fun l83 =>
pushK (.cells false 218 [(.int .i64 0), (.str ⟨0, 0⟩), (.str ⟨0, 0⟩), (.int .i64 0), (.nils)]) h77 fun n84 h85 =>
stN 5 (AV.ptr n84 0) l83 h85 fun h86 =>
J.jd (α := AV × AV × AV × AV × AV × AV × AV × AV × Unit) (fun v87 d88 h89 =>
asI .i64 v87.2.2.2.1 fun x91 =>
asI .i64 v87.2.1 fun x92 =>
fB (Bool.not (ltI x91 x92)) fun b93 =>
br b93 (
j35 (v87.1, ()) d88 h89) (
okNil v87.1 (
faK 0 v87.1 fun p94 =>
ldN 2 p94 h89 fun l95 =>
ldN 5 v87.2.2.2.2.1 h89 fun l96 =>
c127 (AV.agg l95) (AV.agg l96) h89 fun  h97 =>
asI .i64 v87.2.2.2.2.2.2.2.1 fun x98 =>
fI (wrapF .i64 (Int.add x98 (Int.ofNat 1))) fun x99 =>
r78 (v87.1, v87.2.1, v87.2.2.1, v87.2.2.2.2.2.1, v87.2.2.2.2.2.2.1, (AV.int .i64 x99), ()) d88 h97))) fun j90 =>
asI .i64 v75.2.2.2.2.2.1 fun x100 =>
asI .i64 v75.2.1 fun x101 =>
fB (eqI x100 x101) fun b102 =>
J.jn (fun v103 h104 =>
J.jn (fun v106 h107 =>
J.jn (fun v110 h111 =>
pickB (AV.bool b102) v110 (AV.bool false) fun b115 =>
br b115 (
ldV (AV.ptr n84 4) h111 fun v116 =>
ldV (AV.ptr n84 4) h111 fun v117 =>
lenK v117 fun x118 =>
fI (wrapF .i64 (Int.sub (Int.ofNat x118) (Int.ofNat 1))) fun x119 =>
op' (aMin v75.2.2.1 (AV.int .i64 x119)) fun v120 =>
asI .i64 v120 fun x121 =>
slK 1 v116 none (some (AV.int .i64 x121)) fun v122 =>
stV (AV.ptr n84 4) v122 h111 fun h123 =>
okNil v75.1 (
faK 0 v75.1 fun p124 =>
ldN 2 p124 h123 fun l125 =>
ldN 5 (AV.ptr n84 0) h123 fun l126 =>
c127 (AV.agg l125) (AV.agg l126) h123 fun  h127 =>
j90 (v75.1, v75.2.1, v75.2.2.1, v75.2.2.2.2.2.1, (AV.ptr n84 0), v75.2.2.2.1, v75.2.2.2.2.1, v75.2.2.2.2.2.1, ()) d76 h127)) (
j90 (v75.1, v75.2.1, v75.2.2.1, v75.2.2.2.2.2.1, (AV.ptr n84 0), v75.2.2.2.1, v75.2.2.2.2.1, v75.2.2.2.2.2.1, ()) d76 h111)) fun j112 =>
br b102 (
asI .i64 v106 fun x113 =>
fB (eqI x113 (Int.ofNat 0)) fun b114 =>
j112 (AV.bool b114) h107) (
j112 skipV h107)) fun j108 =>
br b102 (
ldI .i64 v103 h104 fun x109 =>
j108 (AV.int .i64 x109) h104) (
j108 skipV h104)) fun j105 =>
br b102 (
j105 (AV.ptr n84 0) h86) (
j105 skipV h86)) (
j35 (v75.1, ()) d76 h77)) (a0, (AV.int .i64 a1), (AV.int .i64 a2), v73, (AV.int .i64 (Int.ofNat x74)), (AV.int .i64 (Int.ofNat 0)), ()) [] h27))) fun j28 =>
br b22 (
j28 skipV h24) (
asI .i64 v23 fun x29 =>
fB (ltI x29 (Int.ofNat 0)) fun b30 =>
j28 (AV.bool b30) h24)) fun j25 =>
br b22 (
j25 skipV h17) (
j25 (AV.int .i64 a2) h17))) fun j18 =>
br b1 (
j18 skipV h13) (
asB v12 fun b19 =>
fB (Bool.not b19) fun b20 =>
j18 (AV.bool b20) h13)) fun j14 =>
br b1 (
j14 skipV h9) (
ldB v8 h9 fun b15 =>
j14 (AV.bool b15) h9)) fun j10 =>
br b1 (
j10 skipV h6) (
faK 9 v5 fun p11 =>
j10 p11 h6)) fun j7 =>
br b1 (
j7 skipV h3) (
okNil v2 (
j7 v2 h3))) fun j4 =>
br b1 (
j4 skipV h) (
j4 a0 h)
noncomputable def s56R (J : Joins) (c127 : AV → AV → H → (H → Prop) → Prop) (k : Int → H → Prop) (v32 : AV × Unit) (d33 : List Dfr) (h34 : H) : Prop :=
okNil v32.1 (
faK 2 v32.1 fun p36 =>
stV p36 AV.nils h34 fun h37 =>
okNil v32.1 (
faK 6 v32.1 fun p38 =>
stV p38 (AV.bool false) h37 fun h39 =>
okNil v32.1 (
faK 5 v32.1 fun p40 =>
stV p40 (AV.bool false) h39 fun h41 =>
pushK (.smap []) h41 fun n42 h43 =>
okNil v32.1 (
faK 0 v32.1 fun p44 =>
faK 1 p44 fun p45 =>
ldV p45 h43 fun v46 =>
aRangeK v46 h43 fun v47 h48 =>
J.lp (α := AV × AV × AV × Unit) (fun r52 v49 d50 h51 =>
aNext v49.2.2.1 h51 fun v53 h54 =>
asTup v53 fun l55 =>
op' (lgetO l55 0) fun v56 =>
asB v56 fun b57 =>
br b57 (
op' (aEntry v49.2.2.1 h54) fun v58 =>
asTup v58 fun l59 =>
op' (lgetO l59 1) fun v60 =>
asI .i64 v60 fun x61 =>
okNil v49.1 (
faK 0 v49.1 fun p62 =>
faK 0 p62 fun p63 =>
ldV p63 h54 fun v64 =>
op' (aLookup ty 3 131 false v64 (AV.int .i64 x61) h54) fun v65 =>
op' (mapBlk ty 3 v49.2.1 (AV.int .i64 x61) v65 h54) fun k66 =>
putK k66.1 k66.2 h54 fun h67 =>
r52 (v49.1, v49.2.1, v49.2.2.1, ()) d50 h67)) (
okNil v49.1 (
faK 0 v49.1 fun p68 =>
faK 0 p68 fun p69 =>
stV p69 v49.2.1 h54 fun h70 =>
leaveK (gam J [(127, w127 c127)]) d50 h70 fun h71 =>
k (Int.ofNat 0) h71))) (v32.1, (AV.map n42), v47, ()) d33 h48))))
noncomputable def s56H (J : Joins) (c127 : AV → AV → H → (H → Prop) → Prop) (R : AV × Unit → List Dfr → H → Prop) (a0 : AV) (a1 : Int) (a2 : Int) (h : H) (k : Int → H → Prop) : Prop :=
nilB 0 a0 fun b1 =>
J.jn (fun v2 h3 =>
J.jn (fun v5 h6 =>
J.jn (fun v8 h9 =>
J.jn (fun v12 h13 =>
J.jn (fun v16 h17 =>
pickB (AV.bool b1) (AV.bool true) v16 fun b21 =>
br b21 (
k (Int.ofNat 1) h17) (
fB (ltI a1 (Int.ofNat 0)) fun b22 =>
J.jn (fun v23 h24 =>
J.jn (fun v26 h27 =>
pickB (AV.bool b22) (AV.bool true) v26 fun b31 =>
br b31 (
k (Int.ofNat 2) h27) (
J.jd (α := AV × Unit) (fun v32 d33 h34 =>
R v32 d33 h34) fun j35 =>
okNil a0 (
faK 2 a0 fun p72 =>
ldV p72 h27 fun v73 =>
lenK v73 fun x74 =>
J.lp (α := AV × AV × AV × AV × AV × AV × Unit) (fun r78 v75 d76 h77 =>
asI .i64 v75.2.2.2.2.2.1 fun x79 =>
asI .i64 v75.2.2.2.2.1 fun x80 =>
fB (ltI x79 x80) fun b81 =>
br b81 (
ixK 5 v75.2.2.2.1 v75.2.2.2.2.2.1 fun p82 =>
ldN 5 p82 h77 fun l83 =>
pushK (.cells false 218 [(.int .i64 0), (.str ⟨0, 0⟩), (.str ⟨0, 0⟩), (.int .i64 0), (.nils)]) h77 fun n84 h85 =>
stN 5 (AV.ptr n84 0) l83 h85 fun h86 =>
J.jd (α := AV × AV × AV × AV × AV × AV × AV × AV × Unit) (fun v87 d88 h89 =>
asI .i64 v87.2.2.2.1 fun x91 =>
asI .i64 v87.2.1 fun x92 =>
fB (Bool.not (ltI x91 x92)) fun b93 =>
br b93 (
j35 (v87.1, ()) d88 h89) (
okNil v87.1 (
faK 0 v87.1 fun p94 =>
ldN 2 p94 h89 fun l95 =>
ldN 5 v87.2.2.2.2.1 h89 fun l96 =>
c127 (AV.agg l95) (AV.agg l96) h89 fun  h97 =>
asI .i64 v87.2.2.2.2.2.2.2.1 fun x98 =>
fI (wrapF .i64 (Int.add x98 (Int.ofNat 1))) fun x99 =>
r78 (v87.1, v87.2.1, v87.2.2.1, v87.2.2.2.2.2.1, v87.2.2.2.2.2.2.1, (AV.int .i64 x99), ()) d88 h97))) fun j90 =>
asI .i64 v75.2.2.2.2.2.1 fun x100 =>
asI .i64 v75.2.1 fun x101 =>
fB (eqI x100 x101) fun b102 =>
J.jn (fun v103 h104 =>
J.jn (fun v106 h107 =>
J.jn (fun v110 h111 =>
pickB (AV.bool b102) v110 (AV.bool false) fun b115 =>
br b115 (
ldV (AV.ptr n84 4) h111 fun v116 =>
ldV (AV.ptr n84 4) h111 fun v117 =>
lenK v117 fun x118 =>
fI (wrapF .i64 (Int.sub (Int.ofNat x118) (Int.ofNat 1))) fun x119 =>
op' (aMin v75.2.2.1 (AV.int .i64 x119)) fun v120 =>
asI .i64 v120 fun x121 =>
slK 1 v116 none (some (AV.int .i64 x121)) fun v122 =>
stV (AV.ptr n84 4) v122 h111 fun h123 =>
okNil v75.1 (
faK 0 v75.1 fun p124 =>
ldN 2 p124 h123 fun l125 =>
ldN 5 (AV.ptr n84 0) h123 fun l126 =>
c127 (AV.agg l125) (AV.agg l126) h123 fun  h127 =>
j90 (v75.1, v75.2.1, v75.2.2.1, v75.2.2.2.2.2.1, (AV.ptr n84 0), v75.2.2.2.1, v75.2.2.2.2.1, v75.2.2.2.2.2.1, ()) d76 h127)) (
j90 (v75.1, v75.2.1, v75.2.2.1, v75.2.2.2.2.2.1, (AV.ptr n84 0), v75.2.2.2.1, v75.2.2.2.2.1, v75.2.2.2.2.2.1, ()) d76 h111)) fun j112 =>
br b102 (
asI .i64 v106 fun x113 =>
fB (eqI x113 (Int.ofNat 0)) fun b114 =>
j112 (AV.bool b114) h107) (
j112 skipV h107)) fun j108 =>
br b102 (
ldI .i64 v103 h104 fun x109 =>
j108 (AV.int .i64 x109) h104) (
j108 skipV h104)) fun j105 =>
br b102 (
j105 (AV.ptr n84 0) h86) (
j105 skipV h86)) (
j35 (v75.1, ()) d76 h77)) (a0, (AV.int .i64 a1), (AV.int .i64 a2), v73, (AV.int .i64 (Int.ofNat x74)), (AV.int .i64 (Int.ofNat 0)), ()) [] h27))) fun j28 =>
br b22 (
j28 skipV h24) (
asI .i64 v23 fun x29 =>
fB (ltI x29 (Int.ofNat 0)) fun b30 =>
j28 (AV.bool b30) h24)) fun j25 =>
br b22 (
j25 skipV h17) (
j25 (AV.int .i64 a2) h17))) fun j18 =>
br b1 (
j18 skipV h13) (
asB v12 fun b19 =>
fB (Bool.not b19) fun b20 =>
j18 (AV.bool b20) h13)) fun j14 =>
br b1 (
j14 skipV h9) (
ldB v8 h9 fun b15 =>
j14 (AV.bool b15) h9)) fun j10 =>
br b1 (
j10 skipV h6) (
faK 9 v5 fun p11 =>
j10 p11 h6)) fun j7 =>
br b1 (
j7 skipV h3) (
okNil v2 (
j7 v2 h3))) fun j4 =>
br b1 (
j4 skipV h) (
j4 a0 h)
theorem s56_hole (J : Joins) (c127 : AV → AV → H → (H → Prop) → Prop) (a0 : AV) (a1 : Int) (a2 : Int) (h : H) (k : Int → H → Prop) : s56G J c127 a0 a1 a2 h k = s56H J c127 (s56R J c127 k) a0 a1 a2 h k := by kernel_rfl
noncomputable def s56 : AV → Int → Int → H → (Int → H → Prop) → Prop := s56G J0 s127
noncomputable def w56 (c : AV → Int → Int → H → (Int → H → Prop) → Prop) : Fun := fun xs h k => arg xs fun a0 xs => arg xs fun a1 xs => arg xs fun a2 xs => noArg xs <| asI .i64 a1 fun a1 => asI .i64 a2 fun a2 => c a0 a1 a2 h fun r0 h => k (.int .i64 r0) h
theorem s56_eq (J : Joins) (c127 : AV → AV → H → (H → Prop) → Prop) (a0 : AV) (a1 : Int) (a2 : Int) (h : H) (k : AV → H → Prop) : denF ty (gam J [(127, w127 c127)]) Tryz.f56 [a0, (.int .i64 a1), (.int .i64 a2)] h k = s56G J c127 a0 a1 a2 h (fun r0 h => k (.int .i64 r0) h) := by kernel_rfl
noncomputable def g56 : Fun := w56 s56
theorem g56_ok : FunOk Tryz.prog 56 g56 := (fun_ok ty_ok mixed (gam_ok (J := J0) (tab_cons g127_ok (tab_nil fls_fun))) Tryz.func56 (fun args w => by simp)).imp fun xs h k e0 => by
  obtain ⟨a0, xs0, rfl, e1⟩ := arg_imp e0
  obtain ⟨a1, xs1, rfl, e2⟩ := arg_imp e1
  obtain ⟨a2, xs2, rfl, e3⟩ := arg_imp e2
  obtain ⟨rfl, e4⟩ := noArg_imp e3
  obtain ⟨a1, rfl, e5⟩ := asI_iff.1 e4
  obtain ⟨a2, rfl, e6⟩ := asI_iff.1 e5
  exact (s56_eq J0 s127 a0 a1 a2 h k).mpr e6
end Go.Proofs.YtcifllconkchmaaGreatDoor
