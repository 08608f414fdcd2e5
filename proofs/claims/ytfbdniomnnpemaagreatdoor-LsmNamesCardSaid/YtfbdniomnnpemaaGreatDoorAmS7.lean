/- Functions as they are reckoned. MADE BY PROGRAM (wip/tools/shal.py). -/
import Derived.Test.YtfbdniomnnpemaaGreatDoorAmS6
namespace Go.Proofs.YtfbdniomnnpemaaGreatDoor
open Go Go.Am
set_option maxRecDepth 100000
set_option linter.all false
/-- (*stagepost/manifest.Manifest).Add -/
noncomputable def s99G (J : Joins) (c68 : Fun) (c72 : Fun) (c80 : Fun) (c108 : Fun) (c111 : Fun) (c155 : Fun) (c156 : Fun) (c157 : Fun) (a0 : AV) (a1 : AV) (h : H) (k : Int → H → Prop) : Prop :=
ck (isOne a0) (
pushK (.cells false 32 [a0]) h fun n1 h2 =>
Go.Am.asAgg a1 fun l5 =>
pushK (.cells false 101 l5) h2 fun n3 h4 =>
ldV (AV.ptr n1 0) h4 fun v6 =>
c80 [v6] h4 fun v7 h8 =>
asB v7 fun b9 =>
br b9 (
k (Int.ofNat 1) h8) (
ldV (AV.ptr n1 0) h8 fun v10 =>
okNil v10 (
faK 6 v10 fun p11 =>
ldB p11 h8 fun b12 =>
J.jn (fun v13 h14 =>
J.jn (fun v17 h18 =>
J.jn (fun v20 h21 =>
J.jn (fun v24 h25 =>
J.jn (fun v28 h29 =>
J.jn (fun v34 h35 =>
pickB (AV.bool b12) (AV.bool true) v34 fun b39 =>
br b39 (
ldV (AV.ptr n1 0) h35 fun v40 =>
okNil v40 (
faK 6 v40 fun p41 =>
stV p41 (AV.bool true) h35 fun h42 =>
k (Int.ofNat 7) h42)) (
ldN 5 (AV.ptr n3 0) h35 fun l43 =>
c108 [(AV.agg l43)] h35 fun v44 h45 =>
asTup v44 fun l46 =>
op' (lgetO l46 0) fun v47 =>
asTup v44 fun l48 =>
op' (lgetO l48 1) fun v49 =>
asI .i64 v49 fun x50 =>
pushK (.cells false 117 [(.nils)]) h45 fun n51 h52 =>
stV (AV.ptr n51 0) v47 h52 fun h53 =>
fB (Bool.not (eqI x50 (Int.ofNat 0))) fun b54 =>
br b54 (
k x50 h53) (
ldV (AV.ptr n1 0) h53 fun v55 =>
okNil v55 (
faK 1 v55 fun p56 =>
ldN 4 p56 h53 fun l57 =>
ldN 5 (AV.ptr n3 0) h53 fun l58 =>
pushK (.cells false 83 [(.nils), (.int .i64 0), (.int .i64 0), (.int .i64 0)]) h53 fun n59 h60 =>
c155 [(AV.agg l57), (AV.agg l58)] h60 fun v61 h62 =>
asTup v61 fun l63 =>
op' (lgetO l63 0) fun v64 =>
asTup v61 fun l65 =>
op' (lgetO l65 1) fun v66 =>
asI .i64 v66 fun x67 =>
Go.Am.asAgg v64 fun l69 =>
stN 4 (AV.ptr n59 0) l69 h62 fun h68 =>
fB (Bool.not (eqI x67 (Int.ofNat 0))) fun b70 =>
br b70 (
k x67 h68) (
ldV (AV.ptr n51 0) h68 fun v71 =>
c72 [AV.nils, v71] h68 fun v72 h73 =>
asTup v72 fun l74 =>
op' (lgetO l74 0) fun v75 =>
asTup v72 fun l76 =>
op' (lgetO l76 1) fun v77 =>
asI .i64 v77 fun x78 =>
stV (AV.ptr n51 0) v75 h73 fun h79 =>
fB (Bool.not (eqI x78 (Int.ofNat 0))) fun b80 =>
br b80 (
k x78 h79) (
pushK (.cells false 50 [(AV.func (.func 156) [] [(AV.ptr n1 0), (AV.ptr n51 0)]), (AV.func (.func 157) [] [(AV.ptr n1 0)])]) h79 fun n81 h82 =>
c111 [(AV.slice n81 0 2 2 1 true)] h82 fun v83 h84 =>
asI .i64 v83 fun x85 =>
fB (Bool.not (eqI x85 (Int.ofNat 0))) fun b86 =>
br b86 (
ldV (AV.ptr n1 0) h84 fun v87 =>
ldV (AV.ptr n1 0) h84 fun v88 =>
okNil v88 (
faK 6 v88 fun p89 =>
ldB p89 h84 fun b90 =>
J.jn (fun v91 h92 =>
J.jn (fun v94 h95 =>
pickB (AV.bool b90) (AV.bool true) v94 fun b99 =>
okNil v87 (
faK 6 v87 fun p100 =>
stV p100 (AV.bool b99) h95 fun h101 =>
k x85 h101)) fun j96 =>
br b90 (
j96 skipV h92) (
asI .i64 v91 fun x97 =>
fB (eqI x97 (Int.ofNat 7)) fun b98 =>
j96 (AV.bool b98) h92)) fun j93 =>
br b90 (
j93 skipV h84) (
j93 (AV.int .i64 x85) h84))) (
ldV (AV.ptr n1 0) h84 fun v102 =>
ldN 4 (AV.ptr n59 0) h84 fun l103 =>
okNil v102 (
faK 1 v102 fun p104 =>
stN 4 p104 l103 h84 fun h105 =>
k (Int.ofNat 0) h105)))))))) fun j36 =>
br b12 (
j36 skipV h29) (
asB v28 fun b37 =>
fB (Bool.not b37) fun b38 =>
j36 (AV.bool b38) h29)) fun j30 =>
br b12 (
j30 skipV h25) (
c68 [v24] h25 fun v31 h32 =>
asB v31 fun b33 =>
j30 (AV.bool b33) h32)) fun j26 =>
br b12 (
j26 skipV h21) (
ldV v20 h21 fun v27 =>
j26 v27 h21)) fun j22 =>
br b12 (
j22 skipV h18) (
faK 0 v17 fun p23 =>
j22 p23 h18)) fun j19 =>
br b12 (
j19 skipV h14) (
okNil v13 (
j19 v13 h14))) fun j15 =>
br b12 (
j15 skipV h8) (
ldV (AV.ptr n1 0) h8 fun v16 =>
j15 v16 h8))))
noncomputable def s99 : AV → AV → H → (Int → H → Prop) → Prop := s99G J0 g68 g72 g80 g108 g111 g155 g156 g157
noncomputable def w99 (c : AV → AV → H → (Int → H → Prop) → Prop) : Fun := fun xs h k => arg xs fun a0 xs => arg xs fun a1 xs => noArg xs <| c a0 a1 h fun r0 h => k (.int .i64 r0) h
theorem s99_eq (J : Joins) (c68 : Fun) (c72 : Fun) (c80 : Fun) (c108 : Fun) (c111 : Fun) (c155 : Fun) (c156 : Fun) (c157 : Fun) (a0 : AV) (a1 : AV) (h : H) (k : AV → H → Prop) : denF ty (gam J [(68, c68), (72, c72), (80, c80), (108, c108), (111, c111), (155, c155), (156, c156), (157, c157)]) Tryz.f99 [a0, a1] h k = s99G J c68 c72 c80 c108 c111 c155 c156 c157 a0 a1 h (fun r0 h => k (.int .i64 r0) h) := by kernel_rfl
noncomputable def g99 : Fun := w99 s99
theorem g99_ok : FunOk Tryz.prog 99 g99 := (fun_ok ty_ok mixed (gam_ok (J := J0) (tab_cons g68_ok (tab_cons g72_ok (tab_cons g80_ok (tab_cons g108_ok (tab_cons g111_ok (tab_cons g155_ok (tab_cons g156_ok (tab_cons g157_ok (tab_nil fls_fun)))))))))) Tryz.func99 (fun args w => by simp)).imp fun xs h k e0 => by
  obtain ⟨a0, xs0, rfl, e1⟩ := arg_imp e0
  obtain ⟨a1, xs1, rfl, e2⟩ := arg_imp e1
  obtain ⟨rfl, e3⟩ := noArg_imp e2
  exact (s99_eq J0 g68 g72 g80 g108 g111 g155 g156 g157 a0 a1 h k).mpr e3
/-- s99, of which less may be asked -/
def up99 : AV → AV → H → (Int → H → Prop) → Prop := fun a0 a1 h k => ∃ K : Int → H → Prop, s99 a0 a1 h K ∧ ∀ r0 h', K r0 h' → k r0 h'
theorem up99_ok : FunOk Tryz.prog 99 (w99 up99) := g99_ok.up fun xs h k e0 => by
  obtain ⟨a0, xs0, rfl, e1⟩ := arg_imp e0
  obtain ⟨a1, xs1, rfl, e2⟩ := arg_imp e1
  obtain ⟨rfl, e3⟩ := noArg_imp e2
  obtain ⟨K, q1, q2⟩ := e3
  refine ⟨fun r h' => ∃ r0, r = (.int .i64 r0) ∧ K r0 h', ?_, ?_⟩
  · have hK : (fun r0 h' => ∃ r0', ((.int .i64 r0) : AV) = (.int .i64 r0') ∧ K r0' h') = K := by funext r0 h'; apply propext; simp
    exact (congrArg (s99 a0 a1 h) hK).mpr q1
  · rintro r h' ⟨r0, rfl, q3⟩; exact q2 _ _ q3
/-- (*stagepost/lsm.Store).turn -/
noncomputable def s45G (J : Joins) (c99 : AV → AV → H → (Int → H → Prop) → Prop) (a0 : AV) (a1 : AV) (a2 : AV) (h : H) (k : Int → H → Prop) : Prop :=
Go.Am.asAgg a1 fun l3 =>
pushK (.cells false 101 l3) h fun n1 h2 =>
okNil a0 (
faK 6 a0 fun p4 =>
ldV p4 h2 fun v5 =>
ldN 5 (AV.ptr n1 0) h2 fun l6 =>
c99 v5 (AV.agg l6) h2 fun x8 h7 =>
fB (Bool.not (eqI x8 (Int.ofNat 0))) fun b9 =>
br b9 (
k x8 h7) (
aRangeK a2 h7 fun v10 h11 =>
J.lp (α := AV × AV × AV × Unit) (fun r15 v12 d13 h14 =>
aNext v12.2.2.1 h14 fun v16 h17 =>
asTup v16 fun l18 =>
op' (lgetO l18 0) fun v19 =>
asB v19 fun b20 =>
br b20 (
op' (aEntry v12.2.2.1 h17) fun v21 =>
asTup v21 fun l22 =>
op' (lgetO l22 0) fun v23 =>
asI .i64 v23 fun x24 =>
asTup v21 fun l25 =>
op' (lgetO l25 1) fun v26 =>
okNil v12.1 (
faK 9 v12.1 fun p27 =>
ldV p27 h17 fun v28 =>
op' (mapBlk ty 3 v28 (AV.int .i64 x24) v26 h17) fun k29 =>
putK k29.1 k29.2 h17 fun h30 =>
r15 (v12.1, v12.2.1, v12.2.2.1, ()) d13 h30)) (
faK 0 v12.2.1 fun p31 =>
ldV p31 h17 fun v32 =>
lenK v32 fun x33 =>
J.lp (α := AV × AV × AV × AV × Unit) (fun r37 v34 d35 h36 =>
asI .i64 v34.2.2.2.1 fun x38 =>
asI .i64 v34.2.2.1 fun x39 =>
fB (ltI x38 x39) fun b40 =>
br b40 (
ixK 1 v34.2.1 v34.2.2.2.1 fun p41 =>
ldI .i64 p41 h36 fun x42 =>
okNil v34.1 (
faK 9 v34.1 fun p43 =>
ldV p43 h36 fun v44 =>
delK (mapBlkD ty 3 v44 (AV.int .i64 x42) h36) h36 fun h46 =>
asI .i64 v34.2.2.2.1 fun x47 =>
fI (wrapF .i64 (Int.add x47 (Int.ofNat 1))) fun x48 =>
r37 (v34.1, v34.2.1, v34.2.2.1, (AV.int .i64 x48), ()) d35 h46)) (
leaveK (gam J [(99, w99 c99)]) d35 h36 fun h49 =>
k (Int.ofNat 0) h49)) (v12.1, v32, (AV.int .i64 (Int.ofNat x33)), (AV.int .i64 (Int.ofNat 0)), ()) d13 h17)) (a0, (AV.ptr n1 0), v10, ()) [] h11))
noncomputable def s45 : AV → AV → AV → H → (Int → H → Prop) → Prop := s45G J0 s99
noncomputable def w45 (c : AV → AV → AV → H → (Int → H → Prop) → Prop) : Fun := fun xs h k => arg xs fun a0 xs => arg xs fun a1 xs => arg xs fun a2 xs => noArg xs <| c a0 a1 a2 h fun r0 h => k (.int .i64 r0) h
theorem s45_eq (J : Joins) (c99 : AV → AV → H → (Int → H → Prop) → Prop) (a0 : AV) (a1 : AV) (a2 : AV) (h : H) (k : AV → H → Prop) : denF ty (gam J [(99, w99 c99)]) Tryz.f45 [a0, a1, a2] h k = s45G J c99 a0 a1 a2 h (fun r0 h => k (.int .i64 r0) h) := by kernel_rfl
noncomputable def g45 : Fun := w45 s45
theorem g45_ok : FunOk Tryz.prog 45 g45 := (fun_ok ty_ok mixed (gam_ok (J := J0) (tab_cons g99_ok (tab_nil fls_fun))) Tryz.func45 (fun args w => by simp)).imp fun xs h k e0 => by
  obtain ⟨a0, xs0, rfl, e1⟩ := arg_imp e0
  obtain ⟨a1, xs1, rfl, e2⟩ := arg_imp e1
  obtain ⟨a2, xs2, rfl, e3⟩ := arg_imp e2
  obtain ⟨rfl, e4⟩ := noArg_imp e3
  exact (s45_eq J0 s99 a0 a1 a2 h k).mpr e4
end Go.Proofs.YtfbdniomnnpemaaGreatDoor
