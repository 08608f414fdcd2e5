/- Functions as they are reckoned. MADE BY PROGRAM (wip/tools/shal.py). -/
import Derived.Test.YtdaibgpceldbdaaGreatDoorAmS0
namespace Go.Proofs.YtdaibgpceldbdaaGreatDoor
open Go Go.Am
set_option maxRecDepth 100000
set_option linter.all false
/-- stagepost/manifest.Behind$1 -/
noncomputable def s68G (J : Joins) (a0 : AV) (a1 : AV) (h : H) (k : Bool → H → Prop) : Prop :=
Go.Am.asAgg a0 fun l3 =>
pushK (.cells false 45 l3) h fun n1 h2 =>
ldI .i64 (AV.ptr n1 0) h2 fun x4 =>
ldI .i64 a1 h2 fun x5 =>
fB (eqI x4 x5) fun b6 =>
k b6 h2
noncomputable def s68 : AV → AV → H → (Bool → H → Prop) → Prop := s68G J0 
noncomputable def w68 (c : AV → AV → H → (Bool → H → Prop) → Prop) : Fun := fun xs h k => arg xs fun a0 xs => arg xs fun a1 xs => noArg xs <| c a0 a1 h fun r0 h => k (.bool r0) h
theorem s68_eq (J : Joins) (a0 : AV) (a1 : AV) (h : H) (k : AV → H → Prop) : denF ty (gam J []) Tryz.f68 [a0, a1] h k = s68G J  a0 a1 h (fun r0 h => k (.bool r0) h) := by kernel_rfl
noncomputable def g68 : Fun := w68 s68
theorem g68_ok : FunOk Tryz.prog 68 g68 := (fun_ok ty_ok mixed (gam_ok (J := J0) (tab_nil fls_fun)) Tryz.func68 (fun args w => by simp)).imp fun xs h k e0 => by
  obtain ⟨a0, xs0, rfl, e1⟩ := arg_imp e0
  obtain ⟨a1, xs1, rfl, e2⟩ := arg_imp e1
  obtain ⟨rfl, e3⟩ := noArg_imp e2
  exact (s68_eq J0  a0 a1 h k).mpr e3
/-- slices.IndexFunc[[]stagepost/api.Meta,stagepost/api.Meta] -/
noncomputable def s97G (J : Joins) (c68 : AV → AV → H → (Bool → H → Prop) → Prop) (a0 : AV) (a1 : AV) (h : H) (k : Int → H → Prop) : Prop :=
lenK a0 fun x1 =>
J.lp (α := AV × AV × AV × AV × Unit) (fun r5 v2 d3 h4 =>
asI .i64 v2.2.2.2.1 fun x6 =>
asI .i64 v2.2.2.1 fun x7 =>
fB (ltI x6 x7) fun b8 =>
br b8 (
ixK 5 v2.1 v2.2.2.2.1 fun p9 =>
ldN 5 p9 h4 fun l10 =>
callK (gam J [(68, w68 c68)]) v2.2.1 [(AV.agg l10)] h4 fun v11 h12 =>
asB v11 fun b13 =>
br b13 (
leaveK (gam J [(68, w68 c68)]) d3 h12 fun h14 =>
asI .i64 v2.2.2.2.1 fun x15 =>
k x15 h14) (
asI .i64 v2.2.2.2.1 fun x16 =>
fI (wrapF .i64 (Int.add x16 (Int.ofNat 1))) fun x17 =>
r5 (v2.1, v2.2.1, v2.2.2.1, (AV.int .i64 x17), ()) d3 h12)) (
leaveK (gam J [(68, w68 c68)]) d3 h4 fun h18 =>
k (Int.negSucc 0) h18)) (a0, a1, (AV.int .i64 (Int.ofNat x1)), (AV.int .i64 (Int.ofNat 0)), ()) [] h
noncomputable def s97 : AV → AV → H → (Int → H → Prop) → Prop := s97G J0 s68
noncomputable def w97 (c : AV → AV → H → (Int → H → Prop) → Prop) : Fun := fun xs h k => arg xs fun a0 xs => arg xs fun a1 xs => noArg xs <| c a0 a1 h fun r0 h => k (.int .i64 r0) h
theorem s97_eq (J : Joins) (c68 : AV → AV → H → (Bool → H → Prop) → Prop) (a0 : AV) (a1 : AV) (h : H) (k : AV → H → Prop) : denF ty (gam J [(68, w68 c68)]) Tryz.f97 [a0, a1] h k = s97G J c68 a0 a1 h (fun r0 h => k (.int .i64 r0) h) := by kernel_rfl
noncomputable def g97 : Fun := w97 s97
theorem g97_ok : FunOk Tryz.prog 97 g97 := (fun_ok ty_ok mixed (gam_ok (J := J0) (tab_cons g68_ok (tab_nil fls_fun))) Tryz.func97 (fun args w => by simp)).imp fun xs h k e0 => by
  obtain ⟨a0, xs0, rfl, e1⟩ := arg_imp e0
  obtain ⟨a1, xs1, rfl, e2⟩ := arg_imp e1
  obtain ⟨rfl, e3⟩ := noArg_imp e2
  exact (s97_eq J0 s68 a0 a1 h k).mpr e3
/-- slices.ContainsFunc[[]stagepost/api.Meta,stagepost/api.Meta] -/
noncomputable def s67G (J : Joins) (c97 : AV → AV → H → (Int → H → Prop) → Prop) (a0 : AV) (a1 : AV) (h : H) (k : Bool → H → Prop) : Prop :=
c97 a0 a1 h fun x2 h1 =>
fB (Bool.not (ltI x2 (Int.ofNat 0))) fun b3 =>
k b3 h1
noncomputable def s67 : AV → AV → H → (Bool → H → Prop) → Prop := s67G J0 s97
noncomputable def w67 (c : AV → AV → H → (Bool → H → Prop) → Prop) : Fun := fun xs h k => arg xs fun a0 xs => arg xs fun a1 xs => noArg xs <| c a0 a1 h fun r0 h => k (.bool r0) h
theorem s67_eq (J : Joins) (c97 : AV → AV → H → (Int → H → Prop) → Prop) (a0 : AV) (a1 : AV) (h : H) (k : AV → H → Prop) : denF ty (gam J [(97, w97 c97)]) Tryz.f67 [a0, a1] h k = s67G J c97 a0 a1 h (fun r0 h => k (.bool r0) h) := by kernel_rfl
noncomputable def g67 : Fun := w67 s67
theorem g67_ok : FunOk Tryz.prog 67 g67 := (fun_ok ty_ok mixed (gam_ok (J := J0) (tab_cons g97_ok (tab_nil fls_fun))) Tryz.func67 (fun args w => by simp)).imp fun xs h k e0 => by
  obtain ⟨a0, xs0, rfl, e1⟩ := arg_imp e0
  obtain ⟨a1, xs1, rfl, e2⟩ := arg_imp e1
  obtain ⟨rfl, e3⟩ := noArg_imp e2
  exact (s67_eq J0 s97 a0 a1 h k).mpr e3
/-- slices.insertionSortCmpFunc[stagepost/api.Meta] -/
noncomputable def s117G (J : Joins) (c46 : AV → AV → H → (Int → H → Prop) → Prop) (a0 : AV) (a1 : Int) (a2 : Int) (a3 : AV) (h : H) (k : H → Prop) : Prop :=
fI (wrapF .i64 (Int.add a1 (Int.ofNat 1))) fun x1 =>
J.lp (α := AV × AV × AV × AV × AV × Unit) (fun r5 v2 d3 h4 =>
asI .i64 v2.2.2.2.2.1 fun x6 =>
asI .i64 v2.2.2.1 fun x7 =>
fB (ltI x6 x7) fun b8 =>
br b8 (
J.lp (α := AV × AV × AV × AV × AV × AV × Unit) (fun r12 v9 d10 h11 =>
asI .i64 v9.2.2.2.2.2.1 fun x13 =>
asI .i64 v9.2.1 fun x14 =>
fB (ltI x14 x13) fun b15 =>
J.jn (fun v16 h17 =>
J.jn (fun v19 h20 =>
J.jn (fun v22 h23 =>
J.jn (fun v25 h26 =>
J.jb (fun b29 v30 =>
J.jn (fun v33 h34 =>
J.jn (fun v36 h37 =>
J.jn (fun v39 h40 =>
J.jn (fun v44 h45 =>
J.jb (fun b48 v49 =>
J.jn (fun v52 h53 =>
J.jn (fun v58 h59 =>
pickB (AV.bool b15) v58 (AV.bool false) fun b63 =>
br b63 (
asI .i64 v9.2.2.2.2.2.1 fun x64 =>
fI (wrapF .i64 (Int.sub x64 (Int.ofNat 1))) fun x65 =>
asI .i64 v9.2.2.2.2.2.1 fun x66 =>
fI (wrapF .i64 (Int.sub x66 (Int.ofNat 1))) fun x67 =>
ixK 5 v9.1 (AV.int .i64 x67) fun p68 =>
ldN 5 p68 h59 fun l69 =>
ixK 5 v9.1 v9.2.2.2.2.2.1 fun p70 =>
ldN 5 p70 h59 fun l71 =>
ixK 5 v9.1 v9.2.2.2.2.2.1 fun p72 =>
stN 5 p72 l69 h59 fun h73 =>
ixK 5 v9.1 (AV.int .i64 x65) fun p74 =>
stN 5 p74 l71 h73 fun h75 =>
asI .i64 v9.2.2.2.2.2.1 fun x76 =>
fI (wrapF .i64 (Int.sub x76 (Int.ofNat 1))) fun x77 =>
r12 (v9.1, v9.2.1, v9.2.2.1, v9.2.2.2.1, v9.2.2.2.2.1, (AV.int .i64 x77), ()) d10 h75) (
asI .i64 v9.2.2.2.2.1 fun x78 =>
fI (wrapF .i64 (Int.add x78 (Int.ofNat 1))) fun x79 =>
r5 (v9.1, v9.2.1, v9.2.2.1, v9.2.2.2.1, (AV.int .i64 x79), ()) d10 h59)) fun j60 =>
br b15 (
asI .i64 v52 fun x61 =>
fB (ltI x61 (Int.ofNat 0)) fun b62 =>
j60 (AV.bool b62) h53) (
j60 skipV h53)) fun j54 =>
br b15 (
callK (gam J [(46, w46 c46)]) v16 [v30, v49] h45 fun v55 h56 =>
asI .i64 v55 fun x57 =>
j54 (AV.int .i64 x57) h56) (
j54 skipV h45)) fun j50 =>
br b15 (
ldN 5 v44 h45 fun l51 =>
j50 true (AV.agg l51)) (
j50 false skipV)) fun j46 =>
br b15 (
ixK 5 v33 v39 fun p47 =>
j46 p47 h40) (
j46 skipV h40)) fun j41 =>
br b15 (
asI .i64 v36 fun x42 =>
fI (wrapF .i64 (Int.sub x42 (Int.ofNat 1))) fun x43 =>
j41 (AV.int .i64 x43) h37) (
j41 skipV h37)) fun j38 =>
br b15 (
j38 v9.2.2.2.2.2.1 h34) (
j38 skipV h34)) fun j35 =>
br b15 (
j35 v9.1 h26) (
j35 skipV h26)) fun j31 =>
br b15 (
ldN 5 v25 h26 fun l32 =>
j31 true (AV.agg l32)) (
j31 false skipV)) fun j27 =>
br b15 (
ixK 5 v19 v22 fun p28 =>
j27 p28 h23) (
j27 skipV h23)) fun j24 =>
br b15 (
j24 v9.2.2.2.2.2.1 h20) (
j24 skipV h20)) fun j21 =>
br b15 (
j21 v9.1 h17) (
j21 skipV h17)) fun j18 =>
br b15 (
j18 v9.2.2.2.1 h11) (
j18 skipV h11)) (v2.1, v2.2.1, v2.2.2.1, v2.2.2.2.1, v2.2.2.2.2.1, v2.2.2.2.2.1, ()) d3 h4) (
leaveK (gam J [(46, w46 c46)]) d3 h4 fun h80 =>
k  h80)) (a0, (AV.int .i64 a1), (AV.int .i64 a2), a3, (AV.int .i64 x1), ()) [] h
noncomputable def s117 : AV → Int → Int → AV → H → (H → Prop) → Prop := s117G J0 s46
noncomputable def w117 (c : AV → Int → Int → AV → H → (H → Prop) → Prop) : Fun := fun xs h k => arg xs fun a0 xs => arg xs fun a1 xs => arg xs fun a2 xs => arg xs fun a3 xs => noArg xs <| asI .i64 a1 fun a1 => asI .i64 a2 fun a2 => c a0 a1 a2 a3 h fun  h => k (.tuple []) h
theorem s117_eq (J : Joins) (c46 : AV → AV → H → (Int → H → Prop) → Prop) (a0 : AV) (a1 : Int) (a2 : Int) (a3 : AV) (h : H) (k : AV → H → Prop) : denF ty (gam J [(46, w46 c46)]) Tryz.f117 [a0, (.int .i64 a1), (.int .i64 a2), a3] h k = s117G J c46 a0 a1 a2 a3 h (fun  h => k (.tuple []) h) := by kernel_rfl
noncomputable def g117 : Fun := w117 s117
theorem g117_ok : FunOk Tryz.prog 117 g117 := (fun_ok ty_ok mixed (gam_ok (J := J0) (tab_cons g46_ok (tab_nil fls_fun))) Tryz.func117 (fun args w => by simp)).imp fun xs h k e0 => by
  obtain ⟨a0, xs0, rfl, e1⟩ := arg_imp e0
  obtain ⟨a1, xs1, rfl, e2⟩ := arg_imp e1
  obtain ⟨a2, xs2, rfl, e3⟩ := arg_imp e2
  obtain ⟨a3, xs3, rfl, e4⟩ := arg_imp e3
  obtain ⟨rfl, e5⟩ := noArg_imp e4
  obtain ⟨a1, rfl, e6⟩ := asI_iff.1 e5
  obtain ⟨a2, rfl, e7⟩ := asI_iff.1 e6
  exact (s117_eq J0 s46 a0 a1 a2 a3 h k).mpr e7
/-- slices.stableCmpFunc[stagepost/api.Meta] -/
noncomputable def s98G (J : Joins) (c117 : AV → Int → Int → AV → H → (H → Prop) → Prop) (a0 : AV) (a1 : Int) (a2 : AV) (h : H) (k : H → Prop) : Prop :=
J.lp (α := AV × AV × AV × AV × AV × AV × Unit) (fun r4 v1 d2 h3 =>
asI .i64 v1.2.2.2.2.2.1 fun x5 =>
asI .i64 v1.2.1 fun x6 =>
fB (Bool.not (ltI x6 x5)) fun b7 =>
br b7 (
asI .i64 v1.2.2.2.2.1 fun x9 =>
asI .i64 v1.2.2.2.2.2.1 fun x10 =>
c117 v1.1 x9 x10 v1.2.2.1 h3 fun  h8 =>
asI .i64 v1.2.2.2.2.2.1 fun x11 =>
asI .i64 v1.2.2.2.1 fun x12 =>
fI (wrapF .i64 (Int.add x11 x12)) fun x13 =>
r4 (v1.1, v1.2.1, v1.2.2.1, v1.2.2.2.1, v1.2.2.2.2.2.1, (AV.int .i64 x13), ()) d2 h8) (
asI .i64 v1.2.2.2.2.1 fun x15 =>
asI .i64 v1.2.1 fun x16 =>
c117 v1.1 x15 x16 v1.2.2.1 h3 fun  h14 =>
J.lp (α := AV × AV × AV × AV × Unit) (fun r20 v17 d18 h19 =>
asI .i64 v17.2.2.2.1 fun x21 =>
asI .i64 v17.2.1 fun x22 =>
fB (ltI x21 x22) fun b23 =>
br b23 (
asI .i64 v17.2.2.2.1 fun x24 =>
fI (wrapF .i64 (Int.mul (Int.ofNat 2) x24)) fun x25 =>
J.lp (α := AV × AV × AV × AV × AV × AV × Unit) (fun r29 v26 d27 h28 =>
asI .i64 v26.2.2.2.2.2.1 fun x30 =>
asI .i64 v26.2.1 fun x31 =>
fB (Bool.not (ltI x31 x30)) fun b32 =>
br b32 (
asI .i64 v26.2.2.2.2.1 fun x33 =>
asI .i64 v26.2.2.2.1 fun x34 =>
fI (wrapF .i64 (Int.add x33 x34)) fun x35 =>
False) (
J.jd (α := AV × AV × AV × AV × Unit) (fun v36 d37 h38 =>
asI .i64 v36.2.2.2.1 fun x40 =>
fI (wrapF .i64 (Int.mul x40 (Int.ofNat 2))) fun x41 =>
r20 (v36.1, v36.2.1, v36.2.2.1, (AV.int .i64 x41), ()) d37 h38) fun j39 =>
asI .i64 v26.2.2.2.2.1 fun x42 =>
asI .i64 v26.2.2.2.1 fun x43 =>
fI (wrapF .i64 (Int.add x42 x43)) fun x44 =>
asI .i64 v26.2.1 fun x45 =>
fB (ltI x44 x45) fun b46 =>
br b46 (
False) (
j39 (v26.1, v26.2.1, v26.2.2.1, v26.2.2.2.1, ()) d27 h28))) (v17.1, v17.2.1, v17.2.2.1, v17.2.2.2.1, (AV.int .i64 (Int.ofNat 0)), (AV.int .i64 x25), ()) d18 h19) (
leaveK (gam J [(117, w117 c117)]) d18 h19 fun h47 =>
k  h47)) (v1.1, v1.2.1, v1.2.2.1, v1.2.2.2.1, ()) d2 h14)) (a0, (AV.int .i64 a1), a2, (AV.int .i64 (Int.ofNat 20)), (AV.int .i64 (Int.ofNat 0)), (AV.int .i64 (Int.ofNat 20)), ()) [] h
noncomputable def s98 : AV → Int → AV → H → (H → Prop) → Prop := s98G J0 s117
noncomputable def w98 (c : AV → Int → AV → H → (H → Prop) → Prop) : Fun := fun xs h k => arg xs fun a0 xs => arg xs fun a1 xs => arg xs fun a2 xs => noArg xs <| asI .i64 a1 fun a1 => c a0 a1 a2 h fun  h => k (.tuple []) h
theorem s98_eq (J : Joins) (c117 : AV → Int → Int → AV → H → (H → Prop) → Prop) (a0 : AV) (a1 : Int) (a2 : AV) (h : H) (k : AV → H → Prop) : denF ty (gam J [(117, w117 c117)]) Tryz.f98 [a0, (.int .i64 a1), a2] h k = s98G J c117 a0 a1 a2 h (fun  h => k (.tuple []) h) := by kernel_rfl
noncomputable def g98 : Fun := w98 s98
theorem g98_ok : FunOk Tryz.prog 98 g98 := (fun_ok ty_ok mixed (gam_ok (J := J0) (tab_cons g117_ok (tab_nil fls_fun))) Tryz.func98 (fun args w => by simp)).imp fun xs h k e0 => by
  obtain ⟨a0, xs0, rfl, e1⟩ := arg_imp e0
  obtain ⟨a1, xs1, rfl, e2⟩ := arg_imp e1
  obtain ⟨a2, xs2, rfl, e3⟩ := arg_imp e2
  obtain ⟨rfl, e4⟩ := noArg_imp e3
  obtain ⟨a1, rfl, e5⟩ := asI_iff.1 e4
  exact (s98_eq J0 s117 a0 a1 a2 h k).mpr e5
/-- slices.SortStableFunc[[]stagepost/api.Meta,stagepost/api.Meta] -/
noncomputable def s69G (J : Joins) (c98 : AV → Int → AV → H → (H → Prop) → Prop) (a0 : AV) (a1 : AV) (h : H) (k : H → Prop) : Prop :=
lenK a0 fun x1 =>
c98 a0 (Int.ofNat x1) a1 h fun  h2 =>
k  h2
noncomputable def s69 : AV → AV → H → (H → Prop) → Prop := s69G J0 s98
noncomputable def w69 (c : AV → AV → H → (H → Prop) → Prop) : Fun := fun xs h k => arg xs fun a0 xs => arg xs fun a1 xs => noArg xs <| c a0 a1 h fun  h => k (.tuple []) h
theorem s69_eq (J : Joins) (c98 : AV → Int → AV → H → (H → Prop) → Prop) (a0 : AV) (a1 : AV) (h : H) (k : AV → H → Prop) : denF ty (gam J [(98, w98 c98)]) Tryz.f69 [a0, a1] h k = s69G J c98 a0 a1 h (fun  h => k (.tuple []) h) := by kernel_rfl
noncomputable def g69 : Fun := w69 s69
theorem g69_ok : FunOk Tryz.prog 69 g69 := (fun_ok ty_ok mixed (gam_ok (J := J0) (tab_cons g98_ok (tab_nil fls_fun))) Tryz.func69 (fun args w => by simp)).imp fun xs h k e0 => by
  obtain ⟨a0, xs0, rfl, e1⟩ := arg_imp e0
  obtain ⟨a1, xs1, rfl, e2⟩ := arg_imp e1
  obtain ⟨rfl, e3⟩ := noArg_imp e2
  exact (s69_eq J0 s98 a0 a1 h k).mpr e3
/-- stagepost/manifest.Behind -/
noncomputable def s34G (J : Joins) (c16 : AV → H → (Int → H → Prop) → Prop) (c46 : AV → AV → H → (Int → H → Prop) → Prop) (c67 : AV → AV → H → (Bool → H → Prop) → Prop) (c68 : AV → AV → H → (Bool → H → Prop) → Prop) (c69 : AV → AV → H → (H → Prop) → Prop) (a0 : AV) (a1 : AV) (h : H) (k : AV → Int → H → Prop) : Prop :=
Go.Am.asAgg a0 fun l3 =>
pushK (.cells false 39 l3) h fun n1 h2 =>
Go.Am.asAgg a1 fun l6 =>
pushK (.cells false 34 l6) h2 fun n4 h5 =>
pushK (.cells false 39 [(.nils), (.int .i64 0), (.int .i64 0), (.int .i64 0)]) h5 fun n7 h8 =>
ldN 4 (AV.ptr n1 0) h8 fun l9 =>
c16 (AV.agg l9) h8 fun x11 h10 =>
fB (Bool.not (eqI x11 (Int.ofNat 0))) fun b12 =>
br b12 (
stN 4 (AV.ptr n7 0) [(.nils), (.int .i64 0), (.int .i64 0), (.int .i64 0)] h10 fun h13 =>
ldN 4 (AV.ptr n7 0) h13 fun l14 =>
k (AV.agg l14) x11 h13) (
ldI .i64 (AV.ptr n4 2) h10 fun x15 =>
ldI .i64 (AV.ptr n1 1) h10 fun x16 =>
fB (ltI x15 x16) fun b17 =>
J.jn (fun v18 h19 =>
J.jn (fun v21 h22 =>
J.jn (fun v25 h26 =>
J.jn (fun v28 h29 =>
J.jn (fun v32 h33 =>
pickB (AV.bool b17) (AV.bool true) v32 fun b38 =>
J.jn (fun v39 h40 =>
J.jn (fun v42 h43 =>
J.jn (fun v46 h47 =>
J.jn (fun v49 h50 =>
J.jn (fun v53 h54 =>
pickB (AV.bool b38) (AV.bool true) v53 fun b59 =>
br b59 (
stN 4 (AV.ptr n7 0) [(.nils), (.int .i64 0), (.int .i64 0), (.int .i64 0)] h54 fun h60 =>
ldN 4 (AV.ptr n7 0) h60 fun l61 =>
k (AV.agg l61) (Int.ofNat 2) h60) (
ldI .i64 (AV.ptr n4 2) h54 fun x62 =>
ldI .i64 (AV.ptr n4 3) h54 fun x63 =>
ldI .i64 (AV.ptr n4 4) h54 fun x64 =>
pushK (.cells false 39 [(.nils), (.int .i64 0), (.int .i64 0), (.int .i64 0)]) h54 fun n65 h66 =>
stN 4 (AV.ptr n65 0) [(.nils), (AV.int .i64 x62), (AV.int .i64 x63), (AV.int .i64 x64)] h66 fun h67 =>
pushK (.smap []) h67 fun n68 h69 =>
ldV (AV.ptr n4 0) h69 fun v70 =>
lenK v70 fun x71 =>
J.lp (α := AV × AV × AV × AV × AV × AV × AV × AV × Unit) (fun r75 v72 d73 h74 =>
asI .i64 v72.2.2.2.2.2.2.2.1 fun x76 =>
asI .i64 v72.2.2.2.2.2.2.1 fun x77 =>
fB (ltI x76 x77) fun b78 =>
br b78 (
ixK 1 v72.2.2.2.2.2.1 v72.2.2.2.2.2.2.2.1 fun p79 =>
ldI .i64 p79 h74 fun x80 =>
pushK (.cells false 3 [(.int .i64 0)]) h74 fun n81 h82 =>
stV (AV.ptr n81 0) (AV.int .i64 x80) h82 fun h83 =>
faK 0 v72.1 fun p84 =>
ldV p84 h83 fun v85 =>
c67 v85 (AV.func (.func 68) [] [(AV.ptr n81 0)]) h83 fun b87 h86 =>
fB (Bool.not b87) fun b88 =>
J.jn (fun v89 h90 =>
J.jn (fun v92 h93 =>
J.jn (fun v96 h97 =>
pickB (AV.bool b88) (AV.bool true) v96 fun b101 =>
br b101 (
stN 4 v72.2.2.1 [(.nils), (.int .i64 0), (.int .i64 0), (.int .i64 0)] h97 fun h102 =>
leaveK (gam J [(16, w16 c16), (46, w46 c46), (67, w67 c67), (68, w68 c68), (69, w69 c69)]) d73 h102 fun h103 =>
ldN 4 v72.2.2.1 h103 fun l104 =>
k (AV.agg l104) (Int.ofNat 2) h103) (
ldI .i64 (AV.ptr n81 0) h97 fun x105 =>
op' (mapBlk ty 3 v72.2.2.2.2.1 (AV.int .i64 x105) (AV.bool true) h97) fun k106 =>
putK k106.1 k106.2 h97 fun h107 =>
asI .i64 v72.2.2.2.2.2.2.2.1 fun x108 =>
fI (wrapF .i64 (Int.add x108 (Int.ofNat 1))) fun x109 =>
r75 (v72.1, v72.2.1, v72.2.2.1, v72.2.2.2.1, v72.2.2.2.2.1, v72.2.2.2.2.2.1, v72.2.2.2.2.2.2.1, (AV.int .i64 x109), ()) d73 h107)) fun j98 =>
br b88 (
j98 skipV h93) (
op' (aLookup ty 3 4 false v89 v92 h93) fun v99 =>
asB v99 fun b100 =>
j98 (AV.bool b100) h93)) fun j94 =>
br b88 (
j94 skipV h90) (
ldI .i64 (AV.ptr n81 0) h90 fun x95 =>
j94 (AV.int .i64 x95) h90)) fun j91 =>
br b88 (
j91 skipV h86) (
j91 v72.2.2.2.2.1 h86)) (
faK 0 v72.1 fun p110 =>
ldV p110 h74 fun v111 =>
lenK v111 fun x112 =>
J.lp (α := AV × AV × AV × AV × AV × AV × AV × Unit) (fun r116 v113 d114 h115 =>
asI .i64 v113.2.2.2.2.2.2.1 fun x117 =>
asI .i64 v113.2.2.2.2.2.1 fun x118 =>
fB (ltI x117 x118) fun b119 =>
br b119 (
J.jd (α := AV × AV × AV × AV × AV × AV × AV × Unit) (fun v120 d121 h122 =>
asI .i64 v120.2.2.2.2.2.2.1 fun x124 =>
fI (wrapF .i64 (Int.add x124 (Int.ofNat 1))) fun x125 =>
r116 (v120.1, v120.2.1, v120.2.2.1, v120.2.2.2.1, v120.2.2.2.2.1, v120.2.2.2.2.2.1, (AV.int .i64 x125), ()) d121 h122) fun j123 =>
ixK 5 v113.2.2.2.2.1 v113.2.2.2.2.2.2.1 fun p126 =>
ldN 5 p126 h115 fun l127 =>
pushK (.cells false 45 [(.int .i64 0), (.int .i64 0), (.int .i64 0), (.str ⟨0, 0⟩), (.str ⟨0, 0⟩)]) h115 fun n128 h129 =>
stN 5 (AV.ptr n128 0) l127 h129 fun h130 =>
ldI .i64 (AV.ptr n128 0) h130 fun x131 =>
op' (aLookup ty 3 4 false v113.2.2.2.1 (AV.int .i64 x131) h130) fun v132 =>
asB v132 fun b133 =>
fB (Bool.not b133) fun b134 =>
br b134 (
faK 0 v113.2.2.1 fun p135 =>
ldV p135 h130 fun v136 =>
ldN 5 (AV.ptr n128 0) h130 fun l137 =>
ck (Nat.beq (List.length l137) 5) (op' (lputAt 0 l137 [(.int .i64 0), (.int .i64 0), (.int .i64 0), (.str ⟨0, 0⟩), (.str ⟨0, 0⟩)]) fun l140 =>
pushK (.cells false 45 l140) h130 fun n138 h139 =>
apC 45 5 56 v136 (AV.slice n138 0 1 1 5 true) h139 fun v141 h142 =>
faK 0 v113.2.2.1 fun p143 =>
stV p143 v141 h142 fun h144 =>
j123 (v113.1, v113.2.1, v113.2.2.1, v113.2.2.2.1, v113.2.2.2.2.1, v113.2.2.2.2.2.1, v113.2.2.2.2.2.2.1, ()) d114 h144)) (
j123 (v113.1, v113.2.1, v113.2.2.1, v113.2.2.2.1, v113.2.2.2.2.1, v113.2.2.2.2.2.1, v113.2.2.2.2.2.2.1, ()) d114 h130)) (
faK 0 v113.2.2.1 fun p145 =>
ldV p145 h115 fun v146 =>
faK 1 v113.1 fun p147 =>
ldV p147 h115 fun v148 =>
apC 45 5 56 v146 v148 h115 fun v149 h150 =>
faK 0 v113.2.2.1 fun p151 =>
stV p151 v149 h150 fun h152 =>
faK 0 v113.2.2.1 fun p153 =>
ldV p153 h152 fun v154 =>
c69 v154 (AV.func (.func 46) [] []) h152 fun  h155 =>
ldN 4 v113.2.2.1 h155 fun l156 =>
c16 (AV.agg l156) h155 fun x158 h157 =>
fB (Bool.not (eqI x158 (Int.ofNat 0))) fun b159 =>
br b159 (
stN 4 v113.2.1 [(.nils), (.int .i64 0), (.int .i64 0), (.int .i64 0)] h157 fun h160 =>
leaveK (gam J [(16, w16 c16), (46, w46 c46), (67, w67 c67), (68, w68 c68), (69, w69 c69)]) d114 h160 fun h161 =>
ldN 4 v113.2.1 h161 fun l162 =>
k (AV.agg l162) (Int.ofNat 2) h161) (
ldN 4 v113.2.2.1 h157 fun l163 =>
stN 4 v113.2.1 l163 h157 fun h164 =>
leaveK (gam J [(16, w16 c16), (46, w46 c46), (67, w67 c67), (68, w68 c68), (69, w69 c69)]) d114 h164 fun h165 =>
ldN 4 v113.2.1 h165 fun l166 =>
k (AV.agg l166) (Int.ofNat 0) h165))) (v72.2.1, v72.2.2.1, v72.2.2.2.1, v72.2.2.2.2.1, v111, (AV.int .i64 (Int.ofNat x112)), (AV.int .i64 (Int.ofNat 0)), ()) d73 h74)) ((AV.ptr n1 0), (AV.ptr n4 0), (AV.ptr n7 0), (AV.ptr n65 0), (AV.map n68), v70, (AV.int .i64 (Int.ofNat x71)), (AV.int .i64 (Int.ofNat 0)), ()) [] h69)) fun j55 =>
br b38 (
j55 skipV h50) (
asI .i64 v42 fun x56 =>
asI .i64 v49 fun x57 =>
fB (ltI x56 x57) fun b58 =>
j55 (AV.bool b58) h50)) fun j51 =>
br b38 (
j51 skipV h47) (
ldI .i64 v46 h47 fun x52 =>
j51 (AV.int .i64 x52) h47)) fun j48 =>
br b38 (
j48 skipV h43) (
j48 (AV.ptr n1 3) h43)) fun j44 =>
br b38 (
j44 skipV h40) (
ldI .i64 v39 h40 fun x45 =>
j44 (AV.int .i64 x45) h40)) fun j41 =>
br b38 (
j41 skipV h33) (
j41 (AV.ptr n4 4) h33)) fun j34 =>
br b17 (
j34 skipV h29) (
asI .i64 v21 fun x35 =>
asI .i64 v28 fun x36 =>
fB (ltI x35 x36) fun b37 =>
j34 (AV.bool b37) h29)) fun j30 =>
br b17 (
j30 skipV h26) (
ldI .i64 v25 h26 fun x31 =>
j30 (AV.int .i64 x31) h26)) fun j27 =>
br b17 (
j27 skipV h22) (
j27 (AV.ptr n1 2) h22)) fun j23 =>
br b17 (
j23 skipV h19) (
ldI .i64 v18 h19 fun x24 =>
j23 (AV.int .i64 x24) h19)) fun j20 =>
br b17 (
j20 skipV h10) (
j20 (AV.ptr n4 3) h10))
noncomputable def s34 : AV → AV → H → (AV → Int → H → Prop) → Prop := s34G J0 s16 s46 s67 s68 s69
noncomputable def w34 (c : AV → AV → H → (AV → Int → H → Prop) → Prop) : Fun := fun xs h k => arg xs fun a0 xs => arg xs fun a1 xs => noArg xs <| c a0 a1 h fun r0 r1 h => k (.tuple [r0, (.int .i64 r1)]) h
theorem s34_eq (J : Joins) (c16 : AV → H → (Int → H → Prop) → Prop) (c46 : AV → AV → H → (Int → H → Prop) → Prop) (c67 : AV → AV → H → (Bool → H → Prop) → Prop) (c68 : AV → AV → H → (Bool → H → Prop) → Prop) (c69 : AV → AV → H → (H → Prop) → Prop) (a0 : AV) (a1 : AV) (h : H) (k : AV → H → Prop) : denF ty (gam J [(16, w16 c16), (46, w46 c46), (67, w67 c67), (68, w68 c68), (69, w69 c69)]) Tryz.f34 [a0, a1] h k = s34G J c16 c46 c67 c68 c69 a0 a1 h (fun r0 r1 h => k (.tuple [r0, (.int .i64 r1)]) h) := by kernel_rfl
noncomputable def g34 : Fun := w34 s34
theorem g34_ok : FunOk Tryz.prog 34 g34 := (fun_ok ty_ok mixed (gam_ok (J := J0) (tab_cons g16_ok (tab_cons g46_ok (tab_cons g67_ok (tab_cons g68_ok (tab_cons g69_ok (tab_nil fls_fun))))))) Tryz.func34 (fun args w => by simp)).imp fun xs h k e0 => by
  obtain ⟨a0, xs0, rfl, e1⟩ := arg_imp e0
  obtain ⟨a1, xs1, rfl, e2⟩ := arg_imp e1
  obtain ⟨rfl, e3⟩ := noArg_imp e2
  exact (s34_eq J0 s16 s46 s67 s68 s69 a0 a1 h k).mpr e3
/-- stagepost/manifest.first -/
noncomputable def s50G (J : Joins) (h : H) (k : AV → H → Prop) : Prop :=
pushK (.cells false 39 [(.nils), (.int .i64 0), (.int .i64 0), (.int .i64 0)]) h fun n1 h2 =>
stN 4 (AV.ptr n1 0) [(.nils), (AV.int .i64 (Int.ofNat 1)), (.int .i64 0), (AV.int .i64 (Int.ofNat 1))] h2 fun h3 =>
ldN 4 (AV.ptr n1 0) h3 fun l4 =>
k (AV.agg l4) h3
noncomputable def s50 : H → (AV → H → Prop) → Prop := s50G J0 
noncomputable def w50 (c : H → (AV → H → Prop) → Prop) : Fun := fun xs h k => noArg xs <| c  h fun r0 h => k r0 h
theorem s50_eq (J : Joins)  (h : H) (k : AV → H → Prop) : denF ty (gam J []) Tryz.f50 [] h k = s50G J   h (fun r0 h => k r0 h) := by kernel_rfl
noncomputable def g50 : Fun := w50 s50
theorem g50_ok : FunOk Tryz.prog 50 g50 := (fun_ok ty_ok mixed (gam_ok (J := J0) (tab_nil fls_fun)) Tryz.func50 (fun args w => by simp)).imp fun xs h k e0 => by
  obtain ⟨rfl, e1⟩ := noArg_imp e0
  exact (s50_eq J0   h k).mpr e1
/-- stagepost/crc.More -/
noncomputable def s110G (J : Joins) (a0 : Int) (a1 : AV) (h : H) (k : Int → H → Prop) : Prop :=
op' (aUn .xor (AV.int .u32 a0)) fun v1 =>
asI .u32 v1 fun x2 =>
lenK a1 fun x3 =>
J.lp (α := AV × AV × AV × AV × Unit) (fun r7 v4 d5 h6 =>
asI .i64 v4.2.2.2.1 fun x8 =>
asI .i64 v4.2.2.1 fun x9 =>
fB (ltI x8 x9) fun b10 =>
br b10 (
ixK 1 v4.2.1 v4.2.2.2.1 fun p11 =>
ldI .u8 p11 h6 fun x12 =>
fI (wrapF .u32 x12) fun x13 =>
asI .u32 v4.1 fun x14 =>
fI (lxorF .u32 x14 x13) fun x15 =>
J.lp (α := AV × AV × AV × AV × AV × Unit) (fun r19 v16 d17 h18 =>
asI .i64 v16.2.2.2.2.1 fun x20 =>
fB (ltI x20 (Int.ofNat 8)) fun b21 =>
br b21 (
J.jd (α := AV × AV × AV × AV × AV × Unit) (fun v22 d23 h24 =>
asI .i64 v22.2.2.2.2.1 fun x26 =>
fI (wrapF .i64 (Int.add x26 (Int.ofNat 1))) fun x27 =>
r19 (v22.1, v22.2.1, v22.2.2.1, v22.2.2.2.1, (AV.int .i64 x27), ()) d23 h24) fun j25 =>
asI .u32 v16.1 fun x28 =>
fI (landF .u32 x28 (Int.ofNat 1)) fun x29 =>
asI .u32 v16.1 fun x30 =>
fI (shrF x30 (nmin 1 (IntKind.bits .u32))) fun x31 =>
fB (eqI x29 (Int.ofNat 1)) fun b32 =>
br b32 (
fI (lxorF .u32 x31 (Int.ofNat 2197175160)) fun x33 =>
j25 ((AV.int .u32 x33), v16.2.1, v16.2.2.1, v16.2.2.2.1, v16.2.2.2.2.1, ()) d17 h18) (
j25 ((AV.int .u32 x31), v16.2.1, v16.2.2.1, v16.2.2.2.1, v16.2.2.2.2.1, ()) d17 h18)) (
asI .i64 v16.2.2.2.1 fun x34 =>
fI (wrapF .i64 (Int.add x34 (Int.ofNat 1))) fun x35 =>
r7 (v16.1, v16.2.1, v16.2.2.1, (AV.int .i64 x35), ()) d17 h18)) ((AV.int .u32 x15), v4.2.1, v4.2.2.1, v4.2.2.2.1, (AV.int .i64 (Int.ofNat 0)), ()) d5 h6) (
op' (aUn .xor v4.1) fun v36 =>
asI .u32 v36 fun x37 =>
leaveK (gam J []) d5 h6 fun h38 =>
k x37 h38)) ((AV.int .u32 x2), a1, (AV.int .i64 (Int.ofNat x3)), (AV.int .i64 (Int.ofNat 0)), ()) [] h
noncomputable def s110 : Int → AV → H → (Int → H → Prop) → Prop := s110G J0 
noncomputable def w110 (c : Int → AV → H → (Int → H → Prop) → Prop) : Fun := fun xs h k => arg xs fun a0 xs => arg xs fun a1 xs => noArg xs <| asI .u32 a0 fun a0 => c a0 a1 h fun r0 h => k (.int .u32 r0) h
theorem s110_eq (J : Joins) (a0 : Int) (a1 : AV) (h : H) (k : AV → H → Prop) : denF ty (gam J []) Tryz.f110 [(.int .u32 a0), a1] h k = s110G J  a0 a1 h (fun r0 h => k (.int .u32 r0) h) := by kernel_rfl
noncomputable def g110 : Fun := w110 s110
theorem g110_ok : FunOk Tryz.prog 110 g110 := (fun_ok ty_ok mixed (gam_ok (J := J0) (tab_nil fls_fun)) Tryz.func110 (fun args w => by simp)).imp fun xs h k e0 => by
  obtain ⟨a0, xs0, rfl, e1⟩ := arg_imp e0
  obtain ⟨a1, xs1, rfl, e2⟩ := arg_imp e1
  obtain ⟨rfl, e3⟩ := noArg_imp e2
  obtain ⟨a0, rfl, e4⟩ := asI_iff.1 e3
  exact (s110_eq J0  a0 a1 h k).mpr e4
/-- stagepost/crc.Sum -/
noncomputable def s88G (J : Joins) (c110 : Int → AV → H → (Int → H → Prop) → Prop) (a0 : AV) (h : H) (k : Int → H → Prop) : Prop :=
c110 (Int.ofNat 0) a0 h fun x2 h1 =>
k x2 h1
noncomputable def s88 : AV → H → (Int → H → Prop) → Prop := s88G J0 s110
noncomputable def w88 (c : AV → H → (Int → H → Prop) → Prop) : Fun := fun xs h k => arg xs fun a0 xs => noArg xs <| c a0 h fun r0 h => k (.int .u32 r0) h
theorem s88_eq (J : Joins) (c110 : Int → AV → H → (Int → H → Prop) → Prop) (a0 : AV) (h : H) (k : AV → H → Prop) : denF ty (gam J [(110, w110 c110)]) Tryz.f88 [a0] h k = s88G J c110 a0 h (fun r0 h => k (.int .u32 r0) h) := by kernel_rfl
noncomputable def g88 : Fun := w88 s88
theorem g88_ok : FunOk Tryz.prog 88 g88 := (fun_ok ty_ok mixed (gam_ok (J := J0) (tab_cons g110_ok (tab_nil fls_fun))) Tryz.func88 (fun args w => by simp)).imp fun xs h k e0 => by
  obtain ⟨a0, xs0, rfl, e1⟩ := arg_imp e0
  obtain ⟨rfl, e2⟩ := noArg_imp e1
  exact (s88_eq J0 s110 a0 h k).mpr e2
/-- stagepost/crc.Sealed -/
noncomputable def s57G (J : Joins) (c88 : AV → H → (Int → H → Prop) → Prop) (a0 : AV) (h : H) (k : AV → H → Prop) : Prop :=
apB (.slice 5) 5 AV.nils a0 h fun v1 h2 =>
c88 a0 h2 fun x4 h3 =>
J.lp (α := AV × AV × AV × Unit) (fun r8 v5 d6 h7 =>
asI .i64 v5.2.2.1 fun x9 =>
fB (ltI x9 (Int.ofNat 4)) fun b10 =>
br b10 (
asI .i64 v5.2.2.1 fun x11 =>
fI (wrapF .i64 (Int.mul (Int.ofNat 8) x11)) fun x12 =>
asI .u32 v5.2.1 fun x13 =>
asNat (AV.int .i64 x12) fun n14 =>
fI (shrF x13 (nmin n14 (IntKind.bits .u32))) fun x15 =>
fI (wrapF .u8 x15) fun x16 =>
op' (asRow true 5 [(AV.int .u8 x16)]) fun k19 =>
pushK k19 h7 fun n17 h18 =>
apB (.slice 5) 5 v5.1 (AV.slice n17 0 1 1 1 true) h18 fun v20 h21 =>
asI .i64 v5.2.2.1 fun x22 =>
fI (wrapF .i64 (Int.add x22 (Int.ofNat 1))) fun x23 =>
r8 (v20, v5.2.1, (AV.int .i64 x23), ()) d6 h21) (
leaveK (gam J [(88, w88 c88)]) d6 h7 fun h24 =>
k v5.1 h24)) (v1, (AV.int .u32 x4), (AV.int .i64 (Int.ofNat 0)), ()) [] h3
noncomputable def s57 : AV → H → (AV → H → Prop) → Prop := s57G J0 s88
noncomputable def w57 (c : AV → H → (AV → H → Prop) → Prop) : Fun := fun xs h k => arg xs fun a0 xs => noArg xs <| c a0 h fun r0 h => k r0 h
theorem s57_eq (J : Joins) (c88 : AV → H → (Int → H → Prop) → Prop) (a0 : AV) (h : H) (k : AV → H → Prop) : denF ty (gam J [(88, w88 c88)]) Tryz.f57 [a0] h k = s57G J c88 a0 h (fun r0 h => k r0 h) := by kernel_rfl
noncomputable def g57 : Fun := w57 s57
theorem g57_ok : FunOk Tryz.prog 57 g57 := (fun_ok ty_ok mixed (gam_ok (J := J0) (tab_cons g88_ok (tab_nil fls_fun))) Tryz.func57 (fun args w => by simp)).imp fun xs h k e0 => by
  obtain ⟨a0, xs0, rfl, e1⟩ := arg_imp e0
  obtain ⟨rfl, e2⟩ := noArg_imp e1
  exact (s57_eq J0 s88 a0 h k).mpr e2
/-- stagepost/crc.Opened -/
noncomputable def s83G (J : Joins) (c57 : AV → H → (AV → H → Prop) → Prop) (a0 : AV) (h : H) (k : AV → Bool → H → Prop) : Prop :=
lenK a0 fun x1 =>
fI (wrapF .i64 (Int.sub (Int.ofNat x1) (Int.ofNat 4))) fun x2 =>
fB (ltI x2 (Int.ofNat 0)) fun b3 =>
J.jn (fun v4 h5 =>
J.jn (fun v7 h8 =>
J.jn (fun v10 h11 =>
J.jn (fun v14 h15 =>
J.jb (fun b17 v18 =>
J.jn (fun v21 h22 =>
ck (Bool.rec (motive := fun _ => Bool) true (readsSo (aToStr v14 h22) v18) b17) (
J.jb (fun b26 v27 =>
J.jn (fun v30 h31 =>
pickB (AV.bool b3) (AV.bool true) v30 fun b36 =>
br b36 (
k AV.nils false h31) (
slK 1 a0 none (some (AV.int .i64 x2)) fun v37 =>
apB (.slice 5) 5 AV.nils v37 h31 fun v38 h39 =>
k v38 true h39)) fun j32 =>
br b3 (
j32 skipV h22) (
asS v27 fun s33 =>
asS v18 fun s34 =>
fB (Bool.not (Str.beq s33 s34)) fun b35 =>
j32 (AV.bool b35) h22)) fun j28 =>
br b3 (
j28 false skipV) (
toStrK v21 h22 fun s29 =>
j28 true (AV.str s29)))) fun j23 =>
br b3 (
j23 skipV h15) (
c57 v10 h15 fun v25 h24 =>
j23 v25 h24)) fun j19 =>
br b3 (
j19 false skipV) (
toStrK v14 h15 fun s20 =>
j19 true (AV.str s20))) fun j16 =>
br b3 (
j16 skipV h11) (
j16 a0 h11)) fun j12 =>
br b3 (
j12 skipV h8) (
slK 1 v4 none (some v7) fun v13 =>
j12 v13 h8)) fun j9 =>
br b3 (
j9 skipV h5) (
j9 (AV.int .i64 x2) h5)) fun j6 =>
br b3 (
j6 skipV h) (
j6 a0 h)
noncomputable def s83 : AV → H → (AV → Bool → H → Prop) → Prop := s83G J0 s57
noncomputable def w83 (c : AV → H → (AV → Bool → H → Prop) → Prop) : Fun := fun xs h k => arg xs fun a0 xs => noArg xs <| c a0 h fun r0 r1 h => k (.tuple [r0, (.bool r1)]) h
theorem s83_eq (J : Joins) (c57 : AV → H → (AV → H → Prop) → Prop) (a0 : AV) (h : H) (k : AV → H → Prop) : denF ty (gam J [(57, w57 c57)]) Tryz.f83 [a0] h k = s83G J c57 a0 h (fun r0 r1 h => k (.tuple [r0, (.bool r1)]) h) := by kernel_rfl
noncomputable def g83 : Fun := w83 s83
theorem g83_ok : FunOk Tryz.prog 83 g83 := (fun_ok ty_ok mixed (gam_ok (J := J0) (tab_cons g57_ok (tab_nil fls_fun))) Tryz.func83 (fun args w => by simp)).imp fun xs h k e0 => by
  obtain ⟨a0, xs0, rfl, e1⟩ := arg_imp e0
  obtain ⟨rfl, e2⟩ := noArg_imp e1
  exact (s83_eq J0 s57 a0 h k).mpr e2
/-- stagepost/frame.Read -/
noncomputable def g51 : Fun := denF ty (gam J0 [(83, g83)]) Tryz.f51
theorem g51_ok : FunOk Tryz.prog 51 g51 := fun_ok ty_ok mixed (gam_ok (J := J0) (tab_cons g83_ok (tab_nil fls_fun))) Tryz.func51 (fun args w => by simp)
/-- internal/strconv.ParseUint -/
noncomputable def s148G (J : Joins) (a0 : Str) (a1 : Int) (a2 : Int) (h : H) (k : Int → AV → H → Prop) : Prop :=
fB (Str.beq a0 (⟨0, 0⟩ : Str)) fun b1 =>
br b1 (
k (Int.ofNat 0) (AV.iface 176 (AV.int .i64 (Int.ofNat 2))) h) (
fB (eqI a1 (Int.ofNat 0)) fun b2 =>
J.jd (α := AV × AV × AV × AV × AV × Unit) (fun v3 d4 h5 =>
J.jd (α := AV × AV × AV × AV × AV × Unit) (fun v7 d8 h9 =>
J.jd (α := AV × AV × AV × AV × AV × AV × Unit) (fun v11 d12 h13 =>
asI .i64 v11.2.2.1 fun x15 =>
fI (wrapF .u64 x15) fun x16 =>
asNat (AV.int .u64 x16) fun n17 =>
fI (shlF .u64 (Int.ofNat 1) n17) fun x18 =>
fI (wrapF .u64 (Int.sub x18 (Int.ofNat 1))) fun x19 =>
asS v11.1 fun s22 =>
pushK (.bytes 5 0 true s22) h13 fun n20 h21 =>
J.lp (α := AV × AV × AV × AV × AV × AV × AV × AV × AV × AV × Unit) (fun r26 v23 d24 h25 =>
asI .i64 v23.2.2.2.2.2.2.2.2.2.1 fun x27 =>
asI .i64 v23.2.2.2.2.2.2.2.2.1 fun x28 =>
fB (ltI x27 x28) fun b29 =>
br b29 (
J.jd (α := AV × AV × AV × AV × AV × AV × AV × AV × AV × AV × Unit) (fun v30 d31 h32 =>
asI .i64 v30.2.2.2.2.2.2.2.2.2.1 fun x34 =>
fI (wrapF .i64 (Int.add x34 (Int.ofNat 1))) fun x35 =>
r26 (v30.1, v30.2.1, v30.2.2.1, v30.2.2.2.1, v30.2.2.2.2.1, v30.2.2.2.2.2.1, v30.2.2.2.2.2.2.1, v30.2.2.2.2.2.2.2.1, v30.2.2.2.2.2.2.2.2.1, (AV.int .i64 x35), ()) d31 h32) fun j33 =>
ixK 1 v23.2.2.2.2.2.2.2.1 v23.2.2.2.2.2.2.2.2.2.1 fun p36 =>
ldI .u8 p36 h25 fun x37 =>
J.jd (α := AV × AV × AV × AV × AV × AV × AV × AV × AV × AV × AV × Unit) (fun v38 d39 h40 =>
asI .i64 v38.1 fun x42 =>
fI (wrapF .u8 x42) fun x43 =>
asI .u8 v38.2.2.2.2.2.2.2.1 fun x44 =>
fB (Bool.not (ltI x44 x43)) fun b45 =>
br b45 (
leaveK (gam J []) d39 h40 fun h46 =>
k (Int.ofNat 0) (AV.iface 176 (AV.int .i64 (Int.ofNat 2))) h46) (
asI .u64 v38.2.2.2.2.2.2.1 fun x47 =>
asI .u64 v38.2.2.2.1 fun x48 =>
fB (Bool.not (ltI x47 x48)) fun b49 =>
br b49 (
leaveK (gam J []) d39 h40 fun h50 =>
asI .u64 v38.2.2.2.2.1 fun x51 =>
k x51 (AV.iface 176 (AV.int .i64 (Int.ofNat 1))) h50) (
asI .i64 v38.1 fun x52 =>
fI (wrapF .u64 x52) fun x53 =>
asI .u64 v38.2.2.2.2.2.2.1 fun x54 =>
fI (wrapF .u64 (Int.mul x54 x53)) fun x55 =>
asI .u8 v38.2.2.2.2.2.2.2.1 fun x56 =>
fI (wrapF .u64 x56) fun x57 =>
fI (wrapF .u64 (Int.add x55 x57)) fun x58 =>
fB (ltI x58 x55) fun b59 =>
J.jn (fun v60 h61 =>
J.jn (fun v63 h64 =>
J.jn (fun v66 h67 =>
pickB (AV.bool b59) (AV.bool true) v66 fun b72 =>
br b72 (
leaveK (gam J []) d39 h67 fun h73 =>
asI .u64 v38.2.2.2.2.1 fun x74 =>
k x74 (AV.iface 176 (AV.int .i64 (Int.ofNat 1))) h73) (
j33 (v38.1, v38.2.1, v38.2.2.1, v38.2.2.2.1, v38.2.2.2.2.1, v38.2.2.2.2.2.1, (AV.int .u64 x58), v38.2.2.2.2.2.2.2.2.1, v38.2.2.2.2.2.2.2.2.2.1, v38.2.2.2.2.2.2.2.2.2.2.1, ()) d39 h67)) fun j68 =>
br b59 (
j68 skipV h64) (
asI .u64 v60 fun x69 =>
asI .u64 v63 fun x70 =>
fB (ltI x70 x69) fun b71 =>
j68 (AV.bool b71) h64)) fun j65 =>
br b59 (
j65 skipV h61) (
j65 v38.2.2.2.2.1 h61)) fun j62 =>
br b59 (
j62 skipV h40) (
j62 (AV.int .u64 x58) h40)))) fun j41 =>
fB (eqI x37 (Int.ofNat 95)) fun b75 =>
J.jn (fun v76 h77 =>
pickB (AV.bool b75) v76 (AV.bool false) fun b79 =>
br b79 (
j33 (v23.1, v23.2.1, v23.2.2.1, v23.2.2.2.1, v23.2.2.2.2.1, (AV.bool true), v23.2.2.2.2.2.2.1, v23.2.2.2.2.2.2.2.1, v23.2.2.2.2.2.2.2.2.1, v23.2.2.2.2.2.2.2.2.2.1, ()) d24 h77) (
fB (Bool.not (ltI x37 (Int.ofNat 48))) fun b80 =>
J.jn (fun v81 h82 =>
J.jn (fun v84 h85 =>
pickB (AV.bool b80) v84 (AV.bool false) fun b89 =>
br b89 (
fI (wrapF .u8 (Int.sub x37 (Int.ofNat 48))) fun x90 =>
j41 (v23.1, v23.2.1, v23.2.2.1, v23.2.2.2.1, v23.2.2.2.2.1, v23.2.2.2.2.2.1, v23.2.2.2.2.2.2.1, (AV.int .u8 x90), v23.2.2.2.2.2.2.2.1, v23.2.2.2.2.2.2.2.2.1, v23.2.2.2.2.2.2.2.2.2.1, ()) d24 h85) (
False)) fun j86 =>
br b80 (
asI .u8 v81 fun x87 =>
fB (Bool.not (ltI (Int.ofNat 57) x87)) fun b88 =>
j86 (AV.bool b88) h82) (
j86 skipV h82)) fun j83 =>
br b80 (
j83 (AV.int .u8 x37) h77) (
j83 skipV h77))) fun j78 =>
br b75 (
j78 v23.2.1 h25) (
j78 skipV h25)) (
J.jn (fun v91 h92 =>
J.jn (fun v94 h95 =>
J.jn (fun v97 h98 =>
pickB v23.2.2.2.2.2.1 v97 (AV.bool false) fun b102 =>
br b102 (
leaveK (gam J []) d24 h98 fun h103 =>
k (Int.ofNat 0) (AV.iface 176 (AV.int .i64 (Int.ofNat 2))) h103) (
leaveK (gam J []) d24 h98 fun h104 =>
asI .u64 v23.2.2.2.2.2.2.1 fun x105 =>
k x105 AV.nili h104)) fun j99 =>
asBU v23.2.2.2.2.2.1 (fun b106 =>
br b106 (
asB v94 fun b100 =>
fB (Bool.not b100) fun b101 =>
j99 (AV.bool b101) h95) (
j99 skipV h95)) (
j99 skipV h95)) fun j96 =>
asBU v23.2.2.2.2.2.1 (fun b107 =>
br b107 (
False) (
j96 skipV h92)) (
j96 skipV h92)) fun j93 =>
asBU v23.2.2.2.2.2.1 (fun b108 =>
br b108 (
j93 v23.2.2.1 h25) (
j93 skipV h25)) (
j93 skipV h25))) (v11.2.1, v11.2.2.2.1, v11.2.2.2.2.1, v11.2.2.2.2.2.1, (AV.int .u64 x19), (AV.bool false), (AV.int .u64 (Int.ofNat 0)), (AV.slice n20 0 s22.len s22.len 1 false), (AV.int .i64 (Int.ofNat s22.len)), (AV.int .i64 (Int.ofNat 0)), ()) d12 h21) fun j14 =>
asI .i64 v7.2.1 fun x109 =>
fB (eqI x109 (Int.ofNat 10)) fun b110 =>
br b110 (
j14 (v7.1, v7.2.1, v7.2.2.1, v7.2.2.2.1, v7.2.2.2.2.1, (AV.int .u64 (Int.ofNat 1844674407370955162)), ()) d8 h9) (
asI .i64 v7.2.1 fun x111 =>
fB (eqI x111 (Int.ofNat 16)) fun b112 =>
br b112 (
j14 (v7.1, v7.2.1, v7.2.2.1, v7.2.2.2.1, v7.2.2.2.2.1, (AV.int .u64 (Int.ofNat 1152921504606846976)), ()) d8 h9) (
asI .i64 v7.2.1 fun x113 =>
fI (wrapF .u64 x113) fun x114 =>
ck (Bool.not (eqI x114 0)) (fI (wrapF .u64 (Int.tdiv (Int.ofNat 18446744073709551615) x114)) fun x115 =>
fI (wrapF .u64 (Int.add x115 (Int.ofNat 1))) fun x116 =>
j14 (v7.1, v7.2.1, v7.2.2.1, v7.2.2.2.1, v7.2.2.2.2.1, (AV.int .u64 x116), ()) d8 h9)))) fun j10 =>
asI .i64 v3.2.2.1 fun x117 =>
fB (eqI x117 (Int.ofNat 0)) fun b118 =>
br b118 (
j10 (v3.1, v3.2.1, (AV.int .i64 (Int.ofNat 64)), v3.2.2.2.1, v3.2.2.2.2.1, ()) d4 h5) (
asI .i64 v3.2.2.1 fun x119 =>
fB (ltI x119 (Int.ofNat 0)) fun b120 =>
J.jn (fun v121 h122 =>
J.jn (fun v124 h125 =>
pickB (AV.bool b120) (AV.bool true) v124 fun b129 =>
br b129 (
leaveK (gam J []) d4 h125 fun h130 =>
k (Int.ofNat 0) (AV.iface 176 (AV.int .i64 (Int.ofNat 4))) h130) (
j10 (v3.1, v3.2.1, v3.2.2.1, v3.2.2.2.1, v3.2.2.2.2.1, ()) d4 h125)) fun j126 =>
br b120 (
j126 skipV h122) (
asI .i64 v121 fun x127 =>
fB (ltI (Int.ofNat 64) x127) fun b128 =>
j126 (AV.bool b128) h122)) fun j123 =>
br b120 (
j123 skipV h5) (
j123 v3.2.2.1 h5))) fun j6 =>
fB (Bool.not (ltI a1 (Int.ofNat 2))) fun b131 =>
J.jn (fun v132 h133 =>
J.jn (fun v135 h136 =>
pickB (AV.bool b131) v135 (AV.bool false) fun b140 =>
br b140 (
j6 ((AV.str a0), (AV.int .i64 a1), (AV.int .i64 a2), (AV.bool b2), (AV.str a0), ()) [] h136) (
fB (eqI a1 (Int.ofNat 0)) fun b141 =>
br b141 (
ixsK (AV.str a0) (AV.int .i64 (Int.ofNat 0)) fun x142 =>
fB (eqI x142 (Int.ofNat 48)) fun b143 =>
br b143 (
fB (Bool.not (ltI (Int.ofNat a0.len) (Int.ofNat 3))) fun b144 =>
J.jn (fun v145 h146 =>
J.jn (fun v148 h149 =>
J.jn (fun v152 h153 =>
J.jn (fun v155 h156 =>
pickB (AV.bool b144) v155 (AV.bool false) fun b160 =>
br b160 (
subK (AV.str a0) (some (AV.int .i64 (Int.ofNat 2))) none fun s161 =>
j6 ((AV.str s161), (AV.int .i64 (Int.ofNat 2)), (AV.int .i64 a2), (AV.bool b2), (AV.str a0), ()) [] h156) (
fB (Bool.not (ltI (Int.ofNat a0.len) (Int.ofNat 3))) fun b162 =>
J.jn (fun v163 h164 =>
J.jn (fun v166 h167 =>
J.jn (fun v170 h171 =>
J.jn (fun v173 h174 =>
pickB (AV.bool b162) v173 (AV.bool false) fun b178 =>
br b178 (
subK (AV.str a0) (some (AV.int .i64 (Int.ofNat 2))) none fun s179 =>
j6 ((AV.str s179), (AV.int .i64 (Int.ofNat 8)), (AV.int .i64 a2), (AV.bool b2), (AV.str a0), ()) [] h174) (
fB (Bool.not (ltI (Int.ofNat a0.len) (Int.ofNat 3))) fun b180 =>
J.jn (fun v181 h182 =>
J.jn (fun v184 h185 =>
J.jn (fun v188 h189 =>
J.jn (fun v191 h192 =>
pickB (AV.bool b180) v191 (AV.bool false) fun b196 =>
br b196 (
subK (AV.str a0) (some (AV.int .i64 (Int.ofNat 2))) none fun s197 =>
j6 ((AV.str s197), (AV.int .i64 (Int.ofNat 16)), (AV.int .i64 a2), (AV.bool b2), (AV.str a0), ()) [] h192) (
subK (AV.str a0) (some (AV.int .i64 (Int.ofNat 1))) none fun s198 =>
j6 ((AV.str s198), (AV.int .i64 (Int.ofNat 8)), (AV.int .i64 a2), (AV.bool b2), (AV.str a0), ()) [] h192)) fun j193 =>
br b180 (
asI .u8 v188 fun x194 =>
fB (eqI x194 (Int.ofNat 120)) fun b195 =>
j193 (AV.bool b195) h189) (
j193 skipV h189)) fun j190 =>
br b180 (
False) (
j190 skipV h185)) fun j186 =>
br b180 (
ixsK v181 (AV.int .i64 (Int.ofNat 1)) fun x187 =>
j186 (AV.int .u8 x187) h182) (
j186 skipV h182)) fun j183 =>
br b180 (
j183 (AV.str a0) h174) (
j183 skipV h174))) fun j175 =>
br b162 (
asI .u8 v170 fun x176 =>
fB (eqI x176 (Int.ofNat 111)) fun b177 =>
j175 (AV.bool b177) h171) (
j175 skipV h171)) fun j172 =>
br b162 (
False) (
j172 skipV h167)) fun j168 =>
br b162 (
ixsK v163 (AV.int .i64 (Int.ofNat 1)) fun x169 =>
j168 (AV.int .u8 x169) h164) (
j168 skipV h164)) fun j165 =>
br b162 (
j165 (AV.str a0) h156) (
j165 skipV h156))) fun j157 =>
br b144 (
asI .u8 v152 fun x158 =>
fB (eqI x158 (Int.ofNat 98)) fun b159 =>
j157 (AV.bool b159) h153) (
j157 skipV h153)) fun j154 =>
br b144 (
False) (
j154 skipV h149)) fun j150 =>
br b144 (
ixsK v145 (AV.int .i64 (Int.ofNat 1)) fun x151 =>
j150 (AV.int .u8 x151) h146) (
j150 skipV h146)) fun j147 =>
br b144 (
j147 (AV.str a0) h136) (
j147 skipV h136)) (
j6 ((AV.str a0), (AV.int .i64 (Int.ofNat 10)), (AV.int .i64 a2), (AV.bool b2), (AV.str a0), ()) [] h136)) (
k (Int.ofNat 0) (AV.iface 176 (AV.int .i64 (Int.ofNat 3))) h136))) fun j137 =>
br b131 (
asI .i64 v132 fun x138 =>
fB (Bool.not (ltI (Int.ofNat 36) x138)) fun b139 =>
j137 (AV.bool b139) h133) (
j137 skipV h133)) fun j134 =>
br b131 (
j134 (AV.int .i64 a1) h) (
j134 skipV h))
noncomputable def s148 : Str → Int → Int → H → (Int → AV → H → Prop) → Prop := s148G J0 
noncomputable def w148 (c : Str → Int → Int → H → (Int → AV → H → Prop) → Prop) : Fun := fun xs h k => arg xs fun a0 xs => arg xs fun a1 xs => arg xs fun a2 xs => noArg xs <| asS a0 fun a0 => asI .i64 a1 fun a1 => asI .i64 a2 fun a2 => c a0 a1 a2 h fun r0 r1 h => k (.tuple [(.int .u64 r0), r1]) h
theorem s148_eq (J : Joins) (a0 : Str) (a1 : Int) (a2 : Int) (h : H) (k : AV → H → Prop) : denF ty (gam J []) Tryz.f148 [(.str a0), (.int .i64 a1), (.int .i64 a2)] h k = s148G J  a0 a1 a2 h (fun r0 r1 h => k (.tuple [(.int .u64 r0), r1]) h) := by kernel_rfl
noncomputable def g148 : Fun := w148 s148
theorem g148_ok : FunOk Tryz.prog 148 g148 := (fun_ok ty_ok mixed (gam_ok (J := J0) (tab_nil fls_fun)) Tryz.func148 (fun args w => by simp)).imp fun xs h k e0 => by
  obtain ⟨a0, xs0, rfl, e1⟩ := arg_imp e0
  obtain ⟨a1, xs1, rfl, e2⟩ := arg_imp e1
  obtain ⟨a2, xs2, rfl, e3⟩ := arg_imp e2
  obtain ⟨rfl, e4⟩ := noArg_imp e3
  obtain ⟨a0, rfl, e5⟩ := asS_iff.1 e4
  obtain ⟨a1, rfl, e6⟩ := asI_iff.1 e5
  obtain ⟨a2, rfl, e7⟩ := asI_iff.1 e6
  exact (s148_eq J0  a0 a1 a2 h k).mpr e7
/-- internal/strconv.ParseInt -/
noncomputable def s130G (J : Joins) (c148 : Str → Int → Int → H → (Int → AV → H → Prop) → Prop) (a0 : Str) (a1 : Int) (a2 : Int) (h : H) (k : Int → AV → H → Prop) : Prop :=
fB (Str.beq a0 (⟨0, 0⟩ : Str)) fun b1 =>
br b1 (
k (Int.ofNat 0) (AV.iface 176 (AV.int .i64 (Int.ofNat 2))) h) (
J.jd (α := AV × AV × AV × AV × Unit) (fun v2 d3 h4 =>
asS v2.1 fun s7 =>
asI .i64 v2.2.1 fun x8 =>
asI .i64 v2.2.2.1 fun x9 =>
c148 s7 x8 x9 h4 fun x10 v11 h6 =>
nilB 10 v11 fun b12 =>
fB (Bool.not b12) fun b13 =>
J.jn (fun v14 h15 =>
J.jn (fun v17 h18 =>
J.jn (fun v20 h21 =>
pickB (AV.bool b13) v20 (AV.bool false) fun b24 =>
br b24 (
leaveK (gam J [(148, w148 c148)]) d3 h21 fun h25 =>
k (Int.ofNat 0) v11 h25) (
J.jd (α := AV × AV × AV × Unit) (fun v26 d27 h28 =>
asI .i64 v26.1 fun x30 =>
fI (wrapF .i64 (Int.sub x30 (Int.ofNat 1))) fun x31 =>
fI (wrapF .u64 x31) fun x32 =>
asNat (AV.int .u64 x32) fun n33 =>
fI (shlF .u64 (Int.ofNat 1) n33) fun x34 =>
asB v26.2.1 fun b35 =>
fB (Bool.not b35) fun b36 =>
J.jn (fun v37 h38 =>
J.jn (fun v40 h41 =>
J.jn (fun v43 h44 =>
pickB (AV.bool b36) v43 (AV.bool false) fun b49 =>
br b49 (
fI (wrapF .u64 (Int.sub x34 (Int.ofNat 1))) fun x50 =>
fI (wrapF .i64 x50) fun x51 =>
leaveK (gam J [(148, w148 c148)]) d27 h44 fun h52 =>
k x51 (AV.iface 176 (AV.int .i64 (Int.ofNat 1))) h52) (
J.jn (fun v53 h54 =>
J.jn (fun v56 h57 =>
J.jn (fun v59 h60 =>
pickB v26.2.1 v59 (AV.bool false) fun b65 =>
br b65 (
fI (wrapF .i64 x34) fun x66 =>
op' (aUn .neg (AV.int .i64 x66)) fun v67 =>
asI .i64 v67 fun x68 =>
leaveK (gam J [(148, w148 c148)]) d27 h60 fun h69 =>
k x68 (AV.iface 176 (AV.int .i64 (Int.ofNat 1))) h69) (
asI .u64 v26.2.2.1 fun x70 =>
fI (wrapF .i64 x70) fun x71 =>
J.jd (α := AV × Unit) (fun v72 d73 h74 =>
leaveK (gam J [(148, w148 c148)]) d73 h74 fun h76 =>
asI .i64 v72.1 fun x77 =>
k x77 AV.nili h76) fun j75 =>
asB v26.2.1 fun b78 =>
br b78 (
op' (aUn .neg (AV.int .i64 x71)) fun v79 =>
asI .i64 v79 fun x80 =>
j75 ((AV.int .i64 x80), ()) d27 h60) (
j75 ((AV.int .i64 x71), ()) d27 h60))) fun j61 =>
asBU v26.2.1 (fun b81 =>
br b81 (
asI .u64 v53 fun x62 =>
asI .u64 v56 fun x63 =>
fB (ltI x63 x62) fun b64 =>
j61 (AV.bool b64) h57) (
j61 skipV h57)) (
j61 skipV h57)) fun j58 =>
asBU v26.2.1 (fun b82 =>
br b82 (
j58 (AV.int .u64 x34) h54) (
j58 skipV h54)) (
j58 skipV h54)) fun j55 =>
asBU v26.2.1 (fun b83 =>
br b83 (
j55 v26.2.2.1 h44) (
j55 skipV h44)) (
j55 skipV h44))) fun j45 =>
br b36 (
asI .u64 v37 fun x46 =>
asI .u64 v40 fun x47 =>
fB (Bool.not (ltI x46 x47)) fun b48 =>
j45 (AV.bool b48) h41) (
j45 skipV h41)) fun j42 =>
br b36 (
j42 (AV.int .u64 x34) h38) (
j42 skipV h38)) fun j39 =>
br b36 (
j39 v26.2.2.1 h28) (
j39 skipV h28)) fun j29 =>
asI .i64 v2.2.2.1 fun x84 =>
fB (eqI x84 (Int.ofNat 0)) fun b85 =>
br b85 (
j29 ((AV.int .i64 (Int.ofNat 64)), v2.2.2.2.1, (AV.int .u64 x10), ()) d3 h21) (
j29 (v2.2.2.1, v2.2.2.2.1, (AV.int .u64 x10), ()) d3 h21))) fun j22 =>
br b13 (
obK (aBin ty .neq 131 false v14 v17) fun b23 =>
j22 (AV.bool b23) h18) (
j22 skipV h18)) fun j19 =>
br b13 (
j19 (AV.iface 176 (AV.int .i64 (Int.ofNat 1))) h15) (
j19 skipV h15)) fun j16 =>
br b13 (
j16 v11 h6) (
j16 skipV h6)) fun j5 =>
ixsK (AV.str a0) (AV.int .i64 (Int.ofNat 0)) fun x86 =>
fB (eqI x86 (Int.ofNat 43)) fun b87 =>
br b87 (
subK (AV.str a0) (some (AV.int .i64 (Int.ofNat 1))) none fun s88 =>
j5 ((AV.str s88), (AV.int .i64 a1), (AV.int .i64 a2), (AV.bool false), ()) [] h) (
fB (eqI x86 (Int.ofNat 45)) fun b89 =>
br b89 (
subK (AV.str a0) (some (AV.int .i64 (Int.ofNat 1))) none fun s90 =>
j5 ((AV.str s90), (AV.int .i64 a1), (AV.int .i64 a2), (AV.bool true), ()) [] h) (
j5 ((AV.str a0), (AV.int .i64 a1), (AV.int .i64 a2), (AV.bool false), ()) [] h)))
noncomputable def s130 : Str → Int → Int → H → (Int → AV → H → Prop) → Prop := s130G J0 s148
noncomputable def w130 (c : Str → Int → Int → H → (Int → AV → H → Prop) → Prop) : Fun := fun xs h k => arg xs fun a0 xs => arg xs fun a1 xs => arg xs fun a2 xs => noArg xs <| asS a0 fun a0 => asI .i64 a1 fun a1 => asI .i64 a2 fun a2 => c a0 a1 a2 h fun r0 r1 h => k (.tuple [(.int .i64 r0), r1]) h
theorem s130_eq (J : Joins) (c148 : Str → Int → Int → H → (Int → AV → H → Prop) → Prop) (a0 : Str) (a1 : Int) (a2 : Int) (h : H) (k : AV → H → Prop) : denF ty (gam J [(148, w148 c148)]) Tryz.f130 [(.str a0), (.int .i64 a1), (.int .i64 a2)] h k = s130G J c148 a0 a1 a2 h (fun r0 r1 h => k (.tuple [(.int .i64 r0), r1]) h) := by kernel_rfl
noncomputable def g130 : Fun := w130 s130
theorem g130_ok : FunOk Tryz.prog 130 g130 := (fun_ok ty_ok mixed (gam_ok (J := J0) (tab_cons g148_ok (tab_nil fls_fun))) Tryz.func130 (fun args w => by simp)).imp fun xs h k e0 => by
  obtain ⟨a0, xs0, rfl, e1⟩ := arg_imp e0
  obtain ⟨a1, xs1, rfl, e2⟩ := arg_imp e1
  obtain ⟨a2, xs2, rfl, e3⟩ := arg_imp e2
  obtain ⟨rfl, e4⟩ := noArg_imp e3
  obtain ⟨a0, rfl, e5⟩ := asS_iff.1 e4
  obtain ⟨a1, rfl, e6⟩ := asI_iff.1 e5
  obtain ⟨a2, rfl, e7⟩ := asI_iff.1 e6
  exact (s130_eq J0 s148 a0 a1 a2 h k).mpr e7
/-- internal/strconv.Atoi -/
noncomputable def s106G (J : Joins) (c130 : Str → Int → Int → H → (Int → AV → H → Prop) → Prop) (a0 : Str) (h : H) (k : Int → AV → H → Prop) : Prop :=
J.jn (fun v1 h2 =>
J.jn (fun v4 h5 =>
J.jn (fun v9 h10 =>
J.jn (fun v12 h13 =>
J.jn (fun v15 h16 =>
J.jn (fun v20 h21 =>
pickB (AV.bool false) v20 (AV.bool false) fun b24 =>
J.jn (fun v25 h26 =>
J.jn (fun v28 h29 =>
J.jn (fun v31 h32 =>
J.jn (fun v36 h37 =>
J.jn (fun v39 h40 =>
J.jn (fun v42 h43 =>
J.jn (fun v47 h48 =>
J.jn (fun v51 h52 =>
pickB (AV.bool b24) (AV.bool true) v51 fun b55 =>
br b55 (
J.jd (α := AV × AV × Unit) (fun v56 d57 h58 =>
asS v56.1 fun s62 =>
pushK (.bytes 5 0 true s62) h58 fun n60 h61 =>
J.lp (α := AV × AV × AV × AV × AV × Unit) (fun r66 v63 d64 h65 =>
asI .i64 v63.2.2.2.2.1 fun x67 =>
asI .i64 v63.2.2.2.1 fun x68 =>
fB (ltI x67 x68) fun b69 =>
br b69 (
ixK 1 v63.2.2.1 v63.2.2.2.2.1 fun p70 =>
ldI .u8 p70 h65 fun x71 =>
fI (wrapF .u8 (Int.sub x71 (Int.ofNat 48))) fun x72 =>
fB (ltI (Int.ofNat 9) x72) fun b73 =>
br b73 (
leaveK (gam J [(130, w130 c130)]) d64 h65 fun h74 =>
k (Int.ofNat 0) (AV.iface 176 (AV.int .i64 (Int.ofNat 2))) h74) (
asI .i64 v63.2.1 fun x75 =>
fI (wrapF .i64 (Int.mul x75 (Int.ofNat 10))) fun x76 =>
fI (wrapF .i64 x72) fun x77 =>
fI (wrapF .i64 (Int.add x76 x77)) fun x78 =>
asI .i64 v63.2.2.2.2.1 fun x79 =>
fI (wrapF .i64 (Int.add x79 (Int.ofNat 1))) fun x80 =>
r66 (v63.1, (AV.int .i64 x78), v63.2.2.1, v63.2.2.2.1, (AV.int .i64 x80), ()) d64 h65)) (
J.jd (α := AV × Unit) (fun v81 d82 h83 =>
leaveK (gam J [(130, w130 c130)]) d82 h83 fun h85 =>
asI .i64 v81.1 fun x86 =>
k x86 AV.nili h85) fun j84 =>
ixsK v63.1 (AV.int .i64 (Int.ofNat 0)) fun x87 =>
fB (eqI x87 (Int.ofNat 45)) fun b88 =>
br b88 (
op' (aUn .neg v63.2.1) fun v89 =>
asI .i64 v89 fun x90 =>
j84 ((AV.int .i64 x90), ()) d64 h65) (
j84 (v63.2.1, ()) d64 h65))) (v56.2.1, (AV.int .i64 (Int.ofNat 0)), (AV.slice n60 0 s62.len s62.len 1 false), (AV.int .i64 (Int.ofNat s62.len)), (AV.int .i64 (Int.ofNat 0)), ()) d57 h61) fun j59 =>
ixsK (AV.str a0) (AV.int .i64 (Int.ofNat 0)) fun x91 =>
fB (eqI x91 (Int.ofNat 45)) fun b92 =>
J.jn (fun v93 h94 =>
J.jn (fun v96 h97 =>
J.jn (fun v100 h101 =>
pickB (AV.bool b92) (AV.bool true) v100 fun b105 =>
br b105 (
subK (AV.str a0) (some (AV.int .i64 (Int.ofNat 1))) none fun s106 =>
fB (ltI (Int.ofNat s106.len) (Int.ofNat 1)) fun b107 =>
br b107 (
k (Int.ofNat 0) (AV.iface 176 (AV.int .i64 (Int.ofNat 2))) h101) (
j59 ((AV.str s106), (AV.str a0), ()) [] h101)) (
j59 ((AV.str a0), (AV.str a0), ()) [] h101)) fun j102 =>
br b92 (
j102 skipV h97) (
asI .u8 v96 fun x103 =>
fB (eqI x103 (Int.ofNat 43)) fun b104 =>
j102 (AV.bool b104) h97)) fun j98 =>
br b92 (
j98 skipV h94) (
ixsK v93 (AV.int .i64 (Int.ofNat 0)) fun x99 =>
j98 (AV.int .u8 x99) h94)) fun j95 =>
br b92 (
j95 skipV h52) (
j95 (AV.str a0) h52)) (
c130 a0 (Int.ofNat 10) (Int.ofNat 0) h52 fun x109 v110 h108 =>
k x109 v110 h108)) fun j53 =>
br b24 (
j53 skipV h48) (
pickB v25 v47 (AV.bool false) fun b54 =>
j53 (AV.bool b54) h48)) fun j49 =>
asBU v25 (fun b111 =>
br b111 (
pickB v36 v42 (AV.bool false) fun b50 =>
j49 (AV.bool b50) h43) (
j49 skipV h43)) (
j49 skipV h43)) fun j44 =>
asBU v36 (fun b112 =>
br b112 (
asI .i64 v39 fun x45 =>
fB (ltI x45 (Int.ofNat 19)) fun b46 =>
j44 (AV.bool b46) h40) (
j44 skipV h40)) (
j44 skipV h40)) fun j41 =>
asBU v36 (fun b113 =>
br b113 (
j41 (AV.int .i64 (Int.ofNat a0.len)) h37) (
j41 skipV h37)) (
j41 skipV h37)) fun j38 =>
asBU v25 (fun b114 =>
br b114 (
j38 v31 h32) (
j38 skipV h32)) (
j38 skipV h32)) fun j33 =>
asBU v25 (fun b115 =>
br b115 (
asI .i64 v28 fun x34 =>
fB (ltI (Int.ofNat 0) x34) fun b35 =>
j33 (AV.bool b35) h29) (
j33 skipV h29)) (
j33 skipV h29)) fun j30 =>
asBU v25 (fun b116 =>
br b116 (
j30 (AV.int .i64 (Int.ofNat a0.len)) h26) (
j30 skipV h26)) (
j30 skipV h26)) fun j27 =>
br b24 (
j27 skipV h21) (
j27 (AV.bool true) h21)) fun j22 =>
br false (
pickB v9 v15 (AV.bool false) fun b23 =>
j22 (AV.bool b23) h16) (
j22 skipV h16)) fun j17 =>
asBU v9 (fun b117 =>
br b117 (
asI .i64 v12 fun x18 =>
fB (ltI x18 (Int.ofNat 10)) fun b19 =>
j17 (AV.bool b19) h13) (
j17 skipV h13)) (
j17 skipV h13)) fun j14 =>
asBU v9 (fun b118 =>
br b118 (
j14 (AV.int .i64 (Int.ofNat a0.len)) h10) (
j14 skipV h10)) (
j14 skipV h10)) fun j11 =>
br false (
j11 v4 h5) (
j11 skipV h5)) fun j6 =>
br false (
asI .i64 v1 fun x7 =>
fB (ltI (Int.ofNat 0) x7) fun b8 =>
j6 (AV.bool b8) h2) (
j6 skipV h2)) fun j3 =>
br false (
j3 (AV.int .i64 (Int.ofNat a0.len)) h) (
j3 skipV h)
noncomputable def s106 : Str → H → (Int → AV → H → Prop) → Prop := s106G J0 s130
noncomputable def w106 (c : Str → H → (Int → AV → H → Prop) → Prop) : Fun := fun xs h k => arg xs fun a0 xs => noArg xs <| asS a0 fun a0 => c a0 h fun r0 r1 h => k (.tuple [(.int .i64 r0), r1]) h
theorem s106_eq (J : Joins) (c130 : Str → Int → Int → H → (Int → AV → H → Prop) → Prop) (a0 : Str) (h : H) (k : AV → H → Prop) : denF ty (gam J [(130, w130 c130)]) Tryz.f106 [(.str a0)] h k = s106G J c130 a0 h (fun r0 r1 h => k (.tuple [(.int .i64 r0), r1]) h) := by kernel_rfl
noncomputable def g106 : Fun := w106 s106
theorem g106_ok : FunOk Tryz.prog 106 g106 := (fun_ok ty_ok mixed (gam_ok (J := J0) (tab_cons g130_ok (tab_nil fls_fun))) Tryz.func106 (fun args w => by simp)).imp fun xs h k e0 => by
  obtain ⟨a0, xs0, rfl, e1⟩ := arg_imp e0
  obtain ⟨rfl, e2⟩ := noArg_imp e1
  obtain ⟨a0, rfl, e3⟩ := asS_iff.1 e2
  exact (s106_eq J0 s130 a0 h k).mpr e3
/-- strconv.Atoi -/
noncomputable def s84G (J : Joins) (c106 : Str → H → (Int → AV → H → Prop) → Prop) (a0 : Str) (h : H) (k : Int → AV → H → Prop) : Prop :=
c106 a0 h fun x2 v3 h1 =>
nilB 10 v3 fun b4 =>
fB (Bool.not b4) fun b5 =>
br b5 (
False) (
k x2 AV.nili h1)
noncomputable def s84 : Str → H → (Int → AV → H → Prop) → Prop := s84G J0 s106
noncomputable def w84 (c : Str → H → (Int → AV → H → Prop) → Prop) : Fun := fun xs h k => arg xs fun a0 xs => noArg xs <| asS a0 fun a0 => c a0 h fun r0 r1 h => k (.tuple [(.int .i64 r0), r1]) h
theorem s84_eq (J : Joins) (c106 : Str → H → (Int → AV → H → Prop) → Prop) (a0 : Str) (h : H) (k : AV → H → Prop) : denF ty (gam J [(106, w106 c106)]) Tryz.f84 [(.str a0)] h k = s84G J c106 a0 h (fun r0 r1 h => k (.tuple [(.int .i64 r0), r1]) h) := by kernel_rfl
noncomputable def g84 : Fun := w84 s84
theorem g84_ok : FunOk Tryz.prog 84 g84 := (fun_ok ty_ok mixed (gam_ok (J := J0) (tab_cons g106_ok (tab_nil fls_fun))) Tryz.func84 (fun args w => by simp)).imp fun xs h k e0 => by
  obtain ⟨a0, xs0, rfl, e1⟩ := arg_imp e0
  obtain ⟨rfl, e2⟩ := noArg_imp e1
  obtain ⟨a0, rfl, e3⟩ := asS_iff.1 e2
  exact (s84_eq J0 s106 a0 h k).mpr e3
/-- internal/stringslite.TrimPrefix -/
noncomputable def s108G (J : Joins) (c114 : Str → Str → H → (Bool → H → Prop) → Prop) (a0 : Str) (a1 : Str) (h : H) (k : Str → H → Prop) : Prop :=
c114 a0 a1 h fun b2 h1 =>
br b2 (
subK (AV.str a0) (some (AV.int .i64 (Int.ofNat a1.len))) none fun s3 =>
k s3 h1) (
k a0 h1)
noncomputable def s108 : Str → Str → H → (Str → H → Prop) → Prop := s108G J0 s114
noncomputable def w108 (c : Str → Str → H → (Str → H → Prop) → Prop) : Fun := fun xs h k => arg xs fun a0 xs => arg xs fun a1 xs => noArg xs <| asS a0 fun a0 => asS a1 fun a1 => c a0 a1 h fun r0 h => k (.str r0) h
theorem s108_eq (J : Joins) (c114 : Str → Str → H → (Bool → H → Prop) → Prop) (a0 : Str) (a1 : Str) (h : H) (k : AV → H → Prop) : denF ty (gam J [(114, w114 c114)]) Tryz.f108 [(.str a0), (.str a1)] h k = s108G J c114 a0 a1 h (fun r0 h => k (.str r0) h) := by kernel_rfl
noncomputable def g108 : Fun := w108 s108
theorem g108_ok : FunOk Tryz.prog 108 g108 := (fun_ok ty_ok mixed (gam_ok (J := J0) (tab_cons g114_ok (tab_nil fls_fun))) Tryz.func108 (fun args w => by simp)).imp fun xs h k e0 => by
  obtain ⟨a0, xs0, rfl, e1⟩ := arg_imp e0
  obtain ⟨a1, xs1, rfl, e2⟩ := arg_imp e1
  obtain ⟨rfl, e3⟩ := noArg_imp e2
  obtain ⟨a0, rfl, e4⟩ := asS_iff.1 e3
  obtain ⟨a1, rfl, e5⟩ := asS_iff.1 e4
  exact (s108_eq J0 s114 a0 a1 h k).mpr e5
/-- strings.TrimPrefix -/
noncomputable def s85G (J : Joins) (c108 : Str → Str → H → (Str → H → Prop) → Prop) (a0 : Str) (a1 : Str) (h : H) (k : Str → H → Prop) : Prop :=
c108 a0 a1 h fun s2 h1 =>
k s2 h1
noncomputable def s85 : Str → Str → H → (Str → H → Prop) → Prop := s85G J0 s108
noncomputable def w85 (c : Str → Str → H → (Str → H → Prop) → Prop) : Fun := fun xs h k => arg xs fun a0 xs => arg xs fun a1 xs => noArg xs <| asS a0 fun a0 => asS a1 fun a1 => c a0 a1 h fun r0 h => k (.str r0) h
theorem s85_eq (J : Joins) (c108 : Str → Str → H → (Str → H → Prop) → Prop) (a0 : Str) (a1 : Str) (h : H) (k : AV → H → Prop) : denF ty (gam J [(108, w108 c108)]) Tryz.f85 [(.str a0), (.str a1)] h k = s85G J c108 a0 a1 h (fun r0 h => k (.str r0) h) := by kernel_rfl
noncomputable def g85 : Fun := w85 s85
theorem g85_ok : FunOk Tryz.prog 85 g85 := (fun_ok ty_ok mixed (gam_ok (J := J0) (tab_cons g108_ok (tab_nil fls_fun))) Tryz.func85 (fun args w => by simp)).imp fun xs h k e0 => by
  obtain ⟨a0, xs0, rfl, e1⟩ := arg_imp e0
  obtain ⟨a1, xs1, rfl, e2⟩ := arg_imp e1
  obtain ⟨rfl, e3⟩ := noArg_imp e2
  obtain ⟨a0, rfl, e4⟩ := asS_iff.1 e3
  obtain ⟨a1, rfl, e5⟩ := asS_iff.1 e4
  exact (s85_eq J0 s108 a0 a1 h k).mpr e5
/-- stagepost/manifest.number -/
noncomputable def s52G (J : Joins) (c31 : Int → H → (Str → H → Prop) → Prop) (c84 : Str → H → (Int → AV → H → Prop) → Prop) (c85 : Str → Str → H → (Str → H → Prop) → Prop) (a0 : Str) (h : H) (k : Int → Bool → H → Prop) : Prop :=
c85 a0 ⟨9, 2017715768791967953965⟩ h fun s2 h1 =>
c84 s2 h1 fun x4 v5 h3 =>
nilB 10 v5 fun b6 =>
J.jn (fun v7 h8 =>
J.jn (fun v10 h11 =>
pickB (AV.bool b6) v10 (AV.bool false) fun b15 =>
J.jn (fun v16 h17 =>
J.jn (fun v19 h20 =>
pickB (AV.bool b15) v19 (AV.bool false) fun b24 =>
J.jn (fun v25 h26 =>
J.jn (fun v28 h29 =>
J.jn (fun v34 h35 =>
J.jn (fun v37 h38 =>
pickB (AV.bool b24) v37 (AV.bool false) fun b43 =>
k x4 b43 h38) fun j39 =>
br b24 (
asS v28 fun s40 =>
asS v34 fun s41 =>
fB (Str.beq s40 s41) fun b42 =>
j39 (AV.bool b42) h35) (
j39 skipV h35)) fun j36 =>
br b24 (
j36 (AV.str a0) h29) (
j36 skipV h29)) fun j30 =>
br b24 (
asI .i64 v25 fun x32 =>
c31 x32 h26 fun s33 h31 =>
j30 (AV.str s33) h31) (
j30 skipV h26)) fun j27 =>
br b24 (
j27 (AV.int .i64 x4) h20) (
j27 skipV h20)) fun j21 =>
br b15 (
asI .i64 v16 fun x22 =>
fB (Bool.not (ltI (Int.ofNat 999999) x22)) fun b23 =>
j21 (AV.bool b23) h17) (
j21 skipV h17)) fun j18 =>
br b15 (
j18 (AV.int .i64 x4) h11) (
j18 skipV h11)) fun j12 =>
br b6 (
asI .i64 v7 fun x13 =>
fB (Bool.not (ltI x13 (Int.ofNat 1))) fun b14 =>
j12 (AV.bool b14) h8) (
j12 skipV h8)) fun j9 =>
br b6 (
j9 (AV.int .i64 x4) h3) (
j9 skipV h3)
noncomputable def s52 : Str → H → (Int → Bool → H → Prop) → Prop := s52G J0 s31 s84 s85
noncomputable def w52 (c : Str → H → (Int → Bool → H → Prop) → Prop) : Fun := fun xs h k => arg xs fun a0 xs => noArg xs <| asS a0 fun a0 => c a0 h fun r0 r1 h => k (.tuple [(.int .i64 r0), (.bool r1)]) h
theorem s52_eq (J : Joins) (c31 : Int → H → (Str → H → Prop) → Prop) (c84 : Str → H → (Int → AV → H → Prop) → Prop) (c85 : Str → Str → H → (Str → H → Prop) → Prop) (a0 : Str) (h : H) (k : AV → H → Prop) : denF ty (gam J [(31, w31 c31), (84, w84 c84), (85, w85 c85)]) Tryz.f52 [(.str a0)] h k = s52G J c31 c84 c85 a0 h (fun r0 r1 h => k (.tuple [(.int .i64 r0), (.bool r1)]) h) := by kernel_rfl
noncomputable def g52 : Fun := w52 s52
theorem g52_ok : FunOk Tryz.prog 52 g52 := (fun_ok ty_ok mixed (gam_ok (J := J0) (tab_cons g31_ok (tab_cons g84_ok (tab_cons g85_ok (tab_nil fls_fun))))) Tryz.func52 (fun args w => by simp)).imp fun xs h k e0 => by
  obtain ⟨a0, xs0, rfl, e1⟩ := arg_imp e0
  obtain ⟨rfl, e2⟩ := noArg_imp e1
  obtain ⟨a0, rfl, e3⟩ := asS_iff.1 e2
  exact (s52_eq J0 s31 s84 s85 a0 h k).mpr e3
/-- stagepost/frame.Scan -/
noncomputable def s53G (J : Joins) (c51 : Fun) (a0 : AV) (h : H) (k : AV → Int → Int → H → Prop) : Prop :=
J.jd (α := AV × AV × Unit) (fun v1 d2 h3 =>
leaveK (gam J [(51, c51)]) d2 h3 fun h5 =>
asI .i64 v1.2.1 fun x6 =>
k v1.1 x6 (Int.ofNat 0) h5) fun j4 =>
J.lp (α := AV × AV × AV × Unit) (fun r10 v7 d8 h9 =>
lenK v7.1 fun x11 =>
asI .i64 v7.2.2.1 fun x12 =>
fB (ltI x12 (Int.ofNat x11)) fun b13 =>
br b13 (
slK 1 v7.1 (some v7.2.2.1) none fun v14 =>
c51 [v14] h9 fun v15 h16 =>
asTup v15 fun l17 =>
op' (lgetO l17 0) fun v18 =>
asTup v15 fun l19 =>
op' (lgetO l19 1) fun v20 =>
asI .i64 v20 fun x21 =>
asTup v15 fun l22 =>
op' (lgetO l22 2) fun v23 =>
asI .i64 v23 fun x24 =>
fB (eqI x24 (Int.ofNat 0)) fun b25 =>
br b25 (
ck (isOne v18) (pushK (.cells false 60 [v18]) h16 fun n26 h27 =>
apC 60 1 24 v7.2.1 (AV.slice n26 0 1 1 1 true) h27 fun v28 h29 =>
asI .i64 v7.2.2.1 fun x30 =>
fI (wrapF .i64 (Int.add x30 x21)) fun x31 =>
lenK v7.1 fun x32 =>
fB (eqI x31 (Int.ofNat x32)) fun b33 =>
br b33 (
j4 (v28, (AV.int .i64 x31), ()) d8 h29) (
r10 (v7.1, v28, (AV.int .i64 x31), ()) d8 h29))) (
leaveK (gam J [(51, c51)]) d8 h16 fun h34 =>
asI .i64 v7.2.2.1 fun x35 =>
k v7.2.1 x35 x24 h34)) (
j4 (v7.2.1, v7.2.2.1, ()) d8 h9)) (a0, AV.nils, (AV.int .i64 (Int.ofNat 0)), ()) [] h
noncomputable def s53 : AV → H → (AV → Int → Int → H → Prop) → Prop := s53G J0 g51
noncomputable def w53 (c : AV → H → (AV → Int → Int → H → Prop) → Prop) : Fun := fun xs h k => arg xs fun a0 xs => noArg xs <| c a0 h fun r0 r1 r2 h => k (.tuple [r0, (.int .i64 r1), (.int .i64 r2)]) h
theorem s53_eq (J : Joins) (c51 : Fun) (a0 : AV) (h : H) (k : AV → H → Prop) : denF ty (gam J [(51, c51)]) Tryz.f53 [a0] h k = s53G J c51 a0 h (fun r0 r1 r2 h => k (.tuple [r0, (.int .i64 r1), (.int .i64 r2)]) h) := by kernel_rfl
noncomputable def g53 : Fun := w53 s53
theorem g53_ok : FunOk Tryz.prog 53 g53 := (fun_ok ty_ok mixed (gam_ok (J := J0) (tab_cons g51_ok (tab_nil fls_fun))) Tryz.func53 (fun args w => by simp)).imp fun xs h k e0 => by
  obtain ⟨a0, xs0, rfl, e1⟩ := arg_imp e0
  obtain ⟨rfl, e2⟩ := noArg_imp e1
  exact (s53_eq J0 g51 a0 h k).mpr e2
/-- stagepost/enc.Append -/
noncomputable def s55G (J : Joins) (a0 : AV) (a1 : Int) (h : H) (k : AV → H → Prop) : Prop :=
apB (.slice 5) 5 AV.nils a0 h fun v1 h2 =>
J.lp (α := AV × AV × Unit) (fun r6 v3 d4 h5 =>
asI .u64 v3.1 fun x7 =>
fB (Bool.not (ltI x7 (Int.ofNat 128))) fun b8 =>
br b8 (
asI .u64 v3.1 fun x9 =>
fI (wrapF .u8 x9) fun x10 =>
fI (lorF .u8 x10 (Int.ofNat 128)) fun x11 =>
op' (asRow true 5 [(AV.int .u8 x11)]) fun k14 =>
pushK k14 h5 fun n12 h13 =>
apB (.slice 5) 5 v3.2.1 (AV.slice n12 0 1 1 1 true) h13 fun v15 h16 =>
asI .u64 v3.1 fun x17 =>
fI (shrF x17 (nmin 7 (IntKind.bits .u64))) fun x18 =>
r6 ((AV.int .u64 x18), v15, ()) d4 h16) (
asI .u64 v3.1 fun x19 =>
fI (wrapF .u8 x19) fun x20 =>
op' (asRow true 5 [(AV.int .u8 x20)]) fun k23 =>
pushK k23 h5 fun n21 h22 =>
apB (.slice 5) 5 v3.2.1 (AV.slice n21 0 1 1 1 true) h22 fun v24 h25 =>
leaveK (gam J []) d4 h25 fun h26 =>
k v24 h26)) ((AV.int .u64 a1), v1, ()) [] h2
noncomputable def s55 : AV → Int → H → (AV → H → Prop) → Prop := s55G J0 
noncomputable def w55 (c : AV → Int → H → (AV → H → Prop) → Prop) : Fun := fun xs h k => arg xs fun a0 xs => arg xs fun a1 xs => noArg xs <| asI .u64 a1 fun a1 => c a0 a1 h fun r0 h => k r0 h
theorem s55_eq (J : Joins) (a0 : AV) (a1 : Int) (h : H) (k : AV → H → Prop) : denF ty (gam J []) Tryz.f55 [a0, (.int .u64 a1)] h k = s55G J  a0 a1 h (fun r0 h => k r0 h) := by kernel_rfl
noncomputable def g55 : Fun := w55 s55
theorem g55_ok : FunOk Tryz.prog 55 g55 := (fun_ok ty_ok mixed (gam_ok (J := J0) (tab_nil fls_fun)) Tryz.func55 (fun args w => by simp)).imp fun xs h k e0 => by
  obtain ⟨a0, xs0, rfl, e1⟩ := arg_imp e0
  obtain ⟨a1, xs1, rfl, e2⟩ := arg_imp e1
  obtain ⟨rfl, e3⟩ := noArg_imp e2
  obtain ⟨a1, rfl, e4⟩ := asI_iff.1 e3
  exact (s55_eq J0  a0 a1 h k).mpr e4
/-- stagepost/manifest.word -/
noncomputable def s56G (J : Joins) (c55 : AV → Int → H → (AV → H → Prop) → Prop) (a0 : AV) (a1 : Str) (h : H) (k : AV → H → Prop) : Prop :=
fI (wrapF .u64 (Int.ofNat a1.len)) fun x1 =>
c55 a0 x1 h fun v3 h2 =>
apB .str 5 v3 (AV.str a1) h2 fun v4 h5 =>
k v4 h5
noncomputable def s56 : AV → Str → H → (AV → H → Prop) → Prop := s56G J0 s55
noncomputable def w56 (c : AV → Str → H → (AV → H → Prop) → Prop) : Fun := fun xs h k => arg xs fun a0 xs => arg xs fun a1 xs => noArg xs <| asS a1 fun a1 => c a0 a1 h fun r0 h => k r0 h
theorem s56_eq (J : Joins) (c55 : AV → Int → H → (AV → H → Prop) → Prop) (a0 : AV) (a1 : Str) (h : H) (k : AV → H → Prop) : denF ty (gam J [(55, w55 c55)]) Tryz.f56 [a0, (.str a1)] h k = s56G J c55 a0 a1 h (fun r0 h => k r0 h) := by kernel_rfl
noncomputable def g56 : Fun := w56 s56
theorem g56_ok : FunOk Tryz.prog 56 g56 := (fun_ok ty_ok mixed (gam_ok (J := J0) (tab_cons g55_ok (tab_nil fls_fun))) Tryz.func56 (fun args w => by simp)).imp fun xs h k e0 => by
  obtain ⟨a0, xs0, rfl, e1⟩ := arg_imp e0
  obtain ⟨a1, xs1, rfl, e2⟩ := arg_imp e1
  obtain ⟨rfl, e3⟩ := noArg_imp e2
  obtain ⟨a1, rfl, e4⟩ := asS_iff.1 e3
  exact (s56_eq J0 s55 a0 a1 h k).mpr e4
/-- stagepost/manifest.Encode -/
noncomputable def s20G (J : Joins) (c44 : Int → Int → Int → H → (Bool → H → Prop) → Prop) (c47 : AV → H → (Bool → H → Prop) → Prop) (c55 : AV → Int → H → (AV → H → Prop) → Prop) (c56 : AV → Str → H → (AV → H → Prop) → Prop) (a0 : AV) (h : H) (k : AV → Int → H → Prop) : Prop :=
Go.Am.asAgg a0 fun l3 =>
pushK (.cells false 34 l3) h fun n1 h2 =>
ldV (AV.ptr n1 0) h2 fun v4 =>
lenK v4 fun x5 =>
fB (ltI (Int.ofNat 1024) (Int.ofNat x5)) fun b6 =>
J.jn (fun v7 h8 =>
J.jn (fun v10 h11 =>
J.jn (fun v14 h15 =>
J.jn (fun v18 h19 =>
pickB (AV.bool b6) (AV.bool true) v18 fun b23 =>
br b23 (
k AV.nils (Int.ofNat 3) h19) (
ldI .i64 (AV.ptr n1 2) h19 fun x24 =>
ldI .i64 (AV.ptr n1 3) h19 fun x25 =>
ldI .i64 (AV.ptr n1 4) h19 fun x26 =>
c44 x24 x25 x26 h19 fun b28 h27 =>
fB (Bool.not b28) fun b29 =>
br b29 (
k AV.nils (Int.ofNat 2) h27) (
ldV (AV.ptr n1 0) h27 fun v30 =>
lenK v30 fun x31 =>
fI (wrapF .u64 (Int.ofNat x31)) fun x32 =>
c55 AV.nils x32 h27 fun v34 h33 =>
ldV (AV.ptr n1 0) h33 fun v35 =>
lenK v35 fun x36 =>
J.lp (α := AV × AV × AV × AV × AV × Unit) (fun r40 v37 d38 h39 =>
asI .i64 v37.2.2.2.2.1 fun x41 =>
asI .i64 v37.2.2.2.1 fun x42 =>
fB (ltI x41 x42) fun b43 =>
br b43 (
ixK 1 v37.2.2.1 v37.2.2.2.2.1 fun p44 =>
ldI .i64 p44 h39 fun x45 =>
fB (ltI x45 (Int.ofNat 1)) fun b46 =>
J.jn (fun v47 h48 =>
J.jn (fun v50 h51 =>
pickB (AV.bool b46) (AV.bool true) v50 fun b55 =>
br b55 (
leaveK (gam J [(44, w44 c44), (47, w47 c47), (55, w55 c55), (56, w56 c56)]) d38 h51 fun h56 =>
k AV.nils (Int.ofNat 2) h56) (
fI (wrapF .u64 x45) fun x57 =>
c55 v37.2.1 x57 h51 fun v59 h58 =>
asI .i64 v37.2.2.2.2.1 fun x60 =>
fI (wrapF .i64 (Int.add x60 (Int.ofNat 1))) fun x61 =>
r40 (v37.1, v59, v37.2.2.1, v37.2.2.2.1, (AV.int .i64 x61), ()) d38 h58)) fun j52 =>
br b46 (
j52 skipV h48) (
asI .i64 v47 fun x53 =>
fB (ltI (Int.ofNat 999999) x53) fun b54 =>
j52 (AV.bool b54) h48)) fun j49 =>
br b46 (
j49 skipV h39) (
j49 (AV.int .i64 x45) h39)) (
faK 1 v37.1 fun p62 =>
ldV p62 h39 fun v63 =>
lenK v63 fun x64 =>
fI (wrapF .u64 (Int.ofNat x64)) fun x65 =>
c55 v37.2.1 x65 h39 fun v67 h66 =>
faK 1 v37.1 fun p68 =>
ldV p68 h66 fun v69 =>
lenK v69 fun x70 =>
J.lp (α := AV × AV × AV × AV × AV × Unit) (fun r74 v71 d72 h73 =>
asI .i64 v71.2.2.2.2.1 fun x75 =>
asI .i64 v71.2.2.2.1 fun x76 =>
fB (ltI x75 x76) fun b77 =>
br b77 (
ixK 5 v71.2.2.1 v71.2.2.2.2.1 fun p78 =>
ldN 5 p78 h73 fun l79 =>
pushK (.cells false 45 [(.int .i64 0), (.int .i64 0), (.int .i64 0), (.str ⟨0, 0⟩), (.str ⟨0, 0⟩)]) h73 fun n80 h81 =>
stN 5 (AV.ptr n80 0) l79 h81 fun h82 =>
ldN 5 (AV.ptr n80 0) h82 fun l83 =>
c47 (AV.agg l83) h82 fun b85 h84 =>
fB (Bool.not b85) fun b86 =>
br b86 (
leaveK (gam J [(44, w44 c44), (47, w47 c47), (55, w55 c55), (56, w56 c56)]) d72 h84 fun h87 =>
k AV.nils (Int.ofNat 2) h87) (
ldI .i64 (AV.ptr n80 0) h84 fun x88 =>
ldI .i64 (AV.ptr n80 1) h84 fun x89 =>
ldI .i64 (AV.ptr n80 2) h84 fun x90 =>
pushK (.cells false 3 [(AV.int .i64 x88), (AV.int .i64 x89), (AV.int .i64 x90)]) h84 fun n91 h92 =>
J.lp (α := AV × AV × AV × AV × AV × AV × AV × AV × AV × Unit) (fun r96 v93 d94 h95 =>
asI .i64 v93.2.2.2.2.2.2.2.2.1 fun x97 =>
asI .i64 v93.2.2.2.2.2.2.2.1 fun x98 =>
fB (ltI x97 x98) fun b99 =>
br b99 (
ixK 1 v93.2.2.2.2.2.2.1 v93.2.2.2.2.2.2.2.2.1 fun p100 =>
ldI .i64 p100 h95 fun x101 =>
fI (wrapF .u64 x101) fun x102 =>
c55 v93.2.1 x102 h95 fun v104 h103 =>
asI .i64 v93.2.2.2.2.2.2.2.2.1 fun x105 =>
fI (wrapF .i64 (Int.add x105 (Int.ofNat 1))) fun x106 =>
r96 (v93.1, v104, v93.2.2.1, v93.2.2.2.1, v93.2.2.2.2.1, v93.2.2.2.2.2.1, v93.2.2.2.2.2.2.1, v93.2.2.2.2.2.2.2.1, (AV.int .i64 x106), ()) d94 h103) (
faK 3 v93.2.2.1 fun p107 =>
ldS p107 h95 fun s108 =>
faK 4 v93.2.2.1 fun p109 =>
ldS p109 h95 fun s110 =>
c56 v93.2.1 s108 h95 fun v112 h111 =>
ck (readsSo (aLoad1 p109 h111) (AV.str s110)) (
c56 v112 s110 h111 fun v114 h113 =>
asI .i64 v93.2.2.2.2.2.1 fun x115 =>
fI (wrapF .i64 (Int.add x115 (Int.ofNat 1))) fun x116 =>
r74 (v93.1, v114, v93.2.2.2.1, v93.2.2.2.2.1, (AV.int .i64 x116), ()) d94 h113))) (v71.1, v71.2.1, (AV.ptr n80 0), v71.2.2.1, v71.2.2.2.1, v71.2.2.2.2.1, (AV.slice n91 0 3 3 1 true), (AV.int .i64 (Int.ofNat 3)), (AV.int .i64 (Int.ofNat 0)), ()) d72 h92)) (
faK 2 v71.1 fun p117 =>
ldI .i64 p117 h73 fun x118 =>
faK 3 v71.1 fun p119 =>
ldI .i64 p119 h73 fun x120 =>
faK 4 v71.1 fun p121 =>
ldI .i64 p121 h73 fun x122 =>
pushK (.cells false 3 [(AV.int .i64 x118), (AV.int .i64 x120), (AV.int .i64 x122)]) h73 fun n123 h124 =>
J.lp (α := AV × AV × AV × AV × Unit) (fun r128 v125 d126 h127 =>
asI .i64 v125.2.2.2.1 fun x129 =>
asI .i64 v125.2.2.1 fun x130 =>
fB (ltI x129 x130) fun b131 =>
br b131 (
ixK 1 v125.2.1 v125.2.2.2.1 fun p132 =>
ldI .i64 p132 h127 fun x133 =>
fI (wrapF .u64 x133) fun x134 =>
c55 v125.1 x134 h127 fun v136 h135 =>
asI .i64 v125.2.2.2.1 fun x137 =>
fI (wrapF .i64 (Int.add x137 (Int.ofNat 1))) fun x138 =>
r128 (v136, v125.2.1, v125.2.2.1, (AV.int .i64 x138), ()) d126 h135) (
leaveK (gam J [(44, w44 c44), (47, w47 c47), (55, w55 c55), (56, w56 c56)]) d126 h127 fun h139 =>
k v125.1 (Int.ofNat 0) h139)) (v71.2.1, (AV.slice n123 0 3 3 1 true), (AV.int .i64 (Int.ofNat 3)), (AV.int .i64 (Int.ofNat 0)), ()) d72 h124)) (v37.1, v67, v69, (AV.int .i64 (Int.ofNat x70)), (AV.int .i64 (Int.ofNat 0)), ()) d38 h66)) ((AV.ptr n1 0), v34, v35, (AV.int .i64 (Int.ofNat x36)), (AV.int .i64 (Int.ofNat 0)), ()) [] h33))) fun j20 =>
br b6 (
j20 skipV h15) (
asI .i64 v14 fun x21 =>
fB (ltI (Int.ofNat 1024) x21) fun b22 =>
j20 (AV.bool b22) h15)) fun j16 =>
br b6 (
j16 skipV h11) (
lenK v10 fun x17 =>
j16 (AV.int .i64 (Int.ofNat x17)) h11)) fun j12 =>
br b6 (
j12 skipV h8) (
ldV v7 h8 fun v13 =>
j12 v13 h8)) fun j9 =>
br b6 (
j9 skipV h2) (
j9 (AV.ptr n1 1) h2)
noncomputable def s20 : AV → H → (AV → Int → H → Prop) → Prop := s20G J0 s44 s47 s55 s56
noncomputable def w20 (c : AV → H → (AV → Int → H → Prop) → Prop) : Fun := fun xs h k => arg xs fun a0 xs => noArg xs <| c a0 h fun r0 r1 h => k (.tuple [r0, (.int .i64 r1)]) h
theorem s20_eq (J : Joins) (c44 : Int → Int → Int → H → (Bool → H → Prop) → Prop) (c47 : AV → H → (Bool → H → Prop) → Prop) (c55 : AV → Int → H → (AV → H → Prop) → Prop) (c56 : AV → Str → H → (AV → H → Prop) → Prop) (a0 : AV) (h : H) (k : AV → H → Prop) : denF ty (gam J [(44, w44 c44), (47, w47 c47), (55, w55 c55), (56, w56 c56)]) Tryz.f20 [a0] h k = s20G J c44 c47 c55 c56 a0 h (fun r0 r1 h => k (.tuple [r0, (.int .i64 r1)]) h) := by kernel_rfl
noncomputable def g20 : Fun := w20 s20
theorem g20_ok : FunOk Tryz.prog 20 g20 := (fun_ok ty_ok mixed (gam_ok (J := J0) (tab_cons g44_ok (tab_cons g47_ok (tab_cons g55_ok (tab_cons g56_ok (tab_nil fls_fun)))))) Tryz.func20 (fun args w => by simp)).imp fun xs h k e0 => by
  obtain ⟨a0, xs0, rfl, e1⟩ := arg_imp e0
  obtain ⟨rfl, e2⟩ := noArg_imp e1
  exact (s20_eq J0 s44 s47 s55 s56 a0 h k).mpr e2
/-- stagepost/enc.Read -/
noncomputable def s135G (J : Joins) (a0 : AV) (h : H) (k : Int → Int → Int → H → Prop) : Prop :=
J.jd (α := Unit) (fun v1 d2 h3 =>
leaveK (gam J []) d2 h3 fun h5 =>
k (Int.ofNat 0) (Int.ofNat 0) (Int.ofNat 5) h5) fun j4 =>
J.lp (α := AV × AV × AV × Unit) (fun r9 v6 d7 h8 =>
lenK v6.1 fun x10 =>
asI .i64 v6.2.2.1 fun x11 =>
fB (ltI x11 (Int.ofNat x10)) fun b12 =>
J.jn (fun v13 h14 =>
J.jn (fun v16 h17 =>
pickB (AV.bool b12) v16 (AV.bool false) fun b21 =>
br b21 (
ixK 1 v6.1 v6.2.2.1 fun p22 =>
ldI .u8 p22 h17 fun x23 =>
asI .i64 v6.2.2.1 fun x24 =>
fB (eqI x24 (Int.ofNat 9)) fun b25 =>
J.jn (fun v26 h27 =>
J.jn (fun v29 h30 =>
pickB (AV.bool b25) v29 (AV.bool false) fun b34 =>
J.jn (fun v35 h36 =>
J.jn (fun v38 h39 =>
J.jn (fun v43 h44 =>
J.jn (fun v46 h47 =>
J.jn (fun v49 h50 =>
J.jn (fun v54 h55 =>
pickB (AV.bool b34) (AV.bool true) v54 fun b58 =>
br b58 (
j4 (()) d7 h55) (
fI (landnF .u8 x23 (Int.ofNat 128)) fun x59 =>
fI (wrapF .u64 x59) fun x60 =>
asI .i64 v6.2.2.1 fun x61 =>
fI (wrapF .i64 (Int.mul (Int.ofNat 7) x61)) fun x62 =>
asNat (AV.int .i64 x62) fun n63 =>
fI (shlF .u64 x60 n63) fun x64 =>
asI .u64 v6.2.1 fun x65 =>
fI (lorF .u64 x65 x64) fun x66 =>
asI .i64 v6.2.2.1 fun x67 =>
fI (wrapF .i64 (Int.add x67 (Int.ofNat 1))) fun x68 =>
fB (ltI x23 (Int.ofNat 128)) fun b69 =>
br b69 (
leaveK (gam J []) d7 h55 fun h70 =>
k x66 x68 (Int.ofNat 0) h70) (
r9 (v6.1, (AV.int .u64 x66), (AV.int .i64 x68), ()) d7 h55))) fun j56 =>
br b34 (
j56 skipV h50) (
pickB v43 v49 (AV.bool false) fun b57 =>
j56 (AV.bool b57) h50)) fun j51 =>
asBU v43 (fun b71 =>
br b71 (
asI .u8 v46 fun x52 =>
fB (eqI x52 (Int.ofNat 0)) fun b53 =>
j51 (AV.bool b53) h47) (
j51 skipV h47)) (
j51 skipV h47)) fun j48 =>
asBU v43 (fun b72 =>
br b72 (
j48 (AV.int .u8 x23) h44) (
j48 skipV h44)) (
j48 skipV h44)) fun j45 =>
br b34 (
j45 skipV h39) (
j45 v38 h39)) fun j40 =>
br b34 (
j40 skipV h36) (
asI .i64 v35 fun x41 =>
fB (ltI (Int.ofNat 0) x41) fun b42 =>
j40 (AV.bool b42) h36)) fun j37 =>
br b34 (
j37 skipV h30) (
j37 v6.2.2.1 h30)) fun j31 =>
br b25 (
asI .u8 v26 fun x32 =>
fB (ltI (Int.ofNat 1) x32) fun b33 =>
j31 (AV.bool b33) h27) (
j31 skipV h27)) fun j28 =>
br b25 (
j28 (AV.int .u8 x23) h17) (
j28 skipV h17)) (
j4 (()) d7 h17)) fun j18 =>
br b12 (
asI .i64 v13 fun x19 =>
fB (ltI x19 (Int.ofNat 10)) fun b20 =>
j18 (AV.bool b20) h14) (
j18 skipV h14)) fun j15 =>
br b12 (
j15 v6.2.2.1 h8) (
j15 skipV h8)) (a0, (AV.int .u64 (Int.ofNat 0)), (AV.int .i64 (Int.ofNat 0)), ()) [] h
noncomputable def s135 : AV → H → (Int → Int → Int → H → Prop) → Prop := s135G J0 
noncomputable def w135 (c : AV → H → (Int → Int → Int → H → Prop) → Prop) : Fun := fun xs h k => arg xs fun a0 xs => noArg xs <| c a0 h fun r0 r1 r2 h => k (.tuple [(.int .u64 r0), (.int .i64 r1), (.int .i64 r2)]) h
theorem s135_eq (J : Joins) (a0 : AV) (h : H) (k : AV → H → Prop) : denF ty (gam J []) Tryz.f135 [a0] h k = s135G J  a0 h (fun r0 r1 r2 h => k (.tuple [(.int .u64 r0), (.int .i64 r1), (.int .i64 r2)]) h) := by kernel_rfl
noncomputable def g135 : Fun := w135 s135
theorem g135_ok : FunOk Tryz.prog 135 g135 := (fun_ok ty_ok mixed (gam_ok (J := J0) (tab_nil fls_fun)) Tryz.func135 (fun args w => by simp)).imp fun xs h k e0 => by
  obtain ⟨a0, xs0, rfl, e1⟩ := arg_imp e0
  obtain ⟨rfl, e2⟩ := noArg_imp e1
  exact (s135_eq J0  a0 h k).mpr e2
/-- stagepost/enc.Small -/
noncomputable def s109G (J : Joins) (c135 : AV → H → (Int → Int → Int → H → Prop) → Prop) (a0 : AV) (a1 : Int) (h : H) (k : Int → Int → Int → H → Prop) : Prop :=
c135 a0 h fun x2 x3 x4 h1 =>
fB (Bool.not (eqI x4 (Int.ofNat 0))) fun b5 =>
J.jn (fun v6 h7 =>
J.jn (fun v9 h10 =>
pickB (AV.bool b5) (AV.bool true) v9 fun b14 =>
J.jn (fun v15 h16 =>
J.jn (fun v18 h19 =>
J.jn (fun v21 h22 =>
J.jn (fun v26 h27 =>
pickB (AV.bool b14) (AV.bool true) v26 fun b32 =>
br b32 (
k (Int.ofNat 0) (Int.ofNat 0) (Int.ofNat 5) h27) (
fI (wrapF .i64 x2) fun x33 =>
k x33 x3 (Int.ofNat 0) h27)) fun j28 =>
br b14 (
j28 skipV h22) (
asI .u64 v15 fun x29 =>
asI .u64 v21 fun x30 =>
fB (ltI x30 x29) fun b31 =>
j28 (AV.bool b31) h22)) fun j23 =>
br b14 (
j23 skipV h19) (
asI .i64 v18 fun x24 =>
fI (wrapF .u64 x24) fun x25 =>
j23 (AV.int .u64 x25) h19)) fun j20 =>
br b14 (
j20 skipV h16) (
j20 (AV.int .i64 a1) h16)) fun j17 =>
br b14 (
j17 skipV h10) (
j17 (AV.int .u64 x2) h10)) fun j11 =>
br b5 (
j11 skipV h7) (
asI .i64 v6 fun x12 =>
fB (ltI x12 (Int.ofNat 0)) fun b13 =>
j11 (AV.bool b13) h7)) fun j8 =>
br b5 (
j8 skipV h1) (
j8 (AV.int .i64 a1) h1)
noncomputable def s109 : AV → Int → H → (Int → Int → Int → H → Prop) → Prop := s109G J0 s135
noncomputable def w109 (c : AV → Int → H → (Int → Int → Int → H → Prop) → Prop) : Fun := fun xs h k => arg xs fun a0 xs => arg xs fun a1 xs => noArg xs <| asI .i64 a1 fun a1 => c a0 a1 h fun r0 r1 r2 h => k (.tuple [(.int .i64 r0), (.int .i64 r1), (.int .i64 r2)]) h
theorem s109_eq (J : Joins) (c135 : AV → H → (Int → Int → Int → H → Prop) → Prop) (a0 : AV) (a1 : Int) (h : H) (k : AV → H → Prop) : denF ty (gam J [(135, w135 c135)]) Tryz.f109 [a0, (.int .i64 a1)] h k = s109G J c135 a0 a1 h (fun r0 r1 r2 h => k (.tuple [(.int .i64 r0), (.int .i64 r1), (.int .i64 r2)]) h) := by kernel_rfl
noncomputable def g109 : Fun := w109 s109
theorem g109_ok : FunOk Tryz.prog 109 g109 := (fun_ok ty_ok mixed (gam_ok (J := J0) (tab_cons g135_ok (tab_nil fls_fun))) Tryz.func109 (fun args w => by simp)).imp fun xs h k e0 => by
  obtain ⟨a0, xs0, rfl, e1⟩ := arg_imp e0
  obtain ⟨a1, xs1, rfl, e2⟩ := arg_imp e1
  obtain ⟨rfl, e3⟩ := noArg_imp e2
  obtain ⟨a1, rfl, e4⟩ := asI_iff.1 e3
  exact (s109_eq J0 s135 a0 a1 h k).mpr e4
/-- (*stagepost/manifest.reader).small -/
noncomputable def s86G (J : Joins) (c109 : AV → Int → H → (Int → Int → Int → H → Prop) → Prop) (a0 : AV) (a1 : Int) (h : H) (k : Int → H → Prop) : Prop :=
okNil a0 (
faK 0 a0 fun p1 =>
ldV p1 h fun v2 =>
c109 v2 a1 h fun x4 x5 x6 h3 =>
okNil a0 (
faK 1 a0 fun p7 =>
ldB p7 h3 fun b8 =>
J.jn (fun v9 h10 =>
J.jn (fun v12 h13 =>
pickB (AV.bool b8) (AV.bool true) v12 fun b17 =>
br b17 (
okNil a0 (
faK 1 a0 fun p18 =>
stV p18 (AV.bool true) h13 fun h19 =>
k (Int.ofNat 0) h19)) (
okNil a0 (
faK 0 a0 fun p20 =>
ldV p20 h13 fun v21 =>
slK 1 v21 (some (AV.int .i64 x5)) none fun v22 =>
okNil a0 (
faK 0 a0 fun p23 =>
stV p23 v22 h13 fun h24 =>
k x4 h24)))) fun j14 =>
br b8 (
j14 skipV h10) (
asI .i64 v9 fun x15 =>
fB (Bool.not (eqI x15 (Int.ofNat 0))) fun b16 =>
j14 (AV.bool b16) h10)) fun j11 =>
br b8 (
j11 skipV h3) (
j11 (AV.int .i64 x6) h3)))
noncomputable def s86 : AV → Int → H → (Int → H → Prop) → Prop := s86G J0 s109
noncomputable def w86 (c : AV → Int → H → (Int → H → Prop) → Prop) : Fun := fun xs h k => arg xs fun a0 xs => arg xs fun a1 xs => noArg xs <| asI .i64 a1 fun a1 => c a0 a1 h fun r0 h => k (.int .i64 r0) h
theorem s86_eq (J : Joins) (c109 : AV → Int → H → (Int → Int → Int → H → Prop) → Prop) (a0 : AV) (a1 : Int) (h : H) (k : AV → H → Prop) : denF ty (gam J [(109, w109 c109)]) Tryz.f86 [a0, (.int .i64 a1)] h k = s86G J c109 a0 a1 h (fun r0 h => k (.int .i64 r0) h) := by kernel_rfl
noncomputable def g86 : Fun := w86 s86
theorem g86_ok : FunOk Tryz.prog 86 g86 := (fun_ok ty_ok mixed (gam_ok (J := J0) (tab_cons g109_ok (tab_nil fls_fun))) Tryz.func86 (fun args w => by simp)).imp fun xs h k e0 => by
  obtain ⟨a0, xs0, rfl, e1⟩ := arg_imp e0
  obtain ⟨a1, xs1, rfl, e2⟩ := arg_imp e1
  obtain ⟨rfl, e3⟩ := noArg_imp e2
  obtain ⟨a1, rfl, e4⟩ := asI_iff.1 e3
  exact (s86_eq J0 s109 a0 a1 h k).mpr e4
/-- (*stagepost/manifest.reader).word -/
noncomputable def s87G (J : Joins) (c86 : AV → Int → H → (Int → H → Prop) → Prop) (a0 : AV) (h : H) (k : Str → H → Prop) : Prop :=
c86 a0 (Int.ofNat 512) h fun x2 h1 =>
okNil a0 (
faK 1 a0 fun p3 =>
ldB p3 h1 fun b4 =>
J.jn (fun v5 h6 =>
J.jn (fun v8 h9 =>
J.jn (fun v11 h12 =>
J.jn (fun v14 h15 =>
J.jn (fun v18 h19 =>
J.jn (fun v22 h23 =>
J.jn (fun v26 h27 =>
pickB (AV.bool b4) (AV.bool true) v26 fun b32 =>
br b32 (
okNil a0 (
faK 1 a0 fun p33 =>
stV p33 (AV.bool true) h27 fun h34 =>
k ⟨0, 0⟩ h34)) (
okNil a0 (
faK 0 a0 fun p35 =>
ldV p35 h27 fun v36 =>
slK 1 v36 none (some (AV.int .i64 x2)) fun v37 =>
toStrK v37 h27 fun s38 =>
okNil a0 (
faK 0 a0 fun p39 =>
ldV p39 h27 fun v40 =>
slK 1 v40 (some (AV.int .i64 x2)) none fun v41 =>
okNil a0 (
faK 0 a0 fun p42 =>
stV p42 v41 h27 fun h43 =>
k s38 h43))))) fun j28 =>
br b4 (
j28 skipV h23) (
asI .i64 v5 fun x29 =>
asI .i64 v22 fun x30 =>
fB (ltI x30 x29) fun b31 =>
j28 (AV.bool b31) h23)) fun j24 =>
br b4 (
j24 skipV h19) (
lenK v18 fun x25 =>
j24 (AV.int .i64 (Int.ofNat x25)) h19)) fun j20 =>
br b4 (
j20 skipV h15) (
ldV v14 h15 fun v21 =>
j20 v21 h15)) fun j16 =>
br b4 (
j16 skipV h12) (
faK 0 v11 fun p17 =>
j16 p17 h12)) fun j13 =>
br b4 (
j13 skipV h9) (
okNil v8 (
j13 v8 h9))) fun j10 =>
br b4 (
j10 skipV h6) (
j10 a0 h6)) fun j7 =>
br b4 (
j7 skipV h1) (
j7 (AV.int .i64 x2) h1))
noncomputable def s87 : AV → H → (Str → H → Prop) → Prop := s87G J0 s86
noncomputable def w87 (c : AV → H → (Str → H → Prop) → Prop) : Fun := fun xs h k => arg xs fun a0 xs => noArg xs <| c a0 h fun r0 h => k (.str r0) h
theorem s87_eq (J : Joins) (c86 : AV → Int → H → (Int → H → Prop) → Prop) (a0 : AV) (h : H) (k : AV → H → Prop) : denF ty (gam J [(86, w86 c86)]) Tryz.f87 [a0] h k = s87G J c86 a0 h (fun r0 h => k (.str r0) h) := by kernel_rfl
noncomputable def g87 : Fun := w87 s87
theorem g87_ok : FunOk Tryz.prog 87 g87 := (fun_ok ty_ok mixed (gam_ok (J := J0) (tab_cons g86_ok (tab_nil fls_fun))) Tryz.func87 (fun args w => by simp)).imp fun xs h k e0 => by
  obtain ⟨a0, xs0, rfl, e1⟩ := arg_imp e0
  obtain ⟨rfl, e2⟩ := noArg_imp e1
  exact (s87_eq J0 s86 a0 h k).mpr e2
/-- stagepost/manifest.Decode -/
noncomputable def s54G (J : Joins) (c20 : AV → H → (AV → Int → H → Prop) → Prop) (c86 : AV → Int → H → (Int → H → Prop) → Prop) (c87 : AV → H → (Str → H → Prop) → Prop) (a0 : AV) (h : H) (k : AV → Int → H → Prop) : Prop :=
pushK (.cells false 34 [(.nils), (.nils), (.int .i64 0), (.int .i64 0), (.int .i64 0)]) h fun n1 h2 =>
ck (isOne a0) (pushK (.cells false 137 [a0, (.bool false)]) h2 fun n3 h4 =>
pushK (.cells false 34 [(.nils), (.nils), (.int .i64 0), (.int .i64 0), (.int .i64 0)]) h4 fun n5 h6 =>
c86 (AV.ptr n3 0) (Int.ofNat 1024) h6 fun x8 h7 =>
J.lp (α := AV × AV × AV × AV × Unit) (fun r12 v9 d10 h11 =>
asI .i64 v9.2.2.2.1 fun x13 =>
fB (ltI (Int.ofNat 0) x13) fun b14 =>
J.jn (fun v15 h16 =>
J.jn (fun v18 h19 =>
J.jn (fun v21 h22 =>
J.jn (fun v25 h26 =>
J.jn (fun v29 h30 =>
pickB (AV.bool b14) v29 (AV.bool false) fun b34 =>
br b34 (
faK 0 v9.2.2.1 fun p35 =>
ldV p35 h30 fun v36 =>
c86 v9.2.1 (Int.ofNat 999999) h30 fun x38 h37 =>
ck (readsSo (aLoad1 p35 h37) v36) (
pushK (.cells false 3 [(AV.int .i64 x38)]) h37 fun n39 h40 =>
apC 3 1 8 v36 (AV.slice n39 0 1 1 1 true) h40 fun v41 h42 =>
faK 0 v9.2.2.1 fun p43 =>
stV p43 v41 h42 fun h44 =>
asI .i64 v9.2.2.2.1 fun x45 =>
fI (wrapF .i64 (Int.sub x45 (Int.ofNat 1))) fun x46 =>
r12 (v9.1, v9.2.1, v9.2.2.1, (AV.int .i64 x46), ()) d10 h44)) (
c86 v9.2.1 (Int.ofNat 1024) h30 fun x48 h47 =>
J.lp (α := AV × AV × AV × AV × Unit) (fun r52 v49 d50 h51 =>
asI .i64 v49.2.2.2.1 fun x53 =>
fB (ltI (Int.ofNat 0) x53) fun b54 =>
J.jn (fun v55 h56 =>
J.jn (fun v58 h59 =>
J.jn (fun v61 h62 =>
J.jn (fun v65 h66 =>
J.jn (fun v69 h70 =>
pickB (AV.bool b54) v69 (AV.bool false) fun b74 =>
br b74 (
c86 v49.2.1 (Int.ofNat 999999) h70 fun x76 h75 =>
c86 v49.2.1 (Int.ofNat 6) h75 fun x78 h77 =>
c86 v49.2.1 (Int.ofNat 65536) h77 fun x80 h79 =>
pushK (.cells false 45 [(.int .i64 0), (.int .i64 0), (.int .i64 0), (.str ⟨0, 0⟩), (.str ⟨0, 0⟩)]) h79 fun n81 h82 =>
stN 5 (AV.ptr n81 0) [(AV.int .i64 x76), (AV.int .i64 x78), (AV.int .i64 x80), (.str ⟨0, 0⟩), (.str ⟨0, 0⟩)] h82 fun h83 =>
c87 v49.2.1 h83 fun s85 h84 =>
stV (AV.ptr n81 3) (AV.str s85) h84 fun h86 =>
c87 v49.2.1 h86 fun s88 h87 =>
stV (AV.ptr n81 4) (AV.str s88) h87 fun h89 =>
faK 1 v49.2.2.1 fun p90 =>
ldV p90 h89 fun v91 =>
ldN 5 (AV.ptr n81 0) h89 fun l92 =>
ck (Nat.beq (List.length l92) 5) (op' (lputAt 0 l92 [(.int .i64 0), (.int .i64 0), (.int .i64 0), (.str ⟨0, 0⟩), (.str ⟨0, 0⟩)]) fun l95 =>
pushK (.cells false 45 l95) h89 fun n93 h94 =>
apC 45 5 56 v91 (AV.slice n93 0 1 1 5 true) h94 fun v96 h97 =>
faK 1 v49.2.2.1 fun p98 =>
stV p98 v96 h97 fun h99 =>
asI .i64 v49.2.2.2.1 fun x100 =>
fI (wrapF .i64 (Int.sub x100 (Int.ofNat 1))) fun x101 =>
r52 (v49.1, v49.2.1, v49.2.2.1, (AV.int .i64 x101), ()) d50 h99)) (
c86 v49.2.1 (Int.ofNat 999999) h70 fun x103 h102 =>
c86 v49.2.1 (Int.ofNat 1073741824) h102 fun x105 h104 =>
c86 v49.2.1 (Int.ofNat 999999) h104 fun x107 h106 =>
faK 2 v49.2.2.1 fun p108 =>
stV p108 (AV.int .i64 x103) h106 fun h109 =>
faK 3 v49.2.2.1 fun p110 =>
stV p110 (AV.int .i64 x105) h109 fun h111 =>
faK 4 v49.2.2.1 fun p112 =>
stV p112 (AV.int .i64 x107) h111 fun h113 =>
ldN 5 v49.2.2.1 h113 fun l114 =>
c20 (AV.agg l114) h113 fun v116 x117 h115 =>
okNil v49.2.1 (
faK 1 v49.2.1 fun p118 =>
ldB p118 h115 fun b119 =>
J.jn (fun v120 h121 =>
J.jn (fun v123 h124 =>
J.jn (fun v126 h127 =>
J.jn (fun v130 h131 =>
J.jn (fun v134 h135 =>
J.jn (fun v138 h139 =>
pickB (AV.bool b119) (AV.bool true) v138 fun b143 =>
J.jn (fun v144 h145 =>
J.jn (fun v147 h148 =>
pickB (AV.bool b143) (AV.bool true) v147 fun b152 =>
br b152 (
stN 5 v49.1 [(.nils), (.nils), (.int .i64 0), (.int .i64 0), (.int .i64 0)] h148 fun h153 =>
leaveK (gam J [(20, w20 c20), (86, w86 c86), (87, w87 c87)]) d50 h153 fun h154 =>
ldN 5 v49.1 h154 fun l155 =>
k (AV.agg l155) (Int.ofNat 5) h154) (
ldN 5 v49.2.2.1 h148 fun l156 =>
stN 5 v49.1 l156 h148 fun h157 =>
leaveK (gam J [(20, w20 c20), (86, w86 c86), (87, w87 c87)]) d50 h157 fun h158 =>
ldN 5 v49.1 h158 fun l159 =>
k (AV.agg l159) (Int.ofNat 0) h158)) fun j149 =>
br b143 (
j149 skipV h145) (
asI .i64 v144 fun x150 =>
fB (Bool.not (eqI x150 (Int.ofNat 0))) fun b151 =>
j149 (AV.bool b151) h145)) fun j146 =>
br b143 (
j146 skipV h139) (
j146 (AV.int .i64 x117) h139)) fun j140 =>
br b119 (
j140 skipV h135) (
asI .i64 v134 fun x141 =>
fB (ltI (Int.ofNat 0) x141) fun b142 =>
j140 (AV.bool b142) h135)) fun j136 =>
br b119 (
j136 skipV h131) (
lenK v130 fun x137 =>
j136 (AV.int .i64 (Int.ofNat x137)) h131)) fun j132 =>
br b119 (
j132 skipV h127) (
ldV v126 h127 fun v133 =>
j132 v133 h127)) fun j128 =>
br b119 (
j128 skipV h124) (
faK 0 v123 fun p129 =>
j128 p129 h124)) fun j125 =>
br b119 (
j125 skipV h121) (
okNil v120 (
j125 v120 h121))) fun j122 =>
br b119 (
j122 skipV h115) (
j122 v49.2.1 h115)))) fun j71 =>
br b54 (
asB v65 fun b72 =>
fB (Bool.not b72) fun b73 =>
j71 (AV.bool b73) h66) (
j71 skipV h66)) fun j67 =>
br b54 (
ldB v61 h62 fun b68 =>
j67 (AV.bool b68) h62) (
j67 skipV h62)) fun j63 =>
br b54 (
faK 1 v58 fun p64 =>
j63 p64 h59) (
j63 skipV h59)) fun j60 =>
br b54 (
okNil v55 (
j60 v55 h56)) (
j60 skipV h56)) fun j57 =>
br b54 (
j57 v49.2.1 h51) (
j57 skipV h51)) (v9.1, v9.2.1, v9.2.2.1, (AV.int .i64 x48), ()) d10 h47)) fun j31 =>
br b14 (
asB v25 fun b32 =>
fB (Bool.not b32) fun b33 =>
j31 (AV.bool b33) h26) (
j31 skipV h26)) fun j27 =>
br b14 (
ldB v21 h22 fun b28 =>
j27 (AV.bool b28) h22) (
j27 skipV h22)) fun j23 =>
br b14 (
faK 1 v18 fun p24 =>
j23 p24 h19) (
j23 skipV h19)) fun j20 =>
br b14 (
okNil v15 (
j20 v15 h16)) (
j20 skipV h16)) fun j17 =>
br b14 (
j17 v9.2.1 h11) (
j17 skipV h11)) ((AV.ptr n1 0), (AV.ptr n3 0), (AV.ptr n5 0), (AV.int .i64 x8), ()) [] h7)
noncomputable def s54 : AV → H → (AV → Int → H → Prop) → Prop := s54G J0 s20 s86 s87
noncomputable def w54 (c : AV → H → (AV → Int → H → Prop) → Prop) : Fun := fun xs h k => arg xs fun a0 xs => noArg xs <| c a0 h fun r0 r1 h => k (.tuple [r0, (.int .i64 r1)]) h
theorem s54_eq (J : Joins) (c20 : AV → H → (AV → Int → H → Prop) → Prop) (c86 : AV → Int → H → (Int → H → Prop) → Prop) (c87 : AV → H → (Str → H → Prop) → Prop) (a0 : AV) (h : H) (k : AV → H → Prop) : denF ty (gam J [(20, w20 c20), (86, w86 c86), (87, w87 c87)]) Tryz.f54 [a0] h k = s54G J c20 c86 c87 a0 h (fun r0 r1 h => k (.tuple [r0, (.int .i64 r1)]) h) := by kernel_rfl
noncomputable def g54 : Fun := w54 s54
theorem g54_ok : FunOk Tryz.prog 54 g54 := (fun_ok ty_ok mixed (gam_ok (J := J0) (tab_cons g20_ok (tab_cons g86_ok (tab_cons g87_ok (tab_nil fls_fun))))) Tryz.func54 (fun args w => by simp)).imp fun xs h k e0 => by
  obtain ⟨a0, xs0, rfl, e1⟩ := arg_imp e0
  obtain ⟨rfl, e2⟩ := noArg_imp e1
  exact (s54_eq J0 s20 s86 s87 a0 h k).mpr e2
end Go.Proofs.YtdaibgpceldbdaaGreatDoor
