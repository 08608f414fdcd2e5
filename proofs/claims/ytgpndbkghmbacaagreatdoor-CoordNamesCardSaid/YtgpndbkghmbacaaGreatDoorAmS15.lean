/- Functions as they are reckoned. MADE BY PROGRAM (wip/tools/shal.py). -/
import Derived.Test.YtgpndbkghmbacaaGreatDoorAmS14
namespace Go.Proofs.YtgpndbkghmbacaaGreatDoor
open Go Go.Am
set_option maxRecDepth 100000
set_option linter.all false
/-- stagepost/catalog.CheckTable -/
noncomputable def g450 : Fun := denFS ty (gam J0 [(177, g177)]) Tryz.f450
theorem g450_ok : FunOk Tryz.prog 450 g450 := fun_okS ty_ok mixed (gam_ok (J := J0) (tab_cons g177_ok (tab_nil fls_fun))) Tryz.func450 (fun args w => by simp)
/-- stagepost/catalog.fits -/
noncomputable def s451G (J : Joins) (c366 : Fun) (a0 : AV) (a1 : AV) (h : H) (k : Int → H → Prop) : Prop :=
Go.Am.asAgg a0 fun l3 =>
pushK (.cells false 182 l3) h fun n1 h2 =>
lenK a1 fun x4 =>
ldV (AV.ptr n1 2) h2 fun v5 =>
lenK v5 fun x6 =>
fB (Bool.not (eqI (Int.ofNat x4) (Int.ofNat x6))) fun b7 =>
br b7 (
k (Int.ofNat 2) h2) (
lenK a1 fun x8 =>
J.lp (α := AV × AV × AV × AV × AV × Unit) (fun r12 v9 d10 h11 =>
asI .i64 v9.2.2.2.2.1 fun x13 =>
asI .i64 v9.2.2.2.1 fun x14 =>
fB (ltI x13 x14) fun b15 =>
br b15 (
ixK 3 v9.2.2.1 v9.2.2.2.2.1 fun p16 =>
ldN 3 p16 h11 fun l17 =>
pushK (.cells false 82 [(.int .u8 0), (.int .i64 0), (.str ⟨0, 0⟩)]) h11 fun n18 h19 =>
stN 3 (AV.ptr n18 0) l17 h19 fun h20 =>
ldN 3 (AV.ptr n18 0) h20 fun l21 =>
c366 [(AV.agg l21)] h20 fun v22 h23 =>
asI .i64 v22 fun x24 =>
fB (Bool.not (eqI x24 (Int.ofNat 0))) fun b25 =>
J.jn (fun v26 h27 =>
J.jb (fun b29 v30 =>
J.jn (fun v33 h34 =>
J.jb (fun b37 v38 =>
J.jn (fun v41 h42 =>
J.jn (fun v44 h45 =>
J.jn (fun v48 h49 =>
J.jb (fun b52 v53 =>
J.jn (fun v56 h57 =>
J.jn (fun v62 h63 =>
J.jn (fun v65 h66 =>
J.jb (fun b68 v69 =>
J.jn (fun v72 h73 =>
J.jn (fun v77 h78 =>
pickB (AV.bool b25) (AV.bool true) v77 fun b81 =>
br b81 (
leaveK (gam J [(366, c366)]) d10 h78 fun h82 =>
k (Int.ofNat 2) h82) (
asI .i64 v9.2.2.2.2.1 fun x83 =>
fI (wrapF .i64 (Int.add x83 (Int.ofNat 1))) fun x84 =>
r12 (v9.1, v9.2.1, v9.2.2.1, v9.2.2.2.1, (AV.int .i64 x84), ()) d10 h78)) fun j79 =>
br b25 (
j79 skipV h73) (
pickB v62 v72 (AV.bool false) fun b80 =>
j79 (AV.bool b80) h73)) fun j74 =>
asBU v62 (fun b85 =>
br b85 (
asI .u8 v69 fun x75 =>
fB (Bool.not (eqI x75 (Int.ofNat 0))) fun b76 =>
j74 (AV.bool b76) h66) (
j74 skipV h66)) (
j74 skipV h66)) fun j70 =>
asBU v62 (fun b86 =>
br b86 (
ldI .u8 v65 h66 fun x71 =>
j70 true (AV.int .u8 x71)) (
j70 false skipV)) (
j70 false skipV)) fun j67 =>
asBU v62 (fun b87 =>
br b87 (
j67 (AV.ptr n18 0) h63) (
j67 skipV h63)) (
j67 skipV h63)) fun j64 =>
br b25 (
j64 skipV h57) (
j64 v56 h57)) fun j58 =>
br b25 (
j58 skipV h49) (
asI .u8 v30 fun x59 =>
asI .u8 v53 fun x60 =>
fB (Bool.not (eqI x59 x60)) fun b61 =>
j58 (AV.bool b61) h49)) fun j54 =>
br b25 (
j54 false skipV) (
ldI .u8 v48 h49 fun x55 =>
j54 true (AV.int .u8 x55))) fun j50 =>
br b25 (
j50 skipV h45) (
faK 1 v44 fun p51 =>
j50 p51 h45)) fun j46 =>
br b25 (
j46 skipV h42) (
ixK 3 v38 v41 fun p47 =>
j46 p47 h42)) fun j43 =>
br b25 (
j43 skipV h34) (
j43 v9.2.2.2.2.1 h34)) fun j39 =>
br b25 (
j39 false skipV) (
ldV v33 h34 fun v40 =>
j39 true v40)) fun j35 =>
br b25 (
j35 skipV h27) (
faK 2 v9.2.1 fun p36 =>
j35 p36 h27)) fun j31 =>
br b25 (
j31 false skipV) (
ldI .u8 v26 h27 fun x32 =>
j31 true (AV.int .u8 x32))) fun j28 =>
br b25 (
j28 skipV h23) (
j28 (AV.ptr n18 0) h23)) (
lenK v9.1 fun x88 =>
J.lp (α := AV × AV × AV × AV × Unit) (fun r92 v89 d90 h91 =>
asI .i64 v89.2.2.2.1 fun x93 =>
asI .i64 v89.2.2.1 fun x94 =>
fB (ltI x93 x94) fun b95 =>
br b95 (
ixK 3 v89.2.1 v89.2.2.2.1 fun p96 =>
ldN 3 p96 h91 fun l97 =>
pushK (.cells false 82 [(.int .u8 0), (.int .i64 0), (.str ⟨0, 0⟩)]) h91 fun n98 h99 =>
stN 3 (AV.ptr n98 0) l97 h99 fun h100 =>
ldI .u8 (AV.ptr n98 0) h100 fun x101 =>
fB (eqI x101 (Int.ofNat 0)) fun b102 =>
J.jn (fun v103 h104 =>
J.jn (fun v107 h108 =>
J.jn (fun v111 h112 =>
J.jn (fun v114 h115 =>
J.jn (fun v118 h119 =>
J.jn (fun v122 h123 =>
pickB (AV.bool b102) v122 (AV.bool false) fun b126 =>
br b126 (
leaveK (gam J [(366, c366)]) d90 h123 fun h127 =>
k (Int.ofNat 250) h127) (
asI .i64 v89.2.2.2.1 fun x128 =>
fI (wrapF .i64 (Int.add x128 (Int.ofNat 1))) fun x129 =>
r92 (v89.1, v89.2.1, v89.2.2.1, (AV.int .i64 x129), ()) d90 h123)) fun j124 =>
br b102 (
ldB v118 h119 fun b125 =>
j124 (AV.bool b125) h119) (
j124 skipV h119)) fun j120 =>
br b102 (
faK 2 v114 fun p121 =>
j120 p121 h115) (
j120 skipV h115)) fun j116 =>
br b102 (
ixK 3 v107 v111 fun p117 =>
j116 p117 h112) (
j116 skipV h112)) fun j113 =>
br b102 (
j113 v89.2.2.2.1 h108) (
j113 skipV h108)) fun j109 =>
br b102 (
ldV v103 h104 fun v110 =>
j109 v110 h104) (
j109 skipV h104)) fun j105 =>
br b102 (
faK 2 v89.1 fun p106 =>
j105 p106 h100) (
j105 skipV h100)) (
leaveK (gam J [(366, c366)]) d90 h91 fun h130 =>
k (Int.ofNat 0) h130)) (v9.2.1, v9.1, (AV.int .i64 (Int.ofNat x88)), (AV.int .i64 (Int.ofNat 0)), ()) d10 h11)) (a1, (AV.ptr n1 0), a1, (AV.int .i64 (Int.ofNat x8)), (AV.int .i64 (Int.ofNat 0)), ()) [] h2)
noncomputable def s451 : AV → AV → H → (Int → H → Prop) → Prop := s451G J0 g366
noncomputable def w451 (c : AV → AV → H → (Int → H → Prop) → Prop) : Fun := fun xs h k => arg xs fun a0 xs => arg xs fun a1 xs => noArg xs <| c a0 a1 h fun r0 h => k (.int .i64 r0) h
theorem s451_eq (J : Joins) (c366 : Fun) (a0 : AV) (a1 : AV) (h : H) (k : AV → H → Prop) : denF ty (gam J [(366, c366)]) Tryz.f451 [a0, a1] h k = s451G J c366 a0 a1 h (fun r0 h => k (.int .i64 r0) h) := by kernel_rfl
noncomputable def g451 : Fun := w451 s451
theorem g451_ok : FunOk Tryz.prog 451 g451 := (fun_ok ty_ok mixed (gam_ok (J := J0) (tab_cons g366_ok (tab_nil fls_fun))) Tryz.func451 (fun args w => by simp)).imp fun xs h k e0 => by
  obtain ⟨a0, xs0, rfl, e1⟩ := arg_imp e0
  obtain ⟨a1, xs1, rfl, e2⟩ := arg_imp e1
  obtain ⟨rfl, e3⟩ := noArg_imp e2
  exact (s451_eq J0 g366 a0 a1 h k).mpr e3
/-- stagepost/catalog.Fits -/
noncomputable def g381 : Fun := denFS ty (gam J0 [(450, g450), (451, g451)]) Tryz.f381
theorem g381_ok : FunOk Tryz.prog 381 g381 := fun_okS ty_ok mixed (gam_ok (J := J0) (tab_cons g450_ok (tab_cons g451_ok (tab_nil fls_fun)))) Tryz.func381 (fun args w => by simp)
/-- stagepost/catalog.tuple -/
noncomputable def g452 : Fun := denFS ty (gam J0 [(276, g276)]) Tryz.f452
theorem g452_ok : FunOk Tryz.prog 452 g452 := fun_okS ty_ok mixed (gam_ok (J := J0) (tab_cons g276_ok (tab_nil fls_fun))) Tryz.func452 (fun args w => by simp)
/-- stagepost/catalog.number -/
noncomputable def g453 : Fun := denFS ty (gam J0 []) Tryz.f453
theorem g453_ok : FunOk Tryz.prog 453 g453 := fun_okS ty_ok mixed (gam_ok (J := J0) (tab_nil fls_fun)) Tryz.func453 (fun args w => by simp)
/-- stagepost/catalog.pick -/
noncomputable def g454 : Fun := denFS ty (gam J0 []) Tryz.f454
theorem g454_ok : FunOk Tryz.prog 454 g454 := fun_okS ty_ok mixed (gam_ok (J := J0) (tab_nil fls_fun)) Tryz.func454 (fun args w => by simp)
/-- stagepost/catalog.Row -/
noncomputable def g382 : Fun := denFS ty (gam J0 [(381, g381), (452, g452), (453, g453), (454, g454)]) Tryz.f382
theorem g382_ok : FunOk Tryz.prog 382 g382 := fun_okS ty_ok mixed (gam_ok (J := J0) (tab_cons g381_ok (tab_cons g452_ok (tab_cons g453_ok (tab_cons g454_ok (tab_nil fls_fun)))))) Tryz.func382 (fun args w => by simp)
/-- slices.IndexFunc[[]stagepost/api.Value,stagepost/api.Value] -/
noncomputable def g507 : Fun := denFS ty (gam J0 [(190, g190), (482, g482)]) Tryz.f507
theorem g507_ok : FunOk Tryz.prog 507 g507 := fun_okS ty_ok mixed (gam_ok (J := J0) (tab_cons g190_ok (tab_cons g482_ok (tab_nil fls_fun)))) Tryz.func507 (fun args w => by simp)
/-- slices.ContainsFunc[[]stagepost/api.Value,stagepost/api.Value] -/
noncomputable def g481 : Fun := denFS ty (gam J0 [(507, g507)]) Tryz.f481
theorem g481_ok : FunOk Tryz.prog 481 g481 := fun_okS ty_ok mixed (gam_ok (J := J0) (tab_cons g507_ok (tab_nil fls_fun))) Tryz.func481 (fun args w => by simp)
/-- stagepost/catalog.entry -/
noncomputable def g455 : Fun := denFS ty (gam J0 [(452, g452), (453, g453), (454, g454), (481, g481), (482, g482)]) Tryz.f455
theorem g455_ok : FunOk Tryz.prog 455 g455 := fun_okS ty_ok mixed (gam_ok (J := J0) (tab_cons g452_ok (tab_cons g453_ok (tab_cons g454_ok (tab_cons g481_ok (tab_cons g482_ok (tab_nil fls_fun))))))) Tryz.func455 (fun args w => by simp)
/-- stagepost/catalog.Entries -/
noncomputable def g383 : Fun := denFS ty (gam J0 [(382, g382), (455, g455)]) Tryz.f383
theorem g383_ok : FunOk Tryz.prog 383 g383 := fun_okS ty_ok mixed (gam_ok (J := J0) (tab_cons g382_ok (tab_cons g455_ok (tab_nil fls_fun)))) Tryz.func383 (fun args w => by simp)
/-- stagepost/exec.filled -/
noncomputable def g283 : Fun := denFS ty (gam J0 [(381, g381), (382, g382), (383, g383)]) Tryz.f283
theorem g283_ok : FunOk Tryz.prog 283 g283 := fun_okS ty_ok mixed (gam_ok (J := J0) (tab_cons g381_ok (tab_cons g382_ok (tab_cons g383_ok (tab_nil fls_fun))))) Tryz.func283 (fun args w => by simp)
/-- (*stagepost/exec.work).free -/
noncomputable def g284 : Fun := denFS ty (gam J0 [(384, g384)]) Tryz.f284
theorem g284_ok : FunOk Tryz.prog 284 g284 := fun_okS ty_ok mixed (gam_ok (J := J0) (tab_cons g384_ok (tab_nil fls_fun))) Tryz.func284 (fun args w => by simp)
/-- stagepost/exec.asked -/
noncomputable def g285 : Fun := denFS ty (gam J0 [(385, g385)]) Tryz.f285
theorem g285_ok : FunOk Tryz.prog 285 g285 := fun_okS ty_ok mixed (gam_ok (J := J0) (tab_cons g385_ok (tab_nil fls_fun))) Tryz.func285 (fun args w => by simp)
/-- (stagepost/exec.full).all -/
noncomputable def g287 : Fun := denFS ty (gam J0 []) Tryz.f287
theorem g287_ok : FunOk Tryz.prog 287 g287 := fun_okS ty_ok mixed (gam_ok (J := J0) (tab_nil fls_fun)) Tryz.func287 (fun args w => by simp)
/-- stagepost/exec.written$1 -/
noncomputable def g387 : Fun := denFS ty (gam J0 []) Tryz.f387
theorem g387_ok : FunOk Tryz.prog 387 g387 := fun_okS ty_ok mixed (gam_ok (J := J0) (tab_nil fls_fun)) Tryz.func387 (fun args w => by simp)
/-- slices.insertionSortCmpFunc[stagepost/api.Write] -/
noncomputable def g483 : Fun := denFS ty (gam J0 [(387, g387)]) Tryz.f483
theorem g483_ok : FunOk Tryz.prog 483 g483 := fun_okS ty_ok mixed (gam_ok (J := J0) (tab_cons g387_ok (tab_nil fls_fun))) Tryz.func483 (fun args w => by simp)
noncomputable def ring456 : Nat → List (Nat × Fun) := fun n => Nat.rec (motive := fun _ => List (Nat × Fun)) [] (fun _ r => [(456, denFS ty (gam J0 ((387, g387) :: (483, g483) :: r)) Tryz.f456)]) n
theorem ring456_ok : ∀ n, TabOk (FunOk Tryz.prog) (ring456 n)
  | 0 => tab_nil fls_fun
  | n + 1 => (tab_cons (fun_okS ty_ok mixed (gam_ok (J := J0) (tab_cons g387_ok (tab_cons g483_ok (ring456_ok n)))) Tryz.func456 (fun args w => by simp)) (tab_nil fls_fun))
/-- slices.pdqsortCmpFunc[stagepost/api.Write] -/
noncomputable def g456 : Fun := tab (ring456 24) 456
theorem g456_ok : FunOk Tryz.prog 456 g456 := ring456_ok 24 456
/-- slices.SortFunc[[]stagepost/api.Write,stagepost/api.Write] -/
noncomputable def g386 : Fun := denFS ty (gam J0 [(151, g151), (456, g456)]) Tryz.f386
theorem g386_ok : FunOk Tryz.prog 386 g386 := fun_okS ty_ok mixed (gam_ok (J := J0) (tab_cons g151_ok (tab_cons g456_ok (tab_nil fls_fun)))) Tryz.func386 (fun args w => by simp)
/-- stagepost/exec.written -/
noncomputable def s286G (J : Joins) (c287 : Fun) (c386 : Fun) (c387 : Fun) (a0 : AV) (a1 : AV) (h : H) (k : AV → H → Prop) : Prop :=
pushK (.smap []) h fun n1 h2 =>
pushK (.smap []) h2 fun n3 h4 =>
lenK a0 fun x5 =>
J.lp (α := AV × AV × AV × AV × AV × AV × AV × Unit) (fun r9 v6 d7 h8 =>
asI .i64 v6.2.2.2.2.2.2.1 fun x10 =>
asI .i64 v6.2.2.2.2.2.1 fun x11 =>
fB (ltI x10 x11) fun b12 =>
br b12 (
ixK 3 v6.2.2.2.2.1 v6.2.2.2.2.2.2.1 fun p13 =>
ldN 3 p13 h8 fun l14 =>
pushK (.cells false 454 [(.str ⟨0, 0⟩), (.str ⟨0, 0⟩), (.nils)]) h8 fun n15 h16 =>
stN 3 (AV.ptr n15 0) l14 h16 fun h17 =>
ldN 3 (AV.ptr n15 0) h17 fun l18 =>
c287 [(AV.agg l18)] h17 fun v19 h20 =>
lenK v19 fun x21 =>
J.lp (α := AV × AV × AV × AV × AV × AV × AV × AV × AV × AV × Unit) (fun r25 v22 d23 h24 =>
asI .i64 v22.2.2.2.2.2.2.2.2.2.1 fun x26 =>
asI .i64 v22.2.2.2.2.2.2.2.2.1 fun x27 =>
fB (ltI x26 x27) fun b28 =>
br b28 (
ixK 2 v22.2.2.2.2.2.2.2.1 v22.2.2.2.2.2.2.2.2.2.1 fun p29 =>
ldN 2 p29 h24 fun l30 =>
pushK (.cells false 212 [(.str ⟨0, 0⟩), (.str ⟨0, 0⟩)]) h24 fun n31 h32 =>
stN 2 (AV.ptr n31 0) l30 h32 fun h33 =>
ldS (AV.ptr n31 0) h33 fun s34 =>
ldS (AV.ptr n31 1) h33 fun s35 =>
op' (mapBlk ty 9 v22.2.1 (AV.str s34) (AV.str s35) h33) fun k36 =>
putK k36.1 k36.2 h33 fun h37 =>
asI .i64 v22.2.2.2.2.2.2.2.2.2.1 fun x38 =>
fI (wrapF .i64 (Int.add x38 (Int.ofNat 1))) fun x39 =>
r25 (v22.1, v22.2.1, v22.2.2.1, v22.2.2.2.1, v22.2.2.2.2.1, v22.2.2.2.2.2.1, v22.2.2.2.2.2.2.1, v22.2.2.2.2.2.2.2.1, v22.2.2.2.2.2.2.2.2.1, (AV.int .i64 x39), ()) d23 h37) (
asI .i64 v22.2.2.2.2.2.2.1 fun x40 =>
fI (wrapF .i64 (Int.add x40 (Int.ofNat 1))) fun x41 =>
r9 (v22.1, v22.2.1, v22.2.2.1, v22.2.2.2.1, v22.2.2.2.2.1, v22.2.2.2.2.2.1, (AV.int .i64 x41), ()) d23 h24)) (v6.1, v6.2.1, v6.2.2.1, v6.2.2.2.1, v6.2.2.2.2.1, v6.2.2.2.2.2.1, v6.2.2.2.2.2.2.1, v19, (AV.int .i64 (Int.ofNat x21)), (AV.int .i64 (Int.ofNat 0)), ()) d7 h20) (
lenK v6.1 fun x42 =>
J.lp (α := AV × AV × AV × AV × AV × AV × Unit) (fun r46 v43 d44 h45 =>
asI .i64 v43.2.2.2.2.2.1 fun x47 =>
asI .i64 v43.2.2.2.2.1 fun x48 =>
fB (ltI x47 x48) fun b49 =>
br b49 (
ixK 3 v43.2.2.2.1 v43.2.2.2.2.2.1 fun p50 =>
ldN 3 p50 h45 fun l51 =>
pushK (.cells false 454 [(.str ⟨0, 0⟩), (.str ⟨0, 0⟩), (.nils)]) h45 fun n52 h53 =>
stN 3 (AV.ptr n52 0) l51 h53 fun h54 =>
ldN 3 (AV.ptr n52 0) h54 fun l55 =>
c287 [(AV.agg l55)] h54 fun v56 h57 =>
lenK v56 fun x58 =>
J.lp (α := AV × AV × AV × AV × AV × AV × AV × AV × AV × Unit) (fun r62 v59 d60 h61 =>
asI .i64 v59.2.2.2.2.2.2.2.2.1 fun x63 =>
asI .i64 v59.2.2.2.2.2.2.2.1 fun x64 =>
fB (ltI x63 x64) fun b65 =>
br b65 (
ixK 2 v59.2.2.2.2.2.2.1 v59.2.2.2.2.2.2.2.2.1 fun p66 =>
ldN 2 p66 h61 fun l67 =>
pushK (.cells false 212 [(.str ⟨0, 0⟩), (.str ⟨0, 0⟩)]) h61 fun n68 h69 =>
stN 2 (AV.ptr n68 0) l67 h69 fun h70 =>
J.jd (α := AV × AV × AV × AV × AV × AV × AV × AV × AV × AV × Unit) (fun v71 d72 h73 =>
faK 0 v71.2.2.2.1 fun p75 =>
ldS p75 h73 fun s76 =>
op' (mapBlk ty 9 v71.2.1 (AV.str s76) (AV.bool true) h73) fun k77 =>
putK k77.1 k77.2 h73 fun h78 =>
asI .i64 v71.2.2.2.2.2.2.2.2.2.1 fun x79 =>
fI (wrapF .i64 (Int.add x79 (Int.ofNat 1))) fun x80 =>
r62 (v71.1, v71.2.1, v71.2.2.1, v71.2.2.2.2.1, v71.2.2.2.2.2.1, v71.2.2.2.2.2.2.1, v71.2.2.2.2.2.2.2.1, v71.2.2.2.2.2.2.2.2.1, (AV.int .i64 x80), ()) d72 h78) fun j74 =>
ldS (AV.ptr n68 0) h70 fun s81 =>
op' (aLookup ty 9 9 true v59.1 (AV.str s81) h70) fun v82 =>
asTup v82 fun l83 =>
op' (lgetO l83 0) fun v84 =>
asS v84 fun s85 =>
asTup v82 fun l86 =>
op' (lgetO l86 1) fun v87 =>
asB v87 fun b88 =>
fB (Bool.not b88) fun b89 =>
J.jn (fun v90 h91 =>
J.jn (fun v93 h94 =>
J.jn (fun v96 h97 =>
J.jn (fun v100 h101 =>
pickB (AV.bool b89) (AV.bool true) v100 fun b106 =>
br b106 (
ldS (AV.ptr n68 0) h101 fun s107 =>
ldS (AV.ptr n68 1) h101 fun s108 =>
ck (Nat.beq (List.length [(AV.str s107), (AV.str s108), (.bool false)]) 3) (op' (lputAt 0 [(AV.str s107), (AV.str s108), (.bool false)] [(.str ⟨0, 0⟩), (.str ⟨0, 0⟩), (.bool false)]) fun l111 =>
pushK (.cells false 159 l111) h101 fun n109 h110 =>
apC 159 3 40 v59.2.2.1 (AV.slice n109 0 1 1 3 true) h110 fun v112 h113 =>
j74 (v59.1, v59.2.1, v112, (AV.ptr n68 0), v59.2.2.2.1, v59.2.2.2.2.1, v59.2.2.2.2.2.1, v59.2.2.2.2.2.2.1, v59.2.2.2.2.2.2.2.1, v59.2.2.2.2.2.2.2.2.1, ()) d60 h113)) (
j74 (v59.1, v59.2.1, v59.2.2.1, (AV.ptr n68 0), v59.2.2.2.1, v59.2.2.2.2.1, v59.2.2.2.2.2.1, v59.2.2.2.2.2.2.1, v59.2.2.2.2.2.2.2.1, v59.2.2.2.2.2.2.2.2.1, ()) d60 h101)) fun j102 =>
br b89 (
j102 skipV h97) (
asS v90 fun s103 =>
asS v96 fun s104 =>
fB (Bool.not (Str.beq s103 s104)) fun b105 =>
j102 (AV.bool b105) h97)) fun j98 =>
br b89 (
j98 skipV h94) (
ldS v93 h94 fun s99 =>
j98 (AV.str s99) h94)) fun j95 =>
br b89 (
j95 skipV h91) (
j95 (AV.ptr n68 1) h91)) fun j92 =>
br b89 (
j92 skipV h70) (
j92 (AV.str s85) h70)) (
asI .i64 v59.2.2.2.2.2.1 fun x114 =>
fI (wrapF .i64 (Int.add x114 (Int.ofNat 1))) fun x115 =>
r46 (v59.1, v59.2.1, v59.2.2.1, v59.2.2.2.1, v59.2.2.2.2.1, (AV.int .i64 x115), ()) d60 h61)) (v43.1, v43.2.1, v43.2.2.1, v43.2.2.2.1, v43.2.2.2.2.1, v43.2.2.2.2.2.1, v56, (AV.int .i64 (Int.ofNat x58)), (AV.int .i64 (Int.ofNat 0)), ()) d44 h57) (
aRangeK v43.1 h45 fun v116 h117 =>
J.lp (α := AV × AV × AV × Unit) (fun r121 v118 d119 h120 =>
aNext v118.2.2.1 h120 fun v122 h123 =>
asTup v122 fun l124 =>
op' (lgetO l124 0) fun v125 =>
asB v125 fun b126 =>
br b126 (
op' (aEntry v118.2.2.1 h123) fun v127 =>
asTup v127 fun l128 =>
op' (lgetO l128 0) fun v129 =>
asS v129 fun s130 =>
op' (aLookup ty 9 4 false v118.1 (AV.str s130) h123) fun v131 =>
asB v131 fun b132 =>
fB (Bool.not b132) fun b133 =>
br b133 (
ck (Nat.beq (List.length [(AV.str s130), (.str ⟨0, 0⟩), (AV.bool true)]) 3) (op' (lputAt 0 [(AV.str s130), (.str ⟨0, 0⟩), (AV.bool true)] [(.str ⟨0, 0⟩), (.str ⟨0, 0⟩), (.bool false)]) fun l136 =>
pushK (.cells false 159 l136) h123 fun n134 h135 =>
apC 159 3 40 v118.2.1 (AV.slice n134 0 1 1 3 true) h135 fun v137 h138 =>
r121 (v118.1, v137, v118.2.2.1, ()) d119 h138)) (
r121 (v118.1, v118.2.1, v118.2.2.1, ()) d119 h123)) (
c386 [v118.2.1, (AV.func (.func 387) [] [])] h123 fun v139 h140 =>
leaveK (gam J [(287, c287), (386, c386), (387, c387)]) d119 h140 fun h141 =>
k v118.2.1 h141)) (v43.2.1, v43.2.2.1, v116, ()) d44 h117)) (v6.2.1, v6.2.2.1, v6.2.2.2.1, v6.1, (AV.int .i64 (Int.ofNat x42)), (AV.int .i64 (Int.ofNat 0)), ()) d7 h8)) (a1, (AV.map n1), (AV.map n3), AV.nils, a0, (AV.int .i64 (Int.ofNat x5)), (AV.int .i64 (Int.ofNat 0)), ()) [] h4
noncomputable def s286T (J : Joins) (c287 : Fun) (c386 : Fun) (c387 : Fun) (k : AV → H → Prop) (v118 : AV × AV × AV × Unit) (d119 : List Dfr) (h123 : H) : Prop :=
c386 [v118.2.1, (AV.func (.func 387) [] [])] h123 fun v139 h140 =>
leaveK (gam J [(287, c287), (386, c386), (387, c387)]) d119 h140 fun h141 =>
k v118.2.1 h141
noncomputable def s286B (J : Joins) (c287 : Fun) (c386 : Fun) (c387 : Fun) (k : AV → H → Prop) (r121 : AV × AV × AV × Unit → List Dfr → H → Prop) (v118 : AV × AV × AV × Unit) (d119 : List Dfr) (h120 : H) : Prop :=
aNext v118.2.2.1 h120 fun v122 h123 =>
asTup v122 fun l124 =>
op' (lgetO l124 0) fun v125 =>
asB v125 fun b126 =>
br b126 (
op' (aEntry v118.2.2.1 h123) fun v127 =>
asTup v127 fun l128 =>
op' (lgetO l128 0) fun v129 =>
asS v129 fun s130 =>
op' (aLookup ty 9 4 false v118.1 (AV.str s130) h123) fun v131 =>
asB v131 fun b132 =>
fB (Bool.not b132) fun b133 =>
br b133 (
ck (Nat.beq (List.length [(AV.str s130), (.str ⟨0, 0⟩), (AV.bool true)]) 3) (op' (lputAt 0 [(AV.str s130), (.str ⟨0, 0⟩), (AV.bool true)] [(.str ⟨0, 0⟩), (.str ⟨0, 0⟩), (.bool false)]) fun l136 =>
pushK (.cells false 159 l136) h123 fun n134 h135 =>
apC 159 3 40 v118.2.1 (AV.slice n134 0 1 1 3 true) h135 fun v137 h138 =>
r121 (v118.1, v137, v118.2.2.1, ()) d119 h138)) (
r121 (v118.1, v118.2.1, v118.2.2.1, ()) d119 h123)) (s286T J c287 c386 c387 k v118 d119 h123)
noncomputable def s286H (J : Joins) (c287 : Fun) (c386 : Fun) (c387 : Fun) (RR : AV → (AV → AV × AV × AV × Unit) → List Dfr → H → Prop) (a0 : AV) (a1 : AV) (h : H) (k : AV → H → Prop) : Prop :=
pushK (.smap []) h fun n1 h2 =>
pushK (.smap []) h2 fun n3 h4 =>
lenK a0 fun x5 =>
J.lp (α := AV × AV × AV × AV × AV × AV × AV × Unit) (fun r9 v6 d7 h8 =>
asI .i64 v6.2.2.2.2.2.2.1 fun x10 =>
asI .i64 v6.2.2.2.2.2.1 fun x11 =>
fB (ltI x10 x11) fun b12 =>
br b12 (
ixK 3 v6.2.2.2.2.1 v6.2.2.2.2.2.2.1 fun p13 =>
ldN 3 p13 h8 fun l14 =>
pushK (.cells false 454 [(.str ⟨0, 0⟩), (.str ⟨0, 0⟩), (.nils)]) h8 fun n15 h16 =>
stN 3 (AV.ptr n15 0) l14 h16 fun h17 =>
ldN 3 (AV.ptr n15 0) h17 fun l18 =>
c287 [(AV.agg l18)] h17 fun v19 h20 =>
lenK v19 fun x21 =>
J.lp (α := AV × AV × AV × AV × AV × AV × AV × AV × AV × AV × Unit) (fun r25 v22 d23 h24 =>
asI .i64 v22.2.2.2.2.2.2.2.2.2.1 fun x26 =>
asI .i64 v22.2.2.2.2.2.2.2.2.1 fun x27 =>
fB (ltI x26 x27) fun b28 =>
br b28 (
ixK 2 v22.2.2.2.2.2.2.2.1 v22.2.2.2.2.2.2.2.2.2.1 fun p29 =>
ldN 2 p29 h24 fun l30 =>
pushK (.cells false 212 [(.str ⟨0, 0⟩), (.str ⟨0, 0⟩)]) h24 fun n31 h32 =>
stN 2 (AV.ptr n31 0) l30 h32 fun h33 =>
ldS (AV.ptr n31 0) h33 fun s34 =>
ldS (AV.ptr n31 1) h33 fun s35 =>
op' (mapBlk ty 9 v22.2.1 (AV.str s34) (AV.str s35) h33) fun k36 =>
putK k36.1 k36.2 h33 fun h37 =>
asI .i64 v22.2.2.2.2.2.2.2.2.2.1 fun x38 =>
fI (wrapF .i64 (Int.add x38 (Int.ofNat 1))) fun x39 =>
r25 (v22.1, v22.2.1, v22.2.2.1, v22.2.2.2.1, v22.2.2.2.2.1, v22.2.2.2.2.2.1, v22.2.2.2.2.2.2.1, v22.2.2.2.2.2.2.2.1, v22.2.2.2.2.2.2.2.2.1, (AV.int .i64 x39), ()) d23 h37) (
asI .i64 v22.2.2.2.2.2.2.1 fun x40 =>
fI (wrapF .i64 (Int.add x40 (Int.ofNat 1))) fun x41 =>
r9 (v22.1, v22.2.1, v22.2.2.1, v22.2.2.2.1, v22.2.2.2.2.1, v22.2.2.2.2.2.1, (AV.int .i64 x41), ()) d23 h24)) (v6.1, v6.2.1, v6.2.2.1, v6.2.2.2.1, v6.2.2.2.2.1, v6.2.2.2.2.2.1, v6.2.2.2.2.2.2.1, v19, (AV.int .i64 (Int.ofNat x21)), (AV.int .i64 (Int.ofNat 0)), ()) d7 h20) (
lenK v6.1 fun x42 =>
J.lp (α := AV × AV × AV × AV × AV × AV × Unit) (fun r46 v43 d44 h45 =>
asI .i64 v43.2.2.2.2.2.1 fun x47 =>
asI .i64 v43.2.2.2.2.1 fun x48 =>
fB (ltI x47 x48) fun b49 =>
br b49 (
ixK 3 v43.2.2.2.1 v43.2.2.2.2.2.1 fun p50 =>
ldN 3 p50 h45 fun l51 =>
pushK (.cells false 454 [(.str ⟨0, 0⟩), (.str ⟨0, 0⟩), (.nils)]) h45 fun n52 h53 =>
stN 3 (AV.ptr n52 0) l51 h53 fun h54 =>
ldN 3 (AV.ptr n52 0) h54 fun l55 =>
c287 [(AV.agg l55)] h54 fun v56 h57 =>
lenK v56 fun x58 =>
J.lp (α := AV × AV × AV × AV × AV × AV × AV × AV × AV × Unit) (fun r62 v59 d60 h61 =>
asI .i64 v59.2.2.2.2.2.2.2.2.1 fun x63 =>
asI .i64 v59.2.2.2.2.2.2.2.1 fun x64 =>
fB (ltI x63 x64) fun b65 =>
br b65 (
ixK 2 v59.2.2.2.2.2.2.1 v59.2.2.2.2.2.2.2.2.1 fun p66 =>
ldN 2 p66 h61 fun l67 =>
pushK (.cells false 212 [(.str ⟨0, 0⟩), (.str ⟨0, 0⟩)]) h61 fun n68 h69 =>
stN 2 (AV.ptr n68 0) l67 h69 fun h70 =>
J.jd (α := AV × AV × AV × AV × AV × AV × AV × AV × AV × AV × Unit) (fun v71 d72 h73 =>
faK 0 v71.2.2.2.1 fun p75 =>
ldS p75 h73 fun s76 =>
op' (mapBlk ty 9 v71.2.1 (AV.str s76) (AV.bool true) h73) fun k77 =>
putK k77.1 k77.2 h73 fun h78 =>
asI .i64 v71.2.2.2.2.2.2.2.2.2.1 fun x79 =>
fI (wrapF .i64 (Int.add x79 (Int.ofNat 1))) fun x80 =>
r62 (v71.1, v71.2.1, v71.2.2.1, v71.2.2.2.2.1, v71.2.2.2.2.2.1, v71.2.2.2.2.2.2.1, v71.2.2.2.2.2.2.2.1, v71.2.2.2.2.2.2.2.2.1, (AV.int .i64 x80), ()) d72 h78) fun j74 =>
ldS (AV.ptr n68 0) h70 fun s81 =>
op' (aLookup ty 9 9 true v59.1 (AV.str s81) h70) fun v82 =>
asTup v82 fun l83 =>
op' (lgetO l83 0) fun v84 =>
asS v84 fun s85 =>
asTup v82 fun l86 =>
op' (lgetO l86 1) fun v87 =>
asB v87 fun b88 =>
fB (Bool.not b88) fun b89 =>
J.jn (fun v90 h91 =>
J.jn (fun v93 h94 =>
J.jn (fun v96 h97 =>
J.jn (fun v100 h101 =>
pickB (AV.bool b89) (AV.bool true) v100 fun b106 =>
br b106 (
ldS (AV.ptr n68 0) h101 fun s107 =>
ldS (AV.ptr n68 1) h101 fun s108 =>
ck (Nat.beq (List.length [(AV.str s107), (AV.str s108), (.bool false)]) 3) (op' (lputAt 0 [(AV.str s107), (AV.str s108), (.bool false)] [(.str ⟨0, 0⟩), (.str ⟨0, 0⟩), (.bool false)]) fun l111 =>
pushK (.cells false 159 l111) h101 fun n109 h110 =>
apC 159 3 40 v59.2.2.1 (AV.slice n109 0 1 1 3 true) h110 fun v112 h113 =>
j74 (v59.1, v59.2.1, v112, (AV.ptr n68 0), v59.2.2.2.1, v59.2.2.2.2.1, v59.2.2.2.2.2.1, v59.2.2.2.2.2.2.1, v59.2.2.2.2.2.2.2.1, v59.2.2.2.2.2.2.2.2.1, ()) d60 h113)) (
j74 (v59.1, v59.2.1, v59.2.2.1, (AV.ptr n68 0), v59.2.2.2.1, v59.2.2.2.2.1, v59.2.2.2.2.2.1, v59.2.2.2.2.2.2.1, v59.2.2.2.2.2.2.2.1, v59.2.2.2.2.2.2.2.2.1, ()) d60 h101)) fun j102 =>
br b89 (
j102 skipV h97) (
asS v90 fun s103 =>
asS v96 fun s104 =>
fB (Bool.not (Str.beq s103 s104)) fun b105 =>
j102 (AV.bool b105) h97)) fun j98 =>
br b89 (
j98 skipV h94) (
ldS v93 h94 fun s99 =>
j98 (AV.str s99) h94)) fun j95 =>
br b89 (
j95 skipV h91) (
j95 (AV.ptr n68 1) h91)) fun j92 =>
br b89 (
j92 skipV h70) (
j92 (AV.str s85) h70)) (
asI .i64 v59.2.2.2.2.2.1 fun x114 =>
fI (wrapF .i64 (Int.add x114 (Int.ofNat 1))) fun x115 =>
r46 (v59.1, v59.2.1, v59.2.2.1, v59.2.2.2.1, v59.2.2.2.2.1, (AV.int .i64 x115), ()) d60 h61)) (v43.1, v43.2.1, v43.2.2.1, v43.2.2.2.1, v43.2.2.2.2.1, v43.2.2.2.2.2.1, v56, (AV.int .i64 (Int.ofNat x58)), (AV.int .i64 (Int.ofNat 0)), ()) d44 h57) (
RR v43.1 (fun v116 => (v43.2.1, v43.2.2.1, v116, ())) d44 h45)) (v6.2.1, v6.2.2.1, v6.2.2.2.1, v6.1, (AV.int .i64 (Int.ofNat x42)), (AV.int .i64 (Int.ofNat 0)), ()) d7 h8)) (a1, (AV.map n1), (AV.map n3), AV.nils, a0, (AV.int .i64 (Int.ofNat x5)), (AV.int .i64 (Int.ofNat 0)), ()) [] h4
theorem s286_hole (J : Joins) (c287 : Fun) (c386 : Fun) (c387 : Fun) (a0 : AV) (a1 : AV) (h : H) (k : AV → H → Prop) : s286G J c287 c386 c387 a0 a1 h k = s286H J c287 c386 c387 (fun x y d h => aRangeK x h fun v h => J.lp (s286B J c287 c386 c387 k) (y v) d h) a0 a1 h k := by kernel_rfl
noncomputable def s286 : AV → AV → H → (AV → H → Prop) → Prop := s286G J0 g287 g386 g387
noncomputable def w286 (c : AV → AV → H → (AV → H → Prop) → Prop) : Fun := fun xs h k => arg xs fun a0 xs => arg xs fun a1 xs => noArg xs <| c a0 a1 h fun r0 h => k r0 h
theorem s286_eq (J : Joins) (c287 : Fun) (c386 : Fun) (c387 : Fun) (a0 : AV) (a1 : AV) (h : H) (k : AV → H → Prop) : denF ty (gam J [(287, c287), (386, c386), (387, c387)]) Tryz.f286 [a0, a1] h k = s286G J c287 c386 c387 a0 a1 h (fun r0 h => k r0 h) := by kernel_rfl
noncomputable def g286 : Fun := w286 s286
theorem g286_ok : FunOk Tryz.prog 286 g286 := (fun_ok ty_ok mixed (gam_ok (J := J0) (tab_cons g287_ok (tab_cons g386_ok (tab_cons g387_ok (tab_nil fls_fun))))) Tryz.func286 (fun args w => by simp)).imp fun xs h k e0 => by
  obtain ⟨a0, xs0, rfl, e1⟩ := arg_imp e0
  obtain ⟨a1, xs1, rfl, e2⟩ := arg_imp e1
  obtain ⟨rfl, e3⟩ := noArg_imp e2
  exact (s286_eq J0 g287 g386 g387 a0 a1 h k).mpr e3
noncomputable abbrev s286Tr := s286T J0 g287 g386 g387
noncomputable abbrev s286Br := s286B J0 g287 g386 g387
noncomputable abbrev s286Hr := s286H J0 g287 g386 g387
noncomputable abbrev s286Tu := s286T J0 (upF g287) (upF g386) (upF g387)
noncomputable abbrev s286Bu := s286B J0 (upF g287) (upF g386) (upF g387)
noncomputable abbrev s286Hu := s286H J0 (upF g287) (upF g386) (upF g387)
noncomputable def s286U : AV → AV → H → (AV → H → Prop) → Prop := fun a0 a1 h k => s286Hu (fun x y d h => aRangeK x h fun v h => J0.lp (s286Bu k) (y v) d h) a0 a1 h k
theorem s286U_ok : FunOk Tryz.prog 286 (w286 s286U) := (fun_ok ty_ok mixed (gam_ok (J := J0) (tab_cons g287_ok.upF (tab_cons g386_ok.upF (tab_cons g387_ok.upF (tab_nil fls_fun))))) Tryz.func286 (fun args w => by simp)).imp fun xs h k e0 => by
  obtain ⟨a0, xs0, rfl, e1⟩ := arg_imp e0
  obtain ⟨a1, xs1, rfl, e2⟩ := arg_imp e1
  obtain ⟨rfl, e3⟩ := noArg_imp e2
  exact (s286_eq J0 (upF g287) (upF g386) (upF g387) a0 a1 h k).mpr ((s286_hole J0 (upF g287) (upF g386) (upF g387) a0 a1 h _).mpr e3)
end Go.Proofs.YtgpndbkghmbacaaGreatDoor
