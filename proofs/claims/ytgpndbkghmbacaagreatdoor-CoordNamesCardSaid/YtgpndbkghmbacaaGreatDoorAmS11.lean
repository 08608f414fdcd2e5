/- Functions as they are reckoned. MADE BY PROGRAM (wip/tools/shal.py). -/
import Derived.Test.YtgpndbkghmbacaaGreatDoorAmS10
namespace Go.Proofs.YtgpndbkghmbacaaGreatDoor
open Go Go.Am
set_option maxRecDepth 100000
set_option linter.all false
/-- stagepost/check.insert -/
noncomputable def g181 : Fun := denFS ty (gam J0 [(141, g141), (221, g221), (259, g259), (267, g267)]) Tryz.f181
theorem g181_ok : FunOk Tryz.prog 181 g181 := fun_okS ty_ok mixed (gam_ok (J := J0) (tab_cons g141_ok (tab_cons g221_ok (tab_cons g259_ok (tab_cons g267_ok (tab_nil fls_fun)))))) Tryz.func181 (fun args w => by simp)
/-- stagepost/check.bound -/
noncomputable def g107 : Fun := denFS ty (gam J0 [(68, g68), (177, g177), (178, g178), (179, g179), (180, g180), (181, g181), (183, g183)]) Tryz.f107
theorem g107_ok : FunOk Tryz.prog 107 g107 := fun_okS ty_ok mixed (gam_ok (J := J0) (tab_cons g68_ok (tab_cons g177_ok (tab_cons g178_ok (tab_cons g179_ok (tab_cons g180_ok (tab_cons g181_ok (tab_cons g183_ok (tab_nil fls_fun))))))))) Tryz.func107 (fun args w => by simp)
/-- stagepost/check.Bind -/
noncomputable def g66 : Fun := denFS ty (gam J0 [(107, g107)]) Tryz.f66
theorem g66_ok : FunOk Tryz.prog 66 g66 := fun_okS ty_ok mixed (gam_ok (J := J0) (tab_cons g107_ok (tab_nil fls_fun))) Tryz.func66 (fun args w => by simp)
noncomputable def ring67 : Nat → List (Nat × Fun) := fun n => Nat.rec (motive := fun _ => List (Nat × Fun)) [] (fun _ r => [(67, denFS ty (gam J0 (r)) Tryz.f67)]) n
theorem ring67_ok : ∀ n, TabOk (FunOk Tryz.prog) (ring67 n)
  | 0 => tab_nil fls_fun
  | n + 1 => (tab_cons (fun_okS ty_ok mixed (gam_ok (J := J0) (ring67_ok n)) Tryz.func67 (fun args w => by simp)) (tab_nil fls_fun))
/-- stagepost/plan.Conjuncts -/
noncomputable def g67 : Fun := tab (ring67 24) 67
theorem g67_ok : FunOk Tryz.prog 67 g67 := ring67_ok 24 67
/-- stagepost/plan.access$1 -/
noncomputable def g110 : Fun := denFS ty (gam J0 []) Tryz.f110
theorem g110_ok : FunOk Tryz.prog 110 g110 := fun_okS ty_ok mixed (gam_ok (J := J0) (tab_nil fls_fun)) Tryz.func110 (fun args w => by simp)
/-- slices.Index[[]stagepost/api.Op,stagepost/api.Op] -/
noncomputable def g365 : Fun := denFS ty (gam J0 []) Tryz.f365
theorem g365_ok : FunOk Tryz.prog 365 g365 := fun_okS ty_ok mixed (gam_ok (J := J0) (tab_nil fls_fun)) Tryz.func365 (fun args w => by simp)
/-- slices.Contains[[]stagepost/api.Op,stagepost/api.Op] -/
noncomputable def g275 : Fun := denFS ty (gam J0 [(365, g365)]) Tryz.f275
theorem g275_ok : FunOk Tryz.prog 275 g275 := fun_okS ty_ok mixed (gam_ok (J := J0) (tab_cons g365_ok (tab_nil fls_fun))) Tryz.func275 (fun args w => by simp)
/-- stagepost/plan.first$1 -/
noncomputable def g274 : Fun := denFS ty (gam J0 [(275, g275)]) Tryz.f274
theorem g274_ok : FunOk Tryz.prog 274 g274 := fun_okS ty_ok mixed (gam_ok (J := J0) (tab_cons g275_ok (tab_nil fls_fun))) Tryz.func274 (fun args w => by simp)
/-- slices.IndexFunc[[]stagepost/plan.atom,stagepost/plan.atom] -/
noncomputable def g186 : Fun := denFS ty (gam J0 [(110, g110), (274, g274)]) Tryz.f186
theorem g186_ok : FunOk Tryz.prog 186 g186 := fun_okS ty_ok mixed (gam_ok (J := J0) (tab_cons g110_ok (tab_cons g274_ok (tab_nil fls_fun)))) Tryz.func186 (fun args w => by simp)
/-- slices.ContainsFunc[[]stagepost/plan.atom,stagepost/plan.atom] -/
noncomputable def g109 : Fun := denFS ty (gam J0 [(186, g186)]) Tryz.f109
theorem g109_ok : FunOk Tryz.prog 109 g109 := fun_okS ty_ok mixed (gam_ok (J := J0) (tab_cons g186_ok (tab_nil fls_fun))) Tryz.func109 (fun args w => by simp)
/-- stagepost/plan.first -/
noncomputable def g187 : Fun := denFS ty (gam J0 [(186, g186), (274, g274)]) Tryz.f187
theorem g187_ok : FunOk Tryz.prog 187 g187 := fun_okS ty_ok mixed (gam_ok (J := J0) (tab_cons g186_ok (tab_cons g274_ok (tab_nil fls_fun)))) Tryz.func187 (fun args w => by simp)
/-- stagepost/plan.along -/
noncomputable def g111 : Fun := denFS ty (gam J0 [(187, g187)]) Tryz.f111
theorem g111_ok : FunOk Tryz.prog 111 g111 := fun_okS ty_ok mixed (gam_ok (J := J0) (tab_cons g187_ok (tab_nil fls_fun))) Tryz.func111 (fun args w => by simp)
/-- (stagepost/plan.way).better -/
noncomputable def g112 : Fun := denFS ty (gam J0 []) Tryz.f112
theorem g112_ok : FunOk Tryz.prog 112 g112 := fun_okS ty_ok mixed (gam_ok (J := J0) (tab_nil fls_fun)) Tryz.func112 (fun args w => by simp)
/-- stagepost/enc.Check -/
noncomputable def g366 : Fun := denFS ty (gam J0 []) Tryz.f366
theorem g366_ok : FunOk Tryz.prog 366 g366 := fun_okS ty_ok mixed (gam_ok (J := J0) (tab_nil fls_fun)) Tryz.func366 (fun args w => by simp)
/-- stagepost/enc.fixed -/
noncomputable def s367G (J : Joins) (c242 : AV → Int → H → (AV → H → Prop) → Prop) (a0 : AV) (a1 : Int) (a2 : Int) (h : H) (k : H → Prop) : Prop :=
fI (wrapF .i64 (Int.sub a2 (Int.ofNat 1))) fun x1 =>
J.lp (α := AV × AV × AV × Unit) (fun r5 v2 d3 h4 =>
asI .i64 v2.2.2.1 fun x6 =>
fB (Bool.not (ltI x6 (Int.ofNat 0))) fun b7 =>
br b7 (
asI .i64 v2.2.2.1 fun x8 =>
fI (wrapF .i64 (Int.mul (Int.ofNat 8) x8)) fun x9 =>
asI .u64 v2.2.1 fun x10 =>
asNat (AV.int .i64 x9) fun n11 =>
fI (shrF x10 (nmin n11 (IntKind.bits .u64))) fun x12 =>
fI (wrapF .u8 x12) fun x13 =>
c242 v2.1 x13 h4 fun v15 h14 =>
asI .i64 v2.2.2.1 fun x16 =>
fI (wrapF .i64 (Int.sub x16 (Int.ofNat 1))) fun x17 =>
r5 (v2.1, v2.2.1, (AV.int .i64 x17), ()) d3 h14) (
leaveK (gam J [(242, w242 c242)]) d3 h4 fun h18 =>
k  h18)) (a0, (AV.int .u64 a1), (AV.int .i64 x1), ()) [] h
noncomputable def s367 : AV → Int → Int → H → (H → Prop) → Prop := s367G J0 s242
noncomputable def w367 (c : AV → Int → Int → H → (H → Prop) → Prop) : Fun := fun xs h k => arg xs fun a0 xs => arg xs fun a1 xs => arg xs fun a2 xs => noArg xs <| asI .u64 a1 fun a1 => asI .i64 a2 fun a2 => c a0 a1 a2 h fun  h => k (.tuple []) h
theorem s367_eq (J : Joins) (c242 : AV → Int → H → (AV → H → Prop) → Prop) (a0 : AV) (a1 : Int) (a2 : Int) (h : H) (k : AV → H → Prop) : denF ty (gam J [(242, w242 c242)]) Tryz.f367 [a0, (.int .u64 a1), (.int .i64 a2)] h k = s367G J c242 a0 a1 a2 h (fun  h => k (.tuple []) h) := by kernel_rfl
noncomputable def g367 : Fun := w367 s367
theorem g367_ok : FunOk Tryz.prog 367 g367 := (fun_ok ty_ok mixed (gam_ok (J := J0) (tab_cons g242_ok (tab_nil fls_fun))) Tryz.func367 (fun args w => by simp)).imp fun xs h k e0 => by
  obtain ⟨a0, xs0, rfl, e1⟩ := arg_imp e0
  obtain ⟨a1, xs1, rfl, e2⟩ := arg_imp e1
  obtain ⟨a2, xs2, rfl, e3⟩ := arg_imp e2
  obtain ⟨rfl, e4⟩ := noArg_imp e3
  obtain ⟨a1, rfl, e5⟩ := asI_iff.1 e4
  obtain ⟨a2, rfl, e6⟩ := asI_iff.1 e5
  exact (s367_eq J0 s242 a0 a1 a2 h k).mpr e6
/-- stagepost/enc.Tuple -/
noncomputable def s276G (J : Joins) (c241 : AV → Str → H → (Int → AV → H → Prop) → Prop) (c242 : AV → Int → H → (AV → H → Prop) → Prop) (c244 : AV → H → (Str → H → Prop) → Prop) (c366 : Fun) (c367 : AV → Int → Int → H → (H → Prop) → Prop) (a0 : AV) (h : H) (k : Str → Int → H → Prop) : Prop :=
lenK a0 fun x1 =>
fB (ltI (Int.ofNat 16) (Int.ofNat x1)) fun b2 =>
br b2 (
k ⟨0, 0⟩ (Int.ofNat 3) h) (
pushK (.cells false 395 [(.nilp), (.nils)]) h fun n3 h4 =>
lenK a0 fun x5 =>
J.lp (α := AV × AV × AV × AV × Unit) (fun r9 v6 d7 h8 =>
asI .i64 v6.2.2.2.1 fun x10 =>
asI .i64 v6.2.2.1 fun x11 =>
fB (ltI x10 x11) fun b12 =>
br b12 (
J.jd (α := AV × AV × AV × AV × Unit) (fun v13 d14 h15 =>
asI .i64 v13.2.2.2.1 fun x17 =>
fI (wrapF .i64 (Int.add x17 (Int.ofNat 1))) fun x18 =>
r9 (v13.1, v13.2.1, v13.2.2.1, (AV.int .i64 x18), ()) d14 h15) fun j16 =>
ixK 3 v6.2.1 v6.2.2.2.1 fun p19 =>
ldN 3 p19 h8 fun l20 =>
pushK (.cells false 82 [(.int .u8 0), (.int .i64 0), (.str ⟨0, 0⟩)]) h8 fun n21 h22 =>
stN 3 (AV.ptr n21 0) l20 h22 fun h23 =>
ldN 3 (AV.ptr n21 0) h23 fun l24 =>
c366 [(AV.agg l24)] h23 fun v25 h26 =>
asI .i64 v25 fun x27 =>
fB (Bool.not (eqI x27 (Int.ofNat 0))) fun b28 =>
br b28 (
leaveK (gam J [(241, w241 c241), (242, w242 c242), (244, w244 c244), (366, c366), (367, w367 c367)]) d7 h26 fun h29 =>
k ⟨0, 0⟩ x27 h29) (
ldI .u8 (AV.ptr n21 0) h26 fun x30 =>
fI (wrapF .u8 (Int.add x30 (Int.ofNat 1))) fun x31 =>
c242 v6.1 x31 h26 fun v33 h32 =>
ldI .u8 (AV.ptr n21 0) h32 fun x34 =>
fB (eqI x34 (Int.ofNat 1)) fun b35 =>
br b35 (
ldI .i64 (AV.ptr n21 1) h32 fun x36 =>
fI (wrapF .u8 x36) fun x37 =>
c242 v6.1 x37 h32 fun v39 h38 =>
j16 (v6.1, v6.2.1, v6.2.2.1, v6.2.2.2.1, ()) d7 h38) (
fB (eqI x34 (Int.ofNat 2)) fun b40 =>
br b40 (
ldI .i64 (AV.ptr n21 1) h32 fun x41 =>
fI (wrapF .u64 x41) fun x42 =>
fI (lxorF .u64 x42 (Int.ofNat 9223372036854775808)) fun x43 =>
c367 v6.1 x43 (Int.ofNat 8) h32 fun  h44 =>
j16 (v6.1, v6.2.1, v6.2.2.1, v6.2.2.2.1, ()) d7 h44) (
fB (eqI x34 (Int.ofNat 3)) fun b45 =>
br b45 (
ldS (AV.ptr n21 2) h32 fun s46 =>
False) (
j16 (v6.1, v6.2.1, v6.2.2.1, v6.2.2.2.1, ()) d7 h32))))) (
c244 v6.1 h8 fun s48 h47 =>
leaveK (gam J [(241, w241 c241), (242, w242 c242), (244, w244 c244), (366, c366), (367, w367 c367)]) d7 h47 fun h49 =>
k s48 (Int.ofNat 0) h49)) ((AV.ptr n3 0), a0, (AV.int .i64 (Int.ofNat x5)), (AV.int .i64 (Int.ofNat 0)), ()) [] h4)
noncomputable def s276 : AV → H → (Str → Int → H → Prop) → Prop := s276G J0 s241 s242 s244 g366 s367
noncomputable def w276 (c : AV → H → (Str → Int → H → Prop) → Prop) : Fun := fun xs h k => arg xs fun a0 xs => noArg xs <| c a0 h fun r0 r1 h => k (.tuple [(.str r0), (.int .i64 r1)]) h
theorem s276_eq (J : Joins) (c241 : AV → Str → H → (Int → AV → H → Prop) → Prop) (c242 : AV → Int → H → (AV → H → Prop) → Prop) (c244 : AV → H → (Str → H → Prop) → Prop) (c366 : Fun) (c367 : AV → Int → Int → H → (H → Prop) → Prop) (a0 : AV) (h : H) (k : AV → H → Prop) : denF ty (gam J [(241, w241 c241), (242, w242 c242), (244, w244 c244), (366, c366), (367, w367 c367)]) Tryz.f276 [a0] h k = s276G J c241 c242 c244 c366 c367 a0 h (fun r0 r1 h => k (.tuple [(.str r0), (.int .i64 r1)]) h) := by kernel_rfl
noncomputable def g276 : Fun := w276 s276
theorem g276_ok : FunOk Tryz.prog 276 g276 := (fun_ok ty_ok mixed (gam_ok (J := J0) (tab_cons g241_ok (tab_cons g242_ok (tab_cons g244_ok (tab_cons g366_ok (tab_cons g367_ok (tab_nil fls_fun))))))) Tryz.func276 (fun args w => by simp)).imp fun xs h k e0 => by
  obtain ⟨a0, xs0, rfl, e1⟩ := arg_imp e0
  obtain ⟨rfl, e2⟩ := noArg_imp e1
  exact (s276_eq J0 s241 s242 s244 g366 s367 a0 h k).mpr e2
/-- stagepost/plan.text -/
noncomputable def g188 : Fun := denFS ty (gam J0 [(276, g276)]) Tryz.f188
theorem g188_ok : FunOk Tryz.prog 188 g188 := fun_okS ty_ok mixed (gam_ok (J := J0) (tab_cons g276_ok (tab_nil fls_fun))) Tryz.func188 (fun args w => by simp)
/-- stagepost/enc.After -/
noncomputable def g189 : Fun := denFS ty (gam J0 []) Tryz.f189
theorem g189_ok : FunOk Tryz.prog 189 g189 := fun_okS ty_ok mixed (gam_ok (J := J0) (tab_nil fls_fun)) Tryz.func189 (fun args w => by simp)
/-- slices.Clone[[]stagepost/api.Value,stagepost/api.Value] -/
noncomputable def g191 : Fun := denFS ty (gam J0 []) Tryz.f191
theorem g191_ok : FunOk Tryz.prog 191 g191 := fun_okS ty_ok mixed (gam_ok (J := J0) (tab_nil fls_fun)) Tryz.func191 (fun args w => by simp)
/-- stagepost/plan.span$1 -/
noncomputable def g190 : Fun := denFS ty (gam J0 [(188, g188), (191, g191)]) Tryz.f190
theorem g190_ok : FunOk Tryz.prog 190 g190 := fun_okS ty_ok mixed (gam_ok (J := J0) (tab_cons g188_ok (tab_cons g191_ok (tab_nil fls_fun)))) Tryz.func190 (fun args w => by simp)
/-- stagepost/catalog.entry$1 -/
noncomputable def g482 : Fun := denFS ty (gam J0 []) Tryz.f482
theorem g482_ok : FunOk Tryz.prog 482 g482 := fun_okS ty_ok mixed (gam_ok (J := J0) (tab_nil fls_fun)) Tryz.func482 (fun args w => by simp)
/-- stagepost/plan.span -/
noncomputable def g113 : Fun := denFS ty (gam J0 [(187, g187), (188, g188), (189, g189), (190, g190), (482, g482)]) Tryz.f113
theorem g113_ok : FunOk Tryz.prog 113 g113 := fun_okS ty_ok mixed (gam_ok (J := J0) (tab_cons g187_ok (tab_cons g188_ok (tab_cons g189_ok (tab_cons g190_ok (tab_cons g482_ok (tab_nil fls_fun))))))) Tryz.func113 (fun args w => by simp)
end Go.Proofs.YtgpndbkghmbacaaGreatDoor
