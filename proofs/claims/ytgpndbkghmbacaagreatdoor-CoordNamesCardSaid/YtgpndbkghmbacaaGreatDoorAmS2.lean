/- Functions as they are reckoned. MADE BY PROGRAM (wip/tools/shal.py). -/
import Derived.Test.YtgpndbkghmbacaaGreatDoorAmH158
namespace Go.Proofs.YtgpndbkghmbacaaGreatDoor
open Go Go.Am
set_option maxRecDepth 100000
set_option linter.all false
/-- internal/stringslite.HasPrefix -/
noncomputable def s246G (J : Joins) (a0 : Str) (a1 : Str) (h : H) (k : Bool → H → Prop) : Prop :=
fB (Bool.not (ltI (Int.ofNat a0.len) (Int.ofNat a1.len))) fun b1 =>
J.jn (fun v2 h3 =>
J.jn (fun v5 h6 =>
J.jn (fun v8 h9 =>
J.jn (fun v12 h13 =>
J.jn (fun v16 h17 =>
J.jn (fun v19 h20 =>
pickB (AV.bool b1) v19 (AV.bool false) fun b25 =>
k b25 h20) fun j21 =>
br b1 (
asS v12 fun s22 =>
asS v16 fun s23 =>
fB (Str.beq s22 s23) fun b24 =>
j21 (AV.bool b24) h17) (
j21 skipV h17)) fun j18 =>
br b1 (
j18 (AV.str a1) h13) (
j18 skipV h13)) fun j14 =>
br b1 (
subK v2 none (some v8) fun s15 =>
j14 (AV.str s15) h9) (
j14 skipV h9)) fun j10 =>
br b1 (
asS v5 fun s11 =>
j10 (AV.int .i64 (Int.ofNat s11.len)) h6) (
j10 skipV h6)) fun j7 =>
br b1 (
j7 (AV.str a1) h3) (
j7 skipV h3)) fun j4 =>
br b1 (
j4 (AV.str a0) h) (
j4 skipV h)
noncomputable def s246 : Str → Str → H → (Bool → H → Prop) → Prop := s246G J0 
noncomputable def w246 (c : Str → Str → H → (Bool → H → Prop) → Prop) : Fun := fun xs h k => arg xs fun a0 xs => arg xs fun a1 xs => noArg xs <| asS a0 fun a0 => asS a1 fun a1 => c a0 a1 h fun r0 h => k (.bool r0) h
theorem s246_eq (J : Joins) (a0 : Str) (a1 : Str) (h : H) (k : AV → H → Prop) : denF ty (gam J []) Tryz.f246 [(.str a0), (.str a1)] h k = s246G J  a0 a1 h (fun r0 h => k (.bool r0) h) := by kernel_rfl
noncomputable def g246 : Fun := w246 s246
theorem g246_ok : FunOk Tryz.prog 246 g246 := (fun_ok ty_ok mixed (gam_ok (J := J0) (tab_nil fls_fun)) Tryz.func246 (fun args w => by simp)).imp fun xs h k e0 => by
  obtain ⟨a0, xs0, rfl, e1⟩ := arg_imp e0
  obtain ⟨a1, xs1, rfl, e2⟩ := arg_imp e1
  obtain ⟨rfl, e3⟩ := noArg_imp e2
  obtain ⟨a0, rfl, e4⟩ := asS_iff.1 e3
  obtain ⟨a1, rfl, e5⟩ := asS_iff.1 e4
  exact (s246_eq J0  a0 a1 h k).mpr e5
/-- strings.HasPrefix -/
noncomputable def s159G (J : Joins) (c246 : Str → Str → H → (Bool → H → Prop) → Prop) (a0 : Str) (a1 : Str) (h : H) (k : Bool → H → Prop) : Prop :=
c246 a0 a1 h fun b2 h1 =>
k b2 h1
noncomputable def s159 : Str → Str → H → (Bool → H → Prop) → Prop := s159G J0 s246
noncomputable def w159 (c : Str → Str → H → (Bool → H → Prop) → Prop) : Fun := fun xs h k => arg xs fun a0 xs => arg xs fun a1 xs => noArg xs <| asS a0 fun a0 => asS a1 fun a1 => c a0 a1 h fun r0 h => k (.bool r0) h
theorem s159_eq (J : Joins) (c246 : Str → Str → H → (Bool → H → Prop) → Prop) (a0 : Str) (a1 : Str) (h : H) (k : AV → H → Prop) : denF ty (gam J [(246, w246 c246)]) Tryz.f159 [(.str a0), (.str a1)] h k = s159G J c246 a0 a1 h (fun r0 h => k (.bool r0) h) := by kernel_rfl
noncomputable def g159 : Fun := w159 s159
theorem g159_ok : FunOk Tryz.prog 159 g159 := (fun_ok ty_ok mixed (gam_ok (J := J0) (tab_cons g246_ok (tab_nil fls_fun))) Tryz.func159 (fun args w => by simp)).imp fun xs h k e0 => by
  obtain ⟨a0, xs0, rfl, e1⟩ := arg_imp e0
  obtain ⟨a1, xs1, rfl, e2⟩ := arg_imp e1
  obtain ⟨rfl, e3⟩ := noArg_imp e2
  obtain ⟨a0, rfl, e4⟩ := asS_iff.1 e3
  obtain ⟨a1, rfl, e5⟩ := asS_iff.1 e4
  exact (s159_eq J0 s246 a0 a1 h k).mpr e5
/-- stagepost/lexer.one -/
noncomputable def s97G (J : Joins) (c153 : Int → H → (Bool → H → Prop) → Prop) (c154 : Str → H → (AV → Int → Int → H → Prop) → Prop) (c155 : Int → H → (Bool → H → Prop) → Prop) (c156 : Fun) (c158 : Fun) (c159 : Str → Str → H → (Bool → H → Prop) → Prop) (a0 : Str) (h : H) (k : AV → Int → Int → H → Prop) : Prop :=
pushK (.cells false 222 [(.int .u8 0), (.str ⟨0, 0⟩), (.int .u64 0), (.int .i64 0)]) h fun n1 h2 =>
ixsK (AV.str a0) (AV.int .i64 (Int.ofNat 0)) fun x3 =>
c153 x3 h2 fun b5 h4 =>
br b5 (
c154 a0 h4 fun v7 x8 x9 h6 =>
Go.Am.asAgg v7 fun l11 =>
stN 4 (AV.ptr n1 0) l11 h6 fun h10 =>
ldN 4 (AV.ptr n1 0) h10 fun l12 =>
k (AV.agg l12) x8 x9 h10) (
c155 x3 h4 fun b14 h13 =>
br b14 (
c156 [(AV.str a0)] h13 fun v15 h16 =>
asTup v15 fun l17 =>
op' (lgetO l17 0) fun v18 =>
asTup v15 fun l19 =>
op' (lgetO l19 1) fun v20 =>
asI .i64 v20 fun x21 =>
asTup v15 fun l22 =>
op' (lgetO l22 2) fun v23 =>
asI .i64 v23 fun x24 =>
Go.Am.asAgg v18 fun l26 =>
stN 4 (AV.ptr n1 0) l26 h16 fun h25 =>
ldN 4 (AV.ptr n1 0) h25 fun l27 =>
k (AV.agg l27) x21 x24 h25) (
fB (eqI x3 (Int.ofNat 39)) fun b28 =>
br b28 (
False) (
c158 [] h13 fun v29 h30 =>
lenK v29 fun x31 =>
J.lp (α := AV × AV × AV × AV × AV × Unit) (fun r35 v32 d33 h34 =>
asI .i64 v32.2.2.2.2.1 fun x36 =>
asI .i64 v32.2.2.2.1 fun x37 =>
fB (ltI x36 x37) fun b38 =>
br b38 (
ixK 1 v32.2.2.1 v32.2.2.2.2.1 fun p39 =>
ldS p39 h34 fun s40 =>
asS v32.1 fun s42 =>
c159 s42 s40 h34 fun b43 h41 =>
br b43 (
stN 4 v32.2.1 [(AV.int .u8 (Int.ofNat 4)), (AV.str s40), (.int .u64 0), (.int .i64 0)] h41 fun h44 =>
leaveK (gam J [(153, w153 c153), (154, w154 c154), (155, w155 c155), (156, c156), (158, c158), (159, w159 c159)]) d33 h44 fun h45 =>
ldN 4 v32.2.1 h45 fun l46 =>
k (AV.agg l46) (Int.ofNat s40.len) (Int.ofNat 0) h45) (
asI .i64 v32.2.2.2.2.1 fun x47 =>
fI (wrapF .i64 (Int.add x47 (Int.ofNat 1))) fun x48 =>
r35 (v32.1, v32.2.1, v32.2.2.1, v32.2.2.2.1, (AV.int .i64 x48), ()) d33 h41)) (
stN 4 v32.2.1 [(.int .u8 0), (.str ⟨0, 0⟩), (.int .u64 0), (.int .i64 0)] h34 fun h49 =>
leaveK (gam J [(153, w153 c153), (154, w154 c154), (155, w155 c155), (156, c156), (158, c158), (159, w159 c159)]) d33 h49 fun h50 =>
ldN 4 v32.2.1 h50 fun l51 =>
k (AV.agg l51) (Int.ofNat 0) (Int.ofNat 230) h50)) ((AV.str a0), (AV.ptr n1 0), v29, (AV.int .i64 (Int.ofNat x31)), (AV.int .i64 (Int.ofNat 0)), ()) [] h30)))
noncomputable def s97 : Str → H → (AV → Int → Int → H → Prop) → Prop := s97G J0 s153 s154 s155 g156 g158' s159
noncomputable def w97 (c : Str → H → (AV → Int → Int → H → Prop) → Prop) : Fun := fun xs h k => arg xs fun a0 xs => noArg xs <| asS a0 fun a0 => c a0 h fun r0 r1 r2 h => k (.tuple [r0, (.int .i64 r1), (.int .i64 r2)]) h
theorem s97_eq (J : Joins) (c153 : Int → H → (Bool → H → Prop) → Prop) (c154 : Str → H → (AV → Int → Int → H → Prop) → Prop) (c155 : Int → H → (Bool → H → Prop) → Prop) (c156 : Fun) (c158 : Fun) (c159 : Str → Str → H → (Bool → H → Prop) → Prop) (a0 : Str) (h : H) (k : AV → H → Prop) : denF ty (gam J [(153, w153 c153), (154, w154 c154), (155, w155 c155), (156, c156), (158, c158), (159, w159 c159)]) Tryz.f97 [(.str a0)] h k = s97G J c153 c154 c155 c156 c158 c159 a0 h (fun r0 r1 r2 h => k (.tuple [r0, (.int .i64 r1), (.int .i64 r2)]) h) := by kernel_rfl
noncomputable def g97 : Fun := w97 s97
theorem g97_ok : FunOk Tryz.prog 97 g97 := (fun_ok ty_ok mixed (gam_ok (J := J0) (tab_cons g153_ok (tab_cons g154_ok (tab_cons g155_ok (tab_cons g156_ok (tab_cons g158'_ok (tab_cons g159_ok (tab_nil fls_fun)))))))) Tryz.func97 (fun args w => by simp)).imp fun xs h k e0 => by
  obtain ⟨a0, xs0, rfl, e1⟩ := arg_imp e0
  obtain ⟨rfl, e2⟩ := noArg_imp e1
  obtain ⟨a0, rfl, e3⟩ := asS_iff.1 e2
  exact (s97_eq J0 s153 s154 s155 g156 g158' s159 a0 h k).mpr e3
/-- stagepost/lexer.Lex -/
noncomputable def s59G (J : Joins) (c96 : Str → Int → H → (Int → H → Prop) → Prop) (c97 : Str → H → (AV → Int → Int → H → Prop) → Prop) (a0 : Str) (h : H) (k : AV → AV → H → Prop) : Prop :=
pushK (.cells false 108 [(.int .i64 0), (.int .i64 0)]) h fun n1 h2 =>
fB (ltI (Int.ofNat 65536) (Int.ofNat a0.len)) fun b3 =>
br b3 (
stN 2 (AV.ptr n1 0) [(AV.int .i64 (Int.ofNat 3)), (AV.int .i64 (Int.negSucc 0))] h2 fun h4 =>
ldN 2 (AV.ptr n1 0) h4 fun l5 =>
k AV.nils (AV.agg l5) h4) (
J.lp (α := AV × AV × AV × AV × Unit) (fun r9 v6 d7 h8 =>
asS v6.1 fun s10 =>
asI .i64 v6.2.2.2.1 fun x11 =>
fB (ltI x11 (Int.ofNat s10.len)) fun b12 =>
br b12 (
ixsK v6.1 v6.2.2.2.1 fun x13 =>
c96 ⟨4, 151653664⟩ x13 h8 fun x15 h14 =>
fB (Bool.not (ltI x15 (Int.ofNat 0))) fun b16 =>
br b16 (
asI .i64 v6.2.2.2.1 fun x17 =>
fI (wrapF .i64 (Int.add x17 (Int.ofNat 1))) fun x18 =>
r9 (v6.1, v6.2.1, v6.2.2.1, (AV.int .i64 x18), ()) d7 h14) (
subK v6.1 (some v6.2.2.2.1) none fun s19 =>
c97 s19 h14 fun v21 x22 x23 h20 =>
pushK (.cells false 222 [(.int .u8 0), (.str ⟨0, 0⟩), (.int .u64 0), (.int .i64 0)]) h20 fun n24 h25 =>
Go.Am.asAgg v21 fun l27 =>
stN 4 (AV.ptr n24 0) l27 h25 fun h26 =>
fB (Bool.not (eqI x23 (Int.ofNat 0))) fun b28 =>
br b28 (
asI .i64 v6.2.2.2.1 fun x29 =>
stN 2 v6.2.1 [(AV.int .i64 x23), (AV.int .i64 x29)] h26 fun h30 =>
leaveK (gam J [(96, w96 c96), (97, w97 c97)]) d7 h30 fun h31 =>
ldN 2 v6.2.1 h31 fun l32 =>
k AV.nils (AV.agg l32) h31) (
stV (AV.ptr n24 3) v6.2.2.2.1 h26 fun h33 =>
ldN 4 (AV.ptr n24 0) h33 fun l34 =>
ck (Nat.beq (List.length l34) 4) (op' (lputAt 0 l34 [(.int .u8 0), (.str ⟨0, 0⟩), (.int .u64 0), (.int .i64 0)]) fun l37 =>
pushK (.cells false 222 l37) h33 fun n35 h36 =>
apC 222 4 40 v6.2.2.1 (AV.slice n35 0 1 1 4 true) h36 fun v38 h39 =>
asI .i64 v6.2.2.2.1 fun x40 =>
fI (wrapF .i64 (Int.add x40 x22)) fun x41 =>
r9 (v6.1, v6.2.1, v38, (AV.int .i64 x41), ()) d7 h39)))) (
stN 2 v6.2.1 [(.int .i64 0), (.int .i64 0)] h8 fun h42 =>
leaveK (gam J [(96, w96 c96), (97, w97 c97)]) d7 h42 fun h43 =>
ldN 2 v6.2.1 h43 fun l44 =>
k v6.2.2.1 (AV.agg l44) h43)) ((AV.str a0), (AV.ptr n1 0), AV.nils, (AV.int .i64 (Int.ofNat 0)), ()) [] h2)
noncomputable def s59 : Str → H → (AV → AV → H → Prop) → Prop := s59G J0 s96 s97
noncomputable def w59 (c : Str → H → (AV → AV → H → Prop) → Prop) : Fun := fun xs h k => arg xs fun a0 xs => noArg xs <| asS a0 fun a0 => c a0 h fun r0 r1 h => k (.tuple [r0, r1]) h
theorem s59_eq (J : Joins) (c96 : Str → Int → H → (Int → H → Prop) → Prop) (c97 : Str → H → (AV → Int → Int → H → Prop) → Prop) (a0 : Str) (h : H) (k : AV → H → Prop) : denF ty (gam J [(96, w96 c96), (97, w97 c97)]) Tryz.f59 [(.str a0)] h k = s59G J c96 c97 a0 h (fun r0 r1 h => k (.tuple [r0, r1]) h) := by kernel_rfl
noncomputable def g59 : Fun := w59 s59
theorem g59_ok : FunOk Tryz.prog 59 g59 := (fun_ok ty_ok mixed (gam_ok (J := J0) (tab_cons g96_ok (tab_cons g97_ok (tab_nil fls_fun)))) Tryz.func59 (fun args w => by simp)).imp fun xs h k e0 => by
  obtain ⟨a0, xs0, rfl, e1⟩ := arg_imp e0
  obtain ⟨rfl, e2⟩ := noArg_imp e1
  obtain ⟨a0, rfl, e3⟩ := asS_iff.1 e2
  exact (s59_eq J0 s96 s97 a0 h k).mpr e3
/-- stagepost/parser.catch -/
noncomputable def g61 : Fun := denFS ty (gam J0 []) Tryz.f61
theorem g61_ok : FunOk Tryz.prog 61 g61 := fun_okS ty_ok mixed (gam_ok (J := J0) (tab_nil fls_fun)) Tryz.func61 (fun args w => by simp)
end Go.Proofs.YtgpndbkghmbacaaGreatDoor
