/- Functions as they are reckoned. MADE BY PROGRAM (wip/tools/shal.py). -/
import Derived.Test.YtgpndbkghmbacaaGreatDoorAmH315
namespace Go.Proofs.YtgpndbkghmbacaaGreatDoor
open Go Go.Am
set_option maxRecDepth 100000
set_option linter.all false
/-- unicode.lookupCaseRange -/
noncomputable def g492 : Fun := denFS ty (gam J0 []) Tryz.f492
theorem g492_ok : FunOk Tryz.prog 492 g492 := fun_okS ty_ok mixed (gam_ok (J := J0) (tab_nil fls_fun)) Tryz.func492 (fun args w => by simp)
/-- unicode.convertCase -/
noncomputable def g493 : Fun := denFS ty (gam J0 []) Tryz.f493
theorem g493_ok : FunOk Tryz.prog 493 g493 := fun_okS ty_ok mixed (gam_ok (J := J0) (tab_nil fls_fun)) Tryz.func493 (fun args w => by simp)
/-- unicode.to -/
noncomputable def g460 : Fun := denFS ty (gam J0 [(492, g492), (493, g493)]) Tryz.f460
theorem g460_ok : FunOk Tryz.prog 460 g460 := fun_okS ty_ok mixed (gam_ok (J := J0) (tab_cons g492_ok (tab_cons g493_ok (tab_nil fls_fun)))) Tryz.func460 (fun args w => by simp)
/-- unicode.To -/
noncomputable def g398 : Fun := denFS ty (gam J0 [(460, g460)]) Tryz.f398
theorem g398_ok : FunOk Tryz.prog 398 g398 := fun_okS ty_ok mixed (gam_ok (J := J0) (tab_cons g460_ok (tab_nil fls_fun))) Tryz.func398 (fun args w => by simp)
/-- unicode.ToLower -/
noncomputable def g317 : Fun := denFS ty (gam J0 [(398, g398)]) Tryz.f317
theorem g317_ok : FunOk Tryz.prog 317 g317 := fun_okS ty_ok mixed (gam_ok (J := J0) (tab_cons g398_ok (tab_nil fls_fun))) Tryz.func317 (fun args w => by simp)
/-- strings.ToLower -/
noncomputable def s238G (J : Joins) (c241 : AV → Str → H → (Int → AV → H → Prop) → Prop) (c242 : AV → Int → H → (AV → H → Prop) → Prop) (c244 : AV → H → (Str → H → Prop) → Prop) (c315 : Fun) (c317 : Fun) (a0 : Str) (h : H) (k : Str → H → Prop) : Prop :=
J.jd (α := AV × AV × AV × Unit) (fun v1 d2 h3 =>
asB v1.2.1 fun b5 =>
br b5 (
asB v1.2.2.1 fun b6 =>
fB (Bool.not b6) fun b7 =>
br b7 (
leaveK (gam J [(241, w241 c241), (242, w242 c242), (244, w244 c244), (315, c315), (317, c317)]) d2 h3 fun h8 =>
asS v1.1 fun s9 =>
k s9 h8) (
pushK (.cells false 395 [(.nilp), (.nils)]) h3 fun n10 h11 =>
asS v1.1 fun s12 =>
c315 [(AV.ptr n10 0), (AV.int .i64 (Int.ofNat s12.len))] h11 fun v13 h14 =>
J.lp (α := AV × AV × AV × AV × Unit) (fun r18 v15 d16 h17 =>
asS v15.1 fun s19 =>
asI .i64 v15.2.2.2.1 fun x20 =>
fB (ltI x20 (Int.ofNat s19.len)) fun b21 =>
br b21 (
J.jd (α := AV × AV × AV × AV × Unit) (fun v22 d23 h24 =>
asI .i64 v22.2.2.2.1 fun x26 =>
fI (wrapF .i64 (Int.add x26 (Int.ofNat 1))) fun x27 =>
r18 (v22.1, v22.2.1, v22.2.2.1, (AV.int .i64 x27), ()) d23 h24) fun j25 =>
ixsK v15.1 v15.2.2.2.1 fun x28 =>
fB (Bool.not (ltI x28 (Int.ofNat 65))) fun b29 =>
J.jn (fun v30 h31 =>
J.jn (fun v33 h34 =>
pickB (AV.bool b29) v33 (AV.bool false) fun b38 =>
br b38 (
fI (wrapF .u8 (Int.add x28 (Int.ofNat 32))) fun x39 =>
J.jd (α := AV × AV × AV × AV × Unit) (fun v40 d41 h42 =>
asI .u8 v40.2.2.2.1 fun x45 =>
c242 v40.2.1 x45 h42 fun v46 h44 =>
asI .i64 v40.2.2.1 fun x47 =>
fI (wrapF .i64 (Int.add x47 (Int.ofNat 1))) fun x48 =>
j25 (v40.1, v40.2.1, (AV.int .i64 x48), v40.2.2.1, ()) d41 h44) fun j43 =>
asI .i64 v15.2.2.1 fun x49 =>
asI .i64 v15.2.2.2.1 fun x50 =>
fB (ltI x49 x50) fun b51 =>
br b51 (
subK v15.1 (some v15.2.2.1) (some v15.2.2.2.1) fun s52 =>
c241 v15.2.1 s52 h34 fun x54 v55 h53 =>
j43 (v15.1, v15.2.1, v15.2.2.2.1, (AV.int .u8 x39), ()) d16 h53) (
j43 (v15.1, v15.2.1, v15.2.2.2.1, (AV.int .u8 x39), ()) d16 h34)) (
j25 (v15.1, v15.2.1, v15.2.2.1, v15.2.2.2.1, ()) d16 h34)) fun j35 =>
br b29 (
asI .u8 v30 fun x36 =>
fB (Bool.not (ltI (Int.ofNat 90) x36)) fun b37 =>
j35 (AV.bool b37) h31) (
j35 skipV h31)) fun j32 =>
br b29 (
j32 (AV.int .u8 x28) h17) (
j32 skipV h17)) (
J.jd (α := AV × Unit) (fun v56 d57 h58 =>
c244 v56.1 h58 fun s61 h60 =>
leaveK (gam J [(241, w241 c241), (242, w242 c242), (244, w244 c244), (315, c315), (317, c317)]) d57 h60 fun h62 =>
k s61 h62) fun j59 =>
asS v15.1 fun s63 =>
asI .i64 v15.2.2.1 fun x64 =>
fB (ltI x64 (Int.ofNat s63.len)) fun b65 =>
br b65 (
subK v15.1 (some v15.2.2.1) none fun s66 =>
c241 v15.2.1 s66 h17 fun x68 v69 h67 =>
j59 (v15.2.1, ()) d16 h67) (
j59 (v15.2.1, ()) d16 h17))) (v1.1, (AV.ptr n10 0), (AV.int .i64 (Int.ofNat 0)), (AV.int .i64 (Int.ofNat 0)), ()) d2 h14)) (
False)) fun j4 =>
J.lp (α := AV × AV × AV × AV × Unit) (fun r73 v70 d71 h72 =>
asS v70.1 fun s74 =>
asI .i64 v70.2.2.2.1 fun x75 =>
fB (ltI x75 (Int.ofNat s74.len)) fun b76 =>
br b76 (
ixsK v70.1 v70.2.2.2.1 fun x77 =>
fB (Bool.not (ltI x77 (Int.ofNat 128))) fun b78 =>
br b78 (
j4 (v70.1, (AV.bool false), v70.2.2.1, ()) d71 h72) (
J.jn (fun v79 h80 =>
J.jn (fun v82 h83 =>
J.jn (fun v87 h88 =>
J.jn (fun v90 h91 =>
J.jn (fun v93 h94 =>
J.jn (fun v98 h99 =>
pickB v70.2.2.1 (AV.bool true) v98 fun b102 =>
asI .i64 v70.2.2.2.1 fun x103 =>
fI (wrapF .i64 (Int.add x103 (Int.ofNat 1))) fun x104 =>
r73 (v70.1, v70.2.1, (AV.bool b102), (AV.int .i64 x104), ()) d71 h99) fun j100 =>
asBU v70.2.2.1 (fun b105 =>
br b105 (
j100 skipV h94) (
pickB v87 v93 (AV.bool false) fun b101 =>
j100 (AV.bool b101) h94)) (
j100 skipV h94)) fun j95 =>
asBU v87 (fun b106 =>
br b106 (
asI .u8 v90 fun x96 =>
fB (Bool.not (ltI (Int.ofNat 90) x96)) fun b97 =>
j95 (AV.bool b97) h91) (
j95 skipV h91)) (
j95 skipV h91)) fun j92 =>
asBU v87 (fun b107 =>
br b107 (
j92 (AV.int .u8 x77) h88) (
j92 skipV h88)) (
j92 skipV h88)) fun j89 =>
asBU v70.2.2.1 (fun b108 =>
br b108 (
j89 skipV h83) (
j89 v82 h83)) (
j89 skipV h83)) fun j84 =>
asBU v70.2.2.1 (fun b109 =>
br b109 (
j84 skipV h80) (
asI .u8 v79 fun x85 =>
fB (Bool.not (ltI x85 (Int.ofNat 65))) fun b86 =>
j84 (AV.bool b86) h80)) (
j84 skipV h80)) fun j81 =>
asBU v70.2.2.1 (fun b110 =>
br b110 (
j81 skipV h72) (
j81 (AV.int .u8 x77) h72)) (
j81 skipV h72))) (
j4 (v70.1, v70.2.1, v70.2.2.1, ()) d71 h72)) ((AV.str a0), (AV.bool true), (AV.bool false), (AV.int .i64 (Int.ofNat 0)), ()) [] h
noncomputable def s238 : Str → H → (Str → H → Prop) → Prop := s238G J0 s241 s242 s244 g315' g317
noncomputable def w238 (c : Str → H → (Str → H → Prop) → Prop) : Fun := fun xs h k => arg xs fun a0 xs => noArg xs <| asS a0 fun a0 => c a0 h fun r0 h => k (.str r0) h
theorem s238_eq (J : Joins) (c241 : AV → Str → H → (Int → AV → H → Prop) → Prop) (c242 : AV → Int → H → (AV → H → Prop) → Prop) (c244 : AV → H → (Str → H → Prop) → Prop) (c315 : Fun) (c317 : Fun) (a0 : Str) (h : H) (k : AV → H → Prop) : denF ty (gam J [(241, w241 c241), (242, w242 c242), (244, w244 c244), (315, c315), (317, c317)]) Tryz.f238 [(.str a0)] h k = s238G J c241 c242 c244 c315 c317 a0 h (fun r0 h => k (.str r0) h) := by kernel_rfl
noncomputable def g238 : Fun := w238 s238
theorem g238_ok : FunOk Tryz.prog 238 g238 := (fun_ok ty_ok mixed (gam_ok (J := J0) (tab_cons g241_ok (tab_cons g242_ok (tab_cons g244_ok (tab_cons g315'_ok (tab_cons g317_ok (tab_nil fls_fun))))))) Tryz.func238 (fun args w => by simp)).imp fun xs h k e0 => by
  obtain ⟨a0, xs0, rfl, e1⟩ := arg_imp e0
  obtain ⟨rfl, e2⟩ := noArg_imp e1
  obtain ⟨a0, rfl, e3⟩ := asS_iff.1 e2
  exact (s238_eq J0 s241 s242 s244 g315' g317 a0 h k).mpr e3
/-- stagepost/lexer.word -/
noncomputable def s154G (J : Joins) (c153 : Int → H → (Bool → H → Prop) → Prop) (c155 : Int → H → (Bool → H → Prop) → Prop) (c238 : Str → H → (Str → H → Prop) → Prop) (a0 : Str) (h : H) (k : AV → Int → Int → H → Prop) : Prop :=
pushK (.cells false 222 [(.int .u8 0), (.str ⟨0, 0⟩), (.int .u64 0), (.int .i64 0)]) h fun n1 h2 =>
J.lp (α := AV × AV × AV × Unit) (fun r6 v3 d4 h5 =>
asS v3.1 fun s7 =>
asI .i64 v3.2.2.1 fun x8 =>
fB (ltI x8 (Int.ofNat s7.len)) fun b9 =>
J.jn (fun v10 h11 =>
J.jn (fun v13 h14 =>
J.jn (fun v16 h17 =>
J.jn (fun v20 h21 =>
J.jn (fun v26 h27 =>
J.jn (fun v29 h30 =>
J.jn (fun v32 h33 =>
J.jn (fun v35 h36 =>
J.jn (fun v39 h40 =>
J.jn (fun v45 h46 =>
pickB (AV.bool b9) v45 (AV.bool false) fun b49 =>
br b49 (
asI .i64 v3.2.2.1 fun x50 =>
fI (wrapF .i64 (Int.add x50 (Int.ofNat 1))) fun x51 =>
r6 (v3.1, v3.2.1, (AV.int .i64 x51), ()) d4 h46) (
asI .i64 v3.2.2.1 fun x52 =>
fB (ltI (Int.ofNat 32) x52) fun b53 =>
br b53 (
stN 4 v3.2.1 [(.int .u8 0), (.str ⟨0, 0⟩), (.int .u64 0), (.int .i64 0)] h46 fun h54 =>
leaveK (gam J [(153, w153 c153), (155, w155 c155), (238, w238 c238)]) d4 h54 fun h55 =>
ldN 4 v3.2.1 h55 fun l56 =>
k (AV.agg l56) (Int.ofNat 0) (Int.ofNat 3) h55) (
subK v3.1 none (some v3.2.2.1) fun s57 =>
c238 s57 h46 fun s59 h58 =>
stN 4 v3.2.1 [(AV.int .u8 (Int.ofNat 1)), (AV.str s59), (.int .u64 0), (.int .i64 0)] h58 fun h60 =>
leaveK (gam J [(153, w153 c153), (155, w155 c155), (238, w238 c238)]) d4 h60 fun h61 =>
ldN 4 v3.2.1 h61 fun l62 =>
asI .i64 v3.2.2.1 fun x63 =>
k (AV.agg l62) x63 (Int.ofNat 0) h61))) fun j47 =>
br b9 (
pickB v26 (AV.bool true) v39 fun b48 =>
j47 (AV.bool b48) h40) (
j47 skipV h40)) fun j41 =>
asBU v26 (fun b64 =>
br b64 (
j41 skipV h36) (
asI .u8 v35 fun x43 =>
c155 x43 h36 fun b44 h42 =>
j41 (AV.bool b44) h42)) (
j41 skipV h36)) fun j37 =>
asBU v26 (fun b65 =>
br b65 (
j37 skipV h33) (
ixsK v29 v32 fun x38 =>
j37 (AV.int .u8 x38) h33)) (
j37 skipV h33)) fun j34 =>
asBU v26 (fun b66 =>
br b66 (
j34 skipV h30) (
j34 v3.2.2.1 h30)) (
j34 skipV h30)) fun j31 =>
asBU v26 (fun b67 =>
br b67 (
j31 skipV h27) (
j31 v3.1 h27)) (
j31 skipV h27)) fun j28 =>
br b9 (
j28 v20 h21) (
j28 skipV h21)) fun j22 =>
br b9 (
asI .u8 v16 fun x24 =>
c153 x24 h17 fun b25 h23 =>
j22 (AV.bool b25) h23) (
j22 skipV h17)) fun j18 =>
br b9 (
ixsK v10 v13 fun x19 =>
j18 (AV.int .u8 x19) h14) (
j18 skipV h14)) fun j15 =>
br b9 (
j15 v3.2.2.1 h11) (
j15 skipV h11)) fun j12 =>
br b9 (
j12 v3.1 h5) (
j12 skipV h5)) ((AV.str a0), (AV.ptr n1 0), (AV.int .i64 (Int.ofNat 0)), ()) [] h2
noncomputable def s154 : Str → H → (AV → Int → Int → H → Prop) → Prop := s154G J0 s153 s155 s238
noncomputable def w154 (c : Str → H → (AV → Int → Int → H → Prop) → Prop) : Fun := fun xs h k => arg xs fun a0 xs => noArg xs <| asS a0 fun a0 => c a0 h fun r0 r1 r2 h => k (.tuple [r0, (.int .i64 r1), (.int .i64 r2)]) h
theorem s154_eq (J : Joins) (c153 : Int → H → (Bool → H → Prop) → Prop) (c155 : Int → H → (Bool → H → Prop) → Prop) (c238 : Str → H → (Str → H → Prop) → Prop) (a0 : Str) (h : H) (k : AV → H → Prop) : denF ty (gam J [(153, w153 c153), (155, w155 c155), (238, w238 c238)]) Tryz.f154 [(.str a0)] h k = s154G J c153 c155 c238 a0 h (fun r0 r1 r2 h => k (.tuple [r0, (.int .i64 r1), (.int .i64 r2)]) h) := by kernel_rfl
noncomputable def g154 : Fun := w154 s154
theorem g154_ok : FunOk Tryz.prog 154 g154 := (fun_ok ty_ok mixed (gam_ok (J := J0) (tab_cons g153_ok (tab_cons g155_ok (tab_cons g238_ok (tab_nil fls_fun))))) Tryz.func154 (fun args w => by simp)).imp fun xs h k e0 => by
  obtain ⟨a0, xs0, rfl, e1⟩ := arg_imp e0
  obtain ⟨rfl, e2⟩ := noArg_imp e1
  obtain ⟨a0, rfl, e3⟩ := asS_iff.1 e2
  exact (s154_eq J0 s153 s155 s238 a0 h k).mpr e3
/-- internal/strconv.ParseUint -/
noncomputable def g318 : Fun := denFS ty (gam J0 []) Tryz.f318
theorem g318_ok : FunOk Tryz.prog 318 g318 := fun_okS ty_ok mixed (gam_ok (J := J0) (tab_nil fls_fun)) Tryz.func318 (fun args w => by simp)
/-- strconv.ParseUint -/
noncomputable def g239 : Fun := denFS ty (gam J0 [(318, g318)]) Tryz.f239
theorem g239_ok : FunOk Tryz.prog 239 g239 := fun_okS ty_ok mixed (gam_ok (J := J0) (tab_cons g318_ok (tab_nil fls_fun))) Tryz.func239 (fun args w => by simp)
/-- stagepost/lexer.number -/
noncomputable def g156 : Fun := denFS ty (gam J0 [(155, g155), (239, g239)]) Tryz.f156
theorem g156_ok : FunOk Tryz.prog 156 g156 := fun_okS ty_ok mixed (gam_ok (J := J0) (tab_cons g155_ok (tab_cons g239_ok (tab_nil fls_fun)))) Tryz.func156 (fun args w => by simp)
/-- unicode.is16 -/
noncomputable def g464 : Fun := denFS ty (gam J0 []) Tryz.f464
theorem g464_ok : FunOk Tryz.prog 464 g464 := fun_okS ty_ok mixed (gam_ok (J := J0) (tab_nil fls_fun)) Tryz.func464 (fun args w => by simp)
/-- unicode.is32 -/
noncomputable def g465 : Fun := denFS ty (gam J0 []) Tryz.f465
theorem g465_ok : FunOk Tryz.prog 465 g465 := fun_okS ty_ok mixed (gam_ok (J := J0) (tab_nil fls_fun)) Tryz.func465 (fun args w => by simp)
/-- unicode.isExcludingLatin -/
noncomputable def g406 : Fun := denFS ty (gam J0 [(464, g464), (465, g465)]) Tryz.f406
theorem g406_ok : FunOk Tryz.prog 406 g406 := fun_okS ty_ok mixed (gam_ok (J := J0) (tab_cons g464_ok (tab_cons g465_ok (tab_nil fls_fun)))) Tryz.func406 (fun args w => by simp)
/-- unicode.IsSpace -/
noncomputable def g323 : Fun := denFS ty (gam J0 [(406, g406)]) Tryz.f323
theorem g323_ok : FunOk Tryz.prog 323 g323 := fun_okS ty_ok mixed (gam_ok (J := J0) (tab_cons g406_ok (tab_nil fls_fun))) Tryz.func323 (fun args w => by simp)
/-- strings.Fields -/
noncomputable def g245 : Fun := denFS ty (gam J0 [(323, g323)]) Tryz.f245
theorem g245_ok : FunOk Tryz.prog 245 g245 := fun_okS ty_ok mixed (gam_ok (J := J0) (tab_cons g323_ok (tab_nil fls_fun))) Tryz.func245 (fun args w => by simp)
/-- stagepost/lexer.signs -/
noncomputable def g158 : Fun := denFS ty (gam J0 [(245, g245)]) Tryz.f158
theorem g158_ok : FunOk Tryz.prog 158 g158 := fun_okS ty_ok mixed (gam_ok (J := J0) (tab_cons g245_ok (tab_nil fls_fun))) Tryz.func158 (fun args w => by simp)
end Go.Proofs.YtgpndbkghmbacaaGreatDoor
