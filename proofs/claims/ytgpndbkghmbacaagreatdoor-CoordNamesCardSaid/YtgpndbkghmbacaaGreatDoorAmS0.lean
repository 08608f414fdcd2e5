/- Functions as they are reckoned. MADE BY PROGRAM (wip/tools/shal.py). -/
import Derived.Test.YtgpndbkghmbacaaGreatDoorAmTys
namespace Go.Proofs.YtgpndbkghmbacaaGreatDoor
open Go Go.Am
set_option maxRecDepth 100000
set_option linter.all false
/-- internal/bytealg.IndexByteString -/
noncomputable def g237 : Fun := ibF
theorem g237_ok : FunOk Tryz.prog 237 g237 := indexByte_ok Tryz.func237 (by kernel_rfl) (by kernel_rfl) (by kernel_rfl) (by kernel_rfl)
/-- internal/stringslite.IndexByte -/
noncomputable def s152G (J : Joins) (c237 : Fun) (a0 : Str) (a1 : Int) (h : H) (k : Int → H → Prop) : Prop :=
c237 [(AV.str a0), (AV.int .u8 a1)] h fun v1 h2 =>
asI .i64 v1 fun x3 =>
k x3 h2
noncomputable def s152 : Str → Int → H → (Int → H → Prop) → Prop := s152G J0 g237
noncomputable def w152 (c : Str → Int → H → (Int → H → Prop) → Prop) : Fun := fun xs h k => arg xs fun a0 xs => arg xs fun a1 xs => noArg xs <| asS a0 fun a0 => asI .u8 a1 fun a1 => c a0 a1 h fun r0 h => k (.int .i64 r0) h
theorem s152_eq (J : Joins) (c237 : Fun) (a0 : Str) (a1 : Int) (h : H) (k : AV → H → Prop) : denF ty (gam J [(237, c237)]) Tryz.f152 [(.str a0), (.int .u8 a1)] h k = s152G J c237 a0 a1 h (fun r0 h => k (.int .i64 r0) h) := by kernel_rfl
noncomputable def g152 : Fun := w152 s152
theorem g152_ok : FunOk Tryz.prog 152 g152 := (fun_ok ty_ok mixed (gam_ok (J := J0) (tab_cons g237_ok (tab_nil fls_fun))) Tryz.func152 (fun args w => by simp)).imp fun xs h k e0 => by
  obtain ⟨a0, xs0, rfl, e1⟩ := arg_imp e0
  obtain ⟨a1, xs1, rfl, e2⟩ := arg_imp e1
  obtain ⟨rfl, e3⟩ := noArg_imp e2
  obtain ⟨a0, rfl, e4⟩ := asS_iff.1 e3
  obtain ⟨a1, rfl, e5⟩ := asI_iff.1 e4
  exact (s152_eq J0 g237 a0 a1 h k).mpr e5
/-- strings.IndexByte -/
noncomputable def s96G (J : Joins) (c152 : Str → Int → H → (Int → H → Prop) → Prop) (a0 : Str) (a1 : Int) (h : H) (k : Int → H → Prop) : Prop :=
c152 a0 a1 h fun x2 h1 =>
k x2 h1
noncomputable def s96 : Str → Int → H → (Int → H → Prop) → Prop := s96G J0 s152
noncomputable def w96 (c : Str → Int → H → (Int → H → Prop) → Prop) : Fun := fun xs h k => arg xs fun a0 xs => arg xs fun a1 xs => noArg xs <| asS a0 fun a0 => asI .u8 a1 fun a1 => c a0 a1 h fun r0 h => k (.int .i64 r0) h
theorem s96_eq (J : Joins) (c152 : Str → Int → H → (Int → H → Prop) → Prop) (a0 : Str) (a1 : Int) (h : H) (k : AV → H → Prop) : denF ty (gam J [(152, w152 c152)]) Tryz.f96 [(.str a0), (.int .u8 a1)] h k = s96G J c152 a0 a1 h (fun r0 h => k (.int .i64 r0) h) := by kernel_rfl
noncomputable def g96 : Fun := w96 s96
theorem g96_ok : FunOk Tryz.prog 96 g96 := (fun_ok ty_ok mixed (gam_ok (J := J0) (tab_cons g152_ok (tab_nil fls_fun))) Tryz.func96 (fun args w => by simp)).imp fun xs h k e0 => by
  obtain ⟨a0, xs0, rfl, e1⟩ := arg_imp e0
  obtain ⟨a1, xs1, rfl, e2⟩ := arg_imp e1
  obtain ⟨rfl, e3⟩ := noArg_imp e2
  obtain ⟨a0, rfl, e4⟩ := asS_iff.1 e3
  obtain ⟨a1, rfl, e5⟩ := asI_iff.1 e4
  exact (s96_eq J0 s152 a0 a1 h k).mpr e5
/-- stagepost/lexer.letter -/
noncomputable def s153G (J : Joins) (a0 : Int) (h : H) (k : Bool → H → Prop) : Prop :=
fI (lorF .u8 a0 (Int.ofNat 32)) fun x1 =>
fB (Bool.not (ltI x1 (Int.ofNat 97))) fun b2 =>
J.jn (fun v3 h4 =>
J.jn (fun v6 h7 =>
J.jn (fun v11 h12 =>
pickB (AV.bool b2) v11 (AV.bool false) fun b16 =>
J.jn (fun v17 h18 =>
J.jn (fun v20 h21 =>
pickB (AV.bool b16) (AV.bool true) v20 fun b25 =>
k b25 h21) fun j22 =>
br b16 (
j22 skipV h18) (
asI .u8 v17 fun x23 =>
fB (eqI x23 (Int.ofNat 95)) fun b24 =>
j22 (AV.bool b24) h18)) fun j19 =>
br b16 (
j19 skipV h12) (
j19 (AV.int .u8 a0) h12)) fun j13 =>
br b2 (
asI .u8 v6 fun x14 =>
fB (Bool.not (ltI (Int.ofNat 122) x14)) fun b15 =>
j13 (AV.bool b15) h7) (
j13 skipV h7)) fun j8 =>
br b2 (
asI .u8 v3 fun x9 =>
fI (lorF .u8 x9 (Int.ofNat 32)) fun x10 =>
j8 (AV.int .u8 x10) h4) (
j8 skipV h4)) fun j5 =>
br b2 (
j5 (AV.int .u8 a0) h) (
j5 skipV h)
noncomputable def s153 : Int → H → (Bool → H → Prop) → Prop := s153G J0 
noncomputable def w153 (c : Int → H → (Bool → H → Prop) → Prop) : Fun := fun xs h k => arg xs fun a0 xs => noArg xs <| asI .u8 a0 fun a0 => c a0 h fun r0 h => k (.bool r0) h
theorem s153_eq (J : Joins) (a0 : Int) (h : H) (k : AV → H → Prop) : denF ty (gam J []) Tryz.f153 [(.int .u8 a0)] h k = s153G J  a0 h (fun r0 h => k (.bool r0) h) := by kernel_rfl
noncomputable def g153 : Fun := w153 s153
theorem g153_ok : FunOk Tryz.prog 153 g153 := (fun_ok ty_ok mixed (gam_ok (J := J0) (tab_nil fls_fun)) Tryz.func153 (fun args w => by simp)).imp fun xs h k e0 => by
  obtain ⟨a0, xs0, rfl, e1⟩ := arg_imp e0
  obtain ⟨rfl, e2⟩ := noArg_imp e1
  obtain ⟨a0, rfl, e3⟩ := asI_iff.1 e2
  exact (s153_eq J0  a0 h k).mpr e3
/-- stagepost/lexer.digit -/
noncomputable def s155G (J : Joins) (a0 : Int) (h : H) (k : Bool → H → Prop) : Prop :=
fB (Bool.not (ltI a0 (Int.ofNat 48))) fun b1 =>
J.jn (fun v2 h3 =>
J.jn (fun v5 h6 =>
pickB (AV.bool b1) v5 (AV.bool false) fun b10 =>
k b10 h6) fun j7 =>
br b1 (
asI .u8 v2 fun x8 =>
fB (Bool.not (ltI (Int.ofNat 57) x8)) fun b9 =>
j7 (AV.bool b9) h3) (
j7 skipV h3)) fun j4 =>
br b1 (
j4 (AV.int .u8 a0) h) (
j4 skipV h)
noncomputable def s155 : Int → H → (Bool → H → Prop) → Prop := s155G J0 
noncomputable def w155 (c : Int → H → (Bool → H → Prop) → Prop) : Fun := fun xs h k => arg xs fun a0 xs => noArg xs <| asI .u8 a0 fun a0 => c a0 h fun r0 h => k (.bool r0) h
theorem s155_eq (J : Joins) (a0 : Int) (h : H) (k : AV → H → Prop) : denF ty (gam J []) Tryz.f155 [(.int .u8 a0)] h k = s155G J  a0 h (fun r0 h => k (.bool r0) h) := by kernel_rfl
noncomputable def g155 : Fun := w155 s155
theorem g155_ok : FunOk Tryz.prog 155 g155 := (fun_ok ty_ok mixed (gam_ok (J := J0) (tab_nil fls_fun)) Tryz.func155 (fun args w => by simp)).imp fun xs h k e0 => by
  obtain ⟨a0, xs0, rfl, e1⟩ := arg_imp e0
  obtain ⟨rfl, e2⟩ := noArg_imp e1
  obtain ⟨a0, rfl, e3⟩ := asI_iff.1 e2
  exact (s155_eq J0  a0 h k).mpr e3
/-- internal/abi.NoEscape -/
noncomputable def g405 : Fun := noEsc
theorem g405_ok : FunOk Tryz.prog 405 g405 := noEscape_ok Tryz.func405 (by kernel_rfl) (by kernel_rfl) (by kernel_rfl) (by kernel_rfl)
/-- (*strings.Builder).copyCheck -/
noncomputable def s321G (J : Joins) (c405 : Fun) (a0 : AV) (h : H) (k : H → Prop) : Prop :=
okNil a0 (
faK 0 a0 fun p1 =>
ldV p1 h fun v2 =>
nilB 0 v2 fun b3 =>
br b3 (
op' (aToU a0 h) fun v4 =>
c405 [v4] h fun v5 h6 =>
op' (aOfU 395 2 v5 h6) fun v7 =>
okNil a0 (
faK 0 a0 fun p8 =>
stV p8 v7 h6 fun h9 =>
k  h9)) (
okNil a0 (
faK 0 a0 fun p10 =>
ldV p10 h fun v11 =>
obK (aBin ty .neq 392 false v11 a0) fun b12 =>
br b12 (
False) (
k  h))))
noncomputable def s321 : AV → H → (H → Prop) → Prop := s321G J0 g405
noncomputable def w321 (c : AV → H → (H → Prop) → Prop) : Fun := fun xs h k => arg xs fun a0 xs => noArg xs <| c a0 h fun  h => k (.tuple []) h
theorem s321_eq (J : Joins) (c405 : Fun) (a0 : AV) (h : H) (k : AV → H → Prop) : denF ty (gam J [(405, c405)]) Tryz.f321 [a0] h k = s321G J c405 a0 h (fun  h => k (.tuple []) h) := by kernel_rfl
noncomputable def g321 : Fun := w321 s321
theorem g321_ok : FunOk Tryz.prog 321 g321 := (fun_ok ty_ok mixed (gam_ok (J := J0) (tab_cons g405_ok (tab_nil fls_fun))) Tryz.func321 (fun args w => by simp)).imp fun xs h k e0 => by
  obtain ⟨a0, xs0, rfl, e1⟩ := arg_imp e0
  obtain ⟨rfl, e2⟩ := noArg_imp e1
  exact (s321_eq J0 g405 a0 h k).mpr e2
/-- (*strings.Builder).WriteString -/
noncomputable def s241G (J : Joins) (c321 : AV → H → (H → Prop) → Prop) (a0 : AV) (a1 : Str) (h : H) (k : Int → AV → H → Prop) : Prop :=
c321 a0 h fun  h1 =>
okNil a0 (
faK 1 a0 fun p2 =>
ldV p2 h1 fun v3 =>
apB .str 5 v3 (AV.str a1) h1 fun v4 h5 =>
okNil a0 (
faK 1 a0 fun p6 =>
stV p6 v4 h5 fun h7 =>
k (Int.ofNat a1.len) AV.nili h7))
noncomputable def s241 : AV → Str → H → (Int → AV → H → Prop) → Prop := s241G J0 s321
noncomputable def w241 (c : AV → Str → H → (Int → AV → H → Prop) → Prop) : Fun := fun xs h k => arg xs fun a0 xs => arg xs fun a1 xs => noArg xs <| asS a1 fun a1 => c a0 a1 h fun r0 r1 h => k (.tuple [(.int .i64 r0), r1]) h
theorem s241_eq (J : Joins) (c321 : AV → H → (H → Prop) → Prop) (a0 : AV) (a1 : Str) (h : H) (k : AV → H → Prop) : denF ty (gam J [(321, w321 c321)]) Tryz.f241 [a0, (.str a1)] h k = s241G J c321 a0 a1 h (fun r0 r1 h => k (.tuple [(.int .i64 r0), r1]) h) := by kernel_rfl
noncomputable def g241 : Fun := w241 s241
theorem g241_ok : FunOk Tryz.prog 241 g241 := (fun_ok ty_ok mixed (gam_ok (J := J0) (tab_cons g321_ok (tab_nil fls_fun))) Tryz.func241 (fun args w => by simp)).imp fun xs h k e0 => by
  obtain ⟨a0, xs0, rfl, e1⟩ := arg_imp e0
  obtain ⟨a1, xs1, rfl, e2⟩ := arg_imp e1
  obtain ⟨rfl, e3⟩ := noArg_imp e2
  obtain ⟨a1, rfl, e4⟩ := asS_iff.1 e3
  exact (s241_eq J0 s321 a0 a1 h k).mpr e4
/-- (*strings.Builder).WriteByte -/
noncomputable def s242G (J : Joins) (c321 : AV → H → (H → Prop) → Prop) (a0 : AV) (a1 : Int) (h : H) (k : AV → H → Prop) : Prop :=
c321 a0 h fun  h1 =>
okNil a0 (
faK 1 a0 fun p2 =>
ldV p2 h1 fun v3 =>
op' (asRow true 5 [(AV.int .u8 a1)]) fun k6 =>
pushK k6 h1 fun n4 h5 =>
apB (.slice 5) 5 v3 (AV.slice n4 0 1 1 1 true) h5 fun v7 h8 =>
okNil a0 (
faK 1 a0 fun p9 =>
stV p9 v7 h8 fun h10 =>
k AV.nili h10))
noncomputable def s242 : AV → Int → H → (AV → H → Prop) → Prop := s242G J0 s321
noncomputable def w242 (c : AV → Int → H → (AV → H → Prop) → Prop) : Fun := fun xs h k => arg xs fun a0 xs => arg xs fun a1 xs => noArg xs <| asI .u8 a1 fun a1 => c a0 a1 h fun r0 h => k r0 h
theorem s242_eq (J : Joins) (c321 : AV → H → (H → Prop) → Prop) (a0 : AV) (a1 : Int) (h : H) (k : AV → H → Prop) : denF ty (gam J [(321, w321 c321)]) Tryz.f242 [a0, (.int .u8 a1)] h k = s242G J c321 a0 a1 h (fun r0 h => k r0 h) := by kernel_rfl
noncomputable def g242 : Fun := w242 s242
theorem g242_ok : FunOk Tryz.prog 242 g242 := (fun_ok ty_ok mixed (gam_ok (J := J0) (tab_cons g321_ok (tab_nil fls_fun))) Tryz.func242 (fun args w => by simp)).imp fun xs h k e0 => by
  obtain ⟨a0, xs0, rfl, e1⟩ := arg_imp e0
  obtain ⟨a1, xs1, rfl, e2⟩ := arg_imp e1
  obtain ⟨rfl, e3⟩ := noArg_imp e2
  obtain ⟨a1, rfl, e4⟩ := asI_iff.1 e3
  exact (s242_eq J0 s321 a0 a1 h k).mpr e4
/-- (*strings.Builder).String -/
noncomputable def s244G (J : Joins) (a0 : AV) (h : H) (k : Str → H → Prop) : Prop :=
okNil a0 (
faK 1 a0 fun p1 =>
ldV p1 h fun v2 =>
spX (aSliceData v2) fun v3 =>
okNil a0 (
faK 1 a0 fun p4 =>
ldV p4 h fun v5 =>
lenK v5 fun x6 =>
op2 (aUnStr 5 v3 (AV.int .i64 (Int.ofNat x6)) h) fun v7 h8 =>
asS v7 fun s9 =>
k s9 h8))
noncomputable def s244 : AV → H → (Str → H → Prop) → Prop := s244G J0 
noncomputable def w244 (c : AV → H → (Str → H → Prop) → Prop) : Fun := fun xs h k => arg xs fun a0 xs => noArg xs <| c a0 h fun r0 h => k (.str r0) h
theorem s244_eq (J : Joins) (a0 : AV) (h : H) (k : AV → H → Prop) : denF ty (gam J []) Tryz.f244 [a0] h k = s244G J  a0 h (fun r0 h => k (.str r0) h) := by kernel_rfl
noncomputable def g244 : Fun := w244 s244
theorem g244_ok : FunOk Tryz.prog 244 g244 := (fun_ok ty_ok mixed (gam_ok (J := J0) (tab_nil fls_fun)) Tryz.func244 (fun args w => by simp)).imp fun xs h k e0 => by
  obtain ⟨a0, xs0, rfl, e1⟩ := arg_imp e0
  obtain ⟨rfl, e2⟩ := noArg_imp e1
  exact (s244_eq J0  a0 h k).mpr e2
/-- internal/bytealg.MakeNoZero -/
noncomputable def g458 : Fun := mnzF 5
theorem g458_ok : FunOk Tryz.prog 458 g458 := makeNoZero_ok (t := 393) (e := 5) Tryz.func458 (by kernel_rfl) (by kernel_rfl) (by kernel_rfl) (by kernel_rfl) Tryz.underlying393
/-- (*strings.Builder).grow -/
noncomputable def g394 : Fun := denFS ty (gam J0 [(458, g458)]) Tryz.f394
theorem g394_ok : FunOk Tryz.prog 394 g394 := fun_okS ty_ok mixed (gam_ok (J := J0) (tab_cons g458_ok (tab_nil fls_fun))) Tryz.func394 (fun args w => by simp)
/-- (*strings.Builder).Grow -/
noncomputable def g315 : Fun := denFS ty (gam J0 [(321, g321), (394, g394)]) Tryz.f315
theorem g315_ok : FunOk Tryz.prog 315 g315 := fun_okS ty_ok mixed (gam_ok (J := J0) (tab_cons g321_ok (tab_cons g394_ok (tab_nil fls_fun)))) Tryz.func315 (fun args w => by simp)
end Go.Proofs.YtgpndbkghmbacaaGreatDoor
