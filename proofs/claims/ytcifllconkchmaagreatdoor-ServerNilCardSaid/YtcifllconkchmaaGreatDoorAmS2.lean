/- Functions as they are reckoned. MADE BY PROGRAM (wip/tools/shal.py). -/
import Derived.Test.YtcifllconkchmaaGreatDoorAmS1
namespace Go.Proofs.YtcifllconkchmaaGreatDoor
open Go Go.Am
set_option maxRecDepth 100000
set_option linter.all false
/-- math/bits.Len64 -/
noncomputable def s413G (J : Joins) (a0 : Int) (h : H) (k : Int → H → Prop) : Prop :=
J.jd (α := AV × AV × Unit) (fun v1 d2 h3 =>
J.jd (α := AV × AV × Unit) (fun v5 d6 h7 =>
J.jd (α := AV × AV × Unit) (fun v9 d10 h11 =>
asI .u64 v9.1 fun x13 =>
fI (wrapF .u8 x13) fun x14 =>
ixsK (AV.str ⟨256, 496986003408712215933005303621146343841837811690876167382323004466384420695090407243345123874780946046625255262057845613767806773758184921447759720770971536008171983842311960805720366577116933250839345203839274948261284255908394484732272583221484877694546905335834403051067785895034095251181560891789708940188598129052595634438001880866652824740680664595948164050600812232986714152902334120417949232733424961741260388658846598210939813666227264727603044226856020347194099943897342244906131705541414413428559898943151040826816076322978570758226444464494629814583418847495712557856038296917933182380796641777551368⟩) (AV.int .u8 x14) fun x15 =>
fI (wrapF .i64 x15) fun x16 =>
asI .i64 v9.2.1 fun x17 =>
fI (wrapF .i64 (Int.add x17 x16)) fun x18 =>
leaveK (gam J []) d10 h11 fun h19 =>
k x18 h19) fun j12 =>
asI .u64 v5.1 fun x20 =>
fB (Bool.not (ltI x20 (Int.ofNat 256))) fun b21 =>
br b21 (
asI .u64 v5.1 fun x22 =>
fI (shrF x22 (nmin 8 (IntKind.bits .u64))) fun x23 =>
asI .i64 v5.2.1 fun x24 =>
fI (wrapF .i64 (Int.add x24 (Int.ofNat 8))) fun x25 =>
j12 ((AV.int .u64 x23), (AV.int .i64 x25), ()) d6 h7) (
j12 (v5.1, v5.2.1, ()) d6 h7)) fun j8 =>
asI .u64 v1.1 fun x26 =>
fB (Bool.not (ltI x26 (Int.ofNat 65536))) fun b27 =>
br b27 (
asI .u64 v1.1 fun x28 =>
fI (shrF x28 (nmin 16 (IntKind.bits .u64))) fun x29 =>
asI .i64 v1.2.1 fun x30 =>
fI (wrapF .i64 (Int.add x30 (Int.ofNat 16))) fun x31 =>
j8 ((AV.int .u64 x29), (AV.int .i64 x31), ()) d2 h3) (
j8 (v1.1, v1.2.1, ()) d2 h3)) fun j4 =>
fB (Bool.not (ltI a0 (Int.ofNat 4294967296))) fun b32 =>
br b32 (
fI (shrF a0 (nmin 32 (IntKind.bits .u64))) fun x33 =>
j4 ((AV.int .u64 x33), (AV.int .i64 (Int.ofNat 32)), ()) [] h) (
j4 ((AV.int .u64 a0), (AV.int .i64 (Int.ofNat 0)), ()) [] h)
noncomputable def s413 : Int → H → (Int → H → Prop) → Prop := s413G J0 
noncomputable def w413 (c : Int → H → (Int → H → Prop) → Prop) : Fun := fun xs h k => arg xs fun a0 xs => noArg xs <| asI .u64 a0 fun a0 => c a0 h fun r0 h => k (.int .i64 r0) h
theorem s413_eq (J : Joins) (a0 : Int) (h : H) (k : AV → H → Prop) : denF ty (gam J []) Tryz.f413 [(.int .u64 a0)] h k = s413G J  a0 h (fun r0 h => k (.int .i64 r0) h) := by kernel_rfl
noncomputable def g413 : Fun := w413 s413
theorem g413_ok : FunOk Tryz.prog 413 g413 := (fun_ok ty_ok mixed (gam_ok (J := J0) (tab_nil fls_fun)) Tryz.func413 (fun args w => by simp)).imp fun xs h k e0 => by
  obtain ⟨a0, xs0, rfl, e1⟩ := arg_imp e0
  obtain ⟨rfl, e2⟩ := noArg_imp e1
  obtain ⟨a0, rfl, e3⟩ := asI_iff.1 e2
  exact (s413_eq J0  a0 h k).mpr e3
/-- internal/strconv.log10Pow2 -/
noncomputable def g419 : Fun := denFS ty (gam J0 []) Tryz.f419
theorem g419_ok : FunOk Tryz.prog 419 g419 := fun_okS ty_ok mixed (gam_ok (J := J0) (tab_nil fls_fun)) Tryz.func419 (fun args w => by simp)
/-- internal/strconv.bool2[int] -/
noncomputable def g420 : Fun := denFS ty (gam J0 []) Tryz.f420
theorem g420_ok : FunOk Tryz.prog 420 g420 := fun_okS ty_ok mixed (gam_ok (J := J0) (tab_nil fls_fun)) Tryz.func420 (fun args w => by simp)
/-- internal/strconv.numDigits -/
noncomputable def g399 : Fun := denFS ty (gam J0 [(413, g413), (419, g419), (420, g420)]) Tryz.f399
theorem g399_ok : FunOk Tryz.prog 399 g399 := fun_okS ty_ok mixed (gam_ok (J := J0) (tab_cons g413_ok (tab_cons g419_ok (tab_cons g420_ok (tab_nil fls_fun))))) Tryz.func399 (fun args w => by simp)
/-- internal/strconv.formatBase10 -/
noncomputable def g400 : Fun := denFS ty (gam J0 []) Tryz.f400
theorem g400_ok : FunOk Tryz.prog 400 g400 := fun_okS ty_ok mixed (gam_ok (J := J0) (tab_nil fls_fun)) Tryz.func400 (fun args w => by simp)
/-- internal/strconv.FormatInt -/
noncomputable def g363 : Fun := denFS ty (gam J0 [(398, g398), (399, g399), (400, g400)]) Tryz.f363
theorem g363_ok : FunOk Tryz.prog 363 g363 := fun_okS ty_ok mixed (gam_ok (J := J0) (tab_cons g398_ok (tab_cons g399_ok (tab_cons g400_ok (tab_nil fls_fun))))) Tryz.func363 (fun args w => by simp)
/-- internal/strconv.Itoa -/
noncomputable def g304 : Fun := denFS ty (gam J0 [(363, g363)]) Tryz.f304
theorem g304_ok : FunOk Tryz.prog 304 g304 := fun_okS ty_ok mixed (gam_ok (J := J0) (tab_cons g363_ok (tab_nil fls_fun))) Tryz.func304 (fun args w => by simp)
/-- strconv.Itoa -/
noncomputable def g202 : Fun := denFS ty (gam J0 [(304, g304)]) Tryz.f202
theorem g202_ok : FunOk Tryz.prog 202 g202 := fun_okS ty_ok mixed (gam_ok (J := J0) (tab_cons g304_ok (tab_nil fls_fun))) Tryz.func202 (fun args w => by simp)
/-- (*strings.Builder).String -/
noncomputable def g117 : Fun := denFS ty (gam J0 []) Tryz.f117
theorem g117_ok : FunOk Tryz.prog 117 g117 := fun_okS ty_ok mixed (gam_ok (J := J0) (tab_nil fls_fun)) Tryz.func117 (fun args w => by simp)
/-- internal/abi.NoEscape -/
noncomputable def g368 : Fun := noEsc
theorem g368_ok : FunOk Tryz.prog 368 g368 := noEscape_ok Tryz.func368 (by kernel_rfl) (by kernel_rfl) (by kernel_rfl) (by kernel_rfl)
/-- (*strings.Builder).copyCheck -/
noncomputable def s309G (J : Joins) (c368 : Fun) (a0 : AV) (h : H) (k : H → Prop) : Prop :=
okNil a0 (
faK 0 a0 fun p1 =>
ldV p1 h fun v2 =>
nilB 0 v2 fun b3 =>
br b3 (
op' (aToU a0 h) fun v4 =>
c368 [v4] h fun v5 h6 =>
op' (aOfU 200 2 v5 h6) fun v7 =>
okNil a0 (
faK 0 a0 fun p8 =>
stV p8 v7 h6 fun h9 =>
k  h9)) (
okNil a0 (
faK 0 a0 fun p10 =>
ldV p10 h fun v11 =>
obK (aBin ty .neq 198 false v11 a0) fun b12 =>
br b12 (
False) (
k  h))))
noncomputable def s309 : AV → H → (H → Prop) → Prop := s309G J0 g368
noncomputable def w309 (c : AV → H → (H → Prop) → Prop) : Fun := fun xs h k => arg xs fun a0 xs => noArg xs <| c a0 h fun  h => k (.tuple []) h
theorem s309_eq (J : Joins) (c368 : Fun) (a0 : AV) (h : H) (k : AV → H → Prop) : denF ty (gam J [(368, c368)]) Tryz.f309 [a0] h k = s309G J c368 a0 h (fun  h => k (.tuple []) h) := by kernel_rfl
noncomputable def g309 : Fun := w309 s309
theorem g309_ok : FunOk Tryz.prog 309 g309 := (fun_ok ty_ok mixed (gam_ok (J := J0) (tab_cons g368_ok (tab_nil fls_fun))) Tryz.func309 (fun args w => by simp)).imp fun xs h k e0 => by
  obtain ⟨a0, xs0, rfl, e1⟩ := arg_imp e0
  obtain ⟨rfl, e2⟩ := noArg_imp e1
  exact (s309_eq J0 g368 a0 h k).mpr e2
/-- (*strings.Builder).WriteString -/
noncomputable def s277G (J : Joins) (c309 : AV → H → (H → Prop) → Prop) (a0 : AV) (a1 : Str) (h : H) (k : Int → AV → H → Prop) : Prop :=
c309 a0 h fun  h1 =>
okNil a0 (
faK 1 a0 fun p2 =>
ldV p2 h1 fun v3 =>
apB .str 5 v3 (AV.str a1) h1 fun v4 h5 =>
okNil a0 (
faK 1 a0 fun p6 =>
stV p6 v4 h5 fun h7 =>
k (Int.ofNat a1.len) AV.nili h7))
noncomputable def s277 : AV → Str → H → (Int → AV → H → Prop) → Prop := s277G J0 s309
noncomputable def w277 (c : AV → Str → H → (Int → AV → H → Prop) → Prop) : Fun := fun xs h k => arg xs fun a0 xs => arg xs fun a1 xs => noArg xs <| asS a1 fun a1 => c a0 a1 h fun r0 r1 h => k (.tuple [(.int .i64 r0), r1]) h
theorem s277_eq (J : Joins) (c309 : AV → H → (H → Prop) → Prop) (a0 : AV) (a1 : Str) (h : H) (k : AV → H → Prop) : denF ty (gam J [(309, w309 c309)]) Tryz.f277 [a0, (.str a1)] h k = s277G J c309 a0 a1 h (fun r0 r1 h => k (.tuple [(.int .i64 r0), r1]) h) := by kernel_rfl
noncomputable def g277 : Fun := w277 s277
theorem g277_ok : FunOk Tryz.prog 277 g277 := (fun_ok ty_ok mixed (gam_ok (J := J0) (tab_cons g309_ok (tab_nil fls_fun))) Tryz.func277 (fun args w => by simp)).imp fun xs h k e0 => by
  obtain ⟨a0, xs0, rfl, e1⟩ := arg_imp e0
  obtain ⟨a1, xs1, rfl, e2⟩ := arg_imp e1
  obtain ⟨rfl, e3⟩ := noArg_imp e2
  obtain ⟨a1, rfl, e4⟩ := asS_iff.1 e3
  exact (s277_eq J0 s309 a0 a1 h k).mpr e4
/-- math/bits.Mul32 -/
noncomputable def s364G (J : Joins) (a0 : Int) (a1 : Int) (h : H) (k : Int → Int → H → Prop) : Prop :=
fI (wrapF .u64 a0) fun x1 =>
fI (wrapF .u64 a1) fun x2 =>
fI (wrapF .u64 (Int.mul x1 x2)) fun x3 =>
fI (shrF x3 (nmin 32 (IntKind.bits .u64))) fun x4 =>
fI (wrapF .u32 x4) fun x5 =>
fI (wrapF .u32 x3) fun x6 =>
k x5 x6 h
noncomputable def s364 : Int → Int → H → (Int → Int → H → Prop) → Prop := s364G J0 
noncomputable def w364 (c : Int → Int → H → (Int → Int → H → Prop) → Prop) : Fun := fun xs h k => arg xs fun a0 xs => arg xs fun a1 xs => noArg xs <| asI .u32 a0 fun a0 => asI .u32 a1 fun a1 => c a0 a1 h fun r0 r1 h => k (.tuple [(.int .u32 r0), (.int .u32 r1)]) h
theorem s364_eq (J : Joins) (a0 : Int) (a1 : Int) (h : H) (k : AV → H → Prop) : denF ty (gam J []) Tryz.f364 [(.int .u32 a0), (.int .u32 a1)] h k = s364G J  a0 a1 h (fun r0 r1 h => k (.tuple [(.int .u32 r0), (.int .u32 r1)]) h) := by kernel_rfl
noncomputable def g364 : Fun := w364 s364
theorem g364_ok : FunOk Tryz.prog 364 g364 := (fun_ok ty_ok mixed (gam_ok (J := J0) (tab_nil fls_fun)) Tryz.func364 (fun args w => by simp)).imp fun xs h k e0 => by
  obtain ⟨a0, xs0, rfl, e1⟩ := arg_imp e0
  obtain ⟨a1, xs1, rfl, e2⟩ := arg_imp e1
  obtain ⟨rfl, e3⟩ := noArg_imp e2
  obtain ⟨a0, rfl, e4⟩ := asI_iff.1 e3
  obtain ⟨a1, rfl, e5⟩ := asI_iff.1 e4
  exact (s364_eq J0  a0 a1 h k).mpr e5
/-- math/bits.Mul64 -/
noncomputable def s365G (J : Joins) (a0 : Int) (a1 : Int) (h : H) (k : Int → Int → H → Prop) : Prop :=
fI (landF .u64 a0 (Int.ofNat 4294967295)) fun x1 =>
fI (shrF a0 (nmin 32 (IntKind.bits .u64))) fun x2 =>
fI (landF .u64 a1 (Int.ofNat 4294967295)) fun x3 =>
fI (shrF a1 (nmin 32 (IntKind.bits .u64))) fun x4 =>
fI (wrapF .u64 (Int.mul x1 x3)) fun x5 =>
fI (wrapF .u64 (Int.mul x2 x3)) fun x6 =>
fI (shrF x5 (nmin 32 (IntKind.bits .u64))) fun x7 =>
fI (wrapF .u64 (Int.add x6 x7)) fun x8 =>
fI (landF .u64 x8 (Int.ofNat 4294967295)) fun x9 =>
fI (shrF x8 (nmin 32 (IntKind.bits .u64))) fun x10 =>
fI (wrapF .u64 (Int.mul x1 x4)) fun x11 =>
fI (wrapF .u64 (Int.add x9 x11)) fun x12 =>
fI (wrapF .u64 (Int.mul x2 x4)) fun x13 =>
fI (wrapF .u64 (Int.add x13 x10)) fun x14 =>
fI (shrF x12 (nmin 32 (IntKind.bits .u64))) fun x15 =>
fI (wrapF .u64 (Int.add x14 x15)) fun x16 =>
fI (wrapF .u64 (Int.mul a0 a1)) fun x17 =>
k x16 x17 h
noncomputable def s365 : Int → Int → H → (Int → Int → H → Prop) → Prop := s365G J0 
noncomputable def w365 (c : Int → Int → H → (Int → Int → H → Prop) → Prop) : Fun := fun xs h k => arg xs fun a0 xs => arg xs fun a1 xs => noArg xs <| asI .u64 a0 fun a0 => asI .u64 a1 fun a1 => c a0 a1 h fun r0 r1 h => k (.tuple [(.int .u64 r0), (.int .u64 r1)]) h
theorem s365_eq (J : Joins) (a0 : Int) (a1 : Int) (h : H) (k : AV → H → Prop) : denF ty (gam J []) Tryz.f365 [(.int .u64 a0), (.int .u64 a1)] h k = s365G J  a0 a1 h (fun r0 r1 h => k (.tuple [(.int .u64 r0), (.int .u64 r1)]) h) := by kernel_rfl
noncomputable def g365 : Fun := w365 s365
theorem g365_ok : FunOk Tryz.prog 365 g365 := (fun_ok ty_ok mixed (gam_ok (J := J0) (tab_nil fls_fun)) Tryz.func365 (fun args w => by simp)).imp fun xs h k e0 => by
  obtain ⟨a0, xs0, rfl, e1⟩ := arg_imp e0
  obtain ⟨a1, xs1, rfl, e2⟩ := arg_imp e1
  obtain ⟨rfl, e3⟩ := noArg_imp e2
  obtain ⟨a0, rfl, e4⟩ := asI_iff.1 e3
  obtain ⟨a1, rfl, e5⟩ := asI_iff.1 e4
  exact (s365_eq J0  a0 a1 h k).mpr e5
/-- math/bits.Mul -/
noncomputable def s305G (J : Joins) (c364 : Int → Int → H → (Int → Int → H → Prop) → Prop) (c365 : Int → Int → H → (Int → Int → H → Prop) → Prop) (a0 : Int) (a1 : Int) (h : H) (k : Int → Int → H → Prop) : Prop :=
br false (
fI (wrapF .u32 a0) fun x1 =>
fI (wrapF .u32 a1) fun x2 =>
c364 x1 x2 h fun x4 x5 h3 =>
fI (wrapF .u64 x4) fun x6 =>
fI (wrapF .u64 x5) fun x7 =>
k x6 x7 h3) (
c365 a0 a1 h fun x9 x10 h8 =>
k x9 x10 h8)
noncomputable def s305 : Int → Int → H → (Int → Int → H → Prop) → Prop := s305G J0 s364 s365
noncomputable def w305 (c : Int → Int → H → (Int → Int → H → Prop) → Prop) : Fun := fun xs h k => arg xs fun a0 xs => arg xs fun a1 xs => noArg xs <| asI .u64 a0 fun a0 => asI .u64 a1 fun a1 => c a0 a1 h fun r0 r1 h => k (.tuple [(.int .u64 r0), (.int .u64 r1)]) h
theorem s305_eq (J : Joins) (c364 : Int → Int → H → (Int → Int → H → Prop) → Prop) (c365 : Int → Int → H → (Int → Int → H → Prop) → Prop) (a0 : Int) (a1 : Int) (h : H) (k : AV → H → Prop) : denF ty (gam J [(364, w364 c364), (365, w365 c365)]) Tryz.f305 [(.int .u64 a0), (.int .u64 a1)] h k = s305G J c364 c365 a0 a1 h (fun r0 r1 h => k (.tuple [(.int .u64 r0), (.int .u64 r1)]) h) := by kernel_rfl
noncomputable def g305 : Fun := w305 s305
theorem g305_ok : FunOk Tryz.prog 305 g305 := (fun_ok ty_ok mixed (gam_ok (J := J0) (tab_cons g364_ok (tab_cons g365_ok (tab_nil fls_fun)))) Tryz.func305 (fun args w => by simp)).imp fun xs h k e0 => by
  obtain ⟨a0, xs0, rfl, e1⟩ := arg_imp e0
  obtain ⟨a1, xs1, rfl, e2⟩ := arg_imp e1
  obtain ⟨rfl, e3⟩ := noArg_imp e2
  obtain ⟨a0, rfl, e4⟩ := asI_iff.1 e3
  obtain ⟨a1, rfl, e5⟩ := asI_iff.1 e4
  exact (s305_eq J0 s364 s365 a0 a1 h k).mpr e5
/-- internal/stringslite.HasPrefix -/
noncomputable def s366G (J : Joins) (a0 : Str) (a1 : Str) (h : H) (k : Bool → H → Prop) : Prop :=
fB (Bool.not (ltI (Int.ofNat a0.len) (Int.ofNat a1.len))) fun b1 =>
J.jn (fun v2 h3 =>
J.jn (fun v5 h6 =>
J.jn (fun v8 h9 =>
J.jn (fun v12 h13 =>
J.jn (fun v16 h17 =>
J.jn (fun v19 h20 =>
pickB (AV.bool b1) v19 (AV.bool false) fun b25 =>
k b25 h20) fun j21 =>
br b1 (
asS v12 fun s22 =>
asS v16 fun s23 =>
fB (Str.beq s22 s23) fun b24 =>
j21 (AV.bool b24) h17) (
j21 skipV h17)) fun j18 =>
br b1 (
j18 (AV.str a1) h13) (
j18 skipV h13)) fun j14 =>
br b1 (
subK v2 none (some v8) fun s15 =>
j14 (AV.str s15) h9) (
j14 skipV h9)) fun j10 =>
br b1 (
asS v5 fun s11 =>
j10 (AV.int .i64 (Int.ofNat s11.len)) h6) (
j10 skipV h6)) fun j7 =>
br b1 (
j7 (AV.str a1) h3) (
j7 skipV h3)) fun j4 =>
br b1 (
j4 (AV.str a0) h) (
j4 skipV h)
noncomputable def s366 : Str → Str → H → (Bool → H → Prop) → Prop := s366G J0 
noncomputable def w366 (c : Str → Str → H → (Bool → H → Prop) → Prop) : Fun := fun xs h k => arg xs fun a0 xs => arg xs fun a1 xs => noArg xs <| asS a0 fun a0 => asS a1 fun a1 => c a0 a1 h fun r0 h => k (.bool r0) h
theorem s366_eq (J : Joins) (a0 : Str) (a1 : Str) (h : H) (k : AV → H → Prop) : denF ty (gam J []) Tryz.f366 [(.str a0), (.str a1)] h k = s366G J  a0 a1 h (fun r0 h => k (.bool r0) h) := by kernel_rfl
noncomputable def g366 : Fun := w366 s366
theorem g366_ok : FunOk Tryz.prog 366 g366 := (fun_ok ty_ok mixed (gam_ok (J := J0) (tab_nil fls_fun)) Tryz.func366 (fun args w => by simp)).imp fun xs h k e0 => by
  obtain ⟨a0, xs0, rfl, e1⟩ := arg_imp e0
  obtain ⟨a1, xs1, rfl, e2⟩ := arg_imp e1
  obtain ⟨rfl, e3⟩ := noArg_imp e2
  obtain ⟨a0, rfl, e4⟩ := asS_iff.1 e3
  obtain ⟨a1, rfl, e5⟩ := asS_iff.1 e4
  exact (s366_eq J0  a0 a1 h k).mpr e5
/-- strings.HasPrefix -/
noncomputable def s306G (J : Joins) (c366 : Str → Str → H → (Bool → H → Prop) → Prop) (a0 : Str) (a1 : Str) (h : H) (k : Bool → H → Prop) : Prop :=
c366 a0 a1 h fun b2 h1 =>
k b2 h1
noncomputable def s306 : Str → Str → H → (Bool → H → Prop) → Prop := s306G J0 s366
noncomputable def w306 (c : Str → Str → H → (Bool → H → Prop) → Prop) : Fun := fun xs h k => arg xs fun a0 xs => arg xs fun a1 xs => noArg xs <| asS a0 fun a0 => asS a1 fun a1 => c a0 a1 h fun r0 h => k (.bool r0) h
theorem s306_eq (J : Joins) (c366 : Str → Str → H → (Bool → H → Prop) → Prop) (a0 : Str) (a1 : Str) (h : H) (k : AV → H → Prop) : denF ty (gam J [(366, w366 c366)]) Tryz.f306 [(.str a0), (.str a1)] h k = s306G J c366 a0 a1 h (fun r0 h => k (.bool r0) h) := by kernel_rfl
noncomputable def g306 : Fun := w306 s306
theorem g306_ok : FunOk Tryz.prog 306 g306 := (fun_ok ty_ok mixed (gam_ok (J := J0) (tab_cons g366_ok (tab_nil fls_fun))) Tryz.func306 (fun args w => by simp)).imp fun xs h k e0 => by
  obtain ⟨a0, xs0, rfl, e1⟩ := arg_imp e0
  obtain ⟨a1, xs1, rfl, e2⟩ := arg_imp e1
  obtain ⟨rfl, e3⟩ := noArg_imp e2
  obtain ⟨a0, rfl, e4⟩ := asS_iff.1 e3
  obtain ⟨a1, rfl, e5⟩ := asS_iff.1 e4
  exact (s306_eq J0 s366 a0 a1 h k).mpr e5
/-- (*strings.Builder).grow -/
noncomputable def g367 : Fun := denFS ty (gam J0 []) Tryz.f367
theorem g367_ok : FunOk Tryz.prog 367 g367 := fun_okS ty_ok mixed (gam_ok (J := J0) (tab_nil fls_fun)) Tryz.func367 (fun args w => by simp)
/-- (*strings.Builder).Grow -/
noncomputable def g307 : Fun := denFS ty (gam J0 [(309, g309), (367, g367)]) Tryz.f307
theorem g307_ok : FunOk Tryz.prog 307 g307 := fun_okS ty_ok mixed (gam_ok (J := J0) (tab_cons g309_ok (tab_cons g367_ok (tab_nil fls_fun)))) Tryz.func307 (fun args w => by simp)
/-- strings.Repeat -/
noncomputable def g203 : Fun := denFS ty (gam J0 [(117, g117), (277, g277), (305, g305), (306, g306), (307, g307)]) Tryz.f203
theorem g203_ok : FunOk Tryz.prog 203 g203 := fun_okS ty_ok mixed (gam_ok (J := J0) (tab_cons g117_ok (tab_cons g277_ok (tab_cons g305_ok (tab_cons g306_ok (tab_cons g307_ok (tab_nil fls_fun))))))) Tryz.func203 (fun args w => by simp)
/-- stagepost/manifest.named -/
noncomputable def g225 : Fun := denFS ty (gam J0 [(202, g202), (203, g203)]) Tryz.f225
theorem g225_ok : FunOk Tryz.prog 225 g225 := fun_okS ty_ok mixed (gam_ok (J := J0) (tab_cons g202_ok (tab_cons g203_ok (tab_nil fls_fun)))) Tryz.func225 (fun args w => by simp)
/-- stagepost/manifest.first -/
noncomputable def g315 : Fun := denFS ty (gam J0 []) Tryz.f315
theorem g315_ok : FunOk Tryz.prog 315 g315 := fun_okS ty_ok mixed (gam_ok (J := J0) (tab_nil fls_fun)) Tryz.func315 (fun args w => by simp)
/-- stagepost/manifest.known -/
noncomputable def g214 : Fun := denFS ty (gam J0 [(130, g130), (225, g225), (315, g315)]) Tryz.f214
theorem g214_ok : FunOk Tryz.prog 214 g214 := fun_okS ty_ok mixed (gam_ok (J := J0) (tab_cons g130_ok (tab_cons g225_ok (tab_cons g315_ok (tab_nil fls_fun))))) Tryz.func214 (fun args w => by simp)
/-- stagepost/enc.Append -/
noncomputable def s68G (J : Joins) (a0 : AV) (a1 : Int) (h : H) (k : AV → H → Prop) : Prop :=
apB (.slice 5) 5 AV.nils a0 h fun v1 h2 =>
J.lp (α := AV × AV × Unit) (fun r6 v3 d4 h5 =>
asI .u64 v3.1 fun x7 =>
fB (Bool.not (ltI x7 (Int.ofNat 128))) fun b8 =>
br b8 (
asI .u64 v3.1 fun x9 =>
fI (wrapF .u8 x9) fun x10 =>
fI (lorF .u8 x10 (Int.ofNat 128)) fun x11 =>
op' (asRow true 5 [(AV.int .u8 x11)]) fun k14 =>
pushK k14 h5 fun n12 h13 =>
apB (.slice 5) 5 v3.2.1 (AV.slice n12 0 1 1 1 true) h13 fun v15 h16 =>
asI .u64 v3.1 fun x17 =>
fI (shrF x17 (nmin 7 (IntKind.bits .u64))) fun x18 =>
r6 ((AV.int .u64 x18), v15, ()) d4 h16) (
asI .u64 v3.1 fun x19 =>
fI (wrapF .u8 x19) fun x20 =>
op' (asRow true 5 [(AV.int .u8 x20)]) fun k23 =>
pushK k23 h5 fun n21 h22 =>
apB (.slice 5) 5 v3.2.1 (AV.slice n21 0 1 1 1 true) h22 fun v24 h25 =>
leaveK (gam J []) d4 h25 fun h26 =>
k v24 h26)) ((AV.int .u64 a1), v1, ()) [] h2
noncomputable def s68 : AV → Int → H → (AV → H → Prop) → Prop := s68G J0 
noncomputable def w68 (c : AV → Int → H → (AV → H → Prop) → Prop) : Fun := fun xs h k => arg xs fun a0 xs => arg xs fun a1 xs => noArg xs <| asI .u64 a1 fun a1 => c a0 a1 h fun r0 h => k r0 h
theorem s68_eq (J : Joins) (a0 : AV) (a1 : Int) (h : H) (k : AV → H → Prop) : denF ty (gam J []) Tryz.f68 [a0, (.int .u64 a1)] h k = s68G J  a0 a1 h (fun r0 h => k r0 h) := by kernel_rfl
noncomputable def g68 : Fun := w68 s68
theorem g68_ok : FunOk Tryz.prog 68 g68 := (fun_ok ty_ok mixed (gam_ok (J := J0) (tab_nil fls_fun)) Tryz.func68 (fun args w => by simp)).imp fun xs h k e0 => by
  obtain ⟨a0, xs0, rfl, e1⟩ := arg_imp e0
  obtain ⟨a1, xs1, rfl, e2⟩ := arg_imp e1
  obtain ⟨rfl, e3⟩ := noArg_imp e2
  obtain ⟨a1, rfl, e4⟩ := asI_iff.1 e3
  exact (s68_eq J0  a0 a1 h k).mpr e4
/-- stagepost/manifest.numbers -/
noncomputable def g320 : Fun := denFS ty (gam J0 []) Tryz.f320
theorem g320_ok : FunOk Tryz.prog 320 g320 := fun_okS ty_ok mixed (gam_ok (J := J0) (tab_nil fls_fun)) Tryz.func320 (fun args w => by simp)
/-- stagepost/manifest.Encode -/
noncomputable def g215 : Fun := denFS ty (gam J0 [(68, g68), (320, g320)]) Tryz.f215
theorem g215_ok : FunOk Tryz.prog 215 g215 := fun_okS ty_ok mixed (gam_ok (J := J0) (tab_cons g68_ok (tab_cons g320_ok (tab_nil fls_fun)))) Tryz.func215 (fun args w => by simp)
/-- stagepost/manifest.From -/
noncomputable def g216 : Fun := denFS ty (gam J0 [(195, g195)]) Tryz.f216
theorem g216_ok : FunOk Tryz.prog 216 g216 := fun_okS ty_ok mixed (gam_ok (J := J0) (tab_cons g195_ok (tab_nil fls_fun))) Tryz.func216 (fun args w => by simp)
/-- stagepost/crc.More -/
noncomputable def s403G (J : Joins) (a0 : Int) (a1 : AV) (h : H) (k : Int → H → Prop) : Prop :=
op' (aUn .xor (AV.int .u32 a0)) fun v1 =>
asI .u32 v1 fun x2 =>
lenK a1 fun x3 =>
J.lp (α := AV × AV × AV × AV × Unit) (fun r7 v4 d5 h6 =>
asI .i64 v4.2.2.2.1 fun x8 =>
asI .i64 v4.2.2.1 fun x9 =>
fB (ltI x8 x9) fun b10 =>
br b10 (
ixK 1 v4.2.1 v4.2.2.2.1 fun p11 =>
ldI .u8 p11 h6 fun x12 =>
fI (wrapF .u32 x12) fun x13 =>
asI .u32 v4.1 fun x14 =>
fI (lxorF .u32 x14 x13) fun x15 =>
J.lp (α := AV × AV × AV × AV × AV × Unit) (fun r19 v16 d17 h18 =>
asI .i64 v16.2.2.2.2.1 fun x20 =>
fB (ltI x20 (Int.ofNat 8)) fun b21 =>
br b21 (
J.jd (α := AV × AV × AV × AV × AV × Unit) (fun v22 d23 h24 =>
asI .i64 v22.2.2.2.2.1 fun x26 =>
fI (wrapF .i64 (Int.add x26 (Int.ofNat 1))) fun x27 =>
r19 (v22.1, v22.2.1, v22.2.2.1, v22.2.2.2.1, (AV.int .i64 x27), ()) d23 h24) fun j25 =>
asI .u32 v16.1 fun x28 =>
fI (landF .u32 x28 (Int.ofNat 1)) fun x29 =>
asI .u32 v16.1 fun x30 =>
fI (shrF x30 (nmin 1 (IntKind.bits .u32))) fun x31 =>
fB (eqI x29 (Int.ofNat 1)) fun b32 =>
br b32 (
fI (lxorF .u32 x31 (Int.ofNat 2197175160)) fun x33 =>
j25 ((AV.int .u32 x33), v16.2.1, v16.2.2.1, v16.2.2.2.1, v16.2.2.2.2.1, ()) d17 h18) (
j25 ((AV.int .u32 x31), v16.2.1, v16.2.2.1, v16.2.2.2.1, v16.2.2.2.2.1, ()) d17 h18)) (
asI .i64 v16.2.2.2.1 fun x34 =>
fI (wrapF .i64 (Int.add x34 (Int.ofNat 1))) fun x35 =>
r7 (v16.1, v16.2.1, v16.2.2.1, (AV.int .i64 x35), ()) d17 h18)) ((AV.int .u32 x15), v4.2.1, v4.2.2.1, v4.2.2.2.1, (AV.int .i64 (Int.ofNat 0)), ()) d5 h6) (
op' (aUn .xor v4.1) fun v36 =>
asI .u32 v36 fun x37 =>
leaveK (gam J []) d5 h6 fun h38 =>
k x37 h38)) ((AV.int .u32 x2), a1, (AV.int .i64 (Int.ofNat x3)), (AV.int .i64 (Int.ofNat 0)), ()) [] h
noncomputable def s403 : Int → AV → H → (Int → H → Prop) → Prop := s403G J0 
noncomputable def w403 (c : Int → AV → H → (Int → H → Prop) → Prop) : Fun := fun xs h k => arg xs fun a0 xs => arg xs fun a1 xs => noArg xs <| asI .u32 a0 fun a0 => c a0 a1 h fun r0 h => k (.int .u32 r0) h
theorem s403_eq (J : Joins) (a0 : Int) (a1 : AV) (h : H) (k : AV → H → Prop) : denF ty (gam J []) Tryz.f403 [(.int .u32 a0), a1] h k = s403G J  a0 a1 h (fun r0 h => k (.int .u32 r0) h) := by kernel_rfl
noncomputable def g403 : Fun := w403 s403
theorem g403_ok : FunOk Tryz.prog 403 g403 := (fun_ok ty_ok mixed (gam_ok (J := J0) (tab_nil fls_fun)) Tryz.func403 (fun args w => by simp)).imp fun xs h k e0 => by
  obtain ⟨a0, xs0, rfl, e1⟩ := arg_imp e0
  obtain ⟨a1, xs1, rfl, e2⟩ := arg_imp e1
  obtain ⟨rfl, e3⟩ := noArg_imp e2
  obtain ⟨a0, rfl, e4⟩ := asI_iff.1 e3
  exact (s403_eq J0  a0 a1 h k).mpr e4
/-- stagepost/crc.Sum -/
noncomputable def s375G (J : Joins) (c403 : Int → AV → H → (Int → H → Prop) → Prop) (a0 : AV) (h : H) (k : Int → H → Prop) : Prop :=
c403 (Int.ofNat 0) a0 h fun x2 h1 =>
k x2 h1
noncomputable def s375 : AV → H → (Int → H → Prop) → Prop := s375G J0 s403
noncomputable def w375 (c : AV → H → (Int → H → Prop) → Prop) : Fun := fun xs h k => arg xs fun a0 xs => noArg xs <| c a0 h fun r0 h => k (.int .u32 r0) h
theorem s375_eq (J : Joins) (c403 : Int → AV → H → (Int → H → Prop) → Prop) (a0 : AV) (h : H) (k : AV → H → Prop) : denF ty (gam J [(403, w403 c403)]) Tryz.f375 [a0] h k = s375G J c403 a0 h (fun r0 h => k (.int .u32 r0) h) := by kernel_rfl
noncomputable def g375 : Fun := w375 s375
theorem g375_ok : FunOk Tryz.prog 375 g375 := (fun_ok ty_ok mixed (gam_ok (J := J0) (tab_cons g403_ok (tab_nil fls_fun))) Tryz.func375 (fun args w => by simp)).imp fun xs h k e0 => by
  obtain ⟨a0, xs0, rfl, e1⟩ := arg_imp e0
  obtain ⟨rfl, e2⟩ := noArg_imp e1
  exact (s375_eq J0 s403 a0 h k).mpr e2
/-- stagepost/crc.Sealed -/
noncomputable def s323G (J : Joins) (c375 : AV → H → (Int → H → Prop) → Prop) (a0 : AV) (h : H) (k : AV → H → Prop) : Prop :=
apB (.slice 5) 5 AV.nils a0 h fun v1 h2 =>
c375 a0 h2 fun x4 h3 =>
J.lp (α := AV × AV × AV × Unit) (fun r8 v5 d6 h7 =>
asI .i64 v5.2.2.1 fun x9 =>
fB (ltI x9 (Int.ofNat 4)) fun b10 =>
br b10 (
asI .i64 v5.2.2.1 fun x11 =>
fI (wrapF .i64 (Int.mul (Int.ofNat 8) x11)) fun x12 =>
asI .u32 v5.2.1 fun x13 =>
asNat (AV.int .i64 x12) fun n14 =>
fI (shrF x13 (nmin n14 (IntKind.bits .u32))) fun x15 =>
fI (wrapF .u8 x15) fun x16 =>
op' (asRow true 5 [(AV.int .u8 x16)]) fun k19 =>
pushK k19 h7 fun n17 h18 =>
apB (.slice 5) 5 v5.1 (AV.slice n17 0 1 1 1 true) h18 fun v20 h21 =>
asI .i64 v5.2.2.1 fun x22 =>
fI (wrapF .i64 (Int.add x22 (Int.ofNat 1))) fun x23 =>
r8 (v20, v5.2.1, (AV.int .i64 x23), ()) d6 h21) (
leaveK (gam J [(375, w375 c375)]) d6 h7 fun h24 =>
k v5.1 h24)) (v1, (AV.int .u32 x4), (AV.int .i64 (Int.ofNat 0)), ()) [] h3
noncomputable def s323 : AV → H → (AV → H → Prop) → Prop := s323G J0 s375
noncomputable def w323 (c : AV → H → (AV → H → Prop) → Prop) : Fun := fun xs h k => arg xs fun a0 xs => noArg xs <| c a0 h fun r0 h => k r0 h
theorem s323_eq (J : Joins) (c375 : AV → H → (Int → H → Prop) → Prop) (a0 : AV) (h : H) (k : AV → H → Prop) : denF ty (gam J [(375, w375 c375)]) Tryz.f323 [a0] h k = s323G J c375 a0 h (fun r0 h => k r0 h) := by kernel_rfl
noncomputable def g323 : Fun := w323 s323
theorem g323_ok : FunOk Tryz.prog 323 g323 := (fun_ok ty_ok mixed (gam_ok (J := J0) (tab_cons g375_ok (tab_nil fls_fun))) Tryz.func323 (fun args w => by simp)).imp fun xs h k e0 => by
  obtain ⟨a0, xs0, rfl, e1⟩ := arg_imp e0
  obtain ⟨rfl, e2⟩ := noArg_imp e1
  exact (s323_eq J0 s375 a0 h k).mpr e2
end Go.Proofs.YtcifllconkchmaaGreatDoor
