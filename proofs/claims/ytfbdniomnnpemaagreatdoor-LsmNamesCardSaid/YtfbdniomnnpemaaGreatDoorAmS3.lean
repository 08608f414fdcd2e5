/- Functions as they are reckoned. MADE BY PROGRAM (wip/tools/shal.py). -/
import Derived.Test.YtfbdniomnnpemaaGreatDoorAmS2
namespace Go.Proofs.YtfbdniomnnpemaaGreatDoor
open Go Go.Am
set_option maxRecDepth 100000
set_option linter.all false
/-- (*stagepost/vfs.FS).file -/
noncomputable def s101G (J : Joins) (c106 : AV → H → (AV → H → Prop) → Prop) (c123 : AV → AV → H → (Int → H → Prop) → Prop) (a0 : AV) (a1 : Str) (h : H) (k : Int → Int → H → Prop) : Prop :=
pushK (.cells false 9 [(AV.str a1)]) h fun n1 h2 =>
c123 a0 (AV.slice n1 0 1 1 1 true) h2 fun x4 h3 =>
fB (Bool.not (eqI x4 (Int.ofNat 0))) fun b5 =>
br b5 (
k (Int.ofNat 0) x4 h3) (
c106 a0 h3 fun v7 h6 =>
Go.Am.asAgg v7 fun l8 =>
op' (lgetO l8 1) fun v9 =>
op' (aLookup ty 9 3 true v9 (AV.str a1) h6) fun v10 =>
asTup v10 fun l11 =>
op' (lgetO l11 0) fun v12 =>
asI .i64 v12 fun x13 =>
asTup v10 fun l14 =>
op' (lgetO l14 1) fun v15 =>
asB v15 fun b16 =>
fB (Bool.not b16) fun b17 =>
br b17 (
k (Int.ofNat 0) (Int.ofNat 4) h6) (
k x13 (Int.ofNat 0) h6))
noncomputable def s101 : AV → Str → H → (Int → Int → H → Prop) → Prop := s101G J0 s106 s123
noncomputable def w101 (c : AV → Str → H → (Int → Int → H → Prop) → Prop) : Fun := fun xs h k => arg xs fun a0 xs => arg xs fun a1 xs => noArg xs <| asS a1 fun a1 => c a0 a1 h fun r0 r1 h => k (.tuple [(.int .i64 r0), (.int .i64 r1)]) h
theorem s101_eq (J : Joins) (c106 : AV → H → (AV → H → Prop) → Prop) (c123 : AV → AV → H → (Int → H → Prop) → Prop) (a0 : AV) (a1 : Str) (h : H) (k : AV → H → Prop) : denF ty (gam J [(106, w106 c106), (123, w123 c123)]) Tryz.f101 [a0, (.str a1)] h k = s101G J c106 c123 a0 a1 h (fun r0 r1 h => k (.tuple [(.int .i64 r0), (.int .i64 r1)]) h) := by kernel_rfl
noncomputable def g101 : Fun := w101 s101
theorem g101_ok : FunOk Tryz.prog 101 g101 := (fun_ok ty_ok mixed (gam_ok (J := J0) (tab_cons g106_ok (tab_cons g123_ok (tab_nil fls_fun)))) Tryz.func101 (fun args w => by simp)).imp fun xs h k e0 => by
  obtain ⟨a0, xs0, rfl, e1⟩ := arg_imp e0
  obtain ⟨a1, xs1, rfl, e2⟩ := arg_imp e1
  obtain ⟨rfl, e3⟩ := noArg_imp e2
  obtain ⟨a1, rfl, e4⟩ := asS_iff.1 e3
  exact (s101_eq J0 s106 s123 a0 a1 h k).mpr e4
/-- (*stagepost/vfs.FS).Read -/
noncomputable def g56 : Fun := denFS ty (gam J0 [(101, g101), (105, g105), (106, g106)]) Tryz.f56
theorem g56_ok : FunOk Tryz.prog 56 g56 := fun_okS ty_ok mixed (gam_ok (J := J0) (tab_cons g101_ok (tab_cons g105_ok (tab_cons g106_ok (tab_nil fls_fun))))) Tryz.func56 (fun args w => by simp)
/-- stagepost/wal.off -/
noncomputable def g120 : Fun := denFS ty (gam J0 [(56, g56)]) Tryz.f120
theorem g120_ok : FunOk Tryz.prog 120 g120 := fun_okS ty_ok mixed (gam_ok (J := J0) (tab_cons g56_ok (tab_nil fls_fun))) Tryz.func120 (fun args w => by simp)
/-- (*stagepost/wal.Wal).asked -/
noncomputable def g69 : Fun := denFS ty (gam J0 [(120, g120)]) Tryz.f69
theorem g69_ok : FunOk Tryz.prog 69 g69 := fun_okS ty_ok mixed (gam_ok (J := J0) (tab_cons g120_ok (tab_nil fls_fun))) Tryz.func69 (fun args w => by simp)
/-- internal/strconv.small -/
noncomputable def g230 : Fun := denFS ty (gam J0 []) Tryz.f230
theorem g230_ok : FunOk Tryz.prog 230 g230 := fun_okS ty_ok mixed (gam_ok (J := J0) (tab_nil fls_fun)) Tryz.func230 (fun args w => by simp)
/-- math/bits.Len64 -/
noncomputable def s246G (J : Joins) (a0 : Int) (h : H) (k : Int → H → Prop) : Prop :=
J.jd (α := AV × AV × Unit) (fun v1 d2 h3 =>
J.jd (α := AV × AV × Unit) (fun v5 d6 h7 =>
J.jd (α := AV × AV × Unit) (fun v9 d10 h11 =>
asI .u64 v9.1 fun x13 =>
fI (wrapF .u8 x13) fun x14 =>
ixsK (AV.str ⟨256, 496986003408712215933005303621146343841837811690876167382323004466384420695090407243345123874780946046625255262057845613767806773758184921447759720770971536008171983842311960805720366577116933250839345203839274948261284255908394484732272583221484877694546905335834403051067785895034095251181560891789708940188598129052595634438001880866652824740680664595948164050600812232986714152902334120417949232733424961741260388658846598210939813666227264727603044226856020347194099943897342244906131705541414413428559898943151040826816076322978570758226444464494629814583418847495712557856038296917933182380796641777551368⟩) (AV.int .u8 x14) fun x15 =>
fI (wrapF .i64 x15) fun x16 =>
asI .i64 v9.2.1 fun x17 =>
fI (wrapF .i64 (Int.add x17 x16)) fun x18 =>
leaveK (gam J []) d10 h11 fun h19 =>
k x18 h19) fun j12 =>
asI .u64 v5.1 fun x20 =>
fB (Bool.not (ltI x20 (Int.ofNat 256))) fun b21 =>
br b21 (
asI .u64 v5.1 fun x22 =>
fI (shrF x22 (nmin 8 (IntKind.bits .u64))) fun x23 =>
asI .i64 v5.2.1 fun x24 =>
fI (wrapF .i64 (Int.add x24 (Int.ofNat 8))) fun x25 =>
j12 ((AV.int .u64 x23), (AV.int .i64 x25), ()) d6 h7) (
j12 (v5.1, v5.2.1, ()) d6 h7)) fun j8 =>
asI .u64 v1.1 fun x26 =>
fB (Bool.not (ltI x26 (Int.ofNat 65536))) fun b27 =>
br b27 (
asI .u64 v1.1 fun x28 =>
fI (shrF x28 (nmin 16 (IntKind.bits .u64))) fun x29 =>
asI .i64 v1.2.1 fun x30 =>
fI (wrapF .i64 (Int.add x30 (Int.ofNat 16))) fun x31 =>
j8 ((AV.int .u64 x29), (AV.int .i64 x31), ()) d2 h3) (
j8 (v1.1, v1.2.1, ()) d2 h3)) fun j4 =>
fB (Bool.not (ltI a0 (Int.ofNat 4294967296))) fun b32 =>
br b32 (
fI (shrF a0 (nmin 32 (IntKind.bits .u64))) fun x33 =>
j4 ((AV.int .u64 x33), (AV.int .i64 (Int.ofNat 32)), ()) [] h) (
j4 ((AV.int .u64 a0), (AV.int .i64 (Int.ofNat 0)), ()) [] h)
noncomputable def s246 : Int → H → (Int → H → Prop) → Prop := s246G J0 
noncomputable def w246 (c : Int → H → (Int → H → Prop) → Prop) : Fun := fun xs h k => arg xs fun a0 xs => noArg xs <| asI .u64 a0 fun a0 => c a0 h fun r0 h => k (.int .i64 r0) h
theorem s246_eq (J : Joins) (a0 : Int) (h : H) (k : AV → H → Prop) : denF ty (gam J []) Tryz.f246 [(.int .u64 a0)] h k = s246G J  a0 h (fun r0 h => k (.int .i64 r0) h) := by kernel_rfl
noncomputable def g246 : Fun := w246 s246
theorem g246_ok : FunOk Tryz.prog 246 g246 := (fun_ok ty_ok mixed (gam_ok (J := J0) (tab_nil fls_fun)) Tryz.func246 (fun args w => by simp)).imp fun xs h k e0 => by
  obtain ⟨a0, xs0, rfl, e1⟩ := arg_imp e0
  obtain ⟨rfl, e2⟩ := noArg_imp e1
  obtain ⟨a0, rfl, e3⟩ := asI_iff.1 e2
  exact (s246_eq J0  a0 h k).mpr e3
/-- internal/strconv.log10Pow2 -/
noncomputable def g252 : Fun := denFS ty (gam J0 []) Tryz.f252
theorem g252_ok : FunOk Tryz.prog 252 g252 := fun_okS ty_ok mixed (gam_ok (J := J0) (tab_nil fls_fun)) Tryz.func252 (fun args w => by simp)
/-- internal/strconv.bool2[int] -/
noncomputable def g253 : Fun := denFS ty (gam J0 []) Tryz.f253
theorem g253_ok : FunOk Tryz.prog 253 g253 := fun_okS ty_ok mixed (gam_ok (J := J0) (tab_nil fls_fun)) Tryz.func253 (fun args w => by simp)
/-- internal/strconv.numDigits -/
noncomputable def g231 : Fun := denFS ty (gam J0 [(246, g246), (252, g252), (253, g253)]) Tryz.f231
theorem g231_ok : FunOk Tryz.prog 231 g231 := fun_okS ty_ok mixed (gam_ok (J := J0) (tab_cons g246_ok (tab_cons g252_ok (tab_cons g253_ok (tab_nil fls_fun))))) Tryz.func231 (fun args w => by simp)
/-- internal/strconv.formatBase10 -/
noncomputable def g232 : Fun := denFS ty (gam J0 []) Tryz.f232
theorem g232_ok : FunOk Tryz.prog 232 g232 := fun_okS ty_ok mixed (gam_ok (J := J0) (tab_nil fls_fun)) Tryz.func232 (fun args w => by simp)
/-- internal/strconv.FormatInt -/
noncomputable def g205 : Fun := denFS ty (gam J0 [(230, g230), (231, g231), (232, g232)]) Tryz.f205
theorem g205_ok : FunOk Tryz.prog 205 g205 := fun_okS ty_ok mixed (gam_ok (J := J0) (tab_cons g230_ok (tab_cons g231_ok (tab_cons g232_ok (tab_nil fls_fun))))) Tryz.func205 (fun args w => by simp)
/-- internal/strconv.Itoa -/
noncomputable def g160 : Fun := denFS ty (gam J0 [(205, g205)]) Tryz.f160
theorem g160_ok : FunOk Tryz.prog 160 g160 := fun_okS ty_ok mixed (gam_ok (J := J0) (tab_cons g205_ok (tab_nil fls_fun))) Tryz.func160 (fun args w => by simp)
/-- strconv.Itoa -/
noncomputable def g103 : Fun := denFS ty (gam J0 [(160, g160)]) Tryz.f103
theorem g103_ok : FunOk Tryz.prog 103 g103 := fun_okS ty_ok mixed (gam_ok (J := J0) (tab_cons g160_ok (tab_nil fls_fun))) Tryz.func103 (fun args w => by simp)
/-- math/bits.Mul32 -/
noncomputable def s206G (J : Joins) (a0 : Int) (a1 : Int) (h : H) (k : Int → Int → H → Prop) : Prop :=
fI (wrapF .u64 a0) fun x1 =>
fI (wrapF .u64 a1) fun x2 =>
fI (wrapF .u64 (Int.mul x1 x2)) fun x3 =>
fI (shrF x3 (nmin 32 (IntKind.bits .u64))) fun x4 =>
fI (wrapF .u32 x4) fun x5 =>
fI (wrapF .u32 x3) fun x6 =>
k x5 x6 h
noncomputable def s206 : Int → Int → H → (Int → Int → H → Prop) → Prop := s206G J0 
noncomputable def w206 (c : Int → Int → H → (Int → Int → H → Prop) → Prop) : Fun := fun xs h k => arg xs fun a0 xs => arg xs fun a1 xs => noArg xs <| asI .u32 a0 fun a0 => asI .u32 a1 fun a1 => c a0 a1 h fun r0 r1 h => k (.tuple [(.int .u32 r0), (.int .u32 r1)]) h
theorem s206_eq (J : Joins) (a0 : Int) (a1 : Int) (h : H) (k : AV → H → Prop) : denF ty (gam J []) Tryz.f206 [(.int .u32 a0), (.int .u32 a1)] h k = s206G J  a0 a1 h (fun r0 r1 h => k (.tuple [(.int .u32 r0), (.int .u32 r1)]) h) := by kernel_rfl
noncomputable def g206 : Fun := w206 s206
theorem g206_ok : FunOk Tryz.prog 206 g206 := (fun_ok ty_ok mixed (gam_ok (J := J0) (tab_nil fls_fun)) Tryz.func206 (fun args w => by simp)).imp fun xs h k e0 => by
  obtain ⟨a0, xs0, rfl, e1⟩ := arg_imp e0
  obtain ⟨a1, xs1, rfl, e2⟩ := arg_imp e1
  obtain ⟨rfl, e3⟩ := noArg_imp e2
  obtain ⟨a0, rfl, e4⟩ := asI_iff.1 e3
  obtain ⟨a1, rfl, e5⟩ := asI_iff.1 e4
  exact (s206_eq J0  a0 a1 h k).mpr e5
/-- math/bits.Mul64 -/
noncomputable def s207G (J : Joins) (a0 : Int) (a1 : Int) (h : H) (k : Int → Int → H → Prop) : Prop :=
fI (landF .u64 a0 (Int.ofNat 4294967295)) fun x1 =>
fI (shrF a0 (nmin 32 (IntKind.bits .u64))) fun x2 =>
fI (landF .u64 a1 (Int.ofNat 4294967295)) fun x3 =>
fI (shrF a1 (nmin 32 (IntKind.bits .u64))) fun x4 =>
fI (wrapF .u64 (Int.mul x1 x3)) fun x5 =>
fI (wrapF .u64 (Int.mul x2 x3)) fun x6 =>
fI (shrF x5 (nmin 32 (IntKind.bits .u64))) fun x7 =>
fI (wrapF .u64 (Int.add x6 x7)) fun x8 =>
fI (landF .u64 x8 (Int.ofNat 4294967295)) fun x9 =>
fI (shrF x8 (nmin 32 (IntKind.bits .u64))) fun x10 =>
fI (wrapF .u64 (Int.mul x1 x4)) fun x11 =>
fI (wrapF .u64 (Int.add x9 x11)) fun x12 =>
fI (wrapF .u64 (Int.mul x2 x4)) fun x13 =>
fI (wrapF .u64 (Int.add x13 x10)) fun x14 =>
fI (shrF x12 (nmin 32 (IntKind.bits .u64))) fun x15 =>
fI (wrapF .u64 (Int.add x14 x15)) fun x16 =>
fI (wrapF .u64 (Int.mul a0 a1)) fun x17 =>
k x16 x17 h
noncomputable def s207 : Int → Int → H → (Int → Int → H → Prop) → Prop := s207G J0 
noncomputable def w207 (c : Int → Int → H → (Int → Int → H → Prop) → Prop) : Fun := fun xs h k => arg xs fun a0 xs => arg xs fun a1 xs => noArg xs <| asI .u64 a0 fun a0 => asI .u64 a1 fun a1 => c a0 a1 h fun r0 r1 h => k (.tuple [(.int .u64 r0), (.int .u64 r1)]) h
theorem s207_eq (J : Joins) (a0 : Int) (a1 : Int) (h : H) (k : AV → H → Prop) : denF ty (gam J []) Tryz.f207 [(.int .u64 a0), (.int .u64 a1)] h k = s207G J  a0 a1 h (fun r0 r1 h => k (.tuple [(.int .u64 r0), (.int .u64 r1)]) h) := by kernel_rfl
noncomputable def g207 : Fun := w207 s207
theorem g207_ok : FunOk Tryz.prog 207 g207 := (fun_ok ty_ok mixed (gam_ok (J := J0) (tab_nil fls_fun)) Tryz.func207 (fun args w => by simp)).imp fun xs h k e0 => by
  obtain ⟨a0, xs0, rfl, e1⟩ := arg_imp e0
  obtain ⟨a1, xs1, rfl, e2⟩ := arg_imp e1
  obtain ⟨rfl, e3⟩ := noArg_imp e2
  obtain ⟨a0, rfl, e4⟩ := asI_iff.1 e3
  obtain ⟨a1, rfl, e5⟩ := asI_iff.1 e4
  exact (s207_eq J0  a0 a1 h k).mpr e5
/-- math/bits.Mul -/
noncomputable def s161G (J : Joins) (c206 : Int → Int → H → (Int → Int → H → Prop) → Prop) (c207 : Int → Int → H → (Int → Int → H → Prop) → Prop) (a0 : Int) (a1 : Int) (h : H) (k : Int → Int → H → Prop) : Prop :=
br false (
fI (wrapF .u32 a0) fun x1 =>
fI (wrapF .u32 a1) fun x2 =>
c206 x1 x2 h fun x4 x5 h3 =>
fI (wrapF .u64 x4) fun x6 =>
fI (wrapF .u64 x5) fun x7 =>
k x6 x7 h3) (
c207 a0 a1 h fun x9 x10 h8 =>
k x9 x10 h8)
noncomputable def s161 : Int → Int → H → (Int → Int → H → Prop) → Prop := s161G J0 s206 s207
noncomputable def w161 (c : Int → Int → H → (Int → Int → H → Prop) → Prop) : Fun := fun xs h k => arg xs fun a0 xs => arg xs fun a1 xs => noArg xs <| asI .u64 a0 fun a0 => asI .u64 a1 fun a1 => c a0 a1 h fun r0 r1 h => k (.tuple [(.int .u64 r0), (.int .u64 r1)]) h
theorem s161_eq (J : Joins) (c206 : Int → Int → H → (Int → Int → H → Prop) → Prop) (c207 : Int → Int → H → (Int → Int → H → Prop) → Prop) (a0 : Int) (a1 : Int) (h : H) (k : AV → H → Prop) : denF ty (gam J [(206, w206 c206), (207, w207 c207)]) Tryz.f161 [(.int .u64 a0), (.int .u64 a1)] h k = s161G J c206 c207 a0 a1 h (fun r0 r1 h => k (.tuple [(.int .u64 r0), (.int .u64 r1)]) h) := by kernel_rfl
noncomputable def g161 : Fun := w161 s161
theorem g161_ok : FunOk Tryz.prog 161 g161 := (fun_ok ty_ok mixed (gam_ok (J := J0) (tab_cons g206_ok (tab_cons g207_ok (tab_nil fls_fun)))) Tryz.func161 (fun args w => by simp)).imp fun xs h k e0 => by
  obtain ⟨a0, xs0, rfl, e1⟩ := arg_imp e0
  obtain ⟨a1, xs1, rfl, e2⟩ := arg_imp e1
  obtain ⟨rfl, e3⟩ := noArg_imp e2
  obtain ⟨a0, rfl, e4⟩ := asI_iff.1 e3
  obtain ⟨a1, rfl, e5⟩ := asI_iff.1 e4
  exact (s161_eq J0 s206 s207 a0 a1 h k).mpr e5
/-- internal/stringslite.HasPrefix -/
noncomputable def s208G (J : Joins) (a0 : Str) (a1 : Str) (h : H) (k : Bool → H → Prop) : Prop :=
fB (Bool.not (ltI (Int.ofNat a0.len) (Int.ofNat a1.len))) fun b1 =>
J.jn (fun v2 h3 =>
J.jn (fun v5 h6 =>
J.jn (fun v8 h9 =>
J.jn (fun v12 h13 =>
J.jn (fun v16 h17 =>
J.jn (fun v19 h20 =>
pickB (AV.bool b1) v19 (AV.bool false) fun b25 =>
k b25 h20) fun j21 =>
br b1 (
asS v12 fun s22 =>
asS v16 fun s23 =>
fB (Str.beq s22 s23) fun b24 =>
j21 (AV.bool b24) h17) (
j21 skipV h17)) fun j18 =>
br b1 (
j18 (AV.str a1) h13) (
j18 skipV h13)) fun j14 =>
br b1 (
subK v2 none (some v8) fun s15 =>
j14 (AV.str s15) h9) (
j14 skipV h9)) fun j10 =>
br b1 (
asS v5 fun s11 =>
j10 (AV.int .i64 (Int.ofNat s11.len)) h6) (
j10 skipV h6)) fun j7 =>
br b1 (
j7 (AV.str a1) h3) (
j7 skipV h3)) fun j4 =>
br b1 (
j4 (AV.str a0) h) (
j4 skipV h)
noncomputable def s208 : Str → Str → H → (Bool → H → Prop) → Prop := s208G J0 
noncomputable def w208 (c : Str → Str → H → (Bool → H → Prop) → Prop) : Fun := fun xs h k => arg xs fun a0 xs => arg xs fun a1 xs => noArg xs <| asS a0 fun a0 => asS a1 fun a1 => c a0 a1 h fun r0 h => k (.bool r0) h
theorem s208_eq (J : Joins) (a0 : Str) (a1 : Str) (h : H) (k : AV → H → Prop) : denF ty (gam J []) Tryz.f208 [(.str a0), (.str a1)] h k = s208G J  a0 a1 h (fun r0 h => k (.bool r0) h) := by kernel_rfl
noncomputable def g208 : Fun := w208 s208
theorem g208_ok : FunOk Tryz.prog 208 g208 := (fun_ok ty_ok mixed (gam_ok (J := J0) (tab_nil fls_fun)) Tryz.func208 (fun args w => by simp)).imp fun xs h k e0 => by
  obtain ⟨a0, xs0, rfl, e1⟩ := arg_imp e0
  obtain ⟨a1, xs1, rfl, e2⟩ := arg_imp e1
  obtain ⟨rfl, e3⟩ := noArg_imp e2
  obtain ⟨a0, rfl, e4⟩ := asS_iff.1 e3
  obtain ⟨a1, rfl, e5⟩ := asS_iff.1 e4
  exact (s208_eq J0  a0 a1 h k).mpr e5
/-- strings.HasPrefix -/
noncomputable def s162G (J : Joins) (c208 : Str → Str → H → (Bool → H → Prop) → Prop) (a0 : Str) (a1 : Str) (h : H) (k : Bool → H → Prop) : Prop :=
c208 a0 a1 h fun b2 h1 =>
k b2 h1
noncomputable def s162 : Str → Str → H → (Bool → H → Prop) → Prop := s162G J0 s208
noncomputable def w162 (c : Str → Str → H → (Bool → H → Prop) → Prop) : Fun := fun xs h k => arg xs fun a0 xs => arg xs fun a1 xs => noArg xs <| asS a0 fun a0 => asS a1 fun a1 => c a0 a1 h fun r0 h => k (.bool r0) h
theorem s162_eq (J : Joins) (c208 : Str → Str → H → (Bool → H → Prop) → Prop) (a0 : Str) (a1 : Str) (h : H) (k : AV → H → Prop) : denF ty (gam J [(208, w208 c208)]) Tryz.f162 [(.str a0), (.str a1)] h k = s162G J c208 a0 a1 h (fun r0 h => k (.bool r0) h) := by kernel_rfl
noncomputable def g162 : Fun := w162 s162
theorem g162_ok : FunOk Tryz.prog 162 g162 := (fun_ok ty_ok mixed (gam_ok (J := J0) (tab_cons g208_ok (tab_nil fls_fun))) Tryz.func162 (fun args w => by simp)).imp fun xs h k e0 => by
  obtain ⟨a0, xs0, rfl, e1⟩ := arg_imp e0
  obtain ⟨a1, xs1, rfl, e2⟩ := arg_imp e1
  obtain ⟨rfl, e3⟩ := noArg_imp e2
  obtain ⟨a0, rfl, e4⟩ := asS_iff.1 e3
  obtain ⟨a1, rfl, e5⟩ := asS_iff.1 e4
  exact (s162_eq J0 s208 a0 a1 h k).mpr e5
/-- internal/abi.NoEscape -/
noncomputable def g234 : Fun := noEsc
theorem g234_ok : FunOk Tryz.prog 234 g234 := noEscape_ok Tryz.func234 (by kernel_rfl) (by kernel_rfl) (by kernel_rfl) (by kernel_rfl)
/-- (*strings.Builder).copyCheck -/
noncomputable def s209G (J : Joins) (c234 : Fun) (a0 : AV) (h : H) (k : H → Prop) : Prop :=
okNil a0 (
faK 0 a0 fun p1 =>
ldV p1 h fun v2 =>
nilB 0 v2 fun b3 =>
br b3 (
op' (aToU a0 h) fun v4 =>
c234 [v4] h fun v5 h6 =>
op' (aOfU 254 2 v5 h6) fun v7 =>
okNil a0 (
faK 0 a0 fun p8 =>
stV p8 v7 h6 fun h9 =>
k  h9)) (
okNil a0 (
faK 0 a0 fun p10 =>
ldV p10 h fun v11 =>
obK (aBin ty .neq 252 false v11 a0) fun b12 =>
br b12 (
False) (
k  h))))
noncomputable def s209 : AV → H → (H → Prop) → Prop := s209G J0 g234
noncomputable def w209 (c : AV → H → (H → Prop) → Prop) : Fun := fun xs h k => arg xs fun a0 xs => noArg xs <| c a0 h fun  h => k (.tuple []) h
theorem s209_eq (J : Joins) (c234 : Fun) (a0 : AV) (h : H) (k : AV → H → Prop) : denF ty (gam J [(234, c234)]) Tryz.f209 [a0] h k = s209G J c234 a0 h (fun  h => k (.tuple []) h) := by kernel_rfl
noncomputable def g209 : Fun := w209 s209
theorem g209_ok : FunOk Tryz.prog 209 g209 := (fun_ok ty_ok mixed (gam_ok (J := J0) (tab_cons g234_ok (tab_nil fls_fun))) Tryz.func209 (fun args w => by simp)).imp fun xs h k e0 => by
  obtain ⟨a0, xs0, rfl, e1⟩ := arg_imp e0
  obtain ⟨rfl, e2⟩ := noArg_imp e1
  exact (s209_eq J0 g234 a0 h k).mpr e2
/-- (*strings.Builder).grow -/
noncomputable def g210 : Fun := denFS ty (gam J0 []) Tryz.f210
theorem g210_ok : FunOk Tryz.prog 210 g210 := fun_okS ty_ok mixed (gam_ok (J := J0) (tab_nil fls_fun)) Tryz.func210 (fun args w => by simp)
/-- (*strings.Builder).Grow -/
noncomputable def g163 : Fun := denFS ty (gam J0 [(209, g209), (210, g210)]) Tryz.f163
theorem g163_ok : FunOk Tryz.prog 163 g163 := fun_okS ty_ok mixed (gam_ok (J := J0) (tab_cons g209_ok (tab_cons g210_ok (tab_nil fls_fun)))) Tryz.func163 (fun args w => by simp)
/-- (*strings.Builder).WriteString -/
noncomputable def s164G (J : Joins) (c209 : AV → H → (H → Prop) → Prop) (a0 : AV) (a1 : Str) (h : H) (k : Int → AV → H → Prop) : Prop :=
c209 a0 h fun  h1 =>
okNil a0 (
faK 1 a0 fun p2 =>
ldV p2 h1 fun v3 =>
apB .str 5 v3 (AV.str a1) h1 fun v4 h5 =>
okNil a0 (
faK 1 a0 fun p6 =>
stV p6 v4 h5 fun h7 =>
k (Int.ofNat a1.len) AV.nili h7))
noncomputable def s164 : AV → Str → H → (Int → AV → H → Prop) → Prop := s164G J0 s209
noncomputable def w164 (c : AV → Str → H → (Int → AV → H → Prop) → Prop) : Fun := fun xs h k => arg xs fun a0 xs => arg xs fun a1 xs => noArg xs <| asS a1 fun a1 => c a0 a1 h fun r0 r1 h => k (.tuple [(.int .i64 r0), r1]) h
theorem s164_eq (J : Joins) (c209 : AV → H → (H → Prop) → Prop) (a0 : AV) (a1 : Str) (h : H) (k : AV → H → Prop) : denF ty (gam J [(209, w209 c209)]) Tryz.f164 [a0, (.str a1)] h k = s164G J c209 a0 a1 h (fun r0 r1 h => k (.tuple [(.int .i64 r0), r1]) h) := by kernel_rfl
noncomputable def g164 : Fun := w164 s164
theorem g164_ok : FunOk Tryz.prog 164 g164 := (fun_ok ty_ok mixed (gam_ok (J := J0) (tab_cons g209_ok (tab_nil fls_fun))) Tryz.func164 (fun args w => by simp)).imp fun xs h k e0 => by
  obtain ⟨a0, xs0, rfl, e1⟩ := arg_imp e0
  obtain ⟨a1, xs1, rfl, e2⟩ := arg_imp e1
  obtain ⟨rfl, e3⟩ := noArg_imp e2
  obtain ⟨a1, rfl, e4⟩ := asS_iff.1 e3
  exact (s164_eq J0 s209 a0 a1 h k).mpr e4
/-- (*strings.Builder).String -/
noncomputable def g166 : Fun := denFS ty (gam J0 []) Tryz.f166
theorem g166_ok : FunOk Tryz.prog 166 g166 := fun_okS ty_ok mixed (gam_ok (J := J0) (tab_nil fls_fun)) Tryz.func166 (fun args w => by simp)
/-- strings.Repeat -/
noncomputable def g104 : Fun := denFS ty (gam J0 [(161, g161), (162, g162), (163, g163), (164, g164), (166, g166)]) Tryz.f104
theorem g104_ok : FunOk Tryz.prog 104 g104 := fun_okS ty_ok mixed (gam_ok (J := J0) (tab_cons g161_ok (tab_cons g162_ok (tab_cons g163_ok (tab_cons g164_ok (tab_cons g166_ok (tab_nil fls_fun))))))) Tryz.func104 (fun args w => by simp)
/-- stagepost/wal.Name -/
noncomputable def g73 : Fun := denFS ty (gam J0 [(103, g103), (104, g104)]) Tryz.f73
theorem g73_ok : FunOk Tryz.prog 73 g73 := fun_okS ty_ok mixed (gam_ok (J := J0) (tab_cons g103_ok (tab_cons g104_ok (tab_nil fls_fun)))) Tryz.func73 (fun args w => by simp)
/-- (*stagepost/wal.Wal).seen -/
noncomputable def g74 : Fun := denFS ty (gam J0 []) Tryz.f74
theorem g74_ok : FunOk Tryz.prog 74 g74 := fun_okS ty_ok mixed (gam_ok (J := J0) (tab_nil fls_fun)) Tryz.func74 (fun args w => by simp)
/-- (*stagepost/vfs.FS).raw -/
noncomputable def s159G (J : Joins) (a0 : AV) (h : H) (k : Int → H → Prop) : Prop :=
okNil a0 (
faK 6 a0 fun p1 =>
ldB p1 h fun b2 =>
J.jn (fun v3 h4 =>
J.jn (fun v6 h7 =>
J.jn (fun v9 h10 =>
J.jn (fun v13 h14 =>
J.jn (fun v17 h18 =>
pickB (AV.bool b2) v17 (AV.bool false) fun b22 =>
br b22 (
okNil a0 (
faK 5 a0 fun p23 =>
stV p23 (AV.bool true) h18 fun h24 =>
k (Int.ofNat 7) h24)) (
J.jd (α := AV × Unit) (fun v25 d26 h27 =>
okNil v25.1 (
faK 8 v25.1 fun p29 =>
ldI .i64 p29 h27 fun x30 =>
fI (wrapF .i64 (Int.add x30 (Int.ofNat 1))) fun x31 =>
okNil v25.1 (
faK 8 v25.1 fun p32 =>
stV p32 (AV.int .i64 x31) h27 fun h33 =>
leaveK (gam J []) d26 h33 fun h34 =>
k (Int.ofNat 0) h34))) fun j28 =>
okNil a0 (
faK 6 a0 fun p35 =>
ldB p35 h18 fun b36 =>
br b36 (
okNil a0 (
faK 7 a0 fun p37 =>
ldI .i64 p37 h18 fun x38 =>
fI (wrapF .i64 (Int.sub x38 (Int.ofNat 1))) fun x39 =>
okNil a0 (
faK 7 a0 fun p40 =>
stV p40 (AV.int .i64 x39) h18 fun h41 =>
j28 (a0, ()) [] h41))) (
j28 (a0, ()) [] h18)))) fun j19 =>
br b2 (
asI .i64 v13 fun x20 =>
fB (eqI x20 (Int.ofNat 0)) fun b21 =>
j19 (AV.bool b21) h14) (
j19 skipV h14)) fun j15 =>
br b2 (
ldI .i64 v9 h10 fun x16 =>
j15 (AV.int .i64 x16) h10) (
j15 skipV h10)) fun j11 =>
br b2 (
faK 7 v6 fun p12 =>
j11 p12 h7) (
j11 skipV h7)) fun j8 =>
br b2 (
okNil v3 (
j8 v3 h4)) (
j8 skipV h4)) fun j5 =>
br b2 (
j5 a0 h) (
j5 skipV h))
noncomputable def s159 : AV → H → (Int → H → Prop) → Prop := s159G J0 
noncomputable def w159 (c : AV → H → (Int → H → Prop) → Prop) : Fun := fun xs h k => arg xs fun a0 xs => noArg xs <| c a0 h fun r0 h => k (.int .i64 r0) h
theorem s159_eq (J : Joins) (a0 : AV) (h : H) (k : AV → H → Prop) : denF ty (gam J []) Tryz.f159 [a0] h k = s159G J  a0 h (fun r0 h => k (.int .i64 r0) h) := by kernel_rfl
noncomputable def g159 : Fun := w159 s159
theorem g159_ok : FunOk Tryz.prog 159 g159 := (fun_ok ty_ok mixed (gam_ok (J := J0) (tab_nil fls_fun)) Tryz.func159 (fun args w => by simp)).imp fun xs h k e0 => by
  obtain ⟨a0, xs0, rfl, e1⟩ := arg_imp e0
  obtain ⟨rfl, e2⟩ := noArg_imp e1
  exact (s159_eq J0  a0 h k).mpr e2
/-- (*stagepost/vfs.FS).pend -/
noncomputable def g102 : Fun := denFS ty (gam J0 [(159, g159)]) Tryz.f102
theorem g102_ok : FunOk Tryz.prog 102 g102 := fun_okS ty_ok mixed (gam_ok (J := J0) (tab_cons g159_ok (tab_nil fls_fun))) Tryz.func102 (fun args w => by simp)
end Go.Proofs.YtfbdniomnnpemaaGreatDoor
