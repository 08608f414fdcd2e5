/- Functions as they are reckoned. MADE BY PROGRAM (wip/tools/shal.py). -/
import Derived.Test.YtfbdniomnnpemaaGreatDoorAmS0
namespace Go.Proofs.YtfbdniomnnpemaaGreatDoor
open Go Go.Am
set_option maxRecDepth 100000
set_option linter.all false
/-- stagepost/block.Decode$2 -/
noncomputable def g194 : Fun := denFS ty (gam J0 [(85, g85), (192, g192)]) Tryz.f194
theorem g194_ok : FunOk Tryz.prog 194 g194 := fun_okS ty_ok mixed (gam_ok (J := J0) (tab_cons g85_ok (tab_cons g192_ok (tab_nil fls_fun)))) Tryz.func194 (fun args w => by simp)
/-- sort.Search -/
noncomputable def g84 : Fun := denFS ty (gam J0 [(85, g85), (192, g192), (194, g194)]) Tryz.f84
theorem g84_ok : FunOk Tryz.prog 84 g84 := fun_okS ty_ok mixed (gam_ok (J := J0) (tab_cons g85_ok (tab_cons g192_ok (tab_cons g194_ok (tab_nil fls_fun))))) Tryz.func84 (fun args w => by simp)
/-- stagepost/crc.More -/
noncomputable def s225G (J : Joins) (a0 : Int) (a1 : AV) (h : H) (k : Int → H → Prop) : Prop :=
op' (aUn .xor (AV.int .u32 a0)) fun v1 =>
asI .u32 v1 fun x2 =>
lenK a1 fun x3 =>
J.lp (α := AV × AV × AV × AV × Unit) (fun r7 v4 d5 h6 =>
asI .i64 v4.2.2.2.1 fun x8 =>
asI .i64 v4.2.2.1 fun x9 =>
fB (ltI x8 x9) fun b10 =>
br b10 (
ixK 1 v4.2.1 v4.2.2.2.1 fun p11 =>
ldI .u8 p11 h6 fun x12 =>
fI (wrapF .u32 x12) fun x13 =>
asI .u32 v4.1 fun x14 =>
fI (lxorF .u32 x14 x13) fun x15 =>
J.lp (α := AV × AV × AV × AV × AV × Unit) (fun r19 v16 d17 h18 =>
asI .i64 v16.2.2.2.2.1 fun x20 =>
fB (ltI x20 (Int.ofNat 8)) fun b21 =>
br b21 (
J.jd (α := AV × AV × AV × AV × AV × Unit) (fun v22 d23 h24 =>
asI .i64 v22.2.2.2.2.1 fun x26 =>
fI (wrapF .i64 (Int.add x26 (Int.ofNat 1))) fun x27 =>
r19 (v22.1, v22.2.1, v22.2.2.1, v22.2.2.2.1, (AV.int .i64 x27), ()) d23 h24) fun j25 =>
asI .u32 v16.1 fun x28 =>
fI (landF .u32 x28 (Int.ofNat 1)) fun x29 =>
asI .u32 v16.1 fun x30 =>
fI (shrF x30 (nmin 1 (IntKind.bits .u32))) fun x31 =>
fB (eqI x29 (Int.ofNat 1)) fun b32 =>
br b32 (
fI (lxorF .u32 x31 (Int.ofNat 2197175160)) fun x33 =>
j25 ((AV.int .u32 x33), v16.2.1, v16.2.2.1, v16.2.2.2.1, v16.2.2.2.2.1, ()) d17 h18) (
j25 ((AV.int .u32 x31), v16.2.1, v16.2.2.1, v16.2.2.2.1, v16.2.2.2.2.1, ()) d17 h18)) (
asI .i64 v16.2.2.2.1 fun x34 =>
fI (wrapF .i64 (Int.add x34 (Int.ofNat 1))) fun x35 =>
r7 (v16.1, v16.2.1, v16.2.2.1, (AV.int .i64 x35), ()) d17 h18)) ((AV.int .u32 x15), v4.2.1, v4.2.2.1, v4.2.2.2.1, (AV.int .i64 (Int.ofNat 0)), ()) d5 h6) (
op' (aUn .xor v4.1) fun v36 =>
asI .u32 v36 fun x37 =>
leaveK (gam J []) d5 h6 fun h38 =>
k x37 h38)) ((AV.int .u32 x2), a1, (AV.int .i64 (Int.ofNat x3)), (AV.int .i64 (Int.ofNat 0)), ()) [] h
noncomputable def s225 : Int → AV → H → (Int → H → Prop) → Prop := s225G J0 
noncomputable def w225 (c : Int → AV → H → (Int → H → Prop) → Prop) : Fun := fun xs h k => arg xs fun a0 xs => arg xs fun a1 xs => noArg xs <| asI .u32 a0 fun a0 => c a0 a1 h fun r0 h => k (.int .u32 r0) h
theorem s225_eq (J : Joins) (a0 : Int) (a1 : AV) (h : H) (k : AV → H → Prop) : denF ty (gam J []) Tryz.f225 [(.int .u32 a0), a1] h k = s225G J  a0 a1 h (fun r0 h => k (.int .u32 r0) h) := by kernel_rfl
noncomputable def g225 : Fun := w225 s225
theorem g225_ok : FunOk Tryz.prog 225 g225 := (fun_ok ty_ok mixed (gam_ok (J := J0) (tab_nil fls_fun)) Tryz.func225 (fun args w => by simp)).imp fun xs h k e0 => by
  obtain ⟨a0, xs0, rfl, e1⟩ := arg_imp e0
  obtain ⟨a1, xs1, rfl, e2⟩ := arg_imp e1
  obtain ⟨rfl, e3⟩ := noArg_imp e2
  obtain ⟨a0, rfl, e4⟩ := asI_iff.1 e3
  exact (s225_eq J0  a0 a1 h k).mpr e4
/-- stagepost/crc.Sum -/
noncomputable def s188G (J : Joins) (c225 : Int → AV → H → (Int → H → Prop) → Prop) (a0 : AV) (h : H) (k : Int → H → Prop) : Prop :=
c225 (Int.ofNat 0) a0 h fun x2 h1 =>
k x2 h1
noncomputable def s188 : AV → H → (Int → H → Prop) → Prop := s188G J0 s225
noncomputable def w188 (c : AV → H → (Int → H → Prop) → Prop) : Fun := fun xs h k => arg xs fun a0 xs => noArg xs <| c a0 h fun r0 h => k (.int .u32 r0) h
theorem s188_eq (J : Joins) (c225 : Int → AV → H → (Int → H → Prop) → Prop) (a0 : AV) (h : H) (k : AV → H → Prop) : denF ty (gam J [(225, w225 c225)]) Tryz.f188 [a0] h k = s188G J c225 a0 h (fun r0 h => k (.int .u32 r0) h) := by kernel_rfl
noncomputable def g188 : Fun := w188 s188
theorem g188_ok : FunOk Tryz.prog 188 g188 := (fun_ok ty_ok mixed (gam_ok (J := J0) (tab_cons g225_ok (tab_nil fls_fun))) Tryz.func188 (fun args w => by simp)).imp fun xs h k e0 => by
  obtain ⟨a0, xs0, rfl, e1⟩ := arg_imp e0
  obtain ⟨rfl, e2⟩ := noArg_imp e1
  exact (s188_eq J0 s225 a0 h k).mpr e2
/-- stagepost/crc.Sealed -/
noncomputable def s131G (J : Joins) (c188 : AV → H → (Int → H → Prop) → Prop) (a0 : AV) (h : H) (k : AV → H → Prop) : Prop :=
apB (.slice 5) 5 AV.nils a0 h fun v1 h2 =>
c188 a0 h2 fun x4 h3 =>
J.lp (α := AV × AV × AV × Unit) (fun r8 v5 d6 h7 =>
asI .i64 v5.2.2.1 fun x9 =>
fB (ltI x9 (Int.ofNat 4)) fun b10 =>
br b10 (
asI .i64 v5.2.2.1 fun x11 =>
fI (wrapF .i64 (Int.mul (Int.ofNat 8) x11)) fun x12 =>
asI .u32 v5.2.1 fun x13 =>
asNat (AV.int .i64 x12) fun n14 =>
fI (shrF x13 (nmin n14 (IntKind.bits .u32))) fun x15 =>
fI (wrapF .u8 x15) fun x16 =>
op' (asRow true 5 [(AV.int .u8 x16)]) fun k19 =>
pushK k19 h7 fun n17 h18 =>
apB (.slice 5) 5 v5.1 (AV.slice n17 0 1 1 1 true) h18 fun v20 h21 =>
asI .i64 v5.2.2.1 fun x22 =>
fI (wrapF .i64 (Int.add x22 (Int.ofNat 1))) fun x23 =>
r8 (v20, v5.2.1, (AV.int .i64 x23), ()) d6 h21) (
leaveK (gam J [(188, w188 c188)]) d6 h7 fun h24 =>
k v5.1 h24)) (v1, (AV.int .u32 x4), (AV.int .i64 (Int.ofNat 0)), ()) [] h3
noncomputable def s131 : AV → H → (AV → H → Prop) → Prop := s131G J0 s188
noncomputable def w131 (c : AV → H → (AV → H → Prop) → Prop) : Fun := fun xs h k => arg xs fun a0 xs => noArg xs <| c a0 h fun r0 h => k r0 h
theorem s131_eq (J : Joins) (c188 : AV → H → (Int → H → Prop) → Prop) (a0 : AV) (h : H) (k : AV → H → Prop) : denF ty (gam J [(188, w188 c188)]) Tryz.f131 [a0] h k = s131G J c188 a0 h (fun r0 h => k r0 h) := by kernel_rfl
noncomputable def g131 : Fun := w131 s131
theorem g131_ok : FunOk Tryz.prog 131 g131 := (fun_ok ty_ok mixed (gam_ok (J := J0) (tab_cons g188_ok (tab_nil fls_fun))) Tryz.func131 (fun args w => by simp)).imp fun xs h k e0 => by
  obtain ⟨a0, xs0, rfl, e1⟩ := arg_imp e0
  obtain ⟨rfl, e2⟩ := noArg_imp e1
  exact (s131_eq J0 s188 a0 h k).mpr e2
/-- stagepost/crc.Opened -/
noncomputable def g212 : Fun := denFS ty (gam J0 [(131, g131)]) Tryz.f212
theorem g212_ok : FunOk Tryz.prog 212 g212 := fun_okS ty_ok mixed (gam_ok (J := J0) (tab_cons g131_ok (tab_nil fls_fun))) Tryz.func212 (fun args w => by simp)
/-- stagepost/frame.Read -/
noncomputable def g170 : Fun := denFS ty (gam J0 [(212, g212)]) Tryz.f170
theorem g170_ok : FunOk Tryz.prog 170 g170 := fun_okS ty_ok mixed (gam_ok (J := J0) (tab_cons g212_ok (tab_nil fls_fun))) Tryz.func170 (fun args w => by simp)
/-- stagepost/sst.record -/
noncomputable def g143 : Fun := denFS ty (gam J0 [(170, g170)]) Tryz.f143
theorem g143_ok : FunOk Tryz.prog 143 g143 := fun_okS ty_ok mixed (gam_ok (J := J0) (tab_cons g170_ok (tab_nil fls_fun))) Tryz.func143 (fun args w => by simp)
/-- stagepost/enc.Append -/
noncomputable def s129G (J : Joins) (a0 : AV) (a1 : Int) (h : H) (k : AV → H → Prop) : Prop :=
apB (.slice 5) 5 AV.nils a0 h fun v1 h2 =>
J.lp (α := AV × AV × Unit) (fun r6 v3 d4 h5 =>
asI .u64 v3.1 fun x7 =>
fB (Bool.not (ltI x7 (Int.ofNat 128))) fun b8 =>
br b8 (
asI .u64 v3.1 fun x9 =>
fI (wrapF .u8 x9) fun x10 =>
fI (lorF .u8 x10 (Int.ofNat 128)) fun x11 =>
op' (asRow true 5 [(AV.int .u8 x11)]) fun k14 =>
pushK k14 h5 fun n12 h13 =>
apB (.slice 5) 5 v3.2.1 (AV.slice n12 0 1 1 1 true) h13 fun v15 h16 =>
asI .u64 v3.1 fun x17 =>
fI (shrF x17 (nmin 7 (IntKind.bits .u64))) fun x18 =>
r6 ((AV.int .u64 x18), v15, ()) d4 h16) (
asI .u64 v3.1 fun x19 =>
fI (wrapF .u8 x19) fun x20 =>
op' (asRow true 5 [(AV.int .u8 x20)]) fun k23 =>
pushK k23 h5 fun n21 h22 =>
apB (.slice 5) 5 v3.2.1 (AV.slice n21 0 1 1 1 true) h22 fun v24 h25 =>
leaveK (gam J []) d4 h25 fun h26 =>
k v24 h26)) ((AV.int .u64 a1), v1, ()) [] h2
noncomputable def s129 : AV → Int → H → (AV → H → Prop) → Prop := s129G J0 
noncomputable def w129 (c : AV → Int → H → (AV → H → Prop) → Prop) : Fun := fun xs h k => arg xs fun a0 xs => arg xs fun a1 xs => noArg xs <| asI .u64 a1 fun a1 => c a0 a1 h fun r0 h => k r0 h
theorem s129_eq (J : Joins) (a0 : AV) (a1 : Int) (h : H) (k : AV → H → Prop) : denF ty (gam J []) Tryz.f129 [a0, (.int .u64 a1)] h k = s129G J  a0 a1 h (fun r0 h => k r0 h) := by kernel_rfl
noncomputable def g129 : Fun := w129 s129
theorem g129_ok : FunOk Tryz.prog 129 g129 := (fun_ok ty_ok mixed (gam_ok (J := J0) (tab_nil fls_fun)) Tryz.func129 (fun args w => by simp)).imp fun xs h k e0 => by
  obtain ⟨a0, xs0, rfl, e1⟩ := arg_imp e0
  obtain ⟨a1, xs1, rfl, e2⟩ := arg_imp e1
  obtain ⟨rfl, e3⟩ := noArg_imp e2
  obtain ⟨a1, rfl, e4⟩ := asI_iff.1 e3
  exact (s129_eq J0  a0 a1 h k).mpr e4
/-- stagepost/block.ordered -/
noncomputable def g92 : Fun := denFS ty (gam J0 [(86, g86)]) Tryz.f92
theorem g92_ok : FunOk Tryz.prog 92 g92 := fun_okS ty_ok mixed (gam_ok (J := J0) (tab_cons g86_ok (tab_nil fls_fun))) Tryz.func92 (fun args w => by simp)
/-- stagepost/wal.fine -/
noncomputable def g128 : Fun := denFS ty (gam J0 []) Tryz.f128
theorem g128_ok : FunOk Tryz.prog 128 g128 := fun_okS ty_ok mixed (gam_ok (J := J0) (tab_nil fls_fun)) Tryz.func128 (fun args w => by simp)
/-- stagepost/wal.Check -/
noncomputable def g70 : Fun := denFS ty (gam J0 [(128, g128)]) Tryz.f70
theorem g70_ok : FunOk Tryz.prog 70 g70 := fun_okS ty_ok mixed (gam_ok (J := J0) (tab_cons g128_ok (tab_nil fls_fun))) Tryz.func70 (fun args w => by simp)
/-- stagepost/mem.Check -/
noncomputable def g136 : Fun := denFS ty (gam J0 [(70, g70)]) Tryz.f136
theorem g136_ok : FunOk Tryz.prog 136 g136 := fun_okS ty_ok mixed (gam_ok (J := J0) (tab_cons g70_ok (tab_nil fls_fun))) Tryz.func136 (fun args w => by simp)
/-- stagepost/block.Check -/
noncomputable def g196 : Fun := denFS ty (gam J0 [(92, g92), (136, g136)]) Tryz.f196
theorem g196_ok : FunOk Tryz.prog 196 g196 := fun_okS ty_ok mixed (gam_ok (J := J0) (tab_cons g92_ok (tab_cons g136_ok (tab_nil fls_fun)))) Tryz.func196 (fun args w => by simp)
/-- stagepost/block.shared -/
noncomputable def g197 : Fun := denFS ty (gam J0 []) Tryz.f197
theorem g197_ok : FunOk Tryz.prog 197 g197 := fun_okS ty_ok mixed (gam_ok (J := J0) (tab_nil fls_fun)) Tryz.func197 (fun args w => by simp)
/-- stagepost/block.Encode -/
noncomputable def g148 : Fun := denFS ty (gam J0 [(129, g129), (196, g196), (197, g197)]) Tryz.f148
theorem g148_ok : FunOk Tryz.prog 148 g148 := fun_okS ty_ok mixed (gam_ok (J := J0) (tab_cons g129_ok (tab_cons g196_ok (tab_cons g197_ok (tab_nil fls_fun))))) Tryz.func148 (fun args w => by simp)
/-- stagepost/block.Decode -/
noncomputable def g144 : Fun := denFS ty (gam J0 [(85, g85), (148, g148), (192, g192), (194, g194)]) Tryz.f144
theorem g144_ok : FunOk Tryz.prog 144 g144 := fun_okS ty_ok mixed (gam_ok (J := J0) (tab_cons g85_ok (tab_cons g148_ok (tab_cons g192_ok (tab_cons g194_ok (tab_nil fls_fun)))))) Tryz.func144 (fun args w => by simp)
/-- (*stagepost/sst.Table).read -/
noncomputable def g87 : Fun := denFS ty (gam J0 [(143, g143), (144, g144)]) Tryz.f87
theorem g87_ok : FunOk Tryz.prog 87 g87 := fun_okS ty_ok mixed (gam_ok (J := J0) (tab_cons g143_ok (tab_cons g144_ok (tab_nil fls_fun)))) Tryz.func87 (fun args w => by simp)
/-- stagepost/block.Find$1 -/
noncomputable def g146 : Fun := denFS ty (gam J0 [(86, g86)]) Tryz.f146
theorem g146_ok : FunOk Tryz.prog 146 g146 := fun_okS ty_ok mixed (gam_ok (J := J0) (tab_cons g86_ok (tab_nil fls_fun))) Tryz.func146 (fun args w => by simp)
/-- slices.BinarySearchFunc[[]stagepost/api.Entry,stagepost/api.Entry,stagepost/api.Entry] -/
noncomputable def g145 : Fun := denFS ty (gam J0 [(146, g146)]) Tryz.f145
theorem g145_ok : FunOk Tryz.prog 145 g145 := fun_okS ty_ok mixed (gam_ok (J := J0) (tab_cons g146_ok (tab_nil fls_fun))) Tryz.func145 (fun args w => by simp)
/-- stagepost/block.Find -/
noncomputable def g88 : Fun := denFS ty (gam J0 [(145, g145), (146, g146)]) Tryz.f88
theorem g88_ok : FunOk Tryz.prog 88 g88 := fun_okS ty_ok mixed (gam_ok (J := J0) (tab_cons g145_ok (tab_cons g146_ok (tab_nil fls_fun)))) Tryz.func88 (fun args w => by simp)
/-- (*stagepost/sst.Table).Get -/
noncomputable def g30 : Fun := denFS ty (gam J0 [(82, g82), (83, g83), (84, g84), (85, g85), (87, g87), (88, g88)]) Tryz.f30
theorem g30_ok : FunOk Tryz.prog 30 g30 := fun_okS ty_ok mixed (gam_ok (J := J0) (tab_cons g82_ok (tab_cons g83_ok (tab_cons g84_ok (tab_cons g85_ok (tab_cons g87_ok (tab_cons g88_ok (tab_nil fls_fun)))))))) Tryz.func30 (fun args w => by simp)
/-- (*stagepost/lsm.Store).Get -/
noncomputable def g6 : Fun := denFS ty (gam J0 [(25, g25), (27, g27), (28, g28), (29, g29), (30, g30)]) Tryz.f6
theorem g6_ok : FunOk Tryz.prog 6 g6 := fun_okS ty_ok mixed (gam_ok (J := J0) (tab_cons g25_ok (tab_cons g27_ok (tab_cons g28_ok (tab_cons g29_ok (tab_cons g30_ok (tab_nil fls_fun))))))) Tryz.func6 (fun args w => by simp)
end Go.Proofs.YtfbdniomnnpemaaGreatDoor
