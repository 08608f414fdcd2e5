/- Functions as they are reckoned. MADE BY PROGRAM (wip/tools/shal.py). -/
import Derived.Test.YtfbdniomnnpemaaGreatDoorAmH124
namespace Go.Proofs.YtfbdniomnnpemaaGreatDoor
open Go Go.Am
set_option maxRecDepth 100000
set_option linter.all false
/-- maps.Keys[map[string]int,string,int] -/
noncomputable def g125 : Fun := denFS ty (gam J0 [(184, g184)]) Tryz.f125
theorem g125_ok : FunOk Tryz.prog 125 g125 := fun_okS ty_ok mixed (gam_ok (J := J0) (tab_cons g184_ok (tab_nil fls_fun))) Tryz.func125 (fun args w => by simp)
/-- (*stagepost/vfs.FS).Names -/
noncomputable def g62 : Fun := denFS ty (gam J0 [(106, g106), (123, g123), (124, g124'), (125, g125)]) Tryz.f62
theorem g62_ok : FunOk Tryz.prog 62 g62 := fun_okS ty_ok mixed (gam_ok (J := J0) (tab_cons g106_ok (tab_cons g123_ok (tab_cons g124'_ok (tab_cons g125_ok (tab_nil fls_fun)))))) Tryz.func62 (fun args w => by simp)
/-- internal/strconv.ParseUint -/
noncomputable def s247G (J : Joins) (a0 : Str) (a1 : Int) (a2 : Int) (h : H) (k : Int → AV → H → Prop) : Prop :=
fB (Str.beq a0 (⟨0, 0⟩ : Str)) fun b1 =>
br b1 (
k (Int.ofNat 0) (AV.iface 301 (AV.int .i64 (Int.ofNat 2))) h) (
fB (eqI a1 (Int.ofNat 0)) fun b2 =>
J.jd (α := AV × AV × AV × AV × AV × Unit) (fun v3 d4 h5 =>
J.jd (α := AV × AV × AV × AV × AV × Unit) (fun v7 d8 h9 =>
J.jd (α := AV × AV × AV × AV × AV × AV × Unit) (fun v11 d12 h13 =>
asI .i64 v11.2.2.1 fun x15 =>
fI (wrapF .u64 x15) fun x16 =>
asNat (AV.int .u64 x16) fun n17 =>
fI (shlF .u64 (Int.ofNat 1) n17) fun x18 =>
fI (wrapF .u64 (Int.sub x18 (Int.ofNat 1))) fun x19 =>
asS v11.1 fun s22 =>
pushK (.bytes 5 0 true s22) h13 fun n20 h21 =>
J.lp (α := AV × AV × AV × AV × AV × AV × AV × AV × AV × AV × Unit) (fun r26 v23 d24 h25 =>
asI .i64 v23.2.2.2.2.2.2.2.2.2.1 fun x27 =>
asI .i64 v23.2.2.2.2.2.2.2.2.1 fun x28 =>
fB (ltI x27 x28) fun b29 =>
br b29 (
J.jd (α := AV × AV × AV × AV × AV × AV × AV × AV × AV × AV × Unit) (fun v30 d31 h32 =>
asI .i64 v30.2.2.2.2.2.2.2.2.2.1 fun x34 =>
fI (wrapF .i64 (Int.add x34 (Int.ofNat 1))) fun x35 =>
r26 (v30.1, v30.2.1, v30.2.2.1, v30.2.2.2.1, v30.2.2.2.2.1, v30.2.2.2.2.2.1, v30.2.2.2.2.2.2.1, v30.2.2.2.2.2.2.2.1, v30.2.2.2.2.2.2.2.2.1, (AV.int .i64 x35), ()) d31 h32) fun j33 =>
ixK 1 v23.2.2.2.2.2.2.2.1 v23.2.2.2.2.2.2.2.2.2.1 fun p36 =>
ldI .u8 p36 h25 fun x37 =>
J.jd (α := AV × AV × AV × AV × AV × AV × AV × AV × AV × AV × AV × Unit) (fun v38 d39 h40 =>
asI .i64 v38.1 fun x42 =>
fI (wrapF .u8 x42) fun x43 =>
asI .u8 v38.2.2.2.2.2.2.2.1 fun x44 =>
fB (Bool.not (ltI x44 x43)) fun b45 =>
br b45 (
leaveK (gam J []) d39 h40 fun h46 =>
k (Int.ofNat 0) (AV.iface 301 (AV.int .i64 (Int.ofNat 2))) h46) (
asI .u64 v38.2.2.2.2.2.2.1 fun x47 =>
asI .u64 v38.2.2.2.1 fun x48 =>
fB (Bool.not (ltI x47 x48)) fun b49 =>
br b49 (
leaveK (gam J []) d39 h40 fun h50 =>
asI .u64 v38.2.2.2.2.1 fun x51 =>
k x51 (AV.iface 301 (AV.int .i64 (Int.ofNat 1))) h50) (
asI .i64 v38.1 fun x52 =>
fI (wrapF .u64 x52) fun x53 =>
asI .u64 v38.2.2.2.2.2.2.1 fun x54 =>
fI (wrapF .u64 (Int.mul x54 x53)) fun x55 =>
asI .u8 v38.2.2.2.2.2.2.2.1 fun x56 =>
fI (wrapF .u64 x56) fun x57 =>
fI (wrapF .u64 (Int.add x55 x57)) fun x58 =>
fB (ltI x58 x55) fun b59 =>
J.jn (fun v60 h61 =>
J.jn (fun v63 h64 =>
J.jn (fun v66 h67 =>
pickB (AV.bool b59) (AV.bool true) v66 fun b72 =>
br b72 (
leaveK (gam J []) d39 h67 fun h73 =>
asI .u64 v38.2.2.2.2.1 fun x74 =>
k x74 (AV.iface 301 (AV.int .i64 (Int.ofNat 1))) h73) (
j33 (v38.1, v38.2.1, v38.2.2.1, v38.2.2.2.1, v38.2.2.2.2.1, v38.2.2.2.2.2.1, (AV.int .u64 x58), v38.2.2.2.2.2.2.2.2.1, v38.2.2.2.2.2.2.2.2.2.1, v38.2.2.2.2.2.2.2.2.2.2.1, ()) d39 h67)) fun j68 =>
br b59 (
j68 skipV h64) (
asI .u64 v60 fun x69 =>
asI .u64 v63 fun x70 =>
fB (ltI x70 x69) fun b71 =>
j68 (AV.bool b71) h64)) fun j65 =>
br b59 (
j65 skipV h61) (
j65 v38.2.2.2.2.1 h61)) fun j62 =>
br b59 (
j62 skipV h40) (
j62 (AV.int .u64 x58) h40)))) fun j41 =>
fB (eqI x37 (Int.ofNat 95)) fun b75 =>
J.jn (fun v76 h77 =>
pickB (AV.bool b75) v76 (AV.bool false) fun b79 =>
br b79 (
j33 (v23.1, v23.2.1, v23.2.2.1, v23.2.2.2.1, v23.2.2.2.2.1, (AV.bool true), v23.2.2.2.2.2.2.1, v23.2.2.2.2.2.2.2.1, v23.2.2.2.2.2.2.2.2.1, v23.2.2.2.2.2.2.2.2.2.1, ()) d24 h77) (
fB (Bool.not (ltI x37 (Int.ofNat 48))) fun b80 =>
J.jn (fun v81 h82 =>
J.jn (fun v84 h85 =>
pickB (AV.bool b80) v84 (AV.bool false) fun b89 =>
br b89 (
fI (wrapF .u8 (Int.sub x37 (Int.ofNat 48))) fun x90 =>
j41 (v23.1, v23.2.1, v23.2.2.1, v23.2.2.2.1, v23.2.2.2.2.1, v23.2.2.2.2.2.1, v23.2.2.2.2.2.2.1, (AV.int .u8 x90), v23.2.2.2.2.2.2.2.1, v23.2.2.2.2.2.2.2.2.1, v23.2.2.2.2.2.2.2.2.2.1, ()) d24 h85) (
False)) fun j86 =>
br b80 (
asI .u8 v81 fun x87 =>
fB (Bool.not (ltI (Int.ofNat 57) x87)) fun b88 =>
j86 (AV.bool b88) h82) (
j86 skipV h82)) fun j83 =>
br b80 (
j83 (AV.int .u8 x37) h77) (
j83 skipV h77))) fun j78 =>
br b75 (
j78 v23.2.1 h25) (
j78 skipV h25)) (
J.jn (fun v91 h92 =>
J.jn (fun v94 h95 =>
J.jn (fun v97 h98 =>
pickB v23.2.2.2.2.2.1 v97 (AV.bool false) fun b102 =>
br b102 (
leaveK (gam J []) d24 h98 fun h103 =>
k (Int.ofNat 0) (AV.iface 301 (AV.int .i64 (Int.ofNat 2))) h103) (
leaveK (gam J []) d24 h98 fun h104 =>
asI .u64 v23.2.2.2.2.2.2.1 fun x105 =>
k x105 AV.nili h104)) fun j99 =>
asBU v23.2.2.2.2.2.1 (fun b106 =>
br b106 (
asB v94 fun b100 =>
fB (Bool.not b100) fun b101 =>
j99 (AV.bool b101) h95) (
j99 skipV h95)) (
j99 skipV h95)) fun j96 =>
asBU v23.2.2.2.2.2.1 (fun b107 =>
br b107 (
False) (
j96 skipV h92)) (
j96 skipV h92)) fun j93 =>
asBU v23.2.2.2.2.2.1 (fun b108 =>
br b108 (
j93 v23.2.2.1 h25) (
j93 skipV h25)) (
j93 skipV h25))) (v11.2.1, v11.2.2.2.1, v11.2.2.2.2.1, v11.2.2.2.2.2.1, (AV.int .u64 x19), (AV.bool false), (AV.int .u64 (Int.ofNat 0)), (AV.slice n20 0 s22.len s22.len 1 false), (AV.int .i64 (Int.ofNat s22.len)), (AV.int .i64 (Int.ofNat 0)), ()) d12 h21) fun j14 =>
asI .i64 v7.2.1 fun x109 =>
fB (eqI x109 (Int.ofNat 10)) fun b110 =>
br b110 (
j14 (v7.1, v7.2.1, v7.2.2.1, v7.2.2.2.1, v7.2.2.2.2.1, (AV.int .u64 (Int.ofNat 1844674407370955162)), ()) d8 h9) (
asI .i64 v7.2.1 fun x111 =>
fB (eqI x111 (Int.ofNat 16)) fun b112 =>
br b112 (
j14 (v7.1, v7.2.1, v7.2.2.1, v7.2.2.2.1, v7.2.2.2.2.1, (AV.int .u64 (Int.ofNat 1152921504606846976)), ()) d8 h9) (
asI .i64 v7.2.1 fun x113 =>
fI (wrapF .u64 x113) fun x114 =>
ck (Bool.not (eqI x114 0)) (fI (wrapF .u64 (Int.tdiv (Int.ofNat 18446744073709551615) x114)) fun x115 =>
fI (wrapF .u64 (Int.add x115 (Int.ofNat 1))) fun x116 =>
j14 (v7.1, v7.2.1, v7.2.2.1, v7.2.2.2.1, v7.2.2.2.2.1, (AV.int .u64 x116), ()) d8 h9)))) fun j10 =>
asI .i64 v3.2.2.1 fun x117 =>
fB (eqI x117 (Int.ofNat 0)) fun b118 =>
br b118 (
j10 (v3.1, v3.2.1, (AV.int .i64 (Int.ofNat 64)), v3.2.2.2.1, v3.2.2.2.2.1, ()) d4 h5) (
asI .i64 v3.2.2.1 fun x119 =>
fB (ltI x119 (Int.ofNat 0)) fun b120 =>
J.jn (fun v121 h122 =>
J.jn (fun v124 h125 =>
pickB (AV.bool b120) (AV.bool true) v124 fun b129 =>
br b129 (
leaveK (gam J []) d4 h125 fun h130 =>
k (Int.ofNat 0) (AV.iface 301 (AV.int .i64 (Int.ofNat 4))) h130) (
j10 (v3.1, v3.2.1, v3.2.2.1, v3.2.2.2.1, v3.2.2.2.2.1, ()) d4 h125)) fun j126 =>
br b120 (
j126 skipV h122) (
asI .i64 v121 fun x127 =>
fB (ltI (Int.ofNat 64) x127) fun b128 =>
j126 (AV.bool b128) h122)) fun j123 =>
br b120 (
j123 skipV h5) (
j123 v3.2.2.1 h5))) fun j6 =>
fB (Bool.not (ltI a1 (Int.ofNat 2))) fun b131 =>
J.jn (fun v132 h133 =>
J.jn (fun v135 h136 =>
pickB (AV.bool b131) v135 (AV.bool false) fun b140 =>
br b140 (
j6 ((AV.str a0), (AV.int .i64 a1), (AV.int .i64 a2), (AV.bool b2), (AV.str a0), ()) [] h136) (
fB (eqI a1 (Int.ofNat 0)) fun b141 =>
br b141 (
ixsK (AV.str a0) (AV.int .i64 (Int.ofNat 0)) fun x142 =>
fB (eqI x142 (Int.ofNat 48)) fun b143 =>
br b143 (
fB (Bool.not (ltI (Int.ofNat a0.len) (Int.ofNat 3))) fun b144 =>
J.jn (fun v145 h146 =>
J.jn (fun v148 h149 =>
J.jn (fun v152 h153 =>
J.jn (fun v155 h156 =>
pickB (AV.bool b144) v155 (AV.bool false) fun b160 =>
br b160 (
subK (AV.str a0) (some (AV.int .i64 (Int.ofNat 2))) none fun s161 =>
j6 ((AV.str s161), (AV.int .i64 (Int.ofNat 2)), (AV.int .i64 a2), (AV.bool b2), (AV.str a0), ()) [] h156) (
fB (Bool.not (ltI (Int.ofNat a0.len) (Int.ofNat 3))) fun b162 =>
J.jn (fun v163 h164 =>
J.jn (fun v166 h167 =>
J.jn (fun v170 h171 =>
J.jn (fun v173 h174 =>
pickB (AV.bool b162) v173 (AV.bool false) fun b178 =>
br b178 (
subK (AV.str a0) (some (AV.int .i64 (Int.ofNat 2))) none fun s179 =>
j6 ((AV.str s179), (AV.int .i64 (Int.ofNat 8)), (AV.int .i64 a2), (AV.bool b2), (AV.str a0), ()) [] h174) (
fB (Bool.not (ltI (Int.ofNat a0.len) (Int.ofNat 3))) fun b180 =>
J.jn (fun v181 h182 =>
J.jn (fun v184 h185 =>
J.jn (fun v188 h189 =>
J.jn (fun v191 h192 =>
pickB (AV.bool b180) v191 (AV.bool false) fun b196 =>
br b196 (
subK (AV.str a0) (some (AV.int .i64 (Int.ofNat 2))) none fun s197 =>
j6 ((AV.str s197), (AV.int .i64 (Int.ofNat 16)), (AV.int .i64 a2), (AV.bool b2), (AV.str a0), ()) [] h192) (
subK (AV.str a0) (some (AV.int .i64 (Int.ofNat 1))) none fun s198 =>
j6 ((AV.str s198), (AV.int .i64 (Int.ofNat 8)), (AV.int .i64 a2), (AV.bool b2), (AV.str a0), ()) [] h192)) fun j193 =>
br b180 (
asI .u8 v188 fun x194 =>
fB (eqI x194 (Int.ofNat 120)) fun b195 =>
j193 (AV.bool b195) h189) (
j193 skipV h189)) fun j190 =>
br b180 (
False) (
j190 skipV h185)) fun j186 =>
br b180 (
ixsK v181 (AV.int .i64 (Int.ofNat 1)) fun x187 =>
j186 (AV.int .u8 x187) h182) (
j186 skipV h182)) fun j183 =>
br b180 (
j183 (AV.str a0) h174) (
j183 skipV h174))) fun j175 =>
br b162 (
asI .u8 v170 fun x176 =>
fB (eqI x176 (Int.ofNat 111)) fun b177 =>
j175 (AV.bool b177) h171) (
j175 skipV h171)) fun j172 =>
br b162 (
False) (
j172 skipV h167)) fun j168 =>
br b162 (
ixsK v163 (AV.int .i64 (Int.ofNat 1)) fun x169 =>
j168 (AV.int .u8 x169) h164) (
j168 skipV h164)) fun j165 =>
br b162 (
j165 (AV.str a0) h156) (
j165 skipV h156))) fun j157 =>
br b144 (
asI .u8 v152 fun x158 =>
fB (eqI x158 (Int.ofNat 98)) fun b159 =>
j157 (AV.bool b159) h153) (
j157 skipV h153)) fun j154 =>
br b144 (
False) (
j154 skipV h149)) fun j150 =>
br b144 (
ixsK v145 (AV.int .i64 (Int.ofNat 1)) fun x151 =>
j150 (AV.int .u8 x151) h146) (
j150 skipV h146)) fun j147 =>
br b144 (
j147 (AV.str a0) h136) (
j147 skipV h136)) (
j6 ((AV.str a0), (AV.int .i64 (Int.ofNat 10)), (AV.int .i64 a2), (AV.bool b2), (AV.str a0), ()) [] h136)) (
k (Int.ofNat 0) (AV.iface 301 (AV.int .i64 (Int.ofNat 3))) h136))) fun j137 =>
br b131 (
asI .i64 v132 fun x138 =>
fB (Bool.not (ltI (Int.ofNat 36) x138)) fun b139 =>
j137 (AV.bool b139) h133) (
j137 skipV h133)) fun j134 =>
br b131 (
j134 (AV.int .i64 a1) h) (
j134 skipV h))
noncomputable def s247 : Str → Int → Int → H → (Int → AV → H → Prop) → Prop := s247G J0 
noncomputable def w247 (c : Str → Int → Int → H → (Int → AV → H → Prop) → Prop) : Fun := fun xs h k => arg xs fun a0 xs => arg xs fun a1 xs => arg xs fun a2 xs => noArg xs <| asS a0 fun a0 => asI .i64 a1 fun a1 => asI .i64 a2 fun a2 => c a0 a1 a2 h fun r0 r1 h => k (.tuple [(.int .u64 r0), r1]) h
theorem s247_eq (J : Joins) (a0 : Str) (a1 : Int) (a2 : Int) (h : H) (k : AV → H → Prop) : denF ty (gam J []) Tryz.f247 [(.str a0), (.int .i64 a1), (.int .i64 a2)] h k = s247G J  a0 a1 a2 h (fun r0 r1 h => k (.tuple [(.int .u64 r0), r1]) h) := by kernel_rfl
noncomputable def g247 : Fun := w247 s247
theorem g247_ok : FunOk Tryz.prog 247 g247 := (fun_ok ty_ok mixed (gam_ok (J := J0) (tab_nil fls_fun)) Tryz.func247 (fun args w => by simp)).imp fun xs h k e0 => by
  obtain ⟨a0, xs0, rfl, e1⟩ := arg_imp e0
  obtain ⟨a1, xs1, rfl, e2⟩ := arg_imp e1
  obtain ⟨a2, xs2, rfl, e3⟩ := arg_imp e2
  obtain ⟨rfl, e4⟩ := noArg_imp e3
  obtain ⟨a0, rfl, e5⟩ := asS_iff.1 e4
  obtain ⟨a1, rfl, e6⟩ := asI_iff.1 e5
  obtain ⟨a2, rfl, e7⟩ := asI_iff.1 e6
  exact (s247_eq J0  a0 a1 a2 h k).mpr e7
/-- internal/strconv.ParseInt -/
noncomputable def s220G (J : Joins) (c247 : Str → Int → Int → H → (Int → AV → H → Prop) → Prop) (a0 : Str) (a1 : Int) (a2 : Int) (h : H) (k : Int → AV → H → Prop) : Prop :=
fB (Str.beq a0 (⟨0, 0⟩ : Str)) fun b1 =>
br b1 (
k (Int.ofNat 0) (AV.iface 301 (AV.int .i64 (Int.ofNat 2))) h) (
J.jd (α := AV × AV × AV × AV × Unit) (fun v2 d3 h4 =>
asS v2.1 fun s7 =>
asI .i64 v2.2.1 fun x8 =>
asI .i64 v2.2.2.1 fun x9 =>
c247 s7 x8 x9 h4 fun x10 v11 h6 =>
nilB 10 v11 fun b12 =>
fB (Bool.not b12) fun b13 =>
J.jn (fun v14 h15 =>
J.jn (fun v17 h18 =>
J.jn (fun v20 h21 =>
pickB (AV.bool b13) v20 (AV.bool false) fun b24 =>
br b24 (
leaveK (gam J [(247, w247 c247)]) d3 h21 fun h25 =>
k (Int.ofNat 0) v11 h25) (
J.jd (α := AV × AV × AV × Unit) (fun v26 d27 h28 =>
asI .i64 v26.1 fun x30 =>
fI (wrapF .i64 (Int.sub x30 (Int.ofNat 1))) fun x31 =>
fI (wrapF .u64 x31) fun x32 =>
asNat (AV.int .u64 x32) fun n33 =>
fI (shlF .u64 (Int.ofNat 1) n33) fun x34 =>
asB v26.2.1 fun b35 =>
fB (Bool.not b35) fun b36 =>
J.jn (fun v37 h38 =>
J.jn (fun v40 h41 =>
J.jn (fun v43 h44 =>
pickB (AV.bool b36) v43 (AV.bool false) fun b49 =>
br b49 (
fI (wrapF .u64 (Int.sub x34 (Int.ofNat 1))) fun x50 =>
fI (wrapF .i64 x50) fun x51 =>
leaveK (gam J [(247, w247 c247)]) d27 h44 fun h52 =>
k x51 (AV.iface 301 (AV.int .i64 (Int.ofNat 1))) h52) (
J.jn (fun v53 h54 =>
J.jn (fun v56 h57 =>
J.jn (fun v59 h60 =>
pickB v26.2.1 v59 (AV.bool false) fun b65 =>
br b65 (
fI (wrapF .i64 x34) fun x66 =>
op' (aUn .neg (AV.int .i64 x66)) fun v67 =>
asI .i64 v67 fun x68 =>
leaveK (gam J [(247, w247 c247)]) d27 h60 fun h69 =>
k x68 (AV.iface 301 (AV.int .i64 (Int.ofNat 1))) h69) (
asI .u64 v26.2.2.1 fun x70 =>
fI (wrapF .i64 x70) fun x71 =>
J.jd (α := AV × Unit) (fun v72 d73 h74 =>
leaveK (gam J [(247, w247 c247)]) d73 h74 fun h76 =>
asI .i64 v72.1 fun x77 =>
k x77 AV.nili h76) fun j75 =>
asB v26.2.1 fun b78 =>
br b78 (
op' (aUn .neg (AV.int .i64 x71)) fun v79 =>
asI .i64 v79 fun x80 =>
j75 ((AV.int .i64 x80), ()) d27 h60) (
j75 ((AV.int .i64 x71), ()) d27 h60))) fun j61 =>
asBU v26.2.1 (fun b81 =>
br b81 (
asI .u64 v53 fun x62 =>
asI .u64 v56 fun x63 =>
fB (ltI x63 x62) fun b64 =>
j61 (AV.bool b64) h57) (
j61 skipV h57)) (
j61 skipV h57)) fun j58 =>
asBU v26.2.1 (fun b82 =>
br b82 (
j58 (AV.int .u64 x34) h54) (
j58 skipV h54)) (
j58 skipV h54)) fun j55 =>
asBU v26.2.1 (fun b83 =>
br b83 (
j55 v26.2.2.1 h44) (
j55 skipV h44)) (
j55 skipV h44))) fun j45 =>
br b36 (
asI .u64 v37 fun x46 =>
asI .u64 v40 fun x47 =>
fB (Bool.not (ltI x46 x47)) fun b48 =>
j45 (AV.bool b48) h41) (
j45 skipV h41)) fun j42 =>
br b36 (
j42 (AV.int .u64 x34) h38) (
j42 skipV h38)) fun j39 =>
br b36 (
j39 v26.2.2.1 h28) (
j39 skipV h28)) fun j29 =>
asI .i64 v2.2.2.1 fun x84 =>
fB (eqI x84 (Int.ofNat 0)) fun b85 =>
br b85 (
j29 ((AV.int .i64 (Int.ofNat 64)), v2.2.2.2.1, (AV.int .u64 x10), ()) d3 h21) (
j29 (v2.2.2.1, v2.2.2.2.1, (AV.int .u64 x10), ()) d3 h21))) fun j22 =>
br b13 (
obK (aBin ty .neq 210 false v14 v17) fun b23 =>
j22 (AV.bool b23) h18) (
j22 skipV h18)) fun j19 =>
br b13 (
j19 (AV.iface 301 (AV.int .i64 (Int.ofNat 1))) h15) (
j19 skipV h15)) fun j16 =>
br b13 (
j16 v11 h6) (
j16 skipV h6)) fun j5 =>
ixsK (AV.str a0) (AV.int .i64 (Int.ofNat 0)) fun x86 =>
fB (eqI x86 (Int.ofNat 43)) fun b87 =>
br b87 (
subK (AV.str a0) (some (AV.int .i64 (Int.ofNat 1))) none fun s88 =>
j5 ((AV.str s88), (AV.int .i64 a1), (AV.int .i64 a2), (AV.bool false), ()) [] h) (
fB (eqI x86 (Int.ofNat 45)) fun b89 =>
br b89 (
subK (AV.str a0) (some (AV.int .i64 (Int.ofNat 1))) none fun s90 =>
j5 ((AV.str s90), (AV.int .i64 a1), (AV.int .i64 a2), (AV.bool true), ()) [] h) (
j5 ((AV.str a0), (AV.int .i64 a1), (AV.int .i64 a2), (AV.bool false), ()) [] h)))
noncomputable def s220 : Str → Int → Int → H → (Int → AV → H → Prop) → Prop := s220G J0 s247
noncomputable def w220 (c : Str → Int → Int → H → (Int → AV → H → Prop) → Prop) : Fun := fun xs h k => arg xs fun a0 xs => arg xs fun a1 xs => arg xs fun a2 xs => noArg xs <| asS a0 fun a0 => asI .i64 a1 fun a1 => asI .i64 a2 fun a2 => c a0 a1 a2 h fun r0 r1 h => k (.tuple [(.int .i64 r0), r1]) h
theorem s220_eq (J : Joins) (c247 : Str → Int → Int → H → (Int → AV → H → Prop) → Prop) (a0 : Str) (a1 : Int) (a2 : Int) (h : H) (k : AV → H → Prop) : denF ty (gam J [(247, w247 c247)]) Tryz.f220 [(.str a0), (.int .i64 a1), (.int .i64 a2)] h k = s220G J c247 a0 a1 a2 h (fun r0 r1 h => k (.tuple [(.int .i64 r0), r1]) h) := by kernel_rfl
noncomputable def g220 : Fun := w220 s220
theorem g220_ok : FunOk Tryz.prog 220 g220 := (fun_ok ty_ok mixed (gam_ok (J := J0) (tab_cons g247_ok (tab_nil fls_fun))) Tryz.func220 (fun args w => by simp)).imp fun xs h k e0 => by
  obtain ⟨a0, xs0, rfl, e1⟩ := arg_imp e0
  obtain ⟨a1, xs1, rfl, e2⟩ := arg_imp e1
  obtain ⟨a2, xs2, rfl, e3⟩ := arg_imp e2
  obtain ⟨rfl, e4⟩ := noArg_imp e3
  obtain ⟨a0, rfl, e5⟩ := asS_iff.1 e4
  obtain ⟨a1, rfl, e6⟩ := asI_iff.1 e5
  obtain ⟨a2, rfl, e7⟩ := asI_iff.1 e6
  exact (s220_eq J0 s247 a0 a1 a2 h k).mpr e7
/-- internal/strconv.Atoi -/
noncomputable def s186G (J : Joins) (c220 : Str → Int → Int → H → (Int → AV → H → Prop) → Prop) (a0 : Str) (h : H) (k : Int → AV → H → Prop) : Prop :=
J.jn (fun v1 h2 =>
J.jn (fun v4 h5 =>
J.jn (fun v9 h10 =>
J.jn (fun v12 h13 =>
J.jn (fun v15 h16 =>
J.jn (fun v20 h21 =>
pickB (AV.bool false) v20 (AV.bool false) fun b24 =>
J.jn (fun v25 h26 =>
J.jn (fun v28 h29 =>
J.jn (fun v31 h32 =>
J.jn (fun v36 h37 =>
J.jn (fun v39 h40 =>
J.jn (fun v42 h43 =>
J.jn (fun v47 h48 =>
J.jn (fun v51 h52 =>
pickB (AV.bool b24) (AV.bool true) v51 fun b55 =>
br b55 (
J.jd (α := AV × AV × Unit) (fun v56 d57 h58 =>
asS v56.1 fun s62 =>
pushK (.bytes 5 0 true s62) h58 fun n60 h61 =>
J.lp (α := AV × AV × AV × AV × AV × Unit) (fun r66 v63 d64 h65 =>
asI .i64 v63.2.2.2.2.1 fun x67 =>
asI .i64 v63.2.2.2.1 fun x68 =>
fB (ltI x67 x68) fun b69 =>
br b69 (
ixK 1 v63.2.2.1 v63.2.2.2.2.1 fun p70 =>
ldI .u8 p70 h65 fun x71 =>
fI (wrapF .u8 (Int.sub x71 (Int.ofNat 48))) fun x72 =>
fB (ltI (Int.ofNat 9) x72) fun b73 =>
br b73 (
leaveK (gam J [(220, w220 c220)]) d64 h65 fun h74 =>
k (Int.ofNat 0) (AV.iface 301 (AV.int .i64 (Int.ofNat 2))) h74) (
asI .i64 v63.2.1 fun x75 =>
fI (wrapF .i64 (Int.mul x75 (Int.ofNat 10))) fun x76 =>
fI (wrapF .i64 x72) fun x77 =>
fI (wrapF .i64 (Int.add x76 x77)) fun x78 =>
asI .i64 v63.2.2.2.2.1 fun x79 =>
fI (wrapF .i64 (Int.add x79 (Int.ofNat 1))) fun x80 =>
r66 (v63.1, (AV.int .i64 x78), v63.2.2.1, v63.2.2.2.1, (AV.int .i64 x80), ()) d64 h65)) (
J.jd (α := AV × Unit) (fun v81 d82 h83 =>
leaveK (gam J [(220, w220 c220)]) d82 h83 fun h85 =>
asI .i64 v81.1 fun x86 =>
k x86 AV.nili h85) fun j84 =>
ixsK v63.1 (AV.int .i64 (Int.ofNat 0)) fun x87 =>
fB (eqI x87 (Int.ofNat 45)) fun b88 =>
br b88 (
op' (aUn .neg v63.2.1) fun v89 =>
asI .i64 v89 fun x90 =>
j84 ((AV.int .i64 x90), ()) d64 h65) (
j84 (v63.2.1, ()) d64 h65))) (v56.2.1, (AV.int .i64 (Int.ofNat 0)), (AV.slice n60 0 s62.len s62.len 1 false), (AV.int .i64 (Int.ofNat s62.len)), (AV.int .i64 (Int.ofNat 0)), ()) d57 h61) fun j59 =>
ixsK (AV.str a0) (AV.int .i64 (Int.ofNat 0)) fun x91 =>
fB (eqI x91 (Int.ofNat 45)) fun b92 =>
J.jn (fun v93 h94 =>
J.jn (fun v96 h97 =>
J.jn (fun v100 h101 =>
pickB (AV.bool b92) (AV.bool true) v100 fun b105 =>
br b105 (
subK (AV.str a0) (some (AV.int .i64 (Int.ofNat 1))) none fun s106 =>
fB (ltI (Int.ofNat s106.len) (Int.ofNat 1)) fun b107 =>
br b107 (
k (Int.ofNat 0) (AV.iface 301 (AV.int .i64 (Int.ofNat 2))) h101) (
j59 ((AV.str s106), (AV.str a0), ()) [] h101)) (
j59 ((AV.str a0), (AV.str a0), ()) [] h101)) fun j102 =>
br b92 (
j102 skipV h97) (
asI .u8 v96 fun x103 =>
fB (eqI x103 (Int.ofNat 43)) fun b104 =>
j102 (AV.bool b104) h97)) fun j98 =>
br b92 (
j98 skipV h94) (
ixsK v93 (AV.int .i64 (Int.ofNat 0)) fun x99 =>
j98 (AV.int .u8 x99) h94)) fun j95 =>
br b92 (
j95 skipV h52) (
j95 (AV.str a0) h52)) (
c220 a0 (Int.ofNat 10) (Int.ofNat 0) h52 fun x109 v110 h108 =>
k x109 v110 h108)) fun j53 =>
br b24 (
j53 skipV h48) (
pickB v25 v47 (AV.bool false) fun b54 =>
j53 (AV.bool b54) h48)) fun j49 =>
asBU v25 (fun b111 =>
br b111 (
pickB v36 v42 (AV.bool false) fun b50 =>
j49 (AV.bool b50) h43) (
j49 skipV h43)) (
j49 skipV h43)) fun j44 =>
asBU v36 (fun b112 =>
br b112 (
asI .i64 v39 fun x45 =>
fB (ltI x45 (Int.ofNat 19)) fun b46 =>
j44 (AV.bool b46) h40) (
j44 skipV h40)) (
j44 skipV h40)) fun j41 =>
asBU v36 (fun b113 =>
br b113 (
j41 (AV.int .i64 (Int.ofNat a0.len)) h37) (
j41 skipV h37)) (
j41 skipV h37)) fun j38 =>
asBU v25 (fun b114 =>
br b114 (
j38 v31 h32) (
j38 skipV h32)) (
j38 skipV h32)) fun j33 =>
asBU v25 (fun b115 =>
br b115 (
asI .i64 v28 fun x34 =>
fB (ltI (Int.ofNat 0) x34) fun b35 =>
j33 (AV.bool b35) h29) (
j33 skipV h29)) (
j33 skipV h29)) fun j30 =>
asBU v25 (fun b116 =>
br b116 (
j30 (AV.int .i64 (Int.ofNat a0.len)) h26) (
j30 skipV h26)) (
j30 skipV h26)) fun j27 =>
br b24 (
j27 skipV h21) (
j27 (AV.bool true) h21)) fun j22 =>
br false (
pickB v9 v15 (AV.bool false) fun b23 =>
j22 (AV.bool b23) h16) (
j22 skipV h16)) fun j17 =>
asBU v9 (fun b117 =>
br b117 (
asI .i64 v12 fun x18 =>
fB (ltI x18 (Int.ofNat 10)) fun b19 =>
j17 (AV.bool b19) h13) (
j17 skipV h13)) (
j17 skipV h13)) fun j14 =>
asBU v9 (fun b118 =>
br b118 (
j14 (AV.int .i64 (Int.ofNat a0.len)) h10) (
j14 skipV h10)) (
j14 skipV h10)) fun j11 =>
br false (
j11 v4 h5) (
j11 skipV h5)) fun j6 =>
br false (
asI .i64 v1 fun x7 =>
fB (ltI (Int.ofNat 0) x7) fun b8 =>
j6 (AV.bool b8) h2) (
j6 skipV h2)) fun j3 =>
br false (
j3 (AV.int .i64 (Int.ofNat a0.len)) h) (
j3 skipV h)
noncomputable def s186 : Str → H → (Int → AV → H → Prop) → Prop := s186G J0 s220
noncomputable def w186 (c : Str → H → (Int → AV → H → Prop) → Prop) : Fun := fun xs h k => arg xs fun a0 xs => noArg xs <| asS a0 fun a0 => c a0 h fun r0 r1 h => k (.tuple [(.int .i64 r0), r1]) h
theorem s186_eq (J : Joins) (c220 : Str → Int → Int → H → (Int → AV → H → Prop) → Prop) (a0 : Str) (h : H) (k : AV → H → Prop) : denF ty (gam J [(220, w220 c220)]) Tryz.f186 [(.str a0)] h k = s186G J c220 a0 h (fun r0 r1 h => k (.tuple [(.int .i64 r0), r1]) h) := by kernel_rfl
noncomputable def g186 : Fun := w186 s186
theorem g186_ok : FunOk Tryz.prog 186 g186 := (fun_ok ty_ok mixed (gam_ok (J := J0) (tab_cons g220_ok (tab_nil fls_fun))) Tryz.func186 (fun args w => by simp)).imp fun xs h k e0 => by
  obtain ⟨a0, xs0, rfl, e1⟩ := arg_imp e0
  obtain ⟨rfl, e2⟩ := noArg_imp e1
  obtain ⟨a0, rfl, e3⟩ := asS_iff.1 e2
  exact (s186_eq J0 s220 a0 h k).mpr e3
/-- internal/stringslite.Clone -/
noncomputable def g248 : Fun := denFS ty (gam J0 []) Tryz.f248
theorem g248_ok : FunOk Tryz.prog 248 g248 := fun_okS ty_ok mixed (gam_ok (J := J0) (tab_nil fls_fun)) Tryz.func248 (fun args w => by simp)
/-- strconv.syntaxError -/
noncomputable def g221 : Fun := denFS ty (gam J0 [(248, g248)]) Tryz.f221
theorem g221_ok : FunOk Tryz.prog 221 g221 := fun_okS ty_ok mixed (gam_ok (J := J0) (tab_cons g248_ok (tab_nil fls_fun))) Tryz.func221 (fun args w => by simp)
/-- strconv.toError -/
noncomputable def g187 : Fun := denFS ty (gam J0 [(221, g221)]) Tryz.f187
theorem g187_ok : FunOk Tryz.prog 187 g187 := fun_okS ty_ok mixed (gam_ok (J := J0) (tab_cons g221_ok (tab_nil fls_fun))) Tryz.func187 (fun args w => by simp)
/-- strconv.Atoi -/
noncomputable def s127G (J : Joins) (c186 : Str → H → (Int → AV → H → Prop) → Prop) (c187 : Fun) (a0 : Str) (h : H) (k : Int → AV → H → Prop) : Prop :=
c186 a0 h fun x2 v3 h1 =>
nilB 10 v3 fun b4 =>
fB (Bool.not b4) fun b5 =>
br b5 (
c187 [(AV.str ⟨4, 1098149737⟩), (AV.str a0), (AV.int .i64 (Int.ofNat 0)), (AV.int .i64 (Int.ofNat 0)), v3] h1 fun v6 h7 =>
k x2 v6 h7) (
k x2 AV.nili h1)
noncomputable def s127 : Str → H → (Int → AV → H → Prop) → Prop := s127G J0 s186 g187
noncomputable def w127 (c : Str → H → (Int → AV → H → Prop) → Prop) : Fun := fun xs h k => arg xs fun a0 xs => noArg xs <| asS a0 fun a0 => c a0 h fun r0 r1 h => k (.tuple [(.int .i64 r0), r1]) h
theorem s127_eq (J : Joins) (c186 : Str → H → (Int → AV → H → Prop) → Prop) (c187 : Fun) (a0 : Str) (h : H) (k : AV → H → Prop) : denF ty (gam J [(186, w186 c186), (187, c187)]) Tryz.f127 [(.str a0)] h k = s127G J c186 c187 a0 h (fun r0 r1 h => k (.tuple [(.int .i64 r0), r1]) h) := by kernel_rfl
noncomputable def g127 : Fun := w127 s127
theorem g127_ok : FunOk Tryz.prog 127 g127 := (fun_ok ty_ok mixed (gam_ok (J := J0) (tab_cons g186_ok (tab_cons g187_ok (tab_nil fls_fun)))) Tryz.func127 (fun args w => by simp)).imp fun xs h k e0 => by
  obtain ⟨a0, xs0, rfl, e1⟩ := arg_imp e0
  obtain ⟨rfl, e2⟩ := noArg_imp e1
  obtain ⟨a0, rfl, e3⟩ := asS_iff.1 e2
  exact (s127_eq J0 s186 g187 a0 h k).mpr e3
/-- internal/stringslite.TrimPrefix -/
noncomputable def g204 : Fun := denFS ty (gam J0 [(208, g208)]) Tryz.f204
theorem g204_ok : FunOk Tryz.prog 204 g204 := fun_okS ty_ok mixed (gam_ok (J := J0) (tab_cons g208_ok (tab_nil fls_fun))) Tryz.func204 (fun args w => by simp)
/-- strings.TrimPrefix -/
noncomputable def g158 : Fun := denFS ty (gam J0 [(204, g204)]) Tryz.f158
theorem g158_ok : FunOk Tryz.prog 158 g158 := fun_okS ty_ok mixed (gam_ok (J := J0) (tab_cons g204_ok (tab_nil fls_fun))) Tryz.func158 (fun args w => by simp)
/-- stagepost/wal.number -/
noncomputable def g100 : Fun := denFS ty (gam J0 [(73, g73), (127, g127), (158, g158)]) Tryz.f100
theorem g100_ok : FunOk Tryz.prog 100 g100 := fun_okS ty_ok mixed (gam_ok (J := J0) (tab_cons g73_ok (tab_cons g127_ok (tab_cons g158_ok (tab_nil fls_fun))))) Tryz.func100 (fun args w => by simp)
/-- (*stagepost/wal.Wal).Drop -/
noncomputable def g47 : Fun := denFS ty (gam J0 [(54, g54), (62, g62), (69, g69), (74, g74), (98, g98), (100, g100)]) Tryz.f47
theorem g47_ok : FunOk Tryz.prog 47 g47 := fun_okS ty_ok mixed (gam_ok (J := J0) (tab_cons g54_ok (tab_cons g62_ok (tab_cons g69_ok (tab_cons g74_ok (tab_cons g98_ok (tab_cons g100_ok (tab_nil fls_fun)))))))) Tryz.func47 (fun args w => by simp)
noncomputable def gd39 : Fun := denD ty (gam J0 [(25, g25)]) Tryz.f39
theorem gd39_ok : DFunOk Tryz.prog 39 gd39 := dfun_ok ty_ok mixed (gam_ok (J := J0) (tab_cons g25_ok (tab_nil fls_fun))) Tryz.func39 (fun args w => by simp)
/-- (*stagepost/lsm.Store).Flush -/
noncomputable def g10 : Fun := denFS ty (gamD J0 [(23, g23), (31, g31), (32, g32), (37, g37), (38, g38), (39, g39), (40, g40), (41, g41), (42, g42), (43, g43), (44, g44), (45, g45'), (46, g46), (47, g47)] [] [(39, gd39)] noCode) Tryz.f10
theorem g10_ok : FunOk Tryz.prog 10 g10 := fun_okS ty_ok mixed (gamD_ok (J := J0) (tab_cons g23_ok (tab_cons g31_ok (tab_cons g32_ok (tab_cons g37_ok (tab_cons g38_ok (tab_cons g39_ok (tab_cons g40_ok (tab_cons g41_ok (tab_cons g42_ok (tab_cons g43_ok (tab_cons g44_ok (tab_cons g45'_ok (tab_cons g46_ok (tab_cons g47_ok (tab_nil fls_fun))))))))))))))) (tab_nil fls_it) (tab_cons gd39_ok (tab_nil fls_dfn)) noCode_ok) Tryz.func10 (fun args w => by simp)
/-- (*stagepost/lsm.Store).on -/
noncomputable def g48 : Fun := denFS ty (gam J0 [(29, g29)]) Tryz.f48
theorem g48_ok : FunOk Tryz.prog 48 g48 := fun_okS ty_ok mixed (gam_ok (J := J0) (tab_cons g29_ok (tab_nil fls_fun))) Tryz.func48 (fun args w => by simp)
/-- stagepost/lsm.ends -/
noncomputable def g50 : Fun := denFS ty (gam J0 []) Tryz.f50
theorem g50_ok : FunOk Tryz.prog 50 g50 := fun_okS ty_ok mixed (gam_ok (J := J0) (tab_nil fls_fun)) Tryz.func50 (fun args w => by simp)
/-- (*stagepost/sst.Table).All -/
noncomputable def g52 : Fun := denFS ty (gam J0 [(34, g34)]) Tryz.f52
theorem g52_ok : FunOk Tryz.prog 52 g52 := fun_okS ty_ok mixed (gam_ok (J := J0) (tab_cons g34_ok (tab_nil fls_fun))) Tryz.func52 (fun args w => by simp)
/-- stagepost/block.Fold -/
noncomputable def g53 : Fun := denFS ty (gam J0 []) Tryz.f53
theorem g53_ok : FunOk Tryz.prog 53 g53 := fun_okS ty_ok mixed (gam_ok (J := J0) (tab_nil fls_fun)) Tryz.func53 (fun args w => by simp)
end Go.Proofs.YtfbdniomnnpemaaGreatDoor
