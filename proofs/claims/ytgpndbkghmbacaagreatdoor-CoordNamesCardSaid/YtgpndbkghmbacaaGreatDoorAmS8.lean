/- Functions as they are reckoned. MADE BY PROGRAM (wip/tools/shal.py). -/
import Derived.Test.YtgpndbkghmbacaaGreatDoorAmH252
namespace Go.Proofs.YtgpndbkghmbacaaGreatDoor
open Go Go.Am
set_option maxRecDepth 100000
set_option linter.all false
/-- internal/strconv.small -/
noncomputable def g496 : Fun := denFS ty (gam J0 []) Tryz.f496
theorem g496_ok : FunOk Tryz.prog 496 g496 := fun_okS ty_ok mixed (gam_ok (J := J0) (tab_nil fls_fun)) Tryz.func496 (fun args w => by simp)
/-- math/bits.Len64 -/
noncomputable def s236G (J : Joins) (a0 : Int) (h : H) (k : Int → H → Prop) : Prop :=
J.jd (α := AV × AV × Unit) (fun v1 d2 h3 =>
J.jd (α := AV × AV × Unit) (fun v5 d6 h7 =>
J.jd (α := AV × AV × Unit) (fun v9 d10 h11 =>
asI .u64 v9.1 fun x13 =>
fI (wrapF .u8 x13) fun x14 =>
ixsK (AV.str ⟨256, 496986003408712215933005303621146343841837811690876167382323004466384420695090407243345123874780946046625255262057845613767806773758184921447759720770971536008171983842311960805720366577116933250839345203839274948261284255908394484732272583221484877694546905335834403051067785895034095251181560891789708940188598129052595634438001880866652824740680664595948164050600812232986714152902334120417949232733424961741260388658846598210939813666227264727603044226856020347194099943897342244906131705541414413428559898943151040826816076322978570758226444464494629814583418847495712557856038296917933182380796641777551368⟩) (AV.int .u8 x14) fun x15 =>
fI (wrapF .i64 x15) fun x16 =>
asI .i64 v9.2.1 fun x17 =>
fI (wrapF .i64 (Int.add x17 x16)) fun x18 =>
leaveK (gam J []) d10 h11 fun h19 =>
k x18 h19) fun j12 =>
asI .u64 v5.1 fun x20 =>
fB (Bool.not (ltI x20 (Int.ofNat 256))) fun b21 =>
br b21 (
asI .u64 v5.1 fun x22 =>
fI (shrF x22 (nmin 8 (IntKind.bits .u64))) fun x23 =>
asI .i64 v5.2.1 fun x24 =>
fI (wrapF .i64 (Int.add x24 (Int.ofNat 8))) fun x25 =>
j12 ((AV.int .u64 x23), (AV.int .i64 x25), ()) d6 h7) (
j12 (v5.1, v5.2.1, ()) d6 h7)) fun j8 =>
asI .u64 v1.1 fun x26 =>
fB (Bool.not (ltI x26 (Int.ofNat 65536))) fun b27 =>
br b27 (
asI .u64 v1.1 fun x28 =>
fI (shrF x28 (nmin 16 (IntKind.bits .u64))) fun x29 =>
asI .i64 v1.2.1 fun x30 =>
fI (wrapF .i64 (Int.add x30 (Int.ofNat 16))) fun x31 =>
j8 ((AV.int .u64 x29), (AV.int .i64 x31), ()) d2 h3) (
j8 (v1.1, v1.2.1, ()) d2 h3)) fun j4 =>
fB (Bool.not (ltI a0 (Int.ofNat 4294967296))) fun b32 =>
br b32 (
fI (shrF a0 (nmin 32 (IntKind.bits .u64))) fun x33 =>
j4 ((AV.int .u64 x33), (AV.int .i64 (Int.ofNat 32)), ()) [] h) (
j4 ((AV.int .u64 a0), (AV.int .i64 (Int.ofNat 0)), ()) [] h)
noncomputable def s236 : Int → H → (Int → H → Prop) → Prop := s236G J0 
noncomputable def w236 (c : Int → H → (Int → H → Prop) → Prop) : Fun := fun xs h k => arg xs fun a0 xs => noArg xs <| asI .u64 a0 fun a0 => c a0 h fun r0 h => k (.int .i64 r0) h
theorem s236_eq (J : Joins) (a0 : Int) (h : H) (k : AV → H → Prop) : denF ty (gam J []) Tryz.f236 [(.int .u64 a0)] h k = s236G J  a0 h (fun r0 h => k (.int .i64 r0) h) := by kernel_rfl
noncomputable def g236 : Fun := w236 s236
theorem g236_ok : FunOk Tryz.prog 236 g236 := (fun_ok ty_ok mixed (gam_ok (J := J0) (tab_nil fls_fun)) Tryz.func236 (fun args w => by simp)).imp fun xs h k e0 => by
  obtain ⟨a0, xs0, rfl, e1⟩ := arg_imp e0
  obtain ⟨rfl, e2⟩ := noArg_imp e1
  obtain ⟨a0, rfl, e3⟩ := asI_iff.1 e2
  exact (s236_eq J0  a0 h k).mpr e3
/-- internal/strconv.log10Pow2 -/
noncomputable def g513 : Fun := denFS ty (gam J0 []) Tryz.f513
theorem g513_ok : FunOk Tryz.prog 513 g513 := fun_okS ty_ok mixed (gam_ok (J := J0) (tab_nil fls_fun)) Tryz.func513 (fun args w => by simp)
/-- internal/strconv.bool2[int] -/
noncomputable def g514 : Fun := denFS ty (gam J0 []) Tryz.f514
theorem g514_ok : FunOk Tryz.prog 514 g514 := fun_okS ty_ok mixed (gam_ok (J := J0) (tab_nil fls_fun)) Tryz.func514 (fun args w => by simp)
/-- internal/strconv.numDigits -/
noncomputable def g497 : Fun := denFS ty (gam J0 [(236, g236), (513, g513), (514, g514)]) Tryz.f497
theorem g497_ok : FunOk Tryz.prog 497 g497 := fun_okS ty_ok mixed (gam_ok (J := J0) (tab_cons g236_ok (tab_cons g513_ok (tab_cons g514_ok (tab_nil fls_fun))))) Tryz.func497 (fun args w => by simp)
/-- internal/strconv.formatBase10 -/
noncomputable def g498 : Fun := denFS ty (gam J0 []) Tryz.f498
theorem g498_ok : FunOk Tryz.prog 498 g498 := fun_okS ty_ok mixed (gam_ok (J := J0) (tab_nil fls_fun)) Tryz.func498 (fun args w => by simp)
/-- internal/strconv.FormatUint -/
noncomputable def g469 : Fun := denFS ty (gam J0 [(496, g496), (497, g497), (498, g498)]) Tryz.f469
theorem g469_ok : FunOk Tryz.prog 469 g469 := fun_okS ty_ok mixed (gam_ok (J := J0) (tab_cons g496_ok (tab_cons g497_ok (tab_cons g498_ok (tab_nil fls_fun))))) Tryz.func469 (fun args w => by simp)
/-- strconv.FormatUint -/
noncomputable def g427 : Fun := denFS ty (gam J0 [(469, g469)]) Tryz.f427
theorem g427_ok : FunOk Tryz.prog 427 g427 := fun_okS ty_ok mixed (gam_ok (J := J0) (tab_cons g469_ok (tab_nil fls_fun))) Tryz.func427 (fun args w => by simp)
/-- stagepost/lexer.said -/
noncomputable def s337G (J : Joins) (c427 : Fun) (a0 : AV) (h : H) (k : Str → H → Prop) : Prop :=
Go.Am.asAgg a0 fun l3 =>
pushK (.cells false 222 l3) h fun n1 h2 =>
ldI .u8 (AV.ptr n1 0) h2 fun x4 =>
fB (eqI x4 (Int.ofNat 2)) fun b5 =>
br b5 (
ldI .u64 (AV.ptr n1 2) h2 fun x6 =>
c427 [(AV.int .u64 x6), (AV.int .i64 (Int.ofNat 10))] h2 fun v7 h8 =>
asS v7 fun s9 =>
k s9 h8) (
fB (eqI x4 (Int.ofNat 3)) fun b10 =>
br b10 (
ldS (AV.ptr n1 1) h2 fun s11 =>
False) (
ldS (AV.ptr n1 1) h2 fun s12 =>
k s12 h2))
noncomputable def s337 : AV → H → (Str → H → Prop) → Prop := s337G J0 g427
noncomputable def w337 (c : AV → H → (Str → H → Prop) → Prop) : Fun := fun xs h k => arg xs fun a0 xs => noArg xs <| c a0 h fun r0 h => k (.str r0) h
theorem s337_eq (J : Joins) (c427 : Fun) (a0 : AV) (h : H) (k : AV → H → Prop) : denF ty (gam J [(427, c427)]) Tryz.f337 [a0] h k = s337G J c427 a0 h (fun r0 h => k (.str r0) h) := by kernel_rfl
noncomputable def g337 : Fun := w337 s337
theorem g337_ok : FunOk Tryz.prog 337 g337 := (fun_ok ty_ok mixed (gam_ok (J := J0) (tab_cons g427_ok (tab_nil fls_fun))) Tryz.func337 (fun args w => by simp)).imp fun xs h k e0 => by
  obtain ⟨a0, xs0, rfl, e1⟩ := arg_imp e0
  obtain ⟨rfl, e2⟩ := noArg_imp e1
  exact (s337_eq J0 g427 a0 h k).mpr e2
/-- unicode/utf8.word[string] -/
noncomputable def g468 : Fun := denFS ty (gam J0 []) Tryz.f468
theorem g468_ok : FunOk Tryz.prog 468 g468 := fun_okS ty_ok mixed (gam_ok (J := J0) (tab_nil fls_fun)) Tryz.func468 (fun args w => by simp)
/-- unicode/utf8.ValidString -/
noncomputable def g426 : Fun := denFS ty (gam J0 [(468, g468)]) Tryz.f426
theorem g426_ok : FunOk Tryz.prog 426 g426 := fun_okS ty_ok mixed (gam_ok (J := J0) (tab_cons g468_ok (tab_nil fls_fun))) Tryz.func426 (fun args w => by simp)
/-- stagepost/lexer.fine -/
noncomputable def s336G (J : Joins) (c59 : Str → H → (AV → AV → H → Prop) → Prop) (c337 : AV → H → (Str → H → Prop) → Prop) (c426 : Fun) (a0 : AV) (h : H) (k : Bool → H → Prop) : Prop :=
Go.Am.asAgg a0 fun l3 =>
pushK (.cells false 222 l3) h fun n1 h2 =>
ldI .i64 (AV.ptr n1 3) h2 fun x4 =>
fB (Bool.not (eqI x4 (Int.ofNat 0))) fun b5 =>
J.jn (fun v6 h7 =>
J.jn (fun v9 h10 =>
J.jn (fun v13 h14 =>
J.jn (fun v18 h19 =>
J.jn (fun v21 h22 =>
J.jn (fun v24 h25 =>
J.jn (fun v28 h29 =>
J.jn (fun v33 h34 =>
pickB (AV.bool b5) (AV.bool true) v33 fun b37 =>
J.jn (fun v38 h39 =>
J.jn (fun v41 h42 =>
J.jn (fun v45 h46 =>
pickB (AV.bool b37) (AV.bool true) v45 fun b50 =>
J.jn (fun v51 h52 =>
J.jn (fun v54 h55 =>
J.jn (fun v58 h59 =>
pickB (AV.bool b50) (AV.bool true) v58 fun b63 =>
br b63 (
k false h59) (
ldI .u8 (AV.ptr n1 0) h59 fun x64 =>
fB (eqI x64 (Int.ofNat 2)) fun b65 =>
br b65 (
ldS (AV.ptr n1 1) h59 fun s66 =>
fB (Str.beq s66 (⟨0, 0⟩ : Str)) fun b67 =>
J.jn (fun v68 h69 =>
J.jn (fun v71 h72 =>
J.jn (fun v75 h76 =>
pickB (AV.bool b67) v75 (AV.bool false) fun b80 =>
k b80 h76) fun j77 =>
br b67 (
asI .u64 v71 fun x78 =>
fB (Bool.not (ltI (Int.ofNat 9223372036854775808) x78)) fun b79 =>
j77 (AV.bool b79) h72) (
j77 skipV h72)) fun j73 =>
br b67 (
ldI .u64 v68 h69 fun x74 =>
j73 (AV.int .u64 x74) h69) (
j73 skipV h69)) fun j70 =>
br b67 (
j70 (AV.ptr n1 2) h59) (
j70 skipV h59)) (
ldI .u8 (AV.ptr n1 0) h59 fun x81 =>
fB (eqI x81 (Int.ofNat 3)) fun b82 =>
J.jn (fun v83 h84 =>
J.jn (fun v86 h87 =>
J.jn (fun v90 h91 =>
J.jn (fun v94 h95 =>
J.jn (fun v99 h100 =>
J.jn (fun v102 h103 =>
J.jn (fun v105 h106 =>
J.jn (fun v109 h110 =>
J.jn (fun v115 h116 =>
J.jn (fun v120 h121 =>
pickB (AV.bool b82) v120 (AV.bool false) fun b124 =>
br b124 (
k false h121) (
ldN 4 (AV.ptr n1 0) h121 fun l125 =>
c337 (AV.agg l125) h121 fun s127 h126 =>
c59 s127 h126 fun v129 v130 h128 =>
pushK (.cells false 108 [(.int .i64 0), (.int .i64 0)]) h128 fun n131 h132 =>
Go.Am.asAgg v130 fun l134 =>
stN 2 (AV.ptr n131 0) l134 h132 fun h133 =>
ldN 2 (AV.ptr n131 0) h133 fun l135 =>
obK (aBin ty .eql 108 false (AV.agg l135) (AV.agg [(.int .i64 0), (.int .i64 0)])) fun b136 =>
J.jn (fun v137 h138 =>
J.jn (fun v140 h141 =>
J.jn (fun v144 h145 =>
pickB (AV.bool b136) v144 (AV.bool false) fun b149 =>
J.jn (fun v150 h151 =>
J.jn (fun v153 h154 =>
J.jb (fun b157 v158 =>
J.jb (fun b161 v162 =>
J.jn (fun v165 h166 =>
pickB (AV.bool b149) v165 (AV.bool false) fun b169 =>
k b169 h166) fun j167 =>
br b149 (
obK (aBin ty .eql 222 false v158 v162) fun b168 =>
j167 (AV.bool b168) h154) (
j167 skipV h154)) fun j163 =>
br b149 (
ldN 4 (AV.ptr n1 0) h154 fun l164 =>
j163 true (AV.agg l164)) (
j163 false skipV)) fun j159 =>
br b149 (
ldN 4 v153 h154 fun l160 =>
j159 true (AV.agg l160)) (
j159 false skipV)) fun j155 =>
br b149 (
ixK 4 v150 (AV.int .i64 (Int.ofNat 0)) fun p156 =>
j155 p156 h151) (
j155 skipV h151)) fun j152 =>
br b149 (
j152 v129 h145) (
j152 skipV h145)) fun j146 =>
br b136 (
asI .i64 v140 fun x147 =>
fB (eqI x147 (Int.ofNat 1)) fun b148 =>
j146 (AV.bool b148) h141) (
j146 skipV h141)) fun j142 =>
br b136 (
lenK v137 fun x143 =>
j142 (AV.int .i64 (Int.ofNat x143)) h138) (
j142 skipV h138)) fun j139 =>
br b136 (
j139 v129 h133) (
j139 skipV h133))) fun j122 =>
br b82 (
pickB v99 (AV.bool true) v115 fun b123 =>
j122 (AV.bool b123) h116) (
j122 skipV h116)) fun j117 =>
asBU v99 (fun b170 =>
br b170 (
j117 skipV h110) (
asB v109 fun b118 =>
fB (Bool.not b118) fun b119 =>
j117 (AV.bool b119) h110)) (
j117 skipV h110)) fun j111 =>
asBU v99 (fun b171 =>
br b171 (
j111 skipV h106) (
c426 [v105] h106 fun v112 h113 =>
asB v112 fun b114 =>
j111 (AV.bool b114) h113)) (
j111 skipV h106)) fun j107 =>
asBU v99 (fun b172 =>
br b172 (
j107 skipV h103) (
ldS v102 h103 fun s108 =>
j107 (AV.str s108) h103)) (
j107 skipV h103)) fun j104 =>
asBU v99 (fun b173 =>
br b173 (
j104 skipV h100) (
j104 (AV.ptr n1 1) h100)) (
j104 skipV h100)) fun j101 =>
br b82 (
j101 v94 h95) (
j101 skipV h95)) fun j96 =>
br b82 (
asI .i64 v90 fun x97 =>
fB (ltI (Int.ofNat 64) x97) fun b98 =>
j96 (AV.bool b98) h91) (
j96 skipV h91)) fun j92 =>
br b82 (
asS v86 fun s93 =>
j92 (AV.int .i64 (Int.ofNat s93.len)) h87) (
j92 skipV h87)) fun j88 =>
br b82 (
ldS v83 h84 fun s89 =>
j88 (AV.str s89) h84) (
j88 skipV h84)) fun j85 =>
br b82 (
j85 (AV.ptr n1 1) h59) (
j85 skipV h59)))) fun j60 =>
br b50 (
j60 skipV h55) (
asI .u8 v54 fun x61 =>
fB (ltI (Int.ofNat 4) x61) fun b62 =>
j60 (AV.bool b62) h55)) fun j56 =>
br b50 (
j56 skipV h52) (
ldI .u8 v51 h52 fun x57 =>
j56 (AV.int .u8 x57) h52)) fun j53 =>
br b50 (
j53 skipV h46) (
j53 (AV.ptr n1 0) h46)) fun j47 =>
br b37 (
j47 skipV h42) (
asI .u8 v41 fun x48 =>
fB (eqI x48 (Int.ofNat 0)) fun b49 =>
j47 (AV.bool b49) h42)) fun j43 =>
br b37 (
j43 skipV h39) (
ldI .u8 v38 h39 fun x44 =>
j43 (AV.int .u8 x44) h39)) fun j40 =>
br b37 (
j40 skipV h34) (
j40 (AV.ptr n1 0) h34)) fun j35 =>
br b5 (
j35 skipV h29) (
pickB v18 v28 (AV.bool false) fun b36 =>
j35 (AV.bool b36) h29)) fun j30 =>
asBU v18 (fun b174 =>
br b174 (
asI .u64 v24 fun x31 =>
fB (Bool.not (eqI x31 (Int.ofNat 0))) fun b32 =>
j30 (AV.bool b32) h25) (
j30 skipV h25)) (
j30 skipV h25)) fun j26 =>
asBU v18 (fun b175 =>
br b175 (
ldI .u64 v21 h22 fun x27 =>
j26 (AV.int .u64 x27) h22) (
j26 skipV h22)) (
j26 skipV h22)) fun j23 =>
asBU v18 (fun b176 =>
br b176 (
j23 (AV.ptr n1 2) h19) (
j23 skipV h19)) (
j23 skipV h19)) fun j20 =>
br b5 (
j20 skipV h14) (
j20 v13 h14)) fun j15 =>
br b5 (
j15 skipV h10) (
asI .u8 v9 fun x16 =>
fB (Bool.not (eqI x16 (Int.ofNat 2))) fun b17 =>
j15 (AV.bool b17) h10)) fun j11 =>
br b5 (
j11 skipV h7) (
ldI .u8 v6 h7 fun x12 =>
j11 (AV.int .u8 x12) h7)) fun j8 =>
br b5 (
j8 skipV h2) (
j8 (AV.ptr n1 0) h2)
noncomputable def s336 : AV → H → (Bool → H → Prop) → Prop := s336G J0 s59 s337 g426
noncomputable def w336 (c : AV → H → (Bool → H → Prop) → Prop) : Fun := fun xs h k => arg xs fun a0 xs => noArg xs <| c a0 h fun r0 h => k (.bool r0) h
theorem s336_eq (J : Joins) (c59 : Str → H → (AV → AV → H → Prop) → Prop) (c337 : AV → H → (Str → H → Prop) → Prop) (c426 : Fun) (a0 : AV) (h : H) (k : AV → H → Prop) : denF ty (gam J [(59, w59 c59), (337, w337 c337), (426, c426)]) Tryz.f336 [a0] h k = s336G J c59 c337 c426 a0 h (fun r0 h => k (.bool r0) h) := by kernel_rfl
noncomputable def g336 : Fun := w336 s336
theorem g336_ok : FunOk Tryz.prog 336 g336 := (fun_ok ty_ok mixed (gam_ok (J := J0) (tab_cons g59_ok (tab_cons g337_ok (tab_cons g426_ok (tab_nil fls_fun))))) Tryz.func336 (fun args w => by simp)).imp fun xs h k e0 => by
  obtain ⟨a0, xs0, rfl, e1⟩ := arg_imp e0
  obtain ⟨rfl, e2⟩ := noArg_imp e1
  exact (s336_eq J0 s59 s337 g426 a0 h k).mpr e2
/-- strings.Join -/
noncomputable def s338G (J : Joins) (c241 : AV → Str → H → (Int → AV → H → Prop) → Prop) (c244 : AV → H → (Str → H → Prop) → Prop) (c315 : Fun) (a0 : AV) (a1 : Str) (h : H) (k : Str → H → Prop) : Prop :=
lenK a0 fun x1 =>
fB (eqI (Int.ofNat x1) (Int.ofNat 0)) fun b2 =>
br b2 (
k ⟨0, 0⟩ h) (
fB (eqI (Int.ofNat x1) (Int.ofNat 1)) fun b3 =>
br b3 (
ixK 1 a0 (AV.int .i64 (Int.ofNat 0)) fun p4 =>
ldS p4 h fun s5 =>
k s5 h) (
J.jd (α := AV × AV × AV × Unit) (fun v6 d7 h8 =>
lenK v6.1 fun x10 =>
J.lp (α := AV × AV × AV × AV × AV × AV × Unit) (fun r14 v11 d12 h13 =>
asI .i64 v11.2.2.2.2.2.1 fun x15 =>
asI .i64 v11.2.2.2.2.1 fun x16 =>
fB (ltI x15 x16) fun b17 =>
br b17 (
ixK 1 v11.2.2.2.1 v11.2.2.2.2.2.1 fun p18 =>
ldS p18 h13 fun s19 =>
J.jd (α := AV × AV × AV × AV × AV × AV × AV × Unit) (fun v20 d21 h22 =>
asS v20.2.2.2.1 fun s24 =>
asI .i64 v20.2.2.1 fun x25 =>
fI (wrapF .i64 (Int.add x25 (Int.ofNat s24.len))) fun x26 =>
asI .i64 v20.2.2.2.2.2.2.1 fun x27 =>
fI (wrapF .i64 (Int.add x27 (Int.ofNat 1))) fun x28 =>
r14 (v20.1, v20.2.1, (AV.int .i64 x26), v20.2.2.2.2.1, v20.2.2.2.2.2.1, (AV.int .i64 x28), ()) d21 h22) fun j23 =>
asI .i64 v11.2.2.1 fun x29 =>
fI (wrapF .i64 (Int.sub (Int.ofNat 9223372036854775807) x29)) fun x30 =>
fB (ltI x30 (Int.ofNat s19.len)) fun b31 =>
br b31 (
False) (
j23 (v11.1, v11.2.1, v11.2.2.1, (AV.str s19), v11.2.2.2.1, v11.2.2.2.2.1, v11.2.2.2.2.2.1, ()) d12 h13)) (
pushK (.cells false 395 [(.nilp), (.nils)]) h13 fun n32 h33 =>
c315 [(AV.ptr n32 0), v11.2.2.1] h33 fun v34 h35 =>
ixK 1 v11.1 (AV.int .i64 (Int.ofNat 0)) fun p36 =>
ldS p36 h35 fun s37 =>
c241 (AV.ptr n32 0) s37 h35 fun x39 v40 h38 =>
slK 1 v11.1 (some (AV.int .i64 (Int.ofNat 1))) none fun v41 =>
lenK v41 fun x42 =>
J.lp (α := AV × AV × AV × AV × AV × Unit) (fun r46 v43 d44 h45 =>
asI .i64 v43.2.2.2.2.1 fun x47 =>
asI .i64 v43.2.2.2.1 fun x48 =>
fB (ltI x47 x48) fun b49 =>
br b49 (
ixK 1 v43.2.2.1 v43.2.2.2.2.1 fun p50 =>
ldS p50 h45 fun s51 =>
asS v43.1 fun s53 =>
c241 v43.2.1 s53 h45 fun x54 v55 h52 =>
c241 v43.2.1 s51 h52 fun x57 v58 h56 =>
asI .i64 v43.2.2.2.2.1 fun x59 =>
fI (wrapF .i64 (Int.add x59 (Int.ofNat 1))) fun x60 =>
r46 (v43.1, v43.2.1, v43.2.2.1, v43.2.2.2.1, (AV.int .i64 x60), ()) d44 h56) (
c244 v43.2.1 h45 fun s62 h61 =>
leaveK (gam J [(241, w241 c241), (244, w244 c244), (315, c315)]) d44 h61 fun h63 =>
k s62 h63)) (v11.2.1, (AV.ptr n32 0), v41, (AV.int .i64 (Int.ofNat x42)), (AV.int .i64 (Int.ofNat 0)), ()) d12 h38)) (v6.1, v6.2.1, v6.2.2.1, v6.1, (AV.int .i64 (Int.ofNat x10)), (AV.int .i64 (Int.ofNat 0)), ()) d7 h8) fun j9 =>
fB (ltI (Int.ofNat 0) (Int.ofNat a1.len)) fun b64 =>
br b64 (
J.jd (α := AV × AV × AV × Unit) (fun v65 d66 h67 =>
asS v65.2.1 fun s69 =>
lenK v65.1 fun x70 =>
fI (wrapF .i64 (Int.sub (Int.ofNat x70) (Int.ofNat 1))) fun x71 =>
fI (wrapF .i64 (Int.mul (Int.ofNat s69.len) x71)) fun x72 =>
asI .i64 v65.2.2.1 fun x73 =>
fI (wrapF .i64 (Int.add x73 x72)) fun x74 =>
j9 (v65.1, v65.2.1, (AV.int .i64 x74), ()) d66 h67) fun j68 =>
lenK a0 fun x75 =>
fI (wrapF .i64 (Int.sub (Int.ofNat x75) (Int.ofNat 1))) fun x76 =>
ck (Bool.not (eqI x76 0)) (fI (wrapF .i64 (Int.tdiv (Int.ofNat 9223372036854775807) x76)) fun x77 =>
fB (Bool.not (ltI (Int.ofNat a1.len) x77)) fun b78 =>
br b78 (
False) (
j68 (a0, (AV.str a1), (AV.int .i64 (Int.ofNat 0)), ()) [] h))) (
j9 (a0, (AV.str a1), (AV.int .i64 (Int.ofNat 0)), ()) [] h)))
noncomputable def s338 : AV → Str → H → (Str → H → Prop) → Prop := s338G J0 s241 s244 g315'
noncomputable def w338 (c : AV → Str → H → (Str → H → Prop) → Prop) : Fun := fun xs h k => arg xs fun a0 xs => arg xs fun a1 xs => noArg xs <| asS a1 fun a1 => c a0 a1 h fun r0 h => k (.str r0) h
theorem s338_eq (J : Joins) (c241 : AV → Str → H → (Int → AV → H → Prop) → Prop) (c244 : AV → H → (Str → H → Prop) → Prop) (c315 : Fun) (a0 : AV) (a1 : Str) (h : H) (k : AV → H → Prop) : denF ty (gam J [(241, w241 c241), (244, w244 c244), (315, c315)]) Tryz.f338 [a0, (.str a1)] h k = s338G J c241 c244 c315 a0 a1 h (fun r0 h => k (.str r0) h) := by kernel_rfl
noncomputable def g338 : Fun := w338 s338
theorem g338_ok : FunOk Tryz.prog 338 g338 := (fun_ok ty_ok mixed (gam_ok (J := J0) (tab_cons g241_ok (tab_cons g244_ok (tab_cons g315'_ok (tab_nil fls_fun))))) Tryz.func338 (fun args w => by simp)).imp fun xs h k e0 => by
  obtain ⟨a0, xs0, rfl, e1⟩ := arg_imp e0
  obtain ⟨a1, xs1, rfl, e2⟩ := arg_imp e1
  obtain ⟨rfl, e3⟩ := noArg_imp e2
  obtain ⟨a1, rfl, e4⟩ := asS_iff.1 e3
  exact (s338_eq J0 s241 s244 g315' a0 a1 h k).mpr e4
/-- stagepost/lexer.Text -/
noncomputable def s253G (J : Joins) (c336 : AV → H → (Bool → H → Prop) → Prop) (c337 : AV → H → (Str → H → Prop) → Prop) (c338 : AV → Str → H → (Str → H → Prop) → Prop) (a0 : AV) (h : H) (k : Str → AV → H → Prop) : Prop :=
pushK (.cells false 108 [(.int .i64 0), (.int .i64 0)]) h fun n1 h2 =>
lenK a0 fun x3 =>
op' (aMakeSl ty 9 (AV.int .i64 (Int.ofNat x3)) (AV.int .i64 (Int.ofNat x3))) fun k4 =>
pushK k4.1 h2 fun n5 h6 =>
lenK a0 fun x7 =>
J.lp (α := AV × AV × AV × AV × AV × Unit) (fun r11 v8 d9 h10 =>
asI .i64 v8.2.2.2.2.1 fun x12 =>
asI .i64 v8.2.2.2.1 fun x13 =>
fB (ltI x12 x13) fun b14 =>
br b14 (
ixK 4 v8.2.2.1 v8.2.2.2.2.1 fun p15 =>
ldN 4 p15 h10 fun l16 =>
pushK (.cells false 222 [(.int .u8 0), (.str ⟨0, 0⟩), (.int .u64 0), (.int .i64 0)]) h10 fun n17 h18 =>
stN 4 (AV.ptr n17 0) l16 h18 fun h19 =>
ldN 4 (AV.ptr n17 0) h19 fun l20 =>
c336 (AV.agg l20) h19 fun b22 h21 =>
fB (Bool.not b22) fun b23 =>
br b23 (
asI .i64 v8.2.2.2.2.1 fun x24 =>
stN 2 v8.1 [(AV.int .i64 (Int.ofNat 2)), (AV.int .i64 x24)] h21 fun h25 =>
leaveK (gam J [(336, w336 c336), (337, w337 c337), (338, w338 c338)]) d9 h25 fun h26 =>
ldN 2 v8.1 h26 fun l27 =>
k ⟨0, 0⟩ (AV.agg l27) h26) (
ldN 4 (AV.ptr n17 0) h21 fun l28 =>
c337 (AV.agg l28) h21 fun s30 h29 =>
ixK 1 v8.2.1 v8.2.2.2.2.1 fun p31 =>
stV p31 (AV.str s30) h29 fun h32 =>
asI .i64 v8.2.2.2.2.1 fun x33 =>
fI (wrapF .i64 (Int.add x33 (Int.ofNat 1))) fun x34 =>
r11 (v8.1, v8.2.1, v8.2.2.1, v8.2.2.2.1, (AV.int .i64 x34), ()) d9 h32)) (
c338 v8.2.1 ⟨1, 32⟩ h10 fun s36 h35 =>
stN 2 v8.1 [(.int .i64 0), (.int .i64 0)] h35 fun h37 =>
leaveK (gam J [(336, w336 c336), (337, w337 c337), (338, w338 c338)]) d9 h37 fun h38 =>
ldN 2 v8.1 h38 fun l39 =>
k s36 (AV.agg l39) h38)) ((AV.ptr n1 0), (k4.2 n5), a0, (AV.int .i64 (Int.ofNat x7)), (AV.int .i64 (Int.ofNat 0)), ()) [] h6
noncomputable def s253 : AV → H → (Str → AV → H → Prop) → Prop := s253G J0 s336 s337 s338
noncomputable def w253 (c : AV → H → (Str → AV → H → Prop) → Prop) : Fun := fun xs h k => arg xs fun a0 xs => noArg xs <| c a0 h fun r0 r1 h => k (.tuple [(.str r0), r1]) h
theorem s253_eq (J : Joins) (c336 : AV → H → (Bool → H → Prop) → Prop) (c337 : AV → H → (Str → H → Prop) → Prop) (c338 : AV → Str → H → (Str → H → Prop) → Prop) (a0 : AV) (h : H) (k : AV → H → Prop) : denF ty (gam J [(336, w336 c336), (337, w337 c337), (338, w338 c338)]) Tryz.f253 [a0] h k = s253G J c336 c337 c338 a0 h (fun r0 r1 h => k (.tuple [(.str r0), r1]) h) := by kernel_rfl
noncomputable def g253 : Fun := w253 s253
theorem g253_ok : FunOk Tryz.prog 253 g253 := (fun_ok ty_ok mixed (gam_ok (J := J0) (tab_cons g336_ok (tab_cons g337_ok (tab_cons g338_ok (tab_nil fls_fun))))) Tryz.func253 (fun args w => by simp)).imp fun xs h k e0 => by
  obtain ⟨a0, xs0, rfl, e1⟩ := arg_imp e0
  obtain ⟨rfl, e2⟩ := noArg_imp e1
  exact (s253_eq J0 s336 s337 s338 a0 h k).mpr e2
/-- slices.Equal[[]string,string] -/
noncomputable def s143G (J : Joins) (a0 : AV) (a1 : AV) (h : H) (k : Bool → H → Prop) : Prop :=
lenK a0 fun x1 =>
lenK a1 fun x2 =>
fB (Bool.not (eqI (Int.ofNat x1) (Int.ofNat x2))) fun b3 =>
br b3 (
k false h) (
lenK a0 fun x4 =>
J.lp (α := AV × AV × AV × AV × Unit) (fun r8 v5 d6 h7 =>
asI .i64 v5.2.2.2.1 fun x9 =>
asI .i64 v5.2.2.1 fun x10 =>
fB (ltI x9 x10) fun b11 =>
br b11 (
ixK 1 v5.1 v5.2.2.2.1 fun p12 =>
ldS p12 h7 fun s13 =>
ixK 1 v5.2.1 v5.2.2.2.1 fun p14 =>
ldS p14 h7 fun s15 =>
fB (Bool.not (Str.beq s13 s15)) fun b16 =>
br b16 (
leaveK (gam J []) d6 h7 fun h17 =>
k false h17) (
asI .i64 v5.2.2.2.1 fun x18 =>
fI (wrapF .i64 (Int.add x18 (Int.ofNat 1))) fun x19 =>
r8 (v5.1, v5.2.1, v5.2.2.1, (AV.int .i64 x19), ()) d6 h7)) (
leaveK (gam J []) d6 h7 fun h20 =>
k true h20)) (a0, a1, (AV.int .i64 (Int.ofNat x4)), (AV.int .i64 (Int.ofNat 0)), ()) [] h)
noncomputable def s143 : AV → AV → H → (Bool → H → Prop) → Prop := s143G J0 
noncomputable def w143 (c : AV → AV → H → (Bool → H → Prop) → Prop) : Fun := fun xs h k => arg xs fun a0 xs => arg xs fun a1 xs => noArg xs <| c a0 a1 h fun r0 h => k (.bool r0) h
theorem s143_eq (J : Joins) (a0 : AV) (a1 : AV) (h : H) (k : AV → H → Prop) : denF ty (gam J []) Tryz.f143 [a0, a1] h k = s143G J  a0 a1 h (fun r0 h => k (.bool r0) h) := by kernel_rfl
noncomputable def g143 : Fun := w143 s143
theorem g143_ok : FunOk Tryz.prog 143 g143 := (fun_ok ty_ok mixed (gam_ok (J := J0) (tab_nil fls_fun)) Tryz.func143 (fun args w => by simp)).imp fun xs h k e0 => by
  obtain ⟨a0, xs0, rfl, e1⟩ := arg_imp e0
  obtain ⟨a1, xs1, rfl, e2⟩ := arg_imp e1
  obtain ⟨rfl, e3⟩ := noArg_imp e2
  exact (s143_eq J0  a0 a1 h k).mpr e3
/-- slices.Equal[[]stagepost/api.Column,stagepost/api.Column] -/
noncomputable def s339G (J : Joins) (a0 : AV) (a1 : AV) (h : H) (k : Bool → H → Prop) : Prop :=
lenK a0 fun x1 =>
lenK a1 fun x2 =>
fB (Bool.not (eqI (Int.ofNat x1) (Int.ofNat x2))) fun b3 =>
br b3 (
k false h) (
lenK a0 fun x4 =>
J.lp (α := AV × AV × AV × AV × Unit) (fun r8 v5 d6 h7 =>
asI .i64 v5.2.2.2.1 fun x9 =>
asI .i64 v5.2.2.1 fun x10 =>
fB (ltI x9 x10) fun b11 =>
br b11 (
ixK 3 v5.1 v5.2.2.2.1 fun p12 =>
ldN 3 p12 h7 fun l13 =>
ixK 3 v5.2.1 v5.2.2.2.1 fun p14 =>
ldN 3 p14 h7 fun l15 =>
obK (aBin ty .neq 195 false (AV.agg l13) (AV.agg l15)) fun b16 =>
br b16 (
leaveK (gam J []) d6 h7 fun h17 =>
k false h17) (
asI .i64 v5.2.2.2.1 fun x18 =>
fI (wrapF .i64 (Int.add x18 (Int.ofNat 1))) fun x19 =>
r8 (v5.1, v5.2.1, v5.2.2.1, (AV.int .i64 x19), ()) d6 h7)) (
leaveK (gam J []) d6 h7 fun h20 =>
k true h20)) (a0, a1, (AV.int .i64 (Int.ofNat x4)), (AV.int .i64 (Int.ofNat 0)), ()) [] h)
noncomputable def s339 : AV → AV → H → (Bool → H → Prop) → Prop := s339G J0 
noncomputable def w339 (c : AV → AV → H → (Bool → H → Prop) → Prop) : Fun := fun xs h k => arg xs fun a0 xs => arg xs fun a1 xs => noArg xs <| c a0 a1 h fun r0 h => k (.bool r0) h
theorem s339_eq (J : Joins) (a0 : AV) (a1 : AV) (h : H) (k : AV → H → Prop) : denF ty (gam J []) Tryz.f339 [a0, a1] h k = s339G J  a0 a1 h (fun r0 h => k (.bool r0) h) := by kernel_rfl
noncomputable def g339 : Fun := w339 s339
theorem g339_ok : FunOk Tryz.prog 339 g339 := (fun_ok ty_ok mixed (gam_ok (J := J0) (tab_nil fls_fun)) Tryz.func339 (fun args w => by simp)).imp fun xs h k e0 => by
  obtain ⟨a0, xs0, rfl, e1⟩ := arg_imp e0
  obtain ⟨a1, xs1, rfl, e2⟩ := arg_imp e1
  obtain ⟨rfl, e3⟩ := noArg_imp e2
  exact (s339_eq J0  a0 a1 h k).mpr e3
noncomputable def ring342 : Nat → List (Nat × Fun) := fun n => Nat.rec (motive := fun _ => List (Nat × Fun)) [] (fun _ r => [(342, denFS ty (gam J0 (r)) Tryz.f342),
  (343, denFS ty (gam J0 (r)) Tryz.f343)]) n
theorem ring342_ok : ∀ n, TabOk (FunOk Tryz.prog) (ring342 n)
  | 0 => tab_nil fls_fun
  | n + 1 => (tab_cons (fun_okS ty_ok mixed (gam_ok (J := J0) (ring342_ok n)) Tryz.func342 (fun args w => by simp)) 
    (tab_cons (fun_okS ty_ok mixed (gam_ok (J := J0) (ring342_ok n)) Tryz.func343 (fun args w => by simp)) (tab_nil fls_fun)))
/-- slices.EqualFunc[[]stagepost/api.Expr,[]stagepost/api.Expr,stagepost/api.Expr,stagepost/api.Expr] -/
noncomputable def g342 : Fun := tab (ring342 24) 342
theorem g342_ok : FunOk Tryz.prog 342 g342 := ring342_ok 24 342
/-- stagepost/parser.SameExpr -/
noncomputable def g343 : Fun := tab (ring342 24) 343
theorem g343_ok : FunOk Tryz.prog 343 g343 := ring342_ok 24 343
/-- stagepost/parser.Same$1 -/
noncomputable def g341 : Fun := denFS ty (gam J0 [(342, g342), (343, g343)]) Tryz.f341
theorem g341_ok : FunOk Tryz.prog 341 g341 := fun_okS ty_ok mixed (gam_ok (J := J0) (tab_cons g342_ok (tab_cons g343_ok (tab_nil fls_fun)))) Tryz.func341 (fun args w => by simp)
/-- slices.EqualFunc[[][]stagepost/api.Expr,[][]stagepost/api.Expr,[]stagepost/api.Expr,[]stagepost/api.Expr] -/
noncomputable def g340 : Fun := denFS ty (gam J0 [(341, g341)]) Tryz.f340
theorem g340_ok : FunOk Tryz.prog 340 g340 := fun_okS ty_ok mixed (gam_ok (J := J0) (tab_cons g341_ok (tab_nil fls_fun))) Tryz.func340 (fun args w => by simp)
/-- stagepost/parser.Same$2 -/
noncomputable def g345 : Fun := denFS ty (gam J0 [(343, g343)]) Tryz.f345
theorem g345_ok : FunOk Tryz.prog 345 g345 := fun_okS ty_ok mixed (gam_ok (J := J0) (tab_cons g343_ok (tab_nil fls_fun))) Tryz.func345 (fun args w => by simp)
/-- slices.EqualFunc[[]stagepost/api.Item,[]stagepost/api.Item,stagepost/api.Item,stagepost/api.Item] -/
noncomputable def g344 : Fun := denFS ty (gam J0 [(345, g345)]) Tryz.f344
theorem g344_ok : FunOk Tryz.prog 344 g344 := fun_okS ty_ok mixed (gam_ok (J := J0) (tab_cons g345_ok (tab_nil fls_fun))) Tryz.func344 (fun args w => by simp)
/-- stagepost/parser.Same$3 -/
noncomputable def g347 : Fun := denFS ty (gam J0 [(343, g343)]) Tryz.f347
theorem g347_ok : FunOk Tryz.prog 347 g347 := fun_okS ty_ok mixed (gam_ok (J := J0) (tab_cons g343_ok (tab_nil fls_fun))) Tryz.func347 (fun args w => by simp)
/-- slices.EqualFunc[[]stagepost/api.Source,[]stagepost/api.Source,stagepost/api.Source,stagepost/api.Source] -/
noncomputable def g346 : Fun := denFS ty (gam J0 [(347, g347)]) Tryz.f346
theorem g346_ok : FunOk Tryz.prog 346 g346 := fun_okS ty_ok mixed (gam_ok (J := J0) (tab_cons g347_ok (tab_nil fls_fun))) Tryz.func346 (fun args w => by simp)
end Go.Proofs.YtgpndbkghmbacaaGreatDoor
