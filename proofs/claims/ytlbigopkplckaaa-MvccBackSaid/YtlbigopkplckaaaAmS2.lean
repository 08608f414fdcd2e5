/- Functions as they are reckoned. MADE BY PROGRAM (wip/tools/shal.py). -/
import Derived.Test.YtlbigopkplckaaaAmS1
namespace Go.Proofs.Ytlbigopkplckaaa
open Go Go.Am
set_option maxRecDepth 100000
set_option linter.all false
/-- stagepost/stagepostref01.Small -/
noncomputable def s77G (J : Joins) (c86 : AV → H → (Int → Int → Int → H → Prop) → Prop) (a0 : AV) (a1 : Int) (h : H) (k : Int → Int → Int → H → Prop) : Prop :=
c86 a0 h fun x2 x3 x4 h1 =>
fB (Bool.not (eqI x4 (Int.ofNat 0))) fun b5 =>
J.jn (fun v6 h7 =>
J.jn (fun v9 h10 =>
pickB (AV.bool b5) (AV.bool true) v9 fun b14 =>
J.jn (fun v15 h16 =>
J.jn (fun v18 h19 =>
J.jn (fun v21 h22 =>
J.jn (fun v26 h27 =>
pickB (AV.bool b14) (AV.bool true) v26 fun b32 =>
br b32 (
k (Int.ofNat 0) (Int.ofNat 0) (Int.ofNat 5) h27) (
fI (wrapF .i64 x2) fun x33 =>
k x33 x3 (Int.ofNat 0) h27)) fun j28 =>
br b14 (
j28 skipV h22) (
asI .u64 v15 fun x29 =>
asI .u64 v21 fun x30 =>
fB (ltI x30 x29) fun b31 =>
j28 (AV.bool b31) h22)) fun j23 =>
br b14 (
j23 skipV h19) (
asI .i64 v18 fun x24 =>
fI (wrapF .u64 x24) fun x25 =>
j23 (AV.int .u64 x25) h19)) fun j20 =>
br b14 (
j20 skipV h16) (
j20 (AV.int .i64 a1) h16)) fun j17 =>
br b14 (
j17 skipV h10) (
j17 (AV.int .u64 x2) h10)) fun j11 =>
br b5 (
j11 skipV h7) (
asI .i64 v6 fun x12 =>
fB (ltI x12 (Int.ofNat 0)) fun b13 =>
j11 (AV.bool b13) h7)) fun j8 =>
br b5 (
j8 skipV h1) (
j8 (AV.int .i64 a1) h1)
noncomputable def s77 : AV → Int → H → (Int → Int → Int → H → Prop) → Prop := s77G J0 s86
noncomputable def w77 (c : AV → Int → H → (Int → Int → Int → H → Prop) → Prop) : Fun := fun xs h k => arg xs fun a0 xs => arg xs fun a1 xs => noArg xs <| asI .i64 a1 fun a1 => c a0 a1 h fun r0 r1 r2 h => k (.tuple [(.int .i64 r0), (.int .i64 r1), (.int .i64 r2)]) h
theorem s77_eq (J : Joins) (c86 : AV → H → (Int → Int → Int → H → Prop) → Prop) (a0 : AV) (a1 : Int) (h : H) (k : AV → H → Prop) : denF ty (gam J [(86, w86 c86)]) Try.f77 [a0, (.int .i64 a1)] h k = s77G J c86 a0 a1 h (fun r0 r1 r2 h => k (.tuple [(.int .i64 r0), (.int .i64 r1), (.int .i64 r2)]) h) := by kernel_rfl
noncomputable def g77 : Fun := w77 s77
theorem g77_ok : FunOk Try.prog 77 g77 := (fun_ok ty_ok mixed (gam_ok (J := J0) (tab_cons g86_ok (tab_nil fls_fun))) Try.func77 (fun args w => by simp)).imp fun xs h k e0 => by
  obtain ⟨a0, xs0, rfl, e1⟩ := arg_imp e0
  obtain ⟨a1, xs1, rfl, e2⟩ := arg_imp e1
  obtain ⟨rfl, e3⟩ := noArg_imp e2
  obtain ⟨a1, rfl, e4⟩ := asI_iff.1 e3
  exact (s77_eq J0 s86 a0 a1 h k).mpr e4
/-- (*stagepost/stagepostref23.reader).number -/
noncomputable def s60G (J : Joins) (c77 : AV → Int → H → (Int → Int → Int → H → Prop) → Prop) (a0 : AV) (a1 : Int) (h : H) (k : Int → H → Prop) : Prop :=
okNil a0 (
faK 0 a0 fun p1 =>
ldS p1 h fun s2 =>
pushK (.bytes 5 0 true s2) h fun n3 h4 =>
c77 (AV.slice n3 0 s2.len s2.len 1 false) a1 h4 fun x6 x7 x8 h5 =>
okNil a0 (
faK 1 a0 fun p9 =>
ldB p9 h5 fun b10 =>
J.jn (fun v11 h12 =>
J.jn (fun v14 h15 =>
pickB (AV.bool b10) (AV.bool true) v14 fun b19 =>
br b19 (
okNil a0 (
faK 1 a0 fun p20 =>
stV p20 (AV.bool true) h15 fun h21 =>
k (Int.ofNat 0) h21)) (
okNil a0 (
faK 0 a0 fun p22 =>
ldS p22 h15 fun s23 =>
subK (AV.str s23) (some (AV.int .i64 x7)) none fun s24 =>
okNil a0 (
faK 0 a0 fun p25 =>
stV p25 (AV.str s24) h15 fun h26 =>
k x6 h26)))) fun j16 =>
br b10 (
j16 skipV h12) (
asI .i64 v11 fun x17 =>
fB (Bool.not (eqI x17 (Int.ofNat 0))) fun b18 =>
j16 (AV.bool b18) h12)) fun j13 =>
br b10 (
j13 skipV h5) (
j13 (AV.int .i64 x8) h5)))
noncomputable def s60 : AV → Int → H → (Int → H → Prop) → Prop := s60G J0 s77
noncomputable def w60 (c : AV → Int → H → (Int → H → Prop) → Prop) : Fun := fun xs h k => arg xs fun a0 xs => arg xs fun a1 xs => noArg xs <| asI .i64 a1 fun a1 => c a0 a1 h fun r0 h => k (.int .i64 r0) h
theorem s60_eq (J : Joins) (c77 : AV → Int → H → (Int → Int → Int → H → Prop) → Prop) (a0 : AV) (a1 : Int) (h : H) (k : AV → H → Prop) : denF ty (gam J [(77, w77 c77)]) Try.f60 [a0, (.int .i64 a1)] h k = s60G J c77 a0 a1 h (fun r0 h => k (.int .i64 r0) h) := by kernel_rfl
noncomputable def g60 : Fun := w60 s60
theorem g60_ok : FunOk Try.prog 60 g60 := (fun_ok ty_ok mixed (gam_ok (J := J0) (tab_cons g77_ok (tab_nil fls_fun))) Try.func60 (fun args w => by simp)).imp fun xs h k e0 => by
  obtain ⟨a0, xs0, rfl, e1⟩ := arg_imp e0
  obtain ⟨a1, xs1, rfl, e2⟩ := arg_imp e1
  obtain ⟨rfl, e3⟩ := noArg_imp e2
  obtain ⟨a1, rfl, e4⟩ := asI_iff.1 e3
  exact (s60_eq J0 s77 a0 a1 h k).mpr e4
/-- (*stagepost/stagepostref23.reader).text -/
noncomputable def s62G (J : Joins) (a0 : AV) (a1 : Int) (h : H) (k : Str → H → Prop) : Prop :=
okNil a0 (
faK 1 a0 fun p1 =>
ldB p1 h fun b2 =>
J.jn (fun v3 h4 =>
J.jn (fun v6 h7 =>
J.jn (fun v9 h10 =>
J.jn (fun v12 h13 =>
J.jn (fun v16 h17 =>
J.jn (fun v20 h21 =>
J.jn (fun v24 h25 =>
pickB (AV.bool b2) (AV.bool true) v24 fun b30 =>
br b30 (
okNil a0 (
faK 1 a0 fun p31 =>
stV p31 (AV.bool true) h25 fun h32 =>
k ⟨0, 0⟩ h32)) (
okNil a0 (
faK 0 a0 fun p33 =>
ldS p33 h25 fun s34 =>
subK (AV.str s34) none (some (AV.int .i64 a1)) fun s35 =>
okNil a0 (
faK 0 a0 fun p36 =>
ldS p36 h25 fun s37 =>
subK (AV.str s37) (some (AV.int .i64 a1)) none fun s38 =>
okNil a0 (
faK 0 a0 fun p39 =>
stV p39 (AV.str s38) h25 fun h40 =>
k s35 h40))))) fun j26 =>
br b2 (
j26 skipV h21) (
asI .i64 v3 fun x27 =>
asI .i64 v20 fun x28 =>
fB (ltI x28 x27) fun b29 =>
j26 (AV.bool b29) h21)) fun j22 =>
br b2 (
j22 skipV h17) (
asS v16 fun s23 =>
j22 (AV.int .i64 (Int.ofNat s23.len)) h17)) fun j18 =>
br b2 (
j18 skipV h13) (
ldS v12 h13 fun s19 =>
j18 (AV.str s19) h13)) fun j14 =>
br b2 (
j14 skipV h10) (
faK 0 v9 fun p15 =>
j14 p15 h10)) fun j11 =>
br b2 (
j11 skipV h7) (
okNil v6 (
j11 v6 h7))) fun j8 =>
br b2 (
j8 skipV h4) (
j8 a0 h4)) fun j5 =>
br b2 (
j5 skipV h) (
j5 (AV.int .i64 a1) h))
noncomputable def s62 : AV → Int → H → (Str → H → Prop) → Prop := s62G J0 
noncomputable def w62 (c : AV → Int → H → (Str → H → Prop) → Prop) : Fun := fun xs h k => arg xs fun a0 xs => arg xs fun a1 xs => noArg xs <| asI .i64 a1 fun a1 => c a0 a1 h fun r0 h => k (.str r0) h
theorem s62_eq (J : Joins) (a0 : AV) (a1 : Int) (h : H) (k : AV → H → Prop) : denF ty (gam J []) Try.f62 [a0, (.int .i64 a1)] h k = s62G J  a0 a1 h (fun r0 h => k (.str r0) h) := by kernel_rfl
noncomputable def g62 : Fun := w62 s62
theorem g62_ok : FunOk Try.prog 62 g62 := (fun_ok ty_ok mixed (gam_ok (J := J0) (tab_nil fls_fun)) Try.func62 (fun args w => by simp)).imp fun xs h k e0 => by
  obtain ⟨a0, xs0, rfl, e1⟩ := arg_imp e0
  obtain ⟨a1, xs1, rfl, e2⟩ := arg_imp e1
  obtain ⟨rfl, e3⟩ := noArg_imp e2
  obtain ⟨a1, rfl, e4⟩ := asI_iff.1 e3
  exact (s62_eq J0  a0 a1 h k).mpr e4
/-- (*stagepost/stagepostref23.reader).stamp -/
noncomputable def s61G (J : Joins) (c56 : Str → H → (AV → Int → H → Prop) → Prop) (c62 : AV → Int → H → (Str → H → Prop) → Prop) (a0 : AV) (h : H) (k : AV → H → Prop) : Prop :=
pushK (.cells false 28 [(.int .i64 0), (.int .i32 0), (.int .i32 0)]) h fun n1 h2 =>
c62 a0 (Int.ofNat 16) h2 fun s4 h3 =>
c56 s4 h3 fun v6 x7 h5 =>
pushK (.cells false 28 [(.int .i64 0), (.int .i32 0), (.int .i32 0)]) h5 fun n8 h9 =>
Go.Am.asAgg v6 fun l11 =>
stN 3 (AV.ptr n8 0) l11 h9 fun h10 =>
J.jd (α := AV × AV × Unit) (fun v12 d13 h14 =>
ldN 3 v12.2.1 h14 fun l16 =>
stN 3 v12.1 l16 h14 fun h17 =>
leaveK (gam J [(56, w56 c56), (62, w62 c62)]) d13 h17 fun h18 =>
ldN 3 v12.1 h18 fun l19 =>
k (AV.agg l19) h18) fun j15 =>
fB (Bool.not (eqI x7 (Int.ofNat 0))) fun b20 =>
br b20 (
okNil a0 (
faK 1 a0 fun p21 =>
stV p21 (AV.bool true) h10 fun h22 =>
j15 ((AV.ptr n1 0), (AV.ptr n8 0), ()) [] h22)) (
j15 ((AV.ptr n1 0), (AV.ptr n8 0), ()) [] h10)
noncomputable def s61 : AV → H → (AV → H → Prop) → Prop := s61G J0 s56 s62
noncomputable def w61 (c : AV → H → (AV → H → Prop) → Prop) : Fun := fun xs h k => arg xs fun a0 xs => noArg xs <| c a0 h fun r0 h => k r0 h
theorem s61_eq (J : Joins) (c56 : Str → H → (AV → Int → H → Prop) → Prop) (c62 : AV → Int → H → (Str → H → Prop) → Prop) (a0 : AV) (h : H) (k : AV → H → Prop) : denF ty (gam J [(56, w56 c56), (62, w62 c62)]) Try.f61 [a0] h k = s61G J c56 c62 a0 h (fun r0 h => k r0 h) := by kernel_rfl
noncomputable def g61 : Fun := w61 s61
theorem g61_ok : FunOk Try.prog 61 g61 := (fun_ok ty_ok mixed (gam_ok (J := J0) (tab_cons g56_ok (tab_cons g62_ok (tab_nil fls_fun)))) Try.func61 (fun args w => by simp)).imp fun xs h k e0 => by
  obtain ⟨a0, xs0, rfl, e1⟩ := arg_imp e0
  obtain ⟨rfl, e2⟩ := noArg_imp e1
  exact (s61_eq J0 s56 s62 a0 h k).mpr e2
/-- stagepost/stagepostref23.Intent -/
noncomputable def s24G (J : Joins) (c14 : AV → H → (AV → Int → H → Prop) → Prop) (c55 : Str → H → (Str → Int → Bool → H → Prop) → Prop) (c60 : AV → Int → H → (Int → H → Prop) → Prop) (c61 : AV → H → (AV → H → Prop) → Prop) (c62 : AV → Int → H → (Str → H → Prop) → Prop) (a0 : AV) (h : H) (k : AV → Int → H → Prop) : Prop :=
Go.Am.asAgg a0 fun l3 =>
pushK (.cells false 36 l3) h fun n1 h2 =>
pushK (.cells false 41 [(.str ⟨0, 0⟩), (.int .i32 0), (.int .i32 0), (.int .i64 0), (.int .i32 0), (.int .i32 0), (.str ⟨0, 0⟩), (.int .i64 0), (.int .i32 0), (.int .i32 0), (.str ⟨0, 0⟩), (.bool false)]) h2 fun n4 h5 =>
ldS (AV.ptr n1 0) h5 fun s6 =>
fB (ltI (Int.ofNat s6.len) (Int.ofNat 1)) fun b7 =>
br b7 (
stN 12 (AV.ptr n4 0) [(.str ⟨0, 0⟩), (.int .i32 0), (.int .i32 0), (.int .i64 0), (.int .i32 0), (.int .i32 0), (.str ⟨0, 0⟩), (.int .i64 0), (.int .i32 0), (.int .i32 0), (.str ⟨0, 0⟩), (.bool false)] h5 fun h8 =>
ldN 12 (AV.ptr n4 0) h8 fun l9 =>
k (AV.agg l9) (Int.ofNat 5) h8) (
ldS (AV.ptr n1 0) h5 fun s10 =>
subK (AV.str s10) (some (AV.int .i64 (Int.ofNat 1))) none fun s11 =>
c55 s11 h5 fun s13 x14 b15 h12 =>
ldS (AV.ptr n1 1) h12 fun s16 =>
pushK (.cells false 97 [(AV.str s16), (.bool false)]) h12 fun n17 h18 =>
c60 (AV.ptr n17 0) (Int.ofNat 100) h18 fun x20 h19 =>
fI (wrapF .i32 x20) fun x21 =>
c60 (AV.ptr n17 0) (Int.ofNat 1073741824) h19 fun x23 h22 =>
fI (wrapF .i32 x23) fun x24 =>
ck (Nat.beq (List.length [(AV.int .i32 x21), (AV.int .i32 x24)]) 2) (op' (lputAt 1 [(AV.int .i32 x21), (AV.int .i32 x24)] [(AV.str s13), (.int .i32 0), (.int .i32 0), (.int .i64 0), (.int .i32 0), (.int .i32 0), (.str ⟨0, 0⟩), (.int .i64 0), (.int .i32 0), (.int .i32 0), (.str ⟨0, 0⟩), (.bool false)]) fun l25 =>
pushK (.cells false 41 [(.str ⟨0, 0⟩), (.int .i32 0), (.int .i32 0), (.int .i64 0), (.int .i32 0), (.int .i32 0), (.str ⟨0, 0⟩), (.int .i64 0), (.int .i32 0), (.int .i32 0), (.str ⟨0, 0⟩), (.bool false)]) h22 fun n26 h27 =>
stN 12 (AV.ptr n26 0) l25 h27 fun h28 =>
c61 (AV.ptr n17 0) h28 fun v30 h29 =>
Go.Am.asAgg v30 fun l32 =>
stN 3 (AV.ptr n26 3) l32 h29 fun h31 =>
c61 (AV.ptr n17 0) h31 fun v34 h33 =>
Go.Am.asAgg v34 fun l36 =>
stN 3 (AV.ptr n26 7) l36 h33 fun h35 =>
c60 (AV.ptr n17 0) (Int.ofNat 128) h35 fun x38 h37 =>
c62 (AV.ptr n17 0) x38 h37 fun s40 h39 =>
stV (AV.ptr n26 6) (AV.str s40) h39 fun h41 =>
op' (asRow true 5 [(AV.int .u8 (Int.ofNat 1))]) fun k44 =>
pushK k44 h41 fun n42 h43 =>
toStrK (AV.slice n42 0 1 1 1 true) h43 fun s45 =>
c62 (AV.ptr n17 0) (Int.ofNat 1) h43 fun s47 h46 =>
ck (readsSo (aToStr (AV.slice n42 0 1 1 1 true) h46) (AV.str s45)) (
fB (Str.beq s47 s45) fun b48 =>
stV (AV.ptr n26 11) (AV.bool b48) h46 fun h49 =>
ldS (AV.ptr n17 0) h49 fun s50 =>
stV (AV.ptr n26 10) (AV.str s50) h49 fun h51 =>
ldN 12 (AV.ptr n26 0) h51 fun l52 =>
c14 (AV.agg l52) h51 fun v54 x55 h53 =>
pushK (.cells false 23 [(.str ⟨0, 0⟩), (.str ⟨0, 0⟩), (.bool false)]) h53 fun n56 h57 =>
Go.Am.asAgg v54 fun l59 =>
stN 3 (AV.ptr n56 0) l59 h57 fun h58 =>
fB (Bool.not b15) fun b60 =>
J.jn (fun v61 h62 =>
J.jn (fun v64 h65 =>
J.jn (fun v67 h68 =>
J.jn (fun v71 h72 =>
pickB (AV.bool b60) (AV.bool true) v71 fun b75 =>
J.jn (fun v76 h77 =>
J.jn (fun v79 h80 =>
pickB (AV.bool b75) (AV.bool true) v79 fun b84 =>
J.jn (fun v85 h86 =>
J.jn (fun v88 h89 =>
J.jn (fun v92 h93 =>
J.jn (fun v95 h96 =>
J.jn (fun v99 h100 =>
pickB (AV.bool b84) (AV.bool true) v99 fun b105 =>
J.jn (fun v106 h107 =>
J.jn (fun v109 h110 =>
J.jn (fun v113 h114 =>
J.jn (fun v116 h117 =>
J.jn (fun v120 h121 =>
pickB (AV.bool b105) (AV.bool true) v120 fun b126 =>
br b126 (
stN 12 (AV.ptr n4 0) [(.str ⟨0, 0⟩), (.int .i32 0), (.int .i32 0), (.int .i64 0), (.int .i32 0), (.int .i32 0), (.str ⟨0, 0⟩), (.int .i64 0), (.int .i32 0), (.int .i32 0), (.str ⟨0, 0⟩), (.bool false)] h121 fun h127 =>
ldN 12 (AV.ptr n4 0) h127 fun l128 =>
k (AV.agg l128) (Int.ofNat 5) h127) (
ldN 12 (AV.ptr n26 0) h121 fun l129 =>
stN 12 (AV.ptr n4 0) l129 h121 fun h130 =>
ldN 12 (AV.ptr n4 0) h130 fun l131 =>
k (AV.agg l131) (Int.ofNat 0) h130)) fun j122 =>
br b105 (
j122 skipV h117) (
asS v109 fun s123 =>
asS v116 fun s124 =>
fB (Bool.not (Str.beq s123 s124)) fun b125 =>
j122 (AV.bool b125) h117)) fun j118 =>
br b105 (
j118 skipV h114) (
ldS v113 h114 fun s119 =>
j118 (AV.str s119) h114)) fun j115 =>
br b105 (
j115 skipV h110) (
j115 (AV.ptr n1 1) h110)) fun j111 =>
br b105 (
j111 skipV h107) (
ldS v106 h107 fun s112 =>
j111 (AV.str s112) h107)) fun j108 =>
br b105 (
j108 skipV h100) (
j108 (AV.ptr n56 1) h100)) fun j101 =>
br b84 (
j101 skipV h96) (
asS v88 fun s102 =>
asS v95 fun s103 =>
fB (Bool.not (Str.beq s102 s103)) fun b104 =>
j101 (AV.bool b104) h96)) fun j97 =>
br b84 (
j97 skipV h93) (
ldS v92 h93 fun s98 =>
j97 (AV.str s98) h93)) fun j94 =>
br b84 (
j94 skipV h89) (
j94 (AV.ptr n1 0) h89)) fun j90 =>
br b84 (
j90 skipV h86) (
ldS v85 h86 fun s91 =>
j90 (AV.str s91) h86)) fun j87 =>
br b84 (
j87 skipV h80) (
j87 (AV.ptr n56 0) h80)) fun j81 =>
br b75 (
j81 skipV h77) (
asI .i64 v76 fun x82 =>
fB (Bool.not (eqI x82 (Int.ofNat 0))) fun b83 =>
j81 (AV.bool b83) h77)) fun j78 =>
br b75 (
j78 skipV h72) (
j78 (AV.int .i64 x55) h72)) fun j73 =>
br b60 (
j73 skipV h68) (
ldB v67 h68 fun b74 =>
j73 (AV.bool b74) h68)) fun j69 =>
br b60 (
j69 skipV h65) (
faK 1 v64 fun p70 =>
j69 p70 h65)) fun j66 =>
br b60 (
j66 skipV h62) (
okNil v61 (
j66 v61 h62))) fun j63 =>
br b60 (
j63 skipV h58) (
j63 (AV.ptr n17 0) h58))))
noncomputable def s24 : AV → H → (AV → Int → H → Prop) → Prop := s24G J0 s14 s55 s60 s61 s62
noncomputable def w24 (c : AV → H → (AV → Int → H → Prop) → Prop) : Fun := fun xs h k => arg xs fun a0 xs => noArg xs <| c a0 h fun r0 r1 h => k (.tuple [r0, (.int .i64 r1)]) h
theorem s24_eq (J : Joins) (c14 : AV → H → (AV → Int → H → Prop) → Prop) (c55 : Str → H → (Str → Int → Bool → H → Prop) → Prop) (c60 : AV → Int → H → (Int → H → Prop) → Prop) (c61 : AV → H → (AV → H → Prop) → Prop) (c62 : AV → Int → H → (Str → H → Prop) → Prop) (a0 : AV) (h : H) (k : AV → H → Prop) : denF ty (gam J [(14, w14 c14), (55, w55 c55), (60, w60 c60), (61, w61 c61), (62, w62 c62)]) Try.f24 [a0] h k = s24G J c14 c55 c60 c61 c62 a0 h (fun r0 r1 h => k (.tuple [r0, (.int .i64 r1)]) h) := by kernel_rfl
noncomputable def g24 : Fun := w24 s24
theorem g24_ok : FunOk Try.prog 24 g24 := (fun_ok ty_ok mixed (gam_ok (J := J0) (tab_cons g14_ok (tab_cons g55_ok (tab_cons g60_ok (tab_cons g61_ok (tab_cons g62_ok (tab_nil fls_fun))))))) Try.func24 (fun args w => by simp)).imp fun xs h k e0 => by
  obtain ⟨a0, xs0, rfl, e1⟩ := arg_imp e0
  obtain ⟨rfl, e2⟩ := noArg_imp e1
  exact (s24_eq J0 s14 s55 s60 s61 s62 a0 h k).mpr e2
/-- stagepost/mvcc.fours -/
noncomputable def g63 : Fun := denF ty (gam J0 []) Try.f63
theorem g63_ok : FunOk Try.prog 63 g63 := fun_ok ty_ok mixed (gam_ok (J := J0) (tab_nil fls_fun)) Try.func63 (fun args w => by simp)
/-- stagepost/mvcc.Record -/
noncomputable def s25G (J : Joins) (c18 : AV → H → (AV → Int → H → Prop) → Prop) (c33 : AV → H → (AV → H → Prop) → Prop) (c50 : Int → H → (Bool → H → Prop) → Prop) (c58 : AV → Int → H → (Str → H → Prop) → Prop) (c59 : AV → Int → H → (Int → H → Prop) → Prop) (c63 : Fun) (a0 : AV) (h : H) (k : AV → Int → H → Prop) : Prop :=
Go.Am.asAgg a0 fun l3 =>
pushK (.cells false 36 l3) h fun n1 h2 =>
pushK (.cells false 45 [(.int .i32 0), (.int .i32 0), (.int .u8 0), (.int .i64 0), (.int .i32 0), (.int .i32 0), (.nils), (.int .i64 0), (.int .i64 0), (.int .i32 0), (.int .i32 0)]) h2 fun n4 h5 =>
ldS (AV.ptr n1 0) h5 fun s6 =>
fB (Bool.not (eqI (Int.ofNat s6.len) (Int.ofNat 9))) fun b7 =>
br b7 (
stN 11 (AV.ptr n4 0) [(.int .i32 0), (.int .i32 0), (.int .u8 0), (.int .i64 0), (.int .i32 0), (.int .i32 0), (.nils), (.int .i64 0), (.int .i64 0), (.int .i32 0), (.int .i32 0)] h5 fun h8 =>
ldN 11 (AV.ptr n4 0) h8 fun l9 =>
k (AV.agg l9) (Int.ofNat 5) h8) (
ldS (AV.ptr n1 1) h5 fun s10 =>
pushK (.cells false 63 [(AV.str s10), (.bool false)]) h5 fun n11 h12 =>
ldS (AV.ptr n1 0) h12 fun s13 =>
subK (AV.str s13) (some (AV.int .i64 (Int.ofNat 1))) (some (AV.int .i64 (Int.ofNat 5))) fun s14 =>
ldS (AV.ptr n1 0) h12 fun s15 =>
subK (AV.str s15) (some (AV.int .i64 (Int.ofNat 5))) none fun s16 =>
pushK (.cells false 45 [(.int .i32 0), (.int .i32 0), (.int .u8 0), (.int .i64 0), (.int .i32 0), (.int .i32 0), (.nils), (.int .i64 0), (.int .i64 0), (.int .i32 0), (.int .i32 0)]) h12 fun n17 h18 =>
c63 [(AV.str s14)] h18 fun v19 h20 =>
asI .i32 v19 fun x21 =>
ck (readsSo (aLoad1 (AV.ptr n1 0) h20) (AV.str s15)) (
c63 [(AV.str s16)] h20 fun v22 h23 =>
asI .i32 v22 fun x24 =>
ck (Nat.beq (List.length [(AV.int .i32 x21), (AV.int .i32 x24)]) 2) (op' (lputAt 0 [(AV.int .i32 x21), (AV.int .i32 x24)] [(.int .i32 0), (.int .i32 0), (.int .u8 0), (.int .i64 0), (.int .i32 0), (.int .i32 0), (.nils), (.int .i64 0), (.int .i64 0), (.int .i32 0), (.int .i32 0)]) fun l25 =>
stN 11 (AV.ptr n17 0) l25 h23 fun h26 =>
c59 (AV.ptr n11 0) (Int.ofNat 4) h26 fun x28 h27 =>
fI (wrapF .u8 x28) fun x29 =>
stV (AV.ptr n17 2) (AV.int .u8 x29) h27 fun h30 =>
c59 (AV.ptr n11 0) (Int.ofNat 1099511627776) h30 fun x32 h31 =>
stV (AV.ptr n17 7) (AV.int .i64 x32) h31 fun h33 =>
c33 (AV.ptr n11 0) h33 fun v35 h34 =>
Go.Am.asAgg v35 fun l37 =>
stN 3 (AV.ptr n17 8) l37 h34 fun h36 =>
J.jd (α := AV × AV × AV × AV × Unit) (fun v38 d39 h40 =>
ldN 11 v38.2.2.2.1 h40 fun l42 =>
c18 (AV.agg l42) h40 fun v44 x45 h43 =>
pushK (.cells false 23 [(.str ⟨0, 0⟩), (.str ⟨0, 0⟩), (.bool false)]) h43 fun n46 h47 =>
Go.Am.asAgg v44 fun l49 =>
stN 3 (AV.ptr n46 0) l49 h47 fun h48 =>
fB (Bool.not (eqI x45 (Int.ofNat 0))) fun b50 =>
J.jn (fun v51 h52 =>
J.jn (fun v54 h55 =>
J.jn (fun v57 h58 =>
J.jn (fun v61 h62 =>
pickB (AV.bool b50) (AV.bool true) v61 fun b65 =>
J.jn (fun v66 h67 =>
J.jn (fun v69 h70 =>
J.jn (fun v73 h74 =>
J.jn (fun v77 h78 =>
J.jn (fun v81 h82 =>
pickB (AV.bool b65) (AV.bool true) v81 fun b87 =>
J.jn (fun v88 h89 =>
J.jn (fun v91 h92 =>
J.jn (fun v95 h96 =>
J.jn (fun v99 h100 =>
J.jn (fun v103 h104 =>
pickB (AV.bool b87) (AV.bool true) v103 fun b109 =>
br b109 (
stN 11 v38.2.1 [(.int .i32 0), (.int .i32 0), (.int .u8 0), (.int .i64 0), (.int .i32 0), (.int .i32 0), (.nils), (.int .i64 0), (.int .i64 0), (.int .i32 0), (.int .i32 0)] h104 fun h110 =>
leaveK (gam J [(18, w18 c18), (33, w33 c33), (50, w50 c50), (58, w58 c58), (59, w59 c59), (63, c63)]) d39 h110 fun h111 =>
ldN 11 v38.2.1 h111 fun l112 =>
k (AV.agg l112) (Int.ofNat 5) h111) (
ldN 11 v38.2.2.2.1 h104 fun l113 =>
stN 11 v38.2.1 l113 h104 fun h114 =>
leaveK (gam J [(18, w18 c18), (33, w33 c33), (50, w50 c50), (58, w58 c58), (59, w59 c59), (63, c63)]) d39 h114 fun h115 =>
ldN 11 v38.2.1 h115 fun l116 =>
k (AV.agg l116) (Int.ofNat 0) h115)) fun j105 =>
br b87 (
j105 skipV h100) (
asS v91 fun s106 =>
asS v99 fun s107 =>
fB (Bool.not (Str.beq s106 s107)) fun b108 =>
j105 (AV.bool b108) h100)) fun j101 =>
br b87 (
j101 skipV h96) (
ldS v95 h96 fun s102 =>
j101 (AV.str s102) h96)) fun j97 =>
br b87 (
j97 skipV h92) (
faK 1 v38.1 fun p98 =>
j97 p98 h92)) fun j93 =>
br b87 (
j93 skipV h89) (
ldS v88 h89 fun s94 =>
j93 (AV.str s94) h89)) fun j90 =>
br b87 (
j90 skipV h82) (
j90 (AV.ptr n46 1) h82)) fun j83 =>
br b65 (
j83 skipV h78) (
asS v69 fun s84 =>
asS v77 fun s85 =>
fB (Bool.not (Str.beq s84 s85)) fun b86 =>
j83 (AV.bool b86) h78)) fun j79 =>
br b65 (
j79 skipV h74) (
ldS v73 h74 fun s80 =>
j79 (AV.str s80) h74)) fun j75 =>
br b65 (
j75 skipV h70) (
faK 0 v38.1 fun p76 =>
j75 p76 h70)) fun j71 =>
br b65 (
j71 skipV h67) (
ldS v66 h67 fun s72 =>
j71 (AV.str s72) h67)) fun j68 =>
br b65 (
j68 skipV h62) (
j68 (AV.ptr n46 0) h62)) fun j63 =>
br b50 (
j63 skipV h58) (
ldB v57 h58 fun b64 =>
j63 (AV.bool b64) h58)) fun j59 =>
br b50 (
j59 skipV h55) (
faK 1 v54 fun p60 =>
j59 p60 h55)) fun j56 =>
br b50 (
j56 skipV h52) (
okNil v51 (
j56 v51 h52))) fun j53 =>
br b50 (
j53 skipV h48) (
j53 v38.2.2.1 h48)) fun j41 =>
ldI .u8 (AV.ptr n17 2) h36 fun x117 =>
c50 x117 h36 fun b119 h118 =>
br b119 (
c33 (AV.ptr n11 0) h118 fun v121 h120 =>
Go.Am.asAgg v121 fun l123 =>
stN 3 (AV.ptr n17 3) l123 h120 fun h122 =>
c59 (AV.ptr n11 0) (Int.ofNat 24) h122 fun x125 h124 =>
J.lp (α := AV × AV × AV × AV × AV × Unit) (fun r129 v126 d127 h128 =>
asI .i64 v126.2.2.2.2.1 fun x130 =>
fB (ltI (Int.ofNat 0) x130) fun b131 =>
J.jn (fun v132 h133 =>
J.jn (fun v135 h136 =>
J.jn (fun v138 h139 =>
J.jn (fun v142 h143 =>
J.jn (fun v146 h147 =>
pickB (AV.bool b131) v146 (AV.bool false) fun b151 =>
br b151 (
faK 6 v126.2.2.2.1 fun p152 =>
ldV p152 h147 fun v153 =>
c59 v126.2.2.1 (Int.ofNat 128) h147 fun x155 h154 =>
ck (readsSo (aLoad1 p152 h154) v153) (
c58 v126.2.2.1 x155 h154 fun s157 h156 =>
ck (readsSo (aLoad1 p152 h156) v153) (
pushK (.cells false 9 [(AV.str s157)]) h156 fun n158 h159 =>
apC 9 1 16 v153 (AV.slice n158 0 1 1 1 true) h159 fun v160 h161 =>
faK 6 v126.2.2.2.1 fun p162 =>
stV p162 v160 h161 fun h163 =>
asI .i64 v126.2.2.2.2.1 fun x164 =>
fI (wrapF .i64 (Int.sub x164 (Int.ofNat 1))) fun x165 =>
r129 (v126.1, v126.2.1, v126.2.2.1, v126.2.2.2.1, (AV.int .i64 x165), ()) d127 h163))) (
j41 (v126.1, v126.2.1, v126.2.2.1, v126.2.2.2.1, ()) d127 h147)) fun j148 =>
br b131 (
asB v142 fun b149 =>
fB (Bool.not b149) fun b150 =>
j148 (AV.bool b150) h143) (
j148 skipV h143)) fun j144 =>
br b131 (
ldB v138 h139 fun b145 =>
j144 (AV.bool b145) h139) (
j144 skipV h139)) fun j140 =>
br b131 (
faK 1 v135 fun p141 =>
j140 p141 h136) (
j140 skipV h136)) fun j137 =>
br b131 (
okNil v132 (
j137 v132 h133)) (
j137 skipV h133)) fun j134 =>
br b131 (
j134 v126.2.2.1 h128) (
j134 skipV h128)) ((AV.ptr n1 0), (AV.ptr n4 0), (AV.ptr n11 0), (AV.ptr n17 0), (AV.int .i64 x125), ()) [] h124) (
j41 ((AV.ptr n1 0), (AV.ptr n4 0), (AV.ptr n11 0), (AV.ptr n17 0), ()) [] h118))))
noncomputable def s25 : AV → H → (AV → Int → H → Prop) → Prop := s25G J0 s18 s33 s50 s58 s59 g63
noncomputable def w25 (c : AV → H → (AV → Int → H → Prop) → Prop) : Fun := fun xs h k => arg xs fun a0 xs => noArg xs <| c a0 h fun r0 r1 h => k (.tuple [r0, (.int .i64 r1)]) h
theorem s25_eq (J : Joins) (c18 : AV → H → (AV → Int → H → Prop) → Prop) (c33 : AV → H → (AV → H → Prop) → Prop) (c50 : Int → H → (Bool → H → Prop) → Prop) (c58 : AV → Int → H → (Str → H → Prop) → Prop) (c59 : AV → Int → H → (Int → H → Prop) → Prop) (c63 : Fun) (a0 : AV) (h : H) (k : AV → H → Prop) : denF ty (gam J [(18, w18 c18), (33, w33 c33), (50, w50 c50), (58, w58 c58), (59, w59 c59), (63, c63)]) Try.f25 [a0] h k = s25G J c18 c33 c50 c58 c59 c63 a0 h (fun r0 r1 h => k (.tuple [r0, (.int .i64 r1)]) h) := by kernel_rfl
noncomputable def g25 : Fun := w25 s25
theorem g25_ok : FunOk Try.prog 25 g25 := (fun_ok ty_ok mixed (gam_ok (J := J0) (tab_cons g18_ok (tab_cons g33_ok (tab_cons g50_ok (tab_cons g58_ok (tab_cons g59_ok (tab_cons g63_ok (tab_nil fls_fun)))))))) Try.func25 (fun args w => by simp)).imp fun xs h k e0 => by
  obtain ⟨a0, xs0, rfl, e1⟩ := arg_imp e0
  obtain ⟨rfl, e2⟩ := noArg_imp e1
  exact (s25_eq J0 s18 s33 s50 s58 s59 g63 a0 h k).mpr e2
/-- stagepost/stagepostref23.back -/
noncomputable def g64 : Fun := denF ty (gam J0 []) Try.f64
theorem g64_ok : FunOk Try.prog 64 g64 := fun_ok ty_ok mixed (gam_ok (J := J0) (tab_nil fls_fun)) Try.func64 (fun args w => by simp)
/-- stagepost/stagepostref23.Record -/
noncomputable def s26G (J : Joins) (c19 : AV → H → (AV → Int → H → Prop) → Prop) (c60 : AV → Int → H → (Int → H → Prop) → Prop) (c61 : AV → H → (AV → H → Prop) → Prop) (c62 : AV → Int → H → (Str → H → Prop) → Prop) (c64 : Fun) (a0 : AV) (h : H) (k : AV → Int → H → Prop) : Prop :=
Go.Am.asAgg a0 fun l3 =>
pushK (.cells false 36 l3) h fun n1 h2 =>
pushK (.cells false 45 [(.int .i32 0), (.int .i32 0), (.int .u8 0), (.int .i64 0), (.int .i32 0), (.int .i32 0), (.nils), (.int .i64 0), (.int .i64 0), (.int .i32 0), (.int .i32 0)]) h2 fun n4 h5 =>
ldS (AV.ptr n1 0) h5 fun s6 =>
fB (Bool.not (eqI (Int.ofNat s6.len) (Int.ofNat 9))) fun b7 =>
br b7 (
stN 11 (AV.ptr n4 0) [(.int .i32 0), (.int .i32 0), (.int .u8 0), (.int .i64 0), (.int .i32 0), (.int .i32 0), (.nils), (.int .i64 0), (.int .i64 0), (.int .i32 0), (.int .i32 0)] h5 fun h8 =>
ldN 11 (AV.ptr n4 0) h8 fun l9 =>
k (AV.agg l9) (Int.ofNat 5) h8) (
ldS (AV.ptr n1 1) h5 fun s10 =>
pushK (.cells false 97 [(AV.str s10), (.bool false)]) h5 fun n11 h12 =>
ldS (AV.ptr n1 0) h12 fun s13 =>
subK (AV.str s13) (some (AV.int .i64 (Int.ofNat 1))) (some (AV.int .i64 (Int.ofNat 5))) fun s14 =>
ldS (AV.ptr n1 0) h12 fun s15 =>
subK (AV.str s15) (some (AV.int .i64 (Int.ofNat 5))) none fun s16 =>
pushK (.cells false 45 [(.int .i32 0), (.int .i32 0), (.int .u8 0), (.int .i64 0), (.int .i32 0), (.int .i32 0), (.nils), (.int .i64 0), (.int .i64 0), (.int .i32 0), (.int .i32 0)]) h12 fun n17 h18 =>
c64 [(AV.str s14)] h18 fun v19 h20 =>
asI .i32 v19 fun x21 =>
ck (readsSo (aLoad1 (AV.ptr n1 0) h20) (AV.str s15)) (
c64 [(AV.str s16)] h20 fun v22 h23 =>
asI .i32 v22 fun x24 =>
c60 (AV.ptr n11 0) (Int.ofNat 4) h23 fun x26 h25 =>
fI (wrapF .u8 x26) fun x27 =>
c60 (AV.ptr n11 0) (Int.ofNat 1099511627776) h25 fun x29 h28 =>
ck (Nat.beq (List.length [(AV.int .i32 x21), (AV.int .i32 x24)]) 2) (op' (lputAt 0 [(AV.int .i32 x21), (AV.int .i32 x24)] [(.int .i32 0), (.int .i32 0), (.int .u8 0), (.int .i64 0), (.int .i32 0), (.int .i32 0), (.nils), (.int .i64 0), (.int .i64 0), (.int .i32 0), (.int .i32 0)]) fun l30 =>
op' (lputAt 2 [(AV.int .u8 x27)] l30) fun l31 =>
op' (lputAt 7 [(AV.int .i64 x29)] l31) fun l32 =>
stN 11 (AV.ptr n17 0) l32 h28 fun h33 =>
c61 (AV.ptr n11 0) h33 fun v35 h34 =>
Go.Am.asAgg v35 fun l37 =>
stN 3 (AV.ptr n17 8) l37 h34 fun h36 =>
J.jd (α := AV × AV × AV × AV × Unit) (fun v38 d39 h40 =>
ldN 11 v38.2.2.2.1 h40 fun l42 =>
c19 (AV.agg l42) h40 fun v44 x45 h43 =>
pushK (.cells false 23 [(.str ⟨0, 0⟩), (.str ⟨0, 0⟩), (.bool false)]) h43 fun n46 h47 =>
Go.Am.asAgg v44 fun l49 =>
stN 3 (AV.ptr n46 0) l49 h47 fun h48 =>
okNil v38.2.2.1 (
faK 1 v38.2.2.1 fun p50 =>
ldB p50 h48 fun b51 =>
J.jn (fun v52 h53 =>
J.jn (fun v55 h56 =>
J.jn (fun v58 h59 =>
J.jn (fun v62 h63 =>
J.jn (fun v66 h67 =>
pickB (AV.bool b51) (AV.bool true) v66 fun b71 =>
J.jn (fun v72 h73 =>
J.jn (fun v75 h76 =>
pickB (AV.bool b71) (AV.bool true) v75 fun b80 =>
J.jn (fun v81 h82 =>
J.jn (fun v84 h85 =>
J.jn (fun v88 h89 =>
J.jn (fun v92 h93 =>
J.jn (fun v96 h97 =>
pickB (AV.bool b80) (AV.bool true) v96 fun b102 =>
J.jn (fun v103 h104 =>
J.jn (fun v106 h107 =>
J.jn (fun v110 h111 =>
J.jn (fun v114 h115 =>
J.jn (fun v118 h119 =>
pickB (AV.bool b102) (AV.bool true) v118 fun b124 =>
br b124 (
stN 11 v38.2.1 [(.int .i32 0), (.int .i32 0), (.int .u8 0), (.int .i64 0), (.int .i32 0), (.int .i32 0), (.nils), (.int .i64 0), (.int .i64 0), (.int .i32 0), (.int .i32 0)] h119 fun h125 =>
leaveK (gam J [(19, w19 c19), (60, w60 c60), (61, w61 c61), (62, w62 c62), (64, c64)]) d39 h125 fun h126 =>
ldN 11 v38.2.1 h126 fun l127 =>
k (AV.agg l127) (Int.ofNat 5) h126) (
ldN 11 v38.2.2.2.1 h119 fun l128 =>
stN 11 v38.2.1 l128 h119 fun h129 =>
leaveK (gam J [(19, w19 c19), (60, w60 c60), (61, w61 c61), (62, w62 c62), (64, c64)]) d39 h129 fun h130 =>
ldN 11 v38.2.1 h130 fun l131 =>
k (AV.agg l131) (Int.ofNat 0) h130)) fun j120 =>
br b102 (
j120 skipV h115) (
asS v106 fun s121 =>
asS v114 fun s122 =>
fB (Bool.not (Str.beq s121 s122)) fun b123 =>
j120 (AV.bool b123) h115)) fun j116 =>
br b102 (
j116 skipV h111) (
ldS v110 h111 fun s117 =>
j116 (AV.str s117) h111)) fun j112 =>
br b102 (
j112 skipV h107) (
faK 1 v38.1 fun p113 =>
j112 p113 h107)) fun j108 =>
br b102 (
j108 skipV h104) (
ldS v103 h104 fun s109 =>
j108 (AV.str s109) h104)) fun j105 =>
br b102 (
j105 skipV h97) (
j105 (AV.ptr n46 1) h97)) fun j98 =>
br b80 (
j98 skipV h93) (
asS v84 fun s99 =>
asS v92 fun s100 =>
fB (Bool.not (Str.beq s99 s100)) fun b101 =>
j98 (AV.bool b101) h93)) fun j94 =>
br b80 (
j94 skipV h89) (
ldS v88 h89 fun s95 =>
j94 (AV.str s95) h89)) fun j90 =>
br b80 (
j90 skipV h85) (
faK 0 v38.1 fun p91 =>
j90 p91 h85)) fun j86 =>
br b80 (
j86 skipV h82) (
ldS v81 h82 fun s87 =>
j86 (AV.str s87) h82)) fun j83 =>
br b80 (
j83 skipV h76) (
j83 (AV.ptr n46 0) h76)) fun j77 =>
br b71 (
j77 skipV h73) (
asI .i64 v72 fun x78 =>
fB (Bool.not (eqI x78 (Int.ofNat 0))) fun b79 =>
j77 (AV.bool b79) h73)) fun j74 =>
br b71 (
j74 skipV h67) (
j74 (AV.int .i64 x45) h67)) fun j68 =>
br b51 (
j68 skipV h63) (
asS v62 fun s69 =>
fB (Bool.not (Str.beq s69 (⟨0, 0⟩ : Str))) fun b70 =>
j68 (AV.bool b70) h63)) fun j64 =>
br b51 (
j64 skipV h59) (
ldS v58 h59 fun s65 =>
j64 (AV.str s65) h59)) fun j60 =>
br b51 (
j60 skipV h56) (
faK 0 v55 fun p61 =>
j60 p61 h56)) fun j57 =>
br b51 (
j57 skipV h53) (
okNil v52 (
j57 v52 h53))) fun j54 =>
br b51 (
j54 skipV h48) (
j54 v38.2.2.1 h48))) fun j41 =>
ldI .u8 (AV.ptr n17 2) h36 fun x132 =>
fB (eqI x132 (Int.ofNat 2)) fun b133 =>
J.jn (fun v134 h135 =>
J.jn (fun v137 h138 =>
J.jn (fun v141 h142 =>
pickB (AV.bool b133) (AV.bool true) v141 fun b146 =>
br b146 (
c61 (AV.ptr n11 0) h142 fun v148 h147 =>
Go.Am.asAgg v148 fun l150 =>
stN 3 (AV.ptr n17 3) l150 h147 fun h149 =>
c60 (AV.ptr n11 0) (Int.ofNat 24) h149 fun x152 h151 =>
J.lp (α := AV × AV × AV × AV × AV × Unit) (fun r156 v153 d154 h155 =>
asI .i64 v153.2.2.2.2.1 fun x157 =>
fB (ltI (Int.ofNat 0) x157) fun b158 =>
J.jn (fun v159 h160 =>
J.jn (fun v162 h163 =>
J.jn (fun v165 h166 =>
J.jn (fun v169 h170 =>
J.jn (fun v173 h174 =>
pickB (AV.bool b158) v173 (AV.bool false) fun b178 =>
br b178 (
faK 6 v153.2.2.2.1 fun p179 =>
ldV p179 h174 fun v180 =>
c60 v153.2.2.1 (Int.ofNat 128) h174 fun x182 h181 =>
ck (readsSo (aLoad1 p179 h181) v180) (
c62 v153.2.2.1 x182 h181 fun s184 h183 =>
ck (readsSo (aLoad1 p179 h183) v180) (
pushK (.cells false 9 [(AV.str s184)]) h183 fun n185 h186 =>
apC 9 1 16 v180 (AV.slice n185 0 1 1 1 true) h186 fun v187 h188 =>
faK 6 v153.2.2.2.1 fun p189 =>
stV p189 v187 h188 fun h190 =>
asI .i64 v153.2.2.2.2.1 fun x191 =>
fI (wrapF .i64 (Int.sub x191 (Int.ofNat 1))) fun x192 =>
r156 (v153.1, v153.2.1, v153.2.2.1, v153.2.2.2.1, (AV.int .i64 x192), ()) d154 h190))) (
j41 (v153.1, v153.2.1, v153.2.2.1, v153.2.2.2.1, ()) d154 h174)) fun j175 =>
br b158 (
asB v169 fun b176 =>
fB (Bool.not b176) fun b177 =>
j175 (AV.bool b177) h170) (
j175 skipV h170)) fun j171 =>
br b158 (
ldB v165 h166 fun b172 =>
j171 (AV.bool b172) h166) (
j171 skipV h166)) fun j167 =>
br b158 (
faK 1 v162 fun p168 =>
j167 p168 h163) (
j167 skipV h163)) fun j164 =>
br b158 (
okNil v159 (
j164 v159 h160)) (
j164 skipV h160)) fun j161 =>
br b158 (
j161 v153.2.2.1 h155) (
j161 skipV h155)) ((AV.ptr n1 0), (AV.ptr n4 0), (AV.ptr n11 0), (AV.ptr n17 0), (AV.int .i64 x152), ()) [] h151) (
j41 ((AV.ptr n1 0), (AV.ptr n4 0), (AV.ptr n11 0), (AV.ptr n17 0), ()) [] h142)) fun j143 =>
br b133 (
j143 skipV h138) (
asI .u8 v137 fun x144 =>
fB (eqI x144 (Int.ofNat 3)) fun b145 =>
j143 (AV.bool b145) h138)) fun j139 =>
br b133 (
j139 skipV h135) (
ldI .u8 v134 h135 fun x140 =>
j139 (AV.int .u8 x140) h135)) fun j136 =>
br b133 (
j136 skipV h36) (
j136 (AV.ptr n17 2) h36))))
noncomputable def s26 : AV → H → (AV → Int → H → Prop) → Prop := s26G J0 s19 s60 s61 s62 g64
noncomputable def w26 (c : AV → H → (AV → Int → H → Prop) → Prop) : Fun := fun xs h k => arg xs fun a0 xs => noArg xs <| c a0 h fun r0 r1 h => k (.tuple [r0, (.int .i64 r1)]) h
theorem s26_eq (J : Joins) (c19 : AV → H → (AV → Int → H → Prop) → Prop) (c60 : AV → Int → H → (Int → H → Prop) → Prop) (c61 : AV → H → (AV → H → Prop) → Prop) (c62 : AV → Int → H → (Str → H → Prop) → Prop) (c64 : Fun) (a0 : AV) (h : H) (k : AV → H → Prop) : denF ty (gam J [(19, w19 c19), (60, w60 c60), (61, w61 c61), (62, w62 c62), (64, c64)]) Try.f26 [a0] h k = s26G J c19 c60 c61 c62 c64 a0 h (fun r0 r1 h => k (.tuple [r0, (.int .i64 r1)]) h) := by kernel_rfl
noncomputable def g26 : Fun := w26 s26
theorem g26_ok : FunOk Try.prog 26 g26 := (fun_ok ty_ok mixed (gam_ok (J := J0) (tab_cons g19_ok (tab_cons g60_ok (tab_cons g61_ok (tab_cons g62_ok (tab_cons g64_ok (tab_nil fls_fun))))))) Try.func26 (fun args w => by simp)).imp fun xs h k e0 => by
  obtain ⟨a0, xs0, rfl, e1⟩ := arg_imp e0
  obtain ⟨rfl, e2⟩ := noArg_imp e1
  exact (s26_eq J0 s19 s60 s61 s62 g64 a0 h k).mpr e2
/-- stagepost/stagepostref22.sames -/
noncomputable def s65G (J : Joins) (a0 : AV) (a1 : AV) (h : H) (k : Bool → H → Prop) : Prop :=
lenK a0 fun x1 =>
lenK a1 fun x2 =>
fB (Bool.not (eqI (Int.ofNat x1) (Int.ofNat x2))) fun b3 =>
br b3 (
k false h) (
J.lp (α := AV × AV × AV × Unit) (fun r7 v4 d5 h6 =>
lenK v4.1 fun x8 =>
asI .i64 v4.2.2.1 fun x9 =>
fB (ltI x9 (Int.ofNat x8)) fun b10 =>
br b10 (
ixK 1 v4.1 v4.2.2.1 fun p11 =>
ldS p11 h6 fun s12 =>
ixK 1 v4.2.1 v4.2.2.1 fun p13 =>
ldS p13 h6 fun s14 =>
fB (Bool.not (Str.beq s12 s14)) fun b15 =>
br b15 (
leaveK (gam J []) d5 h6 fun h16 =>
k false h16) (
asI .i64 v4.2.2.1 fun x17 =>
fI (wrapF .i64 (Int.add x17 (Int.ofNat 1))) fun x18 =>
r7 (v4.1, v4.2.1, (AV.int .i64 x18), ()) d5 h6)) (
leaveK (gam J []) d5 h6 fun h19 =>
k true h19)) (a0, a1, (AV.int .i64 (Int.ofNat 0)), ()) [] h)
noncomputable def s65 : AV → AV → H → (Bool → H → Prop) → Prop := s65G J0 
noncomputable def w65 (c : AV → AV → H → (Bool → H → Prop) → Prop) : Fun := fun xs h k => arg xs fun a0 xs => arg xs fun a1 xs => noArg xs <| c a0 a1 h fun r0 h => k (.bool r0) h
theorem s65_eq (J : Joins) (a0 : AV) (a1 : AV) (h : H) (k : AV → H → Prop) : denF ty (gam J []) Try.f65 [a0, a1] h k = s65G J  a0 a1 h (fun r0 h => k (.bool r0) h) := by kernel_rfl
noncomputable def g65 : Fun := w65 s65
theorem g65_ok : FunOk Try.prog 65 g65 := (fun_ok ty_ok mixed (gam_ok (J := J0) (tab_nil fls_fun)) Try.func65 (fun args w => by simp)).imp fun xs h k e0 => by
  obtain ⟨a0, xs0, rfl, e1⟩ := arg_imp e0
  obtain ⟨a1, xs1, rfl, e2⟩ := arg_imp e1
  obtain ⟨rfl, e3⟩ := noArg_imp e2
  exact (s65_eq J0  a0 a1 h k).mpr e3
/-- stagepost/stagepostref22.Same -/
noncomputable def s27G (J : Joins) (c65 : AV → AV → H → (Bool → H → Prop) → Prop) (a0 : AV) (a1 : AV) (h : H) (k : Bool → H → Prop) : Prop :=
Go.Am.asAgg a0 fun l3 =>
pushK (.cells false 45 l3) h fun n1 h2 =>
Go.Am.asAgg a1 fun l6 =>
pushK (.cells false 45 l6) h2 fun n4 h5 =>
ldN 2 (AV.ptr n1 0) h5 fun l7 =>
ldN 2 (AV.ptr n4 0) h5 fun l8 =>
obK (aBin ty .eql 39 false (AV.agg l7) (AV.agg l8)) fun b9 =>
J.jn (fun v10 h11 =>
J.jn (fun v13 h14 =>
J.jn (fun v17 h18 =>
J.jn (fun v20 h21 =>
J.jn (fun v24 h25 =>
pickB (AV.bool b9) v24 (AV.bool false) fun b30 =>
J.jn (fun v31 h32 =>
J.jn (fun v34 h35 =>
J.jn (fun v38 h39 =>
J.jn (fun v41 h42 =>
J.jn (fun v45 h46 =>
pickB (AV.bool b30) v45 (AV.bool false) fun b49 =>
J.jn (fun v50 h51 =>
J.jn (fun v53 h54 =>
J.jn (fun v57 h58 =>
J.jn (fun v60 h61 =>
J.jn (fun v64 h65 =>
pickB (AV.bool b49) v64 (AV.bool false) fun b69 =>
J.jn (fun v70 h71 =>
J.jn (fun v73 h74 =>
J.jn (fun v77 h78 =>
J.jn (fun v80 h81 =>
J.jn (fun v84 h85 =>
pickB (AV.bool b69) v84 (AV.bool false) fun b90 =>
J.jn (fun v91 h92 =>
J.jn (fun v94 h95 =>
J.jn (fun v98 h99 =>
J.jn (fun v101 h102 =>
J.jn (fun v105 h106 =>
pickB (AV.bool b90) v105 (AV.bool false) fun b109 =>
k b109 h106) fun j107 =>
br b90 (
obK (aBin ty .eql 28 false v94 v101) fun b108 =>
j107 (AV.bool b108) h102) (
j107 skipV h102)) fun j103 =>
br b90 (
ldN 3 v98 h99 fun l104 =>
j103 (AV.agg l104) h99) (
j103 skipV h99)) fun j100 =>
br b90 (
j100 (AV.ptr n4 8) h95) (
j100 skipV h95)) fun j96 =>
br b90 (
ldN 3 v91 h92 fun l97 =>
j96 (AV.agg l97) h92) (
j96 skipV h92)) fun j93 =>
br b90 (
j93 (AV.ptr n1 8) h85) (
j93 skipV h85)) fun j86 =>
br b69 (
asI .i64 v73 fun x87 =>
asI .i64 v80 fun x88 =>
fB (eqI x87 x88) fun b89 =>
j86 (AV.bool b89) h81) (
j86 skipV h81)) fun j82 =>
br b69 (
ldI .i64 v77 h78 fun x83 =>
j82 (AV.int .i64 x83) h78) (
j82 skipV h78)) fun j79 =>
br b69 (
j79 (AV.ptr n4 7) h74) (
j79 skipV h74)) fun j75 =>
br b69 (
ldI .i64 v70 h71 fun x76 =>
j75 (AV.int .i64 x76) h71) (
j75 skipV h71)) fun j72 =>
br b69 (
j72 (AV.ptr n1 7) h65) (
j72 skipV h65)) fun j66 =>
br b49 (
c65 v53 v60 h61 fun b68 h67 =>
j66 (AV.bool b68) h67) (
j66 skipV h61)) fun j62 =>
br b49 (
ldV v57 h58 fun v63 =>
j62 v63 h58) (
j62 skipV h58)) fun j59 =>
br b49 (
j59 (AV.ptr n4 6) h54) (
j59 skipV h54)) fun j55 =>
br b49 (
ldV v50 h51 fun v56 =>
j55 v56 h51) (
j55 skipV h51)) fun j52 =>
br b49 (
j52 (AV.ptr n1 6) h46) (
j52 skipV h46)) fun j47 =>
br b30 (
obK (aBin ty .eql 28 false v34 v41) fun b48 =>
j47 (AV.bool b48) h42) (
j47 skipV h42)) fun j43 =>
br b30 (
ldN 3 v38 h39 fun l44 =>
j43 (AV.agg l44) h39) (
j43 skipV h39)) fun j40 =>
br b30 (
j40 (AV.ptr n4 3) h35) (
j40 skipV h35)) fun j36 =>
br b30 (
ldN 3 v31 h32 fun l37 =>
j36 (AV.agg l37) h32) (
j36 skipV h32)) fun j33 =>
br b30 (
j33 (AV.ptr n1 3) h25) (
j33 skipV h25)) fun j26 =>
br b9 (
asI .u8 v13 fun x27 =>
asI .u8 v20 fun x28 =>
fB (eqI x27 x28) fun b29 =>
j26 (AV.bool b29) h21) (
j26 skipV h21)) fun j22 =>
br b9 (
ldI .u8 v17 h18 fun x23 =>
j22 (AV.int .u8 x23) h18) (
j22 skipV h18)) fun j19 =>
br b9 (
j19 (AV.ptr n4 2) h14) (
j19 skipV h14)) fun j15 =>
br b9 (
ldI .u8 v10 h11 fun x16 =>
j15 (AV.int .u8 x16) h11) (
j15 skipV h11)) fun j12 =>
br b9 (
j12 (AV.ptr n1 2) h5) (
j12 skipV h5)
noncomputable def s27 : AV → AV → H → (Bool → H → Prop) → Prop := s27G J0 s65
noncomputable def w27 (c : AV → AV → H → (Bool → H → Prop) → Prop) : Fun := fun xs h k => arg xs fun a0 xs => arg xs fun a1 xs => noArg xs <| c a0 a1 h fun r0 h => k (.bool r0) h
theorem s27_eq (J : Joins) (c65 : AV → AV → H → (Bool → H → Prop) → Prop) (a0 : AV) (a1 : AV) (h : H) (k : AV → H → Prop) : denF ty (gam J [(65, w65 c65)]) Try.f27 [a0, a1] h k = s27G J c65 a0 a1 h (fun r0 h => k (.bool r0) h) := by kernel_rfl
noncomputable def g27 : Fun := w27 s27
theorem g27_ok : FunOk Try.prog 27 g27 := (fun_ok ty_ok mixed (gam_ok (J := J0) (tab_cons g65_ok (tab_nil fls_fun))) Try.func27 (fun args w => by simp)).imp fun xs h k e0 => by
  obtain ⟨a0, xs0, rfl, e1⟩ := arg_imp e0
  obtain ⟨a1, xs1, rfl, e2⟩ := arg_imp e1
  obtain ⟨rfl, e3⟩ := noArg_imp e2
  exact (s27_eq J0 s65 a0 a1 h k).mpr e3
/-- stagepost/stagepostlaw23.MvccReads -/
noncomputable def s5G (J : Joins) (c9 : H → (Bool → H → Prop) → Prop) (c10 : AV → H → (AV → Int → H → Prop) → Prop) (c22 : AV → H → (AV → Int → H → Prop) → Prop) (c23 : AV → H → (AV → Int → H → Prop) → Prop) (c24 : AV → H → (AV → Int → H → Prop) → Prop) (c25 : AV → H → (AV → Int → H → Prop) → Prop) (c26 : AV → H → (AV → Int → H → Prop) → Prop) (c27 : AV → AV → H → (Bool → H → Prop) → Prop) (a0 : AV) (h : H) (k : Bool → H → Prop) : Prop :=
Go.Am.asAgg a0 fun l3 =>
pushK (.cells false 36 l3) h fun n1 h2 =>
ldN 2 (AV.ptr n1 0) h2 fun l4 =>
c10 (AV.agg l4) h2 fun v6 x7 h5 =>
pushK (.cells false 31 [(.str ⟨0, 0⟩), (.int .i64 0), (.int .i32 0), (.int .i32 0), (.str ⟨0, 0⟩), (.bool false)]) h5 fun n8 h9 =>
Go.Am.asAgg v6 fun l11 =>
stN 6 (AV.ptr n8 0) l11 h9 fun h10 =>
ldN 2 (AV.ptr n1 0) h10 fun l12 =>
c22 (AV.agg l12) h10 fun v14 x15 h13 =>
pushK (.cells false 31 [(.str ⟨0, 0⟩), (.int .i64 0), (.int .i32 0), (.int .i32 0), (.str ⟨0, 0⟩), (.bool false)]) h13 fun n16 h17 =>
Go.Am.asAgg v14 fun l19 =>
stN 6 (AV.ptr n16 0) l19 h17 fun h18 =>
ldN 2 (AV.ptr n1 0) h18 fun l20 =>
c23 (AV.agg l20) h18 fun v22 x23 h21 =>
pushK (.cells false 41 [(.str ⟨0, 0⟩), (.int .i32 0), (.int .i32 0), (.int .i64 0), (.int .i32 0), (.int .i32 0), (.str ⟨0, 0⟩), (.int .i64 0), (.int .i32 0), (.int .i32 0), (.str ⟨0, 0⟩), (.bool false)]) h21 fun n24 h25 =>
Go.Am.asAgg v22 fun l27 =>
stN 12 (AV.ptr n24 0) l27 h25 fun h26 =>
ldN 2 (AV.ptr n1 0) h26 fun l28 =>
c24 (AV.agg l28) h26 fun v30 x31 h29 =>
pushK (.cells false 41 [(.str ⟨0, 0⟩), (.int .i32 0), (.int .i32 0), (.int .i64 0), (.int .i32 0), (.int .i32 0), (.str ⟨0, 0⟩), (.int .i64 0), (.int .i32 0), (.int .i32 0), (.str ⟨0, 0⟩), (.bool false)]) h29 fun n32 h33 =>
Go.Am.asAgg v30 fun l35 =>
stN 12 (AV.ptr n32 0) l35 h33 fun h34 =>
ldN 2 (AV.ptr n1 0) h34 fun l36 =>
c25 (AV.agg l36) h34 fun v38 x39 h37 =>
pushK (.cells false 45 [(.int .i32 0), (.int .i32 0), (.int .u8 0), (.int .i64 0), (.int .i32 0), (.int .i32 0), (.nils), (.int .i64 0), (.int .i64 0), (.int .i32 0), (.int .i32 0)]) h37 fun n40 h41 =>
Go.Am.asAgg v38 fun l43 =>
stN 11 (AV.ptr n40 0) l43 h41 fun h42 =>
ldN 2 (AV.ptr n1 0) h42 fun l44 =>
c26 (AV.agg l44) h42 fun v46 x47 h45 =>
pushK (.cells false 45 [(.int .i32 0), (.int .i32 0), (.int .u8 0), (.int .i64 0), (.int .i32 0), (.int .i32 0), (.nils), (.int .i64 0), (.int .i64 0), (.int .i32 0), (.int .i32 0)]) h45 fun n48 h49 =>
Go.Am.asAgg v46 fun l51 =>
stN 11 (AV.ptr n48 0) l51 h49 fun h50 =>
c9  h50 fun b53 h52 =>
J.jn (fun v54 h55 =>
J.jn (fun v58 h59 =>
J.jn (fun v62 h63 =>
pickB (AV.bool b53) v62 (AV.bool false) fun b66 =>
J.jn (fun v67 h68 =>
J.jn (fun v70 h71 =>
J.jn (fun v73 h74 =>
pickB (AV.bool b66) v73 (AV.bool false) fun b79 =>
J.jn (fun v80 h81 =>
J.jn (fun v84 h85 =>
J.jn (fun v88 h89 =>
pickB (AV.bool b79) v88 (AV.bool false) fun b92 =>
J.jn (fun v93 h94 =>
J.jn (fun v96 h97 =>
J.jn (fun v99 h100 =>
pickB (AV.bool b92) v99 (AV.bool false) fun b105 =>
J.jn (fun v106 h107 =>
J.jn (fun v110 h111 =>
J.jn (fun v114 h115 =>
pickB (AV.bool b105) v114 (AV.bool false) fun b119 =>
J.jn (fun v120 h121 =>
J.jn (fun v123 h124 =>
J.jn (fun v126 h127 =>
pickB (AV.bool b119) v126 (AV.bool false) fun b132 =>
k b132 h127) fun j128 =>
br b119 (
asI .i64 v120 fun x129 =>
asI .i64 v123 fun x130 =>
fB (eqI x129 x130) fun b131 =>
j128 (AV.bool b131) h124) (
j128 skipV h124)) fun j125 =>
br b119 (
j125 (AV.int .i64 x47) h121) (
j125 skipV h121)) fun j122 =>
br b119 (
j122 (AV.int .i64 x39) h115) (
j122 skipV h115)) fun j116 =>
br b105 (
c27 v106 v110 h111 fun b118 h117 =>
j116 (AV.bool b118) h117) (
j116 skipV h111)) fun j112 =>
br b105 (
ldN 11 (AV.ptr n48 0) h107 fun l113 =>
j112 (AV.agg l113) h107) (
j112 skipV h107)) fun j108 =>
br b105 (
ldN 11 (AV.ptr n40 0) h100 fun l109 =>
j108 (AV.agg l109) h100) (
j108 skipV h100)) fun j101 =>
br b92 (
asI .i64 v93 fun x102 =>
asI .i64 v96 fun x103 =>
fB (eqI x102 x103) fun b104 =>
j101 (AV.bool b104) h97) (
j101 skipV h97)) fun j98 =>
br b92 (
j98 (AV.int .i64 x31) h94) (
j98 skipV h94)) fun j95 =>
br b92 (
j95 (AV.int .i64 x23) h89) (
j95 skipV h89)) fun j90 =>
br b79 (
obK (aBin ty .eql 41 false v80 v84) fun b91 =>
j90 (AV.bool b91) h85) (
j90 skipV h85)) fun j86 =>
br b79 (
ldN 12 (AV.ptr n32 0) h81 fun l87 =>
j86 (AV.agg l87) h81) (
j86 skipV h81)) fun j82 =>
br b79 (
ldN 12 (AV.ptr n24 0) h74 fun l83 =>
j82 (AV.agg l83) h74) (
j82 skipV h74)) fun j75 =>
br b66 (
asI .i64 v67 fun x76 =>
asI .i64 v70 fun x77 =>
fB (eqI x76 x77) fun b78 =>
j75 (AV.bool b78) h71) (
j75 skipV h71)) fun j72 =>
br b66 (
j72 (AV.int .i64 x15) h68) (
j72 skipV h68)) fun j69 =>
br b66 (
j69 (AV.int .i64 x7) h63) (
j69 skipV h63)) fun j64 =>
br b53 (
obK (aBin ty .eql 31 false v54 v58) fun b65 =>
j64 (AV.bool b65) h59) (
j64 skipV h59)) fun j60 =>
br b53 (
ldN 6 (AV.ptr n16 0) h55 fun l61 =>
j60 (AV.agg l61) h55) (
j60 skipV h55)) fun j56 =>
br b53 (
ldN 6 (AV.ptr n8 0) h52 fun l57 =>
j56 (AV.agg l57) h52) (
j56 skipV h52)
noncomputable def s5 : AV → H → (Bool → H → Prop) → Prop := s5G J0 s9 s10 s22 s23 s24 s25 s26 s27
noncomputable def w5 (c : AV → H → (Bool → H → Prop) → Prop) : Fun := fun xs h k => arg xs fun a0 xs => noArg xs <| c a0 h fun r0 h => k (.bool r0) h
theorem s5_eq (J : Joins) (c9 : H → (Bool → H → Prop) → Prop) (c10 : AV → H → (AV → Int → H → Prop) → Prop) (c22 : AV → H → (AV → Int → H → Prop) → Prop) (c23 : AV → H → (AV → Int → H → Prop) → Prop) (c24 : AV → H → (AV → Int → H → Prop) → Prop) (c25 : AV → H → (AV → Int → H → Prop) → Prop) (c26 : AV → H → (AV → Int → H → Prop) → Prop) (c27 : AV → AV → H → (Bool → H → Prop) → Prop) (a0 : AV) (h : H) (k : AV → H → Prop) : denF ty (gam J [(9, w9 c9), (10, w10 c10), (22, w22 c22), (23, w23 c23), (24, w24 c24), (25, w25 c25), (26, w26 c26), (27, w27 c27)]) Try.f5 [a0] h k = s5G J c9 c10 c22 c23 c24 c25 c26 c27 a0 h (fun r0 h => k (.bool r0) h) := by kernel_rfl
noncomputable def g5 : Fun := w5 s5
theorem g5_ok : FunOk Try.prog 5 g5 := (fun_ok ty_ok mixed (gam_ok (J := J0) (tab_cons g9_ok (tab_cons g10_ok (tab_cons g22_ok (tab_cons g23_ok (tab_cons g24_ok (tab_cons g25_ok (tab_cons g26_ok (tab_cons g27_ok (tab_nil fls_fun)))))))))) Try.func5 (fun args w => by simp)).imp fun xs h k e0 => by
  obtain ⟨a0, xs0, rfl, e1⟩ := arg_imp e0
  obtain ⟨rfl, e2⟩ := noArg_imp e1
  exact (s5_eq J0 s9 s10 s22 s23 s24 s25 s26 s27 a0 h k).mpr e2
/-- stagepost/stagepostlaw23.whole -/
noncomputable def s28G (J : Joins) (c7 : AV → H → (AV → Int → H → Prop) → Prop) (c10 : AV → H → (AV → Int → H → Prop) → Prop) (c13 : AV → H → (AV → Int → H → Prop) → Prop) (c18 : AV → H → (AV → Int → H → Prop) → Prop) (c23 : AV → H → (AV → Int → H → Prop) → Prop) (c25 : AV → H → (AV → Int → H → Prop) → Prop) (a0 : AV) (h : H) (k : Bool → H → Prop) : Prop :=
Go.Am.asAgg a0 fun l3 =>
pushK (.cells false 36 l3) h fun n1 h2 =>
ldN 2 (AV.ptr n1 0) h2 fun l4 =>
c10 (AV.agg l4) h2 fun v6 x7 h5 =>
pushK (.cells false 31 [(.str ⟨0, 0⟩), (.int .i64 0), (.int .i32 0), (.int .i32 0), (.str ⟨0, 0⟩), (.bool false)]) h5 fun n8 h9 =>
Go.Am.asAgg v6 fun l11 =>
stN 6 (AV.ptr n8 0) l11 h9 fun h10 =>
J.jd (α := AV × AV × Unit) (fun v12 d13 h14 =>
ldN 2 v12.1 h14 fun l16 =>
c23 (AV.agg l16) h14 fun v18 x19 h17 =>
pushK (.cells false 41 [(.str ⟨0, 0⟩), (.int .i32 0), (.int .i32 0), (.int .i64 0), (.int .i32 0), (.int .i32 0), (.str ⟨0, 0⟩), (.int .i64 0), (.int .i32 0), (.int .i32 0), (.str ⟨0, 0⟩), (.bool false)]) h17 fun n20 h21 =>
Go.Am.asAgg v18 fun l23 =>
stN 12 (AV.ptr n20 0) l23 h21 fun h22 =>
J.jd (α := AV × AV × Unit) (fun v24 d25 h26 =>
ldN 2 v24.1 h26 fun l28 =>
c25 (AV.agg l28) h26 fun v30 x31 h29 =>
pushK (.cells false 45 [(.int .i32 0), (.int .i32 0), (.int .u8 0), (.int .i64 0), (.int .i32 0), (.int .i32 0), (.nils), (.int .i64 0), (.int .i64 0), (.int .i32 0), (.int .i32 0)]) h29 fun n32 h33 =>
Go.Am.asAgg v30 fun l35 =>
stN 11 (AV.ptr n32 0) l35 h33 fun h34 =>
J.jd (α := AV × Unit) (fun v36 d37 h38 =>
asI .i64 v36.1 fun x40 =>
fB (Bool.not (ltI (Int.ofNat 1) x40)) fun b41 =>
leaveK (gam J [(7, w7 c7), (10, w10 c10), (13, w13 c13), (18, w18 c18), (23, w23 c23), (25, w25 c25)]) d37 h38 fun h42 =>
k b41 h42) fun j39 =>
fB (eqI x31 (Int.ofNat 0)) fun b43 =>
br b43 (
ldN 11 (AV.ptr n32 0) h34 fun l44 =>
c18 (AV.agg l44) h34 fun v46 x47 h45 =>
pushK (.cells false 23 [(.str ⟨0, 0⟩), (.str ⟨0, 0⟩), (.bool false)]) h45 fun n48 h49 =>
Go.Am.asAgg v46 fun l51 =>
stN 3 (AV.ptr n48 0) l51 h49 fun h50 =>
fB (Bool.not (eqI x47 (Int.ofNat 0))) fun b52 =>
J.jn (fun v53 h54 =>
J.jn (fun v56 h57 =>
J.jn (fun v60 h61 =>
J.jn (fun v64 h65 =>
J.jn (fun v68 h69 =>
pickB (AV.bool b52) (AV.bool true) v68 fun b74 =>
J.jn (fun v75 h76 =>
J.jn (fun v78 h79 =>
J.jn (fun v82 h83 =>
J.jn (fun v86 h87 =>
J.jn (fun v90 h91 =>
pickB (AV.bool b74) (AV.bool true) v90 fun b96 =>
br b96 (
leaveK (gam J [(7, w7 c7), (10, w10 c10), (13, w13 c13), (18, w18 c18), (23, w23 c23), (25, w25 c25)]) d25 h91 fun h97 =>
k false h97) (
asI .i64 v24.2.1 fun x98 =>
fI (wrapF .i64 (Int.add x98 (Int.ofNat 1))) fun x99 =>
j39 ((AV.int .i64 x99), ()) d25 h91)) fun j92 =>
br b74 (
j92 skipV h87) (
asS v78 fun s93 =>
asS v86 fun s94 =>
fB (Bool.not (Str.beq s93 s94)) fun b95 =>
j92 (AV.bool b95) h87)) fun j88 =>
br b74 (
j88 skipV h83) (
ldS v82 h83 fun s89 =>
j88 (AV.str s89) h83)) fun j84 =>
br b74 (
j84 skipV h79) (
faK 1 v24.1 fun p85 =>
j84 p85 h79)) fun j80 =>
br b74 (
j80 skipV h76) (
ldS v75 h76 fun s81 =>
j80 (AV.str s81) h76)) fun j77 =>
br b74 (
j77 skipV h69) (
j77 (AV.ptr n48 1) h69)) fun j70 =>
br b52 (
j70 skipV h65) (
asS v56 fun s71 =>
asS v64 fun s72 =>
fB (Bool.not (Str.beq s71 s72)) fun b73 =>
j70 (AV.bool b73) h65)) fun j66 =>
br b52 (
j66 skipV h61) (
ldS v60 h61 fun s67 =>
j66 (AV.str s67) h61)) fun j62 =>
br b52 (
j62 skipV h57) (
faK 0 v24.1 fun p63 =>
j62 p63 h57)) fun j58 =>
br b52 (
j58 skipV h54) (
ldS v53 h54 fun s59 =>
j58 (AV.str s59) h54)) fun j55 =>
br b52 (
j55 skipV h50) (
j55 (AV.ptr n48 0) h50)) (
j39 (v24.2.1, ()) d25 h34)) fun j27 =>
fB (eqI x19 (Int.ofNat 0)) fun b100 =>
br b100 (
ldN 12 (AV.ptr n20 0) h22 fun l101 =>
c13 (AV.agg l101) h22 fun v103 x104 h102 =>
pushK (.cells false 23 [(.str ⟨0, 0⟩), (.str ⟨0, 0⟩), (.bool false)]) h102 fun n105 h106 =>
Go.Am.asAgg v103 fun l108 =>
stN 3 (AV.ptr n105 0) l108 h106 fun h107 =>
fB (Bool.not (eqI x104 (Int.ofNat 0))) fun b109 =>
J.jn (fun v110 h111 =>
J.jn (fun v113 h114 =>
J.jn (fun v117 h118 =>
J.jn (fun v121 h122 =>
J.jn (fun v125 h126 =>
pickB (AV.bool b109) (AV.bool true) v125 fun b131 =>
J.jn (fun v132 h133 =>
J.jn (fun v135 h136 =>
J.jn (fun v139 h140 =>
J.jn (fun v143 h144 =>
J.jn (fun v147 h148 =>
pickB (AV.bool b131) (AV.bool true) v147 fun b153 =>
br b153 (
leaveK (gam J [(7, w7 c7), (10, w10 c10), (13, w13 c13), (18, w18 c18), (23, w23 c23), (25, w25 c25)]) d13 h148 fun h154 =>
k false h154) (
asI .i64 v12.2.1 fun x155 =>
fI (wrapF .i64 (Int.add x155 (Int.ofNat 1))) fun x156 =>
j27 (v12.1, (AV.int .i64 x156), ()) d13 h148)) fun j149 =>
br b131 (
j149 skipV h144) (
asS v135 fun s150 =>
asS v143 fun s151 =>
fB (Bool.not (Str.beq s150 s151)) fun b152 =>
j149 (AV.bool b152) h144)) fun j145 =>
br b131 (
j145 skipV h140) (
ldS v139 h140 fun s146 =>
j145 (AV.str s146) h140)) fun j141 =>
br b131 (
j141 skipV h136) (
faK 1 v12.1 fun p142 =>
j141 p142 h136)) fun j137 =>
br b131 (
j137 skipV h133) (
ldS v132 h133 fun s138 =>
j137 (AV.str s138) h133)) fun j134 =>
br b131 (
j134 skipV h126) (
j134 (AV.ptr n105 1) h126)) fun j127 =>
br b109 (
j127 skipV h122) (
asS v113 fun s128 =>
asS v121 fun s129 =>
fB (Bool.not (Str.beq s128 s129)) fun b130 =>
j127 (AV.bool b130) h122)) fun j123 =>
br b109 (
j123 skipV h118) (
ldS v117 h118 fun s124 =>
j123 (AV.str s124) h118)) fun j119 =>
br b109 (
j119 skipV h114) (
faK 0 v12.1 fun p120 =>
j119 p120 h114)) fun j115 =>
br b109 (
j115 skipV h111) (
ldS v110 h111 fun s116 =>
j115 (AV.str s116) h111)) fun j112 =>
br b109 (
j112 skipV h107) (
j112 (AV.ptr n105 0) h107)) (
j27 (v12.1, v12.2.1, ()) d13 h22)) fun j15 =>
fB (eqI x7 (Int.ofNat 0)) fun b157 =>
br b157 (
ldN 6 (AV.ptr n8 0) h10 fun l158 =>
c7 (AV.agg l158) h10 fun v160 x161 h159 =>
pushK (.cells false 23 [(.str ⟨0, 0⟩), (.str ⟨0, 0⟩), (.bool false)]) h159 fun n162 h163 =>
Go.Am.asAgg v160 fun l165 =>
stN 3 (AV.ptr n162 0) l165 h163 fun h164 =>
fB (Bool.not (eqI x161 (Int.ofNat 0))) fun b166 =>
J.jn (fun v167 h168 =>
J.jn (fun v170 h171 =>
J.jn (fun v174 h175 =>
J.jn (fun v177 h178 =>
J.jn (fun v181 h182 =>
pickB (AV.bool b166) (AV.bool true) v181 fun b187 =>
J.jn (fun v188 h189 =>
J.jn (fun v191 h192 =>
J.jn (fun v195 h196 =>
J.jn (fun v198 h199 =>
J.jn (fun v202 h203 =>
pickB (AV.bool b187) (AV.bool true) v202 fun b208 =>
br b208 (
k false h203) (
fI (wrapF .i64 (Int.add (Int.ofNat 0) (Int.ofNat 1))) fun x209 =>
j15 ((AV.ptr n1 0), (AV.int .i64 x209), ()) [] h203)) fun j204 =>
br b187 (
j204 skipV h199) (
asS v191 fun s205 =>
asS v198 fun s206 =>
fB (Bool.not (Str.beq s205 s206)) fun b207 =>
j204 (AV.bool b207) h199)) fun j200 =>
br b187 (
j200 skipV h196) (
ldS v195 h196 fun s201 =>
j200 (AV.str s201) h196)) fun j197 =>
br b187 (
j197 skipV h192) (
j197 (AV.ptr n1 1) h192)) fun j193 =>
br b187 (
j193 skipV h189) (
ldS v188 h189 fun s194 =>
j193 (AV.str s194) h189)) fun j190 =>
br b187 (
j190 skipV h182) (
j190 (AV.ptr n162 1) h182)) fun j183 =>
br b166 (
j183 skipV h178) (
asS v170 fun s184 =>
asS v177 fun s185 =>
fB (Bool.not (Str.beq s184 s185)) fun b186 =>
j183 (AV.bool b186) h178)) fun j179 =>
br b166 (
j179 skipV h175) (
ldS v174 h175 fun s180 =>
j179 (AV.str s180) h175)) fun j176 =>
br b166 (
j176 skipV h171) (
j176 (AV.ptr n1 0) h171)) fun j172 =>
br b166 (
j172 skipV h168) (
ldS v167 h168 fun s173 =>
j172 (AV.str s173) h168)) fun j169 =>
br b166 (
j169 skipV h164) (
j169 (AV.ptr n162 0) h164)) (
j15 ((AV.ptr n1 0), (AV.int .i64 (Int.ofNat 0)), ()) [] h10)
noncomputable def s28 : AV → H → (Bool → H → Prop) → Prop := s28G J0 s7 s10 s13 s18 s23 s25
noncomputable def w28 (c : AV → H → (Bool → H → Prop) → Prop) : Fun := fun xs h k => arg xs fun a0 xs => noArg xs <| c a0 h fun r0 h => k (.bool r0) h
theorem s28_eq (J : Joins) (c7 : AV → H → (AV → Int → H → Prop) → Prop) (c10 : AV → H → (AV → Int → H → Prop) → Prop) (c13 : AV → H → (AV → Int → H → Prop) → Prop) (c18 : AV → H → (AV → Int → H → Prop) → Prop) (c23 : AV → H → (AV → Int → H → Prop) → Prop) (c25 : AV → H → (AV → Int → H → Prop) → Prop) (a0 : AV) (h : H) (k : AV → H → Prop) : denF ty (gam J [(7, w7 c7), (10, w10 c10), (13, w13 c13), (18, w18 c18), (23, w23 c23), (25, w25 c25)]) Try.f28 [a0] h k = s28G J c7 c10 c13 c18 c23 c25 a0 h (fun r0 h => k (.bool r0) h) := by kernel_rfl
noncomputable def g28 : Fun := w28 s28
theorem g28_ok : FunOk Try.prog 28 g28 := (fun_ok ty_ok mixed (gam_ok (J := J0) (tab_cons g7_ok (tab_cons g10_ok (tab_cons g13_ok (tab_cons g18_ok (tab_cons g23_ok (tab_cons g25_ok (tab_nil fls_fun)))))))) Try.func28 (fun args w => by simp)).imp fun xs h k e0 => by
  obtain ⟨a0, xs0, rfl, e1⟩ := arg_imp e0
  obtain ⟨rfl, e2⟩ := noArg_imp e1
  exact (s28_eq J0 s7 s10 s13 s18 s23 s25 a0 h k).mpr e2
/-- stagepost/stagepostlaw23.MvccBack -/
noncomputable def s6G (J : Joins) (c7 : AV → H → (AV → Int → H → Prop) → Prop) (c9 : H → (Bool → H → Prop) → Prop) (c10 : AV → H → (AV → Int → H → Prop) → Prop) (c13 : AV → H → (AV → Int → H → Prop) → Prop) (c18 : AV → H → (AV → Int → H → Prop) → Prop) (c20 : Str → H → (AV → Int → H → Prop) → Prop) (c23 : AV → H → (AV → Int → H → Prop) → Prop) (c25 : AV → H → (AV → Int → H → Prop) → Prop) (c27 : AV → AV → H → (Bool → H → Prop) → Prop) (c28 : AV → H → (Bool → H → Prop) → Prop) (a0 : AV) (a1 : AV) (a2 : AV) (a3 : AV) (a4 : AV) (h : H) (k : Bool → H → Prop) : Prop :=
Go.Am.asAgg a0 fun l3 =>
pushK (.cells false 31 l3) h fun n1 h2 =>
Go.Am.asAgg a1 fun l6 =>
pushK (.cells false 31 l6) h2 fun n4 h5 =>
Go.Am.asAgg a2 fun l9 =>
pushK (.cells false 41 l9) h5 fun n7 h8 =>
Go.Am.asAgg a3 fun l12 =>
pushK (.cells false 45 l12) h8 fun n10 h11 =>
Go.Am.asAgg a4 fun l15 =>
pushK (.cells false 36 l15) h11 fun n13 h14 =>
c9  h14 fun b17 h16 =>
fB (Bool.not b17) fun b18 =>
br b18 (
k false h16) (
ldN 6 (AV.ptr n1 0) h16 fun l19 =>
c7 (AV.agg l19) h16 fun v21 x22 h20 =>
pushK (.cells false 23 [(.str ⟨0, 0⟩), (.str ⟨0, 0⟩), (.bool false)]) h20 fun n23 h24 =>
Go.Am.asAgg v21 fun l26 =>
stN 3 (AV.ptr n23 0) l26 h24 fun h25 =>
ldN 6 (AV.ptr n4 0) h25 fun l27 =>
c7 (AV.agg l27) h25 fun v29 x30 h28 =>
pushK (.cells false 23 [(.str ⟨0, 0⟩), (.str ⟨0, 0⟩), (.bool false)]) h28 fun n31 h32 =>
Go.Am.asAgg v29 fun l34 =>
stN 3 (AV.ptr n31 0) l34 h32 fun h33 =>
J.jd (α := AV × AV × AV × AV × AV × AV × AV × AV × AV × Unit) (fun v35 d36 h37 =>
J.jd (α := AV × AV × AV × Unit) (fun v39 d40 h41 =>
ldN 12 v39.1 h41 fun l43 =>
c13 (AV.agg l43) h41 fun v45 x46 h44 =>
pushK (.cells false 23 [(.str ⟨0, 0⟩), (.str ⟨0, 0⟩), (.bool false)]) h44 fun n47 h48 =>
Go.Am.asAgg v45 fun l50 =>
stN 3 (AV.ptr n47 0) l50 h48 fun h49 =>
J.jd (α := AV × AV × AV × Unit) (fun v51 d52 h53 =>
ldN 11 v51.1 h53 fun l55 =>
c18 (AV.agg l55) h53 fun v57 x58 h56 =>
Go.Am.asAgg v57 fun l60 =>
stN 3 v51.2.2.1 l60 h56 fun h59 =>
J.jd (α := AV × Unit) (fun v61 d62 h63 =>
ldN 2 v61.1 h63 fun l65 =>
c28 (AV.agg l65) h63 fun b67 h66 =>
leaveK (gam J [(7, w7 c7), (9, w9 c9), (10, w10 c10), (13, w13 c13), (18, w18 c18), (20, w20 c20), (23, w23 c23), (25, w25 c25), (27, w27 c27), (28, w28 c28)]) d62 h66 fun h68 =>
k b67 h68) fun j64 =>
fB (eqI x58 (Int.ofNat 0)) fun b69 =>
br b69 (
faK 0 v51.2.2.1 fun p70 =>
ldS p70 h59 fun s71 =>
faK 1 v51.2.2.1 fun p72 =>
ldS p72 h59 fun s73 =>
c25 (AV.agg [(AV.str s71), (AV.str s73)]) h59 fun v75 x76 h74 =>
pushK (.cells false 45 [(.int .i32 0), (.int .i32 0), (.int .u8 0), (.int .i64 0), (.int .i32 0), (.int .i32 0), (.nils), (.int .i64 0), (.int .i64 0), (.int .i32 0), (.int .i32 0)]) h74 fun n77 h78 =>
Go.Am.asAgg v75 fun l80 =>
stN 11 (AV.ptr n77 0) l80 h78 fun h79 =>
fB (Bool.not (eqI x76 (Int.ofNat 0))) fun b81 =>
J.jn (fun v82 h83 =>
J.jn (fun v86 h87 =>
J.jn (fun v90 h91 =>
J.jn (fun v95 h96 =>
pickB (AV.bool b81) (AV.bool true) v95 fun b100 =>
br b100 (
leaveK (gam J [(7, w7 c7), (9, w9 c9), (10, w10 c10), (13, w13 c13), (18, w18 c18), (20, w20 c20), (23, w23 c23), (25, w25 c25), (27, w27 c27), (28, w28 c28)]) d52 h96 fun h101 =>
k false h101) (
j64 (v51.2.1, ()) d52 h96)) fun j97 =>
br b81 (
j97 skipV h91) (
asB v90 fun b98 =>
fB (Bool.not b98) fun b99 =>
j97 (AV.bool b99) h91)) fun j92 =>
br b81 (
j92 skipV h87) (
c27 v82 v86 h87 fun b94 h93 =>
j92 (AV.bool b94) h93)) fun j88 =>
br b81 (
j88 skipV h83) (
ldN 11 v51.1 h83 fun l89 =>
j88 (AV.agg l89) h83)) fun j84 =>
br b81 (
j84 skipV h79) (
ldN 11 (AV.ptr n77 0) h79 fun l85 =>
j84 (AV.agg l85) h79)) (
j64 (v51.2.1, ()) d52 h59)) fun j54 =>
fB (eqI x46 (Int.ofNat 0)) fun b102 =>
br b102 (
ldS (AV.ptr n47 0) h49 fun s103 =>
ldS (AV.ptr n47 1) h49 fun s104 =>
c23 (AV.agg [(AV.str s103), (AV.str s104)]) h49 fun v106 x107 h105 =>
pushK (.cells false 41 [(.str ⟨0, 0⟩), (.int .i32 0), (.int .i32 0), (.int .i64 0), (.int .i32 0), (.int .i32 0), (.str ⟨0, 0⟩), (.int .i64 0), (.int .i32 0), (.int .i32 0), (.str ⟨0, 0⟩), (.bool false)]) h105 fun n108 h109 =>
Go.Am.asAgg v106 fun l111 =>
stN 12 (AV.ptr n108 0) l111 h109 fun h110 =>
faK 0 v39.1 fun p112 =>
ldS p112 h110 fun s113 =>
c20 s113 h110 fun v115 x116 h114 =>
pushK (.cells false 23 [(.str ⟨0, 0⟩), (.str ⟨0, 0⟩), (.bool false)]) h114 fun n117 h118 =>
Go.Am.asAgg v115 fun l120 =>
stN 3 (AV.ptr n117 0) l120 h118 fun h119 =>
fB (Bool.not (eqI x107 (Int.ofNat 0))) fun b121 =>
J.jn (fun v122 h123 =>
J.jn (fun v126 h127 =>
J.jn (fun v130 h131 =>
pickB (AV.bool b121) (AV.bool true) v130 fun b134 =>
J.jn (fun v135 h136 =>
J.jn (fun v138 h139 =>
pickB (AV.bool b134) (AV.bool true) v138 fun b143 =>
J.jn (fun v144 h145 =>
J.jn (fun v147 h148 =>
J.jn (fun v151 h152 =>
J.jn (fun v154 h155 =>
J.jn (fun v158 h159 =>
pickB (AV.bool b143) (AV.bool true) v158 fun b164 =>
J.jn (fun v165 h166 =>
J.jn (fun v168 h169 =>
J.jn (fun v172 h173 =>
pickB (AV.bool b164) (AV.bool true) v172 fun b177 =>
br b177 (
leaveK (gam J [(7, w7 c7), (9, w9 c9), (10, w10 c10), (13, w13 c13), (18, w18 c18), (20, w20 c20), (23, w23 c23), (25, w25 c25), (27, w27 c27), (28, w28 c28)]) d40 h173 fun h178 =>
k false h178) (
j54 (v39.2.1, v39.2.2.1, (AV.ptr n47 0), ()) d40 h173)) fun j174 =>
br b164 (
j174 skipV h169) (
asB v168 fun b175 =>
fB (Bool.not b175) fun b176 =>
j174 (AV.bool b176) h169)) fun j170 =>
br b164 (
j170 skipV h166) (
ldB v165 h166 fun b171 =>
j170 (AV.bool b171) h166)) fun j167 =>
br b164 (
j167 skipV h159) (
j167 (AV.ptr n117 2) h159)) fun j160 =>
br b143 (
j160 skipV h155) (
asS v147 fun s161 =>
asS v154 fun s162 =>
fB (Bool.not (Str.beq s161 s162)) fun b163 =>
j160 (AV.bool b163) h155)) fun j156 =>
br b143 (
j156 skipV h152) (
ldS v151 h152 fun s157 =>
j156 (AV.str s157) h152)) fun j153 =>
br b143 (
j153 skipV h148) (
j153 (AV.ptr n47 0) h148)) fun j149 =>
br b143 (
j149 skipV h145) (
ldS v144 h145 fun s150 =>
j149 (AV.str s150) h145)) fun j146 =>
br b143 (
j146 skipV h139) (
j146 (AV.ptr n117 0) h139)) fun j140 =>
br b134 (
j140 skipV h136) (
asI .i64 v135 fun x141 =>
fB (Bool.not (eqI x141 (Int.ofNat 0))) fun b142 =>
j140 (AV.bool b142) h136)) fun j137 =>
br b134 (
j137 skipV h131) (
j137 (AV.int .i64 x116) h131)) fun j132 =>
br b121 (
j132 skipV h127) (
obK (aBin ty .neq 41 false v122 v126) fun b133 =>
j132 (AV.bool b133) h127)) fun j128 =>
br b121 (
j128 skipV h123) (
ldN 12 v39.1 h123 fun l129 =>
j128 (AV.agg l129) h123)) fun j124 =>
br b121 (
j124 skipV h119) (
ldN 12 (AV.ptr n108 0) h119 fun l125 =>
j124 (AV.agg l125) h119)) (
j54 (v39.2.1, v39.2.2.1, (AV.ptr n47 0), ()) d40 h49)) fun j42 =>
asI .i64 v35.2.2.2.2.2.2.1 fun x179 =>
fB (eqI x179 (Int.ofNat 0)) fun b180 =>
J.jn (fun v181 h182 =>
J.jn (fun v184 h185 =>
pickB (AV.bool b180) v184 (AV.bool false) fun b189 =>
br b189 (
faK 0 v35.1 fun p190 =>
ldS p190 h185 fun s191 =>
faK 0 v35.2.1 fun p192 =>
ldS p192 h185 fun s193 =>
fB (Str.lt s191 s193) fun b194 =>
J.jn (fun v195 h196 =>
J.jn (fun v199 h200 =>
J.jn (fun v203 h204 =>
J.jn (fun v207 h208 =>
J.jn (fun v211 h212 =>
J.jn (fun v217 h218 =>
J.jn (fun v220 h221 =>
J.jn (fun v224 h225 =>
J.jn (fun v228 h229 =>
J.jn (fun v232 h233 =>
J.jn (fun v236 h237 =>
J.jn (fun v240 h241 =>
J.jn (fun v244 h245 =>
J.jn (fun v250 h251 =>
J.jn (fun v253 h254 =>
J.jn (fun v257 h258 =>
J.jn (fun v261 h262 =>
J.jn (fun v265 h266 =>
J.jn (fun v269 h270 =>
J.jn (fun v273 h274 =>
J.jn (fun v277 h278 =>
J.jn (fun v283 h284 =>
J.jn (fun v286 h287 =>
J.jn (fun v290 h291 =>
J.jn (fun v294 h295 =>
J.jn (fun v298 h299 =>
J.jn (fun v302 h303 =>
J.jn (fun v306 h307 =>
J.jn (fun v310 h311 =>
J.jn (fun v316 h317 =>
J.jn (fun v319 h320 =>
J.jn (fun v323 h324 =>
J.jn (fun v327 h328 =>
J.jn (fun v331 h332 =>
J.jn (fun v335 h336 =>
J.jn (fun v339 h340 =>
J.jn (fun v343 h344 =>
J.jn (fun v349 h350 =>
J.jn (fun v352 h353 =>
J.jn (fun v356 h357 =>
J.jn (fun v360 h361 =>
J.jn (fun v364 h365 =>
J.jn (fun v368 h369 =>
J.jn (fun v372 h373 =>
J.jn (fun v376 h377 =>
J.jn (fun v382 h383 =>
J.jn (fun v386 h387 =>
J.jn (fun v390 h391 =>
J.jn (fun v394 h395 =>
J.jn (fun v398 h399 =>
pickB (AV.bool b194) (AV.bool true) v398 fun b402 =>
faK 0 v35.2.2.2.2.2.1 fun p403 =>
ldS p403 h399 fun s404 =>
faK 0 v35.2.2.2.2.2.2.2.1 fun p405 =>
ldS p405 h399 fun s406 =>
fB (Str.lt s404 s406) fun b407 =>
fB (Bool.not (Bool.rec (motive := fun _ => Bool) (Bool.not b402) b402 b407)) fun b408 =>
J.jn (fun v409 h410 =>
J.jb (fun b413 v414 =>
J.jn (fun v417 h418 =>
J.jb (fun b421 v422 =>
J.jn (fun v425 h426 =>
J.jn (fun v431 h432 =>
J.jb (fun b435 v436 =>
J.jn (fun v439 h440 =>
J.jb (fun b443 v444 =>
J.jn (fun v447 h448 =>
J.jn (fun v453 h454 =>
J.jn (fun v456 h457 =>
J.jb (fun b460 v461 =>
J.jn (fun v464 h465 =>
J.jb (fun b468 v469 =>
J.jn (fun v472 h473 =>
J.jn (fun v476 h477 =>
J.jn (fun v480 h481 =>
pickB (AV.bool b408) (AV.bool true) v480 fun b486 =>
br b486 (
leaveK (gam J [(7, w7 c7), (9, w9 c9), (10, w10 c10), (13, w13 c13), (18, w18 c18), (20, w20 c20), (23, w23 c23), (25, w25 c25), (27, w27 c27), (28, w28 c28)]) d36 h481 fun h487 =>
k false h487) (
j42 (v35.2.2.1, v35.2.2.2.1, v35.2.2.2.2.1, ()) d36 h481)) fun j482 =>
br b408 (
j482 skipV h477) (
asB v425 fun b483 =>
asB v476 fun b484 =>
fB (Bool.not (Bool.rec (motive := fun _ => Bool) (Bool.not b484) b484 b483)) fun b485 =>
j482 (AV.bool b485) h477)) fun j478 =>
br b408 (
j478 skipV h473) (
pickB v453 v472 (AV.bool false) fun b479 =>
j478 (AV.bool b479) h473)) fun j474 =>
asBU v453 (fun b488 =>
br b488 (
obK (aBin ty .eql 28 false v461 v469) fun b475 =>
j474 (AV.bool b475) h465) (
j474 skipV h465)) (
j474 skipV h465)) fun j470 =>
asBU v453 (fun b489 =>
br b489 (
ldN 3 v464 h465 fun l471 =>
j470 true (AV.agg l471)) (
j470 false skipV)) (
j470 false skipV)) fun j466 =>
asBU v453 (fun b490 =>
br b490 (
faK 1 v35.2.1 fun p467 =>
j466 p467 h457) (
j466 skipV h457)) (
j466 skipV h457)) fun j462 =>
asBU v453 (fun b491 =>
br b491 (
ldN 3 v456 h457 fun l463 =>
j462 true (AV.agg l463)) (
j462 false skipV)) (
j462 false skipV)) fun j458 =>
asBU v453 (fun b492 =>
br b492 (
faK 1 v35.1 fun p459 =>
j458 p459 h454) (
j458 skipV h454)) (
j458 skipV h454)) fun j455 =>
br b408 (
j455 skipV h448) (
j455 v447 h448)) fun j449 =>
br b408 (
j449 skipV h440) (
asS v436 fun s450 =>
asS v444 fun s451 =>
fB (Str.beq s450 s451) fun b452 =>
j449 (AV.bool b452) h440)) fun j445 =>
br b408 (
j445 false skipV) (
ldS v439 h440 fun s446 =>
j445 true (AV.str s446))) fun j441 =>
br b408 (
j441 skipV h432) (
faK 0 v35.2.1 fun p442 =>
j441 p442 h432)) fun j437 =>
br b408 (
j437 false skipV) (
ldS v431 h432 fun s438 =>
j437 true (AV.str s438))) fun j433 =>
br b408 (
j433 skipV h426) (
faK 0 v35.1 fun p434 =>
j433 p434 h426)) fun j427 =>
br b408 (
j427 skipV h418) (
asS v414 fun s428 =>
asS v422 fun s429 =>
fB (Str.beq s428 s429) fun b430 =>
j427 (AV.bool b430) h418)) fun j423 =>
br b408 (
j423 false skipV) (
ldS v417 h418 fun s424 =>
j423 true (AV.str s424))) fun j419 =>
br b408 (
j419 skipV h410) (
faK 0 v35.2.2.2.2.2.2.2.1 fun p420 =>
j419 p420 h410)) fun j415 =>
br b408 (
j415 false skipV) (
ldS v409 h410 fun s416 =>
j415 true (AV.str s416))) fun j411 =>
br b408 (
j411 skipV h399) (
faK 0 v35.2.2.2.2.2.1 fun p412 =>
j411 p412 h399)) fun j400 =>
br b194 (
j400 skipV h395) (
pickB v217 v394 (AV.bool false) fun b401 =>
j400 (AV.bool b401) h395)) fun j396 =>
asBU v217 (fun b493 =>
br b493 (
pickB v250 (AV.bool true) v390 fun b397 =>
j396 (AV.bool b397) h391) (
j396 skipV h391)) (
j396 skipV h391)) fun j392 =>
asBU v250 (fun b494 =>
br b494 (
j392 skipV h387) (
pickB v283 v386 (AV.bool false) fun b393 =>
j392 (AV.bool b393) h387)) (
j392 skipV h387)) fun j388 =>
asBU v283 (fun b495 =>
br b495 (
pickB v316 (AV.bool true) v382 fun b389 =>
j388 (AV.bool b389) h383) (
j388 skipV h383)) (
j388 skipV h383)) fun j384 =>
asBU v316 (fun b496 =>
br b496 (
j384 skipV h377) (
pickB v349 v376 (AV.bool false) fun b385 =>
j384 (AV.bool b385) h377)) (
j384 skipV h377)) fun j378 =>
asBU v349 (fun b497 =>
br b497 (
asI .i32 v360 fun x379 =>
asI .i32 v372 fun x380 =>
fB (ltI x379 x380) fun b381 =>
j378 (AV.bool b381) h373) (
j378 skipV h373)) (
j378 skipV h373)) fun j374 =>
asBU v349 (fun b498 =>
br b498 (
ldI .i32 v368 h369 fun x375 =>
j374 (AV.int .i32 x375) h369) (
j374 skipV h369)) (
j374 skipV h369)) fun j370 =>
asBU v349 (fun b499 =>
br b499 (
faK 2 v364 fun p371 =>
j370 p371 h365) (
j370 skipV h365)) (
j370 skipV h365)) fun j366 =>
asBU v349 (fun b500 =>
br b500 (
faK 1 v35.1 fun p367 =>
j366 p367 h361) (
j366 skipV h361)) (
j366 skipV h361)) fun j362 =>
asBU v349 (fun b501 =>
br b501 (
ldI .i32 v356 h357 fun x363 =>
j362 (AV.int .i32 x363) h357) (
j362 skipV h357)) (
j362 skipV h357)) fun j358 =>
asBU v349 (fun b502 =>
br b502 (
faK 2 v352 fun p359 =>
j358 p359 h353) (
j358 skipV h353)) (
j358 skipV h353)) fun j354 =>
asBU v349 (fun b503 =>
br b503 (
faK 1 v35.2.1 fun p355 =>
j354 p355 h350) (
j354 skipV h350)) (
j354 skipV h350)) fun j351 =>
asBU v316 (fun b504 =>
br b504 (
j351 skipV h344) (
j351 v343 h344)) (
j351 skipV h344)) fun j345 =>
asBU v316 (fun b505 =>
br b505 (
j345 skipV h340) (
asI .i32 v327 fun x346 =>
asI .i32 v339 fun x347 =>
fB (eqI x346 x347) fun b348 =>
j345 (AV.bool b348) h340)) (
j345 skipV h340)) fun j341 =>
asBU v316 (fun b506 =>
br b506 (
j341 skipV h336) (
ldI .i32 v335 h336 fun x342 =>
j341 (AV.int .i32 x342) h336)) (
j341 skipV h336)) fun j337 =>
asBU v316 (fun b507 =>
br b507 (
j337 skipV h332) (
faK 1 v331 fun p338 =>
j337 p338 h332)) (
j337 skipV h332)) fun j333 =>
asBU v316 (fun b508 =>
br b508 (
j333 skipV h328) (
faK 1 v35.1 fun p334 =>
j333 p334 h328)) (
j333 skipV h328)) fun j329 =>
asBU v316 (fun b509 =>
br b509 (
j329 skipV h324) (
ldI .i32 v323 h324 fun x330 =>
j329 (AV.int .i32 x330) h324)) (
j329 skipV h324)) fun j325 =>
asBU v316 (fun b510 =>
br b510 (
j325 skipV h320) (
faK 1 v319 fun p326 =>
j325 p326 h320)) (
j325 skipV h320)) fun j321 =>
asBU v316 (fun b511 =>
br b511 (
j321 skipV h317) (
faK 1 v35.2.1 fun p322 =>
j321 p322 h317)) (
j321 skipV h317)) fun j318 =>
asBU v283 (fun b512 =>
br b512 (
j318 v310 h311) (
j318 skipV h311)) (
j318 skipV h311)) fun j312 =>
asBU v283 (fun b513 =>
br b513 (
asI .i32 v294 fun x313 =>
asI .i32 v306 fun x314 =>
fB (ltI x313 x314) fun b315 =>
j312 (AV.bool b315) h307) (
j312 skipV h307)) (
j312 skipV h307)) fun j308 =>
asBU v283 (fun b514 =>
br b514 (
ldI .i32 v302 h303 fun x309 =>
j308 (AV.int .i32 x309) h303) (
j308 skipV h303)) (
j308 skipV h303)) fun j304 =>
asBU v283 (fun b515 =>
br b515 (
faK 1 v298 fun p305 =>
j304 p305 h299) (
j304 skipV h299)) (
j304 skipV h299)) fun j300 =>
asBU v283 (fun b516 =>
br b516 (
faK 1 v35.1 fun p301 =>
j300 p301 h295) (
j300 skipV h295)) (
j300 skipV h295)) fun j296 =>
asBU v283 (fun b517 =>
br b517 (
ldI .i32 v290 h291 fun x297 =>
j296 (AV.int .i32 x297) h291) (
j296 skipV h291)) (
j296 skipV h291)) fun j292 =>
asBU v283 (fun b518 =>
br b518 (
faK 1 v286 fun p293 =>
j292 p293 h287) (
j292 skipV h287)) (
j292 skipV h287)) fun j288 =>
asBU v283 (fun b519 =>
br b519 (
faK 1 v35.2.1 fun p289 =>
j288 p289 h284) (
j288 skipV h284)) (
j288 skipV h284)) fun j285 =>
asBU v250 (fun b520 =>
br b520 (
j285 skipV h278) (
j285 v277 h278)) (
j285 skipV h278)) fun j279 =>
asBU v250 (fun b521 =>
br b521 (
j279 skipV h274) (
asI .i64 v261 fun x280 =>
asI .i64 v273 fun x281 =>
fB (eqI x280 x281) fun b282 =>
j279 (AV.bool b282) h274)) (
j279 skipV h274)) fun j275 =>
asBU v250 (fun b522 =>
br b522 (
j275 skipV h270) (
ldI .i64 v269 h270 fun x276 =>
j275 (AV.int .i64 x276) h270)) (
j275 skipV h270)) fun j271 =>
asBU v250 (fun b523 =>
br b523 (
j271 skipV h266) (
faK 0 v265 fun p272 =>
j271 p272 h266)) (
j271 skipV h266)) fun j267 =>
asBU v250 (fun b524 =>
br b524 (
j267 skipV h262) (
faK 1 v35.1 fun p268 =>
j267 p268 h262)) (
j267 skipV h262)) fun j263 =>
asBU v250 (fun b525 =>
br b525 (
j263 skipV h258) (
ldI .i64 v257 h258 fun x264 =>
j263 (AV.int .i64 x264) h258)) (
j263 skipV h258)) fun j259 =>
asBU v250 (fun b526 =>
br b526 (
j259 skipV h254) (
faK 0 v253 fun p260 =>
j259 p260 h254)) (
j259 skipV h254)) fun j255 =>
asBU v250 (fun b527 =>
br b527 (
j255 skipV h251) (
faK 1 v35.2.1 fun p256 =>
j255 p256 h251)) (
j255 skipV h251)) fun j252 =>
asBU v217 (fun b528 =>
br b528 (
j252 v244 h245) (
j252 skipV h245)) (
j252 skipV h245)) fun j246 =>
asBU v217 (fun b529 =>
br b529 (
asI .i64 v228 fun x247 =>
asI .i64 v240 fun x248 =>
fB (ltI x247 x248) fun b249 =>
j246 (AV.bool b249) h241) (
j246 skipV h241)) (
j246 skipV h241)) fun j242 =>
asBU v217 (fun b530 =>
br b530 (
ldI .i64 v236 h237 fun x243 =>
j242 (AV.int .i64 x243) h237) (
j242 skipV h237)) (
j242 skipV h237)) fun j238 =>
asBU v217 (fun b531 =>
br b531 (
faK 0 v232 fun p239 =>
j238 p239 h233) (
j238 skipV h233)) (
j238 skipV h233)) fun j234 =>
asBU v217 (fun b532 =>
br b532 (
faK 1 v35.1 fun p235 =>
j234 p235 h229) (
j234 skipV h229)) (
j234 skipV h229)) fun j230 =>
asBU v217 (fun b533 =>
br b533 (
ldI .i64 v224 h225 fun x231 =>
j230 (AV.int .i64 x231) h225) (
j230 skipV h225)) (
j230 skipV h225)) fun j226 =>
asBU v217 (fun b534 =>
br b534 (
faK 0 v220 fun p227 =>
j226 p227 h221) (
j226 skipV h221)) (
j226 skipV h221)) fun j222 =>
asBU v217 (fun b535 =>
br b535 (
faK 1 v35.2.1 fun p223 =>
j222 p223 h218) (
j222 skipV h218)) (
j222 skipV h218)) fun j219 =>
br b194 (
j219 skipV h212) (
j219 v211 h212)) fun j213 =>
br b194 (
j213 skipV h208) (
asS v199 fun s214 =>
asS v207 fun s215 =>
fB (Str.beq s214 s215) fun b216 =>
j213 (AV.bool b216) h208)) fun j209 =>
br b194 (
j209 skipV h204) (
ldS v203 h204 fun s210 =>
j209 (AV.str s210) h204)) fun j205 =>
br b194 (
j205 skipV h200) (
faK 0 v35.2.1 fun p206 =>
j205 p206 h200)) fun j201 =>
br b194 (
j201 skipV h196) (
ldS v195 h196 fun s202 =>
j201 (AV.str s202) h196)) fun j197 =>
br b194 (
j197 skipV h185) (
faK 0 v35.1 fun p198 =>
j197 p198 h185)) (
j42 (v35.2.2.1, v35.2.2.2.1, v35.2.2.2.2.1, ()) d36 h185)) fun j186 =>
br b180 (
asI .i64 v181 fun x187 =>
fB (eqI x187 (Int.ofNat 0)) fun b188 =>
j186 (AV.bool b188) h182) (
j186 skipV h182)) fun j183 =>
br b180 (
j183 v35.2.2.2.2.2.2.2.2.1 h37) (
j183 skipV h37)) fun j38 =>
fB (eqI x22 (Int.ofNat 0)) fun b536 =>
br b536 (
ldS (AV.ptr n23 0) h33 fun s537 =>
ldS (AV.ptr n23 1) h33 fun s538 =>
c10 (AV.agg [(AV.str s537), (AV.str s538)]) h33 fun v540 x541 h539 =>
pushK (.cells false 31 [(.str ⟨0, 0⟩), (.int .i64 0), (.int .i32 0), (.int .i32 0), (.str ⟨0, 0⟩), (.bool false)]) h539 fun n542 h543 =>
Go.Am.asAgg v540 fun l545 =>
stN 6 (AV.ptr n542 0) l545 h543 fun h544 =>
fB (Bool.not (eqI x541 (Int.ofNat 0))) fun b546 =>
J.jn (fun v547 h548 =>
J.jn (fun v551 h552 =>
J.jn (fun v555 h556 =>
pickB (AV.bool b546) (AV.bool true) v555 fun b559 =>
br b559 (
k false h556) (
j38 ((AV.ptr n1 0), (AV.ptr n4 0), (AV.ptr n7 0), (AV.ptr n10 0), (AV.ptr n13 0), (AV.ptr n23 0), (AV.int .i64 x22), (AV.ptr n31 0), (AV.int .i64 x30), ()) [] h556)) fun j557 =>
br b546 (
j557 skipV h552) (
obK (aBin ty .neq 31 false v547 v551) fun b558 =>
j557 (AV.bool b558) h552)) fun j553 =>
br b546 (
j553 skipV h548) (
ldN 6 (AV.ptr n1 0) h548 fun l554 =>
j553 (AV.agg l554) h548)) fun j549 =>
br b546 (
j549 skipV h544) (
ldN 6 (AV.ptr n542 0) h544 fun l550 =>
j549 (AV.agg l550) h544)) (
j38 ((AV.ptr n1 0), (AV.ptr n4 0), (AV.ptr n7 0), (AV.ptr n10 0), (AV.ptr n13 0), (AV.ptr n23 0), (AV.int .i64 x22), (AV.ptr n31 0), (AV.int .i64 x30), ()) [] h33))
noncomputable def s6 : AV → AV → AV → AV → AV → H → (Bool → H → Prop) → Prop := s6G J0 s7 s9 s10 s13 s18 s20 s23 s25 s27 s28
noncomputable def w6 (c : AV → AV → AV → AV → AV → H → (Bool → H → Prop) → Prop) : Fun := fun xs h k => arg xs fun a0 xs => arg xs fun a1 xs => arg xs fun a2 xs => arg xs fun a3 xs => arg xs fun a4 xs => noArg xs <| c a0 a1 a2 a3 a4 h fun r0 h => k (.bool r0) h
theorem s6_eq (J : Joins) (c7 : AV → H → (AV → Int → H → Prop) → Prop) (c9 : H → (Bool → H → Prop) → Prop) (c10 : AV → H → (AV → Int → H → Prop) → Prop) (c13 : AV → H → (AV → Int → H → Prop) → Prop) (c18 : AV → H → (AV → Int → H → Prop) → Prop) (c20 : Str → H → (AV → Int → H → Prop) → Prop) (c23 : AV → H → (AV → Int → H → Prop) → Prop) (c25 : AV → H → (AV → Int → H → Prop) → Prop) (c27 : AV → AV → H → (Bool → H → Prop) → Prop) (c28 : AV → H → (Bool → H → Prop) → Prop) (a0 : AV) (a1 : AV) (a2 : AV) (a3 : AV) (a4 : AV) (h : H) (k : AV → H → Prop) : denF ty (gam J [(7, w7 c7), (9, w9 c9), (10, w10 c10), (13, w13 c13), (18, w18 c18), (20, w20 c20), (23, w23 c23), (25, w25 c25), (27, w27 c27), (28, w28 c28)]) Try.f6 [a0, a1, a2, a3, a4] h k = s6G J c7 c9 c10 c13 c18 c20 c23 c25 c27 c28 a0 a1 a2 a3 a4 h (fun r0 h => k (.bool r0) h) := by kernel_rfl
noncomputable def g6 : Fun := w6 s6
theorem g6_ok : FunOk Try.prog 6 g6 := (fun_ok ty_ok mixed (gam_ok (J := J0) (tab_cons g7_ok (tab_cons g9_ok (tab_cons g10_ok (tab_cons g13_ok (tab_cons g18_ok (tab_cons g20_ok (tab_cons g23_ok (tab_cons g25_ok (tab_cons g27_ok (tab_cons g28_ok (tab_nil fls_fun)))))))))))) Try.func6 (fun args w => by simp)).imp fun xs h k e0 => by
  obtain ⟨a0, xs0, rfl, e1⟩ := arg_imp e0
  obtain ⟨a1, xs1, rfl, e2⟩ := arg_imp e1
  obtain ⟨a2, xs2, rfl, e3⟩ := arg_imp e2
  obtain ⟨a3, xs3, rfl, e4⟩ := arg_imp e3
  obtain ⟨a4, xs4, rfl, e5⟩ := arg_imp e4
  obtain ⟨rfl, e6⟩ := noArg_imp e5
  exact (s6_eq J0 s7 s9 s10 s13 s18 s20 s23 s25 s27 s28 a0 a1 a2 a3 a4 h k).mpr e6
end Go.Proofs.Ytlbigopkplckaaa
