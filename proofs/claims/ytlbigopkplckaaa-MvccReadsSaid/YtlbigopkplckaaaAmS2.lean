/- Functions as they are reckoned. MADE BY PROGRAM (wip/tools/shal.py). -/
import Derived.Test.YtlbigopkplckaaaAmS1
namespace Go.Proofs.Ytlbigopkplckaaa
open Go Go.Am
set_option maxRecDepth 100000
set_option linter.all false
/-- stagepost/stagepostref01.Small -/
noncomputable def s77G (J : Joins) (c86 : AV → H → (Int → Int → Int → H → Prop) → Prop) (a0 : AV) (a1 : Int) (h : H) (k : Int → Int → Int → H → Prop) : Prop :=
c86 a0 h fun x2 x3 x4 h1 =>
fB (Bool.not (eqI x4 (Int.ofNat 0))) fun b5 =>
J.jn (fun v6 h7 =>
J.jn (fun v9 h10 =>
pickB (AV.bool b5) (AV.bool true) v9 fun b14 =>
J.jn (fun v15 h16 =>
J.jn (fun v18 h19 =>
J.jn (fun v21 h22 =>
J.jn (fun v26 h27 =>
pickB (AV.bool b14) (AV.bool true) v26 fun b32 =>
br b32 (
k (Int.ofNat 0) (Int.ofNat 0) (Int.ofNat 5) h27) (
fI (wrapF .i64 x2) fun x33 =>
k x33 x3 (Int.ofNat 0) h27)) fun j28 =>
br b14 (
j28 skipV h22) (
asI .u64 v15 fun x29 =>
asI .u64 v21 fun x30 =>
fB (ltI x30 x29) fun b31 =>
j28 (AV.bool b31) h22)) fun j23 =>
br b14 (
j23 skipV h19) (
asI .i64 v18 fun x24 =>
fI (wrapF .u64 x24) fun x25 =>
j23 (AV.int .u64 x25) h19)) fun j20 =>
br b14 (
j20 skipV h16) (
j20 (AV.int .i64 a1) h16)) fun j17 =>
br b14 (
j17 skipV h10) (
j17 (AV.int .u64 x2) h10)) fun j11 =>
br b5 (
j11 skipV h7) (
asI .i64 v6 fun x12 =>
fB (ltI x12 (Int.ofNat 0)) fun b13 =>
j11 (AV.bool b13) h7)) fun j8 =>
br b5 (
j8 skipV h1) (
j8 (AV.int .i64 a1) h1)
noncomputable def s77 : AV → Int → H → (Int → Int → Int → H → Prop) → Prop := s77G J0 s86
noncomputable def w77 (c : AV → Int → H → (Int → Int → Int → H → Prop) → Prop) : Fun := fun xs h k => arg xs fun a0 xs => arg xs fun a1 xs => noArg xs <| asI .i64 a1 fun a1 => c a0 a1 h fun r0 r1 r2 h => k (.tuple [(.int .i64 r0), (.int .i64 r1), (.int .i64 r2)]) h
theorem s77_eq (J : Joins) (c86 : AV → H → (Int → Int → Int → H → Prop) → Prop) (a0 : AV) (a1 : Int) (h : H) (k : AV → H → Prop) : denF ty (gam J [(86, w86 c86)]) Try.f77 [a0, (.int .i64 a1)] h k = s77G J c86 a0 a1 h (fun r0 r1 r2 h => k (.tuple [(.int .i64 r0), (.int .i64 r1), (.int .i64 r2)]) h) := by kernel_rfl
noncomputable def g77 : Fun := w77 s77
theorem g77_ok : FunOk Try.prog 77 g77 := (fun_ok ty_ok mixed (gam_ok (J := J0) (tab_cons g86_ok (tab_nil fls_fun))) Try.func77 (fun args w => by simp)).imp fun xs h k e0 => by
  obtain ⟨a0, xs0, rfl, e1⟩ := arg_imp e0
  obtain ⟨a1, xs1, rfl, e2⟩ := arg_imp e1
  obtain ⟨rfl, e3⟩ := noArg_imp e2
  obtain ⟨a1, rfl, e4⟩ := asI_iff.1 e3
  exact (s77_eq J0 s86 a0 a1 h k).mpr e4
/-- (*stagepost/stagepostref23.reader).number -/
noncomputable def s60G (J : Joins) (c77 : AV → Int → H → (Int → Int → Int → H → Prop) → Prop) (a0 : AV) (a1 : Int) (h : H) (k : Int → H → Prop) : Prop :=
okNil a0 (
faK 0 a0 fun p1 =>
ldS p1 h fun s2 =>
pushK (.bytes 5 0 true s2) h fun n3 h4 =>
c77 (AV.slice n3 0 s2.len s2.len 1 false) a1 h4 fun x6 x7 x8 h5 =>
okNil a0 (
faK 1 a0 fun p9 =>
ldB p9 h5 fun b10 =>
J.jn (fun v11 h12 =>
J.jn (fun v14 h15 =>
pickB (AV.bool b10) (AV.bool true) v14 fun b19 =>
br b19 (
okNil a0 (
faK 1 a0 fun p20 =>
stV p20 (AV.bool true) h15 fun h21 =>
k (Int.ofNat 0) h21)) (
okNil a0 (
faK 0 a0 fun p22 =>
ldS p22 h15 fun s23 =>
subK (AV.str s23) (some (AV.int .i64 x7)) none fun s24 =>
okNil a0 (
faK 0 a0 fun p25 =>
stV p25 (AV.str s24) h15 fun h26 =>
k x6 h26)))) fun j16 =>
br b10 (
j16 skipV h12) (
asI .i64 v11 fun x17 =>
fB (Bool.not (eqI x17 (Int.ofNat 0))) fun b18 =>
j16 (AV.bool b18) h12)) fun j13 =>
br b10 (
j13 skipV h5) (
j13 (AV.int .i64 x8) h5)))
noncomputable def s60 : AV → Int → H → (Int → H → Prop) → Prop := s60G J0 s77
noncomputable def w60 (c : AV → Int → H → (Int → H → Prop) → Prop) : Fun := fun xs h k => arg xs fun a0 xs => arg xs fun a1 xs => noArg xs <| asI .i64 a1 fun a1 => c a0 a1 h fun r0 h => k (.int .i64 r0) h
theorem s60_eq (J : Joins) (c77 : AV → Int → H → (Int → Int → Int → H → Prop) → Prop) (a0 : AV) (a1 : Int) (h : H) (k : AV → H → Prop) : denF ty (gam J [(77, w77 c77)]) Try.f60 [a0, (.int .i64 a1)] h k = s60G J c77 a0 a1 h (fun r0 h => k (.int .i64 r0) h) := by kernel_rfl
noncomputable def g60 : Fun := w60 s60
theorem g60_ok : FunOk Try.prog 60 g60 := (fun_ok ty_ok mixed (gam_ok (J := J0) (tab_cons g77_ok (tab_nil fls_fun))) Try.func60 (fun args w => by simp)).imp fun xs h k e0 => by
  obtain ⟨a0, xs0, rfl, e1⟩ := arg_imp e0
  obtain ⟨a1, xs1, rfl, e2⟩ := arg_imp e1
  obtain ⟨rfl, e3⟩ := noArg_imp e2
  obtain ⟨a1, rfl, e4⟩ := asI_iff.1 e3
  exact (s60_eq J0 s77 a0 a1 h k).mpr e4
/-- (*stagepost/stagepostref23.reader).text -/
noncomputable def s62G (J : Joins) (a0 : AV) (a1 : Int) (h : H) (k : Str → H → Prop) : Prop :=
okNil a0 (
faK 1 a0 fun p1 =>
ldB p1 h fun b2 =>
J.jn (fun v3 h4 =>
J.jn (fun v6 h7 =>
J.jn (fun v9 h10 =>
J.jn (fun v12 h13 =>
J.jn (fun v16 h17 =>
J.jn (fun v20 h21 =>
J.jn (fun v24 h25 =>
pickB (AV.bool b2) (AV.bool true) v24 fun b30 =>
br b30 (
okNil a0 (
faK 1 a0 fun p31 =>
stV p31 (AV.bool true) h25 fun h32 =>
k ⟨0, 0⟩ h32)) (
okNil a0 (
faK 0 a0 fun p33 =>
ldS p33 h25 fun s34 =>
subK (AV.str s34) none (some (AV.int .i64 a1)) fun s35 =>
okNil a0 (
faK 0 a0 fun p36 =>
ldS p36 h25 fun s37 =>
subK (AV.str s37) (some (AV.int .i64 a1)) none fun s38 =>
okNil a0 (
faK 0 a0 fun p39 =>
stV p39 (AV.str s38) h25 fun h40 =>
k s35 h40))))) fun j26 =>
br b2 (
j26 skipV h21) (
asI .i64 v3 fun x27 =>
asI .i64 v20 fun x28 =>
fB (ltI x28 x27) fun b29 =>
j26 (AV.bool b29) h21)) fun j22 =>
br b2 (
j22 skipV h17) (
asS v16 fun s23 =>
j22 (AV.int .i64 (Int.ofNat s23.len)) h17)) fun j18 =>
br b2 (
j18 skipV h13) (
ldS v12 h13 fun s19 =>
j18 (AV.str s19) h13)) fun j14 =>
br b2 (
j14 skipV h10) (
faK 0 v9 fun p15 =>
j14 p15 h10)) fun j11 =>
br b2 (
j11 skipV h7) (
okNil v6 (
j11 v6 h7))) fun j8 =>
br b2 (
j8 skipV h4) (
j8 a0 h4)) fun j5 =>
br b2 (
j5 skipV h) (
j5 (AV.int .i64 a1) h))
noncomputable def s62 : AV → Int → H → (Str → H → Prop) → Prop := s62G J0 
noncomputable def w62 (c : AV → Int → H → (Str → H → Prop) → Prop) : Fun := fun xs h k => arg xs fun a0 xs => arg xs fun a1 xs => noArg xs <| asI .i64 a1 fun a1 => c a0 a1 h fun r0 h => k (.str r0) h
theorem s62_eq (J : Joins) (a0 : AV) (a1 : Int) (h : H) (k : AV → H → Prop) : denF ty (gam J []) Try.f62 [a0, (.int .i64 a1)] h k = s62G J  a0 a1 h (fun r0 h => k (.str r0) h) := by kernel_rfl
noncomputable def g62 : Fun := w62 s62
theorem g62_ok : FunOk Try.prog 62 g62 := (fun_ok ty_ok mixed (gam_ok (J := J0) (tab_nil fls_fun)) Try.func62 (fun args w => by simp)).imp fun xs h k e0 => by
  obtain ⟨a0, xs0, rfl, e1⟩ := arg_imp e0
  obtain ⟨a1, xs1, rfl, e2⟩ := arg_imp e1
  obtain ⟨rfl, e3⟩ := noArg_imp e2
  obtain ⟨a1, rfl, e4⟩ := asI_iff.1 e3
  exact (s62_eq J0  a0 a1 h k).mpr e4
/-- (*stagepost/stagepostref23.reader).stamp -/
noncomputable def s61G (J : Joins) (c56 : Str → H → (AV → Int → H → Prop) → Prop) (c62 : AV → Int → H → (Str → H → Prop) → Prop) (a0 : AV) (h : H) (k : AV → H → Prop) : Prop :=
pushK (.cells false 28 [(.int .i64 0), (.int .i32 0), (.int .i32 0)]) h fun n1 h2 =>
c62 a0 (Int.ofNat 16) h2 fun s4 h3 =>
c56 s4 h3 fun v6 x7 h5 =>
pushK (.cells false 28 [(.int .i64 0), (.int .i32 0), (.int .i32 0)]) h5 fun n8 h9 =>
Go.Am.asAgg v6 fun l11 =>
stN 3 (AV.ptr n8 0) l11 h9 fun h10 =>
J.jd (α := AV × AV × Unit) (fun v12 d13 h14 =>
ldN 3 v12.2.1 h14 fun l16 =>
stN 3 v12.1 l16 h14 fun h17 =>
leaveK (gam J [(56, w56 c56), (62, w62 c62)]) d13 h17 fun h18 =>
ldN 3 v12.1 h18 fun l19 =>
k (AV.agg l19) h18) fun j15 =>
fB (Bool.not (eqI x7 (Int.ofNat 0))) fun b20 =>
br b20 (
okNil a0 (
faK 1 a0 fun p21 =>
stV p21 (AV.bool true) h10 fun h22 =>
j15 ((AV.ptr n1 0), (AV.ptr n8 0), ()) [] h22)) (
j15 ((AV.ptr n1 0), (AV.ptr n8 0), ()) [] h10)
noncomputable def s61 : AV → H → (AV → H → Prop) → Prop := s61G J0 s56 s62
noncomputable def w61 (c : AV → H → (AV → H → Prop) → Prop) : Fun := fun xs h k => arg xs fun a0 xs => noArg xs <| c a0 h fun r0 h => k r0 h
theorem s61_eq (J : Joins) (c56 : Str → H → (AV → Int → H → Prop) → Prop) (c62 : AV → Int → H → (Str → H → Prop) → Prop) (a0 : AV) (h : H) (k : AV → H → Prop) : denF ty (gam J [(56, w56 c56), (62, w62 c62)]) Try.f61 [a0] h k = s61G J c56 c62 a0 h (fun r0 h => k r0 h) := by kernel_rfl
noncomputable def g61 : Fun := w61 s61
theorem g61_ok : FunOk Try.prog 61 g61 := (fun_ok ty_ok mixed (gam_ok (J := J0) (tab_cons g56_ok (tab_cons g62_ok (tab_nil fls_fun)))) Try.func61 (fun args w => by simp)).imp fun xs h k e0 => by
  obtain ⟨a0, xs0, rfl, e1⟩ := arg_imp e0
  obtain ⟨rfl, e2⟩ := noArg_imp e1
  exact (s61_eq J0 s56 s62 a0 h k).mpr e2
/-- stagepost/stagepostref23.Intent -/
noncomputable def s24G (J : Joins) (c14 : AV → H → (AV → Int → H → Prop) → Prop) (c55 : Str → H → (Str → Int → Bool → H → Prop) → Prop) (c60 : AV → Int → H → (Int → H → Prop) → Prop) (c61 : AV → H → (AV → H → Prop) → Prop) (c62 : AV → Int → H → (Str → H → Prop) → Prop) (a0 : AV) (h : H) (k : AV → Int → H → Prop) : Prop :=
Go.Am.asAgg a0 fun l3 =>
pushK (.cells false 36 l3) h fun n1 h2 =>
pushK (.cells false 41 [(.str ⟨0, 0⟩), (.int .i32 0), (.int .i32 0), (.int .i64 0), (.int .i32 0), (.int .i32 0), (.str ⟨0, 0⟩), (.int .i64 0), (.int .i32 0), (.int .i32 0), (.str ⟨0, 0⟩), (.bool false)]) h2 fun n4 h5 =>
ldS (AV.ptr n1 0) h5 fun s6 =>
fB (ltI (Int.ofNat s6.len) (Int.ofNat 1)) fun b7 =>
br b7 (
stN 12 (AV.ptr n4 0) [(.str ⟨0, 0⟩), (.int .i32 0), (.int .i32 0), (.int .i64 0), (.int .i32 0), (.int .i32 0), (.str ⟨0, 0⟩), (.int .i64 0), (.int .i32 0), (.int .i32 0), (.str ⟨0, 0⟩), (.bool false)] h5 fun h8 =>
ldN 12 (AV.ptr n4 0) h8 fun l9 =>
k (AV.agg l9) (Int.ofNat 5) h8) (
ldS (AV.ptr n1 0) h5 fun s10 =>
subK (AV.str s10) (some (AV.int .i64 (Int.ofNat 1))) none fun s11 =>
c55 s11 h5 fun s13 x14 b15 h12 =>
ldS (AV.ptr n1 1) h12 fun s16 =>
pushK (.cells false 97 [(AV.str s16), (.bool false)]) h12 fun n17 h18 =>
c60 (AV.ptr n17 0) (Int.ofNat 100) h18 fun x20 h19 =>
fI (wrapF .i32 x20) fun x21 =>
c60 (AV.ptr n17 0) (Int.ofNat 1073741824) h19 fun x23 h22 =>
fI (wrapF .i32 x23) fun x24 =>
ck (Nat.beq (List.length [(AV.int .i32 x21), (AV.int .i32 x24)]) 2) (op' (lputAt 1 [(AV.int .i32 x21), (AV.int .i32 x24)] [(AV.str s13), (.int .i32 0), (.int .i32 0), (.int .i64 0), (.int .i32 0), (.int .i32 0), (.str ⟨0, 0⟩), (.int .i64 0), (.int .i32 0), (.int .i32 0), (.str ⟨0, 0⟩), (.bool false)]) fun l25 =>
pushK (.cells false 41 [(.str ⟨0, 0⟩), (.int .i32 0), (.int .i32 0), (.int .i64 0), (.int .i32 0), (.int .i32 0), (.str ⟨0, 0⟩), (.int .i64 0), (.int .i32 0), (.int .i32 0), (.str ⟨0, 0⟩), (.bool false)]) h22 fun n26 h27 =>
stN 12 (AV.ptr n26 0) l25 h27 fun h28 =>
c61 (AV.ptr n17 0) h28 fun v30 h29 =>
Go.Am.asAgg v30 fun l32 =>
stN 3 (AV.ptr n26 3) l32 h29 fun h31 =>
c61 (AV.ptr n17 0) h31 fun v34 h33 =>
Go.Am.asAgg v34 fun l36 =>
stN 3 (AV.ptr n26 7) l36 h33 fun h35 =>
c60 (AV.ptr n17 0) (Int.ofNat 128) h35 fun x38 h37 =>
c62 (AV.ptr n17 0) x38 h37 fun s40 h39 =>
stV (AV.ptr n26 6) (AV.str s40) h39 fun h41 =>
op' (asRow true 5 [(AV.int .u8 (Int.ofNat 1))]) fun k44 =>
pushK k44 h41 fun n42 h43 =>
toStrK (AV.slice n42 0 1 1 1 true) h43 fun s45 =>
c62 (AV.ptr n17 0) (Int.ofNat 1) h43 fun s47 h46 =>
ck (readsSo (aToStr (AV.slice n42 0 1 1 1 true) h46) (AV.str s45)) (
fB (Str.beq s47 s45) fun b48 =>
stV (AV.ptr n26 11) (AV.bool b48) h46 fun h49 =>
ldS (AV.ptr n17 0) h49 fun s50 =>
stV (AV.ptr n26 10) (AV.str s50) h49 fun h51 =>
ldN 12 (AV.ptr n26 0) h51 fun l52 =>
c14 (AV.agg l52) h51 fun v54 x55 h53 =>
pushK (.cells false 23 [(.str ⟨0, 0⟩), (.str ⟨0, 0⟩), (.bool false)]) h53 fun n56 h57 =>
Go.Am.asAgg v54 fun l59 =>
stN 3 (AV.ptr n56 0) l59 h57 fun h58 =>
fB (Bool.not b15) fun b60 =>
J.jn (fun v61 h62 =>
J.jn (fun v64 h65 =>
J.jn (fun v67 h68 =>
J.jn (fun v71 h72 =>
pickB (AV.bool b60) (AV.bool true) v71 fun b75 =>
J.jn (fun v76 h77 =>
J.jn (fun v79 h80 =>
pickB (AV.bool b75) (AV.bool true) v79 fun b84 =>
J.jn (fun v85 h86 =>
J.jn (fun v88 h89 =>
J.jn (fun v92 h93 =>
J.jn (fun v95 h96 =>
J.jn (fun v99 h100 =>
pickB (AV.bool b84) (AV.bool true) v99 fun b105 =>
J.jn (fun v106 h107 =>
J.jn (fun v109 h110 =>
J.jn (fun v113 h114 =>
J.jn (fun v116 h117 =>
J.jn (fun v120 h121 =>
pickB (AV.bool b105) (AV.bool true) v120 fun b126 =>
br b126 (
stN 12 (AV.ptr n4 0) [(.str ⟨0, 0⟩), (.int .i32 0), (.int .i32 0), (.int .i64 0), (.int .i32 0), (.int .i32 0), (.str ⟨0, 0⟩), (.int .i64 0), (.int .i32 0), (.int .i32 0), (.str ⟨0, 0⟩), (.bool false)] h121 fun h127 =>
ldN 12 (AV.ptr n4 0) h127 fun l128 =>
k (AV.agg l128) (Int.ofNat 5) h127) (
ldN 12 (AV.ptr n26 0) h121 fun l129 =>
stN 12 (AV.ptr n4 0) l129 h121 fun h130 =>
ldN 12 (AV.ptr n4 0) h130 fun l131 =>
k (AV.agg l131) (Int.ofNat 0) h130)) fun j122 =>
br b105 (
j122 skipV h117) (
asS v109 fun s123 =>
asS v116 fun s124 =>
fB (Bool.not (Str.beq s123 s124)) fun b125 =>
j122 (AV.bool b125) h117)) fun j118 =>
br b105 (
j118 skipV h114) (
ldS v113 h114 fun s119 =>
j118 (AV.str s119) h114)) fun j115 =>
br b105 (
j115 skipV h110) (
j115 (AV.ptr n1 1) h110)) fun j111 =>
br b105 (
j111 skipV h107) (
ldS v106 h107 fun s112 =>
j111 (AV.str s112) h107)) fun j108 =>
br b105 (
j108 skipV h100) (
j108 (AV.ptr n56 1) h100)) fun j101 =>
br b84 (
j101 skipV h96) (
asS v88 fun s102 =>
asS v95 fun s103 =>
fB (Bool.not (Str.beq s102 s103)) fun b104 =>
j101 (AV.bool b104) h96)) fun j97 =>
br b84 (
j97 skipV h93) (
ldS v92 h93 fun s98 =>
j97 (AV.str s98) h93)) fun j94 =>
br b84 (
j94 skipV h89) (
j94 (AV.ptr n1 0) h89)) fun j90 =>
br b84 (
j90 skipV h86) (
ldS v85 h86 fun s91 =>
j90 (AV.str s91) h86)) fun j87 =>
br b84 (
j87 skipV h80) (
j87 (AV.ptr n56 0) h80)) fun j81 =>
br b75 (
j81 skipV h77) (
asI .i64 v76 fun x82 =>
fB (Bool.not (eqI x82 (Int.ofNat 0))) fun b83 =>
j81 (AV.bool b83) h77)) fun j78 =>
br b75 (
j78 skipV h72) (
j78 (AV.int .i64 x55) h72)) fun j73 =>
br b60 (
j73 skipV h68) (
ldB v67 h68 fun b74 =>
j73 (AV.bool b74) h68)) fun j69 =>
br b60 (
j69 skipV h65) (
faK 1 v64 fun p70 =>
j69 p70 h65)) fun j66 =>
br b60 (
j66 skipV h62) (
okNil v61 (
j66 v61 h62))) fun j63 =>
br b60 (
j63 skipV h58) (
j63 (AV.ptr n17 0) h58))))
noncomputable def s24 : AV → H → (AV → Int → H → Prop) → Prop := s24G J0 s14 s55 s60 s61 s62
noncomputable def w24 (c : AV → H → (AV → Int → H → Prop) → Prop) : Fun := fun xs h k => arg xs fun a0 xs => noArg xs <| c a0 h fun r0 r1 h => k (.tuple [r0, (.int .i64 r1)]) h
theorem s24_eq (J : Joins) (c14 : AV → H → (AV → Int → H → Prop) → Prop) (c55 : Str → H → (Str → Int → Bool → H → Prop) → Prop) (c60 : AV → Int → H → (Int → H → Prop) → Prop) (c61 : AV → H → (AV → H → Prop) → Prop) (c62 : AV → Int → H → (Str → H → Prop) → Prop) (a0 : AV) (h : H) (k : AV → H → Prop) : denF ty (gam J [(14, w14 c14), (55, w55 c55), (60, w60 c60), (61, w61 c61), (62, w62 c62)]) Try.f24 [a0] h k = s24G J c14 c55 c60 c61 c62 a0 h (fun r0 r1 h => k (.tuple [r0, (.int .i64 r1)]) h) := by kernel_rfl
noncomputable def g24 : Fun := w24 s24
theorem g24_ok : FunOk Try.prog 24 g24 := (fun_ok ty_ok mixed (gam_ok (J := J0) (tab_cons g14_ok (tab_cons g55_ok (tab_cons g60_ok (tab_cons g61_ok (tab_cons g62_ok (tab_nil fls_fun))))))) Try.func24 (fun args w => by simp)).imp fun xs h k e0 => by
  obtain ⟨a0, xs0, rfl, e1⟩ := arg_imp e0
  obtain ⟨rfl, e2⟩ := noArg_imp e1
  exact (s24_eq J0 s14 s55 s60 s61 s62 a0 h k).mpr e2
/-- stagepost/mvcc.fours -/
noncomputable def g63 : Fun := denF ty (gam J0 []) Try.f63
theorem g63_ok : FunOk Try.prog 63 g63 := fun_ok ty_ok mixed (gam_ok (J := J0) (tab_nil fls_fun)) Try.func63 (fun args w => by simp)
/-- stagepost/mvcc.Record -/
noncomputable def s25G (J : Joins) (c18 : AV → H → (AV → Int → H → Prop) → Prop) (c33 : AV → H → (AV → H → Prop) → Prop) (c50 : Int → H → (Bool → H → Prop) → Prop) (c58 : AV → Int → H → (Str → H → Prop) → Prop) (c59 : AV → Int → H → (Int → H → Prop) → Prop) (c63 : Fun) (a0 : AV) (h : H) (k : AV → Int → H → Prop) : Prop :=
Go.Am.asAgg a0 fun l3 =>
pushK (.cells false 36 l3) h fun n1 h2 =>
pushK (.cells false 45 [(.int .i32 0), (.int .i32 0), (.int .u8 0), (.int .i64 0), (.int .i32 0), (.int .i32 0), (.nils), (.int .i64 0), (.int .i64 0), (.int .i32 0), (.int .i32 0)]) h2 fun n4 h5 =>
ldS (AV.ptr n1 0) h5 fun s6 =>
fB (Bool.not (eqI (Int.ofNat s6.len) (Int.ofNat 9))) fun b7 =>
br b7 (
stN 11 (AV.ptr n4 0) [(.int .i32 0), (.int .i32 0), (.int .u8 0), (.int .i64 0), (.int .i32 0), (.int .i32 0), (.nils), (.int .i64 0), (.int .i64 0), (.int .i32 0), (.int .i32 0)] h5 fun h8 =>
ldN 11 (AV.ptr n4 0) h8 fun l9 =>
k (AV.agg l9) (Int.ofNat 5) h8) (
ldS (AV.ptr n1 1) h5 fun s10 =>
pushK (.cells false 63 [(AV.str s10), (.bool false)]) h5 fun n11 h12 =>
ldS (AV.ptr n1 0) h12 fun s13 =>
subK (AV.str s13) (some (AV.int .i64 (Int.ofNat 1))) (some (AV.int .i64 (Int.ofNat 5))) fun s14 =>
ldS (AV.ptr n1 0) h12 fun s15 =>
subK (AV.str s15) (some (AV.int .i64 (Int.ofNat 5))) none fun s16 =>
pushK (.cells false 45 [(.int .i32 0), (.int .i32 0), (.int .u8 0), (.int .i64 0), (.int .i32 0), (.int .i32 0), (.nils), (.int .i64 0), (.int .i64 0), (.int .i32 0), (.int .i32 0)]) h12 fun n17 h18 =>
c63 [(AV.str s14)] h18 fun v19 h20 =>
asI .i32 v19 fun x21 =>
ck (readsSo (aLoad1 (AV.ptr n1 0) h20) (AV.str s15)) (
c63 [(AV.str s16)] h20 fun v22 h23 =>
asI .i32 v22 fun x24 =>
ck (Nat.beq (List.length [(AV.int .i32 x21), (AV.int .i32 x24)]) 2) (op' (lputAt 0 [(AV.int .i32 x21), (AV.int .i32 x24)] [(.int .i32 0), (.int .i32 0), (.int .u8 0), (.int .i64 0), (.int .i32 0), (.int .i32 0), (.nils), (.int .i64 0), (.int .i64 0), (.int .i32 0), (.int .i32 0)]) fun l25 =>
stN 11 (AV.ptr n17 0) l25 h23 fun h26 =>
c59 (AV.ptr n11 0) (Int.ofNat 4) h26 fun x28 h27 =>
fI (wrapF .u8 x28) fun x29 =>
stV (AV.ptr n17 2) (AV.int .u8 x29) h27 fun h30 =>
c59 (AV.ptr n11 0) (Int.ofNat 1099511627776) h30 fun x32 h31 =>
stV (AV.ptr n17 7) (AV.int .i64 x32) h31 fun h33 =>
c33 (AV.ptr n11 0) h33 fun v35 h34 =>
Go.Am.asAgg v35 fun l37 =>
stN 3 (AV.ptr n17 8) l37 h34 fun h36 =>
J.jd (α := AV × AV × AV × AV × Unit) (fun v38 d39 h40 =>
ldN 11 v38.2.2.2.1 h40 fun l42 =>
c18 (AV.agg l42) h40 fun v44 x45 h43 =>
pushK (.cells false 23 [(.str ⟨0, 0⟩), (.str ⟨0, 0⟩), (.bool false)]) h43 fun n46 h47 =>
Go.Am.asAgg v44 fun l49 =>
stN 3 (AV.ptr n46 0) l49 h47 fun h48 =>
fB (Bool.not (eqI x45 (Int.ofNat 0))) fun b50 =>
J.jn (fun v51 h52 =>
J.jn (fun v54 h55 =>
J.jn (fun v57 h58 =>
J.jn (fun v61 h62 =>
pickB (AV.bool b50) (AV.bool true) v61 fun b65 =>
J.jn (fun v66 h67 =>
J.jn (fun v69 h70 =>
J.jn (fun v73 h74 =>
J.jn (fun v77 h78 =>
J.jn (fun v81 h82 =>
pickB (AV.bool b65) (AV.bool true) v81 fun b87 =>
J.jn (fun v88 h89 =>
J.jn (fun v91 h92 =>
J.jn (fun v95 h96 =>
J.jn (fun v99 h100 =>
J.jn (fun v103 h104 =>
pickB (AV.bool b87) (AV.bool true) v103 fun b109 =>
br b109 (
stN 11 v38.2.1 [(.int .i32 0), (.int .i32 0), (.int .u8 0), (.int .i64 0), (.int .i32 0), (.int .i32 0), (.nils), (.int .i64 0), (.int .i64 0), (.int .i32 0), (.int .i32 0)] h104 fun h110 =>
leaveK (gam J [(18, w18 c18), (33, w33 c33), (50, w50 c50), (58, w58 c58), (59, w59 c59), (63, c63)]) d39 h110 fun h111 =>
ldN 11 v38.2.1 h111 fun l112 =>
k (AV.agg l112) (Int.ofNat 5) h111) (
ldN 11 v38.2.2.2.1 h104 fun l113 =>
stN 11 v38.2.1 l113 h104 fun h114 =>
leaveK (gam J [(18, w18 c18), (33, w33 c33), (50, w50 c50), (58, w58 c58), (59, w59 c59), (63, c63)]) d39 h114 fun h115 =>
ldN 11 v38.2.1 h115 fun l116 =>
k (AV.agg l116) (Int.ofNat 0) h115)) fun j105 =>
br b87 (
j105 skipV h100) (
asS v91 fun s106 =>
asS v99 fun s107 =>
fB (Bool.not (Str.beq s106 s107)) fun b108 =>
j105 (AV.bool b108) h100)) fun j101 =>
br b87 (
j101 skipV h96) (
ldS v95 h96 fun s102 =>
j101 (AV.str s102) h96)) fun j97 =>
br b87 (
j97 skipV h92) (
faK 1 v38.1 fun p98 =>
j97 p98 h92)) fun j93 =>
br b87 (
j93 skipV h89) (
ldS v88 h89 fun s94 =>
j93 (AV.str s94) h89)) fun j90 =>
br b87 (
j90 skipV h82) (
j90 (AV.ptr n46 1) h82)) fun j83 =>
br b65 (
j83 skipV h78) (
asS v69 fun s84 =>
asS v77 fun s85 =>
fB (Bool.not (Str.beq s84 s85)) fun b86 =>
j83 (AV.bool b86) h78)) fun j79 =>
br b65 (
j79 skipV h74) (
ldS v73 h74 fun s80 =>
j79 (AV.str s80) h74)) fun j75 =>
br b65 (
j75 skipV h70) (
faK 0 v38.1 fun p76 =>
j75 p76 h70)) fun j71 =>
br b65 (
j71 skipV h67) (
ldS v66 h67 fun s72 =>
j71 (AV.str s72) h67)) fun j68 =>
br b65 (
j68 skipV h62) (
j68 (AV.ptr n46 0) h62)) fun j63 =>
br b50 (
j63 skipV h58) (
ldB v57 h58 fun b64 =>
j63 (AV.bool b64) h58)) fun j59 =>
br b50 (
j59 skipV h55) (
faK 1 v54 fun p60 =>
j59 p60 h55)) fun j56 =>
br b50 (
j56 skipV h52) (
okNil v51 (
j56 v51 h52))) fun j53 =>
br b50 (
j53 skipV h48) (
j53 v38.2.2.1 h48)) fun j41 =>
ldI .u8 (AV.ptr n17 2) h36 fun x117 =>
c50 x117 h36 fun b119 h118 =>
br b119 (
c33 (AV.ptr n11 0) h118 fun v121 h120 =>
Go.Am.asAgg v121 fun l123 =>
stN 3 (AV.ptr n17 3) l123 h120 fun h122 =>
c59 (AV.ptr n11 0) (Int.ofNat 24) h122 fun x125 h124 =>
J.lp (α := AV × AV × AV × AV × AV × Unit) (fun r129 v126 d127 h128 =>
asI .i64 v126.2.2.2.2.1 fun x130 =>
fB (ltI (Int.ofNat 0) x130) fun b131 =>
J.jn (fun v132 h133 =>
J.jn (fun v135 h136 =>
J.jn (fun v138 h139 =>
J.jn (fun v142 h143 =>
J.jn (fun v146 h147 =>
pickB (AV.bool b131) v146 (AV.bool false) fun b151 =>
br b151 (
faK 6 v126.2.2.2.1 fun p152 =>
ldV p152 h147 fun v153 =>
c59 v126.2.2.1 (Int.ofNat 128) h147 fun x155 h154 =>
ck (readsSo (aLoad1 p152 h154) v153) (
c58 v126.2.2.1 x155 h154 fun s157 h156 =>
ck (readsSo (aLoad1 p152 h156) v153) (
pushK (.cells false 9 [(AV.str s157)]) h156 fun n158 h159 =>
apC 9 1 16 v153 (AV.slice n158 0 1 1 1 true) h159 fun v160 h161 =>
faK 6 v126.2.2.2.1 fun p162 =>
stV p162 v160 h161 fun h163 =>
asI .i64 v126.2.2.2.2.1 fun x164 =>
fI (wrapF .i64 (Int.sub x164 (Int.ofNat 1))) fun x165 =>
r129 (v126.1, v126.2.1, v126.2.2.1, v126.2.2.2.1, (AV.int .i64 x165), ()) d127 h163))) (
j41 (v126.1, v126.2.1, v126.2.2.1, v126.2.2.2.1, ()) d127 h147)) fun j148 =>
br b131 (
asB v142 fun b149 =>
fB (Bool.not b149) fun b150 =>
j148 (AV.bool b150) h143) (
j148 skipV h143)) fun j144 =>
br b131 (
ldB v138 h139 fun b145 =>
j144 (AV.bool b145) h139) (
j144 skipV h139)) fun j140 =>
br b131 (
faK 1 v135 fun p141 =>
j140 p141 h136) (
j140 skipV h136)) fun j137 =>
br b131 (
okNil v132 (
j137 v132 h133)) (
j137 skipV h133)) fun j134 =>
br b131 (
j134 v126.2.2.1 h128) (
j134 skipV h128)) ((AV.ptr n1 0), (AV.ptr n4 0), (AV.ptr n11 0), (AV.ptr n17 0), (AV.int .i64 x125), ()) [] h124) (
j41 ((AV.ptr n1 0), (AV.ptr n4 0), (AV.ptr n11 0), (AV.ptr n17 0), ()) [] h118))))
noncomputable def s25 : AV → H → (AV → Int → H → Prop) → Prop := s25G J0 s18 s33 s50 s58 s59 g63
noncomputable def w25 (c : AV → H → (AV → Int → H → Prop) → Prop) : Fun := fun xs h k => arg xs fun a0 xs => noArg xs <| c a0 h fun r0 r1 h => k (.tuple [r0, (.int .i64 r1)]) h
theorem s25_eq (J : Joins) (c18 : AV → H → (AV → Int → H → Prop) → Prop) (c33 : AV → H → (AV → H → Prop) → Prop) (c50 : Int → H → (Bool → H → Prop) → Prop) (c58 : AV → Int → H → (Str → H → Prop) → Prop) (c59 : AV → Int → H → (Int → H → Prop) → Prop) (c63 : Fun) (a0 : AV) (h : H) (k : AV → H → Prop) : denF ty (gam J [(18, w18 c18), (33, w33 c33), (50, w50 c50), (58, w58 c58), (59, w59 c59), (63, c63)]) Try.f25 [a0] h k = s25G J c18 c33 c50 c58 c59 c63 a0 h (fun r0 r1 h => k (.tuple [r0, (.int .i64 r1)]) h) := by kernel_rfl
noncomputable def g25 : Fun := w25 s25
theorem g25_ok : FunOk Try.prog 25 g25 := (fun_ok ty_ok mixed (gam_ok (J := J0) (tab_cons g18_ok (tab_cons g33_ok (tab_cons g50_ok (tab_cons g58_ok (tab_cons g59_ok (tab_cons g63_ok (tab_nil fls_fun)))))))) Try.func25 (fun args w => by simp)).imp fun xs h k e0 => by
  obtain ⟨a0, xs0, rfl, e1⟩ := arg_imp e0
  obtain ⟨rfl, e2⟩ := noArg_imp e1
  exact (s25_eq J0 s18 s33 s50 s58 s59 g63 a0 h k).mpr e2
/-- stagepost/stagepostref23.back -/
noncomputable def g64 : Fun := denF ty (gam J0 []) Try.f64
theorem g64_ok : FunOk Try.prog 64 g64 := fun_ok ty_ok mixed (gam_ok (J := J0) (tab_nil fls_fun)) Try.func64 (fun args w => by simp)
/-- stagepost/stagepostref23.Record -/
noncomputable def s26G (J : Joins) (c19 : AV → H → (AV → Int → H → Prop) → Prop) (c60 : AV → Int → H → (Int → H → Prop) → Prop) (c61 : AV → H → (AV → H → Prop) → Prop) (c62 : AV → Int → H → (Str → H → Prop) → Prop) (c64 : Fun) (a0 : AV) (h : H) (k : AV → Int → H → Prop) : Prop :=
Go.Am.asAgg a0 fun l3 =>
pushK (.cells false 36 l3) h fun n1 h2 =>
pushK (.cells false 45 [(.int .i32 0), (.int .i32 0), (.int .u8 0), (.int .i64 0), (.int .i32 0), (.int .i32 0), (.nils), (.int .i64 0), (.int .i64 0), (.int .i32 0), (.int .i32 0)]) h2 fun n4 h5 =>
ldS (AV.ptr n1 0) h5 fun s6 =>
fB (Bool.not (eqI (Int.ofNat s6.len) (Int.ofNat 9))) fun b7 =>
br b7 (
stN 11 (AV.ptr n4 0) [(.int .i32 0), (.int .i32 0), (.int .u8 0), (.int .i64 0), (.int .i32 0), (.int .i32 0), (.nils), (.int .i64 0), (.int .i64 0), (.int .i32 0), (.int .i32 0)] h5 fun h8 =>
ldN 11 (AV.ptr n4 0) h8 fun l9 =>
k (AV.agg l9) (Int.ofNat 5) h8) (
ldS (AV.ptr n1 1) h5 fun s10 =>
pushK (.cells false 97 [(AV.str s10), (.bool false)]) h5 fun n11 h12 =>
ldS (AV.ptr n1 0) h12 fun s13 =>
subK (AV.str s13) (some (AV.int .i64 (Int.ofNat 1))) (some (AV.int .i64 (Int.ofNat 5))) fun s14 =>
ldS (AV.ptr n1 0) h12 fun s15 =>
subK (AV.str s15) (some (AV.int .i64 (Int.ofNat 5))) none fun s16 =>
pushK (.cells false 45 [(.int .i32 0), (.int .i32 0), (.int .u8 0), (.int .i64 0), (.int .i32 0), (.int .i32 0), (.nils), (.int .i64 0), (.int .i64 0), (.int .i32 0), (.int .i32 0)]) h12 fun n17 h18 =>
c64 [(AV.str s14)] h18 fun v19 h20 =>
asI .i32 v19 fun x21 =>
ck (readsSo (aLoad1 (AV.ptr n1 0) h20) (AV.str s15)) (
c64 [(AV.str s16)] h20 fun v22 h23 =>
asI .i32 v22 fun x24 =>
c60 (AV.ptr n11 0) (Int.ofNat 4) h23 fun x26 h25 =>
fI (wrapF .u8 x26) fun x27 =>
c60 (AV.ptr n11 0) (Int.ofNat 1099511627776) h25 fun x29 h28 =>
ck (Nat.beq (List.length [(AV.int .i32 x21), (AV.int .i32 x24)]) 2) (op' (lputAt 0 [(AV.int .i32 x21), (AV.int .i32 x24)] [(.int .i32 0), (.int .i32 0), (.int .u8 0), (.int .i64 0), (.int .i32 0), (.int .i32 0), (.nils), (.int .i64 0), (.int .i64 0), (.int .i32 0), (.int .i32 0)]) fun l30 =>
op' (lputAt 2 [(AV.int .u8 x27)] l30) fun l31 =>
op' (lputAt 7 [(AV.int .i64 x29)] l31) fun l32 =>
stN 11 (AV.ptr n17 0) l32 h28 fun h33 =>
c61 (AV.ptr n11 0) h33 fun v35 h34 =>
Go.Am.asAgg v35 fun l37 =>
stN 3 (AV.ptr n17 8) l37 h34 fun h36 =>
J.jd (α := AV × AV × AV × AV × Unit) (fun v38 d39 h40 =>
ldN 11 v38.2.2.2.1 h40 fun l42 =>
c19 (AV.agg l42) h40 fun v44 x45 h43 =>
pushK (.cells false 23 [(.str ⟨0, 0⟩), (.str ⟨0, 0⟩), (.bool false)]) h43 fun n46 h47 =>
Go.Am.asAgg v44 fun l49 =>
stN 3 (AV.ptr n46 0) l49 h47 fun h48 =>
okNil v38.2.2.1 (
faK 1 v38.2.2.1 fun p50 =>
ldB p50 h48 fun b51 =>
J.jn (fun v52 h53 =>
J.jn (fun v55 h56 =>
J.jn (fun v58 h59 =>
J.jn (fun v62 h63 =>
J.jn (fun v66 h67 =>
pickB (AV.bool b51) (AV.bool true) v66 fun b71 =>
J.jn (fun v72 h73 =>
J.jn (fun v75 h76 =>
pickB (AV.bool b71) (AV.bool true) v75 fun b80 =>
J.jn (fun v81 h82 =>
J.jn (fun v84 h85 =>
J.jn (fun v88 h89 =>
J.jn (fun v92 h93 =>
J.jn (fun v96 h97 =>
pickB (AV.bool b80) (AV.bool true) v96 fun b102 =>
J.jn (fun v103 h104 =>
J.jn (fun v106 h107 =>
J.jn (fun v110 h111 =>
J.jn (fun v114 h115 =>
J.jn (fun v118 h119 =>
pickB (AV.bool b102) (AV.bool true) v118 fun b124 =>
br b124 (
stN 11 v38.2.1 [(.int .i32 0), (.int .i32 0), (.int .u8 0), (.int .i64 0), (.int .i32 0), (.int .i32 0), (.nils), (.int .i64 0), (.int .i64 0), (.int .i32 0), (.int .i32 0)] h119 fun h125 =>
leaveK (gam J [(19, w19 c19), (60, w60 c60), (61, w61 c61), (62, w62 c62), (64, c64)]) d39 h125 fun h126 =>
ldN 11 v38.2.1 h126 fun l127 =>
k (AV.agg l127) (Int.ofNat 5) h126) (
ldN 11 v38.2.2.2.1 h119 fun l128 =>
stN 11 v38.2.1 l128 h119 fun h129 =>
leaveK (gam J [(19, w19 c19), (60, w60 c60), (61, w61 c61), (62, w62 c62), (64, c64)]) d39 h129 fun h130 =>
ldN 11 v38.2.1 h130 fun l131 =>
k (AV.agg l131) (Int.ofNat 0) h130)) fun j120 =>
br b102 (
j120 skipV h115) (
asS v106 fun s121 =>
asS v114 fun s122 =>
fB (Bool.not (Str.beq s121 s122)) fun b123 =>
j120 (AV.bool b123) h115)) fun j116 =>
br b102 (
j116 skipV h111) (
ldS v110 h111 fun s117 =>
j116 (AV.str s117) h111)) fun j112 =>
br b102 (
j112 skipV h107) (
faK 1 v38.1 fun p113 =>
j112 p113 h107)) fun j108 =>
br b102 (
j108 skipV h104) (
ldS v103 h104 fun s109 =>
j108 (AV.str s109) h104)) fun j105 =>
br b102 (
j105 skipV h97) (
j105 (AV.ptr n46 1) h97)) fun j98 =>
br b80 (
j98 skipV h93) (
asS v84 fun s99 =>
asS v92 fun s100 =>
fB (Bool.not (Str.beq s99 s100)) fun b101 =>
j98 (AV.bool b101) h93)) fun j94 =>
br b80 (
j94 skipV h89) (
ldS v88 h89 fun s95 =>
j94 (AV.str s95) h89)) fun j90 =>
br b80 (
j90 skipV h85) (
faK 0 v38.1 fun p91 =>
j90 p91 h85)) fun j86 =>
br b80 (
j86 skipV h82) (
ldS v81 h82 fun s87 =>
j86 (AV.str s87) h82)) fun j83 =>
br b80 (
j83 skipV h76) (
j83 (AV.ptr n46 0) h76)) fun j77 =>
br b71 (
j77 skipV h73) (
asI .i64 v72 fun x78 =>
fB (Bool.not (eqI x78 (Int.ofNat 0))) fun b79 =>
j77 (AV.bool b79) h73)) fun j74 =>
br b71 (
j74 skipV h67) (
j74 (AV.int .i64 x45) h67)) fun j68 =>
br b51 (
j68 skipV h63) (
asS v62 fun s69 =>
fB (Bool.not (Str.beq s69 (⟨0, 0⟩ : Str))) fun b70 =>
j68 (AV.bool b70) h63)) fun j64 =>
br b51 (
j64 skipV h59) (
ldS v58 h59 fun s65 =>
j64 (AV.str s65) h59)) fun j60 =>
br b51 (
j60 skipV h56) (
faK 0 v55 fun p61 =>
j60 p61 h56)) fun j57 =>
br b51 (
j57 skipV h53) (
okNil v52 (
j57 v52 h53))) fun j54 =>
br b51 (
j54 skipV h48) (
j54 v38.2.2.1 h48))) fun j41 =>
ldI .u8 (AV.ptr n17 2) h36 fun x132 =>
fB (eqI x132 (Int.ofNat 2)) fun b133 =>
J.jn (fun v134 h135 =>
J.jn (fun v137 h138 =>
J.jn (fun v141 h142 =>
pickB (AV.bool b133) (AV.bool true) v141 fun b146 =>
br b146 (
c61 (AV.ptr n11 0) h142 fun v148 h147 =>
Go.Am.asAgg v148 fun l150 =>
stN 3 (AV.ptr n17 3) l150 h147 fun h149 =>
c60 (AV.ptr n11 0) (Int.ofNat 24) h149 fun x152 h151 =>
J.lp (α := AV × AV × AV × AV × AV × Unit) (fun r156 v153 d154 h155 =>
asI .i64 v153.2.2.2.2.1 fun x157 =>
fB (ltI (Int.ofNat 0) x157) fun b158 =>
J.jn (fun v159 h160 =>
J.jn (fun v162 h163 =>
J.jn (fun v165 h166 =>
J.jn (fun v169 h170 =>
J.jn (fun v173 h174 =>
pickB (AV.bool b158) v173 (AV.bool false) fun b178 =>
br b178 (
faK 6 v153.2.2.2.1 fun p179 =>
ldV p179 h174 fun v180 =>
c60 v153.2.2.1 (Int.ofNat 128) h174 fun x182 h181 =>
ck (readsSo (aLoad1 p179 h181) v180) (
c62 v153.2.2.1 x182 h181 fun s184 h183 =>
ck (readsSo (aLoad1 p179 h183) v180) (
pushK (.cells false 9 [(AV.str s184)]) h183 fun n185 h186 =>
apC 9 1 16 v180 (AV.slice n185 0 1 1 1 true) h186 fun v187 h188 =>
faK 6 v153.2.2.2.1 fun p189 =>
stV p189 v187 h188 fun h190 =>
asI .i64 v153.2.2.2.2.1 fun x191 =>
fI (wrapF .i64 (Int.sub x191 (Int.ofNat 1))) fun x192 =>
r156 (v153.1, v153.2.1, v153.2.2.1, v153.2.2.2.1, (AV.int .i64 x192), ()) d154 h190))) (
j41 (v153.1, v153.2.1, v153.2.2.1, v153.2.2.2.1, ()) d154 h174)) fun j175 =>
br b158 (
asB v169 fun b176 =>
fB (Bool.not b176) fun b177 =>
j175 (AV.bool b177) h170) (
j175 skipV h170)) fun j171 =>
br b158 (
ldB v165 h166 fun b172 =>
j171 (AV.bool b172) h166) (
j171 skipV h166)) fun j167 =>
br b158 (
faK 1 v162 fun p168 =>
j167 p168 h163) (
j167 skipV h163)) fun j164 =>
br b158 (
okNil v159 (
j164 v159 h160)) (
j164 skipV h160)) fun j161 =>
br b158 (
j161 v153.2.2.1 h155) (
j161 skipV h155)) ((AV.ptr n1 0), (AV.ptr n4 0), (AV.ptr n11 0), (AV.ptr n17 0), (AV.int .i64 x152), ()) [] h151) (
j41 ((AV.ptr n1 0), (AV.ptr n4 0), (AV.ptr n11 0), (AV.ptr n17 0), ()) [] h142)) fun j143 =>
br b133 (
j143 skipV h138) (
asI .u8 v137 fun x144 =>
fB (eqI x144 (Int.ofNat 3)) fun b145 =>
j143 (AV.bool b145) h138)) fun j139 =>
br b133 (
j139 skipV h135) (
ldI .u8 v134 h135 fun x140 =>
j139 (AV.int .u8 x140) h135)) fun j136 =>
br b133 (
j136 skipV h36) (
j136 (AV.ptr n17 2) h36))))
noncomputable def s26 : AV → H → (AV → Int → H → Prop) → Prop := s26G J0 s19 s60 s61 s62 g64
noncomputable def w26 (c : AV → H → (AV → Int → H → Prop) → Prop) : Fun := fun xs h k => arg xs fun a0 xs => noArg xs <| c a0 h fun r0 r1 h => k (.tuple [r0, (.int .i64 r1)]) h
theorem s26_eq (J : Joins) (c19 : AV → H → (AV → Int → H → Prop) → Prop) (c60 : AV → Int → H → (Int → H → Prop) → Prop) (c61 : AV → H → (AV → H → Prop) → Prop) (c62 : AV → Int → H → (Str → H → Prop) → Prop) (c64 : Fun) (a0 : AV) (h : H) (k : AV → H → Prop) : denF ty (gam J [(19, w19 c19), (60, w60 c60), (61, w61 c61), (62, w62 c62), (64, c64)]) Try.f26 [a0] h k = s26G J c19 c60 c61 c62 c64 a0 h (fun r0 r1 h => k (.tuple [r0, (.int .i64 r1)]) h) := by kernel_rfl
noncomputable def g26 : Fun := w26 s26
theorem g26_ok : FunOk Try.prog 26 g26 := (fun_ok ty_ok mixed (gam_ok (J := J0) (tab_cons g19_ok (tab_cons g60_ok (tab_cons g61_ok (tab_cons g62_ok (tab_cons g64_ok (tab_nil fls_fun))))))) Try.func26 (fun args w => by simp)).imp fun xs h k e0 => by
  obtain ⟨a0, xs0, rfl, e1⟩ := arg_imp e0
  obtain ⟨rfl, e2⟩ := noArg_imp e1
  exact (s26_eq J0 s19 s60 s61 s62 g64 a0 h k).mpr e2
/-- stagepost/stagepostref22.sames -/
noncomputable def s65G (J : Joins) (a0 : AV) (a1 : AV) (h : H) (k : Bool → H → Prop) : Prop :=
lenK a0 fun x1 =>
lenK a1 fun x2 =>
fB (Bool.not (eqI (Int.ofNat x1) (Int.ofNat x2))) fun b3 =>
br b3 (
k false h) (
J.lp (α := AV × AV × AV × Unit) (fun r7 v4 d5 h6 =>
lenK v4.1 fun x8 =>
asI .i64 v4.2.2.1 fun x9 =>
fB (ltI x9 (Int.ofNat x8)) fun b10 =>
br b10 (
ixK 1 v4.1 v4.2.2.1 fun p11 =>
ldS p11 h6 fun s12 =>
ixK 1 v4.2.1 v4.2.2.1 fun p13 =>
ldS p13 h6 fun s14 =>
fB (Bool.not (Str.beq s12 s14)) fun b15 =>
br b15 (
leaveK (gam J []) d5 h6 fun h16 =>
k false h16) (
asI .i64 v4.2.2.1 fun x17 =>
fI (wrapF .i64 (Int.add x17 (Int.ofNat 1))) fun x18 =>
r7 (v4.1, v4.2.1, (AV.int .i64 x18), ()) d5 h6)) (
leaveK (gam J []) d5 h6 fun h19 =>
k true h19)) (a0, a1, (AV.int .i64 (Int.ofNat 0)), ()) [] h)
noncomputable def s65 : AV → AV → H → (Bool → H → Prop) → Prop := s65G J0 
noncomputable def w65 (c : AV → AV → H → (Bool → H → Prop) → Prop) : Fun := fun xs h k => arg xs fun a0 xs => arg xs fun a1 xs => noArg xs <| c a0 a1 h fun r0 h => k (.bool r0) h
theorem s65_eq (J : Joins) (a0 : AV) (a1 : AV) (h : H) (k : AV → H → Prop) : denF ty (gam J []) Try.f65 [a0, a1] h k = s65G J  a0 a1 h (fun r0 h => k (.bool r0) h) := by kernel_rfl
noncomputable def g65 : Fun := w65 s65
theorem g65_ok : FunOk Try.prog 65 g65 := (fun_ok ty_ok mixed (gam_ok (J := J0) (tab_nil fls_fun)) Try.func65 (fun args w => by simp)).imp fun xs h k e0 => by
  obtain ⟨a0, xs0, rfl, e1⟩ := arg_imp e0
  obtain ⟨a1, xs1, rfl, e2⟩ := arg_imp e1
  obtain ⟨rfl, e3⟩ := noArg_imp e2
  exact (s65_eq J0  a0 a1 h k).mpr e3
/-- stagepost/stagepostref22.Same -/
noncomputable def s27G (J : Joins) (c65 : AV → AV → H → (Bool → H → Prop) → Prop) (a0 : AV) (a1 : AV) (h : H) (k : Bool → H → Prop) : Prop :=
Go.Am.asAgg a0 fun l3 =>
pushK (.cells false 45 l3) h fun n1 h2 =>
Go.Am.asAgg a1 fun l6 =>
pushK (.cells false 45 l6) h2 fun n4 h5 =>
ldN 2 (AV.ptr n1 0) h5 fun l7 =>
ldN 2 (AV.ptr n4 0) h5 fun l8 =>
obK (aBin ty .eql 39 false (AV.agg l7) (AV.agg l8)) fun b9 =>
J.jn (fun v10 h11 =>
J.jn (fun v13 h14 =>
J.jn (fun v17 h18 =>
J.jn (fun v20 h21 =>
J.jn (fun v24 h25 =>
pickB (AV.bool b9) v24 (AV.bool false) fun b30 =>
J.jn (fun v31 h32 =>
J.jn (fun v34 h35 =>
J.jn (fun v38 h39 =>
J.jn (fun v41 h42 =>
J.jn (fun v45 h46 =>
pickB (AV.bool b30) v45 (AV.bool false) fun b49 =>
J.jn (fun v50 h51 =>
J.jn (fun v53 h54 =>
J.jn (fun v57 h58 =>
J.jn (fun v60 h61 =>
J.jn (fun v64 h65 =>
pickB (AV.bool b49) v64 (AV.bool false) fun b69 =>
J.jn (fun v70 h71 =>
J.jn (fun v73 h74 =>
J.jn (fun v77 h78 =>
J.jn (fun v80 h81 =>
J.jn (fun v84 h85 =>
pickB (AV.bool b69) v84 (AV.bool false) fun b90 =>
J.jn (fun v91 h92 =>
J.jn (fun v94 h95 =>
J.jn (fun v98 h99 =>
J.jn (fun v101 h102 =>
J.jn (fun v105 h106 =>
pickB (AV.bool b90) v105 (AV.bool false) fun b109 =>
k b109 h106) fun j107 =>
br b90 (
obK (aBin ty .eql 28 false v94 v101) fun b108 =>
j107 (AV.bool b108) h102) (
j107 skipV h102)) fun j103 =>
br b90 (
ldN 3 v98 h99 fun l104 =>
j103 (AV.agg l104) h99) (
j103 skipV h99)) fun j100 =>
br b90 (
j100 (AV.ptr n4 8) h95) (
j100 skipV h95)) fun j96 =>
br b90 (
ldN 3 v91 h92 fun l97 =>
j96 (AV.agg l97) h92) (
j96 skipV h92)) fun j93 =>
br b90 (
j93 (AV.ptr n1 8) h85) (
j93 skipV h85)) fun j86 =>
br b69 (
asI .i64 v73 fun x87 =>
asI .i64 v80 fun x88 =>
fB (eqI x87 x88) fun b89 =>
j86 (AV.bool b89) h81) (
j86 skipV h81)) fun j82 =>
br b69 (
ldI .i64 v77 h78 fun x83 =>
j82 (AV.int .i64 x83) h78) (
j82 skipV h78)) fun j79 =>
br b69 (
j79 (AV.ptr n4 7) h74) (
j79 skipV h74)) fun j75 =>
br b69 (
ldI .i64 v70 h71 fun x76 =>
j75 (AV.int .i64 x76) h71) (
j75 skipV h71)) fun j72 =>
br b69 (
j72 (AV.ptr n1 7) h65) (
j72 skipV h65)) fun j66 =>
br b49 (
c65 v53 v60 h61 fun b68 h67 =>
j66 (AV.bool b68) h67) (
j66 skipV h61)) fun j62 =>
br b49 (
ldV v57 h58 fun v63 =>
j62 v63 h58) (
j62 skipV h58)) fun j59 =>
br b49 (
j59 (AV.ptr n4 6) h54) (
j59 skipV h54)) fun j55 =>
br b49 (
ldV v50 h51 fun v56 =>
j55 v56 h51) (
j55 skipV h51)) fun j52 =>
br b49 (
j52 (AV.ptr n1 6) h46) (
j52 skipV h46)) fun j47 =>
br b30 (
obK (aBin ty .eql 28 false v34 v41) fun b48 =>
j47 (AV.bool b48) h42) (
j47 skipV h42)) fun j43 =>
br b30 (
ldN 3 v38 h39 fun l44 =>
j43 (AV.agg l44) h39) (
j43 skipV h39)) fun j40 =>
br b30 (
j40 (AV.ptr n4 3) h35) (
j40 skipV h35)) fun j36 =>
br b30 (
ldN 3 v31 h32 fun l37 =>
j36 (AV.agg l37) h32) (
j36 skipV h32)) fun j33 =>
br b30 (
j33 (AV.ptr n1 3) h25) (
j33 skipV h25)) fun j26 =>
br b9 (
asI .u8 v13 fun x27 =>
asI .u8 v20 fun x28 =>
fB (eqI x27 x28) fun b29 =>
j26 (AV.bool b29) h21) (
j26 skipV h21)) fun j22 =>
br b9 (
ldI .u8 v17 h18 fun x23 =>
j22 (AV.int .u8 x23) h18) (
j22 skipV h18)) fun j19 =>
br b9 (
j19 (AV.ptr n4 2) h14) (
j19 skipV h14)) fun j15 =>
br b9 (
ldI .u8 v10 h11 fun x16 =>
j15 (AV.int .u8 x16) h11) (
j15 skipV h11)) fun j12 =>
br b9 (
j12 (AV.ptr n1 2) h5) (
j12 skipV h5)
noncomputable def s27 : AV → AV → H → (Bool → H → Prop) → Prop := s27G J0 s65
noncomputable def w27 (c : AV → AV → H → (Bool → H → Prop) → Prop) : Fun := fun xs h k => arg xs fun a0 xs => arg xs fun a1 xs => noArg xs <| c a0 a1 h fun r0 h => k (.bool r0) h
theorem s27_eq (J : Joins) (c65 : AV → AV → H → (Bool → H → Prop) → Prop) (a0 : AV) (a1 : AV) (h : H) (k : AV → H → Prop) : denF ty (gam J [(65, w65 c65)]) Try.f27 [a0, a1] h k = s27G J c65 a0 a1 h (fun r0 h => k (.bool r0) h) := by kernel_rfl
noncomputable def g27 : Fun := w27 s27
theorem g27_ok : FunOk Try.prog 27 g27 := (fun_ok ty_ok mixed (gam_ok (J := J0) (tab_cons g65_ok (tab_nil fls_fun))) Try.func27 (fun args w => by simp)).imp fun xs h k e0 => by
  obtain ⟨a0, xs0, rfl, e1⟩ := arg_imp e0
  obtain ⟨a1, xs1, rfl, e2⟩ := arg_imp e1
  obtain ⟨rfl, e3⟩ := noArg_imp e2
  exact (s27_eq J0 s65 a0 a1 h k).mpr e3
/-- stagepost/stagepostlaw23.MvccReads -/
noncomputable def s5G (J : Joins) (c9 : H → (Bool → H → Prop) → Prop) (c10 : AV → H → (AV → Int → H → Prop) → Prop) (c22 : AV → H → (AV → Int → H → Prop) → Prop) (c23 : AV → H → (AV → Int → H → Prop) → Prop) (c24 : AV → H → (AV → Int → H → Prop) → Prop) (c25 : AV → H → (AV → Int → H → Prop) → Prop) (c26 : AV → H → (AV → Int → H → Prop) → Prop) (c27 : AV → AV → H → (Bool → H → Prop) → Prop) (a0 : AV) (h : H) (k : Bool → H → Prop) : Prop :=
Go.Am.asAgg a0 fun l3 =>
pushK (.cells false 36 l3) h fun n1 h2 =>
ldN 2 (AV.ptr n1 0) h2 fun l4 =>
c10 (AV.agg l4) h2 fun v6 x7 h5 =>
pushK (.cells false 31 [(.str ⟨0, 0⟩), (.int .i64 0), (.int .i32 0), (.int .i32 0), (.str ⟨0, 0⟩), (.bool false)]) h5 fun n8 h9 =>
Go.Am.asAgg v6 fun l11 =>
stN 6 (AV.ptr n8 0) l11 h9 fun h10 =>
ldN 2 (AV.ptr n1 0) h10 fun l12 =>
c22 (AV.agg l12) h10 fun v14 x15 h13 =>
pushK (.cells false 31 [(.str ⟨0, 0⟩), (.int .i64 0), (.int .i32 0), (.int .i32 0), (.str ⟨0, 0⟩), (.bool false)]) h13 fun n16 h17 =>
Go.Am.asAgg v14 fun l19 =>
stN 6 (AV.ptr n16 0) l19 h17 fun h18 =>
ldN 2 (AV.ptr n1 0) h18 fun l20 =>
c23 (AV.agg l20) h18 fun v22 x23 h21 =>
pushK (.cells false 41 [(.str ⟨0, 0⟩), (.int .i32 0), (.int .i32 0), (.int .i64 0), (.int .i32 0), (.int .i32 0), (.str ⟨0, 0⟩), (.int .i64 0), (.int .i32 0), (.int .i32 0), (.str ⟨0, 0⟩), (.bool false)]) h21 fun n24 h25 =>
Go.Am.asAgg v22 fun l27 =>
stN 12 (AV.ptr n24 0) l27 h25 fun h26 =>
ldN 2 (AV.ptr n1 0) h26 fun l28 =>
c24 (AV.agg l28) h26 fun v30 x31 h29 =>
pushK (.cells false 41 [(.str ⟨0, 0⟩), (.int .i32 0), (.int .i32 0), (.int .i64 0), (.int .i32 0), (.int .i32 0), (.str ⟨0, 0⟩), (.int .i64 0), (.int .i32 0), (.int .i32 0), (.str ⟨0, 0⟩), (.bool false)]) h29 fun n32 h33 =>
Go.Am.asAgg v30 fun l35 =>
stN 12 (AV.ptr n32 0) l35 h33 fun h34 =>
ldN 2 (AV.ptr n1 0) h34 fun l36 =>
c25 (AV.agg l36) h34 fun v38 x39 h37 =>
pushK (.cells false 45 [(.int .i32 0), (.int .i32 0), (.int .u8 0), (.int .i64 0), (.int .i32 0), (.int .i32 0), (.nils), (.int .i64 0), (.int .i64 0), (.int .i32 0), (.int .i32 0)]) h37 fun n40 h41 =>
Go.Am.asAgg v38 fun l43 =>
stN 11 (AV.ptr n40 0) l43 h41 fun h42 =>
ldN 2 (AV.ptr n1 0) h42 fun l44 =>
c26 (AV.agg l44) h42 fun v46 x47 h45 =>
pushK (.cells false 45 [(.int .i32 0), (.int .i32 0), (.int .u8 0), (.int .i64 0), (.int .i32 0), (.int .i32 0), (.nils), (.int .i64 0), (.int .i64 0), (.int .i32 0), (.int .i32 0)]) h45 fun n48 h49 =>
Go.Am.asAgg v46 fun l51 =>
stN 11 (AV.ptr n48 0) l51 h49 fun h50 =>
c9  h50 fun b53 h52 =>
J.jn (fun v54 h55 =>
J.jn (fun v58 h59 =>
J.jn (fun v62 h63 =>
pickB (AV.bool b53) v62 (AV.bool false) fun b66 =>
J.jn (fun v67 h68 =>
J.jn (fun v70 h71 =>
J.jn (fun v73 h74 =>
pickB (AV.bool b66) v73 (AV.bool false) fun b79 =>
J.jn (fun v80 h81 =>
J.jn (fun v84 h85 =>
J.jn (fun v88 h89 =>
pickB (AV.bool b79) v88 (AV.bool false) fun b92 =>
J.jn (fun v93 h94 =>
J.jn (fun v96 h97 =>
J.jn (fun v99 h100 =>
pickB (AV.bool b92) v99 (AV.bool false) fun b105 =>
J.jn (fun v106 h107 =>
J.jn (fun v110 h111 =>
J.jn (fun v114 h115 =>
pickB (AV.bool b105) v114 (AV.bool false) fun b119 =>
J.jn (fun v120 h121 =>
J.jn (fun v123 h124 =>
J.jn (fun v126 h127 =>
pickB (AV.bool b119) v126 (AV.bool false) fun b132 =>
k b132 h127) fun j128 =>
br b119 (
asI .i64 v120 fun x129 =>
asI .i64 v123 fun x130 =>
fB (eqI x129 x130) fun b131 =>
j128 (AV.bool b131) h124) (
j128 skipV h124)) fun j125 =>
br b119 (
j125 (AV.int .i64 x47) h121) (
j125 skipV h121)) fun j122 =>
br b119 (
j122 (AV.int .i64 x39) h115) (
j122 skipV h115)) fun j116 =>
br b105 (
c27 v106 v110 h111 fun b118 h117 =>
j116 (AV.bool b118) h117) (
j116 skipV h111)) fun j112 =>
br b105 (
ldN 11 (AV.ptr n48 0) h107 fun l113 =>
j112 (AV.agg l113) h107) (
j112 skipV h107)) fun j108 =>
br b105 (
ldN 11 (AV.ptr n40 0) h100 fun l109 =>
j108 (AV.agg l109) h100) (
j108 skipV h100)) fun j101 =>
br b92 (
asI .i64 v93 fun x102 =>
asI .i64 v96 fun x103 =>
fB (eqI x102 x103) fun b104 =>
j101 (AV.bool b104) h97) (
j101 skipV h97)) fun j98 =>
br b92 (
j98 (AV.int .i64 x31) h94) (
j98 skipV h94)) fun j95 =>
br b92 (
j95 (AV.int .i64 x23) h89) (
j95 skipV h89)) fun j90 =>
br b79 (
obK (aBin ty .eql 41 false v80 v84) fun b91 =>
j90 (AV.bool b91) h85) (
j90 skipV h85)) fun j86 =>
br b79 (
ldN 12 (AV.ptr n32 0) h81 fun l87 =>
j86 (AV.agg l87) h81) (
j86 skipV h81)) fun j82 =>
br b79 (
ldN 12 (AV.ptr n24 0) h74 fun l83 =>
j82 (AV.agg l83) h74) (
j82 skipV h74)) fun j75 =>
br b66 (
asI .i64 v67 fun x76 =>
asI .i64 v70 fun x77 =>
fB (eqI x76 x77) fun b78 =>
j75 (AV.bool b78) h71) (
j75 skipV h71)) fun j72 =>
br b66 (
j72 (AV.int .i64 x15) h68) (
j72 skipV h68)) fun j69 =>
br b66 (
j69 (AV.int .i64 x7) h63) (
j69 skipV h63)) fun j64 =>
br b53 (
obK (aBin ty .eql 31 false v54 v58) fun b65 =>
j64 (AV.bool b65) h59) (
j64 skipV h59)) fun j60 =>
br b53 (
ldN 6 (AV.ptr n16 0) h55 fun l61 =>
j60 (AV.agg l61) h55) (
j60 skipV h55)) fun j56 =>
br b53 (
ldN 6 (AV.ptr n8 0) h52 fun l57 =>
j56 (AV.agg l57) h52) (
j56 skipV h52)
noncomputable def s5 : AV → H → (Bool → H → Prop) → Prop := s5G J0 s9 s10 s22 s23 s24 s25 s26 s27
noncomputable def w5 (c : AV → H → (Bool → H → Prop) → Prop) : Fun := fun xs h k => arg xs fun a0 xs => noArg xs <| c a0 h fun r0 h => k (.bool r0) h
theorem s5_eq (J : Joins) (c9 : H → (Bool → H → Prop) → Prop) (c10 : AV → H → (AV → Int → H → Prop) → Prop) (c22 : AV → H → (AV → Int → H → Prop) → Prop) (c23 : AV → H → (AV → Int → H → Prop) → Prop) (c24 : AV → H → (AV → Int → H → Prop) → Prop) (c25 : AV → H → (AV → Int → H → Prop) → Prop) (c26 : AV → H → (AV → Int → H → Prop) → Prop) (c27 : AV → AV → H → (Bool → H → Prop) → Prop) (a0 : AV) (h : H) (k : AV → H → Prop) : denF ty (gam J [(9, w9 c9), (10, w10 c10), (22, w22 c22), (23, w23 c23), (24, w24 c24), (25, w25 c25), (26, w26 c26), (27, w27 c27)]) Try.f5 [a0] h k = s5G J c9 c10 c22 c23 c24 c25 c26 c27 a0 h (fun r0 h => k (.bool r0) h) := by kernel_rfl
noncomputable def g5 : Fun := w5 s5
theorem g5_ok : FunOk Try.prog 5 g5 := (fun_ok ty_ok mixed (gam_ok (J := J0) (tab_cons g9_ok (tab_cons g10_ok (tab_cons g22_ok (tab_cons g23_ok (tab_cons g24_ok (tab_cons g25_ok (tab_cons g26_ok (tab_cons g27_ok (tab_nil fls_fun)))))))))) Try.func5 (fun args w => by simp)).imp fun xs h k e0 => by
  obtain ⟨a0, xs0, rfl, e1⟩ := arg_imp e0
  obtain ⟨rfl, e2⟩ := noArg_imp e1
  exact (s5_eq J0 s9 s10 s22 s23 s24 s25 s26 s27 a0 h k).mpr e2
end Go.Proofs.Ytlbigopkplckaaa
