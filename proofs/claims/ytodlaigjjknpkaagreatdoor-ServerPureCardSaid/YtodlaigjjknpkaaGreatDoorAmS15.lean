import Derived.Test.YtodlaigjjknpkaaGreatDoorAmS14
noncomputable section
namespace Go.Proofs.YtodlaigjjknpkaaGreatDoor
open Go Go.Am
set_option maxRecDepth 100000
set_option linter.all false
def g15 : Fun:=Ql ty (gam J0 []) Tryz.f15
theorem Qfz : Qe Tryz.prog 15 g15:=Qf Qi Qj (Qg (J:=J0) (Qc Qd)) Tryz.func15 (fun args w=>by simp)
def g39 : Fun:=Ql ty (gam J0 [(33,g33),(78,g78)]) Tryz.f39
theorem g39_ok : Qe Tryz.prog 39 g39:=Qf Qi Qj (Qg (J:=J0) (Qa Qfm (Qa NJ (Qc Qd)))) Tryz.func39 (fun args w=>by simp)
def g14 : Fun:=Ql ty (gam J0 [(15,g15),(39,g39)]) Tryz.f14
theorem g14_ok : Qe Tryz.prog 14 g14:=Qf Qi Qj (Qg (J:=J0) (Qa Qfz (Qa g39_ok (Qc Qd)))) Tryz.func14 (fun args w=>by simp)
def g16 : Fun:=Ql ty (gam J0 []) Tryz.f16
theorem g16_ok : Qe Tryz.prog 16 g16:=Qf Qi Qj (Qg (J:=J0) (Qc Qd)) Tryz.func16 (fun args w=>by simp)
def g4 : Fun:=Ql ty (gam J0 [(12,g12),(13,g13),(14,g14),(15,g15),(16,g16)]) Tryz.f4
theorem g4_ok : Qe Tryz.prog 4 g4:=Qf Qi Qj (Qg (J:=J0) (Qa g12_ok (Qa g13_ok (Qa g14_ok (Qa Qfz (Qa g16_ok (Qc Qd))))))) Tryz.func4 (fun args w=>by simp)
def s5G (J : Qm) (a0 : AV) (h : H) (k : Bool→H→Prop) : Prop :=
J.lp (α:=AV × AV × Unit) (fun r4 v1 d2 h3=>
Q6 v1.1 fun x5=>
asI .i64 v1.2.1 fun x6=>
fB (ltI x6 (Int.ofNat x5)) fun b7=>
br b7 (
ixK 46 v1.1 v1.2.1 fun p8=>
faK 1 p8 fun p9=>
ldN 42 p9 h3 fun l10=>
Qs (.cells false 40 [(.int .i64 0),(.int .i64 0),(.int .i64 0),(.int .i32 0),(.int .i32 0),(.int .i64 0),(.int .i32 0),(.int .i32 0),(.int .i64 0),(.int .i32 0),(.int .i32 0),(.int .i64 0),(.int .i32 0),(.int .i32 0),(.str ⟨0,0⟩),(.str ⟨0,0⟩),(.str ⟨0,0⟩),(.int .i64 0),(.int .i32 0),(.int .i32 0),(.int .i64 0),(.int .i32 0),(.int .i32 0),(.int .i64 0),(.int .i32 0),(.int .i32 0),(.nils),(.nils),(.bool false),(.bool false),(.int .i32 0),(.int .i32 0),(.int .u8 0),(.int .i64 0),(.int .i32 0),(.int .i32 0),(.nils),(.int .i64 0),(.int .i64 0),(.int .i32 0),(.int .i32 0),(.nils)]) h3 fun n11 h12=>
stN 42 (AV.ptr n11 0) l10 h12 fun h13=>
ldV (AV.ptr n11 26) h13 fun v14=>
Q6 v14 fun x15=>
fB (ltI (Int.ofNat 70) (Int.ofNat x15)) fun b16=>
J.jn (fun v17 h18=>
J.jn (fun v20 h21=>
J.jn (fun v24 h25=>
J.jn (fun v28 h29=>
Qo (AV.bool b16) (AV.bool true) v28 fun b33=>
J.jn (fun v34 h35=>
J.jn (fun v37 h38=>
J.jn (fun v41 h42=>
J.jn (fun v45 h46=>
Qo (AV.bool b33) (AV.bool true) v45 fun b50=>
J.jn (fun v51 h52=>
J.jn (fun v54 h55=>
J.jn (fun v58 h59=>
J.jn (fun v62 h63=>
J.jn (fun v66 h67=>
Qo (AV.bool b50) (AV.bool true) v66 fun b71=>
J.jn (fun v72 h73=>
J.jn (fun v75 h76=>
J.jn (fun v79 h80=>
J.jn (fun v83 h84=>
J.jn (fun v87 h88=>
Qo (AV.bool b71) (AV.bool true) v87 fun b92=>
J.jn (fun v93 h94=>
J.jn (fun v96 h97=>
J.jn (fun v100 h101=>
J.jn (fun v104 h105=>
J.jn (fun v108 h109=>
Qo (AV.bool b92) (AV.bool true) v108 fun b113=>
br b113 (
Qr (gam J []) d2 h109 fun h114=>
k false h114) (
asI .i64 v1.2.1 fun x115=>
fI (Qu .i64 (Int.add x115 (Int.ofNat 1))) fun x116=>
r4 (v1.1,(AV.int .i64 x116),()) d2 h109)) fun j110=>
br b92 (
j110 Qb h105) (
asI .i64 v104 fun x111=>
fB (ltI (Int.ofNat 1000) x111) fun b112=>
j110 (AV.bool b112) h105)) fun j106=>
br b92 (
j106 Qb h101) (
asS v100 fun s107=>
j106 (AV.int .i64 (Int.ofNat s107.len)) h101)) fun j102=>
br b92 (
j102 Qb h97) (
ldS v96 h97 fun s103=>
j102 (AV.str s103) h97)) fun j98=>
br b92 (
j98 Qb h94) (
faK 1 v93 fun p99=>
j98 p99 h94)) fun j95=>
br b92 (
j95 Qb h88) (
j95 (AV.ptr n11 15) h88)) fun j89=>
br b71 (
j89 Qb h84) (
asI .i64 v83 fun x90=>
fB (ltI (Int.ofNat 1000) x90) fun b91=>
j89 (AV.bool b91) h84)) fun j85=>
br b71 (
j85 Qb h80) (
asS v79 fun s86=>
j85 (AV.int .i64 (Int.ofNat s86.len)) h80)) fun j81=>
br b71 (
j81 Qb h76) (
ldS v75 h76 fun s82=>
j81 (AV.str s82) h76)) fun j77=>
br b71 (
j77 Qb h73) (
faK 0 v72 fun p78=>
j77 p78 h73)) fun j74=>
br b71 (
j74 Qb h67) (
j74 (AV.ptr n11 15) h67)) fun j68=>
br b50 (
j68 Qb h63) (
asI .i64 v62 fun x69=>
fB (ltI (Int.ofNat 70) x69) fun b70=>
j68 (AV.bool b70) h63)) fun j64=>
br b50 (
j64 Qb h59) (
Q6 v58 fun x65=>
j64 (AV.int .i64 (Int.ofNat x65)) h59)) fun j60=>
br b50 (
j60 Qb h55) (
ldV v54 h55 fun v61=>
j60 v61 h55)) fun j56=>
br b50 (
j56 Qb h52) (
faK 6 v51 fun p57=>
j56 p57 h52)) fun j53=>
br b50 (
j53 Qb h46) (
j53 (AV.ptr n11 30) h46)) fun j47=>
br b33 (
j47 Qb h42) (
asI .i64 v41 fun x48=>
fB (ltI (Int.ofNat 70) x48) fun b49=>
j47 (AV.bool b49) h42)) fun j43=>
br b33 (
j43 Qb h38) (
Q6 v37 fun x44=>
j43 (AV.int .i64 (Int.ofNat x44)) h38)) fun j39=>
br b33 (
j39 Qb h35) (
ldV v34 h35 fun v40=>
j39 v40 h35)) fun j36=>
br b33 (
j36 Qb h29) (
j36 (AV.ptr n11 41) h29)) fun j30=>
br b16 (
j30 Qb h25) (
asI .i64 v24 fun x31=>
fB (ltI (Int.ofNat 70) x31) fun b32=>
j30 (AV.bool b32) h25)) fun j26=>
br b16 (
j26 Qb h21) (
Q6 v20 fun x27=>
j26 (AV.int .i64 (Int.ofNat x27)) h21)) fun j22=>
br b16 (
j22 Qb h18) (
ldV v17 h18 fun v23=>
j22 v23 h18)) fun j19=>
br b16 (
j19 Qb h13) (
j19 (AV.ptr n11 27) h13)) (
Q6 v1.1 fun x117=>
fB (Bool.not (ltI (Int.ofNat 40) (Int.ofNat x117))) fun b118=>
Qr (gam J []) d2 h3 fun h119=>
k b118 h119)) (a0,(AV.int .i64 (Int.ofNat 0)),()) [] h
def s5 : AV→H→(Bool→H→Prop)→Prop:=s5G J0
def w5 (c : AV→H→(Bool→H→Prop)→Prop) : Fun:=fun xs h k=>arg xs fun a0 xs=>QB xs <| c a0 h fun r0 h=>k (.bool r0) h
theorem s5_eq (J : Qm) (a0 : AV) (h : H) (k : AV→H→Prop) : Ql ty (gam J []) Tryz.f5 [a0] h k = s5G J  a0 h (fun r0 h=>k (.bool r0) h):=by kernel_rfl
def g5 : Fun:=w5 s5
theorem g5_ok : Qe Tryz.prog 5 g5:=(Qf Qi Qj (Qg (J:=J0) (Qc Qd)) Tryz.func5 (fun args w=>by simp)).imp fun xs h k e0=>by
  obtain ⟨a0,xs0,rfl,e1⟩:=Qp e0
  obtain ⟨rfl,e2⟩:=Qt e1
  exact (s5_eq J0  a0 h k).mpr e2
def s26G (J : Qm) (a0 : AV) (h : H) (k : Int→H→Prop) : Prop :=
Q6 a0 fun x1=>
fB (ltI (Int.ofNat 15) (Int.ofNat x1)) fun b2=>
br b2 (
k (Int.ofNat 3) h) (
J.lp (α:=AV × AV × Unit) (fun r6 v3 d4 h5=>
Q6 v3.1 fun x7=>
asI .i64 v3.2.1 fun x8=>
fB (ltI x8 (Int.ofNat x7)) fun b9=>
br b9 (
ixK 1 v3.1 v3.2.1 fun p10=>
ldS p10 h5 fun s11=>
fB (Str.beq s11 (⟨0,0⟩ : Str)) fun b12=>
br b12 (
Qr (gam J []) d4 h5 fun h13=>
k (Int.ofNat 2) h13) (
asI .i64 v3.2.1 fun x14=>
fI (Qu .i64 (Int.add x14 (Int.ofNat 1))) fun x15=>
r6 (v3.1,(AV.int .i64 x15),()) d4 h5)) (
J.lp (α:=AV × AV × Unit) (fun r19 v16 d17 h18=>
Q6 v16.1 fun x20=>
asI .i64 v16.2.1 fun x21=>
fB (ltI x21 (Int.ofNat x20)) fun b22=>
br b22 (
ixK 1 v16.1 v16.2.1 fun p23=>
ldS p23 h18 fun s24=>
asI .i64 v16.2.1 fun x25=>
fI (Qu .i64 (Int.sub x25 (Int.ofNat 1))) fun x26=>
ixK 1 v16.1 (AV.int .i64 x26) fun p27=>
ldS p27 h18 fun s28=>
fB (Bool.not (Str.lt s28 s24)) fun b29=>
br b29 (
Qr (gam J []) d17 h18 fun h30=>
k (Int.ofNat 10) h30) (
asI .i64 v16.2.1 fun x31=>
fI (Qu .i64 (Int.add x31 (Int.ofNat 1))) fun x32=>
r19 (v16.1,(AV.int .i64 x32),()) d17 h18)) (
Qr (gam J []) d17 h18 fun h33=>
k (Int.ofNat 0) h33)) (v3.1,(AV.int .i64 (Int.ofNat 1)),()) d4 h5)) (a0,(AV.int .i64 (Int.ofNat 0)),()) [] h)
def s26 : AV→H→(Int→H→Prop)→Prop:=s26G J0
def w26 (c : AV→H→(Int→H→Prop)→Prop) : Fun:=fun xs h k=>arg xs fun a0 xs=>QB xs <| c a0 h fun r0 h=>k (.int .i64 r0) h
theorem s26_eq (J : Qm) (a0 : AV) (h : H) (k : AV→H→Prop) : Ql ty (gam J []) Tryz.f26 [a0] h k = s26G J  a0 h (fun r0 h=>k (.int .i64 r0) h):=by kernel_rfl
def s27G (J : Qm) (a0 : AV) (h : H) (k : Int→H→Prop) : Prop :=
Go.Am.asAgg a0 fun l3=>
Qs (.cells false 25 l3) h fun n1 h2=>
J.lp (α:=AV × AV × Unit) (fun r7 v4 d5 h6=>
faK 0 v4.1 fun p8=>
ldV p8 h6 fun v9=>
Q6 v9 fun x10=>
asI .i64 v4.2.1 fun x11=>
fB (ltI x11 (Int.ofNat x10)) fun b12=>
br b12 (
faK 0 v4.1 fun p13=>
ldV p13 h6 fun v14=>
ixK 1 v14 v4.2.1 fun p15=>
ldI .i64 p15 h6 fun x16=>
fB (ltI x16 (Int.ofNat 1)) fun b17=>
J.jn (fun v18 h19=>
J.jn (fun v22 h23=>
J.jn (fun v26 h27=>
J.jn (fun v29 h30=>
J.jn (fun v33 h34=>
J.jn (fun v37 h38=>
Qo (AV.bool b17) (AV.bool true) v37 fun b42=>
br b42 (
Qr (gam J []) d5 h38 fun h43=>
k (Int.ofNat 2) h43) (
asI .i64 v4.2.1 fun x44=>
fI (Qu .i64 (Int.add x44 (Int.ofNat 1))) fun x45=>
r7 (v4.1,(AV.int .i64 x45),()) d5 h38)) fun j39=>
br b17 (
j39 Qb h34) (
asI .i64 v33 fun x40=>
fB (ltI (Int.ofNat 12) x40) fun b41=>
j39 (AV.bool b41) h34)) fun j35=>
br b17 (
j35 Qb h30) (
ldI .i64 v29 h30 fun x36=>
j35 (AV.int .i64 x36) h30)) fun j31=>
br b17 (
j31 Qb h27) (
ixK 1 v22 v26 fun p32=>
j31 p32 h27)) fun j28=>
br b17 (
j28 Qb h23) (
j28 v4.2.1 h23)) fun j24=>
br b17 (
j24 Qb h19) (
ldV v18 h19 fun v25=>
j24 v25 h19)) fun j20=>
br b17 (
j20 Qb h6) (
faK 0 v4.1 fun p21=>
j20 p21 h6)) (
faK 1 v4.1 fun p46=>
ldI .i64 p46 h6 fun x47=>
fB (ltI x47 (Int.ofNat 1)) fun b48=>
J.jn (fun v49 h50=>
J.jn (fun v53 h54=>
J.jn (fun v57 h58=>
Qo (AV.bool b48) (AV.bool true) v57 fun b62=>
J.jn (fun v63 h64=>
J.jn (fun v67 h68=>
J.jn (fun v71 h72=>
Qo (AV.bool b62) (AV.bool true) v71 fun b76=>
J.jn (fun v77 h78=>
J.jn (fun v81 h82=>
J.jn (fun v85 h86=>
Qo (AV.bool b76) (AV.bool true) v85 fun b90=>
J.jn (fun v91 h92=>
J.jn (fun v95 h96=>
J.jn (fun v99 h100=>
Qo (AV.bool b90) (AV.bool true) v99 fun b104=>
J.jn (fun v105 h106=>
J.jn (fun v109 h110=>
J.jn (fun v113 h114=>
Qo (AV.bool b104) (AV.bool true) v113 fun b118=>
J.jn (fun v119 h120=>
J.jn (fun v123 h124=>
J.jn (fun v127 h128=>
Qo (AV.bool b118) (AV.bool true) v127 fun b132=>
J.jn (fun v133 h134=>
J.jn (fun v137 h138=>
J.jn (fun v141 h142=>
Qo (AV.bool b132) (AV.bool true) v141 fun b146=>
br b146 (
Qr (gam J []) d5 h142 fun h147=>
k (Int.ofNat 2) h147) (
Qr (gam J []) d5 h142 fun h148=>
k (Int.ofNat 0) h148)) fun j143=>
br b132 (
j143 Qb h138) (
asI .i64 v137 fun x144=>
fB (ltI (Int.ofNat 65536) x144) fun b145=>
j143 (AV.bool b145) h138)) fun j139=>
br b132 (
j139 Qb h134) (
ldI .i64 v133 h134 fun x140=>
j139 (AV.int .i64 x140) h134)) fun j135=>
br b132 (
j135 Qb h128) (
faK 4 v4.1 fun p136=>
j135 p136 h128)) fun j129=>
br b118 (
j129 Qb h124) (
asI .i64 v123 fun x130=>
fB (ltI x130 (Int.ofNat 1)) fun b131=>
j129 (AV.bool b131) h124)) fun j125=>
br b118 (
j125 Qb h120) (
ldI .i64 v119 h120 fun x126=>
j125 (AV.int .i64 x126) h120)) fun j121=>
br b118 (
j121 Qb h114) (
faK 4 v4.1 fun p122=>
j121 p122 h114)) fun j115=>
br b104 (
j115 Qb h110) (
asI .i64 v109 fun x116=>
fB (ltI (Int.ofNat 64) x116) fun b117=>
j115 (AV.bool b117) h110)) fun j111=>
br b104 (
j111 Qb h106) (
ldI .i64 v105 h106 fun x112=>
j111 (AV.int .i64 x112) h106)) fun j107=>
br b104 (
j107 Qb h100) (
faK 3 v4.1 fun p108=>
j107 p108 h100)) fun j101=>
br b90 (
j101 Qb h96) (
asI .i64 v95 fun x102=>
fB (ltI x102 (Int.ofNat 1)) fun b103=>
j101 (AV.bool b103) h96)) fun j97=>
br b90 (
j97 Qb h92) (
ldI .i64 v91 h92 fun x98=>
j97 (AV.int .i64 x98) h92)) fun j93=>
br b90 (
j93 Qb h86) (
faK 3 v4.1 fun p94=>
j93 p94 h86)) fun j87=>
br b76 (
j87 Qb h82) (
asI .i64 v81 fun x88=>
fB (ltI (Int.ofNat 16) x88) fun b89=>
j87 (AV.bool b89) h82)) fun j83=>
br b76 (
j83 Qb h78) (
ldI .i64 v77 h78 fun x84=>
j83 (AV.int .i64 x84) h78)) fun j79=>
br b76 (
j79 Qb h72) (
faK 2 v4.1 fun p80=>
j79 p80 h72)) fun j73=>
br b62 (
j73 Qb h68) (
asI .i64 v67 fun x74=>
fB (ltI x74 (Int.ofNat 1)) fun b75=>
j73 (AV.bool b75) h68)) fun j69=>
br b62 (
j69 Qb h64) (
ldI .i64 v63 h64 fun x70=>
j69 (AV.int .i64 x70) h64)) fun j65=>
br b62 (
j65 Qb h58) (
faK 2 v4.1 fun p66=>
j65 p66 h58)) fun j59=>
br b48 (
j59 Qb h54) (
asI .i64 v53 fun x60=>
fB (ltI (Int.ofNat 64) x60) fun b61=>
j59 (AV.bool b61) h54)) fun j55=>
br b48 (
j55 Qb h50) (
ldI .i64 v49 h50 fun x56=>
j55 (AV.int .i64 x56) h50)) fun j51=>
br b48 (
j51 Qb h6) (
faK 1 v4.1 fun p52=>
j51 p52 h6))) ((AV.ptr n1 0),(AV.int .i64 (Int.ofNat 0)),()) [] h2
def s27 : AV→H→(Int→H→Prop)→Prop:=s27G J0
def w27 (c : AV→H→(Int→H→Prop)→Prop) : Fun:=fun xs h k=>arg xs fun a0 xs=>QB xs <| c a0 h fun r0 h=>k (.int .i64 r0) h
theorem s27_eq (J : Qm) (a0 : AV) (h : H) (k : AV→H→Prop) : Ql ty (gam J []) Tryz.f27 [a0] h k = s27G J  a0 h (fun r0 h=>k (.int .i64 r0) h):=by kernel_rfl
def s9G (J : Qm) (c26 : AV→H→(Int→H→Prop)→Prop) (c27 : AV→H→(Int→H→Prop)→Prop) (a0 : AV) (h : H) (k : Int→H→Prop) : Prop :=
Go.Am.asAgg a0 fun l3=>
Qs (.cells false 27 l3) h fun n1 h2=>
ldI .i64 (AV.ptr n1 0) h2 fun x4=>
fB (ltI x4 (Int.ofNat 1)) fun b5=>
J.jn (fun v6 h7=>
J.jn (fun v9 h10=>
J.jn (fun v13 h14=>
Qo (AV.bool b5) (AV.bool true) v13 fun b18=>
J.jn (fun v19 h20=>
J.jn (fun v22 h23=>
J.jn (fun v26 h27=>
J.jn (fun v31 h32=>
Qo (AV.bool b18) (AV.bool true) v31 fun b36=>
J.jn (fun v37 h38=>
J.jn (fun v40 h41=>
J.jn (fun v44 h45=>
Qo (AV.bool b36) (AV.bool true) v44 fun b49=>
J.jn (fun v50 h51=>
J.jn (fun v53 h54=>
J.jn (fun v57 h58=>
Qo (AV.bool b49) (AV.bool true) v57 fun b62=>
J.jn (fun v63 h64=>
J.jn (fun v66 h67=>
J.jn (fun v70 h71=>
Qo (AV.bool b62) (AV.bool true) v70 fun b75=>
J.jn (fun v76 h77=>
J.jn (fun v79 h80=>
J.jn (fun v83 h84=>
Qo (AV.bool b75) (AV.bool true) v83 fun b88=>
J.jn (fun v89 h90=>
J.jn (fun v92 h93=>
J.jn (fun v96 h97=>
Qo (AV.bool b88) (AV.bool true) v96 fun b101=>
J.jn (fun v102 h103=>
J.jn (fun v105 h106=>
J.jn (fun v109 h110=>
Qo (AV.bool b101) (AV.bool true) v109 fun b114=>
J.jn (fun v115 h116=>
J.jn (fun v118 h119=>
J.jn (fun v122 h123=>
J.jn (fun v127 h128=>
Qo (AV.bool b114) (AV.bool true) v127 fun b132=>
br b132 (
k (Int.ofNat 2) h128) (
k (Int.ofNat 0) h128)) fun j129=>
br b114 (
j129 Qb h123) (
asI .i64 v122 fun x130=>
fB (Bool.not (eqI x130 (Int.ofNat 0))) fun b131=>
j129 (AV.bool b131) h123)) fun j124=>
br b114 (
j124 Qb h119) (
c27 v118 h119 fun x126 h125=>
j124 (AV.int .i64 x126) h125)) fun j120=>
br b114 (
j120 Qb h116) (
ldN 5 v115 h116 fun l121=>
j120 (AV.agg l121) h116)) fun j117=>
br b114 (
j117 Qb h110) (
j117 (AV.ptr n1 5) h110)) fun j111=>
br b101 (
j111 Qb h106) (
asI .i64 v105 fun x112=>
fB (ltI (Int.ofNat 1073741824) x112) fun b113=>
j111 (AV.bool b113) h106)) fun j107=>
br b101 (
j107 Qb h103) (
ldI .i64 v102 h103 fun x108=>
j107 (AV.int .i64 x108) h103)) fun j104=>
br b101 (
j104 Qb h97) (
j104 (AV.ptr n1 4) h97)) fun j98=>
br b88 (
j98 Qb h93) (
asI .i64 v92 fun x99=>
fB (ltI x99 (Int.ofNat 1)) fun b100=>
j98 (AV.bool b100) h93)) fun j94=>
br b88 (
j94 Qb h90) (
ldI .i64 v89 h90 fun x95=>
j94 (AV.int .i64 x95) h90)) fun j91=>
br b88 (
j91 Qb h84) (
j91 (AV.ptr n1 4) h84)) fun j85=>
br b75 (
j85 Qb h80) (
asI .i64 v79 fun x86=>
fB (ltI (Int.ofNat 1073741824) x86) fun b87=>
j85 (AV.bool b87) h80)) fun j81=>
br b75 (
j81 Qb h77) (
ldI .i64 v76 h77 fun x82=>
j81 (AV.int .i64 x82) h77)) fun j78=>
br b75 (
j78 Qb h71) (
j78 (AV.ptr n1 3) h71)) fun j72=>
br b62 (
j72 Qb h67) (
asI .i64 v66 fun x73=>
fB (ltI x73 (Int.ofNat 0)) fun b74=>
j72 (AV.bool b74) h67)) fun j68=>
br b62 (
j68 Qb h64) (
ldI .i64 v63 h64 fun x69=>
j68 (AV.int .i64 x69) h64)) fun j65=>
br b62 (
j65 Qb h58) (
j65 (AV.ptr n1 3) h58)) fun j59=>
br b49 (
j59 Qb h54) (
asI .i64 v53 fun x60=>
fB (ltI (Int.ofNat 1073741824) x60) fun b61=>
j59 (AV.bool b61) h54)) fun j55=>
br b49 (
j55 Qb h51) (
ldI .i64 v50 h51 fun x56=>
j55 (AV.int .i64 x56) h51)) fun j52=>
br b49 (
j52 Qb h45) (
j52 (AV.ptr n1 2) h45)) fun j46=>
br b36 (
j46 Qb h41) (
asI .i64 v40 fun x47=>
fB (ltI x47 (Int.ofNat 0)) fun b48=>
j46 (AV.bool b48) h41)) fun j42=>
br b36 (
j42 Qb h38) (
ldI .i64 v37 h38 fun x43=>
j42 (AV.int .i64 x43) h38)) fun j39=>
br b36 (
j39 Qb h32) (
j39 (AV.ptr n1 2) h32)) fun j33=>
br b18 (
j33 Qb h27) (
asI .i64 v26 fun x34=>
fB (Bool.not (eqI x34 (Int.ofNat 0))) fun b35=>
j33 (AV.bool b35) h27)) fun j28=>
br b18 (
j28 Qb h23) (
c26 v22 h23 fun x30 h29=>
j28 (AV.int .i64 x30) h29)) fun j24=>
br b18 (
j24 Qb h20) (
ldV v19 h20 fun v25=>
j24 v25 h20)) fun j21=>
br b18 (
j21 Qb h14) (
j21 (AV.ptr n1 1) h14)) fun j15=>
br b5 (
j15 Qb h10) (
asI .i64 v9 fun x16=>
fB (ltI (Int.ofNat 7) x16) fun b17=>
j15 (AV.bool b17) h10)) fun j11=>
br b5 (
j11 Qb h7) (
ldI .i64 v6 h7 fun x12=>
j11 (AV.int .i64 x12) h7)) fun j8=>
br b5 (
j8 Qb h2) (
j8 (AV.ptr n1 0) h2)
def s9 : AV→H→(Int→H→Prop)→Prop:=s9G J0 s26 s27
def w9 (c : AV→H→(Int→H→Prop)→Prop) : Fun:=fun xs h k=>arg xs fun a0 xs=>QB xs <| c a0 h fun r0 h=>k (.int .i64 r0) h
theorem s9_eq (J : Qm) (c26 : AV→H→(Int→H→Prop)→Prop) (c27 : AV→H→(Int→H→Prop)→Prop) (a0 : AV) (h : H) (k : AV→H→Prop) : Ql ty (gam J [(26,w26 c26),(27,w27 c27)]) Tryz.f9 [a0] h k = s9G J c26 c27 a0 h (fun r0 h=>k (.int .i64 r0) h):=by kernel_rfl
def Qeg (J : Qm) (a0 : AV) (h : H) (k : AV→Bool→H→Prop) : Prop :=
Go.Am.asAgg a0 fun l3=>
Qs (.cells false 40 l3) h fun n1 h2=>
ldI .i64 (AV.ptr n1 5) h2 fun x4=>
J.jd (α:=AV × AV × AV × Unit) (fun v5 d6 h7=>
asB v5.2.2.1 fun b9=>
br b9 (
faK 15 v5.1 fun p10=>
faK 0 p10 fun p11=>
ldS p11 h7 fun s12=>
Qs (.cells false 9 [(AV.str s12)]) h7 fun n13 h14=>
Qr (gam J []) d6 h14 fun h15=>
k (AV.slice n13 0 1 1 1 true) true h15) (
asI .i64 v5.2.1 fun x16=>
fB (eqI x16 (Int.ofNat 2)) fun b17=>
br b17 (
J.lp (α:=AV × AV × AV × Unit) (fun r21 v18 d19 h20=>
faK 27 v18.1 fun p22=>
ldV p22 h20 fun v23=>
Q6 v23 fun x24=>
asI .i64 v18.2.2.1 fun x25=>
fB (ltI x25 (Int.ofNat x24)) fun b26=>
br b26 (
faK 27 v18.1 fun p27=>
ldV p27 h20 fun v28=>
ixK 3 v28 v18.2.2.1 fun p29=>
faK 0 p29 fun p30=>
ldS p30 h20 fun s31=>
Qs (.cells false 9 [(AV.str s31)]) h20 fun n32 h33=>
apC 9 1 16 v18.2.1 (AV.slice n32 0 1 1 1 true) h33 fun v34 h35=>
asI .i64 v18.2.2.1 fun x36=>
fI (Qu .i64 (Int.add x36 (Int.ofNat 1))) fun x37=>
r21 (v18.1,v34,(AV.int .i64 x37),()) d19 h35) (
Qr (gam J []) d19 h20 fun h38=>
k v18.2.1 true h38)) (v5.1,AV.nils,(AV.int .i64 (Int.ofNat 0)),()) d6 h7) (
J.jd (α:=AV × AV × AV × Unit) (fun v39 d40 h41=>
asB v39.2.2.1 fun b43=>
br b43 (
faK 26 v39.1 fun p44=>
ldV p44 h41 fun v45=>
Qr (gam J []) d40 h41 fun h46=>
k v45 false h46) (
J.jd (α:=AV × AV × Unit) (fun v47 d48 h49=>
asB v47.2.1 fun b51=>
br b51 (
faK 26 v47.1 fun p52=>
ldV p52 h49 fun v53=>
Qr (gam J []) d48 h49 fun h54=>
k v53 true h54) (
faK 14 v47.1 fun p55=>
ldS p55 h49 fun s56=>
Qs (.cells false 9 [(AV.str s56)]) h49 fun n57 h58=>
Qr (gam J []) d48 h58 fun h59=>
k (AV.slice n57 0 1 1 1 true) true h59)) fun j50=>
asI .i64 v39.2.1 fun x60=>
fB (eqI x60 (Int.ofNat 9)) fun b61=>
br b61 (
j50 (v39.1,(AV.bool b61),()) d40 h41) (
asI .i64 v39.2.1 fun x62=>
fB (eqI x62 (Int.ofNat 10)) fun b63=>
j50 (v39.1,(AV.bool b63),()) d40 h41))) fun j42=>
asI .i64 v5.2.1 fun x64=>
fB (eqI x64 (Int.ofNat 3)) fun b65=>
br b65 (
j42 (v5.1,v5.2.1,(AV.bool b65),()) d6 h7) (
asI .i64 v5.2.1 fun x66=>
fB (eqI x66 (Int.ofNat 4)) fun b67=>
j42 (v5.1,v5.2.1,(AV.bool b67),()) d6 h7)))) fun j8=>
fB (eqI x4 (Int.ofNat 1)) fun b68=>
br b68 (
j8 ((AV.ptr n1 0),(AV.int .i64 x4),(AV.bool b68),()) [] h2) (
fB (eqI x4 (Int.ofNat 11)) fun b69=>
j8 ((AV.ptr n1 0),(AV.int .i64 x4),(AV.bool b69),()) [] h2)
def s21 : AV→H→(AV→Bool→H→Prop)→Prop:=Qeg J0
def w21 (c : AV→H→(AV→Bool→H→Prop)→Prop) : Fun:=fun xs h k=>arg xs fun a0 xs=>QB xs <| c a0 h fun r0 r1 h=>k (.tuple [r0,(.bool r1)]) h
theorem s21_eq (J : Qm) (a0 : AV) (h : H) (k : AV→H→Prop) : Ql ty (gam J []) Tryz.f21 [a0] h k = Qeg J  a0 h (fun r0 r1 h=>k (.tuple [r0,(.bool r1)]) h):=by kernel_rfl
def g21 : Fun:=w21 s21
theorem g21_ok : Qe Tryz.prog 21 g21:=(Qf Qi Qj (Qg (J:=J0) (Qc Qd)) Tryz.func21 (fun args w=>by simp)).imp fun xs h k e0=>by
  obtain ⟨a0,xs0,rfl,e1⟩:=Qp e0
  obtain ⟨rfl,e2⟩:=Qt e1
  exact (s21_eq J0  a0 h k).mpr e2
def QdI (J : Qm) (a0 : AV) (h : H) (k : AV→H→Prop) : Prop :=
J.lp (α:=AV × AV × AV × AV × Unit) (fun r4 v1 d2 h3=>
Q6 v1.1 fun x5=>
asI .i64 v1.2.2.2.1 fun x6=>
fB (ltI x6 (Int.ofNat x5)) fun b7=>
br b7 (
ixK 1 v1.1 v1.2.2.2.1 fun p8=>
ldS p8 h3 fun s9=>
asS v1.2.2.1 fun s10=>
ck (Nat.beq (List.length [(AV.str s10),(AV.str s9)]) 2) (op' (Qy 0 [(AV.str s10),(AV.str s9)] [(.str ⟨0,0⟩),(.str ⟨0,0⟩)]) fun l13=>
Qs (.cells false 33 l13) h3 fun n11 h12=>
apC 33 2 32 v1.2.1 (AV.slice n11 0 1 1 2 true) h12 fun v14 h15=>
ixK 1 v1.1 v1.2.2.2.1 fun p16=>
ldS p16 h15 fun s17=>
asI .i64 v1.2.2.2.1 fun x18=>
fI (Qu .i64 (Int.add x18 (Int.ofNat 1))) fun x19=>
r4 (v1.1,v14,(AV.str s17),(AV.int .i64 x19),()) d2 h15)) (
asS v1.2.2.1 fun s20=>
ck (Nat.beq (List.length [(AV.str s20),(.str ⟨0,0⟩)]) 2) (op' (Qy 0 [(AV.str s20),(.str ⟨0,0⟩)] [(.str ⟨0,0⟩),(.str ⟨0,0⟩)]) fun l23=>
Qs (.cells false 33 l23) h3 fun n21 h22=>
apC 33 2 32 v1.2.1 (AV.slice n21 0 1 1 2 true) h22 fun v24 h25=>
Qr (gam J []) d2 h25 fun h26=>
k v24 h26))) (a0,AV.nils,(AV.str ⟨0,0⟩),(AV.int .i64 (Int.ofNat 0)),()) [] h
def s90 : AV→H→(AV→H→Prop)→Prop:=QdI J0
def w90 (c : AV→H→(AV→H→Prop)→Prop) : Fun:=fun xs h k=>arg xs fun a0 xs=>QB xs <| c a0 h fun r0 h=>k r0 h
theorem s90_eq (J : Qm) (a0 : AV) (h : H) (k : AV→H→Prop) : Ql ty (gam J []) Tryz.f90 [a0] h k = QdI J  a0 h (fun r0 h=>k r0 h):=by kernel_rfl
def g90 : Fun:=w90 s90
theorem g90_ok : Qe Tryz.prog 90 g90:=(Qf Qi Qj (Qg (J:=J0) (Qc Qd)) Tryz.func90 (fun args w=>by simp)).imp fun xs h k e0=>by
  obtain ⟨a0,xs0,rfl,e1⟩:=Qp e0
  obtain ⟨rfl,e2⟩:=Qt e1
  exact (s90_eq J0  a0 h k).mpr e2
def s91G (J : Qm) (a0 : AV) (a1 : Str) (h : H) (k : Bool→H→Prop) : Prop :=
Go.Am.asAgg a0 fun l3=>
Qs (.cells false 33 l3) h fun n1 h2=>
ldS (AV.ptr n1 0) h2 fun s4=>
fB (Bool.not (Str.lt a1 s4)) fun b5=>
J.jn (fun v6 h7=>
J.jn (fun v9 h10=>
J.jn (fun v13 h14=>
J.jn (fun v18 h19=>
J.jn (fun v21 h22=>
J.jn (fun v24 h25=>
J.jn (fun v27 h28=>
J.jn (fun v31 h32=>
J.jn (fun v37 h38=>
Qo (AV.bool b5) v37 (AV.bool false) fun b41=>
k b41 h38) fun j39=>
br b5 (
Qo v18 (AV.bool true) v31 fun b40=>
j39 (AV.bool b40) h32) (
j39 Qb h32)) fun j33=>
QH v18 (fun b42=>
br b42 (
j33 Qb h28) (
asS v21 fun s34=>
asS v27 fun s35=>
fB (Str.lt s34 s35) fun b36=>
j33 (AV.bool b36) h28)) (
j33 Qb h28)) fun j29=>
QH v18 (fun b43=>
br b43 (
j29 Qb h25) (
ldS v24 h25 fun s30=>
j29 (AV.str s30) h25)) (
j29 Qb h25)) fun j26=>
QH v18 (fun b44=>
br b44 (
j26 Qb h22) (
j26 (AV.ptr n1 1) h22)) (
j26 Qb h22)) fun j23=>
QH v18 (fun b45=>
br b45 (
j23 Qb h19) (
j23 (AV.str a1) h19)) (
j23 Qb h19)) fun j20=>
br b5 (
j20 v13 h14) (
j20 Qb h14)) fun j15=>
br b5 (
asS v9 fun s16=>
fB (Str.beq s16 (⟨0,0⟩ : Str)) fun b17=>
j15 (AV.bool b17) h10) (
j15 Qb h10)) fun j11=>
br b5 (
ldS v6 h7 fun s12=>
j11 (AV.str s12) h7) (
j11 Qb h7)) fun j8=>
br b5 (
j8 (AV.ptr n1 1) h2) (
j8 Qb h2)
def s91 : AV→Str→H→(Bool→H→Prop)→Prop:=s91G J0
def w91 (c : AV→Str→H→(Bool→H→Prop)→Prop) : Fun:=fun xs h k=>arg xs fun a0 xs=>arg xs fun a1 xs=>QB xs <| asS a1 fun a1=>c a0 a1 h fun r0 h=>k (.bool r0) h
theorem s91_eq (J : Qm) (a0 : AV) (a1 : Str) (h : H) (k : AV→H→Prop) : Ql ty (gam J []) Tryz.f91 [a0,(.str a1)] h k = s91G J  a0 a1 h (fun r0 h=>k (.bool r0) h):=by kernel_rfl
def s52G (J : Qm) (c26 : AV→H→(Int→H→Prop)→Prop) (c90 : AV→H→(AV→H→Prop)→Prop) (c91 : AV→Str→H→(Bool→H→Prop)→Prop) (a0 : AV) (a1 : Str) (h : H) (k : Int→Int→H→Prop) : Prop :=
c26 a0 h fun x2 h1=>
fB (Bool.not (eqI x2 (Int.ofNat 0))) fun b3=>
br b3 (
k (Int.ofNat 0) x2 h1) (
c90 a0 h1 fun v5 h4=>
J.lp (α:=AV × AV × AV × Unit) (fun r9 v6 d7 h8=>
Q6 v6.2.1 fun x10=>
asI .i64 v6.2.2.1 fun x11=>
fB (ltI x11 (Int.ofNat x10)) fun b12=>
br b12 (
ixK 2 v6.2.1 v6.2.2.1 fun p13=>
ldN 2 p13 h8 fun l14=>
asS v6.1 fun s16=>
c91 (AV.agg l14) s16 h8 fun b17 h15=>
br b17 (
Qr (gam J [(26,w26 c26),(90,w90 c90),(91,w91 c91)]) d7 h15 fun h18=>
asI .i64 v6.2.2.1 fun x19=>
k x19 (Int.ofNat 0) h18) (
asI .i64 v6.2.2.1 fun x20=>
fI (Qu .i64 (Int.add x20 (Int.ofNat 1))) fun x21=>
r9 (v6.1,v6.2.1,(AV.int .i64 x21),()) d7 h15)) (
Qr (gam J [(26,w26 c26),(90,w90 c90),(91,w91 c91)]) d7 h8 fun h22=>
k (Int.ofNat 0) (Int.ofNat 2) h22)) ((AV.str a1),v5,(AV.int .i64 (Int.ofNat 0)),()) [] h4)
def s52 : AV→Str→H→(Int→Int→H→Prop)→Prop:=s52G J0 s26 s90 s91
def w52 (c : AV→Str→H→(Int→Int→H→Prop)→Prop) : Fun:=fun xs h k=>arg xs fun a0 xs=>arg xs fun a1 xs=>QB xs <| asS a1 fun a1=>c a0 a1 h fun r0 r1 h=>k (.tuple [(.int .i64 r0),(.int .i64 r1)]) h
theorem s52_eq (J : Qm) (c26 : AV→H→(Int→H→Prop)→Prop) (c90 : AV→H→(AV→H→Prop)→Prop) (c91 : AV→Str→H→(Bool→H→Prop)→Prop) (a0 : AV) (a1 : Str) (h : H) (k : AV→H→Prop) : Ql ty (gam J [(26,w26 c26),(90,w90 c90),(91,w91 c91)]) Tryz.f52 [a0,(.str a1)] h k = s52G J c26 c90 c91 a0 a1 h (fun r0 r1 h=>k (.tuple [(.int .i64 r0),(.int .i64 r1)]) h):=by kernel_rfl
def s22G (J : Qm) (c52 : AV→Str→H→(Int→Int→H→Prop)→Prop) (a0 : AV) (a1 : Str) (a2 : Int) (h : H) (k : Int→Int→H→Prop) : Prop :=
c52 a0 a1 h fun x2 x3 h1=>
fB (Bool.not (eqI x3 (Int.ofNat 0))) fun b4=>
br b4 (
k (Int.ofNat 0) x3 h1) (
fB (ltI a2 (Int.ofNat 1)) fun b5=>
J.jn (fun v6 h7=>
J.jn (fun v9 h10=>
Qo (AV.bool b5) (AV.bool true) v9 fun b14=>
br b14 (
k (Int.ofNat 0) (Int.ofNat 2) h10) (
ck (Bool.not (eqI a2 0)) (fI (Int.tmod x2 a2) fun x15=>
k x15 (Int.ofNat 0) h10))) fun j11=>
br b5 (
j11 Qb h7) (
asI .i64 v6 fun x12=>
fB (ltI (Int.ofNat 7) x12) fun b13=>
j11 (AV.bool b13) h7)) fun j8=>
br b5 (
j8 Qb h1) (
j8 (AV.int .i64 a2) h1))
def s22 : AV→Str→Int→H→(Int→Int→H→Prop)→Prop:=s22G J0 s52
def w22 (c : AV→Str→Int→H→(Int→Int→H→Prop)→Prop) : Fun:=fun xs h k=>arg xs fun a0 xs=>arg xs fun a1 xs=>arg xs fun a2 xs=>QB xs <| asS a1 fun a1=>asI .i64 a2 fun a2=>c a0 a1 a2 h fun r0 r1 h=>k (.tuple [(.int .i64 r0),(.int .i64 r1)]) h
theorem s22_eq (J : Qm) (c52 : AV→Str→H→(Int→Int→H→Prop)→Prop) (a0 : AV) (a1 : Str) (a2 : Int) (h : H) (k : AV→H→Prop) : Ql ty (gam J [(52,w52 c52)]) Tryz.f22 [a0,(.str a1),(.int .i64 a2)] h k = s22G J c52 a0 a1 a2 h (fun r0 r1 h=>k (.tuple [(.int .i64 r0),(.int .i64 r1)]) h):=by kernel_rfl
def s28G (J : Qm) (a0 : AV) (h : H) (k : Int→H→Prop) : Prop :=
Go.Am.asAgg a0 fun l3=>
Qs (.cells false 29 l3) h fun n1 h2=>
ldI .i64 (AV.ptr n1 0) h2 fun x4=>
fB (ltI x4 (Int.ofNat 0)) fun b5=>
J.jn (fun v6 h7=>
J.jn (fun v9 h10=>
J.jn (fun v13 h14=>
Qo (AV.bool b5) (AV.bool true) v13 fun b18=>
J.jn (fun v19 h20=>
J.jn (fun v22 h23=>
J.jn (fun v26 h27=>
Qo (AV.bool b18) (AV.bool true) v26 fun b31=>
J.jn (fun v32 h33=>
J.jn (fun v35 h36=>
J.jn (fun v39 h40=>
Qo (AV.bool b31) (AV.bool true) v39 fun b44=>
J.jn (fun v45 h46=>
J.jn (fun v48 h49=>
J.jn (fun v52 h53=>
Qo (AV.bool b44) (AV.bool true) v52 fun b57=>
J.jn (fun v58 h59=>
J.jn (fun v61 h62=>
J.jn (fun v65 h66=>
Qo (AV.bool b57) (AV.bool true) v65 fun b70=>
br b70 (
k (Int.ofNat 2) h66) (
k (Int.ofNat 0) h66)) fun j67=>
br b57 (
j67 Qb h62) (
asI .i32 v61 fun x68=>
fB (ltI (Int.ofNat 1048576) x68) fun b69=>
j67 (AV.bool b69) h62)) fun j63=>
br b57 (
j63 Qb h59) (
ldI .i32 v58 h59 fun x64=>
j63 (AV.int .i32 x64) h59)) fun j60=>
br b57 (
j60 Qb h53) (
j60 (AV.ptr n1 2) h53)) fun j54=>
br b44 (
j54 Qb h49) (
asI .i32 v48 fun x55=>
fB (ltI x55 (Int.ofNat 0)) fun b56=>
j54 (AV.bool b56) h49)) fun j50=>
br b44 (
j50 Qb h46) (
ldI .i32 v45 h46 fun x51=>
j50 (AV.int .i32 x51) h46)) fun j47=>
br b44 (
j47 Qb h40) (
j47 (AV.ptr n1 2) h40)) fun j41=>
br b31 (
j41 Qb h36) (
asI .i32 v35 fun x42=>
fB (ltI (Int.ofNat 1048576) x42) fun b43=>
j41 (AV.bool b43) h36)) fun j37=>
br b31 (
j37 Qb h33) (
ldI .i32 v32 h33 fun x38=>
j37 (AV.int .i32 x38) h33)) fun j34=>
br b31 (
j34 Qb h27) (
j34 (AV.ptr n1 1) h27)) fun j28=>
br b18 (
j28 Qb h23) (
asI .i32 v22 fun x29=>
fB (ltI x29 (Int.ofNat 0)) fun b30=>
j28 (AV.bool b30) h23)) fun j24=>
br b18 (
j24 Qb h20) (
ldI .i32 v19 h20 fun x25=>
j24 (AV.int .i32 x25) h20)) fun j21=>
br b18 (
j21 Qb h14) (
j21 (AV.ptr n1 1) h14)) fun j15=>
br b5 (
j15 Qb h10) (
asI .i64 v9 fun x16=>
fB (ltI (Int.ofNat 1099511627776) x16) fun b17=>
j15 (AV.bool b17) h10)) fun j11=>
br b5 (
j11 Qb h7) (
ldI .i64 v6 h7 fun x12=>
j11 (AV.int .i64 x12) h7)) fun j8=>
br b5 (
j8 Qb h2) (
j8 (AV.ptr n1 0) h2)
def s28 : AV→H→(Int→H→Prop)→Prop:=s28G J0
def w28 (c : AV→H→(Int→H→Prop)→Prop) : Fun:=fun xs h k=>arg xs fun a0 xs=>QB xs <| c a0 h fun r0 h=>k (.int .i64 r0) h
theorem s28_eq (J : Qm) (a0 : AV) (h : H) (k : AV→H→Prop) : Ql ty (gam J []) Tryz.f28 [a0] h k = s28G J  a0 h (fun r0 h=>k (.int .i64 r0) h):=by kernel_rfl
def s93G (J : Qm) (a0 : AV) (h : H) (k : Int→Int→H→Prop) : Prop :=
Go.Am.asAgg a0 fun l3=>
Qs (.cells false 31 l3) h fun n1 h2=>
ldI .i32 (AV.ptr n1 0) h2 fun x4=>
fB (ltI x4 (Int.ofNat 0)) fun b5=>
J.jn (fun v6 h7=>
J.jn (fun v9 h10=>
J.jn (fun v13 h14=>
Qo (AV.bool b5) (AV.bool true) v13 fun b18=>
J.jn (fun v19 h20=>
J.jn (fun v22 h23=>
J.jn (fun v26 h27=>
Qo (AV.bool b18) (AV.bool true) v26 fun b31=>
J.jn (fun v32 h33=>
J.jn (fun v35 h36=>
J.jn (fun v39 h40=>
Qo (AV.bool b31) (AV.bool true) v39 fun b44=>
br b44 (
k (Int.ofNat 0) (Int.ofNat 2) h40) (
ldI .i32 (AV.ptr n1 1) h40 fun x45=>
fI (Qu .i32 (Int.mul x45 (Int.ofNat 8))) fun x46=>
ldI .i32 (AV.ptr n1 0) h40 fun x47=>
fI (Qu .i32 (Int.add x46 x47)) fun x48=>
k x48 (Int.ofNat 0) h40)) fun j41=>
br b31 (
j41 Qb h36) (
asI .i32 v35 fun x42=>
fB (ltI (Int.ofNat 100000) x42) fun b43=>
j41 (AV.bool b43) h36)) fun j37=>
br b31 (
j37 Qb h33) (
ldI .i32 v32 h33 fun x38=>
j37 (AV.int .i32 x38) h33)) fun j34=>
br b31 (
j34 Qb h27) (
j34 (AV.ptr n1 1) h27)) fun j28=>
br b18 (
j28 Qb h23) (
asI .i32 v22 fun x29=>
fB (ltI x29 (Int.ofNat 1)) fun b30=>
j28 (AV.bool b30) h23)) fun j24=>
br b18 (
j24 Qb h20) (
ldI .i32 v19 h20 fun x25=>
j24 (AV.int .i32 x25) h20)) fun j21=>
br b18 (
j21 Qb h14) (
j21 (AV.ptr n1 1) h14)) fun j15=>
br b5 (
j15 Qb h10) (
asI .i32 v9 fun x16=>
fB (Bool.not (ltI x16 (Int.ofNat 7))) fun b17=>
j15 (AV.bool b17) h10)) fun j11=>
br b5 (
j11 Qb h7) (
ldI .i32 v6 h7 fun x12=>
j11 (AV.int .i32 x12) h7)) fun j8=>
br b5 (
j8 Qb h2) (
j8 (AV.ptr n1 0) h2)
def s93 : AV→H→(Int→Int→H→Prop)→Prop:=s93G J0
def w93 (c : AV→H→(Int→Int→H→Prop)→Prop) : Fun:=fun xs h k=>arg xs fun a0 xs=>QB xs <| c a0 h fun r0 r1 h=>k (.tuple [(.int .i32 r0),(.int .i64 r1)]) h
theorem s93_eq (J : Qm) (a0 : AV) (h : H) (k : AV→H→Prop) : Ql ty (gam J []) Tryz.f93 [a0] h k = s93G J  a0 h (fun r0 r1 h=>k (.tuple [(.int .i32 r0),(.int .i64 r1)]) h):=by kernel_rfl
def s55G (J : Qm) (c93 : AV→H→(Int→Int→H→Prop)→Prop) (a0 : AV) (a1 : Bool) (h : H) (k : Bool→H→Prop) : Prop :=
Go.Am.asAgg a0 fun l3=>
Qs (.cells false 31 l3) h fun n1 h2=>
ldN 2 (AV.ptr n1 0) h2 fun l4=>
c93 (AV.agg l4) h2 fun x6 x7 h5=>
fB (eqI x7 (Int.ofNat 0)) fun b8=>
J.jn (fun v9 h10=>
J.jn (fun v12 h13=>
J.jn (fun v15 h16=>
J.jn (fun v19 h20=>
J.jn (fun v22 h23=>
J.jn (fun v26 h27=>
Qo (AV.bool b8) (AV.bool true) v26 fun b30=>
k b30 h27) fun j28=>
br b8 (
j28 Qb h23) (
Qo v12 v22 (AV.bool false) fun b29=>
j28 (AV.bool b29) h23)) fun j24=>
QH v12 (fun b31=>
br b31 (
obK (Wt ty .eql 31 false v15 v19) fun b25=>
j24 (AV.bool b25) h20) (
j24 Qb h20)) (
j24 Qb h20)) fun j21=>
QH v12 (fun b32=>
br b32 (
j21 (AV.agg [(.int .i32 0),(.int .i32 0)]) h16) (
j21 Qb h16)) (
j21 Qb h16)) fun j17=>
QH v12 (fun b33=>
br b33 (
ldN 2 (AV.ptr n1 0) h13 fun l18=>
j17 (AV.agg l18) h13) (
j17 Qb h13)) (
j17 Qb h13)) fun j14=>
br b8 (
j14 Qb h10) (
j14 v9 h10)) fun j11=>
br b8 (
j11 Qb h5) (
j11 (AV.bool a1) h5)
def s55 : AV→Bool→H→(Bool→H→Prop)→Prop:=s55G J0 s93
def w55 (c : AV→Bool→H→(Bool→H→Prop)→Prop) : Fun:=fun xs h k=>arg xs fun a0 xs=>arg xs fun a1 xs=>QB xs <| asB a1 fun a1=>c a0 a1 h fun r0 h=>k (.bool r0) h
theorem s55_eq (J : Qm) (c93 : AV→H→(Int→Int→H→Prop)→Prop) (a0 : AV) (a1 : Bool) (h : H) (k : AV→H→Prop) : Ql ty (gam J [(93,w93 c93)]) Tryz.f55 [a0,(.bool a1)] h k = s55G J c93 a0 a1 h (fun r0 h=>k (.bool r0) h):=by kernel_rfl
def Qeq (J : Qm) (a0 : Str) (h : H) (k : Bool→H→Prop) : Prop :=
fB (Bool.not (ltI (Int.ofNat a0.len) (Int.ofNat 1))) fun b1=>
J.jn (fun v2 h3=>
J.jn (fun v5 h6=>
J.jn (fun v9 h10=>
Qo (AV.bool b1) v9 (AV.bool false) fun b14=>
k b14 h10) fun j11=>
br b1 (
asI .i64 v5 fun x12=>
fB (Bool.not (ltI (Int.ofNat 128) x12)) fun b13=>
j11 (AV.bool b13) h6) (
j11 Qb h6)) fun j7=>
br b1 (
asS v2 fun s8=>
j7 (AV.int .i64 (Int.ofNat s8.len)) h3) (
j7 Qb h3)) fun j4=>
br b1 (
j4 (AV.str a0) h) (
j4 Qb h)
def s141 : Str→H→(Bool→H→Prop)→Prop:=Qeq J0
def w141 (c : Str→H→(Bool→H→Prop)→Prop) : Fun:=fun xs h k=>arg xs fun a0 xs=>QB xs <| asS a0 fun a0=>c a0 h fun r0 h=>k (.bool r0) h
theorem s141_eq (J : Qm) (a0 : Str) (h : H) (k : AV→H→Prop) : Ql ty (gam J []) Tryz.f141 [(.str a0)] h k = Qeq J  a0 h (fun r0 h=>k (.bool r0) h):=by kernel_rfl
def Qbo (J : Qm) (a0 : Str) (h : H) (k : Str→H→Prop) : Prop :=
J.lp (α:=AV × AV × AV × Unit) (fun r4 v1 d2 h3=>
asS v1.1 fun s5=>
asI .i64 v1.2.2.1 fun x6=>
fB (ltI x6 (Int.ofNat s5.len)) fun b7=>
br b7 (
J.jd (α:=AV × AV × AV × Unit) (fun v8 d9 h10=>
asI .i64 v8.2.2.1 fun x12=>
fI (Qu .i64 (Int.add x12 (Int.ofNat 1))) fun x13=>
r4 (v8.1,v8.2.1,(AV.int .i64 x13),()) d9 h10) fun j11=>
NF v1.1 v1.2.2.1 fun x14=>
op' (UX true 5 [(AV.int .u8 x14)]) fun k17=>
Qs k17 h3 fun n15 h16=>
apB (.slice 5) 5 v1.2.1 (AV.slice n15 0 1 1 1 true) h16 fun v18 h19=>
NF v1.1 v1.2.2.1 fun x20=>
fB (eqI x20 (Int.ofNat 0)) fun b21=>
br b21 (
op' (UX true 5 [(AV.int .u8 (Int.ofNat 255))]) fun k24=>
Qs k24 h19 fun n22 h23=>
apB (.slice 5) 5 v18 (AV.slice n22 0 1 1 1 true) h23 fun v25 h26=>
j11 (v1.1,v25,v1.2.2.1,()) d2 h26) (
j11 (v1.1,v18,v1.2.2.1,()) d2 h19)) (
op' (UX true 5 [(AV.int .u8 (Int.ofNat 0)),(AV.int .u8 (Int.ofNat 1))]) fun k29=>
Qs k29 h3 fun n27 h28=>
apB (.slice 5) 5 v1.2.1 (AV.slice n27 0 2 2 1 true) h28 fun v30 h31=>
Ua v30 h31 fun s32=>
Qr (gam J []) d2 h31 fun h33=>
k s32 h33)) ((AV.str a0),AV.nils,(AV.int .i64 (Int.ofNat 0)),()) [] h
def s142 : Str→H→(Str→H→Prop)→Prop:=Qbo J0
def w142 (c : Str→H→(Str→H→Prop)→Prop) : Fun:=fun xs h k=>arg xs fun a0 xs=>QB xs <| asS a0 fun a0=>c a0 h fun r0 h=>k (.str r0) h
theorem s142_eq (J : Qm) (a0 : Str) (h : H) (k : AV→H→Prop) : Ql ty (gam J []) Tryz.f142 [(.str a0)] h k = Qbo J  a0 h (fun r0 h=>k (.str r0) h):=by kernel_rfl
def s94G (J : Qm) (c141 : Str→H→(Bool→H→Prop)→Prop) (c142 : Str→H→(Str→H→Prop)→Prop) (a0 : Str) (h : H) (k : AV→Int→H→Prop) : Prop :=
Qs (.cells false 65 [(.str ⟨0,0⟩),(.str ⟨0,0⟩),(.bool false)]) h fun n1 h2=>
c141 a0 h2 fun b4 h3=>
fB (Bool.not b4) fun b5=>
br b5 (
stN 3 (AV.ptr n1 0) [(.str ⟨0,0⟩),(.str ⟨0,0⟩),(.bool false)] h3 fun h6=>
ldN 3 (AV.ptr n1 0) h6 fun l7=>
k (AV.agg l7) (Int.ofNat 2) h6) (
c142 a0 h3 fun s9 h8=>
ck (Nat.ble (Nat.add (⟨1,105⟩ : Str).len s9.len) 9223372036854775807) (fS (Str.cat (⟨1,105⟩ : Str) s9) fun s10=>
stN 3 (AV.ptr n1 0) [(AV.str s10),(.str ⟨0,0⟩),(AV.bool true)] h8 fun h11=>
ldN 3 (AV.ptr n1 0) h11 fun l12=>
k (AV.agg l12) (Int.ofNat 0) h11))
def s94 : Str→H→(AV→Int→H→Prop)→Prop:=s94G J0 s141 s142
def w94 (c : Str→H→(AV→Int→H→Prop)→Prop) : Fun:=fun xs h k=>arg xs fun a0 xs=>QB xs <| asS a0 fun a0=>c a0 h fun r0 r1 h=>k (.tuple [r0,(.int .i64 r1)]) h
theorem s94_eq (J : Qm) (c141 : Str→H→(Bool→H→Prop)→Prop) (c142 : Str→H→(Str→H→Prop)→Prop) (a0 : Str) (h : H) (k : AV→H→Prop) : Ql ty (gam J [(141,w141 c141),(142,w142 c142)]) Tryz.f94 [(.str a0)] h k = s94G J c141 c142 a0 h (fun r0 r1 h=>k (.tuple [r0,(.int .i64 r1)]) h):=by kernel_rfl
def s56G (J : Qm) (c94 : Str→H→(AV→Int→H→Prop)→Prop) (a0 : Str) (h : H) (k : Bool→H→Prop) : Prop :=
c94 a0 h fun v2 x3 h1=>
Qs (.cells false 65 [(.str ⟨0,0⟩),(.str ⟨0,0⟩),(.bool false)]) h1 fun n4 h5=>
Go.Am.asAgg v2 fun l7=>
stN 3 (AV.ptr n4 0) l7 h5 fun h6=>
fB (eqI x3 (Int.ofNat 0)) fun b8=>
k b8 h6
def s56 : Str→H→(Bool→H→Prop)→Prop:=s56G J0 s94
def w56 (c : Str→H→(Bool→H→Prop)→Prop) : Fun:=fun xs h k=>arg xs fun a0 xs=>QB xs <| asS a0 fun a0=>c a0 h fun r0 h=>k (.bool r0) h
theorem s56_eq (J : Qm) (c94 : Str→H→(AV→Int→H→Prop)→Prop) (a0 : Str) (h : H) (k : AV→H→Prop) : Ql ty (gam J [(94,w94 c94)]) Tryz.f56 [(.str a0)] h k = s56G J c94 a0 h (fun r0 h=>k (.bool r0) h):=by kernel_rfl
def Qeh (J : Qm) (a0 : AV) (h : H) (k : Bool→H→Prop) : Prop :=
Go.Am.asAgg a0 fun l3=>
Qs (.cells false 33 l3) h fun n1 h2=>
ldS (AV.ptr n1 1) h2 fun s4=>
fB (Bool.not (Str.beq s4 (⟨0,0⟩ : Str))) fun b5=>
J.jn (fun v6 h7=>
J.jn (fun v9 h10=>
J.jn (fun v13 h14=>
J.jn (fun v16 h17=>
J.jn (fun v20 h21=>
Qo (AV.bool b5) v20 (AV.bool false) fun b26=>
k b26 h21) fun j22=>
br b5 (
asS v9 fun s23=>
asS v16 fun s24=>
fB (Bool.not (Str.lt s24 s23)) fun b25=>
j22 (AV.bool b25) h17) (
j22 Qb h17)) fun j18=>
br b5 (
ldS v13 h14 fun s19=>
j18 (AV.str s19) h14) (
j18 Qb h14)) fun j15=>
br b5 (
j15 (AV.ptr n1 0) h10) (
j15 Qb h10)) fun j11=>
br b5 (
ldS v6 h7 fun s12=>
j11 (AV.str s12) h7) (
j11 Qb h7)) fun j8=>
br b5 (
j8 (AV.ptr n1 1) h2) (
j8 Qb h2)
def s213 : AV→H→(Bool→H→Prop)→Prop:=Qeh J0
def w213 (c : AV→H→(Bool→H→Prop)→Prop) : Fun:=fun xs h k=>arg xs fun a0 xs=>QB xs <| c a0 h fun r0 h=>k (.bool r0) h
theorem s213_eq (J : Qm) (a0 : AV) (h : H) (k : AV→H→Prop) : Ql ty (gam J []) Tryz.f213 [a0] h k = Qeh J  a0 h (fun r0 h=>k (.bool r0) h):=by kernel_rfl
def Qep (J : Qm) (c213 : AV→H→(Bool→H→Prop)→Prop) (a0 : AV) (a1 : AV) (h : H) (k : AV→Bool→H→Prop) : Prop :=
Go.Am.asAgg a0 fun l3=>
Qs (.cells false 33 l3) h fun n1 h2=>
Go.Am.asAgg a1 fun l6=>
Qs (.cells false 33 l6) h2 fun n4 h5=>
Qs (.cells false 33 [(.str ⟨0,0⟩),(.str ⟨0,0⟩)]) h5 fun n7 h8=>
ldS (AV.ptr n1 0) h8 fun s9=>
ldS (AV.ptr n4 0) h8 fun s10=>
op' (QfS (AV.str s9) (AV.str s10)) fun v11=>
asS v11 fun s12=>
ldS (AV.ptr n1 1) h8 fun s13=>
Qs (.cells false 33 [(.str ⟨0,0⟩),(.str ⟨0,0⟩)]) h8 fun n14 h15=>
stN 2 (AV.ptr n14 0) [(AV.str s12),(AV.str s13)] h15 fun h16=>
J.jd (α:=AV × AV × AV × AV × Unit) (fun v17 d18 h19=>
ldN 2 v17.1 h19 fun l21=>
c213 (AV.agg l21) h19 fun b23 h22=>
J.jn (fun v24 h25=>
J.jn (fun v28 h29=>
Qo (AV.bool b23) (AV.bool true) v28 fun b33=>
J.jn (fun v34 h35=>
J.jn (fun v38 h39=>
Qo (AV.bool b33) (AV.bool true) v38 fun b43=>
br b43 (
stN 2 v17.2.2.1 [(.str ⟨0,0⟩),(.str ⟨0,0⟩)] h39 fun h44=>
Qr (gam J [(213,w213 c213)]) d18 h44 fun h45=>
ldN 2 v17.2.2.1 h45 fun l46=>
k (AV.agg l46) false h45) (
ldN 2 v17.2.2.2.1 h39 fun l47=>
stN 2 v17.2.2.1 l47 h39 fun h48=>
Qr (gam J [(213,w213 c213)]) d18 h48 fun h49=>
ldN 2 v17.2.2.1 h49 fun l50=>
k (AV.agg l50) true h49)) fun j40=>
br b33 (
j40 Qb h35) (
c213 v34 h35 fun b42 h41=>
j40 (AV.bool b42) h41)) fun j36=>
br b33 (
j36 Qb h29) (
ldN 2 v17.2.2.2.1 h29 fun l37=>
j36 (AV.agg l37) h29)) fun j30=>
br b23 (
j30 Qb h25) (
c213 v24 h25 fun b32 h31=>
j30 (AV.bool b32) h31)) fun j26=>
br b23 (
j26 Qb h22) (
ldN 2 v17.2.1 h22 fun l27=>
j26 (AV.agg l27) h22)) fun j20=>
ldS (AV.ptr n1 1) h16 fun s51=>
fB (Str.beq s51 (⟨0,0⟩ : Str)) fun b52=>
J.jn (fun v53 h54=>
J.jn (fun v56 h57=>
J.jn (fun v60 h61=>
J.jn (fun v65 h66=>
J.jn (fun v68 h69=>
J.jn (fun v71 h72=>
J.jn (fun v75 h76=>
J.jn (fun v78 h79=>
J.jn (fun v82 h83=>
J.jn (fun v88 h89=>
Qo (AV.bool b52) (AV.bool true) v88 fun b92=>
br b92 (
ldS (AV.ptr n4 1) h89 fun s93=>
stV (AV.ptr n14 1) (AV.str s93) h89 fun h94=>
j20 ((AV.ptr n1 0),(AV.ptr n4 0),(AV.ptr n7 0),(AV.ptr n14 0),()) [] h94) (
j20 ((AV.ptr n1 0),(AV.ptr n4 0),(AV.ptr n7 0),(AV.ptr n14 0),()) [] h89)) fun j90=>
br b52 (
j90 Qb h83) (
Qo v65 v82 (AV.bool false) fun b91=>
j90 (AV.bool b91) h83)) fun j84=>
QH v65 (fun b95=>
br b95 (
asS v71 fun s85=>
asS v78 fun s86=>
fB (Str.lt s85 s86) fun b87=>
j84 (AV.bool b87) h79) (
j84 Qb h79)) (
j84 Qb h79)) fun j80=>
QH v65 (fun b96=>
br b96 (
ldS v75 h76 fun s81=>
j80 (AV.str s81) h76) (
j80 Qb h76)) (
j80 Qb h76)) fun j77=>
QH v65 (fun b97=>
br b97 (
j77 (AV.ptr n1 1) h72) (
j77 Qb h72)) (
j77 Qb h72)) fun j73=>
QH v65 (fun b98=>
br b98 (
ldS v68 h69 fun s74=>
j73 (AV.str s74) h69) (
j73 Qb h69)) (
j73 Qb h69)) fun j70=>
QH v65 (fun b99=>
br b99 (
j70 (AV.ptr n4 1) h66) (
j70 Qb h66)) (
j70 Qb h66)) fun j67=>
br b52 (
j67 Qb h61) (
j67 v60 h61)) fun j62=>
br b52 (
j62 Qb h57) (
asS v56 fun s63=>
fB (Bool.not (Str.beq s63 (⟨0,0⟩ : Str))) fun b64=>
j62 (AV.bool b64) h57)) fun j58=>
br b52 (
j58 Qb h54) (
ldS v53 h54 fun s59=>
j58 (AV.str s59) h54)) fun j55=>
br b52 (
j55 Qb h16) (
j55 (AV.ptr n4 1) h16)
def s143 : AV→AV→H→(AV→Bool→H→Prop)→Prop:=Qep J0 s213
def w143 (c : AV→AV→H→(AV→Bool→H→Prop)→Prop) : Fun:=fun xs h k=>arg xs fun a0 xs=>arg xs fun a1 xs=>QB xs <| c a0 a1 h fun r0 r1 h=>k (.tuple [r0,(.bool r1)]) h
theorem s143_eq (J : Qm) (c213 : AV→H→(Bool→H→Prop)→Prop) (a0 : AV) (a1 : AV) (h : H) (k : AV→H→Prop) : Ql ty (gam J [(213,w213 c213)]) Tryz.f143 [a0,a1] h k = Qep J c213 a0 a1 h (fun r0 r1 h=>k (.tuple [r0,(.bool r1)]) h):=by kernel_rfl
def QdG (J : Qm) (c26 : AV→H→(Int→H→Prop)→Prop) (c90 : AV→H→(AV→H→Prop)→Prop) (c143 : AV→AV→H→(AV→Bool→H→Prop)→Prop) (a0 : AV) (a1 : AV) (h : H) (k : AV→Int→H→Prop) : Prop :=
Go.Am.asAgg a1 fun l3=>
Qs (.cells false 33 l3) h fun n1 h2=>
c26 a0 h2 fun x5 h4=>
fB (Bool.not (eqI x5 (Int.ofNat 0))) fun b6=>
br b6 (
k AV.nils x5 h4) (
c90 a0 h4 fun v8 h7=>
J.lp (α:=AV × AV × AV × AV × Unit) (fun r12 v9 d10 h11=>
Q6 v9.2.2.1 fun x13=>
asI .i64 v9.2.2.2.1 fun x14=>
fB (ltI x14 (Int.ofNat x13)) fun b15=>
br b15 (
J.jd (α:=AV × AV × AV × AV × Unit) (fun v16 d17 h18=>
asI .i64 v16.2.2.2.1 fun x20=>
fI (Qu .i64 (Int.add x20 (Int.ofNat 1))) fun x21=>
r12 (v16.1,v16.2.1,v16.2.2.1,(AV.int .i64 x21),()) d17 h18) fun j19=>
ixK 2 v9.2.2.1 v9.2.2.2.1 fun p22=>
ldN 2 p22 h11 fun l23=>
ldN 2 v9.1 h11 fun l24=>
Qs (.cells false 33 [(.str ⟨0,0⟩),(.str ⟨0,0⟩)]) h11 fun n25 h26=>
c143 (AV.agg l23) (AV.agg l24) h26 fun v28 b29 h27=>
Go.Am.asAgg v28 fun l31=>
stN 2 (AV.ptr n25 0) l31 h27 fun h30=>
br b29 (
ldN 2 (AV.ptr n25 0) h30 fun l32=>
ck (Nat.beq (List.length l32) 2) (op' (Qy 0 l32 [(.str ⟨0,0⟩),(.str ⟨0,0⟩)]) fun l35=>
Qs (.cells false 33 l35) h30 fun n33 h34=>
apC 33 2 32 v9.2.1 (AV.slice n33 0 1 1 2 true) h34 fun v36 h37=>
j19 (v9.1,v36,v9.2.2.1,v9.2.2.2.1,()) d10 h37)) (
j19 (v9.1,v9.2.1,v9.2.2.1,v9.2.2.2.1,()) d10 h30)) (
Qr (gam J [(26,w26 c26),(90,w90 c90),(143,w143 c143)]) d10 h11 fun h38=>
k v9.2.1 (Int.ofNat 0) h38)) ((AV.ptr n1 0),AV.nils,v8,(AV.int .i64 (Int.ofNat 0)),()) [] h7)
def s95 : AV→AV→H→(AV→Int→H→Prop)→Prop:=QdG J0 s26 s90 s143
def w95 (c : AV→AV→H→(AV→Int→H→Prop)→Prop) : Fun:=fun xs h k=>arg xs fun a0 xs=>arg xs fun a1 xs=>QB xs <| c a0 a1 h fun r0 r1 h=>k (.tuple [r0,(.int .i64 r1)]) h
theorem s95_eq (J : Qm) (c26 : AV→H→(Int→H→Prop)→Prop) (c90 : AV→H→(AV→H→Prop)→Prop) (c143 : AV→AV→H→(AV→Bool→H→Prop)→Prop) (a0 : AV) (a1 : AV) (h : H) (k : AV→H→Prop) : Ql ty (gam J [(26,w26 c26),(90,w90 c90),(143,w143 c143)]) Tryz.f95 [a0,a1] h k = QdG J c26 c90 c143 a0 a1 h (fun r0 r1 h=>k (.tuple [r0,(.int .i64 r1)]) h):=by kernel_rfl
def s57G (J : Qm) (c95 : AV→AV→H→(AV→Int→H→Prop)→Prop) (a0 : AV) (a1 : AV) (h : H) (k : Bool→H→Prop) : Prop :=
Go.Am.asAgg a0 fun l3=>
Qs (.cells false 27 l3) h fun n1 h2=>
Go.Am.asAgg a1 fun l6=>
Qs (.cells false 33 l6) h2 fun n4 h5=>
ldV (AV.ptr n1 1) h5 fun v7=>
ldN 2 (AV.ptr n4 0) h5 fun l8=>
c95 v7 (AV.agg l8) h5 fun v10 x11 h9=>
Q6 v10 fun x12=>
fB (eqI (Int.ofNat x12) (Int.ofNat 1)) fun b13=>
k b13 h9
def s57 : AV→AV→H→(Bool→H→Prop)→Prop:=s57G J0 s95
def w57 (c : AV→AV→H→(Bool→H→Prop)→Prop) : Fun:=fun xs h k=>arg xs fun a0 xs=>arg xs fun a1 xs=>QB xs <| c a0 a1 h fun r0 h=>k (.bool r0) h
theorem s57_eq (J : Qm) (c95 : AV→AV→H→(AV→Int→H→Prop)→Prop) (a0 : AV) (a1 : AV) (h : H) (k : AV→H→Prop) : Ql ty (gam J [(95,w95 c95)]) Tryz.f57 [a0,a1] h k = s57G J c95 a0 a1 h (fun r0 h=>k (.bool r0) h):=by kernel_rfl
def s58G (J : Qm) (c28 : AV→H→(Int→H→Prop)→Prop) (a0 : AV) (h : H) (k : Bool→H→Prop) : Prop :=
J.lp (α:=AV × AV × Unit) (fun r4 v1 d2 h3=>
Q6 v1.1 fun x5=>
asI .i64 v1.2.1 fun x6=>
fB (ltI x6 (Int.ofNat x5)) fun b7=>
br b7 (
ixK 3 v1.1 v1.2.1 fun p8=>
ldN 3 p8 h3 fun l9=>
c28 (AV.agg l9) h3 fun x11 h10=>
fB (Bool.not (eqI x11 (Int.ofNat 0))) fun b12=>
br b12 (
Qr (gam J [(28,w28 c28)]) d2 h10 fun h13=>
k false h13) (
asI .i64 v1.2.1 fun x14=>
fI (Qu .i64 (Int.add x14 (Int.ofNat 1))) fun x15=>
r4 (v1.1,(AV.int .i64 x15),()) d2 h10)) (
Qr (gam J [(28,w28 c28)]) d2 h3 fun h16=>
k true h16)) (a0,(AV.int .i64 (Int.ofNat 0)),()) [] h
def s58 : AV→H→(Bool→H→Prop)→Prop:=s58G J0 s28
def w58 (c : AV→H→(Bool→H→Prop)→Prop) : Fun:=fun xs h k=>arg xs fun a0 xs=>QB xs <| c a0 h fun r0 h=>k (.bool r0) h
theorem s58_eq (J : Qm) (c28 : AV→H→(Int→H→Prop)→Prop) (a0 : AV) (h : H) (k : AV→H→Prop) : Ql ty (gam J [(28,w28 c28)]) Tryz.f58 [a0] h k = s58G J c28 a0 h (fun r0 h=>k (.bool r0) h):=by kernel_rfl
def s59G (J : Qm) (a0 : AV) (a1 : AV) (h : H) (k : Bool→H→Prop) : Prop :=
Go.Am.asAgg a0 fun l3=>
Qs (.cells false 29 l3) h fun n1 h2=>
Go.Am.asAgg a1 fun l6=>
Qs (.cells false 29 l6) h2 fun n4 h5=>
ldI .i64 (AV.ptr n1 0) h5 fun x7=>
ldI .i64 (AV.ptr n4 0) h5 fun x8=>
fB (Bool.not (eqI x7 x8)) fun b9=>
br b9 (
ldI .i64 (AV.ptr n1 0) h5 fun x10=>
ldI .i64 (AV.ptr n4 0) h5 fun x11=>
fB (ltI x10 x11) fun b12=>
k b12 h5) (
ldI .i32 (AV.ptr n1 1) h5 fun x13=>
ldI .i32 (AV.ptr n4 1) h5 fun x14=>
fB (Bool.not (eqI x13 x14)) fun b15=>
br b15 (
ldI .i32 (AV.ptr n1 1) h5 fun x16=>
ldI .i32 (AV.ptr n4 1) h5 fun x17=>
fB (ltI x16 x17) fun b18=>
k b18 h5) (
ldI .i32 (AV.ptr n1 2) h5 fun x19=>
ldI .i32 (AV.ptr n4 2) h5 fun x20=>
fB (ltI x19 x20) fun b21=>
k b21 h5))
def s59 : AV→AV→H→(Bool→H→Prop)→Prop:=s59G J0
def w59 (c : AV→AV→H→(Bool→H→Prop)→Prop) : Fun:=fun xs h k=>arg xs fun a0 xs=>arg xs fun a1 xs=>QB xs <| c a0 a1 h fun r0 h=>k (.bool r0) h
theorem s59_eq (J : Qm) (a0 : AV) (a1 : AV) (h : H) (k : AV→H→Prop) : Ql ty (gam J []) Tryz.f59 [a0,a1] h k = s59G J  a0 a1 h (fun r0 h=>k (.bool r0) h):=by kernel_rfl
def s60G (J : Qm) (c55 : AV→Bool→H→(Bool→H→Prop)→Prop) (a0 : AV) (h : H) (k : Bool→H→Prop) : Prop :=
J.lp (α:=AV × AV × Unit) (fun r4 v1 d2 h3=>
Q6 v1.1 fun x5=>
asI .i64 v1.2.1 fun x6=>
fB (ltI x6 (Int.ofNat x5)) fun b7=>
br b7 (
ixK 2 v1.1 v1.2.1 fun p8=>
ldN 2 p8 h3 fun l9=>
c55 (AV.agg l9) false h3 fun b11 h10=>
fB (Bool.not b11) fun b12=>
br b12 (
Qr (gam J [(55,w55 c55)]) d2 h10 fun h13=>
k false h13) (
asI .i64 v1.2.1 fun x14=>
fI (Qu .i64 (Int.add x14 (Int.ofNat 1))) fun x15=>
r4 (v1.1,(AV.int .i64 x15),()) d2 h10)) (
Q6 v1.1 fun x16=>
fB (Bool.not (ltI (Int.ofNat 64) (Int.ofNat x16))) fun b17=>
Qr (gam J [(55,w55 c55)]) d2 h3 fun h18=>
k b17 h18)) (a0,(AV.int .i64 (Int.ofNat 0)),()) [] h
def s60 : AV→H→(Bool→H→Prop)→Prop:=s60G J0 s55
def w60 (c : AV→H→(Bool→H→Prop)→Prop) : Fun:=fun xs h k=>arg xs fun a0 xs=>QB xs <| c a0 h fun r0 h=>k (.bool r0) h
theorem s60_eq (J : Qm) (c55 : AV→Bool→H→(Bool→H→Prop)→Prop) (a0 : AV) (h : H) (k : AV→H→Prop) : Ql ty (gam J [(55,w55 c55)]) Tryz.f60 [a0] h k = s60G J c55 a0 h (fun r0 h=>k (.bool r0) h):=by kernel_rfl
def Qeo (J : Qm) (a0 : Str) (a1 : Bool) (h : H) (k : Bool→H→Prop) : Prop :=
fB (Bool.not (ltI (Int.ofNat 2048) (Int.ofNat a0.len))) fun b1=>
J.jn (fun v2 h3=>
J.jn (fun v5 h6=>
J.jn (fun v10 h11=>
J.jn (fun v13 h14=>
J.jn (fun v16 h17=>
J.jn (fun v21 h22=>
Qo (AV.bool b1) v21 (AV.bool false) fun b25=>
k b25 h22) fun j23=>
br b1 (
Qo v10 (AV.bool true) v16 fun b24=>
j23 (AV.bool b24) h17) (
j23 Qb h17)) fun j18=>
QH v10 (fun b26=>
br b26 (
j18 Qb h14) (
asS v13 fun s19=>
fB (Str.beq s19 (⟨0,0⟩ : Str)) fun b20=>
j18 (AV.bool b20) h14)) (
j18 Qb h14)) fun j15=>
QH v10 (fun b27=>
br b27 (
j15 Qb h11) (
j15 (AV.str a0) h11)) (
j15 Qb h11)) fun j12=>
br b1 (
j12 v5 h6) (
j12 Qb h6)) fun j7=>
br b1 (
asB v2 fun b8=>
fB (Bool.not b8) fun b9=>
j7 (AV.bool b9) h3) (
j7 Qb h3)) fun j4=>
br b1 (
j4 (AV.bool a1) h) (
j4 Qb h)
def s144 : Str→Bool→H→(Bool→H→Prop)→Prop:=Qeo J0
def w144 (c : Str→Bool→H→(Bool→H→Prop)→Prop) : Fun:=fun xs h k=>arg xs fun a0 xs=>arg xs fun a1 xs=>QB xs <| asS a0 fun a0=>asB a1 fun a1=>c a0 a1 h fun r0 h=>k (.bool r0) h
theorem s144_eq (J : Qm) (a0 : Str) (a1 : Bool) (h : H) (k : AV→H→Prop) : Ql ty (gam J []) Tryz.f144 [(.str a0),(.bool a1)] h k = Qeo J  a0 a1 h (fun r0 h=>k (.bool r0) h):=by kernel_rfl
def s96G (J : Qm) (c28 : AV→H→(Int→H→Prop)→Prop) (c93 : AV→H→(Int→Int→H→Prop)→Prop) (c141 : Str→H→(Bool→H→Prop)→Prop) (c144 : Str→Bool→H→(Bool→H→Prop)→Prop) (a0 : AV) (h : H) (k : Int→H→Prop) : Prop :=
Go.Am.asAgg a0 fun l3=>
Qs (.cells false 143 l3) h fun n1 h2=>
ldN 2 (AV.ptr n1 1) h2 fun l4=>
c93 (AV.agg l4) h2 fun x6 x7 h5=>
fB (Bool.not (eqI x7 (Int.ofNat 0))) fun b8=>
J.jn (fun v9 h10=>
J.jn (fun v12 h13=>
J.jn (fun v16 h17=>
J.jn (fun v22 h23=>
Qo (AV.bool b8) (AV.bool true) v22 fun b27=>
J.jn (fun v28 h29=>
J.jn (fun v31 h32=>
J.jn (fun v35 h36=>
J.jn (fun v41 h42=>
Qo (AV.bool b27) (AV.bool true) v41 fun b46=>
J.jn (fun v47 h48=>
J.jn (fun v50 h51=>
J.jn (fun v54 h55=>
J.jn (fun v57 h58=>
J.jn (fun v61 h62=>
J.jn (fun v68 h69=>
Qo (AV.bool b46) (AV.bool true) v68 fun b73=>
J.jn (fun v74 h75=>
J.jn (fun v77 h78=>
J.jn (fun v81 h82=>
J.jn (fun v86 h87=>
Qo (AV.bool b73) (AV.bool true) v86 fun b91=>
J.jn (fun v92 h93=>
J.jn (fun v95 h96=>
J.jn (fun v99 h100=>
J.jn (fun v104 h105=>
Qo (AV.bool b91) (AV.bool true) v104 fun b109=>
J.jn (fun v110 h111=>
J.jn (fun v113 h114=>
J.jn (fun v117 h118=>
J.jn (fun v121 h122=>
J.jn (fun v124 h125=>
Qo (AV.bool b109) (AV.bool true) v124 fun b130=>
br b130 (
k (Int.ofNat 2) h125) (
k (Int.ofNat 0) h125)) fun j126=>
br b109 (
j126 Qb h122) (
asI .i32 v117 fun x127=>
asI .i32 v121 fun x128=>
fB (Bool.not (eqI x127 x128)) fun b129=>
j126 (AV.bool b129) h122)) fun j123=>
br b109 (
j123 Qb h118) (
j123 (AV.int .i32 x6) h118)) fun j119=>
br b109 (
j119 Qb h114) (
ldI .i32 v113 h114 fun x120=>
j119 (AV.int .i32 x120) h114)) fun j115=>
br b109 (
j115 Qb h111) (
faK 2 v110 fun p116=>
j115 p116 h111)) fun j112=>
br b109 (
j112 Qb h105) (
j112 (AV.ptr n1 7) h105)) fun j106=>
br b91 (
j106 Qb h100) (
asI .i64 v99 fun x107=>
fB (Bool.not (eqI x107 (Int.ofNat 0))) fun b108=>
j106 (AV.bool b108) h100)) fun j101=>
br b91 (
j101 Qb h96) (
c28 v95 h96 fun x103 h102=>
j101 (AV.int .i64 x103) h102)) fun j97=>
br b91 (
j97 Qb h93) (
ldN 3 v92 h93 fun l98=>
j97 (AV.agg l98) h93)) fun j94=>
br b91 (
j94 Qb h87) (
j94 (AV.ptr n1 7) h87)) fun j88=>
br b73 (
j88 Qb h82) (
asI .i64 v81 fun x89=>
fB (Bool.not (eqI x89 (Int.ofNat 0))) fun b90=>
j88 (AV.bool b90) h82)) fun j83=>
br b73 (
j83 Qb h78) (
c28 v77 h78 fun x85 h84=>
j83 (AV.int .i64 x85) h84)) fun j79=>
br b73 (
j79 Qb h75) (
ldN 3 v74 h75 fun l80=>
j79 (AV.agg l80) h75)) fun j76=>
br b73 (
j76 Qb h69) (
j76 (AV.ptr n1 3) h69)) fun j70=>
br b46 (
j70 Qb h62) (
asB v61 fun b71=>
fB (Bool.not b71) fun b72=>
j70 (AV.bool b72) h62)) fun j63=>
br b46 (
j63 Qb h58) (
asS v50 fun s65=>
asB v57 fun b66=>
c144 s65 b66 h58 fun b67 h64=>
j63 (AV.bool b67) h64)) fun j59=>
br b46 (
j59 Qb h55) (
ldB v54 h55 fun b60=>
j59 (AV.bool b60) h55)) fun j56=>
br b46 (
j56 Qb h51) (
j56 (AV.ptr n1 11) h51)) fun j52=>
br b46 (
j52 Qb h48) (
ldS v47 h48 fun s53=>
j52 (AV.str s53) h48)) fun j49=>
br b46 (
j49 Qb h42) (
j49 (AV.ptr n1 10) h42)) fun j43=>
br b27 (
j43 Qb h36) (
asB v35 fun b44=>
fB (Bool.not b44) fun b45=>
j43 (AV.bool b45) h36)) fun j37=>
br b27 (
j37 Qb h32) (
asS v31 fun s39=>
c141 s39 h32 fun b40 h38=>
j37 (AV.bool b40) h38)) fun j33=>
br b27 (
j33 Qb h29) (
ldS v28 h29 fun s34=>
j33 (AV.str s34) h29)) fun j30=>
br b27 (
j30 Qb h23) (
j30 (AV.ptr n1 6) h23)) fun j24=>
br b8 (
j24 Qb h17) (
asB v16 fun b25=>
fB (Bool.not b25) fun b26=>
j24 (AV.bool b26) h17)) fun j18=>
br b8 (
j18 Qb h13) (
asS v12 fun s20=>
c141 s20 h13 fun b21 h19=>
j18 (AV.bool b21) h19)) fun j14=>
br b8 (
j14 Qb h10) (
ldS v9 h10 fun s15=>
j14 (AV.str s15) h10)) fun j11=>
br b8 (
j11 Qb h5) (
j11 (AV.ptr n1 0) h5)
def s96 : AV→H→(Int→H→Prop)→Prop:=s96G J0 s28 s93 s141 s144
def w96 (c : AV→H→(Int→H→Prop)→Prop) : Fun:=fun xs h k=>arg xs fun a0 xs=>QB xs <| c a0 h fun r0 h=>k (.int .i64 r0) h
theorem s96_eq (J : Qm) (c28 : AV→H→(Int→H→Prop)→Prop) (c93 : AV→H→(Int→Int→H→Prop)→Prop) (c141 : Str→H→(Bool→H→Prop)→Prop) (c144 : Str→Bool→H→(Bool→H→Prop)→Prop) (a0 : AV) (h : H) (k : AV→H→Prop) : Ql ty (gam J [(28,w28 c28),(93,w93 c93),(141,w141 c141),(144,w144 c144)]) Tryz.f96 [a0] h k = s96G J c28 c93 c141 c144 a0 h (fun r0 h=>k (.int .i64 r0) h):=by kernel_rfl
def QdF (J : Qm) (a0 : AV) (a1 : AV) (a2 : AV) (h : H) (k : AV→H→Prop) : Prop :=
Go.Am.asAgg a0 fun l3=>
Qs (.cells false 40 l3) h fun n1 h2=>
Go.Am.asAgg a1 fun l6=>
Qs (.cells false 65 l6) h2 fun n4 h5=>
Go.Am.asAgg a2 fun l9=>
Qs (.cells false 29 l9) h5 fun n7 h8=>
Qs (.cells false 143 [(.str ⟨0,0⟩),(.int .i32 0),(.int .i32 0),(.int .i64 0),(.int .i32 0),(.int .i32 0),(.str ⟨0,0⟩),(.int .i64 0),(.int .i32 0),(.int .i32 0),(.str ⟨0,0⟩),(.bool false)]) h8 fun n10 h11=>
ldS (AV.ptr n4 0) h11 fun s12=>
ldN 2 (AV.ptr n1 6) h11 fun l13=>
ldN 3 (AV.ptr n1 8) h11 fun l14=>
ldS (AV.ptr n1 14) h11 fun s15=>
ldN 3 (AV.ptr n7 0) h11 fun l16=>
ldS (AV.ptr n4 1) h11 fun s17=>
ldB (AV.ptr n4 2) h11 fun b18=>
ck (Nat.beq (List.length l13) 2) (op' (Qy 1 l13 [(AV.str s12),(.int .i32 0),(.int .i32 0),(.int .i64 0),(.int .i32 0),(.int .i32 0),(.str ⟨0,0⟩),(.int .i64 0),(.int .i32 0),(.int .i32 0),(.str ⟨0,0⟩),(.bool false)]) fun l19=>
ck (Nat.beq (List.length l14) 3) (op' (Qy 3 l14 l19) fun l20=>
op' (Qy 6 [(AV.str s15)] l20) fun l21=>
ck (Nat.beq (List.length l16) 3) (op' (Qy 7 l16 l21) fun l22=>
op' (Qy 10 [(AV.str s17)] l22) fun l23=>
op' (Qy 11 [(AV.bool b18)] l23) fun l24=>
stN 12 (AV.ptr n10 0) l24 h11 fun h25=>
ldN 12 (AV.ptr n10 0) h25 fun l26=>
k (AV.agg l26) h25)))
def s97 : AV→AV→AV→H→(AV→H→Prop)→Prop:=QdF J0
def w97 (c : AV→AV→AV→H→(AV→H→Prop)→Prop) : Fun:=fun xs h k=>arg xs fun a0 xs=>arg xs fun a1 xs=>arg xs fun a2 xs=>QB xs <| c a0 a1 a2 h fun r0 h=>k r0 h
theorem s97_eq (J : Qm) (a0 : AV) (a1 : AV) (a2 : AV) (h : H) (k : AV→H→Prop) : Ql ty (gam J []) Tryz.f97 [a0,a1,a2] h k = QdF J  a0 a1 a2 h (fun r0 h=>k r0 h):=by kernel_rfl
def g97 : Fun:=w97 s97
theorem g97_ok : Qe Tryz.prog 97 g97:=(Qf Qi Qj (Qg (J:=J0) (Qc Qd)) Tryz.func97 (fun args w=>by simp)).imp fun xs h k e0=>by
  obtain ⟨a0,xs0,rfl,e1⟩:=Qp e0
  obtain ⟨a1,xs1,rfl,e2⟩:=Qp e1
  obtain ⟨a2,xs2,rfl,e3⟩:=Qp e2
  obtain ⟨rfl,e4⟩:=Qt e3
  exact (s97_eq J0  a0 a1 a2 h k).mpr e4
def s61G (J : Qm) (c96 : AV→H→(Int→H→Prop)→Prop) (c97 : AV→AV→AV→H→(AV→H→Prop)→Prop) (a0 : AV) (h : H) (k : Bool→H→Prop) : Prop :=
Go.Am.asAgg a0 fun l3=>
Qs (.cells false 40 l3) h fun n1 h2=>
J.lp (α:=AV × AV × Unit) (fun r7 v4 d5 h6=>
faK 27 v4.1 fun p8=>
ldV p8 h6 fun v9=>
Q6 v9 fun x10=>
asI .i64 v4.2.1 fun x11=>
fB (ltI x11 (Int.ofNat x10)) fun b12=>
br b12 (
ldN 42 v4.1 h6 fun l13=>
faK 27 v4.1 fun p14=>
ldV p14 h6 fun v15=>
ixK 3 v15 v4.2.1 fun p16=>
ldN 3 p16 h6 fun l17=>
faK 17 v4.1 fun p18=>
ldN 3 p18 h6 fun l19=>
c97 (AV.agg l13) (AV.agg l17) (AV.agg l19) h6 fun v21 h20=>
c96 v21 h20 fun x23 h22=>
fB (Bool.not (eqI x23 (Int.ofNat 0))) fun b24=>
J.jn (fun v25 h26=>
J.jn (fun v28 h29=>
J.jn (fun v33 h34=>
J.jn (fun v36 h37=>
J.jb (fun b40 v41=>
J.jn (fun v44 h45=>
J.jn (fun v47 h48=>
J.jn (fun v51 h52=>
J.jb (fun b55 v56=>
J.jn (fun v59 h60=>
J.jb (fun b63 v64=>
J.jn (fun v67 h68=>
J.jn (fun v70 h71=>
J.jn (fun v75 h76=>
J.jn (fun v79 h80=>
J.jb (fun b83 v84=>
J.jn (fun v87 h88=>
J.jn (fun v93 h94=>
Qo (AV.bool b24) (AV.bool true) v93 fun b97=>
br b97 (
Qr (gam J [(96,w96 c96),(97,w97 c97)]) d5 h94 fun h98=>
k false h98) (
asI .i64 v4.2.1 fun x99=>
fI (Qu .i64 (Int.add x99 (Int.ofNat 1))) fun x100=>
r7 (v4.1,(AV.int .i64 x100),()) d5 h94)) fun j95=>
br b24 (
j95 Qb h88) (
Qo v33 v87 (AV.bool false) fun b96=>
j95 (AV.bool b96) h88)) fun j89=>
QH v33 (fun b101=>
br b101 (
asS v56 fun s90=>
asS v84 fun s91=>
fB (Bool.not (Str.lt s91 s90)) fun b92=>
j89 (AV.bool b92) h80) (
j89 Qb h80)) (
j89 Qb h80)) fun j85=>
QH v33 (fun b102=>
br b102 (
ldS v79 h80 fun s86=>
j85 true (AV.str s86)) (
j85 false Qb)) (
j85 false Qb)) fun j81=>
QH v33 (fun b103=>
br b103 (
faK 0 v75 fun p82=>
j81 p82 h76) (
j81 Qb h76)) (
j81 Qb h76)) fun j77=>
QH v33 (fun b104=>
br b104 (
ixK 3 v64 v70 fun p78=>
j77 p78 h71) (
j77 Qb h71)) (
j77 Qb h71)) fun j72=>
QH v33 (fun b105=>
br b105 (
asI .i64 v67 fun x73=>
fI (Qu .i64 (Int.sub x73 (Int.ofNat 1))) fun x74=>
j72 (AV.int .i64 x74) h68) (
j72 Qb h68)) (
j72 Qb h68)) fun j69=>
QH v33 (fun b106=>
br b106 (
j69 v4.2.1 h60) (
j69 Qb h60)) (
j69 Qb h60)) fun j65=>
QH v33 (fun b107=>
br b107 (
ldV v59 h60 fun v66=>
j65 true v66) (
j65 false Qb)) (
j65 false Qb)) fun j61=>
QH v33 (fun b108=>
br b108 (
faK 27 v4.1 fun p62=>
j61 p62 h52) (
j61 Qb h52)) (
j61 Qb h52)) fun j57=>
QH v33 (fun b109=>
br b109 (
ldS v51 h52 fun s58=>
j57 true (AV.str s58)) (
j57 false Qb)) (
j57 false Qb)) fun j53=>
QH v33 (fun b110=>
br b110 (
faK 0 v47 fun p54=>
j53 p54 h48) (
j53 Qb h48)) (
j53 Qb h48)) fun j49=>
QH v33 (fun b111=>
br b111 (
ixK 3 v41 v44 fun p50=>
j49 p50 h45) (
j49 Qb h45)) (
j49 Qb h45)) fun j46=>
QH v33 (fun b112=>
br b112 (
j46 v4.2.1 h37) (
j46 Qb h37)) (
j46 Qb h37)) fun j42=>
QH v33 (fun b113=>
br b113 (
ldV v36 h37 fun v43=>
j42 true v43) (
j42 false Qb)) (
j42 false Qb)) fun j38=>
QH v33 (fun b114=>
br b114 (
faK 27 v4.1 fun p39=>
j38 p39 h34) (
j38 Qb h34)) (
j38 Qb h34)) fun j35=>
br b24 (
j35 Qb h29) (
j35 v28 h29)) fun j30=>
br b24 (
j30 Qb h26) (
asI .i64 v25 fun x31=>
fB (ltI (Int.ofNat 0) x31) fun b32=>
j30 (AV.bool b32) h26)) fun j27=>
br b24 (
j27 Qb h22) (
j27 v4.2.1 h22)) (
faK 27 v4.1 fun p115=>
ldV p115 h6 fun v116=>
Q6 v116 fun x117=>
fB (Bool.not (ltI (Int.ofNat x117) (Int.ofNat 1))) fun b118=>
J.jn (fun v119 h120=>
J.jn (fun v123 h124=>
J.jn (fun v127 h128=>
J.jn (fun v131 h132=>
Qo (AV.bool b118) v131 (AV.bool false) fun b136=>
Qr (gam J [(96,w96 c96),(97,w97 c97)]) d5 h132 fun h137=>
k b136 h137) fun j133=>
br b118 (
asI .i64 v127 fun x134=>
fB (Bool.not (ltI (Int.ofNat 24) x134)) fun b135=>
j133 (AV.bool b135) h128) (
j133 Qb h128)) fun j129=>
br b118 (
Q6 v123 fun x130=>
j129 (AV.int .i64 (Int.ofNat x130)) h124) (
j129 Qb h124)) fun j125=>
br b118 (
ldV v119 h120 fun v126=>
j125 v126 h120) (
j125 Qb h120)) fun j121=>
br b118 (
faK 27 v4.1 fun p122=>
j121 p122 h6) (
j121 Qb h6))) ((AV.ptr n1 0),(AV.int .i64 (Int.ofNat 0)),()) [] h2
def s61 : AV→H→(Bool→H→Prop)→Prop:=s61G J0 s96 s97
def w61 (c : AV→H→(Bool→H→Prop)→Prop) : Fun:=fun xs h k=>arg xs fun a0 xs=>QB xs <| c a0 h fun r0 h=>k (.bool r0) h
theorem s61_eq (J : Qm) (c96 : AV→H→(Int→H→Prop)→Prop) (c97 : AV→AV→AV→H→(AV→H→Prop)→Prop) (a0 : AV) (h : H) (k : AV→H→Prop) : Ql ty (gam J [(96,w96 c96),(97,w97 c97)]) Tryz.f61 [a0] h k = s61G J c96 c97 a0 h (fun r0 h=>k (.bool r0) h):=by kernel_rfl
end Go.Proofs.YtodlaigjjknpkaaGreatDoor
