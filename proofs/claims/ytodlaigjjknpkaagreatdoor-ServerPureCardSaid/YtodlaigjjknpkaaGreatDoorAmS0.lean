import Derived.Test.YtodlaigjjknpkaaGreatDoorAmTys
noncomputable section
namespace Go.Proofs.YtodlaigjjknpkaaGreatDoor
open Go Go.Am
set_option maxRecDepth 100000
set_option linter.all false
def g30 : Fun:=Ql ty (gam J0 []) Tryz.f30
theorem g30_ok : Qe Tryz.prog 30 g30:=Qf Qi Qj (Qg (J:=J0) (Qc Qd)) Tryz.func30 (fun args w=>by simp)
def s23G (J : Qm) (a0 : Int) (a1 : Int) (a2 : Int) (h : H) (k : Bool→H→Prop) : Prop :=
fB (Bool.not (ltI a0 a1)) fun b1=>
J.jn (fun v2 h3=>
J.jn (fun v5 h6=>
J.jn (fun v8 h9=>
Qo (AV.bool b1) v8 (AV.bool false) fun b14=>
k b14 h9) fun j10=>
br b1 (
asI .i64 v2 fun x11=>
asI .i64 v5 fun x12=>
fB (Bool.not (ltI x12 x11)) fun b13=>
j10 (AV.bool b13) h6) (
j10 Qb h6)) fun j7=>
br b1 (
j7 (AV.int .i64 a2) h3) (
j7 Qb h3)) fun j4=>
br b1 (
j4 (AV.int .i64 a0) h) (
j4 Qb h)
def s23 : Int→Int→Int→H→(Bool→H→Prop)→Prop:=s23G J0
def w23 (c : Int→Int→Int→H→(Bool→H→Prop)→Prop) : Fun:=fun xs h k=>arg xs fun a0 xs=>arg xs fun a1 xs=>arg xs fun a2 xs=>QB xs <| asI .i64 a0 fun a0=>asI .i64 a1 fun a1=>asI .i64 a2 fun a2=>c a0 a1 a2 h fun r0 h=>k (.bool r0) h
theorem Qef (J : Qm) (a0 : Int) (a1 : Int) (a2 : Int) (h : H) (k : AV→H→Prop) : Ql ty (gam J []) Tryz.f23 [(.int .i64 a0),(.int .i64 a1),(.int .i64 a2)] h k = s23G J  a0 a1 a2 h (fun r0 h=>k (.bool r0) h):=by kernel_rfl
def g23 : Fun:=w23 s23
theorem Qfs : Qe Tryz.prog 23 g23:=(Qf Qi Qj (Qg (J:=J0) (Qc Qd)) Tryz.func23 (fun args w=>by simp)).imp fun xs h k e0=>by
  obtain ⟨a0,xs0,rfl,e1⟩:=Qp e0
  obtain ⟨a1,xs1,rfl,e2⟩:=Qp e1
  obtain ⟨a2,xs2,rfl,e3⟩:=Qp e2
  obtain ⟨rfl,e4⟩:=Qt e3
  obtain ⟨a0,rfl,e5⟩:=QD.1 e4
  obtain ⟨a1,rfl,e6⟩:=QD.1 e5
  obtain ⟨a2,rfl,e7⟩:=QD.1 e6
  exact (Qef J0  a0 a1 a2 h k).mpr e7
def s92G (J : Qm) (a0 : AV) (a1 : Str) (h : H) (k : Int→H→Prop) : Prop :=
Q6 a0 fun x1=>
J.lp (α:=AV × AV × AV × AV × Unit) (fun r5 v2 d3 h4=>
asI .i64 v2.2.2.2.1 fun x6=>
asI .i64 v2.2.2.1 fun x7=>
fB (ltI x6 x7) fun b8=>
br b8 (
ixK 1 v2.1 v2.2.2.2.1 fun p9=>
ldS p9 h4 fun s10=>
asS v2.2.1 fun s11=>
fB (Str.beq s11 s10) fun b12=>
br b12 (
Qr (gam J []) d3 h4 fun h13=>
asI .i64 v2.2.2.2.1 fun x14=>
k x14 h13) (
asI .i64 v2.2.2.2.1 fun x15=>
fI (Qu .i64 (Int.add x15 (Int.ofNat 1))) fun x16=>
r5 (v2.1,v2.2.1,v2.2.2.1,(AV.int .i64 x16),()) d3 h4)) (
Qr (gam J []) d3 h4 fun h17=>
k (Int.negSucc 0) h17)) (a0,(AV.str a1),(AV.int .i64 (Int.ofNat x1)),(AV.int .i64 (Int.ofNat 0)),()) [] h
def s92 : AV→Str→H→(Int→H→Prop)→Prop:=s92G J0
def w92 (c : AV→Str→H→(Int→H→Prop)→Prop) : Fun:=fun xs h k=>arg xs fun a0 xs=>arg xs fun a1 xs=>QB xs <| asS a1 fun a1=>c a0 a1 h fun r0 h=>k (.int .i64 r0) h
theorem QdH (J : Qm) (a0 : AV) (a1 : Str) (h : H) (k : AV→H→Prop) : Ql ty (gam J []) Tryz.f92 [a0,(.str a1)] h k = s92G J  a0 a1 h (fun r0 h=>k (.int .i64 r0) h):=by kernel_rfl
def g92 : Fun:=w92 s92
theorem g92_ok : Qe Tryz.prog 92 g92:=(Qf Qi Qj (Qg (J:=J0) (Qc Qd)) Tryz.func92 (fun args w=>by simp)).imp fun xs h k e0=>by
  obtain ⟨a0,xs0,rfl,e1⟩:=Qp e0
  obtain ⟨a1,xs1,rfl,e2⟩:=Qp e1
  obtain ⟨rfl,e3⟩:=Qt e2
  obtain ⟨a1,rfl,e4⟩:=QI.1 e3
  exact (QdH J0  a0 a1 h k).mpr e4
def s53G (J : Qm) (c92 : AV→Str→H→(Int→H→Prop)→Prop) (a0 : AV) (a1 : Str) (h : H) (k : Bool→H→Prop) : Prop :=
c92 a0 a1 h fun x2 h1=>
fB (Bool.not (ltI x2 (Int.ofNat 0))) fun b3=>
k b3 h1
def s53 : AV→Str→H→(Bool→H→Prop)→Prop:=s53G J0 s92
def w53 (c : AV→Str→H→(Bool→H→Prop)→Prop) : Fun:=fun xs h k=>arg xs fun a0 xs=>arg xs fun a1 xs=>QB xs <| asS a1 fun a1=>c a0 a1 h fun r0 h=>k (.bool r0) h
theorem QdV (J : Qm) (c92 : AV→Str→H→(Int→H→Prop)→Prop) (a0 : AV) (a1 : Str) (h : H) (k : AV→H→Prop) : Ql ty (gam J [(92,w92 c92)]) Tryz.f53 [a0,(.str a1)] h k = s53G J c92 a0 a1 h (fun r0 h=>k (.bool r0) h):=by kernel_rfl
def g53 : Fun:=w53 s53
theorem g53_ok : Qe Tryz.prog 53 g53:=(Qf Qi Qj (Qg (J:=J0) (Qa g92_ok (Qc Qd))) Tryz.func53 (fun args w=>by simp)).imp fun xs h k e0=>by
  obtain ⟨a0,xs0,rfl,e1⟩:=Qp e0
  obtain ⟨a1,xs1,rfl,e2⟩:=Qp e1
  obtain ⟨rfl,e3⟩:=Qt e2
  obtain ⟨a1,rfl,e4⟩:=QI.1 e3
  exact (QdV J0 s92 a0 a1 h k).mpr e4
def s24G (J : Qm) (c53 : AV→Str→H→(Bool→H→Prop)→Prop) (a0 : AV) (h : H) (k : Int→H→Prop) : Prop :=
Q6 a0 fun x1=>
fB (ltI (Int.ofNat 15) (Int.ofNat x1)) fun b2=>
br b2 (
k (Int.ofNat 3) h) (
c53 a0 ⟨0,0⟩ h fun b4 h3=>
br b4 (
k (Int.ofNat 2) h3) (
J.lp (α:=AV × AV × Unit) (fun r8 v5 d6 h7=>
Q6 v5.1 fun x9=>
asI .i64 v5.2.1 fun x10=>
fB (ltI x10 (Int.ofNat x9)) fun b11=>
br b11 (
asI .i64 v5.2.1 fun x12=>
fI (Qu .i64 (Int.sub x12 (Int.ofNat 1))) fun x13=>
ixK 1 v5.1 (AV.int .i64 x13) fun p14=>
ldS p14 h7 fun s15=>
ixK 1 v5.1 v5.2.1 fun p16=>
ldS p16 h7 fun s17=>
fB (Bool.not (Str.lt s15 s17)) fun b18=>
br b18 (
Qr (gam J [(53,w53 c53)]) d6 h7 fun h19=>
k (Int.ofNat 10) h19) (
asI .i64 v5.2.1 fun x20=>
fI (Qu .i64 (Int.add x20 (Int.ofNat 1))) fun x21=>
r8 (v5.1,(AV.int .i64 x21),()) d6 h7)) (
Qr (gam J [(53,w53 c53)]) d6 h7 fun h22=>
k (Int.ofNat 0) h22)) (a0,(AV.int .i64 (Int.ofNat 1)),()) [] h3))
def s24 : AV→H→(Int→H→Prop)→Prop:=s24G J0 s53
def w24 (c : AV→H→(Int→H→Prop)→Prop) : Fun:=fun xs h k=>arg xs fun a0 xs=>QB xs <| c a0 h fun r0 h=>k (.int .i64 r0) h
theorem Qee (J : Qm) (c53 : AV→Str→H→(Bool→H→Prop)→Prop) (a0 : AV) (h : H) (k : AV→H→Prop) : Ql ty (gam J [(53,w53 c53)]) Tryz.f24 [a0] h k = s24G J c53 a0 h (fun r0 h=>k (.int .i64 r0) h):=by kernel_rfl
def g24 : Fun:=w24 s24
theorem NU : Qe Tryz.prog 24 g24:=(Qf Qi Qj (Qg (J:=J0) (Qa g53_ok (Qc Qd))) Tryz.func24 (fun args w=>by simp)).imp fun xs h k e0=>by
  obtain ⟨a0,xs0,rfl,e1⟩:=Qp e0
  obtain ⟨rfl,e2⟩:=Qt e1
  exact (Qee J0 s53 a0 h k).mpr e2
def s54G (J : Qm) (a0 : AV) (h : H) (k : AV→Int→H→Prop) : Prop :=
Q6 a0 fun x1=>
J.lp (α:=AV × AV × AV × AV × Unit) (fun r5 v2 d3 h4=>
asI .i64 v2.2.2.2.1 fun x6=>
asI .i64 v2.2.2.1 fun x7=>
fB (ltI x6 x7) fun b8=>
br b8 (
ixK 1 v2.2.1 v2.2.2.2.1 fun p9=>
ldI .i64 p9 h4 fun x10=>
fB (ltI x10 (Int.ofNat 1)) fun b11=>
J.jn (fun v12 h13=>
J.jn (fun v15 h16=>
Qo (AV.bool b11) (AV.bool true) v15 fun b20=>
br b20 (
Qr (gam J []) d3 h16 fun h21=>
k AV.nilp (Int.ofNat 2) h21) (
asI .i64 v2.2.2.2.1 fun x22=>
fI (Qu .i64 (Int.add x22 (Int.ofNat 1))) fun x23=>
r5 (v2.1,v2.2.1,v2.2.2.1,(AV.int .i64 x23),()) d3 h16)) fun j17=>
br b11 (
j17 Qb h13) (
asI .i64 v12 fun x18=>
fB (ltI (Int.ofNat 12) x18) fun b19=>
j17 (AV.bool b19) h13)) fun j14=>
br b11 (
j14 Qb h4) (
j14 (AV.int .i64 x10) h4)) (
apC 3 1 8 AV.nils v2.1 h4 fun v24 h25=>
ck (ZQ v24) (Qs (.cells false 163 [(.str ⟨0,0⟩),(.str ⟨0,0⟩),(.int .i64 0),(.bool false),(.int .i64 0),(.nilp),(.nilp),(.nilp),(.nilp),(.nilp),(.nilp),(.nilp),(.nilp),(.nilp),(.nilp),(.nilp),(.nilp),v24,(.int .i64 0),(.int .i64 0),(AV.bool true)]) h25 fun n26 h27=>
Qr (gam J []) d3 h27 fun h28=>
k (AV.ptr n26 0) (Int.ofNat 0) h28))) (a0,a0,(AV.int .i64 (Int.ofNat x1)),(AV.int .i64 (Int.ofNat 0)),()) [] h
def s54 : AV→H→(AV→Int→H→Prop)→Prop:=s54G J0
def w54 (c : AV→H→(AV→Int→H→Prop)→Prop) : Fun:=fun xs h k=>arg xs fun a0 xs=>QB xs <| c a0 h fun r0 r1 h=>k (.tuple [r0,(.int .i64 r1)]) h
theorem QdU (J : Qm) (a0 : AV) (h : H) (k : AV→H→Prop) : Ql ty (gam J []) Tryz.f54 [a0] h k = s54G J  a0 h (fun r0 r1 h=>k (.tuple [r0,(.int .i64 r1)]) h):=by kernel_rfl
def g54 : Fun:=w54 s54
theorem Qfe : Qe Tryz.prog 54 g54:=(Qf Qi Qj (Qg (J:=J0) (Qc Qd)) Tryz.func54 (fun args w=>by simp)).imp fun xs h k e0=>by
  obtain ⟨a0,xs0,rfl,e1⟩:=Qp e0
  obtain ⟨rfl,e2⟩:=Qt e1
  exact (QdU J0  a0 h k).mpr e2
def s25G (J : Qm) (c54 : AV→H→(AV→Int→H→Prop)→Prop) (a0 : AV) (h : H) (k : Int→H→Prop) : Prop :=
Go.Am.asAgg a0 fun l3=>
Qs (.cells false 25 l3) h fun n1 h2=>
ldV (AV.ptr n1 0) h2 fun v4=>
c54 v4 h2 fun v6 x7 h5=>
fB (Bool.not (eqI x7 (Int.ofNat 0))) fun b8=>
J.jn (fun v9 h10=>
J.jn (fun v12 h13=>
J.jn (fun v16 h17=>
Qo (AV.bool b8) (AV.bool true) v16 fun b21=>
J.jn (fun v22 h23=>
J.jn (fun v25 h26=>
J.jn (fun v29 h30=>
Qo (AV.bool b21) (AV.bool true) v29 fun b34=>
J.jn (fun v35 h36=>
J.jn (fun v38 h39=>
J.jn (fun v42 h43=>
Qo (AV.bool b34) (AV.bool true) v42 fun b47=>
J.jn (fun v48 h49=>
J.jn (fun v51 h52=>
J.jn (fun v55 h56=>
Qo (AV.bool b47) (AV.bool true) v55 fun b60=>
J.jn (fun v61 h62=>
J.jn (fun v64 h65=>
J.jn (fun v68 h69=>
Qo (AV.bool b60) (AV.bool true) v68 fun b73=>
J.jn (fun v74 h75=>
J.jn (fun v77 h78=>
J.jn (fun v81 h82=>
Qo (AV.bool b73) (AV.bool true) v81 fun b86=>
J.jn (fun v87 h88=>
J.jn (fun v90 h91=>
J.jn (fun v94 h95=>
Qo (AV.bool b86) (AV.bool true) v94 fun b99=>
J.jn (fun v100 h101=>
J.jn (fun v103 h104=>
J.jn (fun v107 h108=>
Qo (AV.bool b99) (AV.bool true) v107 fun b112=>
br b112 (
k (Int.ofNat 2) h108) (
k (Int.ofNat 0) h108)) fun j109=>
br b99 (
j109 Qb h104) (
asI .i64 v103 fun x110=>
fB (ltI (Int.ofNat 65536) x110) fun b111=>
j109 (AV.bool b111) h104)) fun j105=>
br b99 (
j105 Qb h101) (
ldI .i64 v100 h101 fun x106=>
j105 (AV.int .i64 x106) h101)) fun j102=>
br b99 (
j102 Qb h95) (
j102 (AV.ptr n1 4) h95)) fun j96=>
br b86 (
j96 Qb h91) (
asI .i64 v90 fun x97=>
fB (ltI x97 (Int.ofNat 1)) fun b98=>
j96 (AV.bool b98) h91)) fun j92=>
br b86 (
j92 Qb h88) (
ldI .i64 v87 h88 fun x93=>
j92 (AV.int .i64 x93) h88)) fun j89=>
br b86 (
j89 Qb h82) (
j89 (AV.ptr n1 4) h82)) fun j83=>
br b73 (
j83 Qb h78) (
asI .i64 v77 fun x84=>
fB (ltI (Int.ofNat 64) x84) fun b85=>
j83 (AV.bool b85) h78)) fun j79=>
br b73 (
j79 Qb h75) (
ldI .i64 v74 h75 fun x80=>
j79 (AV.int .i64 x80) h75)) fun j76=>
br b73 (
j76 Qb h69) (
j76 (AV.ptr n1 3) h69)) fun j70=>
br b60 (
j70 Qb h65) (
asI .i64 v64 fun x71=>
fB (ltI x71 (Int.ofNat 1)) fun b72=>
j70 (AV.bool b72) h65)) fun j66=>
br b60 (
j66 Qb h62) (
ldI .i64 v61 h62 fun x67=>
j66 (AV.int .i64 x67) h62)) fun j63=>
br b60 (
j63 Qb h56) (
j63 (AV.ptr n1 3) h56)) fun j57=>
br b47 (
j57 Qb h52) (
asI .i64 v51 fun x58=>
fB (ltI (Int.ofNat 16) x58) fun b59=>
j57 (AV.bool b59) h52)) fun j53=>
br b47 (
j53 Qb h49) (
ldI .i64 v48 h49 fun x54=>
j53 (AV.int .i64 x54) h49)) fun j50=>
br b47 (
j50 Qb h43) (
j50 (AV.ptr n1 2) h43)) fun j44=>
br b34 (
j44 Qb h39) (
asI .i64 v38 fun x45=>
fB (ltI x45 (Int.ofNat 1)) fun b46=>
j44 (AV.bool b46) h39)) fun j40=>
br b34 (
j40 Qb h36) (
ldI .i64 v35 h36 fun x41=>
j40 (AV.int .i64 x41) h36)) fun j37=>
br b34 (
j37 Qb h30) (
j37 (AV.ptr n1 2) h30)) fun j31=>
br b21 (
j31 Qb h26) (
asI .i64 v25 fun x32=>
fB (ltI (Int.ofNat 64) x32) fun b33=>
j31 (AV.bool b33) h26)) fun j27=>
br b21 (
j27 Qb h23) (
ldI .i64 v22 h23 fun x28=>
j27 (AV.int .i64 x28) h23)) fun j24=>
br b21 (
j24 Qb h17) (
j24 (AV.ptr n1 1) h17)) fun j18=>
br b8 (
j18 Qb h13) (
asI .i64 v12 fun x19=>
fB (ltI x19 (Int.ofNat 1)) fun b20=>
j18 (AV.bool b20) h13)) fun j14=>
br b8 (
j14 Qb h10) (
ldI .i64 v9 h10 fun x15=>
j14 (AV.int .i64 x15) h10)) fun j11=>
br b8 (
j11 Qb h5) (
j11 (AV.ptr n1 1) h5)
def s25 : AV→H→(Int→H→Prop)→Prop:=s25G J0 s54
def w25 (c : AV→H→(Int→H→Prop)→Prop) : Fun:=fun xs h k=>arg xs fun a0 xs=>QB xs <| c a0 h fun r0 h=>k (.int .i64 r0) h
theorem Qec (J : Qm) (c54 : AV→H→(AV→Int→H→Prop)→Prop) (a0 : AV) (h : H) (k : AV→H→Prop) : Ql ty (gam J [(54,w54 c54)]) Tryz.f25 [a0] h k = s25G J c54 a0 h (fun r0 h=>k (.int .i64 r0) h):=by kernel_rfl
def g25 : Fun:=w25 s25
theorem Qfq : Qe Tryz.prog 25 g25:=(Qf Qi Qj (Qg (J:=J0) (Qa Qfe (Qc Qd))) Tryz.func25 (fun args w=>by simp)).imp fun xs h k e0=>by
  obtain ⟨a0,xs0,rfl,e1⟩:=Qp e0
  obtain ⟨rfl,e2⟩:=Qt e1
  exact (Qec J0 s54 a0 h k).mpr e2
def s8G (J : Qm) (c23 : Int→Int→Int→H→(Bool→H→Prop)→Prop) (c24 : AV→H→(Int→H→Prop)→Prop) (c25 : AV→H→(Int→H→Prop)→Prop) (a0 : AV) (h : H) (k : Int→H→Prop) : Prop :=
Go.Am.asAgg a0 fun l3=>
Qs (.cells false 27 l3) h fun n1 h2=>
ldI .i64 (AV.ptr n1 0) h2 fun x4=>
c23 x4 (Int.ofNat 1) (Int.ofNat 7) h2 fun b6 h5=>
fB (Bool.not b6) fun b7=>
J.jn (fun v8 h9=>
J.jn (fun v11 h12=>
J.jn (fun v15 h16=>
J.jn (fun v20 h21=>
Qo (AV.bool b7) (AV.bool true) v20 fun b25=>
J.jn (fun v26 h27=>
J.jn (fun v29 h30=>
J.jn (fun v33 h34=>
J.jn (fun v39 h40=>
Qo (AV.bool b25) (AV.bool true) v39 fun b44=>
J.jn (fun v45 h46=>
J.jn (fun v48 h49=>
J.jn (fun v52 h53=>
J.jn (fun v58 h59=>
Qo (AV.bool b44) (AV.bool true) v58 fun b63=>
J.jn (fun v64 h65=>
J.jn (fun v67 h68=>
J.jn (fun v71 h72=>
J.jn (fun v77 h78=>
Qo (AV.bool b63) (AV.bool true) v77 fun b82=>
J.jn (fun v83 h84=>
J.jn (fun v86 h87=>
J.jn (fun v90 h91=>
J.jn (fun v95 h96=>
Qo (AV.bool b82) (AV.bool true) v95 fun b100=>
br b100 (
k (Int.ofNat 2) h96) (
k (Int.ofNat 0) h96)) fun j97=>
br b82 (
j97 Qb h91) (
asI .i64 v90 fun x98=>
fB (Bool.not (eqI x98 (Int.ofNat 0))) fun b99=>
j97 (AV.bool b99) h91)) fun j92=>
br b82 (
j92 Qb h87) (
c25 v86 h87 fun x94 h93=>
j92 (AV.int .i64 x94) h93)) fun j88=>
br b82 (
j88 Qb h84) (
ldN 5 v83 h84 fun l89=>
j88 (AV.agg l89) h84)) fun j85=>
br b82 (
j85 Qb h78) (
j85 (AV.ptr n1 5) h78)) fun j79=>
br b63 (
j79 Qb h72) (
asB v71 fun b80=>
fB (Bool.not b80) fun b81=>
j79 (AV.bool b81) h72)) fun j73=>
br b63 (
j73 Qb h68) (
asI .i64 v67 fun x75=>
c23 x75 (Int.ofNat 1) (Int.ofNat 1073741824) h68 fun b76 h74=>
j73 (AV.bool b76) h74)) fun j69=>
br b63 (
j69 Qb h65) (
ldI .i64 v64 h65 fun x70=>
j69 (AV.int .i64 x70) h65)) fun j66=>
br b63 (
j66 Qb h59) (
j66 (AV.ptr n1 4) h59)) fun j60=>
br b44 (
j60 Qb h53) (
asB v52 fun b61=>
fB (Bool.not b61) fun b62=>
j60 (AV.bool b62) h53)) fun j54=>
br b44 (
j54 Qb h49) (
asI .i64 v48 fun x56=>
c23 x56 (Int.ofNat 0) (Int.ofNat 1073741824) h49 fun b57 h55=>
j54 (AV.bool b57) h55)) fun j50=>
br b44 (
j50 Qb h46) (
ldI .i64 v45 h46 fun x51=>
j50 (AV.int .i64 x51) h46)) fun j47=>
br b44 (
j47 Qb h40) (
j47 (AV.ptr n1 3) h40)) fun j41=>
br b25 (
j41 Qb h34) (
asB v33 fun b42=>
fB (Bool.not b42) fun b43=>
j41 (AV.bool b43) h34)) fun j35=>
br b25 (
j35 Qb h30) (
asI .i64 v29 fun x37=>
c23 x37 (Int.ofNat 0) (Int.ofNat 1073741824) h30 fun b38 h36=>
j35 (AV.bool b38) h36)) fun j31=>
br b25 (
j31 Qb h27) (
ldI .i64 v26 h27 fun x32=>
j31 (AV.int .i64 x32) h27)) fun j28=>
br b25 (
j28 Qb h21) (
j28 (AV.ptr n1 2) h21)) fun j22=>
br b7 (
j22 Qb h16) (
asI .i64 v15 fun x23=>
fB (Bool.not (eqI x23 (Int.ofNat 0))) fun b24=>
j22 (AV.bool b24) h16)) fun j17=>
br b7 (
j17 Qb h12) (
c24 v11 h12 fun x19 h18=>
j17 (AV.int .i64 x19) h18)) fun j13=>
br b7 (
j13 Qb h9) (
ldV v8 h9 fun v14=>
j13 v14 h9)) fun j10=>
br b7 (
j10 Qb h5) (
j10 (AV.ptr n1 1) h5)
def s8 : AV→H→(Int→H→Prop)→Prop:=s8G J0 s23 s24 s25
def w8 (c : AV→H→(Int→H→Prop)→Prop) : Fun:=fun xs h k=>arg xs fun a0 xs=>QB xs <| c a0 h fun r0 h=>k (.int .i64 r0) h
theorem s8_eq (J : Qm) (c23 : Int→Int→Int→H→(Bool→H→Prop)→Prop) (c24 : AV→H→(Int→H→Prop)→Prop) (c25 : AV→H→(Int→H→Prop)→Prop) (a0 : AV) (h : H) (k : AV→H→Prop) : Ql ty (gam J [(23,w23 c23),(24,w24 c24),(25,w25 c25)]) Tryz.f8 [a0] h k = s8G J c23 c24 c25 a0 h (fun r0 h=>k (.int .i64 r0) h):=by kernel_rfl
def g8 : Fun:=w8 s8
theorem g8_ok : Qe Tryz.prog 8 g8:=(Qf Qi Qj (Qg (J:=J0) (Qa Qfs (Qa NU (Qa Qfq (Qc Qd))))) Tryz.func8 (fun args w=>by simp)).imp fun xs h k e0=>by
  obtain ⟨a0,xs0,rfl,e1⟩:=Qp e0
  obtain ⟨rfl,e2⟩:=Qt e1
  exact (s8_eq J0 s23 s24 s25 a0 h k).mpr e2
def s146G (J : Qm) (a0 : AV) (h : H) (k : AV→H→Prop) : Prop :=
Jr 2 a0 fun b1=>
br b1 (
k AV.nils h) (
op' (UX true 5 []) fun k4=>
Qs k4 h fun n2 h3=>
apB (.slice 5) 5 (AV.slice n2 0 0 0 1 true) a0 h3 fun v5 h6=>
k v5 h6)
def s146 : AV→H→(AV→H→Prop)→Prop:=s146G J0
def w146 (c : AV→H→(AV→H→Prop)→Prop) : Fun:=fun xs h k=>arg xs fun a0 xs=>QB xs <| c a0 h fun r0 h=>k r0 h
theorem s146_eq (J : Qm) (a0 : AV) (h : H) (k : AV→H→Prop) : Ql ty (gam J []) Tryz.f146 [a0] h k = s146G J  a0 h (fun r0 h=>k r0 h):=by kernel_rfl
def g146 : Fun:=w146 s146
theorem Xk : Qe Tryz.prog 146 g146:=(Qf Qi Qj (Qg (J:=J0) (Qc Qd)) Tryz.func146 (fun args w=>by simp)).imp fun xs h k e0=>by
  obtain ⟨a0,xs0,rfl,e1⟩:=Qp e0
  obtain ⟨rfl,e2⟩:=Qt e1
  exact (s146_eq J0  a0 h k).mpr e2
def s99G (J : Qm) (c146 : AV→H→(AV→H→Prop)→Prop) (a0 : AV) (a1 : AV) (h : H) (k : H→Prop) : Prop :=
Go.Am.asAgg a0 fun l3=>
Qs (.cells false 116 l3) h fun n1 h2=>
Go.Am.asAgg a1 fun l6=>
Qs (.cells false 169 l6) h2 fun n4 h5=>
ldI .i64 (AV.ptr n4 0) h5 fun x7=>
fB (eqI x7 (Int.ofNat 0)) fun b8=>
br b8 (
ldV (AV.ptr n1 0) h5 fun v9=>
ldI .i64 (AV.ptr n4 3) h5 fun x10=>
ldV (AV.ptr n1 0) h5 fun v11=>
ldI .i64 (AV.ptr n4 3) h5 fun x12=>
op' (Zf ty 3 132 false v11 (AV.int .i64 x12) h5) fun v13=>
ldV (AV.ptr n4 4) h5 fun v14=>
c146 v13 h5 fun v16 h15=>
ck (Zj (Zl (AV.ptr n4 4) h15) v14) (
ck (Zj (Zl (AV.ptr n4 3) h15) (AV.int .i64 x10)) (
ck (Zj (Zl (AV.ptr n1 0) h15) v9) (
apB (.slice 5) 5 v16 v14 h15 fun v17 h18=>
ck (Zj (Zl (AV.ptr n4 3) h18) (AV.int .i64 x10)) (
ck (Zj (Zl (AV.ptr n1 0) h18) v9) (
op' (Wm ty 3 v9 (AV.int .i64 x10) v17 h18) fun k19=>
ZL k19.1 k19.2 h18 fun h20=>
k  h20)))))) (
fB (eqI x7 (Int.ofNat 1)) fun b21=>
br b21 (
ldV (AV.ptr n1 1) h5 fun v22=>
ldS (AV.ptr n4 1) h5 fun s23=>
ldI .i64 (AV.ptr n4 3) h5 fun x24=>
op' (Wm ty 9 v22 (AV.str s23) (AV.int .i64 x24) h5) fun k25=>
ZL k25.1 k25.2 h5 fun h26=>
k  h26) (
fB (eqI x7 (Int.ofNat 2)) fun b27=>
br b27 (
ldS (AV.ptr n4 1) h5 fun s28=>
ldS (AV.ptr n4 2) h5 fun s29=>
fB (Bool.not (Str.beq s28 s29)) fun b30=>
br b30 (
ldV (AV.ptr n1 1) h5 fun v31=>
ldS (AV.ptr n4 2) h5 fun s32=>
ldV (AV.ptr n1 1) h5 fun v33=>
ldS (AV.ptr n4 1) h5 fun s34=>
op' (Zf ty 9 3 false v33 (AV.str s34) h5) fun v35=>
asI .i64 v35 fun x36=>
op' (Wm ty 9 v31 (AV.str s32) (AV.int .i64 x36) h5) fun k37=>
ZL k37.1 k37.2 h5 fun h38=>
ldV (AV.ptr n1 1) h38 fun v39=>
ldS (AV.ptr n4 1) h38 fun s40=>
delK (Jt ty 9 v39 (AV.str s40) h38) h38 fun h42=>
k  h42) (
k  h5)) (
fB (eqI x7 (Int.ofNat 3)) fun b43=>
br b43 (
ldV (AV.ptr n1 1) h5 fun v44=>
ldS (AV.ptr n4 1) h5 fun s45=>
delK (Jt ty 9 v44 (AV.str s45) h5) h5 fun h47=>
k  h47) (
k  h5))))
def s99 : AV→AV→H→(H→Prop)→Prop:=s99G J0 s146
def w99 (c : AV→AV→H→(H→Prop)→Prop) : Fun:=fun xs h k=>arg xs fun a0 xs=>arg xs fun a1 xs=>QB xs <| c a0 a1 h fun  h=>k (.tuple []) h
theorem s99_eq (J : Qm) (c146 : AV→H→(AV→H→Prop)→Prop) (a0 : AV) (a1 : AV) (h : H) (k : AV→H→Prop) : Ql ty (gam J [(146,w146 c146)]) Tryz.f99 [a0,a1] h k = s99G J c146 a0 a1 h (fun  h=>k (.tuple []) h):=by kernel_rfl
def g99 : Fun:=w99 s99
theorem QaH : Qe Tryz.prog 99 g99:=(Qf Qi Qj (Qg (J:=J0) (Qa Xk (Qc Qd))) Tryz.func99 (fun args w=>by simp)).imp fun xs h k e0=>by
  obtain ⟨a0,xs0,rfl,e1⟩:=Qp e0
  obtain ⟨a1,xs1,rfl,e2⟩:=Qp e1
  obtain ⟨rfl,e3⟩:=Qt e2
  exact (s99_eq J0 s146 a0 a1 h k).mpr e3
def Qdx : AV→AV→H→(H→Prop)→Prop:=fun a0 a1 h k=>∃ K : H→Prop,s99 a0 a1 h K ∧ ∀  h',K  h'→k  h'
theorem up99_ok : Qe Tryz.prog 99 (w99 Qdx):=QaH.up fun xs h k e0=>by
  obtain ⟨a0,xs0,rfl,e1⟩:=Qp e0
  obtain ⟨a1,xs1,rfl,e2⟩:=Qp e1
  obtain ⟨rfl,e3⟩:=Qt e2
  obtain ⟨K,q1,q2⟩:=e3
  refine ⟨fun r h'=>r = .tuple [] ∧ K h',?_,?_⟩
  · have hK : (fun  h' => AV.tuple [] = .tuple [] ∧ K h') = K := by funext  h'; apply propext; simp
    exact (congrArg (s99 a0 a1 h) hK).mpr q1
  · rintro r h' ⟨rfl,q3⟩; exact q2 _ q3
def s65G (J : Qm) (c99 : AV→AV→H→(H→Prop)→Prop) (a0 : AV) (a1 : Int) (a2 : Int) (h : H) (k : Int→H→Prop) : Prop :=
Jr 0 a0 fun b1=>
J.jn (fun v2 h3=>
J.jn (fun v5 h6=>
J.jn (fun v8 h9=>
J.jn (fun v12 h13=>
J.jn (fun v16 h17=>
Qo (AV.bool b1) (AV.bool true) v16 fun b21=>
br b21 (
k (Int.ofNat 1) h17) (
fB (ltI a1 (Int.ofNat 0)) fun b22=>
J.jn (fun v23 h24=>
J.jn (fun v26 h27=>
Qo (AV.bool b22) (AV.bool true) v26 fun b31=>
br b31 (
k (Int.ofNat 2) h27) (
J.jd (α:=AV × Unit) (fun v32 d33 h34=>
Za v32.1 (
faK 2 v32.1 fun p36=>
stV p36 AV.nils h34 fun h37=>
Za v32.1 (
faK 6 v32.1 fun p38=>
stV p38 (AV.bool false) h37 fun h39=>
Za v32.1 (
faK 5 v32.1 fun p40=>
stV p40 (AV.bool false) h39 fun h41=>
Qs (.smap []) h41 fun n42 h43=>
Za v32.1 (
faK 0 v32.1 fun p44=>
faK 1 p44 fun p45=>
ldV p45 h43 fun v46=>
Z9 v46 h43 fun v47 h48=>
J.lp (α:=AV × AV × AV × Unit) (fun r52 v49 d50 h51=>
YV v49.2.2.1 h51 fun v53 h54=>
asTup v53 fun l55=>
op' (Zd l55 0) fun v56=>
asB v56 fun b57=>
br b57 (
op' (ZV v49.2.2.1 h54) fun v58=>
asTup v58 fun l59=>
op' (Zd l59 1) fun v60=>
asI .i64 v60 fun x61=>
Za v49.1 (
faK 0 v49.1 fun p62=>
faK 0 p62 fun p63=>
ldV p63 h54 fun v64=>
op' (Zf ty 3 132 false v64 (AV.int .i64 x61) h54) fun v65=>
op' (Wm ty 3 v49.2.1 (AV.int .i64 x61) v65 h54) fun k66=>
ZL k66.1 k66.2 h54 fun h67=>
r52 (v49.1,v49.2.1,v49.2.2.1,()) d50 h67)) (
Za v49.1 (
faK 0 v49.1 fun p68=>
faK 0 p68 fun p69=>
stV p69 v49.2.1 h54 fun h70=>
Qr (gam J [(99,w99 c99)]) d50 h70 fun h71=>
k (Int.ofNat 0) h71))) (v32.1,(AV.map n42),v47,()) d33 h48))))) fun j35=>
Za a0 (
faK 2 a0 fun p72=>
ldV p72 h27 fun v73=>
Q6 v73 fun x74=>
J.lp (α:=AV × AV × AV × AV × AV × AV × Unit) (fun r78 v75 d76 h77=>
asI .i64 v75.2.2.2.2.2.1 fun x79=>
asI .i64 v75.2.2.2.2.1 fun x80=>
fB (ltI x79 x80) fun b81=>
br b81 (
ixK 5 v75.2.2.2.1 v75.2.2.2.2.2.1 fun p82=>
ldN 5 p82 h77 fun l83=>
Qs (.cells false 169 [(.int .i64 0),(.str ⟨0,0⟩),(.str ⟨0,0⟩),(.int .i64 0),(.nils)]) h77 fun n84 h85=>
stN 5 (AV.ptr n84 0) l83 h85 fun h86=>
J.jd (α:=AV × AV × AV × AV × AV × AV × AV × AV × Unit) (fun v87 d88 h89=>
asI .i64 v87.2.2.2.1 fun x91=>
asI .i64 v87.2.1 fun x92=>
fB (Bool.not (ltI x91 x92)) fun b93=>
br b93 (
j35 (v87.1,()) d88 h89) (
Za v87.1 (
faK 0 v87.1 fun p94=>
ldN 2 p94 h89 fun l95=>
ldN 5 v87.2.2.2.2.1 h89 fun l96=>
c99 (AV.agg l95) (AV.agg l96) h89 fun  h97=>
asI .i64 v87.2.2.2.2.2.2.2.1 fun x98=>
fI (Qu .i64 (Int.add x98 (Int.ofNat 1))) fun x99=>
r78 (v87.1,v87.2.1,v87.2.2.1,v87.2.2.2.2.2.1,v87.2.2.2.2.2.2.1,(AV.int .i64 x99),()) d88 h97))) fun j90=>
asI .i64 v75.2.2.2.2.2.1 fun x100=>
asI .i64 v75.2.1 fun x101=>
fB (eqI x100 x101) fun b102=>
J.jn (fun v103 h104=>
J.jn (fun v106 h107=>
J.jn (fun v110 h111=>
Qo (AV.bool b102) v110 (AV.bool false) fun b115=>
br b115 (
ldV (AV.ptr n84 4) h111 fun v116=>
ldV (AV.ptr n84 4) h111 fun v117=>
Q6 v117 fun x118=>
fI (Qu .i64 (Int.sub (Int.ofNat x118) (Int.ofNat 1))) fun x119=>
op' (QfR v75.2.2.1 (AV.int .i64 x119)) fun v120=>
asI .i64 v120 fun x121=>
slK 1 v116 none (some (AV.int .i64 x121)) fun v122=>
stV (AV.ptr n84 4) v122 h111 fun h123=>
Za v75.1 (
faK 0 v75.1 fun p124=>
ldN 2 p124 h123 fun l125=>
ldN 5 (AV.ptr n84 0) h123 fun l126=>
c99 (AV.agg l125) (AV.agg l126) h123 fun  h127=>
j90 (v75.1,v75.2.1,v75.2.2.1,v75.2.2.2.2.2.1,(AV.ptr n84 0),v75.2.2.2.1,v75.2.2.2.2.1,v75.2.2.2.2.2.1,()) d76 h127)) (
j90 (v75.1,v75.2.1,v75.2.2.1,v75.2.2.2.2.2.1,(AV.ptr n84 0),v75.2.2.2.1,v75.2.2.2.2.1,v75.2.2.2.2.2.1,()) d76 h111)) fun j112=>
br b102 (
asI .i64 v106 fun x113=>
fB (eqI x113 (Int.ofNat 0)) fun b114=>
j112 (AV.bool b114) h107) (
j112 Qb h107)) fun j108=>
br b102 (
ldI .i64 v103 h104 fun x109=>
j108 (AV.int .i64 x109) h104) (
j108 Qb h104)) fun j105=>
br b102 (
j105 (AV.ptr n84 0) h86) (
j105 Qb h86)) (
j35 (v75.1,()) d76 h77)) (a0,(AV.int .i64 a1),(AV.int .i64 a2),v73,(AV.int .i64 (Int.ofNat x74)),(AV.int .i64 (Int.ofNat 0)),()) [] h27))) fun j28=>
br b22 (
j28 Qb h24) (
asI .i64 v23 fun x29=>
fB (ltI x29 (Int.ofNat 0)) fun b30=>
j28 (AV.bool b30) h24)) fun j25=>
br b22 (
j25 Qb h17) (
j25 (AV.int .i64 a2) h17))) fun j18=>
br b1 (
j18 Qb h13) (
asB v12 fun b19=>
fB (Bool.not b19) fun b20=>
j18 (AV.bool b20) h13)) fun j14=>
br b1 (
j14 Qb h9) (
ldB v8 h9 fun b15=>
j14 (AV.bool b15) h9)) fun j10=>
br b1 (
j10 Qb h6) (
faK 9 v5 fun p11=>
j10 p11 h6)) fun j7=>
br b1 (
j7 Qb h3) (
Za v2 (
j7 v2 h3))) fun j4=>
br b1 (
j4 Qb h) (
j4 a0 h)
def s65R (J : Qm) (c99 : AV→AV→H→(H→Prop)→Prop) (k : Int→H→Prop) (v32 : AV × Unit) (d33 : List Dfr) (h34 : H) : Prop :=
Za v32.1 (
faK 2 v32.1 fun p36=>
stV p36 AV.nils h34 fun h37=>
Za v32.1 (
faK 6 v32.1 fun p38=>
stV p38 (AV.bool false) h37 fun h39=>
Za v32.1 (
faK 5 v32.1 fun p40=>
stV p40 (AV.bool false) h39 fun h41=>
Qs (.smap []) h41 fun n42 h43=>
Za v32.1 (
faK 0 v32.1 fun p44=>
faK 1 p44 fun p45=>
ldV p45 h43 fun v46=>
Z9 v46 h43 fun v47 h48=>
J.lp (α:=AV × AV × AV × Unit) (fun r52 v49 d50 h51=>
YV v49.2.2.1 h51 fun v53 h54=>
asTup v53 fun l55=>
op' (Zd l55 0) fun v56=>
asB v56 fun b57=>
br b57 (
op' (ZV v49.2.2.1 h54) fun v58=>
asTup v58 fun l59=>
op' (Zd l59 1) fun v60=>
asI .i64 v60 fun x61=>
Za v49.1 (
faK 0 v49.1 fun p62=>
faK 0 p62 fun p63=>
ldV p63 h54 fun v64=>
op' (Zf ty 3 132 false v64 (AV.int .i64 x61) h54) fun v65=>
op' (Wm ty 3 v49.2.1 (AV.int .i64 x61) v65 h54) fun k66=>
ZL k66.1 k66.2 h54 fun h67=>
r52 (v49.1,v49.2.1,v49.2.2.1,()) d50 h67)) (
Za v49.1 (
faK 0 v49.1 fun p68=>
faK 0 p68 fun p69=>
stV p69 v49.2.1 h54 fun h70=>
Qr (gam J [(99,w99 c99)]) d50 h70 fun h71=>
k (Int.ofNat 0) h71))) (v32.1,(AV.map n42),v47,()) d33 h48))))
def QdT (J : Qm) (c99 : AV→AV→H→(H→Prop)→Prop) (R : AV × Unit→List Dfr→H→Prop) (a0 : AV) (a1 : Int) (a2 : Int) (h : H) (k : Int→H→Prop) : Prop :=
Jr 0 a0 fun b1=>
J.jn (fun v2 h3=>
J.jn (fun v5 h6=>
J.jn (fun v8 h9=>
J.jn (fun v12 h13=>
J.jn (fun v16 h17=>
Qo (AV.bool b1) (AV.bool true) v16 fun b21=>
br b21 (
k (Int.ofNat 1) h17) (
fB (ltI a1 (Int.ofNat 0)) fun b22=>
J.jn (fun v23 h24=>
J.jn (fun v26 h27=>
Qo (AV.bool b22) (AV.bool true) v26 fun b31=>
br b31 (
k (Int.ofNat 2) h27) (
J.jd (α:=AV × Unit) (fun v32 d33 h34=>
R v32 d33 h34) fun j35=>
Za a0 (
faK 2 a0 fun p72=>
ldV p72 h27 fun v73=>
Q6 v73 fun x74=>
J.lp (α:=AV × AV × AV × AV × AV × AV × Unit) (fun r78 v75 d76 h77=>
asI .i64 v75.2.2.2.2.2.1 fun x79=>
asI .i64 v75.2.2.2.2.1 fun x80=>
fB (ltI x79 x80) fun b81=>
br b81 (
ixK 5 v75.2.2.2.1 v75.2.2.2.2.2.1 fun p82=>
ldN 5 p82 h77 fun l83=>
Qs (.cells false 169 [(.int .i64 0),(.str ⟨0,0⟩),(.str ⟨0,0⟩),(.int .i64 0),(.nils)]) h77 fun n84 h85=>
stN 5 (AV.ptr n84 0) l83 h85 fun h86=>
J.jd (α:=AV × AV × AV × AV × AV × AV × AV × AV × Unit) (fun v87 d88 h89=>
asI .i64 v87.2.2.2.1 fun x91=>
asI .i64 v87.2.1 fun x92=>
fB (Bool.not (ltI x91 x92)) fun b93=>
br b93 (
j35 (v87.1,()) d88 h89) (
Za v87.1 (
faK 0 v87.1 fun p94=>
ldN 2 p94 h89 fun l95=>
ldN 5 v87.2.2.2.2.1 h89 fun l96=>
c99 (AV.agg l95) (AV.agg l96) h89 fun  h97=>
asI .i64 v87.2.2.2.2.2.2.2.1 fun x98=>
fI (Qu .i64 (Int.add x98 (Int.ofNat 1))) fun x99=>
r78 (v87.1,v87.2.1,v87.2.2.1,v87.2.2.2.2.2.1,v87.2.2.2.2.2.2.1,(AV.int .i64 x99),()) d88 h97))) fun j90=>
asI .i64 v75.2.2.2.2.2.1 fun x100=>
asI .i64 v75.2.1 fun x101=>
fB (eqI x100 x101) fun b102=>
J.jn (fun v103 h104=>
J.jn (fun v106 h107=>
J.jn (fun v110 h111=>
Qo (AV.bool b102) v110 (AV.bool false) fun b115=>
br b115 (
ldV (AV.ptr n84 4) h111 fun v116=>
ldV (AV.ptr n84 4) h111 fun v117=>
Q6 v117 fun x118=>
fI (Qu .i64 (Int.sub (Int.ofNat x118) (Int.ofNat 1))) fun x119=>
op' (QfR v75.2.2.1 (AV.int .i64 x119)) fun v120=>
asI .i64 v120 fun x121=>
slK 1 v116 none (some (AV.int .i64 x121)) fun v122=>
stV (AV.ptr n84 4) v122 h111 fun h123=>
Za v75.1 (
faK 0 v75.1 fun p124=>
ldN 2 p124 h123 fun l125=>
ldN 5 (AV.ptr n84 0) h123 fun l126=>
c99 (AV.agg l125) (AV.agg l126) h123 fun  h127=>
j90 (v75.1,v75.2.1,v75.2.2.1,v75.2.2.2.2.2.1,(AV.ptr n84 0),v75.2.2.2.1,v75.2.2.2.2.1,v75.2.2.2.2.2.1,()) d76 h127)) (
j90 (v75.1,v75.2.1,v75.2.2.1,v75.2.2.2.2.2.1,(AV.ptr n84 0),v75.2.2.2.1,v75.2.2.2.2.1,v75.2.2.2.2.2.1,()) d76 h111)) fun j112=>
br b102 (
asI .i64 v106 fun x113=>
fB (eqI x113 (Int.ofNat 0)) fun b114=>
j112 (AV.bool b114) h107) (
j112 Qb h107)) fun j108=>
br b102 (
ldI .i64 v103 h104 fun x109=>
j108 (AV.int .i64 x109) h104) (
j108 Qb h104)) fun j105=>
br b102 (
j105 (AV.ptr n84 0) h86) (
j105 Qb h86)) (
j35 (v75.1,()) d76 h77)) (a0,(AV.int .i64 a1),(AV.int .i64 a2),v73,(AV.int .i64 (Int.ofNat x74)),(AV.int .i64 (Int.ofNat 0)),()) [] h27))) fun j28=>
br b22 (
j28 Qb h24) (
asI .i64 v23 fun x29=>
fB (ltI x29 (Int.ofNat 0)) fun b30=>
j28 (AV.bool b30) h24)) fun j25=>
br b22 (
j25 Qb h17) (
j25 (AV.int .i64 a2) h17))) fun j18=>
br b1 (
j18 Qb h13) (
asB v12 fun b19=>
fB (Bool.not b19) fun b20=>
j18 (AV.bool b20) h13)) fun j14=>
br b1 (
j14 Qb h9) (
ldB v8 h9 fun b15=>
j14 (AV.bool b15) h9)) fun j10=>
br b1 (
j10 Qb h6) (
faK 9 v5 fun p11=>
j10 p11 h6)) fun j7=>
br b1 (
j7 Qb h3) (
Za v2 (
j7 v2 h3))) fun j4=>
br b1 (
j4 Qb h) (
j4 a0 h)
theorem s65_hole (J : Qm) (c99 : AV→AV→H→(H→Prop)→Prop) (a0 : AV) (a1 : Int) (a2 : Int) (h : H) (k : Int→H→Prop) : s65G J c99 a0 a1 a2 h k = QdT J c99 (s65R J c99 k) a0 a1 a2 h k:=by kernel_rfl
def s65 : AV→Int→Int→H→(Int→H→Prop)→Prop:=s65G J0 s99
def w65 (c : AV→Int→Int→H→(Int→H→Prop)→Prop) : Fun:=fun xs h k=>arg xs fun a0 xs=>arg xs fun a1 xs=>arg xs fun a2 xs=>QB xs <| asI .i64 a1 fun a1=>asI .i64 a2 fun a2=>c a0 a1 a2 h fun r0 h=>k (.int .i64 r0) h
theorem s65_eq (J : Qm) (c99 : AV→AV→H→(H→Prop)→Prop) (a0 : AV) (a1 : Int) (a2 : Int) (h : H) (k : AV→H→Prop) : Ql ty (gam J [(99,w99 c99)]) Tryz.f65 [a0,(.int .i64 a1),(.int .i64 a2)] h k = s65G J c99 a0 a1 a2 h (fun r0 h=>k (.int .i64 r0) h):=by kernel_rfl
end Go.Proofs.YtodlaigjjknpkaaGreatDoor
