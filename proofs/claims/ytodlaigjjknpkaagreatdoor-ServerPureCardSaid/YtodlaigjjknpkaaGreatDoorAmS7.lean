import Derived.Test.YtodlaigjjknpkaaGreatDoorAmS6
noncomputable section
namespace Go.Proofs.YtodlaigjjknpkaaGreatDoor
open Go Go.Am
set_option maxRecDepth 100000
set_option linter.all false
def s40G (J : Qm) (a0 : AV) (h : H) (k : Int→H→Prop) : Prop :=
Go.Am.asAgg a0 fun l3=>
Qs (.cells false 29 l3) h fun n1 h2=>
ldI .i64 (AV.ptr n1 0) h2 fun x4=>
fB (ltI x4 (Int.ofNat 0)) fun b5=>
J.jn (fun v6 h7=>
J.jn (fun v9 h10=>
J.jn (fun v13 h14=>
Qo (AV.bool b5) (AV.bool true) v13 fun b18=>
J.jn (fun v19 h20=>
J.jn (fun v22 h23=>
J.jn (fun v26 h27=>
Qo (AV.bool b18) (AV.bool true) v26 fun b31=>
J.jn (fun v32 h33=>
J.jn (fun v35 h36=>
J.jn (fun v39 h40=>
Qo (AV.bool b31) (AV.bool true) v39 fun b44=>
J.jn (fun v45 h46=>
J.jn (fun v48 h49=>
J.jn (fun v52 h53=>
Qo (AV.bool b44) (AV.bool true) v52 fun b57=>
J.jn (fun v58 h59=>
J.jn (fun v61 h62=>
J.jn (fun v65 h66=>
Qo (AV.bool b57) (AV.bool true) v65 fun b70=>
br b70 (
k (Int.ofNat 2) h66) (
k (Int.ofNat 0) h66)) fun j67=>
br b57 (
j67 Qb h62) (
asI .i32 v61 fun x68=>
fB (ltI (Int.ofNat 1048576) x68) fun b69=>
j67 (AV.bool b69) h62)) fun j63=>
br b57 (
j63 Qb h59) (
ldI .i32 v58 h59 fun x64=>
j63 (AV.int .i32 x64) h59)) fun j60=>
br b57 (
j60 Qb h53) (
j60 (AV.ptr n1 2) h53)) fun j54=>
br b44 (
j54 Qb h49) (
asI .i32 v48 fun x55=>
fB (ltI x55 (Int.ofNat 0)) fun b56=>
j54 (AV.bool b56) h49)) fun j50=>
br b44 (
j50 Qb h46) (
ldI .i32 v45 h46 fun x51=>
j50 (AV.int .i32 x51) h46)) fun j47=>
br b44 (
j47 Qb h40) (
j47 (AV.ptr n1 2) h40)) fun j41=>
br b31 (
j41 Qb h36) (
asI .i32 v35 fun x42=>
fB (ltI (Int.ofNat 1048576) x42) fun b43=>
j41 (AV.bool b43) h36)) fun j37=>
br b31 (
j37 Qb h33) (
ldI .i32 v32 h33 fun x38=>
j37 (AV.int .i32 x38) h33)) fun j34=>
br b31 (
j34 Qb h27) (
j34 (AV.ptr n1 1) h27)) fun j28=>
br b18 (
j28 Qb h23) (
asI .i32 v22 fun x29=>
fB (ltI x29 (Int.ofNat 0)) fun b30=>
j28 (AV.bool b30) h23)) fun j24=>
br b18 (
j24 Qb h20) (
ldI .i32 v19 h20 fun x25=>
j24 (AV.int .i32 x25) h20)) fun j21=>
br b18 (
j21 Qb h14) (
j21 (AV.ptr n1 1) h14)) fun j15=>
br b5 (
j15 Qb h10) (
asI .i64 v9 fun x16=>
fB (ltI (Int.ofNat 1099511627776) x16) fun b17=>
j15 (AV.bool b17) h10)) fun j11=>
br b5 (
j11 Qb h7) (
ldI .i64 v6 h7 fun x12=>
j11 (AV.int .i64 x12) h7)) fun j8=>
br b5 (
j8 Qb h2) (
j8 (AV.ptr n1 0) h2)
def s40 : AV→H→(Int→H→Prop)→Prop:=s40G J0
def w40 (c : AV→H→(Int→H→Prop)→Prop) : Fun:=fun xs h k=>arg xs fun a0 xs=>QB xs <| c a0 h fun r0 h=>k (.int .i64 r0) h
theorem Qd7 (J : Qm) (a0 : AV) (h : H) (k : AV→H→Prop) : Ql ty (gam J []) Tryz.f40 [a0] h k = s40G J  a0 h (fun r0 h=>k (.int .i64 r0) h):=by kernel_rfl
def g40 : Fun:=w40 s40
theorem W9 : Qe Tryz.prog 40 g40:=(Qf Qi Qj (Qg (J:=J0) (Qc Qd)) Tryz.func40 (fun args w=>by simp)).imp fun xs h k e0=>by
  obtain ⟨a0,xs0,rfl,e1⟩:=Qp e0
  obtain ⟨rfl,e2⟩:=Qt e1
  exact (Qd7 J0  a0 h k).mpr e2
def s17G (J : Qm) (c40 : AV→H→(Int→H→Prop)→Prop) (a0 : AV) (h : H) (k : Bool→H→Prop) : Prop :=
Q6 a0 fun x1=>
J.lp (α:=AV × AV × AV × Unit) (fun r5 v2 d3 h4=>
asI .i64 v2.2.2.1 fun x6=>
asI .i64 v2.2.1 fun x7=>
fB (ltI x6 x7) fun b8=>
br b8 (
ixK 3 v2.1 v2.2.2.1 fun p9=>
ldN 3 p9 h4 fun l10=>
Qs (.cells false 29 [(.int .i64 0),(.int .i32 0),(.int .i32 0)]) h4 fun n11 h12=>
stN 3 (AV.ptr n11 0) l10 h12 fun h13=>
ldN 3 (AV.ptr n11 0) h13 fun l14=>
c40 (AV.agg l14) h13 fun x16 h15=>
fB (Bool.not (eqI x16 (Int.ofNat 0))) fun b17=>
br b17 (
Qr (gam J [(40,w40 c40)]) d3 h15 fun h18=>
k false h18) (
asI .i64 v2.2.2.1 fun x19=>
fI (Qu .i64 (Int.add x19 (Int.ofNat 1))) fun x20=>
r5 (v2.1,v2.2.1,(AV.int .i64 x20),()) d3 h15)) (
Qr (gam J [(40,w40 c40)]) d3 h4 fun h21=>
k true h21)) (a0,(AV.int .i64 (Int.ofNat x1)),(AV.int .i64 (Int.ofNat 0)),()) [] h
def s17 : AV→H→(Bool→H→Prop)→Prop:=s17G J0 s40
def w17 (c : AV→H→(Bool→H→Prop)→Prop) : Fun:=fun xs h k=>arg xs fun a0 xs=>QB xs <| c a0 h fun r0 h=>k (.bool r0) h
theorem Qel (J : Qm) (c40 : AV→H→(Int→H→Prop)→Prop) (a0 : AV) (h : H) (k : AV→H→Prop) : Ql ty (gam J [(40,w40 c40)]) Tryz.f17 [a0] h k = s17G J c40 a0 h (fun r0 h=>k (.bool r0) h):=by kernel_rfl
def g17 : Fun:=w17 s17
theorem QaN : Qe Tryz.prog 17 g17:=(Qf Qi Qj (Qg (J:=J0) (Qa W9 (Qc Qd))) Tryz.func17 (fun args w=>by simp)).imp fun xs h k e0=>by
  obtain ⟨a0,xs0,rfl,e1⟩:=Qp e0
  obtain ⟨rfl,e2⟩:=Qt e1
  exact (Qel J0 s40 a0 h k).mpr e2
def s81G (J : Qm) (a0 : AV) (h : H) (k : Int→Int→H→Prop) : Prop :=
Go.Am.asAgg a0 fun l3=>
Qs (.cells false 31 l3) h fun n1 h2=>
ldI .i32 (AV.ptr n1 0) h2 fun x4=>
fB (ltI x4 (Int.ofNat 0)) fun b5=>
J.jn (fun v6 h7=>
J.jn (fun v9 h10=>
J.jn (fun v13 h14=>
Qo (AV.bool b5) (AV.bool true) v13 fun b18=>
J.jn (fun v19 h20=>
J.jn (fun v22 h23=>
J.jn (fun v26 h27=>
Qo (AV.bool b18) (AV.bool true) v26 fun b31=>
J.jn (fun v32 h33=>
J.jn (fun v35 h36=>
J.jn (fun v39 h40=>
Qo (AV.bool b31) (AV.bool true) v39 fun b44=>
br b44 (
k (Int.ofNat 0) (Int.ofNat 2) h40) (
ldI .i32 (AV.ptr n1 1) h40 fun x45=>
fI (Qu .i32 (Int.mul x45 (Int.ofNat 8))) fun x46=>
ldI .i32 (AV.ptr n1 0) h40 fun x47=>
fI (Qu .i32 (Int.add x46 x47)) fun x48=>
k x48 (Int.ofNat 0) h40)) fun j41=>
br b31 (
j41 Qb h36) (
asI .i32 v35 fun x42=>
fB (ltI (Int.ofNat 100000) x42) fun b43=>
j41 (AV.bool b43) h36)) fun j37=>
br b31 (
j37 Qb h33) (
ldI .i32 v32 h33 fun x38=>
j37 (AV.int .i32 x38) h33)) fun j34=>
br b31 (
j34 Qb h27) (
j34 (AV.ptr n1 1) h27)) fun j28=>
br b18 (
j28 Qb h23) (
asI .i32 v22 fun x29=>
fB (ltI x29 (Int.ofNat 1)) fun b30=>
j28 (AV.bool b30) h23)) fun j24=>
br b18 (
j24 Qb h20) (
ldI .i32 v19 h20 fun x25=>
j24 (AV.int .i32 x25) h20)) fun j21=>
br b18 (
j21 Qb h14) (
j21 (AV.ptr n1 1) h14)) fun j15=>
br b5 (
j15 Qb h10) (
asI .i32 v9 fun x16=>
fB (Bool.not (ltI x16 (Int.ofNat 7))) fun b17=>
j15 (AV.bool b17) h10)) fun j11=>
br b5 (
j11 Qb h7) (
ldI .i32 v6 h7 fun x12=>
j11 (AV.int .i32 x12) h7)) fun j8=>
br b5 (
j8 Qb h2) (
j8 (AV.ptr n1 0) h2)
def s81 : AV→H→(Int→Int→H→Prop)→Prop:=s81G J0
def w81 (c : AV→H→(Int→Int→H→Prop)→Prop) : Fun:=fun xs h k=>arg xs fun a0 xs=>QB xs <| c a0 h fun r0 r1 h=>k (.tuple [(.int .i32 r0),(.int .i64 r1)]) h
theorem QdS (J : Qm) (a0 : AV) (h : H) (k : AV→H→Prop) : Ql ty (gam J []) Tryz.f81 [a0] h k = s81G J  a0 h (fun r0 r1 h=>k (.tuple [(.int .i32 r0),(.int .i64 r1)]) h):=by kernel_rfl
def g81 : Fun:=w81 s81
theorem NI : Qe Tryz.prog 81 g81:=(Qf Qi Qj (Qg (J:=J0) (Qc Qd)) Tryz.func81 (fun args w=>by simp)).imp fun xs h k e0=>by
  obtain ⟨a0,xs0,rfl,e1⟩:=Qp e0
  obtain ⟨rfl,e2⟩:=Qt e1
  exact (QdS J0  a0 h k).mpr e2
def s41G (J : Qm) (c81 : AV→H→(Int→Int→H→Prop)→Prop) (a0 : AV) (h : H) (k : Bool→H→Prop) : Prop :=
Go.Am.asAgg a0 fun l3=>
Qs (.cells false 31 l3) h fun n1 h2=>
ldN 2 (AV.ptr n1 0) h2 fun l4=>
c81 (AV.agg l4) h2 fun x6 x7 h5=>
fB (eqI x7 (Int.ofNat 0)) fun b8=>
k b8 h5
def s41 : AV→H→(Bool→H→Prop)→Prop:=s41G J0 s81
def w41 (c : AV→H→(Bool→H→Prop)→Prop) : Fun:=fun xs h k=>arg xs fun a0 xs=>QB xs <| c a0 h fun r0 h=>k (.bool r0) h
theorem Qd6 (J : Qm) (c81 : AV→H→(Int→Int→H→Prop)→Prop) (a0 : AV) (h : H) (k : AV→H→Prop) : Ql ty (gam J [(81,w81 c81)]) Tryz.f41 [a0] h k = s41G J c81 a0 h (fun r0 h=>k (.bool r0) h):=by kernel_rfl
def g41 : Fun:=w41 s41
theorem QaM : Qe Tryz.prog 41 g41:=(Qf Qi Qj (Qg (J:=J0) (Qa NI (Qc Qd))) Tryz.func41 (fun args w=>by simp)).imp fun xs h k e0=>by
  obtain ⟨a0,xs0,rfl,e1⟩:=Qp e0
  obtain ⟨rfl,e2⟩:=Qt e1
  exact (Qd6 J0 s81 a0 h k).mpr e2
def s42G (J : Qm) (a0 : Str) (h : H) (k : Bool→H→Prop) : Prop :=
fB (Bool.not (ltI (Int.ofNat a0.len) (Int.ofNat 1))) fun b1=>
J.jn (fun v2 h3=>
J.jn (fun v5 h6=>
J.jn (fun v9 h10=>
Qo (AV.bool b1) v9 (AV.bool false) fun b14=>
k b14 h10) fun j11=>
br b1 (
asI .i64 v5 fun x12=>
fB (Bool.not (ltI (Int.ofNat 128) x12)) fun b13=>
j11 (AV.bool b13) h6) (
j11 Qb h6)) fun j7=>
br b1 (
asS v2 fun s8=>
j7 (AV.int .i64 (Int.ofNat s8.len)) h3) (
j7 Qb h3)) fun j4=>
br b1 (
j4 (AV.str a0) h) (
j4 Qb h)
def s42 : Str→H→(Bool→H→Prop)→Prop:=s42G J0
def w42 (c : Str→H→(Bool→H→Prop)→Prop) : Fun:=fun xs h k=>arg xs fun a0 xs=>QB xs <| asS a0 fun a0=>c a0 h fun r0 h=>k (.bool r0) h
theorem Qd5 (J : Qm) (a0 : Str) (h : H) (k : AV→H→Prop) : Ql ty (gam J []) Tryz.f42 [(.str a0)] h k = s42G J  a0 h (fun r0 h=>k (.bool r0) h):=by kernel_rfl
def g42 : Fun:=w42 s42
theorem Qfi : Qe Tryz.prog 42 g42:=(Qf Qi Qj (Qg (J:=J0) (Qc Qd)) Tryz.func42 (fun args w=>by simp)).imp fun xs h k e0=>by
  obtain ⟨a0,xs0,rfl,e1⟩:=Qp e0
  obtain ⟨rfl,e2⟩:=Qt e1
  obtain ⟨a0,rfl,e3⟩:=QI.1 e2
  exact (Qd5 J0  a0 h k).mpr e3
def s48G (J : Qm) (c41 : AV→H→(Bool→H→Prop)→Prop) (a0 : AV) (h : H) (k : Bool→H→Prop) : Prop :=
Go.Am.asAgg a0 fun l3=>
Qs (.cells false 31 l3) h fun n1 h2=>
ldN 2 (AV.ptr n1 0) h2 fun l4=>
obK (Wt ty .eql 31 false (AV.agg l4) (AV.agg [(.int .i32 0),(.int .i32 0)])) fun b5=>
J.jn (fun v6 h7=>
J.jn (fun v10 h11=>
Qo (AV.bool b5) (AV.bool true) v10 fun b15=>
k b15 h11) fun j12=>
br b5 (
j12 Qb h7) (
c41 v6 h7 fun b14 h13=>
j12 (AV.bool b14) h13)) fun j8=>
br b5 (
j8 Qb h2) (
ldN 2 (AV.ptr n1 0) h2 fun l9=>
j8 (AV.agg l9) h2)
def s48 : AV→H→(Bool→H→Prop)→Prop:=s48G J0 s41
def w48 (c : AV→H→(Bool→H→Prop)→Prop) : Fun:=fun xs h k=>arg xs fun a0 xs=>QB xs <| c a0 h fun r0 h=>k (.bool r0) h
theorem QdZ (J : Qm) (c41 : AV→H→(Bool→H→Prop)→Prop) (a0 : AV) (h : H) (k : AV→H→Prop) : Ql ty (gam J [(41,w41 c41)]) Tryz.f48 [a0] h k = s48G J c41 a0 h (fun r0 h=>k (.bool r0) h):=by kernel_rfl
def g48 : Fun:=w48 s48
theorem Qfg : Qe Tryz.prog 48 g48:=(Qf Qi Qj (Qg (J:=J0) (Qa QaM (Qc Qd))) Tryz.func48 (fun args w=>by simp)).imp fun xs h k e0=>by
  obtain ⟨a0,xs0,rfl,e1⟩:=Qp e0
  obtain ⟨rfl,e2⟩:=Qt e1
  exact (QdZ J0 s41 a0 h k).mpr e2
def Qes (J : Qm) (a0 : AV) (h : H) (k : Bool→H→Prop) : Prop :=
Go.Am.asAgg a0 fun l3=>
Qs (.cells false 33 l3) h fun n1 h2=>
ldS (AV.ptr n1 1) h2 fun s4=>
fB (Bool.not (Str.beq s4 (⟨0,0⟩ : Str))) fun b5=>
J.jn (fun v6 h7=>
J.jn (fun v9 h10=>
J.jn (fun v13 h14=>
J.jn (fun v16 h17=>
J.jn (fun v20 h21=>
Qo (AV.bool b5) v20 (AV.bool false) fun b26=>
k b26 h21) fun j22=>
br b5 (
asS v9 fun s23=>
asS v16 fun s24=>
fB (Bool.not (Str.lt s24 s23)) fun b25=>
j22 (AV.bool b25) h17) (
j22 Qb h17)) fun j18=>
br b5 (
ldS v13 h14 fun s19=>
j18 (AV.str s19) h14) (
j18 Qb h14)) fun j15=>
br b5 (
j15 (AV.ptr n1 0) h10) (
j15 Qb h10)) fun j11=>
br b5 (
ldS v6 h7 fun s12=>
j11 (AV.str s12) h7) (
j11 Qb h7)) fun j8=>
br b5 (
j8 (AV.ptr n1 1) h2) (
j8 Qb h2)
def Qet : AV→H→(Bool→H→Prop)→Prop:=Qes J0
def Qal (c : AV→H→(Bool→H→Prop)→Prop) : Fun:=fun xs h k=>arg xs fun a0 xs=>QB xs <| c a0 h fun r0 h=>k (.bool r0) h
theorem QbA (J : Qm) (a0 : AV) (h : H) (k : AV→H→Prop) : Ql ty (gam J []) Tryz.f134 [a0] h k = Qes J  a0 h (fun r0 h=>k (.bool r0) h):=by kernel_rfl
def g134 : Fun:=Qal Qet
theorem N1 : Qe Tryz.prog 134 g134:=(Qf Qi Qj (Qg (J:=J0) (Qc Qd)) Tryz.func134 (fun args w=>by simp)).imp fun xs h k e0=>by
  obtain ⟨a0,xs0,rfl,e1⟩:=Qp e0
  obtain ⟨rfl,e2⟩:=Qt e1
  exact (QbA J0  a0 h k).mpr e2
def Qbz (J : Qm) (c24 : AV→H→(Int→H→Prop)→Prop) (a0 : AV) (a1 : Int) (h : H) (k : AV→Int→H→Prop) : Prop :=
Qs (.cells false 33 [(.str ⟨0,0⟩),(.str ⟨0,0⟩)]) h fun n1 h2=>
c24 a0 h2 fun x4 h3=>
fB (Bool.not (eqI x4 (Int.ofNat 0))) fun b5=>
br b5 (
stN 2 (AV.ptr n1 0) [(.str ⟨0,0⟩),(.str ⟨0,0⟩)] h3 fun h6=>
ldN 2 (AV.ptr n1 0) h6 fun l7=>
k (AV.agg l7) x4 h6) (
fB (ltI a1 (Int.ofNat 0)) fun b8=>
J.jn (fun v9 h10=>
J.jn (fun v12 h13=>
J.jn (fun v15 h16=>
J.jn (fun v19 h20=>
Qo (AV.bool b8) (AV.bool true) v19 fun b25=>
br b25 (
stN 2 (AV.ptr n1 0) [(.str ⟨0,0⟩),(.str ⟨0,0⟩)] h20 fun h26=>
ldN 2 (AV.ptr n1 0) h26 fun l27=>
k (AV.agg l27) (Int.ofNat 2) h26) (
Qs (.cells false 33 [(.str ⟨0,0⟩),(.str ⟨0,0⟩)]) h20 fun n28 h29=>
J.jd (α:=AV × AV × AV × AV × Unit) (fun v30 d31 h32=>
J.jd (α:=AV × AV × Unit) (fun v34 d35 h36=>
ldN 2 v34.2.1 h36 fun l38=>
stN 2 v34.1 l38 h36 fun h39=>
Qr (gam J [(24,w24 c24)]) d35 h39 fun h40=>
ldN 2 v34.1 h40 fun l41=>
k (AV.agg l41) (Int.ofNat 0) h40) fun j37=>
Q6 v30.1 fun x42=>
asI .i64 v30.2.1 fun x43=>
fB (ltI x43 (Int.ofNat x42)) fun b44=>
br b44 (
ixK 1 v30.1 v30.2.1 fun p45=>
ldS p45 h32 fun s46=>
faK 1 v30.2.2.2.1 fun p47=>
stV p47 (AV.str s46) h32 fun h48=>
j37 (v30.2.2.1,v30.2.2.2.1,()) d31 h48) (
j37 (v30.2.2.1,v30.2.2.2.1,()) d31 h32)) fun j33=>
fB (ltI (Int.ofNat 0) a1) fun b49=>
br b49 (
fI (Qu .i64 (Int.sub a1 (Int.ofNat 1))) fun x50=>
ixK 1 a0 (AV.int .i64 x50) fun p51=>
ldS p51 h29 fun s52=>
stV (AV.ptr n28 0) (AV.str s52) h29 fun h53=>
j33 (a0,(AV.int .i64 a1),(AV.ptr n1 0),(AV.ptr n28 0),()) [] h53) (
j33 (a0,(AV.int .i64 a1),(AV.ptr n1 0),(AV.ptr n28 0),()) [] h29))) fun j21=>
br b8 (
j21 Qb h16) (
asI .i64 v9 fun x22=>
asI .i64 v15 fun x23=>
fB (ltI x23 x22) fun b24=>
j21 (AV.bool b24) h16)) fun j17=>
br b8 (
j17 Qb h13) (
Q6 v12 fun x18=>
j17 (AV.int .i64 (Int.ofNat x18)) h13)) fun j14=>
br b8 (
j14 Qb h10) (
j14 a0 h10)) fun j11=>
br b8 (
j11 Qb h3) (
j11 (AV.int .i64 a1) h3))
def s135 : AV→Int→H→(AV→Int→H→Prop)→Prop:=Qbz J0 s24
def w135 (c : AV→Int→H→(AV→Int→H→Prop)→Prop) : Fun:=fun xs h k=>arg xs fun a0 xs=>arg xs fun a1 xs=>QB xs <| asI .i64 a1 fun a1=>c a0 a1 h fun r0 r1 h=>k (.tuple [r0,(.int .i64 r1)]) h
theorem Qby (J : Qm) (c24 : AV→H→(Int→H→Prop)→Prop) (a0 : AV) (a1 : Int) (h : H) (k : AV→H→Prop) : Ql ty (gam J [(24,w24 c24)]) Tryz.f135 [a0,(.int .i64 a1)] h k = Qbz J c24 a0 a1 h (fun r0 r1 h=>k (.tuple [r0,(.int .i64 r1)]) h):=by kernel_rfl
def g135 : Fun:=w135 s135
theorem g135_ok : Qe Tryz.prog 135 g135:=(Qf Qi Qj (Qg (J:=J0) (Qa NU (Qc Qd))) Tryz.func135 (fun args w=>by simp)).imp fun xs h k e0=>by
  obtain ⟨a0,xs0,rfl,e1⟩:=Qp e0
  obtain ⟨a1,xs1,rfl,e2⟩:=Qp e1
  obtain ⟨rfl,e3⟩:=Qt e2
  obtain ⟨a1,rfl,e4⟩:=QD.1 e3
  exact (Qby J0 s24 a0 a1 h k).mpr e4
def Qer (J : Qm) (c134 : AV→H→(Bool→H→Prop)→Prop) (a0 : AV) (a1 : AV) (h : H) (k : AV→Bool→H→Prop) : Prop :=
Go.Am.asAgg a0 fun l3=>
Qs (.cells false 33 l3) h fun n1 h2=>
Go.Am.asAgg a1 fun l6=>
Qs (.cells false 33 l6) h2 fun n4 h5=>
Qs (.cells false 33 [(.str ⟨0,0⟩),(.str ⟨0,0⟩)]) h5 fun n7 h8=>
ldS (AV.ptr n1 0) h8 fun s9=>
ldS (AV.ptr n4 0) h8 fun s10=>
op' (QfS (AV.str s9) (AV.str s10)) fun v11=>
asS v11 fun s12=>
ldS (AV.ptr n1 1) h8 fun s13=>
Qs (.cells false 33 [(.str ⟨0,0⟩),(.str ⟨0,0⟩)]) h8 fun n14 h15=>
stN 2 (AV.ptr n14 0) [(AV.str s12),(AV.str s13)] h15 fun h16=>
J.jd (α:=AV × AV × Unit) (fun v17 d18 h19=>
ldN 2 v17.2.1 h19 fun l21=>
c134 (AV.agg l21) h19 fun b23 h22=>
br b23 (
stN 2 v17.1 [(.str ⟨0,0⟩),(.str ⟨0,0⟩)] h22 fun h24=>
Qr (gam J [(134,Qal c134)]) d18 h24 fun h25=>
ldN 2 v17.1 h25 fun l26=>
k (AV.agg l26) false h25) (
ldN 2 v17.2.1 h22 fun l27=>
stN 2 v17.1 l27 h22 fun h28=>
Qr (gam J [(134,Qal c134)]) d18 h28 fun h29=>
ldN 2 v17.1 h29 fun l30=>
k (AV.agg l30) true h29)) fun j20=>
ldS (AV.ptr n14 1) h16 fun s31=>
fB (Str.beq s31 (⟨0,0⟩ : Str)) fun b32=>
J.jn (fun v33 h34=>
J.jn (fun v36 h37=>
J.jn (fun v40 h41=>
J.jn (fun v45 h46=>
J.jn (fun v48 h49=>
J.jn (fun v51 h52=>
J.jn (fun v55 h56=>
J.jn (fun v58 h59=>
J.jn (fun v62 h63=>
J.jn (fun v68 h69=>
Qo (AV.bool b32) (AV.bool true) v68 fun b72=>
br b72 (
ldS (AV.ptr n4 1) h69 fun s73=>
stV (AV.ptr n14 1) (AV.str s73) h69 fun h74=>
j20 ((AV.ptr n7 0),(AV.ptr n14 0),()) [] h74) (
j20 ((AV.ptr n7 0),(AV.ptr n14 0),()) [] h69)) fun j70=>
br b32 (
j70 Qb h63) (
Qo v45 v62 (AV.bool false) fun b71=>
j70 (AV.bool b71) h63)) fun j64=>
QH v45 (fun b75=>
br b75 (
asS v51 fun s65=>
asS v58 fun s66=>
fB (Str.lt s65 s66) fun b67=>
j64 (AV.bool b67) h59) (
j64 Qb h59)) (
j64 Qb h59)) fun j60=>
QH v45 (fun b76=>
br b76 (
ldS v55 h56 fun s61=>
j60 (AV.str s61) h56) (
j60 Qb h56)) (
j60 Qb h56)) fun j57=>
QH v45 (fun b77=>
br b77 (
j57 (AV.ptr n14 1) h52) (
j57 Qb h52)) (
j57 Qb h52)) fun j53=>
QH v45 (fun b78=>
br b78 (
ldS v48 h49 fun s54=>
j53 (AV.str s54) h49) (
j53 Qb h49)) (
j53 Qb h49)) fun j50=>
QH v45 (fun b79=>
br b79 (
j50 (AV.ptr n4 1) h46) (
j50 Qb h46)) (
j50 Qb h46)) fun j47=>
br b32 (
j47 Qb h41) (
j47 v40 h41)) fun j42=>
br b32 (
j42 Qb h37) (
asS v36 fun s43=>
fB (Bool.not (Str.beq s43 (⟨0,0⟩ : Str))) fun b44=>
j42 (AV.bool b44) h37)) fun j38=>
br b32 (
j38 Qb h34) (
ldS v33 h34 fun s39=>
j38 (AV.str s39) h34)) fun j35=>
br b32 (
j35 Qb h16) (
j35 (AV.ptr n4 1) h16)
def s136 : AV→AV→H→(AV→Bool→H→Prop)→Prop:=Qer J0 Qet
def w136 (c : AV→AV→H→(AV→Bool→H→Prop)→Prop) : Fun:=fun xs h k=>arg xs fun a0 xs=>arg xs fun a1 xs=>QB xs <| c a0 a1 h fun r0 r1 h=>k (.tuple [r0,(.bool r1)]) h
theorem Qbx (J : Qm) (c134 : AV→H→(Bool→H→Prop)→Prop) (a0 : AV) (a1 : AV) (h : H) (k : AV→H→Prop) : Ql ty (gam J [(134,Qal c134)]) Tryz.f136 [a0,a1] h k = Qer J c134 a0 a1 h (fun r0 r1 h=>k (.tuple [r0,(.bool r1)]) h):=by kernel_rfl
def g136 : Fun:=w136 s136
theorem g136_ok : Qe Tryz.prog 136 g136:=(Qf Qi Qj (Qg (J:=J0) (Qa N1 (Qc Qd))) Tryz.func136 (fun args w=>by simp)).imp fun xs h k e0=>by
  obtain ⟨a0,xs0,rfl,e1⟩:=Qp e0
  obtain ⟨a1,xs1,rfl,e2⟩:=Qp e1
  obtain ⟨rfl,e3⟩:=Qt e2
  exact (Qbx J0 Qet a0 a1 h k).mpr e3
def QdO (J : Qm) (c24 : AV→H→(Int→H→Prop)→Prop) (c134 : AV→H→(Bool→H→Prop)→Prop) (c135 : AV→Int→H→(AV→Int→H→Prop)→Prop) (c136 : AV→AV→H→(AV→Bool→H→Prop)→Prop) (a0 : AV) (a1 : AV) (h : H) (k : AV→Int→H→Prop) : Prop :=
Go.Am.asAgg a1 fun l3=>
Qs (.cells false 33 l3) h fun n1 h2=>
c24 a0 h2 fun x5 h4=>
fB (Bool.not (eqI x5 (Int.ofNat 0))) fun b6=>
br b6 (
k AV.nils x5 h4) (
ldN 2 (AV.ptr n1 0) h4 fun l7=>
c134 (AV.agg l7) h4 fun b9 h8=>
br b9 (
k AV.nils (Int.ofNat 0) h8) (
Q6 a0 fun x10=>
fI (Qu .i64 (Int.add (Int.ofNat x10) (Int.ofNat 1))) fun x11=>
J.lp (α:=AV × AV × AV × AV × AV × Unit) (fun r15 v12 d13 h14=>
asI .i64 v12.2.2.2.2.1 fun x16=>
asI .i64 v12.2.2.2.1 fun x17=>
fB (ltI x16 x17) fun b18=>
br b18 (
J.jd (α:=AV × AV × AV × AV × AV × Unit) (fun v19 d20 h21=>
asI .i64 v19.2.2.2.2.1 fun x23=>
fI (Qu .i64 (Int.add x23 (Int.ofNat 1))) fun x24=>
r15 (v19.1,v19.2.1,v19.2.2.1,v19.2.2.2.1,(AV.int .i64 x24),()) d20 h21) fun j22=>
asI .i64 v12.2.2.2.2.1 fun x26=>
c135 v12.1 x26 h14 fun v27 x28 h25=>
Qs (.cells false 33 [(.str ⟨0,0⟩),(.str ⟨0,0⟩)]) h25 fun n29 h30=>
Go.Am.asAgg v27 fun l32=>
stN 2 (AV.ptr n29 0) l32 h30 fun h31=>
ldN 2 (AV.ptr n29 0) h31 fun l33=>
ldN 2 v12.2.1 h31 fun l34=>
c136 (AV.agg l33) (AV.agg l34) h31 fun v36 b37 h35=>
Qs (.cells false 33 [(.str ⟨0,0⟩),(.str ⟨0,0⟩)]) h35 fun n38 h39=>
Go.Am.asAgg v36 fun l41=>
stN 2 (AV.ptr n38 0) l41 h39 fun h40=>
br b37 (
ldN 2 (AV.ptr n38 0) h40 fun l42=>
ck (Nat.beq (List.length l42) 2) (op' (Qy 0 l42 [(.str ⟨0,0⟩),(.str ⟨0,0⟩)]) fun l45=>
Qs (.cells false 33 l45) h40 fun n43 h44=>
apC 33 2 32 v12.2.2.1 (AV.slice n43 0 1 1 2 true) h44 fun v46 h47=>
j22 (v12.1,v12.2.1,v46,v12.2.2.2.1,v12.2.2.2.2.1,()) d13 h47)) (
j22 (v12.1,v12.2.1,v12.2.2.1,v12.2.2.2.1,v12.2.2.2.2.1,()) d13 h40)) (
Qr (gam J [(24,w24 c24),(134,Qal c134),(135,w135 c135),(136,w136 c136)]) d13 h14 fun h48=>
k v12.2.2.1 (Int.ofNat 0) h48)) (a0,(AV.ptr n1 0),AV.nils,(AV.int .i64 x11),(AV.int .i64 (Int.ofNat 0)),()) [] h8))
def s85 : AV→AV→H→(AV→Int→H→Prop)→Prop:=QdO J0 s24 Qet s135 s136
def w85 (c : AV→AV→H→(AV→Int→H→Prop)→Prop) : Fun:=fun xs h k=>arg xs fun a0 xs=>arg xs fun a1 xs=>QB xs <| c a0 a1 h fun r0 r1 h=>k (.tuple [r0,(.int .i64 r1)]) h
theorem QdN (J : Qm) (c24 : AV→H→(Int→H→Prop)→Prop) (c134 : AV→H→(Bool→H→Prop)→Prop) (c135 : AV→Int→H→(AV→Int→H→Prop)→Prop) (c136 : AV→AV→H→(AV→Bool→H→Prop)→Prop) (a0 : AV) (a1 : AV) (h : H) (k : AV→H→Prop) : Ql ty (gam J [(24,w24 c24),(134,Qal c134),(135,w135 c135),(136,w136 c136)]) Tryz.f85 [a0,a1] h k = QdO J c24 c134 c135 c136 a0 a1 h (fun r0 r1 h=>k (.tuple [r0,(.int .i64 r1)]) h):=by kernel_rfl
def g85 : Fun:=w85 s85
theorem g85_ok : Qe Tryz.prog 85 g85:=(Qf Qi Qj (Qg (J:=J0) (Qa NU (Qa N1 (Qa g135_ok (Qa g136_ok (Qc Qd)))))) Tryz.func85 (fun args w=>by simp)).imp fun xs h k e0=>by
  obtain ⟨a0,xs0,rfl,e1⟩:=Qp e0
  obtain ⟨a1,xs1,rfl,e2⟩:=Qp e1
  obtain ⟨rfl,e3⟩:=Qt e2
  exact (QdN J0 s24 Qet s135 s136 a0 a1 h k).mpr e3
def s49G (J : Qm) (c85 : AV→AV→H→(AV→Int→H→Prop)→Prop) (a0 : AV) (a1 : AV) (h : H) (k : Bool→H→Prop) : Prop :=
Go.Am.asAgg a0 fun l3=>
Qs (.cells false 27 l3) h fun n1 h2=>
Go.Am.asAgg a1 fun l6=>
Qs (.cells false 33 l6) h2 fun n4 h5=>
ldV (AV.ptr n1 1) h5 fun v7=>
ldN 2 (AV.ptr n4 0) h5 fun l8=>
c85 v7 (AV.agg l8) h5 fun v10 x11 h9=>
fB (eqI x11 (Int.ofNat 0)) fun b12=>
J.jn (fun v13 h14=>
J.jn (fun v16 h17=>
J.jn (fun v20 h21=>
Qo (AV.bool b12) v20 (AV.bool false) fun b25=>
k b25 h21) fun j22=>
br b12 (
asI .i64 v16 fun x23=>
fB (eqI x23 (Int.ofNat 1)) fun b24=>
j22 (AV.bool b24) h17) (
j22 Qb h17)) fun j18=>
br b12 (
Q6 v13 fun x19=>
j18 (AV.int .i64 (Int.ofNat x19)) h14) (
j18 Qb h14)) fun j15=>
br b12 (
j15 v10 h9) (
j15 Qb h9)
def s49 : AV→AV→H→(Bool→H→Prop)→Prop:=s49G J0 s85
def w49 (c : AV→AV→H→(Bool→H→Prop)→Prop) : Fun:=fun xs h k=>arg xs fun a0 xs=>arg xs fun a1 xs=>QB xs <| c a0 a1 h fun r0 h=>k (.bool r0) h
theorem QdY (J : Qm) (c85 : AV→AV→H→(AV→Int→H→Prop)→Prop) (a0 : AV) (a1 : AV) (h : H) (k : AV→H→Prop) : Ql ty (gam J [(85,w85 c85)]) Tryz.f49 [a0,a1] h k = s49G J c85 a0 a1 h (fun r0 h=>k (.bool r0) h):=by kernel_rfl
def g49 : Fun:=w49 s49
theorem Qff : Qe Tryz.prog 49 g49:=(Qf Qi Qj (Qg (J:=J0) (Qa g85_ok (Qc Qd))) Tryz.func49 (fun args w=>by simp)).imp fun xs h k e0=>by
  obtain ⟨a0,xs0,rfl,e1⟩:=Qp e0
  obtain ⟨a1,xs1,rfl,e2⟩:=Qp e1
  obtain ⟨rfl,e3⟩:=Qt e2
  exact (QdY J0 s85 a0 a1 h k).mpr e3
def s43G (J : Qm) (c17 : AV→H→(Bool→H→Prop)→Prop) (c41 : AV→H→(Bool→H→Prop)→Prop) (c48 : AV→H→(Bool→H→Prop)→Prop) (c49 : AV→AV→H→(Bool→H→Prop)→Prop) (c50 : AV→AV→H→(Int→H→Prop)→Prop) (a0 : AV) (a1 : AV) (h : H) (k : Bool→H→Prop) : Prop :=
Go.Am.asAgg a0 fun l3=>
Qs (.cells false 27 l3) h fun n1 h2=>
Go.Am.asAgg a1 fun l6=>
Qs (.cells false 40 l6) h2 fun n4 h5=>
ldV (AV.ptr n4 41) h5 fun v7=>
Q6 v7 fun x8=>
J.lp (α:=AV × AV × AV × AV × AV × Unit) (fun r12 v9 d10 h11=>
asI .i64 v9.2.2.2.2.1 fun x13=>
asI .i64 v9.2.2.2.1 fun x14=>
fB (ltI x13 x14) fun b15=>
br b15 (
ixK 2 v9.2.2.1 v9.2.2.2.2.1 fun p16=>
ldN 2 p16 h11 fun l17=>
Qs (.cells false 31 [(.int .i32 0),(.int .i32 0)]) h11 fun n18 h19=>
stN 2 (AV.ptr n18 0) l17 h19 fun h20=>
ldN 2 (AV.ptr n18 0) h20 fun l21=>
c41 (AV.agg l21) h20 fun b23 h22=>
fB (Bool.not b23) fun b24=>
br b24 (
Qr (gam J [(17,w17 c17),(41,w41 c41),(48,w48 c48),(49,w49 c49),(50,w50 c50)]) d10 h22 fun h25=>
k false h25) (
asI .i64 v9.2.2.2.2.1 fun x26=>
fI (Qu .i64 (Int.add x26 (Int.ofNat 1))) fun x27=>
r12 (v9.1,v9.2.1,v9.2.2.1,v9.2.2.2.1,(AV.int .i64 x27),()) d10 h22)) (
faK 6 v9.2.1 fun p28=>
ldN 2 p28 h11 fun l29=>
c48 (AV.agg l29) h11 fun b31 h30=>
J.jn (fun v32 h33=>
J.jn (fun v36 h37=>
J.jn (fun v40 h41=>
J.jn (fun v44 h45=>
Qo (AV.bool b31) v44 (AV.bool false) fun b49=>
J.jn (fun v50 h51=>
J.jn (fun v54 h55=>
J.jn (fun v58 h59=>
J.jn (fun v62 h63=>
J.jn (fun v66 h67=>
J.jn (fun v75 h76=>
Qo (AV.bool b49) v75 (AV.bool false) fun b80=>
J.jn (fun v81 h82=>
J.jn (fun v85 h86=>
J.jn (fun v89 h90=>
J.jn (fun v93 h94=>
J.jn (fun v97 h98=>
J.jn (fun v102 h103=>
Qo (AV.bool b80) v102 (AV.bool false) fun b107=>
J.jn (fun v108 h109=>
J.jn (fun v112 h113=>
J.jn (fun v116 h117=>
J.jn (fun v120 h121=>
Qo (AV.bool b107) v120 (AV.bool false) fun b125=>
Qr (gam J [(17,w17 c17),(41,w41 c41),(48,w48 c48),(49,w49 c49),(50,w50 c50)]) d10 h121 fun h126=>
k b125 h126) fun j122=>
br b107 (
asI .i64 v116 fun x123=>
fB (Bool.not (ltI (Int.ofNat 64) x123)) fun b124=>
j122 (AV.bool b124) h117) (
j122 Qb h117)) fun j118=>
br b107 (
Q6 v112 fun x119=>
j118 (AV.int .i64 (Int.ofNat x119)) h113) (
j118 Qb h113)) fun j114=>
br b107 (
ldV v108 h109 fun v115=>
j114 v115 h109) (
j114 Qb h109)) fun j110=>
br b107 (
faK 41 v9.2.1 fun p111=>
j110 p111 h103) (
j110 Qb h103)) fun j104=>
br b80 (
asI .i64 v97 fun x105=>
fB (Bool.not (ltI x105 (Int.ofNat 0))) fun b106=>
j104 (AV.bool b106) h98) (
j104 Qb h98)) fun j99=>
br b80 (
c50 v85 v93 h94 fun x101 h100=>
j99 (AV.int .i64 x101) h100) (
j99 Qb h94)) fun j95=>
br b80 (
ldN 3 v89 h90 fun l96=>
j95 (AV.agg l96) h90) (
j95 Qb h90)) fun j91=>
br b80 (
faK 17 v9.2.1 fun p92=>
j91 p92 h86) (
j91 Qb h86)) fun j87=>
br b80 (
ldN 3 v81 h82 fun l88=>
j87 (AV.agg l88) h82) (
j87 Qb h82)) fun j83=>
br b80 (
faK 20 v9.2.1 fun p84=>
j83 p84 h76) (
j83 Qb h76)) fun j77=>
br b49 (
c17 v66 h67 fun b79 h78=>
j77 (AV.bool b79) h78) (
j77 Qb h67)) fun j68=>
br b49 (
Go.Am.asAgg v54 fun l71=>
ck (Nat.beq (List.length l71) 3) (op' (Qy 0 l71 [(.int .i64 0),(.int .i32 0),(.int .i32 0),(.int .i64 0),(.int .i32 0),(.int .i32 0)]) fun l72=>
Go.Am.asAgg v62 fun l73=>
ck (Nat.beq (List.length l73) 3) (op' (Qy 3 l73 l72) fun l74=>
Qs (.cells false 29 l74) h63 fun n69 h70=>
j68 (AV.slice n69 0 2 2 3 true) h70))) (
j68 Qb h63)) fun j64=>
br b49 (
ldN 3 v58 h59 fun l65=>
j64 (AV.agg l65) h59) (
j64 Qb h59)) fun j60=>
br b49 (
faK 20 v9.2.1 fun p61=>
j60 p61 h55) (
j60 Qb h55)) fun j56=>
br b49 (
ldN 3 v50 h51 fun l57=>
j56 (AV.agg l57) h51) (
j56 Qb h51)) fun j52=>
br b49 (
faK 17 v9.2.1 fun p53=>
j52 p53 h45) (
j52 Qb h45)) fun j46=>
br b31 (
c49 v32 v40 h41 fun b48 h47=>
j46 (AV.bool b48) h47) (
j46 Qb h41)) fun j42=>
br b31 (
ldN 2 v36 h37 fun l43=>
j42 (AV.agg l43) h37) (
j42 Qb h37)) fun j38=>
br b31 (
faK 15 v9.2.1 fun p39=>
j38 p39 h33) (
j38 Qb h33)) fun j34=>
br b31 (
ldN 10 v9.1 h30 fun l35=>
j34 (AV.agg l35) h30) (
j34 Qb h30))) ((AV.ptr n1 0),(AV.ptr n4 0),v7,(AV.int .i64 (Int.ofNat x8)),(AV.int .i64 (Int.ofNat 0)),()) [] h5
def s43 : AV→AV→H→(Bool→H→Prop)→Prop:=s43G J0 s17 s41 s48 s49 s50
def w43 (c : AV→AV→H→(Bool→H→Prop)→Prop) : Fun:=fun xs h k=>arg xs fun a0 xs=>arg xs fun a1 xs=>QB xs <| c a0 a1 h fun r0 h=>k (.bool r0) h
theorem Qd4 (J : Qm) (c17 : AV→H→(Bool→H→Prop)→Prop) (c41 : AV→H→(Bool→H→Prop)→Prop) (c48 : AV→H→(Bool→H→Prop)→Prop) (c49 : AV→AV→H→(Bool→H→Prop)→Prop) (c50 : AV→AV→H→(Int→H→Prop)→Prop) (a0 : AV) (a1 : AV) (h : H) (k : AV→H→Prop) : Ql ty (gam J [(17,w17 c17),(41,w41 c41),(48,w48 c48),(49,w49 c49),(50,w50 c50)]) Tryz.f43 [a0,a1] h k = s43G J c17 c41 c48 c49 c50 a0 a1 h (fun r0 h=>k (.bool r0) h):=by kernel_rfl
def g43 : Fun:=w43 s43
theorem g43_ok : Qe Tryz.prog 43 g43:=(Qf Qi Qj (Qg (J:=J0) (Qa QaN (Qa QaM (Qa Qfg (Qa Qff (Qa Wp (Qc Qd))))))) Tryz.func43 (fun args w=>by simp)).imp fun xs h k e0=>by
  obtain ⟨a0,xs0,rfl,e1⟩:=Qp e0
  obtain ⟨a1,xs1,rfl,e2⟩:=Qp e1
  obtain ⟨rfl,e3⟩:=Qt e2
  exact (Qd4 J0 s17 s41 s48 s49 s50 a0 a1 h k).mpr e3
def QdR (J : Qm) (a0 : AV) (h : H) (k : AV→H→Prop) : Prop :=
Go.Am.asAgg a0 fun l3=>
Qs (.cells false 40 l3) h fun n1 h2=>
ldV (AV.ptr n1 27) h2 fun v4=>
Q6 v4 fun x5=>
J.lp (α:=AV × AV × AV × AV × AV × Unit) (fun r9 v6 d7 h8=>
asI .i64 v6.2.2.2.2.1 fun x10=>
asI .i64 v6.2.2.2.1 fun x11=>
fB (ltI x10 x11) fun b12=>
br b12 (
ixK 3 v6.2.2.1 v6.2.2.2.2.1 fun p13=>
ldN 3 p13 h8 fun l14=>
Qs (.cells false 65 [(.str ⟨0,0⟩),(.str ⟨0,0⟩),(.bool false)]) h8 fun n15 h16=>
stN 3 (AV.ptr n15 0) l14 h16 fun h17=>
ldS (AV.ptr n15 0) h17 fun s18=>
faK 6 v6.1 fun p19=>
ldN 2 p19 h17 fun l20=>
faK 8 v6.1 fun p21=>
ldN 3 p21 h17 fun l22=>
faK 14 v6.1 fun p23=>
ldS p23 h17 fun s24=>
faK 17 v6.1 fun p25=>
ldN 3 p25 h17 fun l26=>
ldS (AV.ptr n15 1) h17 fun s27=>
ldB (AV.ptr n15 2) h17 fun b28=>
ck (Nat.beq (List.length l20) 2) (op' (Qy 1 l20 [(AV.str s18),(.int .i32 0),(.int .i32 0),(.int .i64 0),(.int .i32 0),(.int .i32 0),(.str ⟨0,0⟩),(.int .i64 0),(.int .i32 0),(.int .i32 0),(.str ⟨0,0⟩),(.bool false)]) fun l29=>
ck (Nat.beq (List.length l22) 3) (op' (Qy 3 l22 l29) fun l30=>
op' (Qy 6 [(AV.str s24)] l30) fun l31=>
ck (Nat.beq (List.length l26) 3) (op' (Qy 7 l26 l31) fun l32=>
op' (Qy 10 [(AV.str s27)] l32) fun l33=>
op' (Qy 11 [(AV.bool b28)] l33) fun l34=>
ck (Nat.beq (List.length l34) 12) (op' (Qy 0 l34 [(.str ⟨0,0⟩),(.int .i32 0),(.int .i32 0),(.int .i64 0),(.int .i32 0),(.int .i32 0),(.str ⟨0,0⟩),(.int .i64 0),(.int .i32 0),(.int .i32 0),(.str ⟨0,0⟩),(.bool false)]) fun l37=>
Qs (.cells false 143 l37) h17 fun n35 h36=>
apC 143 12 96 v6.2.1 (AV.slice n35 0 1 1 12 true) h36 fun v38 h39=>
asI .i64 v6.2.2.2.2.1 fun x40=>
fI (Qu .i64 (Int.add x40 (Int.ofNat 1))) fun x41=>
r9 (v6.1,v38,v6.2.2.1,v6.2.2.2.1,(AV.int .i64 x41),()) d7 h39))))) (
Qr (gam J []) d7 h8 fun h42=>
k v6.2.1 h42)) ((AV.ptr n1 0),AV.nils,v4,(AV.int .i64 (Int.ofNat x5)),(AV.int .i64 (Int.ofNat 0)),()) [] h2
def s82 : AV→H→(AV→H→Prop)→Prop:=QdR J0
def w82 (c : AV→H→(AV→H→Prop)→Prop) : Fun:=fun xs h k=>arg xs fun a0 xs=>QB xs <| c a0 h fun r0 h=>k r0 h
theorem s82_eq (J : Qm) (a0 : AV) (h : H) (k : AV→H→Prop) : Ql ty (gam J []) Tryz.f82 [a0] h k = QdR J  a0 h (fun r0 h=>k r0 h):=by kernel_rfl
def g82 : Fun:=w82 s82
theorem QaI : Qe Tryz.prog 82 g82:=(Qf Qi Qj (Qg (J:=J0) (Qc Qd)) Tryz.func82 (fun args w=>by simp)).imp fun xs h k e0=>by
  obtain ⟨a0,xs0,rfl,e1⟩:=Qp e0
  obtain ⟨rfl,e2⟩:=Qt e1
  exact (s82_eq J0  a0 h k).mpr e2
def Qev (J : Qm) (a0 : Str) (h : H) (k : Bool→H→Prop) : Prop :=
fB (Bool.not (ltI (Int.ofNat a0.len) (Int.ofNat 1))) fun b1=>
J.jn (fun v2 h3=>
J.jn (fun v5 h6=>
J.jn (fun v9 h10=>
Qo (AV.bool b1) v9 (AV.bool false) fun b14=>
k b14 h10) fun j11=>
br b1 (
asI .i64 v5 fun x12=>
fB (Bool.not (ltI (Int.ofNat 128) x12)) fun b13=>
j11 (AV.bool b13) h6) (
j11 Qb h6)) fun j7=>
br b1 (
asS v2 fun s8=>
j7 (AV.int .i64 (Int.ofNat s8.len)) h3) (
j7 Qb h3)) fun j4=>
br b1 (
j4 (AV.str a0) h) (
j4 Qb h)
def s132 : Str→H→(Bool→H→Prop)→Prop:=Qev J0
def w132 (c : Str→H→(Bool→H→Prop)→Prop) : Fun:=fun xs h k=>arg xs fun a0 xs=>QB xs <| asS a0 fun a0=>c a0 h fun r0 h=>k (.bool r0) h
theorem QbC (J : Qm) (a0 : Str) (h : H) (k : AV→H→Prop) : Ql ty (gam J []) Tryz.f132 [(.str a0)] h k = Qev J  a0 h (fun r0 h=>k (.bool r0) h):=by kernel_rfl
def g132 : Fun:=w132 s132
theorem Xl : Qe Tryz.prog 132 g132:=(Qf Qi Qj (Qg (J:=J0) (Qc Qd)) Tryz.func132 (fun args w=>by simp)).imp fun xs h k e0=>by
  obtain ⟨a0,xs0,rfl,e1⟩:=Qp e0
  obtain ⟨rfl,e2⟩:=Qt e1
  obtain ⟨a0,rfl,e3⟩:=QI.1 e2
  exact (QbC J0  a0 h k).mpr e3
def Qeu (J : Qm) (a0 : Str) (a1 : Bool) (h : H) (k : Bool→H→Prop) : Prop :=
fB (Bool.not (ltI (Int.ofNat 2048) (Int.ofNat a0.len))) fun b1=>
J.jn (fun v2 h3=>
J.jn (fun v5 h6=>
J.jn (fun v10 h11=>
J.jn (fun v13 h14=>
J.jn (fun v16 h17=>
J.jn (fun v21 h22=>
Qo (AV.bool b1) v21 (AV.bool false) fun b25=>
k b25 h22) fun j23=>
br b1 (
Qo v10 (AV.bool true) v16 fun b24=>
j23 (AV.bool b24) h17) (
j23 Qb h17)) fun j18=>
QH v10 (fun b26=>
br b26 (
j18 Qb h14) (
asS v13 fun s19=>
fB (Str.beq s19 (⟨0,0⟩ : Str)) fun b20=>
j18 (AV.bool b20) h14)) (
j18 Qb h14)) fun j15=>
QH v10 (fun b27=>
br b27 (
j15 Qb h11) (
j15 (AV.str a0) h11)) (
j15 Qb h11)) fun j12=>
br b1 (
j12 v5 h6) (
j12 Qb h6)) fun j7=>
br b1 (
asB v2 fun b8=>
fB (Bool.not b8) fun b9=>
j7 (AV.bool b9) h3) (
j7 Qb h3)) fun j4=>
br b1 (
j4 (AV.bool a1) h) (
j4 Qb h)
def s133 : Str→Bool→H→(Bool→H→Prop)→Prop:=Qeu J0
def w133 (c : Str→Bool→H→(Bool→H→Prop)→Prop) : Fun:=fun xs h k=>arg xs fun a0 xs=>arg xs fun a1 xs=>QB xs <| asS a0 fun a0=>asB a1 fun a1=>c a0 a1 h fun r0 h=>k (.bool r0) h
theorem QbB (J : Qm) (a0 : Str) (a1 : Bool) (h : H) (k : AV→H→Prop) : Ql ty (gam J []) Tryz.f133 [(.str a0),(.bool a1)] h k = Qeu J  a0 a1 h (fun r0 h=>k (.bool r0) h):=by kernel_rfl
def g133 : Fun:=w133 s133
theorem QcV : Qe Tryz.prog 133 g133:=(Qf Qi Qj (Qg (J:=J0) (Qc Qd)) Tryz.func133 (fun args w=>by simp)).imp fun xs h k e0=>by
  obtain ⟨a0,xs0,rfl,e1⟩:=Qp e0
  obtain ⟨a1,xs1,rfl,e2⟩:=Qp e1
  obtain ⟨rfl,e3⟩:=Qt e2
  obtain ⟨a0,rfl,e4⟩:=QI.1 e3
  obtain ⟨a1,rfl,e5⟩:=Zr.1 e4
  exact (QbB J0  a0 a1 h k).mpr e5
def s83G (J : Qm) (c40 : AV→H→(Int→H→Prop)→Prop) (c81 : AV→H→(Int→Int→H→Prop)→Prop) (c132 : Str→H→(Bool→H→Prop)→Prop) (c133 : Str→Bool→H→(Bool→H→Prop)→Prop) (a0 : AV) (h : H) (k : Int→H→Prop) : Prop :=
Go.Am.asAgg a0 fun l3=>
Qs (.cells false 143 l3) h fun n1 h2=>
ldN 2 (AV.ptr n1 1) h2 fun l4=>
c81 (AV.agg l4) h2 fun x6 x7 h5=>
fB (Bool.not (eqI x7 (Int.ofNat 0))) fun b8=>
J.jn (fun v9 h10=>
J.jn (fun v12 h13=>
J.jn (fun v16 h17=>
J.jn (fun v22 h23=>
Qo (AV.bool b8) (AV.bool true) v22 fun b27=>
J.jn (fun v28 h29=>
J.jn (fun v31 h32=>
J.jn (fun v35 h36=>
J.jn (fun v41 h42=>
Qo (AV.bool b27) (AV.bool true) v41 fun b46=>
J.jn (fun v47 h48=>
J.jn (fun v50 h51=>
J.jn (fun v54 h55=>
J.jn (fun v57 h58=>
J.jn (fun v61 h62=>
J.jn (fun v68 h69=>
Qo (AV.bool b46) (AV.bool true) v68 fun b73=>
J.jn (fun v74 h75=>
J.jn (fun v77 h78=>
J.jn (fun v81 h82=>
J.jn (fun v86 h87=>
Qo (AV.bool b73) (AV.bool true) v86 fun b91=>
J.jn (fun v92 h93=>
J.jn (fun v95 h96=>
J.jn (fun v99 h100=>
J.jn (fun v104 h105=>
Qo (AV.bool b91) (AV.bool true) v104 fun b109=>
J.jn (fun v110 h111=>
J.jn (fun v113 h114=>
J.jn (fun v117 h118=>
J.jn (fun v121 h122=>
J.jn (fun v124 h125=>
Qo (AV.bool b109) (AV.bool true) v124 fun b130=>
br b130 (
k (Int.ofNat 2) h125) (
k (Int.ofNat 0) h125)) fun j126=>
br b109 (
j126 Qb h122) (
asI .i32 v117 fun x127=>
asI .i32 v121 fun x128=>
fB (Bool.not (eqI x127 x128)) fun b129=>
j126 (AV.bool b129) h122)) fun j123=>
br b109 (
j123 Qb h118) (
j123 (AV.int .i32 x6) h118)) fun j119=>
br b109 (
j119 Qb h114) (
ldI .i32 v113 h114 fun x120=>
j119 (AV.int .i32 x120) h114)) fun j115=>
br b109 (
j115 Qb h111) (
faK 2 v110 fun p116=>
j115 p116 h111)) fun j112=>
br b109 (
j112 Qb h105) (
j112 (AV.ptr n1 7) h105)) fun j106=>
br b91 (
j106 Qb h100) (
asI .i64 v99 fun x107=>
fB (Bool.not (eqI x107 (Int.ofNat 0))) fun b108=>
j106 (AV.bool b108) h100)) fun j101=>
br b91 (
j101 Qb h96) (
c40 v95 h96 fun x103 h102=>
j101 (AV.int .i64 x103) h102)) fun j97=>
br b91 (
j97 Qb h93) (
ldN 3 v92 h93 fun l98=>
j97 (AV.agg l98) h93)) fun j94=>
br b91 (
j94 Qb h87) (
j94 (AV.ptr n1 7) h87)) fun j88=>
br b73 (
j88 Qb h82) (
asI .i64 v81 fun x89=>
fB (Bool.not (eqI x89 (Int.ofNat 0))) fun b90=>
j88 (AV.bool b90) h82)) fun j83=>
br b73 (
j83 Qb h78) (
c40 v77 h78 fun x85 h84=>
j83 (AV.int .i64 x85) h84)) fun j79=>
br b73 (
j79 Qb h75) (
ldN 3 v74 h75 fun l80=>
j79 (AV.agg l80) h75)) fun j76=>
br b73 (
j76 Qb h69) (
j76 (AV.ptr n1 3) h69)) fun j70=>
br b46 (
j70 Qb h62) (
asB v61 fun b71=>
fB (Bool.not b71) fun b72=>
j70 (AV.bool b72) h62)) fun j63=>
br b46 (
j63 Qb h58) (
asS v50 fun s65=>
asB v57 fun b66=>
c133 s65 b66 h58 fun b67 h64=>
j63 (AV.bool b67) h64)) fun j59=>
br b46 (
j59 Qb h55) (
ldB v54 h55 fun b60=>
j59 (AV.bool b60) h55)) fun j56=>
br b46 (
j56 Qb h51) (
j56 (AV.ptr n1 11) h51)) fun j52=>
br b46 (
j52 Qb h48) (
ldS v47 h48 fun s53=>
j52 (AV.str s53) h48)) fun j49=>
br b46 (
j49 Qb h42) (
j49 (AV.ptr n1 10) h42)) fun j43=>
br b27 (
j43 Qb h36) (
asB v35 fun b44=>
fB (Bool.not b44) fun b45=>
j43 (AV.bool b45) h36)) fun j37=>
br b27 (
j37 Qb h32) (
asS v31 fun s39=>
c132 s39 h32 fun b40 h38=>
j37 (AV.bool b40) h38)) fun j33=>
br b27 (
j33 Qb h29) (
ldS v28 h29 fun s34=>
j33 (AV.str s34) h29)) fun j30=>
br b27 (
j30 Qb h23) (
j30 (AV.ptr n1 6) h23)) fun j24=>
br b8 (
j24 Qb h17) (
asB v16 fun b25=>
fB (Bool.not b25) fun b26=>
j24 (AV.bool b26) h17)) fun j18=>
br b8 (
j18 Qb h13) (
asS v12 fun s20=>
c132 s20 h13 fun b21 h19=>
j18 (AV.bool b21) h19)) fun j14=>
br b8 (
j14 Qb h10) (
ldS v9 h10 fun s15=>
j14 (AV.str s15) h10)) fun j11=>
br b8 (
j11 Qb h5) (
j11 (AV.ptr n1 0) h5)
def s83 : AV→H→(Int→H→Prop)→Prop:=s83G J0 s40 s81 s132 s133
def w83 (c : AV→H→(Int→H→Prop)→Prop) : Fun:=fun xs h k=>arg xs fun a0 xs=>QB xs <| c a0 h fun r0 h=>k (.int .i64 r0) h
theorem QdQ (J : Qm) (c40 : AV→H→(Int→H→Prop)→Prop) (c81 : AV→H→(Int→Int→H→Prop)→Prop) (c132 : Str→H→(Bool→H→Prop)→Prop) (c133 : Str→Bool→H→(Bool→H→Prop)→Prop) (a0 : AV) (h : H) (k : AV→H→Prop) : Ql ty (gam J [(40,w40 c40),(81,w81 c81),(132,w132 c132),(133,w133 c133)]) Tryz.f83 [a0] h k = s83G J c40 c81 c132 c133 a0 h (fun r0 h=>k (.int .i64 r0) h):=by kernel_rfl
def g83 : Fun:=w83 s83
theorem X1 : Qe Tryz.prog 83 g83:=(Qf Qi Qj (Qg (J:=J0) (Qa W9 (Qa NI (Qa Xl (Qa QcV (Qc Qd)))))) Tryz.func83 (fun args w=>by simp)).imp fun xs h k e0=>by
  obtain ⟨a0,xs0,rfl,e1⟩:=Qp e0
  obtain ⟨rfl,e2⟩:=Qt e1
  exact (QdQ J0 s40 s81 s132 s133 a0 h k).mpr e2
def s44G (J : Qm) (c82 : AV→H→(AV→H→Prop)→Prop) (c83 : AV→H→(Int→H→Prop)→Prop) (a0 : AV) (h : H) (k : Bool→H→Prop) : Prop :=
Go.Am.asAgg a0 fun l3=>
Qs (.cells false 40 l3) h fun n1 h2=>
ldN 42 (AV.ptr n1 0) h2 fun l4=>
c82 (AV.agg l4) h2 fun v6 h5=>
Q6 v6 fun x7=>
J.lp (α:=AV × AV × AV × AV × Unit) (fun r11 v8 d9 h10=>
asI .i64 v8.2.2.2.1 fun x12=>
asI .i64 v8.2.2.1 fun x13=>
fB (ltI x12 x13) fun b14=>
br b14 (
ixK 12 v8.2.1 v8.2.2.2.1 fun p15=>
ldN 12 p15 h10 fun l16=>
Qs (.cells false 143 [(.str ⟨0,0⟩),(.int .i32 0),(.int .i32 0),(.int .i64 0),(.int .i32 0),(.int .i32 0),(.str ⟨0,0⟩),(.int .i64 0),(.int .i32 0),(.int .i32 0),(.str ⟨0,0⟩),(.bool false)]) h10 fun n17 h18=>
stN 12 (AV.ptr n17 0) l16 h18 fun h19=>
ldN 12 (AV.ptr n17 0) h19 fun l20=>
c83 (AV.agg l20) h19 fun x22 h21=>
fB (Bool.not (eqI x22 (Int.ofNat 0))) fun b23=>
J.jn (fun v24 h25=>
J.jn (fun v27 h28=>
J.jn (fun v32 h33=>
J.jn (fun v35 h36=>
J.jn (fun v38 h39=>
J.jn (fun v41 h42=>
J.jn (fun v46 h47=>
J.jn (fun v50 h51=>
J.jb (fun b54 v55=>
J.jn (fun v58 h59=>
J.jb (fun b61 v62=>
J.jn (fun v65 h66=>
J.jn (fun v71 h72=>
Qo (AV.bool b23) (AV.bool true) v71 fun b75=>
br b75 (
Qr (gam J [(82,w82 c82),(83,w83 c83)]) d9 h72 fun h76=>
k false h76) (
asI .i64 v8.2.2.2.1 fun x77=>
fI (Qu .i64 (Int.add x77 (Int.ofNat 1))) fun x78=>
r11 (v8.1,v8.2.1,v8.2.2.1,(AV.int .i64 x78),()) d9 h72)) fun j73=>
br b23 (
j73 Qb h66) (
Qo v32 v65 (AV.bool false) fun b74=>
j73 (AV.bool b74) h66)) fun j67=>
QH v32 (fun b79=>
br b79 (
asS v55 fun s68=>
asS v62 fun s69=>
fB (Bool.not (Str.lt s68 s69)) fun b70=>
j67 (AV.bool b70) h59) (
j67 Qb h59)) (
j67 Qb h59)) fun j63=>
QH v32 (fun b80=>
br b80 (
ldS v58 h59 fun s64=>
j63 true (AV.str s64)) (
j63 false Qb)) (
j63 false Qb)) fun j60=>
QH v32 (fun b81=>
br b81 (
j60 (AV.ptr n17 0) h51) (
j60 Qb h51)) (
j60 Qb h51)) fun j56=>
QH v32 (fun b82=>
br b82 (
ldS v50 h51 fun s57=>
j56 true (AV.str s57)) (
j56 false Qb)) (
j56 false Qb)) fun j52=>
QH v32 (fun b83=>
br b83 (
faK 0 v46 fun p53=>
j52 p53 h47) (
j52 Qb h47)) (
j52 Qb h47)) fun j48=>
QH v32 (fun b84=>
br b84 (
ixK 12 v35 v41 fun p49=>
j48 p49 h42) (
j48 Qb h42)) (
j48 Qb h42)) fun j43=>
QH v32 (fun b85=>
br b85 (
asI .i64 v38 fun x44=>
fI (Qu .i64 (Int.sub x44 (Int.ofNat 1))) fun x45=>
j43 (AV.int .i64 x45) h39) (
j43 Qb h39)) (
j43 Qb h39)) fun j40=>
QH v32 (fun b86=>
br b86 (
j40 v8.2.2.2.1 h36) (
j40 Qb h36)) (
j40 Qb h36)) fun j37=>
QH v32 (fun b87=>
br b87 (
j37 v8.1 h33) (
j37 Qb h33)) (
j37 Qb h33)) fun j34=>
br b23 (
j34 Qb h28) (
j34 v27 h28)) fun j29=>
br b23 (
j29 Qb h25) (
asI .i64 v24 fun x30=>
fB (ltI (Int.ofNat 0) x30) fun b31=>
j29 (AV.bool b31) h25)) fun j26=>
br b23 (
j26 Qb h21) (
j26 v8.2.2.2.1 h21)) (
Q6 v8.1 fun x88=>
fB (Bool.not (ltI (Int.ofNat x88) (Int.ofNat 1))) fun b89=>
J.jn (fun v90 h91=>
J.jn (fun v93 h94=>
J.jn (fun v97 h98=>
Qo (AV.bool b89) v97 (AV.bool false) fun b102=>
Qr (gam J [(82,w82 c82),(83,w83 c83)]) d9 h98 fun h103=>
k b102 h103) fun j99=>
br b89 (
asI .i64 v93 fun x100=>
fB (Bool.not (ltI (Int.ofNat 24) x100)) fun b101=>
j99 (AV.bool b101) h94) (
j99 Qb h94)) fun j95=>
br b89 (
Q6 v90 fun x96=>
j95 (AV.int .i64 (Int.ofNat x96)) h91) (
j95 Qb h91)) fun j92=>
br b89 (
j92 v8.1 h10) (
j92 Qb h10))) (v6,v6,(AV.int .i64 (Int.ofNat x7)),(AV.int .i64 (Int.ofNat 0)),()) [] h5
def s44 : AV→H→(Bool→H→Prop)→Prop:=s44G J0 s82 s83
def w44 (c : AV→H→(Bool→H→Prop)→Prop) : Fun:=fun xs h k=>arg xs fun a0 xs=>QB xs <| c a0 h fun r0 h=>k (.bool r0) h
theorem Qd3 (J : Qm) (c82 : AV→H→(AV→H→Prop)→Prop) (c83 : AV→H→(Int→H→Prop)→Prop) (a0 : AV) (h : H) (k : AV→H→Prop) : Ql ty (gam J [(82,w82 c82),(83,w83 c83)]) Tryz.f44 [a0] h k = s44G J c82 c83 a0 h (fun r0 h=>k (.bool r0) h):=by kernel_rfl
def g44 : Fun:=w44 s44
theorem g44_ok : Qe Tryz.prog 44 g44:=(Qf Qi Qj (Qg (J:=J0) (Qa QaI (Qa X1 (Qc Qd)))) Tryz.func44 (fun args w=>by simp)).imp fun xs h k e0=>by
  obtain ⟨a0,xs0,rfl,e1⟩:=Qp e0
  obtain ⟨rfl,e2⟩:=Qt e1
  exact (Qd3 J0 s82 s83 a0 h k).mpr e2
def s84G (J : Qm) (a0 : AV) (h : H) (k : Bool→H→Prop) : Prop :=
Q6 a0 fun x1=>
J.lp (α:=AV × AV × AV × AV × Unit) (fun r5 v2 d3 h4=>
asI .i64 v2.2.2.2.1 fun x6=>
asI .i64 v2.2.2.1 fun x7=>
fB (ltI x6 x7) fun b8=>
br b8 (
ixK 1 v2.2.1 v2.2.2.2.1 fun p9=>
ldS p9 h4 fun s10=>
fB (Str.beq s10 (⟨0,0⟩ : Str)) fun b11=>
J.jn (fun v12 h13=>
J.jn (fun v15 h16=>
J.jn (fun v20 h21=>
J.jn (fun v23 h24=>
J.jn (fun v26 h27=>
J.jn (fun v29 h30=>
J.jn (fun v34 h35=>
J.jn (fun v38 h39=>
J.jn (fun v42 h43=>
J.jn (fun v45 h46=>
J.jn (fun v51 h52=>
Qo (AV.bool b11) (AV.bool true) v51 fun b55=>
br b55 (
Qr (gam J []) d3 h52 fun h56=>
k false h56) (
asI .i64 v2.2.2.2.1 fun x57=>
fI (Qu .i64 (Int.add x57 (Int.ofNat 1))) fun x58=>
r5 (v2.1,v2.2.1,v2.2.2.1,(AV.int .i64 x58),()) d3 h52)) fun j53=>
br b11 (
j53 Qb h46) (
Qo v20 v45 (AV.bool false) fun b54=>
j53 (AV.bool b54) h46)) fun j47=>
QH v20 (fun b59=>
br b59 (
asS v38 fun s48=>
asS v42 fun s49=>
fB (Bool.not (Str.lt s48 s49)) fun b50=>
j47 (AV.bool b50) h43) (
j47 Qb h43)) (
j47 Qb h43)) fun j44=>
QH v20 (fun b60=>
br b60 (
j44 (AV.str s10) h39) (
j44 Qb h39)) (
j44 Qb h39)) fun j40=>
QH v20 (fun b61=>
br b61 (
ldS v34 h35 fun s41=>
j40 (AV.str s41) h35) (
j40 Qb h35)) (
j40 Qb h35)) fun j36=>
QH v20 (fun b62=>
br b62 (
ixK 1 v23 v29 fun p37=>
j36 p37 h30) (
j36 Qb h30)) (
j36 Qb h30)) fun j31=>
QH v20 (fun b63=>
br b63 (
asI .i64 v26 fun x32=>
fI (Qu .i64 (Int.sub x32 (Int.ofNat 1))) fun x33=>
j31 (AV.int .i64 x33) h27) (
j31 Qb h27)) (
j31 Qb h27)) fun j28=>
QH v20 (fun b64=>
br b64 (
j28 v2.2.2.2.1 h24) (
j28 Qb h24)) (
j28 Qb h24)) fun j25=>
QH v20 (fun b65=>
br b65 (
j25 v2.1 h21) (
j25 Qb h21)) (
j25 Qb h21)) fun j22=>
br b11 (
j22 Qb h16) (
j22 v15 h16)) fun j17=>
br b11 (
j17 Qb h13) (
asI .i64 v12 fun x18=>
fB (ltI (Int.ofNat 0) x18) fun b19=>
j17 (AV.bool b19) h13)) fun j14=>
br b11 (
j14 Qb h4) (
j14 v2.2.2.2.1 h4)) (
Qr (gam J []) d3 h4 fun h66=>
k true h66)) (a0,a0,(AV.int .i64 (Int.ofNat x1)),(AV.int .i64 (Int.ofNat 0)),()) [] h
def s84 : AV→H→(Bool→H→Prop)→Prop:=s84G J0
def w84 (c : AV→H→(Bool→H→Prop)→Prop) : Fun:=fun xs h k=>arg xs fun a0 xs=>QB xs <| c a0 h fun r0 h=>k (.bool r0) h
theorem QdP (J : Qm) (a0 : AV) (h : H) (k : AV→H→Prop) : Ql ty (gam J []) Tryz.f84 [a0] h k = s84G J  a0 h (fun r0 h=>k (.bool r0) h):=by kernel_rfl
def g84 : Fun:=w84 s84
theorem g84_ok : Qe Tryz.prog 84 g84:=(Qf Qi Qj (Qg (J:=J0) (Qc Qd)) Tryz.func84 (fun args w=>by simp)).imp fun xs h k e0=>by
  obtain ⟨a0,xs0,rfl,e1⟩:=Qp e0
  obtain ⟨rfl,e2⟩:=Qt e1
  exact (QdP J0  a0 h k).mpr e2
def s46G (J : Qm) (c40 : AV→H→(Int→H→Prop)→Prop) (c81 : AV→H→(Int→Int→H→Prop)→Prop) (c84 : AV→H→(Bool→H→Prop)→Prop) (a0 : AV) (h : H) (k : Int→H→Prop) : Prop :=
Go.Am.asAgg a0 fun l3=>
Qs (.cells false 37 l3) h fun n1 h2=>
ldV (AV.ptr n1 6) h2 fun v4=>
Q6 v4 fun x5=>
fB (ltI (Int.ofNat 24) (Int.ofNat x5)) fun b6=>
br b6 (
k (Int.ofNat 3) h2) (
ldN 2 (AV.ptr n1 0) h2 fun l7=>
c81 (AV.agg l7) h2 fun x9 x10 h8=>
fB (eqI x10 (Int.ofNat 0)) fun b11=>
J.jn (fun v12 h13=>
J.jn (fun v15 h16=>
J.jn (fun v19 h20=>
Qo (AV.bool b11) v19 (AV.bool false) fun b24=>
J.jn (fun v25 h26=>
J.jn (fun v28 h29=>
J.jn (fun v32 h33=>
Qo (AV.bool b24) v32 (AV.bool false) fun b37=>
J.jn (fun v38 h39=>
J.jn (fun v41 h42=>
J.jn (fun v45 h46=>
J.jn (fun v50 h51=>
Qo (AV.bool b37) v50 (AV.bool false) fun b55=>
J.jd (α:=AV × Unit) (fun v56 d57 h58=>
asB v56.1 fun b60=>
fB (Bool.not b60) fun b61=>
br b61 (
Qr (gam J [(40,w40 c40),(81,w81 c81),(84,w84 c84)]) d57 h58 fun h62=>
k (Int.ofNat 2) h62) (
Qr (gam J [(40,w40 c40),(81,w81 c81),(84,w84 c84)]) d57 h58 fun h63=>
k (Int.ofNat 0) h63)) fun j59=>
ldI .u8 (AV.ptr n1 2) h51 fun x64=>
J.jd (α:=AV × AV × AV × AV × AV × Unit) (fun v65 d66 h67=>
asB v65.2.2.2.2.1 fun b69=>
br b69 (
J.jn (fun v70 h71=>
J.jn (fun v74 h75=>
J.jn (fun v78 h79=>
J.jn (fun v81 h82=>
Qo v65.2.2.1 v81 (AV.bool false) fun b85=>
J.jn (fun v86 h87=>
J.jn (fun v90 h91=>
J.jn (fun v94 h95=>
J.jn (fun v98 h99=>
Qo (AV.bool b85) v98 (AV.bool false) fun b103=>
j59 ((AV.bool b103),()) d66 h99) fun j100=>
br b85 (
asI .i64 v94 fun x101=>
fB (eqI x101 (Int.ofNat 0)) fun b102=>
j100 (AV.bool b102) h95) (
j100 Qb h95)) fun j96=>
br b85 (
Q6 v90 fun x97=>
j96 (AV.int .i64 (Int.ofNat x97)) h91) (
j96 Qb h91)) fun j92=>
br b85 (
ldV v86 h87 fun v93=>
j92 v93 h87) (
j92 Qb h87)) fun j88=>
br b85 (
faK 6 v65.1 fun p89=>
j88 p89 h82) (
j88 Qb h82)) fun j83=>
QH v65.2.2.1 (fun b104=>
br b104 (
obK (Wt ty .eql 29 false v74 v78) fun b84=>
j83 (AV.bool b84) h79) (
j83 Qb h79)) (
j83 Qb h79)) fun j80=>
QH v65.2.2.1 (fun b105=>
br b105 (
j80 (AV.agg [(.int .i64 0),(.int .i32 0),(.int .i32 0)]) h75) (
j80 Qb h75)) (
j80 Qb h75)) fun j76=>
QH v65.2.2.1 (fun b106=>
br b106 (
ldN 3 v70 h71 fun l77=>
j76 (AV.agg l77) h71) (
j76 Qb h71)) (
j76 Qb h71)) fun j72=>
QH v65.2.2.1 (fun b107=>
br b107 (
faK 3 v65.1 fun p73=>
j72 p73 h67) (
j72 Qb h67)) (
j72 Qb h67)) (
J.jd (α:=AV × AV × AV × AV × Unit) (fun v108 d109 h110=>
asB v108.2.2.2.1 fun b112=>
br b112 (
J.jn (fun v113 h114=>
J.jn (fun v117 h118=>
J.jn (fun v121 h122=>
J.jn (fun v126 h127=>
Qo v108.2.2.1 v126 (AV.bool false) fun b131=>
J.jn (fun v132 h133=>
J.jn (fun v136 h137=>
J.jn (fun v140 h141=>
J.jn (fun v144 h145=>
J.jn (fun v147 h148=>
Qo (AV.bool b131) v147 (AV.bool false) fun b153=>
J.jn (fun v154 h155=>
J.jn (fun v158 h159=>
J.jn (fun v162 h163=>
J.jn (fun v166 h167=>
Qo (AV.bool b153) v166 (AV.bool false) fun b171=>
J.jn (fun v172 h173=>
J.jn (fun v176 h177=>
J.jn (fun v180 h181=>
Qo (AV.bool b171) v180 (AV.bool false) fun b185=>
j59 ((AV.bool b185),()) d109 h181) fun j182=>
br b171 (
c84 v176 h177 fun b184 h183=>
j182 (AV.bool b184) h183) (
j182 Qb h177)) fun j178=>
br b171 (
ldV v172 h173 fun v179=>
j178 v179 h173) (
j178 Qb h173)) fun j174=>
br b171 (
faK 6 v108.1 fun p175=>
j174 p175 h167) (
j174 Qb h167)) fun j168=>
br b153 (
asI .i64 v162 fun x169=>
fB (ltI (Int.ofNat 0) x169) fun b170=>
j168 (AV.bool b170) h163) (
j168 Qb h163)) fun j164=>
br b153 (
Q6 v158 fun x165=>
j164 (AV.int .i64 (Int.ofNat x165)) h159) (
j164 Qb h159)) fun j160=>
br b153 (
ldV v154 h155 fun v161=>
j160 v161 h155) (
j160 Qb h155)) fun j156=>
br b153 (
faK 6 v108.1 fun p157=>
j156 p157 h148) (
j156 Qb h148)) fun j149=>
br b131 (
asI .i32 v140 fun x150=>
asI .i32 v144 fun x151=>
fB (eqI x150 x151) fun b152=>
j149 (AV.bool b152) h145) (
j149 Qb h145)) fun j146=>
br b131 (
j146 v108.2.1 h141) (
j146 Qb h141)) fun j142=>
br b131 (
ldI .i32 v136 h137 fun x143=>
j142 (AV.int .i32 x143) h137) (
j142 Qb h137)) fun j138=>
br b131 (
faK 2 v132 fun p139=>
j138 p139 h133) (
j138 Qb h133)) fun j134=>
br b131 (
faK 3 v108.1 fun p135=>
j134 p135 h127) (
j134 Qb h127)) fun j128=>
QH v108.2.2.1 (fun b186=>
br b186 (
asI .i64 v121 fun x129=>
fB (eqI x129 (Int.ofNat 0)) fun b130=>
j128 (AV.bool b130) h122) (
j128 Qb h122)) (
j128 Qb h122)) fun j123=>
QH v108.2.2.1 (fun b187=>
br b187 (
c40 v117 h118 fun x125 h124=>
j123 (AV.int .i64 x125) h124) (
j123 Qb h118)) (
j123 Qb h118)) fun j119=>
QH v108.2.2.1 (fun b188=>
br b188 (
ldN 3 v113 h114 fun l120=>
j119 (AV.agg l120) h114) (
j119 Qb h114)) (
j119 Qb h114)) fun j115=>
QH v108.2.2.1 (fun b189=>
br b189 (
faK 3 v108.1 fun p116=>
j115 p116 h110) (
j115 Qb h110)) (
j115 Qb h110)) (
j59 ((AV.bool false),()) d109 h110)) fun j111=>
asI .u8 v65.2.2.2.1 fun x190=>
fB (eqI x190 (Int.ofNat 2)) fun b191=>
br b191 (
j111 (v65.1,v65.2.1,v65.2.2.1,(AV.bool b191),()) d66 h67) (
asI .u8 v65.2.2.2.1 fun x192=>
fB (eqI x192 (Int.ofNat 3)) fun b193=>
j111 (v65.1,v65.2.1,v65.2.2.1,(AV.bool b193),()) d66 h67))) fun j68=>
fB (eqI x64 (Int.ofNat 1)) fun b194=>
br b194 (
j68 ((AV.ptr n1 0),(AV.int .i32 x9),(AV.bool b55),(AV.int .u8 x64),(AV.bool b194),()) [] h51) (
fB (eqI x64 (Int.ofNat 4)) fun b195=>
j68 ((AV.ptr n1 0),(AV.int .i32 x9),(AV.bool b55),(AV.int .u8 x64),(AV.bool b195),()) [] h51)) fun j52=>
br b37 (
asI .i64 v45 fun x53=>
fB (eqI x53 (Int.ofNat 0)) fun b54=>
j52 (AV.bool b54) h46) (
j52 Qb h46)) fun j47=>
br b37 (
c40 v41 h42 fun x49 h48=>
j47 (AV.int .i64 x49) h48) (
j47 Qb h42)) fun j43=>
br b37 (
ldN 3 v38 h39 fun l44=>
j43 (AV.agg l44) h39) (
j43 Qb h39)) fun j40=>
br b37 (
j40 (AV.ptr n1 8) h33) (
j40 Qb h33)) fun j34=>
br b24 (
asI .i64 v28 fun x35=>
fB (Bool.not (ltI (Int.ofNat 1099511627776) x35)) fun b36=>
j34 (AV.bool b36) h29) (
j34 Qb h29)) fun j30=>
br b24 (
ldI .i64 v25 h26 fun x31=>
j30 (AV.int .i64 x31) h26) (
j30 Qb h26)) fun j27=>
br b24 (
j27 (AV.ptr n1 7) h20) (
j27 Qb h20)) fun j21=>
br b11 (
asI .i64 v15 fun x22=>
fB (Bool.not (ltI x22 (Int.ofNat 0))) fun b23=>
j21 (AV.bool b23) h16) (
j21 Qb h16)) fun j17=>
br b11 (
ldI .i64 v12 h13 fun x18=>
j17 (AV.int .i64 x18) h13) (
j17 Qb h13)) fun j14=>
br b11 (
j14 (AV.ptr n1 7) h8) (
j14 Qb h8))
def s46 : AV→H→(Int→H→Prop)→Prop:=s46G J0 s40 s81 s84
def w46 (c : AV→H→(Int→H→Prop)→Prop) : Fun:=fun xs h k=>arg xs fun a0 xs=>QB xs <| c a0 h fun r0 h=>k (.int .i64 r0) h
theorem Qd1 (J : Qm) (c40 : AV→H→(Int→H→Prop)→Prop) (c81 : AV→H→(Int→Int→H→Prop)→Prop) (c84 : AV→H→(Bool→H→Prop)→Prop) (a0 : AV) (h : H) (k : AV→H→Prop) : Ql ty (gam J [(40,w40 c40),(81,w81 c81),(84,w84 c84)]) Tryz.f46 [a0] h k = s46G J c40 c81 c84 a0 h (fun r0 h=>k (.int .i64 r0) h):=by kernel_rfl
def g46 : Fun:=w46 s46
theorem Kg : Qe Tryz.prog 46 g46:=(Qf Qi Qj (Qg (J:=J0) (Qa W9 (Qa NI (Qa g84_ok (Qc Qd))))) Tryz.func46 (fun args w=>by simp)).imp fun xs h k e0=>by
  obtain ⟨a0,xs0,rfl,e1⟩:=Qp e0
  obtain ⟨rfl,e2⟩:=Qt e1
  exact (Qd1 J0 s40 s81 s84 a0 h k).mpr e2
def s47G (J : Qm) (c42 : Str→H→(Bool→H→Prop)→Prop) (a0 : AV) (h : H) (k : Bool→H→Prop) : Prop :=
Q6 a0 fun x1=>
J.lp (α:=AV × AV × AV × AV × Unit) (fun r5 v2 d3 h4=>
asI .i64 v2.2.2.2.1 fun x6=>
asI .i64 v2.2.2.1 fun x7=>
fB (ltI x6 x7) fun b8=>
br b8 (
ixK 1 v2.2.1 v2.2.2.2.1 fun p9=>
ldS p9 h4 fun s10=>
c42 s10 h4 fun b12 h11=>
fB (Bool.not b12) fun b13=>
J.jn (fun v14 h15=>
J.jn (fun v17 h18=>
J.jn (fun v22 h23=>
J.jn (fun v25 h26=>
J.jn (fun v28 h29=>
J.jn (fun v31 h32=>
J.jn (fun v36 h37=>
J.jn (fun v40 h41=>
J.jn (fun v44 h45=>
J.jn (fun v47 h48=>
J.jn (fun v53 h54=>
Qo (AV.bool b13) (AV.bool true) v53 fun b57=>
br b57 (
Qr (gam J [(42,w42 c42)]) d3 h54 fun h58=>
k false h58) (
asI .i64 v2.2.2.2.1 fun x59=>
fI (Qu .i64 (Int.add x59 (Int.ofNat 1))) fun x60=>
r5 (v2.1,v2.2.1,v2.2.2.1,(AV.int .i64 x60),()) d3 h54)) fun j55=>
br b13 (
j55 Qb h48) (
Qo v22 v47 (AV.bool false) fun b56=>
j55 (AV.bool b56) h48)) fun j49=>
QH v22 (fun b61=>
br b61 (
asS v40 fun s50=>
asS v44 fun s51=>
fB (Bool.not (Str.lt s50 s51)) fun b52=>
j49 (AV.bool b52) h45) (
j49 Qb h45)) (
j49 Qb h45)) fun j46=>
QH v22 (fun b62=>
br b62 (
j46 (AV.str s10) h41) (
j46 Qb h41)) (
j46 Qb h41)) fun j42=>
QH v22 (fun b63=>
br b63 (
ldS v36 h37 fun s43=>
j42 (AV.str s43) h37) (
j42 Qb h37)) (
j42 Qb h37)) fun j38=>
QH v22 (fun b64=>
br b64 (
ixK 1 v25 v31 fun p39=>
j38 p39 h32) (
j38 Qb h32)) (
j38 Qb h32)) fun j33=>
QH v22 (fun b65=>
br b65 (
asI .i64 v28 fun x34=>
fI (Qu .i64 (Int.sub x34 (Int.ofNat 1))) fun x35=>
j33 (AV.int .i64 x35) h29) (
j33 Qb h29)) (
j33 Qb h29)) fun j30=>
QH v22 (fun b66=>
br b66 (
j30 v2.2.2.2.1 h26) (
j30 Qb h26)) (
j30 Qb h26)) fun j27=>
QH v22 (fun b67=>
br b67 (
j27 v2.1 h23) (
j27 Qb h23)) (
j27 Qb h23)) fun j24=>
br b13 (
j24 Qb h18) (
j24 v17 h18)) fun j19=>
br b13 (
j19 Qb h15) (
asI .i64 v14 fun x20=>
fB (ltI (Int.ofNat 0) x20) fun b21=>
j19 (AV.bool b21) h15)) fun j16=>
br b13 (
j16 Qb h11) (
j16 v2.2.2.2.1 h11)) (
Q6 v2.1 fun x68=>
fB (Bool.not (ltI (Int.ofNat x68) (Int.ofNat 1))) fun b69=>
J.jn (fun v70 h71=>
J.jn (fun v73 h74=>
J.jn (fun v77 h78=>
Qo (AV.bool b69) v77 (AV.bool false) fun b82=>
Qr (gam J [(42,w42 c42)]) d3 h78 fun h83=>
k b82 h83) fun j79=>
br b69 (
asI .i64 v73 fun x80=>
fB (Bool.not (ltI (Int.ofNat 24) x80)) fun b81=>
j79 (AV.bool b81) h74) (
j79 Qb h74)) fun j75=>
br b69 (
Q6 v70 fun x76=>
j75 (AV.int .i64 (Int.ofNat x76)) h71) (
j75 Qb h71)) fun j72=>
br b69 (
j72 v2.1 h4) (
j72 Qb h4))) (a0,a0,(AV.int .i64 (Int.ofNat x1)),(AV.int .i64 (Int.ofNat 0)),()) [] h
def s47 : AV→H→(Bool→H→Prop)→Prop:=s47G J0 s42
def w47 (c : AV→H→(Bool→H→Prop)→Prop) : Fun:=fun xs h k=>arg xs fun a0 xs=>QB xs <| c a0 h fun r0 h=>k (.bool r0) h
theorem Qd0 (J : Qm) (c42 : Str→H→(Bool→H→Prop)→Prop) (a0 : AV) (h : H) (k : AV→H→Prop) : Ql ty (gam J [(42,w42 c42)]) Tryz.f47 [a0] h k = s47G J c42 a0 h (fun r0 h=>k (.bool r0) h):=by kernel_rfl
def g47 : Fun:=w47 s47
theorem Qfh : Qe Tryz.prog 47 g47:=(Qf Qi Qj (Qg (J:=J0) (Qa Qfi (Qc Qd))) Tryz.func47 (fun args w=>by simp)).imp fun xs h k e0=>by
  obtain ⟨a0,xs0,rfl,e1⟩:=Qp e0
  obtain ⟨rfl,e2⟩:=Qt e1
  exact (Qd0 J0 s42 a0 h k).mpr e2
def s45G (J : Qm) (c46 : AV→H→(Int→H→Prop)→Prop) (c47 : AV→H→(Bool→H→Prop)→Prop) (a0 : AV) (h : H) (k : Bool→H→Prop) : Prop :=
Go.Am.asAgg a0 fun l3=>
Qs (.cells false 40 l3) h fun n1 h2=>
ldN 2 (AV.ptr n1 6) h2 fun l4=>
ldN 3 (AV.ptr n1 17) h2 fun l5=>
ldV (AV.ptr n1 26) h2 fun v6=>
ck (Nat.beq (List.length l4) 2) (op' (Qy 0 l4 [(.int .i32 0),(.int .i32 0),(.int .u8 0),(.int .i64 0),(.int .i32 0),(.int .i32 0),(.nils),(.int .i64 0),(.int .i64 0),(.int .i32 0),(.int .i32 0)]) fun l7=>
op' (Qy 2 [(AV.int .u8 (Int.ofNat 2))] l7) fun l8=>
ck (Nat.beq (List.length l5) 3) (op' (Qy 3 l5 l8) fun l9=>
ck (ZQ v6) (op' (Qy 6 [v6] l9) fun l10=>
Qs (.cells false 37 [(.int .i32 0),(.int .i32 0),(.int .u8 0),(.int .i64 0),(.int .i32 0),(.int .i32 0),(.nils),(.int .i64 0),(.int .i64 0),(.int .i32 0),(.int .i32 0)]) h2 fun n11 h12=>
stN 11 (AV.ptr n11 0) l10 h12 fun h13=>
ldN 11 (AV.ptr n11 0) h13 fun l14=>
c46 (AV.agg l14) h13 fun x16 h15=>
fB (eqI x16 (Int.ofNat 0)) fun b17=>
J.jn (fun v18 h19=>
J.jn (fun v21 h22=>
J.jn (fun v25 h26=>
Qo (AV.bool b17) v25 (AV.bool false) fun b30=>
k b30 h26) fun j27=>
br b17 (
c47 v21 h22 fun b29 h28=>
j27 (AV.bool b29) h28) (
j27 Qb h22)) fun j23=>
br b17 (
ldV v18 h19 fun v24=>
j23 v24 h19) (
j23 Qb h19)) fun j20=>
br b17 (
j20 (AV.ptr n1 26) h15) (
j20 Qb h15))))
def s45 : AV→H→(Bool→H→Prop)→Prop:=s45G J0 s46 s47
def w45 (c : AV→H→(Bool→H→Prop)→Prop) : Fun:=fun xs h k=>arg xs fun a0 xs=>QB xs <| c a0 h fun r0 h=>k (.bool r0) h
theorem Qd2 (J : Qm) (c46 : AV→H→(Int→H→Prop)→Prop) (c47 : AV→H→(Bool→H→Prop)→Prop) (a0 : AV) (h : H) (k : AV→H→Prop) : Ql ty (gam J [(46,w46 c46),(47,w47 c47)]) Tryz.f45 [a0] h k = s45G J c46 c47 a0 h (fun r0 h=>k (.bool r0) h):=by kernel_rfl
def g45 : Fun:=w45 s45
theorem g45_ok : Qe Tryz.prog 45 g45:=(Qf Qi Qj (Qg (J:=J0) (Qa Kg (Qa Qfh (Qc Qd)))) Tryz.func45 (fun args w=>by simp)).imp fun xs h k e0=>by
  obtain ⟨a0,xs0,rfl,e1⟩:=Qp e0
  obtain ⟨rfl,e2⟩:=Qt e1
  exact (Qd2 J0 s46 s47 a0 h k).mpr e2
def s18G (J : Qm) (c17 : AV→H→(Bool→H→Prop)→Prop) (c41 : AV→H→(Bool→H→Prop)→Prop) (c42 : Str→H→(Bool→H→Prop)→Prop) (c43 : AV→AV→H→(Bool→H→Prop)→Prop) (c44 : AV→H→(Bool→H→Prop)→Prop) (c45 : AV→H→(Bool→H→Prop)→Prop) (c46 : AV→H→(Int→H→Prop)→Prop) (c47 : AV→H→(Bool→H→Prop)→Prop) (c48 : AV→H→(Bool→H→Prop)→Prop) (c49 : AV→AV→H→(Bool→H→Prop)→Prop) (c50 : AV→AV→H→(Int→H→Prop)→Prop) (a0 : AV) (a1 : AV) (h : H) (k : Bool→H→Prop) : Prop :=
Go.Am.asAgg a0 fun l3=>
Qs (.cells false 27 l3) h fun n1 h2=>
Go.Am.asAgg a1 fun l6=>
Qs (.cells false 40 l6) h2 fun n4 h5=>
ldN 2 (AV.ptr n4 6) h5 fun l7=>
c41 (AV.agg l7) h5 fun b9 h8=>
J.jn (fun v10 h11=>
J.jn (fun v13 h14=>
J.jn (fun v17 h18=>
Qo (AV.bool b9) v17 (AV.bool false) fun b23=>
ldI .i64 (AV.ptr n4 5) h18 fun x24=>
fB (eqI x24 (Int.ofNat 1)) fun b25=>
br b25 (
ldN 10 (AV.ptr n1 0) h18 fun l26=>
ldN 42 (AV.ptr n4 0) h18 fun l27=>
c43 (AV.agg l26) (AV.agg l27) h18 fun b29 h28=>
k b29 h28) (
fB (eqI x24 (Int.ofNat 2)) fun b30=>
br b30 (
ldN 42 (AV.ptr n4 0) h18 fun l31=>
c44 (AV.agg l31) h18 fun b33 h32=>
k b33 h32) (
J.jd (α:=AV × AV × AV × AV × AV × Unit) (fun v34 d35 h36=>
asB v34.2.2.2.2.1 fun b38=>
br b38 (
ldN 42 v34.2.1 h36 fun l39=>
c45 (AV.agg l39) h36 fun b41 h40=>
Qr (gam J [(17,w17 c17),(41,w41 c41),(42,w42 c42),(43,w43 c43),(44,w44 c44),(45,w45 c45),(46,w46 c46),(47,w47 c47),(48,w48 c48),(49,w49 c49),(50,w50 c50)]) d35 h40 fun h42=>
k b41 h42) (
J.jd (α:=AV × AV × AV × AV × AV × Unit) (fun v43 d44 h45=>
asB v43.2.2.2.2.1 fun b47=>
br b47 (
Qr (gam J [(17,w17 c17),(41,w41 c41),(42,w42 c42),(43,w43 c43),(44,w44 c44),(45,w45 c45),(46,w46 c46),(47,w47 c47),(48,w48 c48),(49,w49 c49),(50,w50 c50)]) d44 h45 fun h48=>
asB v43.2.2.1 fun b49=>
k b49 h48) (
asI .i64 v43.2.2.2.1 fun x50=>
fB (eqI x50 (Int.ofNat 6)) fun b51=>
br b51 (
J.jn (fun v52 h53=>
J.jn (fun v56 h57=>
J.jn (fun v60 h61=>
J.jn (fun v64 h65=>
J.jn (fun v68 h69=>
J.jn (fun v72 h73=>
J.jn (fun v76 h77=>
J.jn (fun v87 h88=>
Qo v43.2.2.1 v87 (AV.bool false) fun b92=>
Qr (gam J [(17,w17 c17),(41,w41 c41),(42,w42 c42),(43,w43 c43),(44,w44 c44),(45,w45 c45),(46,w46 c46),(47,w47 c47),(48,w48 c48),(49,w49 c49),(50,w50 c50)]) d44 h88 fun h93=>
k b92 h93) fun j89=>
QH v43.2.2.1 (fun b94=>
br b94 (
c17 v76 h77 fun b91 h90=>
j89 (AV.bool b91) h90) (
j89 Qb h77)) (
j89 Qb h77)) fun j78=>
QH v43.2.2.1 (fun b95=>
br b95 (
Go.Am.asAgg v56 fun l81=>
ck (Nat.beq (List.length l81) 3) (op' (Qy 0 l81 [(.int .i64 0),(.int .i32 0),(.int .i32 0),(.int .i64 0),(.int .i32 0),(.int .i32 0),(.int .i64 0),(.int .i32 0),(.int .i32 0)]) fun l82=>
Go.Am.asAgg v64 fun l83=>
ck (Nat.beq (List.length l83) 3) (op' (Qy 3 l83 l82) fun l84=>
Go.Am.asAgg v72 fun l85=>
ck (Nat.beq (List.length l85) 3) (op' (Qy 6 l85 l84) fun l86=>
Qs (.cells false 29 l86) h73 fun n79 h80=>
j78 (AV.slice n79 0 3 3 3 true) h80)))) (
j78 Qb h73)) (
j78 Qb h73)) fun j74=>
QH v43.2.2.1 (fun b96=>
br b96 (
ldN 3 v68 h69 fun l75=>
j74 (AV.agg l75) h69) (
j74 Qb h69)) (
j74 Qb h69)) fun j70=>
QH v43.2.2.1 (fun b97=>
br b97 (
faK 23 v43.2.1 fun p71=>
j70 p71 h65) (
j70 Qb h65)) (
j70 Qb h65)) fun j66=>
QH v43.2.2.1 (fun b98=>
br b98 (
ldN 3 v60 h61 fun l67=>
j66 (AV.agg l67) h61) (
j66 Qb h61)) (
j66 Qb h61)) fun j62=>
QH v43.2.2.1 (fun b99=>
br b99 (
faK 11 v43.2.1 fun p63=>
j62 p63 h57) (
j62 Qb h57)) (
j62 Qb h57)) fun j58=>
QH v43.2.2.1 (fun b100=>
br b100 (
ldN 3 v52 h53 fun l59=>
j58 (AV.agg l59) h53) (
j58 Qb h53)) (
j58 Qb h53)) fun j54=>
QH v43.2.2.1 (fun b101=>
br b101 (
faK 8 v43.2.1 fun p55=>
j54 p55 h45) (
j54 Qb h45)) (
j54 Qb h45)) (
J.jd (α:=AV × AV × AV × AV × AV × Unit) (fun v102 d103 h104=>
asB v102.2.2.2.2.1 fun b106=>
br b106 (
J.jn (fun v107 h108=>
J.jn (fun v111 h112=>
J.jn (fun v115 h116=>
J.jn (fun v122 h123=>
Qo v102.2.2.1 v122 (AV.bool false) fun b127=>
Qr (gam J [(17,w17 c17),(41,w41 c41),(42,w42 c42),(43,w43 c43),(44,w44 c44),(45,w45 c45),(46,w46 c46),(47,w47 c47),(48,w48 c48),(49,w49 c49),(50,w50 c50)]) d103 h123 fun h128=>
k b127 h128) fun j124=>
QH v102.2.2.1 (fun b129=>
br b129 (
c17 v115 h116 fun b126 h125=>
j124 (AV.bool b126) h125) (
j124 Qb h116)) (
j124 Qb h116)) fun j117=>
QH v102.2.2.1 (fun b130=>
br b130 (
Go.Am.asAgg v111 fun l120=>
ck (Nat.beq (List.length l120) 3) (op' (Qy 0 l120 [(.int .i64 0),(.int .i32 0),(.int .i32 0)]) fun l121=>
Qs (.cells false 29 l121) h112 fun n118 h119=>
j117 (AV.slice n118 0 1 1 3 true) h119)) (
j117 Qb h112)) (
j117 Qb h112)) fun j113=>
QH v102.2.2.1 (fun b131=>
br b131 (
ldN 3 v107 h108 fun l114=>
j113 (AV.agg l114) h108) (
j113 Qb h108)) (
j113 Qb h108)) fun j109=>
QH v102.2.2.1 (fun b132=>
br b132 (
faK 17 v102.2.1 fun p110=>
j109 p110 h104) (
j109 Qb h104)) (
j109 Qb h104)) (
asI .i64 v102.2.2.2.1 fun x133=>
fB (eqI x133 (Int.ofNat 9)) fun b134=>
br b134 (
faK 30 v102.2.1 fun p135=>
faK 2 p135 fun p136=>
ldI .u8 p136 h104 fun x137=>
fB (eqI x137 (Int.ofNat 3)) fun b138=>
J.jn (fun v139 h140=>
J.jn (fun v143 h144=>
J.jn (fun v147 h148=>
J.jn (fun v151 h152=>
Qo (AV.bool b138) (AV.bool true) v151 fun b156=>
J.jn (fun v157 h158=>
J.jn (fun v161 h162=>
J.jn (fun v165 h166=>
J.jn (fun v170 h171=>
Qo (AV.bool b156) v170 (AV.bool false) fun b175=>
J.jn (fun v176 h177=>
J.jn (fun v180 h181=>
J.jn (fun v184 h185=>
Qo (AV.bool b175) v184 (AV.bool false) fun b189=>
Qr (gam J [(17,w17 c17),(41,w41 c41),(42,w42 c42),(43,w43 c43),(44,w44 c44),(45,w45 c45),(46,w46 c46),(47,w47 c47),(48,w48 c48),(49,w49 c49),(50,w50 c50)]) d103 h185 fun h190=>
k b189 h190) fun j186=>
br b175 (
c47 v180 h181 fun b188 h187=>
j186 (AV.bool b188) h187) (
j186 Qb h181)) fun j182=>
br b175 (
ldV v176 h177 fun v183=>
j182 v183 h177) (
j182 Qb h177)) fun j178=>
br b175 (
faK 26 v102.2.1 fun p179=>
j178 p179 h171) (
j178 Qb h171)) fun j172=>
br b156 (
asI .i64 v165 fun x173=>
fB (eqI x173 (Int.ofNat 0)) fun b174=>
j172 (AV.bool b174) h166) (
j172 Qb h166)) fun j167=>
br b156 (
c46 v161 h162 fun x169 h168=>
j167 (AV.int .i64 x169) h168) (
j167 Qb h162)) fun j163=>
br b156 (
ldN 11 v157 h158 fun l164=>
j163 (AV.agg l164) h158) (
j163 Qb h158)) fun j159=>
br b156 (
faK 30 v102.2.1 fun p160=>
j159 p160 h152) (
j159 Qb h152)) fun j153=>
br b138 (
j153 Qb h148) (
asI .u8 v147 fun x154=>
fB (eqI x154 (Int.ofNat 4)) fun b155=>
j153 (AV.bool b155) h148)) fun j149=>
br b138 (
j149 Qb h144) (
ldI .u8 v143 h144 fun x150=>
j149 (AV.int .u8 x150) h144)) fun j145=>
br b138 (
j145 Qb h140) (
faK 2 v139 fun p146=>
j145 p146 h140)) fun j141=>
br b138 (
j141 Qb h104) (
faK 30 v102.2.1 fun p142=>
j141 p142 h104)) (
asI .i64 v102.2.2.2.1 fun x191=>
fB (eqI x191 (Int.ofNat 10)) fun b192=>
br b192 (
faK 6 v102.2.1 fun p193=>
ldN 2 p193 h104 fun l194=>
c41 (AV.agg l194) h104 fun b196 h195=>
J.jn (fun v197 h198=>
J.jn (fun v201 h202=>
J.jn (fun v205 h206=>
J.jn (fun v212 h213=>
Qo (AV.bool b196) v212 (AV.bool false) fun b217=>
J.jn (fun v218 h219=>
J.jn (fun v222 h223=>
J.jn (fun v226 h227=>
Qo (AV.bool b217) v226 (AV.bool false) fun b231=>
Qr (gam J [(17,w17 c17),(41,w41 c41),(42,w42 c42),(43,w43 c43),(44,w44 c44),(45,w45 c45),(46,w46 c46),(47,w47 c47),(48,w48 c48),(49,w49 c49),(50,w50 c50)]) d103 h227 fun h232=>
k b231 h232) fun j228=>
br b217 (
c47 v222 h223 fun b230 h229=>
j228 (AV.bool b230) h229) (
j228 Qb h223)) fun j224=>
br b217 (
ldV v218 h219 fun v225=>
j224 v225 h219) (
j224 Qb h219)) fun j220=>
br b217 (
faK 26 v102.2.1 fun p221=>
j220 p221 h213) (
j220 Qb h213)) fun j214=>
br b196 (
c17 v205 h206 fun b216 h215=>
j214 (AV.bool b216) h215) (
j214 Qb h206)) fun j207=>
br b196 (
Go.Am.asAgg v201 fun l210=>
ck (Nat.beq (List.length l210) 3) (op' (Qy 0 l210 [(.int .i64 0),(.int .i32 0),(.int .i32 0)]) fun l211=>
Qs (.cells false 29 l211) h202 fun n208 h209=>
j207 (AV.slice n208 0 1 1 3 true) h209)) (
j207 Qb h202)) fun j203=>
br b196 (
ldN 3 v197 h198 fun l204=>
j203 (AV.agg l204) h198) (
j203 Qb h198)) fun j199=>
br b196 (
faK 23 v102.2.1 fun p200=>
j199 p200 h195) (
j199 Qb h195)) (
asI .i64 v102.2.2.2.1 fun x233=>
fB (eqI x233 (Int.ofNat 11)) fun b234=>
br b234 (
faK 6 v102.2.1 fun p235=>
ldN 2 p235 h104 fun l236=>
c48 (AV.agg l236) h104 fun b238 h237=>
J.jn (fun v239 h240=>
J.jn (fun v243 h244=>
J.jn (fun v247 h248=>
J.jn (fun v251 h252=>
Qo (AV.bool b238) v251 (AV.bool false) fun b256=>
J.jn (fun v257 h258=>
J.jn (fun v261 h262=>
J.jn (fun v265 h266=>
J.jn (fun v269 h270=>
J.jn (fun v273 h274=>
J.jn (fun v282 h283=>
Qo (AV.bool b256) v282 (AV.bool false) fun b287=>
J.jn (fun v288 h289=>
J.jn (fun v292 h293=>
J.jn (fun v296 h297=>
J.jn (fun v300 h301=>
J.jn (fun v304 h305=>
J.jn (fun v309 h310=>
Qo (AV.bool b287) v309 (AV.bool false) fun b314=>
Qr (gam J [(17,w17 c17),(41,w41 c41),(42,w42 c42),(43,w43 c43),(44,w44 c44),(45,w45 c45),(46,w46 c46),(47,w47 c47),(48,w48 c48),(49,w49 c49),(50,w50 c50)]) d103 h310 fun h315=>
k b314 h315) fun j311=>
br b287 (
asI .i64 v304 fun x312=>
fB (Bool.not (ltI x312 (Int.ofNat 0))) fun b313=>
j311 (AV.bool b313) h305) (
j311 Qb h305)) fun j306=>
br b287 (
c50 v292 v300 h301 fun x308 h307=>
j306 (AV.int .i64 x308) h307) (
j306 Qb h301)) fun j302=>
br b287 (
ldN 3 v296 h297 fun l303=>
j302 (AV.agg l303) h297) (
j302 Qb h297)) fun j298=>
br b287 (
faK 17 v102.2.1 fun p299=>
j298 p299 h293) (
j298 Qb h293)) fun j294=>
br b287 (
ldN 3 v288 h289 fun l295=>
j294 (AV.agg l295) h289) (
j294 Qb h289)) fun j290=>
br b287 (
faK 23 v102.2.1 fun p291=>
j290 p291 h283) (
j290 Qb h283)) fun j284=>
br b256 (
c17 v273 h274 fun b286 h285=>
j284 (AV.bool b286) h285) (
j284 Qb h274)) fun j275=>
br b256 (
Go.Am.asAgg v261 fun l278=>
ck (Nat.beq (List.length l278) 3) (op' (Qy 0 l278 [(.int .i64 0),(.int .i32 0),(.int .i32 0),(.int .i64 0),(.int .i32 0),(.int .i32 0)]) fun l279=>
Go.Am.asAgg v269 fun l280=>
ck (Nat.beq (List.length l280) 3) (op' (Qy 3 l280 l279) fun l281=>
Qs (.cells false 29 l281) h270 fun n276 h277=>
j275 (AV.slice n276 0 2 2 3 true) h277))) (
j275 Qb h270)) fun j271=>
br b256 (
ldN 3 v265 h266 fun l272=>
j271 (AV.agg l272) h266) (
j271 Qb h266)) fun j267=>
br b256 (
faK 23 v102.2.1 fun p268=>
j267 p268 h262) (
j267 Qb h262)) fun j263=>
br b256 (
ldN 3 v257 h258 fun l264=>
j263 (AV.agg l264) h258) (
j263 Qb h258)) fun j259=>
br b256 (
faK 17 v102.2.1 fun p260=>
j259 p260 h252) (
j259 Qb h252)) fun j253=>
br b238 (
c49 v239 v247 h248 fun b255 h254=>
j253 (AV.bool b255) h254) (
j253 Qb h248)) fun j249=>
br b238 (
ldN 2 v243 h244 fun l250=>
j249 (AV.agg l250) h244) (
j249 Qb h244)) fun j245=>
br b238 (
faK 15 v102.2.1 fun p246=>
j245 p246 h240) (
j245 Qb h240)) fun j241=>
br b238 (
ldN 10 v102.1 h237 fun l242=>
j241 (AV.agg l242) h237) (
j241 Qb h237)) (
Qr (gam J [(17,w17 c17),(41,w41 c41),(42,w42 c42),(43,w43 c43),(44,w44 c44),(45,w45 c45),(46,w46 c46),(47,w47 c47),(48,w48 c48),(49,w49 c49),(50,w50 c50)]) d103 h104 fun h316=>
k false h316))))) fun j105=>
asI .i64 v43.2.2.2.1 fun x317=>
fB (eqI x317 (Int.ofNat 7)) fun b318=>
br b318 (
j105 (v43.1,v43.2.1,v43.2.2.1,v43.2.2.2.1,(AV.bool b318),()) d44 h45) (
asI .i64 v43.2.2.2.1 fun x319=>
fB (eqI x319 (Int.ofNat 8)) fun b320=>
j105 (v43.1,v43.2.1,v43.2.2.1,v43.2.2.2.1,(AV.bool b320),()) d44 h45)))) fun j46=>
asI .i64 v34.2.2.2.1 fun x321=>
fB (eqI x321 (Int.ofNat 5)) fun b322=>
br b322 (
j46 (v34.1,v34.2.1,v34.2.2.1,v34.2.2.2.1,(AV.bool b322),()) d35 h36) (
asI .i64 v34.2.2.2.1 fun x323=>
fB (eqI x323 (Int.ofNat 12)) fun b324=>
j46 (v34.1,v34.2.1,v34.2.2.1,v34.2.2.2.1,(AV.bool b324),()) d35 h36))) fun j37=>
fB (eqI x24 (Int.ofNat 3)) fun b325=>
br b325 (
j37 ((AV.ptr n1 0),(AV.ptr n4 0),(AV.bool b23),(AV.int .i64 x24),(AV.bool b325),()) [] h18) (
fB (eqI x24 (Int.ofNat 4)) fun b326=>
j37 ((AV.ptr n1 0),(AV.ptr n4 0),(AV.bool b23),(AV.int .i64 x24),(AV.bool b326),()) [] h18)))) fun j19=>
br b9 (
asS v13 fun s21=>
c42 s21 h14 fun b22 h20=>
j19 (AV.bool b22) h20) (
j19 Qb h14)) fun j15=>
br b9 (
ldS v10 h11 fun s16=>
j15 (AV.str s16) h11) (
j15 Qb h11)) fun j12=>
br b9 (
j12 (AV.ptr n4 14) h8) (
j12 Qb h8)
def s18 : AV→AV→H→(Bool→H→Prop)→Prop:=s18G J0 s17 s41 s42 s43 s44 s45 s46 s47 s48 s49 s50
def w18 (c : AV→AV→H→(Bool→H→Prop)→Prop) : Fun:=fun xs h k=>arg xs fun a0 xs=>arg xs fun a1 xs=>QB xs <| c a0 a1 h fun r0 h=>k (.bool r0) h
theorem Qek (J : Qm) (c17 : AV→H→(Bool→H→Prop)→Prop) (c41 : AV→H→(Bool→H→Prop)→Prop) (c42 : Str→H→(Bool→H→Prop)→Prop) (c43 : AV→AV→H→(Bool→H→Prop)→Prop) (c44 : AV→H→(Bool→H→Prop)→Prop) (c45 : AV→H→(Bool→H→Prop)→Prop) (c46 : AV→H→(Int→H→Prop)→Prop) (c47 : AV→H→(Bool→H→Prop)→Prop) (c48 : AV→H→(Bool→H→Prop)→Prop) (c49 : AV→AV→H→(Bool→H→Prop)→Prop) (c50 : AV→AV→H→(Int→H→Prop)→Prop) (a0 : AV) (a1 : AV) (h : H) (k : AV→H→Prop) : Ql ty (gam J [(17,w17 c17),(41,w41 c41),(42,w42 c42),(43,w43 c43),(44,w44 c44),(45,w45 c45),(46,w46 c46),(47,w47 c47),(48,w48 c48),(49,w49 c49),(50,w50 c50)]) Tryz.f18 [a0,a1] h k = s18G J c17 c41 c42 c43 c44 c45 c46 c47 c48 c49 c50 a0 a1 h (fun r0 h=>k (.bool r0) h):=by kernel_rfl
def g18 : Fun:=w18 s18
theorem g18_ok : Qe Tryz.prog 18 g18:=(Qf Qi Qj (Qg (J:=J0) (Qa QaN (Qa QaM (Qa Qfi (Qa g43_ok (Qa g44_ok (Qa g45_ok (Qa Kg (Qa Qfh (Qa Qfg (Qa Qff (Qa Wp (Qc Qd))))))))))))) Tryz.func18 (fun args w=>by simp)).imp fun xs h k e0=>by
  obtain ⟨a0,xs0,rfl,e1⟩:=Qp e0
  obtain ⟨a1,xs1,rfl,e2⟩:=Qp e1
  obtain ⟨rfl,e3⟩:=Qt e2
  exact (Qek J0 s17 s41 s42 s43 s44 s45 s46 s47 s48 s49 s50 a0 a1 h k).mpr e3
def Qej (J : Qm) (a0 : AV) (h : H) (k : AV→H→Prop) : Prop :=
Go.Am.asAgg a0 fun l3=>
Qs (.cells false 40 l3) h fun n1 h2=>
ldI .i64 (AV.ptr n1 5) h2 fun x4=>
J.jd (α:=AV × AV × AV × Unit) (fun v5 d6 h7=>
asB v5.2.2.1 fun b9=>
br b9 (
faK 15 v5.1 fun p10=>
faK 0 p10 fun p11=>
ldS p11 h7 fun s12=>
Qs (.cells false 9 [(AV.str s12)]) h7 fun n13 h14=>
Qr (gam J []) d6 h14 fun h15=>
k (AV.slice n13 0 1 1 1 true) h15) (
asI .i64 v5.2.1 fun x16=>
fB (eqI x16 (Int.ofNat 2)) fun b17=>
br b17 (
faK 27 v5.1 fun p18=>
ldV p18 h7 fun v19=>
Q6 v19 fun x20=>
J.lp (α:=AV × AV × AV × AV × Unit) (fun r24 v21 d22 h23=>
asI .i64 v21.2.2.2.1 fun x25=>
asI .i64 v21.2.2.1 fun x26=>
fB (ltI x25 x26) fun b27=>
br b27 (
ixK 3 v21.2.1 v21.2.2.2.1 fun p28=>
ldN 3 p28 h23 fun l29=>
Qs (.cells false 65 [(.str ⟨0,0⟩),(.str ⟨0,0⟩),(.bool false)]) h23 fun n30 h31=>
stN 3 (AV.ptr n30 0) l29 h31 fun h32=>
ldS (AV.ptr n30 0) h32 fun s33=>
Qs (.cells false 9 [(AV.str s33)]) h32 fun n34 h35=>
apC 9 1 16 v21.1 (AV.slice n34 0 1 1 1 true) h35 fun v36 h37=>
asI .i64 v21.2.2.2.1 fun x38=>
fI (Qu .i64 (Int.add x38 (Int.ofNat 1))) fun x39=>
r24 (v36,v21.2.1,v21.2.2.1,(AV.int .i64 x39),()) d22 h37) (
Qr (gam J []) d22 h23 fun h40=>
k v21.1 h40)) (AV.nils,v19,(AV.int .i64 (Int.ofNat x20)),(AV.int .i64 (Int.ofNat 0)),()) d6 h7) (
J.jd (α:=AV × AV × AV × Unit) (fun v41 d42 h43=>
asB v41.2.2.1 fun b45=>
br b45 (
faK 26 v41.1 fun p46=>
ldV p46 h43 fun v47=>
slK 1 v47 none (some (AV.int .i64 (Int.ofNat 1))) fun v48=>
Qr (gam J []) d42 h43 fun h49=>
k v48 h49) (
J.jd (α:=AV × AV × Unit) (fun v50 d51 h52=>
asB v50.2.1 fun b54=>
br b54 (
faK 26 v50.1 fun p55=>
ldV p55 h52 fun v56=>
Qr (gam J []) d51 h52 fun h57=>
k v56 h57) (
faK 14 v50.1 fun p58=>
ldS p58 h52 fun s59=>
Qs (.cells false 9 [(AV.str s59)]) h52 fun n60 h61=>
Qr (gam J []) d51 h61 fun h62=>
k (AV.slice n60 0 1 1 1 true) h62)) fun j53=>
asI .i64 v41.2.1 fun x63=>
fB (eqI x63 (Int.ofNat 9)) fun b64=>
br b64 (
j53 (v41.1,(AV.bool b64),()) d42 h43) (
asI .i64 v41.2.1 fun x65=>
fB (eqI x65 (Int.ofNat 10)) fun b66=>
j53 (v41.1,(AV.bool b66),()) d42 h43))) fun j44=>
asI .i64 v5.2.1 fun x67=>
fB (eqI x67 (Int.ofNat 3)) fun b68=>
br b68 (
j44 (v5.1,v5.2.1,(AV.bool b68),()) d6 h7) (
asI .i64 v5.2.1 fun x69=>
fB (eqI x69 (Int.ofNat 4)) fun b70=>
j44 (v5.1,v5.2.1,(AV.bool b70),()) d6 h7)))) fun j8=>
fB (eqI x4 (Int.ofNat 1)) fun b71=>
br b71 (
j8 ((AV.ptr n1 0),(AV.int .i64 x4),(AV.bool b71),()) [] h2) (
fB (eqI x4 (Int.ofNat 11)) fun b72=>
j8 ((AV.ptr n1 0),(AV.int .i64 x4),(AV.bool b72),()) [] h2)
def s19 : AV→H→(AV→H→Prop)→Prop:=Qej J0
def w19 (c : AV→H→(AV→H→Prop)→Prop) : Fun:=fun xs h k=>arg xs fun a0 xs=>QB xs <| c a0 h fun r0 h=>k r0 h
theorem s19_eq (J : Qm) (a0 : AV) (h : H) (k : AV→H→Prop) : Ql ty (gam J []) Tryz.f19 [a0] h k = Qej J  a0 h (fun r0 h=>k r0 h):=by kernel_rfl
def g19 : Fun:=w19 s19
theorem Qfw : Qe Tryz.prog 19 g19:=(Qf Qi Qj (Qg (J:=J0) (Qc Qd)) Tryz.func19 (fun args w=>by simp)).imp fun xs h k e0=>by
  obtain ⟨a0,xs0,rfl,e1⟩:=Qp e0
  obtain ⟨rfl,e2⟩:=Qt e1
  exact (s19_eq J0  a0 h k).mpr e2
def Qbs (J : Qm) (c212 : Str→H→(Bool→H→Prop)→Prop) (a0 : Str) (a1 : Str) (h : H) (k : Bool→H→Prop) : Prop :=
c212 a0 h fun b2 h1=>
J.jn (fun v3 h4=>
J.jn (fun v6 h7=>
J.jn (fun v12 h13=>
Qo (AV.bool b2) v12 (AV.bool false) fun b17=>
J.jn (fun v18 h19=>
J.jn (fun v21 h22=>
J.jn (fun v24 h25=>
Qo (AV.bool b17) (AV.bool true) v24 fun b30=>
k b30 h25) fun j26=>
br b17 (
j26 Qb h22) (
asS v18 fun s27=>
asS v21 fun s28=>
fB (Str.lt s27 s28) fun b29=>
j26 (AV.bool b29) h22)) fun j23=>
br b17 (
j23 Qb h19) (
j23 (AV.str a1) h19)) fun j20=>
br b17 (
j20 Qb h13) (
j20 (AV.str a0) h13)) fun j14=>
br b2 (
asB v6 fun b15=>
fB (Bool.not b15) fun b16=>
j14 (AV.bool b16) h7) (
j14 Qb h7)) fun j8=>
br b2 (
asS v3 fun s10=>
c212 s10 h4 fun b11 h9=>
j8 (AV.bool b11) h9) (
j8 Qb h4)) fun j5=>
br b2 (
j5 (AV.str a1) h1) (
j5 Qb h1)
def Ub : Str→Str→H→(Bool→H→Prop)→Prop:=Qbs J0 s212
def Nm (c : Str→Str→H→(Bool→H→Prop)→Prop) : Fun:=fun xs h k=>arg xs fun a0 xs=>arg xs fun a1 xs=>QB xs <| asS a0 fun a0=>asS a1 fun a1=>c a0 a1 h fun r0 h=>k (.bool r0) h
theorem Qbr (J : Qm) (c212 : Str→H→(Bool→H→Prop)→Prop) (a0 : Str) (a1 : Str) (h : H) (k : AV→H→Prop) : Ql ty (gam J [(212,w212 c212)]) Tryz.f139 [(.str a0),(.str a1)] h k = Qbs J c212 a0 a1 h (fun r0 h=>k (.bool r0) h):=by kernel_rfl
def g139 : Fun:=Nm Ub
theorem N0 : Qe Tryz.prog 139 g139:=(Qf Qi Qj (Qg (J:=J0) (Qa QcK (Qc Qd))) Tryz.func139 (fun args w=>by simp)).imp fun xs h k e0=>by
  obtain ⟨a0,xs0,rfl,e1⟩:=Qp e0
  obtain ⟨a1,xs1,rfl,e2⟩:=Qp e1
  obtain ⟨rfl,e3⟩:=Qt e2
  obtain ⟨a0,rfl,e4⟩:=QI.1 e3
  obtain ⟨a1,rfl,e5⟩:=QI.1 e4
  exact (Qbr J0 s212 a0 a1 h k).mpr e5
def Qbq (J : Qm) (a0 : Str) (h : H) (k : Bool→H→Prop) : Prop :=
fB (Bool.not (Str.beq a0 a0)) fun b1=>
k b1 h
def s140 : Str→H→(Bool→H→Prop)→Prop:=Qbq J0
def w140 (c : Str→H→(Bool→H→Prop)→Prop) : Fun:=fun xs h k=>arg xs fun a0 xs=>QB xs <| asS a0 fun a0=>c a0 h fun r0 h=>k (.bool r0) h
theorem Qbp (J : Qm) (a0 : Str) (h : H) (k : AV→H→Prop) : Ql ty (gam J []) Tryz.f140 [(.str a0)] h k = Qbq J  a0 h (fun r0 h=>k (.bool r0) h):=by kernel_rfl
def g140 : Fun:=w140 s140
theorem g140_ok : Qe Tryz.prog 140 g140:=(Qf Qi Qj (Qg (J:=J0) (Qc Qd)) Tryz.func140 (fun args w=>by simp)).imp fun xs h k e0=>by
  obtain ⟨a0,xs0,rfl,e1⟩:=Qp e0
  obtain ⟨rfl,e2⟩:=Qt e1
  obtain ⟨a0,rfl,e3⟩:=QI.1 e2
  exact (Qbp J0  a0 h k).mpr e3
def s89G (J : Qm) (c139 : Str→Str→H→(Bool→H→Prop)→Prop) (c140 : Str→H→(Bool→H→Prop)→Prop) (a0 : AV) (a1 : Str) (h : H) (k : Int→Bool→H→Prop) : Prop :=
Q6 a0 fun x1=>
J.lp (α:=AV × AV × AV × AV × AV × Unit) (fun r5 v2 d3 h4=>
asI .i64 v2.2.2.2.1 fun x6=>
asI .i64 v2.2.2.2.2.1 fun x7=>
fB (ltI x6 x7) fun b8=>
br b8 (
asI .i64 v2.2.2.2.1 fun x9=>
asI .i64 v2.2.2.2.2.1 fun x10=>
fI (Qu .i64 (Int.add x9 x10)) fun x11=>
fI (Qu .u64 x11) fun x12=>
fI (Dz x12 (Gr 1 (IntKind.bits .u64))) fun x13=>
fI (Qu .i64 x13) fun x14=>
ixK 1 v2.1 (AV.int .i64 x14) fun p15=>
ldS p15 h4 fun s16=>
asS v2.2.1 fun s18=>
c139 s16 s18 h4 fun b19 h17=>
br b19 (
fI (Qu .i64 (Int.add x14 (Int.ofNat 1))) fun x20=>
r5 (v2.1,v2.2.1,v2.2.2.1,(AV.int .i64 x20),v2.2.2.2.2.1,()) d3 h17) (
r5 (v2.1,v2.2.1,v2.2.2.1,v2.2.2.2.1,(AV.int .i64 x14),()) d3 h17)) (
asI .i64 v2.2.2.2.1 fun x21=>
asI .i64 v2.2.2.1 fun x22=>
fB (ltI x21 x22) fun b23=>
J.jn (fun v24 h25=>
J.jn (fun v27 h28=>
J.jn (fun v30 h31=>
J.jn (fun v34 h35=>
J.jn (fun v38 h39=>
J.jn (fun v41 h42=>
J.jn (fun v47 h48=>
J.jn (fun v50 h51=>
J.jn (fun v53 h54=>
J.jn (fun v56 h57=>
J.jn (fun v60 h61=>
J.jn (fun v64 h65=>
J.jn (fun v70 h71=>
J.jn (fun v73 h74=>
J.jn (fun v76 h77=>
J.jn (fun v82 h83=>
J.jn (fun v86 h87=>
Qo (AV.bool b23) v86 (AV.bool false) fun b90=>
Qr (gam J [(139,Nm c139),(140,w140 c140)]) d3 h87 fun h91=>
asI .i64 v2.2.2.2.1 fun x92=>
k x92 b90 h91) fun j88=>
br b23 (
Qo v47 (AV.bool true) v82 fun b89=>
j88 (AV.bool b89) h83) (
j88 Qb h83)) fun j84=>
QH v47 (fun b93=>
br b93 (
j84 Qb h77) (
Qo v70 v76 (AV.bool false) fun b85=>
j84 (AV.bool b85) h77)) (
j84 Qb h77)) fun j78=>
QH v70 (fun b94=>
br b94 (
asS v73 fun s80=>
c140 s80 h74 fun b81 h79=>
j78 (AV.bool b81) h79) (
j78 Qb h74)) (
j78 Qb h74)) fun j75=>
QH v70 (fun b95=>
br b95 (
j75 v2.2.1 h71) (
j75 Qb h71)) (
j75 Qb h71)) fun j72=>
QH v47 (fun b96=>
br b96 (
j72 Qb h65) (
j72 v64 h65)) (
j72 Qb h65)) fun j66=>
QH v47 (fun b97=>
br b97 (
j66 Qb h61) (
asS v60 fun s68=>
c140 s68 h61 fun b69 h67=>
j66 (AV.bool b69) h67)) (
j66 Qb h61)) fun j62=>
QH v47 (fun b98=>
br b98 (
j62 Qb h57) (
ldS v56 h57 fun s63=>
j62 (AV.str s63) h57)) (
j62 Qb h57)) fun j58=>
QH v47 (fun b99=>
br b99 (
j58 Qb h54) (
ixK 1 v50 v53 fun p59=>
j58 p59 h54)) (
j58 Qb h54)) fun j55=>
QH v47 (fun b100=>
br b100 (
j55 Qb h51) (
j55 v2.2.2.2.1 h51)) (
j55 Qb h51)) fun j52=>
QH v47 (fun b101=>
br b101 (
j52 Qb h48) (
j52 v2.1 h48)) (
j52 Qb h48)) fun j49=>
br b23 (
j49 v41 h42) (
j49 Qb h42)) fun j43=>
br b23 (
asS v34 fun s44=>
asS v38 fun s45=>
fB (Str.beq s44 s45) fun b46=>
j43 (AV.bool b46) h39) (
j43 Qb h39)) fun j40=>
br b23 (
j40 v2.2.1 h35) (
j40 Qb h35)) fun j36=>
br b23 (
ldS v30 h31 fun s37=>
j36 (AV.str s37) h31) (
j36 Qb h31)) fun j32=>
br b23 (
ixK 1 v24 v27 fun p33=>
j32 p33 h28) (
j32 Qb h28)) fun j29=>
br b23 (
j29 v2.2.2.2.1 h25) (
j29 Qb h25)) fun j26=>
br b23 (
j26 v2.1 h4) (
j26 Qb h4))) (a0,(AV.str a1),(AV.int .i64 (Int.ofNat x1)),(AV.int .i64 (Int.ofNat 0)),(AV.int .i64 (Int.ofNat x1)),()) [] h
def s89 : AV→Str→H→(Int→Bool→H→Prop)→Prop:=s89G J0 Ub s140
def w89 (c : AV→Str→H→(Int→Bool→H→Prop)→Prop) : Fun:=fun xs h k=>arg xs fun a0 xs=>arg xs fun a1 xs=>QB xs <| asS a1 fun a1=>c a0 a1 h fun r0 r1 h=>k (.tuple [(.int .i64 r0),(.bool r1)]) h
theorem QdJ (J : Qm) (c139 : Str→Str→H→(Bool→H→Prop)→Prop) (c140 : Str→H→(Bool→H→Prop)→Prop) (a0 : AV) (a1 : Str) (h : H) (k : AV→H→Prop) : Ql ty (gam J [(139,Nm c139),(140,w140 c140)]) Tryz.f89 [a0,(.str a1)] h k = s89G J c139 c140 a0 a1 h (fun r0 r1 h=>k (.tuple [(.int .i64 r0),(.bool r1)]) h):=by kernel_rfl
def g89 : Fun:=w89 s89
theorem g89_ok : Qe Tryz.prog 89 g89:=(Qf Qi Qj (Qg (J:=J0) (Qa N0 (Qa g140_ok (Qc Qd)))) Tryz.func89 (fun args w=>by simp)).imp fun xs h k e0=>by
  obtain ⟨a0,xs0,rfl,e1⟩:=Qp e0
  obtain ⟨a1,xs1,rfl,e2⟩:=Qp e1
  obtain ⟨rfl,e3⟩:=Qt e2
  obtain ⟨a1,rfl,e4⟩:=QI.1 e3
  exact (QdJ J0 Ub s140 a0 a1 h k).mpr e4
end Go.Proofs.YtodlaigjjknpkaaGreatDoor
