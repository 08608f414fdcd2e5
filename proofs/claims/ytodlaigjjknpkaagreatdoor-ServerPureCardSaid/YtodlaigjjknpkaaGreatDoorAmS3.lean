import Derived.Test.YtodlaigjjknpkaaGreatDoorAmH314
noncomputable section
namespace Go.Proofs.YtodlaigjjknpkaaGreatDoor
open Go Go.Am
set_option maxRecDepth 100000
set_option linter.all false
def g315 : Fun:=Ql ty (gam J0 [(261,g261)]) Tryz.f315
theorem Qck : Qe Tryz.prog 315 g315:=Qf Qi Qj (Qg (J:=J0) (Qa NS (Qc Qd))) Tryz.func315 (fun args w=>by simp)
def g235 : Fun:=Ql ty (gam J0 [(119,g119),(312,g312),(313,g313),(314,Qfn),(315,g315)]) Tryz.f235
theorem QcD : Qe Tryz.prog 235 g235:=Qf Qi Qj (Qg (J:=J0) (Qa N2 (Qa g312_ok (Qa g313_ok (Qa g314'_ok (Qa Qck (Qc Qd))))))) Tryz.func235 (fun args w=>by simp)
def g161 : Fun:=Ql ty (gam J0 [(234,g234),(235,g235)]) Tryz.f161
theorem NX : Qe Tryz.prog 161 g161:=Qf Qi Qj (Qg (J:=J0) (Qa QcE (Qa QcD (Qc Qd)))) Tryz.func161 (fun args w=>by simp)
def g216 : Fun:=Ql ty (gam J0 []) Tryz.f216
theorem g216_ok : Qe Tryz.prog 216 g216:=Qf Qi Qj (Qg (J:=J0) (Qc Qd)) Tryz.func216 (fun args w=>by simp)
def g149 : Fun:=Ql ty (gam J0 [(100,QaP),(161,g161),(216,g216)]) Tryz.f149
theorem g149_ok : Qe Tryz.prog 149 g149:=Qf Qi Qj (Qg (J:=J0) (Qa UH (Qa NX (Qa g216_ok (Qc Qd))))) Tryz.func149 (fun args w=>by simp)
def g76 : Fun:=Ql ty (gam J0 []) Tryz.f76
theorem X2 : Qe Tryz.prog 76 g76:=Qf Qi Qj (Qg (J:=J0) (Qc Qd)) Tryz.func76 (fun args w=>by simp)
def g222 : Fun:=Ql ty (gam J0 []) Tryz.f222
theorem g222_ok : Qe Tryz.prog 222 g222:=Qf Qi Qj (Qg (J:=J0) (Qc Qd)) Tryz.func222 (fun args w=>by simp)
def g150 : Fun:=Ql ty (gam J0 [(76,g76),(222,g222)]) Tryz.f150
theorem g150_ok : Qe Tryz.prog 150 g150:=Qf Qi Qj (Qg (J:=J0) (Qa X2 (Qa g222_ok (Qc Qd)))) Tryz.func150 (fun args w=>by simp)
def g163 : Fun:=Ql ty (gam J0 []) Tryz.f163
theorem QcQ : Qe Tryz.prog 163 g163:=Qf Qi Qj (Qg (J:=J0) (Qc Qd)) Tryz.func163 (fun args w=>by simp)
def g151 : Fun:=Ql ty (gam J0 [(163,g163)]) Tryz.f151
theorem g151_ok : Qe Tryz.prog 151 g151:=Qf Qi Qj (Qg (J:=J0) (Qa QcQ (Qc Qd))) Tryz.func151 (fun args w=>by simp)
def g360 : Fun:=Ql ty (gam J0 []) Tryz.f360
theorem g360_ok : Qe Tryz.prog 360 g360:=Qf Qi Qj (Qg (J:=J0) (Qc Qd)) Tryz.func360 (fun args w=>by simp)
def g307 : Fun:=Ql ty (gam J0 [(360,g360)]) Tryz.f307
theorem g307_ok : Qe Tryz.prog 307 g307:=Qf Qi Qj (Qg (J:=J0) (Qa g360_ok (Qc Qd))) Tryz.func307 (fun args w=>by simp)
def g225 : Fun:=Ql ty (gam J0 [(307,g307)]) Tryz.f225
theorem g225_ok : Qe Tryz.prog 225 g225:=Qf Qi Qj (Qg (J:=J0) (Qa g307_ok (Qc Qd))) Tryz.func225 (fun args w=>by simp)
def g152 : Fun:=Ql ty (gam J0 [(225,g225)]) Tryz.f152
theorem QcU : Qe Tryz.prog 152 g152:=Qf Qi Qj (Qg (J:=J0) (Qa g225_ok (Qc Qd))) Tryz.func152 (fun args w=>by simp)
def g162 : Fun:=Ql ty (gam J0 []) Tryz.f162
theorem QcR : Qe Tryz.prog 162 g162:=Qf Qi Qj (Qg (J:=J0) (Qc Qd)) Tryz.func162 (fun args w=>by simp)
def g153 : Fun:=Ql ty (gam J0 [(161,g161),(162,g162)]) Tryz.f153
theorem QcT : Qe Tryz.prog 153 g153:=Qf Qi Qj (Qg (J:=J0) (Qa NX (Qa QcR (Qc Qd)))) Tryz.func153 (fun args w=>by simp)
def g35 : Fun:=Ql ty (gam J0 [(23,g23)]) Tryz.f35
theorem Qfl : Qe Tryz.prog 35 g35:=Qf Qi Qj (Qg (J:=J0) (Qa Qfs (Qc Qd))) Tryz.func35 (fun args w=>by simp)
def g72 : Fun:=Ql ty (gam J0 []) Tryz.f72
theorem QaK : Qe Tryz.prog 72 g72:=Qf Qi Qj (Qg (J:=J0) (Qc Qd)) Tryz.func72 (fun args w=>by simp)
def g73 : Fun:=Ql ty (gam J0 []) Tryz.f73
theorem Qfd : Qe Tryz.prog 73 g73:=Qf Qi Qj (Qg (J:=J0) (Qc Qd)) Tryz.func73 (fun args w=>by simp)
def s86G (J : Qm) (a0 : AV) (h : H) (k : Int→H→Prop) : Prop :=
Q6 a0 fun x1=>
J.lp (α:=AV × AV × AV × AV × Unit) (fun r5 v2 d3 h4=>
asI .i64 v2.2.2.2.1 fun x6=>
asI .i64 v2.2.2.1 fun x7=>
fB (ltI x6 x7) fun b8=>
br b8 (
ixK 1 v2.2.1 v2.2.2.2.1 fun p9=>
ldI .i64 p9 h4 fun x10=>
asI .i64 v2.1 fun x11=>
fB (Bool.not (eqI x10 x11)) fun b12=>
br b12 (
Qr (gam J []) d3 h4 fun h13=>
k x10 h13) (
asI .i64 v2.2.2.2.1 fun x14=>
fI (Qu .i64 (Int.add x14 (Int.ofNat 1))) fun x15=>
r5 (v2.1,v2.2.1,v2.2.2.1,(AV.int .i64 x15),()) d3 h4)) (
Qr (gam J []) d3 h4 fun h16=>
asI .i64 v2.1 fun x17=>
k x17 h16)) ((AV.int .i64 (Int.ofNat 0)),a0,(AV.int .i64 (Int.ofNat x1)),(AV.int .i64 (Int.ofNat 0)),()) [] h
def s86 : AV→H→(Int→H→Prop)→Prop:=s86G J0
def w86 (c : AV→H→(Int→H→Prop)→Prop) : Fun:=fun xs h k=>arg xs fun a0 xs=>QB xs <| c a0 h fun r0 h=>k (.int .i64 r0) h
theorem QdM (J : Qm) (a0 : AV) (h : H) (k : AV→H→Prop) : Ql ty (gam J []) Tryz.f86 [a0] h k = s86G J  a0 h (fun r0 h=>k (.int .i64 r0) h):=by kernel_rfl
def g86 : Fun:=w86 s86
theorem Qfa : Qe Tryz.prog 86 g86:=(Qf Qi Qj (Qg (J:=J0) (Qc Qd)) Tryz.func86 (fun args w=>by simp)).imp fun xs h k e0=>by
  obtain ⟨a0,xs0,rfl,e1⟩:=Qp e0
  obtain ⟨rfl,e2⟩:=Qt e1
  exact (QdM J0  a0 h k).mpr e2
def Qbw (J : Qm) (a0 : Int) (h : H) (k : Bool→H→Prop) : Prop :=
fB (Bool.not (eqI a0 a0)) fun b1=>
k b1 h
def s137 : Int→H→(Bool→H→Prop)→Prop:=Qbw J0
def w137 (c : Int→H→(Bool→H→Prop)→Prop) : Fun:=fun xs h k=>arg xs fun a0 xs=>QB xs <| asI .i64 a0 fun a0=>c a0 h fun r0 h=>k (.bool r0) h
theorem Qbv (J : Qm) (a0 : Int) (h : H) (k : AV→H→Prop) : Ql ty (gam J []) Tryz.f137 [(.int .i64 a0)] h k = Qbw J  a0 h (fun r0 h=>k (.bool r0) h):=by kernel_rfl
def g137 : Fun:=w137 s137
theorem g137_ok : Qe Tryz.prog 137 g137:=(Qf Qi Qj (Qg (J:=J0) (Qc Qd)) Tryz.func137 (fun args w=>by simp)).imp fun xs h k e0=>by
  obtain ⟨a0,xs0,rfl,e1⟩:=Qp e0
  obtain ⟨rfl,e2⟩:=Qt e1
  obtain ⟨a0,rfl,e3⟩:=QD.1 e2
  exact (Qbv J0  a0 h k).mpr e3
def s87G (J : Qm) (c137 : Int→H→(Bool→H→Prop)→Prop) (a0 : Int) (a1 : Int) (h : H) (k : Int→H→Prop) : Prop :=
c137 a0 h fun b2 h1=>
c137 a1 h1 fun b4 h3=>
br b2 (
br b4 (
k (Int.ofNat 0) h3) (
k (Int.negSucc 0) h3)) (
br b4 (
k (Int.ofNat 1) h3) (
fB (ltI a0 a1) fun b5=>
br b5 (
k (Int.negSucc 0) h3) (
fB (ltI a1 a0) fun b6=>
br b6 (
k (Int.ofNat 1) h3) (
k (Int.ofNat 0) h3))))
def s87 : Int→Int→H→(Int→H→Prop)→Prop:=s87G J0 s137
def w87 (c : Int→Int→H→(Int→H→Prop)→Prop) : Fun:=fun xs h k=>arg xs fun a0 xs=>arg xs fun a1 xs=>QB xs <| asI .i64 a0 fun a0=>asI .i64 a1 fun a1=>c a0 a1 h fun r0 h=>k (.int .i64 r0) h
theorem QdL (J : Qm) (c137 : Int→H→(Bool→H→Prop)→Prop) (a0 : Int) (a1 : Int) (h : H) (k : AV→H→Prop) : Ql ty (gam J [(137,w137 c137)]) Tryz.f87 [(.int .i64 a0),(.int .i64 a1)] h k = s87G J c137 a0 a1 h (fun r0 h=>k (.int .i64 r0) h):=by kernel_rfl
def g87 : Fun:=w87 s87
theorem g87_ok : Qe Tryz.prog 87 g87:=(Qf Qi Qj (Qg (J:=J0) (Qa g137_ok (Qc Qd))) Tryz.func87 (fun args w=>by simp)).imp fun xs h k e0=>by
  obtain ⟨a0,xs0,rfl,e1⟩:=Qp e0
  obtain ⟨a1,xs1,rfl,e2⟩:=Qp e1
  obtain ⟨rfl,e3⟩:=Qt e2
  obtain ⟨a0,rfl,e4⟩:=QD.1 e3
  obtain ⟨a1,rfl,e5⟩:=QD.1 e4
  exact (QdL J0 s137 a0 a1 h k).mpr e5
def Qbu (J : Qm) (a0 : Int) (h : H) (k : Bool→H→Prop) : Prop :=
fB (Bool.not (eqI a0 a0)) fun b1=>
k b1 h
def s138 : Int→H→(Bool→H→Prop)→Prop:=Qbu J0
def w138 (c : Int→H→(Bool→H→Prop)→Prop) : Fun:=fun xs h k=>arg xs fun a0 xs=>QB xs <| asI .i32 a0 fun a0=>c a0 h fun r0 h=>k (.bool r0) h
theorem Qbt (J : Qm) (a0 : Int) (h : H) (k : AV→H→Prop) : Ql ty (gam J []) Tryz.f138 [(.int .i32 a0)] h k = Qbu J  a0 h (fun r0 h=>k (.bool r0) h):=by kernel_rfl
def g138 : Fun:=w138 s138
theorem g138_ok : Qe Tryz.prog 138 g138:=(Qf Qi Qj (Qg (J:=J0) (Qc Qd)) Tryz.func138 (fun args w=>by simp)).imp fun xs h k e0=>by
  obtain ⟨a0,xs0,rfl,e1⟩:=Qp e0
  obtain ⟨rfl,e2⟩:=Qt e1
  obtain ⟨a0,rfl,e3⟩:=QD.1 e2
  exact (Qbt J0  a0 h k).mpr e3
def s88G (J : Qm) (c138 : Int→H→(Bool→H→Prop)→Prop) (a0 : Int) (a1 : Int) (h : H) (k : Int→H→Prop) : Prop :=
c138 a0 h fun b2 h1=>
c138 a1 h1 fun b4 h3=>
br b2 (
br b4 (
k (Int.ofNat 0) h3) (
k (Int.negSucc 0) h3)) (
br b4 (
k (Int.ofNat 1) h3) (
fB (ltI a0 a1) fun b5=>
br b5 (
k (Int.negSucc 0) h3) (
fB (ltI a1 a0) fun b6=>
br b6 (
k (Int.ofNat 1) h3) (
k (Int.ofNat 0) h3))))
def s88 : Int→Int→H→(Int→H→Prop)→Prop:=s88G J0 s138
def w88 (c : Int→Int→H→(Int→H→Prop)→Prop) : Fun:=fun xs h k=>arg xs fun a0 xs=>arg xs fun a1 xs=>QB xs <| asI .i32 a0 fun a0=>asI .i32 a1 fun a1=>c a0 a1 h fun r0 h=>k (.int .i64 r0) h
theorem QdK (J : Qm) (c138 : Int→H→(Bool→H→Prop)→Prop) (a0 : Int) (a1 : Int) (h : H) (k : AV→H→Prop) : Ql ty (gam J [(138,w138 c138)]) Tryz.f88 [(.int .i32 a0),(.int .i32 a1)] h k = s88G J c138 a0 a1 h (fun r0 h=>k (.int .i64 r0) h):=by kernel_rfl
def g88 : Fun:=w88 s88
theorem g88_ok : Qe Tryz.prog 88 g88:=(Qf Qi Qj (Qg (J:=J0) (Qa g138_ok (Qc Qd))) Tryz.func88 (fun args w=>by simp)).imp fun xs h k e0=>by
  obtain ⟨a0,xs0,rfl,e1⟩:=Qp e0
  obtain ⟨a1,xs1,rfl,e2⟩:=Qp e1
  obtain ⟨rfl,e3⟩:=Qt e2
  obtain ⟨a0,rfl,e4⟩:=QD.1 e3
  obtain ⟨a1,rfl,e5⟩:=QD.1 e4
  exact (QdK J0 s138 a0 a1 h k).mpr e5
def s50G (J : Qm) (c86 : AV→H→(Int→H→Prop)→Prop) (c87 : Int→Int→H→(Int→H→Prop)→Prop) (c88 : Int→Int→H→(Int→H→Prop)→Prop) (a0 : AV) (a1 : AV) (h : H) (k : Int→H→Prop) : Prop :=
Go.Am.asAgg a0 fun l3=>
Qs (.cells false 29 l3) h fun n1 h2=>
Go.Am.asAgg a1 fun l6=>
Qs (.cells false 29 l6) h2 fun n4 h5=>
ldI .i64 (AV.ptr n1 0) h5 fun x7=>
ldI .i64 (AV.ptr n4 0) h5 fun x8=>
ldI .i32 (AV.ptr n1 1) h5 fun x9=>
ldI .i32 (AV.ptr n4 1) h5 fun x10=>
ldI .i32 (AV.ptr n1 2) h5 fun x11=>
ldI .i32 (AV.ptr n4 2) h5 fun x12=>
c87 x7 x8 h5 fun x14 h13=>
ck (Zj (Zl (AV.ptr n4 2) h13) (AV.int .i32 x12)) (
ck (Zj (Zl (AV.ptr n1 2) h13) (AV.int .i32 x11)) (
ck (Zj (Zl (AV.ptr n4 1) h13) (AV.int .i32 x10)) (
ck (Zj (Zl (AV.ptr n1 1) h13) (AV.int .i32 x9)) (
c88 x9 x10 h13 fun x16 h15=>
ck (Zj (Zl (AV.ptr n4 2) h15) (AV.int .i32 x12)) (
ck (Zj (Zl (AV.ptr n1 2) h15) (AV.int .i32 x11)) (
c88 x11 x12 h15 fun x18 h17=>
Qs (.cells false 3 [(AV.int .i64 x14),(AV.int .i64 x16),(AV.int .i64 x18)]) h17 fun n19 h20=>
c86 (AV.slice n19 0 3 3 1 true) h20 fun x22 h21=>
k x22 h21))))))
def s50 : AV→AV→H→(Int→H→Prop)→Prop:=s50G J0 s86 s87 s88
def w50 (c : AV→AV→H→(Int→H→Prop)→Prop) : Fun:=fun xs h k=>arg xs fun a0 xs=>arg xs fun a1 xs=>QB xs <| c a0 a1 h fun r0 h=>k (.int .i64 r0) h
theorem QdX (J : Qm) (c86 : AV→H→(Int→H→Prop)→Prop) (c87 : Int→Int→H→(Int→H→Prop)→Prop) (c88 : Int→Int→H→(Int→H→Prop)→Prop) (a0 : AV) (a1 : AV) (h : H) (k : AV→H→Prop) : Ql ty (gam J [(86,w86 c86),(87,w87 c87),(88,w88 c88)]) Tryz.f50 [a0,a1] h k = s50G J c86 c87 c88 a0 a1 h (fun r0 h=>k (.int .i64 r0) h):=by kernel_rfl
def g50 : Fun:=w50 s50
theorem Wp : Qe Tryz.prog 50 g50:=(Qf Qi Qj (Qg (J:=J0) (Qa Qfa (Qa g87_ok (Qa g88_ok (Qc Qd))))) Tryz.func50 (fun args w=>by simp)).imp fun xs h k e0=>by
  obtain ⟨a0,xs0,rfl,e1⟩:=Qp e0
  obtain ⟨a1,xs1,rfl,e2⟩:=Qp e1
  obtain ⟨rfl,e3⟩:=Qt e2
  exact (QdX J0 s86 s87 s88 a0 a1 h k).mpr e3
end Go.Proofs.YtodlaigjjknpkaaGreatDoor
