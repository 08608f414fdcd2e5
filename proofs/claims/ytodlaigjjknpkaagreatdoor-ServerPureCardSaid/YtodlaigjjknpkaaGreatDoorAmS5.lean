import Derived.Test.YtodlaigjjknpkaaGreatDoorAmS4
noncomputable section
namespace Go.Proofs.YtodlaigjjknpkaaGreatDoor
open Go Go.Am
set_option maxRecDepth 100000
set_option linter.all false
def g254 : Fun:=Ql ty (gam J0 []) Tryz.f254
theorem QcA : Qe Tryz.prog 254 g254:=Qf Qi Qj (Qg (J:=J0) (Qc Qd)) Tryz.func254 (fun args w=>by simp)
def Qfy : Fun:=Ql ty (gam J0 [(254,g254)]) Tryz.f178
theorem Xi : Qe Tryz.prog 178 Qfy:=Qf Qi Qj (Qg (J:=J0) (Qa QcA (Qc Qd))) Tryz.func178 (fun args w=>by simp)
def Qeb (J : Qm) (c148 : AV→H→(AV→H→Prop)→Prop) (c173 : AV→AV→H→(Int→H→Prop)→Prop) (a0 : AV) (h : H) (k : Int→H→Prop) : Prop :=
c173 a0 AV.nils h fun x2 h1=>
fB (Bool.not (eqI x2 (Int.ofNat 0))) fun b3=>
br b3 (
k (Int.ofNat 0) h1) (
Za a0 (
faK 3 a0 fun p4=>
ldI .i64 p4 h1 fun x5=>
Qs (.cells false 116 [(.nilm),(.nilm)]) h1 fun n6 h7=>
c148 a0 h7 fun v9 h8=>
ck (Zj (Zl p4 h8) (AV.int .i64 x5)) (
Go.Am.asAgg v9 fun l11=>
stN 2 (AV.ptr n6 0) l11 h8 fun h10=>
ck (Zj (Zl p4 h10) (AV.int .i64 x5)) (
ldV (AV.ptr n6 1) h10 fun v12=>
Z9 v12 h10 fun v13 h14=>
J.lp (α:=AV × AV × AV × Unit) (fun r18 v15 d16 h17=>
YV v15.2.2.1 h17 fun v19 h20=>
asTup v19 fun l21=>
op' (Zd l21 0) fun v22=>
asB v22 fun b23=>
br b23 (
op' (ZV v15.2.2.1 h20) fun v24=>
asTup v24 fun l25=>
op' (Zd l25 1) fun v26=>
asI .i64 v26 fun x27=>
faK 0 v15.1 fun p28=>
ldV p28 h20 fun v29=>
op' (Zf ty 3 132 false v29 (AV.int .i64 x27) h20) fun v30=>
Q6 v30 fun x31=>
asI .i64 v15.2.1 fun x32=>
fI (Qu .i64 (Int.sub x32 (Int.ofNat x31))) fun x33=>
r18 (v15.1,(AV.int .i64 x33),v15.2.2.1,()) d16 h20) (
Qr (gam J [(148,w148 c148),(173,w173 c173)]) d16 h20 fun h34=>
asI .i64 v15.2.1 fun x35=>
k x35 h34)) ((AV.ptr n6 0),(AV.int .i64 x5),v13,()) [] h14))))
def w308 (c : AV→H→(Int→H→Prop)→Prop) : Fun:=fun xs h k=>arg xs fun a0 xs=>QB xs <| c a0 h fun r0 h=>k (.int .i64 r0) h
theorem s308_eq (J : Qm) (c148 : AV→H→(AV→H→Prop)→Prop) (c173 : AV→AV→H→(Int→H→Prop)→Prop) (a0 : AV) (h : H) (k : AV→H→Prop) : Ql ty (gam J [(148,w148 c148),(173,w173 c173)]) Tryz.f308 [a0] h k = Qeb J c148 c173 a0 h (fun r0 h=>k (.int .i64 r0) h):=by kernel_rfl
end Go.Proofs.YtodlaigjjknpkaaGreatDoor
