import Derived.Test.YtbcfpeelkaoljaaDoorAmTys
noncomputable section
namespace Go.Proofs.YtbcfpeelkaoljaaDoor
open Go Go.Am
set_option maxRecDepth 100000
set_option linter.all false
def s5G (J:Qg) (a0:Int) (h:H) (k:AV→Int→H→Prop):Prop :=
fB (ltI a0 (Int.ofNat 0)) fun b1=>
J.jn (fun v2 h3=>
J.jn (fun v5 h6=>
QY (AV.bool b1) (AV.bool true) v5 fun b10=>
br b10 (
k AV.nilp (Int.ofNat 2) h6) (
Qw (.smap []) h6 fun n11 h12=>
Qw (.smap []) h12 fun n13 h14=>
ck (Nat.beq (List.length [(AV.map n11),(AV.map n13)]) 2) (op' (Q7 0 [(AV.map n11),(AV.map n13)] [(.nilm),(.nilm),(.nils),(.int .i64 0),(.int .i64 0),(.bool false),(.bool false),(.int .i64 0),(.int .i64 0),(.bool false)]) fun l15=>
op' (Q7 3 [(AV.int .i64 a0)] l15) fun l16=>
op' (Q7 9 [(AV.bool true)] l16) fun l17=>
Qw (.cells false 55 l17) h14 fun n18 h19=>
k (AV.ptr n18 0) (Int.ofNat 0) h19))) fun j7=>
br b1 (
j7 Qa h3) (
asI .i64 v2 fun x8=>
fB (ltI (Int.ofNat 1073741824) x8) fun b9=>
j7 (AV.bool b9) h3)) fun j4=>
br b1 (
j4 Qa h) (
j4 (AV.int .i64 a0) h)
def s5:Int→H→(AV→Int→H→Prop)→Prop:=s5G J0
def w5 (c:Int→H→(AV→Int→H→Prop)→Prop):Fun:=fun xs h k=>arg xs fun a0 xs=>QV xs <| asI .i64 a0 fun a0=>c a0 h fun r0 r1 h=>k (.tuple [r0,(.int .i64 r1)]) h
theorem s5_eq (J:Qg) (a0:Int) (h:H) (k:AV→H→Prop):Zk ty (gam J []) Tryd.f5 [(.int .i64 a0)] h k=s5G J  a0 h (fun r0 r1 h=>k (.tuple [r0,(.int .i64 r1)]) h):=by kernel_rfl
def g5:Fun:=w5 s5
theorem g5_ok:Qp Tryd.prog 5 g5:=(Qz QF QG (Qu (J:=J0) (Qn Qo)) Tryd.func5 (fun args w=>by simp)).imp fun xs h k e0=>by
  obtain ⟨a0,xs0,rfl,e1⟩:=Qf e0
  obtain ⟨rfl,e2⟩:=Qj e1
  obtain ⟨a0,rfl,e3⟩:=QI.1 e2
  exact (s5_eq J0  a0 h k).mpr e3
def s37G (J:Qg) (a0:Str) (h:H) (k:Bool→H→Prop):Prop :=
fB (Str.beq a0 (⟨0,0⟩:Str)) fun b1=>
J.jn (fun v2 h3=>
J.jn (fun v5 h6=>
J.jn (fun v9 h10=>
QY (AV.bool b1) (AV.bool true) v9 fun b14=>
br b14 (
k false h10) (
J.lp (α:=AV × AV × AV × Unit) (fun r18 v15 d16 h17=>
asI .i64 v15.2.2.1 fun x19=>
asI .i64 v15.2.1 fun x20=>
fB (ltI x19 x20) fun b21=>
br b21 (
W4 v15.1 v15.2.2.1 fun x22=>
fB (ltI x22 (Int.ofNat 33)) fun b23=>
J.jn (fun v24 h25=>
J.jn (fun v27 h28=>
J.jn (fun v30 h31=>
J.jn (fun v34 h35=>
QY (AV.bool b23) (AV.bool true) v34 fun b39=>
br b39 (
Qr (gam J []) d16 h35 fun h40=>
k false h40) (
asI .i64 v15.2.2.1 fun x41=>
fI (Qc .i64 (Int.add x41 (Int.ofNat 1))) fun x42=>
r18 (v15.1,v15.2.1,(AV.int .i64 x42),()) d16 h35)) fun j36=>
br b23 (
j36 Qa h31) (
asI .u8 v30 fun x37=>
fB (ltI (Int.ofNat 126) x37) fun b38=>
j36 (AV.bool b38) h31)) fun j32=>
br b23 (
j32 Qa h28) (
W4 v24 v27 fun x33=>
j32 (AV.int .u8 x33) h28)) fun j29=>
br b23 (
j29 Qa h25) (
j29 v15.2.2.1 h25)) fun j26=>
br b23 (
j26 Qa h17) (
j26 v15.1 h17)) (
Qr (gam J []) d16 h17 fun h43=>
k true h43)) ((AV.str a0),(AV.int .i64 (Int.ofNat a0.len)),(AV.int .i64 (Int.ofNat 0)),()) [] h10)) fun j11=>
br b1 (
j11 Qa h6) (
asI .i64 v5 fun x12=>
fB (ltI (Int.ofNat 32) x12) fun b13=>
j11 (AV.bool b13) h6)) fun j7=>
br b1 (
j7 Qa h3) (
asS v2 fun s8=>
j7 (AV.int .i64 (Int.ofNat s8.len)) h3)) fun j4=>
br b1 (
j4 Qa h) (
j4 (AV.str a0) h)
def s37:Str→H→(Bool→H→Prop)→Prop:=s37G J0
def w37 (c:Str→H→(Bool→H→Prop)→Prop):Fun:=fun xs h k=>arg xs fun a0 xs=>QV xs <| asS a0 fun a0=>c a0 h fun r0 h=>k (.bool r0) h
theorem s37_eq (J:Qg) (a0:Str) (h:H) (k:AV→H→Prop):Zk ty (gam J []) Tryd.f37 [(.str a0)] h k=s37G J  a0 h (fun r0 h=>k (.bool r0) h):=by kernel_rfl
def g37:Fun:=w37 s37
theorem g37_ok:Qp Tryd.prog 37 g37:=(Qz QF QG (Qu (J:=J0) (Qn Qo)) Tryd.func37 (fun args w=>by simp)).imp fun xs h k e0=>by
  obtain ⟨a0,xs0,rfl,e1⟩:=Qf e0
  obtain ⟨rfl,e2⟩:=Qj e1
  obtain ⟨a0,rfl,e3⟩:=ZE.1 e2
  exact (s37_eq J0  a0 h k).mpr e3
def s21G (J:Qg) (c37:Str→H→(Bool→H→Prop)→Prop) (a0:AV) (a1:AV) (h:H) (k:Int→H→Prop):Prop :=
nilB 0 a0 fun b1=>
J.jn (fun v2 h3=>
J.jn (fun v5 h6=>
J.jn (fun v8 h9=>
J.jn (fun v12 h13=>
J.jn (fun v16 h17=>
QY (AV.bool b1) (AV.bool true) v16 fun b21=>
br b21 (
k (Int.ofNat 1) h17) (
Qv a0 (
faK 5 a0 fun p22=>
ldB p22 h17 fun b23=>
br b23 (
k (Int.ofNat 7) h17) (
Zi a1 fun x24=>
J.lp (α:=AV × AV × AV × Unit) (fun r28 v25 d26 h27=>
asI .i64 v25.2.2.1 fun x29=>
asI .i64 v25.2.1 fun x30=>
fB (ltI x29 x30) fun b31=>
br b31 (
ixK 1 v25.1 v25.2.2.1 fun p32=>
ldS p32 h27 fun s33=>
c37 s33 h27 fun b35 h34=>
fB (Bool.not b35) fun b36=>
br b36 (
Qr (gam J [(37,w37 c37)]) d26 h34 fun h37=>
k (Int.ofNat 2) h37) (
asI .i64 v25.2.2.1 fun x38=>
fI (Qc .i64 (Int.add x38 (Int.ofNat 1))) fun x39=>
r28 (v25.1,v25.2.1,(AV.int .i64 x39),()) d26 h34)) (
Qr (gam J [(37,w37 c37)]) d26 h27 fun h40=>
k (Int.ofNat 0) h40)) (a1,(AV.int .i64 (Int.ofNat x24)),(AV.int .i64 (Int.ofNat 0)),()) [] h17)))) fun j18=>
br b1 (
j18 Qa h13) (
asB v12 fun b19=>
fB (Bool.not b19) fun b20=>
j18 (AV.bool b20) h13)) fun j14=>
br b1 (
j14 Qa h9) (
ldB v8 h9 fun b15=>
j14 (AV.bool b15) h9)) fun j10=>
br b1 (
j10 Qa h6) (
faK 9 v5 fun p11=>
j10 p11 h6)) fun j7=>
br b1 (
j7 Qa h3) (
Qv v2 (
j7 v2 h3))) fun j4=>
br b1 (
j4 Qa h) (
j4 a0 h)
def s21:AV→AV→H→(Int→H→Prop)→Prop:=s21G J0 s37
def w21 (c:AV→AV→H→(Int→H→Prop)→Prop):Fun:=fun xs h k=>arg xs fun a0 xs=>arg xs fun a1 xs=>QV xs <| c a0 a1 h fun r0 h=>k (.int .i64 r0) h
theorem s21_eq (J:Qg) (c37:Str→H→(Bool→H→Prop)→Prop) (a0:AV) (a1:AV) (h:H) (k:AV→H→Prop):Zk ty (gam J [(37,w37 c37)]) Tryd.f21 [a0,a1] h k=s21G J c37 a0 a1 h (fun r0 h=>k (.int .i64 r0) h):=by kernel_rfl
def g21:Fun:=w21 s21
theorem NG:Qp Tryd.prog 21 g21:=(Qz QF QG (Qu (J:=J0) (Qb g37_ok (Qn Qo))) Tryd.func21 (fun args w=>by simp)).imp fun xs h k e0=>by
  obtain ⟨a0,xs0,rfl,e1⟩:=Qf e0
  obtain ⟨a1,xs1,rfl,e2⟩:=Qf e1
  obtain ⟨rfl,e3⟩:=Qj e2
  exact (s21_eq J0 s37 a0 a1 h k).mpr e3
def up21:AV→AV→H→(Int→H→Prop)→Prop:=fun a0 a1 h k=>∃ K:Int→H→Prop,s21 a0 a1 h K∧∀ r0 h',K r0 h'→k r0 h'
theorem up21_ok:Qp Tryd.prog 21 (w21 up21):=NG.up fun xs h k e0=>by
  obtain ⟨a0,xs0,rfl,e1⟩:=Qf e0
  obtain ⟨a1,xs1,rfl,e2⟩:=Qf e1
  obtain ⟨rfl,e3⟩:=Qj e2
  obtain ⟨K,q1,q2⟩:=e3
  refine ⟨fun r h'=>∃ r0,r=(.int .i64 r0)∧K r0 h',?_,?_⟩
  · have hK : (fun r0 h' => ∃ r0', ((.int .i64 r0) : AV) = (.int .i64 r0') ∧ K r0' h') = K := by funext r0 h'; apply propext; simp
    exact (congrArg (s21 a0 a1 h) hK).mpr q1
  · rintro r h' ⟨r0,rfl,q3⟩;exact q2 _ _ q3
def s48G (J:Qg) (a0:AV) (h:H) (k:AV→H→Prop):Prop :=
nilB 2 a0 fun b1=>
br b1 (
k AV.nils h) (
op' (Wc true 5 []) fun k4=>
Qw k4 h fun n2 h3=>
apB (.slice 5) 5 (AV.slice n2 0 0 0 1 true) a0 h3 fun v5 h6=>
k v5 h6)
def s48:AV→H→(AV→H→Prop)→Prop:=s48G J0
def w48 (c:AV→H→(AV→H→Prop)→Prop):Fun:=fun xs h k=>arg xs fun a0 xs=>QV xs <| c a0 h fun r0 h=>k r0 h
theorem s48_eq (J:Qg) (a0:AV) (h:H) (k:AV→H→Prop):Zk ty (gam J []) Tryd.f48 [a0] h k=s48G J  a0 h (fun r0 h=>k r0 h):=by kernel_rfl
def g48:Fun:=w48 s48
theorem QaD:Qp Tryd.prog 48 g48:=(Qz QF QG (Qu (J:=J0) (Qn Qo)) Tryd.func48 (fun args w=>by simp)).imp fun xs h k e0=>by
  obtain ⟨a0,xs0,rfl,e1⟩:=Qf e0
  obtain ⟨rfl,e2⟩:=Qj e1
  exact (s48_eq J0  a0 h k).mpr e2
def s30G (J:Qg) (c48:AV→H→(AV→H→Prop)→Prop) (a0:AV) (a1:AV) (h:H) (k:H→Prop):Prop :=
Go.Am.asAgg a0 fun l3=>
Qw (.cells false 52 l3) h fun n1 h2=>
Go.Am.asAgg a1 fun l6=>
Qw (.cells false 75 l6) h2 fun n4 h5=>
ldI .i64 (AV.ptr n4 0) h5 fun x7=>
fB (eqI x7 (Int.ofNat 0)) fun b8=>
br b8 (
ldV (AV.ptr n1 0) h5 fun v9=>
ldI .i64 (AV.ptr n4 3) h5 fun x10=>
ldV (AV.ptr n1 0) h5 fun v11=>
ldI .i64 (AV.ptr n4 3) h5 fun x12=>
op' (QW ty 3 64 false v11 (AV.int .i64 x12) h5) fun v13=>
ldV (AV.ptr n4 4) h5 fun v14=>
c48 v13 h5 fun v16 h15=>
ck (Zz (Zq (AV.ptr n4 4) h15) v14) (
ck (Zz (Zq (AV.ptr n4 3) h15) (AV.int .i64 x10)) (
ck (Zz (Zq (AV.ptr n1 0) h15) v9) (
apB (.slice 5) 5 v16 v14 h15 fun v17 h18=>
ck (Zz (Zq (AV.ptr n4 3) h18) (AV.int .i64 x10)) (
ck (Zz (Zq (AV.ptr n1 0) h18) v9) (
op' (Yi ty 3 v9 (AV.int .i64 x10) v17 h18) fun k19=>
Z9 k19.1 k19.2 h18 fun h20=>
k  h20)))))) (
fB (eqI x7 (Int.ofNat 1)) fun b21=>
br b21 (
ldV (AV.ptr n1 1) h5 fun v22=>
ldS (AV.ptr n4 1) h5 fun s23=>
ldI .i64 (AV.ptr n4 3) h5 fun x24=>
op' (Yi ty 9 v22 (AV.str s23) (AV.int .i64 x24) h5) fun k25=>
Z9 k25.1 k25.2 h5 fun h26=>
k  h26) (
fB (eqI x7 (Int.ofNat 2)) fun b27=>
br b27 (
ldS (AV.ptr n4 1) h5 fun s28=>
ldS (AV.ptr n4 2) h5 fun s29=>
fB (Bool.not (Str.beq s28 s29)) fun b30=>
br b30 (
ldV (AV.ptr n1 1) h5 fun v31=>
ldS (AV.ptr n4 2) h5 fun s32=>
ldV (AV.ptr n1 1) h5 fun v33=>
ldS (AV.ptr n4 1) h5 fun s34=>
op' (QW ty 9 3 false v33 (AV.str s34) h5) fun v35=>
asI .i64 v35 fun x36=>
op' (Yi ty 9 v31 (AV.str s32) (AV.int .i64 x36) h5) fun k37=>
Z9 k37.1 k37.2 h5 fun h38=>
ldV (AV.ptr n1 1) h38 fun v39=>
ldS (AV.ptr n4 1) h38 fun s40=>
delK (Uu ty 9 v39 (AV.str s40) h38) h38 fun h42=>
k  h42) (
k  h5)) (
fB (eqI x7 (Int.ofNat 3)) fun b43=>
br b43 (
ldV (AV.ptr n1 1) h5 fun v44=>
ldS (AV.ptr n4 1) h5 fun s45=>
delK (Uu ty 9 v44 (AV.str s45) h5) h5 fun h47=>
k  h47) (
k  h5))))
def s30:AV→AV→H→(H→Prop)→Prop:=s30G J0 s48
def w30 (c:AV→AV→H→(H→Prop)→Prop):Fun:=fun xs h k=>arg xs fun a0 xs=>arg xs fun a1 xs=>QV xs <| c a0 a1 h fun  h=>k (.tuple []) h
theorem s30_eq (J:Qg) (c48:AV→H→(AV→H→Prop)→Prop) (a0:AV) (a1:AV) (h:H) (k:AV→H→Prop):Zk ty (gam J [(48,w48 c48)]) Tryd.f30 [a0,a1] h k=s30G J c48 a0 a1 h (fun  h=>k (.tuple []) h):=by kernel_rfl
def g30:Fun:=w30 s30
theorem Qcx:Qp Tryd.prog 30 g30:=(Qz QF QG (Qu (J:=J0) (Qb QaD (Qn Qo))) Tryd.func30 (fun args w=>by simp)).imp fun xs h k e0=>by
  obtain ⟨a0,xs0,rfl,e1⟩:=Qf e0
  obtain ⟨a1,xs1,rfl,e2⟩:=Qf e1
  obtain ⟨rfl,e3⟩:=Qj e2
  exact (s30_eq J0 s48 a0 a1 h k).mpr e3
def Qej:AV→AV→H→(H→Prop)→Prop:=fun a0 a1 h k=>∃ K:H→Prop,s30 a0 a1 h K∧∀  h',K  h'→k  h'
theorem up30_ok:Qp Tryd.prog 30 (w30 Qej):=Qcx.up fun xs h k e0=>by
  obtain ⟨a0,xs0,rfl,e1⟩:=Qf e0
  obtain ⟨a1,xs1,rfl,e2⟩:=Qf e1
  obtain ⟨rfl,e3⟩:=Qj e2
  obtain ⟨K,q1,q2⟩:=e3
  refine ⟨fun r h'=>r=.tuple []∧K h',?_,?_⟩
  · have hK : (fun  h' => AV.tuple [] = .tuple [] ∧ K h') = K := by funext  h'; apply propext; simp
    exact (congrArg (s30 a0 a1 h) hK).mpr q1
  · rintro r h' ⟨rfl,q3⟩;exact q2 _ q3
def g77:Fun:=X5
theorem Qe2:Qp Tryd.prog 77 g77:=cloneF_ok Tryd.func77 (by kernel_rfl) (by kernel_rfl) (by kernel_rfl) (by kernel_rfl)
def s66G (J:Qg) (c77:Fun) (a0:AV) (h:H) (k:AV→H→Prop):Prop :=
nilB 4 a0 fun b1=>
br b1 (
k AV.nilm h) (
c77 [(AV.iface 49 a0)] h fun v2 h3=>
op' (Wl ty 49 false v2) fun v4=>
k v4 h3)
def s66:AV→H→(AV→H→Prop)→Prop:=s66G J0 g77
def w66 (c:AV→H→(AV→H→Prop)→Prop):Fun:=fun xs h k=>arg xs fun a0 xs=>QV xs <| c a0 h fun r0 h=>k r0 h
theorem s66_eq (J:Qg) (c77:Fun) (a0:AV) (h:H) (k:AV→H→Prop):Zk ty (gam J [(77,c77)]) Tryd.f66 [a0] h k=s66G J c77 a0 h (fun r0 h=>k r0 h):=by kernel_rfl
def g66:Fun:=w66 s66
theorem g66_ok:Qp Tryd.prog 66 g66:=(Qz QF QG (Qu (J:=J0) (Qb Qe2 (Qn Qo))) Tryd.func66 (fun args w=>by simp)).imp fun xs h k e0=>by
  obtain ⟨a0,xs0,rfl,e1⟩:=Qf e0
  obtain ⟨rfl,e2⟩:=Qj e1
  exact (s66_eq J0 g77 a0 h k).mpr e2
def s67G (J:Qg) (c77:Fun) (a0:AV) (h:H) (k:AV→H→Prop):Prop :=
nilB 4 a0 fun b1=>
br b1 (
k AV.nilm h) (
c77 [(AV.iface 50 a0)] h fun v2 h3=>
op' (Wl ty 50 false v2) fun v4=>
k v4 h3)
def s67:AV→H→(AV→H→Prop)→Prop:=s67G J0 g77
def w67 (c:AV→H→(AV→H→Prop)→Prop):Fun:=fun xs h k=>arg xs fun a0 xs=>QV xs <| c a0 h fun r0 h=>k r0 h
theorem s67_eq (J:Qg) (c77:Fun) (a0:AV) (h:H) (k:AV→H→Prop):Zk ty (gam J [(77,c77)]) Tryd.f67 [a0] h k=s67G J c77 a0 h (fun r0 h=>k r0 h):=by kernel_rfl
def g67:Fun:=w67 s67
theorem g67_ok:Qp Tryd.prog 67 g67:=(Qz QF QG (Qu (J:=J0) (Qb Qe2 (Qn Qo))) Tryd.func67 (fun args w=>by simp)).imp fun xs h k e0=>by
  obtain ⟨a0,xs0,rfl,e1⟩:=Qf e0
  obtain ⟨rfl,e2⟩:=Qj e1
  exact (s67_eq J0 g77 a0 h k).mpr e2
def s51G (J:Qg) (c30:AV→AV→H→(H→Prop)→Prop) (c66:AV→H→(AV→H→Prop)→Prop) (c67:AV→H→(AV→H→Prop)→Prop) (a0:AV) (h:H) (k:AV→H→Prop):Prop :=
Qw (.cells false 52 [(.nilm),(.nilm)]) h fun n1 h2=>
Qv a0 (
faK 0 a0 fun p3=>
faK 0 p3 fun p4=>
ldV p4 h2 fun v5=>
Qv a0 (
faK 0 a0 fun p6=>
faK 1 p6 fun p7=>
ldV p7 h2 fun v8=>
Qw (.cells false 52 [(.nilm),(.nilm)]) h2 fun n9 h10=>
c66 v5 h10 fun v12 h11=>
ck (Zz (Zq p7 h11) v8) (
c67 v8 h11 fun v14 h13=>
ck (Zv v12) (ck (Zv v14) (stN 2 (AV.ptr n9 0) [v12,v14] h13 fun h15=>
Qv a0 (
faK 2 a0 fun p16=>
ldV p16 h15 fun v17=>
Zi v17 fun x18=>
J.lp (α:=AV × AV × AV × AV × AV × Unit) (fun r22 v19 d20 h21=>
asI .i64 v19.2.2.2.2.1 fun x23=>
asI .i64 v19.2.2.2.1 fun x24=>
fB (ltI x23 x24) fun b25=>
br b25 (
ixK 5 v19.2.2.1 v19.2.2.2.2.1 fun p26=>
ldN 5 p26 h21 fun l27=>
Qw (.cells false 75 [(.int .i64 0),(.str ⟨0,0⟩),(.str ⟨0,0⟩),(.int .i64 0),(.nils)]) h21 fun n28 h29=>
stN 5 (AV.ptr n28 0) l27 h29 fun h30=>
ldN 2 v19.2.1 h30 fun l31=>
ldN 5 (AV.ptr n28 0) h30 fun l32=>
c30 (AV.agg l31) (AV.agg l32) h30 fun  h33=>
asI .i64 v19.2.2.2.2.1 fun x34=>
fI (Qc .i64 (Int.add x34 (Int.ofNat 1))) fun x35=>
r22 (v19.1,v19.2.1,v19.2.2.1,v19.2.2.2.1,(AV.int .i64 x35),()) d20 h33) (
ldN 2 v19.2.1 h21 fun l36=>
stN 2 v19.1 l36 h21 fun h37=>
Qr (gam J [(30,w30 c30),(66,w66 c66),(67,w67 c67)]) d20 h37 fun h38=>
ldN 2 v19.1 h38 fun l39=>
k (AV.agg l39) h38)) ((AV.ptr n1 0),(AV.ptr n9 0),v17,(AV.int .i64 (Int.ofNat x18)),(AV.int .i64 (Int.ofNat 0)),()) [] h15))))))
def s51:AV→H→(AV→H→Prop)→Prop:=s51G J0 s30 s66 s67
def w51 (c:AV→H→(AV→H→Prop)→Prop):Fun:=fun xs h k=>arg xs fun a0 xs=>QV xs <| c a0 h fun r0 h=>k r0 h
theorem s51_eq (J:Qg) (c30:AV→AV→H→(H→Prop)→Prop) (c66:AV→H→(AV→H→Prop)→Prop) (c67:AV→H→(AV→H→Prop)→Prop) (a0:AV) (h:H) (k:AV→H→Prop):Zk ty (gam J [(30,w30 c30),(66,w66 c66),(67,w67 c67)]) Tryd.f51 [a0] h k=s51G J c30 c66 c67 a0 h (fun r0 h=>k r0 h):=by kernel_rfl
def g51:Fun:=w51 s51
theorem QaC:Qp Tryd.prog 51 g51:=(Qz QF QG (Qu (J:=J0) (Qb Qcx (Qb g66_ok (Qb g67_ok (Qn Qo))))) Tryd.func51 (fun args w=>by simp)).imp fun xs h k e0=>by
  obtain ⟨a0,xs0,rfl,e1⟩:=Qf e0
  obtain ⟨rfl,e2⟩:=Qj e1
  exact (s51_eq J0 s30 s66 s67 a0 h k).mpr e2
def up51:AV→H→(AV→H→Prop)→Prop:=fun a0 h k=>∃ K:AV→H→Prop,s51 a0 h K∧∀ r0 h',K r0 h'→k r0 h'
theorem up51_ok:Qp Tryd.prog 51 (w51 up51):=QaC.up fun xs h k e0=>by
  obtain ⟨a0,xs0,rfl,e1⟩:=Qf e0
  obtain ⟨rfl,e2⟩:=Qj e1
  obtain ⟨K,q1,q2⟩:=e2
  refine ⟨fun r h'=>∃ r0,r=r0∧K r0 h',?_,?_⟩
  · have hK : (fun r0 h' => ∃ r0', (r0 : AV) = r0' ∧ K r0' h') = K := by funext r0 h'; apply propext; simp
    exact (congrArg (s51 a0 h) hK).mpr q1
  · rintro r h' ⟨r0,rfl,q3⟩;exact q2 _ _ q3
def s44G (J:Qg) (c21:AV→AV→H→(Int→H→Prop)→Prop) (c51:AV→H→(AV→H→Prop)→Prop) (a0:AV) (a1:Str) (h:H) (k:Int→Int→H→Prop):Prop :=
Qw (.cells false 9 [(AV.str a1)]) h fun n1 h2=>
c21 a0 (AV.slice n1 0 1 1 1 true) h2 fun x4 h3=>
fB (Bool.not (eqI x4 (Int.ofNat 0))) fun b5=>
br b5 (
k (Int.ofNat 0) x4 h3) (
c51 a0 h3 fun v7 h6=>
Go.Am.asAgg v7 fun l8=>
op' (Q3 l8 1) fun v9=>
op' (QW ty 9 3 true v9 (AV.str a1) h6) fun v10=>
asTup v10 fun l11=>
op' (Q3 l11 0) fun v12=>
asI .i64 v12 fun x13=>
asTup v10 fun l14=>
op' (Q3 l14 1) fun v15=>
asB v15 fun b16=>
fB (Bool.not b16) fun b17=>
br b17 (
k (Int.ofNat 0) (Int.ofNat 4) h6) (
k x13 (Int.ofNat 0) h6))
def s44:AV→Str→H→(Int→Int→H→Prop)→Prop:=s44G J0 s21 s51
def w44 (c:AV→Str→H→(Int→Int→H→Prop)→Prop):Fun:=fun xs h k=>arg xs fun a0 xs=>arg xs fun a1 xs=>QV xs <| asS a1 fun a1=>c a0 a1 h fun r0 r1 h=>k (.tuple [(.int .i64 r0),(.int .i64 r1)]) h
theorem s44_eq (J:Qg) (c21:AV→AV→H→(Int→H→Prop)→Prop) (c51:AV→H→(AV→H→Prop)→Prop) (a0:AV) (a1:Str) (h:H) (k:AV→H→Prop):Zk ty (gam J [(21,w21 c21),(51,w51 c51)]) Tryd.f44 [a0,(.str a1)] h k=s44G J c21 c51 a0 a1 h (fun r0 r1 h=>k (.tuple [(.int .i64 r0),(.int .i64 r1)]) h):=by kernel_rfl
def g44:Fun:=w44 s44
theorem QaE:Qp Tryd.prog 44 g44:=(Qz QF QG (Qu (J:=J0) (Qb NG (Qb QaC (Qn Qo)))) Tryd.func44 (fun args w=>by simp)).imp fun xs h k e0=>by
  obtain ⟨a0,xs0,rfl,e1⟩:=Qf e0
  obtain ⟨a1,xs1,rfl,e2⟩:=Qf e1
  obtain ⟨rfl,e3⟩:=Qj e2
  obtain ⟨a1,rfl,e4⟩:=ZE.1 e3
  exact (s44_eq J0 s21 s51 a0 a1 h k).mpr e4
def s32G (J:Qg) (c44:AV→Str→H→(Int→Int→H→Prop)→Prop) (c48:AV→H→(AV→H→Prop)→Prop) (c51:AV→H→(AV→H→Prop)→Prop) (a0:AV) (a1:Str) (h:H) (k:AV→Int→H→Prop):Prop :=
c44 a0 a1 h fun x2 x3 h1=>
fB (Bool.not (eqI x3 (Int.ofNat 0))) fun b4=>
br b4 (
k AV.nils x3 h1) (
c51 a0 h1 fun v6 h5=>
Go.Am.asAgg v6 fun l7=>
op' (Q3 l7 0) fun v8=>
op' (QW ty 3 64 false v8 (AV.int .i64 x2) h5) fun v9=>
c48 v9 h5 fun v11 h10=>
k v11 (Int.ofNat 0) h10)
def s32:AV→Str→H→(AV→Int→H→Prop)→Prop:=s32G J0 s44 s48 s51
def w32 (c:AV→Str→H→(AV→Int→H→Prop)→Prop):Fun:=fun xs h k=>arg xs fun a0 xs=>arg xs fun a1 xs=>QV xs <| asS a1 fun a1=>c a0 a1 h fun r0 r1 h=>k (.tuple [r0,(.int .i64 r1)]) h
theorem s32_eq (J:Qg) (c44:AV→Str→H→(Int→Int→H→Prop)→Prop) (c48:AV→H→(AV→H→Prop)→Prop) (c51:AV→H→(AV→H→Prop)→Prop) (a0:AV) (a1:Str) (h:H) (k:AV→H→Prop):Zk ty (gam J [(44,w44 c44),(48,w48 c48),(51,w51 c51)]) Tryd.f32 [a0,(.str a1)] h k=s32G J c44 c48 c51 a0 a1 h (fun r0 r1 h=>k (.tuple [r0,(.int .i64 r1)]) h):=by kernel_rfl
def g32:Fun:=w32 s32
theorem NF:Qp Tryd.prog 32 g32:=(Qz QF QG (Qu (J:=J0) (Qb QaE (Qb QaD (Qb QaC (Qn Qo))))) Tryd.func32 (fun args w=>by simp)).imp fun xs h k e0=>by
  obtain ⟨a0,xs0,rfl,e1⟩:=Qf e0
  obtain ⟨a1,xs1,rfl,e2⟩:=Qf e1
  obtain ⟨rfl,e3⟩:=Qj e2
  obtain ⟨a1,rfl,e4⟩:=ZE.1 e3
  exact (s32_eq J0 s44 s48 s51 a0 a1 h k).mpr e4
def QeC (J:Qg) (c32:AV→Str→H→(AV→Int→H→Prop)→Prop) (a0:AV) (h:H) (k:Int→H→Prop):Prop :=
c32 a0 ⟨3,6385273⟩ h fun v2 x3 h1=>
fB (eqI x3 (Int.ofNat 1)) fun b4=>
J.jn (fun v5 h6=>
J.jn (fun v8 h9=>
QY (AV.bool b4) (AV.bool true) v8 fun b13=>
br b13 (
k x3 h9) (
k (Int.ofNat 0) h9)) fun j10=>
br b4 (
j10 Qa h6) (
asI .i64 v5 fun x11=>
fB (eqI x11 (Int.ofNat 7)) fun b12=>
j10 (AV.bool b12) h6)) fun j7=>
br b4 (
j7 Qa h1) (
j7 (AV.int .i64 x3) h1)
def s17:AV→H→(Int→H→Prop)→Prop:=QeC J0 s32
def w17 (c:AV→H→(Int→H→Prop)→Prop):Fun:=fun xs h k=>arg xs fun a0 xs=>QV xs <| c a0 h fun r0 h=>k (.int .i64 r0) h
theorem s17_eq (J:Qg) (c32:AV→Str→H→(AV→Int→H→Prop)→Prop) (a0:AV) (h:H) (k:AV→H→Prop):Zk ty (gam J [(32,w32 c32)]) Tryd.f17 [a0] h k=QeC J c32 a0 h (fun r0 h=>k (.int .i64 r0) h):=by kernel_rfl
def g17:Fun:=w17 s17
theorem Qcz:Qp Tryd.prog 17 g17:=(Qz QF QG (Qu (J:=J0) (Qb NF (Qn Qo))) Tryd.func17 (fun args w=>by simp)).imp fun xs h k e0=>by
  obtain ⟨a0,xs0,rfl,e1⟩:=Qf e0
  obtain ⟨rfl,e2⟩:=Qj e1
  exact (s17_eq J0 s32 a0 h k).mpr e2
def Qcj (J:Qg) (a0:Int) (h:H) (k:Str→H→Prop):Prop :=
fB (ltI a0 (Int.ofNat 10)) fun b1=>
br b1 (
fI (Qc .i64 (Int.add a0 (Int.ofNat 1))) fun x2=>
Qba (AV.str ⟨36,93621433862240650313326231306435056417042768930449266319129758623240466503934737414522⟩) (some (AV.int .i64 a0)) (some (AV.int .i64 x2)) fun s3=>
k s3 h) (
fI (Qc .i64 (Int.mul a0 (Int.ofNat 2))) fun x4=>
fI (Qc .i64 (Int.mul a0 (Int.ofNat 2))) fun x5=>
fI (Qc .i64 (Int.add x5 (Int.ofNat 2))) fun x6=>
Qba (AV.str ⟨200,8369396053099643259884660439900312228746471110943504458504829912206407100469475510520505676855750014530596077689858408204562721349408824591789441711103775826291439126061900675989976254244761425382494394669896706626295868329681710377411642562040512013377776180902291979747008038411282346274188424097310996521951660972735479027990947060043115083917949168200323041593656569302669535377774123378085539195783572932112166539323561441937920580889744256865042652178519653545620815178381625⟩) (some (AV.int .i64 x4)) (some (AV.int .i64 x6)) fun s7=>
k s7 h)
def s79:Int→H→(Str→H→Prop)→Prop:=Qcj J0
def w79 (c:Int→H→(Str→H→Prop)→Prop):Fun:=fun xs h k=>arg xs fun a0 xs=>QV xs <| asI .i64 a0 fun a0=>c a0 h fun r0 h=>k (.str r0) h
theorem s79_eq (J:Qg) (a0:Int) (h:H) (k:AV→H→Prop):Zk ty (gam J []) Tryd.f79 [(.int .i64 a0)] h k=Qcj J  a0 h (fun r0 h=>k (.str r0) h):=by kernel_rfl
def g79:Fun:=w79 s79
theorem g79_ok:Qp Tryd.prog 79 g79:=(Qz QF QG (Qu (J:=J0) (Qn Qo)) Tryd.func79 (fun args w=>by simp)).imp fun xs h k e0=>by
  obtain ⟨a0,xs0,rfl,e1⟩:=Qf e0
  obtain ⟨rfl,e2⟩:=Qj e1
  obtain ⟨a0,rfl,e3⟩:=QI.1 e2
  exact (s79_eq J0  a0 h k).mpr e3
def s85G (J:Qg) (a0:Int) (h:H) (k:Int→H→Prop):Prop :=
fI (Qc .i64 (Int.mul a0 (Int.ofNat 78913))) fun x1=>
fI (Uo x1 (Vl 18 (IntKind.bits .i64))) fun x2=>
k x2 h
def s85:Int→H→(Int→H→Prop)→Prop:=s85G J0
def w85 (c:Int→H→(Int→H→Prop)→Prop):Fun:=fun xs h k=>arg xs fun a0 xs=>QV xs <| asI .i64 a0 fun a0=>c a0 h fun r0 h=>k (.int .i64 r0) h
theorem s85_eq (J:Qg) (a0:Int) (h:H) (k:AV→H→Prop):Zk ty (gam J []) Tryd.f85 [(.int .i64 a0)] h k=s85G J  a0 h (fun r0 h=>k (.int .i64 r0) h):=by kernel_rfl
def g85:Fun:=w85 s85
theorem g85_ok:Qp Tryd.prog 85 g85:=(Qz QF QG (Qu (J:=J0) (Qn Qo)) Tryd.func85 (fun args w=>by simp)).imp fun xs h k e0=>by
  obtain ⟨a0,xs0,rfl,e1⟩:=Qf e0
  obtain ⟨rfl,e2⟩:=Qj e1
  obtain ⟨a0,rfl,e3⟩:=QI.1 e2
  exact (s85_eq J0  a0 h k).mpr e3
def s86G (J:Qg) (a0:Int) (h:H) (k:Int→H→Prop):Prop :=
J.jd (α:=AV × AV × Unit) (fun v1 d2 h3=>
J.jd (α:=AV × AV × Unit) (fun v5 d6 h7=>
J.jd (α:=AV × AV × Unit) (fun v9 d10 h11=>
asI .u64 v9.1 fun x13=>
fI (Qc .u8 x13) fun x14=>
W4 (AV.str ⟨256,496986003408712215933005303621146343841837811690876167382323004466384420695090407243345123874780946046625255262057845613767806773758184921447759720770971536008171983842311960805720366577116933250839345203839274948261284255908394484732272583221484877694546905335834403051067785895034095251181560891789708940188598129052595634438001880866652824740680664595948164050600812232986714152902334120417949232733424961741260388658846598210939813666227264727603044226856020347194099943897342244906131705541414413428559898943151040826816076322978570758226444464494629814583418847495712557856038296917933182380796641777551368⟩) (AV.int .u8 x14) fun x15=>
fI (Qc .i64 x15) fun x16=>
asI .i64 v9.2.1 fun x17=>
fI (Qc .i64 (Int.add x17 x16)) fun x18=>
Qr (gam J []) d10 h11 fun h19=>
k x18 h19) fun j12=>
asI .u64 v5.1 fun x20=>
fB (Bool.not (ltI x20 (Int.ofNat 256))) fun b21=>
br b21 (
asI .u64 v5.1 fun x22=>
fI (Uo x22 (Vl 8 (IntKind.bits .u64))) fun x23=>
asI .i64 v5.2.1 fun x24=>
fI (Qc .i64 (Int.add x24 (Int.ofNat 8))) fun x25=>
j12 ((AV.int .u64 x23),(AV.int .i64 x25),()) d6 h7) (
j12 (v5.1,v5.2.1,()) d6 h7)) fun j8=>
asI .u64 v1.1 fun x26=>
fB (Bool.not (ltI x26 (Int.ofNat 65536))) fun b27=>
br b27 (
asI .u64 v1.1 fun x28=>
fI (Uo x28 (Vl 16 (IntKind.bits .u64))) fun x29=>
asI .i64 v1.2.1 fun x30=>
fI (Qc .i64 (Int.add x30 (Int.ofNat 16))) fun x31=>
j8 ((AV.int .u64 x29),(AV.int .i64 x31),()) d2 h3) (
j8 (v1.1,v1.2.1,()) d2 h3)) fun j4=>
fB (Bool.not (ltI a0 (Int.ofNat 4294967296))) fun b32=>
br b32 (
fI (Uo a0 (Vl 32 (IntKind.bits .u64))) fun x33=>
j4 ((AV.int .u64 x33),(AV.int .i64 (Int.ofNat 32)),()) [] h) (
j4 ((AV.int .u64 a0),(AV.int .i64 (Int.ofNat 0)),()) [] h)
def s86:Int→H→(Int→H→Prop)→Prop:=s86G J0
def w86 (c:Int→H→(Int→H→Prop)→Prop):Fun:=fun xs h k=>arg xs fun a0 xs=>QV xs <| asI .u64 a0 fun a0=>c a0 h fun r0 h=>k (.int .i64 r0) h
theorem s86_eq (J:Qg) (a0:Int) (h:H) (k:AV→H→Prop):Zk ty (gam J []) Tryd.f86 [(.int .u64 a0)] h k=s86G J  a0 h (fun r0 h=>k (.int .i64 r0) h):=by kernel_rfl
def g86:Fun:=w86 s86
theorem g86_ok:Qp Tryd.prog 86 g86:=(Qz QF QG (Qu (J:=J0) (Qn Qo)) Tryd.func86 (fun args w=>by simp)).imp fun xs h k e0=>by
  obtain ⟨a0,xs0,rfl,e1⟩:=Qf e0
  obtain ⟨rfl,e2⟩:=Qj e1
  obtain ⟨a0,rfl,e3⟩:=QI.1 e2
  exact (s86_eq J0  a0 h k).mpr e3
def s87G (J:Qg) (a0:Bool) (h:H) (k:Int→H→Prop):Prop :=
br a0 (
k (Int.ofNat 1) h) (
k (Int.ofNat 0) h)
def s87:Bool→H→(Int→H→Prop)→Prop:=s87G J0
def w87 (c:Bool→H→(Int→H→Prop)→Prop):Fun:=fun xs h k=>arg xs fun a0 xs=>QV xs <| asB a0 fun a0=>c a0 h fun r0 h=>k (.int .i64 r0) h
theorem s87_eq (J:Qg) (a0:Bool) (h:H) (k:AV→H→Prop):Zk ty (gam J []) Tryd.f87 [(.bool a0)] h k=s87G J  a0 h (fun r0 h=>k (.int .i64 r0) h):=by kernel_rfl
def g87:Fun:=w87 s87
theorem g87_ok:Qp Tryd.prog 87 g87:=(Qz QF QG (Qu (J:=J0) (Qn Qo)) Tryd.func87 (fun args w=>by simp)).imp fun xs h k e0=>by
  obtain ⟨a0,xs0,rfl,e1⟩:=Qf e0
  obtain ⟨rfl,e2⟩:=Qj e1
  obtain ⟨a0,rfl,e3⟩:=ZQ.1 e2
  exact (s87_eq J0  a0 h k).mpr e3
def s80G (J:Qg) (c85:Int→H→(Int→H→Prop)→Prop) (c86:Int→H→(Int→H→Prop)→Prop) (c87:Bool→H→(Int→H→Prop)→Prop) (a0:Int) (h:H) (k:Int→H→Prop):Prop :=
c86 a0 h fun x2 h1=>
c85 x2 h1 fun x4 h3=>
Qd9 20 1 (AV.glob 0 0) (AV.int .i64 x4) fun p5=>
ldI .u64 p5 h3 fun x6=>
fB (Bool.not (ltI a0 x6)) fun b7=>
c87 b7 h3 fun x9 h8=>
fI (Qc .i64 (Int.add x4 x9)) fun x10=>
k x10 h8
def s80:Int→H→(Int→H→Prop)→Prop:=s80G J0 s85 s86 s87
def w80 (c:Int→H→(Int→H→Prop)→Prop):Fun:=fun xs h k=>arg xs fun a0 xs=>QV xs <| asI .u64 a0 fun a0=>c a0 h fun r0 h=>k (.int .i64 r0) h
theorem s80_eq (J:Qg) (c85:Int→H→(Int→H→Prop)→Prop) (c86:Int→H→(Int→H→Prop)→Prop) (c87:Bool→H→(Int→H→Prop)→Prop) (a0:Int) (h:H) (k:AV→H→Prop):Zk ty (gam J [(85,w85 c85),(86,w86 c86),(87,w87 c87)]) Tryd.f80 [(.int .u64 a0)] h k=s80G J c85 c86 c87 a0 h (fun r0 h=>k (.int .i64 r0) h):=by kernel_rfl
def g80:Fun:=w80 s80
theorem g80_ok:Qp Tryd.prog 80 g80:=(Qz QF QG (Qu (J:=J0) (Qb g85_ok (Qb g86_ok (Qb g87_ok (Qn Qo))))) Tryd.func80 (fun args w=>by simp)).imp fun xs h k e0=>by
  obtain ⟨a0,xs0,rfl,e1⟩:=Qf e0
  obtain ⟨rfl,e2⟩:=Qj e1
  obtain ⟨a0,rfl,e3⟩:=QI.1 e2
  exact (s80_eq J0 s85 s86 s87 a0 h k).mpr e3
def s81G (J:Qg) (a0:AV) (a1:Int) (h:H) (k:H→Prop):Prop :=
Zi a0 fun x1=>
J.lp (α:=AV × AV × AV × Unit) (fun r5 v2 d3 h4=>
asI .i64 v2.2.2.1 fun x6=>
fB (Bool.not (ltI x6 (Int.ofNat 8))) fun b7=>
br b7 (
asI .u64 v2.2.1 fun x8=>
ck (Bool.not (eqI (Int.ofNat 100000000) 0)) (fI (Int.tmod x8 (Int.ofNat 100000000)) fun x9=>
fI (Qc .u32 x9) fun x10=>
asI .u64 v2.2.1 fun x11=>
ck (Bool.not (eqI (Int.ofNat 100000000) 0)) (fI (Qc .u64 (Int.tdiv x11 (Int.ofNat 100000000))) fun x12=>
ck (Bool.not (eqI (Int.ofNat 10000) 0)) (fI (Qc .u32 (Int.tdiv x10 (Int.ofNat 10000))) fun x13=>
ck (Bool.not (eqI (Int.ofNat 10000) 0)) (fI (Int.tmod x10 (Int.ofNat 10000)) fun x14=>
ck (Bool.not (eqI (Int.ofNat 100) 0)) (fI (Qc .u32 (Int.tdiv x14 (Int.ofNat 100))) fun x15=>
fI (Qc .u32 (Int.mul x15 (Int.ofNat 2))) fun x16=>
ck (Bool.not (eqI (Int.ofNat 100) 0)) (fI (Int.tmod x14 (Int.ofNat 100)) fun x17=>
fI (Qc .u32 (Int.mul x17 (Int.ofNat 2))) fun x18=>
ck (Bool.not (eqI (Int.ofNat 100) 0)) (fI (Qc .u32 (Int.tdiv x13 (Int.ofNat 100))) fun x19=>
fI (Qc .u32 (Int.mul x19 (Int.ofNat 2))) fun x20=>
ck (Bool.not (eqI (Int.ofNat 100) 0)) (fI (Int.tmod x13 (Int.ofNat 100)) fun x21=>
fI (Qc .u32 (Int.mul x21 (Int.ofNat 2))) fun x22=>
asI .i64 v2.2.2.1 fun x23=>
fI (Qc .i64 (Int.sub x23 (Int.ofNat 1))) fun x24=>
asI .i64 v2.2.2.1 fun x25=>
fI (Qc .i64 (Int.sub x25 (Int.ofNat 2))) fun x26=>
fI (Qc .u32 (Int.add x18 (Int.ofNat 1))) fun x27=>
W4 (AV.str ⟨200,8369396053099643259884660439900312228746471110943504458504829912206407100469475510520505676855750014530596077689858408204562721349408824591789441711103775826291439126061900675989976254244761425382494394669896706626295868329681710377411642562040512013377776180902291979747008038411282346274188424097310996521951660972735479027990947060043115083917949168200323041593656569302669535377774123378085539195783572932112166539323561441937920580889744256865042652178519653545620815178381625⟩) (AV.int .u32 x27) fun x28=>
W4 (AV.str ⟨200,8369396053099643259884660439900312228746471110943504458504829912206407100469475510520505676855750014530596077689858408204562721349408824591789441711103775826291439126061900675989976254244761425382494394669896706626295868329681710377411642562040512013377776180902291979747008038411282346274188424097310996521951660972735479027990947060043115083917949168200323041593656569302669535377774123378085539195783572932112166539323561441937920580889744256865042652178519653545620815178381625⟩) (AV.int .u32 x18) fun x29=>
ixK 1 v2.1 (AV.int .i64 x24) fun p30=>
stV p30 (AV.int .u8 x28) h4 fun h31=>
ixK 1 v2.1 (AV.int .i64 x26) fun p32=>
stV p32 (AV.int .u8 x29) h31 fun h33=>
asI .i64 v2.2.2.1 fun x34=>
fI (Qc .i64 (Int.sub x34 (Int.ofNat 3))) fun x35=>
asI .i64 v2.2.2.1 fun x36=>
fI (Qc .i64 (Int.sub x36 (Int.ofNat 4))) fun x37=>
fI (Qc .u32 (Int.add x16 (Int.ofNat 1))) fun x38=>
W4 (AV.str ⟨200,8369396053099643259884660439900312228746471110943504458504829912206407100469475510520505676855750014530596077689858408204562721349408824591789441711103775826291439126061900675989976254244761425382494394669896706626295868329681710377411642562040512013377776180902291979747008038411282346274188424097310996521951660972735479027990947060043115083917949168200323041593656569302669535377774123378085539195783572932112166539323561441937920580889744256865042652178519653545620815178381625⟩) (AV.int .u32 x38) fun x39=>
W4 (AV.str ⟨200,8369396053099643259884660439900312228746471110943504458504829912206407100469475510520505676855750014530596077689858408204562721349408824591789441711103775826291439126061900675989976254244761425382494394669896706626295868329681710377411642562040512013377776180902291979747008038411282346274188424097310996521951660972735479027990947060043115083917949168200323041593656569302669535377774123378085539195783572932112166539323561441937920580889744256865042652178519653545620815178381625⟩) (AV.int .u32 x16) fun x40=>
ixK 1 v2.1 (AV.int .i64 x35) fun p41=>
stV p41 (AV.int .u8 x39) h33 fun h42=>
ixK 1 v2.1 (AV.int .i64 x37) fun p43=>
stV p43 (AV.int .u8 x40) h42 fun h44=>
asI .i64 v2.2.2.1 fun x45=>
fI (Qc .i64 (Int.sub x45 (Int.ofNat 5))) fun x46=>
asI .i64 v2.2.2.1 fun x47=>
fI (Qc .i64 (Int.sub x47 (Int.ofNat 6))) fun x48=>
fI (Qc .u32 (Int.add x22 (Int.ofNat 1))) fun x49=>
W4 (AV.str ⟨200,8369396053099643259884660439900312228746471110943504458504829912206407100469475510520505676855750014530596077689858408204562721349408824591789441711103775826291439126061900675989976254244761425382494394669896706626295868329681710377411642562040512013377776180902291979747008038411282346274188424097310996521951660972735479027990947060043115083917949168200323041593656569302669535377774123378085539195783572932112166539323561441937920580889744256865042652178519653545620815178381625⟩) (AV.int .u32 x49) fun x50=>
W4 (AV.str ⟨200,8369396053099643259884660439900312228746471110943504458504829912206407100469475510520505676855750014530596077689858408204562721349408824591789441711103775826291439126061900675989976254244761425382494394669896706626295868329681710377411642562040512013377776180902291979747008038411282346274188424097310996521951660972735479027990947060043115083917949168200323041593656569302669535377774123378085539195783572932112166539323561441937920580889744256865042652178519653545620815178381625⟩) (AV.int .u32 x22) fun x51=>
ixK 1 v2.1 (AV.int .i64 x46) fun p52=>
stV p52 (AV.int .u8 x50) h44 fun h53=>
ixK 1 v2.1 (AV.int .i64 x48) fun p54=>
stV p54 (AV.int .u8 x51) h53 fun h55=>
asI .i64 v2.2.2.1 fun x56=>
fI (Qc .i64 (Int.sub x56 (Int.ofNat 7))) fun x57=>
asI .i64 v2.2.2.1 fun x58=>
fI (Qc .i64 (Int.sub x58 (Int.ofNat 8))) fun x59=>
fI (Qc .u32 (Int.add x20 (Int.ofNat 1))) fun x60=>
W4 (AV.str ⟨200,8369396053099643259884660439900312228746471110943504458504829912206407100469475510520505676855750014530596077689858408204562721349408824591789441711103775826291439126061900675989976254244761425382494394669896706626295868329681710377411642562040512013377776180902291979747008038411282346274188424097310996521951660972735479027990947060043115083917949168200323041593656569302669535377774123378085539195783572932112166539323561441937920580889744256865042652178519653545620815178381625⟩) (AV.int .u32 x60) fun x61=>
W4 (AV.str ⟨200,8369396053099643259884660439900312228746471110943504458504829912206407100469475510520505676855750014530596077689858408204562721349408824591789441711103775826291439126061900675989976254244761425382494394669896706626295868329681710377411642562040512013377776180902291979747008038411282346274188424097310996521951660972735479027990947060043115083917949168200323041593656569302669535377774123378085539195783572932112166539323561441937920580889744256865042652178519653545620815178381625⟩) (AV.int .u32 x20) fun x62=>
ixK 1 v2.1 (AV.int .i64 x57) fun p63=>
stV p63 (AV.int .u8 x61) h55 fun h64=>
ixK 1 v2.1 (AV.int .i64 x59) fun p65=>
stV p65 (AV.int .u8 x62) h64 fun h66=>
asI .i64 v2.2.2.1 fun x67=>
fI (Qc .i64 (Int.sub x67 (Int.ofNat 8))) fun x68=>
r5 (v2.1,(AV.int .u64 x12),(AV.int .i64 x68),()) d3 h66))))))))) (
asI .u64 v2.2.1 fun x69=>
fI (Qc .u32 x69) fun x70=>
J.jd (α:=AV × AV × AV × Unit) (fun v71 d72 h73=>
J.jd (α:=AV × AV × AV × Unit) (fun v75 d76 h77=>
asI .i64 v75.2.1 fun x79=>
fB (ltI (Int.ofNat 0) x79) fun b80=>
br b80 (
asI .u32 v75.2.2.1 fun x81=>
fI (Qc .u32 (Int.add (Int.ofNat 48) x81)) fun x82=>
fI (Qc .u8 x82) fun x83=>
ixK 1 v75.1 (AV.int .i64 (Int.ofNat 0)) fun p84=>
stV p84 (AV.int .u8 x83) h77 fun h85=>
Qr (gam J []) d76 h85 fun h86=>
k  h86) (
Qr (gam J []) d76 h77 fun h87=>
k  h87)) fun j78=>
asI .i64 v71.2.1 fun x88=>
fB (Bool.not (ltI x88 (Int.ofNat 2))) fun b89=>
br b89 (
asI .u32 v71.2.2.1 fun x90=>
ck (Bool.not (eqI (Int.ofNat 100) 0)) (fI (Int.tmod x90 (Int.ofNat 100)) fun x91=>
fI (Qc .u32 (Int.mul x91 (Int.ofNat 2))) fun x92=>
asI .u32 v71.2.2.1 fun x93=>
ck (Bool.not (eqI (Int.ofNat 100) 0)) (fI (Qc .u32 (Int.tdiv x93 (Int.ofNat 100))) fun x94=>
asI .i64 v71.2.1 fun x95=>
fI (Qc .i64 (Int.sub x95 (Int.ofNat 1))) fun x96=>
asI .i64 v71.2.1 fun x97=>
fI (Qc .i64 (Int.sub x97 (Int.ofNat 2))) fun x98=>
fI (Qc .u32 (Int.add x92 (Int.ofNat 1))) fun x99=>
W4 (AV.str ⟨200,8369396053099643259884660439900312228746471110943504458504829912206407100469475510520505676855750014530596077689858408204562721349408824591789441711103775826291439126061900675989976254244761425382494394669896706626295868329681710377411642562040512013377776180902291979747008038411282346274188424097310996521951660972735479027990947060043115083917949168200323041593656569302669535377774123378085539195783572932112166539323561441937920580889744256865042652178519653545620815178381625⟩) (AV.int .u32 x99) fun x100=>
W4 (AV.str ⟨200,8369396053099643259884660439900312228746471110943504458504829912206407100469475510520505676855750014530596077689858408204562721349408824591789441711103775826291439126061900675989976254244761425382494394669896706626295868329681710377411642562040512013377776180902291979747008038411282346274188424097310996521951660972735479027990947060043115083917949168200323041593656569302669535377774123378085539195783572932112166539323561441937920580889744256865042652178519653545620815178381625⟩) (AV.int .u32 x92) fun x101=>
ixK 1 v71.1 (AV.int .i64 x96) fun p102=>
stV p102 (AV.int .u8 x100) h73 fun h103=>
ixK 1 v71.1 (AV.int .i64 x98) fun p104=>
stV p104 (AV.int .u8 x101) h103 fun h105=>
asI .i64 v71.2.1 fun x106=>
fI (Qc .i64 (Int.sub x106 (Int.ofNat 2))) fun x107=>
j78 (v71.1,(AV.int .i64 x107),(AV.int .u32 x94),()) d72 h105))) (
j78 (v71.1,v71.2.1,v71.2.2.1,()) d72 h73)) fun j74=>
asI .i64 v2.2.2.1 fun x108=>
fB (Bool.not (ltI x108 (Int.ofNat 4))) fun b109=>
br b109 (
ck (Bool.not (eqI (Int.ofNat 10000) 0)) (fI (Int.tmod x70 (Int.ofNat 10000)) fun x110=>
ck (Bool.not (eqI (Int.ofNat 10000) 0)) (fI (Qc .u32 (Int.tdiv x70 (Int.ofNat 10000))) fun x111=>
ck (Bool.not (eqI (Int.ofNat 100) 0)) (fI (Qc .u32 (Int.tdiv x110 (Int.ofNat 100))) fun x112=>
fI (Qc .u32 (Int.mul x112 (Int.ofNat 2))) fun x113=>
ck (Bool.not (eqI (Int.ofNat 100) 0)) (fI (Int.tmod x110 (Int.ofNat 100)) fun x114=>
fI (Qc .u32 (Int.mul x114 (Int.ofNat 2))) fun x115=>
asI .i64 v2.2.2.1 fun x116=>
fI (Qc .i64 (Int.sub x116 (Int.ofNat 1))) fun x117=>
asI .i64 v2.2.2.1 fun x118=>
fI (Qc .i64 (Int.sub x118 (Int.ofNat 2))) fun x119=>
fI (Qc .u32 (Int.add x115 (Int.ofNat 1))) fun x120=>
W4 (AV.str ⟨200,8369396053099643259884660439900312228746471110943504458504829912206407100469475510520505676855750014530596077689858408204562721349408824591789441711103775826291439126061900675989976254244761425382494394669896706626295868329681710377411642562040512013377776180902291979747008038411282346274188424097310996521951660972735479027990947060043115083917949168200323041593656569302669535377774123378085539195783572932112166539323561441937920580889744256865042652178519653545620815178381625⟩) (AV.int .u32 x120) fun x121=>
W4 (AV.str ⟨200,8369396053099643259884660439900312228746471110943504458504829912206407100469475510520505676855750014530596077689858408204562721349408824591789441711103775826291439126061900675989976254244761425382494394669896706626295868329681710377411642562040512013377776180902291979747008038411282346274188424097310996521951660972735479027990947060043115083917949168200323041593656569302669535377774123378085539195783572932112166539323561441937920580889744256865042652178519653545620815178381625⟩) (AV.int .u32 x115) fun x122=>
ixK 1 v2.1 (AV.int .i64 x117) fun p123=>
stV p123 (AV.int .u8 x121) h4 fun h124=>
ixK 1 v2.1 (AV.int .i64 x119) fun p125=>
stV p125 (AV.int .u8 x122) h124 fun h126=>
asI .i64 v2.2.2.1 fun x127=>
fI (Qc .i64 (Int.sub x127 (Int.ofNat 3))) fun x128=>
asI .i64 v2.2.2.1 fun x129=>
fI (Qc .i64 (Int.sub x129 (Int.ofNat 4))) fun x130=>
fI (Qc .u32 (Int.add x113 (Int.ofNat 1))) fun x131=>
W4 (AV.str ⟨200,8369396053099643259884660439900312228746471110943504458504829912206407100469475510520505676855750014530596077689858408204562721349408824591789441711103775826291439126061900675989976254244761425382494394669896706626295868329681710377411642562040512013377776180902291979747008038411282346274188424097310996521951660972735479027990947060043115083917949168200323041593656569302669535377774123378085539195783572932112166539323561441937920580889744256865042652178519653545620815178381625⟩) (AV.int .u32 x131) fun x132=>
W4 (AV.str ⟨200,8369396053099643259884660439900312228746471110943504458504829912206407100469475510520505676855750014530596077689858408204562721349408824591789441711103775826291439126061900675989976254244761425382494394669896706626295868329681710377411642562040512013377776180902291979747008038411282346274188424097310996521951660972735479027990947060043115083917949168200323041593656569302669535377774123378085539195783572932112166539323561441937920580889744256865042652178519653545620815178381625⟩) (AV.int .u32 x113) fun x133=>
ixK 1 v2.1 (AV.int .i64 x128) fun p134=>
stV p134 (AV.int .u8 x132) h126 fun h135=>
ixK 1 v2.1 (AV.int .i64 x130) fun p136=>
stV p136 (AV.int .u8 x133) h135 fun h137=>
asI .i64 v2.2.2.1 fun x138=>
fI (Qc .i64 (Int.sub x138 (Int.ofNat 4))) fun x139=>
j74 (v2.1,(AV.int .i64 x139),(AV.int .u32 x111),()) d3 h137))))) (
j74 (v2.1,v2.2.2.1,(AV.int .u32 x70),()) d3 h4))) (a0,(AV.int .u64 a1),(AV.int .i64 (Int.ofNat x1)),()) [] h
def s81:AV→Int→H→(H→Prop)→Prop:=s81G J0
def w81 (c:AV→Int→H→(H→Prop)→Prop):Fun:=fun xs h k=>arg xs fun a0 xs=>arg xs fun a1 xs=>QV xs <| asI .u64 a1 fun a1=>c a0 a1 h fun  h=>k (.tuple []) h
theorem s81_eq (J:Qg) (a0:AV) (a1:Int) (h:H) (k:AV→H→Prop):Zk ty (gam J []) Tryd.f81 [a0,(.int .u64 a1)] h k=s81G J  a0 a1 h (fun  h=>k (.tuple []) h):=by kernel_rfl
def g81:Fun:=w81 s81
theorem g81_ok:Qp Tryd.prog 81 g81:=(Qz QF QG (Qu (J:=J0) (Qn Qo)) Tryd.func81 (fun args w=>by simp)).imp fun xs h k e0=>by
  obtain ⟨a0,xs0,rfl,e1⟩:=Qf e0
  obtain ⟨a1,xs1,rfl,e2⟩:=Qf e1
  obtain ⟨rfl,e3⟩:=Qj e2
  obtain ⟨a1,rfl,e4⟩:=QI.1 e3
  exact (s81_eq J0  a0 a1 h k).mpr e4
def Qd4 (J:Qg) (c79:Int→H→(Str→H→Prop)→Prop) (c80:Int→H→(Int→H→Prop)→Prop) (c81:AV→Int→H→(H→Prop)→Prop) (a0:Int) (a1:Int) (h:H) (k:Str→H→Prop):Prop :=
fB (eqI a1 (Int.ofNat 10)) fun b1=>
br b1 (
fB (Bool.not (ltI a0 (Int.ofNat 0))) fun b2=>
J.jn (fun v3 h4=>
J.jn (fun v6 h7=>
QY (AV.bool b2) v6 (AV.bool false) fun b11=>
br b11 (
c79 a0 h7 fun s13 h12=>
k s13 h12) (
Qw (.cells false 143 [(.int .u8 0),(.int .u8 0),(.int .u8 0),(.int .u8 0),(.int .u8 0),(.int .u8 0),(.int .u8 0),(.int .u8 0),(.int .u8 0),(.int .u8 0),(.int .u8 0),(.int .u8 0),(.int .u8 0),(.int .u8 0),(.int .u8 0),(.int .u8 0),(.int .u8 0),(.int .u8 0),(.int .u8 0),(.int .u8 0),(.int .u8 0),(.int .u8 0),(.int .u8 0),(.int .u8 0)]) h7 fun n14 h15=>
fI (Qc .u64 a0) fun x16=>
J.jd (α:=AV × AV × AV × Unit) (fun v17 d18 h19=>
asI .u64 v17.2.2.1 fun x22=>
c80 x22 h19 fun x23 h21=>
fI (Qc .i64 (Int.add (Int.ofNat 1) x23)) fun x24=>
op2 (Vb 24 v17.2.1 (some (AV.int .i64 (Int.ofNat 1))) (some (AV.int .i64 x24)) h21) fun v25 h26=>
asI .u64 v17.2.2.1 fun x28=>
c81 v25 x28 h26 fun  h27=>
asI .i64 v17.1 fun x29=>
fB (ltI x29 (Int.ofNat 0)) fun b30=>
br b30 (
Qd9 24 1 v17.2.1 (AV.int .i64 (Int.ofNat 0)) fun p31=>
stV p31 (AV.int .u8 (Int.ofNat 45)) h27 fun h32=>
fI (Qc .i64 (Int.add (Int.ofNat 1) x23)) fun x33=>
op2 (Vb 24 v17.2.1 none (some (AV.int .i64 x33)) h32) fun v34 h35=>
Y0 v34 h35 fun s36=>
Qr (gam J [(79,w79 c79),(80,w80 c80),(81,w81 c81)]) d18 h35 fun h37=>
k s36 h37) (
fI (Qc .i64 (Int.add (Int.ofNat 1) x23)) fun x38=>
op2 (Vb 24 v17.2.1 (some (AV.int .i64 (Int.ofNat 1))) (some (AV.int .i64 x38)) h27) fun v39 h40=>
Y0 v39 h40 fun s41=>
Qr (gam J [(79,w79 c79),(80,w80 c80),(81,w81 c81)]) d18 h40 fun h42=>
k s41 h42)) fun j20=>
fB (ltI a0 (Int.ofNat 0)) fun b43=>
br b43 (
op' (aUn .neg (AV.int .u64 x16)) fun v44=>
asI .u64 v44 fun x45=>
j20 ((AV.int .i64 a0),(AV.ptr n14 0),(AV.int .u64 x45),()) [] h15) (
j20 ((AV.int .i64 a0),(AV.ptr n14 0),(AV.int .u64 x16),()) [] h15))) fun j8=>
br b2 (
asI .i64 v3 fun x9=>
fB (ltI x9 (Int.ofNat 100)) fun b10=>
j8 (AV.bool b10) h4) (
j8 Qa h4)) fun j5=>
br b2 (
j5 (AV.int .i64 a0) h) (
j5 Qa h)) (
fI (Qc .u64 a0) fun x46=>
fB (ltI a0 (Int.ofNat 0)) fun b47=>
False)
def s71:Int→Int→H→(Str→H→Prop)→Prop:=Qd4 J0 s79 s80 s81
def w71 (c:Int→Int→H→(Str→H→Prop)→Prop):Fun:=fun xs h k=>arg xs fun a0 xs=>arg xs fun a1 xs=>QV xs <| asI .i64 a0 fun a0=>asI .i64 a1 fun a1=>c a0 a1 h fun r0 h=>k (.str r0) h
theorem s71_eq (J:Qg) (c79:Int→H→(Str→H→Prop)→Prop) (c80:Int→H→(Int→H→Prop)→Prop) (c81:AV→Int→H→(H→Prop)→Prop) (a0:Int) (a1:Int) (h:H) (k:AV→H→Prop):Zk ty (gam J [(79,w79 c79),(80,w80 c80),(81,w81 c81)]) Tryd.f71 [(.int .i64 a0),(.int .i64 a1)] h k=Qd4 J c79 c80 c81 a0 a1 h (fun r0 h=>k (.str r0) h):=by kernel_rfl
def g71:Fun:=w71 s71
theorem g71_ok:Qp Tryd.prog 71 g71:=(Qz QF QG (Qu (J:=J0) (Qb g79_ok (Qb g80_ok (Qb g81_ok (Qn Qo))))) Tryd.func71 (fun args w=>by simp)).imp fun xs h k e0=>by
  obtain ⟨a0,xs0,rfl,e1⟩:=Qf e0
  obtain ⟨a1,xs1,rfl,e2⟩:=Qf e1
  obtain ⟨rfl,e3⟩:=Qj e2
  obtain ⟨a0,rfl,e4⟩:=QI.1 e3
  obtain ⟨a1,rfl,e5⟩:=QI.1 e4
  exact (s71_eq J0 s79 s80 s81 a0 a1 h k).mpr e5
def Qep (J:Qg) (c71:Int→Int→H→(Str→H→Prop)→Prop) (a0:Int) (h:H) (k:Str→H→Prop):Prop :=
c71 a0 (Int.ofNat 10) h fun s2 h1=>
k s2 h1
def s57:Int→H→(Str→H→Prop)→Prop:=Qep J0 s71
def w57 (c:Int→H→(Str→H→Prop)→Prop):Fun:=fun xs h k=>arg xs fun a0 xs=>QV xs <| asI .i64 a0 fun a0=>c a0 h fun r0 h=>k (.str r0) h
theorem s57_eq (J:Qg) (c71:Int→Int→H→(Str→H→Prop)→Prop) (a0:Int) (h:H) (k:AV→H→Prop):Zk ty (gam J [(71,w71 c71)]) Tryd.f57 [(.int .i64 a0)] h k=Qep J c71 a0 h (fun r0 h=>k (.str r0) h):=by kernel_rfl
def g57:Fun:=w57 s57
theorem g57_ok:Qp Tryd.prog 57 g57:=(Qz QF QG (Qu (J:=J0) (Qb g71_ok (Qn Qo))) Tryd.func57 (fun args w=>by simp)).imp fun xs h k e0=>by
  obtain ⟨a0,xs0,rfl,e1⟩:=Qf e0
  obtain ⟨rfl,e2⟩:=Qj e1
  obtain ⟨a0,rfl,e3⟩:=QI.1 e2
  exact (s57_eq J0 s71 a0 h k).mpr e3
def Qeq (J:Qg) (c57:Int→H→(Str→H→Prop)→Prop) (a0:Int) (h:H) (k:Str→H→Prop):Prop :=
c57 a0 h fun s2 h1=>
k s2 h1
def s42:Int→H→(Str→H→Prop)→Prop:=Qeq J0 s57
def w42 (c:Int→H→(Str→H→Prop)→Prop):Fun:=fun xs h k=>arg xs fun a0 xs=>QV xs <| asI .i64 a0 fun a0=>c a0 h fun r0 h=>k (.str r0) h
theorem s42_eq (J:Qg) (c57:Int→H→(Str→H→Prop)→Prop) (a0:Int) (h:H) (k:AV→H→Prop):Zk ty (gam J [(57,w57 c57)]) Tryd.f42 [(.int .i64 a0)] h k=Qeq J c57 a0 h (fun r0 h=>k (.str r0) h):=by kernel_rfl
def g42:Fun:=w42 s42
theorem Qfd:Qp Tryd.prog 42 g42:=(Qz QF QG (Qu (J:=J0) (Qb g57_ok (Qn Qo))) Tryd.func42 (fun args w=>by simp)).imp fun xs h k e0=>by
  obtain ⟨a0,xs0,rfl,e1⟩:=Qf e0
  obtain ⟨rfl,e2⟩:=Qj e1
  obtain ⟨a0,rfl,e3⟩:=QI.1 e2
  exact (s42_eq J0 s57 a0 h k).mpr e3
def g72:Fun:=Y9 ty (gam J0 []) Tryd.f72
theorem g72_ok:Qp Tryd.prog 72 g72:=Yd QF QG (Qu (J:=J0) (Qn Qo)) Tryd.func72 (fun args w=>by simp)
def g73:Fun:=Y9 ty (gam J0 []) Tryd.f73
theorem g73_ok:Qp Tryd.prog 73 g73:=Yd QF QG (Qu (J:=J0) (Qn Qo)) Tryd.func73 (fun args w=>by simp)
def g58:Fun:=Y9 ty (gam J0 [(72,g72),(73,g73)]) Tryd.f58
theorem g58_ok:Qp Tryd.prog 58 g58:=Yd QF QG (Qu (J:=J0) (Qb g72_ok (Qb g73_ok (Qn Qo)))) Tryd.func58 (fun args w=>by simp)
def g74:Fun:=Y9 ty (gam J0 []) Tryd.f74
theorem g74_ok:Qp Tryd.prog 74 g74:=Yd QF QG (Qu (J:=J0) (Qn Qo)) Tryd.func74 (fun args w=>by simp)
def g59:Fun:=Y9 ty (gam J0 [(74,g74)]) Tryd.f59
theorem g59_ok:Qp Tryd.prog 59 g59:=Yd QF QG (Qu (J:=J0) (Qb g74_ok (Qn Qo))) Tryd.func59 (fun args w=>by simp)
def g83:Fun:=QeK
theorem g83_ok:Qp Tryd.prog 83 g83:=noEscape_ok Tryd.func83 (by kernel_rfl) (by kernel_rfl) (by kernel_rfl) (by kernel_rfl)
def g75:Fun:=Y9 ty (gam J0 [(83,g83)]) Tryd.f75
theorem Qe3:Qp Tryd.prog 75 g75:=Yd QF QG (Qu (J:=J0) (Qb g83_ok (Qn Qo))) Tryd.func75 (fun args w=>by simp)
def g84:Fun:=mnzF 5
theorem g84_ok:Qp Tryd.prog 84 g84:=makeNoZero_ok (t:=64) (e:=5) Tryd.func84 (by kernel_rfl) (by kernel_rfl) (by kernel_rfl) (by kernel_rfl) Tryd.underlying64
def g76:Fun:=Y9 ty (gam J0 [(84,g84)]) Tryd.f76
theorem g76_ok:Qp Tryd.prog 76 g76:=Yd QF QG (Qu (J:=J0) (Qb g84_ok (Qn Qo))) Tryd.func76 (fun args w=>by simp)
def g60:Fun:=Y9 ty (gam J0 [(75,g75),(76,g76)]) Tryd.f60
theorem g60_ok:Qp Tryd.prog 60 g60:=Yd QF QG (Qu (J:=J0) (Qb Qe3 (Qb g76_ok (Qn Qo)))) Tryd.func60 (fun args w=>by simp)
end Go.Proofs.YtbcfpeelkaoljaaDoor
