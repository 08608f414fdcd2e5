import Derived.Test.YtfgdelkdmdmfgaaDoorAmTys
noncomputable section
namespace Go.Proofs.YtfgdelkdmdmfgaaDoor
open Go Go.Am
set_option maxRecDepth 100000
set_option linter.all false
def s5G (J:Qh) (a0:Int) (h:H) (k:AV→Int→H→Prop):Prop :=
fB (ltI a0 (Int.ofNat 0)) fun b1=>
J.jn (fun v2 h3=>
J.jn (fun v5 h6=>
Q3 (AV.bool b1) (AV.bool true) v5 fun b10=>
br b10 (
k AV.nilp (Int.ofNat 2) h6) (
Qz (.smap []) h6 fun n11 h12=>
Qz (.smap []) h12 fun n13 h14=>
ck (Nat.beq (List.length [(AV.map n11),(AV.map n13)]) 2) (op' (Q7 0 [(AV.map n11),(AV.map n13)] [(.nilm),(.nilm),(.nils),(.int .i64 0),(.int .i64 0),(.bool false),(.bool false),(.int .i64 0),(.int .i64 0),(.bool false)]) fun l15=>
op' (Q7 3 [(AV.int .i64 a0)] l15) fun l16=>
op' (Q7 9 [(AV.bool true)] l16) fun l17=>
Qz (.cells false 56 l17) h14 fun n18 h19=>
k (AV.ptr n18 0) (Int.ofNat 0) h19))) fun j7=>
br b1 (
j7 Qb h3) (
asI .i64 v2 fun x8=>
fB (ltI (Int.ofNat 1073741824) x8) fun b9=>
j7 (AV.bool b9) h3)) fun j4=>
br b1 (
j4 Qb h) (
j4 (AV.int .i64 a0) h)
def s5:Int→H→(AV→Int→H→Prop)→Prop:=s5G J0
def w5 (c:Int→H→(AV→Int→H→Prop)→Prop):Fun:=fun xs h k=>arg xs fun a0 xs=>QY xs <| asI .i64 a0 fun a0=>c a0 h fun r0 r1 h=>k (.tuple [r0,(.int .i64 r1)]) h
theorem s5_eq (J:Qh) (a0:Int) (h:H) (k:AV→H→Prop):Zl ty (gam J []) Tryd.f5 [(.int .i64 a0)] h k=s5G J  a0 h (fun r0 r1 h=>k (.tuple [r0,(.int .i64 r1)]) h):=by kernel_rfl
def g5:Fun:=w5 s5
theorem g5_ok:Qt Tryd.prog 5 g5:=(QA QD QE (Qv (J:=J0) (Ql Qn)) Tryd.func5 (fun args w=>by simp)).imp fun xs h k e0=>by
  obtain ⟨a0,xs0,rfl,e1⟩:=Qf e0
  obtain ⟨rfl,e2⟩:=Qi e1
  obtain ⟨a0,rfl,e3⟩:=QC.1 e2
  exact (s5_eq J0  a0 h k).mpr e3
def g66:Fun:=XT
theorem QeL:Qt Tryd.prog 66 g66:=cloneF_ok Tryd.func66 (by kernel_rfl) (by kernel_rfl) (by kernel_rfl) (by kernel_rfl)
def s49G (J:Qh) (c66:Fun) (a0:AV) (h:H) (k:AV→H→Prop):Prop :=
nilB 4 a0 fun b1=>
br b1 (
k AV.nilm h) (
c66 [(AV.iface 50 a0)] h fun v2 h3=>
op' (Wl ty 50 false v2) fun v4=>
k v4 h3)
def s49:AV→H→(AV→H→Prop)→Prop:=s49G J0 g66
def w49 (c:AV→H→(AV→H→Prop)→Prop):Fun:=fun xs h k=>arg xs fun a0 xs=>QY xs <| c a0 h fun r0 h=>k r0 h
theorem s49_eq (J:Qh) (c66:Fun) (a0:AV) (h:H) (k:AV→H→Prop):Zl ty (gam J [(66,c66)]) Tryd.f49 [a0] h k=s49G J c66 a0 h (fun r0 h=>k r0 h):=by kernel_rfl
def g49:Fun:=w49 s49
theorem g49_ok:Qt Tryd.prog 49 g49:=(QA QD QE (Qv (J:=J0) (Qc QeL (Ql Qn))) Tryd.func49 (fun args w=>by simp)).imp fun xs h k e0=>by
  obtain ⟨a0,xs0,rfl,e1⟩:=Qf e0
  obtain ⟨rfl,e2⟩:=Qi e1
  exact (s49_eq J0 g66 a0 h k).mpr e2
def s50G (J:Qh) (c66:Fun) (a0:AV) (h:H) (k:AV→H→Prop):Prop :=
nilB 4 a0 fun b1=>
br b1 (
k AV.nilm h) (
c66 [(AV.iface 51 a0)] h fun v2 h3=>
op' (Wl ty 51 false v2) fun v4=>
k v4 h3)
def s50:AV→H→(AV→H→Prop)→Prop:=s50G J0 g66
def w50 (c:AV→H→(AV→H→Prop)→Prop):Fun:=fun xs h k=>arg xs fun a0 xs=>QY xs <| c a0 h fun r0 h=>k r0 h
theorem s50_eq (J:Qh) (c66:Fun) (a0:AV) (h:H) (k:AV→H→Prop):Zl ty (gam J [(66,c66)]) Tryd.f50 [a0] h k=s50G J c66 a0 h (fun r0 h=>k r0 h):=by kernel_rfl
def g50:Fun:=w50 s50
theorem g50_ok:Qt Tryd.prog 50 g50:=(QA QD QE (Qv (J:=J0) (Qc QeL (Ql Qn))) Tryd.func50 (fun args w=>by simp)).imp fun xs h k e0=>by
  obtain ⟨a0,xs0,rfl,e1⟩:=Qf e0
  obtain ⟨rfl,e2⟩:=Qi e1
  exact (s50_eq J0 g66 a0 h k).mpr e2
def s30G (J:Qh) (a0:AV) (h:H) (k:AV→H→Prop):Prop :=
nilB 2 a0 fun b1=>
br b1 (
k AV.nils h) (
op' (Wd true 5 []) fun k4=>
Qz k4 h fun n2 h3=>
apB (.slice 5) 5 (AV.slice n2 0 0 0 1 true) a0 h3 fun v5 h6=>
k v5 h6)
def s30:AV→H→(AV→H→Prop)→Prop:=s30G J0
def w30 (c:AV→H→(AV→H→Prop)→Prop):Fun:=fun xs h k=>arg xs fun a0 xs=>QY xs <| c a0 h fun r0 h=>k r0 h
theorem s30_eq (J:Qh) (a0:AV) (h:H) (k:AV→H→Prop):Zl ty (gam J []) Tryd.f30 [a0] h k=s30G J  a0 h (fun r0 h=>k r0 h):=by kernel_rfl
def g30:Fun:=w30 s30
theorem NI:Qt Tryd.prog 30 g30:=(QA QD QE (Qv (J:=J0) (Ql Qn)) Tryd.func30 (fun args w=>by simp)).imp fun xs h k e0=>by
  obtain ⟨a0,xs0,rfl,e1⟩:=Qf e0
  obtain ⟨rfl,e2⟩:=Qi e1
  exact (s30_eq J0  a0 h k).mpr e2
def s51G (J:Qh) (c30:AV→H→(AV→H→Prop)→Prop) (a0:AV) (a1:AV) (h:H) (k:H→Prop):Prop :=
Go.Am.asAgg a0 fun l3=>
Qz (.cells false 53 l3) h fun n1 h2=>
Go.Am.asAgg a1 fun l6=>
Qz (.cells false 100 l6) h2 fun n4 h5=>
ldI .i64 (AV.ptr n4 0) h5 fun x7=>
fB (eqI x7 (Int.ofNat 0)) fun b8=>
br b8 (
ldV (AV.ptr n1 0) h5 fun v9=>
ldI .i64 (AV.ptr n4 3) h5 fun x10=>
ldV (AV.ptr n1 0) h5 fun v11=>
ldI .i64 (AV.ptr n4 3) h5 fun x12=>
op' (Q5 ty 3 39 false v11 (AV.int .i64 x12) h5) fun v13=>
ldV (AV.ptr n4 4) h5 fun v14=>
c30 v13 h5 fun v16 h15=>
ck (Zz (Zn (AV.ptr n4 4) h15) v14) (
ck (Zz (Zn (AV.ptr n4 3) h15) (AV.int .i64 x10)) (
ck (Zz (Zn (AV.ptr n1 0) h15) v9) (
apB (.slice 5) 5 v16 v14 h15 fun v17 h18=>
ck (Zz (Zn (AV.ptr n4 3) h18) (AV.int .i64 x10)) (
ck (Zz (Zn (AV.ptr n1 0) h18) v9) (
op' (Y3 ty 3 v9 (AV.int .i64 x10) v17 h18) fun k19=>
Yy k19.1 k19.2 h18 fun h20=>
k  h20)))))) (
fB (eqI x7 (Int.ofNat 1)) fun b21=>
br b21 (
ldV (AV.ptr n1 1) h5 fun v22=>
ldS (AV.ptr n4 1) h5 fun s23=>
ldI .i64 (AV.ptr n4 3) h5 fun x24=>
op' (Y3 ty 9 v22 (AV.str s23) (AV.int .i64 x24) h5) fun k25=>
Yy k25.1 k25.2 h5 fun h26=>
k  h26) (
fB (eqI x7 (Int.ofNat 2)) fun b27=>
br b27 (
ldS (AV.ptr n4 1) h5 fun s28=>
ldS (AV.ptr n4 2) h5 fun s29=>
fB (Bool.not (Str.beq s28 s29)) fun b30=>
br b30 (
ldV (AV.ptr n1 1) h5 fun v31=>
ldS (AV.ptr n4 2) h5 fun s32=>
ldV (AV.ptr n1 1) h5 fun v33=>
ldS (AV.ptr n4 1) h5 fun s34=>
op' (Q5 ty 9 3 false v33 (AV.str s34) h5) fun v35=>
asI .i64 v35 fun x36=>
op' (Y3 ty 9 v31 (AV.str s32) (AV.int .i64 x36) h5) fun k37=>
Yy k37.1 k37.2 h5 fun h38=>
ldV (AV.ptr n1 1) h38 fun v39=>
ldS (AV.ptr n4 1) h38 fun s40=>
delK (Uu ty 9 v39 (AV.str s40) h38) h38 fun h42=>
k  h42) (
k  h5)) (
fB (eqI x7 (Int.ofNat 3)) fun b43=>
br b43 (
ldV (AV.ptr n1 1) h5 fun v44=>
ldS (AV.ptr n4 1) h5 fun s45=>
delK (Uu ty 9 v44 (AV.str s45) h5) h5 fun h47=>
k  h47) (
k  h5))))
def s51:AV→AV→H→(H→Prop)→Prop:=s51G J0 s30
def w51 (c:AV→AV→H→(H→Prop)→Prop):Fun:=fun xs h k=>arg xs fun a0 xs=>arg xs fun a1 xs=>QY xs <| c a0 a1 h fun  h=>k (.tuple []) h
theorem s51_eq (J:Qh) (c30:AV→H→(AV→H→Prop)→Prop) (a0:AV) (a1:AV) (h:H) (k:AV→H→Prop):Zl ty (gam J [(30,w30 c30)]) Tryd.f51 [a0,a1] h k=s51G J c30 a0 a1 h (fun  h=>k (.tuple []) h):=by kernel_rfl
def g51:Fun:=w51 s51
theorem QeP:Qt Tryd.prog 51 g51:=(QA QD QE (Qv (J:=J0) (Qc NI (Ql Qn))) Tryd.func51 (fun args w=>by simp)).imp fun xs h k e0=>by
  obtain ⟨a0,xs0,rfl,e1⟩:=Qf e0
  obtain ⟨a1,xs1,rfl,e2⟩:=Qf e1
  obtain ⟨rfl,e3⟩:=Qi e2
  exact (s51_eq J0 s30 a0 a1 h k).mpr e3
def s31G (J:Qh) (c49:AV→H→(AV→H→Prop)→Prop) (c50:AV→H→(AV→H→Prop)→Prop) (c51:AV→AV→H→(H→Prop)→Prop) (a0:AV) (h:H) (k:AV→H→Prop):Prop :=
Qz (.cells false 53 [(.nilm),(.nilm)]) h fun n1 h2=>
QQ a0 (
faK 0 a0 fun p3=>
faK 0 p3 fun p4=>
ldV p4 h2 fun v5=>
QQ a0 (
faK 0 a0 fun p6=>
faK 1 p6 fun p7=>
ldV p7 h2 fun v8=>
Qz (.cells false 53 [(.nilm),(.nilm)]) h2 fun n9 h10=>
c49 v5 h10 fun v12 h11=>
ck (Zz (Zn p7 h11) v8) (
c50 v8 h11 fun v14 h13=>
ck (ZB v12) (ck (ZB v14) (stN 2 (AV.ptr n9 0) [v12,v14] h13 fun h15=>
QQ a0 (
faK 2 a0 fun p16=>
ldV p16 h15 fun v17=>
ZH v17 fun x18=>
J.lp (α:=AV × AV × AV × AV × AV × Unit) (fun r22 v19 d20 h21=>
asI .i64 v19.2.2.2.2.1 fun x23=>
asI .i64 v19.2.2.2.1 fun x24=>
fB (ltI x23 x24) fun b25=>
br b25 (
ixK 5 v19.2.2.1 v19.2.2.2.2.1 fun p26=>
ldN 5 p26 h21 fun l27=>
Qz (.cells false 100 [(.int .i64 0),(.str ⟨0,0⟩),(.str ⟨0,0⟩),(.int .i64 0),(.nils)]) h21 fun n28 h29=>
stN 5 (AV.ptr n28 0) l27 h29 fun h30=>
ldN 2 v19.2.1 h30 fun l31=>
ldN 5 (AV.ptr n28 0) h30 fun l32=>
c51 (AV.agg l31) (AV.agg l32) h30 fun  h33=>
asI .i64 v19.2.2.2.2.1 fun x34=>
fI (Qd .i64 (Int.add x34 (Int.ofNat 1))) fun x35=>
r22 (v19.1,v19.2.1,v19.2.2.1,v19.2.2.2.1,(AV.int .i64 x35),()) d20 h33) (
ldN 2 v19.2.1 h21 fun l36=>
stN 2 v19.1 l36 h21 fun h37=>
Qu (gam J [(49,w49 c49),(50,w50 c50),(51,w51 c51)]) d20 h37 fun h38=>
ldN 2 v19.1 h38 fun l39=>
k (AV.agg l39) h38)) ((AV.ptr n1 0),(AV.ptr n9 0),v17,(AV.int .i64 (Int.ofNat x18)),(AV.int .i64 (Int.ofNat 0)),()) [] h15))))))
def s31:AV→H→(AV→H→Prop)→Prop:=s31G J0 s49 s50 s51
def w31 (c:AV→H→(AV→H→Prop)→Prop):Fun:=fun xs h k=>arg xs fun a0 xs=>QY xs <| c a0 h fun r0 h=>k r0 h
theorem s31_eq (J:Qh) (c49:AV→H→(AV→H→Prop)→Prop) (c50:AV→H→(AV→H→Prop)→Prop) (c51:AV→AV→H→(H→Prop)→Prop) (a0:AV) (h:H) (k:AV→H→Prop):Zl ty (gam J [(49,w49 c49),(50,w50 c50),(51,w51 c51)]) Tryd.f31 [a0] h k=s31G J c49 c50 c51 a0 h (fun r0 h=>k r0 h):=by kernel_rfl
def g31:Fun:=w31 s31
theorem QaD:Qt Tryd.prog 31 g31:=(QA QD QE (Qv (J:=J0) (Qc g49_ok (Qc g50_ok (Qc QeP (Ql Qn))))) Tryd.func31 (fun args w=>by simp)).imp fun xs h k e0=>by
  obtain ⟨a0,xs0,rfl,e1⟩:=Qf e0
  obtain ⟨rfl,e2⟩:=Qi e1
  exact (s31_eq J0 s49 s50 s51 a0 h k).mpr e2
def up31:AV→H→(AV→H→Prop)→Prop:=fun a0 h k=>∃ K:AV→H→Prop,s31 a0 h K∧∀ r0 h',K r0 h'→k r0 h'
theorem up31_ok:Qt Tryd.prog 31 (w31 up31):=QaD.up fun xs h k e0=>by
  obtain ⟨a0,xs0,rfl,e1⟩:=Qf e0
  obtain ⟨rfl,e2⟩:=Qi e1
  obtain ⟨K,q1,q2⟩:=e2
  refine ⟨fun r h'=>∃ r0,r=r0∧K r0 h',?_,?_⟩
  · have hK : (fun r0 h' => ∃ r0', (r0 : AV) = r0' ∧ K r0' h') = K := by funext r0 h'; apply propext; simp
    exact (congrArg (s31 a0 h) hK).mpr q1
  · rintro r h' ⟨r0,rfl,q3⟩;exact q2 _ _ q3
def s33G (J:Qh) (a0:Str) (h:H) (k:Bool→H→Prop):Prop :=
fB (Str.beq a0 (⟨0,0⟩:Str)) fun b1=>
J.jn (fun v2 h3=>
J.jn (fun v5 h6=>
J.jn (fun v9 h10=>
Q3 (AV.bool b1) (AV.bool true) v9 fun b14=>
br b14 (
k false h10) (
J.lp (α:=AV × AV × AV × Unit) (fun r18 v15 d16 h17=>
asI .i64 v15.2.2.1 fun x19=>
asI .i64 v15.2.1 fun x20=>
fB (ltI x19 x20) fun b21=>
br b21 (
WN v15.1 v15.2.2.1 fun x22=>
fB (ltI x22 (Int.ofNat 33)) fun b23=>
J.jn (fun v24 h25=>
J.jn (fun v27 h28=>
J.jn (fun v30 h31=>
J.jn (fun v34 h35=>
Q3 (AV.bool b23) (AV.bool true) v34 fun b39=>
br b39 (
Qu (gam J []) d16 h35 fun h40=>
k false h40) (
asI .i64 v15.2.2.1 fun x41=>
fI (Qd .i64 (Int.add x41 (Int.ofNat 1))) fun x42=>
r18 (v15.1,v15.2.1,(AV.int .i64 x42),()) d16 h35)) fun j36=>
br b23 (
j36 Qb h31) (
asI .u8 v30 fun x37=>
fB (ltI (Int.ofNat 126) x37) fun b38=>
j36 (AV.bool b38) h31)) fun j32=>
br b23 (
j32 Qb h28) (
WN v24 v27 fun x33=>
j32 (AV.int .u8 x33) h28)) fun j29=>
br b23 (
j29 Qb h25) (
j29 v15.2.2.1 h25)) fun j26=>
br b23 (
j26 Qb h17) (
j26 v15.1 h17)) (
Qu (gam J []) d16 h17 fun h43=>
k true h43)) ((AV.str a0),(AV.int .i64 (Int.ofNat a0.len)),(AV.int .i64 (Int.ofNat 0)),()) [] h10)) fun j11=>
br b1 (
j11 Qb h6) (
asI .i64 v5 fun x12=>
fB (ltI (Int.ofNat 32) x12) fun b13=>
j11 (AV.bool b13) h6)) fun j7=>
br b1 (
j7 Qb h3) (
asS v2 fun s8=>
j7 (AV.int .i64 (Int.ofNat s8.len)) h3)) fun j4=>
br b1 (
j4 Qb h) (
j4 (AV.str a0) h)
def s33:Str→H→(Bool→H→Prop)→Prop:=s33G J0
def w33 (c:Str→H→(Bool→H→Prop)→Prop):Fun:=fun xs h k=>arg xs fun a0 xs=>QY xs <| asS a0 fun a0=>c a0 h fun r0 h=>k (.bool r0) h
theorem s33_eq (J:Qh) (a0:Str) (h:H) (k:AV→H→Prop):Zl ty (gam J []) Tryd.f33 [(.str a0)] h k=s33G J  a0 h (fun r0 h=>k (.bool r0) h):=by kernel_rfl
def g33:Fun:=w33 s33
theorem Qe1:Qt Tryd.prog 33 g33:=(QA QD QE (Qv (J:=J0) (Ql Qn)) Tryd.func33 (fun args w=>by simp)).imp fun xs h k e0=>by
  obtain ⟨a0,xs0,rfl,e1⟩:=Qf e0
  obtain ⟨rfl,e2⟩:=Qi e1
  obtain ⟨a0,rfl,e3⟩:=ZJ.1 e2
  exact (s33_eq J0  a0 h k).mpr e3
def s48G (J:Qh) (c33:Str→H→(Bool→H→Prop)→Prop) (a0:AV) (a1:AV) (h:H) (k:Int→H→Prop):Prop :=
nilB 0 a0 fun b1=>
J.jn (fun v2 h3=>
J.jn (fun v5 h6=>
J.jn (fun v8 h9=>
J.jn (fun v12 h13=>
J.jn (fun v16 h17=>
Q3 (AV.bool b1) (AV.bool true) v16 fun b21=>
br b21 (
k (Int.ofNat 1) h17) (
QQ a0 (
faK 5 a0 fun p22=>
ldB p22 h17 fun b23=>
br b23 (
k (Int.ofNat 7) h17) (
ZH a1 fun x24=>
J.lp (α:=AV × AV × AV × Unit) (fun r28 v25 d26 h27=>
asI .i64 v25.2.2.1 fun x29=>
asI .i64 v25.2.1 fun x30=>
fB (ltI x29 x30) fun b31=>
br b31 (
ixK 1 v25.1 v25.2.2.1 fun p32=>
ldS p32 h27 fun s33=>
c33 s33 h27 fun b35 h34=>
fB (Bool.not b35) fun b36=>
br b36 (
Qu (gam J [(33,w33 c33)]) d26 h34 fun h37=>
k (Int.ofNat 2) h37) (
asI .i64 v25.2.2.1 fun x38=>
fI (Qd .i64 (Int.add x38 (Int.ofNat 1))) fun x39=>
r28 (v25.1,v25.2.1,(AV.int .i64 x39),()) d26 h34)) (
Qu (gam J [(33,w33 c33)]) d26 h27 fun h40=>
k (Int.ofNat 0) h40)) (a1,(AV.int .i64 (Int.ofNat x24)),(AV.int .i64 (Int.ofNat 0)),()) [] h17)))) fun j18=>
br b1 (
j18 Qb h13) (
asB v12 fun b19=>
fB (Bool.not b19) fun b20=>
j18 (AV.bool b20) h13)) fun j14=>
br b1 (
j14 Qb h9) (
ldB v8 h9 fun b15=>
j14 (AV.bool b15) h9)) fun j10=>
br b1 (
j10 Qb h6) (
faK 9 v5 fun p11=>
j10 p11 h6)) fun j7=>
br b1 (
j7 Qb h3) (
QQ v2 (
j7 v2 h3))) fun j4=>
br b1 (
j4 Qb h) (
j4 a0 h)
def s48:AV→AV→H→(Int→H→Prop)→Prop:=s48G J0 s33
def w48 (c:AV→AV→H→(Int→H→Prop)→Prop):Fun:=fun xs h k=>arg xs fun a0 xs=>arg xs fun a1 xs=>QY xs <| c a0 a1 h fun r0 h=>k (.int .i64 r0) h
theorem s48_eq (J:Qh) (c33:Str→H→(Bool→H→Prop)→Prop) (a0:AV) (a1:AV) (h:H) (k:AV→H→Prop):Zl ty (gam J [(33,w33 c33)]) Tryd.f48 [a0,a1] h k=s48G J c33 a0 a1 h (fun r0 h=>k (.int .i64 r0) h):=by kernel_rfl
def g48:Fun:=w48 s48
theorem QaC:Qt Tryd.prog 48 g48:=(QA QD QE (Qv (J:=J0) (Qc Qe1 (Ql Qn))) Tryd.func48 (fun args w=>by simp)).imp fun xs h k e0=>by
  obtain ⟨a0,xs0,rfl,e1⟩:=Qf e0
  obtain ⟨a1,xs1,rfl,e2⟩:=Qf e1
  obtain ⟨rfl,e3⟩:=Qi e2
  exact (s48_eq J0 s33 a0 a1 h k).mpr e3
def up48:AV→AV→H→(Int→H→Prop)→Prop:=fun a0 a1 h k=>∃ K:Int→H→Prop,s48 a0 a1 h K∧∀ r0 h',K r0 h'→k r0 h'
theorem up48_ok:Qt Tryd.prog 48 (w48 up48):=QaC.up fun xs h k e0=>by
  obtain ⟨a0,xs0,rfl,e1⟩:=Qf e0
  obtain ⟨a1,xs1,rfl,e2⟩:=Qf e1
  obtain ⟨rfl,e3⟩:=Qi e2
  obtain ⟨K,q1,q2⟩:=e3
  refine ⟨fun r h'=>∃ r0,r=(.int .i64 r0)∧K r0 h',?_,?_⟩
  · have hK : (fun r0 h' => ∃ r0', ((.int .i64 r0) : AV) = (.int .i64 r0') ∧ K r0' h') = K := by funext r0 h'; apply propext; simp
    exact (congrArg (s48 a0 a1 h) hK).mpr q1
  · rintro r h' ⟨r0,rfl,q3⟩;exact q2 _ _ q3
def s29G (J:Qh) (c31:AV→H→(AV→H→Prop)→Prop) (c48:AV→AV→H→(Int→H→Prop)→Prop) (a0:AV) (a1:Str) (h:H) (k:Int→Int→H→Prop):Prop :=
Qz (.cells false 9 [(AV.str a1)]) h fun n1 h2=>
c48 a0 (AV.slice n1 0 1 1 1 true) h2 fun x4 h3=>
fB (Bool.not (eqI x4 (Int.ofNat 0))) fun b5=>
br b5 (
k (Int.ofNat 0) x4 h3) (
c31 a0 h3 fun v7 h6=>
Go.Am.asAgg v7 fun l8=>
op' (Q8 l8 1) fun v9=>
op' (Q5 ty 9 3 true v9 (AV.str a1) h6) fun v10=>
asTup v10 fun l11=>
op' (Q8 l11 0) fun v12=>
asI .i64 v12 fun x13=>
asTup v10 fun l14=>
op' (Q8 l14 1) fun v15=>
asB v15 fun b16=>
fB (Bool.not b16) fun b17=>
br b17 (
k (Int.ofNat 0) (Int.ofNat 4) h6) (
k x13 (Int.ofNat 0) h6))
def s29:AV→Str→H→(Int→Int→H→Prop)→Prop:=s29G J0 s31 s48
def w29 (c:AV→Str→H→(Int→Int→H→Prop)→Prop):Fun:=fun xs h k=>arg xs fun a0 xs=>arg xs fun a1 xs=>QY xs <| asS a1 fun a1=>c a0 a1 h fun r0 r1 h=>k (.tuple [(.int .i64 r0),(.int .i64 r1)]) h
theorem s29_eq (J:Qh) (c31:AV→H→(AV→H→Prop)→Prop) (c48:AV→AV→H→(Int→H→Prop)→Prop) (a0:AV) (a1:Str) (h:H) (k:AV→H→Prop):Zl ty (gam J [(31,w31 c31),(48,w48 c48)]) Tryd.f29 [a0,(.str a1)] h k=s29G J c31 c48 a0 a1 h (fun r0 r1 h=>k (.tuple [(.int .i64 r0),(.int .i64 r1)]) h):=by kernel_rfl
def g29:Fun:=w29 s29
theorem QaE:Qt Tryd.prog 29 g29:=(QA QD QE (Qv (J:=J0) (Qc QaD (Qc QaC (Ql Qn)))) Tryd.func29 (fun args w=>by simp)).imp fun xs h k e0=>by
  obtain ⟨a0,xs0,rfl,e1⟩:=Qf e0
  obtain ⟨a1,xs1,rfl,e2⟩:=Qf e1
  obtain ⟨rfl,e3⟩:=Qi e2
  obtain ⟨a1,rfl,e4⟩:=ZJ.1 e3
  exact (s29_eq J0 s31 s48 a0 a1 h k).mpr e4
def s10G (J:Qh) (c29:AV→Str→H→(Int→Int→H→Prop)→Prop) (c30:AV→H→(AV→H→Prop)→Prop) (c31:AV→H→(AV→H→Prop)→Prop) (a0:AV) (a1:Str) (h:H) (k:AV→Int→H→Prop):Prop :=
c29 a0 a1 h fun x2 x3 h1=>
fB (Bool.not (eqI x3 (Int.ofNat 0))) fun b4=>
br b4 (
k AV.nils x3 h1) (
c31 a0 h1 fun v6 h5=>
Go.Am.asAgg v6 fun l7=>
op' (Q8 l7 0) fun v8=>
op' (Q5 ty 3 39 false v8 (AV.int .i64 x2) h5) fun v9=>
c30 v9 h5 fun v11 h10=>
k v11 (Int.ofNat 0) h10)
def s10:AV→Str→H→(AV→Int→H→Prop)→Prop:=s10G J0 s29 s30 s31
def w10 (c:AV→Str→H→(AV→Int→H→Prop)→Prop):Fun:=fun xs h k=>arg xs fun a0 xs=>arg xs fun a1 xs=>QY xs <| asS a1 fun a1=>c a0 a1 h fun r0 r1 h=>k (.tuple [r0,(.int .i64 r1)]) h
theorem s10_eq (J:Qh) (c29:AV→Str→H→(Int→Int→H→Prop)→Prop) (c30:AV→H→(AV→H→Prop)→Prop) (c31:AV→H→(AV→H→Prop)→Prop) (a0:AV) (a1:Str) (h:H) (k:AV→H→Prop):Zl ty (gam J [(29,w29 c29),(30,w30 c30),(31,w31 c31)]) Tryd.f10 [a0,(.str a1)] h k=s10G J c29 c30 c31 a0 a1 h (fun r0 r1 h=>k (.tuple [r0,(.int .i64 r1)]) h):=by kernel_rfl
def g10:Fun:=w10 s10
theorem XL:Qt Tryd.prog 10 g10:=(QA QD QE (Qv (J:=J0) (Qc QaE (Qc NI (Qc QaD (Ql Qn))))) Tryd.func10 (fun args w=>by simp)).imp fun xs h k e0=>by
  obtain ⟨a0,xs0,rfl,e1⟩:=Qf e0
  obtain ⟨a1,xs1,rfl,e2⟩:=Qf e1
  obtain ⟨rfl,e3⟩:=Qi e2
  obtain ⟨a1,rfl,e4⟩:=ZJ.1 e3
  exact (s10_eq J0 s29 s30 s31 a0 a1 h k).mpr e4
def Qen (J:Qh) (c10:AV→Str→H→(AV→Int→H→Prop)→Prop) (a0:AV) (h:H) (k:Int→H→Prop):Prop :=
c10 a0 ⟨3,6385273⟩ h fun v2 x3 h1=>
fB (eqI x3 (Int.ofNat 1)) fun b4=>
J.jn (fun v5 h6=>
J.jn (fun v8 h9=>
Q3 (AV.bool b4) (AV.bool true) v8 fun b13=>
br b13 (
k x3 h9) (
k (Int.ofNat 0) h9)) fun j10=>
br b4 (
j10 Qb h6) (
asI .i64 v5 fun x11=>
fB (eqI x11 (Int.ofNat 7)) fun b12=>
j10 (AV.bool b12) h6)) fun j7=>
br b4 (
j7 Qb h1) (
j7 (AV.int .i64 x3) h1)
def s17:AV→H→(Int→H→Prop)→Prop:=Qen J0 s10
def w17 (c:AV→H→(Int→H→Prop)→Prop):Fun:=fun xs h k=>arg xs fun a0 xs=>QY xs <| c a0 h fun r0 h=>k (.int .i64 r0) h
theorem s17_eq (J:Qh) (c10:AV→Str→H→(AV→Int→H→Prop)→Prop) (a0:AV) (h:H) (k:AV→H→Prop):Zl ty (gam J [(10,w10 c10)]) Tryd.f17 [a0] h k=Qen J c10 a0 h (fun r0 h=>k (.int .i64 r0) h):=by kernel_rfl
def g17:Fun:=w17 s17
theorem Qcq:Qt Tryd.prog 17 g17:=(QA QD QE (Qv (J:=J0) (Qc XL (Ql Qn))) Tryd.func17 (fun args w=>by simp)).imp fun xs h k e0=>by
  obtain ⟨a0,xs0,rfl,e1⟩:=Qf e0
  obtain ⟨rfl,e2⟩:=Qi e1
  exact (s17_eq J0 s10 a0 h k).mpr e2
def Qca (J:Qh) (a0:Int) (h:H) (k:Str→H→Prop):Prop :=
fB (ltI a0 (Int.ofNat 10)) fun b1=>
br b1 (
fI (Qd .i64 (Int.add a0 (Int.ofNat 1))) fun x2=>
Qa5 (AV.str ⟨36,93621433862240650313326231306435056417042768930449266319129758623240466503934737414522⟩) (some (AV.int .i64 a0)) (some (AV.int .i64 x2)) fun s3=>
k s3 h) (
fI (Qd .i64 (Int.mul a0 (Int.ofNat 2))) fun x4=>
fI (Qd .i64 (Int.mul a0 (Int.ofNat 2))) fun x5=>
fI (Qd .i64 (Int.add x5 (Int.ofNat 2))) fun x6=>
Qa5 (AV.str ⟨200,8369396053099643259884660439900312228746471110943504458504829912206407100469475510520505676855750014530596077689858408204562721349408824591789441711103775826291439126061900675989976254244761425382494394669896706626295868329681710377411642562040512013377776180902291979747008038411282346274188424097310996521951660972735479027990947060043115083917949168200323041593656569302669535377774123378085539195783572932112166539323561441937920580889744256865042652178519653545620815178381625⟩) (some (AV.int .i64 x4)) (some (AV.int .i64 x6)) fun s7=>
k s7 h)
def s77:Int→H→(Str→H→Prop)→Prop:=Qca J0
def w77 (c:Int→H→(Str→H→Prop)→Prop):Fun:=fun xs h k=>arg xs fun a0 xs=>QY xs <| asI .i64 a0 fun a0=>c a0 h fun r0 h=>k (.str r0) h
theorem s77_eq (J:Qh) (a0:Int) (h:H) (k:AV→H→Prop):Zl ty (gam J []) Tryd.f77 [(.int .i64 a0)] h k=Qca J  a0 h (fun r0 h=>k (.str r0) h):=by kernel_rfl
def g77:Fun:=w77 s77
theorem g77_ok:Qt Tryd.prog 77 g77:=(QA QD QE (Qv (J:=J0) (Ql Qn)) Tryd.func77 (fun args w=>by simp)).imp fun xs h k e0=>by
  obtain ⟨a0,xs0,rfl,e1⟩:=Qf e0
  obtain ⟨rfl,e2⟩:=Qi e1
  obtain ⟨a0,rfl,e3⟩:=QC.1 e2
  exact (s77_eq J0  a0 h k).mpr e3
def s83G (J:Qh) (a0:Int) (h:H) (k:Int→H→Prop):Prop :=
fI (Qd .i64 (Int.mul a0 (Int.ofNat 78913))) fun x1=>
fI (Ve x1 (Y2 18 (IntKind.bits .i64))) fun x2=>
k x2 h
def s83:Int→H→(Int→H→Prop)→Prop:=s83G J0
def w83 (c:Int→H→(Int→H→Prop)→Prop):Fun:=fun xs h k=>arg xs fun a0 xs=>QY xs <| asI .i64 a0 fun a0=>c a0 h fun r0 h=>k (.int .i64 r0) h
theorem s83_eq (J:Qh) (a0:Int) (h:H) (k:AV→H→Prop):Zl ty (gam J []) Tryd.f83 [(.int .i64 a0)] h k=s83G J  a0 h (fun r0 h=>k (.int .i64 r0) h):=by kernel_rfl
def g83:Fun:=w83 s83
theorem g83_ok:Qt Tryd.prog 83 g83:=(QA QD QE (Qv (J:=J0) (Ql Qn)) Tryd.func83 (fun args w=>by simp)).imp fun xs h k e0=>by
  obtain ⟨a0,xs0,rfl,e1⟩:=Qf e0
  obtain ⟨rfl,e2⟩:=Qi e1
  obtain ⟨a0,rfl,e3⟩:=QC.1 e2
  exact (s83_eq J0  a0 h k).mpr e3
def s84G (J:Qh) (a0:Int) (h:H) (k:Int→H→Prop):Prop :=
J.jd (α:=AV × AV × Unit) (fun v1 d2 h3=>
J.jd (α:=AV × AV × Unit) (fun v5 d6 h7=>
J.jd (α:=AV × AV × Unit) (fun v9 d10 h11=>
asI .u64 v9.1 fun x13=>
fI (Qd .u8 x13) fun x14=>
WN (AV.str ⟨256,496986003408712215933005303621146343841837811690876167382323004466384420695090407243345123874780946046625255262057845613767806773758184921447759720770971536008171983842311960805720366577116933250839345203839274948261284255908394484732272583221484877694546905335834403051067785895034095251181560891789708940188598129052595634438001880866652824740680664595948164050600812232986714152902334120417949232733424961741260388658846598210939813666227264727603044226856020347194099943897342244906131705541414413428559898943151040826816076322978570758226444464494629814583418847495712557856038296917933182380796641777551368⟩) (AV.int .u8 x14) fun x15=>
fI (Qd .i64 x15) fun x16=>
asI .i64 v9.2.1 fun x17=>
fI (Qd .i64 (Int.add x17 x16)) fun x18=>
Qu (gam J []) d10 h11 fun h19=>
k x18 h19) fun j12=>
asI .u64 v5.1 fun x20=>
fB (Bool.not (ltI x20 (Int.ofNat 256))) fun b21=>
br b21 (
asI .u64 v5.1 fun x22=>
fI (Ve x22 (Y2 8 (IntKind.bits .u64))) fun x23=>
asI .i64 v5.2.1 fun x24=>
fI (Qd .i64 (Int.add x24 (Int.ofNat 8))) fun x25=>
j12 ((AV.int .u64 x23),(AV.int .i64 x25),()) d6 h7) (
j12 (v5.1,v5.2.1,()) d6 h7)) fun j8=>
asI .u64 v1.1 fun x26=>
fB (Bool.not (ltI x26 (Int.ofNat 65536))) fun b27=>
br b27 (
asI .u64 v1.1 fun x28=>
fI (Ve x28 (Y2 16 (IntKind.bits .u64))) fun x29=>
asI .i64 v1.2.1 fun x30=>
fI (Qd .i64 (Int.add x30 (Int.ofNat 16))) fun x31=>
j8 ((AV.int .u64 x29),(AV.int .i64 x31),()) d2 h3) (
j8 (v1.1,v1.2.1,()) d2 h3)) fun j4=>
fB (Bool.not (ltI a0 (Int.ofNat 4294967296))) fun b32=>
br b32 (
fI (Ve a0 (Y2 32 (IntKind.bits .u64))) fun x33=>
j4 ((AV.int .u64 x33),(AV.int .i64 (Int.ofNat 32)),()) [] h) (
j4 ((AV.int .u64 a0),(AV.int .i64 (Int.ofNat 0)),()) [] h)
def s84:Int→H→(Int→H→Prop)→Prop:=s84G J0
def w84 (c:Int→H→(Int→H→Prop)→Prop):Fun:=fun xs h k=>arg xs fun a0 xs=>QY xs <| asI .u64 a0 fun a0=>c a0 h fun r0 h=>k (.int .i64 r0) h
theorem s84_eq (J:Qh) (a0:Int) (h:H) (k:AV→H→Prop):Zl ty (gam J []) Tryd.f84 [(.int .u64 a0)] h k=s84G J  a0 h (fun r0 h=>k (.int .i64 r0) h):=by kernel_rfl
def g84:Fun:=w84 s84
theorem g84_ok:Qt Tryd.prog 84 g84:=(QA QD QE (Qv (J:=J0) (Ql Qn)) Tryd.func84 (fun args w=>by simp)).imp fun xs h k e0=>by
  obtain ⟨a0,xs0,rfl,e1⟩:=Qf e0
  obtain ⟨rfl,e2⟩:=Qi e1
  obtain ⟨a0,rfl,e3⟩:=QC.1 e2
  exact (s84_eq J0  a0 h k).mpr e3
def s85G (J:Qh) (a0:Bool) (h:H) (k:Int→H→Prop):Prop :=
br a0 (
k (Int.ofNat 1) h) (
k (Int.ofNat 0) h)
def s85:Bool→H→(Int→H→Prop)→Prop:=s85G J0
def w85 (c:Bool→H→(Int→H→Prop)→Prop):Fun:=fun xs h k=>arg xs fun a0 xs=>QY xs <| asB a0 fun a0=>c a0 h fun r0 h=>k (.int .i64 r0) h
theorem s85_eq (J:Qh) (a0:Bool) (h:H) (k:AV→H→Prop):Zl ty (gam J []) Tryd.f85 [(.bool a0)] h k=s85G J  a0 h (fun r0 h=>k (.int .i64 r0) h):=by kernel_rfl
def g85:Fun:=w85 s85
theorem g85_ok:Qt Tryd.prog 85 g85:=(QA QD QE (Qv (J:=J0) (Ql Qn)) Tryd.func85 (fun args w=>by simp)).imp fun xs h k e0=>by
  obtain ⟨a0,xs0,rfl,e1⟩:=Qf e0
  obtain ⟨rfl,e2⟩:=Qi e1
  obtain ⟨a0,rfl,e3⟩:=Z7.1 e2
  exact (s85_eq J0  a0 h k).mpr e3
def s78G (J:Qh) (c83:Int→H→(Int→H→Prop)→Prop) (c84:Int→H→(Int→H→Prop)→Prop) (c85:Bool→H→(Int→H→Prop)→Prop) (a0:Int) (h:H) (k:Int→H→Prop):Prop :=
c84 a0 h fun x2 h1=>
c83 x2 h1 fun x4 h3=>
QdU 20 1 (AV.glob 0 0) (AV.int .i64 x4) fun p5=>
ldI .u64 p5 h3 fun x6=>
fB (Bool.not (ltI a0 x6)) fun b7=>
c85 b7 h3 fun x9 h8=>
fI (Qd .i64 (Int.add x4 x9)) fun x10=>
k x10 h8
def s78:Int→H→(Int→H→Prop)→Prop:=s78G J0 s83 s84 s85
def w78 (c:Int→H→(Int→H→Prop)→Prop):Fun:=fun xs h k=>arg xs fun a0 xs=>QY xs <| asI .u64 a0 fun a0=>c a0 h fun r0 h=>k (.int .i64 r0) h
theorem s78_eq (J:Qh) (c83:Int→H→(Int→H→Prop)→Prop) (c84:Int→H→(Int→H→Prop)→Prop) (c85:Bool→H→(Int→H→Prop)→Prop) (a0:Int) (h:H) (k:AV→H→Prop):Zl ty (gam J [(83,w83 c83),(84,w84 c84),(85,w85 c85)]) Tryd.f78 [(.int .u64 a0)] h k=s78G J c83 c84 c85 a0 h (fun r0 h=>k (.int .i64 r0) h):=by kernel_rfl
def g78:Fun:=w78 s78
theorem g78_ok:Qt Tryd.prog 78 g78:=(QA QD QE (Qv (J:=J0) (Qc g83_ok (Qc g84_ok (Qc g85_ok (Ql Qn))))) Tryd.func78 (fun args w=>by simp)).imp fun xs h k e0=>by
  obtain ⟨a0,xs0,rfl,e1⟩:=Qf e0
  obtain ⟨rfl,e2⟩:=Qi e1
  obtain ⟨a0,rfl,e3⟩:=QC.1 e2
  exact (s78_eq J0 s83 s84 s85 a0 h k).mpr e3
def s79G (J:Qh) (a0:AV) (a1:Int) (h:H) (k:H→Prop):Prop :=
ZH a0 fun x1=>
J.lp (α:=AV × AV × AV × Unit) (fun r5 v2 d3 h4=>
asI .i64 v2.2.2.1 fun x6=>
fB (Bool.not (ltI x6 (Int.ofNat 8))) fun b7=>
br b7 (
asI .u64 v2.2.1 fun x8=>
ck (Bool.not (eqI (Int.ofNat 100000000) 0)) (fI (Int.tmod x8 (Int.ofNat 100000000)) fun x9=>
fI (Qd .u32 x9) fun x10=>
asI .u64 v2.2.1 fun x11=>
ck (Bool.not (eqI (Int.ofNat 100000000) 0)) (fI (Qd .u64 (Int.tdiv x11 (Int.ofNat 100000000))) fun x12=>
ck (Bool.not (eqI (Int.ofNat 10000) 0)) (fI (Qd .u32 (Int.tdiv x10 (Int.ofNat 10000))) fun x13=>
ck (Bool.not (eqI (Int.ofNat 10000) 0)) (fI (Int.tmod x10 (Int.ofNat 10000)) fun x14=>
ck (Bool.not (eqI (Int.ofNat 100) 0)) (fI (Qd .u32 (Int.tdiv x14 (Int.ofNat 100))) fun x15=>
fI (Qd .u32 (Int.mul x15 (Int.ofNat 2))) fun x16=>
ck (Bool.not (eqI (Int.ofNat 100) 0)) (fI (Int.tmod x14 (Int.ofNat 100)) fun x17=>
fI (Qd .u32 (Int.mul x17 (Int.ofNat 2))) fun x18=>
ck (Bool.not (eqI (Int.ofNat 100) 0)) (fI (Qd .u32 (Int.tdiv x13 (Int.ofNat 100))) fun x19=>
fI (Qd .u32 (Int.mul x19 (Int.ofNat 2))) fun x20=>
ck (Bool.not (eqI (Int.ofNat 100) 0)) (fI (Int.tmod x13 (Int.ofNat 100)) fun x21=>
fI (Qd .u32 (Int.mul x21 (Int.ofNat 2))) fun x22=>
asI .i64 v2.2.2.1 fun x23=>
fI (Qd .i64 (Int.sub x23 (Int.ofNat 1))) fun x24=>
asI .i64 v2.2.2.1 fun x25=>
fI (Qd .i64 (Int.sub x25 (Int.ofNat 2))) fun x26=>
fI (Qd .u32 (Int.add x18 (Int.ofNat 1))) fun x27=>
WN (AV.str ⟨200,8369396053099643259884660439900312228746471110943504458504829912206407100469475510520505676855750014530596077689858408204562721349408824591789441711103775826291439126061900675989976254244761425382494394669896706626295868329681710377411642562040512013377776180902291979747008038411282346274188424097310996521951660972735479027990947060043115083917949168200323041593656569302669535377774123378085539195783572932112166539323561441937920580889744256865042652178519653545620815178381625⟩) (AV.int .u32 x27) fun x28=>
WN (AV.str ⟨200,8369396053099643259884660439900312228746471110943504458504829912206407100469475510520505676855750014530596077689858408204562721349408824591789441711103775826291439126061900675989976254244761425382494394669896706626295868329681710377411642562040512013377776180902291979747008038411282346274188424097310996521951660972735479027990947060043115083917949168200323041593656569302669535377774123378085539195783572932112166539323561441937920580889744256865042652178519653545620815178381625⟩) (AV.int .u32 x18) fun x29=>
ixK 1 v2.1 (AV.int .i64 x24) fun p30=>
stV p30 (AV.int .u8 x28) h4 fun h31=>
ixK 1 v2.1 (AV.int .i64 x26) fun p32=>
stV p32 (AV.int .u8 x29) h31 fun h33=>
asI .i64 v2.2.2.1 fun x34=>
fI (Qd .i64 (Int.sub x34 (Int.ofNat 3))) fun x35=>
asI .i64 v2.2.2.1 fun x36=>
fI (Qd .i64 (Int.sub x36 (Int.ofNat 4))) fun x37=>
fI (Qd .u32 (Int.add x16 (Int.ofNat 1))) fun x38=>
WN (AV.str ⟨200,8369396053099643259884660439900312228746471110943504458504829912206407100469475510520505676855750014530596077689858408204562721349408824591789441711103775826291439126061900675989976254244761425382494394669896706626295868329681710377411642562040512013377776180902291979747008038411282346274188424097310996521951660972735479027990947060043115083917949168200323041593656569302669535377774123378085539195783572932112166539323561441937920580889744256865042652178519653545620815178381625⟩) (AV.int .u32 x38) fun x39=>
WN (AV.str ⟨200,8369396053099643259884660439900312228746471110943504458504829912206407100469475510520505676855750014530596077689858408204562721349408824591789441711103775826291439126061900675989976254244761425382494394669896706626295868329681710377411642562040512013377776180902291979747008038411282346274188424097310996521951660972735479027990947060043115083917949168200323041593656569302669535377774123378085539195783572932112166539323561441937920580889744256865042652178519653545620815178381625⟩) (AV.int .u32 x16) fun x40=>
ixK 1 v2.1 (AV.int .i64 x35) fun p41=>
stV p41 (AV.int .u8 x39) h33 fun h42=>
ixK 1 v2.1 (AV.int .i64 x37) fun p43=>
stV p43 (AV.int .u8 x40) h42 fun h44=>
asI .i64 v2.2.2.1 fun x45=>
fI (Qd .i64 (Int.sub x45 (Int.ofNat 5))) fun x46=>
asI .i64 v2.2.2.1 fun x47=>
fI (Qd .i64 (Int.sub x47 (Int.ofNat 6))) fun x48=>
fI (Qd .u32 (Int.add x22 (Int.ofNat 1))) fun x49=>
WN (AV.str ⟨200,8369396053099643259884660439900312228746471110943504458504829912206407100469475510520505676855750014530596077689858408204562721349408824591789441711103775826291439126061900675989976254244761425382494394669896706626295868329681710377411642562040512013377776180902291979747008038411282346274188424097310996521951660972735479027990947060043115083917949168200323041593656569302669535377774123378085539195783572932112166539323561441937920580889744256865042652178519653545620815178381625⟩) (AV.int .u32 x49) fun x50=>
WN (AV.str ⟨200,8369396053099643259884660439900312228746471110943504458504829912206407100469475510520505676855750014530596077689858408204562721349408824591789441711103775826291439126061900675989976254244761425382494394669896706626295868329681710377411642562040512013377776180902291979747008038411282346274188424097310996521951660972735479027990947060043115083917949168200323041593656569302669535377774123378085539195783572932112166539323561441937920580889744256865042652178519653545620815178381625⟩) (AV.int .u32 x22) fun x51=>
ixK 1 v2.1 (AV.int .i64 x46) fun p52=>
stV p52 (AV.int .u8 x50) h44 fun h53=>
ixK 1 v2.1 (AV.int .i64 x48) fun p54=>
stV p54 (AV.int .u8 x51) h53 fun h55=>
asI .i64 v2.2.2.1 fun x56=>
fI (Qd .i64 (Int.sub x56 (Int.ofNat 7))) fun x57=>
asI .i64 v2.2.2.1 fun x58=>
fI (Qd .i64 (Int.sub x58 (Int.ofNat 8))) fun x59=>
fI (Qd .u32 (Int.add x20 (Int.ofNat 1))) fun x60=>
WN (AV.str ⟨200,8369396053099643259884660439900312228746471110943504458504829912206407100469475510520505676855750014530596077689858408204562721349408824591789441711103775826291439126061900675989976254244761425382494394669896706626295868329681710377411642562040512013377776180902291979747008038411282346274188424097310996521951660972735479027990947060043115083917949168200323041593656569302669535377774123378085539195783572932112166539323561441937920580889744256865042652178519653545620815178381625⟩) (AV.int .u32 x60) fun x61=>
WN (AV.str ⟨200,8369396053099643259884660439900312228746471110943504458504829912206407100469475510520505676855750014530596077689858408204562721349408824591789441711103775826291439126061900675989976254244761425382494394669896706626295868329681710377411642562040512013377776180902291979747008038411282346274188424097310996521951660972735479027990947060043115083917949168200323041593656569302669535377774123378085539195783572932112166539323561441937920580889744256865042652178519653545620815178381625⟩) (AV.int .u32 x20) fun x62=>
ixK 1 v2.1 (AV.int .i64 x57) fun p63=>
stV p63 (AV.int .u8 x61) h55 fun h64=>
ixK 1 v2.1 (AV.int .i64 x59) fun p65=>
stV p65 (AV.int .u8 x62) h64 fun h66=>
asI .i64 v2.2.2.1 fun x67=>
fI (Qd .i64 (Int.sub x67 (Int.ofNat 8))) fun x68=>
r5 (v2.1,(AV.int .u64 x12),(AV.int .i64 x68),()) d3 h66))))))))) (
asI .u64 v2.2.1 fun x69=>
fI (Qd .u32 x69) fun x70=>
J.jd (α:=AV × AV × AV × Unit) (fun v71 d72 h73=>
J.jd (α:=AV × AV × AV × Unit) (fun v75 d76 h77=>
asI .i64 v75.2.1 fun x79=>
fB (ltI (Int.ofNat 0) x79) fun b80=>
br b80 (
asI .u32 v75.2.2.1 fun x81=>
fI (Qd .u32 (Int.add (Int.ofNat 48) x81)) fun x82=>
fI (Qd .u8 x82) fun x83=>
ixK 1 v75.1 (AV.int .i64 (Int.ofNat 0)) fun p84=>
stV p84 (AV.int .u8 x83) h77 fun h85=>
Qu (gam J []) d76 h85 fun h86=>
k  h86) (
Qu (gam J []) d76 h77 fun h87=>
k  h87)) fun j78=>
asI .i64 v71.2.1 fun x88=>
fB (Bool.not (ltI x88 (Int.ofNat 2))) fun b89=>
br b89 (
asI .u32 v71.2.2.1 fun x90=>
ck (Bool.not (eqI (Int.ofNat 100) 0)) (fI (Int.tmod x90 (Int.ofNat 100)) fun x91=>
fI (Qd .u32 (Int.mul x91 (Int.ofNat 2))) fun x92=>
asI .u32 v71.2.2.1 fun x93=>
ck (Bool.not (eqI (Int.ofNat 100) 0)) (fI (Qd .u32 (Int.tdiv x93 (Int.ofNat 100))) fun x94=>
asI .i64 v71.2.1 fun x95=>
fI (Qd .i64 (Int.sub x95 (Int.ofNat 1))) fun x96=>
asI .i64 v71.2.1 fun x97=>
fI (Qd .i64 (Int.sub x97 (Int.ofNat 2))) fun x98=>
fI (Qd .u32 (Int.add x92 (Int.ofNat 1))) fun x99=>
WN (AV.str ⟨200,8369396053099643259884660439900312228746471110943504458504829912206407100469475510520505676855750014530596077689858408204562721349408824591789441711103775826291439126061900675989976254244761425382494394669896706626295868329681710377411642562040512013377776180902291979747008038411282346274188424097310996521951660972735479027990947060043115083917949168200323041593656569302669535377774123378085539195783572932112166539323561441937920580889744256865042652178519653545620815178381625⟩) (AV.int .u32 x99) fun x100=>
WN (AV.str ⟨200,8369396053099643259884660439900312228746471110943504458504829912206407100469475510520505676855750014530596077689858408204562721349408824591789441711103775826291439126061900675989976254244761425382494394669896706626295868329681710377411642562040512013377776180902291979747008038411282346274188424097310996521951660972735479027990947060043115083917949168200323041593656569302669535377774123378085539195783572932112166539323561441937920580889744256865042652178519653545620815178381625⟩) (AV.int .u32 x92) fun x101=>
ixK 1 v71.1 (AV.int .i64 x96) fun p102=>
stV p102 (AV.int .u8 x100) h73 fun h103=>
ixK 1 v71.1 (AV.int .i64 x98) fun p104=>
stV p104 (AV.int .u8 x101) h103 fun h105=>
asI .i64 v71.2.1 fun x106=>
fI (Qd .i64 (Int.sub x106 (Int.ofNat 2))) fun x107=>
j78 (v71.1,(AV.int .i64 x107),(AV.int .u32 x94),()) d72 h105))) (
j78 (v71.1,v71.2.1,v71.2.2.1,()) d72 h73)) fun j74=>
asI .i64 v2.2.2.1 fun x108=>
fB (Bool.not (ltI x108 (Int.ofNat 4))) fun b109=>
br b109 (
ck (Bool.not (eqI (Int.ofNat 10000) 0)) (fI (Int.tmod x70 (Int.ofNat 10000)) fun x110=>
ck (Bool.not (eqI (Int.ofNat 10000) 0)) (fI (Qd .u32 (Int.tdiv x70 (Int.ofNat 10000))) fun x111=>
ck (Bool.not (eqI (Int.ofNat 100) 0)) (fI (Qd .u32 (Int.tdiv x110 (Int.ofNat 100))) fun x112=>
fI (Qd .u32 (Int.mul x112 (Int.ofNat 2))) fun x113=>
ck (Bool.not (eqI (Int.ofNat 100) 0)) (fI (Int.tmod x110 (Int.ofNat 100)) fun x114=>
fI (Qd .u32 (Int.mul x114 (Int.ofNat 2))) fun x115=>
asI .i64 v2.2.2.1 fun x116=>
fI (Qd .i64 (Int.sub x116 (Int.ofNat 1))) fun x117=>
asI .i64 v2.2.2.1 fun x118=>
fI (Qd .i64 (Int.sub x118 (Int.ofNat 2))) fun x119=>
fI (Qd .u32 (Int.add x115 (Int.ofNat 1))) fun x120=>
WN (AV.str ⟨200,8369396053099643259884660439900312228746471110943504458504829912206407100469475510520505676855750014530596077689858408204562721349408824591789441711103775826291439126061900675989976254244761425382494394669896706626295868329681710377411642562040512013377776180902291979747008038411282346274188424097310996521951660972735479027990947060043115083917949168200323041593656569302669535377774123378085539195783572932112166539323561441937920580889744256865042652178519653545620815178381625⟩) (AV.int .u32 x120) fun x121=>
WN (AV.str ⟨200,8369396053099643259884660439900312228746471110943504458504829912206407100469475510520505676855750014530596077689858408204562721349408824591789441711103775826291439126061900675989976254244761425382494394669896706626295868329681710377411642562040512013377776180902291979747008038411282346274188424097310996521951660972735479027990947060043115083917949168200323041593656569302669535377774123378085539195783572932112166539323561441937920580889744256865042652178519653545620815178381625⟩) (AV.int .u32 x115) fun x122=>
ixK 1 v2.1 (AV.int .i64 x117) fun p123=>
stV p123 (AV.int .u8 x121) h4 fun h124=>
ixK 1 v2.1 (AV.int .i64 x119) fun p125=>
stV p125 (AV.int .u8 x122) h124 fun h126=>
asI .i64 v2.2.2.1 fun x127=>
fI (Qd .i64 (Int.sub x127 (Int.ofNat 3))) fun x128=>
asI .i64 v2.2.2.1 fun x129=>
fI (Qd .i64 (Int.sub x129 (Int.ofNat 4))) fun x130=>
fI (Qd .u32 (Int.add x113 (Int.ofNat 1))) fun x131=>
WN (AV.str ⟨200,8369396053099643259884660439900312228746471110943504458504829912206407100469475510520505676855750014530596077689858408204562721349408824591789441711103775826291439126061900675989976254244761425382494394669896706626295868329681710377411642562040512013377776180902291979747008038411282346274188424097310996521951660972735479027990947060043115083917949168200323041593656569302669535377774123378085539195783572932112166539323561441937920580889744256865042652178519653545620815178381625⟩) (AV.int .u32 x131) fun x132=>
WN (AV.str ⟨200,8369396053099643259884660439900312228746471110943504458504829912206407100469475510520505676855750014530596077689858408204562721349408824591789441711103775826291439126061900675989976254244761425382494394669896706626295868329681710377411642562040512013377776180902291979747008038411282346274188424097310996521951660972735479027990947060043115083917949168200323041593656569302669535377774123378085539195783572932112166539323561441937920580889744256865042652178519653545620815178381625⟩) (AV.int .u32 x113) fun x133=>
ixK 1 v2.1 (AV.int .i64 x128) fun p134=>
stV p134 (AV.int .u8 x132) h126 fun h135=>
ixK 1 v2.1 (AV.int .i64 x130) fun p136=>
stV p136 (AV.int .u8 x133) h135 fun h137=>
asI .i64 v2.2.2.1 fun x138=>
fI (Qd .i64 (Int.sub x138 (Int.ofNat 4))) fun x139=>
j74 (v2.1,(AV.int .i64 x139),(AV.int .u32 x111),()) d3 h137))))) (
j74 (v2.1,v2.2.2.1,(AV.int .u32 x70),()) d3 h4))) (a0,(AV.int .u64 a1),(AV.int .i64 (Int.ofNat x1)),()) [] h
def s79:AV→Int→H→(H→Prop)→Prop:=s79G J0
def w79 (c:AV→Int→H→(H→Prop)→Prop):Fun:=fun xs h k=>arg xs fun a0 xs=>arg xs fun a1 xs=>QY xs <| asI .u64 a1 fun a1=>c a0 a1 h fun  h=>k (.tuple []) h
theorem s79_eq (J:Qh) (a0:AV) (a1:Int) (h:H) (k:AV→H→Prop):Zl ty (gam J []) Tryd.f79 [a0,(.int .u64 a1)] h k=s79G J  a0 a1 h (fun  h=>k (.tuple []) h):=by kernel_rfl
def g79:Fun:=w79 s79
theorem g79_ok:Qt Tryd.prog 79 g79:=(QA QD QE (Qv (J:=J0) (Ql Qn)) Tryd.func79 (fun args w=>by simp)).imp fun xs h k e0=>by
  obtain ⟨a0,xs0,rfl,e1⟩:=Qf e0
  obtain ⟨a1,xs1,rfl,e2⟩:=Qf e1
  obtain ⟨rfl,e3⟩:=Qi e2
  obtain ⟨a1,rfl,e4⟩:=QC.1 e3
  exact (s79_eq J0  a0 a1 h k).mpr e4
def QdN (J:Qh) (c77:Int→H→(Str→H→Prop)→Prop) (c78:Int→H→(Int→H→Prop)→Prop) (c79:AV→Int→H→(H→Prop)→Prop) (a0:Int) (a1:Int) (h:H) (k:Str→H→Prop):Prop :=
fB (eqI a1 (Int.ofNat 10)) fun b1=>
br b1 (
fB (Bool.not (ltI a0 (Int.ofNat 0))) fun b2=>
J.jn (fun v3 h4=>
J.jn (fun v6 h7=>
Q3 (AV.bool b2) v6 (AV.bool false) fun b11=>
br b11 (
c77 a0 h7 fun s13 h12=>
k s13 h12) (
Qz (.cells false 142 [(.int .u8 0),(.int .u8 0),(.int .u8 0),(.int .u8 0),(.int .u8 0),(.int .u8 0),(.int .u8 0),(.int .u8 0),(.int .u8 0),(.int .u8 0),(.int .u8 0),(.int .u8 0),(.int .u8 0),(.int .u8 0),(.int .u8 0),(.int .u8 0),(.int .u8 0),(.int .u8 0),(.int .u8 0),(.int .u8 0),(.int .u8 0),(.int .u8 0),(.int .u8 0),(.int .u8 0)]) h7 fun n14 h15=>
fI (Qd .u64 a0) fun x16=>
J.jd (α:=AV × AV × AV × Unit) (fun v17 d18 h19=>
asI .u64 v17.2.2.1 fun x22=>
c78 x22 h19 fun x23 h21=>
fI (Qd .i64 (Int.add (Int.ofNat 1) x23)) fun x24=>
op2 (Va 24 v17.2.1 (some (AV.int .i64 (Int.ofNat 1))) (some (AV.int .i64 x24)) h21) fun v25 h26=>
asI .u64 v17.2.2.1 fun x28=>
c79 v25 x28 h26 fun  h27=>
asI .i64 v17.1 fun x29=>
fB (ltI x29 (Int.ofNat 0)) fun b30=>
br b30 (
QdU 24 1 v17.2.1 (AV.int .i64 (Int.ofNat 0)) fun p31=>
stV p31 (AV.int .u8 (Int.ofNat 45)) h27 fun h32=>
fI (Qd .i64 (Int.add (Int.ofNat 1) x23)) fun x33=>
op2 (Va 24 v17.2.1 none (some (AV.int .i64 x33)) h32) fun v34 h35=>
Y1 v34 h35 fun s36=>
Qu (gam J [(77,w77 c77),(78,w78 c78),(79,w79 c79)]) d18 h35 fun h37=>
k s36 h37) (
fI (Qd .i64 (Int.add (Int.ofNat 1) x23)) fun x38=>
op2 (Va 24 v17.2.1 (some (AV.int .i64 (Int.ofNat 1))) (some (AV.int .i64 x38)) h27) fun v39 h40=>
Y1 v39 h40 fun s41=>
Qu (gam J [(77,w77 c77),(78,w78 c78),(79,w79 c79)]) d18 h40 fun h42=>
k s41 h42)) fun j20=>
fB (ltI a0 (Int.ofNat 0)) fun b43=>
br b43 (
op' (aUn .neg (AV.int .u64 x16)) fun v44=>
asI .u64 v44 fun x45=>
j20 ((AV.int .i64 a0),(AV.ptr n14 0),(AV.int .u64 x45),()) [] h15) (
j20 ((AV.int .i64 a0),(AV.ptr n14 0),(AV.int .u64 x16),()) [] h15))) fun j8=>
br b2 (
asI .i64 v3 fun x9=>
fB (ltI x9 (Int.ofNat 100)) fun b10=>
j8 (AV.bool b10) h4) (
j8 Qb h4)) fun j5=>
br b2 (
j5 (AV.int .i64 a0) h) (
j5 Qb h)) (
fI (Qd .u64 a0) fun x46=>
fB (ltI a0 (Int.ofNat 0)) fun b47=>
False)
def s70:Int→Int→H→(Str→H→Prop)→Prop:=QdN J0 s77 s78 s79
def w70 (c:Int→Int→H→(Str→H→Prop)→Prop):Fun:=fun xs h k=>arg xs fun a0 xs=>arg xs fun a1 xs=>QY xs <| asI .i64 a0 fun a0=>asI .i64 a1 fun a1=>c a0 a1 h fun r0 h=>k (.str r0) h
theorem s70_eq (J:Qh) (c77:Int→H→(Str→H→Prop)→Prop) (c78:Int→H→(Int→H→Prop)→Prop) (c79:AV→Int→H→(H→Prop)→Prop) (a0:Int) (a1:Int) (h:H) (k:AV→H→Prop):Zl ty (gam J [(77,w77 c77),(78,w78 c78),(79,w79 c79)]) Tryd.f70 [(.int .i64 a0),(.int .i64 a1)] h k=QdN J c77 c78 c79 a0 a1 h (fun r0 h=>k (.str r0) h):=by kernel_rfl
def g70:Fun:=w70 s70
theorem g70_ok:Qt Tryd.prog 70 g70:=(QA QD QE (Qv (J:=J0) (Qc g77_ok (Qc g78_ok (Qc g79_ok (Ql Qn))))) Tryd.func70 (fun args w=>by simp)).imp fun xs h k e0=>by
  obtain ⟨a0,xs0,rfl,e1⟩:=Qf e0
  obtain ⟨a1,xs1,rfl,e2⟩:=Qf e1
  obtain ⟨rfl,e3⟩:=Qi e2
  obtain ⟨a0,rfl,e4⟩:=QC.1 e3
  obtain ⟨a1,rfl,e5⟩:=QC.1 e4
  exact (s70_eq J0 s77 s78 s79 a0 a1 h k).mpr e5
def Qeb (J:Qh) (c70:Int→Int→H→(Str→H→Prop)→Prop) (a0:Int) (h:H) (k:Str→H→Prop):Prop :=
c70 a0 (Int.ofNat 10) h fun s2 h1=>
k s2 h1
def s57:Int→H→(Str→H→Prop)→Prop:=Qeb J0 s70
def w57 (c:Int→H→(Str→H→Prop)→Prop):Fun:=fun xs h k=>arg xs fun a0 xs=>QY xs <| asI .i64 a0 fun a0=>c a0 h fun r0 h=>k (.str r0) h
theorem s57_eq (J:Qh) (c70:Int→Int→H→(Str→H→Prop)→Prop) (a0:Int) (h:H) (k:AV→H→Prop):Zl ty (gam J [(70,w70 c70)]) Tryd.f57 [(.int .i64 a0)] h k=Qeb J c70 a0 h (fun r0 h=>k (.str r0) h):=by kernel_rfl
def g57:Fun:=w57 s57
theorem g57_ok:Qt Tryd.prog 57 g57:=(QA QD QE (Qv (J:=J0) (Qc g70_ok (Ql Qn))) Tryd.func57 (fun args w=>by simp)).imp fun xs h k e0=>by
  obtain ⟨a0,xs0,rfl,e1⟩:=Qf e0
  obtain ⟨rfl,e2⟩:=Qi e1
  obtain ⟨a0,rfl,e3⟩:=QC.1 e2
  exact (s57_eq J0 s70 a0 h k).mpr e3
def Qec (J:Qh) (c57:Int→H→(Str→H→Prop)→Prop) (a0:Int) (h:H) (k:Str→H→Prop):Prop :=
c57 a0 h fun s2 h1=>
k s2 h1
def s41:Int→H→(Str→H→Prop)→Prop:=Qec J0 s57
def w41 (c:Int→H→(Str→H→Prop)→Prop):Fun:=fun xs h k=>arg xs fun a0 xs=>QY xs <| asI .i64 a0 fun a0=>c a0 h fun r0 h=>k (.str r0) h
theorem s41_eq (J:Qh) (c57:Int→H→(Str→H→Prop)→Prop) (a0:Int) (h:H) (k:AV→H→Prop):Zl ty (gam J [(57,w57 c57)]) Tryd.f41 [(.int .i64 a0)] h k=Qec J c57 a0 h (fun r0 h=>k (.str r0) h):=by kernel_rfl
def g41:Fun:=w41 s41
theorem QeV:Qt Tryd.prog 41 g41:=(QA QD QE (Qv (J:=J0) (Qc g57_ok (Ql Qn))) Tryd.func41 (fun args w=>by simp)).imp fun xs h k e0=>by
  obtain ⟨a0,xs0,rfl,e1⟩:=Qf e0
  obtain ⟨rfl,e2⟩:=Qi e1
  obtain ⟨a0,rfl,e3⟩:=QC.1 e2
  exact (s41_eq J0 s57 a0 h k).mpr e3
def g71:Fun:=Wb ty (gam J0 []) Tryd.f71
theorem g71_ok:Qt Tryd.prog 71 g71:=Ya QD QE (Qv (J:=J0) (Ql Qn)) Tryd.func71 (fun args w=>by simp)
def g72:Fun:=Wb ty (gam J0 []) Tryd.f72
theorem g72_ok:Qt Tryd.prog 72 g72:=Ya QD QE (Qv (J:=J0) (Ql Qn)) Tryd.func72 (fun args w=>by simp)
def g58:Fun:=Wb ty (gam J0 [(71,g71),(72,g72)]) Tryd.f58
theorem g58_ok:Qt Tryd.prog 58 g58:=Ya QD QE (Qv (J:=J0) (Qc g71_ok (Qc g72_ok (Ql Qn)))) Tryd.func58 (fun args w=>by simp)
def g73:Fun:=Wb ty (gam J0 []) Tryd.f73
theorem g73_ok:Qt Tryd.prog 73 g73:=Ya QD QE (Qv (J:=J0) (Ql Qn)) Tryd.func73 (fun args w=>by simp)
def g59:Fun:=Wb ty (gam J0 [(73,g73)]) Tryd.f59
theorem g59_ok:Qt Tryd.prog 59 g59:=Ya QD QE (Qv (J:=J0) (Qc g73_ok (Ql Qn))) Tryd.func59 (fun args w=>by simp)
def g81:Fun:=Qew
theorem g81_ok:Qt Tryd.prog 81 g81:=noEscape_ok Tryd.func81 (by kernel_rfl) (by kernel_rfl) (by kernel_rfl) (by kernel_rfl)
def g74:Fun:=Wb ty (gam J0 [(81,g81)]) Tryd.f74
theorem QeJ:Qt Tryd.prog 74 g74:=Ya QD QE (Qv (J:=J0) (Qc g81_ok (Ql Qn))) Tryd.func74 (fun args w=>by simp)
def g82:Fun:=mnzF 5
theorem g82_ok:Qt Tryd.prog 82 g82:=makeNoZero_ok (t:=39) (e:=5) Tryd.func82 (by kernel_rfl) (by kernel_rfl) (by kernel_rfl) (by kernel_rfl) Tryd.underlying39
def g75:Fun:=Wb ty (gam J0 [(82,g82)]) Tryd.f75
theorem g75_ok:Qt Tryd.prog 75 g75:=Ya QD QE (Qv (J:=J0) (Qc g82_ok (Ql Qn))) Tryd.func75 (fun args w=>by simp)
def g60:Fun:=Wb ty (gam J0 [(74,g74),(75,g75)]) Tryd.f60
theorem g60_ok:Qt Tryd.prog 60 g60:=Ya QD QE (Qv (J:=J0) (Qc QeJ (Qc g75_ok (Ql Qn)))) Tryd.func60 (fun args w=>by simp)
end Go.Proofs.YtfgdelkdmdmfgaaDoor
