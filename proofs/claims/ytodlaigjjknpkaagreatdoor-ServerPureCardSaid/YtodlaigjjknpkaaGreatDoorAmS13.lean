import Derived.Test.YtodlaigjjknpkaaGreatDoorAmS12
noncomputable section
namespace Go.Proofs.YtodlaigjjknpkaaGreatDoor
open Go Go.Am
set_option maxRecDepth 100000
set_option linter.all false
def Qed (J : Qm) (cd : Code→Ks→List AV→List Dfr→H→Prop) (a0 : AV) (a1 : AV) (h : H) (k : H→Prop) : Prop :=
ldV a1 h fun v1=>
Z9 v1 h fun v2 h3=>
J.lp (α:=AV × AV × Unit) (fun r7 v4 d5 h6=>
YV v4.2.1 h6 fun v8 h9=>
asTup v8 fun l10=>
op' (Zd l10 0) fun v11=>
asB v11 fun b12=>
br b12 (
op' (ZV v4.2.1 h9) fun v13=>
asTup v13 fun l14=>
op' (Zd l14 0) fun v15=>
asS v15 fun s16=>
Nd (YB J [] [] cd) v4.1 [(AV.str s16)] h9 fun v17 h18=>
asB v17 fun b19=>
fB (Bool.not b19) fun b20=>
br b20 (
Qr (YB J [] [] cd) d5 h18 fun h21=>
k  h21) (
r7 (v4.1,v4.2.1,()) d5 h18)) (
Qr (YB J [] [] cd) d5 h9 fun h22=>
k  h22)) (a0,v2,()) [] h3
def s250 : AV→AV→H→(H→Prop)→Prop:=Qed J0  Zw
def Nl (c : AV→AV→H→(H→Prop)→Prop) : Fun:=fun xs h k=>arg xs fun a0 xs=>arg xs fun a1 xs=>QB xs <| c a0 a1 h fun  h=>k (.tuple []) h
theorem Qbj (J : Qm) (cd : Code→Ks→List AV→List Dfr→H→Prop) (a0 : AV) (a1 : AV) (h : H) (k : AV→H→Prop) : Ql ty (YB J [] [] cd) Tryz.f250 [a0,a1] h k = Qed J  cd a0 a1 h (fun  h=>k (.tuple []) h):=by kernel_rfl
def g250 : Fun:=Nl s250
theorem g250_ok : Qe Tryz.prog 250 g250:=(Qf Qi Qj (Y7 (J:=J0) (Qc Qd) (Qc Wq) Yo) Tryz.func250 (fun args w=>by simp)).imp fun xs h k e0=>by
  obtain ⟨a0,xs0,rfl,e1⟩:=Qp e0
  obtain ⟨a1,xs1,rfl,e2⟩:=Qp e1
  obtain ⟨rfl,e3⟩:=Qt e2
  exact (Qbj J0  Zw a0 a1 h k).mpr e3
def Wa : AV→AV→H→(H→Prop)→Prop:=Qed J0  (Kk ty (YB J0 [] [] Zw))
theorem i250_320_ok : ItOk Tryz.prog 250 (Nl Wa):=(Qb9 Qi Qj (Y7 (J:=J0) (Qc Qd) (Qc Wq) (Db Qi Qj (Y7 (J:=J0) (Qc Qd) (Qc Wq) Yo))) Tryz.func250 (fun args w=>by simp)).imp fun xs h k e0=>by
  obtain ⟨a0,xs0,rfl,e1⟩:=Qp e0
  obtain ⟨a1,xs1,rfl,e2⟩:=Qp e1
  obtain ⟨rfl,e3⟩:=Qt e2
  exact (Qbj J0  (Kk ty (YB J0 [] [] Zw)) a0 a1 h k).mpr e3
def s320G (J : Qm) (i250 : AV→AV→H→(H→Prop)→Prop) (a0 : AV) (a1 : AV) (h : H) (k : AV→H→Prop) : Prop :=
ck (ZQ a0) (
Qs (.cells false 22 [a0]) h fun n1 h2=>
J.jd (α:=AV × Unit) (fun v3 d4 h5=>
ldV v3.1 h5 fun v7=>
Qr (YB J [] [(250,Nl i250)] Zw) d4 h5 fun h8=>
k v7 h8) fun j6=>
rfK (YB J [] [(250,Nl i250)] Zw) a1 [7] (Wx Tryz.f320 0) [a0,a1,(AV.ptr n1 0),AV.junk,AV.nils,AV.junk,a1,AV.junk,AV.junk,AV.junk,AV.junk,AV.junk,AV.junk] h2 fun n9 n10 h11=>
endR n9 n10 (fun d12 h13=>
j6 ((AV.ptr n1 0),()) d12 h13) (fun d12 h13=>
Qr (YB J [] [(250,Nl i250)] Zw) d12 h13 fun h15=>
k AV.nils h15) (fun i14 d12 h13=>
exB (Nat.beq i14 0) (fun d12 h13=>
j6 ((AV.ptr n1 0),()) d12 h13) (fun d12 h13=>
False) d12 h13) [] h11)
def Qdi : AV→AV→H→(AV→H→Prop)→Prop:=s320G J0  Wa
def w320 (c : AV→AV→H→(AV→H→Prop)→Prop) : Fun:=fun xs h k=>arg xs fun a0 xs=>arg xs fun a1 xs=>QB xs <| c a0 a1 h fun r0 h=>k r0 h
theorem s320_eq (J : Qm) (i250 : AV→AV→H→(H→Prop)→Prop) (a0 : AV) (a1 : AV) (h : H) (k : AV→H→Prop) : Ql ty (YB J [] [(250,Nl i250)] Zw) Tryz.f320 [a0,a1] h k = s320G J  i250 a0 a1 h (fun r0 h=>k r0 h):=by kernel_rfl
def g320 : Fun:=w320 Qdi
theorem g320_ok : Qe Tryz.prog 320 g320:=(Qf Qi Qj (Y7 (J:=J0) (Qc Qd) (Qa i250_320_ok (Qc Wq)) Yo) Tryz.func320 (fun args w=>by simp)).imp fun xs h k e0=>by
  obtain ⟨a0,xs0,rfl,e1⟩:=Qp e0
  obtain ⟨a1,xs1,rfl,e2⟩:=Qp e1
  obtain ⟨rfl,e3⟩:=Qt e2
  exact (s320_eq J0  Wa a0 a1 h k).mpr e3
def s248G (J : Qm) (c320 : AV→AV→H→(AV→H→Prop)→Prop) (a0 : AV) (h : H) (k : AV→H→Prop) : Prop :=
c320 AV.nils a0 h fun v2 h1=>
k v2 h1
def s248 : AV→H→(AV→H→Prop)→Prop:=s248G J0 Qdi
def w248 (c : AV→H→(AV→H→Prop)→Prop) : Fun:=fun xs h k=>arg xs fun a0 xs=>QB xs <| c a0 h fun r0 h=>k r0 h
theorem s248_eq (J : Qm) (c320 : AV→AV→H→(AV→H→Prop)→Prop) (a0 : AV) (h : H) (k : AV→H→Prop) : Ql ty (gam J [(320,w320 c320)]) Tryz.f248 [a0] h k = s248G J c320 a0 h (fun r0 h=>k r0 h):=by kernel_rfl
def g248 : Fun:=w248 s248
theorem g248_ok : Qe Tryz.prog 248 g248:=(Qf Qi Qj (Qg (J:=J0) (Qa g320_ok (Qc Qd))) Tryz.func248 (fun args w=>by simp)).imp fun xs h k e0=>by
  obtain ⟨a0,xs0,rfl,e1⟩:=Qp e0
  obtain ⟨rfl,e2⟩:=Qt e1
  exact (s248_eq J0 Qdi a0 h k).mpr e2
def s366G (J : Qm) (c139 : Str→Str→H→(Bool→H→Prop)→Prop) (a0 : AV) (a1 : Int) (a2 : Int) (h : H) (k : H→Prop) : Prop :=
fI (Qu .i64 (Int.add a1 (Int.ofNat 1))) fun x1=>
J.lp (α:=AV × AV × AV × AV × Unit) (fun r5 v2 d3 h4=>
asI .i64 v2.2.2.2.1 fun x6=>
asI .i64 v2.2.2.1 fun x7=>
fB (ltI x6 x7) fun b8=>
br b8 (
J.lp (α:=AV × AV × AV × AV × AV × Unit) (fun r12 v9 d10 h11=>
asI .i64 v9.2.2.2.2.1 fun x13=>
asI .i64 v9.2.1 fun x14=>
fB (ltI x14 x13) fun b15=>
J.jn (fun v16 h17=>
J.jn (fun v19 h20=>
J.jn (fun v22 h23=>
J.jb (fun b26 v27=>
J.jn (fun v30 h31=>
J.jn (fun v33 h34=>
J.jn (fun v36 h37=>
J.jn (fun v41 h42=>
J.jb (fun b45 v46=>
J.jn (fun v49 h50=>
Qo (AV.bool b15) v49 (AV.bool false) fun b56=>
br b56 (
asI .i64 v9.2.2.2.2.1 fun x57=>
fI (Qu .i64 (Int.sub x57 (Int.ofNat 1))) fun x58=>
asI .i64 v9.2.2.2.2.1 fun x59=>
fI (Qu .i64 (Int.sub x59 (Int.ofNat 1))) fun x60=>
ixK 1 v9.1 (AV.int .i64 x60) fun p61=>
ldS p61 h50 fun s62=>
ixK 1 v9.1 v9.2.2.2.2.1 fun p63=>
ldS p63 h50 fun s64=>
ixK 1 v9.1 v9.2.2.2.2.1 fun p65=>
stV p65 (AV.str s62) h50 fun h66=>
ixK 1 v9.1 (AV.int .i64 x58) fun p67=>
stV p67 (AV.str s64) h66 fun h68=>
asI .i64 v9.2.2.2.2.1 fun x69=>
fI (Qu .i64 (Int.sub x69 (Int.ofNat 1))) fun x70=>
r12 (v9.1,v9.2.1,v9.2.2.1,v9.2.2.2.1,(AV.int .i64 x70),()) d10 h68) (
asI .i64 v9.2.2.2.1 fun x71=>
fI (Qu .i64 (Int.add x71 (Int.ofNat 1))) fun x72=>
r5 (v9.1,v9.2.1,v9.2.2.1,(AV.int .i64 x72),()) d10 h50)) fun j51=>
br b15 (
asS v27 fun s53=>
asS v46 fun s54=>
c139 s53 s54 h42 fun b55 h52=>
j51 (AV.bool b55) h52) (
j51 Qb h42)) fun j47=>
br b15 (
ldS v41 h42 fun s48=>
j47 true (AV.str s48)) (
j47 false Qb)) fun j43=>
br b15 (
ixK 1 v30 v36 fun p44=>
j43 p44 h37) (
j43 Qb h37)) fun j38=>
br b15 (
asI .i64 v33 fun x39=>
fI (Qu .i64 (Int.sub x39 (Int.ofNat 1))) fun x40=>
j38 (AV.int .i64 x40) h34) (
j38 Qb h34)) fun j35=>
br b15 (
j35 v9.2.2.2.2.1 h31) (
j35 Qb h31)) fun j32=>
br b15 (
j32 v9.1 h23) (
j32 Qb h23)) fun j28=>
br b15 (
ldS v22 h23 fun s29=>
j28 true (AV.str s29)) (
j28 false Qb)) fun j24=>
br b15 (
ixK 1 v16 v19 fun p25=>
j24 p25 h20) (
j24 Qb h20)) fun j21=>
br b15 (
j21 v9.2.2.2.2.1 h17) (
j21 Qb h17)) fun j18=>
br b15 (
j18 v9.1 h11) (
j18 Qb h11)) (v2.1,v2.2.1,v2.2.2.1,v2.2.2.2.1,v2.2.2.2.1,()) d3 h4) (
Qr (gam J [(139,Nm c139)]) d3 h4 fun h73=>
k  h73)) (a0,(AV.int .i64 a1),(AV.int .i64 a2),(AV.int .i64 x1),()) [] h
def DF : AV→Int→Int→H→(H→Prop)→Prop:=s366G J0 Ub
def w366 (c : AV→Int→Int→H→(H→Prop)→Prop) : Fun:=fun xs h k=>arg xs fun a0 xs=>arg xs fun a1 xs=>arg xs fun a2 xs=>QB xs <| asI .i64 a1 fun a1=>asI .i64 a2 fun a2=>c a0 a1 a2 h fun  h=>k (.tuple []) h
theorem s366_eq (J : Qm) (c139 : Str→Str→H→(Bool→H→Prop)→Prop) (a0 : AV) (a1 : Int) (a2 : Int) (h : H) (k : AV→H→Prop) : Ql ty (gam J [(139,Nm c139)]) Tryz.f366 [a0,(.int .i64 a1),(.int .i64 a2)] h k = s366G J c139 a0 a1 a2 h (fun  h=>k (.tuple []) h):=by kernel_rfl
def g366 : Fun:=w366 DF
theorem g366_ok : Qe Tryz.prog 366 g366:=(Qf Qi Qj (Qg (J:=J0) (Qa N0 (Qc Qd))) Tryz.func366 (fun args w=>by simp)).imp fun xs h k e0=>by
  obtain ⟨a0,xs0,rfl,e1⟩:=Qp e0
  obtain ⟨a1,xs1,rfl,e2⟩:=Qp e1
  obtain ⟨a2,xs2,rfl,e3⟩:=Qp e2
  obtain ⟨rfl,e4⟩:=Qt e3
  obtain ⟨a1,rfl,e5⟩:=QD.1 e4
  obtain ⟨a2,rfl,e6⟩:=QD.1 e5
  exact (s366_eq J0 Ub a0 a1 a2 h k).mpr e6
def DG (J : Qm) (c139 : Str→Str→H→(Bool→H→Prop)→Prop) (c366 : AV→Int→Int→H→(H→Prop)→Prop) (a0 : AV) (a1 : Int) (a2 : Int) (a3 : Int) (h : H) (k : H→Prop) : Prop :=
J.lp (α:=AV × AV × AV × AV × AV × AV × Unit) (fun r4 v1 d2 h3=>
asI .i64 v1.2.2.1 fun x5=>
asI .i64 v1.2.1 fun x6=>
fI (Qu .i64 (Int.sub x5 x6)) fun x7=>
fB (Bool.not (ltI (Int.ofNat 12) x7)) fun b8=>
br b8 (
asI .i64 v1.2.1 fun x10=>
asI .i64 v1.2.2.1 fun x11=>
c366 v1.1 x10 x11 h3 fun  h9=>
Qr (gam J [(139,Nm c139),(366,w366 c366)]) d2 h9 fun h12=>
k  h12) (
asI .i64 v1.2.2.2.1 fun x13=>
fB (eqI x13 (Int.ofNat 0)) fun b14=>
br b14 (
False) (
J.jd (α:=AV × AV × AV × AV × AV × AV × AV × Unit) (fun v15 d16 h17=>
False) fun j18=>
asB v1.2.2.2.2.1 fun b19=>
fB (Bool.not b19) fun b20=>
br b20 (
False) (
j18 (v1.1,v1.2.1,v1.2.2.1,v1.2.2.2.1,v1.2.2.2.2.1,v1.2.2.2.2.2.1,(AV.int .i64 x7),()) d2 h3)))) (a0,(AV.int .i64 a1),(AV.int .i64 a2),(AV.int .i64 a3),(AV.bool true),(AV.bool true),()) [] h
def Qea : AV→Int→Int→Int→H→(H→Prop)→Prop:=DG J0 Ub DF
def w321 (c : AV→Int→Int→Int→H→(H→Prop)→Prop) : Fun:=fun xs h k=>arg xs fun a0 xs=>arg xs fun a1 xs=>arg xs fun a2 xs=>arg xs fun a3 xs=>QB xs <| asI .i64 a1 fun a1=>asI .i64 a2 fun a2=>asI .i64 a3 fun a3=>c a0 a1 a2 a3 h fun  h=>k (.tuple []) h
theorem s321_eq (J : Qm) (c139 : Str→Str→H→(Bool→H→Prop)→Prop) (c366 : AV→Int→Int→H→(H→Prop)→Prop) (a0 : AV) (a1 : Int) (a2 : Int) (a3 : Int) (h : H) (k : AV→H→Prop) : Ql ty (gam J [(139,Nm c139),(366,w366 c366)]) Tryz.f321 [a0,(.int .i64 a1),(.int .i64 a2),(.int .i64 a3)] h k = DG J c139 c366 a0 a1 a2 a3 h (fun  h=>k (.tuple []) h):=by kernel_rfl
def g321 : Fun:=w321 Qea
theorem g321_ok : Qe Tryz.prog 321 g321:=(Qf Qi Qj (Qg (J:=J0) (Qa N0 (Qa g366_ok (Qc Qd)))) Tryz.func321 (fun args w=>by simp)).imp fun xs h k e0=>by
  obtain ⟨a0,xs0,rfl,e1⟩:=Qp e0
  obtain ⟨a1,xs1,rfl,e2⟩:=Qp e1
  obtain ⟨a2,xs2,rfl,e3⟩:=Qp e2
  obtain ⟨a3,xs3,rfl,e4⟩:=Qp e3
  obtain ⟨rfl,e5⟩:=Qt e4
  obtain ⟨a1,rfl,e6⟩:=QD.1 e5
  obtain ⟨a2,rfl,e7⟩:=QD.1 e6
  obtain ⟨a3,rfl,e8⟩:=QD.1 e7
  exact (s321_eq J0 Ub DF a0 a1 a2 a3 h k).mpr e8
def g374 : Fun:=Ql ty (gam J0 []) Tryz.f374
theorem g374_ok : Qe Tryz.prog 374 g374:=Qf Qi Qj (Qg (J:=J0) (Qc Qd)) Tryz.func374 (fun args w=>by simp)
def Qd8 (J : Qm) (c374 : Fun) (c375 : Int→H→(Int→H→Prop)→Prop) (a0 : Int) (h : H) (k : Int→H→Prop) : Prop :=
br false (
fI (Qu .u32 a0) fun x1=>
c374 [(AV.int .u32 x1)] h fun v2 h3=>
asI .i64 v2 fun x4=>
k x4 h3) (
c375 a0 h fun x6 h5=>
k x6 h5)
def Qd9 : Int→H→(Int→H→Prop)→Prop:=Qd8 J0 g374 s375
def w322 (c : Int→H→(Int→H→Prop)→Prop) : Fun:=fun xs h k=>arg xs fun a0 xs=>QB xs <| asI .u64 a0 fun a0=>c a0 h fun r0 h=>k (.int .i64 r0) h
theorem s322_eq (J : Qm) (c374 : Fun) (c375 : Int→H→(Int→H→Prop)→Prop) (a0 : Int) (h : H) (k : AV→H→Prop) : Ql ty (gam J [(374,c374),(375,w375 c375)]) Tryz.f322 [(.int .u64 a0)] h k = Qd8 J c374 c375 a0 h (fun r0 h=>k (.int .i64 r0) h):=by kernel_rfl
def g322 : Fun:=w322 Qd9
theorem g322_ok : Qe Tryz.prog 322 g322:=(Qf Qi Qj (Qg (J:=J0) (Qa g374_ok (Qa Qcd (Qc Qd)))) Tryz.func322 (fun args w=>by simp)).imp fun xs h k e0=>by
  obtain ⟨a0,xs0,rfl,e1⟩:=Qp e0
  obtain ⟨rfl,e2⟩:=Qt e1
  obtain ⟨a0,rfl,e3⟩:=QD.1 e2
  exact (s322_eq J0 g374 s375 a0 h k).mpr e3
def Qbk (J : Qm) (c321 : AV→Int→Int→Int→H→(H→Prop)→Prop) (c322 : Int→H→(Int→H→Prop)→Prop) (a0 : AV) (h : H) (k : H→Prop) : Prop :=
Q6 a0 fun x1=>
fI (Qu .u64 (Int.ofNat x1)) fun x2=>
c322 x2 h fun x4 h3=>
c321 a0 (Int.ofNat 0) (Int.ofNat x1) x4 h3 fun  h5=>
k  h5
def Nr : AV→H→(H→Prop)→Prop:=Qbk J0 Qea Qd9
def w249 (c : AV→H→(H→Prop)→Prop) : Fun:=fun xs h k=>arg xs fun a0 xs=>QB xs <| c a0 h fun  h=>k (.tuple []) h
theorem s249_eq (J : Qm) (c321 : AV→Int→Int→Int→H→(H→Prop)→Prop) (c322 : Int→H→(Int→H→Prop)→Prop) (a0 : AV) (h : H) (k : AV→H→Prop) : Ql ty (gam J [(321,w321 c321),(322,w322 c322)]) Tryz.f249 [a0] h k = Qbk J c321 c322 a0 h (fun  h=>k (.tuple []) h):=by kernel_rfl
def g249 : Fun:=w249 Nr
theorem g249_ok : Qe Tryz.prog 249 g249:=(Qf Qi Qj (Qg (J:=J0) (Qa g321_ok (Qa g322_ok (Qc Qd)))) Tryz.func249 (fun args w=>by simp)).imp fun xs h k e0=>by
  obtain ⟨a0,xs0,rfl,e1⟩:=Qp e0
  obtain ⟨rfl,e2⟩:=Qt e1
  exact (s249_eq J0 Qea Qd9 a0 h k).mpr e2
def Qem (J : Qm) (c248 : AV→H→(AV→H→Prop)→Prop) (c249 : AV→H→(H→Prop)→Prop) (a0 : AV) (h : H) (k : AV→H→Prop) : Prop :=
c248 a0 h fun v2 h1=>
c249 v2 h1 fun  h3=>
k v2 h3
def w174 (c : AV→H→(AV→H→Prop)→Prop) : Fun:=fun xs h k=>arg xs fun a0 xs=>QB xs <| c a0 h fun r0 h=>k r0 h
theorem s174_eq (J : Qm) (c248 : AV→H→(AV→H→Prop)→Prop) (c249 : AV→H→(H→Prop)→Prop) (a0 : AV) (h : H) (k : AV→H→Prop) : Ql ty (gam J [(248,w248 c248),(249,w249 c249)]) Tryz.f174 [a0] h k = Qem J c248 c249 a0 h (fun r0 h=>k r0 h):=by kernel_rfl
end Go.Proofs.YtodlaigjjknpkaaGreatDoor
