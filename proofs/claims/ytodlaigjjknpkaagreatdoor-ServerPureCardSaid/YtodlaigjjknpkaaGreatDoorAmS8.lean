import Derived.Test.YtodlaigjjknpkaaGreatDoorAmS7
noncomputable section
namespace Go.Proofs.YtodlaigjjknpkaaGreatDoor
open Go Go.Am
set_option maxRecDepth 100000
set_option linter.all false
def s51G (J : Qm) (c24 : AV→H→(Int→H→Prop)→Prop) (c89 : AV→Str→H→(Int→Bool→H→Prop)→Prop) (a0 : AV) (a1 : Str) (h : H) (k : Int→Int→H→Prop) : Prop :=
c24 a0 h fun x2 h1=>
fB (Bool.not (eqI x2 (Int.ofNat 0))) fun b3=>
br b3 (
k (Int.ofNat 0) x2 h1) (
c89 a0 a1 h1 fun x5 b6 h4=>
J.jd (α:=AV × Unit) (fun v7 d8 h9=>
Qr (gam J [(24,w24 c24),(89,w89 c89)]) d8 h9 fun h11=>
asI .i64 v7.1 fun x12=>
k x12 (Int.ofNat 0) h11) fun j10=>
br b6 (
fI (Qu .i64 (Int.add x5 (Int.ofNat 1))) fun x13=>
j10 ((AV.int .i64 x13),()) [] h4) (
j10 ((AV.int .i64 x5),()) [] h4))
def s51 : AV→Str→H→(Int→Int→H→Prop)→Prop:=s51G J0 s24 s89
def w51 (c : AV→Str→H→(Int→Int→H→Prop)→Prop) : Fun:=fun xs h k=>arg xs fun a0 xs=>arg xs fun a1 xs=>QB xs <| asS a1 fun a1=>c a0 a1 h fun r0 r1 h=>k (.tuple [(.int .i64 r0),(.int .i64 r1)]) h
theorem QdW (J : Qm) (c24 : AV→H→(Int→H→Prop)→Prop) (c89 : AV→Str→H→(Int→Bool→H→Prop)→Prop) (a0 : AV) (a1 : Str) (h : H) (k : AV→H→Prop) : Ql ty (gam J [(24,w24 c24),(89,w89 c89)]) Tryz.f51 [a0,(.str a1)] h k = s51G J c24 c89 a0 a1 h (fun r0 r1 h=>k (.tuple [(.int .i64 r0),(.int .i64 r1)]) h):=by kernel_rfl
def g51 : Fun:=w51 s51
theorem g51_ok : Qe Tryz.prog 51 g51:=(Qf Qi Qj (Qg (J:=J0) (Qa NU (Qa g89_ok (Qc Qd)))) Tryz.func51 (fun args w=>by simp)).imp fun xs h k e0=>by
  obtain ⟨a0,xs0,rfl,e1⟩:=Qp e0
  obtain ⟨a1,xs1,rfl,e2⟩:=Qp e1
  obtain ⟨rfl,e3⟩:=Qt e2
  obtain ⟨a1,rfl,e4⟩:=QI.1 e3
  exact (QdW J0 s24 s89 a0 a1 h k).mpr e4
def s20G (J : Qm) (c51 : AV→Str→H→(Int→Int→H→Prop)→Prop) (a0 : AV) (a1 : Str) (a2 : Int) (h : H) (k : Int→Int→H→Prop) : Prop :=
c51 a0 a1 h fun x2 x3 h1=>
fB (Bool.not (eqI x3 (Int.ofNat 0))) fun b4=>
br b4 (
k (Int.ofNat 0) x3 h1) (
fB (ltI a2 (Int.ofNat 1)) fun b5=>
J.jn (fun v6 h7=>
J.jn (fun v9 h10=>
Qo (AV.bool b5) (AV.bool true) v9 fun b14=>
br b14 (
k (Int.ofNat 0) (Int.ofNat 2) h10) (
ck (Bool.not (eqI a2 0)) (fI (Int.tmod x2 a2) fun x15=>
k x15 (Int.ofNat 0) h10))) fun j11=>
br b5 (
j11 Qb h7) (
asI .i64 v6 fun x12=>
fB (ltI (Int.ofNat 7) x12) fun b13=>
j11 (AV.bool b13) h7)) fun j8=>
br b5 (
j8 Qb h1) (
j8 (AV.int .i64 a2) h1))
def s20 : AV→Str→Int→H→(Int→Int→H→Prop)→Prop:=s20G J0 s51
def w20 (c : AV→Str→Int→H→(Int→Int→H→Prop)→Prop) : Fun:=fun xs h k=>arg xs fun a0 xs=>arg xs fun a1 xs=>arg xs fun a2 xs=>QB xs <| asS a1 fun a1=>asI .i64 a2 fun a2=>c a0 a1 a2 h fun r0 r1 h=>k (.tuple [(.int .i64 r0),(.int .i64 r1)]) h
theorem Qei (J : Qm) (c51 : AV→Str→H→(Int→Int→H→Prop)→Prop) (a0 : AV) (a1 : Str) (a2 : Int) (h : H) (k : AV→H→Prop) : Ql ty (gam J [(51,w51 c51)]) Tryz.f20 [a0,(.str a1),(.int .i64 a2)] h k = s20G J c51 a0 a1 a2 h (fun r0 r1 h=>k (.tuple [(.int .i64 r0),(.int .i64 r1)]) h):=by kernel_rfl
def g20 : Fun:=w20 s20
theorem g20_ok : Qe Tryz.prog 20 g20:=(Qf Qi Qj (Qg (J:=J0) (Qa g51_ok (Qc Qd))) Tryz.func20 (fun args w=>by simp)).imp fun xs h k e0=>by
  obtain ⟨a0,xs0,rfl,e1⟩:=Qp e0
  obtain ⟨a1,xs1,rfl,e2⟩:=Qp e1
  obtain ⟨a2,xs2,rfl,e3⟩:=Qp e2
  obtain ⟨rfl,e4⟩:=Qt e3
  obtain ⟨a1,rfl,e5⟩:=QI.1 e4
  obtain ⟨a2,rfl,e6⟩:=QD.1 e5
  exact (Qei J0 s51 a0 a1 a2 h k).mpr e6
def s6G (J : Qm) (c8 : AV→H→(Int→H→Prop)→Prop) (c17 : AV→H→(Bool→H→Prop)→Prop) (c18 : AV→AV→H→(Bool→H→Prop)→Prop) (c19 : AV→H→(AV→H→Prop)→Prop) (c20 : AV→Str→Int→H→(Int→Int→H→Prop)→Prop) (a0 : AV) (a1 : AV) (h : H) (k : Int→Int→H→Prop) : Prop :=
Go.Am.asAgg a0 fun l3=>
Qs (.cells false 27 l3) h fun n1 h2=>
Go.Am.asAgg a1 fun l6=>
Qs (.cells false 40 l6) h2 fun n4 h5=>
ldN 10 (AV.ptr n1 0) h5 fun l7=>
c8 (AV.agg l7) h5 fun x9 h8=>
fB (Bool.not (eqI x9 (Int.ofNat 0))) fun b10=>
br b10 (
k (Int.ofNat 0) x9 h8) (
ldI .i64 (AV.ptr n4 0) h8 fun x11=>
fB (ltI x11 (Int.ofNat 1)) fun b12=>
J.jn (fun v13 h14=>
J.jn (fun v16 h17=>
J.jn (fun v20 h21=>
Qo (AV.bool b12) (AV.bool true) v20 fun b25=>
J.jn (fun v26 h27=>
J.jn (fun v29 h30=>
J.jn (fun v33 h34=>
J.jn (fun v36 h37=>
J.jn (fun v40 h41=>
Qo (AV.bool b25) (AV.bool true) v40 fun b46=>
J.jn (fun v47 h48=>
J.jn (fun v50 h51=>
J.jn (fun v54 h55=>
J.jn (fun v61 h62=>
J.jn (fun v66 h67=>
Qo (AV.bool b46) (AV.bool true) v66 fun b71=>
J.jn (fun v72 h73=>
J.jn (fun v76 h77=>
J.jn (fun v80 h81=>
J.jn (fun v85 h86=>
Qo (AV.bool b71) (AV.bool true) v85 fun b90=>
br b90 (
k (Int.ofNat 0) (Int.ofNat 2) h86) (
ldN 42 (AV.ptr n4 0) h86 fun l91=>
c19 (AV.agg l91) h86 fun v93 h92=>
Q6 v93 fun x94=>
J.lp (α:=AV × AV × AV × AV × AV × Unit) (fun r98 v95 d96 h97=>
asI .i64 v95.2.2.2.2.1 fun x99=>
asI .i64 v95.2.2.2.1 fun x100=>
fB (ltI x99 x100) fun b101=>
br b101 (
ixK 1 v95.2.2.1 v95.2.2.2.2.1 fun p102=>
ldS p102 h97 fun s103=>
faK 1 v95.1 fun p104=>
ldV p104 h97 fun v105=>
faK 0 v95.1 fun p106=>
ldI .i64 p106 h97 fun x107=>
c20 v105 s103 x107 h97 fun x109 x110 h108=>
fB (Bool.not (eqI x110 (Int.ofNat 0))) fun b111=>
J.jn (fun v112 h113=>
J.jn (fun v115 h116=>
J.jn (fun v120 h121=>
J.jn (fun v123 h124=>
J.jn (fun v126 h127=>
J.jn (fun v129 h130=>
J.jn (fun v135 h136=>
Qo (AV.bool b111) (AV.bool true) v135 fun b139=>
br b139 (
Qr (gam J [(8,w8 c8),(17,w17 c17),(18,w18 c18),(19,w19 c19),(20,w20 c20)]) d96 h136 fun h140=>
k (Int.ofNat 0) (Int.ofNat 2) h140) (
asI .i64 v95.2.2.2.2.1 fun x141=>
fI (Qu .i64 (Int.add x141 (Int.ofNat 1))) fun x142=>
r98 (v95.1,(AV.int .i64 x109),v95.2.2.1,v95.2.2.2.1,(AV.int .i64 x142),()) d96 h136)) fun j137=>
br b111 (
j137 Qb h130) (
Qo v120 v129 (AV.bool false) fun b138=>
j137 (AV.bool b138) h130)) fun j131=>
QH v120 (fun b143=>
br b143 (
asI .i64 v123 fun x132=>
asI .i64 v126 fun x133=>
fB (Bool.not (eqI x132 x133)) fun b134=>
j131 (AV.bool b134) h127) (
j131 Qb h127)) (
j131 Qb h127)) fun j128=>
QH v120 (fun b144=>
br b144 (
j128 v95.2.1 h124) (
j128 Qb h124)) (
j128 Qb h124)) fun j125=>
QH v120 (fun b145=>
br b145 (
j125 (AV.int .i64 x109) h121) (
j125 Qb h121)) (
j125 Qb h121)) fun j122=>
br b111 (
j122 Qb h116) (
j122 v115 h116)) fun j117=>
br b111 (
j117 Qb h113) (
asI .i64 v112 fun x118=>
fB (Bool.not (ltI x118 (Int.ofNat 0))) fun b119=>
j117 (AV.bool b119) h113)) fun j114=>
br b111 (
j114 Qb h108) (
j114 v95.2.1 h108)) (
Qr (gam J [(8,w8 c8),(17,w17 c17),(18,w18 c18),(19,w19 c19),(20,w20 c20)]) d96 h97 fun h146=>
asI .i64 v95.2.1 fun x147=>
k x147 (Int.ofNat 0) h146)) ((AV.ptr n1 0),(AV.int .i64 (Int.negSucc 0)),v93,(AV.int .i64 (Int.ofNat x94)),(AV.int .i64 (Int.ofNat 0)),()) [] h92)) fun j87=>
br b71 (
j87 Qb h81) (
asB v80 fun b88=>
fB (Bool.not b88) fun b89=>
j87 (AV.bool b89) h81)) fun j82=>
br b71 (
j82 Qb h77) (
c18 v72 v76 h77 fun b84 h83=>
j82 (AV.bool b84) h83)) fun j78=>
br b71 (
j78 Qb h73) (
ldN 42 (AV.ptr n4 0) h73 fun l79=>
j78 (AV.agg l79) h73)) fun j74=>
br b71 (
j74 Qb h67) (
ldN 10 (AV.ptr n1 0) h67 fun l75=>
j74 (AV.agg l75) h67)) fun j68=>
br b46 (
j68 Qb h62) (
asB v61 fun b69=>
fB (Bool.not b69) fun b70=>
j68 (AV.bool b70) h62)) fun j63=>
br b46 (
j63 Qb h55) (
c17 v54 h55 fun b65 h64=>
j63 (AV.bool b65) h64)) fun j56=>
br b46 (
j56 Qb h51) (
Go.Am.asAgg v50 fun l59=>
ck (Nat.beq (List.length l59) 3) (op' (Qy 0 l59 [(.int .i64 0),(.int .i32 0),(.int .i32 0)]) fun l60=>
Qs (.cells false 29 l60) h51 fun n57 h58=>
j56 (AV.slice n57 0 1 1 3 true) h58))) fun j52=>
br b46 (
j52 Qb h48) (
ldN 3 v47 h48 fun l53=>
j52 (AV.agg l53) h48)) fun j49=>
br b46 (
j49 Qb h41) (
j49 (AV.ptr n4 2) h41)) fun j42=>
br b25 (
j42 Qb h37) (
asI .i64 v29 fun x43=>
asI .i64 v36 fun x44=>
fB (Bool.not (ltI x43 x44)) fun b45=>
j42 (AV.bool b45) h37)) fun j38=>
br b25 (
j38 Qb h34) (
ldI .i64 v33 h34 fun x39=>
j38 (AV.int .i64 x39) h34)) fun j35=>
br b25 (
j35 Qb h30) (
j35 (AV.ptr n1 0) h30)) fun j31=>
br b25 (
j31 Qb h27) (
ldI .i64 v26 h27 fun x32=>
j31 (AV.int .i64 x32) h27)) fun j28=>
br b25 (
j28 Qb h21) (
j28 (AV.ptr n4 1) h21)) fun j22=>
br b12 (
j22 Qb h17) (
asI .i64 v16 fun x23=>
fB (ltI x23 (Int.ofNat 0)) fun b24=>
j22 (AV.bool b24) h17)) fun j18=>
br b12 (
j18 Qb h14) (
ldI .i64 v13 h14 fun x19=>
j18 (AV.int .i64 x19) h14)) fun j15=>
br b12 (
j15 Qb h8) (
j15 (AV.ptr n4 1) h8))
def s6 : AV→AV→H→(Int→Int→H→Prop)→Prop:=s6G J0 s8 s17 s18 s19 s20
def w6 (c : AV→AV→H→(Int→Int→H→Prop)→Prop) : Fun:=fun xs h k=>arg xs fun a0 xs=>arg xs fun a1 xs=>QB xs <| c a0 a1 h fun r0 r1 h=>k (.tuple [(.int .i64 r0),(.int .i64 r1)]) h
theorem s6_eq (J : Qm) (c8 : AV→H→(Int→H→Prop)→Prop) (c17 : AV→H→(Bool→H→Prop)→Prop) (c18 : AV→AV→H→(Bool→H→Prop)→Prop) (c19 : AV→H→(AV→H→Prop)→Prop) (c20 : AV→Str→Int→H→(Int→Int→H→Prop)→Prop) (a0 : AV) (a1 : AV) (h : H) (k : AV→H→Prop) : Ql ty (gam J [(8,w8 c8),(17,w17 c17),(18,w18 c18),(19,w19 c19),(20,w20 c20)]) Tryz.f6 [a0,a1] h k = s6G J c8 c17 c18 c19 c20 a0 a1 h (fun r0 r1 h=>k (.tuple [(.int .i64 r0),(.int .i64 r1)]) h):=by kernel_rfl
def g6 : Fun:=w6 s6
theorem g6_ok : Qe Tryz.prog 6 g6:=(Qf Qi Qj (Qg (J:=J0) (Qa g8_ok (Qa QaN (Qa g18_ok (Qa Qfw (Qa g20_ok (Qc Qd))))))) Tryz.func6 (fun args w=>by simp)).imp fun xs h k e0=>by
  obtain ⟨a0,xs0,rfl,e1⟩:=Qp e0
  obtain ⟨a1,xs1,rfl,e2⟩:=Qp e1
  obtain ⟨rfl,e3⟩:=Qt e2
  exact (s6_eq J0 s8 s17 s18 s19 s20 a0 a1 h k).mpr e3
def g80 : Fun:=Ql ty (gam J0 [(72,g72)]) Tryz.f80
theorem Qfb : Qe Tryz.prog 80 g80:=Qf Qi Qj (Qg (J:=J0) (Qa QaK (Qc Qd))) Tryz.func80 (fun args w=>by simp)
def g121 : Fun:=Ql ty (gam J0 [(116,D8)]) Tryz.f121
theorem g121_ok : Qe Tryz.prog 121 g121:=Qf Qi Qj (Qg (J:=J0) (Qa VL (Qc Qd))) Tryz.func121 (fun args w=>by simp)
def g122 : Fun:=Ql ty (gam J0 [(40,g40),(72,g72),(73,g73),(74,g74)]) Tryz.f122
theorem g122_ok : Qe Tryz.prog 122 g122:=Qf Qi Qj (Qg (J:=J0) (Qa W9 (Qa QaK (Qa Qfd (Qa QaJ (Qc Qd)))))) Tryz.func122 (fun args w=>by simp)
def g106 : Fun:=Ql ty (gam J0 []) Tryz.f106
theorem N4 : Qe Tryz.prog 106 g106:=Qf Qi Qj (Qg (J:=J0) (Qc Qd)) Tryz.func106 (fun args w=>by simp)
def g112 : Fun:=Ql ty (gam J0 [(106,g106),(115,QfC)]) Tryz.f112
theorem N3 : Qe Tryz.prog 112 g112:=Qf Qi Qj (Qg (J:=J0) (Qa N4 (Qa Xm (Qc Qd)))) Tryz.func112 (fun args w=>by simp)
def g103 : Fun:=Ql ty (gam J0 [(162,g162),(163,g163)]) Tryz.f103
theorem N5 : Qe Tryz.prog 103 g103:=Qf Qi Qj (Qg (J:=J0) (Qa QcR (Qa QcQ (Qc Qd)))) Tryz.func103 (fun args w=>by simp)
def g179 : Fun:=Ql ty (gam J0 [(106,g106),(115,QfC)]) Tryz.f179
theorem QcO : Qe Tryz.prog 179 g179:=Qf Qi Qj (Qg (J:=J0) (Qa N4 (Qa Xm (Qc Qd)))) Tryz.func179 (fun args w=>by simp)
def g416 : Fun:=Ql ty (gam J0 [(244,Qfr)]) Tryz.f416
theorem g416_ok : Qe Tryz.prog 416 g416:=Qf Qi Qj (Qg (J:=J0) (Qa Xd (Qc Qd))) Tryz.func416 (fun args w=>by simp)
def G4 : Fun:=Ql ty (YB J0 [(244,Qfr)] [] (Kk ty (YB J0 [] [] Zw))) Tryz.f416
theorem it416_415_ok : ItOk Tryz.prog 416 G4:=Qb9 Qi Qj (Y7 (J:=J0) (Qa Xd (Qc Qd)) (Qc Wq) (Db Qi Qj (Y7 (J:=J0) (Qc Qd) (Qc Wq) Yo))) Tryz.func416 (fun args w=>by simp)
def g415 : Fun:=Ql ty (YB J0 [] [(416,G4)] Zw) Tryz.f415
theorem g415_ok : Qe Tryz.prog 415 g415:=Qf Qi Qj (Y7 (J:=J0) (Qc Qd) (Qa it416_415_ok (Qc Wq)) Yo) Tryz.func415 (fun args w=>by simp)
def g402 : Fun:=Ql ty (gam J0 [(415,g415)]) Tryz.f402
theorem g402_ok : Qe Tryz.prog 402 g402:=Qf Qi Qj (Qg (J:=J0) (Qa g415_ok (Qc Qd))) Tryz.func402 (fun args w=>by simp)
def g403 : Fun:=Ql ty (gam J0 [(416,g416)]) Tryz.f403
theorem g403_ok : Qe Tryz.prog 403 g403:=Qf Qi Qj (Qg (J:=J0) (Qa g416_ok (Qc Qd))) Tryz.func403 (fun args w=>by simp)
def g414 : Fun:=Ql ty (gam J0 [(258,g258)]) Tryz.f414
theorem g414_ok : Qe Tryz.prog 414 g414:=Qf Qi Qj (Qg (J:=J0) (Qa NT (Qc Qd))) Tryz.func414 (fun args w=>by simp)
def g418 : Fun:=Ql ty (gam J0 []) Tryz.f418
theorem g418_ok : Qe Tryz.prog 418 g418:=Qf Qi Qj (Qg (J:=J0) (Qc Qd)) Tryz.func418 (fun args w=>by simp)
def g406 : Fun:=Ql ty (gam J0 [(258,g258),(414,g414),(418,g418)]) Tryz.f406
theorem g406_ok : Qe Tryz.prog 406 g406:=Qf Qi Qj (Qg (J:=J0) (Qa NT (Qa g414_ok (Qa g418_ok (Qc Qd))))) Tryz.func406 (fun args w=>by simp)
def g417 : Fun:=Ql ty (gam J0 []) Tryz.f417
theorem g417_ok : Qe Tryz.prog 417 g417:=Qf Qi Qj (Qg (J:=J0) (Qc Qd)) Tryz.func417 (fun args w=>by simp)
def g407 : Fun:=Ql ty (gam J0 [(417,g417)]) Tryz.f407
theorem g407_ok : Qe Tryz.prog 407 g407:=Qf Qi Qj (Qg (J:=J0) (Qa g417_ok (Qc Qd))) Tryz.func407 (fun args w=>by simp)
def g384 : Fun:=Ql ty (gam J0 [(103,g103),(179,g179),(402,g402),(403,g403),(406,g406),(407,g407)]) Tryz.f384
theorem g384_ok : Qe Tryz.prog 384 g384:=Qf Qi Qj (Qg (J:=J0) (Qa N5 (Qa QcO (Qa g402_ok (Qa g403_ok (Qa g406_ok (Qa g407_ok (Qc Qd)))))))) Tryz.func384 (fun args w=>by simp)
def g351 : Fun:=Ql ty (gam J0 [(112,g112),(384,g384)]) Tryz.f351
theorem Qch : Qe Tryz.prog 351 g351:=Qf Qi Qj (Qg (J:=J0) (Qa N3 (Qa g384_ok (Qc Qd)))) Tryz.func351 (fun args w=>by simp)
end Go.Proofs.YtodlaigjjknpkaaGreatDoor
