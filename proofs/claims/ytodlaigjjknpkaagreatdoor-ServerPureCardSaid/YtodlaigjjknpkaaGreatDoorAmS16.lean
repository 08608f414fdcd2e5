import Derived.Test.YtodlaigjjknpkaaGreatDoorAmS15
noncomputable section
namespace Go.Proofs.YtodlaigjjknpkaaGreatDoor
open Go Go.Am
set_option maxRecDepth 100000
set_option linter.all false
def s64G (J : Qm) (c56 : Str→H→(Bool→H→Prop)→Prop) (a0 : AV) (h : H) (k : Bool→H→Prop) : Prop :=
J.lp (α:=AV × AV × Unit) (fun r4 v1 d2 h3=>
Q6 v1.1 fun x5=>
asI .i64 v1.2.1 fun x6=>
fB (ltI x6 (Int.ofNat x5)) fun b7=>
br b7 (
ixK 1 v1.1 v1.2.1 fun p8=>
ldS p8 h3 fun s9=>
c56 s9 h3 fun b11 h10=>
fB (Bool.not b11) fun b12=>
J.jn (fun v13 h14=>
J.jn (fun v16 h17=>
J.jn (fun v21 h22=>
J.jn (fun v24 h25=>
J.jn (fun v27 h28=>
J.jn (fun v30 h31=>
J.jb (fun b34 v35=>
J.jn (fun v38 h39=>
J.jn (fun v41 h42=>
J.jn (fun v44 h45=>
J.jn (fun v49 h50=>
J.jb (fun b53 v54=>
J.jn (fun v57 h58=>
J.jn (fun v63 h64=>
Qo (AV.bool b12) (AV.bool true) v63 fun b67=>
br b67 (
Qr (gam J [(56,w56 c56)]) d2 h64 fun h68=>
k false h68) (
asI .i64 v1.2.1 fun x69=>
fI (Qu .i64 (Int.add x69 (Int.ofNat 1))) fun x70=>
r4 (v1.1,(AV.int .i64 x70),()) d2 h64)) fun j65=>
br b12 (
j65 Qb h58) (
Qo v21 v57 (AV.bool false) fun b66=>
j65 (AV.bool b66) h58)) fun j59=>
QH v21 (fun b71=>
br b71 (
asS v35 fun s60=>
asS v54 fun s61=>
fB (Bool.not (Str.lt s61 s60)) fun b62=>
j59 (AV.bool b62) h50) (
j59 Qb h50)) (
j59 Qb h50)) fun j55=>
QH v21 (fun b72=>
br b72 (
ldS v49 h50 fun s56=>
j55 true (AV.str s56)) (
j55 false Qb)) (
j55 false Qb)) fun j51=>
QH v21 (fun b73=>
br b73 (
ixK 1 v38 v44 fun p52=>
j51 p52 h45) (
j51 Qb h45)) (
j51 Qb h45)) fun j46=>
QH v21 (fun b74=>
br b74 (
asI .i64 v41 fun x47=>
fI (Qu .i64 (Int.sub x47 (Int.ofNat 1))) fun x48=>
j46 (AV.int .i64 x48) h42) (
j46 Qb h42)) (
j46 Qb h42)) fun j43=>
QH v21 (fun b75=>
br b75 (
j43 v1.2.1 h39) (
j43 Qb h39)) (
j43 Qb h39)) fun j40=>
QH v21 (fun b76=>
br b76 (
j40 v1.1 h31) (
j40 Qb h31)) (
j40 Qb h31)) fun j36=>
QH v21 (fun b77=>
br b77 (
ldS v30 h31 fun s37=>
j36 true (AV.str s37)) (
j36 false Qb)) (
j36 false Qb)) fun j32=>
QH v21 (fun b78=>
br b78 (
ixK 1 v24 v27 fun p33=>
j32 p33 h28) (
j32 Qb h28)) (
j32 Qb h28)) fun j29=>
QH v21 (fun b79=>
br b79 (
j29 v1.2.1 h25) (
j29 Qb h25)) (
j29 Qb h25)) fun j26=>
QH v21 (fun b80=>
br b80 (
j26 v1.1 h22) (
j26 Qb h22)) (
j26 Qb h22)) fun j23=>
br b12 (
j23 Qb h17) (
j23 v16 h17)) fun j18=>
br b12 (
j18 Qb h14) (
asI .i64 v13 fun x19=>
fB (ltI (Int.ofNat 0) x19) fun b20=>
j18 (AV.bool b20) h14)) fun j15=>
br b12 (
j15 Qb h10) (
j15 v1.2.1 h10)) (
Q6 v1.1 fun x81=>
fB (Bool.not (ltI (Int.ofNat x81) (Int.ofNat 1))) fun b82=>
J.jn (fun v83 h84=>
J.jn (fun v86 h87=>
J.jn (fun v90 h91=>
Qo (AV.bool b82) v90 (AV.bool false) fun b95=>
Qr (gam J [(56,w56 c56)]) d2 h91 fun h96=>
k b95 h96) fun j92=>
br b82 (
asI .i64 v86 fun x93=>
fB (Bool.not (ltI (Int.ofNat 24) x93)) fun b94=>
j92 (AV.bool b94) h87) (
j92 Qb h87)) fun j88=>
br b82 (
Q6 v83 fun x89=>
j88 (AV.int .i64 (Int.ofNat x89)) h84) (
j88 Qb h84)) fun j85=>
br b82 (
j85 v1.1 h3) (
j85 Qb h3))) (a0,(AV.int .i64 (Int.ofNat 0)),()) [] h
def s64 : AV→H→(Bool→H→Prop)→Prop:=s64G J0 s56
def w64 (c : AV→H→(Bool→H→Prop)→Prop) : Fun:=fun xs h k=>arg xs fun a0 xs=>QB xs <| c a0 h fun r0 h=>k (.bool r0) h
theorem s64_eq (J : Qm) (c56 : Str→H→(Bool→H→Prop)→Prop) (a0 : AV) (h : H) (k : AV→H→Prop) : Ql ty (gam J [(56,w56 c56)]) Tryz.f64 [a0] h k = s64G J c56 a0 h (fun r0 h=>k (.bool r0) h):=by kernel_rfl
def Qbn (J : Qm) (a0 : AV) (h : H) (k : Bool→H→Prop) : Prop :=
J.lp (α:=AV × AV × Unit) (fun r4 v1 d2 h3=>
Q6 v1.1 fun x5=>
asI .i64 v1.2.1 fun x6=>
fB (ltI x6 (Int.ofNat x5)) fun b7=>
br b7 (
ixK 1 v1.1 v1.2.1 fun p8=>
ldS p8 h3 fun s9=>
fB (Str.beq s9 (⟨0,0⟩ : Str)) fun b10=>
J.jn (fun v11 h12=>
J.jn (fun v14 h15=>
J.jn (fun v19 h20=>
J.jn (fun v22 h23=>
J.jn (fun v25 h26=>
J.jn (fun v28 h29=>
J.jb (fun b32 v33=>
J.jn (fun v36 h37=>
J.jn (fun v39 h40=>
J.jn (fun v42 h43=>
J.jn (fun v47 h48=>
J.jb (fun b51 v52=>
J.jn (fun v55 h56=>
J.jn (fun v61 h62=>
Qo (AV.bool b10) (AV.bool true) v61 fun b65=>
br b65 (
Qr (gam J []) d2 h62 fun h66=>
k false h66) (
asI .i64 v1.2.1 fun x67=>
fI (Qu .i64 (Int.add x67 (Int.ofNat 1))) fun x68=>
r4 (v1.1,(AV.int .i64 x68),()) d2 h62)) fun j63=>
br b10 (
j63 Qb h56) (
Qo v19 v55 (AV.bool false) fun b64=>
j63 (AV.bool b64) h56)) fun j57=>
QH v19 (fun b69=>
br b69 (
asS v33 fun s58=>
asS v52 fun s59=>
fB (Bool.not (Str.lt s59 s58)) fun b60=>
j57 (AV.bool b60) h48) (
j57 Qb h48)) (
j57 Qb h48)) fun j53=>
QH v19 (fun b70=>
br b70 (
ldS v47 h48 fun s54=>
j53 true (AV.str s54)) (
j53 false Qb)) (
j53 false Qb)) fun j49=>
QH v19 (fun b71=>
br b71 (
ixK 1 v36 v42 fun p50=>
j49 p50 h43) (
j49 Qb h43)) (
j49 Qb h43)) fun j44=>
QH v19 (fun b72=>
br b72 (
asI .i64 v39 fun x45=>
fI (Qu .i64 (Int.sub x45 (Int.ofNat 1))) fun x46=>
j44 (AV.int .i64 x46) h40) (
j44 Qb h40)) (
j44 Qb h40)) fun j41=>
QH v19 (fun b73=>
br b73 (
j41 v1.2.1 h37) (
j41 Qb h37)) (
j41 Qb h37)) fun j38=>
QH v19 (fun b74=>
br b74 (
j38 v1.1 h29) (
j38 Qb h29)) (
j38 Qb h29)) fun j34=>
QH v19 (fun b75=>
br b75 (
ldS v28 h29 fun s35=>
j34 true (AV.str s35)) (
j34 false Qb)) (
j34 false Qb)) fun j30=>
QH v19 (fun b76=>
br b76 (
ixK 1 v22 v25 fun p31=>
j30 p31 h26) (
j30 Qb h26)) (
j30 Qb h26)) fun j27=>
QH v19 (fun b77=>
br b77 (
j27 v1.2.1 h23) (
j27 Qb h23)) (
j27 Qb h23)) fun j24=>
QH v19 (fun b78=>
br b78 (
j24 v1.1 h20) (
j24 Qb h20)) (
j24 Qb h20)) fun j21=>
br b10 (
j21 Qb h15) (
j21 v14 h15)) fun j16=>
br b10 (
j16 Qb h12) (
asI .i64 v11 fun x17=>
fB (ltI (Int.ofNat 0) x17) fun b18=>
j16 (AV.bool b18) h12)) fun j13=>
br b10 (
j13 Qb h3) (
j13 v1.2.1 h3)) (
Q6 v1.1 fun x79=>
fB (ltI (Int.ofNat 0) (Int.ofNat x79)) fun b80=>
Qr (gam J []) d2 h3 fun h81=>
k b80 h81)) (a0,(AV.int .i64 (Int.ofNat 0)),()) [] h
def s145 : AV→H→(Bool→H→Prop)→Prop:=Qbn J0
def Qdf (c : AV→H→(Bool→H→Prop)→Prop) : Fun:=fun xs h k=>arg xs fun a0 xs=>QB xs <| c a0 h fun r0 h=>k (.bool r0) h
theorem s145_eq (J : Qm) (a0 : AV) (h : H) (k : AV→H→Prop) : Ql ty (gam J []) Tryz.f145 [a0] h k = Qbn J  a0 h (fun r0 h=>k (.bool r0) h):=by kernel_rfl
def s98G (J : Qm) (c28 : AV→H→(Int→H→Prop)→Prop) (c93 : AV→H→(Int→Int→H→Prop)→Prop) (c145 : AV→H→(Bool→H→Prop)→Prop) (a0 : AV) (h : H) (k : Int→H→Prop) : Prop :=
Go.Am.asAgg a0 fun l3=>
Qs (.cells false 37 l3) h fun n1 h2=>
ldV (AV.ptr n1 6) h2 fun v4=>
Q6 v4 fun x5=>
fB (ltI (Int.ofNat 24) (Int.ofNat x5)) fun b6=>
br b6 (
k (Int.ofNat 3) h2) (
ldN 2 (AV.ptr n1 0) h2 fun l7=>
c93 (AV.agg l7) h2 fun x9 x10 h8=>
fB (Bool.not (eqI x10 (Int.ofNat 0))) fun b11=>
J.jn (fun v12 h13=>
J.jn (fun v15 h16=>
J.jn (fun v19 h20=>
Qo (AV.bool b11) (AV.bool true) v19 fun b24=>
J.jn (fun v25 h26=>
J.jn (fun v28 h29=>
J.jn (fun v32 h33=>
Qo (AV.bool b24) (AV.bool true) v32 fun b37=>
J.jn (fun v38 h39=>
J.jn (fun v41 h42=>
J.jn (fun v45 h46=>
J.jn (fun v50 h51=>
Qo (AV.bool b37) (AV.bool true) v50 fun b55=>
br b55 (
k (Int.ofNat 2) h51) (
J.jd (α:=Unit) (fun v56 d57 h58=>
Qr (gam J [(28,w28 c28),(93,w93 c93),(145,Qdf c145)]) d57 h58 fun h60=>
k (Int.ofNat 0) h60) fun j59=>
ldI .u8 (AV.ptr n1 2) h51 fun x61=>
J.jd (α:=AV × AV × AV × AV × Unit) (fun v62 d63 h64=>
asB v62.2.2.2.1 fun b66=>
br b66 (
faK 3 v62.1 fun p67=>
ldN 3 p67 h64 fun l68=>
obK (Wt ty .neq 29 false (AV.agg l68) (AV.agg [(.int .i64 0),(.int .i32 0),(.int .i32 0)])) fun b69=>
J.jn (fun v70 h71=>
J.jn (fun v74 h75=>
J.jn (fun v78 h79=>
J.jn (fun v82 h83=>
Qo (AV.bool b69) (AV.bool true) v82 fun b87=>
br b87 (
Qr (gam J [(28,w28 c28),(93,w93 c93),(145,Qdf c145)]) d63 h83 fun h88=>
k (Int.ofNat 2) h88) (
j59 (()) d63 h83)) fun j84=>
br b69 (
j84 Qb h79) (
asI .i64 v78 fun x85=>
fB (Bool.not (eqI x85 (Int.ofNat 0))) fun b86=>
j84 (AV.bool b86) h79)) fun j80=>
br b69 (
j80 Qb h75) (
Q6 v74 fun x81=>
j80 (AV.int .i64 (Int.ofNat x81)) h75)) fun j76=>
br b69 (
j76 Qb h71) (
ldV v70 h71 fun v77=>
j76 v77 h71)) fun j72=>
br b69 (
j72 Qb h64) (
faK 6 v62.1 fun p73=>
j72 p73 h64)) (
J.jd (α:=AV × AV × AV × Unit) (fun v89 d90 h91=>
asB v89.2.2.1 fun b93=>
br b93 (
faK 3 v89.1 fun p94=>
ldN 3 p94 h91 fun l95=>
c28 (AV.agg l95) h91 fun x97 h96=>
fB (Bool.not (eqI x97 (Int.ofNat 0))) fun b98=>
J.jn (fun v99 h100=>
J.jn (fun v103 h104=>
J.jn (fun v107 h108=>
J.jn (fun v111 h112=>
J.jn (fun v114 h115=>
Qo (AV.bool b98) (AV.bool true) v114 fun b120=>
J.jn (fun v121 h122=>
J.jn (fun v125 h126=>
J.jn (fun v129 h130=>
J.jn (fun v134 h135=>
Qo (AV.bool b120) (AV.bool true) v134 fun b139=>
br b139 (
Qr (gam J [(28,w28 c28),(93,w93 c93),(145,Qdf c145)]) d90 h135 fun h140=>
k (Int.ofNat 2) h140) (
j59 (()) d90 h135)) fun j136=>
br b120 (
j136 Qb h130) (
asB v129 fun b137=>
fB (Bool.not b137) fun b138=>
j136 (AV.bool b138) h130)) fun j131=>
br b120 (
j131 Qb h126) (
c145 v125 h126 fun b133 h132=>
j131 (AV.bool b133) h132)) fun j127=>
br b120 (
j127 Qb h122) (
ldV v121 h122 fun v128=>
j127 v128 h122)) fun j123=>
br b120 (
j123 Qb h115) (
faK 6 v89.1 fun p124=>
j123 p124 h115)) fun j116=>
br b98 (
j116 Qb h112) (
asI .i32 v107 fun x117=>
asI .i32 v111 fun x118=>
fB (Bool.not (eqI x117 x118)) fun b119=>
j116 (AV.bool b119) h112)) fun j113=>
br b98 (
j113 Qb h108) (
j113 v89.2.1 h108)) fun j109=>
br b98 (
j109 Qb h104) (
ldI .i32 v103 h104 fun x110=>
j109 (AV.int .i32 x110) h104)) fun j105=>
br b98 (
j105 Qb h100) (
faK 2 v99 fun p106=>
j105 p106 h100)) fun j101=>
br b98 (
j101 Qb h96) (
faK 3 v89.1 fun p102=>
j101 p102 h96)) (
Qr (gam J [(28,w28 c28),(93,w93 c93),(145,Qdf c145)]) d90 h91 fun h141=>
k (Int.ofNat 2) h141)) fun j92=>
asI .u8 v62.2.2.1 fun x142=>
fB (eqI x142 (Int.ofNat 2)) fun b143=>
br b143 (
j92 (v62.1,v62.2.1,(AV.bool b143),()) d63 h64) (
asI .u8 v62.2.2.1 fun x144=>
fB (eqI x144 (Int.ofNat 3)) fun b145=>
j92 (v62.1,v62.2.1,(AV.bool b145),()) d63 h64))) fun j65=>
fB (eqI x61 (Int.ofNat 1)) fun b146=>
br b146 (
j65 ((AV.ptr n1 0),(AV.int .i32 x9),(AV.int .u8 x61),(AV.bool b146),()) [] h51) (
fB (eqI x61 (Int.ofNat 4)) fun b147=>
j65 ((AV.ptr n1 0),(AV.int .i32 x9),(AV.int .u8 x61),(AV.bool b147),()) [] h51))) fun j52=>
br b37 (
j52 Qb h46) (
asI .i64 v45 fun x53=>
fB (Bool.not (eqI x53 (Int.ofNat 0))) fun b54=>
j52 (AV.bool b54) h46)) fun j47=>
br b37 (
j47 Qb h42) (
c28 v41 h42 fun x49 h48=>
j47 (AV.int .i64 x49) h48)) fun j43=>
br b37 (
j43 Qb h39) (
ldN 3 v38 h39 fun l44=>
j43 (AV.agg l44) h39)) fun j40=>
br b37 (
j40 Qb h33) (
j40 (AV.ptr n1 8) h33)) fun j34=>
br b24 (
j34 Qb h29) (
asI .i64 v28 fun x35=>
fB (ltI (Int.ofNat 1099511627776) x35) fun b36=>
j34 (AV.bool b36) h29)) fun j30=>
br b24 (
j30 Qb h26) (
ldI .i64 v25 h26 fun x31=>
j30 (AV.int .i64 x31) h26)) fun j27=>
br b24 (
j27 Qb h20) (
j27 (AV.ptr n1 7) h20)) fun j21=>
br b11 (
j21 Qb h16) (
asI .i64 v15 fun x22=>
fB (ltI x22 (Int.ofNat 0)) fun b23=>
j21 (AV.bool b23) h16)) fun j17=>
br b11 (
j17 Qb h13) (
ldI .i64 v12 h13 fun x18=>
j17 (AV.int .i64 x18) h13)) fun j14=>
br b11 (
j14 Qb h8) (
j14 (AV.ptr n1 7) h8))
def s98 : AV→H→(Int→H→Prop)→Prop:=s98G J0 s28 s93 s145
def w98 (c : AV→H→(Int→H→Prop)→Prop) : Fun:=fun xs h k=>arg xs fun a0 xs=>QB xs <| c a0 h fun r0 h=>k (.int .i64 r0) h
theorem s98_eq (J : Qm) (c28 : AV→H→(Int→H→Prop)→Prop) (c93 : AV→H→(Int→Int→H→Prop)→Prop) (c145 : AV→H→(Bool→H→Prop)→Prop) (a0 : AV) (h : H) (k : AV→H→Prop) : Ql ty (gam J [(28,w28 c28),(93,w93 c93),(145,Qdf c145)]) Tryz.f98 [a0] h k = s98G J c28 c93 c145 a0 h (fun r0 h=>k (.int .i64 r0) h):=by kernel_rfl
def s62G (J : Qm) (c64 : AV→H→(Bool→H→Prop)→Prop) (c98 : AV→H→(Int→H→Prop)→Prop) (a0 : AV) (h : H) (k : Bool→H→Prop) : Prop :=
Go.Am.asAgg a0 fun l3=>
Qs (.cells false 40 l3) h fun n1 h2=>
ldN 2 (AV.ptr n1 6) h2 fun l4=>
ldN 3 (AV.ptr n1 17) h2 fun l5=>
ldV (AV.ptr n1 26) h2 fun v6=>
ck (Nat.beq (List.length l4) 2) (op' (Qy 0 l4 [(.int .i32 0),(.int .i32 0),(.int .u8 0),(.int .i64 0),(.int .i32 0),(.int .i32 0),(.nils),(.int .i64 0),(.int .i64 0),(.int .i32 0),(.int .i32 0)]) fun l7=>
op' (Qy 2 [(AV.int .u8 (Int.ofNat 2))] l7) fun l8=>
ck (Nat.beq (List.length l5) 3) (op' (Qy 3 l5 l8) fun l9=>
ck (ZQ v6) (op' (Qy 6 [v6] l9) fun l10=>
Qs (.cells false 37 [(.int .i32 0),(.int .i32 0),(.int .u8 0),(.int .i64 0),(.int .i32 0),(.int .i32 0),(.nils),(.int .i64 0),(.int .i64 0),(.int .i32 0),(.int .i32 0)]) h2 fun n11 h12=>
stN 11 (AV.ptr n11 0) l10 h12 fun h13=>
ldN 11 (AV.ptr n11 0) h13 fun l14=>
c98 (AV.agg l14) h13 fun x16 h15=>
fB (eqI x16 (Int.ofNat 0)) fun b17=>
J.jn (fun v18 h19=>
J.jn (fun v21 h22=>
J.jn (fun v25 h26=>
Qo (AV.bool b17) v25 (AV.bool false) fun b30=>
k b30 h26) fun j27=>
br b17 (
c64 v21 h22 fun b29 h28=>
j27 (AV.bool b29) h28) (
j27 Qb h22)) fun j23=>
br b17 (
ldV v18 h19 fun v24=>
j23 v24 h19) (
j23 Qb h19)) fun j20=>
br b17 (
j20 (AV.ptr n1 26) h15) (
j20 Qb h15))))
def s62 : AV→H→(Bool→H→Prop)→Prop:=s62G J0 s64 s98
def w62 (c : AV→H→(Bool→H→Prop)→Prop) : Fun:=fun xs h k=>arg xs fun a0 xs=>QB xs <| c a0 h fun r0 h=>k (.bool r0) h
theorem s62_eq (J : Qm) (c64 : AV→H→(Bool→H→Prop)→Prop) (c98 : AV→H→(Int→H→Prop)→Prop) (a0 : AV) (h : H) (k : AV→H→Prop) : Ql ty (gam J [(64,w64 c64),(98,w98 c98)]) Tryz.f62 [a0] h k = s62G J c64 c98 a0 h (fun r0 h=>k (.bool r0) h):=by kernel_rfl
def s63G (J : Qm) (c64 : AV→H→(Bool→H→Prop)→Prop) (c98 : AV→H→(Int→H→Prop)→Prop) (a0 : AV) (h : H) (k : Bool→H→Prop) : Prop :=
Go.Am.asAgg a0 fun l3=>
Qs (.cells false 40 l3) h fun n1 h2=>
ldI .u8 (AV.ptr n1 32) h2 fun x4=>
fB (eqI x4 (Int.ofNat 3)) fun b5=>
J.jn (fun v6 h7=>
J.jn (fun v9 h10=>
J.jn (fun v13 h14=>
J.jn (fun v17 h18=>
Qo (AV.bool b5) (AV.bool true) v17 fun b22=>
J.jn (fun v23 h24=>
J.jn (fun v26 h27=>
J.jn (fun v30 h31=>
J.jn (fun v35 h36=>
Qo (AV.bool b22) v35 (AV.bool false) fun b40=>
J.jn (fun v41 h42=>
J.jn (fun v44 h45=>
J.jn (fun v48 h49=>
Qo (AV.bool b40) v48 (AV.bool false) fun b53=>
k b53 h49) fun j50=>
br b40 (
c64 v44 h45 fun b52 h51=>
j50 (AV.bool b52) h51) (
j50 Qb h45)) fun j46=>
br b40 (
ldV v41 h42 fun v47=>
j46 v47 h42) (
j46 Qb h42)) fun j43=>
br b40 (
j43 (AV.ptr n1 26) h36) (
j43 Qb h36)) fun j37=>
br b22 (
asI .i64 v30 fun x38=>
fB (eqI x38 (Int.ofNat 0)) fun b39=>
j37 (AV.bool b39) h31) (
j37 Qb h31)) fun j32=>
br b22 (
c98 v26 h27 fun x34 h33=>
j32 (AV.int .i64 x34) h33) (
j32 Qb h27)) fun j28=>
br b22 (
ldN 11 v23 h24 fun l29=>
j28 (AV.agg l29) h24) (
j28 Qb h24)) fun j25=>
br b22 (
j25 (AV.ptr n1 30) h18) (
j25 Qb h18)) fun j19=>
br b5 (
j19 Qb h14) (
asI .u8 v13 fun x20=>
fB (eqI x20 (Int.ofNat 4)) fun b21=>
j19 (AV.bool b21) h14)) fun j15=>
br b5 (
j15 Qb h10) (
ldI .u8 v9 h10 fun x16=>
j15 (AV.int .u8 x16) h10)) fun j11=>
br b5 (
j11 Qb h7) (
faK 2 v6 fun p12=>
j11 p12 h7)) fun j8=>
br b5 (
j8 Qb h2) (
j8 (AV.ptr n1 30) h2)
def s63 : AV→H→(Bool→H→Prop)→Prop:=s63G J0 s64 s98
def w63 (c : AV→H→(Bool→H→Prop)→Prop) : Fun:=fun xs h k=>arg xs fun a0 xs=>QB xs <| c a0 h fun r0 h=>k (.bool r0) h
theorem s63_eq (J : Qm) (c64 : AV→H→(Bool→H→Prop)→Prop) (c98 : AV→H→(Int→H→Prop)→Prop) (a0 : AV) (h : H) (k : AV→H→Prop) : Ql ty (gam J [(64,w64 c64),(98,w98 c98)]) Tryz.f63 [a0] h k = s63G J c64 c98 a0 h (fun r0 h=>k (.bool r0) h):=by kernel_rfl
def s29G (J : Qm) (c55 : AV→Bool→H→(Bool→H→Prop)→Prop) (c56 : Str→H→(Bool→H→Prop)→Prop) (c57 : AV→AV→H→(Bool→H→Prop)→Prop) (c58 : AV→H→(Bool→H→Prop)→Prop) (c59 : AV→AV→H→(Bool→H→Prop)→Prop) (c60 : AV→H→(Bool→H→Prop)→Prop) (c61 : AV→H→(Bool→H→Prop)→Prop) (c62 : AV→H→(Bool→H→Prop)→Prop) (c63 : AV→H→(Bool→H→Prop)→Prop) (c64 : AV→H→(Bool→H→Prop)→Prop) (a0 : AV) (a1 : AV) (h : H) (k : Bool→H→Prop) : Prop :=
Go.Am.asAgg a0 fun l3=>
Qs (.cells false 27 l3) h fun n1 h2=>
Go.Am.asAgg a1 fun l6=>
Qs (.cells false 40 l6) h2 fun n4 h5=>
ldN 2 (AV.ptr n4 6) h5 fun l7=>
c55 (AV.agg l7) false h5 fun b9 h8=>
J.jn (fun v10 h11=>
J.jn (fun v13 h14=>
J.jn (fun v17 h18=>
Qo (AV.bool b9) v17 (AV.bool false) fun b23=>
ldI .i64 (AV.ptr n4 5) h18 fun x24=>
fB (eqI x24 (Int.ofNat 1)) fun b25=>
br b25 (
ldN 2 (AV.ptr n4 6) h18 fun l26=>
c55 (AV.agg l26) true h18 fun b28 h27=>
J.jn (fun v29 h30=>
J.jn (fun v33 h34=>
J.jn (fun v36 h37=>
J.jn (fun v40 h41=>
Qo (AV.bool b28) v40 (AV.bool false) fun b45=>
J.jn (fun v46 h47=>
J.jn (fun v49 h50=>
J.jn (fun v53 h54=>
J.jn (fun v56 h57=>
J.jn (fun v60 h61=>
J.jn (fun v69 h70=>
Qo (AV.bool b45) v69 (AV.bool false) fun b74=>
J.jn (fun v75 h76=>
J.jn (fun v78 h79=>
J.jn (fun v82 h83=>
J.jn (fun v85 h86=>
J.jn (fun v89 h90=>
J.jn (fun v94 h95=>
Qo (AV.bool b74) v94 (AV.bool false) fun b99=>
J.jn (fun v100 h101=>
J.jn (fun v103 h104=>
J.jn (fun v107 h108=>
Qo (AV.bool b99) v107 (AV.bool false) fun b112=>
k b112 h108) fun j109=>
br b99 (
c60 v103 h104 fun b111 h110=>
j109 (AV.bool b111) h110) (
j109 Qb h104)) fun j105=>
br b99 (
ldV v100 h101 fun v106=>
j105 v106 h101) (
j105 Qb h101)) fun j102=>
br b99 (
j102 (AV.ptr n4 41) h95) (
j102 Qb h95)) fun j96=>
br b74 (
asB v89 fun b97=>
fB (Bool.not b97) fun b98=>
j96 (AV.bool b98) h90) (
j96 Qb h90)) fun j91=>
br b74 (
c59 v78 v85 h86 fun b93 h92=>
j91 (AV.bool b93) h92) (
j91 Qb h86)) fun j87=>
br b74 (
ldN 3 v82 h83 fun l88=>
j87 (AV.agg l88) h83) (
j87 Qb h83)) fun j84=>
br b74 (
j84 (AV.ptr n4 17) h79) (
j84 Qb h79)) fun j80=>
br b74 (
ldN 3 v75 h76 fun l81=>
j80 (AV.agg l81) h76) (
j80 Qb h76)) fun j77=>
br b74 (
j77 (AV.ptr n4 20) h70) (
j77 Qb h70)) fun j71=>
br b45 (
c58 v60 h61 fun b73 h72=>
j71 (AV.bool b73) h72) (
j71 Qb h61)) fun j62=>
br b45 (
Go.Am.asAgg v49 fun l65=>
ck (Nat.beq (List.length l65) 3) (op' (Qy 0 l65 [(.int .i64 0),(.int .i32 0),(.int .i32 0),(.int .i64 0),(.int .i32 0),(.int .i32 0)]) fun l66=>
Go.Am.asAgg v56 fun l67=>
ck (Nat.beq (List.length l67) 3) (op' (Qy 3 l67 l66) fun l68=>
Qs (.cells false 29 l68) h57 fun n63 h64=>
j62 (AV.slice n63 0 2 2 3 true) h64))) (
j62 Qb h57)) fun j58=>
br b45 (
ldN 3 v53 h54 fun l59=>
j58 (AV.agg l59) h54) (
j58 Qb h54)) fun j55=>
br b45 (
j55 (AV.ptr n4 20) h50) (
j55 Qb h50)) fun j51=>
br b45 (
ldN 3 v46 h47 fun l52=>
j51 (AV.agg l52) h47) (
j51 Qb h47)) fun j48=>
br b45 (
j48 (AV.ptr n4 17) h41) (
j48 Qb h41)) fun j42=>
br b28 (
c57 v29 v36 h37 fun b44 h43=>
j42 (AV.bool b44) h43) (
j42 Qb h37)) fun j38=>
br b28 (
ldN 2 v33 h34 fun l39=>
j38 (AV.agg l39) h34) (
j38 Qb h34)) fun j35=>
br b28 (
j35 (AV.ptr n4 15) h30) (
j35 Qb h30)) fun j31=>
br b28 (
ldN 10 (AV.ptr n1 0) h27 fun l32=>
j31 (AV.agg l32) h27) (
j31 Qb h27)) (
fB (eqI x24 (Int.ofNat 2)) fun b113=>
br b113 (
ldN 42 (AV.ptr n4 0) h18 fun l114=>
c61 (AV.agg l114) h18 fun b116 h115=>
k b116 h115) (
J.jd (α:=AV × AV × AV × AV × AV × Unit) (fun v117 d118 h119=>
asB v117.2.2.2.2.1 fun b121=>
br b121 (
ldN 42 v117.2.1 h119 fun l122=>
c62 (AV.agg l122) h119 fun b124 h123=>
Qr (gam J [(55,w55 c55),(56,w56 c56),(57,w57 c57),(58,w58 c58),(59,w59 c59),(60,w60 c60),(61,w61 c61),(62,w62 c62),(63,w63 c63),(64,w64 c64)]) d118 h123 fun h125=>
k b124 h125) (
J.jd (α:=AV × AV × AV × AV × AV × Unit) (fun v126 d127 h128=>
asB v126.2.2.2.2.1 fun b130=>
br b130 (
Qr (gam J [(55,w55 c55),(56,w56 c56),(57,w57 c57),(58,w58 c58),(59,w59 c59),(60,w60 c60),(61,w61 c61),(62,w62 c62),(63,w63 c63),(64,w64 c64)]) d127 h128 fun h131=>
asB v126.2.2.1 fun b132=>
k b132 h131) (
asI .i64 v126.2.2.2.1 fun x133=>
fB (eqI x133 (Int.ofNat 6)) fun b134=>
br b134 (
J.jn (fun v135 h136=>
J.jn (fun v139 h140=>
J.jn (fun v143 h144=>
J.jn (fun v147 h148=>
J.jn (fun v151 h152=>
J.jn (fun v155 h156=>
J.jn (fun v159 h160=>
J.jn (fun v170 h171=>
Qo v126.2.2.1 v170 (AV.bool false) fun b175=>
Qr (gam J [(55,w55 c55),(56,w56 c56),(57,w57 c57),(58,w58 c58),(59,w59 c59),(60,w60 c60),(61,w61 c61),(62,w62 c62),(63,w63 c63),(64,w64 c64)]) d127 h171 fun h176=>
k b175 h176) fun j172=>
QH v126.2.2.1 (fun b177=>
br b177 (
c58 v159 h160 fun b174 h173=>
j172 (AV.bool b174) h173) (
j172 Qb h160)) (
j172 Qb h160)) fun j161=>
QH v126.2.2.1 (fun b178=>
br b178 (
Go.Am.asAgg v139 fun l164=>
ck (Nat.beq (List.length l164) 3) (op' (Qy 0 l164 [(.int .i64 0),(.int .i32 0),(.int .i32 0),(.int .i64 0),(.int .i32 0),(.int .i32 0),(.int .i64 0),(.int .i32 0),(.int .i32 0)]) fun l165=>
Go.Am.asAgg v147 fun l166=>
ck (Nat.beq (List.length l166) 3) (op' (Qy 3 l166 l165) fun l167=>
Go.Am.asAgg v155 fun l168=>
ck (Nat.beq (List.length l168) 3) (op' (Qy 6 l168 l167) fun l169=>
Qs (.cells false 29 l169) h156 fun n162 h163=>
j161 (AV.slice n162 0 3 3 3 true) h163)))) (
j161 Qb h156)) (
j161 Qb h156)) fun j157=>
QH v126.2.2.1 (fun b179=>
br b179 (
ldN 3 v151 h152 fun l158=>
j157 (AV.agg l158) h152) (
j157 Qb h152)) (
j157 Qb h152)) fun j153=>
QH v126.2.2.1 (fun b180=>
br b180 (
faK 23 v126.2.1 fun p154=>
j153 p154 h148) (
j153 Qb h148)) (
j153 Qb h148)) fun j149=>
QH v126.2.2.1 (fun b181=>
br b181 (
ldN 3 v143 h144 fun l150=>
j149 (AV.agg l150) h144) (
j149 Qb h144)) (
j149 Qb h144)) fun j145=>
QH v126.2.2.1 (fun b182=>
br b182 (
faK 11 v126.2.1 fun p146=>
j145 p146 h140) (
j145 Qb h140)) (
j145 Qb h140)) fun j141=>
QH v126.2.2.1 (fun b183=>
br b183 (
ldN 3 v135 h136 fun l142=>
j141 (AV.agg l142) h136) (
j141 Qb h136)) (
j141 Qb h136)) fun j137=>
QH v126.2.2.1 (fun b184=>
br b184 (
faK 8 v126.2.1 fun p138=>
j137 p138 h128) (
j137 Qb h128)) (
j137 Qb h128)) (
J.jd (α:=AV × AV × AV × AV × AV × Unit) (fun v185 d186 h187=>
asB v185.2.2.2.2.1 fun b189=>
br b189 (
J.jn (fun v190 h191=>
J.jn (fun v194 h195=>
J.jn (fun v198 h199=>
J.jn (fun v205 h206=>
Qo v185.2.2.1 v205 (AV.bool false) fun b210=>
Qr (gam J [(55,w55 c55),(56,w56 c56),(57,w57 c57),(58,w58 c58),(59,w59 c59),(60,w60 c60),(61,w61 c61),(62,w62 c62),(63,w63 c63),(64,w64 c64)]) d186 h206 fun h211=>
k b210 h211) fun j207=>
QH v185.2.2.1 (fun b212=>
br b212 (
c58 v198 h199 fun b209 h208=>
j207 (AV.bool b209) h208) (
j207 Qb h199)) (
j207 Qb h199)) fun j200=>
QH v185.2.2.1 (fun b213=>
br b213 (
Go.Am.asAgg v194 fun l203=>
ck (Nat.beq (List.length l203) 3) (op' (Qy 0 l203 [(.int .i64 0),(.int .i32 0),(.int .i32 0)]) fun l204=>
Qs (.cells false 29 l204) h195 fun n201 h202=>
j200 (AV.slice n201 0 1 1 3 true) h202)) (
j200 Qb h195)) (
j200 Qb h195)) fun j196=>
QH v185.2.2.1 (fun b214=>
br b214 (
ldN 3 v190 h191 fun l197=>
j196 (AV.agg l197) h191) (
j196 Qb h191)) (
j196 Qb h191)) fun j192=>
QH v185.2.2.1 (fun b215=>
br b215 (
faK 17 v185.2.1 fun p193=>
j192 p193 h187) (
j192 Qb h187)) (
j192 Qb h187)) (
asI .i64 v185.2.2.2.1 fun x216=>
fB (eqI x216 (Int.ofNat 9)) fun b217=>
br b217 (
ldN 42 v185.2.1 h187 fun l218=>
c63 (AV.agg l218) h187 fun b220 h219=>
Qr (gam J [(55,w55 c55),(56,w56 c56),(57,w57 c57),(58,w58 c58),(59,w59 c59),(60,w60 c60),(61,w61 c61),(62,w62 c62),(63,w63 c63),(64,w64 c64)]) d186 h219 fun h221=>
k b220 h221) (
asI .i64 v185.2.2.2.1 fun x222=>
fB (eqI x222 (Int.ofNat 10)) fun b223=>
br b223 (
faK 6 v185.2.1 fun p224=>
ldN 2 p224 h187 fun l225=>
c55 (AV.agg l225) false h187 fun b227 h226=>
J.jn (fun v228 h229=>
J.jn (fun v232 h233=>
J.jn (fun v236 h237=>
Qo (AV.bool b227) v236 (AV.bool false) fun b241=>
J.jn (fun v242 h243=>
J.jn (fun v246 h247=>
J.jn (fun v250 h251=>
J.jn (fun v257 h258=>
Qo (AV.bool b241) v257 (AV.bool false) fun b262=>
Qr (gam J [(55,w55 c55),(56,w56 c56),(57,w57 c57),(58,w58 c58),(59,w59 c59),(60,w60 c60),(61,w61 c61),(62,w62 c62),(63,w63 c63),(64,w64 c64)]) d186 h258 fun h263=>
k b262 h263) fun j259=>
br b241 (
c58 v250 h251 fun b261 h260=>
j259 (AV.bool b261) h260) (
j259 Qb h251)) fun j252=>
br b241 (
Go.Am.asAgg v246 fun l255=>
ck (Nat.beq (List.length l255) 3) (op' (Qy 0 l255 [(.int .i64 0),(.int .i32 0),(.int .i32 0)]) fun l256=>
Qs (.cells false 29 l256) h247 fun n253 h254=>
j252 (AV.slice n253 0 1 1 3 true) h254)) (
j252 Qb h247)) fun j248=>
br b241 (
ldN 3 v242 h243 fun l249=>
j248 (AV.agg l249) h243) (
j248 Qb h243)) fun j244=>
br b241 (
faK 23 v185.2.1 fun p245=>
j244 p245 h237) (
j244 Qb h237)) fun j238=>
br b227 (
c64 v232 h233 fun b240 h239=>
j238 (AV.bool b240) h239) (
j238 Qb h233)) fun j234=>
br b227 (
ldV v228 h229 fun v235=>
j234 v235 h229) (
j234 Qb h229)) fun j230=>
br b227 (
faK 26 v185.2.1 fun p231=>
j230 p231 h226) (
j230 Qb h226)) (
asI .i64 v185.2.2.2.1 fun x264=>
fB (eqI x264 (Int.ofNat 11)) fun b265=>
br b265 (
faK 6 v185.2.1 fun p266=>
ldN 2 p266 h187 fun l267=>
c55 (AV.agg l267) true h187 fun b269 h268=>
J.jn (fun v270 h271=>
J.jn (fun v274 h275=>
J.jn (fun v278 h279=>
J.jn (fun v282 h283=>
Qo (AV.bool b269) v282 (AV.bool false) fun b287=>
J.jn (fun v288 h289=>
J.jn (fun v292 h293=>
J.jn (fun v296 h297=>
J.jn (fun v300 h301=>
J.jn (fun v304 h305=>
J.jn (fun v313 h314=>
Qo (AV.bool b287) v313 (AV.bool false) fun b318=>
J.jn (fun v319 h320=>
J.jn (fun v323 h324=>
J.jn (fun v327 h328=>
J.jn (fun v331 h332=>
J.jn (fun v335 h336=>
J.jn (fun v340 h341=>
Qo (AV.bool b318) v340 (AV.bool false) fun b345=>
Qr (gam J [(55,w55 c55),(56,w56 c56),(57,w57 c57),(58,w58 c58),(59,w59 c59),(60,w60 c60),(61,w61 c61),(62,w62 c62),(63,w63 c63),(64,w64 c64)]) d186 h341 fun h346=>
k b345 h346) fun j342=>
br b318 (
asB v335 fun b343=>
fB (Bool.not b343) fun b344=>
j342 (AV.bool b344) h336) (
j342 Qb h336)) fun j337=>
br b318 (
c59 v323 v331 h332 fun b339 h338=>
j337 (AV.bool b339) h338) (
j337 Qb h332)) fun j333=>
br b318 (
ldN 3 v327 h328 fun l334=>
j333 (AV.agg l334) h328) (
j333 Qb h328)) fun j329=>
br b318 (
faK 17 v185.2.1 fun p330=>
j329 p330 h324) (
j329 Qb h324)) fun j325=>
br b318 (
ldN 3 v319 h320 fun l326=>
j325 (AV.agg l326) h320) (
j325 Qb h320)) fun j321=>
br b318 (
faK 23 v185.2.1 fun p322=>
j321 p322 h314) (
j321 Qb h314)) fun j315=>
br b287 (
c58 v304 h305 fun b317 h316=>
j315 (AV.bool b317) h316) (
j315 Qb h305)) fun j306=>
br b287 (
Go.Am.asAgg v292 fun l309=>
ck (Nat.beq (List.length l309) 3) (op' (Qy 0 l309 [(.int .i64 0),(.int .i32 0),(.int .i32 0),(.int .i64 0),(.int .i32 0),(.int .i32 0)]) fun l310=>
Go.Am.asAgg v300 fun l311=>
ck (Nat.beq (List.length l311) 3) (op' (Qy 3 l311 l310) fun l312=>
Qs (.cells false 29 l312) h301 fun n307 h308=>
j306 (AV.slice n307 0 2 2 3 true) h308))) (
j306 Qb h301)) fun j302=>
br b287 (
ldN 3 v296 h297 fun l303=>
j302 (AV.agg l303) h297) (
j302 Qb h297)) fun j298=>
br b287 (
faK 23 v185.2.1 fun p299=>
j298 p299 h293) (
j298 Qb h293)) fun j294=>
br b287 (
ldN 3 v288 h289 fun l295=>
j294 (AV.agg l295) h289) (
j294 Qb h289)) fun j290=>
br b287 (
faK 17 v185.2.1 fun p291=>
j290 p291 h283) (
j290 Qb h283)) fun j284=>
br b269 (
c57 v270 v278 h279 fun b286 h285=>
j284 (AV.bool b286) h285) (
j284 Qb h279)) fun j280=>
br b269 (
ldN 2 v274 h275 fun l281=>
j280 (AV.agg l281) h275) (
j280 Qb h275)) fun j276=>
br b269 (
faK 15 v185.2.1 fun p277=>
j276 p277 h271) (
j276 Qb h271)) fun j272=>
br b269 (
ldN 10 v185.1 h268 fun l273=>
j272 (AV.agg l273) h268) (
j272 Qb h268)) (
Qr (gam J [(55,w55 c55),(56,w56 c56),(57,w57 c57),(58,w58 c58),(59,w59 c59),(60,w60 c60),(61,w61 c61),(62,w62 c62),(63,w63 c63),(64,w64 c64)]) d186 h187 fun h347=>
k false h347))))) fun j188=>
asI .i64 v126.2.2.2.1 fun x348=>
fB (eqI x348 (Int.ofNat 7)) fun b349=>
br b349 (
j188 (v126.1,v126.2.1,v126.2.2.1,v126.2.2.2.1,(AV.bool b349),()) d127 h128) (
asI .i64 v126.2.2.2.1 fun x350=>
fB (eqI x350 (Int.ofNat 8)) fun b351=>
j188 (v126.1,v126.2.1,v126.2.2.1,v126.2.2.2.1,(AV.bool b351),()) d127 h128)))) fun j129=>
asI .i64 v117.2.2.2.1 fun x352=>
fB (eqI x352 (Int.ofNat 5)) fun b353=>
br b353 (
j129 (v117.1,v117.2.1,v117.2.2.1,v117.2.2.2.1,(AV.bool b353),()) d118 h119) (
asI .i64 v117.2.2.2.1 fun x354=>
fB (eqI x354 (Int.ofNat 12)) fun b355=>
j129 (v117.1,v117.2.1,v117.2.2.1,v117.2.2.2.1,(AV.bool b355),()) d118 h119))) fun j120=>
fB (eqI x24 (Int.ofNat 3)) fun b356=>
br b356 (
j120 ((AV.ptr n1 0),(AV.ptr n4 0),(AV.bool b23),(AV.int .i64 x24),(AV.bool b356),()) [] h18) (
fB (eqI x24 (Int.ofNat 4)) fun b357=>
j120 ((AV.ptr n1 0),(AV.ptr n4 0),(AV.bool b23),(AV.int .i64 x24),(AV.bool b357),()) [] h18)))) fun j19=>
br b9 (
asS v13 fun s21=>
c56 s21 h14 fun b22 h20=>
j19 (AV.bool b22) h20) (
j19 Qb h14)) fun j15=>
br b9 (
ldS v10 h11 fun s16=>
j15 (AV.str s16) h11) (
j15 Qb h11)) fun j12=>
br b9 (
j12 (AV.ptr n4 14) h8) (
j12 Qb h8)
def s29 : AV→AV→H→(Bool→H→Prop)→Prop:=s29G J0 s55 s56 s57 s58 s59 s60 s61 s62 s63 s64
def w29 (c : AV→AV→H→(Bool→H→Prop)→Prop) : Fun:=fun xs h k=>arg xs fun a0 xs=>arg xs fun a1 xs=>QB xs <| c a0 a1 h fun r0 h=>k (.bool r0) h
theorem s29_eq (J : Qm) (c55 : AV→Bool→H→(Bool→H→Prop)→Prop) (c56 : Str→H→(Bool→H→Prop)→Prop) (c57 : AV→AV→H→(Bool→H→Prop)→Prop) (c58 : AV→H→(Bool→H→Prop)→Prop) (c59 : AV→AV→H→(Bool→H→Prop)→Prop) (c60 : AV→H→(Bool→H→Prop)→Prop) (c61 : AV→H→(Bool→H→Prop)→Prop) (c62 : AV→H→(Bool→H→Prop)→Prop) (c63 : AV→H→(Bool→H→Prop)→Prop) (c64 : AV→H→(Bool→H→Prop)→Prop) (a0 : AV) (a1 : AV) (h : H) (k : AV→H→Prop) : Ql ty (gam J [(55,w55 c55),(56,w56 c56),(57,w57 c57),(58,w58 c58),(59,w59 c59),(60,w60 c60),(61,w61 c61),(62,w62 c62),(63,w63 c63),(64,w64 c64)]) Tryz.f29 [a0,a1] h k = s29G J c55 c56 c57 c58 c59 c60 c61 c62 c63 c64 a0 a1 h (fun r0 h=>k (.bool r0) h):=by kernel_rfl
def s11G (J : Qm) (c9 : AV→H→(Int→H→Prop)→Prop) (c21 : AV→H→(AV→Bool→H→Prop)→Prop) (c22 : AV→Str→Int→H→(Int→Int→H→Prop)→Prop) (c28 : AV→H→(Int→H→Prop)→Prop) (c29 : AV→AV→H→(Bool→H→Prop)→Prop) (a0 : AV) (a1 : AV) (h : H) (k : Int→H→Prop) : Prop :=
Go.Am.asAgg a0 fun l3=>
Qs (.cells false 27 l3) h fun n1 h2=>
Go.Am.asAgg a1 fun l6=>
Qs (.cells false 40 l6) h2 fun n4 h5=>
ldN 10 (AV.ptr n1 0) h5 fun l7=>
c9 (AV.agg l7) h5 fun x9 h8=>
fB (Bool.not (eqI x9 (Int.ofNat 0))) fun b10=>
br b10 (
k x9 h8) (
ldI .i64 (AV.ptr n4 0) h8 fun x11=>
fB (ltI x11 (Int.ofNat 1)) fun b12=>
J.jn (fun v13 h14=>
J.jn (fun v16 h17=>
J.jn (fun v20 h21=>
Qo (AV.bool b12) (AV.bool true) v20 fun b25=>
J.jn (fun v26 h27=>
J.jn (fun v29 h30=>
J.jn (fun v33 h34=>
J.jn (fun v36 h37=>
J.jn (fun v40 h41=>
Qo (AV.bool b25) (AV.bool true) v40 fun b46=>
J.jn (fun v47 h48=>
J.jn (fun v50 h51=>
J.jn (fun v54 h55=>
J.jn (fun v59 h60=>
Qo (AV.bool b46) (AV.bool true) v59 fun b64=>
J.jn (fun v65 h66=>
J.jn (fun v69 h70=>
J.jn (fun v73 h74=>
J.jn (fun v78 h79=>
Qo (AV.bool b64) (AV.bool true) v78 fun b83=>
br b83 (
k (Int.ofNat 2) h79) (
ldN 42 (AV.ptr n4 0) h79 fun l84=>
c21 (AV.agg l84) h79 fun v86 b87 h85=>
ldV (AV.ptr n1 1) h85 fun v88=>
ixK 1 v86 (AV.int .i64 (Int.ofNat 0)) fun p89=>
ldS p89 h85 fun s90=>
ldI .i64 (AV.ptr n1 0) h85 fun x91=>
c22 v88 s90 x91 h85 fun x93 x94 h92=>
J.lp (α:=AV × AV × AV × AV × AV × Unit) (fun r98 v95 d96 h97=>
Q6 v95.2.1 fun x99=>
asI .i64 v95.2.2.2.2.1 fun x100=>
fB (ltI x100 (Int.ofNat x99)) fun b101=>
J.jn (fun v102 h103=>
Qo (AV.bool b101) v102 (AV.bool false) fun b105=>
br b105 (
faK 1 v95.1 fun p106=>
ldV p106 h103 fun v107=>
ixK 1 v95.2.1 v95.2.2.2.2.1 fun p108=>
ldS p108 h103 fun s109=>
faK 0 v95.1 fun p110=>
ldI .i64 p110 h103 fun x111=>
c22 v107 s109 x111 h103 fun x113 x114 h112=>
asI .i64 v95.2.2.2.1 fun x115=>
fB (Bool.not (eqI x113 x115)) fun b116=>
br b116 (
Qr (gam J [(9,w9 c9),(21,w21 c21),(22,w22 c22),(28,w28 c28),(29,w29 c29)]) d96 h112 fun h117=>
k (Int.ofNat 2) h117) (
asI .i64 v95.2.2.2.2.1 fun x118=>
fI (Qu .i64 (Int.add x118 (Int.ofNat 1))) fun x119=>
r98 (v95.1,v95.2.1,v95.2.2.1,v95.2.2.2.1,(AV.int .i64 x119),()) d96 h112)) (
Qr (gam J [(9,w9 c9),(21,w21 c21),(22,w22 c22),(28,w28 c28),(29,w29 c29)]) d96 h103 fun h120=>
k (Int.ofNat 0) h120)) fun j104=>
br b101 (
j104 v95.2.2.1 h97) (
j104 Qb h97)) ((AV.ptr n1 0),v86,(AV.bool b87),(AV.int .i64 x93),(AV.int .i64 (Int.ofNat 1)),()) [] h92)) fun j80=>
br b64 (
j80 Qb h74) (
asB v73 fun b81=>
fB (Bool.not b81) fun b82=>
j80 (AV.bool b82) h74)) fun j75=>
br b64 (
j75 Qb h70) (
c29 v65 v69 h70 fun b77 h76=>
j75 (AV.bool b77) h76)) fun j71=>
br b64 (
j71 Qb h66) (
ldN 42 (AV.ptr n4 0) h66 fun l72=>
j71 (AV.agg l72) h66)) fun j67=>
br b64 (
j67 Qb h60) (
ldN 10 (AV.ptr n1 0) h60 fun l68=>
j67 (AV.agg l68) h60)) fun j61=>
br b46 (
j61 Qb h55) (
asI .i64 v54 fun x62=>
fB (Bool.not (eqI x62 (Int.ofNat 0))) fun b63=>
j61 (AV.bool b63) h55)) fun j56=>
br b46 (
j56 Qb h51) (
c28 v50 h51 fun x58 h57=>
j56 (AV.int .i64 x58) h57)) fun j52=>
br b46 (
j52 Qb h48) (
ldN 3 v47 h48 fun l53=>
j52 (AV.agg l53) h48)) fun j49=>
br b46 (
j49 Qb h41) (
j49 (AV.ptr n4 2) h41)) fun j42=>
br b25 (
j42 Qb h37) (
asI .i64 v29 fun x43=>
asI .i64 v36 fun x44=>
fB (Bool.not (ltI x43 x44)) fun b45=>
j42 (AV.bool b45) h37)) fun j38=>
br b25 (
j38 Qb h34) (
ldI .i64 v33 h34 fun x39=>
j38 (AV.int .i64 x39) h34)) fun j35=>
br b25 (
j35 Qb h30) (
j35 (AV.ptr n1 0) h30)) fun j31=>
br b25 (
j31 Qb h27) (
ldI .i64 v26 h27 fun x32=>
j31 (AV.int .i64 x32) h27)) fun j28=>
br b25 (
j28 Qb h21) (
j28 (AV.ptr n4 1) h21)) fun j22=>
br b12 (
j22 Qb h17) (
asI .i64 v16 fun x23=>
fB (ltI x23 (Int.ofNat 0)) fun b24=>
j22 (AV.bool b24) h17)) fun j18=>
br b12 (
j18 Qb h14) (
ldI .i64 v13 h14 fun x19=>
j18 (AV.int .i64 x19) h14)) fun j15=>
br b12 (
j15 Qb h8) (
j15 (AV.ptr n4 1) h8))
def s11 : AV→AV→H→(Int→H→Prop)→Prop:=s11G J0 s9 s21 s22 s28 s29
def w11 (c : AV→AV→H→(Int→H→Prop)→Prop) : Fun:=fun xs h k=>arg xs fun a0 xs=>arg xs fun a1 xs=>QB xs <| c a0 a1 h fun r0 h=>k (.int .i64 r0) h
theorem s11_eq (J : Qm) (c9 : AV→H→(Int→H→Prop)→Prop) (c21 : AV→H→(AV→Bool→H→Prop)→Prop) (c22 : AV→Str→Int→H→(Int→Int→H→Prop)→Prop) (c28 : AV→H→(Int→H→Prop)→Prop) (c29 : AV→AV→H→(Bool→H→Prop)→Prop) (a0 : AV) (a1 : AV) (h : H) (k : AV→H→Prop) : Ql ty (gam J [(9,w9 c9),(21,w21 c21),(22,w22 c22),(28,w28 c28),(29,w29 c29)]) Tryz.f11 [a0,a1] h k = s11G J c9 c21 c22 c28 c29 a0 a1 h (fun r0 h=>k (.int .i64 r0) h):=by kernel_rfl
def s7G (J : Qm) (c11 : AV→AV→H→(Int→H→Prop)→Prop) (c21 : AV→H→(AV→Bool→H→Prop)→Prop) (c22 : AV→Str→Int→H→(Int→Int→H→Prop)→Prop) (a0 : AV) (a1 : AV) (h : H) (k : Int→Int→H→Prop) : Prop :=
Go.Am.asAgg a0 fun l3=>
Qs (.cells false 27 l3) h fun n1 h2=>
Go.Am.asAgg a1 fun l6=>
Qs (.cells false 40 l6) h2 fun n4 h5=>
ldN 10 (AV.ptr n1 0) h5 fun l7=>
ldN 42 (AV.ptr n4 0) h5 fun l8=>
c11 (AV.agg l7) (AV.agg l8) h5 fun x10 h9=>
fB (Bool.not (eqI x10 (Int.ofNat 0))) fun b11=>
br b11 (
k (Int.ofNat 0) x10 h9) (
ldN 42 (AV.ptr n4 0) h9 fun l12=>
c21 (AV.agg l12) h9 fun v14 b15 h13=>
ldV (AV.ptr n1 1) h13 fun v16=>
ixK 1 v14 (AV.int .i64 (Int.ofNat 0)) fun p17=>
ldS p17 h13 fun s18=>
ldI .i64 (AV.ptr n1 0) h13 fun x19=>
c22 v16 s18 x19 h13 fun x21 x22 h20=>
k x21 (Int.ofNat 0) h20)
def s7 : AV→AV→H→(Int→Int→H→Prop)→Prop:=s7G J0 s11 s21 s22
def w7 (c : AV→AV→H→(Int→Int→H→Prop)→Prop) : Fun:=fun xs h k=>arg xs fun a0 xs=>arg xs fun a1 xs=>QB xs <| c a0 a1 h fun r0 r1 h=>k (.tuple [(.int .i64 r0),(.int .i64 r1)]) h
theorem s7_eq (J : Qm) (c11 : AV→AV→H→(Int→H→Prop)→Prop) (c21 : AV→H→(AV→Bool→H→Prop)→Prop) (c22 : AV→Str→Int→H→(Int→Int→H→Prop)→Prop) (a0 : AV) (a1 : AV) (h : H) (k : AV→H→Prop) : Ql ty (gam J [(11,w11 c11),(21,w21 c21),(22,w22 c22)]) Tryz.f7 [a0,a1] h k = s7G J c11 c21 c22 a0 a1 h (fun r0 r1 h=>k (.tuple [(.int .i64 r0),(.int .i64 r1)]) h):=by kernel_rfl
def g7 : Fun:=w7 s7
def s10G (J : Qm) (c6 : AV→AV→H→(Int→Int→H→Prop)→Prop) (a0 : AV) (a1 : AV) (h : H) (k : Int→H→Prop) : Prop :=
Go.Am.asAgg a0 fun l3=>
Qs (.cells false 27 l3) h fun n1 h2=>
Go.Am.asAgg a1 fun l6=>
Qs (.cells false 40 l6) h2 fun n4 h5=>
ldN 10 (AV.ptr n1 0) h5 fun l7=>
ldN 42 (AV.ptr n4 0) h5 fun l8=>
c6 (AV.agg l7) (AV.agg l8) h5 fun x10 x11 h9=>
k x11 h9
def s10 : AV→AV→H→(Int→H→Prop)→Prop:=s10G J0 s6
def w10 (c : AV→AV→H→(Int→H→Prop)→Prop) : Fun:=fun xs h k=>arg xs fun a0 xs=>arg xs fun a1 xs=>QB xs <| c a0 a1 h fun r0 h=>k (.int .i64 r0) h
theorem s10_eq (J : Qm) (c6 : AV→AV→H→(Int→Int→H→Prop)→Prop) (a0 : AV) (a1 : AV) (h : H) (k : AV→H→Prop) : Ql ty (gam J [(6,w6 c6)]) Tryz.f10 [a0,a1] h k = s10G J c6 a0 a1 h (fun r0 h=>k (.int .i64 r0) h):=by kernel_rfl
def s3G (J : Qm) (c4 : Fun) (c5 : AV→H→(Bool→H→Prop)→Prop) (c6 : AV→AV→H→(Int→Int→H→Prop)→Prop) (c7 : AV→AV→H→(Int→Int→H→Prop)→Prop) (c8 : AV→H→(Int→H→Prop)→Prop) (c9 : AV→H→(Int→H→Prop)→Prop) (c10 : AV→AV→H→(Int→H→Prop)→Prop) (c11 : AV→AV→H→(Int→H→Prop)→Prop) (a0 : AV) (a1 : AV) (h : H) (k : Bool→H→Prop) : Prop :=
Go.Am.asAgg a0 fun l3=>
Qs (.cells false 27 l3) h fun n1 h2=>
Go.Am.asAgg a1 fun l6=>
Qs (.cells false 40 l6) h2 fun n4 h5=>
c4 [] h5 fun v7 h8=>
asB v7 fun b9=>
fB (Bool.not b9) fun b10=>
br b10 (
k false h8) (
ldN 42 (AV.ptr n4 0) h8 fun l11=>
ck (Nat.beq (List.length l11) 42) (op' (Qy 1 l11 [(.int .i64 0),(.int .i64 0),(.int .i64 0),(.int .i64 0),(.int .i32 0),(.int .i32 0),(.int .i64 0),(.int .i32 0),(.int .i32 0),(.int .i64 0),(.int .i32 0),(.int .i32 0),(.int .i64 0),(.int .i32 0),(.int .i32 0),(.str ⟨0,0⟩),(.str ⟨0,0⟩),(.str ⟨0,0⟩),(.int .i64 0),(.int .i32 0),(.int .i32 0),(.int .i64 0),(.int .i32 0),(.int .i32 0),(.int .i64 0),(.int .i32 0),(.int .i32 0),(.nils),(.nils),(.bool false),(.bool false),(.int .i32 0),(.int .i32 0),(.int .u8 0),(.int .i64 0),(.int .i32 0),(.int .i32 0),(.nils),(.int .i64 0),(.int .i64 0),(.int .i32 0),(.int .i32 0),(.nils),(.int .i64 0),(.int .i64 0),(.int .i64 0)]) fun l12=>
ck (Nat.beq (List.length l12) 46) (op' (Qy 0 l12 [(.int .i64 0),(.int .i64 0),(.int .i64 0),(.int .i64 0),(.int .i32 0),(.int .i32 0),(.int .i64 0),(.int .i32 0),(.int .i32 0),(.int .i64 0),(.int .i32 0),(.int .i32 0),(.int .i64 0),(.int .i32 0),(.int .i32 0),(.str ⟨0,0⟩),(.str ⟨0,0⟩),(.str ⟨0,0⟩),(.int .i64 0),(.int .i32 0),(.int .i32 0),(.int .i64 0),(.int .i32 0),(.int .i32 0),(.int .i64 0),(.int .i32 0),(.int .i32 0),(.nils),(.nils),(.bool false),(.bool false),(.int .i32 0),(.int .i32 0),(.int .u8 0),(.int .i64 0),(.int .i32 0),(.int .i32 0),(.nils),(.int .i64 0),(.int .i64 0),(.int .i32 0),(.int .i32 0),(.nils),(.int .i64 0),(.int .i64 0),(.int .i64 0)]) fun l15=>
Qs (.cells false 44 l15) h8 fun n13 h14=>
c5 (AV.slice n13 0 1 1 46 true) h14 fun b17 h16=>
fB (Bool.not b17) fun b18=>
br b18 (
k true h16) (
ldN 10 (AV.ptr n1 0) h16 fun l19=>
ldN 42 (AV.ptr n4 0) h16 fun l20=>
c6 (AV.agg l19) (AV.agg l20) h16 fun x22 x23 h21=>
ldN 10 (AV.ptr n1 0) h21 fun l24=>
ldN 42 (AV.ptr n4 0) h21 fun l25=>
c7 (AV.agg l24) (AV.agg l25) h21 fun x27 x28 h26=>
ldN 10 (AV.ptr n1 0) h26 fun l29=>
ldN 10 (AV.ptr n1 0) h26 fun l30=>
c8 (AV.agg l29) h26 fun x32 h31=>
ck (Zj (ZU 10 (AV.ptr n1 0) h31) (AV.agg l30)) (
c9 (AV.agg l30) h31 fun x34 h33=>
fB (eqI x32 x34) fun b35=>
J.jb (fun b36 v37=>
J.jb (fun b40 v41=>
J.jb (fun b44 v45=>
J.jb (fun b48 v49=>
J.jn (fun v52 h53=>
ck (Bool.rec (motive:=fun _=>Bool) true (Zj (ZU 42 (AV.ptr n4 0) h53) v49) b48) (
ck (Bool.rec (motive:=fun _=>Bool) true (Zj (ZU 10 (AV.ptr n1 0) h53) v45) b44) (
J.jn (fun v57 h58=>
J.jn (fun v62 h63=>
Qo (AV.bool b35) v62 (AV.bool false) fun b68=>
J.jn (fun v69 h70=>
J.jn (fun v72 h73=>
J.jn (fun v75 h76=>
Qo (AV.bool b68) v75 (AV.bool false) fun b81=>
J.jn (fun v82 h83=>
J.jn (fun v85 h86=>
J.jn (fun v88 h89=>
Qo (AV.bool b81) v88 (AV.bool false) fun b94=>
k b94 h89) fun j90=>
br b81 (
asI .i64 v82 fun x91=>
asI .i64 v85 fun x92=>
fB (eqI x91 x92) fun b93=>
j90 (AV.bool b93) h86) (
j90 Qb h86)) fun j87=>
br b81 (
j87 (AV.int .i64 x28) h83) (
j87 Qb h83)) fun j84=>
br b81 (
j84 (AV.int .i64 x23) h76) (
j84 Qb h76)) fun j77=>
br b68 (
asI .i64 v69 fun x78=>
asI .i64 v72 fun x79=>
fB (eqI x78 x79) fun b80=>
j77 (AV.bool b80) h73) (
j77 Qb h73)) fun j74=>
br b68 (
j74 (AV.int .i64 x27) h70) (
j74 Qb h70)) fun j71=>
br b68 (
j71 (AV.int .i64 x22) h63) (
j71 Qb h63)) fun j64=>
br b35 (
asI .i64 v52 fun x65=>
asI .i64 v57 fun x66=>
fB (eqI x65 x66) fun b67=>
j64 (AV.bool b67) h58) (
j64 Qb h58)) fun j59=>
br b35 (
c11 v45 v49 h53 fun x61 h60=>
j59 (AV.int .i64 x61) h60) (
j59 Qb h53)))) fun j54=>
br b35 (
c10 v37 v41 h33 fun x56 h55=>
j54 (AV.int .i64 x56) h55) (
j54 Qb h33)) fun j50=>
br b35 (
ldN 42 (AV.ptr n4 0) h33 fun l51=>
j50 true (AV.agg l51)) (
j50 false Qb)) fun j46=>
br b35 (
ldN 10 (AV.ptr n1 0) h33 fun l47=>
j46 true (AV.agg l47)) (
j46 false Qb)) fun j42=>
br b35 (
ldN 42 (AV.ptr n4 0) h33 fun l43=>
j42 true (AV.agg l43)) (
j42 false Qb)) fun j38=>
br b35 (
ldN 10 (AV.ptr n1 0) h33 fun l39=>
j38 true (AV.agg l39)) (
j38 false Qb))))))
def s3 : AV→AV→H→(Bool→H→Prop)→Prop:=s3G J0 g4 s5 s6 s7 s8 s9 s10 s11
def w3 (c : AV→AV→H→(Bool→H→Prop)→Prop) : Fun:=fun xs h k=>arg xs fun a0 xs=>arg xs fun a1 xs=>QB xs <| c a0 a1 h fun r0 h=>k (.bool r0) h
theorem s3_eq (J : Qm) (c4 : Fun) (c5 : AV→H→(Bool→H→Prop)→Prop) (c6 : AV→AV→H→(Int→Int→H→Prop)→Prop) (c7 : AV→AV→H→(Int→Int→H→Prop)→Prop) (c8 : AV→H→(Int→H→Prop)→Prop) (c9 : AV→H→(Int→H→Prop)→Prop) (c10 : AV→AV→H→(Int→H→Prop)→Prop) (c11 : AV→AV→H→(Int→H→Prop)→Prop) (a0 : AV) (a1 : AV) (h : H) (k : AV→H→Prop) : Ql ty (gam J [(4,c4),(5,w5 c5),(6,w6 c6),(7,w7 c7),(8,w8 c8),(9,w9 c9),(10,w10 c10),(11,w11 c11)]) Tryz.f3 [a0,a1] h k = s3G J c4 c5 c6 c7 c8 c9 c10 c11 a0 a1 h (fun r0 h=>k (.bool r0) h):=by kernel_rfl
def g3 : Fun:=w3 s3
end Go.Proofs.YtodlaigjjknpkaaGreatDoor
