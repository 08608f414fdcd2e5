import Derived.Test.YtbcfpeelkaoljaaDoorAmS3
namespace Go.Proofs.YtbcfpeelkaoljaaDoor
open Go Go.Am
set_option maxRecDepth 100000
set_option linter.all false
noncomputable def s3G (J:Qg) (c4:Fun) (c5:Int→H→(AV→Int→H→Prop)→Prop) (c6:AV→Int→Int→H→(AV→AV→Int→H→Prop)→Prop) (c7:AV→H→(Bool→H→Prop)→Prop) (c8:AV→Int→H→(Int→H→Prop)→Prop) (c9:AV→AV→H→(Int→Int→H→Prop)→Prop) (c10:AV→H→(Int→H→Prop)→Prop) (c11:AV→Int→Int→H→(Int→H→Prop)→Prop) (c12:AV→AV→H→(Bool→H→Prop)→Prop) (c13:AV→AV→H→(Bool→H→Prop)→Prop) (a0:AV) (h:H) (k:Bool→H→Prop):Prop :=
c4 [] h fun v1 h2=>
asB v1 fun b3=>
fB (Bool.not b3) fun b4=>
br b4 (
k false h2) (
Zi a0 fun x5=>
fB (ltI (Int.ofNat 30) (Int.ofNat x5)) fun b6=>
br b6 (
k true h2) (
c5 (Int.ofNat 1048576) h2 fun v8 x9 h7=>
c6 v8 (Int.ofNat 1) (Int.ofNat 0) h7 fun v11 v12 x13 h10=>
fB (Bool.not (eqI x9 (Int.ofNat 0))) fun b14=>
J.jn (fun v15 h16=>
J.jn (fun v18 h19=>
QY (AV.bool b14) (AV.bool true) v18 fun b23=>
br b23 (
k false h19) (
J.lp (α:=AV × AV × AV × AV × AV × Unit) (fun r27 v24 d25 h26=>
Zi v24.1 fun x28=>
asI .i64 v24.2.2.2.2.1 fun x29=>
fB (ltI x29 (Int.ofNat x28)) fun b30=>
br b30 (
J.jd (α:=AV × AV × AV × AV × AV × Unit) (fun v31 d32 h33=>
asI .i64 v31.2.2.2.2.1 fun x35=>
fI (Qc .i64 (Int.add x35 (Int.ofNat 1))) fun x36=>
r27 (v31.1,v31.2.1,v31.2.2.1,v31.2.2.2.1,(AV.int .i64 x36),()) d32 h33) fun j34=>
ixK 5 v24.1 v24.2.2.2.2.1 fun p37=>
ldN 5 p37 h26 fun l38=>
Qw (.cells false 34 [(.nils),(.bool false),(.int .i64 0),(.int .i64 0),(.int .i64 0)]) h26 fun n39 h40=>
stN 5 (AV.ptr n39 0) l38 h40 fun h41=>
ldV (AV.ptr n39 0) h41 fun v42=>
Zi v42 fun x43=>
fB (ltI (Int.ofNat 70) (Int.ofNat x43)) fun b44=>
J.jn (fun v45 h46=>
J.jn (fun v48 h49=>
J.jn (fun v52 h53=>
J.jn (fun v57 h58=>
QY (AV.bool b44) (AV.bool true) v57 fun b62=>
J.jn (fun v63 h64=>
J.jn (fun v66 h67=>
J.jn (fun v70 h71=>
QY (AV.bool b62) (AV.bool true) v70 fun b75=>
J.jn (fun v76 h77=>
J.jn (fun v79 h80=>
J.jn (fun v83 h84=>
QY (AV.bool b75) (AV.bool true) v83 fun b88=>
br b88 (
Qr (gam J [(4,c4),(5,w5 c5),(6,w6 c6),(7,w7 c7),(8,w8 c8),(9,w9 c9),(10,w10 c10),(11,w11 c11),(12,w12 c12),(13,w13 c13)]) d25 h84 fun h89=>
k true h89) (
J.jd (α:=AV × AV × AV × AV × AV × AV × Unit) (fun v90 d91 h92=>
faK 0 v90.2.2.2.2.2.1 fun p94=>
ldV p94 h92 fun v95=>
c9 v90.2.2.1 v95 h92 fun x97 x98 h96=>
Zi v90.2.2.2.1 fun x99=>
fI (Qc .i64 (Int.add (Int.ofNat x99) (Int.ofNat 1))) fun x100=>
faK 0 v90.2.2.2.2.2.1 fun p101=>
ldV p101 h96 fun v102=>
ck (Zv v102) (Qw (.cells false 40 [(.int .i64 0),(.nils)]) h96 fun n103 h104=>
stN 2 (AV.ptr n103 0) [(AV.int .i64 x100),v102] h104 fun h105=>
J.jd (α:=AV × AV × AV × AV × AV × AV × AV × Unit) (fun v106 d107 h108=>
J.jd (α:=AV × AV × AV × AV × AV × AV × AV × Unit) (fun v110 d111 h112=>
faK 2 v110.2.2.2.2.2.1 fun p114=>
ldI .i64 p114 h112 fun x115=>
fB (ltI x115 (Int.ofNat 0)) fun b116=>
br b116 (
j34 (v110.1,v110.2.1,v110.2.2.1,v110.2.2.2.1,v110.2.2.2.2.1,()) d111 h112) (
faK 3 v110.2.2.2.2.2.1 fun p117=>
ldI .i64 p117 h112 fun x118=>
faK 4 v110.2.2.2.2.2.1 fun p119=>
ldI .i64 p119 h112 fun x120=>
c11 v110.2.1 x118 x120 h112 fun x122 h121=>
fB (Bool.not (eqI x122 (Int.ofNat 0))) fun b123=>
br b123 (
Qr (gam J [(4,c4),(5,w5 c5),(6,w6 c6),(7,w7 c7),(8,w8 c8),(9,w9 c9),(10,w10 c10),(11,w11 c11),(12,w12 c12),(13,w13 c13)]) d111 h121 fun h124=>
k false h124) (
c6 v110.2.1 (Int.ofNat 1) (Int.ofNat 0) h121 fun v126 v127 x128 h125=>
fB (Bool.not (eqI x128 (Int.ofNat 0))) fun b129=>
J.jn (fun v130 h131=>
J.jn (fun v133 h134=>
J.jn (fun v136 h137=>
J.jn (fun v141 h142=>
QY (AV.bool b129) (AV.bool true) v141 fun b146=>
J.jn (fun v147 h148=>
J.jn (fun v150 h151=>
J.jn (fun v154 h155=>
J.jn (fun v157 h158=>
J.jn (fun v161 h162=>
J.jn (fun v166 h167=>
QY (AV.bool b146) (AV.bool true) v166 fun b172=>
J.jn (fun v173 h174=>
J.jn (fun v176 h177=>
J.jn (fun v180 h181=>
J.jn (fun v183 h184=>
J.jn (fun v187 h188=>
J.jn (fun v193 h194=>
J.jn (fun v196 h197=>
J.jn (fun v199 h200=>
J.jn (fun v202 h203=>
J.jn (fun v206 h207=>
J.jb (fun b210 v211=>
J.jn (fun v214 h215=>
J.jn (fun v221 h222=>
J.jn (fun v226 h227=>
J.jn (fun v231 h232=>
QY (AV.bool b172) (AV.bool true) v231 fun b235=>
br b235 (
Qr (gam J [(4,c4),(5,w5 c5),(6,w6 c6),(7,w7 c7),(8,w8 c8),(9,w9 c9),(10,w10 c10),(11,w11 c11),(12,w12 c12),(13,w13 c13)]) d111 h232 fun h236=>
k false h236) (
j34 (v110.1,v110.2.1,v126,v127,v110.2.2.2.2.1,()) d111 h232)) fun j233=>
br b172 (
j233 Qa h227) (
QY v193 v226 (AV.bool false) fun b234=>
j233 (AV.bool b234) h227)) fun j228=>
ZW v193 (fun b237=>
br b237 (
asB v221 fun b229=>
fB (Bool.not b229) fun b230=>
j228 (AV.bool b230) h222) (
j228 Qa h222)) (
j228 Qa h222)) fun j223=>
ZW v193 (fun b238=>
br b238 (
c13 v206 v214 h215 fun b225 h224=>
j223 (AV.bool b225) h224) (
j223 Qa h215)) (
j223 Qa h215)) fun j216=>
ZW v193 (fun b239=>
br b239 (
Go.Am.asAgg v211 fun l219=>
ck (Nat.beq (List.length l219) 2) (op' (Q7 0 l219 [(.int .i64 0),(.nils)]) fun l220=>
Qw (.cells false 40 l220) h207 fun n217 h218=>
j216 (AV.slice n217 0 1 1 2 true) h218)) (
j216 Qa h207)) (
j216 Qa h207)) fun j212=>
ZW v193 (fun b240=>
br b240 (
ldN 2 v110.2.2.2.2.2.2.1 h207 fun l213=>
j212 true (AV.agg l213)) (
j212 false Qa)) (
j212 false Qa)) fun j208=>
ZW v193 (fun b241=>
br b241 (
slK 2 v196 (some v202) none fun v209=>
j208 v209 h203) (
j208 Qa h203)) (
j208 Qa h203)) fun j204=>
ZW v193 (fun b242=>
br b242 (
Zi v199 fun x205=>
j204 (AV.int .i64 (Int.ofNat x205)) h200) (
j204 Qa h200)) (
j204 Qa h200)) fun j201=>
ZW v193 (fun b243=>
br b243 (
j201 v110.2.2.2.1 h197) (
j201 Qa h197)) (
j201 Qa h197)) fun j198=>
ZW v193 (fun b244=>
br b244 (
j198 v127 h194) (
j198 Qa h194)) (
j198 Qa h194)) fun j195=>
br b172 (
j195 Qa h188) (
j195 v187 h188)) fun j189=>
br b172 (
j189 Qa h184) (
asI .i64 v176 fun x190=>
asI .i64 v183 fun x191=>
fB (ltI x191 x190) fun b192=>
j189 (AV.bool b192) h184)) fun j185=>
br b172 (
j185 Qa h181) (
Zi v180 fun x186=>
j185 (AV.int .i64 (Int.ofNat x186)) h181)) fun j182=>
br b172 (
j182 Qa h177) (
j182 v110.2.2.2.1 h177)) fun j178=>
br b172 (
j178 Qa h174) (
Zi v173 fun x179=>
j178 (AV.int .i64 (Int.ofNat x179)) h174)) fun j175=>
br b172 (
j175 Qa h167) (
j175 v127 h167)) fun j168=>
br b146 (
j168 Qa h162) (
asI .i64 v150 fun x169=>
asI .i64 v161 fun x170=>
fB (ltI x170 x169) fun b171=>
j168 (AV.bool b171) h162)) fun j163=>
br b146 (
j163 Qa h158) (
asI .i64 v157 fun x164=>
fI (Qc .i64 (Int.add x164 (Int.ofNat 1))) fun x165=>
j163 (AV.int .i64 x165) h158)) fun j159=>
br b146 (
j159 Qa h155) (
Zi v154 fun x160=>
j159 (AV.int .i64 (Int.ofNat x160)) h155)) fun j156=>
br b146 (
j156 Qa h151) (
j156 v110.2.2.2.1 h151)) fun j152=>
br b146 (
j152 Qa h148) (
Zi v147 fun x153=>
j152 (AV.int .i64 (Int.ofNat x153)) h148)) fun j149=>
br b146 (
j149 Qa h142) (
j149 v127 h142)) fun j143=>
br b129 (
j143 Qa h137) (
asB v136 fun b144=>
fB (Bool.not b144) fun b145=>
j143 (AV.bool b145) h137)) fun j138=>
br b129 (
j138 Qa h134) (
c12 v130 v133 h134 fun b140 h139=>
j138 (AV.bool b140) h139)) fun j135=>
br b129 (
j135 Qa h131) (
j135 v110.2.2.2.1 h131)) fun j132=>
br b129 (
j132 Qa h125) (
j132 v127 h125)))) fun j113=>
faK 1 v106.2.2.2.2.2.1 fun p245=>
ldB p245 h108 fun b246=>
br b246 (
c10 v106.2.2.1 h108 fun x248 h247=>
j113 (v106.1,v106.2.1,v106.2.2.1,v106.2.2.2.1,v106.2.2.2.2.1,v106.2.2.2.2.2.1,v106.2.2.2.2.2.2.1,()) d107 h247) (
j113 (v106.1,v106.2.1,v106.2.2.1,v106.2.2.2.1,v106.2.2.2.2.1,v106.2.2.2.2.2.1,v106.2.2.2.2.2.2.1,()) d107 h108)) fun j109=>
fB (eqI x98 (Int.ofNat 0)) fun b249=>
br b249 (
Zi v90.2.2.2.1 fun x250=>
fI (Qc .i64 (Int.add (Int.ofNat x250) (Int.ofNat 1))) fun x251=>
fB (Bool.not (eqI x97 x251)) fun b252=>
br b252 (
Qr (gam J [(4,c4),(5,w5 c5),(6,w6 c6),(7,w7 c7),(8,w8 c8),(9,w9 c9),(10,w10 c10),(11,w11 c11),(12,w12 c12),(13,w13 c13)]) d91 h105 fun h253=>
k false h253) (
ldN 2 (AV.ptr n103 0) h105 fun l254=>
ck (Nat.beq (List.length l254) 2) (op' (Q7 0 l254 [(.int .i64 0),(.nils)]) fun l257=>
Qw (.cells false 40 l257) h105 fun n255 h256=>
apC 40 2 32 v90.2.2.2.1 (AV.slice n255 0 1 1 2 true) h256 fun v258 h259=>
j109 (v90.1,v90.2.1,v90.2.2.1,v258,v90.2.2.2.2.1,v90.2.2.2.2.2.1,(AV.ptr n103 0),()) d91 h259))) (
j109 (v90.1,v90.2.1,v90.2.2.1,v90.2.2.2.1,v90.2.2.2.2.1,v90.2.2.2.2.2.1,(AV.ptr n103 0),()) d91 h105))) fun j93=>
ldI .i64 (AV.ptr n39 2) h84 fun x260=>
fB (Bool.not (ltI x260 (Int.ofNat 0))) fun b261=>
br b261 (
ldI .i64 (AV.ptr n39 2) h84 fun x262=>
c8 v24.2.1 x262 h84 fun x264 h263=>
j93 (v24.1,v24.2.1,v24.2.2.1,v24.2.2.2.1,v24.2.2.2.2.1,(AV.ptr n39 0),()) d25 h263) (
j93 (v24.1,v24.2.1,v24.2.2.1,v24.2.2.2.1,v24.2.2.2.2.1,(AV.ptr n39 0),()) d25 h84))) fun j85=>
br b75 (
j85 Qa h80) (
asI .i64 v79 fun x86=>
fB (ltI x86 (Int.ofNat 0)) fun b87=>
j85 (AV.bool b87) h80)) fun j81=>
br b75 (
j81 Qa h77) (
ldI .i64 v76 h77 fun x82=>
j81 (AV.int .i64 x82) h77)) fun j78=>
br b75 (
j78 Qa h71) (
j78 (AV.ptr n39 4) h71)) fun j72=>
br b62 (
j72 Qa h67) (
asI .i64 v66 fun x73=>
fB (ltI x73 (Int.ofNat 0)) fun b74=>
j72 (AV.bool b74) h67)) fun j68=>
br b62 (
j68 Qa h64) (
ldI .i64 v63 h64 fun x69=>
j68 (AV.int .i64 x69) h64)) fun j65=>
br b62 (
j65 Qa h58) (
j65 (AV.ptr n39 3) h58)) fun j59=>
br b44 (
j59 Qa h53) (
asB v52 fun b60=>
fB (Bool.not b60) fun b61=>
j59 (AV.bool b61) h53)) fun j54=>
br b44 (
j54 Qa h49) (
c7 v48 h49 fun b56 h55=>
j54 (AV.bool b56) h55)) fun j50=>
br b44 (
j50 Qa h46) (
ldV v45 h46 fun v51=>
j50 v51 h46)) fun j47=>
br b44 (
j47 Qa h41) (
j47 (AV.ptr n39 0) h41)) (
c6 v24.2.1 (Int.ofNat 1) (Int.ofNat 0) h26 fun v266 v267 x268 h265=>
fB (eqI x268 (Int.ofNat 0)) fun b269=>
J.jn (fun v270 h271=>
J.jn (fun v273 h274=>
J.jn (fun v276 h277=>
QY (AV.bool b269) v276 (AV.bool false) fun b281=>
Qr (gam J [(4,c4),(5,w5 c5),(6,w6 c6),(7,w7 c7),(8,w8 c8),(9,w9 c9),(10,w10 c10),(11,w11 c11),(12,w12 c12),(13,w13 c13)]) d25 h277 fun h282=>
k b281 h282) fun j278=>
br b269 (
c13 v270 v273 h274 fun b280 h279=>
j278 (AV.bool b280) h279) (
j278 Qa h274)) fun j275=>
br b269 (
j275 v24.2.2.2.1 h271) (
j275 Qa h271)) fun j272=>
br b269 (
j272 v267 h265) (
j272 Qa h265))) (a0,v8,v11,AV.nils,(AV.int .i64 (Int.ofNat 0)),()) [] h19)) fun j20=>
br b14 (
j20 Qa h16) (
asI .i64 v15 fun x21=>
fB (Bool.not (eqI x21 (Int.ofNat 0))) fun b22=>
j20 (AV.bool b22) h16)) fun j17=>
br b14 (
j17 Qa h10) (
j17 (AV.int .i64 x13) h10)))
noncomputable def w3 (c:AV→H→(Bool→H→Prop)→Prop):Fun:=fun xs h k=>arg xs fun a0 xs=>QV xs <| c a0 h fun r0 h=>k (.bool r0) h
theorem s3_eq (J:Qg) (c4:Fun) (c5:Int→H→(AV→Int→H→Prop)→Prop) (c6:AV→Int→Int→H→(AV→AV→Int→H→Prop)→Prop) (c7:AV→H→(Bool→H→Prop)→Prop) (c8:AV→Int→H→(Int→H→Prop)→Prop) (c9:AV→AV→H→(Int→Int→H→Prop)→Prop) (c10:AV→H→(Int→H→Prop)→Prop) (c11:AV→Int→Int→H→(Int→H→Prop)→Prop) (c12:AV→AV→H→(Bool→H→Prop)→Prop) (c13:AV→AV→H→(Bool→H→Prop)→Prop) (a0:AV) (h:H) (k:AV→H→Prop):Zk ty (gam J [(4,c4),(5,w5 c5),(6,w6 c6),(7,w7 c7),(8,w8 c8),(9,w9 c9),(10,w10 c10),(11,w11 c11),(12,w12 c12),(13,w13 c13)]) Tryd.f3 [a0] h k=s3G J c4 c5 c6 c7 c8 c9 c10 c11 c12 c13 a0 h (fun r0 h=>k (.bool r0) h):=by kernel_rfl
end Go.Proofs.YtbcfpeelkaoljaaDoor
