import Derived.Test.YtfgdelkdmdmfgaaDoorAmS2
namespace Go.Proofs.YtfgdelkdmdmfgaaDoor
open Go Go.Am
set_option maxRecDepth 100000
set_option linter.all false
noncomputable def s3G (J:Qh) (c4:Fun) (c5:Int→H→(AV→Int→H→Prop)→Prop) (c6:AV→Int→Int→H→(AV→AV→Int→H→Prop)→Prop) (c7:AV→H→(Bool→H→Prop)→Prop) (c8:AV→AV→H→(Int→Int→H→Prop)→Prop) (c9:AV→H→(Int→H→Prop)→Prop) (c10:AV→Str→H→(AV→Int→H→Prop)→Prop) (c11:Int→Int→H→(Int→H→Prop)→Prop) (c12:AV→Int→Int→H→(AV→Int→H→Prop)→Prop) (c13:AV→Str→Int→Int→H→(Int→H→Prop)→Prop) (a0:AV) (a1:Int) (a2:Int) (a3:Int) (h:H) (k:Bool→H→Prop):Prop :=
c4 [] h fun v1 h2=>
asB v1 fun b3=>
fB (Bool.not b3) fun b4=>
br b4 (
k false h2) (
ZH a0 fun x5=>
fB (eqI (Int.ofNat x5) (Int.ofNat 0)) fun b6=>
J.jn (fun v7 h8=>
J.jn (fun v10 h11=>
J.jn (fun v14 h15=>
Q3 (AV.bool b6) (AV.bool true) v14 fun b19=>
J.jn (fun v20 h21=>
J.jn (fun v23 h24=>
Q3 (AV.bool b19) (AV.bool true) v23 fun b28=>
br b28 (
k true h24) (
c5 (Int.ofNat 16777216) h24 fun v30 x31 h29=>
c6 v30 (Int.ofNat 1) (Int.ofNat 0) h29 fun v33 v34 x35 h32=>
fB (Bool.not (eqI x35 (Int.ofNat 0))) fun b36=>
br b36 (
k false h32) (
Qz (.cells false 3 [(AV.int .i64 (Int.ofNat 0))]) h32 fun n37 h38=>
J.lp (α:=AV × AV × AV × AV × AV × AV × AV × AV × Unit) (fun r42 v39 d40 h41=>
ZH v39.1 fun x43=>
asI .i64 v39.2.2.2.2.2.2.2.1 fun x44=>
fB (ltI x44 (Int.ofNat x43)) fun b45=>
br b45 (
ixK 1 v39.1 v39.2.2.2.2.2.2.2.1 fun p46=>
ldV p46 h41 fun v47=>
ZH v47 fun x48=>
fB (ltI (Int.ofNat 70) (Int.ofNat x48)) fun b49=>
J.jn (fun v50 h51=>
J.jn (fun v53 h54=>
J.jn (fun v56 h57=>
J.jn (fun v60 h61=>
J.jn (fun v64 h65=>
J.jn (fun v69 h70=>
Q3 (AV.bool b49) (AV.bool true) v69 fun b74=>
br b74 (
Qu (gam J [(4,c4),(5,w5 c5),(6,w6 c6),(7,w7 c7),(8,w8 c8),(9,w9 c9),(10,w10 c10),(11,w11 c11),(12,w12 c12),(13,w13 c13)]) d40 h70 fun h75=>
k true h75) (
ixK 1 v39.1 v39.2.2.2.2.2.2.2.1 fun p76=>
ldV p76 h70 fun v77=>
c8 v39.2.2.2.2.2.1 v77 h70 fun x79 x80 h78=>
fB (Bool.not (eqI x80 (Int.ofNat 0))) fun b81=>
br b81 (
ixK 1 v39.1 v39.2.2.2.2.2.2.2.1 fun p82=>
ldV p82 h78 fun v83=>
c9 v83 h78 fun x85 h84=>
fB (eqI x85 x80) fun b86=>
Qu (gam J [(4,c4),(5,w5 c5),(6,w6 c6),(7,w7 c7),(8,w8 c8),(9,w9 c9),(10,w10 c10),(11,w11 c11),(12,w12 c12),(13,w13 c13)]) d40 h84 fun h87=>
k b86 h87) (
c10 v39.2.2.2.2.1 ⟨10,563758740576151180161073⟩ h78 fun v89 x90 h88=>
ZH v89 fun x91=>
Qz (.cells false 3 [(AV.int .i64 (Int.ofNat x91))]) h88 fun n92 h93=>
apC 3 1 8 v39.2.2.2.2.2.2.1 (AV.slice n92 0 1 1 1 true) h93 fun v94 h95=>
asI .i64 v39.2.2.2.2.2.2.2.1 fun x96=>
fI (Qd .i64 (Int.add x96 (Int.ofNat 1))) fun x97=>
r42 (v39.1,v39.2.1,v39.2.2.1,v39.2.2.2.1,v39.2.2.2.2.1,v39.2.2.2.2.2.1,v94,(AV.int .i64 x97),()) d40 h95))) fun j71=>
br b49 (
j71 Qb h65) (
asB v64 fun b72=>
fB (Bool.not b72) fun b73=>
j71 (AV.bool b73) h65)) fun j66=>
br b49 (
j66 Qb h61) (
c7 v60 h61 fun b68 h67=>
j66 (AV.bool b68) h67)) fun j62=>
br b49 (
j62 Qb h57) (
ldV v56 h57 fun v63=>
j62 v63 h57)) fun j58=>
br b49 (
j58 Qb h54) (
ixK 1 v50 v53 fun p59=>
j58 p59 h54)) fun j55=>
br b49 (
j55 Qb h51) (
j55 v39.2.2.2.2.2.2.2.1 h51)) fun j52=>
br b49 (
j52 Qb h41) (
j52 v39.1 h41)) (
c10 v39.2.2.2.2.1 ⟨10,563758740576151180161073⟩ h41 fun v99 x100 h98=>
ZH v39.1 fun x101=>
asI .i64 v39.2.1 fun x103=>
c11 x103 (Int.ofNat x101) h98 fun x104 h102=>
ixK 1 v39.2.2.2.2.2.2.1 (AV.int .i64 x104) fun p105=>
ldI .i64 p105 h102 fun x106=>
fI (Qd .i64 (Int.add x104 (Int.ofNat 1))) fun x107=>
ixK 1 v39.2.2.2.2.2.2.1 (AV.int .i64 x107) fun p108=>
ldI .i64 p108 h102 fun x109=>
slK 1 v99 (some (AV.int .i64 x106)) (some (AV.int .i64 x109)) fun v110=>
asI .i64 v39.2.2.1 fun x112=>
asI .u32 v39.2.2.2.1 fun x113=>
c12 v110 x112 x113 h102 fun v114 x115 h111=>
fB (Bool.not (eqI x115 (Int.ofNat 0))) fun b116=>
br b116 (
Qu (gam J [(4,c4),(5,w5 c5),(6,w6 c6),(7,w7 c7),(8,w8 c8),(9,w9 c9),(10,w10 c10),(11,w11 c11),(12,w12 c12),(13,w13 c13)]) d40 h111 fun h117=>
k true h117) (
J.lp (α:=AV × AV × AV × AV × AV × AV × Unit) (fun r121 v118 d119 h120=>
ZH v118.2.2.2.2.1 fun x122=>
asI .i64 v118.2.2.2.2.2.1 fun x123=>
fB (ltI x123 (Int.ofNat x122)) fun b124=>
br b124 (
ixK 1 v118.2.2.2.2.1 v118.2.2.2.2.2.1 fun p125=>
ldI .u8 p125 h120 fun x126=>
ixK 1 v118.2.1 v118.2.2.2.1 fun p127=>
ldI .i64 p127 h120 fun x128=>
asI .i64 v118.2.2.2.2.2.1 fun x129=>
fI (Qd .i64 (Int.add x128 x129)) fun x130=>
ixK 1 v118.2.2.1 (AV.int .i64 x130) fun p131=>
ldI .u8 p131 h120 fun x132=>
fI (VF .u8 x126 x132) fun x133=>
fB (Bool.not (eqI x133 (Int.ofNat 0))) fun b134=>
J.jn (fun v135 h136=>
J.jn (fun v138 h139=>
J.jn (fun v141 h142=>
J.jn (fun v144 h145=>
J.jn (fun v148 h149=>
J.jn (fun v152 h153=>
J.jn (fun v155 h156=>
J.jn (fun v161 h162=>
J.jn (fun v164 h165=>
J.jn (fun v171 h172=>
Q3 (AV.bool b134) v171 (AV.bool false) fun b176=>
br b176 (
Qu (gam J [(4,c4),(5,w5 c5),(6,w6 c6),(7,w7 c7),(8,w8 c8),(9,w9 c9),(10,w10 c10),(11,w11 c11),(12,w12 c12),(13,w13 c13)]) d119 h172 fun h177=>
k false h177) (
asI .i64 v118.2.2.2.2.2.1 fun x178=>
fI (Qd .i64 (Int.add x178 (Int.ofNat 1))) fun x179=>
r121 (v118.1,v118.2.1,v118.2.2.1,v118.2.2.2.1,v118.2.2.2.2.1,(AV.int .i64 x179),()) d119 h172)) fun j173=>
br b134 (
asI .i64 v164 fun x174=>
fB (Bool.not (eqI x174 (Int.ofNat 0))) fun b175=>
j173 (AV.bool b175) h165) (
j173 Qb h165)) fun j166=>
br b134 (
asI .i64 v155 fun x168=>
asI .u8 v161 fun x169=>
c13 v135 ⟨10,563758740576151180161073⟩ x168 x169 h162 fun x170 h167=>
j166 (AV.int .i64 x170) h167) (
j166 Qb h162)) fun j163=>
br b134 (
j163 (AV.int .u8 x133) h156) (
j163 Qb h156)) fun j157=>
br b134 (
asI .i64 v148 fun x158=>
asI .i64 v152 fun x159=>
fI (Qd .i64 (Int.add x158 x159)) fun x160=>
j157 (AV.int .i64 x160) h153) (
j157 Qb h153)) fun j154=>
br b134 (
j154 v118.2.2.2.2.2.1 h149) (
j154 Qb h149)) fun j150=>
br b134 (
ldI .i64 v144 h145 fun x151=>
j150 (AV.int .i64 x151) h145) (
j150 Qb h145)) fun j146=>
br b134 (
ixK 1 v138 v141 fun p147=>
j146 p147 h142) (
j146 Qb h142)) fun j143=>
br b134 (
j143 v118.2.2.2.1 h139) (
j143 Qb h139)) fun j140=>
br b134 (
j140 v118.2.1 h136) (
j140 Qb h136)) fun j137=>
br b134 (
j137 v118.1 h120) (
j137 Qb h120)) (
c6 v118.1 (Int.ofNat 1) (Int.ofNat 0) h120 fun v181 v182 x183 h180=>
nilB 0 v181 fun b184=>
J.jn (fun v185 h186=>
J.jn (fun v188 h189=>
J.jn (fun v192 h193=>
Q3 (AV.bool b184) v192 (AV.bool false) fun b197=>
J.jn (fun v198 h199=>
J.jn (fun v201 h202=>
Q3 (AV.bool b197) v201 (AV.bool false) fun b206=>
Qu (gam J [(4,c4),(5,w5 c5),(6,w6 c6),(7,w7 c7),(8,w8 c8),(9,w9 c9),(10,w10 c10),(11,w11 c11),(12,w12 c12),(13,w13 c13)]) d119 h202 fun h207=>
k b206 h207) fun j203=>
br b197 (
asI .i64 v198 fun x204=>
fB (eqI x204 (Int.ofNat 6)) fun b205=>
j203 (AV.bool b205) h199) (
j203 Qb h199)) fun j200=>
br b197 (
j200 (AV.int .i64 x183) h193) (
j200 Qb h193)) fun j194=>
br b184 (
asI .i64 v188 fun x195=>
fB (eqI x195 (Int.ofNat 0)) fun b196=>
j194 (AV.bool b196) h189) (
j194 Qb h189)) fun j190=>
br b184 (
ZH v185 fun x191=>
j190 (AV.int .i64 (Int.ofNat x191)) h186) (
j190 Qb h186)) fun j187=>
br b184 (
j187 v182 h180) (
j187 Qb h180))) (v39.2.2.2.2.1,v39.2.2.2.2.2.2.1,v99,(AV.int .i64 x104),v114,(AV.int .i64 (Int.ofNat 0)),()) d40 h111))) (a0,(AV.int .i64 a1),(AV.int .i64 a2),(AV.int .u32 a3),v30,v33,(AV.slice n37 0 1 1 1 true),(AV.int .i64 (Int.ofNat 0)),()) [] h38))) fun j25=>
br b19 (
j25 Qb h21) (
asI .u32 v20 fun x26=>
fB (eqI x26 (Int.ofNat 0)) fun b27=>
j25 (AV.bool b27) h21)) fun j22=>
br b19 (
j22 Qb h15) (
j22 (AV.int .u32 a3) h15)) fun j16=>
br b6 (
j16 Qb h11) (
asI .i64 v10 fun x17=>
fB (ltI (Int.ofNat 30) x17) fun b18=>
j16 (AV.bool b18) h11)) fun j12=>
br b6 (
j12 Qb h8) (
ZH v7 fun x13=>
j12 (AV.int .i64 (Int.ofNat x13)) h8)) fun j9=>
br b6 (
j9 Qb h2) (
j9 a0 h2))
noncomputable def w3 (c:AV→Int→Int→Int→H→(Bool→H→Prop)→Prop):Fun:=fun xs h k=>arg xs fun a0 xs=>arg xs fun a1 xs=>arg xs fun a2 xs=>arg xs fun a3 xs=>QY xs <| asI .i64 a1 fun a1=>asI .i64 a2 fun a2=>asI .u32 a3 fun a3=>c a0 a1 a2 a3 h fun r0 h=>k (.bool r0) h
theorem s3_eq (J:Qh) (c4:Fun) (c5:Int→H→(AV→Int→H→Prop)→Prop) (c6:AV→Int→Int→H→(AV→AV→Int→H→Prop)→Prop) (c7:AV→H→(Bool→H→Prop)→Prop) (c8:AV→AV→H→(Int→Int→H→Prop)→Prop) (c9:AV→H→(Int→H→Prop)→Prop) (c10:AV→Str→H→(AV→Int→H→Prop)→Prop) (c11:Int→Int→H→(Int→H→Prop)→Prop) (c12:AV→Int→Int→H→(AV→Int→H→Prop)→Prop) (c13:AV→Str→Int→Int→H→(Int→H→Prop)→Prop) (a0:AV) (a1:Int) (a2:Int) (a3:Int) (h:H) (k:AV→H→Prop):Zl ty (gam J [(4,c4),(5,w5 c5),(6,w6 c6),(7,w7 c7),(8,w8 c8),(9,w9 c9),(10,w10 c10),(11,w11 c11),(12,w12 c12),(13,w13 c13)]) Tryd.f3 [a0,(.int .i64 a1),(.int .i64 a2),(.int .u32 a3)] h k=s3G J c4 c5 c6 c7 c8 c9 c10 c11 c12 c13 a0 a1 a2 a3 h (fun r0 h=>k (.bool r0) h):=by kernel_rfl
end Go.Proofs.YtfgdelkdmdmfgaaDoor
