/- Functions as they are reckoned. MADE BY PROGRAM (wip/tools/shal.py). -/
import Derived.Test.YtfbdniomnnpemaaGreatDoorAmS9
namespace Go.Proofs.YtfbdniomnnpemaaGreatDoor
open Go Go.Am
set_option maxRecDepth 100000
set_option linter.all false
noncomputable def gd49 : Fun := denD ty (gam J0 [(25, g25)]) Tryz.f49
theorem gd49_ok : DFunOk Tryz.prog 49 gd49 := dfun_ok ty_ok mixed (gam_ok (J := J0) (tab_cons g25_ok (tab_nil fls_fun))) Tryz.func49 (fun args w => by simp)
/-- (*stagepost/lsm.Store).Compact -/
noncomputable def s11G (J : Joins) (c23 : Fun) (c29 : Fun) (c35 : Fun) (c37 : Fun) (c40 : Fun) (c41 : Fun) (c43 : Fun) (c45 : Fun) (c48 : Fun) (c49 : Fun) (c50 : Fun) (c52 : Fun) (c53 : Fun) (c54 : Fun) (c55 : Fun) (d49 : Fun) (a0 : AV) (a1 : Int) (h : H) (k : Int → H → Prop) : Prop :=
ck (isOne a0) (
pushK (.cells false 27 [a0]) h fun n1 h2 =>
pushK (.cells false 37 [(.int .i64 0)]) h2 fun n3 h4 =>
ldV (AV.ptr n1 0) h4 fun v5 =>
c23 [v5] h4 fun v6 h7 =>
asI .i64 v6 fun x8 =>
fB (Bool.not (eqI x8 (Int.ofNat 0))) fun b9 =>
br b9 (
stV (AV.ptr n3 0) (AV.int .i64 x8) h7 fun h10 =>
ldI .i64 (AV.ptr n3 0) h10 fun x11 =>
k x11 h10) (
fB (ltI a1 (Int.ofNat 0)) fun b12 =>
J.jn (fun v13 h14 =>
J.jn (fun v16 h17 =>
pickB (AV.bool b12) (AV.bool true) v16 fun b21 =>
br b21 (
stV (AV.ptr n3 0) (AV.int .i64 (Int.ofNat 2)) h17 fun h22 =>
ldI .i64 (AV.ptr n3 0) h22 fun x23 =>
k x23 h22) (
ldV (AV.ptr n1 0) h17 fun v24 =>
c48 [v24, (AV.int .i64 a1)] h17 fun v25 h26 =>
lenK v25 fun x27 =>
fB (eqI (Int.ofNat x27) (Int.ofNat 0)) fun b28 =>
br b28 (
stV (AV.ptr n3 0) (AV.int .i64 (Int.ofNat 0)) h26 fun h29 =>
ldI .i64 (AV.ptr n3 0) h29 fun x30 =>
k x30 h29) (
J.jd (α := AV × AV × AV × AV × Unit) (fun v31 d32 h33 =>
c50 [v31.2.2.2.1] h33 fun v35 h36 =>
asTup v35 fun l37 =>
op' (lgetO l37 0) fun v38 =>
asS v38 fun s39 =>
asTup v35 fun l40 =>
op' (lgetO l40 1) fun v41 =>
asS v41 fun s42 =>
ldV v31.2.1 h36 fun v43 =>
asI .i64 v31.1 fun x44 =>
fI (wrapF .i64 (Int.add x44 (Int.ofNat 1))) fun x45 =>
c48 [v43, (AV.int .i64 x45)] h36 fun v46 h47 =>
lenK v46 fun x48 =>
J.lp (α := AV × AV × AV × AV × AV × AV × AV × AV × AV × Unit) (fun r52 v49 d50 h51 =>
asI .i64 v49.2.2.2.2.2.2.2.2.1 fun x53 =>
asI .i64 v49.2.2.2.2.2.2.2.1 fun x54 =>
fB (ltI x53 x54) fun b55 =>
br b55 (
J.jd (α := AV × AV × AV × AV × AV × AV × AV × AV × AV × Unit) (fun v56 d57 h58 =>
asI .i64 v56.2.2.2.2.2.2.2.2.1 fun x60 =>
fI (wrapF .i64 (Int.add x60 (Int.ofNat 1))) fun x61 =>
r52 (v56.1, v56.2.1, v56.2.2.1, v56.2.2.2.1, v56.2.2.2.2.1, v56.2.2.2.2.2.1, v56.2.2.2.2.2.2.1, v56.2.2.2.2.2.2.2.1, (AV.int .i64 x61), ()) d57 h58) fun j59 =>
ixK 5 v49.2.2.2.2.2.2.1 v49.2.2.2.2.2.2.2.2.1 fun p62 =>
ldN 5 p62 h51 fun l63 =>
pushK (.cells false 69 [(.int .i64 0), (.int .i64 0), (.int .i64 0), (.str ⟨0, 0⟩), (.str ⟨0, 0⟩)]) h51 fun n64 h65 =>
stN 5 (AV.ptr n64 0) l63 h65 fun h66 =>
ldN 5 (AV.ptr n64 0) h66 fun l67 =>
False) (
c50 [v49.2.2.2.1] h51 fun v68 h69 =>
asTup v68 fun l70 =>
op' (lgetO l70 0) fun v71 =>
asS v71 fun s72 =>
asTup v68 fun l73 =>
op' (lgetO l73 1) fun v74 =>
asS v74 fun s75 =>
ldV v49.2.1 h69 fun v76 =>
okNil v76 (
faK 6 v76 fun p77 =>
ldV p77 h69 fun v78 =>
c29 [v78] h69 fun v79 h80 =>
Go.Am.asAgg v79 fun l81 =>
op' (lgetO l81 0) fun v82 =>
lenK v82 fun x83 =>
J.lp (α := AV × AV × AV × AV × AV × AV × AV × AV × AV × AV × AV × AV × Unit) (fun r87 v84 d85 h86 =>
asI .i64 v84.2.2.2.2.2.2.2.2.2.2.2.1 fun x88 =>
asI .i64 v84.2.2.2.2.2.2.2.2.2.2.1 fun x89 =>
fB (ltI x88 x89) fun b90 =>
br b90 (
ixK 5 v84.2.2.2.2.2.2.2.2.2.1 v84.2.2.2.2.2.2.2.2.2.2.2.1 fun p91 =>
ldN 5 p91 h86 fun l92 =>
pushK (.cells false 69 [(.int .i64 0), (.int .i64 0), (.int .i64 0), (.str ⟨0, 0⟩), (.str ⟨0, 0⟩)]) h86 fun n93 h94 =>
stN 5 (AV.ptr n93 0) l92 h94 fun h95 =>
J.jn (fun v96 h97 =>
J.jn (fun v99 h100 =>
J.jn (fun v103 h104 =>
J.jn (fun v106 h107 =>
J.jn (fun v111 h112 =>
J.jn (fun v117 h118 =>
J.jn (fun v120 h121 =>
J.jn (fun v124 h125 =>
J.jn (fun v127 h128 =>
J.jn (fun v130 h131 =>
J.jn (fun v133 h134 =>
J.jn (fun v138 h139 =>
pickB v84.2.2.2.2.2.2.1 v138 (AV.bool false) fun b142 =>
asI .i64 v84.2.2.2.2.2.2.2.2.2.2.2.1 fun x143 =>
fI (wrapF .i64 (Int.add x143 (Int.ofNat 1))) fun x144 =>
r87 (v84.1, v84.2.1, v84.2.2.1, v84.2.2.2.1, v84.2.2.2.2.1, v84.2.2.2.2.2.1, (AV.bool b142), v84.2.2.2.2.2.2.2.1, v84.2.2.2.2.2.2.2.2.1, v84.2.2.2.2.2.2.2.2.2.1, v84.2.2.2.2.2.2.2.2.2.2.1, (AV.int .i64 x144), ()) d85 h139) fun j140 =>
asBU v84.2.2.2.2.2.2.1 (fun b145 =>
br b145 (
pickB v117 (AV.bool true) v133 fun b141 =>
j140 (AV.bool b141) h134) (
j140 skipV h134)) (
j140 skipV h134)) fun j135 =>
asBU v117 (fun b146 =>
br b146 (
j135 skipV h131) (
asB v130 fun b136 =>
fB (Bool.not b136) fun b137 =>
j135 (AV.bool b137) h131)) (
j135 skipV h131)) fun j132 =>
asBU v117 (fun b147 =>
br b147 (
j132 skipV h128) (
False)) (
j132 skipV h128)) fun j129 =>
asBU v117 (fun b148 =>
br b148 (
j129 skipV h125) (
j129 v84.2.2.2.2.2.1 h125)) (
j129 skipV h125)) fun j126 =>
asBU v117 (fun b149 =>
br b149 (
j126 skipV h121) (
j126 v84.2.2.2.2.1 h121)) (
j126 skipV h121)) fun j122 =>
asBU v117 (fun b150 =>
br b150 (
j122 skipV h118) (
ldN 5 (AV.ptr n93 0) h118 fun l123 =>
j122 (AV.agg l123) h118)) (
j122 skipV h118)) fun j119 =>
asBU v84.2.2.2.2.2.2.1 (fun b151 =>
br b151 (
j119 v111 h112) (
j119 skipV h112)) (
j119 skipV h112)) fun j113 =>
asBU v84.2.2.2.2.2.2.1 (fun b152 =>
br b152 (
asI .i64 v99 fun x114 =>
asI .i64 v106 fun x115 =>
fB (Bool.not (ltI x115 x114)) fun b116 =>
j113 (AV.bool b116) h107) (
j113 skipV h107)) (
j113 skipV h107)) fun j108 =>
asBU v84.2.2.2.2.2.2.1 (fun b153 =>
br b153 (
asI .i64 v103 fun x109 =>
fI (wrapF .i64 (Int.add x109 (Int.ofNat 1))) fun x110 =>
j108 (AV.int .i64 x110) h104) (
j108 skipV h104)) (
j108 skipV h104)) fun j105 =>
asBU v84.2.2.2.2.2.2.1 (fun b154 =>
br b154 (
j105 v84.1 h100) (
j105 skipV h100)) (
j105 skipV h100)) fun j101 =>
asBU v84.2.2.2.2.2.2.1 (fun b155 =>
br b155 (
ldI .i64 v96 h97 fun x102 =>
j101 (AV.int .i64 x102) h97) (
j101 skipV h97)) (
j101 skipV h97)) fun j98 =>
asBU v84.2.2.2.2.2.2.1 (fun b156 =>
br b156 (
j98 (AV.ptr n93 1) h95) (
j98 skipV h95)) (
j98 skipV h95)) (
lenK v84.2.2.2.1 fun x157 =>
J.lp (α := AV × AV × AV × AV × AV × AV × AV × AV × AV × Unit) (fun r161 v158 d159 h160 =>
asI .i64 v158.2.2.2.2.2.2.2.2.1 fun x162 =>
asI .i64 v158.2.2.2.2.2.2.2.1 fun x163 =>
fB (ltI x162 x163) fun b164 =>
br b164 (
ixK 5 v158.2.2.2.2.2.2.1 v158.2.2.2.2.2.2.2.2.1 fun p165 =>
ldN 5 p165 h160 fun l166 =>
pushK (.cells false 69 [(.int .i64 0), (.int .i64 0), (.int .i64 0), (.str ⟨0, 0⟩), (.str ⟨0, 0⟩)]) h160 fun n167 h168 =>
stN 5 (AV.ptr n167 0) l166 h168 fun h169 =>
ldV v158.2.1 h169 fun v170 =>
okNil v170 (
faK 9 v170 fun p171 =>
ldV p171 h169 fun v172 =>
ldI .i64 (AV.ptr n167 0) h169 fun x173 =>
op' (aLookup ty 3 86 false v172 (AV.int .i64 x173) h169) fun v174 =>
c52 [v174] h169 fun v175 h176 =>
asTup v175 fun l177 =>
op' (lgetO l177 0) fun v178 =>
asTup v175 fun l179 =>
op' (lgetO l179 1) fun v180 =>
asI .i64 v180 fun x181 =>
fB (Bool.not (eqI x181 (Int.ofNat 0))) fun b182 =>
br b182 (
stV v158.2.2.1 (AV.int .i64 x181) h176 fun h183 =>
leaveK (gamD J [(23, c23), (29, c29), (35, c35), (37, c37), (40, c40), (41, c41), (43, c43), (45, c45), (48, c48), (49, c49), (50, c50), (52, c52), (53, c53), (54, c54), (55, c55)] [] [(49, d49)] noCode) d159 h183 fun h184 =>
ldI .i64 v158.2.2.1 h184 fun x185 =>
k x185 h184) (
ck (isOne v178) (pushK (.cells false 88 [v178]) h176 fun n186 h187 =>
ldI .i64 (AV.ptr n167 0) h187 fun x188 =>
pushK (.cells false 3 [(AV.int .i64 x188)]) h187 fun n189 h190 =>
apC 88 1 24 v158.2.2.2.2.2.1 (AV.slice n186 0 1 1 1 true) h190 fun v191 h192 =>
ck (readsSo (aLoad1 (AV.ptr n167 0) h192) (AV.int .i64 x188)) (
apC 3 1 8 v158.2.2.2.2.1 (AV.slice n189 0 1 1 1 true) h192 fun v193 h194 =>
asI .i64 v158.2.2.2.2.2.2.2.2.1 fun x195 =>
fI (wrapF .i64 (Int.add x195 (Int.ofNat 1))) fun x196 =>
r161 (v158.1, v158.2.1, v158.2.2.1, v158.2.2.2.1, v193, v191, v158.2.2.2.2.2.2.1, v158.2.2.2.2.2.2.2.1, (AV.int .i64 x196), ()) d159 h194))))) (
c35 [v158.2.2.2.2.2.1] h160 fun v197 h198 =>
asTup v197 fun l199 =>
op' (lgetO l199 0) fun v200 =>
asTup v197 fun l201 =>
op' (lgetO l201 1) fun v202 =>
asI .i64 v202 fun x203 =>
stV v158.2.2.1 (AV.int .i64 x203) h198 fun h204 =>
ldI .i64 v158.2.2.1 h204 fun x205 =>
fB (Bool.not (eqI x205 (Int.ofNat 0))) fun b206 =>
br b206 (
stV v158.2.2.1 (AV.int .i64 (Int.ofNat 6)) h204 fun h207 =>
leaveK (gamD J [(23, c23), (29, c29), (35, c35), (37, c37), (40, c40), (41, c41), (43, c43), (45, c45), (48, c48), (49, c49), (50, c50), (52, c52), (53, c53), (54, c54), (55, c55)] [] [(49, d49)] noCode) d159 h207 fun h208 =>
ldI .i64 v158.2.2.1 h208 fun x209 =>
k x209 h208) (
ldV v158.2.1 h204 fun v210 =>
okNil v210 (
faK 7 v210 fun p211 =>
ldV p211 h204 fun v212 =>
c37 [v212] h204 fun v213 h214 =>
asI .i64 v213 fun x215 =>
pushK (.cells false 3 [(AV.int .i64 x215)]) h214 fun n216 h217 =>
ldV v158.2.1 h217 fun v218 =>
okNil v218 (
faK 10 v218 fun p219 =>
ldV p219 h217 fun v220 =>
aRangeK v220 h217 fun v221 h222 =>
J.lp (α := AV × AV × AV × AV × AV × AV × AV × AV × Unit) (fun r226 v223 d224 h225 =>
aNext v223.2.2.2.2.2.2.2.1 h225 fun v227 h228 =>
asTup v227 fun l229 =>
op' (lgetO l229 0) fun v230 =>
asB v230 fun b231 =>
br b231 (
op' (aEntry v223.2.2.2.2.2.2.2.1 h228) fun v232 =>
asTup v232 fun l233 =>
op' (lgetO l233 0) fun v234 =>
asI .i64 v234 fun x235 =>
asTup v232 fun l236 =>
op' (lgetO l236 1) fun v237 =>
asI .i64 v237 fun x238 =>
fB (ltI (Int.ofNat 0) x238) fun b239 =>
br b239 (
pushK (.cells false 3 [(AV.int .i64 x235)]) h228 fun n240 h241 =>
apC 3 1 8 v223.2.2.2.2.2.2.1 (AV.slice n240 0 1 1 1 true) h241 fun v242 h243 =>
r226 (v223.1, v223.2.1, v223.2.2.1, v223.2.2.2.1, v223.2.2.2.2.1, v223.2.2.2.2.2.1, v242, v223.2.2.2.2.2.2.2.1, ()) d224 h243) (
r226 (v223.1, v223.2.1, v223.2.2.1, v223.2.2.2.1, v223.2.2.2.2.1, v223.2.2.2.2.2.1, v223.2.2.2.2.2.2.1, v223.2.2.2.2.2.2.2.1, ()) d224 h228)) (
ldV v223.2.1 h228 fun v244 =>
c53 [v223.2.2.2.2.2.1, v223.2.2.2.2.2.2.1, v223.2.2.2.1] h228 fun v245 h246 =>
ck (readsSo (aLoad1 v223.2.1 h246) v244) (
c40 [v244, v245] h246 fun v247 h248 =>
ldV v223.2.1 h248 fun v249 =>
asI .i64 v223.1 fun x250 =>
fI (wrapF .i64 (Int.add x250 (Int.ofNat 1))) fun x251 =>
c41 [v249, v247, (AV.int .i64 x251), v223.2.2.2.2.1] h248 fun v252 h253 =>
asTup v252 fun l254 =>
op' (lgetO l254 0) fun v255 =>
asTup v252 fun l256 =>
op' (lgetO l256 1) fun v257 =>
asI .i64 v257 fun x258 =>
pushK (.cells false 101 [(.nils), (.nils), (.int .i64 0), (.int .i64 0), (.int .i64 0)]) h253 fun n259 h260 =>
Go.Am.asAgg v255 fun l262 =>
stN 5 (AV.ptr n259 0) l262 h260 fun h261 =>
stV v223.2.2.1 (AV.int .i64 x258) h261 fun h263 =>
ldI .i64 v223.2.2.1 h263 fun x264 =>
fB (Bool.not (eqI x264 (Int.ofNat 0))) fun b265 =>
br b265 (
ldI .i64 v223.2.2.1 h263 fun x266 =>
stV v223.2.2.1 (AV.int .i64 x266) h263 fun h267 =>
leaveK (gamD J [(23, c23), (29, c29), (35, c35), (37, c37), (40, c40), (41, c41), (43, c43), (45, c45), (48, c48), (49, c49), (50, c50), (52, c52), (53, c53), (54, c54), (55, c55)] [] [(49, d49)] noCode) d224 h267 fun h268 =>
ldI .i64 v223.2.2.1 h268 fun x269 =>
k x269 h268) (
ldV v223.2.1 h263 fun v270 =>
ldN 5 (AV.ptr n259 0) h263 fun l271 =>
c43 [v270, v247, (AV.agg l271)] h263 fun v272 h273 =>
asTup v272 fun l274 =>
op' (lgetO l274 0) fun v275 =>
asTup v272 fun l276 =>
op' (lgetO l276 1) fun v277 =>
asI .i64 v277 fun x278 =>
stV v223.2.2.1 (AV.int .i64 x278) h273 fun h279 =>
ldI .i64 v223.2.2.1 h279 fun x280 =>
fB (Bool.not (eqI x280 (Int.ofNat 0))) fun b281 =>
br b281 (
ldI .i64 v223.2.2.1 h279 fun x282 =>
stV v223.2.2.1 (AV.int .i64 x282) h279 fun h283 =>
leaveK (gamD J [(23, c23), (29, c29), (35, c35), (37, c37), (40, c40), (41, c41), (43, c43), (45, c45), (48, c48), (49, c49), (50, c50), (52, c52), (53, c53), (54, c54), (55, c55)] [] [(49, d49)] noCode) d224 h283 fun h284 =>
ldI .i64 v223.2.2.1 h284 fun x285 =>
k x285 h284) (
ldV v223.2.1 h279 fun v286 =>
ldN 5 (AV.ptr n259 0) h279 fun l287 =>
c45 [v286, (AV.agg l287), v275] h279 fun v288 h289 =>
asI .i64 v288 fun x290 =>
fB (Bool.not (eqI x290 (Int.ofNat 0))) fun b291 =>
br b291 (
stV v223.2.2.1 (AV.int .i64 x290) h289 fun h292 =>
leaveK (gamD J [(23, c23), (29, c29), (35, c35), (37, c37), (40, c40), (41, c41), (43, c43), (45, c45), (48, c48), (49, c49), (50, c50), (52, c52), (53, c53), (54, c54), (55, c55)] [] [(49, d49)] noCode) d224 h292 fun h293 =>
ldI .i64 v223.2.2.1 h293 fun x294 =>
k x294 h293) (
ldV v223.2.1 h289 fun v295 =>
ldV v223.2.1 h289 fun v296 =>
okNil v296 (
faK 7 v296 fun p297 =>
ldV p297 h289 fun v298 =>
c37 [v298] h289 fun v299 h300 =>
asI .i64 v299 fun x301 =>
ck (readsSo (aLoad1 v223.2.1 h300) v295) (
okNil v295 (
faK 11 v295 fun p302 =>
stV p302 (AV.int .i64 x301) h300 fun h303 =>
lenK v223.2.2.2.2.1 fun x304 =>
J.lp (α := AV × AV × AV × AV × AV × Unit) (fun r308 v305 d306 h307 =>
asI .i64 v305.2.2.2.2.1 fun x309 =>
asI .i64 v305.2.2.2.1 fun x310 =>
fB (ltI x309 x310) fun b311 =>
br b311 (
ixK 1 v305.2.2.1 v305.2.2.2.2.1 fun p312 =>
ldI .i64 p312 h307 fun x313 =>
ldV v305.1 h307 fun v314 =>
okNil v314 (
faK 0 v314 fun p315 =>
ldV p315 h307 fun v316 =>
c55 [(AV.int .i64 x313)] h307 fun v317 h318 =>
asS v317 fun s319 =>
ck (readsSo (aLoad1 p315 h318) v316) (
ck (readsSo (aLoad1 v305.1 h318) v314) (
c54 [v316, (AV.str s319)] h318 fun v320 h321 =>
asI .i64 v320 fun x322 =>
fB (Bool.not (eqI x322 (Int.ofNat 0))) fun b323 =>
br b323 (
stV v305.2.1 (AV.int .i64 x322) h321 fun h324 =>
leaveK (gamD J [(23, c23), (29, c29), (35, c35), (37, c37), (40, c40), (41, c41), (43, c43), (45, c45), (48, c48), (49, c49), (50, c50), (52, c52), (53, c53), (54, c54), (55, c55)] [] [(49, d49)] noCode) d306 h324 fun h325 =>
ldI .i64 v305.2.1 h325 fun x326 =>
k x326 h325) (
asI .i64 v305.2.2.2.2.1 fun x327 =>
fI (wrapF .i64 (Int.add x327 (Int.ofNat 1))) fun x328 =>
r308 (v305.1, v305.2.1, v305.2.2.1, v305.2.2.2.1, (AV.int .i64 x328), ()) d306 h321))))) (
stV v305.2.1 (AV.int .i64 (Int.ofNat 0)) h307 fun h329 =>
leaveK (gamD J [(23, c23), (29, c29), (35, c35), (37, c37), (40, c40), (41, c41), (43, c43), (45, c45), (48, c48), (49, c49), (50, c50), (52, c52), (53, c53), (54, c54), (55, c55)] [] [(49, d49)] noCode) d306 h329 fun h330 =>
ldI .i64 v305.2.1 h330 fun x331 =>
k x331 h330)) (v223.2.1, v223.2.2.1, v223.2.2.2.2.1, (AV.int .i64 (Int.ofNat x304)), (AV.int .i64 (Int.ofNat 0)), ()) d224 h303))))))))) (v158.1, v158.2.1, v158.2.2.1, v158.2.2.2.1, v158.2.2.2.2.1, v200, (AV.slice n216 0 1 1 1 true), v221, ()) d159 h222))))) (v84.1, v84.2.1, v84.2.2.1, v84.2.2.2.2.2.2.1, v84.2.2.2.2.2.2.2.1, v84.2.2.2.2.2.2.2.2.1, v84.2.2.2.1, (AV.int .i64 (Int.ofNat x157)), (AV.int .i64 (Int.ofNat 0)), ()) d85 h86)) (v49.1, v49.2.1, v49.2.2.1, v49.2.2.2.1, (AV.str s72), (AV.str s75), (AV.bool true), AV.nils, AV.nils, v82, (AV.int .i64 (Int.ofNat x83)), (AV.int .i64 (Int.ofNat 0)), ()) d50 h80))) (v31.1, v31.2.1, v31.2.2.1, v31.2.2.2.1, (AV.str s39), (AV.str s42), v46, (AV.int .i64 (Int.ofNat x48)), (AV.int .i64 (Int.ofNat 0)), ()) d32 h47) fun j34 =>
fB (ltI (Int.ofNat 0) a1) fun b332 =>
br b332 (
slK 5 v25 none (some (AV.int .i64 (Int.ofNat 1))) fun v333 =>
j34 ((AV.int .i64 a1), (AV.ptr n1 0), (AV.ptr n3 0), v333, ()) (Dfr.call 49 [] [(AV.ptr n1 0), (AV.ptr n3 0)] :: []) h26) (
j34 ((AV.int .i64 a1), (AV.ptr n1 0), (AV.ptr n3 0), v25, ()) (Dfr.call 49 [] [(AV.ptr n1 0), (AV.ptr n3 0)] :: []) h26)))) fun j18 =>
br b12 (
j18 skipV h14) (
asI .i64 v13 fun x19 =>
fB (Bool.not (ltI x19 (Int.ofNat 6))) fun b20 =>
j18 (AV.bool b20) h14)) fun j15 =>
br b12 (
j15 skipV h7) (
j15 (AV.int .i64 a1) h7)))
noncomputable def s11T (J : Joins) (c23 : Fun) (c29 : Fun) (c35 : Fun) (c37 : Fun) (c40 : Fun) (c41 : Fun) (c43 : Fun) (c45 : Fun) (c48 : Fun) (c49 : Fun) (c50 : Fun) (c52 : Fun) (c53 : Fun) (c54 : Fun) (c55 : Fun) (d49 : Fun) (k : Int → H → Prop) (v223 : AV × AV × AV × AV × AV × AV × AV × AV × Unit) (d224 : List Dfr) (h228 : H) : Prop :=

ldV v223.2.1 h228 fun v244 =>
c53 [v223.2.2.2.2.2.1, v223.2.2.2.2.2.2.1, v223.2.2.2.1] h228 fun v245 h246 =>
ck (readsSo (aLoad1 v223.2.1 h246) v244) (
c40 [v244, v245] h246 fun v247 h248 =>
ldV v223.2.1 h248 fun v249 =>
asI .i64 v223.1 fun x250 =>
fI (wrapF .i64 (Int.add x250 (Int.ofNat 1))) fun x251 =>
c41 [v249, v247, (AV.int .i64 x251), v223.2.2.2.2.1] h248 fun v252 h253 =>
asTup v252 fun l254 =>
op' (lgetO l254 0) fun v255 =>
asTup v252 fun l256 =>
op' (lgetO l256 1) fun v257 =>
asI .i64 v257 fun x258 =>
pushK (.cells false 101 [(.nils), (.nils), (.int .i64 0), (.int .i64 0), (.int .i64 0)]) h253 fun n259 h260 =>
Go.Am.asAgg v255 fun l262 =>
stN 5 (AV.ptr n259 0) l262 h260 fun h261 =>
stV v223.2.2.1 (AV.int .i64 x258) h261 fun h263 =>
ldI .i64 v223.2.2.1 h263 fun x264 =>
fB (Bool.not (eqI x264 (Int.ofNat 0))) fun b265 =>
br b265 (
ldI .i64 v223.2.2.1 h263 fun x266 =>
stV v223.2.2.1 (AV.int .i64 x266) h263 fun h267 =>
leaveK (gamD J [(23, c23), (29, c29), (35, c35), (37, c37), (40, c40), (41, c41), (43, c43), (45, c45), (48, c48), (49, c49), (50, c50), (52, c52), (53, c53), (54, c54), (55, c55)] [] [(49, d49)] noCode) d224 h267 fun h268 =>
ldI .i64 v223.2.2.1 h268 fun x269 =>
k x269 h268) (
ldV v223.2.1 h263 fun v270 =>
ldN 5 (AV.ptr n259 0) h263 fun l271 =>
c43 [v270, v247, (AV.agg l271)] h263 fun v272 h273 =>
asTup v272 fun l274 =>
op' (lgetO l274 0) fun v275 =>
asTup v272 fun l276 =>
op' (lgetO l276 1) fun v277 =>
asI .i64 v277 fun x278 =>
stV v223.2.2.1 (AV.int .i64 x278) h273 fun h279 =>
ldI .i64 v223.2.2.1 h279 fun x280 =>
fB (Bool.not (eqI x280 (Int.ofNat 0))) fun b281 =>
br b281 (
ldI .i64 v223.2.2.1 h279 fun x282 =>
stV v223.2.2.1 (AV.int .i64 x282) h279 fun h283 =>
leaveK (gamD J [(23, c23), (29, c29), (35, c35), (37, c37), (40, c40), (41, c41), (43, c43), (45, c45), (48, c48), (49, c49), (50, c50), (52, c52), (53, c53), (54, c54), (55, c55)] [] [(49, d49)] noCode) d224 h283 fun h284 =>
ldI .i64 v223.2.2.1 h284 fun x285 =>
k x285 h284) (
ldV v223.2.1 h279 fun v286 =>
ldN 5 (AV.ptr n259 0) h279 fun l287 =>
c45 [v286, (AV.agg l287), v275] h279 fun v288 h289 =>
asI .i64 v288 fun x290 =>
fB (Bool.not (eqI x290 (Int.ofNat 0))) fun b291 =>
br b291 (
stV v223.2.2.1 (AV.int .i64 x290) h289 fun h292 =>
leaveK (gamD J [(23, c23), (29, c29), (35, c35), (37, c37), (40, c40), (41, c41), (43, c43), (45, c45), (48, c48), (49, c49), (50, c50), (52, c52), (53, c53), (54, c54), (55, c55)] [] [(49, d49)] noCode) d224 h292 fun h293 =>
ldI .i64 v223.2.2.1 h293 fun x294 =>
k x294 h293) (
ldV v223.2.1 h289 fun v295 =>
ldV v223.2.1 h289 fun v296 =>
okNil v296 (
faK 7 v296 fun p297 =>
ldV p297 h289 fun v298 =>
c37 [v298] h289 fun v299 h300 =>
asI .i64 v299 fun x301 =>
ck (readsSo (aLoad1 v223.2.1 h300) v295) (
okNil v295 (
faK 11 v295 fun p302 =>
stV p302 (AV.int .i64 x301) h300 fun h303 =>
lenK v223.2.2.2.2.1 fun x304 =>
J.lp (α := AV × AV × AV × AV × AV × Unit) (fun r308 v305 d306 h307 =>
asI .i64 v305.2.2.2.2.1 fun x309 =>
asI .i64 v305.2.2.2.1 fun x310 =>
fB (ltI x309 x310) fun b311 =>
br b311 (
ixK 1 v305.2.2.1 v305.2.2.2.2.1 fun p312 =>
ldI .i64 p312 h307 fun x313 =>
ldV v305.1 h307 fun v314 =>
okNil v314 (
faK 0 v314 fun p315 =>
ldV p315 h307 fun v316 =>
c55 [(AV.int .i64 x313)] h307 fun v317 h318 =>
asS v317 fun s319 =>
ck (readsSo (aLoad1 p315 h318) v316) (
ck (readsSo (aLoad1 v305.1 h318) v314) (
c54 [v316, (AV.str s319)] h318 fun v320 h321 =>
asI .i64 v320 fun x322 =>
fB (Bool.not (eqI x322 (Int.ofNat 0))) fun b323 =>
br b323 (
stV v305.2.1 (AV.int .i64 x322) h321 fun h324 =>
leaveK (gamD J [(23, c23), (29, c29), (35, c35), (37, c37), (40, c40), (41, c41), (43, c43), (45, c45), (48, c48), (49, c49), (50, c50), (52, c52), (53, c53), (54, c54), (55, c55)] [] [(49, d49)] noCode) d306 h324 fun h325 =>
ldI .i64 v305.2.1 h325 fun x326 =>
k x326 h325) (
asI .i64 v305.2.2.2.2.1 fun x327 =>
fI (wrapF .i64 (Int.add x327 (Int.ofNat 1))) fun x328 =>
r308 (v305.1, v305.2.1, v305.2.2.1, v305.2.2.2.1, (AV.int .i64 x328), ()) d306 h321))))) (
stV v305.2.1 (AV.int .i64 (Int.ofNat 0)) h307 fun h329 =>
leaveK (gamD J [(23, c23), (29, c29), (35, c35), (37, c37), (40, c40), (41, c41), (43, c43), (45, c45), (48, c48), (49, c49), (50, c50), (52, c52), (53, c53), (54, c54), (55, c55)] [] [(49, d49)] noCode) d306 h329 fun h330 =>
ldI .i64 v305.2.1 h330 fun x331 =>
k x331 h330)) (v223.2.1, v223.2.2.1, v223.2.2.2.2.1, (AV.int .i64 (Int.ofNat x304)), (AV.int .i64 (Int.ofNat 0)), ()) d224 h303)))))))
noncomputable def s11B (J : Joins) (c23 : Fun) (c29 : Fun) (c35 : Fun) (c37 : Fun) (c40 : Fun) (c41 : Fun) (c43 : Fun) (c45 : Fun) (c48 : Fun) (c49 : Fun) (c50 : Fun) (c52 : Fun) (c53 : Fun) (c54 : Fun) (c55 : Fun) (d49 : Fun) (k : Int → H → Prop) (r226 : AV × AV × AV × AV × AV × AV × AV × AV × Unit → List Dfr → H → Prop) (v223 : AV × AV × AV × AV × AV × AV × AV × AV × Unit) (d224 : List Dfr) (h225 : H) : Prop :=
aNext v223.2.2.2.2.2.2.2.1 h225 fun v227 h228 =>
asTup v227 fun l229 =>
op' (lgetO l229 0) fun v230 =>
asB v230 fun b231 =>
br b231 (
op' (aEntry v223.2.2.2.2.2.2.2.1 h228) fun v232 =>
asTup v232 fun l233 =>
op' (lgetO l233 0) fun v234 =>
asI .i64 v234 fun x235 =>
asTup v232 fun l236 =>
op' (lgetO l236 1) fun v237 =>
asI .i64 v237 fun x238 =>
fB (ltI (Int.ofNat 0) x238) fun b239 =>
br b239 (
pushK (.cells false 3 [(AV.int .i64 x235)]) h228 fun n240 h241 =>
apC 3 1 8 v223.2.2.2.2.2.2.1 (AV.slice n240 0 1 1 1 true) h241 fun v242 h243 =>
r226 (v223.1, v223.2.1, v223.2.2.1, v223.2.2.2.1, v223.2.2.2.2.1, v223.2.2.2.2.2.1, v242, v223.2.2.2.2.2.2.2.1, ()) d224 h243) (
r226 (v223.1, v223.2.1, v223.2.2.1, v223.2.2.2.1, v223.2.2.2.2.1, v223.2.2.2.2.2.1, v223.2.2.2.2.2.2.1, v223.2.2.2.2.2.2.2.1, ()) d224 h228)) (s11T J c23 c29 c35 c37 c40 c41 c43 c45 c48 c49 c50 c52 c53 c54 c55 d49 k v223 d224 h228)
noncomputable def s11H (J : Joins) (c23 : Fun) (c29 : Fun) (c35 : Fun) (c37 : Fun) (c40 : Fun) (c41 : Fun) (c43 : Fun) (c45 : Fun) (c48 : Fun) (c49 : Fun) (c50 : Fun) (c52 : Fun) (c53 : Fun) (c54 : Fun) (c55 : Fun) (d49 : Fun) (RR : AV → (AV → AV × AV × AV × AV × AV × AV × AV × AV × Unit) → List Dfr → H → Prop) (a0 : AV) (a1 : Int) (h : H) (k : Int → H → Prop) : Prop :=
ck (isOne a0) (
pushK (.cells false 27 [a0]) h fun n1 h2 =>
pushK (.cells false 37 [(.int .i64 0)]) h2 fun n3 h4 =>
ldV (AV.ptr n1 0) h4 fun v5 =>
c23 [v5] h4 fun v6 h7 =>
asI .i64 v6 fun x8 =>
fB (Bool.not (eqI x8 (Int.ofNat 0))) fun b9 =>
br b9 (
stV (AV.ptr n3 0) (AV.int .i64 x8) h7 fun h10 =>
ldI .i64 (AV.ptr n3 0) h10 fun x11 =>
k x11 h10) (
fB (ltI a1 (Int.ofNat 0)) fun b12 =>
J.jn (fun v13 h14 =>
J.jn (fun v16 h17 =>
pickB (AV.bool b12) (AV.bool true) v16 fun b21 =>
br b21 (
stV (AV.ptr n3 0) (AV.int .i64 (Int.ofNat 2)) h17 fun h22 =>
ldI .i64 (AV.ptr n3 0) h22 fun x23 =>
k x23 h22) (
ldV (AV.ptr n1 0) h17 fun v24 =>
c48 [v24, (AV.int .i64 a1)] h17 fun v25 h26 =>
lenK v25 fun x27 =>
fB (eqI (Int.ofNat x27) (Int.ofNat 0)) fun b28 =>
br b28 (
stV (AV.ptr n3 0) (AV.int .i64 (Int.ofNat 0)) h26 fun h29 =>
ldI .i64 (AV.ptr n3 0) h29 fun x30 =>
k x30 h29) (
J.jd (α := AV × AV × AV × AV × Unit) (fun v31 d32 h33 =>
c50 [v31.2.2.2.1] h33 fun v35 h36 =>
asTup v35 fun l37 =>
op' (lgetO l37 0) fun v38 =>
asS v38 fun s39 =>
asTup v35 fun l40 =>
op' (lgetO l40 1) fun v41 =>
asS v41 fun s42 =>
ldV v31.2.1 h36 fun v43 =>
asI .i64 v31.1 fun x44 =>
fI (wrapF .i64 (Int.add x44 (Int.ofNat 1))) fun x45 =>
c48 [v43, (AV.int .i64 x45)] h36 fun v46 h47 =>
lenK v46 fun x48 =>
J.lp (α := AV × AV × AV × AV × AV × AV × AV × AV × AV × Unit) (fun r52 v49 d50 h51 =>
asI .i64 v49.2.2.2.2.2.2.2.2.1 fun x53 =>
asI .i64 v49.2.2.2.2.2.2.2.1 fun x54 =>
fB (ltI x53 x54) fun b55 =>
br b55 (
J.jd (α := AV × AV × AV × AV × AV × AV × AV × AV × AV × Unit) (fun v56 d57 h58 =>
asI .i64 v56.2.2.2.2.2.2.2.2.1 fun x60 =>
fI (wrapF .i64 (Int.add x60 (Int.ofNat 1))) fun x61 =>
r52 (v56.1, v56.2.1, v56.2.2.1, v56.2.2.2.1, v56.2.2.2.2.1, v56.2.2.2.2.2.1, v56.2.2.2.2.2.2.1, v56.2.2.2.2.2.2.2.1, (AV.int .i64 x61), ()) d57 h58) fun j59 =>
ixK 5 v49.2.2.2.2.2.2.1 v49.2.2.2.2.2.2.2.2.1 fun p62 =>
ldN 5 p62 h51 fun l63 =>
pushK (.cells false 69 [(.int .i64 0), (.int .i64 0), (.int .i64 0), (.str ⟨0, 0⟩), (.str ⟨0, 0⟩)]) h51 fun n64 h65 =>
stN 5 (AV.ptr n64 0) l63 h65 fun h66 =>
ldN 5 (AV.ptr n64 0) h66 fun l67 =>
False) (
c50 [v49.2.2.2.1] h51 fun v68 h69 =>
asTup v68 fun l70 =>
op' (lgetO l70 0) fun v71 =>
asS v71 fun s72 =>
asTup v68 fun l73 =>
op' (lgetO l73 1) fun v74 =>
asS v74 fun s75 =>
ldV v49.2.1 h69 fun v76 =>
okNil v76 (
faK 6 v76 fun p77 =>
ldV p77 h69 fun v78 =>
c29 [v78] h69 fun v79 h80 =>
Go.Am.asAgg v79 fun l81 =>
op' (lgetO l81 0) fun v82 =>
lenK v82 fun x83 =>
J.lp (α := AV × AV × AV × AV × AV × AV × AV × AV × AV × AV × AV × AV × Unit) (fun r87 v84 d85 h86 =>
asI .i64 v84.2.2.2.2.2.2.2.2.2.2.2.1 fun x88 =>
asI .i64 v84.2.2.2.2.2.2.2.2.2.2.1 fun x89 =>
fB (ltI x88 x89) fun b90 =>
br b90 (
ixK 5 v84.2.2.2.2.2.2.2.2.2.1 v84.2.2.2.2.2.2.2.2.2.2.2.1 fun p91 =>
ldN 5 p91 h86 fun l92 =>
pushK (.cells false 69 [(.int .i64 0), (.int .i64 0), (.int .i64 0), (.str ⟨0, 0⟩), (.str ⟨0, 0⟩)]) h86 fun n93 h94 =>
stN 5 (AV.ptr n93 0) l92 h94 fun h95 =>
J.jn (fun v96 h97 =>
J.jn (fun v99 h100 =>
J.jn (fun v103 h104 =>
J.jn (fun v106 h107 =>
J.jn (fun v111 h112 =>
J.jn (fun v117 h118 =>
J.jn (fun v120 h121 =>
J.jn (fun v124 h125 =>
J.jn (fun v127 h128 =>
J.jn (fun v130 h131 =>
J.jn (fun v133 h134 =>
J.jn (fun v138 h139 =>
pickB v84.2.2.2.2.2.2.1 v138 (AV.bool false) fun b142 =>
asI .i64 v84.2.2.2.2.2.2.2.2.2.2.2.1 fun x143 =>
fI (wrapF .i64 (Int.add x143 (Int.ofNat 1))) fun x144 =>
r87 (v84.1, v84.2.1, v84.2.2.1, v84.2.2.2.1, v84.2.2.2.2.1, v84.2.2.2.2.2.1, (AV.bool b142), v84.2.2.2.2.2.2.2.1, v84.2.2.2.2.2.2.2.2.1, v84.2.2.2.2.2.2.2.2.2.1, v84.2.2.2.2.2.2.2.2.2.2.1, (AV.int .i64 x144), ()) d85 h139) fun j140 =>
asBU v84.2.2.2.2.2.2.1 (fun b145 =>
br b145 (
pickB v117 (AV.bool true) v133 fun b141 =>
j140 (AV.bool b141) h134) (
j140 skipV h134)) (
j140 skipV h134)) fun j135 =>
asBU v117 (fun b146 =>
br b146 (
j135 skipV h131) (
asB v130 fun b136 =>
fB (Bool.not b136) fun b137 =>
j135 (AV.bool b137) h131)) (
j135 skipV h131)) fun j132 =>
asBU v117 (fun b147 =>
br b147 (
j132 skipV h128) (
False)) (
j132 skipV h128)) fun j129 =>
asBU v117 (fun b148 =>
br b148 (
j129 skipV h125) (
j129 v84.2.2.2.2.2.1 h125)) (
j129 skipV h125)) fun j126 =>
asBU v117 (fun b149 =>
br b149 (
j126 skipV h121) (
j126 v84.2.2.2.2.1 h121)) (
j126 skipV h121)) fun j122 =>
asBU v117 (fun b150 =>
br b150 (
j122 skipV h118) (
ldN 5 (AV.ptr n93 0) h118 fun l123 =>
j122 (AV.agg l123) h118)) (
j122 skipV h118)) fun j119 =>
asBU v84.2.2.2.2.2.2.1 (fun b151 =>
br b151 (
j119 v111 h112) (
j119 skipV h112)) (
j119 skipV h112)) fun j113 =>
asBU v84.2.2.2.2.2.2.1 (fun b152 =>
br b152 (
asI .i64 v99 fun x114 =>
asI .i64 v106 fun x115 =>
fB (Bool.not (ltI x115 x114)) fun b116 =>
j113 (AV.bool b116) h107) (
j113 skipV h107)) (
j113 skipV h107)) fun j108 =>
asBU v84.2.2.2.2.2.2.1 (fun b153 =>
br b153 (
asI .i64 v103 fun x109 =>
fI (wrapF .i64 (Int.add x109 (Int.ofNat 1))) fun x110 =>
j108 (AV.int .i64 x110) h104) (
j108 skipV h104)) (
j108 skipV h104)) fun j105 =>
asBU v84.2.2.2.2.2.2.1 (fun b154 =>
br b154 (
j105 v84.1 h100) (
j105 skipV h100)) (
j105 skipV h100)) fun j101 =>
asBU v84.2.2.2.2.2.2.1 (fun b155 =>
br b155 (
ldI .i64 v96 h97 fun x102 =>
j101 (AV.int .i64 x102) h97) (
j101 skipV h97)) (
j101 skipV h97)) fun j98 =>
asBU v84.2.2.2.2.2.2.1 (fun b156 =>
br b156 (
j98 (AV.ptr n93 1) h95) (
j98 skipV h95)) (
j98 skipV h95)) (
lenK v84.2.2.2.1 fun x157 =>
J.lp (α := AV × AV × AV × AV × AV × AV × AV × AV × AV × Unit) (fun r161 v158 d159 h160 =>
asI .i64 v158.2.2.2.2.2.2.2.2.1 fun x162 =>
asI .i64 v158.2.2.2.2.2.2.2.1 fun x163 =>
fB (ltI x162 x163) fun b164 =>
br b164 (
ixK 5 v158.2.2.2.2.2.2.1 v158.2.2.2.2.2.2.2.2.1 fun p165 =>
ldN 5 p165 h160 fun l166 =>
pushK (.cells false 69 [(.int .i64 0), (.int .i64 0), (.int .i64 0), (.str ⟨0, 0⟩), (.str ⟨0, 0⟩)]) h160 fun n167 h168 =>
stN 5 (AV.ptr n167 0) l166 h168 fun h169 =>
ldV v158.2.1 h169 fun v170 =>
okNil v170 (
faK 9 v170 fun p171 =>
ldV p171 h169 fun v172 =>
ldI .i64 (AV.ptr n167 0) h169 fun x173 =>
op' (aLookup ty 3 86 false v172 (AV.int .i64 x173) h169) fun v174 =>
c52 [v174] h169 fun v175 h176 =>
asTup v175 fun l177 =>
op' (lgetO l177 0) fun v178 =>
asTup v175 fun l179 =>
op' (lgetO l179 1) fun v180 =>
asI .i64 v180 fun x181 =>
fB (Bool.not (eqI x181 (Int.ofNat 0))) fun b182 =>
br b182 (
stV v158.2.2.1 (AV.int .i64 x181) h176 fun h183 =>
leaveK (gamD J [(23, c23), (29, c29), (35, c35), (37, c37), (40, c40), (41, c41), (43, c43), (45, c45), (48, c48), (49, c49), (50, c50), (52, c52), (53, c53), (54, c54), (55, c55)] [] [(49, d49)] noCode) d159 h183 fun h184 =>
ldI .i64 v158.2.2.1 h184 fun x185 =>
k x185 h184) (
ck (isOne v178) (pushK (.cells false 88 [v178]) h176 fun n186 h187 =>
ldI .i64 (AV.ptr n167 0) h187 fun x188 =>
pushK (.cells false 3 [(AV.int .i64 x188)]) h187 fun n189 h190 =>
apC 88 1 24 v158.2.2.2.2.2.1 (AV.slice n186 0 1 1 1 true) h190 fun v191 h192 =>
ck (readsSo (aLoad1 (AV.ptr n167 0) h192) (AV.int .i64 x188)) (
apC 3 1 8 v158.2.2.2.2.1 (AV.slice n189 0 1 1 1 true) h192 fun v193 h194 =>
asI .i64 v158.2.2.2.2.2.2.2.2.1 fun x195 =>
fI (wrapF .i64 (Int.add x195 (Int.ofNat 1))) fun x196 =>
r161 (v158.1, v158.2.1, v158.2.2.1, v158.2.2.2.1, v193, v191, v158.2.2.2.2.2.2.1, v158.2.2.2.2.2.2.2.1, (AV.int .i64 x196), ()) d159 h194))))) (
c35 [v158.2.2.2.2.2.1] h160 fun v197 h198 =>
asTup v197 fun l199 =>
op' (lgetO l199 0) fun v200 =>
asTup v197 fun l201 =>
op' (lgetO l201 1) fun v202 =>
asI .i64 v202 fun x203 =>
stV v158.2.2.1 (AV.int .i64 x203) h198 fun h204 =>
ldI .i64 v158.2.2.1 h204 fun x205 =>
fB (Bool.not (eqI x205 (Int.ofNat 0))) fun b206 =>
br b206 (
stV v158.2.2.1 (AV.int .i64 (Int.ofNat 6)) h204 fun h207 =>
leaveK (gamD J [(23, c23), (29, c29), (35, c35), (37, c37), (40, c40), (41, c41), (43, c43), (45, c45), (48, c48), (49, c49), (50, c50), (52, c52), (53, c53), (54, c54), (55, c55)] [] [(49, d49)] noCode) d159 h207 fun h208 =>
ldI .i64 v158.2.2.1 h208 fun x209 =>
k x209 h208) (
ldV v158.2.1 h204 fun v210 =>
okNil v210 (
faK 7 v210 fun p211 =>
ldV p211 h204 fun v212 =>
c37 [v212] h204 fun v213 h214 =>
asI .i64 v213 fun x215 =>
pushK (.cells false 3 [(AV.int .i64 x215)]) h214 fun n216 h217 =>
ldV v158.2.1 h217 fun v218 =>
okNil v218 (
faK 10 v218 fun p219 =>
ldV p219 h217 fun v220 =>
RR v220 (fun v221 => (v158.1, v158.2.1, v158.2.2.1, v158.2.2.2.1, v158.2.2.2.2.1, v200, (AV.slice n216 0 1 1 1 true), v221, ())) d159 h217))))) (v84.1, v84.2.1, v84.2.2.1, v84.2.2.2.2.2.2.1, v84.2.2.2.2.2.2.2.1, v84.2.2.2.2.2.2.2.2.1, v84.2.2.2.1, (AV.int .i64 (Int.ofNat x157)), (AV.int .i64 (Int.ofNat 0)), ()) d85 h86)) (v49.1, v49.2.1, v49.2.2.1, v49.2.2.2.1, (AV.str s72), (AV.str s75), (AV.bool true), AV.nils, AV.nils, v82, (AV.int .i64 (Int.ofNat x83)), (AV.int .i64 (Int.ofNat 0)), ()) d50 h80))) (v31.1, v31.2.1, v31.2.2.1, v31.2.2.2.1, (AV.str s39), (AV.str s42), v46, (AV.int .i64 (Int.ofNat x48)), (AV.int .i64 (Int.ofNat 0)), ()) d32 h47) fun j34 =>
fB (ltI (Int.ofNat 0) a1) fun b332 =>
br b332 (
slK 5 v25 none (some (AV.int .i64 (Int.ofNat 1))) fun v333 =>
j34 ((AV.int .i64 a1), (AV.ptr n1 0), (AV.ptr n3 0), v333, ()) (Dfr.call 49 [] [(AV.ptr n1 0), (AV.ptr n3 0)] :: []) h26) (
j34 ((AV.int .i64 a1), (AV.ptr n1 0), (AV.ptr n3 0), v25, ()) (Dfr.call 49 [] [(AV.ptr n1 0), (AV.ptr n3 0)] :: []) h26)))) fun j18 =>
br b12 (
j18 skipV h14) (
asI .i64 v13 fun x19 =>
fB (Bool.not (ltI x19 (Int.ofNat 6))) fun b20 =>
j18 (AV.bool b20) h14)) fun j15 =>
br b12 (
j15 skipV h7) (
j15 (AV.int .i64 a1) h7)))
theorem s11_hole (J : Joins) (c23 : Fun) (c29 : Fun) (c35 : Fun) (c37 : Fun) (c40 : Fun) (c41 : Fun) (c43 : Fun) (c45 : Fun) (c48 : Fun) (c49 : Fun) (c50 : Fun) (c52 : Fun) (c53 : Fun) (c54 : Fun) (c55 : Fun) (d49 : Fun) (a0 : AV) (a1 : Int) (h : H) (k : Int → H → Prop) : s11G J c23 c29 c35 c37 c40 c41 c43 c45 c48 c49 c50 c52 c53 c54 c55 d49 a0 a1 h k = s11H J c23 c29 c35 c37 c40 c41 c43 c45 c48 c49 c50 c52 c53 c54 c55 d49 (fun x y d h => aRangeK x h fun v h => J.lp (s11B J c23 c29 c35 c37 c40 c41 c43 c45 c48 c49 c50 c52 c53 c54 c55 d49 k) (y v) d h) a0 a1 h k := by kernel_rfl
noncomputable def s11 : AV → Int → H → (Int → H → Prop) → Prop := s11G J0 g23 g29 g35 g37 g40 g41 g43 g45' g48 g49 g50 g52 g53 g54 g55 gd49
noncomputable def w11 (c : AV → Int → H → (Int → H → Prop) → Prop) : Fun := fun xs h k => arg xs fun a0 xs => arg xs fun a1 xs => noArg xs <| asI .i64 a1 fun a1 => c a0 a1 h fun r0 h => k (.int .i64 r0) h
theorem s11_eq (J : Joins) (c23 : Fun) (c29 : Fun) (c35 : Fun) (c37 : Fun) (c40 : Fun) (c41 : Fun) (c43 : Fun) (c45 : Fun) (c48 : Fun) (c49 : Fun) (c50 : Fun) (c52 : Fun) (c53 : Fun) (c54 : Fun) (c55 : Fun) (d49 : Fun) (a0 : AV) (a1 : Int) (h : H) (k : AV → H → Prop) : denF ty (gamD J [(23, c23), (29, c29), (35, c35), (37, c37), (40, c40), (41, c41), (43, c43), (45, c45), (48, c48), (49, c49), (50, c50), (52, c52), (53, c53), (54, c54), (55, c55)] [] [(49, d49)] noCode) Tryz.f11 [a0, (.int .i64 a1)] h k = s11G J c23 c29 c35 c37 c40 c41 c43 c45 c48 c49 c50 c52 c53 c54 c55 d49 a0 a1 h (fun r0 h => k (.int .i64 r0) h) := by kernel_rfl
noncomputable def g11 : Fun := w11 s11
theorem g11_ok : FunOk Tryz.prog 11 g11 := (fun_ok ty_ok mixed (gamD_ok (J := J0) (tab_cons g23_ok (tab_cons g29_ok (tab_cons g35_ok (tab_cons g37_ok (tab_cons g40_ok (tab_cons g41_ok (tab_cons g43_ok (tab_cons g45'_ok (tab_cons g48_ok (tab_cons g49_ok (tab_cons g50_ok (tab_cons g52_ok (tab_cons g53_ok (tab_cons g54_ok (tab_cons g55_ok (tab_nil fls_fun)))))))))))))))) (tab_nil fls_it) (tab_cons gd49_ok (tab_nil fls_dfn)) noCode_ok) Tryz.func11 (fun args w => by simp)).imp fun xs h k e0 => by
  obtain ⟨a0, xs0, rfl, e1⟩ := arg_imp e0
  obtain ⟨a1, xs1, rfl, e2⟩ := arg_imp e1
  obtain ⟨rfl, e3⟩ := noArg_imp e2
  obtain ⟨a1, rfl, e4⟩ := asI_iff.1 e3
  exact (s11_eq J0 g23 g29 g35 g37 g40 g41 g43 g45' g48 g49 g50 g52 g53 g54 g55 gd49 a0 a1 h k).mpr e4
noncomputable abbrev s11Tr := s11T J0 g23 g29 g35 g37 g40 g41 g43 g45' g48 g49 g50 g52 g53 g54 g55 gd49
noncomputable abbrev s11Br := s11B J0 g23 g29 g35 g37 g40 g41 g43 g45' g48 g49 g50 g52 g53 g54 g55 gd49
noncomputable abbrev s11Hr := s11H J0 g23 g29 g35 g37 g40 g41 g43 g45' g48 g49 g50 g52 g53 g54 g55 gd49
noncomputable abbrev s11Tu := s11T J0 (upF g23) (upF g29) (upF g35) (upF g37) (upF g40) (upF g41) (upF g43) (upF g45') (upF g48) (upF g49) (upF g50) (upF g52) (upF g53) (upF g54) (upF g55) (upF gd49)
noncomputable abbrev s11Bu := s11B J0 (upF g23) (upF g29) (upF g35) (upF g37) (upF g40) (upF g41) (upF g43) (upF g45') (upF g48) (upF g49) (upF g50) (upF g52) (upF g53) (upF g54) (upF g55) (upF gd49)
noncomputable abbrev s11Hu := s11H J0 (upF g23) (upF g29) (upF g35) (upF g37) (upF g40) (upF g41) (upF g43) (upF g45') (upF g48) (upF g49) (upF g50) (upF g52) (upF g53) (upF g54) (upF g55) (upF gd49)
noncomputable def s11U : AV → Int → H → (Int → H → Prop) → Prop := fun a0 a1 h k => s11Hu (fun x y d h => aRangeK x h fun v h => J0.lp (s11Bu k) (y v) d h) a0 a1 h k
theorem s11U_ok : FunOk Tryz.prog 11 (w11 s11U) := (fun_ok ty_ok mixed (gamD_ok (J := J0) (tab_cons g23_ok.upF (tab_cons g29_ok.upF (tab_cons g35_ok.upF (tab_cons g37_ok.upF (tab_cons g40_ok.upF (tab_cons g41_ok.upF (tab_cons g43_ok.upF (tab_cons g45'_ok.upF (tab_cons g48_ok.upF (tab_cons g49_ok.upF (tab_cons g50_ok.upF (tab_cons g52_ok.upF (tab_cons g53_ok.upF (tab_cons g54_ok.upF (tab_cons g55_ok.upF (tab_nil fls_fun)))))))))))))))) (tab_nil fls_it) (tab_cons gd49_ok.upF (tab_nil fls_dfn)) noCode_ok) Tryz.func11 (fun args w => by simp)).imp fun xs h k e0 => by
  obtain ⟨a0, xs0, rfl, e1⟩ := arg_imp e0
  obtain ⟨a1, xs1, rfl, e2⟩ := arg_imp e1
  obtain ⟨rfl, e3⟩ := noArg_imp e2
  obtain ⟨a1, rfl, e4⟩ := asI_iff.1 e3
  exact (s11_eq J0 (upF g23) (upF g29) (upF g35) (upF g37) (upF g40) (upF g41) (upF g43) (upF g45') (upF g48) (upF g49) (upF g50) (upF g52) (upF g53) (upF g54) (upF g55) (upF gd49) a0 a1 h k).mpr ((s11_hole J0 (upF g23) (upF g29) (upF g35) (upF g37) (upF g40) (upF g41) (upF g43) (upF g45') (upF g48) (upF g49) (upF g50) (upF g52) (upF g53) (upF g54) (upF g55) (upF gd49) a0 a1 h _).mpr e4)
end Go.Proofs.YtfbdniomnnpemaaGreatDoor
