/- Functions as they are reckoned. MADE BY PROGRAM (wip/tools/shal.py). -/
import Derived.Test.YtgpndbkghmbacaaGreatDoorAmS6
namespace Go.Proofs.YtgpndbkghmbacaaGreatDoor
open Go Go.Am
set_option maxRecDepth 100000
set_option linter.all false
/-- (*stagepost/parser.writer).value -/
noncomputable def g421 : Fun := denFS ty (gam J0 [(328, g328)]) Tryz.f421
theorem g421_ok : FunOk Tryz.prog 421 g421 := fun_okS ty_ok mixed (gam_ok (J := J0) (tab_cons g328_ok (tab_nil fls_fun))) Tryz.func421 (fun args w => by simp)
noncomputable def gd420 : Fun := denD ty (gam J0 []) Tryz.f420
theorem gd420_ok : DFunOk Tryz.prog 420 gd420 := dfun_ok ty_ok mixed (gam_ok (J := J0) (tab_nil fls_fun)) Tryz.func420 (fun args w => by simp)
noncomputable def ring333 : Nat → List (Nat × Fun) := fun n => Nat.rec (motive := fun _ => List (Nat × Fun)) [] (fun _ r => [(333, denFS ty (gamD J0 ((328, g328) :: (420, g420) :: (421, g421) :: (425, g425) :: r) [] [(420, gd420)] noCode) Tryz.f333)]) n
theorem ring333_ok : ∀ n, TabOk (FunOk Tryz.prog) (ring333 n)
  | 0 => tab_nil fls_fun
  | n + 1 => (tab_cons (fun_okS ty_ok mixed (gamD_ok (J := J0) (tab_cons g328_ok (tab_cons g420_ok (tab_cons g421_ok (tab_cons g425_ok (ring333_ok n))))) (tab_nil fls_it) (tab_cons gd420_ok (tab_nil fls_dfn)) noCode_ok) Tryz.func333 (fun args w => by simp)) (tab_nil fls_fun))
/-- (*stagepost/parser.writer).expr -/
noncomputable def g333 : Fun := tab (ring333 24) 333
theorem g333_ok : FunOk Tryz.prog 333 g333 := ring333_ok 24 333
/-- (*stagepost/parser.writer).stmt$1$1 -/
noncomputable def g332 : Fun := denFS ty (gam J0 [(333, g333)]) Tryz.f332
theorem g332_ok : FunOk Tryz.prog 332 g332 := fun_okS ty_ok mixed (gam_ok (J := J0) (tab_cons g333_ok (tab_nil fls_fun))) Tryz.func332 (fun args w => by simp)
/-- (*stagepost/parser.writer).stmt$2 -/
noncomputable def g334 : Fun := denFS ty (gam J0 [(328, g328), (333, g333)]) Tryz.f334
theorem g334_ok : FunOk Tryz.prog 334 g334 := fun_okS ty_ok mixed (gam_ok (J := J0) (tab_cons g328_ok (tab_cons g333_ok (tab_nil fls_fun)))) Tryz.func334 (fun args w => by simp)
/-- (*stagepost/parser.writer).selects$1 -/
noncomputable def g416 : Fun := denFS ty (gam J0 [(328, g328), (333, g333)]) Tryz.f416
theorem g416_ok : FunOk Tryz.prog 416 g416 := fun_okS ty_ok mixed (gam_ok (J := J0) (tab_cons g328_ok (tab_cons g333_ok (tab_nil fls_fun)))) Tryz.func416 (fun args w => by simp)
/-- (*stagepost/parser.writer).selects$2 -/
noncomputable def g417 : Fun := denFS ty (gam J0 [(333, g333)]) Tryz.f417
theorem g417_ok : FunOk Tryz.prog 417 g417 := fun_okS ty_ok mixed (gam_ok (J := J0) (tab_cons g333_ok (tab_nil fls_fun))) Tryz.func417 (fun args w => by simp)
/-- (*stagepost/parser.writer).selects$3 -/
noncomputable def g418 : Fun := denFS ty (gam J0 [(328, g328), (333, g333)]) Tryz.f418
theorem g418_ok : FunOk Tryz.prog 418 g418 := fun_okS ty_ok mixed (gam_ok (J := J0) (tab_cons g328_ok (tab_cons g333_ok (tab_nil fls_fun)))) Tryz.func418 (fun args w => by simp)
/-- (*stagepost/parser.writer).names$1 -/
noncomputable def g419 : Fun := denFS ty (gam J0 [(328, g328)]) Tryz.f419
theorem g419_ok : FunOk Tryz.prog 419 g419 := fun_okS ty_ok mixed (gam_ok (J := J0) (tab_cons g328_ok (tab_nil fls_fun))) Tryz.func419 (fun args w => by simp)
noncomputable def ring330 : Nat → List (Nat × Fun) := fun n => Nat.rec (motive := fun _ => List (Nat × Fun)) [] (fun _ r => [(330, denFS ty (gam J0 ((328, g328) :: (332, g332) :: (334, g334) :: (416, g416) :: (417, g417) :: (418, g418) :: (419, g419) :: r)) Tryz.f330),
  (331, denFS ty (gam J0 ((328, g328) :: (332, g332) :: r)) Tryz.f331)]) n
theorem ring330_ok : ∀ n, TabOk (FunOk Tryz.prog) (ring330 n)
  | 0 => tab_nil fls_fun
  | n + 1 => (tab_cons (fun_okS ty_ok mixed (gam_ok (J := J0) (tab_cons g328_ok (tab_cons g332_ok (tab_cons g334_ok (tab_cons g416_ok (tab_cons g417_ok (tab_cons g418_ok (tab_cons g419_ok (ring330_ok n))))))))) Tryz.func330 (fun args w => by simp)) 
    (tab_cons (fun_okS ty_ok mixed (gam_ok (J := J0) (tab_cons g328_ok (tab_cons g332_ok (ring330_ok n)))) Tryz.func331 (fun args w => by simp)) (tab_nil fls_fun)))
/-- (*stagepost/parser.writer).list -/
noncomputable def g330 : Fun := tab (ring330 24) 330
theorem g330_ok : FunOk Tryz.prog 330 g330 := ring330_ok 24 330
/-- (*stagepost/parser.writer).stmt$1 -/
noncomputable def g331 : Fun := tab (ring330 24) 331
theorem g331_ok : FunOk Tryz.prog 331 g331 := ring330_ok 24 331
/-- (*stagepost/parser.writer).where -/
noncomputable def g335 : Fun := denFS ty (gam J0 [(328, g328), (333, g333)]) Tryz.f335
theorem g335_ok : FunOk Tryz.prog 335 g335 := fun_okS ty_ok mixed (gam_ok (J := J0) (tab_cons g328_ok (tab_cons g333_ok (tab_nil fls_fun)))) Tryz.func335 (fun args w => by simp)
/-- (*stagepost/parser.writer).selects -/
noncomputable def g327 : Fun := denFS ty (gam J0 [(328, g328), (330, g330), (333, g333), (335, g335), (416, g416), (417, g417), (418, g418)]) Tryz.f327
theorem g327_ok : FunOk Tryz.prog 327 g327 := fun_okS ty_ok mixed (gam_ok (J := J0) (tab_cons g328_ok (tab_cons g330_ok (tab_cons g333_ok (tab_cons g335_ok (tab_cons g416_ok (tab_cons g417_ok (tab_cons g418_ok (tab_nil fls_fun))))))))) Tryz.func327 (fun args w => by simp)
/-- (*stagepost/parser.writer).names -/
noncomputable def g329 : Fun := denFS ty (gam J0 [(328, g328), (330, g330), (419, g419)]) Tryz.f329
theorem g329_ok : FunOk Tryz.prog 329 g329 := fun_okS ty_ok mixed (gam_ok (J := J0) (tab_cons g328_ok (tab_cons g330_ok (tab_cons g419_ok (tab_nil fls_fun))))) Tryz.func329 (fun args w => by simp)
/-- (*stagepost/parser.writer).stmt -/
noncomputable def s252G (J : Joins) (c174 : Fun) (c327 : Fun) (c328 : Fun) (c329 : Fun) (c330 : Fun) (c331 : Fun) (c334 : Fun) (c335 : Fun) (a0 : AV) (a1 : AV) (h : H) (k : H → Prop) : Prop :=
ck (isOne a0) (
pushK (.cells false 405 [a0]) h fun n1 h2 =>
Go.Am.asAgg a1 fun l5 =>
pushK (.cells false 89 l5) h2 fun n3 h4 =>
ldI .u8 (AV.ptr n3 0) h4 fun x6 =>
fB (eqI x6 (Int.ofNat 1)) fun b7 =>
br b7 (
ldV (AV.ptr n1 0) h4 fun v8 =>
ldN 23 (AV.ptr n3 0) h4 fun l9 =>
c327 [v8, (AV.agg l9)] h4 fun v10 h11 =>
k  h11) (
fB (eqI x6 (Int.ofNat 2)) fun b12 =>
br b12 (
ldV (AV.ptr n1 0) h4 fun v13 =>
ldS (AV.ptr n3 1) h4 fun s14 =>
pushK (.cells false 9 [(AV.str ⟨6, 115923103347316⟩), (AV.str ⟨4, 1768846447⟩), (AV.str s14)]) h4 fun n15 h16 =>
c328 [v13, (AV.slice n15 0 3 3 1 true)] h16 fun v17 h18 =>
J.jd (α := AV × AV × Unit) (fun v19 d20 h21 =>
ldV v19.1 h21 fun v23 =>
pushK (.cells false 9 [(AV.str ⟨6, 130160803538291⟩)]) h21 fun n24 h25 =>
c328 [v23, (AV.slice n24 0 1 1 1 true)] h25 fun v26 h27 =>
ldV v19.1 h27 fun v28 =>
faK 7 v19.2.1 fun p29 =>
ldV p29 h27 fun v30 =>
lenK v30 fun x31 =>
c330 [v28, (AV.int .i64 (Int.ofNat x31)), (AV.func (.func 331) [] [v19.1, v19.2.1])] h27 fun v32 h33 =>
leaveK (gam J [(174, c174), (327, c327), (328, c328), (329, c329), (330, c330), (331, c331), (334, c334), (335, c335)]) d20 h33 fun h34 =>
k  h34) fun j22 =>
ldV (AV.ptr n3 6) h18 fun v35 =>
lenK v35 fun x36 =>
fB (ltI (Int.ofNat 0) (Int.ofNat x36)) fun b37 =>
br b37 (
ldV (AV.ptr n1 0) h18 fun v38 =>
ldV (AV.ptr n3 6) h18 fun v39 =>
c329 [v38, v39] h18 fun v40 h41 =>
j22 ((AV.ptr n1 0), (AV.ptr n3 0), ()) [] h41) (
j22 ((AV.ptr n1 0), (AV.ptr n3 0), ()) [] h18)) (
fB (eqI x6 (Int.ofNat 3)) fun b42 =>
br b42 (
ldV (AV.ptr n1 0) h4 fun v43 =>
ldS (AV.ptr n3 1) h4 fun s44 =>
pushK (.cells false 9 [(AV.str ⟨6, 129125580895333⟩), (AV.str s44), (AV.str ⟨3, 7562612⟩)]) h4 fun n45 h46 =>
c328 [v43, (AV.slice n45 0 3 3 1 true)] h46 fun v47 h48 =>
ldV (AV.ptr n1 0) h48 fun v49 =>
ldV (AV.ptr n3 22) h48 fun v50 =>
lenK v50 fun x51 =>
c330 [v49, (AV.int .i64 (Int.ofNat x51)), (AV.func (.func 334) [] [(AV.ptr n1 0), (AV.ptr n3 0)])] h48 fun v52 h53 =>
ldV (AV.ptr n1 0) h53 fun v54 =>
ldN 9 (AV.ptr n3 10) h53 fun l55 =>
c335 [v54, (AV.agg l55)] h53 fun v56 h57 =>
k  h57) (
fB (eqI x6 (Int.ofNat 4)) fun b58 =>
br b58 (
ldV (AV.ptr n1 0) h4 fun v59 =>
ldS (AV.ptr n3 1) h4 fun s60 =>
pushK (.cells false 9 [(AV.str ⟨6, 110386773062757⟩), (AV.str ⟨4, 1718775661⟩), (AV.str s60)]) h4 fun n61 h62 =>
c328 [v59, (AV.slice n61 0 3 3 1 true)] h62 fun v63 h64 =>
ldV (AV.ptr n1 0) h64 fun v65 =>
ldN 9 (AV.ptr n3 10) h64 fun l66 =>
c335 [v65, (AV.agg l66)] h64 fun v67 h68 =>
k  h68) (
fB (eqI x6 (Int.ofNat 5)) fun b69 =>
br b69 (
ldV (AV.ptr n1 0) h4 fun v70 =>
ldS (AV.ptr n3 1) h4 fun s71 =>
pushK (.cells false 9 [(AV.str ⟨6, 109342978307173⟩), (AV.str ⟨5, 499850046565⟩), (AV.str s71), (AV.str ⟨1, 40⟩)]) h4 fun n72 h73 =>
c328 [v70, (AV.slice n72 0 4 4 1 true)] h73 fun v74 h75 =>
ldV (AV.ptr n3 3) h75 fun v76 =>
lenK v76 fun x77 =>
J.lp (α := AV × AV × AV × AV × AV × Unit) (fun r81 v78 d79 h80 =>
asI .i64 v78.2.2.2.2.1 fun x82 =>
asI .i64 v78.2.2.2.1 fun x83 =>
fB (ltI x82 x83) fun b84 =>
br b84 (
ixK 3 v78.2.2.1 v78.2.2.2.2.1 fun p85 =>
ldN 3 p85 h80 fun l86 =>
pushK (.cells false 195 [(.str ⟨0, 0⟩), (.int .u8 0), (.bool false)]) h80 fun n87 h88 =>
stN 3 (AV.ptr n87 0) l86 h88 fun h89 =>
ldV v78.1 h89 fun v90 =>
ldS (AV.ptr n87 0) h89 fun s91 =>
pushK (.cells false 9 [(AV.str s91)]) h89 fun n92 h93 =>
c328 [v90, (AV.slice n92 0 1 1 1 true)] h93 fun v94 h95 =>
c174 [] h95 fun v96 h97 =>
aRangeK v96 h97 fun v98 h99 =>
J.lp (α := AV × AV × AV × AV × AV × AV × AV × Unit) (fun r103 v100 d101 h102 =>
aNext v100.2.2.2.2.2.2.1 h102 fun v104 h105 =>
asTup v104 fun l106 =>
op' (lgetO l106 0) fun v107 =>
asB v107 fun b108 =>
br b108 (
op' (aEntry v100.2.2.2.2.2.2.1 h105) fun v109 =>
asTup v109 fun l110 =>
op' (lgetO l110 0) fun v111 =>
asS v111 fun s112 =>
asTup v109 fun l113 =>
op' (lgetO l113 1) fun v114 =>
asI .u8 v114 fun x115 =>
faK 1 v100.2.2.1 fun p116 =>
ldI .u8 p116 h105 fun x117 =>
fB (eqI x115 x117) fun b118 =>
br b118 (
ldV v100.1 h105 fun v119 =>
pushK (.cells false 9 [(AV.str s112)]) h105 fun n120 h121 =>
c328 [v119, (AV.slice n120 0 1 1 1 true)] h121 fun v122 h123 =>
r103 (v100.1, v100.2.1, v100.2.2.1, v100.2.2.2.1, v100.2.2.2.2.1, v100.2.2.2.2.2.1, v100.2.2.2.2.2.2.1, ()) d101 h123) (
r103 (v100.1, v100.2.1, v100.2.2.1, v100.2.2.2.1, v100.2.2.2.2.1, v100.2.2.2.2.2.1, v100.2.2.2.2.2.2.1, ()) d101 h105)) (
J.jd (α := AV × AV × AV × AV × AV × Unit) (fun v124 d125 h126 =>
ldV v124.1 h126 fun v128 =>
pushK (.cells false 9 [(AV.str ⟨1, 44⟩)]) h126 fun n129 h130 =>
c328 [v128, (AV.slice n129 0 1 1 1 true)] h130 fun v131 h132 =>
asI .i64 v124.2.2.2.2.1 fun x133 =>
fI (wrapF .i64 (Int.add x133 (Int.ofNat 1))) fun x134 =>
r81 (v124.1, v124.2.1, v124.2.2.1, v124.2.2.2.1, (AV.int .i64 x134), ()) d125 h132) fun j127 =>
faK 2 v100.2.2.1 fun p135 =>
ldB p135 h105 fun b136 =>
br b136 (
ldV v100.1 h105 fun v137 =>
pushK (.cells false 9 [(AV.str ⟨3, 7237492⟩), (AV.str ⟨4, 1853189228⟩)]) h105 fun n138 h139 =>
c328 [v137, (AV.slice n138 0 2 2 1 true)] h139 fun v140 h141 =>
j127 (v100.1, v100.2.1, v100.2.2.2.1, v100.2.2.2.2.1, v100.2.2.2.2.2.1, ()) d101 h141) (
j127 (v100.1, v100.2.1, v100.2.2.2.1, v100.2.2.2.2.1, v100.2.2.2.2.2.1, ()) d101 h105))) (v78.1, v78.2.1, (AV.ptr n87 0), v78.2.2.1, v78.2.2.2.1, v78.2.2.2.2.1, v98, ()) d79 h99) (
ldV v78.1 h80 fun v142 =>
pushK (.cells false 9 [(AV.str ⟨7, 31650994523828857⟩), (AV.str ⟨3, 7038329⟩)]) h80 fun n143 h144 =>
c328 [v142, (AV.slice n143 0 2 2 1 true)] h144 fun v145 h146 =>
ldV v78.1 h146 fun v147 =>
faK 4 v78.2.1 fun p148 =>
ldV p148 h146 fun v149 =>
c329 [v147, v149] h146 fun v150 h151 =>
ldV v78.1 h151 fun v152 =>
pushK (.cells false 9 [(AV.str ⟨1, 41⟩)]) h151 fun n153 h154 =>
c328 [v152, (AV.slice n153 0 1 1 1 true)] h154 fun v155 h156 =>
leaveK (gam J [(174, c174), (327, c327), (328, c328), (329, c329), (330, c330), (331, c331), (334, c334), (335, c335)]) d79 h156 fun h157 =>
k  h157)) ((AV.ptr n1 0), (AV.ptr n3 0), v76, (AV.int .i64 (Int.ofNat x77)), (AV.int .i64 (Int.ofNat 0)), ()) [] h75) (
fB (eqI x6 (Int.ofNat 6)) fun b158 =>
br b158 (
ldV (AV.ptr n1 0) h4 fun v159 =>
pushK (.cells false 9 [(AV.str ⟨6, 109342978307173⟩)]) h4 fun n160 h161 =>
c328 [v159, (AV.slice n160 0 1 1 1 true)] h161 fun v162 h163 =>
J.jd (α := AV × AV × Unit) (fun v164 d165 h166 =>
ldV v164.1 h166 fun v168 =>
faK 1 v164.2.1 fun p169 =>
ldS p169 h166 fun s170 =>
faK 2 v164.2.1 fun p171 =>
ldS p171 h166 fun s172 =>
pushK (.cells false 9 [(AV.str ⟨5, 452823639416⟩), (AV.str s170), (AV.str ⟨2, 28526⟩), (AV.str s172)]) h166 fun n173 h174 =>
c328 [v168, (AV.slice n173 0 4 4 1 true)] h174 fun v175 h176 =>
ldV v164.1 h176 fun v177 =>
faK 6 v164.2.1 fun p178 =>
ldV p178 h176 fun v179 =>
c329 [v177, v179] h176 fun v180 h181 =>
leaveK (gam J [(174, c174), (327, c327), (328, c328), (329, c329), (330, c330), (331, c331), (334, c334), (335, c335)]) d165 h181 fun h182 =>
k  h182) fun j167 =>
ldB (AV.ptr n3 5) h163 fun b183 =>
br b183 (
ldV (AV.ptr n1 0) h163 fun v184 =>
pushK (.cells false 9 [(AV.str ⟨6, 129117075895653⟩)]) h163 fun n185 h186 =>
c328 [v184, (AV.slice n185 0 1 1 1 true)] h186 fun v187 h188 =>
j167 ((AV.ptr n1 0), (AV.ptr n3 0), ()) [] h188) (
j167 ((AV.ptr n1 0), (AV.ptr n3 0), ()) [] h163)) (
fB (eqI x6 (Int.ofNat 7)) fun b189 =>
br b189 (
ldV (AV.ptr n1 0) h4 fun v190 =>
pushK (.cells false 9 [(AV.str ⟨5, 422608071022⟩)]) h4 fun n191 h192 =>
c328 [v190, (AV.slice n191 0 1 1 1 true)] h192 fun v193 h194 =>
k  h194) (
fB (eqI x6 (Int.ofNat 8)) fun b195 =>
br b195 (
ldV (AV.ptr n1 0) h4 fun v196 =>
pushK (.cells false 9 [(AV.str ⟨6, 109330228406644⟩)]) h4 fun n197 h198 =>
c328 [v196, (AV.slice n197 0 1 1 1 true)] h198 fun v199 h200 =>
k  h200) (
fB (eqI x6 (Int.ofNat 9)) fun b201 =>
br b201 (
ldV (AV.ptr n1 0) h4 fun v202 =>
pushK (.cells false 9 [(AV.str ⟨8, 8245928655501484907⟩)]) h4 fun n203 h204 =>
c328 [v202, (AV.slice n203 0 1 1 1 true)] h204 fun v205 h206 =>
k  h206) (
fB (eqI x6 (Int.ofNat 11)) fun b207 =>
br b207 (
ldV (AV.ptr n1 0) h4 fun v208 =>
ldS (AV.ptr n3 1) h4 fun s209 =>
pushK (.cells false 9 [(AV.str ⟨8, 8245928655501484907⟩), (AV.str ⟨2, 29807⟩), (AV.str s209)]) h4 fun n210 h211 =>
c328 [v208, (AV.slice n210 0 3 3 1 true)] h211 fun v212 h213 =>
k  h213) (
fB (eqI x6 (Int.ofNat 10)) fun b214 =>
br b214 (
ldV (AV.ptr n1 0) h4 fun v215 =>
ldS (AV.ptr n3 1) h4 fun s216 =>
pushK (.cells false 9 [(AV.str ⟨9, 2128398480679109226100⟩), (AV.str s216)]) h4 fun n217 h218 =>
c328 [v215, (AV.slice n217 0 2 2 1 true)] h218 fun v219 h220 =>
k  h220) (
ldV (AV.ptr n1 0) h4 fun v221 =>
okNil v221 (
faK 1 v221 fun p222 =>
stV p222 (AV.bool true) h4 fun h223 =>
k  h223)))))))))))))
noncomputable def s252T (J : Joins) (c174 : Fun) (c327 : Fun) (c328 : Fun) (c329 : Fun) (c330 : Fun) (c331 : Fun) (c334 : Fun) (c335 : Fun) (k : H → Prop) (r81 : AV × AV × AV × AV × AV × Unit → List Dfr → H → Prop) (v100 : AV × AV × AV × AV × AV × AV × AV × Unit) (d101 : List Dfr) (h105 : H) : Prop :=
J.jd (α := AV × AV × AV × AV × AV × Unit) (fun v124 d125 h126 =>
ldV v124.1 h126 fun v128 =>
pushK (.cells false 9 [(AV.str ⟨1, 44⟩)]) h126 fun n129 h130 =>
c328 [v128, (AV.slice n129 0 1 1 1 true)] h130 fun v131 h132 =>
asI .i64 v124.2.2.2.2.1 fun x133 =>
fI (wrapF .i64 (Int.add x133 (Int.ofNat 1))) fun x134 =>
r81 (v124.1, v124.2.1, v124.2.2.1, v124.2.2.2.1, (AV.int .i64 x134), ()) d125 h132) fun j127 =>
faK 2 v100.2.2.1 fun p135 =>
ldB p135 h105 fun b136 =>
br b136 (
ldV v100.1 h105 fun v137 =>
pushK (.cells false 9 [(AV.str ⟨3, 7237492⟩), (AV.str ⟨4, 1853189228⟩)]) h105 fun n138 h139 =>
c328 [v137, (AV.slice n138 0 2 2 1 true)] h139 fun v140 h141 =>
j127 (v100.1, v100.2.1, v100.2.2.2.1, v100.2.2.2.2.1, v100.2.2.2.2.2.1, ()) d101 h141) (
j127 (v100.1, v100.2.1, v100.2.2.2.1, v100.2.2.2.2.1, v100.2.2.2.2.2.1, ()) d101 h105)
noncomputable def s252B (J : Joins) (c174 : Fun) (c327 : Fun) (c328 : Fun) (c329 : Fun) (c330 : Fun) (c331 : Fun) (c334 : Fun) (c335 : Fun) (k : H → Prop) (r81 : AV × AV × AV × AV × AV × Unit → List Dfr → H → Prop) (r103 : AV × AV × AV × AV × AV × AV × AV × Unit → List Dfr → H → Prop) (v100 : AV × AV × AV × AV × AV × AV × AV × Unit) (d101 : List Dfr) (h102 : H) : Prop :=
aNext v100.2.2.2.2.2.2.1 h102 fun v104 h105 =>
asTup v104 fun l106 =>
op' (lgetO l106 0) fun v107 =>
asB v107 fun b108 =>
br b108 (
op' (aEntry v100.2.2.2.2.2.2.1 h105) fun v109 =>
asTup v109 fun l110 =>
op' (lgetO l110 0) fun v111 =>
asS v111 fun s112 =>
asTup v109 fun l113 =>
op' (lgetO l113 1) fun v114 =>
asI .u8 v114 fun x115 =>
faK 1 v100.2.2.1 fun p116 =>
ldI .u8 p116 h105 fun x117 =>
fB (eqI x115 x117) fun b118 =>
br b118 (
ldV v100.1 h105 fun v119 =>
pushK (.cells false 9 [(AV.str s112)]) h105 fun n120 h121 =>
c328 [v119, (AV.slice n120 0 1 1 1 true)] h121 fun v122 h123 =>
r103 (v100.1, v100.2.1, v100.2.2.1, v100.2.2.2.1, v100.2.2.2.2.1, v100.2.2.2.2.2.1, v100.2.2.2.2.2.2.1, ()) d101 h123) (
r103 (v100.1, v100.2.1, v100.2.2.1, v100.2.2.2.1, v100.2.2.2.2.1, v100.2.2.2.2.2.1, v100.2.2.2.2.2.2.1, ()) d101 h105)) (s252T J c174 c327 c328 c329 c330 c331 c334 c335 k r81 v100 d101 h105)
noncomputable def s252H (J : Joins) (c174 : Fun) (c327 : Fun) (c328 : Fun) (c329 : Fun) (c330 : Fun) (c331 : Fun) (c334 : Fun) (c335 : Fun) (RR : (AV × AV × AV × AV × AV × Unit → List Dfr → H → Prop) → AV → (AV → AV × AV × AV × AV × AV × AV × AV × Unit) → List Dfr → H → Prop) (a0 : AV) (a1 : AV) (h : H) (k : H → Prop) : Prop :=
ck (isOne a0) (
pushK (.cells false 405 [a0]) h fun n1 h2 =>
Go.Am.asAgg a1 fun l5 =>
pushK (.cells false 89 l5) h2 fun n3 h4 =>
ldI .u8 (AV.ptr n3 0) h4 fun x6 =>
fB (eqI x6 (Int.ofNat 1)) fun b7 =>
br b7 (
ldV (AV.ptr n1 0) h4 fun v8 =>
ldN 23 (AV.ptr n3 0) h4 fun l9 =>
c327 [v8, (AV.agg l9)] h4 fun v10 h11 =>
k  h11) (
fB (eqI x6 (Int.ofNat 2)) fun b12 =>
br b12 (
ldV (AV.ptr n1 0) h4 fun v13 =>
ldS (AV.ptr n3 1) h4 fun s14 =>
pushK (.cells false 9 [(AV.str ⟨6, 115923103347316⟩), (AV.str ⟨4, 1768846447⟩), (AV.str s14)]) h4 fun n15 h16 =>
c328 [v13, (AV.slice n15 0 3 3 1 true)] h16 fun v17 h18 =>
J.jd (α := AV × AV × Unit) (fun v19 d20 h21 =>
ldV v19.1 h21 fun v23 =>
pushK (.cells false 9 [(AV.str ⟨6, 130160803538291⟩)]) h21 fun n24 h25 =>
c328 [v23, (AV.slice n24 0 1 1 1 true)] h25 fun v26 h27 =>
ldV v19.1 h27 fun v28 =>
faK 7 v19.2.1 fun p29 =>
ldV p29 h27 fun v30 =>
lenK v30 fun x31 =>
c330 [v28, (AV.int .i64 (Int.ofNat x31)), (AV.func (.func 331) [] [v19.1, v19.2.1])] h27 fun v32 h33 =>
leaveK (gam J [(174, c174), (327, c327), (328, c328), (329, c329), (330, c330), (331, c331), (334, c334), (335, c335)]) d20 h33 fun h34 =>
k  h34) fun j22 =>
ldV (AV.ptr n3 6) h18 fun v35 =>
lenK v35 fun x36 =>
fB (ltI (Int.ofNat 0) (Int.ofNat x36)) fun b37 =>
br b37 (
ldV (AV.ptr n1 0) h18 fun v38 =>
ldV (AV.ptr n3 6) h18 fun v39 =>
c329 [v38, v39] h18 fun v40 h41 =>
j22 ((AV.ptr n1 0), (AV.ptr n3 0), ()) [] h41) (
j22 ((AV.ptr n1 0), (AV.ptr n3 0), ()) [] h18)) (
fB (eqI x6 (Int.ofNat 3)) fun b42 =>
br b42 (
ldV (AV.ptr n1 0) h4 fun v43 =>
ldS (AV.ptr n3 1) h4 fun s44 =>
pushK (.cells false 9 [(AV.str ⟨6, 129125580895333⟩), (AV.str s44), (AV.str ⟨3, 7562612⟩)]) h4 fun n45 h46 =>
c328 [v43, (AV.slice n45 0 3 3 1 true)] h46 fun v47 h48 =>
ldV (AV.ptr n1 0) h48 fun v49 =>
ldV (AV.ptr n3 22) h48 fun v50 =>
lenK v50 fun x51 =>
c330 [v49, (AV.int .i64 (Int.ofNat x51)), (AV.func (.func 334) [] [(AV.ptr n1 0), (AV.ptr n3 0)])] h48 fun v52 h53 =>
ldV (AV.ptr n1 0) h53 fun v54 =>
ldN 9 (AV.ptr n3 10) h53 fun l55 =>
c335 [v54, (AV.agg l55)] h53 fun v56 h57 =>
k  h57) (
fB (eqI x6 (Int.ofNat 4)) fun b58 =>
br b58 (
ldV (AV.ptr n1 0) h4 fun v59 =>
ldS (AV.ptr n3 1) h4 fun s60 =>
pushK (.cells false 9 [(AV.str ⟨6, 110386773062757⟩), (AV.str ⟨4, 1718775661⟩), (AV.str s60)]) h4 fun n61 h62 =>
c328 [v59, (AV.slice n61 0 3 3 1 true)] h62 fun v63 h64 =>
ldV (AV.ptr n1 0) h64 fun v65 =>
ldN 9 (AV.ptr n3 10) h64 fun l66 =>
c335 [v65, (AV.agg l66)] h64 fun v67 h68 =>
k  h68) (
fB (eqI x6 (Int.ofNat 5)) fun b69 =>
br b69 (
ldV (AV.ptr n1 0) h4 fun v70 =>
ldS (AV.ptr n3 1) h4 fun s71 =>
pushK (.cells false 9 [(AV.str ⟨6, 109342978307173⟩), (AV.str ⟨5, 499850046565⟩), (AV.str s71), (AV.str ⟨1, 40⟩)]) h4 fun n72 h73 =>
c328 [v70, (AV.slice n72 0 4 4 1 true)] h73 fun v74 h75 =>
ldV (AV.ptr n3 3) h75 fun v76 =>
lenK v76 fun x77 =>
J.lp (α := AV × AV × AV × AV × AV × Unit) (fun r81 v78 d79 h80 =>
asI .i64 v78.2.2.2.2.1 fun x82 =>
asI .i64 v78.2.2.2.1 fun x83 =>
fB (ltI x82 x83) fun b84 =>
br b84 (
ixK 3 v78.2.2.1 v78.2.2.2.2.1 fun p85 =>
ldN 3 p85 h80 fun l86 =>
pushK (.cells false 195 [(.str ⟨0, 0⟩), (.int .u8 0), (.bool false)]) h80 fun n87 h88 =>
stN 3 (AV.ptr n87 0) l86 h88 fun h89 =>
ldV v78.1 h89 fun v90 =>
ldS (AV.ptr n87 0) h89 fun s91 =>
pushK (.cells false 9 [(AV.str s91)]) h89 fun n92 h93 =>
c328 [v90, (AV.slice n92 0 1 1 1 true)] h93 fun v94 h95 =>
c174 [] h95 fun v96 h97 =>
RR r81 v96 (fun v98 => (v78.1, v78.2.1, (AV.ptr n87 0), v78.2.2.1, v78.2.2.2.1, v78.2.2.2.2.1, v98, ())) d79 h97) (
ldV v78.1 h80 fun v142 =>
pushK (.cells false 9 [(AV.str ⟨7, 31650994523828857⟩), (AV.str ⟨3, 7038329⟩)]) h80 fun n143 h144 =>
c328 [v142, (AV.slice n143 0 2 2 1 true)] h144 fun v145 h146 =>
ldV v78.1 h146 fun v147 =>
faK 4 v78.2.1 fun p148 =>
ldV p148 h146 fun v149 =>
c329 [v147, v149] h146 fun v150 h151 =>
ldV v78.1 h151 fun v152 =>
pushK (.cells false 9 [(AV.str ⟨1, 41⟩)]) h151 fun n153 h154 =>
c328 [v152, (AV.slice n153 0 1 1 1 true)] h154 fun v155 h156 =>
leaveK (gam J [(174, c174), (327, c327), (328, c328), (329, c329), (330, c330), (331, c331), (334, c334), (335, c335)]) d79 h156 fun h157 =>
k  h157)) ((AV.ptr n1 0), (AV.ptr n3 0), v76, (AV.int .i64 (Int.ofNat x77)), (AV.int .i64 (Int.ofNat 0)), ()) [] h75) (
fB (eqI x6 (Int.ofNat 6)) fun b158 =>
br b158 (
ldV (AV.ptr n1 0) h4 fun v159 =>
pushK (.cells false 9 [(AV.str ⟨6, 109342978307173⟩)]) h4 fun n160 h161 =>
c328 [v159, (AV.slice n160 0 1 1 1 true)] h161 fun v162 h163 =>
J.jd (α := AV × AV × Unit) (fun v164 d165 h166 =>
ldV v164.1 h166 fun v168 =>
faK 1 v164.2.1 fun p169 =>
ldS p169 h166 fun s170 =>
faK 2 v164.2.1 fun p171 =>
ldS p171 h166 fun s172 =>
pushK (.cells false 9 [(AV.str ⟨5, 452823639416⟩), (AV.str s170), (AV.str ⟨2, 28526⟩), (AV.str s172)]) h166 fun n173 h174 =>
c328 [v168, (AV.slice n173 0 4 4 1 true)] h174 fun v175 h176 =>
ldV v164.1 h176 fun v177 =>
faK 6 v164.2.1 fun p178 =>
ldV p178 h176 fun v179 =>
c329 [v177, v179] h176 fun v180 h181 =>
leaveK (gam J [(174, c174), (327, c327), (328, c328), (329, c329), (330, c330), (331, c331), (334, c334), (335, c335)]) d165 h181 fun h182 =>
k  h182) fun j167 =>
ldB (AV.ptr n3 5) h163 fun b183 =>
br b183 (
ldV (AV.ptr n1 0) h163 fun v184 =>
pushK (.cells false 9 [(AV.str ⟨6, 129117075895653⟩)]) h163 fun n185 h186 =>
c328 [v184, (AV.slice n185 0 1 1 1 true)] h186 fun v187 h188 =>
j167 ((AV.ptr n1 0), (AV.ptr n3 0), ()) [] h188) (
j167 ((AV.ptr n1 0), (AV.ptr n3 0), ()) [] h163)) (
fB (eqI x6 (Int.ofNat 7)) fun b189 =>
br b189 (
ldV (AV.ptr n1 0) h4 fun v190 =>
pushK (.cells false 9 [(AV.str ⟨5, 422608071022⟩)]) h4 fun n191 h192 =>
c328 [v190, (AV.slice n191 0 1 1 1 true)] h192 fun v193 h194 =>
k  h194) (
fB (eqI x6 (Int.ofNat 8)) fun b195 =>
br b195 (
ldV (AV.ptr n1 0) h4 fun v196 =>
pushK (.cells false 9 [(AV.str ⟨6, 109330228406644⟩)]) h4 fun n197 h198 =>
c328 [v196, (AV.slice n197 0 1 1 1 true)] h198 fun v199 h200 =>
k  h200) (
fB (eqI x6 (Int.ofNat 9)) fun b201 =>
br b201 (
ldV (AV.ptr n1 0) h4 fun v202 =>
pushK (.cells false 9 [(AV.str ⟨8, 8245928655501484907⟩)]) h4 fun n203 h204 =>
c328 [v202, (AV.slice n203 0 1 1 1 true)] h204 fun v205 h206 =>
k  h206) (
fB (eqI x6 (Int.ofNat 11)) fun b207 =>
br b207 (
ldV (AV.ptr n1 0) h4 fun v208 =>
ldS (AV.ptr n3 1) h4 fun s209 =>
pushK (.cells false 9 [(AV.str ⟨8, 8245928655501484907⟩), (AV.str ⟨2, 29807⟩), (AV.str s209)]) h4 fun n210 h211 =>
c328 [v208, (AV.slice n210 0 3 3 1 true)] h211 fun v212 h213 =>
k  h213) (
fB (eqI x6 (Int.ofNat 10)) fun b214 =>
br b214 (
ldV (AV.ptr n1 0) h4 fun v215 =>
ldS (AV.ptr n3 1) h4 fun s216 =>
pushK (.cells false 9 [(AV.str ⟨9, 2128398480679109226100⟩), (AV.str s216)]) h4 fun n217 h218 =>
c328 [v215, (AV.slice n217 0 2 2 1 true)] h218 fun v219 h220 =>
k  h220) (
ldV (AV.ptr n1 0) h4 fun v221 =>
okNil v221 (
faK 1 v221 fun p222 =>
stV p222 (AV.bool true) h4 fun h223 =>
k  h223)))))))))))))
theorem s252_hole (J : Joins) (c174 : Fun) (c327 : Fun) (c328 : Fun) (c329 : Fun) (c330 : Fun) (c331 : Fun) (c334 : Fun) (c335 : Fun) (a0 : AV) (a1 : AV) (h : H) (k : H → Prop) : s252G J c174 c327 c328 c329 c330 c331 c334 c335 a0 a1 h k = s252H J c174 c327 c328 c329 c330 c331 c334 c335 (fun r81 x y d h => aRangeK x h fun v h => J.lp (s252B J c174 c327 c328 c329 c330 c331 c334 c335 k r81) (y v) d h) a0 a1 h k := by kernel_rfl
noncomputable def s252 : AV → AV → H → (H → Prop) → Prop := s252G J0 g174 g327 g328 g329 g330 g331 g334 g335
noncomputable def w252 (c : AV → AV → H → (H → Prop) → Prop) : Fun := fun xs h k => arg xs fun a0 xs => arg xs fun a1 xs => noArg xs <| c a0 a1 h fun  h => k (.tuple []) h
theorem s252_eq (J : Joins) (c174 : Fun) (c327 : Fun) (c328 : Fun) (c329 : Fun) (c330 : Fun) (c331 : Fun) (c334 : Fun) (c335 : Fun) (a0 : AV) (a1 : AV) (h : H) (k : AV → H → Prop) : denF ty (gam J [(174, c174), (327, c327), (328, c328), (329, c329), (330, c330), (331, c331), (334, c334), (335, c335)]) Tryz.f252 [a0, a1] h k = s252G J c174 c327 c328 c329 c330 c331 c334 c335 a0 a1 h (fun  h => k (.tuple []) h) := by kernel_rfl
noncomputable def g252 : Fun := w252 s252
theorem g252_ok : FunOk Tryz.prog 252 g252 := (fun_ok ty_ok mixed (gam_ok (J := J0) (tab_cons g174_ok (tab_cons g327_ok (tab_cons g328_ok (tab_cons g329_ok (tab_cons g330_ok (tab_cons g331_ok (tab_cons g334_ok (tab_cons g335_ok (tab_nil fls_fun)))))))))) Tryz.func252 (fun args w => by simp)).imp fun xs h k e0 => by
  obtain ⟨a0, xs0, rfl, e1⟩ := arg_imp e0
  obtain ⟨a1, xs1, rfl, e2⟩ := arg_imp e1
  obtain ⟨rfl, e3⟩ := noArg_imp e2
  exact (s252_eq J0 g174 g327 g328 g329 g330 g331 g334 g335 a0 a1 h k).mpr e3
noncomputable abbrev s252Tr := s252T J0 g174 g327 g328 g329 g330 g331 g334 g335
noncomputable abbrev s252Br := s252B J0 g174 g327 g328 g329 g330 g331 g334 g335
noncomputable abbrev s252Hr := s252H J0 g174 g327 g328 g329 g330 g331 g334 g335
noncomputable abbrev s252Tu := s252T J0 (upF g174) (upF g327) (upF g328) (upF g329) (upF g330) (upF g331) (upF g334) (upF g335)
noncomputable abbrev s252Bu := s252B J0 (upF g174) (upF g327) (upF g328) (upF g329) (upF g330) (upF g331) (upF g334) (upF g335)
noncomputable abbrev s252Hu := s252H J0 (upF g174) (upF g327) (upF g328) (upF g329) (upF g330) (upF g331) (upF g334) (upF g335)
noncomputable def s252U : AV → AV → H → (H → Prop) → Prop := fun a0 a1 h k => s252Hu (fun r81 x y d h => aRangeK x h fun v h => J0.lp (s252Bu k r81) (y v) d h) a0 a1 h k
theorem s252U_ok : FunOk Tryz.prog 252 (w252 s252U) := (fun_ok ty_ok mixed (gam_ok (J := J0) (tab_cons g174_ok.upF (tab_cons g327_ok.upF (tab_cons g328_ok.upF (tab_cons g329_ok.upF (tab_cons g330_ok.upF (tab_cons g331_ok.upF (tab_cons g334_ok.upF (tab_cons g335_ok.upF (tab_nil fls_fun)))))))))) Tryz.func252 (fun args w => by simp)).imp fun xs h k e0 => by
  obtain ⟨a0, xs0, rfl, e1⟩ := arg_imp e0
  obtain ⟨a1, xs1, rfl, e2⟩ := arg_imp e1
  obtain ⟨rfl, e3⟩ := noArg_imp e2
  exact (s252_eq J0 (upF g174) (upF g327) (upF g328) (upF g329) (upF g330) (upF g331) (upF g334) (upF g335) a0 a1 h k).mpr ((s252_hole J0 (upF g174) (upF g327) (upF g328) (upF g329) (upF g330) (upF g331) (upF g334) (upF g335) a0 a1 h _).mpr e3)
end Go.Proofs.YtgpndbkghmbacaaGreatDoor
