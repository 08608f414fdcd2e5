/- Functions as they are reckoned. MADE BY PROGRAM (wip/tools/shal.py). -/
import Derived.Test.YtgpndbkghmbacaaGreatDoorAmH250
namespace Go.Proofs.YtgpndbkghmbacaaGreatDoor
open Go Go.Am
set_option maxRecDepth 100000
set_option linter.all false
/-- stagepost/lexer.Reserved -/
noncomputable def s175G (J : Joins) (c141 : AV → Str → H → (Bool → H → Prop) → Prop) (c250 : Fun) (a0 : Str) (h : H) (k : Bool → H → Prop) : Prop :=
c250 [] h fun v1 h2 =>
c141 v1 a0 h2 fun b4 h3 =>
k b4 h3
noncomputable def s175 : Str → H → (Bool → H → Prop) → Prop := s175G J0 s141 g250'
noncomputable def w175 (c : Str → H → (Bool → H → Prop) → Prop) : Fun := fun xs h k => arg xs fun a0 xs => noArg xs <| asS a0 fun a0 => c a0 h fun r0 h => k (.bool r0) h
theorem s175_eq (J : Joins) (c141 : AV → Str → H → (Bool → H → Prop) → Prop) (c250 : Fun) (a0 : Str) (h : H) (k : AV → H → Prop) : denF ty (gam J [(141, w141 c141), (250, c250)]) Tryz.f175 [(.str a0)] h k = s175G J c141 c250 a0 h (fun r0 h => k (.bool r0) h) := by kernel_rfl
noncomputable def g175 : Fun := w175 s175
theorem g175_ok : FunOk Tryz.prog 175 g175 := (fun_ok ty_ok mixed (gam_ok (J := J0) (tab_cons g141_ok (tab_cons g250'_ok (tab_nil fls_fun)))) Tryz.func175 (fun args w => by simp)).imp fun xs h k e0 => by
  obtain ⟨a0, xs0, rfl, e1⟩ := arg_imp e0
  obtain ⟨rfl, e2⟩ := noArg_imp e1
  obtain ⟨a0, rfl, e3⟩ := asS_iff.1 e2
  exact (s175_eq J0 s141 g250' a0 h k).mpr e3
/-- (*stagepost/parser.reader).name -/
noncomputable def s105G (J : Joins) (c160 : AV → H → (AV → H → Prop) → Prop) (c175 : Str → H → (Bool → H → Prop) → Prop) (a0 : AV) (h : H) (k : Str → H → Prop) : Prop :=
c160 a0 h fun v2 h1 =>
pushK (.cells false 222 [(.int .u8 0), (.str ⟨0, 0⟩), (.int .u64 0), (.int .i64 0)]) h1 fun n3 h4 =>
Go.Am.asAgg v2 fun l6 =>
stN 4 (AV.ptr n3 0) l6 h4 fun h5 =>
J.jd (α := AV × AV × Unit) (fun v7 d8 h9 =>
okNil v7.1 (
faK 1 v7.1 fun p11 =>
ldI .i64 p11 h9 fun x12 =>
fI (wrapF .i64 (Int.add x12 (Int.ofNat 1))) fun x13 =>
okNil v7.1 (
faK 1 v7.1 fun p14 =>
stV p14 (AV.int .i64 x13) h9 fun h15 =>
faK 1 v7.2.1 fun p16 =>
ldS p16 h15 fun s17 =>
leaveK (gam J [(160, w160 c160), (175, w175 c175)]) d8 h15 fun h18 =>
k s17 h18))) fun j10 =>
ldI .u8 (AV.ptr n3 0) h5 fun x19 =>
fB (Bool.not (eqI x19 (Int.ofNat 1))) fun b20 =>
J.jn (fun v21 h22 =>
J.jn (fun v24 h25 =>
J.jn (fun v28 h29 =>
pickB (AV.bool b20) (AV.bool true) v28 fun b34 =>
br b34 (
False) (
j10 (a0, (AV.ptr n3 0), ()) [] h29)) fun j30 =>
br b20 (
j30 skipV h25) (
asS v24 fun s32 =>
c175 s32 h25 fun b33 h31 =>
j30 (AV.bool b33) h31)) fun j26 =>
br b20 (
j26 skipV h22) (
ldS v21 h22 fun s27 =>
j26 (AV.str s27) h22)) fun j23 =>
br b20 (
j23 skipV h5) (
j23 (AV.ptr n3 1) h5)
noncomputable def s105 : AV → H → (Str → H → Prop) → Prop := s105G J0 s160 s175
noncomputable def w105 (c : AV → H → (Str → H → Prop) → Prop) : Fun := fun xs h k => arg xs fun a0 xs => noArg xs <| c a0 h fun r0 h => k (.str r0) h
theorem s105_eq (J : Joins) (c160 : AV → H → (AV → H → Prop) → Prop) (c175 : Str → H → (Bool → H → Prop) → Prop) (a0 : AV) (h : H) (k : AV → H → Prop) : denF ty (gam J [(160, w160 c160), (175, w175 c175)]) Tryz.f105 [a0] h k = s105G J c160 c175 a0 h (fun r0 h => k (.str r0) h) := by kernel_rfl
noncomputable def g105 : Fun := w105 s105
theorem g105_ok : FunOk Tryz.prog 105 g105 := (fun_ok ty_ok mixed (gam_ok (J := J0) (tab_cons g160_ok (tab_cons g175_ok (tab_nil fls_fun)))) Tryz.func105 (fun args w => by simp)).imp fun xs h k e0 => by
  obtain ⟨a0, xs0, rfl, e1⟩ := arg_imp e0
  obtain ⟨rfl, e2⟩ := noArg_imp e1
  exact (s105_eq J0 s160 s175 a0 h k).mpr e2
/-- (*stagepost/parser.reader).column -/
noncomputable def g168 : Fun := denFS ty (gam J0 [(63, g63), (105, g105)]) Tryz.f168
theorem g168_ok : FunOk Tryz.prog 168 g168 := fun_okS ty_ok mixed (gam_ok (J := J0) (tab_cons g63_ok (tab_cons g105_ok (tab_nil fls_fun)))) Tryz.func168 (fun args w => by simp)
/-- (*stagepost/parser.reader).selects$2 -/
noncomputable def g167 : Fun := denFS ty (gam J0 [(168, g168)]) Tryz.f167
theorem g167_ok : FunOk Tryz.prog 167 g167 := fun_okS ty_ok mixed (gam_ok (J := J0) (tab_cons g168_ok (tab_nil fls_fun))) Tryz.func167 (fun args w => by simp)
/-- stagepost/parser.aggregates -/
noncomputable def g425 : Fun := denFS ty (gam J0 []) Tryz.f425
theorem g425_ok : FunOk Tryz.prog 425 g425 := fun_okS ty_ok mixed (gam_ok (J := J0) (tab_nil fls_fun)) Tryz.func425 (fun args w => by simp)
/-- stagepost/parser.literal -/
noncomputable def g526 : Fun := denFS ty (gam J0 []) Tryz.f526
theorem g526_ok : FunOk Tryz.prog 526 g526 := fun_okS ty_ok mixed (gam_ok (J := J0) (tab_nil fls_fun)) Tryz.func526 (fun args w => by simp)
/-- stagepost/parser.constants -/
noncomputable def g531 : Fun := denFS ty (gam J0 []) Tryz.f531
theorem g531_ok : FunOk Tryz.prog 531 g531 := fun_okS ty_ok mixed (gam_ok (J := J0) (tab_nil fls_fun)) Tryz.func531 (fun args w => by simp)
/-- (*stagepost/parser.reader).primary$1 -/
noncomputable def g532 : Fun := denFS ty (gam J0 []) Tryz.f532
theorem g532_ok : FunOk Tryz.prog 532 g532 := fun_okS ty_ok mixed (gam_ok (J := J0) (tab_nil fls_fun)) Tryz.func532 (fun args w => by simp)
/-- stagepost/parser.compares -/
noncomputable def g467 : Fun := denFS ty (gam J0 []) Tryz.f467
theorem g467_ok : FunOk Tryz.prog 467 g467 := fun_okS ty_ok mixed (gam_ok (J := J0) (tab_nil fls_fun)) Tryz.func467 (fun args w => by simp)
/-- (*stagepost/parser.reader).names$1 -/
noncomputable def s249G (J : Joins) (c105 : AV → H → (Str → H → Prop) → Prop) (a0 : AV) (a1 : AV) (h : H) (k : H → Prop) : Prop :=
ldV a0 h fun v1 =>
ldV a1 h fun v2 =>
c105 v2 h fun s4 h3 =>
ck (readsSo (aLoad1 a0 h3) v1) (
pushK (.cells false 9 [(AV.str s4)]) h3 fun n5 h6 =>
apC 9 1 16 v1 (AV.slice n5 0 1 1 1 true) h6 fun v7 h8 =>
stV a0 v7 h8 fun h9 =>
k  h9)
noncomputable def s249 : AV → AV → H → (H → Prop) → Prop := s249G J0 s105
noncomputable def w249 (c : AV → AV → H → (H → Prop) → Prop) : Fun := fun xs h k => arg xs fun a0 xs => arg xs fun a1 xs => noArg xs <| c a0 a1 h fun  h => k (.tuple []) h
theorem s249_eq (J : Joins) (c105 : AV → H → (Str → H → Prop) → Prop) (a0 : AV) (a1 : AV) (h : H) (k : AV → H → Prop) : denF ty (gam J [(105, w105 c105)]) Tryz.f249 [a0, a1] h k = s249G J c105 a0 a1 h (fun  h => k (.tuple []) h) := by kernel_rfl
noncomputable def g249 : Fun := w249 s249
theorem g249_ok : FunOk Tryz.prog 249 g249 := (fun_ok ty_ok mixed (gam_ok (J := J0) (tab_cons g105_ok (tab_nil fls_fun))) Tryz.func249 (fun args w => by simp)).imp fun xs h k e0 => by
  obtain ⟨a0, xs0, rfl, e1⟩ := arg_imp e0
  obtain ⟨a1, xs1, rfl, e2⟩ := arg_imp e1
  obtain ⟨rfl, e3⟩ := noArg_imp e2
  exact (s249_eq J0 s105 a0 a1 h k).mpr e3
/-- (*stagepost/parser.writer).expr$1 -/
noncomputable def g420 : Fun := denFS ty (gam J0 []) Tryz.f420
theorem g420_ok : FunOk Tryz.prog 420 g420 := fun_okS ty_ok mixed (gam_ok (J := J0) (tab_nil fls_fun)) Tryz.func420 (fun args w => by simp)
noncomputable def ring162 : Nat → List (Nat × Fun) := fun n => Nat.rec (motive := fun _ => List (Nat × Fun)) [] (fun _ r => [(162, denFS ty (gam J0 ((63, g63) :: (76, g76) :: (167, g167) :: (249, g249) :: (420, g420) :: (532, g532) :: r)) Tryz.f162),
  (163, denFS ty (gam J0 ((63, g63) :: (105, g105) :: r)) Tryz.f163),
  (164, denFS ty (gam J0 (r)) Tryz.f164),
  (247, denFS ty (gam J0 ((160, g160) :: (167, g167) :: (249, g249) :: (420, g420) :: (532, g532) :: r)) Tryz.f247),
  (169, denFS ty (gam J0 ((63, g63) :: r)) Tryz.f169),
  (171, denFS ty (gam J0 ((161, g161) :: r)) Tryz.f171),
  (172, denFS ty (gam J0 (r)) Tryz.f172),
  (248, denFS ty (gam J0 (r)) Tryz.f248),
  (324, denFS ty (gam J0 ((98, g98) :: r)) Tryz.f324),
  (407, denFS ty (gam J0 ((63, g63) :: (160, g160) :: (161, g161) :: (467, g467) :: r)) Tryz.f407),
  (466, denFS ty (gam J0 (r)) Tryz.f466),
  (495, denFS ty (gam J0 (r)) Tryz.f495),
  (512, denFS ty (gam J0 ((98, g98) :: (526, g526) :: r)) Tryz.f512),
  (525, denFS ty (gam J0 ((98, g98) :: (160, g160) :: (168, g168) :: (425, g425) :: (526, g526) :: (531, g531) :: (532, g532) :: r)) Tryz.f525),
  (534, denFS ty (gam J0 ((161, g161) :: r)) Tryz.f534),
  (527, denFS ty (gam J0 (r)) Tryz.f527),
  (409, denFS ty (gam J0 (r)) Tryz.f409)]) n
theorem ring162_ok : ∀ n, TabOk (FunOk Tryz.prog) (ring162 n)
  | 0 => tab_nil fls_fun
  | n + 1 => (tab_cons (fun_okS ty_ok mixed (gam_ok (J := J0) (tab_cons g63_ok (tab_cons g76_ok (tab_cons g167_ok (tab_cons g249_ok (tab_cons g420_ok (tab_cons g532_ok (ring162_ok n)))))))) Tryz.func162 (fun args w => by simp)) 
    (tab_cons (fun_okS ty_ok mixed (gam_ok (J := J0) (tab_cons g63_ok (tab_cons g105_ok (ring162_ok n)))) Tryz.func163 (fun args w => by simp)) 
    (tab_cons (fun_okS ty_ok mixed (gam_ok (J := J0) (ring162_ok n)) Tryz.func164 (fun args w => by simp)) 
    (tab_cons (fun_okS ty_ok mixed (gam_ok (J := J0) (tab_cons g160_ok (tab_cons g167_ok (tab_cons g249_ok (tab_cons g420_ok (tab_cons g532_ok (ring162_ok n))))))) Tryz.func247 (fun args w => by simp)) 
    (tab_cons (fun_okS ty_ok mixed (gam_ok (J := J0) (tab_cons g63_ok (ring162_ok n))) Tryz.func169 (fun args w => by simp)) 
    (tab_cons (fun_okS ty_ok mixed (gam_ok (J := J0) (tab_cons g161_ok (ring162_ok n))) Tryz.func171 (fun args w => by simp)) 
    (tab_cons (fun_okS ty_ok mixed (gam_ok (J := J0) (ring162_ok n)) Tryz.func172 (fun args w => by simp)) 
    (tab_cons (fun_okS ty_ok mixed (gam_ok (J := J0) (ring162_ok n)) Tryz.func248 (fun args w => by simp)) 
    (tab_cons (fun_okS ty_ok mixed (gam_ok (J := J0) (tab_cons g98_ok (ring162_ok n))) Tryz.func324 (fun args w => by simp)) 
    (tab_cons (fun_okS ty_ok mixed (gam_ok (J := J0) (tab_cons g63_ok (tab_cons g160_ok (tab_cons g161_ok (tab_cons g467_ok (ring162_ok n)))))) Tryz.func407 (fun args w => by simp)) 
    (tab_cons (fun_okS ty_ok mixed (gam_ok (J := J0) (ring162_ok n)) Tryz.func466 (fun args w => by simp)) 
    (tab_cons (fun_okS ty_ok mixed (gam_ok (J := J0) (ring162_ok n)) Tryz.func495 (fun args w => by simp)) 
    (tab_cons (fun_okS ty_ok mixed (gam_ok (J := J0) (tab_cons g98_ok (tab_cons g526_ok (ring162_ok n)))) Tryz.func512 (fun args w => by simp)) 
    (tab_cons (fun_okS ty_ok mixed (gam_ok (J := J0) (tab_cons g98_ok (tab_cons g160_ok (tab_cons g168_ok (tab_cons g425_ok (tab_cons g526_ok (tab_cons g531_ok (tab_cons g532_ok (ring162_ok n))))))))) Tryz.func525 (fun args w => by simp)) 
    (tab_cons (fun_okS ty_ok mixed (gam_ok (J := J0) (tab_cons g161_ok (ring162_ok n))) Tryz.func534 (fun args w => by simp)) 
    (tab_cons (fun_okS ty_ok mixed (gam_ok (J := J0) (ring162_ok n)) Tryz.func527 (fun args w => by simp)) 
    (tab_cons (fun_okS ty_ok mixed (gam_ok (J := J0) (ring162_ok n)) Tryz.func409 (fun args w => by simp)) (tab_nil fls_fun))))))))))))))))))
/-- (*stagepost/parser.reader).many -/
noncomputable def g162 : Fun := tab (ring162 24) 162
theorem g162_ok : FunOk Tryz.prog 162 g162 := ring162_ok 24 162
/-- (*stagepost/parser.reader).selects$1 -/
noncomputable def g163 : Fun := tab (ring162 24) 163
theorem g163_ok : FunOk Tryz.prog 163 g163 := ring162_ok 24 163
/-- (*stagepost/parser.reader).expr -/
noncomputable def g164 : Fun := tab (ring162 24) 164
theorem g164_ok : FunOk Tryz.prog 164 g164 := ring162_ok 24 164
/-- (*stagepost/parser.reader).chain -/
noncomputable def g247 : Fun := tab (ring162 24) 247
theorem g247_ok : FunOk Tryz.prog 247 g247 := ring162_ok 24 247
/-- (*stagepost/parser.reader).selects$3 -/
noncomputable def g169 : Fun := tab (ring162 24) 169
theorem g169_ok : FunOk Tryz.prog 169 g169 := ring162_ok 24 169
/-- (*stagepost/parser.reader).insert$1 -/
noncomputable def g171 : Fun := tab (ring162 24) 171
theorem g171_ok : FunOk Tryz.prog 171 g171 := ring162_ok 24 171
/-- (*stagepost/parser.reader).insert$1$1 -/
noncomputable def g172 : Fun := tab (ring162 24) 172
theorem g172_ok : FunOk Tryz.prog 172 g172 := ring162_ok 24 172
/-- (*stagepost/parser.reader).and -/
noncomputable def g248 : Fun := tab (ring162 24) 248
theorem g248_ok : FunOk Tryz.prog 248 g248 := ring162_ok 24 248
/-- (*stagepost/parser.reader).not -/
noncomputable def g324 : Fun := tab (ring162 24) 324
theorem g324_ok : FunOk Tryz.prog 324 g324 := ring162_ok 24 324
/-- (*stagepost/parser.reader).compare -/
noncomputable def g407 : Fun := tab (ring162 24) 407
theorem g407_ok : FunOk Tryz.prog 407 g407 := ring162_ok 24 407
/-- (*stagepost/parser.reader).sum -/
noncomputable def g466 : Fun := tab (ring162 24) 466
theorem g466_ok : FunOk Tryz.prog 466 g466 := ring162_ok 24 466
/-- (*stagepost/parser.reader).product -/
noncomputable def g495 : Fun := tab (ring162 24) 495
theorem g495_ok : FunOk Tryz.prog 495 g495 := ring162_ok 24 495
/-- (*stagepost/parser.reader).unary -/
noncomputable def g512 : Fun := tab (ring162 24) 512
theorem g512_ok : FunOk Tryz.prog 512 g512 := ring162_ok 24 512
/-- (*stagepost/parser.reader).primary -/
noncomputable def g525 : Fun := tab (ring162 24) 525
theorem g525_ok : FunOk Tryz.prog 525 g525 := ring162_ok 24 525
/-- (*stagepost/parser.reader).primary$2 -/
noncomputable def g534 : Fun := tab (ring162 24) 534
theorem g534_ok : FunOk Tryz.prog 534 g534 := ring162_ok 24 534
/-- (*stagepost/parser.reader).unary$1 -/
noncomputable def g527 : Fun := tab (ring162 24) 527
theorem g527_ok : FunOk Tryz.prog 527 g527 := ring162_ok 24 527
/-- (*stagepost/parser.reader).not$1 -/
noncomputable def g409 : Fun := tab (ring162 24) 409
theorem g409_ok : FunOk Tryz.prog 409 g409 := ring162_ok 24 409
/-- (*stagepost/parser.reader).source -/
noncomputable def g165 : Fun := denFS ty (gam J0 [(63, g63), (105, g105), (161, g161), (164, g164)]) Tryz.f165
theorem g165_ok : FunOk Tryz.prog 165 g165 := fun_okS ty_ok mixed (gam_ok (J := J0) (tab_cons g63_ok (tab_cons g105_ok (tab_cons g161_ok (tab_cons g164_ok (tab_nil fls_fun)))))) Tryz.func165 (fun args w => by simp)
/-- (*stagepost/parser.reader).where -/
noncomputable def g166 : Fun := denFS ty (gam J0 [(63, g63), (164, g164)]) Tryz.f166
theorem g166_ok : FunOk Tryz.prog 166 g166 := fun_okS ty_ok mixed (gam_ok (J := J0) (tab_cons g63_ok (tab_cons g164_ok (tab_nil fls_fun)))) Tryz.func166 (fun args w => by simp)
/-- (*stagepost/parser.reader).selects -/
noncomputable def g99 : Fun := denFS ty (gam J0 [(63, g63), (76, g76), (160, g160), (161, g161), (162, g162), (163, g163), (165, g165), (166, g166), (167, g167), (169, g169)]) Tryz.f99
theorem g99_ok : FunOk Tryz.prog 99 g99 := fun_okS ty_ok mixed (gam_ok (J := J0) (tab_cons g63_ok (tab_cons g76_ok (tab_cons g160_ok (tab_cons g161_ok (tab_cons g162_ok (tab_cons g163_ok (tab_cons g165_ok (tab_cons g166_ok (tab_cons g167_ok (tab_cons g169_ok (tab_nil fls_fun)))))))))))) Tryz.func99 (fun args w => by simp)
/-- (*stagepost/parser.reader).names -/
noncomputable def s170G (J : Joins) (c161 : AV → AV → H → (H → Prop) → Prop) (c162 : Fun) (c249 : AV → AV → H → (H → Prop) → Prop) (a0 : AV) (a1 : Int) (h : H) (k : AV → H → Prop) : Prop :=
ck (isOne a0) (
pushK (.cells false 170 [a0]) h fun n1 h2 =>
pushK (.cells false 26 [(.nils)]) h2 fun n3 h4 =>
ldV (AV.ptr n1 0) h4 fun v5 =>
pushK (.cells false 9 [(AV.str ⟨1, 40⟩)]) h4 fun n6 h7 =>
c161 v5 (AV.slice n6 0 1 1 1 true) h7 fun  h8 =>
ldV (AV.ptr n1 0) h8 fun v9 =>
c162 [v9, (AV.int .i64 a1), (AV.func (.func 249) [] [(AV.ptr n3 0), (AV.ptr n1 0)])] h8 fun v10 h11 =>
ldV (AV.ptr n1 0) h11 fun v12 =>
pushK (.cells false 9 [(AV.str ⟨1, 41⟩)]) h11 fun n13 h14 =>
c161 v12 (AV.slice n13 0 1 1 1 true) h14 fun  h15 =>
ldV (AV.ptr n3 0) h15 fun v16 =>
k v16 h15)
noncomputable def s170 : AV → Int → H → (AV → H → Prop) → Prop := s170G J0 s161 g162 s249
noncomputable def w170 (c : AV → Int → H → (AV → H → Prop) → Prop) : Fun := fun xs h k => arg xs fun a0 xs => arg xs fun a1 xs => noArg xs <| asI .i64 a1 fun a1 => c a0 a1 h fun r0 h => k r0 h
theorem s170_eq (J : Joins) (c161 : AV → AV → H → (H → Prop) → Prop) (c162 : Fun) (c249 : AV → AV → H → (H → Prop) → Prop) (a0 : AV) (a1 : Int) (h : H) (k : AV → H → Prop) : denF ty (gam J [(161, w161 c161), (162, c162), (249, w249 c249)]) Tryz.f170 [a0, (.int .i64 a1)] h k = s170G J c161 c162 c249 a0 a1 h (fun r0 h => k r0 h) := by kernel_rfl
noncomputable def g170 : Fun := w170 s170
theorem g170_ok : FunOk Tryz.prog 170 g170 := (fun_ok ty_ok mixed (gam_ok (J := J0) (tab_cons g161_ok (tab_cons g162_ok (tab_cons g249_ok (tab_nil fls_fun))))) Tryz.func170 (fun args w => by simp)).imp fun xs h k e0 => by
  obtain ⟨a0, xs0, rfl, e1⟩ := arg_imp e0
  obtain ⟨a1, xs1, rfl, e2⟩ := arg_imp e1
  obtain ⟨rfl, e3⟩ := noArg_imp e2
  obtain ⟨a1, rfl, e4⟩ := asI_iff.1 e3
  exact (s170_eq J0 s161 g162 s249 a0 a1 h k).mpr e4
/-- (*stagepost/parser.reader).insert -/
noncomputable def g100 : Fun := denFS ty (gam J0 [(98, g98), (105, g105), (161, g161), (162, g162), (170, g170), (171, g171)]) Tryz.f100
theorem g100_ok : FunOk Tryz.prog 100 g100 := fun_okS ty_ok mixed (gam_ok (J := J0) (tab_cons g98_ok (tab_cons g105_ok (tab_cons g161_ok (tab_cons g162_ok (tab_cons g170_ok (tab_cons g171_ok (tab_nil fls_fun)))))))) Tryz.func100 (fun args w => by simp)
/-- stagepost/parser.kinds -/
noncomputable def g174 : Fun := denFS ty (gam J0 []) Tryz.f174
theorem g174_ok : FunOk Tryz.prog 174 g174 := fun_okS ty_ok mixed (gam_ok (J := J0) (tab_nil fls_fun)) Tryz.func174 (fun args w => by simp)
/-- (*stagepost/parser.reader).table -/
noncomputable def s103G (J : Joins) (c63 : AV → Str → H → (Bool → H → Prop) → Prop) (c76 : AV → Int → Int → H → (H → Prop) → Prop) (c105 : AV → H → (Str → H → Prop) → Prop) (c160 : AV → H → (AV → H → Prop) → Prop) (c161 : AV → AV → H → (H → Prop) → Prop) (c170 : AV → Int → H → (AV → H → Prop) → Prop) (c174 : Fun) (a0 : AV) (h : H) (k : AV → H → Prop) : Prop :=
pushK (.cells false 89 [(.int .u8 0), (.str ⟨0, 0⟩), (.str ⟨0, 0⟩), (.nils), (.nils), (.bool false), (.nils), (.nils), (.nils), (.nils), (.int .u8 0), (.int .u8 0), (.int .i64 0), (.str ⟨0, 0⟩), (.str ⟨0, 0⟩), (.str ⟨0, 0⟩), (.int .i64 0), (.int .u8 0), (.nils), (.nils), (.nils), (.int .i64 0), (.nils)]) h fun n1 h2 =>
pushK (.cells false 9 [(AV.str ⟨5, 499850046565⟩)]) h2 fun n3 h4 =>
c161 a0 (AV.slice n3 0 1 1 1 true) h4 fun  h5 =>
c105 a0 h5 fun s7 h6 =>
pushK (.cells false 89 [(.int .u8 0), (.str ⟨0, 0⟩), (.str ⟨0, 0⟩), (.nils), (.nils), (.bool false), (.nils), (.nils), (.nils), (.nils), (.int .u8 0), (.int .u8 0), (.int .i64 0), (.str ⟨0, 0⟩), (.str ⟨0, 0⟩), (.str ⟨0, 0⟩), (.int .i64 0), (.int .u8 0), (.nils), (.nils), (.nils), (.int .i64 0), (.nils)]) h6 fun n8 h9 =>
stN 23 (AV.ptr n8 0) [(AV.int .u8 (Int.ofNat 5)), (AV.str s7), (.str ⟨0, 0⟩), (.nils), (.nils), (.bool false), (.nils), (.nils), (.nils), (.nils), (.int .u8 0), (.int .u8 0), (.int .i64 0), (.str ⟨0, 0⟩), (.str ⟨0, 0⟩), (.str ⟨0, 0⟩), (.int .i64 0), (.int .u8 0), (.nils), (.nils), (.nils), (.int .i64 0), (.nils)] h9 fun h10 =>
pushK (.cells false 9 [(AV.str ⟨1, 40⟩)]) h10 fun n11 h12 =>
c161 a0 (AV.slice n11 0 1 1 1 true) h12 fun  h13 =>
J.lp (α := AV × AV × AV × Unit) (fun r17 v14 d15 h16 =>
faK 3 v14.2.2.1 fun p18 =>
ldV p18 h16 fun v19 =>
lenK v19 fun x20 =>
fB (ltI (Int.ofNat 0) (Int.ofNat x20)) fun b21 =>
J.jn (fun v22 h23 =>
J.jn (fun v25 h26 =>
pickB (AV.bool b21) v25 (AV.bool false) fun b30 =>
br b30 (
pushK (.cells false 9 [(AV.str ⟨3, 7038329⟩)]) h26 fun n31 h32 =>
c161 v14.1 (AV.slice n31 0 1 1 1 true) h32 fun  h33 =>
c170 v14.1 (Int.ofNat 4) h33 fun v35 h34 =>
faK 4 v14.2.2.1 fun p36 =>
stV p36 v35 h34 fun h37 =>
pushK (.cells false 9 [(AV.str ⟨1, 41⟩)]) h37 fun n38 h39 =>
c161 v14.1 (AV.slice n38 0 1 1 1 true) h39 fun  h40 =>
ldN 23 v14.2.2.1 h40 fun l41 =>
stN 23 v14.2.1 l41 h40 fun h42 =>
leaveK (gam J [(63, w63 c63), (76, w76 c76), (105, w105 c105), (160, w160 c160), (161, w161 c161), (170, w170 c170), (174, c174)]) d15 h42 fun h43 =>
ldN 23 v14.2.1 h43 fun l44 =>
k (AV.agg l44) h43) (
faK 3 v14.2.2.1 fun p45 =>
ldV p45 h26 fun v46 =>
lenK v46 fun x47 =>
c76 v14.1 (Int.ofNat x47) (Int.ofNat 12) h26 fun  h48 =>
c105 v14.1 h48 fun s50 h49 =>
pushK (.cells false 195 [(.str ⟨0, 0⟩), (.int .u8 0), (.bool false)]) h49 fun n51 h52 =>
stN 3 (AV.ptr n51 0) [(AV.str s50), (.int .u8 0), (.bool false)] h52 fun h53 =>
c174 [] h53 fun v54 h55 =>
c160 v14.1 h55 fun v57 h56 =>
Go.Am.asAgg v57 fun l58 =>
op' (lgetO l58 1) fun v59 =>
asS v59 fun s60 =>
op' (aLookup ty 9 80 true v54 (AV.str s60) h56) fun v61 =>
asTup v61 fun l62 =>
op' (lgetO l62 0) fun v63 =>
asI .u8 v63 fun x64 =>
asTup v61 fun l65 =>
op' (lgetO l65 1) fun v66 =>
asB v66 fun b67 =>
J.jd (α := AV × AV × AV × AV × AV × Unit) (fun v68 d69 h70 =>
okNil v68.1 (
faK 1 v68.1 fun p72 =>
ldI .i64 p72 h70 fun x73 =>
fI (wrapF .i64 (Int.add x73 (Int.ofNat 1))) fun x74 =>
okNil v68.1 (
faK 1 v68.1 fun p75 =>
stV p75 (AV.int .i64 x74) h70 fun h76 =>
faK 1 v68.2.2.2.1 fun p77 =>
stV p77 v68.2.2.2.2.1 h76 fun h78 =>
J.jd (α := AV × AV × AV × AV × Unit) (fun v79 d80 h81 =>
faK 3 v79.2.2.1 fun p83 =>
ldV p83 h81 fun v84 =>
ldN 3 v79.2.2.2.1 h81 fun l85 =>
ck (Nat.beq (List.length l85) 3) (op' (lputAt 0 l85 [(.str ⟨0, 0⟩), (.int .u8 0), (.bool false)]) fun l88 =>
pushK (.cells false 195 l88) h81 fun n86 h87 =>
apC 195 3 24 v84 (AV.slice n86 0 1 1 3 true) h87 fun v89 h90 =>
faK 3 v79.2.2.1 fun p91 =>
stV p91 v89 h90 fun h92 =>
pushK (.cells false 9 [(AV.str ⟨1, 44⟩)]) h92 fun n93 h94 =>
c161 v79.1 (AV.slice n93 0 1 1 1 true) h94 fun  h95 =>
r17 (v79.1, v79.2.1, v79.2.2.1, ()) d80 h95)) fun j82 =>
c63 v68.1 ⟨3, 7237492⟩ h78 fun b97 h96 =>
br b97 (
pushK (.cells false 9 [(AV.str ⟨4, 1853189228⟩)]) h96 fun n98 h99 =>
c161 v68.1 (AV.slice n98 0 1 1 1 true) h99 fun  h100 =>
faK 2 v68.2.2.2.1 fun p101 =>
stV p101 (AV.bool true) h100 fun h102 =>
j82 (v68.1, v68.2.1, v68.2.2.1, v68.2.2.2.1, ()) d69 h102) (
j82 (v68.1, v68.2.1, v68.2.2.1, v68.2.2.2.1, ()) d69 h96)))) fun j71 =>
fB (Bool.not b67) fun b103 =>
J.jn (fun v104 h105 =>
J.jn (fun v107 h108 =>
J.jn (fun v112 h113 =>
J.jn (fun v118 h119 =>
pickB (AV.bool b103) (AV.bool true) v118 fun b123 =>
br b123 (
False) (
j71 (v14.1, v14.2.1, v14.2.2.1, (AV.ptr n51 0), (AV.int .u8 x64), ()) d15 h119)) fun j120 =>
br b103 (
j120 skipV h113) (
asI .u8 v112 fun x121 =>
fB (Bool.not (eqI x121 (Int.ofNat 1))) fun b122 =>
j120 (AV.bool b122) h113)) fun j114 =>
br b103 (
j114 skipV h108) (
Go.Am.asAgg v107 fun l115 =>
op' (lgetO l115 0) fun v116 =>
asI .u8 v116 fun x117 =>
j114 (AV.int .u8 x117) h108)) fun j109 =>
br b103 (
j109 skipV h105) (
c160 v104 h105 fun v111 h110 =>
j109 v111 h110)) fun j106 =>
br b103 (
j106 skipV h56) (
j106 v14.1 h56))) fun j27 =>
br b21 (
c63 v22 ⟨7, 31650994523828857⟩ h23 fun b29 h28 =>
j27 (AV.bool b29) h28) (
j27 skipV h23)) fun j24 =>
br b21 (
j24 v14.1 h16) (
j24 skipV h16)) (a0, (AV.ptr n1 0), (AV.ptr n8 0), ()) [] h13
noncomputable def s103 : AV → H → (AV → H → Prop) → Prop := s103G J0 s63 s76 s105 s160 s161 s170 g174
noncomputable def w103 (c : AV → H → (AV → H → Prop) → Prop) : Fun := fun xs h k => arg xs fun a0 xs => noArg xs <| c a0 h fun r0 h => k r0 h
theorem s103_eq (J : Joins) (c63 : AV → Str → H → (Bool → H → Prop) → Prop) (c76 : AV → Int → Int → H → (H → Prop) → Prop) (c105 : AV → H → (Str → H → Prop) → Prop) (c160 : AV → H → (AV → H → Prop) → Prop) (c161 : AV → AV → H → (H → Prop) → Prop) (c170 : AV → Int → H → (AV → H → Prop) → Prop) (c174 : Fun) (a0 : AV) (h : H) (k : AV → H → Prop) : denF ty (gam J [(63, w63 c63), (76, w76 c76), (105, w105 c105), (160, w160 c160), (161, w161 c161), (170, w170 c170), (174, c174)]) Tryz.f103 [a0] h k = s103G J c63 c76 c105 c160 c161 c170 c174 a0 h (fun r0 h => k r0 h) := by kernel_rfl
noncomputable def g103 : Fun := w103 s103
theorem g103_ok : FunOk Tryz.prog 103 g103 := (fun_ok ty_ok mixed (gam_ok (J := J0) (tab_cons g63_ok (tab_cons g76_ok (tab_cons g105_ok (tab_cons g160_ok (tab_cons g161_ok (tab_cons g170_ok (tab_cons g174_ok (tab_nil fls_fun))))))))) Tryz.func103 (fun args w => by simp)).imp fun xs h k e0 => by
  obtain ⟨a0, xs0, rfl, e1⟩ := arg_imp e0
  obtain ⟨rfl, e2⟩ := noArg_imp e1
  exact (s103_eq J0 s63 s76 s105 s160 s161 s170 g174 a0 h k).mpr e2
end Go.Proofs.YtgpndbkghmbacaaGreatDoor
