/- Functions as they are reckoned. MADE BY PROGRAM (wip/tools/shal.py). -/
import Derived.Test.YtiejkbmobmgdkaaAmTys
namespace Go.Proofs.Ytiejkbmobmgdkaa
open Go Go.Am
set_option maxRecDepth 100000
set_option linter.all false
/-- stagepost/vfs.New -/
noncomputable def s10G (J : Joins) (a0 : Int) (h : H) (k : AV → Int → H → Prop) : Prop :=
fB (ltI a0 (Int.ofNat 0)) fun b1 =>
J.jn (fun v2 h3 =>
J.jn (fun v5 h6 =>
pickB (AV.bool b1) (AV.bool true) v5 fun b10 =>
br b10 (
k AV.nilp (Int.ofNat 2) h6) (
pushK (.smap []) h6 fun n11 h12 =>
pushK (.smap []) h12 fun n13 h14 =>
ck (Nat.beq (List.length [(AV.map n11), (AV.map n13)]) 2) (op' (lputAt 0 [(AV.map n11), (AV.map n13)] [(.nilm), (.nilm), (.nils), (.int .i64 0), (.int .i64 0), (.bool false), (.bool false), (.int .i64 0), (.int .i64 0), (.bool false)]) fun l15 =>
op' (lputAt 3 [(AV.int .i64 a0)] l15) fun l16 =>
op' (lputAt 9 [(AV.bool true)] l16) fun l17 =>
pushK (.cells false 60 l17) h14 fun n18 h19 =>
k (AV.ptr n18 0) (Int.ofNat 0) h19))) fun j7 =>
br b1 (
j7 skipV h3) (
asI .i64 v2 fun x8 =>
fB (ltI (Int.ofNat 1073741824) x8) fun b9 =>
j7 (AV.bool b9) h3)) fun j4 =>
br b1 (
j4 skipV h) (
j4 (AV.int .i64 a0) h)
noncomputable def s10 : Int → H → (AV → Int → H → Prop) → Prop := s10G J0 
noncomputable def w10 (c : Int → H → (AV → Int → H → Prop) → Prop) : Fun := fun xs h k => arg xs fun a0 xs => noArg xs <| asI .i64 a0 fun a0 => c a0 h fun r0 r1 h => k (.tuple [r0, (.int .i64 r1)]) h
theorem s10_eq (J : Joins) (a0 : Int) (h : H) (k : AV → H → Prop) : denF ty (gam J []) Try.f10 [(.int .i64 a0)] h k = s10G J  a0 h (fun r0 r1 h => k (.tuple [r0, (.int .i64 r1)]) h) := by kernel_rfl
noncomputable def g10 : Fun := w10 s10
theorem g10_ok : FunOk Try.prog 10 g10 := (fun_ok ty_ok mixed (gam_ok (J := J0) (tab_nil fls_fun)) Try.func10 (fun args w => by simp)).imp fun xs h k e0 => by
  obtain ⟨a0, xs0, rfl, e1⟩ := arg_imp e0
  obtain ⟨rfl, e2⟩ := noArg_imp e1
  obtain ⟨a0, rfl, e3⟩ := asI_iff.1 e2
  exact (s10_eq J0  a0 h k).mpr e3
/-- stagepost/vfs.named -/
noncomputable def s46G (J : Joins) (a0 : Str) (h : H) (k : Bool → H → Prop) : Prop :=
fB (Str.beq a0 (⟨0, 0⟩ : Str)) fun b1 =>
J.jn (fun v2 h3 =>
J.jn (fun v5 h6 =>
J.jn (fun v9 h10 =>
pickB (AV.bool b1) (AV.bool true) v9 fun b14 =>
br b14 (
k false h10) (
J.lp (α := AV × AV × AV × Unit) (fun r18 v15 d16 h17 =>
asI .i64 v15.2.2.1 fun x19 =>
asI .i64 v15.2.1 fun x20 =>
fB (ltI x19 x20) fun b21 =>
br b21 (
ixsK v15.1 v15.2.2.1 fun x22 =>
fB (ltI x22 (Int.ofNat 33)) fun b23 =>
J.jn (fun v24 h25 =>
J.jn (fun v27 h28 =>
J.jn (fun v30 h31 =>
J.jn (fun v34 h35 =>
pickB (AV.bool b23) (AV.bool true) v34 fun b39 =>
br b39 (
leaveK (gam J []) d16 h35 fun h40 =>
k false h40) (
asI .i64 v15.2.2.1 fun x41 =>
fI (wrapF .i64 (Int.add x41 (Int.ofNat 1))) fun x42 =>
r18 (v15.1, v15.2.1, (AV.int .i64 x42), ()) d16 h35)) fun j36 =>
br b23 (
j36 skipV h31) (
asI .u8 v30 fun x37 =>
fB (ltI (Int.ofNat 126) x37) fun b38 =>
j36 (AV.bool b38) h31)) fun j32 =>
br b23 (
j32 skipV h28) (
ixsK v24 v27 fun x33 =>
j32 (AV.int .u8 x33) h28)) fun j29 =>
br b23 (
j29 skipV h25) (
j29 v15.2.2.1 h25)) fun j26 =>
br b23 (
j26 skipV h17) (
j26 v15.1 h17)) (
leaveK (gam J []) d16 h17 fun h43 =>
k true h43)) ((AV.str a0), (AV.int .i64 (Int.ofNat a0.len)), (AV.int .i64 (Int.ofNat 0)), ()) [] h10)) fun j11 =>
br b1 (
j11 skipV h6) (
asI .i64 v5 fun x12 =>
fB (ltI (Int.ofNat 32) x12) fun b13 =>
j11 (AV.bool b13) h6)) fun j7 =>
br b1 (
j7 skipV h3) (
asS v2 fun s8 =>
j7 (AV.int .i64 (Int.ofNat s8.len)) h3)) fun j4 =>
br b1 (
j4 skipV h) (
j4 (AV.str a0) h)
noncomputable def s46 : Str → H → (Bool → H → Prop) → Prop := s46G J0 
noncomputable def w46 (c : Str → H → (Bool → H → Prop) → Prop) : Fun := fun xs h k => arg xs fun a0 xs => noArg xs <| asS a0 fun a0 => c a0 h fun r0 h => k (.bool r0) h
theorem s46_eq (J : Joins) (a0 : Str) (h : H) (k : AV → H → Prop) : denF ty (gam J []) Try.f46 [(.str a0)] h k = s46G J  a0 h (fun r0 h => k (.bool r0) h) := by kernel_rfl
noncomputable def g46 : Fun := w46 s46
theorem g46_ok : FunOk Try.prog 46 g46 := (fun_ok ty_ok mixed (gam_ok (J := J0) (tab_nil fls_fun)) Try.func46 (fun args w => by simp)).imp fun xs h k e0 => by
  obtain ⟨a0, xs0, rfl, e1⟩ := arg_imp e0
  obtain ⟨rfl, e2⟩ := noArg_imp e1
  obtain ⟨a0, rfl, e3⟩ := asS_iff.1 e2
  exact (s46_eq J0  a0 h k).mpr e3
/-- (*stagepost/vfs.FS).asked -/
noncomputable def s34G (J : Joins) (c46 : Str → H → (Bool → H → Prop) → Prop) (a0 : AV) (a1 : AV) (h : H) (k : Int → H → Prop) : Prop :=
nilB 0 a0 fun b1 =>
J.jn (fun v2 h3 =>
J.jn (fun v5 h6 =>
J.jn (fun v8 h9 =>
J.jn (fun v12 h13 =>
J.jn (fun v16 h17 =>
pickB (AV.bool b1) (AV.bool true) v16 fun b21 =>
br b21 (
k (Int.ofNat 1) h17) (
okNil a0 (
faK 5 a0 fun p22 =>
ldB p22 h17 fun b23 =>
br b23 (
k (Int.ofNat 7) h17) (
lenK a1 fun x24 =>
J.lp (α := AV × AV × AV × Unit) (fun r28 v25 d26 h27 =>
asI .i64 v25.2.2.1 fun x29 =>
asI .i64 v25.2.1 fun x30 =>
fB (ltI x29 x30) fun b31 =>
br b31 (
ixK 1 v25.1 v25.2.2.1 fun p32 =>
ldS p32 h27 fun s33 =>
c46 s33 h27 fun b35 h34 =>
fB (Bool.not b35) fun b36 =>
br b36 (
leaveK (gam J [(46, w46 c46)]) d26 h34 fun h37 =>
k (Int.ofNat 2) h37) (
asI .i64 v25.2.2.1 fun x38 =>
fI (wrapF .i64 (Int.add x38 (Int.ofNat 1))) fun x39 =>
r28 (v25.1, v25.2.1, (AV.int .i64 x39), ()) d26 h34)) (
leaveK (gam J [(46, w46 c46)]) d26 h27 fun h40 =>
k (Int.ofNat 0) h40)) (a1, (AV.int .i64 (Int.ofNat x24)), (AV.int .i64 (Int.ofNat 0)), ()) [] h17)))) fun j18 =>
br b1 (
j18 skipV h13) (
asB v12 fun b19 =>
fB (Bool.not b19) fun b20 =>
j18 (AV.bool b20) h13)) fun j14 =>
br b1 (
j14 skipV h9) (
ldB v8 h9 fun b15 =>
j14 (AV.bool b15) h9)) fun j10 =>
br b1 (
j10 skipV h6) (
faK 9 v5 fun p11 =>
j10 p11 h6)) fun j7 =>
br b1 (
j7 skipV h3) (
okNil v2 (
j7 v2 h3))) fun j4 =>
br b1 (
j4 skipV h) (
j4 a0 h)
noncomputable def s34 : AV → AV → H → (Int → H → Prop) → Prop := s34G J0 s46
noncomputable def w34 (c : AV → AV → H → (Int → H → Prop) → Prop) : Fun := fun xs h k => arg xs fun a0 xs => arg xs fun a1 xs => noArg xs <| c a0 a1 h fun r0 h => k (.int .i64 r0) h
theorem s34_eq (J : Joins) (c46 : Str → H → (Bool → H → Prop) → Prop) (a0 : AV) (a1 : AV) (h : H) (k : AV → H → Prop) : denF ty (gam J [(46, w46 c46)]) Try.f34 [a0, a1] h k = s34G J c46 a0 a1 h (fun r0 h => k (.int .i64 r0) h) := by kernel_rfl
noncomputable def g34 : Fun := w34 s34
theorem g34_ok : FunOk Try.prog 34 g34 := (fun_ok ty_ok mixed (gam_ok (J := J0) (tab_cons g46_ok (tab_nil fls_fun))) Try.func34 (fun args w => by simp)).imp fun xs h k e0 => by
  obtain ⟨a0, xs0, rfl, e1⟩ := arg_imp e0
  obtain ⟨a1, xs1, rfl, e2⟩ := arg_imp e1
  obtain ⟨rfl, e3⟩ := noArg_imp e2
  exact (s34_eq J0 s46 a0 a1 h k).mpr e3
/-- s34, of which less may be asked -/
def up34 : AV → AV → H → (Int → H → Prop) → Prop := fun a0 a1 h k => ∃ K : Int → H → Prop, s34 a0 a1 h K ∧ ∀ r0 h', K r0 h' → k r0 h'
theorem up34_ok : FunOk Try.prog 34 (w34 up34) := g34_ok.up fun xs h k e0 => by
  obtain ⟨a0, xs0, rfl, e1⟩ := arg_imp e0
  obtain ⟨a1, xs1, rfl, e2⟩ := arg_imp e1
  obtain ⟨rfl, e3⟩ := noArg_imp e2
  obtain ⟨K, q1, q2⟩ := e3
  refine ⟨fun r h' => ∃ r0, r = (.int .i64 r0) ∧ K r0 h', ?_, ?_⟩
  · have hK : (fun r0 h' => ∃ r0', ((.int .i64 r0) : AV) = (.int .i64 r0') ∧ K r0' h') = K := by funext r0 h'; apply propext; simp
    exact (congrArg (s34 a0 a1 h) hK).mpr q1
  · rintro r h' ⟨r0, rfl, q3⟩; exact q2 _ _ q3
/-- slices.Clone[[]byte,byte] -/
noncomputable def s42G (J : Joins) (a0 : AV) (h : H) (k : AV → H → Prop) : Prop :=
nilB 2 a0 fun b1 =>
br b1 (
k AV.nils h) (
op' (asRow true 5 []) fun k4 =>
pushK k4 h fun n2 h3 =>
apB (.slice 5) 5 (AV.slice n2 0 0 0 1 true) a0 h3 fun v5 h6 =>
k v5 h6)
noncomputable def s42 : AV → H → (AV → H → Prop) → Prop := s42G J0 
noncomputable def w42 (c : AV → H → (AV → H → Prop) → Prop) : Fun := fun xs h k => arg xs fun a0 xs => noArg xs <| c a0 h fun r0 h => k r0 h
theorem s42_eq (J : Joins) (a0 : AV) (h : H) (k : AV → H → Prop) : denF ty (gam J []) Try.f42 [a0] h k = s42G J  a0 h (fun r0 h => k r0 h) := by kernel_rfl
noncomputable def g42 : Fun := w42 s42
theorem g42_ok : FunOk Try.prog 42 g42 := (fun_ok ty_ok mixed (gam_ok (J := J0) (tab_nil fls_fun)) Try.func42 (fun args w => by simp)).imp fun xs h k e0 => by
  obtain ⟨a0, xs0, rfl, e1⟩ := arg_imp e0
  obtain ⟨rfl, e2⟩ := noArg_imp e1
  exact (s42_eq J0  a0 h k).mpr e2
/-- (stagepost/vfs.tree).done -/
noncomputable def s43G (J : Joins) (c42 : AV → H → (AV → H → Prop) → Prop) (a0 : AV) (a1 : AV) (h : H) (k : H → Prop) : Prop :=
Go.Am.asAgg a0 fun l3 =>
pushK (.cells false 57 l3) h fun n1 h2 =>
Go.Am.asAgg a1 fun l6 =>
pushK (.cells false 71 l6) h2 fun n4 h5 =>
ldI .i64 (AV.ptr n4 0) h5 fun x7 =>
fB (eqI x7 (Int.ofNat 0)) fun b8 =>
br b8 (
ldV (AV.ptr n1 0) h5 fun v9 =>
ldI .i64 (AV.ptr n4 3) h5 fun x10 =>
ldV (AV.ptr n1 0) h5 fun v11 =>
ldI .i64 (AV.ptr n4 3) h5 fun x12 =>
op' (aLookup ty 3 31 false v11 (AV.int .i64 x12) h5) fun v13 =>
ldV (AV.ptr n4 4) h5 fun v14 =>
c42 v13 h5 fun v16 h15 =>
ck (readsSo (aLoad1 (AV.ptr n4 4) h15) v14) (
ck (readsSo (aLoad1 (AV.ptr n4 3) h15) (AV.int .i64 x10)) (
ck (readsSo (aLoad1 (AV.ptr n1 0) h15) v9) (
apB (.slice 5) 5 v16 v14 h15 fun v17 h18 =>
ck (readsSo (aLoad1 (AV.ptr n4 3) h18) (AV.int .i64 x10)) (
ck (readsSo (aLoad1 (AV.ptr n1 0) h18) v9) (
op' (mapBlk ty 3 v9 (AV.int .i64 x10) v17 h18) fun k19 =>
putK k19.1 k19.2 h18 fun h20 =>
k  h20)))))) (
fB (eqI x7 (Int.ofNat 1)) fun b21 =>
br b21 (
ldV (AV.ptr n1 1) h5 fun v22 =>
ldS (AV.ptr n4 1) h5 fun s23 =>
ldI .i64 (AV.ptr n4 3) h5 fun x24 =>
op' (mapBlk ty 9 v22 (AV.str s23) (AV.int .i64 x24) h5) fun k25 =>
putK k25.1 k25.2 h5 fun h26 =>
k  h26) (
fB (eqI x7 (Int.ofNat 2)) fun b27 =>
br b27 (
ldS (AV.ptr n4 1) h5 fun s28 =>
ldS (AV.ptr n4 2) h5 fun s29 =>
fB (Bool.not (Str.beq s28 s29)) fun b30 =>
br b30 (
ldV (AV.ptr n1 1) h5 fun v31 =>
ldS (AV.ptr n4 2) h5 fun s32 =>
ldV (AV.ptr n1 1) h5 fun v33 =>
ldS (AV.ptr n4 1) h5 fun s34 =>
op' (aLookup ty 9 3 false v33 (AV.str s34) h5) fun v35 =>
asI .i64 v35 fun x36 =>
op' (mapBlk ty 9 v31 (AV.str s32) (AV.int .i64 x36) h5) fun k37 =>
putK k37.1 k37.2 h5 fun h38 =>
ldV (AV.ptr n1 1) h38 fun v39 =>
ldS (AV.ptr n4 1) h38 fun s40 =>
delK (mapBlkD ty 9 v39 (AV.str s40) h38) h38 fun h42 =>
k  h42) (
k  h5)) (
fB (eqI x7 (Int.ofNat 3)) fun b43 =>
br b43 (
ldV (AV.ptr n1 1) h5 fun v44 =>
ldS (AV.ptr n4 1) h5 fun s45 =>
delK (mapBlkD ty 9 v44 (AV.str s45) h5) h5 fun h47 =>
k  h47) (
k  h5))))
noncomputable def s43 : AV → AV → H → (H → Prop) → Prop := s43G J0 s42
noncomputable def w43 (c : AV → AV → H → (H → Prop) → Prop) : Fun := fun xs h k => arg xs fun a0 xs => arg xs fun a1 xs => noArg xs <| c a0 a1 h fun  h => k (.tuple []) h
theorem s43_eq (J : Joins) (c42 : AV → H → (AV → H → Prop) → Prop) (a0 : AV) (a1 : AV) (h : H) (k : AV → H → Prop) : denF ty (gam J [(42, w42 c42)]) Try.f43 [a0, a1] h k = s43G J c42 a0 a1 h (fun  h => k (.tuple []) h) := by kernel_rfl
noncomputable def g43 : Fun := w43 s43
theorem g43_ok : FunOk Try.prog 43 g43 := (fun_ok ty_ok mixed (gam_ok (J := J0) (tab_cons g42_ok (tab_nil fls_fun))) Try.func43 (fun args w => by simp)).imp fun xs h k e0 => by
  obtain ⟨a0, xs0, rfl, e1⟩ := arg_imp e0
  obtain ⟨a1, xs1, rfl, e2⟩ := arg_imp e1
  obtain ⟨rfl, e3⟩ := noArg_imp e2
  exact (s43_eq J0 s42 a0 a1 h k).mpr e3
/-- s43, of which less may be asked -/
def up43 : AV → AV → H → (H → Prop) → Prop := fun a0 a1 h k => ∃ K : H → Prop, s43 a0 a1 h K ∧ ∀  h', K  h' → k  h'
theorem up43_ok : FunOk Try.prog 43 (w43 up43) := g43_ok.up fun xs h k e0 => by
  obtain ⟨a0, xs0, rfl, e1⟩ := arg_imp e0
  obtain ⟨a1, xs1, rfl, e2⟩ := arg_imp e1
  obtain ⟨rfl, e3⟩ := noArg_imp e2
  obtain ⟨K, q1, q2⟩ := e3
  refine ⟨fun r h' => r = .tuple [] ∧ K h', ?_, ?_⟩
  · have hK : (fun  h' => AV.tuple [] = .tuple [] ∧ K h') = K := by funext  h'; apply propext; simp
    exact (congrArg (s43 a0 a1 h) hK).mpr q1
  · rintro r h' ⟨rfl, q3⟩; exact q2 _ q3
/-- maps.clone -/
noncomputable def g54 : Fun := cloneF
theorem g54_ok : FunOk Try.prog 54 g54 := cloneF_ok Try.func54 (by kernel_rfl) (by kernel_rfl) (by kernel_rfl) (by kernel_rfl)
/-- maps.Clone[map[int][]byte,int,[]byte] -/
noncomputable def s47G (J : Joins) (c54 : Fun) (a0 : AV) (h : H) (k : AV → H → Prop) : Prop :=
nilB 4 a0 fun b1 =>
br b1 (
k AV.nilm h) (
c54 [(AV.iface 54 a0)] h fun v2 h3 =>
op' (aAssert ty 54 false v2) fun v4 =>
k v4 h3)
noncomputable def s47 : AV → H → (AV → H → Prop) → Prop := s47G J0 g54
noncomputable def w47 (c : AV → H → (AV → H → Prop) → Prop) : Fun := fun xs h k => arg xs fun a0 xs => noArg xs <| c a0 h fun r0 h => k r0 h
theorem s47_eq (J : Joins) (c54 : Fun) (a0 : AV) (h : H) (k : AV → H → Prop) : denF ty (gam J [(54, c54)]) Try.f47 [a0] h k = s47G J c54 a0 h (fun r0 h => k r0 h) := by kernel_rfl
noncomputable def g47 : Fun := w47 s47
theorem g47_ok : FunOk Try.prog 47 g47 := (fun_ok ty_ok mixed (gam_ok (J := J0) (tab_cons g54_ok (tab_nil fls_fun))) Try.func47 (fun args w => by simp)).imp fun xs h k e0 => by
  obtain ⟨a0, xs0, rfl, e1⟩ := arg_imp e0
  obtain ⟨rfl, e2⟩ := noArg_imp e1
  exact (s47_eq J0 g54 a0 h k).mpr e2
/-- maps.Clone[map[string]int,string,int] -/
noncomputable def s48G (J : Joins) (c54 : Fun) (a0 : AV) (h : H) (k : AV → H → Prop) : Prop :=
nilB 4 a0 fun b1 =>
br b1 (
k AV.nilm h) (
c54 [(AV.iface 55 a0)] h fun v2 h3 =>
op' (aAssert ty 55 false v2) fun v4 =>
k v4 h3)
noncomputable def s48 : AV → H → (AV → H → Prop) → Prop := s48G J0 g54
noncomputable def w48 (c : AV → H → (AV → H → Prop) → Prop) : Fun := fun xs h k => arg xs fun a0 xs => noArg xs <| c a0 h fun r0 h => k r0 h
theorem s48_eq (J : Joins) (c54 : Fun) (a0 : AV) (h : H) (k : AV → H → Prop) : denF ty (gam J [(54, c54)]) Try.f48 [a0] h k = s48G J c54 a0 h (fun r0 h => k r0 h) := by kernel_rfl
noncomputable def g48 : Fun := w48 s48
theorem g48_ok : FunOk Try.prog 48 g48 := (fun_ok ty_ok mixed (gam_ok (J := J0) (tab_cons g54_ok (tab_nil fls_fun))) Try.func48 (fun args w => by simp)).imp fun xs h k e0 => by
  obtain ⟨a0, xs0, rfl, e1⟩ := arg_imp e0
  obtain ⟨rfl, e2⟩ := noArg_imp e1
  exact (s48_eq J0 g54 a0 h k).mpr e2
/-- (*stagepost/vfs.FS).held -/
noncomputable def s35G (J : Joins) (c43 : AV → AV → H → (H → Prop) → Prop) (c47 : AV → H → (AV → H → Prop) → Prop) (c48 : AV → H → (AV → H → Prop) → Prop) (a0 : AV) (h : H) (k : AV → H → Prop) : Prop :=
pushK (.cells false 57 [(.nilm), (.nilm)]) h fun n1 h2 =>
okNil a0 (
faK 0 a0 fun p3 =>
faK 0 p3 fun p4 =>
ldV p4 h2 fun v5 =>
okNil a0 (
faK 0 a0 fun p6 =>
faK 1 p6 fun p7 =>
ldV p7 h2 fun v8 =>
pushK (.cells false 57 [(.nilm), (.nilm)]) h2 fun n9 h10 =>
c47 v5 h10 fun v12 h11 =>
ck (readsSo (aLoad1 p7 h11) v8) (
c48 v8 h11 fun v14 h13 =>
ck (isOne v12) (ck (isOne v14) (stN 2 (AV.ptr n9 0) [v12, v14] h13 fun h15 =>
okNil a0 (
faK 2 a0 fun p16 =>
ldV p16 h15 fun v17 =>
lenK v17 fun x18 =>
J.lp (α := AV × AV × AV × AV × AV × Unit) (fun r22 v19 d20 h21 =>
asI .i64 v19.2.2.2.2.1 fun x23 =>
asI .i64 v19.2.2.2.1 fun x24 =>
fB (ltI x23 x24) fun b25 =>
br b25 (
ixK 5 v19.2.2.1 v19.2.2.2.2.1 fun p26 =>
ldN 5 p26 h21 fun l27 =>
pushK (.cells false 71 [(.int .i64 0), (.str ⟨0, 0⟩), (.str ⟨0, 0⟩), (.int .i64 0), (.nils)]) h21 fun n28 h29 =>
stN 5 (AV.ptr n28 0) l27 h29 fun h30 =>
ldN 2 v19.2.1 h30 fun l31 =>
ldN 5 (AV.ptr n28 0) h30 fun l32 =>
c43 (AV.agg l31) (AV.agg l32) h30 fun  h33 =>
asI .i64 v19.2.2.2.2.1 fun x34 =>
fI (wrapF .i64 (Int.add x34 (Int.ofNat 1))) fun x35 =>
r22 (v19.1, v19.2.1, v19.2.2.1, v19.2.2.2.1, (AV.int .i64 x35), ()) d20 h33) (
ldN 2 v19.2.1 h21 fun l36 =>
stN 2 v19.1 l36 h21 fun h37 =>
leaveK (gam J [(43, w43 c43), (47, w47 c47), (48, w48 c48)]) d20 h37 fun h38 =>
ldN 2 v19.1 h38 fun l39 =>
k (AV.agg l39) h38)) ((AV.ptr n1 0), (AV.ptr n9 0), v17, (AV.int .i64 (Int.ofNat x18)), (AV.int .i64 (Int.ofNat 0)), ()) [] h15))))))
noncomputable def s35 : AV → H → (AV → H → Prop) → Prop := s35G J0 s43 s47 s48
noncomputable def w35 (c : AV → H → (AV → H → Prop) → Prop) : Fun := fun xs h k => arg xs fun a0 xs => noArg xs <| c a0 h fun r0 h => k r0 h
theorem s35_eq (J : Joins) (c43 : AV → AV → H → (H → Prop) → Prop) (c47 : AV → H → (AV → H → Prop) → Prop) (c48 : AV → H → (AV → H → Prop) → Prop) (a0 : AV) (h : H) (k : AV → H → Prop) : denF ty (gam J [(43, w43 c43), (47, w47 c47), (48, w48 c48)]) Try.f35 [a0] h k = s35G J c43 c47 c48 a0 h (fun r0 h => k r0 h) := by kernel_rfl
noncomputable def g35 : Fun := w35 s35
theorem g35_ok : FunOk Try.prog 35 g35 := (fun_ok ty_ok mixed (gam_ok (J := J0) (tab_cons g43_ok (tab_cons g47_ok (tab_cons g48_ok (tab_nil fls_fun))))) Try.func35 (fun args w => by simp)).imp fun xs h k e0 => by
  obtain ⟨a0, xs0, rfl, e1⟩ := arg_imp e0
  obtain ⟨rfl, e2⟩ := noArg_imp e1
  exact (s35_eq J0 s43 s47 s48 a0 h k).mpr e2
/-- s35, of which less may be asked -/
def up35 : AV → H → (AV → H → Prop) → Prop := fun a0 h k => ∃ K : AV → H → Prop, s35 a0 h K ∧ ∀ r0 h', K r0 h' → k r0 h'
theorem up35_ok : FunOk Try.prog 35 (w35 up35) := g35_ok.up fun xs h k e0 => by
  obtain ⟨a0, xs0, rfl, e1⟩ := arg_imp e0
  obtain ⟨rfl, e2⟩ := noArg_imp e1
  obtain ⟨K, q1, q2⟩ := e2
  refine ⟨fun r h' => ∃ r0, r = r0 ∧ K r0 h', ?_, ?_⟩
  · have hK : (fun r0 h' => ∃ r0', (r0 : AV) = r0' ∧ K r0' h') = K := by funext r0 h'; apply propext; simp
    exact (congrArg (s35 a0 h) hK).mpr q1
  · rintro r h' ⟨r0, rfl, q3⟩; exact q2 _ _ q3
/-- (*stagepost/vfs.FS).raw -/
noncomputable def s49G (J : Joins) (a0 : AV) (h : H) (k : Int → H → Prop) : Prop :=
okNil a0 (
faK 6 a0 fun p1 =>
ldB p1 h fun b2 =>
J.jn (fun v3 h4 =>
J.jn (fun v6 h7 =>
J.jn (fun v9 h10 =>
J.jn (fun v13 h14 =>
J.jn (fun v17 h18 =>
pickB (AV.bool b2) v17 (AV.bool false) fun b22 =>
br b22 (
okNil a0 (
faK 5 a0 fun p23 =>
stV p23 (AV.bool true) h18 fun h24 =>
k (Int.ofNat 7) h24)) (
J.jd (α := AV × Unit) (fun v25 d26 h27 =>
okNil v25.1 (
faK 8 v25.1 fun p29 =>
ldI .i64 p29 h27 fun x30 =>
fI (wrapF .i64 (Int.add x30 (Int.ofNat 1))) fun x31 =>
okNil v25.1 (
faK 8 v25.1 fun p32 =>
stV p32 (AV.int .i64 x31) h27 fun h33 =>
leaveK (gam J []) d26 h33 fun h34 =>
k (Int.ofNat 0) h34))) fun j28 =>
okNil a0 (
faK 6 a0 fun p35 =>
ldB p35 h18 fun b36 =>
br b36 (
okNil a0 (
faK 7 a0 fun p37 =>
ldI .i64 p37 h18 fun x38 =>
fI (wrapF .i64 (Int.sub x38 (Int.ofNat 1))) fun x39 =>
okNil a0 (
faK 7 a0 fun p40 =>
stV p40 (AV.int .i64 x39) h18 fun h41 =>
j28 (a0, ()) [] h41))) (
j28 (a0, ()) [] h18)))) fun j19 =>
br b2 (
asI .i64 v13 fun x20 =>
fB (eqI x20 (Int.ofNat 0)) fun b21 =>
j19 (AV.bool b21) h14) (
j19 skipV h14)) fun j15 =>
br b2 (
ldI .i64 v9 h10 fun x16 =>
j15 (AV.int .i64 x16) h10) (
j15 skipV h10)) fun j11 =>
br b2 (
faK 7 v6 fun p12 =>
j11 p12 h7) (
j11 skipV h7)) fun j8 =>
br b2 (
okNil v3 (
j8 v3 h4)) (
j8 skipV h4)) fun j5 =>
br b2 (
j5 a0 h) (
j5 skipV h))
noncomputable def s49 : AV → H → (Int → H → Prop) → Prop := s49G J0 
noncomputable def w49 (c : AV → H → (Int → H → Prop) → Prop) : Fun := fun xs h k => arg xs fun a0 xs => noArg xs <| c a0 h fun r0 h => k (.int .i64 r0) h
theorem s49_eq (J : Joins) (a0 : AV) (h : H) (k : AV → H → Prop) : denF ty (gam J []) Try.f49 [a0] h k = s49G J  a0 h (fun r0 h => k (.int .i64 r0) h) := by kernel_rfl
noncomputable def g49 : Fun := w49 s49
theorem g49_ok : FunOk Try.prog 49 g49 := (fun_ok ty_ok mixed (gam_ok (J := J0) (tab_nil fls_fun)) Try.func49 (fun args w => by simp)).imp fun xs h k e0 => by
  obtain ⟨a0, xs0, rfl, e1⟩ := arg_imp e0
  obtain ⟨rfl, e2⟩ := noArg_imp e1
  exact (s49_eq J0  a0 h k).mpr e2
/-- (*stagepost/vfs.FS).pend -/
noncomputable def s36G (J : Joins) (c49 : AV → H → (Int → H → Prop) → Prop) (a0 : AV) (a1 : AV) (h : H) (k : Int → H → Prop) : Prop :=
Go.Am.asAgg a1 fun l3 =>
pushK (.cells false 71 l3) h fun n1 h2 =>
c49 a0 h2 fun x5 h4 =>
J.jd (α := AV × Unit) (fun v6 d7 h8 =>
leaveK (gam J [(49, w49 c49)]) d7 h8 fun h10 =>
asI .i64 v6.1 fun x11 =>
k x11 h10) fun j9 =>
fB (eqI x5 (Int.ofNat 0)) fun b12 =>
br b12 (
okNil a0 (
faK 2 a0 fun p13 =>
ldV p13 h4 fun v14 =>
ldN 5 (AV.ptr n1 0) h4 fun l15 =>
ck (Nat.beq (List.length l15) 5) (op' (lputAt 0 l15 [(.int .i64 0), (.str ⟨0, 0⟩), (.str ⟨0, 0⟩), (.int .i64 0), (.nils)]) fun l18 =>
pushK (.cells false 71 l18) h4 fun n16 h17 =>
apC 71 5 72 v14 (AV.slice n16 0 1 1 5 true) h17 fun v19 h20 =>
okNil a0 (
faK 2 a0 fun p21 =>
stV p21 v19 h20 fun h22 =>
j9 ((AV.int .i64 x5), ()) [] h22)))) (
j9 ((AV.int .i64 x5), ()) [] h4)
noncomputable def s36 : AV → AV → H → (Int → H → Prop) → Prop := s36G J0 s49
noncomputable def w36 (c : AV → AV → H → (Int → H → Prop) → Prop) : Fun := fun xs h k => arg xs fun a0 xs => arg xs fun a1 xs => noArg xs <| c a0 a1 h fun r0 h => k (.int .i64 r0) h
theorem s36_eq (J : Joins) (c49 : AV → H → (Int → H → Prop) → Prop) (a0 : AV) (a1 : AV) (h : H) (k : AV → H → Prop) : denF ty (gam J [(49, w49 c49)]) Try.f36 [a0, a1] h k = s36G J c49 a0 a1 h (fun r0 h => k (.int .i64 r0) h) := by kernel_rfl
noncomputable def g36 : Fun := w36 s36
theorem g36_ok : FunOk Try.prog 36 g36 := (fun_ok ty_ok mixed (gam_ok (J := J0) (tab_cons g49_ok (tab_nil fls_fun))) Try.func36 (fun args w => by simp)).imp fun xs h k e0 => by
  obtain ⟨a0, xs0, rfl, e1⟩ := arg_imp e0
  obtain ⟨a1, xs1, rfl, e2⟩ := arg_imp e1
  obtain ⟨rfl, e3⟩ := noArg_imp e2
  exact (s36_eq J0 s49 a0 a1 h k).mpr e3
/-- (*stagepost/vfs.FS).Create -/
noncomputable def s11G (J : Joins) (c34 : AV → AV → H → (Int → H → Prop) → Prop) (c35 : AV → H → (AV → H → Prop) → Prop) (c36 : AV → AV → H → (Int → H → Prop) → Prop) (a0 : AV) (a1 : Str) (h : H) (k : Int → H → Prop) : Prop :=
pushK (.cells false 9 [(AV.str a1)]) h fun n1 h2 =>
c34 a0 (AV.slice n1 0 1 1 1 true) h2 fun x4 h3 =>
fB (Bool.not (eqI x4 (Int.ofNat 0))) fun b5 =>
br b5 (
k x4 h3) (
c35 a0 h3 fun v7 h6 =>
Go.Am.asAgg v7 fun l8 =>
op' (lgetO l8 1) fun v9 =>
op' (aLookup ty 9 3 true v9 (AV.str a1) h6) fun v10 =>
asTup v10 fun l11 =>
op' (lgetO l11 0) fun v12 =>
asI .i64 v12 fun x13 =>
asTup v10 fun l14 =>
op' (lgetO l14 1) fun v15 =>
asB v15 fun b16 =>
br b16 (
k (Int.ofNat 9) h6) (
okNil a0 (
faK 4 a0 fun p17 =>
ldI .i64 p17 h6 fun x18 =>
c36 a0 (AV.agg [(AV.int .i64 (Int.ofNat 1)), (AV.str a1), (.str ⟨0, 0⟩), (AV.int .i64 x18), (.nils)]) h6 fun x20 h19 =>
okNil a0 (
faK 4 a0 fun p21 =>
ldI .i64 p21 h19 fun x22 =>
fI (wrapF .i64 (Int.add x22 (Int.ofNat 1))) fun x23 =>
okNil a0 (
faK 4 a0 fun p24 =>
stV p24 (AV.int .i64 x23) h19 fun h25 =>
k x20 h25)))))
noncomputable def s11 : AV → Str → H → (Int → H → Prop) → Prop := s11G J0 s34 s35 s36
noncomputable def w11 (c : AV → Str → H → (Int → H → Prop) → Prop) : Fun := fun xs h k => arg xs fun a0 xs => arg xs fun a1 xs => noArg xs <| asS a1 fun a1 => c a0 a1 h fun r0 h => k (.int .i64 r0) h
theorem s11_eq (J : Joins) (c34 : AV → AV → H → (Int → H → Prop) → Prop) (c35 : AV → H → (AV → H → Prop) → Prop) (c36 : AV → AV → H → (Int → H → Prop) → Prop) (a0 : AV) (a1 : Str) (h : H) (k : AV → H → Prop) : denF ty (gam J [(34, w34 c34), (35, w35 c35), (36, w36 c36)]) Try.f11 [a0, (.str a1)] h k = s11G J c34 c35 c36 a0 a1 h (fun r0 h => k (.int .i64 r0) h) := by kernel_rfl
noncomputable def g11 : Fun := w11 s11
theorem g11_ok : FunOk Try.prog 11 g11 := (fun_ok ty_ok mixed (gam_ok (J := J0) (tab_cons g34_ok (tab_cons g35_ok (tab_cons g36_ok (tab_nil fls_fun))))) Try.func11 (fun args w => by simp)).imp fun xs h k e0 => by
  obtain ⟨a0, xs0, rfl, e1⟩ := arg_imp e0
  obtain ⟨a1, xs1, rfl, e2⟩ := arg_imp e1
  obtain ⟨rfl, e3⟩ := noArg_imp e2
  obtain ⟨a1, rfl, e4⟩ := asS_iff.1 e3
  exact (s11_eq J0 s34 s35 s36 a0 a1 h k).mpr e4
/-- (*stagepost/vfs.FS).SyncNames$1 -/
noncomputable def s38G (J : Joins) (a0 : AV) (h : H) (k : Bool → H → Prop) : Prop :=
Go.Am.asAgg a0 fun l3 =>
pushK (.cells false 71 l3) h fun n1 h2 =>
ldI .i64 (AV.ptr n1 0) h2 fun x4 =>
fB (Bool.not (eqI x4 (Int.ofNat 0))) fun b5 =>
k b5 h2
noncomputable def s38 : AV → H → (Bool → H → Prop) → Prop := s38G J0 
noncomputable def w38 (c : AV → H → (Bool → H → Prop) → Prop) : Fun := fun xs h k => arg xs fun a0 xs => noArg xs <| c a0 h fun r0 h => k (.bool r0) h
theorem s38_eq (J : Joins) (a0 : AV) (h : H) (k : AV → H → Prop) : denF ty (gam J []) Try.f38 [a0] h k = s38G J  a0 h (fun r0 h => k (.bool r0) h) := by kernel_rfl
noncomputable def g38 : Fun := w38 s38
theorem g38_ok : FunOk Try.prog 38 g38 := (fun_ok ty_ok mixed (gam_ok (J := J0) (tab_nil fls_fun)) Try.func38 (fun args w => by simp)).imp fun xs h k e0 => by
  obtain ⟨a0, xs0, rfl, e1⟩ := arg_imp e0
  obtain ⟨rfl, e2⟩ := noArg_imp e1
  exact (s38_eq J0  a0 h k).mpr e2
/-- (*stagepost/vfs.FS).Sync$1 -/
noncomputable def s40G (J : Joins) (a0 : AV) (a1 : AV) (h : H) (k : Bool → H → Prop) : Prop :=
Go.Am.asAgg a0 fun l3 =>
pushK (.cells false 71 l3) h fun n1 h2 =>
ldI .i64 (AV.ptr n1 0) h2 fun x4 =>
fB (eqI x4 (Int.ofNat 0)) fun b5 =>
J.jn (fun v6 h7 =>
J.jn (fun v9 h10 =>
J.jn (fun v13 h14 =>
J.jn (fun v17 h18 =>
pickB (AV.bool b5) v17 (AV.bool false) fun b23 =>
k b23 h18) fun j19 =>
br b5 (
asI .i64 v9 fun x20 =>
asI .i64 v13 fun x21 =>
fB (eqI x20 x21) fun b22 =>
j19 (AV.bool b22) h14) (
j19 skipV h14)) fun j15 =>
br b5 (
ldI .i64 a1 h10 fun x16 =>
j15 (AV.int .i64 x16) h10) (
j15 skipV h10)) fun j11 =>
br b5 (
ldI .i64 v6 h7 fun x12 =>
j11 (AV.int .i64 x12) h7) (
j11 skipV h7)) fun j8 =>
br b5 (
j8 (AV.ptr n1 3) h2) (
j8 skipV h2)
noncomputable def s40 : AV → AV → H → (Bool → H → Prop) → Prop := s40G J0 
noncomputable def w40 (c : AV → AV → H → (Bool → H → Prop) → Prop) : Fun := fun xs h k => arg xs fun a0 xs => arg xs fun a1 xs => noArg xs <| c a0 a1 h fun r0 h => k (.bool r0) h
theorem s40_eq (J : Joins) (a0 : AV) (a1 : AV) (h : H) (k : AV → H → Prop) : denF ty (gam J []) Try.f40 [a0, a1] h k = s40G J  a0 a1 h (fun r0 h => k (.bool r0) h) := by kernel_rfl
noncomputable def g40 : Fun := w40 s40
theorem g40_ok : FunOk Try.prog 40 g40 := (fun_ok ty_ok mixed (gam_ok (J := J0) (tab_nil fls_fun)) Try.func40 (fun args w => by simp)).imp fun xs h k e0 => by
  obtain ⟨a0, xs0, rfl, e1⟩ := arg_imp e0
  obtain ⟨a1, xs1, rfl, e2⟩ := arg_imp e1
  obtain ⟨rfl, e3⟩ := noArg_imp e2
  exact (s40_eq J0  a0 a1 h k).mpr e3
/-- (*stagepost/vfs.FS).settle -/
noncomputable def s37G (J : Joins) (c38 : AV → H → (Bool → H → Prop) → Prop) (c40 : AV → AV → H → (Bool → H → Prop) → Prop) (c43 : AV → AV → H → (H → Prop) → Prop) (c49 : AV → H → (Int → H → Prop) → Prop) (a0 : AV) (a1 : AV) (h : H) (k : Int → H → Prop) : Prop :=
c49 a0 h fun x2 h1 =>
fB (Bool.not (eqI x2 (Int.ofNat 0))) fun b3 =>
br b3 (
k x2 h1) (
okNil a0 (
faK 2 a0 fun p4 =>
ldV p4 h1 fun v5 =>
lenK v5 fun x6 =>
J.lp (α := AV × AV × AV × AV × AV × AV × Unit) (fun r10 v7 d8 h9 =>
asI .i64 v7.2.2.2.2.2.1 fun x11 =>
asI .i64 v7.2.2.2.2.1 fun x12 =>
fB (ltI x11 x12) fun b13 =>
br b13 (
J.jd (α := AV × AV × AV × AV × AV × AV × Unit) (fun v14 d15 h16 =>
asI .i64 v14.2.2.2.2.2.1 fun x18 =>
fI (wrapF .i64 (Int.add x18 (Int.ofNat 1))) fun x19 =>
r10 (v14.1, v14.2.1, v14.2.2.1, v14.2.2.2.1, v14.2.2.2.2.1, (AV.int .i64 x19), ()) d15 h16) fun j17 =>
ixK 5 v7.2.2.2.1 v7.2.2.2.2.2.1 fun p20 =>
ldN 5 p20 h9 fun l21 =>
pushK (.cells false 71 [(.int .i64 0), (.str ⟨0, 0⟩), (.str ⟨0, 0⟩), (.int .i64 0), (.nils)]) h9 fun n22 h23 =>
stN 5 (AV.ptr n22 0) l21 h23 fun h24 =>
ldN 5 (AV.ptr n22 0) h24 fun l25 =>
callK (gam J [(38, w38 c38), (40, w40 c40), (43, w43 c43), (49, w49 c49)]) v7.2.1 [(AV.agg l25)] h24 fun v26 h27 =>
asB v26 fun b28 =>
br b28 (
okNil v7.1 (
faK 0 v7.1 fun p29 =>
ldN 2 p29 h27 fun l30 =>
ldN 5 (AV.ptr n22 0) h27 fun l31 =>
c43 (AV.agg l30) (AV.agg l31) h27 fun  h32 =>
j17 (v7.1, v7.2.1, v7.2.2.1, v7.2.2.2.1, v7.2.2.2.2.1, v7.2.2.2.2.2.1, ()) d8 h32)) (
ldN 5 (AV.ptr n22 0) h27 fun l33 =>
ck (Nat.beq (List.length l33) 5) (op' (lputAt 0 l33 [(.int .i64 0), (.str ⟨0, 0⟩), (.str ⟨0, 0⟩), (.int .i64 0), (.nils)]) fun l36 =>
pushK (.cells false 71 l36) h27 fun n34 h35 =>
apC 71 5 72 v7.2.2.1 (AV.slice n34 0 1 1 5 true) h35 fun v37 h38 =>
j17 (v7.1, v7.2.1, v37, v7.2.2.2.1, v7.2.2.2.2.1, v7.2.2.2.2.2.1, ()) d8 h38))) (
okNil v7.1 (
faK 2 v7.1 fun p39 =>
stV p39 v7.2.2.1 h9 fun h40 =>
leaveK (gam J [(38, w38 c38), (40, w40 c40), (43, w43 c43), (49, w49 c49)]) d8 h40 fun h41 =>
k (Int.ofNat 0) h41))) (a0, a1, AV.nils, v5, (AV.int .i64 (Int.ofNat x6)), (AV.int .i64 (Int.ofNat 0)), ()) [] h1))
noncomputable def s37 : AV → AV → H → (Int → H → Prop) → Prop := s37G J0 s38 s40 s43 s49
noncomputable def w37 (c : AV → AV → H → (Int → H → Prop) → Prop) : Fun := fun xs h k => arg xs fun a0 xs => arg xs fun a1 xs => noArg xs <| c a0 a1 h fun r0 h => k (.int .i64 r0) h
theorem s37_eq (J : Joins) (c38 : AV → H → (Bool → H → Prop) → Prop) (c40 : AV → AV → H → (Bool → H → Prop) → Prop) (c43 : AV → AV → H → (H → Prop) → Prop) (c49 : AV → H → (Int → H → Prop) → Prop) (a0 : AV) (a1 : AV) (h : H) (k : AV → H → Prop) : denF ty (gam J [(38, w38 c38), (40, w40 c40), (43, w43 c43), (49, w49 c49)]) Try.f37 [a0, a1] h k = s37G J c38 c40 c43 c49 a0 a1 h (fun r0 h => k (.int .i64 r0) h) := by kernel_rfl
noncomputable def g37 : Fun := w37 s37
theorem g37_ok : FunOk Try.prog 37 g37 := (fun_ok ty_ok mixed (gam_ok (J := J0) (tab_cons g38_ok (tab_cons g40_ok (tab_cons g43_ok (tab_cons g49_ok (tab_nil fls_fun)))))) Try.func37 (fun args w => by simp)).imp fun xs h k e0 => by
  obtain ⟨a0, xs0, rfl, e1⟩ := arg_imp e0
  obtain ⟨a1, xs1, rfl, e2⟩ := arg_imp e1
  obtain ⟨rfl, e3⟩ := noArg_imp e2
  exact (s37_eq J0 s38 s40 s43 s49 a0 a1 h k).mpr e3
/-- (*stagepost/vfs.FS).file -/
noncomputable def s39G (J : Joins) (c34 : AV → AV → H → (Int → H → Prop) → Prop) (c35 : AV → H → (AV → H → Prop) → Prop) (a0 : AV) (a1 : Str) (h : H) (k : Int → Int → H → Prop) : Prop :=
pushK (.cells false 9 [(AV.str a1)]) h fun n1 h2 =>
c34 a0 (AV.slice n1 0 1 1 1 true) h2 fun x4 h3 =>
fB (Bool.not (eqI x4 (Int.ofNat 0))) fun b5 =>
br b5 (
k (Int.ofNat 0) x4 h3) (
c35 a0 h3 fun v7 h6 =>
Go.Am.asAgg v7 fun l8 =>
op' (lgetO l8 1) fun v9 =>
op' (aLookup ty 9 3 true v9 (AV.str a1) h6) fun v10 =>
asTup v10 fun l11 =>
op' (lgetO l11 0) fun v12 =>
asI .i64 v12 fun x13 =>
asTup v10 fun l14 =>
op' (lgetO l14 1) fun v15 =>
asB v15 fun b16 =>
fB (Bool.not b16) fun b17 =>
br b17 (
k (Int.ofNat 0) (Int.ofNat 4) h6) (
k x13 (Int.ofNat 0) h6))
noncomputable def s39 : AV → Str → H → (Int → Int → H → Prop) → Prop := s39G J0 s34 s35
noncomputable def w39 (c : AV → Str → H → (Int → Int → H → Prop) → Prop) : Fun := fun xs h k => arg xs fun a0 xs => arg xs fun a1 xs => noArg xs <| asS a1 fun a1 => c a0 a1 h fun r0 r1 h => k (.tuple [(.int .i64 r0), (.int .i64 r1)]) h
theorem s39_eq (J : Joins) (c34 : AV → AV → H → (Int → H → Prop) → Prop) (c35 : AV → H → (AV → H → Prop) → Prop) (a0 : AV) (a1 : Str) (h : H) (k : AV → H → Prop) : denF ty (gam J [(34, w34 c34), (35, w35 c35)]) Try.f39 [a0, (.str a1)] h k = s39G J c34 c35 a0 a1 h (fun r0 r1 h => k (.tuple [(.int .i64 r0), (.int .i64 r1)]) h) := by kernel_rfl
noncomputable def g39 : Fun := w39 s39
theorem g39_ok : FunOk Try.prog 39 g39 := (fun_ok ty_ok mixed (gam_ok (J := J0) (tab_cons g34_ok (tab_cons g35_ok (tab_nil fls_fun)))) Try.func39 (fun args w => by simp)).imp fun xs h k e0 => by
  obtain ⟨a0, xs0, rfl, e1⟩ := arg_imp e0
  obtain ⟨a1, xs1, rfl, e2⟩ := arg_imp e1
  obtain ⟨rfl, e3⟩ := noArg_imp e2
  obtain ⟨a1, rfl, e4⟩ := asS_iff.1 e3
  exact (s39_eq J0 s34 s35 a0 a1 h k).mpr e4
/-- (*stagepost/vfs.FS).Sync -/
noncomputable def s14G (J : Joins) (c37 : AV → AV → H → (Int → H → Prop) → Prop) (c39 : AV → Str → H → (Int → Int → H → Prop) → Prop) (c40 : AV → AV → H → (Bool → H → Prop) → Prop) (a0 : AV) (a1 : Str) (h : H) (k : Int → H → Prop) : Prop :=
c39 a0 a1 h fun x2 x3 h1 =>
pushK (.cells false 3 [(.int .i64 0)]) h1 fun n4 h5 =>
stV (AV.ptr n4 0) (AV.int .i64 x2) h5 fun h6 =>
fB (Bool.not (eqI x3 (Int.ofNat 0))) fun b7 =>
br b7 (
k x3 h6) (
c37 a0 (AV.func (.func 40) [] [(AV.ptr n4 0)]) h6 fun x9 h8 =>
k x9 h8)
noncomputable def s14 : AV → Str → H → (Int → H → Prop) → Prop := s14G J0 s37 s39 s40
noncomputable def w14 (c : AV → Str → H → (Int → H → Prop) → Prop) : Fun := fun xs h k => arg xs fun a0 xs => arg xs fun a1 xs => noArg xs <| asS a1 fun a1 => c a0 a1 h fun r0 h => k (.int .i64 r0) h
theorem s14_eq (J : Joins) (c37 : AV → AV → H → (Int → H → Prop) → Prop) (c39 : AV → Str → H → (Int → Int → H → Prop) → Prop) (c40 : AV → AV → H → (Bool → H → Prop) → Prop) (a0 : AV) (a1 : Str) (h : H) (k : AV → H → Prop) : denF ty (gam J [(37, w37 c37), (39, w39 c39), (40, w40 c40)]) Try.f14 [a0, (.str a1)] h k = s14G J c37 c39 c40 a0 a1 h (fun r0 h => k (.int .i64 r0) h) := by kernel_rfl
noncomputable def g14 : Fun := w14 s14
theorem g14_ok : FunOk Try.prog 14 g14 := (fun_ok ty_ok mixed (gam_ok (J := J0) (tab_cons g37_ok (tab_cons g39_ok (tab_cons g40_ok (tab_nil fls_fun))))) Try.func14 (fun args w => by simp)).imp fun xs h k e0 => by
  obtain ⟨a0, xs0, rfl, e1⟩ := arg_imp e0
  obtain ⟨a1, xs1, rfl, e2⟩ := arg_imp e1
  obtain ⟨rfl, e3⟩ := noArg_imp e2
  obtain ⟨a1, rfl, e4⟩ := asS_iff.1 e3
  exact (s14_eq J0 s37 s39 s40 a0 a1 h k).mpr e4
/-- (*stagepost/vfs.FS).Left -/
noncomputable def s27G (J : Joins) (c34 : AV → AV → H → (Int → H → Prop) → Prop) (c35 : AV → H → (AV → H → Prop) → Prop) (a0 : AV) (h : H) (k : Int → H → Prop) : Prop :=
c34 a0 AV.nils h fun x2 h1 =>
fB (Bool.not (eqI x2 (Int.ofNat 0))) fun b3 =>
br b3 (
k (Int.ofNat 0) h1) (
okNil a0 (
faK 3 a0 fun p4 =>
ldI .i64 p4 h1 fun x5 =>
pushK (.cells false 57 [(.nilm), (.nilm)]) h1 fun n6 h7 =>
c35 a0 h7 fun v9 h8 =>
ck (readsSo (aLoad1 p4 h8) (AV.int .i64 x5)) (
Go.Am.asAgg v9 fun l11 =>
stN 2 (AV.ptr n6 0) l11 h8 fun h10 =>
ck (readsSo (aLoad1 p4 h10) (AV.int .i64 x5)) (
ldV (AV.ptr n6 1) h10 fun v12 =>
aRangeK v12 h10 fun v13 h14 =>
J.lp (α := AV × AV × AV × Unit) (fun r18 v15 d16 h17 =>
aNext v15.2.2.1 h17 fun v19 h20 =>
asTup v19 fun l21 =>
op' (lgetO l21 0) fun v22 =>
asB v22 fun b23 =>
br b23 (
op' (aEntry v15.2.2.1 h20) fun v24 =>
asTup v24 fun l25 =>
op' (lgetO l25 1) fun v26 =>
asI .i64 v26 fun x27 =>
faK 0 v15.1 fun p28 =>
ldV p28 h20 fun v29 =>
op' (aLookup ty 3 31 false v29 (AV.int .i64 x27) h20) fun v30 =>
lenK v30 fun x31 =>
asI .i64 v15.2.1 fun x32 =>
fI (wrapF .i64 (Int.sub x32 (Int.ofNat x31))) fun x33 =>
r18 (v15.1, (AV.int .i64 x33), v15.2.2.1, ()) d16 h20) (
leaveK (gam J [(34, w34 c34), (35, w35 c35)]) d16 h20 fun h34 =>
asI .i64 v15.2.1 fun x35 =>
k x35 h34)) ((AV.ptr n6 0), (AV.int .i64 x5), v13, ()) [] h14))))
noncomputable def s27 : AV → H → (Int → H → Prop) → Prop := s27G J0 s34 s35
noncomputable def w27 (c : AV → H → (Int → H → Prop) → Prop) : Fun := fun xs h k => arg xs fun a0 xs => noArg xs <| c a0 h fun r0 h => k (.int .i64 r0) h
theorem s27_eq (J : Joins) (c34 : AV → AV → H → (Int → H → Prop) → Prop) (c35 : AV → H → (AV → H → Prop) → Prop) (a0 : AV) (h : H) (k : AV → H → Prop) : denF ty (gam J [(34, w34 c34), (35, w35 c35)]) Try.f27 [a0] h k = s27G J c34 c35 a0 h (fun r0 h => k (.int .i64 r0) h) := by kernel_rfl
noncomputable def g27 : Fun := w27 s27
end Go.Proofs.Ytiejkbmobmgdkaa
