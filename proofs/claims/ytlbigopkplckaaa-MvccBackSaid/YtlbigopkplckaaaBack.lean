/- The statement 'MvccBack': whatever the two cells, the intent, the record, the key and the value, the law returns true, and what came in reads as it did. No condition. -/
import Derived.Test.YtlbigopkplckaaaRows
import Derived.Test.YtlbigopkplckaaaBkC
import Derived.WideShapes
import Derived.SizedLaws
import Derived.ChangeSame
namespace Go.Proofs.Ytlbigopkplckaaa
open Go Go.Am Go.ChangeShapes Go.WideShapes Go.ChangeAt Go.RowKit
set_option maxRecDepth 100000
set_option linter.all false
theorem Try.own : ownKnob Try.prog.godebug = none := by kernel_rfl
theorem Try.laidOut : laidOutB Try.prog = true := by kernel_rfl
noncomputable def f28 : AV → H → (Bool → H → Prop) → Prop := s28G J0 pPut pCell pLay pKeepL pInt pRec
theorem q28_ok : FunOk Try.prog 28 (w28 pWh) := (fun_ok ty_ok mixed (gam_ok (J := J0) (tab_cons q7_ok (tab_cons q10_ok (tab_cons q13_ok (tab_cons q18L_ok (tab_cons q23_ok (tab_cons q25_ok (tab_nil fls_fun)))))))) Try.func28 (fun args w => by simp)).alone.imp fun xs h k e0 => by
  obtain ⟨a0, xs0, rfl, e1⟩ := arg_imp e0
  obtain ⟨rfl, e2⟩ := noArg_imp e1
  obtain ⟨K, V, rfl, hK, hV, hk⟩ := e2
  refine ⟨H0, .empty h, .empty, by simp [AV.underL, AV.under, kvAV], (s28_eq J0 pPut pCell pLay pKeepL pInt pRec (kvAV K V) H0 _).mpr (t28 hK hV fun h' => ?_)⟩
  exact ⟨by simp [AV.under], hk⟩
noncomputable def f6 : AV → AV → AV → AV → AV → H → (Bool → H → Prop) → Prop := s6G J0 pPut pLives pCell pLay pKeepL pLift pInt pRec pSame pWh
theorem q6_ok : FunOk Try.prog 6 (w6 f6) := (fun_ok ty_ok mixed (gam_ok (J := J0) (tab_cons q7_ok (tab_cons q9_ok (tab_cons q10_ok (tab_cons q13_ok (tab_cons q18L_ok (tab_cons q20_ok (tab_cons q23_ok (tab_cons q25_ok (tab_cons q27_ok (tab_cons q28_ok (tab_nil fls_fun)))))))))))) Try.func6 (fun args w => by simp)).imp fun xs h k e0 => by
  obtain ⟨a0, xs0, rfl, e1⟩ := arg_imp e0
  obtain ⟨a1, xs1, rfl, e2⟩ := arg_imp e1
  obtain ⟨a2, xs2, rfl, e3⟩ := arg_imp e2
  obtain ⟨a3, xs3, rfl, e4⟩ := arg_imp e3
  obtain ⟨a4, xs4, rfl, e5⟩ := arg_imp e4
  obtain ⟨rfl, e6⟩ := noArg_imp e5
  exact (s6_eq J0 pPut pLives pCell pLay pKeepL pLift pInt pRec pSame pWh a0 a1 a2 a3 a4 h k).mpr e6
theorem shapeC {l : List AV} (h : ShapesL Try.prog [9, 2, 21, 21, 9, 4] l) : ∃ (x0 : List UInt8) (x1 : Int) (x2 : Int) (x3 : Int) (x4 : List UInt8) (x5 : Bool), l = [.str (Str.of x0), .int .i64 x1, .int .i32 x2, .int .i32 x3, .str (Str.of x4), .bool x5] := by
  match l, h with
  | [a0, a1, a2, a3, a4, a5], ⟨h0, h1, h2, h3, h4, h5, _⟩ =>
    unfold ShapeL at h0; rw [Try.underlying9] at h0
    obtain ⟨x0, rfl⟩ := h0
    unfold ShapeL at h1; rw [Try.underlying2] at h1
    obtain ⟨x1, rfl⟩ := h1
    unfold ShapeL at h2; rw [Try.underlying21] at h2
    obtain ⟨x2, rfl⟩ := h2
    unfold ShapeL at h3; rw [Try.underlying21] at h3
    obtain ⟨x3, rfl⟩ := h3
    unfold ShapeL at h4; rw [Try.underlying9] at h4
    obtain ⟨x4, rfl⟩ := h4
    unfold ShapeL at h5; rw [Try.underlying4] at h5
    obtain ⟨x5, rfl⟩ := h5
    exact ⟨x0, x1, x2, x3, x4, x5, rfl⟩
theorem shapeI {l : List AV} (h : ShapesL Try.prog [9, 21, 21, 2, 21, 21, 9, 2, 21, 21, 9, 4] l) : ∃ (x0 : List UInt8) (x1 : Int) (x2 : Int) (x3 : Int) (x4 : Int) (x5 : Int) (x6 : List UInt8) (x7 : Int) (x8 : Int) (x9 : Int) (x10 : List UInt8) (x11 : Bool), l = [.str (Str.of x0), .int .i32 x1, .int .i32 x2, .int .i64 x3, .int .i32 x4, .int .i32 x5, .str (Str.of x6), .int .i64 x7, .int .i32 x8, .int .i32 x9, .str (Str.of x10), .bool x11] := by
  match l, h with
  | [a0, a1, a2, a3, a4, a5, a6, a7, a8, a9, a10, a11], ⟨h0, h1, h2, h3, h4, h5, h6, h7, h8, h9, h10, h11, _⟩ =>
    unfold ShapeL at h0; rw [Try.underlying9] at h0
    obtain ⟨x0, rfl⟩ := h0
    unfold ShapeL at h1; rw [Try.underlying21] at h1
    obtain ⟨x1, rfl⟩ := h1
    unfold ShapeL at h2; rw [Try.underlying21] at h2
    obtain ⟨x2, rfl⟩ := h2
    unfold ShapeL at h3; rw [Try.underlying2] at h3
    obtain ⟨x3, rfl⟩ := h3
    unfold ShapeL at h4; rw [Try.underlying21] at h4
    obtain ⟨x4, rfl⟩ := h4
    unfold ShapeL at h5; rw [Try.underlying21] at h5
    obtain ⟨x5, rfl⟩ := h5
    unfold ShapeL at h6; rw [Try.underlying9] at h6
    obtain ⟨x6, rfl⟩ := h6
    unfold ShapeL at h7; rw [Try.underlying2] at h7
    obtain ⟨x7, rfl⟩ := h7
    unfold ShapeL at h8; rw [Try.underlying21] at h8
    obtain ⟨x8, rfl⟩ := h8
    unfold ShapeL at h9; rw [Try.underlying21] at h9
    obtain ⟨x9, rfl⟩ := h9
    unfold ShapeL at h10; rw [Try.underlying9] at h10
    obtain ⟨x10, rfl⟩ := h10
    unfold ShapeL at h11; rw [Try.underlying4] at h11
    obtain ⟨x11, rfl⟩ := h11
    exact ⟨x0, x1, x2, x3, x4, x5, x6, x7, x8, x9, x10, x11, rfl⟩
theorem shapeR {l : List AV} (h : ShapesL Try.prog [21, 21, 42, 2, 21, 21, 43, 2, 2, 21, 21] l) : ∃ (x0 : Int) (x1 : Int) (x2 : Int) (x3 : Int) (x4 : Int) (x5 : Int) (x7 : Int) (x8 : Int) (x9 : Int) (x10 : Int), l = [.int .i32 x0, .int .i32 x1, .int .u8 x2, .int .i64 x3, .int .i32 x4, .int .i32 x5, .junk, .int .i64 x7, .int .i64 x8, .int .i32 x9, .int .i32 x10] := by
  match l, h with
  | [a0, a1, a2, a3, a4, a5, a6, a7, a8, a9, a10], ⟨h0, h1, h2, h3, h4, h5, h6, h7, h8, h9, h10, _⟩ =>
    unfold ShapeL at h0; rw [Try.underlying21] at h0
    obtain ⟨x0, rfl⟩ := h0
    unfold ShapeL at h1; rw [Try.underlying21] at h1
    obtain ⟨x1, rfl⟩ := h1
    unfold ShapeL at h2; rw [Try.underlying42] at h2
    obtain ⟨x2, rfl⟩ := h2
    unfold ShapeL at h3; rw [Try.underlying2] at h3
    obtain ⟨x3, rfl⟩ := h3
    unfold ShapeL at h4; rw [Try.underlying21] at h4
    obtain ⟨x4, rfl⟩ := h4
    unfold ShapeL at h5; rw [Try.underlying21] at h5
    obtain ⟨x5, rfl⟩ := h5
    unfold ShapeL at h6; rw [Try.underlying43] at h6
    obtain rfl := h6
    unfold ShapeL at h7; rw [Try.underlying2] at h7
    obtain ⟨x7, rfl⟩ := h7
    unfold ShapeL at h8; rw [Try.underlying2] at h8
    obtain ⟨x8, rfl⟩ := h8
    unfold ShapeL at h9; rw [Try.underlying21] at h9
    obtain ⟨x9, rfl⟩ := h9
    unfold ShapeL at h10; rw [Try.underlying21] at h10
    obtain ⟨x10, rfl⟩ := h10
    exact ⟨x0, x1, x2, x3, x4, x5, x7, x8, x9, x10, rfl⟩
theorem shapeK {l : List AV} (h : ShapesL Try.prog [9, 9] l) : ∃ (x0 x1 : List UInt8), l = [.str (Str.of x0), .str (Str.of x1)] := by
  match l, h with
  | [a0, a1], ⟨h0, h1, _⟩ =>
    unfold ShapeL at h0; rw [Try.underlying9] at h0
    obtain ⟨x0, rfl⟩ := h0
    unfold ShapeL at h1; rw [Try.underlying9] at h1
    obtain ⟨x1, rfl⟩ := h1
    exact ⟨x0, x1, rfl⟩
theorem f6_is {h0 : Go.Am.H} {v : AV} {ks : List (List UInt8)} (q : KV h0 v ks) {ckey cval : List UInt8} {cw cl ct : Int} {cdel : Bool} {dkey dval : List UInt8} {dw dl dt : Int} {ddel : Bool} {ikey ian ival : List UInt8} {inn im ibw ibl ibt iw il it : Int} {idel : Bool}
    {n m st w l t beat pw pl pt : Int} {K V : List UInt8} (hK : K.length ≤ 140737488351232) (hV : V.length ≤ 140737488351232) :
    w6 f6 [ceAV (Str.of ckey) cw cl ct (Str.of cval) cdel, ceAV (Str.of dkey) dw dl dt (Str.of dval) ddel, inAV (Str.of ikey) inn im ibw ibl ibt (Str.of ian) iw il it (Str.of ival) idel, recAV n m st w l t v beat pw pl pt, kvAV K V] h0 isT := by
  show f6 (ceAV (Str.of ckey) cw cl ct (Str.of cval) cdel) (ceAV (Str.of dkey) dw dl dt (Str.of dval) ddel) (inAV (Str.of ikey) inn im ibw ibl ibt (Str.of ian) iw il it (Str.of ival) idel) (recAV n m st w l t v beat pw pl pt) (kvAV K V) h0 (fun r0 h => isT (.bool r0) h)
  unfold f6
  exact t6 q hK hV fun h' => rfl
theorem back_lifted (os : Os) (started : os.Started) (H : Type) (enc : TypeId × Value → H) :
    ReturnsInHanded {} Try.checked os 6 .any (Rows.mvccBackSpec.pre6 enc Try.prog Try.f6 Rows.mvccBackRow.domain false) (Rows.mvccBackSpec.post enc Try.prog Try.f6 false true false false) := by
  refine returnsInHanded_of_change_sized (C := Try.checked) Try.own started (by kernel_rfl) Try.func6
    (ChangeSpec.witness6 (enc := enc) (C := Try.checked) false ⟨#[], #[.agg #[.string ⟨#[]⟩, .int .i64 0, .int .i32 0, .int .i32 0, .string ⟨#[]⟩, .bool false], .agg #[.string ⟨#[]⟩, .int .i64 0, .int .i32 0, .int .i32 0, .string ⟨#[]⟩, .bool false],
      .agg #[.string ⟨#[]⟩, .int .i32 0, .int .i32 0, .int .i64 0, .int .i32 0, .int .i32 0, .string ⟨#[]⟩, .int .i64 0, .int .i32 0, .int .i32 0, .string ⟨#[]⟩, .bool false],
      .agg #[.int .i32 0, .int .i32 0, .int .u8 0, .int .i64 0, .int .i32 0, .int .i32 0, .slice none 0 0, .int .i64 0, .int .i64 0, .int .i32 0, .int .i32 0], .agg #[.string ⟨#[]⟩, .string ⟨#[]⟩]], []⟩ 8 (by kernel_rfl) (by kernel_rfl) (by kernel_rfl) (by kernel_rfl)) ?_
  intro W base args ds gs before hval0 hW hcnd hsz _
  have hW' := hW
  obtain ⟨p, q, hA, hV, rfl, hfz, hnd⟩ := hW
  rw [Try.params6] at hA hval0 hsz
  obtain ⟨v0, vs0, d0, ds0, p0, q0, e0, rfl, rfl, h0, hA⟩ := trodAll_cons hA
  obtain ⟨v1, vs1, d1, ds1, p1, q1, rfl, rfl, rfl, h1, hA⟩ := trodAll_cons hA
  obtain ⟨v2, vs2, d2, ds2, p2, q2, rfl, rfl, rfl, h2, hA⟩ := trodAll_cons hA
  obtain ⟨v3, vs3, d3, ds3, p3, q3, rfl, rfl, rfl, h3, hA⟩ := trodAll_cons hA
  obtain ⟨v4, vs4, d4, ds4, p4, q4, rfl, rfl, rfl, h4, hA⟩ := trodAll_cons hA
  obtain ⟨rfl, rfl, rfl⟩ := trodAll_nil hA
  obtain ⟨rfl, rfl⟩ := trodVars_none hV
  obtain rfl : args = #[v0, v1, v2, v3, v4] := Array.toList_inj.1 e0
  -- the keys of the record
  obtain ⟨as3, cs3, hs3, rfl, hr3, hc3⟩ := agg_shapeL (μ := noMu) (ts := [21, 21, 42, 2, 21, 21, 43, 2, 2, 21, 21]) Try.underlying45 (by kernel_rfl) (by kernel_rfl) (hval0 3 45 v3 rfl rfl)
  obtain ⟨n, m, st, w, l, t, beat, pw, pl, pt, rfl⟩ := shapeR hs3
  simp only [AV.relL_cons, AV.relL_nil] at hr3
  obtain ⟨c0, r0, hcs3, g0, c1, r1, rfl, g1, c2, r2, rfl, g2, c3, r3, rfl, g3, c4, r4, rfl, g4, c5, r5, rfl, g5, c6, r6, rfl, _, c7, r7, rfl, g7, c8, r8, rfl, g8, c9, r9, rfl, g9, c10, r10, rfl, g10, rfl⟩ := hr3
  obtain ⟨fuel, ht3⟩ := h3
  have hk : ∃ f y, DataW.trod enc Try.prog W 0 (fun _ => true) true f 43 [c6] = some y := by
    obtain ⟨f', y', hy⟩ := trod_field_at Try.underlying45 ht3 3 rfl
    have e1 : Try.prog.cellsOf 43 = 1 := by kernel_rfl
    have hy : DataW.trod enc Try.prog W 0 (fun _ => true) true f' 43 ((cs3.toList.drop 6).take (Try.prog.cellsOf 43)) = some y' := hy
    rw [hcs3, e1] at hy
    exact ⟨f', y', hy⟩
  obtain ⟨f', y', hy⟩ := hk
  have hok : Cell.okWide Try.prog W .any base 43 c6 := by
    obtain ⟨u, hu, hok⟩ := hc3 6 c6 (by rw [hcs3]; rfl)
    injection hu with hu; subst hu; exact hok
  obtain ⟨as4, cs4, hs4, rfl, hr4, _⟩ := agg_shapeL (μ := noMu) (ts := [9, 9]) Try.underlying36 (by kernel_rfl) (by kernel_rfl) (hval0 4 36 v4 rfl rfl)
  obtain ⟨K, V, rfl⟩ := shapeK hs4
  have hr4' := hr4
  simp only [AV.relL_cons, AV.relL_nil, AV.rel] at hr4'
  obtain ⟨c0, r0, hcs, ⟨s0, rfl, hk0⟩, c1, r1, rfl, ⟨s1, rfl, hk1⟩, rfl⟩ := hr4'
  obtain rfl := Str.of_inj hk0
  obtain rfl := Str.of_inj hk1
  have bounds : s0.data.toList.length ≤ 140737488351232 ∧ s1.data.toList.length ≤ 140737488351232 := by
    obtain ⟨fuel, ht⟩ := h4
    have ht : DataW.trod enc Try.prog W 0 (fun _ => true) true fuel 36 cs4.toList = some (d4, p4) := ht
    obtain ⟨y0, y1, nn, hx, _, hy0, hy1⟩ := trod_struct2 Try.underlying36 ht
    rw [hcs] at hy0 hy1
    have c9 : Try.prog.cellsOf 9 = 1 := by kernel_rfl
    have hy0 : DataW.trod enc Try.prog W 0 (fun _ => true) true nn 9 (([Value.string s0, .string s1].drop 0).take (Try.prog.cellsOf 9)) = some y0 := hy0
    have hy1 : DataW.trod enc Try.prog W 0 (fun _ => true) true nn 9 (([Value.string s0, .string s1].drop 1).take (Try.prog.cellsOf 9)) = some y1 := hy1
    rw [c9] at hy0 hy1
    obtain ⟨z0, hz0, rfl, _⟩ := DataW.trod_string Try.underlying9 hy0
    obtain ⟨z1, hz1, rfl, _⟩ := DataW.trod_string Try.underlying9 hy1
    injection hz0 with hz0; injection hz0 with hz0
    injection hz1 with hz1; injection hz1 with hz1
    subst hz0 hz1
    injection hx with hx _
    subst hx
    have hw := List.all_eq_true.1 hsz
    have u : ∀ x ∈ [s0.data.toList.length, s1.data.toList.length], x ≤ reachBytes := fun x hx => by
      refine of_decide_eq_true (hw x ?_)
      have e : DataW.weights Try.prog 36 (DataW.agg [DataW.lit (Lit.string s0.data.toList), DataW.lit (Lit.string s1.data.toList)] : DataW H) = [s0.data.toList.length, s1.data.toList.length] := by
        simp only [DataW.weights, Try.underlying36]
        rfl
      show x ∈ DataW.weightsEach Try.prog (31 :: 31 :: 41 :: 45 :: 36 :: _) (_ :: _ :: _ :: _ :: _ :: _)
      simp only [DataW.weightsEach]
      refine List.mem_append_right _ (List.mem_append_right _ (List.mem_append_right _ (List.mem_append_right _ (List.mem_append_left _ ?_))))
      exact (by
        have e' := e
        show x ∈ DataW.weights Try.prog 36 _
        rw [e]; exact hx)
    exact ⟨u _ (by simp), u _ (by simp)⟩
  have ra4 : AV.rel noMu (kvAV s0.data.toList s1.data.toList) (.agg cs4) := by simp only [kvAV, AV.rel]; exact ⟨cs4, rfl, hr4⟩
  have fin : ∀ (hp : Go.Am.H) (kv : AV) (ks : List (List UInt8)) (μ : Mu), KV hp kv ks → Rel μ hp W → (∀ id b d, hp.base ≤ id → μ id = some (b, d) → (hp.get id).live = false) → AV.rel μ kv c6 →
      Calls Try.prog 6 #[v0, v1, v2, .agg cs3, .agg cs4] W fun e W' => e = .returned (.bool true) ∧ Below W.heap.size W W' := by
    intro hp kv ks μ hkv hR hb hv6
    have up : ∀ (a : AV) (v : Value), AV.rel noMu a v → AV.rel μ a v := fun a v h => AV.rel_mono (fun _ _ h => by cases h) a v h
    obtain ⟨as0, cs0, hs0, rfl, hr0, _⟩ := agg_shapeL (μ := μ) (ts := [9, 2, 21, 21, 9, 4]) Try.underlying31 (by kernel_rfl) (by kernel_rfl) (hval0 0 31 v0 rfl rfl)
    obtain ⟨ckey, cw, cl, ct, cval, cdel, rfl⟩ := shapeC hs0
    obtain ⟨as1, cs1, hs1, rfl, hr1, _⟩ := agg_shapeL (μ := μ) (ts := [9, 2, 21, 21, 9, 4]) Try.underlying31 (by kernel_rfl) (by kernel_rfl) (hval0 1 31 v1 rfl rfl)
    obtain ⟨dkey, dw, dl, dt, dval, ddel, rfl⟩ := shapeC hs1
    obtain ⟨as2, cs2, hs2, rfl, hr2, _⟩ := agg_shapeL (μ := μ) (ts := [9, 21, 21, 2, 21, 21, 9, 2, 21, 21, 9, 4]) Try.underlying41 (by kernel_rfl) (by kernel_rfl) (hval0 2 41 v2 rfl rfl)
    obtain ⟨ikey, inn, im, ibw, ibl, ibt, ian, iw, il, it, ival, idel, rfl⟩ := shapeI hs2
    have rb0 : AV.rel μ (ceAV (Str.of ckey) cw cl ct (Str.of cval) cdel) (.agg cs0) := by simp only [ceAV, AV.rel]; exact ⟨cs0, rfl, hr0⟩
    have rb1 : AV.rel μ (ceAV (Str.of dkey) dw dl dt (Str.of dval) ddel) (.agg cs1) := by simp only [ceAV, AV.rel]; exact ⟨cs1, rfl, hr1⟩
    have rb2 : AV.rel μ (inAV (Str.of ikey) inn im ibw ibl ibt (Str.of ian) iw il it (Str.of ival) idel) (.agg cs2) := by simp only [inAV, AV.rel]; exact ⟨cs2, rfl, hr2⟩
    have rb3 : AV.rel μ (recAV n m st w l t kv beat pw pl pt) (.agg cs3) := by
      simp only [recAV, AV.rel]
      exact ⟨cs3, rfl, by rw [hcs3]; exact AV.relL_cons_cons.2 ⟨up _ _ g0, AV.relL_cons_cons.2 ⟨up _ _ g1, AV.relL_cons_cons.2 ⟨up _ _ g2, AV.relL_cons_cons.2 ⟨up _ _ g3, AV.relL_cons_cons.2 ⟨up _ _ g4, AV.relL_cons_cons.2 ⟨up _ _ g5, AV.relL_cons_cons.2 ⟨hv6, AV.relL_cons_cons.2 ⟨up _ _ g7, AV.relL_cons_cons.2 ⟨up _ _ g8, AV.relL_cons_cons.2 ⟨up _ _ g9, AV.relL_cons_cons.2 ⟨up _ _ g10, AV.relL_nil.2 rfl⟩⟩⟩⟩⟩⟩⟩⟩⟩⟩⟩⟩
    exact law q6_ok (fun args w => by simp) («as» := [ceAV (Str.of ckey) cw cl ct (Str.of cval) cdel, ceAV (Str.of dkey) dw dl dt (Str.of dval) ddel, inAV (Str.of ikey) inn im ibw ibl ibt (Str.of ian) iw il it (Str.of ival) idel, recAV n m st w l t kv beat pw pl pt, kvAV s0.data.toList s1.data.toList])
      (f6_is hkv bounds.1 bounds.2) hb hR (AV.relL_cons_cons.2 ⟨rb0, AV.relL_cons_cons.2 ⟨rb1, AV.relL_cons_cons.2 ⟨rb2, AV.relL_cons_cons.2 ⟨rb3, AV.relL_cons_cons.2 ⟨up _ _ ra4, AV.relL_nil.2 rfl⟩⟩⟩⟩⟩)
  have main : Calls Try.prog 6 #[v0, v1, v2, .agg cs3, .agg cs4] W fun e W' => e = .returned (.bool true) ∧ Below W.heap.size W W' := by
    rcases strs_in Try.underlying43 Try.underlying9 (by kernel_rfl) hok hy with rfl | ⟨b, o, len, c, tt, ccs, fr, ks, rfl, hlc, hb, hoc, hkl, hcell⟩
    · exact fin H0 .nils [] noMu (.inl ⟨rfl, rfl, rfl⟩) (rel0 W) (fun _ _ _ _ h => by cases h) (by simp only [AV.rel])
    · have hR := rel_in (W := W) (rs := [(b, o, tt, kcells ks)]) fun i r hr => by
        cases i with
        | succ i => cases hr
        | zero =>
          injection hr with hr; subst hr
          refine ⟨ccs, fr, hb, fun j a ha => ?_⟩
          have hj : j < ks.length := by
            have := (List.getElem?_eq_some_iff.1 ha).1
            simpa [kcells] using this
          obtain ⟨s, hs1, hs2⟩ := hcell j hj
          have ea : a = .str (Str.of ks[j]) := by
            have : (kcells ks)[j]? = some (.str (Str.of ks[j])) := by simp [kcells, hj]
            have ha : (kcells ks)[j]? = some a := ha
            rw [this] at ha; injection ha with ha; exact ha.symm
          refine ⟨_, hs1, ?_⟩
          rw [ea]; simp only [AV.rel]
          exact ⟨s, rfl, by rw [hs2]⟩
      refine fin (hK tt ks) (.slice 0 0 ks.length ks.length 1 false) ks (muIn [(b, o, tt, kcells ks)] W) (.inr ⟨tt, ks.length, false, rfl, rfl⟩) hR (in_prot (W := W) (rs := [(b, o, tt, kcells ks)])) ?_
      simp only [AV.rel]
      refine ⟨b, o, c, o, rfl, by rw [hkl], fun _ => rfl, by omega, fun h => (by cases h), Nat.le_refl _, Nat.le_refl _, ?_⟩
      have hz : (muIn [(b, o, tt, kcells ks)] W).sz 0 = ccs.size := by
        show rowSize W b = _
        unfold rowSize; rw [hb]
      rw [hz, Nat.mul_one]; exact hoc
  refine main.mono fun e W' ⟨he, hb⟩ => ?_
  subst he
  exact ⟨_, rfl, post_of_below rfl Try.laidOut (pars_ok (by rw [Try.params6]; kernel_rfl)) hW' hb rfl rfl (fun b sp hd => bool_res (t := 4) (by kernel_rfl) Try.underlying4 true b sp hd)⟩
theorem back_holds : Rows.MvccBackSaid :=
  OpenClaim.holds_of_wide 6 Try.f6 rfl rfl rfl rfl rfl rfl rfl ⟨rfl, rfl, rfl, rfl, rfl⟩ rfl rfl rfl rfl rfl (by kernel_rfl) Try.func6 (by kernel_rfl)
    (of_decide_eq_true (by kernel_rfl)) (by unfold Func.isWrapper; first | (rw [if_pos (by decide +kernel)]; kernel_rfl) | (rw [if_neg (by decide +kernel)]; exact ⟨rfl, rfl⟩))
    (fun os started H enc _ => back_lifted os started H enc)
end Go.Proofs.Ytlbigopkplckaaa
