/- The statement 'MvccCalls': whatever the cell, the intent, the record and the key, the law returns true, and what came in reads as it did. No condition. -/
import Derived.Test.YtlbigopkplckaaaRows
import Derived.Test.YtlbigopkplckaaaSpR
import Derived.WideShapes
namespace Go.Proofs.Ytlbigopkplckaaa
open Go Go.Am Go.ChangeShapes Go.WideShapes Go.ChangeAt Go.RowKit
set_option maxRecDepth 100000
set_option linter.all false
theorem Try.own : ownKnob Try.prog.godebug = none := by kernel_rfl
theorem Try.laidOut : laidOutB Try.prog = true := by kernel_rfl
noncomputable def f4 : AV → AV → AV → Str → H → (Bool → H → Prop) → Prop := s4G J0 pPut pLives pChC pPut pLay pLay pChC pChI pChI pKeep pKeep pLift pLift
theorem q4_ok : FunOk Try.prog 4 (w4 f4) := (fun_ok ty_ok mixed (gam_ok (J := J0) (tab_cons q7_ok (tab_cons q9_ok (tab_cons q11_ok (tab_cons q12_ok (tab_cons q13_ok (tab_cons q14_ok (tab_cons q15_ok (tab_cons q16_ok (tab_cons q17_ok (tab_cons q18_ok (tab_cons q19_ok (tab_cons q20_ok (tab_cons q21_ok (tab_nil fls_fun))))))))))))))) Try.func4 (fun args w => by simp)).imp fun xs h k e0 => by
  obtain ⟨a0, xs0, rfl, e1⟩ := arg_imp e0
  obtain ⟨a1, xs1, rfl, e2⟩ := arg_imp e1
  obtain ⟨a2, xs2, rfl, e3⟩ := arg_imp e2
  obtain ⟨a3, xs3, rfl, e4⟩ := arg_imp e3
  obtain ⟨rfl, e5⟩ := noArg_imp e4
  obtain ⟨a3, rfl, e6⟩ := asS_iff.1 e5
  exact (s4_eq J0 pPut pLives pChC pPut pLay pLay pChC pChI pChI pKeep pKeep pLift pLift a0 a1 a2 a3 h k).mpr e6
theorem shapeC {l : List AV} (h : ShapesL Try.prog [9, 2, 21, 21, 9, 4] l) : ∃ (x0 : List UInt8) (x1 : Int) (x2 : Int) (x3 : Int) (x4 : List UInt8) (x5 : Bool), l = [.str (Str.of x0), .int .i64 x1, .int .i32 x2, .int .i32 x3, .str (Str.of x4), .bool x5] := by
  match l, h with
  | [a0, a1, a2, a3, a4, a5], ⟨h0, h1, h2, h3, h4, h5, _⟩ =>
    unfold ShapeL at h0; rw [Try.underlying9] at h0
    obtain ⟨x0, rfl⟩ := h0
    unfold ShapeL at h1; rw [Try.underlying2] at h1
    obtain ⟨x1, rfl⟩ := h1
    unfold ShapeL at h2; rw [Try.underlying21] at h2
    obtain ⟨x2, rfl⟩ := h2
    unfold ShapeL at h3; rw [Try.underlying21] at h3
    obtain ⟨x3, rfl⟩ := h3
    unfold ShapeL at h4; rw [Try.underlying9] at h4
    obtain ⟨x4, rfl⟩ := h4
    unfold ShapeL at h5; rw [Try.underlying4] at h5
    obtain ⟨x5, rfl⟩ := h5
    exact ⟨x0, x1, x2, x3, x4, x5, rfl⟩
theorem shapeI {l : List AV} (h : ShapesL Try.prog [9, 21, 21, 2, 21, 21, 9, 2, 21, 21, 9, 4] l) : ∃ (x0 : List UInt8) (x1 : Int) (x2 : Int) (x3 : Int) (x4 : Int) (x5 : Int) (x6 : List UInt8) (x7 : Int) (x8 : Int) (x9 : Int) (x10 : List UInt8) (x11 : Bool), l = [.str (Str.of x0), .int .i32 x1, .int .i32 x2, .int .i64 x3, .int .i32 x4, .int .i32 x5, .str (Str.of x6), .int .i64 x7, .int .i32 x8, .int .i32 x9, .str (Str.of x10), .bool x11] := by
  match l, h with
  | [a0, a1, a2, a3, a4, a5, a6, a7, a8, a9, a10, a11], ⟨h0, h1, h2, h3, h4, h5, h6, h7, h8, h9, h10, h11, _⟩ =>
    unfold ShapeL at h0; rw [Try.underlying9] at h0
    obtain ⟨x0, rfl⟩ := h0
    unfold ShapeL at h1; rw [Try.underlying21] at h1
    obtain ⟨x1, rfl⟩ := h1
    unfold ShapeL at h2; rw [Try.underlying21] at h2
    obtain ⟨x2, rfl⟩ := h2
    unfold ShapeL at h3; rw [Try.underlying2] at h3
    obtain ⟨x3, rfl⟩ := h3
    unfold ShapeL at h4; rw [Try.underlying21] at h4
    obtain ⟨x4, rfl⟩ := h4
    unfold ShapeL at h5; rw [Try.underlying21] at h5
    obtain ⟨x5, rfl⟩ := h5
    unfold ShapeL at h6; rw [Try.underlying9] at h6
    obtain ⟨x6, rfl⟩ := h6
    unfold ShapeL at h7; rw [Try.underlying2] at h7
    obtain ⟨x7, rfl⟩ := h7
    unfold ShapeL at h8; rw [Try.underlying21] at h8
    obtain ⟨x8, rfl⟩ := h8
    unfold ShapeL at h9; rw [Try.underlying21] at h9
    obtain ⟨x9, rfl⟩ := h9
    unfold ShapeL at h10; rw [Try.underlying9] at h10
    obtain ⟨x10, rfl⟩ := h10
    unfold ShapeL at h11; rw [Try.underlying4] at h11
    obtain ⟨x11, rfl⟩ := h11
    exact ⟨x0, x1, x2, x3, x4, x5, x6, x7, x8, x9, x10, x11, rfl⟩
theorem shapeR {l : List AV} (h : ShapesL Try.prog [21, 21, 42, 2, 21, 21, 43, 2, 2, 21, 21] l) : ∃ (x0 : Int) (x1 : Int) (x2 : Int) (x3 : Int) (x4 : Int) (x5 : Int) (x7 : Int) (x8 : Int) (x9 : Int) (x10 : Int), l = [.int .i32 x0, .int .i32 x1, .int .u8 x2, .int .i64 x3, .int .i32 x4, .int .i32 x5, .junk, .int .i64 x7, .int .i64 x8, .int .i32 x9, .int .i32 x10] := by
  match l, h with
  | [a0, a1, a2, a3, a4, a5, a6, a7, a8, a9, a10], ⟨h0, h1, h2, h3, h4, h5, h6, h7, h8, h9, h10, _⟩ =>
    unfold ShapeL at h0; rw [Try.underlying21] at h0
    obtain ⟨x0, rfl⟩ := h0
    unfold ShapeL at h1; rw [Try.underlying21] at h1
    obtain ⟨x1, rfl⟩ := h1
    unfold ShapeL at h2; rw [Try.underlying42] at h2
    obtain ⟨x2, rfl⟩ := h2
    unfold ShapeL at h3; rw [Try.underlying2] at h3
    obtain ⟨x3, rfl⟩ := h3
    unfold ShapeL at h4; rw [Try.underlying21] at h4
    obtain ⟨x4, rfl⟩ := h4
    unfold ShapeL at h5; rw [Try.underlying21] at h5
    obtain ⟨x5, rfl⟩ := h5
    unfold ShapeL at h6; rw [Try.underlying43] at h6
    obtain rfl := h6
    unfold ShapeL at h7; rw [Try.underlying2] at h7
    obtain ⟨x7, rfl⟩ := h7
    unfold ShapeL at h8; rw [Try.underlying2] at h8
    obtain ⟨x8, rfl⟩ := h8
    unfold ShapeL at h9; rw [Try.underlying21] at h9
    obtain ⟨x9, rfl⟩ := h9
    unfold ShapeL at h10; rw [Try.underlying21] at h10
    obtain ⟨x10, rfl⟩ := h10
    exact ⟨x0, x1, x2, x3, x4, x5, x7, x8, x9, x10, rfl⟩
theorem calls_lifted (os : Os) (started : os.Started) (H : Type) (enc : TypeId × Value → H) :
    ReturnsInHanded {} Try.checked os 4 .any (Rows.mvccCallsSpec.pre6 enc Try.prog Try.f4 Rows.mvccCallsRow.domain false) (Rows.mvccCallsSpec.post enc Try.prog Try.f4 false true false false) := by
  refine returnsInHanded_of_change (C := Try.checked) Try.own started (by kernel_rfl) Try.func4
    (ChangeSpec.witness6 (enc := enc) (C := Try.checked) false ⟨#[], #[.agg #[.string ⟨#[]⟩, .int .i64 0, .int .i32 0, .int .i32 0, .string ⟨#[]⟩, .bool false],
      .agg #[.string ⟨#[]⟩, .int .i32 0, .int .i32 0, .int .i64 0, .int .i32 0, .int .i32 0, .string ⟨#[]⟩, .int .i64 0, .int .i32 0, .int .i32 0, .string ⟨#[]⟩, .bool false],
      .agg #[.int .i32 0, .int .i32 0, .int .u8 0, .int .i64 0, .int .i32 0, .int .i32 0, .slice none 0 0, .int .i64 0, .int .i64 0, .int .i32 0, .int .i32 0], .string ⟨#[]⟩], []⟩ 8 (by kernel_rfl) (by kernel_rfl) (by kernel_rfl) (by kernel_rfl)) ?_
  intro W base args ds gs before hval0 hW hcnd _
  have hW' := hW
  obtain ⟨p, q, hA, hV, rfl, hfz, hnd⟩ := hW
  rw [Try.params4] at hA hval0
  obtain ⟨v0, vs0, d0, ds0, p0, q0, e0, rfl, rfl, h0, hA⟩ := trodAll_cons hA
  obtain ⟨v1, vs1, d1, ds1, p1, q1, rfl, rfl, rfl, h1, hA⟩ := trodAll_cons hA
  obtain ⟨v2, vs2, d2, ds2, p2, q2, rfl, rfl, rfl, h2, hA⟩ := trodAll_cons hA
  obtain ⟨v3, vs3, d3, ds3, p3, q3, rfl, rfl, rfl, h3, hA⟩ := trodAll_cons hA
  obtain ⟨rfl, rfl, rfl⟩ := trodAll_nil hA
  obtain ⟨rfl, rfl⟩ := trodVars_none hV
  obtain rfl : args = #[v0, v1, v2, v3] := Array.toList_inj.1 e0
  -- the keys of the record
  obtain ⟨as2, cs2, hs2, rfl, hr2, hc2⟩ := agg_shapeL (μ := noMu) (ts := [21, 21, 42, 2, 21, 21, 43, 2, 2, 21, 21]) Try.underlying45 (by kernel_rfl) (by kernel_rfl) (hval0 2 45 v2 rfl rfl)
  obtain ⟨n, m, st, w, l, t, beat, pw, pl, pt, rfl⟩ := shapeR hs2
  simp only [AV.relL_cons, AV.relL_nil] at hr2
  obtain ⟨c0, r0, hcs, g0, c1, r1, rfl, g1, c2, r2, rfl, g2, c3, r3, rfl, g3, c4, r4, rfl, g4, c5, r5, rfl, g5, c6, r6, rfl, _, c7, r7, rfl, g7, c8, r8, rfl, g8, c9, r9, rfl, g9, c10, r10, rfl, g10, rfl⟩ := hr2
  obtain ⟨fuel, ht2⟩ := h2
  have hk : ∃ f y, DataW.trod enc Try.prog W 0 (fun _ => true) true f 43 [c6] = some y := by
    obtain ⟨f', y', hy⟩ := trod_field_at Try.underlying45 ht2 3 rfl
    have e1 : Try.prog.cellsOf 43 = 1 := by kernel_rfl
    have hy : DataW.trod enc Try.prog W 0 (fun _ => true) true f' 43 ((cs2.toList.drop 6).take (Try.prog.cellsOf 43)) = some y' := hy
    rw [hcs, e1] at hy
    exact ⟨f', y', hy⟩
  obtain ⟨f', y', hy⟩ := hk
  have hok : Cell.okWide Try.prog W .any base 43 c6 := by
    obtain ⟨u, hu, hok⟩ := hc2 6 c6 (by rw [hcs]; rfl)
    injection hu with hu; subst hu; exact hok
  have fin : ∀ (hp : Go.Am.H) (kv : AV) (ks : List (List UInt8)) (μ : Mu), KV hp kv ks → Rel μ hp W → (∀ id b d, hp.base ≤ id → μ id = some (b, d) → (hp.get id).live = false) → AV.rel μ kv c6 →
      Calls Try.prog 4 #[v0, v1, .agg cs2, v3] W fun e W' => e = .returned (.bool true) ∧ Below W.heap.size W W' := by
    intro hp kv ks μ hkv hR hb hv6
    have up : ∀ (a : AV) (v : Value), AV.rel noMu a v → AV.rel μ a v := fun a v h => AV.rel_mono (fun _ _ h => by cases h) a v h
    obtain ⟨as0, cs0, hs0, rfl, hr0, _⟩ := agg_shapeL (μ := μ) (ts := [9, 2, 21, 21, 9, 4]) Try.underlying31 (by kernel_rfl) (by kernel_rfl) (hval0 0 31 v0 rfl rfl)
    obtain ⟨ckey, cw, cl, ct, cval, cdel, rfl⟩ := shapeC hs0
    obtain ⟨as1, cs1, hs1, rfl, hr1, _⟩ := agg_shapeL (μ := μ) (ts := [9, 21, 21, 2, 21, 21, 9, 2, 21, 21, 9, 4]) Try.underlying41 (by kernel_rfl) (by kernel_rfl) (hval0 1 41 v1 rfl rfl)
    obtain ⟨ikey, inn, im, ibw, ibl, ibt, ian, iw, il, it, ival, idel, rfl⟩ := shapeI hs1
    obtain ⟨s3, rfl⟩ := okWide_string Try.underlying9 (hval0 3 9 v3 rfl rfl)
    have ra0 : AV.rel μ (ceAV (Str.of ckey) cw cl ct (Str.of cval) cdel) (.agg cs0) := by simp only [ceAV, AV.rel]; exact ⟨cs0, rfl, hr0⟩
    have ra1 : AV.rel μ (inAV (Str.of ikey) inn im ibw ibl ibt (Str.of ian) iw il it (Str.of ival) idel) (.agg cs1) := by simp only [inAV, AV.rel]; exact ⟨cs1, rfl, hr1⟩
    have ra2 : AV.rel μ (recAV n m st w l t kv beat pw pl pt) (.agg cs2) := by
      simp only [recAV, AV.rel]
      exact ⟨cs2, rfl, by rw [hcs]; exact AV.relL_cons_cons.2 ⟨up _ _ g0, AV.relL_cons_cons.2 ⟨up _ _ g1, AV.relL_cons_cons.2 ⟨up _ _ g2, AV.relL_cons_cons.2 ⟨up _ _ g3, AV.relL_cons_cons.2 ⟨up _ _ g4, AV.relL_cons_cons.2 ⟨up _ _ g5, AV.relL_cons_cons.2 ⟨hv6, AV.relL_cons_cons.2 ⟨up _ _ g7, AV.relL_cons_cons.2 ⟨up _ _ g8, AV.relL_cons_cons.2 ⟨up _ _ g9, AV.relL_cons_cons.2 ⟨up _ _ g10, AV.relL_nil.2 rfl⟩⟩⟩⟩⟩⟩⟩⟩⟩⟩⟩⟩
    have ra3 : AV.rel μ (.str (Str.of s3.data.toList)) (.string s3) := by simp only [AV.rel]; exact ⟨s3, rfl, rfl⟩
    exact law q4_ok (fun args w => by simp) («as» := [ceAV (Str.of ckey) cw cl ct (Str.of cval) cdel, inAV (Str.of ikey) inn im ibw ibl ibt (Str.of ian) iw il it (Str.of ival) idel, recAV n m st w l t kv beat pw pl pt, .str (Str.of s3.data.toList)])
      (show f4 _ _ _ _ hp _ from t4 hkv fun h' => rfl) hb hR (AV.relL_cons_cons.2 ⟨ra0, AV.relL_cons_cons.2 ⟨ra1, AV.relL_cons_cons.2 ⟨ra2, AV.relL_cons_cons.2 ⟨ra3, AV.relL_nil.2 rfl⟩⟩⟩⟩)
  have main : Calls Try.prog 4 #[v0, v1, .agg cs2, v3] W fun e W' => e = .returned (.bool true) ∧ Below W.heap.size W W' := by
    rcases strs_in Try.underlying43 Try.underlying9 (by kernel_rfl) hok hy with rfl | ⟨b, o, len, c, tt, ccs, fr, ks, rfl, hlc, hb, hoc, hkl, hcell⟩
    · exact fin H0 .nils [] noMu (.inl ⟨rfl, rfl, rfl⟩) (rel0 W) (fun _ _ _ _ h => by cases h) (by simp only [AV.rel])
    · have hR := rel_in (W := W) (rs := [(b, o, tt, kcells ks)]) fun i r hr => by
        cases i with
        | succ i => cases hr
        | zero =>
          injection hr with hr; subst hr
          refine ⟨ccs, fr, hb, fun j a ha => ?_⟩
          have hj : j < ks.length := by
            have := (List.getElem?_eq_some_iff.1 ha).1
            simpa [kcells] using this
          obtain ⟨s, hs1, hs2⟩ := hcell j hj
          have ea : a = .str (Str.of ks[j]) := by
            have : (kcells ks)[j]? = some (.str (Str.of ks[j])) := by simp [kcells, hj]
            have ha : (kcells ks)[j]? = some a := ha
            rw [this] at ha; injection ha with ha; exact ha.symm
          refine ⟨_, hs1, ?_⟩
          rw [ea]; simp only [AV.rel]
          exact ⟨s, rfl, by rw [hs2]⟩
      refine fin (hK tt ks) (.slice 0 0 ks.length ks.length 1 false) ks (muIn [(b, o, tt, kcells ks)] W) (.inr ⟨tt, ks.length, false, rfl, rfl⟩) hR (in_prot (W := W) (rs := [(b, o, tt, kcells ks)])) ?_
      simp only [AV.rel]
      refine ⟨b, o, c, o, rfl, by rw [hkl], fun _ => rfl, by omega, fun h => (by cases h), Nat.le_refl _, Nat.le_refl _, ?_⟩
      have hz : (muIn [(b, o, tt, kcells ks)] W).sz 0 = ccs.size := by
        show rowSize W b = _
        unfold rowSize; rw [hb]
      rw [hz, Nat.mul_one]; exact hoc
  refine main.mono fun e W' ⟨he, hb⟩ => ?_
  subst he
  exact ⟨_, rfl, post_of_below rfl Try.laidOut (pars_ok (by rw [Try.params4]; kernel_rfl)) hW' hb rfl rfl (fun b sp hd => bool_res (t := 4) (by kernel_rfl) Try.underlying4 true b sp hd)⟩
theorem calls_holds : Rows.MvccCallsSaid :=
  OpenClaim.holds_of_wide 4 Try.f4 rfl rfl rfl rfl rfl rfl rfl ⟨rfl, rfl, rfl, rfl, rfl⟩ rfl rfl rfl rfl rfl (by kernel_rfl) Try.func4 (by kernel_rfl)
    (of_decide_eq_true (by kernel_rfl)) (by unfold Func.isWrapper; first | (rw [if_pos (by decide +kernel)]; kernel_rfl) | (rw [if_neg (by decide +kernel)]; exact ⟨rfl, rfl⟩))
    (fun os started H enc _ => calls_lifted os started H enc)
end Go.Proofs.Ytlbigopkplckaaa
