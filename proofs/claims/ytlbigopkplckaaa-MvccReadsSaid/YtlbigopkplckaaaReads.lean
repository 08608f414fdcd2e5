/- The statement 'MvccReads': whatever the key and the value, the law returns true, and what came in reads as it did. No condition. -/
import Derived.Test.YtlbigopkplckaaaRows
import Derived.Test.YtlbigopkplckaaaRdR
import Derived.WideShapes
import Derived.SizedLaws
import Derived.ChangeSame
namespace Go.Proofs.Ytlbigopkplckaaa
open Go Go.Am Go.ChangeShapes Go.WideShapes Go.ChangeAt Go.RowKit
set_option maxRecDepth 100000
set_option linter.all false
theorem Try.own : ownKnob Try.prog.godebug = none := by kernel_rfl
theorem Try.laidOut : laidOutB Try.prog = true := by kernel_rfl
noncomputable def f5 : AV → H → (Bool → H → Prop) → Prop := s5G J0 pLives pCell pCell pInt pInt pRec pRec pSame
theorem q5_ok : FunOk Try.prog 5 (w5 f5) := (fun_ok ty_ok mixed (gam_ok (J := J0) (tab_cons q9_ok (tab_cons q10_ok (tab_cons q22_ok (tab_cons q23_ok (tab_cons q24_ok (tab_cons q25_ok (tab_cons q26_ok (tab_cons q27_ok (tab_nil fls_fun)))))))))) Try.func5 (fun args w => by simp)).imp fun xs h k e0 => by
  obtain ⟨a0, xs0, rfl, e1⟩ := arg_imp e0
  obtain ⟨rfl, e2⟩ := noArg_imp e1
  exact (s5_eq J0 pLives pCell pCell pInt pInt pRec pRec pSame a0 h k).mpr e2
theorem shapeK {l : List AV} (h : ShapesL Try.prog [9, 9] l) : ∃ (x0 x1 : List UInt8), l = [.str (Str.of x0), .str (Str.of x1)] := by
  match l, h with
  | [a0, a1], ⟨h0, h1, _⟩ =>
    unfold ShapeL at h0; rw [Try.underlying9] at h0
    obtain ⟨x0, rfl⟩ := h0
    unfold ShapeL at h1; rw [Try.underlying9] at h1
    obtain ⟨x1, rfl⟩ := h1
    exact ⟨x0, x1, rfl⟩
theorem reads_lifted (os : Os) (started : os.Started) (H : Type) (enc : TypeId × Value → H) :
    ReturnsInHanded {} Try.checked os 5 .any (Rows.mvccReadsSpec.pre6 enc Try.prog Try.f5 Rows.mvccReadsRow.domain false) (Rows.mvccReadsSpec.post enc Try.prog Try.f5 false true false false) := by
  refine returnsInHanded_of_change_sized (C := Try.checked) Try.own started (by kernel_rfl) Try.func5
    (ChangeSpec.witness6 (enc := enc) (C := Try.checked) false ⟨#[], #[.agg #[.string ⟨#[]⟩, .string ⟨#[]⟩]], []⟩ 8 (by kernel_rfl) (by kernel_rfl) (by kernel_rfl) (by kernel_rfl)) ?_
  intro W base args ds gs before hval0 hW hcnd hsz _
  have hW' := hW
  obtain ⟨p, q, hA, hV, rfl, hfz, hnd⟩ := hW
  rw [Try.params5] at hA hval0 hsz
  obtain ⟨v0, vs0, d0, ds0, p0, q0, e0, rfl, rfl, h0, hA⟩ := trodAll_cons hA
  obtain ⟨rfl, rfl, rfl⟩ := trodAll_nil hA
  obtain ⟨rfl, rfl⟩ := trodVars_none hV
  obtain rfl : args = #[v0] := Array.toList_inj.1 e0
  obtain ⟨as0, cs0, hs0, rfl, hr0, _⟩ := agg_shapeL (μ := noMu) (ts := [9, 9]) Try.underlying36 (by kernel_rfl) (by kernel_rfl) (hval0 0 36 v0 rfl rfl)
  obtain ⟨K, V, rfl⟩ := shapeK hs0
  have hr0' := hr0
  simp only [AV.relL_cons, AV.relL_nil, AV.rel] at hr0'
  obtain ⟨c0, r0, hcs, ⟨s0, rfl, hk0⟩, c1, r1, rfl, ⟨s1, rfl, hk1⟩, rfl⟩ := hr0'
  obtain rfl := Str.of_inj hk0
  obtain rfl := Str.of_inj hk1
  have bounds : s0.data.toList.length ≤ 140737488351232 ∧ s1.data.toList.length ≤ 140737488351232 := by
    obtain ⟨fuel, ht⟩ := h0
    have ht : DataW.trod enc Try.prog W 0 (fun _ => true) true fuel 36 cs0.toList = some (d0, p0) := ht
    obtain ⟨y0, y1, n, hx, _, hy0, hy1⟩ := trod_struct2 Try.underlying36 ht
    rw [hcs] at hy0 hy1
    have c9 : Try.prog.cellsOf 9 = 1 := by kernel_rfl
    have hy0 : DataW.trod enc Try.prog W 0 (fun _ => true) true n 9 (([Value.string s0, .string s1].drop 0).take (Try.prog.cellsOf 9)) = some y0 := hy0
    have hy1 : DataW.trod enc Try.prog W 0 (fun _ => true) true n 9 (([Value.string s0, .string s1].drop 1).take (Try.prog.cellsOf 9)) = some y1 := hy1
    rw [c9] at hy0 hy1
    obtain ⟨z0, hz0, rfl, _⟩ := DataW.trod_string Try.underlying9 hy0
    obtain ⟨z1, hz1, rfl, _⟩ := DataW.trod_string Try.underlying9 hy1
    injection hz0 with hz0; injection hz0 with hz0
    injection hz1 with hz1; injection hz1 with hz1
    subst hz0 hz1
    injection hx with hx _
    subst hx
    have hw := List.all_eq_true.1 hsz
    have u : ∀ x ∈ [s0.data.toList.length, s1.data.toList.length], x ≤ reachBytes := fun x hx => by
      refine of_decide_eq_true (hw x ?_)
      have e : DataW.weights Try.prog 36 (DataW.agg [DataW.lit (Lit.string s0.data.toList), DataW.lit (Lit.string s1.data.toList)] : DataW H) = [s0.data.toList.length, s1.data.toList.length] := by
        simp only [DataW.weights, Try.underlying36]
        rfl
      show x ∈ DataW.weightsEach Try.prog (36 :: _) (_ :: _)
      simp only [DataW.weightsEach]
      exact List.mem_append_left _ (by
        have e' := e
        show x ∈ DataW.weights Try.prog 36 _
        rw [e]; exact hx)
    exact ⟨u _ (by simp), u _ (by simp)⟩
  have ra0 : AV.rel noMu (kvAV s0.data.toList s1.data.toList) (.agg cs0) := by simp only [kvAV, AV.rel]; exact ⟨cs0, rfl, hr0⟩
  have main : Calls Try.prog 5 #[.agg cs0] W fun e W' => e = .returned (.bool true) ∧ Below W.heap.size W W' :=
    law0 q5_ok (fun args w => by simp) («as» := [kvAV s0.data.toList s1.data.toList]) (show f5 _ H0 _ from t5 bounds.1 bounds.2 fun h' => rfl) (AV.relL_cons_cons.2 ⟨ra0, AV.relL_nil.2 rfl⟩)
  refine main.mono fun e W' ⟨he, hb⟩ => ?_
  subst he
  exact ⟨_, rfl, post_of_below rfl Try.laidOut (pars_ok (by rw [Try.params5]; kernel_rfl)) hW' hb rfl rfl (fun b sp hd => bool_res (t := 4) (by kernel_rfl) Try.underlying4 true b sp hd)⟩
theorem reads_holds : Rows.MvccReadsSaid :=
  OpenClaim.holds_of_wide 5 Try.f5 rfl rfl rfl rfl rfl rfl rfl ⟨rfl, rfl, rfl, rfl, rfl⟩ rfl rfl rfl rfl rfl (by kernel_rfl) Try.func5 (by kernel_rfl)
    (of_decide_eq_true (by kernel_rfl)) (by unfold Func.isWrapper; first | (rw [if_pos (by decide +kernel)]; kernel_rfl) | (rw [if_neg (by decide +kernel)]; exact ⟨rfl, rfl⟩))
    (fun os started H enc _ => reads_lifted os started H enc)
end Go.Proofs.Ytlbigopkplckaaa
