/- The statement 'MvccNil': whatever the span and the transaction, the law returns true, and what came in reads as it did. No condition. -/
import Derived.Test.YtjbdhjpfokiimaaGreatRows
import Derived.Test.YtjbdhjpfokiimaaGreatAmS0
import Derived.Test.YtjbdhjpfokiimaaGreatAmArgs
import Derived.WideShapes
namespace Go.Proofs.YtjbdhjpfokiimaaGreat
open Go Go.Am Go.ChangeShapes Go.WideShapes Go.ChangeAt Go.RowKit
set_option maxRecDepth 100000

theorem Tryz.own : ownKnob Tryz.prog.godebug = none := by kernel_rfl
theorem Tryz.laidOut : laidOutB Tryz.prog = true := by kernel_rfl
theorem nil_run : (AV.bool true = AV.bool true) = g3 [.agg [.junk, .junk], .agg [.junk, .junk]] H0 isT := by kernel_rfl

theorem nil_lifted (os : Os) (started : os.Started) (H : Type) (enc : TypeId × Value → H) :
    ReturnsInHanded {} Tryz.checked os 3 .any (Rows.mvccNilSpec.pre6 enc Tryz.prog Tryz.f3 Rows.mvccNilRow.domain false) (Rows.mvccNilSpec.post enc Tryz.prog Tryz.f3 false true false false) := by
  refine returnsInHanded_of_change (C := Tryz.checked) Tryz.own started (by kernel_rfl) Tryz.func3
    (ChangeSpec.witness6 (enc := enc) (C := Tryz.checked) false ⟨#[], #[.agg #[.string ⟨#[]⟩, .string ⟨#[]⟩], .agg #[.int .i32 0, .int .i32 0]], []⟩ 8 (by kernel_rfl) (by kernel_rfl) (by kernel_rfl) (by kernel_rfl)) ?_
  intro W base args ds gs before hval0 hW hcnd _
  have hW' := hW
  obtain ⟨p, q, hA, hV, rfl, hfz, hnd⟩ := hW
  rw [Tryz.params3] at hA hval0
  obtain ⟨v0, vs0, d0, ds0, p0, q0, e0, rfl, rfl, h0, hA⟩ := trodAll_cons hA
  obtain ⟨v1, vs1, d1, ds1, p1, q1, rfl, rfl, rfl, h1, hA⟩ := trodAll_cons hA
  obtain ⟨rfl, rfl, rfl⟩ := trodAll_nil hA
  obtain ⟨rfl, rfl⟩ := trodVars_none hV
  obtain rfl : args = #[v0, v1] := Array.toList_inj.1 e0
  have r0 : AV.rel noMu (.agg [.junk, .junk]) v0 := agg_junk (n := 2) Tryz.underlying23 (by kernel_rfl) (hval0 0 23 v0 rfl rfl)
  have r1 : AV.rel noMu (.agg [.junk, .junk]) v1 := agg_junk (n := 2) Tryz.underlying25 (by kernel_rfl) (hval0 1 25 v1 rfl rfl)
  refine (law0 g3_ok (fun args w => by simp) (of_run nil_run) (AV.relL_cons_cons.2 ⟨r0, AV.relL_cons_cons.2 ⟨r1, AV.relL_nil.2 rfl⟩⟩)).mono fun e W' ⟨he, hb⟩ => ?_
  subst he
  exact ⟨_, rfl, post_of_below rfl Tryz.laidOut (pars_ok (by rw [Tryz.params3]; kernel_rfl)) hW' hb rfl rfl (fun b sp hd => bool_res (t := 4) (by kernel_rfl) Tryz.underlying4 true b sp hd)⟩

theorem nil_holds : Rows.MvccNilSaid :=
  OpenClaim.holds_of_wide 3 Tryz.f3 rfl rfl rfl rfl rfl rfl rfl ⟨rfl, rfl, rfl, rfl, rfl⟩ rfl rfl rfl rfl rfl (by kernel_rfl) Tryz.func3 (by kernel_rfl)
    (of_decide_eq_true (by kernel_rfl)) (by unfold Func.isWrapper; first | (rw [if_pos (by decide +kernel)]; kernel_rfl) | (rw [if_neg (by decide +kernel)]; exact ⟨rfl, rfl⟩))
    (fun os started H enc _ => nil_lifted os started H enc)
end Go.Proofs.YtjbdhjpfokiimaaGreat
