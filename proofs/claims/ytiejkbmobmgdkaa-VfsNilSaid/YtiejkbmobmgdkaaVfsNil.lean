/- The statement 'VfsNil': whatever the act, the law returns true, and what came in reads as it did. No condition. -/
import Derived.Test.YtiejkbmobmgdkaaRows
import Derived.Test.YtiejkbmobmgdkaaAmS3
import Derived.Test.YtiejkbmobmgdkaaAmArgs
namespace Go.Proofs.Ytiejkbmobmgdkaa
open Go Go.Am Go.ChangeShapes Go.WideShapes Go.ChangeAt Go.RowKit
set_option maxRecDepth 100000
theorem Try.own : ownKnob Try.prog.godebug = none := by kernel_rfl
theorem Try.laidOut : laidOutB Try.prog = true := by kernel_rfl
theorem nil_run (x0 : Int) (nm oth : Str) (n t : Int) : (AV.bool true = AV.bool true) = g8 [.agg [.int .i64 x0, .str nm, .str oth, .int .i64 n, .int .i64 t, .junk]] H0 isT := by kernel_rfl
theorem nil_all {l : List AV} (h : Shapes Try.prog [3, 9, 9, 3, 3, 31] l) : g8 [.agg l] H0 isT := by
  match l, h with
  | [a0, a1, a2, a3, a4, a5], ⟨h0, h1, h2, h3, h4, h5, _⟩ =>
    unfold Shape at h0 h1 h2 h3 h4 h5
    rw [Try.underlying3] at h0 h3 h4
    rw [Try.underlying9] at h1 h2
    rw [Try.underlying31] at h5
    obtain ⟨x0, rfl⟩ := h0
    obtain ⟨x1, rfl⟩ := h1
    obtain ⟨x2, rfl⟩ := h2
    obtain ⟨x3, rfl⟩ := h3
    obtain ⟨x4, rfl⟩ := h4
    obtain rfl := h5
    exact of_run (nil_run x0 x1 x2 x3 x4)
set_option maxHeartbeats 4000000 in
theorem nil_lifted (os : Os) (started : os.Started) (H : Type) (enc : TypeId × Value → H) :
    ReturnsInHanded {} Try.checked os 8 .any (Rows.vfsNilSpec.pre6 enc Try.prog Try.f8 Rows.vfsNilRow.domain false) (Rows.vfsNilSpec.post enc Try.prog Try.f8 false true false false) := by
  refine returnsInHanded_of_change (C := Try.checked) Try.own started (by kernel_rfl) Try.func8
    (ChangeSpec.witness6 (enc := enc) (C := Try.checked) false ⟨#[], #[.agg #[.int .i64 0, .string ⟨#[]⟩, .string ⟨#[]⟩, .int .i64 0, .int .i64 0, .slice none 0 0]], []⟩ 8 (by kernel_rfl) (by kernel_rfl) (by kernel_rfl) (by kernel_rfl)) ?_
  intro W base args ds gs before hval0 hW hcnd _
  have hW' := hW
  obtain ⟨p, q, hA, hV, rfl, hfz, hnd⟩ := hW
  rw [Try.params8] at hA hval0
  obtain ⟨v0, vs0, d0, ds0, p0, q0, e0, rfl, rfl, h0, hA⟩ := trodAll_cons hA
  obtain ⟨rfl, rfl, rfl⟩ := trodAll_nil hA
  obtain ⟨rfl, rfl⟩ := trodVars_none hV
  obtain rfl : args = #[v0] := Array.toList_inj.1 e0
  obtain ⟨l0, hs, r0⟩ := agg_shape (μ := noMu) (ts := [3, 9, 9, 3, 3, 31]) Try.underlying44 (by kernel_rfl) (by kernel_rfl) (hval0 0 44 v0 rfl rfl)
  refine (law0 g8_ok (fun args w => by simp) (nil_all hs) (AV.relL_cons_cons.2 ⟨r0, AV.relL_nil.2 rfl⟩)).mono fun e W' ⟨he, hb⟩ => ?_
  subst he
  exact ⟨_, rfl, post_of_below rfl Try.laidOut (pars_ok (by rw [Try.params8]; kernel_rfl)) hW' hb rfl rfl (fun b sp hd => bool_res (t := 4) (by kernel_rfl) Try.underlying4 true b sp hd)⟩

theorem nil_holds : Rows.VfsNilSaid :=
  OpenClaim.holds_of_wide 8 Try.f8 rfl rfl rfl rfl rfl rfl rfl ⟨rfl, rfl, rfl, rfl, rfl⟩ rfl rfl rfl rfl rfl (by kernel_rfl) Try.func8 (by kernel_rfl)
    (of_decide_eq_true (by kernel_rfl)) (by unfold Func.isWrapper; first | (rw [if_pos (by decide +kernel)]; kernel_rfl) | (rw [if_neg (by decide +kernel)]; exact ⟨rfl, rfl⟩))
    (fun os started H enc _ => nil_lifted os started H enc)
end Go.Proofs.Ytiejkbmobmgdkaa
