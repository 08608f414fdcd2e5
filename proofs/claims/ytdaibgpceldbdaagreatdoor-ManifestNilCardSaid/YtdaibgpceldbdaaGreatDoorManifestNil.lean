/- The statement 'ManifestNil', tied: whatever the edit, the law returns true, and what came in reads as it did. The listed package variables read as the program's text lays them. -/
import Derived.Test.YtdaibgpceldbdaaGreatDoorCards
import Derived.Test.YtdaibgpceldbdaaGreatDoorTie
import Derived.Test.YtdaibgpceldbdaaGreatDoorAmS4
import Derived.Test.YtdaibgpceldbdaaGreatDoorAmArgs
import Derived.Lay
import Derived.LaidLaws
import Derived.MakeChecks
import Derived.SevenTiedAt
namespace Go.Proofs.YtdaibgpceldbdaaGreatDoor
open Go Go.Am Go.ChangeShapes Go.WideShapes Go.ChangeAt Go.RowKit
set_option maxRecDepth 100000
theorem Tryz.own : ownKnob Tryz.prog.godebug = none := by kernel_rfl
theorem Tryz.laidOut : laidOutB Tryz.prog = true := by kernel_rfl
theorem nil_run (x0 n t : Int) : (AV.bool true = AV.bool true) = g4 [.agg [.junk, .junk, .int .i64 x0, .int .i64 n, .int .i64 t]] H0 isT := by kernel_rfl
theorem nil_shape {l : List AV} (h : Shapes Tryz.prog [31, 32, 3, 3, 3] l) : ∃ x0 x1 x2, l = [.junk, .junk, .int .i64 x0, .int .i64 x1, .int .i64 x2] := by
  match l, h with
  | [a0, a1, a2, a3, a4], ⟨h0, h1, h2, h3, h4, _⟩ =>
    unfold Shape at h0 h1 h2 h3 h4
    rw [Tryz.underlying31] at h0
    rw [Tryz.underlying32] at h1
    rw [Tryz.underlying3] at h2 h3 h4
    obtain rfl := h0
    obtain rfl := h1
    obtain ⟨x0, rfl⟩ := h2
    obtain ⟨x1, rfl⟩ := h3
    obtain ⟨x2, rfl⟩ := h4
    exact ⟨x0, x1, x2, rfl⟩
theorem nil_ok (x0 n t : Int) : Holds (g4 [.agg [.junk, .junk, .int .i64 x0, .int .i64 n, .int .i64 t]] H0 isT) := holds_of_run (nil_run x0 n t)
theorem nil_all {l : List AV} (h : Shapes Tryz.prog [31, 32, 3, 3, 3] l) : Holds (g4 [.agg l] H0 isT) :=
  (nil_shape h).elim fun x0 h => h.elim fun x1 h => h.elim fun x2 e => Eq.subst (motive := fun l => Holds (g4 [.agg l] H0 isT)) e.symm (nil_ok x0 x1 x2)
set_option maxHeartbeats 4000000 in
theorem nil_lifted (os : Os) (started : os.Started) (H : Type) (enc : TypeId × Value → H) :
    ReturnsInHanded {} Tryz.checked os 4 .any (fun w args => (Rows.manifestNilSpec.pre enc Tryz.prog Tryz.f4 Rows.manifestNilRow.domain false w args ∧ laidMetH Tryz.prog Rows.manifestNilRow.laid w) ∧ sizedMet enc Tryz.prog Tryz.f4 (OpenSpec.ofChange Rows.manifestNilSpec) false w args) (Rows.manifestNilSpec.post enc Tryz.prog Tryz.f4 false true false false) := by
  refine returnsInHanded_of_change_and (C := Tryz.checked) (X := fun w _ => laidMetH Tryz.prog Rows.manifestNilRow.laid w) (fun _ _ _ hh h => h.of_heap hh) Tryz.own started (by kernel_rfl) Tryz.func4
    (ChangeSpec.witness_shaped (enc := enc) (C := Tryz.checked) (X := fun w _ => laidMetH Tryz.prog Rows.manifestNilRow.laid w) false (World.laidAll Tryz.prog os Rows.manifestNilRow.laid) #[.agg #[.slice none 0 0, .slice none 0 0, .int .i64 0, .int .i64 0, .int .i64 0]] 8 (World.laidAll_os _ _ _) (World.shaped_of_ZipB (by kernel_rfl) (by kernel_rfl)) (by kernel_rfl) (by kernel_rfl) (by kernel_rfl)
      (by rw [MakeChecks.laidMetH_plain _ _ _ (by kernel_rfl)]; exact laidMet_laidAll _ (by kernel_rfl) (by kernel_rfl))) ?_
  intro W base args ds gs before hval0 hW _ _ hL _
  have hW' := hW
  obtain ⟨p, q, hA, hV, rfl, hfz, hnd⟩ := hW
  rw [Tryz.params4] at hA hval0
  obtain ⟨v0, vs0, d0, ds0, p0, q0, e0, rfl, rfl, h0, hA⟩ := trodAll_cons hA
  obtain ⟨rfl, rfl, rfl⟩ := trodAll_nil hA
  obtain ⟨rfl, rfl⟩ := trodVars_none hV
  obtain rfl : args = #[v0] := Array.toList_inj.1 e0
  obtain ⟨l0, hs, r0⟩ := agg_shape (μ := noMu) (ts := [31, 32, 3, 3, 3]) Tryz.underlying34 (by kernel_rfl) (by kernel_rfl) (hval0 0 34 v0 rfl rfl)
  refine (law0h g4_ok (fun args w => by simp) (nil_all hs) (AV.relL_cons_cons.2 ⟨r0, AV.relL_nil.2 rfl⟩)).mono fun e W' ⟨he, hb⟩ => ?_
  subst he
  exact ⟨_, rfl, post_of_below rfl Tryz.laidOut (pars_ok (by rw [Tryz.params4]; kernel_rfl)) hW' hb rfl rfl (fun b sp hd => bool_res (t := 4) (by kernel_rfl) Tryz.underlying4 true b sp hd)⟩

theorem nil_row : Rows.ManifestNilSaid :=
  OpenClaim.holds_of_wide 4 Tryz.f4 rfl rfl rfl rfl rfl rfl rfl ⟨rfl, rfl, rfl, rfl, rfl⟩ rfl rfl rfl rfl rfl (by kernel_rfl) Tryz.func4 (by kernel_rfl)
    (of_decide_eq_true (by kernel_rfl)) (by unfold Func.isWrapper; first | (rw [if_pos (by decide +kernel)]; kernel_rfl) | (rw [if_neg (by decide +kernel)]; exact ⟨rfl, rfl⟩))
    (fun os started H enc _ => nil_lifted os started H enc)
theorem nil_holds : Rows.ManifestNilCardSaid :=
  Claim7.holds_tied_plain_at .later [] [.data, .data, .data, .sentinel, .sentinel] true (true, "5159fd5d1557fa99b1f242973c2cda931f613c6edc99684a5ad67aa69a0314cb") true
    nil_row (fun _ h => by cases h) (by kernel_rfl) (fun _ h => by cases h) manifestNil_row_tie rfl ⟨rfl, rfl⟩ (by kernel_rfl) rfl
    (fun f fn hf hfn => by
      obtain rfl : f = 4 := Option.some.inj ((show Tryz.prog.funcNamed "stagepost/stagepostlaw10.ManifestNil" = some 4 by kernel_rfl).symm.trans hf) |>.symm
      obtain rfl : fn = Tryz.f4 := (Option.some.inj (Tryz.func4.symm.trans hfn)).symm
      exact ⟨by kernel_rfl, fun j t ht => by
        rw [Tryz.params4] at ht
        rcases j with _ | j
        · obtain rfl : t = 34 := by simpa using ht.symm
          exact (show Tryz.prog.wantsStandIn 34 = false by kernel_rfl)
        · simp at ht⟩)
    (by kernel_rfl)
end Go.Proofs.YtdaibgpceldbdaaGreatDoor
