/- The law 'CoordNames', lifted: it returns true from every fit start. No condition. -/
import Derived.Test.YtgpndbkghmbacaaGreatDoorCards
import Derived.Test.YtgpndbkghmbacaaGreatDoorAmS17
import Derived.Test.YtgpndbkghmbacaaGreatDoorAmL7
import Derived.Lay
import Derived.LaidLaws
import Derived.MakeChecks
import Derived.SevenTiedAt
import Derived.Test.YtgpndbkghmbacaaGreatDoorCoordNamesR
import Derived.Test.YtgpndbkghmbacaaGreatDoorCoordNamesV
import Derived.Test.YtgpndbkghmbacaaGreatDoorCoordNamesW
namespace Go.Proofs.YtgpndbkghmbacaaGreatDoor
open Go Go.Am Go.ChangeShapes Go.WideShapes Go.ChangeAt Go.RowKit
set_option maxRecDepth 100000
theorem hg_is (ts us : Nat → Nat) : Hg (glBlks Tryz.prog Rows.coordNamesRow.laid ts us) = HgLit ts us := by kernel_rfl
theorem law_ok (ts us : Nat → Nat)  : Holds (g3 (lawArgs) (Hg (glBlks Tryz.prog Rows.coordNamesRow.laid ts us)) isT) := by
  rw [hg_is]
  exact holds_of_run (law_run ts us)
set_option maxHeartbeats 4000000 in
theorem law_lifted (os : Os) (started : os.Started) (H : Type) (enc : TypeId × Value → H) :
    ReturnsInHanded {} Tryz.checked os 3 .any (fun w args => (Rows.coordNamesSpec.pre enc Tryz.prog Tryz.f3 Rows.coordNamesRow.domain false w args ∧ laidMetH Tryz.prog Rows.coordNamesRow.laid w) ∧ sizedMet enc Tryz.prog Tryz.f3 (OpenSpec.ofChange Rows.coordNamesSpec) false w args) (Rows.coordNamesSpec.post enc Tryz.prog Tryz.f3 false true false false) := by
  refine returnsInHanded_of_change_and (C := Tryz.checked) (X := fun w _ => laidMetH Tryz.prog Rows.coordNamesRow.laid w) (fun _ _ _ hh h => h.of_heap hh) Tryz.own started (by kernel_rfl) Tryz.func3
    (ChangeSpec.witness_shaped (enc := enc) (C := Tryz.checked) (X := fun w _ => laidMetH Tryz.prog Rows.coordNamesRow.laid w) false (World.laidAll Tryz.prog os Rows.coordNamesRow.laid) #[] 8 (World.laidAll_os _ _ _) (World.shaped_of_ZipB (wit_z os) (wit_r os)) (wit_o os) (wit_p enc os) (wit_s enc os)
      (by rw [MakeChecks.laidMetH_plain _ _ _ wit_n]; exact laidMet_laidAll _ (wit_f os) (wit_i os))) ?_
  intro W base args ds gs before hval0 hW _ _ hL _
  have hW' := hW
  obtain ⟨p, q, hA, hV, rfl, hfz, hnd⟩ := hW
  rw [Tryz.params3] at hA
  obtain ⟨rfl, rfl, rfl⟩ := trodAll_none hA
  obtain ⟨rfl, rfl⟩ := trodVars_none hV
  refine (lawG g3_ok (fun args w => by simp) hL wit_h (fun μ => AV.relL_nil.2 rfl) (fun ts us => law_ok ts us)).mono fun e W' ⟨he, hb⟩ => ?_
  subst he
  exact ⟨_, rfl, post_of_below rfl Tryz.laidOut (pars_ok (by rw [Tryz.params3]; kernel_rfl)) hW' hb rfl rfl (fun b sp hd => bool_res (t := 4) (by kernel_rfl) Tryz.underlying4 true b sp hd)⟩
end Go.Proofs.YtgpndbkghmbacaaGreatDoor
