/- parser.catch, deferred by a frame that returns: nothing was thrown, and nothing is done. -/
import Derived.Test.YtgpndbkghmbacaaGreatDoorAmS2
import Derived.RecoverIn
import Derived.TacticsInMore
import Derived.RegionIn
import Derived.LoopNIn
import Derived.Tactics2
namespace Go.Proofs.YtgpndbkghmbacaaGreatDoor
open Go Go.Am
set_option linter.all false
theorem catch61_idle (v : Value) (w : World) (n : Nat) : CallsDIn Fence.wide n Tryz.prog 61 #[v] .returning w fun e u' w' => e = .returned (.tuple #[]) ∧ u' = .returning ∧ w' = w := by
  refine callsDIn_of_wpSIn Tryz.func61 rfl trivial fun c₀ cs hu => ?_
  apply wpSIn_seq
  apply wpSIn_region
  simp [wpOpsSIn, go_sem, recoverD, hu, Tryz.ntmps61, Exit.thenS]
  refine wpSIn_of_wpIn rfl ?_
  cases c₀
  gi_wp2
  all_goals simp_all [bodyPostS, results, Tryz.results61]
noncomputable def gd61 : Fun := fun l h k => match l with
  | [_] => k (.tuple []) h
  | _ => False
theorem gd61_ok : DFunOk Tryz.prog 61 gd61 := by
  intro l h Q e μ w args hR ha
  unfold gd61 at e
  split at e
  · rename_i x
    obtain ⟨v, _, hv, hx, hn⟩ := AV.relL_cons.1 ha
    rw [AV.relL_nil] at hn; subst hn
    have : args = #[v] := Array.toList_inj.1 hv
    subst this
    exact ⟨by simp, fun n => CallsDIn.mono (catch61_idle v w n) fun e' u' w' ⟨h1, h2, h3⟩ => by subst h1 h2 h3; exact ⟨rfl, .tuple #[], μ, .tuple [], h, rfl, by simp [AV.rel, AV.relL], Post.refl hR, e⟩⟩
  · exact e.elim
noncomputable def g61' : Fun := g61
theorem g61'_ok : FunOk Tryz.prog 61 g61' := g61_ok
end Go.Proofs.YtgpndbkghmbacaaGreatDoor
