/- A table of functions. -/
import Derived.Test.YtlbigopkplckaaaAmTy
namespace Go.Am
open Go

noncomputable def gamOf : List (Nat × Fun) → Gam
  | [], _ => fun _ _ => none
  | p :: r, f => Bool.rec (gamOf r f) p.2 (Nat.beq f p.1)
theorem gam_nil {P : Program} : GamOk P (gamOf []) := fun f as h r h' e => by cases e
theorem gam_cons {P : Program} {f : Nat} {g : Fun} {l : List (Nat × Fun)} (h : FunOk P f g) (hl : GamOk P (gamOf l)) : GamOk P (gamOf ((f, g) :: l)) := fun f' => by
  show FunOk P f' (Bool.rec (gamOf l f') g (Nat.beq f' f))
  cases e : Nat.beq f' f with
  | true => rw [Nat.beq_eq] at e; subst e; exact h
  | false => exact hl f'
/-- internal/abi.NoEscape gives back what it was given -/
def noEsc : Fun := fun as h => match as with
  | [x] => some (x, h)
  | _ => none
theorem noEscape_ok {P : Program} {f : FuncId} {fn : Func} (hf : P.funcs[f]? = some fn) (hn : (fn.name == "runtime.NumGoroutine") = false) (hb : fn.body.isNone = true) (h1 : Extern.findNext fn = none) (h2 : Extern.find fn = some Extern.AbiNoEscape.same) : FunOk P f noEsc := by
  intro as h r h' e μ w args hR ha
  left
  unfold noEsc at e
  split at e
  · rename_i x
    injection e with e; injection e with e1 e2; subst e1 e2
    obtain ⟨v, _, hv, hx, hn'⟩ := AV.relL_cons.1 ha
    rw [AV.relL_nil] at hn'; subst hn'
    have : args = #[v] := Array.toList_inj.1 hv
    subst this
    refine ⟨v, w, μ, ?_, hx, Post.refl hR⟩
    have h3 : (Extern.AbiNoEscape.same #[v]).run P w = .ok v w := rfl
    rw [beq_eq_false_iff_ne] at hn
    rw [Option.isNone_iff_eq_none] at hb
    simp [callFunc, hf, hn, hb, h1, h2, h3]
  · cases e
end Go.Am
