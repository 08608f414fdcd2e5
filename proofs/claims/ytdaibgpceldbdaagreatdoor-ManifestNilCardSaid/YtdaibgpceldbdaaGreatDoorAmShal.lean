/- For functions that are printed in continuation style: taking the arguments, and a few short forms. -/
import Derived.Test.YtdaibgpceldbdaaGreatDoorAmTop
namespace Go.Am
open Go
noncomputable def arg (as : List AV) (k : AV → List AV → Prop) : Prop := List.rec (motive := fun _ => Prop) False (fun a t _ => k a t) as
noncomputable def noArg (as : List AV) (p : Prop) : Prop := List.rec (motive := fun _ => Prop) p (fun _ _ _ => False) as
theorem arg_imp {as : List AV} {k : AV → List AV → Prop} (e : arg as k) : ∃ a t, as = a :: t ∧ k a t := by
  cases as with
  | nil => exact e.elim
  | cons a t => exact ⟨a, t, rfl, e⟩
theorem noArg_imp {as : List AV} {p : Prop} (e : noArg as p) : as = [] ∧ p := by
  cases as with
  | nil => exact ⟨rfl, e⟩
  | cons a t => exact e.elim
noncomputable def lenK (v : AV) (k : Nat → Prop) : Prop := asSl v (k 0) fun _ _ len _ _ _ => k len
noncomputable def delK (o : Option (Option (Nat × Blk))) (h : H) (k : H → Prop) : Prop := op' o fun p => match p with
  | some q => putK q.1 q.2 h k
  | none => k h
noncomputable def spX (o : Option AV) (k : AV → Prop) : Prop := match o with
  | some v => k v
  | none => False
/-- what is run to 'true' holds -/
theorem of_run {p : Prop} (h : (AV.bool true = AV.bool true) = p) : p := h ▸ rfl
end Go.Am
