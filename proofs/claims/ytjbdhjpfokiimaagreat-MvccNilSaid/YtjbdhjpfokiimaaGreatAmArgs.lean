/- Arguments: a struct is told as its cells; parameters that are read. -/
import Derived.Test.YtjbdhjpfokiimaaGreatAmTop
import Derived.WideShapes
namespace Go.Am
open Go Go.ChangeShapes Go.WideShapes
theorem relL_junk {μ : Mu} : ∀ {n : Nat} {vs : List Value}, vs.length = n → AV.relL μ (List.replicate n .junk) vs
  | 0, vs, h => AV.relL_nil.2 (List.length_eq_zero_iff.1 h)
  | n + 1, [], h => by cases h
  | n + 1, v :: vs, h => by
    rw [List.replicate_succ]
    exact AV.relL_cons_cons.2 ⟨by simp only [AV.rel], relL_junk (by simpa using h)⟩
theorem agg_junk {P : Program} {w : World} {r : Reach} {base : Nat} {t : TypeId} {v : Value} {fs : Array Field} {n : Nat} {μ : Mu} (ht : P.underlying t = some (.struct fs)) (hc : P.cellsOf t = n) (h : Value.okWide P w r base t v) : AV.rel μ (.agg (List.replicate n .junk)) v := by
  obtain ⟨cs, rfl, hs⟩ := okWide_struct ht h
  simp only [AV.rel]
  exact ⟨cs, rfl, relL_junk (by rw [Array.length_toList, hs, hc])⟩
theorem pars_ok {P : Program} {ts : List TypeId} (h : (ts.all fun t => P.readableRec t && Nat.blt t P.types.size) = true) : ∀ t ∈ ts, P.readableRec t = true ∧ t < P.types.size := fun t ht => by
  have := List.all_eq_true.1 h t ht
  simp only [Bool.and_eq_true, blt_iff] at this
  exact this
end Go.Am
