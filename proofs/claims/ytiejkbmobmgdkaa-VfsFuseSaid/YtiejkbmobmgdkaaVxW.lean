/- A slice of bytes' slices that comes in. No condition. -/
import Derived.Test.YtiejkbmobmgdkaaVxU
import Derived.Test.YtiejkbmobmgdkaaVxV
namespace Go.Am
open Go Go.ChangeShapes Go.WideShapes Go.RowKit
set_option linter.all false
abbrev ElemIn := RowG × List UInt8 × (Nat → AV)
def ElemOk (W : World) (v : Value) (x : ElemIn) : Prop := (∀ μ, GoodRow μ W x.1) ∧ ∀ (n : Nat) (rs : List RowG), rs[n]? = some x.1 → AV.rel (muG rs W) (x.2.2 n) v ∧ SlB (hG rs) (x.2.2 n) x.2.1
theorem pcs_in {H' : Type} {enc : TypeId × Value → H'} {P : Program} {W : World} {base : Nat} {hd : Bool} {t t1 e : TypeId} {r : Reach} {b0 fuel : Nat} {v : Value} {y : DataW H' × List MemPlace} (ht : P.underlying t = some (.slice t1)) (ht1 : P.underlying t1 = some (.slice e)) (he : P.underlying e = some (.int .u8)) (hc1 : P.cellsOf t1 = 1) (hc : P.cellsOf e = 1) (hok : Cell.okWide P W r b0 t v)
    (h : DataW.trod enc P W base (fun _ => true) hd fuel t [v] = some y) :
    ∃ (rs : List RowG) (a0 : AV) (L : List (AV × List UInt8)), (∀ (i : Nat) (r : RowG), rs[i]? = some r → GoodRow (muG rs W) W r) ∧ AV.rel (muG rs W) a0 v ∧ Pcs (hG rs) a0 L := by
  rcases rows_in ht hc1 (by omega) hok h with rfl | ⟨b, o, len, c, tt, ccs, fr, rfl, hlc, hb, hoc, hel⟩
  · exact ⟨[], .nils, [], fun i r q => (by simp at q), by simp only [AV.rel], .inl ⟨rfl, rfl⟩, fun p q => (by cases q)⟩
  · have one : ∀ i, i < len → ∃ x : ElemIn, ∃ w, ccs[o + i]? = some w ∧ ElemOk W w x := by
      intro i hi
      obtain ⟨fuel', y', cs, q1, q2, q3⟩ := hel i hi
      obtain ⟨w, rfl⟩ : ∃ w, cs = [w] := by
        match cs, q2 with
        | [w], _ => exact ⟨w, rfl⟩
      have q4 := q3 0 (by omega)
      have hw : ccs[o + i]? = some w := by simpa using q4
      obtain ⟨rr, bs, mk, g1, g2, g3⟩ := elem_row (W := W) (b0 := b) (o0 := o) hb (by omega) (elem_in ht1 he hc q1)
      exact ⟨(rr, bs, mk), w, hw, g1, g3⟩
    obtain ⟨E, hE, hp⟩ := list_of (α := ElemIn) (P := fun i x => ∃ w, ccs[o + i]? = some w ∧ ElemOk W w x) len one
    let L : List (AV × List UInt8) := E.zipIdx.map fun (x : ElemIn × Nat) => (x.1.2.2 (1 + x.2), x.1.2.1)
    have hL : L.length = len := by simp [L, hE]
    let rs : List RowG := (b, o, .cells true tt (L.map (·.1))) :: E.map (·.1)
    have getL : ∀ i q, L[i]? = some q → ∃ x : ElemIn, E[i]? = some x ∧ q = (x.2.2 (1 + i), x.2.1) := by
      intro i q hq
      simp only [L, List.getElem?_map, List.getElem?_zipIdx, Option.map_eq_some_iff] at hq
      obtain ⟨z, ⟨x, hx, rfl⟩, rfl⟩ := hq
      exact ⟨x, hx, by simp⟩
    have getR : ∀ i x, E[i]? = some x → rs[1 + i]? = some x.1 := by
      intro i x hx
      show ((b, o, _) :: E.map (·.1))[1 + i]? = _
      rw [Nat.add_comm 1 i, List.getElem?_cons_succ, List.getElem?_map, hx]; rfl
    have hz : (muG rs W).sz 0 = ccs.size := by
      show rowSize W b = _
      unfold rowSize; rw [hb]
    refine ⟨rs, .slice 0 0 len len 1 false, L, fun i rr q => ?_, ?_, .inr ⟨0, tt, len, false, by rw [hL], by rw [hG_base]; show 0 < (E.map (·.1)).length + 1; omega, hG_get (show rs[0]? = some _ from rfl)⟩, fun p hp' => ?_⟩
    · cases i with
      | succ i =>
        have q : (E.map (·.1))[i]? = some rr := q
        rw [List.getElem?_map, Option.map_eq_some_iff] at q
        obtain ⟨x, hx, rfl⟩ := q
        obtain ⟨w, _, ok⟩ := hp i x hx
        exact ok.1 _
      | zero =>
        injection q with q; subst q
        refine ⟨⟨ccs, tt, fr, hb⟩, ⟨ccs, fr, hb, fun i a ha => ?_, fun e => (by cases e), fun e => (by cases e)⟩, fun t cs e => (by cases e)⟩
        rw [List.getElem?_map, Option.map_eq_some_iff] at ha
        obtain ⟨q, hq, rfl⟩ := ha
        obtain ⟨x, hx, rfl⟩ := getL i q hq
        obtain ⟨w, hw, ok⟩ := hp i x hx
        exact ⟨w, hw, (ok.2 (1 + i) rs (getR i x hx)).1⟩
    · simp only [AV.rel]
      exact ⟨b, o, c, o, _, rfl, rfl, .inl rfl, fun _ => rfl, by omega, fun h => (by cases h), Nat.le_refl _, Nat.le_refl _, by rw [hz]; exact hoc⟩
    · obtain ⟨i, hi⟩ := List.getElem?_of_mem hp'
      obtain ⟨x, hx, rfl⟩ := getL i p hi
      obtain ⟨w, hw, ok⟩ := hp i x hx
      exact (ok.2 (1 + i) rs (getR i x hx)).2
end Go.Am
