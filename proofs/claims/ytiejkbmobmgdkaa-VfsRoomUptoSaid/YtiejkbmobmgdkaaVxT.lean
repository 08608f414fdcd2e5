/- Arguments that hold bytes: rows of bytes that are read alone, told in a heap of their own. No condition. -/
import Derived.Test.YtiejkbmobmgdkaaAmL7
import Derived.Test.YtiejkbmobmgdkaaVxS
namespace Go.Am
open Go Go.ChangeShapes Go.WideShapes Go.RowKit
set_option linter.all false
/-- a row that comes in: its block, the place in it, what is told of it -/
abbrev RowG := Nat × Nat × Blk
def muG (rs : List RowG) (W : World) : Mu := ⟨fun i => (rs[i]?).map fun r => (r.1, r.2.1), fun i => match rs[i]? with
  | some r => rowSize W r.1
  | none => 0⟩
noncomputable def hG (rs : List RowG) : H := Hg (rs.map (·.2.2))
structure GoodRow (μ : Mu) (W : World) (r : RowG) : Prop where
  row : ∃ ccs t fr, W.heap[r.1]? = some (.cells ccs t fr)
  rel : BlkRelU false μ W r.1 r.2.1 r.2.2
  own : ∀ t cs, r.2.2 ≠ .cells false t cs
theorem hG_next (rs : List RowG) : (hG rs).next = rs.length := by show (rs.map _).length = _; simp
theorem hG_base (rs : List RowG) : (hG rs).base = rs.length := by show (rs.map _).length = _; simp
theorem hG_get {rs : List RowG} {i : Nat} {r : RowG} (e : rs[i]? = some r) : (hG rs).get i = r.2.2 := by
  unfold hG
  rw [Hg_get, List.getD_eq_getElem?_getD, List.getElem?_map, e]; rfl
theorem rel_G {W : World} {rs : List RowG} (h : ∀ (i : Nat) (r : RowG), rs[i]? = some r → GoodRow (muG rs W) W r) : Rel (muG rs W) (hG rs) W := by
  have hm : ∀ i b d, muG rs W i = some (b, d) → ∃ r : RowG, rs[i]? = some r ∧ b = r.1 ∧ d = r.2.1 := fun i b d e => by
    have e : (rs[i]?).map (fun r : RowG => (r.1, r.2.1)) = some (b, d) := e
    cases hr : rs[i]? with
    | none => rw [hr] at e; cases e
    | some r => rw [hr] at e; injection e with e; injection e with e1 e2; exact ⟨r, rfl, e1.symm, e2.symm⟩
  have hlt : ∀ i r, rs[i]? = some r → i < rs.length := fun i r e => (List.getElem?_eq_some_iff.1 e).1
  refine ⟨⟨by rw [hG_base, hG_next]; exact Nat.le_refl _⟩, fun i b d e => ?_, fun i j b d e hi hj _ _ hbj => ?_, fun i b d e => ?_, fun i b d ccs t fr e hw => ?_, fun g t cs hg1 e => ?_⟩
  · obtain ⟨r, h1, rfl, rfl⟩ := hm i b d e
    obtain ⟨ccs, t, fr, h2⟩ := (h i r h1).row
    exact ⟨by rw [hG_next]; exact hlt i r h1, (Array.getElem?_eq_some_iff.1 h2).1⟩
  · obtain ⟨r, h1, _, _⟩ := hm j b e hj
    have := hlt j r h1
    rw [hG_base] at hbj
    omega
  · obtain ⟨r, h1, rfl, rfl⟩ := hm i b d e
    have hf : Nat.ble (hG rs).base i = false := by
      cases q : Nat.ble (hG rs).base i
      · rfl
      · rw [ble_iff, hG_base] at q; have := hlt i r h1; omega
    rw [hG_get h1, hf]
    exact (h i r h1).rel
  · obtain ⟨r, h1, rfl, rfl⟩ := hm i b d e
    have : (muG rs W).sz i = rowSize W r.1 := by show (match rs[i]? with | some r => rowSize W r.1 | none => 0) = _; rw [h1]
    rw [this]; unfold rowSize; rw [hw]
  · rw [hG_base] at hg1
    have e2 : rs[g]? = some rs[g] := List.getElem?_eq_getElem hg1
    rw [hG_get e2] at e
    exact absurd e ((h g _ e2).own t cs)
theorem prot_G {W : World} {rs : List RowG} : ∀ id b d, (hG rs).base ≤ id → muG rs W id = some (b, d) → ((hG rs).get id).live = false := fun i b d hb e => by
  rw [hG_base] at hb
  have e : (rs[i]?).map (fun r : RowG => (r.1, r.2.1)) = some (b, d) := e
  rw [List.getElem?_eq_none hb] at e; cases e
section
variable {H' : Type} {enc : TypeId × Value → H'} {P : Program} {w : World} {base : Nat} {hd : Bool}
theorem trod_int {t : TypeId} {k : IntKind} {sp : Nat → Bool} {fuel : Nat} {v : Value} {y : DataW H' × List MemPlace} (ht : P.underlying t = some (.int k)) (h : DataW.trod enc P w base sp hd fuel t [v] = some y) : ∃ n, v = .int k n ∧ (Lit.int k n).wf = true := by
  cases fuel with
  | zero => unfold DataW.trod at h; cases h
  | succ fuel =>
    unfold DataW.trod at h
    simp only [ht] at h
    cases v <;> simp only at h <;> first | (cases h; done) | skip
    split at h
    · rename_i hs; obtain ⟨rfl, hs⟩ := hs; exact ⟨_, rfl, hs⟩
    · cases h
theorem u8_wf {n : Int} (h : (Lit.int .u8 n).wf = true) : n = Int.ofNat (UInt8.ofNat n.toNat).toNat := by
  have : 0 ≤ n ∧ n ≤ 255 := by
    simp [Lit.wf, IntKind.min, IntKind.max, IntKind.signed, IntKind.bits] at h
    exact h
  have e : (UInt8.ofNat n.toNat).toNat = n.toNat := by
    show n.toNat % 256 = _; omega
  rw [e]; simp only [Int.ofNat_eq_natCast]; omega
end
end Go.Am
