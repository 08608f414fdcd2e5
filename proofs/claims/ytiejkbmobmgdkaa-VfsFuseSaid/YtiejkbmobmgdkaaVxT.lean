/- Arguments that hold bytes: rows of bytes that are read alone, told in a heap of their own. No condition. -/
import Derived.Test.YtiejkbmobmgdkaaAmL7
import Derived.Test.YtiejkbmobmgdkaaVxS
namespace Go.Am
open Go Go.ChangeShapes Go.WideShapes Go.RowKit
set_option linter.all false
/-- a row that comes in: its block, the place in it, what is told of it -/
abbrev RowG := Nat × Nat × Blk
def muG (rs : List RowG) (W : World) : Mu := ⟨fun i => (rs[i]?).map fun r => (r.1, r.2.1), fun i => match rs[i]? with
  | some r => rowSize W r.1
  | none => 0⟩
noncomputable def hG (rs : List RowG) : H := Hg (rs.map (·.2.2))
structure GoodRow (μ : Mu) (W : World) (r : RowG) : Prop where
  row : ∃ ccs t fr, W.heap[r.1]? = some (.cells ccs t fr)
  rel : BlkRelU false μ W r.1 r.2.1 r.2.2
  own : ∀ t cs, r.2.2 ≠ .cells false t cs
theorem hG_next (rs : List RowG) : (hG rs).next = rs.length := by show (rs.map _).length = _; simp
theorem hG_base (rs : List RowG) : (hG rs).base = rs.length := by show (rs.map _).length = _; simp
theorem hG_get {rs : List RowG} {i : Nat} {r : RowG} (e : rs[i]? = some r) : (hG rs).get i = r.2.2 := by
  unfold hG
  rw [Hg_get, List.getD_eq_getElem?_getD, List.getElem?_map, e]; rfl
theorem rel_G {W : World} {rs : List RowG} (h : ∀ (i : Nat) (r : RowG), rs[i]? = some r → GoodRow (muG rs W) W r) : Rel (muG rs W) (hG rs) W := by
  have hm : ∀ i b d, muG rs W i = some (b, d) → ∃ r : RowG, rs[i]? = some r ∧ b = r.1 ∧ d = r.2.1 := fun i b d e => by
    have e : (rs[i]?).map (fun r : RowG => (r.1, r.2.1)) = some (b, d) := e
    cases hr : rs[i]? with
    | none => rw [hr] at e; cases e
    | some r => rw [hr] at e; injection e with e; injection e with e1 e2; exact ⟨r, rfl, e1.symm, e2.symm⟩
  have hlt : ∀ i r, rs[i]? = some r → i < rs.length := fun i r e => (List.getElem?_eq_some_iff.1 e).1
  refine ⟨⟨by rw [hG_base, hG_next]; exact Nat.le_refl _⟩, fun i b d e => ?_, fun i j b d e hi hj _ _ hbj => ?_, fun i b d e => ?_, fun i b d ccs t fr e hw => ?_, fun g t cs hg1 e => ?_⟩
  · obtain ⟨r, h1, rfl, rfl⟩ := hm i b d e
    obtain ⟨ccs, t, fr, h2⟩ := (h i r h1).row
    exact ⟨by rw [hG_next]; exact hlt i r h1, (Array.getElem?_eq_some_iff.1 h2).1⟩
  · obtain ⟨r, h1, _, _⟩ := hm j b e hj
    have := hlt j r h1
    rw [hG_base] at hbj
    omega
  · obtain ⟨r, h1, rfl, rfl⟩ := hm i b d e
    have hf : Nat.ble (hG rs).base i = false := by
      cases q : Nat.ble (hG rs).base i
      · rfl
      · rw [ble_iff, hG_base] at q; have := hlt i r h1; omega
    rw [hG_get h1, hf]
    exact (h i r h1).rel
  · obtain ⟨r, h1, rfl, rfl⟩ := hm i b d e
    have : (muG rs W).sz i = rowSize W r.1 := by show (match rs[i]? with | some r => rowSize W r.1 | none => 0) = _; rw [h1]
    rw [this]; unfold rowSize; rw [hw]
  · rw [hG_base] at hg1
    have e2 : rs[g]? = some rs[g] := List.getElem?_eq_getElem hg1
    rw [hG_get e2] at e
    exact absurd e ((h g _ e2).own t cs)
theorem prot_G {W : World} {rs : List RowG} : ∀ id b d, (hG rs).base ≤ id → muG rs W id = some (b, d) → ((hG rs).get id).live = false := fun i b d hb e => by
  rw [hG_base] at hb
  have e : (rs[i]?).map (fun r : RowG => (r.1, r.2.1)) = some (b, d) := e
  rw [List.getElem?_eq_none hb] at e; cases e
section
variable {H' : Type} {enc : TypeId × Value → H'} {P : Program} {w : World} {base : Nat} {hd : Bool}
theorem trod_int {t : TypeId} {k : IntKind} {sp : Nat → Bool} {fuel : Nat} {v : Value} {y : DataW H' × List MemPlace} (ht : P.underlying t = some (.int k)) (h : DataW.trod enc P w base sp hd fuel t [v] = some y) : ∃ n, v = .int k n ∧ (Lit.int k n).wf = true := by
  cases fuel with
  | zero => unfold DataW.trod at h; cases h
  | succ fuel =>
    unfold DataW.trod at h
    simp only [ht] at h
    cases v <;> simp only at h <;> first | (cases h; done) | skip
    split at h
    · rename_i hs; obtain ⟨rfl, hs⟩ := hs; exact ⟨_, rfl, hs⟩
    · cases h
theorem u8_wf {n : Int} (h : (Lit.int .u8 n).wf = true) : n = Int.ofNat (UInt8.ofNat n.toNat).toNat := by
  have : 0 ≤ n ∧ n ≤ 255 := by
    simp [Lit.wf, IntKind.min, IntKind.max, IntKind.signed, IntKind.bits] at h
    exact h
  have e : (UInt8.ofNat n.toNat).toNat = n.toNat := by
    show n.toNat % 256 = _; omega
  rw [e]; simp only [Int.ofNat_eq_natCast]; omega
/-- bytes, as they came in -/
theorem bytes_in {t e : TypeId} {r : Reach} {b0 fuel : Nat} {v : Value} {y : DataW H' × List MemPlace} (ht : P.underlying t = some (.slice e)) (he : P.underlying e = some (.int .u8)) (hc : P.cellsOf e = 1) (hok : Cell.okWide P w r b0 t v)
    (h : DataW.trod enc P w base (fun _ => true) hd fuel t [v] = some y) :
    v = .slice none 0 0 ∨ ∃ (b o len c : Nat) (tt : TypeId) (ccs : Array Value) (fr : Nat × Nat) (ks : List UInt8), v = .slice (some ⟨b, o, none⟩) len c ∧ len ≤ c ∧ w.heap[b]? = some (.cells ccs tt fr) ∧ o + c ≤ ccs.size ∧ ks.length = len ∧
      ∀ (i : Nat) (hi : i < ks.length), ccs[o + i]? = some (.int .u8 ks[i].toNat) := by
  cases fuel with
  | zero => unfold DataW.trod at h; cases h
  | succ fuel =>
    unfold Cell.okWide at hok
    simp only [ht] at hok
    unfold Cell.ok at hok
    simp only [ht] at hok
    unfold DataW.trod at h
    simp only [ht] at h
    cases v <;> first | (exact hok.elim) | skip
    rename_i p len c
    cases p with
    | none =>
      left
      cases len <;> cases c <;> first | rfl | (cases h; done)
    | some a =>
      right
      obtain ⟨hle, _, hhas⟩ := hok
      obtain ⟨hsp, ccs, tt, fr, hb, hoff⟩ := has_row hhas
      obtain ⟨b, o, spot⟩ := a
      simp only at hsp; subst hsp
      simp only at hb hoff h
      split at h
      · rename_i hcond
        cases hm : (List.range len).mapM (fun i => (w.cells? base ((⟨b, o, none⟩ : Addr).add (i * P.cellsOf e)) (P.cellsOf e)).bind (DataW.trod enc P w base (fun _ => true) hd fuel e)) with
        | none => rw [hm] at h; cases h
        | some elems =>
          rw [hm] at h
          simp only [Option.bind_some, if_true] at h
          cases hm2 : (List.range (c - len)).mapM (fun j => (w.cells? base ((⟨b, o, none⟩ : Addr).add ((len + j) * P.cellsOf e)) (P.cellsOf e)).bind (DataW.trod enc P w base (fun _ => true) hd fuel e)) with
          | none => rw [hm2] at h; cases h
          | some rest =>
            have cell : ∀ i, (∃ x, (w.cells? base ((⟨b, o, none⟩ : Addr).add (i * P.cellsOf e)) (P.cellsOf e)).bind (DataW.trod enc P w base (fun _ => true) hd fuel e) = some x) → ∃ s : UInt8, ccs[o + i]? = some (.int .u8 s.toNat) := fun i ⟨x, hx⟩ => by
              rw [hc, Nat.mul_one] at hx
              cases hcs : w.cells? base ((⟨b, o, none⟩ : Addr).add i) 1 with
              | none => rw [hcs] at hx; cases hx
              | some cs =>
                rw [hcs] at hx
                obtain ⟨v, rfl, hv⟩ := cells_one hcs
                obtain ⟨n, rfl, hn⟩ := trod_int he (show DataW.trod enc P w base (fun _ => true) hd fuel e [v] = some x from hx)
                refine ⟨UInt8.ofNat n.toNat, ?_⟩
                have := cell_add hb hv
                rw [u8_wf hn] at this
                exact this
            have front : ∀ i, i < len → ∃ s : UInt8, ccs[o + i]? = some (.int .u8 s.toNat) := fun i hi => by
              obtain ⟨x, _, hx⟩ := mapM_some hm i (List.mem_range.2 hi)
              exact cell i ⟨x, hx⟩
            have back : ∀ i, len ≤ i → i < c → ∃ s : UInt8, ccs[o + i]? = some (.int .u8 s.toNat) := fun i h1 h2 => by
              obtain ⟨x, _, hx⟩ := mapM_some hm2 (i - len) (List.mem_range.2 (by omega))
              exact cell i ⟨x, by rw [show len + (i - len) = i by omega] at hx; exact hx⟩
            refine ⟨b, o, len, c, tt, ccs, fr, (List.range len).map (fun i => match ccs[o + i]? with | some (.int _ n) => UInt8.ofNat n.toNat | _ => 0), rfl, hle, hb, ?_, by simp, fun i hi => ?_⟩
            · rcases Nat.eq_zero_or_pos c with h0 | h0
              · omega
              · have : ∃ s : UInt8, ccs[o + (c - 1)]? = some (.int .u8 s.toNat) := by
                  rcases Nat.lt_or_ge (c - 1) len with h1 | h1
                  · exact front _ h1
                  · exact back _ h1 (by omega)
                obtain ⟨s, hs⟩ := this
                have := (Array.getElem?_eq_some_iff.1 hs).1
                omega
            · have hi' : i < len := by simpa using hi
              obtain ⟨s, hs⟩ := front i hi'
              rw [hs]
              simp [hs]
      · cases h
end
/-- bytes that came in: at most one row -/
theorem bytes_row {v : Value} {W : World} (h : v = .slice none 0 0 ∨ ∃ (b o len c : Nat) (tt : TypeId) (ccs : Array Value) (fr : Nat × Nat) (ks : List UInt8), v = .slice (some ⟨b, o, none⟩) len c ∧ len ≤ c ∧ W.heap[b]? = some (.cells ccs tt fr) ∧ o + c ≤ ccs.size ∧ ks.length = len ∧
      ∀ (i : Nat) (hi : i < ks.length), ccs[o + i]? = some (.int .u8 ks[i].toNat)) :
    ∃ (rows : List RowG) (bs : List UInt8), (∀ μ, ∀ r ∈ rows, GoodRow μ W r) ∧ ∀ (n : Nat) (rs : List RowG), (∀ j r, rows[j]? = some r → rs[n + j]? = some r) → ∃ a, AV.rel (muG rs W) a v ∧ SlB (hG rs) a bs := by
  rcases h with rfl | ⟨b, o, len, c, tt, ccs, fr, ks, rfl, hlc, hb, hoc, hkl, hcell⟩
  · exact ⟨[], [], fun _ r hr => (by cases hr), fun n rs _ => ⟨.nils, by simp only [AV.rel], .inl ⟨rfl, rfl⟩⟩⟩
  · refine ⟨[(b, o, .bytes tt 0 true (Str.of ks))], ks, fun μ r hr => ?_, fun n rs hrs => ?_⟩
    · rw [List.mem_singleton.1 hr]
      refine ⟨⟨ccs, tt, fr, hb⟩, ⟨ccs, fr, ks, hb, rfl, fun i x hx => ?_, fun e => (by cases e), fun e => (by cases e)⟩, fun t cs e => (by cases e)⟩
      obtain ⟨hi, e⟩ := List.getElem?_eq_some_iff.1 hx
      rw [← e]; exact hcell i hi
    · have h0 : rs[n]? = some (b, o, .bytes tt 0 true (Str.of ks)) := hrs 0 _ rfl
      refine ⟨.slice n 0 ks.length ks.length 1 false, ?_, .inr ⟨n, 0, ks.length, false, tt, 0, true, ks, rfl, hG_get h0, by omega, by simp, Nat.le_refl _⟩⟩
      simp only [AV.rel]
      have hm : muG rs W n = some (b, o) := by show (rs[n]?).map _ = _; rw [h0]; rfl
      refine ⟨b, o, c, o, _, hm, by rw [hkl], .inl rfl, fun _ => rfl, by omega, fun h => (by cases h), Nat.le_refl _, Nat.le_refl _, ?_⟩
      have hz : (muG rs W).sz n = ccs.size := by
        show (match rs[n]? with | some r => rowSize W r.1 | none => 0) = _
        rw [h0]; show rowSize W b = _
        unfold rowSize; rw [hb]
      rw [hz, Nat.mul_one]; exact hoc
end Go.Am
