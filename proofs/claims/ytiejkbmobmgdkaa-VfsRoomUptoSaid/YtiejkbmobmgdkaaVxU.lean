/- Arguments that are slices of slices, or of structs that hold slices. No condition. -/
import Derived.Test.YtiejkbmobmgdkaaVxT
namespace Go.Am
open Go Go.ChangeShapes Go.WideShapes Go.RowKit
set_option linter.all false
theorem list_of {α : Type} {P : Nat → α → Prop} : ∀ (n : Nat), (∀ i, i < n → ∃ x, P i x) → ∃ l : List α, l.length = n ∧ ∀ (i : Nat) (x : α), l[i]? = some x → P i x
  | 0, _ => ⟨[], rfl, fun i x h => by simp at h⟩
  | n + 1, h => by
    obtain ⟨l, hl, hp⟩ := list_of n fun i hi => h i (by omega)
    obtain ⟨x, hx⟩ := h n (Nat.lt_succ_self n)
    refine ⟨l ++ [x], by simp [hl], fun i y hy => ?_⟩
    by_cases hi : i < n
    · rw [List.getElem?_append_left (by omega)] at hy; exact hp i y hy
    · rw [List.getElem?_append_right (by omega)] at hy
      have : i - l.length = 0 := by
        have := (List.getElem?_eq_some_iff.1 hy).1
        simp at this; omega
      rw [this] at hy
      have e : i = n := by omega
      subst e
      injection hy with hy; subst hy; exact hx
section
variable {H' : Type} {enc : TypeId × Value → H'} {P : Program} {w : World} {base : Nat} {hd : Bool}
theorem cells_at {b o i n : Nat} {ccs : Array Value} {t : TypeId} {fr : Nat × Nat} {cs : List Value} (hb : w.heap[b]? = some (.cells ccs t fr)) (h : w.cells? base ((⟨b, o, none⟩ : Addr).add i) n = some cs) : cs.length = n ∧ ∀ j, j < n → ccs[o + i + j]? = cs[j]? := by
  obtain ⟨_, h1, h2⟩ := World.cells?_some h
  refine ⟨h1, fun j hj => ?_⟩
  have h3 := h2 j hj
  have hj' : j < cs.length := by omega
  rw [List.getElem?_eq_getElem hj'] at h3 ⊢
  have ha : (((⟨b, o, none⟩ : Addr).add i).add j) = (⟨b, o + i, none⟩ : Addr).add j := by rw [addr_add]
  rw [ha] at h3
  exact cell_add hb h3
/-- a slice that came in: what stands in its row -/
theorem rows_in {t e : TypeId} {r : Reach} {S b0 fuel : Nat} {v : Value} {y : DataW H' × List MemPlace} (ht : P.underlying t = some (.slice e)) (hS : P.cellsOf e = S) (h0 : 0 < S) (hok : Cell.okWide P w r b0 t v)
    (h : DataW.trod enc P w base (fun _ => true) hd fuel t [v] = some y) :
    v = .slice none 0 0 ∨ ∃ (b o len c : Nat) (tt : TypeId) (ccs : Array Value) (fr : Nat × Nat), v = .slice (some ⟨b, o, none⟩) len c ∧ len ≤ c ∧ w.heap[b]? = some (.cells ccs tt fr) ∧ o + c * S ≤ ccs.size ∧
      ∀ i, i < len → ∃ (fuel' : Nat) (y' : DataW H' × List MemPlace) (cs : List Value), DataW.trod enc P w base (fun _ => true) hd fuel' e cs = some y' ∧ cs.length = S ∧ ∀ j, j < S → ccs[o + i * S + j]? = cs[j]? := by
  cases fuel with
  | zero => unfold DataW.trod at h; cases h
  | succ fuel =>
    unfold Cell.okWide at hok
    simp only [ht] at hok
    unfold Cell.ok at hok
    simp only [ht] at hok
    unfold DataW.trod at h
    simp only [ht] at h
    cases v <;> first | (exact hok.elim) | skip
    rename_i p len c
    cases p with
    | none =>
      left
      cases len <;> cases c <;> first | rfl | (cases h; done)
    | some a =>
      right
      obtain ⟨hle, _, hhas⟩ := hok
      obtain ⟨hsp, ccs, tt, fr, hb, hoff⟩ := has_row hhas
      obtain ⟨b, o, spot⟩ := a
      simp only at hsp; subst hsp
      simp only at hb hoff h
      split at h
      · rename_i hcond
        cases hm : (List.range len).mapM (fun i => (w.cells? base ((⟨b, o, none⟩ : Addr).add (i * P.cellsOf e)) (P.cellsOf e)).bind (DataW.trod enc P w base (fun _ => true) hd fuel e)) with
        | none => rw [hm] at h; cases h
        | some elems =>
          rw [hm] at h
          simp only [Option.bind_some, if_true] at h
          cases hm2 : (List.range (c - len)).mapM (fun j => (w.cells? base ((⟨b, o, none⟩ : Addr).add ((len + j) * P.cellsOf e)) (P.cellsOf e)).bind (DataW.trod enc P w base (fun _ => true) hd fuel e)) with
          | none => rw [hm2] at h; cases h
          | some rest =>
            have cell : ∀ i, (∃ x, (w.cells? base ((⟨b, o, none⟩ : Addr).add (i * P.cellsOf e)) (P.cellsOf e)).bind (DataW.trod enc P w base (fun _ => true) hd fuel e) = some x) → ∃ (fuel' : Nat) (y' : DataW H' × List MemPlace) (cs : List Value), DataW.trod enc P w base (fun _ => true) hd fuel' e cs = some y' ∧ cs.length = S ∧ ∀ j, j < S → ccs[o + i * S + j]? = cs[j]? := fun i ⟨x, hx⟩ => by
              rw [hS] at hx
              cases hcs : w.cells? base ((⟨b, o, none⟩ : Addr).add (i * S)) S with
              | none => rw [hcs] at hx; cases hx
              | some cs =>
                rw [hcs] at hx
                obtain ⟨q1, q2⟩ := cells_at hb hcs
                exact ⟨fuel, x, cs, hx, q1, q2⟩
            have front : ∀ i, i < len → ∃ (fuel' : Nat) (y' : DataW H' × List MemPlace) (cs : List Value), DataW.trod enc P w base (fun _ => true) hd fuel' e cs = some y' ∧ cs.length = S ∧ ∀ j, j < S → ccs[o + i * S + j]? = cs[j]? := fun i hi => by
              obtain ⟨x, _, hx⟩ := mapM_some hm i (List.mem_range.2 hi)
              exact cell i ⟨x, hx⟩
            have back : ∀ i, len ≤ i → i < c → ∃ (fuel' : Nat) (y' : DataW H' × List MemPlace) (cs : List Value), DataW.trod enc P w base (fun _ => true) hd fuel' e cs = some y' ∧ cs.length = S ∧ ∀ j, j < S → ccs[o + i * S + j]? = cs[j]? := fun i h1 h2 => by
              obtain ⟨x, _, hx⟩ := mapM_some hm2 (i - len) (List.mem_range.2 (by omega))
              exact cell i ⟨x, by rw [show len + (i - len) = i by omega] at hx; exact hx⟩
            refine ⟨b, o, len, c, tt, ccs, fr, rfl, hle, hb, ?_, front⟩
            rcases Nat.eq_zero_or_pos c with h1 | h1
            · subst h1; omega
            · have : ∃ (fuel' : Nat) (y' : DataW H' × List MemPlace) (cs : List Value), DataW.trod enc P w base (fun _ => true) hd fuel' e cs = some y' ∧ cs.length = S ∧ ∀ j, j < S → ccs[o + (c - 1) * S + j]? = cs[j]? := by
                rcases Nat.lt_or_ge (c - 1) len with h2 | h2
                · exact front _ h2
                · exact back _ h2 (by omega)
              obtain ⟨_, _, cs, _, q1, q2⟩ := this
              have q3 := q2 (S - 1) (by omega)
              rw [List.getElem?_eq_getElem (by omega)] at q3
              have := (Array.getElem?_eq_some_iff.1 q3).1
              have e : c * S = (c - 1) * S + S := by
                rw [← Nat.succ_mul]; congr 1; omega
              omega
      · cases h
/-- bytes within a row that came in; a slice without room may lie anywhere -/
theorem elem_in {t e : TypeId} {fuel : Nat} {v : Value} {y : DataW H' × List MemPlace} (ht : P.underlying t = some (.slice e)) (he : P.underlying e = some (.int .u8)) (hc : P.cellsOf e = 1)
    (h : DataW.trod enc P w base (fun _ => true) hd fuel t [v] = some y) :
    v = .slice none 0 0 ∨ ∃ (a : Addr) (len c : Nat) (ks : List UInt8), v = .slice (some a) len c ∧ len ≤ c ∧ ks.length = len ∧ (c = 0 ∨ ∃ (b o : Nat) (tt : TypeId) (ccs : Array Value) (fr : Nat × Nat), a = ⟨b, o, none⟩ ∧ w.heap[b]? = some (.cells ccs tt fr) ∧ o + c ≤ ccs.size ∧
      ∀ (i : Nat) (hi : i < ks.length), ccs[o + i]? = some (.int .u8 ks[i].toNat)) := by
  cases fuel with
  | zero => unfold DataW.trod at h; cases h
  | succ fuel =>
    unfold DataW.trod at h
    simp only [ht] at h
    cases v <;> first | (cases h; done) | skip
    rename_i p len c
    cases p with
    | none =>
      left
      cases len <;> cases c <;> first | rfl | (cases h; done)
    | some a =>
      right
      simp only at h
      split at h
      · rename_i hcond
        obtain ⟨_, hle, _⟩ := hcond
        rcases Nat.eq_zero_or_pos c with h1 | h1
        · exact ⟨a, len, c, [], rfl, hle, by simp; omega, .inl h1⟩
        cases hm : (List.range len).mapM (fun i => (w.cells? base (a.add (i * P.cellsOf e)) (P.cellsOf e)).bind (DataW.trod enc P w base (fun _ => true) hd fuel e)) with
        | none => rw [hm] at h; cases h
        | some elems =>
          rw [hm] at h
          simp only [Option.bind_some, if_true] at h
          cases hm2 : (List.range (c - len)).mapM (fun j => (w.cells? base (a.add ((len + j) * P.cellsOf e)) (P.cellsOf e)).bind (DataW.trod enc P w base (fun _ => true) hd fuel e)) with
          | none => rw [hm2] at h; cases h
          | some rest =>
            have cell : ∀ i, (∃ x, (w.cells? base (a.add (i * P.cellsOf e)) (P.cellsOf e)).bind (DataW.trod enc P w base (fun _ => true) hd fuel e) = some x) → ∃ s : UInt8, w.cell? (a.add i) = some (.int .u8 s.toNat) := fun i ⟨x, hx⟩ => by
              rw [hc, Nat.mul_one] at hx
              cases hcs : w.cells? base (a.add i) 1 with
              | none => rw [hcs] at hx; cases hx
              | some cs =>
                rw [hcs] at hx
                obtain ⟨v, rfl, hv⟩ := cells_one hcs
                obtain ⟨n, rfl, hn⟩ := trod_int he (show DataW.trod enc P w base (fun _ => true) hd fuel e [v] = some x from hx)
                refine ⟨UInt8.ofNat n.toNat, ?_⟩
                rw [u8_wf hn] at hv
                exact hv
            have all : ∀ i, i < c → ∃ s : UInt8, w.cell? (a.add i) = some (.int .u8 s.toNat) := fun i hi => by
              rcases Nat.lt_or_ge i len with h2 | h2
              · obtain ⟨x, _, hx⟩ := mapM_some hm i (List.mem_range.2 h2)
                exact cell i ⟨x, hx⟩
              · obtain ⟨x, _, hx⟩ := mapM_some hm2 (i - len) (List.mem_range.2 (by omega))
                exact cell i ⟨x, by rw [show len + (i - len) = i by omega] at hx; exact hx⟩
            obtain ⟨s0, hs0⟩ := all 0 h1
            have a0 : a.add 0 = a := by unfold Addr.add; rw [if_pos rfl]
            rw [a0] at hs0
            have hsp := World.cell?_spot hs0
            obtain ⟨b, o, spot⟩ := a
            simp only at hsp; subst hsp
            have hrow : ∃ ccs tt fr, w.heap[b]? = some (.cells ccs tt fr) := by
              unfold World.cell? at hs0
              simp only at hs0
              split at hs0
              · rename_i hb; exact ⟨_, _, _, hb⟩
              · cases hs0
            obtain ⟨ccs, tt, fr, hb⟩ := hrow
            have all' : ∀ i, i < c → ∃ s : UInt8, ccs[o + i]? = some (.int .u8 s.toNat) := fun i hi => by
              obtain ⟨s, hs⟩ := all i hi
              exact ⟨s, cell_add hb hs⟩
            refine ⟨⟨b, o, none⟩, len, c, (List.range len).map (fun i => match ccs[o + i]? with | some (.int _ n) => UInt8.ofNat n.toNat | _ => 0), rfl, hle, by simp, .inr ⟨b, o, tt, ccs, fr, rfl, hb, ?_, fun i hi => ?_⟩⟩
            · obtain ⟨s, hs⟩ := all' (c - 1) (by omega)
              have := (Array.getElem?_eq_some_iff.1 hs).1
              omega
            · have hi' : i < len := by simpa using hi
              obtain ⟨s, hs⟩ := all' i (by omega)
              rw [hs]
              simp [hs]
      · cases h
end
/-- bytes within a row: a row of their own -/
theorem elem_row {v : Value} {W : World} {b0 o0 : Nat} {tt0 : TypeId} {ccs0 : Array Value} {fr0 : Nat × Nat} (hb0 : W.heap[b0]? = some (.cells ccs0 tt0 fr0)) (ho0 : o0 ≤ ccs0.size) (h : v = .slice none 0 0 ∨ ∃ (a : Addr) (len c : Nat) (ks : List UInt8), v = .slice (some a) len c ∧ len ≤ c ∧ ks.length = len ∧ (c = 0 ∨ ∃ (b o : Nat) (tt : TypeId) (ccs : Array Value) (fr : Nat × Nat), a = ⟨b, o, none⟩ ∧ W.heap[b]? = some (.cells ccs tt fr) ∧ o + c ≤ ccs.size ∧
      ∀ (i : Nat) (hi : i < ks.length), ccs[o + i]? = some (.int .u8 ks[i].toNat))) :
    ∃ (r : RowG) (bs : List UInt8) (mk : Nat → AV), (∀ μ, GoodRow μ W r) ∧ (∀ n, isOne (mk n) = true) ∧ ∀ (n : Nat) (rs : List RowG), rs[n]? = some r → AV.rel (muG rs W) (mk n) v ∧ SlB (hG rs) (mk n) bs := by
  have good0 : ∀ μ, GoodRow μ W (b0, o0, .bytes tt0 0 true (Str.of [])) := fun μ =>
    ⟨⟨ccs0, tt0, fr0, hb0⟩, ⟨ccs0, fr0, [], hb0, rfl, fun i x hx => (by simp at hx), fun e => (by cases e), fun e => (by cases e)⟩, fun t cs e => (by cases e)⟩
  rcases h with rfl | ⟨a, len, c, ks, rfl, hlc, hkl, hh⟩
  · exact ⟨_, [], fun _ => .nils, good0, fun _ => rfl, fun n rs _ => ⟨by simp only [AV.rel], .inl ⟨rfl, rfl⟩⟩⟩
  · have hz : ∀ {rs : List RowG} {n b o : Nat} {bl : Blk} {ccs : Array Value} {tt : TypeId} {fr : Nat × Nat}, rs[n]? = some (b, o, bl) → W.heap[b]? = some (.cells ccs tt fr) → (muG rs W).sz n = ccs.size := by
      intro rs n b o bl ccs tt fr h0 hb
      show (match rs[n]? with | some r => rowSize W r.1 | none => 0) = _
      rw [h0]; show rowSize W b = _
      unfold rowSize; rw [hb]
    rcases hh with h0 | ⟨b, o, tt, ccs, fr, rfl, hb, hoc, hcell⟩
    · subst h0
      have : len = 0 := by omega
      subst this
      refine ⟨_, [], fun n => .slice n 0 0 0 1 false, good0, fun _ => rfl, fun n rs hrs => ⟨?_, .inr ⟨n, 0, 0, false, tt0, 0, true, [], rfl, hG_get hrs, by simp, by simp, Nat.le_refl _⟩⟩⟩
      simp only [AV.rel]
      have hm : muG rs W n = some (b0, o0) := by show (rs[n]?).map _ = _; rw [hrs]; rfl
      exact ⟨b0, o0, 0, o0, a, hm, rfl, .inr rfl, fun q => absurd q (by omega), Nat.le_refl _, fun q => (by cases q), Nat.le_refl _, Nat.le_refl _, by rw [hz hrs hb0]; omega⟩
    · refine ⟨(b, o, .bytes tt 0 true (Str.of ks)), ks, fun n => .slice n 0 ks.length ks.length 1 false, fun μ => ?_, fun _ => rfl, fun n rs hrs => ⟨?_, .inr ⟨n, 0, ks.length, false, tt, 0, true, ks, rfl, hG_get hrs, by omega, by simp, Nat.le_refl _⟩⟩⟩
      · refine ⟨⟨ccs, tt, fr, hb⟩, ⟨ccs, fr, ks, hb, rfl, fun i x hx => ?_, fun e => (by cases e), fun e => (by cases e)⟩, fun t cs e => (by cases e)⟩
        obtain ⟨hi, e⟩ := List.getElem?_eq_some_iff.1 hx
        rw [← e]; exact hcell i hi
      · simp only [AV.rel]
        have hm : muG rs W n = some (b, o) := by show (rs[n]?).map _ = _; rw [hrs]; rfl
        exact ⟨b, o, c, o, _, hm, by rw [hkl], .inl rfl, fun _ => rfl, by omega, fun h => (by cases h), Nat.le_refl _, Nat.le_refl _, by rw [hz hrs hb, Nat.mul_one]; exact hoc⟩
end Go.Am
