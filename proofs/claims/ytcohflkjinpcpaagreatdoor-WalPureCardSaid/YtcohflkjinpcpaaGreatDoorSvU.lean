/- What comes in: rows of records, beside the package variables. No condition. -/
import Derived.Test.YtcohflkjinpcpaaGreatDoorAmL7
import Derived.Test.YtcohflkjinpcpaaGreatDoorSvA2
namespace Go.Am
open Go Go.ChangeShapes Go.WideShapes Go.RowKit
set_option linter.all false
set_option maxRecDepth 100000
def blkO : Option RowIn → Blk
  | none => .dead
  | some r => blkIn r
def RowFit (W : World) (r : RowIn) : Prop := ∃ (ccs : Array Value) (fr : Nat × Nat), W.heap[r.1]? = some (.cells ccs r.2.2.1 fr) ∧ ∀ (j : Nat) (a : AV), r.2.2.2[j]? = some a → ∃ v, ccs[r.2.1 + j]? = some v ∧ AV.rel noMu a v
def SlIn {α : Type} (W : World) (f : α → List AV) (es : Nat) (v : Value) (l : List α) : Prop :=
  (v = .slice none 0 0 ∧ l = []) ∨ ∃ (b o c : Nat) (tt : TypeId) (ccs : Array Value) (fr : Nat × Nat), v = .slice (some ⟨b, o, none⟩) l.length c ∧ l.length ≤ c ∧ W.heap[b]? = some (.cells ccs tt fr) ∧ o + c * es ≤ ccs.size ∧
    ∀ (j : Nat) (a : AV), (l.flatMap f)[j]? = some a → ∃ x, ccs[o + j]? = some x ∧ AV.rel noMu a x
theorem SlIn.pack {α : Type} {W : World} {f : α → List AV} {es : Nat} {v : Value} {l : List α} (h : SlIn W f es v l) : ∃ q : Option RowIn, (∀ r, q = some r → RowFit W r) ∧ ∀ id : Nat, ∃ a : AV,
    (∀ μ : Mu, (∀ r, q = some r → μ id = some (r.1, r.2.1) ∧ μ.sz id = rowSize W r.1) → AV.rel μ a v) ∧ (∀ h : H, h.get id = blkO q → id < h.next → RowAt f es h a l) ∧ ∀ id o n c es ex, a = .slice id o n c es ex → n ≤ c := by
  rcases h with ⟨rfl, rfl⟩ | ⟨b, o, c, tt, ccs, fr, rfl, hlc, hb, hoc, hcell⟩
  · exact ⟨none, fun r e => (by cases e), fun id => ⟨.nils, fun μ _ => by simp only [AV.rel], fun h _ _ => .inl ⟨rfl, rfl⟩, fun _ _ _ _ _ _ e => (by cases e)⟩⟩
  · refine ⟨some (b, o, tt, l.flatMap f), fun r e => ?_, fun id => ⟨.slice id 0 l.length l.length es false, fun μ hμ => ?_, fun h hg hn => .inr ⟨id, _, _, _, _, rfl, hg, hn⟩, fun _ _ _ _ _ _ e => ?_⟩⟩
    · injection e with e; subst e
      exact ⟨ccs, fr, hb, hcell⟩
    · obtain ⟨h1, h2⟩ := hμ _ rfl
      simp only [AV.rel]
      refine ⟨b, o, c, o, _, h1, rfl, .inl rfl, fun _ => rfl, hlc, fun h => (by cases h), Nat.le_refl _, Nat.le_refl _, ?_⟩
      rw [h2]; unfold rowSize; rw [hb]; exact hoc
    · injection e with _ _ e1 e2; omega
theorem mapM_get {α β : Type} {f : α → Option β} : ∀ {l : List α} {r : List β}, l.mapM f = some r → r.length = l.length ∧ ∀ (j : Nat) (a : α), l[j]? = some a → ∃ b, f a = some b ∧ r[j]? = some b
  | [], r, h => by
    have h : some [] = some r := h
    injection h with h; subst h
    exact ⟨rfl, fun j a e => by simp at e⟩
  | x :: l, r, h => by
    rw [List.mapM_cons] at h
    cases hx : f x with
    | none => rw [hx] at h; cases h
    | some y =>
      cases hl : l.mapM f with
      | none => rw [hx, hl] at h; cases h
      | some ys =>
        rw [hx, hl] at h
        have h : some (y :: ys) = some r := h
        injection h with h; subst h
        obtain ⟨h1, h2⟩ := mapM_get hl
        refine ⟨by simp [h1], fun j a e => ?_⟩
        cases j with
        | zero => injection e with e; subst e; exact ⟨y, hx, rfl⟩
        | succ j => exact h2 j a e
theorem range_get {n j : Nat} (h : j < n) : (List.range n)[j]? = some j := by rw [List.getElem?_range h]
theorem add_at (b o m : Nat) : (⟨b, o, none⟩ : Addr).add m = ⟨b, o + m, none⟩ := by
  unfold Addr.add; split
  · rename_i h0; subst h0; rfl
  · rfl
theorem cells_at {w : World} {base b o n : Nat} {cs : List Value} {ccs : Array Value} {t : TypeId} {fr : Nat × Nat} (h : w.cells? base ⟨b, o, none⟩ n = some cs) (hb : w.heap[b]? = some (.cells ccs t fr)) : cs.length = n ∧ ∀ (j : Nat) (v : Value), cs[j]? = some v → ccs[o + j]? = some v := by
  unfold World.cells? at h
  split at h
  · obtain ⟨h1, h2⟩ := mapM_get h
    refine ⟨by rw [h1, List.length_range], fun j v e => ?_⟩
    have hj : j < n := by
      have := (List.getElem?_eq_some_iff.1 e).1
      rw [h1, List.length_range] at this; exact this
    obtain ⟨x, hx, hr⟩ := h2 j j (range_get hj)
    rw [hr] at e; injection e with e; subst e
    exact cell_add hb hx
  · cases h
theorem relL_get {μ : Mu} : ∀ {as : List AV} {vs : List Value}, AV.relL μ as vs → as.length = vs.length ∧ ∀ (j : Nat) (a : AV), as[j]? = some a → ∃ v, vs[j]? = some v ∧ AV.rel μ a v
  | [], vs, h => by rw [AV.relL_nil.1 h]; exact ⟨rfl, fun j a e => by simp at e⟩
  | a :: as, vs, h => by
    obtain ⟨v, vs', rfl, h1, h2⟩ := AV.relL_cons.1 h
    obtain ⟨q1, q2⟩ := relL_get h2
    refine ⟨by simp [q1], fun j b e => ?_⟩
    cases j with
    | zero => injection e with e; subst e; exact ⟨v, rfl, h1⟩
    | succ j => exact q2 j b e
theorem relL_set {μ : Mu} : ∀ {as : List AV} {vs : List Value} (i : Nat) {a : AV}, AV.relL μ as vs → (∀ v, vs[i]? = some v → AV.rel μ a v) → AV.relL μ (as.set i a) vs
  | [], vs, i, a, h, _ => h
  | b :: as, vs, i, a, h, ha => by
    obtain ⟨v, vs', rfl, h1, h2⟩ := AV.relL_cons.1 h
    cases i with
    | zero => exact AV.relL_cons_cons.2 ⟨ha v rfl, h2⟩
    | succ i => exact AV.relL_cons_cons.2 ⟨h1, relL_set i h2 fun v hv => ha v hv⟩
section
variable {H' : Type} {enc : TypeId × Value → H'} {P : Program} {w : World} {base : Nat} {hd : Bool}
/-- a slice of records, as it came in -/
theorem slice_in {α : Type} {f : α → List AV} {t e : TypeId} {es : Nat} {r : Reach} {b0 fuel : Nat} {v : Value} {y : DataW H' × List MemPlace} (ht : P.underlying t = some (.slice e)) (hc : P.cellsOf e = es) (hes : 0 < es) (hf : ∀ a, (f a).length = es)
    (hel : ∀ (fuel : Nat) (cs : List Value) (y : DataW H' × List MemPlace), cs.length = es → DataW.trod enc P w base (fun _ => true) hd fuel e cs = some y → ∃ a, AV.relL noMu (f a) cs) (hok : Cell.okWide P w r b0 t v)
    (h : DataW.trod enc P w base (fun _ => true) hd fuel t [v] = some y) : ∃ l : List α, SlIn w f es v l ∧ ∀ m, (∀ x ∈ y.1.weights P t, x ≤ m) → l.length * P.bytesOf e ≤ m := by
  cases fuel with
  | zero => unfold DataW.trod at h; cases h
  | succ fuel =>
    unfold Cell.okWide at hok
    simp only [ht] at hok
    unfold Cell.ok at hok
    simp only [ht] at hok
    unfold DataW.trod at h
    simp only [ht] at h
    cases v <;> first | (exact hok.elim) | skip
    rename_i p len c
    cases p with
    | none =>
      cases len <;> cases c <;> first | (exact ⟨[], .inl ⟨rfl, rfl⟩, fun m _ => by simp⟩) | (cases h; done)
    | some a =>
      obtain ⟨hle, _, hhas⟩ := hok
      obtain ⟨hsp, ccs, tt, fr, hb, hoff⟩ := has_row hhas
      obtain ⟨b, o, spot⟩ := a
      simp only at hsp; subst hsp
      simp only at hb hoff h
      split at h
      · cases hm : (List.range len).mapM (fun i => (w.cells? base ((⟨b, o, none⟩ : Addr).add (i * P.cellsOf e)) (P.cellsOf e)).bind (DataW.trod enc P w base (fun _ => true) hd fuel e)) with
        | none => rw [hm] at h; cases h
        | some elems =>
          rw [hm] at h
          simp only [Option.bind_some, if_true] at h
          cases hm2 : (List.range (c - len)).mapM (fun j => (w.cells? base ((⟨b, o, none⟩ : Addr).add ((len + j) * P.cellsOf e)) (P.cellsOf e)).bind (DataW.trod enc P w base (fun _ => true) hd fuel e)) with
          | none => rw [hm2] at h; cases h
          | some rest =>
            rw [hm2] at h
            simp only [Option.map_some] at h
            injection h with h
            have cell : ∀ i y, (w.cells? base ((⟨b, o, none⟩ : Addr).add (i * P.cellsOf e)) (P.cellsOf e)).bind (DataW.trod enc P w base (fun _ => true) hd fuel e) = some y → (∃ a : α, ∀ (j : Nat) (x : AV), (f a)[j]? = some x → ∃ v, ccs[o + i * es + j]? = some v ∧ AV.rel noMu x v) ∧ o + i * es + es ≤ ccs.size := by
              intro i y hy
              rw [hc, add_at] at hy
              cases hcs : w.cells? base ⟨b, o + i * es, none⟩ es with
              | none => rw [hcs] at hy; cases hy
              | some cs =>
                rw [hcs] at hy
                obtain ⟨q1, q2⟩ := cells_at hcs hb
                obtain ⟨a, ha⟩ := hel fuel cs y q1 hy
                obtain ⟨q3, q4⟩ := relL_get ha
                refine ⟨⟨a, fun j x hx => ?_⟩, ?_⟩
                · obtain ⟨v, hv, hr⟩ := q4 j x hx
                  exact ⟨v, q2 j v hv, hr⟩
                · have hl : es - 1 < cs.length := by omega
                  have := (Array.getElem?_eq_some_iff.1 (q2 (es - 1) cs[es - 1] (List.getElem?_eq_getElem hl))).1
                  omega
            obtain ⟨e1, e2⟩ := mapM_get hm
            obtain ⟨e3, e4⟩ := mapM_get hm2
            have front : ∀ i, i < len → ∃ a : α, ∀ (j : Nat) (x : AV), (f a)[j]? = some x → ∃ v, ccs[o + i * es + j]? = some v ∧ AV.rel noMu x v := fun i hi => by
              obtain ⟨y, hy, _⟩ := e2 i i (range_get hi)
              exact (cell i y hy).1
            have back : ∀ i, i < c → o + i * es + es ≤ ccs.size := fun i hi => by
              rcases Nat.lt_or_ge i len with h1 | h1
              · obtain ⟨y, hy, _⟩ := e2 i i (range_get h1)
                exact (cell i y hy).2
              · obtain ⟨y, hy, _⟩ := e4 (i - len) (i - len) (range_get (by omega))
                have hy : (w.cells? base ((⟨b, o, none⟩ : Addr).add ((len + (i - len)) * P.cellsOf e)) (P.cellsOf e)).bind (DataW.trod enc P w base (fun _ => true) hd fuel e) = some y := hy
                rw [show len + (i - len) = i by omega] at hy
                exact (cell i y hy).2
            have pick : ∀ n, n ≤ len → ∃ l : List α, l.length = n ∧ ∀ (j : Nat) (x : AV), (l.flatMap f)[j]? = some x → ∃ v, ccs[o + j]? = some v ∧ AV.rel noMu x v := by
              intro n
              induction n with
              | zero => intro _; exact ⟨[], rfl, fun j x hx => by simp at hx⟩
              | succ n ih =>
                intro hn
                obtain ⟨l, h1, h2⟩ := ih (by omega)
                obtain ⟨a, ha⟩ := front n (by omega)
                refine ⟨l ++ [a], by simp [h1], fun j x hx => ?_⟩
                have hfl := flatMap_len hf l
                rw [List.flatMap_append] at hx
                by_cases hj : j < (l.flatMap f).length
                · rw [List.getElem?_append_left hj] at hx
                  exact h2 j x hx
                · rw [List.getElem?_append_right (by omega)] at hx
                  have hx : (f a)[j - (l.flatMap f).length]? = some x := by simpa using hx
                  obtain ⟨v, hv, hr⟩ := ha _ x hx
                  rw [hfl, h1] at hv hj
                  exact ⟨v, by rw [show o + j = o + n * es + (j - n * es) by omega]; exact hv, hr⟩
            obtain ⟨l, h1, h2⟩ := pick len (Nat.le_refl _)
            refine ⟨l, .inr ⟨b, o, c, tt, ccs, fr, by rw [h1], by rw [h1]; exact hle, hb, ?_, h2⟩, fun m hm => ?_⟩
            · rcases Nat.eq_zero_or_pos c with h0 | h0
              · rw [h0, Nat.zero_mul]; omega
              · have := back (c - 1) (by omega)
                have e5 : (c - 1) * es + es = c * es := by
                  rw [← Nat.succ_mul, show (c - 1).succ = c by omega]
                omega
            · have := hm ((elems.map (·.1)).length + (rest.map (·.1)).length |> (· * P.bytesOf e)) (by
                rw [← h]; unfold DataW.weights; simp only [ht]; exact List.mem_cons_self)
              have h6 : ((elems.map (·.1)).length + (rest.map (·.1)).length) * P.bytesOf e ≤ m := this
              simp only [List.length_map, e1, e3, List.length_range] at h6
              rw [h1]
              exact Nat.le_trans (Nat.mul_le_mul_right _ (by omega)) h6
      · cases h
/-- a field's data, and what it weighs -/
theorem trod_field_w {sp : Nat → Bool} {t : TypeId} {fs : Array Field} {fuel : Nat} {cs : List Value} {y : DataW H' × List MemPlace} (ht : P.underlying t = some (.struct fs)) (h : DataW.trod enc P w base sp hd fuel t cs = some y) (i : Nat) {f : Field} (hf : fs.toList[i]? = some f) :
    ∃ fuel' y', DataW.trod enc P w base sp hd fuel' f.type ((cs.drop f.offset).take (P.cellsOf f.type)) = some y' ∧ ∀ x ∈ y'.1.weights P f.type, x ∈ y.1.weights P t := by
  cases fuel with
  | zero => unfold DataW.trod at h; cases h
  | succ fuel =>
    unfold DataW.trod at h
    simp only [ht] at h
    split at h
    · cases hm : fs.toList.mapM fun f => DataW.trod enc P w base sp hd fuel f.type ((cs.drop f.offset).take (P.cellsOf f.type)) with
      | none => rw [hm] at h; cases h
      | some xs =>
        rw [hm] at h
        simp only [Option.map_some] at h
        injection h with h
        obtain ⟨e1, e2⟩ := mapM_get hm
        obtain ⟨y', hy, hx⟩ := e2 i f hf
        refine ⟨fuel, y', hy, fun x hxm => ?_⟩
        rw [← h]
        unfold DataW.weights
        simp only [ht]
        have go : ∀ (ts : List TypeId) (ds : List (DataW H')) (i : Nat) (t : TypeId) (d : DataW H'), ts[i]? = some t → ds[i]? = some d → x ∈ d.weights P t → x ∈ DataW.weightsEach P ts ds := by
          intro ts
          induction ts with
          | nil => intro ds i t d h1 _ _; simp at h1
          | cons t0 ts ih =>
            intro ds i t d h1 h2 h3
            cases ds with
            | nil => simp at h2
            | cons d0 ds =>
              unfold DataW.weightsEach
              cases i with
              | zero => injection h1 with h1; injection h2 with h2; subst h1 h2; exact List.mem_append_left _ h3
              | succ i => exact List.mem_append_right _ (ih ds i t d h1 h2 h3)
        exact go _ _ i f.type y'.1 (by rw [List.getElem?_map, hf]; rfl) (by rw [List.getElem?_map, hx]; rfl) hxm
    · cases h
theorem trod_bool {sp : Nat → Bool} {t : TypeId} {fuel : Nat} {v : Value} {y : DataW H' × List MemPlace} (ht : P.underlying t = some .bool) (h : DataW.trod enc P w base sp hd fuel t [v] = some y) : ∃ b, v = .bool b := by
  cases fuel with
  | zero => unfold DataW.trod at h; cases h
  | succ fuel =>
    unfold DataW.trod at h
    simp only [ht] at h
    cases v <;> simp only at h <;> first | (cases h; done) | skip
    rename_i b; exact ⟨b, rfl⟩
end
theorem one_at {α : Type} {cs : List α} {i : Nat} {x : α} (h : cs[i]? = some x) : (cs.drop i).take 1 = [x] := by
  apply List.ext_getElem?
  intro j
  rw [List.getElem?_take]
  cases j with
  | zero => rw [if_pos Nat.one_pos, List.getElem?_drop, Nat.add_zero, h]; rfl
  | succ j => rw [if_neg (by omega)]; rfl
end Go.Am
