/- What comes in: rows of records and rows of bytes, beside the package variables. No condition. -/
import Derived.Test.YtcohflkjinpcpaaGreatDoorSvU
import Derived.Test.YtcohflkjinpcpaaGreatDoorWaB
namespace Go.Am
open Go Go.ChangeShapes Go.WideShapes Go.RowKit
set_option linter.all false
set_option maxRecDepth 100000
/-- a row that comes in: its block, the place in it, what is told of it -/
abbrev RowG := Nat × Nat × Blk
structure GoodRow (μ : Mu) (W : World) (r : RowG) : Prop where
  row : ∃ ccs t fr, W.heap[r.1]? = some (.cells ccs t fr)
  rel : BlkRelU false μ W r.1 r.2.1 r.2.2
  own : ∀ t cs, r.2.2 ≠ .cells false t cs
def blkG : Option RowG → Blk
  | none => .dead
  | some r => r.2.2
def muHG (gs : List Blk) (rs : List (Option RowG)) (W : World) : Mu :=
  ⟨fun id => if id < gs.length then (if (gs.getD id .dead).live = true then some (id, 0) else none) else ((rs.getD (id - gs.length) none).map fun r => (r.1, r.2.1)),
   fun id => if id < gs.length then rowSize W id else match rs.getD (id - gs.length) none with
     | some r => rowSize W r.1
     | none => 0⟩
theorem muHG_lo {gs : List Blk} {rs : List (Option RowG)} {W : World} {id : Nat} (h : id < gs.length) : muHG gs rs W id = if (gs.getD id .dead).live = true then some (id, 0) else none := by
  show (if id < gs.length then _ else _) = _
  rw [if_pos h]
theorem muHG_hi {gs : List Blk} {rs : List (Option RowG)} {W : World} {id : Nat} (h : gs.length ≤ id) : muHG gs rs W id = (rs.getD (id - gs.length) none).map fun r => (r.1, r.2.1) := by
  show (if id < gs.length then _ else _) = _
  rw [if_neg (by omega)]
theorem muHG_row {gs : List Blk} {rs : List (Option RowG)} {W : World} {i : Nat} {r : RowG} (h : rs[i]? = some (some r)) : muHG gs rs W (gs.length + i) = some (r.1, r.2.1) ∧ (muHG gs rs W).sz (gs.length + i) = rowSize W r.1 := by
  have e : rs.getD (gs.length + i - gs.length) none = some r := by rw [Nat.add_sub_cancel_left, List.getD_eq_getElem?_getD, h]; rfl
  constructor
  · rw [muHG_hi (Nat.le_add_right _ _), e]; rfl
  · show (if gs.length + i < gs.length then _ else _) = _
    rw [if_neg (by omega), e]
theorem Hgg_get (gs : List Blk) (rs : List (Option RowG)) (id : Nat) : (Hg (gs ++ rs.map blkG)).get id = if id < gs.length then gs.getD id .dead else blkG (rs.getD (id - gs.length) none) := by
  rw [Hg_get, List.getD_eq_getElem?_getD]
  by_cases h : id < gs.length
  · rw [if_pos h, List.getElem?_append_left h, List.getD_eq_getElem?_getD]
  · rw [if_neg h, List.getElem?_append_right (by omega), List.getElem?_map, List.getD_eq_getElem?_getD]
    cases rs[id - gs.length]? <;> rfl
theorem rel_hgG {W : World} {gs : List Blk} {rs : List (Option RowG)} (h : ∀ g b, gs[g]? = some b → GlOk W g b) (hr : ∀ (i : Nat) (r : RowG), rs[i]? = some (some r) → ∀ μ, GoodRow μ W r) :
    Rel (muHG gs rs W) (Hg (gs ++ rs.map blkG)) W ∧ ∀ id b d, (Hg (gs ++ rs.map blkG)).base ≤ id → muHG gs rs W id = some (b, d) → ((Hg (gs ++ rs.map blkG)).get id).live = false := by
  have hlen : (gs ++ rs.map blkG).length = gs.length + rs.length := by simp
  have hlive : ∀ g, g < gs.length → (gs.getD g .dead).live = true → ∃ (t : Nat) (cs : List AV) (ccs : Array Value), gs.getD g .dead = .cells false t cs ∧ W.heap[g]? = some (.cells ccs t (0, 0)) ∧ ∀ (i : Nat) (a : AV), cs[i]? = some a → ∃ v, ccs[i]? = some v ∧ AV.rel noMu a v := by
    intro g hl hg
    have he : gs[g]? = some gs[g] := List.getElem?_eq_getElem hl
    rw [List.getD_eq_getElem?_getD, he] at hg ⊢
    rcases h g gs[g] he with e | ⟨t, cs, ccs, e, h1, h2⟩
    · simp only [Option.getD_some] at hg; rw [e] at hg; cases hg
    · exact ⟨t, cs, ccs, e, h1, h2⟩
  have hm : ∀ id b d, muHG gs rs W id = some (b, d) → (id < gs.length ∧ b = id ∧ d = 0 ∧ (gs.getD id .dead).live = true) ∨ ∃ i r, id = gs.length + i ∧ rs[i]? = some (some r) ∧ b = r.1 ∧ d = r.2.1 := by
    intro id b d e
    by_cases hl : id < gs.length
    · rw [muHG_lo hl] at e
      split at e
      · rename_i hv; injection e with e; injection e with e1 e2; exact .inl ⟨hl, e1.symm, e2.symm, hv⟩
      · cases e
    · rw [muHG_hi (by omega), List.getD_eq_getElem?_getD] at e
      cases hq : rs[id - gs.length]? with
      | none => rw [hq] at e; cases e
      | some o =>
        rw [hq] at e
        cases o with
        | none => cases e
        | some r =>
          injection e with e; injection e with e1 e2
          exact .inr ⟨id - gs.length, r, by omega, hq, e1.symm, e2.symm⟩
  refine ⟨⟨⟨Nat.le_refl _⟩, fun id b d e => ?_, fun i j b d e hi hj _ _ hbj => ?_, fun id b d e => ?_, fun id b d ccs t fr e hw => ?_, fun g t cs hg e => ?_⟩, fun id b d hb e => ?_⟩
  · show id < (gs ++ rs.map blkG).length ∧ b < W.heap.size
    rw [hlen]
    rcases hm id b d e with ⟨h1, rfl, rfl, h2⟩ | ⟨i, r, rfl, h1, rfl, rfl⟩
    · obtain ⟨t, cs, ccs, _, h3, _⟩ := hlive _ h1 h2
      exact ⟨by omega, (Array.getElem?_eq_some_iff.1 h3).1⟩
    · obtain ⟨ccs, t, fr, h3⟩ := (hr i r h1 noMu).row
      have := (List.getElem?_eq_some_iff.1 h1).1
      exact ⟨by omega, (Array.getElem?_eq_some_iff.1 h3).1⟩
  · have hbj : (gs ++ rs.map blkG).length ≤ j := hbj
    rw [hlen] at hbj
    rcases hm j b e hj with ⟨h1, _⟩ | ⟨i', r, rfl, h1, _⟩
    · omega
    · have := (List.getElem?_eq_some_iff.1 h1).1; omega
  · rcases hm id b d e with ⟨h1, rfl, rfl, h2⟩ | ⟨i, r, rfl, h1, rfl, rfl⟩
    · obtain ⟨t, cs, ccs, h0, h3, h4⟩ := hlive _ h1 h2
      rw [Hgg_get, if_pos h1, h0]
      exact ⟨ccs, (0, 0), h3, fun i a ha => by
        obtain ⟨v, hv, hr⟩ := h4 i a ha
        exact ⟨v, by rw [Nat.zero_add]; exact hv, AV.rel_mono (fun _ _ h => by cases h) a v hr⟩, fun _ o _ _ h => by simp at h, fun _ => rfl⟩
    · have hf : Nat.ble (Hg (gs ++ rs.map blkG)).base (gs.length + i) = false := by
        cases q : Nat.ble (Hg (gs ++ rs.map blkG)).base (gs.length + i)
        · rfl
        · rw [ble_iff] at q
          have q : (gs ++ rs.map blkG).length ≤ gs.length + i := q
          have := (List.getElem?_eq_some_iff.1 h1).1
          omega
      have eb : (Hg (gs ++ rs.map blkG)).get (gs.length + i) = r.2.2 := by
        rw [Hgg_get, if_neg (by omega), Nat.add_sub_cancel_left, List.getD_eq_getElem?_getD, h1]; rfl
      rw [eb, hf]
      exact (hr i r h1 _).rel
  · rcases hm id b d e with ⟨h1, rfl, rfl, h2⟩ | ⟨i, r, rfl, h1, rfl, rfl⟩
    · show ccs.size = (if b < gs.length then rowSize W b else _)
      rw [if_pos h1]; unfold rowSize; rw [hw]
    · rw [(muHG_row (gs := gs) (W := W) h1).2]; unfold rowSize; rw [hw]
  · rw [Hgg_get] at e
    by_cases hl : g < gs.length
    · rw [if_pos hl] at e
      rw [muHG_lo hl, e]; rfl
    · rw [if_neg hl, List.getD_eq_getElem?_getD] at e
      cases hq : rs[g - gs.length]? with
      | none => rw [hq] at e; cases e
      | some o =>
        rw [hq] at e
        cases o with
        | none => cases e
        | some r => exact absurd e ((hr _ r hq noMu).own t cs)
  · have hb : (gs ++ rs.map blkG).length ≤ id := hb
    rw [hlen] at hb
    rcases hm id b d e with ⟨h1, _⟩ | ⟨i', r, rfl, h1, _⟩
    · omega
    · have := (List.getElem?_eq_some_iff.1 h1).1; omega
theorem rel_laidG {P : Program} {W : World} {laid : List (String × DataW Unit)} (hl : laidMetH P laid W) (hp : (laid.filter fun x => x.2.handleName?.isSome) = []) {rs : List (Option RowG)} (hr : ∀ (i : Nat) (r : RowG), rs[i]? = some (some r) → ∀ μ, GoodRow μ W r) :
    ∃ ts us, Rel (muHG (glBlks P laid ts us) rs W) (Hg (glBlks P laid ts us ++ rs.map blkG)) W ∧ ∀ id b d, (Hg (glBlks P laid ts us ++ rs.map blkG)).base ≤ id → muHG (glBlks P laid ts us) rs W id = some (b, d) → ((Hg (glBlks P laid ts us ++ rs.map blkG)).get id).live = false := by
  unfold laidMetH at hl
  rw [hp] at hl
  have h := glBlk_ok (show laidMet P laid W from hl)
  refine ⟨fun g => (h g).choose, fun g => (h g).choose_spec.choose, rel_hgG (fun g b e => ?_) hr⟩
  unfold glBlks at e
  rw [List.getElem?_map, Option.map_eq_some_iff] at e
  obtain ⟨g', e1, rfl⟩ := e
  obtain rfl : g' = g := by
    rw [List.getElem?_range] at e1
    · injection e1 with e1; exact e1.symm
    · have := (List.getElem?_eq_some_iff.1 e1).1; simpa using this
  exact (h g').choose_spec.choose_spec _ _ rfl rfl
theorem SlIn.packG {α : Type} {W : World} {f : α → List AV} {es : Nat} {v : Value} {l : List α} (h : SlIn W f es v l) : ∃ q : Option RowG, (∀ r, q = some r → ∀ μ, GoodRow μ W r) ∧ ∀ id : Nat, ∃ a : AV,
    (∀ μ : Mu, (∀ r, q = some r → μ id = some (r.1, r.2.1) ∧ μ.sz id = rowSize W r.1) → AV.rel μ a v) ∧ (∀ h : H, h.get id = blkG q → id < h.next → RowAt f es h a l) := by
  obtain ⟨q, hq, hp⟩ := h.pack
  refine ⟨q.map fun r => (r.1, r.2.1, blkIn r), fun r e μ => ?_, fun id => ?_⟩
  · rw [Option.map_eq_some_iff] at e
    obtain ⟨r', rfl, rfl⟩ := e
    obtain ⟨ccs, fr, h1, h2⟩ := hq r' rfl
    exact ⟨⟨ccs, _, fr, h1⟩, ⟨ccs, fr, h1, fun j a ha => let ⟨v, hv, hr⟩ := h2 j a ha; ⟨v, hv, AV.rel_mono (fun _ _ h => by cases h) a v hr⟩, fun e => (by cases e), fun e => (by cases e)⟩, fun t cs e => (by cases e)⟩
  · obtain ⟨a, h1, h2, _⟩ := hp id
    refine ⟨a, fun μ hμ => h1 μ fun r e => hμ (r.1, r.2.1, blkIn r) (by rw [e]; rfl), fun h hg hn => h2 h ?_ hn⟩
    rw [hg]; cases q <;> rfl
section
variable {H' : Type} {enc : TypeId × Value → H'} {P : Program} {w : World} {base : Nat} {hd : Bool}
theorem trod_intw {t : TypeId} {k : IntKind} {sp : Nat → Bool} {fuel : Nat} {v : Value} {y : DataW H' × List MemPlace} (ht : P.underlying t = some (.int k)) (h : DataW.trod enc P w base sp hd fuel t [v] = some y) : ∃ n, v = .int k n ∧ (Lit.int k n).wf = true := by
  cases fuel with
  | zero => unfold DataW.trod at h; cases h
  | succ fuel =>
    unfold DataW.trod at h
    simp only [ht] at h
    cases v <;> simp only at h <;> first | (cases h; done) | skip
    split at h
    · rename_i hs; obtain ⟨rfl, hs⟩ := hs; exact ⟨_, rfl, hs⟩
    · cases h
theorem u8_wf {n : Int} (h : (Lit.int .u8 n).wf = true) : n = Int.ofNat (UInt8.ofNat n.toNat).toNat := by
  have : 0 ≤ n ∧ n ≤ 255 := by
    simp [Lit.wf, IntKind.min, IntKind.max, IntKind.signed, IntKind.bits] at h
    exact h
  have e : (UInt8.ofNat n.toNat).toNat = n.toNat := by
    show n.toNat % 256 = _; omega
  rw [e]; simp only [Int.ofNat_eq_natCast]; omega
end
def bcell (c : UInt8) : List AV := [.int .u8 (Int.ofNat c.toNat)]
/-- bytes, told as bytes -/
theorem SlIn.bytes {W : World} {v : Value} {l : List UInt8} (h : SlIn W bcell 1 v l) : ∃ q : Option RowG, (∀ r, q = some r → ∀ μ, GoodRow μ W r) ∧ ∀ id : Nat, ∃ a : AV,
    (∀ μ : Mu, (∀ r, q = some r → μ id = some (r.1, r.2.1) ∧ μ.sz id = rowSize W r.1) → AV.rel μ a v) ∧ (∀ h : H, h.get id = blkG q → SlB h a l) := by
  rcases h with ⟨rfl, rfl⟩ | ⟨b, o, c, tt, ccs, fr, rfl, hlc, hb, hoc, hcell⟩
  · exact ⟨none, fun r e => (by cases e), fun id => ⟨.nils, fun μ _ => by simp only [AV.rel], fun h _ => .inl ⟨rfl, rfl⟩⟩⟩
  · refine ⟨some (b, o, .bytes tt 0 true (Str.of l)), fun r e μ => ?_, fun id => ⟨.slice id 0 l.length l.length 1 false, fun μ hμ => ?_, fun h hg => .inr ⟨id, 0, l.length, false, tt, 0, true, l, rfl, hg, by omega, by simp, Nat.le_refl _⟩⟩⟩
    · injection e with e; subst e
      refine ⟨⟨ccs, tt, fr, hb⟩, ⟨ccs, fr, l, hb, rfl, fun i x hx => ?_, fun e => (by cases e), fun e => (by cases e)⟩, fun t cs e => (by cases e)⟩
      have e1 : (l.flatMap bcell)[i]? = some (.int .u8 (Int.ofNat x.toNat)) := by
        have : l.flatMap bcell = l.map fun c => AV.int .u8 (Int.ofNat c.toNat) := by
          clear hcell hlc hoc hb hx
          induction l with
          | nil => rfl
          | cons c l ih => rw [List.flatMap_cons, ih]; rfl
        rw [this, List.getElem?_map, hx]; rfl
      obtain ⟨v, hv, hr⟩ := hcell i _ e1
      simp only [AV.rel] at hr
      rw [hv, hr]; rfl
    · obtain ⟨h1, h2⟩ := hμ _ rfl
      simp only [AV.rel]
      refine ⟨b, o, c, o, _, h1, rfl, .inl rfl, fun _ => rfl, hlc, fun h => (by cases h), Nat.le_refl _, Nat.le_refl _, ?_⟩
      rw [h2]; unfold rowSize; rw [hb]
      exact hoc
end Go.Am
