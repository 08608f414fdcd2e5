/- A slice of acts that comes in. No condition. -/
import Derived.Test.YtiejkbmobmgdkaaVxW
import Derived.Test.YtiejkbmobmgdkaaVxX
namespace Go.Am
open Go Go.ChangeShapes Go.WideShapes Go.RowKit
set_option linter.all false
theorem slice_data {H' : Type} {enc : TypeId × Value → H'} {P : Program} {w : World} {base : Nat} {hd : Bool} {t e : TypeId} {fuel len c : Nat} {a : Addr} {y : DataW H' × List MemPlace} (ht : P.underlying t = some (.slice e))
    (h : DataW.trod enc P w base (fun _ => true) hd fuel t [.slice (some a) len c] = some y) : ∃ es sp, y.1 = .slice es sp ∧ es.length = len := by
  cases fuel with
  | zero => unfold DataW.trod at h; cases h
  | succ fuel =>
    unfold DataW.trod at h
    simp only [ht] at h
    split at h
    · rename_i hcond
      cases hm : (List.range len).mapM (fun i => (w.cells? base (a.add (i * P.cellsOf e)) (P.cellsOf e)).bind (DataW.trod enc P w base (fun _ => true) hd fuel e)) with
      | none => rw [hm] at h; cases h
      | some elems =>
        rw [hm] at h
        simp only [Option.bind_some, if_true] at h
        cases hm2 : (List.range (c - len)).mapM (fun j => (w.cells? base (a.add ((len + j) * P.cellsOf e)) (P.cellsOf e)).bind (DataW.trod enc P w base (fun _ => true) hd fuel e)) with
        | none => rw [hm2] at h; cases h
        | some rest =>
          rw [hm2] at h
          injection h with h
          subst h
          exact ⟨_, _, rfl, by rw [List.length_map]; simpa using mapM_some_length hm⟩
    · cases h
theorem take1 {α : Type} {l : List α} {i : Nat} (h : i < l.length) : (l.drop i).take 1 = [l[i]] := by
  rw [List.drop_eq_getElem_cons h]; rfl
/-- what is told of an act that came in, but for its bytes' place -/
abbrev ActIn := RowG × (Nat → ActE)
def ActOk (W : World) (vs : List Value) (x : ActIn) : Prop := (∀ μ, GoodRow μ W x.1) ∧ ∀ (n : Nat) (rs : List RowG), rs[n]? = some x.1 → AV.relL (muG rs W) (x.2 n).cells vs ∧ SlB (hG rs) (x.2 n).bv (x.2 n).bs
theorem act_in {H' : Type} {enc : TypeId × Value → H'} {P : Program} {W : World} {base : Nat} {hd : Bool} {e tI tS tB tU : TypeId} {fuel : Nat} {cs : List Value} {y : DataW H' × List MemPlace} {fs : Array Field} {b0 o0 : Nat} {tt0 : TypeId} {ccs0 : Array Value} {fr0 : Nat × Nat} (hb0 : W.heap[b0]? = some (.cells ccs0 tt0 fr0)) (ho0 : o0 ≤ ccs0.size)
    (ht : P.underlying e = some (.struct fs)) (f0 : (fs.toList[0]?).map (fun f => (f.type, f.offset)) = some (tI, 0)) (f1 : (fs.toList[1]?).map (fun f => (f.type, f.offset)) = some (tS, 1)) (f2 : (fs.toList[2]?).map (fun f => (f.type, f.offset)) = some (tS, 2))
    (f3 : (fs.toList[3]?).map (fun f => (f.type, f.offset)) = some (tI, 3)) (f4 : (fs.toList[4]?).map (fun f => (f.type, f.offset)) = some (tI, 4)) (f5 : (fs.toList[5]?).map (fun f => (f.type, f.offset)) = some (tB, 5))
    (hI : P.underlying tI = some (.int .i64)) (cI : P.cellsOf tI = 1) (hS : P.underlying tS = some .string) (cS : P.cellsOf tS = 1) (hB : P.underlying tB = some (.slice tU)) (cB : P.cellsOf tB = 1) (hU : P.underlying tU = some (.int .u8)) (cU : P.cellsOf tU = 1)
    (h : DataW.trod enc P W base (fun _ => true) hd fuel e cs = some y) (hl : cs.length = 6) : ∃ x : ActIn, ActOk W cs x := by
  have fld : ∀ (i : Nat) (t : TypeId), i < 6 → (fs.toList[i]?).map (fun f => (f.type, f.offset)) = some (t, i) → P.cellsOf t = 1 → ∃ fuel' y', DataW.trod enc P W base (fun _ => true) hd fuel' t [cs[i]!] = some y' := by
    intro i t hi hf hc
    obtain ⟨f, hf1, hf2⟩ := Option.map_eq_some_iff.1 hf
    injection hf2 with e1 e2
    obtain ⟨fuel', y', hy⟩ := trod_field_at ht h i hf1
    rw [e1, e2, hc, take1 (by omega)] at hy
    refine ⟨fuel', y', ?_⟩
    rw [getElem!_pos cs i (by omega)]
    exact hy
  obtain ⟨_, _, q0⟩ := fld 0 tI (by omega) f0 cI
  obtain ⟨_, _, q1⟩ := fld 1 tS (by omega) f1 cS
  obtain ⟨_, _, q2⟩ := fld 2 tS (by omega) f2 cS
  obtain ⟨_, _, q3⟩ := fld 3 tI (by omega) f3 cI
  obtain ⟨_, _, q4⟩ := fld 4 tI (by omega) f4 cI
  obtain ⟨_, _, q5⟩ := fld 5 tB (by omega) f5 cB
  obtain ⟨v0, v1, v2, v3, v4, v5, rfl⟩ : ∃ v0 v1 v2 v3 v4 v5, cs = [v0, v1, v2, v3, v4, v5] := by
    match cs, hl with
    | [v0, v1, v2, v3, v4, v5], _ => exact ⟨v0, v1, v2, v3, v4, v5, rfl⟩
  obtain ⟨k, rfl, _⟩ := trod_int hI (v := v0) q0
  obtain ⟨s1, rfl, _⟩ := trod_string hS (v := v1) q1
  obtain ⟨s2, rfl, _⟩ := trod_string hS (v := v2) q2
  obtain ⟨n, rfl, _⟩ := trod_int hI (v := v3) q3
  obtain ⟨t, rfl, _⟩ := trod_int hI (v := v4) q4
  obtain ⟨rr, bs, mk, g1, g2, g3⟩ := elem_row (W := W) (b0 := b0) (o0 := o0) hb0 ho0 (elem_in (v := v5) hB hU cU q5)
  refine ⟨(rr, fun i => ⟨k, s1.data.toList, s2.data.toList, n, t, mk i, bs⟩), g1, fun i rs hrs => ⟨?_, (g3 i rs hrs).2⟩⟩
  have hr5 := (g3 i rs hrs).1
  exact AV.relL_cons_cons.2 ⟨by simp only [AV.rel], AV.relL_cons_cons.2 ⟨by simp only [AV.rel]; exact ⟨s1, rfl, rfl⟩, AV.relL_cons_cons.2 ⟨by simp only [AV.rel]; exact ⟨s2, rfl, rfl⟩, AV.relL_cons_cons.2 ⟨by simp only [AV.rel], AV.relL_cons_cons.2 ⟨by simp only [AV.rel], AV.relL_cons_cons.2 ⟨hr5, AV.relL_nil.2 rfl⟩⟩⟩⟩⟩⟩
theorem acts_in {H' : Type} {enc : TypeId × Value → H'} {P : Program} {W : World} {base : Nat} {hd : Bool} {t e tI tS tB tU : TypeId} {r : Reach} {b0 fuel : Nat} {v : Value} {y : DataW H' × List MemPlace} {fs : Array Field} (htt : P.underlying t = some (.slice e)) (he6 : P.cellsOf e = 6)
    (ht : P.underlying e = some (.struct fs)) (f0 : (fs.toList[0]?).map (fun f => (f.type, f.offset)) = some (tI, 0)) (f1 : (fs.toList[1]?).map (fun f => (f.type, f.offset)) = some (tS, 1)) (f2 : (fs.toList[2]?).map (fun f => (f.type, f.offset)) = some (tS, 2))
    (f3 : (fs.toList[3]?).map (fun f => (f.type, f.offset)) = some (tI, 3)) (f4 : (fs.toList[4]?).map (fun f => (f.type, f.offset)) = some (tI, 4)) (f5 : (fs.toList[5]?).map (fun f => (f.type, f.offset)) = some (tB, 5))
    (hI : P.underlying tI = some (.int .i64)) (cI : P.cellsOf tI = 1) (hS : P.underlying tS = some .string) (cS : P.cellsOf tS = 1) (hB : P.underlying tB = some (.slice tU)) (cB : P.cellsOf tB = 1) (hU : P.underlying tU = some (.int .u8)) (cU : P.cellsOf tU = 1) (hok : Cell.okWide P W r b0 t v)
    (h : DataW.trod enc P W base (fun _ => true) hd fuel t [v] = some y) (hw : ∀ es sp, y.1 = .slice es sp → es.length < 4611686018427387904) :
    ∃ (rs : List RowG) (a0 : AV) (L : List ActE), (∀ (i : Nat) (r : RowG), rs[i]? = some r → GoodRow (muG rs W) W r) ∧ AV.rel (muG rs W) a0 v ∧ Acts (hG rs) a0 L := by
  rcases rows_in htt he6 (by omega) hok h with rfl | ⟨b, o, len, c, tt, ccs, fr, rfl, hlc, hb, hoc, hel⟩
  · exact ⟨[], .nils, [], fun i r q => (by simp at q), by simp only [AV.rel], .inl ⟨rfl, rfl⟩, fun p q => (by cases q), by show 0 < _; omega⟩
  · have hlen : len < 4611686018427387904 := by
      obtain ⟨es, sp, e1, e2⟩ := slice_data htt h
      rw [← e2]; exact hw es sp e1
    have one : ∀ i, i < len → ∃ x : ActIn, ∃ vs : List Value, (∀ j, j < 6 → ccs[o + i * 6 + j]? = vs[j]?) ∧ ActOk W vs x := by
      intro i hi
      obtain ⟨fuel', y', cs, q1, q2, q3⟩ := hel i hi
      obtain ⟨x, hx⟩ := act_in (W := W) (b0 := b) (o0 := o) hb (by omega) ht f0 f1 f2 f3 f4 f5 hI cI hS cS hB cB hU cU q1 q2
      exact ⟨x, cs, q3, hx⟩
    obtain ⟨E, hE, hp⟩ := list_of (α := ActIn) (P := fun i x => ∃ vs : List Value, (∀ j, j < 6 → ccs[o + i * 6 + j]? = vs[j]?) ∧ ActOk W vs x) len one
    let L : List ActE := E.zipIdx.map fun (x : ActIn × Nat) => x.1.2 (1 + x.2)
    have hL : L.length = len := by simp [L, hE]
    let rs : List RowG := (b, o, .cells true tt (L.flatMap ActE.cells)) :: E.map (·.1)
    have getL : ∀ i q, L[i]? = some q → ∃ x : ActIn, E[i]? = some x ∧ q = x.2 (1 + i) := by
      intro i q hq
      simp only [L, List.getElem?_map, List.getElem?_zipIdx, Option.map_eq_some_iff] at hq
      obtain ⟨z, ⟨x, hx, rfl⟩, rfl⟩ := hq
      exact ⟨x, hx, by simp⟩
    have getR : ∀ i x, E[i]? = some x → rs[1 + i]? = some x.1 := by
      intro i x hx
      show ((b, o, _) :: E.map (·.1))[1 + i]? = _
      rw [Nat.add_comm 1 i, List.getElem?_cons_succ, List.getElem?_map, hx]; rfl
    have hz : (muG rs W).sz 0 = ccs.size := by
      show rowSize W b = _
      unfold rowSize; rw [hb]
    have hlen6 : ∀ M : List ActE, (M.flatMap ActE.cells).length = M.length * 6 := by
      intro M
      induction M with
      | nil => rfl
      | cons a M ih => rw [List.flatMap_cons, List.length_append, ih, List.length_cons]; show 6 + _ = _; omega
    refine ⟨rs, .slice 0 0 len len 6 false, L, fun i rr q => ?_, ?_, .inr ⟨0, tt, len, false, by rw [hL], by rw [hG_base]; show 0 < (E.map (·.1)).length + 1; omega, hG_get (show rs[0]? = some _ from rfl)⟩, fun p hp' => ?_, by rw [hL]; exact hlen⟩
    · cases i with
      | succ i =>
        have q : (E.map (·.1))[i]? = some rr := q
        rw [List.getElem?_map, Option.map_eq_some_iff] at q
        obtain ⟨x, hx, rfl⟩ := q
        obtain ⟨w, _, ok⟩ := hp i x hx
        exact ok.1 _
      | zero =>
        injection q with q; subst q
        refine ⟨⟨ccs, tt, fr, hb⟩, ⟨ccs, fr, hb, fun k a ha => ?_, fun e => (by cases e), fun e => (by cases e)⟩, fun t cs e => (by cases e)⟩
        have hk : k < L.length * 6 := by rw [← hlen6]; exact (List.getElem?_eq_some_iff.1 ha).1
        have hi : k / 6 < L.length := by omega
        have hj : k % 6 < 6 := Nat.mod_lt _ (by omega)
        have ek : k = k / 6 * 6 + k % 6 := by omega
        rw [ek, flat6 hi hj] at ha
        obtain ⟨x, hx, hq⟩ := getL (k / 6) _ (List.getElem?_eq_getElem hi)
        obtain ⟨vs, hvs, ok⟩ := hp _ x hx
        rw [hq] at ha
        obtain ⟨w, hw, hr⟩ := AV.relL_get (ok.2 (1 + k / 6) rs (getR _ x hx)).1 (k % 6) a ha
        refine ⟨w, ?_, hr⟩
        have := hvs (k % 6) hj
        rw [hw, show o + k / 6 * 6 + k % 6 = o + k by omega] at this
        exact this
    · simp only [AV.rel]
      exact ⟨b, o, c, o, _, rfl, rfl, .inl rfl, fun _ => rfl, by omega, fun h => (by cases h), Nat.le_refl _, Nat.le_refl _, by rw [hz]; exact hoc⟩
    · obtain ⟨i, hi⟩ := List.getElem?_of_mem hp'
      obtain ⟨x, hx, rfl⟩ := getL i p hi
      obtain ⟨w, hw, ok⟩ := hp i x hx
      exact (ok.2 (1 + i) rs (getR i x hx)).2
end Go.Am
