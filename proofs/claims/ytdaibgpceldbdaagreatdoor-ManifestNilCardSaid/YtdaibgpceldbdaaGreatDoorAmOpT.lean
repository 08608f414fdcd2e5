/- Struct values and slices that are written out: sound. -/
import Derived.Test.YtdaibgpceldbdaaGreatDoorAmOpS
namespace Go.Am
open Go
section
variable {P : Program} {T : Ty} (hT : TyOk P T) {μ : Mu}

theorem lay_eq : ∀ (xs : List Value) (off k : Nat) (cs : Array Value), (xs.zipIdx k).foldl (fun cs (c, j) => cs.setIfInBounds (off + j) c) cs =
    if off + k + xs.length ≤ cs.size then (cs.toList.take (off + k) ++ xs ++ cs.toList.drop (off + k + xs.length)).toArray else (xs.zipIdx k).foldl (fun cs (c, j) => cs.setIfInBounds (off + j) c) cs
  | [], off, k, cs => by simp
  | x :: xs, off, k, cs => by
    by_cases h : off + k + (x :: xs).length ≤ cs.size
    · rw [if_pos h]
      simp only [List.zipIdx_cons, List.foldl_cons]
      rw [lay_eq xs off (k + 1) _, if_pos (by simp at h ⊢; omega)]
      have e := list_seg_step cs.toList (off + k) x xs (by simp at h ⊢; omega)
      congr 1
      simpa [Array.toList_setIfInBounds, Nat.add_assoc] using e
    · rw [if_neg h]

theorem relL_put {cs xs : List AV} {cs' : List AV} {vs : Array Value} {x : Value} {off : Nat} (h : lputAt off xs cs = some cs') (hr : AV.relL μ cs vs.toList) (hx : AV.relL μ xs x.cells.toList) :
    off + x.cells.size ≤ vs.size ∧ x.cells.size = xs.length ∧ AV.relL μ cs' (x.cells.zipIdx.foldl (fun cs (c, j) => cs.setIfInBounds (off + j) c) vs).toList := by
  rw [lputAt_eq] at h
  split at h
  · rename_i hle
    injection h with h; subst h
    have e1 := AV.relL_length hr
    have e2 := AV.relL_length hx
    have e1' : vs.size = cs.length := by simpa using e1
    have e2' : x.cells.size = xs.length := by simpa using e2
    refine ⟨by omega, e2', ?_⟩
    have hz : x.cells.zipIdx.foldl (fun cs (c, j) => cs.setIfInBounds (off + j) c) vs = (x.cells.toList.zipIdx 0).foldl (fun cs (c, j) => cs.setIfInBounds (off + j) c) vs := by
      rw [← Array.foldl_toList, Array.toList_zipIdx]
    rw [hz, lay_eq, if_pos (by simp; omega)]
    simp only [Nat.add_zero]
    rw [show x.cells.toList.length = xs.length from e2]
    exact AV.relL_append (AV.relL_append (relL_take _ hr) hx) (relL_drop _ hr)
  · cases h

def PartsRel (μ : Mu) (place : Nat → Option (Nat × Nat)) : List (Nat × Nat × AV) → List (Nat × Value) → Prop
  | [], cps => cps = []
  | p :: ps, cps => ∃ i x r, cps = (i, x) :: r ∧ place i = some (p.1, p.2.1) ∧ AV.rel μ p.2.2 x ∧ PartsRel μ place ps r
theorem fill_ok (place : Nat → Option (Nat × Nat)) : ∀ (parts : List (Nat × Nat × AV)) (cps : List (Nat × Value)) (cs cs' : List AV) (vs : Array Value),
    PartsRel μ place parts cps → aFill cs parts = some cs' → AV.relL μ cs vs.toList →
    ∃ vs', Instr.fill place vs cps = some vs' ∧ AV.relL μ cs' vs'.toList
  | [], _, cs, cs', vs, hp, h, hr => by
    simp only [PartsRel] at hp; subst hp
    simp only [aFill, Option.some.injEq] at h; subst h
    exact ⟨vs, rfl, hr⟩
  | (off, size, v) :: parts, _, cs, cs', vs, hp, h, hr => by
    simp only [PartsRel] at hp
    obtain ⟨i, x, cps, rfl, h1, hx0, h2⟩ := hp
    simp only [aFill] at h
    split at h
    · rename_i xs hxs
      rw [Str.brec] at h
      split at h
      · rename_i hsz; rw [Nat.beq_eq] at hsz
        split at h
        · rename_i cs1 hput
          have hx := cells_rel hxs hx0
          obtain ⟨e1, e2, e3⟩ := relL_put hput hr hx
          obtain ⟨vs', hf, hfr⟩ := fill_ok place parts cps cs1 cs' _ h2 h e3
          refine ⟨vs', ?_, hfr⟩
          simp only [Instr.fill, h1]
          rw [if_neg]
          · exact hf
          · simp; omega
        · cases h
      · cases h
    · cases h

/-- the parts of a struct value, by the table -/
def sParts (T : Ty) (fs : List (Nat × Nat)) : List (Nat × AV) → Option (List (Nat × Nat × AV))
  | [] => some []
  | (i, v) :: r => match fs[i]? with
    | some (off, t) => match (T t).kd.known with
      | true => match sParts T fs r with
        | some l => some ((off, (T t).size, v) :: l)
        | none => none
      | false => none
    | none => none
/-- the parts of an array value or a slice, of elements of one size -/
def rParts (size : Nat) : List (Nat × AV) → List (Nat × Nat × AV)
  | [] => []
  | (i, v) :: r => (i * size, size, v) :: rParts size r
def RelP (μ : Mu) : List (Nat × AV) → List (Nat × Value) → Prop
  | [], cps => cps = []
  | p :: ps, cps => ∃ x r, cps = (p.1, x) :: r ∧ AV.rel μ p.2 x ∧ RelP μ ps r
theorem rParts_rel (size : Nat) : ∀ (ps : List (Nat × AV)) (cps : List (Nat × Value)), RelP μ ps cps → PartsRel μ (fun i => some (i * size, size)) (rParts size ps) cps
  | [], _, h => h
  | (i, v) :: r, _, h => by
    obtain ⟨x, cr, rfl, h1, h2⟩ := h
    exact ⟨i, x, cr, rfl, rfl, h1, rParts_rel size r cr h2⟩

include hT in
theorem places_run (w : World) : ∀ (fields : List Field), (∀ f ∈ fields, (T f.type).kd.known = true) → ((fields.mapM fun f => do pure (f.offset, ← sizeOf f.type) : Sem (List (Nat × Nat))).run P w) = .ok (fields.map fun f => (f.offset, (T f.type).size)) w
  | [], _ => rfl
  | f :: fs, h => by
    have h1 := size_run hT (w := w) (h f (by simp))
    have h2 := places_run w fs fun g hg => h g (by simp [hg])
    simp only [List.mapM_cons, Sem.run_bind, h1, Result.andThen_ok, Sem.run_pure, h2, List.map_cons]

theorem sParts_rel (fields : List Field) : ∀ (ps : List (Nat × AV)) (l : List (Nat × Nat × AV)) (cps : List (Nat × Value)), sParts T (fields.map fun f => (f.offset, f.type)) ps = some l → RelP μ ps cps →
    PartsRel μ (fun i => (fields.map fun f => (f.offset, (T f.type).size))[i]?) l cps
  | [], l, cps, h, hr => by
    simp only [sParts, Option.some.injEq] at h; subst h; exact hr
  | (i, v) :: r, l, cps, h, hr => by
    obtain ⟨x, cr, rfl, h1, h2⟩ := hr
    simp only [sParts] at h
    split at h
    · rename_i off t hf
      split at h
      · split at h
        · rename_i l' hl
          injection h with h; subst h
          refine ⟨i, x, cr, rfl, ?_, h1, sParts_rel fields r l' cr hl h2⟩
          rw [List.getElem?_map, Option.map_eq_some_iff] at hf
          obtain ⟨f, hf, e⟩ := hf
          injection e with e1 e2
          simp [hf, e1, e2]
        · cases h
      · cases h
    · cases h

theorem forall_known {fs : List (Nat × Nat)} (h : fs.all (fun p => (T p.2).kd.known) = true) {fields : List Field} (e : fs = fields.map fun f => (f.offset, f.type)) : ∀ f ∈ fields, (T f.type).kd.known = true := by
  intro f hf
  subst e
  rw [List.all_map, List.all_eq_true] at h
  exact h f hf

include hT in
theorem buildS_ok {t : TypeId} {fs : List (Nat × Nat)} {ps : List (Nat × AV)} {l : List (Nat × Nat × AV)} {cps : Array (Nat × Value)} {r : AV} (ht : (T t).kd = .struct fs) (hk : fs.all (fun p => (T p.2).kd.known) = true)
    (hl : sParts T fs ps = some l) (h : aBuild (T t).zero l = some r) (hr : RelP μ ps cps.toList) : ∃ v, Yld P (Instr.build t cps) v ∧ r.rel μ v := by
  obtain ⟨d, h1, fields, rfl, h3⟩ := und_of hT ht rfl
  unfold aBuild at h
  split at h
  · rename_i cs hcs
    injection h with h; subst h
    obtain ⟨i, z0, e1, _, _, e2, hzr, _⟩ := (hT t (by rw [ht]; rfl)).info
    have zsame : ∀ w, (zeroValue t).run P w = .ok z0 w := fun w => by simp [zeroValue, typeInfo, e1, e2]
    subst h3
    have hp := sParts_rel (T := T) (μ := μ) fields.toList ps l cps.toList hl hr
    have hzr' : AV.relL μ (T t).zero z0.cells.toList := AV.relL_mono (fun _ _ h => by cases h) _ _ hzr
    obtain ⟨vs', hf, hfr⟩ := fill_ok _ l cps.toList _ cs z0.cells hp hcs hzr'
    refine ⟨.agg vs', fun w => ?_, by simp only [AV.rel]; exact ⟨vs', rfl, hfr⟩⟩
    have hpl : ((fields.mapM fun f => do pure (f.offset, ← sizeOf f.type) : Sem (Array (Nat × Nat))).run P w) = .ok (fields.toList.map fun f => (f.offset, (T f.type).size)).toArray w := by
      rw [Array.mapM_eq_mapM_toList]
      simp only [Sem.run_map, places_run hT w fields.toList (forall_known hk rfl), Result.andThen_ok]
    simp only [Instr.build, Sem.run_bind, zsame w, Result.andThen_ok, run_underlying h1, hpl, List.getElem?_toArray, hf, Sem.run_pure]
  · cases h

include hT in
theorem buildA_ok {t n e : TypeId} {ps : List (Nat × AV)} {cps : Array (Nat × Value)} {r : AV} (ht : (T t).kd = .arr n e) (hk : (T e).kd.known = true)
    (h : aBuild (T t).zero (rParts (T e).size ps) = some r) (hr : RelP μ ps cps.toList) : ∃ v, Yld P (Instr.build t cps) v ∧ r.rel μ v := by
  obtain ⟨d, h1, rfl⟩ := und_of hT ht rfl
  unfold aBuild at h
  split at h
  · rename_i cs hcs
    injection h with h; subst h
    obtain ⟨i, z, e1, _, _, e2, hzr, _⟩ := (hT t (by rw [ht]; rfl)).info
    have key : ∀ w, (zeroValue t).run P w = .ok z w := fun w => by simp [zeroValue, typeInfo, e1, e2]
    have hzr' : AV.relL μ (T t).zero z.cells.toList := AV.relL_mono (fun _ _ h => by cases h) _ _ hzr
    obtain ⟨vs', hf, hfr⟩ := fill_ok _ _ cps.toList _ cs z.cells (rParts_rel (T e).size ps _ hr) hcs hzr'
    refine ⟨.agg vs', fun w => ?_, by simp only [AV.rel]; exact ⟨vs', rfl, hfr⟩⟩
    simp only [Instr.build, Sem.run_bind, key w, Result.andThen_ok, run_underlying h1, size_run hT hk, hf, Sem.run_pure]
  · cases h
end
end Go.Am
