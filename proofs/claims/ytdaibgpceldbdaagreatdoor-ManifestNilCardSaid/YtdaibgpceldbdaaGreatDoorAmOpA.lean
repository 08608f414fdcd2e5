/- Operations that make a block: sound. -/
import Derived.Test.YtdaibgpceldbdaaGreatDoorAmOpT
namespace Go.Am
open Go
/-- s makes one block, that reads as k, and answers f at that block -/
def AOk (P : Program) (μ : Mu) (s : Sem Value) (k : Blk) (f : Nat → AV) : Prop :=
  ∀ w : World, ∃ v ob w', s.run P w = .ok v w' ∧ w'.heap = w.heap.push ob ∧ w'.os = w.os ∧ w'.tape = w.tape ∧ w'.output = w.output ∧
    (∀ μ' : Mu, Le μ μ' → BlkRel μ' w' w.heap.size 0 k) ∧ k.live = true ∧ (∃ cs t fr, ob = .cells cs t fr ∧ ∀ n (μ' : Mu), μ' n = some (w.heap.size, 0) → μ'.sz n = cs.size → (f n).rel μ' v)

theorem modify_push (a : Array Obj) (o : Obj) (f : Obj → Obj) : (a.push o).modify a.size f = a.push (f o) := by
  apply Array.ext
  · simp
  · intro i h1 h2
    simp only [Array.getElem_modify, Array.getElem_push]
    simp at h1
    by_cases h : i < a.size
    · have : a.size ≠ i := by omega
      rw [if_neg this, dif_pos h, dif_pos h]
    · have : a.size = i := by omega
      simp [this]

theorem noMu_le {μ : Mu} : Le noMu μ := fun _ _ h => by cases h
theorem aFill_length : ∀ {parts : List (Nat × Nat × AV)} {cs cs' : List AV}, aFill cs parts = some cs' → cs'.length = cs.length
  | [], cs, cs', h => by simp only [aFill, Option.some.injEq] at h; rw [h]
  | (off, size, v) :: parts, cs, cs', h => by
    simp only [aFill] at h
    split at h
    · rw [Str.brec] at h
      split at h
      · split at h
        · rename_i xs hxs hsz cs1 hput
          rw [aFill_length h]
          rw [lputAt_eq] at hput
          split at hput
          · injection hput with hput; subst hput; simp; omega
          · cases hput
        · cases h
      · cases h
    · cases h

section
variable {P : Program} {T : Ty} (hT : TyOk P T) {μ : Mu}

theorem cells_new {μ : Mu} {w w' : World} {t : TypeId} {vs : Array Value} {cs : List AV} (hh : w'.heap = w.heap.push (.cells vs t (0, 0))) (hr : AV.relL μ cs vs.toList) (μ' : Mu) (hm : Le μ μ') :
    BlkRel μ' w' w.heap.size 0 (.cells false t cs) := by
  refine ⟨vs, (0, 0), by rw [hh]; simp, fun i a ha => ?_, fun o _ _ h => by omega, fun _ => rfl⟩
  obtain ⟨v, hv, hvr⟩ := AV.relL_get hr i a ha
  rw [Array.getElem?_toList] at hv
  exact ⟨v, by simpa using hv, AV.rel_mono hm a v hvr⟩

include hT in
theorem alloc_ok {t : TypeId} (ht : (T t).kd.known = true) {k : Blk} {f : Nat → AV} (h : aAlloc t (T t).zero = some (k, f)) : AOk P μ (Instr.alloc t true (.tuple #[])) k f := by
  injection h with h; injection h with e1 e2; subst e1 e2
  intro w
  obtain ⟨i, z, e1, _, _, e2, hzr, _⟩ := (hT t ht).info
  have key : ∀ w, (zeroValue t).run P w = .ok z w := fun w => by simp [zeroValue, typeInfo, e1, e2]
  refine ⟨.pointer (some ⟨w.heap.size, 0, none⟩), .cells z.cells t (0, 0), { w with heap := w.heap.push (.cells z.cells t (0, 0)) }, ?_, rfl, rfl, rfl, rfl, ?_, rfl, ?_⟩
  · simp [Instr.alloc, key, newVar, newRow]
  · exact cells_new rfl (AV.relL_mono noMu_le _ _ hzr)
  · refine ⟨_, _, _, rfl, fun n μ' hm _ => ?_⟩; simp only [AV.rel]; exact ⟨_, _, hm, by simp⟩

theorem box_ok {t : TypeId} {a : AV} {x : Value} {k : Blk} {f : Nat → AV} (h : aBox t a = some (k, f)) (ha : AV.rel μ a x) : AOk P μ (Instr.box t x) k f := by
  unfold aBox at h
  split at h
  · rename_i cs hcs
    injection h with h; injection h with e1 e2; subst e1 e2
    intro w
    refine ⟨.pointer (some ⟨w.heap.size, 0, none⟩), .cells x.cells t (0, 0), { w with heap := w.heap.push (.cells x.cells t (0, 0)) }, ?_, rfl, rfl, rfl, rfl, ?_, rfl, ?_⟩
    · simp [Instr.box, newVar, newRow]
    · exact cells_new rfl (cells_rel hcs ha)
    · refine ⟨_, _, _, rfl, fun n μ' hm _ => ?_⟩; simp only [AV.rel]; exact ⟨_, _, hm, by simp⟩
  · cases h

theorem toBytes_ok : ∀ {cs : List AV} {s : Str} {vs : List Value}, toBytes cs = some s → AV.relL μ cs vs → ∃ l : List UInt8, s = Str.of l ∧ vs = l.map fun b => .int .u8 b.toNat
  | [], s, vs, h, hr => by
    simp only [toBytes, Option.some.injEq] at h; subst h
    rw [AV.relL_nil] at hr; subst hr
    exact ⟨[], rfl, rfl⟩
  | a :: r, s, vs, h, hr => by
    obtain ⟨v, vs', rfl, h1, h2⟩ := AV.relL_cons.1 hr
    unfold toBytes at h
    split at h
    · rename_i e; cases e
    · rename_i c r' e
      injection e with e1 e2; subst e1 e2
      rw [Str.brec] at h
      split at h
      · rename_i hlt; rw [blt_iff] at hlt
        split at h
        · rename_i s' hs
          injection h with h; subst h
          obtain ⟨l, rfl, rfl⟩ := toBytes_ok hs h2
          simp only [AV.rel] at h1; subst h1
          refine ⟨UInt8.ofNat c :: l, ?_, ?_⟩
          · have : (⟨1, c⟩ : Str) = Str.of [UInt8.ofNat c] := by
              simp [Str.of, Str.num, Nat.mod_eq_of_lt hlt]
            rw [this, Str.cat_of]; rfl
          · simp [Nat.mod_eq_of_lt hlt]
        · cases h
      · cases h
    · cases h

theorem row_ok {u8 : Bool} {w w' : World} {t : TypeId} {vs : Array Value} {cs : List AV} {k : Blk} (h : asRow u8 t cs = some k) (hh : w'.heap = w.heap.push (.cells vs t (0, 0))) (hr : AV.relL μ cs vs.toList) :
    k.live = true ∧ ∀ (μ' : Mu), Le μ μ' → BlkRel μ' w' w.heap.size 0 k := by
  unfold asRow at h
  split at h
  · split at h
    · rename_i s hs
      injection h with h; subst h
      refine ⟨rfl, fun μ' _ => ?_⟩
      obtain ⟨l, rfl, hl⟩ := toBytes_ok hs hr
      refine ⟨vs, (0, 0), l, by rw [hh]; simp, rfl, fun i x hx => ?_, fun o _ _ h => by omega, fun _ => .inl rfl⟩
      rw [← Array.getElem?_toList, hl]; simp [hx]
    · cases h
  · injection h with h; subst h
    exact ⟨rfl, fun μ' hm => cells_new hh hr μ' hm⟩

theorem rep_list (z : Array Value) (hz : z.size ≠ 0) : ∀ n, (List.range (n * z.size)).map (fun i => z[i % z.size]!) = lrep n z.toList
  | 0 => by simp; rfl
  | n + 1 => by
    rw [lrep_succ, ← rep_list z hz n, Nat.succ_mul, Nat.add_comm, List.range_add, List.map_append]
    congr 1
    · apply List.ext_getElem?
      intro i
      by_cases hi : i < z.size
      · simp [hi, Nat.mod_eq_of_lt hi]
      · simp [hi]
    · rw [List.map_map]
      apply List.map_congr_left
      intro i _
      simp
theorem relL_rep {zs : List AV} {z : List Value} (h : AV.relL μ zs z) : ∀ n, AV.relL μ (lrep n zs) (lrep n z)
  | 0 => AV.relL_nil.2 rfl
  | n + 1 => by rw [lrep_succ, lrep_succ]; exact AV.relL_append h (relL_rep h n)
/-- a row of zeros, as the model lays it -/
theorem zeros_rel {zs : List AV} {z : Array Value} {size n : Nat} (h : AV.relL μ zs z.toList) (hs : z.size = size) (h0 : size ≠ 0) : AV.relL μ (lrep n zs) ((Array.range (n * size)).map (z[· % z.size]!)).toList := by
  rw [Array.toList_map, Array.toList_range, ← hs, rep_list z (by omega)]
  exact relL_rep h n

include hT in
theorem buildSlice_ok {t e n ty : TypeId} {ps : List (Nat × AV)} {cps : Array (Nat × Value)} {k : Blk} {f : Nat → AV} (ht : (T t).kd = .slice e) (hk : (T e).kd.known = true) (hz0 : (T e).size ≠ 0) (hzl : (T e).zero.length = (T e).size) (hle : n * (T e).size ≤ 16777216)
    (h : aBuildSlice (T e).size (T e).kd.isU8 e (T e).zero n (rParts (T e).size ps) = some (k, f)) (hr : RelP μ ps cps.toList) : AOk P μ (Instr.buildSlice t n cps) k f := by
  obtain ⟨d, h1, rfl⟩ := und_of hT ht rfl
  unfold aBuildSlice at h
  split at h
  · rename_i cs hcs
    split at h
    · rename_i k' hk'
      injection h with h; injection h with e1 e2; subst e1 e2
      intro w
      obtain ⟨i, z, e1, _, _, e2, hzr, _⟩ := (hT e hk).info
      have key : ∀ w, (zeroValue e).run P w = .ok z w := fun w => by simp [zeroValue, typeInfo, e1, e2]
      have hzs : z.cells.size = (T e).size := by have := AV.relL_length hzr; rw [← hzl, ← this]; simp
      have hzr' : AV.relL μ (lrep n (T e).zero) ((Array.range (n * (T e).size)).map (z.cells[· % z.cells.size]!)).toList :=
        zeros_rel (AV.relL_mono noMu_le _ _ hzr) hzs hz0
      obtain ⟨vs', hf, hfr⟩ := fill_ok _ _ cps.toList _ cs _ (rParts_rel (T e).size ps _ hr) hcs hzr'
      obtain ⟨hl, hb⟩ := row_ok (w := w) (w' := { w with heap := w.heap.push (.cells vs' e (0, 0)) }) hk' rfl hfr
      refine ⟨.slice (some ⟨w.heap.size, 0, none⟩) n n, .cells vs' e (0, 0), { w with heap := w.heap.push (.cells vs' e (0, 0)) }, ?_, rfl, rfl, rfl, rfl, hb, hl, ?_⟩
      · have hle' : ¬ n * (T e).size > 2 ^ 24 := Nat.not_lt.2 hle
        by_cases hn : n = 0
        · subst hn
          have e0 : ∀ z : Array Value, (Array.range (0 * (T e).size)).map (z[· % z.size]!) = #[] := fun z => by rw [Nat.zero_mul]; simp
          rw [e0] at hf
          have e1 := e0 #[]
          simp only [Instr.buildSlice, Sem.run_bind, run_underlying h1, Result.andThen_ok, size_run hT hk, Sem.run_ite, Nat.zero_mul, if_true, Sem.run_pure, newRow, run_newObj] at e1 hf ⊢
          have e2 : ∀ f : Nat → Value, (Array.range 0).map f = #[] := fun f => by simp
          simp only [e2, hf, Sem.run_bind, run_newObj, Result.andThen_ok, Sem.run_pure]
          rfl
        · have hne : ¬ n * (T e).size = 0 := by
            intro h0; rcases Nat.mul_eq_zero.1 h0 with h0 | h0
            · exact hn h0
            · exact hz0 h0
          simp only [Instr.buildSlice, Sem.run_bind, run_underlying h1, Result.andThen_ok, size_run hT hk, Sem.run_ite, hne, if_false, key w, Sem.run_pure, hle', hf, newRow, run_newObj]
      · refine ⟨_, _, _, rfl, fun m μ' hm hsz => ?_⟩
        have hvl : vs'.size = n * (T e).size := by
          have h1 := AV.relL_length hfr; have h2 := aFill_length hcs; have h3 := AV.relL_length hzr'
          simp at h1 h3; omega
        simp only [AV.rel]; exact ⟨_, _, _, _, hm, rfl, fun _ => rfl, Nat.le_refl _, fun _ => rfl, Nat.le_refl _, Nat.le_refl _, by rw [hsz, hvl]; omega⟩
    · cases h
  · cases h

include hT in
theorem strBytes_ok {s t e : TypeId} {a : AV} {x : Value} {k : Blk} {f : Nat → AV} (hs : (T s).kd = .str) (ht : (T t).kd = .slice e) (hk : (T e).kd = .int .u8) (h : aStrBytes e a = some (k, f)) (ha : AV.rel μ a x) :
    AOk P μ (convert s t x) k f := by
  obtain ⟨d, h1, rfl⟩ := und_of hT hs rfl
  obtain ⟨d, h2, rfl⟩ := und_of hT ht rfl
  obtain ⟨d, h3, rfl⟩ := und_of hT hk rfl
  unfold aStrBytes at h
  split at h
  · injection h with h; injection h with e1 e2; subst e1 e2
    simp only [AV.rel] at ha
    obtain ⟨b, rfl, rfl⟩ := ha
    intro w
    have hcap : ∀ t, b.size ≤ (Question.appendCap b.size 0 e).cut t := fun t => by show b.size ≤ b.size + _; omega
    generalize hc : (Question.appendCap b.size 0 e).cut (w.tape w.drawn (.appendCap b.size 0 e)) = cap
    have hle : b.size ≤ cap := by rw [← hc]; exact hcap _
    have hsz : ((b.data.map fun b => Value.int .u8 b.toNat) ++ Array.replicate (cap - b.size) (Value.int .u8 0)).size = cap := by
      have : b.data.size = b.size := rfl
      simp [this]; omega
    refine ⟨.slice (some ⟨w.heap.size, 0, none⟩) b.size cap, .cells ((b.data.map fun b => .int .u8 b.toNat) ++ Array.replicate (cap - b.size) (.int .u8 0)) e (cap, cap + 1), { w with heap := w.heap.push (.cells ((b.data.map fun b => .int .u8 b.toNat) ++ Array.replicate (cap - b.size) (.int .u8 0)) e (cap, cap + 1)), drawn := w.drawn + 1 }, ?_, rfl, rfl, rfl, rfl, ?_, rfl, ?_⟩
    · have hsh : ∀ (w : World) (o : Obj), ({ w with heap := w.heap.push o } : World).heap[w.heap.size]? = some o := fun w o => by simp
      simp only [convert, Sem.run_bind, run_underlying h1, run_underlying h2, run_underlying h3, Result.andThen_ok, Conv.stringToBytes, run_choose, Question.forced, Bool.false_eq_true, if_false, newRow, run_newObj, Sem.run_pure, hc, markStringish, run_shape, World.shape?, hsh, hsz, run_freeze]
      congr 1
      unfold World.freeze
      rw [if_neg (by omega)]
      simp only [modify_push]
      rfl
    · intro μ' hm
      refine ⟨(b.data.map fun b => .int .u8 b.toNat) ++ Array.replicate (cap - b.size) (.int .u8 0), (cap, cap + 1), b.data.toList, by simp, rfl, fun i y hy => ?_, fun o _ ho h => by rw [hsz] at ho; simp at h; omega, fun h => (by cases h)⟩
      have hi : i < b.data.size := by simpa using (List.getElem?_eq_some_iff.1 hy).1
      rw [Nat.zero_add, Array.getElem?_append_left (by simpa using hi)]
      simp
      exact ⟨_, by simpa using hy, rfl⟩
    · refine ⟨_, _, _, rfl, fun n μ' hm hsz2 => ?_⟩
      simp only [AV.rel]; exact ⟨_, _, _, _, hm, rfl, fun _ => (Nat.zero_add 0).symm, hle, fun h => (by cases h), Nat.le_refl _, Nat.le_refl _, by rw [hsz2, hsz]; omega⟩
  · cases h
end
end Go.Am
