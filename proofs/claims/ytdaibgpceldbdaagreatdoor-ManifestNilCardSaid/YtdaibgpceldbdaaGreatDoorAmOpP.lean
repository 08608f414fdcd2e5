/- The pure operations are sound. -/
import Derived.Test.YtdaibgpceldbdaaGreatDoorAmOps
namespace Go.Am
open Go

def KdRel : Kd → TypeDesc → Prop
  | .other, _ => True
  | .bool, d => d = .bool
  | .int k, d => d = .int k
  | .str, d => d = .string
  | .unsafe_, d => d = .unsafePointer
  | .ptr e, d => d = .pointer e
  | .slice e, d => d = .slice e
  | .arr n e, d => d = .array n e
  | .struct fs, d => ∃ fields, d = .struct fields ∧ fs = fields.toList.map (fun f => (f.offset, f.type))
  | .map k e, d => d = .map k e
  | .func, d => ∃ a b c, d = .func a b c
  | .iface, d => ∃ ms, d = .interface ms

def noMu : Mu := ⟨fun _ => none, fun _ => 0⟩

structure TIRel (P : Program) (t : TypeId) (ti : TI) : Prop where
  info : ∃ i z, P.info? t = some i ∧ i.size = ti.size ∧ i.bytes = ti.bytes ∧ i.zero = some z ∧ AV.relL noMu ti.zero z.cells.toList ∧ (ti.kd.agg = true → ∃ cs, z = .agg cs)
  und : ∃ d, P.underlying t = some d ∧ KdRel ti.kd d
  one : ti.kd.agg = false → ∀ i z, P.info? t = some i → i.zero = some z → z.cells = #[z]
  eqp : ti.eqp = true → P.eqGuardType P.depth t = false ∧ P.stoodInHeld t = false ∧ (∀ fs, P.underlying t = some (.struct fs) → ∀ f ∈ fs, f.name ≠ "_")

def TyOk (P : Program) (T : Ty) : Prop := ∀ t, (T t).kd.known = true → TIRel P t (T t)

section
variable {P : Program} {T : Ty} (hT : TyOk P T) {μ : Mu} {w : World}
include hT

theorem und_of {t : TypeId} {k : Kd} (h : (T t).kd = k) (hk : k.known = true) : ∃ d, P.underlying t = some d ∧ KdRel k d := by
  have := (hT t (by rw [h]; exact hk)).und; rwa [h] at this
theorem size_run {t : TypeId} (h : (T t).kd.known = true) : (sizeOf t).run P w = .ok (T t).size w := by
  obtain ⟨i, z, h1, h2, _⟩ := (hT t h).info
  simp [sizeOf, typeInfo, h1, h2]
theorem agg_run {t : TypeId} (h : (T t).kd.known = true) : (isAgg t).run P w = .ok (T t).kd.agg w := by
  obtain ⟨d, h1, h2⟩ := (hT t h).und
  unfold isAgg
  simp only [Sem.run_bind, run_underlying h1, Result.andThen_ok]
  revert h h2
  generalize (T t).kd = k
  intro h h2
  cases k <;> simp only [KdRel, Kd.agg] at h2 ⊢
  case other => cases h
  case struct fs => obtain ⟨fields, rfl, _⟩ := h2; rfl
  case func => obtain ⟨a, b, c, rfl⟩ := h2; rfl
  case iface => obtain ⟨a, rfl⟩ := h2; rfl
  all_goals (subst h2; rfl)
theorem zero_run {t : TypeId} (h : (T t).kd.known = true) : ∃ z, (zeroValue t).run P w = .ok z w ∧ AV.relL noMu (T t).zero z.cells.toList ∧ ((T t).kd.agg = true → ∃ cs, z = .agg cs) := by
  obtain ⟨i, z, h1, _, _, h2, h3, h4⟩ := (hT t h).info
  exact ⟨z, by simp [zeroValue, typeInfo, h1, h2], h3, h4⟩

theorem zero_run1 {t : TypeId} (h : (T t).kd.known = true) (ha : (T t).kd.agg = false) : ∃ z, (zeroValue t).run P w = .ok z w ∧ AV.relL noMu (T t).zero [z] := by
  obtain ⟨i, z, h1, _, _, h2, h3, _⟩ := (hT t h).info
  have := (hT t h).one ha i z h1 h2
  rw [this] at h3
  exact ⟨z, by simp [zeroValue, typeInfo, h1, h2], by simpa using h3⟩

omit hT in
theorem cells_rel {a : AV} {v : Value} {cs : List AV} (h : acells a = some cs) (hr : a.rel μ v) : AV.relL μ cs v.cells.toList := by
  have one : ∀ {a : AV}, cs = [a] → a.rel μ v → v.cells = #[v] → AV.relL μ cs v.cells.toList := fun e h1 h2 => by
    subst e; rw [h2]; exact AV.relL_cons.2 ⟨v, [], rfl, h1, AV.relL_nil.2 rfl⟩
  cases a <;> simp only [acells, reduceCtorEq, Option.some.injEq] at h
  case agg => subst h; simp only [AV.rel] at hr; obtain ⟨vs, rfl, h2⟩ := hr; exact h2
  all_goals
    refine one h.symm hr ?_
    simp only [AV.rel] at hr
    first
      | (subst hr; rfl)
      | (obtain ⟨_, rfl, _⟩ := hr; rfl)
      | (obtain ⟨_, _, _, rfl⟩ := hr; rfl)
      | (obtain ⟨_, _, _, _, _, rfl, _⟩ := hr; rfl)
      | (obtain ⟨_, _, rfl⟩ := hr; rfl)
      | (obtain ⟨_, _, rfl, _⟩ := hr; rfl)
omit hT in
theorem one_rel {a : AV} {v : Value} (h : a.one = true) (hr : a.rel μ v) : v.oneCell' = true := by
  cases a <;> simp only [AV.one, Bool.false_eq_true] at h <;> simp only [AV.rel] at hr
  all_goals first
      | (subst hr; rfl)
      | (obtain ⟨_, rfl, _⟩ := hr; rfl)
      | (obtain ⟨_, _, _, rfl⟩ := hr; rfl)
      | (obtain ⟨_, _, _, _, _, rfl, _⟩ := hr; rfl)
      | (obtain ⟨_, _, rfl⟩ := hr; rfl)
      | (obtain ⟨_, _, rfl, _⟩ := hr; rfl)
omit hT in
theorem ofVal_rel (v : Value) : (ofVal v).rel μ v := by
  unfold ofVal; split <;> simp [AV.rel]
omit hT in
theorem allOne_iff : ∀ {l : List AV}, allOne l = true → ∀ a ∈ l, a.one = true
  | [], _, a, ha => by cases ha
  | x :: t, h, a, ha => by
    unfold allOne at h
    split at h
    · rename_i hx
      cases ha with
      | head => exact hx
      | tail _ ha => exact allOne_iff h a ha
    · cases h

/-- a pure operation yields v in every world -/
def Yld (P : Program) (s : Sem Value) (v : Value) : Prop := ∀ w, s.run P w = .ok v w

omit hT in
theorem relL_drop {l : List AV} {vs : List Value} (n : Nat) (h : AV.relL μ l vs) : AV.relL μ (l.drop n) (vs.drop n) := by
  refine AV.relL_of_get (by simp [AV.relL_length h]) fun i a ha => ?_
  simp only [List.getElem?_drop] at ha ⊢; exact AV.relL_get h _ _ ha
omit hT in
theorem relL_take {l : List AV} {vs : List Value} (n : Nat) (h : AV.relL μ l vs) : AV.relL μ (l.take n) (vs.take n) := by
  refine AV.relL_of_get (by simp [AV.relL_length h]) fun i a ha => ?_
  simp only [List.getElem?_take] at ha ⊢
  split at ha
  · rename_i hi; rw [if_pos hi]; exact AV.relL_get h _ _ ha
  · cases ha

theorem part_ok {t : TypeId} {off : Nat} {cs : List AV} {vs : Array Value} {r : AV} (hk : (T t).kd.known = true) (h : aPart (T t).kd.agg (T t).size off cs = some r) (hr : AV.relL μ cs vs.toList) :
    ∃ v, Yld P (part t vs off) v ∧ r.rel μ v := by
  unfold aPart at h
  cases ha : (T t).kd.agg with
  | true =>
    rw [ha] at h
    simp only [ltake_eq, ldrop_eq] at h
    split at h
    · rename_i l hl
      split at hl
      · injection hl with hl; injection h with h; subst hl h
        refine ⟨.agg (vs.extract off (off + (T t).size)), fun w => ?_, ?_⟩
        · simp [part, agg_run hT hk, size_run hT hk, ha]
        · simp only [AV.rel]
          refine ⟨_, rfl, ?_⟩
          have := relL_take (T t).size (relL_drop off hr)
          rw [Array.toList_extract, List.extract_eq_take_drop]
          rwa [show off + (T t).size - off = (T t).size from by omega]
      · cases hl
    · cases h
  | false =>
    rw [ha] at h
    simp only [lgetO_eq] at h
    obtain ⟨v, hv, hrv⟩ := AV.relL_get hr _ _ h
    refine ⟨v, fun w => ?_, hrv⟩
    rw [Array.getElem?_toList] at hv
    simp [part, agg_run hT hk, ha, hv]

omit hT in
theorem addr_add (b o n : Nat) : (⟨b, o, none⟩ : Addr).add n = ⟨b, o + n, none⟩ := by
  unfold Addr.add; split <;> simp_all

theorem field_ok {t ft i foff : Nat} {fs : List (Nat × Nat)} {a r : AV} {v : Value} (ht : (T t).kd = .struct fs) (hi : fs[i]? = some (foff, ft)) (hk : (T ft).kd.known = true)
    (h : aField (T ft).kd.agg (T ft).size foff a = some r) (hr : a.rel μ v) : ∃ x, Yld P (Instr.field t v i) x ∧ r.rel μ x := by
  obtain ⟨d, h1, fields, rfl, h3⟩ := und_of hT ht rfl
  unfold aField at h
  split at h
  · rename_i cs
    simp only [AV.rel] at hr
    obtain ⟨vs, rfl, hrl⟩ := hr
    obtain ⟨x, hx, hxr⟩ := part_ok hT hk h hrl
    rw [h3, List.getElem?_map, Option.map_eq_some_iff] at hi
    obtain ⟨f, hf, hfe⟩ := hi
    rw [Array.getElem?_toList] at hf
    injection hfe with e1 e2
    refine ⟨x, fun w => ?_, hxr⟩
    have := hx w
    simp only [Instr.field, Sem.run_bind, run_underlying h1, Result.andThen_ok, hf, asAgg, Sem.run_pure, e1, e2]
    exact this
  · cases h

theorem fieldAddr_ok {t ft i foff : Nat} {fs : List (Nat × Nat)} {a r : AV} {v : Value} (ht : (T t).kd = .struct fs) (hi : fs[i]? = some (foff, ft)) (hk : (T ft).kd.known = true) (hz : (T ft).size ≠ 0)
    (h : aFieldAddr foff a = some r) (hr : a.rel μ v) : ∃ x, Yld P (Instr.fieldAt t v i) x ∧ r.rel μ x := by
  obtain ⟨d, h1, fields, rfl, h3⟩ := und_of hT ht rfl
  unfold aFieldAddr at h
  split at h
  · rename_i id off
    injection h with h; subst h
    simp only [AV.rel] at hr
    obtain ⟨b, dd, hm, rfl⟩ := hr
    rw [h3, List.getElem?_map, Option.map_eq_some_iff] at hi
    obtain ⟨f, hf, hfe⟩ := hi
    rw [Array.getElem?_toList] at hf
    injection hfe with e1 e2
    refine ⟨.pointer (some ⟨b, dd + off + foff, none⟩), fun w => ?_, ?_⟩
    · simp only [Instr.fieldAt, Sem.run_bind, run_underlying h1, Result.andThen_ok, hf, Instr.sureAddr, Sem.run_pure, fieldPlace, e1, e2, size_run hT hk, hz, if_false, addr_add]
    · simp only [AV.rel]; exact ⟨b, dd, hm, by simp [Nat.add_assoc]⟩
  · cases h

theorem indexAddr_ok {t e : Nat} {a i r : AV} {v vi : Value} (ht : (T t).kd = .slice e) (hk : (T e).kd.known = true)
    (h : aIndexAddr (T e).size a i = some r) (hr : a.rel μ v) (hri : i.rel μ vi) : ∃ x, Yld P (Instr.indexAt t v vi) x ∧ r.rel μ x := by
  obtain ⟨d, h1, rfl⟩ := und_of hT ht rfl
  unfold aIndexAddr at h
  split at h
  · rename_i id off len cap es ex k n
    rw [Str.brec, seqN_eq] at h
    split at h
    · rename_i hlt; rw [blt_iff] at hlt
      injection h with h; subst h
      simp only [AV.rel] at hr hri
      obtain ⟨b, dd, c, o, hm, rfl, ho, hc, _, hle, _⟩ := hr
      subst hri
      have ho := ho (by omega)
      subst ho
      refine ⟨.pointer (some ⟨b, dd + off + n * (T e).size, none⟩), fun w => ?_, ?_⟩
      · have hn : (0 : Int) ≤ Int.ofNat n ∧ Int.ofNat n < (len : Int) := ⟨Int.natCast_nonneg n, by show (n : Int) < _; omega⟩
        have hn2 : (Int.ofNat n).toNat = n := rfl
        simp only [Instr.indexAt, asIntOf, Sem.run_bind, Sem.run_pure, run_underlying h1, Result.andThen_ok, Bool.and_false, size_run hT hk, hn, hn2, and_self, if_true, addr_add]
      · simp only [AV.rel]; exact ⟨b, dd, hm, by simp [Nat.add_assoc]⟩
    · cases h
  · cases h

theorem indexArrAddr_ok {t e n : Nat} {a i r : AV} {v vi : Value} (ht : (T t).kd = .arr n e) (hk : (T e).kd.known = true)
    (h : aIndexArrAddr n (T e).size a i = some r) (hr : a.rel μ v) (hri : i.rel μ vi) : ∃ x, Yld P (Instr.indexAt t v vi) x ∧ r.rel μ x := by
  obtain ⟨d, h1, rfl⟩ := und_of hT ht rfl
  unfold aIndexArrAddr at h
  split at h
  · rename_i id off k m
    rw [Str.brec, seqN_eq] at h
    split at h
    · rename_i hlt; rw [blt_iff] at hlt
      injection h with h; subst h
      simp only [AV.rel] at hr hri
      obtain ⟨b, dd, hm, rfl⟩ := hr
      subst hri
      refine ⟨.pointer (some ⟨b, dd + off + m * (T e).size, none⟩), fun w => ?_, ?_⟩
      · have hn : (0 : Int) ≤ Int.ofNat m ∧ Int.ofNat m < (n : Int) := ⟨Int.natCast_nonneg m, by show (m : Int) < _; omega⟩
        have hn2 : (Int.ofNat m).toNat = m := rfl
        simp only [Instr.indexAt, asIntOf, Sem.run_bind, Sem.run_pure, run_underlying h1, Result.andThen_ok, Instr.sureAddr, size_run hT hk, hn, hn2, and_self, if_true, addr_add]
      · simp only [AV.rel]; exact ⟨b, dd, hm, by simp [Nat.add_assoc]⟩
    · cases h
  · cases h

omit hT in
theorem str_get {s : ByteArray} {i : Nat} (h : i < s.size) : ∃ b : UInt8, s[i]? = some b ∧ (Str.of s.data.toList).get i = b.toNat := by
  have h' : i < s.data.toList.length := h
  refine ⟨s.data.toList[i], ?_, Str.get_of _ _ h'⟩
  rw [getElem?_pos s i h]
  rfl

theorem indexStr_ok {t : Nat} {a i r : AV} {v vi : Value} (ht : (T t).kd = .str)
    (h : aIndexStr a i = some r) (hr : a.rel μ v) (hri : i.rel μ vi) : ∃ x, Yld P (Instr.index t v vi) x ∧ r.rel μ x := by
  obtain ⟨d, h1, rfl⟩ := und_of hT ht rfl
  unfold aIndexStr at h
  split at h
  · rename_i s k n
    rw [Str.brec, seqN_eq] at h
    split at h
    · rename_i hlt; rw [blt_iff] at hlt
      injection h with h; subst h
      simp only [AV.rel] at hr hri
      obtain ⟨b, rfl, rfl⟩ := hr
      subst hri
      obtain ⟨c, hc, hcg⟩ := str_get (s := b) (i := n) hlt
      refine ⟨.int .u8 c.toNat, fun w => ?_, ?_⟩
      · have hn : (0 : Int) ≤ Int.ofNat n := Int.natCast_nonneg n
        have hn2 : (Int.ofNat n).toNat = n := rfl
        simp only [Instr.index, asIntOf, Sem.run_bind, Sem.run_pure, run_underlying h1, Result.andThen_ok, hn, hn2, if_true, hc]
      · simp only [AV.rel]; rw [hcg]; rfl
    · cases h
  · cases h

theorem indexArr_ok {t e n : Nat} {a i r : AV} {v vi : Value} (ht : (T t).kd = .arr n e) (hk : (T e).kd.known = true)
    (h : aIndexArr n (T e).kd.agg (T e).size a i = some r) (hr : a.rel μ v) (hri : i.rel μ vi) : ∃ x, Yld P (Instr.index t v vi) x ∧ r.rel μ x := by
  obtain ⟨d, h1, rfl⟩ := und_of hT ht rfl
  unfold aIndexArr at h
  split at h
  · rename_i cs k m
    rw [Str.brec] at h
    split at h
    · rename_i hlt; rw [blt_iff] at hlt
      simp only [AV.rel] at hr hri
      obtain ⟨vs, rfl, hrl⟩ := hr
      subst hri
      obtain ⟨x, hx, hxr⟩ := part_ok hT hk h hrl
      refine ⟨x, fun w => ?_, hxr⟩
      have hn : (0 : Int) ≤ Int.ofNat m ∧ Int.ofNat m < (n : Int) := ⟨Int.natCast_nonneg m, by show (m : Int) < _; omega⟩
      have hn2 : (Int.ofNat m).toNat = m := rfl
      have := hx w
      simp only [Instr.index, asIntOf, Sem.run_bind, Sem.run_pure, run_underlying h1, Result.andThen_ok, hn, hn2, and_self, if_true, size_run hT hk]
      exact this
    · cases h
  · cases h

/-- a bound that is given or not, on both sides -/
def optRel (μ : Mu) : Option AV → Option Value → Prop
  | none, none => True
  | some a, some v => a.rel μ v
  | _, _ => False
omit hT in
theorem bnd_cases {d n : Nat} {x : Option AV} {y : Option Value} (h : bnd d x = some n) (hr : optRel μ x y) : (y = none ∧ n = d) ∨ (∃ k, y = some (.int k (Int.ofNat n))) := by
  cases x with
  | none => cases y with
    | none => simp [bnd] at h; exact .inl ⟨rfl, h.symm⟩
    | some v => cases hr
  | some a =>
    cases y with
    | none => cases hr
    | some v =>
      unfold bnd at h
      split at h
      · rename_i e; cases e
      · rename_i k m e
        injection e with e; subst e; injection h with h; subst h
        simp only [optRel, AV.rel] at hr; exact .inr ⟨k, by rw [hr]⟩
      · cases h

omit hT in
theorem sliceBound_run {k : IntKind} {n y : Nat} {code : BoundsCode} {w : World} (h : n ≤ y) : (Instr.sliceBound (.int k (Int.ofNat n)) y code).run P w = .ok n w := by
  have h0 : (0 : Int) ≤ Int.ofNat n ∧ Int.ofNat n ≤ (y : Int) := ⟨Int.natCast_nonneg n, by show (n : Int) ≤ _; omega⟩
  have h2 : (Int.ofNat n).toNat = n := rfl
  simp only [Instr.sliceBound, asIntOf, Sem.run_bind, Sem.run_pure, Result.andThen_ok, h0, and_self, if_true, h2]
omit hT in
theorem sliceBounds_run {isSlice : Bool} {len cap l h : Nat} {x y : Option Value} {w : World} (hx : (x = none ∧ l = 0) ∨ ∃ k, x = some (.int k (Int.ofNat l))) (hy : (y = none ∧ h = len) ∨ ∃ k, y = some (.int k (Int.ofNat h)))
    (h1 : l ≤ h) (h2 : h ≤ cap) : (Instr.sliceBounds isSlice len cap x y none).run P w = .ok (l, h, cap) w := by
  rcases hx with ⟨rfl, rfl⟩ | ⟨k, rfl⟩ <;> rcases hy with ⟨rfl, rfl⟩ | ⟨k', rfl⟩
  all_goals simp only [Instr.sliceBounds, Sem.run_bind, Sem.run_pure, Result.andThen_ok, sliceBound_run h1, sliceBound_run h2]
omit hT in
theorem extract_toList (s : ByteArray) (l h : Nat) : (s.extract l h).data.toList = (s.data.toList.take h).drop l := by
  rw [ByteArray.data_extract, Array.toList_extract, List.extract_eq_take_drop, List.drop_take]

theorem sliceStr_ok {t : Nat} {a r : AV} {v : Value} {lo hi : Option AV} {x y : Option Value} (ht : (T t).kd = .str)
    (h : aSliceStr a lo hi = some r) (hr : a.rel μ v) (hx : optRel μ lo x) (hy : optRel μ hi y) : ∃ z, Yld P (Instr.sliceAt t v x y none) z ∧ r.rel μ z := by
  obtain ⟨d, h1, rfl⟩ := und_of hT ht rfl
  unfold aSliceStr at h
  split at h
  · rename_i s
    split at h
    · rename_i l hh hl hhi
      simp only [Str.brec] at h
      split at h
      · rename_i c2; rw [ble_iff] at c2
        split at h
        · rename_i c1; rw [ble_iff] at c1
          injection h with h; subst h
          simp only [AV.rel] at hr
          obtain ⟨b, rfl, rfl⟩ := hr
          have c2' : hh ≤ b.size := c2
          refine ⟨.string (b.extract l hh), fun w => ?_, ?_⟩
          · have := sliceBounds_run (P := P) (w := w) (isSlice := false) (len := b.size) (cap := b.size) (bnd_cases hl hx) (bnd_cases hhi hy) c1 c2'
            simp only [Instr.sliceAt, Sem.run_bind, run_underlying h1, Result.andThen_ok, Instr.slice, Option.isSome_none, Bool.false_eq_true, if_false, this, Sem.run_pure]
          · simp only [AV.rel]
            exact ⟨_, rfl, by rw [extract_toList, Str.sub_of _ _ _ c1 c2]⟩
        · cases h
      · cases h
    · cases h
  · cases h

theorem sliceSl_ok {t e : Nat} {a r : AV} {v : Value} {lo hi : Option AV} {x y : Option Value} (ht : (T t).kd = .slice e) (hk : (T e).kd.known = true)
    (h : aSliceSl (T e).size a lo hi none = some r) (hr : a.rel μ v) (hx : optRel μ lo x) (hy : optRel μ hi y) : ∃ z, Yld P (Instr.sliceAt t v x y none) z ∧ r.rel μ z := by
  obtain ⟨d, h1, rfl⟩ := und_of hT ht rfl
  unfold aSliceSl at h
  split at h
  · rename_i id off len cap es ex
    split at h
    · rename_i l hh hl hhi _
      simp only [Str.brec, seqN_eq] at h
      split at h
      · rename_i c2; rw [ble_iff] at c2
        split at h
        · rename_i c1; rw [ble_iff] at c1
          split at h
          rotate_left
          · cases h
          rename_i c4
          rw [Nat.beq_eq] at c4; subst c4
          simp only [AV.rel] at hr
          obtain ⟨b, dd, c, o, hm, rfl, ho, hc, hex, hle, hdo, hsz⟩ := hr
          have hmul : l * (T e).size + (c - l) * (T e).size = c * (T e).size := by rw [← Nat.add_mul]; congr 1; omega
          have hmul2 : (c - l) * (T e).size ≤ c * (T e).size := Nat.mul_le_mul_right _ (by omega)
          refine ⟨.slice (if c = l then some ⟨b, o, none⟩ else some ⟨b, o + l * (T e).size, none⟩) (hh - l) (c - l), fun w => ?_, ?_⟩
          · have := sliceBounds_run (P := P) (w := w) (isSlice := true) (len := len) (cap := c) (bnd_cases hl hx) (bnd_cases hhi hy) c1 (by omega)
            simp only [Instr.sliceAt, Sem.run_bind, run_underlying h1, Result.andThen_ok, Instr.slice, this, Sem.run_pure, size_run hT hk]
            simp only [Option.map_some, addr_add]
          · split at h
            · rename_i c3; rw [Nat.beq_eq] at c3
              injection h with h; subst h
              simp only [AV.rel]
              split
              · exact ⟨b, dd, _, _, hm, rfl, fun hp => absurd hp (by omega), by omega, fun he => by have := hex he; omega, by show hh - l ≤ 0; omega, hdo, by show o + (c - l) * (T e).size ≤ _; omega⟩
              · exact ⟨b, dd, _, _, hm, rfl, fun hp => absurd hp (by omega), by omega, fun he => by have := hex he; omega, by show hh - l ≤ 0; omega, by omega, by show o + l * (T e).size + (c - l) * (T e).size ≤ _; omega⟩
            · rename_i c3; rw [Nat.beq_eq] at c3
              injection h with h; subst h
              have : c ≠ l := by omega
              simp only [AV.rel, this, if_false]
              exact ⟨b, dd, _, _, hm, rfl, fun hp => by have := ho (by omega); subst this; show dd + off + _ = dd + (off + _); rw [Nat.add_assoc]; rfl, by show cap - l ≤ c - l; omega, fun he => by have := hex he; show c - l = cap - l; omega, by show hh - l ≤ cap - l; omega, by omega, by show o + l * (T e).size + (c - l) * (T e).size ≤ _; omega⟩
        · cases h
      · cases h
    · cases h
  · split at h
    · rename_i hl hhi _
      injection h with h; subst h
      simp only [AV.rel] at hr
      subst hr
      refine ⟨.slice none 0 0, fun w => ?_, by simp [AV.rel]⟩
      have := sliceBounds_run (P := P) (w := w) (isSlice := true) (len := 0) (cap := 0) (bnd_cases hl hx) (bnd_cases hhi hy) (Nat.le_refl _) (Nat.le_refl _)
      simp only [Instr.sliceAt, Sem.run_bind, run_underlying h1, Result.andThen_ok, Instr.slice, this, Sem.run_pure, size_run hT hk]
      simp
    · cases h
  · cases h
omit hT in
theorem sliceBounds3_run {isSlice : Bool} {len cap l h m : Nat} {x : Option Value} {k k' : IntKind} {w : World} (hx : (x = none ∧ l = 0) ∨ ∃ k, x = some (.int k (Int.ofNat l)))
    (h1 : l ≤ h) (h2 : h ≤ m) (h3 : m ≤ cap) : (Instr.sliceBounds isSlice len cap x (some (.int k (Int.ofNat h))) (some (.int k' (Int.ofNat m)))).run P w = .ok (l, h, m) w := by
  rcases hx with ⟨rfl, rfl⟩ | ⟨k, rfl⟩
  all_goals simp only [Instr.sliceBounds, Sem.run_bind, Sem.run_pure, Result.andThen_ok, sliceBound_run h1, sliceBound_run h2, sliceBound_run h3]
theorem slice3_ok {t e : Nat} {a r mx : AV} {v z0 : Value} {lo hi : Option AV} {x y : Option Value} (ht : (T t).kd = .slice e) (hk : (T e).kd.known = true)
    (h : aSlice3 (T e).size a lo hi mx = some r) (hr : a.rel μ v) (hx : optRel μ lo x) (hy : optRel μ hi y) (hz : mx.rel μ z0) : ∃ z, Yld P (Instr.sliceAt t v x y (some z0)) z ∧ r.rel μ z := by
  obtain ⟨d, h1, rfl⟩ := und_of hT ht rfl
  unfold aSlice3 at h
  split at h
  · rename_i id off len cap es ex
    split at h
    · rename_i l kh hh km m hl
      simp only [Str.brec, seqN_eq] at h
      split at h
      rotate_left
      · cases h
      rename_i c3; rw [ble_iff] at c3
      split at h
      rotate_left
      · cases h
      rename_i c2; rw [ble_iff] at c2
      split at h
      rotate_left
      · cases h
      rename_i c1; rw [ble_iff] at c1
      split at h
      rotate_left
      · cases h
      rename_i c4
      rw [Nat.beq_eq] at c4; subst c4
      simp only [AV.rel] at hr hz
      subst hz
      obtain ⟨b, dd, c, o, hm, rfl, ho, hc, hex, hle, hdo, hsz⟩ := hr
      have hy' : y = some (.int kh (Int.ofNat hh)) := by
        cases y with
        | none => simp [optRel] at hy
        | some y => simp only [optRel, AV.rel] at hy; rw [hy]
      subst hy'
      have hmul : l * (T e).size + (m - l) * (T e).size = m * (T e).size := by rw [← Nat.add_mul]; congr 1; omega
      have hmul2 : m * (T e).size ≤ c * (T e).size := Nat.mul_le_mul_right _ (by omega)
      refine ⟨.slice (if m = l then some ⟨b, o, none⟩ else some ⟨b, o + l * (T e).size, none⟩) (hh - l) (m - l), fun w => ?_, ?_⟩
      · have := sliceBounds3_run (P := P) (w := w) (isSlice := true) (len := len) (cap := c) (k := kh) (k' := km) (bnd_cases hl hx) c1 c2 (by omega : m ≤ c)
        simp only [Instr.sliceAt, Sem.run_bind, run_underlying h1, Result.andThen_ok, Instr.slice, this, Sem.run_pure, size_run hT hk]
        simp only [Option.map_some, addr_add]
      · split at h
        · rename_i c5; rw [Nat.beq_eq] at c5
          injection h with h; subst h
          simp only [AV.rel, c5, if_true]
          exact ⟨b, dd, _, _, hm, rfl, fun hp => absurd hp (by omega), by omega, fun _ => by omega, by show hh - l ≤ 0; omega, hdo, by show o + (l - l) * (T e).size ≤ _; rw [Nat.sub_self, Nat.zero_mul]; omega⟩
        · rename_i c5; rw [Nat.beq_eq] at c5
          injection h with h; subst h
          simp only [AV.rel, c5, if_false]
          exact ⟨b, dd, _, _, hm, rfl, fun hp => by have := ho (by omega); subst this; show dd + off + _ = dd + (off + _); rw [Nat.add_assoc]; rfl, Nat.le_refl _, fun _ => rfl, by show hh - l ≤ m - l; omega, by omega, by show o + l * (T e).size + (m - l) * (T e).size ≤ _; omega⟩
    · cases h
  · cases h
end
end Go.Am
