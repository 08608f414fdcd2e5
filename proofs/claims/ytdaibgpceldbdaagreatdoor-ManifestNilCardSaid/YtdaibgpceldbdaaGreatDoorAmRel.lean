/- The relation of abstract and concrete states; its laws. -/
import Derived.Test.YtdaibgpceldbdaaGreatDoorAmBase
import Derived.WalkKit
namespace Go.Am
open Go

/-- μ' knows all that μ knows -/
def Le (μ μ' : Mu) : Prop := ∀ id p, μ id = some p → μ' id = some p ∧ μ'.sz id = μ.sz id
theorem Le.refl (μ : Mu) : Le μ μ := fun _ _ h => ⟨h, rfl⟩

mutual
theorem AV.rel_mono {μ μ' : Mu} (hm : Le μ μ') : ∀ (a : AV) (v : Value), a.rel μ v → a.rel μ' v
  | .junk, _, _ => by simp [AV.rel]
  | .bool _, _, h => by simpa [AV.rel] using h
  | .int _ _, _, h => by simpa [AV.rel] using h
  | .str _, _, h => by simpa [AV.rel] using h
  | .nilp, _, h => by simpa [AV.rel] using h
  | .ptr id off, v, h => by
    simp only [AV.rel] at h ⊢
    obtain ⟨b, d, h1, h2⟩ := h; exact ⟨b, d, (hm _ _ h1).1, h2⟩
  | .nils, _, h => by simpa [AV.rel] using h
  | .slice id off len cap es ex, v, h => by
    simp only [AV.rel] at h ⊢
    obtain ⟨b, d, c, o, h1, h2⟩ := h; exact ⟨b, d, c, o, (hm _ _ h1).1, by rw [(hm _ _ h1).2]; exact h2⟩
  | .nilm, _, h => by simpa [AV.rel] using h
  | .map id, v, h => by
    simp only [AV.rel] at h ⊢
    obtain ⟨b, h1, h2⟩ := h; exact ⟨b, (hm _ _ h1).1, h2⟩
  | .func fn f c, v, h => by
    simp only [AV.rel] at h ⊢
    obtain ⟨f', c', h1, h2, h3⟩ := h; exact ⟨f', c', h1, AV.relL_mono hm f _ h2, AV.relL_mono hm c _ h3⟩
  | .nilf, _, h => by simpa [AV.rel] using h
  | .iface t x, v, h => by
    simp only [AV.rel] at h ⊢
    obtain ⟨y, h1, h2⟩ := h; exact ⟨y, h1, AV.rel_mono hm x _ h2⟩
  | .nili, _, h => by simpa [AV.rel] using h
  | .agg cs, v, h => by
    simp only [AV.rel] at h ⊢
    obtain ⟨vs, h1, h2⟩ := h; exact ⟨vs, h1, AV.relL_mono hm cs _ h2⟩
  | .tuple cs, v, h => by
    simp only [AV.rel] at h ⊢
    obtain ⟨vs, h1, h2⟩ := h; exact ⟨vs, h1, AV.relL_mono hm cs _ h2⟩
  | .yield id, v, h => by
    simp only [AV.rel] at h ⊢
    obtain ⟨b, h1, h2⟩ := h; exact ⟨b, (hm _ _ h1).1, h2⟩
theorem AV.relL_mono {μ μ' : Mu} (hm : Le μ μ') : ∀ (l : List AV) (vs : List Value), AV.relL μ l vs → AV.relL μ' l vs
  | [], _, h => by simpa [AV.relL] using h
  | a :: as, vs, h => by
    simp only [AV.relL] at h ⊢
    obtain ⟨v, vs', h1, h2, h3⟩ := h; exact ⟨v, vs', h1, AV.rel_mono hm a _ h2, AV.relL_mono hm as _ h3⟩
end

theorem AV.relL_nil {μ : Mu} {vs : List Value} : AV.relL μ [] vs ↔ vs = [] := by simp [AV.relL]
theorem AV.relL_cons {μ : Mu} {a : AV} {as : List AV} {vs : List Value} : AV.relL μ (a :: as) vs ↔ ∃ v vs', vs = v :: vs' ∧ a.rel μ v ∧ AV.relL μ as vs' := by simp [AV.relL]
theorem AV.relL_cons_cons {μ : Mu} {a : AV} {as : List AV} {v : Value} {vs : List Value} : AV.relL μ (a :: as) (v :: vs) ↔ a.rel μ v ∧ AV.relL μ as vs := by
  rw [AV.relL_cons]; constructor
  · rintro ⟨v', vs', h, h1, h2⟩; injection h with e1 e2; subst e1 e2; exact ⟨h1, h2⟩
  · rintro ⟨h1, h2⟩; exact ⟨v, vs, rfl, h1, h2⟩
theorem AV.relL_length {μ : Mu} : ∀ {l : List AV} {vs : List Value}, AV.relL μ l vs → vs.length = l.length
  | [], vs, h => by rw [AV.relL_nil] at h; simp [h]
  | a :: as, vs, h => by
    obtain ⟨v, vs', rfl, _, h2⟩ := AV.relL_cons.1 h
    simp [AV.relL_length h2]
theorem AV.relL_get {μ : Mu} : ∀ {l : List AV} {vs : List Value}, AV.relL μ l vs → ∀ (i : Nat) (a : AV), l[i]? = some a → ∃ v, vs[i]? = some v ∧ a.rel μ v
  | [], vs, h, i, a, ha => by simp at ha
  | b :: as, vs, h, i, a, ha => by
    obtain ⟨v, vs', rfl, h1, h2⟩ := AV.relL_cons.1 h
    cases i with
    | zero => simp at ha; subst ha; exact ⟨v, rfl, h1⟩
    | succ i => simp at ha; obtain ⟨x, hx, hr⟩ := AV.relL_get h2 i a ha; exact ⟨x, by simpa using hx, hr⟩
theorem AV.relL_of_get {μ : Mu} : ∀ {l : List AV} {vs : List Value}, vs.length = l.length → (∀ (i : Nat) (a : AV), l[i]? = some a → ∃ v, vs[i]? = some v ∧ a.rel μ v) → AV.relL μ l vs
  | [], vs, hl, h => by rw [AV.relL_nil]; simpa using hl
  | b :: as, [], hl, h => by simp at hl
  | b :: as, v :: vs, hl, h => by
    rw [AV.relL_cons_cons]
    refine ⟨?_, AV.relL_of_get (by simpa using hl) fun i a ha => ?_⟩
    · obtain ⟨x, hx, hr⟩ := h 0 b rfl; simp at hx; subst hx; exact hr
    · obtain ⟨x, hx, hr⟩ := h (i + 1) a (by simpa using ha); exact ⟨x, by simpa using hx, hr⟩
theorem AV.relL_append {μ : Mu} : ∀ {l l' : List AV} {vs vs' : List Value}, AV.relL μ l vs → AV.relL μ l' vs' → AV.relL μ (l ++ l') (vs ++ vs')
  | [], l', vs, vs', h, h' => by rw [AV.relL_nil] at h; subst h; exact h'
  | a :: as, l', vs, vs', h, h' => by
    obtain ⟨v, t, rfl, h1, h2⟩ := AV.relL_cons.1 h
    rw [List.cons_append, List.cons_append, AV.relL_cons_cons]
    exact ⟨h1, AV.relL_append h2 h'⟩

/-! ## a block's content -/
/-- of a row of cells from place 'd' on, none that is there may not be written -/
def Loose (d n : Nat) (fr : Nat × Nat) : Prop := ∀ o, d ≤ o → o < n → ¬ (fr.1 ≤ o ∧ o < fr.2)

/-- a list of slots stands to an array of slots; a slot that is not told may hold anything -/
structure EnvRel (μ : Mu) (env : List AV) (tmps : Array Value) : Prop where
  get : ∀ t, (env.getD t .junk).rel μ (tmps.getD t undef)
  len : env.length ≤ tmps.size
def EsRel (μ : Mu) : List (AV × AV × Nat) → List MapEntry → Prop
  | [], l => l = []
  | (k, v, n) :: es, l => ∃ e l', l = e :: l' ∧ k.rel μ e.key ∧ v.rel μ e.val ∧ e.born = n ∧ EsRel μ es l'
theorem EsRel.mono {μ μ' : Mu} (hm : Le μ μ') : ∀ {es : List (AV × AV × Nat)} {l : List MapEntry}, EsRel μ es l → EsRel μ' es l
  | [], _, h => h
  | (k, v, n) :: es, l, h => by
    obtain ⟨e, l', h1, h2, h3, h4, h5⟩ := h
    exact ⟨e, l', h1, AV.rel_mono hm _ _ h2, AV.rel_mono hm _ _ h3, h4, h5.mono hm⟩
theorem EnvRel.mono {μ μ' : Mu} {env : List AV} {t : Array Value} (h : EnvRel μ env t) (hm : Le μ μ') : EnvRel μ' env t := ⟨fun i => AV.rel_mono hm _ _ (h.get i), h.len⟩
def midRel (μ : Mu) : Option Nat → Option Nat → Prop
  | none, b => b = none
  | some id, b => ∃ c, μ id = some (c, 0) ∧ b = some c
theorem midRel.mono {μ μ' : Mu} (hm : Le μ μ') {m b : Option Nat} (h : midRel μ m b) : midRel μ' m b := by
  cases m with
  | none => exact h
  | some id => obtain ⟨c, h1, h2⟩ := h; exact ⟨c, (hm _ _ h1).1, h2⟩

/-- entries in an order of our own, and as they may stand -/
structure Shown (es : List (AV × AV)) (es' : List (AV × AV × Nat)) (clock : Nat) : Prop where
  perm : (es'.map fun e => (e.1, e.2.1)).Perm es
  keys : (es.map (·.1)).Nodup
  stamps : (es'.map (·.2.2)).Nodup
  low : ∀ e ∈ es', e.2.2 < clock

def BlkRel (μ : Mu) (w : World) (b d : Nat) : Blk → Prop
  | .dead => True
  | .cells mv t cs => ∃ ccs fr, w.heap[b]? = some (.cells ccs t fr) ∧ (∀ (i : Nat) (a : AV), cs[i]? = some a → ∃ v, ccs[d + i]? = some v ∧ a.rel μ v) ∧ Loose d ccs.size fr ∧ (mv = false → d = 0)
  | .bytes t fz sg s => ∃ ccs fr l, w.heap[b]? = some (.cells ccs t fr) ∧ s = Str.of l ∧ (∀ i x, l[i]? = some x → ccs[d + i]? = some (.int .u8 x.toNat)) ∧ Loose (d + fz) ccs.size fr ∧
      (sg = false → fr.1 = fr.2 ∨ (0 < fz ∧ fr.2 ≤ d + fz))
  | .amap es clock => d = 0 ∧ ∃ ces, w.heap[b]? = some (.map ces clock) ∧ EsRel μ es ces.toList
  | .smap es => d = 0 ∧ ∃ es' clock ces, w.heap[b]? = some (.map ces clock) ∧ EsRel μ es' ces.toList ∧ Shown es es' clock
  | .miter mid since seen last => d = 0 ∧ ∃ cm, w.heap[b]? = some (.mapIter cm since seen.toArray last) ∧ midRel μ mid cm
  | .loop st pend ps assign body env => d = 0 ∧ ∃ r, w.heap[b]? = some (.loop r) ∧ r.state = st ∧ r.pending = pend ∧ r.params = ps.toArray ∧ r.assign = assign ∧ r.body = body ∧ EnvRel μ env r.tmps
  | .defd fresh => d = 0 ∧ w.heap[b]? = some (.deferred (if fresh then some [] else none))

theorem BlkRel.mono {μ μ' : Mu} (hm : Le μ μ') {w w' : World} {b d : Nat} {k : Blk} (h : BlkRel μ w b d k) (hw : k.live = true → w'.heap[b]? = w.heap[b]?) : BlkRel μ' w' b d k := by
  cases k with
  | dead => trivial
  | cells mv t cs =>
    obtain ⟨ccs, fr, h1, h2, h3⟩ := h
    exact ⟨ccs, fr, by rw [hw rfl]; exact h1, fun i a ha => let ⟨v, hv, hr⟩ := h2 i a ha; ⟨v, hv, AV.rel_mono hm a v hr⟩, h3⟩
  | bytes t fz sg s =>
    obtain ⟨ccs, fr, l, h1, h2⟩ := h
    exact ⟨ccs, fr, l, by rw [hw rfl]; exact h1, h2⟩
  | amap es clock =>
    obtain ⟨h0, ces, h1, h2⟩ := h
    exact ⟨h0, ces, by rw [hw rfl]; exact h1, h2.mono hm⟩
  | smap es =>
    obtain ⟨h0, es', clock, ces, h1, h2, h3⟩ := h
    exact ⟨h0, es', clock, ces, by rw [hw rfl]; exact h1, h2.mono hm, h3⟩
  | miter mid since seen last =>
    obtain ⟨h0, cm, h1, h2⟩ := h
    exact ⟨h0, cm, by rw [hw rfl]; exact h1, h2.mono hm⟩
  | loop st pend ps assign body env =>
    obtain ⟨h0, r, h1, h2, h3, h4, h5, h6, h7⟩ := h
    exact ⟨h0, r, by rw [hw rfl]; exact h1, h2, h3, h4, h5, h6, h7.mono hm⟩
  | defd fresh => exact ⟨h.1, by rw [hw rfl]; exact h.2⟩

structure Rel (μ : Mu) (h : H) (w : World) : Prop where
  wf : h.Wf
  dom : ∀ id b d, μ id = some (b, d) → id < h.next ∧ b < w.heap.size
  inj : ∀ i j b d e, μ i = some (b, d) → μ j = some (b, e) → (h.get i).live = true → (h.get j).live = true → i = j
  blk : ∀ id b d, μ id = some (b, d) → BlkRel μ w b d (h.get id)
  cnt : ∀ id b d ccs t fr, μ id = some (b, d) → w.heap[b]? = some (.cells ccs t fr) → ccs.size = μ.sz id

/-- what a step may have turned in the concrete world: only blocks that a live, unprotected abstract block stands for -/
structure Frame (μ : Mu) (h : H) (w w' : World) : Prop where
  os : w'.os = w.os
  tape : w'.tape = w.tape
  output : w'.output = w.output
  size : w.heap.size ≤ w'.heap.size
  block : ∀ b, b < w.heap.size → (∀ id d, h.base ≤ id → μ id = some (b, d) → (h.get id).live = false) → w'.heap[b]? = w.heap[b]?

/-- the number of blocks only grows; what is not mapped stays -/
structure Grows (μ : Mu) (h h' : H) : Prop where
  next : h.next ≤ h'.next
  base : h'.base = h.base
  keep : ∀ id, id < h.next → μ id = none → h'.get id = h.get id
  low : ∀ id, id < h.base → h'.get id = h.get id
  dead : ∀ id, id < h.next → (h'.get id).live = true → (h.get id).live = true

def Ext (μ μ' : Mu) (n : Nat) : Prop := ∀ id, id < n → μ' id = μ id ∧ μ'.sz id = μ.sz id

structure Post (μ : Mu) (h : H) (w : World) (μ' : Mu) (h' : H) (w' : World) : Prop where
  ext : Ext μ μ' h.next
  rel : Rel μ' h' w'
  frame : Frame μ h w w'
  grows : Grows μ h h'
  fresh : ∀ id b d, h.next ≤ id → μ' id = some (b, d) → b < w.heap.size → (h'.get id).live = true → ∃ id0 d0, h.base ≤ id0 ∧ μ id0 = some (b, d0) ∧ (h.get id0).live = true

theorem Rel.ext_le {μ μ' : Mu} {h : H} {w : World} (hr : Rel μ h w) (he : Ext μ μ' h.next) : Le μ μ' := by
  intro id p hp
  have := he id (hr.dom id p.1 p.2 hp).1
  exact ⟨by rw [this.1]; exact hp, this.2⟩
theorem Post.mono {μ μ' : Mu} {h h' : H} {w w' : World} (hr : Rel μ h w) (hp : Post μ h w μ' h' w') {a : AV} {v : Value} (ha : a.rel μ v) : a.rel μ' v :=
  AV.rel_mono (hr.ext_le hp.ext) a v ha
theorem Frame.refl (μ : Mu) (h : H) (w : World) : Frame μ h w w := ⟨rfl, rfl, rfl, Nat.le_refl _, fun _ _ _ => rfl⟩
theorem Grows.refl (μ : Mu) (h : H) : Grows μ h h := ⟨Nat.le_refl _, rfl, fun _ _ _ => rfl, fun _ _ => rfl, fun _ _ h => h⟩
theorem Post.refl {μ : Mu} {h : H} {w : World} (hr : Rel μ h w) : Post μ h w μ h w := ⟨fun _ _ => ⟨rfl, rfl⟩, hr, Frame.refl _ _ _, Grows.refl _ _, fun id b d hi hm => absurd (hr.dom id b d hm).1 (by omega)⟩
theorem Post.trans {μ μ' μ'' : Mu} {h h' h'' : H} {w w' w'' : World} (p : Post μ h w μ' h' w') (q : Post μ' h' w' μ'' h'' w'') : Post μ h w μ'' h'' w'' := by
  refine ⟨fun id hi => ?_, q.rel, ?_, ?_, ?_⟩
  · have h1 := q.ext id (Nat.lt_of_lt_of_le hi p.grows.next); have h2 := p.ext id hi
    exact ⟨h1.1.trans h2.1, h1.2.trans h2.2⟩
  · refine ⟨q.frame.os.trans p.frame.os, q.frame.tape.trans p.frame.tape, q.frame.output.trans p.frame.output, Nat.le_trans p.frame.size q.frame.size, fun b hb hn => ?_⟩
    rw [q.frame.block b (Nat.lt_of_lt_of_le hb p.frame.size) ?_, p.frame.block b hb hn]
    intro id d hbase hm
    rw [p.grows.base] at hbase
    cases hl : (h'.get id).live with
    | false => rfl
    | true =>
      rcases Nat.lt_or_ge id h.next with hi | hi
      · rw [(p.ext id hi).1] at hm
        have := hn id d hbase hm
        rw [p.grows.dead id hi hl] at this; cases this
      · obtain ⟨id0, d0, h1, h2, h3⟩ := p.fresh id b d hi hm hb hl
        rw [hn id0 d0 h1 h2] at h3; cases h3
  · refine ⟨Nat.le_trans p.grows.next q.grows.next, q.grows.base.trans p.grows.base, fun id hi hm => ?_, fun id hi => ?_, fun id hi hl => ?_⟩
    · rw [q.grows.keep id (Nat.lt_of_lt_of_le hi p.grows.next) (by rw [(p.ext id hi).1]; exact hm), p.grows.keep id hi hm]
    · rw [q.grows.low id (by rw [p.grows.base]; exact hi), p.grows.low id hi]
    · exact p.grows.dead id hi (q.grows.dead id (Nat.lt_of_lt_of_le hi p.grows.next) hl)
  · intro id b d hi hm hb hl
    have key : ∀ id1 d1, h'.base ≤ id1 → μ' id1 = some (b, d1) → (h'.get id1).live = true → ∃ id0 d0, h.base ≤ id0 ∧ μ id0 = some (b, d0) ∧ (h.get id0).live = true := by
      intro id1 d1 hb1 hm1 hl1
      rcases Nat.lt_or_ge id1 h.next with hi1 | hi1
      · rw [(p.ext id1 hi1).1] at hm1
        exact ⟨id1, d1, by rw [← p.grows.base]; exact hb1, hm1, p.grows.dead id1 hi1 hl1⟩
      · exact p.fresh id1 b d1 hi1 hm1 hb hl1
    rcases Nat.lt_or_ge id h'.next with hi' | hi'
    · rw [(q.ext id hi').1] at hm
      exact p.fresh id b d hi hm hb (q.grows.dead id hi' hl)
    · obtain ⟨id1, d1, h1, h2, h3⟩ := q.fresh id b d hi' hm (Nat.lt_of_lt_of_le hb p.frame.size) hl
      exact key id1 d1 h1 h2 h3
/-- what was related stays so -/
theorem Post.keepL {μ μ' : Mu} {h h' : H} {w w' : World} (hr : Rel μ h w) (hp : Post μ h w μ' h' w') {l : List AV} {vs : List Value} (ha : AV.relL μ l vs) : AV.relL μ' l vs :=
  AV.relL_mono (hr.ext_le hp.ext) l vs ha

/-! ## a value that names no new block -/
mutual
def AV.under (n : Nat) : AV → Prop
  | .ptr id _ => id < n
  | .slice id _ _ _ _ _ => id < n
  | .map id => id < n
  | .yield id => id < n
  | .func _ f c => AV.underL n f ∧ AV.underL n c
  | .iface _ v => AV.under n v
  | .agg cs => AV.underL n cs
  | .tuple cs => AV.underL n cs
  | _ => True
def AV.underL (n : Nat) : List AV → Prop
  | [] => True
  | a :: as => AV.under n a ∧ AV.underL n as
end
mutual
theorem AV.rel_down {μ μ' : Mu} {n : Nat} (hm : Ext μ μ' n) : ∀ (a : AV) (v : Value), a.under n → a.rel μ' v → a.rel μ v
  | .junk, _, _, _ => by simp [AV.rel]
  | .bool _, _, _, h => by simpa [AV.rel] using h
  | .int _ _, _, _, h => by simpa [AV.rel] using h
  | .str _, _, _, h => by simpa [AV.rel] using h
  | .nilp, _, _, h => by simpa [AV.rel] using h
  | .ptr id off, v, hb, h => by
    simp only [AV.rel, AV.under] at h hb ⊢
    rw [(hm id hb).1] at h; exact h
  | .nils, _, _, h => by simpa [AV.rel] using h
  | .slice id off len cap es ex, v, hb, h => by
    simp only [AV.rel, AV.under] at h hb ⊢
    rw [(hm id hb).1, (hm id hb).2] at h; exact h
  | .nilm, _, _, h => by simpa [AV.rel] using h
  | .map id, v, hb, h => by
    simp only [AV.rel, AV.under] at h hb ⊢
    rw [(hm id hb).1] at h; exact h
  | .func fn f c, v, hb, h => by
    simp only [AV.rel, AV.under] at h hb ⊢
    obtain ⟨f', c', h1, h2, h3⟩ := h; exact ⟨f', c', h1, AV.relL_down hm f _ hb.1 h2, AV.relL_down hm c _ hb.2 h3⟩
  | .nilf, _, _, h => by simpa [AV.rel] using h
  | .iface t x, v, hb, h => by
    simp only [AV.rel, AV.under] at h hb ⊢
    obtain ⟨y, h1, h2⟩ := h; exact ⟨y, h1, AV.rel_down hm x _ hb h2⟩
  | .nili, _, _, h => by simpa [AV.rel] using h
  | .agg cs, v, hb, h => by
    simp only [AV.rel, AV.under] at h hb ⊢
    obtain ⟨vs, h1, h2⟩ := h; exact ⟨vs, h1, AV.relL_down hm cs _ hb h2⟩
  | .tuple cs, v, hb, h => by
    simp only [AV.rel, AV.under] at h hb ⊢
    obtain ⟨vs, h1, h2⟩ := h; exact ⟨vs, h1, AV.relL_down hm cs _ hb h2⟩
  | .yield id, v, hb, h => by
    simp only [AV.rel, AV.under] at h hb ⊢
    rw [(hm id hb).1] at h; exact h
theorem AV.relL_down {μ μ' : Mu} {n : Nat} (hm : Ext μ μ' n) : ∀ (l : List AV) (vs : List Value), AV.underL n l → AV.relL μ' l vs → AV.relL μ l vs
  | [], _, _, h => by simpa [AV.relL] using h
  | a :: as, vs, hb, h => by
    simp only [AV.relL, AV.underL] at h hb ⊢
    obtain ⟨v, vs', h1, h2, h3⟩ := h; exact ⟨v, vs', h1, AV.rel_down hm a _ hb.1 h2, AV.relL_down hm as _ hb.2 h3⟩
end
end Go.Am
