/- append: sound. -/
import Derived.Test.YtdaibgpceldbdaaGreatDoorAmOpW
namespace Go.Am
open Go

/-- an abstract block is given up; a new one begins at place 'o' of the same concrete block, which was written -/
theorem move_post {μ : Mu} {h h1 h2 : H} {w w' : World} {id n b d o : Nat} {k : Blk} (hr : Rel μ h w) (hp : h.put id .dead = some h1) (hq : h1.push k = some (n, h2)) (hm : μ id = some (b, d)) (hl : (h.get id).live = true)
    (hs : Same w w' b) (hc : ∀ ccs t fr, w'.heap[b]? = some (.cells ccs t fr) → ∃ ccs' t' fr', w.heap[b]? = some (.cells ccs' t' fr') ∧ ccs'.size = ccs.size) (hk : BlkRel (upd μ h.next (b, o) (μ.sz id)) w' b o k) : n = h.next ∧ Post μ h w (upd μ h.next (b, o) (μ.sz id)) h2 w' := by
  obtain ⟨hi, hb, e1, e2, wf1, hg1⟩ := H.put_some hp hr.wf
  obtain ⟨rfl, e3, e4, wf2, hg2⟩ := H.push_some hq wf1
  rw [e1] at hg2 e3
  have hbs := (hr.dom id b d hm).2
  have hg : ∀ i, h2.get i = if i = h.next then k else if i = id then .dead else h.get i := fun i => by rw [hg2, hg1]
  have hmono : Le μ (upd μ h.next (b, o) (μ.sz id)) := upd_le _ _ fun p hmi => by
    have := (hr.dom _ p.1 p.2 hmi).1; omega
  have hold : ∀ i c e, i ≠ h.next → upd μ h.next (b, o) (μ.sz id) i = some (c, e) → (h2.get i).live = true → μ i = some (c, e) ∧ i ≠ id ∧ (h.get i).live = true := by
    intro i c e hne hmi hli
    rw [upd_ne _ _ _ hne] at hmi
    rw [hg, if_neg hne] at hli
    by_cases ei : i = id
    · rw [if_pos ei] at hli; cases hli
    · rw [if_neg ei] at hli; exact ⟨hmi, ei, hli⟩
  refine ⟨e1, fun i hi' => ⟨upd_ne _ _ _ (by omega), upd_sz_ne _ _ _ (by omega)⟩, ⟨wf2, ?_, ?_, ?_, ?_⟩, ⟨hs.os, hs.tape, hs.output, Nat.le_of_eq hs.size.symm, fun c _ hn => hs.other c ?_⟩, ⟨by omega, by omega, fun i hi' hmi => ?_, fun i hi' => ?_, fun i hi' hli => ?_⟩, ?_⟩
  · intro i c e hmi
    by_cases ei : i = h.next
    · subst ei; rw [upd_self] at hmi; injection hmi with hmi; injection hmi with ec ee; subst ec ee
      exact ⟨by omega, by rw [hs.size]; exact hbs⟩
    · rw [upd_ne _ _ _ ei] at hmi
      have := hr.dom i c e hmi; exact ⟨by omega, by rw [hs.size]; exact this.2⟩
  · intro i j c e e' hmi hmj hli hlj
    by_cases ei : i = h.next <;> by_cases ej : j = h.next
    · rw [ei, ej]
    · subst ei; rw [upd_self] at hmi; injection hmi with hmi; injection hmi with ec _; subst ec
      obtain ⟨h1', h2', h3'⟩ := hold j _ _ ej hmj hlj
      exact absurd (hr.inj j id _ _ _ h1' hm h3' hl) h2'
    · subst ej; rw [upd_self] at hmj; injection hmj with hmj; injection hmj with ec _; subst ec
      obtain ⟨h1', h2', h3'⟩ := hold i _ _ ei hmi hli
      exact absurd (hr.inj i id _ _ _ h1' hm h3' hl) h2'
    · obtain ⟨h1', _, h3'⟩ := hold i _ _ ei hmi hli
      obtain ⟨h4', _, h6'⟩ := hold j _ _ ej hmj hlj
      exact hr.inj i j _ _ _ h1' h4' h3' h6'
  · intro i c e hmi
    rw [hg]
    by_cases ei : i = h.next
    · subst ei; rw [upd_self] at hmi; injection hmi with hmi; injection hmi with ec ee; subst ec ee
      rw [if_pos rfl]; exact hk
    · rw [if_neg ei]
      by_cases ei' : i = id
      · rw [if_pos ei']; trivial
      · rw [if_neg ei']
        rw [upd_ne _ _ _ ei] at hmi
        cases hli : (h.get i).live with
        | false =>
          have : h.get i = .dead := by revert hli; cases h.get i <;> simp [Blk.live]
          rw [this]; trivial
        | true =>
          exact (hr.blk i c e hmi).mono hmono fun _ => hs.other c (fun ec => by
            subst ec; exact ei' (hr.inj i id _ _ _ hmi hm hli hl))
  · have cntb : ∀ ccs t fr, w'.heap[b]? = some (.cells ccs t fr) → ∀ i e, μ i = some (b, e) → ccs.size = μ.sz i := by
      intro ccs t fr hw i e hmi
      obtain ⟨ccs', t', fr', q1, q2⟩ := hc ccs t fr hw
      rw [← q2]; exact hr.cnt i b e _ _ _ hmi q1
    intro i c e ccs t fr hmi hw
    by_cases ei : i = h.next
    · subst ei; rw [upd_self] at hmi; injection hmi with hmi; injection hmi with ec ee; subst ec ee
      rw [upd_sz]; exact cntb ccs t fr hw id d hm
    · rw [upd_ne _ _ _ ei] at hmi; rw [upd_sz_ne _ _ _ ei]
      by_cases ec : c = b
      · subst ec; exact cntb ccs t fr hw i e hmi
      · exact hr.cnt i c e ccs t fr hmi (by rw [← hs.other c ec]; exact hw)
  · intro ec; subst ec
    have := hn id d hb hm; rw [hl] at this; cases this
  · rw [hg, if_neg (by omega), if_neg]; intro e; subst e; rw [hm] at hmi; cases hmi
  · have := hr.wf.low
    rw [hg, if_neg (by omega), if_neg (by omega)]
  · by_cases ei : i = id
    · subst ei; exact hl
    · rwa [hg, if_neg (by omega), if_neg ei] at hli
  · intro i c e hi' hmi hc hli
    by_cases ei : i = h.next
    · subst ei; rw [upd_self] at hmi; injection hmi with hmi; injection hmi with ec ee; subst ec ee
      exact ⟨id, d, hb, hm, hl⟩
    · rw [upd_ne _ _ _ ei] at hmi; exact absurd (hr.dom i c e hmi).1 (by omega)

section
variable {P : Program}
/-- what the second argument of an append gives -/
structure Src (P : Program) (size : Nat) (w : World) (x : Value) (n : Nat) (news : Array Value) : Prop where
  len : ∀ w', (Builtin.lenOf x).run P w' = .ok n w'
  cells : ∀ w', w'.heap = w.heap → (Builtin.firstCells size n x).run P w' = .ok news w'
  size : news.size = n * size

/-- append in a new block -/
theorem append_new_run {w : World} {t t2 ty e : TypeId} {i : TypeInfo} {z : Value} {s x : Value} {base : Option Addr} {sLen sCap n : Nat} {olds news : Array Value} {d2 : TypeDesc}
    (ht : P.underlying t = some (.slice e)) (ht2 : P.underlying t2 = some d2) (hd2 : ∀ k, d2 ≠ .int k) (hi : P.info? e = some i) (hz : i.zero = some z) (hs : s = .slice base sLen sCap)
    (ho : ∀ w', w'.heap = w.heap → (Builtin.firstCells i.size sLen s).run P w' = .ok olds w') (hx : Src P i.size w x n news) (hg : sCap < sLen + n) (hb : (sLen + n) * i.bytes ≤ 140737488355328) (h63 : ((sLen + n : Nat) : Int) ≤ 9223372036854775807) :
    ∃ cap, sLen + n ≤ cap ∧ (Builtin.append_ #[t, t2] ty #[s, x]).run P w = .ok (.slice (some ⟨w.heap.size, 0, none⟩) (sLen + n) cap)
      (w.drew.alloc (.cells (olds ++ news ++ Builtin.zeroCells z.cells (cap - (sLen + n))) e)) := by
  subst hs
  refine ⟨grownCap w (sLen + n) sCap e, grownCap_ge _ _ _ _, ?_⟩
  have hn : ¬ (sLen + n ≤ sCap) := by omega
  have hfit := growslice_fits hg hb
  have h63' : ¬ (9223372036854775807 < ((sLen : Int) + (n : Int))) := by omega
  have h48' : ¬ (281474976710656 < Builtin.nextslicecap (sLen + n) sCap * i.bytes) := by omega
  have hf := hx.cells w.drew rfl
  have hfo := ho w.drew rfl
  simp [Builtin.append_, run_underlying ht, run_underlying ht2, sizeOf, typeInfo, zeroValue, hi, hz, hx.len, hn, h63', h48', Question.forced, hf, hfo, newRow, grownCap]
/-- append where there is room -/
theorem append_room_run {w w' : World} {t t2 ty e : TypeId} {i : TypeInfo} {x : Value} {b o sLen sCap n : Nat} {news : Array Value} {d2 : TypeDesc}
    (ht : P.underlying t = some (.slice e)) (ht2 : P.underlying t2 = some d2) (hd2 : ∀ k, d2 ≠ .int k) (hi : P.info? e = some i)
    (hx : Src P i.size w x n news) (hg : sLen + n ≤ sCap) (hst : (storeCells ⟨b, o + sLen * i.size, none⟩ news.toList).run P w = .ok () w') :
    (Builtin.append_ #[t, t2] ty #[.slice (some ⟨b, o, none⟩) sLen sCap, x]).run P w = .ok (.slice (some ⟨b, o, none⟩) (sLen + n) sCap) w' := by
  have hf := hx.cells w rfl
  simp [Builtin.append_, run_underlying ht, run_underlying ht2, sizeOf, typeInfo, hi, hx.len, hg, hf, addr_add, hst]
theorem append_nil_run {w : World} {t t2 ty e : TypeId} {i : TypeInfo} {x : Value} {news : Array Value} {d2 : TypeDesc}
    (ht : P.underlying t = some (.slice e)) (ht2 : P.underlying t2 = some d2) (hd2 : ∀ k, d2 ≠ .int k) (hi : P.info? e = some i)
    (hx : Src P i.size w x 0 news) : (Builtin.append_ #[t, t2] ty #[.slice none 0 0, x]).run P w = .ok (.slice none 0 0) w := by
  have hf := hx.cells w rfl
  simp [Builtin.append_, run_underlying ht, run_underlying ht2, sizeOf, typeInfo, hi, hx.len, hf]

variable {T : Ty} (hT : TyOk P T) {μ : Mu}

theorem lenOf_slice {w : World} {a : Option Addr} {n c : Nat} : (Builtin.lenOf (.slice a n c)).run P w = .ok n w := rfl
theorem first_cells {w w' : World} {b o len size c : Nat} {t : TypeId} {fr : Nat × Nat} {ccs : Array Value} {vs : List Value} (hw : w'.heap = w.heap) (h : w.heap[b]? = some (.cells ccs t fr)) (hl : vs.length = len * size)
    (hv : ∀ j v, vs[j]? = some v → ccs[o + j]? = some v) : (Builtin.firstCells size len (.slice (some ⟨b, o, none⟩) len c)).run P w' = .ok vs.toArray w' := by
  have := run_loadCells_list (P := P) w' ⟨b, o, none⟩ vs (fun j v hj => by
    rw [addr_add]; exact cell_at (by rw [hw]; exact h) (hv j v hj))
  rw [hl] at this
  exact this
theorem first_none {w' : World} {len size c : Nat} {a : Option Addr} (h0 : len = 0) : (Builtin.firstCells size len (.slice a len c)).run P w' = .ok #[] w' := by
  subst h0
  cases a with
  | none => rfl
  | some a => simp only [Builtin.firstCells, Nat.zero_mul]; rfl

theorem srcB_ok {x : AV} {v : Value} {h : H} {w : World} {s : Str} (hr : Rel μ h w) (e : aSrcB x h = some s) (hx : x.rel μ v) : ∃ l : List UInt8, s = Str.of l ∧ Src P 1 w v l.length (l.map fun u => Value.int .u8 u.toNat).toArray := by
  unfold aSrcB at e
  split at e
  · injection e with e; subst e
    simp only [AV.rel] at hx
    obtain ⟨b, rfl, rfl⟩ := hx
    refine ⟨b.data.toList, rfl, fun w' => rfl, fun w' _ => ?_, by simp⟩
    simp only [Builtin.firstCells, Sem.run_pure]
    congr 1
    apply Array.ext'
    simp
  · injection e with e; subst e
    simp only [AV.rel] at hx; subst hx
    exact ⟨[], rfl, fun w' => rfl, fun w' _ => rfl, by simp⟩
  · rename_i id off len cap es ex
    split at e
    · rename_i t fz sg s' hc
      rw [Str.brec] at e
      split at e
      · rename_i c1; rw [ble_iff] at c1
        injection e with e; subst e
        simp only [AV.rel] at hx
        obtain ⟨b, d, c, o, hm, rfl, ho, _, _, hle, _, _⟩ := hx
        have hb := hr.blk id b d hm
        rw [hc] at hb
        obtain ⟨ccs, fr, l, h1, rfl, h2, _⟩ := hb
        have c1 : off + len ≤ l.length := c1
        have hlen : ((l.take (off + len)).drop off).length = len := by simp; omega
        refine ⟨(l.take (off + len)).drop off, Str.sub_of _ _ _ (Nat.le_add_right off len) c1, fun w' => by rw [hlen]; rfl, fun w' hw => ?_, by rw [List.size_toArray, List.length_map, Nat.mul_one]⟩
        rw [hlen]
        rcases Nat.eq_zero_or_pos len with h0 | h0
        · rw [first_none h0]
          have : (l.take (off + len)).drop off = [] := List.length_eq_zero_iff.1 (by omega)
          rw [this]; rfl
        · have ho := ho (by omega)
          subst ho
          refine first_cells hw h1 (by simp; omega) fun j v hj => ?_
          rw [List.getElem?_map, Option.map_eq_some_iff] at hj
          obtain ⟨u, hu, rfl⟩ := hj
          rw [List.getElem?_drop, List.getElem?_take] at hu
          split at hu
          · rw [Nat.add_assoc]; exact h2 _ _ hu
          · cases hu
      · cases e
    · cases e
  · cases e

theorem srcC_ok {size : Nat} {x : AV} {v : Value} {h : H} {w : World} {n : Nat} {as : List AV} (hr : Rel μ h w) (e : aSrcC size x h = some (n, as)) (hx : x.rel μ v) : ∃ vs : List Value, AV.relL μ as vs ∧ Src P size w v n vs.toArray := by
  unfold aSrcC at e
  split at e
  · injection e with e; injection e with e1 e2; subst e1 e2
    simp only [AV.rel] at hx; subst hx
    exact ⟨[], AV.relL_nil.2 rfl, fun w' => rfl, fun w' _ => rfl, by simp⟩
  · rename_i id off len cap es ex
    split at e
    · rename_i t cs hc
      simp only [ltake_eq, ldrop_eq, Nat.mul_eq] at e
      split at e
      · rename_i l hl
        split at hl
        · rename_i hle
          injection hl with hl; injection e with e; injection e with e1 e2; subst hl e1 e2
          simp only [AV.rel] at hx
          obtain ⟨b, d, c, o, hm, rfl, ho, _, _, hlc, _, _⟩ := hx
          have hb := hr.blk id b d hm
          rw [hc] at hb
          obtain ⟨ccs, fr, h1, h2, _⟩ := hb
          have hlen : ((cs.drop off).take (len * size)).length = len * size := by
            rw [List.length_take, List.length_drop] at *; exact Nat.min_eq_left hle
          let vs := (List.range (len * size)).map fun j => ccs[d + off + j]?.getD undef
          have hvl : vs.length = len * size := by simp [vs]
          have key : ∀ j a, ((cs.drop off).take (len * size))[j]? = some a → ∃ v, vs[j]? = some v ∧ ccs[d + off + j]? = some v ∧ AV.rel μ a v := by
            intro j a hj
            have hjl : j < len * size := by have := (List.getElem?_eq_some_iff.1 hj).1; rw [hlen] at this; exact this
            rw [List.getElem?_take, if_pos hjl, List.getElem?_drop] at hj
            obtain ⟨v, hv, hvr⟩ := h2 _ _ hj
            rw [← Nat.add_assoc] at hv
            exact ⟨v, by simp [vs, hjl, hv], hv, hvr⟩
          refine ⟨vs, AV.relL_of_get (by rw [hvl, hlen]) fun j a hj => let ⟨v, hv, _, hvr⟩ := key j a hj; ⟨v, hv, hvr⟩, fun w' => rfl, fun w' hw => ?_, by simp [vs]⟩
          rcases Nat.eq_zero_or_pos len with h0 | h0
          · rw [first_none h0]; simp [vs, h0]
          · have ho := ho (by omega)
            subst ho
            refine first_cells hw h1 hvl fun j v hj => ?_
            have hjl : j < len * size := by have := (List.getElem?_eq_some_iff.1 hj).1; omega
            obtain ⟨v', h3, h4, _⟩ := key j _ (List.getElem?_eq_getElem (by rw [hlen]; exact hjl))
            rw [hj] at h3; injection h3 with h3; subst h3; exact h4
        · cases hl
      · cases e
    · cases e
  · cases e
end
end Go.Am
