/- Operations that write: sound. -/
import Derived.Test.YtdaibgpceldbdaaGreatDoorAmOpA
namespace Go.Am
open Go

structure Same (w w' : World) (b : Nat) : Prop where
  os : w'.os = w.os
  tape : w'.tape = w.tape
  output : w'.output = w.output
  size : w'.heap.size = w.heap.size
  other : ∀ c, c ≠ b → w'.heap[c]? = w.heap[c]?
theorem Same.refl (w : World) (b : Nat) : Same w w b := ⟨rfl, rfl, rfl, rfl, fun _ _ => rfl⟩
theorem Same.trans {w w' w'' : World} {b : Nat} (h : Same w w' b) (k : Same w' w'' b) : Same w w'' b :=
  ⟨k.os.trans h.os, k.tape.trans h.tape, k.output.trans h.output, k.size.trans h.size, fun c hc => (k.other c hc).trans (h.other c hc)⟩

theorem setCell_same (w : World) (b o : Nat) (v : Value) : Same w (w.setCell ⟨b, o, none⟩ v) b :=
  ⟨rfl, rfl, rfl, by simp [World.setCell], fun c hc => by simp only [World.setCell, Array.getElem?_modify]; rw [if_neg (by omega)]⟩
theorem setCell_at {w : World} {b : Nat} {ccs : Array Value} {t : TypeId} {fr : Nat × Nat} (h : w.heap[b]? = some (.cells ccs t fr)) (o : Nat) (v : Value) :
    (w.setCell ⟨b, o, none⟩ v).heap[b]? = some (.cells (ccs.setIfInBounds o v) t fr) := by
  simp only [World.setCell, Array.getElem?_modify, if_true, h]; rfl

theorem storeCells_run {P : Program} (b o : Nat) (t : TypeId) (fr : Nat × Nat) : ∀ (vs : List Value) (i : Nat) (w : World) (ccs : Array Value), w.heap[b]? = some (.cells ccs t fr) → o + i + vs.length ≤ ccs.size →
    (∀ j, o + i ≤ j → j < o + i + vs.length → ¬ (fr.1 ≤ j ∧ j < fr.2)) → (∀ v ∈ vs, v.oneCell' = true) →
    ∃ w', (storeCells ⟨b, o, none⟩ vs i).run P w = .ok () w' ∧ Same w w' b ∧ w'.heap[b]? = some (.cells (ccs.toList.take (o + i) ++ vs ++ ccs.toList.drop (o + i + vs.length)).toArray t fr)
  | [], i, w, ccs, h, _, _, _ => ⟨w, rfl, Same.refl _ _, by simp [h]⟩
  | v :: r, i, w, ccs, h, hl, hf, h1 => by
    simp only [List.length_cons] at hl hf
    have hcell : w.cell? ⟨b, o + i, none⟩ = some ccs[o + i] := by simp [World.cell?, h]
    have hfro : w.frozen? ⟨b, o + i, none⟩ = false := by
      have := hf (o + i) (Nat.le_refl _) (by omega)
      simp only [World.frozen?, h]
      rw [Bool.and_eq_false_iff]
      simp only [decide_eq_false_iff_not]
      by_cases h1 : fr.1 ≤ o + i
      · exact .inr fun h2 => this ⟨h1, h2⟩
      · exact .inl h1
    have hst : (store ((⟨b, o, none⟩ : Addr).add i) v).run P w = .ok () (w.setCell ⟨b, o + i, none⟩ v) := by
      rw [addr_add, run_store P w _ v _ (h1 v (by simp)), hcell]
      simp [hfro]
    obtain ⟨w', e1, e2, e3⟩ := storeCells_run (P := P) b o t fr r (i + 1) (w.setCell ⟨b, o + i, none⟩ v) _ (setCell_at h (o + i) v) (by simp; omega) (fun j hj hj' => hf j (by omega) (by omega)) (fun x hx => h1 x (by simp [hx]))
    refine ⟨w', ?_, (setCell_same _ _ _ _).trans e2, ?_⟩
    · simp only [storeCells, Sem.run_bind, hst, Result.andThen_ok, e1]
    · rw [e3]
      have e := list_seg_step ccs.toList (o + i) v r (by simp; omega)
      simp only [Array.toList_setIfInBounds]
      rw [show o + (i + 1) = o + i + 1 from by omega, e]; rfl

theorem put_size {ccs : Array Value} {vs : List Value} {k : Nat} (h : k + vs.length ≤ ccs.size) : ccs.size = (ccs.toList.take k ++ vs ++ ccs.toList.drop (k + vs.length)).toArray.size := by
  simp only [List.size_toArray, List.length_append, List.length_take, List.length_drop, Array.length_toList]
  rw [Nat.min_eq_left (by omega)]; omega
theorem same_cnt {w w' : World} {b : Nat} {ccs ccs' : Array Value} {t t' : TypeId} {fr fr' : Nat × Nat} (h : w.heap[b]? = some (.cells ccs t fr)) (h' : w'.heap[b]? = some (.cells ccs' t' fr')) (hs : ccs.size = ccs'.size) :
    ∀ cs t fr, w'.heap[b]? = some (.cells cs t fr) → ∃ cs' t' fr', w.heap[b]? = some (.cells cs' t' fr') ∧ cs'.size = cs.size := by
  intro cs t1 fr1 hc
  rw [h'] at hc; injection hc with hc; injection hc with e1 e2 e3; subst e1
  exact ⟨ccs, t, fr, h, hs⟩
section
variable {P : Program} {T : Ty} (hT : TyOk P T) {μ : Mu}

theorem cells_put {w' : World} {b d off : Nat} {mv : Bool} {t : Nat} {cs xs cs' : List AV} {ccs : Array Value} {vs : List Value} {fr : Nat × Nat} (hp : lputAt off xs cs = some cs')
    (h2 : ∀ (i : Nat) (a : AV), cs[i]? = some a → ∃ v, ccs[d + i]? = some v ∧ a.rel μ v) (hx : AV.relL μ xs vs) (hL : Loose d ccs.size fr)
    (hw : w'.heap[b]? = some (.cells (ccs.toList.take (d + off) ++ vs ++ ccs.toList.drop (d + off + vs.length)).toArray t fr)) (hle : d + off + vs.length ≤ ccs.size) (hmv : mv = false → d = 0) : BlkRel μ w' b d (.cells mv t cs') := by
  rw [lputAt_eq] at hp
  split at hp
  · rename_i hoff
    injection hp with hp; subst hp
    have hxl := AV.relL_length hx
    refine ⟨_, fr, hw, fun i a ha => ?_, ?_, hmv⟩
    · simp only [List.append_assoc, List.getElem?_toArray] at ha ⊢
      have hto : (ccs.toList.take (d + off)).length = d + off := by simp; omega
      have hto2 : (cs.take off).length = off := by simp; omega
      by_cases c1 : i < off
      · rw [List.getElem?_append_left (by omega)] at ha
        rw [List.getElem?_append_left (by omega)]
        simp only [List.getElem?_take, c1, if_true] at ha
        obtain ⟨v, hv, hr⟩ := h2 i a ha
        exact ⟨v, by rw [List.getElem?_take, if_pos (by omega)]; simpa using hv, hr⟩
      · rw [List.getElem?_append_right (by omega)] at ha
        rw [List.getElem?_append_right (by omega), hto]
        rw [hto2] at ha
        by_cases c2 : i - off < xs.length
        · rw [List.getElem?_append_left c2] at ha
          rw [List.getElem?_append_left (by omega), show d + i - (d + off) = i - off from by omega]
          exact AV.relL_get hx _ _ ha
        · rw [List.getElem?_append_right (by omega)] at ha
          rw [List.getElem?_append_right (by omega)]
          simp only [List.getElem?_drop] at ha ⊢
          obtain ⟨v, hv, hr⟩ := h2 _ a ha
          exact ⟨v, by rw [← hv]; simp only [Array.getElem?_toList]; congr 1; omega, hr⟩
    · intro o h1 h2
      refine hL o h1 ?_
      simp at h2; omega
  · cases hp

include hT in
theorem store_ok {t : TypeId} {a x : AV} {va vx : Value} {h h' : H} {w : World} (ht : (T t).kd.known = true) (hr : Rel μ h w) (e : aStore (T t).size a x h = some h') (ha : AV.rel μ a va) (hx : AV.rel μ x vx) :
    ∃ w', (Instr.storeAt t va vx).run P w = .ok () w' ∧ Post μ h w μ h' w' := by
  unfold aStore at e
  split at e
  · rename_i id off
    simp only [AV.rel] at ha
    obtain ⟨b, d, hm, rfl⟩ := ha
    have hb := hr.blk id b d hm
    split at e
    · rename_i t' cs hc
      rw [hc] at hb
      obtain ⟨ccs, fr, h1, h2, h3, hmv⟩ := hb
      split at e
      · rename_i xs hxs
        simp only [Str.brec] at e
        split at e
        · rename_i c1; rw [Nat.beq_eq] at c1
          split at e
          · rename_i c2
            split at e
            · rename_i cs' hp
              have hcr := cells_rel hxs hx
              have hlen := AV.relL_length hcr
              have hle : off + xs.length ≤ cs.length := by
                rw [lputAt_eq] at hp; split at hp
                · assumption
                · cases hp
              by_cases h0 : xs = []
              · subst h0
                have hv0 : vx.cells = #[] := by
                  have : vx.cells.toList.length = 0 := by rw [hlen]; rfl
                  exact Array.toList_eq_nil_iff.1 (List.length_eq_zero_iff.1 this)
                have hcs : cs' = cs := by
                  rw [lputAt_eq, if_pos hle] at hp
                  injection hp with hp
                  rw [← hp]; simp
                subst hcs
                refine ⟨w, ?_, relabel hr e hm (by rw [hc]; rfl) ⟨ccs, fr, h1, h2, h3, hmv⟩⟩
                have hs0 : (T t).size = 0 := by rw [← c1]; rfl
                simp only [Instr.storeAt, Instr.sureAddr, Sem.run_bind, Sem.run_pure, Result.andThen_ok, storeVar, size_run hT ht, Sem.run_ite, hv0, hs0]
                simp [storeCells]
              have hpos : 0 < xs.length := List.length_pos_iff.2 h0
              have hsz : d + off + xs.length ≤ ccs.size := by
                obtain ⟨v, hv, _⟩ := h2 (off + xs.length - 1) _ (List.getElem?_eq_getElem (by omega))
                have := (Array.getElem?_eq_some_iff.1 hv).1; omega
              have hone : ∀ v ∈ vx.cells.toList, v.oneCell' = true := by
                intro v hv
                obtain ⟨j, hj⟩ := List.getElem?_of_mem hv
                have hj' : j < xs.length := by have := (List.getElem?_eq_some_iff.1 hj).1; omega
                obtain ⟨v', hv', hvr⟩ := AV.relL_get hcr j _ (List.getElem?_eq_getElem hj')
                rw [hj] at hv'; injection hv' with hv'; subst hv'
                exact one_rel (allOne_iff c2 _ (List.getElem_mem hj')) hvr
              obtain ⟨w', e1, e2, e3⟩ := storeCells_run (P := P) b (d + off) t' fr vx.cells.toList 0 w ccs h1 (by omega) (fun j hj hj' => h3 j (by omega) (by omega)) hone
              refine ⟨w', ?_, ?_⟩
              · have hne : ¬ vx.cells.size ≠ (T t).size := by
                  have : vx.cells.size = xs.length := by simpa using hlen
                  omega
                simp only [Instr.storeAt, Instr.sureAddr, Sem.run_bind, Sem.run_pure, Result.andThen_ok, storeVar, size_run hT ht, Sem.run_ite, hne, if_false, e1]
              · refine put_post hr e hm (by rw [hc]; rfl) e2.os e2.tape e2.output e2.size e2.other (same_cnt h1 e3 (put_size (by simp at *; omega))) ?_
                exact cells_put hp h2 hcr h3 (by simpa using e3) (by omega) hmv
            · cases e
          · cases e
        · cases e
      · cases e
    · rename_i t' fz sg s hc
      rw [hc] at hb
      obtain ⟨ccs, fr, l, h1, rfl, h2, h3, h4⟩ := hb
      split at e
      · rename_i c
        simp only [Str.brec] at e
        split at e
        · rename_i c1; rw [blt_iff] at c1
          split at e
          · rename_i c2; rw [ble_iff] at c2
            split at e
            · rename_i c3; rw [blt_iff] at c3
              split at e
              · rename_i c4; rw [Nat.beq_eq] at c4
                have c1 : off < l.length := c1
                have hv := h2 off l[off] (by simp [c1])
                have hsz := (Array.getElem?_eq_some_iff.1 hv).1
                simp only [AV.rel] at hx; subst hx
                obtain ⟨w', e1, e2, e3⟩ := storeCells_run (P := P) b (d + off) t' fr [.int .u8 (Int.ofNat c)] 0 w ccs h1 (by simp; omega) (fun j hj hj' => by simp at hj'; exact h3 j (by omega) (by omega)) (by simp [Value.oneCell'])
                refine ⟨w', ?_, ?_⟩
                · have hne : ¬ (Value.int .u8 (Int.ofNat c)).cells.size ≠ (T t).size := by rw [c4]; simp [Value.cells]
                  simp only [Instr.storeAt, Instr.sureAddr, Sem.run_bind, Sem.run_pure, Result.andThen_ok, storeVar, size_run hT ht, Sem.run_ite, hne, if_false]
                  exact e1
                · refine put_post hr e hm (by rw [hc]; rfl) e2.os e2.tape e2.output e2.size e2.other (same_cnt h1 e3 (put_size (by simp at *; omega))) ?_
                  have hcb : (UInt8.ofNat c).toNat = c := by simp [Nat.mod_eq_of_lt c3]
                  refine ⟨_, fr, l.set off (UInt8.ofNat c), by simpa using e3, by rw [← Str.set_of l off _ c1, hcb], fun i x hx => ?_, ?_, h4⟩
                  · simp only [List.getElem?_toArray]
                    rw [List.getElem?_set] at hx
                    have hto : (ccs.toList.take (d + off)).length = d + off := by simp; omega
                    rcases Nat.lt_trichotomy i off with hi | hi | hi
                    · rw [if_neg (by omega)] at hx
                      rw [List.getElem?_append_left (by omega), List.getElem?_take, if_pos (by omega)]
                      simpa using h2 i x hx
                    · subst hi
                      rw [if_pos rfl, if_pos c1] at hx
                      injection hx with hx; subst hx
                      rw [List.getElem?_append_right (by omega), hto]
                      simp [hcb]
                    · rw [if_neg (by omega)] at hx
                      rw [List.getElem?_append_right (by omega), hto, show d + i - (d + off) = (i - off - 1) + 1 from by omega]
                      simp only [List.getElem?_cons_succ, List.getElem?_drop]
                      rw [show d + off + 1 + (i - off - 1) = d + i from by omega]
                      simpa using h2 i x hx
                  · intro o ho1 ho2
                    refine h3 o ho1 ?_
                    simp at ho2; omega
              · cases e
            · cases e
          · cases e
        · cases e
      · cases e
    · cases e
  · cases e

/-- a row of bytes read as a text -/
theorem toStr_ok {s t e : TypeId} {a r : AV} {x : Value} {h : H} {w : World} (hT : TyOk P T) (hs : (T s).kd = .slice e) (hk : (T e).kd = .int .u8) (ht : (T t).kd = .str) (hr : Rel μ h w) (ee : aToStr a h = some r) (ha : AV.rel μ a x) :
    ∃ v, (convert s t x).run P w = .ok v w ∧ r.rel μ v := by
  obtain ⟨_, h1, rfl⟩ := und_of hT hs rfl
  obtain ⟨_, h2, rfl⟩ := und_of hT ht rfl
  obtain ⟨_, h3, rfl⟩ := und_of hT hk rfl
  unfold aToStr at ee
  split at ee
  · injection ee with ee; subst ee
    simp only [AV.rel] at ha; subst ha
    refine ⟨.string .empty, ?_, by simp only [AV.rel]; exact ⟨_, rfl, rfl⟩⟩
    simp [convert, run_underlying h1, run_underlying h2, run_underlying h3, Conv.bytesToString]
  · rename_i id off len cap es ex
    split at ee
    · rename_i t' fz sg s' hc
      rw [Str.brec] at ee
      split at ee
      · rename_i c1; rw [ble_iff] at c1
        injection ee with ee; subst ee
        simp only [AV.rel] at ha
        obtain ⟨b, d, c, o, hm, rfl, ho, hle, hex, hlen, _⟩ := ha
        have hb := hr.blk id b d hm
        rw [hc] at hb
        obtain ⟨ccs, fr, l, e1, rfl, e2, _⟩ := hb
        have c1 : off + len ≤ l.length := c1
        refine ⟨.string ⟨((l.take (off + len)).drop off).toArray⟩, ?_, by
          simp only [AV.rel]
          exact ⟨_, rfl, by show Str.sub (Str.of l) off (off + len) = _; rw [Str.sub_of _ _ _ (by omega) c1]⟩⟩
        have hlist : ((l.take (off + len)).drop off).length = len := by simp; omega
        have hcell : ∀ j v, (((l.take (off + len)).drop off).map fun u => Value.int .u8 u.toNat)[j]? = some v → w.cell? ((⟨b, o, none⟩ : Addr).add j) = some v := by
          intro j v hj
          rw [List.getElem?_map, Option.map_eq_some_iff] at hj
          obtain ⟨u, hu, rfl⟩ := hj
          have hjl : j < len := by have := (List.getElem?_eq_some_iff.1 hu).1; omega
          have ho := ho (by omega)
          subst ho
          rw [List.getElem?_drop, List.getElem?_take] at hu
          split at hu
          · rw [addr_add, Nat.add_assoc]; exact cell_at e1 (e2 _ _ hu)
          · cases hu
        have hload := run_loadCells_list (P := P) w ⟨b, o, none⟩ _ hcell
        rw [List.length_map, hlist] at hload
        have hloop : ∀ (f : Value → ByteArray → Sem (ForInStep ByteArray)), (∀ (u : UInt8) acc, f (.int .u8 u.toNat) acc = pure (.yield (acc.push u))) → ∀ (us : List UInt8) (acc : ByteArray),
            (forIn (m := Sem) (us.map fun u => Value.int .u8 u.toNat) acc f).run P w = .ok ⟨(acc.data.toList ++ us).toArray⟩ w := by
          intro f hf us
          induction us with
          | nil => intro acc; simp
          | cons u us ih =>
            intro acc
            simp only [List.map_cons, List.forIn_cons, Sem.run_bind, hf, Sem.run_pure, Result.andThen_ok]
            rw [ih]
            simp
        simp only [convert, run_underlying h1, run_underlying h2, run_underlying h3, Conv.bytesToString, Sem.run_bind, Result.andThen_ok, hload]
        rw [← Array.forIn_toList]
        rw [hloop _ (fun u acc => by simp)]
        simp
      · cases ee
    · cases ee
  · cases ee
end
end Go.Am
