/- Pointers seen as unsafe.Pointer and back; a row of bytes as a string that shares them: sound. -/
import Derived.Test.YtdaibgpceldbdaaGreatDoorAmOpZ
namespace Go.Am
open Go

noncomputable def aToU (v : AV) (h : H) : Option AV :=
  match v with
  | .nilp => some .nilp
  | .ptr id off => match h.get id with
    | .cells _ _ cs => Bool.rec none (some (.ptr id off)) (Nat.blt off cs.length)
    | .bytes _ _ _ s => Bool.rec none (some (.ptr id off)) (Nat.blt off s.len)
    | _ => none
  | _ => none
noncomputable def aOfU (u size : Nat) (v : AV) (h : H) : Option AV :=
  match v with
  | .nilp => some .nilp
  | .ptr id 0 => match h.get id with
    | .cells false t cs => Bool.rec none (Bool.rec none (some (.ptr id 0)) (Nat.beq t u)) (Nat.ble size cs.length)
    | _ => none
  | _ => none
noncomputable def aSliceData (v : AV) : Option AV :=
  match v with
  | .nils => some .nilp
  | .slice id off _ cap _ _ => Bool.rec none (some (.ptr id off)) (Nat.blt 0 cap)
  | _ => none
noncomputable def aUnStr (e : Nat) (p n : AV) (h : H) : Option (AV × H) :=
  match p, n with
  | .nilp, .int _ (.ofNat n) => Bool.rec none (some (.str ⟨0, 0⟩, h)) (Nat.beq n 0)
  | .ptr id off, .int _ (.ofNat n) => Bool.rec
    (match h.get id with
    | .bytes t fz false s => Bool.rec none (Bool.rec none (Bool.rec none (match h.put id (.bytes t (Bool.rec (Nat.add off n) fz (Nat.ble (Nat.add off n) fz)) false s) with
        | some h' => some (.str (s.sub off (Nat.add off n)), h')
        | none => none) (Nat.beq t e)) (Nat.ble (Nat.add off n) s.len)) (Nat.ble n 9223372036854775807)
    | _ => none)
    (some (.str ⟨0, 0⟩, h)) (Nat.beq n 0)
  | _, _ => none

section
variable {P : Program} {T : Ty} (hT : TyOk P T) {μ : Mu}

theorem shape?_at {w : World} {b : Nat} {ccs : Array Value} {t : TypeId} {fr : Nat × Nat} (h : w.heap[b]? = some (.cells ccs t fr)) : w.shape? b = some (t, ccs.size) := by
  simp [World.shape?, h]
theorem shape_at {w : World} {b : Nat} {ccs : Array Value} {t : TypeId} {fr : Nat × Nat} (h : w.heap[b]? = some (.cells ccs t fr)) : (shape b).run P w = .ok (some (t, ccs.size)) w := by
  show Sem.run P (.pure (w.shape? b)) w = _
  rw [shape?_at h]; rfl
theorem seen_run {w : World} {b o : Nat} {ccs : Array Value} {t : TypeId} {fr : Nat × Nat} (h : w.heap[b]? = some (.cells ccs t fr)) : (Conv.seenAt ⟨b, o, none⟩).run P w = .ok ⟨b, o, none⟩ w := by
  simp [Conv.seenAt, viewAt, shape_at h]
theorem cellsIn_run {w : World} {b : Nat} {ccs : Array Value} {t : TypeId} {fr : Nat × Nat} (h : w.heap[b]? = some (.cells ccs t fr)) : (cellsIn b).run P w = .ok (some ccs.size) w := by
  simp [cellsIn, shape_at h]

include hT in
theorem toU_ok {s d e : TypeId} {a r : AV} {x : Value} {h : H} {w : World} (hs : (T s).kd = .ptr e) (hd : (T d).kd = .unsafe_) (hk : (T e).kd.known = true) (hz : 1 ≤ (T e).size) (hr : Rel μ h w) (ee : aToU a h = some r) (ha : AV.rel μ a x) :
    ∃ v, (convert s d x).run P w = .ok v w ∧ r.rel μ v := by
  obtain ⟨_, h1, rfl⟩ := und_of hT hs rfl
  obtain ⟨_, h2, rfl⟩ := und_of hT hd rfl
  unfold aToU at ee
  split at ee
  · injection ee with ee; subst ee
    simp only [AV.rel] at ha; subst ha
    exact ⟨.pointer none, by simp [convert, run_underlying h1, run_underlying h2, Conv.unsafePointer], by simp [AV.rel]⟩
  · rename_i id off
    simp only [AV.rel] at ha
    obtain ⟨b, d', hm, rfl⟩ := ha
    have hb := hr.blk id b d' hm
    have key : ∀ {ccs : Array Value} {t : TypeId} {fr : Nat × Nat}, w.heap[b]? = some (.cells ccs t fr) → d' + off < ccs.size → (convert s d (.pointer (some ⟨b, d' + off, none⟩))).run P w = .ok (.pointer (some ⟨b, d' + off, none⟩)) w := by
      intro ccs t fr hh hlt
      have hz' : ¬ (T e).size = 0 := by omega
      have hlt' : ¬ ccs.size ≤ d' + off := by omega
      simp [convert, run_underlying h1, run_underlying h2, Conv.unsafePointer, seen_run hh, cellsIn_run hh, size_run hT hk, hz', hlt']
    split at ee
    · rename_i mv t cs hc
      rw [hc] at hb
      obtain ⟨ccs, fr, e1, e2, _⟩ := hb
      rw [Str.brec] at ee
      split at ee
      · rename_i hlt; rw [blt_iff] at hlt
        injection ee with ee; subst ee
        obtain ⟨v, hv, _⟩ := e2 off _ (List.getElem?_eq_getElem hlt)
        have := (Array.getElem?_eq_some_iff.1 hv).1
        exact ⟨_, key e1 this, by simp only [AV.rel]; exact ⟨b, d', hm, rfl⟩⟩
      · cases ee
    · rename_i t fz sg s' hc
      rw [hc] at hb
      obtain ⟨ccs, fr, l, e1, rfl, e2, _⟩ := hb
      rw [Str.brec] at ee
      split at ee
      · rename_i hlt; rw [blt_iff] at hlt
        injection ee with ee; subst ee
        have hlt : off < l.length := hlt
        have hv := e2 off l[off] (by simp [hlt])
        have := (Array.getElem?_eq_some_iff.1 hv).1
        exact ⟨_, key e1 this, by simp only [AV.rel]; exact ⟨b, d', hm, rfl⟩⟩
      · cases ee
    · cases ee
  · cases ee

theorem same_self (p : Program) (t : TypeId) : sameLayout p p.depth t t = true := by
  unfold Program.depth
  rw [sameLayout]
  simp
theorem row_here (p : Program) {u : TypeId} {count i n : Nat} (hs : p.cellsOf u ≠ 0) (h : i + n ≤ count) : rowAt p (sameLayout p p.depth · u) p.depth u count (i * p.cellsOf u) n = true := by
  have hd : i * p.cellsOf u / p.cellsOf u = i := Nat.mul_div_cancel _ (by omega)
  have hm : i * p.cellsOf u % p.cellsOf u = 0 := Nat.mul_mod_left _ _
  have := same_self p u
  unfold Program.depth at *
  rw [rowAt]
  simp [hs, hd, hm, h, this]
theorem lies_here (p : Program) {u : TypeId} {count i n : Nat} (hs : p.cellsOf u ≠ 0) (h : i + n ≤ count) : liesAt p p.depth u count (i * p.cellsOf u) u n = true := by
  have := row_here p hs h
  have hd : p.depth = (2 * (p.types.size + Made.depth) + 1) + 1 := rfl
  rw [show liesAt p p.depth u count (i * p.cellsOf u) u n = liesAt p (2 * (p.types.size + Made.depth) + 1 + 1) u count (i * p.cellsOf u) u n from rfl]
  rw [liesAt, this]; simp

include hT in
theorem cellsOf_eq {e : TypeId} (hk : (T e).kd.known = true) : P.cellsOf e = (T e).size := by
  obtain ⟨i, z, h1, h2, _⟩ := (hT e hk).info
  simp [Program.cellsOf, h1, h2]

include hT in
theorem ofU_ok {s d e : TypeId} {a r : AV} {x : Value} {h : H} {w : World} (hs : (T s).kd = .unsafe_) (hd : (T d).kd = .ptr e) (hk : (T e).kd.known = true) (hz : 1 ≤ (T e).size) (hr : Rel μ h w) (ee : aOfU e (T e).size a h = some r) (ha : AV.rel μ a x) :
    ∃ v, (convert s d x).run P w = .ok v w ∧ r.rel μ v := by
  obtain ⟨_, h1, rfl⟩ := und_of hT hs rfl
  obtain ⟨_, h2, rfl⟩ := und_of hT hd rfl
  unfold aOfU at ee
  split at ee
  · injection ee with ee; subst ee
    simp only [AV.rel] at ha; subst ha
    exact ⟨.pointer none, by simp [convert, run_underlying h1, run_underlying h2, Conv.unsafePointer], by simp [AV.rel]⟩
  · rename_i id
    simp only [AV.rel] at ha
    obtain ⟨b, d', hm, rfl⟩ := ha
    have hb := hr.blk id b d' hm
    split at ee
    · rename_i t cs hc
      rw [hc] at hb
      obtain ⟨ccs, fr, e1, e2, _, hmv⟩ := hb
      have hd0 := hmv rfl
      subst hd0
      rw [Str.brec] at ee
      split at ee
      · rename_i hle; rw [ble_iff] at hle
        rw [Str.brec] at ee
        split at ee
        · rename_i ht; rw [Nat.beq_eq] at ht
          subst ht
          injection ee with ee; subst ee
          have hz' : ¬ (T t).size = 0 := by omega
          obtain ⟨v, hv, _⟩ := e2 ((T t).size - 1) _ (List.getElem?_eq_getElem (by omega))
          have hsz := (Array.getElem?_eq_some_iff.1 hv).1
          have hco := cellsOf_eq hT hk
          have hlie := lies_here P (u := t) (count := ccs.size / P.cellsOf t) (i := 0) (n := 1) (by omega) (by rw [hco]; have : 0 < ccs.size / (T t).size := Nat.div_pos (by omega) (by omega); omega)
          rw [Nat.zero_mul] at hlie
          refine ⟨.pointer (some ⟨b, 0 + 0, none⟩), ?_, by simp only [AV.rel]; exact ⟨b, 0, hm, rfl⟩⟩
          simp [convert, run_underlying h1, run_underlying h2, Conv.unsafePointer, seen_run e1, size_run hT hk, hz', variablesAt, shape?_at e1, hlie]
        · cases ee
      · cases ee
    · cases ee
  · cases ee

theorem sliceData_ok {argTypes : Array TypeId} {ty : TypeId} {a r : AV} {x : Value} (h : aSliceData a = some r) (ha : AV.rel μ a x) : ∃ v, Yld P (Builtin.unsafeSliceData_ argTypes ty #[x]) v ∧ r.rel μ v := by
  unfold aSliceData at h
  split at h
  · injection h with h; subst h
    simp only [AV.rel] at ha; subst ha
    exact ⟨.pointer none, fun w => rfl, by simp [AV.rel]⟩
  · rename_i id off len cap es ex
    rw [Str.brec] at h
    split at h
    · rename_i hc; rw [blt_iff] at hc
      injection h with h; subst h
      simp only [AV.rel] at ha
      obtain ⟨b, d, c, o, hm, rfl, ho, hle, _⟩ := ha
      have ho := ho hc
      subst ho
      have hc' : ¬ c = 0 := by omega
      exact ⟨.pointer (some ⟨b, d + off, none⟩), fun w => by
        have e : Builtin.unsafeSliceData_ argTypes ty #[.slice (some ⟨b, d + off, none⟩) len c] = (if c ≠ 0 then pure (.pointer (some ⟨b, d + off, none⟩)) else _) := rfl
        rw [e, if_pos hc']; rfl, by simp only [AV.rel]; exact ⟨b, d, hm, rfl⟩⟩
    · cases h
  · cases h

theorem loadBytes_run {w : World} {b : Nat} : ∀ (us : List UInt8) (o : Nat) (acc : ByteArray), (∀ j u, us[j]? = some u → w.cell? ⟨b, o + j, none⟩ = some (.int .u8 u.toNat)) →
    (loadBytes ⟨b, o, none⟩ acc us.length).run P w = .ok ⟨(acc.data.toList ++ us).toArray⟩ w
  | [], o, acc, _ => by simp [loadBytes]
  | u :: us, o, acc, h => by
    have h0 := h 0 u rfl
    rw [Nat.add_zero] at h0
    have ih := loadBytes_run us (o + 1) (acc.push u) (fun j u' hj => by have := h (j + 1) u' (by simpa using hj); rwa [show o + 1 + j = o + (j + 1) from by omega])
    simp only [List.length_cons, loadBytes, Sem.run_bind]
    have hl : (load ⟨b, o, none⟩).run P w = .ok (.int .u8 u.toNat) w := by simp [h0]
    rw [hl]
    simp only [Result.andThen_ok, addr_add, Int.toNat_natCast]
    have hu : (u.toNat).toUInt8 = u := by simp
    rw [hu, ih]
    simp

def frz (fr : Nat × Nat) (o n : Nat) : Nat × Nat := if fr.1 == fr.2 then (o, o + n) else (min fr.1 o, max fr.2 (o + n))
theorem freeze_at {w : World} {b o n : Nat} {ccs : Array Value} {t : TypeId} {fr : Nat × Nat} (hn : n ≠ 0) (h : w.heap[b]? = some (.cells ccs t fr)) :
    (w.freeze ⟨b, o, none⟩ n).heap[b]? = some (.cells ccs t (frz fr o n)) ∧ (∀ c, c ≠ b → (w.freeze ⟨b, o, none⟩ n).heap[c]? = w.heap[c]?) ∧ (w.freeze ⟨b, o, none⟩ n).heap.size = w.heap.size ∧
    (w.freeze ⟨b, o, none⟩ n).os = w.os ∧ (w.freeze ⟨b, o, none⟩ n).tape = w.tape ∧ (w.freeze ⟨b, o, none⟩ n).output = w.output := by
  unfold World.freeze
  rw [if_neg hn]
  obtain ⟨lo, hi⟩ := fr
  refine ⟨?_, fun c hc => ?_, ?_, rfl, rfl, rfl⟩
  · simp [Array.getElem?_modify, h, frz]
  · simp only [Array.getElem?_modify]
    rw [if_neg (fun e => hc e.symm)]
  · simp

include hT in
theorem unStr_ok {pt nt ty e : TypeId} {p n r : AV} {x y : Value} {h h' : H} {w : World} (hk : (T pt).kd = .ptr e) (hu : (T e).kd = .int .u8) (hs : (T e).size = 1) (hr : Rel μ h w) (ee : aUnStr e p n h = some (r, h')) (hp : AV.rel μ p x) (hn : AV.rel μ n y) :
    WOk P μ h w (Builtin.unsafeString_ #[pt, nt] ty #[x, y]) r h' := by
  obtain ⟨_, h1, rfl⟩ := und_of hT hk rfl
  have empty : ∀ {h' : H} {r : AV} {q : Option Addr} {k : IntKind}, some (AV.str ⟨0, 0⟩, h) = some (r, h') → WOk P μ h w (Builtin.unsafeString_ #[pt, nt] ty #[.pointer q, .int k 0]) r h' := by
    intro h' r q k ee
    injection ee with ee; injection ee with e1 e2; subst e1 e2
    refine ⟨.string .empty, w, μ, ?_, by simp only [AV.rel]; exact ⟨_, rfl, rfl⟩, Post.refl hr⟩
    cases q <;> rfl
  unfold aUnStr at ee
  split at ee
  · rename_i k n
    rw [Str.brec] at ee
    split at ee
    · rename_i hz; rw [Nat.beq_eq] at hz; subst hz
      simp only [AV.rel] at hp hn; subst hp hn
      exact empty ee
    · cases ee
  · rename_i id off k n
    simp only [AV.rel] at hp hn
    obtain ⟨b, d, hm, rfl⟩ := hp
    subst hn
    rw [Str.brec] at ee
    split at ee
    · rename_i hz; rw [Nat.beq_eq] at hz; subst hz
      exact empty ee
    · rename_i hz
      have hz : n ≠ 0 := fun e => hz (by subst e; rfl)
      have hb := hr.blk id b d hm
      split at ee
      · rename_i t fz s hc
        have hlive : (h.get id).live = true := by rw [hc]; rfl
        rw [hc] at hb
        obtain ⟨ccs, fr, l, e1, rfl, e2, e3, e4⟩ := hb
        rw [Str.brec] at ee
        split at ee
        · rename_i c1; rw [ble_iff] at c1
          rw [Str.brec] at ee
          split at ee
          · rename_i c2; rw [ble_iff] at c2
            have c2 : off + n ≤ l.length := c2
            rw [Str.brec] at ee
            split at ee
            · rename_i c3; rw [Nat.beq_eq] at c3; subst c3
              split at ee
              · rename_i h1' hput
                injection ee with ee; injection ee with q1 q2; subst q1 q2
                obtain ⟨f1, f2, f3, f4, f5, f6⟩ := freeze_at (o := d + off) hz e1
                have hfz : (Bool.rec (Nat.add off n) fz (Nat.ble (Nat.add off n) fz) : Nat) = max fz (off + n) := by
                  rw [Str.brec]; split
                  · rename_i q; rw [ble_iff] at q; have : off + n ≤ fz := q; omega
                  · rename_i q; rw [ble_iff] at q; have : ¬ off + n ≤ fz := q; show off + n = _; omega
                rw [hfz] at hput
                have hlist : ((l.take (off + n)).drop off).length = n := by simp; omega
                have hlast : d + off + n ≤ ccs.size := by
                  have hlt : off + n - 1 < l.length := by omega
                  have hv := e2 (off + n - 1) l[off + n - 1] (by simp [hlt])
                  have := (Array.getElem?_eq_some_iff.1 hv).1; omega
                have hco : P.cellsOf t = 1 := (cellsOf_eq hT (by rw [hu]; rfl)).trans hs
                have hlie := lies_here P (u := t) (count := ccs.size / P.cellsOf t) (i := d + off) (n := n) (by omega) (by rw [hco, Nat.div_one]; omega)
                rw [hco, Nat.div_one, Nat.mul_one] at hlie
                have hload := loadBytes_run (P := P) (w := w) (b := b) ((l.take (off + n)).drop off) (d + off) .empty (fun j u hj => by
                  rw [List.getElem?_drop, List.getElem?_take] at hj
                  split at hj
                  · rw [Nat.add_assoc]; exact cell_at e1 (e2 _ _ hj)
                  · cases hj)
                rw [hlist] at hload
                refine ⟨.string ⟨((l.take (off + n)).drop off).toArray⟩, w.freeze ⟨b, d + off, none⟩ n, μ, ?_, ?_, ?_⟩
                · have n1 : ¬ ((n : Int) < 0) := by omega
                  have n2 : ¬ (IntKind.i64.max < (n : Int)) := by
                    have : IntKind.i64.max = 9223372036854775807 := by decide
                    rw [this]; omega
                  have hz' : ¬ ((n : Int) = 0) := by omega
                  have hfr : ∀ w : World, (freeze ⟨b, d + off, none⟩ n).run P w = .ok () (w.freeze ⟨b, d + off, none⟩ n) := fun w => rfl
                  show (asInt (.int k (Int.ofNat n)) >>= _ : Sem Value).run P w = _
                  simp [asInt, asIntOf, n1, hz, elemOf, run_underlying h1, variablesAt, shape?_at e1, hco, hlie, hload, hfr]
                  omega
                · simp only [AV.rel]
                  exact ⟨_, rfl, by show Str.sub (Str.of l) off (off + n) = _; rw [Str.sub_of _ _ _ (by omega) c2]⟩
                · refine put_post hr hput hm hlive f4 f5 f6 f3 f2 (fun ccs' t' fr' hh => by
                    rw [f1] at hh; injection hh with hh; injection hh with g1 g2 g3; subst g1
                    exact ⟨_, _, _, e1, rfl⟩) ?_
                  have hold := e4 rfl
                  have hhi : (frz fr (d + off) n).2 ≤ d + max fz (off + n) := by
                    unfold frz
                    by_cases hq : fr.1 == fr.2
                    · rw [if_pos hq]; show d + off + n ≤ _; omega
                    · rw [if_neg hq]
                      rcases hold with q | q
                      · exact absurd (by simpa using q) hq
                      · have q := q.2; show max fr.2 (d + off + n) ≤ _; omega
                  exact ⟨ccs, _, l, f1, rfl, e2, fun o ho1 ho2 hq => by omega, fun _ => .inr ⟨by show 0 < max fz (off + n); omega, hhi⟩⟩
              · cases ee
            · cases ee
          · cases ee
        · cases ee
      · cases ee
  · cases ee

include hT in
/-- bytes that the translator laid out of a text: marked as such -/
theorem mark_ok {s e : TypeId} {id off len cap es : Nat} {ex : Bool} {x : Value} {t0 : Nat} {str : Str} {h h' : H} {w : World} (hs : (T s).kd = .slice e) (hk : (T e).kd = .int .u8) (hR : Rel μ h w) (hg : h.get id = .bytes t0 0 false str)
    (hput : h.put id (.bytes t0 0 true str) = some h') (ha : AV.rel μ (.slice id off len cap es ex) x) : ∃ w', (convert s s x).run P w = .ok x w' ∧ Post μ h w μ h' w' := by
  obtain ⟨d, h1, rfl⟩ := und_of hT hs rfl
  obtain ⟨d, h3, rfl⟩ := und_of hT hk rfl
  simp only [AV.rel] at ha
  obtain ⟨b, dd, c, o, hm, rfl, _⟩ := ha
  have hb := hR.blk id b dd hm
  rw [hg] at hb
  obtain ⟨ccs, fr, l, e1, rfl, e2, e3, e4⟩ := hb
  obtain ⟨f1, f2, f3, f4, f5, f6⟩ := freeze_at (o := ccs.size) (n := 1) (by omega) e1
  refine ⟨w.freeze ⟨b, ccs.size, none⟩ 1, ?_, ?_⟩
  · have hfr : ∀ w : World, (freeze ⟨b, ccs.size, none⟩ 1).run P w = .ok () (w.freeze ⟨b, ccs.size, none⟩ 1) := fun w => rfl
    simp only [convert, Sem.run_bind, run_underlying h1, run_underlying h3, Result.andThen_ok, beq_self_eq_true, markStringish, run_shape, shape?_at e1, hfr, Sem.run_pure]
  · refine put_post hR hput hm (by rw [hg]; rfl) f4 f5 f6 f3 f2 (fun ccs' t' fr' hh => by
      rw [f1] at hh; injection hh with hh; injection hh with g1 g2 g3; subst g1
      exact ⟨_, _, _, e1, rfl⟩) ?_
    have hq : (fr.1 == fr.2) = true := by
      rcases e4 rfl with q | q
      · simpa using q
      · omega
    refine ⟨ccs, _, l, f1, rfl, e2, fun o ho1 ho2 hq' => ?_, fun h => by cases h⟩
    unfold frz at hq'
    rw [if_pos hq] at hq'
    have : ccs.size ≤ o := hq'.1
    omega
end

/-! ## builtins, by their arguments -/
noncomputable def aMin (a b : AV) : Option AV :=
  match a, b with
  | .int k x, .int _ y => some (.int k (Bool.rec x y (ltI y x)))
  | .str x, .str y => some (.str (Bool.rec x y (y.lt x)))
  | _, _ => none
noncomputable def aMax (a b : AV) : Option AV :=
  match a, b with
  | .int k x, .int _ y => some (.int k (Bool.rec x y (ltI x y)))
  | .str x, .str y => some (.str (Bool.rec x y (x.lt y)))
  | _, _ => none
noncomputable def aBiP (_T : Ty) (b : Builtin) (as : List AV) (_ts : List Nat) : Option AV :=
  match b with
  | .unsafeSliceData => match as with
    | [x] => aSliceData x
    | _ => none
  | .min => match as with
    | [x, y] => aMin x y
    | _ => none
  | .max => match as with
    | [x, y] => aMax x y
    | _ => none
  | _ => none
noncomputable def aBiW (T : Ty) (b : Builtin) (as : List AV) (ts : List Nat) (h : H) : Option (AV × H) :=
  match b with
  | .unsafeString => match as, ts with
    | [p, n], [t, _] => match (T t).kd with
      | .ptr e => match (T e).kd.isU8 && Nat.beq (T e).size 1 with
        | true => aUnStr e p n h
        | false => none
      | _ => none
    | _, _ => none
  | _ => none
def biC : Builtin → Nat
  | .len => 0
  | .unsafeSliceData => 0
  | .min => 0
  | .max => 0
  | _ => 3

section
variable {P : Program} {T : Ty} {μ : Mu}
theorem min2_ok {a b r : AV} {x y : Value} (h : aMin a b = some r) (ha : AV.rel μ a x) (hb : AV.rel μ b y) : ∃ v, Yld P (Builtin.min2 x y) v ∧ r.rel μ v := by
  unfold aMin at h
  split at h
  · rename_i k x' k' y'
    injection h with h; subst h
    simp only [AV.rel] at ha hb; subst ha hb
    refine ⟨.int k (if y' < x' then y' else x'), fun w => rfl, ?_⟩
    rw [Str.brec, ltI_eq]; simp only [decide_eq_true_eq]; exact rel_int_self
  · rename_i s t
    injection h with h; subst h
    obtain ⟨v, h1, h2⟩ := binS_ok (P := P) (op := .leq) (t := 0) (r := .bool (Bool.not (t.lt s))) (by unfold binS; rfl) ha hb
    simp only [AV.rel] at h2; subst h2
    simp only [AV.rel] at ha hb
    obtain ⟨xs, rfl, hs⟩ := ha
    obtain ⟨ys, rfl, ht⟩ := hb
    refine ⟨.string (if t.lt s then ys else xs), fun w => ?_, ?_⟩
    · have h1' : (Op.stringOp .leq xs ys).run P w = .ok (.bool (!(t.lt s))) w := h1 w
      simp only [Builtin.min2, Sem.run_bind, h1', Result.andThen_ok]
      cases t.lt s <;> rfl
    · rw [Str.brec]
      simp only [AV.rel]
      cases t.lt s
      · exact ⟨xs, rfl, hs⟩
      · exact ⟨ys, rfl, ht⟩
  · cases h
theorem max2_ok {a b r : AV} {x y : Value} (h : aMax a b = some r) (ha : AV.rel μ a x) (hb : AV.rel μ b y) : ∃ v, Yld P (Builtin.max2 x y) v ∧ r.rel μ v := by
  unfold aMax at h
  split at h
  · rename_i k x' k' y'
    injection h with h; subst h
    simp only [AV.rel] at ha hb; subst ha hb
    refine ⟨.int k (if y' > x' then y' else x'), fun w => rfl, ?_⟩
    rw [Str.brec, ltI_eq]; simp only [decide_eq_true_eq, GT.gt]; exact rel_int_self
  · rename_i s t
    injection h with h; subst h
    obtain ⟨v, h1, h2⟩ := binS_ok (P := P) (op := .geq) (t := 0) (r := .bool (Bool.not (s.lt t))) (by unfold binS; rfl) ha hb
    simp only [AV.rel] at h2; subst h2
    simp only [AV.rel] at ha hb
    obtain ⟨xs, rfl, hs⟩ := ha
    obtain ⟨ys, rfl, ht⟩ := hb
    refine ⟨.string (if s.lt t then ys else xs), fun w => ?_, ?_⟩
    · have h1' : (Op.stringOp .geq xs ys).run P w = .ok (.bool (!(s.lt t))) w := h1 w
      simp only [Builtin.max2, Sem.run_bind, h1', Result.andThen_ok]
      cases s.lt t <;> rfl
    · rw [Str.brec]
      simp only [AV.rel]
      cases s.lt t
      · exact ⟨xs, rfl, hs⟩
      · exact ⟨ys, rfl, ht⟩
  · cases h

/-- the operation yields v in every world -/
def YldN (P : Program) (s : Sem Next) (v : Value) : Prop := ∀ w, s.run P w = .ok (.value v) w
theorem biP_ok (hT : TyOk P T) {b : Builtin} {as : List AV} {ts : List Nat} {ty : TypeId} {cs : Array Bool} {vs : List Value} {r : AV} (h : aBiP T b as ts = some r) (ha : AV.relL μ as vs) :
    ∃ v, YldN P (builtin b ts.toArray ty cs vs.toArray) v ∧ r.rel μ v := by
  have lft : ∀ {s : Sem Value} {v : Value}, Yld P s v → YldN P (do pure (.value (← s))) v := fun h w => by
    simp only [Sem.run_bind, h w, Result.andThen_ok, Sem.run_pure]
  unfold aBiP at h
  split at h
  · split at h
    · obtain ⟨x, _, rfl, hx, hn⟩ := AV.relL_cons.1 ha
      rw [AV.relL_nil] at hn; subst hn
      obtain ⟨v, h1, h2⟩ := sliceData_ok (P := P) (argTypes := ts.toArray) (ty := ty) h hx
      exact ⟨v, lft h1, h2⟩
    · cases h
  · split at h
    · obtain ⟨x, _, rfl, hx, ha⟩ := AV.relL_cons.1 ha
      obtain ⟨y, _, rfl, hy, hn⟩ := AV.relL_cons.1 ha
      rw [AV.relL_nil] at hn; subst hn
      obtain ⟨v, h1, h2⟩ := min2_ok (P := P) h hx hy
      refine ⟨v, lft (s := Builtin.min_ ts.toArray ty #[x, y]) (fun w => ?_), h2⟩
      simp only [Builtin.min_, List.foldlM, Sem.run_bind, h1 w, Result.andThen_ok, Sem.run_pure]
    · cases h
  · split at h
    · obtain ⟨x, _, rfl, hx, ha⟩ := AV.relL_cons.1 ha
      obtain ⟨y, _, rfl, hy, hn⟩ := AV.relL_cons.1 ha
      rw [AV.relL_nil] at hn; subst hn
      obtain ⟨v, h1, h2⟩ := max2_ok (P := P) h hx hy
      refine ⟨v, lft (s := Builtin.max_ ts.toArray ty #[x, y]) (fun w => ?_), h2⟩
      simp only [Builtin.max_, List.foldlM, Sem.run_bind, h1 w, Result.andThen_ok, Sem.run_pure]
    · cases h
  · cases h

theorem biW_ok (hT : TyOk P T) {b : Builtin} {as : List AV} {ts : List Nat} {ty : TypeId} {cs : Array Bool} {vs : List Value} {r : AV} {h h' : H} {w : World} (hr : Rel μ h w) (e : aBiW T b as ts h = some (r, h')) (ha : AV.relL μ as vs) :
    ∃ v w' μ', (builtin b ts.toArray ty cs vs.toArray).run P w = .ok (.value v) w' ∧ r.rel μ' v ∧ Post μ h w μ' h' w' := by
  unfold aBiW at e
  split at e
  · split at e
    · rename_i p n t t2
      obtain ⟨x, _, rfl, hx, ha⟩ := AV.relL_cons.1 ha
      obtain ⟨y, _, rfl, hy, hn⟩ := AV.relL_cons.1 ha
      rw [AV.relL_nil] at hn; subst hn
      split at e
      · rename_i e' hk
        split at e
        · rename_i hc
          rw [Bool.and_eq_true, Nat.beq_eq] at hc
          have hu : (T e').kd = .int .u8 := by
            revert hc
            cases (T e').kd <;> simp only [Kd.isU8, Bool.false_eq_true, false_and, false_implies]
            rename_i i; cases i <;> simp
          obtain ⟨v, w', μ', q1, q2, q3⟩ := unStr_ok (nt := t2) (ty := ty) hT hk hu hc.2 hr e hx hy
          refine ⟨v, w', μ', ?_, q2, q3⟩
          show ((do pure (.value (← Builtin.unsafeString_ #[t, t2] ty #[x, y])) : Sem Next)).run P w = _
          simp only [Sem.run_bind, q1, Result.andThen_ok, Sem.run_pure]
        · cases e
      · cases e
    · cases e
  · cases e
end
end Go.Am
