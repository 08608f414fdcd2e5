/- append of cells: sound. -/
import Derived.Test.YtdaibgpceldbdaaGreatDoorAmOpY
namespace Go.Am
open Go
section
variable {P : Program} {T : Ty} (hT : TyOk P T) {μ : Mu}

theorem allOne_rel {as : List AV} {vs : List Value} (h : allOne as = true) (hr : AV.relL μ as vs) : ∀ v ∈ vs, v.oneCell' = true := by
  intro v hv
  obtain ⟨j, hj⟩ := List.getElem?_of_mem hv
  have hj' : j < as.length := by have := (List.getElem?_eq_some_iff.1 hj).1; have := AV.relL_length hr; omega
  obtain ⟨v', hv', hvr⟩ := AV.relL_get hr j _ (List.getElem?_eq_getElem hj')
  rw [hj] at hv'; injection hv' with hv'; subst hv'
  exact one_rel (allOne_iff h _ (List.getElem_mem hj')) hvr

include hT in
theorem appendC_ok {t t2 ty e : Nat} {s x r : AV} {vs vx : Value} {h h' : H} {w : World} (ht : (T t).kd = .slice e) (hk : (T e).kd.known = true) (hsz0 : (T e).size ≠ 0) (hby : 0 < (T e).bytes) (hzl : (T e).zero.length = (T e).size)
    (ht2 : (T t2).kd = .str ∨ ∃ e', (T t2).kd = .slice e') (hr : Rel μ h w) (ee : aAppendC e (T e).size (T e).bytes s x h = some (r, h')) (hs : s.rel μ vs) (hx : x.rel μ vx) : WOk P μ h w (Builtin.append_ #[t, t2] ty #[vs, vx]) r h' := by
  obtain ⟨_, h1, rfl⟩ := und_of hT ht rfl
  obtain ⟨d2, h2, hd2⟩ := und_of (t := t2) hT rfl (by rcases ht2 with h | ⟨e', h⟩ <;> rw [h] <;> rfl)
  have hni := not_int (T := T) hd2 ht2
  obtain ⟨i, z, hi, his, hib, hiz, hzr, _⟩ := (hT e hk).info
  generalize hS0 : (T e).size = S at *
  generalize hB0 : (T e).bytes = B at *
  have hz1 : z.cells.size = S := by have := AV.relL_length hzr; rw [hzl] at this; simpa using this
  have hzc : ∀ m, (Builtin.zeroCells z.cells m).size = m * S := fun m => by rw [size_zeroCells, hz1]
  unfold aAppendC at ee
  split at ee
  · cases ee
  · rename_i n src hsrc
    obtain ⟨news, hnr, hS⟩ := srcC_ok (P := P) hr hsrc hx
    have hnl : news.length = n * S := by have := hS.size; simpa using this
    have hsl : src.length = n * S := by rw [← hnl]; exact (AV.relL_length hnr).symm
    rw [← his] at hS
    have room : ∀ m : Nat, m * B ≤ 140737488355328 → m ≤ 140737488355328 := fun m hm => Nat.le_trans (by simpa using Nat.mul_le_mul_left m hby) hm
    split at ee
    · simp only [AV.rel] at hs; subst hs
      rw [Str.brec] at ee
      split at ee
      · rename_i c0; rw [Nat.beq_eq] at c0
        injection ee with ee; injection ee with e1 e2; subst e1 e2
        rw [c0] at hS
        exact ⟨_, w, μ, append_nil_run h1 h2 hni hi hS, by simp [AV.rel], Post.refl hr⟩
      · rename_i c0; rw [Nat.beq_eq] at c0
        rw [Str.brec] at ee
        split at ee
        · rename_i c1; rw [ble_iff] at c1
          have c1 : n * B ≤ 140737488355328 := c1
          have := room n c1
          obtain ⟨cap, hcap, hrun⟩ := append_new_run (ty := ty) (w := w) (base := none) (sLen := 0) (sCap := 0) (olds := #[]) h1 h2 hni hi hiz rfl (fun w' _ => rfl) hS (by omega) (by rw [hib, Nat.zero_add]; exact c1) (by omega)
          rw [Nat.zero_add] at hrun hcap
          obtain ⟨μ', q1, q2⟩ := push_new (cap := cap) hr ee rfl rfl rfl (w' := w.drew.alloc (.cells (#[] ++ news.toArray ++ Builtin.zeroCells z.cells (cap - n)) e)) rfl
            (cells_rel_new (zs := Builtin.zeroCells z.cells (cap - n)) (by show (w.heap.push _)[w.heap.size]? = _; simp) (AV.relL_mono (upd_le _ _ fun p hm => by have := (hr.dom _ p.1 p.2 hm).1; omega) _ _ hnr)) (by omega)
            (by simp only [Array.size_append, hzc, List.size_toArray, hnl, List.length_nil, Nat.zero_add]; rw [← Nat.add_mul]; congr 1; omega)
          exact ⟨_, _, μ', hrun, q1, q2⟩
        · cases ee
    · rename_i id off len cap es ex
      simp only [AV.rel] at hs
      obtain ⟨b, d, c, o, hm, rfl, ho, hc, hex, hle, hdo, hes⟩ := hs
      have hbk := hr.blk id b d hm
      split at ee
      · rename_i bt cs hg
        rw [hg] at hbk
        obtain ⟨ccs, fr, g1, g2, g3, gmv⟩ := hbk
        simp only [seqN_eq, Nat.add_eq, Nat.mul_eq] at ee
        rw [Str.brec] at ee
        have hlive : (h.get id).live = true := by rw [hg]; rfl
        split at ee
        · rename_i c0; rw [ble_iff] at c0
          rw [Str.brec] at ee
          split at ee
          · rename_i c1; rw [Nat.beq_eq] at c1
            injection ee with ee; injection ee with e1 e2; subst e1 e2
            rw [c1] at hS
            refine ⟨_, w, μ, append_room_run (ty := ty) (w' := w) h1 h2 hni hi hS (by omega) ?_, ?_, Post.refl hr⟩
            · have : news = [] := List.length_eq_zero_iff.1 (by rw [hnl, c1, Nat.zero_mul])
              subst this; rfl
            · simp only [AV.rel]; exact ⟨b, d, c, o, hm, by simp, ho, hc, hex, hle, hdo, hes⟩
          · rename_i c1; rw [Nat.beq_eq] at c1
            simp only [Str.brec] at ee
            split at ee
            · rename_i c2
              split at ee
              · rename_i cs' hp'
                split at ee
                · rename_i h1' hp
                  injection ee with ee; injection ee with e1 e2; subst e1 e2
                  have ho := ho (by omega)
                  subst ho
                  have hpl : off + len * S + src.length ≤ cs.length := by
                    rw [lputAt_eq] at hp'; split at hp'
                    · assumption
                    · cases hp'
                  have hns : 0 < n * S := Nat.mul_pos (by omega) (by omega)
                  have hfit : d + (off + len * S) + n * S ≤ ccs.size := by
                    obtain ⟨v, hv, _⟩ := g2 (off + len * S + n * S - 1) _ (List.getElem?_eq_getElem (by omega))
                    have := (Array.getElem?_eq_some_iff.1 hv).1; omega
                  obtain ⟨w', s1, s2, s3⟩ := storeCells_run (P := P) b (d + (off + len * S)) bt fr news 0 w ccs g1 (by omega) (fun j hj hj' => g3 j (by omega) (by omega)) (allOne_rel c2 hnr)
                  have s1' : (storeCells ⟨b, d + off + len * i.size, none⟩ news).run P w = .ok () w' := by rw [his, Nat.add_assoc]; exact s1
                  refine ⟨_, w', μ, append_room_run (ty := ty) (w' := w') h1 h2 hni hi hS (by omega) s1', ?_, ?_⟩
                  · simp only [AV.rel]; exact ⟨b, d, c, _, hm, rfl, fun _ => rfl, hc, hex, c0, hdo, hes⟩
                  · refine put_post hr hp hm hlive s2.os s2.tape s2.output s2.size s2.other (same_cnt g1 s3 (put_size (by omega))) ?_
                    exact cells_put hp' g2 hnr g3 (by simpa using s3) (by omega) gmv
                · cases ee
              · cases ee
            · cases ee
        · rename_i c0; rw [ble_iff] at c0
          simp only [Str.brec] at ee
          split at ee
          · rename_i c1; rw [ble_iff] at c1
            have c1 : (len + n) * B ≤ 140737488355328 := c1
            have hroom := room _ c1
            simp only [ltake_eq, ldrop_eq, lapp_eq] at ee
            split at ee
            · rename_i old hold
              split at hold
              · rename_i hol
                injection hold with hold
                have hol' : old.length = len * S := by subst hold; rw [List.length_take]; omega
                let olds := (List.range (len * S)).map fun j => ccs[d + off + j]?.getD undef
                have hvl : olds.length = len * S := by simp [olds]
                have key : ∀ j a, old[j]? = some a → ∃ v, olds[j]? = some v ∧ ccs[d + off + j]? = some v ∧ AV.rel μ a v := by
                  intro j a hj
                  have hjl : j < len * S := by have := (List.getElem?_eq_some_iff.1 hj).1; omega
                  subst hold
                  rw [List.getElem?_take, if_pos hjl, List.getElem?_drop] at hj
                  obtain ⟨v, hv, hvr⟩ := g2 _ _ hj
                  rw [← Nat.add_assoc] at hv
                  exact ⟨v, by simp [olds, hjl, hv], hv, hvr⟩
                have holr : AV.relL μ old olds := AV.relL_of_get (by omega) fun j a hj => let ⟨v, hv, _, hvr⟩ := key j a hj; ⟨v, hv, hvr⟩
                have hcell : ∀ j v, 0 < cap → olds[j]? = some v → ccs[o + j]? = some v := by
                  intro j v hcp hj
                  have hjl : j < len * S := by have := (List.getElem?_eq_some_iff.1 hj).1; omega
                  obtain ⟨v', h3, h4, _⟩ := key j _ (List.getElem?_eq_getElem (by omega))
                  rw [hj] at h3; injection h3 with h3; subst h3
                  rw [ho hcp]; exact h4
                have hfirst : ∀ w', w'.heap = w.heap → (Builtin.firstCells i.size len (.slice (some ⟨b, o, none⟩) len c)).run P w' = .ok olds.toArray w' := by
                  intro w' hw
                  rcases Nat.eq_zero_or_pos len with h0 | h0
                  · rw [first_none h0]; simp [olds, h0]
                  · exact first_cells hw g1 (by rw [his]; exact hvl) fun j v hj => hcell j v (by omega) hj
                have hboth : AV.relL μ (old ++ src) (olds ++ news) := AV.relL_append holr hnr
                have hnew : ∀ {h0 : H} {q : AV} {h'' : H} {mv : Bool}, Post μ h w μ h0 w → c < len + n → aPush (.cells mv e (old ++ src)) (len + n) S h0 = some (q, h'') → WOk P μ h w (Builtin.append_ #[t, t2] ty #[.slice (some ⟨b, o, none⟩) len c, vx]) q h'' := by
                  intro h0 q h'' mv p1 hlt hq
                  obtain ⟨cap', hcap, hrun⟩ := append_new_run (ty := ty) (w := w) (sLen := len) (sCap := c) h1 h2 hni hi hiz rfl hfirst hS hlt (by rw [hib]; exact c1) (by omega)
                  obtain ⟨μ', q1, q2⟩ := push_new (cap := cap') p1.rel hq rfl rfl rfl (w' := w.drew.alloc (.cells (olds.toArray ++ news.toArray ++ Builtin.zeroCells z.cells (cap' - (len + n))) e)) rfl
                    (cells_rel_new (vs := olds ++ news) (zs := Builtin.zeroCells z.cells (cap' - (len + n))) (by show (w.heap.push _)[w.heap.size]? = _; simp) (AV.relL_mono (upd_le _ _ fun p hm => by have := (p1.rel.dom _ p.1 p.2 hm).1; omega) _ _ hboth)) hcap
                    (by simp only [Array.size_append, hzc, List.size_toArray, hnl, hvl]; rw [← Nat.add_mul, ← Nat.add_mul]; congr 1; omega)
                  exact ⟨_, _, μ', hrun, q1, p1.trans q2⟩
                split at ee
                · rename_i cex
                  exact hnew (Post.refl hr) (by have := hex cex; omega) ee
                · split at ee
                  · rename_i c5; rw [Nat.beq_eq] at c5
                    subst c5
                    split at ee
                    · rename_i c4; rw [Nat.beq_eq] at c4
                      subst c4
                      split at ee
                      · rename_i c6
                        split at ee
                        · rename_i h1' hp
                          rcases Nat.lt_or_ge c (len + n) with hlt | hge
                          · exact hnew (put_post (w' := w) hr hp hm hlive rfl rfl rfl rfl (fun _ _ => rfl) (fun ccs t fr hh => ⟨ccs, t, fr, hh, rfl⟩) (k := .dead) trivial) hlt ee
                          · have hcs := hr.cnt id b d ccs bt fr hm g1
                            have hmul : (len + n) * es ≤ c * es := Nat.mul_le_mul_right _ hge
                            rw [Nat.add_mul] at hmul
                            have hfit : o + len * es + n * es ≤ ccs.size := by omega
                            obtain ⟨w', s1, s2, s3⟩ := storeCells_run (P := P) b (o + len * es) bt fr news 0 w ccs g1 (by omega) (fun j hj hj' => g3 j (by omega) (by omega)) (allOne_rel c6 hnr)
                            have s1' : (storeCells ⟨b, o + len * i.size, none⟩ news).run P w = .ok () w' := by rw [his]; exact s1
                            have hrun := append_room_run (ty := ty) (w' := w') h1 h2 hni hi hS hge s1'
                            unfold aPush at ee
                            split at ee
                            · rename_i m h2' hpush
                              injection ee with ee; injection ee with e1 e2; subst e1 e2
                              have hle' : Le μ (upd μ h.next (b, o) (μ.sz id)) := upd_le _ _ fun p hm => by have := (hr.dom _ p.1 p.2 hm).1; omega
                              have hblk : BlkRel (upd μ h.next (b, o) (μ.sz id)) w' b o (.cells true bt (old ++ src)) := by
                                refine ⟨_, fr, s3, fun j a ha => ?_, ?_, fun h => by cases h⟩
                                · simp only [Nat.add_zero, List.getElem?_toArray]
                                  have hto : (ccs.toList.take (o + len * es)).length = o + len * es := by simp; omega
                                  by_cases q1 : j < len * es
                                  · rw [List.getElem?_append_left (by omega)] at ha
                                    obtain ⟨v, hv, _, hvr⟩ := key j a ha
                                    have hcp : 0 < cap := by
                                      rcases Nat.eq_zero_or_pos len with h0 | h0
                                      · rw [h0, Nat.zero_mul] at q1; omega
                                      · omega
                                    refine ⟨v, ?_, AV.rel_mono hle' a v hvr⟩
                                    rw [List.append_assoc, List.getElem?_append_left (by omega), List.getElem?_take, if_pos (by omega), Array.getElem?_toList]
                                    exact hcell j v hcp hv
                                  · rw [List.getElem?_append_right (by omega), hol'] at ha
                                    obtain ⟨v, hv, hvr⟩ := AV.relL_get hnr _ _ ha
                                    have hjl : j - len * es < news.length := (List.getElem?_eq_some_iff.1 hv).1
                                    refine ⟨v, ?_, AV.rel_mono hle' a v hvr⟩
                                    rw [List.append_assoc, List.getElem?_append_right (by omega), hto, List.getElem?_append_left (by omega), show o + j - (o + len * es) = j - len * es from by omega, hv]
                                · intro q hq1 hq2
                                  rw [← put_size (by omega)] at hq2
                                  exact g3 q (by omega) hq2
                              obtain ⟨rfl, hpost⟩ := move_post hr hp hpush hm hlive s2 (same_cnt g1 s3 (put_size (by omega))) hblk
                              refine ⟨_, w', _, hrun, ?_, hpost⟩
                              simp only [AV.rel]
                              exact ⟨b, o, c, o, upd_self _ _ _ _, rfl, fun _ => rfl, hge, fun h => (by cases h), Nat.le_refl _, Nat.le_refl _, by rw [upd_sz]; omega⟩
                            · cases ee
                        · cases ee
                      · cases ee
                    · cases ee
                  · cases ee
              · cases hold
            · cases ee
          · cases ee
      · cases ee
    · cases ee
end
end Go.Am
