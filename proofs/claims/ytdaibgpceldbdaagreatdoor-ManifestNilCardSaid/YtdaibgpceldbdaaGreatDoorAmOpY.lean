/- append: sound, second part. -/
import Derived.Test.YtdaibgpceldbdaaGreatDoorAmOpX
namespace Go.Am
open Go
section
variable {P : Program} {T : Ty} (hT : TyOk P T) {μ : Mu}

/-- what an operation that may write leaves -/
def WOk (P : Program) (μ : Mu) (h : H) (w : World) (s : Sem Value) (r : AV) (h' : H) : Prop :=
  ∃ v w' μ', s.run P w = .ok v w' ∧ r.rel μ' v ∧ Post μ h w μ' h' w'

theorem push_new {h h' : H} {w w' : World} {k : Blk} {n es : Nat} {r : AV} {vs : Array Value} {t : TypeId} {cap : Nat} (hr : Rel μ h w) (e : aPush k n es h = some (r, h')) (h1 : w'.os = w.os) (h2 : w'.tape = w.tape) (h3 : w'.output = w.output)
    (hh : w'.heap = w.heap.push (.cells vs t (0, 0))) (hk : BlkRel (upd μ h.next (w.heap.size, 0) vs.size) w' w.heap.size 0 k) (hc : n ≤ cap) (hsz : vs.size = cap * es) :
    ∃ μ', r.rel μ' (.slice (some ⟨w.heap.size, 0, none⟩) n cap) ∧ Post μ h w μ' h' w' := by
  unfold aPush at e
  split at e
  · rename_i i h1' hp
    injection e with e; injection e with e1 e2; subst e1 e2
    obtain ⟨rfl, hpost⟩ := push_post (s := vs.size) hr hp h1 h2 h3 hh (fun _ _ _ e => by injection e with e1; rw [e1]) hk
    refine ⟨_, ?_, hpost⟩
    simp only [AV.rel]
    exact ⟨_, _, _, _, upd_self _ _ _ _, rfl, fun _ => rfl, hc, fun h => (by cases h), Nat.le_refl _, Nat.le_refl _, by rw [upd_sz, hsz]; omega⟩
  · cases e

theorem bytes_rel {μ' : Mu} {w' : World} {b : Nat} {t : TypeId} {l : List UInt8} {zs : Array Value} {fz : Nat} {sg : Bool} (hh : w'.heap[b]? = some (.cells ((l.map fun u => Value.int .u8 u.toNat).toArray ++ zs) t (0, 0))) : BlkRel μ' w' b 0 (.bytes t fz sg (Str.of l)) := by
  refine ⟨_, (0, 0), l, hh, rfl, fun i x hx => ?_, fun o _ _ h => by omega, fun _ => .inl rfl⟩
  have hi : i < l.length := (List.getElem?_eq_some_iff.1 hx).1
  rw [Nat.zero_add, Array.getElem?_append_left (by simpa using hi)]
  simp [hx]
theorem cells_rel_new {μ' : Mu} {w' : World} {b : Nat} {mv : Bool} {t : TypeId} {as : List AV} {vs : List Value} {zs : Array Value} (hh : w'.heap[b]? = some (.cells (vs.toArray ++ zs) t (0, 0))) (hr : AV.relL μ' as vs) : BlkRel μ' w' b 0 (.cells mv t as) := by
  refine ⟨_, (0, 0), hh, fun i a ha => ?_, fun o _ _ h => by omega, fun _ => rfl⟩
  obtain ⟨v, hv, hvr⟩ := AV.relL_get hr i a ha
  have hi : i < vs.length := (List.getElem?_eq_some_iff.1 hv).1
  exact ⟨v, by rw [Nat.zero_add, Array.getElem?_append_left (by simpa using hi)]; simpa using hv, hvr⟩

theorem not_int {t2 : Nat} {d2 : TypeDesc} (hk : KdRel (T t2).kd d2) (ht2 : (T t2).kd = .str ∨ ∃ e', (T t2).kd = .slice e') : ∀ k, d2 ≠ .int k := by
  intro k hd
  subst hd
  rcases ht2 with h | ⟨e', h⟩ <;> rw [h] at hk <;> cases hk

include hT in
theorem appendB_ok {t t2 ty e : Nat} {s x r : AV} {vs vx : Value} {h h' : H} {w : World} (ht : (T t).kd = .slice e) (hk : (T e).kd = .int .u8) (hsz : (T e).size = 1) (hby : (T e).bytes = 1) (hzl : (T e).zero.length = 1)
    (ht2 : (T t2).kd = .str ∨ ∃ e', (T t2).kd = .slice e') (hr : Rel μ h w) (ee : aAppendB e s x h = some (r, h')) (hs : s.rel μ vs) (hx : x.rel μ vx) : WOk P μ h w (Builtin.append_ #[t, t2] ty #[vs, vx]) r h' := by
  obtain ⟨_, h1, rfl⟩ := und_of hT ht rfl
  obtain ⟨d2, h2, hd2⟩ := und_of (t := t2) hT rfl (by rcases ht2 with h | ⟨e', h⟩ <;> rw [h] <;> rfl)
  have hni := not_int (T := T) hd2 ht2
  obtain ⟨i, z, hi, his, hib, hiz, hzr, _⟩ := (hT e (by rw [hk]; rfl)).info
  have hz1 : z.cells.size = 1 := by have := AV.relL_length hzr; rw [hzl] at this; simpa using this
  have hzc : ∀ m, (Builtin.zeroCells z.cells m).size = m := fun m => by rw [size_zeroCells, hz1, Nat.mul_one]
  rw [hsz] at his; rw [hby] at hib
  unfold aAppendB at ee
  split at ee
  · cases ee
  · rename_i src hsrc
    obtain ⟨l, rfl, hS⟩ := srcB_ok (P := P) hr hsrc hx
    rw [← his] at hS
    have hn : (Str.of l).len = l.length := rfl
    split at ee
    · -- nil
      simp only [AV.rel] at hs; subst hs
      rw [Str.brec] at ee
      split at ee
      · rename_i c0; rw [Nat.beq_eq, hn] at c0
        injection ee with ee; injection ee with e1 e2; subst e1 e2
        rw [c0] at hS
        exact ⟨_, w, μ, append_nil_run h1 h2 hni hi hS, by simp [AV.rel], Post.refl hr⟩
      · rename_i c0; rw [Nat.beq_eq, hn] at c0
        rw [Str.brec] at ee
        split at ee
        · rename_i c1; rw [ble_iff, hn] at c1
          unfold mostRoom at c1
          obtain ⟨cap, hcap, hrun⟩ := append_new_run (ty := ty) (w := w) (base := none) (sLen := 0) (sCap := 0) (olds := #[]) h1 h2 hni hi hiz rfl (fun w' _ => rfl) hS (by omega) (by rw [hib]; omega) (by omega)
          rw [Nat.zero_add] at hrun hcap
          obtain ⟨μ', q1, q2⟩ := push_new (cap := cap) hr ee rfl rfl rfl (w' := w.drew.alloc (.cells (#[] ++ (l.map fun u => Value.int .u8 u.toNat).toArray ++ Builtin.zeroCells z.cells (cap - l.length)) e)) rfl
            (bytes_rel (zs := Builtin.zeroCells z.cells (cap - l.length)) (by show (w.heap.push _)[w.heap.size]? = _; simp)) (by omega) (by simp [hzc]; omega)
          exact ⟨_, _, μ', hrun, q1, q2⟩
        · cases ee
    · rename_i id off len cap es ex
      simp only [AV.rel] at hs
      obtain ⟨b, d, c, o, hm, rfl, ho, hc, hex, hle, hdo, hes⟩ := hs
      have hbk := hr.blk id b d hm
      split at ee
      · rename_i bt fz sg str hg
        rw [hg] at hbk
        obtain ⟨ccs, fr, lo, g1, rfl, g2, g3, g4⟩ := hbk
        have hlo : (Str.of lo).len = lo.length := rfl
        simp only [seqN_eq, Nat.add_eq, hn, hlo] at ee
        rw [Str.brec] at ee
        have hlive : (h.get id).live = true := by rw [hg]; rfl
        split at ee
        · -- in place
          rename_i c0; rw [ble_iff] at c0
          rw [Str.brec] at ee
          split at ee
          · rename_i c1; rw [Nat.beq_eq] at c1
            injection ee with ee; injection ee with e1 e2; subst e1 e2
            rw [c1] at hS
            refine ⟨_, w, μ, append_room_run (ty := ty) (w' := w) h1 h2 hni hi hS (by omega) ?_, ?_, Post.refl hr⟩
            · have : l = [] := List.length_eq_zero_iff.1 c1
              subst this; rfl
            · simp only [AV.rel]; exact ⟨b, d, c, o, hm, by simp, ho, hc, hex, hle, hdo, hes⟩
          · rename_i c1; rw [Nat.beq_eq] at c1
            simp only [Str.brec] at ee
            split at ee
            · rename_i c2; rw [ble_iff] at c2
              split at ee
              · rename_i c3; rw [ble_iff] at c3
                split at ee
                · rename_i h1' hp
                  injection ee with ee; injection ee with e1 e2; subst e1 e2
                  have ho := ho (by omega)
                  subst ho
                  have hfit : d + (off + (len + l.length)) ≤ ccs.size := by
                    have hlast := g2 (off + (len + l.length) - 1) _ (List.getElem?_eq_getElem (by omega))
                    have := (Array.getElem?_eq_some_iff.1 hlast).1; omega
                  obtain ⟨w', s1, s2, s3⟩ := storeCells_run (P := P) b (d + off + len * i.size) bt fr (l.map fun u => Value.int .u8 u.toNat) 0 w ccs g1 (by simp [his]; omega) (fun j hj hj' => by simp [his] at hj hj'; exact g3 j (by omega) (by omega)) (by
                    intro v hv; rw [List.mem_map] at hv; obtain ⟨u, _, rfl⟩ := hv; rfl)
                  refine ⟨_, w', μ, append_room_run (ty := ty) (w' := w') h1 h2 hni hi hS (by omega) s1, ?_, ?_⟩
                  · simp only [AV.rel]; exact ⟨b, d, c, _, hm, rfl, fun _ => rfl, hc, hex, c0, hdo, hes⟩
                  · refine put_post hr hp hm hlive s2.os s2.tape s2.output s2.size s2.other (same_cnt g1 s3 (put_size (by simp [his]; omega))) ?_
                    rw [Str.sub_of lo 0 (off + len) (by omega) (by omega), Str.sub_of lo (off + (len + l.length)) lo.length (by omega) (Nat.le_refl _), Str.cat_of, Str.cat_of]
                    refine ⟨_, fr, _, s3, rfl, fun j u hu => ?_, ?_, g4⟩
                    · simp only [his, Nat.mul_one, Nat.add_zero, List.length_map, List.getElem?_toArray, List.drop_zero, List.take_length] at hu ⊢
                      have hto : (ccs.toList.take (d + off + len)).length = d + off + len := by simp; omega
                      have hto2 : (lo.take (off + len)).length = off + len := by simp; omega
                      by_cases q1 : j < off + len
                      · rw [List.append_assoc, List.getElem?_append_left (by omega), List.getElem?_take, if_pos q1] at hu
                        rw [List.append_assoc, List.getElem?_append_left (by omega), List.getElem?_take, if_pos (by omega)]
                        simpa using g2 j u hu
                      · rw [List.append_assoc, List.getElem?_append_right (by omega), hto2] at hu
                        rw [List.append_assoc, List.getElem?_append_right (by omega), hto]
                        by_cases q2 : j - (off + len) < l.length
                        · rw [List.getElem?_append_left q2] at hu
                          rw [List.getElem?_append_left (by simp; omega), List.getElem?_map, show d + j - (d + off + len) = j - (off + len) from by omega, hu]; rfl
                        · rw [List.getElem?_append_right (by omega), List.getElem?_drop] at hu
                          rw [List.getElem?_append_right (by simp; omega), List.getElem?_drop]
                          have := g2 _ u hu
                          rw [← Array.getElem?_toList] at this
                          rw [← this]; congr 1; simp; omega
                    · intro q hq1 hq2
                      refine g3 q hq1 ?_
                      simp [his] at hq2; omega
                · cases ee
              · cases ee
            · cases ee
        · -- a new block, or none
          rename_i c0; rw [ble_iff] at c0
          simp only [Str.brec] at ee
          split at ee
          · rename_i c1; rw [ble_iff] at c1
            unfold mostRoom at c1
            split at ee
            · rename_i c2; rw [ble_iff] at c2
              rw [Str.sub_of lo off (off + len) (by omega) c2, Str.cat_of] at ee
              have hol : ((lo.take (off + len)).drop off).length = len := by simp; omega
              -- where it is new
              have hfirst : ∀ w', w'.heap = w.heap → (Builtin.firstCells i.size len (.slice (some ⟨b, o, none⟩) len c)).run P w' = .ok (((lo.take (off + len)).drop off).map fun u => Value.int .u8 u.toNat).toArray w' := by
                intro w' hw
                rcases Nat.eq_zero_or_pos len with h0 | h0
                · rw [first_none h0]
                  have : (lo.take (off + len)).drop off = [] := List.length_eq_zero_iff.1 (by omega)
                  rw [this]; rfl
                · have ho := ho (by omega)
                  subst ho
                  refine first_cells hw g1 (by rw [his]; simp; omega) fun j v hj => ?_
                  rw [List.getElem?_map, Option.map_eq_some_iff] at hj
                  obtain ⟨u, hu, rfl⟩ := hj
                  rw [List.getElem?_drop, List.getElem?_take] at hu
                  split at hu
                  · rw [Nat.add_assoc]; exact g2 _ _ hu
                  · cases hu
              have hnew : ∀ {q : AV} {h'' : H}, c < len + l.length → aPush (.bytes e 0 false (Str.of ((lo.take (off + len)).drop off ++ l))) (len + l.length) 1 h = some (q, h'') → WOk P μ h w (Builtin.append_ #[t, t2] ty #[.slice (some ⟨b, o, none⟩) len c, vx]) q h'' := by
                intro q h'' hlt hq
                obtain ⟨cap', hcap, hrun⟩ := append_new_run (ty := ty) (w := w) (sLen := len) (sCap := c) h1 h2 hni hi hiz rfl hfirst hS hlt (by rw [hib]; omega) (by omega)
                obtain ⟨μ', q1, q2⟩ := push_new (cap := cap') hr hq rfl rfl rfl (w' := w.drew.alloc (.cells ((((lo.take (off + len)).drop off).map fun u => Value.int .u8 u.toNat).toArray ++ (l.map fun u => Value.int .u8 u.toNat).toArray ++ Builtin.zeroCells z.cells (cap' - (len + l.length))) e)) rfl
                  (bytes_rel (zs := Builtin.zeroCells z.cells (cap' - (len + l.length))) (by show (w.heap.push _)[w.heap.size]? = _; simp)) hcap (by simp [hzc]; omega)
                exact ⟨_, _, μ', hrun, q1, q2⟩
              split at ee
              · rename_i cex
                exact hnew (by have := hex cex; omega) ee
              · -- it may be there, it may be new
                split at ee
                · rename_i c5; rw [Nat.beq_eq] at c5
                  subst c5
                  split at ee
                  · rename_i c4; rw [Nat.beq_eq] at c4
                    subst c4
                    have hput : ∃ h1', h.put id .dead = some h1' ∧ aPush (.bytes bt (fzSub fz off) sg (Str.of ((lo.take (off + len)).drop off ++ l))) (len + l.length) 1 h1' = some (r, h') ∧ ((0 < cap ∧ fz ≤ off + len) ∨ fz = 0) := by
                      split at ee
                      · rename_i c6; rw [blt_iff] at c6
                        split at ee
                        · rename_i c7; rw [ble_iff] at c7
                          split at ee
                          · exact ⟨_, ‹_›, ee, .inl ⟨c6, c7⟩⟩
                          · cases ee
                        · cases ee
                      · split at ee
                        · rename_i c7; rw [Nat.beq_eq] at c7
                          split at ee
                          · exact ⟨_, ‹_›, ee, .inr c7⟩
                          · cases ee
                        · cases ee
                    obtain ⟨h1', hp, hq, hfz⟩ := hput
                    rcases Nat.lt_or_ge c (len + l.length) with hlt | hge
                    · obtain ⟨cap', hcap, hrun⟩ := append_new_run (ty := ty) (w := w) (sLen := len) (sCap := c) h1 h2 hni hi hiz rfl hfirst hS hlt (by rw [hib]; omega) (by omega)
                      have p1 := put_post (w' := w) hr hp hm hlive rfl rfl rfl rfl (fun _ _ => rfl) (fun ccs t fr hh => ⟨ccs, t, fr, hh, rfl⟩) (k := .dead) trivial
                      obtain ⟨μ', q1, q2⟩ := push_new (cap := cap') p1.rel hq rfl rfl rfl (w' := w.drew.alloc (.cells ((((lo.take (off + len)).drop off).map fun u => Value.int .u8 u.toNat).toArray ++ (l.map fun u => Value.int .u8 u.toNat).toArray ++ Builtin.zeroCells z.cells (cap' - (len + l.length))) bt)) rfl
                        (bytes_rel (zs := Builtin.zeroCells z.cells (cap' - (len + l.length))) (by show (w.heap.push _)[w.heap.size]? = _; simp)) hcap (by simp [hzc]; omega)
                      exact ⟨_, _, μ', hrun, q1, p1.trans q2⟩
                    · have hcs := hr.cnt id b d ccs bt fr hm g1
                      have hfit : o + len + l.length ≤ ccs.size := by omega
                      have hloose : ∀ j, o + len ≤ j → j < ccs.size → ¬ (fr.1 ≤ j ∧ j < fr.2) := by
                        intro j hj hj'
                        rcases hfz with ⟨h0, h1⟩ | h0
                        · have ho := ho h0; exact g3 j (by omega) hj'
                        · exact g3 j (by omega) hj'
                      obtain ⟨w', s1, s2, s3⟩ := storeCells_run (P := P) b (o + len * i.size) bt fr (l.map fun u => Value.int .u8 u.toNat) 0 w ccs g1 (by simp [his]; omega) (fun j hj hj' => by simp [his] at hj hj'; exact hloose j (by omega) (by omega)) (by
                        intro v hv; rw [List.mem_map] at hv; obtain ⟨u, _, rfl⟩ := hv; rfl)
                      have hrun := append_room_run (ty := ty) (w' := w') h1 h2 hni hi hS hge s1
                      unfold aPush at hq
                      split at hq
                      · rename_i n h2' hpush
                        injection hq with hq; injection hq with e1 e2; subst e1 e2
                        have hblk : BlkRel (upd μ h.next (b, o) (μ.sz id)) w' b o (.bytes bt (fzSub fz off) sg (Str.of ((lo.take (off + len)).drop off ++ l))) := by
                          refine ⟨_, fr, _, s3, rfl, fun j u hu => ?_, ?_, ?_⟩
                          · simp only [his, Nat.mul_one, Nat.add_zero, List.length_map, List.getElem?_toArray]
                            have hto : (ccs.toList.take (o + len)).length = o + len := by simp; omega
                            by_cases q1 : j < len
                            · rw [List.getElem?_append_left (by omega), List.getElem?_drop, List.getElem?_take, if_pos (by omega)] at hu
                              have ho := ho (by omega)
                              subst ho
                              rw [List.append_assoc, List.getElem?_append_left (by omega), List.getElem?_take, if_pos (by omega)]
                              have := g2 _ u hu
                              rw [← Array.getElem?_toList] at this
                              rw [← this]; congr 1; omega
                            · rw [List.getElem?_append_right (by omega), hol] at hu
                              have hjl : j - len < l.length := (List.getElem?_eq_some_iff.1 hu).1
                              rw [List.append_assoc, List.getElem?_append_right (by omega), hto, List.getElem?_append_left (by simp; omega), List.getElem?_map, show o + j - (o + len) = j - len from by omega, hu]; rfl
                          · intro q hq1 hq2
                            rw [← put_size (by simp [his]; omega)] at hq2
                            have hq1 : o + (fz - off) ≤ q := Nat.le_trans (Nat.add_le_add_left (fzSub_ge fz off) o) hq1
                            rcases hfz with ⟨h0, _⟩ | h0
                            · have ho := ho h0; exact g3 q (by omega) hq2
                            · exact g3 q (by omega) hq2
                          · intro hsg
                            rcases g4 hsg with h0 | h0
                            · exact .inl h0
                            · right
                              refine ⟨fzSub_pos h0.1, Nat.le_trans ?_ (Nat.add_le_add_left (fzSub_ge fz off) o)⟩
                              have h0 := h0.2
                              rcases hfz with ⟨h00, _⟩ | h00
                              · have ho := ho h00; omega
                              · omega
                        obtain ⟨rfl, hpost⟩ := move_post hr hp hpush hm hlive s2 (same_cnt g1 s3 (put_size (by simp [his]; omega))) hblk
                        refine ⟨_, w', _, hrun, ?_, hpost⟩
                        simp only [AV.rel]
                        exact ⟨b, o, c, o, upd_self _ _ _ _, rfl, fun _ => rfl, hge, fun h => (by cases h), Nat.le_refl _, Nat.le_refl _, by rw [upd_sz]; omega⟩
                      · cases hq
                  · cases ee
                · cases ee
            · cases ee
          · cases ee
      · cases ee
    · cases ee
end
end Go.Am
