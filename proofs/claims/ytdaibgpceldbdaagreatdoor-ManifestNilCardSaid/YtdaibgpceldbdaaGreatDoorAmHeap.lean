/- Steps on the heap: a new block, a written block, a draw. -/
import Derived.Test.YtdaibgpceldbdaaGreatDoorAmRel
namespace Go.Am
open Go

def upd (μ : Mu) (n : Nat) (p : Nat × Nat) (s : Nat) : Mu := ⟨fun id => if id = n then some p else μ id, fun id => if id = n then s else μ.sz id⟩
theorem upd_self (μ : Mu) (n : Nat) (p : Nat × Nat) (s : Nat) : upd μ n p s n = some p := if_pos rfl
theorem upd_ne (μ : Mu) {n id : Nat} (p : Nat × Nat) (s : Nat) (h : id ≠ n) : upd μ n p s id = μ id := if_neg h
theorem upd_sz (μ : Mu) (n : Nat) (p : Nat × Nat) (s : Nat) : (upd μ n p s).sz n = s := if_pos rfl
theorem upd_sz_ne (μ : Mu) {n id : Nat} (p : Nat × Nat) (s : Nat) (h : id ≠ n) : (upd μ n p s).sz id = μ.sz id := if_neg h
theorem upd_le {μ : Mu} {n : Nat} (p : Nat × Nat) (s : Nat) (h : ∀ q, μ n = some q → False) : Le μ (upd μ n p s) := fun id q hq => by
  have : id ≠ n := fun e => by subst e; exact h q hq
  exact ⟨by rw [upd_ne _ _ _ this]; exact hq, upd_sz_ne _ _ _ this⟩

/-- a world that differs in its count of draws alone -/
theorem Rel.congr {μ : Mu} {h : H} {w w' : World} (hr : Rel μ h w) (hh : w'.heap = w.heap) : Rel μ h w' :=
  ⟨hr.wf, fun id b d hm => by rw [hh]; exact hr.dom id b d hm, hr.inj, fun id b d hm => (hr.blk id b d hm).mono (Le.refl _) (fun _ => by rw [hh]), fun id b d ccs t fr hm hw => hr.cnt id b d ccs t fr hm (by rw [← hh]; exact hw)⟩
theorem Post.drew {μ : Mu} {h : H} {w : World} (hr : Rel μ h w) (n : Nat) : Post μ h w μ h { w with drawn := n } :=
  ⟨fun _ _ => ⟨rfl, rfl⟩, hr.congr rfl, ⟨rfl, rfl, rfl, Nat.le_refl _, fun _ _ _ => rfl⟩, Grows.refl _ _, fun id b d hi hm => absurd (hr.dom id b d hm).1 (by omega)⟩

/-- a new block on both sides -/
theorem push_post {μ : Mu} {h h' : H} {w w' : World} {n s : Nat} {k : Blk} {o : Obj} (hr : Rel μ h w) (hp : h.push k = some (n, h')) (h1 : w'.os = w.os) (h2 : w'.tape = w.tape) (h3 : w'.output = w.output)
    (hh : w'.heap = w.heap.push o) (hsz : ∀ ccs t fr, o = .cells ccs t fr → ccs.size = s) (hk : BlkRel (upd μ h.next (w.heap.size, 0) s) w' w.heap.size 0 k) : n = h.next ∧ Post μ h w (upd μ h.next (w.heap.size, 0) s) h' w' := by
  obtain ⟨rfl, e1, e2, wf, hg⟩ := H.push_some hp hr.wf
  have hlow : ∀ b, b < w.heap.size → w'.heap[b]? = w.heap[b]? := fun b hb => by rw [hh, Array.getElem?_push, if_neg (by omega)]
  have hmono : Le μ (upd μ h.next (w.heap.size, 0) s) := upd_le _ _ fun p hm => by
    have := (hr.dom _ p.1 p.2 hm).1; omega
  refine ⟨rfl, fun id hi => ⟨upd_ne _ _ _ (by omega), upd_sz_ne _ _ _ (by omega)⟩, ⟨wf, ?_, ?_, ?_, ?_⟩, ⟨h1, h2, h3, by rw [hh]; simp, fun b hb _ => hlow b hb⟩, ⟨by omega, e2, fun id hi _ => ?_, fun id hi => ?_, fun id hi hl => ?_⟩, ?_⟩
  · intro id b d hm
    by_cases hid : id = h.next
    · subst hid; rw [upd_self] at hm; injection hm with hm; injection hm with hb hd; subst hb hd
      exact ⟨by omega, by rw [hh]; simp⟩
    · rw [upd_ne _ _ _ hid] at hm
      have := hr.dom id b d hm
      exact ⟨by omega, by rw [hh]; simp; omega⟩
  · intro i j b d e hi hj hli hlj
    have old : ∀ i, i ≠ h.next → ∀ b d, upd μ h.next (w.heap.size, 0) s i = some (b, d) → b < w.heap.size := fun i hi b d hm => by
      rw [upd_ne _ _ _ hi] at hm; exact (hr.dom i b d hm).2
    by_cases e1 : i = h.next <;> by_cases e2 : j = h.next
    · rw [e1, e2]
    · subst e1; rw [upd_self] at hi; injection hi with hi; injection hi with hb; have := old j e2 b e hj; omega
    · subst e2; rw [upd_self] at hj; injection hj with hj; injection hj with hb; have := old i e1 b d hi; omega
    · rw [upd_ne _ _ _ e1] at hi; rw [upd_ne _ _ _ e2] at hj
      rw [hg, if_neg e1] at hli; rw [hg, if_neg e2] at hlj
      exact hr.inj i j b d e hi hj hli hlj
  · intro id b d hm
    rw [hg]
    by_cases hid : id = h.next
    · subst hid; rw [upd_self] at hm; injection hm with hm; injection hm with hb hd; subst hb hd
      rw [if_pos rfl]; exact hk
    · rw [if_neg hid]
      rw [upd_ne _ _ _ hid] at hm
      exact (hr.blk id b d hm).mono hmono fun _ => hlow b (hr.dom id b d hm).2
  · intro id b d ccs t fr hm hw
    by_cases hid : id = h.next
    · subst hid; rw [upd_self] at hm; injection hm with hm; injection hm with hb hd; subst hb hd
      rw [upd_sz]
      rw [hh] at hw; simp at hw; exact hsz _ _ _ hw
    · rw [upd_ne _ _ _ hid] at hm; rw [upd_sz_ne _ _ _ hid]
      exact hr.cnt id b d ccs t fr hm (by rw [← hlow b (hr.dom id b d hm).2]; exact hw)
  · rw [hg, if_neg (by omega)]
  · rw [hg, if_neg]; have := hr.wf.low; omega
  · rw [hg, if_neg (by omega)] at hl; exact hl
  · intro id b d hi hm hb hl
    by_cases hid : id = h.next
    · subst hid; rw [upd_self] at hm; injection hm with hm; injection hm with hb' hd; omega
    · rw [upd_ne _ _ _ hid] at hm; exact absurd (hr.dom id b d hm).1 (by omega)

/-- an old block is written on both sides -/
theorem put_post {μ : Mu} {h h' : H} {w w' : World} {id b d : Nat} {k : Blk} (hr : Rel μ h w) (hp : h.put id k = some h') (hm : μ id = some (b, d)) (hl : (h.get id).live = true)
    (h1 : w'.os = w.os) (h2 : w'.tape = w.tape) (h3 : w'.output = w.output) (hs : w'.heap.size = w.heap.size) (hh : ∀ c, c ≠ b → w'.heap[c]? = w.heap[c]?) (hc : ∀ ccs t fr, w'.heap[b]? = some (.cells ccs t fr) → ∃ ccs' t' fr', w.heap[b]? = some (.cells ccs' t' fr') ∧ ccs'.size = ccs.size) (hk : BlkRel μ w' b d k) : Post μ h w μ h' w' := by
  obtain ⟨hi, hb, e1, e2, wf, hg⟩ := H.put_some hp hr.wf
  have hlive : ∀ i, (h'.get i).live = true → (h.get i).live = true := fun i hli => by
    by_cases e : i = id
    · subst e; exact hl
    · rwa [hg, if_neg e] at hli
  refine ⟨fun _ _ => ⟨rfl, rfl⟩, ⟨wf, ?_, ?_, ?_, ?_⟩, ⟨h1, h2, h3, by omega, fun c hc hn => hh c ?_⟩, ⟨by omega, e2, fun i hi' hmi => ?_, fun i hi' => ?_, fun i _ hli => hlive i hli⟩, ?_⟩
  · intro i c e hmi; have := hr.dom i c e hmi; exact ⟨by omega, by omega⟩
  · intro i j c d' e hmi hmj hli hlj
    exact hr.inj i j c d' e hmi hmj (hlive i hli) (hlive j hlj)
  · intro i c e hmi
    rw [hg]
    by_cases ei : i = id
    · subst ei; rw [if_pos rfl]; rw [hm] at hmi; injection hmi with hmi; injection hmi with ec ee; subst ec ee; exact hk
    · rw [if_neg ei]
      cases hli : (h.get i).live with
      | false =>
        have : h.get i = .dead := by revert hli; cases h.get i <;> simp [Blk.live]
        rw [this]; trivial
      | true =>
        exact (hr.blk i c e hmi).mono (Le.refl _) fun _ => hh c (fun ec => by
          subst ec; exact ei (hr.inj i id c e d hmi hm hli hl))
  · intro i c e ccs t fr hmi hw
    by_cases ec : c = b
    · subst ec
      obtain ⟨ccs', t', fr', q1, q2⟩ := hc ccs t fr hw
      rw [← q2]; exact hr.cnt i c e _ _ _ hmi q1
    · exact hr.cnt i c e ccs t fr hmi (by rw [← hh c ec]; exact hw)
  · intro ec; subst ec
    have := hn id d hb hm; rw [hl] at this; cases this
  · rw [hg, if_neg]; intro e; subst e; rw [hm] at hmi; cases hmi
  · rw [hg, if_neg]; omega
  · intro i c e hi' hmi; exact absurd (hr.dom i c e hmi).1 (by omega)
/-- an old block is told in another way -/
theorem relabel {μ : Mu} {h h' : H} {w : World} {id b d : Nat} {k : Blk} (hr : Rel μ h w) (hp : h.put id k = some h') (hm : μ id = some (b, d)) (hl : (h.get id).live = true) (hk : BlkRel μ w b d k) : Post μ h w μ h' w :=
  put_post hr hp hm hl rfl rfl rfl rfl (fun _ _ => rfl) (fun ccs t fr he => ⟨ccs, t, fr, he, rfl⟩) hk
end Go.Am
