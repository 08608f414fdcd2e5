/- What a call made and nobody names any more may be given up: summaries whose heap does not hang on what was thrown away. -/
import Derived.Test.YtdaibgpceldbdaaGreatDoorAmShal
namespace Go.Am
open Go
theorem Shown.resort {es es2 : List (AV × AV)} {es' : List (AV × AV × Nat)} {clock : Nat} (s : Shown es es' clock) (p : es.Perm es2) : Shown es2 es' clock :=
  ⟨s.perm.trans p, (p.map (·.1)).nodup_iff.1 s.keys, s.stamps, s.low⟩
/-- as h1, but that some blocks from place n on are given up, and some maps told in another order -/
structure Deader (n : Nat) (h1 h2 : H) : Prop where
  next : h2.next = h1.next
  base : h2.base = h1.base
  low : ∀ id, id < n → h2.get id = h1.get id
  high : ∀ id, n ≤ id → h2.get id = h1.get id ∨ h2.get id = .dead ∨ ∃ es es2, h1.get id = .smap es ∧ h2.get id = .smap es2 ∧ es.Perm es2
theorem Deader.refl (n : Nat) (h : H) : Deader n h h := ⟨rfl, rfl, fun _ _ => rfl, fun _ _ => .inl rfl⟩
theorem Deader.any {n : Nat} {h1 h2 : H} (d : Deader n h1 h2) (id : Nat) : h2.get id = h1.get id ∨ h2.get id = .dead ∨ ∃ es es2, h1.get id = .smap es ∧ h2.get id = .smap es2 ∧ es.Perm es2 := by
  rcases Nat.lt_or_ge id n with h | h
  · exact .inl (d.low id h)
  · exact d.high id h
theorem Deader.live {n : Nat} {h1 h2 : H} (d : Deader n h1 h2) {id : Nat} (h : (h2.get id).live = true) : (h1.get id).live = true := by
  rcases d.any id with e | e | ⟨es, es2, e, _⟩
  · rw [← e]; exact h
  · rw [e] at h; cases h
  · rw [e]; rfl
theorem Post.deader {μ μ' : Mu} {h h1 h2 : H} {w w' : World} (hR : Rel μ h w) (p : Post μ h w μ' h1 w') (d : Deader h.next h1 h2) : Post μ h w μ' h2 w' := by
  refine ⟨p.ext, ⟨?_, fun id b e hm => ?_, fun i j b e f hi hj li lj => p.rel.inj i j b e f hi hj (d.live li) (d.live lj), fun id b e hm => ?_, p.rel.cnt⟩, p.frame, ⟨?_, ?_, fun id hi hm => ?_, fun id hi => ?_, fun id hi hl => p.grows.dead id hi (d.live hl)⟩, fun id b e hi hm hb hl => p.fresh id b e hi hm hb (d.live hl)⟩
  · exact ⟨by rw [d.base, d.next]; exact p.rel.wf.low⟩
  · rw [d.next]; exact p.rel.dom id b e hm
  · rcases d.any id with q | q | ⟨es, es2, q1, q2, q3⟩
    · rw [q]; exact p.rel.blk id b e hm
    · rw [q]; trivial
    · have hb := p.rel.blk id b e hm
      rw [q1] at hb
      obtain ⟨h0, es', clock, ces, r1, r2, r3⟩ := hb
      rw [q2]; exact ⟨h0, es', clock, ces, r1, r2, r3.resort q3⟩
  · rw [d.next]; exact p.grows.next
  · rw [d.base]; exact p.grows.base
  · rw [d.low id hi]; exact p.grows.keep id hi hm
  · rw [d.low id (Nat.lt_of_lt_of_le hi hR.wf.low)]; exact p.grows.low id hi
theorem FunOk.deader {P : Program} {f : FuncId} {g g' : Fun} (hg : FunOk P f g) (hi : ∀ as h k, h.Wf → g' as h k → g as h fun r h1 => ∃ h2, Deader h.next h1 h2 ∧ k r h2) : FunOk P f g' := by
  intro as h Q e μ w args hR ha
  rcases hg as h _ (hi as h Q hR.wf e) μ w args hR ha with ⟨v, w', μ', r, h1, q1, q2, q3, h2, q4, q5⟩ | ⟨q1, q2⟩
  · exact .inl ⟨v, w', μ', r, h2, q1, q2, q3.deader hR q4, q5⟩
  · exact .inr ⟨q1, Calls.mono q2 fun e w' ⟨v, μ', r, h1, p1, p2, p3, h2, p4, p5⟩ => ⟨v, μ', r, h2, p1, p2, p3.deader hR p4, p5⟩⟩
/-- what follows may be asked less -/
theorem FunOk.up {P : Program} {f : FuncId} {g g' : Fun} (hg : FunOk P f g) (hi : ∀ as h k, g' as h k → ∃ K, g as h K ∧ ∀ r h', K r h' → k r h') : FunOk P f g' := by
  intro as h Q e μ w args hR ha
  obtain ⟨K, e, hK⟩ := hi as h Q e
  rcases hg as h K e μ w args hR ha with ⟨v, w', μ', r, h1, q1, q2, q3, q4⟩ | ⟨q1, q2⟩
  · exact .inl ⟨v, w', μ', r, h1, q1, q2, q3, hK _ _ q4⟩
  · exact .inr ⟨q1, Calls.mono q2 fun e w' ⟨v, μ', r, h1, p1, p2, p3, p4⟩ => ⟨v, μ', r, h1, p1, p2, p3, hK _ _ p4⟩⟩
end Go.Am
