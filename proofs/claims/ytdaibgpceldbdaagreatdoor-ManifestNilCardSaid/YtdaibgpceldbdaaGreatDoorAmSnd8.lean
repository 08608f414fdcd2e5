/- A region that draws its order: every operation that may go next keeps the invariant; the end. -/
import Derived.Test.YtdaibgpceldbdaaGreatDoorAmSnd7
namespace Go.Am
open Go
section
variable {P : Program} {T : Ty} {G : Gam} {ops : Array Oper} {M π : List Nat} {env0 : List AV} {h0 : H} {X : Nat → Rec} {q : Nat} (tr : Trk T ops.toList π env0 h0 X q) (od : Ord T ops.toList M π)
  (an : ∀ j i, (M.getD j 0).testBit i = true → AncOf ops.toList i j)
variable {μ0 : Mu} {w0 : World} {a0 : Act}

theorem pair_cases {T : Ty} {L : List Oper} {M π : List Nat} {i j : Nat} {oi oj : Oper} (h : pairOk T L M π i j oi oj = true) (hne : i ≠ j) :
    ((M.getD j 0).testBit i = true ∧ π.idxOf i < π.idxOf j) ∨ ((M.getD i 0).testBit j = true ∧ π.idxOf j < π.idxOf i) ∨
    ((∀ t, oi.dst = some t → t ∉ looks L oj ∧ oj.dst ≠ some t) ∧ ¬ (opC T oi.op = 3 ∧ opC T oj.op = 3) ∧ ¬ (opC T oi.op = 3 ∧ π.idxOf i < π.idxOf j)) := by
  unfold pairOk ahead at h
  simp only [Bool.or_eq_true, beq_iff_eq, Bool.and_eq_true, blt_iff, Bool.not_eq_true', Bool.and_eq_false_iff] at h
  rcases h with ((h | h) | h) | ⟨⟨h1, h2⟩, h3⟩
  · exact absurd h hne
  · exact .inl h
  · exact .inr (.inl h)
  · refine .inr (.inr ⟨fun t ht => ?_, fun ⟨c1, c2⟩ => ?_, fun ⟨c1, c2⟩ => ?_⟩)
    · rw [ht] at h1
      simp only [Bool.or_eq_false_iff, List.contains_eq_mem, decide_eq_false_iff_not, beq_eq_false_iff_ne] at h1
      exact h1
    · rw [c1, c2] at h2; simp at h2
    · rcases h3 with h3 | h3
      · rw [c1] at h3; simp at h3
      · have := (blt_iff _ _).2 c2; rw [this] at h3; cases h3

include tr od an in
/-- of one that may go next, and any other: which of them was done -/
theorem done_iff {D : Nat → Prop} {a : Act} {w : World} {μ : Mu} (iv : RInv T ops.toList.length π env0 h0 X μ0 w0 a0 D q a w μ) (hdown : Down ops.toList D) {p : Nat} (hp : p < ops.toList.length) (hnD : ¬ D (X p).i)
    (hdeps : ∀ d ∈ deps (X p).o, D d) {p1 t : Nat} (hp1 : p1 < ops.toList.length) (hd : (X p1).o.dst = some t) (hl : t ∈ looks ops.toList (X p).o ∨ (X p).o.dst = some t) (hne : p1 ≠ p) : p1 < p ↔ (p1 < q ∧ D (X p1).i) := by
  have e1 := idx_pos tr od hp1
  have e := idx_pos tr od hp
  have l1 := (tr.idx p1 (by rw [od.len]; exact hp1)).2
  have l := (tr.idx p (by rw [od.len]; exact hp)).2
  have hine : (X p1).i ≠ (X p).i := fun h => hne (idx_inj tr od hp1 hp h)
  rcases pair_cases (od.pair _ _ _ _ l1 l) hine with ⟨h1, h2⟩ | ⟨h1, h2⟩ | ⟨h1, _, _⟩
  · rw [e1.2, e.2] at h2
    have hD : D (X p1).i := an _ _ h1 D (fun oj hoj d hd' => by rw [l] at hoj; injection hoj with hoj; subst hoj; exact hdeps d hd') hdown
    have := iv.dq _ e1.1 hD
    rw [e1.2] at this
    exact ⟨fun _ => ⟨this, hD⟩, fun _ => h2⟩
  · rw [e1.2, e.2] at h2
    refine ⟨fun h => by omega, fun ⟨_, hD⟩ => ?_⟩
    exact absurd (an _ _ h1 D (fun oj hoj d hd' => hdown _ oj d hD hoj hd') hdown) hnD
  · have := h1 t hd
    rcases hl with hl | hl
    · exact absurd hl this.1
    · exact absurd hl this.2

include tr in
/-- the last that wrote a slot, on the one run -/
theorem env_char (t : Nat) : ∀ p, p ≤ q → (X p).env.length = env0.length ∧
    ((∃ p1, p1 < p ∧ (X p1).o.dst = some t ∧ (∀ p', p1 < p' → p' < p → (X p').o.dst ≠ some t) ∧ (X p).env.getD t .junk = if t < env0.length then (X p1).v else .junk) ∨
     ((∀ p1, p1 < p → (X p1).o.dst ≠ some t) ∧ (X p).env.getD t .junk = env0.getD t .junk))
  | 0, _ => ⟨by rw [tr.zenv], .inr ⟨fun p1 h => by omega, by rw [tr.zenv]⟩⟩
  | p + 1, hp => by
    obtain ⟨hl, hc⟩ := env_char t p (by omega)
    have he := tr.env p (by omega)
    refine ⟨by rw [he, put_len, hl], ?_⟩
    by_cases hd : (X p).o.dst = some t
    · refine .inl ⟨p, by omega, hd, fun p' h1 h2 => by omega, ?_⟩
      rw [he, hd, put_self, hl]
    · have hg : (X (p + 1)).env.getD t .junk = (X p).env.getD t .junk := by rw [he, put_get _ _ _ _ hd]
      rcases hc with ⟨p1, h1, h2, h3, h4⟩ | ⟨h1, h2⟩
      · refine .inl ⟨p1, by omega, h2, fun p' h5 h6 => ?_, by rw [hg]; exact h4⟩
        rcases Nat.lt_or_ge p' p with h7 | h7
        · exact h3 p' h5 h7
        · have : p' = p := by omega
          subst this; exact hd
      · refine .inr ⟨fun p1 h3 => ?_, by rw [hg]; exact h2⟩
        rcases Nat.lt_or_ge p1 p with h7 | h7
        · exact h1 p1 h7
        · have : p1 = p := by omega
          subst this; exact hd

include tr od an in
/-- the slots that the next one looks at hold what they held on the one run -/
theorem looks_ok {D : Nat → Prop} {a : Act} {w : World} {μ : Mu} (iv : RInv T ops.toList.length π env0 h0 X μ0 w0 a0 D q a w μ) (hdown : Down ops.toList D) {p : Nat} (hp : p < ops.toList.length) (hpq : p ≤ q) (hnD : ¬ D (X p).i)
    (hdeps : ∀ d ∈ deps (X p).o, D d) : ∀ t ∈ looks ops.toList (X p).o, ((X p).env.getD t .junk).rel μ (a.tmps.getD t undef) := by
  intro t ht
  have hiff : ∀ p1, p1 < ops.toList.length → (X p1).o.dst = some t → p1 ≠ p → (p1 < p ↔ (p1 < q ∧ D (X p1).i)) := fun p1 hp1 hd hne => done_iff tr od an iv hdown hp hnD hdeps hp1 hd (.inl ht) hne
  have hqn := iv.qn
  rcases (env_char tr t p hpq).2 with ⟨p1, h1, h2, h3, h4⟩ | ⟨h1, h2⟩
  · have hd1 := (hiff p1 (by omega) h2 (by omega)).1 h1
    rw [h4]
    split
    · rename_i hlt
      rcases iv.tmp t with ⟨p2, g1, g2, g3, g4, g5⟩ | ⟨g1, _⟩
      · have hp2ne : p2 ≠ p := fun e => by subst e; exact hnD g2
        have hp2 := (hiff p2 (by omega) g3 hp2ne).2 ⟨g1, g2⟩
        have : p1 = p2 := by
          rcases Nat.lt_trichotomy p1 p2 with c | c | c
          · exact absurd g3 (h3 p2 c hp2)
          · exact c
          · exact absurd h2 (g4 p1 c hd1.1 hd1.2)
        subst this; exact g5 hlt
      · exact absurd h2 (g1 p1 hd1.1 hd1.2)
    · simp [AV.rel]
  · rw [h2]
    rcases iv.tmp t with ⟨p2, g1, g2, g3, g4, g5⟩ | ⟨_, g2⟩
    · have hp2ne : p2 ≠ p := fun e => by subst e; exact hnD g2
      have hp2 := (hiff p2 (by omega) g3 hp2ne).2 ⟨g1, g2⟩
      exact absurd g3 (h1 p2 hp2)
    · exact g2

include tr od an in
/-- the slots behind one that was done -/
theorem tmp_step {D : Nat → Prop} {q' : Nat} {a : Act} {w : World} {μ μ' : Mu} (iv : RInv T ops.toList.length π env0 h0 X μ0 w0 a0 D q a w μ) (hdown : Down ops.toList D) {p : Nat} (hp : p < ops.toList.length) (hnD : ¬ D (X p).i)
    (hdeps : ∀ d ∈ deps (X p).o, D d) (hle : Le μ μ') {v : Value} (hv : (X p).v.rel μ' v) (hpq : p < q') (hq : q ≤ q') (hqn : q' ≤ ops.toList.length) (t : Nat) :
    TmpOk env0 X (fun i => D i ∨ i = (X p).i) q' μ' (a.put (X p).o.dst v).tmps t := by
  have hsz := iv.size
  have hDlt : ∀ p1, p1 < ops.toList.length → D (X p1).i → p1 < q := fun p1 h1 h2 => by
    have e := idx_pos tr od h1
    have := iv.dq _ e.1 h2; rw [e.2] at this; exact this
  have hin : ∀ p1, p1 < ops.toList.length → (X p1).i = (X p).i → p1 = p := fun p1 h1 h2 => idx_inj tr od h1 hp h2
  by_cases hd : (X p).o.dst = some t
  · refine .inl ⟨p, hpq, .inr rfl, hd, fun p' h1 h2 h3 h4 => ?_, fun ht => ?_⟩
    · rcases h3 with h3 | h3
      · have := (done_iff tr od an iv hdown hp hnD hdeps (by omega) h4 (.inr hd) (by omega)).2 ⟨hDlt p' (by omega) h3, h3⟩
        omega
      · have := hin p' (by omega) h3; omega
    · have hlt : t < a.tmps.size := by omega
      rw [hd]
      simpa [Act.put, hlt] using hv
  · have hsame : (a.put (X p).o.dst v).tmps.getD t undef = a.tmps.getD t undef := by
      cases hdd : (X p).o.dst with
      | none => rfl
      | some d =>
        have : d ≠ t := fun e => hd (by rw [hdd, e])
        simp [Act.put, Array.getElem?_setIfInBounds_ne this]
    rcases iv.tmp t with ⟨p2, g1, g2, g3, g4, g5⟩ | ⟨g1, g2⟩
    · refine .inl ⟨p2, by omega, .inl g2, g3, fun p' h1 h2 h3 => ?_, fun ht => by rw [hsame]; exact AV.rel_mono hle _ _ (g5 ht)⟩
      rcases h3 with h3 | h3
      · exact g4 p' h1 (hDlt p' (by omega) h3) h3
      · rw [hin p' (by omega) h3]; exact hd
    · refine .inr ⟨fun p' h1 h3 => ?_, by rw [hsame]; exact AV.rel_mono hle _ _ g2⟩
      rcases h3 with h3 | h3
      · exact g1 p' (hDlt p' (by omega) h3) h3
      · rw [hin p' (by omega) h3]; exact hd

include tr od an in
/-- one that does not write was done -/
theorem step_quiet {D : Nat → Prop} {a : Act} {w w' : World} {μ μ' : Mu} (iv : RInv T ops.toList.length π env0 h0 X μ0 w0 a0 D q a w μ) (hdown : Down ops.toList D) {p : Nat} (hp : p < ops.toList.length) (hnD : ¬ D (X p).i)
    (hdeps : ∀ d ∈ deps (X p).o, D d) (hpq : p < q) (hle : Le μ μ') {v : Value} (hv : (X p).v.rel μ' v) (hpost : Post μ0 h0 w0 μ' (X q).h w')
    (hother : ∀ p', p' < q → p' ≠ p → ¬ D (X p').i → (X p').b = true → opC T (X p').o.op = 2 → μ' (X p').h.next = none) :
    RInv T ops.toList.length π env0 h0 X μ0 w0 a0 (fun i => D i ∨ i = (X p).i) q (a.put (X p).o.dst v) w' μ' := by
  have e := idx_pos tr od hp
  refine ⟨iv.qn, fun p1 h1 h2 => .inl (iv.ws p1 h1 h2), fun i hi hd => ?_, hpost, (put_defers' _ _ _).trans iv.defers, ?_, fun t => tmp_step tr od an iv hdown hp hnD hdeps hle hv hpq (Nat.le_refl _) iv.qn t, iv.mono, fun p1 h1 h2 => iv.load p1 h1 (fun h => h2 (.inl h)), fun p1 h1 h2 h3 h4 => ?_⟩
  · rcases hd with hd | hd
    · exact iv.dq i hi hd
    · rw [hd, e.2]; exact hpq
  · have := iv.size
    cases (X p).o.dst <;> simpa [Act.put] using this
  · obtain ⟨k, f, m1, m2, m3, m4, m5⟩ := iv.made p1 h1 (fun h => h2 (.inl h)) h3 h4
    exact ⟨k, f, m1, m2, m3, hother p1 h1 (fun e => h2 (.inr (by rw [e]))) (fun h => h2 (.inl h)) h3 h4, m5⟩

include tr od an in
/-- the next that writes was done -/
theorem step_loud {D : Nat → Prop} {a : Act} {w w' : World} {μ μ' : Mu} (iv : RInv T ops.toList.length π env0 h0 X μ0 w0 a0 D q a w μ) (hdown : Down ops.toList D) (hq : q < ops.toList.length) (hnD : ¬ D (X q).i)
    (hdeps : ∀ d ∈ deps (X q).o, D d) (hc : opC T (X q).o.op = 3) {v : Value} (hv : (X q).v.rel μ' v) (hpost : Post μ (X q).h w μ' (X (q + 1)).h w')
    (hagain : ∀ p', p' < q → ¬ D (X p').i → (X p').b = true → opC T (X p').o.op = 1 → opR T (X p').o.op (ev (X p').env) (X (q + 1)).h = some (X p').v) :
    RInv T ops.toList.length π env0 h0 X μ0 w0 a0 (fun i => D i ∨ i = (X q).i) (q + 1) (a.put (X q).o.dst v) w' μ' := by
  have e := idx_pos tr od hq
  have hle := iv.post.rel.ext_le hpost.ext
  refine ⟨hq, fun p1 h1 h2 => ?_, fun i hi hd => ?_, iv.post.trans hpost, (put_defers' _ _ _).trans iv.defers, ?_, fun t => tmp_step tr od an iv hdown hq hnD hdeps hle hv (Nat.lt_succ_self q) (Nat.le_succ q) hq t, fun p p' hp hp' => ?_, fun p1 h1 h2 h3 h4 => ?_, fun p1 h1 h2 h3 h4 => ?_⟩
  · rcases Nat.lt_or_ge p1 q with h | h
    · exact .inl (iv.ws p1 h h2)
    · have : p1 = q := by omega
      subst this; exact .inr rfl
  · rcases hd with hd | hd
    · have := iv.dq i hi hd; omega
    · rw [hd, e.2]; omega
  · have := iv.size
    cases (X q).o.dst <;> simpa [Act.put] using this
  · have hn := hpost.grows.next
    rcases Nat.lt_or_ge p' (q + 1) with h | h
    · exact iv.mono p p' hp (by omega)
    · have : p' = q + 1 := by omega
      subst this
      rcases Nat.lt_or_ge p (q + 1) with h' | h'
      · have := iv.mono p q (by omega) (Nat.le_refl _); omega
      · have : p = q + 1 := by omega
        subst this; exact Nat.le_refl _
  · have hne : p1 ≠ q := fun e => h2 (.inr (by rw [e]))
    exact hagain p1 (by omega) (fun h => h2 (.inl h)) h3 h4
  · have hne : p1 ≠ q := fun e => h2 (.inr (by rw [e]))
    obtain ⟨k, f, m1, m2, m3, m4, m5, m6, m7⟩ := iv.made p1 (by omega) (fun h => h2 (.inl h)) h3 h4
    refine ⟨k, f, m1, m2, ?_, ?_, ?_, m6, m7⟩
    · rw [hpost.grows.keep _ m5 m4]; exact m3
    · rw [(hpost.ext _ m5).1]; exact m4
    · have := hpost.grows.next; omega
end
end Go.Am
