/- A region that draws its order: the invariant, and how it goes on. -/
import Derived.Test.YtdaibgpceldbdaaGreatDoorAmSnd6
namespace Go.Am
open Go

/-- what the slot holds: the last of those that were done and write it, or what it held at first -/
def TmpOk (env0 : List AV) (X : Nat → Rec) (D : Nat → Prop) (q : Nat) (μ : Mu) (tmps : Array Value) (t : Nat) : Prop :=
  (∃ p, p < q ∧ D (X p).i ∧ (X p).o.dst = some t ∧ (∀ p', p < p' → p' < q → D (X p').i → (X p').o.dst ≠ some t) ∧ (t < env0.length → (X p).v.rel μ (tmps.getD t undef))) ∨
  ((∀ p, p < q → D (X p).i → (X p).o.dst ≠ some t) ∧ (env0.getD t .junk).rel μ (tmps.getD t undef))

structure RInv (T : Ty) (n : Nat) (π : List Nat) (env0 : List AV) (h0 : H) (X : Nat → Rec) (μ0 : Mu) (w0 : World) (a0 : Act) (D : Nat → Prop) (q : Nat) (a : Act) (w : World) (μ : Mu) : Prop where
  qn : q ≤ n
  ws : ∀ p, p < q → opC T (X p).o.op = 3 → D (X p).i
  dq : ∀ i, i < n → D i → π.idxOf i < q
  post : Post μ0 h0 w0 μ (X q).h w
  defers : a.defers = a0.defers
  size : env0.length ≤ a.tmps.size
  tmp : ∀ t, TmpOk env0 X D q μ a.tmps t
  mono : ∀ p p', p ≤ p' → p' ≤ q → (X p).h.next ≤ (X p').h.next
  load : ∀ p, p < q → ¬ D (X p).i → (X p).b = true → opC T (X p).o.op = 1 → opR T (X p).o.op (ev (X p).env) (X q).h = some (X p).v
  made : ∀ p, p < q → ¬ D (X p).i → (X p).b = true → opC T (X p).o.op = 2 → ∃ k f, opA T (X p).o.op (ev (X p).env) = some (k, f) ∧ (X p).v = f (X p).h.next ∧
    (X q).h.get (X p).h.next = k ∧ μ (X p).h.next = none ∧ (X p).h.next < (X q).h.next ∧ h0.next ≤ (X p).h.next ∧ (X (p + 1)).h.next = (X p).h.next + 1

/-- the invariant minds the run up to q alone -/
theorem TmpOk.congr {env0 : List AV} {X Y : Nat → Rec} {D : Nat → Prop} {q : Nat} {μ : Mu} {tmps : Array Value} {t : Nat} (h : TmpOk env0 X D q μ tmps t) (hXY : ∀ p, p < q → Y p = X p) : TmpOk env0 Y D q μ tmps t := by
  rcases h with ⟨p, h1, h2, h3, h4, h5⟩ | ⟨h1, h2⟩
  · exact .inl ⟨p, h1, by rw [hXY p h1]; exact h2, by rw [hXY p h1]; exact h3, fun p' a b c => by rw [hXY p' b] at c ⊢; exact h4 p' a b c, by rw [hXY p h1]; exact h5⟩
  · exact .inr ⟨fun p a c => by rw [hXY p a] at c ⊢; exact h1 p a c, h2⟩
theorem RInv.congr {T : Ty} {n : Nat} {π : List Nat} {env0 : List AV} {h0 : H} {X Y : Nat → Rec} {μ0 : Mu} {w0 : World} {a0 : Act} {D : Nat → Prop} {q : Nat} {a : Act} {w : World} {μ : Mu} (iv : RInv T n π env0 h0 X μ0 w0 a0 D q a w μ)
    (hXY : ∀ p, p < q → Y p = X p) (hh : (Y q).h = (X q).h) : RInv T n π env0 h0 Y μ0 w0 a0 D q a w μ := by
  have hhp : ∀ p, p ≤ q → (Y p).h = (X p).h := fun p hp => by
    rcases Nat.lt_or_ge p q with h | h
    · rw [hXY p h]
    · have : p = q := by omega
      subst this; exact hh
  refine ⟨iv.qn, fun p hp hc => ?_, iv.dq, by rw [hh]; exact iv.post, iv.defers, iv.size, fun t => (iv.tmp t).congr hXY, fun p p' h1 h2 => ?_, fun p hp hd hb hc => ?_, fun p hp hd hb hc => ?_⟩
  · rw [hXY p hp] at hc ⊢; exact iv.ws p hp hc
  · rw [hhp p (by omega), hhp p' h2]; exact iv.mono p p' h1 h2
  · rw [hXY p hp] at hd hb hc ⊢; rw [hh]; exact iv.load p hp hd hb hc
  · rw [hhp (p + 1) (by omega), hXY p hp] at *; rw [hh]; exact iv.made p hp hd hb hc

/-- a new block on the abstract side alone -/
theorem post_push_abs {μ0 μ : Mu} {h0 h h' : H} {w0 w : World} {n : Nat} {k : Blk} (hp : Post μ0 h0 w0 μ h w) (e : h.push k = some (n, h')) : Post μ0 h0 w0 μ h' w := by
  obtain ⟨rfl, e1, e2, wf, hg⟩ := H.push_some e hp.rel.wf
  have lt : ∀ id p, μ id = some p → id ≠ h.next := fun id p hm => by have := (hp.rel.dom id p.1 p.2 hm).1; omega
  refine ⟨hp.ext, ⟨wf, fun id b d hm => ?_, fun i j b d e hi hj hli hlj => ?_, fun id b d hm => ?_, hp.rel.cnt⟩, hp.frame, ⟨by have := hp.grows.next; omega, e2.trans hp.grows.base, fun id hi hm => ?_, fun id hi => ?_, fun id hi hl => ?_⟩, fun id b d hi hm hb hl => ?_⟩
  · have := hp.rel.dom id b d hm; exact ⟨by omega, this.2⟩
  · rw [hg, if_neg (lt i _ hi)] at hli; rw [hg, if_neg (lt j _ hj)] at hlj
    exact hp.rel.inj i j b d e hi hj hli hlj
  · rw [hg, if_neg (lt id _ hm)]; exact hp.rel.blk id b d hm
  · have := hp.grows.next; rw [hg, if_neg (by omega)]; exact hp.grows.keep id hi hm
  · have := hp.rel.wf.low; rw [hg, if_neg (by have := hp.grows.base; omega)]; exact hp.grows.low id hi
  · have := hp.grows.next; rw [hg, if_neg (by omega)] at hl; exact hp.grows.dead id hi hl
  · rw [hg, if_neg (lt id _ hm)] at hl; exact hp.fresh id b d hi hm hb hl

/-- an abstract block that is there already comes to lie in the concrete world -/
theorem post_late {μ0 μ : Mu} {h0 h : H} {w0 w w' : World} {id s : Nat} {cs : Array Value} {t : TypeId} {fr : Nat × Nat} (hp : Post μ0 h0 w0 μ h w) (hid : μ id = none) (hlt : id < h.next) (hge : h0.next ≤ id)
    (h1 : w'.os = w.os) (h2 : w'.tape = w.tape) (h3 : w'.output = w.output) (hh : w'.heap = w.heap.push (.cells cs t fr)) (hs : cs.size = s)
    (hk : BlkRel (upd μ id (w.heap.size, 0) s) w' w.heap.size 0 (h.get id)) : Post μ0 h0 w0 (upd μ id (w.heap.size, 0) s) h w' := by
  have hlow : ∀ b, b < w.heap.size → w'.heap[b]? = w.heap[b]? := fun b hb => by rw [hh, Array.getElem?_push, if_neg (by omega)]
  have hle : Le μ (upd μ id (w.heap.size, 0) s) := upd_le _ _ fun p hm => by rw [hid] at hm; cases hm
  have hsz := hp.frame.size
  refine ⟨fun i hi => ?_, ⟨hp.rel.wf, fun i b d hm => ?_, fun i j b d e hi hj hli hlj => ?_, fun i b d hm => ?_, fun i b d ccs t' fr' hm hw => ?_⟩,
    ⟨h1.trans hp.frame.os, h2.trans hp.frame.tape, h3.trans hp.frame.output, by rw [hh]; simp; omega, fun b hb hn => ?_⟩, hp.grows, fun i b d hi hm hb hl => ?_⟩
  · have := hp.ext i hi
    exact ⟨by rw [upd_ne _ _ _ (by omega)]; exact this.1, by rw [upd_sz_ne _ _ _ (by omega)]; exact this.2⟩
  · by_cases e : i = id
    · subst e; rw [upd_self] at hm; injection hm with hm; injection hm with eb ed; subst eb ed
      exact ⟨hlt, by rw [hh]; simp⟩
    · rw [upd_ne _ _ _ e] at hm; have := hp.rel.dom i b d hm; exact ⟨this.1, by rw [hh]; simp; omega⟩
  · have old : ∀ i, i ≠ id → ∀ b d, upd μ id (w.heap.size, 0) s i = some (b, d) → b < w.heap.size := fun i hi b d hm => by
      rw [upd_ne _ _ _ hi] at hm; exact (hp.rel.dom i b d hm).2
    by_cases e1 : i = id <;> by_cases e2 : j = id
    · rw [e1, e2]
    · subst e1; rw [upd_self] at hi; injection hi with hi; injection hi with hb; have := old j e2 b e hj; omega
    · subst e2; rw [upd_self] at hj; injection hj with hj; injection hj with hb; have := old i e1 b d hi; omega
    · rw [upd_ne _ _ _ e1] at hi; rw [upd_ne _ _ _ e2] at hj
      exact hp.rel.inj i j b d e hi hj hli hlj
  · by_cases e : i = id
    · subst e; rw [upd_self] at hm; injection hm with hm; injection hm with eb ed; subst eb ed; exact hk
    · rw [upd_ne _ _ _ e] at hm
      exact (hp.rel.blk i b d hm).mono hle fun _ => hlow b (hp.rel.dom i b d hm).2
  · by_cases e : i = id
    · subst e; rw [upd_self] at hm; injection hm with hm; injection hm with eb ed; subst eb ed
      rw [upd_sz]; rw [hh] at hw; simp at hw; rw [← hw.1]; exact hs
    · rw [upd_ne _ _ _ e] at hm; rw [upd_sz_ne _ _ _ e]
      exact hp.rel.cnt i b d ccs t' fr' hm (by rw [← hlow b (hp.rel.dom i b d hm).2]; exact hw)
  · rw [hlow b (by omega)]; exact hp.frame.block b hb hn
  · by_cases e : i = id
    · subst e; rw [upd_self] at hm; injection hm with hm; injection hm with eb ed; omega
    · rw [upd_ne _ _ _ e] at hm; exact hp.fresh i b d hi hm hb hl

section
variable {P : Program} {T : Ty} {G : Gam} {L : List Oper} {M π : List Nat} {env0 : List AV} {h0 : H}
variable {μ0 : Mu} {w0 : World} {a0 : Act}

theorem TmpOk.le {X : Nat → Rec} {D : Nat → Prop} {q : Nat} {μ μ' : Mu} {tmps : Array Value} {t : Nat} (h : TmpOk env0 X D q μ tmps t) (hm : Le μ μ') : TmpOk env0 X D q μ' tmps t := by
  rcases h with ⟨p, h1, h2, h3, h4, h5⟩ | ⟨h1, h2⟩
  · exact .inl ⟨p, h1, h2, h3, h4, fun ht => AV.rel_mono hm _ _ (h5 ht)⟩
  · exact .inr ⟨h1, AV.rel_mono hm _ _ h2⟩
theorem TmpOk.next {X : Nat → Rec} {D : Nat → Prop} {q : Nat} {μ : Mu} {tmps : Array Value} {t : Nat} (h : TmpOk env0 X D q μ tmps t) (hq : ¬ D (X q).i) : TmpOk env0 X D (q + 1) μ tmps t := by
  rcases h with ⟨p, h1, h2, h3, h4, h5⟩ | ⟨h1, h2⟩
  · refine .inl ⟨p, by omega, h2, h3, fun p' hp hp' hd => ?_, h5⟩
    rcases Nat.lt_or_ge p' q with hlt | hge
    · exact h4 p' hp hlt hd
    · have : p' = q := by omega
      subst this; exact absurd hd hq
  · refine .inr ⟨fun p hp hd => ?_, h2⟩
    rcases Nat.lt_or_ge p q with hlt | hge
    · exact h1 p hlt hd
    · have : p = q := by omega
      subst this; exact absurd hd hq

variable {X : Nat → Rec} {r : Nat} (tr : Trk T L π env0 h0 X r) (od : Ord T L M π)
include tr od in
theorem idx_pos {p : Nat} (hp : p < L.length) : (X p).i < L.length ∧ π.idxOf (X p).i = p := by
  have h1 := (tr.idx p (by rw [od.len]; exact hp)).1
  have h2 := od.pos p hp
  rw [← h1] at h2; exact ⟨h2.2, h2.1⟩
include tr od in
theorem at_pos {i : Nat} (hi : i < L.length) : (X (π.idxOf i)).i = i := by
  have h1 := (tr.idx (π.idxOf i) (by rw [od.len]; exact od.lt i hi)).1
  rw [h1, od.inv hi]
include tr od in
theorem idx_inj {p p' : Nat} (hp : p < L.length) (hp' : p' < L.length) (h : (X p).i = (X p').i) : p = p' := by
  rw [← (idx_pos tr od hp).2, ← (idx_pos tr od hp').2, h]

/-- one position further, over what does not write: the invariant -/
theorem RInv.adv {D : Nat → Prop} {q : Nat} {a : Act} {w : World} {μ : Mu} (tr' : Trk T L π env0 h0 X (q + 1)) (od : Ord T L M π) (iv : RInv T L.length π env0 h0 X μ0 w0 a0 D q a w μ) (hq : q < L.length) (hc : opC T (X q).o.op ≠ 3) : RInv T L.length π env0 h0 X μ0 w0 a0 D (q + 1) a w μ := by
  have hqp := idx_pos tr' od hq
  have hnD : ¬ D (X q).i := fun h => by have := iv.dq _ hqp.1 h; omega
  have wf := iv.post.rel.wf
  have hqq : q < q + 1 := by omega
  have cases3 : (X (q + 1)).h = (X q).h ∨ ∃ k f n, opA T (X q).o.op (ev (X q).env) = some (k, f) ∧ (X q).h.push k = some (n, (X (q + 1)).h) ∧ (X q).v = f n ∧ (X q).b = true ∧ opC T (X q).o.op = 2 := by
    cases hb : (X q).b with
    | false => exact .inl (tr'.skip q hqq hb).2
    | true =>
      rcases opC_le T (X q).o.op with c | c | c | c
      · exact .inl (tr'.run0 q hqq hb c).2
      · exact .inl (tr'.run1 q hqq hb c).2
      · obtain ⟨k, f, n, h1, h2, h3⟩ := tr'.run2 q hqq hb c
        exact .inr ⟨k, f, n, h1, h2, h3, rfl, c⟩
      · exact absurd c hc
  have ws : ∀ p, p < q + 1 → opC T (X p).o.op = 3 → D (X p).i := fun p hp h3 => by
    rcases Nat.lt_or_ge p q with hlt | hge
    · exact iv.ws p hlt h3
    · have : p = q := by omega
      subst this; exact absurd h3 hc
  have dq : ∀ i, i < L.length → D i → π.idxOf i < q + 1 := fun i hi hd => by have := iv.dq i hi hd; omega
  rcases cases3 with hsame | ⟨k, f, n, h1, h2, h3, hb, c2⟩
  · refine ⟨hq, ws, dq, by rw [hsame]; exact iv.post, iv.defers, iv.size, fun t => (iv.tmp t).next hnD, fun p p' hp hp' => ?_, fun p hp hd hb hc1 => ?_, fun p hp hd hb hc2 => ?_⟩
    · rcases Nat.lt_or_ge p' (q + 1) with hlt | hge
      · exact iv.mono p p' hp (by omega)
      · have : p' = q + 1 := by omega
        subst this
        rw [hsame]
        rcases Nat.lt_or_ge p (q + 1) with hlt | hge
        · exact iv.mono p q (by omega) (Nat.le_refl _)
        · have : p = q + 1 := by omega
          subst this; rw [hsame]; exact Nat.le_refl _
    · rw [hsame]
      rcases Nat.lt_or_ge p q with hlt | hge
      · exact iv.load p hlt hd hb hc1
      · have : p = q := by omega
        subst this; exact (tr'.run1 p hqq hb hc1).1
    · rw [hsame]
      rcases Nat.lt_or_ge p q with hlt | hge
      · exact iv.made p hlt hd hb hc2
      · have : p = q := by omega
        subst this
        obtain ⟨k, f, n, h1, h2, h3⟩ := tr'.run2 p hqq hb hc2
        obtain ⟨_, e1, _, _, _⟩ := H.push_some h2 wf
        rw [hsame] at e1; omega
  · obtain ⟨rfl, e1, e2, wf', hg⟩ := H.push_some h2 wf
    refine ⟨hq, ws, dq, post_push_abs iv.post h2, iv.defers, iv.size, fun t => (iv.tmp t).next hnD, fun p p' hp hp' => ?_, fun p hp hd hb hc1 => ?_, fun p hp hd hb hc2 => ?_⟩
    · rcases Nat.lt_or_ge p' (q + 1) with hlt | hge
      · exact iv.mono p p' hp (by omega)
      · have : p' = q + 1 := by omega
        subst this
        rcases Nat.lt_or_ge p (q + 1) with hlt | hge
        · have := iv.mono p q (by omega) (Nat.le_refl _); omega
        · have : p = q + 1 := by omega
          subst this; exact Nat.le_refl _
    · rcases Nat.lt_or_ge p q with hlt | hge
      · exact opR_push wf h2 (iv.load p hlt hd hb hc1)
      · have : p = q := by omega
        subst this; rw [c2] at hc1; cases hc1
    · rcases Nat.lt_or_ge p q with hlt | hge
      · obtain ⟨k', f', m1, m2, m3, m4, m5, m6, m7⟩ := iv.made p hlt hd hb hc2
        exact ⟨k', f', m1, m2, by rw [hg, if_neg (by omega)]; exact m3, m4, by omega, m6, m7⟩
      · have : p = q := by omega
        subst this
        refine ⟨k, f, h1, h3, by rw [hg, if_pos rfl], ?_, by omega, by have := iv.mono 0 p (Nat.zero_le _) (Nat.le_refl _); rw [tr'.zh] at this; exact this, e1⟩
        cases hm : μ (X p).h.next with
        | none => rfl
        | some z => exact absurd (iv.post.rel.dom _ z.1 z.2 hm).1 (by omega)
end

/-- the same operations at the same positions -/
def SameIO (X Y : Nat → Rec) : Prop := ∀ p, (Y p).i = (X p).i ∧ (Y p).o = (X p).o
theorem drop_at {π : List Nat} {q : Nat} (hq : q < π.length) : π.drop q = π.getD q 0 :: π.drop (q + 1) := by
  rw [List.drop_eq_getElem_cons hq]; simp [hq]
/-- over one operation that does not write, the one run goes on by itself -/
theorem canon_step {T : Ty} {G : Gam} {L : List Oper} {M π : List Nat} {env0 : List AV} {h0 : H} {X : Nat → Rec} {q : Nat} {k : List AV → H → Prop} (tr : Trk T L π env0 h0 X q) (od : Ord T L M π) (pd : Pend T G L M π X q k) (hq : q < L.length) (hc : opC T (X q).o.op ≠ 3) :
    ∃ Y, Trk T L π env0 h0 Y (q + 1) ∧ Pend T G L M π Y (q + 1) k ∧ SameIO X Y ∧ (∀ p, p < q → Y p = X p) ∧ (Y q).h = (X q).h := by
  obtain ⟨seen, hrun, hseen⟩ := pd
  have hqp : q < π.length := by rw [od.len]; exact hq
  obtain ⟨i1, i2⟩ := tr.idx q hqp
  rw [drop_at hqp, ← i1] at hrun
  unfold runOrd at hrun
  rw [i2] at hrun
  simp only at hrun
  -- what is left to show, once the operation's outcome is known
  have fin : ∀ (b : Bool) (v : AV) (h' : H) (seen' : List Seen), GrdIs L (X q).o (X q).env b → (b = false → v = skipV ∧ h' = (X q).h) →
      (b = true → opC T (X q).o.op = 0 → opP T (X q).o.op (ev (X q).env) = some v ∧ h' = (X q).h) → (b = true → opC T (X q).o.op = 1 → opR T (X q).o.op (ev (X q).env) (X q).h = some v ∧ h' = (X q).h) →
      (b = true → opC T (X q).o.op = 2 → ∃ k f n, opA T (X q).o.op (ev (X q).env) = some (k, f) ∧ (X q).h.push k = some (n, h') ∧ v = f n) →
      (∀ s ∈ seen, s ∈ seen') → (b = true → opC T (X q).o.op = 1 → (⟨(X q).i, (X q).o.op, (X q).env, v, true⟩ : Seen) ∈ seen') →
      runOrd T G L M (π.drop (q + 1)) seen' (put (X q).o.dst v (X q).env) h' k →
      ∃ Y, Trk T L π env0 h0 Y (q + 1) ∧ Pend T G L M π Y (q + 1) k ∧ SameIO X Y ∧ (∀ p, p < q → Y p = X p) ∧ (Y q).h = (X q).h := by
    intro b v h' seen' g1 g2 g3 g4 g5 g6 g7 g8
    refine ⟨extX X q b v (put (X q).o.dst v (X q).env) h', tr.ext g1 g2 g3 g4 g5, ⟨seen', by rw [extX_next]; exact g8, fun p hp hb hc1 => ?_⟩, fun p => ⟨extX_i p, extX_o p⟩, fun p hp => extX_lt hp, extX_h (Nat.le_refl _)⟩
    rcases Nat.lt_or_ge p q with hlt | hge
    · rw [extX_lt hlt] at hb hc1 ⊢; exact g6 _ (hseen p hlt hb hc1)
    · have : p = q := by omega
      subst this
      rw [extX_at] at hb hc1 ⊢; exact g7 hb hc1
  have x0 : ∀ {K : AV → H → Prop}, opX T G (X q).o.op (ev (X q).env) (X q).h K → opC T (X q).o.op = 0 → ∃ v, opP T (X q).o.op (ev (X q).env) = some v ∧ K v (X q).h := fun e c => by
    unfold opX at e; rw [c] at e; simp only at e
    split at e
    · exact ⟨_, ‹_›, e⟩
    · exact e.elim
  have x1 : ∀ {K : AV → H → Prop}, opX T G (X q).o.op (ev (X q).env) (X q).h K → opC T (X q).o.op = 1 → ∃ v, opR T (X q).o.op (ev (X q).env) (X q).h = some v ∧ K v (X q).h := fun e c => by
    unfold opX at e; rw [c] at e; simp only at e
    split at e
    · exact ⟨_, ‹_›, e⟩
    · exact e.elim
  have x2 : ∀ {K : AV → H → Prop}, opX T G (X q).o.op (ev (X q).env) (X q).h K → opC T (X q).o.op = 2 → ∃ v h', (∃ k f n, opA T (X q).o.op (ev (X q).env) = some (k, f) ∧ (X q).h.push k = some (n, h') ∧ v = f n) ∧ K v h' := fun e c => by
    unfold opX at e; rw [c] at e; simp only at e
    obtain ⟨v, h', e1, e2⟩ := op2_some e
    unfold aNew at e1
    split at e1
    · rename_i k f hkf
      split at e1
      · rename_i n h1 hp
        injection e1 with e1; injection e1 with e1 e3; subst e1 e3
        exact ⟨_, _, ⟨k, f, n, hkf, hp, rfl⟩, e2⟩
      · cases e1
    · cases e1
  split at hrun
  · rename_i c1
    rcases guardB_is hrun with ⟨g, e⟩ | ⟨g, e⟩
    · obtain ⟨K, e1, e2⟩ := opF_imp e
      obtain ⟨v, hv, hK⟩ := x1 e1 c1
      have := e2 _ _ hK
      simp only [putE_eq] at this
      exact fin true v (X q).h _ g (fun h => by cases h) (fun _ c => by rw [c1] at c; cases c) (fun _ _ => ⟨hv, rfl⟩) (fun _ c => by rw [c1] at c; cases c) (fun s hs => by simp [hs]) (fun _ _ => by simp) this
    · simp only [putE_eq] at e
      exact fin false skipV (X q).h _ g (fun _ => ⟨rfl, rfl⟩) (fun h => by cases h) (fun h => by cases h) (fun h => by cases h) (fun s hs => by simp [hs]) (fun h => by cases h) e
  · rename_i c3; exact absurd c3 hc
  · rename_i n1 n3
    rcases guardK_is hrun with ⟨g, e⟩ | ⟨g, e⟩
    · obtain ⟨K, e1, e2⟩ := opF_imp e
      rcases opC_le T (X q).o.op with c | c | c | c
      · obtain ⟨v, hv, hK⟩ := x0 e1 c
        have := e2 _ _ hK
        simp only [putE_eq] at this
        exact fin true v (X q).h _ g (fun h => by cases h) (fun _ _ => ⟨hv, rfl⟩) (fun _ c' => by rw [c] at c'; cases c') (fun _ c' => by rw [c] at c'; cases c') (fun s hs => hs) (fun _ c' => by rw [c] at c'; cases c') this
      · exact absurd c n1
      · obtain ⟨v, h', hv, hK⟩ := x2 e1 c
        have := e2 _ _ hK
        simp only [putE_eq] at this
        exact fin true v h' _ g (fun h => by cases h) (fun _ c' => by rw [c] at c'; cases c') (fun _ c' => by rw [c] at c'; cases c') (fun _ _ => hv) (fun s hs => hs) (fun _ c' => by rw [c] at c'; cases c') this
      · exact absurd c n3
    · simp only [putE_eq] at e
      exact fin false skipV (X q).h _ g (fun _ => ⟨rfl, rfl⟩) (fun h => by cases h) (fun h => by cases h) (fun h => by cases h) (fun s hs => hs) (fun h => by cases h) e

/-- the one run goes on, up to what writes -/
theorem canon_all {T : Ty} {G : Gam} {L : List Oper} {M π : List Nat} {env0 : List AV} {h0 : H} {k : List AV → H → Prop} (od : Ord T L M π) {μ0 : Mu} {w0 : World} {a0 : Act} {D : Nat → Prop} {a : Act} {w : World} {μ : Mu} :
    ∀ (m q : Nat) (X : Nat → Rec), L.length - q = m → Trk T L π env0 h0 X q → Pend T G L M π X q k → RInv T L.length π env0 h0 X μ0 w0 a0 D q a w μ →
      ∃ q' Y, Trk T L π env0 h0 Y q' ∧ Pend T G L M π Y q' k ∧ RInv T L.length π env0 h0 Y μ0 w0 a0 D q' a w μ ∧ SameIO X Y ∧ (q' < L.length → opC T (Y q').o.op = 3)
  | 0, q, X, hm, tr, pd, iv => ⟨q, X, tr, pd, iv, fun _ => ⟨rfl, rfl⟩, fun h => by omega⟩
  | m + 1, q, X, hm, tr, pd, iv => by
    by_cases hc : opC T (X q).o.op = 3
    · exact ⟨q, X, tr, pd, iv, fun _ => ⟨rfl, rfl⟩, fun _ => hc⟩
    · obtain ⟨Y, trY, pdY, sio, hlt, hh⟩ := canon_step tr od pd (by omega) hc
      have ivY := (iv.congr hlt hh).adv trY od (by omega) (by rw [(sio q).2]; exact hc)
      obtain ⟨q', Z, h1, h2, h3, h4, h5⟩ := canon_all od m (q + 1) Y (by omega) trY pdY ivY
      exact ⟨q', Z, h1, h2, h3, fun p => ⟨(h4 p).1.trans (sio p).1, (h4 p).2.trans (sio p).2⟩, h5⟩
end Go.Am
