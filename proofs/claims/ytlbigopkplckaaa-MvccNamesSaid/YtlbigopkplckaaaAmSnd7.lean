/- A region that draws its order: the invariant, and how it goes on. -/
import Derived.Test.YtlbigopkplckaaaAmSnd6
namespace Go.Am
open Go

/-- what the slot holds: the last of those that were done and write it, or what it held at first -/
def TmpOk (X : Nat → Rec) (D : Nat → Prop) (q : Nat) (μ : Mu) (tmps : Array Value) (t : Nat) : Prop :=
  (∃ p, p < q ∧ D (X p).i ∧ (X p).o.dst = some t ∧ (∀ p', p < p' → p' < q → D (X p').i → (X p').o.dst ≠ some t) ∧ (t < (X 0).env.length → (X p).v.rel μ (tmps.getD t undef))) ∨
  ((∀ p, p < q → D (X p).i → (X p).o.dst ≠ some t) ∧ ((X 0).env.getD t .junk).rel μ (tmps.getD t undef))

structure RInv (T : Ty) (n : Nat) (π : List Nat) (X : Nat → Rec) (μ0 : Mu) (w0 : World) (a0 : Act) (D : Nat → Prop) (q : Nat) (a : Act) (w : World) (μ : Mu) : Prop where
  qn : q ≤ n
  ws : ∀ p, p < q → opC T (X p).o.op = 3 → D (X p).i
  dq : ∀ i, i < n → D i → π.idxOf i < q
  post : Post μ0 (X 0).h w0 μ (X q).h w
  defers : a.defers = a0.defers
  size : (X 0).env.length ≤ a.tmps.size
  tmp : ∀ t, TmpOk X D q μ a.tmps t
  mono : ∀ p p', p ≤ p' → p' ≤ q → (X p).h.next ≤ (X p').h.next
  load : ∀ p, p < q → ¬ D (X p).i → (X p).b = true → opC T (X p).o.op = 1 → opR T (X p).o.op (ev (X p).env) (X q).h = some (X p).v
  made : ∀ p, p < q → ¬ D (X p).i → (X p).b = true → opC T (X p).o.op = 2 → ∃ k f, opA T (X p).o.op (ev (X p).env) = some (k, f) ∧ (X p).v = f (X p).h.next ∧
    (X q).h.get (X p).h.next = k ∧ μ (X p).h.next = none ∧ (X p).h.next < (X q).h.next ∧ (X 0).h.next ≤ (X p).h.next ∧ (X (p + 1)).h.next = (X p).h.next + 1

/-- a new block on the abstract side alone -/
theorem post_push_abs {μ0 μ : Mu} {h0 h h' : H} {w0 w : World} {n : Nat} {k : Blk} (hp : Post μ0 h0 w0 μ h w) (e : h.push k = some (n, h')) : Post μ0 h0 w0 μ h' w := by
  obtain ⟨rfl, e1, e2, wf, hg⟩ := H.push_some e hp.rel.wf
  have lt : ∀ id p, μ id = some p → id ≠ h.next := fun id p hm => by have := (hp.rel.dom id p.1 p.2 hm).1; omega
  refine ⟨hp.ext, ⟨wf, fun id b d hm => ?_, fun i j b d e hi hj hli hlj => ?_, fun id b d hm => ?_, hp.rel.cnt⟩, hp.frame, ⟨by have := hp.grows.next; omega, e2.trans hp.grows.base, fun id hi hm => ?_, fun id hi => ?_, fun id hi hl => ?_⟩, fun id b d hi hm hb hl => ?_⟩
  · have := hp.rel.dom id b d hm; exact ⟨by omega, this.2⟩
  · rw [hg, if_neg (lt i _ hi)] at hli; rw [hg, if_neg (lt j _ hj)] at hlj
    exact hp.rel.inj i j b d e hi hj hli hlj
  · rw [hg, if_neg (lt id _ hm)]; exact hp.rel.blk id b d hm
  · have := hp.grows.next; rw [hg, if_neg (by omega)]; exact hp.grows.keep id hi hm
  · have := hp.rel.wf.low; rw [hg, if_neg (by have := hp.grows.base; omega)]; exact hp.grows.low id hi
  · have := hp.grows.next; rw [hg, if_neg (by omega)] at hl; exact hp.grows.dead id hi hl
  · rw [hg, if_neg (lt id _ hm)] at hl; exact hp.fresh id b d hi hm hb hl

/-- an abstract block that is there already comes to lie in the concrete world -/
theorem post_late {μ0 μ : Mu} {h0 h : H} {w0 w w' : World} {id s : Nat} {cs : Array Value} {t : TypeId} {fr : Nat × Nat} (hp : Post μ0 h0 w0 μ h w) (hid : μ id = none) (hlt : id < h.next) (hge : h0.next ≤ id)
    (h1 : w'.os = w.os) (h2 : w'.tape = w.tape) (h3 : w'.output = w.output) (hh : w'.heap = w.heap.push (.cells cs t fr)) (hs : cs.size = s)
    (hk : BlkRel (upd μ id (w.heap.size, 0) s) w' w.heap.size 0 (h.get id)) : Post μ0 h0 w0 (upd μ id (w.heap.size, 0) s) h w' := by
  have hlow : ∀ b, b < w.heap.size → w'.heap[b]? = w.heap[b]? := fun b hb => by rw [hh, Array.getElem?_push, if_neg (by omega)]
  have hle : Le μ (upd μ id (w.heap.size, 0) s) := upd_le _ _ fun p hm => by rw [hid] at hm; cases hm
  have hsz := hp.frame.size
  refine ⟨fun i hi => ?_, ⟨hp.rel.wf, fun i b d hm => ?_, fun i j b d e hi hj hli hlj => ?_, fun i b d hm => ?_, fun i b d ccs t' fr' hm hw => ?_⟩,
    ⟨h1.trans hp.frame.os, h2.trans hp.frame.tape, h3.trans hp.frame.output, by rw [hh]; simp; omega, fun b hb hn => ?_⟩, hp.grows, fun i b d hi hm hb hl => ?_⟩
  · have := hp.ext i hi
    exact ⟨by rw [upd_ne _ _ _ (by omega)]; exact this.1, by rw [upd_sz_ne _ _ _ (by omega)]; exact this.2⟩
  · by_cases e : i = id
    · subst e; rw [upd_self] at hm; injection hm with hm; injection hm with eb ed; subst eb ed
      exact ⟨hlt, by rw [hh]; simp⟩
    · rw [upd_ne _ _ _ e] at hm; have := hp.rel.dom i b d hm; exact ⟨this.1, by rw [hh]; simp; omega⟩
  · have old : ∀ i, i ≠ id → ∀ b d, upd μ id (w.heap.size, 0) s i = some (b, d) → b < w.heap.size := fun i hi b d hm => by
      rw [upd_ne _ _ _ hi] at hm; exact (hp.rel.dom i b d hm).2
    by_cases e1 : i = id <;> by_cases e2 : j = id
    · rw [e1, e2]
    · subst e1; rw [upd_self] at hi; injection hi with hi; injection hi with hb; have := old j e2 b e hj; omega
    · subst e2; rw [upd_self] at hj; injection hj with hj; injection hj with hb; have := old i e1 b d hi; omega
    · rw [upd_ne _ _ _ e1] at hi; rw [upd_ne _ _ _ e2] at hj
      exact hp.rel.inj i j b d e hi hj hli hlj
  · by_cases e : i = id
    · subst e; rw [upd_self] at hm; injection hm with hm; injection hm with eb ed; subst eb ed; exact hk
    · rw [upd_ne _ _ _ e] at hm
      exact (hp.rel.blk i b d hm).mono hle fun _ => hlow b (hp.rel.dom i b d hm).2
  · by_cases e : i = id
    · subst e; rw [upd_self] at hm; injection hm with hm; injection hm with eb ed; subst eb ed
      rw [upd_sz]; rw [hh] at hw; simp at hw; rw [← hw.1]; exact hs
    · rw [upd_ne _ _ _ e] at hm; rw [upd_sz_ne _ _ _ e]
      exact hp.rel.cnt i b d ccs t' fr' hm (by rw [← hlow b (hp.rel.dom i b d hm).2]; exact hw)
  · rw [hlow b (by omega)]; exact hp.frame.block b hb hn
  · by_cases e : i = id
    · subst e; rw [upd_self] at hm; injection hm with hm; injection hm with eb ed; omega
    · rw [upd_ne _ _ _ e] at hm; exact hp.fresh i b d hi hm hb hl

section
variable {P : Program} {T : Ty} (hT : TyOk P T) {G : Gam} (hG : GamOk P G) {L : List Oper} {M π : List Nat} {X : Nat → Rec} (tr : Trk T G L M π X) (od : Ord T L M π)
variable {μ0 : Mu} {w0 : World} {a0 : Act}

theorem TmpOk.le {D : Nat → Prop} {q : Nat} {μ μ' : Mu} {tmps : Array Value} {t : Nat} (h : TmpOk X D q μ tmps t) (hm : Le μ μ') : TmpOk X D q μ' tmps t := by
  rcases h with ⟨p, h1, h2, h3, h4, h5⟩ | ⟨h1, h2⟩
  · exact .inl ⟨p, h1, h2, h3, h4, fun ht => AV.rel_mono hm _ _ (h5 ht)⟩
  · exact .inr ⟨h1, AV.rel_mono hm _ _ h2⟩
theorem TmpOk.next {D : Nat → Prop} {q : Nat} {μ : Mu} {tmps : Array Value} {t : Nat} (h : TmpOk X D q μ tmps t) (hq : ¬ D (X q).i) : TmpOk X D (q + 1) μ tmps t := by
  rcases h with ⟨p, h1, h2, h3, h4, h5⟩ | ⟨h1, h2⟩
  · refine .inl ⟨p, by omega, h2, h3, fun p' hp hp' hd => ?_, h5⟩
    rcases Nat.lt_or_ge p' q with hlt | hge
    · exact h4 p' hp hlt hd
    · have : p' = q := by omega
      subst this; exact absurd hd hq
  · refine .inr ⟨fun p hp hd => ?_, h2⟩
    rcases Nat.lt_or_ge p q with hlt | hge
    · exact h1 p hlt hd
    · have : p = q := by omega
      subst this; exact absurd hd hq

include tr od in
theorem idx_pos {p : Nat} (hp : p < L.length) : (X p).i < L.length ∧ π.idxOf (X p).i = p := by
  have h1 := (tr.idx p (by rw [od.len]; exact hp)).1
  have h2 := od.pos p hp
  rw [← h1] at h2; exact ⟨h2.2, h2.1⟩
include tr od in
theorem at_pos {i : Nat} (hi : i < L.length) : (X (π.idxOf i)).i = i := by
  have h1 := (tr.idx (π.idxOf i) (by rw [od.len]; exact od.lt i hi)).1
  rw [h1, od.inv hi]
include tr od in
theorem idx_inj {p p' : Nat} (hp : p < L.length) (hp' : p' < L.length) (h : (X p).i = (X p').i) : p = p' := by
  rw [← (idx_pos tr od hp).2, ← (idx_pos tr od hp').2, h]

include tr od in
/-- the order goes on by itself over what does not write -/
theorem RInv.adv {D : Nat → Prop} {q : Nat} {a : Act} {w : World} {μ : Mu} (iv : RInv T L.length π X μ0 w0 a0 D q a w μ) (hq : q < L.length) (hc : opC T (X q).o.op ≠ 3) : RInv T L.length π X μ0 w0 a0 D (q + 1) a w μ := by
  have hqp := idx_pos tr od hq
  have hnD : ¬ D (X q).i := fun h => by have := iv.dq _ hqp.1 h; omega
  have hq' : q < π.length := by rw [od.len]; exact hq
  have wf := iv.post.rel.wf
  have cases3 : (X (q + 1)).h = (X q).h ∨ ∃ k f n, opA T (X q).o.op (ev (X q).env) = some (k, f) ∧ (X q).h.push k = some (n, (X (q + 1)).h) ∧ (X q).v = f n ∧ (X q).b = true ∧ opC T (X q).o.op = 2 := by
    cases hb : (X q).b with
    | false => exact .inl (tr.skip q hq' hb).2
    | true =>
      have hr := tr.run q hq' hb
      rcases opC_le T (X q).o.op with c | c | c | c
      · exact .inl (opX_0 hr c).2
      · exact .inl (opX_1 hr c).2
      · obtain ⟨k, f, n, h1, h2, h3⟩ := opX_2 hr c
        exact .inr ⟨k, f, n, h1, h2, h3, rfl, c⟩
      · exact absurd c hc
  have ws : ∀ p, p < q + 1 → opC T (X p).o.op = 3 → D (X p).i := fun p hp h3 => by
    rcases Nat.lt_or_ge p q with hlt | hge
    · exact iv.ws p hlt h3
    · have : p = q := by omega
      subst this; exact absurd h3 hc
  have dq : ∀ i, i < L.length → D i → π.idxOf i < q + 1 := fun i hi hd => by have := iv.dq i hi hd; omega
  rcases cases3 with hsame | ⟨k, f, n, h1, h2, h3, hb, c2⟩
  · refine ⟨hq, ws, dq, by rw [hsame]; exact iv.post, iv.defers, iv.size, fun t => (iv.tmp t).next hnD, fun p p' hp hp' => ?_, fun p hp hd hb hc1 => ?_, fun p hp hd hb hc2 => ?_⟩
    · rcases Nat.lt_or_ge p' (q + 1) with hlt | hge
      · exact iv.mono p p' hp (by omega)
      · have : p' = q + 1 := by omega
        subst this
        rw [hsame]
        rcases Nat.lt_or_ge p (q + 1) with hlt | hge
        · exact iv.mono p q (by omega) (Nat.le_refl _)
        · have : p = q + 1 := by omega
          subst this; rw [hsame]; exact Nat.le_refl _
    · rw [hsame]
      rcases Nat.lt_or_ge p q with hlt | hge
      · exact iv.load p hlt hd hb hc1
      · have : p = q := by omega
        subst this; exact (opX_1 (tr.run p hq' hb) hc1).1
    · rw [hsame]
      rcases Nat.lt_or_ge p q with hlt | hge
      · exact iv.made p hlt hd hb hc2
      · have : p = q := by omega
        subst this
        obtain ⟨k, f, n, h1, h2, h3⟩ := opX_2 (tr.run p hq' hb) hc2
        obtain ⟨_, e1, _, _, _⟩ := H.push_some h2 wf
        rw [hsame] at e1; omega
  · obtain ⟨rfl, e1, e2, wf', hg⟩ := H.push_some h2 wf
    refine ⟨hq, ws, dq, post_push_abs iv.post h2, iv.defers, iv.size, fun t => (iv.tmp t).next hnD, fun p p' hp hp' => ?_, fun p hp hd hb hc1 => ?_, fun p hp hd hb hc2 => ?_⟩
    · rcases Nat.lt_or_ge p' (q + 1) with hlt | hge
      · exact iv.mono p p' hp (by omega)
      · have : p' = q + 1 := by omega
        subst this
        rcases Nat.lt_or_ge p (q + 1) with hlt | hge
        · have := iv.mono p q (by omega) (Nat.le_refl _); omega
        · have : p = q + 1 := by omega
          subst this; exact Nat.le_refl _
    · rcases Nat.lt_or_ge p q with hlt | hge
      · exact opR_push wf h2 (iv.load p hlt hd hb hc1)
      · have : p = q := by omega
        subst this; rw [c2] at hc1; cases hc1
    · rcases Nat.lt_or_ge p q with hlt | hge
      · obtain ⟨k', f', m1, m2, m3, m4, m5, m6, m7⟩ := iv.made p hlt hd hb hc2
        exact ⟨k', f', m1, m2, by rw [hg, if_neg (by omega)]; exact m3, m4, by omega, m6, m7⟩
      · have : p = q := by omega
        subst this
        refine ⟨k, f, h1, h3, by rw [hg, if_pos rfl], ?_, by omega, iv.mono 0 p (Nat.zero_le _) (Nat.le_refl _), e1⟩
        cases hm : μ (X p).h.next with
        | none => rfl
        | some z => exact absurd (iv.post.rel.dom _ z.1 z.2 hm).1 (by omega)

include tr od in
theorem RInv.advAll {D : Nat → Prop} {a : Act} {w : World} {μ : Mu} : ∀ (m q : Nat), L.length - q = m → RInv T L.length π X μ0 w0 a0 D q a w μ → ∃ q', RInv T L.length π X μ0 w0 a0 D q' a w μ ∧ (q' < L.length → opC T (X q').o.op = 3)
  | 0, q, hm, iv => ⟨q, iv, fun h => by omega⟩
  | m + 1, q, hm, iv => by
    by_cases hc : opC T (X q).o.op = 3
    · exact ⟨q, iv, fun _ => hc⟩
    · exact RInv.advAll m (q + 1) (by omega) (iv.adv tr od (by omega) hc)
end
end Go.Am
