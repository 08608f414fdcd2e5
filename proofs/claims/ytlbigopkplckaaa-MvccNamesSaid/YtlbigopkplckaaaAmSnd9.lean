/- A region that draws its order: sound in whatever order. With it: 'fun_ok', the whole. -/
import Derived.Test.YtlbigopkplckaaaAmSnd8
namespace Go.Am
open Go

theorem filter_less {l : List Nat} {p p' : Nat → Bool} {i : Nat} (hi : i ∈ l) (h : ∀ x, p' x = true → p x = true) (h1 : p i = true) (h2 : p' i = false) : (l.filter p').length + 1 ≤ (l.filter p).length := by
  have le : ∀ l : List Nat, (l.filter p').length ≤ (l.filter p).length := by
    intro l
    induction l with
    | nil => simp
    | cons x l ih =>
      simp only [List.filter_cons]
      cases hx : p' x with
      | true => rw [h x hx]; simpa using ih
      | false => cases p x <;> simp <;> omega
  induction l with
  | nil => cases hi
  | cons x l ih =>
    simp only [List.filter_cons]
    by_cases hx : i = x
    · subst hx
      rw [h1, h2]; simpa using le l
    · have hl : i ∈ l := by cases hi with
        | head => exact absurd rfl hx
        | tail _ h => exact h
      have := ih hl
      cases hx' : p' x with
      | true => rw [h x hx']; simpa using this
      | false => cases p x <;> simp <;> omega

section
variable {P : Program} {T : Ty} (hT : TyOk P T) {G : Gam} (hG : GamOk P G) {ops : Array Oper} {M π : List Nat} {X : Nat → Rec} (tr : Trk T G ops.toList M π X) (od : Ord T ops.toList M π)
  (an : ∀ j i, (M.getD j 0).testBit i = true → AncOf ops.toList i j)
variable {μ0 : Mu} {w0 : World} {a0 : Act}

include hT hG tr od an in
theorem step_any {D : Nat → Prop} {q : Nat} {a : Act} {w : World} {μ : Mu} {Q : Exit → Act → World → Prop} {K : Act → World → Prop} (iv : RInv T ops.toList.length π X μ0 w0 a0 D q a w μ) (hmax : q < ops.toList.length → opC T (X q).o.op = 3)
    (hdown : Down ops.toList D) {j : Nat} {o : Oper} (hj : ops[j]? = some o) (hnD : ¬ D j) (hdeps : ∀ d ∈ deps o, D d)
    (hK : ∀ a' w' μ' q', RInv T ops.toList.length π X μ0 w0 a0 (fun i => D i ∨ i = j) q' a' w' μ' → (q' < ops.toList.length → opC T (X q').o.op = 3) → K a' w') : wpOp P ops Q j K a w := by
  have hjn : j < ops.toList.length := by
    rw [← Array.getElem?_toList] at hj; exact (List.getElem?_eq_some_iff.1 hj).1
  obtain ⟨p, hpe⟩ : ∃ p, p = π.idxOf j := ⟨_, rfl⟩
  have hp : p < ops.toList.length := by rw [hpe]; exact od.lt j hjn
  have hpi : (X p).i = j := by rw [hpe]; exact at_pos tr od hjn
  have hp' : p < π.length := by rw [od.len]; exact hp
  have ho : (X p).o = o := by
    have := (tr.idx p hp').2
    rw [hpi, Array.getElem?_toList, hj] at this; injection this with this; exact this.symm
  rw [← hpi] at hnD
  subst ho
  have hK' : ∀ a' w' μ' q', RInv T ops.toList.length π X μ0 w0 a0 (fun i => D i ∨ i = (X p).i) q' a' w' μ' → (q' < ops.toList.length → opC T (X q').o.op = 3) → K a' w' := by rw [hpi]; exact hK
  have hlooks := looks_ok tr od an iv hdown hp hnD hdeps
  have hw := guarded_ok' (tr.grd p hp') hlooks
  have hrel : OpsRel μ (evOn (looks ops.toList (X p).o) (X p).env) a.eval := evOn_rel hlooks
  have hev : ∀ x ∈ (X p).o.op.operands, ev (X p).env x = evOn (looks ops.toList (X p).o) (X p).env x := evOn_eq
  unfold wpOp
  rw [hj]
  simp only [hw]
  by_cases hc : opC T (X p).o.op = 3
  · -- it writes: it is the very next
    have hpq : p = q := by
      rcases Nat.lt_trichotomy p q with h | h | h
      · exact absurd (iv.ws p h hc) hnD
      · exact h
      · exfalso
        have hq : q < ops.toList.length := by omega
        have hcq := hmax hq
        have eq := idx_pos tr od hq
        have ep := idx_pos tr od hp
        have lq := (tr.idx q (by rw [od.len]; exact hq)).2
        have lp := (tr.idx p hp').2
        have hne : (X q).i ≠ (X p).i := fun e => by have := idx_inj tr od hq hp e; omega
        rcases pair_cases (od.pair _ _ _ _ lq lp) hne with ⟨h1, _⟩ | ⟨_, h2⟩ | ⟨_, h2, _⟩
        · have hD := an _ _ h1 D (fun oj hoj d hd => by rw [lp] at hoj; injection hoj with hoj; subst hoj; exact hdeps d hd) hdown
          have := iv.dq _ eq.1 hD; omega
        · omega
        · exact h2 ⟨hcq, hc⟩
    subst hpq
    have anc : ∀ p', p' < p → ¬ D (X p').i → Nat.testBit (M.getD (X p).i 0) (X p').i = false := by
      intro p' hp'' hd
      cases ht : Nat.testBit (M.getD (X p).i 0) (X p').i with
      | false => rfl
      | true =>
        have lp := (tr.idx p hp').2
        exact absurd (an _ _ ht D (fun oj hoj d hd => by rw [lp] at hoj; injection hoj with hoj; subst hoj; exact hdeps d hd) hdown) hd
    cases hb : (X p).b with
    | false =>
      simp only [Bool.false_eq_true, if_false]
      obtain ⟨hv, hh⟩ := tr.skip p hp' hb
      have iv' := step_loud (v := undef) tr od an iv hdown hp hnD hdeps hc (by rw [hv]; simp [AV.rel]) (by rw [hh]; exact Post.refl iv.post.rel) (fun p' h1 h2 h3 h4 => by rw [hh]; exact iv.load p' h1 h2 h3 h4)
      obtain ⟨q', iv'', hm⟩ := RInv.advAll tr od _ _ rfl iv'
      exact hK' _ _ _ q' iv'' hm
    | true =>
      simp only [if_true]
      left
      have hrun := tr.run p hp' hb
      rw [opX_congr hev] at hrun
      refine opX_ok hT hG hrun hrel iv.post.rel fun v w' μ' hv hpost => ?_
      have iv' := step_loud tr od an iv hdown hp hnD hdeps hc hv hpost (fun p' h1 h2 h3 h4 => tr.again p hp' hb hc p' h1 h3 h4 (anc p' h1 h2))
      obtain ⟨q', iv'', hm⟩ := RInv.advAll tr od _ _ rfl iv'
      exact hK' _ _ _ q' iv'' hm
  · have hpq : p < q := by
      rcases Nat.lt_or_ge p q with h | h
      · exact h
      · exfalso
        have hq : q < ops.toList.length := by omega
        have hcq := hmax hq
        have eq := idx_pos tr od hq
        have ep := idx_pos tr od hp
        have lq := (tr.idx q (by rw [od.len]; exact hq)).2
        have lp := (tr.idx p hp').2
        have hqp : q ≠ p := fun e => by subst e; exact hc hcq
        have hne : (X q).i ≠ (X p).i := fun e => hqp (idx_inj tr od hq hp e)
        rcases pair_cases (od.pair _ _ _ _ lq lp) hne with ⟨h1, _⟩ | ⟨_, h2⟩ | ⟨_, _, h3⟩
        · have hD := an _ _ h1 D (fun oj hoj d hd => by rw [lp] at hoj; injection hoj with hoj; subst hoj; exact hdeps d hd) hdown
          have := iv.dq _ eq.1 hD; omega
        · omega
        · exact h3 ⟨hcq, by omega⟩
    have quiet : ∀ v, (X p).v.rel μ v → K (a.put (X p).o.dst v) w := fun v hv =>
      hK' _ _ _ q (step_quiet tr od an iv hdown hp hnD hdeps hpq (Le.refl _) hv iv.post (fun p' h1 _ h2 h3 h4 => by
        obtain ⟨_, _, _, _, _, m4, _⟩ := iv.made p' h1 h2 h3 h4; exact m4)) hmax
    cases hb : (X p).b with
    | false =>
      simp only [Bool.false_eq_true, if_false]
      obtain ⟨hv, _⟩ := tr.skip p hp' hb
      exact quiet undef (by rw [hv]; simp [AV.rel])
    | true =>
      simp only [if_true]
      left
      have hrun := tr.run p hp' hb
      rcases opC_le T (X p).o.op with c | c | c | c
      · have h0 := (opX_0 hrun c).1
        rw [opP_congr hev] at h0
        obtain ⟨x, h1, h2⟩ := opP_ok hT h0 hrel
        exact upd_wp (h1 w) (quiet x h2)
      · have h0 := iv.load p hpq hnD hb c
        rw [opR_congr hev] at h0
        obtain ⟨x, h1, h2⟩ := opR_ok hT h0 hrel iv.post.rel
        exact upd_wp h1 (quiet x h2)
      · obtain ⟨k, f, m1, m2, m3, m4, m5, m6, m7⟩ := iv.made p hpq hnD hb c
        rw [opA_congr hev] at m1
        obtain ⟨v, ob, w', q1, q2, q3, q4, q5, q6, _, cs, t, fr, rfl, q7⟩ := opA_ok hT m1 hrel w
        have hle : Le μ (upd μ (X p).h.next (w.heap.size, 0) cs.size) := upd_le _ _ fun z hz => by rw [m4] at hz; cases hz
        have hpost := post_late iv.post m4 m5 m6 q3 q4 q5 q2 rfl (by rw [m3]; exact q6 _ hle)
        refine upd_wp q1 (hK' _ _ _ q (step_quiet tr od an iv hdown hp hnD hdeps hpq hle (by rw [m2]; exact q7 _ _ (upd_self _ _ _ _) (upd_sz _ _ _ _)) hpost fun p' h1 hne h2 h3 h4 => ?_) hmax)
        obtain ⟨_, _, _, _, _, n4, _, _, n7⟩ := iv.made p' h1 h2 h3 h4
        rw [upd_ne]
        · exact n4
        · have hqn := iv.qn
          rcases Nat.lt_or_ge p p' with h | h
          · have := iv.mono (p + 1) p' (by omega) (by omega); omega
          · have := iv.mono (p' + 1) p (by omega) (by omega); omega
      · exact absurd c hc

include hT hG tr od an in
theorem any_ok {Q : Exit → Act → World → Prop} (hQ : ∀ a w μ, RInv T ops.toList.length π X μ0 w0 a0 (fun i => i < ops.toList.length) ops.toList.length a w μ → Q .normal a w) :
    ∀ (fuel : Nat) (listed : Array Bool) (a : Act) (w : World) (μ : Mu) (q : Nat), listed.size = ops.size → ((List.range ops.size).filter fun i => listed.getD i false == false).length ≤ fuel →
      RInv T ops.toList.length π X μ0 w0 a0 (fun i => listed.getD i false = true) q a w μ → (q < ops.toList.length → opC T (X q).o.op = 3) → Down ops.toList (fun i => listed.getD i false = true) →
      wpAny P .any ops Q fuel listed a w := by
  have hlen : ops.toList.length = ops.size := by simp
  have mem : ∀ {listed : Array Bool} {i : Nat} {o : Oper}, ops[i]? = some o → ((∀ e ∈ o.after, Region.binds .any e = true → listed.getD e.on false = true) ↔ ∀ d ∈ deps o, listed.getD d false = true) := by
    intro listed i o _
    unfold deps
    constructor
    · intro h d hd
      rw [List.mem_filterMap] at hd
      obtain ⟨e, he, hb⟩ := hd
      split at hb
      · injection hb with hb; subst hb; exact h e (by simpa using he) (by assumption)
      · cases hb
    · intro h e he hb
      exact h e.on (by rw [List.mem_filterMap]; exact ⟨e, by simpa using he, by rw [if_pos hb]⟩)
  have atEnd : ∀ (listed : Array Bool) (a : Act) (w : World) (μ : Mu) (q : Nat), listed.size = ops.size → RInv T ops.toList.length π X μ0 w0 a0 (fun i => listed.getD i false = true) q a w μ → (q < ops.toList.length → opC T (X q).o.op = 3) →
      Region.ready .any ops listed = [] → Q .normal a w := by
    intro listed a w μ q hs iv hmax hr
    have all : ∀ i, i < ops.size → listed.getD i false = true := by
      intro i
      induction i using Nat.strongRecOn with
      | _ i ih =>
        intro hi
        have hoi : ops[i]? = some ops[i] := by simp [hi]
        cases hl : listed.getD i false with
        | true => rfl
        | false =>
          have : i ∈ Region.ready .any ops listed := by
            rw [mem_ready]
            refine ⟨?_, ops[i], hoi, (mem hoi).2 fun d hd => ?_⟩
            · have : i < listed.size := by omega
              simp [this] at hl ⊢; exact hl
            · have hd' := od.dep i ops[i] (by rw [Array.getElem?_toList]; exact hoi) d hd
              exact ih d hd' (by omega)
          rw [hr] at this; cases this
    have hq : q = ops.toList.length := by
      rcases Nat.lt_or_ge q ops.toList.length with h | h
      · have e := idx_pos tr od h
        have := iv.dq _ e.1 (all _ (by rw [← hlen]; exact e.1)); omega
      · have := iv.qn; omega
    subst hq
    refine hQ a w μ ?_
    have hiff : ∀ p, p < ops.toList.length → (((X p).i < ops.toList.length) ↔ listed.getD (X p).i false = true) := fun p hp =>
      ⟨fun h => all _ (by rw [← hlen]; exact h), fun _ => (idx_pos tr od hp).1⟩
    refine ⟨iv.qn, fun p h1 _ => (idx_pos tr od h1).1, fun i hi _ => by rw [show ops.toList.length = ops.toList.length from rfl]; exact od.lt i hi, iv.post, iv.defers, iv.size, fun t => ?_, iv.mono, fun p h1 h2 => absurd (idx_pos tr od h1).1 h2, fun p h1 h2 => absurd (idx_pos tr od h1).1 h2⟩
    rcases iv.tmp t with ⟨p, g1, g2, g3, g4, g5⟩ | ⟨g1, g2⟩
    · exact .inl ⟨p, g1, (idx_pos tr od g1).1, g3, fun p' h1 h2 _ => g4 p' h1 h2 (all _ (by rw [← hlen]; exact (idx_pos tr od h2).1)), g5⟩
    · exact .inr ⟨fun p h1 _ => g1 p h1 (all _ (by rw [← hlen]; exact (idx_pos tr od h1).1)), g2⟩
  intro fuel
  induction fuel with
  | zero =>
    intro listed a w μ q hs hf iv hmax hdown
    have hr : Region.ready .any ops listed = [] := by
      rw [List.eq_nil_iff_forall_not_mem]
      intro i hi
      obtain ⟨h0, o, ho, _⟩ := mem_ready.1 hi
      have hi' : i < ops.size := (Array.getElem?_eq_some_iff.1 ho).1
      have : i ∈ (List.range ops.size).filter fun i => listed.getD i false == false := by
        rw [List.mem_filter, List.mem_range]
        refine ⟨hi', ?_⟩
        have : i < listed.size := by omega
        simp [this] at h0 ⊢; exact h0
      have hl := List.length_pos_of_mem this
      omega
    exact ⟨hr, atEnd listed a w μ q hs iv hmax hr⟩
  | succ fuel ih =>
    intro listed a w μ q hs hf iv hmax hdown
    refine ⟨atEnd listed a w μ q hs iv hmax, fun i hi => ?_⟩
    obtain ⟨h0, o, ho, hall⟩ := mem_ready.1 hi
    have hi' : i < ops.size := (Array.getElem?_eq_some_iff.1 ho).1
    have hil : i < listed.size := by omega
    have hfalse : listed.getD i false = false := by simp [hil] at h0 ⊢; exact h0
    have hdeps := (mem ho).1 hall
    have hset : ∀ x, ((listed.setIfInBounds i true).getD x false = true) ↔ (listed.getD x false = true ∨ x = i) := by
      intro x
      by_cases hx : i = x
      · subst hx; simp [hil]
      · rw [getD_set_ne false hx]
        constructor
        · exact .inl
        · rintro (h | h)
          · exact h
          · exact absurd h.symm hx
    have hsetEq : (fun x => (listed.setIfInBounds i true).getD x false = true) = (fun x => listed.getD x false = true ∨ x = i) := funext fun x => propext (hset x)
    refine step_any hT hG tr od an iv hmax hdown ho (by rw [hfalse]; simp) hdeps fun a' w' μ' q' iv' hmax' => ?_
    refine ih (listed.setIfInBounds i true) a' w' μ' q' (by simpa using hs) ?_ (by rw [hsetEq]; exact iv') hmax' ?_
    · have := filter_less (l := List.range ops.size) (p := fun i => listed.getD i false == false) (p' := fun x => (listed.setIfInBounds i true).getD x false == false) (i := i) (by simpa using hi') (fun x hx => by
        have := (hset x)
        cases hl : listed.getD x false with
        | false => rfl
        | true =>
          rw [beq_iff_eq] at hx
          have := this.2 (.inl hl)
          rw [hx] at this; cases this) (by rw [hfalse]; rfl) (by
        have := (hset i).2 (.inr rfl); rw [this]; rfl)
      omega
    · intro x ox d hx hox hd
      rw [hset] at hx ⊢
      rcases hx with hx | hx
      · exact .inl (hdown x ox d hx hox hd)
      · subst hx
        rw [Array.getElem?_toList, ho] at hox; injection hox with hox; subst hox
        exact .inl (hdeps d hd)
end

theorem drawOk {P : Program} {T : Ty} (hT : TyOk P T) : DrawOk P T := by
  intro G hG ops k res Q env h μ a w hok hrun he hR hq
  have od := orderOk_ord hok
  obtain ⟨X, tr, x1, x2, x3, _⟩ := runOrd_tr _ _ _ _ hrun
  have an := masks_ok ops.toList ops.toList [] rfl (fun j i hb => by simp at hb)
  have hlen : ops.toList.length = ops.size := by simp
  have iv0 : RInv T ops.toList.length (order T ops.toList) X μ w a (fun i => (Array.replicate ops.size false).getD i false = true) 0 a w μ := by
    have nof : ∀ i, ¬ ((Array.replicate ops.size false).getD i false = true) := fun i hi => by
      by_cases h : i < ops.size <;> simp [h] at hi
    refine ⟨Nat.zero_le _, fun p hp => by omega, fun i _ hd => absurd hd (nof i), by rw [x2]; exact Post.refl hR, rfl, by rw [x1]; exact he.len, fun t => .inr ⟨fun p hp => by omega, by rw [x1]; exact he.get t⟩, fun p p' hp hp' => by
      have h1 : p = 0 := by omega
      have h2 : p' = 0 := by omega
      rw [h1, h2]; exact Nat.le_refl _, fun p hp => by omega, fun p hp => by omega⟩
  obtain ⟨q, iv, hmax⟩ := RInv.advAll tr od _ _ rfl iv0
  refine any_ok hT hG tr od an ?_ ops.size (Array.replicate ops.size false) a w μ q (by simp) (by
    refine Nat.le_trans (List.length_filter_le _ _) (by simp)) iv hmax (fun x ox d hx => by
      exfalso; by_cases h : x < ops.size <;> simp [h] at hx)
  intro a' w' μ' iv'
  have hlenπ := od.len
  have ec := fun t => env_char tr t ops.toList.length (by rw [hlenπ]; exact Nat.le_refl _)
  refine hq μ' (X ops.toList.length).env (X ops.toList.length).h a' w' ⟨by rw [← x2]; exact iv'.post, ⟨fun t => ?_, ?_⟩, iv'.defers⟩ (by rw [← hlenπ]; exact x3) (fun t ht => ?_) (by rw [(ec 0).1, x1])
  · rcases (ec t).2 with ⟨p1, h1, h2, h3, h4⟩ | ⟨h1, h2⟩
    · rw [h4]
      split
      · rename_i hlt
        rcases iv'.tmp t with ⟨p2, g1, g2, g3, g4, g5⟩ | ⟨g1, _⟩
        · have : p1 = p2 := by
            rcases Nat.lt_trichotomy p1 p2 with c | c | c
            · exact absurd g3 (h3 p2 c g1)
            · exact c
            · exact absurd h2 (g4 p1 c h1 (idx_pos tr od h1).1)
          subst this; exact g5 hlt
        · exact absurd h2 (g1 p1 h1 (idx_pos tr od h1).1)
      · simp [AV.rel]
    · rw [h2]
      rcases iv'.tmp t with ⟨p2, g1, g2, g3, g4, g5⟩ | ⟨_, g2⟩
      · exact absurd g3 (h1 p2 g1)
      · exact g2
  · rw [(ec 0).1]; exact iv'.size
  · rcases (ec t).2 with ⟨p1, h1, h2, h3, h4⟩ | ⟨h1, h2⟩
    · have := (tr.idx p1 (by rw [hlenπ]; exact h1)).2
      rw [Array.getElem?_toList] at this
      exact absurd h2 (ht _ (Array.mem_of_getElem? this))
    · rw [h2, x1]

/-- a function's body is what its denotation says -/
theorem fun_ok {P : Program} {T : Ty} (hT : TyOk P T) (hm : P.follows .mixedOrders = true) {G : Gam} (hG : GamOk P G) {f : FuncId} {fn : Func} (hf : P.funcs[f]? = some fn) (hcall : ∀ args w, (callFunc f args).run P w = .ok (.enter f args) w) : FunOk P f (denF T G fn) :=
  denF_ok hT hm (drawOk hT) hG hf hcall
end Go.Am
