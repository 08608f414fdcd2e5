/- A region that draws its order: sound in whatever order. With it: 'fun_ok', the whole. -/
import Derived.Test.YtdaibgpceldbdaaGreatDoorAmSnd8
namespace Go.Am
open Go

theorem filter_less {l : List Nat} {p p' : Nat → Bool} {i : Nat} (hi : i ∈ l) (h : ∀ x, p' x = true → p x = true) (h1 : p i = true) (h2 : p' i = false) : (l.filter p').length + 1 ≤ (l.filter p).length := by
  have le : ∀ l : List Nat, (l.filter p').length ≤ (l.filter p).length := by
    intro l
    induction l with
    | nil => simp
    | cons x l ih =>
      simp only [List.filter_cons]
      cases hx : p' x with
      | true => rw [h x hx]; simpa using ih
      | false => cases p x <;> simp <;> omega
  induction l with
  | nil => cases hi
  | cons x l ih =>
    simp only [List.filter_cons]
    by_cases hx : i = x
    · subst hx
      rw [h1, h2]; simpa using le l
    · have hl : i ∈ l := by cases hi with
        | head => exact absurd rfl hx
        | tail _ h => exact h
      have := ih hl
      cases hx' : p' x with
      | true => rw [h x hx']; simpa using this
      | false => cases p x <;> simp <;> omega

section
variable {P : Program} {T : Ty} (hT : TyOk P T) {G : Gam} (hG : GamOk P G) {F : Fence} (hF : WideF F) {n : Nat} {ops : Array Oper} {M π : List Nat} {env0 : List AV} {h0 : H} (od : Ord T ops.toList M π)
  (an : ∀ j i, (M.getD j 0).testBit i = true → AncOf ops.toList i j)
variable {μ0 : Mu} {w0 : World} {a0 : Act} {k : List AV → H → Prop}

/-- where a drawn order stands -/
def At (T : Ty) (G : Gam) (ops : Array Oper) (M π : List Nat) (env0 : List AV) (h0 : H) (k : List AV → H → Prop) (μ0 : Mu) (w0 : World) (a0 : Act) (D : Nat → Prop) (a : Act) (w : World) (μ : Mu) : Prop :=
  ∃ q X, Trk T ops.toList π env0 h0 X q ∧ Pend T G ops.toList M π X q k ∧ RInv T ops.toList.length π env0 h0 X μ0 w0 a0 D q a w μ ∧ (q < ops.toList.length → opC T (X q).o.op = 3)
theorem Trk.weak {T : Ty} {L : List Oper} {π : List Nat} {env0 : List AV} {h0 : H} {X : Nat → Rec} {q q' : Nat} (tr : Trk T L π env0 h0 X q) (h : q' ≤ q) : Trk T L π env0 h0 X q' :=
  ⟨tr.idx, tr.zenv, tr.zh, fun p hp => tr.grd p (by omega), fun p hp => tr.skip p (by omega), fun p hp => tr.run0 p (by omega), fun p hp => tr.run1 p (by omega), fun p hp => tr.run2 p (by omega), fun p hp => tr.env p (by omega)⟩

include hT hG hF od an in
theorem step_any {D : Nat → Prop} {a : Act} {w : World} {μ : Mu} {Q : Exit → Act → World → Prop} {K : Act → World → Prop} (at_ : At T G ops M π env0 h0 k μ0 w0 a0 D a w μ)
    (hdown : Down ops.toList D) {j : Nat} {o : Oper} (hj : ops[j]? = some o) (hnD : ¬ D j) (hdeps : ∀ d ∈ deps o, D d)
    (hK : ∀ a' w' μ', At T G ops M π env0 h0 k μ0 w0 a0 (fun i => D i ∨ i = j) a' w' μ' → K a' w') : wpOpIn F n P ops Q j K a w := by
  obtain ⟨q, X, tr, pd, iv, hmax⟩ := at_
  have hjn : j < ops.toList.length := by
    rw [← Array.getElem?_toList] at hj; exact (List.getElem?_eq_some_iff.1 hj).1
  obtain ⟨p, hpe⟩ : ∃ p, p = π.idxOf j := ⟨_, rfl⟩
  have hp : p < ops.toList.length := by rw [hpe]; exact od.lt j hjn
  have hpi : (X p).i = j := by rw [hpe]; exact at_pos tr od hjn
  have hp' : p < π.length := by rw [od.len]; exact hp
  have ho : (X p).o = o := by
    have := (tr.idx p hp').2
    rw [hpi, Array.getElem?_toList, hj] at this; injection this with this; exact this.symm
  rw [← hpi] at hnD
  subst ho
  have hcase : (p = q ∧ opC T (X p).o.op = 3) ∨ (p < q ∧ opC T (X p).o.op ≠ 3) := by
    by_cases hc : opC T (X p).o.op = 3
    · refine .inl ⟨?_, hc⟩
      rcases Nat.lt_trichotomy p q with h | h | h
      · exact absurd (iv.ws p h hc) hnD
      · exact h
      · exfalso
        have hq : q < ops.toList.length := by omega
        have hcq := hmax hq
        have eq := idx_pos tr od hq
        have ep := idx_pos tr od hp
        have lq := (tr.idx q (by rw [od.len]; exact hq)).2
        have lp := (tr.idx p hp').2
        have hne : (X q).i ≠ (X p).i := fun e => by have := idx_inj tr od hq hp e; omega
        rcases pair_cases (od.pair _ _ _ _ lq lp) hne with ⟨h1, _⟩ | ⟨_, h2⟩ | ⟨_, h2, _⟩
        · have hD := an _ _ h1 D (fun oj hoj d hd => by rw [lp] at hoj; injection hoj with hoj; subst hoj; exact hdeps d hd) hdown
          have := iv.dq _ eq.1 hD; omega
        · omega
        · exact h2 ⟨hcq, hc⟩
    · refine .inr ⟨?_, hc⟩
      rcases Nat.lt_or_ge p q with h | h
      · exact h
      · exfalso
        have hq : q < ops.toList.length := by omega
        have hcq := hmax hq
        have eq := idx_pos tr od hq
        have ep := idx_pos tr od hp
        have lq := (tr.idx q (by rw [od.len]; exact hq)).2
        have lp := (tr.idx p hp').2
        have hqp : q ≠ p := fun e => by subst e; exact hc hcq
        have hne : (X q).i ≠ (X p).i := fun e => hqp (idx_inj tr od hq hp e)
        rcases pair_cases (od.pair _ _ _ _ lq lp) hne with ⟨h1, _⟩ | ⟨_, h2⟩ | ⟨_, _, h3⟩
        · have hD := an _ _ h1 D (fun oj hoj d hd => by rw [lp] at hoj; injection hoj with hoj; subst hoj; exact hdeps d hd) hdown
          have := iv.dq _ eq.1 hD; omega
        · omega
        · exact h3 ⟨hcq, by omega⟩
  have hpq : p ≤ q := by rcases hcase with ⟨h, _⟩ | ⟨h, _⟩ <;> omega
  have hlooks := looks_ok tr od an iv hdown hp hpq hnD hdeps
  have hslot : ∀ d ∈ guardSlot ops.toList (X p).o, ((X p).env.getD d .junk).rel μ (a.tmps.getD d undef) := fun d hd => hlooks d (guardSlot_looks hd)
  have hrel : OpsRel μ (evOn (looks ops.toList (X p).o) (X p).env) a.eval := evOn_rel hlooks
  have hev : ∀ x ∈ (X p).o.op.operands, ev (X p).env x = evOn (looks ops.toList (X p).o) (X p).env x := evOn_eq
  unfold wpOpIn
  rw [hj]
  simp only
  rcases hcase with ⟨rfl, hc⟩ | ⟨hlt, hc⟩
  · -- it writes: it is the very next
    obtain ⟨seen, hrun, hseen⟩ := pd
    obtain ⟨i1, i2⟩ := tr.idx p hp'
    rw [drop_at hp', ← i1] at hrun
    unfold runOrd at hrun
    rw [i2] at hrun
    simp only [hc] at hrun
    have anc : ∀ p', p' < p → ¬ D (X p').i → Nat.testBit (M.getD (X p).i 0) (X p').i = false := by
      intro p' hp'' hd
      cases ht : Nat.testBit (M.getD (X p).i 0) (X p').i with
      | false => rfl
      | true =>
        have lp := (tr.idx p hp').2
        exact absurd (an _ _ ht D (fun oj hoj d hd => by rw [lp] at hoj; injection hoj with hoj; subst hoj; exact hdeps d hd) hdown) hd
    -- once it is known what it gave
    have fin : ∀ (b : Bool) (r : AV) (h' : H) (v : Value) (w' : World) (μ' : Mu), GrdIs ops.toList (X p).o (X p).env b → (b = false → r = skipV ∧ h' = (X p).h) → r.rel μ' v → Post μ (X p).h w μ' h' w' →
        (rereadK T (M.getD (X p).i 0) h' (putE (X p).o.dst r (X p).env fun env => runOrd T G ops.toList M (π.drop (p + 1)) seen env h' k) seen) → K (a.put (X p).o.dst v) w' := by
      intro b r h' v w' μ' g1 g2 hv hpost e
      obtain ⟨e1, again⟩ := rereadK_ok e
      rw [putE_eq] at e1
      have trY := tr.ext (v := r) (h' := h') g1 g2 (fun _ c => by rw [hc] at c; cases c) (fun _ c => by rw [hc] at c; cases c) (fun _ c => by rw [hc] at c; cases c)
      have pdY : Pend T G ops.toList M π (extX X p b r (put (X p).o.dst r (X p).env) h') (p + 1) k := by
        refine ⟨seen, by rw [extX_next]; exact e1, fun p1 hp1 hb hc1 => ?_⟩
        rcases Nat.lt_or_ge p1 p with hlt | hge
        · rw [extX_lt hlt] at hb hc1 ⊢; exact hseen p1 hlt hb hc1
        · have : p1 = p := by omega
          subst this
          rw [extX_o, hc] at hc1; cases hc1
      have ivY := iv.congr (Y := extX X p b r (put (X p).o.dst r (X p).env) h') (fun p1 h => extX_lt h) (extX_h (Nat.le_refl _))
      have iv2 := step_loud (w' := w') (μ' := μ') (v := v) (trY.weak (Nat.le_succ p)) od an ivY hdown hp (by rw [extX_i]; exact hnD) (by rw [extX_o]; exact hdeps) (by rw [extX_o]; exact hc) (by rw [extX_at]; exact hv)
        (by rw [extX_at, extX_next]; exact hpost) (fun p1 h1 h2 h3 h4 => by
          rw [extX_lt h1] at h2 h3 h4 ⊢; rw [extX_next]
          exact again _ (hseen p1 h1 h3 h4) rfl (anc p1 h1 h2))
      rw [extX_i, extX_o, hpi] at iv2
      obtain ⟨q', Z, z1, z2, z3, _, z5⟩ := canon_all od _ _ _ rfl trY pdY iv2
      exact hK _ _ _ ⟨q', Z, z1, z2, z3, z5⟩
    rcases guardK_is hrun with ⟨g, e⟩ | ⟨g, e⟩
    · rw [g.wanted hslot]
      simp only [if_true]
      obtain ⟨K', e1, e2⟩ := opF_imp e
      rw [opX_congr hev] at e1
      exact opX_ok hT hG hF e1 hrel iv.post.rel fun v w' μ' r h' hv hpost hk => fin true r h' v w' μ' g (fun h => by cases h) hv hpost (e2 r h' hk)
    · rw [g.wanted hslot]
      simp only [Bool.false_eq_true, if_false]
      exact ⟨fun f _ => hF.fn f, fin false skipV (X p).h undef w μ g (fun _ => ⟨rfl, rfl⟩) skipV_rel (Post.refl iv.post.rel) e⟩
  · rw [(tr.grd p hlt).wanted hslot]
    have quiet : ∀ v, (X p).v.rel μ v → K (a.put (X p).o.dst v) w := fun v hv => by
      have iv2 := step_quiet tr od an iv hdown hp hnD hdeps hlt (Le.refl _) hv iv.post (fun p' h1 _ h2 h3 h4 => by
        obtain ⟨_, _, _, _, _, m4, _⟩ := iv.made p' h1 h2 h3 h4; exact m4)
      rw [hpi] at iv2
      exact hK _ _ _ ⟨q, X, tr, pd, iv2, hmax⟩
    cases hb : (X p).b with
    | false =>
      simp only [Bool.false_eq_true, if_false]
      exact ⟨fun f _ => hF.fn f, quiet undef (by rw [(tr.skip p hlt hb).1]; exact skipV_rel)⟩
    | true =>
      simp only [if_true]
      rcases opC_le T (X p).o.op with c | c | c | c
      · have h0' := (tr.run0 p hlt hb c).1
        rw [opP_congr hev] at h0'
        obtain ⟨x, h1, h2⟩ := opP_ok hT h0' hrel
        exact upd_wp hF (fun cc e => by rw [e] at h0'; cases h0') (h1 w) (quiet x h2)
      · have h0' := iv.load p hlt hnD hb c
        rw [opR_congr hev] at h0'
        obtain ⟨x, h1, h2⟩ := opR_ok hT h0' hrel iv.post.rel
        exact upd_wp hF (fun cc e => by rw [e] at h0'; cases h0') h1 (quiet x h2)
      · obtain ⟨kk, f, m1, m2, m3, m4, m5, m6, m7⟩ := iv.made p hlt hnD hb c
        rw [opA_congr hev] at m1
        obtain ⟨v, ob, w', q1, q2, q3, q4, q5, q6, _, cs, t, fr, rfl, q7⟩ := opA_ok hT m1 hrel w
        have hle : Le μ (upd μ (X p).h.next (w.heap.size, 0) cs.size) := upd_le _ _ fun z hz => by rw [m4] at hz; cases hz
        have hpost := post_late iv.post m4 m5 m6 q3 q4 q5 q2 rfl (by rw [m3]; exact q6 _ hle)
        refine upd_wp hF (fun cc e => by rw [e] at m1; cases m1) q1 ?_
        have iv2 := step_quiet tr od an iv hdown hp hnD hdeps hlt hle (by rw [m2]; exact q7 _ _ (upd_self _ _ _ _) (upd_sz _ _ _ _)) hpost fun p' h1 hne h2 h3 h4 => by
          obtain ⟨_, _, _, _, _, n4, _, _, n7⟩ := iv.made p' h1 h2 h3 h4
          rw [upd_ne]
          · exact n4
          · have hqn := iv.qn
            rcases Nat.lt_or_ge p p' with h | h
            · have := iv.mono (p + 1) p' (by omega) (by omega); omega
            · have := iv.mono (p' + 1) p (by omega) (by omega); omega
        rw [hpi] at iv2
        exact hK _ _ _ ⟨q, X, tr, pd, iv2, hmax⟩
      · exact absurd c hc

include hT hG hF od an in
theorem any_ok {Q : Exit → Act → World → Prop} (hQ : ∀ a w μ, At T G ops M π env0 h0 k μ0 w0 a0 (fun i => i < ops.toList.length) a w μ → Q .normal a w) :
    ∀ (fuel : Nat) (listed : Array Bool) (a : Act) (w : World) (μ : Mu), listed.size = ops.size → ((List.range ops.size).filter fun i => listed.getD i false == false).length ≤ fuel →
      At T G ops M π env0 h0 k μ0 w0 a0 (fun i => listed.getD i false = true) a w μ → Down ops.toList (fun i => listed.getD i false = true) →
      wpAnyIn F n P .any ops Q fuel listed a w := by
  have hlen : ops.toList.length = ops.size := by simp
  have mem : ∀ {listed : Array Bool} {i : Nat} {o : Oper}, ops[i]? = some o → ((∀ e ∈ o.after, Region.binds .any e = true → listed.getD e.on false = true) ↔ ∀ d ∈ deps o, listed.getD d false = true) := by
    intro listed i o _
    unfold deps
    constructor
    · intro h d hd
      rw [List.mem_filterMap] at hd
      obtain ⟨e, he, hb⟩ := hd
      split at hb
      · injection hb with hb; subst hb; exact h e (by simpa using he) (by assumption)
      · cases hb
    · intro h e he hb
      exact h e.on (by rw [List.mem_filterMap]; exact ⟨e, by simpa using he, by rw [if_pos hb]⟩)
  have atEnd : ∀ (listed : Array Bool) (a : Act) (w : World) (μ : Mu), listed.size = ops.size → At T G ops M π env0 h0 k μ0 w0 a0 (fun i => listed.getD i false = true) a w μ →
      Region.ready .any ops listed = [] → Q .normal a w := by
    intro listed a w μ hs at_ hr
    have all : ∀ i, i < ops.size → listed.getD i false = true := by
      intro i
      induction i using Nat.strongRecOn with
      | _ i ih =>
        intro hi
        have hoi : ops[i]? = some ops[i] := by simp [hi]
        cases hl : listed.getD i false with
        | true => rfl
        | false =>
          have : i ∈ Region.ready .any ops listed := by
            rw [mem_ready]
            refine ⟨?_, ops[i], hoi, (mem hoi).2 fun d hd => ?_⟩
            · have : i < listed.size := by omega
              simp [this] at hl ⊢; exact hl
            · have hd' := od.dep i ops[i] (by rw [Array.getElem?_toList]; exact hoi) d hd
              exact ih d hd' (by omega)
          rw [hr] at this; cases this
    have hDeq : (fun i => listed.getD i false = true) = (fun i => i < ops.toList.length) ∨ True := .inr trivial
    obtain ⟨q, X, tr, pd, iv, hmax⟩ := at_
    have hiff : ∀ p, p < ops.toList.length → (((X p).i < ops.toList.length) ↔ listed.getD (X p).i false = true) := fun p hp =>
      ⟨fun h => all _ (by rw [← hlen]; exact h), fun _ => (idx_pos tr od hp).1⟩
    have hqn := iv.qn
    refine hQ a w μ ⟨q, X, tr, pd, ⟨iv.qn, fun p h1 h3 => (idx_pos tr od (by omega)).1, fun i hi _ => iv.dq i hi (all i (by rw [← hlen]; exact hi)), iv.post, iv.defers, iv.size, fun t => ?_, iv.mono, fun p h1 h2 => absurd (idx_pos tr od (by omega)).1 h2, fun p h1 h2 => absurd (idx_pos tr od (by omega)).1 h2⟩, hmax⟩
    rcases iv.tmp t with ⟨p, g1, g2, g3, g4, g5⟩ | ⟨g1, g2⟩
    · exact .inl ⟨p, g1, (idx_pos tr od (by omega)).1, g3, fun p' h1 h2 _ => g4 p' h1 h2 (all _ (by rw [← hlen]; exact (idx_pos tr od (by omega)).1)), g5⟩
    · exact .inr ⟨fun p h1 _ => g1 p h1 (all _ (by rw [← hlen]; exact (idx_pos tr od (by omega)).1)), g2⟩
  intro fuel
  induction fuel with
  | zero =>
    intro listed a w μ hs hf at_ hdown
    have hr : Region.ready .any ops listed = [] := by
      rw [List.eq_nil_iff_forall_not_mem]
      intro i hi
      obtain ⟨h0, o, ho, _⟩ := mem_ready.1 hi
      have hi' : i < ops.size := (Array.getElem?_eq_some_iff.1 ho).1
      have : i ∈ (List.range ops.size).filter fun i => listed.getD i false == false := by
        rw [List.mem_filter, List.mem_range]
        refine ⟨hi', ?_⟩
        have : i < listed.size := by omega
        simp [this] at h0 ⊢; exact h0
      have hl := List.length_pos_of_mem this
      omega
    exact ⟨hr, atEnd listed a w μ hs at_ hr⟩
  | succ fuel ih =>
    intro listed a w μ hs hf at_ hdown
    refine ⟨atEnd listed a w μ hs at_, fun i hi => ?_⟩
    obtain ⟨h0, o, ho, hall⟩ := mem_ready.1 hi
    have hi' : i < ops.size := (Array.getElem?_eq_some_iff.1 ho).1
    have hil : i < listed.size := by omega
    have hfalse : listed.getD i false = false := by simp [hil] at h0 ⊢; exact h0
    have hdeps := (mem ho).1 hall
    have hset : ∀ x, ((listed.setIfInBounds i true).getD x false = true) ↔ (listed.getD x false = true ∨ x = i) := by
      intro x
      by_cases hx : i = x
      · subst hx; simp [hil]
      · rw [getD_set_ne false hx]
        constructor
        · exact .inl
        · rintro (h | h)
          · exact h
          · exact absurd h.symm hx
    have hsetEq : (fun x => (listed.setIfInBounds i true).getD x false = true) = (fun x => listed.getD x false = true ∨ x = i) := funext fun x => propext (hset x)
    refine step_any hT hG hF od an at_ hdown ho (by rw [hfalse]; simp) hdeps fun a' w' μ' at' => ?_
    refine ih (listed.setIfInBounds i true) a' w' μ' (by simpa using hs) ?_ (by rw [hsetEq]; exact at') ?_
    · have := filter_less (l := List.range ops.size) (p := fun i => listed.getD i false == false) (p' := fun x => (listed.setIfInBounds i true).getD x false == false) (i := i) (by simpa using hi') (fun x hx => by
        have := (hset x)
        cases hl : listed.getD x false with
        | false => rfl
        | true =>
          rw [beq_iff_eq] at hx
          have := this.2 (.inl hl)
          rw [hx] at this; cases this) (by rw [hfalse]; rfl) (by
        have := (hset i).2 (.inr rfl); rw [this]; rfl)
      omega
    · intro x ox d hx hox hd
      rw [hset] at hx ⊢
      rcases hx with hx | hx
      · exact .inl (hdown x ox d hx hox hd)
      · subst hx
        rw [Array.getElem?_toList, ho] at hox; injection hox with hox; subst hox
        exact .inl (hdeps d hd)
end

theorem draw_ok {P : Program} {T : Ty} (hT : TyOk P T) {G : Gam} (hG : GamOk P G) {F : Fence} (hF : WideF F) {n : Nat} {ops : Array Oper} {k : List AV → H → Prop} {Q : Exit → Act → World → Prop} {env : List AV} {h : H} {μ : Mu} {a : Act} {w : World}
    (hok : orderOk T ops.toList (masks ops.toList []) (order T ops.toList) = true) (hrun : runOrd T G ops.toList (masks ops.toList []) (order T ops.toList) [] env h k) (he : EnvRel μ env a.tmps) (hR : Rel μ h w)
    (hq : ∀ μ' env' h' a' w', Post μ h w μ' h' w' → EnvRel μ' env' a'.tmps → a'.defers = a.defers → k env' h' → env'.length = env.length → Q .normal a' w') :
    wpAnyIn F n P .any ops Q ops.size (Array.replicate ops.size false) a w := by
  have od := orderOk_ord hok
  have an := masks_ok ops.toList ops.toList [] rfl (fun j i hb => by simp at hb)
  have hlen : ops.toList.length = ops.size := by simp
  obtain ⟨π, hπ⟩ : ∃ π, π = order T ops.toList := ⟨_, rfl⟩
  rw [← hπ] at hrun od
  obtain ⟨X, hX⟩ : ∃ X : Nat → Rec, X = fun p => ⟨π.getD p 0, (ops.toList[π.getD p 0]?).getD default, true, env, h, .junk⟩ := ⟨_, rfl⟩
  have tr0 : Trk T ops.toList π env h X 0 := by
    refine ⟨fun p hp => ?_, by rw [hX], by rw [hX], fun p hp => by omega, fun p hp => by omega, fun p hp => by omega, fun p hp => by omega, fun p hp => by omega, fun p hp => by omega⟩
    have := (od.pos p (by rw [← od.len]; exact hp)).2
    subst hX
    refine ⟨rfl, ?_⟩
    show ops.toList[π.getD p 0]? = some ((ops.toList[π.getD p 0]?).getD default)
    rw [List.getElem?_eq_getElem this]; rfl
  have pd0 : Pend T G ops.toList (masks ops.toList []) π X 0 k := ⟨[], by rw [List.drop_zero, tr0.zenv, tr0.zh]; exact hrun, fun p hp => by omega⟩
  have nof : ∀ i, ¬ ((Array.replicate ops.size false).getD i false = true) := fun i hi => by
    by_cases h : i < ops.size <;> simp [h] at hi
  have iv0 : RInv T ops.toList.length π env h X μ w a (fun i => (Array.replicate ops.size false).getD i false = true) 0 a w μ := by
    refine ⟨Nat.zero_le _, fun p hp => by omega, fun i _ hd => absurd hd (nof i), by rw [tr0.zh]; exact Post.refl hR, rfl, he.len, fun t => .inr ⟨fun p hp => by omega, he.get t⟩, fun p p' hp hp' => by
      have h1 : p = 0 := by omega
      have h2 : p' = 0 := by omega
      rw [h1, h2]; exact Nat.le_refl _, fun p hp => by omega, fun p hp => by omega⟩
  obtain ⟨q, Y, y1, y2, y3, _, y5⟩ := canon_all od _ _ _ rfl tr0 pd0 iv0
  refine any_ok hT hG hF od an ?_ ops.size (Array.replicate ops.size false) a w μ (by simp) (by
    refine Nat.le_trans (List.length_filter_le _ _) (by simp)) ⟨q, Y, y1, y2, y3, y5⟩ (fun x ox d hx => by
      exfalso; by_cases h : x < ops.size <;> simp [h] at hx)
  intro a' w' μ' at'
  obtain ⟨q, X, tr, pd, iv, hmax⟩ := at'
  have hqn := iv.qn
  have hq' : q = ops.toList.length := by
    rcases Nat.lt_or_ge q ops.toList.length with h | h
    · have e := idx_pos tr od h
      have := iv.dq _ e.1 e.1; omega
    · omega
  subst hq'
  obtain ⟨seen, hrun', _⟩ := pd
  rw [List.drop_eq_nil_of_le (by rw [od.len]; exact Nat.le_refl _)] at hrun'
  have hk : k (X ops.toList.length).env (X ops.toList.length).h := hrun'
  have ec := fun t => env_char tr t ops.toList.length (Nat.le_refl _)
  refine hq μ' (X ops.toList.length).env (X ops.toList.length).h a' w' iv.post ⟨fun t => ?_, by rw [(ec 0).1]; exact iv.size⟩ iv.defers hk (ec 0).1
  rcases (ec t).2 with ⟨p1, h1, h2, h3, h4⟩ | ⟨h1, h2⟩
  · rw [h4]
    split
    · rename_i hlt
      rcases iv.tmp t with ⟨p2, g1, g2, g3, g4, g5⟩ | ⟨g1, _⟩
      · have : p1 = p2 := by
          rcases Nat.lt_trichotomy p1 p2 with c | c | c
          · exact absurd g3 (h3 p2 c g1)
          · exact c
          · exact absurd h2 (g4 p1 c h1 (idx_pos tr od h1).1)
        subst this; exact g5 hlt
      · exact absurd h2 (g1 p1 h1 (idx_pos tr od h1).1)
    · simp [AV.rel]
  · rw [h2]
    rcases iv.tmp t with ⟨p2, g1, g2, g3, g4, g5⟩ | ⟨_, g2⟩
    · exact absurd g3 (h1 p2 g1)
    · exact g2
end Go.Am
