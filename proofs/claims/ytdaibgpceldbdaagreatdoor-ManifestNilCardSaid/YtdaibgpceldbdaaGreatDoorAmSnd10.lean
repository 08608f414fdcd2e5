/- Code and functions: sound. -/
import Derived.Test.YtdaibgpceldbdaaGreatDoorAmSnd9
namespace Go.Am
open Go
theorem stepR_scope {P : Program} {c : Code} {b : Go.Frame} {a : Act} {k : List Item} {cs : List Go.Frame} {w : World} : step P (lone (b.atR a (.code (.scope c) :: k)) cs w) = .next (lone (b.atR a (.code c :: .inScope c :: k)) cs w) :=
  step_lone_go (by simp [stepG, stepG.exec, Frame.atR])
theorem stepR_inScope {P : Program} {c : Code} {b : Go.Frame} {a : Act} {k : List Item} {cs : List Go.Frame} {w : World} : step P (lone (b.atR a (.inScope c :: k)) cs w) = .next (lone (b.atR a k) cs w) :=
  step_lone_go (by simp [stepG, stepG.exec, Frame.atR])
theorem wpIn_scope_straight {F : Fence} {n : Nat} {P : Program} {x : Code} {Q : Exit → Act → World → Prop} {a : Act} {w : World} (h : x.wpIn F n P Q a w) (hg : ∀ l a w, ¬ Q (.goto l) a w) : (Code.scope x).wpIn F n P Q a w := by
  intro b k cs hro hb hr
  have h0 : (lone (b.atR a (.code (.scope x) :: k)) cs w).fenced P F := fenced_calm hb hr rfl
  obtain ⟨ex, a₁, w₁, hq, harr⟩ := h b (.inScope x :: k) cs hro hb hr
  cases ex with
  | normal => exact ⟨.normal, a₁, w₁, hq, .head h0 stepR_scope (StepsIn.trans harr (.one (fenced_calm hb hr rfl) stepR_inScope))⟩
  | exit id =>
    have hx : exitTo id (.inScope x :: k) = exitTo id k := by simp [exitTo]
    exact ⟨.exit id, a₁, w₁, hq, fun k' hk => .head h0 stepR_scope (harr.1 k' (by rw [hx]; exact hk)),
      fun hr' hk => let ⟨k₁, h1, h2⟩ := harr.2 hr' (by rw [hx]; exact hk); ⟨k₁, h1, .head h0 stepR_scope h2⟩⟩
  | goto l => exact absurd hq (hg _ _ _)
  | ret => exact ⟨_, a₁, w₁, hq, .of_steps (.one h0 stepR_scope) harr⟩
  | panic ch => exact ⟨_, a₁, w₁, hq, .of_steps (.one h0 stepR_scope) harr⟩
  | outgrown => exact ⟨_, a₁, w₁, hq, .of_steps (.one h0 stepR_scope) harr⟩

theorem mkEnv_len : ∀ (n i : Nat) (L : List Nat) (v : Tup L), (mkEnv n i L v).length = n
  | 0, _, _, _ => rfl
  | n + 1, i, [], v => by simp [mkEnv, mkEnv_len n]
  | n + 1, i, t :: L, v => by
    unfold mkEnv
    split <;> simp [mkEnv_len n]
/-- each slot of it is told as it was, or not at all -/
theorem mkEnv_get (e : List AV) : ∀ (n i : Nat) (L : List Nat) (j : Nat), (mkEnv n i L (getT L e)).getD j .junk = e.getD (i + j) .junk ∨ (mkEnv n i L (getT L e)).getD j .junk = .junk
  | 0, _, _, _ => .inr rfl
  | n + 1, i, [], j => by
    cases j with
    | zero => exact .inr rfl
    | succ j =>
      have := mkEnv_get e n (i + 1) [] j
      simp only [mkEnv, List.getD_cons_succ]
      rwa [show i + 1 + j = i + (j + 1) from by omega] at this
  | n + 1, i, t :: L, j => by
    unfold mkEnv
    split
    · rename_i h
      rw [Nat.beq_eq] at h; subst h
      cases j with
      | zero => exact .inl (by show lget .junk e i = _; rw [lget_eq]; rfl)
      | succ j =>
        have := mkEnv_get e n (i + 1) L j
        simp only [List.getD_cons_succ]
        rwa [show i + 1 + j = i + (j + 1) from by omega] at this
    · cases j with
      | zero => exact .inr rfl
      | succ j =>
        have := mkEnv_get e n (i + 1) (t :: L) j
        simp only [List.getD_cons_succ]
        rwa [show i + 1 + j = i + (j + 1) from by omega] at this
theorem EnvRel.mkE {μ : Mu} {e : List AV} {t : Array Value} (h : EnvRel μ e t) {n : Nat} (hn : e.length = n) (L : List Nat) : EnvRel μ (mkEnv n 0 L (getT L e)) t := by
  refine ⟨fun j => ?_, by rw [mkEnv_len, ← hn]; exact h.len⟩
  rcases mkEnv_get e n 0 L j with h1 | h1
  · rw [h1, Nat.zero_add]; exact h.get j
  · rw [h1]; simp [AV.rel]

/-- how a piece of code is left; n slots -/
def LeftN (n : Nat) (K : Ks) (μ : Mu) (h : H) (w : World) (e : Exit) (a' : Act) (w' : World) : Prop :=
  ∃ μ' env' ds' h', St μ h w μ' env' ds' h' a' w' ∧ leaves K e env' ds' h' ∧ env'.length = n
theorem LeftN.left {n : Nat} {K : Ks} {μ : Mu} {h : H} {w : World} {e : Exit} {a' : Act} {w' : World} (hx : LeftN n K μ h w e a' w') : Left K μ h w e a' w' := by
  obtain ⟨μ2, env2, ds2, h2, s2, l2, _⟩ := hx
  exact ⟨μ2, env2, ds2, h2, s2, l2⟩
theorem LeftN.after {n : Nat} {K K' : Ks} {μ μ' : Mu} {h h' : H} {w w' w'' : World} {a'' : Act} {e : Exit} (hp : Post μ h w μ' h' w') (hx : LeftN n K μ' h' w' e a'' w'') (hK : ∀ env ds h, leaves K e env ds h → leaves K' e env ds h) : LeftN n K' μ h w e a'' w'' := by
  obtain ⟨μ2, env2, ds2, h2, s2, l2, n2⟩ := hx
  exact ⟨μ2, env2, ds2, h2, ⟨hp.trans s2.post, s2.env, s2.defers⟩, hK _ _ _ l2, n2⟩

section
variable {P : Program} {T : Ty} (hT : TyOk P T) (hm : P.follows .mixedOrders = true)

theorem endRange_ok {F : Fence} (hF : WideF F) {m n : Nat} {K : Ks} {env : List AV} {ds : List Dfr} {h h3 : H} {w w3 : World} {μ μ3 : Mu} {a : Act} {id0 id1 l : Nat} (q : endRange id0 id1 K env ds h3) (post : Post μ h w μ3 h3 w3) (m30 : μ3 id0 = some (l, 0)) (m3 : μ3 id1 = some (l + 1, 0))
    (he : EnvRel μ3 env a.tmps) (hn : env.length = n) (hd : DfrRel μ3 ds a.defers) : ∃ jump w4, (Instr.endLoop (l + 1)).run P w3 = .ok jump w4 ∧ (match jump with
      | none => LeftN n K μ h w .normal { a with defers := [{ target := .collected l, args := #[] }] ++ a.defers } w4
      | some c => c.wpIn F m P (LeftN n K μ h w) { a with defers := [{ target := .collected l, args := #[] }] ++ a.defers } w4) := by
  unfold endRange at q
  have hb := post.rel.blk id1 _ _ m3
  split at q
  · exact q.elim
  · rename_i st pend ps' a' b' env' hnb hg
    rw [hg] at hb
    obtain ⟨_, rr, hh, b1, b2, _⟩ := hb
    obtain ⟨s0, p0, ps0, a0, bd0, env0, h4, g1, g2, q⟩ := setLoop_some q
    rw [hg] at g1; injection g1 with g1 g3 g4 g5 g6 g7; subst g1 g3 g4 g5 g6 g7
    obtain ⟨rr', hh', s1, s2, hpost4⟩ := loop_post post.rel m3 hg g2
    rw [hh] at hh'; injection hh' with hh'; injection hh' with hh'; subst hh'
    have hbusy : rr.state ≠ .busy := fun hc => by
      rw [b1] at hc; subst hc
      first | exact hnb | exact hnb rfl | exact hnb _ _ _ _ _ rfl
    obtain ⟨wE, hwE⟩ : ∃ wE, wE = w3.putObj (l + 1) (.loop { rr with state := .exhausted }) := ⟨_, rfl⟩
    have hend : (Instr.endLoop (l + 1)).run P w3 = .ok pend wE := by rw [hwE, ← s2]; exact run_endLoop hh hbusy
    refine ⟨pend, wE, hend, ?_⟩
    have post4 := hpost4 { rr with state := .exhausted } (by rw [← s2])
    have hds : DfrRel μ3 (.coll id0 :: ds) ([{ target := .collected l, args := #[] }] ++ a.defers) := ⟨_, _, rfl, m30, hd⟩
    have st3 : St μ h w μ3 env (.coll id0 :: ds) h4 { a with defers := [{ target := .collected l, args := #[] }] ++ a.defers } wE := ⟨post.trans (by rw [hwE]; exact post4), he, hds⟩
    split at q
    · exact ⟨μ3, env, _, h4, st3, q, hn⟩
    · exact wpIn_ret ⟨μ3, env, _, h4, st3, q, hn⟩
    · exact wpIn_exit ⟨μ3, env, _, h4, st3, q, hn⟩
    · exact q.elim
  · exact q.elim
theorem rangeFunc_ok {G : Gam} (hG : GamOk P G) {F : Fence} (hF : WideF F) {m : Nat} (htop : F.round = none) {n : Nat} {g : Operand} {ps : Array Tmp} {x y : Code} {K : Ks} {env : List AV} {ds : List Dfr} {h : H} {μ : Mu} {a : Act} {w : World}
    (e : match ev env g with
      | .func (.func f) first captured => pushK (.defd true) h fun id0 h => pushK (.loop .ready none ps.toList x y env) h fun id1 h => G.it f (first ++ (.yield id1 :: captured)) h fun _ h => endRange id0 id1 K env ds h
      | _ => False) (he : EnvRel μ env a.tmps) (hn : env.length = n) (hd : DfrRel μ ds a.defers) (hR : Rel μ h w) : (Code.rangeFunc g ps x y).wpIn F m P (LeftN n K μ h w) a w := by
  split at e
  · rename_i f first captured hf
    rw [pushK_iff] at e
    obtain ⟨id0, h1, hp1, e⟩ := e
    rw [pushK_iff] at e
    obtain ⟨id1, h2, hp2, e⟩ := e
    have hfr := ev_rel he g
    rw [hf] at hfr; simp only [AV.rel] at hfr
    obtain ⟨f', c', hv, r1, r2⟩ := hfr
    obtain ⟨μ1, m1, post1⟩ := push_obj hR hp1 (o := .deferred (some [])) (by simp) fun μ' w' _ hw => ⟨rfl, hw⟩
    have le1 := hR.ext_le post1.ext
    refine wpIn_rangeFunc fun fn _ => ?_
    obtain ⟨lp, hlp⟩ : ∃ lp : Loop, lp = { state := .ready, pending := none, fn, tmps := a.tmps, params := ps, assign := x, body := y, defers := w.heap.size } := ⟨_, rfl⟩
    obtain ⟨μ2, m2, post2⟩ := push_obj post1.rel hp2 (o := .loop lp) (by simp) fun μ' w' hle hw => ⟨rfl, lp, hw, by rw [hlp], by rw [hlp], by rw [hlp], by rw [hlp], by rw [hlp], by rw [hlp]; exact (he.mono le1).mono hle⟩
    have post := post1.trans post2
    have le2 := post1.rel.ext_le post2.ext
    obtain ⟨yv, hyv⟩ : ∃ yv : Value, yv = .func (.yield (w.heap.size + 1)) #[] #[] := ⟨_, rfl⟩
    obtain ⟨w2, hw2⟩ : ∃ w2 : World, w2 = (w.alloc (.deferred (some []))).alloc (.loop lp) := ⟨_, rfl⟩
    have hw2' : ({ ({ w with heap := w.heap.push (.deferred (some [])) } : World) with heap := ({ w with heap := w.heap.push (.deferred (some [])) } : World).heap.push (.loop lp) } : World) = w2 := by rw [hw2]; rfl
    rw [hw2'] at post2 post
    have hsz : ({ w with heap := w.heap.push (.deferred (some [])) } : World).heap.size = w.heap.size + 1 := by simp
    rw [hsz] at m2
    have hargs : AV.relL μ2 (first ++ (.yield id1 :: captured)) (f' ++ #[yv] ++ c').toList := by
      have e1 : (f' ++ #[yv] ++ c').toList = f'.toList ++ (yv :: c'.toList) := by simp
      rw [e1]
      refine AV.relL_append (AV.relL_mono le2 _ _ (AV.relL_mono le1 _ _ r1)) (AV.relL_cons_cons.2 ⟨?_, AV.relL_mono le2 _ _ (AV.relL_mono le1 _ _ r2)⟩)
      simp only [AV.rel]; exact ⟨_, m2, hyv⟩
    obtain ⟨c1, c2⟩ := hG.it f _ _ _ e μ2 w2 _ post2.rel hargs
    refine ⟨w.heap.size + 1, [{ target := .collected w.heap.size, args := #[] }], w2, { target := .fn (.func f) c', args := f' ++ #[yv] }, w2, f, f' ++ #[yv] ++ c', w2, ?_, ?_, fun f _ => hF.fn f, c1, fun hdp => (by rw [hF.depth] at hdp; cases hdp), CallsIn.mono (hF.calls c2) ?_⟩
    · rw [htop, hlp] at *; rw [hw2]; exact run_enterLoop_outer _ _ _ _ _
    · simp only [resolve, hv, Deferred.ofValue, Sem.run_pure]; simp [hyv, Act.eval]
    · rintro ex w3 ⟨v, μ3, r, h3, rfl, hr3, post3, q⟩
      have le3 := post2.rel.ext_le post3.ext
      have m3 : μ3 id1 = some (w.heap.size + 1, 0) := (le3 _ _ m2).1
      have m30 : μ3 id0 = some (w.heap.size, 0) := (le3 _ _ (le2 _ _ m1).1).1
      exact endRange_ok hF q (post.trans post3) m30 m3 (((he.mono le1).mono le2).mono le3) hn (((hd.mono le1).mono le2).mono le3)
  · exact e.elim

include hT hm in
theorem den_ok {G : Gam} (hG : GamOk P G) {F : Fence} (hF : WideF F) {m : Nat} {top : Bool} (htop : top = true → F.round = none) {n : Nat} (c : Code) : ∀ (L : Lv) (K : Ks) (env : List AV) (ds : List Dfr) (h : H) (μ : Mu) (a : Act) (w : World),
    den T G top n c L K env ds h → EnvRel μ env a.tmps → env.length = n → DfrRel μ ds a.defers → Rel μ h w → c.wpIn F m P (LeftN n K μ h w) a w := by
  induction c with
  | skip => intro L K env ds h μ a w e he hn hd hR; exact wpIn_skip ⟨μ, env, ds, h, St.refl hR he hd, e, hn⟩
  | label l => intro L K env ds h μ a w e he hn hd hR; exact wpIn_label ⟨μ, env, ds, h, St.refl hR he hd, e, hn⟩
  | ret => intro L K env ds h μ a w e he hn hd hR; exact wpIn_ret ⟨μ, env, ds, h, St.refl hR he hd, e, hn⟩
  | exit id => intro L K env ds h μ a w e he hn hd hR; exact wpIn_exit ⟨μ, env, ds, h, St.refl hR he hd, e, hn⟩
  | region id ops draw =>
    intro L K env ds h μ a w e he hn hd hR
    simp only [den] at e
    cases draw with
    | false =>
      refine wpIn_region ?_
      have := runSeq_ok (Q := LeftN n K μ h w) (n := m) hT hG hF htop ops.toList 0 rfl env ds h μ a w e he hd hR
        (fun μ' env' ds' h' a' w' hs hk hl => ⟨μ', env', ds', h', hs, hk, by rw [hl]; exact hn⟩)
      rw [List.range_eq_range']
      simpa using this
    | true =>
      simp only at e
      split at e
      · rename_i hok
        refine wpIn_region_any hm ?_
        have hp := Post.drew hR (w.drawn + 1)
        refine draw_ok hT hG hF hok e he hp.rel fun μ' env' h' a' w' hs he' hd' hk hl => ⟨μ', env', ds, h', ⟨hp.trans hs, he', by rw [hd']; exact hd.mono (hp.rel.ext_le hs.ext)⟩, hk, by rw [hl]; exact hn⟩
      · exact e.elim
  | seq x y ihx ihy =>
    intro L K env ds h μ a w e he hn hd hR
    refine wpIn_seq ?_
    simp only [den] at e
    split at e
    · refine wpIn_mono (ihx _ _ env ds h μ a w e he hn hd hR) fun ex a' w' hx => ?_
      cases ex with
      | normal =>
        obtain ⟨μ', env', ds', h', s, l, n'⟩ := hx
        exact wpIn_mono (ihy L K env' ds' h' μ' a' w' l s.env n' s.defers s.post.rel) fun ex2 a2 w2 h2 => h2.after s.post fun _ _ _ q => q
      | _ =>
        obtain ⟨μ', env', ds', h', s, l, n'⟩ := hx
        exact ⟨μ', env', ds', h', s, l, n'⟩
    · rw [G.J.jd_ok] at e
      refine wpIn_mono (ihx _ _ env ds h μ a w e he hn hd hR) fun ex a' w' hx => ?_
      cases ex with
      | normal =>
        obtain ⟨μ', env', ds', h', s, l, n'⟩ := hx
        exact wpIn_mono (ihy L K _ ds' h' μ' a' w' l (s.env.mkE n' _) (mkEnv_len _ _ _ _) s.defers s.post.rel) fun ex2 a2 w2 h2 => h2.after s.post fun _ _ _ q => q
      | _ =>
        obtain ⟨μ', env', ds', h', s, l, n'⟩ := hx
        exact ⟨μ', env', ds', h', s, l, n'⟩
  | cond c x y ihx ihy =>
    intro L K env ds h μ a w e he hn hd hR
    simp only [den] at e
    have hc := ev_rel he c
    rw [asB_iff] at e
    obtain ⟨b, hb, e⟩ := e
    rw [hb] at hc; simp only [AV.rel] at hc
    rw [br_iff] at e
    rcases e with ⟨rfl, e⟩ | ⟨rfl, e⟩
    · exact wpIn_cond_true hc (ihx L K env ds h μ a w e he hn hd hR)
    · exact wpIn_cond_false hc (ihy L K env ds h μ a w e he hn hd hR)
  | block id x ihx =>
    intro L K env ds h μ a w e he hn hd hR
    simp only [den] at e
    refine wpIn_block (wpIn_mono (ihx _ _ env ds h μ a w e he hn hd hR) ?_)
    rintro ex a' w' ⟨μ', env', ds', h', s, l, n'⟩
    cases ex with
    | exit i =>
      simp only [leaves] at l
      simp only [Exit.inBlock]
      by_cases hi : i = id
      · rw [if_pos hi]
        subst hi
        have hb : Nat.beq i i = true := by rw [Nat.beq_eq]
        rw [hb] at l
        exact ⟨μ', env', ds', h', s, l, n'⟩
      · rw [if_neg hi]
        have hb : Nat.beq i id = false := by
          cases hb : Nat.beq i id with
          | false => rfl
          | true => rw [Nat.beq_eq] at hb; exact absurd hb hi
        rw [hb] at l
        exact ⟨μ', env', ds', h', s, l, n'⟩
    | _ => exact ⟨μ', env', ds', h', s, l, n'⟩
  | loop c ih =>
    intro L K env ds h μ a w e he hn hd hR b k cs hro hb hr
    obtain ⟨W, hW⟩ : ∃ W, W = Go.Am.live n (reads c ⟨[], L.ex, L.ret⟩) := ⟨_, rfl⟩
    obtain ⟨L', hL'⟩ : ∃ L' : Lv, L' = ⟨reads c ⟨[], L.ex, L.ret⟩, L.ex, L.ret⟩ := ⟨_, rfl⟩
    simp only [den] at e
    rw [← hW, ← hL', G.J.lp_ok] at e
    have key : ∀ (j : Nat) (v : Tup W) (e1 : List AV) (ds1 : List Dfr) (h1 : H) (μ1 : Mu) (a1 : Act) (w1 : World),
        loopN (α := Tup W) (fun self v => den T G top n c L' ⟨fun e => self (getT W e), K.exit, K.ret⟩ (mkEnv n 0 W v)) j v ds1 h1 → v = getT W e1 → EnvRel μ1 e1 a1.tmps → e1.length = n → DfrRel μ1 ds1 a1.defers → Post μ h w μ1 h1 w1 →
        ∃ ex a' w', LeftN n K μ h w ex a' w' ∧ ArrivesIn (Machine.fenced P F) P (lone (b.atR a1 (.code c :: .inLoop c :: k)) cs w1) b k cs ex a' w' := by
      intro j
      induction j with
      | zero => intro v e1 ds1 h1 μ1 a1 w1 q; exact q.elim
      | succ j ihj =>
        intro v e1 ds1 h1 μ1 a1 w1 q hv he1 hn1 hd1 hp1
        have q : den T G top n c L' ⟨fun e => loopN (α := Tup W) (fun self v => den T G top n c L' ⟨fun e => self (getT W e), K.exit, K.ret⟩ (mkEnv n 0 W v)) j (getT W e), K.exit, K.ret⟩ (mkEnv n 0 W v) ds1 h1 := q
        subst hv
        obtain ⟨ex, a2, w2, hq, harr⟩ := ih _ _ _ ds1 h1 μ1 a1 w1 q (he1.mkE hn1 W) (mkEnv_len _ _ _ _) hd1 hp1.rel b (.inLoop c :: k) cs hro hb hr
        obtain ⟨μ2, env2, ds2, h2, s2, l2, n2⟩ := hq
        cases ex with
        | normal =>
          obtain ⟨ex, a', w', q', harr2⟩ := ihj _ env2 ds2 h2 μ2 a2 w2 l2 rfl s2.env n2 s2.defers (hp1.trans s2.post)
          exact ⟨ex, a', w', q', .of_steps (StepsIn.trans harr (.one (fenced_calm hb hr rfl) stepR_inLoop)) harr2⟩
        | exit id => exact ⟨_, a2, w2, ⟨μ2, env2, ds2, h2, ⟨hp1.trans s2.post, s2.env, s2.defers⟩, (show leaves K (.exit id) env2 ds2 h2 from l2), n2⟩, .pass (x := .inLoop c) rfl (fun _ _ => .inl (by simp)) harr⟩
        | ret => exact ⟨_, a2, w2, ⟨μ2, env2, ds2, h2, ⟨hp1.trans s2.post, s2.env, s2.defers⟩, (show leaves K .ret env2 ds2 h2 from l2), n2⟩, .pass (x := .inLoop c) rfl (fun _ _ => .inl (by simp)) harr⟩
        | goto l => exact l2.elim
        | panic ch => exact l2.elim
        | outgrown => exact l2.elim
    obtain ⟨ex, a', w', hq, harr⟩ := key fuel (getT W env) env ds h μ a w e rfl he hn hd (Post.refl hR)
    exact ⟨ex, a', w', hq, .of_steps (.one (fenced_calm hb hr rfl) stepR_loop) harr⟩
  | rangeFunc g ps x y =>
    intro L K env ds h μ a w e he hn hd hR
    simp only [den] at e
    split at e
    · exact rangeFunc_ok hG hF (htop rfl) e he hn hd hR
    · exact e.elim
  | scope x ihx =>
    intro L K env ds h μ a w e he hn hd hR
    simp only [den] at e
    exact wpIn_scope_straight (ihx L K env ds h μ a w e he hn hd hR) fun l a' w' hq => by
      obtain ⟨_, _, _, _, _, l2, _⟩ := hq
      exact l2
  | goto l => intro L K env ds h μ a w e; exact e.elim
  | refuse w => intro L K env ds h μ a w e; exact e.elim
end
end Go.Am
