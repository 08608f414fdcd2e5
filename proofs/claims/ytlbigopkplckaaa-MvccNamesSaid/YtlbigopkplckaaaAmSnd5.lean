/- Code and functions: sound (a region that draws its order by the hypothesis 'DrawOk'). -/
import Derived.Test.YtlbigopkplckaaaAmSnd3
namespace Go.Am
open Go

def DrawOk (P : Program) (T : Ty) : Prop :=
  ∀ (G : Gam), GamOk P G → ∀ (ops : Array Oper) (k : List AV → H → Option (AV × H)) (res : AV × H) (Q : Exit → Act → World → Prop) (env : List AV) (h : H) (μ : Mu) (a : Act) (w : World),
    orderOk T ops.toList (masks ops.toList []) (order T ops.toList) = true → runOrd T G ops.toList (masks ops.toList []) (order T ops.toList) [] env h k = some res →
    EnvRel μ env a.tmps → Rel μ h w →
    (∀ μ' env' h' a' w', St μ h w a μ' env' h' a' w' → k env' h' = some res → (∀ t, (∀ o ∈ ops, o.dst ≠ some t) → env'.getD t .junk = env.getD t .junk) → env'.length = env.length → Q .normal a' w') →
    wpAny P .any ops Q ops.size (Array.replicate ops.size false) a w

theorem dedup_acc (l : List Nat) : ∀ (acc : List Nat) (x : Nat), x ∈ acc → x ∈ l.foldl (fun acc x => if acc.contains x then acc else acc ++ [x]) acc := by
  induction l with
  | nil => intro acc x h; exact h
  | cons y l ih => intro acc x h; simp only [List.foldl_cons]; apply ih; split <;> simp [h]
theorem dedup_mem (l : List Nat) : ∀ (acc : List Nat) (x : Nat), x ∈ l → x ∈ l.foldl (fun acc x => if acc.contains x then acc else acc ++ [x]) acc := by
  induction l with
  | nil => intro acc x h; cases h
  | cons y l ih =>
    intro acc x h
    simp only [List.foldl_cons]
    cases h with
    | head =>
      apply dedup_acc
      split
      · rename_i hc; simpa using hc
      · simp
    | tail _ h => exact ih _ x h
theorem writes_region {id : Nat} {ops : Array Oper} {d : Bool} : ∀ o ∈ ops, ∀ t, o.dst = some t → t ∈ writes (.region id ops d) := by
  intro o ho t ht
  unfold writes
  apply dedup_mem
  rw [List.mem_filterMap]
  exact ⟨o, by simpa using ho, ht⟩
theorem mem_union {a b : List Nat} {x : Nat} : x ∈ unionL a b ↔ x ∈ a ∨ x ∈ b := by
  unfold unionL
  simp only [List.mem_append, List.mem_filter, Bool.not_eq_true', List.contains_eq_mem, decide_eq_false_iff_not]
  constructor
  · rintro (h | h); exact .inl h; exact .inr h.1
  · rintro (h | h); exact .inl h
    by_cases hx : x ∈ a
    · exact .inl hx
    · exact .inr ⟨h, hx⟩

theorem putT_len : ∀ (W : List Nat) (v : Tup W) (env : List AV), (putT W v env).length = env.length
  | [], _, _ => rfl
  | t :: l, v, env => by show (putT l v.2 (lset env t v.1)).length = _; rw [putT_len l, lset_eq]; simp
theorem putT_out : ∀ (W : List Nat) (v : Tup W) (env : List AV) (t : Nat), t ∉ W → (putT W v env).getD t .junk = env.getD t .junk
  | [], _, _, _, _ => rfl
  | s :: l, v, env, t, h => by
    show (putT l v.2 (lset env s v.1)).getD t .junk = _
    rw [putT_out l _ _ t (fun x => h (by simp [x])), lset_eq]
    have : s ≠ t := fun e => h (by simp [e])
    simp [this]
theorem putT_get : ∀ (W : List Nat) (e env : List AV) (t : Nat), e.length = env.length → t ∈ W → (putT W (getT W e) env).getD t .junk = e.getD t .junk
  | [], _, _, _, _, h => by cases h
  | s :: l, e, env, t, hl, h => by
    show (putT l (getT l e) (lset env s (lget .junk e s))).getD t .junk = _
    by_cases ht : t ∈ l
    · exact putT_get l e _ t (by rw [lset_eq]; simpa using hl) ht
    · rw [putT_out l _ _ t ht, lset_eq, lget_eq]
      have : t = s := by cases h with
        | head => rfl
        | tail _ h => exact absurd h ht
      subst this
      simp only [List.getD_eq_getElem?_getD, List.getElem?_set, if_true]
      split
      · rfl
      · rename_i hn; rw [List.getElem?_eq_none (by omega)]
theorem putT_eq (W : List Nat) (e env : List AV) (hl : e.length = env.length) (ho : ∀ t, t ∉ W → e.getD t .junk = env.getD t .junk) (t : Nat) : (putT W (getT W e) env).getD t .junk = e.getD t .junk := by
  by_cases h : t ∈ W
  · exact putT_get W e env t hl h
  · rw [putT_out W _ _ t h, ho t h]

def leaves (K : Ks) : Exit → List AV → H → Option (AV × H)
  | .normal, env, h => K.norm env h
  | .exit id, env, h => K.exit id env h
  | .ret, env, h => K.ret env h
  | _, _, _ => none

/-- how a piece of code is left -/
def Left (K : Ks) (res : AV × H) (μ : Mu) (h : H) (w : World) (a : Act) (env : List AV) (W : List Nat) (e : Exit) (a' : Act) (w' : World) : Prop :=
  ∃ μ' env' h', St μ h w a μ' env' h' a' w' ∧ leaves K e env' h' = some res ∧ env'.length = env.length ∧ ∀ t, t ∉ W → env'.getD t .junk = env.getD t .junk

section
variable {P : Program} {T : Ty} (hT : TyOk P T) (hm : P.follows .mixedOrders = true) (hD : DrawOk P T)

theorem EnvRel.same {μ : Mu} {e e' : List AV} {t : Array Value} (h : EnvRel μ e t) (hl : e'.length = e.length) (hg : ∀ i, e'.getD i .junk = e.getD i .junk) : EnvRel μ e' t :=
  ⟨fun i => by rw [hg]; exact h.get i, by rw [hl]; exact h.len⟩

theorem Left.step {K K' : Ks} {res : AV × H} {μ μ' : Mu} {h h' : H} {w w' w'' : World} {a a' a'' : Act} {env env' e2 : List AV} {W W' : List Nat} {e : Exit}
    (hs : St μ h w a μ' env' h' a' w') (hl : env'.length = env.length) (ho : ∀ t, t ∉ W → env'.getD t .junk = env.getD t .junk) (hl2 : e2.length = env'.length) (hg2 : ∀ t, e2.getD t .junk = env'.getD t .junk)
    (hx : Left K res μ' h' w' a' e2 W' e a'' w'') (hK : leaves K e = leaves K' e) {V : List Nat} (h1 : ∀ t, t ∈ W → t ∈ V) (h2 : ∀ t, t ∈ W' → t ∈ V) : Left K' res μ h w a env V e a'' w'' := by
  obtain ⟨μ2, env2, h2', s2, l2, n2, o2⟩ := hx
  refine ⟨μ2, env2, h2', hs.trans s2, by rw [← hK]; exact l2, by omega, fun t ht => ?_⟩
  rw [o2 t (fun x => ht (h2 t x)), hg2 t, ho t (fun x => ht (h1 t x))]

include hT hm hD in
theorem den_ok {G : Gam} (hG : GamOk P G) (c : Code) : ∀ (K : Ks) (env : List AV) (h : H) (μ : Mu) (a : Act) (w : World) (res : AV × H), den T G c K env h = some res → EnvRel μ env a.tmps → Rel μ h w →
    c.wp P (Left K res μ h w a env (writes c)) a w := by
  induction c with
  | skip => intro K env h μ a w res e he hR; exact wp_skip ⟨μ, env, h, St.refl hR he, e, rfl, fun _ _ => rfl⟩
  | label l => intro K env h μ a w res e he hR; exact wp_label ⟨μ, env, h, St.refl hR he, e, rfl, fun _ _ => rfl⟩
  | ret => intro K env h μ a w res e he hR; exact wp_ret ⟨μ, env, h, St.refl hR he, e, rfl, fun _ _ => rfl⟩
  | exit id => intro K env h μ a w res e he hR; exact wp_exit ⟨μ, env, h, St.refl hR he, e, rfl, fun _ _ => rfl⟩
  | region id ops draw =>
    intro K env h μ a w res e he hR
    cases draw with
    | false =>
      refine wp_region ?_
      have := runSeq_ok (Q := Left K res μ h w a env (writes (.region id ops false))) (W := writes (.region id ops false)) (env0 := env) hT hG ops.toList 0 rfl env h μ a w e he hR writes_region (fun _ _ => rfl) rfl
        (fun μ' env' h' a' w' hs hk ho hl => ⟨μ', env', h', hs, hk, hl, ho⟩)
      rw [List.range_eq_range']
      simpa using this
    | true =>
      simp only [den] at e
      split at e
      · rename_i hok
        refine wp_region_any hm ?_
        have hp := Post.drew hR (w.drawn + 1)
        refine hD G hG ops K.norm res _ env h μ a _ hok e he hp.rel fun μ' env' h' a' w' hs hk ho hl => ⟨μ', env', h', ⟨hp.trans hs.post, hs.env, hs.defers⟩, hk, hl, fun t ht => ho t fun o hoo hd => ht (writes_region o hoo t hd)⟩
      · cases e
  | seq x y ihx ihy =>
    intro K env h μ a w res e he hR
    refine wp_seq ?_
    simp only [den] at e
    have sub1 : ∀ t, t ∈ writes x → t ∈ writes (.seq x y) := fun t ht => mem_union.2 (.inl ht)
    have sub2 : ∀ t, t ∈ writes y → t ∈ writes (.seq x y) := fun t ht => mem_union.2 (.inr ht)
    split at e
    · refine wp_mono (ihx _ env h μ a w res e he hR) fun ex a' w' hx => ?_
      cases ex with
      | normal =>
        obtain ⟨μ', env', h', s, l, n, o⟩ := hx
        exact wp_mono (ihy K env' h' μ' a' w' res l s.env s.post.rel) fun ex2 a2 w2 h2 => Left.step s n o rfl (fun _ => rfl) h2 rfl sub1 sub2
      | _ =>
        obtain ⟨μ', env', h', s, l, n, o⟩ := hx
        exact ⟨μ', env', h', s, l, n, fun t ht => o t (fun x => ht (sub1 t x))⟩
    · refine wp_mono (ihx _ env h μ a w res e he hR) fun ex a' w' hx => ?_
      cases ex with
      | normal =>
        obtain ⟨μ', env', h', s, l, n, o⟩ := hx
        have hg := putT_eq (writes x) env' env n o
        have hl : (putT (writes x) (getT (writes x) env') env).length = env'.length := by rw [putT_len]; exact n.symm
        exact wp_mono (ihy K (putT (writes x) (getT (writes x) env') env) h' μ' a' w' res l (s.env.same hl hg) s.post.rel) fun ex2 a2 w2 h2 => Left.step s n o hl hg h2 rfl sub1 sub2
      | _ =>
        obtain ⟨μ', env', h', s, l, n, o⟩ := hx
        exact ⟨μ', env', h', s, l, n, fun t ht => o t (fun x => ht (sub1 t x))⟩
  | cond c x y ihx ihy =>
    intro K env h μ a w res e he hR
    simp only [den] at e
    have hc := ev_rel he c
    split at e
    · rename_i hv
      rw [hv] at hc; simp only [AV.rel] at hc
      refine wp_cond_true hc (wp_mono (ihx K env h μ a w res e he hR) ?_)
      rintro ex a' w' ⟨μ', env', h', s, l, n, o⟩
      exact ⟨μ', env', h', s, l, n, fun t ht => o t (fun x => ht (mem_union.2 (.inl x)))⟩
    · rename_i hv
      rw [hv] at hc; simp only [AV.rel] at hc
      refine wp_cond_false hc (wp_mono (ihy K env h μ a w res e he hR) ?_)
      rintro ex a' w' ⟨μ', env', h', s, l, n, o⟩
      exact ⟨μ', env', h', s, l, n, fun t ht => o t (fun x => ht (mem_union.2 (.inr x)))⟩
    · cases e
  | block id x ihx =>
    intro K env h μ a w res e he hR
    simp only [den] at e
    refine wp_block (wp_mono (ihx _ env h μ a w res e he hR) ?_)
    rintro ex a' w' ⟨μ', env', h', s, l, n, o⟩
    cases ex with
    | exit i =>
      simp only [leaves] at l
      simp only [Exit.inBlock]
      by_cases hi : i = id
      · rw [if_pos hi]
        subst hi
        have l' : K.norm env' h' = some res := by simpa using l
        exact ⟨μ', env', h', s, l', n, o⟩
      · rw [if_neg hi]
        refine ⟨μ', env', h', s, ?_, n, o⟩
        have : Nat.beq i id = false := by
          cases hb : Nat.beq i id with
          | false => rfl
          | true => exact absurd (Nat.eq_of_beq_eq_true hb) hi
        rw [this] at l
        exact l
    | _ => exact ⟨μ', env', h', s, l, n, o⟩
  | loop c ih =>
    intro K env h μ a w res e he hR b k cs
    have hW : writes (.loop c) = writes c := rfl
    have key : ∀ (n : Nat) (v : Tup (writes c)) (h1 : H) (μ1 : Mu) (a1 : Act) (w1 : World),
        loopN (fun self v => den T G c { K with norm := fun e => self (getT (writes c) e) } (putT (writes c) v env)) n v h1 = some res → EnvRel μ1 (putT (writes c) v env) a1.tmps → St μ h w a μ1 (putT (writes c) v env) h1 a1 w1 →
        ∃ ex a' w', Left K res μ h w a env (writes c) ex a' w' ∧ Arrives P (lone (b.at a1 (.code c :: .inLoop c :: k)) cs w1) b k cs ex a' w' := by
      intro n
      induction n with
      | zero => intro v h1 μ1 a1 w1 e1; cases e1
      | succ n ihn =>
        intro v h1 μ1 a1 w1 e1 he1 hs1
        have e1 : den T G c { K with norm := fun e => loopN (fun self v => den T G c { K with norm := fun e => self (getT (writes c) e) } (putT (writes c) v env)) n (getT (writes c) e) } (putT (writes c) v env) h1 = some res := e1
        obtain ⟨ex, a2, w2, hq, harr⟩ := ih _ _ h1 μ1 a1 w1 res e1 he1 hs1.post.rel b (.inLoop c :: k) cs
        obtain ⟨μ2, env2, h2, s2, l2, n2, o2⟩ := hq
        have hn : env2.length = env.length := by rw [n2, putT_len]
        have ho : ∀ t, t ∉ writes c → env2.getD t .junk = env.getD t .junk := fun t ht => by rw [o2 t ht, putT_out _ _ _ t ht]
        cases ex with
        | normal =>
          have hg := putT_eq (writes c) env2 env hn ho
          have hl : (putT (writes c) (getT (writes c) env2) env).length = env2.length := by rw [putT_len]; exact hn.symm
          have hs : St μ h w a μ2 (putT (writes c) (getT (writes c) env2) env) h2 a2 w2 := ⟨hs1.post.trans s2.post, s2.env.same hl hg, s2.defers.trans hs1.defers⟩
          obtain ⟨ex, a', w', q, harr2⟩ := ihn _ h2 μ2 a2 w2 l2 hs.env hs
          exact ⟨ex, a', w', q, .of_steps (Steps.trans harr (.one step_inLoop)) harr2⟩
        | exit id => exact ⟨_, a2, w2, ⟨μ2, env2, h2, hs1.trans s2, (show leaves K (.exit id) env2 h2 = some res from l2), hn, ho⟩, .pass (x := .inLoop c) rfl (fun _ _ => .inl (by simp)) harr⟩
        | ret => exact ⟨_, a2, w2, ⟨μ2, env2, h2, hs1.trans s2, (show leaves K .ret env2 h2 = some res from l2), hn, ho⟩, .pass (x := .inLoop c) rfl (fun _ _ => .inl (by simp)) harr⟩
        | goto l => cases l2
        | panic ch => cases l2
        | outgrown => cases l2
    have hg := putT_eq (writes c) env env rfl (fun _ _ => rfl)
    have hl : (putT (writes c) (getT (writes c) env) env).length = env.length := putT_len _ _ _
    have he' := he.same hl hg
    obtain ⟨ex, a', w', hq, harr⟩ := key fuel (getT (writes c) env) h μ a w e he' ⟨Post.refl hR, he', rfl⟩
    exact ⟨ex, a', w', hq, .of_steps (.one step_loop) harr⟩
  | rangeFunc f ps x y => intro K env h μ a w res e; cases e
  | scope x => intro K env h μ a w res e; cases e
  | goto l => intro K env h μ a w res e; cases e
  | refuse w => intro K env h μ a w res e; cases e

def resRun (tmps : Array Value) : ResultVar → Sem Value
  | .tmp t => pure (tmps.getD t undef)
  | .cell a t => do loadVar t (← asAddr (tmps.getD a undef))
theorem results_eq (fn : Func) (tmps : Array Value) : results fn tmps = (do
    let vs ← fn.results.mapM (resRun tmps)
    pure (if h : vs.size = 1 then vs[0] else .tuple vs)) := by
  rfl
include hT in
theorem res1_ok {μ : Mu} {env : List AV} {h : H} {w : World} {tmps : Array Value} (he : EnvRel μ env tmps) (hR : Rel μ h w) {r : AV} {rv : ResultVar} (e : aRes1 T env h rv = some r) :
    ∃ v, (resRun tmps rv).run P w = .ok v w ∧ r.rel μ v := by
  cases rv with
  | tmp t =>
    simp only [aRes1, Option.some.injEq] at e; subst e
    exact ⟨_, rfl, by rw [lget_eq]; exact he.get t⟩
  | cell a t =>
    simp only [aRes1] at e
    have hrel : OpsRel μ (ev env) (Act.eval ⟨tmps, []⟩) := ev_rel (a := ⟨tmps, []⟩) he
    obtain ⟨v, h1, h2⟩ := opR_ok (O := ⟨none, .load t (.tmp a), 0, "", #[], none⟩) hT e hrel hR
    refine ⟨v, ?_, h2⟩
    simp only [execOp, Sem.run_bind] at h1
    have hp : ∃ x, tmps.getD a undef = .pointer (some x) := by
      cases hx : tmps.getD a undef with
      | pointer p => cases p with
        | some x => exact ⟨x, rfl⟩
        | none => exfalso; simp only [Act.eval, hx, Instr.loadAt, Instr.sureAddr, Sem.run_bind, run_stuck, Result.andThen_halt] at h1; cases h1
      | _ => exfalso; simp only [Act.eval, hx, Instr.loadAt, Instr.sureAddr, Sem.run_bind, run_stuck, Result.andThen_halt] at h1; cases h1
    obtain ⟨x, hx⟩ := hp
    simp only [Act.eval, hx, Instr.loadAt, Instr.sureAddr, Sem.run_bind, Sem.run_pure, Result.andThen_ok] at h1
    simp only [resRun, hx, asAddr, Sem.run_bind, Sem.run_pure, Result.andThen_ok]
    cases hl : (loadVar t x).run P w with
    | ok v' w' =>
      rw [hl] at h1; simp only [Result.andThen_ok] at h1
      injection h1 with e1 e2; injection e1 with e1; subst e1 e2; rfl
    | halt hh w' => rw [hl] at h1; cases h1

include hT in
theorem resL_ok {μ : Mu} {env : List AV} {h : H} {w : World} {tmps : Array Value} (he : EnvRel μ env tmps) (hR : Rel μ h w) : ∀ {l : List ResultVar} {rs : List AV}, aResL T env h l = some rs →
    ∃ vs : List Value, (l.mapM (resRun tmps)).run P w = .ok vs w ∧ AV.relL μ rs vs
  | [], rs, e => by simp only [aResL, Option.some.injEq] at e; subst e; exact ⟨[], rfl, AV.relL_nil.2 rfl⟩
  | rv :: l, rs, e => by
    simp only [aResL] at e
    split at e
    · rename_i v hv
      split at e
      · rename_i vs hvs
        injection e with e; subst e
        obtain ⟨x, h1, h2⟩ := res1_ok hT he hR hv
        obtain ⟨xs, h3, h4⟩ := resL_ok he hR hvs
        refine ⟨x :: xs, ?_, AV.relL_cons_cons.2 ⟨h2, h4⟩⟩
        simp only [List.mapM_cons, Sem.run_bind, Sem.run_pure]
        rw [h1]; simp only [Result.andThen_ok]; rw [h3]; rfl
      · cases e
    · cases e

include hT in
theorem results_ok {μ : Mu} {env : List AV} {h h' : H} {w : World} {fn : Func} {tmps : Array Value} {r : AV} (he : EnvRel μ env tmps) (hR : Rel μ h w) (e : aResults T fn.results.toList env h = some (r, h')) :
    h' = h ∧ ∃ v, (results fn tmps).run P w = .ok v w ∧ r.rel μ v := by
  unfold aResults at e
  have run : ∀ {rs : List AV}, aResL T env h fn.results.toList = some rs → ∃ vs : List Value, (results fn tmps).run P w = .ok (if h : vs.toArray.size = 1 then vs.toArray[0] else .tuple vs.toArray) w ∧ AV.relL μ rs vs := by
    intro rs hrs
    obtain ⟨vs, h1, h2⟩ := resL_ok hT he hR hrs
    refine ⟨vs, ?_, h2⟩
    rw [results_eq, Array.mapM_eq_mapM_toList]
    simp only [Sem.run_bind, Sem.run_map, Sem.run_pure]
    rw [h1]; rfl
  split at e
  · rename_i v hv
    injection e with e; injection e with e1 e2; subst e1 e2
    obtain ⟨vs, h1, h2⟩ := run hv
    obtain ⟨x, vs', rfl, h3, h4⟩ := AV.relL_cons.1 h2
    rw [AV.relL_nil] at h4; subst h4
    exact ⟨rfl, x, by rw [h1]; rfl, h3⟩
  · rename_i rs hne hrs
    injection e with e; injection e with e1 e2; subst e1 e2
    obtain ⟨vs, h1, h2⟩ := run hrs
    refine ⟨rfl, .tuple vs.toArray, ?_, by simp only [AV.rel]; exact ⟨_, rfl, h2⟩⟩
    rw [h1, dif_neg]
    intro h1'
    have hl := AV.relL_length h2
    have : rs.length = 1 := by simpa [hl] using h1'
    obtain ⟨x, hx⟩ := List.length_eq_one_iff.1 this
    exact hne x hx
  · cases e

include hT hm hD in
theorem denF_ok {G : Gam} (hG : GamOk P G) {f : FuncId} {fn : Func} (hf : P.funcs[f]? = some fn) (hcall : ∀ args w, (callFunc f args).run P w = .ok (.enter f args) w) : FunOk P f (denF T G fn) := by
  intro as h r h' e μ w args hR ha
  right
  refine ⟨hcall args w, ?_⟩
  unfold denF at e
  split at e
  · rename_i c hc
    refine calls_of_wp hf hc ?_
    have hlen := AV.relL_length ha
    have hlen' : args.size = as.length := by simpa using hlen
    have he : EnvRel μ (as ++ List.replicate (fn.ntmps - as.length) .junk) (args ++ Array.replicate (fn.ntmps - args.size) undef) := by
      refine ⟨fun t => ?_, by simp [hlen']⟩
      by_cases ht : t < as.length
      · obtain ⟨v, hv, hvr⟩ := AV.relL_get ha t _ (List.getElem?_eq_getElem ht)
        rw [Array.getElem?_toList] at hv
        have e1 : (as ++ List.replicate (fn.ntmps - as.length) AV.junk).getD t .junk = as[t] := by simp [List.getD_eq_getElem?_getD, List.getElem?_append_left ht, ht]
        have e2 : (args ++ Array.replicate (fn.ntmps - args.size) undef).getD t undef = v := by
          rw [Array.getD_eq_getD_getElem?, Array.getElem?_append_left (by omega), hv]; rfl
        rw [e1, e2]; exact hvr
      · have e1 : (as ++ List.replicate (fn.ntmps - as.length) AV.junk).getD t .junk = .junk := by
          rw [List.getD_eq_getElem?_getD, List.getElem?_append_right (by omega), List.getElem?_replicate]
          split <;> rfl
        rw [e1]; simp [AV.rel]
    refine wp_mono (den_ok hT hm hD hG c _ _ h μ ⟨args ++ Array.replicate (fn.ntmps - args.size) undef, []⟩ w _ e he hR) ?_
    rintro ex a' w' ⟨μ', env', h1, s, l, n, o⟩
    have fin : aResults T fn.results.toList env' h1 = some (r, h') → a'.defers = [] ∧ ∃ v, (results fn a'.tmps).run P w' = .ok v w' ∧ (∃ v_1 μ', Ending.returned v = Ending.returned v_1 ∧ r.rel μ' v_1 ∧ Post μ h w μ' h' w') := by
      intro hq
      obtain ⟨rfl, v, q1, q2⟩ := results_ok hT s.env s.post.rel hq
      exact ⟨s.defers, v, q1, v, μ', rfl, q2, s.post⟩
    cases ex with
    | normal => exact fin l
    | ret => exact fin l
    | exit id => cases l
    | goto g => cases l
    | panic c => cases l
    | outgrown => cases l
  · cases e
end
end Go.Am
