/- A region in the order of the text: sound. -/
import Derived.Test.YtlbigopkplckaaaAmSnd2
namespace Go.Am
open Go

theorem EnvRel.mono {μ μ' : Mu} {env : List AV} {t : Array Value} (h : EnvRel μ env t) (hm : Le μ μ') : EnvRel μ' env t := ⟨fun i => AV.rel_mono hm _ _ (h.get i), h.len⟩
theorem put_len (dst : Option Nat) (v : AV) (env : List AV) : (put dst v env).length = env.length := by
  cases dst with
  | none => rfl
  | some d => show (lset env d v).length = _; rw [lset_eq]; simp
theorem put_get (dst : Option Nat) (v : AV) (env : List AV) (t : Nat) (h : dst ≠ some t) : (put dst v env).getD t .junk = env.getD t .junk := by
  cases dst with
  | none => rfl
  | some d =>
    have : d ≠ t := fun e => h (by rw [e])
    show (lset env d v).getD t .junk = _
    rw [lset_eq]; simp [this]
theorem put_self (d : Nat) (v : AV) (env : List AV) : (put (some d) v env).getD d .junk = if d < env.length then v else .junk := by
  show (lset env d v).getD d .junk = _
  rw [lset_eq]; simp only [List.getD_eq_getElem?_getD, List.getElem?_set, if_true]
  split <;> rfl
theorem EnvRel.put {μ : Mu} {env : List AV} {a : Act} (h : EnvRel μ env a.tmps) (dst : Option Nat) {r : AV} {v : Value} (hv : r.rel μ v) : EnvRel μ (put dst r env) (a.put dst v).tmps := by
  cases dst with
  | none => exact h
  | some d =>
    refine ⟨fun t => ?_, by rw [put_len]; simpa [Act.put] using h.len⟩
    by_cases e : d = t
    · subst e
      rw [put_self]
      split
      · rename_i hd
        have := h.len
        have hd' : d < a.tmps.size := by omega
        simp [Act.put, hd', hv]
      · simp [AV.rel]
    · rw [put_get _ _ _ _ (fun x => by injection x with x; exact e x)]
      have := h.get t
      simpa [Act.put, Array.getElem?_setIfInBounds_ne e] using this

section
variable {P : Program} {T : Ty} (hT : TyOk P T)

theorem guarded_ok {μ : Mu} {ops : Array Oper} {o : Oper} {env : List AV} {a : Act} {b : Bool} (h : guarded ops.toList o env = some b) (he : EnvRel μ env a.tmps) : Region.wanted o (yielded ops a.tmps) = b := by
  unfold guarded at h
  unfold Region.wanted
  split at h
  · rename_i hg; rw [hg]; injection h
  · rename_i j want hg
    rw [hg]
    split at h
    · rename_i oj hoj
      split at h
      · rename_i d hd
        split at h
        · rename_i b' hb
          injection h with h
          have := he.get d
          rw [← lget_eq, hb] at this
          simp only [AV.rel] at this
          have hd2 : a.tmps[d]? = some (.bool b') := by
            rw [Array.getD_eq_getD_getElem?] at this
            cases hx : a.tmps[d]? with
            | none => rw [hx] at this; simp [undef] at this
            | some v => rw [hx] at this; simp at this; rw [this]
          rw [Array.getElem?_toList] at hoj
          have hy : yielded ops a.tmps j = some b' := by simp [yielded, hoj, hd, hd2]
          show (yielded ops a.tmps j == some want) = b
          rw [hy, ← h]
          cases b' <;> cases want <;> rfl
        · cases h
      · cases h
    · cases h

/-- what a piece of work leaves: a state that its continuation goes on from -/
structure St (μ : Mu) (h : H) (w : World) (a : Act) (μ' : Mu) (env' : List AV) (h' : H) (a' : Act) (w' : World) : Prop where
  post : Post μ h w μ' h' w'
  env : EnvRel μ' env' a'.tmps
  defers : a'.defers = a.defers
theorem St.refl {μ : Mu} {h : H} {w : World} {a : Act} {env : List AV} (hr : Rel μ h w) (he : EnvRel μ env a.tmps) : St μ h w a μ env h a w := ⟨Post.refl hr, he, rfl⟩
theorem St.trans {μ μ' μ'' : Mu} {h h' h'' : H} {w w' w'' : World} {a a' a'' : Act} {e' e'' : List AV} (p : St μ h w a μ' e' h' a' w') (q : St μ' h' w' a' μ'' e'' h'' a'' w'') : St μ h w a μ'' e'' h'' a'' w'' :=
  ⟨p.post.trans q.post, q.env, q.defers.trans p.defers⟩
theorem put_defers' (a : Act) (d : Option Tmp) (v : Value) : (a.put d v).defers = a.defers := by cases d <;> rfl

include hT in
theorem runSeq_ok {G : Gam} (hG : GamOk P G) {ops : Array Oper} {k : List AV → H → Option (AV × H)} {res : AV × H} {Q : Exit → Act → World → Prop} {W : List Nat} {env0 : List AV} :
    ∀ (r : List Oper) (i : Nat), ops.toList.drop i = r → ∀ (env : List AV) (h : H) (μ : Mu) (a : Act) (w : World), runSeq T G ops.toList r env h k = some res → EnvRel μ env a.tmps → Rel μ h w →
      (∀ o ∈ ops, ∀ d, o.dst = some d → d ∈ W) → (∀ t, t ∉ W → env.getD t .junk = env0.getD t .junk) → env.length = env0.length →
      (∀ μ' env' h' a' w', St μ h w a μ' env' h' a' w' → k env' h' = some res → (∀ t, t ∉ W → env'.getD t .junk = env0.getD t .junk) → env'.length = env0.length → Q .normal a' w') →
      wpOps P ops Q (List.range' i r.length) a w
  | [], i, hd, env, h, μ, a, w, e, he, hR, _, hk, hl, hq => by
    simp only [List.length_nil, List.range'_zero, wpOps]
    exact hq μ env h a w (St.refl hR he) e hk hl
  | o :: r, i, hd, env, h, μ, a, w, e, he, hR, hW, hk, hl, hq => by
    have hi : ops[i]? = some o := by
      rw [← Array.getElem?_toList]
      have : (ops.toList.drop i)[0]? = some o := by rw [hd]; rfl
      simpa using this
    have hd' : ops.toList.drop (i + 1) = r := by
      rw [← List.drop_drop, hd]; rfl
    have hmem : o ∈ ops := Array.mem_of_getElem? hi
    have step : ∀ {r' : AV} {h' : H} {v : Value} {w' : World} {μ' : Mu}, runSeq T G ops.toList r (put o.dst r' env) h' k = some res → r'.rel μ' v → Post μ h w μ' h' w' →
        wpOps P ops Q (List.range' (i + 1) r.length) (a.put o.dst v) w' := by
      intro r' h' v w' μ' e' hv hp
      have he' := (he.mono (hR.ext_le hp.ext)).put o.dst hv
      refine runSeq_ok (env0 := env0) hG r (i + 1) hd' _ _ μ' _ _ e' he' hp.rel hW (fun t ht => ?_) (by rw [put_len]; exact hl) fun μ'' env'' h'' a'' w'' hs => ?_
      · rw [put_get _ _ _ _ (fun x => ht (hW o hmem t x))]; exact hk t ht
      · exact hq μ'' env'' h'' a'' w'' (St.trans ⟨hp, he', put_defers' _ _ _⟩ hs)
    simp only [runSeq] at e
    simp only [List.length_cons, List.range'_succ, wpOps, hi]
    unfold stepO at e
    cases hg : guarded ops.toList o env with
    | none => rw [hg] at e; cases e
    | some b =>
      rw [hg] at e
      rw [guarded_ok hg he]
      cases b with
      | false => exact step (r' := .junk) (v := undef) e (by simp [AV.rel]) (Post.refl hR)
      | true =>
        simp only [if_true]
        left
        simp only at e
        cases hx : opX T G o.op (ev env) h with
        | none => rw [hx] at e; cases e
        | some p =>
          obtain ⟨r', h'⟩ := p
          rw [hx] at e
          exact opX_ok hT hG hx (ev_rel he) hR fun v w' μ' hv hp => step e hv hp
end
end Go.Am
