/- A region in the order of the text: sound. -/
import Derived.Test.YtdaibgpceldbdaaGreatDoorAmDen
import Derived.Test.YtdaibgpceldbdaaGreatDoorAmSnd2
namespace Go.Am
open Go

theorem put_len (dst : Option Nat) (v : AV) (env : List AV) : (put dst v env).length = env.length := by
  cases dst with
  | none => rfl
  | some d => show (lset env d v).length = _; rw [lset_eq]; simp
theorem put_get (dst : Option Nat) (v : AV) (env : List AV) (t : Nat) (h : dst ≠ some t) : (put dst v env).getD t .junk = env.getD t .junk := by
  cases dst with
  | none => rfl
  | some d =>
    have : d ≠ t := fun e => h (by rw [e])
    show (lset env d v).getD t .junk = _
    rw [lset_eq]; simp [this]
theorem put_self (d : Nat) (v : AV) (env : List AV) : (put (some d) v env).getD d .junk = if d < env.length then v else .junk := by
  show (lset env d v).getD d .junk = _
  rw [lset_eq]; simp only [List.getD_eq_getElem?_getD, List.getElem?_set, if_true]
  split <;> rfl
theorem EnvRel.put {μ : Mu} {env : List AV} {a : Act} (h : EnvRel μ env a.tmps) (dst : Option Nat) {r : AV} {v : Value} (hv : r.rel μ v) : EnvRel μ (put dst r env) (a.put dst v).tmps := by
  cases dst with
  | none => exact h
  | some d =>
    refine ⟨fun t => ?_, by rw [put_len]; simpa [Act.put] using h.len⟩
    by_cases e : d = t
    · subst e
      rw [put_self]
      split
      · rename_i hd
        have := h.len
        have hd' : d < a.tmps.size := by omega
        simp [Act.put, hd', hv]
      · simp [AV.rel]
    · rw [put_get _ _ _ _ (fun x => by injection x with x; exact e x)]
      have := h.get t
      simpa [Act.put, Array.getElem?_setIfInBounds_ne e] using this
theorem put_defers' (a : Act) (d : Option Tmp) (v : Value) : (a.put d v).defers = a.defers := by cases d <;> rfl
theorem put_tmps_defers (a : Act) (ds : List Deferred) (d : Option Tmp) (v : Value) : ({ a with defers := ds }.put d v).tmps = (a.put d v).tmps := by cases d <;> rfl

/-- a slot that an operation's guard looks at, known, is the guard's answer -/
theorem wanted_of {μ : Mu} {ops : Array Oper} {o oj : Oper} {env : List AV} {tmps : Array Value} {j d : Nat} {want b : Bool} (hg : o.guard = some (j, want)) (hj : ops.toList[j]? = some oj) (hd : oj.dst = some d) (hb : lget .junk env d = .bool b)
    (he : (env.getD d .junk).rel μ (tmps.getD d undef)) : Region.wanted o (yielded ops tmps) = (b == want) := by
  rw [← lget_eq, hb] at he
  simp only [AV.rel] at he
  have hd2 : tmps[d]? = some (.bool b) := by
    rw [Array.getD_eq_getD_getElem?] at he
    cases hx : tmps[d]? with
    | none => rw [hx] at he; simp [undef] at he
    | some v => rw [hx] at he; simp at he; rw [he]
  rw [Array.getElem?_toList] at hj
  have hy : yielded ops tmps j = some b := by simp [yielded, hj, hd, hd2]
  unfold Region.wanted
  rw [hg]
  show (yielded ops tmps j == some want) = _
  rw [hy]; cases b <;> cases want <;> rfl
theorem wanted_skip {μ : Mu} {ops : Array Oper} {o oj : Oper} {env : List AV} {tmps : Array Value} {j d : Nat} {want : Bool} (hg : o.guard = some (j, want)) (hj : ops.toList[j]? = some oj) (hd : oj.dst = some d) (hb : lget .junk env d = skipV)
    (he : (env.getD d .junk).rel μ (tmps.getD d undef)) : Region.wanted o (yielded ops tmps) = false := by
  rw [← lget_eq, hb] at he
  have hu : tmps.getD d undef = .tuple #[] := by
    simp only [skipV, AV.rel] at he
    obtain ⟨vs, h1, h2⟩ := he
    rw [AV.relL_nil] at h2
    rw [h1, Array.toList_eq_nil_iff.1 h2]
  rw [Array.getElem?_toList] at hj
  have hy : yielded ops tmps j = none := by
    rw [Array.getD_eq_getD_getElem?] at hu
    cases hx : tmps[d]? with
    | none => simp [yielded, hj, hd, hx]
    | some v => rw [hx] at hu; simp at hu; subst hu; simp [yielded, hj, hd, hx]
  unfold Region.wanted
  rw [hg]
  show (yielded ops tmps j == some want) = _
  rw [hy]; rfl
theorem skipV_rel {μ : Mu} : AV.rel μ skipV undef := by simp only [skipV, AV.rel]; exact ⟨#[], rfl, AV.relL_nil.2 rfl⟩
/-- which slot a guard looks at -/
def guardSlot (all : List Oper) (o : Oper) : List Nat :=
  match o.guard with
  | some (g, _) => ((all[g]?).bind (·.dst)).toList
  | none => []
theorem guardK_ok {J : Joins} {μ : Mu} {ops : Array Oper} {o : Oper} {env : List AV} {h : H} {tmps : Array Value} {run : (AV → H → Prop) → Prop} {k : AV → H → Prop} (e : guardK J ops.toList o env h run k) (he : ∀ d ∈ guardSlot ops.toList o, (env.getD d .junk).rel μ (tmps.getD d undef)) :
    (Region.wanted o (yielded ops tmps) = true ∧ run k) ∨ (Region.wanted o (yielded ops tmps) = false ∧ k skipV h) := by
  unfold guardK at e
  split at e
  · rename_i hg
    exact .inl ⟨by unfold Region.wanted; rw [hg], e⟩
  · rename_i j want hg
    split at e
    · rename_i oj hj
      split at e
      · rename_i d hd
        rw [J.jn_ok, asBU_iff] at e
        rcases e with ⟨b, hb, e⟩ | ⟨hb, e⟩
        · have hw := wanted_of hg hj hd hb (he d (by unfold guardSlot; simp [hg, hj, hd]))
          rw [hw]
          split at e
          · rw [br_iff] at e
            rcases e with ⟨rfl, e⟩ | ⟨rfl, e⟩
            · exact .inl ⟨rfl, e⟩
            · exact .inr ⟨rfl, e⟩
          · rw [br_iff] at e
            rcases e with ⟨rfl, e⟩ | ⟨rfl, e⟩
            · exact .inr ⟨rfl, e⟩
            · exact .inl ⟨rfl, e⟩
        · exact .inr ⟨wanted_skip hg hj hd hb (he d (by unfold guardSlot; simp [hg, hj, hd])), e⟩
      · exact e.elim
    · exact e.elim
theorem guardB_ok {J : Joins} {μ : Mu} {ops : Array Oper} {o : Oper} {env : List AV} {tmps : Array Value} {run : (AV → Prop) → Prop} {k : Bool → AV → Prop} (e : guardB J ops.toList o env run k) (he : ∀ d ∈ guardSlot ops.toList o, (env.getD d .junk).rel μ (tmps.getD d undef)) :
    (Region.wanted o (yielded ops tmps) = true ∧ run (k true)) ∨ (Region.wanted o (yielded ops tmps) = false ∧ k false skipV) := by
  unfold guardB at e
  split at e
  · rename_i hg
    exact .inl ⟨by unfold Region.wanted; rw [hg], e⟩
  · rename_i j want hg
    split at e
    · rename_i oj hj
      split at e
      · rename_i d hd
        rw [J.jb_ok, asBU_iff] at e
        rcases e with ⟨b, hb, e⟩ | ⟨hb, e⟩
        · have hw := wanted_of hg hj hd hb (he d (by unfold guardSlot; simp [hg, hj, hd]))
          rw [hw]
          split at e
          · rw [br_iff] at e
            rcases e with ⟨rfl, e⟩ | ⟨rfl, e⟩
            · exact .inl ⟨rfl, e⟩
            · exact .inr ⟨rfl, e⟩
          · rw [br_iff] at e
            rcases e with ⟨rfl, e⟩ | ⟨rfl, e⟩
            · exact .inr ⟨rfl, e⟩
            · exact .inl ⟨rfl, e⟩
        · exact .inr ⟨wanted_skip hg hj hd hb (he d (by unfold guardSlot; simp [hg, hj, hd])), e⟩
      · exact e.elim
    · exact e.elim

theorem St.refl {μ : Mu} {h : H} {w : World} {a : Act} {env : List AV} {ds : List Dfr} (hr : Rel μ h w) (he : EnvRel μ env a.tmps) (hd : DfrRel μ ds a.defers) : St μ h w μ env ds h a w := ⟨Post.refl hr, he, hd⟩
theorem St.trans {μ μ' μ'' : Mu} {h h' h'' : H} {w w' w'' : World} {a' a'' : Act} {e' e'' : List AV} {d' d'' : List Dfr} (p : St μ h w μ' e' d' h' a' w') (q : St μ' h' w' μ'' e'' d'' h'' a'' w'') : St μ h w μ'' e'' d'' h'' a'' w'' :=
  ⟨p.post.trans q.post, q.env, q.defers⟩

section
variable {P : Program} {T : Ty} (hT : TyOk P T)

include hT in
/-- one operation as it is reckoned -/
theorem opF_ok {F : Fence} {n : Nat} {G : Gam} (hG : GamOk P G) (hF : WideF F) {ty : Nat} {μ : Mu} {ρa : Operand → AV} {O : Oper} {a : Act} {h : H} {w : World} {K : AV → H → Prop} {next : Act → World → Prop} {Q : Exit → Act → World → Prop} (e : opF T G ty O.op ρa h K) (hr : OpsRel μ ρa a.eval) (hR : Rel μ h w)
    (hn : ∀ v w' μ' r h', r.rel μ' v → Post μ h w μ' h' w' → K r h' → next (a.put O.dst v) w') : O.wpIn F n P a w next Q := by
  obtain ⟨K', h1, h2⟩ := opF_imp e
  exact opX_ok hT hG hF h1 hr hR fun v w' μ' r h' q1 q2 q3 => hn v w' μ' r h' q1 q2 (h2 r h' q3)

include hT in
theorem runSeq_ok {F : Fence} {n : Nat} {G : Gam} (hG : GamOk P G) (hF : WideF F) {top : Bool} (htop : top = true → F.round = none) {ops : Array Oper} {k : List AV → List Dfr → H → Prop} {Q : Exit → Act → World → Prop} :
    ∀ (r : List Oper) (i : Nat), ops.toList.drop i = r → ∀ (env : List AV) (ds : List Dfr) (h : H) (μ : Mu) (a : Act) (w : World), runSeq T G top ops.toList r env ds h k → EnvRel μ env a.tmps → DfrRel μ ds a.defers → Rel μ h w →
      (∀ μ' env' ds' h' a' w', St μ h w μ' env' ds' h' a' w' → k env' ds' h' → env'.length = env.length → Q .normal a' w') →
      wpOpsIn F n P ops Q (List.range' i r.length) a w
  | [], i, hd, env, ds, h, μ, a, w, e, he, hds, hR, hq => by
    simp only [List.length_nil, List.range'_zero, wpOpsIn]
    exact hq μ env ds h a w (St.refl hR he hds) e rfl
  | o :: r, i, hd, env, ds, h, μ, a, w, e, he, hds, hR, hq => by
    have hi : ops[i]? = some o := by
      rw [← Array.getElem?_toList]
      have : (ops.toList.drop i)[0]? = some o := by rw [hd]; rfl
      simpa using this
    have hd' : ops.toList.drop (i + 1) = r := by
      rw [← List.drop_drop, hd]; rfl
    have step : ∀ {r' : AV} {h' : H} {v : Value} {w' : World} {μ' : Mu}, (putE o.dst r' env fun env => runSeq T G top ops.toList r env ds h' k) → r'.rel μ' v → Post μ h w μ' h' w' →
        wpOpsIn F n P ops Q (List.range' (i + 1) r.length) (a.put o.dst v) w' := by
      intro r' h' v w' μ' e' hv hp
      rw [putE_eq] at e'
      have hle := hR.ext_le hp.ext
      have he' := (he.mono hle).put o.dst hv
      have hds' : DfrRel μ' ds (a.put o.dst v).defers := by rw [put_defers']; exact hds.mono hle
      refine runSeq_ok hG hF htop r (i + 1) hd' _ _ _ μ' _ _ e' he' hds' hp.rel fun μ'' env'' ds'' h'' a'' w'' hs hk hl => ?_
      exact hq μ'' env'' ds'' h'' a'' w'' (St.trans ⟨hp, he', hds'⟩ hs) hk (by rw [hl, put_len])
    simp only [List.length_cons, List.range'_succ, wpOpsIn, hi]
    unfold runSeq at e
    split at e
    · -- a deferred call
      rename_i c hop
      split at e
      · rename_i f hg hcal
        split at e
        · rename_i g first captured hf
          rw [putE_eq] at e
          have hw : Region.wanted o (yielded ops a.tmps) = true := by unfold Region.wanted; rw [hg]
          rw [hw]; simp only [if_true]
          refine ⟨fun f _ => hF.fn f, ?_⟩
          have hfr := ev_rel he f
          rw [hf] at hfr; simp only [AV.rel] at hfr
          obtain ⟨f', c', hv, h1, h2⟩ := hfr
          have hrun : (o.semAt F.round a.eval).run P w = .ok (.defer { target := .fn (.func g) c', args := f' ++ c.args.map a.eval }) w := by
            rw [htop rfl, Oper.semAt_none]
            simp only [execOp, hop, resolve, hcal, hv, Deferred.ofValue, Sem.run_bind, Sem.run_pure, Result.andThen_ok]
          rw [hrun, Oper.uponIn_defer]
          have he' := he.put o.dst (r := .junk) (v := undef) (by simp [AV.rel])
          have hds' : DfrRel μ (.call g (first ++ c.args.toList.map (ev env)) captured :: ds) ({ a with defers := { target := .fn (.func g) c', args := f' ++ c.args.map a.eval } :: a.defers }.put o.dst undef).defers := by
            rw [put_defers']
            refine ⟨_, _, _, rfl, ?_, h2, hds⟩
            simp only [Array.toList_append, Array.toList_map]
            exact AV.relL_append h1 (map_rel (ev_rel he) _)
          refine runSeq_ok hG hF htop r (i + 1) hd' _ _ _ μ _ _ e (by rw [put_tmps_defers]; exact he') hds' hR fun μ'' env'' ds'' h'' a'' w'' hs hk hl => ?_
          exact hq μ'' env'' ds'' h'' a'' w'' hs hk (by rw [hl, put_len])
        · exact e.elim
      · exact e.elim
    · rcases guardK_ok e (fun d _ => he.get d) with ⟨hw, e⟩ | ⟨hw, e⟩
      · rw [hw]
        simp only [if_true]
        exact opF_ok hT hG hF e (ev_rel he) hR fun v w' μ' r' h' hv hp hk => step hk hv hp
      · rw [hw]
        simp only [Bool.false_eq_true, if_false]
        exact ⟨fun f _ => hF.fn f, step e skipV_rel (Post.refl hR)⟩
end
end Go.Am
