/- Functions: sound. -/
import Derived.Test.YtdaibgpceldbdaaGreatDoorAmSnd10
namespace Go.Am
open Go

theorem padTo_nil : ∀ n, padTo n [] = List.replicate n .junk
  | 0 => rfl
  | n + 1 => by show AV.junk :: padTo n [] = _; rw [padTo_nil n]; rfl
theorem padTo_eq : ∀ (n : Nat) (l : List AV), l.length ≤ n → padTo n l = l ++ List.replicate (n - l.length) .junk
  | 0, l, h => by
    have : l = [] := List.length_eq_zero_iff.1 (by omega)
    subst this; rfl
  | n + 1, [], _ => by rw [padTo_nil]; rfl
  | n + 1, a :: t, h => by
    show a :: padTo n t = _
    rw [padTo_eq n t (by simpa using h)]
    simp

def resRun (tmps : Array Value) : ResultVar → Sem Value
  | .tmp t => pure (tmps.getD t undef)
  | .cell a t => do loadVar t (← asAddr (tmps.getD a undef))
theorem results_eq (fn : Func) (tmps : Array Value) : results fn tmps = (do
    let vs ← fn.results.mapM (resRun tmps)
    pure (if h : vs.size = 1 then vs[0] else .tuple vs)) := by
  rfl
section
variable {P : Program} {T : Ty} (hT : TyOk P T) (hm : P.follows .mixedOrders = true)

include hT in
theorem res1_ok {μ : Mu} {env : List AV} {h : H} {w : World} {tmps : Array Value} (he : EnvRel μ env tmps) (hR : Rel μ h w) {r : AV} {a t : Nat} (e : opR T (.load t (.tmp a)) (ev env) h = some r) :
    ∃ v, (resRun tmps (.cell a t)).run P w = .ok v w ∧ r.rel μ v := by
  have hrel : OpsRel μ (ev env) (Act.eval ⟨tmps, []⟩) := ev_rel (a := ⟨tmps, []⟩) he
  obtain ⟨v, h1, h2⟩ := opR_ok (O := ⟨none, .load t (.tmp a), 0, "", #[], none⟩) hT e hrel hR
  refine ⟨v, ?_, h2⟩
  simp only [execOp, Sem.run_bind] at h1
  have hp : ∃ x, tmps.getD a undef = .pointer (some x) := by
    cases hx : tmps.getD a undef with
    | pointer p => cases p with
      | some x => exact ⟨x, rfl⟩
      | none => exfalso; simp only [Act.eval, hx, Instr.loadAt, Instr.sureAddr, Sem.run_bind, run_stuck, Result.andThen_halt] at h1; cases h1
    | _ => exfalso; simp only [Act.eval, hx, Instr.loadAt, Instr.sureAddr, Sem.run_bind, run_stuck, Result.andThen_halt] at h1; cases h1
  obtain ⟨x, hx⟩ := hp
  simp only [Act.eval, hx, Instr.loadAt, Instr.sureAddr, Sem.run_bind, Sem.run_pure, Result.andThen_ok] at h1
  simp only [resRun, hx, asAddr, Sem.run_bind, Sem.run_pure, Result.andThen_ok]
  cases hl : (loadVar t x).run P w with
  | ok v' w' =>
    rw [hl] at h1; simp only [Result.andThen_ok] at h1
    injection h1 with e1 e2; injection e1 with e1; subst e1 e2; rfl
  | halt hh w' => rw [hl] at h1; cases h1

include hT in
theorem resK_ok {μ : Mu} {env : List AV} {h : H} {w : World} {tmps : Array Value} (he : EnvRel μ env tmps) (hR : Rel μ h w) : ∀ {l : List ResultVar} {ts : List Nat} {k : List AV → Prop}, resK T env h l ts k →
    ∃ rs, k rs ∧ ∃ vs : List Value, (l.mapM (resRun tmps)).run P w = .ok vs w ∧ AV.relL μ rs vs
  | [], ts, k, e => ⟨[], e, [], rfl, AV.relL_nil.2 rfl⟩
  | rv :: l, ts, k, e => by
    have fin : ∀ {v : AV} {x : Value} {ts' : List Nat}, (resRun tmps rv).run P w = .ok x w → v.rel μ x → (resK T env h l ts' fun vs => k (v :: vs)) → ∃ rs, k rs ∧ ∃ vs : List Value, ((rv :: l).mapM (resRun tmps)).run P w = .ok vs w ∧ AV.relL μ rs vs := fun h1 h2 e => by
      obtain ⟨rs, hk, xs, h3, h4⟩ := resK_ok he hR e
      refine ⟨_, hk, _ :: xs, ?_, AV.relL_cons_cons.2 ⟨h2, h4⟩⟩
      simp only [List.mapM_cons, Sem.run_bind, Sem.run_pure]
      rw [h1]; simp only [Result.andThen_ok]; rw [h3]; rfl
    unfold resK at e
    split at e
    · rename_i t ty ts'
      have e := castK_imp e
      exact fin (x := tmps.getD t undef) rfl (by rw [lget_eq]; exact he.get t) e
    · rename_i a t
      obtain ⟨v, hv, e⟩ := ldK_imp e
      obtain ⟨x, h1, h2⟩ := res1_ok hT he hR (a := a) (t := t) hv
      exact fin h1 h2 e
    · exact e.elim

include hT in
theorem results_ok {μ : Mu} {env : List AV} {h : H} {w : World} {fn : Func} {tmps : Array Value} {k : AV → H → Prop} {ts : List Nat} (he : EnvRel μ env tmps) (hR : Rel μ h w) (e : resultsK T fn.results.toList ts env h k) :
    ∃ r v, k r h ∧ (results fn tmps).run P w = .ok v w ∧ r.rel μ v := by
  unfold resultsK at e
  obtain ⟨rs, hk, vs, h1, h2⟩ := resK_ok hT he hR e
  have run : (results fn tmps).run P w = .ok (if h : vs.toArray.size = 1 then vs.toArray[0] else .tuple vs.toArray) w := by
    rw [results_eq, Array.mapM_eq_mapM_toList]
    simp only [Sem.run_bind, Sem.run_map, Sem.run_pure]
    rw [h1]; rfl
  split at hk
  · rename_i v
    obtain ⟨x, vs', rfl, h3, h4⟩ := AV.relL_cons.1 h2
    rw [AV.relL_nil] at h4; subst h4
    exact ⟨_, x, hk, by rw [run]; rfl, h3⟩
  · rename_i hne
    refine ⟨_, .tuple vs.toArray, hk, ?_, by simp only [AV.rel]; exact ⟨_, rfl, h2⟩⟩
    rw [run, dif_neg]
    intro h1'
    have hl := AV.relL_length h2
    have : rs.length = 1 := by simpa [hl] using h1'
    obtain ⟨x, hx⟩ := List.length_eq_one_iff.1 this
    exact hne x hx

theorem leave_ok {G : Gam} (hG : GamOk P G) {n : Nat} {fn : Func} {tmps : Array Value} {R : Ending → World → Prop} : ∀ {ds : List Dfr} {l : List Deferred} {h : H} {k : H → Prop} {μ : Mu} {w : World}, leaveK G ds h k → DfrRel μ ds l → Rel μ h w →
    (∀ μ' h' w', Post μ h w μ' h' w' → k h' → LeavesInM Fence.wide n P fn tmps R [] .returning w') → LeavesInM Fence.wide n P fn tmps R l .returning w
  | [], l, h, k, μ, w, e, hd, hR, hq => by
    rw [show l = [] from hd]
    exact hq μ h w (Post.refl hR) e
  | .coll id :: ds, l, h, k, μ, w, e, hd, hR, hq => by
    obtain ⟨b, l', rfl, hm, hd'⟩ := hd
    unfold leaveK at e
    split at e
    · rename_i hg
      rw [putK_iff] at e
      obtain ⟨h', hp, e⟩ := e
      have hb := hR.blk id b 0 hm
      rw [hg] at hb
      have hh : w.heap[b]? = some (.deferred (some [])) := hb.2
      have post : Post μ h w μ h' (w.putObj b (.deferred none)) := obj_post hR hm (by rw [hg]; rfl) hp hh (by simp) fun w' hw' => ⟨rfl, hw'⟩
      refine ⟨by simp, .inl ⟨b, _, rfl, run_takeDeferred hh, leave_ok hG e (hd'.mono (hR.ext_le post.ext)) post.rel fun μ' h' w' p q => hq μ' h' w' (post.trans p) q⟩⟩
    · exact e.elim
  | .call f as cs :: ds, l, h, k, μ, w, e, hd, hR, hq => by
    obtain ⟨avs, cvs, l', rfl, h1, h2, hd'⟩ := hd
    unfold leaveK at e
    obtain ⟨c1, c2⟩ := hG.dfn f _ _ _ e μ w (avs ++ cvs) hR (by rw [Array.toList_append]; exact AV.relL_append h1 h2)
    refine ⟨by simp, .inr ⟨fun hdp => (by simp [Fence.wide] at hdp), .func f, cvs, f, avs ++ cvs, rfl, c1, fun _ _ => trivial, CallsDIn.mono (c2 (n - 1)) ?_⟩⟩
    rintro ex u' w' ⟨rfl, v, μ', r, h', rfl, hr, post, e'⟩
    exact leave_ok hG e' (hd'.mono (hR.ext_le post.ext)) post.rel fun μ'' h'' w'' p q => hq μ'' h'' w'' (post.trans p) q

theorem args_env {μ : Mu} {as : List AV} {args : Array Value} {n : Nat} (ha : AV.relL μ as args.toList) (hn : as.length ≤ n) : EnvRel μ (padTo n as) (args ++ Array.replicate (n - args.size) undef) ∧ (padTo n as).length = n := by
  have hlen := AV.relL_length ha
  have hlen' : args.size = as.length := by simpa using hlen
  rw [padTo_eq n as hn]
  refine ⟨⟨fun t => ?_, by simp [hlen']⟩, by simp; omega⟩
  by_cases ht : t < as.length
  · obtain ⟨v, hv, hvr⟩ := AV.relL_get ha t _ (List.getElem?_eq_getElem ht)
    rw [Array.getElem?_toList] at hv
    have e1 : (as ++ List.replicate (n - as.length) AV.junk).getD t .junk = as[t] := by simp [List.getD_eq_getElem?_getD, List.getElem?_append_left ht, ht]
    have e2 : (args ++ Array.replicate (n - args.size) undef).getD t undef = v := by
      rw [Array.getD_eq_getD_getElem?, Array.getElem?_append_left (by omega), hv]; rfl
    rw [e1, e2]; exact hvr
  · have e1 : (as ++ List.replicate (n - as.length) AV.junk).getD t .junk = .junk := by
      rw [List.getD_eq_getElem?_getD, List.getElem?_append_right (by omega), List.getElem?_replicate]
      split <;> rfl
    rw [e1]; simp [AV.rel]

include hT hm in
/-- a function's body is what its denotation says -/
theorem it_ok {G : Gam} (hG : GamOk P G) {f : FuncId} {fn : Func} (hf : P.funcs[f]? = some fn) (hcall : ∀ args w, (callFunc f args).run P w = .ok (.enter f args) w) : ItOk P f (denF T G fn) := by
  intro as h Q e μ w args hR ha
  refine ⟨hcall args w, ?_⟩
  unfold denF at e
  split at e
  · rename_i c hc hn
    rw [ble_iff] at hn
    unfold CallsTo
    rw [← callsIn_wide (n := 0)]
    refine callsIn_of_wp_marks hf hc trivial ?_
    obtain ⟨he, hl⟩ := args_env ha hn
    refine wpIn_mono (den_ok hT hm hG (.inl rfl) (fun _ => rfl) c _ _ _ [] h μ ⟨args ++ Array.replicate (fn.ntmps - args.size) undef, []⟩ w e he hl rfl hR) ?_
    rintro ex a' w' ⟨μ', env', ds', h1, s, l, _⟩
    have fin : (leaveK G ds' h1 fun h => resultsK T fn.results.toList fn.resultTypes.toList env' h Q) → LeavesInM Fence.wide 0 P fn a'.tmps (fun e w' => ∃ v μ' r h', e = .returned v ∧ r.rel μ' v ∧ Post μ h w μ' h' w' ∧ Q r h') a'.defers .returning w' := fun q =>
      leave_ok hG q s.defers s.post.rel fun μ2 h2 w2 p2 q2 => by
        obtain ⟨r, v, q3, q4, q5⟩ := results_ok hT (s.env.mono (s.post.rel.ext_le p2.ext)) p2.rel q2
        exact ⟨v, q4, v, μ2, r, h2, rfl, q5, s.post.trans p2, q3⟩
    cases ex with
    | normal => exact fin l
    | ret => exact fin l
    | exit id => exact l.elim
    | goto g => exact l.elim
    | panic c => exact l.elim
    | outgrown => exact l.elim
  · exact e.elim
include hT hm in
theorem fun_ok {G : Gam} (hG : GamOk P G) {f : FuncId} {fn : Func} (hf : P.funcs[f]? = some fn) (hcall : ∀ args w, (callFunc f args).run P w = .ok (.enter f args) w) : FunOk P f (denF T G fn) := (it_ok hT hm hG hf hcall).fun
include hT hm in
theorem dfun_ok {G : Gam} (hG : GamOk P G) {f : FuncId} {fn : Func} (hf : P.funcs[f]? = some fn) (hcall : ∀ args w, (callFunc f args).run P w = .ok (.enter f args) w) : DFunOk P f (denD T G fn) := by
  intro as h Q e μ w args hR ha
  refine ⟨hcall args w, fun n => ?_⟩
  unfold denD at e
  split at e
  · rename_i c hc hn
    rw [ble_iff] at hn
    obtain ⟨he, hl⟩ := args_env ha hn
    refine CallsDIn.mono (callsDIn_of_wp (R := fun e w' => ∃ v μ' r h', e = .returned v ∧ r.rel μ' v ∧ Post μ h w μ' h' w' ∧ Q r h') hf hc trivial (wpIn_mono (den_ok hT hm hG (.inl rfl) (fun _ => rfl) c _ _ _ [] h μ ⟨args ++ Array.replicate (fn.ntmps - args.size) undef, []⟩ w e he hl rfl hR) ?_)) fun e u' w' q => q
    rintro ex a' w' ⟨μ', env', ds', h1, s, l, _⟩
    have fin : noDfr ds' (resultsK T fn.results.toList fn.resultTypes.toList env' h1 Q) → a'.defers = [] ∧ ∃ v, (results fn a'.tmps).run P w' = .ok v w' ∧ ∃ v_1 μ' r h', Ending.returned v = .returned v_1 ∧ r.rel μ' v_1 ∧ Post μ h w μ' h' w' ∧ Q r h' := fun q => by
      unfold noDfr at q
      split at q
      · obtain ⟨r, v, q3, q4, q5⟩ := results_ok hT s.env s.post.rel q
        exact ⟨s.defers, v, q4, v, μ', r, h1, rfl, q5, s.post, q3⟩
      · exact q.elim
    cases ex with
    | normal => exact fin l
    | ret => exact fin l
    | exit id => exact l.elim
    | goto g => exact l.elim
    | panic c => exact l.elim
    | outgrown => exact l.elim
  · exact e.elim
include hT hm in
theorem code_ok {G : Gam} (hG : GamOk P G) : CodeOk P (denR T G) := by
  intro c K env ds h e l n μ a w he hd hR
  exact wpIn_mono (den_ok hT hm hG (.inr ⟨l, rfl⟩) (fun h => by cases h) c ⟨[], [], []⟩ K env ds h μ a w e he rfl hd hR) fun ex a' w' hx => hx.left
end
end Go.Am
