/- Reading, making, writing and calling: sound against the model's step of one operation. -/
import Derived.Test.YtlbigopkplckaaaAmSnd1
namespace Go.Am
open Go

/-- the function table is sound: what it answers the model's call comes to -/
def CallsTo (P : Program) (μ : Mu) (h : H) (w : World) (f : FuncId) (args : Array Value) (r : AV) (h' : H) : Prop :=
  Calls P f args w fun e w' => ∃ v μ', e = .returned v ∧ r.rel μ' v ∧ Post μ h w μ' h' w'
def FunOk (P : Program) (f : FuncId) (g : Fun) : Prop :=
  ∀ as h r h', g as h = some (r, h') → ∀ (μ : Mu) (w : World) (args : Array Value), Rel μ h w → AV.relL μ as args.toList →
    (∃ v w' μ', (callFunc f args).run P w = .ok (.value v) w' ∧ r.rel μ' v ∧ Post μ h w μ' h' w') ∨
    ((callFunc f args).run P w = .ok (.enter f args) w ∧ CallsTo P μ h w f args r h')
def GamOk (P : Program) (G : Gam) : Prop := ∀ f, FunOk P f (G f)

section
variable {P : Program} {T : Ty} (hT : TyOk P T) {μ : Mu} {ρa : Operand → AV} {ρ : Operand → Value}

theorem isU8_iff {k : Kd} (h : k.isU8 = true) : k = .int .u8 := by
  cases k <;> simp only [Kd.isU8, Bool.false_eq_true] at h
  rename_i i; cases i <;> first | rfl | cases h

include hT in
theorem opR_ok {O : Oper} {r : AV} {h : H} {w : World} (e : opR T O.op ρa h = some r) (hr : OpsRel μ ρa ρ) (hR : Rel μ h w) : ∃ v, (execOp ρ O).run P w = .ok (.value v) w ∧ r.rel μ v := by
  obtain ⟨dst, op, type, pos, after, guard⟩ := O
  have lft : ∀ {s : Sem Value} {v : Value}, s.run P w = .ok v w → ((do pure (.value (← s)) : Sem Next)).run P w = .ok (.value v) w := fun h => by
    simp only [Sem.run_bind, h, Result.andThen_ok, Sem.run_pure]
  simp only at e
  unfold opR at e
  split at e
  case h_1 t a =>
    split at e
    · rename_i hk
      split at e
      · rename_i ha; obtain ⟨v, h1, h2⟩ := loadN_ok hT hk ha hR e (hr a); exact ⟨v, lft h1, h2⟩
      · rename_i ha; obtain ⟨v, h1, h2⟩ := load1_ok hT hk ha hR e (hr a); exact ⟨v, lft h1, h2⟩
    · cases e
  case h_2 s d x =>
    split at e
    · rename_i e' hs hd
      split at e
      · rename_i hu
        obtain ⟨v, h1, h2⟩ := toStr_ok hT hs (isU8_iff hu) hd hR e (hr x); exact ⟨v, lft h1, h2⟩
      · cases e
    · rename_i e' hs hd
      split at e
      · rename_i hc; rw [Bool.and_eq_true, ble_iff] at hc
        obtain ⟨v, h1, h2⟩ := toU_ok hT hs hd hc.1 hc.2 hR e (hr x); exact ⟨v, lft h1, h2⟩
      · cases e
    · rename_i e' hs hd
      split at e
      · rename_i hc; rw [Bool.and_eq_true, ble_iff] at hc
        obtain ⟨v, h1, h2⟩ := ofU_ok hT hs hd hc.1 hc.2 hR e (hr x); exact ⟨v, lft h1, h2⟩
      · cases e
    · cases e
  case h_3 => cases e

/-- the operation makes one block -/
def AOkN (P : Program) (μ : Mu) (s : Sem Next) (k : Blk) (f : Nat → AV) : Prop :=
  ∀ w : World, ∃ v ob w', s.run P w = .ok (.value v) w' ∧ w'.heap = w.heap.push ob ∧ w'.os = w.os ∧ w'.tape = w.tape ∧ w'.output = w.output ∧
    (∀ μ' : Mu, Le μ μ' → BlkRel μ' w' w.heap.size 0 k) ∧ k.live = true ∧ (∃ cs t fr, ob = .cells cs t fr ∧ ∀ n (μ' : Mu), μ' n = some (w.heap.size, 0) → μ'.sz n = cs.size → (f n).rel μ' v)
theorem lftA {s : Sem Value} {k : Blk} {f : Nat → AV} (h : AOk P μ s k f) : AOkN P μ (do pure (.value (← s))) k f := fun w => by
  obtain ⟨v, ob, w', h1, h2⟩ := h w
  exact ⟨v, ob, w', by simp only [Sem.run_bind, h1, Result.andThen_ok, Sem.run_pure], h2⟩

theorem rowOk_iff {e : Nat} (h : rowOk T e = true) : (T e).kd.known = true ∧ (T e).size ≠ 0 ∧ (T e).zero.length = (T e).size ∧ 0 < (T e).bytes := by
  unfold rowOk at h
  simp only [Bool.and_eq_true, ble_iff, Nat.beq_eq] at h
  exact ⟨h.1.1.1, by omega, h.1.2, by omega⟩

include hT in
theorem opA_ok {O : Oper} {k : Blk} {f : Nat → AV} (e : opA T O.op ρa = some (k, f)) (hr : OpsRel μ ρa ρ) : AOkN P μ (execOp ρ O) k f := by
  obtain ⟨dst, op, type, pos, after, guard⟩ := O
  simp only at e
  unfold opA at e
  split at e
  case h_1 t =>
    split at e
    · rename_i hk; exact lftA (alloc_ok hT hk e)
    · cases e
  case h_2 t x => exact lftA (box_ok e (hr x))
  case h_3 t n ps =>
    split at e
    · rename_i e' hk
      split at e
      · rename_i hc
        simp only [Bool.and_eq_true, ble_iff, Nat.mul_eq] at hc
        obtain ⟨h1, h2, h3, h4⟩ := rowOk_iff hc.1.1
        have hp := parts_rel hr ps.toList
        have hp' : (ps.map fun (i, x) => (i, ρ x)).toList = ps.toList.map fun p => (p.1, ρ p.2) := by rw [Array.toList_map]
        rw [← hp'] at hp
        exact lftA (buildSlice_ok (ty := type) hT hk h1 h2 h3 (Nat.ne_of_gt hc.1.2) hc.2 e hp)
      · cases e
    · cases e
  case h_4 s d x =>
    split at e
    · rename_i e' hs hd
      split at e
      · rename_i hu; exact lftA (strBytes_ok hT hs hd (isU8_iff hu) e (hr x))
      · cases e
    · cases e
  case h_5 => cases e

theorem strOrSlice_iff {k : Kd} (h : strOrSlice k = true) : k = .str ∨ ∃ e, k = .slice e := by
  cases k <;> simp only [strOrSlice, Bool.false_eq_true] at h
  · exact .inl rfl
  · exact .inr ⟨_, rfl⟩

theorem upd_wp {O : Oper} {a : Act} {w w' : World} {next : Act → World → Prop} {Q : Exit → Act → World → Prop} {v : Value} (h : (execOp a.eval O).run P w = .ok (.value v) w') (hn : next (a.put O.dst v) w') : O.wp P a w next Q := by
  unfold Oper.wp; rw [h]; exact hn

include hT in
theorem opW_ok {G : Gam} (hG : GamOk P G) {O : Oper} {a : Act} {r : AV} {h h' : H} {w : World} {next : Act → World → Prop} {Q : Exit → Act → World → Prop} (e : opW T G O.op ρa h = some (r, h')) (hr : OpsRel μ ρa a.eval) (hR : Rel μ h w)
    (hn : ∀ v w' μ', r.rel μ' v → Post μ h w μ' h' w' → next (a.put O.dst v) w') : O.wp P a w next Q := by
  obtain ⟨dst, op, type, pos, after, guard⟩ := O
  simp only at e
  unfold opW at e
  split at e
  case h_1 t x y =>
    split at e
    · rename_i hc
      rw [Bool.and_eq_true, ble_iff] at hc
      split at e
      · rename_i h1 hs
        injection e with e; injection e with e1 e2; subst e1 e2
        obtain ⟨w', q1, q2⟩ := store_ok hT hc.1 (by omega) hR hs (hr x) (hr y)
        have hrun : (execOp a.eval ⟨dst, .store t x y, type, pos, after, guard⟩).run P w = .ok .skip w' := by
          simp only [execOp, Sem.run_bind, q1, Result.andThen_ok, Sem.run_pure]
        unfold Oper.wp; rw [hrun]
        exact hn undef w' μ (by simp [AV.rel]) q2
      · cases e
    · cases e
  case h_2 args argTypes =>
    split at e
    · rename_i s x t t2 ha ht
      have ea : args = #[s, x] := Array.toList_inj.1 ha
      have et : argTypes = #[t, t2] := Array.toList_inj.1 ht
      subst ea et
      have fin : WOk P μ h w (Builtin.append_ #[t, t2] type #[a.eval s, a.eval x]) r h' → Oper.wp P ⟨dst, .call { callee := .builtin .append, args := #[s, x], argTypes := #[t, t2] }, type, pos, after, guard⟩ a w next Q := by
        rintro ⟨v, w', μ', q1, q2, q3⟩
        refine upd_wp ?_ (hn v w' μ' q2 q3)
        simp only [execOp, resolve, Sem.run_bind, Sem.run_pure, Result.andThen_ok, invoke, builtin, List.map_toArray, List.map_cons, List.map_nil]
        rw [q1]; rfl
      split at e
      · rename_i e' hk
        split at e
        · rename_i hc
          rw [Bool.and_eq_true] at hc
          obtain ⟨h1, h2, h3, h4⟩ := rowOk_iff hc.1
          have h5 := strOrSlice_iff hc.2
          split at e
          · rename_i hu
            simp only [Bool.and_eq_true, Nat.beq_eq] at hu
            exact fin (appendB_ok hT hk (isU8_iff hu.1.1) hu.1.2 hu.2 (by rw [h3, hu.1.2]) h5 hR e (hr s) (hr x))
          · exact fin (appendC_ok hT hk h1 h2 h4 h3 h5 hR e (hr s) (hr x))
        · cases e
      · cases e
    · cases e
  case h_3 b args argTypes _ =>
    obtain ⟨v, w', μ', q1, q2, q3⟩ := biW_ok hT (ty := type) (cs := args.map (· matches .const _)) hR e (map_rel hr _)
    refine upd_wp ?_ (hn v w' μ' q2 q3)
    simp only [execOp, resolve, Sem.run_bind, Sem.run_pure, Result.andThen_ok, invoke]
    rw [show (args.toList.map a.eval).toArray = args.map a.eval from by rw [← Array.toList_map]] at q1
    simp only [Array.toArray_toList] at q1; exact q1
  case h_4 f args argTypes =>
    split at e
    · rename_i g first captured hf
      have hfr := hr f
      rw [hf] at hfr; simp only [AV.rel] at hfr
      obtain ⟨f', c', hv, h1, h2⟩ := hfr
      have hargs : AV.relL μ (first ++ (args.toList.map ρa ++ captured)) (f' ++ args.map a.eval ++ c').toList := by
        simp only [Array.toList_append, Array.toList_map, List.append_assoc]
        exact AV.relL_append h1 (AV.relL_append (map_rel hr _) h2)
      have hrun : (execOp a.eval ⟨dst, .call { callee := .value f, args := args, argTypes := argTypes }, type, pos, after, guard⟩).run P w = (callFunc g (f' ++ args.map a.eval ++ c')).run P w := by
        simp only [execOp, resolve, hv, Deferred.ofValue, Sem.run_bind, Sem.run_pure, Result.andThen_ok, invoke]
      rcases hG g _ _ _ _ e μ w _ hR hargs with ⟨v, w', μ', q1, q2, q3⟩ | ⟨q1, q2⟩
      · exact upd_wp (hrun.trans q1) (hn v w' μ' q2 q3)
      · unfold Oper.wp; rw [hrun, q1, Oper.upon_enter]
        refine Calls.mono q2 fun e' w' he => ?_
        obtain ⟨v, μ', rfl, q3, q4⟩ := he
        exact hn v w' μ' q3 q4
    · cases e
  case h_5 => cases e

include hT in
/-- one operation, whatever it is -/
theorem opX_ok {G : Gam} (hG : GamOk P G) {O : Oper} {a : Act} {r : AV} {h h' : H} {w : World} {next : Act → World → Prop} {Q : Exit → Act → World → Prop} (e : opX T G O.op ρa h = some (r, h')) (hr : OpsRel μ ρa a.eval) (hR : Rel μ h w)
    (hn : ∀ v w' μ', r.rel μ' v → Post μ h w μ' h' w' → next (a.put O.dst v) w') : O.wp P a w next Q := by
  unfold opX at e
  split at e
  · split at e
    · rename_i v hv
      injection e with e; injection e with e1 e2; subst e1 e2
      obtain ⟨x, h1, h2⟩ := opP_ok hT hv hr
      exact upd_wp (h1 w) (hn x w μ h2 (Post.refl hR))
    · cases e
  · split at e
    · rename_i v hv
      injection e with e; injection e with e1 e2; subst e1 e2
      obtain ⟨x, h1, h2⟩ := opR_ok hT hv hr hR
      exact upd_wp h1 (hn x w μ h2 (Post.refl hR))
    · cases e
  · unfold aNew at e
    split at e
    · rename_i k f hkf
      split at e
      · rename_i n h1' hp
        injection e with e; injection e with e1 e2; subst e1 e2
        obtain ⟨v, ob, w', q1, q2, q3, q4, q5, q6, _, cs, t, fr, rfl, q7⟩ := opA_ok hT hkf hr w
        obtain ⟨rfl, hpost⟩ := push_post (s := cs.size) hR hp q3 q4 q5 q2 (fun _ _ _ e => by injection e with e1; rw [e1]) (q6 _ (upd_le _ _ fun p hm => by have := (hR.dom _ p.1 p.2 hm).1; omega))
        exact upd_wp q1 (hn v w' _ (q7 _ _ (upd_self _ _ _ _) (upd_sz _ _ _ _)) hpost)
      · cases e
    · cases e
  · exact opW_ok hT hG e hr hR hn
end
end Go.Am
