/- Each operation of the functional semantics is sound against the model's 'execOp'. -/
import Derived.Test.YtdaibgpceldbdaaGreatDoorAmSpec
namespace Go.Am
open Go

/-- the operands stand to each other -/
def OpsRel (μ : Mu) (ρa : Operand → AV) (ρ : Operand → Value) : Prop := ∀ x, (ρa x).rel μ (ρ x)
theorem ev_rel {μ : Mu} {env : List AV} {a : Act} (h : EnvRel μ env a.tmps) : OpsRel μ (ev env) a.eval := by
  intro x
  cases x with
  | tmp t => show (lget .junk env t).rel μ _; rw [lget_eq]; exact h.get t
  | const v => exact ofVal_rel v
  | global g => simp [ev, AV.rel]
  | func f => simp only [ev, AV.rel, Act.eval]; exact ⟨_, _, rfl, AV.relL_nil.2 rfl, AV.relL_nil.2 rfl⟩
theorem opt_rel {μ : Mu} {ρa : Operand → AV} {ρ : Operand → Value} (h : OpsRel μ ρa ρ) (x : Option Operand) : optRel μ (x.map ρa) (x.map ρ) := by
  cases x with
  | none => trivial
  | some x => exact h x
theorem map_rel {μ : Mu} {ρa : Operand → AV} {ρ : Operand → Value} (h : OpsRel μ ρa ρ) : ∀ l : List Operand, AV.relL μ (l.map ρa) (l.map ρ)
  | [] => AV.relL_nil.2 rfl
  | x :: l => AV.relL_cons_cons.2 ⟨h x, map_rel h l⟩
theorem parts_rel {μ : Mu} {ρa : Operand → AV} {ρ : Operand → Value} (h : OpsRel μ ρa ρ) : ∀ l : List (Nat × Operand), RelP μ (l.map fun p => (p.1, ρa p.2)) (l.map fun p => (p.1, ρ p.2))
  | [] => rfl
  | p :: l => ⟨_, _, rfl, h p.2, parts_rel h l⟩

section
variable {P : Program} {T : Ty} (hT : TyOk P T) {μ : Mu} {ρa : Operand → AV} {ρ : Operand → Value}

theorem lift {s : Sem Value} {v : Value} (h : Yld P s v) : YldN P (do pure (.value (← s))) v := fun w => by
  simp only [Sem.run_bind, h w, Result.andThen_ok, Sem.run_pure]

theorem fieldOf_some {t f off ft : Nat} (h : fieldOf T t f = some (off, ft)) : ∃ fs, (T t).kd = .struct fs ∧ fs[f]? = some (off, ft) ∧ (T ft).kd.known = true ∧ (T ft).size ≠ 0 := by
  unfold fieldOf at h
  split at h
  · rename_i fs hk
    split at h
    · rename_i o t' hf
      split at h
      · rename_i hc
        injection h with h; injection h with e1 e2; subst e1 e2
        rw [Bool.and_eq_true, ble_iff] at hc
        exact ⟨fs, hk, hf, hc.1, by omega⟩
      · cases h
    · cases h
  · cases h

include hT in
theorem opP_ok {O : Oper} {r : AV} (h : opP T O.op ρa = some r) (hr : OpsRel μ ρa ρ) : ∃ v, YldN P (execOp ρ O) v ∧ r.rel μ v := by
  obtain ⟨dst, op, type, pos, after, guard⟩ := O
  simp only at h
  unfold opP at h
  split at h
  case h_1 x => injection h with h; subst h; exact ⟨ρ x, fun w => rfl, hr x⟩
  case h_2 x => injection h with h; subst h; exact ⟨ρ x, fun w => rfl, hr x⟩
  case h_3 c a b =>
    have hc := hr c
    unfold aPick at h
    split at h
    · rename_i e; injection h with h; subst h
      rw [e] at hc; simp only [AV.rel] at hc
      exact ⟨ρ a, fun w => by simp only [execOp, hc]; rfl, hr a⟩
    · rename_i e; injection h with h; subst h
      rw [e] at hc; simp only [AV.rel] at hc
      exact ⟨ρ b, fun w => by simp only [execOp, hc]; rfl, hr b⟩
    · cases h
  case h_4 x =>
    have hx := hr x
    unfold aNilCheck at h
    split at h
    · rename_i e; injection h with h; subst h
      rw [e] at hx; simp only [AV.rel] at hx
      obtain ⟨b, d, hm, hv⟩ := hx
      refine ⟨ρ x, fun w => ?_, by simp only [AV.rel]; exact ⟨b, d, hm, hv⟩⟩
      simp only [execOp, hv]; rfl
    · rename_i e; injection h with h; subst h
      rw [e] at hx; simp only [AV.rel] at hx
      obtain ⟨y, hv, hy⟩ := hx
      refine ⟨ρ x, fun w => ?_, by simp only [AV.rel]; exact ⟨y, hv, hy⟩⟩
      simp only [execOp, hv]; rfl
    · rename_i e; injection h with h; subst h
      rw [e] at hx; simp only [AV.rel] at hx
      obtain ⟨f', c', hv, h1, h2⟩ := hx
      refine ⟨ρ x, fun w => ?_, by simp only [AV.rel]; exact ⟨f', c', hv, h1, h2⟩⟩
      simp only [execOp, hv]; rfl
    · cases h
  case h_5 op t x y u =>
    obtain ⟨v, h1, h2⟩ := bin_ok hT (ox := x) (oy := y) (by rw [Bool.or_eq_true]; exact id) h (hr x) (hr y)
    exact ⟨v, lift h1, h2⟩
  case h_6 op t x => obtain ⟨v, h1, h2⟩ := un_ok (P := P) h (hr x); exact ⟨v, lift h1, h2⟩
  case h_7 s d x =>
    unfold aConv at h
    split at h
    · rename_i k hk
      split at h
      · rename_i hs
        obtain ⟨v, h1, h2⟩ := aint_ok hT hs hk h (hr x); exact ⟨v, lift h1, h2⟩
      · cases h
    · rename_i hk
      split at h
      · rename_i s' hs e
        injection h with h; subst h
        obtain ⟨_, h1, rfl⟩ := und_of hT hs rfl
        obtain ⟨_, h2, rfl⟩ := und_of hT hk rfl
        have hx := hr x
        rw [e] at hx; simp only [AV.rel] at hx
        obtain ⟨b, hv, hb⟩ := hx
        refine ⟨ρ x, lift fun w => ?_, by simp only [AV.rel]; exact ⟨b, hv, hb⟩⟩
        simp [convert, run_underlying h1, run_underlying h2, hv]
      · cases h
    · cases h
  case h_8 fn a b =>
    injection h with h; subst h
    refine ⟨.func fn (a.map ρ) (b.map ρ), fun w => rfl, ?_⟩
    simp only [AV.rel]
    exact ⟨_, _, rfl, by rw [Array.toList_map]; exact map_rel hr _, by rw [Array.toList_map]; exact map_rel hr _⟩
  case h_9 t x =>
    have key : ∀ d, P.underlying t = some d → (∀ ms, d ≠ .interface ms) → Yld P (Instr.makeInterface t (ρ x)) (.iface t (ρ x)) := by
      intro d hd hne w
      cases d <;> first | exact absurd rfl (hne _) | simp [Instr.makeInterface, run_underlying hd]
    split at h
    · cases h
    · cases h
    · rename_i h1 h2
      injection h with h; subst h
      obtain ⟨d, hd, hk⟩ := und_of hT (t := t) rfl (by revert h1 h2; cases (T t).kd <;> simp [Kd.known])
      refine ⟨.iface t (ρ x), lift (key d hd ?_), by simp only [AV.rel]; exact ⟨_, rfl, hr x⟩⟩
      intro ms e
      subst e
      revert hk h1 h2
      cases (T t).kd <;> simp [KdRel]
  case h_10 t x f =>
    split at h
    · rename_i off ft hf
      obtain ⟨fs, e1, e2, e3, e4⟩ := fieldOf_some hf
      obtain ⟨v, h1, h2⟩ := fieldAddr_ok hT e1 e2 e3 e4 h (hr x); exact ⟨v, lift h1, h2⟩
    · cases h
  case h_11 t x f =>
    split at h
    · rename_i off ft hf
      obtain ⟨fs, e1, e2, e3, e4⟩ := fieldOf_some hf
      obtain ⟨v, h1, h2⟩ := field_ok hT e1 e2 e3 h (hr x); exact ⟨v, lift h1, h2⟩
    · cases h
  case h_12 t x i =>
    split at h
    · rename_i e hk
      split at h
      · rename_i hk2; obtain ⟨v, h1, h2⟩ := indexAddr_ok hT hk hk2 h (hr x) (hr i); exact ⟨v, lift h1, h2⟩
      · cases h
    · rename_i n e hk
      split at h
      · rename_i hk2; obtain ⟨v, h1, h2⟩ := indexArrAddr_ok hT hk hk2 h (hr x) (hr i); exact ⟨v, lift h1, h2⟩
      · cases h
    · cases h
  case h_13 t x i =>
    split at h
    · rename_i hk
      obtain ⟨v, h1, h2⟩ := indexStr_ok hT hk h (hr x) (hr i); exact ⟨v, lift h1, h2⟩
    · rename_i n e hk
      split at h
      · rename_i hk2; obtain ⟨v, h1, h2⟩ := indexArr_ok hT hk hk2 h (hr x) (hr i); exact ⟨v, lift h1, h2⟩
      · cases h
    · cases h
  case h_14 t x lo hi =>
    split at h
    · rename_i hk
      obtain ⟨v, h1, h2⟩ := sliceStr_ok hT hk h (hr x) (opt_rel hr lo) (opt_rel hr hi); exact ⟨v, lift h1, h2⟩
    · rename_i e hk
      split at h
      · rename_i hk2; obtain ⟨v, h1, h2⟩ := sliceSl_ok hT hk hk2 h (hr x) (opt_rel hr lo) (opt_rel hr hi); exact ⟨v, lift h1, h2⟩
      · cases h
    · cases h
  case h_15 x i => obtain ⟨v, h1, h2⟩ := extract_ok (P := P) h (hr x); exact ⟨v, lift h1, h2⟩
  case h_16 t ps =>
    have hp := parts_rel hr ps.toList
    have hp' : (ps.map fun (i, x) => (i, ρ x)).toList = ps.toList.map fun p => (p.1, ρ p.2) := by rw [Array.toList_map]
    rw [← hp'] at hp
    split at h
    · rename_i fs hk
      split at h
      · rename_i hall
        split at h
        · rename_i l hl
          obtain ⟨v, h1, h2⟩ := buildS_ok hT hk hall hl h hp; exact ⟨v, lift h1, h2⟩
        · cases h
      · cases h
    · rename_i n e hk
      split at h
      · rename_i hk2
        obtain ⟨v, h1, h2⟩ := buildA_ok hT hk hk2 h hp; exact ⟨v, lift h1, h2⟩
      · cases h
    · cases h
  case h_17 x xt a ok =>
    obtain ⟨v, h1, h2⟩ := assert_ok (P := P) (xt := xt) hT h (hr x); exact ⟨v, lift h1, h2⟩
  case h_18 t x lo hi m =>
    split at h
    · rename_i e hk
      split at h
      · rename_i hk2; obtain ⟨v, h1, h2⟩ := slice3_ok hT hk hk2 h (hr x) (opt_rel hr lo) (opt_rel hr hi) (hr m); exact ⟨v, lift h1, h2⟩
      · cases h
    · cases h
  case h_19 args argTypes =>
    split at h
    · rename_i x t ha ht
      have ea : args = #[x] := Array.toList_inj.1 ha
      have et : argTypes = #[t] := Array.toList_inj.1 ht
      subst ea et
      have run : ∀ {v : Value}, Yld P (Builtin.len_ #[t] type #[ρ x]) v → YldN P (execOp ρ ⟨dst, .call { callee := .builtin .len, args := #[x], argTypes := #[t] }, type, pos, after, guard⟩) v := fun hy w => by
        have := hy w
        simp only [execOp, resolve, Sem.run_bind, Sem.run_pure, Result.andThen_ok, invoke, builtin, List.map_toArray, List.map_cons, List.map_nil]
        rw [this]; rfl
      split at h
      · rename_i hk
        obtain ⟨v, h1, h2⟩ := lenStr_ok (ty := type) hT hk h (hr x); exact ⟨v, run h1, h2⟩
      · rename_i e hk
        obtain ⟨v, h1, h2⟩ := lenSl_ok (ty := type) hT hk h (hr x); exact ⟨v, run h1, h2⟩
      · cases h
    · cases h
  case h_20 b args argTypes _ =>
    obtain ⟨v, h1, h2⟩ := biP_ok hT (ty := type) (cs := args.map (· matches .const _)) h (map_rel hr _)
    refine ⟨v, fun w => ?_, h2⟩
    have := h1 w
    simp only [execOp, resolve, Sem.run_bind, Sem.run_pure, Result.andThen_ok, invoke]
    rw [show (args.toList.map ρ).toArray = args.map ρ from by rw [← Array.toList_map]] at this
    simp only [Array.toArray_toList] at this; exact this
  case h_21 => cases h
end
end Go.Am
