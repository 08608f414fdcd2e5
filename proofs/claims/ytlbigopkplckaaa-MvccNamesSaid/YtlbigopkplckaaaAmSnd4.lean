/- A region that draws its order: what is asked of it, taken apart. -/
import Derived.Test.YtlbigopkplckaaaAmSnd5
namespace Go.Am
open Go

/-! ## what an operation looks at -/
theorem mem_ops1 {x : Operand} {l : Array Operand} : x ∈ l ↔ x ∈ l.toList := by simp
theorem opP_congr {T : Ty} {o : Op} {ρ ρ' : Operand → AV} (h : ∀ x ∈ o.operands, ρ x = ρ' x) : opP T o ρ = opP T o ρ' := by
  have pairs : ∀ ps : Array (Nat × Operand), (∀ x ∈ (ps.toList.map (·.2)).toArray, ρ x = ρ' x) → (ps.toList.map fun p => (p.1, ρ p.2)) = (ps.toList.map fun p => (p.1, ρ' p.2)) := fun ps hp =>
    List.map_congr_left fun p hm => by rw [hp p.2 (by simpa using ⟨p.1, by simpa using hm⟩)]
  unfold opP
  split <;> simp only [Op.operands] at h
  case h_8 fn a b =>
    rw [List.map_congr_left (l := a.toList) (fun x hx => h x (by simp; exact .inl (by simpa using hx))), List.map_congr_left (l := b.toList) (fun x hx => h x (by simp; exact .inr (by simpa using hx)))]
  case h_14 t x lo hi => cases lo <;> cases hi <;> simp_all
  case h_16 t ps => rw [pairs ps h]
  case h_17 args argTypes =>
    cases ha : args.toList with
    | nil => rfl
    | cons x r =>
      have hx : ρ x = ρ' x := h x (by simp [Call.operands]; rw [← Array.mem_toList_iff, ha]; simp)
      cases r <;> cases argTypes.toList with
      | nil => rfl
      | cons t r' => cases r' <;> simp only [hx]
  case h_18 b args argTypes _ =>
    rw [List.map_congr_left fun x hm => h x (by simp [Call.operands]; simpa using hm)]
  case h_19 => rfl
  all_goals simp_all
theorem opR_congr {T : Ty} {o : Op} {ρ ρ' : Operand → AV} {h : H} (hx : ∀ x ∈ o.operands, ρ x = ρ' x) : opR T o ρ h = opR T o ρ' h := by
  unfold opR
  split <;> simp only [Op.operands] at hx
  case h_3 => rfl
  all_goals simp_all
theorem opA_congr {T : Ty} {o : Op} {ρ ρ' : Operand → AV} (h : ∀ x ∈ o.operands, ρ x = ρ' x) : opA T o ρ = opA T o ρ' := by
  have pairs : ∀ ps : Array (Nat × Operand), (∀ x ∈ (ps.toList.map (·.2)).toArray, ρ x = ρ' x) → (ps.toList.map fun p => (p.1, ρ p.2)) = (ps.toList.map fun p => (p.1, ρ' p.2)) := fun ps hp =>
    List.map_congr_left fun p hm => by rw [hp p.2 (by simpa using ⟨p.1, by simpa using hm⟩)]
  unfold opA
  split <;> simp only [Op.operands] at h
  case h_3 t n ps => rw [pairs ps h]
  case h_5 => rfl
  all_goals simp_all
theorem opW_congr {T : Ty} {G : Gam} {o : Op} {ρ ρ' : Operand → AV} {h : H} (hx : ∀ x ∈ o.operands, ρ x = ρ' x) : opW T G o ρ h = opW T G o ρ' h := by
  unfold opW
  split <;> simp only [Op.operands] at hx
  case h_1 => simp_all
  case h_2 args argTypes =>
    have ha : ∀ x ∈ args.toList, ρ x = ρ' x := fun x hm => hx x (by simp [Call.operands]; simpa using hm)
    cases hl : args.toList with
    | nil => rfl
    | cons s r =>
      rw [hl] at ha
      have h1 := ha s (by simp)
      cases r with
      | nil => rfl
      | cons x r' =>
        have h2 := ha x (by simp)
        cases r' with
        | nil => cases argTypes.toList with
          | nil => rfl
          | cons t q => cases q with
            | nil => rfl
            | cons t2 q => cases q with
              | nil => simp only [h1, h2]
              | cons => rfl
        | cons => rfl
  case h_3 b args argTypes _ =>
    rw [List.map_congr_left fun x hm => hx x (by simp [Call.operands]; simpa using hm)]
  case h_4 f args argTypes =>
    have h1 : ρ f = ρ' f := hx f (by simp [Call.operands])
    have h2 : args.toList.map ρ = args.toList.map ρ' := List.map_congr_left fun x hm => hx x (by simp [Call.operands]; exact .inr (by simpa using hm))
    rw [h1, h2]
  case h_5 => rfl
theorem opX_congr {T : Ty} {G : Gam} {o : Op} {ρ ρ' : Operand → AV} {h : H} (hx : ∀ x ∈ o.operands, ρ x = ρ' x) : opX T G o ρ h = opX T G o ρ' h := by
  unfold opX
  rw [opP_congr hx, opR_congr hx, opA_congr hx, opW_congr hx]

/-- only some slots are known -/
noncomputable def evOn (S : List Nat) (env : List AV) : Operand → AV
  | .tmp t => if t ∈ S then env.getD t .junk else .junk
  | x => ev env x
theorem evOn_rel {μ : Mu} {S : List Nat} {env : List AV} {a : Act} (h : ∀ t ∈ S, (env.getD t .junk).rel μ (a.tmps.getD t undef)) : OpsRel μ (evOn S env) a.eval := by
  intro x
  cases x with
  | tmp t =>
    simp only [evOn]; split
    · rename_i ht; exact h t ht
    · simp [AV.rel]
  | const v => exact ofVal_rel v
  | global g => simp [evOn, ev, AV.rel]
  | func f => simp only [evOn, ev, AV.rel, Act.eval]; exact ⟨_, _, rfl, AV.relL_nil.2 rfl, AV.relL_nil.2 rfl⟩
theorem evOn_eq {ops : List Oper} {o : Oper} {env : List AV} : ∀ x ∈ o.op.operands, ev env x = evOn (looks ops o) env x := by
  intro x hx
  cases x with
  | tmp t =>
    have : t ∈ looks ops o := by
      unfold looks
      rw [List.mem_append, List.mem_filterMap]
      exact .inl ⟨.tmp t, by simpa using hx, rfl⟩
    simp only [evOn, this, if_true, ev, lget_eq]
  | _ => rfl
theorem guarded_ok' {μ : Mu} {ops : Array Oper} {o : Oper} {env : List AV} {a : Act} {b : Bool} (h : guarded ops.toList o env = some b) (he : ∀ t ∈ looks ops.toList o, (env.getD t .junk).rel μ (a.tmps.getD t undef)) : Region.wanted o (yielded ops a.tmps) = b := by
  unfold guarded at h
  unfold Region.wanted
  split at h
  · rename_i hg; rw [hg]; injection h
  · rename_i j want hg
    rw [hg]
    split at h
    · rename_i oj hoj
      split at h
      · rename_i d hd
        split at h
        · rename_i b' hb
          injection h with h
          have hd' : d ∈ looks ops.toList o := by
            unfold looks
            rw [List.mem_append]; right
            simp [hg, hoj, hd]
          have := he d hd'
          rw [← lget_eq, hb] at this
          simp only [AV.rel] at this
          have hd2 : a.tmps[d]? = some (.bool b') := by
            rw [Array.getD_eq_getD_getElem?] at this
            cases hx : a.tmps[d]? with
            | none => rw [hx] at this; simp [undef] at this
            | some v => rw [hx] at this; simp at this; rw [this]
          rw [Array.getElem?_toList] at hoj
          have hy : yielded ops a.tmps j = some b' := by simp [yielded, hoj, hd, hd2]
          show (yielded ops a.tmps j == some want) = b
          rw [hy, ← h]
          cases b' <;> cases want <;> rfl
        · cases h
      · cases h
    · cases h

/-! ## ancestors -/
/-- i is in whatever holds what j wants, and with each what that wants -/
def AncOf (L : List Oper) (i j : Nat) : Prop := ∀ D : Nat → Prop, (∀ oj, L[j]? = some oj → ∀ d ∈ deps oj, D d) → (∀ (x : Nat) ox d, D x → L[x]? = some ox → d ∈ deps ox → D d) → D i
theorem maskOf_bit {acc : List Nat} {i : Nat} : ∀ {ds : List Nat}, (maskOf acc ds).testBit i = true → ∃ d ∈ ds, i = d ∨ (acc.getD d 0).testBit i = true
  | [], h => by simp [maskOf] at h
  | d :: r, h => by
    have h' : ((Nat.shiftLeft 1 d ||| acc.getD d 0) ||| maskOf acc r).testBit i = true := h
    rw [Nat.testBit_or, Nat.testBit_or] at h'
    simp only [Bool.or_eq_true] at h'
    rcases h' with (h' | h') | h'
    · refine ⟨d, by simp, .inl ?_⟩
      rw [show Nat.shiftLeft 1 d = 2 ^ d from Nat.one_shiftLeft d, Nat.testBit_two_pow] at h'
      simpa using (of_decide_eq_true h').symm
    · exact ⟨d, by simp, .inr h'⟩
    · obtain ⟨d', hd, hi⟩ := maskOf_bit h'
      exact ⟨d', by simp [hd], hi⟩
theorem masks_ok (L : List Oper) : ∀ (r : List Oper) (acc : List Nat), L.drop acc.length = r → (∀ j i, (acc.getD j 0).testBit i = true → AncOf L i j) → ∀ j i, ((masks r acc).getD j 0).testBit i = true → AncOf L i j
  | [], acc, _, h => h
  | o :: r, acc, hd, h => by
    have ho : L[acc.length]? = some o := by
      have : (L.drop acc.length)[0]? = some o := by rw [hd]; rfl
      simpa using this
    refine masks_ok L r (acc ++ [maskOf acc (deps o)]) (by rw [List.length_append, ← List.drop_drop, hd]; rfl) fun j i hb => ?_
    rcases Nat.lt_trichotomy j acc.length with hj | hj | hj
    · rw [List.getD_eq_getElem?_getD, List.getElem?_append_left hj, ← List.getD_eq_getElem?_getD] at hb
      exact h j i hb
    · subst hj
      rw [List.getD_eq_getElem?_getD, List.getElem?_append_right (Nat.le_refl _)] at hb
      simp at hb
      obtain ⟨d, hdm, hi⟩ := maskOf_bit hb
      intro D h1 h2
      have hDd := h1 o ho d hdm
      rcases hi with rfl | hi
      · exact hDd
      · exact h d i hi D (fun oj hoj d' hd' => h2 d oj d' hDd hoj hd') h2
    · rw [List.getD_eq_getElem?_getD, List.getElem?_eq_none (by simp; omega)] at hb
      simp at hb

/-! ## the same value -/
mutual
theorem same_eq : ∀ (a b : AV), AV.same a b = true → a = b
  | .bool _, b, h => by cases b <;> simp [AV.same] at h <;> simp [h]
  | .int _ _, b, h => by cases b <;> simp [AV.same] at h <;> simp [h]
  | .str _, b, h => by cases b <;> simp [AV.same] at h <;> simp [h]
  | .nilp, b, h => by cases b <;> simp [AV.same] at h <;> rfl
  | .ptr _ _, b, h => by cases b <;> simp [AV.same] at h <;> simp [h]
  | .nils, b, h => by cases b <;> simp [AV.same] at h <;> rfl
  | .slice _ _ _ _ _ _, b, h => by cases b <;> simp [AV.same] at h <;> simp [h]
  | .nilm, b, h => by cases b <;> simp [AV.same] at h <;> rfl
  | .map _, b, h => by cases b <;> simp [AV.same] at h <;> simp [h]
  | .nilf, b, h => by cases b <;> simp [AV.same] at h <;> rfl
  | .nili, b, h => by cases b <;> simp [AV.same] at h <;> rfl
  | .agg as, b, h => by
    cases b <;> simp [AV.same] at h
    rw [sames_eq as _ h]
  | .junk, b, h => by cases b <;> simp [AV.same] at h
  | .func _ _ _, b, h => by cases b <;> simp [AV.same] at h
  | .iface _ _, b, h => by cases b <;> simp [AV.same] at h
  | .tuple _, b, h => by cases b <;> simp [AV.same] at h
theorem sames_eq : ∀ (as bs : List AV), AV.same.sames as bs = true → as = bs
  | [], [], _ => rfl
  | a :: as, b :: bs, h => by
    simp only [AV.same.sames, Bool.and_eq_true] at h
    rw [same_eq a b h.1, sames_eq as bs h.2]
  | [], _ :: _, h => by cases h
  | _ :: _, [], h => by cases h
end
theorem reread_ok {T : Ty} {m : Nat} {h : H} : ∀ {l : List Seen}, reread T m h l = true → ∀ s ∈ l, Nat.testBit m s.i = false → opR T s.op (ev s.env) h = some s.v
  | [], _, s, hs, _ => by cases hs
  | c :: r, e, s, hs, hb => by
    unfold reread at e
    split at e
    · rename_i hc
      cases hs with
      | head => rw [hc] at hb; cases hb
      | tail _ hs => exact reread_ok e s hs hb
    · split at e
      · rename_i v hv
        split at e
        · rename_i hsame
          cases hs with
          | head => rw [hv, same_eq _ _ hsame]
          | tail _ hs => exact reread_ok e s hs hb
        · cases e
      · cases e
end Go.Am
